/- Walks of the functions of the program, and the laws that join them: what the last theorem of this claim needs, in order. -/
import Derived.Test.YtelegnmfhjfbaaaFw5
namespace Go.Proofs.Ytelegnmfhjfbaaa
set_option linter.unusedSimpArgs false
set_option linter.unusedVariables false
open Go
theorem cal38 : cal Try.prog 38 = true := by kernel_rfl
theorem cal39 : cal Try.prog 39 = true := by kernel_rfl
structure Les (d d' : Dsk) : Prop where
  n : d.n = d'.n
  g : d.gangs ≤ d'.gangs
  lasts : ∀ k < d.n, na d.lasts k ≤ na d'.lasts k
theorem Les.next {d d' : Dsk} (h : Les d d') (hd : d.ok) (hd' : d'.ok) {s s' t : HSt} (hs : d.inS s) (hs' : d'.inS s') (hle : ∀ k < d.n, na s k ≤ na s' k) {l : List Nat} (hl : ∀ k ∈ l, k < d.n) (e : d.next s l = some t) : ∃ t', d'.next s' l = some t' ∧ ∀ k < d.n, na t k ≤ na t' k := by
  have hn := h.n
  obtain ⟨_, h2⟩ := d.next_at hd.n.2 hs.len hl e
  have hl' : ∀ k ∈ l, k < d'.n := fun k hk => by have := hl k hk; omega
  have hm : ∀ k < d.n, d.mid s l k ≤ d'.mid s' l k := fun k hk => by
    have h4 := hle k hk
    have h5 := h.lasts k hk
    unfold Dsk.mid
    by_cases h3 : k ∈ l
    · rw [if_pos h3, if_pos h3]; omega
    · rw [if_neg h3, if_neg h3]; exact h4
  obtain ⟨t', ht'⟩ := d'.next_some hd'.n.2 hs'.len hl' (fun k hk => by
    have hk0 : k < d.n := by omega
    have := hm k hk0; have := (h2 k).1 hk0; have := d.inS_mid hd hs l hk0; have := d'.inS_mid hd' hs' l hk; have := (hd.ever k hk0).2.1; have := (hd'.ever k hk).2.1; omega)
  refine ⟨t', ht', fun k hk => ?_⟩
  have hk' : k < d'.n := by omega
  obtain ⟨_, h3⟩ := d'.next_at hd'.n.2 hs'.len hl' ht'
  have a1 := (h2 k).2; have a2 := (h3 k).2
  have := hm k hk
  have b1 := d.inS_mid hd hs l hk; have b2 := d'.inS_mid hd' hs' l hk'
  have := (hd.ever k hk).2.1; have := (hd'.ever k hk').2.1
  rw [a1, a2]
  split <;> split <;> omega
theorem Les.trs {d d' : Dsk} (h : Les d d') {l : List Nat} (hl : l ∈ d.trs false) : l ∈ d'.trs false := by
  obtain ⟨u, hu, rfl, h1, _⟩ := d.mem_trs.1 hl
  have hn := h.n; have hg := h.g
  refine d'.mem_trs.2 ⟨u, by rw [← hn]; exact hu, by rw [← hn], ?_, fun h => by cases h⟩
  unfold Dsk.g at h1 ⊢
  omega
theorem Les.pth {d d' : Dsk} (h : Les d d') (hd : d.ok) (hd' : d'.ok) {s s' : HSt} (hs : d.inS s) (hs' : d'.inS s') (hle : ∀ k < d.n, na s k ≤ na s' k) : ∀ {n : Nat} {t : HSt} {c : Nat}, d.pth n s t c → ∃ t', d'.pth n s' t' c ∧ ∀ k < d.n, na t k ≤ na t' k
  | 0, t, c, hp => by obtain ⟨rfl, rfl⟩ := hp; exact ⟨s', ⟨rfl, rfl⟩, hle⟩
  | n + 1, t, c, hp => by
    obtain ⟨u, a, l, h1, h2, h3, rfl⟩ := hp
    obtain ⟨u', i1, i2⟩ := Les.pth h hd hd' hs hs' hle h1
    obtain ⟨t', j1, j2⟩ := h.next hd hd' (d.pth_inS hd hs h1) (d'.pth_inS hd' hs' i1) i2 (d.trs_lt h2) h3
    exact ⟨t', ⟨u', a, l, i1, h.trs h2, j1, rfl⟩, j2⟩
theorem Les.run {d d' : Dsk} (h : Les d d') (hd : d.ok) (hd' : d'.ok) : ∀ {p : List (List Nat)} {s s' t : HSt}, d.inS s → d'.inS s' → (∀ k < d.n, na s k ≤ na s' k) → (∀ l ∈ p, l ∈ d.trs false) → d.run s p = some t → ∃ t', d'.run s' p = some t' ∧ ∀ k < d.n, na t k ≤ na t' k
  | [], s, s', t, _, _, hle, _, hr => by cases hr; exact ⟨s', rfl, hle⟩
  | l :: p, s, s', t, hs, hs', hle, hp, hr => by
    unfold Dsk.run at hr
    split at hr
    · cases hr
    · rename_i u hu
      obtain ⟨u', j1, j2⟩ := h.next hd hd' hs hs' hle (d.trs_lt (hp l (by simp))) hu
      have hlt := d'.trs_lt (h.trs (hp l (by simp)))
      obtain ⟨t', i1, i2⟩ := Les.run h hd hd' (d.next_inS hd hs (d.trs_lt (hp l (by simp))) hu) (d'.next_inS hd' hs' hlt j1) j2 (fun m hm => hp m (by simp [hm])) hr
      refine ⟨t', ?_, i2⟩
      unfold Dsk.run
      rw [j1]; exact i1
theorem Les.few {d d' : Dsk} (h : Les d d') (hd : d.ok) (hd' : d'.ok) {s s' : HSt} (hs : d.inS s) (hs' : d'.inS s') (hle : ∀ k < d.n, na s k ≤ na s' k) {n c c' : Nat} (hc : FewC d s n c) (hc' : FewC d' s' n c') : c' ≤ c := by
  obtain ⟨t, ht⟩ := hc.is
  obtain ⟨t', i, _⟩ := h.pth hd hd' hs hs' hle ht
  exact hc'.le _ _ i
structure PlnOk (b : Barn) (n c : Nat) (p : List (List Nat)) : Prop where
  few : FewC b.dsk b.state n c
  len : p.length = n
  trs : ∀ l ∈ p, l ∈ b.dsk.trs false
  run : ∃ t, b.dsk.run b.state p = some t
  sum : turnsN p = c
theorem plan_facts {b : Barn} (hok : b.ok) (hck : b.check = 0) {n : Nat} (hn : n ≤ 20) : (planE b n = 6 ∧ turnsV b n = 0 ∧ ¬ ∃ t c, b.dsk.pth n b.state t c) ∨ ∃ (c : Nat) (p : List (List Nat)), planE b n = 0 ∧ turnsV b n = c ∧ planLs b n = p.map il ∧ PlnOk b n c p := by
  have hin : inB (n : Int) 0 20 = true := by simp [inB]; omega
  have he : planE b n = bif (bestT b.dsk (mday b.dsk b.state n) b.dsk.nst).isNone then 6 else 0 := by
    unfold planE; rw [decide_eq_true hck, hin, Int.toNat_natCast]; rfl
  rcases best_few (b.dsk_ok hok) (b.state_inS hok) n with ⟨h1, h2⟩ | ⟨s, c, h1, h2, h3, h4, h5, h6⟩
  · have e6 : planE b n = 6 := by rw [he, h1]; rfl
    exact .inl ⟨e6, by unfold turnsV; rw [e6]; rfl, h2⟩
  · have e0 : planE b n = 0 := by rw [he, h1]; rfl
    refine .inr ⟨c, backP b.dsk b.state n s, e0, by unfold turnsV; rw [e0, Int.toNat_natCast, h1]; rfl, by unfold planLs; rw [Int.toNat_natCast, h1]; rfl, h2, h3, h4, ⟨s, h5⟩, h6⟩
theorem planE_bad {b : Barn} {days : Int} (h : b.check ≠ 0) : planE b days = b.check ∧ turnsV b days = 0 := by
  have e : planE b days = b.check := by unfold planE; rw [decide_eq_false h]; rfl
  refine ⟨e, ?_⟩
  unfold turnsV; rw [e, decide_eq_false h]; rfl
theorem planE_far {b : Barn} {days : Int} (h : b.check = 0) (hd : days < 0 ∨ 20 < days) : planE b days = 3 ∧ turnsV b days = 0 := by
  have e : planE b days = 3 := by unfold planE; rw [decide_eq_true h, show inB days 0 20 = false by simp [inB]; omega]; rfl
  refine ⟨e, ?_⟩
  unfold turnsV; rw [e]; rfl
theorem planE_days {b : Barn} {days : Int} (h : planE b days = 0) : b.check = 0 ∧ 0 ≤ days ∧ days ≤ 20 := by
  by_cases h1 : b.check = 0
  · refine ⟨h1, ?_⟩
    apply Classical.byContradiction
    intro hn
    rw [(planE_far h1 (days := days) (by omega)).1] at h
    exact absurd h (by decide)
  · rw [(planE_bad h1).1] at h; exact absurd h h1
theorem rturn_eq {b : Barn} (hok : b.ok) (hck : b.check = 0) {n : Nat} (hn : n ≤ 20) {m : Int} (h : RTurn b n m) : (m < 0 ∧ planE b n = 6 ∧ turnsV b n = 0) ∨ (0 ≤ m ∧ planE b n = 0 ∧ turnsV b n = m) := by
  rcases plan_facts hok hck hn with ⟨h1, h2, h3⟩ | ⟨c, p, h1, h2, h3, h4⟩
  · rcases h with ⟨rfl, _⟩ | ⟨c, rfl, h5⟩
    · exact .inl ⟨by decide, h1, h2⟩
    · obtain ⟨t, ht⟩ := h5.is; exact absurd ⟨t, c, ht⟩ h3
  · rcases h with ⟨rfl, h5⟩ | ⟨c', rfl, h5⟩
    · obtain ⟨t, ht⟩ := h4.few.is; exact absurd ⟨t, c, ht⟩ h5
    · rw [h5.unique h4.few]; exact .inr ⟨by omega, h1, h2⟩
def lenS (p : List (List Int)) : Nat := (p.map List.length).sum
theorem lenS_il (p : List (List Nat)) : lenS (p.map il) = turnsN p := by
  unfold lenS turnsN
  rw [List.map_map]
  congr 1
  exact List.map_congr_left fun l _ => il_len l
theorem lenS_app (p q : List (List Int)) : lenS (p ++ q) = lenS p + lenS q := by unfold lenS; rw [List.map_append, List.sum_append]
theorem lenS_take {p : List (List Int)} {i : Nat} {l : List Int} (h : p[i]? = some l) : lenS (p.take (i + 1)) = lenS (p.take i) + l.length := by
  rw [take_snoc h, lenS_app]; simp [lenS]
theorem lenS_le (p : List (List Int)) (i : Nat) : lenS (p.take i) ≤ lenS p := by
  have := lenS_app (p.take i) (p.drop i)
  rw [List.take_append_drop] at this
  omega
theorem longP_of {p : List (List Int)} (h : p.length ≤ 24) (hl : ∀ l ∈ p, l.length ≤ 8) : longP p = false := by
  unfold longP
  rw [decide_eq_false (by omega), Bool.false_or, List.any_eq_false]
  intro l hm
  have := hl l hm
  simp; omega
structure PlnLaw (b : Barn) (n : Nat) (c : Int) (p : List (List Int)) : Prop where
  len : p.length = n
  long : longP p = false
  err : planErr b.bins.length b.gangs p = 0
  sum : (lenS p : Int) = c
  burn : brnQ b p = (0, 0, false)
  few : 0 ≤ c ∧ c ≤ 80
theorem PlnOk.law {b : Barn} (hok : b.ok) {n c : Nat} {p : List (List Nat)} (hn : n ≤ 20) (h : PlnOk b n c p) : PlnLaw b n c (p.map il) := by
  have hlt : ∀ l ∈ p, ∀ k ∈ l, k < b.bins.length := fun l hl => b.dsk.trs_lt (h.trs l hl)
  refine ⟨by rw [List.length_map]; exact h.len, longP_of (by rw [List.length_map, h.len]; omega) (fun l hl => ?_), plan_of_trs (d := b.dsk) (by rw [h.len]; omega) h.trs, by rw [lenS_il, h.sum], ?_, ?_⟩
  · obtain ⟨m, hm, rfl⟩ := List.mem_map.1 hl
    have := b.dsk.trs_four (b.dsk_ok hok) (h.trs m hm)
    rw [il_len]; omega
  · obtain ⟨t, ht⟩ := h.run
    rcases Barn.run_burns hok p b.warms 0 (Cool.start hok) hlt with ⟨ws, h1, _⟩ | ⟨x, ws, _, h4⟩
    · exact brn_none (by rw [h1])
    · rw [Barn.stw_warms hok, ht] at h4; cases h4
  · obtain ⟨t, ht⟩ := h.few.is
    have := b.dsk.pth_le (b.dsk_ok hok) ht
    omega
theorem plan_law {b : Barn} {days : Int} (hok : b.ok) (h : planE b days = 0) : PlnLaw b days.toNat (turnsV b days) (planLs b days) := by
  obtain ⟨hck, h0, h1⟩ := planE_days h
  obtain ⟨n, rfl⟩ : ∃ n : Nat, days = n := ⟨days.toNat, by omega⟩
  rw [Int.toNat_natCast]
  rcases plan_facts hok hck (n := n) (by omega) with ⟨h2, _⟩ | ⟨c, p, _, h3, h4, h5⟩
  · rw [h] at h2; exact absurd h2 (by decide)
  · rw [h3, h4]; exact h5.law hok (by omega)
theorem c_HeatFewest (b : Barn) (ab : Option Addr) (cb : Nat) (days : Int) (hl9 : b.bins.length ≤ 4398046511104) (hr : b.rise.length = 6) (H : Heap) (R : Facts) [hB : MemRows ab 4 (brows b.bins) R] :
    Fn Try.prog 5 [b.v (b.sl ab cb), .int .i64 days] H R (fun v H' R' => v = .bool true ∧ H' = H ∧ R' = R) := by
 have hl : b.bins.length ≤ 9223372036854775807 := by omega
 refine fn_of Try.func5 rfl Try.ntmps5 rfl ?_
 refine sy_seq ?_
 refine sy_tx' [0, 1] rfl ?_
 refine bx rfl rfl rfl (fun b2 => ?_)
 refine sp rfl (PE.assign rfl) rfl ?_
 refine sy_seq ?_
 refine sy_seq ?_
 refine sy_tx' [0, 1] rfl ?_
 refine spL rfl rfl (lhA (btl b (b.sl ab cb)) ag25 rfl rfl rfl) rfl ?_
 refine clV rfl cal33 rfl rfl (c_wide b ab cb 80 hl9 hr _ _) ?_
 refine sy_cond rfl (fun hc0 => ?_) (fun hc0 => ?_)
 refine sy_seq ?_
 refine sy_tx' [0, 1] rfl ?_
 refine clV rfl cal18 rfl rfl (c_awake _ _) ?_
 refine sp rfl (PE.assign rfl) rfl ?_
 refine sy_ret ?_
 exact sy_return (vs := [_]) rfl (.cons (RV.tmp rfl) .nil) rfl ⟨rfl, rfl, rfl⟩ (fun w h => by first | exact (((h.del b6).del b5).del b2).facts (fun g hg => by simp [hg]) | exact h.del b2)
 have h8 : ¬ 8 < b.bins.length := by unfold wideV at hc0; rw [Bool.or_eq_false_iff] at hc0; simpa using hc0.1
 refine sy_skip ?_
 refine sy_seq ?_
 refine sy_free [0, 1, 0, 7, 0, 0, 63, 127] [0, 1, 2, 3, 4, 5, 6, 7] mixed (by kernel_rfl) rfl (fun s L H1 R1 => ∃ (a1 : Option Addr) (c1 : Nat) (a2 : Option Addr) (c2 : Nat) (b5 : Nat) (x5 : List Value) (b6 : Nat) (x6 : List Value), Sub [(1, .int .i64 days), (2, .pointer (some ⟨b2, 0, none⟩))] L ∧ (∀ f ∈ (R : Facts), f ∈ R1) ∧ (s 0 = true → lk L 21 = some (b.v (b.sl ab cb))) ∧ (s 1 = true → lk L 22 = some (b.v (b.sl a1 c1)) ∧ (RowsA a1 4 (brows b.bins)) ∈ R1) ∧ (s 2 = true → lk L 23 = some (b.v (b.sl ab cb))) ∧ (s 3 = true → lk L 24 = some (b.v (b.sl a2 c2)) ∧ (RowsA a2 4 (brows b.bins)) ∈ R1) ∧ (s 4 = true → lk L 5 = some (.pointer (some ⟨b5, 0, none⟩)) ∧ (s 6 = false → x5 = [.int .i64 0, .int .i64 0, .int .i64 0, .int .i64 0, .int .i64 0, .int .i64 0, .int .i64 0, .int .i64 0, .slice none 0 0])) ∧ (s 5 = true → lk L 6 = some (.pointer (some ⟨b6, 0, none⟩)) ∧ (s 7 = false → x6 = [.int .i64 0, .int .i64 0, .int .i64 0, .int .i64 0, .int .i64 0, .int .i64 0, .int .i64 0, .int .i64 0, .slice none 0 0])) ∧ (s 6 = true → x5 = btl b (b.sl a1 c1)) ∧ (s 7 = true → x6 = btl b (b.sl a2 c2)) ∧ ∀ w, St H1 R1 w → St ((bif s 5 then [(b6, cel 33 x6)] else []) ++ ((bif s 4 then [(b5, cel 25 x5)] else []) ++ ((b2, cel 25 (btl b (b.sl ab cb))) :: H))) R1 w) ?_ ?_ ?_
 exact ⟨none, 0, none, 0, 0, [], 0, [], (by repeat' first | exact Sub.nil | apply Sub.cons | rfl | (simp [lk]; omega)), fun _ hf => hf, (fun h => by cases (show false = true from h)), (fun h => by cases (show false = true from h)), (fun h => by cases (show false = true from h)), (fun h => by cases (show false = true from h)), (fun h => by cases (show false = true from h)), (fun h => by cases (show false = true from h)), (fun h => by cases (show false = true from h)), (fun h => by cases (show false = true from h)), fun w h => h⟩
 refine ⟨?_, ?_, ?_, ?_, ?_, ?_, ?_, ?_, trivial⟩
 intro s Lz Hz Rz hdn hs hpre hI K hK
 obtain ⟨a1, c1, a2, c2, b5, x5, b6, x6, hL0, hR0, q0, q1, q2, q3, q4, q5, q6, q7, hH⟩ := hI
 refine Sy.heap hH ?_
 refine spL rfl (Sub.lk hL0 _ _ rfl) ((lhA (btl b (b.sl ab cb)) ag25 rfl rfl rfl)) rfl ?_
 exact hK _ _ _ ⟨a1, c1, a2, c2, b5, x5, b6, x6, sub_more rfl hL0, hR0, fun _ => lk_same, fun h => ⟨lk_more rfl (q1 h).1, (q1 h).2⟩, fun h => lk_more rfl (q2 h), fun h => ⟨lk_more rfl (q3 h).1, (q3 h).2⟩, fun h => ⟨lk_more rfl (q4 h).1, (q4 h).2⟩, fun h => ⟨lk_more rfl (q5 h).1, (q5 h).2⟩, fun h => q6 h, fun h => q7 h, fun w h => h⟩
 intro s Lz Hz Rz hdn hs hpre hI K hK
 obtain ⟨a1, c1, a2, c2, b5, x5, b6, x6, hL0, hR0, q0, q1, q2, q3, q4, q5, q6, q7, hH⟩ := hI
 have h0 : s 0 = true := hpre 0 rfl
 refine Sy.heap hH ?_
 haveI m0 : MemRows ab 4 (brows b.bins) Rz := ⟨hR0 _ (inferInstance : MemRows ab 4 (brows b.bins) (R)).mem⟩
 refine cl rfl cal19 rfl (by simp only [evs, show ev Lz (.tmp 21) = _ from (q0 h0)]) (c_OwnF b ab cb (by omega) _ _) ?_
 rintro _ _ R1 ⟨a1, c1, rfl, rfl, hR1⟩
 obtain rfl := hR1.symm
 clear hR1
 exact hK _ _ _ ⟨a1, c1, a2, c2, b5, x5, b6, x6, sub_more rfl hL0, fin_more (hR0), fun h => lk_more rfl (q0 h), fun _ => ⟨lk_same, (by simp)⟩, fun h => lk_more rfl (q2 h), fun h => ⟨lk_more rfl (q3 h).1, List.mem_cons_of_mem _ ((q3 h).2)⟩, fun h => ⟨lk_more rfl (q4 h).1, (q4 h).2⟩, fun h => ⟨lk_more rfl (q5 h).1, (q5 h).2⟩, fun h => absurd (hdn 6 1 (Nat.le_of_ble_eq_true rfl) rfl h) (by rw [hs]; exact Bool.false_ne_true), fun h => q7 h, fun w h => h⟩
 intro s Lz Hz Rz hdn hs hpre hI K hK
 obtain ⟨a1, c1, a2, c2, b5, x5, b6, x6, hL0, hR0, q0, q1, q2, q3, q4, q5, q6, q7, hH⟩ := hI
 refine Sy.heap hH ?_
 refine spL rfl (Sub.lk hL0 _ _ rfl) ((lhA (btl b (b.sl ab cb)) ag25 rfl rfl rfl)) rfl ?_
 exact hK _ _ _ ⟨a1, c1, a2, c2, b5, x5, b6, x6, sub_more rfl hL0, hR0, fun h => lk_more rfl (q0 h), fun h => ⟨lk_more rfl (q1 h).1, (q1 h).2⟩, fun _ => lk_same, fun h => ⟨lk_more rfl (q3 h).1, (q3 h).2⟩, fun h => ⟨lk_more rfl (q4 h).1, (q4 h).2⟩, fun h => ⟨lk_more rfl (q5 h).1, (q5 h).2⟩, fun h => q6 h, fun h => q7 h, fun w h => h⟩
 intro s Lz Hz Rz hdn hs hpre hI K hK
 obtain ⟨a1, c1, a2, c2, b5, x5, b6, x6, hL0, hR0, q0, q1, q2, q3, q4, q5, q6, q7, hH⟩ := hI
 obtain ⟨h0, h1, h2⟩ : s 0 = true ∧ s 1 = true ∧ s 2 = true := ⟨hpre 0 rfl, hpre 1 rfl, hpre 2 rfl⟩
 refine Sy.heap hH ?_
 haveI m0 : MemRows ab 4 (brows b.bins) Rz := ⟨hR0 _ (inferInstance : MemRows ab 4 (brows b.bins) (R)).mem⟩
 refine cl rfl cal20 rfl (by simp only [evs, show ev Lz (.tmp 23) = _ from (q2 h2)]) (c_theirs b ab cb (by omega) _ _) ?_
 rintro _ _ R1 ⟨a2, c2, rfl, rfl, hR1⟩
 obtain rfl := hR1.symm
 clear hR1
 exact hK _ _ _ ⟨a1, c1, a2, c2, b5, x5, b6, x6, sub_more rfl hL0, fin_more (hR0), fun h => lk_more rfl (q0 h), fun h => ⟨lk_more rfl (q1 h).1, List.mem_cons_of_mem _ ((q1 h).2)⟩, fun h => lk_more rfl (q2 h), fun _ => ⟨lk_same, (by simp)⟩, fun h => ⟨lk_more rfl (q4 h).1, (q4 h).2⟩, fun h => ⟨lk_more rfl (q5 h).1, (q5 h).2⟩, fun h => q6 h, fun h => absurd (hdn 7 3 (Nat.le_of_ble_eq_true rfl) rfl h) (by rw [hs]; exact Bool.false_ne_true), fun w h => h⟩
 intro s Lz Hz Rz hdn hs hpre hI K hK
 obtain ⟨a1, c1, a2, c2, b5, x5, b6, x6, hL0, hR0, q0, q1, q2, q3, q4, q5, q6, q7, hH⟩ := hI
 refine Sy.heap hH ?_
 refine alc rfl zl25 rfl (fun b5 => ?_)
 exact hK _ _ _ ⟨a1, c1, a2, c2, b5, [.int .i64 0, .int .i64 0, .int .i64 0, .int .i64 0, .int .i64 0, .int .i64 0, .int .i64 0, .int .i64 0, .slice none 0 0], b6, x6, sub_more rfl hL0, hR0, fun h => lk_more rfl (q0 h), fun h => ⟨lk_more rfl (q1 h).1, (q1 h).2⟩, fun h => lk_more rfl (q2 h), fun h => ⟨lk_more rfl (q3 h).1, (q3 h).2⟩, fun _ => ⟨lk_same, fun _ => rfl⟩, fun h => ⟨lk_more rfl (q5 h).1, (q5 h).2⟩, fun h => absurd (hdn 6 4 (Nat.le_of_ble_eq_true rfl) rfl h) (by rw [hs]; exact Bool.false_ne_true), fun h => q7 h, fun w h => by rw [hs] at h; exact h.perm (List.perm_middle.symm.trans (List.Perm.append_left _ (.refl _)))⟩
 intro s Lz Hz Rz hdn hs hpre hI K hK
 obtain ⟨a1, c1, a2, c2, b5, x5, b6, x6, hL0, hR0, q0, q1, q2, q3, q4, q5, q6, q7, hH⟩ := hI
 refine Sy.heap hH ?_
 refine alc rfl zl33 rfl (fun b6 => ?_)
 exact hK _ _ _ ⟨a1, c1, a2, c2, b5, x5, b6, [.int .i64 0, .int .i64 0, .int .i64 0, .int .i64 0, .int .i64 0, .int .i64 0, .int .i64 0, .int .i64 0, .slice none 0 0], sub_more rfl hL0, hR0, fun h => lk_more rfl (q0 h), fun h => ⟨lk_more rfl (q1 h).1, (q1 h).2⟩, fun h => lk_more rfl (q2 h), fun h => ⟨lk_more rfl (q3 h).1, (q3 h).2⟩, fun h => ⟨lk_more rfl (q4 h).1, (q4 h).2⟩, fun _ => ⟨lk_same, fun _ => rfl⟩, fun h => q6 h, fun h => absurd (hdn 7 5 (Nat.le_of_ble_eq_true rfl) rfl h) (by rw [hs]; exact Bool.false_ne_true), fun w h => by rw [hs] at h; exact h.perm (.refl _)⟩
 intro s Lz Hz Rz hdn hs hpre hI K hK
 obtain ⟨a1, c1, a2, c2, b5, x5, b6, x6, hL0, hR0, q0, q1, q2, q3, q4, q5, q6, q7, hH⟩ := hI
 obtain ⟨h0, h1, h2, h3, h4, h5⟩ : s 0 = true ∧ s 1 = true ∧ s 2 = true ∧ s 3 = true ∧ s 4 = true ∧ s 5 = true := ⟨hpre 0 rfl, hpre 1 rfl, hpre 2 rfl, hpre 3 rfl, hpre 4 rfl, hpre 5 rfl⟩
 refine Sy.heap hH ?_
 obtain rfl := (q4 h4).2 hs
 refine Sy.heap (H' := (bif s 5 then [(b6, cel 33 x6)] else []) ++ ((b5, cel 25 [.int .i64 0, .int .i64 0, .int .i64 0, .int .i64 0, .int .i64 0, .int .i64 0, .int .i64 0, .int .i64 0, .slice none 0 0]) :: ((b2, cel 25 (btl b (b.sl ab cb))) :: H))) (fun w h => by rw [h4] at h; exact h) ?_
 refine stoE (l' := btl b (b.sl a1 c1)) rfl (q4 h4).1 (q1 h1).1 cn25 rfl rfl rfl rfl (Nat.le_refl _) ?_
 exact hK _ _ _ ⟨a1, c1, a2, c2, b5, btl b (b.sl a1 c1), b6, x6, hL0, hR0, fun h => (q0 h), fun h => ⟨(q1 h).1, (q1 h).2⟩, fun h => (q2 h), fun h => ⟨(q3 h).1, (q3 h).2⟩, fun h => ⟨(q4 h).1, fun h => by cases (show true = false from h)⟩, fun h => ⟨(q5 h).1, (q5 h).2⟩, fun _ => rfl, fun h => q7 h, fun w h => by show St ((bif s 5 then [(b6, cel 33 x6)] else []) ++ ((bif s 4 then [(b5, cel 25 (btl b (b.sl a1 c1)))] else []) ++ ((b2, cel 25 (btl b (b.sl ab cb))) :: H))) Rz w; rw [h4]; exact h⟩
 intro s Lz Hz Rz hdn hs hpre hI K hK
 obtain ⟨a1, c1, a2, c2, b5, x5, b6, x6, hL0, hR0, q0, q1, q2, q3, q4, q5, q6, q7, hH⟩ := hI
 obtain ⟨h0, h1, h2, h3, h4, h5, h6⟩ : s 0 = true ∧ s 1 = true ∧ s 2 = true ∧ s 3 = true ∧ s 4 = true ∧ s 5 = true ∧ s 6 = true := ⟨hpre 0 rfl, hpre 1 rfl, hpre 2 rfl, hpre 3 rfl, hpre 4 rfl, hpre 5 rfl, hpre 6 rfl⟩
 refine Sy.heap hH ?_
 obtain rfl := (q5 h5).2 hs
 refine Sy.heap (H' := (b6, cel 33 [.int .i64 0, .int .i64 0, .int .i64 0, .int .i64 0, .int .i64 0, .int .i64 0, .int .i64 0, .int .i64 0, .slice none 0 0]) :: ((bif s 4 then [(b5, cel 25 x5)] else []) ++ ((b2, cel 25 (btl b (b.sl ab cb))) :: H))) (fun w h => by rw [h5] at h; exact h) ?_
 refine stoE (l' := btl b (b.sl a2 c2)) rfl (q5 h5).1 (q3 h3).1 cn33 rfl rfl rfl rfl (Nat.le_refl _) ?_
 exact hK _ _ _ ⟨a1, c1, a2, c2, b5, x5, b6, btl b (b.sl a2 c2), hL0, hR0, fun h => (q0 h), fun h => ⟨(q1 h).1, (q1 h).2⟩, fun h => (q2 h), fun h => ⟨(q3 h).1, (q3 h).2⟩, fun h => ⟨(q4 h).1, (q4 h).2⟩, fun h => ⟨(q5 h).1, fun h => by cases (show true = false from h)⟩, fun h => q6 h, fun _ => rfl, fun w h => by show St ((bif s 5 then [(b6, cel 33 (btl b (b.sl a2 c2)))] else []) ++ ((bif s 4 then [(b5, cel 25 x5)] else []) ++ ((b2, cel 25 (btl b (b.sl ab cb))) :: H))) Rz w; rw [h5]; exact h⟩
 intro Lz Hz Rz hI
 obtain ⟨a1, c1, a2, c2, b5, x5, b6, x6, hL0, hR0, q0, q1, q2, q3, q4, q5, q6, q7, hH⟩ := hI
 obtain rfl := q7 rfl
 obtain rfl := q6 rfl
 refine Sy.weak (L' := [(6, .pointer (some ⟨b6, 0, none⟩)), (5, .pointer (some ⟨b5, 0, none⟩)), (1, .int .i64 days), (2, .pointer (some ⟨b2, 0, none⟩))]) (H' := (b6, cel 33 (btl b (b.sl a2 c2))) :: (b5, cel 25 (btl b (b.sl a1 c1))) :: (b2, cel 25 (btl b (b.sl ab cb))) :: H) (R' := RowsA a2 4 (brows b.bins) :: RowsA a1 4 (brows b.bins) :: R) ?_ (Sub.cons (q5 rfl).1 (Sub.cons (q4 rfl).1 hL0)).lk (fun w h => St.facts (hH w h) (fin_cons (q3 rfl).2 (fin_cons (q1 rfl).2 hR0)))
 refine sy_seq ?_
 refine sy_tx' [0, 1, 2] rfl ?_
 refine spL rfl rfl (lhA (btl b (b.sl a2 c2)) ag33 rfl rfl rfl) rfl ?_
 refine clV rfl cal22 rfl rfl (c_rCheck b a2 c2 hl hr _ _) ?_
 refine sp rfl (PE.assign rfl) rfl ?_
 refine sy_seq ?_
 refine sy_tx' [0] rfl ?_
 refine sp rfl (PE.assign rfl) rfl ?_
 refine sy_seq ?_
 refine sy_seq ?_
 refine sy_tx' [0, 1] rfl ?_
 refine sp rfl (PE.move rfl) rfl ?_
 refine sp rfl (PE.eql rfl rfl) rfl ?_
 refine sy_join (ι := Unit) (fun _ => ⟨[(1, .int .i64 days), (2, .pointer (some ⟨b2, 0, none⟩)), (5, .pointer (some ⟨b5, 0, none⟩)), (6, .pointer (some ⟨b6, 0, none⟩)), (7, .int .i64 (planE b days)), (8, .int .i64 (turnsV b days))], (b6, cel 33 (btl b (b.sl a2 c2))) :: (b5, cel 25 (btl b (b.sl a1 c1))) :: (b2, cel 25 (btl b (b.sl ab cb))) :: H, RowsA a2 4 (brows b.bins) :: RowsA a1 4 (brows b.bins) :: R⟩) ?_ ?_
 refine sy_cond rfl (fun hc1 => ?_) (fun hc1 => ?_)
 try simp only [decide_eq_true_eq, decide_eq_false_iff_not, Bool.and_eq_true, Bool.or_eq_true, Bool.not_eq_true', Int.not_le, Int.not_lt] at hc1
 have hck : b.check = 0 := hc1
 have hok := Barn.ok_of hr hck
 have hmn := hok.many
 rw [hck]
 refine sy_block ?_
 refine sy_seq ?_
 refine sy_tx' [0, 1, 2, 3, 4, 5, 6] rfl ?_
 refine sp rfl (PE.move rfl) rfl ?_
 refine sp rfl (PE.lss rfl rfl) rfl ?_
 refine sp rfl (PE.move rfl) rfl ?_
 refine sy_case (t := 37) rfl (fun g37 => ?_) (fun g37 => ?_)
 try simp only [decide_eq_true_eq, decide_eq_false_iff_not, Bool.and_eq_true, Bool.or_eq_true, Bool.not_eq_true', Int.not_le, Int.not_lt] at g37
 repeat refine spN rfl rfl rfl rfl rfl rfl rfl rfl ?_
 refine sp rfl (PE.pick rfl rfl rfl) rfl ?_
 refine sp rfl (PE.assign rfl) rfl ?_
 refine sy_condT rfl ?_
 refine sy_tx' [0] rfl ?_
 obtain ⟨e3, e0⟩ := planE_far hck (days := days) (by omega)
 refine sp rfl (PE.assign rfl) rfl ?_
 first | exact sy_jend () (by dsimp only; rw [e3, e0]; exact (by repeat' first | exact Sub.nil | apply Sub.cons | rfl | (simp [lk]; omega))) (fun w h => h) | exact sy_bn (sy_jend () (by dsimp only; rw [e3, e0]; exact (by repeat' first | exact Sub.nil | apply Sub.cons | rfl | (simp [lk]; omega))) (fun w h => h))
 try simp only [decide_eq_true_eq, decide_eq_false_iff_not, Bool.and_eq_true, Bool.or_eq_true, Bool.not_eq_true', Int.not_le, Int.not_lt] at g37
 refine spG rfl rfl rfl rfl (PE.move rfl) rfl ?_
 refine spG rfl rfl rfl rfl (PE.gtr rfl rfl) rfl ?_
 refine sp rfl (PE.pick rfl rfl rfl) rfl ?_
 refine sp rfl (PE.assign rfl) rfl ?_
 refine sy_cond rfl (fun hc2 => ?_) (fun hc2 => ?_)
 try simp only [decide_eq_true_eq, decide_eq_false_iff_not, Bool.and_eq_true, Bool.or_eq_true, Bool.not_eq_true', Int.not_le, Int.not_lt] at hc2
 refine sy_tx' [0] rfl ?_
 obtain ⟨e3, e0⟩ := planE_far hck (days := days) (by omega)
 refine sp rfl (PE.assign rfl) rfl ?_
 first | exact sy_jend () (by dsimp only; rw [e3, e0]; exact (by repeat' first | exact Sub.nil | apply Sub.cons | rfl | (simp [lk]; omega))) (fun w h => h) | exact sy_bn (sy_jend () (by dsimp only; rw [e3, e0]; exact (by repeat' first | exact Sub.nil | apply Sub.cons | rfl | (simp [lk]; omega))) (fun w h => h))
 try simp only [decide_eq_true_eq, decide_eq_false_iff_not, Bool.and_eq_true, Bool.or_eq_true, Bool.not_eq_true', Int.not_le, Int.not_lt] at hc2
 obtain ⟨n, hdn⟩ : ∃ n : Nat, days = n := ⟨days.toNat, by omega⟩
 have hn20 : n ≤ 20 := by omega
 subst hdn
 refine sy_seq ?_
 refine sy_tx' [0, 1, 2, 3] rfl ?_
 refine spL rfl rfl (lhA (btl b (b.sl a2 c2)) ag33 rfl rfl rfl) rfl ?_
 refine sp rfl (PE.move rfl) rfl ?_
 refine cl rfl cal38 rfl rfl (c_rTurnings b a2 c2 hok n hn20 _ _) ?_
 rintro _ _ _ ⟨⟨m, hm, rfl⟩, rfl, rfl⟩
 refine sp rfl (PE.assign rfl) rfl ?_
 refine sy_seq ?_
 refine sy_tx' [0, 1] rfl ?_
 refine sp rfl (PE.move rfl) rfl ?_
 refine sp rfl (PE.lss rfl rfl) rfl ?_
 refine sy_cond rfl (fun hc3 => ?_) (fun hc3 => ?_)
 try simp only [decide_eq_true_eq, decide_eq_false_iff_not, Bool.and_eq_true, Bool.or_eq_true, Bool.not_eq_true', Int.not_le, Int.not_lt] at hc3
 obtain ⟨e3, e0⟩ : planE b n = 6 ∧ turnsV b n = 0 := by
   rcases rturn_eq hok hck hn20 hm with ⟨_, h2, h3⟩ | ⟨h1, _, _⟩
   · exact ⟨h2, h3⟩
   · omega
 refine sy_tx' [0, 1] rfl ?_
 refine sp rfl (PE.assign rfl) rfl ?_
 refine sp rfl (PE.assign rfl) rfl ?_
 first | exact sy_jend () (by dsimp only; rw [e3, e0]; exact (by repeat' first | exact Sub.nil | apply Sub.cons | rfl | (simp [lk]; omega))) (fun w h => h) | exact sy_bn (sy_jend () (by dsimp only; rw [e3, e0]; exact (by repeat' first | exact Sub.nil | apply Sub.cons | rfl | (simp [lk]; omega))) (fun w h => h))
 try simp only [decide_eq_true_eq, decide_eq_false_iff_not, Bool.and_eq_true, Bool.or_eq_true, Bool.not_eq_true', Int.not_le, Int.not_lt] at hc3
 obtain ⟨e3, e0⟩ : planE b n = 0 ∧ turnsV b n = m := by
   rcases rturn_eq hok hck hn20 hm with ⟨h1, _, _⟩ | ⟨_, h2, h3⟩
   · omega
   · exact ⟨h2, h3⟩
 refine sy_skip ?_
 first | exact sy_jend () (by dsimp only; rw [e3, e0]; exact (by repeat' first | exact Sub.nil | apply Sub.cons | rfl | (simp [lk]; omega))) (fun w h => h) | exact sy_bn (sy_jend () (by dsimp only; rw [e3, e0]; exact (by repeat' first | exact Sub.nil | apply Sub.cons | rfl | (simp [lk]; omega))) (fun w h => h))
 try simp only [decide_eq_true_eq, decide_eq_false_iff_not, Bool.and_eq_true, Bool.or_eq_true, Bool.not_eq_true', Int.not_le, Int.not_lt] at hc1
 obtain ⟨e3, e0⟩ := planE_bad (days := days) hc1
 refine sy_skip ?_
 first | exact sy_jend () (by dsimp only; rw [e3, e0]; exact (by repeat' first | exact Sub.nil | apply Sub.cons | rfl | (simp [lk]; omega))) (fun w h => h) | exact sy_bn (sy_jend () (by dsimp only; rw [e3, e0]; exact (by repeat' first | exact Sub.nil | apply Sub.cons | rfl | (simp [lk]; omega))) (fun w h => h))
 rintro ⟨⟩
 refine sy_seq ?_
 refine sy_tx' [0, 1, 2, 3, 4, 5, 6, 7] rfl ?_
 refine spL rfl rfl (lhA (btl b (b.sl a1 c1)) ag25 rfl rfl rfl) rfl ?_
 refine sp rfl (PE.move rfl) rfl ?_
 refine cl rfl cal39 rfl rfl (c_Plan b a1 c1 hl hr days _ _) ?_
 rintro _ _ R1 ⟨rfl, (⟨hpe, rfl, hR1⟩ | ⟨hpe, pl, bp, hpl, rfl, hR1⟩)⟩ <;> obtain rfl := hR1.symm <;> clear hR1
 refine sp rfl (PE.move rfl) rfl ?_
 refine sp rfl (PE.extract rfl rfl) rfl ?_
 refine sp rfl (PE.extract rfl rfl) rfl ?_
 refine sp rfl (PE.assign rfl) rfl ?_
 refine sp rfl (PE.assign rfl) rfl ?_
 refine sy_seq ?_
 refine sy_tx' [0, 1, 2, 3, 4, 5, 6, 7] rfl ?_
 refine spL rfl rfl (lhA (btl b (b.sl a1 c1)) ag25 rfl rfl rfl) rfl ?_
 refine sp rfl (PE.move rfl) rfl ?_
 refine clV rfl cal40 rfl rfl (c_Turnings b a1 c1 hl hr days _ _) ?_
 refine sp rfl (PE.move rfl) rfl ?_
 refine sp rfl (PE.extract rfl rfl) rfl ?_
 refine sp rfl (PE.extract rfl rfl) rfl ?_
 refine sp rfl (PE.assign rfl) rfl ?_
 refine sp rfl (PE.assign rfl) rfl ?_
 refine sy_seq ?_
 refine sy_seq ?_
 refine sy_tx' [0, 1, 2, 3, 4, 5, 6, 7, 8, 9, 10, 11, 12] rfl ?_
 refine sp rfl (PE.move rfl) rfl ?_
 refine sp rfl (PE.move rfl) rfl ?_
 refine sp rfl (PE.neq rfl rfl) rfl ?_
 refine sp rfl (PE.move rfl) rfl ?_
 refine sy_case (t := 56) rfl (fun g56 => ?_) (fun g56 => ?_)
 exact absurd g56 (by simp)
 refine spG rfl rfl rfl rfl (PE.move rfl) rfl ?_
 refine spG rfl rfl rfl rfl (PE.move rfl) rfl ?_
 refine spG rfl rfl rfl rfl (PE.neq rfl rfl) rfl ?_
 refine sp rfl (PE.pick rfl rfl rfl) rfl ?_
 refine sp rfl (PE.move rfl) rfl ?_
 refine sy_case (t := 61) rfl (fun g61 => ?_) (fun g61 => ?_)
 exact absurd g61 (by simp)
 refine spG rfl rfl rfl rfl (PE.move rfl) rfl ?_
 refine spG rfl rfl rfl rfl (PE.move rfl) rfl ?_
 refine spG rfl rfl rfl rfl (PE.neq rfl rfl) rfl ?_
 refine sp rfl (PE.pick rfl rfl rfl) rfl ?_
 refine sy_cond rfl (fun hc4 => ?_) (fun hc4 => ?_)
 exact absurd hc4 (by simp)
 refine sy_skip ?_
 refine sy_seq ?_
 refine sy_seq ?_
 refine sy_tx' [0, 1] rfl ?_
 refine sp rfl (PE.move rfl) rfl ?_
 refine sp rfl (PE.neq rfl rfl) rfl ?_
 refine sy_cond rfl (fun hc5 => ?_) (fun hc5 => ?_)
 refine sy_seq ?_
 refine sy_tx' [0, 1, 2, 3, 4, 5, 6, 7, 8, 9, 10, 11] rfl ?_
 refine sp rfl (PE.move rfl) rfl ?_
 refine sp rfl (PE.lenSl isl26 rfl) rfl ?_
 refine sp rfl (PE.eql rfl rfl) rfl ?_
 refine sp rfl (PE.move rfl) rfl ?_
 refine sy_case (t := 71) rfl (fun g71 => ?_) (fun g71 => ?_)
 refine spLG rfl rfl rfl rfl rfl (lhA (btl b (b.sl a1 c1)) ag25 rfl rfl rfl) rfl ?_
 refine spLG rfl rfl rfl rfl rfl (lhA (btl b (b.sl ab cb)) ag25 rfl rfl rfl) rfl ?_
 refine clVG rfl rfl rfl rfl cal31 rfl rfl (c_same b a1 c1 b ab cb hl hl hr hr _ _) ?_
 refine sp rfl (PE.pick rfl rfl rfl) rfl ?_
 refine sp rfl (PE.move rfl) rfl ?_
 refine sy_case (t := 76) rfl (fun g76 => ?_) (fun g76 => ?_)
 refine clVG rfl rfl rfl rfl cal18 rfl rfl (c_awake _ _) ?_
 refine sp rfl (PE.pick rfl rfl rfl) rfl ?_
 refine sp rfl (PE.assign rfl) rfl ?_
 refine sy_ret ?_
 exact sy_return (vs := [_]) rfl (.cons (RV.tmp rfl) .nil) rfl ⟨rfl, rfl, rfl⟩ (fun w h => by first | exact (((h.del b6).del b5).del b2).facts (fun g hg => by simp [hg]) | exact h.del b2)
 rw [sameB_iff.2 rfl] at g76; exact absurd g76 (by decide)
 exact absurd g71 (by simp)
 exact absurd hpe (by simpa using hc5)
 obtain ⟨hck, h0, h20⟩ := planE_days hpe
 have hok := Barn.ok_of hr hck
 have hlaw := plan_law hok hpe
 rw [← hpl] at hlaw
 have hpn := hlaw.len
 rw [lls_len] at hpn
 obtain rfl : days = (pl.length : Int) := by omega
 rw [Int.toNat_natCast]
 have hpi : ∀ x ∈ pl, x.l.length ≤ 9223372036854775807 := fun x hx => by have := (longP_no hlaw.long).2 x.l (List.mem_map.2 ⟨x, hx, rfl⟩); omega
 have hplz : planErr (b.bins.length : Int) b.gangs (lls pl) = 0 := hlaw.err
 have hpb := hlaw.burn
 have hfw := hlaw.few
 have hsm := hlaw.sum
 rw [hpe]
 refine sp rfl (PE.move rfl) rfl ?_
 refine sp rfl (PE.extract rfl rfl) rfl ?_
 refine sp rfl (PE.extract rfl rfl) rfl ?_
 refine sp rfl (PE.assign rfl) rfl ?_
 refine sp rfl (PE.assign rfl) rfl ?_
 refine sy_seq ?_
 refine sy_tx' [0, 1, 2, 3, 4, 5, 6, 7] rfl ?_
 refine spL rfl rfl (lhA (btl b (b.sl a1 c1)) ag25 rfl rfl rfl) rfl ?_
 refine sp rfl (PE.move rfl) rfl ?_
 refine clV rfl cal40 rfl rfl (c_Turnings b a1 c1 hl hr (pl.length : Int) _ _) ?_
 refine sp rfl (PE.move rfl) rfl ?_
 rw [hpe]
 refine sp rfl (PE.extract rfl rfl) rfl ?_
 refine sp rfl (PE.extract rfl rfl) rfl ?_
 refine sp rfl (PE.assign rfl) rfl ?_
 refine sp rfl (PE.assign rfl) rfl ?_
 refine sy_seq ?_
 refine sy_seq ?_
 refine sy_tx' [0, 1, 2, 3, 4, 5, 6, 7, 8, 9, 10, 11, 12] rfl ?_
 refine sp rfl (PE.move rfl) rfl ?_
 refine sp rfl (PE.move rfl) rfl ?_
 refine sp rfl (PE.neq rfl rfl) rfl ?_
 refine sp rfl (PE.move rfl) rfl ?_
 refine sy_case (t := 56) rfl (fun g56 => ?_) (fun g56 => ?_)
 exact absurd g56 (by simp)
 refine spG rfl rfl rfl rfl (PE.move rfl) rfl ?_
 refine spG rfl rfl rfl rfl (PE.move rfl) rfl ?_
 refine spG rfl rfl rfl rfl (PE.neq rfl rfl) rfl ?_
 refine sp rfl (PE.pick rfl rfl rfl) rfl ?_
 refine sp rfl (PE.move rfl) rfl ?_
 refine sy_case (t := 61) rfl (fun g61 => ?_) (fun g61 => ?_)
 exact absurd g61 (by simp)
 refine spG rfl rfl rfl rfl (PE.move rfl) rfl ?_
 refine spG rfl rfl rfl rfl (PE.move rfl) rfl ?_
 refine spG rfl rfl rfl rfl (PE.neq rfl rfl) rfl ?_
 refine sp rfl (PE.pick rfl rfl rfl) rfl ?_
 refine sy_cond rfl (fun hc4 => ?_) (fun hc4 => ?_)
 exact absurd hc4 (by simp)
 refine sy_skip ?_
 refine sy_seq ?_
 refine sy_seq ?_
 refine sy_tx' [0, 1] rfl ?_
 refine sp rfl (PE.move rfl) rfl ?_
 refine sp rfl (PE.neq rfl rfl) rfl ?_
 refine sy_cond rfl (fun hc5 => ?_) (fun hc5 => ?_)
 exact absurd hc5 (by simp)
 refine sy_skip ?_
 refine sy_seq ?_
 refine sy_seq ?_
 refine sy_tx' [0, 1, 2, 3, 4, 5, 6, 7, 8, 9, 10, 11, 12, 13] rfl ?_
 refine sp rfl (PE.move rfl) rfl ?_
 refine sp rfl (PE.lenSl isl26 rfl) rfl ?_
 refine sp rfl (PE.move rfl) rfl ?_
 refine sp rfl (PE.neq rfl rfl) rfl ?_
 refine sp rfl (PE.move rfl) rfl ?_
 refine sy_case (t := 83) rfl (fun g83 => ?_) (fun g83 => ?_)
 exact absurd g83 (by simp)
 refine spG rfl rfl rfl rfl (PE.move rfl) rfl ?_
 refine clVG rfl rfl rfl rfl cal17 rfl rfl (c_long pl (some ⟨bp, 0, none⟩) pl.length (by omega) hpi _ _) ?_
 refine sp rfl (PE.pick rfl rfl rfl) rfl ?_
 refine sp rfl (PE.move rfl) rfl ?_
 refine sy_case (t := 87) rfl (fun g87 => ?_) (fun g87 => ?_)
 rw [hlaw.long] at g87; exact absurd g87 (by decide)
 refine spLG rfl rfl rfl rfl rfl (lhA (btl b (b.sl a2 c2)) ag33 rfl rfl rfl) rfl ?_
 refine spG rfl rfl rfl rfl (PE.move rfl) rfl ?_
 refine clVG rfl rfl rfl rfl cal23 rfl rfl (c_rPlanned b a2 c2 hl pl (some ⟨bp, 0, none⟩) pl.length (by omega) hpi _ _) ?_
 rw [hplz]
 refine spG rfl rfl rfl rfl (PE.neq rfl rfl) rfl ?_
 refine sp rfl (PE.pick rfl rfl rfl) rfl ?_
 refine sy_cond rfl (fun hc6 => ?_) (fun hc6 => ?_)
 exact absurd hc6 (by simp)
 refine sy_skip ?_
 refine sy_seq ?_
 refine sy_seq ?_
 refine sy_tx' [0, 1, 2] rfl ?_
 refine sp rfl (PE.move rfl) rfl ?_
 refine sp rfl (PE.lenSl isl26 rfl) rfl ?_
 refine sp rfl (PE.move rfl) rfl ?_
 refine sy_block ?_
 refine sy_loop (ι := {i : Nat // i ≤ pl.length}) (fun i => ⟨[(1, .int .i64 (pl.length : Int)), (2, .pointer (some ⟨b2, 0, none⟩)), (5, .pointer (some ⟨b5, 0, none⟩)), (6, .pointer (some ⟨b6, 0, none⟩)), (9, .slice (some ⟨bp, 0, none⟩) pl.length pl.length), (8, .int .i64 (turnsV b (pl.length : Int) - (lenS ((lls pl).take i.1) : Int))), (93, .slice (some ⟨bp, 0, none⟩) pl.length pl.length), (94, .int .i64 pl.length), (95, .int .i64 i.1)], (b6, cel 33 (btl b (b.sl a2 c2))) :: (b5, cel 25 (btl b (b.sl a1 c1))) :: (b2, cel 25 (btl b (b.sl ab cb))) :: H, RowsA (some ⟨bp, 0, none⟩) 1 (plrows pl) :: Inn pl :: RowsA a2 4 (brows b.bins) :: RowsA a1 4 (brows b.bins) :: R⟩) (fun i => pl.length - i.1) ⟨0, Nat.zero_le _⟩ ?_ (fun i => ?_)
 exact sy_at (by dsimp only; rw [show turnsV b (pl.length : Int) - (lenS ((lls pl).take 0) : Int) = turnsV b (pl.length : Int) by rw [List.take_zero]; show _ - (0 : Int) = _; omega]; exact (by repeat' first | exact Sub.nil | apply Sub.cons | rfl | (simp [lk]; omega))) (fun _ h => h)
 obtain ⟨i, hi⟩ := i
 dsimp only at hi ⊢
 have hle := lenS_le (lls pl) i
 refine sy_seq ?_
 refine sy_tx' [0] rfl ?_
 refine sp rfl (PE.lss rfl rfl) rfl ?_
 refine sy_seq ?_
 refine sy_cond rfl (fun hc7 => ?_) (fun hc7 => ?_)
 try simp only [decide_eq_true_eq, decide_eq_false_iff_not, Bool.and_eq_true, Bool.or_eq_true, Bool.not_eq_true', Int.not_le, Int.not_lt] at hc7
 obtain ⟨x, hx⟩ : ∃ x, pl[i]? = some x := ⟨_, List.getElem?_eq_getElem (by omega)⟩
 have hst := lenS_take (lls_get hx)
 have hle2 := lenS_le (lls pl) (i + 1)
 refine sy_skip ?_
 refine sy_seq ?_
 refine sy_block ?_
 refine sy_seq ?_
 refine sy_tx' [0, 1, 2] rfl ?_
 refine sp rfl (PE.indexAddr el26 rfl rfl (by omega) (by omega)) rfl ?_
 refine spL rfl rfl (lf0 sc40 (pl_get hx) rfl) rfl ?_
 refine sp rfl (PE.assign rfl) rfl ?_
 refine sy_tx' [0, 1, 2, 3, 4] rfl ?_
 refine sp rfl (PE.move rfl) rfl ?_
 refine sp rfl (PE.move rfl) rfl ?_
 refine sp rfl (PE.lenSl isl40 rfl) rfl ?_
 refine sp rfl (PE.sub rfl rfl (by omega)) rfl ?_
 refine sp rfl (PE.assign rfl) rfl ?_
 refine sy_tx' [0, 1] rfl ?_
 refine sp rfl (PE.add rfl rfl (by omega)) rfl ?_
 refine sp rfl (PE.move rfl) rfl ?_
 exact sy_next ⟨i + 1, by omega⟩ (by dsimp only; omega) (by dsimp only; rw [show turnsV b (pl.length : Int) - (lenS ((lls pl).take (i + 1)) : Int) = turnsV b (pl.length : Int) - (lenS ((lls pl).take i) : Int) - (x.l.length : Int) by omega]; exact (by repeat' first | exact Sub.nil | apply Sub.cons | rfl | (simp [lk]; omega))) (fun _ h => h)
 try simp only [decide_eq_true_eq, decide_eq_false_iff_not, Bool.and_eq_true, Bool.or_eq_true, Bool.not_eq_true', Int.not_le, Int.not_lt] at hc7
 obtain rfl : i = pl.length := by omega
 rw [show turnsV b (pl.length : Int) - (lenS ((lls pl).take pl.length) : Int) = 0 by rw [List.take_of_length_le (by rw [lls_len]; exact Nat.le_refl _)]; omega]
 refine sy_exit ?_
 repeat refine sy_tx ?_
 refine sy_bx ?_
 refine sy_seq ?_
 refine sy_tx' [0, 1, 2, 3, 4, 5, 6, 7, 8, 9] rfl ?_
 refine spL rfl rfl (lhA (btl b (b.sl a2 c2)) ag33 rfl rfl rfl) rfl ?_
 refine sp rfl (PE.move rfl) rfl ?_
 refine clV rfl cal25 rfl rfl (c_rBurns b a2 c2 hok pl (some ⟨bp, 0, none⟩) pl.length (by omega) hpi (by omega) _ _) ?_
 rw [hpb]
 refine sp rfl (PE.move rfl) rfl ?_
 refine sp rfl (PE.extract rfl rfl) rfl ?_
 refine sp rfl (PE.extract rfl rfl) rfl ?_
 refine sp rfl (PE.extract rfl rfl) rfl ?_
 refine sp rfl (PE.assign rfl) rfl ?_
 refine sp rfl (PE.assign rfl) rfl ?_
 refine sp rfl (PE.assign rfl) rfl ?_
 refine sy_seq ?_
 refine sy_tx' [0, 1, 2, 3, 4, 5, 6, 7, 8, 9, 10, 11, 12, 13, 14] rfl ?_
 refine sp rfl (PE.move rfl) rfl ?_
 refine sp rfl (PE.not rfl) rfl ?_
 refine sp rfl (PE.move rfl) rfl ?_
 refine sy_case (t := 113) rfl (fun g113 => ?_) (fun g113 => ?_)
 refine spG rfl rfl rfl rfl (PE.move rfl) rfl ?_
 refine spG rfl rfl rfl rfl (PE.eql rfl rfl) rfl ?_
 refine sp rfl (PE.pick rfl rfl rfl) rfl ?_
 refine sp rfl (PE.move rfl) rfl ?_
 refine sy_case (t := 117) rfl (fun g117 => ?_) (fun g117 => ?_)
 refine spLG rfl rfl rfl rfl rfl (lhA (btl b (b.sl a1 c1)) ag25 rfl rfl rfl) rfl ?_
 refine spLG rfl rfl rfl rfl rfl (lhA (btl b (b.sl ab cb)) ag25 rfl rfl rfl) rfl ?_
 refine clVG rfl rfl rfl rfl cal31 rfl rfl (c_same b a1 c1 b ab cb hl hl hr hr _ _) ?_
 refine sp rfl (PE.pick rfl rfl rfl) rfl ?_
 refine sp rfl (PE.move rfl) rfl ?_
 refine sy_case (t := 122) rfl (fun g122 => ?_) (fun g122 => ?_)
 refine clVG rfl rfl rfl rfl cal18 rfl rfl (c_awake _ _) ?_
 refine sp rfl (PE.pick rfl rfl rfl) rfl ?_
 refine sp rfl (PE.assign rfl) rfl ?_
 refine sy_ret ?_
 exact sy_return (vs := [_]) rfl (.cons (RV.tmp rfl) .nil) rfl ⟨rfl, rfl, rfl⟩ (fun w h => by first | exact (((h.del b6).del b5).del b2).facts (fun g hg => by simp [hg]) | exact h.del b2)
 rw [sameB_iff.2 rfl] at g122; exact absurd g122 (by decide)
 exact absurd g117 (by simp)
 exact absurd g113 (by decide)
end Go.Proofs.Ytelegnmfhjfbaaa
namespace Go.Proofs.Ytelegnmfhjfbaaa
set_option linter.unusedSimpArgs false
set_option linter.unusedVariables false
open Go Go.ChangeShapes Go.WideShapes Go.RowKit
section weigh
variable {H : Type} {enc : TypeId × Value → H} {P : Program} {w : World} {base : Nat} {spare : Nat → Bool} {held : Bool}
theorem weight_slice {t e fuel : Nat} {cs : List Value} {x : DataW H × List MemPlace} (hu : P.underlying t = some (.slice e)) (h : DataW.trod enc P w base spare held fuel t cs = some x) {a : Option Addr} {len cap : Nat} (hc : cs = [.slice a len cap]) {B : Nat} (hw : ∀ n ∈ x.1.weights P t, n ≤ B) : len * P.bytesOf e ≤ B := by
  rcases DataW.trod_slice hu h with ⟨h1, _⟩ | ⟨a', len', cap', elems, rest, n, _, h1, rfl, hb, hl, hm, hlen, _⟩
  · rw [h1] at hc
    simp only [List.cons.injEq, Value.slice.injEq, and_true] at hc
    rw [← hc.2.1]; simp
  · rw [h1] at hc
    simp only [List.cons.injEq, Value.slice.injEq, and_true] at hc
    have := hw ((elems.length + rest.length) * P.bytesOf e) (by simp [DataW.weights, hu])
    refine Nat.le_trans (Nat.mul_le_mul_right _ (by omega)) this
theorem weight_field {T e fuel k : Nat} {fs : Array Field} {cs : List Value} {x : DataW H × List MemPlace} {f : Field} (hu : P.underlying T = some (.struct fs)) (h : DataW.trod enc P w base spare held fuel T cs = some x) (hf : fs[k]? = some f) (hs : P.underlying f.type = some (.slice e)) {a : Option Addr} {len cap : Nat}
    (hc : (cs.drop f.offset).take (P.cellsOf f.type) = [.slice a len cap]) {B : Nat} (hw : ∀ n ∈ x.1.weights P T, n ≤ B) : len * P.bytesOf e ≤ B := by
  obtain ⟨xs, n, _, rfl, _, hxl, hx⟩ := DataW.trod_struct hu h
  have h1 := hx k f hf
  obtain ⟨y, hy⟩ : ∃ y, xs[k]? = some y := ⟨_, List.getElem?_eq_getElem (by rw [hxl]; exact (Array.getElem?_eq_some_iff.1 hf).1)⟩
  rw [hy] at h1
  refine weight_slice hs h1 hc fun m hm => hw m ?_
  show m ∈ (DataW.agg (xs.map (·.1))).weights P T
  simp only [DataW.weights, hu]
  exact DataW.weights_mem_each (j := k) (t := f.type) (d := y.1) (by rw [List.getElem?_map, Array.getElem?_toList, hf]; rfl) (by rw [List.getElem?_map, hy]; rfl) m hm
end weigh
end Go.Proofs.Ytelegnmfhjfbaaa
