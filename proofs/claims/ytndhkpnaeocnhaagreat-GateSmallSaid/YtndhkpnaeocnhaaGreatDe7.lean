/- Walks of the functions of the program, and the laws that join them: what the last theorem of this claim needs, in order. -/
import Derived.Test.YtndhkpnaeocnhaaGreatDe6
namespace Go.Proofs.YtndhkpnaeocnhaaGreat
set_option linter.unusedSimpArgs false
set_option linter.unusedVariables false
open Go
theorem cal57 : cal Tryz.prog 57 = true := by kernel_rfl
theorem cal58 : cal Tryz.prog 58 = true := by kernel_rfl
theorem cal59 : cal Tryz.prog 59 = true := by kernel_rfl
theorem cal60 : cal Tryz.prog 60 = true := by kernel_rfl
theorem eqf31 : eqB Tryz.prog 10000 31 = some (true, 4) := by kernel_rfl
theorem eqg31 : Tryz.prog.eqGuardType Tryz.prog.depth 31 = false := by kernel_rfl
def wgtP (g : Gat) (c : Crt) (k : Int) : Int × Int := bif decide (toldE g c (!(inb k 0 3)) ≠ 0) then (0, 0) else ((netP g c).1 * bl (bndB g c) k.toNat / 40, (netP g c).2 * bh (bndB g c) k.toNat / 40)
theorem wgtR_eq (g : Gat) (c : Crt) (k : Int) : wgtR g c k = .tuple #[spv (wgtP g c k).1 (wgtP g c k).2, .int .i64 (toldE g c (!(inb k 0 3)))] := by
  unfold wgtR wgtP
  by_cases h : toldE g c (!(inb k 0 3)) = 0
  · rw [decide_eq_false (show ¬ toldE g c (!(inb k 0 3)) ≠ 0 by omega), h]; rfl
  · rw [decide_eq_true h]; rfl
theorem told_err {g : Gat} {c : Crt} (h : bothE g c ≠ 0) (bad : Bool) : toldE g c bad = bothE g c := by unfold toldE; rw [decide_eq_true h]; rfl
theorem told_one {g : Gat} {c : Crt} (h : bothE g c = 0) : toldE g c true = 1 := by unfold toldE; rw [decide_eq_false (show ¬ bothE g c ≠ 0 by omega)]; rfl
theorem bnd_err {g : Gat} {c : Crt} (h : toldE g c false ≠ 0) : bndB g c = zbx ∧ mixP g c = [0, 0, 0, 0] := by
  unfold bndB mixP; rw [decide_eq_true h]; exact ⟨rfl, rfl⟩
theorem wgt_err {g : Gat} {c : Crt} {k : Int} (h : toldE g c (!(inb k 0 3)) ≠ 0) : wgtP g c k = (0, 0) := by
  unfold wgtP; rw [decide_eq_true h]; rfl
theorem wgt_ok {g : Gat} {c : Crt} {q : Nat} (hq : q < 4) (h : toldE g c false = 0) : toldE g c (!(inb (q : Int) 0 3)) = 0 ∧ wgtP g c q = ((netP g c).1 * bl (bndB g c) q / 40, (netP g c).2 * bh (bndB g c) q / 40) := by
  have e : inb (q : Int) 0 3 = true := by simp [inb]; omega
  refine ⟨by rw [e]; exact h, ?_⟩
  unfold wgtP
  rw [e, decide_eq_false (show ¬ toldE g c (!true) ≠ 0 by rw [show (!true) = false from rfl, h]; decide), Int.toNat_natCast]; rfl
theorem told_0 {g : Gat} {c : Crt} (h : toldE g c false = 0) : bothE g c = 0 ∧ ∃ b, clo (boxF g.miss c.hs fun _ => true) = some b ∧ mixP g c = mixt b ∧ bndB g c = b ∧ Tight b := by
  have hb : bothE g c = 0 := by
    by_cases h1 : bothE g c = 0
    · exact h1
    · rw [told_err h1] at h; exact h
  cases hc : clo (boxF g.miss c.hs fun _ => true) with
  | none => unfold toldE at h; rw [decide_eq_false (show ¬ bothE g c ≠ 0 by omega), hc] at h; cases h
  | some b => exact ⟨hb, b, rfl, by unfold mixP; rw [decide_eq_false (show ¬ toldE g c false ≠ 0 by omega), hc]; rfl, bnd_of h hc, told_tight hc⟩
theorem both_ok {g : Gat} {c : Crt} (h : bothE g c = 0) : g.ok ∧ c.ok := by
  have hg : g.check = 0 := by
    by_cases h1 : g.check = 0
    · exact h1
    · unfold bothE at h; rw [decide_eq_true h1] at h; exact absurd h h1
  refine ⟨gat_ok.1 hg, crt_ok.1 ?_⟩
  unfold bothE at h; rw [hg] at h; exact h
theorem box_all {g : Gat} {c : Crt} (hg : g.ok) (hc : c.ok) (m : Mix) : Mx (boxF g.miss c.hs fun _ => true) m ↔ (Mxt m ∧ ∀ x ∈ c.hs, fitB g.miss x m = true) := by
  rw [boxF_mx hg.miss.1 hc.hs]
  constructor
  · rintro ⟨h1, h2⟩
    refine ⟨h1, fun x hx => ?_⟩
    obtain ⟨i, hi⟩ := List.getElem?_of_mem hx
    exact h2 i x hi rfl
  · rintro ⟨h1, h2⟩
    exact ⟨h1, fun i x hi _ => h2 x (List.mem_of_getElem? hi)⟩
theorem mix_0 {g : Gat} {c : Crt} (h : toldE g c false = 0) : Mxt (mixP g c) ∧ (c.hs.all fun x => fitB g.miss x (mixP g c)) = true ∧ mixE (mixP g c) = 0 := by
  obtain ⟨hb, b, h1, h2, _, h3⟩ := told_0 h
  obtain ⟨hg, hc⟩ := both_ok hb
  have h4 := (box_all hg hc (mixt b)).1 (((clo_some (boxF_ok _ _ _) h1).2 _).1 (mixt_mx h3))
  rw [h2]
  exact ⟨h4.1, List.all_eq_true.2 h4.2, (mix_ok h4.1.len).2 h4.1⟩
theorem all_link {g : Gat} {c : Crt} (h0 : bothE g c = 0) {ms l : List Mix} (hms : ∀ m, m ∈ ms ↔ Mxt m) (hl : l = partS g.miss c.hs ms 0) : (∀ m ∈ l, Mxt m) ∧ l.length ≤ ms.length ∧ (0 < l.length → toldE g c false = 0 ∧ Tight (bndB g c) ∧ ∀ m, m ∈ l ↔ Mx (bndB g c) m) ∧ (¬ 0 < l.length → toldE g c false = 7) := by
  obtain ⟨hg, hc⟩ := both_ok h0
  have hmem : ∀ m, m ∈ l ↔ Mx (boxF g.miss c.hs fun _ => true) m := fun m => by
    rw [hl, box_all hg hc]
    unfold partS
    rw [List.mem_filter, hms, decide_eq_true_eq, missQ_0]
  refine ⟨fun m hm => ((box_all hg hc m).1 ((hmem m).1 hm)).1, by rw [hl]; exact List.length_filter_le _ _, fun hp => ?_, fun hn => ?_⟩
  · cases hcl : clo (boxF g.miss c.hs fun _ => true) with
    | none =>
      obtain ⟨m, hm⟩ := List.exists_mem_of_length_pos hp
      exact absurd ((hmem m).1 hm) (clo_none (boxF_ok _ _ _) hcl m)
    | some b =>
      have ht : toldE g c false = 0 := by unfold toldE; rw [decide_eq_false (show ¬ bothE g c ≠ 0 by omega), hcl]; rfl
      obtain ⟨h3, h4⟩ := clo_some (boxF_ok _ _ _) hcl
      rw [bnd_of ht hcl]
      exact ⟨ht, h3, fun m => (hmem m).trans (h4 m).symm⟩
  · cases hcl : clo (boxF g.miss c.hs fun _ => true) with
    | none => unfold toldE; rw [decide_eq_false (show ¬ bothE g c ≠ 0 by omega), hcl]; rfl
    | some b =>
      obtain ⟨h3, h4⟩ := clo_some (boxF_ok _ _ _) hcl
      exact absurd (List.length_pos_of_mem ((hmem _).2 ((h4 _).1 (mixt_mx h3)))) hn
theorem mixP_len (g : Gat) (c : Crt) : (mixP g c).length = 4 := by
  by_cases h : toldE g c false = 0
  · exact (mix_0 h).1.len
  · rw [(bnd_err h).2]; rfl
set_option maxHeartbeats 4000000 in
theorem c_GateBounds (g : Gat) (ag : Option Addr) (cg : Nat) (hlg : g.grs.length ≤ 9223372036854775807) (c : Crt) (ah : Option Addr) (ch : Nat) (hlh : c.hs.length ≤ 9223372036854775807) (k : Int) (hk0 : -9223372036854775808 ≤ k ∧ k ≤ 9223372036854775807) (H : Heap) (R : Facts) [hG : MemRows ag 5 (grows g.grs) R] [hA : MemRows ah 5 (hrows c.hs) R] :
    Fn Tryz.prog 11 [g.v (g.sl ag cg), c.v (c.sl ah ch), .int .i64 k] H R (fun v H' R' => v = .bool true ∧ H' = H ∧ R' = R) := by
 refine fn_of Tryz.func11 rfl Tryz.ntmps11 rfl ?_
 refine sy_seq ?_
 refine sy_tx' [0, 1, 2] rfl ?_
 refine bx rfl rfl rfl (fun b3 => ?_)
 refine bx rfl rfl rfl (fun b4 => ?_)
 refine sp rfl (PE.assign rfl) rfl ?_
 refine sy_seq ?_
 refine sy_seq ?_
 refine sy_tx' [0, 1, 2] rfl ?_
 refine spL rfl rfl (lhA [_, _, _] ag25 rfl rfl rfl) rfl ?_
 refine spL rfl rfl (lhA [_, _, _] ag28 rfl rfl rfl) rfl ?_
 refine clV rfl cal35 rfl rfl (c_grt g ag cg hlg c ah ch hlh _ _) ?_
 refine sy_cond rfl (fun hc0 => ?_) (fun hc0 => ?_)
 refine sy_seq ?_
 refine sy_tx' [0, 1] rfl ?_
 refine clV rfl cal8 rfl rfl (c_awake _ _) ?_
 refine sp rfl (PE.assign rfl) rfl ?_
 refine sy_ret ?_
 exact sy_return (vs := [_]) rfl (.cons (RV.tmp rfl) .nil) rfl ⟨rfl, rfl, rfl⟩ drp
 have h79 : ¬ 7 < g.grs.length ∧ ¬ 9 < c.hs.length := by simpa using hc0
 refine sy_skip ?_
 refine sy_seq ?_
 refine sy_free [0, 1, 0, 7, 0, 31, 0, 127, 0, 0, 0, 0, 4095, 8191, 16383, 32767] [0, 1, 2, 3, 4, 5, 6, 7, 8, 9, 10, 11, 12, 13, 14, 15] mixed (by kernel_rfl) rfl (fun s L H1 R1 => ∃ (a1 : Option Addr) (c1 : Nat) (a2 : Option Addr) (c2 : Nat) (a3 : Option Addr) (c3 : Nat) (a4 : Option Addr) (c4 : Nat) (b7 : Nat) (x7 : List Value) (b8 : Nat) (x8 : List Value) (b9 : Nat) (x9 : List Value) (b10 : Nat) (x10 : List Value), Sub [(2, .int .i64 k), (3, .pointer (some ⟨b3, 0, none⟩)), (4, .pointer (some ⟨b4, 0, none⟩))] L ∧ (∀ f ∈ (R : Facts), f ∈ R1) ∧ (s 0 = true → lk L 27 = some (g.v (g.sl ag cg))) ∧ (s 1 = true → lk L 28 = some (g.v (g.sl a1 c1)) ∧ (RowsA a1 5 (grows g.grs)) ∈ R1) ∧ (s 2 = true → lk L 29 = some (c.v (c.sl ah ch))) ∧ (s 3 = true → lk L 30 = some (c.v (c.sl a2 c2)) ∧ (RowsA a2 5 (hrows c.hs)) ∈ R1) ∧ (s 4 = true → lk L 31 = some (g.v (g.sl ag cg))) ∧ (s 5 = true → lk L 32 = some (g.v (g.sl a3 c3)) ∧ (RowsA a3 5 (grows g.grs)) ∈ R1) ∧ (s 6 = true → lk L 33 = some (c.v (c.sl ah ch))) ∧ (s 7 = true → lk L 34 = some (c.v (c.sl a4 c4)) ∧ (RowsA a4 5 (hrows c.hs)) ∈ R1) ∧ (s 8 = true → lk L 7 = some (.pointer (some ⟨b7, 0, none⟩)) ∧ (s 12 = false → x7 = [.int .i64 0, .int .i64 0, .slice none 0 0])) ∧ (s 9 = true → lk L 8 = some (.pointer (some ⟨b8, 0, none⟩)) ∧ (s 13 = false → x8 = [.int .i64 0, .int .i64 0, .slice none 0 0])) ∧ (s 10 = true → lk L 9 = some (.pointer (some ⟨b9, 0, none⟩)) ∧ (s 14 = false → x9 = [.int .i64 0, .int .i64 0, .slice none 0 0])) ∧ (s 11 = true → lk L 10 = some (.pointer (some ⟨b10, 0, none⟩)) ∧ (s 15 = false → x10 = [.int .i64 0, .int .i64 0, .slice none 0 0])) ∧ (s 12 = true → x7 = gtl g (g.sl a1 c1)) ∧ (s 13 = true → x8 = ctl c (c.sl a2 c2)) ∧ (s 14 = true → x9 = gtl g (g.sl a3 c3)) ∧ (s 15 = true → x10 = ctl c (c.sl a4 c4)) ∧ ∀ w, St H1 R1 w → St ((bif s 11 then [(b10, cel 79 x10)] else []) ++ ((bif s 10 then [(b9, cel 89 x9)] else []) ++ ((bif s 9 then [(b8, cel 28 x8)] else []) ++ ((bif s 8 then [(b7, cel 25 x7)] else []) ++ ((b4, cel 28 (ctl c (c.sl ah ch))) :: (b3, cel 25 (gtl g (g.sl ag cg))) :: H))))) R1 w) ?_ ?_ ?_
 exact ⟨none, 0, none, 0, none, 0, none, 0, 0, [], 0, [], 0, [], 0, [], (by repeat' first | exact Sub.nil | apply Sub.cons | rfl | (simp [lk]; omega)), fun _ hf => hf, (fun h => by cases (show false = true from h)), (fun h => by cases (show false = true from h)), (fun h => by cases (show false = true from h)), (fun h => by cases (show false = true from h)), (fun h => by cases (show false = true from h)), (fun h => by cases (show false = true from h)), (fun h => by cases (show false = true from h)), (fun h => by cases (show false = true from h)), (fun h => by cases (show false = true from h)), (fun h => by cases (show false = true from h)), (fun h => by cases (show false = true from h)), (fun h => by cases (show false = true from h)), (fun h => by cases (show false = true from h)), (fun h => by cases (show false = true from h)), (fun h => by cases (show false = true from h)), (fun h => by cases (show false = true from h)), fun w h => h⟩
 refine ⟨?_, ?_, ?_, ?_, ?_, ?_, ?_, ?_, ?_, ?_, ?_, ?_, ?_, ?_, ?_, ?_, trivial⟩
 intro s Lz Hz Rz hdn hs hpre hI K hK
 obtain ⟨a1, c1, a2, c2, a3, c3, a4, c4, b7, x7, b8, x8, b9, x9, b10, x10, hL0, hR0, q0, q1, q2, q3, q4, q5, q6, q7, q8, q9, q10, q11, q12, q13, q14, q15, hH⟩ := hI
 refine Sy.heap hH ?_
 refine spL rfl (Sub.lk hL0 _ _ rfl) ((lhA (gtl g (g.sl ag cg)) ag25 rfl rfl rfl)) rfl ?_
 exact hK _ _ _ ⟨a1, c1, a2, c2, a3, c3, a4, c4, b7, x7, b8, x8, b9, x9, b10, x10, sub_more rfl hL0, hR0, fun _ => lk_same, fun h => ⟨lk_more rfl (q1 h).1, (q1 h).2⟩, fun h => lk_more rfl (q2 h), fun h => ⟨lk_more rfl (q3 h).1, (q3 h).2⟩, fun h => lk_more rfl (q4 h), fun h => ⟨lk_more rfl (q5 h).1, (q5 h).2⟩, fun h => lk_more rfl (q6 h), fun h => ⟨lk_more rfl (q7 h).1, (q7 h).2⟩, fun h => ⟨lk_more rfl (q8 h).1, (q8 h).2⟩, fun h => ⟨lk_more rfl (q9 h).1, (q9 h).2⟩, fun h => ⟨lk_more rfl (q10 h).1, (q10 h).2⟩, fun h => ⟨lk_more rfl (q11 h).1, (q11 h).2⟩, fun h => q12 h, fun h => q13 h, fun h => q14 h, fun h => q15 h, fun w h => h⟩
 intro s Lz Hz Rz hdn hs hpre hI K hK
 obtain ⟨a1, c1, a2, c2, a3, c3, a4, c4, b7, x7, b8, x8, b9, x9, b10, x10, hL0, hR0, q0, q1, q2, q3, q4, q5, q6, q7, q8, q9, q10, q11, q12, q13, q14, q15, hH⟩ := hI
 have h0 : s 0 = true := hpre 0 rfl
 refine Sy.heap hH ?_
 haveI m0 : MemRows ag 5 (grows g.grs) Rz := ⟨hR0 _ (inferInstance : MemRows ag 5 (grows g.grs) (R)).mem⟩
 refine cl rfl cal36 rfl (by simp only [evs, show ev Lz (.tmp 27) = _ from (q0 h0)]) (c_Own g ag cg (by omega) _ _) ?_
 rintro _ _ R1 ⟨o, rfl, ho, rfl, hR1⟩
 obtain rfl := hR1.symm
 clear hR1
 obtain ⟨a1, c1, he, hf⟩ := o.freeze
 rw [he]
 refine Sy.heap (H' := _) (fun w h => hf h) ?_
 rw [show (grows g.grs).length = g.grs.length from List.length_map _]
 clear he hf
 exact hK _ _ _ ⟨a1, c1, a2, c2, a3, c3, a4, c4, b7, x7, b8, x8, b9, x9, b10, x10, sub_more rfl hL0, fin_more (hR0), fun h => lk_more rfl (q0 h), fun _ => ⟨lk_same, (by simp)⟩, fun h => lk_more rfl (q2 h), fun h => ⟨lk_more rfl (q3 h).1, List.mem_cons_of_mem _ ((q3 h).2)⟩, fun h => lk_more rfl (q4 h), fun h => ⟨lk_more rfl (q5 h).1, List.mem_cons_of_mem _ ((q5 h).2)⟩, fun h => lk_more rfl (q6 h), fun h => ⟨lk_more rfl (q7 h).1, List.mem_cons_of_mem _ ((q7 h).2)⟩, fun h => ⟨lk_more rfl (q8 h).1, (q8 h).2⟩, fun h => ⟨lk_more rfl (q9 h).1, (q9 h).2⟩, fun h => ⟨lk_more rfl (q10 h).1, (q10 h).2⟩, fun h => ⟨lk_more rfl (q11 h).1, (q11 h).2⟩, fun h => absurd (hdn 12 1 (Nat.le_of_ble_eq_true rfl) rfl h) (by rw [hs]; exact Bool.false_ne_true), fun h => q13 h, fun h => q14 h, fun h => q15 h, fun w h => h⟩
 intro s Lz Hz Rz hdn hs hpre hI K hK
 obtain ⟨a1, c1, a2, c2, a3, c3, a4, c4, b7, x7, b8, x8, b9, x9, b10, x10, hL0, hR0, q0, q1, q2, q3, q4, q5, q6, q7, q8, q9, q10, q11, q12, q13, q14, q15, hH⟩ := hI
 refine Sy.heap hH ?_
 refine spL rfl (Sub.lk hL0 _ _ rfl) ((lhA (ctl c (c.sl ah ch)) ag28 rfl rfl rfl)) rfl ?_
 exact hK _ _ _ ⟨a1, c1, a2, c2, a3, c3, a4, c4, b7, x7, b8, x8, b9, x9, b10, x10, sub_more rfl hL0, hR0, fun h => lk_more rfl (q0 h), fun h => ⟨lk_more rfl (q1 h).1, (q1 h).2⟩, fun _ => lk_same, fun h => ⟨lk_more rfl (q3 h).1, (q3 h).2⟩, fun h => lk_more rfl (q4 h), fun h => ⟨lk_more rfl (q5 h).1, (q5 h).2⟩, fun h => lk_more rfl (q6 h), fun h => ⟨lk_more rfl (q7 h).1, (q7 h).2⟩, fun h => ⟨lk_more rfl (q8 h).1, (q8 h).2⟩, fun h => ⟨lk_more rfl (q9 h).1, (q9 h).2⟩, fun h => ⟨lk_more rfl (q10 h).1, (q10 h).2⟩, fun h => ⟨lk_more rfl (q11 h).1, (q11 h).2⟩, fun h => q12 h, fun h => q13 h, fun h => q14 h, fun h => q15 h, fun w h => h⟩
 intro s Lz Hz Rz hdn hs hpre hI K hK
 obtain ⟨a1, c1, a2, c2, a3, c3, a4, c4, b7, x7, b8, x8, b9, x9, b10, x10, hL0, hR0, q0, q1, q2, q3, q4, q5, q6, q7, q8, q9, q10, q11, q12, q13, q14, q15, hH⟩ := hI
 obtain ⟨h0, h1, h2⟩ : s 0 = true ∧ s 1 = true ∧ s 2 = true := ⟨hpre 0 rfl, hpre 1 rfl, hpre 2 rfl⟩
 refine Sy.heap hH ?_
 haveI m0 : MemRows ah 5 (hrows c.hs) Rz := ⟨hR0 _ (inferInstance : MemRows ah 5 (hrows c.hs) (R)).mem⟩
 refine cl rfl cal37 rfl (by simp only [evs, show ev Lz (.tmp 29) = _ from (q2 h2)]) (c_Owned c ah ch (by omega) _ _) ?_
 rintro _ _ R1 ⟨o, rfl, ho, rfl, hR1⟩
 obtain rfl := hR1.symm
 clear hR1
 obtain ⟨a2, c2, he, hf⟩ := o.freeze
 rw [he]
 refine Sy.heap (H' := _) (fun w h => hf h) ?_
 rw [show (hrows c.hs).length = c.hs.length from List.length_map _]
 clear he hf
 exact hK _ _ _ ⟨a1, c1, a2, c2, a3, c3, a4, c4, b7, x7, b8, x8, b9, x9, b10, x10, sub_more rfl hL0, fin_more (hR0), fun h => lk_more rfl (q0 h), fun h => ⟨lk_more rfl (q1 h).1, List.mem_cons_of_mem _ ((q1 h).2)⟩, fun h => lk_more rfl (q2 h), fun _ => ⟨lk_same, (by simp)⟩, fun h => lk_more rfl (q4 h), fun h => ⟨lk_more rfl (q5 h).1, List.mem_cons_of_mem _ ((q5 h).2)⟩, fun h => lk_more rfl (q6 h), fun h => ⟨lk_more rfl (q7 h).1, List.mem_cons_of_mem _ ((q7 h).2)⟩, fun h => ⟨lk_more rfl (q8 h).1, (q8 h).2⟩, fun h => ⟨lk_more rfl (q9 h).1, (q9 h).2⟩, fun h => ⟨lk_more rfl (q10 h).1, (q10 h).2⟩, fun h => ⟨lk_more rfl (q11 h).1, (q11 h).2⟩, fun h => q12 h, fun h => absurd (hdn 13 3 (Nat.le_of_ble_eq_true rfl) rfl h) (by rw [hs]; exact Bool.false_ne_true), fun h => q14 h, fun h => q15 h, fun w h => h⟩
 intro s Lz Hz Rz hdn hs hpre hI K hK
 obtain ⟨a1, c1, a2, c2, a3, c3, a4, c4, b7, x7, b8, x8, b9, x9, b10, x10, hL0, hR0, q0, q1, q2, q3, q4, q5, q6, q7, q8, q9, q10, q11, q12, q13, q14, q15, hH⟩ := hI
 refine Sy.heap hH ?_
 refine spL rfl (Sub.lk hL0 _ _ rfl) ((lhA (gtl g (g.sl ag cg)) ag25 rfl rfl rfl)) rfl ?_
 exact hK _ _ _ ⟨a1, c1, a2, c2, a3, c3, a4, c4, b7, x7, b8, x8, b9, x9, b10, x10, sub_more rfl hL0, hR0, fun h => lk_more rfl (q0 h), fun h => ⟨lk_more rfl (q1 h).1, (q1 h).2⟩, fun h => lk_more rfl (q2 h), fun h => ⟨lk_more rfl (q3 h).1, (q3 h).2⟩, fun _ => lk_same, fun h => ⟨lk_more rfl (q5 h).1, (q5 h).2⟩, fun h => lk_more rfl (q6 h), fun h => ⟨lk_more rfl (q7 h).1, (q7 h).2⟩, fun h => ⟨lk_more rfl (q8 h).1, (q8 h).2⟩, fun h => ⟨lk_more rfl (q9 h).1, (q9 h).2⟩, fun h => ⟨lk_more rfl (q10 h).1, (q10 h).2⟩, fun h => ⟨lk_more rfl (q11 h).1, (q11 h).2⟩, fun h => q12 h, fun h => q13 h, fun h => q14 h, fun h => q15 h, fun w h => h⟩
 intro s Lz Hz Rz hdn hs hpre hI K hK
 obtain ⟨a1, c1, a2, c2, a3, c3, a4, c4, b7, x7, b8, x8, b9, x9, b10, x10, hL0, hR0, q0, q1, q2, q3, q4, q5, q6, q7, q8, q9, q10, q11, q12, q13, q14, q15, hH⟩ := hI
 obtain ⟨h0, h1, h2, h3, h4⟩ : s 0 = true ∧ s 1 = true ∧ s 2 = true ∧ s 3 = true ∧ s 4 = true := ⟨hpre 0 rfl, hpre 1 rfl, hpre 2 rfl, hpre 3 rfl, hpre 4 rfl⟩
 refine Sy.heap hH ?_
 haveI m0 : MemRows ag 5 (grows g.grs) Rz := ⟨hR0 _ (inferInstance : MemRows ag 5 (grows g.grs) (R)).mem⟩
 refine cl rfl cal42 rfl (by simp only [evs, show ev Lz (.tmp 31) = _ from (q4 h4)]) (c_theirs g ag cg (by omega) _ _) ?_
 rintro _ _ R1 ⟨a3, c3, rfl, rfl, hR1⟩
 obtain rfl := hR1.symm
 clear hR1
 exact hK _ _ _ ⟨a1, c1, a2, c2, a3, c3, a4, c4, b7, x7, b8, x8, b9, x9, b10, x10, sub_more rfl hL0, fin_more (hR0), fun h => lk_more rfl (q0 h), fun h => ⟨lk_more rfl (q1 h).1, List.mem_cons_of_mem _ ((q1 h).2)⟩, fun h => lk_more rfl (q2 h), fun h => ⟨lk_more rfl (q3 h).1, List.mem_cons_of_mem _ ((q3 h).2)⟩, fun h => lk_more rfl (q4 h), fun _ => ⟨lk_same, (by simp)⟩, fun h => lk_more rfl (q6 h), fun h => ⟨lk_more rfl (q7 h).1, List.mem_cons_of_mem _ ((q7 h).2)⟩, fun h => ⟨lk_more rfl (q8 h).1, (q8 h).2⟩, fun h => ⟨lk_more rfl (q9 h).1, (q9 h).2⟩, fun h => ⟨lk_more rfl (q10 h).1, (q10 h).2⟩, fun h => ⟨lk_more rfl (q11 h).1, (q11 h).2⟩, fun h => q12 h, fun h => q13 h, fun h => absurd (hdn 14 5 (Nat.le_of_ble_eq_true rfl) rfl h) (by rw [hs]; exact Bool.false_ne_true), fun h => q15 h, fun w h => h⟩
 intro s Lz Hz Rz hdn hs hpre hI K hK
 obtain ⟨a1, c1, a2, c2, a3, c3, a4, c4, b7, x7, b8, x8, b9, x9, b10, x10, hL0, hR0, q0, q1, q2, q3, q4, q5, q6, q7, q8, q9, q10, q11, q12, q13, q14, q15, hH⟩ := hI
 refine Sy.heap hH ?_
 refine spL rfl (Sub.lk hL0 _ _ rfl) ((lhA (ctl c (c.sl ah ch)) ag28 rfl rfl rfl)) rfl ?_
 exact hK _ _ _ ⟨a1, c1, a2, c2, a3, c3, a4, c4, b7, x7, b8, x8, b9, x9, b10, x10, sub_more rfl hL0, hR0, fun h => lk_more rfl (q0 h), fun h => ⟨lk_more rfl (q1 h).1, (q1 h).2⟩, fun h => lk_more rfl (q2 h), fun h => ⟨lk_more rfl (q3 h).1, (q3 h).2⟩, fun h => lk_more rfl (q4 h), fun h => ⟨lk_more rfl (q5 h).1, (q5 h).2⟩, fun _ => lk_same, fun h => ⟨lk_more rfl (q7 h).1, (q7 h).2⟩, fun h => ⟨lk_more rfl (q8 h).1, (q8 h).2⟩, fun h => ⟨lk_more rfl (q9 h).1, (q9 h).2⟩, fun h => ⟨lk_more rfl (q10 h).1, (q10 h).2⟩, fun h => ⟨lk_more rfl (q11 h).1, (q11 h).2⟩, fun h => q12 h, fun h => q13 h, fun h => q14 h, fun h => q15 h, fun w h => h⟩
 intro s Lz Hz Rz hdn hs hpre hI K hK
 obtain ⟨a1, c1, a2, c2, a3, c3, a4, c4, b7, x7, b8, x8, b9, x9, b10, x10, hL0, hR0, q0, q1, q2, q3, q4, q5, q6, q7, q8, q9, q10, q11, q12, q13, q14, q15, hH⟩ := hI
 obtain ⟨h0, h1, h2, h3, h4, h5, h6⟩ : s 0 = true ∧ s 1 = true ∧ s 2 = true ∧ s 3 = true ∧ s 4 = true ∧ s 5 = true ∧ s 6 = true := ⟨hpre 0 rfl, hpre 1 rfl, hpre 2 rfl, hpre 3 rfl, hpre 4 rfl, hpre 5 rfl, hpre 6 rfl⟩
 refine Sy.heap hH ?_
 haveI m0 : MemRows ah 5 (hrows c.hs) Rz := ⟨hR0 _ (inferInstance : MemRows ah 5 (hrows c.hs) (R)).mem⟩
 refine cl rfl cal39 rfl (by simp only [evs, show ev Lz (.tmp 33) = _ from (q6 h6)]) (c_come c ah ch (by omega) _ _) ?_
 rintro _ _ R1 ⟨a4, c4, rfl, rfl, hR1⟩
 obtain rfl := hR1.symm
 clear hR1
 exact hK _ _ _ ⟨a1, c1, a2, c2, a3, c3, a4, c4, b7, x7, b8, x8, b9, x9, b10, x10, sub_more rfl hL0, fin_more (hR0), fun h => lk_more rfl (q0 h), fun h => ⟨lk_more rfl (q1 h).1, List.mem_cons_of_mem _ ((q1 h).2)⟩, fun h => lk_more rfl (q2 h), fun h => ⟨lk_more rfl (q3 h).1, List.mem_cons_of_mem _ ((q3 h).2)⟩, fun h => lk_more rfl (q4 h), fun h => ⟨lk_more rfl (q5 h).1, List.mem_cons_of_mem _ ((q5 h).2)⟩, fun h => lk_more rfl (q6 h), fun _ => ⟨lk_same, (by simp)⟩, fun h => ⟨lk_more rfl (q8 h).1, (q8 h).2⟩, fun h => ⟨lk_more rfl (q9 h).1, (q9 h).2⟩, fun h => ⟨lk_more rfl (q10 h).1, (q10 h).2⟩, fun h => ⟨lk_more rfl (q11 h).1, (q11 h).2⟩, fun h => q12 h, fun h => q13 h, fun h => q14 h, fun h => absurd (hdn 15 7 (Nat.le_of_ble_eq_true rfl) rfl h) (by rw [hs]; exact Bool.false_ne_true), fun w h => h⟩
 intro s Lz Hz Rz hdn hs hpre hI K hK
 obtain ⟨a1, c1, a2, c2, a3, c3, a4, c4, b7, x7, b8, x8, b9, x9, b10, x10, hL0, hR0, q0, q1, q2, q3, q4, q5, q6, q7, q8, q9, q10, q11, q12, q13, q14, q15, hH⟩ := hI
 refine Sy.heap hH ?_
 refine alc rfl zl25 rfl (fun b7 => ?_)
 exact hK _ _ _ ⟨a1, c1, a2, c2, a3, c3, a4, c4, b7, [.int .i64 0, .int .i64 0, .slice none 0 0], b8, x8, b9, x9, b10, x10, sub_more rfl hL0, hR0, fun h => lk_more rfl (q0 h), fun h => ⟨lk_more rfl (q1 h).1, (q1 h).2⟩, fun h => lk_more rfl (q2 h), fun h => ⟨lk_more rfl (q3 h).1, (q3 h).2⟩, fun h => lk_more rfl (q4 h), fun h => ⟨lk_more rfl (q5 h).1, (q5 h).2⟩, fun h => lk_more rfl (q6 h), fun h => ⟨lk_more rfl (q7 h).1, (q7 h).2⟩, fun _ => ⟨lk_same, fun _ => rfl⟩, fun h => ⟨lk_more rfl (q9 h).1, (q9 h).2⟩, fun h => ⟨lk_more rfl (q10 h).1, (q10 h).2⟩, fun h => ⟨lk_more rfl (q11 h).1, (q11 h).2⟩, fun h => absurd (hdn 12 8 (Nat.le_of_ble_eq_true rfl) rfl h) (by rw [hs]; exact Bool.false_ne_true), fun h => q13 h, fun h => q14 h, fun h => q15 h, fun w h => by rw [hs] at h; exact h.perm (List.perm_middle.symm.trans (List.Perm.append_left _ (List.perm_middle.symm.trans (List.Perm.append_left _ (List.perm_middle.symm.trans (List.Perm.append_left _ (.refl _)))))))⟩
 intro s Lz Hz Rz hdn hs hpre hI K hK
 obtain ⟨a1, c1, a2, c2, a3, c3, a4, c4, b7, x7, b8, x8, b9, x9, b10, x10, hL0, hR0, q0, q1, q2, q3, q4, q5, q6, q7, q8, q9, q10, q11, q12, q13, q14, q15, hH⟩ := hI
 refine Sy.heap hH ?_
 refine alc rfl zl28 rfl (fun b8 => ?_)
 exact hK _ _ _ ⟨a1, c1, a2, c2, a3, c3, a4, c4, b7, x7, b8, [.int .i64 0, .int .i64 0, .slice none 0 0], b9, x9, b10, x10, sub_more rfl hL0, hR0, fun h => lk_more rfl (q0 h), fun h => ⟨lk_more rfl (q1 h).1, (q1 h).2⟩, fun h => lk_more rfl (q2 h), fun h => ⟨lk_more rfl (q3 h).1, (q3 h).2⟩, fun h => lk_more rfl (q4 h), fun h => ⟨lk_more rfl (q5 h).1, (q5 h).2⟩, fun h => lk_more rfl (q6 h), fun h => ⟨lk_more rfl (q7 h).1, (q7 h).2⟩, fun h => ⟨lk_more rfl (q8 h).1, (q8 h).2⟩, fun _ => ⟨lk_same, fun _ => rfl⟩, fun h => ⟨lk_more rfl (q10 h).1, (q10 h).2⟩, fun h => ⟨lk_more rfl (q11 h).1, (q11 h).2⟩, fun h => q12 h, fun h => absurd (hdn 13 9 (Nat.le_of_ble_eq_true rfl) rfl h) (by rw [hs]; exact Bool.false_ne_true), fun h => q14 h, fun h => q15 h, fun w h => by rw [hs] at h; exact h.perm (List.perm_middle.symm.trans (List.Perm.append_left _ (List.perm_middle.symm.trans (List.Perm.append_left _ (.refl _)))))⟩
 intro s Lz Hz Rz hdn hs hpre hI K hK
 obtain ⟨a1, c1, a2, c2, a3, c3, a4, c4, b7, x7, b8, x8, b9, x9, b10, x10, hL0, hR0, q0, q1, q2, q3, q4, q5, q6, q7, q8, q9, q10, q11, q12, q13, q14, q15, hH⟩ := hI
 refine Sy.heap hH ?_
 refine alc rfl zl89 rfl (fun b9 => ?_)
 exact hK _ _ _ ⟨a1, c1, a2, c2, a3, c3, a4, c4, b7, x7, b8, x8, b9, [.int .i64 0, .int .i64 0, .slice none 0 0], b10, x10, sub_more rfl hL0, hR0, fun h => lk_more rfl (q0 h), fun h => ⟨lk_more rfl (q1 h).1, (q1 h).2⟩, fun h => lk_more rfl (q2 h), fun h => ⟨lk_more rfl (q3 h).1, (q3 h).2⟩, fun h => lk_more rfl (q4 h), fun h => ⟨lk_more rfl (q5 h).1, (q5 h).2⟩, fun h => lk_more rfl (q6 h), fun h => ⟨lk_more rfl (q7 h).1, (q7 h).2⟩, fun h => ⟨lk_more rfl (q8 h).1, (q8 h).2⟩, fun h => ⟨lk_more rfl (q9 h).1, (q9 h).2⟩, fun _ => ⟨lk_same, fun _ => rfl⟩, fun h => ⟨lk_more rfl (q11 h).1, (q11 h).2⟩, fun h => q12 h, fun h => q13 h, fun h => absurd (hdn 14 10 (Nat.le_of_ble_eq_true rfl) rfl h) (by rw [hs]; exact Bool.false_ne_true), fun h => q15 h, fun w h => by rw [hs] at h; exact h.perm (List.perm_middle.symm.trans (List.Perm.append_left _ (.refl _)))⟩
 intro s Lz Hz Rz hdn hs hpre hI K hK
 obtain ⟨a1, c1, a2, c2, a3, c3, a4, c4, b7, x7, b8, x8, b9, x9, b10, x10, hL0, hR0, q0, q1, q2, q3, q4, q5, q6, q7, q8, q9, q10, q11, q12, q13, q14, q15, hH⟩ := hI
 refine Sy.heap hH ?_
 refine alc rfl zl79 rfl (fun b10 => ?_)
 exact hK _ _ _ ⟨a1, c1, a2, c2, a3, c3, a4, c4, b7, x7, b8, x8, b9, x9, b10, [.int .i64 0, .int .i64 0, .slice none 0 0], sub_more rfl hL0, hR0, fun h => lk_more rfl (q0 h), fun h => ⟨lk_more rfl (q1 h).1, (q1 h).2⟩, fun h => lk_more rfl (q2 h), fun h => ⟨lk_more rfl (q3 h).1, (q3 h).2⟩, fun h => lk_more rfl (q4 h), fun h => ⟨lk_more rfl (q5 h).1, (q5 h).2⟩, fun h => lk_more rfl (q6 h), fun h => ⟨lk_more rfl (q7 h).1, (q7 h).2⟩, fun h => ⟨lk_more rfl (q8 h).1, (q8 h).2⟩, fun h => ⟨lk_more rfl (q9 h).1, (q9 h).2⟩, fun h => ⟨lk_more rfl (q10 h).1, (q10 h).2⟩, fun _ => ⟨lk_same, fun _ => rfl⟩, fun h => q12 h, fun h => q13 h, fun h => q14 h, fun h => absurd (hdn 15 11 (Nat.le_of_ble_eq_true rfl) rfl h) (by rw [hs]; exact Bool.false_ne_true), fun w h => by rw [hs] at h; exact h.perm (.refl _)⟩
 intro s Lz Hz Rz hdn hs hpre hI K hK
 obtain ⟨a1, c1, a2, c2, a3, c3, a4, c4, b7, x7, b8, x8, b9, x9, b10, x10, hL0, hR0, q0, q1, q2, q3, q4, q5, q6, q7, q8, q9, q10, q11, q12, q13, q14, q15, hH⟩ := hI
 obtain ⟨h0, h1, h2, h3, h4, h5, h6, h7, h8, h9, h10, h11⟩ : s 0 = true ∧ s 1 = true ∧ s 2 = true ∧ s 3 = true ∧ s 4 = true ∧ s 5 = true ∧ s 6 = true ∧ s 7 = true ∧ s 8 = true ∧ s 9 = true ∧ s 10 = true ∧ s 11 = true := ⟨hpre 0 rfl, hpre 1 rfl, hpre 2 rfl, hpre 3 rfl, hpre 4 rfl, hpre 5 rfl, hpre 6 rfl, hpre 7 rfl, hpre 8 rfl, hpre 9 rfl, hpre 10 rfl, hpre 11 rfl⟩
 refine Sy.heap hH ?_
 obtain rfl := (q8 h8).2 hs
 refine Sy.heap (H' := (bif s 11 then [(b10, cel 79 x10)] else []) ++ ((bif s 10 then [(b9, cel 89 x9)] else []) ++ ((bif s 9 then [(b8, cel 28 x8)] else []) ++ ((b7, cel 25 [.int .i64 0, .int .i64 0, .slice none 0 0]) :: ((b4, cel 28 (ctl c (c.sl ah ch))) :: (b3, cel 25 (gtl g (g.sl ag cg))) :: H))))) (fun w h => by rw [h8] at h; exact h) ?_
 refine stoE (l' := gtl g (g.sl a1 c1)) rfl (q8 h8).1 (q1 h1).1 cn25 rfl rfl rfl rfl (Nat.le_refl _) ?_
 exact hK _ _ _ ⟨a1, c1, a2, c2, a3, c3, a4, c4, b7, gtl g (g.sl a1 c1), b8, x8, b9, x9, b10, x10, hL0, hR0, fun h => (q0 h), fun h => ⟨(q1 h).1, (q1 h).2⟩, fun h => (q2 h), fun h => ⟨(q3 h).1, (q3 h).2⟩, fun h => (q4 h), fun h => ⟨(q5 h).1, (q5 h).2⟩, fun h => (q6 h), fun h => ⟨(q7 h).1, (q7 h).2⟩, fun h => ⟨(q8 h).1, fun h => by cases (show true = false from h)⟩, fun h => ⟨(q9 h).1, (q9 h).2⟩, fun h => ⟨(q10 h).1, (q10 h).2⟩, fun h => ⟨(q11 h).1, (q11 h).2⟩, fun _ => rfl, fun h => q13 h, fun h => q14 h, fun h => q15 h, fun w h => by show St ((bif s 11 then [(b10, cel 79 x10)] else []) ++ ((bif s 10 then [(b9, cel 89 x9)] else []) ++ ((bif s 9 then [(b8, cel 28 x8)] else []) ++ ((bif s 8 then [(b7, cel 25 (gtl g (g.sl a1 c1)))] else []) ++ ((b4, cel 28 (ctl c (c.sl ah ch))) :: (b3, cel 25 (gtl g (g.sl ag cg))) :: H))))) Rz w; rw [h8]; exact h⟩
 intro s Lz Hz Rz hdn hs hpre hI K hK
 obtain ⟨a1, c1, a2, c2, a3, c3, a4, c4, b7, x7, b8, x8, b9, x9, b10, x10, hL0, hR0, q0, q1, q2, q3, q4, q5, q6, q7, q8, q9, q10, q11, q12, q13, q14, q15, hH⟩ := hI
 obtain ⟨h0, h1, h2, h3, h4, h5, h6, h7, h8, h9, h10, h11, h12⟩ : s 0 = true ∧ s 1 = true ∧ s 2 = true ∧ s 3 = true ∧ s 4 = true ∧ s 5 = true ∧ s 6 = true ∧ s 7 = true ∧ s 8 = true ∧ s 9 = true ∧ s 10 = true ∧ s 11 = true ∧ s 12 = true := ⟨hpre 0 rfl, hpre 1 rfl, hpre 2 rfl, hpre 3 rfl, hpre 4 rfl, hpre 5 rfl, hpre 6 rfl, hpre 7 rfl, hpre 8 rfl, hpre 9 rfl, hpre 10 rfl, hpre 11 rfl, hpre 12 rfl⟩
 refine Sy.heap hH ?_
 obtain rfl := (q9 h9).2 hs
 refine Sy.heap (H' := (bif s 11 then [(b10, cel 79 x10)] else []) ++ ((bif s 10 then [(b9, cel 89 x9)] else []) ++ ((b8, cel 28 [.int .i64 0, .int .i64 0, .slice none 0 0]) :: ((bif s 8 then [(b7, cel 25 x7)] else []) ++ ((b4, cel 28 (ctl c (c.sl ah ch))) :: (b3, cel 25 (gtl g (g.sl ag cg))) :: H))))) (fun w h => by rw [h9] at h; exact h) ?_
 refine stoE (l' := ctl c (c.sl a2 c2)) rfl (q9 h9).1 (q3 h3).1 cn28 rfl rfl rfl rfl (Nat.le_refl _) ?_
 exact hK _ _ _ ⟨a1, c1, a2, c2, a3, c3, a4, c4, b7, x7, b8, ctl c (c.sl a2 c2), b9, x9, b10, x10, hL0, hR0, fun h => (q0 h), fun h => ⟨(q1 h).1, (q1 h).2⟩, fun h => (q2 h), fun h => ⟨(q3 h).1, (q3 h).2⟩, fun h => (q4 h), fun h => ⟨(q5 h).1, (q5 h).2⟩, fun h => (q6 h), fun h => ⟨(q7 h).1, (q7 h).2⟩, fun h => ⟨(q8 h).1, (q8 h).2⟩, fun h => ⟨(q9 h).1, fun h => by cases (show true = false from h)⟩, fun h => ⟨(q10 h).1, (q10 h).2⟩, fun h => ⟨(q11 h).1, (q11 h).2⟩, fun h => q12 h, fun _ => rfl, fun h => q14 h, fun h => q15 h, fun w h => by show St ((bif s 11 then [(b10, cel 79 x10)] else []) ++ ((bif s 10 then [(b9, cel 89 x9)] else []) ++ ((bif s 9 then [(b8, cel 28 (ctl c (c.sl a2 c2)))] else []) ++ ((bif s 8 then [(b7, cel 25 x7)] else []) ++ ((b4, cel 28 (ctl c (c.sl ah ch))) :: (b3, cel 25 (gtl g (g.sl ag cg))) :: H))))) Rz w; rw [h9]; exact h⟩
 intro s Lz Hz Rz hdn hs hpre hI K hK
 obtain ⟨a1, c1, a2, c2, a3, c3, a4, c4, b7, x7, b8, x8, b9, x9, b10, x10, hL0, hR0, q0, q1, q2, q3, q4, q5, q6, q7, q8, q9, q10, q11, q12, q13, q14, q15, hH⟩ := hI
 obtain ⟨h0, h1, h2, h3, h4, h5, h6, h7, h8, h9, h10, h11, h12, h13⟩ : s 0 = true ∧ s 1 = true ∧ s 2 = true ∧ s 3 = true ∧ s 4 = true ∧ s 5 = true ∧ s 6 = true ∧ s 7 = true ∧ s 8 = true ∧ s 9 = true ∧ s 10 = true ∧ s 11 = true ∧ s 12 = true ∧ s 13 = true := ⟨hpre 0 rfl, hpre 1 rfl, hpre 2 rfl, hpre 3 rfl, hpre 4 rfl, hpre 5 rfl, hpre 6 rfl, hpre 7 rfl, hpre 8 rfl, hpre 9 rfl, hpre 10 rfl, hpre 11 rfl, hpre 12 rfl, hpre 13 rfl⟩
 refine Sy.heap hH ?_
 obtain rfl := (q10 h10).2 hs
 refine Sy.heap (H' := (bif s 11 then [(b10, cel 79 x10)] else []) ++ ((b9, cel 89 [.int .i64 0, .int .i64 0, .slice none 0 0]) :: ((bif s 9 then [(b8, cel 28 x8)] else []) ++ ((bif s 8 then [(b7, cel 25 x7)] else []) ++ ((b4, cel 28 (ctl c (c.sl ah ch))) :: (b3, cel 25 (gtl g (g.sl ag cg))) :: H))))) (fun w h => by rw [h10] at h; exact h) ?_
 refine stoE (l' := gtl g (g.sl a3 c3)) rfl (q10 h10).1 (q5 h5).1 cn89 rfl rfl rfl rfl (Nat.le_refl _) ?_
 exact hK _ _ _ ⟨a1, c1, a2, c2, a3, c3, a4, c4, b7, x7, b8, x8, b9, gtl g (g.sl a3 c3), b10, x10, hL0, hR0, fun h => (q0 h), fun h => ⟨(q1 h).1, (q1 h).2⟩, fun h => (q2 h), fun h => ⟨(q3 h).1, (q3 h).2⟩, fun h => (q4 h), fun h => ⟨(q5 h).1, (q5 h).2⟩, fun h => (q6 h), fun h => ⟨(q7 h).1, (q7 h).2⟩, fun h => ⟨(q8 h).1, (q8 h).2⟩, fun h => ⟨(q9 h).1, (q9 h).2⟩, fun h => ⟨(q10 h).1, fun h => by cases (show true = false from h)⟩, fun h => ⟨(q11 h).1, (q11 h).2⟩, fun h => q12 h, fun h => q13 h, fun _ => rfl, fun h => q15 h, fun w h => by show St ((bif s 11 then [(b10, cel 79 x10)] else []) ++ ((bif s 10 then [(b9, cel 89 (gtl g (g.sl a3 c3)))] else []) ++ ((bif s 9 then [(b8, cel 28 x8)] else []) ++ ((bif s 8 then [(b7, cel 25 x7)] else []) ++ ((b4, cel 28 (ctl c (c.sl ah ch))) :: (b3, cel 25 (gtl g (g.sl ag cg))) :: H))))) Rz w; rw [h10]; exact h⟩
 intro s Lz Hz Rz hdn hs hpre hI K hK
 obtain ⟨a1, c1, a2, c2, a3, c3, a4, c4, b7, x7, b8, x8, b9, x9, b10, x10, hL0, hR0, q0, q1, q2, q3, q4, q5, q6, q7, q8, q9, q10, q11, q12, q13, q14, q15, hH⟩ := hI
 obtain ⟨h0, h1, h2, h3, h4, h5, h6, h7, h8, h9, h10, h11, h12, h13, h14⟩ : s 0 = true ∧ s 1 = true ∧ s 2 = true ∧ s 3 = true ∧ s 4 = true ∧ s 5 = true ∧ s 6 = true ∧ s 7 = true ∧ s 8 = true ∧ s 9 = true ∧ s 10 = true ∧ s 11 = true ∧ s 12 = true ∧ s 13 = true ∧ s 14 = true := ⟨hpre 0 rfl, hpre 1 rfl, hpre 2 rfl, hpre 3 rfl, hpre 4 rfl, hpre 5 rfl, hpre 6 rfl, hpre 7 rfl, hpre 8 rfl, hpre 9 rfl, hpre 10 rfl, hpre 11 rfl, hpre 12 rfl, hpre 13 rfl, hpre 14 rfl⟩
 refine Sy.heap hH ?_
 obtain rfl := (q11 h11).2 hs
 refine Sy.heap (H' := (b10, cel 79 [.int .i64 0, .int .i64 0, .slice none 0 0]) :: ((bif s 10 then [(b9, cel 89 x9)] else []) ++ ((bif s 9 then [(b8, cel 28 x8)] else []) ++ ((bif s 8 then [(b7, cel 25 x7)] else []) ++ ((b4, cel 28 (ctl c (c.sl ah ch))) :: (b3, cel 25 (gtl g (g.sl ag cg))) :: H))))) (fun w h => by rw [h11] at h; exact h) ?_
 refine stoE (l' := ctl c (c.sl a4 c4)) rfl (q11 h11).1 (q7 h7).1 cn79 rfl rfl rfl rfl (Nat.le_refl _) ?_
 exact hK _ _ _ ⟨a1, c1, a2, c2, a3, c3, a4, c4, b7, x7, b8, x8, b9, x9, b10, ctl c (c.sl a4 c4), hL0, hR0, fun h => (q0 h), fun h => ⟨(q1 h).1, (q1 h).2⟩, fun h => (q2 h), fun h => ⟨(q3 h).1, (q3 h).2⟩, fun h => (q4 h), fun h => ⟨(q5 h).1, (q5 h).2⟩, fun h => (q6 h), fun h => ⟨(q7 h).1, (q7 h).2⟩, fun h => ⟨(q8 h).1, (q8 h).2⟩, fun h => ⟨(q9 h).1, (q9 h).2⟩, fun h => ⟨(q10 h).1, (q10 h).2⟩, fun h => ⟨(q11 h).1, fun h => by cases (show true = false from h)⟩, fun h => q12 h, fun h => q13 h, fun h => q14 h, fun _ => rfl, fun w h => by show St ((bif s 11 then [(b10, cel 79 (ctl c (c.sl a4 c4)))] else []) ++ ((bif s 10 then [(b9, cel 89 x9)] else []) ++ ((bif s 9 then [(b8, cel 28 x8)] else []) ++ ((bif s 8 then [(b7, cel 25 x7)] else []) ++ ((b4, cel 28 (ctl c (c.sl ah ch))) :: (b3, cel 25 (gtl g (g.sl ag cg))) :: H))))) Rz w; rw [h11]; exact h⟩
 intro Lz Hz Rz hI
 obtain ⟨a1, c1, a2, c2, a3, c3, a4, c4, b7, x7, b8, x8, b9, x9, b10, x10, hL0, hR0, q0, q1, q2, q3, q4, q5, q6, q7, q8, q9, q10, q11, q12, q13, q14, q15, hH⟩ := hI
 obtain rfl := q15 rfl
 obtain rfl := q14 rfl
 obtain rfl := q13 rfl
 obtain rfl := q12 rfl
 refine Sy.weak (L' := [(10, .pointer (some ⟨b10, 0, none⟩)), (9, .pointer (some ⟨b9, 0, none⟩)), (8, .pointer (some ⟨b8, 0, none⟩)), (7, .pointer (some ⟨b7, 0, none⟩)), (2, .int .i64 k), (3, .pointer (some ⟨b3, 0, none⟩)), (4, .pointer (some ⟨b4, 0, none⟩))]) (H' := (b10, cel 79 (ctl c (c.sl a4 c4))) :: (b9, cel 89 (gtl g (g.sl a3 c3))) :: (b8, cel 28 (ctl c (c.sl a2 c2))) :: (b7, cel 25 (gtl g (g.sl a1 c1))) :: (b4, cel 28 (ctl c (c.sl ah ch))) :: (b3, cel 25 (gtl g (g.sl ag cg))) :: H) (R' := RowsA a4 5 (hrows c.hs) :: RowsA a3 5 (grows g.grs) :: RowsA a2 5 (hrows c.hs) :: RowsA a1 5 (grows g.grs) :: R) ?_ (Sub.cons (q11 rfl).1 (Sub.cons (q10 rfl).1 (Sub.cons (q9 rfl).1 (Sub.cons (q8 rfl).1 hL0)))).lk (fun w h => St.facts (hH w h) (fin_cons (q7 rfl).2 (fin_cons (q5 rfl).2 (fin_cons (q3 rfl).2 (fin_cons (q1 rfl).2 hR0)))))
 refine sy_seq ?_
 refine sy_tx' [0, 1, 2, 3] rfl ?_
 refine spL rfl rfl (lhA [_, _, _] ag89 rfl rfl rfl) rfl ?_
 refine spL rfl rfl (lhA [_, _, _] ag79 rfl rfl rfl) rfl ?_
 refine clV rfl cal47 rfl rfl (c_rBoth g a3 c3 (by omega) c a4 c4 (by omega) _ _) ?_
 refine sp rfl (PE.assign rfl) rfl ?_
 refine sy_seq ?_
 refine sy_tx' [0, 1] rfl ?_
 refine sp rfl (PE.move rfl) rfl ?_
 refine sp rfl (PE.assign rfl) rfl ?_
 refine sy_seq ?_
 refine sy_tx' [0] rfl ?_
 refine alc rfl zl64 rfl (fun b13 => ?_)
 refine sy_seq ?_
 refine sy_tx' [0] rfl ?_
 refine alc rfl zl61 rfl (fun b14 => ?_)
 refine sy_seq ?_
 refine sy_seq ?_
 refine sy_tx' [0, 1] rfl ?_
 refine sp rfl (PE.move rfl) rfl ?_
 refine sp rfl (PE.eql rfl rfl) rfl ?_
 refine sy_join (ι := Unit) (fun _ => ⟨[(2, .int .i64 k), (3, .pointer (some ⟨b3, 0, none⟩)), (4, .pointer (some ⟨b4, 0, none⟩)), (7, .pointer (some ⟨b7, 0, none⟩)), (8, .pointer (some ⟨b8, 0, none⟩)), (9, .pointer (some ⟨b9, 0, none⟩)), (10, .pointer (some ⟨b10, 0, none⟩)), (13, .pointer (some ⟨b13, 0, none⟩)), (14, .pointer (some ⟨b14, 0, none⟩)), (11, .int .i64 (toldE g c false)), (12, .int .i64 (toldE g c (!(inb k 0 3))))], (b14, cel 61 [.int .i64 (wgtP g c k).1, .int .i64 (wgtP g c k).2]) :: (b13, cel 64 (ints (bndB g c))) :: (b10, cel 79 (ctl c (c.sl a4 c4))) :: (b9, cel 89 (gtl g (g.sl a3 c3))) :: (b8, cel 28 (ctl c (c.sl a2 c2))) :: (b7, cel 25 (gtl g (g.sl a1 c1))) :: (b4, cel 28 (ctl c (c.sl ah ch))) :: (b3, cel 25 (gtl g (g.sl ag cg))) :: H, RowsA a4 5 (hrows c.hs) :: RowsA a3 5 (grows g.grs) :: RowsA a2 5 (hrows c.hs) :: RowsA a1 5 (grows g.grs) :: R⟩) ?_ ?_
 refine sy_cond rfl (fun hc1 => ?_) (fun hc1 => ?_)
 have hw0 : bothE g c = 0 := by simpa using hc1
 obtain ⟨hgo, hco⟩ := both_ok hw0
 refine sy_seq ?_
 refine sy_tx' [0, 1, 2, 3, 4, 5] rfl ?_
 refine spL rfl rfl (lhA [_, _, _] ag89 rfl rfl rfl) rfl ?_
 refine spL rfl rfl (lhA [_, _, _] ag79 rfl rfl rfl) rfl ?_
 refine cl rfl cal57 rfl rfl (c_All g hgo.miss (g.sl a3 c3) c hco a4 c4 _ _) ?_
 rintro _ _ R1 ⟨ms, bq, aa, cc, hms, hml, rfl, rfl, hR1⟩
 obtain rfl := hR1.symm
 clear hR1
 refine Sy.heap (fun w h => St.also h (f := RowsA (aa 0) 4 (mrows (partS g.miss c.hs ms 0))) (fun w' hg => hg (fun w => ∀ s < 64, RowsA (aa s) 4 (mrows (partS g.miss c.hs ms s)) w) (by simp) 0 (by decide))) ?_
 obtain ⟨l, hl⟩ : ∃ l, l = partS g.miss c.hs ms 0 := ⟨_, rfl⟩
 obtain ⟨hl1, hl2, hl3, hl4⟩ := all_link hw0 hms hl
 refine sp rfl (PE.indexAddr el107 rfl rfl (by omega) (by omega)) rfl ?_
 refine spL rfl rfl (lf0 (x := .slice (aa 0) (partS g.miss c.hs ms 0).length (cc 0)) sc106 (by rfl) rfl) rfl ?_
 refine sp rfl (PE.assign rfl) rfl ?_
 refine sy_seq ?_
 refine sy_seq ?_
 refine sy_tx' [0] rfl ?_
 rw [← hl]
 refine sp rfl (PE.assign rfl) rfl ?_
 refine sy_seq ?_
 refine sy_tx' [0, 1, 2] rfl ?_
 refine sp rfl (PE.move rfl) rfl ?_
 refine sp rfl (PE.lenSl isl106 rfl) rfl ?_
 refine sp rfl (PE.gtr rfl rfl) rfl ?_
 refine sy_join (ι := Unit) (fun _ => ⟨[(2, .int .i64 k), (3, .pointer (some ⟨b3, 0, none⟩)), (4, .pointer (some ⟨b4, 0, none⟩)), (7, .pointer (some ⟨b7, 0, none⟩)), (8, .pointer (some ⟨b8, 0, none⟩)), (9, .pointer (some ⟨b9, 0, none⟩)), (10, .pointer (some ⟨b10, 0, none⟩)), (13, .pointer (some ⟨b13, 0, none⟩)), (14, .pointer (some ⟨b14, 0, none⟩)), (11, .int .i64 (toldE g c false))], (b14, cel 61 [.int .i64 0, .int .i64 0]) :: (b13, cel 64 (ints (bndB g c))) :: (b10, cel 79 (ctl c (c.sl a4 c4))) :: (b9, cel 89 (gtl g (g.sl a3 c3))) :: (b8, cel 28 (ctl c (c.sl a2 c2))) :: (b7, cel 25 (gtl g (g.sl a1 c1))) :: (b4, cel 28 (ctl c (c.sl ah ch))) :: (b3, cel 25 (gtl g (g.sl ag cg))) :: H, RowsA a4 5 (hrows c.hs) :: RowsA a3 5 (grows g.grs) :: RowsA a2 5 (hrows c.hs) :: RowsA a1 5 (grows g.grs) :: R⟩) ?_ ?_
 refine sy_cond rfl (fun hc2 => ?_) (fun hc2 => ?_)
 try simp only [decide_eq_true_eq, decide_eq_false_iff_not, Bool.and_eq_true, Bool.or_eq_true, Bool.not_eq_true', Int.not_le, Int.not_lt] at hc2
 obtain ⟨ht0, htt, hmm⟩ := hl3 (by omega)
 have hbr := bnd_ref htt hmm (by omega)
 refine sy_tx' [0, 1, 2, 3] rfl ?_
 refine sp rfl (PE.move rfl) rfl ?_
 refine cl rfl cal58 rfl rfl (c_rBounds l hl1 (by omega) (by omega) (aa 0) (cc 0) _ _ (hA := (by rw [hl]; infer_instance))) ?_
 rintro _ _ _ ⟨rfl, rfl, rfl⟩
 rw [hbr]
 refine sp rfl (PE.assign rfl) rfl ?_
 refine stoA rfl rfl rfl cn64 rfl (by rw [ints_length]; exact bnd_len g c) rfl (ints_one _) ?_
 exact sy_jend () (by dsimp only; rw [ht0]; exact (by repeat' first | exact Sub.nil | apply Sub.cons | rfl | (simp [lk]; omega))) (fun w h => St.sub (by dsimp only; exact h))
 try simp only [decide_eq_true_eq, decide_eq_false_iff_not, Bool.and_eq_true, Bool.or_eq_true, Bool.not_eq_true', Int.not_le, Int.not_lt] at hc2
 have ht0 := hl4 (by omega)
 obtain ⟨eb, _⟩ := bnd_err (g := g) (c := c) (by rw [ht0]; decide)
 refine sy_skip ?_
 exact sy_jend () (by dsimp only; rw [ht0]; exact (by repeat' first | exact Sub.nil | apply Sub.cons | rfl | (simp [lk]; omega))) (fun w h => St.sub (by dsimp only; rw [eb]; exact h))
 rintro ⟨⟩
 dsimp only
 refine sy_seq ?_
 refine sy_tx' [0] rfl ?_
 refine sp rfl (PE.assign rfl) rfl ?_
 refine sy_seq ?_
 refine sy_tx' [0, 1, 2, 3, 4, 5] rfl ?_
 refine sp rfl (PE.move rfl) rfl ?_
 refine sp rfl (PE.geq rfl rfl) rfl ?_
 refine sp rfl (PE.move rfl) rfl ?_
 refine sy_case (t := 53) rfl (fun g53 => ?_) (fun g53 => ?_)
 try simp only [decide_eq_true_eq, decide_eq_false_iff_not, Bool.and_eq_true, Bool.or_eq_true, Bool.not_eq_true', Int.not_le, Int.not_lt] at g53
 refine spG rfl rfl rfl rfl (PE.move rfl) rfl ?_
 refine spG rfl rfl rfl rfl (PE.leq rfl rfl) rfl ?_
 refine sp rfl (PE.pick rfl rfl rfl) rfl ?_
 refine sy_join (ι := Unit) (fun _ => ⟨[(2, .int .i64 k), (3, .pointer (some ⟨b3, 0, none⟩)), (4, .pointer (some ⟨b4, 0, none⟩)), (7, .pointer (some ⟨b7, 0, none⟩)), (8, .pointer (some ⟨b8, 0, none⟩)), (9, .pointer (some ⟨b9, 0, none⟩)), (10, .pointer (some ⟨b10, 0, none⟩)), (13, .pointer (some ⟨b13, 0, none⟩)), (14, .pointer (some ⟨b14, 0, none⟩)), (11, .int .i64 (toldE g c false)), (12, .int .i64 (toldE g c (!(inb k 0 3))))], (b14, cel 61 [.int .i64 (wgtP g c k).1, .int .i64 (wgtP g c k).2]) :: (b13, cel 64 (ints (bndB g c))) :: (b10, cel 79 (ctl c (c.sl a4 c4))) :: (b9, cel 89 (gtl g (g.sl a3 c3))) :: (b8, cel 28 (ctl c (c.sl a2 c2))) :: (b7, cel 25 (gtl g (g.sl a1 c1))) :: (b4, cel 28 (ctl c (c.sl ah ch))) :: (b3, cel 25 (gtl g (g.sl ag cg))) :: H, RowsA a4 5 (hrows c.hs) :: RowsA a3 5 (grows g.grs) :: RowsA a2 5 (hrows c.hs) :: RowsA a1 5 (grows g.grs) :: R⟩) ?_ ?_
 refine sy_cond rfl (fun hc3 => ?_) (fun hc3 => ?_)
 try simp only [decide_eq_true_eq, decide_eq_false_iff_not, Bool.and_eq_true, Bool.or_eq_true, Bool.not_eq_true', Int.not_le, Int.not_lt] at hc3
 obtain ⟨q, rfl⟩ : ∃ q : Nat, k = q := ⟨k.toNat, by omega⟩
 have hq4 : q < 4 := by omega
 refine sy_seq ?_
 refine sy_tx' [0, 1] rfl ?_
 refine sp rfl (PE.move rfl) rfl ?_
 refine sp rfl (PE.assign rfl) rfl ?_
 refine sy_seq ?_
 refine sy_tx' [0, 1] rfl ?_
 refine sp rfl (PE.move rfl) rfl ?_
 refine sp rfl (PE.eql rfl rfl) rfl ?_
 refine sy_cond rfl (fun hc4 => ?_) (fun hc4 => ?_)
 try simp only [decide_eq_true_eq, decide_eq_false_iff_not, Bool.and_eq_true, Bool.or_eq_true, Bool.not_eq_true', Int.not_le, Int.not_lt] at hc4
 have ht0 : toldE g c false = 0 := by omega
 obtain ⟨e1, e2⟩ := wgt_ok hq4 ht0
 obtain ⟨_, bb, _, _, ebb, htt⟩ := told_0 ht0
 have hbq := (ebb ▸ htt).ok.at_ q hq4
 obtain ⟨hv1, hv2⟩ := net_bd hgo hco
 have hfq := (ebb ▸ htt).fit q hq4
 have hm1 := mul_b hv1.1 hv1.2 (show 0 ≤ bl (bndB g c) q by omega) (show bl (bndB g c) q ≤ 40 by omega)
 have hm2 := mul_b hv2.1 hv2.2 (show 0 ≤ bh (bndB g c) q by omega) (show bh (bndB g c) q ≤ 40 by omega)
 refine sy_seq ?_
 refine sy_tx' [0, 1, 2, 3, 4] rfl ?_
 refine spL rfl rfl (lhA [_, _, _] ag89 rfl rfl rfl) rfl ?_
 refine spL rfl rfl (lhA [_, _, _] ag79 rfl rfl rfl) rfl ?_
 refine clV rfl cal48 rfl rfl (c_rNet g hgo (g.sl a3 c3) c hco (c.sl a4 c4) _ _) ?_
 refine alc rfl zl61 rfl (fun b16 => ?_)
 refine sto rfl rfl rfl cn61 rfl rfl rfl rfl ?_
 refine sy_draw [0, 1, 0, 4, 12, 28, 63, 127, 0, 256, 0, 1024, 3072, 7168, 16128, 32512, 65535, 131071] (.tk 0 (.ld 1 (.tk 2 (.tk 3 (.tk 4 (.ld 5 (.tk 6 (.tk 7 (.tk 8 (.ld 9 (.tk 10 (.tk 11 (.tk 12 (.ld 13 (.tk 14 (.tk 15 (.tk 16 (.big 17 .done)))))))))))))))))) mixed (by kernel_rfl) ?_
 refine tk rfl (PE.fieldAddr fo61_0 rfl) rfl ?_
 refine ld rfl rfl (lh sc3 rfl rfl) rfl ?_
 refine tk rfl (PE.move rfl) rfl ?_
 refine tk rfl (PE.indexArr ar64 rfl rfl (by omega) (by omega)) rfl ?_
 refine tk rfl (PE.fieldAddr fo61_0 rfl) rfl ?_
 refine ld rfl rfl (lh sc3 rfl (bx_lo (bnd_len g c) hq4)) rfl ?_
 refine tk rfl (PE.mul rfl rfl (by omega)) rfl ?_
 refine tk rfl (PE.quo rfl rfl (by omega)) rfl ?_
 refine tk rfl (PE.fieldAddr fo61_1 rfl) rfl ?_
 refine ld rfl rfl (lh sc3 rfl rfl) rfl ?_
 refine tk rfl (PE.move rfl) rfl ?_
 refine tk rfl (PE.indexArr ar64 rfl rfl (by omega) (by omega)) rfl ?_
 refine tk rfl (PE.fieldAddr fo61_1 rfl) rfl ?_
 refine ld rfl rfl (lh sc3 rfl (bx_hi (bnd_len g c) hq4)) rfl ?_
 refine tk rfl (PE.mul rfl rfl (by omega)) rfl ?_
 refine tk rfl (PE.quo rfl rfl (by omega)) rfl ?_
 refine tk rfl (PE.build (out := [_, _]) pl61 zl61 rfl rfl) rfl ?_
 refine sto rfl rfl rfl cn61 rfl rfl rfl rfl ?_
 refine bg (fun w hs => ⟨trivial, trivial, trivial, trivial, trivial⟩) ?_
 exact sy_jend () (by dsimp only; rw [e1, ht0]; exact (by repeat' first | exact Sub.nil | apply Sub.cons | rfl | (simp [lk]; omega))) (fun w h => by dsimp only; rw [e2]; exact h.del b16)
 try simp only [decide_eq_true_eq, decide_eq_false_iff_not, Bool.and_eq_true, Bool.or_eq_true, Bool.not_eq_true', Int.not_le, Int.not_lt] at hc4
 have ht0 : toldE g c false ≠ 0 := by omega
 have hik : inb (q : Int) 0 3 = true := by simp [inb]; omega
 have e1 : toldE g c (!(inb (q : Int) 0 3)) = toldE g c false := by rw [hik]; rfl
 have e2 := wgt_err (g := g) (c := c) (k := q) (by rw [e1]; exact ht0)
 refine sy_skip ?_
 exact sy_jend () (by dsimp only; rw [e1]; exact (by repeat' first | exact Sub.nil | apply Sub.cons | rfl | (simp [lk]; omega))) (fun w h => St.sub (by dsimp only; rw [e2]; exact h))
 try simp only [decide_eq_true_eq, decide_eq_false_iff_not, Bool.and_eq_true, Bool.or_eq_true, Bool.not_eq_true', Int.not_le, Int.not_lt] at hc3
 have hik : inb k 0 3 = false := by simp [inb]; omega
 have e1 : toldE g c (!(inb k 0 3)) = 1 := by rw [hik]; exact told_one hw0
 have e2 := wgt_err (g := g) (c := c) (k := k) (by rw [e1]; decide)
 refine sy_skip ?_
 exact sy_jend () (by dsimp only; rw [e1]; exact (by repeat' first | exact Sub.nil | apply Sub.cons | rfl | (simp [lk]; omega))) (fun w h => St.sub (by dsimp only; rw [e2]; exact h))
 rintro ⟨⟩
 dsimp only
 exact sy_jend () (by dsimp only; exact (by repeat' first | exact Sub.nil | apply Sub.cons | rfl | (simp [lk]; omega))) (fun w h => St.sub (by dsimp only; exact h))
 try simp only [decide_eq_true_eq, decide_eq_false_iff_not, Bool.and_eq_true, Bool.or_eq_true, Bool.not_eq_true', Int.not_le, Int.not_lt] at g53
 have hik : inb k 0 3 = false := by simp [inb]; omega
 have e1 : toldE g c (!(inb k 0 3)) = 1 := by rw [hik]; exact told_one hw0
 have e2 := wgt_err (g := g) (c := c) (k := k) (by rw [e1]; decide)
 repeat refine spN rfl rfl rfl rfl rfl rfl rfl rfl ?_
 refine sp rfl (PE.pick rfl rfl rfl) rfl ?_
 refine sy_join (ι := Unit) (fun _ => ⟨[(2, .int .i64 k), (3, .pointer (some ⟨b3, 0, none⟩)), (4, .pointer (some ⟨b4, 0, none⟩)), (7, .pointer (some ⟨b7, 0, none⟩)), (8, .pointer (some ⟨b8, 0, none⟩)), (9, .pointer (some ⟨b9, 0, none⟩)), (10, .pointer (some ⟨b10, 0, none⟩)), (13, .pointer (some ⟨b13, 0, none⟩)), (14, .pointer (some ⟨b14, 0, none⟩)), (11, .int .i64 (toldE g c false)), (12, .int .i64 (toldE g c (!(inb k 0 3))))], (b14, cel 61 [.int .i64 (wgtP g c k).1, .int .i64 (wgtP g c k).2]) :: (b13, cel 64 (ints (bndB g c))) :: (b10, cel 79 (ctl c (c.sl a4 c4))) :: (b9, cel 89 (gtl g (g.sl a3 c3))) :: (b8, cel 28 (ctl c (c.sl a2 c2))) :: (b7, cel 25 (gtl g (g.sl a1 c1))) :: (b4, cel 28 (ctl c (c.sl ah ch))) :: (b3, cel 25 (gtl g (g.sl ag cg))) :: H, RowsA a4 5 (hrows c.hs) :: RowsA a3 5 (grows g.grs) :: RowsA a2 5 (hrows c.hs) :: RowsA a1 5 (grows g.grs) :: R⟩) ?_ ?_
 refine sy_condF rfl ?_
 refine sy_skip ?_
 exact sy_jend () (by dsimp only; rw [e1]; exact (by repeat' first | exact Sub.nil | apply Sub.cons | rfl | (simp [lk]; omega))) (fun w h => St.sub (by dsimp only; rw [e2]; exact h))
 rintro ⟨⟩
 dsimp only
 exact sy_jend () (by dsimp only; exact (by repeat' first | exact Sub.nil | apply Sub.cons | rfl | (simp [lk]; omega))) (fun w h => St.sub (by dsimp only; exact h))
 have hw0 : bothE g c ≠ 0 := by simpa using hc1
 have ht0 := told_err hw0 false
 have htk := told_err hw0 (!(inb k 0 3))
 obtain ⟨eb, _⟩ := bnd_err (g := g) (c := c) (by rw [ht0]; exact hw0)
 have ew := wgt_err (g := g) (c := c) (k := k) (by rw [htk]; exact hw0)
 refine sy_skip ?_
 exact sy_jend () (by dsimp only; rw [ht0, htk]; exact (by repeat' first | exact Sub.nil | apply Sub.cons | rfl | (simp [lk]; omega))) (fun w h => St.sub (by dsimp only; rw [ew, eb]; exact h))
 rintro ⟨⟩
 dsimp only
 refine sy_seq ?_
 refine sy_tx' [0, 1, 2, 3, 4, 5, 6, 7, 8] rfl ?_
 refine spL rfl rfl (lhA [_, _, _] ag25 rfl rfl rfl) rfl ?_
 refine spL rfl rfl (lhA [_, _, _] ag28 rfl rfl rfl) rfl ?_
 refine cl rfl cal28 rfl rfl (c_Bounds g a1 c1 (by omega) c a2 c2 (by omega) _ _) ?_
 rintro _ _ _ ⟨rfl, rfl, rfl⟩
 refine sp rfl (PE.move rfl) rfl ?_
 refine sp rfl (PE.extract rfl rfl) rfl ?_
 refine sp rfl (PE.extract rfl rfl) rfl ?_
 refine alc rfl zl64 rfl (fun b17 => ?_)
 refine stoA rfl rfl rfl cn64 rfl (by rw [ints_length]; exact bnd_len g c) rfl (ints_one _) ?_
 refine sp rfl (PE.assign rfl) rfl ?_
 refine sy_seq ?_
 refine sy_tx' [0, 1, 2, 3, 4, 5, 6, 7, 8] rfl ?_
 refine spL rfl rfl (lhA [_, _, _] ag25 rfl rfl rfl) rfl ?_
 refine spL rfl rfl (lhA [_, _, _] ag28 rfl rfl rfl) rfl ?_
 refine cl rfl cal59 rfl rfl (c_Mixture g a1 c1 (by omega) c a2 c2 (by omega) _ _) ?_
 rintro _ _ _ ⟨rfl, rfl, rfl⟩
 refine sp rfl (PE.move rfl) rfl ?_
 refine sp rfl (PE.extract rfl rfl) rfl ?_
 refine sp rfl (PE.extract rfl rfl) rfl ?_
 refine alc rfl zl31 rfl (fun b19 => ?_)
 refine stoA rfl rfl rfl cn31 rfl (by rw [ints_length]; exact mixP_len g c) rfl (ints_one _) ?_
 refine sp rfl (PE.assign rfl) rfl ?_
 refine sy_seq ?_
 refine sy_tx' [0, 1, 2, 3, 4, 5, 6, 7, 8, 9] rfl ?_
 refine spL rfl rfl (lhA [_, _, _] ag25 rfl rfl rfl) rfl ?_
 refine spL rfl rfl (lhA [_, _, _] ag28 rfl rfl rfl) rfl ?_
 refine sp rfl (PE.move rfl) rfl ?_
 refine cl rfl cal60 rfl rfl (c_Weight g a1 c1 (by omega) c a2 c2 (by omega) k _ _) ?_
 rintro _ _ _ ⟨rfl, rfl, rfl⟩
 rw [wgtR_eq]
 refine sp rfl (PE.move rfl) rfl ?_
 refine sp rfl (PE.extract rfl rfl) rfl ?_
 refine sp rfl (PE.extract rfl rfl) rfl ?_
 refine alc rfl zl61 rfl (fun b21 => ?_)
 refine sto rfl rfl rfl cn61 rfl rfl rfl rfl ?_
 refine sp rfl (PE.assign rfl) rfl ?_
 refine sy_seq ?_
 refine sy_seq ?_
 refine sy_tx' [0, 1, 2, 3, 4, 5, 6, 7, 8, 9, 10, 11, 12, 13, 14, 15, 16, 17, 18, 19, 20, 21, 22] rfl ?_
 refine sp rfl (PE.move rfl) rfl ?_
 refine sp rfl (PE.move rfl) rfl ?_
 refine sp rfl (PE.neq rfl rfl) rfl ?_
 refine sp rfl (PE.move rfl) rfl ?_
 refine sy_case (t := 102) rfl (fun g102 => ?_) (fun g102 => ?_)
 exact absurd g102 (by simp)
 refine spG rfl rfl rfl rfl (PE.move rfl) rfl ?_
 refine spG rfl rfl rfl rfl (PE.move rfl) rfl ?_
 refine spG rfl rfl rfl rfl (PE.neq rfl rfl) rfl ?_
 refine sp rfl (PE.pick rfl rfl rfl) rfl ?_
 refine sp rfl (PE.move rfl) rfl ?_
 refine sy_case (t := 107) rfl (fun g107 => ?_) (fun g107 => ?_)
 exact absurd g107 (by simp)
 refine spG rfl rfl rfl rfl (PE.move rfl) rfl ?_
 refine spG rfl rfl rfl rfl (PE.move rfl) rfl ?_
 refine spG rfl rfl rfl rfl (PE.neq rfl rfl) rfl ?_
 refine sp rfl (PE.pick rfl rfl rfl) rfl ?_
 refine sp rfl (PE.move rfl) rfl ?_
 refine sy_case (t := 112) rfl (fun g112 => ?_) (fun g112 => ?_)
 exact absurd g112 (by simp)
 refine spLG rfl rfl rfl rfl rfl (lhA (ints (bndB g c)) ag64 rfl (rest := []) (by rw [List.append_nil]; rfl) (by rw [ints_length]; exact bnd_len g c)) rfl ?_
 refine spLG rfl rfl rfl rfl rfl (lhA (ints (bndB g c)) ag64 rfl (rest := []) (by rw [List.append_nil]; rfl) (by rw [ints_length]; exact bnd_len g c)) rfl ?_
 refine spG rfl rfl rfl rfl (PE.neqAgg (bndB g c) (bndB g c) (eqB_ok 10000 64 true 8 eqf64) eqg64 rfl rfl (bnd_len g c) (bnd_len g c)) rfl ?_
 refine sp rfl (PE.pick rfl rfl rfl) rfl ?_
 refine sp rfl (PE.move rfl) rfl ?_
 refine sy_case (t := 117) rfl (fun g117 => ?_) (fun g117 => ?_)
 exact absurd g117 (by simp)
 refine spLG rfl rfl rfl rfl rfl (lhA [_, _] ag61 rfl rfl rfl) rfl ?_
 refine spLG rfl rfl rfl rfl rfl (lhA [_, _] ag61 rfl rfl rfl) rfl ?_
 refine spG rfl rfl rfl rfl (PE.neqAgg [(wgtP g c k).1, (wgtP g c k).2] [(wgtP g c k).1, (wgtP g c k).2] (eqB_ok 10000 61 true 2 eqf61) eqg61 rfl rfl rfl rfl) rfl ?_
 refine sp rfl (PE.pick rfl rfl rfl) rfl ?_
 refine sy_cond rfl (fun hc5 => ?_) (fun hc5 => ?_)
 exact absurd hc5 (by first | (simp; done) | (rw [decide_eq_false (by omega)]; simp))
 refine sy_skip ?_
 refine sy_seq ?_
 refine sy_seq ?_
 refine sy_tx' [0, 1] rfl ?_
 refine sp rfl (PE.move rfl) rfl ?_
 refine sp rfl (PE.neq rfl rfl) rfl ?_
 refine sy_cond rfl (fun hc6 => ?_) (fun hc6 => ?_)
 try simp only [decide_eq_true_eq, decide_eq_false_iff_not, Bool.and_eq_true, Bool.or_eq_true, Bool.not_eq_true', Int.not_le, Int.not_lt] at hc6
 obtain ⟨_, em⟩ := bnd_err (g := g) (c := c) (by omega)
 rw [em]
 refine sy_seq ?_
 refine sy_tx' [0, 1, 2, 3, 4, 5, 6] rfl ?_
 refine spL rfl rfl (lhA (ints ([0, 0, 0, 0])) ag31 rfl (rest := []) (by rw [List.append_nil]; rfl) (by rw [ints_length]; exact rfl)) rfl ?_
 refine sp rfl (PE.zero (.inr (by rw [ar31]; rfl)) zl31) rfl ?_
 refine sp rfl (PE.eqlAgg [0, 0, 0, 0] [0, 0, 0, 0] (eqB_ok 10000 31 true 4 eqf31) eqg31 rfl rfl rfl rfl) rfl ?_
 refine sp rfl (PE.move rfl) rfl ?_
 refine sy_case (t := 127) rfl (fun g127 => ?_) (fun g127 => ?_)
 refine clVG rfl rfl rfl rfl cal8 rfl rfl (c_awake _ _) ?_
 refine sp rfl (PE.pick rfl rfl rfl) rfl ?_
 refine sp rfl (PE.assign rfl) rfl ?_
 refine sy_ret ?_
 exact sy_return (vs := [_]) rfl (.cons (RV.tmp rfl) .nil) rfl ⟨rfl, rfl, rfl⟩ drp
 exact absurd g127 (by simp)
 try simp only [decide_eq_true_eq, decide_eq_false_iff_not, Bool.and_eq_true, Bool.or_eq_true, Bool.not_eq_true', Int.not_le, Int.not_lt] at hc6
 have ht0 : toldE g c false = 0 := by omega
 obtain ⟨hmx, hma, hme⟩ := mix_0 ht0
 obtain ⟨hgo, hco⟩ := both_ok (told_0 ht0).1
 refine sy_skip ?_
 refine sy_seq ?_
 refine sy_tx' [0, 1, 2, 3, 4, 5, 6, 7, 8, 9, 10, 11, 12, 13, 14, 15, 16, 17, 18, 19, 20, 21, 22] rfl ?_
 refine spL rfl rfl (lhA (ints (mixP g c)) ag31 rfl (rest := []) (by rw [List.append_nil]; rfl) (by rw [ints_length]; exact hmx.len)) rfl ?_
 refine cl rfl cal51 rfl rfl (c_rMixed (mixP g c) hmx.len _ _) ?_
 rintro _ _ _ ⟨rfl, rfl, rfl⟩
 rw [hme]
 refine sp rfl (PE.eql rfl rfl) rfl ?_
 refine sp rfl (PE.move rfl) rfl ?_
 refine sy_case (t := 133) rfl (fun g133 => ?_) (fun g133 => ?_)
 refine spLG rfl rfl rfl rfl rfl (lhA [_, _, _] ag89 rfl rfl rfl) rfl ?_
 refine spLG rfl rfl rfl rfl rfl (lhA [_, _, _] ag79 rfl rfl rfl) rfl ?_
 refine spLG rfl rfl rfl rfl rfl (lhA (ints (mixP g c)) ag31 rfl (rest := []) (by rw [List.append_nil]; rfl) (by rw [ints_length]; exact hmx.len)) rfl ?_
 refine clG rfl rfl rfl rfl cal52 rfl rfl (c_rFits g hgo.miss (g.sl a3 c3) c hco a4 c4 (mixP g c) hmx _ _) ?_
 rintro _ _ _ ⟨rfl, rfl, rfl⟩
 rw [hma]
 refine sp rfl (PE.pick rfl rfl rfl) rfl ?_
 refine sp rfl (PE.move rfl) rfl ?_
 refine sy_case (t := 139) rfl (fun g139 => ?_) (fun g139 => ?_)
 refine spLG rfl rfl rfl rfl rfl (lhA [_, _, _] ag25 rfl rfl rfl) rfl ?_
 refine spLG rfl rfl rfl rfl rfl (lhA [_, _, _] ag25 rfl rfl rfl) rfl ?_
 refine clVG rfl rfl rfl rfl cal45 rfl rfl (c_same g a1 ag c1 cg (by omega) _ _) ?_
 refine sp rfl (PE.pick rfl rfl rfl) rfl ?_
 refine sp rfl (PE.move rfl) rfl ?_
 refine sy_case (t := 144) rfl (fun g144 => ?_) (fun g144 => ?_)
 refine spLG rfl rfl rfl rfl rfl (lhA [_, _, _] ag28 rfl rfl rfl) rfl ?_
 refine spLG rfl rfl rfl rfl rfl (lhA [_, _, _] ag28 rfl rfl rfl) rfl ?_
 refine clVG rfl rfl rfl rfl cal46 rfl rfl (c_alike c a2 ah c2 ch (by omega) _ _) ?_
 refine sp rfl (PE.pick rfl rfl rfl) rfl ?_
 refine sp rfl (PE.move rfl) rfl ?_
 refine sy_case (t := 149) rfl (fun g149 => ?_) (fun g149 => ?_)
 refine clVG rfl rfl rfl rfl cal8 rfl rfl (c_awake _ _) ?_
 refine sp rfl (PE.pick rfl rfl rfl) rfl ?_
 refine sp rfl (PE.assign rfl) rfl ?_
 refine sy_ret ?_
 exact sy_return (vs := [_]) rfl (.cons (RV.tmp rfl) .nil) rfl ⟨rfl, rfl, rfl⟩ drp
 exact absurd g149 (by simp)
 exact absurd g144 (by simp)
 exact absurd g139 (by simp)
 exact absurd g133 (by simp)
end Go.Proofs.YtndhkpnaeocnhaaGreat
namespace Go.Proofs.YtndhkpnaeocnhaaGreat
set_option linter.unusedSimpArgs false
set_option linter.unusedVariables false
open Go
theorem cal67 : cal Tryz.prog 67 = true := by kernel_rfl
theorem cal68 : cal Tryz.prog 68 = true := by kernel_rfl
theorem cal69 : cal Tryz.prog 69 = true := by kernel_rfl
theorem cal71 : cal Tryz.prog 71 = true := by kernel_rfl
def payP (g : Gat) (c : Crt) : Int × Int := bif decide (toldE g c false ≠ 0) then (0, 0) else ((netP g c).1 * leastP g.grs (canR g c), (netP g c).2 * mostP g.grs (canR g c))
theorem payR_eq (g : Gat) (c : Crt) : payR g c = .tuple #[spv (payP g c).1 (payP g c).2, .int .i64 (toldE g c false)] := by
  unfold payR payP
  by_cases h : toldE g c false = 0
  · rw [decide_eq_false (show ¬ toldE g c false ≠ 0 by omega), h]; rfl
  · rw [decide_eq_true h]; rfl
theorem grd_err {g : Gat} {c : Crt} (h : toldE g c false ≠ 0) : canR g c = [] ∧ sureR g c = (0, toldE g c false) ∧ payP g c = (0, 0) := by
  unfold canR sureR payP; rw [decide_eq_true h]; exact ⟨rfl, rfl, rfl⟩
theorem pay_ok {g : Gat} {c : Crt} (h : toldE g c false = 0) : payP g c = ((netP g c).1 * leastP g.grs (canR g c), (netP g c).2 * mostP g.grs (canR g c)) := by
  unfold payP; rw [decide_eq_false (show ¬ toldE g c false ≠ 0 by omega)]; rfl
theorem can_told {g : Gat} {c : Crt} (h : toldE g c false = 0) : canR g c = canG g.grs (bndB g c) := by
  unfold canR; rw [decide_eq_false (show ¬ toldE g c false ≠ 0 by omega)]; rfl
theorem sure_many {g : Gat} {c : Crt} (h : 1 < (canR g c).length) : sureR g c = (0, 6) := by
  have h0 : toldE g c false = 0 := by
    by_cases h1 : toldE g c false = 0
    · exact h1
    · rw [(grd_err h1).1] at h; simp at h
  unfold sureR; rw [decide_eq_false (show ¬ toldE g c false ≠ 0 by omega), decide_eq_true h]; rfl
theorem sure_one {g : Gat} {c : Crt} (h0 : toldE g c false = 0) (h : ¬ 1 < (canR g c).length) : ∃ x, canR g c = [x] ∧ sureR g c = (x, 0) := by
  obtain ⟨_, b, _, _, e, ht⟩ := told_0 h0
  have hp := can_pos (l := g.grs) ht
  rw [← e, ← can_told h0] at hp
  obtain ⟨x, hx⟩ := List.length_eq_one_iff.1 (show (canR g c).length = 1 by omega)
  refine ⟨x, hx, ?_⟩
  unfold sureR; rw [decide_eq_false (show ¬ toldE g c false ≠ 0 by omega), decide_eq_false h, hx]; rfl
theorem can_rng {g : Gat} {c : Crt} : ∀ gr ∈ canR g c, gr = -1 ∨ ∃ i x, g.grs[i]? = some x ∧ gr = (i : Nat) := fun gr hgr => by
  by_cases h0 : toldE g c false = 0
  · obtain ⟨_, b, _, _, e, ht⟩ := told_0 h0
    rw [can_told h0, e] at hgr
    obtain ⟨m, _, rfl⟩ := (can_iff ht.ok).1 hgr
    exact hasG_rg _ m
  · rw [(grd_err h0).1] at hgr; cases hgr
theorem show_err {g : Gat} {c : Crt} {gr : Int} (h : toldE g c (!(inb gr (-1) ((g.grs.length : Int) - 1))) ≠ 0) : showR g c gr = ([0, 0, 0, 0], toldE g c (!(inb gr (-1) ((g.grs.length : Int) - 1)))) := by
  unfold showR; rw [decide_eq_true h]; rfl
theorem show_in {g : Gat} {c : Crt} {gr : Int} (h0 : toldE g c false = 0) (hg : -1 ≤ gr ∧ gr < g.grs.length) : (gr ∈ canR g c ∧ ∃ q, showR g c gr = (q, 0) ∧ Mxt q ∧ (c.hs.all fun x => fitB g.miss x q) = true ∧ hasG g.grs q = gr) ∨ (gr ∉ canR g c ∧ showR g c gr = ([0, 0, 0, 0], 6)) := by
  obtain ⟨hb, b, hcl, _, e, ht⟩ := told_0 h0
  obtain ⟨hgo, hco⟩ := both_ok hb
  have hin : (!(inb gr (-1) ((g.grs.length : Int) - 1))) = false := by simp [inb]; omega
  have hj : gr = -1 ∨ ∃ i x, g.grs[i]? = some x ∧ gr = (i : Nat) := by
    by_cases h9 : gr = -1
    · exact .inl h9
    · exact .inr ⟨gr.toNat, _, List.getElem?_eq_getElem (by omega), by omega⟩
  have e2 : showR g c gr = match shwB g.grs b gr with
    | some x => (mixt x, 0)
    | none => ([0, 0, 0, 0], 6) := by
    unfold showR
    rw [hin, decide_eq_false (show ¬ toldE g c false ≠ 0 by omega), e]; rfl
  obtain ⟨h1, h2⟩ := shw_ok ht.ok hj
  rw [can_told h0, e]
  have hmx : ∀ m, Mx b m ↔ (Mxt m ∧ ∀ x ∈ c.hs, fitB g.miss x m = true) := fun m => ((clo_some (boxF_ok _ _ _) hcl).2 m).trans (box_all hgo hco m)
  cases hs : shwB g.grs b gr with
  | none =>
    rw [hs] at e2
    refine .inr ⟨fun h3 => ?_, e2⟩
    obtain ⟨q, h4, h5⟩ := (can_iff ht.ok).1 h3
    exact h2 hs q h4 h5
  | some x =>
    rw [hs] at e2
    obtain ⟨h3, h4, h5⟩ := h1 x hs
    obtain ⟨h6, h7⟩ := (hmx _).1 h3
    exact .inl ⟨(can_iff ht.ok).2 ⟨_, h3, h4⟩, mixt x, e2, h6, List.all_eq_true.2 h7, h4⟩
theorem show_rng {g : Gat} {c : Crt} {gr : Int} (h : (showR g c gr).2 = 0) : toldE g c false = 0 ∧ -1 ≤ gr ∧ gr < g.grs.length := by
  by_cases h1 : toldE g c (!(inb gr (-1) ((g.grs.length : Int) - 1))) = 0
  · have hin : inb gr (-1) ((g.grs.length : Int) - 1) = true := by
      cases hi : inb gr (-1) ((g.grs.length : Int) - 1) with
      | true => rfl
      | false => rw [hi] at h1; exact (told_bad h1).elim
    rw [hin] at h1
    simp only [inb, Bool.and_eq_true, decide_eq_true_eq] at hin
    exact ⟨h1, by omega⟩
  · rw [show_err h1] at h; exact absurd h h1
theorem show_len (g : Gat) (c : Crt) (gr : Int) : (showR g c gr).1.length = 4 ∧ ((showR g c gr).2 ≠ 0 → (showR g c gr).1 = [0, 0, 0, 0]) ∧ ((showR g c gr).2 = 0 → Mxt (showR g c gr).1 ∧ (c.hs.all fun x => fitB g.miss x (showR g c gr).1) = true ∧ hasG g.grs (showR g c gr).1 = gr ∧ mixE (showR g c gr).1 = 0) := by
  by_cases h : (showR g c gr).2 = 0
  · obtain ⟨h0, hg⟩ := show_rng h
    rcases show_in h0 hg with ⟨_, q, e, h1, h2, h3⟩ | ⟨_, e⟩
    · rw [e]; exact ⟨h1.len, fun h9 => absurd rfl h9, fun _ => ⟨h1, h2, h3, (mix_ok h1.len).2 h1⟩⟩
    · rw [e] at h; exact absurd h (by decide)
  · have hz : (showR g c gr).1 = [0, 0, 0, 0] := by
      by_cases h1 : toldE g c (!(inb gr (-1) ((g.grs.length : Int) - 1))) = 0
      · have hin : inb gr (-1) ((g.grs.length : Int) - 1) = true := by
          cases hi : inb gr (-1) ((g.grs.length : Int) - 1) with
          | true => rfl
          | false => rw [hi] at h1; exact (told_bad h1).elim
        rw [hin] at h1
        simp only [inb, Bool.and_eq_true, decide_eq_true_eq] at hin
        rcases show_in (gr := gr) h1 (by omega) with ⟨_, q, e, _⟩ | ⟨_, e⟩
        · rw [e] at h; exact absurd rfl h
        · rw [e]
      · rw [show_err h1]
    exact ⟨by rw [hz]; rfl, fun _ => hz, fun h9 => absurd h9 h⟩
theorem c_Eq_int (xs ys : List Int) (a a2 : Option Addr) (c c2 : Nat) (hl : xs.length ≤ 9223372036854775807) (hl2 : ys.length ≤ 9223372036854775807) (H : Heap) (R : Facts) [hR : MemRows a 1 (irows xs) R] [hR2 : MemRows a2 1 (irows ys) R] :
    FnV Tryz.prog 67 [.slice a xs.length c, .slice a2 ys.length c2] H R (.bool (decide (xs = ys))) := by
 refine fn_of Tryz.func67 rfl Tryz.ntmps67 rfl ?_
 refine sy_seq ?_
 refine sy_tx' [0] rfl ?_
 refine sp rfl (PE.assign rfl) rfl ?_
 refine sy_seq ?_
 refine sy_tx' [0, 1, 2, 3] rfl ?_
 refine sp rfl (PE.move rfl) rfl ?_
 refine sp rfl (PE.move rfl) rfl ?_
 refine clV rfl cal34 rfl rfl (c_eq_int xs ys a a2 c c2 hl hl2 _ _) ?_
 refine sp rfl (PE.assign rfl) rfl ?_
 refine sy_ret ?_
 exact sy_return (vs := [_]) rfl (.cons (RV.tmp rfl) .nil) rfl ⟨rfl, rfl, rfl⟩ drp
set_option maxHeartbeats 4000000 in
theorem c_GateGrades (g : Gat) (ag : Option Addr) (cg : Nat) (hlg : g.grs.length ≤ 9223372036854775807) (c : Crt) (ah : Option Addr) (ch : Nat) (hlh : c.hs.length ≤ 9223372036854775807) (gr : Int) (hgr : -9223372036854775808 ≤ gr ∧ gr ≤ 9223372036854775807) (H : Heap) (R : Facts) [hG : MemRows ag 5 (grows g.grs) R] [hA : MemRows ah 5 (hrows c.hs) R] :
    Fn Tryz.prog 13 [g.v (g.sl ag cg), c.v (c.sl ah ch), .int .i64 gr] H R (fun v H' R' => v = .bool true ∧ H' = H ∧ R' = R) := by
 refine fn_of Tryz.func13 rfl Tryz.ntmps13 rfl ?_
 refine sy_seq ?_
 refine sy_tx' [0, 1, 2] rfl ?_
 refine bx rfl rfl rfl (fun b3 => ?_)
 refine bx rfl rfl rfl (fun b4 => ?_)
 refine sp rfl (PE.assign rfl) rfl ?_
 refine sy_seq ?_
 refine sy_seq ?_
 refine sy_tx' [0, 1, 2] rfl ?_
 refine spL rfl rfl (lhA [_, _, _] ag25 rfl rfl rfl) rfl ?_
 refine spL rfl rfl (lhA [_, _, _] ag28 rfl rfl rfl) rfl ?_
 refine clV rfl cal35 rfl rfl (c_grt g ag cg hlg c ah ch hlh _ _) ?_
 refine sy_cond rfl (fun hc0 => ?_) (fun hc0 => ?_)
 refine sy_seq ?_
 refine sy_tx' [0, 1] rfl ?_
 refine clV rfl cal8 rfl rfl (c_awake _ _) ?_
 refine sp rfl (PE.assign rfl) rfl ?_
 refine sy_ret ?_
 exact sy_return (vs := [_]) rfl (.cons (RV.tmp rfl) .nil) rfl ⟨rfl, rfl, rfl⟩ drp
 have h79 : ¬ 7 < g.grs.length ∧ ¬ 9 < c.hs.length := by simpa using hc0
 refine sy_skip ?_
 refine sy_seq ?_
 refine sy_free [0, 1, 0, 7, 0, 31, 0, 127, 0, 0, 0, 0, 4095, 8191, 16383, 32767] [0, 1, 2, 3, 4, 5, 6, 7, 8, 9, 10, 11, 12, 13, 14, 15] mixed (by kernel_rfl) rfl (fun s L H1 R1 => ∃ (a1 : Option Addr) (c1 : {n : Nat // g.grs.length ≤ n}) (a2 : Option Addr) (c2 : Nat) (a3 : Option Addr) (c3 : Nat) (a4 : Option Addr) (c4 : Nat) (b7 : Nat) (x7 : List Value) (b8 : Nat) (x8 : List Value) (b9 : Nat) (x9 : List Value) (b10 : Nat) (x10 : List Value), Sub [(2, .int .i64 gr), (3, .pointer (some ⟨b3, 0, none⟩)), (4, .pointer (some ⟨b4, 0, none⟩))] L ∧ (∀ f ∈ (R : Facts), f ∈ R1) ∧ (s 0 = true → lk L 30 = some (g.v (g.sl ag cg))) ∧ (s 1 = true → lk L 31 = some (g.v (g.sl a1 c1.1)) ∧ (RowsA a1 5 (grows g.grs)) ∈ R1) ∧ (s 2 = true → lk L 32 = some (c.v (c.sl ah ch))) ∧ (s 3 = true → lk L 33 = some (c.v (c.sl a2 c2)) ∧ (RowsA a2 5 (hrows c.hs)) ∈ R1) ∧ (s 4 = true → lk L 34 = some (g.v (g.sl ag cg))) ∧ (s 5 = true → lk L 35 = some (g.v (g.sl a3 c3)) ∧ (RowsA a3 5 (grows g.grs)) ∈ R1) ∧ (s 6 = true → lk L 36 = some (c.v (c.sl ah ch))) ∧ (s 7 = true → lk L 37 = some (c.v (c.sl a4 c4)) ∧ (RowsA a4 5 (hrows c.hs)) ∈ R1) ∧ (s 8 = true → lk L 7 = some (.pointer (some ⟨b7, 0, none⟩)) ∧ (s 12 = false → x7 = [.int .i64 0, .int .i64 0, .slice none 0 0])) ∧ (s 9 = true → lk L 8 = some (.pointer (some ⟨b8, 0, none⟩)) ∧ (s 13 = false → x8 = [.int .i64 0, .int .i64 0, .slice none 0 0])) ∧ (s 10 = true → lk L 9 = some (.pointer (some ⟨b9, 0, none⟩)) ∧ (s 14 = false → x9 = [.int .i64 0, .int .i64 0, .slice none 0 0])) ∧ (s 11 = true → lk L 10 = some (.pointer (some ⟨b10, 0, none⟩)) ∧ (s 15 = false → x10 = [.int .i64 0, .int .i64 0, .slice none 0 0])) ∧ (s 12 = true → x7 = gtl g (g.sl a1 c1.1)) ∧ (s 13 = true → x8 = ctl c (c.sl a2 c2)) ∧ (s 14 = true → x9 = gtl g (g.sl a3 c3)) ∧ (s 15 = true → x10 = ctl c (c.sl a4 c4)) ∧ ∀ w, St H1 R1 w → St ((bif s 11 then [(b10, cel 79 x10)] else []) ++ ((bif s 10 then [(b9, cel 89 x9)] else []) ++ ((bif s 9 then [(b8, cel 28 x8)] else []) ++ ((bif s 8 then [(b7, cel 25 x7)] else []) ++ ((b4, cel 28 (ctl c (c.sl ah ch))) :: (b3, cel 25 (gtl g (g.sl ag cg))) :: H))))) R1 w) ?_ ?_ ?_
 exact ⟨none, ⟨_, Nat.le_refl _⟩, none, 0, none, 0, none, 0, 0, [], 0, [], 0, [], 0, [], (by repeat' first | exact Sub.nil | apply Sub.cons | rfl | (simp [lk]; omega)), fun _ hf => hf, (fun h => by cases (show false = true from h)), (fun h => by cases (show false = true from h)), (fun h => by cases (show false = true from h)), (fun h => by cases (show false = true from h)), (fun h => by cases (show false = true from h)), (fun h => by cases (show false = true from h)), (fun h => by cases (show false = true from h)), (fun h => by cases (show false = true from h)), (fun h => by cases (show false = true from h)), (fun h => by cases (show false = true from h)), (fun h => by cases (show false = true from h)), (fun h => by cases (show false = true from h)), (fun h => by cases (show false = true from h)), (fun h => by cases (show false = true from h)), (fun h => by cases (show false = true from h)), (fun h => by cases (show false = true from h)), fun w h => h⟩
 refine ⟨?_, ?_, ?_, ?_, ?_, ?_, ?_, ?_, ?_, ?_, ?_, ?_, ?_, ?_, ?_, ?_, trivial⟩
 intro s Lz Hz Rz hdn hs hpre hI K hK
 obtain ⟨a1, c1, a2, c2, a3, c3, a4, c4, b7, x7, b8, x8, b9, x9, b10, x10, hL0, hR0, q0, q1, q2, q3, q4, q5, q6, q7, q8, q9, q10, q11, q12, q13, q14, q15, hH⟩ := hI
 refine Sy.heap hH ?_
 refine spL rfl (Sub.lk hL0 _ _ rfl) ((lhA (gtl g (g.sl ag cg)) ag25 rfl rfl rfl)) rfl ?_
 exact hK _ _ _ ⟨a1, c1, a2, c2, a3, c3, a4, c4, b7, x7, b8, x8, b9, x9, b10, x10, sub_more rfl hL0, hR0, fun _ => lk_same, fun h => ⟨lk_more rfl (q1 h).1, (q1 h).2⟩, fun h => lk_more rfl (q2 h), fun h => ⟨lk_more rfl (q3 h).1, (q3 h).2⟩, fun h => lk_more rfl (q4 h), fun h => ⟨lk_more rfl (q5 h).1, (q5 h).2⟩, fun h => lk_more rfl (q6 h), fun h => ⟨lk_more rfl (q7 h).1, (q7 h).2⟩, fun h => ⟨lk_more rfl (q8 h).1, (q8 h).2⟩, fun h => ⟨lk_more rfl (q9 h).1, (q9 h).2⟩, fun h => ⟨lk_more rfl (q10 h).1, (q10 h).2⟩, fun h => ⟨lk_more rfl (q11 h).1, (q11 h).2⟩, fun h => q12 h, fun h => q13 h, fun h => q14 h, fun h => q15 h, fun w h => h⟩
 intro s Lz Hz Rz hdn hs hpre hI K hK
 obtain ⟨a1, c1, a2, c2, a3, c3, a4, c4, b7, x7, b8, x8, b9, x9, b10, x10, hL0, hR0, q0, q1, q2, q3, q4, q5, q6, q7, q8, q9, q10, q11, q12, q13, q14, q15, hH⟩ := hI
 have h0 : s 0 = true := hpre 0 rfl
 refine Sy.heap hH ?_
 haveI m0 : MemRows ag 5 (grows g.grs) Rz := ⟨hR0 _ (inferInstance : MemRows ag 5 (grows g.grs) (R)).mem⟩
 refine cl rfl cal36 rfl (by simp only [evs, show ev Lz (.tmp 30) = _ from (q0 h0)]) (c_Own g ag cg (by omega) _ _) ?_
 rintro _ _ R1 ⟨o, rfl, ho, rfl, hR1⟩
 obtain rfl := hR1.symm
 clear hR1
 obtain ⟨a1, c1n, he, hcc, hf⟩ := o.freezeC
 rw [he]
 refine Sy.heap (H' := _) (fun w h => hf h) ?_
 rw [show (grows g.grs).length = g.grs.length from List.length_map _] at hcc ⊢
 obtain ⟨c1, rfl⟩ : ∃ c1 : {n : Nat // g.grs.length ≤ n}, c1.1 = c1n := ⟨⟨c1n, hcc⟩, rfl⟩
 clear he hf
 exact hK _ _ _ ⟨a1, c1, a2, c2, a3, c3, a4, c4, b7, x7, b8, x8, b9, x9, b10, x10, sub_more rfl hL0, fin_more (hR0), fun h => lk_more rfl (q0 h), fun _ => ⟨lk_same, (by simp)⟩, fun h => lk_more rfl (q2 h), fun h => ⟨lk_more rfl (q3 h).1, List.mem_cons_of_mem _ ((q3 h).2)⟩, fun h => lk_more rfl (q4 h), fun h => ⟨lk_more rfl (q5 h).1, List.mem_cons_of_mem _ ((q5 h).2)⟩, fun h => lk_more rfl (q6 h), fun h => ⟨lk_more rfl (q7 h).1, List.mem_cons_of_mem _ ((q7 h).2)⟩, fun h => ⟨lk_more rfl (q8 h).1, (q8 h).2⟩, fun h => ⟨lk_more rfl (q9 h).1, (q9 h).2⟩, fun h => ⟨lk_more rfl (q10 h).1, (q10 h).2⟩, fun h => ⟨lk_more rfl (q11 h).1, (q11 h).2⟩, fun h => absurd (hdn 12 1 (Nat.le_of_ble_eq_true rfl) rfl h) (by rw [hs]; exact Bool.false_ne_true), fun h => q13 h, fun h => q14 h, fun h => q15 h, fun w h => h⟩
 intro s Lz Hz Rz hdn hs hpre hI K hK
 obtain ⟨a1, c1, a2, c2, a3, c3, a4, c4, b7, x7, b8, x8, b9, x9, b10, x10, hL0, hR0, q0, q1, q2, q3, q4, q5, q6, q7, q8, q9, q10, q11, q12, q13, q14, q15, hH⟩ := hI
 refine Sy.heap hH ?_
 refine spL rfl (Sub.lk hL0 _ _ rfl) ((lhA (ctl c (c.sl ah ch)) ag28 rfl rfl rfl)) rfl ?_
 exact hK _ _ _ ⟨a1, c1, a2, c2, a3, c3, a4, c4, b7, x7, b8, x8, b9, x9, b10, x10, sub_more rfl hL0, hR0, fun h => lk_more rfl (q0 h), fun h => ⟨lk_more rfl (q1 h).1, (q1 h).2⟩, fun _ => lk_same, fun h => ⟨lk_more rfl (q3 h).1, (q3 h).2⟩, fun h => lk_more rfl (q4 h), fun h => ⟨lk_more rfl (q5 h).1, (q5 h).2⟩, fun h => lk_more rfl (q6 h), fun h => ⟨lk_more rfl (q7 h).1, (q7 h).2⟩, fun h => ⟨lk_more rfl (q8 h).1, (q8 h).2⟩, fun h => ⟨lk_more rfl (q9 h).1, (q9 h).2⟩, fun h => ⟨lk_more rfl (q10 h).1, (q10 h).2⟩, fun h => ⟨lk_more rfl (q11 h).1, (q11 h).2⟩, fun h => q12 h, fun h => q13 h, fun h => q14 h, fun h => q15 h, fun w h => h⟩
 intro s Lz Hz Rz hdn hs hpre hI K hK
 obtain ⟨a1, c1, a2, c2, a3, c3, a4, c4, b7, x7, b8, x8, b9, x9, b10, x10, hL0, hR0, q0, q1, q2, q3, q4, q5, q6, q7, q8, q9, q10, q11, q12, q13, q14, q15, hH⟩ := hI
 obtain ⟨h0, h1, h2⟩ : s 0 = true ∧ s 1 = true ∧ s 2 = true := ⟨hpre 0 rfl, hpre 1 rfl, hpre 2 rfl⟩
 refine Sy.heap hH ?_
 haveI m0 : MemRows ah 5 (hrows c.hs) Rz := ⟨hR0 _ (inferInstance : MemRows ah 5 (hrows c.hs) (R)).mem⟩
 refine cl rfl cal37 rfl (by simp only [evs, show ev Lz (.tmp 32) = _ from (q2 h2)]) (c_Owned c ah ch (by omega) _ _) ?_
 rintro _ _ R1 ⟨o, rfl, ho, rfl, hR1⟩
 obtain rfl := hR1.symm
 clear hR1
 obtain ⟨a2, c2, he, hf⟩ := o.freeze
 rw [he]
 refine Sy.heap (H' := _) (fun w h => hf h) ?_
 rw [show (hrows c.hs).length = c.hs.length from List.length_map _]
 clear he hf
 exact hK _ _ _ ⟨a1, c1, a2, c2, a3, c3, a4, c4, b7, x7, b8, x8, b9, x9, b10, x10, sub_more rfl hL0, fin_more (hR0), fun h => lk_more rfl (q0 h), fun h => ⟨lk_more rfl (q1 h).1, List.mem_cons_of_mem _ ((q1 h).2)⟩, fun h => lk_more rfl (q2 h), fun _ => ⟨lk_same, (by simp)⟩, fun h => lk_more rfl (q4 h), fun h => ⟨lk_more rfl (q5 h).1, List.mem_cons_of_mem _ ((q5 h).2)⟩, fun h => lk_more rfl (q6 h), fun h => ⟨lk_more rfl (q7 h).1, List.mem_cons_of_mem _ ((q7 h).2)⟩, fun h => ⟨lk_more rfl (q8 h).1, (q8 h).2⟩, fun h => ⟨lk_more rfl (q9 h).1, (q9 h).2⟩, fun h => ⟨lk_more rfl (q10 h).1, (q10 h).2⟩, fun h => ⟨lk_more rfl (q11 h).1, (q11 h).2⟩, fun h => q12 h, fun h => absurd (hdn 13 3 (Nat.le_of_ble_eq_true rfl) rfl h) (by rw [hs]; exact Bool.false_ne_true), fun h => q14 h, fun h => q15 h, fun w h => h⟩
 intro s Lz Hz Rz hdn hs hpre hI K hK
 obtain ⟨a1, c1, a2, c2, a3, c3, a4, c4, b7, x7, b8, x8, b9, x9, b10, x10, hL0, hR0, q0, q1, q2, q3, q4, q5, q6, q7, q8, q9, q10, q11, q12, q13, q14, q15, hH⟩ := hI
 refine Sy.heap hH ?_
 refine spL rfl (Sub.lk hL0 _ _ rfl) ((lhA (gtl g (g.sl ag cg)) ag25 rfl rfl rfl)) rfl ?_
 exact hK _ _ _ ⟨a1, c1, a2, c2, a3, c3, a4, c4, b7, x7, b8, x8, b9, x9, b10, x10, sub_more rfl hL0, hR0, fun h => lk_more rfl (q0 h), fun h => ⟨lk_more rfl (q1 h).1, (q1 h).2⟩, fun h => lk_more rfl (q2 h), fun h => ⟨lk_more rfl (q3 h).1, (q3 h).2⟩, fun _ => lk_same, fun h => ⟨lk_more rfl (q5 h).1, (q5 h).2⟩, fun h => lk_more rfl (q6 h), fun h => ⟨lk_more rfl (q7 h).1, (q7 h).2⟩, fun h => ⟨lk_more rfl (q8 h).1, (q8 h).2⟩, fun h => ⟨lk_more rfl (q9 h).1, (q9 h).2⟩, fun h => ⟨lk_more rfl (q10 h).1, (q10 h).2⟩, fun h => ⟨lk_more rfl (q11 h).1, (q11 h).2⟩, fun h => q12 h, fun h => q13 h, fun h => q14 h, fun h => q15 h, fun w h => h⟩
 intro s Lz Hz Rz hdn hs hpre hI K hK
 obtain ⟨a1, c1, a2, c2, a3, c3, a4, c4, b7, x7, b8, x8, b9, x9, b10, x10, hL0, hR0, q0, q1, q2, q3, q4, q5, q6, q7, q8, q9, q10, q11, q12, q13, q14, q15, hH⟩ := hI
 obtain ⟨h0, h1, h2, h3, h4⟩ : s 0 = true ∧ s 1 = true ∧ s 2 = true ∧ s 3 = true ∧ s 4 = true := ⟨hpre 0 rfl, hpre 1 rfl, hpre 2 rfl, hpre 3 rfl, hpre 4 rfl⟩
 refine Sy.heap hH ?_
 haveI m0 : MemRows ag 5 (grows g.grs) Rz := ⟨hR0 _ (inferInstance : MemRows ag 5 (grows g.grs) (R)).mem⟩
 refine cl rfl cal42 rfl (by simp only [evs, show ev Lz (.tmp 34) = _ from (q4 h4)]) (c_theirs g ag cg (by omega) _ _) ?_
 rintro _ _ R1 ⟨a3, c3, rfl, rfl, hR1⟩
 obtain rfl := hR1.symm
 clear hR1
 exact hK _ _ _ ⟨a1, c1, a2, c2, a3, c3, a4, c4, b7, x7, b8, x8, b9, x9, b10, x10, sub_more rfl hL0, fin_more (hR0), fun h => lk_more rfl (q0 h), fun h => ⟨lk_more rfl (q1 h).1, List.mem_cons_of_mem _ ((q1 h).2)⟩, fun h => lk_more rfl (q2 h), fun h => ⟨lk_more rfl (q3 h).1, List.mem_cons_of_mem _ ((q3 h).2)⟩, fun h => lk_more rfl (q4 h), fun _ => ⟨lk_same, (by simp)⟩, fun h => lk_more rfl (q6 h), fun h => ⟨lk_more rfl (q7 h).1, List.mem_cons_of_mem _ ((q7 h).2)⟩, fun h => ⟨lk_more rfl (q8 h).1, (q8 h).2⟩, fun h => ⟨lk_more rfl (q9 h).1, (q9 h).2⟩, fun h => ⟨lk_more rfl (q10 h).1, (q10 h).2⟩, fun h => ⟨lk_more rfl (q11 h).1, (q11 h).2⟩, fun h => q12 h, fun h => q13 h, fun h => absurd (hdn 14 5 (Nat.le_of_ble_eq_true rfl) rfl h) (by rw [hs]; exact Bool.false_ne_true), fun h => q15 h, fun w h => h⟩
 intro s Lz Hz Rz hdn hs hpre hI K hK
 obtain ⟨a1, c1, a2, c2, a3, c3, a4, c4, b7, x7, b8, x8, b9, x9, b10, x10, hL0, hR0, q0, q1, q2, q3, q4, q5, q6, q7, q8, q9, q10, q11, q12, q13, q14, q15, hH⟩ := hI
 refine Sy.heap hH ?_
 refine spL rfl (Sub.lk hL0 _ _ rfl) ((lhA (ctl c (c.sl ah ch)) ag28 rfl rfl rfl)) rfl ?_
 exact hK _ _ _ ⟨a1, c1, a2, c2, a3, c3, a4, c4, b7, x7, b8, x8, b9, x9, b10, x10, sub_more rfl hL0, hR0, fun h => lk_more rfl (q0 h), fun h => ⟨lk_more rfl (q1 h).1, (q1 h).2⟩, fun h => lk_more rfl (q2 h), fun h => ⟨lk_more rfl (q3 h).1, (q3 h).2⟩, fun h => lk_more rfl (q4 h), fun h => ⟨lk_more rfl (q5 h).1, (q5 h).2⟩, fun _ => lk_same, fun h => ⟨lk_more rfl (q7 h).1, (q7 h).2⟩, fun h => ⟨lk_more rfl (q8 h).1, (q8 h).2⟩, fun h => ⟨lk_more rfl (q9 h).1, (q9 h).2⟩, fun h => ⟨lk_more rfl (q10 h).1, (q10 h).2⟩, fun h => ⟨lk_more rfl (q11 h).1, (q11 h).2⟩, fun h => q12 h, fun h => q13 h, fun h => q14 h, fun h => q15 h, fun w h => h⟩
 intro s Lz Hz Rz hdn hs hpre hI K hK
 obtain ⟨a1, c1, a2, c2, a3, c3, a4, c4, b7, x7, b8, x8, b9, x9, b10, x10, hL0, hR0, q0, q1, q2, q3, q4, q5, q6, q7, q8, q9, q10, q11, q12, q13, q14, q15, hH⟩ := hI
 obtain ⟨h0, h1, h2, h3, h4, h5, h6⟩ : s 0 = true ∧ s 1 = true ∧ s 2 = true ∧ s 3 = true ∧ s 4 = true ∧ s 5 = true ∧ s 6 = true := ⟨hpre 0 rfl, hpre 1 rfl, hpre 2 rfl, hpre 3 rfl, hpre 4 rfl, hpre 5 rfl, hpre 6 rfl⟩
 refine Sy.heap hH ?_
 haveI m0 : MemRows ah 5 (hrows c.hs) Rz := ⟨hR0 _ (inferInstance : MemRows ah 5 (hrows c.hs) (R)).mem⟩
 refine cl rfl cal39 rfl (by simp only [evs, show ev Lz (.tmp 36) = _ from (q6 h6)]) (c_come c ah ch (by omega) _ _) ?_
 rintro _ _ R1 ⟨a4, c4, rfl, rfl, hR1⟩
 obtain rfl := hR1.symm
 clear hR1
 exact hK _ _ _ ⟨a1, c1, a2, c2, a3, c3, a4, c4, b7, x7, b8, x8, b9, x9, b10, x10, sub_more rfl hL0, fin_more (hR0), fun h => lk_more rfl (q0 h), fun h => ⟨lk_more rfl (q1 h).1, List.mem_cons_of_mem _ ((q1 h).2)⟩, fun h => lk_more rfl (q2 h), fun h => ⟨lk_more rfl (q3 h).1, List.mem_cons_of_mem _ ((q3 h).2)⟩, fun h => lk_more rfl (q4 h), fun h => ⟨lk_more rfl (q5 h).1, List.mem_cons_of_mem _ ((q5 h).2)⟩, fun h => lk_more rfl (q6 h), fun _ => ⟨lk_same, (by simp)⟩, fun h => ⟨lk_more rfl (q8 h).1, (q8 h).2⟩, fun h => ⟨lk_more rfl (q9 h).1, (q9 h).2⟩, fun h => ⟨lk_more rfl (q10 h).1, (q10 h).2⟩, fun h => ⟨lk_more rfl (q11 h).1, (q11 h).2⟩, fun h => q12 h, fun h => q13 h, fun h => q14 h, fun h => absurd (hdn 15 7 (Nat.le_of_ble_eq_true rfl) rfl h) (by rw [hs]; exact Bool.false_ne_true), fun w h => h⟩
 intro s Lz Hz Rz hdn hs hpre hI K hK
 obtain ⟨a1, c1, a2, c2, a3, c3, a4, c4, b7, x7, b8, x8, b9, x9, b10, x10, hL0, hR0, q0, q1, q2, q3, q4, q5, q6, q7, q8, q9, q10, q11, q12, q13, q14, q15, hH⟩ := hI
 refine Sy.heap hH ?_
 refine alc rfl zl25 rfl (fun b7 => ?_)
 exact hK _ _ _ ⟨a1, c1, a2, c2, a3, c3, a4, c4, b7, [.int .i64 0, .int .i64 0, .slice none 0 0], b8, x8, b9, x9, b10, x10, sub_more rfl hL0, hR0, fun h => lk_more rfl (q0 h), fun h => ⟨lk_more rfl (q1 h).1, (q1 h).2⟩, fun h => lk_more rfl (q2 h), fun h => ⟨lk_more rfl (q3 h).1, (q3 h).2⟩, fun h => lk_more rfl (q4 h), fun h => ⟨lk_more rfl (q5 h).1, (q5 h).2⟩, fun h => lk_more rfl (q6 h), fun h => ⟨lk_more rfl (q7 h).1, (q7 h).2⟩, fun _ => ⟨lk_same, fun _ => rfl⟩, fun h => ⟨lk_more rfl (q9 h).1, (q9 h).2⟩, fun h => ⟨lk_more rfl (q10 h).1, (q10 h).2⟩, fun h => ⟨lk_more rfl (q11 h).1, (q11 h).2⟩, fun h => absurd (hdn 12 8 (Nat.le_of_ble_eq_true rfl) rfl h) (by rw [hs]; exact Bool.false_ne_true), fun h => q13 h, fun h => q14 h, fun h => q15 h, fun w h => by rw [hs] at h; exact h.perm (List.perm_middle.symm.trans (List.Perm.append_left _ (List.perm_middle.symm.trans (List.Perm.append_left _ (List.perm_middle.symm.trans (List.Perm.append_left _ (.refl _)))))))⟩
 intro s Lz Hz Rz hdn hs hpre hI K hK
 obtain ⟨a1, c1, a2, c2, a3, c3, a4, c4, b7, x7, b8, x8, b9, x9, b10, x10, hL0, hR0, q0, q1, q2, q3, q4, q5, q6, q7, q8, q9, q10, q11, q12, q13, q14, q15, hH⟩ := hI
 refine Sy.heap hH ?_
 refine alc rfl zl28 rfl (fun b8 => ?_)
 exact hK _ _ _ ⟨a1, c1, a2, c2, a3, c3, a4, c4, b7, x7, b8, [.int .i64 0, .int .i64 0, .slice none 0 0], b9, x9, b10, x10, sub_more rfl hL0, hR0, fun h => lk_more rfl (q0 h), fun h => ⟨lk_more rfl (q1 h).1, (q1 h).2⟩, fun h => lk_more rfl (q2 h), fun h => ⟨lk_more rfl (q3 h).1, (q3 h).2⟩, fun h => lk_more rfl (q4 h), fun h => ⟨lk_more rfl (q5 h).1, (q5 h).2⟩, fun h => lk_more rfl (q6 h), fun h => ⟨lk_more rfl (q7 h).1, (q7 h).2⟩, fun h => ⟨lk_more rfl (q8 h).1, (q8 h).2⟩, fun _ => ⟨lk_same, fun _ => rfl⟩, fun h => ⟨lk_more rfl (q10 h).1, (q10 h).2⟩, fun h => ⟨lk_more rfl (q11 h).1, (q11 h).2⟩, fun h => q12 h, fun h => absurd (hdn 13 9 (Nat.le_of_ble_eq_true rfl) rfl h) (by rw [hs]; exact Bool.false_ne_true), fun h => q14 h, fun h => q15 h, fun w h => by rw [hs] at h; exact h.perm (List.perm_middle.symm.trans (List.Perm.append_left _ (List.perm_middle.symm.trans (List.Perm.append_left _ (.refl _)))))⟩
 intro s Lz Hz Rz hdn hs hpre hI K hK
 obtain ⟨a1, c1, a2, c2, a3, c3, a4, c4, b7, x7, b8, x8, b9, x9, b10, x10, hL0, hR0, q0, q1, q2, q3, q4, q5, q6, q7, q8, q9, q10, q11, q12, q13, q14, q15, hH⟩ := hI
 refine Sy.heap hH ?_
 refine alc rfl zl89 rfl (fun b9 => ?_)
 exact hK _ _ _ ⟨a1, c1, a2, c2, a3, c3, a4, c4, b7, x7, b8, x8, b9, [.int .i64 0, .int .i64 0, .slice none 0 0], b10, x10, sub_more rfl hL0, hR0, fun h => lk_more rfl (q0 h), fun h => ⟨lk_more rfl (q1 h).1, (q1 h).2⟩, fun h => lk_more rfl (q2 h), fun h => ⟨lk_more rfl (q3 h).1, (q3 h).2⟩, fun h => lk_more rfl (q4 h), fun h => ⟨lk_more rfl (q5 h).1, (q5 h).2⟩, fun h => lk_more rfl (q6 h), fun h => ⟨lk_more rfl (q7 h).1, (q7 h).2⟩, fun h => ⟨lk_more rfl (q8 h).1, (q8 h).2⟩, fun h => ⟨lk_more rfl (q9 h).1, (q9 h).2⟩, fun _ => ⟨lk_same, fun _ => rfl⟩, fun h => ⟨lk_more rfl (q11 h).1, (q11 h).2⟩, fun h => q12 h, fun h => q13 h, fun h => absurd (hdn 14 10 (Nat.le_of_ble_eq_true rfl) rfl h) (by rw [hs]; exact Bool.false_ne_true), fun h => q15 h, fun w h => by rw [hs] at h; exact h.perm (List.perm_middle.symm.trans (List.Perm.append_left _ (.refl _)))⟩
 intro s Lz Hz Rz hdn hs hpre hI K hK
 obtain ⟨a1, c1, a2, c2, a3, c3, a4, c4, b7, x7, b8, x8, b9, x9, b10, x10, hL0, hR0, q0, q1, q2, q3, q4, q5, q6, q7, q8, q9, q10, q11, q12, q13, q14, q15, hH⟩ := hI
 refine Sy.heap hH ?_
 refine alc rfl zl79 rfl (fun b10 => ?_)
 exact hK _ _ _ ⟨a1, c1, a2, c2, a3, c3, a4, c4, b7, x7, b8, x8, b9, x9, b10, [.int .i64 0, .int .i64 0, .slice none 0 0], sub_more rfl hL0, hR0, fun h => lk_more rfl (q0 h), fun h => ⟨lk_more rfl (q1 h).1, (q1 h).2⟩, fun h => lk_more rfl (q2 h), fun h => ⟨lk_more rfl (q3 h).1, (q3 h).2⟩, fun h => lk_more rfl (q4 h), fun h => ⟨lk_more rfl (q5 h).1, (q5 h).2⟩, fun h => lk_more rfl (q6 h), fun h => ⟨lk_more rfl (q7 h).1, (q7 h).2⟩, fun h => ⟨lk_more rfl (q8 h).1, (q8 h).2⟩, fun h => ⟨lk_more rfl (q9 h).1, (q9 h).2⟩, fun h => ⟨lk_more rfl (q10 h).1, (q10 h).2⟩, fun _ => ⟨lk_same, fun _ => rfl⟩, fun h => q12 h, fun h => q13 h, fun h => q14 h, fun h => absurd (hdn 15 11 (Nat.le_of_ble_eq_true rfl) rfl h) (by rw [hs]; exact Bool.false_ne_true), fun w h => by rw [hs] at h; exact h.perm (.refl _)⟩
 intro s Lz Hz Rz hdn hs hpre hI K hK
 obtain ⟨a1, c1, a2, c2, a3, c3, a4, c4, b7, x7, b8, x8, b9, x9, b10, x10, hL0, hR0, q0, q1, q2, q3, q4, q5, q6, q7, q8, q9, q10, q11, q12, q13, q14, q15, hH⟩ := hI
 obtain ⟨h0, h1, h2, h3, h4, h5, h6, h7, h8, h9, h10, h11⟩ : s 0 = true ∧ s 1 = true ∧ s 2 = true ∧ s 3 = true ∧ s 4 = true ∧ s 5 = true ∧ s 6 = true ∧ s 7 = true ∧ s 8 = true ∧ s 9 = true ∧ s 10 = true ∧ s 11 = true := ⟨hpre 0 rfl, hpre 1 rfl, hpre 2 rfl, hpre 3 rfl, hpre 4 rfl, hpre 5 rfl, hpre 6 rfl, hpre 7 rfl, hpre 8 rfl, hpre 9 rfl, hpre 10 rfl, hpre 11 rfl⟩
 refine Sy.heap hH ?_
 obtain rfl := (q8 h8).2 hs
 refine Sy.heap (H' := (bif s 11 then [(b10, cel 79 x10)] else []) ++ ((bif s 10 then [(b9, cel 89 x9)] else []) ++ ((bif s 9 then [(b8, cel 28 x8)] else []) ++ ((b7, cel 25 [.int .i64 0, .int .i64 0, .slice none 0 0]) :: ((b4, cel 28 (ctl c (c.sl ah ch))) :: (b3, cel 25 (gtl g (g.sl ag cg))) :: H))))) (fun w h => by rw [h8] at h; exact h) ?_
 refine stoE (l' := gtl g (g.sl a1 c1.1)) rfl (q8 h8).1 (q1 h1).1 cn25 rfl rfl rfl rfl (Nat.le_refl _) ?_
 exact hK _ _ _ ⟨a1, c1, a2, c2, a3, c3, a4, c4, b7, gtl g (g.sl a1 c1.1), b8, x8, b9, x9, b10, x10, hL0, hR0, fun h => (q0 h), fun h => ⟨(q1 h).1, (q1 h).2⟩, fun h => (q2 h), fun h => ⟨(q3 h).1, (q3 h).2⟩, fun h => (q4 h), fun h => ⟨(q5 h).1, (q5 h).2⟩, fun h => (q6 h), fun h => ⟨(q7 h).1, (q7 h).2⟩, fun h => ⟨(q8 h).1, fun h => by cases (show true = false from h)⟩, fun h => ⟨(q9 h).1, (q9 h).2⟩, fun h => ⟨(q10 h).1, (q10 h).2⟩, fun h => ⟨(q11 h).1, (q11 h).2⟩, fun _ => rfl, fun h => q13 h, fun h => q14 h, fun h => q15 h, fun w h => by show St ((bif s 11 then [(b10, cel 79 x10)] else []) ++ ((bif s 10 then [(b9, cel 89 x9)] else []) ++ ((bif s 9 then [(b8, cel 28 x8)] else []) ++ ((bif s 8 then [(b7, cel 25 (gtl g (g.sl a1 c1.1)))] else []) ++ ((b4, cel 28 (ctl c (c.sl ah ch))) :: (b3, cel 25 (gtl g (g.sl ag cg))) :: H))))) Rz w; rw [h8]; exact h⟩
 intro s Lz Hz Rz hdn hs hpre hI K hK
 obtain ⟨a1, c1, a2, c2, a3, c3, a4, c4, b7, x7, b8, x8, b9, x9, b10, x10, hL0, hR0, q0, q1, q2, q3, q4, q5, q6, q7, q8, q9, q10, q11, q12, q13, q14, q15, hH⟩ := hI
 obtain ⟨h0, h1, h2, h3, h4, h5, h6, h7, h8, h9, h10, h11, h12⟩ : s 0 = true ∧ s 1 = true ∧ s 2 = true ∧ s 3 = true ∧ s 4 = true ∧ s 5 = true ∧ s 6 = true ∧ s 7 = true ∧ s 8 = true ∧ s 9 = true ∧ s 10 = true ∧ s 11 = true ∧ s 12 = true := ⟨hpre 0 rfl, hpre 1 rfl, hpre 2 rfl, hpre 3 rfl, hpre 4 rfl, hpre 5 rfl, hpre 6 rfl, hpre 7 rfl, hpre 8 rfl, hpre 9 rfl, hpre 10 rfl, hpre 11 rfl, hpre 12 rfl⟩
 refine Sy.heap hH ?_
 obtain rfl := (q9 h9).2 hs
 refine Sy.heap (H' := (bif s 11 then [(b10, cel 79 x10)] else []) ++ ((bif s 10 then [(b9, cel 89 x9)] else []) ++ ((b8, cel 28 [.int .i64 0, .int .i64 0, .slice none 0 0]) :: ((bif s 8 then [(b7, cel 25 x7)] else []) ++ ((b4, cel 28 (ctl c (c.sl ah ch))) :: (b3, cel 25 (gtl g (g.sl ag cg))) :: H))))) (fun w h => by rw [h9] at h; exact h) ?_
 refine stoE (l' := ctl c (c.sl a2 c2)) rfl (q9 h9).1 (q3 h3).1 cn28 rfl rfl rfl rfl (Nat.le_refl _) ?_
 exact hK _ _ _ ⟨a1, c1, a2, c2, a3, c3, a4, c4, b7, x7, b8, ctl c (c.sl a2 c2), b9, x9, b10, x10, hL0, hR0, fun h => (q0 h), fun h => ⟨(q1 h).1, (q1 h).2⟩, fun h => (q2 h), fun h => ⟨(q3 h).1, (q3 h).2⟩, fun h => (q4 h), fun h => ⟨(q5 h).1, (q5 h).2⟩, fun h => (q6 h), fun h => ⟨(q7 h).1, (q7 h).2⟩, fun h => ⟨(q8 h).1, (q8 h).2⟩, fun h => ⟨(q9 h).1, fun h => by cases (show true = false from h)⟩, fun h => ⟨(q10 h).1, (q10 h).2⟩, fun h => ⟨(q11 h).1, (q11 h).2⟩, fun h => q12 h, fun _ => rfl, fun h => q14 h, fun h => q15 h, fun w h => by show St ((bif s 11 then [(b10, cel 79 x10)] else []) ++ ((bif s 10 then [(b9, cel 89 x9)] else []) ++ ((bif s 9 then [(b8, cel 28 (ctl c (c.sl a2 c2)))] else []) ++ ((bif s 8 then [(b7, cel 25 x7)] else []) ++ ((b4, cel 28 (ctl c (c.sl ah ch))) :: (b3, cel 25 (gtl g (g.sl ag cg))) :: H))))) Rz w; rw [h9]; exact h⟩
 intro s Lz Hz Rz hdn hs hpre hI K hK
 obtain ⟨a1, c1, a2, c2, a3, c3, a4, c4, b7, x7, b8, x8, b9, x9, b10, x10, hL0, hR0, q0, q1, q2, q3, q4, q5, q6, q7, q8, q9, q10, q11, q12, q13, q14, q15, hH⟩ := hI
 obtain ⟨h0, h1, h2, h3, h4, h5, h6, h7, h8, h9, h10, h11, h12, h13⟩ : s 0 = true ∧ s 1 = true ∧ s 2 = true ∧ s 3 = true ∧ s 4 = true ∧ s 5 = true ∧ s 6 = true ∧ s 7 = true ∧ s 8 = true ∧ s 9 = true ∧ s 10 = true ∧ s 11 = true ∧ s 12 = true ∧ s 13 = true := ⟨hpre 0 rfl, hpre 1 rfl, hpre 2 rfl, hpre 3 rfl, hpre 4 rfl, hpre 5 rfl, hpre 6 rfl, hpre 7 rfl, hpre 8 rfl, hpre 9 rfl, hpre 10 rfl, hpre 11 rfl, hpre 12 rfl, hpre 13 rfl⟩
 refine Sy.heap hH ?_
 obtain rfl := (q10 h10).2 hs
 refine Sy.heap (H' := (bif s 11 then [(b10, cel 79 x10)] else []) ++ ((b9, cel 89 [.int .i64 0, .int .i64 0, .slice none 0 0]) :: ((bif s 9 then [(b8, cel 28 x8)] else []) ++ ((bif s 8 then [(b7, cel 25 x7)] else []) ++ ((b4, cel 28 (ctl c (c.sl ah ch))) :: (b3, cel 25 (gtl g (g.sl ag cg))) :: H))))) (fun w h => by rw [h10] at h; exact h) ?_
 refine stoE (l' := gtl g (g.sl a3 c3)) rfl (q10 h10).1 (q5 h5).1 cn89 rfl rfl rfl rfl (Nat.le_refl _) ?_
 exact hK _ _ _ ⟨a1, c1, a2, c2, a3, c3, a4, c4, b7, x7, b8, x8, b9, gtl g (g.sl a3 c3), b10, x10, hL0, hR0, fun h => (q0 h), fun h => ⟨(q1 h).1, (q1 h).2⟩, fun h => (q2 h), fun h => ⟨(q3 h).1, (q3 h).2⟩, fun h => (q4 h), fun h => ⟨(q5 h).1, (q5 h).2⟩, fun h => (q6 h), fun h => ⟨(q7 h).1, (q7 h).2⟩, fun h => ⟨(q8 h).1, (q8 h).2⟩, fun h => ⟨(q9 h).1, (q9 h).2⟩, fun h => ⟨(q10 h).1, fun h => by cases (show true = false from h)⟩, fun h => ⟨(q11 h).1, (q11 h).2⟩, fun h => q12 h, fun h => q13 h, fun _ => rfl, fun h => q15 h, fun w h => by show St ((bif s 11 then [(b10, cel 79 x10)] else []) ++ ((bif s 10 then [(b9, cel 89 (gtl g (g.sl a3 c3)))] else []) ++ ((bif s 9 then [(b8, cel 28 x8)] else []) ++ ((bif s 8 then [(b7, cel 25 x7)] else []) ++ ((b4, cel 28 (ctl c (c.sl ah ch))) :: (b3, cel 25 (gtl g (g.sl ag cg))) :: H))))) Rz w; rw [h10]; exact h⟩
 intro s Lz Hz Rz hdn hs hpre hI K hK
 obtain ⟨a1, c1, a2, c2, a3, c3, a4, c4, b7, x7, b8, x8, b9, x9, b10, x10, hL0, hR0, q0, q1, q2, q3, q4, q5, q6, q7, q8, q9, q10, q11, q12, q13, q14, q15, hH⟩ := hI
 obtain ⟨h0, h1, h2, h3, h4, h5, h6, h7, h8, h9, h10, h11, h12, h13, h14⟩ : s 0 = true ∧ s 1 = true ∧ s 2 = true ∧ s 3 = true ∧ s 4 = true ∧ s 5 = true ∧ s 6 = true ∧ s 7 = true ∧ s 8 = true ∧ s 9 = true ∧ s 10 = true ∧ s 11 = true ∧ s 12 = true ∧ s 13 = true ∧ s 14 = true := ⟨hpre 0 rfl, hpre 1 rfl, hpre 2 rfl, hpre 3 rfl, hpre 4 rfl, hpre 5 rfl, hpre 6 rfl, hpre 7 rfl, hpre 8 rfl, hpre 9 rfl, hpre 10 rfl, hpre 11 rfl, hpre 12 rfl, hpre 13 rfl, hpre 14 rfl⟩
 refine Sy.heap hH ?_
 obtain rfl := (q11 h11).2 hs
 refine Sy.heap (H' := (b10, cel 79 [.int .i64 0, .int .i64 0, .slice none 0 0]) :: ((bif s 10 then [(b9, cel 89 x9)] else []) ++ ((bif s 9 then [(b8, cel 28 x8)] else []) ++ ((bif s 8 then [(b7, cel 25 x7)] else []) ++ ((b4, cel 28 (ctl c (c.sl ah ch))) :: (b3, cel 25 (gtl g (g.sl ag cg))) :: H))))) (fun w h => by rw [h11] at h; exact h) ?_
 refine stoE (l' := ctl c (c.sl a4 c4)) rfl (q11 h11).1 (q7 h7).1 cn79 rfl rfl rfl rfl (Nat.le_refl _) ?_
 exact hK _ _ _ ⟨a1, c1, a2, c2, a3, c3, a4, c4, b7, x7, b8, x8, b9, x9, b10, ctl c (c.sl a4 c4), hL0, hR0, fun h => (q0 h), fun h => ⟨(q1 h).1, (q1 h).2⟩, fun h => (q2 h), fun h => ⟨(q3 h).1, (q3 h).2⟩, fun h => (q4 h), fun h => ⟨(q5 h).1, (q5 h).2⟩, fun h => (q6 h), fun h => ⟨(q7 h).1, (q7 h).2⟩, fun h => ⟨(q8 h).1, (q8 h).2⟩, fun h => ⟨(q9 h).1, (q9 h).2⟩, fun h => ⟨(q10 h).1, (q10 h).2⟩, fun h => ⟨(q11 h).1, fun h => by cases (show true = false from h)⟩, fun h => q12 h, fun h => q13 h, fun h => q14 h, fun _ => rfl, fun w h => by show St ((bif s 11 then [(b10, cel 79 (ctl c (c.sl a4 c4)))] else []) ++ ((bif s 10 then [(b9, cel 89 x9)] else []) ++ ((bif s 9 then [(b8, cel 28 x8)] else []) ++ ((bif s 8 then [(b7, cel 25 x7)] else []) ++ ((b4, cel 28 (ctl c (c.sl ah ch))) :: (b3, cel 25 (gtl g (g.sl ag cg))) :: H))))) Rz w; rw [h11]; exact h⟩
 intro Lz Hz Rz hI
 obtain ⟨a1, c1, a2, c2, a3, c3, a4, c4, b7, x7, b8, x8, b9, x9, b10, x10, hL0, hR0, q0, q1, q2, q3, q4, q5, q6, q7, q8, q9, q10, q11, q12, q13, q14, q15, hH⟩ := hI
 obtain rfl := q15 rfl
 obtain rfl := q14 rfl
 obtain rfl := q13 rfl
 obtain rfl := q12 rfl
 refine Sy.weak (L' := [(10, .pointer (some ⟨b10, 0, none⟩)), (9, .pointer (some ⟨b9, 0, none⟩)), (8, .pointer (some ⟨b8, 0, none⟩)), (7, .pointer (some ⟨b7, 0, none⟩)), (2, .int .i64 gr), (3, .pointer (some ⟨b3, 0, none⟩)), (4, .pointer (some ⟨b4, 0, none⟩))]) (H' := (b10, cel 79 (ctl c (c.sl a4 c4))) :: (b9, cel 89 (gtl g (g.sl a3 c3))) :: (b8, cel 28 (ctl c (c.sl a2 c2))) :: (b7, cel 25 (gtl g (g.sl a1 c1.1))) :: (b4, cel 28 (ctl c (c.sl ah ch))) :: (b3, cel 25 (gtl g (g.sl ag cg))) :: H) (R' := RowsA a4 5 (hrows c.hs) :: RowsA a3 5 (grows g.grs) :: RowsA a2 5 (hrows c.hs) :: RowsA a1 5 (grows g.grs) :: R) ?_ (Sub.cons (q11 rfl).1 (Sub.cons (q10 rfl).1 (Sub.cons (q9 rfl).1 (Sub.cons (q8 rfl).1 hL0)))).lk (fun w h => St.facts (hH w h) (fin_cons (q7 rfl).2 (fin_cons (q5 rfl).2 (fin_cons (q3 rfl).2 (fin_cons (q1 rfl).2 hR0)))))
 refine sy_seq ?_
 refine sy_tx' [0, 1, 2, 3] rfl ?_
 refine spL rfl rfl (lhA [_, _, _] ag89 rfl rfl rfl) rfl ?_
 refine spL rfl rfl (lhA [_, _, _] ag79 rfl rfl rfl) rfl ?_
 refine clV rfl cal47 rfl rfl (c_rBoth g a3 c3 (by omega) c a4 c4 (by omega) _ _) ?_
 refine sp rfl (PE.assign rfl) rfl ?_
 refine sy_seq ?_
 refine sy_tx' [0, 1, 2, 3] rfl ?_
 refine sp rfl (PE.move rfl) rfl ?_
 refine sp rfl (PE.move rfl) rfl ?_
 refine sp rfl (PE.assign rfl) rfl ?_
 refine sp rfl (PE.assign rfl) rfl ?_
 refine sy_seq ?_
 refine sy_tx' [0] rfl ?_
 refine sp rfl (PE.assign rfl) rfl ?_
 refine sy_seq ?_
 refine sy_tx' [0] rfl ?_
 refine alc rfl zl61 rfl (fun b15 => ?_)
 refine sy_seq ?_
 refine sy_tx' [0] rfl ?_
 refine sp rfl (PE.assign rfl) rfl ?_
 refine sy_seq ?_
 refine sy_seq ?_
 refine sy_tx' [0, 1] rfl ?_
 refine sp rfl (PE.move rfl) rfl ?_
 refine sp rfl (PE.eql rfl rfl) rfl ?_
 refine sy_join (ι := Option Addr × Nat) (fun x => ⟨[(2, .int .i64 gr), (3, .pointer (some ⟨b3, 0, none⟩)), (4, .pointer (some ⟨b4, 0, none⟩)), (7, .pointer (some ⟨b7, 0, none⟩)), (8, .pointer (some ⟨b8, 0, none⟩)), (9, .pointer (some ⟨b9, 0, none⟩)), (10, .pointer (some ⟨b10, 0, none⟩)), (15, .pointer (some ⟨b15, 0, none⟩)), (11, .int .i64 (toldE g c false)), (13, .int .i64 (showR g c gr).2), (12, .int .i64 (sureR g c).2), (14, .slice x.1 (canR g c).length x.2), (16, .int .i64 (sureR g c).1)], (b15, cel 61 [.int .i64 (payP g c).1, .int .i64 (payP g c).2]) :: (b10, cel 79 (ctl c (c.sl a4 c4))) :: (b9, cel 89 (gtl g (g.sl a3 c3))) :: (b8, cel 28 (ctl c (c.sl a2 c2))) :: (b7, cel 25 (gtl g (g.sl a1 c1.1))) :: (b4, cel 28 (ctl c (c.sl ah ch))) :: (b3, cel 25 (gtl g (g.sl ag cg))) :: H, RowsA x.1 1 (irows (canR g c)) :: RowsA a4 5 (hrows c.hs) :: RowsA a3 5 (grows g.grs) :: RowsA a2 5 (hrows c.hs) :: RowsA a1 5 (grows g.grs) :: R⟩) ?_ ?_
 refine sy_cond rfl (fun hc1 => ?_) (fun hc1 => ?_)
 have hw0 : bothE g c = 0 := by simpa using hc1
 obtain ⟨hgo, hco⟩ := both_ok hw0
 have hmany := hgo.many
 refine sy_seq ?_
 refine sy_seq ?_
 refine sy_tx' [0, 1, 2, 3, 4, 5] rfl ?_
 refine spL rfl rfl (lhA [_, _, _] ag89 rfl rfl rfl) rfl ?_
 refine spL rfl rfl (lhA [_, _, _] ag79 rfl rfl rfl) rfl ?_
 refine cl rfl cal57 rfl rfl (c_All g hgo.miss (g.sl a3 c3) c hco a4 c4 _ _) ?_
 rintro _ _ R1 ⟨ms, bq, aa, cc, hms, hml, rfl, rfl, hR1⟩
 obtain rfl := hR1.symm
 clear hR1
 refine Sy.heap (fun w h => St.also h (f := RowsA (aa 0) 4 (mrows (partS g.miss c.hs ms 0))) (fun w' hg => hg (fun w => ∀ s < 64, RowsA (aa s) 4 (mrows (partS g.miss c.hs ms s)) w) (by simp) 0 (by decide))) ?_
 obtain ⟨l, hl⟩ : ∃ l, l = partS g.miss c.hs ms 0 := ⟨_, rfl⟩
 obtain ⟨hl1, hl2, hl3, hl4⟩ := all_link hw0 hms hl
 refine sp rfl (PE.indexAddr el107 rfl rfl (by omega) (by omega)) rfl ?_
 refine spL rfl rfl (lf0 (x := .slice (aa 0) (partS g.miss c.hs ms 0).length (cc 0)) sc106 (by rfl) rfl) rfl ?_
 refine sp rfl (PE.assign rfl) rfl ?_
 refine sy_seq ?_
 refine sy_tx' [0, 1, 2] rfl ?_
 rw [← hl]
 refine sp rfl (PE.move rfl) rfl ?_
 refine sp rfl (PE.lenSl isl106 rfl) rfl ?_
 refine sp rfl (PE.gtr rfl rfl) rfl ?_
 refine sy_join (ι := Option Addr × Nat) (fun x => ⟨[(2, .int .i64 gr), (3, .pointer (some ⟨b3, 0, none⟩)), (4, .pointer (some ⟨b4, 0, none⟩)), (7, .pointer (some ⟨b7, 0, none⟩)), (8, .pointer (some ⟨b8, 0, none⟩)), (9, .pointer (some ⟨b9, 0, none⟩)), (10, .pointer (some ⟨b10, 0, none⟩)), (15, .pointer (some ⟨b15, 0, none⟩)), (11, .int .i64 (toldE g c false)), (14, .slice x.1 (canR g c).length x.2), (16, .int .i64 0)], (b15, cel 61 [.int .i64 (payP g c).1, .int .i64 (payP g c).2]) :: (b10, cel 79 (ctl c (c.sl a4 c4))) :: (b9, cel 89 (gtl g (g.sl a3 c3))) :: (b8, cel 28 (ctl c (c.sl a2 c2))) :: (b7, cel 25 (gtl g (g.sl a1 c1.1))) :: (b4, cel 28 (ctl c (c.sl ah ch))) :: (b3, cel 25 (gtl g (g.sl ag cg))) :: H, RowsA x.1 1 (irows (canR g c)) :: RowsA a4 5 (hrows c.hs) :: RowsA a3 5 (grows g.grs) :: RowsA a2 5 (hrows c.hs) :: RowsA a1 5 (grows g.grs) :: R⟩) ?_ ?_
 refine sy_cond rfl (fun hc2 => ?_) (fun hc2 => ?_)
 try simp only [decide_eq_true_eq, decide_eq_false_iff_not, Bool.and_eq_true, Bool.or_eq_true, Bool.not_eq_true', Int.not_le, Int.not_lt] at hc2
 obtain ⟨ht0, htt, hmm⟩ := hl3 (by omega)
 have hcr := can_ref htt.ok hmm (l := g.grs)
 rw [← can_told ht0] at hcr
 have hcl := canR_len g c
 have hcp := can_pos (l := g.grs) htt
 rw [← can_told ht0] at hcp
 rw [hw0]
 refine sy_seq ?_
 refine sy_tx' [0, 1, 2, 3] rfl ?_
 refine spL rfl rfl (lhA [_, _, _] ag89 rfl rfl rfl) rfl ?_
 refine sp rfl (PE.move rfl) rfl ?_
 refine cl rfl cal68 rfl rfl (c_rCan g a3 c3 (by omega) (by omega) l hl1 (by omega) (aa 0) (cc 0) _ _ (hA := (by rw [hl]; infer_instance))) ?_
 rintro _ _ R1 ⟨a9, c9, rfl, rfl, hR1⟩
 obtain rfl := hR1.symm
 clear hR1
 rw [hcr]
 refine sp rfl (PE.assign rfl) rfl ?_
 refine sy_tx' [0, 1, 2, 3, 4] rfl ?_
 refine spL rfl rfl (lhA [_, _, _] ag89 rfl rfl rfl) rfl ?_
 refine spL rfl rfl (lhA [_, _, _] ag79 rfl rfl rfl) rfl ?_
 refine sp rfl (PE.move rfl) rfl ?_
 refine cl rfl cal69 rfl rfl (c_rPay g a3 c3 (by omega) hgo c hco (c.sl a4 c4) (canR g c) can_rng (by omega) a9 c9 _ _) ?_
 rintro _ _ _ ⟨rfl, rfl, rfl⟩
 rw [pay_ref hcp (fun q => (prc_bd hgo q).2)]
 refine sto rfl rfl rfl cn61 rfl rfl rfl rfl ?_
 exact sy_jend (a9, c9) (by dsimp only; rw [ht0]; exact (by repeat' first | exact Sub.nil | apply Sub.cons | rfl | (simp [lk]; omega))) (fun w h => by dsimp only; rw [pay_ok ht0]; exact St.sub h)
 try simp only [decide_eq_true_eq, decide_eq_false_iff_not, Bool.and_eq_true, Bool.or_eq_true, Bool.not_eq_true', Int.not_le, Int.not_lt] at hc2
 have ht0 := hl4 (by omega)
 obtain ⟨e1, e2, e3⟩ := grd_err (g := g) (c := c) (by rw [ht0]; decide)
 refine sy_tx' [0] rfl ?_
 refine sp rfl (PE.assign rfl) rfl ?_
 refine Sy.heap (fun w h => St.norows (sz := 1) h) ?_
 exact sy_jend (none, 0) (by dsimp only; rw [e1, ht0]; exact (by repeat' first | exact Sub.nil | apply Sub.cons | rfl | (simp [lk]; omega))) (fun w h => by dsimp only; rw [e1, e3, show irows [] = ([] : List (List Value)) from rfl]; exact St.sub h)
 rintro ⟨a9, c9⟩
 dsimp only
 refine sy_seq ?_
 refine sy_seq ?_
 refine sy_tx' [0, 1] rfl ?_
 refine sp rfl (PE.move rfl) rfl ?_
 refine sp rfl (PE.assign rfl) rfl ?_
 refine sy_seq ?_
 refine sy_tx' [0, 1, 2] rfl ?_
 refine sp rfl (PE.move rfl) rfl ?_
 refine sp rfl (PE.lenSl isl22 rfl) rfl ?_
 refine sp rfl (PE.gtr rfl rfl) rfl ?_
 refine sy_join (ι := Unit) (fun _ => ⟨[(2, .int .i64 gr), (3, .pointer (some ⟨b3, 0, none⟩)), (4, .pointer (some ⟨b4, 0, none⟩)), (7, .pointer (some ⟨b7, 0, none⟩)), (8, .pointer (some ⟨b8, 0, none⟩)), (9, .pointer (some ⟨b9, 0, none⟩)), (10, .pointer (some ⟨b10, 0, none⟩)), (15, .pointer (some ⟨b15, 0, none⟩)), (11, .int .i64 (toldE g c false)), (12, .int .i64 (sureR g c).2), (14, .slice a9 (canR g c).length c9), (16, .int .i64 (sureR g c).1)], (b15, cel 61 [.int .i64 (payP g c).1, .int .i64 (payP g c).2]) :: (b10, cel 79 (ctl c (c.sl a4 c4))) :: (b9, cel 89 (gtl g (g.sl a3 c3))) :: (b8, cel 28 (ctl c (c.sl a2 c2))) :: (b7, cel 25 (gtl g (g.sl a1 c1.1))) :: (b4, cel 28 (ctl c (c.sl ah ch))) :: (b3, cel 25 (gtl g (g.sl ag cg))) :: H, RowsA a9 1 (irows (canR g c)) :: RowsA a4 5 (hrows c.hs) :: RowsA a3 5 (grows g.grs) :: RowsA a2 5 (hrows c.hs) :: RowsA a1 5 (grows g.grs) :: R⟩) ?_ ?_
 refine sy_cond rfl (fun hc3 => ?_) (fun hc3 => ?_)
 try simp only [decide_eq_true_eq, decide_eq_false_iff_not, Bool.and_eq_true, Bool.or_eq_true, Bool.not_eq_true', Int.not_le, Int.not_lt] at hc3
 have hsm := sure_many (g := g) (c := c) (by omega)
 refine sy_tx' [0] rfl ?_
 refine sp rfl (PE.assign rfl) rfl ?_
 exact sy_jend () (by dsimp only; rw [hsm]; exact (by repeat' first | exact Sub.nil | apply Sub.cons | rfl | (simp [lk]; omega))) (fun w h => by dsimp only; exact St.sub h)
 try simp only [decide_eq_true_eq, decide_eq_false_iff_not, Bool.and_eq_true, Bool.or_eq_true, Bool.not_eq_true', Int.not_le, Int.not_lt] at hc3
 refine sy_seq ?_
 refine sy_tx' [0, 1] rfl ?_
 refine sp rfl (PE.move rfl) rfl ?_
 refine sp rfl (PE.eql rfl rfl) rfl ?_
 refine sy_cond rfl (fun hc4 => ?_) (fun hc4 => ?_)
 try simp only [decide_eq_true_eq, decide_eq_false_iff_not, Bool.and_eq_true, Bool.or_eq_true, Bool.not_eq_true', Int.not_le, Int.not_lt] at hc4
 have ht0 : toldE g c false = 0 := by omega
 obtain ⟨x, hx, hsx⟩ := sure_one ht0 (by omega)
 refine sy_addr (a := a9) (sz := 1) (rows := irows (canR g c)) (by rw [hx]; simp) (fun b9x o9x hea => ?_)
 subst hea
 refine sy_tx' [0, 1, 2, 3] rfl ?_
 refine sp rfl (PE.move rfl) rfl ?_
 refine sp rfl (PE.indexAddr el22 rfl rfl (by omega) (by rw [hx]; show (0 : Int) < ((1 : Nat) : Int); omega)) rfl ?_
 refine spL rfl rfl (lf0 (x := .int .i64 x) sc3 (by rw [hx]; rfl) rfl) rfl ?_
 refine sp rfl (PE.assign rfl) rfl ?_
 exact sy_jend () (by dsimp only; rw [hsx, ht0]; exact (by repeat' first | exact Sub.nil | apply Sub.cons | rfl | (simp [lk]; omega))) (fun w h => by dsimp only; exact St.sub h)
 try simp only [decide_eq_true_eq, decide_eq_false_iff_not, Bool.and_eq_true, Bool.or_eq_true, Bool.not_eq_true', Int.not_le, Int.not_lt] at hc4
 obtain ⟨e1, e2, e3⟩ := grd_err (g := g) (c := c) (by omega)
 refine sy_skip ?_
 exact sy_jend () (by dsimp only; rw [e2]; exact (by repeat' first | exact Sub.nil | apply Sub.cons | rfl | (simp [lk]; omega))) (fun w h => by dsimp only; exact St.sub h)
 rintro ⟨⟩
 dsimp only
 refine sy_seq ?_
 refine sy_tx' [0] rfl ?_
 refine sp rfl (PE.assign rfl) rfl ?_
 refine sy_seq ?_
 refine sy_tx' [0, 1, 2, 3, 4, 5, 6, 7, 8] rfl ?_
 refine sp rfl (PE.move rfl) rfl ?_
 refine sp rfl (PE.geq rfl rfl) rfl ?_
 refine sp rfl (PE.move rfl) rfl ?_
 refine sy_case (t := 71) rfl (fun g71 => ?_) (fun g71 => ?_)
 try simp only [decide_eq_true_eq, decide_eq_false_iff_not, Bool.and_eq_true, Bool.or_eq_true, Bool.not_eq_true', Int.not_le, Int.not_lt] at g71
 refine spG rfl rfl rfl rfl (PE.move rfl) rfl ?_
 refine spG rfl rfl rfl rfl (PE.fieldAddr fo25_2 rfl) rfl ?_
 refine spLG rfl rfl rfl rfl rfl (lh sc23 rfl rfl) rfl ?_
 refine spG rfl rfl rfl rfl (PE.lenSl isl23 rfl) rfl ?_
 refine spG rfl rfl rfl rfl (PE.lss rfl rfl) rfl ?_
 refine sp rfl (PE.pick rfl rfl rfl) rfl ?_
 refine sy_join (ι := Unit) (fun _ => ⟨[(2, .int .i64 gr), (3, .pointer (some ⟨b3, 0, none⟩)), (4, .pointer (some ⟨b4, 0, none⟩)), (7, .pointer (some ⟨b7, 0, none⟩)), (8, .pointer (some ⟨b8, 0, none⟩)), (9, .pointer (some ⟨b9, 0, none⟩)), (10, .pointer (some ⟨b10, 0, none⟩)), (15, .pointer (some ⟨b15, 0, none⟩)), (11, .int .i64 (toldE g c false)), (13, .int .i64 (showR g c gr).2), (12, .int .i64 (sureR g c).2), (14, .slice a9 (canR g c).length c9), (16, .int .i64 (sureR g c).1)], (b15, cel 61 [.int .i64 (payP g c).1, .int .i64 (payP g c).2]) :: (b10, cel 79 (ctl c (c.sl a4 c4))) :: (b9, cel 89 (gtl g (g.sl a3 c3))) :: (b8, cel 28 (ctl c (c.sl a2 c2))) :: (b7, cel 25 (gtl g (g.sl a1 c1.1))) :: (b4, cel 28 (ctl c (c.sl ah ch))) :: (b3, cel 25 (gtl g (g.sl ag cg))) :: H, RowsA a9 1 (irows (canR g c)) :: RowsA a4 5 (hrows c.hs) :: RowsA a3 5 (grows g.grs) :: RowsA a2 5 (hrows c.hs) :: RowsA a1 5 (grows g.grs) :: R⟩) ?_ ?_
 refine sy_cond rfl (fun hc5 => ?_) (fun hc5 => ?_)
 try simp only [decide_eq_true_eq, decide_eq_false_iff_not, Bool.and_eq_true, Bool.or_eq_true, Bool.not_eq_true', Int.not_le, Int.not_lt] at hc5
 have hin : inb gr (-1) ((g.grs.length : Int) - 1) = true := by simp [inb]; omega
 have hcl := canR_len g c
 refine sy_seq ?_
 refine sy_tx' [0, 1] rfl ?_
 refine sp rfl (PE.move rfl) rfl ?_
 refine sp rfl (PE.assign rfl) rfl ?_
 refine sy_seq ?_
 refine sy_tx' [0, 1, 2, 3, 4, 5, 6, 7] rfl ?_
 refine sp rfl (PE.move rfl) rfl ?_
 refine sp rfl (PE.eql rfl rfl) rfl ?_
 refine sp rfl (PE.move rfl) rfl ?_
 refine sy_case (t := 81) rfl (fun g81 => ?_) (fun g81 => ?_)
 try simp only [decide_eq_true_eq, decide_eq_false_iff_not, Bool.and_eq_true, Bool.or_eq_true, Bool.not_eq_true', Int.not_le, Int.not_lt] at g81
 have ht0 : toldE g c false = 0 := by omega
 have hsi := show_in (gr := gr) ht0 (by omega)
 refine spG rfl rfl rfl rfl (PE.move rfl) rfl ?_
 refine spG rfl rfl rfl rfl (PE.move rfl) rfl ?_
 refine clVG rfl rfl rfl rfl cal70 rfl rfl (c_contains_int (canR g c) a9 c9 gr (by omega) _ _) ?_
 refine spG rfl rfl rfl rfl (PE.not rfl) rfl ?_
 refine sp rfl (PE.pick rfl rfl rfl) rfl ?_
 refine sy_cond rfl (fun hc6 => ?_) (fun hc6 => ?_)
 have hni : gr ∉ canR g c := by
   intro h9
   simp at hc6
   exact hc6 gr h9 rfl
 obtain ⟨_, hse⟩ := hsi.resolve_left (fun h => hni h.1)
 have es : (showR g c gr).2 = 6 := by rw [hse]
 refine sy_tx' [0] rfl ?_
 refine sp rfl (PE.assign rfl) rfl ?_
 exact sy_jend () (by dsimp only; rw [es]; exact (by repeat' first | exact Sub.nil | apply Sub.cons | rfl | (simp [lk]; omega))) (fun w h => by dsimp only; exact St.sub h)
 have hni : gr ∈ canR g c := by simpa using hc6
 obtain ⟨_, q9, hse, _⟩ := hsi.resolve_right (fun h => h.1 hni)
 have es : (showR g c gr).2 = toldE g c false := by rw [hse, ht0]
 refine sy_skip ?_
 exact sy_jend () (by dsimp only; rw [es]; exact (by repeat' first | exact Sub.nil | apply Sub.cons | rfl | (simp [lk]; omega))) (fun w h => by dsimp only; exact St.sub h)
 try simp only [decide_eq_true_eq, decide_eq_false_iff_not, Bool.and_eq_true, Bool.or_eq_true, Bool.not_eq_true', Int.not_le, Int.not_lt] at g81
 have es : (showR g c gr).2 = toldE g c false := by rw [show_err (by rw [hin]; exact g81), hin]; rfl
 repeat refine spN rfl rfl rfl rfl rfl rfl rfl rfl ?_
 refine sp rfl (PE.pick rfl rfl rfl) rfl ?_
 refine sy_condF rfl ?_
 refine sy_skip ?_
 exact sy_jend () (by dsimp only; rw [es]; exact (by repeat' first | exact Sub.nil | apply Sub.cons | rfl | (simp [lk]; omega))) (fun w h => by dsimp only; exact St.sub h)
 try simp only [decide_eq_true_eq, decide_eq_false_iff_not, Bool.and_eq_true, Bool.or_eq_true, Bool.not_eq_true', Int.not_le, Int.not_lt] at hc5
 have hin : inb gr (-1) ((g.grs.length : Int) - 1) = false := by simp [inb]; omega
 have es : (showR g c gr).2 = 1 := by
   have e9 : toldE g c (!(inb gr (-1) ((g.grs.length : Int) - 1))) = 1 := by rw [hin]; exact told_one hw0
   rw [show_err (by rw [e9]; decide), e9]
 refine sy_skip ?_
 exact sy_jend () (by dsimp only; rw [es]; exact (by repeat' first | exact Sub.nil | apply Sub.cons | rfl | (simp [lk]; omega))) (fun w h => by dsimp only; exact St.sub h)
 rintro ⟨⟩
 dsimp only
 exact sy_jend (a9, c9) (by dsimp only; exact (by repeat' first | exact Sub.nil | apply Sub.cons | rfl | (simp [lk]; omega))) (fun w h => by dsimp only; exact St.sub h)
 try simp only [decide_eq_true_eq, decide_eq_false_iff_not, Bool.and_eq_true, Bool.or_eq_true, Bool.not_eq_true', Int.not_le, Int.not_lt] at g71
 have hin : inb gr (-1) ((g.grs.length : Int) - 1) = false := by simp [inb]; omega
 have es : (showR g c gr).2 = 1 := by
   have e9 : toldE g c (!(inb gr (-1) ((g.grs.length : Int) - 1))) = 1 := by rw [hin]; exact told_one hw0
   rw [show_err (by rw [e9]; decide), e9]
 repeat refine spN rfl rfl rfl rfl rfl rfl rfl rfl ?_
 refine sp rfl (PE.pick rfl rfl rfl) rfl ?_
 refine sy_join (ι := Unit) (fun _ => ⟨[(2, .int .i64 gr), (3, .pointer (some ⟨b3, 0, none⟩)), (4, .pointer (some ⟨b4, 0, none⟩)), (7, .pointer (some ⟨b7, 0, none⟩)), (8, .pointer (some ⟨b8, 0, none⟩)), (9, .pointer (some ⟨b9, 0, none⟩)), (10, .pointer (some ⟨b10, 0, none⟩)), (15, .pointer (some ⟨b15, 0, none⟩)), (11, .int .i64 (toldE g c false)), (13, .int .i64 (showR g c gr).2), (12, .int .i64 (sureR g c).2), (14, .slice a9 (canR g c).length c9), (16, .int .i64 (sureR g c).1)], (b15, cel 61 [.int .i64 (payP g c).1, .int .i64 (payP g c).2]) :: (b10, cel 79 (ctl c (c.sl a4 c4))) :: (b9, cel 89 (gtl g (g.sl a3 c3))) :: (b8, cel 28 (ctl c (c.sl a2 c2))) :: (b7, cel 25 (gtl g (g.sl a1 c1.1))) :: (b4, cel 28 (ctl c (c.sl ah ch))) :: (b3, cel 25 (gtl g (g.sl ag cg))) :: H, RowsA a9 1 (irows (canR g c)) :: RowsA a4 5 (hrows c.hs) :: RowsA a3 5 (grows g.grs) :: RowsA a2 5 (hrows c.hs) :: RowsA a1 5 (grows g.grs) :: R⟩) ?_ ?_
 refine sy_condF rfl ?_
 refine sy_skip ?_
 exact sy_jend () (by dsimp only; rw [es]; exact (by repeat' first | exact Sub.nil | apply Sub.cons | rfl | (simp [lk]; omega))) (fun w h => by dsimp only; exact St.sub h)
 rintro ⟨⟩
 dsimp only
 exact sy_jend (a9, c9) (by dsimp only; exact (by repeat' first | exact Sub.nil | apply Sub.cons | rfl | (simp [lk]; omega))) (fun w h => by dsimp only; exact St.sub h)
 have hw0 : bothE g c ≠ 0 := by simpa using hc1
 have ht0 := told_err hw0 false
 obtain ⟨e1, e2, e3⟩ := grd_err (g := g) (c := c) (by rw [ht0]; exact hw0)
 have es : (showR g c gr).2 = bothE g c := by rw [show_err (by rw [told_err hw0]; exact hw0), told_err hw0]
 refine sy_skip ?_
 refine Sy.heap (fun w h => St.norows (sz := 1) h) ?_
 exact sy_jend (none, 0) (by dsimp only; rw [e1, e2, es, ht0]; exact (by repeat' first | exact Sub.nil | apply Sub.cons | rfl | (simp [lk]; omega))) (fun w h => by dsimp only; rw [e1, e3, show irows [] = ([] : List (List Value)) from rfl]; exact St.sub h)
 rintro ⟨a9, c9⟩
 dsimp only
 refine sy_seq ?_
 refine sy_tx' [0, 1, 2, 3, 4, 5, 6, 7] rfl ?_
 refine spL rfl rfl (lhA [_, _, _] ag25 rfl rfl rfl) rfl ?_
 refine spL rfl rfl (lhA [_, _, _] ag28 rfl rfl rfl) rfl ?_
 refine cl rfl cal33 rfl rfl (c_Can g a1 c1.1 (by omega) c1.2 c a2 c2 (by omega) _ _) ?_
 rintro _ _ R1 ⟨o, rfl, rfl, hR1⟩
 obtain rfl := hR1.symm
 clear hR1
 obtain ⟨a8, c8, he, hf⟩ := o.freeze
 rw [he]
 refine Sy.heap (fun w h => hf h) ?_
 rw [show ∀ l : List Int, (irows l).length = l.length from fun l => List.length_map _]
 clear he hf
 have hcl := canR_len g c
 obtain ⟨hsl, hsz, hso⟩ := show_len g c gr
 refine sp rfl (PE.move rfl) rfl ?_
 refine sp rfl (PE.extract rfl rfl) rfl ?_
 refine sp rfl (PE.extract rfl rfl) rfl ?_
 refine sp rfl (PE.assign rfl) rfl ?_
 refine sp rfl (PE.assign rfl) rfl ?_
 refine sy_seq ?_
 refine sy_tx' [0, 1, 2, 3, 4, 5, 6, 7] rfl ?_
 refine spL rfl rfl (lhA [_, _, _] ag25 rfl rfl rfl) rfl ?_
 refine spL rfl rfl (lhA [_, _, _] ag28 rfl rfl rfl) rfl ?_
 refine clV rfl cal29 rfl rfl (c_Sure g a1 c1.1 (by omega) c1.2 c a2 c2 (by omega) _ _) ?_
 refine sp rfl (PE.move rfl) rfl ?_
 refine sp rfl (PE.extract rfl rfl) rfl ?_
 refine sp rfl (PE.extract rfl rfl) rfl ?_
 refine sp rfl (PE.assign rfl) rfl ?_
 refine sp rfl (PE.assign rfl) rfl ?_
 refine sy_seq ?_
 refine sy_tx' [0, 1, 2, 3, 4, 5, 6, 7, 8, 9] rfl ?_
 refine spL rfl rfl (lhA [_, _, _] ag25 rfl rfl rfl) rfl ?_
 refine spL rfl rfl (lhA [_, _, _] ag28 rfl rfl rfl) rfl ?_
 refine sp rfl (PE.move rfl) rfl ?_
 refine cl rfl cal71 rfl rfl (c_Show g a1 c1.1 (by omega) c1.2 c a2 c2 (by omega) gr _ _) ?_
 rintro _ _ _ ⟨rfl, rfl, rfl⟩
 refine sp rfl (PE.move rfl) rfl ?_
 refine sp rfl (PE.extract rfl rfl) rfl ?_
 refine sp rfl (PE.extract rfl rfl) rfl ?_
 refine alc rfl zl31 rfl (fun b22 => ?_)
 refine stoA rfl rfl rfl cn31 rfl (by rw [ints_length]; exact hsl) rfl (ints_one _) ?_
 refine sp rfl (PE.assign rfl) rfl ?_
 refine sy_seq ?_
 refine sy_tx' [0, 1, 2, 3, 4, 5, 6, 7, 8] rfl ?_
 refine spL rfl rfl (lhA [_, _, _] ag25 rfl rfl rfl) rfl ?_
 refine spL rfl rfl (lhA [_, _, _] ag28 rfl rfl rfl) rfl ?_
 refine cl rfl cal30 rfl rfl (c_Pay g a1 c1.1 (by omega) c1.2 c a2 c2 (by omega) _ _) ?_
 rintro _ _ _ ⟨rfl, rfl, rfl⟩
 rw [payR_eq]
 refine sp rfl (PE.move rfl) rfl ?_
 refine sp rfl (PE.extract rfl rfl) rfl ?_
 refine sp rfl (PE.extract rfl rfl) rfl ?_
 refine alc rfl zl61 rfl (fun b24 => ?_)
 refine sto rfl rfl rfl cn61 rfl rfl rfl rfl ?_
 refine sp rfl (PE.assign rfl) rfl ?_
 refine sy_seq ?_
 refine sy_seq ?_
 refine sy_tx' [0, 1, 2, 3, 4, 5, 6, 7, 8, 9, 10, 11, 12, 13, 14, 15, 16, 17, 18, 19, 20, 21, 22, 23, 24, 25, 26, 27, 28, 29, 30, 31, 32, 33] rfl ?_
 refine sp rfl (PE.move rfl) rfl ?_
 refine sp rfl (PE.move rfl) rfl ?_
 refine sp rfl (PE.neq rfl rfl) rfl ?_
 refine sp rfl (PE.move rfl) rfl ?_
 refine sy_case (t := 115) rfl (fun g115 => ?_) (fun g115 => ?_)
 exact absurd g115 (by simp)
 refine spG rfl rfl rfl rfl (PE.move rfl) rfl ?_
 refine spG rfl rfl rfl rfl (PE.move rfl) rfl ?_
 refine spG rfl rfl rfl rfl (PE.neq rfl rfl) rfl ?_
 refine sp rfl (PE.pick rfl rfl rfl) rfl ?_
 refine sp rfl (PE.move rfl) rfl ?_
 refine sy_case (t := 120) rfl (fun g120 => ?_) (fun g120 => ?_)
 exact absurd g120 (by simp)
 refine spG rfl rfl rfl rfl (PE.move rfl) rfl ?_
 refine spG rfl rfl rfl rfl (PE.move rfl) rfl ?_
 refine spG rfl rfl rfl rfl (PE.neq rfl rfl) rfl ?_
 refine sp rfl (PE.pick rfl rfl rfl) rfl ?_
 refine sp rfl (PE.move rfl) rfl ?_
 refine sy_case (t := 125) rfl (fun g125 => ?_) (fun g125 => ?_)
 exact absurd g125 (by simp)
 refine spG rfl rfl rfl rfl (PE.move rfl) rfl ?_
 refine spG rfl rfl rfl rfl (PE.move rfl) rfl ?_
 refine spG rfl rfl rfl rfl (PE.neq rfl rfl) rfl ?_
 refine sp rfl (PE.pick rfl rfl rfl) rfl ?_
 refine sp rfl (PE.move rfl) rfl ?_
 refine sy_case (t := 130) rfl (fun g130 => ?_) (fun g130 => ?_)
 exact absurd g130 (by simp)
 refine spG rfl rfl rfl rfl (PE.move rfl) rfl ?_
 refine spG rfl rfl rfl rfl (PE.move rfl) rfl ?_
 refine clVG rfl rfl rfl rfl cal67 rfl rfl (c_Eq_int (canR g c) (canR g c) a8 a9 c8 c9 (by omega) (by omega) _ _) ?_
 refine spG rfl rfl rfl rfl (PE.not rfl) rfl ?_
 refine sp rfl (PE.pick rfl rfl rfl) rfl ?_
 refine sp rfl (PE.move rfl) rfl ?_
 refine sy_case (t := 136) rfl (fun g136 => ?_) (fun g136 => ?_)
 exact absurd g136 (by simp)
 refine spG rfl rfl rfl rfl (PE.move rfl) rfl ?_
 refine spG rfl rfl rfl rfl (PE.move rfl) rfl ?_
 refine spG rfl rfl rfl rfl (PE.neq rfl rfl) rfl ?_
 refine sp rfl (PE.pick rfl rfl rfl) rfl ?_
 refine sp rfl (PE.move rfl) rfl ?_
 refine sy_case (t := 141) rfl (fun g141 => ?_) (fun g141 => ?_)
 exact absurd g141 (by simp)
 refine spLG rfl rfl rfl rfl rfl (lhA [_, _] ag61 rfl rfl rfl) rfl ?_
 refine spLG rfl rfl rfl rfl rfl (lhA [_, _] ag61 rfl rfl rfl) rfl ?_
 refine spG rfl rfl rfl rfl (PE.neqAgg [(payP g c).1, (payP g c).2] [(payP g c).1, (payP g c).2] (eqB_ok 10000 61 true 2 eqf61) eqg61 rfl rfl rfl rfl) rfl ?_
 refine sp rfl (PE.pick rfl rfl rfl) rfl ?_
 refine sy_cond rfl (fun hc7 => ?_) (fun hc7 => ?_)
 exact absurd hc7 (by first | (simp; done) | (rw [decide_eq_false (by omega)]; simp))
 refine sy_skip ?_
 refine sy_seq ?_
 refine sy_seq ?_
 refine sy_tx' [0, 1] rfl ?_
 refine sp rfl (PE.move rfl) rfl ?_
 refine sp rfl (PE.neq rfl rfl) rfl ?_
 refine sy_cond rfl (fun hc8 => ?_) (fun hc8 => ?_)
 try simp only [decide_eq_true_eq, decide_eq_false_iff_not, Bool.and_eq_true, Bool.or_eq_true, Bool.not_eq_true', Int.not_le, Int.not_lt] at hc8
 rw [hsz (by omega)]
 refine sy_seq ?_
 refine sy_tx' [0, 1, 2, 3, 4, 5, 6] rfl ?_
 refine spL rfl rfl (lhA (ints ([0, 0, 0, 0])) ag31 rfl (rest := []) (by rw [List.append_nil]; rfl) (by rw [ints_length]; exact rfl)) rfl ?_
 refine sp rfl (PE.zero (.inr (by rw [ar31]; rfl)) zl31) rfl ?_
 refine sp rfl (PE.eqlAgg [0, 0, 0, 0] [0, 0, 0, 0] (eqB_ok 10000 31 true 4 eqf31) eqg31 rfl rfl rfl rfl) rfl ?_
 refine sp rfl (PE.move rfl) rfl ?_
 refine sy_case (t := 151) rfl (fun g151 => ?_) (fun g151 => ?_)
 refine clVG rfl rfl rfl rfl cal8 rfl rfl (c_awake _ _) ?_
 refine sp rfl (PE.pick rfl rfl rfl) rfl ?_
 refine sp rfl (PE.assign rfl) rfl ?_
 refine sy_ret ?_
 exact sy_return (vs := [_]) rfl (.cons (RV.tmp rfl) .nil) rfl ⟨rfl, rfl, rfl⟩ drp
 exact absurd g151 (by simp)
 try simp only [decide_eq_true_eq, decide_eq_false_iff_not, Bool.and_eq_true, Bool.or_eq_true, Bool.not_eq_true', Int.not_le, Int.not_lt] at hc8
 obtain ⟨hmx, hma, hmh, hme⟩ := hso (by omega)
 obtain ⟨hgo, hco⟩ := both_ok (told_0 (show_rng (g := g) (c := c) (gr := gr) (by omega)).1).1
 refine sy_skip ?_
 refine sy_seq ?_
 refine sy_tx' [0, 1, 2, 3, 4, 5, 6, 7, 8, 9, 10, 11, 12, 13, 14, 15, 16, 17, 18, 19, 20, 21, 22, 23, 24, 25, 26, 27, 28, 29] rfl ?_
 refine spL rfl rfl (lhA (ints ((showR g c gr).1)) ag31 rfl (rest := []) (by rw [List.append_nil]; rfl) (by rw [ints_length]; exact hmx.len)) rfl ?_
 refine cl rfl cal51 rfl rfl (c_rMixed (showR g c gr).1 hmx.len _ _) ?_
 rintro _ _ _ ⟨rfl, rfl, rfl⟩
 rw [hme]
 refine sp rfl (PE.eql rfl rfl) rfl ?_
 refine sp rfl (PE.move rfl) rfl ?_
 refine sy_case (t := 157) rfl (fun g157 => ?_) (fun g157 => ?_)
 refine spLG rfl rfl rfl rfl rfl (lhA [_, _, _] ag89 rfl rfl rfl) rfl ?_
 refine spLG rfl rfl rfl rfl rfl (lhA [_, _, _] ag79 rfl rfl rfl) rfl ?_
 refine spLG rfl rfl rfl rfl rfl (lhA (ints ((showR g c gr).1)) ag31 rfl (rest := []) (by rw [List.append_nil]; rfl) (by rw [ints_length]; exact hmx.len)) rfl ?_
 refine clG rfl rfl rfl rfl cal52 rfl rfl (c_rFits g hgo.miss (g.sl a3 c3) c hco a4 c4 (showR g c gr).1 hmx _ _) ?_
 rintro _ _ _ ⟨rfl, rfl, rfl⟩
 rw [hma]
 refine sp rfl (PE.pick rfl rfl rfl) rfl ?_
 refine sp rfl (PE.move rfl) rfl ?_
 refine sy_case (t := 163) rfl (fun g163 => ?_) (fun g163 => ?_)
 refine spLG rfl rfl rfl rfl rfl (lhA [_, _, _] ag89 rfl rfl rfl) rfl ?_
 refine spLG rfl rfl rfl rfl rfl (lhA (ints ((showR g c gr).1)) ag31 rfl (rest := []) (by rw [List.append_nil]; rfl) (by rw [ints_length]; exact hmx.len)) rfl ?_
 refine clG rfl rfl rfl rfl cal53 rfl rfl (c_rHas g a3 c3 (by omega) (by omega) (showR g c gr).1 hmx _ _) ?_
 rintro _ _ _ ⟨rfl, rfl, rfl⟩
 rw [hmh]
 refine spG rfl rfl rfl rfl (PE.move rfl) rfl ?_
 refine spG rfl rfl rfl rfl (PE.eql rfl rfl) rfl ?_
 refine sp rfl (PE.pick rfl rfl rfl) rfl ?_
 refine sp rfl (PE.move rfl) rfl ?_
 refine sy_case (t := 170) rfl (fun g170 => ?_) (fun g170 => ?_)
 refine spLG rfl rfl rfl rfl rfl (lhA [_, _, _] ag25 rfl rfl rfl) rfl ?_
 refine spLG rfl rfl rfl rfl rfl (lhA [_, _, _] ag25 rfl rfl rfl) rfl ?_
 refine clVG rfl rfl rfl rfl cal45 rfl rfl (c_same g a1 ag c1.1 cg (by omega) _ _) ?_
 refine sp rfl (PE.pick rfl rfl rfl) rfl ?_
 refine sp rfl (PE.move rfl) rfl ?_
 refine sy_case (t := 175) rfl (fun g175 => ?_) (fun g175 => ?_)
 refine spLG rfl rfl rfl rfl rfl (lhA [_, _, _] ag28 rfl rfl rfl) rfl ?_
 refine spLG rfl rfl rfl rfl rfl (lhA [_, _, _] ag28 rfl rfl rfl) rfl ?_
 refine clVG rfl rfl rfl rfl cal46 rfl rfl (c_alike c a2 ah c2 ch (by omega) _ _) ?_
 refine sp rfl (PE.pick rfl rfl rfl) rfl ?_
 refine sp rfl (PE.move rfl) rfl ?_
 refine sy_case (t := 180) rfl (fun g180 => ?_) (fun g180 => ?_)
 refine clVG rfl rfl rfl rfl cal8 rfl rfl (c_awake _ _) ?_
 refine sp rfl (PE.pick rfl rfl rfl) rfl ?_
 refine sp rfl (PE.assign rfl) rfl ?_
 refine sy_ret ?_
 exact sy_return (vs := [_]) rfl (.cons (RV.tmp rfl) .nil) rfl ⟨rfl, rfl, rfl⟩ drp
 exact absurd g180 (by simp)
 exact absurd g175 (by simp)
 exact absurd g170 (by simp)
 exact absurd g163 (by simp)
 exact absurd g157 (by simp)
end Go.Proofs.YtndhkpnaeocnhaaGreat
