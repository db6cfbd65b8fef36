/- Walks of the functions of the program, and the laws that join them: what the last theorem of this claim needs, in order. -/
import Derived.Test.YtknoaljnelfklaaCv4
namespace Go.Proofs.Ytknoaljnelfklaa
set_option linter.unusedSimpArgs false
set_option linter.unusedVariables false
open Go
theorem are94 : arE Try.prog 94 = some (4, 41) := by kernel_rfl
theorem cal34 : cal Try.prog 34 = true := by kernel_rfl
theorem cal51 : cal Try.prog 51 = true := by kernel_rfl
theorem cal59 : cal Try.prog 59 = true := by kernel_rfl
theorem cal60 : cal Try.prog 60 = true := by kernel_rfl
theorem cal61 : cal Try.prog 61 = true := by kernel_rfl
theorem cal62 : cal Try.prog 62 = true := by kernel_rfl
theorem mixP_of {g : Gat} {c : Crt} {m : Mix} {b : Box} (h : BndP g c m b) : mixP g c = mixt b := by
  have e := h.bnd
  unfold bndB at e
  unfold mixP
  rw [decide_eq_false (show ¬ toldE g c false ≠ 0 by rw [h.told]; decide)] at e ⊢
  exact congrArg mixt e
theorem fit_can {g : Gat} {c : Crt} {m q : Mix} {b : Box} (h : BndP g c m b) (hq : Mxt q) (hf : (c.hs.all fun x => fitB g.miss x q) = true) : Mx b q ∧ hasG g.grs q ∈ canG g.grs b := by
  have h1 := (h.mx q).2 ⟨hq, List.all_eq_true.1 hf⟩
  exact ⟨h1, (can_iff h.tight.ok).2 ⟨q, h1, rfl⟩⟩
theorem mxt_of {b : Box} (h : Tight b) : Mxt (mixt b) := by
  have h1 := mixt_mx h
  exact ⟨h1.len, h1.sum, fun k hk => by have h2 := h1.at_ k hk; have h3 := h.ok.at_ k hk; omega⟩
theorem some_iff {g : Gat} {c : Crt} {m : Mix} {b : Box} (h : BndP g c m b) {k : Nat} (hk : k < 4) (p : Int) : (∃ q, Mxt q ∧ nn q k = p ∧ (c.hs.all fun x => fitB g.miss x q) = true) ↔ (bl b k ≤ p ∧ p ≤ bh b k) := by
  constructor
  · rintro ⟨q, h1, rfl, h3⟩
    exact ((h.mx q).2 ⟨h1, List.all_eq_true.1 h3⟩).at_ k hk
  · intro h1
    obtain ⟨q, h2, h3⟩ := h.tight.had hk h1
    obtain ⟨h4, h5⟩ := (h.mx q).1 h2
    exact ⟨q, h4, h3, List.all_eq_true.2 h5⟩
theorem show_md {ng nh : Int} {g : Gat} {c : Crt} {m : Mix} {b : Box} (hm : MdOk ng nh g c m) (h : BndP g c m b) {gr : Int} (hg : -1 ≤ gr ∧ gr < g.grs.length) : (∃ q, Mxt q ∧ showR g c gr = (q, 0) ∧ (c.hs.all fun x => fitB g.miss x q) = true ∧ hasG g.grs q = gr ∧ gr ∈ canG g.grs b) ∨ (showR g c gr = ([0, 0, 0, 0], 6) ∧ gr ∉ canG g.grs b) := by
  have hin : (!(inb gr (-1) (g.grs.length - 1))) = false := by simp [inb]; omega
  have hj : gr = -1 ∨ ∃ i x, g.grs[i]? = some x ∧ gr = (i : Nat) := by
    by_cases h9 : gr = -1
    · exact .inl h9
    · exact .inr ⟨gr.toNat, _, List.getElem?_eq_getElem (by omega), by omega⟩
  have e : showR g c gr = match shwB g.grs b gr with
    | some x => (mixt x, 0)
    | none => ([0, 0, 0, 0], 6) := by
    unfold showR
    rw [hin, decide_eq_false (show ¬ toldE g c false ≠ 0 by rw [h.told]; decide), h.bnd]; rfl
  obtain ⟨h1, h2⟩ := shw_ok h.tight.ok hj
  cases hs : shwB g.grs b gr with
  | none =>
    rw [hs] at e
    refine .inr ⟨e, fun h3 => ?_⟩
    obtain ⟨q, h4, h5⟩ := (can_iff h.tight.ok).1 h3
    exact h2 hs q h4 h5
  | some x =>
    rw [hs] at e
    obtain ⟨h3, h4, h5⟩ := h1 x hs
    obtain ⟨h6, h7⟩ := (h.mx _).1 h3
    exact .inl ⟨mixt x, h6, e, List.all_eq_true.2 h7, h4, (can_iff h.tight.ok).2 ⟨_, h3, h4⟩⟩
theorem c_GateTold (l0 : List Int) (a0 : Option Addr) (c0 : Nat) (hl0 : l0.length ≤ 9223372036854775807) (l1 : List Int) (a1 : Option Addr) (c1 : Nat) (hl1 : l1.length ≤ 9223372036854775807) (kd : Int) (hkd0 : 0 ≤ kd ∧ kd ≤ 255) (H : Heap) (R : Facts) [hG : MemRows a0 1 (urows l0) R] [hG2 : MemRows a1 1 (urows l1) R] :
    Fn Try.prog 10 [.slice a0 l0.length c0, .slice a1 l1.length c1, .int .u8 kd] H R (fun v H' R' => v = .bool true ∧ H' = H ∧ R' = R) := by
 refine fn_of Try.func10 rfl Try.ntmps10 rfl ?_
 refine sy_seq ?_
 refine sy_tx' [0] rfl ?_
 refine sp rfl (PE.assign rfl) rfl ?_
 refine sy_seq ?_
 refine sy_tx' [0, 1, 2, 3, 4, 5, 6, 7, 8, 9, 10, 11, 12] rfl ?_
 refine sp rfl (PE.move rfl) rfl ?_
 refine cl rfl cal14 rfl rfl (c_Fill l0 a0 c0 hl0 _ _) ?_
 rintro _ _ R1 ⟨bk, mk, hmk, rfl, rfl, hR1⟩
 obtain rfl := hR1.symm
 clear hR1
 refine cl rfl cal13 rfl rfl (c_Made l0 a0 c0 bk hl0 0 mk (by omega) hmk 4 5 (by omega) (by omega) _ _) ?_
 rintro _ _ R1 ⟨g, c, m, ag, cg, ah, ch, tq1, mx1, hmd, hcg, rfl, _, _, rfl, hR1⟩
 obtain rfl := hR1.symm
 clear hR1
 refine Sy.heap (fun w h => h.del bk) ?_
 have hgm := hmd.gok.many
 have hcm := hmd.cok.many
 obtain ⟨b, hb⟩ := md_bnd hmd
 have hbl := hb.tight.ok.len
 have hmt := mxt_of hb.tight
 have hrm := hb.mx m
 refine sp rfl (PE.move rfl) rfl ?_
 refine sp rfl (PE.extract rfl rfl) rfl ?_
 refine sp rfl (PE.extract rfl rfl) rfl ?_
 refine sp rfl (PE.extract rfl rfl) rfl ?_
 refine alc rfl zl25 rfl (fun b7 => ?_)
 refine alc rfl zl28 rfl (fun b8 => ?_)
 refine alc rfl zl29 rfl (fun b9 => ?_)
 refine sto rfl rfl rfl cn25 rfl rfl rfl rfl ?_
 refine sto rfl rfl rfl cn28 rfl rfl rfl rfl ?_
 refine stoA rfl rfl rfl cn29 rfl (by rw [ints_length]; exact hmd.mix.len) rfl (ints_one _) ?_
 refine sy_seq ?_
 refine sy_tx' [0, 1, 2] rfl ?_
 refine sp rfl (PE.move rfl) rfl ?_
 refine cl rfl cal14 rfl rfl (c_Fill l1 a1 c1 hl1 _ _) ?_
 rintro _ _ R1 ⟨bj, mj, hmj, rfl, rfl, hR1⟩
 obtain rfl := hR1.symm
 clear hR1
 refine sp rfl (PE.assign rfl) rfl ?_
 refine sy_seq ?_
 refine sy_tx' [0, 1, 2, 3, 4, 5, 6, 7, 8] rfl ?_
 refine spL rfl rfl (lhA [_, _, _] ag25 rfl rfl rfl) rfl ?_
 refine spL rfl rfl (lhA [_, _, _] ag28 rfl rfl rfl) rfl ?_
 refine cl rfl cal50 rfl rfl (c_Bounds g ag cg (by omega) c ah ch (by omega) _ _) ?_
 rintro _ _ _ ⟨rfl, rfl, rfl⟩
 rw [hb.bnd, hb.told]
 refine sp rfl (PE.move rfl) rfl ?_
 refine sp rfl (PE.extract rfl rfl) rfl ?_
 refine sp rfl (PE.extract rfl rfl) rfl ?_
 refine alc rfl zl94 rfl (fun b11 => ?_)
 refine stoA rfl rfl rfl cn94 rfl (by rw [ints_length]; exact hbl) rfl (ints_one _) ?_
 refine sp rfl (PE.assign rfl) rfl ?_
 refine sy_seq ?_
 refine sy_tx' [0, 1, 2, 3, 4, 5, 6, 7, 8] rfl ?_
 refine spL rfl rfl (lhA [_, _, _] ag25 rfl rfl rfl) rfl ?_
 refine spL rfl rfl (lhA [_, _, _] ag28 rfl rfl rfl) rfl ?_
 refine cl rfl cal51 rfl rfl (c_Mixture g ag cg (by omega) c ah ch (by omega) _ _) ?_
 rintro _ _ _ ⟨rfl, rfl, rfl⟩
 rw [mixP_of hb, hb.told]
 refine sp rfl (PE.move rfl) rfl ?_
 refine sp rfl (PE.extract rfl rfl) rfl ?_
 refine sp rfl (PE.extract rfl rfl) rfl ?_
 refine alc rfl zl29 rfl (fun b13 => ?_)
 refine stoA rfl rfl rfl cn29 rfl (by rw [ints_length]; exact hmt.len) rfl (ints_one _) ?_
 refine sp rfl (PE.assign rfl) rfl ?_
 refine sy_seq ?_
 refine sy_tx' [0, 1, 2, 3, 4, 5, 6, 7] rfl ?_
 refine spL rfl rfl (lhA [_, _, _] ag25 rfl rfl rfl) rfl ?_
 refine spL rfl rfl (lhA [_, _, _] ag28 rfl rfl rfl) rfl ?_
 refine cl rfl cal15 rfl rfl (c_Can g ag cg (by omega) hcg c ah ch (by omega) _ _) ?_
 rintro _ _ R1 ⟨o, rfl, rfl, hR1⟩
 obtain rfl := hR1.symm
 clear hR1
 obtain ⟨al, cl1, he, hf⟩ := o.freeze
 rw [he]
 refine Sy.heap (fun w h => hf h) ?_
 rw [show (irows (canR g c)).length = (canR g c).length from List.length_map _, hb.can, hb.told]
 clear he hf o
 have hcl := can_len g.grs b
 have hin := fun q hq hf => fit_can (q := q) hb hq hf
 obtain ⟨l, hl⟩ : ∃ l, l = canG g.grs b := ⟨_, rfl⟩
 rw [← hl]
 rw [← hl] at hcl
 refine sp rfl (PE.move rfl) rfl ?_
 refine sp rfl (PE.extract rfl rfl) rfl ?_
 refine sp rfl (PE.extract rfl rfl) rfl ?_
 refine sp rfl (PE.assign rfl) rfl ?_
 refine sp rfl (PE.assign rfl) rfl ?_
 refine sy_seq ?_
 refine sy_seq ?_
 refine sy_tx' [0, 1, 2, 3, 4, 5, 6, 7, 8, 9, 10, 11, 12, 13, 14, 15, 16, 17, 18, 19, 20, 21, 22, 23, 24, 25, 26, 27, 28, 29, 30, 31, 32, 33, 34, 35, 36, 37, 38, 39, 40, 41, 42, 43, 44, 45, 46, 47, 48] rfl ?_
 refine spL rfl rfl (lhA [_, _, _] ag25 rfl rfl rfl) rfl ?_
 refine cl rfl cal43 rfl rfl (c_Check g ag cg (by omega) _ _) ?_
 rintro _ _ _ ⟨rfl, rfl, rfl⟩
 rw [gat_ok.2 hmd.gok]
 refine sp rfl (PE.neq rfl rfl) rfl ?_
 refine sp rfl (PE.move rfl) rfl ?_
 refine sy_case (t := 60) rfl (fun g60 => ?_) (fun g60 => ?_)
 exact absurd g60 (by first | (simp; done) | (rw [decide_eq_false (by omega)]; simp))
 refine spLG rfl rfl rfl rfl rfl (lhA [_, _, _] ag28 rfl rfl rfl) rfl ?_
 refine clG rfl rfl rfl rfl cal45 rfl rfl (c_CheckCart c ah ch (by omega) _ _) ?_
 rintro _ _ _ ⟨rfl, rfl, rfl⟩
 rw [crt_ok.2 hmd.cok]
 refine spG rfl rfl rfl rfl (PE.neq rfl rfl) rfl ?_
 refine sp rfl (PE.pick rfl rfl rfl) rfl ?_
 refine sp rfl (PE.move rfl) rfl ?_
 refine sy_case (t := 65) rfl (fun g65 => ?_) (fun g65 => ?_)
 exact absurd g65 (by first | (simp; done) | (rw [decide_eq_false (by omega)]; simp))
 refine spG rfl rfl rfl rfl (PE.move rfl) rfl ?_
 refine spG rfl rfl rfl rfl (PE.neq rfl rfl) rfl ?_
 refine sp rfl (PE.pick rfl rfl rfl) rfl ?_
 refine sp rfl (PE.move rfl) rfl ?_
 refine sy_case (t := 69) rfl (fun g69 => ?_) (fun g69 => ?_)
 exact absurd g69 (by first | (simp; done) | (rw [decide_eq_false (by omega)]; simp))
 refine spG rfl rfl rfl rfl (PE.move rfl) rfl ?_
 refine spG rfl rfl rfl rfl (PE.neq rfl rfl) rfl ?_
 refine sp rfl (PE.pick rfl rfl rfl) rfl ?_
 refine sp rfl (PE.move rfl) rfl ?_
 refine sy_case (t := 73) rfl (fun g73 => ?_) (fun g73 => ?_)
 exact absurd g73 (by first | (simp; done) | (rw [decide_eq_false (by omega)]; simp))
 refine spG rfl rfl rfl rfl (PE.move rfl) rfl ?_
 refine spG rfl rfl rfl rfl (PE.neq rfl rfl) rfl ?_
 refine sp rfl (PE.pick rfl rfl rfl) rfl ?_
 refine sp rfl (PE.move rfl) rfl ?_
 refine sy_case (t := 77) rfl (fun g77 => ?_) (fun g77 => ?_)
 exact absurd g77 (by first | (simp; done) | (rw [decide_eq_false (by omega)]; simp))
 refine spLG rfl rfl rfl rfl rfl (lhA [_, _, _] ag25 rfl rfl rfl) rfl ?_
 refine spG rfl rfl rfl rfl (PE.fieldAddr fo28_2 rfl) rfl ?_
 refine spLG rfl rfl rfl rfl rfl (lh sc26 rfl rfl) rfl ?_
 refine spLG rfl rfl rfl rfl rfl (lhA (ints (m)) ag29 rfl (rest := []) (by rw [List.append_nil]; rfl) (by rw [ints_length]; exact hmd.mix.len)) rfl ?_
 refine clG rfl rfl rfl rfl cal20 rfl rfl (c_fits g hmd.gok.miss (g.sl ag cg) m hmd.mix c.hs hmd.cok.hs (by omega) ah ch _ _) ?_
 rintro _ _ _ ⟨rfl, rfl, rfl⟩
 rw [show (c.hs.all fun h => fitB g.miss h m) = true from List.all_eq_true.2 hmd.fit]
 refine spG rfl rfl rfl rfl (PE.not rfl) rfl ?_
 refine sp rfl (PE.pick rfl rfl rfl) rfl ?_
 refine sp rfl (PE.move rfl) rfl ?_
 refine sy_case (t := 85) rfl (fun g85 => ?_) (fun g85 => ?_)
 exact absurd g85 (by first | (simp; done) | (rw [decide_eq_false (by omega)]; simp))
 refine spLG rfl rfl rfl rfl rfl (lhA (ints (mixt b)) ag29 rfl (rest := []) (by rw [List.append_nil]; rfl) (by rw [ints_length]; exact hmt.len)) rfl ?_
 refine clVG rfl rfl rfl rfl cal61 rfl rfl (c_right (mixt b) hmt _ _) ?_
 refine spG rfl rfl rfl rfl (PE.not rfl) rfl ?_
 refine sp rfl (PE.pick rfl rfl rfl) rfl ?_
 refine sp rfl (PE.move rfl) rfl ?_
 refine sy_case (t := 90) rfl (fun g90 => ?_) (fun g90 => ?_)
 exact absurd g90 (by first | (simp; done) | (rw [decide_eq_false (by omega)]; simp))
 refine spLG rfl rfl rfl rfl rfl (lhA [_, _, _] ag25 rfl rfl rfl) rfl ?_
 refine spG rfl rfl rfl rfl (PE.fieldAddr fo28_2 rfl) rfl ?_
 refine spLG rfl rfl rfl rfl rfl (lh sc26 rfl rfl) rfl ?_
 refine spLG rfl rfl rfl rfl rfl (lhA (ints (mixt b)) ag29 rfl (rest := []) (by rw [List.append_nil]; rfl) (by rw [ints_length]; exact hmt.len)) rfl ?_
 refine clG rfl rfl rfl rfl cal20 rfl rfl (c_fits g hmd.gok.miss (g.sl ag cg) (mixt b) hmt c.hs hmd.cok.hs (by omega) ah ch _ _) ?_
 rintro _ _ _ ⟨rfl, rfl, rfl⟩
 have hmf : (c.hs.all fun h => fitB g.miss h (mixt b)) = true := List.all_eq_true.2 ((hb.mx _).1 (mixt_mx hb.tight)).2
 rw [hmf]
 refine spG rfl rfl rfl rfl (PE.not rfl) rfl ?_
 refine sp rfl (PE.pick rfl rfl rfl) rfl ?_
 refine sp rfl (PE.move rfl) rfl ?_
 refine sy_case (t := 98) rfl (fun g98 => ?_) (fun g98 => ?_)
 exact absurd g98 (by first | (simp; done) | (rw [decide_eq_false (by omega)]; simp))
 refine spG rfl rfl rfl rfl (PE.move rfl) rfl ?_
 refine spLG rfl rfl rfl rfl rfl (lhA [_, _, _] ag25 rfl rfl rfl) rfl ?_
 refine spLG rfl rfl rfl rfl rfl (lhA (ints (mixt b)) ag29 rfl (rest := []) (by rw [List.append_nil]; rfl) (by rw [ints_length]; exact hmt.len)) rfl ?_
 refine clVG rfl rfl rfl rfl cal21 rfl rfl (c_hasL g ag cg (by omega) (mixt b) hmt _ _) ?_
 refine clG rfl rfl rfl rfl cal33 rfl rfl (c_contains_int l al cl1 (hasG g.grs (mixt b)) (by omega) _ _) ?_
 rintro _ _ _ ⟨rfl, rfl, rfl⟩
 rw [show (l.any fun x => decide (hasG g.grs (mixt b) = x)) = true from by rw [List.any_eq_true]; exact ⟨_, by rw [hl]; exact (hin _ hmt hmf).2, by simp⟩]
 refine spG rfl rfl rfl rfl (PE.not rfl) rfl ?_
 refine sp rfl (PE.pick rfl rfl rfl) rfl ?_
 refine sy_cond rfl (fun hc0 => ?_) (fun hc0 => ?_)
 exact absurd hc0 (by first | (simp; done) | (rw [decide_eq_false (by omega)]; simp))
 refine sy_skip ?_
 refine sy_seq ?_
 refine sy_seq ?_
 refine sy_tx' [0] rfl ?_
 refine sp rfl (PE.move rfl) rfl ?_
 refine sy_block ?_
 refine sy_pull bj ?_
 refine sy_loop (ι := {x : Nat × Int × Int // x.1 ≤ 12 ∧ (0 ≤ x.2.1 ∧ x.2.1 ≤ 10 * x.1) ∧ (0 ≤ x.2.2 ∧ x.2.2 ≤ 4294967295)}) (fun x => ⟨[(2, .int .u8 kd), (7, .pointer (some ⟨b7, 0, none⟩)), (8, .pointer (some ⟨b8, 0, none⟩)), (9, .pointer (some ⟨b9, 0, none⟩)), (10, .pointer (some ⟨bj, 0, none⟩)), (11, .pointer (some ⟨b11, 0, none⟩)), (15, .slice al l.length cl1), (106, .int .i64 x.1.1)], (bj, cel 125 [.slice a1 l1.length c1, .int .i64 (x.1.2.1), .int .u32 (x.1.2.2)]) :: (b13, cel 29 (ints (mixt b))) :: (b11, cel 94 (ints b)) :: (b9, cel 29 (ints m)) :: (b8, cel 28 (ctl c (c.sl ah ch))) :: (b7, cel 25 (gtl g (g.sl ag cg))) :: H, RowsA al 1 (irows l) :: RowsA ah 5 (hrows c.hs) :: RowsA ag 5 (grows g.grs) :: R⟩) (fun x => 12 - x.1.1) ⟨(0, 0, mj), by omega, by dsimp only; omega, by assumption⟩ ?_ (fun x => ?_)
 exact sy_at (by repeat' first | exact Sub.nil | apply Sub.cons | rfl | (simp [lk]; omega)) (fun _ h => h)
 obtain ⟨⟨i, tq2, mx2⟩, hi, htq2, hmx2⟩ := x
 dsimp only at hi htq2 hmx2 ⊢
 refine sy_seq ?_
 refine sy_tx' [0] rfl ?_
 refine sp rfl (PE.lss rfl rfl) rfl ?_
 refine sy_seq ?_
 refine sy_cond rfl (fun hc1 => ?_) (fun hc1 => ?_)
 try simp only [decide_eq_true_eq, decide_eq_false_iff_not, Bool.and_eq_true, Bool.or_eq_true, Bool.not_eq_true', Int.not_le, Int.not_lt] at hc1
 refine sy_skip ?_
 refine sy_seq ?_
 refine sy_block ?_
 refine sy_seq ?_
 refine sy_tx' [0, 1] rfl ?_
 refine sp rfl (PE.move rfl) rfl ?_
 refine sp rfl (PE.assign rfl) rfl ?_
 refine sy_seq ?_
 refine sy_tx' [0, 1, 2, 3, 4] rfl ?_
 refine sp rfl (PE.move rfl) rfl ?_
 refine spL rfl rfl (lhA (ints (m)) ag29 rfl (rest := []) (by rw [List.append_nil]; rfl) (by rw [ints_length]; exact hmd.mix.len)) rfl ?_
 refine cl rfl cal19 rfl rfl (c_near l1 a1 c1 bj hl1 _ _ (by omega) (by assumption) m hmd.mix _ _) ?_
 rintro _ _ R1 ⟨q, tq3, mx3, hq, rfl, htq3, hmx3, rfl, hR1⟩
 obtain rfl := hR1.symm
 clear hR1
 refine alc rfl zl29 rfl (fun b18 => ?_)
 refine stoA rfl rfl rfl cn29 rfl (by rw [ints_length]; exact hq.len) rfl (ints_one _) ?_
 refine sy_seq ?_
 refine sy_seq ?_
 refine sy_tx' [0, 1] rfl ?_
 refine sp rfl (PE.move rfl) rfl ?_
 refine sp rfl (PE.eql rfl rfl) rfl ?_
 refine sy_join (ι := {q : Mix // Mxt q}) (fun q => ⟨[(2, .int .u8 kd), (7, .pointer (some ⟨b7, 0, none⟩)), (8, .pointer (some ⟨b8, 0, none⟩)), (9, .pointer (some ⟨b9, 0, none⟩)), (10, .pointer (some ⟨bj, 0, none⟩)), (11, .pointer (some ⟨b11, 0, none⟩)), (15, .slice al l.length cl1), (18, .pointer (some ⟨b18, 0, none⟩)), (106, .int .i64 i)], (b18, cel 29 (ints q.1)) :: (bj, cel 125 [.slice a1 l1.length c1, .int .i64 (tq3), .int .u32 (mx3)]) :: (b13, cel 29 (ints (mixt b))) :: (b11, cel 94 (ints b)) :: (b9, cel 29 (ints m)) :: (b8, cel 28 (ctl c (c.sl ah ch))) :: (b7, cel 25 (gtl g (g.sl ag cg))) :: H, RowsA al 1 (irows l) :: RowsA ah 5 (hrows c.hs) :: RowsA ag 5 (grows g.grs) :: R⟩) ?_ ?_
 refine sy_cond rfl (fun hc2 => ?_) (fun hc2 => ?_)
 refine sy_tx' [0, 1] rfl ?_
 refine spL rfl rfl (lhA (ints (m)) ag29 rfl (rest := []) (by rw [List.append_nil]; rfl) (by rw [ints_length]; exact hmd.mix.len)) rfl ?_
 refine stoA rfl rfl rfl cn29 rfl (by rw [ints_length]; exact hmd.mix.len) (by rw [ints_length]; exact hq.len) (ints_one _) ?_
 exact sy_jend ⟨m, hmd.mix⟩ (by repeat' first | exact Sub.nil | apply Sub.cons | rfl | (simp [lk]; omega)) (fun _ h => h)
 refine sy_skip ?_
 exact sy_jend ⟨q, hq⟩ (by repeat' first | exact Sub.nil | apply Sub.cons | rfl | (simp [lk]; omega)) (fun _ h => h)
 rintro ⟨q, hq⟩
 dsimp only
 have hqe := (mix_ok hq.len).2 hq
 refine sy_seq ?_
 refine sy_tx' [0, 1, 2, 3, 4, 5, 6, 7, 8] rfl ?_
 refine spL rfl rfl (lhA [_, _, _] ag25 rfl rfl rfl) rfl ?_
 refine spL rfl rfl (lhA [_, _, _] ag28 rfl rfl rfl) rfl ?_
 refine spL rfl rfl (lhA (ints (q)) ag29 rfl (rest := []) (by rw [List.append_nil]; rfl) (by rw [ints_length]; exact hq.len)) rfl ?_
 refine cl rfl cal59 rfl rfl (c_Fits g ag cg (by omega) c ah ch (by omega) q hq.len _ _) ?_
 rintro _ _ _ ⟨rfl, rfl, rfl⟩
 rw [decide_eq_false (show ¬ bothE g c ≠ 0 by rw [(md_told hmd).1]; decide), decide_eq_false (show ¬ mixE q ≠ 0 by omega), hqe]
 dsimp only [cond_false]
 refine sp rfl (PE.move rfl) rfl ?_
 refine sp rfl (PE.extract rfl rfl) rfl ?_
 refine sp rfl (PE.extract rfl rfl) rfl ?_
 refine sp rfl (PE.assign rfl) rfl ?_
 refine sp rfl (PE.assign rfl) rfl ?_
 refine sy_seq ?_
 refine sy_tx' [0, 1, 2, 3, 4, 5, 6, 7] rfl ?_
 refine spL rfl rfl (lhA [_, _, _] ag25 rfl rfl rfl) rfl ?_
 refine spL rfl rfl (lhA (ints (q)) ag29 rfl (rest := []) (by rw [List.append_nil]; rfl) (by rw [ints_length]; exact hq.len)) rfl ?_
 refine cl rfl cal60 rfl rfl (c_Has g ag cg (by omega) q hq.len _ _) ?_
 rintro _ _ _ ⟨rfl, rfl, rfl⟩
 rw [decide_eq_false (show ¬ g.check ≠ 0 by rw [gat_ok.2 hmd.gok]; decide), decide_eq_false (show ¬ mixE q ≠ 0 by omega), hqe]
 dsimp only [cond_false]
 refine sp rfl (PE.move rfl) rfl ?_
 refine sp rfl (PE.extract rfl rfl) rfl ?_
 refine sp rfl (PE.extract rfl rfl) rfl ?_
 refine sp rfl (PE.assign rfl) rfl ?_
 refine sp rfl (PE.assign rfl) rfl ?_
 refine sy_seq ?_
 refine sy_seq ?_
 refine sy_cut (ι := Unit) (fun _ => ⟨[(2, .int .u8 kd), (7, .pointer (some ⟨b7, 0, none⟩)), (8, .pointer (some ⟨b8, 0, none⟩)), (9, .pointer (some ⟨b9, 0, none⟩)), (10, .pointer (some ⟨bj, 0, none⟩)), (11, .pointer (some ⟨b11, 0, none⟩)), (15, .slice al l.length cl1), (18, .pointer (some ⟨b18, 0, none⟩)), (19, .bool (c.hs.all fun h => fitB g.miss h q)), (106, .int .i64 i), (158, .bool false)], (b18, cel 29 (ints q)) :: (bj, cel 125 [.slice a1 l1.length c1, .int .i64 (tq3), .int .u32 (mx3)]) :: (b13, cel 29 (ints (mixt b))) :: (b11, cel 94 (ints b)) :: (b9, cel 29 (ints m)) :: (b8, cel 28 (ctl c (c.sl ah ch))) :: (b7, cel 25 (gtl g (g.sl ag cg))) :: H, RowsA al 1 (irows l) :: RowsA ah 5 (hrows c.hs) :: RowsA ag 5 (grows g.grs) :: R⟩) ?_ ?_
 refine sy_tx' [0, 1, 2, 3, 4, 5, 6, 7, 8, 9, 10, 11, 12, 13, 14, 15, 16, 17, 18, 19, 20, 21, 22, 23, 24, 25, 26, 27, 28, 29, 30] rfl ?_
 refine sp rfl (PE.move rfl) rfl ?_
 refine sp rfl (PE.neq rfl rfl) rfl ?_
 refine sp rfl (PE.move rfl) rfl ?_
 refine sy_case (t := 130) rfl (fun g130 => ?_) (fun g130 => ?_)
 exact absurd g130 (by first | (simp; done) | (rw [decide_eq_false (by omega)]; simp))
 refine spG rfl rfl rfl rfl (PE.move rfl) rfl ?_
 refine spG rfl rfl rfl rfl (PE.neq rfl rfl) rfl ?_
 refine sp rfl (PE.pick rfl rfl rfl) rfl ?_
 refine sp rfl (PE.move rfl) rfl ?_
 refine sy_case (t := 134) rfl (fun g134 => ?_) (fun g134 => ?_)
 exact absurd g134 (by first | (simp; done) | (rw [decide_eq_false (by omega)]; simp))
 refine spG rfl rfl rfl rfl (PE.move rfl) rfl ?_
 refine spLG rfl rfl rfl rfl rfl (lhA [_, _, _] ag25 rfl rfl rfl) rfl ?_
 refine spG rfl rfl rfl rfl (PE.fieldAddr fo28_2 rfl) rfl ?_
 refine spLG rfl rfl rfl rfl rfl (lh sc26 rfl rfl) rfl ?_
 refine spLG rfl rfl rfl rfl rfl (lhA (ints (q)) ag29 rfl (rest := []) (by rw [List.append_nil]; rfl) (by rw [ints_length]; exact hq.len)) rfl ?_
 refine clVG rfl rfl rfl rfl cal20 rfl rfl (c_fits g hmd.gok.miss (g.sl ag cg) q hq c.hs hmd.cok.hs (by omega) ah ch _ _) ?_
 refine spG rfl rfl rfl rfl (PE.neqBool ub4 rfl rfl) rfl ?_
 refine sp rfl (PE.pick rfl rfl rfl) rfl ?_
 refine sp rfl (PE.move rfl) rfl ?_
 refine sy_case (t := 143) rfl (fun g143 => ?_) (fun g143 => ?_)
 exact absurd g143 (by simp)
 refine spG rfl rfl rfl rfl (PE.move rfl) rfl ?_
 refine spLG rfl rfl rfl rfl rfl (lhA [_, _, _] ag25 rfl rfl rfl) rfl ?_
 refine spLG rfl rfl rfl rfl rfl (lhA (ints (q)) ag29 rfl (rest := []) (by rw [List.append_nil]; rfl) (by rw [ints_length]; exact hq.len)) rfl ?_
 refine clVG rfl rfl rfl rfl cal21 rfl rfl (c_hasL g ag cg (by omega) q hq _ _) ?_
 refine spG rfl rfl rfl rfl (PE.neq rfl rfl) rfl ?_
 refine sp rfl (PE.pick rfl rfl rfl) rfl ?_
 refine sp rfl (PE.move rfl) rfl ?_
 refine sy_case (t := 150) rfl (fun g150 => ?_) (fun g150 => ?_)
 exact absurd g150 (by first | (simp; done) | (rw [decide_eq_false (by omega)]; simp))
 refine spG rfl rfl rfl rfl (PE.move rfl) rfl ?_
 refine spG rfl rfl rfl rfl (PE.move rfl) rfl ?_
 refine sy_case (t := 152) rfl (fun g152 => ?_) (fun g152 => ?_)
 refine spG rfl rfl rfl rfl (PE.move rfl) rfl ?_
 refine spG rfl rfl rfl rfl (PE.move rfl) rfl ?_
 refine clG rfl rfl rfl rfl cal33 rfl rfl (c_contains_int l al cl1 (hasG g.grs q) (by omega) _ _) ?_
 rintro _ _ _ ⟨rfl, rfl, rfl⟩
 rw [show (l.any fun x => decide (hasG g.grs q = x)) = true from by rw [List.any_eq_true]; exact ⟨_, by rw [hl]; exact (hin _ hq g152).2, by simp⟩]
 refine spG rfl rfl rfl rfl (PE.not rfl) rfl ?_
 refine spG rfl rfl rfl rfl (PE.pick rfl rfl rfl) rfl ?_
 refine sp rfl (PE.pick rfl rfl rfl) rfl ?_
 exact sy_cutEnd () (by repeat' first | exact Sub.nil | apply Sub.cons | rfl | (simp [lk]; omega)) (fun _ h => h)
 repeat refine spN rfl rfl rfl rfl rfl rfl rfl rfl ?_
 refine spG rfl rfl rfl rfl (PE.pick rfl rfl rfl) rfl ?_
 refine sp rfl (PE.pick rfl rfl rfl) rfl ?_
 exact sy_cutEnd () (by repeat' first | exact Sub.nil | apply Sub.cons | rfl | (simp [lk]; omega)) (fun _ h => h)
 rintro ⟨⟩
 dsimp only
 refine sy_cond rfl (fun hc3 => ?_) (fun hc3 => ?_)
 exact absurd hc3 (by first | (simp; done) | (rw [decide_eq_false (by omega)]; simp))
 refine sy_skip ?_
 refine sy_seq ?_
 refine sy_tx' [0, 1] rfl ?_
 refine spL rfl rfl (lhA (ints b) ag94 rfl (rest := []) (by rw [List.append_nil]; rfl) (by rw [ints_length]; exact hbl)) rfl ?_
 refine sp rfl (PE.move rfl) rfl ?_
 refine sy_block ?_
 refine sy_loop (ι := {k : Nat // k ≤ 4}) (fun k => ⟨[(2, .int .u8 kd), (7, .pointer (some ⟨b7, 0, none⟩)), (8, .pointer (some ⟨b8, 0, none⟩)), (9, .pointer (some ⟨b9, 0, none⟩)), (10, .pointer (some ⟨bj, 0, none⟩)), (11, .pointer (some ⟨b11, 0, none⟩)), (15, .slice al l.length cl1), (18, .pointer (some ⟨b18, 0, none⟩)), (19, .bool (c.hs.all fun h => fitB g.miss h q)), (106, .int .i64 i), (159, bxv b), (160, .int .i64 k.1)], (b18, cel 29 (ints q)) :: (bj, cel 125 [.slice a1 l1.length c1, .int .i64 (tq3), .int .u32 (mx3)]) :: (b13, cel 29 (ints (mixt b))) :: (b11, cel 94 (ints b)) :: (b9, cel 29 (ints m)) :: (b8, cel 28 (ctl c (c.sl ah ch))) :: (b7, cel 25 (gtl g (g.sl ag cg))) :: H, RowsA al 1 (irows l) :: RowsA ah 5 (hrows c.hs) :: RowsA ag 5 (grows g.grs) :: R⟩) (fun k => 4 - k.1) ⟨0, by omega⟩ ?_ (fun k => ?_)
 exact sy_at (by repeat' first | exact Sub.nil | apply Sub.cons | rfl | (simp [lk]; omega)) (fun _ h => h)
 obtain ⟨k, hk⟩ := k
 dsimp only at hk ⊢
 refine sy_seq ?_
 refine sy_tx' [0] rfl ?_
 refine sp rfl (PE.lss rfl rfl) rfl ?_
 refine sy_seq ?_
 refine sy_cond rfl (fun hc4 => ?_) (fun hc4 => ?_)
 try simp only [decide_eq_true_eq, decide_eq_false_iff_not, Bool.and_eq_true, Bool.or_eq_true, Bool.not_eq_true', Int.not_le, Int.not_lt] at hc4
 have hk4 : k < 4 := by omega
 refine sy_skip ?_
 refine sy_seq ?_
 refine sy_block ?_
 refine sy_seq ?_
 refine sy_tx' [0, 1, 2, 3, 4] rfl ?_
 refine sp rfl (PE.move rfl) rfl ?_
 refine sp rfl ((PE.indexI (l := b) are94 (eqB_ok 10000 41 true 2 eqf41) (by simp) rfl rfl hk4 (by rw [hbl]; omega)).to (by rw [box_part hbl hk4])) rfl ?_
 refine alc rfl zl41 rfl (fun b24 => ?_)
 refine sp rfl (PE.assign rfl) rfl ?_
 refine sto rfl rfl rfl cn41 rfl rfl rfl rfl ?_
 refine sy_seq ?_
 refine sy_draw [0, 1, 3, 7, 15, 3, 35, 127, 255, 511, 1023, 2047, 511, 4607, 16383, 32767, 65535] (.tk 0 (.tk 1 (.tk 2 (.tk 3 (.ld 4 (.tk 5 (.ld 6 (.tk 7 (.tk 8 (.tk 9 (.tk 10 (.ld 11 (.tk 12 (.ld 13 (.tk 14 (.tk 15 (.tk 16 .done))))))))))))))))) mixed (by kernel_rfl) ?_
 refine tk rfl (PE.move rfl) rfl ?_
 refine tk rfl (PE.move rfl) rfl ?_
 refine sy_case (t := 165) rfl (fun g165 => ?_) (fun g165 => ?_)
 have hat := (hin _ hq g165).1.at_ k hk4
 refine tkG rfl rfl rfl rfl (PE.move rfl) rfl ?_
 refine tkG rfl rfl rfl rfl (PE.indexArr ar29 rfl rfl (by omega) (by omega)) rfl ?_
 refine ldG rfl rfl rfl rfl rfl (lh sc3 rfl (mix_at hq.len hk4)) rfl ?_
 refine tkG rfl rfl rfl rfl (PE.fieldAddr fo41_0 rfl) rfl ?_
 refine ldG rfl rfl rfl rfl rfl (lh sc3 rfl rfl) rfl ?_
 refine tkG rfl rfl rfl rfl (PE.lss rfl rfl) rfl ?_
 refine tkG rfl rfl rfl rfl (PE.move rfl) rfl ?_
 refine sy_case (t := 172) rfl (fun g172 => ?_) (fun g172 => ?_)
 exact absurd g172 (by first | (simp; done) | (rw [decide_eq_false (by omega)]; simp))
 refine tkG rfl rfl rfl rfl (PE.move rfl) rfl ?_
 refine tkG rfl rfl rfl rfl (PE.indexArr ar29 rfl rfl (by omega) (by omega)) rfl ?_
 refine ldG rfl rfl rfl rfl rfl (lh sc3 rfl (mix_at hq.len hk4)) rfl ?_
 refine tkG rfl rfl rfl rfl (PE.fieldAddr fo41_1 rfl) rfl ?_
 refine ldG rfl rfl rfl rfl rfl (lh sc3 rfl rfl) rfl ?_
 refine tkG rfl rfl rfl rfl (PE.gtr rfl rfl) rfl ?_
 refine tkG rfl rfl rfl rfl (PE.pick rfl rfl rfl) rfl ?_
 refine tk rfl (PE.pick rfl rfl rfl) rfl ?_
 refine sy_cond rfl (fun hc5 => ?_) (fun hc5 => ?_)
 exact absurd hc5 (by first | (simp; done) | (rw [decide_eq_false (by omega)]; simp))
 refine sy_skip ?_
 refine sy_tx' [0, 1] rfl ?_
 refine sp rfl (PE.add rfl rfl (by omega)) rfl ?_
 refine sp rfl (PE.move rfl) rfl ?_
 exact sy_next ⟨k + 1, by omega⟩ (by dsimp only; omega) (by repeat' first | exact Sub.nil | apply Sub.cons | rfl | (simp [lk]; omega)) (fun w h => h.del b24)
 repeat refine tkN rfl rfl rfl rfl rfl rfl rfl rfl ?_
 refine ldN rfl rfl rfl rfl rfl rfl rfl rfl ?_
 refine tkN rfl rfl rfl rfl rfl rfl rfl rfl ?_
 refine ldN rfl rfl rfl rfl rfl rfl rfl rfl ?_
 repeat refine tkN rfl rfl rfl rfl rfl rfl rfl rfl ?_
 repeat refine tkU rfl rfl rfl rfl rfl rfl rfl ?_
 refine ldU rfl rfl rfl rfl rfl rfl rfl ?_
 refine tkU rfl rfl rfl rfl rfl rfl rfl ?_
 refine ldU rfl rfl rfl rfl rfl rfl rfl ?_
 refine tkU rfl rfl rfl rfl rfl rfl rfl ?_
 refine tkN rfl rfl rfl rfl rfl rfl rfl rfl ?_
 refine tk rfl (PE.pick rfl rfl rfl) rfl ?_
 refine sy_condF rfl ?_
 refine sy_skip ?_
 refine sy_tx' [0, 1] rfl ?_
 refine sp rfl (PE.add rfl rfl (by omega)) rfl ?_
 refine sp rfl (PE.move rfl) rfl ?_
 exact sy_next ⟨k + 1, by omega⟩ (by dsimp only; omega) (by repeat' first | exact Sub.nil | apply Sub.cons | rfl | (simp [lk]; omega)) (fun w h => h.del b24)
 try simp only [decide_eq_true_eq, decide_eq_false_iff_not, Bool.and_eq_true, Bool.or_eq_true, Bool.not_eq_true', Int.not_le, Int.not_lt] at hc4
 obtain rfl : k = 4 := by omega
 refine sy_exit ?_
 repeat refine sy_tx ?_
 refine sy_bx ?_
 refine sy_tx' [0, 1] rfl ?_
 refine sp rfl (PE.add rfl rfl (by omega)) rfl ?_
 refine sp rfl (PE.move rfl) rfl ?_
 exact sy_next ⟨(i + 1, tq3, mx3), by omega, by dsimp only; omega, by assumption⟩ (by dsimp only; omega) (by repeat' first | exact Sub.nil | apply Sub.cons | rfl | (simp [lk]; omega)) (fun w h => h.del b18)
 try simp only [decide_eq_true_eq, decide_eq_false_iff_not, Bool.and_eq_true, Bool.or_eq_true, Bool.not_eq_true', Int.not_le, Int.not_lt] at hc1
 refine sy_exit ?_
 repeat refine sy_tx ?_
 refine sy_bx ?_
 refine sy_seq ?_
 refine sy_tx' [0, 1, 2, 3] rfl ?_
 refine sp rfl (PE.move rfl) rfl ?_
 refine sp rfl (PE.conv64 us5 ik3 rfl (by omega)) rfl ?_
 refine sp rfl (PE.rem rfl rfl (by omega)) rfl ?_
 refine sp rfl (PE.assign rfl) rfl ?_
 refine sy_seq ?_
 refine sy_seq ?_
 refine sy_draw [0, 0, 2, 0, 0, 16, 48, 112, 255, 511, 1023, 2047, 2047, 6143, 2047, 2047, 34815, 100351, 231423, 524287, 1048575, 2097151, 4194303, 8388607, 8388607, 25165823, 8388607, 8388607, 142606335, 411041791, 947912703, 2021654527, 4294967295, 8589934591, 17179869183, 34359738367, 34359738367, 103079215103, 34359738367, 34359738367, 584115552255, 1683627180031, 3882650435583, 8280696946687, 17592186044415, 35184372088831] (.ld 0 (.tk 1 (.ld 2 (.tk 3 (.tk 4 (.tk 5 (.tk 6 (.ld 7 (.big 8 (.tk 9 (.tk 10 (.ld 11 (.tk 12 (.ld 13 (.tk 14 (.tk 15 (.tk 16 (.tk 17 (.ld 18 (.big 19 (.tk 20 (.tk 21 (.tk 22 (.ld 23 (.tk 24 (.ld 25 (.tk 26 (.tk 27 (.tk 28 (.tk 29 (.ld 30 (.tk 31 (.big 32 (.tk 33 (.tk 34 (.ld 35 (.tk 36 (.ld 37 (.tk 38 (.tk 39 (.tk 40 (.tk 41 (.ld 42 (.tk 43 (.big 44 (.tk 45 .done)))))))))))))))))))))))))))))))))))))))))))))) mixed (by kernel_rfl) ?_
 obtain ⟨k, hkd⟩ : ∃ k : Nat, kd % 4 = k := ⟨(kd % 4).toNat, by omega⟩
 rw [hkd]
 have hk4 : k < 4 := by omega
 have hat := hb.at_ k hk4
 refine ld rfl rfl (lhA [_, _, _] ag25 rfl rfl rfl) rfl ?_
 refine tk rfl (PE.fieldAddr fo28_2 rfl) rfl ?_
 refine ld rfl rfl (lh sc26 rfl rfl) rfl ?_
 refine tk rfl (PE.move rfl) rfl ?_
 refine tk rfl (PE.move rfl) rfl ?_
 refine tk rfl (PE.indexArr ar94 rfl rfl (by omega) (by omega)) rfl ?_
 refine tk rfl (PE.fieldAddr fo41_0 rfl) rfl ?_
 refine ld rfl rfl (lh sc3 rfl (bx_lo hbl hk4)) rfl ?_
 refine cl rfl cal62 rfl rfl (c_someL g hmd.gok.miss (g.sl ag cg) c.hs hmd.cok.hs (by omega) ah ch k hk4 (bl b k) (by omega) _ _) ?_
 rintro _ _ _ ⟨r194, rfl, hr194, rfl, rfl⟩
 rw [some_iff hb hk4] at hr194
 obtain rfl : r194 = true := by cases r194 <;> simp at hr194 ⊢ <;> omega
 refine bg (fun w hs => ⟨trivial, trivial, trivial, trivial⟩) ?_
 refine tk rfl (PE.not rfl) rfl ?_
 refine tk rfl (PE.move rfl) rfl ?_
 refine sy_case (t := 196) rfl (fun g196 => ?_) (fun g196 => ?_)
 exact absurd g196 (by first | (simp; done) | (rw [decide_eq_false (by omega)]; simp))
 refine ldG rfl rfl rfl rfl rfl (lhA [_, _, _] ag25 rfl rfl rfl) rfl ?_
 refine tkG rfl rfl rfl rfl (PE.fieldAddr fo28_2 rfl) rfl ?_
 refine ldG rfl rfl rfl rfl rfl (lh sc26 rfl rfl) rfl ?_
 refine tkG rfl rfl rfl rfl (PE.move rfl) rfl ?_
 refine tkG rfl rfl rfl rfl (PE.move rfl) rfl ?_
 refine tkG rfl rfl rfl rfl (PE.indexArr ar94 rfl rfl (by omega) (by omega)) rfl ?_
 refine tkG rfl rfl rfl rfl (PE.fieldAddr fo41_1 rfl) rfl ?_
 refine ldG rfl rfl rfl rfl rfl (lh sc3 rfl (bx_hi hbl hk4)) rfl ?_
 refine clG rfl rfl rfl rfl cal62 rfl rfl (c_someL g hmd.gok.miss (g.sl ag cg) c.hs hmd.cok.hs (by omega) ah ch k hk4 (bh b k) (by omega) _ _) ?_
 rintro _ _ _ ⟨r205, rfl, hr205, rfl, rfl⟩
 rw [some_iff hb hk4] at hr205
 obtain rfl : r205 = true := by cases r205 <;> simp at hr205 ⊢ <;> omega
 refine bg (fun w hs => ⟨trivial, trivial, trivial, trivial⟩) ?_
 refine tkG rfl rfl rfl rfl (PE.not rfl) rfl ?_
 refine tk rfl (PE.pick rfl rfl rfl) rfl ?_
 refine tk rfl (PE.move rfl) rfl ?_
 refine sy_case (t := 208) rfl (fun g208 => ?_) (fun g208 => ?_)
 exact absurd g208 (by first | (simp; done) | (rw [decide_eq_false (by omega)]; simp))
 refine ldG rfl rfl rfl rfl rfl (lhA [_, _, _] ag25 rfl rfl rfl) rfl ?_
 refine tkG rfl rfl rfl rfl (PE.fieldAddr fo28_2 rfl) rfl ?_
 refine ldG rfl rfl rfl rfl rfl (lh sc26 rfl rfl) rfl ?_
 refine tkG rfl rfl rfl rfl (PE.move rfl) rfl ?_
 refine tkG rfl rfl rfl rfl (PE.move rfl) rfl ?_
 refine tkG rfl rfl rfl rfl (PE.indexArr ar94 rfl rfl (by omega) (by omega)) rfl ?_
 refine tkG rfl rfl rfl rfl (PE.fieldAddr fo41_0 rfl) rfl ?_
 refine ldG rfl rfl rfl rfl rfl (lh sc3 rfl (bx_lo hbl hk4)) rfl ?_
 refine tkG rfl rfl rfl rfl (PE.sub rfl rfl (by omega)) rfl ?_
 refine clG rfl rfl rfl rfl cal62 rfl rfl (c_someL g hmd.gok.miss (g.sl ag cg) c.hs hmd.cok.hs (by omega) ah ch k hk4 (bl b k - 1) (by omega) _ _) ?_
 rintro _ _ _ ⟨r218, rfl, hr218, rfl, rfl⟩
 rw [some_iff hb hk4] at hr218
 obtain rfl : r218 = false := by cases r218 <;> simp at hr218 ⊢ <;> omega
 refine bg (fun w hs => ⟨trivial, trivial, trivial, trivial⟩) ?_
 refine tk rfl (PE.pick rfl rfl rfl) rfl ?_
 refine tk rfl (PE.move rfl) rfl ?_
 refine sy_case (t := 220) rfl (fun g220 => ?_) (fun g220 => ?_)
 exact absurd g220 (by first | (simp; done) | (rw [decide_eq_false (by omega)]; simp))
 refine ldG rfl rfl rfl rfl rfl (lhA [_, _, _] ag25 rfl rfl rfl) rfl ?_
 refine tkG rfl rfl rfl rfl (PE.fieldAddr fo28_2 rfl) rfl ?_
 refine ldG rfl rfl rfl rfl rfl (lh sc26 rfl rfl) rfl ?_
 refine tkG rfl rfl rfl rfl (PE.move rfl) rfl ?_
 refine tkG rfl rfl rfl rfl (PE.move rfl) rfl ?_
 refine tkG rfl rfl rfl rfl (PE.indexArr ar94 rfl rfl (by omega) (by omega)) rfl ?_
 refine tkG rfl rfl rfl rfl (PE.fieldAddr fo41_1 rfl) rfl ?_
 refine ldG rfl rfl rfl rfl rfl (lh sc3 rfl (bx_hi hbl hk4)) rfl ?_
 refine tkG rfl rfl rfl rfl (PE.add rfl rfl (by omega)) rfl ?_
 refine clG rfl rfl rfl rfl cal62 rfl rfl (c_someL g hmd.gok.miss (g.sl ag cg) c.hs hmd.cok.hs (by omega) ah ch k hk4 (bh b k + 1) (by omega) _ _) ?_
 rintro _ _ _ ⟨r230, rfl, hr230, rfl, rfl⟩
 rw [some_iff hb hk4] at hr230
 obtain rfl : r230 = false := by cases r230 <;> simp at hr230 ⊢ <;> omega
 refine bg (fun w hs => ⟨trivial, trivial, trivial, trivial⟩) ?_
 refine tk rfl (PE.pick rfl rfl rfl) rfl ?_
 refine sy_cond rfl (fun hc6 => ?_) (fun hc6 => ?_)
 exact absurd hc6 (by first | (simp; done) | (rw [decide_eq_false (by omega)]; simp))
 refine sy_skip ?_
 refine sy_seq ?_
 refine sy_seq ?_
 refine sy_tx' [0] rfl ?_
 refine sp rfl (PE.assign rfl) rfl ?_
 refine sy_block ?_
 refine sy_loop (ι := {j : Nat // j ≤ g.grs.length + 1}) (fun j => ⟨[(7, .pointer (some ⟨b7, 0, none⟩)), (8, .pointer (some ⟨b8, 0, none⟩)), (15, .slice al l.length cl1), (26, .int .i64 ((j.1 : Int) - 1))], (bj, cel 125 [.slice a1 l1.length c1, .int .i64 (tq2), .int .u32 (mx2)]) :: (b13, cel 29 (ints (mixt b))) :: (b11, cel 94 (ints b)) :: (b9, cel 29 (ints m)) :: (b8, cel 28 (ctl c (c.sl ah ch))) :: (b7, cel 25 (gtl g (g.sl ag cg))) :: H, RowsA al 1 (irows l) :: RowsA ah 5 (hrows c.hs) :: RowsA ag 5 (grows g.grs) :: R⟩) (fun j => g.grs.length + 1 - j.1) ⟨0, by omega⟩ ?_ (fun j => ?_)
 exact sy_at (by repeat' first | exact Sub.nil | apply Sub.cons | rfl | (simp [lk]; omega)) (fun _ h => h)
 obtain ⟨j, hj⟩ := j
 dsimp only at hj ⊢
 refine sy_seq ?_
 refine sy_seq ?_
 refine sy_tx' [0, 1, 2, 3, 4] rfl ?_
 refine sp rfl (PE.move rfl) rfl ?_
 refine sp rfl (PE.fieldAddr fo25_2 rfl) rfl ?_
 refine spL rfl rfl (lh sc23 rfl rfl) rfl ?_
 refine sp rfl (PE.lenSl isl23 rfl) rfl ?_
 refine sp rfl (PE.lss rfl rfl) rfl ?_
 refine sy_cond rfl (fun hc7 => ?_) (fun hc7 => ?_)
 try simp only [decide_eq_true_eq, decide_eq_false_iff_not, Bool.and_eq_true, Bool.or_eq_true, Bool.not_eq_true', Int.not_le, Int.not_lt] at hc7
 refine sy_skip ?_
 refine sy_seq ?_
 refine sy_block ?_
 refine sy_seq ?_
 refine sy_tx' [0, 1, 2, 3, 4, 5, 6, 7, 8, 9] rfl ?_
 refine spL rfl rfl (lhA [_, _, _] ag25 rfl rfl rfl) rfl ?_
 refine spL rfl rfl (lhA [_, _, _] ag28 rfl rfl rfl) rfl ?_
 refine sp rfl (PE.move rfl) rfl ?_
 refine cl rfl cal34 rfl rfl (c_Show g ag cg (by omega) hcg c ah ch (by omega) ((j : Int) - 1) _ _) ?_
 rintro _ _ _ ⟨rfl, rfl, rfl⟩
 rcases show_md hmd hb (show -1 ≤ (j : Int) - 1 ∧ (j : Int) - 1 < g.grs.length by omega) with ⟨q, hq, hsq, hqf, hqg, hqc⟩ | ⟨hsq, hqc⟩
 rw [hsq]
 dsimp only
 refine sp rfl (PE.move rfl) rfl ?_
 refine sp rfl (PE.extract rfl rfl) rfl ?_
 refine sp rfl (PE.extract rfl rfl) rfl ?_
 refine alc rfl zl29 rfl (fun b27 => ?_)
 refine stoA rfl rfl rfl cn29 rfl (by rw [ints_length]; exact hq.len) rfl (ints_one _) ?_
 refine sp rfl (PE.assign rfl) rfl ?_
 refine sy_seq ?_
 refine sy_tx' [0, 1, 2, 3] rfl ?_
 refine sp rfl (PE.move rfl) rfl ?_
 refine sp rfl (PE.move rfl) rfl ?_
 refine cl rfl cal33 rfl rfl (c_contains_int l al cl1 ((j : Int) - 1) (by omega) _ _) ?_
 rintro _ _ _ ⟨rfl, rfl, rfl⟩
 rw [show (l.any fun x => decide ((j : Int) - 1 = x)) = true from by rw [List.any_eq_true]; exact ⟨_, by rw [hl]; exact hqc, by simp⟩]
 refine sp rfl (PE.assign rfl) rfl ?_
 refine sy_seq ?_
 refine sy_tx' [0, 1, 2, 3, 4, 5, 6, 7, 8, 9, 10, 11, 12, 13, 14, 15, 16, 17, 18, 19, 20, 21, 22, 23, 24, 25, 26, 27, 28, 29, 30, 31, 32] rfl ?_
 refine sp rfl (PE.move rfl) rfl ?_
 refine sp rfl (PE.move rfl) rfl ?_
 refine sy_case (t := 250) rfl (fun g250 => ?_) (fun g250 => ?_)
 refine spG rfl rfl rfl rfl (PE.move rfl) rfl ?_
 refine spG rfl rfl rfl rfl (PE.neq rfl rfl) rfl ?_
 refine spG rfl rfl rfl rfl (PE.move rfl) rfl ?_
 refine sy_case (t := 253) rfl (fun g253 => ?_) (fun g253 => ?_)
 exact absurd g253 (by first | (simp; done) | (rw [decide_eq_false (by omega)]; simp))
 refine spLG rfl rfl rfl rfl rfl (lhA (ints (q)) ag29 rfl (rest := []) (by rw [List.append_nil]; rfl) (by rw [ints_length]; exact hq.len)) rfl ?_
 refine clVG rfl rfl rfl rfl cal61 rfl rfl (c_right q hq _ _) ?_
 refine spG rfl rfl rfl rfl (PE.not rfl) rfl ?_
 refine spG rfl rfl rfl rfl (PE.pick rfl rfl rfl) rfl ?_
 refine spG rfl rfl rfl rfl (PE.move rfl) rfl ?_
 refine sy_case (t := 258) rfl (fun g258 => ?_) (fun g258 => ?_)
 exact absurd g258 (by first | (simp; done) | (rw [decide_eq_false (by omega)]; simp))
 refine spLG rfl rfl rfl rfl rfl (lhA [_, _, _] ag25 rfl rfl rfl) rfl ?_
 refine spG rfl rfl rfl rfl (PE.fieldAddr fo28_2 rfl) rfl ?_
 refine spLG rfl rfl rfl rfl rfl (lh sc26 rfl rfl) rfl ?_
 refine spLG rfl rfl rfl rfl rfl (lhA (ints (q)) ag29 rfl (rest := []) (by rw [List.append_nil]; rfl) (by rw [ints_length]; exact hq.len)) rfl ?_
 refine clG rfl rfl rfl rfl cal20 rfl rfl (c_fits g hmd.gok.miss (g.sl ag cg) q hq c.hs hmd.cok.hs (by omega) ah ch _ _) ?_
 rintro _ _ _ ⟨rfl, rfl, rfl⟩
 rw [hqf]
 refine spG rfl rfl rfl rfl (PE.not rfl) rfl ?_
 refine spG rfl rfl rfl rfl (PE.pick rfl rfl rfl) rfl ?_
 refine spG rfl rfl rfl rfl (PE.move rfl) rfl ?_
 refine sy_case (t := 266) rfl (fun g266 => ?_) (fun g266 => ?_)
 exact absurd g266 (by first | (simp; done) | (rw [decide_eq_false (by omega)]; simp))
 refine spLG rfl rfl rfl rfl rfl (lhA [_, _, _] ag25 rfl rfl rfl) rfl ?_
 refine spLG rfl rfl rfl rfl rfl (lhA (ints (q)) ag29 rfl (rest := []) (by rw [List.append_nil]; rfl) (by rw [ints_length]; exact hq.len)) rfl ?_
 refine clG rfl rfl rfl rfl cal21 rfl rfl (c_hasL g ag cg (by omega) q hq _ _) ?_
 rintro _ _ _ ⟨rfl, rfl, rfl⟩
 rw [hqg]
 refine spG rfl rfl rfl rfl (PE.move rfl) rfl ?_
 refine spG rfl rfl rfl rfl (PE.neq rfl rfl) rfl ?_
 refine spG rfl rfl rfl rfl (PE.pick rfl rfl rfl) rfl ?_
 refine sp rfl (PE.pick rfl rfl rfl) rfl ?_
 refine sp rfl (PE.move rfl) rfl ?_
 refine sy_case (t := 274) rfl (fun g274 => ?_) (fun g274 => ?_)
 exact absurd g274 (by first | (simp; done) | (rw [decide_eq_false (by omega)]; simp))
 refine spG rfl rfl rfl rfl (PE.move rfl) rfl ?_
 refine spG rfl rfl rfl rfl (PE.not rfl) rfl ?_
 refine spG rfl rfl rfl rfl (PE.move rfl) rfl ?_
 refine sy_case (t := 277) rfl (fun g277 => ?_) (fun g277 => ?_)
 exact absurd g277 (by first | (simp; done) | (rw [decide_eq_false (by omega)]; simp))
 repeat refine spN rfl rfl rfl rfl rfl rfl rfl rfl ?_
 refine spG rfl rfl rfl rfl (PE.pick rfl rfl rfl) rfl ?_
 refine sp rfl (PE.pick rfl rfl rfl) rfl ?_
 refine sy_condF rfl ?_
 refine sy_skip ?_
 refine sy_tx' [0, 1, 2] rfl ?_
 refine sp rfl (PE.move rfl) rfl ?_
 refine sp rfl (PE.add rfl rfl (by omega)) rfl ?_
 refine sp rfl (PE.assign rfl) rfl ?_
 exact sy_next ⟨j + 1, by omega⟩ (by dsimp only; omega) (by dsimp only; rw [show ((j + 1 : Nat) : Int) - 1 = (j : Int) - 1 + 1 from by omega]; exact (by repeat' first | exact Sub.nil | apply Sub.cons | rfl | (simp [lk]; omega))) (fun w h => h.del b27)
 exact absurd g250 (by simp)
 rw [hsq]
 dsimp only
 refine sp rfl (PE.move rfl) rfl ?_
 refine sp rfl (PE.extract rfl rfl) rfl ?_
 refine sp rfl (PE.extract rfl rfl) rfl ?_
 refine alc rfl zl29 rfl (fun b27 => ?_)
 refine stoA rfl rfl rfl cn29 rfl (by rw [ints_length]; exact rfl) rfl (ints_one _) ?_
 refine sp rfl (PE.assign rfl) rfl ?_
 refine sy_seq ?_
 refine sy_tx' [0, 1, 2, 3] rfl ?_
 refine sp rfl (PE.move rfl) rfl ?_
 refine sp rfl (PE.move rfl) rfl ?_
 refine cl rfl cal33 rfl rfl (c_contains_int l al cl1 ((j : Int) - 1) (by omega) _ _) ?_
 rintro _ _ _ ⟨rfl, rfl, rfl⟩
 rw [show (l.any fun x => decide ((j : Int) - 1 = x)) = false from by rw [List.any_eq_false]; intro x hx h9; exact hqc (by rw [of_decide_eq_true h9, ← hl]; exact hx)]
 refine sp rfl (PE.assign rfl) rfl ?_
 refine sy_seq ?_
 refine sy_tx' [0, 1, 2, 3, 4, 5, 6, 7, 8, 9, 10, 11, 12, 13, 14, 15, 16, 17, 18, 19, 20, 21, 22, 23, 24, 25, 26, 27, 28, 29, 30, 31, 32] rfl ?_
 refine sp rfl (PE.move rfl) rfl ?_
 refine sp rfl (PE.move rfl) rfl ?_
 refine sy_case (t := 250) rfl (fun g250 => ?_) (fun g250 => ?_)
 exact absurd g250 (by first | (simp; done) | (rw [decide_eq_false (by omega)]; simp))
 repeat refine spN rfl rfl rfl rfl rfl rfl rfl rfl ?_
 repeat refine spU rfl rfl rfl rfl rfl rfl rfl ?_
 repeat refine spN rfl rfl rfl rfl rfl rfl rfl rfl ?_
 repeat refine spU rfl rfl rfl rfl rfl rfl rfl ?_
 repeat refine spN rfl rfl rfl rfl rfl rfl rfl rfl ?_
 repeat refine spU rfl rfl rfl rfl rfl rfl rfl ?_
 refine spN rfl rfl rfl rfl rfl rfl rfl rfl ?_
 refine sp rfl (PE.pick rfl rfl rfl) rfl ?_
 refine sp rfl (PE.move rfl) rfl ?_
 refine spG rfl rfl rfl rfl (PE.move rfl) rfl ?_
 refine spG rfl rfl rfl rfl (PE.not rfl) rfl ?_
 refine spG rfl rfl rfl rfl (PE.move rfl) rfl ?_
 refine sy_case (t := 277) rfl (fun g277 => ?_) (fun g277 => ?_)
 refine spG rfl rfl rfl rfl (PE.move rfl) rfl ?_
 refine spG rfl rfl rfl rfl (PE.neq rfl rfl) rfl ?_
 refine spG rfl rfl rfl rfl (PE.pick rfl rfl rfl) rfl ?_
 refine sp rfl (PE.pick rfl rfl rfl) rfl ?_
 refine sy_cond rfl (fun hc8 => ?_) (fun hc8 => ?_)
 exact absurd hc8 (by first | (simp; done) | (rw [decide_eq_false (by omega)]; simp))
 refine sy_skip ?_
 refine sy_tx' [0, 1, 2] rfl ?_
 refine sp rfl (PE.move rfl) rfl ?_
 refine sp rfl (PE.add rfl rfl (by omega)) rfl ?_
 refine sp rfl (PE.assign rfl) rfl ?_
 exact sy_next ⟨j + 1, by omega⟩ (by dsimp only; omega) (by dsimp only; rw [show ((j + 1 : Nat) : Int) - 1 = (j : Int) - 1 + 1 from by omega]; exact (by repeat' first | exact Sub.nil | apply Sub.cons | rfl | (simp [lk]; omega))) (fun w h => h.del b27)
 exact absurd g277 (by simp)
 try simp only [decide_eq_true_eq, decide_eq_false_iff_not, Bool.and_eq_true, Bool.or_eq_true, Bool.not_eq_true', Int.not_le, Int.not_lt] at hc7
 refine sy_exit ?_
 repeat refine sy_tx ?_
 refine sy_bx ?_
 refine sy_seq ?_
 refine sy_tx' [0, 1] rfl ?_
 refine clV rfl cal22 rfl rfl (c_awake _ _) ?_
 refine sp rfl (PE.assign rfl) rfl ?_
 refine sy_ret ?_
 exact sy_return (vs := [_]) rfl (.cons (RV.tmp rfl) .nil) rfl ⟨rfl, rfl, rfl⟩ (fun w h => St.sub ((((((h.del bj).del b13).del b11).del b9).del b8).del b7).ftail.ftail.ftail)
end Go.Proofs.Ytknoaljnelfklaa
