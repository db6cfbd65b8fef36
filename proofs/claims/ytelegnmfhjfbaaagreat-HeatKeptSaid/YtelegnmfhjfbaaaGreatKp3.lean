/- Walks of the functions of the program, and the laws that join them: what the last theorem of this claim needs, in order. -/
import Derived.Test.YtelegnmfhjfbaaaGreatKp2
namespace Go.Proofs.YtelegnmfhjfbaaaGreat
set_option linter.unusedSimpArgs false
set_option linter.unusedVariables false
open Go
theorem ap22 : apT Tryz.prog 22 = some (3, 1, 8) := by kernel_rfl
theorem sc4 : scal Tryz.prog 4 = true := by kernel_rfl
theorem sc65 : scal Tryz.prog 65 = true := by kernel_rfl
theorem Barn.dsk_ok {b : Barn} (hb : b.ok) : b.dsk.ok where
  n := hb.many
  gangs := hb.gangs
  lasts := b.lasts_sml hb
  most := b.most_sml hb
  le k hk := by
    obtain ⟨x, hx⟩ : ∃ x, b.bins[k]? = some x := ⟨_, List.getElem?_eq_getElem hk⟩
    have h1 : na b.lasts k = _ := na_at (b.map_get hb _ hx)
    have h2 : na b.most k = _ := na_at (b.map_get hb _ hx)
    show na b.lasts k ≤ na b.most k
    rw [h1, h2]; omega
  ever k hk := by
    obtain ⟨x, hx⟩ : ∃ x, b.bins[k]? = some x := ⟨_, List.getElem?_eq_getElem hk⟩
    have hm := List.mem_of_getElem? hx
    have h1 : na b.lasts k = _ := na_at (b.map_get hb _ hx)
    have h2 : na b.most k = _ := na_at (b.map_get hb _ hx)
    show (na b.lasts k = 1000000 ∨ na b.lasts k ≤ 10) ∧ (na b.most k = 1000000 ∨ na b.most k ≤ 10) ∧ (na b.lasts k = 1000000 ↔ na b.most k = 1000000)
    have r1 := b.days_range hb hm (hb.bins x hm).2.1.1
    have r2 := b.days_range hb hm hb.cool.1
    rw [h1, h2]
    have e : b.days x x.warm = 1000000 ↔ b.days x b.cool = 1000000 := by
      have z : ∀ w, 0 ≤ w → (b.days x w = 1000000 ↔ b.worst x = 0) := fun w hw => by
        constructor
        · intro h
          rcases Classical.em (b.worst x = 0) with h0 | h0
          · exact h0
          · have h9 := b.worst_range hb hm
            have h8 := (hb.bins x hm).1
            unfold Barn.days daysB at h
            rw [decide_eq_false h0, cond_false] at h
            by_cases h3 : x.mark < w
            · rw [decide_eq_true h3, cond_true] at h; omega
            · rw [decide_eq_false h3, cond_false] at h
              have : (x.mark - w) / b.worst x < 11 := Int.ediv_lt_of_lt_mul (by omega) (by omega)
              omega
        · intro h; unfold Barn.days daysB; rw [h]; rfl
      rw [z _ (hb.bins x hm).2.1.1, z _ hb.cool.1]
    omega
theorem il_len (l : List Nat) : (il l).length = l.length := by simp [il]
theorem c_turnings (bd : Nat) (full : Bool) (H : Heap) (R : Facts) :
    Fn Tryz.prog 29 [.pointer (some ⟨bd, 0, none⟩), .bool full] H R (fun v H' R' => ∃ xb xf, v = .func (.func 81) #[] #[.pointer (some ⟨xb, 0, none⟩), .pointer (some ⟨xf, 0, none⟩)] ∧ H' = H ∧ R' = RowsA (some ⟨xf, 0, none⟩) 1 [[.bool full]] :: RowsA (some ⟨xb, 0, none⟩) 1 [[.pointer (some ⟨bd, 0, none⟩)]] :: R) := by
 refine fn_of Tryz.func29 rfl Tryz.ntmps29 rfl ?_
 refine sy_seq ?_
 refine sy_tx' [0, 1, 2] rfl ?_
 refine bx rfl rfl rfl (fun b2 => ?_)
 refine bx rfl rfl rfl (fun b3 => ?_)
 refine sp rfl (PE.assign rfl) rfl ?_
 refine sy_seq ?_
 refine sy_tx' [0, 1] rfl ?_
 refine sp rfl (PE.makeFunc rfl rfl) rfl ?_
 refine sp rfl (PE.assign rfl) rfl ?_
 refine sy_ret ?_
 refine Sy.heap (fun w h => St.rows (sz := 1) (rows := [[.pointer (some ⟨bd, 0, none⟩)]]) (rest := []) (h.pull b2) (by simp)) ?_
 refine Sy.heap (fun w h => St.rows (sz := 1) (rows := [[.bool full]]) (rest := []) (h.pull b3) (by simp)) ?_
 exact sy_return (vs := [_]) rfl (.cons (RV.tmp rfl) .nil) rfl ⟨b2, b3, rfl, rfl, rfl⟩ (fun _ h => h)
theorem c_states (bd : Nat) (H : Heap) (R : Facts) :
    Fn Tryz.prog 78 [.pointer (some ⟨bd, 0, none⟩)] H R (fun v H' R' => ∃ xb, v = .func (.func 123) #[] #[.pointer (some ⟨xb, 0, none⟩)] ∧ H' = H ∧ R' = RowsA (some ⟨xb, 0, none⟩) 1 [[.pointer (some ⟨bd, 0, none⟩)]] :: R) := by
 refine fn_of Tryz.func78 rfl Tryz.ntmps78 rfl ?_
 refine sy_seq ?_
 refine sy_tx' [0, 1] rfl ?_
 refine bx rfl rfl rfl (fun b1 => ?_)
 refine sp rfl (PE.assign rfl) rfl ?_
 refine sy_seq ?_
 refine sy_tx' [0, 1] rfl ?_
 refine sp rfl (PE.makeFunc rfl rfl) rfl ?_
 refine sp rfl (PE.assign rfl) rfl ?_
 refine sy_ret ?_
 refine Sy.heap (fun w h => St.rows (sz := 1) (rows := [[.pointer (some ⟨bd, 0, none⟩)]]) (rest := []) (h.pull b1) (by simp)) ?_
 exact sy_return (vs := [_]) rfl (.cons (RV.tmp rfl) .nil) rfl ⟨b1, rfl, rfl, rfl⟩ (fun _ h => h)
theorem c_turnings1 (b : Barn) (hok : b.ok) (ab : Option Addr) (cb bd m : Nat) (full : Bool) (xb xf lp : Nat) (I : Nat → Heap → Facts → Prop) (E : Heap → Facts → Prop) (hI : ∀ k H R, I k H R → RowsA (some ⟨xb, 0, none⟩) 1 [[.pointer (some ⟨bd, 0, none⟩)]] ∈ R ∧ RowsA (some ⟨xf, 0, none⟩) 1 [[.bool full]] ∈ R ∧ RowsA (some ⟨bd, 0, none⟩) 18 [dcs b (b.sl ab cb) b.lasts b.most m] ∈ R)
    (hy : ∀ k l a c H R, (b.dsk.trs full)[k]? = some l → I k H R → Yd Tryz.prog lp [.slice a l.length c] H (RowsA a 1 (irows (il l)) :: R) (fun v H' R' => (v = .bool true ∧ I (k + 1) H' R') ∨ (v = .bool false ∧ E H' R'))) (H : Heap) (R : Facts) (h0 : I 0 H R) :
    Fn Tryz.prog 81 [yv lp, .pointer (some ⟨xb, 0, none⟩), .pointer (some ⟨xf, 0, none⟩)] H R (fun _ H' R' => I (b.dsk.trs full).length H' R' ∨ E H' R') := by
 have hmn := hok.many
 have hgg := hok.gangs
 obtain ⟨hF1, hF2, hF3⟩ := hI _ _ _ h0
 haveI : MemRows (some ⟨xb, 0, none⟩) 1 [[.pointer (some ⟨bd, 0, none⟩)]] R := ⟨hF1⟩
 haveI : MemRows (some ⟨xf, 0, none⟩) 1 [[.bool full]] R := ⟨hF2⟩
 haveI : MemRows (some ⟨bd, 0, none⟩) 18 [dcs b (b.sl ab cb) b.lasts b.most m] R := ⟨hF3⟩
 refine fn_of Tryz.func81 rfl Tryz.ntmps81 rfl ?_
 refine sy_seq ?_
 refine sy_draw [0, 1, 3, 7, 15, 0, 32, 96, 224, 480, 992, 2047, 4095] (.ld 0 (.tk 1 (.tk 2 (.tk 3 (.ld 4 (.ld 5 (.tk 6 (.tk 7 (.tk 8 (.ld 9 (.tk 10 (.tk 11 (.tk 12 .done))))))))))))) mixed (by kernel_rfl) ?_
 refine ld rfl rfl (lfB (sz := 1) sc65 rfl) rfl ?_
 refine tk rfl (PE.nilCheck rfl) rfl ?_
 refine tk rfl (PE.fieldAddr fo72_0 rfl) rfl ?_
 refine tk rfl (PE.fieldAddr fo27_1 rfl) rfl ?_
 refine ld rfl rfl (lfB (sz := 18) sc3 rfl) rfl ?_
 refine ld rfl rfl (lfB (sz := 1) sc65 rfl) rfl ?_
 refine tk rfl (PE.nilCheck rfl) rfl ?_
 refine tk rfl (PE.fieldAddr fo72_0 rfl) rfl ?_
 refine tk rfl (PE.fieldAddr fo27_3 rfl) rfl ?_
 refine ld rfl rfl (lfB (sz := 18) sc25 rfl) rfl ?_
 refine tk rfl (PE.lenSl isl25 rfl) rfl ?_
 refine tk rfl (PE.min rfl rfl) rfl ?_
 refine tk rfl (PE.assign rfl) rfl ?_
 refine sy_seq ?_
 refine sy_tx' [0, 1, 2, 3, 4, 5, 6, 7] rfl ?_
 refine spL rfl rfl (lfB (sz := 1) sc65 rfl) rfl ?_
 refine sp rfl (PE.nilCheck rfl) rfl ?_
 refine sp rfl (PE.fieldAddr fo72_0 rfl) rfl ?_
 refine sp rfl (PE.fieldAddr fo27_3 rfl) rfl ?_
 refine spL rfl rfl (lfB (sz := 18) sc25 rfl) rfl ?_
 refine sp rfl (PE.lenSl isl25 rfl) rfl ?_
 refine sp rfl (PE.shlN (m := 1) (n := b.bins.length) rfl rfl rfl (by omega) (by have := Nat.pow_le_pow_right (show 0 < 2 by decide) hmn.2; omega)) rfl ?_
 refine sp rfl (PE.move rfl) rfl ?_
 refine sy_block ?_
 have h16 : 2 ^ b.bins.length ≤ 16 := Nat.pow_le_pow_right (show 0 < 2 by decide) hmn.2
 refine sy_loop (ι := {x : Nat × Heap × Facts // x.1 ≤ 2 ^ b.bins.length ∧ I (b.dsk.cnt full x.1) x.2.1 x.2.2}) (fun x => ⟨[(0, yv lp), (1, .pointer (some ⟨xb, 0, none⟩)), (2, .pointer (some ⟨xf, 0, none⟩)), (4, .int .i64 b.dsk.g), (26, .int .i64 ((1 * 2 ^ b.bins.length : Nat) : Int)), (27, .int .i64 x.1.1)], x.1.2.1, x.1.2.2⟩) (fun x => 2 ^ b.bins.length - x.1.1) ⟨(0, H, R), Nat.zero_le _, by rw [Dsk.cnt_zero]; exact h0⟩ ?_ (fun x => ?_)
 exact sy_at (by repeat' first | exact Sub.nil | apply Sub.cons | rfl | (simp [lk]; omega)) (fun _ h => h)
 obtain ⟨⟨i, H0, R0⟩, hi, hI0⟩ := x
 dsimp only at hi hI0 ⊢
 obtain ⟨hF1, hF2, hF3⟩ := hI _ _ _ hI0
 haveI : MemRows (some ⟨xb, 0, none⟩) 1 [[.pointer (some ⟨bd, 0, none⟩)]] R0 := ⟨hF1⟩
 haveI : MemRows (some ⟨xf, 0, none⟩) 1 [[.bool full]] R0 := ⟨hF2⟩
 haveI : MemRows (some ⟨bd, 0, none⟩) 18 [dcs b (b.sl ab cb) b.lasts b.most m] R0 := ⟨hF3⟩
 refine sy_seq ?_
 refine sy_tx' [0] rfl ?_
 refine sp rfl (PE.lss rfl rfl) rfl ?_
 refine sy_seq ?_
 refine sy_cond rfl (fun hc0 => ?_) (fun hc0 => ?_)
 try simp only [decide_eq_true_eq, decide_eq_false_iff_not, Bool.and_eq_true, Bool.or_eq_true, Bool.not_eq_true', Int.not_le, Int.not_lt] at hc0
 have hi2 : i < 2 ^ b.bins.length := by omega
 refine sy_skip ?_
 refine sy_seq ?_
 refine sy_block ?_
 refine sy_seq ?_
 refine sy_tx' [0, 1] rfl ?_
 refine sp rfl (PE.move rfl) rfl ?_
 refine sp rfl (PE.assign rfl) rfl ?_
 refine sy_seq ?_
 refine sy_tx' [0] rfl ?_
 refine sp rfl (PE.assign rfl) rfl ?_
 refine sy_seq ?_
 refine sy_seq ?_
 refine sy_tx' [0, 1, 2, 3, 4, 5, 6] rfl ?_
 refine spL rfl rfl (lfB (sz := 1) sc65 rfl) rfl ?_
 refine sp rfl (PE.nilCheck rfl) rfl ?_
 refine sp rfl (PE.fieldAddr fo72_0 rfl) rfl ?_
 refine sp rfl (PE.fieldAddr fo27_3 rfl) rfl ?_
 refine spL rfl rfl (lfB (sz := 18) sc25 rfl) rfl ?_
 refine sp rfl (PE.lenSl isl25 rfl) rfl ?_
 refine sp rfl (PE.move rfl) rfl ?_
 refine sy_block ?_
 refine sy_loop (ι := (k : {k : Nat // k ≤ b.bins.length}) × OSl 3 1 (irows (il (bitl k.1 i)))) (fun x => ⟨[(0, yv lp), (1, .pointer (some ⟨xb, 0, none⟩)), (2, .pointer (some ⟨xf, 0, none⟩)), (4, .int .i64 b.dsk.g), (26, .int .i64 ((1 * 2 ^ b.bins.length : Nat) : Int)), (27, .int .i64 i), (5, .int .i64 i), (6, x.2.fs), (35, .int .i64 b.bins.length), (36, .int .i64 x.1.1)], x.2.G ++ H0, R0⟩) (fun x => b.bins.length - x.1.1) ⟨⟨0, by omega⟩, OSl.nil _ _⟩ ?_ (fun x => ?_)
 exact sy_at (by repeat' first | exact Sub.nil | apply Sub.cons | rfl | (simp [lk]; omega)) (fun _ h => h)
 obtain ⟨⟨k, hk⟩, o⟩ := x
 dsimp only at hk o ⊢
 refine sy_seq ?_
 refine sy_tx' [0] rfl ?_
 refine sp rfl (PE.lss rfl rfl) rfl ?_
 refine sy_seq ?_
 refine sy_cond rfl (fun hc1 => ?_) (fun hc1 => ?_)
 try simp only [decide_eq_true_eq, decide_eq_false_iff_not, Bool.and_eq_true, Bool.or_eq_true, Bool.not_eq_true', Int.not_le, Int.not_lt] at hc1
 have eb := bitl_succ k i
 refine sy_skip ?_
 refine sy_seq ?_
 refine sy_block ?_
 refine sy_seq ?_
 refine sy_tx' [0, 1] rfl ?_
 refine sp rfl (PE.move rfl) rfl ?_
 refine sp rfl (PE.assign rfl) rfl ?_
 refine sy_seq ?_
 refine sy_tx' [0, 1, 2, 3, 4] rfl ?_
 refine sp rfl (PE.move rfl) rfl ?_
 refine sp rfl (PE.move rfl) rfl ?_
 refine sp rfl (PE.shrN (m := i) (n := k) rfl rfl (by omega)) rfl ?_
 refine sp rfl (PE.andN (m := i >>> k) (n := 1) rfl rfl rfl (Nat.le_trans (Nat.shiftRight_le _ _) (by omega)) (by decide)) rfl ?_
 refine sp rfl (PE.eql rfl rfl) rfl ?_
 refine sy_cond rfl (fun hc2 => ?_) (fun hc2 => ?_)
 rw [bit_one] at hc2
 rw [hc2, cond_true] at eb
 refine sy_tx' [0, 1, 2, 3, 4] rfl ?_
 refine sp rfl (PE.move rfl) rfl ?_
 refine sp rfl (PE.move rfl) rfl ?_
 refine bsl (out := [_]) rfl sl22 zl3 rfl rfl rfl rfl rfl rfl (fun b46 => ?_)
 refine apO (o) rfl ap22 rfl rfl (rowsH (row := [.int .i64 k]) rfl) rfl rfl ((by have := bitl_len k i; simp only [irows, il, List.length_map, List.length_singleton]; omega)) rfl (fun o47 => ?_)
 refine sp rfl (PE.assign rfl) rfl ?_
 refine sy_tx' [0, 1] rfl ?_
 refine sp rfl (PE.add rfl rfl (by omega)) rfl ?_
 refine sp rfl (PE.move rfl) rfl ?_
 first
   | exact sy_next ⟨⟨k + 1, by omega⟩, o47.cast (by rw [eb]; simp [irows, il])⟩ (by dsimp only; omega) (by repeat' first | exact Sub.nil | apply Sub.cons | rfl | (simp [lk]; omega)) (fun w h => h.del b46)
   | exact sy_next ⟨⟨k + 1, by omega⟩, o.cast (by rw [eb])⟩ (by dsimp only; omega) (by repeat' first | exact Sub.nil | apply Sub.cons | rfl | (simp [lk]; omega)) (fun _ h => h)
 rw [bit_one] at hc2
 rw [hc2, cond_false, List.append_nil] at eb
 refine sy_skip ?_
 refine sy_tx' [0, 1] rfl ?_
 refine sp rfl (PE.add rfl rfl (by omega)) rfl ?_
 refine sp rfl (PE.move rfl) rfl ?_
 first
   | exact sy_next ⟨⟨k + 1, by omega⟩, o47.cast (by rw [eb]; simp [irows, il])⟩ (by dsimp only; omega) (by repeat' first | exact Sub.nil | apply Sub.cons | rfl | (simp [lk]; omega)) (fun w h => h.del b46)
   | exact sy_next ⟨⟨k + 1, by omega⟩, o.cast (by rw [eb])⟩ (by dsimp only; omega) (by repeat' first | exact Sub.nil | apply Sub.cons | rfl | (simp [lk]; omega)) (fun _ h => h)
 try simp only [decide_eq_true_eq, decide_eq_false_iff_not, Bool.and_eq_true, Bool.or_eq_true, Bool.not_eq_true', Int.not_le, Int.not_lt] at hc1
 obtain rfl : k = b.bins.length := by omega
 obtain ⟨al, cl, he, hf⟩ := o.freeze
 rw [he]
 refine Sy.heap (fun w h => hf h) ?_
 clear he hf
 rw [show (irows (il (bitl b.bins.length i))).length = (bitl b.bins.length i).length from by simp [irows, il]]
 have hbl := bitl_len b.bins.length i
 refine sy_exit ?_
 repeat refine sy_tx ?_
 refine sy_bx ?_
 refine sy_seq ?_
 refine sy_seq ?_
 refine sy_tx' [0, 1, 2, 3, 4, 5, 6, 7, 8, 9, 10, 11, 12] rfl ?_
 refine sp rfl (PE.move rfl) rfl ?_
 refine sp rfl (PE.lenSl isl22 rfl) rfl ?_
 refine sp rfl (PE.move rfl) rfl ?_
 refine sp rfl (PE.gtr rfl rfl) rfl ?_
 refine sp rfl (PE.move rfl) rfl ?_
 refine sy_case (t := 53) rfl (fun g53 => ?_) (fun g53 => ?_)
 try simp only [decide_eq_true_eq, decide_eq_false_iff_not, Bool.and_eq_true, Bool.or_eq_true, Bool.not_eq_true', Int.not_le, Int.not_lt] at g53
 have hmy : b.dsk.may full (bitl b.dsk.n i) = false := by unfold Dsk.may; rw [decide_eq_true (show b.dsk.g < ((bitl b.dsk.n i).length : Int) from g53)]; rfl
 have hcn := b.dsk.cnt_no (full := full) hi2 hmy
 repeat refine spN rfl rfl rfl rfl rfl rfl rfl rfl ?_
 repeat refine spU rfl rfl rfl rfl rfl rfl rfl ?_
 refine spN rfl rfl rfl rfl rfl rfl rfl rfl ?_
 refine sp rfl (PE.pick rfl rfl rfl) rfl ?_
 refine sy_condT rfl ?_
 refine sy_exit ?_
 refine sy_tx ?_
 refine sy_bx ?_
 refine sy_tx' [0, 1] rfl ?_
 refine sp rfl (PE.add rfl rfl (by omega)) rfl ?_
 refine sp rfl (PE.move rfl) rfl ?_
 first | exact sy_next ⟨(i + 1, H3, R3), by dsimp only; omega, by dsimp only; rw [hcn]; exact hI3⟩ (by dsimp only; omega) (by repeat' first | exact Sub.nil | apply Sub.cons | rfl | (simp [lk]; omega)) (fun _ h => h) | exact sy_next ⟨(i + 1, H0, R0), by dsimp only; omega, by dsimp only; rw [hcn]; exact hI0⟩ (by dsimp only; omega) (by repeat' first | exact Sub.nil | apply Sub.cons | rfl | (simp [lk]; omega)) (fun w h => h.ftail)
 try simp only [decide_eq_true_eq, decide_eq_false_iff_not, Bool.and_eq_true, Bool.or_eq_true, Bool.not_eq_true', Int.not_le, Int.not_lt] at g53
 refine spLG rfl rfl rfl rfl rfl (lfB (sz := 1) sc4 rfl) rfl ?_
 refine spG rfl rfl rfl rfl (PE.move rfl) rfl ?_
 refine sy_case (t := 55) rfl (fun g55 => ?_) (fun g55 => ?_)
 refine spG rfl rfl rfl rfl (PE.move rfl) rfl ?_
 refine spG rfl rfl rfl rfl (PE.lenSl isl22 rfl) rfl ?_
 refine spG rfl rfl rfl rfl (PE.move rfl) rfl ?_
 refine spG rfl rfl rfl rfl (PE.lss rfl rfl) rfl ?_
 refine spG rfl rfl rfl rfl (PE.pick rfl rfl rfl) rfl ?_
 refine sp rfl (PE.pick rfl rfl rfl) rfl ?_
 refine sy_cond rfl (fun hc3 => ?_) (fun hc3 => ?_)
 try simp only [decide_eq_true_eq, decide_eq_false_iff_not, Bool.and_eq_true, Bool.or_eq_true, Bool.not_eq_true', Int.not_le, Int.not_lt] at hc3
 have hmy : b.dsk.may full (bitl b.dsk.n i) = false := by unfold Dsk.may; rw [decide_eq_false (show ¬ b.dsk.g < ((bitl b.dsk.n i).length : Int) from Int.not_lt.2 g53), g55, decide_eq_true (show ((bitl b.dsk.n i).length : Int) < b.dsk.g from hc3)]; rfl
 have hcn := b.dsk.cnt_no (full := full) hi2 hmy
 refine sy_exit ?_
 refine sy_tx ?_
 refine sy_bx ?_
 refine sy_tx' [0, 1] rfl ?_
 refine sp rfl (PE.add rfl rfl (by omega)) rfl ?_
 refine sp rfl (PE.move rfl) rfl ?_
 first | exact sy_next ⟨(i + 1, H3, R3), by dsimp only; omega, by dsimp only; rw [hcn]; exact hI3⟩ (by dsimp only; omega) (by repeat' first | exact Sub.nil | apply Sub.cons | rfl | (simp [lk]; omega)) (fun _ h => h) | exact sy_next ⟨(i + 1, H0, R0), by dsimp only; omega, by dsimp only; rw [hcn]; exact hI0⟩ (by dsimp only; omega) (by repeat' first | exact Sub.nil | apply Sub.cons | rfl | (simp [lk]; omega)) (fun w h => h.ftail)
 try simp only [decide_eq_true_eq, decide_eq_false_iff_not, Bool.and_eq_true, Bool.or_eq_true, Bool.not_eq_true', Int.not_le, Int.not_lt] at hc3
 have hmy : b.dsk.may full (bitl b.dsk.n i) = true := by unfold Dsk.may; rw [decide_eq_false (show ¬ b.dsk.g < ((bitl b.dsk.n i).length : Int) from Int.not_lt.2 g53), g55, decide_eq_false (show ¬ ((bitl b.dsk.n i).length : Int) < b.dsk.g from Int.not_lt.2 hc3)]; rfl
 obtain ⟨hcn, htr⟩ := b.dsk.cnt_yes (full := full) hi2 hmy
 refine sy_skip ?_
 refine sy_seq ?_
 refine sy_tx' [0, 1, 2, 3] rfl ?_
 refine sp rfl (PE.move rfl) rfl ?_
 refine sp rfl (PE.move rfl) rfl ?_
 refine clY rfl rfl rfl rfl (hy _ _ al cl _ _ htr hI0) ?_
 rintro v H3 R3 (⟨rfl, hI3⟩ | ⟨rfl, hE3⟩)
 refine sp rfl (PE.not rfl) rfl ?_
 refine sy_condF rfl ?_
 refine sy_skip ?_
 refine sy_tx' [0, 1] rfl ?_
 refine sp rfl (PE.add rfl rfl (by omega)) rfl ?_
 refine sp rfl (PE.move rfl) rfl ?_
 first | exact sy_next ⟨(i + 1, H3, R3), by dsimp only; omega, by dsimp only; rw [hcn]; exact hI3⟩ (by dsimp only; omega) (by repeat' first | exact Sub.nil | apply Sub.cons | rfl | (simp [lk]; omega)) (fun _ h => h) | exact sy_next ⟨(i + 1, H0, R0), by dsimp only; omega, by dsimp only; rw [hcn]; exact hI0⟩ (by dsimp only; omega) (by repeat' first | exact Sub.nil | apply Sub.cons | rfl | (simp [lk]; omega)) (fun w h => h.ftail)
 refine sp rfl (PE.not rfl) rfl ?_
 refine sy_condT rfl ?_
 refine sy_ret ?_
 exact sy_return (vs := []) rfl .nil rfl (.inr hE3) (fun _ h => h)
 try simp only [decide_eq_true_eq, decide_eq_false_iff_not, Bool.and_eq_true, Bool.or_eq_true, Bool.not_eq_true', Int.not_le, Int.not_lt] at g55
 have hmy : b.dsk.may full (bitl b.dsk.n i) = true := by unfold Dsk.may; rw [decide_eq_false (show ¬ b.dsk.g < ((bitl b.dsk.n i).length : Int) from Int.not_lt.2 g53), g55]; rfl
 obtain ⟨hcn, htr⟩ := b.dsk.cnt_yes (full := full) hi2 hmy
 repeat refine spN rfl rfl rfl rfl rfl rfl rfl rfl ?_
 refine spG rfl rfl rfl rfl (PE.pick rfl rfl rfl) rfl ?_
 refine sp rfl (PE.pick rfl rfl rfl) rfl ?_
 refine sy_condF rfl ?_
 refine sy_skip ?_
 refine sy_seq ?_
 refine sy_tx' [0, 1, 2, 3] rfl ?_
 refine sp rfl (PE.move rfl) rfl ?_
 refine sp rfl (PE.move rfl) rfl ?_
 refine clY rfl rfl rfl rfl (hy _ _ al cl _ _ htr hI0) ?_
 rintro v H3 R3 (⟨rfl, hI3⟩ | ⟨rfl, hE3⟩)
 refine sp rfl (PE.not rfl) rfl ?_
 refine sy_condF rfl ?_
 refine sy_skip ?_
 refine sy_tx' [0, 1] rfl ?_
 refine sp rfl (PE.add rfl rfl (by omega)) rfl ?_
 refine sp rfl (PE.move rfl) rfl ?_
 first | exact sy_next ⟨(i + 1, H3, R3), by dsimp only; omega, by dsimp only; rw [hcn]; exact hI3⟩ (by dsimp only; omega) (by repeat' first | exact Sub.nil | apply Sub.cons | rfl | (simp [lk]; omega)) (fun _ h => h) | exact sy_next ⟨(i + 1, H0, R0), by dsimp only; omega, by dsimp only; rw [hcn]; exact hI0⟩ (by dsimp only; omega) (by repeat' first | exact Sub.nil | apply Sub.cons | rfl | (simp [lk]; omega)) (fun w h => h.ftail)
 refine sp rfl (PE.not rfl) rfl ?_
 refine sy_condT rfl ?_
 refine sy_ret ?_
 exact sy_return (vs := []) rfl .nil rfl (.inr hE3) (fun _ h => h)
 try simp only [decide_eq_true_eq, decide_eq_false_iff_not, Bool.and_eq_true, Bool.or_eq_true, Bool.not_eq_true', Int.not_le, Int.not_lt] at hc0
 obtain rfl : i = 2 ^ b.bins.length := by omega
 have hce : b.dsk.cnt full (2 ^ b.bins.length) = (b.dsk.trs full).length := b.dsk.cnt_end full
 refine sy_exit ?_
 repeat refine sy_tx ?_
 refine sy_bx ?_
 exact sy_fall (vs := []) rfl .nil rfl (.inl (hce ▸ hI0)) (fun _ h => h)
theorem c_states1 (b : Barn) (hok : b.ok) (ab : Option Addr) (cb bd m : Nat) (xb lp : Nat) (I : Nat → Heap → Facts → Prop) (E : Heap → Facts → Prop) (hI : ∀ k H R, I k H R → RowsA (some ⟨xb, 0, none⟩) 1 [[.pointer (some ⟨bd, 0, none⟩)]] ∈ R ∧ RowsA (some ⟨bd, 0, none⟩) 18 [dcs b (b.sl ab cb) b.lasts b.most m] ∈ R)
    (hy : ∀ k s q o H R, b.dsk.sts[k]? = some s → I k H R → Yd Tryz.prog lp [stv s] ((q, o) :: H) R (fun v H' R' => (v = .bool true ∧ ∃ H2, H' = (q, o) :: H2 ∧ I (k + 1) H2 R') ∨ (v = .bool false ∧ ∃ H2, H' = (q, o) :: H2 ∧ E H2 R'))) (H : Heap) (R : Facts) (h0 : I 0 H R) :
    Fn Tryz.prog 123 [yv lp, .pointer (some ⟨xb, 0, none⟩)] H R (fun _ H' R' => I b.dsk.nst H' R' ∨ E H' R') := by
 have hmn := hok.many
 have hdk := b.dsk_ok hok
 have hl4 := hdk.lasts.len
 have hm4 := hdk.most.len
 obtain ⟨hF1, hF3⟩ := hI _ _ _ h0
 haveI : MemRows (some ⟨xb, 0, none⟩) 1 [[.pointer (some ⟨bd, 0, none⟩)]] R := ⟨hF1⟩
 haveI : MemRows (some ⟨bd, 0, none⟩) 18 [dcs b (b.sl ab cb) b.lasts b.most m] R := ⟨hF3⟩
 refine fn_of Tryz.func123 rfl Tryz.ntmps123 rfl ?_
 refine sy_seq ?_
 refine sy_tx' [0, 1, 2] rfl ?_
 refine sp rfl (PE.zero (.inr (by rw [ar69]; rfl)) zl69) rfl ?_
 refine alc rfl zl69 rfl (fun b3 => ?_)
 refine sto rfl rfl rfl cn69 rfl rfl rfl rfl ?_
 refine sy_seq ?_
 refine sy_seq ?_
 refine sy_tx' [0, 1, 2, 3, 4, 5, 6] rfl ?_
 refine spL rfl rfl (lfB (sz := 1) sc65 rfl) rfl ?_
 refine sp rfl (PE.nilCheck rfl) rfl ?_
 refine sp rfl (PE.fieldAddr fo72_0 rfl) rfl ?_
 refine sp rfl (PE.fieldAddr fo27_3 rfl) rfl ?_
 refine spL rfl rfl (lfB (sz := 18) sc25 rfl) rfl ?_
 refine sp rfl (PE.lenSl isl25 rfl) rfl ?_
 refine sp rfl (PE.move rfl) rfl ?_
 refine sy_block ?_
 refine sy_loop (ι := {k : Nat // k ≤ b.bins.length}) (fun k => ⟨[(0, yv lp), (1, .pointer (some ⟨xb, 0, none⟩)), (3, .pointer (some ⟨b3, 0, none⟩)), (12, .int .i64 b.bins.length), (13, .int .i64 k.1)], (b3, cel 69 (ints (zst b.dsk k.1))) :: H, R⟩) (fun k => b.bins.length - k.1) ⟨0, by omega⟩ ?_ (fun k => ?_)
 exact sy_at (by repeat' first | exact Sub.nil | apply Sub.cons | rfl | (simp [lk]; omega)) (fun _ h => h)
 obtain ⟨k, hk⟩ := k
 dsimp only at hk ⊢
 refine sy_seq ?_
 refine sy_tx' [0] rfl ?_
 refine sp rfl (PE.lss rfl rfl) rfl ?_
 refine sy_seq ?_
 refine sy_cond rfl (fun hc0 => ?_) (fun hc0 => ?_)
 try simp only [decide_eq_true_eq, decide_eq_false_iff_not, Bool.and_eq_true, Bool.or_eq_true, Bool.not_eq_true', Int.not_le, Int.not_lt] at hc0
 refine sy_skip ?_
 refine sy_seq ?_
 refine sy_block ?_
 refine sy_seq ?_
 refine sy_tx' [0, 1] rfl ?_
 refine sp rfl (PE.move rfl) rfl ?_
 refine sp rfl (PE.assign rfl) rfl ?_
 refine sy_seq ?_
 refine sy_tx' [0, 1, 2, 3, 4, 5, 6] rfl ?_
 refine spL rfl rfl (lfB (sz := 1) sc65 rfl) rfl ?_
 refine sp rfl (PE.move rfl) rfl ?_
 refine sp rfl (PE.nilCheck rfl) rfl ?_
 refine sp rfl (PE.fieldAddr fo72_2 rfl) rfl ?_
 refine sp rfl (PE.indexArr ar69 rfl rfl (by omega) (by omega)) rfl ?_
 refine spL rfl rfl (lfB (sz := 18) (x := .int .i64 (na b.most k)) sc3 (dcs_most (k := k) hl4 hm4 (by omega) (by show 0 + 13 + ((k : Nat) : Int).toNat * 1 = _; omega))) rfl ?_
 refine sp rfl (PE.eql rfl rfl) rfl ?_
 refine sy_cond rfl (fun hc1 => ?_) (fun hc1 => ?_)
 try simp only [decide_eq_true_eq, decide_eq_false_iff_not, Bool.and_eq_true, Bool.or_eq_true, Bool.not_eq_true', Int.not_le, Int.not_lt] at hc1
 refine sy_tx' [0, 1, 2] rfl ?_
 refine sp rfl (PE.move rfl) rfl ?_
 refine sp rfl (PE.indexArr ar69 rfl rfl (by omega) (by omega)) rfl ?_
 refine stoE (l' := ints (zst b.dsk (k + 1))) rfl rfl rfl cn3 rfl rfl rfl ((st_put (k := k) (zst_len _ _) (by omega) (by show 0 + ((k : Nat) : Int).toNat * 1 = k; omega)).trans (by rw [zst_yes (d := b.dsk) (k := k) (by omega) hc1])) (by rw [ints_length, zst_len]; show 0 + ((k : Nat) : Int).toNat * 1 + 1 ≤ 4; omega) ?_
 refine sy_tx' [0, 1] rfl ?_
 refine sp rfl (PE.add rfl rfl (by omega)) rfl ?_
 refine sp rfl (PE.move rfl) rfl ?_
 first
   | exact sy_next ⟨k + 1, by omega⟩ (by dsimp only; omega) (by repeat' first | exact Sub.nil | apply Sub.cons | rfl | (simp [lk]; omega)) (fun w h => by dsimp only; rw [← zst_no (d := b.dsk) (k := k) hc1]; exact h)
   | exact sy_next ⟨k + 1, by omega⟩ (by dsimp only; omega) (by repeat' first | exact Sub.nil | apply Sub.cons | rfl | (simp [lk]; omega)) (fun _ h => h)
 try simp only [decide_eq_true_eq, decide_eq_false_iff_not, Bool.and_eq_true, Bool.or_eq_true, Bool.not_eq_true', Int.not_le, Int.not_lt] at hc1
 refine sy_skip ?_
 refine sy_tx' [0, 1] rfl ?_
 refine sp rfl (PE.add rfl rfl (by omega)) rfl ?_
 refine sp rfl (PE.move rfl) rfl ?_
 first
   | exact sy_next ⟨k + 1, by omega⟩ (by dsimp only; omega) (by repeat' first | exact Sub.nil | apply Sub.cons | rfl | (simp [lk]; omega)) (fun w h => by dsimp only; rw [← zst_no (d := b.dsk) (k := k) hc1]; exact h)
   | exact sy_next ⟨k + 1, by omega⟩ (by dsimp only; omega) (by repeat' first | exact Sub.nil | apply Sub.cons | rfl | (simp [lk]; omega)) (fun _ h => h)
 try simp only [decide_eq_true_eq, decide_eq_false_iff_not, Bool.and_eq_true, Bool.or_eq_true, Bool.not_eq_true', Int.not_le, Int.not_lt] at hc0
 obtain rfl : k = b.bins.length := by omega
 rw [show zst b.dsk b.bins.length = b.dsk.sat 0 from zst_sat hdk]
 refine sy_exit ?_
 repeat refine sy_tx ?_
 refine sy_bx ?_
 refine sy_block ?_
 refine sy_loop (ι := {x : Nat × Heap × Facts // x.1 < b.dsk.nst ∧ I x.1 x.2.1 x.2.2}) (fun x => ⟨[(0, yv lp), (1, .pointer (some ⟨xb, 0, none⟩)), (3, .pointer (some ⟨b3, 0, none⟩))], (b3, cel 69 (ints (b.dsk.sat x.1.1))) :: x.1.2.1, x.1.2.2⟩) (fun x => b.dsk.nst - x.1.1) ⟨(0, H, R), (b.dsk.nst_le hdk).1, h0⟩ ?_ (fun x => ?_)
 exact sy_at (by repeat' first | exact Sub.nil | apply Sub.cons | rfl | (simp [lk]; omega)) (fun _ h => h)
 obtain ⟨⟨i, H0, R0⟩, hi, hI0⟩ := x
 dsimp only at hi hI0 ⊢
 have hs := b.dsk.sat_sml hdk i
 refine sy_block ?_
 refine sy_seq ?_
 refine sy_seq ?_
 refine sy_tx' [0, 1, 2, 3] rfl ?_
 refine sp rfl (PE.move rfl) rfl ?_
 refine spL rfl rfl (lhA (rest := []) (ints (b.dsk.sat i)) ag69 rfl (by rw [List.append_nil]; rfl) (by rw [ints_length]; exact hs.len)) rfl ?_
 refine clY rfl rfl rfl rfl (hy _ _ b3 _ _ _ (b.dsk.sts_get hi) hI0) ?_
 rintro v H3 R3 (⟨rfl, H2, rfl, hI3⟩ | ⟨rfl, H2, rfl, hE3⟩)
 refine sp rfl (PE.not rfl) rfl ?_
 refine sy_condF rfl ?_
 refine sy_skip ?_
 refine sy_seq ?_
 refine sy_tx' [0] rfl ?_
 refine sp rfl (PE.assign rfl) rfl ?_
 refine sy_seq ?_
 refine sy_block ?_
 obtain ⟨hF1, hF3⟩ := hI _ _ _ hI3
 haveI : MemRows (some ⟨xb, 0, none⟩) 1 [[.pointer (some ⟨bd, 0, none⟩)]] R3 := ⟨hF1⟩
 haveI : MemRows (some ⟨bd, 0, none⟩) 18 [dcs b (b.sl ab cb) b.lasts b.most m] R3 := ⟨hF3⟩
 refine sy_loop (ι := {a : Nat // a ≤ b.bins.length ∧ ∀ j < a, na (b.dsk.sat i) j = na b.most j}) (fun a => ⟨[(0, yv lp), (1, .pointer (some ⟨xb, 0, none⟩)), (3, .pointer (some ⟨b3, 0, none⟩)), (5, .int .i64 a.1)], (b3, cel 69 (ints (rsz (b.dsk.sat i) a.1))) :: H2, R3⟩) (fun a => b.bins.length - a.1) ⟨0, by omega, by omega⟩ ?_ (fun a => ?_)
 exact sy_at (by repeat' first | exact Sub.nil | apply Sub.cons | rfl | (simp [lk]; omega)) (fun w h => by dsimp only; rw [rsz_zero hs.len]; exact h)
 obtain ⟨a, ha, hat⟩ := a
 dsimp only at ha hat ⊢
 refine sy_seq ?_
 refine sy_seq ?_
 refine sy_draw [0, 0, 2, 6, 14, 30, 62, 127, 255, 511, 1023, 2047, 511, 511, 4607, 20991, 61951, 127487, 262143, 524287] (.tk 0 (.ld 1 (.tk 2 (.tk 3 (.tk 4 (.ld 5 (.tk 6 (.tk 7 (.tk 8 (.tk 9 (.tk 10 (.ld 11 (.ld 12 (.tk 13 (.tk 14 (.tk 15 (.tk 16 (.ld 17 (.tk 18 (.tk 19 .done)))))))))))))))))))) mixed (by kernel_rfl) ?_
 refine tk rfl (PE.move rfl) rfl ?_
 refine ld rfl rfl (lfB (sz := 1) sc65 rfl) rfl ?_
 refine tk rfl (PE.nilCheck rfl) rfl ?_
 refine tk rfl (PE.fieldAddr fo72_0 rfl) rfl ?_
 refine tk rfl (PE.fieldAddr fo27_3 rfl) rfl ?_
 refine ld rfl rfl (lfB (sz := 18) sc25 rfl) rfl ?_
 refine tk rfl (PE.lenSl isl25 rfl) rfl ?_
 refine tk rfl (PE.lss rfl rfl) rfl ?_
 refine tk rfl (PE.move rfl) rfl ?_
 refine sy_case (t := 38) rfl (fun g38 => ?_) (fun g38 => ?_)
 simp only [decide_eq_true_eq] at g38
 have hra : na (rsz (b.dsk.sat i) a) a = na (b.dsk.sat i) a := by rw [rsz_at (by omega), decide_eq_false (Nat.lt_irrefl a)]; rfl
 refine tkG rfl rfl rfl rfl (PE.move rfl) rfl ?_
 refine tkG rfl rfl rfl rfl (PE.indexArr ar69 rfl rfl (by omega) (by omega)) rfl ?_
 refine ldG rfl rfl rfl rfl rfl (lh sc3 rfl (st_at (k := a) (rsz_len _ _) (by omega) (by show 0 + ((a : Nat) : Int).toNat * 1 = _; omega))) rfl ?_
 refine ldG rfl rfl rfl rfl rfl (lfB (sz := 1) sc65 rfl) rfl ?_
 refine tkG rfl rfl rfl rfl (PE.move rfl) rfl ?_
 refine tkG rfl rfl rfl rfl (PE.nilCheck rfl) rfl ?_
 refine tkG rfl rfl rfl rfl (PE.fieldAddr fo72_2 rfl) rfl ?_
 refine tkG rfl rfl rfl rfl (PE.indexArr ar69 rfl rfl (by omega) (by omega)) rfl ?_
 refine ldG rfl rfl rfl rfl rfl (lfB (sz := 18) (x := .int .i64 (na b.most a)) sc3 (dcs_most (k := a) hl4 hm4 (by omega) (by show 0 + 13 + ((a : Nat) : Int).toNat * 1 = _; omega))) rfl ?_
 refine tkG rfl rfl rfl rfl (PE.eql rfl rfl) rfl ?_
 refine tk rfl (PE.pick rfl rfl rfl) rfl ?_
 refine sy_cond rfl (fun hc3 => ?_) (fun hc3 => ?_)
 try simp only [decide_eq_true_eq, decide_eq_false_iff_not, Bool.and_eq_true, Bool.or_eq_true, Bool.not_eq_true', Int.not_le, Int.not_lt] at hc3
 refine sy_skip ?_
 refine sy_block ?_
 refine sy_seq ?_
 refine sy_seq ?_
 refine sy_tx' [0, 1, 2, 3] rfl ?_
 refine sp rfl (PE.move rfl) rfl ?_
 refine sp rfl (PE.indexArr ar69 rfl rfl (by omega) (by omega)) rfl ?_
 refine spL rfl rfl (lh sc3 rfl (st_at (k := a) (rsz_len _ _) (by omega) (by show 0 + ((a : Nat) : Int).toNat * 1 = _; omega))) rfl ?_
 refine sp rfl (PE.neq rfl rfl) rfl ?_
 refine sy_cond rfl (fun hc4 => ?_) (fun hc4 => ?_)
 try simp only [decide_eq_true_eq, decide_eq_false_iff_not, Bool.and_eq_true, Bool.or_eq_true, Bool.not_eq_true', Int.not_le, Int.not_lt] at hc4
 have hat2 : ∀ j < a + 1, na (b.dsk.sat i) j = na b.most j := fun j hj => by
   rcases Nat.lt_or_ge j a with h1 | h1
   · exact hat j h1
   · obtain rfl : j = a := by omega
     rw [← hra]; exact hc3
 refine sy_tx' [0, 1, 2] rfl ?_
 refine sp rfl (PE.move rfl) rfl ?_
 refine sp rfl (PE.indexArr ar69 rfl rfl (by omega) (by omega)) rfl ?_
 refine stoE (l' := ints (rsz (b.dsk.sat i) (a + 1))) rfl rfl rfl cn3 rfl rfl rfl ((st_put (k := a) (rsz_len _ _) (by omega) (by show 0 + ((a : Nat) : Int).toNat * 1 = a; omega)).trans (by rw [rsz_set (by omega) (by rw [← hra]; exact hc4)])) (by rw [ints_length, rsz_len]; show 0 + ((a : Nat) : Int).toNat * 1 + 1 ≤ 4; omega) ?_
 refine sy_tx' [0, 1, 2] rfl ?_
 refine sp rfl (PE.move rfl) rfl ?_
 refine sp rfl (PE.add rfl rfl (by omega)) rfl ?_
 refine sp rfl (PE.assign rfl) rfl ?_
 exact sy_next ⟨a + 1, by omega, hat2⟩ (by dsimp only; omega) (by repeat' first | exact Sub.nil | apply Sub.cons | rfl | (simp [lk]; omega)) (fun _ h => h)
 try simp only [decide_eq_true_eq, decide_eq_false_iff_not, Bool.and_eq_true, Bool.or_eq_true, Bool.not_eq_true', Int.not_le, Int.not_lt] at hc4
 have hat2 : ∀ j < a + 1, na (b.dsk.sat i) j = na b.most j := fun j hj => by
   rcases Nat.lt_or_ge j a with h1 | h1
   · exact hat j h1
   · obtain rfl : j = a := by omega
     rw [← hra]; exact hc3
 have hev : na (b.dsk.sat i) a = 1000000 := by rw [← hra]; omega
 refine sy_skip ?_
 refine sy_tx' [0, 1, 2] rfl ?_
 refine sp rfl (PE.move rfl) rfl ?_
 refine sp rfl (PE.add rfl rfl (by omega)) rfl ?_
 refine sp rfl (PE.assign rfl) rfl ?_
 exact sy_next ⟨a + 1, by omega, hat2⟩ (by dsimp only; omega) (by repeat' first | exact Sub.nil | apply Sub.cons | rfl | (simp [lk]; omega)) (fun w h => by dsimp only; rw [rsz_ever hev]; exact h)
 try simp only [decide_eq_true_eq, decide_eq_false_iff_not, Bool.and_eq_true, Bool.or_eq_true, Bool.not_eq_true', Int.not_le, Int.not_lt] at hc3
 have hne3 : na (b.dsk.sat i) a ≠ na b.most a := by rw [← hra]; exact hc3
 refine sy_exit ?_
 repeat refine sy_tx ?_
 refine sy_bx ?_
 refine sy_seq ?_
 refine sy_seq ?_
 refine sy_tx' [0, 1, 2, 3, 4, 5, 6, 7] rfl ?_
 refine sp rfl (PE.move rfl) rfl ?_
 refine spL rfl rfl (lfB (sz := 1) sc65 rfl) rfl ?_
 refine sp rfl (PE.nilCheck rfl) rfl ?_
 refine sp rfl (PE.fieldAddr fo72_0 rfl) rfl ?_
 refine sp rfl (PE.fieldAddr fo27_3 rfl) rfl ?_
 refine spL rfl rfl (lfB (sz := 18) sc25 rfl) rfl ?_
 refine sp rfl (PE.lenSl isl25 rfl) rfl ?_
 refine sp rfl (PE.eql rfl rfl) rfl ?_
 refine sy_cond rfl (fun hc5 => ?_) (fun hc5 => ?_)
 try simp only [decide_eq_true_eq, decide_eq_false_iff_not, Bool.and_eq_true, Bool.or_eq_true, Bool.not_eq_true', Int.not_le, Int.not_lt] at hc5
 have hae : a = b.bins.length := by omega
 subst hae
 have hlast := b.dsk.sat_last hdk hi hat
 refine sy_ret ?_
 first | exact sy_return (vs := []) rfl .nil rfl (.inr hE3) (fun _ h => h.tail) | exact sy_return (vs := []) rfl .nil rfl (.inl (hlast ▸ hI3)) (fun _ h => h.tail)
 try simp only [decide_eq_true_eq, decide_eq_false_iff_not, Bool.and_eq_true, Bool.or_eq_true, Bool.not_eq_true', Int.not_le, Int.not_lt] at hc5
 have hne : na (b.dsk.sat i) a ≠ na b.most a := by first | exact hne3 | (exfalso; omega)
 refine sy_skip ?_
 refine sy_tx' [0, 1, 2, 3, 4, 5] rfl ?_
 refine sp rfl (PE.move rfl) rfl ?_
 refine sp rfl (PE.indexArr ar69 rfl rfl (by omega) (by omega)) rfl ?_
 refine spL rfl rfl (lh sc3 rfl (st_at (k := a) (rsz_len _ _) (by omega) (by show 0 + ((a : Nat) : Int).toNat * 1 = _; omega))) rfl ?_
 refine sp rfl (PE.add rfl rfl (by have := (b.dsk.sat_sml hdk i).at_ a (by omega); rw [rsz_at (by omega), decide_eq_false (Nat.lt_irrefl a)]; simp only [Bool.false_and, cond_false]; omega)) rfl ?_
 refine sp rfl (PE.indexArr ar69 rfl rfl (by omega) (by omega)) rfl ?_
 refine stoE (l' := ints (b.dsk.sat (i + 1))) rfl rfl rfl cn3 rfl rfl rfl ((st_put (k := a) (rsz_len _ _) (by omega) (by show 0 + ((a : Nat) : Int).toNat * 1 = a; omega)).trans (by rw [show na (rsz (b.dsk.sat i) a) a = na (b.dsk.sat i) a by rw [rsz_at (by omega), decide_eq_false (Nat.lt_irrefl a)]; rfl, b.dsk.sat_next hdk (show a < b.dsk.n by show a < b.bins.length; omega) hat hne])) (by rw [ints_length, rsz_len]; show 0 + ((a : Nat) : Int).toNat * 1 + 1 ≤ 4; omega) ?_
 have hlt : i + 1 < b.dsk.nst := by
   rcases Nat.lt_or_ge (i + 1) b.dsk.nst with h1 | h1
   · exact h1
   · exact absurd (b.dsk.sat_max hdk (show i + 1 = b.dsk.nst by omega) (show a < b.dsk.n by show a < b.bins.length; omega)) hne
 exact sy_next ⟨(i + 1, H2, R3), hlt, hI3⟩ (by dsimp only; omega) (by repeat' first | exact Sub.nil | apply Sub.cons | rfl | (simp [lk]; omega)) (fun _ h => h)
 simp only [decide_eq_false_iff_not] at g38
 repeat refine tkN rfl rfl rfl rfl rfl rfl rfl rfl ?_
 repeat refine ldN rfl rfl rfl rfl rfl rfl rfl rfl ?_
 repeat refine tkN rfl rfl rfl rfl rfl rfl rfl rfl ?_
 refine ldN rfl rfl rfl rfl rfl rfl rfl rfl ?_
 refine tkN rfl rfl rfl rfl rfl rfl rfl rfl ?_
 refine tk rfl (PE.pick rfl rfl rfl) rfl ?_
 refine sy_condF rfl ?_
 refine sy_exit ?_
 repeat refine sy_tx ?_
 refine sy_bx ?_
 refine sy_seq ?_
 refine sy_seq ?_
 refine sy_tx' [0, 1, 2, 3, 4, 5, 6, 7] rfl ?_
 refine sp rfl (PE.move rfl) rfl ?_
 refine spL rfl rfl (lfB (sz := 1) sc65 rfl) rfl ?_
 refine sp rfl (PE.nilCheck rfl) rfl ?_
 refine sp rfl (PE.fieldAddr fo72_0 rfl) rfl ?_
 refine sp rfl (PE.fieldAddr fo27_3 rfl) rfl ?_
 refine spL rfl rfl (lfB (sz := 18) sc25 rfl) rfl ?_
 refine sp rfl (PE.lenSl isl25 rfl) rfl ?_
 refine sp rfl (PE.eql rfl rfl) rfl ?_
 refine sy_cond rfl (fun hc5 => ?_) (fun hc5 => ?_)
 try simp only [decide_eq_true_eq, decide_eq_false_iff_not, Bool.and_eq_true, Bool.or_eq_true, Bool.not_eq_true', Int.not_le, Int.not_lt] at hc5
 have hae : a = b.bins.length := by omega
 subst hae
 have hlast := b.dsk.sat_last hdk hi hat
 refine sy_ret ?_
 first | exact sy_return (vs := []) rfl .nil rfl (.inr hE3) (fun _ h => h.tail) | exact sy_return (vs := []) rfl .nil rfl (.inl (hlast ▸ hI3)) (fun _ h => h.tail)
 try simp only [decide_eq_true_eq, decide_eq_false_iff_not, Bool.and_eq_true, Bool.or_eq_true, Bool.not_eq_true', Int.not_le, Int.not_lt] at hc5
 have hne : na (b.dsk.sat i) a ≠ na b.most a := by first | exact hne3 | (exfalso; omega)
 refine sy_skip ?_
 refine sy_tx' [0, 1, 2, 3, 4, 5] rfl ?_
 refine sp rfl (PE.move rfl) rfl ?_
 refine sp rfl (PE.indexArr ar69 rfl rfl (by omega) (by omega)) rfl ?_
 refine spL rfl rfl (lh sc3 rfl (st_at (k := a) (rsz_len _ _) (by omega) (by show 0 + ((a : Nat) : Int).toNat * 1 = _; omega))) rfl ?_
 refine sp rfl (PE.add rfl rfl (by have := (b.dsk.sat_sml hdk i).at_ a (by omega); rw [rsz_at (by omega), decide_eq_false (Nat.lt_irrefl a)]; simp only [Bool.false_and, cond_false]; omega)) rfl ?_
 refine sp rfl (PE.indexArr ar69 rfl rfl (by omega) (by omega)) rfl ?_
 refine stoE (l' := ints (b.dsk.sat (i + 1))) rfl rfl rfl cn3 rfl rfl rfl ((st_put (k := a) (rsz_len _ _) (by omega) (by show 0 + ((a : Nat) : Int).toNat * 1 = a; omega)).trans (by rw [show na (rsz (b.dsk.sat i) a) a = na (b.dsk.sat i) a by rw [rsz_at (by omega), decide_eq_false (Nat.lt_irrefl a)]; rfl, b.dsk.sat_next hdk (show a < b.dsk.n by show a < b.bins.length; omega) hat hne])) (by rw [ints_length, rsz_len]; show 0 + ((a : Nat) : Int).toNat * 1 + 1 ≤ 4; omega) ?_
 have hlt : i + 1 < b.dsk.nst := by
   rcases Nat.lt_or_ge (i + 1) b.dsk.nst with h1 | h1
   · exact h1
   · exact absurd (b.dsk.sat_max hdk (show i + 1 = b.dsk.nst by omega) (show a < b.dsk.n by show a < b.bins.length; omega)) hne
 exact sy_next ⟨(i + 1, H2, R3), hlt, hI3⟩ (by dsimp only; omega) (by repeat' first | exact Sub.nil | apply Sub.cons | rfl | (simp [lk]; omega)) (fun _ h => h)
 refine sp rfl (PE.not rfl) rfl ?_
 refine sy_condT rfl ?_
 refine sy_ret ?_
 first | exact sy_return (vs := []) rfl .nil rfl (.inr hE3) (fun _ h => h.tail) | exact sy_return (vs := []) rfl .nil rfl (.inl (hlast ▸ hI3)) (fun _ h => h.tail)
end Go.Proofs.YtelegnmfhjfbaaaGreat
namespace Go.Proofs.YtelegnmfhjfbaaaGreat
set_option linter.unusedSimpArgs false
set_option linter.unusedVariables false
open Go
theorem ap75 : apT Tryz.prog 75 = some (69, 4, 32) := by kernel_rfl
theorem cal123 : cal Tryz.prog 123 = true := by kernel_rfl
theorem cal29 : cal Tryz.prog 29 = true := by kernel_rfl
theorem cal30 : cal Tryz.prog 30 = true := by kernel_rfl
theorem cal78 : cal Tryz.prog 78 = true := by kernel_rfl
theorem cal79 : cal Tryz.prog 79 = true := by kernel_rfl
theorem cal81 : cal Tryz.prog 81 = true := by kernel_rfl
theorem cn4 : cellN Tryz.prog 4 = some 1 := by kernel_rfl
theorem cn75 : cellN Tryz.prog 75 = some 1 := by kernel_rfl
theorem el75 : elN Tryz.prog 75 = some 4 := by kernel_rfl
theorem eqf69 : eqB Tryz.prog 10000 69 = some (true, 4) := by kernel_rfl
theorem fo72_3 : fOff Tryz.prog 72 3 = some 17 := by kernel_rfl
theorem isl75 : isSl Tryz.prog 75 = true := by kernel_rfl
theorem mke70 : mapKE Tryz.prog 70 = some (69, 3) := by kernel_rfl
theorem noa69 : noArr Tryz.prog 10000 69 = true := by kernel_rfl
theorem sc70 : scal Tryz.prog 70 = true := by kernel_rfl
theorem sc75 : scal Tryz.prog 75 = true := by kernel_rfl
theorem sl75 : slE Tryz.prog 75 = some (69, 4) := by kernel_rfl
theorem zl4 : zeroL Tryz.prog 4 = some ([.bool false]) := by kernel_rfl
theorem zl75 : zeroL Tryz.prog 75 = some ([.slice none 0 0]) := by kernel_rfl
theorem zv3 : zvl Tryz.prog 3 = some (.int .i64 0) := by kernel_rfl
structure KvOk (d : Dsk) (n : Nat) (kv : KV) : Prop where
  len : ∀ e ∈ kv, e.1.length = 4
  get : ∀ s ∈ d.sts, kv.get s = some (.int .i64 (d.lvl n s))
theorem KV.put_len {kv : KV} {k : List Int} {v : Value} {n : Nat} (hk : k.length = n) (h : ∀ e ∈ kv, e.1.length = n) : ∀ e ∈ kv.put k v, e.1.length = n := fun e he => by
  rcases KV.put_mem he with rfl | h1
  · exact hk
  · exact h e h1
def Dsk.hit (d : Dsk) (A : List HSt) (s : HSt) (l : List Nat) : Bool := match d.next s l with
  | some t => A.contains t
  | none => false
theorem any_of {α : Type} {L : List α} {p : α → Bool} {k : Nat} {x : α} (h : L[k]? = some x) (hp : p x = true) : L.any p = true := List.any_eq_true.2 ⟨x, List.mem_of_getElem? h, hp⟩
theorem any_no {α : Type} {L : List α} {p : α → Bool} (h : ∀ i x, i < L.length → L[i]? = some x → p x = false) : L.any p = false := List.any_eq_false.2 fun x hx => by
  obtain ⟨i, hi⟩ := List.getElem?_of_mem hx
  simp [h i x (List.getElem?_eq_some_iff.1 hi).1 hi]
theorem no_more {α : Type} {L : List α} {p : α → Bool} {k : Nat} {x : α} (hk : L[k]? = some x) (hn : ∀ i y, i < k → L[i]? = some y → p y = false) (h : p x = false) : ∀ i y, i < k + 1 → L[i]? = some y → p y = false := fun i y hi hy => by
  rcases Nat.lt_or_ge i k with h1 | h1
  · exact hn i y h1 hy
  · obtain rfl : i = k := by omega
    rw [hk] at hy; cases hy; exact h
theorem c_helped (b : Barn) (hok : b.ok) (ab : Option Addr) (cb bd m : Nat) (n : Nat) (hn : n ≤ 100000) (kv : KV) (hkv : KvOk b.dsk n kv) (s : HSt) (hs : s ∈ b.dsk.sts) (H : Heap) (R : Facts) [hD : MemRows (some ⟨bd, 0, none⟩) 18 [dcs b (b.sl ab cb) b.lasts b.most m] R] [hM : Mem1 m (mapO true kv) H] :
    FnV Tryz.prog 79 [.pointer (some ⟨bd, 0, none⟩), stv s] H R (.bool (b.dsk.helped (b.dsk.alive n) s)) := by
 refine fnM_of Tryz.func79 rfl Tryz.ntmps79 rfl ?_
 refine sy_seq ?_
 refine sy_tx' [0, 1, 2] rfl ?_
 refine bx rfl rfl rfl (fun b2 => ?_)
 refine bx rfl rfl rfl (fun b3 => ?_)
 refine alc rfl zl4 rfl (fun b4 => ?_)
 refine sy_seq ?_
 refine sy_seq ?_
 refine sy_tx' [0, 1] rfl ?_
 refine spL rfl rfl (lh sc65 rfl rfl) rfl ?_
 refine cl rfl cal29 rfl rfl (c_turnings bd true _ _) ?_
 rintro _ _ _ ⟨xb, xf, rfl, rfl, rfl⟩
 have hdk := b.dsk_ok hok
 have hsi := (b.dsk.mem_sts hdk s).1 hs
 have hsm := b.dsk.inS_sml hdk hsi
 have hl4 := hdk.lasts.len
 have hm4 := hdk.most.len
 refine sy_pull b2 ?_
 refine sy_pull b3 ?_
 refine sy_pull b4 ?_
 refine sy_block ?_
 refine sy_range rfl cal81 (fun c0 bl0 bd0 hcp0 hca0 hcb0 hck0 => ?_)
 refine ⟨fun st pend T R' => (st = .ready ∧ pend = none ∧ b.dsk.helped (b.dsk.alive n) s = false ∧ T = (bd0, .deferred (some [])) :: (b4, cel 4 [.bool false]) :: (b3, cel 69 (ints s)) :: (b2, cel 65 [.pointer (some ⟨bd, 0, none⟩)]) :: H ∧ R' = RowsA (some ⟨xf, 0, none⟩) 1 [[.bool true]] :: RowsA (some ⟨xb, 0, none⟩) 1 [[.pointer (some ⟨bd, 0, none⟩)]] :: R) ∨
     (st = .done ∧ pend = some .ret ∧ b.dsk.helped (b.dsk.alive n) s = true ∧ T = (bd0, .deferred (some [])) :: (b4, cel 4 [.bool true]) :: (b3, cel 69 (ints s)) :: (b2, cel 65 [.pointer (some ⟨bd, 0, none⟩)]) :: H ∧ R' = RowsA (some ⟨xf, 0, none⟩) 1 [[.bool true]] :: RowsA (some ⟨xb, 0, none⟩) 1 [[.pointer (some ⟨bd, 0, none⟩)]] :: R),
   Fn.mono (c_turnings1 b hok ab cb bd m true xb xf bl0 (fun k H' R' => (∀ i l, i < k → (b.dsk.trs true)[i]? = some l → b.dsk.hit (b.dsk.alive n) s l = false) ∧ H' = (bl0, lob c0 .ready none) :: (bd0, .deferred (some [])) :: (b4, cel 4 [.bool false]) :: (b3, cel 69 (ints s)) :: (b2, cel 65 [.pointer (some ⟨bd, 0, none⟩)]) :: H ∧ R' = RowsA (some ⟨xf, 0, none⟩) 1 [[.bool true]] :: RowsA (some ⟨xb, 0, none⟩) 1 [[.pointer (some ⟨bd, 0, none⟩)]] :: R)
     (fun H' R' => b.dsk.helped (b.dsk.alive n) s = true ∧ H' = (bl0, lob c0 .done (some .ret)) :: (bd0, .deferred (some [])) :: (b4, cel 4 [.bool true]) :: (b3, cel 69 (ints s)) :: (b2, cel 65 [.pointer (some ⟨bd, 0, none⟩)]) :: H ∧ R' = RowsA (some ⟨xf, 0, none⟩) 1 [[.bool true]] :: RowsA (some ⟨xb, 0, none⟩) 1 [[.pointer (some ⟨bd, 0, none⟩)]] :: R)
     (fun k H' R' h => by obtain ⟨_, _, rfl⟩ := h; exact ⟨by simp, by simp, List.mem_cons_of_mem _ (List.mem_cons_of_mem _ hD.mem)⟩) (fun k l a c H' R' hk hI => ?_) _ _ ⟨fun _ _ h => absurd h (Nat.not_lt_zero _), rfl, rfl⟩) (fun v H' R' h => ?_), ?_⟩
 rotate_left
 · rcases h with ⟨hn, rfl, rfl⟩ | ⟨hh, rfl, rfl⟩
   · exact ⟨.ready, none, _, by simp, .refl _, .inl ⟨rfl, rfl, any_no hn, rfl, rfl⟩⟩
   · exact ⟨.done, some .ret, _, by simp, .refl _, .inr ⟨rfl, rfl, hh, rfl, rfl⟩⟩
 rotate_left
 have hlt := b.dsk.trs_lt (List.mem_of_getElem? hk)
 have hll : l.length ≤ 1000000 := by
   obtain ⟨i, _, rfl⟩ := List.mem_map.1 (List.mem_filter.1 (List.mem_of_getElem? hk)).1
   have := bitl_len b.dsk.n i
   have := hdk.n
   omega
 obtain ⟨hno, rfl, rfl⟩ := hI
 refine yd_of hcp0 hca0 hcb0 hck0 rfl ?_
 refine sy_tx' [0] rfl ?_
 refine sp rfl (PE.assign rfl) rfl ?_
 refine sy_beginRound ?_
 refine sy_block ?_
 refine sy_seq ?_
 refine sy_tx' [0, 1, 2, 3, 4, 5, 6, 7, 8, 9] rfl ?_
 refine spL rfl rfl (lh sc65 rfl rfl) rfl ?_
 refine spL rfl rfl (lhA (rest := []) (ints s) ag69 rfl (by rw [List.append_nil]; rfl) (by rw [ints_length]; exact hsi.len)) rfl ?_
 refine sp rfl (PE.move rfl) rfl ?_
 refine cl rfl cal30 rfl rfl (c_next b hok ab cb bd m s hsm l hlt hll a c _ _) ?_
 rintro _ _ _ ⟨rfl, rfl, rfl⟩
 rcases hnx : b.dsk.next s l with _ | t
 refine sp rfl (PE.move rfl) rfl ?_
 refine sp rfl (PE.extract rfl rfl) rfl ?_
 refine sp rfl (PE.extract rfl rfl) rfl ?_
 refine alc rfl zl69 rfl (fun b6 => ?_)
 first | (refine stoA rfl rfl rfl cn69 rfl rfl rfl (ints_one _) ?_) | (refine stoA rfl rfl rfl cn69 rfl (by rw [ints_length]; exact hts.len) rfl (ints_one _) ?_)
 refine sp rfl (PE.assign rfl) rfl ?_
 refine sy_seq ?_
 refine sy_draw [0, 1, 3, 7, 15, 31, 3, 127, 255, 511] (.tk 0 (.tk 1 (.ld 2 (.tk 3 (.tk 4 (.ld 5 (.ld 6 (.ld 7 (.tk 8 (.tk 9 .done)))))))))) mixed (by kernel_rfl) ?_
 have hno2 : b.dsk.hit (b.dsk.alive n) s l = false := by simp only [Dsk.hit, hnx]
 refine tk rfl (PE.move rfl) rfl ?_
 refine tk rfl (PE.move rfl) rfl ?_
 refine ldN rfl rfl rfl rfl rfl rfl rfl rfl ?_
 repeat refine tkN rfl rfl rfl rfl rfl rfl rfl rfl ?_
 repeat refine ldN rfl rfl rfl rfl rfl rfl rfl rfl ?_
 refine tkN rfl rfl rfl rfl rfl rfl rfl rfl ?_
 refine tk rfl (PE.pick rfl rfl rfl) rfl ?_
 refine sy_condF rfl ?_
 refine sy_skip ?_
 exact sy_roundOn (.inl ⟨rfl, no_more hk hno hno2, rfl, rfl⟩) (fun _ h => h.tail.ftail)
 refine sp rfl (PE.move rfl) rfl ?_
 refine sp rfl (PE.extract rfl rfl) rfl ?_
 have hts := b.dsk.next_inS hdk hsi hlt hnx
 have htm := (b.dsk.mem_sts hdk t).2 hts
 have hkt := hkv.get t htm
 refine sp rfl (PE.extract rfl rfl) rfl ?_
 refine alc rfl zl69 rfl (fun b6 => ?_)
 first | (refine stoA rfl rfl rfl cn69 rfl rfl rfl (ints_one _) ?_) | (refine stoA rfl rfl rfl cn69 rfl (by rw [ints_length]; exact hts.len) rfl (ints_one _) ?_)
 refine sp rfl (PE.assign rfl) rfl ?_
 refine sy_seq ?_
 refine sy_draw [0, 1, 3, 7, 15, 31, 3, 127, 255, 511] (.tk 0 (.tk 1 (.ld 2 (.tk 3 (.tk 4 (.ld 5 (.ld 6 (.ld 7 (.tk 8 (.tk 9 .done)))))))))) mixed (by kernel_rfl) ?_
 refine tk rfl (PE.move rfl) rfl ?_
 refine tk rfl (PE.move rfl) rfl ?_
 refine ldG rfl rfl rfl rfl rfl (lh sc65 rfl rfl) rfl ?_
 refine tkG rfl rfl rfl rfl (PE.nilCheck rfl) rfl ?_
 refine tkG rfl rfl rfl rfl (PE.fieldAddr fo72_3 rfl) rfl ?_
 refine ldG rfl rfl rfl rfl rfl (lfB (sz := 18) sc70 (dcs_map hl4 hm4)) rfl ?_
 refine ldG rfl rfl rfl rfl rfl (lhA (rest := []) (ints t) ag69 rfl (by rw [List.append_nil]; rfl) (by rw [ints_length]; exact hts.len)) rfl ?_
 refine ldKG rfl rfl rfl rfl rfl rfl (lk_held (b := true) kv t mke70 (KeyT.of eqf69 noa69) (run_zv zv3) hts.len hkv.len false) rfl ?_
 rw [hkt]
 refine tkG rfl rfl rfl rfl (PE.eql rfl rfl) rfl ?_
 refine tk rfl (PE.pick rfl rfl rfl) rfl ?_
 refine sy_cond rfl (fun hc0 => ?_) (fun hc0 => ?_)
 try simp only [decide_eq_true_eq, decide_eq_false_iff_not, Bool.and_eq_true, Bool.or_eq_true, Bool.not_eq_true', Int.not_le, Int.not_lt] at hc0
 have hyes : b.dsk.hit (b.dsk.alive n) s l = true := by
   rcases b.dsk.lvl_spec htm (n := n) (by omega) with ⟨h1, h2⟩ | ⟨j, h1, h2, h3, h4⟩
   · simp only [Dsk.hit, hnx]; simpa using h2
   · exfalso; have hc : b.dsk.lvl n t = 1000000 := hc0; omega
 refine sy_seq ?_
 refine sy_tx' [0] rfl ?_
 refine sto rfl rfl rfl cn4 rfl rfl rfl rfl ?_
 refine sy_ret ?_
 exact sy_roundRet (.inr ⟨rfl, any_of hk hyes, rfl, rfl⟩) (fun _ h => h.tail.ftail)
 try simp only [decide_eq_true_eq, decide_eq_false_iff_not, Bool.and_eq_true, Bool.or_eq_true, Bool.not_eq_true', Int.not_le, Int.not_lt] at hc0
 have hno2 : b.dsk.hit (b.dsk.alive n) s l = false := by
   rcases b.dsk.lvl_spec htm (n := n) (by omega) with ⟨h1, h2⟩ | ⟨j, h1, h2, h3, h4⟩
   · exact absurd h1 hc0
   · simp only [Dsk.hit, hnx]
     have : t ∉ b.dsk.alive n := fun h => h4 (b.dsk.alive_le (by omega) h)
     simpa using this
 refine sy_skip ?_
 exact sy_roundOn (.inl ⟨rfl, no_more hk hno hno2, rfl, rfl⟩) (fun _ h => h.tail.ftail)
 rintro _ _ _ _ (⟨rfl, rfl, hh, rfl, rfl⟩ | ⟨rfl, rfl, hh, rfl, rfl⟩)
 refine sy_jn ?_
 refine sy_seq ?_
 refine sy_tx' [0] rfl ?_
 refine sto rfl rfl rfl cn4 rfl rfl rfl rfl ?_
 refine sy_ret ?_
 exact sy_returnM [bd0] (fun _ h => h) rfl (.cons (RV.cell rfl (lh sc4 rfl rfl)) .nil) rfl ⟨by rw [hh]; rfl, rfl, rfl⟩ (fun w h => (((h.del b4).del b3).del b2).ftail.ftail)
 refine sy_jc ?_
 refine sy_ret ?_
 exact sy_returnM [bd0] (fun _ h => h) rfl (.cons (RV.cell rfl (lh sc4 rfl rfl)) .nil) rfl ⟨by rw [hh]; rfl, rfl, rfl⟩ (fun w h => (((h.del b4).del b3).del b2).ftail.ftail)
def strows (l : List HSt) : List (List Value) := l.map ints
theorem strows_len (l : List HSt) : (strows l).length = l.length := List.length_map _
theorem strows_get {l : List HSt} {k : Nat} {s : HSt} (h : l[k]? = some s) : (strows l)[k]? = some (ints s) := by simp [strows, h]
theorem take_snoc {α : Type} {l : List α} {k : Nat} {x : α} (h : l[k]? = some x) : l.take (k + 1) = l.take k ++ [x] := by rw [List.take_add_one, h]; rfl
theorem contains_snoc (l : List HSt) (x y : HSt) : (l ++ [x]).contains y = (l.contains y || decide (x = y)) := by
  by_cases h : x = y
  · subst h; simp
  · have h' : ¬ y = x := fun e => h e.symm
    simp [h, h']
theorem c_work (b : Barn) (hok : b.ok) (ab : Option Addr) (cb bd m : Nat) (H : Heap) (R : Facts) [hD : MemRows (some ⟨bd, 0, none⟩) 18 [dcs b (b.sl ab cb) b.lasts b.most m] R] :
    Fn Tryz.prog 25 [.pointer (some ⟨bd, 0, none⟩)] ((m, mapO true []) :: H) R (fun _ H' R' => ∃ n kv, n ≤ 14641 ∧ b.dsk.alive (n + 1) = b.dsk.alive n ∧ KvOk b.dsk n kv ∧ H' = (m, mapO true kv) :: H ∧ R' = R) := by
 refine fnM_of Tryz.func25 rfl Tryz.ntmps25 rfl ?_
 refine sy_seq ?_
 refine sy_tx' [0] rfl ?_
 refine bx rfl rfl rfl (fun b1 => ?_)
 refine sy_seq ?_
 refine sy_tx' [0] rfl ?_
 refine alc rfl zl75 rfl (fun b2 => ?_)
 refine sy_seq ?_
 refine sy_seq ?_
 refine sy_tx' [0, 1] rfl ?_
 refine spL rfl rfl (lh sc65 rfl rfl) rfl ?_
 refine cl rfl cal78 rfl rfl (c_states bd _ _) ?_
 rintro _ _ _ ⟨xb, rfl, rfl, rfl⟩
 have hdk := b.dsk_ok hok
 have hl4 := hdk.lasts.len
 have hm4 := hdk.most.len
 have hnst := b.dsk.nst_le hdk
 have hsl := b.dsk.sts_len
 refine sy_pull b1 ?_
 refine sy_pull b2 ?_
 refine sy_block ?_
 refine sy_range rfl cal123 (fun c0 bl0 bd0 hcp0 hca0 hcb0 hck0 => ?_)
 refine ⟨fun st pend T R' => st = .ready ∧ pend = none ∧ ∃ (o : OSl 69 4 (strows b.dsk.sts)) (kv : KV), T = (bd0, .deferred (some [])) :: (b2, cel 75 [o.fs]) :: (b1, cel 65 [.pointer (some ⟨bd, 0, none⟩)]) :: (o.G ++ (m, mapO true kv) :: H) ∧ R' = RowsA (some ⟨xb, 0, none⟩) 1 [[.pointer (some ⟨bd, 0, none⟩)]] :: R ∧ KvOk b.dsk 0 kv,
   Fn.mono (c_states1 b hok ab cb bd m xb bl0 (fun k H' R' => ∃ (o : OSl 69 4 (strows (b.dsk.sts.take k))) (kv : KV), H' = (bl0, lob c0 .ready none) :: (bd0, .deferred (some [])) :: (b2, cel 75 [o.fs]) :: (b1, cel 65 [.pointer (some ⟨bd, 0, none⟩)]) :: (o.G ++ (m, mapO true kv) :: H) ∧ R' = RowsA (some ⟨xb, 0, none⟩) 1 [[.pointer (some ⟨bd, 0, none⟩)]] :: R ∧ (∀ e ∈ kv, e.1.length = 4) ∧ ∀ s ∈ b.dsk.sts.take k, kv.get s = some (.int .i64 1000000)) (fun _ _ => False)
     (fun k H' R' h => by obtain ⟨_, _, _, rfl, _⟩ := h; exact ⟨by simp, List.mem_cons_of_mem _ hD.mem⟩) (fun k s q oo H' R' hk hI => ?_) _ _ ⟨OSl.nil _ _, [], rfl, rfl, by simp, by simp⟩) (fun v H' R' h => ?_), ?_⟩
 rotate_left
 · rcases h with ⟨o, kv, rfl, rfl, h1, h2⟩ | h
   · rw [List.take_of_length_le (by rw [hsl]; exact Nat.le_refl _)] at h2
     exact ⟨.ready, none, _, by simp, .refl _, rfl, rfl, o.cast (by rw [List.take_of_length_le (by rw [hsl]; exact Nat.le_refl _)]), kv, rfl, rfl, h1, h2⟩
   · exact h.elim
 rotate_left
 have hmem := List.mem_of_getElem? hk
 have hsi := (b.dsk.mem_sts hdk s).1 hmem
 have hkl := (List.getElem?_eq_some_iff.1 hk).1
 obtain ⟨s0, s1, s2, s3, rfl⟩ := list4 hsi.len
 obtain ⟨o, kv, rfl, rfl, hkv1, hkv2⟩ := hI
 refine yd_of hcp0 hca0 hcb0 hck0 rfl ?_
 refine sy_tx' [0, 1] rfl ?_
 refine alc rfl zl69 rfl (fun b3 => ?_)
 refine sto rfl rfl rfl cn69 rfl rfl rfl rfl ?_
 refine sy_beginRound ?_
 refine sy_block ?_
 refine sy_seq ?_
 refine sy_tx' [0, 1, 2, 3, 4] rfl ?_
 refine spL rfl rfl (lh sc75 rfl rfl) rfl ?_
 refine spL rfl rfl (lhA [_, _, _, _] ag69 rfl rfl rfl) rfl ?_
 refine bsl (out := [_, _, _, _]) rfl sl75 zl69 rfl rfl rfl rfl rfl rfl (fun b16 => ?_)
 refine apO (o) rfl ap75 rfl rfl (rowsH (row := [.int .i64 s0, .int .i64 s1, .int .i64 s2, .int .i64 s3]) rfl) rfl rfl ((by rw [strows_len, List.length_take]; simp only [List.length_singleton]; omega)) rfl (fun o17 => ?_)
 refine stoE (l' := [o17.fs]) rfl rfl rfl cn75 rfl (by rw [o17.cells.1]; first | done | rfl) (by rw [o17.cells.1]; simp [o17.cells.2]) (by rw [o17.cells.1]; first | done | rfl) (by rw [o17.cells.1]; first | done | exact Nat.le_refl _) ?_
 refine sy_draw [0, 1, 3, 7, 0, 31] (.ld 0 (.tk 1 (.tk 2 (.ld 3 (.ld 4 (.big 5 .done)))))) mixed (by kernel_rfl) ?_
 refine ld rfl rfl (lh sc65 rfl rfl) rfl ?_
 refine tk rfl (PE.nilCheck rfl) rfl ?_
 refine tk rfl (PE.fieldAddr fo72_3 rfl) rfl ?_
 refine ld rfl rfl (lfB (sz := 18) sc70 (dcs_map hl4 hm4)) rfl ?_
 refine ld rfl rfl (lhA [_, _, _, _] ag69 rfl rfl rfl) rfl ?_
 refine mpu kv [s0, s1, s2, s3] rfl mke70 (KeyT.of eqf69 noa69) rfl rfl rfl rfl hkv1 ?_
 refine bg (fun w hs => ⟨trivial, trivial, trivial, trivial⟩) ?_
 exact sy_roundOn (.inl ⟨rfl, _, rfl, o17.cast (by rw [take_snoc hk]; simp [strows]), kv.put [s0, s1, s2, s3] (.int .i64 1000000), rfl, rfl, KV.put_len rfl hkv1, fun s hs => by
   rw [KV.get_put]
   by_cases h : [s0, s1, s2, s3] = s
   · rw [decide_eq_true h]; rfl
   · rw [decide_eq_false h, cond_false]
     rw [take_snoc hk] at hs
     rcases List.mem_append.1 hs with h1 | h1
     · exact hkv2 s h1
     · exact absurd (List.mem_singleton.1 h1).symm h⟩) (fun _ h => (h.del b16).del b3)
 rintro _ _ _ _ ⟨rfl, rfl, o, kv, rfl, rfl, hkv⟩
 refine sy_jn ?_
 refine sy_seq ?_
 refine sy_tx' [0] rfl ?_
 refine sp rfl (PE.assign rfl) rfl ?_
 refine sy_block ?_
 refine sy_loop (ι := (x : {x : Nat × KV // x.1 + (b.dsk.alive x.1).length ≤ b.dsk.nst ∧ KvOk b.dsk x.1 x.2}) × OSl 69 4 (strows (b.dsk.alive x.1.1))) (fun x => ⟨[(1, .pointer (some ⟨b1, 0, none⟩)), (2, .pointer (some ⟨b2, 0, none⟩)), (4, .int .i64 x.1.1.1)], (bd0, .deferred (some [])) :: (b2, cel 75 [x.2.fs]) :: (b1, cel 65 [.pointer (some ⟨bd, 0, none⟩)]) :: (x.2.G ++ (m, mapO true x.1.1.2) :: H), RowsA (some ⟨xb, 0, none⟩) 1 [[.pointer (some ⟨bd, 0, none⟩)]] :: R⟩) (fun x => (b.dsk.alive x.1.1.1).length) ⟨⟨(0, kv), by show 0 + b.dsk.sts.length ≤ _; rw [hsl]; omega, hkv⟩, o⟩ ?_ (fun x => ?_)
 exact sy_at (by repeat' first | exact Sub.nil | apply Sub.cons | rfl | (simp [lk]; omega)) (fun _ h => h)
 obtain ⟨⟨⟨n, kv⟩, hnl, hkv⟩, o⟩ := x
 dsimp only at hnl hkv o ⊢
 obtain ⟨aa, ca, he, hf⟩ := o.freeze
 rw [he, strows_len]
 refine Sy.heap (H' := (bd0, .deferred (some [])) :: (b2, cel 75 [.slice aa (b.dsk.alive n).length ca]) :: (b1, cel 65 [.pointer (some ⟨bd, 0, none⟩)]) :: (m, mapO true kv) :: H) (R' := RowsA aa 4 (strows (b.dsk.alive n)) :: RowsA (some ⟨xb, 0, none⟩) 1 [[.pointer (some ⟨bd, 0, none⟩)]] :: R) (fun w h => (hf (h.perm (perm_swap3 [_, _, _] o.G _))).perm (by first | exact .refl _ | skip)) ?_
 clear he hf
 have hn5 : n ≤ 100000 := by omega
 refine sy_seq ?_
 refine sy_block ?_
 refine sy_seq ?_
 refine sy_tx' [0, 1] rfl ?_
 refine sp rfl (PE.assign rfl) rfl ?_
 refine sp rfl (PE.assign rfl) rfl ?_
 refine sy_seq ?_
 refine sy_seq ?_
 refine sy_tx' [0, 1, 2] rfl ?_
 refine spL rfl rfl (lh sc75 rfl rfl) rfl ?_
 refine sp rfl (PE.lenSl isl75 rfl) rfl ?_
 refine sp rfl (PE.move rfl) rfl ?_
 refine sy_block ?_
 refine sy_loop (ι := (k : {k : Nat // k ≤ (b.dsk.alive n).length}) × OSl 69 4 (strows ((((b.dsk.alive n).take k.1)).filter fun s => !b.dsk.helped (b.dsk.alive n) s)) × OSl 69 4 (strows ((((b.dsk.alive n).take k.1)).filter (b.dsk.helped (b.dsk.alive n))))) (fun x => ⟨[(1, .pointer (some ⟨b1, 0, none⟩)), (2, .pointer (some ⟨b2, 0, none⟩)), (4, .int .i64 n), (5, x.2.1.fs), (6, x.2.2.fs), (25, .slice aa (b.dsk.alive n).length ca), (26, .int .i64 (b.dsk.alive n).length), (27, .int .i64 x.1.1)], x.2.1.G ++ (x.2.2.G ++ (bd0, .deferred (some [])) :: (b2, cel 75 [.slice aa (b.dsk.alive n).length ca]) :: (b1, cel 65 [.pointer (some ⟨bd, 0, none⟩)]) :: (m, mapO true kv) :: H), RowsA aa 4 (strows (b.dsk.alive n)) :: RowsA (some ⟨xb, 0, none⟩) 1 [[.pointer (some ⟨bd, 0, none⟩)]] :: R⟩) (fun x => (b.dsk.alive n).length - x.1.1) ⟨⟨0, by omega⟩, OSl.nil _ _, OSl.nil _ _⟩ ?_ (fun x => ?_)
 exact sy_at (by repeat' first | exact Sub.nil | apply Sub.cons | rfl | (simp [lk]; omega)) (fun _ h => h)
 obtain ⟨⟨k, hk⟩, o5, o6⟩ := x
 dsimp only at hk o5 o6 ⊢
 refine sy_seq ?_
 refine sy_tx' [0] rfl ?_
 refine sp rfl (PE.lss rfl rfl) rfl ?_
 refine sy_seq ?_
 refine sy_cond rfl (fun hc0 => ?_) (fun hc0 => ?_)
 try simp only [decide_eq_true_eq, decide_eq_false_iff_not, Bool.and_eq_true, Bool.or_eq_true, Bool.not_eq_true', Int.not_le, Int.not_lt] at hc0
 obtain ⟨s, hsk⟩ : ∃ s, (b.dsk.alive n)[k]? = some s := ⟨_, List.getElem?_eq_getElem (by omega)⟩
 have hmem := b.dsk.alive_sts (List.mem_of_getElem? hsk)
 have hsi := (b.dsk.mem_sts hdk s).1 hmem
 obtain ⟨s0, s1, s2, s3, rfl⟩ := list4 hsi.len
 refine sy_addr (a := aa) (sz := 4) (rows := strows (b.dsk.alive n)) (by intro h0; have := congrArg List.length h0; rw [strows_len] at this; simp at this; simp [this] at hsk) (fun ba oa he => ?_)
 subst he
 have hd1 : ((((b.dsk.alive n).take (k + 1))).filter fun s => !b.dsk.helped (b.dsk.alive n) s) = ((((b.dsk.alive n).take k)).filter fun s => !b.dsk.helped (b.dsk.alive n) s) ++ (bif b.dsk.helped (b.dsk.alive n) [s0, s1, s2, s3] then [] else [[s0, s1, s2, s3]]) := by rw [filt_take hsk]; cases b.dsk.helped (b.dsk.alive n) [s0, s1, s2, s3] <;> rfl
 have hr1 : ((((b.dsk.alive n).take (k + 1))).filter (b.dsk.helped (b.dsk.alive n))) = ((((b.dsk.alive n).take k)).filter (b.dsk.helped (b.dsk.alive n))) ++ (bif b.dsk.helped (b.dsk.alive n) [s0, s1, s2, s3] then [[s0, s1, s2, s3]] else []) := filt_take hsk
 have hl5 : ((((b.dsk.alive n).take k)).filter fun s => !b.dsk.helped (b.dsk.alive n) s).length ≤ 14641 := Nat.le_trans (List.length_filter_le _ _) (by rw [List.length_take]; omega)
 have hl6 : ((((b.dsk.alive n).take k)).filter (b.dsk.helped (b.dsk.alive n))).length ≤ 14641 := Nat.le_trans (List.length_filter_le _ _) (by rw [List.length_take]; omega)
 refine sy_skip ?_
 refine sy_seq ?_
 refine sy_block ?_
 refine sy_seq ?_
 refine sy_tx' [0, 1, 2, 3] rfl ?_
 refine sp rfl (PE.indexAddr el75 rfl rfl (by omega) (by omega)) rfl ?_
 refine spL rfl rfl (lfA ag69 (row := [.int .i64 s0, .int .i64 s1, .int .i64 s2, .int .i64 s3]) (strows_get hsk) rfl) rfl ?_
 refine alc rfl zl69 rfl (fun b8 => ?_)
 refine sto rfl rfl rfl cn69 rfl rfl rfl rfl ?_
 refine sy_seq ?_
 refine sy_tx' [0, 1, 2] rfl ?_
 refine spL rfl rfl (lh sc65 rfl rfl) rfl ?_
 refine spL rfl rfl (lhA [_, _, _, _] ag69 rfl rfl rfl) rfl ?_
 refine clV rfl cal79 rfl rfl (c_helped b hok ab cb bd m n hn5 kv hkv [s0, s1, s2, s3] hmem _ _) ?_
 refine sy_cond rfl (fun hc1 => ?_) (fun hc1 => ?_)
 rw [hc1, cond_true, List.append_nil] at hd1
 rw [hc1, cond_true] at hr1
 refine sy_tx' [0, 1, 2, 3, 4] rfl ?_
 refine sp rfl (PE.move rfl) rfl ?_
 refine spL rfl rfl (lhA [_, _, _, _] ag69 rfl rfl rfl) rfl ?_
 refine bsl (out := [_, _, _, _]) rfl sl75 zl69 rfl rfl rfl rfl rfl rfl (fun b36 => ?_)
 refine apO (o6) rfl ap75 rfl rfl (rowsH (row := [.int .i64 s0, .int .i64 s1, .int .i64 s2, .int .i64 s3]) rfl) rfl rfl ((by rw [strows_len]; simp only [List.length_singleton]; omega)) rfl (fun o37 => ?_)
 refine sp rfl (PE.assign rfl) rfl ?_
 refine sy_tx' [0, 1] rfl ?_
 refine sp rfl (PE.add rfl rfl (by omega)) rfl ?_
 refine sp rfl (PE.move rfl) rfl ?_
 first
   | exact sy_next ⟨⟨k + 1, by omega⟩, o5.cast (by rw [hd1]), o37.cast (by rw [hr1]; simp [strows])⟩ (by dsimp only; omega) (by repeat' first | exact Sub.nil | apply Sub.cons | rfl | (simp [lk]; omega)) (fun w h => (h.del b36).del b8)
   | exact sy_next ⟨⟨k + 1, by omega⟩, o41.cast (by rw [hd1]; simp [strows]), o6.cast (by rw [hr1])⟩ (by dsimp only; omega) (by repeat' first | exact Sub.nil | apply Sub.cons | rfl | (simp [lk]; omega)) (fun w h => (h.del b40).del b8)
 rw [hc1, cond_false] at hd1
 rw [hc1, cond_false, List.append_nil] at hr1
 refine sy_tx' [0, 1, 2, 3, 4] rfl ?_
 refine sp rfl (PE.move rfl) rfl ?_
 refine spL rfl rfl (lhA [_, _, _, _] ag69 rfl rfl rfl) rfl ?_
 refine bsl (out := [_, _, _, _]) rfl sl75 zl69 rfl rfl rfl rfl rfl rfl (fun b40 => ?_)
 refine apO (o5) rfl ap75 rfl rfl (rowsH (row := [.int .i64 s0, .int .i64 s1, .int .i64 s2, .int .i64 s3]) rfl) rfl rfl ((by rw [strows_len]; simp only [List.length_singleton]; omega)) rfl (fun o41 => ?_)
 refine sp rfl (PE.assign rfl) rfl ?_
 refine sy_tx' [0, 1] rfl ?_
 refine sp rfl (PE.add rfl rfl (by omega)) rfl ?_
 refine sp rfl (PE.move rfl) rfl ?_
 first
   | exact sy_next ⟨⟨k + 1, by omega⟩, o5.cast (by rw [hd1]), o37.cast (by rw [hr1]; simp [strows])⟩ (by dsimp only; omega) (by repeat' first | exact Sub.nil | apply Sub.cons | rfl | (simp [lk]; omega)) (fun w h => (h.del b36).del b8)
   | exact sy_next ⟨⟨k + 1, by omega⟩, o41.cast (by rw [hd1]; simp [strows]), o6.cast (by rw [hr1])⟩ (by dsimp only; omega) (by repeat' first | exact Sub.nil | apply Sub.cons | rfl | (simp [lk]; omega)) (fun w h => (h.del b40).del b8)
 try simp only [decide_eq_true_eq, decide_eq_false_iff_not, Bool.and_eq_true, Bool.or_eq_true, Bool.not_eq_true', Int.not_le, Int.not_lt] at hc0
 obtain rfl : k = (b.dsk.alive n).length := by omega
 obtain ⟨p5, h5f, h5g⟩ : ∃ o : OSl 69 4 (strows ((b.dsk.alive n).filter fun s => !b.dsk.helped (b.dsk.alive n) s)), o.fs = o5.fs ∧ o.G = o5.G := ⟨o5.cast (by rw [List.take_length]), rfl, rfl⟩
 obtain ⟨p6, h6f, h6g⟩ : ∃ o : OSl 69 4 (strows (b.dsk.alive (n + 1))), o.fs = o6.fs ∧ o.G = o6.G := ⟨o6.cast (by rw [List.take_length]; rfl), rfl, rfl⟩
 rw [← h5f, ← h6f]
 refine Sy.heap (H' := p5.G ++ (p6.G ++ (bd0, .deferred (some [])) :: (b2, cel 75 [.slice aa (b.dsk.alive n).length ca]) :: (b1, cel 65 [.pointer (some ⟨bd, 0, none⟩)]) :: (m, mapO true kv) :: H)) (fun w h => by rw [h5g, h6g]; exact h) ?_
 clear h5f h5g h6f h6g
 obtain ⟨ad, cd, he, hf⟩ := p5.freeze
 rw [he, strows_len]
 refine Sy.heap (fun w h => hf h) ?_
 clear he hf
 refine sy_exit ?_
 repeat refine sy_tx ?_
 refine sy_bx ?_
 refine sy_seq ?_
 refine sy_seq ?_
 refine sy_tx' [0, 1, 2] rfl ?_
 refine sp rfl (PE.move rfl) rfl ?_
 refine sp rfl (PE.lenSl isl75 rfl) rfl ?_
 refine sp rfl (PE.eql rfl rfl) rfl ?_
 refine sy_cond rfl (fun hc2 => ?_) (fun hc2 => ?_)
 try simp only [decide_eq_true_eq, decide_eq_false_iff_not, Bool.and_eq_true, Bool.or_eq_true, Bool.not_eq_true', Int.not_le, Int.not_lt] at hc2
 have hfix := b.dsk.alive_same (n := n) (by omega)
 refine sy_ret ?_
 refine Sy.heap (fun w h => (St.drop (G := p6.G) ((h.del b2).del b1)).ftail.ftail.ftail) ?_
 exact sy_returnM [bd0] (fun _ h => h) rfl .nil rfl ⟨n, kv, by omega, hfix, hkv, rfl, rfl⟩ (fun w h => h)
 try simp only [decide_eq_true_eq, decide_eq_false_iff_not, Bool.and_eq_true, Bool.or_eq_true, Bool.not_eq_true', Int.not_le, Int.not_lt] at hc2
 have hls := b.dsk.alive_less (n := n) (by omega)
 have hdl : ((b.dsk.alive n).filter fun s => !b.dsk.helped (b.dsk.alive n) s).length ≤ 14641 := Nat.le_trans (List.length_filter_le _ _) (by omega)
 refine sy_skip ?_
 refine sy_seq ?_
 refine sy_seq ?_
 refine sy_tx' [0, 1, 2] rfl ?_
 refine sp rfl (PE.move rfl) rfl ?_
 refine sp rfl (PE.lenSl isl75 rfl) rfl ?_
 refine sp rfl (PE.move rfl) rfl ?_
 refine sy_block ?_
 refine sy_loop (ι := {x : Nat × KV // x.1 ≤ ((b.dsk.alive n).filter fun s => !b.dsk.helped (b.dsk.alive n) s).length ∧ (∀ e ∈ x.2, e.1.length = 4) ∧ ∀ s ∈ b.dsk.sts, x.2.get s = some (.int .i64 (bif (((b.dsk.alive n).filter fun s => !b.dsk.helped (b.dsk.alive n) s).take x.1).contains s then (n : Int) else b.dsk.lvl n s))}) (fun x => ⟨[(1, .pointer (some ⟨b1, 0, none⟩)), (2, .pointer (some ⟨b2, 0, none⟩)), (4, .int .i64 n), (6, p6.fs), (46, .slice ad ((b.dsk.alive n).filter fun s => !b.dsk.helped (b.dsk.alive n) s).length cd), (47, .int .i64 ((b.dsk.alive n).filter fun s => !b.dsk.helped (b.dsk.alive n) s).length), (48, .int .i64 x.1.1)], p6.G ++ (bd0, .deferred (some [])) :: (b2, cel 75 [.slice aa (b.dsk.alive n).length ca]) :: (b1, cel 65 [.pointer (some ⟨bd, 0, none⟩)]) :: (m, mapO true x.1.2) :: H, RowsA ad 4 (strows ((b.dsk.alive n).filter fun s => !b.dsk.helped (b.dsk.alive n) s)) :: RowsA aa 4 (strows (b.dsk.alive n)) :: RowsA (some ⟨xb, 0, none⟩) 1 [[.pointer (some ⟨bd, 0, none⟩)]] :: R⟩) (fun x => ((b.dsk.alive n).filter fun s => !b.dsk.helped (b.dsk.alive n) s).length - x.1.1) ⟨(0, kv), Nat.zero_le _, hkv.len, fun s hs => by rw [hkv.get s hs]; rfl⟩ ?_ (fun x => ?_)
 exact sy_at (by repeat' first | exact Sub.nil | apply Sub.cons | rfl | (simp [lk]; omega)) (fun _ h => h)
 obtain ⟨⟨k, kv2⟩, hk, hkl, hkg⟩ := x
 dsimp only at hk hkl hkg ⊢
 refine sy_seq ?_
 refine sy_tx' [0] rfl ?_
 refine sp rfl (PE.lss rfl rfl) rfl ?_
 refine sy_seq ?_
 refine sy_cond rfl (fun hc3 => ?_) (fun hc3 => ?_)
 try simp only [decide_eq_true_eq, decide_eq_false_iff_not, Bool.and_eq_true, Bool.or_eq_true, Bool.not_eq_true', Int.not_le, Int.not_lt] at hc3
 obtain ⟨s, hsk⟩ : ∃ s, ((b.dsk.alive n).filter fun s => !b.dsk.helped (b.dsk.alive n) s)[k]? = some s := ⟨_, List.getElem?_eq_getElem (by omega)⟩
 have hmem := b.dsk.alive_sts (List.mem_filter.1 (List.mem_of_getElem? hsk)).1
 have hsi := (b.dsk.mem_sts hdk s).1 hmem
 obtain ⟨s0, s1, s2, s3, rfl⟩ := list4 hsi.len
 refine sy_addr (a := ad) (sz := 4) (rows := strows ((b.dsk.alive n).filter fun s => !b.dsk.helped (b.dsk.alive n) s)) (by intro h0; have := congrArg List.length h0; rw [strows_len] at this; simp only [List.length_nil] at this; omega) (fun ba oa he => ?_)
 subst he
 refine sy_skip ?_
 refine sy_seq ?_
 refine sy_block ?_
 refine sy_seq ?_
 refine sy_tx' [0, 1, 2, 3] rfl ?_
 refine sp rfl (PE.indexAddr el75 rfl rfl (by omega) (by omega)) rfl ?_
 refine spL rfl rfl (lfA ag69 (row := [.int .i64 s0, .int .i64 s1, .int .i64 s2, .int .i64 s3]) (strows_get hsk) rfl) rfl ?_
 refine alc rfl zl69 rfl (fun b10 => ?_)
 refine sto rfl rfl rfl cn69 rfl rfl rfl rfl ?_
 refine sy_draw [0, 1, 3, 7, 0, 0, 63] (.ld 0 (.tk 1 (.tk 2 (.ld 3 (.ld 4 (.tk 5 (.big 6 .done))))))) mixed (by kernel_rfl) ?_
 refine ld rfl rfl (lh sc65 rfl rfl) rfl ?_
 refine tk rfl (PE.nilCheck rfl) rfl ?_
 refine tk rfl (PE.fieldAddr fo72_3 rfl) rfl ?_
 refine ld rfl rfl (lfB (sz := 18) sc70 (dcs_map hl4 hm4)) rfl ?_
 refine ld rfl rfl (lhA [_, _, _, _] ag69 rfl rfl rfl) rfl ?_
 refine tk rfl (PE.move rfl) rfl ?_
 refine mpu kv2 [s0, s1, s2, s3] rfl mke70 (KeyT.of eqf69 noa69) rfl rfl rfl rfl hkl ?_
 refine bg (fun w hs => ⟨trivial, trivial, trivial, trivial⟩) ?_
 refine sy_tx' [0, 1] rfl ?_
 refine sp rfl (PE.add rfl rfl (by omega)) rfl ?_
 refine sp rfl (PE.move rfl) rfl ?_
 exact sy_next ⟨(k + 1, kv2.put [s0, s1, s2, s3] (.int .i64 n)), by dsimp only; omega, KV.put_len rfl hkl, fun s hs => by
   dsimp only
   rw [KV.get_put, take_snoc hsk, contains_snoc]
   by_cases h : [s0, s1, s2, s3] = s
   · rw [decide_eq_true h, Bool.or_true]; rfl
   · rw [decide_eq_false h, Bool.or_false, cond_false]; exact hkg s hs⟩ (by dsimp only; omega) (by repeat' first | exact Sub.nil | apply Sub.cons | rfl | (simp [lk]; omega)) (fun w h => h.del b10)
 try simp only [decide_eq_true_eq, decide_eq_false_iff_not, Bool.and_eq_true, Bool.or_eq_true, Bool.not_eq_true', Int.not_le, Int.not_lt] at hc3
 obtain rfl : k = ((b.dsk.alive n).filter fun s => !b.dsk.helped (b.dsk.alive n) s).length := by omega
 rw [List.take_length] at hkg
 have hkv2 : KvOk b.dsk (n + 1) kv2 := ⟨hkl, fun s hs => by rw [hkg s hs, b.dsk.lvl_step hs hn5]⟩
 refine sy_exit ?_
 repeat refine sy_tx ?_
 refine sy_bx ?_
 refine sy_tx' [0, 1] rfl ?_
 refine sp rfl (PE.move rfl) rfl ?_
 refine stoE (l' := [p6.fs]) rfl rfl rfl cn75 rfl (by rw [p6.cells.1]; first | done | rfl) (by rw [p6.cells.1]; simp [p6.cells.2]) (by rw [p6.cells.1]; first | done | rfl) (by rw [p6.cells.1]; first | done | exact Nat.le_refl _) ?_
 refine sy_tx' [0, 1, 2] rfl ?_
 refine sp rfl (PE.move rfl) rfl ?_
 refine sp rfl (PE.add rfl rfl (by omega)) rfl ?_
 refine sp rfl (PE.assign rfl) rfl ?_
 exact sy_next ⟨⟨(n + 1, kv2), by dsimp only; omega, hkv2⟩, p6⟩ (by dsimp only; omega) (by repeat' first | exact Sub.nil | apply Sub.cons | rfl | (simp [lk]; omega)) (fun w h => (h.perm (perm_swap3 p6.G [_, _, _] _)).ftail.ftail)
end Go.Proofs.YtelegnmfhjfbaaaGreat
namespace Go.Proofs.YtelegnmfhjfbaaaGreat
set_option linter.unusedSimpArgs false
set_option linter.unusedVariables false
open Go
theorem cal15 : cal Tryz.prog 15 = true := by kernel_rfl
theorem cal24 : cal Tryz.prog 24 = true := by kernel_rfl
theorem cal25 : cal Tryz.prog 25 = true := by kernel_rfl
theorem Barn.state_inS {b : Barn} (hb : b.ok) : b.dsk.inS b.state where
  len := (b.state_sml hb).len
  at_ k hk := by
    obtain ⟨x, hx⟩ : ∃ x, b.bins[k]? = some x := ⟨_, List.getElem?_eq_getElem hk⟩
    have hm := List.mem_of_getElem? hx
    have h1 : na b.state k = _ := na_at (b.map_get hb _ hx)
    have h2 : na b.most k = _ := na_at (b.map_get hb _ hx)
    have h3 : na b.lasts k = _ := na_at (b.map_get hb _ hx)
    have h4 := ((b.dsk_ok hb).ever k hk)
    have r1 := b.days_range hb hm (hb.bins x hm).2.1.1
    have r2 := b.days_range hb hm hb.cool.1
    show (na b.most k = 1000000 ∧ na b.state k = 1000000) ∨ (na b.most k ≠ 1000000 ∧ 0 ≤ na b.state k ∧ na b.state k ≤ na b.most k)
    have h5 : na b.lasts k = 1000000 ↔ na b.most k = 1000000 := h4.2.2
    have z : ∀ w, 0 ≤ w → (b.days x w = 1000000 ↔ b.worst x = 0) := fun w hw => by
      constructor
      · intro h
        rcases Classical.em (b.worst x = 0) with h0 | h0
        · exact h0
        · have h9 := b.worst_range hb hm
          have h8 := (hb.bins x hm).1
          unfold Barn.days daysB at h
          rw [decide_eq_false h0, cond_false] at h
          by_cases h3 : x.mark < w
          · rw [decide_eq_true h3, cond_true] at h; omega
          · rw [decide_eq_false h3, cond_false] at h
            have : (x.mark - w) / b.worst x < 11 := Int.ediv_lt_of_lt_mul (by omega) (by omega)
            omega
      · intro h; unfold Barn.days daysB; rw [h]; rfl
    have z1 := z _ (hb.bins x hm).2.1.1
    have z2 := z _ hb.cool.1
    rw [h1, h2]
    rw [h3, h2] at h5
    by_cases h0 : b.worst x = 0
    · have := z1.2 h0; have := z2.2 h0; omega
    · have : ¬ b.days x x.warm = 1000000 := fun h => h0 (z1.1 h)
      have : ¬ b.days x b.cool = 1000000 := fun h => h0 (z2.1 h)
      omega
  out k hk hk' := by
    have : (pad (b.bins.map fun x => b.days x x.warm))[k]? = some 0 := pad_rest (by rw [List.length_map]; exact hk') hk
    exact na_at this
theorem Barn.state_sts {b : Barn} (hb : b.ok) : b.state ∈ b.dsk.sts := (b.dsk.mem_sts (b.dsk_ok hb) _).2 (b.state_inS hb)
def LongQ (b : Barn) : Value → Prop := fun v => (b.check ≠ 0 ∧ v = .tuple #[.int .i64 0, .int .i64 b.check]) ∨ (b.check = 0 ∧ ∃ w, Kpt b.dsk b.state w ∧ v = .tuple #[.int .i64 w, .int .i64 0])
def FirstQ (b : Barn) : Value → Prop := fun v => (b.check ≠ 0 ∧ v = .tuple #[.int .i64 0, .int .i64 b.check]) ∨ (b.check = 0 ∧ ∃ w, Kpt b.dsk b.state w ∧ v = .tuple #[.int .i64 (bif decide (w = 1000000) then 0 else w), .int .i64 (bif decide (w = 1000000) then 6 else 0)])
def Barn.withG (b : Barn) (g : Int) : Barn := { b with gangs := g }
theorem Barn.withG_ok {b : Barn} (hb : b.ok) {g : Int} (h : 0 ≤ g ∧ g ≤ 4) : (b.withG g).ok := ⟨hb.len, hb.many, hb.cool, h, hb.rise, hb.bins, hb.srt, hb.ord⟩
def Barn.ends (b : Barn) (g : Nat) : Prop := ∃ w, w ≠ 1000000 ∧ Kpt (b.withG g).dsk b.state w
def SpareQ (b : Barn) : Value → Prop := fun v => (b.check ≠ 0 ∧ v = .tuple #[.int .i64 0, .int .i64 b.check]) ∨ (b.check = 0 ∧ ((∃ g : Nat, g ≤ b.bins.length ∧ (∀ j < g, b.ends j) ∧ Kpt (b.withG g).dsk b.state 1000000 ∧ v = .tuple #[.int .i64 g, .int .i64 0]) ∨ ((∀ j, j ≤ b.bins.length → b.ends j) ∧ v = .tuple #[.int .i64 0, .int .i64 6])))
theorem c_Longest (b : Barn) (ab : Option Addr) (cb : Nat) (hl : b.bins.length ≤ 9223372036854775807) (hr : b.rise.length = 6) (H : Heap) (R : Facts) [hB : MemRows ab 4 (brows b.bins) R] :
    Fn Tryz.prog 15 [b.v (b.sl ab cb)] H R (fun v H' R' => LongQ b v ∧ H' = H ∧ R' = R) := by
 refine fn_of Tryz.func15 rfl Tryz.ntmps15 rfl ?_
 refine sy_seq ?_
 refine sy_tx' [0, 1, 2] rfl ?_
 refine bx rfl rfl rfl (fun b1 => ?_)
 refine sp rfl (PE.assign rfl) rfl ?_
 refine sp rfl (PE.assign rfl) rfl ?_
 refine sy_seq ?_
 refine sy_tx' [0, 1, 2, 3, 4, 5, 6] rfl ?_
 refine spL rfl rfl (lhA (btl b (b.sl ab cb)) ag27 rfl rfl rfl) rfl ?_
 refine cl rfl cal24 rfl rfl (c_opened b ab cb hl hr _ _) ?_
 rintro _ _ _ (⟨hck, rfl, rfl, rfl⟩ | ⟨hck, bd, m, rfl, rfl, rfl⟩)
 refine sp rfl (PE.move rfl) rfl ?_
 refine sp rfl (PE.extract rfl rfl) rfl ?_
 refine sp rfl (PE.extract rfl rfl) rfl ?_
 refine sp rfl (PE.assign rfl) rfl ?_
 refine sp rfl (PE.assign rfl) rfl ?_
 refine sy_seq ?_
 refine sy_seq ?_
 refine sy_tx' [0, 1] rfl ?_
 refine sp rfl (PE.move rfl) rfl ?_
 refine sp rfl (PE.neq rfl rfl) rfl ?_
 refine sy_condT (congrArg (fun b => some (Value.bool b)) (decide_eq_true hck)) ?_
 refine sy_seq ?_
 refine sy_tx' [0, 1, 2] rfl ?_
 refine sp rfl (PE.move rfl) rfl ?_
 refine sp rfl (PE.assign rfl) rfl ?_
 refine sp rfl (PE.assign rfl) rfl ?_
 refine sy_ret ?_
 exact sy_return (vs := [_, _]) rfl (.cons (RV.tmp rfl) (.cons (RV.tmp rfl) .nil)) rfl ⟨.inl ⟨hck, rfl⟩, rfl, rfl⟩ drp
 have hok := Barn.ok_of hr hck
 have hdk := b.dsk_ok hok
 have hl4 := hdk.lasts.len
 have hm4 := hdk.most.len
 refine sp rfl (PE.move rfl) rfl ?_
 refine sp rfl (PE.extract rfl rfl) rfl ?_
 refine sp rfl (PE.extract rfl rfl) rfl ?_
 refine sp rfl (PE.assign rfl) rfl ?_
 refine sp rfl (PE.assign rfl) rfl ?_
 refine sy_seq ?_
 refine sy_seq ?_
 refine sy_tx' [0, 1] rfl ?_
 refine sp rfl (PE.move rfl) rfl ?_
 refine sp rfl (PE.neq rfl rfl) rfl ?_
 refine sy_condF (rfl) ?_
 refine sy_skip ?_
 refine sy_seq ?_
 refine sy_tx' [0, 1] rfl ?_
 refine sp rfl (PE.move rfl) rfl ?_
 refine cl rfl cal25 rfl rfl (c_work b hok ab cb bd m _ _) ?_
 rintro v _ _ ⟨n, kv, hn, hfx, hkv, rfl, rfl⟩
 have hks := kpt_of (b.state_sts hok) hn hfx
 have hkg := hkv.get _ (b.state_sts hok)
 refine sy_seq ?_
 refine sy_draw [0, 1, 3, 7, 0, 16, 63, 127, 255] (.tk 0 (.tk 1 (.tk 2 (.ld 3 (.ld 4 (.big 5 (.ld 6 (.tk 7 (.tk 8 .done))))))))) mixed (by kernel_rfl) ?_
 refine tk rfl (PE.move rfl) rfl ?_
 refine tk rfl (PE.nilCheck rfl) rfl ?_
 refine tk rfl (PE.fieldAddr fo72_3 rfl) rfl ?_
 refine ld rfl rfl (lfB (sz := 18) sc70 (dcs_map hl4 hm4)) rfl ?_
 refine ld rfl rfl (lhA (btl b (b.sl ab cb)) ag27 rfl rfl rfl) rfl ?_
 refine clV rfl cal26 rfl rfl (c_state b ab cb hok _ _) ?_
 refine bg (fun w hs => ⟨trivial, (lfB (sz := 18) sc70 (dcs_map hl4 hm4)) w hs, trivial⟩) ?_
 refine ldK rfl rfl rfl ((lk_held (b := true) kv b.state mke70 (KeyT.of eqf69 noa69) (run_zv zv3) (b.state_sml hok).len hkv.len false)) rfl ?_
 rw [hkg]
 refine tk rfl (PE.assign rfl) rfl ?_
 refine tk rfl (PE.assign rfl) rfl ?_
 refine sy_ret ?_
 exact sy_return (vs := [_, _]) rfl (.cons (RV.tmp rfl) (.cons (RV.tmp rfl) .nil)) rfl ⟨.inr ⟨hck, _, hks, rfl⟩, rfl, rfl⟩ (fun w h => ((h.del b1).del m).ftail)
theorem c_First (b : Barn) (ab : Option Addr) (cb : Nat) (hl : b.bins.length ≤ 9223372036854775807) (hr : b.rise.length = 6) (H : Heap) (R : Facts) [hB : MemRows ab 4 (brows b.bins) R] :
    Fn Tryz.prog 16 [b.v (b.sl ab cb)] H R (fun v H' R' => FirstQ b v ∧ H' = H ∧ R' = R) := by
 refine fn_of Tryz.func16 rfl Tryz.ntmps16 rfl ?_
 refine sy_seq ?_
 refine sy_tx' [0, 1, 2] rfl ?_
 refine bx rfl rfl rfl (fun b1 => ?_)
 refine sp rfl (PE.assign rfl) rfl ?_
 refine sp rfl (PE.assign rfl) rfl ?_
 refine sy_seq ?_
 refine sy_tx' [0, 1, 2, 3, 4, 5, 6] rfl ?_
 refine spL rfl rfl (lhA (btl b (b.sl ab cb)) ag27 rfl rfl rfl) rfl ?_
 refine cl rfl cal15 rfl rfl (c_Longest b ab cb hl hr _ _) ?_
 rintro _ _ _ ⟨(⟨hck, rfl⟩ | ⟨hck, w, hw, rfl⟩), rfl, rfl⟩
 refine sp rfl (PE.move rfl) rfl ?_
 refine sp rfl (PE.extract rfl rfl) rfl ?_
 refine sp rfl (PE.extract rfl rfl) rfl ?_
 refine sp rfl (PE.assign rfl) rfl ?_
 refine sp rfl (PE.assign rfl) rfl ?_
 refine sy_seq ?_
 refine sy_block ?_
 refine sy_seq ?_
 refine sy_tx' [0, 1, 2] rfl ?_
 refine sp rfl (PE.move rfl) rfl ?_
 refine sp rfl (PE.neq rfl rfl) rfl ?_
 refine sp rfl (PE.assign rfl) rfl ?_
 refine sy_condT (congrArg (fun b => some (Value.bool b)) (decide_eq_true hck)) ?_
 refine sy_seq ?_
 refine sy_tx' [0, 1, 2] rfl ?_
 refine sp rfl (PE.move rfl) rfl ?_
 refine sp rfl (PE.assign rfl) rfl ?_
 refine sp rfl (PE.assign rfl) rfl ?_
 refine sy_ret ?_
 exact sy_return (vs := [_, _]) rfl (.cons (RV.tmp rfl) (.cons (RV.tmp rfl) .nil)) rfl ⟨.inl ⟨hck, rfl⟩, rfl, rfl⟩ drp
 refine sp rfl (PE.move rfl) rfl ?_
 refine sp rfl (PE.extract rfl rfl) rfl ?_
 refine sp rfl (PE.extract rfl rfl) rfl ?_
 refine sp rfl (PE.assign rfl) rfl ?_
 refine sp rfl (PE.assign rfl) rfl ?_
 refine sy_seq ?_
 refine sy_block ?_
 refine sy_seq ?_
 refine sy_tx' [0, 1, 2] rfl ?_
 refine sp rfl (PE.move rfl) rfl ?_
 refine sp rfl (PE.neq rfl rfl) rfl ?_
 refine sp rfl (PE.assign rfl) rfl ?_
 refine sy_condF (rfl) ?_
 refine sy_seq ?_
 refine sy_tx' [0, 1, 2] rfl ?_
 refine sp rfl (PE.move rfl) rfl ?_
 refine sp rfl (PE.eql rfl rfl) rfl ?_
 refine sp rfl (PE.assign rfl) rfl ?_
 refine sy_cond rfl (fun hc1 => ?_) (fun hc1 => ?_)
 try simp only [decide_eq_true_eq, decide_eq_false_iff_not, Bool.and_eq_true, Bool.or_eq_true, Bool.not_eq_true', Int.not_le, Int.not_lt] at hc1
 refine sy_seq ?_
 refine sy_tx' [0, 1] rfl ?_
 refine sp rfl (PE.assign rfl) rfl ?_
 refine sp rfl (PE.assign rfl) rfl ?_
 refine sy_ret ?_
 exact sy_return (vs := [_, _]) rfl (.cons (RV.tmp rfl) (.cons (RV.tmp rfl) .nil)) rfl ⟨.inr ⟨hck, w, hw, by rw [decide_eq_true hc1]; rfl⟩, rfl, rfl⟩ drp
 try simp only [decide_eq_true_eq, decide_eq_false_iff_not, Bool.and_eq_true, Bool.or_eq_true, Bool.not_eq_true', Int.not_le, Int.not_lt] at hc1
 refine sy_skip ?_
 refine sy_seq ?_
 refine sy_tx' [0, 1, 2] rfl ?_
 refine sp rfl (PE.move rfl) rfl ?_
 refine sp rfl (PE.assign rfl) rfl ?_
 refine sp rfl (PE.assign rfl) rfl ?_
 refine sy_ret ?_
 exact sy_return (vs := [_, _]) rfl (.cons (RV.tmp rfl) (.cons (RV.tmp rfl) .nil)) rfl ⟨.inr ⟨hck, w, hw, by rw [decide_eq_false hc1]; rfl⟩, rfl, rfl⟩ drp
theorem c_Spare (b : Barn) (ab : Option Addr) (cb : Nat) (hl : b.bins.length ≤ 9223372036854775807) (hr : b.rise.length = 6) (H : Heap) (R : Facts) [hB : MemRows ab 4 (brows b.bins) R] :
    Fn Tryz.prog 61 [b.v (b.sl ab cb)] H R (fun v H' R' => SpareQ b v ∧ H' = H ∧ R' = R) := by
 refine fn_of Tryz.func61 rfl Tryz.ntmps61 rfl ?_
 refine sy_seq ?_
 refine sy_tx' [0, 1, 2] rfl ?_
 refine bx rfl rfl rfl (fun b1 => ?_)
 refine sp rfl (PE.assign rfl) rfl ?_
 refine sp rfl (PE.assign rfl) rfl ?_
 refine sy_seq ?_
 refine sy_seq ?_
 refine sy_tx' [0, 1, 2] rfl ?_
 refine spL rfl rfl (lhA (btl b (b.sl ab cb)) ag27 rfl rfl rfl) rfl ?_
 refine clV rfl cal11 rfl rfl (c_Check b ab cb hl hr _ _) ?_
 refine sp rfl (PE.assign rfl) rfl ?_
 refine sy_seq ?_
 refine sy_tx' [0, 1] rfl ?_
 refine sp rfl (PE.move rfl) rfl ?_
 refine sp rfl (PE.neq rfl rfl) rfl ?_
 refine sy_cond rfl (fun hc0 => ?_) (fun hc0 => ?_)
 try simp only [decide_eq_true_eq, decide_eq_false_iff_not, Bool.and_eq_true, Bool.or_eq_true, Bool.not_eq_true', Int.not_le, Int.not_lt] at hc0
 refine sy_seq ?_
 refine sy_tx' [0, 1, 2] rfl ?_
 refine sp rfl (PE.move rfl) rfl ?_
 refine sp rfl (PE.assign rfl) rfl ?_
 refine sp rfl (PE.assign rfl) rfl ?_
 refine sy_ret ?_
 exact sy_return (vs := [_, _]) rfl (.cons (RV.tmp rfl) (.cons (RV.tmp rfl) .nil)) rfl ⟨.inl ⟨hc0, rfl⟩, rfl, rfl⟩ drp
 try simp only [decide_eq_true_eq, decide_eq_false_iff_not, Bool.and_eq_true, Bool.or_eq_true, Bool.not_eq_true', Int.not_le, Int.not_lt] at hc0
 have hck : b.check = 0 := by omega
 have hok := Barn.ok_of hr hck
 have hdk := b.dsk_ok hok
 have hl4 := hdk.lasts.len
 have hm4 := hdk.most.len
 have hmn := hok.many
 refine sy_skip ?_
 refine sy_seq ?_
 refine sy_seq ?_
 refine sy_tx' [0, 1] rfl ?_
 refine sp rfl (PE.fieldAddr fo27_1 rfl) rfl ?_
 refine sto rfl rfl rfl cn3 rfl rfl rfl rfl ?_
 refine sy_block ?_
 refine sy_loop (ι := {g : Nat // g ≤ b.bins.length + 1 ∧ ∀ j < g, b.ends j}) (fun g => ⟨[(1, .pointer (some ⟨b1, 0, none⟩))], (b1, cel 27 (btl (b.withG g.1) (b.sl ab cb))) :: H, R⟩) (fun g => b.bins.length + 1 - g.1) ⟨0, Nat.zero_le _, by omega⟩ ?_ (fun g => ?_)
 exact sy_at (by repeat' first | exact Sub.nil | apply Sub.cons | rfl | (simp [lk]; omega)) (fun _ h => h)
 obtain ⟨g, hg, hge⟩ := g
 dsimp only at hg hge ⊢
 have egg : (b.withG g).gangs = (g : Int) := rfl
 refine sy_seq ?_
 refine sy_seq ?_
 refine sy_tx' [0, 1, 2, 3, 4, 5] rfl ?_
 refine sp rfl (PE.fieldAddr fo27_1 rfl) rfl ?_
 refine spL rfl rfl (lh sc3 rfl rfl) rfl ?_
 refine sp rfl (PE.fieldAddr fo27_3 rfl) rfl ?_
 refine spL rfl rfl (lh sc25 rfl rfl) rfl ?_
 refine sp rfl (PE.lenSl isl25 rfl) rfl ?_
 refine sp rfl (PE.leq rfl rfl) rfl ?_
 refine sy_cond rfl (fun hc1 => ?_) (fun hc1 => ?_)
 try simp only [decide_eq_true_eq, decide_eq_false_iff_not, Bool.and_eq_true, Bool.or_eq_true, Bool.not_eq_true', Int.not_le, Int.not_lt] at hc1
 have hgk : (b.withG g).ok := b.withG_ok hok (by omega)
 refine sy_skip ?_
 refine sy_seq ?_
 refine sy_block ?_
 refine sy_seq ?_
 refine sy_tx' [0, 1, 2] rfl ?_
 refine spL rfl rfl (lhA (btl (b.withG g) (b.sl ab cb)) ag27 rfl rfl rfl) rfl ?_
 refine cl rfl cal77 rfl rfl (c_worked (b.withG g) ab cb hgk _ _) ?_
 rintro _ _ _ ⟨bd, m, rfl, rfl, rfl⟩
 refine sp rfl (PE.assign rfl) rfl ?_
 refine sy_seq ?_
 refine sy_tx' [0, 1] rfl ?_
 refine sp rfl (PE.move rfl) rfl ?_
 refine cl rfl cal25 rfl rfl (c_work (b.withG g) hgk ab cb bd m _ _) ?_
 rintro v _ _ ⟨n, kv, hn, hfx, hkv, rfl, rfl⟩
 have hks := kpt_of ((b.withG g).state_sts hgk) hn hfx
 have hkg := hkv.get _ ((b.withG g).state_sts hgk)
 refine sy_seq ?_
 refine sy_draw [0, 1, 3, 7, 0, 16, 63, 127] (.tk 0 (.tk 1 (.tk 2 (.ld 3 (.ld 4 (.big 5 (.ld 6 (.tk 7 .done)))))))) mixed (by kernel_rfl) ?_
 refine tk rfl (PE.move rfl) rfl ?_
 refine tk rfl (PE.nilCheck rfl) rfl ?_
 refine tk rfl (PE.fieldAddr fo72_3 rfl) rfl ?_
 refine ld rfl rfl (lfB (sz := 18) sc70 (dcs_map (b := b.withG g) hl4 hm4)) rfl ?_
 refine ld rfl rfl (lhA (btl (b.withG g) (b.sl ab cb)) ag27 rfl rfl rfl) rfl ?_
 refine clV rfl cal26 rfl rfl (c_state (b.withG g) ab cb hgk _ _) ?_
 refine bg (fun w hs => ⟨trivial, (lfB (sz := 18) sc70 (dcs_map (b := b.withG g) hl4 hm4)) w hs, trivial⟩) ?_
 refine ldK rfl rfl rfl ((lk_held (b := true) kv (b.withG g).state mke70 (KeyT.of eqf69 noa69) (run_zv zv3) (b.state_sml hok).len hkv.len false)) rfl ?_
 rw [hkg]
 refine tk rfl (PE.eql rfl rfl) rfl ?_
 refine sy_cond rfl (fun hc2 => ?_) (fun hc2 => ?_)
 try simp only [decide_eq_true_eq, decide_eq_false_iff_not, Bool.and_eq_true, Bool.or_eq_true, Bool.not_eq_true', Int.not_le, Int.not_lt] at hc2
 refine sy_seq ?_
 refine sy_tx' [0, 1, 2, 3] rfl ?_
 refine sp rfl (PE.fieldAddr fo27_1 rfl) rfl ?_
 refine spL rfl rfl (lh sc3 rfl rfl) rfl ?_
 refine sp rfl (PE.assign rfl) rfl ?_
 refine sp rfl (PE.assign rfl) rfl ?_
 refine sy_ret ?_
 exact sy_return (vs := [_, _]) rfl (.cons (RV.tmp rfl) (.cons (RV.tmp rfl) .nil)) rfl ⟨.inr ⟨hck, .inl ⟨g, by omega, hge, hc2 ▸ hks, rfl⟩⟩, rfl, rfl⟩ (fun w h => ((h.del m).del b1).ftail)
 try simp only [decide_eq_true_eq, decide_eq_false_iff_not, Bool.and_eq_true, Bool.or_eq_true, Bool.not_eq_true', Int.not_le, Int.not_lt] at hc2
 refine sy_skip ?_
 refine sy_tx' [0, 1, 2, 3, 4] rfl ?_
 refine sp rfl (PE.fieldAddr fo27_1 rfl) rfl ?_
 refine spL rfl rfl (lh sc3 rfl rfl) rfl ?_
 refine sp rfl (PE.add rfl rfl (by have : (b.withG g).gangs = g := rfl; omega)) rfl ?_
 refine sp rfl (PE.fieldAddr fo27_1 rfl) rfl ?_
 refine sto rfl rfl rfl cn3 rfl rfl rfl rfl ?_
 exact sy_next ⟨g + 1, by omega, fun j hj => by
   rcases Nat.lt_or_ge j g with h1 | h1
   · exact hge j h1
   · obtain rfl : j = g := by omega
     exact ⟨_, hc2, hks⟩⟩ (by dsimp only; omega) (by repeat' first | exact Sub.nil | apply Sub.cons | rfl | (simp [lk]; omega)) (fun w h => (h.del m).ftail)
 try simp only [decide_eq_true_eq, decide_eq_false_iff_not, Bool.and_eq_true, Bool.or_eq_true, Bool.not_eq_true', Int.not_le, Int.not_lt] at hc1
 obtain rfl : g = b.bins.length + 1 := by omega
 refine sy_exit ?_
 repeat refine sy_tx ?_
 refine sy_bx ?_
 refine sy_seq ?_
 refine sy_tx' [0, 1] rfl ?_
 refine sp rfl (PE.assign rfl) rfl ?_
 refine sp rfl (PE.assign rfl) rfl ?_
 refine sy_ret ?_
 exact sy_return (vs := [_, _]) rfl (.cons (RV.tmp rfl) (.cons (RV.tmp rfl) .nil)) rfl ⟨.inr ⟨hck, .inr ⟨fun j hj => hge j (by omega), rfl⟩⟩, rfl, rfl⟩ (fun w h => h.del b1)
end Go.Proofs.YtelegnmfhjfbaaaGreat
namespace Go.Proofs.YtelegnmfhjfbaaaGreat
set_option linter.unusedSimpArgs false
set_option linter.unusedVariables false
open Go
theorem cal119 : cal Tryz.prog 119 = true := by kernel_rfl
theorem el23 : elN Tryz.prog 23 = some 1 := by kernel_rfl
theorem isl23 : isSl Tryz.prog 23 = true := by kernel_rfl
theorem sc22 : scal Tryz.prog 22 = true := by kernel_rfl
structure PL where
  a : Option Addr
  c : Nat
  l : List Int
def plrow (x : PL) : List Value := [.slice x.a x.l.length x.c]
def plrows (l : List PL) : List (List Value) := l.map plrow
def Inn (l : List PL) (w : World) : Prop := ∀ x ∈ l, RowsA x.a 1 (irows x.l) w
def lls (l : List PL) : List (List Int) := l.map (·.l)
theorem plrows_len (l : List PL) : (plrows l).length = l.length := List.length_map _
theorem pl_get {l : List PL} {k : Nat} {x : PL} (h : l[k]? = some x) : (plrows l)[k]? = some (plrow x) := by simp [plrows, h]
theorem lls_get {l : List PL} {k : Nat} {x : PL} (h : l[k]? = some x) : (lls l)[k]? = some x.l := by simp [lls, h]
theorem lls_len (l : List PL) : (lls l).length = l.length := List.length_map _
theorem St.inn {H : Heap} {R : Facts} {w : World} {l : List PL} {x : PL} [m : MemF (Inn l) R] (h : St H R w) (hx : x ∈ l) : St H (RowsA x.a 1 (irows x.l) :: R) w :=
  h.also fun _ hw => hw _ m.mem x hx
theorem ir_get {l : List Int} {k : Nat} {x : Int} (h : l[k]? = some x) : (irows l)[k]? = some [.int .i64 x] := by simp [h]
theorem irows_len (l : List Int) : (irows l).length = l.length := List.length_map _
def sinc : List Int → Bool
  | x :: y :: l => decide (x < y) && sinc (y :: l)
  | _ => true
def dayErr (n g : Int) (l : List Int) : Int := bif !(l.all fun k => inB k 0 (n - 1)) then 1 else bif !(sinc l) then 4 else bif decide (g < (l.length : Int)) then 9 else 0
def daysErr (n g : Int) : List (List Int) → Int
  | [] => 0
  | l :: p => bif decide (dayErr n g l = 0) then daysErr n g p else dayErr n g l
def planErr (n g : Int) (p : List (List Int)) : Int := bif decide (20000 < p.length) then 2 else daysErr n g p
theorem daysErr_drop {n g : Int} {p : List (List Int)} {k : Nat} {l : List Int} (h : p[k]? = some l) : daysErr n g (p.drop k) = bif decide (dayErr n g l = 0) then daysErr n g (p.drop (k + 1)) else dayErr n g l := by
  rw [show p.drop k = l :: p.drop (k + 1) by rw [List.drop_eq_getElem_cons (List.getElem?_eq_some_iff.1 h).1, (List.getElem?_eq_some_iff.1 h).2]]
  rfl
theorem sinc_no : ∀ {l : List Int} {k : Nat} {x y : Int}, l[k]? = some x → l[k + 1]? = some y → y ≤ x → sinc l = false
  | a :: b :: l, 0, x, y, hx, hy, h => by
    simp only [List.getElem?_cons_zero, Option.some.injEq, Nat.zero_add, List.getElem?_cons_succ] at hx hy
    subst hx; subst hy
    unfold sinc; rw [decide_eq_false (by omega)]; rfl
  | a :: b :: l, k + 1, x, y, hx, hy, h => by
    unfold sinc
    rw [sinc_no (l := b :: l) (k := k) (by simpa using hx) (by simpa using hy) h, Bool.and_false]
  | [a], 0, x, y, hx, hy, h => by simp at hy
  | [a], k + 1, x, y, hx, hy, h => by simp at hx
  | [], k, x, y, hx, hy, h => by simp at hx
theorem sinc_yes : ∀ {l : List Int}, (∀ i x y, l[i]? = some x → l[i + 1]? = some y → x < y) → sinc l = true
  | [], _ => rfl
  | [a], _ => rfl
  | a :: b :: l, h => by
    unfold sinc
    rw [decide_eq_true (h 0 a b rfl rfl), Bool.true_and]
    exact sinc_yes fun i x y hx hy => h (i + 1) x y (by simpa using hx) (by simpa using hy)
theorem c_index_int (xs : List Int) (a : Option Addr) (c : Nat) (v : Int) (hl : xs.length ≤ 9223372036854775807) (H : Heap) (R : Facts) [hR : MemRows a 1 (irows xs) R] :
    FnV Tryz.prog 119 [.slice a xs.length c, .int .i64 v] H R (.int .i64 (match xs.findIdx? (fun x => decide (v = x)) with | some k => (k : Int) | none => -1)) := by
 refine fn_of Tryz.func119 rfl Tryz.ntmps119 rfl ?_
 refine sy_seq ?_
 refine sy_tx' [0] rfl ?_
 refine sp rfl (PE.assign rfl) rfl ?_
 refine sy_seq ?_
 refine sy_seq ?_
 refine sy_tx' [0, 1, 2] rfl ?_
 refine sp rfl (PE.move rfl) rfl ?_
 refine sp rfl (PE.lenSl isl22 rfl) rfl ?_
 refine sp rfl (PE.move rfl) rfl ?_
 refine sy_block ?_
 refine sy_loop (ι := {k : Nat // k ≤ xs.length ∧ ∀ x ∈ xs.take k, decide (v = x) = false}) (fun k => ⟨[(0, .slice a xs.length c), (1, .int .i64 v), (7, .int .i64 xs.length), (8, .int .i64 k.1)], H, R⟩) (fun k => xs.length - k.1) ⟨0, by simp⟩ ?_ (fun k => ?_)
 exact sy_at (by repeat' first | exact Sub.nil | apply Sub.cons | rfl | (simp [lk]; omega)) (fun _ h => h)
 obtain ⟨k, hk, hn⟩ := k
 dsimp only
 refine sy_seq ?_
 refine sy_tx' [0] rfl ?_
 refine sp rfl (PE.lss rfl rfl) rfl ?_
 refine sy_seq ?_
 refine sy_cond rfl (fun hc0 => ?_) (fun hc0 => ?_)
 try simp only [decide_eq_true_eq, decide_eq_false_iff_not, Bool.and_eq_true, Bool.or_eq_true, Bool.not_eq_true', Int.not_le, Int.not_lt] at hc0
 obtain ⟨x, hx⟩ : ∃ x, xs[k]? = some x := ⟨_, List.getElem?_eq_getElem (by omega)⟩
 refine sy_addr (a := a) (sz := 1) (rows := irows xs) (by cases xs <;> simp_all) (fun b off he => ?_)
 subst he
 refine sy_skip ?_
 refine sy_seq ?_
 refine sy_block ?_
 refine sy_seq ?_
 refine sy_tx' [0, 1] rfl ?_
 refine sp rfl (PE.move rfl) rfl ?_
 refine sp rfl (PE.assign rfl) rfl ?_
 refine sy_seq ?_
 refine sy_tx' [0, 1, 2, 3, 4, 5] rfl ?_
 refine sp rfl (PE.move rfl) rfl ?_
 refine sp rfl (PE.move rfl) rfl ?_
 refine sp rfl (PE.move rfl) rfl ?_
 refine sp rfl (PE.indexAddr el22 rfl rfl (by omega) (by omega)) rfl ?_
 refine spL rfl rfl (lf0 sc3 (ir_get hx) rfl) rfl ?_
 refine sp rfl (PE.eql rfl rfl) rfl ?_
 refine sy_cond rfl (fun hc1 => ?_) (fun hc1 => ?_)
 refine sy_seq ?_
 refine sy_tx' [0, 1] rfl ?_
 refine sp rfl (PE.move rfl) rfl ?_
 refine sp rfl (PE.assign rfl) rfl ?_
 refine sy_ret ?_
 first | (exact sy_return (vs := [_]) rfl (.cons (RV.tmp rfl) .nil) rfl ⟨by rw [find_hit hx hn hc1]; rfl, rfl, rfl⟩ (fun _ h => h)) | (exact sy_return (vs := [_]) rfl (.cons (RV.tmp rfl) .nil) rfl ⟨by rw [find_miss (by simpa using hn)]; rfl, rfl, rfl⟩ (fun _ h => h))
 refine sy_skip ?_
 refine sy_tx' [0, 1] rfl ?_
 refine sp rfl (PE.add rfl rfl (by omega)) rfl ?_
 refine sp rfl (PE.move rfl) rfl ?_
 exact sy_next ⟨k + 1, by omega, take_miss hx hn hc1⟩ (by dsimp only; omega) (by repeat' first | exact Sub.nil | apply Sub.cons | rfl | (simp [lk]; omega)) (fun _ h => h)
 try simp only [decide_eq_true_eq, decide_eq_false_iff_not, Bool.and_eq_true, Bool.or_eq_true, Bool.not_eq_true', Int.not_le, Int.not_lt] at hc0
 obtain rfl : k = xs.length := by omega
 refine sy_exit ?_
 repeat refine sy_tx ?_
 refine sy_bx ?_
 refine sy_seq ?_
 refine sy_tx' [0] rfl ?_
 refine sp rfl (PE.assign rfl) rfl ?_
 refine sy_ret ?_
 first | (exact sy_return (vs := [_]) rfl (.cons (RV.tmp rfl) .nil) rfl ⟨by rw [find_hit hx hn hc1]; rfl, rfl, rfl⟩ (fun _ h => h)) | (exact sy_return (vs := [_]) rfl (.cons (RV.tmp rfl) .nil) rfl ⟨by rw [find_miss (by simpa using hn)]; rfl, rfl, rfl⟩ (fun _ h => h))
theorem c_contains_int (xs : List Int) (a : Option Addr) (c : Nat) (v : Int) (hl : xs.length ≤ 9223372036854775807) (H : Heap) (R : Facts) [hR : MemRows a 1 (irows xs) R] :
    FnV Tryz.prog 70 [.slice a xs.length c, .int .i64 v] H R (.bool (xs.any fun x => decide (v = x))) := by
 refine fn_of Tryz.func70 rfl Tryz.ntmps70 rfl ?_
 refine sy_seq ?_
 refine sy_tx' [0] rfl ?_
 refine sp rfl (PE.assign rfl) rfl ?_
 refine sy_seq ?_
 refine sy_tx' [0, 1, 2, 3, 4] rfl ?_
 refine sp rfl (PE.move rfl) rfl ?_
 refine sp rfl (PE.move rfl) rfl ?_
 refine clV rfl cal119 rfl rfl (c_index_int xs a c v hl _ _) ?_
 refine sp rfl (PE.geq rfl rfl) rfl ?_
 refine sp rfl (PE.assign rfl) rfl ?_
 refine sy_ret ?_
 exact sy_return (vs := [_]) rfl (.cons (RV.tmp rfl) .nil) rfl ⟨by simp only [retV]; exact idx_any _ _, rfl, rfl⟩ drp
theorem c_plan (b : Barn) (ab : Option Addr) (cb : Nat) (hl : b.bins.length ≤ 9223372036854775807) (pl : List PL) (ap : Option Addr) (cp : Nat) (hpl : pl.length ≤ 9223372036854775807) (hpi : ∀ x ∈ pl, x.l.length ≤ 9223372036854775807) (H : Heap) (R : Facts) [hP : MemRows ap 1 (plrows pl) R] [hI : MemF (Inn pl) R] :
    FnV Tryz.prog 66 [b.v (b.sl ab cb), .slice ap pl.length cp] H R (.int .i64 (planErr ((b.bins.length : Int)) b.gangs (lls pl))) := by
 refine fn_of Tryz.func66 rfl Tryz.ntmps66 rfl ?_
 refine sy_seq ?_
 refine sy_tx' [0, 1] rfl ?_
 refine bx rfl rfl rfl (fun b2 => ?_)
 refine sp rfl (PE.assign rfl) rfl ?_
 refine sy_seq ?_
 refine sy_seq ?_
 refine sy_tx' [0, 1, 2] rfl ?_
 refine sp rfl (PE.move rfl) rfl ?_
 refine sp rfl (PE.lenSl isl23 rfl) rfl ?_
 refine sp rfl (PE.gtr rfl rfl) rfl ?_
 refine sy_cond rfl (fun hc0 => ?_) (fun hc0 => ?_)
 try simp only [decide_eq_true_eq, decide_eq_false_iff_not, Bool.and_eq_true, Bool.or_eq_true, Bool.not_eq_true', Int.not_le, Int.not_lt] at hc0
 have e : planErr ((b.bins.length : Int)) b.gangs (lls pl) = 2 := by unfold planErr; rw [lls_len, decide_eq_true (by omega)]; rfl
 refine sy_seq ?_
 refine sy_tx' [0] rfl ?_
 refine sp rfl (PE.assign rfl) rfl ?_
 refine sy_ret ?_
 exact sy_return (vs := [_]) rfl (.cons (RV.tmp rfl) .nil) rfl ⟨by first | (rw [e, e2]; rfl) | (rw [e]; rfl), rfl, rfl⟩ (fun w h => by first | exact St.sub (h.del b2) | skip)
 try simp only [decide_eq_true_eq, decide_eq_false_iff_not, Bool.and_eq_true, Bool.or_eq_true, Bool.not_eq_true', Int.not_le, Int.not_lt] at hc0
 have e : planErr ((b.bins.length : Int)) b.gangs (lls pl) = daysErr ((b.bins.length : Int)) b.gangs (lls pl) := by unfold planErr; rw [lls_len, decide_eq_false (by omega)]; rfl
 refine sy_skip ?_
 refine sy_seq ?_
 refine sy_seq ?_
 refine sy_tx' [0, 1, 2] rfl ?_
 refine sp rfl (PE.move rfl) rfl ?_
 refine sp rfl (PE.lenSl isl23 rfl) rfl ?_
 refine sp rfl (PE.move rfl) rfl ?_
 refine sy_block ?_
 refine sy_loop (ι := {k : Nat // k ≤ pl.length ∧ daysErr ((b.bins.length : Int)) b.gangs (lls pl) = daysErr ((b.bins.length : Int)) b.gangs ((lls pl).drop k)}) (fun k => ⟨[(2, .pointer (some ⟨b2, 0, none⟩)), (11, .slice ap pl.length cp), (12, .int .i64 pl.length), (13, .int .i64 k.1)], (b2, cel 27 (btl b (b.sl ab cb))) :: H, R⟩) (fun k => pl.length - k.1) ⟨0, Nat.zero_le _, rfl⟩ ?_ (fun k => ?_)
 exact sy_at (by repeat' first | exact Sub.nil | apply Sub.cons | rfl | (simp [lk]; omega)) (fun _ h => h)
 obtain ⟨k, hk, hke⟩ := k
 dsimp only at hk hke ⊢
 refine sy_seq ?_
 refine sy_tx' [0] rfl ?_
 refine sp rfl (PE.lss rfl rfl) rfl ?_
 refine sy_seq ?_
 refine sy_cond rfl (fun hc1 => ?_) (fun hc1 => ?_)
 try simp only [decide_eq_true_eq, decide_eq_false_iff_not, Bool.and_eq_true, Bool.or_eq_true, Bool.not_eq_true', Int.not_le, Int.not_lt] at hc1
 obtain ⟨x, hx⟩ : ∃ x, pl[k]? = some x := ⟨_, List.getElem?_eq_getElem (by omega)⟩
 have hxm := List.mem_of_getElem? hx
 have hxl := hpi x hxm
 rw [daysErr_drop (lls_get hx)] at hke
 refine sy_addr (a := ap) (sz := 1) (rows := plrows pl) (by intro h0; have := congrArg List.length h0; rw [plrows_len] at this; simp only [List.length_nil] at this; omega) (fun ba oa he => ?_)
 subst he
 refine Sy.heap (fun w h => St.inn (x := x) h hxm) ?_
 refine sy_skip ?_
 refine sy_seq ?_
 refine sy_block ?_
 refine sy_seq ?_
 refine sy_tx' [0, 1, 2] rfl ?_
 refine sp rfl (PE.indexAddr el23 rfl rfl (by omega) (by omega)) rfl ?_
 refine spL rfl rfl (lf0 sc22 (pl_get hx) rfl) rfl ?_
 refine sp rfl (PE.assign rfl) rfl ?_
 refine sy_seq ?_
 refine sy_seq ?_
 refine sy_tx' [0, 1, 2, 3, 4] rfl ?_
 refine sp rfl (PE.move rfl) rfl ?_
 refine spL rfl rfl (lhA (btl b (b.sl ab cb)) ag27 rfl rfl rfl) rfl ?_
 refine sp rfl (PE.makeFunc rfl rfl) rfl ?_
 refine clV rfl cal50 rfl rfl (c_every_int x.l x.a x.c 112 [b.v (b.sl ab cb)] [] (fun k => inB k 0 (((b.bins.length : Int)) - 1)) cal112 hxl _ _ (fun _ y _ => c_bin b ab cb y hl _ _)) ?_
 refine sp rfl (PE.not rfl) rfl ?_
 refine sy_cond rfl (fun hc2 => ?_) (fun hc2 => ?_)
 have ed : dayErr ((b.bins.length : Int)) b.gangs x.l = 1 := by unfold dayErr; rw [hc2]; rfl
 rw [ed] at hke
 have e2 : daysErr ((b.bins.length : Int)) b.gangs (lls pl) = 1 := hke
 refine sy_seq ?_
 refine sy_tx' [0] rfl ?_
 refine sp rfl (PE.assign rfl) rfl ?_
 refine sy_ret ?_
 exact sy_return (vs := [_]) rfl (.cons (RV.tmp rfl) .nil) rfl ⟨by first | (rw [e, e2]; rfl) | (rw [e]; rfl), rfl, rfl⟩ (fun w h => by first | exact St.sub (h.del b2) | skip)
 refine sy_skip ?_
 refine sy_seq ?_
 refine sy_seq ?_
 refine sy_tx' [0] rfl ?_
 refine sp rfl (PE.assign rfl) rfl ?_
 refine sy_block ?_
 refine sy_loop (ι := {i : Nat // 1 ≤ i ∧ i ≤ x.l.length + 1 ∧ ∀ j u v, j + 1 < i → x.l[j]? = some u → x.l[j + 1]? = some v → u < v}) (fun i => ⟨[(2, .pointer (some ⟨b2, 0, none⟩)), (11, .slice (some ⟨ba, oa, none⟩) pl.length cp), (12, .int .i64 pl.length), (13, .int .i64 k), (6, .slice x.a x.l.length x.c), (7, .int .i64 i.1)], (b2, cel 27 (btl b (b.sl ab cb))) :: H, RowsA x.a 1 (irows x.l) :: R⟩) (fun i => x.l.length + 1 - i.1) ⟨1, Nat.le_refl _, by omega, fun j u v hj => by omega⟩ ?_ (fun i => ?_)
 exact sy_at (by repeat' first | exact Sub.nil | apply Sub.cons | rfl | (simp [lk]; omega)) (fun _ h => h)
 obtain ⟨i, hi1, hi2, his⟩ := i
 dsimp only at hi1 hi2 his ⊢
 refine sy_seq ?_
 refine sy_seq ?_
 refine sy_tx' [0, 1, 2, 3] rfl ?_
 refine sp rfl (PE.move rfl) rfl ?_
 refine sp rfl (PE.move rfl) rfl ?_
 refine sp rfl (PE.lenSl isl22 rfl) rfl ?_
 refine sp rfl (PE.lss rfl rfl) rfl ?_
 refine sy_cond rfl (fun hc3 => ?_) (fun hc3 => ?_)
 try simp only [decide_eq_true_eq, decide_eq_false_iff_not, Bool.and_eq_true, Bool.or_eq_true, Bool.not_eq_true', Int.not_le, Int.not_lt] at hc3
 obtain ⟨u, hu⟩ : ∃ u, x.l[i - 1]? = some u := ⟨_, List.getElem?_eq_getElem (by omega)⟩
 obtain ⟨v, hv⟩ : ∃ v, x.l[i]? = some v := ⟨_, List.getElem?_eq_getElem (by omega)⟩
 have hv' : x.l[i - 1 + 1]? = some v := by rw [Nat.sub_add_cancel hi1]; exact hv
 refine sy_addr (a := x.a) (sz := 1) (rows := irows x.l) (by intro h0; have := congrArg List.length h0; rw [irows_len] at this; simp only [List.length_nil] at this; omega) (fun bx ox he => ?_)
 rw [he]
 refine sy_skip ?_
 refine sy_seq ?_
 refine sy_block ?_
 refine sy_seq ?_
 refine sy_draw [0, 0, 3, 7, 0, 0, 32, 112, 240, 511] (.tk 0 (.tk 1 (.tk 2 (.ld 3 (.tk 4 (.tk 5 (.tk 6 (.tk 7 (.ld 8 (.tk 9 .done)))))))))) mixed (by kernel_rfl) ?_
 refine tk rfl (PE.move rfl) rfl ?_
 refine tk rfl (PE.move rfl) rfl ?_
 refine tk rfl (PE.indexAddr el22 rfl rfl (by omega) (by omega)) rfl ?_
 refine ld rfl rfl (lf0 sc3 (ir_get hv) rfl) rfl ?_
 refine tk rfl (PE.move rfl) rfl ?_
 refine tk rfl (PE.move rfl) rfl ?_
 refine tk rfl (PE.sub rfl rfl (by omega)) rfl ?_
 refine tk rfl (PE.indexAddr el22 rfl rfl (by omega) (by omega)) rfl ?_
 refine ld rfl rfl (lf0 (row := [.int .i64 u]) sc3 (by rw [show ((i : Int) - 1).toNat = i - 1 by omega]; exact ir_get hu) rfl) rfl ?_
 refine tk rfl (PE.leq rfl rfl) rfl ?_
 refine sy_cond rfl (fun hc4 => ?_) (fun hc4 => ?_)
 try simp only [decide_eq_true_eq, decide_eq_false_iff_not, Bool.and_eq_true, Bool.or_eq_true, Bool.not_eq_true', Int.not_le, Int.not_lt] at hc4
 have ed : dayErr ((b.bins.length : Int)) b.gangs x.l = 4 := by unfold dayErr; rw [hc2, sinc_no hu hv' hc4]; rfl
 rw [ed] at hke
 have e2 : daysErr ((b.bins.length : Int)) b.gangs (lls pl) = 4 := hke
 refine sy_seq ?_
 refine sy_tx' [0] rfl ?_
 refine sp rfl (PE.assign rfl) rfl ?_
 refine sy_ret ?_
 exact sy_return (vs := [_]) rfl (.cons (RV.tmp rfl) .nil) rfl ⟨by first | (rw [e, e2]; rfl) | (rw [e]; rfl), rfl, rfl⟩ (fun w h => by first | exact St.sub (h.del b2) | skip)
 try simp only [decide_eq_true_eq, decide_eq_false_iff_not, Bool.and_eq_true, Bool.or_eq_true, Bool.not_eq_true', Int.not_le, Int.not_lt] at hc4
 refine sy_skip ?_
 refine sy_tx' [0, 1, 2] rfl ?_
 refine sp rfl (PE.move rfl) rfl ?_
 refine sp rfl (PE.add rfl rfl (by omega)) rfl ?_
 refine sp rfl (PE.assign rfl) rfl ?_
 exact sy_next ⟨i + 1, by omega, by omega, fun j u' v' hj hu' hv2 => by
   rcases Nat.lt_or_ge (j + 1) i with h1 | h1
   · exact his j u' v' h1 hu' hv2
   · obtain rfl : j = i - 1 := by omega
     rw [hu] at hu'; rw [hv'] at hv2; cases hu'; cases hv2; exact hc4⟩ (by dsimp only; omega) (by repeat' first | exact Sub.nil | apply Sub.cons | rfl | (simp [lk]; omega)) (fun _ h => h)
 try simp only [decide_eq_true_eq, decide_eq_false_iff_not, Bool.and_eq_true, Bool.or_eq_true, Bool.not_eq_true', Int.not_le, Int.not_lt] at hc3
 have hsi : sinc x.l = true := sinc_yes fun j u v hu hv => his j u v (by have := (List.getElem?_eq_some_iff.1 hv).1; omega) hu hv
 refine sy_exit ?_
 repeat refine sy_tx ?_
 refine sy_bx ?_
 refine sy_seq ?_
 refine sy_tx' [0, 1, 2, 3, 4] rfl ?_
 refine sp rfl (PE.move rfl) rfl ?_
 refine sp rfl (PE.lenSl isl22 rfl) rfl ?_
 refine sp rfl (PE.fieldAddr fo27_1 rfl) rfl ?_
 refine spL rfl rfl (lh sc3 rfl rfl) rfl ?_
 refine sp rfl (PE.gtr rfl rfl) rfl ?_
 refine sy_cond rfl (fun hc5 => ?_) (fun hc5 => ?_)
 try simp only [decide_eq_true_eq, decide_eq_false_iff_not, Bool.and_eq_true, Bool.or_eq_true, Bool.not_eq_true', Int.not_le, Int.not_lt] at hc5
 have ed : dayErr ((b.bins.length : Int)) b.gangs x.l = 9 := by unfold dayErr; rw [hc2, hsi, decide_eq_true hc5]; rfl
 rw [ed] at hke
 have e2 : daysErr ((b.bins.length : Int)) b.gangs (lls pl) = 9 := hke
 refine sy_seq ?_
 refine sy_tx' [0] rfl ?_
 refine sp rfl (PE.assign rfl) rfl ?_
 refine sy_ret ?_
 exact sy_return (vs := [_]) rfl (.cons (RV.tmp rfl) .nil) rfl ⟨by first | (rw [e, e2]; rfl) | (rw [e]; rfl), rfl, rfl⟩ (fun w h => by first | exact St.sub (h.del b2) | skip)
 try simp only [decide_eq_true_eq, decide_eq_false_iff_not, Bool.and_eq_true, Bool.or_eq_true, Bool.not_eq_true', Int.not_le, Int.not_lt] at hc5
 have ed : dayErr ((b.bins.length : Int)) b.gangs x.l = 0 := by unfold dayErr; rw [hc2, hsi, decide_eq_false (by omega)]; rfl
 rw [ed] at hke
 refine sy_skip ?_
 refine sy_tx' [0, 1] rfl ?_
 refine sp rfl (PE.add rfl rfl (by omega)) rfl ?_
 refine sp rfl (PE.move rfl) rfl ?_
 exact sy_next ⟨k + 1, by omega, hke⟩ (by dsimp only; omega) (by repeat' first | exact Sub.nil | apply Sub.cons | rfl | (simp [lk]; omega)) (fun w h => h.ftail)
 try simp only [decide_eq_true_eq, decide_eq_false_iff_not, Bool.and_eq_true, Bool.or_eq_true, Bool.not_eq_true', Int.not_le, Int.not_lt] at hc1
 obtain rfl : k = pl.length := by omega
 rw [show (lls pl).drop pl.length = [] by rw [List.drop_eq_nil_iff, lls_len]; exact Nat.le_refl _] at hke
 have e2 : daysErr ((b.bins.length : Int)) b.gangs (lls pl) = 0 := hke
 refine sy_exit ?_
 repeat refine sy_tx ?_
 refine sy_bx ?_
 refine sy_seq ?_
 refine sy_tx' [0] rfl ?_
 refine sp rfl (PE.assign rfl) rfl ?_
 refine sy_ret ?_
 exact sy_return (vs := [_]) rfl (.cons (RV.tmp rfl) .nil) rfl ⟨by first | (rw [e, e2]; rfl) | (rw [e]; rfl), rfl, rfl⟩ (fun w h => by first | exact St.sub (h.del b2) | skip)
end Go.Proofs.YtelegnmfhjfbaaaGreat
namespace Go.Proofs.YtelegnmfhjfbaaaGreat
set_option linter.unusedSimpArgs false
set_option linter.unusedVariables false
open Go
theorem cal113 : cal Tryz.prog 113 = true := by kernel_rfl
theorem cal115 : cal Tryz.prog 115 = true := by kernel_rfl
theorem cal65 : cal Tryz.prog 65 = true := by kernel_rfl
theorem cal66 : cal Tryz.prog 66 = true := by kernel_rfl
theorem cal70 : cal Tryz.prog 70 = true := by kernel_rfl
def Barn.wd (b : Barn) (x : HBin) (w : Int) (t : Bool) : Int := (bif t then min w b.cool else w) + b.worst x
def hasI (l : List Int) (k : Int) : Bool := l.any fun y => decide (k = y)
def hb0 : HBin := ⟨0, 0, 0, 0⟩
def Barn.wdAt (b : Barn) (ws l : List Int) (k : Nat) : Int := b.wd (b.bins.getD k hb0) (na ws k) (hasI l k)
def Barn.hotAt (b : Barn) (ws l : List Int) (k : Nat) : Bool := decide ((b.bins.getD k hb0).mark < b.wdAt ws l k)
def Barn.dayW (b : Barn) (ws l : List Int) : List Int := (List.range b.bins.length).map (b.wdAt ws l)
def Barn.burnsF (b : Barn) : List Int → List (List Int) → Nat → Option (Nat × Nat) × List Int
  | ws, [], _ => (none, ws)
  | ws, l :: p, d => match (List.range b.bins.length).find? (b.hotAt ws l) with
    | some k => (some (d, k), ws)
    | none => b.burnsF (b.dayW ws l) p (d + 1)
def Barn.warms (b : Barn) : List Int := b.bins.map (·.warm)
structure Cool (b : Barn) (ws : List Int) : Prop where
  len : ws.length = b.bins.length
  at_ : ∀ k x, b.bins[k]? = some x → 0 ≤ na ws k ∧ na ws k ≤ x.mark
theorem Barn.dayW_len (b : Barn) (ws l : List Int) : (b.dayW ws l).length = b.bins.length := by simp [Barn.dayW]
theorem Barn.dayW_at {b : Barn} {ws l : List Int} {k : Nat} (hk : k < b.bins.length) : (b.dayW ws l)[k]? = some (b.wdAt ws l k) := by unfold Barn.dayW; rw [List.getElem?_map, List.getElem?_range hk]; rfl
theorem bin_getD {b : Barn} {k : Nat} {x : HBin} (hx : b.bins[k]? = some x) : b.bins.getD k hb0 = x := by rw [List.getD_eq_getElem?_getD, hx]; rfl
theorem Barn.wdAt_of {b : Barn} {ws l : List Int} {k : Nat} {x : HBin} (hx : b.bins[k]? = some x) : b.wdAt ws l k = b.wd x (na ws k) (hasI l k) := by unfold Barn.wdAt; rw [bin_getD hx]
theorem Cool.start {b : Barn} (hb : b.ok) : Cool b b.warms where
  len := List.length_map _
  at_ k x hx := by
    have h := (hb.bins x (List.mem_of_getElem? hx)).2.1
    have e : na b.warms k = x.warm := by unfold na Barn.warms; rw [List.getD_eq_getElem?_getD, List.getElem?_map, hx]; rfl
    rw [e]; exact h
theorem Barn.find_no {b : Barn} {ws l : List Int} (h : ∀ k < b.bins.length, b.hotAt ws l k = false) : (List.range b.bins.length).find? (b.hotAt ws l) = none := by
  rw [List.find?_eq_none]; intro k hk; simp [h k (List.mem_range.1 hk)]
theorem find_range {n k : Nat} {p : Nat → Bool} (hk : k < n) (hp : p k = true) (hn : ∀ j < k, p j = false) : (List.range n).find? p = some k := by
  rw [List.find?_range_eq_some]
  exact ⟨hp, List.mem_range.2 hk, fun j hj => by simp [hn j hj]⟩
theorem Cool.next {b : Barn} (hb : b.ok) {ws l : List Int} (h : Cool b ws) (hn : ∀ k < b.bins.length, b.hotAt ws l k = false) : Cool b (b.dayW ws l) where
  len := b.dayW_len _ _
  at_ k x hx := by
    have hk := (List.getElem?_eq_some_iff.1 hx).1
    have e : na (b.dayW ws l) k = b.wdAt ws l k := na_at (b.dayW_at hk)
    have h1 := of_decide_eq_false (hn k hk)
    rw [bin_getD hx] at h1
    have h2 := h.at_ k x hx
    have h3 := b.worst_range hb (List.mem_of_getElem? hx)
    have h4 := hb.cool
    rw [e]
    refine ⟨?_, by omega⟩
    rw [b.wdAt_of hx]
    unfold Barn.wd
    cases hasI l k <;> simp only [cond_true, cond_false] <;> omega
theorem Barn.burns_drop {b : Barn} {ws : List Int} {p : List (List Int)} {d : Nat} {l : List Int} (h : p[d]? = some l) : b.burnsF ws (p.drop d) d = match (List.range b.bins.length).find? (b.hotAt ws l) with
    | some k => (some (d, k), ws)
    | none => b.burnsF (b.dayW ws l) (p.drop (d + 1)) (d + 1) := by
  rw [show p.drop d = l :: p.drop (d + 1) by rw [List.drop_eq_getElem_cons (List.getElem?_eq_some_iff.1 h).1, (List.getElem?_eq_some_iff.1 h).2]]
  rfl
theorem spl_junk {l : List Int} {junk : List Value} {k i : Nat} {v : Int} (hk : k < l.length) (e : i = k) : spl (ints l ++ junk) i [.int .i64 v] = ints (l.set k v) ++ junk := by
  subst e
  rw [spl_set (by rw [List.length_append, ints_length]; omega), List.set_append_left _ _ (by rw [ints_length]; exact hk), ints_set]
theorem get_junk {l : List Int} {junk : List Value} {k i : Nat} {v : Int} (h : l[k]? = some v) (e : i = k) : (ints l ++ junk)[i]? = some (.int .i64 v) := by
  subst e
  rw [List.getElem?_append_left (by rw [ints_length]; exact (List.getElem?_eq_some_iff.1 h).1)]
  exact ints_get h
def BurnsQ (b : Barn) (p : List (List Int)) (H : Heap) (R : Facts) : Value → Heap → Facts → Prop := fun v H' R' => R' = R ∧
  ((∃ ws, ∃ o : OSl 3 1 (irows ws), b.burnsF b.warms p 0 = (none, ws) ∧ Cool b ws ∧ v = .tuple #[.int .i64 0, .int .i64 0, o.fs, .bool false] ∧ H' = o.G ++ H) ∨
   (∃ (d k : Nat) (ws : List Int) (ws2 : List Int) (o : OSl 3 1 (irows ws2)), b.burnsF b.warms p 0 = (some (d, k), ws) ∧ d < p.length ∧ k < b.bins.length ∧ v = .tuple #[.int .i64 d, .int .i64 k, o.fs, .bool true] ∧ H' = o.G ++ H))
def Barn.planned (b : Barn) (p : List (List Int)) : Int := bif decide (b.check = 0) then planErr b.bins.length b.gangs p else b.check
theorem c_planned (b : Barn) (ab : Option Addr) (cb : Nat) (hl : b.bins.length ≤ 9223372036854775807) (hr : b.rise.length = 6) (pl : List PL) (ap : Option Addr) (cp : Nat) (hpl : pl.length ≤ 9223372036854775807) (hpi : ∀ x ∈ pl, x.l.length ≤ 9223372036854775807) (H : Heap) (R : Facts) [hB : MemRows ab 4 (brows b.bins) R] [hP : MemRows ap 1 (plrows pl) R] [hI : MemF (Inn pl) R] :
    FnV Tryz.prog 65 [b.v (b.sl ab cb), .slice ap pl.length cp] H R (.int .i64 (b.planned (lls pl))) := by
 refine fn_of Tryz.func65 rfl Tryz.ntmps65 rfl ?_
 refine sy_seq ?_
 refine sy_tx' [0, 1] rfl ?_
 refine bx rfl rfl rfl (fun b2 => ?_)
 refine sp rfl (PE.assign rfl) rfl ?_
 refine sy_seq ?_
 refine sy_seq ?_
 refine sy_tx' [0, 1, 2] rfl ?_
 refine spL rfl rfl (lhA (btl b (b.sl ab cb)) ag27 rfl rfl rfl) rfl ?_
 refine clV rfl cal11 rfl rfl (c_Check b ab cb hl hr _ _) ?_
 refine sp rfl (PE.assign rfl) rfl ?_
 refine sy_seq ?_
 refine sy_tx' [0, 1] rfl ?_
 refine sp rfl (PE.move rfl) rfl ?_
 refine sp rfl (PE.neq rfl rfl) rfl ?_
 refine sy_cond rfl (fun hc0 => ?_) (fun hc0 => ?_)
 try simp only [decide_eq_true_eq, decide_eq_false_iff_not, Bool.and_eq_true, Bool.or_eq_true, Bool.not_eq_true', Int.not_le, Int.not_lt] at hc0
 refine sy_seq ?_
 refine sy_tx' [0, 1] rfl ?_
 refine sp rfl (PE.move rfl) rfl ?_
 refine sp rfl (PE.assign rfl) rfl ?_
 refine sy_ret ?_
 exact sy_return (vs := [_]) rfl (.cons (RV.tmp rfl) .nil) rfl ⟨by unfold Barn.planned; rw [decide_eq_false hc0]; rfl, rfl, rfl⟩ drp
 try simp only [decide_eq_true_eq, decide_eq_false_iff_not, Bool.and_eq_true, Bool.or_eq_true, Bool.not_eq_true', Int.not_le, Int.not_lt] at hc0
 have hck : b.check = 0 := by omega
 refine sy_skip ?_
 refine sy_seq ?_
 refine sy_tx' [0, 1, 2, 3] rfl ?_
 refine spL rfl rfl (lhA (btl b (b.sl ab cb)) ag27 rfl rfl rfl) rfl ?_
 refine sp rfl (PE.move rfl) rfl ?_
 refine clV rfl cal66 rfl rfl (c_plan b ab cb hl pl ap cp hpl hpi _ _) ?_
 refine sp rfl (PE.assign rfl) rfl ?_
 refine sy_ret ?_
 exact sy_return (vs := [_]) rfl (.cons (RV.tmp rfl) .nil) rfl ⟨by unfold Barn.planned; rw [decide_eq_true hck]; rfl, rfl, rfl⟩ drp
theorem c_burns (b : Barn) (ab : Option Addr) (cb : Nat) (hok : b.ok) (pl : List PL) (ap : Option Addr) (cp : Nat) (hpl : pl.length ≤ 9223372036854775807) (hpi : ∀ x ∈ pl, x.l.length ≤ 9223372036854775807) (H : Heap) (R : Facts) [hB : MemRows ab 4 (brows b.bins) R] [hP : MemRows ap 1 (plrows pl) R] [hI : MemF (Inn pl) R] :
    Fn Tryz.prog 115 [b.v (b.sl ab cb), .slice ap pl.length cp] H R (BurnsQ b (lls pl) H R) := by
 have hmn := hok.many
 refine fn_of Tryz.func115 rfl Tryz.ntmps115 rfl ?_
 refine sy_seq ?_
 refine sy_tx' [0, 1, 2, 3, 4] rfl ?_
 refine bx rfl rfl rfl (fun b2 => ?_)
 refine sp rfl (PE.assign rfl) rfl ?_
 refine sp rfl (PE.assign rfl) rfl ?_
 refine sp rfl (PE.assign rfl) rfl ?_
 refine sp rfl (PE.assign rfl) rfl ?_
 refine sy_scope ?_
 refine sy_seq ?_
 refine sy_seq ?_
 refine sy_tx' [0, 1, 2, 3] rfl ?_
 refine sp rfl (PE.fieldAddr fo27_3 rfl) rfl ?_
 refine spL rfl rfl (lh sc25 rfl rfl) rfl ?_
 refine sp rfl (PE.lenSl isl25 rfl) rfl ?_
 refine sp rfl (PE.move rfl) rfl ?_
 refine sy_block ?_
 refine sy_loop (ι := (k : {k : Nat // k ≤ b.bins.length}) × OSl 3 1 (irows ((b.bins.take k.1).map (·.warm)))) (fun x => ⟨[(1, .slice ap pl.length cp), (2, .pointer (some ⟨b2, 0, none⟩)), (4, .int .i64 0), (5, .int .i64 0), (6, x.2.fs), (7, .bool false), (16, b.sl ab cb), (17, .int .i64 b.bins.length), (18, .int .i64 x.1.1)], x.2.G ++ (b2, cel 27 (btl b (b.sl ab cb))) :: H, R⟩) (fun x => b.bins.length - x.1.1) ⟨⟨0, by omega⟩, OSl.nil _ _⟩ ?_ (fun x => ?_)
 exact sy_at (by repeat' first | exact Sub.nil | apply Sub.cons | rfl | (simp [lk]; omega)) (fun _ h => h)
 obtain ⟨⟨k, hk⟩, o⟩ := x
 dsimp only at hk o ⊢
 refine sy_seq ?_
 refine sy_tx' [0] rfl ?_
 refine sp rfl (PE.lss rfl rfl) rfl ?_
 refine sy_seq ?_
 refine sy_cond rfl (fun hc0 => ?_) (fun hc0 => ?_)
 try simp only [decide_eq_true_eq, decide_eq_false_iff_not, Bool.and_eq_true, Bool.or_eq_true, Bool.not_eq_true', Int.not_le, Int.not_lt] at hc0
 obtain ⟨x, hx⟩ : ∃ x, b.bins[k]? = some x := ⟨_, List.getElem?_eq_getElem (by omega)⟩
 refine sy_addr (a := ab) (sz := 4) (rows := brows b.bins) (by intro h0; simp [brows] at h0; simp [h0] at hx) (fun ba oa he => ?_)
 subst he
 refine sy_skip ?_
 refine sy_seq ?_
 refine sy_block ?_
 refine sy_seq ?_
 refine sy_tx' [0, 1, 2, 3] rfl ?_
 refine sp rfl (PE.indexAddr el25 rfl rfl (by omega) (by omega)) rfl ?_
 refine spL rfl rfl (lfA ag40 (row := brow x) (br_get hx) rfl) rfl ?_
 refine alc rfl zl40 rfl (fun b9 => ?_)
 refine sto rfl rfl rfl cn40 rfl rfl rfl rfl ?_
 refine sy_tx' [0, 1, 2, 3, 4, 5] rfl ?_
 refine sp rfl (PE.move rfl) rfl ?_
 refine sp rfl (PE.fieldAddr fo40_0 rfl) rfl ?_
 refine spL rfl rfl (lh sc3 rfl rfl) rfl ?_
 refine bsl (out := [_]) rfl sl22 zl3 rfl rfl rfl rfl rfl rfl (fun b25 => ?_)
 refine apO (o) rfl ap22 rfl rfl (rowsH (row := [.int .i64 x.warm]) rfl) rfl rfl ((by rw [irows_len, List.length_map, List.length_take]; simp only [List.length_singleton]; omega)) rfl (fun o26 => ?_)
 refine sp rfl (PE.assign rfl) rfl ?_
 refine sy_tx' [0, 1] rfl ?_
 refine sp rfl (PE.add rfl rfl (by omega)) rfl ?_
 refine sp rfl (PE.move rfl) rfl ?_
 exact sy_next ⟨⟨k + 1, by omega⟩, o26.cast (by rw [take_snoc hx, List.map_append]; simp [irows])⟩ (by dsimp only; omega) (by repeat' first | exact Sub.nil | apply Sub.cons | rfl | (simp [lk]; omega)) (fun w h => (h.del b25).del b9)
 try simp only [decide_eq_true_eq, decide_eq_false_iff_not, Bool.and_eq_true, Bool.or_eq_true, Bool.not_eq_true', Int.not_le, Int.not_lt] at hc0
 obtain rfl : k = b.bins.length := by omega
 obtain ⟨p, hpf, hpg⟩ : ∃ o' : OSl 3 1 (irows b.warms), o'.fs = o.fs ∧ o'.G = o.G := ⟨o.cast (by rw [List.take_length]; rfl), rfl, rfl⟩
 have hwm : b.warms.length = b.bins.length := List.length_map _
 obtain ⟨bw, cap, junk, hfs, hGG, hjk, hcap, hmx⟩ := p.is.resolve_left (fun h => by have := congrArg List.length h.1; rw [irows_len] at this; simp only [List.length_nil] at this; omega)
 rw [irows_len, hwm] at hfs hjk hcap
 rw [irows_flat] at hGG
 rw [← hpf, hfs]
 refine Sy.heap (H' := (bw, cel 3 (ints b.warms ++ junk)) :: (b2, cel 27 (btl b (b.sl ab cb))) :: H) (fun w h => by rw [← hpg, hGG] at h; exact h) ?_
 clear hfs hGG hpf hpg
 refine sy_exit ?_
 repeat refine sy_tx ?_
 refine sy_bx ?_
 refine sy_seq ?_
 refine sy_label ?_
 refine sy_seq ?_
 refine sy_seq ?_
 refine sy_tx' [0, 1, 2] rfl ?_
 refine sp rfl (PE.move rfl) rfl ?_
 refine sp rfl (PE.lenSl isl23 rfl) rfl ?_
 refine sp rfl (PE.move rfl) rfl ?_
 refine sy_block ?_
 refine sy_loop (ι := {x : Nat × List Int // x.1 ≤ pl.length ∧ Cool b x.2 ∧ b.burnsF b.warms (lls pl) 0 = b.burnsF x.2 ((lls pl).drop x.1) x.1}) (fun x => ⟨[(1, .slice ap pl.length cp), (2, .pointer (some ⟨b2, 0, none⟩)), (4, .int .i64 0), (5, .int .i64 0), (6, .slice (some ⟨bw, 0, none⟩) b.bins.length cap), (7, .bool false), (28, .slice ap pl.length cp), (29, .int .i64 pl.length), (30, .int .i64 x.1.1)], (bw, cel 3 (ints x.1.2 ++ junk)) :: (b2, cel 27 (btl b (b.sl ab cb))) :: H, R⟩) (fun x => pl.length - x.1.1) ⟨(0, b.warms), Nat.zero_le _, Cool.start hok, rfl⟩ ?_ (fun x => ?_)
 exact sy_at (by repeat' first | exact Sub.nil | apply Sub.cons | rfl | (simp [lk]; omega)) (fun _ h => h)
 obtain ⟨⟨d, ws⟩, hd, hcw, hbe⟩ := x
 dsimp only at hd hcw hbe ⊢
 have hwl := hcw.len
 refine sy_seq ?_
 refine sy_tx' [0] rfl ?_
 refine sp rfl (PE.lss rfl rfl) rfl ?_
 refine sy_seq ?_
 refine sy_cond rfl (fun hc1 => ?_) (fun hc1 => ?_)
 try simp only [decide_eq_true_eq, decide_eq_false_iff_not, Bool.and_eq_true, Bool.or_eq_true, Bool.not_eq_true', Int.not_le, Int.not_lt] at hc1
 obtain ⟨x, hx⟩ : ∃ x, pl[d]? = some x := ⟨_, List.getElem?_eq_getElem (by omega)⟩
 have hxm := List.mem_of_getElem? hx
 have hxl := hpi x hxm
 rw [b.burns_drop (lls_get hx)] at hbe
 refine sy_addr (a := ap) (sz := 1) (rows := plrows pl) (by intro h0; have := congrArg List.length h0; rw [plrows_len] at this; simp only [List.length_nil] at this; omega) (fun bp op he => ?_)
 subst he
 refine Sy.heap (fun w h => St.inn (x := x) h hxm) ?_
 have hdl := b.dayW_len ws x.l
 refine sy_skip ?_
 refine sy_seq ?_
 refine sy_block ?_
 refine sy_seq ?_
 refine sy_tx' [0, 1, 2, 3, 4] rfl ?_
 refine sp rfl (PE.move rfl) rfl ?_
 refine sp rfl (PE.indexAddr el23 rfl rfl (by omega) (by omega)) rfl ?_
 refine spL rfl rfl (lf0 sc22 (pl_get hx) rfl) rfl ?_
 refine sp rfl (PE.assign rfl) rfl ?_
 refine sp rfl (PE.assign rfl) rfl ?_
 refine sy_seq ?_
 refine sy_tx' [0, 1, 2, 3] rfl ?_
 refine sp rfl (PE.fieldAddr fo27_3 rfl) rfl ?_
 refine spL rfl rfl (lh sc25 rfl rfl) rfl ?_
 refine sp rfl (PE.lenSl isl25 rfl) rfl ?_
 refine sp rfl (PE.move rfl) rfl ?_
 refine sy_block ?_
 refine sy_loop (ι := {k : Nat // k ≤ b.bins.length ∧ ∀ j < k, b.hotAt ws x.l j = false}) (fun k => ⟨[(1, .slice (some ⟨bp, op, none⟩) pl.length cp), (2, .pointer (some ⟨b2, 0, none⟩)), (4, .int .i64 0), (5, .int .i64 0), (6, .slice (some ⟨bw, 0, none⟩) b.bins.length cap), (7, .bool false), (28, .slice (some ⟨bp, op, none⟩) pl.length cp), (29, .int .i64 pl.length), (30, .int .i64 d), (10, .int .i64 d), (11, .slice x.a x.l.length x.c), (36, b.sl ab cb), (37, .int .i64 b.bins.length), (38, .int .i64 k.1)], (bw, cel 3 (ints ((b.dayW ws x.l).take k.1 ++ ws.drop k.1) ++ junk)) :: (b2, cel 27 (btl b (b.sl ab cb))) :: H, RowsA x.a 1 (irows x.l) :: R⟩) (fun k => b.bins.length - k.1) ⟨0, by omega, by omega⟩ ?_ (fun k => ?_)
 exact sy_at (by repeat' first | exact Sub.nil | apply Sub.cons | rfl | (simp [lk]; omega)) (fun _ h => h)
 obtain ⟨k, hk, hno⟩ := k
 dsimp only at hk hno ⊢
 have hml : ((b.dayW ws x.l).take k ++ ws.drop k).length = b.bins.length := by rw [td_len (by omega) (by omega)]; exact hwl
 refine sy_seq ?_
 refine sy_tx' [0] rfl ?_
 refine sp rfl (PE.lss rfl rfl) rfl ?_
 refine sy_seq ?_
 refine sy_cond rfl (fun hc2 => ?_) (fun hc2 => ?_)
 try simp only [decide_eq_true_eq, decide_eq_false_iff_not, Bool.and_eq_true, Bool.or_eq_true, Bool.not_eq_true', Int.not_le, Int.not_lt] at hc2
 obtain ⟨y, hy⟩ : ∃ y, b.bins[k]? = some y := ⟨_, List.getElem?_eq_getElem (by omega)⟩
 have hym := List.mem_of_getElem? hy
 have hyb := hok.bins y hym
 have hyw := b.worst_range hok hym
 have hyc := hcw.at_ k y hy
 have hcl := hok.cool
 have hmg : ((b.dayW ws x.l).take k ++ ws.drop k)[k]? = some (na ws k) := td_at (by omega) (na_get (by omega))
 have hwa := b.wdAt_of (ws := ws) (l := x.l) hy
 refine sy_addr (a := ab) (sz := 4) (rows := brows b.bins) (by intro h0; simp [brows] at h0; simp [h0] at hy) (fun ba oa he => ?_)
 subst he
 refine sy_skip ?_
 refine sy_seq ?_
 refine sy_block ?_
 refine sy_seq ?_
 refine sy_tx' [0, 1, 2, 3, 4, 5] rfl ?_
 refine sp rfl (PE.move rfl) rfl ?_
 refine sp rfl (PE.indexAddr el25 rfl rfl (by omega) (by omega)) rfl ?_
 refine spL rfl rfl (lfA ag40 (row := brow y) (br_get hy) rfl) rfl ?_
 refine alc rfl zl40 rfl (fun b13 => ?_)
 refine sp rfl (PE.assign rfl) rfl ?_
 refine sto rfl rfl rfl cn40 rfl rfl rfl rfl ?_
 refine sy_seq ?_
 refine sy_draw [0, 0, 0, 6, 14, 0, 0, 96, 0, 0, 992, 2047, 4095] (.ld 0 (.tk 1 (.tk 2 (.tk 3 (.ld 4 (.ld 5 (.tk 6 (.tk 8 (.tk 9 (.big 7 (.big 10 (.big 11 (.tk 12 .done))))))))))))) mixed (by kernel_rfl) ?_
 refine ld rfl rfl (lhA (btl b (b.sl (some ⟨ba, oa, none⟩) cb)) ag27 rfl rfl rfl) rfl ?_
 refine tk rfl (PE.move rfl) rfl ?_
 refine tk rfl (PE.move rfl) rfl ?_
 refine tk rfl (PE.indexAddr el22 rfl rfl (by omega) (by omega)) rfl ?_
 refine ld rfl rfl (lh sc3 rfl (get_junk hmg (by show 0 + ((k : Nat) : Int).toNat * 1 = _; omega))) rfl ?_
 refine ld rfl rfl (lhA (btl b (b.sl (some ⟨ba, oa, none⟩) cb)) ag27 rfl rfl rfl) rfl ?_
 refine tk rfl (PE.move rfl) rfl ?_
 refine tk rfl (PE.move rfl) rfl ?_
 refine tk rfl (PE.move rfl) rfl ?_
 refine clV rfl cal114 rfl rfl (c_worst b (some ⟨ba, oa, none⟩) cb k y hy hyb.2.2.2 _ _) ?_
 refine bg (fun w hs => ⟨trivial, (lh sc3 rfl (get_junk hmg (by show 0 + ((k : Nat) : Int).toNat * 1 = _; omega))) w hs, (lhA (btl b (b.sl (some ⟨ba, oa, none⟩) cb)) ag27 rfl rfl rfl) w hs, trivial⟩) ?_
 refine clV rfl cal70 rfl rfl (c_contains_int x.l x.a x.c k hxl _ _) ?_
 refine bg (fun w hs => ⟨(lh sc3 rfl (get_junk hmg (by show 0 + ((k : Nat) : Int).toNat * 1 = _; omega))) w hs, (lhA (btl b (b.sl (some ⟨ba, oa, none⟩) cb)) ag27 rfl rfl rfl) w hs, trivial⟩) ?_
 refine clV rfl cal113 rfl rfl (c_warmer b (some ⟨ba, oa, none⟩) cb (na ws k) (b.worst y) (hasI x.l k) (by omega) (by omega) (by omega) _ _) ?_
 refine bg (fun w hs => ⟨trivial, trivial, trivial⟩) ?_
 refine tk rfl (PE.assign rfl) rfl ?_
 refine sy_seq ?_
 refine sy_seq ?_
 refine sy_tx' [0, 1, 2, 3] rfl ?_
 rw [show ((bif hasI x.l k then min (na ws k) b.cool else na ws k) + b.worst y) = b.wdAt ws x.l k from hwa.symm]
 refine sp rfl (PE.move rfl) rfl ?_
 refine sp rfl (PE.fieldAddr fo40_1 rfl) rfl ?_
 refine spL rfl rfl (lh sc3 rfl rfl) rfl ?_
 refine sp rfl (PE.gtr rfl rfl) rfl ?_
 refine sy_cond rfl (fun hc3 => ?_) (fun hc3 => ?_)
 try simp only [decide_eq_true_eq, decide_eq_false_iff_not, Bool.and_eq_true, Bool.or_eq_true, Bool.not_eq_true', Int.not_le, Int.not_lt] at hc3
 have hh : b.hotAt ws x.l k = true := by unfold Barn.hotAt; rw [bin_getD hy]; exact decide_eq_true hc3
 rw [find_range (by omega) hh hno] at hbe
 refine sy_seq ?_
 refine sy_tx' [0, 1, 2, 3, 4] rfl ?_
 refine sp rfl (PE.move rfl) rfl ?_
 refine sp rfl (PE.move rfl) rfl ?_
 refine sp rfl (PE.assign rfl) rfl ?_
 refine sp rfl (PE.assign rfl) rfl ?_
 refine sp rfl (PE.assign rfl) rfl ?_
 refine sy_exit ?_
 refine sy_tx ?_
 refine sy_bxn (by decide) ?_
 repeat refine sy_tx ?_
 refine sy_bxn (by decide) ?_
 refine sy_bxn (by decide) ?_
 repeat refine sy_tx ?_
 refine sy_bx ?_
 refine sy_seq ?_
 refine sy_tx' [0, 1, 2, 3, 4, 5, 6, 7] rfl ?_
 refine sp rfl (PE.move rfl) rfl ?_
 refine sp rfl (PE.move rfl) rfl ?_
 refine sp rfl (PE.move rfl) rfl ?_
 refine sp rfl (PE.move rfl) rfl ?_
 refine sp rfl (PE.assign rfl) rfl ?_
 refine sp rfl (PE.assign rfl) rfl ?_
 refine sp rfl (PE.assign rfl) rfl ?_
 refine sp rfl (PE.assign rfl) rfl ?_
 refine sy_ret ?_
 first
   | exact sy_return (vs := [_, _, _, _]) rfl (.cons (RV.tmp rfl) (.cons (RV.tmp rfl) (.cons (RV.tmp rfl) (.cons (RV.tmp rfl) .nil)))) rfl ⟨rfl, .inl ⟨ws, (⟨.slice (some ⟨bw, 0, none⟩) b.bins.length cap, [(bw, cel 3 (ints ws ++ junk))], by intro r hr; simp only [List.mem_map] at hr; obtain ⟨z, _, rfl⟩ := hr; rfl, .inr ⟨bw, cap, junk, by rw [irows_len, hwl], by rw [irows_flat], by rw [irows_len, hwl]; exact hjk, by rw [irows_len, hwl]; exact hcap, hmx⟩⟩ : OSl 3 1 (irows ws)), e2, hcw, rfl, rfl⟩⟩ (fun w h => h.del b2)
   | exact sy_return (vs := [_, _, _, _]) rfl (.cons (RV.tmp rfl) (.cons (RV.tmp rfl) (.cons (RV.tmp rfl) (.cons (RV.tmp rfl) .nil)))) rfl ⟨rfl, .inr ⟨d, k, ws, ((b.dayW ws x.l).take k ++ ws.drop k), (⟨.slice (some ⟨bw, 0, none⟩) b.bins.length cap, [(bw, cel 3 (ints ((b.dayW ws x.l).take k ++ ws.drop k) ++ junk))], by intro r hr; simp only [List.mem_map] at hr; obtain ⟨z, _, rfl⟩ := hr; rfl, .inr ⟨bw, cap, junk, by rw [irows_len, hml], by rw [irows_flat], by rw [irows_len, hml]; exact hjk, by rw [irows_len, hml]; exact hcap, hmx⟩⟩ : OSl 3 1 (irows ((b.dayW ws x.l).take k ++ ws.drop k))), hbe, by rw [lls_len]; omega, by omega, rfl, rfl⟩⟩ (fun w h => ((h.del b13).del b2).ftail)
 try simp only [decide_eq_true_eq, decide_eq_false_iff_not, Bool.and_eq_true, Bool.or_eq_true, Bool.not_eq_true', Int.not_le, Int.not_lt] at hc3
 have hh : b.hotAt ws x.l k = false := by unfold Barn.hotAt; rw [bin_getD hy]; exact decide_eq_false (by omega)
 refine sy_skip ?_
 refine sy_tx' [0, 1, 2, 3, 4] rfl ?_
 refine sp rfl (PE.move rfl) rfl ?_
 refine sp rfl (PE.move rfl) rfl ?_
 refine sp rfl (PE.move rfl) rfl ?_
 refine sp rfl (PE.indexAddr el22 rfl rfl (by omega) (by omega)) rfl ?_
 refine stoE (l' := ints ((b.dayW ws x.l).take (k + 1) ++ ws.drop (k + 1)) ++ junk) rfl rfl rfl cn3 rfl rfl rfl ((spl_junk (k := k) (by omega) (by show 0 + ((k : Nat) : Int).toNat * 1 = _; omega)).trans (by rw [set_take (by omega) (b.dayW_at (by omega))])) (by rw [List.length_append, ints_length, hml]; show 0 + ((k : Nat) : Int).toNat * 1 + 1 ≤ _; omega) ?_
 refine sy_tx' [0, 1] rfl ?_
 refine sp rfl (PE.add rfl rfl (by omega)) rfl ?_
 refine sp rfl (PE.move rfl) rfl ?_
 exact sy_next ⟨k + 1, by omega, fun j hj => by
   rcases Nat.lt_or_ge j k with h1 | h1
   · exact hno j h1
   · obtain rfl : j = k := by omega
     exact hh⟩ (by dsimp only; omega) (by repeat' first | exact Sub.nil | apply Sub.cons | rfl | (simp [lk]; omega)) (fun w h => h.del b13)
 try simp only [decide_eq_true_eq, decide_eq_false_iff_not, Bool.and_eq_true, Bool.or_eq_true, Bool.not_eq_true', Int.not_le, Int.not_lt] at hc2
 obtain rfl : k = b.bins.length := by omega
 rw [show ((b.dayW ws x.l).take b.bins.length ++ ws.drop b.bins.length) = b.dayW ws x.l by rw [List.drop_eq_nil_of_le (by omega), List.append_nil, List.take_of_length_le (by omega)]]
 rw [b.find_no hno] at hbe
 have hcn := hcw.next hok hno
 refine sy_exit ?_
 repeat refine sy_tx ?_
 refine sy_bx ?_
 refine sy_tx' [0, 1] rfl ?_
 refine sp rfl (PE.add rfl rfl (by omega)) rfl ?_
 refine sp rfl (PE.move rfl) rfl ?_
 exact sy_next ⟨(d + 1, b.dayW ws x.l), by dsimp only; omega, hcn, hbe⟩ (by dsimp only; omega) (by repeat' first | exact Sub.nil | apply Sub.cons | rfl | (simp [lk]; omega)) (fun w h => h.ftail)
 try simp only [decide_eq_true_eq, decide_eq_false_iff_not, Bool.and_eq_true, Bool.or_eq_true, Bool.not_eq_true', Int.not_le, Int.not_lt] at hc1
 obtain rfl : d = pl.length := by omega
 rw [show (lls pl).drop pl.length = [] by rw [List.drop_eq_nil_iff, lls_len]; exact Nat.le_refl _] at hbe
 have e2 : b.burnsF b.warms (lls pl) 0 = (none, ws) := hbe
 refine sy_exit ?_
 repeat refine sy_tx ?_
 refine sy_bx ?_
 refine sy_seq ?_
 refine sy_tx' [0, 1, 2, 3, 4, 5, 6, 7] rfl ?_
 refine sp rfl (PE.move rfl) rfl ?_
 refine sp rfl (PE.move rfl) rfl ?_
 refine sp rfl (PE.move rfl) rfl ?_
 refine sp rfl (PE.move rfl) rfl ?_
 refine sp rfl (PE.assign rfl) rfl ?_
 refine sp rfl (PE.assign rfl) rfl ?_
 refine sp rfl (PE.assign rfl) rfl ?_
 refine sp rfl (PE.assign rfl) rfl ?_
 refine sy_ret ?_
 first
   | exact sy_return (vs := [_, _, _, _]) rfl (.cons (RV.tmp rfl) (.cons (RV.tmp rfl) (.cons (RV.tmp rfl) (.cons (RV.tmp rfl) .nil)))) rfl ⟨rfl, .inl ⟨ws, (⟨.slice (some ⟨bw, 0, none⟩) b.bins.length cap, [(bw, cel 3 (ints ws ++ junk))], by intro r hr; simp only [List.mem_map] at hr; obtain ⟨z, _, rfl⟩ := hr; rfl, .inr ⟨bw, cap, junk, by rw [irows_len, hwl], by rw [irows_flat], by rw [irows_len, hwl]; exact hjk, by rw [irows_len, hwl]; exact hcap, hmx⟩⟩ : OSl 3 1 (irows ws)), e2, hcw, rfl, rfl⟩⟩ (fun w h => h.del b2)
   | exact sy_return (vs := [_, _, _, _]) rfl (.cons (RV.tmp rfl) (.cons (RV.tmp rfl) (.cons (RV.tmp rfl) (.cons (RV.tmp rfl) .nil)))) rfl ⟨rfl, .inr ⟨d, k, ws, ((b.dayW ws x.l).take k ++ ws.drop k), (⟨.slice (some ⟨bw, 0, none⟩) b.bins.length cap, [(bw, cel 3 (ints ((b.dayW ws x.l).take k ++ ws.drop k) ++ junk))], by intro r hr; simp only [List.mem_map] at hr; obtain ⟨z, _, rfl⟩ := hr; rfl, .inr ⟨bw, cap, junk, by rw [irows_len, hml], by rw [irows_flat], by rw [irows_len, hml]; exact hjk, by rw [irows_len, hml]; exact hcap, hmx⟩⟩ : OSl 3 1 (irows ((b.dayW ws x.l).take k ++ ws.drop k))), hbe, by rw [lls_len]; omega, by omega, rfl, rfl⟩⟩ (fun w h => ((h.del b13).del b2).ftail)
def Barn.keepsV (b : Barn) (p : List (List Int)) : Value := bif decide (b.planned p = 0) then .tuple #[.bool (b.burnsF b.warms p 0).1.isNone, .int .i64 0] else .tuple #[.bool false, .int .i64 (b.planned p)]
def Barn.burnsV (b : Barn) (p : List (List Int)) : Value := bif decide (b.planned p = 0) then (match (b.burnsF b.warms p 0).1 with
  | none => .tuple #[.int .i64 0, .int .i64 0, .int .i64 6]
  | some (d, k) => .tuple #[.int .i64 d, .int .i64 k, .int .i64 0]) else .tuple #[.int .i64 0, .int .i64 0, .int .i64 (b.planned p)]
theorem planned_ok {b : Barn} (hr : b.rise.length = 6) {p : List (List Int)} (h : b.planned p = 0) : b.check = 0 ∧ b.ok ∧ planErr b.bins.length b.gangs p = 0 := by
  unfold Barn.planned at h
  by_cases h1 : b.check = 0
  · rw [decide_eq_true h1, cond_true] at h; exact ⟨h1, Barn.ok_of hr h1, h⟩
  · rw [decide_eq_false h1, cond_false] at h; exact absurd h h1
theorem c_Keeps (b : Barn) (ab : Option Addr) (cb : Nat) (hl : b.bins.length ≤ 9223372036854775807) (hr : b.rise.length = 6) (pl : List PL) (ap : Option Addr) (cp : Nat) (hpl : pl.length ≤ 9223372036854775807) (hpi : ∀ x ∈ pl, x.l.length ≤ 9223372036854775807) (H : Heap) (R : Facts) [hB : MemRows ab 4 (brows b.bins) R] [hP : MemRows ap 1 (plrows pl) R] [hI : MemF (Inn pl) R] :
    FnV Tryz.prog 59 [b.v (b.sl ab cb), .slice ap pl.length cp] H R (b.keepsV (lls pl)) := by
 refine fn_of Tryz.func59 rfl Tryz.ntmps59 rfl ?_
 refine sy_seq ?_
 refine sy_tx' [0, 1, 2] rfl ?_
 refine bx rfl rfl rfl (fun b2 => ?_)
 refine sp rfl (PE.assign rfl) rfl ?_
 refine sp rfl (PE.assign rfl) rfl ?_
 refine sy_seq ?_
 refine sy_seq ?_
 refine sy_tx' [0, 1, 2, 3] rfl ?_
 refine spL rfl rfl (lhA (btl b (b.sl ab cb)) ag27 rfl rfl rfl) rfl ?_
 refine sp rfl (PE.move rfl) rfl ?_
 refine clV rfl cal65 rfl rfl (c_planned b ab cb hl hr pl ap cp hpl hpi _ _) ?_
 refine sp rfl (PE.assign rfl) rfl ?_
 refine sy_seq ?_
 refine sy_tx' [0, 1] rfl ?_
 refine sp rfl (PE.move rfl) rfl ?_
 refine sp rfl (PE.neq rfl rfl) rfl ?_
 refine sy_cond rfl (fun hc0 => ?_) (fun hc0 => ?_)
 try simp only [decide_eq_true_eq, decide_eq_false_iff_not, Bool.and_eq_true, Bool.or_eq_true, Bool.not_eq_true', Int.not_le, Int.not_lt] at hc0
 refine sy_seq ?_
 refine sy_tx' [0, 1, 2] rfl ?_
 refine sp rfl (PE.move rfl) rfl ?_
 refine sp rfl (PE.assign rfl) rfl ?_
 refine sp rfl (PE.assign rfl) rfl ?_
 refine sy_ret ?_
 exact sy_return (vs := [_, _]) rfl (.cons (RV.tmp rfl) (.cons (RV.tmp rfl) .nil)) rfl ⟨by unfold Barn.keepsV; rw [decide_eq_false hc0]; rfl, rfl, rfl⟩ drp
 try simp only [decide_eq_true_eq, decide_eq_false_iff_not, Bool.and_eq_true, Bool.or_eq_true, Bool.not_eq_true', Int.not_le, Int.not_lt] at hc0
 have hpz : b.planned (lls pl) = 0 := by omega
 obtain ⟨hck, hok, hpe⟩ := planned_ok hr hpz
 refine sy_skip ?_
 refine sy_seq ?_
 refine sy_tx' [0, 1, 2, 3, 4, 5, 6, 7, 8, 9, 10, 11] rfl ?_
 refine spL rfl rfl (lhA (btl b (b.sl ab cb)) ag27 rfl rfl rfl) rfl ?_
 refine sp rfl (PE.move rfl) rfl ?_
 refine cl rfl cal115 rfl rfl (c_burns b ab cb hok pl ap cp hpl hpi _ _) ?_
 rintro _ _ _ ⟨rfl, (⟨ws, o, hbu, hcw, rfl, rfl⟩ | ⟨d, k, ws, ws2, o, hbu, hd, hk, rfl, rfl⟩)⟩
 refine sp rfl (PE.move rfl) rfl ?_
 refine sp rfl (PE.extract rfl rfl) rfl ?_
 refine sp rfl (PE.extract rfl rfl) rfl ?_
 refine sp rfl (PE.extract rfl rfl) rfl ?_
 refine sp rfl (PE.extract rfl rfl) rfl ?_
 refine sp rfl (PE.assign rfl) rfl ?_
 refine sp rfl (PE.assign rfl) rfl ?_
 refine sp rfl (PE.assign rfl) rfl ?_
 refine sp rfl (PE.assign rfl) rfl ?_
 refine sy_seq ?_
 refine sy_tx' [0, 1, 2, 3] rfl ?_
 refine sp rfl (PE.move rfl) rfl ?_
 refine sp rfl (PE.not rfl) rfl ?_
 refine sp rfl (PE.assign rfl) rfl ?_
 refine sp rfl (PE.assign rfl) rfl ?_
 refine sy_ret ?_
 exact sy_return (vs := [_, _]) rfl (.cons (RV.tmp rfl) (.cons (RV.tmp rfl) .nil)) rfl ⟨by unfold Barn.keepsV; rw [decide_eq_true hpz, hbu]; rfl, rfl, rfl⟩ (fun w h => (St.drop h).del b2)
 refine sp rfl (PE.move rfl) rfl ?_
 refine sp rfl (PE.extract rfl rfl) rfl ?_
 refine sp rfl (PE.extract rfl rfl) rfl ?_
 refine sp rfl (PE.extract rfl rfl) rfl ?_
 refine sp rfl (PE.extract rfl rfl) rfl ?_
 refine sp rfl (PE.assign rfl) rfl ?_
 refine sp rfl (PE.assign rfl) rfl ?_
 refine sp rfl (PE.assign rfl) rfl ?_
 refine sp rfl (PE.assign rfl) rfl ?_
 refine sy_seq ?_
 refine sy_tx' [0, 1, 2, 3] rfl ?_
 refine sp rfl (PE.move rfl) rfl ?_
 refine sp rfl (PE.not rfl) rfl ?_
 refine sp rfl (PE.assign rfl) rfl ?_
 refine sp rfl (PE.assign rfl) rfl ?_
 refine sy_ret ?_
 exact sy_return (vs := [_, _]) rfl (.cons (RV.tmp rfl) (.cons (RV.tmp rfl) .nil)) rfl ⟨by unfold Barn.keepsV; rw [decide_eq_true hpz, hbu]; rfl, rfl, rfl⟩ (fun w h => (St.drop h).del b2)
theorem c_Burns (b : Barn) (ab : Option Addr) (cb : Nat) (hl : b.bins.length ≤ 9223372036854775807) (hr : b.rise.length = 6) (pl : List PL) (ap : Option Addr) (cp : Nat) (hpl : pl.length ≤ 9223372036854775807) (hpi : ∀ x ∈ pl, x.l.length ≤ 9223372036854775807) (H : Heap) (R : Facts) [hB : MemRows ab 4 (brows b.bins) R] [hP : MemRows ap 1 (plrows pl) R] [hI : MemF (Inn pl) R] :
    FnV Tryz.prog 58 [b.v (b.sl ab cb), .slice ap pl.length cp] H R (b.burnsV (lls pl)) := by
 refine fn_of Tryz.func58 rfl Tryz.ntmps58 rfl ?_
 refine sy_seq ?_
 refine sy_tx' [0, 1, 2, 3] rfl ?_
 refine bx rfl rfl rfl (fun b2 => ?_)
 refine sp rfl (PE.assign rfl) rfl ?_
 refine sp rfl (PE.assign rfl) rfl ?_
 refine sp rfl (PE.assign rfl) rfl ?_
 refine sy_seq ?_
 refine sy_seq ?_
 refine sy_tx' [0, 1, 2, 3] rfl ?_
 refine spL rfl rfl (lhA (btl b (b.sl ab cb)) ag27 rfl rfl rfl) rfl ?_
 refine sp rfl (PE.move rfl) rfl ?_
 refine clV rfl cal65 rfl rfl (c_planned b ab cb hl hr pl ap cp hpl hpi _ _) ?_
 refine sp rfl (PE.assign rfl) rfl ?_
 refine sy_seq ?_
 refine sy_tx' [0, 1] rfl ?_
 refine sp rfl (PE.move rfl) rfl ?_
 refine sp rfl (PE.neq rfl rfl) rfl ?_
 refine sy_cond rfl (fun hc0 => ?_) (fun hc0 => ?_)
 try simp only [decide_eq_true_eq, decide_eq_false_iff_not, Bool.and_eq_true, Bool.or_eq_true, Bool.not_eq_true', Int.not_le, Int.not_lt] at hc0
 refine sy_seq ?_
 refine sy_tx' [0, 1, 2, 3] rfl ?_
 refine sp rfl (PE.move rfl) rfl ?_
 refine sp rfl (PE.assign rfl) rfl ?_
 refine sp rfl (PE.assign rfl) rfl ?_
 refine sp rfl (PE.assign rfl) rfl ?_
 refine sy_ret ?_
 exact sy_return (vs := [_, _, _]) rfl (.cons (RV.tmp rfl) (.cons (RV.tmp rfl) (.cons (RV.tmp rfl) .nil))) rfl ⟨by unfold Barn.burnsV; rw [decide_eq_false hc0]; rfl, rfl, rfl⟩ drp
 try simp only [decide_eq_true_eq, decide_eq_false_iff_not, Bool.and_eq_true, Bool.or_eq_true, Bool.not_eq_true', Int.not_le, Int.not_lt] at hc0
 have hpz : b.planned (lls pl) = 0 := by omega
 obtain ⟨hck, hok, hpe⟩ := planned_ok hr hpz
 refine sy_skip ?_
 refine sy_seq ?_
 refine sy_tx' [0, 1, 2, 3, 4, 5, 6, 7, 8, 9, 10, 11] rfl ?_
 refine spL rfl rfl (lhA (btl b (b.sl ab cb)) ag27 rfl rfl rfl) rfl ?_
 refine sp rfl (PE.move rfl) rfl ?_
 refine cl rfl cal115 rfl rfl (c_burns b ab cb hok pl ap cp hpl hpi _ _) ?_
 rintro _ _ _ ⟨rfl, (⟨ws, o, hbu, hcw, rfl, rfl⟩ | ⟨d, k, ws, ws2, o, hbu, hd, hk, rfl, rfl⟩)⟩
 refine sp rfl (PE.move rfl) rfl ?_
 refine sp rfl (PE.extract rfl rfl) rfl ?_
 refine sp rfl (PE.extract rfl rfl) rfl ?_
 refine sp rfl (PE.extract rfl rfl) rfl ?_
 refine sp rfl (PE.extract rfl rfl) rfl ?_
 refine sp rfl (PE.assign rfl) rfl ?_
 refine sp rfl (PE.assign rfl) rfl ?_
 refine sp rfl (PE.assign rfl) rfl ?_
 refine sp rfl (PE.assign rfl) rfl ?_
 refine sy_seq ?_
 refine sy_seq ?_
 refine sy_tx' [0, 1] rfl ?_
 refine sp rfl (PE.move rfl) rfl ?_
 refine sp rfl (PE.not rfl) rfl ?_
 refine sy_condT rfl ?_
 refine sy_seq ?_
 refine sy_tx' [0, 1, 2] rfl ?_
 refine sp rfl (PE.assign rfl) rfl ?_
 refine sp rfl (PE.assign rfl) rfl ?_
 refine sp rfl (PE.assign rfl) rfl ?_
 refine sy_ret ?_
 exact sy_return (vs := [_, _, _]) rfl (.cons (RV.tmp rfl) (.cons (RV.tmp rfl) (.cons (RV.tmp rfl) .nil))) rfl ⟨by unfold Barn.burnsV; rw [decide_eq_true hpz, hbu]; rfl, rfl, rfl⟩ (fun w h => (St.drop h).del b2)
 refine sp rfl (PE.move rfl) rfl ?_
 refine sp rfl (PE.extract rfl rfl) rfl ?_
 refine sp rfl (PE.extract rfl rfl) rfl ?_
 refine sp rfl (PE.extract rfl rfl) rfl ?_
 refine sp rfl (PE.extract rfl rfl) rfl ?_
 refine sp rfl (PE.assign rfl) rfl ?_
 refine sp rfl (PE.assign rfl) rfl ?_
 refine sp rfl (PE.assign rfl) rfl ?_
 refine sp rfl (PE.assign rfl) rfl ?_
 refine sy_seq ?_
 refine sy_seq ?_
 refine sy_tx' [0, 1] rfl ?_
 refine sp rfl (PE.move rfl) rfl ?_
 refine sp rfl (PE.not rfl) rfl ?_
 refine sy_condF rfl ?_
 refine sy_skip ?_
 refine sy_seq ?_
 refine sy_tx' [0, 1, 2, 3, 4] rfl ?_
 refine sp rfl (PE.move rfl) rfl ?_
 refine sp rfl (PE.move rfl) rfl ?_
 refine sp rfl (PE.assign rfl) rfl ?_
 refine sp rfl (PE.assign rfl) rfl ?_
 refine sp rfl (PE.assign rfl) rfl ?_
 refine sy_ret ?_
 exact sy_return (vs := [_, _, _]) rfl (.cons (RV.tmp rfl) (.cons (RV.tmp rfl) (.cons (RV.tmp rfl) .nil))) rfl ⟨by unfold Barn.burnsV; rw [decide_eq_true hpz, hbu]; rfl, rfl, rfl⟩ (fun w h => (St.drop h).del b2)
end Go.Proofs.YtelegnmfhjfbaaaGreat
namespace Go.Proofs.YtelegnmfhjfbaaaGreat
set_option linter.unusedSimpArgs false
set_option linter.unusedVariables false
open Go
theorem run_rows {P : Program} {ax : Option Addr} {s dl sc : Nat} {rows : List (List Value)} {w : World} (hr : RowsA ax s rows w) (hl : ∀ q ∈ rows, q.length = s) (hle : rows.length ≤ dl) :
    (Builtin.firstCells s (Nat.min rows.length dl) (.slice ax rows.length sc)).run P w = .ok rows.flatten.toArray w := by
  rw [show Nat.min rows.length dl = rows.length from Nat.min_eq_left hle]
  have hf := flat_len hl
  match ax, hr with
  | none, hr =>
    match rows, hr with
    | [], _ => rfl
    | q :: qs, hr =>
      obtain ⟨_, b, off, h, _⟩ := hr 0 q rfl
      cases h
  | some a, hr =>
    have hc : ∀ j v, rows.flatten[j]? = some v → w.cell? (a.add j) = some v := by
      match rows, hr with
      | [], _ => intro j v h; simp at h
      | q :: qs, hr =>
        obtain ⟨_, b, off, h, _⟩ := hr 0 q rfl
        cases h
        intro j v h
        rw [addr_add]; exact rows_flat hr j v h
    have := run_loadCells_list (P := P) w a rows.flatten hc
    rw [hf] at this
    exact this
section steps
variable {P : Program} {r : Option Nat} {ops : Array Oper} {n : Nat} {L : Slots} {D : List Deferred} {H : Heap} {R : Facts} {K : Act → World → Prop}
  {i d : Nat} {ty : TypeId} {pos : String} {af : Array Edge}
theorem cpyR {T T2 e s : Nat} {x y : Operand} {b dl dc sc e2 : Nat} {l : List Value} {ax : Option Addr} {rows : List (List Value)} {H' : Heap}
    (ho : ops[i]? = some ⟨some d, .call { callee := .builtin .copy, args := #[x, y], argTypes := #[T, T2] }, ty, pos, af, none⟩) (hT : slE P T = some (e, s))
    (hx : ev L x = some (.slice (some ⟨b, 0, none⟩) dl dc)) (hy : ev L y = some (.slice ax rows.length sc)) [mr : MemRows ax s rows R] (hl : ∀ q ∈ rows, q.length = s) (hle : rows.length ≤ dl)
    (h1 : rows.flatten.all (·.oneCell') = true) (hb : rows.flatten.length ≤ l.length) (hd : Nat.blt d n = true)
    [m : Mem1 b (cel e2 l) H] [rp : Rep [(b, cel e2 l)] [(b, cel e2 (spl l 0 rows.flatten))] H H']
    (h : Sy n ((d, .int .i64 rows.length) :: L) D H' R K) : Sy n L D H R (stp P r ops i K) := fun a w ha hD hs => by
  obtain ⟨ie, hu, hi, rfl⟩ := slE_und hT
  have hr := run_rows (P := P) (sc := sc) (hs.now mr.mem) hl hle
  have hst : (storeCells ⟨b, 0, none⟩ rows.flatten).run P w = .ok () { w with heap := w.heap.setIfInBounds b (cel e2 (spl l 0 rows.flatten)) } := run_store0 (P := P) (e := e2) h1 hb (hs.held _ m.mem)
  refine stp_value ho (wanted_none _ rfl _) (v := .int .i64 rows.length) (w' := { w with heap := w.heap.setIfInBounds b (cel e2 (spl l 0 rows.flatten)) }) ?_
    (h _ _ (ha.put (by simpa using hd) _) hD (hs.rep (F := [(b, cel e2 l)]) (F' := [(b, cel e2 (spl l 0 rows.flatten))]) fun T hT => St.set hT))
  simp only [execOp, resolve, invoke, builtin, Sem.run_bind, Sem.run_pure, Result.andThen, List.map_toArray, List.map_cons, List.map_nil, ha.reads _ _ hx, ha.reads _ _ hy]
  have e1 : (Builtin.copy_ #[T, T2] ty #[.slice (some ⟨b, 0, none⟩) dl dc, .slice ax rows.length sc]).run P w = .ok (goInt (rows.length : Nat)) { w with heap := w.heap.setIfInBounds b (cel e2 (spl l 0 rows.flatten)) } := by
    have e3 : (Builtin.firstCells ie.size rows.length (.slice ax rows.length sc)).run P w = .ok rows.flatten.toArray w := by
      rw [show Nat.min rows.length dl = rows.length from Nat.min_eq_left hle] at hr; exact hr
    simp [Builtin.copy_, run_underlying hu, Builtin.lenOf, sizeOf, typeInfo, hi, e3, hst, Nat.min_eq_left hle]
  rw [e1]
  rfl
end steps
end Go.Proofs.YtelegnmfhjfbaaaGreat
namespace Go.Proofs.YtelegnmfhjfbaaaGreat
set_option linter.unusedSimpArgs false
set_option linter.unusedVariables false
open Go
theorem ap25 : apT Tryz.prog 25 = some (40, 4, 32) := by kernel_rfl
theorem cal118 : cal Tryz.prog 118 = true := by kernel_rfl
theorem cn25 : cellN Tryz.prog 25 = some 1 := by kernel_rfl
theorem cn27 : cellN Tryz.prog 27 = some 9 := by kernel_rfl
theorem pl27 : placeL Tryz.prog 27 = some [(0, 1), (1, 1), (2, 6), (8, 1)] := by kernel_rfl
theorem sl25 : slE Tryz.prog 25 = some (40, 4) := by kernel_rfl
theorem zl27 : zeroL Tryz.prog 27 = some ([.int .i64 0, .int .i64 0, .int .i64 0, .int .i64 0, .int .i64 0, .int .i64 0, .int .i64 0, .int .i64 0, .slice none 0 0]) := by kernel_rfl
theorem brows_len (l : List HBin) : (brows l).length = l.length := List.length_map _
theorem br_four (l : List HBin) : ∀ q ∈ brows l, q.length = 4 := fun q hq => by obtain ⟨x, _, rfl⟩ := List.mem_map.1 hq; rfl
theorem br_flat (l : List HBin) : (brows l).flatten.length = l.length * 4 := by rw [flat_len (br_four l), brows_len]
theorem br_one (l : List HBin) : (brows l).flatten.all (·.oneCell') = true := by
  rw [List.all_eq_true]
  intro v hv
  obtain ⟨r, hr, hv⟩ := List.mem_flatten.1 hv
  obtain ⟨x, _, rfl⟩ := List.mem_map.1 hr
  simp only [brow, List.mem_cons, List.not_mem_nil, or_false] at hv
  rcases hv with rfl | rfl | rfl | rfl <;> rfl
theorem repl_len4 (n : Nat) : (repl n [Value.int .i64 0, .int .i64 0, .int .i64 0, .int .i64 0]).length = n * 4 := by
  rw [← flat_repl, flat_len (sz := 4) (fun q hq => by rw [(List.mem_replicate.1 hq).2]; rfl), List.length_replicate]
theorem spl_full {l vs : List Value} (h : l.length = vs.length) : spl l 0 vs = vs := by
  unfold spl; rw [List.take_zero, List.nil_append, Nat.zero_add, List.drop_eq_nil_of_le (by omega), List.append_nil]
theorem spl_at {p q s vs : List Value} (h : q.length = vs.length) : spl (p ++ (q ++ s)) p.length vs = p ++ (vs ++ s) := by
  unfold spl
  rw [List.take_left, show p.length + vs.length = (p ++ q).length by simp [h], ← List.append_assoc p q s, List.drop_left, List.append_assoc]
theorem cut_at {α : Type} {xs : List α} {i : Nat} (hi : i < xs.length) : ∃ A y B, xs = A ++ y :: B ∧ i = A.length := ⟨xs.take i, xs[i], xs.drop (i + 1), by rw [← List.drop_eq_getElem_cons hi, List.take_append_drop], by rw [List.length_take]; omega⟩
theorem brows_app (A B : List HBin) : brows (A ++ B) = brows A ++ brows B := by simp [brows]
theorem br_warm {l : List HBin} {k i : Nat} {x : HBin} (hx : l[k]? = some x) (v : Int) (e : i = k * 4) : spl (brows l).flatten i [.int .i64 v] = (brows (l.set k { x with warm := v })).flatten := by
  obtain ⟨A, y, B, rfl, rfl⟩ := cut_at (List.getElem?_eq_some_iff.1 hx).1
  have : y = x := by simpa using hx
  subst this
  subst e
  rw [List.set_append_right _ _ (Nat.le_refl _), Nat.sub_self, List.set_cons_zero]
  rw [brows_app, brows_app, List.flatten_append, List.flatten_append, ← br_flat A]
  exact spl_at (p := (brows A).flatten) (q := [.int .i64 y.warm]) (s := [.int .i64 y.mark, .int .i64 y.lo, .int .i64 y.hi] ++ (brows B).flatten) (vs := [.int .i64 v]) rfl
def Barn.withB (b : Barn) (l : List HBin) : Barn := { b with bins := l }
def wbins (l : List HBin) (ws : List Int) : List HBin := List.zipWith (fun (x : HBin) (w : Int) => { x with warm := w }) l ws
def zbarn : Barn := ⟨0, 0, [0, 0, 0, 0, 0, 0], []⟩
def zbv : Value := zbarn.v (.slice none 0 0)
theorem wbins_get {l : List HBin} {ws : List Int} {k : Nat} {x : HBin} {w : Int} (hx : l[k]? = some x) (hw : ws[k]? = some w) : (wbins l ws)[k]? = some { x with warm := w } := by
  unfold wbins; rw [List.getElem?_zipWith, hx, hw]
theorem wbins_len {l : List HBin} {ws : List Int} (h : ws.length = l.length) : (wbins l ws).length = l.length := by unfold wbins; rw [List.length_zipWith, h, Nat.min_self]
def AfterQ (b : Barn) (p : List (List Int)) (H : Heap) (R : Facts) : Value → Heap → Facts → Prop := fun v H' R' => R' = R ∧
  ((b.planned p ≠ 0 ∧ v = .tuple #[zbv, .int .i64 (b.planned p)] ∧ H' = H) ∨
   (b.planned p = 0 ∧ (∃ q ws, b.burnsF b.warms p 0 = (some q, ws)) ∧ v = .tuple #[zbv, .int .i64 8] ∧ H' = H) ∨
   (b.planned p = 0 ∧ ∃ (ws : List Int) (bo : Nat), b.burnsF b.warms p 0 = (none, ws) ∧ Cool b ws ∧ v = .tuple #[(b.withB (wbins b.bins ws)).v ((b.withB (wbins b.bins ws)).sl (some ⟨bo, 0, none⟩) b.bins.length), .int .i64 0] ∧ H' = (bo, cel 40 (brows (wbins b.bins ws)).flatten) :: H))
theorem c_owned (b : Barn) (ab : Option Addr) (cb : Nat) (hmn : b.bins.length ≤ 4) (H : Heap) (R : Facts) [hB : MemRows ab 4 (brows b.bins) R] :
    Fn Tryz.prog 118 [b.v (b.sl ab cb)] H R (fun v H' R' => ∃ bo : Nat, v = b.v (.slice (some ⟨bo, 0, none⟩) b.bins.length b.bins.length) ∧ H' = (bo, cel 40 (brows b.bins).flatten) :: H ∧ R' = R) := by
 refine fn_of Tryz.func118 rfl Tryz.ntmps118 rfl ?_
 refine sy_seq ?_
 refine sy_tx' [0, 1] rfl ?_
 refine bx rfl rfl rfl (fun b1 => ?_)
 refine alc rfl zl27 rfl (fun b2 => ?_)
 refine sy_seq ?_
 refine sy_tx' [0, 1, 2, 3, 4] rfl ?_
 refine sp rfl (PE.fieldAddr fo27_3 rfl) rfl ?_
 refine spL rfl rfl (lh sc25 rfl rfl) rfl ?_
 refine sp rfl (PE.lenSl isl25 rfl) rfl ?_
 refine mkS rfl ap25 zl40 rfl rfl (Nat.le_refl _) ⟨by omega, by omega⟩ rfl (fun b7 => ?_)
 refine sp rfl (PE.assign rfl) rfl ?_
 refine sy_seq ?_
 refine sy_tx' [0, 1, 2, 3] rfl ?_
 refine sp rfl (PE.move rfl) rfl ?_
 refine sp rfl (PE.fieldAddr fo27_3 rfl) rfl ?_
 refine spL rfl rfl (lh sc25 rfl rfl) rfl ?_
 refine cpyR (rows := brows b.bins) rfl sl25 rfl (by rw [brows_len]; rfl) (br_four _) (by rw [brows_len]; omega) (br_one _) (by rw [br_flat, repl_len4]; omega) rfl ?_
 rw [spl_full (by rw [br_flat, repl_len4])]
 refine sy_seq ?_
 refine sy_tx' [0, 1, 2] rfl ?_
 refine sp rfl (PE.move rfl) rfl ?_
 refine sp rfl (PE.fieldAddr fo27_3 rfl) rfl ?_
 refine sto rfl rfl rfl cn25 rfl rfl rfl rfl ?_
 refine sy_seq ?_
 refine sy_tx' [0, 1] rfl ?_
 refine spL rfl rfl (lhA (btl b (.slice (some ⟨b7, 0, none⟩) b.bins.length b.bins.length)) ag27 rfl rfl rfl) rfl ?_
 refine sto rfl rfl rfl cn27 rfl rfl rfl rfl ?_
 refine sy_ret ?_
 exact sy_return (vs := [_]) rfl (.cons (RV.cell rfl (lhA (btl b (.slice (some ⟨b7, 0, none⟩) b.bins.length b.bins.length)) ag27 rfl rfl rfl)) .nil) rfl ⟨b7, rfl, rfl, rfl⟩ (fun w h => (h.del b2).del b1)
theorem c_After (b : Barn) (ab : Option Addr) (cb : Nat) (hl : b.bins.length ≤ 9223372036854775807) (hr : b.rise.length = 6) (pl : List PL) (ap : Option Addr) (cp : Nat) (hpl : pl.length ≤ 9223372036854775807) (hpi : ∀ x ∈ pl, x.l.length ≤ 9223372036854775807) (H : Heap) (R : Facts) [hB : MemRows ab 4 (brows b.bins) R] [hP : MemRows ap 1 (plrows pl) R] [hI : MemF (Inn pl) R] :
    Fn Tryz.prog 67 [b.v (b.sl ab cb), .slice ap pl.length cp] H R (AfterQ b (lls pl) H R) := by
 refine fn_of Tryz.func67 rfl Tryz.ntmps67 rfl ?_
 refine sy_seq ?_
 refine sy_tx' [0, 1, 2] rfl ?_
 refine bx rfl rfl rfl (fun b2 => ?_)
 refine alc rfl zl27 rfl (fun b4 => ?_)
 refine sp rfl (PE.assign rfl) rfl ?_
 refine sy_seq ?_
 refine sy_seq ?_
 refine sy_tx' [0, 1, 2, 3] rfl ?_
 refine spL rfl rfl (lhA (btl b (b.sl ab cb)) ag27 rfl rfl rfl) rfl ?_
 refine sp rfl (PE.move rfl) rfl ?_
 refine clV rfl cal65 rfl rfl (c_planned b ab cb hl hr pl ap cp hpl hpi _ _) ?_
 refine sp rfl (PE.assign rfl) rfl ?_
 refine sy_seq ?_
 refine sy_tx' [0, 1] rfl ?_
 refine sp rfl (PE.move rfl) rfl ?_
 refine sp rfl (PE.neq rfl rfl) rfl ?_
 refine sy_cond rfl (fun hc0 => ?_) (fun hc0 => ?_)
 try simp only [decide_eq_true_eq, decide_eq_false_iff_not, Bool.and_eq_true, Bool.or_eq_true, Bool.not_eq_true', Int.not_le, Int.not_lt] at hc0
 refine sy_seq ?_
 refine sy_tx' [0, 1, 2, 3] rfl ?_
 refine sp rfl (PE.build (out := btl zbarn (.slice none 0 0)) pl27 zl27 rfl rfl) rfl ?_
 refine sp rfl (PE.move rfl) rfl ?_
 refine sto rfl rfl rfl cn27 rfl rfl rfl rfl ?_
 refine sp rfl (PE.assign rfl) rfl ?_
 refine sy_ret ?_
 exact sy_return (vs := [_, _]) rfl (.cons (RV.cell rfl (lhA [_, _, _, _, _, _, _, _, _] ag27 rfl rfl rfl)) (.cons (RV.tmp rfl) .nil)) rfl ⟨rfl, .inl ⟨hc0, rfl, rfl⟩⟩ drp
 try simp only [decide_eq_true_eq, decide_eq_false_iff_not, Bool.and_eq_true, Bool.or_eq_true, Bool.not_eq_true', Int.not_le, Int.not_lt] at hc0
 have hpz : b.planned (lls pl) = 0 := by omega
 obtain ⟨hck, hok, hpe⟩ := planned_ok hr hpz
 have hmn := hok.many
 refine sy_skip ?_
 refine sy_seq ?_
 refine sy_tx' [0, 1, 2, 3, 4, 5, 6, 7, 8, 9, 10, 11] rfl ?_
 refine spL rfl rfl (lhA (btl b (b.sl ab cb)) ag27 rfl rfl rfl) rfl ?_
 refine sp rfl (PE.move rfl) rfl ?_
 refine cl rfl cal115 rfl rfl (c_burns b ab cb hok pl ap cp hpl hpi _ _) ?_
 rintro _ _ R1 ⟨hR1, hQ⟩
 obtain rfl := hR1.symm
 rcases hQ with ⟨ws, o, hbu, hcw, rfl, rfl⟩ | ⟨d, k, ws, ws2, o, hbu, hd, hk, rfl, rfl⟩
 refine sp rfl (PE.move rfl) rfl ?_
 refine sp rfl (PE.extract rfl rfl) rfl ?_
 refine sp rfl (PE.extract rfl rfl) rfl ?_
 refine sp rfl (PE.extract rfl rfl) rfl ?_
 refine sp rfl (PE.extract rfl rfl) rfl ?_
 refine sp rfl (PE.assign rfl) rfl ?_
 refine sp rfl (PE.assign rfl) rfl ?_
 refine sp rfl (PE.assign rfl) rfl ?_
 refine sp rfl (PE.assign rfl) rfl ?_
 refine sy_seq ?_
 refine sy_seq ?_
 refine sy_tx' [0] rfl ?_
 refine sp rfl (PE.move rfl) rfl ?_
 refine sy_condF rfl ?_
 refine sy_skip ?_
 refine sy_seq ?_
 refine sy_tx' [0, 1, 2, 3] rfl ?_
 obtain ⟨aw, cw, he, hf⟩ := o.freeze
 rw [he, irows_len, hcw.len]
 refine Sy.heap (fun w h => hf h) ?_
 clear he hf
 have hwl := hcw.len
 refine spL rfl rfl (lhA (btl b (b.sl ab cb)) ag27 rfl rfl rfl) rfl ?_
 refine cl rfl cal118 rfl rfl (c_owned b ab cb hmn.2 _ _) ?_
 rintro _ _ _ ⟨bo, rfl, rfl, rfl⟩
 refine alc rfl zl27 rfl (fun b11 => ?_)
 refine sto rfl rfl rfl cn27 rfl rfl rfl rfl ?_
 refine sy_seq ?_
 refine sy_seq ?_
 refine sy_tx' [0, 1, 2] rfl ?_
 refine Sy.heap (H' := (b11, cel 27 (btl b (.slice (some ⟨bo, 0, none⟩) b.bins.length b.bins.length))) :: (bo, cel 40 (brows ((wbins b.bins ws).take 0 ++ b.bins.drop 0)).flatten) :: (b4, cel 27 (btl zbarn (.slice none 0 0))) :: (b2, cel 27 (btl b (b.sl ab cb))) :: H) (fun w h => h) ?_
 refine sp rfl (PE.move rfl) rfl ?_
 refine sp rfl (PE.lenSl isl22 rfl) rfl ?_
 refine sp rfl (PE.move rfl) rfl ?_
 refine sy_block ?_
 refine sy_loop (ι := {k : Nat // k ≤ b.bins.length}) (fun k => ⟨[(2, .pointer (some ⟨b2, 0, none⟩)), (4, .pointer (some ⟨b4, 0, none⟩)), (11, .pointer (some ⟨b11, 0, none⟩)), (33, .slice aw b.bins.length cw), (34, .int .i64 b.bins.length), (35, .int .i64 k.1)], (b11, cel 27 (btl b (.slice (some ⟨bo, 0, none⟩) b.bins.length b.bins.length))) :: (bo, cel 40 (brows ((wbins b.bins ws).take k.1 ++ b.bins.drop k.1)).flatten) :: (b4, cel 27 (btl zbarn (.slice none 0 0))) :: (b2, cel 27 (btl b (b.sl ab cb))) :: H, RowsA aw 1 (irows ws) :: R⟩) (fun k => b.bins.length - k.1) ⟨0, by omega⟩ ?_ (fun k => ?_)
 exact sy_at (by repeat' first | exact Sub.nil | apply Sub.cons | rfl | (simp [lk]; omega)) (fun _ h => h)
 obtain ⟨k, hk⟩ := k
 dsimp only at hk ⊢
 refine sy_seq ?_
 refine sy_tx' [0] rfl ?_
 refine sp rfl (PE.lss rfl rfl) rfl ?_
 refine sy_seq ?_
 refine sy_cond rfl (fun hc2 => ?_) (fun hc2 => ?_)
 try simp only [decide_eq_true_eq, decide_eq_false_iff_not, Bool.and_eq_true, Bool.or_eq_true, Bool.not_eq_true', Int.not_le, Int.not_lt] at hc2
 obtain ⟨x, hx⟩ : ∃ x, b.bins[k]? = some x := ⟨_, List.getElem?_eq_getElem (by omega)⟩
 obtain ⟨v, hv⟩ : ∃ v, ws[k]? = some v := ⟨_, List.getElem?_eq_getElem (by omega)⟩
 have hml : ((wbins b.bins ws).take k ++ b.bins.drop k).length = b.bins.length := by rw [List.length_append, List.length_take, List.length_drop, wbins_len hwl]; omega
 have hmg : ((wbins b.bins ws).take k ++ b.bins.drop k)[k]? = some x := by
   rw [List.getElem?_append_right (by rw [List.length_take, wbins_len hwl]; omega), List.length_take, wbins_len hwl, show k - min k b.bins.length = 0 by omega, List.getElem?_drop]; simpa using hx
 have hms : ((wbins b.bins ws).take k ++ b.bins.drop k).set k { x with warm := v } = ((wbins b.bins ws).take (k + 1) ++ b.bins.drop (k + 1)) := set_take (by rw [wbins_len hwl]) (wbins_get hx hv)
 refine sy_addr (a := aw) (sz := 1) (rows := irows ws) (by intro h0; have := congrArg List.length h0; rw [irows_len] at this; simp only [List.length_nil] at this; omega) (fun ba oa he => ?_)
 subst he
 refine sy_skip ?_
 refine sy_seq ?_
 refine sy_block ?_
 refine sy_seq ?_
 refine sy_tx' [0, 1, 2, 3, 4] rfl ?_
 refine sp rfl (PE.move rfl) rfl ?_
 refine sp rfl (PE.indexAddr el22 rfl rfl (by omega) (by omega)) rfl ?_
 refine spL rfl rfl (lf0 sc3 (ir_get hv) rfl) rfl ?_
 refine sp rfl (PE.assign rfl) rfl ?_
 refine sp rfl (PE.assign rfl) rfl ?_
 refine sy_tx' [0, 1, 2, 3, 4, 5, 6] rfl ?_
 refine sp rfl (PE.fieldAddr fo27_3 rfl) rfl ?_
 refine spL rfl rfl (lh sc25 rfl rfl) rfl ?_
 refine sp rfl (PE.move rfl) rfl ?_
 refine sp rfl (PE.move rfl) rfl ?_
 refine sp rfl (PE.indexAddr el25 rfl rfl (by omega) (by omega)) rfl ?_
 refine sp rfl (PE.fieldAddr fo40_0 rfl) rfl ?_
 refine stoE (l' := (brows ((wbins b.bins ws).take (k + 1) ++ b.bins.drop (k + 1))).flatten) rfl rfl rfl cn3 rfl rfl rfl ((br_warm hmg v (by show 0 + ((k : Nat) : Int).toNat * 4 + 0 = _; omega)).trans (by rw [hms])) (by rw [br_flat, hml]; show 0 + ((k : Nat) : Int).toNat * 4 + 0 + 1 ≤ _; omega) ?_
 refine sy_tx' [0, 1] rfl ?_
 refine sp rfl (PE.add rfl rfl (by omega)) rfl ?_
 refine sp rfl (PE.move rfl) rfl ?_
 exact sy_next ⟨k + 1, by omega⟩ (by dsimp only; omega) (by repeat' first | exact Sub.nil | apply Sub.cons | rfl | (simp [lk]; omega)) (fun _ h => h)
 try simp only [decide_eq_true_eq, decide_eq_false_iff_not, Bool.and_eq_true, Bool.or_eq_true, Bool.not_eq_true', Int.not_le, Int.not_lt] at hc2
 obtain rfl : k = b.bins.length := by omega
 rw [show ((wbins b.bins ws).take b.bins.length ++ b.bins.drop b.bins.length) = wbins b.bins ws by rw [List.drop_length, List.append_nil, List.take_of_length_le (by rw [wbins_len hwl]; exact Nat.le_refl _)]]
 refine sy_exit ?_
 repeat refine sy_tx ?_
 refine sy_bx ?_
 refine sy_seq ?_
 refine sy_tx' [0, 1, 2] rfl ?_
 refine spL rfl rfl (lhA (btl b (.slice (some ⟨bo, 0, none⟩) b.bins.length b.bins.length)) ag27 rfl rfl rfl) rfl ?_
 refine sto rfl rfl rfl cn27 rfl rfl rfl rfl ?_
 refine sp rfl (PE.assign rfl) rfl ?_
 refine sy_ret ?_
 exact sy_return (vs := [_, _]) rfl (.cons (RV.cell rfl (lhA (btl b (.slice (some ⟨bo, 0, none⟩) b.bins.length b.bins.length)) ag27 rfl rfl rfl)) (.cons (RV.tmp rfl) .nil)) rfl ⟨rfl, .inr (.inr ⟨hpz, ws, bo, hbu, hcw, by unfold Barn.sl Barn.withB; dsimp only; rw [wbins_len hwl]; rfl, rfl⟩)⟩ (fun w h => (((h.del b11).del b4).del b2).ftail)
 refine sp rfl (PE.move rfl) rfl ?_
 refine sp rfl (PE.extract rfl rfl) rfl ?_
 refine sp rfl (PE.extract rfl rfl) rfl ?_
 refine sp rfl (PE.extract rfl rfl) rfl ?_
 refine sp rfl (PE.extract rfl rfl) rfl ?_
 refine sp rfl (PE.assign rfl) rfl ?_
 refine sp rfl (PE.assign rfl) rfl ?_
 refine sp rfl (PE.assign rfl) rfl ?_
 refine sp rfl (PE.assign rfl) rfl ?_
 refine sy_seq ?_
 refine sy_seq ?_
 refine sy_tx' [0] rfl ?_
 refine sp rfl (PE.move rfl) rfl ?_
 refine sy_condT rfl ?_
 refine sy_seq ?_
 refine sy_tx' [0, 1, 2] rfl ?_
 refine sp rfl (PE.build (out := btl zbarn (.slice none 0 0)) pl27 zl27 rfl rfl) rfl ?_
 refine sto rfl rfl rfl cn27 rfl rfl rfl rfl ?_
 refine sp rfl (PE.assign rfl) rfl ?_
 refine sy_ret ?_
 exact sy_return (vs := [_, _]) rfl (.cons (RV.cell rfl (lhA [_, _, _, _, _, _, _, _, _] ag27 rfl rfl rfl)) (.cons (RV.tmp rfl) .nil)) rfl ⟨rfl, .inr (.inl ⟨hpz, ⟨_, _, hbu⟩, rfl, rfl⟩)⟩ (fun w h => ((St.drop h).del b4).del b2)
end Go.Proofs.YtelegnmfhjfbaaaGreat
namespace Go.Proofs.YtelegnmfhjfbaaaGreat
set_option linter.unusedSimpArgs false
set_option linter.unusedVariables false
open Go
theorem ap113 : apT Tryz.prog 113 = some (31, 2, 16) := by kernel_rfl
theorem eqf40 : eqB Tryz.prog 10000 40 = some (true, 4) := by kernel_rfl
theorem eqg40 : Tryz.prog.eqGuardType Tryz.prog.depth 40 = false := by kernel_rfl
theorem sl113 : slE Tryz.prog 113 = some (31, 2) := by kernel_rfl
def wst (c r k : Int) : Int → List (List Int) → Int
  | w, [] => w
  | w, l :: p => wst c r k ((bif hasI l k then min w c else w) + r) p
theorem wst_app (c r k : Int) : ∀ (p q : List (List Int)) (w : Int), wst c r k w (p ++ q) = wst c r k (wst c r k w p) q
  | [], _, _ => rfl
  | l :: p, q, w => wst_app c r k p q _
theorem wst_snoc (c r k w : Int) (p : List (List Int)) (l : List Int) : wst c r k w (p ++ [l]) = (bif hasI l k then min (wst c r k w p) c else wst c r k w p) + r := by rw [wst_app]; rfl
def wSpans (c r s k w : Int) (p : List (List Int)) (n : Nat) : List (Int × Int) := (List.range n).map fun d => (wst c r k w (p.take (d + 1)), wst c s k w (p.take (d + 1)))
def sprow (x : Int × Int) : List Value := [.int .i64 x.1, .int .i64 x.2]
def sprows (l : List (Int × Int)) : List (List Value) := l.map sprow
theorem sprows_len (l : List (Int × Int)) : (sprows l).length = l.length := List.length_map _
def warmErr (b : Barn) (p : List (List Int)) (n : Int) : Int := bif decide (b.planned p = 0) then (bif decide (20 < p.length) then 2 else bif !(inB n 0 ((b.bins.length : Int) - 1)) then 1 else 0) else b.planned p
def warmL (b : Barn) (p : List (List Int)) (n : Int) : List (Int × Int) := wSpans b.cool (b.least (binAt b n)) (b.worst (binAt b n)) n (binAt b n).warm p p.length
theorem wst_bd {c r k : Int} (hc : 0 ≤ c ∧ c ≤ 60) (hr : 0 ≤ r ∧ r ≤ 20) : ∀ (p : List (List Int)) (w : Int), 0 ≤ w → 0 ≤ wst c r k w p ∧ wst c r k w p ≤ w + 20 * p.length
  | [], w, h => ⟨h, by simp [wst]⟩
  | l :: p, w, h => by
    have h0 : 0 ≤ (bif hasI l k then min w c else w) + r ∧ (bif hasI l k then min w c else w) + r ≤ w + 20 := by
      cases hasI l k <;> simp only [cond_true, cond_false] <;> omega
    have := wst_bd (k := k) hc hr p _ h0.1
    unfold wst
    rw [List.length_cons]
    push_cast
    omega
theorem wst_shape {c r k : Int} (hr : 0 ≤ r) : ∀ (p : List (List Int)), ∃ A, 0 ≤ A ∧ ((∀ w, wst c r k w p = w + A) ∨ ∃ C, ∀ w, wst c r k w p = min (w + A) C)
  | [] => ⟨0, Int.le_refl _, .inl fun w => by simp [wst]⟩
  | l :: p => by
    obtain ⟨A, hA, h⟩ := wst_shape hr p
    refine ⟨r + A, by omega, ?_⟩
    cases hl : hasI l k with
    | false =>
      rcases h with h | ⟨C, h⟩
      · exact .inl fun w => by unfold wst; rw [hl, cond_false, h]; omega
      · exact .inr ⟨C, fun w => by unfold wst; rw [hl, cond_false, h]; omega⟩
    | true =>
      rcases h with h | ⟨C, h⟩
      · exact .inr ⟨c + (r + A), fun w => by unfold wst; rw [hl, cond_true, h]; omega⟩
      · exact .inr ⟨min (c + (r + A)) C, fun w => by unfold wst; rw [hl, cond_true, h]; omega⟩
theorem wst_grow {c r k : Int} (hr : 0 ≤ r) (p : List (List Int)) (w : Int) : wst c r k w p ≤ wst c r k (wst c r k w p) p := by
  obtain ⟨A, hA, h | ⟨C, h⟩⟩ := wst_shape (c := c) (k := k) hr p
  · rw [h, h]; omega
  · rw [h, h]; omega
theorem Barn.burns_at {b : Barn} : ∀ (p : List (List Int)) (ws ws' : List Int) (d : Nat), b.burnsF ws p d = (none, ws') → ∀ k < b.bins.length, ws.length = b.bins.length → na ws' k = wst b.cool (b.worst (b.bins.getD k hb0)) k (na ws k) p
  | [], ws, ws', d, h, k, hk, hl => by cases h; rfl
  | l :: p, ws, ws', d, h, k, hk, hl => by
    unfold Barn.burnsF at h
    split at h
    · cases h
    · rw [burns_at p _ ws' _ h k hk (b.dayW_len _ _), na_at (b.dayW_at hk)]; rfl
theorem Barn.burns_cons {b : Barn} (l : List Int) (p : List (List Int)) (ws : List Int) (d : Nat) : b.burnsF ws (l :: p) d = match (List.range b.bins.length).find? (b.hotAt ws l) with
    | some k => (some (d, k), ws)
    | none => b.burnsF (b.dayW ws l) p (d + 1) := rfl
theorem Barn.burns_app {b : Barn} : ∀ (p q : List (List Int)) (ws : List Int) (d : Nat), b.burnsF ws (p ++ q) d = match b.burnsF ws p d with
    | (some x, w) => (some x, w)
    | (none, w) => b.burnsF w q (d + p.length)
  | [], q, ws, d => rfl
  | l :: p, q, ws, d => by
    rw [List.cons_append, b.burns_cons, b.burns_cons]
    cases (List.range b.bins.length).find? (b.hotAt ws l) with
    | some k => rfl
    | none =>
      dsimp only
      rw [burns_app p q _ (d + 1), List.length_cons, show d + 1 + p.length = d + (p.length + 1) by omega]
theorem Barn.burns_day {b : Barn} : ∀ (p : List (List Int)) (ws : List Int) (d e : Nat), (b.burnsF ws p d).2 = (b.burnsF ws p e).2 ∧ ((b.burnsF ws p d).1 = none ↔ (b.burnsF ws p e).1 = none)
  | [], _, _, _ => ⟨rfl, Iff.rfl⟩
  | l :: p, ws, d, e => by
    unfold Barn.burnsF
    cases (List.range b.bins.length).find? (b.hotAt ws l) with
    | some k => exact ⟨rfl, by simp⟩
    | none => exact burns_day p _ (d + 1) (e + 1)
def rep (n : Nat) (p : List (List Int)) : List (List Int) := (List.replicate n p).flatten
theorem rep_succ (n : Nat) (p : List (List Int)) : rep (n + 1) p = rep n p ++ p := by
  unfold rep; rw [List.replicate_succ', List.flatten_append, List.flatten_singleton]
theorem burns_none {b : Barn} {ws w : List Int} {p : List (List Int)} {d e : Nat} (h : b.burnsF ws p d = (none, w)) : b.burnsF ws p e = (none, w) := by
  have h1 := b.burns_day p ws d e
  rw [h] at h1
  obtain ⟨h2, h3⟩ := h1
  have h4 := h3.1 rfl
  rw [show b.burnsF ws p e = ((b.burnsF ws p e).1, (b.burnsF ws p e).2) from rfl, h4, ← h2]
theorem burns_some {b : Barn} {ws : List Int} {p : List (List Int)} {d e : Nat} (h : ∃ q w, b.burnsF ws p d = (some q, w)) : ∃ q w, b.burnsF ws p e = (some q, w) := by
  obtain ⟨q, w, h⟩ := h
  cases h2 : (b.burnsF ws p e).1 with
  | none =>
    have h1 := (b.burns_day p ws d e).2.2 h2
    rw [h] at h1; cases h1
  | some q' => exact ⟨q', (b.burnsF ws p e).2, by rw [← h2]⟩
def Barn.goes (b : Barn) (p q : List (List Int)) : Prop := ∀ n, (b.burnsF b.warms (p ++ rep n q) 0).1 = none
def goesErr (b : Barn) (p q : List (List Int)) : Int := bif decide (b.planned p = 0) then (bif decide (planErr b.bins.length b.gangs q = 0) then (bif decide (q.length = 0) then 6 else 0) else planErr b.bins.length b.gangs q) else b.planned p
def GoesQ (b : Barn) (p q : List (List Int)) : Value → Prop := fun v => (goesErr b p q ≠ 0 ∧ v = .tuple #[.bool false, .int .i64 (goesErr b p q)]) ∨ (goesErr b p q = 0 ∧ ∃ is : Bool, (is = true ↔ b.goes p q) ∧ v = .tuple #[.bool is, .int .i64 0])
theorem withW_ok {b : Barn} (hb : b.ok) {ws : List Int} (hc : Cool b ws) : (b.withB (wbins b.bins ws)).ok := by
  have hl := wbins_len hc.len
  have key : ∀ x ∈ wbins b.bins ws, ∃ y ∈ b.bins, ∃ w, x = { y with warm := w } ∧ 0 ≤ w ∧ w ≤ y.mark := fun x hx => by
    obtain ⟨k, hk⟩ := List.getElem?_of_mem hx
    have hk1 : k < b.bins.length := by rw [← hl]; exact (List.getElem?_eq_some_iff.1 hk).1
    obtain ⟨y, hy⟩ : ∃ y, b.bins[k]? = some y := ⟨_, List.getElem?_eq_getElem hk1⟩
    have hw : ws[k]? = some (na ws k) := na_get (by rw [hc.len]; exact hk1)
    rw [wbins_get hy hw] at hk
    cases hk
    exact ⟨y, List.mem_of_getElem? hy, _, rfl, hc.at_ k y hy⟩
  refine ⟨hb.len, by show 1 ≤ (wbins b.bins ws).length ∧ (wbins b.bins ws).length ≤ 4; rw [hl]; exact hb.many, hb.cool, hb.gangs, hb.rise, fun x hx => ?_, hb.srt, fun x hx => ?_⟩
  · obtain ⟨y, hy, w, rfl, h1, h2⟩ := key x hx
    have := hb.bins y hy
    exact ⟨this.1, ⟨h1, h2⟩, this.2.2⟩
  · obtain ⟨y, hy, w, rfl, _⟩ := key x hx
    exact hb.ord y hy
theorem check_of {b : Barn} (hb : b.ok) (hg : b.gangs ≤ 3) : b.check = 0 := by
  unfold Barn.check
  have h1 : inB b.bins.length 1 4 = true := by have := hb.many; simp [inB]; omega
  have h2 : inB b.cool 0 60 = true := by have := hb.cool; simp [inB]; omega
  have h3 : inB b.gangs 0 3 = true := by have := hb.gangs; simp [inB]; omega
  have h4 : b.rise.all riseOk = true := List.all_eq_true.2 fun n hn => by have := hb.rise n hn; simp [riseOk, inB]; omega
  have h5 : b.bins.all HBin.ok = true := List.all_eq_true.2 fun x hx => by have := hb.bins x hx; simp [HBin.ok, inB]; omega
  have h6 : (b.bins.all fun x => decide (x.lo ≤ x.hi)) = true := List.all_eq_true.2 fun x hx => by simpa using hb.ord x hx
  rw [h1, h2, h3, h4, h5, h6, hb.srt]; rfl
theorem check_gangs {b : Barn} (h : b.check = 0) : b.gangs ≤ 3 := by
  unfold Barn.check at h
  simp only [Bool.cond_eq_ite] at h
  split at h <;> try (exact absurd h (by decide))
  split at h <;> try (exact absurd h (by decide))
  rename_i h1 h2
  simp only [Bool.not_eq_true', Bool.not_eq_true, Bool.or_eq_true, not_or, Bool.not_eq_false', Bool.not_eq_false, inB, Bool.and_eq_true, decide_eq_true_eq] at h2
  omega
theorem withW_bin {b : Barn} {ws : List Int} (hl : ws.length = b.bins.length) (k : Nat) : ((wbins b.bins ws).getD k hb0).mark = (b.bins.getD k hb0).mark ∧ ((wbins b.bins ws).getD k hb0).hi = (b.bins.getD k hb0).hi := by
  rw [List.getD_eq_getElem?_getD, List.getD_eq_getElem?_getD]
  rcases Nat.lt_or_ge k b.bins.length with h | h
  · obtain ⟨y, hy⟩ : ∃ y, b.bins[k]? = some y := ⟨_, List.getElem?_eq_getElem h⟩
    rw [wbins_get hy (na_get (by omega)), hy]; exact ⟨rfl, rfl⟩
  · rw [List.getElem?_eq_none (by rw [wbins_len hl]; exact h), List.getElem?_eq_none h]; exact ⟨rfl, rfl⟩
theorem withW_wd {b : Barn} {ws : List Int} (hl : ws.length = b.bins.length) (us l : List Int) (k : Nat) : (b.withB (wbins b.bins ws)).wdAt us l k = b.wdAt us l k := by
  have h := withW_bin (b := b) hl k
  show (bif hasI l k then min (na us k) b.cool else na us k) + na b.rise ((wbins b.bins ws).getD k hb0).hi.toNat = (bif hasI l k then min (na us k) b.cool else na us k) + na b.rise (b.bins.getD k hb0).hi.toNat
  rw [h.2]
theorem withW_burns {b : Barn} {ws : List Int} (hl : ws.length = b.bins.length) : ∀ (p : List (List Int)) (us : List Int) (d : Nat), (b.withB (wbins b.bins ws)).burnsF us p d = b.burnsF us p d
  | [], _, _ => rfl
  | l :: p, us, d => by
    have e1 : (b.withB (wbins b.bins ws)).bins.length = b.bins.length := wbins_len hl
    have e2 : (b.withB (wbins b.bins ws)).hotAt us l = b.hotAt us l := by
      funext k
      unfold Barn.hotAt
      rw [withW_wd hl]
      show decide (((wbins b.bins ws).getD k hb0).mark < _) = _
      rw [(withW_bin (b := b) hl k).1]
    have e3 : (b.withB (wbins b.bins ws)).dayW us l = b.dayW us l := by
      unfold Barn.dayW
      rw [e1]
      refine List.map_congr_left fun k _ => withW_wd hl us l k
    unfold Barn.burnsF
    rw [e1, e2, e3]
    cases (List.range b.bins.length).find? (b.hotAt us l) with
    | some k => rfl
    | none => exact withW_burns hl p _ _
theorem withW_warms {b : Barn} {ws : List Int} (hl : ws.length = b.bins.length) : (b.withB (wbins b.bins ws)).warms = ws := by
  refine List.ext_getElem? fun k => ?_
  show ((wbins b.bins ws).map (·.warm))[k]? = _
  rw [List.getElem?_map]
  rcases Nat.lt_or_ge k b.bins.length with h | h
  · obtain ⟨y, hy⟩ : ∃ y, b.bins[k]? = some y := ⟨_, List.getElem?_eq_getElem h⟩
    have hw : ws[k]? = some (na ws k) := na_get (by omega)
    rw [wbins_get hy hw, hw]; rfl
  · rw [List.getElem?_eq_none (by rw [wbins_len hl]; exact h), List.getElem?_eq_none (by omega)]; rfl
theorem withW_planned {b : Barn} (hb : b.ok) (hck : b.check = 0) {ws : List Int} (hc : Cool b ws) {q : List (List Int)} (hq : planErr b.bins.length b.gangs q = 0) : (b.withB (wbins b.bins ws)).planned q = 0 := by
  unfold Barn.planned
  rw [decide_eq_true (check_of (withW_ok hb hc) (show (b.withB (wbins b.bins ws)).gangs ≤ 3 from check_gangs (b := b) hck)), cond_true, show (b.withB (wbins b.bins ws)).bins.length = b.bins.length from wbins_len hc.len]
  exact hq
theorem withW_cool {b : Barn} {ws us : List Int} (hl : ws.length = b.bins.length) (h : Cool (b.withB (wbins b.bins ws)) us) : Cool b us := by
  refine ⟨by rw [h.len]; exact wbins_len hl, fun k x hx => ?_⟩
  have hk := (List.getElem?_eq_some_iff.1 hx).1
  exact h.at_ k { x with warm := na ws k } (wbins_get hx (na_get (l := ws) (k := k) (by omega)))
theorem withW_twice {b : Barn} {ws us : List Int} (hl : ws.length = b.bins.length) (hu : us.length = b.bins.length) : wbins (wbins b.bins ws) us = wbins b.bins us := by
  refine List.ext_getElem? fun k => ?_
  rcases Nat.lt_or_ge k b.bins.length with h | h
  · obtain ⟨y, hy⟩ : ∃ y, b.bins[k]? = some y := ⟨_, List.getElem?_eq_getElem h⟩
    rw [wbins_get (wbins_get hy (na_get (by omega))) (na_get (k := k) (by omega)), wbins_get hy (na_get (by omega))]
  · rw [List.getElem?_eq_none (by rw [wbins_len (by rw [hu, wbins_len hl]), wbins_len hl]; exact h), List.getElem?_eq_none (by rw [wbins_len hu]; exact h)]
theorem wbins_inj {l : List HBin} {ws us : List Int} (hl : ws.length = l.length) (hu : us.length = l.length) (h : wbins l us = wbins l ws) : us = ws := by
  refine List.ext_getElem? fun k => ?_
  rcases Nat.lt_or_ge k l.length with h1 | h1
  · obtain ⟨y, hy⟩ : ∃ y, l[k]? = some y := ⟨_, List.getElem?_eq_getElem h1⟩
    have a := wbins_get hy (na_get (l := us) (k := k) (by omega))
    have c := wbins_get hy (na_get (l := ws) (k := k) (by omega))
    rw [h, c] at a
    rw [na_get (l := us) (k := k) (by omega), na_get (l := ws) (k := k) (by omega)]
    have := congrArg (fun o : Option HBin => o.map (·.warm)) a
    simpa using this.symm
  · rw [List.getElem?_eq_none (by omega), List.getElem?_eq_none (by omega)]
def roomW (b : Barn) (ws : List Int) : Nat := ((List.range b.bins.length).map fun k => (60 - na ws k).toNat).sum
theorem sum_lt : ∀ (l : List Nat) (f g : Nat → Nat), (∀ k ∈ l, g k ≤ f k) → (∃ k ∈ l, g k < f k) → (l.map g).sum < (l.map f).sum
  | [], _, _, _, h => by obtain ⟨_, h, _⟩ := h; cases h
  | x :: l, f, g, h, h2 => by
    simp only [List.map_cons, List.sum_cons]
    have hx := h x (by simp)
    obtain ⟨k, hk, hlt⟩ := h2
    rcases List.mem_cons.1 hk with rfl | hk
    · have : (l.map g).sum ≤ (l.map f).sum := by
        clear hlt hx hk
        have h3 : ∀ k ∈ l, g k ≤ f k := fun k hk => h k (by simp [hk])
        clear h
        induction l with
        | nil => simp
        | cons y l ih => simp only [List.map_cons, List.sum_cons]; have := h3 y (by simp); have := ih (fun k hk => h3 k (by simp [hk])); omega
      omega
    · have := sum_lt l f g (fun k hk => h k (by simp [hk])) ⟨k, hk, hlt⟩
      omega
theorem roomW_le (b : Barn) {ws : List Int} (h : ∀ k < b.bins.length, 0 ≤ na ws k) (hn : b.bins.length ≤ 4) : roomW b ws ≤ 240 := by
  unfold roomW
  have : ∀ (l : List Nat), (∀ k ∈ l, k < b.bins.length) → (l.map fun k => (60 - na ws k).toNat).sum ≤ 60 * l.length := by
    intro l
    induction l with
    | nil => intro _; simp
    | cons k l ih =>
      intro hk
      have h1 := h k (hk k (by simp))
      have := ih (fun j hj => hk j (by simp [hj]))
      simp only [List.map_cons, List.sum_cons, List.length_cons]
      omega
  have h2 := this (List.range b.bins.length) (fun k hk => List.mem_range.1 hk)
  rw [List.length_range] at h2
  omega
theorem c_eq_bin (xs ys : List HBin) (a a2 : Option Addr) (c c2 : Nat) (hl : xs.length ≤ 9223372036854775807) (hl2 : ys.length ≤ 9223372036854775807) (H : Heap) (R : Facts) [hR : MemRows a 4 (brows xs) R] [hR2 : MemRows a2 4 (brows ys) R] :
    FnV Tryz.prog 68 [.slice a xs.length c, .slice a2 ys.length c2] H R (.bool (decide (xs = ys))) := by
 refine fn_of Tryz.func68 rfl Tryz.ntmps68 rfl ?_
 refine sy_seq ?_
 refine sy_tx' [0] rfl ?_
 refine sp rfl (PE.assign rfl) rfl ?_
 refine sy_seq ?_
 refine sy_seq ?_
 refine sy_tx' [0, 1, 2, 3, 4] rfl ?_
 refine sp rfl (PE.move rfl) rfl ?_
 refine sp rfl (PE.lenSl isl25 rfl) rfl ?_
 refine sp rfl (PE.move rfl) rfl ?_
 refine sp rfl (PE.lenSl isl25 rfl) rfl ?_
 refine sp rfl (PE.neq rfl rfl) rfl ?_
 refine sy_cond rfl (fun hc0 => ?_) (fun hc0 => ?_)
 have hne : xs ≠ ys := fun e => by subst e; simp at hc0
 refine sy_seq ?_
 refine sy_tx' [0] rfl ?_
 refine sp rfl (PE.assign rfl) rfl ?_
 refine sy_ret ?_
 exact sy_return (vs := [_]) rfl (.cons (RV.tmp rfl) .nil) rfl ⟨by first | (simp only [retV]; rw [decide_eq_true heq]; done) | (simp only [retV]; rw [decide_eq_false hne]), rfl, rfl⟩ (fun _ h => h)
 have hle : xs.length = ys.length := by simp only [decide_eq_true_eq, decide_eq_false_iff_not, Bool.and_eq_true, Bool.or_eq_true, Bool.not_eq_true', Int.not_le, Int.not_lt] at hc0; omega
 refine sy_skip ?_
 refine sy_seq ?_
 refine sy_seq ?_
 refine sy_tx' [0, 1, 2] rfl ?_
 refine sp rfl (PE.move rfl) rfl ?_
 refine sp rfl (PE.lenSl isl25 rfl) rfl ?_
 refine sp rfl (PE.move rfl) rfl ?_
 refine sy_block ?_
 refine sy_loop (ι := {k : Nat // k ≤ xs.length ∧ xs.take k = ys.take k}) (fun k => ⟨[(0, .slice a xs.length c), (1, .slice a2 ys.length c2), (12, .int .i64 xs.length), (13, .int .i64 k.1)], H, R⟩) (fun k => xs.length - k.1) ⟨0, by simp⟩ ?_ (fun k => ?_)
 exact sy_at (by repeat' first | exact Sub.nil | apply Sub.cons | rfl | (simp [lk]; omega)) (fun _ h => h)
 obtain ⟨k, hk, hn⟩ := k
 dsimp only
 refine sy_seq ?_
 refine sy_tx' [0] rfl ?_
 refine sp rfl (PE.lss rfl rfl) rfl ?_
 refine sy_seq ?_
 refine sy_cond rfl (fun hc1 => ?_) (fun hc1 => ?_)
 simp only [decide_eq_true_eq, decide_eq_false_iff_not, Bool.and_eq_true, Bool.or_eq_true, Bool.not_eq_true', Int.not_le, Int.not_lt] at hc1
 obtain ⟨x, hx⟩ : ∃ x, xs[k]? = some x := ⟨_, List.getElem?_eq_getElem (by omega)⟩
 obtain ⟨z, hz⟩ : ∃ z, ys[k]? = some z := ⟨_, List.getElem?_eq_getElem (by omega)⟩
 refine sy_addr (a := a) (sz := 4) (rows := brows xs) (by intro h0; simp [brows] at h0; simp [h0] at hx) (fun b off he => ?_)
 subst he
 refine sy_addr (a := a2) (sz := 4) (rows := brows ys) (by intro h0; simp [brows] at h0; simp [h0] at hz) (fun b2 off2 he => ?_)
 subst he
 refine sy_skip ?_
 refine sy_seq ?_
 refine sy_block ?_
 refine sy_seq ?_
 refine sy_tx' [0, 1] rfl ?_
 refine sp rfl (PE.move rfl) rfl ?_
 refine sp rfl (PE.assign rfl) rfl ?_
 refine sy_seq ?_
 refine sy_draw [0, 0, 3, 7, 0, 0, 48, 112, 255] (.tk 0 (.tk 1 (.tk 2 (.ld 3 (.tk 4 (.tk 5 (.tk 6 (.ld 7 (.tk 8 .done))))))))) mixed (by kernel_rfl) ?_
 refine tk rfl (PE.move rfl) rfl ?_
 refine tk rfl (PE.move rfl) rfl ?_
 refine tk rfl (PE.indexAddr el25 rfl rfl (by omega) (by omega)) rfl ?_
 refine ld rfl rfl (lfA ag40 (row := brow x) (by simp [brows, hx]) rfl) rfl ?_
 refine tk rfl (PE.move rfl) rfl ?_
 refine tk rfl (PE.move rfl) rfl ?_
 refine tk rfl (PE.indexAddr el25 rfl rfl (by omega) (by omega)) rfl ?_
 refine ld rfl rfl (lfA ag40 (row := brow z) (by simp [brows, hz]) rfl) rfl ?_
 refine tk rfl (PE.neqAgg [x.warm, x.mark, x.lo, x.hi] [z.warm, z.mark, z.lo, z.hi] (eqB_ok 10000 40 true 4 eqf40) eqg40 rfl rfl rfl rfl) rfl ?_
 refine sy_cond rfl (fun hc2 => ?_) (fun hc2 => ?_)
 have hne : xs ≠ ys := fun e => by subst e; rw [hx] at hz; cases hz; simp at hc2
 refine sy_seq ?_
 refine sy_tx' [0] rfl ?_
 refine sp rfl (PE.assign rfl) rfl ?_
 refine sy_ret ?_
 exact sy_return (vs := [_]) rfl (.cons (RV.tmp rfl) .nil) rfl ⟨by first | (simp only [retV]; rw [decide_eq_true heq]; done) | (simp only [retV]; rw [decide_eq_false hne]), rfl, rfl⟩ (fun _ h => h)
 have hxz : x = z := by cases x; cases z; simpa using hc2
 refine sy_skip ?_
 refine sy_tx' [0, 1] rfl ?_
 refine sp rfl (PE.add rfl rfl (by omega)) rfl ?_
 refine sp rfl (PE.move rfl) rfl ?_
 exact sy_next ⟨k + 1, by omega, by rw [List.take_add_one, List.take_add_one, hn, hx, hz, hxz]⟩ (by dsimp only; omega) (by repeat' first | exact Sub.nil | apply Sub.cons | rfl | (simp [lk]; omega)) (fun _ h => h)
 simp only [decide_eq_true_eq, decide_eq_false_iff_not, Bool.and_eq_true, Bool.or_eq_true, Bool.not_eq_true', Int.not_le, Int.not_lt] at hc1
 obtain rfl : k = xs.length := by omega
 have heq : xs = ys := by
   rw [List.take_length] at hn
   exact hn.trans (by rw [hle]; exact List.take_length)
 refine sy_exit ?_
 repeat refine sy_tx ?_
 refine sy_bx ?_
 refine sy_seq ?_
 refine sy_tx' [0] rfl ?_
 refine sp rfl (PE.assign rfl) rfl ?_
 refine sy_ret ?_
 exact sy_return (vs := [_]) rfl (.cons (RV.tmp rfl) .nil) rfl ⟨by first | (simp only [retV]; rw [decide_eq_true heq]; done) | (simp only [retV]; rw [decide_eq_false hne]), rfl, rfl⟩ (fun _ h => h)
theorem c_Warmth (b : Barn) (ab : Option Addr) (cb : Nat) (hl : b.bins.length ≤ 9223372036854775807) (hr : b.rise.length = 6) (pl : List PL) (ap : Option Addr) (cp : Nat) (hpl : pl.length ≤ 9223372036854775807) (hpi : ∀ x ∈ pl, x.l.length ≤ 9223372036854775807) (n : Int) (H : Heap) (R : Facts) [hB : MemRows ab 4 (brows b.bins) R] [hP : MemRows ap 1 (plrows pl) R] [hI : MemF (Inn pl) R] :
    Fn Tryz.prog 57 [b.v (b.sl ab cb), .slice ap pl.length cp, .int .i64 n] H R (fun v H' R' => ((warmErr b (lls pl) n ≠ 0 ∧ v = .tuple #[.slice none 0 0, .int .i64 (warmErr b (lls pl) n)] ∧ H' = H) ∨
      (warmErr b (lls pl) n = 0 ∧ ∃ o : OSl 31 2 (sprows (warmL b (lls pl) n)), v = .tuple #[o.fs, .int .i64 0] ∧ H' = o.G ++ H)) ∧ R' = R) := by
 refine fn_of Tryz.func57 rfl Tryz.ntmps57 rfl ?_
 refine sy_seq ?_
 refine sy_tx' [0, 1, 2] rfl ?_
 refine bx rfl rfl rfl (fun b3 => ?_)
 refine sp rfl (PE.assign rfl) rfl ?_
 refine sp rfl (PE.assign rfl) rfl ?_
 refine sy_seq ?_
 refine sy_seq ?_
 refine sy_tx' [0, 1, 2, 3] rfl ?_
 refine spL rfl rfl (lhA (btl b (b.sl ab cb)) ag27 rfl rfl rfl) rfl ?_
 refine sp rfl (PE.move rfl) rfl ?_
 refine clV rfl cal65 rfl rfl (c_planned b ab cb hl hr pl ap cp hpl hpi _ _) ?_
 refine sp rfl (PE.assign rfl) rfl ?_
 refine sy_seq ?_
 refine sy_tx' [0, 1] rfl ?_
 refine sp rfl (PE.move rfl) rfl ?_
 refine sp rfl (PE.neq rfl rfl) rfl ?_
 refine sy_cond rfl (fun hc0 => ?_) (fun hc0 => ?_)
 try simp only [decide_eq_true_eq, decide_eq_false_iff_not, Bool.and_eq_true, Bool.or_eq_true, Bool.not_eq_true', Int.not_le, Int.not_lt] at hc0
 have ese : warmErr b (lls pl) n = b.planned (lls pl) := by unfold warmErr; rw [decide_eq_false hc0]; rfl
 refine sy_seq ?_
 refine sy_tx' [0, 1, 2] rfl ?_
 refine sp rfl (PE.move rfl) rfl ?_
 refine sp rfl (PE.assign rfl) rfl ?_
 refine sp rfl (PE.assign rfl) rfl ?_
 refine sy_ret ?_
 exact sy_return (vs := [_, _]) rfl (.cons (RV.tmp rfl) (.cons (RV.tmp rfl) .nil)) rfl ⟨.inl ⟨by rw [ese]; exact hc0, by rw [ese]; rfl, rfl⟩, rfl⟩ drp
 try simp only [decide_eq_true_eq, decide_eq_false_iff_not, Bool.and_eq_true, Bool.or_eq_true, Bool.not_eq_true', Int.not_le, Int.not_lt] at hc0
 have hpz : b.planned (lls pl) = 0 := by omega
 obtain ⟨hck, hok, hpe⟩ := planned_ok hr hpz
 have hmn := hok.many
 refine sy_skip ?_
 refine sy_seq ?_
 refine sy_seq ?_
 refine sy_tx' [0, 1, 2] rfl ?_
 refine sp rfl (PE.move rfl) rfl ?_
 refine sp rfl (PE.lenSl isl23 rfl) rfl ?_
 refine sp rfl (PE.gtr rfl rfl) rfl ?_
 refine sy_cond rfl (fun hc1 => ?_) (fun hc1 => ?_)
 try simp only [decide_eq_true_eq, decide_eq_false_iff_not, Bool.and_eq_true, Bool.or_eq_true, Bool.not_eq_true', Int.not_le, Int.not_lt] at hc1
 have ese : warmErr b (lls pl) n = 2 := by unfold warmErr; rw [decide_eq_true hpz, lls_len, decide_eq_true (show 20 < pl.length by omega)]; rfl
 refine sy_seq ?_
 refine sy_tx' [0, 1] rfl ?_
 refine sp rfl (PE.assign rfl) rfl ?_
 refine sp rfl (PE.assign rfl) rfl ?_
 refine sy_ret ?_
 exact sy_return (vs := [_, _]) rfl (.cons (RV.tmp rfl) (.cons (RV.tmp rfl) .nil)) rfl ⟨.inl ⟨by rw [ese]; decide, by rw [ese]; rfl, rfl⟩, rfl⟩ drp
 try simp only [decide_eq_true_eq, decide_eq_false_iff_not, Bool.and_eq_true, Bool.or_eq_true, Bool.not_eq_true', Int.not_le, Int.not_lt] at hc1
 have h20 : decide (20 < pl.length) = false := decide_eq_false (by omega)
 refine sy_skip ?_
 refine sy_seq ?_
 refine sy_seq ?_
 refine sy_tx' [0, 1, 2, 3] rfl ?_
 refine spL rfl rfl (lhA (btl b (b.sl ab cb)) ag27 rfl rfl rfl) rfl ?_
 refine sp rfl (PE.move rfl) rfl ?_
 refine clV rfl cal112 rfl rfl (c_bin b ab cb n hl _ _) ?_
 refine sp rfl (PE.not rfl) rfl ?_
 refine sy_cond rfl (fun hc2 => ?_) (fun hc2 => ?_)
 have ese : warmErr b (lls pl) n = 1 := by unfold warmErr; rw [decide_eq_true hpz, lls_len, h20, hc2]; rfl
 refine sy_seq ?_
 refine sy_tx' [0, 1] rfl ?_
 refine sp rfl (PE.assign rfl) rfl ?_
 refine sp rfl (PE.assign rfl) rfl ?_
 refine sy_ret ?_
 exact sy_return (vs := [_, _]) rfl (.cons (RV.tmp rfl) (.cons (RV.tmp rfl) .nil)) rfl ⟨.inl ⟨by rw [ese]; decide, by rw [ese]; rfl, rfl⟩, rfl⟩ drp
 have ese : warmErr b (lls pl) n = 0 := by unfold warmErr; rw [decide_eq_true hpz, lls_len, h20, hc2]; rfl
 rw [Bool.not_eq_false'] at hc2
 simp only [inB, Bool.and_eq_true, decide_eq_true_eq] at hc2
 obtain ⟨k, rfl⟩ : ∃ k : Nat, n = k := ⟨n.toNat, by omega⟩
 obtain ⟨x, hx⟩ : ∃ x, b.bins[k]? = some x := ⟨_, List.getElem?_eq_getElem (by omega)⟩
 have hbx := binAt_of hx
 have hm := List.mem_of_getElem? hx
 have hh := (hok.bins x hm).2
 have hmk := (hok.bins x hm).1
 have hcl := hok.cool
 have hw1 := b.least_range hok hm
 have hw2 := b.worst_range hok hm
 have hin := hh.2.1
 have hlb : ∀ d, 0 ≤ wst b.cool (b.least x) k x.warm ((lls pl).take d) ∧ wst b.cool (b.least x) k x.warm ((lls pl).take d) ≤ 1000 := fun d => by
   have h1 := wst_bd (k := k) hcl (show 0 ≤ b.least x ∧ b.least x ≤ 20 by omega) ((lls pl).take d) x.warm hh.1.1
   have h2 : ((lls pl).take d).length ≤ pl.length := by rw [List.length_take, lls_len]; omega
   omega
 have hwb : ∀ d, 0 ≤ wst b.cool (b.worst x) k x.warm ((lls pl).take d) ∧ wst b.cool (b.worst x) k x.warm ((lls pl).take d) ≤ 1000 := fun d => by
   have h1 := wst_bd (k := k) hcl (show 0 ≤ b.worst x ∧ b.worst x ≤ 20 by omega) ((lls pl).take d) x.warm hh.1.1
   have h2 : ((lls pl).take d).length ≤ pl.length := by rw [List.length_take, lls_len]; omega
   omega
 refine sy_skip ?_
 refine sy_seq ?_
 refine sy_tx' [0] rfl ?_
 refine sp rfl (PE.assign rfl) rfl ?_
 refine sy_seq ?_
 refine sy_tx' [0, 1, 2, 3, 4, 5, 6] rfl ?_
 refine sp rfl (PE.fieldAddr fo27_3 rfl) rfl ?_
 refine spL rfl rfl (lh sc25 rfl rfl) rfl ?_
 refine sp rfl (PE.move rfl) rfl ?_
 refine sy_addr (a := ab) (sz := 4) (rows := brows b.bins) (by intro h0; simp [brows] at h0; simp [h0] at hx) (fun ba oa he => ?_)
 subst he
 refine sp rfl (PE.indexAddr el25 rfl rfl (by omega) (by omega)) rfl ?_
 refine spL rfl rfl (lfA ag40 (row := brow x) (br_get hx) rfl) rfl ?_
 refine alc rfl zl40 rfl (fun b10 => ?_)
 refine sto rfl rfl rfl cn40 rfl rfl rfl rfl ?_
 refine sy_seq ?_
 refine sy_tx' [0, 1, 2, 3, 4, 5, 6] rfl ?_
 refine sp rfl (PE.fieldAddr fo40_0 rfl) rfl ?_
 refine spL rfl rfl (lh sc3 rfl rfl) rfl ?_
 refine sp rfl (PE.fieldAddr fo40_0 rfl) rfl ?_
 refine spL rfl rfl (lh sc3 rfl rfl) rfl ?_
 refine sp rfl (PE.build (out := [_, _]) pl31 zl31 rfl rfl) rfl ?_
 refine alc rfl zl31 rfl (fun b11 => ?_)
 refine sto rfl rfl rfl cn31 rfl rfl rfl rfl ?_
 refine sy_seq ?_
 refine sy_seq ?_
 refine sy_tx' [0, 1, 2] rfl ?_
 refine Sy.heap (H' := (b11, cel 31 [.int .i64 (wst b.cool (b.least x) k x.warm ((lls pl).take 0)), .int .i64 (wst b.cool (b.worst x) k x.warm ((lls pl).take 0))]) :: (b10, cel 40 (brow x)) :: (b3, cel 27 (btl b (b.sl (some ⟨ba, oa, none⟩) cb))) :: H) (fun w h => h) ?_
 refine sp rfl (PE.move rfl) rfl ?_
 refine sp rfl (PE.lenSl isl23 rfl) rfl ?_
 refine sp rfl (PE.move rfl) rfl ?_
 refine sy_block ?_
 refine sy_loop (ι := (d : {d : Nat // d ≤ pl.length}) × OSl 31 2 (sprows (wSpans b.cool (b.least x) (b.worst x) k x.warm (lls pl) d.1))) (fun y => ⟨[(2, .int .i64 k), (3, .pointer (some ⟨b3, 0, none⟩)), (9, y.2.fs), (10, .pointer (some ⟨b10, 0, none⟩)), (11, .pointer (some ⟨b11, 0, none⟩)), (38, .slice ap pl.length cp), (39, .int .i64 pl.length), (40, .int .i64 y.1.1)], y.2.G ++ (b11, cel 31 [.int .i64 (wst b.cool (b.least x) k x.warm ((lls pl).take y.1.1)), .int .i64 (wst b.cool (b.worst x) k x.warm ((lls pl).take y.1.1))]) :: (b10, cel 40 (brow x)) :: (b3, cel 27 (btl b (b.sl (some ⟨ba, oa, none⟩) cb))) :: H, R⟩) (fun y => pl.length - y.1.1) ⟨⟨0, by omega⟩, OSl.nil _ _⟩ ?_ (fun y => ?_)
 exact sy_at (by repeat' first | exact Sub.nil | apply Sub.cons | rfl | (simp [lk]; omega)) (fun _ h => h)
 obtain ⟨⟨d, hd⟩, o⟩ := y
 dsimp only at hd o ⊢
 have hl1 := hlb d
 have hw3 := hwb d
 refine sy_seq ?_
 refine sy_tx' [0] rfl ?_
 refine sp rfl (PE.lss rfl rfl) rfl ?_
 refine sy_seq ?_
 refine sy_cond rfl (fun hc3 => ?_) (fun hc3 => ?_)
 try simp only [decide_eq_true_eq, decide_eq_false_iff_not, Bool.and_eq_true, Bool.or_eq_true, Bool.not_eq_true', Int.not_le, Int.not_lt] at hc3
 obtain ⟨z, hz⟩ : ∃ z, pl[d]? = some z := ⟨_, List.getElem?_eq_getElem (by omega)⟩
 have hxm := List.mem_of_getElem? hz
 have hzl := hpi z hxm
 have e1 : wst b.cool (b.least x) k x.warm ((lls pl).take (d + 1)) = (bif hasI z.l k then min (wst b.cool (b.least x) k x.warm ((lls pl).take d)) b.cool else wst b.cool (b.least x) k x.warm ((lls pl).take d)) + b.least x := by rw [take_snoc (lls_get hz), wst_snoc]
 have e2 : wst b.cool (b.worst x) k x.warm ((lls pl).take (d + 1)) = (bif hasI z.l k then min (wst b.cool (b.worst x) k x.warm ((lls pl).take d)) b.cool else wst b.cool (b.worst x) k x.warm ((lls pl).take d)) + b.worst x := by rw [take_snoc (lls_get hz), wst_snoc]
 refine sy_addr (a := ap) (sz := 1) (rows := plrows pl) (by intro h0; have := congrArg List.length h0; rw [plrows_len] at this; simp only [List.length_nil] at this; omega) (fun bp op he => ?_)
 subst he
 refine Sy.heap (fun w h => St.inn (x := z) h hxm) ?_
 refine sy_skip ?_
 refine sy_seq ?_
 refine sy_block ?_
 refine sy_seq ?_
 refine sy_tx' [0, 1, 2] rfl ?_
 refine sp rfl (PE.indexAddr el23 rfl rfl (by omega) (by omega)) rfl ?_
 refine spL rfl rfl (lf0 sc22 (pl_get hz) rfl) rfl ?_
 refine sp rfl (PE.assign rfl) rfl ?_
 refine sy_seq ?_
 refine sy_tx' [0, 1, 2, 3] rfl ?_
 refine sp rfl (PE.move rfl) rfl ?_
 refine sp rfl (PE.move rfl) rfl ?_
 refine clV rfl cal70 rfl rfl (c_contains_int z.l z.a z.c k hzl _ _) ?_
 refine sp rfl (PE.assign rfl) rfl ?_
 refine sy_seq ?_
 refine sy_draw [0, 0, 2, 0, 8, 24, 0, 120, 248, 0, 1023, 0, 0, 4096, 0, 0, 51199, 0, 262143, 524287, 1048575] (.ld 0 (.tk 1 (.ld 2 (.tk 3 (.tk 4 (.ld 5 (.tk 6 (.tk 7 (.ld 8 (.tk 9 (.ld 11 (.tk 12 (.ld 13 (.ld 14 (.tk 15 (.tk 17 (.big 10 (.big 16 (.big 18 (.tk 19 (.big 20 .done))))))))))))))))))))) mixed (by kernel_rfl) ?_
 refine ld rfl rfl (lhA (btl b (b.sl (some ⟨ba, oa, none⟩) cb)) ag27 rfl rfl rfl) rfl ?_
 refine tk rfl (PE.fieldAddr fo31_0 rfl) rfl ?_
 refine ld rfl rfl (lh sc3 rfl rfl) rfl ?_
 refine tk rfl (PE.fieldAddr fo40_2 rfl) rfl ?_
 refine tk rfl (PE.fieldAddr fo31_0 rfl) rfl ?_
 refine ld rfl rfl (lh sc3 rfl rfl) rfl ?_
 refine tk rfl (PE.fieldAddr fo27_2 rfl) rfl ?_
 refine tk rfl (PE.indexArr ar24 rfl rfl (by omega) (by omega)) rfl ?_
 refine ld rfl rfl (lh sc3 rfl (by rw [show 0 + 2 + x.lo.toNat * 1 = 2 + x.lo.toNat by omega]; exact btl_rise (by omega))) rfl ?_
 refine tk rfl (PE.move rfl) rfl ?_
 refine ld rfl rfl (lhA (btl b (b.sl (some ⟨ba, oa, none⟩) cb)) ag27 rfl rfl rfl) rfl ?_
 refine tk rfl (PE.fieldAddr fo31_1 rfl) rfl ?_
 refine ld rfl rfl (lh sc3 rfl rfl) rfl ?_
 refine ld rfl rfl (lhA (btl b (b.sl (some ⟨ba, oa, none⟩) cb)) ag27 rfl rfl rfl) rfl ?_
 refine tk rfl (PE.move rfl) rfl ?_
 refine tk rfl (PE.move rfl) rfl ?_
 refine clV rfl cal113 rfl rfl (c_warmer b (some ⟨ba, oa, none⟩) cb _ (b.least x) (hasI z.l k) (by omega) (by omega) (by omega) _ _) ?_
 refine bg (fun w hs => ⟨(lhA (btl b (b.sl (some ⟨ba, oa, none⟩) cb)) ag27 rfl rfl rfl) w hs, (lh sc3 rfl rfl) w hs, (lhA (btl b (b.sl (some ⟨ba, oa, none⟩) cb)) ag27 rfl rfl rfl) w hs, trivial, trivial, trivial, trivial, trivial⟩) ?_
 refine clV rfl cal114 rfl rfl (c_worst b (some ⟨ba, oa, none⟩) cb k x hx hh.2.2 _ _) ?_
 refine bg (fun w hs => ⟨trivial, (lh sc3 rfl rfl) w hs, (lhA (btl b (b.sl (some ⟨ba, oa, none⟩) cb)) ag27 rfl rfl rfl) w hs, trivial⟩) ?_
 refine clV rfl cal113 rfl rfl (c_warmer b (some ⟨ba, oa, none⟩) cb _ (b.worst x) (hasI z.l k) (by omega) (by omega) (by omega) _ _) ?_
 refine bg (fun w hs => ⟨trivial, trivial, trivial⟩) ?_
 refine tk rfl (PE.build (out := [_, _]) pl31 zl31 rfl rfl) rfl ?_
 refine sto rfl rfl rfl cn31 rfl rfl rfl rfl ?_
 refine bg (fun w hs => trivial) ?_
 refine sy_tx' [0, 1, 2, 3, 4] rfl ?_
 refine Sy.heap (H' := o.G ++ (b11, cel 31 [.int .i64 (wst b.cool (b.least x) k x.warm ((lls pl).take (d + 1))), .int .i64 (wst b.cool (b.worst x) k x.warm ((lls pl).take (d + 1)))]) :: (b10, cel 40 (brow x)) :: (b3, cel 27 (btl b (b.sl (some ⟨ba, oa, none⟩) cb))) :: H) (fun w h => by rw [e1, e2]; exact h) ?_
 refine sp rfl (PE.move rfl) rfl ?_
 refine spL rfl rfl (lhA [_, _] ag31 rfl rfl rfl) rfl ?_
 refine bsl (out := [_, _]) rfl sl113 zl31 rfl rfl rfl rfl rfl rfl (fun b69 => ?_)
 refine apO (o) rfl ap113 rfl rfl (rowsH (row := sprow (wst b.cool (b.least x) k x.warm ((lls pl).take (d + 1)), wst b.cool (b.worst x) k x.warm ((lls pl).take (d + 1)))) rfl) rfl rfl ((by rw [sprows_len, wSpans, List.length_map, List.length_range]; simp only [List.length_singleton]; omega)) rfl (fun o70 => ?_)
 refine sp rfl (PE.assign rfl) rfl ?_
 refine sy_tx' [0, 1] rfl ?_
 refine sp rfl (PE.add rfl rfl (by omega)) rfl ?_
 refine sp rfl (PE.move rfl) rfl ?_
 exact sy_next ⟨⟨d + 1, by omega⟩, o70.cast (by unfold wSpans; rw [List.range_succ, List.map_append]; simp [sprows])⟩ (by dsimp only; omega) (by repeat' first | exact Sub.nil | apply Sub.cons | rfl | (simp [lk]; omega)) (fun w h => (h.del b69).ftail)
 try simp only [decide_eq_true_eq, decide_eq_false_iff_not, Bool.and_eq_true, Bool.or_eq_true, Bool.not_eq_true', Int.not_le, Int.not_lt] at hc3
 obtain rfl : d = pl.length := by omega
 refine sy_exit ?_
 repeat refine sy_tx ?_
 refine sy_bx ?_
 refine sy_seq ?_
 refine sy_tx' [0, 1, 2] rfl ?_
 refine sp rfl (PE.move rfl) rfl ?_
 refine sp rfl (PE.assign rfl) rfl ?_
 refine sp rfl (PE.assign rfl) rfl ?_
 refine sy_ret ?_
 exact sy_return (vs := [_, _]) rfl (.cons (RV.tmp rfl) (.cons (RV.tmp rfl) .nil)) rfl ⟨.inr ⟨ese, o.cast (by unfold warmL; rw [hbx, lls_len]), rfl, rfl⟩, rfl⟩ (fun w h => ((h.del b11).del b10).del b3)
end Go.Proofs.YtelegnmfhjfbaaaGreat
