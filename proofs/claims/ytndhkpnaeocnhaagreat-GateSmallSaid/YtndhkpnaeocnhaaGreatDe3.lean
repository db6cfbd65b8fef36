/- Walks of the functions of the program, and the laws that join them: what the last theorem of this claim needs, in order. -/
import Derived.Test.YtndhkpnaeocnhaaGreatDe2
namespace Go.Proofs.YtndhkpnaeocnhaaGreat
set_option linter.unusedSimpArgs false
set_option linter.unusedVariables false
open Go
theorem ag135 : aggN Tryz.prog 135 = some 1 := by kernel_rfl
theorem ag64 : aggN Tryz.prog 64 = some 8 := by kernel_rfl
theorem cal101 : cal Tryz.prog 101 = true := by kernel_rfl
theorem cal103 : cal Tryz.prog 103 = true := by kernel_rfl
theorem cal115 : cal Tryz.prog 115 = true := by kernel_rfl
theorem cal116 : cal Tryz.prog 116 = true := by kernel_rfl
theorem cal78 : cal Tryz.prog 78 = true := by kernel_rfl
theorem cal79 : cal Tryz.prog 79 = true := by kernel_rfl
theorem cal80 : cal Tryz.prog 80 = true := by kernel_rfl
theorem cal83 : cal Tryz.prog 83 = true := by kernel_rfl
theorem cal84 : cal Tryz.prog 84 = true := by kernel_rfl
theorem cal88 : cal Tryz.prog 88 = true := by kernel_rfl
theorem cn135 : cellN Tryz.prog 135 = some 1 := by kernel_rfl
theorem cn3 : cellN Tryz.prog 3 = some 1 := by kernel_rfl
theorem cn31 : cellN Tryz.prog 31 = some 4 := by kernel_rfl
theorem cn64 : cellN Tryz.prog 64 = some 8 := by kernel_rfl
theorem pl135 : placeL Tryz.prog 135 = some [(0, 1)] := by kernel_rfl
theorem zl135 : zeroL Tryz.prog 135 = some ([.nilFunc]) := by kernel_rfl
theorem zl31 : zeroL Tryz.prog 31 = some ([.int .i64 0, .int .i64 0, .int .i64 0, .int .i64 0]) := by kernel_rfl
theorem zl64 : zeroL Tryz.prog 64 = some ([.int .i64 0, .int .i64 0, .int .i64 0, .int .i64 0, .int .i64 0, .int .i64 0, .int .i64 0, .int .i64 0]) := by kernel_rfl
def mixL (b : Box) : Nat → Mix
  | 0 => [0, 0, 0, 0]
  | k + 1 => (mixL b k).set k (bl b k)
theorem mixL_len (b : Box) : ∀ k, (mixL b k).length = 4
  | 0 => rfl
  | k + 1 => by unfold mixL; rw [List.length_set]; exact mixL_len b k
theorem nn_set {l : List Int} {i j : Nat} {v : Int} (h : i < l.length) : nn (l.set i v) j = bif i == j then v else nn l j := by
  unfold nn
  simp only [List.getD_eq_getElem?_getD, List.getElem?_set]
  by_cases hij : i = j
  · subst hij; simp [h]
  · have : (i == j) = false := by simpa using hij
    simp [hij, this]
theorem sum_set {l : List Int} (h : l.length = 4) {i : Nat} (hi : i < 4) (v : Int) : sum4 (l.set i v) = sum4 l + v - nn l i := by
  obtain ⟨a, b, c, d, rfl⟩ := list4 h
  rcases lt4 hi with rfl | rfl | rfl | rfl <;> simp [sum4, nn] <;> omega
theorem mixN_bd {b : Box} (h : Tight b) : ∀ k, k ≤ 4 → (mixN b k).length = 4 ∧ sum4 (mixN b k) ≤ 40 ∧ (∀ j < 4, 0 ≤ nn (mixN b k) j ∧ nn (mixN b k) j ≤ 40) ∧ ∀ j < 4, k ≤ j → nn (mixN b k) j = bl b j
  | 0, _ => by
    obtain ⟨a0, a1, a2, a3⟩ := all4 h.fit
    obtain ⟨c0, c1, c2, c3⟩ := all4 h.ok.at_
    simp [oth] at a0 a1 a2 a3
    refine ⟨rfl, ?_, of4 ⟨?_, ?_, ?_, ?_⟩, of4 ⟨fun _ => rfl, fun _ => rfl, fun _ => rfl, fun _ => rfl⟩⟩
    · show bl b 0 + bl b 1 + bl b 2 + bl b 3 ≤ 40
      simp only [bl] at *; omega
    · show 0 ≤ bl b 0 ∧ bl b 0 ≤ 40
      simp only [bl, bh] at *; omega
    · show 0 ≤ bl b 1 ∧ bl b 1 ≤ 40
      simp only [bl, bh] at *; omega
    · show 0 ≤ bl b 2 ∧ bl b 2 ≤ 40
      simp only [bl, bh] at *; omega
    · show 0 ≤ bl b 3 ∧ bl b 3 ≤ 40
      simp only [bl, bh] at *; omega
  | k + 1, hk => by
    obtain ⟨h1, h2, h3, h4⟩ := mixN_bd h k (by omega)
    have hf := h.fit k (by omega)
    have ho := h.ok.at_ k (by omega)
    have he := h4 k (by omega) (Nat.le_refl _)
    have e : mixN b (k + 1) = (mixN b k).set k (nn (mixN b k) k + min (bh b k - bl b k) (40 - sum4 (mixN b k))) := rfl
    rw [e]
    refine ⟨by rw [List.length_set]; exact h1, ?_, fun j hj => ?_, fun j hj hkj => ?_⟩
    · rw [sum_set h1 (by omega)]; omega
    · rw [nn_set (by omega)]
      by_cases hkj : k = j
      · subst hkj; simp only [beq_self_eq_true, cond_true]; omega
      · have : (k == j) = false := by simpa using hkj
        rw [this]; exact h3 j hj
    · rw [nn_set (by omega)]
      have : (k == j) = false := by simp; omega
      rw [this]; exact h4 j hj (by omega)
theorem sum_list {m : List Int} (h : m.length = 4) : m = [nn m 0, nn m 1, nn m 2, nn m 3] := by
  obtain ⟨a, b, c, d, rfl⟩ := list4 h; rfl
def toldE (g : Gat) (c : Crt) (bad : Bool) : Int := bif decide (bothE g c ≠ 0) then bothE g c else bif bad then 1 else bif (clo (boxF g.miss c.hs fun _ => true)).isNone then 7 else 0
def zbx : Box := [0, 0, 0, 0, 0, 0, 0, 0]
theorem c_sum4 (m : List Int) (hm : m.length = 4) (hb : ∀ j < 4, -1000000 ≤ nn m j ∧ nn m j ≤ 1000000000000000) (H : Heap) (R : Facts) : FnV Tryz.prog 26 [.agg (ints m).toArray] H R (.int .i64 (sum4 m)) := by
  have h := c_sum (nn m 0) (nn m 1) (nn m 2) (nn m 3) (by
    obtain ⟨a, b, c, d⟩ := all4 hb
    intro x hx
    simp only [List.mem_cons, List.not_mem_nil, or_false] at hx
    rcases hx with rfl | rfl | rfl | rfl <;> assumption) H R
  rw [← sum_list hm] at h
  exact h
theorem c_mixture (b : Box) (hb : Tight b) (H : Heap) (R : Facts) :
    FnV Tryz.prog 103 [bxv b] H R (.agg (ints (mixt b)).toArray) := by
 refine fn_of Tryz.func103 rfl Tryz.ntmps103 rfl ?_
 refine sy_seq ?_
 refine sy_tx' [0, 1] rfl ?_
 refine bx rfl rfl rfl (fun b1 => ?_)
 refine alc rfl zl31 rfl (fun b2 => ?_)
 refine sy_seq ?_
 refine sy_tx' [0] rfl ?_
 refine alc rfl zl31 rfl (fun b3 => ?_)
 refine sy_seq ?_
 refine sy_seq ?_
 refine sy_tx' [0, 1] rfl ?_
 refine spL rfl rfl (lhA (ints b) ag128 rfl (rest := []) (by rw [List.append_nil]; rfl) (by rw [ints_length]; exact hb.ok.len)) rfl ?_
 refine sp rfl (PE.move rfl) rfl ?_
 refine sy_block ?_
 refine sy_loop (ι := {k : Nat // k ≤ 4}) (fun k => ⟨[(1, .pointer (some ⟨b1, 0, none⟩)), (2, .pointer (some ⟨b2, 0, none⟩)), (3, .pointer (some ⟨b3, 0, none⟩)), (8, bxv b), (9, .int .i64 k.1)], (b3, cel 31 (ints (mixL b k.1))) :: (b2, cel 31 (ints [0, 0, 0, 0])) :: (b1, cel 128 (ints b)) :: H, R⟩) (fun k => 4 - k.1) ⟨0, by omega⟩ ?_ (fun k => ?_)
 exact sy_at (by repeat' first | exact Sub.nil | apply Sub.cons | rfl | (simp [lk]; omega)) (fun _ h => h)
 obtain ⟨k, hk⟩ := k
 dsimp only at hk ⊢
 refine sy_seq ?_
 refine sy_tx' [0] rfl ?_
 refine sp rfl (PE.lss rfl rfl) rfl ?_
 refine sy_seq ?_
 refine sy_cond rfl (fun hc0 => ?_) (fun hc0 => ?_)
 try simp only [decide_eq_true_eq, decide_eq_false_iff_not, Bool.and_eq_true, Bool.or_eq_true, Bool.not_eq_true', Int.not_le, Int.not_lt] at hc0
 have hk4 : k < 4 := by omega
 have hml := mixL_len b k
 refine sy_skip ?_
 refine sy_seq ?_
 refine sy_block ?_
 refine sy_seq ?_
 refine sy_tx' [0, 1, 2, 3, 4] rfl ?_
 refine sp rfl (PE.move rfl) rfl ?_
 refine sp rfl ((PE.indexI (l := b) are128 (eqB_ok 10000 61 true 2 eqf61) (by simp) rfl rfl hk4 (by rw [hb.ok.len]; omega)).to (by rw [box_part hb.ok.len hk4])) rfl ?_
 refine alc rfl zl61 rfl (fun b5 => ?_)
 refine sp rfl (PE.assign rfl) rfl ?_
 refine sto rfl rfl rfl cn61 rfl rfl rfl rfl ?_
 refine sy_tx' [0, 1, 2, 3, 4] rfl ?_
 refine sp rfl (PE.move rfl) rfl ?_
 refine sp rfl (PE.fieldAddr fo61_0 rfl) rfl ?_
 refine spL rfl rfl (lh sc3 rfl rfl) rfl ?_
 refine sp rfl (PE.indexArr ar31 rfl rfl (by omega) (by omega)) rfl ?_
 refine stoE (l' := ints ((mixL b k).set k (bl b k))) rfl rfl rfl cn3 rfl rfl rfl (spl_mix hml hk4 _) (by rw [ints_length, hml]; show 0 + ((k : Nat) : Int).toNat * 1 + 1 ≤ 4; omega) ?_
 refine sy_tx' [0, 1] rfl ?_
 refine sp rfl (PE.add rfl rfl (by omega)) rfl ?_
 refine sp rfl (PE.move rfl) rfl ?_
 exact sy_next ⟨k + 1, by omega⟩ (by dsimp only; omega) (by repeat' first | exact Sub.nil | apply Sub.cons | rfl | (simp [lk]; omega)) (fun w h => h.del b5)
 try simp only [decide_eq_true_eq, decide_eq_false_iff_not, Bool.and_eq_true, Bool.or_eq_true, Bool.not_eq_true', Int.not_le, Int.not_lt] at hc0
 obtain rfl : k = 4 := by omega
 rw [show mixL b 4 = mixN b 0 from rfl]
 refine sy_exit ?_
 repeat refine sy_tx ?_
 refine sy_bx ?_
 refine sy_seq ?_
 refine sy_seq ?_
 refine sy_tx' [0, 1] rfl ?_
 refine spL rfl rfl (lhA (ints b) ag128 rfl (rest := []) (by rw [List.append_nil]; rfl) (by rw [ints_length]; exact hb.ok.len)) rfl ?_
 refine sp rfl (PE.move rfl) rfl ?_
 refine sy_block ?_
 refine sy_loop (ι := {k : Nat // k ≤ 4}) (fun k => ⟨[(1, .pointer (some ⟨b1, 0, none⟩)), (2, .pointer (some ⟨b2, 0, none⟩)), (3, .pointer (some ⟨b3, 0, none⟩)), (18, bxv b), (19, .int .i64 k.1)], (b3, cel 31 (ints (mixN b k.1))) :: (b2, cel 31 (ints [0, 0, 0, 0])) :: (b1, cel 128 (ints b)) :: H, R⟩) (fun k => 4 - k.1) ⟨0, by omega⟩ ?_ (fun k => ?_)
 exact sy_at (by repeat' first | exact Sub.nil | apply Sub.cons | rfl | (simp [lk]; omega)) (fun _ h => h)
 obtain ⟨k, hk⟩ := k
 dsimp only at hk ⊢
 obtain ⟨hml, hms, hmb, _⟩ := mixN_bd hb k hk
 refine sy_seq ?_
 refine sy_tx' [0] rfl ?_
 refine sp rfl (PE.lss rfl rfl) rfl ?_
 refine sy_seq ?_
 refine sy_cond rfl (fun hc1 => ?_) (fun hc1 => ?_)
 try simp only [decide_eq_true_eq, decide_eq_false_iff_not, Bool.and_eq_true, Bool.or_eq_true, Bool.not_eq_true', Int.not_le, Int.not_lt] at hc1
 have hk4 : k < 4 := by omega
 have hbk := hb.ok.at_ k hk4
 have hmk := hmb k hk4
 have hs0 : 0 ≤ sum4 (mixN b k) := by obtain ⟨x0, x1, x2, x3⟩ := all4 hmb; unfold sum4; omega
 refine sy_skip ?_
 refine sy_seq ?_
 refine sy_block ?_
 refine sy_seq ?_
 refine sy_tx' [0, 1, 2, 3, 4] rfl ?_
 refine sp rfl (PE.move rfl) rfl ?_
 refine sp rfl ((PE.indexI (l := b) are128 (eqB_ok 10000 61 true 2 eqf61) (by simp) rfl rfl hk4 (by rw [hb.ok.len]; omega)).to (by rw [box_part hb.ok.len hk4])) rfl ?_
 refine alc rfl zl61 rfl (fun b7 => ?_)
 refine sp rfl (PE.assign rfl) rfl ?_
 refine sto rfl rfl rfl cn61 rfl rfl rfl rfl ?_
 refine sy_draw [0, 1, 3, 0, 8, 0, 32, 120, 0, 256, 768, 2040, 4095, 8191, 16383] (.tk 0 (.tk 1 (.ld 2 (.tk 3 (.ld 4 (.tk 5 (.ld 6 (.tk 7 (.ld 8 (.big 9 (.tk 10 (.tk 11 (.tk 12 (.tk 13 (.big 14 .done))))))))))))))) mixed (by kernel_rfl) ?_
 refine tk rfl (PE.move rfl) rfl ?_
 refine tk rfl (PE.indexArr ar31 rfl rfl (by omega) (by omega)) rfl ?_
 refine ld rfl rfl (lh sc3 rfl (mix_at hml hk4)) rfl ?_
 refine tk rfl (PE.fieldAddr fo61_1 rfl) rfl ?_
 refine ld rfl rfl (lh sc3 rfl rfl) rfl ?_
 refine tk rfl (PE.fieldAddr fo61_0 rfl) rfl ?_
 refine ld rfl rfl (lh sc3 rfl rfl) rfl ?_
 refine tk rfl (PE.sub rfl rfl (by omega)) rfl ?_
 refine ld rfl rfl (lhA (ints (mixN b k)) ag31 rfl (rest := []) (by rw [List.append_nil]; rfl) (by rw [ints_length]; exact hml)) rfl ?_
 refine clV rfl cal26 rfl rfl (c_sum4 (mixN b k) hml (fun j hj => by have := hmb j hj; omega) _ _) ?_
 refine bg (fun w hs => ⟨trivial, (lh sc3 rfl rfl) w hs, (lh sc3 rfl rfl) w hs, (lh sc3 rfl (mix_at hml hk4)) w hs, trivial⟩) ?_
 refine tk rfl (PE.sub rfl rfl (by omega)) rfl ?_
 refine tk rfl (PE.min rfl rfl) rfl ?_
 refine tk rfl (PE.add rfl rfl (by omega)) rfl ?_
 refine tk rfl (PE.indexArr ar31 rfl rfl (by omega) (by omega)) rfl ?_
 refine stoE (l' := ints ((mixN b k).set k (nn (mixN b k) k + min (bh b k - bl b k) (40 - sum4 (mixN b k))))) rfl rfl rfl cn3 rfl rfl rfl (spl_mix hml hk4 _) (by rw [ints_length, hml]; show 0 + ((k : Nat) : Int).toNat * 1 + 1 ≤ 4; omega) ?_
 refine bg (fun w hs => ⟨trivial, trivial, trivial, trivial⟩) ?_
 refine sy_tx' [0, 1] rfl ?_
 refine sp rfl (PE.add rfl rfl (by omega)) rfl ?_
 refine sp rfl (PE.move rfl) rfl ?_
 exact sy_next ⟨k + 1, by omega⟩ (by dsimp only; omega) (by repeat' first | exact Sub.nil | apply Sub.cons | rfl | (simp [lk]; omega)) (fun w h => h.del b7)
 try simp only [decide_eq_true_eq, decide_eq_false_iff_not, Bool.and_eq_true, Bool.or_eq_true, Bool.not_eq_true', Int.not_le, Int.not_lt] at hc1
 obtain rfl : k = 4 := by omega
 refine sy_exit ?_
 repeat refine sy_tx ?_
 refine sy_bx ?_
 refine sy_seq ?_
 refine sy_tx' [0, 1] rfl ?_
 refine spL rfl rfl (lhA (ints (mixN b 4)) ag31 rfl (rest := []) (by rw [List.append_nil]; rfl) (by rw [ints_length]; exact hml)) rfl ?_
 refine stoA rfl rfl rfl cn31 rfl (by rw [ints_length]; exact hml) rfl (ints_one _) ?_
 refine sy_ret ?_
 exact sy_return (vs := [_]) rfl (.cons (RV.cell rfl (lhA (ints (mixN b 4)) ag31 rfl (rest := []) (by rw [List.append_nil]; rfl) (by rw [ints_length]; exact hml))) .nil) rfl ⟨rfl, rfl, rfl⟩ drp
theorem c_all (H : Heap) (R : Facts) :
    FnV Tryz.prog 84 [] H R (.agg #[.func (.func 116) #[] #[]]) := by
 refine fn_of Tryz.func84 rfl Tryz.ntmps84 rfl ?_
 refine sy_seq ?_
 refine sy_tx' [0] rfl ?_
 refine alc rfl zl135 rfl (fun b0 => ?_)
 refine sy_seq ?_
 refine sy_tx' [0, 1] rfl ?_
 refine sp rfl (PE.build (out := [_]) pl135 zl135 rfl rfl) rfl ?_
 refine sto rfl rfl rfl cn135 rfl rfl rfl rfl ?_
 refine sy_ret ?_
 exact sy_return (vs := [_]) rfl (.cons (RV.cell rfl (lhA [_] ag135 rfl rfl rfl)) .nil) rfl ⟨rfl, rfl, rfl⟩ drp
theorem c_all1 (i : Int) (H : Heap) (R : Facts) :
    FnV Tryz.prog 116 [.int .i64 i] H R (.bool true) := by
 refine fn_of Tryz.func116 rfl Tryz.ntmps116 rfl ?_
 refine sy_seq ?_
 refine sy_tx' [0] rfl ?_
 refine sp rfl (PE.assign rfl) rfl ?_
 refine sy_seq ?_
 refine sy_tx' [0] rfl ?_
 refine sp rfl (PE.assign rfl) rfl ?_
 refine sy_ret ?_
 exact sy_return (vs := [_]) rfl (.cons (RV.tmp rfl) .nil) rfl ⟨rfl, rfl, rfl⟩ drp
theorem c_told (g : Gat) (ag : Option Addr) (cg : Nat) (hlg : g.grs.length ≤ 9223372036854775807) (c : Crt) (ah : Option Addr) (ch : Nat) (hlh : c.hs.length ≤ 9223372036854775807) (bad : Bool) (H : Heap) (R : Facts) [hG : MemRows ag 5 (grows g.grs) R] [hA : MemRows ah 5 (hrows c.hs) R] :
    Fn Tryz.prog 80 [g.v (g.sl ag cg), c.v (c.sl ah ch), .bool bad] H R (fun v H' R' => H' = H ∧ ((toldE g c bad ≠ 0 ∧ v = .tuple #[.pointer none, bxv zbx, .int .i64 (toldE g c bad)] ∧ R' = R) ∨ (toldE g c bad = 0 ∧ g.ok ∧ c.ok ∧ ∃ bw b, clo (boxF g.miss c.hs fun _ => true) = some b ∧ v = .tuple #[.pointer (some ⟨bw, 0, none⟩), bxv b, .int .i64 0] ∧ R' = RowsA (some ⟨bw, 0, none⟩) 6 [wrow g c (g.sl ag cg) (c.sl ah ch)] :: R))) := by
 refine fn_of Tryz.func80 rfl Tryz.ntmps80 rfl ?_
 refine sy_seq ?_
 refine sy_tx' [0, 1, 2, 3, 4] rfl ?_
 refine bx rfl rfl rfl (fun b3 => ?_)
 refine bx rfl rfl rfl (fun b4 => ?_)
 refine sp rfl (PE.assign rfl) rfl ?_
 refine alc rfl zl128 rfl (fun b7 => ?_)
 refine sp rfl (PE.assign rfl) rfl ?_
 refine sy_seq ?_
 refine sy_tx' [0, 1, 2, 3, 4, 5, 6, 7] rfl ?_
 refine spL rfl rfl (lhA [_, _, _] ag25 rfl rfl rfl) rfl ?_
 refine spL rfl rfl (lhA [_, _, _] ag28 rfl rfl rfl) rfl ?_
 refine cl rfl cal78 rfl rfl (c_opened g ag cg hlg c ah ch hlh _ _) ?_
 rintro _ _ _ ⟨rfl, ho⟩
 rcases ho with ⟨hne, rfl, rfl⟩ | ⟨hg, hc, h0, bw, rfl, rfl⟩
 refine sp rfl (PE.move rfl) rfl ?_
 refine sp rfl (PE.extract rfl rfl) rfl ?_
 refine sp rfl (PE.extract rfl rfl) rfl ?_
 refine sp rfl (PE.assign rfl) rfl ?_
 refine sp rfl (PE.assign rfl) rfl ?_
 refine sy_seq ?_
 refine sy_block ?_
 refine sy_seq ?_
 refine sy_tx' [0, 1, 2] rfl ?_
 refine sp rfl (PE.move rfl) rfl ?_
 refine sp rfl (PE.neq rfl rfl) rfl ?_
 refine sp rfl (PE.assign rfl) rfl ?_
 refine sy_cond rfl (fun hc0 => ?_) (fun hc0 => ?_)
 have e : toldE g c bad = bothE g c := by simp [toldE, hne]
 refine sy_seq ?_
 refine sy_tx' [0, 1, 2, 3, 4] rfl ?_
 refine sp rfl (PE.zero (.inr (by rw [ar128]; rfl)) zl128) rfl ?_
 refine sp rfl (PE.move rfl) rfl ?_
 refine sp rfl (PE.assign rfl) rfl ?_
 refine sto rfl rfl rfl cn128 rfl rfl rfl rfl ?_
 refine sp rfl (PE.assign rfl) rfl ?_
 refine sy_ret ?_
 rw [← e]
 rw [← e] at hne
 exact sy_return (vs := [_, _, _]) rfl (.cons (RV.tmp rfl) (.cons (RV.cell rfl (lhA (ints zbx) ag128 rfl rfl rfl)) (.cons (RV.tmp rfl) .nil))) rfl ⟨rfl, .inl ⟨hne, rfl, rfl⟩⟩ drp
 exact absurd hc0 (by simp [hne])
 refine sp rfl (PE.move rfl) rfl ?_
 refine sp rfl (PE.extract rfl rfl) rfl ?_
 refine sp rfl (PE.extract rfl rfl) rfl ?_
 refine sp rfl (PE.assign rfl) rfl ?_
 refine sp rfl (PE.assign rfl) rfl ?_
 refine sy_seq ?_
 refine sy_block ?_
 refine sy_seq ?_
 refine sy_tx' [0, 1, 2] rfl ?_
 refine sp rfl (PE.move rfl) rfl ?_
 refine sp rfl (PE.neq rfl rfl) rfl ?_
 refine sp rfl (PE.assign rfl) rfl ?_
 refine sy_cond rfl (fun hc0 => ?_) (fun hc0 => ?_)
 exact absurd hc0 (by simp)
 refine sy_seq ?_
 refine sy_tx' [0, 1] rfl ?_
 refine sp rfl (PE.move rfl) rfl ?_
 refine sp rfl (PE.assign rfl) rfl ?_
 refine sy_cond rfl (fun hc1 => ?_) (fun hc1 => ?_)
 have e : toldE g c bad = 1 := by simp [toldE, h0, hc1]
 have hne : toldE g c bad ≠ 0 := by omega
 refine sy_seq ?_
 refine sy_tx' [0, 1, 2, 3] rfl ?_
 refine sp rfl (PE.zero (.inr (by rw [ar128]; rfl)) zl128) rfl ?_
 refine sp rfl (PE.assign rfl) rfl ?_
 refine sto rfl rfl rfl cn128 rfl rfl rfl rfl ?_
 refine sp rfl (PE.assign rfl) rfl ?_
 refine sy_ret ?_
 first
   | exact sy_return (vs := [_, _, _]) rfl (.cons (RV.tmp rfl) (.cons (RV.cell rfl (lhA (ints b) ag128 rfl (rest := []) (by rw [List.append_nil]; rfl) (by rw [ints_length]; exact hbl))) (.cons (RV.tmp rfl) .nil))) rfl ⟨rfl, .inr ⟨e, hg, hc, bw, b, hb, rfl, rfl⟩⟩ drp
   | (rw [e] at *; exact sy_return (vs := [_, _, _]) rfl (.cons (RV.tmp rfl) (.cons (RV.cell rfl (lhA (ints zbx) ag128 rfl rfl rfl)) (.cons (RV.tmp rfl) .nil))) rfl ⟨rfl, .inl ⟨hne, rfl, rfl⟩⟩ drp)
 subst hc1
 refine sy_skip ?_
 refine sy_seq ?_
 refine sy_tx' [0, 1, 2, 3, 4, 5, 6, 7, 8, 9] rfl ?_
 refine sp rfl (PE.move rfl) rfl ?_
 refine clV rfl cal84 rfl rfl (c_all _ _) ?_
 refine clV rfl cal101 rfl rfl (c_box g hg ag cg c hc ah ch bw 116 [] (fun _ => true) cal116 _ _ (fun G i _ => c_all1 i _ _)) ?_
 refine cl rfl cal115 rfl rfl (c_closed (boxF g.miss c.hs fun _ => true) (boxF_ok _ _ _) _ _) ?_
 rintro _ _ _ ⟨rfl, rfl, b, hbl, rfl, hcl⟩
 refine sp rfl (PE.move rfl) rfl ?_
 refine sp rfl (PE.extract rfl rfl) rfl ?_
 refine sp rfl (PE.extract rfl rfl) rfl ?_
 refine alc rfl zl128 rfl (fun b11 => ?_)
 refine stoA rfl rfl rfl cn128 rfl (by rw [ints_length]; exact hbl) rfl (ints_one _) ?_
 refine sp rfl (PE.assign rfl) rfl ?_
 refine sy_seq ?_
 refine sy_seq ?_
 refine sy_tx' [0, 1] rfl ?_
 refine sp rfl (PE.move rfl) rfl ?_
 refine sp rfl (PE.not rfl) rfl ?_
 refine sy_cond rfl (fun hc2 => ?_) (fun hc2 => ?_)
 have hn : clo (boxF g.miss c.hs fun _ => true) = none := by simpa using hc2
 have e : toldE g c false = 7 := by simp [toldE, h0, hn]
 have hne : toldE g c false ≠ 0 := by omega
 refine sy_seq ?_
 refine sy_tx' [0, 1, 2, 3] rfl ?_
 refine sp rfl (PE.zero (.inr (by rw [ar128]; rfl)) zl128) rfl ?_
 refine sp rfl (PE.assign rfl) rfl ?_
 refine sto rfl rfl rfl cn128 rfl rfl rfl rfl ?_
 refine sp rfl (PE.assign rfl) rfl ?_
 refine sy_ret ?_
 first
   | exact sy_return (vs := [_, _, _]) rfl (.cons (RV.tmp rfl) (.cons (RV.cell rfl (lhA (ints b) ag128 rfl (rest := []) (by rw [List.append_nil]; rfl) (by rw [ints_length]; exact hbl))) (.cons (RV.tmp rfl) .nil))) rfl ⟨rfl, .inr ⟨e, hg, hc, bw, b, hb, rfl, rfl⟩⟩ drp
   | (rw [e] at *; exact sy_return (vs := [_, _, _]) rfl (.cons (RV.tmp rfl) (.cons (RV.cell rfl (lhA (ints zbx) ag128 rfl rfl rfl)) (.cons (RV.tmp rfl) .nil))) rfl ⟨rfl, .inl ⟨hne, rfl, rfl⟩⟩ drp)
 have hs : (clo (boxF g.miss c.hs fun _ => true)).isSome = true := by simpa using hc2
 have hb := hcl hs
 have e : toldE g c false = 0 := by simp [toldE, h0, hb]
 refine sy_skip ?_
 refine sy_seq ?_
 refine sy_draw [0, 0, 1, 7, 15] (.tk 0 (.ld 1 (.tk 2 (.big 3 (.tk 4 .done))))) mixed (by kernel_rfl) ?_
 refine tk rfl (PE.move rfl) rfl ?_
 refine ld rfl rfl (lhA (ints b) ag128 rfl (rest := []) (by rw [List.append_nil]; rfl) (by rw [ints_length]; exact hbl)) rfl ?_
 refine tk rfl (PE.assign rfl) rfl ?_
 refine stoA rfl rfl rfl cn128 rfl (by rw [ints_length]; exact hbl) rfl (ints_one _) ?_
 refine bg (fun w hs => ⟨trivial, trivial⟩) ?_
 refine tk rfl (PE.assign rfl) rfl ?_
 refine sy_ret ?_
 first
   | exact sy_return (vs := [_, _, _]) rfl (.cons (RV.tmp rfl) (.cons (RV.cell rfl (lhA (ints b) ag128 rfl (rest := []) (by rw [List.append_nil]; rfl) (by rw [ints_length]; exact hbl))) (.cons (RV.tmp rfl) .nil))) rfl ⟨rfl, .inr ⟨e, hg, hc, bw, b, hb, rfl, rfl⟩⟩ drp
   | (rw [e] at *; exact sy_return (vs := [_, _, _]) rfl (.cons (RV.tmp rfl) (.cons (RV.cell rfl (lhA (ints zbx) ag128 rfl rfl rfl)) (.cons (RV.tmp rfl) .nil))) rfl ⟨rfl, .inl ⟨hne, rfl, rfl⟩⟩ drp)
def netP (g : Gat) (c : Crt) : Int × Int := (max 0 (c.full - c.empty - 2 * g.err), max 0 (c.full - c.empty + 2 * g.err))
def netR (g : Gat) (c : Crt) : Value := bif decide (bothE g c ≠ 0) then .tuple #[spv 0 0, .int .i64 (bothE g c)] else .tuple #[spv (netP g c).1 (netP g c).2, .int .i64 0]
def bndB (g : Gat) (c : Crt) : Box := bif decide (toldE g c false ≠ 0) then zbx else (clo (boxF g.miss c.hs fun _ => true)).getD zbx
def mixP (g : Gat) (c : Crt) : Mix := bif decide (toldE g c false ≠ 0) then [0, 0, 0, 0] else mixt ((clo (boxF g.miss c.hs fun _ => true)).getD zbx)
theorem told_tight {g : Gat} {c : Crt} {b : Box} (h : clo (boxF g.miss c.hs fun _ => true) = some b) : Tight b := (clo_some (boxF_ok _ _ _) h).1
theorem c_Net (g : Gat) (ag : Option Addr) (cg : Nat) (hlg : g.grs.length ≤ 9223372036854775807) (c : Crt) (ah : Option Addr) (ch : Nat) (hlh : c.hs.length ≤ 9223372036854775807) (H : Heap) (R : Facts) [hG : MemRows ag 5 (grows g.grs) R] [hA : MemRows ah 5 (hrows c.hs) R] :
    FnV Tryz.prog 27 [g.v (g.sl ag cg), c.v (c.sl ah ch)] H R (netR g c) := by
 refine fn_of Tryz.func27 rfl Tryz.ntmps27 rfl ?_
 refine sy_seq ?_
 refine sy_tx' [0, 1, 2, 3] rfl ?_
 refine bx rfl rfl rfl (fun b2 => ?_)
 refine bx rfl rfl rfl (fun b3 => ?_)
 refine alc rfl zl61 rfl (fun b4 => ?_)
 refine sp rfl (PE.assign rfl) rfl ?_
 refine sy_seq ?_
 refine sy_tx' [0, 1, 2, 3, 4, 5, 6, 7] rfl ?_
 refine spL rfl rfl (lhA [_, _, _] ag25 rfl rfl rfl) rfl ?_
 refine spL rfl rfl (lhA [_, _, _] ag28 rfl rfl rfl) rfl ?_
 refine cl rfl cal78 rfl rfl (c_opened g ag cg hlg c ah ch hlh _ _) ?_
 rintro _ _ _ ⟨rfl, ho⟩
 rcases ho with ⟨hne, rfl, rfl⟩ | ⟨hg, hc, h0, bw, rfl, rfl⟩
 refine sp rfl (PE.move rfl) rfl ?_
 refine sp rfl (PE.extract rfl rfl) rfl ?_
 refine sp rfl (PE.extract rfl rfl) rfl ?_
 refine sp rfl (PE.assign rfl) rfl ?_
 refine sp rfl (PE.assign rfl) rfl ?_
 refine sy_seq ?_
 refine sy_seq ?_
 refine sy_tx' [0, 1] rfl ?_
 refine sp rfl (PE.move rfl) rfl ?_
 refine sp rfl (PE.neq rfl rfl) rfl ?_
 refine sy_cond rfl (fun hc0 => ?_) (fun hc0 => ?_)
 refine sy_seq ?_
 refine sy_tx' [0, 1, 2, 3] rfl ?_
 refine sp rfl (PE.build (out := [_, _]) pl61 zl61 rfl rfl) rfl ?_
 refine sp rfl (PE.move rfl) rfl ?_
 refine sto rfl rfl rfl cn61 rfl rfl rfl rfl ?_
 refine sp rfl (PE.assign rfl) rfl ?_
 refine sy_ret ?_
 exact sy_return (vs := [_, _]) rfl (.cons (RV.cell rfl (lhA [_, _] ag61 rfl rfl rfl)) (.cons (RV.tmp rfl) .nil)) (by unfold netR; rw [decide_eq_true hne]; rfl) ⟨rfl, rfl, rfl⟩ drp
 exact absurd hc0 (by simp [hne])
 refine sp rfl (PE.move rfl) rfl ?_
 refine sp rfl (PE.extract rfl rfl) rfl ?_
 refine sp rfl (PE.extract rfl rfl) rfl ?_
 refine sp rfl (PE.assign rfl) rfl ?_
 refine sp rfl (PE.assign rfl) rfl ?_
 refine sy_seq ?_
 refine sy_seq ?_
 refine sy_tx' [0, 1] rfl ?_
 refine sp rfl (PE.move rfl) rfl ?_
 refine sp rfl (PE.neq rfl rfl) rfl ?_
 refine sy_cond rfl (fun hc0 => ?_) (fun hc0 => ?_)
 exact absurd hc0 (by simp)
 refine sy_skip ?_
 refine sy_seq ?_
 refine sy_tx' [0, 1, 2, 3] rfl ?_
 refine sp rfl (PE.move rfl) rfl ?_
 refine clV rfl cal79 rfl rfl (c_net g hg ag cg c hc ah ch bw _ _) ?_
 refine sto rfl rfl rfl cn61 rfl rfl rfl rfl ?_
 refine sp rfl (PE.assign rfl) rfl ?_
 refine sy_ret ?_
 exact sy_return (vs := [_, _]) rfl (.cons (RV.cell rfl (lhA [_, _] ag61 rfl rfl rfl)) (.cons (RV.tmp rfl) .nil)) (by unfold netR; rw [decide_eq_false (by omega)]; rfl) ⟨rfl, rfl, rfl⟩ drp
theorem c_Bounds (g : Gat) (ag : Option Addr) (cg : Nat) (hlg : g.grs.length ≤ 9223372036854775807) (c : Crt) (ah : Option Addr) (ch : Nat) (hlh : c.hs.length ≤ 9223372036854775807) (H : Heap) (R : Facts) [hG : MemRows ag 5 (grows g.grs) R] [hA : MemRows ah 5 (hrows c.hs) R] :
    FnV Tryz.prog 28 [g.v (g.sl ag cg), c.v (c.sl ah ch)] H R (.tuple #[bxv (bndB g c), .int .i64 (toldE g c false)]) := by
 refine fn_of Tryz.func28 rfl Tryz.ntmps28 rfl ?_
 refine sy_seq ?_
 refine sy_tx' [0, 1, 2, 3] rfl ?_
 refine bx rfl rfl rfl (fun b2 => ?_)
 refine bx rfl rfl rfl (fun b3 => ?_)
 refine alc rfl zl64 rfl (fun b4 => ?_)
 refine sp rfl (PE.assign rfl) rfl ?_
 refine sy_seq ?_
 refine sy_tx' [0, 1, 2, 3, 4, 5, 6, 7, 8, 9, 10] rfl ?_
 refine spL rfl rfl (lhA [_, _, _] ag25 rfl rfl rfl) rfl ?_
 refine spL rfl rfl (lhA [_, _, _] ag28 rfl rfl rfl) rfl ?_
 refine cl rfl cal80 rfl rfl (c_told g ag cg hlg c ah ch hlh false _ _) ?_
 rintro _ _ _ ⟨rfl, hT⟩
 rcases hT with ⟨hne, rfl, rfl⟩ | ⟨h0, hg, hc, bw, b, hb, rfl, rfl⟩
 refine sp rfl (PE.move rfl) rfl ?_
 refine sp rfl (PE.extract rfl rfl) rfl ?_
 refine sp rfl (PE.extract rfl rfl) rfl ?_
 refine sp rfl (PE.extract rfl rfl) rfl ?_
 refine alc rfl zl128 rfl (fun b7 => ?_)
 refine sp rfl (PE.assign rfl) rfl ?_
 refine stoA rfl rfl rfl cn128 rfl (by rw [ints_length]; exact rfl) rfl (ints_one _) ?_
 refine sp rfl (PE.assign rfl) rfl ?_
 refine sy_seq ?_
 refine sy_tx' [0, 1, 2, 3] rfl ?_
 refine spL rfl rfl (lhA (ints zbx) ag128 rfl (rest := []) (by rw [List.append_nil]; rfl) (by rw [ints_length]; exact rfl)) rfl ?_
 refine sp rfl (PE.move rfl) rfl ?_
 refine stoA rfl rfl rfl cn64 rfl rfl rfl (ints_one _) ?_
 refine sp rfl (PE.assign rfl) rfl ?_
 refine sy_ret ?_
 exact sy_return (vs := [_, _]) rfl (.cons (RV.cell rfl (lhA (ints zbx) ag64 rfl (rest := []) (by simp) rfl)) (.cons (RV.tmp rfl) .nil)) (by unfold bndB; rw [decide_eq_true hne]; rfl) ⟨rfl, rfl, rfl⟩ drp
 have hbl := (told_tight hb).ok.len
 refine sp rfl (PE.move rfl) rfl ?_
 refine sp rfl (PE.extract rfl rfl) rfl ?_
 refine sp rfl (PE.extract rfl rfl) rfl ?_
 refine sp rfl (PE.extract rfl rfl) rfl ?_
 refine alc rfl zl128 rfl (fun b7 => ?_)
 refine sp rfl (PE.assign rfl) rfl ?_
 refine stoA rfl rfl rfl cn128 rfl (by rw [ints_length]; exact hbl) rfl (ints_one _) ?_
 refine sp rfl (PE.assign rfl) rfl ?_
 refine sy_seq ?_
 refine sy_tx' [0, 1, 2, 3] rfl ?_
 refine spL rfl rfl (lhA (ints b) ag128 rfl (rest := []) (by rw [List.append_nil]; rfl) (by rw [ints_length]; exact hbl)) rfl ?_
 refine sp rfl (PE.move rfl) rfl ?_
 refine stoA rfl rfl rfl cn64 rfl (by rw [ints_length]; exact hbl) rfl (ints_one _) ?_
 refine sp rfl (PE.assign rfl) rfl ?_
 refine sy_ret ?_
 exact sy_return (vs := [_, _]) rfl (.cons (RV.cell rfl (lhA (ints b) ag64 rfl (rest := []) (by simp) (by rw [ints_length]; exact hbl))) (.cons (RV.tmp rfl) .nil)) (by unfold bndB; rw [decide_eq_false (by omega), hb, h0]; rfl) ⟨rfl, rfl, rfl⟩ drp
theorem c_Mixture (g : Gat) (ag : Option Addr) (cg : Nat) (hlg : g.grs.length ≤ 9223372036854775807) (c : Crt) (ah : Option Addr) (ch : Nat) (hlh : c.hs.length ≤ 9223372036854775807) (H : Heap) (R : Facts) [hG : MemRows ag 5 (grows g.grs) R] [hA : MemRows ah 5 (hrows c.hs) R] :
    FnV Tryz.prog 59 [g.v (g.sl ag cg), c.v (c.sl ah ch)] H R (.tuple #[.agg (ints (mixP g c)).toArray, .int .i64 (toldE g c false)]) := by
 refine fn_of Tryz.func59 rfl Tryz.ntmps59 rfl ?_
 refine sy_seq ?_
 refine sy_tx' [0, 1, 2, 3] rfl ?_
 refine bx rfl rfl rfl (fun b2 => ?_)
 refine bx rfl rfl rfl (fun b3 => ?_)
 refine alc rfl zl31 rfl (fun b4 => ?_)
 refine sp rfl (PE.assign rfl) rfl ?_
 refine sy_seq ?_
 refine sy_tx' [0, 1, 2, 3, 4, 5, 6, 7, 8, 9, 10] rfl ?_
 refine spL rfl rfl (lhA [_, _, _] ag25 rfl rfl rfl) rfl ?_
 refine spL rfl rfl (lhA [_, _, _] ag28 rfl rfl rfl) rfl ?_
 refine cl rfl cal80 rfl rfl (c_told g ag cg hlg c ah ch hlh false _ _) ?_
 rintro _ _ _ ⟨rfl, hT⟩
 rcases hT with ⟨hne, rfl, rfl⟩ | ⟨h0, hg, hc, bw, b, hb, rfl, rfl⟩
 refine sp rfl (PE.move rfl) rfl ?_
 refine sp rfl (PE.extract rfl rfl) rfl ?_
 refine sp rfl (PE.extract rfl rfl) rfl ?_
 refine sp rfl (PE.extract rfl rfl) rfl ?_
 refine alc rfl zl128 rfl (fun b7 => ?_)
 refine sp rfl (PE.assign rfl) rfl ?_
 refine stoA rfl rfl rfl cn128 rfl (by rw [ints_length]; exact rfl) rfl (ints_one _) ?_
 refine sp rfl (PE.assign rfl) rfl ?_
 refine sy_seq ?_
 refine sy_seq ?_
 refine sy_tx' [0, 1] rfl ?_
 refine sp rfl (PE.move rfl) rfl ?_
 refine sp rfl (PE.neq rfl rfl) rfl ?_
 refine sy_cond rfl (fun hc0 => ?_) (fun hc0 => ?_)
 refine sy_seq ?_
 refine sy_tx' [0, 1, 2, 3] rfl ?_
 refine sp rfl (PE.zero (.inr (by rw [ar31]; rfl)) zl31) rfl ?_
 refine sp rfl (PE.move rfl) rfl ?_
 refine sto rfl rfl rfl cn31 rfl rfl rfl rfl ?_
 refine sp rfl (PE.assign rfl) rfl ?_
 refine sy_ret ?_
 exact sy_return (vs := [_, _]) rfl (.cons (RV.cell rfl (lhA (ints [0, 0, 0, 0]) ag31 rfl rfl rfl)) (.cons (RV.tmp rfl) .nil)) (by unfold mixP; rw [decide_eq_true hne]; rfl) ⟨rfl, rfl, rfl⟩ drp
 exact absurd hc0 (by simp [hne])
 have hbt := told_tight hb
 have hbl := hbt.ok.len
 have hml := (mixN_bd hbt 4 (by omega)).1
 refine sp rfl (PE.move rfl) rfl ?_
 refine sp rfl (PE.extract rfl rfl) rfl ?_
 refine sp rfl (PE.extract rfl rfl) rfl ?_
 refine sp rfl (PE.extract rfl rfl) rfl ?_
 refine alc rfl zl128 rfl (fun b7 => ?_)
 refine sp rfl (PE.assign rfl) rfl ?_
 refine stoA rfl rfl rfl cn128 rfl (by rw [ints_length]; exact hbl) rfl (ints_one _) ?_
 refine sp rfl (PE.assign rfl) rfl ?_
 refine sy_seq ?_
 refine sy_seq ?_
 refine sy_tx' [0, 1] rfl ?_
 refine sp rfl (PE.move rfl) rfl ?_
 refine sp rfl (PE.neq rfl rfl) rfl ?_
 refine sy_cond rfl (fun hc0 => ?_) (fun hc0 => ?_)
 exact absurd hc0 (by simp)
 refine sy_skip ?_
 refine sy_seq ?_
 refine sy_tx' [0, 1, 2, 3] rfl ?_
 refine spL rfl rfl (lhA (ints b) ag128 rfl (rest := []) (by rw [List.append_nil]; rfl) (by rw [ints_length]; exact hbl)) rfl ?_
 refine clV rfl cal103 rfl rfl (c_mixture b hbt _ _) ?_
 refine stoA rfl rfl rfl cn31 rfl (by rw [ints_length]; exact hml) rfl (ints_one _) ?_
 refine sp rfl (PE.assign rfl) rfl ?_
 refine sy_ret ?_
 exact sy_return (vs := [_, _]) rfl (.cons (RV.cell rfl (lhA (ints (mixt b)) ag31 rfl (rest := []) (by rw [List.append_nil]; rfl) (by rw [ints_length]; exact hml))) (.cons (RV.tmp rfl) .nil)) (by unfold mixP; rw [decide_eq_false (by omega), hb, h0]; rfl) ⟨rfl, rfl, rfl⟩ drp
theorem c_agree (g : Gat) (hg : g.ok) (ag : Option Addr) (cg : Nat) (c : Crt) (hc : c.ok) (ah : Option Addr) (ch : Nat) (bw : Nat) (gf : Nat) (cap : List Value) (f : Nat → Bool) (hgf : cal Tryz.prog gf = true) (H : Heap) (R : Facts) [hW : MemRows (some ⟨bw, 0, none⟩) 6 [wrow g c (g.sl ag cg) (c.sl ah ch)] R] [hG : MemRows ag 5 (grows g.grs) R] [hA : MemRows ah 5 (hrows c.hs) R] (hf : ∀ (G : Heap) (i : Nat), i < c.hs.length → FnV Tryz.prog gf ([.int .i64 i] ++ cap) (G ++ H) R (.bool (f i))) :
    FnV Tryz.prog 83 [.pointer (some ⟨bw, 0, none⟩), .agg #[.func (.func gf) #[] cap.toArray]] H R (.bool (agr g.miss c.hs f)) := by
 refine fn_of Tryz.func83 rfl Tryz.ntmps83 rfl ?_
 refine sy_seq ?_
 refine sy_tx' [0, 1] rfl ?_
 refine bx rfl rfl rfl (fun b3 => ?_)
 refine sp rfl (PE.assign rfl) rfl ?_
 refine sy_seq ?_
 refine sy_tx' [0, 1, 2, 3, 4, 5, 6, 7, 8, 9] rfl ?_
 refine sp rfl (PE.move rfl) rfl ?_
 refine spL rfl rfl (lhA [_] ag135 rfl rfl rfl) rfl ?_
 refine clV rfl cal101 rfl rfl (c_box g hg ag cg c hc ah ch bw gf cap f hgf _ _ (fun G i hi => FnV.app (G2 := [_]) (hf (G ++ [_]) i hi))) ?_
 refine cl rfl cal115 rfl rfl (c_closed (boxF g.miss c.hs f) (boxF_ok _ _ _) _ _) ?_
 rintro _ _ _ ⟨rfl, rfl, b, hbl, rfl, hcl⟩
 refine sp rfl (PE.move rfl) rfl ?_
 refine sp rfl (PE.extract rfl rfl) rfl ?_
 refine sp rfl (PE.extract rfl rfl) rfl ?_
 refine alc rfl zl128 rfl (fun b5 => ?_)
 refine stoA rfl rfl rfl cn128 rfl (by rw [ints_length]; exact hbl) rfl (ints_one _) ?_
 refine sp rfl (PE.assign rfl) rfl ?_
 refine sy_seq ?_
 refine sy_tx' [0, 1] rfl ?_
 refine sp rfl (PE.move rfl) rfl ?_
 refine sp rfl (PE.assign rfl) rfl ?_
 refine sy_ret ?_
 exact sy_return (vs := [_]) rfl (.cons (RV.tmp rfl) .nil) rfl ⟨rfl, rfl, rfl⟩ drp
def spotF (hs : List Hnd) (s : Int) (i : Nat) : Bool := match hs[i]? with | some h => decide (h.spot = s) | none => false
theorem top_eq (miss : Int) (hs : List Hnd) : topB miss hs = (((List.range 3).all fun (s : Nat) => agr miss hs (spotF hs (s : Nat))) && !(agr miss hs (fun _ => true))) := rfl
theorem top_no {miss : Int} {hs : List Hnd} {k : Nat} (h : agr miss hs (spotF hs (k : Nat)) = false) (hk : k < 3) : topB miss hs = false := by
  rw [top_eq]
  have : ((List.range 3).all fun (s : Nat) => agr miss hs (spotF hs (s : Nat))) = false := by
    rw [List.all_eq_false]; exact ⟨k, List.mem_range.2 hk, by rw [h]; simp⟩
  rw [this]; rfl
theorem top_yes {miss : Int} {hs : List Hnd} (h : ∀ j < 3, agr miss hs (spotF hs (j : Nat)) = true) : topB miss hs = !(agr miss hs (fun _ => true)) := by
  rw [top_eq]
  have : ((List.range 3).all fun (s : Nat) => agr miss hs (spotF hs (s : Nat))) = true := List.all_eq_true.2 fun k hk => h k (List.mem_range.1 hk)
  rw [this]; rfl
theorem Fn.addr5 {P : Program} {f : FuncId} {args : List Value} {H : Heap} {R : Facts} {Q : Value → Heap → Facts → Prop} {ah : Option Addr} {hs : List Hnd} [m : MemRows ah 5 (hrows hs) R] (h0 : hs ≠ []) (h : ∀ b off, ah = some ⟨b, off, none⟩ → Fn P f args H R Q) : Fn P f args H R Q := fun w hw => by
  obtain ⟨b, off, he⟩ := rows_addr (hw.now m.mem) (by intro e; exact h0 (List.map_eq_nil_iff.1 e))
  exact h b off he w hw
theorem c_top1 (c : Crt) (hc : c.ok) (ah : Option Addr) (ch b3 b8 : Nat) (s : Int) (i : Nat) (hi : i < c.hs.length) (H : Heap) (R : Facts) [hA : MemRows ah 5 (hrows c.hs) R] [m3 : Mem1 b3 (cel 28 (ctl c (c.sl ah ch))) H] [m8 : Mem1 b8 (cel 3 [.int .i64 s]) H] :
    FnV Tryz.prog 88 [.int .i64 i, .pointer (some ⟨b3, 0, none⟩), .pointer (some ⟨b8, 0, none⟩)] H R (.bool (spotF c.hs s i)) := by
 obtain ⟨h, hh⟩ : ∃ h, c.hs[i]? = some h := ⟨_, List.getElem?_eq_getElem hi⟩
 refine Fn.addr5 (ah := ah) (hs := c.hs) (by intro h0; simp [h0] at hh) (fun ba oa he => ?_)
 subst he
 refine fn_of Tryz.func88 rfl Tryz.ntmps88 rfl ?_
 refine sy_seq ?_
 refine sy_tx' [0] rfl ?_
 refine sp rfl (PE.assign rfl) rfl ?_
 refine sy_seq ?_
 refine sy_draw [0, 1, 0, 7, 15, 31, 0, 127, 255] (.tk 0 (.ld 1 (.tk 2 (.tk 3 (.tk 4 (.ld 5 (.ld 6 (.tk 7 (.tk 8 .done))))))))) mixed (by kernel_rfl) ?_
 refine tk rfl (PE.fieldAddr fo28_2 rfl) rfl ?_
 refine ld rfl rfl (lh sc26 rfl rfl) rfl ?_
 refine tk rfl (PE.move rfl) rfl ?_
 refine tk rfl (PE.indexAddr el26 rfl rfl (by omega) (by omega)) rfl ?_
 refine tk rfl (PE.fieldAddr fo33_0 rfl) rfl ?_
 refine ld rfl rfl (lf0 (x := .int .i64 h.spot) sc3 (hr_get (by simpa using hh)) rfl) rfl ?_
 refine ld rfl rfl (lh sc3 rfl rfl) rfl ?_
 refine tk rfl (PE.eql rfl rfl) rfl ?_
 refine tk rfl (PE.assign rfl) rfl ?_
 refine sy_ret ?_
 exact sy_return (vs := [_]) rfl (.cons (RV.tmp rfl) .nil) rfl ⟨by simp only [retV, spotF]; rw [hh], rfl, rfl⟩ drp
theorem c_Topped (g : Gat) (ag : Option Addr) (cg : Nat) (hlg : g.grs.length ≤ 9223372036854775807) (c : Crt) (ah : Option Addr) (ch : Nat) (hlh : c.hs.length ≤ 9223372036854775807) (H : Heap) (R : Facts) [hG : MemRows ag 5 (grows g.grs) R] [hA : MemRows ah 5 (hrows c.hs) R] :
    FnV Tryz.prog 32 [g.v (g.sl ag cg), c.v (c.sl ah ch)] H R (.tuple #[.bool (bif decide (bothE g c ≠ 0) then false else topB g.miss c.hs), .int .i64 (bothE g c)]) := by
 refine fn_of Tryz.func32 rfl Tryz.ntmps32 rfl ?_
 refine sy_seq ?_
 refine sy_tx' [0, 1, 2, 3] rfl ?_
 refine bx rfl rfl rfl (fun b2 => ?_)
 refine bx rfl rfl rfl (fun b3 => ?_)
 refine sp rfl (PE.assign rfl) rfl ?_
 refine sp rfl (PE.assign rfl) rfl ?_
 refine sy_seq ?_
 refine sy_tx' [0, 1, 2, 3, 4, 5, 6, 7] rfl ?_
 refine spL rfl rfl (lhA [_, _, _] ag25 rfl rfl rfl) rfl ?_
 refine spL rfl rfl (lhA [_, _, _] ag28 rfl rfl rfl) rfl ?_
 refine cl rfl cal78 rfl rfl (c_opened g ag cg hlg c ah ch hlh _ _) ?_
 rintro _ _ _ ⟨rfl, ho⟩
 rcases ho with ⟨hne, rfl, rfl⟩ | ⟨hg, hc, h0, bw, rfl, rfl⟩
 refine sp rfl (PE.move rfl) rfl ?_
 refine sp rfl (PE.extract rfl rfl) rfl ?_
 refine sp rfl (PE.extract rfl rfl) rfl ?_
 refine sp rfl (PE.assign rfl) rfl ?_
 refine sp rfl (PE.assign rfl) rfl ?_
 refine sy_seq ?_
 refine sy_seq ?_
 refine sy_tx' [0, 1] rfl ?_
 refine sp rfl (PE.move rfl) rfl ?_
 refine sp rfl (PE.neq rfl rfl) rfl ?_
 refine sy_cond rfl (fun hc0 => ?_) (fun hc0 => ?_)
 refine sy_seq ?_
 refine sy_tx' [0, 1, 2] rfl ?_
 refine sp rfl (PE.move rfl) rfl ?_
 refine sp rfl (PE.assign rfl) rfl ?_
 refine sp rfl (PE.assign rfl) rfl ?_
 refine sy_ret ?_
 exact sy_return (vs := [_, _]) rfl (.cons (RV.tmp rfl) (.cons (RV.tmp rfl) .nil)) (by rw [decide_eq_true hne]; rfl) ⟨rfl, rfl, rfl⟩ drp
 exact absurd hc0 (by simp [hne])
 refine sp rfl (PE.move rfl) rfl ?_
 refine sp rfl (PE.extract rfl rfl) rfl ?_
 refine sp rfl (PE.extract rfl rfl) rfl ?_
 refine sp rfl (PE.assign rfl) rfl ?_
 refine sp rfl (PE.assign rfl) rfl ?_
 refine sy_seq ?_
 refine sy_seq ?_
 refine sy_tx' [0, 1] rfl ?_
 refine sp rfl (PE.move rfl) rfl ?_
 refine sp rfl (PE.neq rfl rfl) rfl ?_
 refine sy_cond rfl (fun hc0 => ?_) (fun hc0 => ?_)
 exact absurd hc0 (by simp)
 refine sy_skip ?_
 refine sy_seq ?_
 refine sy_seq ?_
 refine sy_tx' [0] rfl ?_
 refine sp rfl (PE.move rfl) rfl ?_
 refine sy_block ?_
 refine sy_loop (ι := {k : Nat // k ≤ 3 ∧ ∀ j < k, agr g.miss c.hs (spotF c.hs (j : Nat)) = true}) (fun k => ⟨[(2, .pointer (some ⟨b2, 0, none⟩)), (3, .pointer (some ⟨b3, 0, none⟩)), (6, .pointer (some ⟨bw, 0, none⟩)), (18, .int .i64 k.1)], (b3, cel 28 (ctl c (c.sl ah ch))) :: (b2, cel 25 (gtl g (g.sl ag cg))) :: H, RowsA (some ⟨bw, 0, none⟩) 6 [wrow g c (g.sl ag cg) (c.sl ah ch)] :: R⟩) (fun k => 3 - k.1) ⟨0, by omega, fun j hj => by omega⟩ ?_ (fun k => ?_)
 exact sy_at (by repeat' first | exact Sub.nil | apply Sub.cons | rfl | (simp [lk]; omega)) (fun _ h => h)
 obtain ⟨k, hk, hn⟩ := k
 dsimp only at hk hn ⊢
 refine sy_seq ?_
 refine sy_tx' [0] rfl ?_
 refine sp rfl (PE.lss rfl rfl) rfl ?_
 refine sy_seq ?_
 refine sy_cond rfl (fun hc1 => ?_) (fun hc1 => ?_)
 try simp only [decide_eq_true_eq, decide_eq_false_iff_not, Bool.and_eq_true, Bool.or_eq_true, Bool.not_eq_true', Int.not_le, Int.not_lt] at hc1
 refine sy_skip ?_
 refine sy_seq ?_
 refine sy_block ?_
 refine sy_seq ?_
 refine sy_tx' [0, 1, 2] rfl ?_
 refine sp rfl (PE.move rfl) rfl ?_
 refine alc rfl zl3 rfl (fun b8 => ?_)
 refine sto rfl rfl rfl cn3 rfl rfl rfl rfl ?_
 refine sy_seq ?_
 refine sy_tx' [0, 1, 2, 3, 4] rfl ?_
 refine sp rfl (PE.move rfl) rfl ?_
 refine sp rfl (PE.makeFunc rfl rfl) rfl ?_
 refine sp rfl (PE.build (out := [_]) pl135 zl135 rfl rfl) rfl ?_
 refine clV rfl cal83 rfl rfl (c_agree g hg ag cg c hc ah ch bw 88 [.pointer (some ⟨b3, 0, none⟩), .pointer (some ⟨b8, 0, none⟩)] (spotF c.hs (k : Nat)) cal88 _ _ (fun G i hi => c_top1 c hc ah ch b3 b8 k i hi _ _)) ?_
 refine sp rfl (PE.not rfl) rfl ?_
 refine sy_cond rfl (fun hc2 => ?_) (fun hc2 => ?_)
 have hag : agr g.miss c.hs (spotF c.hs (k : Nat)) = false := by simpa using hc2
 have htb := top_no hag (by omega)
 refine sy_seq ?_
 refine sy_tx' [0, 1] rfl ?_
 refine sp rfl (PE.assign rfl) rfl ?_
 refine sp rfl (PE.assign rfl) rfl ?_
 refine sy_ret ?_
 rw [h0]
 first
   | exact sy_return (vs := [_, _]) rfl (.cons (RV.tmp rfl) (.cons (RV.tmp rfl) .nil)) (by rw [htb]; rfl) ⟨rfl, rfl, rfl⟩ drp
   | exact sy_return (vs := [_, _]) rfl (.cons (RV.tmp rfl) (.cons (RV.tmp rfl) .nil)) (by rw [top_yes hn]; rfl) ⟨rfl, rfl, rfl⟩ drp
 have hag : agr g.miss c.hs (spotF c.hs (k : Nat)) = true := by simpa using hc2
 refine sy_skip ?_
 refine sy_tx' [0, 1] rfl ?_
 refine sp rfl (PE.add rfl rfl (by omega)) rfl ?_
 refine sp rfl (PE.move rfl) rfl ?_
 exact sy_next ⟨k + 1, by omega, fun j hj => (Nat.lt_succ_iff_lt_or_eq.1 hj).elim (hn j) (fun e => by rw [e]; exact hag)⟩ (by dsimp only; omega) (by repeat' first | exact Sub.nil | apply Sub.cons | rfl | (simp [lk]; omega)) (fun w h => h.del b8)
 try simp only [decide_eq_true_eq, decide_eq_false_iff_not, Bool.and_eq_true, Bool.or_eq_true, Bool.not_eq_true', Int.not_le, Int.not_lt] at hc1
 obtain rfl : k = 3 := by omega
 refine sy_exit ?_
 repeat refine sy_tx ?_
 refine sy_bx ?_
 refine sy_seq ?_
 refine sy_tx' [0, 1, 2, 3, 4, 5] rfl ?_
 refine sp rfl (PE.move rfl) rfl ?_
 refine clV rfl cal84 rfl rfl (c_all _ _) ?_
 refine clV rfl cal83 rfl rfl (c_agree g hg ag cg c hc ah ch bw 116 [] (fun _ => true) cal116 _ _ (fun G i _ => c_all1 i _ _)) ?_
 refine sp rfl (PE.not rfl) rfl ?_
 refine sp rfl (PE.assign rfl) rfl ?_
 refine sp rfl (PE.assign rfl) rfl ?_
 refine sy_ret ?_
 rw [h0]
 first
   | exact sy_return (vs := [_, _]) rfl (.cons (RV.tmp rfl) (.cons (RV.tmp rfl) .nil)) (by rw [htb]; rfl) ⟨rfl, rfl, rfl⟩ drp
   | exact sy_return (vs := [_, _]) rfl (.cons (RV.tmp rfl) (.cons (RV.tmp rfl) .nil)) (by rw [top_yes hn]; rfl) ⟨rfl, rfl, rfl⟩ drp
end Go.Proofs.YtndhkpnaeocnhaaGreat
namespace Go.Proofs.YtndhkpnaeocnhaaGreat
set_option linter.unusedSimpArgs false
set_option linter.unusedVariables false
open Go
theorem cal131 : cal Tryz.prog 131 = true := by kernel_rfl
theorem cal132 : cal Tryz.prog 132 = true := by kernel_rfl
theorem sc178 : scal Tryz.prog 178 = true := by kernel_rfl
theorem sc179 : scal Tryz.prog 179 = true := by kernel_rfl
theorem drop_get {α : Type} {l : List α} {k : Nat} {x : α} (h : l[k]? = some x) : l.drop k = x :: l.drop (k + 1) := by
  obtain ⟨hk, rfl⟩ := List.getElem?_eq_some_iff.1 h; exact List.drop_eq_getElem_cons hk
def kpL (x : Grd) : Box := [x.corn, 40, 0, x.chaff, 0, x.stones, 0, x.damp]
theorem kpL_at (x : Grd) {k : Nat} (hk : k < 4) : bl (kpL x) k = x.lo k ∧ bh (kpL x) k = x.hi k := by
  rcases lt4 hk with rfl | rfl | rfl | rfl <;> exact ⟨rfl, rfl⟩
theorem ns_row (x : Grd) {k : Nat} (hk : k < 4) : (irows x.ns)[((k : Nat) : Int).toNat]? = some [.int .i64 (nn x.ns k)] := by
  rcases lt4 hk with rfl | rfl | rfl | rfl <;> rfl
theorem srch_cons {x : Grd} {l : List Grd} {b c : Box} (h : clo b = some c) : srch (x :: l) b = (((srch l (missB c x 0)).or (srch l (missB c x 1))).or (srch l (missB c x 2))).or (srch l (missB c x 3)) := by
  rw [srch, h]
theorem srch_no {l : List Grd} {b : Box} (h : clo b = none) : srch l b = none := by
  cases l with
  | nil => exact h
  | cons x l => rw [srch, h]
theorem srch_hit {x : Grd} {l : List Grd} {b c d : Box} (h : clo b = some c) {k : Nat} (hk : k < 4) (h1 : ∀ j < k, srch l (missB c x j) = none) (h2 : srch l (missB c x k) = some d) : srch (x :: l) b = some d := by
  rw [srch_cons h]
  rcases lt4 hk with rfl | rfl | rfl | rfl
  · rw [h2]; rfl
  · rw [h1 0 (by omega), h2]; rfl
  · rw [h1 0 (by omega), h1 1 (by omega), h2]; rfl
  · rw [h1 0 (by omega), h1 1 (by omega), h1 2 (by omega), h2]; rfl
theorem srch_all {x : Grd} {l : List Grd} {b c : Box} (h : clo b = some c) (h1 : ∀ j < 4, srch l (missB c x j) = none) : srch (x :: l) b = none := by
  rw [srch_cons h, h1 0 (by omega), h1 1 (by omega), h1 2 (by omega), h1 3 (by omega)]; rfl
def MoreQ (Fin : Box → Heap → Facts → Prop) (G H : Heap) (R : Facts) : Option Box → Value → Heap → Facts → Prop
  | none, v, H', R' => v = .bool true ∧ H' = G ++ H ∧ R' = R
  | some x, v, H', R' => v = .bool false ∧ ∃ H2, H' = G ++ H2 ∧ Fin x H2 R' 
theorem c_keeps (x : Grd) (H : Heap) (R : Facts) :
    FnV Tryz.prog 122 [.agg (grow x).toArray] H R (bxv (kpL x)) := by
 refine fn_of Tryz.func122 rfl Tryz.ntmps122 rfl ?_
 refine sy_seq ?_
 refine sy_tx' [0, 1] rfl ?_
 refine bx rfl rfl rfl (fun b1 => ?_)
 refine alc rfl zl128 rfl (fun b2 => ?_)
 refine sy_seq ?_
 refine sy_tx' [0, 1, 2, 3, 4, 5, 6, 7, 8, 9, 10, 11, 12, 13] rfl ?_
 refine sp rfl (PE.fieldAddr fo36_0 rfl) rfl ?_
 refine spL rfl rfl (lh sc3 rfl rfl) rfl ?_
 refine sp rfl (PE.build (out := [_, _]) pl61 zl61 rfl rfl) rfl ?_
 refine sp rfl (PE.fieldAddr fo36_1 rfl) rfl ?_
 refine spL rfl rfl (lh sc3 rfl rfl) rfl ?_
 refine sp rfl (PE.build (out := [_, _]) pl61 zl61 rfl rfl) rfl ?_
 refine sp rfl (PE.fieldAddr fo36_2 rfl) rfl ?_
 refine spL rfl rfl (lh sc3 rfl rfl) rfl ?_
 refine sp rfl (PE.build (out := [_, _]) pl61 zl61 rfl rfl) rfl ?_
 refine sp rfl (PE.fieldAddr fo36_3 rfl) rfl ?_
 refine spL rfl rfl (lh sc3 rfl rfl) rfl ?_
 refine sp rfl (PE.build (out := [_, _]) pl61 zl61 rfl rfl) rfl ?_
 refine sp rfl (PE.buildArr (out := [_, _, _, _, _, _, _, _]) ar128 zl128 rfl rfl) rfl ?_
 refine sto rfl rfl rfl cn128 rfl rfl rfl rfl ?_
 refine sy_ret ?_
 exact sy_return (vs := [_]) rfl (.cons (RV.cell rfl (lhA [_, _, _, _, _, _, _, _] ag128 rfl rfl rfl)) .nil) rfl ⟨rfl, rfl, rfl⟩ drp
theorem c_misses (x : Grd) (hx : ∀ k < 4, 0 ≤ nn x.ns k ∧ nn x.ns k ≤ 40) (k : Nat) (hk : k < 4) (H : Heap) (R : Facts) :
    FnV Tryz.prog 132 [.agg (grow x).toArray, .int .i64 k] H R (spv (missS x k).1 (missS x k).2) := by
 refine fn_of Tryz.func132 rfl Tryz.ntmps132 rfl ?_
 refine sy_seq ?_
 refine sy_tx' [0, 1] rfl ?_
 refine bx rfl rfl rfl (fun b2 => ?_)
 refine alc rfl zl61 rfl (fun b4 => ?_)
 refine sy_seq ?_
 refine sy_seq ?_
 refine sy_tx' [0, 1] rfl ?_
 refine sp rfl (PE.move rfl) rfl ?_
 refine sp rfl (PE.eql rfl rfl) rfl ?_
 refine sy_cond rfl (fun hc0 => ?_) (fun hc0 => ?_)
 try simp only [decide_eq_true_eq, decide_eq_false_iff_not, Bool.and_eq_true, Bool.or_eq_true, Bool.not_eq_true', Int.not_le, Int.not_lt] at hc0
 obtain rfl : k = 0 := by omega
 have hx0 := hx 0 (by omega)
 simp only [nn, Grd.ns, List.getD_cons_zero] at hx0
 refine sy_seq ?_
 refine sy_tx' [0, 1, 2, 3, 4] rfl ?_
 refine sp rfl (PE.fieldAddr fo36_0 rfl) rfl ?_
 refine spL rfl rfl (lh sc3 rfl rfl) rfl ?_
 refine sp rfl (PE.sub rfl rfl (by omega)) rfl ?_
 refine sp rfl (PE.build (out := [_, _]) pl61 zl61 rfl rfl) rfl ?_
 refine sto rfl rfl rfl cn61 rfl rfl rfl rfl ?_
 refine sy_ret ?_
 first
   | exact sy_return (vs := [_]) rfl (.cons (RV.cell rfl (lhA [_, _] ag61 rfl rfl rfl)) .nil) rfl ⟨rfl, rfl, rfl⟩ drp
   | (unfold missS; rw [e]; exact sy_return (vs := [_]) rfl (.cons (RV.cell rfl (lhA [_, _] ag61 rfl rfl rfl)) .nil) rfl ⟨rfl, rfl, rfl⟩ drp)
 try simp only [decide_eq_true_eq, decide_eq_false_iff_not, Bool.and_eq_true, Bool.or_eq_true, Bool.not_eq_true', Int.not_le, Int.not_lt] at hc0
 have e : (k == 0) = false := by simp; omega
 have hxk := hx k hk
 refine sy_skip ?_
 refine sy_seq ?_
 refine sy_tx' [0, 1, 2, 3, 4, 5, 6, 7] rfl ?_
 refine spL rfl rfl (lhA [_, _, _, _, _] ag36 rfl rfl rfl) rfl ?_
 refine cl rfl cal18 rfl rfl (c_numbers x _ _) ?_
 rintro _ _ _ ⟨bn, rfl, rfl, rfl⟩
 refine sp rfl (PE.move rfl) rfl ?_
 refine sp rfl (PE.indexAddr el22 rfl rfl (by omega) (by omega)) rfl ?_
 refine spL rfl rfl (lf0 (x := .int .i64 (nn x.ns k)) sc3 (ns_row x hk) rfl) rfl ?_
 refine sp rfl (PE.add rfl rfl (by omega)) rfl ?_
 refine sp rfl (PE.build (out := [_, _]) pl61 zl61 rfl rfl) rfl ?_
 refine sto rfl rfl rfl cn61 rfl rfl rfl rfl ?_
 refine sy_ret ?_
 first
   | exact sy_return (vs := [_]) rfl (.cons (RV.cell rfl (lhA [_, _] ag61 rfl rfl rfl)) .nil) rfl ⟨rfl, rfl, rfl⟩ drp
   | (unfold missS; rw [e]; exact sy_return (vs := [_]) rfl (.cons (RV.cell rfl (lhA [_, _] ag61 rfl rfl rfl)) .nil) rfl ⟨rfl, rfl, rfl⟩ drp)
def MoreC (bef : List Grd) (ab : Option Addr) (cb p5 p4 p8 : Nat) (H : Heap) (R : Facts) (Fin : Box → Heap → Facts → Prop) (l : List Grd) : Prop :=
  ∀ (at_ : Nat), bef.drop at_ = l → at_ ≤ bef.length → ∀ b, Bok b → ∀ G, Fn Tryz.prog 131 [bxv b, .int .i64 at_, .pointer (some ⟨p5, 0, none⟩), .pointer (some ⟨p4, 0, none⟩), .pointer (some ⟨p8, 0, none⟩)] (G ++ H) R (MoreQ Fin G H R (srch l b))
theorem c_more_step (bef : List Grd) (ab : Option Addr) (cb p5 p4 p8 : Nat) (bl0 : Nat) (hbf : ∀ x ∈ bef, ∀ k < 4, 0 ≤ nn x.ns k ∧ nn x.ns k ≤ 40) (hlb : bef.length ≤ 1000) (H : Heap) (R : Facts) [hB : MemRows ab 5 (grows bef) R] [m5 : Mem1 p5 (cel 23 [.slice ab bef.length cb]) H] [m4 : Mem1 p4 (cel 178 [yv bl0]) H] [m8 : Mem1 p8 (cel 179 [(.func (.func 131) #[] #[.pointer (some ⟨p5, 0, none⟩), .pointer (some ⟨p4, 0, none⟩), .pointer (some ⟨p8, 0, none⟩)])]) H] (Fin : Box → Heap → Facts → Prop) (hy : ∀ (G : Heap) (x : Box), Tight x → Yd Tryz.prog bl0 [bxv x] (G ++ H) R (fun v H' R' => v = .bool false ∧ ∃ H2, H' = G ++ H2 ∧ Fin x H2 R')) (l : List Grd) (ih : ∀ x l2, l = x :: l2 → MoreC bef ab cb p5 p4 p8 H R Fin l2) :
    MoreC bef ab cb p5 p4 p8 H R Fin l := by
 intro at_ hl hat b hb G
 refine fn_of Tryz.func131 rfl Tryz.ntmps131 rfl ?_
 refine sy_seq ?_
 refine sy_tx' [0, 1] rfl ?_
 refine bx rfl rfl rfl (fun b5 => ?_)
 refine sp rfl (PE.assign rfl) rfl ?_
 refine sy_seq ?_
 refine sy_tx' [0, 1, 2, 3, 4, 5, 6] rfl ?_
 refine spL rfl rfl (lhA (ints b) ag128 rfl (rest := []) (by rw [List.append_nil]; rfl) (by rw [ints_length]; exact hb.len)) rfl ?_
 refine cl rfl cal115 rfl rfl (c_closed b hb _ _) ?_
 rintro _ _ R1 ⟨rfl, hR1, c, hcl, rfl, hcs⟩
 obtain rfl := hR1.symm
 clear hR1
 refine sp rfl (PE.move rfl) rfl ?_
 refine sp rfl (PE.extract rfl rfl) rfl ?_
 refine sp rfl (PE.extract rfl rfl) rfl ?_
 refine stoA rfl rfl rfl cn128 rfl (by rw [ints_length]; exact hcl) (by show (ints b).length = 8; rw [ints_length]; exact hb.len) (ints_one _) ?_
 refine sp rfl (PE.assign rfl) rfl ?_
 refine sy_seq ?_
 refine sy_seq ?_
 refine sy_tx' [0, 1] rfl ?_
 refine sp rfl (PE.move rfl) rfl ?_
 refine sp rfl (PE.not rfl) rfl ?_
 refine sy_cond rfl (fun hc0 => ?_) (fun hc0 => ?_)
 have hn : clo b = none := by simpa using hc0
 refine sy_seq ?_
 refine sy_tx' [0] rfl ?_
 refine sp rfl (PE.assign rfl) rfl ?_
 refine sy_ret ?_
 first
   | exact sy_return (vs := [_]) rfl (.cons (RV.tmp rfl) .nil) rfl (show MoreQ Fin G H R (srch l b) _ _ _ by rw [srch_no hn]; exact ⟨rfl, rfl, rfl⟩) drp
   | exact sy_return (vs := [_]) rfl (.cons (RV.tmp rfl) .nil) rfl (show MoreQ Fin G H R (srch (x :: l2) b) _ _ _ by rw [hsr]; exact ⟨rfl, rfl, rfl⟩) drp
   | exact sy_return (vs := [_]) rfl (.cons (RV.tmp rfl) .nil) rfl (show MoreQ Fin G H R (srch [] b) _ _ _ by rw [hsr]; exact ⟨rfl, H2, rfl, hfin⟩) drp
 have hs : (clo b).isSome = true := by simpa using hc0
 have hc := hcs hs
 have hct := (clo_some hb hc).1
 refine sy_skip ?_
 refine sy_seq ?_
 refine sy_seq ?_
 refine sy_tx' [0, 1, 2, 3] rfl ?_
 refine sp rfl (PE.move rfl) rfl ?_
 refine spL rfl rfl (lh sc23 rfl rfl) rfl ?_
 refine sp rfl (PE.lenSl isl23 rfl) rfl ?_
 refine sp rfl (PE.eql rfl rfl) rfl ?_
 refine sy_cond rfl (fun hc1 => ?_) (fun hc1 => ?_)
 try simp only [decide_eq_true_eq, decide_eq_false_iff_not, Bool.and_eq_true, Bool.or_eq_true, Bool.not_eq_true', Int.not_le, Int.not_lt] at hc1
 obtain rfl : l = [] := by rw [← hl]; exact List.drop_eq_nil_of_le (by omega)
 have hsr : srch [] b = some c := hc
 refine sy_seq ?_
 refine sy_tx' [0, 1, 2, 3] rfl ?_
 refine spL rfl rfl (lh sc178 rfl rfl) rfl ?_
 refine spL rfl rfl (lhA (ints c) ag128 rfl (rest := []) (by rw [List.append_nil]; rfl) (by rw [ints_length]; exact hcl)) rfl ?_
 refine clY rfl rfl rfl rfl (hy ((b5, cel 128 (ints c)) :: G) c hct) ?_
 rintro _ _ R2 ⟨rfl, H2, rfl, hfin⟩
 refine Sy.heap (H' := (b5, cel 128 (ints c)) :: (G ++ H2)) (fun _ h => h) ?_
 refine sp rfl (PE.assign rfl) rfl ?_
 refine sy_ret ?_
 first
   | exact sy_return (vs := [_]) rfl (.cons (RV.tmp rfl) .nil) rfl (show MoreQ Fin G H R (srch l b) _ _ _ by rw [srch_no hn]; exact ⟨rfl, rfl, rfl⟩) drp
   | exact sy_return (vs := [_]) rfl (.cons (RV.tmp rfl) .nil) rfl (show MoreQ Fin G H R (srch (x :: l2) b) _ _ _ by rw [hsr]; exact ⟨rfl, rfl, rfl⟩) drp
   | exact sy_return (vs := [_]) rfl (.cons (RV.tmp rfl) .nil) rfl (show MoreQ Fin G H R (srch [] b) _ _ _ by rw [hsr]; exact ⟨rfl, H2, rfl, hfin⟩) drp
 try simp only [decide_eq_true_eq, decide_eq_false_iff_not, Bool.and_eq_true, Bool.or_eq_true, Bool.not_eq_true', Int.not_le, Int.not_lt] at hc1
 obtain ⟨x, hx⟩ : ∃ x, bef[at_]? = some x := ⟨_, List.getElem?_eq_getElem (by omega)⟩
 obtain ⟨l2, rfl, hl2⟩ : ∃ l2, l = x :: l2 ∧ bef.drop (at_ + 1) = l2 := ⟨_, by rw [← hl]; exact drop_get hx, rfl⟩
 have hxb := hbf x (List.mem_of_getElem? hx)
 refine sy_addr (a := ab) (sz := 5) (rows := grows bef) (by intro h0; simp [grows] at h0; simp [h0] at hx) (fun ba oa he => ?_)
 subst he
 refine sy_skip ?_
 refine sy_seq ?_
 refine sy_seq ?_
 refine sy_tx' [0] rfl ?_
 refine sp rfl (PE.move rfl) rfl ?_
 refine sy_block ?_
 refine sy_loop (ι := {k : Nat // k ≤ 4 ∧ ∀ j < k, srch l2 (missB c x j) = none}) (fun k => ⟨[(1, .int .i64 at_), (2, .pointer (some ⟨p5, 0, none⟩)), (3, .pointer (some ⟨p4, 0, none⟩)), (4, .pointer (some ⟨p8, 0, none⟩)), (5, .pointer (some ⟨b5, 0, none⟩)), (25, .int .i64 k.1)], (b5, cel 128 (ints c)) :: (G ++ H), R⟩) (fun k => 4 - k.1) ⟨0, by omega, fun j hj => by omega⟩ ?_ (fun k => ?_)
 exact sy_at (by repeat' first | exact Sub.nil | apply Sub.cons | rfl | (simp [lk]; omega)) (fun _ h => h)
 obtain ⟨k, hk, hn⟩ := k
 dsimp only at hk hn ⊢
 refine sy_seq ?_
 refine sy_tx' [0] rfl ?_
 refine sp rfl (PE.lss rfl rfl) rfl ?_
 refine sy_seq ?_
 refine sy_cond rfl (fun hc2 => ?_) (fun hc2 => ?_)
 try simp only [decide_eq_true_eq, decide_eq_false_iff_not, Bool.and_eq_true, Bool.or_eq_true, Bool.not_eq_true', Int.not_le, Int.not_lt] at hc2
 have hk4 : k < 4 := by omega
 refine sy_skip ?_
 refine sy_seq ?_
 refine sy_block ?_
 refine sy_seq ?_
 refine sy_tx' [0, 1] rfl ?_
 refine sp rfl (PE.move rfl) rfl ?_
 refine sp rfl (PE.assign rfl) rfl ?_
 refine sy_seq ?_
 refine sy_tx' [0, 1, 2] rfl ?_
 refine spL rfl rfl (lhA (ints c) ag128 rfl (rest := []) (by rw [List.append_nil]; rfl) (by rw [ints_length]; exact hcl)) rfl ?_
 refine alc rfl zl128 rfl (fun b10 => ?_)
 refine stoA rfl rfl rfl cn128 rfl (by rw [ints_length]; exact hcl) rfl (ints_one _) ?_
 refine sy_seq ?_
 refine sy_draw [0, 0, 2, 6, 0, 0, 48, 112, 0, 496, 1022, 2047, 4095] (.tk 0 (.tk 1 (.tk 2 (.ld 3 (.ld 4 (.tk 5 (.tk 6 (.ld 7 (.tk 8 (.big 9 (.big 10 (.tk 11 (.big 12 .done))))))))))))) mixed (by kernel_rfl) ?_
 refine tk rfl (PE.move rfl) rfl ?_
 refine tk rfl (PE.move rfl) rfl ?_
 refine tk rfl (PE.indexArr ar128 rfl rfl (by omega) (by omega)) rfl ?_
 refine ld rfl rfl (lhA [.int .i64 (bl c k), .int .i64 (bh c k)] ag61 rfl (box_drop hcl hk4) rfl) rfl ?_
 refine ld rfl rfl (lh sc23 rfl rfl) rfl ?_
 refine tk rfl (PE.move rfl) rfl ?_
 refine tk rfl (PE.indexAddr el23 rfl rfl (by omega) (by omega)) rfl ?_
 refine ld rfl rfl (lfA ag36 (row := grow x) (gr_get (by simpa using hx)) rfl) rfl ?_
 refine tk rfl (PE.move rfl) rfl ?_
 refine clV rfl cal132 rfl rfl (c_misses x hxb k hk4 _ _) ?_
 refine bg (fun w hs => ⟨trivial, trivial, (lhA [.int .i64 (bl c k), .int .i64 (bh c k)] ag61 rfl (box_drop hcl hk4) rfl) w hs, trivial⟩) ?_
 refine clV rfl cal121 rfl rfl (c_met _ _ _ _ _ _) ?_
 refine bg (fun w hs => ⟨trivial, trivial⟩) ?_
 refine tk rfl (PE.indexArr ar128 rfl rfl (by omega) (by omega)) rfl ?_
 refine stoE (l' := ints (missB c x k)) rfl rfl rfl cn61 rfl rfl rfl (spl_box hcl hk4 _ _) (by rw [ints_length, hcl]; show 0 + ((k : Nat) : Int).toNat * 2 + 2 ≤ 8; omega) ?_
 have hmb := (missB_mx hct.ok x hk4).1
 refine bg (fun w hs => trivial) ?_
 refine sy_seq ?_
 refine sy_tx' [0, 1, 2, 3, 4, 5] rfl ?_
 refine spL rfl rfl (lh sc179 rfl rfl) rfl ?_
 refine spL rfl rfl (lhA (ints (missB c x k)) ag128 rfl (rest := []) (by rw [List.append_nil]; rfl) (by rw [ints_length]; exact hmb.len)) rfl ?_
 refine sp rfl (PE.move rfl) rfl ?_
 refine sp rfl (PE.add rfl rfl (by omega)) rfl ?_
 refine clF rfl rfl (cal131) rfl rfl (ih x l2 rfl (at_ + 1) hl2 (by omega) (missB c x k) hmb ((b10, cel 128 (ints (missB c x k))) :: (b5, cel 128 (ints c)) :: G)) ?_
 rintro v H2 R2 hQ
 rcases hsr : srch l2 (missB c x k) with _ | d
 rw [hsr] at hQ
 obtain ⟨rfl, rfl, hR2⟩ := hQ
 obtain rfl := hR2.symm
 clear hR2
 refine Sy.heap (H' := (b10, cel 128 (ints (missB c x k))) :: (b5, cel 128 (ints c)) :: (G ++ H)) (fun _ h => h) ?_
 refine sp rfl (PE.not rfl) rfl ?_
 refine sy_cond rfl (fun hc3 => ?_) (fun hc3 => ?_)
 exact absurd hc3 (by simp)
 refine sy_skip ?_
 refine sy_tx' [0, 1] rfl ?_
 refine sp rfl (PE.add rfl rfl (by omega)) rfl ?_
 refine sp rfl (PE.move rfl) rfl ?_
 exact sy_next ⟨k + 1, by omega, fun j hj => (Nat.lt_succ_iff_lt_or_eq.1 hj).elim (hn j) (fun e => by rw [e]; exact hsr)⟩ (by dsimp only; omega) (by repeat' first | exact Sub.nil | apply Sub.cons | rfl | (simp [lk]; omega)) (fun w h => h.del b10)
 rw [hsr] at hQ
 obtain ⟨rfl, H3, rfl, hfin⟩ := hQ
 refine Sy.heap (H' := (b10, cel 128 (ints (missB c x k))) :: (b5, cel 128 (ints c)) :: (G ++ H3)) (fun _ h => h) ?_
 have hsr2 := srch_hit hc hk4 hn hsr
 refine sp rfl (PE.not rfl) rfl ?_
 refine sy_cond rfl (fun hc3 => ?_) (fun hc3 => ?_)
 refine sy_seq ?_
 refine sy_tx' [0] rfl ?_
 refine sp rfl (PE.assign rfl) rfl ?_
 refine sy_ret ?_
 exact sy_return (vs := [_]) rfl (.cons (RV.tmp rfl) .nil) rfl (show MoreQ Fin G H R (srch (x :: l2) b) _ _ _ by rw [hsr2]; exact ⟨rfl, H3, rfl, hfin⟩) drp
 exact absurd hc3 (by simp)
 try simp only [decide_eq_true_eq, decide_eq_false_iff_not, Bool.and_eq_true, Bool.or_eq_true, Bool.not_eq_true', Int.not_le, Int.not_lt] at hc2
 obtain rfl : k = 4 := by omega
 have hsr := srch_all hc hn
 refine sy_exit ?_
 repeat refine sy_tx ?_
 refine sy_bx ?_
 refine sy_seq ?_
 refine sy_tx' [0] rfl ?_
 refine sp rfl (PE.assign rfl) rfl ?_
 refine sy_ret ?_
 first
   | exact sy_return (vs := [_]) rfl (.cons (RV.tmp rfl) .nil) rfl (show MoreQ Fin G H R (srch l b) _ _ _ by rw [srch_no hn]; exact ⟨rfl, rfl, rfl⟩) drp
   | exact sy_return (vs := [_]) rfl (.cons (RV.tmp rfl) .nil) rfl (show MoreQ Fin G H R (srch (x :: l2) b) _ _ _ by rw [hsr]; exact ⟨rfl, rfl, rfl⟩) drp
   | exact sy_return (vs := [_]) rfl (.cons (RV.tmp rfl) .nil) rfl (show MoreQ Fin G H R (srch [] b) _ _ _ by rw [hsr]; exact ⟨rfl, H2, rfl, hfin⟩) drp
theorem c_more (bef : List Grd) (ab : Option Addr) (cb p5 p4 p8 : Nat) (bl0 : Nat) (hbf : ∀ x ∈ bef, ∀ k < 4, 0 ≤ nn x.ns k ∧ nn x.ns k ≤ 40) (hlb : bef.length ≤ 1000) (H : Heap) (R : Facts) [hB : MemRows ab 5 (grows bef) R] [m5 : Mem1 p5 (cel 23 [.slice ab bef.length cb]) H] [m4 : Mem1 p4 (cel 178 [yv bl0]) H] [m8 : Mem1 p8 (cel 179 [(.func (.func 131) #[] #[.pointer (some ⟨p5, 0, none⟩), .pointer (some ⟨p4, 0, none⟩), .pointer (some ⟨p8, 0, none⟩)])]) H] (Fin : Box → Heap → Facts → Prop) (hy : ∀ (G : Heap) (x : Box), Tight x → Yd Tryz.prog bl0 [bxv x] (G ++ H) R (fun v H' R' => v = .bool false ∧ ∃ H2, H' = G ++ H2 ∧ Fin x H2 R')) : ∀ l, MoreC bef ab cb p5 p4 p8 H R Fin l
  | [] => c_more_step bef ab cb p5 p4 p8 bl0 hbf hlb H R Fin hy [] (fun _ _ h => by cases h)
  | x :: l => c_more_step bef ab cb p5 p4 p8 bl0 hbf hlb H R Fin hy (x :: l) (fun y l2 h => by
      obtain ⟨rfl, rfl⟩ := List.cons.inj h
      exact c_more bef ab cb p5 p4 p8 bl0 hbf hlb H R Fin hy l)
end Go.Proofs.YtndhkpnaeocnhaaGreat
namespace Go.Proofs.YtndhkpnaeocnhaaGreat
set_option linter.unusedSimpArgs false
set_option linter.unusedVariables false
open Go
theorem cal122 : cal Tryz.prog 122 = true := by kernel_rfl
theorem cal126 : cal Tryz.prog 126 = true := by kernel_rfl
theorem cal130 : cal Tryz.prog 130 = true := by kernel_rfl
theorem cn161 : cellN Tryz.prog 161 = some 1 := by kernel_rfl
theorem cn179 : cellN Tryz.prog 179 = some 1 := by kernel_rfl
theorem cn23 : cellN Tryz.prog 23 = some 1 := by kernel_rfl
theorem eqf3 : eqB Tryz.prog 10000 3 = some (false, 1) := by kernel_rfl
theorem mke161 : mapKE Tryz.prog 161 = some (3, 31) := by kernel_rfl
theorem noa3 : noArr Tryz.prog 10000 3 = true := by kernel_rfl
theorem sc161 : scal Tryz.prog 161 = true := by kernel_rfl
theorem sl23 : slE Tryz.prog 23 = some (36, 5) := by kernel_rfl
theorem zl161 : zeroL Tryz.prog 161 = some ([.map none]) := by kernel_rfl
theorem zl179 : zeroL Tryz.prog 179 = some ([.nilFunc]) := by kernel_rfl
theorem zl23 : zeroL Tryz.prog 23 = some ([.slice none 0 0]) := by kernel_rfl
theorem Fn.heapP {P : Program} {f : FuncId} {a : List Value} {H H' : Heap} {R : Facts} {Q : Value → Heap → Facts → Prop} (p : H.Perm H') (h : Fn P f a H' R Q) : Fn P f a H R Q := fun w hs => h w (hs.perm p)
theorem Yd.ftail {P : Program} {l : Nat} {a : List Value} {H : Heap} {R : Facts} {f : World → Prop} {Q : Value → Heap → Facts → Prop} (h : Yd P l a H R Q) : Yd P l a H (f :: R) Q := fun w hs => h w hs.ftail
def BoxQ (Fin : Box → Heap → Facts → Prop) (q3 : Nat) (H : Heap) (R : Facts) : Option Box → Heap → Facts → Prop
  | none, H', R' => ∃ b' : Box, H' = (q3, cel 128 (ints b')) :: H ∧ R' = R
  | some x, H', R' => ∃ G H2, H' = G ++ H2 ∧ Fin x H2 R'
theorem grows_take (l : List Grd) (i : Nat) : (grows l).take i = grows (l.take i) := (List.map_take).symm
def GrR (g : Gat) (gr : Int) : Prop := gr = -1 ∨ ∃ i x, g.grs[i]? = some x ∧ gr = (i : Nat)
theorem shw_all (l : List Grd) (b : Box) : shwB l b (-1) = srch (l.take l.length) b := by rw [List.take_length]; rfl
theorem shw_at {l : List Grd} (b : Box) {i : Nat} {x : Grd} (hx : l[i]? = some x) : shwB l b (i : Nat) = srch (l.take i) (keepB b x) := by
  unfold shwB
  rw [decide_eq_false (by omega), Int.toNat_natCast, hx]; rfl
def mxv (b : Box) : Value := .agg (ints (mixt b)).toArray
structure KOk (l : List Grd) (b : Box) (k : Nat) (kv : KV) : Prop where
  one : ∀ e ∈ kv, e.1.length = 1
  at_ : ∀ j : Int, kv.get [j] = bif decide (-1 ≤ j) && decide (j < (k : Int) - 1) then (shwB l b j).map mxv else none
theorem KOk.nil (l : List Grd) (b : Box) : KOk l b 0 [] := ⟨by simp, fun j => by
  have : (decide (-1 ≤ j) && decide (j < ((0 : Nat) : Int) - 1)) = false := by rw [← Bool.decide_and]; exact decide_eq_false (by omega)
  rw [this]; rfl⟩
theorem KOk.skip {l : List Grd} {b : Box} {k : Nat} {kv : KV} (h : KOk l b k kv) (hn : shwB l b ((k : Int) - 1) = none) : KOk l b (k + 1) kv := ⟨h.one, fun j => by
  rw [h.at_ j]
  by_cases hj : j = (k : Int) - 1
  · subst hj
    have e1 : (decide (-1 ≤ (k : Int) - 1) && decide ((k : Int) - 1 < (k : Int) - 1)) = false := by rw [← Bool.decide_and]; exact decide_eq_false (by omega)
    rw [e1, hn]; cases decide (-1 ≤ (k : Int) - 1) && decide ((k : Int) - 1 < ((k + 1 : Nat) : Int) - 1) <;> rfl
  · have e1 : (decide (-1 ≤ j) && decide (j < (k : Int) - 1)) = (decide (-1 ≤ j) && decide (j < ((k + 1 : Nat) : Int) - 1)) := by
      rw [← Bool.decide_and, ← Bool.decide_and]; exact decide_eq_decide.2 (by omega)
    rw [e1]⟩
theorem KOk.put {l : List Grd} {b x : Box} {k : Nat} {kv : KV} (h : KOk l b k kv) (hn : shwB l b ((k : Int) - 1) = some x) : KOk l b (k + 1) (kv.put [(k : Int) - 1] (mxv x)) := ⟨fun e he => by
  rcases KV.put_mem he with rfl | he
  · rfl
  · exact h.one e he, fun j => by
  rw [KV.get_put]
  by_cases hj : (k : Int) - 1 = j
  · subst hj
    have e1 : (decide (-1 ≤ (k : Int) - 1) && decide ((k : Int) - 1 < ((k + 1 : Nat) : Int) - 1)) = true := by rw [← Bool.decide_and]; exact decide_eq_true (by omega)
    rw [e1, hn]; simp
  · have e0 : decide (([(k : Int) - 1] : List Int) = [j]) = false := by simpa using hj
    have e1 : (decide (-1 ≤ j) && decide (j < (k : Int) - 1)) = (decide (-1 ≤ j) && decide (j < ((k + 1 : Nat) : Int) - 1)) := by
      rw [← Bool.decide_and, ← Bool.decide_and]; exact decide_eq_decide.2 (by omega)
    rw [e0, h.at_ j, e1]; rfl⟩
structure ShI (l : List Grd) (b : Box) where
  k : Nat
  ms : List Nat
  b6 : Nat
  kv : KV
  hk : k ≤ l.length + 1
  h : KOk l b k kv
theorem c_boxes1 (g : Gat) (hg : g.ok) (ag : Option Addr) (cg : Nat) (hcg : g.grs.length ≤ cg) (gr : Int) (hgr : GrR g gr) (b : Box) (hb : Bok b) (q1 q2 q3 bl0 : Nat) (H : Heap) (R : Facts) [hG : MemRows ag 5 (grows g.grs) R] [m1 : Mem1 q1 (cel 25 (gtl g (g.sl ag cg))) H] [m2 : Mem1 q2 (cel 3 [.int .i64 gr]) H] (Fin : Box → Heap → Facts → Prop) (hy : ∀ (G : Heap) (x : Box), Tight x → Yd Tryz.prog bl0 [bxv x] (G ++ H) R (fun v H' R' => v = .bool false ∧ ∃ H2, H' = G ++ H2 ∧ Fin x H2 R')) :
    Fn Tryz.prog 130 [yv bl0, .pointer (some ⟨q1, 0, none⟩), .pointer (some ⟨q2, 0, none⟩), .pointer (some ⟨q3, 0, none⟩)] ((q3, cel 128 (ints b)) :: H) R (fun v H' R' => BoxQ Fin q3 H R (shwB g.grs b gr) H' R') := by
 refine fn_of Tryz.func130 rfl Tryz.ntmps130 rfl ?_
 refine sy_seq ?_
 refine sy_tx' [0] rfl ?_
 refine bx rfl rfl rfl (fun b4 => ?_)
 refine sy_seq ?_
 refine sy_tx' [0, 1, 2, 3] rfl ?_
 refine sp rfl (PE.fieldAddr fo25_2 rfl) rfl ?_
 refine spL rfl rfl (lh sc23 rfl rfl) rfl ?_
 refine alc rfl zl23 rfl (fun b5 => ?_)
 refine sto rfl rfl rfl cn23 rfl rfl rfl rfl ?_
 refine sy_seq ?_
 refine sy_seq ?_
 refine sy_tx' [0, 1] rfl ?_
 refine spL rfl rfl (lh sc3 rfl rfl) rfl ?_
 refine sp rfl (PE.neq rfl rfl) rfl ?_
 refine sy_cond rfl (fun hc0 => ?_) (fun hc0 => ?_)
 try simp only [decide_eq_true_eq, decide_eq_false_iff_not, Bool.and_eq_true, Bool.or_eq_true, Bool.not_eq_true', Int.not_le, Int.not_lt] at hc0
 obtain ⟨i, x, hx, rfl⟩ : ∃ i x, g.grs[i]? = some x ∧ gr = (i : Nat) := hgr.resolve_left hc0
 have hi := (List.getElem?_eq_some_iff.1 hx).1
 have hmany := hg.many
 refine sy_addr (a := ag) (sz := 5) (rows := grows g.grs) (by intro h0; simp [grows] at h0; simp [h0] at hx) (fun ba oa he => ?_)
 subst he
 refine sy_seq ?_
 refine sy_tx' [0, 1, 2, 3, 4] rfl ?_
 refine sp rfl (PE.fieldAddr fo25_2 rfl) rfl ?_
 refine spL rfl rfl (lh sc23 rfl rfl) rfl ?_
 refine spL rfl rfl (lh sc3 rfl rfl) rfl ?_
 refine sp rfl (PE.slHi sl23 rfl rfl (by omega)) rfl ?_
 refine sto rfl rfl rfl cn23 rfl rfl rfl rfl ?_
 refine sy_seq ?_
 refine sy_tx' [0, 1, 2, 3, 4, 5, 6] rfl ?_
 refine sp rfl (PE.fieldAddr fo25_2 rfl) rfl ?_
 refine spL rfl rfl (lh sc23 rfl rfl) rfl ?_
 refine spL rfl rfl (lh sc3 rfl rfl) rfl ?_
 refine sp rfl (PE.indexAddr el23 rfl rfl (by omega) (by omega)) rfl ?_
 refine spL rfl rfl (lfA ag36 (row := grow x) (gr_get (by simpa using hx)) rfl) rfl ?_
 refine clV rfl cal122 rfl rfl (c_keeps x _ _) ?_
 refine sp rfl (PE.move rfl) rfl ?_
 refine sy_block ?_
 refine sy_loop (ι := {k : Nat // k ≤ 4}) (fun k => ⟨[(1, .pointer (some ⟨q1, 0, none⟩)), (2, .pointer (some ⟨q2, 0, none⟩)), (3, .pointer (some ⟨q3, 0, none⟩)), (4, .pointer (some ⟨b4, 0, none⟩)), (5, .pointer (some ⟨b5, 0, none⟩)), (22, bxv (kpL x)), (23, .int .i64 k.1)], (b5, cel 23 [.slice (some ⟨ba, oa, none⟩) i cg]) :: (b4, cel 178 [yv bl0]) :: (q3, cel 128 (ints (keepN b x k.1))) :: H, R⟩) (fun k => 4 - k.1) ⟨0, by omega⟩ ?_ (fun k => ?_)
 exact sy_at (by repeat' first | exact Sub.nil | apply Sub.cons | rfl | (simp [lk]; omega)) (fun _ h => h)
 obtain ⟨k, hk⟩ := k
 dsimp only at hk ⊢
 have hkb := (keepN_ok hb x k hk).1
 refine sy_seq ?_
 refine sy_tx' [0] rfl ?_
 refine sp rfl (PE.lss rfl rfl) rfl ?_
 refine sy_seq ?_
 refine sy_cond rfl (fun hc1 => ?_) (fun hc1 => ?_)
 try simp only [decide_eq_true_eq, decide_eq_false_iff_not, Bool.and_eq_true, Bool.or_eq_true, Bool.not_eq_true', Int.not_le, Int.not_lt] at hc1
 have hk4 : k < 4 := by omega
 obtain ⟨e1, e2⟩ := kpL_at x hk4
 refine sy_skip ?_
 refine sy_seq ?_
 refine sy_block ?_
 refine sy_seq ?_
 refine sy_tx' [0, 1, 2, 3, 4] rfl ?_
 refine sp rfl (PE.move rfl) rfl ?_
 refine sp rfl ((PE.indexI (l := kpL x) are128 (eqB_ok 10000 61 true 2 eqf61) (by simp) rfl rfl hk4 (by show k * 2 + 2 ≤ 8; omega)).to (by rw [box_part rfl hk4, e1, e2])) rfl ?_
 refine alc rfl zl61 rfl (fun b7 => ?_)
 refine sp rfl (PE.assign rfl) rfl ?_
 refine sto rfl rfl rfl cn61 rfl rfl rfl rfl ?_
 refine sy_draw [0, 0, 2, 6, 0, 30, 63, 127] (.tk 0 (.tk 1 (.tk 2 (.ld 3 (.ld 4 (.big 5 (.tk 6 (.big 7 .done)))))))) mixed (by kernel_rfl) ?_
 refine tk rfl (PE.move rfl) rfl ?_
 refine tk rfl (PE.move rfl) rfl ?_
 refine tk rfl (PE.indexArr ar128 rfl rfl (by omega) (by omega)) rfl ?_
 refine ld rfl rfl (lhA [.int .i64 (bl (keepN b x k) k), .int .i64 (bh (keepN b x k) k)] ag61 rfl (box_drop hkb.len hk4) rfl) rfl ?_
 refine ld rfl rfl (lhA [.int .i64 (x.lo k), .int .i64 (x.hi k)] ag61 rfl rfl rfl) rfl ?_
 refine clV rfl cal121 rfl rfl (c_met _ _ _ _ _ _) ?_
 refine bg (fun w hs => ⟨trivial, trivial, trivial⟩) ?_
 refine tk rfl (PE.indexArr ar128 rfl rfl (by omega) (by omega)) rfl ?_
 refine stoE (l' := ints (keepN b x (k + 1))) rfl rfl rfl cn61 rfl rfl rfl (spl_box hkb.len hk4 _ _) (by rw [ints_length, hkb.len]; show 0 + ((k : Nat) : Int).toNat * 2 + 2 ≤ 8; omega) ?_
 refine bg (fun w hs => trivial) ?_
 refine sy_tx' [0, 1] rfl ?_
 refine sp rfl (PE.add rfl rfl (by omega)) rfl ?_
 refine sp rfl (PE.move rfl) rfl ?_
 exact sy_next ⟨k + 1, by omega⟩ (by dsimp only; omega) (by repeat' first | exact Sub.nil | apply Sub.cons | rfl | (simp [lk]; omega)) (fun w h => h.del b7)
 try simp only [decide_eq_true_eq, decide_eq_false_iff_not, Bool.and_eq_true, Bool.or_eq_true, Bool.not_eq_true', Int.not_le, Int.not_lt] at hc1
 obtain rfl : k = 4 := by omega
 have hsh := shw_at b hx
 obtain ⟨bb, hbb⟩ : ∃ bb, bb = keepB b x := ⟨_, rfl⟩
 have hbk : Bok bb := by rw [hbb]; exact hkb
 rw [← hbb] at hsh
 rw [show keepN b x 4 = bb from hbb.symm, show Value.slice (some ⟨ba, oa, none⟩) i cg = .slice (some ⟨ba, oa, none⟩) (g.grs.take i).length cg from by rw [List.length_take]; congr 1; omega]
 refine sy_exit ?_
 repeat refine sy_tx ?_
 refine sy_bx ?_
 refine sy_seq ?_
 refine sy_tx' [0] rfl ?_
 refine alc rfl zl179 rfl (fun b8 => ?_)
 refine sy_seq ?_
 refine sy_tx' [0, 1] rfl ?_
 refine sp rfl (PE.makeFunc rfl rfl) rfl ?_
 refine sto rfl rfl rfl cn179 rfl rfl rfl rfl ?_
 refine sy_tx' [0, 1, 2] rfl ?_
 refine Sy.heap (fun w h => (grows_take g.grs i ▸ St.rowsTake (a := (some ⟨ba, oa, none⟩)) (sz := 5) (rows := grows g.grs) h i)) ?_
 have hbf : ∀ x ∈ g.grs.take i, ∀ k < 4, 0 ≤ nn x.ns k ∧ nn x.ns k ≤ 40 := fun x hx => (hg.grs x (List.mem_of_mem_take hx)).2
 refine spL rfl rfl (lh sc179 rfl rfl) rfl ?_
 refine spL rfl rfl (lhA (ints bb) ag128 rfl (rest := []) (by rw [List.append_nil]; rfl) (by rw [ints_length]; exact hbk.len)) rfl ?_
 refine clF rfl rfl (cal131) rfl rfl ((c_more (g.grs.take i) (some ⟨ba, oa, none⟩) cg b5 b4 b8 bl0 hbf (by rw [List.length_take]; omega) ((b8, cel 179 [.func (.func 131) #[] #[.pointer (some ⟨b5, 0, none⟩), .pointer (some ⟨b4, 0, none⟩), .pointer (some ⟨b8, 0, none⟩)]]) :: (b5, cel 23 [.slice (some ⟨ba, oa, none⟩) (g.grs.take i).length cg]) :: (b4, cel 178 [yv bl0]) :: (q3, cel 128 (ints bb)) :: H) _ (fun x H' R' => ∃ H2, H' = [(b8, cel 179 [.func (.func 131) #[] #[.pointer (some ⟨b5, 0, none⟩), .pointer (some ⟨b4, 0, none⟩), .pointer (some ⟨b8, 0, none⟩)]]), (b5, cel 23 [.slice (some ⟨ba, oa, none⟩) (g.grs.take i).length cg]), (b4, cel 178 [yv bl0]), (q3, cel 128 (ints bb))] ++ H2 ∧ Fin x H2 R')
     (fun G x hx => Yd.mono (Yd.app (G2 := [(b8, cel 179 [.func (.func 131) #[] #[.pointer (some ⟨b5, 0, none⟩), .pointer (some ⟨b4, 0, none⟩), .pointer (some ⟨b8, 0, none⟩)]]), (b5, cel 23 [.slice (some ⟨ba, oa, none⟩) (g.grs.take i).length cg]), (b4, cel 178 [yv bl0]), (q3, cel 128 (ints bb))]) (hy (G ++ [(b8, cel 179 [.func (.func 131) #[] #[.pointer (some ⟨b5, 0, none⟩), .pointer (some ⟨b4, 0, none⟩), .pointer (some ⟨b8, 0, none⟩)]]), (b5, cel 23 [.slice (some ⟨ba, oa, none⟩) (g.grs.take i).length cg]), (b4, cel 178 [yv bl0]), (q3, cel 128 (ints bb))]) x hx).ftail) (fun v H' R' h => by
       obtain ⟨h1, H2, h2, h3⟩ := h
       exact ⟨h1, [(b8, cel 179 [.func (.func 131) #[] #[.pointer (some ⟨b5, 0, none⟩), .pointer (some ⟨b4, 0, none⟩), .pointer (some ⟨b8, 0, none⟩)]]), (b5, cel 23 [.slice (some ⟨ba, oa, none⟩) (g.grs.take i).length cg]), (b4, cel 178 [yv bl0]), (q3, cel 128 (ints bb))] ++ H2, by rw [h2, List.append_assoc], H2, rfl, h3⟩)) (g.grs.take i)) 0 rfl (by omega) bb hbk []) ?_
 rintro v H2 R2 hQ
 rw [hsh]
 rcases hsr : srch (g.grs.take i) bb with _ | x
 · rw [hsr] at hQ
   obtain ⟨rfl, rfl, hR2⟩ := hQ
   obtain rfl := hR2.symm
   exact sy_fall (vs := []) rfl .nil rfl ⟨bb, rfl, rfl⟩ (fun w h => ((((h.del b8).del b5).del b4)).ftail)
 · rw [hsr] at hQ
   obtain ⟨rfl, H3, rfl, H4, rfl, hfin⟩ := hQ
   exact sy_fall (vs := []) rfl .nil rfl ⟨_, _, rfl, hfin⟩ (fun _ h => h)
 try simp only [decide_eq_true_eq, decide_eq_false_iff_not, Bool.and_eq_true, Bool.or_eq_true, Bool.not_eq_true', Int.not_le, Int.not_lt] at hc0
 obtain rfl : gr = -1 := by omega
 have hmany := hg.many
 obtain ⟨i, hi2⟩ : ∃ i, i = g.grs.length := ⟨_, rfl⟩
 have hsh : shwB g.grs b (-1) = srch (g.grs.take i) b := by rw [hi2]; exact shw_all _ _
 obtain ⟨bb, hbb⟩ : ∃ bb, bb = b := ⟨_, rfl⟩
 have hbk : Bok bb := by rw [hbb]; exact hb
 subst hbb
 rw [show (g.sl ag cg) = .slice ag (g.grs.take i).length cg from by unfold Gat.sl; rw [List.length_take]; congr 1; omega]
 refine sy_skip ?_
 refine sy_seq ?_
 refine sy_tx' [0] rfl ?_
 refine alc rfl zl179 rfl (fun b8 => ?_)
 refine sy_seq ?_
 refine sy_tx' [0, 1] rfl ?_
 refine sp rfl (PE.makeFunc rfl rfl) rfl ?_
 refine sto rfl rfl rfl cn179 rfl rfl rfl rfl ?_
 refine sy_tx' [0, 1, 2] rfl ?_
 refine Sy.heap (fun w h => (grows_take g.grs i ▸ St.rowsTake (a := ag) (sz := 5) (rows := grows g.grs) h i)) ?_
 have hbf : ∀ x ∈ g.grs.take i, ∀ k < 4, 0 ≤ nn x.ns k ∧ nn x.ns k ≤ 40 := fun x hx => (hg.grs x (List.mem_of_mem_take hx)).2
 refine spL rfl rfl (lh sc179 rfl rfl) rfl ?_
 refine spL rfl rfl (lhA (ints bb) ag128 rfl (rest := []) (by rw [List.append_nil]; rfl) (by rw [ints_length]; exact hbk.len)) rfl ?_
 refine clF rfl rfl (cal131) rfl rfl ((c_more (g.grs.take i) ag cg b5 b4 b8 bl0 hbf (by rw [List.length_take]; omega) ((b8, cel 179 [.func (.func 131) #[] #[.pointer (some ⟨b5, 0, none⟩), .pointer (some ⟨b4, 0, none⟩), .pointer (some ⟨b8, 0, none⟩)]]) :: (b5, cel 23 [.slice ag (g.grs.take i).length cg]) :: (b4, cel 178 [yv bl0]) :: (q3, cel 128 (ints bb)) :: H) _ (fun x H' R' => ∃ H2, H' = [(b8, cel 179 [.func (.func 131) #[] #[.pointer (some ⟨b5, 0, none⟩), .pointer (some ⟨b4, 0, none⟩), .pointer (some ⟨b8, 0, none⟩)]]), (b5, cel 23 [.slice ag (g.grs.take i).length cg]), (b4, cel 178 [yv bl0]), (q3, cel 128 (ints bb))] ++ H2 ∧ Fin x H2 R')
     (fun G x hx => Yd.mono (Yd.app (G2 := [(b8, cel 179 [.func (.func 131) #[] #[.pointer (some ⟨b5, 0, none⟩), .pointer (some ⟨b4, 0, none⟩), .pointer (some ⟨b8, 0, none⟩)]]), (b5, cel 23 [.slice ag (g.grs.take i).length cg]), (b4, cel 178 [yv bl0]), (q3, cel 128 (ints bb))]) (hy (G ++ [(b8, cel 179 [.func (.func 131) #[] #[.pointer (some ⟨b5, 0, none⟩), .pointer (some ⟨b4, 0, none⟩), .pointer (some ⟨b8, 0, none⟩)]]), (b5, cel 23 [.slice ag (g.grs.take i).length cg]), (b4, cel 178 [yv bl0]), (q3, cel 128 (ints bb))]) x hx).ftail) (fun v H' R' h => by
       obtain ⟨h1, H2, h2, h3⟩ := h
       exact ⟨h1, [(b8, cel 179 [.func (.func 131) #[] #[.pointer (some ⟨b5, 0, none⟩), .pointer (some ⟨b4, 0, none⟩), .pointer (some ⟨b8, 0, none⟩)]]), (b5, cel 23 [.slice ag (g.grs.take i).length cg]), (b4, cel 178 [yv bl0]), (q3, cel 128 (ints bb))] ++ H2, by rw [h2, List.append_assoc], H2, rfl, h3⟩)) (g.grs.take i)) 0 rfl (by omega) bb hbk []) ?_
 rintro v H2 R2 hQ
 rw [hsh]
 rcases hsr : srch (g.grs.take i) bb with _ | x
 · rw [hsr] at hQ
   obtain ⟨rfl, rfl, hR2⟩ := hQ
   obtain rfl := hR2.symm
   exact sy_fall (vs := []) rfl .nil rfl ⟨bb, rfl, rfl⟩ (fun w h => ((((h.del b8).del b5).del b4)).ftail)
 · rw [hsr] at hQ
   obtain ⟨rfl, H3, rfl, H4, rfl, hfin⟩ := hQ
   exact sy_fall (vs := []) rfl .nil rfl ⟨_, _, rfl, hfin⟩ (fun _ h => h)
theorem c_boxes (g : Gat) (ag : Option Addr) (cg : Nat)  (b : Box) (gr : Int) (H : Heap) (R : Facts) :
    Fn Tryz.prog 126 [g.v (g.sl ag cg), bxv b, .int .i64 gr] H R (fun v H' R' => ∃ q1 q2 q3, v = .func (.func 130) #[] #[.pointer (some ⟨q1, 0, none⟩), .pointer (some ⟨q2, 0, none⟩), .pointer (some ⟨q3, 0, none⟩)] ∧ H' = (q3, cel 128 (ints b)) :: (q2, cel 3 [.int .i64 (gr)]) :: (q1, cel 25 (gtl g (g.sl ag cg))) :: H ∧ R' = R) := by
 refine fn_of Tryz.func126 rfl Tryz.ntmps126 rfl ?_
 refine sy_seq ?_
 refine sy_tx' [0, 1, 2, 3] rfl ?_
 refine bx rfl rfl rfl (fun b3 => ?_)
 refine bx rfl rfl rfl (fun b4 => ?_)
 refine bx rfl rfl rfl (fun b5 => ?_)
 refine sp rfl (PE.assign rfl) rfl ?_
 refine sy_seq ?_
 refine sy_tx' [0, 1] rfl ?_
 refine sp rfl (PE.makeFunc rfl rfl) rfl ?_
 refine sp rfl (PE.assign rfl) rfl ?_
 refine sy_ret ?_
 exact sy_return (vs := [_]) rfl (.cons (RV.tmp rfl) .nil) rfl ⟨b3, b5, b4, rfl, rfl, rfl⟩ (fun _ h => St.sub (((h.pull b3).pull b5).pull b4))
theorem c_shown (g : Gat) (hg : g.ok) (ag : Option Addr) (cg : Nat) (c : Crt) (hc : c.ok) (ah : Option Addr) (ch : Nat) (bw : Nat) (hcg : g.grs.length ≤ cg) (b : Box) (hb : Tight b) (H : Heap) (R : Facts) [hW : MemRows (some ⟨bw, 0, none⟩) 6 [wrow g c (g.sl ag cg) (c.sl ah ch)] R] [hG : MemRows ag 5 (grows g.grs) R] [hA : MemRows ah 5 (hrows c.hs) R] :
    Fn Tryz.prog 111 [.pointer (some ⟨bw, 0, none⟩), bxv b] H R (fun v H' R' => ∃ m kv, v = .map (some m) ∧ KOk g.grs b (g.grs.length + 1) kv ∧ H' = (m, mapO false kv) :: H ∧ R' = R) := by
 refine fnM_of Tryz.func111 rfl Tryz.ntmps111 rfl ?_
 refine sy_seq ?_
 refine sy_tx' [0, 1] rfl ?_
 refine bx rfl rfl rfl (fun b3 => ?_)
 refine sp rfl (PE.assign rfl) rfl ?_
 refine sy_seq ?_
 refine sy_tx' [0, 1, 2] rfl ?_
 refine mkm rfl rfl false (fun m => ?_)
 refine alc rfl zl161 rfl (fun b5 => ?_)
 refine sto rfl rfl rfl cn161 rfl rfl rfl rfl ?_
 refine sy_seq ?_
 refine sy_seq ?_
 refine sy_tx' [0, 1] rfl ?_
 refine alc rfl zl3 rfl (fun b6 => ?_)
 refine sto rfl rfl rfl cn3 rfl rfl rfl rfl ?_
 refine sy_block ?_
 refine sy_loopD (ι := ShI g.grs b) (fun x => ⟨[(0, .pointer (some ⟨bw, 0, none⟩)), (3, .pointer (some ⟨b3, 0, none⟩)), (5, .pointer (some ⟨b5, 0, none⟩)), (6, .pointer (some ⟨x.b6, 0, none⟩))], mks x.ms, mkh x.ms ++ (x.b6, cel 3 [.int .i64 ((x.k : Int) - 1)]) :: (b5, cel 161 [.map (some m)]) :: (m, mapO false x.kv) :: (b3, cel 128 (ints b)) :: H, R⟩) (fun x => g.grs.length + 1 - x.k) ⟨0, [], b6, [], by omega, KOk.nil _ _⟩ ?_ (fun x => ?_)
 exact sy_atD (by repeat' first | exact Sub.nil | apply Sub.cons | rfl | (simp [lk]; omega)) rfl (fun w h => h)
 ·
  obtain ⟨k, ms, b6, kv, hk, hkv⟩ := x
  dsimp only at hk hkv ⊢
  have hmany := hg.many
  have hbl := hb.ok.len
  refine sy_seq ?_
  refine sy_seq ?_
  refine sy_draw [0, 0, 2, 6, 14, 30, 62, 127] (.ld 0 (.tk 1 (.tk 2 (.tk 3 (.tk 4 (.ld 5 (.tk 6 (.tk 7 .done)))))))) mixed (by kernel_rfl) ?_
  refine ld rfl rfl (lh sc3 rfl rfl) rfl ?_
  refine tk rfl (PE.move rfl) rfl ?_
  refine tk rfl (PE.nilCheck rfl) rfl ?_
  refine tk rfl (PE.fieldAddr fo148_1 rfl) rfl ?_
  refine tk rfl (PE.fieldAddr fo25_2 rfl) rfl ?_
  refine ld rfl rfl (lfB (sz := 6) sc23 rfl) rfl ?_
  refine tk rfl (PE.lenSl isl23 rfl) rfl ?_
  refine tk rfl (PE.lss rfl rfl) rfl ?_
  refine sy_cond rfl (fun hc0 => ?_) (fun hc0 => ?_)
  ·
   try simp only [decide_eq_true_eq, decide_eq_false_iff_not, Bool.and_eq_true, Bool.or_eq_true, Bool.not_eq_true', Int.not_le, Int.not_lt] at hc0
   have hgr : GrR g ((k : Int) - 1) := by
     rcases Nat.eq_zero_or_pos k with h0 | h0
     · left; omega
     · right; exact ⟨k - 1, _, List.getElem?_eq_getElem (by omega), by omega⟩
   refine sy_skip ?_
   refine sy_seq ?_
   refine sy_block ?_
   refine sy_seq ?_
   refine sy_draw [0, 1, 3, 7, 0, 0, 63] (.tk 0 (.tk 1 (.tk 2 (.ld 3 (.ld 4 (.ld 5 (.big 6 .done))))))) mixed (by kernel_rfl) ?_
   refine tk rfl (PE.move rfl) rfl ?_
   refine tk rfl (PE.nilCheck rfl) rfl ?_
   refine tk rfl (PE.fieldAddr fo148_1 rfl) rfl ?_
   refine ld rfl rfl (lfBA (sz := 6) [_, _, _] ag25 rfl rfl) rfl ?_
   refine ld rfl rfl (lhA (ints b) ag128 rfl (rest := []) (by rw [List.append_nil]; rfl) (by rw [ints_length]; exact hbl)) rfl ?_
   refine ld rfl rfl (lh sc3 rfl rfl) rfl ?_
   refine cl rfl cal126 rfl rfl (c_boxes g ag cg b ((k : Int) - 1) _ _) ?_
   rintro _ _ R1 ⟨q1, q2, q3, rfl, rfl, hR1⟩
   obtain rfl := hR1.symm
   clear hR1
   refine bg (fun w hs => ⟨trivial, trivial, trivial, trivial⟩) ?_
   refine sy_block ?_
   refine sy_range rfl cal130 (fun c0 bl0 bd0 hcp0 hca0 hcb0 hck0 => ?_)
   refine ⟨fun st pend T R' => R' = R ∧ ∃ (G : Heap) (kv' : KV), KOk g.grs b (k + 1) kv' ∧ T = G ++ ((bd0, .deferred (some [])) :: (q2, cel 3 [.int .i64 ((k : Int) - 1)]) :: (q1, cel 25 (gtl g (g.sl ag cg))) :: (mkh ms ++ (b6, cel 3 [.int .i64 ((k : Int) - 1)]) :: (b5, cel 161 [.map (some m)]) :: (m, mapO false kv') :: (b3, cel 128 (ints b)) :: H)) ∧ ((st = .ready ∧ pend = none) ∨ (st = .done ∧ pend = some (.exit 2))),
     Fn.mono (Fn.heapP (H' := (q3, cel 128 (ints b)) :: (bl0, lob c0 .ready none) :: (bd0, .deferred (some [])) :: (q2, cel 3 [.int .i64 ((k : Int) - 1)]) :: (q1, cel 25 (gtl g (g.sl ag cg))) :: (mkh ms ++ (b6, cel 3 [.int .i64 ((k : Int) - 1)]) :: (b5, cel 161 [.map (some m)]) :: (m, mapO false kv) :: (b3, cel 128 (ints b)) :: H)) ((List.Perm.cons _ (.swap _ _ _)).trans (.swap _ _ _))
       (c_boxes1 g hg ag cg hcg ((k : Int) - 1) hgr b hb.ok q1 q2 q3 bl0 _ _ (fun x H' R' => H' = (bl0, lob c0 .done (some (.exit 2))) :: (bd0, .deferred (some [])) :: (q2, cel 3 [.int .i64 ((k : Int) - 1)]) :: (q1, cel 25 (gtl g (g.sl ag cg))) :: (mkh ms ++ (b6, cel 3 [.int .i64 ((k : Int) - 1)]) :: (b5, cel 161 [.map (some m)]) :: (m, mapO false (kv.put [(k : Int) - 1] (mxv x))) :: (b3, cel 128 (ints b)) :: H) ∧ R' = R) (fun G x hx => ?_))) (fun v H' R' h => ?_), ?_⟩
   rotate_left
   · rcases hsr : shwB g.grs b ((k : Int) - 1) with _ | x
     · rw [hsr] at h
       obtain ⟨b', rfl, rfl⟩ := h
       exact ⟨.ready, none, _, by simp, .swap _ _ _, rfl, [_], kv, hkv.skip hsr, rfl, .inl ⟨rfl, rfl⟩⟩
     · rw [hsr] at h
       obtain ⟨G, H2, rfl, rfl, rfl⟩ := h
       exact ⟨.done, some (.exit 2), _, by simp, List.perm_middle, rfl, G, _, hkv.put hsr, rfl, .inr ⟨rfl, rfl⟩⟩
   rotate_left
   refine yd_of hcp0 hca0 hcb0 hck0 rfl ?_
   refine sy_tx' [0, 1] rfl ?_
   refine alc rfl zl128 rfl (fun b7 => ?_)
   refine stoA rfl rfl rfl cn128 rfl (by rw [ints_length]; exact hx.ok.len) rfl (ints_one _) ?_
   refine sy_beginRound ?_
   refine sy_block ?_
   refine sy_seq ?_
   refine sy_draw [0, 0, 0, 4, 15] (.ld 0 (.ld 1 (.ld 2 (.big 3 (.big 4 .done))))) mixed (by kernel_rfl) ?_
   refine ld rfl rfl (lh sc161 rfl rfl) rfl ?_
   refine ld rfl rfl (lh sc3 rfl rfl) rfl ?_
   refine ld rfl rfl (lhA (ints x) ag128 rfl (rest := []) (by rw [List.append_nil]; rfl) (by rw [ints_length]; exact hx.ok.len)) rfl ?_
   refine clV rfl cal103 rfl rfl (c_mixture x hx _ _) ?_
   refine bg (fun w hs => ⟨trivial, (lh sc3 rfl rfl) w hs, (lh sc161 rfl rfl) w hs, trivial⟩) ?_
   refine mpu kv [(k : Int) - 1] (v := mxv x) rfl mke161 (KeyT.of eqf3 noa3) rfl rfl rfl rfl hkv.one ?_
   refine bg (fun w hs => ⟨trivial, trivial, trivial⟩) ?_
   refine sy_exit ?_
   refine sy_bxn (by decide) ?_
   exact sy_roundExit ⟨rfl, _, rfl, rfl, rfl⟩ (fun w h => h.del b7)
   rintro _ _ _ _ ⟨rfl, G, kv', hkv', rfl, hst⟩
   refine Sy.heap (fun w h => St.drop h) ?_
   refine Sy.heap (fun w h => (h.del q2).del q1) ?_
   rcases hst with ⟨rfl, rfl⟩ | ⟨rfl, rfl⟩
   refine sy_jn ?_
   refine sy_seq ?_
   refine sy_seq ?_
   refine sy_tx' [0] rfl ?_
   refine spL rfl rfl (lh sc3 rfl rfl) rfl ?_
   refine sy_tx' [0, 1] rfl ?_
   refine Sy.heap (fun w h => h.del b6) ?_
   refine alc rfl zl3 rfl (fun b6 => ?_)
   refine sto rfl rfl rfl cn3 rfl rfl rfl rfl ?_
   refine sy_tx' [0, 1, 2] rfl ?_
   refine spL rfl rfl (lh sc3 rfl rfl) rfl ?_
   refine sp rfl (PE.add rfl rfl (by omega)) rfl ?_
   refine sto rfl rfl rfl cn3 rfl rfl rfl rfl ?_
   rw [show ((k : Int) - 1 + 1) = ((k + 1 : Nat) : Int) - 1 from by omega]
   exact sy_nextD ⟨k + 1, bd0 :: ms, b6, kv', by omega, hkv'⟩ (by dsimp only; omega) (by repeat' first | exact Sub.nil | apply Sub.cons | rfl | (simp [lk]; omega)) rfl (fun w h => h.perm (List.perm_middle (l₁ := mkh (bd0 :: ms))).symm)
   refine sy_jc ?_
   refine sy_exit ?_
   refine sy_bx ?_
   refine sy_seq ?_
   refine sy_seq ?_
   refine sy_tx' [0] rfl ?_
   refine spL rfl rfl (lh sc3 rfl rfl) rfl ?_
   refine sy_tx' [0, 1] rfl ?_
   refine Sy.heap (fun w h => h.del b6) ?_
   refine alc rfl zl3 rfl (fun b6 => ?_)
   refine sto rfl rfl rfl cn3 rfl rfl rfl rfl ?_
   refine sy_tx' [0, 1, 2] rfl ?_
   refine spL rfl rfl (lh sc3 rfl rfl) rfl ?_
   refine sp rfl (PE.add rfl rfl (by omega)) rfl ?_
   refine sto rfl rfl rfl cn3 rfl rfl rfl rfl ?_
   rw [show ((k : Int) - 1 + 1) = ((k + 1 : Nat) : Int) - 1 from by omega]
   exact sy_nextD ⟨k + 1, bd0 :: ms, b6, kv', by omega, hkv'⟩ (by dsimp only; omega) (by repeat' first | exact Sub.nil | apply Sub.cons | rfl | (simp [lk]; omega)) rfl (fun w h => h.perm (List.perm_middle (l₁ := mkh (bd0 :: ms))).symm)
  try simp only [decide_eq_true_eq, decide_eq_false_iff_not, Bool.and_eq_true, Bool.or_eq_true, Bool.not_eq_true', Int.not_le, Int.not_lt] at hc0
  obtain rfl : k = g.grs.length + 1 := by omega
  refine sy_exit ?_
  repeat refine sy_tx ?_
  refine sy_bx ?_
  refine sy_seq ?_
  refine sy_tx' [0, 1] rfl ?_
  refine spL rfl rfl (lh sc161 rfl rfl) rfl ?_
  refine sp rfl (PE.assign rfl) rfl ?_
  refine sy_ret ?_
  exact sy_returnM ms (fun _ h => h) rfl (.cons (RV.tmp rfl) .nil) rfl ⟨m, kv, rfl, hkv, rfl, rfl⟩ (fun w h => ((h.del b6).del b5).del b3)
end Go.Proofs.YtndhkpnaeocnhaaGreat
namespace Go.Proofs.YtndhkpnaeocnhaaGreat
set_option linter.unusedSimpArgs false
set_option linter.unusedVariables false
open Go
theorem ap22 : apT Tryz.prog 22 = some (3, 1, 8) := by kernel_rfl
theorem cal111 : cal Tryz.prog 111 = true := by kernel_rfl
theorem cal81 : cal Tryz.prog 81 = true := by kernel_rfl
theorem zv31 : zvl Tryz.prog 31 = some (.agg #[.int .i64 0, .int .i64 0, .int .i64 0, .int .i64 0]) := by kernel_rfl
theorem can_pos {l : List Grd} {b : Box} (hb : Tight b) : 1 ≤ (canG l b).length := List.length_pos_of_mem ((can_iff hb.ok).2 ⟨_, mixt_mx hb, rfl⟩)
def canN (l : List Grd) (b : Box) (k : Nat) : List Int := ((List.range k).filter fun (i : Nat) => (shwB l b (i : Nat)).isSome).map fun (i : Nat) => (i : Int)
theorem canN_succ (l : List Grd) (b : Box) (k : Nat) : canN l b (k + 1) = canN l b k ++ bif (shwB l b (k : Nat)).isSome then [(k : Int)] else [] := by
  unfold canN
  rw [List.range_succ, List.filter_append, List.map_append]
  cases h : (shwB l b (k : Nat)).isSome <;> simp [h]
theorem canN_len (l : List Grd) (b : Box) (k : Nat) : (canN l b k).length ≤ k := by
  unfold canN
  rw [List.length_map]
  exact Nat.le_trans (List.length_filter_le _ _) (by simp)
theorem can_len (l : List Grd) (b : Box) : (canG l b).length ≤ l.length + 1 := by
  have h := canN_len l b l.length
  show (canN l b l.length ++ _).length ≤ _
  rw [List.length_append]
  cases (shwB l b (-1)).isSome <;> simp <;> omega
theorem KOk.hit {l : List Grd} {b : Box} {n : Nat} {kv : KV} (h : KOk l b (n + 1) kv) {j : Int} (hj : -1 ≤ j ∧ j < n) : kv.get [j] = (shwB l b j).map mxv := by
  rw [h.at_ j]
  have : (decide (-1 ≤ j) && decide (j < ((n + 1 : Nat) : Int) - 1)) = true := by rw [← Bool.decide_and]; exact decide_eq_true (by omega)
  rw [this]; rfl
theorem shw_val {l : List Grd} {b : Box} (hb : Bok b) {j : Int} (hj : j = -1 ∨ ∃ i x, l[i]? = some x ∧ j = (i : Nat)) : ∃ m : List Int, m.length = 4 ∧ ((shwB l b j).map mxv).getD (.agg (ints [0, 0, 0, 0]).toArray) = .agg (ints m).toArray := by
  cases h : shwB l b j with
  | none => exact ⟨[0, 0, 0, 0], rfl, rfl⟩
  | some x => exact ⟨mixt x, ((shw_ok hb hj).1 x h).1.len, rfl⟩
def canR (g : Gat) (c : Crt) : List Int := bif decide (toldE g c false ≠ 0) then [] else canG g.grs (bndB g c)
def sureR (g : Gat) (c : Crt) : Int × Int := bif decide (toldE g c false ≠ 0) then (0, toldE g c false) else bif decide (1 < (canR g c).length) then (0, 6) else ((canR g c).headD 0, 0)
def prc (l : List Grd) (gr : Int) : Int := bif decide (gr = -1) then 0 else match l[gr.toNat]? with
  | some x => x.price
  | none => 0
def leastP (l : List Grd) (s : List Int) : Int := s.foldl (fun m gr => min m (prc l gr)) 100
def mostP (l : List Grd) (s : List Int) : Int := s.foldl (fun m gr => max m (prc l gr)) 0
def payR (g : Gat) (c : Crt) : Value := bif decide (toldE g c false ≠ 0) then .tuple #[spv 0 0, .int .i64 (toldE g c false)] else .tuple #[spv ((netP g c).1 * leastP g.grs (canR g c)) ((netP g c).2 * mostP g.grs (canR g c)), .int .i64 0]
theorem bnd_of {g : Gat} {c : Crt} {b : Box} (h0 : toldE g c false = 0) (hb : clo (boxF g.miss c.hs fun _ => true) = some b) : bndB g c = b := by
  unfold bndB; rw [decide_eq_false (by omega), hb]; rfl
theorem canR_of {g : Gat} {c : Crt} {b : Box} (h0 : toldE g c false = 0) (hb : clo (boxF g.miss c.hs fun _ => true) = some b) : canR g c = canG g.grs b := by
  unfold canR; rw [decide_eq_false (by omega), bnd_of h0 hb]; rfl
theorem prc_bd {g : Gat} (hg : g.ok) (gr : Int) : 0 ≤ prc g.grs gr ∧ prc g.grs gr ≤ 100 := by
  unfold prc
  cases decide (gr = -1) with
  | true => simp
  | false =>
    simp only [cond_false]
    cases h : g.grs[gr.toNat]? with
    | none => simp
    | some x => exact (hg.grs x (List.mem_of_getElem? h)).1
theorem fold_lm {g : Gat} (hg : g.ok) : ∀ (s : List Int) (a m : Int), 0 ≤ a ∧ a ≤ 100 → 0 ≤ m ∧ m ≤ 100 → (0 ≤ s.foldl (fun m gr => min m (prc g.grs gr)) a ∧ s.foldl (fun m gr => min m (prc g.grs gr)) a ≤ 100) ∧ (0 ≤ s.foldl (fun m gr => max m (prc g.grs gr)) m ∧ s.foldl (fun m gr => max m (prc g.grs gr)) m ≤ 100)
  | [], _, _, ha, hm => ⟨ha, hm⟩
  | x :: s, a, m, ha, hm => by
    have := prc_bd hg x
    exact fold_lm hg s _ _ (by dsimp only; omega) (by dsimp only; omega)
theorem net_bd {g : Gat} {c : Crt} (hg : g.ok) (hc : c.ok) : (0 ≤ (netP g c).1 ∧ (netP g c).1 ≤ 10100) ∧ (0 ≤ (netP g c).2 ∧ (netP g c).2 ≤ 10100) := by
  have := hg.err; have := hc.full; have := hc.empty
  unfold netP; simp only; omega
theorem mul_b {a b A B : Int} (h1 : 0 ≤ a) (h2 : a ≤ A) (h3 : 0 ≤ b) (h4 : b ≤ B) : 0 ≤ a * b ∧ a * b ≤ A * B := by
  have e1 := Int.mul_nonneg h1 h3
  have e2 := Int.mul_le_mul h2 h4 h3 (by omega)
  exact ⟨e1, e2⟩
def wgtR (g : Gat) (c : Crt) (k : Int) : Value := bif decide (toldE g c (!(inb k 0 3)) ≠ 0) then .tuple #[spv 0 0, .int .i64 (toldE g c (!(inb k 0 3)))] else .tuple #[spv ((netP g c).1 * bl (bndB g c) k.toNat / 40) ((netP g c).2 * bh (bndB g c) k.toNat / 40), .int .i64 0]
theorem told_bad {g : Gat} {c : Crt} (h : toldE g c true = 0) : False := by
  unfold toldE at h
  cases hb : decide (bothE g c ≠ 0) with
  | true => rw [hb] at h; simp only [cond_true] at h; have := of_decide_eq_true hb; omega
  | false => rw [hb] at h; cases h
theorem box_cell {b : Box} (hb : b.length = 8) {k : Nat} (hk : k < 4) : (ints b)[0 + ((k : Nat) : Int).toNat * 2 + 0]? = some (.int .i64 (bl b k)) ∧ (ints b)[0 + ((k : Nat) : Int).toNat * 2 + 1]? = some (.int .i64 (bh b k)) := by
  obtain ⟨a0, a1, a2, a3, a4, a5, a6, a7, rfl⟩ := list8 hb
  rcases lt4 hk with rfl | rfl | rfl | rfl <;> exact ⟨rfl, rfl⟩
theorem c_can (g : Gat) (hg : g.ok) (ag : Option Addr) (cg : Nat) (c : Crt) (hc : c.ok) (ah : Option Addr) (ch : Nat) (bw : Nat) (hcg : g.grs.length ≤ cg) (b : Box) (hb : Tight b) (H : Heap) (R : Facts) [hW : MemRows (some ⟨bw, 0, none⟩) 6 [wrow g c (g.sl ag cg) (c.sl ah ch)] R] [hG : MemRows ag 5 (grows g.grs) R] [hA : MemRows ah 5 (hrows c.hs) R] :
    Fn Tryz.prog 81 [.pointer (some ⟨bw, 0, none⟩), bxv b] H R (fun v H' R' => ∃ o : OSl 3 1 (irows (canG g.grs b)), v = o.fs ∧ H' = o.G ++ H ∧ R' = R) := by
 refine fn_of Tryz.func81 rfl Tryz.ntmps81 rfl ?_
 refine sy_seq ?_
 refine sy_tx' [0, 1] rfl ?_
 refine bx rfl rfl rfl (fun b3 => ?_)
 refine sp rfl (PE.assign rfl) rfl ?_
 refine sy_seq ?_
 refine sy_tx' [0] rfl ?_
 refine sp rfl (PE.assign rfl) rfl ?_
 refine sy_seq ?_
 refine sy_tx' [0, 1, 2, 3] rfl ?_
 refine sp rfl (PE.move rfl) rfl ?_
 refine spL rfl rfl (lhA (ints b) ag128 rfl (rest := []) (by rw [List.append_nil]; rfl) (by rw [ints_length]; exact hb.ok.len)) rfl ?_
 refine cl rfl cal111 rfl rfl (c_shown g hg ag cg c hc ah ch bw hcg b hb _ _) ?_
 rintro _ _ R1 ⟨m, kv, rfl, hkv, rfl, hR1⟩
 obtain rfl := hR1.symm
 clear hR1
 have hmany := hg.many
 refine sp rfl (PE.assign rfl) rfl ?_
 refine sy_seq ?_
 refine sy_seq ?_
 refine sy_tx' [0, 1, 2, 3, 4, 5, 6] rfl ?_
 refine sp rfl (PE.move rfl) rfl ?_
 refine sp rfl (PE.nilCheck rfl) rfl ?_
 refine sp rfl (PE.fieldAddr fo148_1 rfl) rfl ?_
 refine sp rfl (PE.fieldAddr fo25_2 rfl) rfl ?_
 refine spL rfl rfl (lfB (sz := 6) sc23 rfl) rfl ?_
 refine sp rfl (PE.lenSl isl23 rfl) rfl ?_
 refine sp rfl (PE.move rfl) rfl ?_
 refine sy_block ?_
 refine sy_loop (ι := (k : {k : Nat // k ≤ g.grs.length}) × OSl 3 1 (irows (canN g.grs b k.1))) (fun x => ⟨[(5, x.2.fs), (6, .map (some m)), (20, .int .i64 g.grs.length), (21, .int .i64 x.1.1)], x.2.G ++ (m, mapO false kv) :: H, R⟩) (fun x => g.grs.length - x.1.1) ⟨⟨0, by omega⟩, (OSl.nil _ _).cast rfl⟩ ?_ (fun x => ?_)
 exact sy_at (by repeat' first | exact Sub.nil | apply Sub.cons | rfl | (simp [lk]; omega)) (fun w h => h.del b3)
 obtain ⟨⟨k, hk⟩, o'⟩ := x
 dsimp only at hk o' ⊢
 have hcl := canN_len g.grs b k
 refine sy_seq ?_
 refine sy_tx' [0] rfl ?_
 refine sp rfl (PE.lss rfl rfl) rfl ?_
 refine sy_seq ?_
 refine sy_cond rfl (fun hc0 => ?_) (fun hc0 => ?_)
 try simp only [decide_eq_true_eq, decide_eq_false_iff_not, Bool.and_eq_true, Bool.or_eq_true, Bool.not_eq_true', Int.not_le, Int.not_lt] at hc0
 have hj1 : (k : Int) = -1 ∨ ∃ i x, g.grs[i]? = some x ∧ (k : Int) = (i : Nat) := .inr ⟨k, _, List.getElem?_eq_getElem (by omega), rfl⟩
 refine sy_skip ?_
 refine sy_seq ?_
 refine sy_block ?_
 refine sy_seq ?_
 refine sy_tx' [0, 1] rfl ?_
 refine sp rfl (PE.move rfl) rfl ?_
 refine sp rfl (PE.assign rfl) rfl ?_
 refine sy_seq ?_
 refine sy_tx' [0, 1, 2, 3, 4, 5, 6, 7, 8] rfl ?_
 refine sp rfl (PE.move rfl) rfl ?_
 refine sp rfl (PE.move rfl) rfl ?_
 refine spK rfl rfl rfl (lk_held kv [(k : Int)] mke161 (KeyT.of eqf3 noa3) (run_zv zv31) rfl hkv.one true) rfl ?_
 rw [hkv.hit (by omega)]
 obtain ⟨m1, hm1, hv1⟩ := shw_val (l := g.grs) hb.ok (j := (k : Int)) hj1
 rw [show ((shwB g.grs b ((k : Int))).map mxv).getD (.agg #[.int .i64 0, .int .i64 0, .int .i64 0, .int .i64 0]) = .agg (ints m1).toArray from hv1, Option.isSome_map]
 refine sp rfl (PE.move rfl) rfl ?_
 refine sp rfl (PE.extract rfl rfl) rfl ?_
 refine sp rfl (PE.extract rfl rfl) rfl ?_
 refine alc rfl zl31 rfl (fun b8 => ?_)
 refine stoA rfl rfl rfl cn31 rfl (by rw [ints_length]; exact hm1) rfl (ints_one _) ?_
 refine sp rfl (PE.assign rfl) rfl ?_
 refine sy_seq ?_
 refine sy_tx' [0] rfl ?_
 refine sp rfl (PE.move rfl) rfl ?_
 refine sy_cond rfl (fun hc1 => ?_) (fun hc1 => ?_)
 have hst : canN g.grs b (k + 1) = canN g.grs b k ++ [(k : Int)] := by rw [canN_succ, hc1]; rfl
 refine sy_tx' [0, 1, 2, 3, 4] rfl ?_
 refine sp rfl (PE.move rfl) rfl ?_
 refine sp rfl (PE.move rfl) rfl ?_
 refine bsl (out := [_]) rfl sl22 zl3 rfl rfl rfl rfl rfl rfl (fun b33 => ?_)
 refine apO (o') rfl ap22 rfl rfl (rowsH (row := [.int .i64 k]) rfl) rfl rfl ((by simp only [irows, List.length_map, List.length_singleton]; omega)) rfl (fun o34 => ?_)
 refine sp rfl (PE.assign rfl) rfl ?_
 refine sy_tx' [0, 1] rfl ?_
 refine sp rfl (PE.add rfl rfl (by omega)) rfl ?_
 refine sp rfl (PE.move rfl) rfl ?_
 first
   | exact sy_next ⟨⟨k + 1, by omega⟩, o34.cast (by rw [hst]; simp [irows])⟩ (by dsimp only; omega) (by repeat' first | exact Sub.nil | apply Sub.cons | rfl | (simp [lk]; omega)) (fun w h => (h.del b33).del b8)
   | exact sy_next ⟨⟨k + 1, by omega⟩, o'.cast (by rw [hst])⟩ (by dsimp only; omega) (by repeat' first | exact Sub.nil | apply Sub.cons | rfl | (simp [lk]; omega)) (fun w h => h.del b8)
 have hst : canN g.grs b (k + 1) = canN g.grs b k := by rw [canN_succ, hc1]; simp
 refine sy_skip ?_
 refine sy_tx' [0, 1] rfl ?_
 refine sp rfl (PE.add rfl rfl (by omega)) rfl ?_
 refine sp rfl (PE.move rfl) rfl ?_
 first
   | exact sy_next ⟨⟨k + 1, by omega⟩, o34.cast (by rw [hst]; simp [irows])⟩ (by dsimp only; omega) (by repeat' first | exact Sub.nil | apply Sub.cons | rfl | (simp [lk]; omega)) (fun w h => (h.del b33).del b8)
   | exact sy_next ⟨⟨k + 1, by omega⟩, o'.cast (by rw [hst])⟩ (by dsimp only; omega) (by repeat' first | exact Sub.nil | apply Sub.cons | rfl | (simp [lk]; omega)) (fun w h => h.del b8)
 try simp only [decide_eq_true_eq, decide_eq_false_iff_not, Bool.and_eq_true, Bool.or_eq_true, Bool.not_eq_true', Int.not_le, Int.not_lt] at hc0
 obtain rfl : k = g.grs.length := by omega
 have hj2 : (-1 : Int) = -1 ∨ ∃ i x, g.grs[i]? = some x ∧ (-1 : Int) = (i : Nat) := .inl rfl
 refine sy_exit ?_
 repeat refine sy_tx ?_
 refine sy_bx ?_
 refine sy_seq ?_
 refine sy_seq ?_
 refine sy_tx' [0, 1, 2, 3, 4, 5, 6, 7] rfl ?_
 refine sp rfl (PE.move rfl) rfl ?_
 refine spK rfl rfl rfl (lk_held kv [-1] mke161 (KeyT.of eqf3 noa3) (run_zv zv31) rfl hkv.one true) rfl ?_
 rw [hkv.hit (by omega)]
 obtain ⟨m2, hm2, hv2⟩ := shw_val (l := g.grs) hb.ok (j := -1) hj2
 rw [show ((shwB g.grs b (-1)).map mxv).getD (.agg #[.int .i64 0, .int .i64 0, .int .i64 0, .int .i64 0]) = .agg (ints m2).toArray from hv2, Option.isSome_map]
 refine sp rfl (PE.move rfl) rfl ?_
 refine sp rfl (PE.extract rfl rfl) rfl ?_
 refine sp rfl (PE.extract rfl rfl) rfl ?_
 refine alc rfl zl31 rfl (fun b10 => ?_)
 refine stoA rfl rfl rfl cn31 rfl (by rw [ints_length]; exact hm2) rfl (ints_one _) ?_
 refine sp rfl (PE.assign rfl) rfl ?_
 refine sy_seq ?_
 refine sy_tx' [0] rfl ?_
 refine sp rfl (PE.move rfl) rfl ?_
 refine sy_cond rfl (fun hc2 => ?_) (fun hc2 => ?_)
 have hst : canG g.grs b = canN g.grs b g.grs.length ++ [-1] := by unfold canG; rw [hc2]; rfl
 refine sy_tx' [0, 1, 2, 3] rfl ?_
 refine sp rfl (PE.move rfl) rfl ?_
 refine bsl (out := [_]) rfl sl22 zl3 rfl rfl rfl rfl rfl rfl (fun b43 => ?_)
 refine apO (o') rfl ap22 rfl rfl (rowsH (row := [.int .i64 (-1)]) rfl) rfl rfl ((by simp only [irows, List.length_map, List.length_singleton]; omega)) rfl (fun o44 => ?_)
 refine sp rfl (PE.assign rfl) rfl ?_
 refine sy_seq ?_
 refine sy_tx' [0, 1] rfl ?_
 refine sp rfl (PE.move rfl) rfl ?_
 refine sp rfl (PE.assign rfl) rfl ?_
 refine sy_ret ?_
 first
   | exact sy_return (vs := [_]) rfl (.cons (RV.tmp rfl) .nil) rfl ⟨o44.cast (by rw [hst]; simp [irows]), rfl, rfl, rfl⟩ (fun w h => ((h.del b43).del b10).del m)
   | exact sy_return (vs := [_]) rfl (.cons (RV.tmp rfl) .nil) rfl ⟨o'.cast (by rw [hst]), rfl, rfl, rfl⟩ (fun w h => (h.del b10).del m)
 have hst : canG g.grs b = canN g.grs b g.grs.length := by unfold canG; rw [hc2]; exact List.append_nil _
 refine sy_skip ?_
 refine sy_seq ?_
 refine sy_tx' [0, 1] rfl ?_
 refine sp rfl (PE.move rfl) rfl ?_
 refine sp rfl (PE.assign rfl) rfl ?_
 refine sy_ret ?_
 first
   | exact sy_return (vs := [_]) rfl (.cons (RV.tmp rfl) .nil) rfl ⟨o44.cast (by rw [hst]; simp [irows]), rfl, rfl, rfl⟩ (fun w h => ((h.del b43).del b10).del m)
   | exact sy_return (vs := [_]) rfl (.cons (RV.tmp rfl) .nil) rfl ⟨o'.cast (by rw [hst]), rfl, rfl, rfl⟩ (fun w h => (h.del b10).del m)
theorem c_Can (g : Gat) (ag : Option Addr) (cg : Nat) (hlg : g.grs.length ≤ 9223372036854775807) (hcg : g.grs.length ≤ cg) (c : Crt) (ah : Option Addr) (ch : Nat) (hlh : c.hs.length ≤ 9223372036854775807) (H : Heap) (R : Facts) [hG : MemRows ag 5 (grows g.grs) R] [hA : MemRows ah 5 (hrows c.hs) R] :
    Fn Tryz.prog 33 [g.v (g.sl ag cg), c.v (c.sl ah ch)] H R (fun v H' R' => ∃ o : OSl 3 1 (irows (canR g c)), v = .tuple #[o.fs, .int .i64 (toldE g c false)] ∧ H' = o.G ++ H ∧ R' = R) := by
 refine fn_of Tryz.func33 rfl Tryz.ntmps33 rfl ?_
 refine sy_seq ?_
 refine sy_tx' [0, 1, 2, 3] rfl ?_
 refine bx rfl rfl rfl (fun b2 => ?_)
 refine bx rfl rfl rfl (fun b3 => ?_)
 refine sp rfl (PE.assign rfl) rfl ?_
 refine sp rfl (PE.assign rfl) rfl ?_
 refine sy_seq ?_
 refine sy_tx' [0, 1, 2, 3, 4, 5, 6, 7, 8, 9, 10] rfl ?_
 refine spL rfl rfl (lhA [_, _, _] ag25 rfl rfl rfl) rfl ?_
 refine spL rfl rfl (lhA [_, _, _] ag28 rfl rfl rfl) rfl ?_
 refine cl rfl cal80 rfl rfl (c_told g ag cg hlg c ah ch hlh (false) _ _) ?_
 rintro _ _ _ ⟨rfl, hT⟩
 rcases hT with ⟨hne, rfl, rfl⟩ | ⟨h0, hg, hc, bw, b, hb, rfl, rfl⟩
 refine sp rfl (PE.move rfl) rfl ?_
 refine sp rfl (PE.extract rfl rfl) rfl ?_
 refine sp rfl (PE.extract rfl rfl) rfl ?_
 refine sp rfl (PE.extract rfl rfl) rfl ?_
 refine alc rfl zl128 rfl (fun b7 => ?_)
 refine sp rfl (PE.assign rfl) rfl ?_
 refine stoA rfl rfl rfl cn128 rfl (by rw [ints_length]; exact rfl) rfl (ints_one _) ?_
 refine sp rfl (PE.assign rfl) rfl ?_
 refine sy_seq ?_
 refine sy_seq ?_
 refine sy_tx' [0, 1] rfl ?_
 refine sp rfl (PE.move rfl) rfl ?_
 refine sp rfl (PE.neq rfl rfl) rfl ?_
 refine sy_cond rfl (fun hc0 => ?_) (fun hc0 => ?_)
 have e : canR g c = [] := by unfold canR; rw [decide_eq_true hne]; rfl
 refine sy_seq ?_
 refine sy_tx' [0, 1, 2] rfl ?_
 refine sp rfl (PE.move rfl) rfl ?_
 refine sp rfl (PE.assign rfl) rfl ?_
 refine sp rfl (PE.assign rfl) rfl ?_
 refine sy_ret ?_
 exact sy_return (vs := [_, _]) rfl (.cons (RV.tmp rfl) (.cons (RV.tmp rfl) .nil)) rfl ⟨(OSl.nil _ _).cast (by rw [e]; rfl), rfl, rfl, rfl⟩ (fun w h => ((h.del b7).del b3).del b2)
 exact absurd hc0 (by simp [hne])
 have hbt := told_tight hb
 have hbl := hbt.ok.len
 refine sp rfl (PE.move rfl) rfl ?_
 refine sp rfl (PE.extract rfl rfl) rfl ?_
 refine sp rfl (PE.extract rfl rfl) rfl ?_
 refine sp rfl (PE.extract rfl rfl) rfl ?_
 refine alc rfl zl128 rfl (fun b7 => ?_)
 refine sp rfl (PE.assign rfl) rfl ?_
 refine stoA rfl rfl rfl cn128 rfl (by rw [ints_length]; exact hbl) rfl (ints_one _) ?_
 refine sp rfl (PE.assign rfl) rfl ?_
 refine sy_seq ?_
 refine sy_seq ?_
 refine sy_tx' [0, 1] rfl ?_
 refine sp rfl (PE.move rfl) rfl ?_
 refine sp rfl (PE.neq rfl rfl) rfl ?_
 refine sy_cond rfl (fun hc0 => ?_) (fun hc0 => ?_)
 exact absurd hc0 (by simp)
 refine sy_skip ?_
 refine sy_seq ?_
 refine sy_tx' [0, 1, 2, 3, 4] rfl ?_
 refine sp rfl (PE.move rfl) rfl ?_
 refine spL rfl rfl (lhA (ints b) ag128 rfl (rest := []) (by rw [List.append_nil]; rfl) (by rw [ints_length]; exact hbl)) rfl ?_
 refine cl rfl cal81 rfl rfl (c_can g hg ag cg c hc ah ch bw hcg b hbt _ _) ?_
 rintro _ _ _ ⟨o, rfl, rfl, rfl⟩
 have e := canR_of h0 hb
 refine sp rfl (PE.assign rfl) rfl ?_
 refine sp rfl (PE.assign rfl) rfl ?_
 refine sy_ret ?_
 rw [h0]
 exact sy_return (vs := [_, _]) rfl (.cons (RV.tmp rfl) (.cons (RV.tmp rfl) .nil)) rfl ⟨o.cast (by rw [e]), rfl, rfl, rfl⟩ (fun w h => (((h.del b7).del b3).del b2).ftail)
theorem c_Sure (g : Gat) (ag : Option Addr) (cg : Nat) (hlg : g.grs.length ≤ 9223372036854775807) (hcg : g.grs.length ≤ cg) (c : Crt) (ah : Option Addr) (ch : Nat) (hlh : c.hs.length ≤ 9223372036854775807) (H : Heap) (R : Facts) [hG : MemRows ag 5 (grows g.grs) R] [hA : MemRows ah 5 (hrows c.hs) R] :
    FnV Tryz.prog 29 [g.v (g.sl ag cg), c.v (c.sl ah ch)] H R (.tuple #[.int .i64 (sureR g c).1, .int .i64 (sureR g c).2]) := by
 refine fn_of Tryz.func29 rfl Tryz.ntmps29 rfl ?_
 refine sy_seq ?_
 refine sy_tx' [0, 1, 2, 3] rfl ?_
 refine bx rfl rfl rfl (fun b2 => ?_)
 refine bx rfl rfl rfl (fun b3 => ?_)
 refine sp rfl (PE.assign rfl) rfl ?_
 refine sp rfl (PE.assign rfl) rfl ?_
 refine sy_seq ?_
 refine sy_tx' [0, 1, 2, 3, 4, 5, 6, 7, 8, 9, 10] rfl ?_
 refine spL rfl rfl (lhA [_, _, _] ag25 rfl rfl rfl) rfl ?_
 refine spL rfl rfl (lhA [_, _, _] ag28 rfl rfl rfl) rfl ?_
 refine cl rfl cal80 rfl rfl (c_told g ag cg hlg c ah ch hlh (false) _ _) ?_
 rintro _ _ _ ⟨rfl, hT⟩
 rcases hT with ⟨hne, rfl, rfl⟩ | ⟨h0, hg, hc, bw, b, hb, rfl, rfl⟩
 refine sp rfl (PE.move rfl) rfl ?_
 refine sp rfl (PE.extract rfl rfl) rfl ?_
 refine sp rfl (PE.extract rfl rfl) rfl ?_
 refine sp rfl (PE.extract rfl rfl) rfl ?_
 refine alc rfl zl128 rfl (fun b7 => ?_)
 refine sp rfl (PE.assign rfl) rfl ?_
 refine stoA rfl rfl rfl cn128 rfl (by rw [ints_length]; exact rfl) rfl (ints_one _) ?_
 refine sp rfl (PE.assign rfl) rfl ?_
 refine sy_seq ?_
 refine sy_seq ?_
 refine sy_tx' [0, 1] rfl ?_
 refine sp rfl (PE.move rfl) rfl ?_
 refine sp rfl (PE.neq rfl rfl) rfl ?_
 refine sy_cond rfl (fun hc0 => ?_) (fun hc0 => ?_)
 refine sy_seq ?_
 refine sy_tx' [0, 1, 2] rfl ?_
 refine sp rfl (PE.move rfl) rfl ?_
 refine sp rfl (PE.assign rfl) rfl ?_
 refine sp rfl (PE.assign rfl) rfl ?_
 refine sy_ret ?_
 exact sy_return (vs := [_, _]) rfl (.cons (RV.tmp rfl) (.cons (RV.tmp rfl) .nil)) (by unfold sureR; rw [decide_eq_true hne]; rfl) ⟨rfl, rfl, rfl⟩ drp
 exact absurd hc0 (by simp [hne])
 have hbt := told_tight hb
 have hbl := hbt.ok.len
 refine sp rfl (PE.move rfl) rfl ?_
 refine sp rfl (PE.extract rfl rfl) rfl ?_
 refine sp rfl (PE.extract rfl rfl) rfl ?_
 refine sp rfl (PE.extract rfl rfl) rfl ?_
 refine alc rfl zl128 rfl (fun b7 => ?_)
 refine sp rfl (PE.assign rfl) rfl ?_
 refine stoA rfl rfl rfl cn128 rfl (by rw [ints_length]; exact hbl) rfl (ints_one _) ?_
 refine sp rfl (PE.assign rfl) rfl ?_
 refine sy_seq ?_
 refine sy_seq ?_
 refine sy_tx' [0, 1] rfl ?_
 refine sp rfl (PE.move rfl) rfl ?_
 refine sp rfl (PE.neq rfl rfl) rfl ?_
 refine sy_cond rfl (fun hc0 => ?_) (fun hc0 => ?_)
 exact absurd hc0 (by simp)
 refine sy_skip ?_
 refine sy_seq ?_
 refine sy_tx' [0, 1, 2, 3] rfl ?_
 refine sp rfl (PE.move rfl) rfl ?_
 refine spL rfl rfl (lhA (ints b) ag128 rfl (rest := []) (by rw [List.append_nil]; rfl) (by rw [ints_length]; exact hbl)) rfl ?_
 refine cl rfl cal81 rfl rfl (c_can g hg ag cg c hc ah ch bw hcg b hbt _ _) ?_
 rintro _ _ R1 ⟨o, rfl, rfl, hR1⟩
 obtain rfl := hR1.symm
 clear hR1
 obtain ⟨al, cl2, he, hf⟩ := o.freeze
 rw [he]
 refine Sy.heap (fun w h => hf h) ?_
 rw [show (irows (canG g.grs b)).length = (canG g.grs b).length from List.length_map _]
 clear he hf
 have e := canR_of h0 hb
 have hcp := can_pos (l := g.grs) hbt
 have hcm := can_len g.grs b
 have hmany := hg.many
 obtain ⟨l, hl⟩ : ∃ l, canG g.grs b = l := ⟨_, rfl⟩
 rw [hl] at e hcp hcm
 rw [hl]
 refine sy_addr (a := al) (sz := 1) (rows := irows l) (by intro h9; have h1 := congrArg List.length h9; simp only [irows, List.length_map, List.length_nil] at h1; omega) (fun bq oq he => ?_)
 subst he
 refine sp rfl (PE.assign rfl) rfl ?_
 refine sy_seq ?_
 refine sy_seq ?_
 refine sy_tx' [0, 1, 2] rfl ?_
 refine sp rfl (PE.move rfl) rfl ?_
 refine sp rfl (PE.lenSl isl22 rfl) rfl ?_
 refine sp rfl (PE.gtr rfl rfl) rfl ?_
 refine sy_cond rfl (fun hc1 => ?_) (fun hc1 => ?_)
 try simp only [decide_eq_true_eq, decide_eq_false_iff_not, Bool.and_eq_true, Bool.or_eq_true, Bool.not_eq_true', Int.not_le, Int.not_lt] at hc1
 have e2 : sureR g c = (0, 6) := by unfold sureR; rw [decide_eq_false (show ¬ toldE g c false ≠ 0 by omega), e, decide_eq_true (by omega)]; rfl
 refine sy_seq ?_
 refine sy_tx' [0, 1] rfl ?_
 refine sp rfl (PE.assign rfl) rfl ?_
 refine sp rfl (PE.assign rfl) rfl ?_
 refine sy_ret ?_
 exact sy_return (vs := [_, _]) rfl (.cons (RV.tmp rfl) (.cons (RV.tmp rfl) .nil)) (by rw [e2]; rfl) ⟨rfl, rfl, rfl⟩ drp
 try simp only [decide_eq_true_eq, decide_eq_false_iff_not, Bool.and_eq_true, Bool.or_eq_true, Bool.not_eq_true', Int.not_le, Int.not_lt] at hc1
 obtain ⟨x, rfl⟩ : ∃ x, l = [x] := by
   match l, hcp, hc1 with
   | [x], _, _ => exact ⟨x, rfl⟩
   | _ :: _ :: _, _, h => simp only [List.length_cons] at h; omega
 have e2 : sureR g c = (x, 0) := by unfold sureR; rw [decide_eq_false (show ¬ toldE g c false ≠ 0 by omega), e]; rfl
 refine sy_skip ?_
 refine sy_seq ?_
 refine sy_tx' [0, 1, 2, 3, 4] rfl ?_
 refine sp rfl (PE.move rfl) rfl ?_
 refine sp rfl (PE.indexAddr el22 rfl rfl (by omega) (by show (0 : Int) < ((1 : Nat) : Int); omega)) rfl ?_
 refine spL rfl rfl (lf0 (x := .int .i64 x) sc3 rfl rfl) rfl ?_
 refine sp rfl (PE.assign rfl) rfl ?_
 refine sp rfl (PE.assign rfl) rfl ?_
 refine sy_ret ?_
 exact sy_return (vs := [_, _]) rfl (.cons (RV.tmp rfl) (.cons (RV.tmp rfl) .nil)) (by rw [e2]; rfl) ⟨rfl, rfl, rfl⟩ drp
theorem c_Pay (g : Gat) (ag : Option Addr) (cg : Nat) (hlg : g.grs.length ≤ 9223372036854775807) (hcg : g.grs.length ≤ cg) (c : Crt) (ah : Option Addr) (ch : Nat) (hlh : c.hs.length ≤ 9223372036854775807) (H : Heap) (R : Facts) [hG : MemRows ag 5 (grows g.grs) R] [hA : MemRows ah 5 (hrows c.hs) R] :
    FnV Tryz.prog 30 [g.v (g.sl ag cg), c.v (c.sl ah ch)] H R (payR g c) := by
 refine fn_of Tryz.func30 rfl Tryz.ntmps30 rfl ?_
 refine sy_seq ?_
 refine sy_tx' [0, 1, 2, 3] rfl ?_
 refine bx rfl rfl rfl (fun b2 => ?_)
 refine bx rfl rfl rfl (fun b3 => ?_)
 refine alc rfl zl61 rfl (fun b4 => ?_)
 refine sp rfl (PE.assign rfl) rfl ?_
 refine sy_seq ?_
 refine sy_tx' [0, 1, 2, 3, 4, 5, 6, 7, 8, 9, 10] rfl ?_
 refine spL rfl rfl (lhA [_, _, _] ag25 rfl rfl rfl) rfl ?_
 refine spL rfl rfl (lhA [_, _, _] ag28 rfl rfl rfl) rfl ?_
 refine cl rfl cal80 rfl rfl (c_told g ag cg hlg c ah ch hlh (false) _ _) ?_
 rintro _ _ _ ⟨rfl, hT⟩
 rcases hT with ⟨hne, rfl, rfl⟩ | ⟨h0, hg, hc, bw, b, hb, rfl, rfl⟩
 refine sp rfl (PE.move rfl) rfl ?_
 refine sp rfl (PE.extract rfl rfl) rfl ?_
 refine sp rfl (PE.extract rfl rfl) rfl ?_
 refine sp rfl (PE.extract rfl rfl) rfl ?_
 refine alc rfl zl128 rfl (fun b7 => ?_)
 refine sp rfl (PE.assign rfl) rfl ?_
 refine stoA rfl rfl rfl cn128 rfl (by rw [ints_length]; exact rfl) rfl (ints_one _) ?_
 refine sp rfl (PE.assign rfl) rfl ?_
 refine sy_seq ?_
 refine sy_seq ?_
 refine sy_tx' [0, 1] rfl ?_
 refine sp rfl (PE.move rfl) rfl ?_
 refine sp rfl (PE.neq rfl rfl) rfl ?_
 refine sy_cond rfl (fun hc0 => ?_) (fun hc0 => ?_)
 refine sy_seq ?_
 refine sy_tx' [0, 1, 2, 3] rfl ?_
 refine sp rfl (PE.build (out := [_, _]) pl61 zl61 rfl rfl) rfl ?_
 refine sp rfl (PE.move rfl) rfl ?_
 refine sto rfl rfl rfl cn61 rfl rfl rfl rfl ?_
 refine sp rfl (PE.assign rfl) rfl ?_
 refine sy_ret ?_
 exact sy_return (vs := [_, _]) rfl (.cons (RV.cell rfl (lhA [_, _] ag61 rfl rfl rfl)) (.cons (RV.tmp rfl) .nil)) (by unfold payR; rw [decide_eq_true hne]; rfl) ⟨rfl, rfl, rfl⟩ drp
 exact absurd hc0 (by simp [hne])
 have hbt := told_tight hb
 have hbl := hbt.ok.len
 refine sp rfl (PE.move rfl) rfl ?_
 refine sp rfl (PE.extract rfl rfl) rfl ?_
 refine sp rfl (PE.extract rfl rfl) rfl ?_
 refine sp rfl (PE.extract rfl rfl) rfl ?_
 refine alc rfl zl128 rfl (fun b7 => ?_)
 refine sp rfl (PE.assign rfl) rfl ?_
 refine stoA rfl rfl rfl cn128 rfl (by rw [ints_length]; exact hbl) rfl (ints_one _) ?_
 refine sp rfl (PE.assign rfl) rfl ?_
 refine sy_seq ?_
 refine sy_seq ?_
 refine sy_tx' [0, 1] rfl ?_
 refine sp rfl (PE.move rfl) rfl ?_
 refine sp rfl (PE.neq rfl rfl) rfl ?_
 refine sy_cond rfl (fun hc0 => ?_) (fun hc0 => ?_)
 exact absurd hc0 (by simp)
 refine sy_skip ?_
 refine sy_seq ?_
 refine sy_tx' [0, 1] rfl ?_
 refine sp rfl (PE.assign rfl) rfl ?_
 refine sp rfl (PE.assign rfl) rfl ?_
 refine sy_seq ?_
 refine sy_seq ?_
 refine sy_tx' [0, 1, 2, 3, 4] rfl ?_
 refine sp rfl (PE.move rfl) rfl ?_
 refine spL rfl rfl (lhA (ints b) ag128 rfl (rest := []) (by rw [List.append_nil]; rfl) (by rw [ints_length]; exact hbl)) rfl ?_
 refine cl rfl cal81 rfl rfl (c_can g hg ag cg c hc ah ch bw hcg b hbt _ _) ?_
 rintro _ _ R1 ⟨o, rfl, rfl, hR1⟩
 obtain rfl := hR1.symm
 clear hR1
 obtain ⟨al, cl2, he, hf⟩ := o.freeze
 rw [he]
 refine Sy.heap (fun w h => hf h) ?_
 rw [show (irows (canG g.grs b)).length = (canG g.grs b).length from List.length_map _]
 clear he hf
 have e := canR_of h0 hb
 have hcp := can_pos (l := g.grs) hbt
 have hcm := can_len g.grs b
 have hmany := hg.many
 obtain ⟨l, hl⟩ : ∃ l, canG g.grs b = l := ⟨_, rfl⟩
 rw [hl] at e hcp hcm
 rw [hl]
 refine sy_addr (a := al) (sz := 1) (rows := irows l) (by intro h9; have h1 := congrArg List.length h9; simp only [irows, List.length_map, List.length_nil] at h1; omega) (fun bq oq he => ?_)
 subst he
 have hgrl : ∀ gr ∈ l, gr = -1 ∨ ∃ i x, g.grs[i]? = some x ∧ gr = (i : Nat) := fun gr hgr => by
   rw [← hl] at hgr
   obtain ⟨m, _, rfl⟩ := (can_iff hbt.ok).1 hgr
   exact hasG_rg _ m
 refine sp rfl (PE.lenSl isl22 rfl) rfl ?_
 refine sp rfl (PE.move rfl) rfl ?_
 refine sy_block ?_
 refine sy_loop (ι := {i : Nat // i ≤ l.length}) (fun i => ⟨[(2, .pointer (some ⟨b2, 0, none⟩)), (4, .pointer (some ⟨b4, 0, none⟩)), (6, .pointer (some ⟨bw, 0, none⟩)), (9, .int .i64 (leastP g.grs (l.take i.1))), (10, .int .i64 (mostP g.grs (l.take i.1))), (28, .slice (some ⟨bq, oq, none⟩) l.length cl2), (29, .int .i64 l.length), (30, .int .i64 i.1)], (b4, cel 61 [.int .i64 0, .int .i64 0]) :: (b2, cel 25 (gtl g (g.sl ag cg))) :: H, RowsA (some ⟨bq, oq, none⟩) 1 (irows l) :: RowsA (some ⟨bw, 0, none⟩) 6 [wrow g c (g.sl ag cg) (c.sl ah ch)] :: R⟩) (fun i => l.length - i.1) ⟨0, by omega⟩ ?_ (fun i => ?_)
 exact sy_at (by repeat' first | exact Sub.nil | apply Sub.cons | rfl | (simp [lk]; omega)) (fun w h => (((h.del b7).pull b2).pull b4).del b3)
 obtain ⟨i, hi⟩ := i
 dsimp only at hi ⊢
 obtain ⟨hfl, hfm⟩ := fold_lm hg (l.take i) 100 0 (by omega) (by omega)
 replace hfl : 0 ≤ leastP g.grs (l.take i) ∧ leastP g.grs (l.take i) ≤ 100 := hfl
 replace hfm : 0 ≤ mostP g.grs (l.take i) ∧ mostP g.grs (l.take i) ≤ 100 := hfm
 refine sy_seq ?_
 refine sy_tx' [0] rfl ?_
 refine sp rfl (PE.lss rfl rfl) rfl ?_
 refine sy_seq ?_
 refine sy_cond rfl (fun hc1 => ?_) (fun hc1 => ?_)
 try simp only [decide_eq_true_eq, decide_eq_false_iff_not, Bool.and_eq_true, Bool.or_eq_true, Bool.not_eq_true', Int.not_le, Int.not_lt] at hc1
 obtain ⟨gr, hgr⟩ : ∃ gr, l[i]? = some gr := ⟨_, List.getElem?_eq_getElem (by omega)⟩
 have hpb := prc_bd hg gr
 have el : leastP g.grs (l.take (i + 1)) = min (leastP g.grs (l.take i)) (prc g.grs gr) := by unfold leastP; rw [List.take_add_one, hgr, List.foldl_append]; rfl
 have em : mostP g.grs (l.take (i + 1)) = max (max 0 (mostP g.grs (l.take i))) (prc g.grs gr) := by
   have : mostP g.grs (l.take (i + 1)) = max (mostP g.grs (l.take i)) (prc g.grs gr) := by unfold mostP; rw [List.take_add_one, hgr, List.foldl_append]; rfl
   rw [this]; omega
 refine sy_skip ?_
 refine sy_seq ?_
 refine sy_block ?_
 refine sy_seq ?_
 refine sy_tx' [0, 1, 2] rfl ?_
 refine sp rfl (PE.indexAddr el22 rfl rfl (by omega) (by omega)) rfl ?_
 refine spL rfl rfl (lf0 (x := .int .i64 gr) sc3 (by simp [irows, hgr]; rfl) rfl) rfl ?_
 refine sp rfl (PE.assign rfl) rfl ?_
 refine sy_seq ?_
 refine sy_tx' [0] rfl ?_
 refine sp rfl (PE.assign rfl) rfl ?_
 refine sy_seq ?_
 refine sy_seq ?_
 refine sy_tx' [0, 1] rfl ?_
 refine sp rfl (PE.move rfl) rfl ?_
 refine sp rfl (PE.neq rfl rfl) rfl ?_
 refine sy_cond rfl (fun hc2 => ?_) (fun hc2 => ?_)
 try simp only [decide_eq_true_eq, decide_eq_false_iff_not, Bool.and_eq_true, Bool.or_eq_true, Bool.not_eq_true', Int.not_le, Int.not_lt] at hc2
 obtain ⟨j, x, hx, rfl⟩ := (hgrl gr (List.mem_of_getElem? hgr)).resolve_left hc2
 have ep : prc g.grs (j : Nat) = x.price := by unfold prc; rw [decide_eq_false (by omega), Int.toNat_natCast, hx]; rfl
 have hj := (List.getElem?_eq_some_iff.1 hx).1
 refine sy_addr (a := ag) (sz := 5) (rows := grows g.grs) (by intro h0; simp [grows] at h0; simp [h0] at hx) (fun ba oa he => ?_)
 subst he
 refine sy_tx' [0, 1, 2, 3, 4, 5, 6] rfl ?_
 refine sp rfl (PE.fieldAddr fo25_2 rfl) rfl ?_
 refine spL rfl rfl (lh sc23 rfl rfl) rfl ?_
 refine sp rfl (PE.move rfl) rfl ?_
 refine sp rfl (PE.indexAddr el23 rfl rfl (by omega) (by omega)) rfl ?_
 refine sp rfl (PE.fieldAddr fo36_4 rfl) rfl ?_
 refine spL rfl rfl (lf (x := .int .i64 x.price) sc3 (gr_get (by simpa using hx)) rfl) rfl ?_
 refine sp rfl (PE.assign rfl) rfl ?_
 refine sy_tx' [0, 1, 2, 3, 4, 5, 6, 7, 8] rfl ?_
 rw [← ep]
 refine sp rfl (PE.move rfl) rfl ?_
 refine sp rfl (PE.move rfl) rfl ?_
 refine sp rfl (PE.min rfl rfl) rfl ?_
 refine sp rfl (PE.move rfl) rfl ?_
 refine sp rfl (PE.move rfl) rfl ?_
 refine bsl (out := [_, _]) rfl sl22 zl3 rfl rfl rfl rfl rfl rfl (fun b47 => ?_)
 refine clV rfl cal82 rfl rfl (c_great2 _ _ b47 _ _) ?_
 refine sp rfl (PE.assign rfl) rfl ?_
 refine sp rfl (PE.assign rfl) rfl ?_
 refine sy_tx' [0, 1] rfl ?_
 refine sp rfl (PE.add rfl rfl (by omega)) rfl ?_
 refine sp rfl (PE.move rfl) rfl ?_
 exact sy_next ⟨i + 1, by omega⟩ (by dsimp only; omega) (by dsimp only; rw [el, em]; exact (by repeat' first | exact Sub.nil | apply Sub.cons | rfl | (simp [lk]; omega))) (fun w h => h.del b47)
 try simp only [decide_eq_true_eq, decide_eq_false_iff_not, Bool.and_eq_true, Bool.or_eq_true, Bool.not_eq_true', Int.not_le, Int.not_lt] at hc2
 have ep : prc g.grs gr = 0 := by unfold prc; rw [decide_eq_true (show gr = -1 by omega)]; rfl
 refine sy_skip ?_
 refine sy_tx' [0, 1, 2, 3, 4, 5, 6, 7, 8] rfl ?_
 rw [← ep]
 refine sp rfl (PE.move rfl) rfl ?_
 refine sp rfl (PE.move rfl) rfl ?_
 refine sp rfl (PE.min rfl rfl) rfl ?_
 refine sp rfl (PE.move rfl) rfl ?_
 refine sp rfl (PE.move rfl) rfl ?_
 refine bsl (out := [_, _]) rfl sl22 zl3 rfl rfl rfl rfl rfl rfl (fun b47 => ?_)
 refine clV rfl cal82 rfl rfl (c_great2 _ _ b47 _ _) ?_
 refine sp rfl (PE.assign rfl) rfl ?_
 refine sp rfl (PE.assign rfl) rfl ?_
 refine sy_tx' [0, 1] rfl ?_
 refine sp rfl (PE.add rfl rfl (by omega)) rfl ?_
 refine sp rfl (PE.move rfl) rfl ?_
 exact sy_next ⟨i + 1, by omega⟩ (by dsimp only; omega) (by dsimp only; rw [el, em]; exact (by repeat' first | exact Sub.nil | apply Sub.cons | rfl | (simp [lk]; omega))) (fun w h => h.del b47)
 try simp only [decide_eq_true_eq, decide_eq_false_iff_not, Bool.and_eq_true, Bool.or_eq_true, Bool.not_eq_true', Int.not_le, Int.not_lt] at hc1
 obtain rfl : i = l.length := by omega
 rw [List.take_length] at *
 obtain ⟨hn1, hn2⟩ := net_bd hg hc
 have hm1 := mul_b hn1.1 hn1.2 hfl.1 hfl.2
 have hm2 := mul_b hn2.1 hn2.2 hfm.1 hfm.2
 refine sy_exit ?_
 repeat refine sy_tx ?_
 refine sy_bx ?_
 refine sy_seq ?_
 refine sy_tx' [0, 1, 2, 3] rfl ?_
 refine sp rfl (PE.move rfl) rfl ?_
 refine clV rfl cal79 rfl rfl (c_net g hg ag cg c hc ah ch bw _ _) ?_
 refine alc rfl zl61 rfl (fun b14 => ?_)
 refine sto rfl rfl rfl cn61 rfl rfl rfl rfl ?_
 refine sy_seq ?_
 refine sy_tx' [0, 1, 2, 3, 4, 5, 6, 7, 8, 9, 10] rfl ?_
 refine sp rfl (PE.fieldAddr fo61_0 rfl) rfl ?_
 refine spL rfl rfl (lh sc3 rfl rfl) rfl ?_
 refine sp rfl (PE.move rfl) rfl ?_
 refine sp rfl (PE.mul rfl rfl (by exact ⟨by have := hm1.1; simp only [netP] at this; omega, by have := hm1.2; simp only [netP] at this; omega⟩)) rfl ?_
 refine sp rfl (PE.fieldAddr fo61_1 rfl) rfl ?_
 refine spL rfl rfl (lh sc3 rfl rfl) rfl ?_
 refine sp rfl (PE.move rfl) rfl ?_
 refine sp rfl (PE.mul rfl rfl (by exact ⟨by have := hm2.1; simp only [netP] at this; omega, by have := hm2.2; simp only [netP] at this; omega⟩)) rfl ?_
 refine sp rfl (PE.build (out := [_, _]) pl61 zl61 rfl rfl) rfl ?_
 refine sto rfl rfl rfl cn61 rfl rfl rfl rfl ?_
 refine sp rfl (PE.assign rfl) rfl ?_
 refine sy_ret ?_
 exact sy_return (vs := [_, _]) rfl (.cons (RV.cell rfl (lhA [_, _] ag61 rfl rfl rfl)) (.cons (RV.tmp rfl) .nil)) (by unfold payR; rw [decide_eq_false (by omega), e]; rfl) ⟨rfl, rfl, rfl⟩ drp
theorem c_Weight (g : Gat) (ag : Option Addr) (cg : Nat) (hlg : g.grs.length ≤ 9223372036854775807) (c : Crt) (ah : Option Addr) (ch : Nat) (hlh : c.hs.length ≤ 9223372036854775807) (k : Int) (H : Heap) (R : Facts) [hG : MemRows ag 5 (grows g.grs) R] [hA : MemRows ah 5 (hrows c.hs) R] :
    FnV Tryz.prog 60 [g.v (g.sl ag cg), c.v (c.sl ah ch), .int .i64 k] H R (wgtR g c k) := by
 refine fn_of Tryz.func60 rfl Tryz.ntmps60 rfl ?_
 refine sy_seq ?_
 refine sy_tx' [0, 1, 2, 3] rfl ?_
 refine bx rfl rfl rfl (fun b3 => ?_)
 refine bx rfl rfl rfl (fun b4 => ?_)
 refine alc rfl zl61 rfl (fun b6 => ?_)
 refine sp rfl (PE.assign rfl) rfl ?_
 refine sy_seq ?_
 refine sy_draw [0, 0, 0, 4, 12, 31, 63, 127, 127, 127, 0, 1279, 3583, 8191] (.ld 0 (.ld 1 (.tk 2 (.any (.alt 3 (.tk 4 (.any (.alt 5 (.tk 6 (.tk 7 (.tk 8 (.tk 9 (.big 10 (.tk 11 (.big 12 (.tk 13 .done)))))))) (.alt 10 (.big 5 (.tk 6 (.tk 7 (.tk 8 (.tk 9 (.tk 11 (.big 12 (.tk 13 .done)))))))) .stop)))) (.alt 10 (.big 3 (.tk 4 (.big 5 (.tk 6 (.tk 7 (.tk 8 (.tk 9 (.tk 11 (.big 12 (.tk 13 .done)))))))))) .stop)))))) mixed (by kernel_rfl) ?_
 refine ld rfl rfl (lhA [_, _, _] ag25 rfl rfl rfl) rfl ?_
 refine ld rfl rfl (lhA [_, _, _] ag28 rfl rfl rfl) rfl ?_
 refine tk rfl (PE.move rfl) rfl ?_
 refine sy_alt ?_ ?_
 refine clV rfl cal14 rfl rfl (c_in _ _ _ _ _) ?_
 refine bg (fun w hs => ⟨(lhA [_, _, _] ag28 rfl rfl rfl) w hs, (lhA [_, _, _] ag25 rfl rfl rfl) w hs, trivial⟩) ?_
 refine tk rfl (PE.not rfl) rfl ?_
 refine sy_alt ?_ ?_
 refine cl rfl cal80 rfl rfl (c_told g ag cg hlg c ah ch hlh (!(inb k 0 3)) _ _) ?_
 rintro _ _ _ ⟨rfl, hT⟩
 rcases hT with ⟨hne, rfl, rfl⟩ | ⟨h0, hg, hc, bw, b, hb, rfl, rfl⟩
 refine bg (fun w hs => ⟨trivial, trivial, trivial⟩) ?_
 refine tk rfl (PE.move rfl) rfl ?_
 refine tk rfl (PE.extract rfl rfl) rfl ?_
 refine tk rfl (PE.extract rfl rfl) rfl ?_
 refine tk rfl (PE.extract rfl rfl) rfl ?_
 refine alc rfl zl128 rfl (fun b9 => ?_)
 refine bg (fun w hs => trivial) ?_
 refine tk rfl (PE.assign rfl) rfl ?_
 refine stoA rfl rfl rfl cn128 rfl (by rw [ints_length]; exact rfl) rfl (ints_one _) ?_
 refine bg (fun w hs => trivial) ?_
 refine tk rfl (PE.assign rfl) rfl ?_
 refine sy_seq ?_
 refine sy_seq ?_
 refine sy_tx' [0, 1] rfl ?_
 refine sp rfl (PE.move rfl) rfl ?_
 refine sp rfl (PE.neq rfl rfl) rfl ?_
 refine sy_cond rfl (fun hc0 => ?_) (fun hc0 => ?_)
 refine sy_seq ?_
 refine sy_tx' [0, 1, 2, 3] rfl ?_
 refine sp rfl (PE.build (out := [_, _]) pl61 zl61 rfl rfl) rfl ?_
 refine sp rfl (PE.move rfl) rfl ?_
 refine sto rfl rfl rfl cn61 rfl rfl rfl rfl ?_
 refine sp rfl (PE.assign rfl) rfl ?_
 refine sy_ret ?_
 exact sy_return (vs := [_, _]) rfl (.cons (RV.cell rfl (lhA [_, _] ag61 rfl rfl rfl)) (.cons (RV.tmp rfl) .nil)) (by unfold wgtR; rw [decide_eq_true hne]; rfl) ⟨rfl, rfl, rfl⟩ drp
 exact absurd hc0 (by rw [decide_eq_true hne]; simp)
 refine bg (fun w hs => ⟨trivial, trivial, trivial⟩) ?_
 have hbt := told_tight hb
 have hbl := hbt.ok.len
 have hin : inb k 0 3 = true := by
   cases hin : inb k 0 3 with
   | true => rfl
   | false => rw [hin] at h0; exact (told_bad h0).elim
 have h00 : toldE g c false = 0 := by rw [hin] at h0; exact h0
 have hbd := bnd_of h00 hb
 simp only [inb, Bool.and_eq_true, decide_eq_true_eq] at hin
 obtain ⟨q, rfl⟩ : ∃ q : Nat, k = q := ⟨k.toNat, by omega⟩
 have hq4 : q < 4 := by omega
 obtain ⟨hn1, hn2⟩ := net_bd hg hc
 have hbq := hbt.ok.at_ q hq4
 have hbf := hbt.fit q hq4
 have hm1 := mul_b hn1.1 hn1.2 (show 0 ≤ bl b q by omega) (show bl b q ≤ 40 by omega)
 have hm2 := mul_b hn2.1 hn2.2 (show 0 ≤ bh b q by omega) (show bh b q ≤ 40 by omega)
 obtain ⟨hx1, hx2⟩ := box_cell hbl hq4
 simp only [netP] at hm1 hm2
 refine tk rfl (PE.move rfl) rfl ?_
 refine tk rfl (PE.extract rfl rfl) rfl ?_
 refine tk rfl (PE.extract rfl rfl) rfl ?_
 refine tk rfl (PE.extract rfl rfl) rfl ?_
 refine alc rfl zl128 rfl (fun b9 => ?_)
 refine bg (fun w hs => trivial) ?_
 refine tk rfl (PE.assign rfl) rfl ?_
 refine stoA rfl rfl rfl cn128 rfl (by rw [ints_length]; exact hbl) rfl (ints_one _) ?_
 refine bg (fun w hs => trivial) ?_
 refine tk rfl (PE.assign rfl) rfl ?_
 refine sy_seq ?_
 refine sy_seq ?_
 refine sy_tx' [0, 1] rfl ?_
 refine sp rfl (PE.move rfl) rfl ?_
 refine sp rfl (PE.neq rfl rfl) rfl ?_
 refine sy_cond rfl (fun hc0 => ?_) (fun hc0 => ?_)
 exact absurd hc0 (by simp)
 refine sy_skip ?_
 refine sy_seq ?_
 refine sy_tx' [0, 1, 2, 3] rfl ?_
 refine sp rfl (PE.move rfl) rfl ?_
 refine clV rfl cal79 rfl rfl (c_net g hg ag cg c hc ah ch bw _ _) ?_
 refine alc rfl zl61 rfl (fun b11 => ?_)
 refine sto rfl rfl rfl cn61 rfl rfl rfl rfl ?_
 refine sy_seq ?_
 refine sy_draw [0, 1, 0, 4, 12, 28, 63, 127, 0, 256, 0, 1024, 3072, 7168, 16128, 32512, 65535, 131071, 262143] (.tk 0 (.ld 1 (.tk 2 (.tk 3 (.tk 4 (.ld 5 (.tk 6 (.tk 7 (.tk 8 (.ld 9 (.tk 10 (.tk 11 (.tk 12 (.ld 13 (.tk 14 (.tk 15 (.tk 16 (.big 17 (.tk 18 .done))))))))))))))))))) mixed (by kernel_rfl) ?_
 refine tk rfl (PE.fieldAddr fo61_0 rfl) rfl ?_
 refine ld rfl rfl (lh sc3 rfl rfl) rfl ?_
 refine tk rfl (PE.move rfl) rfl ?_
 refine tk rfl (PE.indexArr ar128 rfl rfl (by omega) (by omega)) rfl ?_
 refine tk rfl (PE.fieldAddr fo61_0 rfl) rfl ?_
 refine ld rfl rfl (lh sc3 rfl hx1) rfl ?_
 refine tk rfl (PE.mul rfl rfl (by omega)) rfl ?_
 refine tk rfl (PE.quo rfl rfl (by omega)) rfl ?_
 refine tk rfl (PE.fieldAddr fo61_1 rfl) rfl ?_
 refine ld rfl rfl (lh sc3 rfl rfl) rfl ?_
 refine tk rfl (PE.move rfl) rfl ?_
 refine tk rfl (PE.indexArr ar128 rfl rfl (by omega) (by omega)) rfl ?_
 refine tk rfl (PE.fieldAddr fo61_1 rfl) rfl ?_
 refine ld rfl rfl (lh sc3 rfl hx2) rfl ?_
 refine tk rfl (PE.mul rfl rfl (by omega)) rfl ?_
 refine tk rfl (PE.quo rfl rfl (by omega)) rfl ?_
 refine tk rfl (PE.build (out := [_, _]) pl61 zl61 rfl rfl) rfl ?_
 refine sto rfl rfl rfl cn61 rfl rfl rfl rfl ?_
 refine bg (fun w hs => ⟨trivial, trivial, trivial, trivial, trivial⟩) ?_
 refine tk rfl (PE.assign rfl) rfl ?_
 refine sy_ret ?_
 exact sy_return (vs := [_, _]) rfl (.cons (RV.cell rfl (lhA [_, _] ag61 rfl rfl rfl)) (.cons (RV.tmp rfl) .nil)) (by unfold wgtR; rw [decide_eq_false (by omega), hbd]; rfl) ⟨rfl, rfl, rfl⟩ drp
 refine sy_alt ?_ ?_
 refine alc rfl zl128 rfl (fun b9 => ?_)
 refine bg (fun w hs => ⟨(lhA [_, _, _] ag28 rfl rfl rfl) w hs, (lhA [_, _, _] ag25 rfl rfl rfl) w hs, trivial⟩) ?_
 refine cl rfl cal80 rfl rfl (c_told g ag cg hlg c ah ch hlh (!(inb k 0 3)) _ _) ?_
 rintro _ _ _ ⟨rfl, hT⟩
 rcases hT with ⟨hne, rfl, rfl⟩ | ⟨h0, hg, hc, bw, b, hb, rfl, rfl⟩
 refine bg (fun w hs => ⟨trivial, trivial, trivial⟩) ?_
 refine tk rfl (PE.move rfl) rfl ?_
 refine tk rfl (PE.extract rfl rfl) rfl ?_
 refine tk rfl (PE.extract rfl rfl) rfl ?_
 refine tk rfl (PE.extract rfl rfl) rfl ?_
 refine tk rfl (PE.assign rfl) rfl ?_
 refine stoA rfl rfl rfl cn128 rfl (by rw [ints_length]; exact rfl) rfl (ints_one _) ?_
 refine bg (fun w hs => trivial) ?_
 refine tk rfl (PE.assign rfl) rfl ?_
 refine sy_seq ?_
 refine sy_seq ?_
 refine sy_tx' [0, 1] rfl ?_
 refine sp rfl (PE.move rfl) rfl ?_
 refine sp rfl (PE.neq rfl rfl) rfl ?_
 refine sy_cond rfl (fun hc0 => ?_) (fun hc0 => ?_)
 refine sy_seq ?_
 refine sy_tx' [0, 1, 2, 3] rfl ?_
 refine sp rfl (PE.build (out := [_, _]) pl61 zl61 rfl rfl) rfl ?_
 refine sp rfl (PE.move rfl) rfl ?_
 refine sto rfl rfl rfl cn61 rfl rfl rfl rfl ?_
 refine sp rfl (PE.assign rfl) rfl ?_
 refine sy_ret ?_
 exact sy_return (vs := [_, _]) rfl (.cons (RV.cell rfl (lhA [_, _] ag61 rfl rfl rfl)) (.cons (RV.tmp rfl) .nil)) (by unfold wgtR; rw [decide_eq_true hne]; rfl) ⟨rfl, rfl, rfl⟩ drp
 exact absurd hc0 (by rw [decide_eq_true hne]; simp)
 refine bg (fun w hs => ⟨trivial, trivial, trivial⟩) ?_
 have hbt := told_tight hb
 have hbl := hbt.ok.len
 have hin : inb k 0 3 = true := by
   cases hin : inb k 0 3 with
   | true => rfl
   | false => rw [hin] at h0; exact (told_bad h0).elim
 have h00 : toldE g c false = 0 := by rw [hin] at h0; exact h0
 have hbd := bnd_of h00 hb
 simp only [inb, Bool.and_eq_true, decide_eq_true_eq] at hin
 obtain ⟨q, rfl⟩ : ∃ q : Nat, k = q := ⟨k.toNat, by omega⟩
 have hq4 : q < 4 := by omega
 obtain ⟨hn1, hn2⟩ := net_bd hg hc
 have hbq := hbt.ok.at_ q hq4
 have hbf := hbt.fit q hq4
 have hm1 := mul_b hn1.1 hn1.2 (show 0 ≤ bl b q by omega) (show bl b q ≤ 40 by omega)
 have hm2 := mul_b hn2.1 hn2.2 (show 0 ≤ bh b q by omega) (show bh b q ≤ 40 by omega)
 obtain ⟨hx1, hx2⟩ := box_cell hbl hq4
 simp only [netP] at hm1 hm2
 refine tk rfl (PE.move rfl) rfl ?_
 refine tk rfl (PE.extract rfl rfl) rfl ?_
 refine tk rfl (PE.extract rfl rfl) rfl ?_
 refine tk rfl (PE.extract rfl rfl) rfl ?_
 refine tk rfl (PE.assign rfl) rfl ?_
 refine stoA rfl rfl rfl cn128 rfl (by rw [ints_length]; exact hbl) rfl (ints_one _) ?_
 refine bg (fun w hs => trivial) ?_
 refine tk rfl (PE.assign rfl) rfl ?_
 refine sy_seq ?_
 refine sy_seq ?_
 refine sy_tx' [0, 1] rfl ?_
 refine sp rfl (PE.move rfl) rfl ?_
 refine sp rfl (PE.neq rfl rfl) rfl ?_
 refine sy_cond rfl (fun hc0 => ?_) (fun hc0 => ?_)
 exact absurd hc0 (by simp)
 refine sy_skip ?_
 refine sy_seq ?_
 refine sy_tx' [0, 1, 2, 3] rfl ?_
 refine sp rfl (PE.move rfl) rfl ?_
 refine clV rfl cal79 rfl rfl (c_net g hg ag cg c hc ah ch bw _ _) ?_
 refine alc rfl zl61 rfl (fun b11 => ?_)
 refine sto rfl rfl rfl cn61 rfl rfl rfl rfl ?_
 refine sy_seq ?_
 refine sy_draw [0, 1, 0, 4, 12, 28, 63, 127, 0, 256, 0, 1024, 3072, 7168, 16128, 32512, 65535, 131071, 262143] (.tk 0 (.ld 1 (.tk 2 (.tk 3 (.tk 4 (.ld 5 (.tk 6 (.tk 7 (.tk 8 (.ld 9 (.tk 10 (.tk 11 (.tk 12 (.ld 13 (.tk 14 (.tk 15 (.tk 16 (.big 17 (.tk 18 .done))))))))))))))))))) mixed (by kernel_rfl) ?_
 refine tk rfl (PE.fieldAddr fo61_0 rfl) rfl ?_
 refine ld rfl rfl (lh sc3 rfl rfl) rfl ?_
 refine tk rfl (PE.move rfl) rfl ?_
 refine tk rfl (PE.indexArr ar128 rfl rfl (by omega) (by omega)) rfl ?_
 refine tk rfl (PE.fieldAddr fo61_0 rfl) rfl ?_
 refine ld rfl rfl (lh sc3 rfl hx1) rfl ?_
 refine tk rfl (PE.mul rfl rfl (by omega)) rfl ?_
 refine tk rfl (PE.quo rfl rfl (by omega)) rfl ?_
 refine tk rfl (PE.fieldAddr fo61_1 rfl) rfl ?_
 refine ld rfl rfl (lh sc3 rfl rfl) rfl ?_
 refine tk rfl (PE.move rfl) rfl ?_
 refine tk rfl (PE.indexArr ar128 rfl rfl (by omega) (by omega)) rfl ?_
 refine tk rfl (PE.fieldAddr fo61_1 rfl) rfl ?_
 refine ld rfl rfl (lh sc3 rfl hx2) rfl ?_
 refine tk rfl (PE.mul rfl rfl (by omega)) rfl ?_
 refine tk rfl (PE.quo rfl rfl (by omega)) rfl ?_
 refine tk rfl (PE.build (out := [_, _]) pl61 zl61 rfl rfl) rfl ?_
 refine sto rfl rfl rfl cn61 rfl rfl rfl rfl ?_
 refine bg (fun w hs => ⟨trivial, trivial, trivial, trivial, trivial⟩) ?_
 refine tk rfl (PE.assign rfl) rfl ?_
 refine sy_ret ?_
 exact sy_return (vs := [_, _]) rfl (.cons (RV.cell rfl (lhA [_, _] ag61 rfl rfl rfl)) (.cons (RV.tmp rfl) .nil)) (by unfold wgtR; rw [decide_eq_false (by omega), hbd]; rfl) ⟨rfl, rfl, rfl⟩ drp
 exact sy_stop
 refine sy_alt ?_ ?_
 refine alc rfl zl128 rfl (fun b9 => ?_)
 refine bg (fun w hs => ⟨(lhA [_, _, _] ag28 rfl rfl rfl) w hs, (lhA [_, _, _] ag25 rfl rfl rfl) w hs, trivial⟩) ?_
 refine clV rfl cal14 rfl rfl (c_in _ _ _ _ _) ?_
 refine bg (fun w hs => ⟨(lhA [_, _, _] ag28 rfl rfl rfl) w hs, (lhA [_, _, _] ag25 rfl rfl rfl) w hs, trivial⟩) ?_
 refine tk rfl (PE.not rfl) rfl ?_
 refine cl rfl cal80 rfl rfl (c_told g ag cg hlg c ah ch hlh (!(inb k 0 3)) _ _) ?_
 rintro _ _ _ ⟨rfl, hT⟩
 rcases hT with ⟨hne, rfl, rfl⟩ | ⟨h0, hg, hc, bw, b, hb, rfl, rfl⟩
 refine bg (fun w hs => ⟨trivial, trivial, trivial⟩) ?_
 refine tk rfl (PE.move rfl) rfl ?_
 refine tk rfl (PE.extract rfl rfl) rfl ?_
 refine tk rfl (PE.extract rfl rfl) rfl ?_
 refine tk rfl (PE.extract rfl rfl) rfl ?_
 refine tk rfl (PE.assign rfl) rfl ?_
 refine stoA rfl rfl rfl cn128 rfl (by rw [ints_length]; exact rfl) rfl (ints_one _) ?_
 refine bg (fun w hs => trivial) ?_
 refine tk rfl (PE.assign rfl) rfl ?_
 refine sy_seq ?_
 refine sy_seq ?_
 refine sy_tx' [0, 1] rfl ?_
 refine sp rfl (PE.move rfl) rfl ?_
 refine sp rfl (PE.neq rfl rfl) rfl ?_
 refine sy_cond rfl (fun hc0 => ?_) (fun hc0 => ?_)
 refine sy_seq ?_
 refine sy_tx' [0, 1, 2, 3] rfl ?_
 refine sp rfl (PE.build (out := [_, _]) pl61 zl61 rfl rfl) rfl ?_
 refine sp rfl (PE.move rfl) rfl ?_
 refine sto rfl rfl rfl cn61 rfl rfl rfl rfl ?_
 refine sp rfl (PE.assign rfl) rfl ?_
 refine sy_ret ?_
 exact sy_return (vs := [_, _]) rfl (.cons (RV.cell rfl (lhA [_, _] ag61 rfl rfl rfl)) (.cons (RV.tmp rfl) .nil)) (by unfold wgtR; rw [decide_eq_true hne]; rfl) ⟨rfl, rfl, rfl⟩ drp
 exact absurd hc0 (by rw [decide_eq_true hne]; simp)
 refine bg (fun w hs => ⟨trivial, trivial, trivial⟩) ?_
 have hbt := told_tight hb
 have hbl := hbt.ok.len
 have hin : inb k 0 3 = true := by
   cases hin : inb k 0 3 with
   | true => rfl
   | false => rw [hin] at h0; exact (told_bad h0).elim
 have h00 : toldE g c false = 0 := by rw [hin] at h0; exact h0
 have hbd := bnd_of h00 hb
 simp only [inb, Bool.and_eq_true, decide_eq_true_eq] at hin
 obtain ⟨q, rfl⟩ : ∃ q : Nat, k = q := ⟨k.toNat, by omega⟩
 have hq4 : q < 4 := by omega
 obtain ⟨hn1, hn2⟩ := net_bd hg hc
 have hbq := hbt.ok.at_ q hq4
 have hbf := hbt.fit q hq4
 have hm1 := mul_b hn1.1 hn1.2 (show 0 ≤ bl b q by omega) (show bl b q ≤ 40 by omega)
 have hm2 := mul_b hn2.1 hn2.2 (show 0 ≤ bh b q by omega) (show bh b q ≤ 40 by omega)
 obtain ⟨hx1, hx2⟩ := box_cell hbl hq4
 simp only [netP] at hm1 hm2
 refine tk rfl (PE.move rfl) rfl ?_
 refine tk rfl (PE.extract rfl rfl) rfl ?_
 refine tk rfl (PE.extract rfl rfl) rfl ?_
 refine tk rfl (PE.extract rfl rfl) rfl ?_
 refine tk rfl (PE.assign rfl) rfl ?_
 refine stoA rfl rfl rfl cn128 rfl (by rw [ints_length]; exact hbl) rfl (ints_one _) ?_
 refine bg (fun w hs => trivial) ?_
 refine tk rfl (PE.assign rfl) rfl ?_
 refine sy_seq ?_
 refine sy_seq ?_
 refine sy_tx' [0, 1] rfl ?_
 refine sp rfl (PE.move rfl) rfl ?_
 refine sp rfl (PE.neq rfl rfl) rfl ?_
 refine sy_cond rfl (fun hc0 => ?_) (fun hc0 => ?_)
 exact absurd hc0 (by simp)
 refine sy_skip ?_
 refine sy_seq ?_
 refine sy_tx' [0, 1, 2, 3] rfl ?_
 refine sp rfl (PE.move rfl) rfl ?_
 refine clV rfl cal79 rfl rfl (c_net g hg ag cg c hc ah ch bw _ _) ?_
 refine alc rfl zl61 rfl (fun b11 => ?_)
 refine sto rfl rfl rfl cn61 rfl rfl rfl rfl ?_
 refine sy_seq ?_
 refine sy_draw [0, 1, 0, 4, 12, 28, 63, 127, 0, 256, 0, 1024, 3072, 7168, 16128, 32512, 65535, 131071, 262143] (.tk 0 (.ld 1 (.tk 2 (.tk 3 (.tk 4 (.ld 5 (.tk 6 (.tk 7 (.tk 8 (.ld 9 (.tk 10 (.tk 11 (.tk 12 (.ld 13 (.tk 14 (.tk 15 (.tk 16 (.big 17 (.tk 18 .done))))))))))))))))))) mixed (by kernel_rfl) ?_
 refine tk rfl (PE.fieldAddr fo61_0 rfl) rfl ?_
 refine ld rfl rfl (lh sc3 rfl rfl) rfl ?_
 refine tk rfl (PE.move rfl) rfl ?_
 refine tk rfl (PE.indexArr ar128 rfl rfl (by omega) (by omega)) rfl ?_
 refine tk rfl (PE.fieldAddr fo61_0 rfl) rfl ?_
 refine ld rfl rfl (lh sc3 rfl hx1) rfl ?_
 refine tk rfl (PE.mul rfl rfl (by omega)) rfl ?_
 refine tk rfl (PE.quo rfl rfl (by omega)) rfl ?_
 refine tk rfl (PE.fieldAddr fo61_1 rfl) rfl ?_
 refine ld rfl rfl (lh sc3 rfl rfl) rfl ?_
 refine tk rfl (PE.move rfl) rfl ?_
 refine tk rfl (PE.indexArr ar128 rfl rfl (by omega) (by omega)) rfl ?_
 refine tk rfl (PE.fieldAddr fo61_1 rfl) rfl ?_
 refine ld rfl rfl (lh sc3 rfl hx2) rfl ?_
 refine tk rfl (PE.mul rfl rfl (by omega)) rfl ?_
 refine tk rfl (PE.quo rfl rfl (by omega)) rfl ?_
 refine tk rfl (PE.build (out := [_, _]) pl61 zl61 rfl rfl) rfl ?_
 refine sto rfl rfl rfl cn61 rfl rfl rfl rfl ?_
 refine bg (fun w hs => ⟨trivial, trivial, trivial, trivial, trivial⟩) ?_
 refine tk rfl (PE.assign rfl) rfl ?_
 refine sy_ret ?_
 exact sy_return (vs := [_, _]) rfl (.cons (RV.cell rfl (lhA [_, _] ag61 rfl rfl rfl)) (.cons (RV.tmp rfl) .nil)) (by unfold wgtR; rw [decide_eq_false (by omega), hbd]; rfl) ⟨rfl, rfl, rfl⟩ drp
 exact sy_stop
end Go.Proofs.YtndhkpnaeocnhaaGreat
namespace Go.Proofs.YtndhkpnaeocnhaaGreat
set_option linter.unusedSimpArgs false
set_option linter.unusedVariables false
open Go
theorem cal110 : cal Tryz.prog 110 = true := by kernel_rfl
theorem cal117 : cal Tryz.prog 117 = true := by kernel_rfl
theorem cal70 : cal Tryz.prog 70 = true := by kernel_rfl
theorem cal85 : cal Tryz.prog 85 = true := by kernel_rfl
theorem cal86 : cal Tryz.prog 86 = true := by kernel_rfl
theorem cal87 : cal Tryz.prog 87 = true := by kernel_rfl
theorem cn122 : cellN Tryz.prog 122 = some 1 := by kernel_rfl
theorem cn124 : cellN Tryz.prog 124 = some 1 := by kernel_rfl
theorem cn22 : cellN Tryz.prog 22 = some 1 := by kernel_rfl
theorem sc122 : scal Tryz.prog 122 = true := by kernel_rfl
theorem sc124 : scal Tryz.prog 124 = true := by kernel_rfl
theorem sc22 : scal Tryz.prog 22 = true := by kernel_rfl
theorem zl122 : zeroL Tryz.prog 122 = some ([.nilFunc]) := by kernel_rfl
theorem zl124 : zeroL Tryz.prog 124 = some ([.pointer none]) := by kernel_rfl
theorem zl22 : zeroL Tryz.prog 22 = some ([.slice none 0 0]) := by kernel_rfl
theorem rows_nil {a : Option Addr} {sz : Nat} {rows : List (List Value)} {w : World} (h : RowsA a sz rows w) (ha : a.isNone = true) : rows = [] := by
  false_or_by_contra
  rename_i h0
  obtain ⟨b, off, e⟩ := rows_addr h h0
  rw [e] at ha; cases ha
theorem St.norows {sz : Nat} {H : Heap} {R : Facts} {w : World} (h : St H R w) : St H (RowsA none sz [] :: R) w := St.also h (fun _ _ i row hi => by simp at hi)
theorem more_hit {ag : List Int → Bool} {n r fr i : Nat} {l x : List Int} (h1 : ∀ j, fr ≤ j → j < i → moreS ag n r (l ++ [(j : Int)]) (j + 1) = none) (hi : fr ≤ i ∧ i < n) (h : moreS ag n r (l ++ [(i : Int)]) (i + 1) = some x) : moreS ag n (r + 1) l fr = some x := by
  unfold moreS
  obtain ⟨d, rfl⟩ : ∃ d, i = fr + d := ⟨i - fr, by omega⟩
  have key : ∀ (m fr : Nat) (d : Nat), d < m → (∀ j, fr ≤ j → j < fr + d → moreS ag n r (l ++ [(j : Int)]) (j + 1) = none) → moreS ag n r (l ++ [((fr + d : Nat) : Int)]) (fr + d + 1) = some x → (List.range' fr m).findSome? (fun (i : Nat) => moreS ag n r (l ++ [((i : Nat) : Int)]) (i + 1)) = some x := by
    intro m
    induction m with
    | zero => intro fr d hd; omega
    | succ m ih =>
      intro fr d hd hn hs
      rw [List.range'_succ, List.findSome?_cons]
      cases d with
      | zero => rw [show moreS ag n r (l ++ [((fr : Nat) : Int)]) (fr + 1) = some x from hs]
      | succ d =>
        rw [hn fr (Nat.le_refl _) (by omega)]
        exact ih (fr + 1) d (by omega) (fun j h1 h2 => hn j (by omega) (by omega)) (by rw [show fr + 1 + d = fr + (d + 1) from by omega]; exact hs)
  exact key (n - fr) fr d (by omega) h1 h
theorem more_none {ag : List Int → Bool} {n r fr : Nat} {l : List Int} (h1 : ∀ j, fr ≤ j → j < n → moreS ag n r (l ++ [(j : Int)]) (j + 1) = none) : moreS ag n (r + 1) l fr = none := by
  unfold moreS
  rw [List.findSome?_eq_none_iff]
  intro i hi
  rw [List.mem_range'_1] at hi
  exact h1 i hi.1 (by omega)
theorem clash_no {ag : List Int → Bool} {n : Nat} (h : ∀ k, 1 ≤ k → k ≤ n → moreS ag n k [] 0 = none) : clashS ag n = none := by
  unfold clashS
  rw [List.findSome?_eq_none_iff]
  intro i hi
  rw [List.mem_range'_1] at hi
  exact h i hi.1 (by omega)
theorem clash_at {ag : List Int → Bool} {n k : Nat} {x : List Int} (h1 : ∀ j, 1 ≤ j → j < k → moreS ag n j [] 0 = none) (hk : 1 ≤ k ∧ k ≤ n) (h : moreS ag n k [] 0 = some x) : clashS ag n = some x := by
  unfold clashS
  obtain ⟨d, rfl⟩ : ∃ d, k = 1 + d := ⟨k - 1, by omega⟩
  have key : ∀ (m fr : Nat) (d : Nat), d < m → (∀ j, fr ≤ j → j < fr + d → moreS ag n j [] 0 = none) → moreS ag n (fr + d) [] 0 = some x → (List.range' fr m).findSome? (fun k => moreS ag n k [] 0) = some x := by
    intro m
    induction m with
    | zero => intro fr d hd; omega
    | succ m ih =>
      intro fr d hd hn hs
      rw [List.range'_succ, List.findSome?_cons]
      cases d with
      | zero => rw [show moreS ag n fr [] 0 = some x from hs]
      | succ d =>
        rw [hn fr (Nat.le_refl _) (by omega)]
        exact ih (fr + 1) d (by omega) (fun j h1 h2 => hn j (by omega) (by omega)) (by rw [show fr + 1 + d = fr + (d + 1) from by omega]; exact hs)
  exact key n 1 d (by omega) h1 h
def ClQ (c8 : Nat) (H : Heap) (R : Facts) : Option (List Int) → Value → Heap → Facts → Prop
  | none, v, H', R' => v = .bool false ∧ ∃ ov, H' = (c8, cel 22 [ov]) :: H ∧ R' = R
  | some x, v, H', R' => v = .bool true ∧ ∃ a c, H' = (c8, cel 22 [.slice a x.length c]) :: H ∧ R' = RowsA a 1 (irows x) :: R
abbrev agL (miss : Int) (hs : List Hnd) : List Int → Bool := fun l => agr miss hs (flt l)
def claR (g : Gat) (c : Crt) : List Int × Int := bif decide (bothE g c ≠ 0) then ([], bothE g c) else bif agr g.miss c.hs (fun _ => true) then ([], 6) else (clashL g.miss c.hs, 0)
theorem c_index_int (xs : List Int) (a : Option Addr) (c : Nat) (v : Int) (hl : xs.length ≤ 9223372036854775807) (H : Heap) (R : Facts) [hR : MemRows a 1 (irows xs) R] :
    FnV Tryz.prog 110 [.slice a xs.length c, .int .i64 v] H R (.int .i64 (match xs.findIdx? (fun x => decide (v = x)) with | some k => (k : Int) | none => -1)) := by
 refine fn_of Tryz.func110 rfl Tryz.ntmps110 rfl ?_
 refine sy_seq ?_
 refine sy_tx' [0] rfl ?_
 refine sp rfl (PE.assign rfl) rfl ?_
 refine sy_seq ?_
 refine sy_seq ?_
 refine sy_tx' [0, 1, 2] rfl ?_
 refine sp rfl (PE.move rfl) rfl ?_
 refine sp rfl (PE.lenSl isl22 rfl) rfl ?_
 refine sp rfl (PE.move rfl) rfl ?_
 refine sy_block ?_
 refine sy_loop (ι := {k : Nat // k ≤ xs.length ∧ ∀ x ∈ xs.take k, decide (v = x) = false}) (fun k => ⟨[(0, .slice a xs.length c), (1, .int .i64 v), (7, .int .i64 xs.length), (8, .int .i64 k.1)], H, R⟩) (fun k => xs.length - k.1) ⟨0, by simp⟩ ?_ (fun k => ?_)
 exact sy_at (by repeat' first | exact Sub.nil | apply Sub.cons | rfl | (simp [lk]; omega)) (fun _ h => h)
 obtain ⟨k, hk, hn⟩ := k
 dsimp only
 refine sy_seq ?_
 refine sy_tx' [0] rfl ?_
 refine sp rfl (PE.lss rfl rfl) rfl ?_
 refine sy_seq ?_
 refine sy_cond rfl (fun hc0 => ?_) (fun hc0 => ?_)
 simp only [decide_eq_true_eq, decide_eq_false_iff_not, Bool.and_eq_true, Bool.or_eq_true, Bool.not_eq_true', Int.not_le, Int.not_lt] at hc0
 obtain ⟨x, hx⟩ : ∃ x, xs[k]? = some x := ⟨_, List.getElem?_eq_getElem (by omega)⟩
 refine sy_addr (a := a) (sz := 1) (rows := irows xs) (by cases xs <;> simp_all [irows]) (fun b off he => ?_)
 subst he
 refine sy_skip ?_
 refine sy_seq ?_
 refine sy_block ?_
 refine sy_seq ?_
 refine sy_tx' [0, 1] rfl ?_
 refine sp rfl (PE.move rfl) rfl ?_
 refine sp rfl (PE.assign rfl) rfl ?_
 refine sy_seq ?_
 refine sy_tx' [0, 1, 2, 3, 4, 5] rfl ?_
 refine sp rfl (PE.move rfl) rfl ?_
 refine sp rfl (PE.move rfl) rfl ?_
 refine sp rfl (PE.move rfl) rfl ?_
 refine sp rfl (PE.indexAddr el22 rfl rfl (by omega) (by omega)) rfl ?_
 refine spL rfl rfl (lf0 sc3 (by simp [irows, hx]; rfl) rfl) rfl ?_
 refine sp rfl (PE.eql rfl rfl) rfl ?_
 refine sy_cond rfl (fun hc1 => ?_) (fun hc1 => ?_)
 refine sy_seq ?_
 refine sy_tx' [0, 1] rfl ?_
 refine sp rfl (PE.move rfl) rfl ?_
 refine sp rfl (PE.assign rfl) rfl ?_
 refine sy_ret ?_
 first | (exact sy_return (vs := [_]) rfl (.cons (RV.tmp rfl) .nil) rfl ⟨by rw [find_hit hx hn hc1]; rfl, rfl, rfl⟩ (fun _ h => h)) | (exact sy_return (vs := [_]) rfl (.cons (RV.tmp rfl) .nil) rfl ⟨by rw [find_miss (by simpa using hn)]; rfl, rfl, rfl⟩ (fun _ h => h))
 refine sy_skip ?_
 refine sy_tx' [0, 1] rfl ?_
 refine sp rfl (PE.add rfl rfl (by omega)) rfl ?_
 refine sp rfl (PE.move rfl) rfl ?_
 exact sy_next ⟨k + 1, by omega, take_miss hx hn hc1⟩ (by dsimp only; omega) (by repeat' first | exact Sub.nil | apply Sub.cons | rfl | (simp [lk]; omega)) (fun _ h => h)
 simp only [decide_eq_true_eq, decide_eq_false_iff_not, Bool.and_eq_true, Bool.or_eq_true, Bool.not_eq_true', Int.not_le, Int.not_lt] at hc0
 obtain rfl : k = xs.length := by omega
 refine sy_exit ?_
 repeat refine sy_tx ?_
 refine sy_bx ?_
 refine sy_seq ?_
 refine sy_tx' [0] rfl ?_
 refine sp rfl (PE.assign rfl) rfl ?_
 refine sy_ret ?_
 first | (exact sy_return (vs := [_]) rfl (.cons (RV.tmp rfl) .nil) rfl ⟨by rw [find_hit hx hn hc1]; rfl, rfl, rfl⟩ (fun _ h => h)) | (exact sy_return (vs := [_]) rfl (.cons (RV.tmp rfl) .nil) rfl ⟨by rw [find_miss (by simpa using hn)]; rfl, rfl, rfl⟩ (fun _ h => h))
theorem c_contains_int (xs : List Int) (a : Option Addr) (c : Nat) (v : Int) (hl : xs.length ≤ 9223372036854775807) (H : Heap) (R : Facts) [hR : MemRows a 1 (irows xs) R] :
    FnV Tryz.prog 70 [.slice a xs.length c, .int .i64 v] H R (.bool (xs.any fun x => decide (v = x))) := by
 refine fn_of Tryz.func70 rfl Tryz.ntmps70 rfl ?_
 refine sy_seq ?_
 refine sy_tx' [0] rfl ?_
 refine sp rfl (PE.assign rfl) rfl ?_
 refine sy_seq ?_
 refine sy_tx' [0, 1, 2, 3, 4] rfl ?_
 refine sp rfl (PE.move rfl) rfl ?_
 refine sp rfl (PE.move rfl) rfl ?_
 refine clV rfl cal110 rfl rfl (c_index_int xs a c v hl _ _) ?_
 refine sp rfl (PE.geq rfl rfl) rfl ?_
 refine sp rfl (PE.assign rfl) rfl ?_
 refine sy_ret ?_
 exact sy_return (vs := [_]) rfl (.cons (RV.tmp rfl) .nil) rfl ⟨by simp only [retV]; exact idx_any _ _, rfl, rfl⟩ drp
theorem c_clone_int (xs : List Int) (a : Option Addr) (c : Nat) (hl : xs.length ≤ 1000000) (H : Heap) (R : Facts) [hR : MemRows a 1 (irows xs) R] :
    Fn Tryz.prog 87 [.slice a xs.length c] H R (fun v H' R' => ∃ o : OSl 3 1 (irows xs), v = o.fs ∧ H' = o.G ++ H ∧ R' = R ∧ (a.isSome = true → o.here)) := by
 refine fn_of Tryz.func87 rfl Tryz.ntmps87 rfl ?_
 refine sy_seq ?_
 refine sy_tx' [0] rfl ?_
 refine sp rfl (PE.assign rfl) rfl ?_
 refine sy_seq ?_
 refine sy_seq ?_
 refine sy_tx' [0, 1] rfl ?_
 refine sp rfl (PE.move rfl) rfl ?_
 refine sp rfl (PE.eqlNil isl22 rfl rfl) rfl ?_
 refine sy_cond rfl (fun hc0 => ?_) (fun hc0 => ?_)
 refine Sy.pre (fun w h => rows_nil (h.now hR.mem) hc0) (fun hnil => ?_)
 obtain rfl : xs = [] := by simpa [irows] using hnil
 refine sy_seq ?_
 refine sy_tx' [0] rfl ?_
 refine sp rfl (PE.assign rfl) rfl ?_
 refine sy_ret ?_
 first
   | exact sy_return (vs := [_]) rfl (.cons (RV.tmp rfl) .nil) rfl ⟨o2.cast (by simp), rfl, rfl, rfl, fun _ => ho2⟩ (fun _ h => h)
   | exact sy_return (vs := [_]) rfl (.cons (RV.tmp rfl) .nil) rfl ⟨OSl.nil _ _, rfl, rfl, rfl, fun h => by cases a <;> simp_all⟩ (fun _ h => h)
 refine sy_skip ?_
 refine sy_seq ?_
 refine sy_tx' [0, 1, 2, 3] rfl ?_
 refine bsl0 rfl sl22 rfl (fun o5 ho5 => ?_)
 refine sp rfl (PE.move rfl) rfl ?_
 refine apOh (news := irows xs) o5 rfl ap22 rfl rfl (rowsF) (by simp [irows]) (by simp [onecells, irows, Value.oneCell']) ⟨by simp [irows]; omega, by simp [irows]; omega⟩ rfl ho5 (fun o2 ho2 => ?_)
 refine sp rfl (PE.assign rfl) rfl ?_
 refine sy_ret ?_
 first
   | exact sy_return (vs := [_]) rfl (.cons (RV.tmp rfl) .nil) rfl ⟨o2.cast (by simp), rfl, rfl, rfl, fun _ => ho2⟩ (fun _ h => h)
   | exact sy_return (vs := [_]) rfl (.cons (RV.tmp rfl) .nil) rfl ⟨OSl.nil _ _, rfl, rfl, rfl, fun h => by cases a <;> simp_all⟩ (fun _ h => h)
theorem c_eq_int (xs ys : List Int) (a a2 : Option Addr) (c c2 : Nat) (hl : xs.length ≤ 9223372036854775807) (hl2 : ys.length ≤ 9223372036854775807) (H : Heap) (R : Facts) [hR : MemRows a 1 (irows xs) R] [hR2 : MemRows a2 1 (irows ys) R] :
    FnV Tryz.prog 34 [.slice a xs.length c, .slice a2 ys.length c2] H R (.bool (decide (xs = ys))) := by
 refine fn_of Tryz.func34 rfl Tryz.ntmps34 rfl ?_
 refine sy_seq ?_
 refine sy_tx' [0] rfl ?_
 refine sp rfl (PE.assign rfl) rfl ?_
 refine sy_seq ?_
 refine sy_seq ?_
 refine sy_tx' [0, 1, 2, 3, 4] rfl ?_
 refine sp rfl (PE.move rfl) rfl ?_
 refine sp rfl (PE.lenSl isl22 rfl) rfl ?_
 refine sp rfl (PE.move rfl) rfl ?_
 refine sp rfl (PE.lenSl isl22 rfl) rfl ?_
 refine sp rfl (PE.neq rfl rfl) rfl ?_
 refine sy_cond rfl (fun hc0 => ?_) (fun hc0 => ?_)
 have hne : xs ≠ ys := fun e => by subst e; simp at hc0
 refine sy_seq ?_
 refine sy_tx' [0] rfl ?_
 refine sp rfl (PE.assign rfl) rfl ?_
 refine sy_ret ?_
 exact sy_return (vs := [_]) rfl (.cons (RV.tmp rfl) .nil) rfl ⟨by first | (simp only [retV]; rw [decide_eq_true heq]; done) | (simp only [retV]; rw [decide_eq_false hne]), rfl, rfl⟩ (fun _ h => h)
 have hle : xs.length = ys.length := by simp only [decide_eq_true_eq, decide_eq_false_iff_not, Bool.and_eq_true, Bool.or_eq_true, Bool.not_eq_true', Int.not_le, Int.not_lt] at hc0; omega
 refine sy_skip ?_
 refine sy_seq ?_
 refine sy_seq ?_
 refine sy_tx' [0, 1, 2] rfl ?_
 refine sp rfl (PE.move rfl) rfl ?_
 refine sp rfl (PE.lenSl isl22 rfl) rfl ?_
 refine sp rfl (PE.move rfl) rfl ?_
 refine sy_block ?_
 refine sy_loop (ι := {k : Nat // k ≤ xs.length ∧ xs.take k = ys.take k}) (fun k => ⟨[(0, .slice a xs.length c), (1, .slice a2 ys.length c2), (12, .int .i64 xs.length), (13, .int .i64 k.1)], H, R⟩) (fun k => xs.length - k.1) ⟨0, by simp⟩ ?_ (fun k => ?_)
 exact sy_at (by repeat' first | exact Sub.nil | apply Sub.cons | rfl | (simp [lk]; omega)) (fun _ h => h)
 obtain ⟨k, hk, hn⟩ := k
 dsimp only
 refine sy_seq ?_
 refine sy_tx' [0] rfl ?_
 refine sp rfl (PE.lss rfl rfl) rfl ?_
 refine sy_seq ?_
 refine sy_cond rfl (fun hc1 => ?_) (fun hc1 => ?_)
 simp only [decide_eq_true_eq, decide_eq_false_iff_not, Bool.and_eq_true, Bool.or_eq_true, Bool.not_eq_true', Int.not_le, Int.not_lt] at hc1
 obtain ⟨x, hx⟩ : ∃ x, xs[k]? = some x := ⟨_, List.getElem?_eq_getElem (by omega)⟩
 obtain ⟨z, hz⟩ : ∃ z, ys[k]? = some z := ⟨_, List.getElem?_eq_getElem (by omega)⟩
 refine sy_addr (a := a) (sz := 1) (rows := irows xs) (by intro h0; simp [irows] at h0; simp [h0] at hx) (fun b off he => ?_)
 subst he
 refine sy_addr (a := a2) (sz := 1) (rows := irows ys) (by intro h0; simp [irows] at h0; simp [h0] at hz) (fun b2 off2 he => ?_)
 subst he
 refine sy_skip ?_
 refine sy_seq ?_
 refine sy_block ?_
 refine sy_seq ?_
 refine sy_tx' [0, 1] rfl ?_
 refine sp rfl (PE.move rfl) rfl ?_
 refine sp rfl (PE.assign rfl) rfl ?_
 refine sy_seq ?_
 refine sy_draw [0, 0, 3, 7, 0, 0, 48, 112, 255] (.tk 0 (.tk 1 (.tk 2 (.ld 3 (.tk 4 (.tk 5 (.tk 6 (.ld 7 (.tk 8 .done))))))))) mixed (by kernel_rfl) ?_
 refine tk rfl (PE.move rfl) rfl ?_
 refine tk rfl (PE.move rfl) rfl ?_
 refine tk rfl (PE.indexAddr el22 rfl rfl (by omega) (by omega)) rfl ?_
 refine ld rfl rfl (lf0 sc3 (by simp [irows, hx]; rfl) rfl) rfl ?_
 refine tk rfl (PE.move rfl) rfl ?_
 refine tk rfl (PE.move rfl) rfl ?_
 refine tk rfl (PE.indexAddr el22 rfl rfl (by omega) (by omega)) rfl ?_
 refine ld rfl rfl (lf0 sc3 (by simp [irows, hz]; rfl) rfl) rfl ?_
 refine tk rfl (PE.neq rfl rfl) rfl ?_
 refine sy_cond rfl (fun hc2 => ?_) (fun hc2 => ?_)
 have hne : xs ≠ ys := fun e => by subst e; rw [hx] at hz; cases hz; simp at hc2
 refine sy_seq ?_
 refine sy_tx' [0] rfl ?_
 refine sp rfl (PE.assign rfl) rfl ?_
 refine sy_ret ?_
 exact sy_return (vs := [_]) rfl (.cons (RV.tmp rfl) .nil) rfl ⟨by first | (simp only [retV]; rw [decide_eq_true heq]; done) | (simp only [retV]; rw [decide_eq_false hne]), rfl, rfl⟩ (fun _ h => h)
 have hxz : x = z := by simpa using hc2
 refine sy_skip ?_
 refine sy_tx' [0, 1] rfl ?_
 refine sp rfl (PE.add rfl rfl (by omega)) rfl ?_
 refine sp rfl (PE.move rfl) rfl ?_
 exact sy_next ⟨k + 1, by omega, by rw [List.take_add_one, List.take_add_one, hn, hx, hz, hxz]⟩ (by dsimp only; omega) (by repeat' first | exact Sub.nil | apply Sub.cons | rfl | (simp [lk]; omega)) (fun _ h => h)
 simp only [decide_eq_true_eq, decide_eq_false_iff_not, Bool.and_eq_true, Bool.or_eq_true, Bool.not_eq_true', Int.not_le, Int.not_lt] at hc1
 obtain rfl : k = xs.length := by omega
 have heq : xs = ys := by
   rw [List.take_length] at hn
   exact hn.trans (by rw [hle]; exact List.take_length)
 refine sy_exit ?_
 repeat refine sy_tx ?_
 refine sy_bx ?_
 refine sy_seq ?_
 refine sy_tx' [0] rfl ?_
 refine sp rfl (PE.assign rfl) rfl ?_
 refine sy_ret ?_
 exact sy_return (vs := [_]) rfl (.cons (RV.tmp rfl) .nil) rfl ⟨by first | (simp only [retV]; rw [decide_eq_true heq]; done) | (simp only [retV]; rw [decide_eq_false hne]), rfl, rfl⟩ (fun _ h => h)
theorem c_some (xs : List Int) (a : Option Addr) (c : Nat) (H : Heap) (R : Facts) :
    Fn Tryz.prog 86 [.slice a xs.length c] H R (fun v H' R' => ∃ b, v = .agg #[.func (.func 117) #[] #[.pointer (some ⟨b, 0, none⟩)]] ∧ H' = (b, cel 22 [.slice a xs.length c]) :: H ∧ R' = R) := by
 refine fn_of Tryz.func86 rfl Tryz.ntmps86 rfl ?_
 refine sy_seq ?_
 refine sy_tx' [0, 1] rfl ?_
 refine bx rfl rfl rfl (fun b1 => ?_)
 refine alc rfl zl135 rfl (fun b2 => ?_)
 refine sy_seq ?_
 refine sy_tx' [0, 1, 2] rfl ?_
 refine sp rfl (PE.makeFunc rfl rfl) rfl ?_
 refine sp rfl (PE.build (out := [_]) pl135 zl135 rfl rfl) rfl ?_
 refine sto rfl rfl rfl cn135 rfl rfl rfl rfl ?_
 refine sy_ret ?_
 exact sy_return (vs := [_]) rfl (.cons (RV.cell rfl (lhA [_] ag135 rfl rfl rfl)) .nil) rfl ⟨_, rfl, rfl, rfl⟩ (fun w h => h.del b2)
theorem c_some1 (xs : List Int) (a : Option Addr) (c b : Nat) (hl : xs.length ≤ 9223372036854775807) (i : Nat) (H : Heap) (R : Facts) [hR : MemRows a 1 (irows xs) R] [hM : Mem1 b (cel 22 [.slice a xs.length c]) H] :
    FnV Tryz.prog 117 [.int .i64 i, .pointer (some ⟨b, 0, none⟩)] H R (.bool (flt xs i)) := by
 refine fn_of Tryz.func117 rfl Tryz.ntmps117 rfl ?_
 refine sy_seq ?_
 refine sy_tx' [0] rfl ?_
 refine sp rfl (PE.assign rfl) rfl ?_
 refine sy_seq ?_
 refine sy_tx' [0, 1, 2, 3] rfl ?_
 refine spL rfl rfl (lh sc22 rfl rfl) rfl ?_
 refine sp rfl (PE.move rfl) rfl ?_
 refine clV rfl cal70 rfl rfl (c_contains_int xs a c i hl _ _) ?_
 refine sp rfl (PE.assign rfl) rfl ?_
 refine sy_ret ?_
 exact sy_return (vs := [_]) rfl (.cons (RV.tmp rfl) .nil) rfl ⟨rfl, rfl, rfl⟩ drp
def ClC (g : Gat) (hg : g.ok) (ag : Option Addr) (cg : Nat) (c : Crt) (hc : c.ok) (ah : Option Addr) (ch : Nat) (bw : Nat) (many c9 c8 c6 c3 c10 r : Nat) : Prop := ∀ (l : List Int) (al : Option Addr) (cq fr : Nat) (ov : Value) (H : Heap) (R : Facts) [hW : MemRows (some ⟨bw, 0, none⟩) 6 [wrow g c (g.sl ag cg) (c.sl ah ch)] R] [hG : MemRows ag 5 (grows g.grs) R] [hA : MemRows ah 5 (hrows c.hs) R] [m9 : Mem1 c9 (cel 3 [.int .i64 many]) H] [m6 : Mem1 c6 (cel 124 [.pointer (some ⟨bw, 0, none⟩)]) H] [m3 : Mem1 c3 (cel 28 (ctl c (c.sl ah ch))) H] [m10 : Mem1 c10 (cel 122 [(.func (.func 85) #[] #[.pointer (some ⟨c9, 0, none⟩), .pointer (some ⟨c8, 0, none⟩), .pointer (some ⟨c6, 0, none⟩), .pointer (some ⟨c3, 0, none⟩), .pointer (some ⟨c10, 0, none⟩)])]) H] [hL : MemRows al 1 (irows l) R], l.length + r = many →
  Fn Tryz.prog 85 [.slice al l.length cq, .int .i64 fr, .pointer (some ⟨c9, 0, none⟩), .pointer (some ⟨c8, 0, none⟩), .pointer (some ⟨c6, 0, none⟩), .pointer (some ⟨c3, 0, none⟩), .pointer (some ⟨c10, 0, none⟩)] ((c8, cel 22 [ov]) :: H) R (ClQ c8 H R (moreS (agL g.miss c.hs) c.hs.length r l fr))
theorem c_clash_step (g : Gat) (hg : g.ok) (ag : Option Addr) (cg : Nat) (c : Crt) (hc : c.ok) (ah : Option Addr) (ch : Nat) (bw : Nat) (many c9 c8 c6 c3 c10 r : Nat) (hmn : many ≤ c.hs.length) (ih : ∀ q, r = q + 1 → ClC g hg ag cg c hc ah ch bw many c9 c8 c6 c3 c10 q) :
    ClC g hg ag cg c hc ah ch bw many c9 c8 c6 c3 c10 r := by
 intro l al cq fr ov H R hW hA hG m9 m6 m3 m10 hL hlr
 have hmany := hc.many
 refine fn_of Tryz.func85 rfl Tryz.ntmps85 rfl ?_
 refine sy_seq ?_
 refine sy_tx' [0] rfl ?_
 refine sp rfl (PE.assign rfl) rfl ?_
 refine sy_seq ?_
 refine sy_seq ?_
 refine sy_tx' [0, 1, 2, 3] rfl ?_
 refine sp rfl (PE.move rfl) rfl ?_
 refine sp rfl (PE.lenSl isl22 rfl) rfl ?_
 refine spL rfl rfl (lh sc3 rfl rfl) rfl ?_
 refine sp rfl (PE.eql rfl rfl) rfl ?_
 refine sy_cond rfl (fun hc0 => ?_) (fun hc0 => ?_)
 try simp only [decide_eq_true_eq, decide_eq_false_iff_not, Bool.and_eq_true, Bool.or_eq_true, Bool.not_eq_true', Int.not_le, Int.not_lt] at hc0
 obtain rfl : r = 0 := by omega
 refine sy_seq ?_
 refine sy_tx' [0, 1] rfl ?_
 refine sp rfl (PE.move rfl) rfl ?_
 refine sto rfl rfl rfl cn22 rfl rfl rfl rfl ?_
 refine sy_seq ?_
 refine sy_draw [0, 0, 2, 7, 15, 31] (.ld 0 (.tk 1 (.big 2 (.big 3 (.tk 4 (.tk 5 .done)))))) mixed (by kernel_rfl) ?_
 refine ld rfl rfl (lh sc124 rfl rfl) rfl ?_
 refine tk rfl (PE.move rfl) rfl ?_
 refine cl rfl cal86 rfl rfl (c_some l al cq _ _) ?_
 rintro _ _ R1 ⟨bs, rfl, rfl, hR1⟩
 obtain rfl := hR1.symm
 clear hR1
 refine bg (fun w hs => ⟨(lh sc124 rfl rfl) w hs, trivial⟩) ?_
 refine clV rfl cal83 rfl rfl (c_agree g hg ag cg c hc ah ch bw 117 [.pointer (some ⟨bs, 0, none⟩)] (flt l) cal117 _ _ (fun G i hi => c_some1 l al cq bs (by omega) i _ _)) ?_
 refine bg (fun w hs => ⟨trivial, trivial⟩) ?_
 refine tk rfl (PE.not rfl) rfl ?_
 refine tk rfl (PE.assign rfl) rfl ?_
 refine sy_ret ?_
 first
   | exact sy_return (vs := [_]) rfl (.cons (RV.tmp rfl) .nil) rfl (show ClQ c8 H R (moreS (agL g.miss c.hs) c.hs.length (q + 1) l fr) _ _ _ by rw [hmr]; exact ⟨rfl, ov, rfl, rfl⟩) drp
   | (rcases hag : agr g.miss c.hs (flt l) with _ | _
      · exact sy_return (vs := [_]) rfl (.cons (RV.tmp rfl) .nil) rfl (show ClQ c8 H _ (moreS (agL g.miss c.hs) c.hs.length 0 l fr) _ _ (RowsA al 1 (irows l) :: _) by rw [moreS, show agL g.miss c.hs l = false from hag]; exact ⟨rfl, al, cq, rfl, rfl⟩) (fun w h => St.also (h.del bs) (fun w' hg => hg _ hL.mem))
      · exact sy_return (vs := [_]) rfl (.cons (RV.tmp rfl) .nil) rfl (show ClQ c8 H _ (moreS (agL g.miss c.hs) c.hs.length 0 l fr) _ _ _ by rw [moreS, show agL g.miss c.hs l = true from hag]; exact ⟨rfl, _, rfl, rfl⟩) (fun w h => h.del bs))
 try simp only [decide_eq_true_eq, decide_eq_false_iff_not, Bool.and_eq_true, Bool.or_eq_true, Bool.not_eq_true', Int.not_le, Int.not_lt] at hc0
 obtain ⟨q, rfl⟩ : ∃ q, r = q + 1 := ⟨r - 1, by omega⟩
 refine sy_skip ?_
 refine sy_seq ?_
 refine sy_seq ?_
 refine sy_tx' [0, 1] rfl ?_
 refine sp rfl (PE.move rfl) rfl ?_
 refine sp rfl (PE.assign rfl) rfl ?_
 refine sy_block ?_
 refine sy_loop (ι := {x : Nat × Value // fr ≤ x.1 ∧ ∀ j, fr ≤ j → j < x.1 → j < c.hs.length → moreS (agL g.miss c.hs) c.hs.length q (l ++ [(j : Int)]) (j + 1) = none}) (fun x => ⟨[(0, .slice al l.length cq), (2, .pointer (some ⟨c9, 0, none⟩)), (3, .pointer (some ⟨c8, 0, none⟩)), (4, .pointer (some ⟨c6, 0, none⟩)), (5, .pointer (some ⟨c3, 0, none⟩)), (6, .pointer (some ⟨c10, 0, none⟩)), (10, .int .i64 x.1.1)], (c8, cel 22 [x.1.2]) :: H, R⟩) (fun x => c.hs.length - x.1.1) ⟨(fr, ov), Nat.le_refl _, fun j h1 h2 => by dsimp only at h2; omega⟩ ?_ (fun x => ?_)
 exact sy_at (by repeat' first | exact Sub.nil | apply Sub.cons | rfl | (simp [lk]; omega)) (fun _ h => h)
 obtain ⟨⟨i, ov⟩, hfi, hn⟩ := x
 dsimp only at hfi hn ⊢
 refine sy_seq ?_
 refine sy_seq ?_
 refine sy_tx' [0, 1, 2, 3, 4] rfl ?_
 refine sp rfl (PE.move rfl) rfl ?_
 refine sp rfl (PE.fieldAddr fo28_2 rfl) rfl ?_
 refine spL rfl rfl (lh sc26 rfl rfl) rfl ?_
 refine sp rfl (PE.lenSl isl26 rfl) rfl ?_
 refine sp rfl (PE.lss rfl rfl) rfl ?_
 refine sy_cond rfl (fun hc1 => ?_) (fun hc1 => ?_)
 try simp only [decide_eq_true_eq, decide_eq_false_iff_not, Bool.and_eq_true, Bool.or_eq_true, Bool.not_eq_true', Int.not_le, Int.not_lt] at hc1
 refine sy_skip ?_
 refine sy_seq ?_
 refine sy_block ?_
 refine sy_seq ?_
 refine sy_draw [0, 0, 2, 0, 8, 30, 0, 64, 255] (.ld 0 (.tk 1 (.tk 3 (.tk 6 (.tk 7 (.any (.alt 2 (.big 4 (.big 5 (.big 8 .done))) (.alt 4 (.big 2 (.big 5 (.big 8 .done))) .stop)))))))) mixed (by kernel_rfl) ?_
 refine ld rfl rfl (lh sc122 rfl rfl) rfl ?_
 refine tk rfl (PE.move rfl) rfl ?_
 refine tk rfl (PE.move rfl) rfl ?_
 refine tk rfl (PE.move rfl) rfl ?_
 refine tk rfl (PE.add rfl rfl (by omega)) rfl ?_
 refine sy_alt ?_ ?_
 refine cl rfl cal87 rfl rfl (c_clone_int l al cq (by omega) _ _) ?_
 rintro _ _ R1 ⟨o, rfl, rfl, hR1, _⟩
 obtain rfl := hR1.symm
 clear hR1
 refine bg (fun w hs => ⟨(lh sc122 rfl rfl) w hs, trivial⟩) ?_
 refine bsl (out := [_]) rfl sl22 zl3 rfl rfl rfl rfl rfl rfl (fun b33 => ?_)
 refine bg (fun w hs => ⟨(lh sc122 rfl rfl) w hs, trivial⟩) ?_
 refine apO (o) rfl ap22 rfl rfl (rowsH (row := [.int .i64 i]) rfl) rfl rfl ((by simp only [irows, List.length_map, List.length_singleton]; omega)) rfl (fun o34 => ?_)
 refine bg (fun w hs => ⟨(lh sc122 rfl rfl) w hs, trivial⟩) ?_
 have e34 : irows l ++ [[.int .i64 (i : Int)]] = irows (l ++ [(i : Int)]) := by simp [irows]
 obtain ⟨an, cn, he, hf⟩ := (o34.cast e34).freeze
 rw [show o34.fs = _ from he]
 refine Sy.heap (fun w h => hf (h.pullG o34.G)) ?_
 refine Sy.heap (fun w h => h.del b33) ?_
 rw [show (irows (l ++ [(i : Int)])).length = (l ++ [(i : Int)]).length from List.length_map _]
 clear he hf
 refine clF rfl rfl (cal85) rfl rfl (ih q rfl (l ++ [(i : Int)]) an cn (i + 1) ov _ _ (by rw [List.length_append]; simp only [List.length_singleton]; omega)) ?_
 rintro v H2 R2 hQ
 obtain ⟨bv, rfl⟩ : ∃ bv, v = .bool bv := by
   rcases hsr : moreS (agL g.miss c.hs) c.hs.length q (l ++ [(i : Int)]) (i + 1) with _ | d
   · rw [hsr] at hQ; exact ⟨false, hQ.1⟩
   · rw [hsr] at hQ; exact ⟨true, hQ.1⟩
 rcases hsr : moreS (agL g.miss c.hs) c.hs.length q (l ++ [(i : Int)]) (i + 1) with _ | d
 refine bg (fun w hs => ⟨trivial, trivial⟩) ?_
 refine sy_cond rfl (fun hc2 => ?_) (fun hc2 => ?_)
 rw [hsr] at hQ
 obtain ⟨hv, _⟩ := hQ
 cases hv
 exact absurd hc2 (by simp)
 rw [hsr] at hQ
 obtain ⟨hv, ov2, rfl, hR2⟩ := hQ
 cases hv
 obtain rfl := hR2.symm
 clear hR2
 refine sy_skip ?_
 refine sy_tx' [0, 1, 2] rfl ?_
 refine sp rfl (PE.move rfl) rfl ?_
 refine sp rfl (PE.add rfl rfl (by omega)) rfl ?_
 refine sp rfl (PE.assign rfl) rfl ?_
 exact sy_next ⟨(i + 1, ov2), by dsimp only; omega, fun j h1 h2 h3 => (Nat.lt_succ_iff_lt_or_eq.1 h2).elim (fun h => hn j h1 h h3) (fun e => by subst e; exact hsr)⟩ (by dsimp only; omega) (by repeat' first | exact Sub.nil | apply Sub.cons | rfl | (simp [lk]; omega)) (fun w h => h.ftail)
 refine bg (fun w hs => ⟨trivial, trivial⟩) ?_
 refine sy_cond rfl (fun hc2 => ?_) (fun hc2 => ?_)
 rw [hsr] at hQ
 obtain ⟨hv, a9, c99, rfl, rfl⟩ := hQ
 cases hv
 have hmr := more_hit (ag := agL g.miss c.hs) (fun j h1 h2 => hn j h1 h2 (by omega)) ⟨hfi, by omega⟩ hsr
 refine sy_seq ?_
 refine sy_tx' [0] rfl ?_
 refine sp rfl (PE.assign rfl) rfl ?_
 refine sy_ret ?_
 exact sy_return (vs := [_]) rfl (.cons (RV.tmp rfl) .nil) rfl (show ClQ c8 H R (moreS (agL g.miss c.hs) c.hs.length (q + 1) l fr) _ _ _ by rw [hmr]; exact ⟨rfl, a9, c99, rfl, rfl⟩) drp
 rw [hsr] at hQ
 obtain ⟨hv, _⟩ := hQ
 cases hv
 exact absurd hc2 (by simp)
 refine sy_alt ?_ ?_
 refine bsl (out := [_]) rfl sl22 zl3 rfl rfl rfl rfl rfl rfl (fun b33 => ?_)
 refine bg (fun w hs => ⟨(lh sc122 rfl rfl) w hs, trivial⟩) ?_
 refine cl rfl cal87 rfl rfl (c_clone_int l al cq (by omega) _ _) ?_
 rintro _ _ R1 ⟨o, rfl, rfl, hR1, _⟩
 obtain rfl := hR1.symm
 clear hR1
 refine bg (fun w hs => ⟨(lh sc122 rfl rfl) w hs, trivial⟩) ?_
 refine apO (o) rfl ap22 rfl rfl (rowsH (row := [.int .i64 i]) rfl) rfl rfl ((by simp only [irows, List.length_map, List.length_singleton]; omega)) rfl (fun o34 => ?_)
 refine bg (fun w hs => ⟨(lh sc122 rfl rfl) w hs, trivial⟩) ?_
 have e34 : irows l ++ [[.int .i64 (i : Int)]] = irows (l ++ [(i : Int)]) := by simp [irows]
 obtain ⟨an, cn, he, hf⟩ := (o34.cast e34).freeze
 rw [show o34.fs = _ from he]
 refine Sy.heap (fun w h => hf (h.pullG o34.G)) ?_
 refine Sy.heap (fun w h => h.del b33) ?_
 rw [show (irows (l ++ [(i : Int)])).length = (l ++ [(i : Int)]).length from List.length_map _]
 clear he hf
 refine clF rfl rfl (cal85) rfl rfl (ih q rfl (l ++ [(i : Int)]) an cn (i + 1) ov _ _ (by rw [List.length_append]; simp only [List.length_singleton]; omega)) ?_
 rintro v H2 R2 hQ
 obtain ⟨bv, rfl⟩ : ∃ bv, v = .bool bv := by
   rcases hsr : moreS (agL g.miss c.hs) c.hs.length q (l ++ [(i : Int)]) (i + 1) with _ | d
   · rw [hsr] at hQ; exact ⟨false, hQ.1⟩
   · rw [hsr] at hQ; exact ⟨true, hQ.1⟩
 rcases hsr : moreS (agL g.miss c.hs) c.hs.length q (l ++ [(i : Int)]) (i + 1) with _ | d
 refine bg (fun w hs => ⟨trivial, trivial⟩) ?_
 refine sy_cond rfl (fun hc2 => ?_) (fun hc2 => ?_)
 rw [hsr] at hQ
 obtain ⟨hv, _⟩ := hQ
 cases hv
 exact absurd hc2 (by simp)
 rw [hsr] at hQ
 obtain ⟨hv, ov2, rfl, hR2⟩ := hQ
 cases hv
 obtain rfl := hR2.symm
 clear hR2
 refine sy_skip ?_
 refine sy_tx' [0, 1, 2] rfl ?_
 refine sp rfl (PE.move rfl) rfl ?_
 refine sp rfl (PE.add rfl rfl (by omega)) rfl ?_
 refine sp rfl (PE.assign rfl) rfl ?_
 exact sy_next ⟨(i + 1, ov2), by dsimp only; omega, fun j h1 h2 h3 => (Nat.lt_succ_iff_lt_or_eq.1 h2).elim (fun h => hn j h1 h h3) (fun e => by subst e; exact hsr)⟩ (by dsimp only; omega) (by repeat' first | exact Sub.nil | apply Sub.cons | rfl | (simp [lk]; omega)) (fun w h => h.ftail)
 refine bg (fun w hs => ⟨trivial, trivial⟩) ?_
 refine sy_cond rfl (fun hc2 => ?_) (fun hc2 => ?_)
 rw [hsr] at hQ
 obtain ⟨hv, a9, c99, rfl, rfl⟩ := hQ
 cases hv
 have hmr := more_hit (ag := agL g.miss c.hs) (fun j h1 h2 => hn j h1 h2 (by omega)) ⟨hfi, by omega⟩ hsr
 refine sy_seq ?_
 refine sy_tx' [0] rfl ?_
 refine sp rfl (PE.assign rfl) rfl ?_
 refine sy_ret ?_
 exact sy_return (vs := [_]) rfl (.cons (RV.tmp rfl) .nil) rfl (show ClQ c8 H R (moreS (agL g.miss c.hs) c.hs.length (q + 1) l fr) _ _ _ by rw [hmr]; exact ⟨rfl, a9, c99, rfl, rfl⟩) drp
 rw [hsr] at hQ
 obtain ⟨hv, _⟩ := hQ
 cases hv
 exact absurd hc2 (by simp)
 exact sy_stop
 try simp only [decide_eq_true_eq, decide_eq_false_iff_not, Bool.and_eq_true, Bool.or_eq_true, Bool.not_eq_true', Int.not_le, Int.not_lt] at hc1
 have hmr := more_none (ag := agL g.miss c.hs) (n := c.hs.length) (r := q) (l := l) (fr := fr) (fun j h1 h2 => hn j h1 (by omega) h2)
 refine sy_exit ?_
 repeat refine sy_tx ?_
 refine sy_bx ?_
 refine sy_seq ?_
 refine sy_tx' [0] rfl ?_
 refine sp rfl (PE.assign rfl) rfl ?_
 refine sy_ret ?_
 first
   | exact sy_return (vs := [_]) rfl (.cons (RV.tmp rfl) .nil) rfl (show ClQ c8 H R (moreS (agL g.miss c.hs) c.hs.length (q + 1) l fr) _ _ _ by rw [hmr]; exact ⟨rfl, ov, rfl, rfl⟩) drp
   | (rcases hag : agr g.miss c.hs (flt l) with _ | _
      · exact sy_return (vs := [_]) rfl (.cons (RV.tmp rfl) .nil) rfl (show ClQ c8 H _ (moreS (agL g.miss c.hs) c.hs.length 0 l fr) _ _ (RowsA al 1 (irows l) :: _) by rw [moreS, show agL g.miss c.hs l = false from hag]; exact ⟨rfl, al, cq, rfl, rfl⟩) (fun w h => St.also (h.del bs) (fun w' hg => hg _ hL.mem))
      · exact sy_return (vs := [_]) rfl (.cons (RV.tmp rfl) .nil) rfl (show ClQ c8 H _ (moreS (agL g.miss c.hs) c.hs.length 0 l fr) _ _ _ by rw [moreS, show agL g.miss c.hs l = true from hag]; exact ⟨rfl, _, rfl, rfl⟩) (fun w h => h.del bs))
theorem c_clash (g : Gat) (hg : g.ok) (ag : Option Addr) (cg : Nat) (c : Crt) (hc : c.ok) (ah : Option Addr) (ch : Nat) (bw : Nat) (many c9 c8 c6 c3 c10 : Nat) (hmn : many ≤ c.hs.length) : ∀ r, ClC g hg ag cg c hc ah ch bw many c9 c8 c6 c3 c10 r
  | 0 => c_clash_step g hg ag cg c hc ah ch bw many c9 c8 c6 c3 c10 0 hmn (fun _ h => by cases h)
  | r + 1 => c_clash_step g hg ag cg c hc ah ch bw many c9 c8 c6 c3 c10 (r + 1) hmn (fun q h => by
      obtain rfl : r = q := Nat.succ.inj h
      exact c_clash g hg ag cg c hc ah ch bw many c9 c8 c6 c3 c10 hmn r)
theorem c_Clash (g : Gat) (ag : Option Addr) (cg : Nat) (hlg : g.grs.length ≤ 9223372036854775807) (c : Crt) (ah : Option Addr) (ch : Nat) (hlh : c.hs.length ≤ 9223372036854775807) (H : Heap) (R : Facts) [hG : MemRows ag 5 (grows g.grs) R] [hA : MemRows ah 5 (hrows c.hs) R] :
    Fn Tryz.prog 31 [g.v (g.sl ag cg), c.v (c.sl ah ch)] H R (fun v H' R' => ∃ a c', v = .tuple #[.slice a (claR g c).1.length c', .int .i64 (claR g c).2] ∧ H' = H ∧ R' = RowsA a 1 (irows (claR g c).1) :: R) := by
 refine fn_of Tryz.func31 rfl Tryz.ntmps31 rfl ?_
 refine sy_seq ?_
 refine sy_tx' [0, 1, 2, 3] rfl ?_
 refine bx rfl rfl rfl (fun b2 => ?_)
 refine bx rfl rfl rfl (fun b3 => ?_)
 refine sp rfl (PE.assign rfl) rfl ?_
 refine sp rfl (PE.assign rfl) rfl ?_
 refine sy_scope ?_
 refine sy_seq ?_
 refine sy_tx' [0, 1, 2, 3, 4, 5, 6, 7, 8] rfl ?_
 refine spL rfl rfl (lhA [_, _, _] ag25 rfl rfl rfl) rfl ?_
 refine spL rfl rfl (lhA [_, _, _] ag28 rfl rfl rfl) rfl ?_
 refine cl rfl cal78 rfl rfl (c_opened g ag cg hlg c ah ch hlh _ _) ?_
 rintro _ _ _ ⟨rfl, ho⟩
 rcases ho with ⟨hne, rfl, rfl⟩ | ⟨hg, hc, h0, bw, rfl, rfl⟩
 refine sp rfl (PE.move rfl) rfl ?_
 refine sp rfl (PE.extract rfl rfl) rfl ?_
 refine sp rfl (PE.extract rfl rfl) rfl ?_
 refine alc rfl zl124 rfl (fun b6 => ?_)
 refine sto rfl rfl rfl cn124 rfl rfl rfl rfl ?_
 refine sp rfl (PE.assign rfl) rfl ?_
 refine sy_seq ?_
 refine sy_seq ?_
 refine sy_tx' [0, 1] rfl ?_
 refine sp rfl (PE.move rfl) rfl ?_
 refine sp rfl (PE.neq rfl rfl) rfl ?_
 refine sy_cond rfl (fun hc0 => ?_) (fun hc0 => ?_)
 have e : claR g c = ([], bothE g c) := by unfold claR; rw [decide_eq_true hne]; rfl
 refine sy_seq ?_
 refine sy_tx' [0, 1, 2] rfl ?_
 refine sp rfl (PE.move rfl) rfl ?_
 refine sp rfl (PE.assign rfl) rfl ?_
 refine sp rfl (PE.assign rfl) rfl ?_
 refine sy_ret ?_
 rw [show bothE g c = (claR g c).2 from by rw [e]]
 exact sy_return (vs := [_, _]) rfl (.cons (RV.tmp rfl) (.cons (RV.tmp rfl) .nil)) rfl ⟨none, 0, by rw [e]; rfl, rfl, by rw [e]; rfl⟩ (fun w h => St.norows (((h.del b6).del b3).del b2))
 exact absurd hc0 (by simp [hne])
 refine sp rfl (PE.move rfl) rfl ?_
 refine sp rfl (PE.extract rfl rfl) rfl ?_
 refine sp rfl (PE.extract rfl rfl) rfl ?_
 refine alc rfl zl124 rfl (fun b6 => ?_)
 refine sto rfl rfl rfl cn124 rfl rfl rfl rfl ?_
 refine sp rfl (PE.assign rfl) rfl ?_
 refine sy_seq ?_
 refine sy_seq ?_
 refine sy_tx' [0, 1] rfl ?_
 refine sp rfl (PE.move rfl) rfl ?_
 refine sp rfl (PE.neq rfl rfl) rfl ?_
 refine sy_cond rfl (fun hc0 => ?_) (fun hc0 => ?_)
 exact absurd hc0 (by simp)
 have hmany := hc.many
 refine sy_skip ?_
 refine sy_seq ?_
 refine sy_seq ?_
 refine sy_draw [0, 0, 3] (.ld 0 (.big 1 (.big 2 .done))) mixed (by kernel_rfl) ?_
 refine ld rfl rfl (lh sc124 rfl rfl) rfl ?_
 refine clV rfl cal84 rfl rfl (c_all _ _) ?_
 refine bg (fun w hs => ⟨(lh sc124 rfl rfl) w hs, trivial⟩) ?_
 refine clV rfl cal83 rfl rfl (c_agree g hg ag cg c hc ah ch bw 116 [] (fun _ => true) cal116 _ _ (fun G i _ => c_all1 i _ _)) ?_
 refine bg (fun w hs => ⟨trivial, trivial⟩) ?_
 refine sy_cond rfl (fun hc1 => ?_) (fun hc1 => ?_)
 have e : claR g c = ([], 6) := by unfold claR; rw [decide_eq_false (by omega), hc1]; rfl
 refine sy_seq ?_
 refine sy_tx' [0, 1] rfl ?_
 refine sp rfl (PE.assign rfl) rfl ?_
 refine sp rfl (PE.assign rfl) rfl ?_
 refine sy_ret ?_
 exact sy_return (vs := [_, _]) rfl (.cons (RV.tmp rfl) (.cons (RV.tmp rfl) .nil)) rfl ⟨none, 0, by rw [e]; rfl, rfl, by rw [e]; rfl⟩ (fun w h => St.norows (St.ftail (((h.del b6).del b3).del b2)))
 have e : claR g c = (clashL g.miss c.hs, 0) := by unfold claR; rw [decide_eq_false (by omega), hc1]; rfl
 have hch := clash_hit hc1
 refine sy_skip ?_
 refine sy_seq ?_
 refine sy_tx' [0] rfl ?_
 refine alc rfl zl22 rfl (fun b8 => ?_)
 refine sy_seq ?_
 refine sy_label ?_
 refine sy_seq ?_
 refine sy_seq ?_
 refine sy_tx' [0, 1] rfl ?_
 refine alc rfl zl3 rfl (fun b9 => ?_)
 refine sto rfl rfl rfl cn3 rfl rfl rfl rfl ?_
 refine sy_block ?_
 refine sy_loop (ι := {x : Nat × Nat × Value // x.1 ≤ c.hs.length ∧ ∀ j, 1 ≤ j → j ≤ x.1 → moreS (agL g.miss c.hs) c.hs.length j [] 0 = none}) (fun x => ⟨[(3, .pointer (some ⟨b3, 0, none⟩)), (6, .pointer (some ⟨b6, 0, none⟩)), (8, .pointer (some ⟨b8, 0, none⟩)), (9, .pointer (some ⟨x.1.2.1, 0, none⟩))], (x.1.2.1, cel 3 [.int .i64 (x.1.1 + 1 : Nat)]) :: (b8, cel 22 [x.1.2.2]) :: (b6, cel 124 [.pointer (some ⟨bw, 0, none⟩)]) :: (b3, cel 28 (ctl c (c.sl ah ch))) :: H, RowsA (some ⟨bw, 0, none⟩) 6 [wrow g c (g.sl ag cg) (c.sl ah ch)] :: R⟩) (fun x => c.hs.length - x.1.1) ⟨(0, b9, .slice none 0 0), by omega, fun j h1 h2 => by dsimp only at h2; omega⟩ ?_ (fun x => ?_)
 exact sy_at (by repeat' first | exact Sub.nil | apply Sub.cons | rfl | (simp [lk]; omega)) (fun w h => h.del b2)
 obtain ⟨⟨k, b9, ov⟩, hk, hn⟩ := x
 dsimp only at hk hn ⊢
 refine sy_seq ?_
 refine sy_seq ?_
 refine sy_tx' [0, 1, 2, 3, 4] rfl ?_
 refine spL rfl rfl (lh sc3 rfl rfl) rfl ?_
 refine sp rfl (PE.fieldAddr fo28_2 rfl) rfl ?_
 refine spL rfl rfl (lh sc26 rfl rfl) rfl ?_
 refine sp rfl (PE.lenSl isl26 rfl) rfl ?_
 refine sp rfl (PE.leq rfl rfl) rfl ?_
 refine sy_cond rfl (fun hc2 => ?_) (fun hc2 => ?_)
 try simp only [decide_eq_true_eq, decide_eq_false_iff_not, Bool.and_eq_true, Bool.or_eq_true, Bool.not_eq_true', Int.not_le, Int.not_lt] at hc2
 have hk1 : k + 1 ≤ c.hs.length := by omega
 refine sy_skip ?_
 refine sy_seq ?_
 refine sy_block ?_
 refine sy_seq ?_
 refine sy_tx' [0] rfl ?_
 refine alc rfl zl122 rfl (fun b10 => ?_)
 refine sy_seq ?_
 refine sy_tx' [0, 1] rfl ?_
 refine sp rfl (PE.makeFunc rfl rfl) rfl ?_
 refine sto rfl rfl rfl cn122 rfl rfl rfl rfl ?_
 refine sy_seq ?_
 refine sy_tx' [0, 1] rfl ?_
 refine spL rfl rfl (lh sc122 rfl rfl) rfl ?_
 refine sy_pull b8 ?_
 refine Sy.heap (fun w h => St.norows (sz := 1) h) ?_
 refine clF rfl rfl (cal85) rfl rfl ((c_clash g hg ag cg c hc ah ch bw (k + 1) b9 b8 b6 b3 b10 hk1 (k + 1)) [] none 0 0 ov _ _ (hL := (inferInstance : MemRows none 1 [] _)) (by simp)) ?_
 rintro v H2 R2 hQ
 obtain ⟨bv, rfl⟩ : ∃ bv, v = .bool bv := by
   rcases hsr : moreS (agL g.miss c.hs) c.hs.length (k + 1) [] 0 with _ | d
   · rw [hsr] at hQ; exact ⟨false, hQ.1⟩
   · rw [hsr] at hQ; exact ⟨true, hQ.1⟩
 rcases hsr : moreS (agL g.miss c.hs) c.hs.length (k + 1) [] 0 with _ | d
 refine sy_cond rfl (fun hc3 => ?_) (fun hc3 => ?_)
 rw [hsr] at hQ
 obtain ⟨hv, _⟩ := hQ
 cases hv
 exact absurd hc3 (by simp)
 rw [hsr] at hQ
 obtain ⟨hv, ov2, rfl, rfl⟩ := hQ
 cases hv
 refine sy_skip ?_
 refine sy_seq ?_
 refine sy_seq ?_
 refine sy_tx' [0] rfl ?_
 refine spL rfl rfl (lh sc3 rfl rfl) rfl ?_
 refine sy_tx' [0, 1] rfl ?_
 refine Sy.heap (fun w h => (h.del b9).del b10) ?_
 refine alc rfl zl3 rfl (fun b9 => ?_)
 refine sto rfl rfl rfl cn3 rfl rfl rfl rfl ?_
 refine sy_tx' [0, 1, 2] rfl ?_
 refine spL rfl rfl (lh sc3 rfl rfl) rfl ?_
 refine sp rfl (PE.add rfl rfl (by omega)) rfl ?_
 refine sto rfl rfl rfl cn3 rfl rfl rfl rfl ?_
 rw [show ((k + 1 : Nat) : Int) + 1 = ((k + 1 + 1 : Nat) : Int) from by omega]
 exact sy_next ⟨(k + 1, b9, ov2), by omega, fun j h1 h2 => (Nat.lt_or_eq_of_le h2).elim (fun h => hn j h1 (by omega)) (fun h => by subst h; exact hsr)⟩ (by dsimp only; omega) (by repeat' first | exact Sub.nil | apply Sub.cons | rfl | (simp [lk]; omega)) (fun w h => h.ftail)
 refine sy_cond rfl (fun hc3 => ?_) (fun hc3 => ?_)
 rw [hsr] at hQ
 obtain ⟨hv, a9, c99, rfl, rfl⟩ := hQ
 cases hv
 have h9 := clash_at (ag := agL g.miss c.hs) (fun j h1 h2 => hn j h1 (by omega)) ⟨by omega, hk1⟩ hsr
 obtain rfl : clashL g.miss c.hs = d := by rw [show clashS (agL g.miss c.hs) c.hs.length = some (clashL g.miss c.hs) from hch] at h9; exact Option.some.inj h9
 refine sy_exit ?_
 refine sy_bxn (by decide) ?_
 repeat refine sy_tx ?_
 refine sy_bx ?_
 refine sy_seq ?_
 refine sy_tx' [0, 1, 2] rfl ?_
 refine spL rfl rfl (lh sc22 rfl rfl) rfl ?_
 refine sp rfl (PE.assign rfl) rfl ?_
 refine sp rfl (PE.assign rfl) rfl ?_
 refine sy_ret ?_
 exact sy_return (vs := [_, _]) rfl (.cons (RV.tmp rfl) (.cons (RV.tmp rfl) .nil)) rfl ⟨a9, c99, by rw [e]; rfl, rfl, by rw [e]⟩ (fun w h => St.sub (((((h.del b8).del b10).del b9).del b6).del b3))
 rw [hsr] at hQ
 obtain ⟨hv, _⟩ := hQ
 cases hv
 exact absurd hc3 (by simp)
 simp only [decide_eq_false_iff_not] at hc2
 exfalso
 obtain rfl : k = c.hs.length := by omega
 have h9 := clash_no (ag := agL g.miss c.hs) hn
 rw [show clashS (agL g.miss c.hs) c.hs.length = some (clashL g.miss c.hs) from hch] at h9
 cases h9
end Go.Proofs.YtndhkpnaeocnhaaGreat
namespace Go.Proofs.YtndhkpnaeocnhaaGreat
set_option linter.unusedSimpArgs false
set_option linter.unusedVariables false
open Go
theorem ap26 : apT Tryz.prog 26 = some (33, 5, 40) := by kernel_rfl
theorem ar64 : arN Tryz.prog 64 = some (4, 2) := by kernel_rfl
theorem cal27 : cal Tryz.prog 27 = true := by kernel_rfl
theorem cal28 : cal Tryz.prog 28 = true := by kernel_rfl
theorem cal29 : cal Tryz.prog 29 = true := by kernel_rfl
theorem cal30 : cal Tryz.prog 30 = true := by kernel_rfl
theorem cal31 : cal Tryz.prog 31 = true := by kernel_rfl
theorem cal32 : cal Tryz.prog 32 = true := by kernel_rfl
theorem cal33 : cal Tryz.prog 33 = true := by kernel_rfl
theorem cal34 : cal Tryz.prog 34 = true := by kernel_rfl
theorem cal4 : cal Tryz.prog 4 = true := by kernel_rfl
theorem cn25 : cellN Tryz.prog 25 = some 3 := by kernel_rfl
theorem cn26 : cellN Tryz.prog 26 = some 1 := by kernel_rfl
theorem cn28 : cellN Tryz.prog 28 = some 3 := by kernel_rfl
theorem eqf64 : eqB Tryz.prog 10000 64 = some (true, 8) := by kernel_rfl
theorem eqg64 : Tryz.prog.eqGuardType Tryz.prog.depth 64 = false := by kernel_rfl
theorem pl25 : placeL Tryz.prog 25 = some [(0, 1), (1, 1), (2, 1)] := by kernel_rfl
theorem pl28 : placeL Tryz.prog 28 = some [(0, 1), (1, 1), (2, 1)] := by kernel_rfl
theorem pl33 : placeL Tryz.prog 33 = some [(0, 1), (1, 4)] := by kernel_rfl
theorem pl36 : placeL Tryz.prog 36 = some [(0, 1), (1, 1), (2, 1), (3, 1), (4, 1)] := by kernel_rfl
theorem sl26 : slE Tryz.prog 26 = some (33, 5) := by kernel_rfl
theorem zl25 : zeroL Tryz.prog 25 = some ([.int .i64 0, .int .i64 0, .slice none 0 0]) := by kernel_rfl
theorem zl28 : zeroL Tryz.prog 28 = some ([.int .i64 0, .int .i64 0, .slice none 0 0]) := by kernel_rfl
theorem zl36 : zeroL Tryz.prog 36 = some ([.int .i64 0, .int .i64 0, .int .i64 0, .int .i64 0, .int .i64 0]) := by kernel_rfl
def exS (l : List Int) : List Hnd := l.map fun i => exH.getD i.toNat ⟨0, 0, 0, 0, 0⟩
theorem hrows_len (l : List Hnd) : ∀ q ∈ hrows l, q.length = 5 := fun q hq => by obtain ⟨x, _, rfl⟩ := List.mem_map.1 hq; rfl
theorem grows_len (l : List Grd) : ∀ q ∈ grows l, q.length = 5 := fun q hq => by obtain ⟨x, _, rfl⟩ := List.mem_map.1 hq; rfl
theorem ex_net : netR exG (exC (exS [0, 1])) = .tuple #[spv 890 910, .int .i64 0] := by kernel_rfl
theorem ex_bnd : bndB exG (exC (exS [0, 1])) = [31, 32, 4, 5, 0, 2, 2, 4] := by decide +kernel
theorem ex_told : toldE exG (exC (exS [0, 1])) false = 0 := by decide +kernel
theorem ex_sure : sureR exG (exC (exS [0, 1])) = (1, 0) := by decide +kernel
theorem ex_pay : payR exG (exC (exS [0, 1])) = .tuple #[spv 6230 6370, .int .i64 0] := by kernel_rfl
theorem ex_cla : claR exG (exC (exS [0, 1, 2])) = ([0, 2], 0) := by decide +kernel
theorem ex_topp : (bif decide (bothE exG (exC (exS [0, 1, 2])) ≠ 0) then false else topB exG.miss (exC (exS [0, 1, 2])).hs) = true ∧ bothE exG (exC (exS [0, 1, 2])) = 0 := by decide +kernel
theorem ex_canr : canR exG (exC (exS [1])) = [1, 2, -1] ∧ toldE exG (exC (exS [1])) false = 0 := by decide +kernel
theorem c_Three (xs : List Int) (a : Option Addr) (cx : Nat) (hx : ∀ x ∈ xs, 0 ≤ x ∧ x < 3) (hl : xs.length ≤ 100) (H : Heap) (R : Facts) [hR : MemRows a 1 (irows xs) R] :
    Fn Tryz.prog 4 [.slice a xs.length cx] H R (fun v H' R' => ∃ bg ah ch, v = .tuple #[exG.v (exG.sl (some ⟨bg, 0, none⟩) 3), (exC (exS xs)).v ((exC (exS xs)).sl ah ch)] ∧ H' = H ∧ R' = RowsA ah 5 (hrows (exS xs)) :: RowsA (some ⟨bg, 0, none⟩) 5 (grows exG.grs) :: R) := by
 refine fn_of Tryz.func4 rfl Tryz.ntmps4 rfl ?_
 refine sy_seq ?_
 refine sy_tx' [0, 1] rfl ?_
 refine alc rfl zl25 rfl (fun b2 => ?_)
 refine alc rfl zl28 rfl (fun b3 => ?_)
 refine sy_seq ?_
 refine sy_tx' [0, 1, 2, 3, 4, 5, 6, 7] rfl ?_
 refine sp rfl (PE.buildArr (out := [_, _, _, _]) ar31 zl31 rfl rfl) rfl ?_
 refine sp rfl (PE.build (out := [_, _, _, _, _]) pl33 zl33 rfl rfl) rfl ?_
 refine sp rfl (PE.buildArr (out := [_, _, _, _]) ar31 zl31 rfl rfl) rfl ?_
 refine sp rfl (PE.build (out := [_, _, _, _, _]) pl33 zl33 rfl rfl) rfl ?_
 refine sp rfl (PE.buildArr (out := [_, _, _, _]) ar31 zl31 rfl rfl) rfl ?_
 refine sp rfl (PE.build (out := [_, _, _, _, _]) pl33 zl33 rfl rfl) rfl ?_
 refine bsl (out := [_, _, _, _, _, _, _, _, _, _, _, _, _, _, _]) rfl sl26 zl33 rfl rfl rfl rfl rfl rfl (fun b14 => ?_)
 refine Sy.heap (fun w h => St.rows (sz := 5) (rows := hrows exH) (rest := []) h (hrows_len _)) ?_
 refine sp rfl (PE.assign rfl) rfl ?_
 refine sy_seq ?_
 refine sy_tx' [0, 1, 2] rfl ?_
 refine sp rfl (PE.build (out := [_, _, _]) pl28 zl28 rfl rfl) rfl ?_
 refine alc rfl zl28 rfl (fun b5 => ?_)
 refine sto rfl rfl rfl cn28 rfl rfl rfl rfl ?_
 refine sy_seq ?_
 refine sy_seq ?_
 refine sy_tx' [0, 1, 2] rfl ?_
 refine sp rfl (PE.move rfl) rfl ?_
 refine sp rfl (PE.lenSl isl22 rfl) rfl ?_
 refine sp rfl (PE.move rfl) rfl ?_
 refine sy_block ?_
 refine sy_loop (ι := (k : {k : Nat // k ≤ xs.length}) × OSl 33 5 (hrows (exS (xs.take k.1)))) (fun x => ⟨[(2, .pointer (some ⟨b2, 0, none⟩)), (3, .pointer (some ⟨b3, 0, none⟩)), (4, .slice (some ⟨b14, 0, none⟩) 3 3), (5, .pointer (some ⟨b5, 0, none⟩)), (16, .slice a xs.length cx), (17, .int .i64 xs.length), (18, .int .i64 x.1.1)], x.2.G ++ (b5, cel 28 (ctl (exC (exS xs)) x.2.fs)) :: (b3, cel 28 [.int .i64 0, .int .i64 0, .slice none 0 0]) :: (b2, cel 25 [.int .i64 0, .int .i64 0, .slice none 0 0]) :: H, RowsA (some ⟨b14, 0, none⟩) 5 (hrows exH) :: R⟩) (fun x => xs.length - x.1.1) ⟨⟨0, by omega⟩, (OSl.nil _ _).cast rfl⟩ ?_ (fun x => ?_)
 exact sy_at (by repeat' first | exact Sub.nil | apply Sub.cons | rfl | (simp [lk]; omega)) (fun _ h => h)
 obtain ⟨⟨k, hk⟩, o'⟩ := x
 dsimp only at hk o' ⊢
 refine sy_seq ?_
 refine sy_tx' [0] rfl ?_
 refine sp rfl (PE.lss rfl rfl) rfl ?_
 refine sy_seq ?_
 refine sy_cond rfl (fun hc0 => ?_) (fun hc0 => ?_)
 try simp only [decide_eq_true_eq, decide_eq_false_iff_not, Bool.and_eq_true, Bool.or_eq_true, Bool.not_eq_true', Int.not_le, Int.not_lt] at hc0
 obtain ⟨x, hxk⟩ : ∃ x, xs[k]? = some x := ⟨_, List.getElem?_eq_getElem (by omega)⟩
 have hx3 := hx x (List.mem_of_getElem? hxk)
 obtain ⟨h, hh⟩ : ∃ h, exH[x.toNat]? = some h := ⟨_, List.getElem?_eq_getElem (by show x.toNat < 3; omega)⟩
 have hst : exS (xs.take (k + 1)) = exS (xs.take k) ++ [h] := by unfold exS; rw [List.take_add_one, hxk]; simp [List.getD, hh]
 refine sy_addr (a := a) (sz := 1) (rows := irows xs) (by intro h0; simp [irows] at h0; simp [h0] at hxk) (fun ba oa he => ?_)
 subst he
 refine sy_skip ?_
 refine sy_seq ?_
 refine sy_block ?_
 refine sy_seq ?_
 refine sy_tx' [0, 1, 2] rfl ?_
 refine sp rfl (PE.indexAddr el22 rfl rfl (by omega) (by omega)) rfl ?_
 refine spL rfl rfl (lf0 (x := .int .i64 x) sc3 (by simp [irows, hxk]; rfl) rfl) rfl ?_
 refine sp rfl (PE.assign rfl) rfl ?_
 refine sy_draw [0, 1, 0, 0, 12, 28, 60, 127, 255, 511] (.tk 0 (.ld 1 (.tk 2 (.tk 3 (.tk 4 (.ld 5 (.big 6 (.big 7 (.tk 8 (.big 9 .done)))))))))) mixed (by kernel_rfl) ?_
 refine tk rfl (PE.fieldAddr fo28_2 rfl) rfl ?_
 refine ld rfl rfl (lh sc26 rfl rfl) rfl ?_
 refine tk rfl (PE.move rfl) rfl ?_
 refine tk rfl (PE.move rfl) rfl ?_
 refine tk rfl (PE.indexAddr el26 rfl rfl (by omega) (by show x < ((3 : Nat) : Int); omega)) rfl ?_
 refine ld rfl rfl (lfA ag33 (row := hrow h) (hr_get hh) rfl) rfl ?_
 refine bsl (out := [_, _, _, _, _]) rfl sl26 zl33 rfl rfl rfl rfl rfl rfl (fun b28 => ?_)
 refine bg (fun w hs => ⟨trivial, (lh sc26 rfl rfl) w hs, trivial⟩) ?_
 refine apO (o') rfl ap26 rfl rfl (rowsH (row := hrow h) rfl) rfl rfl ((by simp only [hrows, exS, List.length_map, List.length_take, List.length_singleton]; omega)) rfl (fun o29 => ?_)
 refine bg (fun w hs => ⟨trivial, trivial⟩) ?_
 refine tk rfl (PE.fieldAddr fo28_2 rfl) rfl ?_
 refine stoE (l' := ctl (exC (exS xs)) o29.fs) rfl rfl rfl cn26 rfl (by rw [o29.cells.1]; first | done | rfl) (by rw [o29.cells.1]; simp [o29.cells.2]) (by rw [o29.cells.1]; first | done | rfl) (by rw [o29.cells.1]; first | done | exact Nat.le_refl _) ?_
 refine bg (fun w hs => trivial) ?_
 refine sy_tx' [0, 1] rfl ?_
 refine sp rfl (PE.add rfl rfl (by omega)) rfl ?_
 refine sp rfl (PE.move rfl) rfl ?_
 exact sy_next ⟨⟨k + 1, by omega⟩, o29.cast (by rw [hst]; simp [hrows])⟩ (by dsimp only; omega) (by repeat' first | exact Sub.nil | apply Sub.cons | rfl | (simp [lk]; omega)) (fun w h => h.del b28)
 try simp only [decide_eq_true_eq, decide_eq_false_iff_not, Bool.and_eq_true, Bool.or_eq_true, Bool.not_eq_true', Int.not_le, Int.not_lt] at hc0
 obtain rfl : k = xs.length := by omega
 obtain ⟨ah, ch, he, hf⟩ := (o'.cast (by rw [List.take_length]) : OSl _ 5 (hrows (exS xs))).freeze
 rw [show o'.fs = _ from he]
 refine Sy.heap (fun w h => hf h) ?_
 rw [show (hrows (exS xs)).length = (exC (exS xs)).hs.length from List.length_map _]
 clear he hf
 refine sy_exit ?_
 repeat refine sy_tx ?_
 refine sy_bx ?_
 refine sy_seq ?_
 refine sy_draw [0, 0, 0, 7, 15, 0, 31, 127] (.tk 0 (.tk 1 (.tk 2 (.ld 5 (.big 3 (.tk 4 (.big 6 (.big 7 .done)))))))) mixed (by kernel_rfl) ?_
 refine tk rfl (PE.build (out := [_, _, _, _, _]) pl36 zl36 rfl rfl) rfl ?_
 refine tk rfl (PE.build (out := [_, _, _, _, _]) pl36 zl36 rfl rfl) rfl ?_
 refine tk rfl (PE.build (out := [_, _, _, _, _]) pl36 zl36 rfl rfl) rfl ?_
 refine ld rfl rfl (lhA [_, _, _] ag28 rfl rfl rfl) rfl ?_
 refine bsl (out := [_, _, _, _, _, _, _, _, _, _, _, _, _, _, _]) rfl sl23 zl36 rfl rfl rfl rfl rfl rfl (fun b35 => ?_)
 refine bg (fun w hs => ⟨(lhA [_, _, _] ag28 rfl rfl rfl) w hs, trivial⟩) ?_
 refine tk rfl (PE.build (out := gtl exG (exG.sl (some ⟨b35, 0, none⟩) 3)) pl25 zl25 rfl rfl) rfl ?_
 refine sto rfl rfl rfl cn25 rfl rfl rfl rfl ?_
 refine bg (fun w hs => ⟨(lhA [_, _, _] ag28 rfl rfl rfl) w hs, trivial⟩) ?_
 refine sto rfl rfl rfl cn28 rfl rfl rfl rfl ?_
 refine bg (fun w hs => ⟨trivial, trivial⟩) ?_
 refine sy_ret ?_
 refine Sy.heap (fun w h => St.rows (sz := 5) (rows := grows exG.grs) (rest := []) (h.pull b35) (grows_len _)) ?_
 exact sy_return (vs := [_, _]) rfl (.cons (RV.cell rfl (lhA [_, _, _] ag25 rfl rfl rfl)) (.cons (RV.cell rfl (lhA [_, _, _] ag28 rfl rfl rfl)) .nil)) rfl ⟨b35, ah, ch, rfl, rfl, rfl⟩ (fun w h => St.sub (((h.del b5).del b3).del b2))
theorem c_awake (H : Heap) (R : Facts) :
    FnV Tryz.prog 8 [] H R (.bool true) := by
 refine fn_of Tryz.func8 rfl Tryz.ntmps8 rfl ?_
 refine sy_seq ?_
 refine sy_tx' [0] rfl ?_
 refine sp rfl (PE.assign rfl) rfl ?_
 refine sy_seq ?_
 refine sy_tx' [0, 1, 2, 3, 4, 5, 6, 7, 8] rfl ?_
 refine bsl (out := [_, _]) rfl sl22 zl3 rfl rfl rfl rfl rfl rfl (fun b22 => ?_)
 refine Sy.heap (fun w h => St.intRows (l := [0, 1]) (h.pull b22)) ?_
 refine cl rfl cal4 rfl rfl (c_Three [0, 1] (some ⟨b22, 0, none⟩) 2 (by decide) (by decide) _ _) ?_
 rintro _ _ R1 ⟨bg22, ah22, ch22, rfl, rfl, hR1⟩
 obtain rfl := hR1.symm
 clear hR1
 refine sp rfl (PE.move rfl) rfl ?_
 refine sp rfl (PE.extract rfl rfl) rfl ?_
 refine sp rfl (PE.extract rfl rfl) rfl ?_
 refine alc rfl zl25 rfl (fun b1 => ?_)
 refine alc rfl zl28 rfl (fun b2 => ?_)
 refine sto rfl rfl rfl cn25 rfl rfl rfl rfl ?_
 refine sto rfl rfl rfl cn28 rfl rfl rfl rfl ?_
 refine sy_seq ?_
 refine sy_tx' [0, 1, 2, 3, 4, 5, 6, 7, 8] rfl ?_
 refine bsl (out := [_, _, _]) rfl sl22 zl3 rfl rfl rfl rfl rfl rfl (fun b27 => ?_)
 refine Sy.heap (fun w h => St.intRows (l := [0, 1, 2]) (h.pull b27)) ?_
 refine cl rfl cal4 rfl rfl (c_Three [0, 1, 2] (some ⟨b27, 0, none⟩) 3 (by decide) (by decide) _ _) ?_
 rintro _ _ R1 ⟨bg27, ah27, ch27, rfl, rfl, hR1⟩
 obtain rfl := hR1.symm
 clear hR1
 refine sp rfl (PE.move rfl) rfl ?_
 refine sp rfl (PE.extract rfl rfl) rfl ?_
 refine sp rfl (PE.extract rfl rfl) rfl ?_
 refine alc rfl zl25 rfl (fun b3 => ?_)
 refine alc rfl zl28 rfl (fun b4 => ?_)
 refine sto rfl rfl rfl cn25 rfl rfl rfl rfl ?_
 refine sto rfl rfl rfl cn28 rfl rfl rfl rfl ?_
 refine sy_seq ?_
 refine sy_tx' [0, 1, 2, 3, 4, 5, 6, 7, 8] rfl ?_
 refine bsl (out := [_]) rfl sl22 zl3 rfl rfl rfl rfl rfl rfl (fun b32 => ?_)
 refine Sy.heap (fun w h => St.intRows (l := [1]) (h.pull b32)) ?_
 refine cl rfl cal4 rfl rfl (c_Three [1] (some ⟨b32, 0, none⟩) 1 (by decide) (by decide) _ _) ?_
 rintro _ _ R1 ⟨bg32, ah32, ch32, rfl, rfl, hR1⟩
 obtain rfl := hR1.symm
 clear hR1
 refine sp rfl (PE.move rfl) rfl ?_
 refine sp rfl (PE.extract rfl rfl) rfl ?_
 refine sp rfl (PE.extract rfl rfl) rfl ?_
 refine alc rfl zl25 rfl (fun b5 => ?_)
 refine alc rfl zl28 rfl (fun b6 => ?_)
 refine sto rfl rfl rfl cn25 rfl rfl rfl rfl ?_
 refine sto rfl rfl rfl cn28 rfl rfl rfl rfl ?_
 refine sy_seq ?_
 refine sy_tx' [0, 1, 2, 3, 4, 5, 6, 7, 8] rfl ?_
 refine spL rfl rfl (lhA [_, _, _] ag25 rfl rfl rfl) rfl ?_
 refine spL rfl rfl (lhA [_, _, _] ag28 rfl rfl rfl) rfl ?_
 refine cl rfl cal27 rfl rfl (c_Net exG (some ⟨bg22, 0, none⟩) 3 (by decide) (exC (exS [0, 1])) ah22 ch22 (by decide) _ _) ?_
 rintro _ _ _ ⟨rfl, rfl, rfl⟩
 rw [ex_net]
 refine sp rfl (PE.move rfl) rfl ?_
 refine sp rfl (PE.extract rfl rfl) rfl ?_
 refine sp rfl (PE.extract rfl rfl) rfl ?_
 refine alc rfl zl61 rfl (fun b7 => ?_)
 refine sto rfl rfl rfl cn61 rfl rfl rfl rfl ?_
 refine sp rfl (PE.assign rfl) rfl ?_
 refine sy_seq ?_
 refine sy_tx' [0, 1, 2, 3, 4, 5, 6, 7, 8] rfl ?_
 refine spL rfl rfl (lhA [_, _, _] ag25 rfl rfl rfl) rfl ?_
 refine spL rfl rfl (lhA [_, _, _] ag28 rfl rfl rfl) rfl ?_
 refine cl rfl cal28 rfl rfl (c_Bounds exG (some ⟨bg22, 0, none⟩) 3 (by decide) (exC (exS [0, 1])) ah22 ch22 (by decide) _ _) ?_
 rintro _ _ _ ⟨rfl, rfl, rfl⟩
 rw [ex_bnd, ex_told]
 refine sp rfl (PE.move rfl) rfl ?_
 refine sp rfl (PE.extract rfl rfl) rfl ?_
 refine sp rfl (PE.extract rfl rfl) rfl ?_
 refine alc rfl zl64 rfl (fun b9 => ?_)
 refine sto rfl rfl rfl cn64 rfl rfl rfl rfl ?_
 refine sp rfl (PE.assign rfl) rfl ?_
 refine sy_seq ?_
 refine sy_tx' [0, 1, 2, 3, 4, 5, 6, 7] rfl ?_
 refine spL rfl rfl (lhA [_, _, _] ag25 rfl rfl rfl) rfl ?_
 refine spL rfl rfl (lhA [_, _, _] ag28 rfl rfl rfl) rfl ?_
 refine cl rfl cal29 rfl rfl (c_Sure exG (some ⟨bg22, 0, none⟩) 3 (by decide) (by decide) (exC (exS [0, 1])) ah22 ch22 (by decide) _ _) ?_
 rintro _ _ _ ⟨rfl, rfl, rfl⟩
 rw [ex_sure]
 refine sp rfl (PE.move rfl) rfl ?_
 refine sp rfl (PE.extract rfl rfl) rfl ?_
 refine sp rfl (PE.extract rfl rfl) rfl ?_
 refine sp rfl (PE.assign rfl) rfl ?_
 refine sp rfl (PE.assign rfl) rfl ?_
 refine sy_seq ?_
 refine sy_tx' [0, 1, 2, 3, 4, 5, 6, 7, 8] rfl ?_
 refine spL rfl rfl (lhA [_, _, _] ag25 rfl rfl rfl) rfl ?_
 refine spL rfl rfl (lhA [_, _, _] ag28 rfl rfl rfl) rfl ?_
 refine cl rfl cal30 rfl rfl (c_Pay exG (some ⟨bg22, 0, none⟩) 3 (by decide) (by decide) (exC (exS [0, 1])) ah22 ch22 (by decide) _ _) ?_
 rintro _ _ _ ⟨rfl, rfl, rfl⟩
 rw [ex_pay]
 refine sp rfl (PE.move rfl) rfl ?_
 refine sp rfl (PE.extract rfl rfl) rfl ?_
 refine sp rfl (PE.extract rfl rfl) rfl ?_
 refine alc rfl zl61 rfl (fun b13 => ?_)
 refine sto rfl rfl rfl cn61 rfl rfl rfl rfl ?_
 refine sp rfl (PE.assign rfl) rfl ?_
 refine sy_seq ?_
 refine sy_tx' [0, 1, 2, 3, 4, 5, 6, 7] rfl ?_
 refine spL rfl rfl (lhA [_, _, _] ag25 rfl rfl rfl) rfl ?_
 refine spL rfl rfl (lhA [_, _, _] ag28 rfl rfl rfl) rfl ?_
 refine cl rfl cal31 rfl rfl (c_Clash exG (some ⟨bg22, 0, none⟩) 3 (by decide) (exC (exS [0, 1, 2])) ah27 ch27 (by decide) _ _) ?_
 rintro _ _ _ ⟨acl, ccl, rfl, rfl, rfl⟩
 rw [ex_cla]
 refine sp rfl (PE.move rfl) rfl ?_
 refine sp rfl (PE.extract rfl rfl) rfl ?_
 refine sp rfl (PE.extract rfl rfl) rfl ?_
 refine sp rfl (PE.assign rfl) rfl ?_
 refine sp rfl (PE.assign rfl) rfl ?_
 refine sy_seq ?_
 refine sy_tx' [0, 1, 2, 3, 4, 5, 6, 7] rfl ?_
 refine spL rfl rfl (lhA [_, _, _] ag25 rfl rfl rfl) rfl ?_
 refine spL rfl rfl (lhA [_, _, _] ag28 rfl rfl rfl) rfl ?_
 refine cl rfl cal32 rfl rfl (c_Topped exG (some ⟨bg22, 0, none⟩) 3 (by decide) (exC (exS [0, 1, 2])) ah27 ch27 (by decide) _ _) ?_
 rintro _ _ _ ⟨rfl, rfl, rfl⟩
 rw [ex_topp.1, ex_topp.2]
 refine sp rfl (PE.move rfl) rfl ?_
 refine sp rfl (PE.extract rfl rfl) rfl ?_
 refine sp rfl (PE.extract rfl rfl) rfl ?_
 refine sp rfl (PE.assign rfl) rfl ?_
 refine sp rfl (PE.assign rfl) rfl ?_
 refine sy_seq ?_
 refine sy_tx' [0, 1, 2, 3, 4, 5, 6, 7] rfl ?_
 refine spL rfl rfl (lhA [_, _, _] ag25 rfl rfl rfl) rfl ?_
 refine spL rfl rfl (lhA [_, _, _] ag28 rfl rfl rfl) rfl ?_
 refine cl rfl cal33 rfl rfl (c_Can exG (some ⟨bg22, 0, none⟩) 3 (by decide) (by decide) (exC (exS [1])) ah32 ch32 (by decide) _ _) ?_
 rintro _ _ _ ⟨o, rfl, rfl, rfl⟩
 obtain ⟨acn, ccn, he, hf⟩ := o.freeze
 rw [he]
 refine Sy.heap (fun w h => hf h) ?_
 rw [show (irows (canR exG (exC (exS [1])))).length = (canR exG (exC (exS [1]))).length from List.length_map _, ex_canr.1, ex_canr.2]
 clear he hf
 refine sp rfl (PE.move rfl) rfl ?_
 refine sp rfl (PE.extract rfl rfl) rfl ?_
 refine sp rfl (PE.extract rfl rfl) rfl ?_
 refine sp rfl (PE.assign rfl) rfl ?_
 refine sp rfl (PE.assign rfl) rfl ?_
 refine sy_seq ?_
 refine sy_tx' [0, 1, 2, 3, 4, 5, 6, 7, 8, 9, 10, 11, 12, 13, 14, 15, 16, 17, 18, 19, 20, 21, 22, 23, 24, 25, 26, 27, 28, 29, 30, 31, 32, 33, 34, 35, 36, 37, 38, 39, 40, 41, 42, 43, 44, 45, 46, 47, 48, 49, 50, 51, 52, 53, 54, 55, 56, 57, 58, 59, 60, 61, 62] rfl ?_
 refine sp rfl (PE.move rfl) rfl ?_
 refine sp rfl (PE.eql rfl rfl) rfl ?_
 refine sp rfl (PE.move rfl) rfl ?_
 refine sy_case (t := 80) rfl (fun g80 => ?_) (fun g80 => ?_)
 refine spG rfl rfl rfl rfl (PE.move rfl) rfl ?_
 refine spG rfl rfl rfl rfl (PE.eql rfl rfl) rfl ?_
 refine sp rfl (PE.pick rfl rfl rfl) rfl ?_
 refine sp rfl (PE.move rfl) rfl ?_
 refine sy_case (t := 84) rfl (fun g84 => ?_) (fun g84 => ?_)
 refine spG rfl rfl rfl rfl (PE.move rfl) rfl ?_
 refine spG rfl rfl rfl rfl (PE.eql rfl rfl) rfl ?_
 refine sp rfl (PE.pick rfl rfl rfl) rfl ?_
 refine sp rfl (PE.move rfl) rfl ?_
 refine sy_case (t := 88) rfl (fun g88 => ?_) (fun g88 => ?_)
 refine spG rfl rfl rfl rfl (PE.move rfl) rfl ?_
 refine spG rfl rfl rfl rfl (PE.eql rfl rfl) rfl ?_
 refine sp rfl (PE.pick rfl rfl rfl) rfl ?_
 refine sp rfl (PE.move rfl) rfl ?_
 refine sy_case (t := 92) rfl (fun g92 => ?_) (fun g92 => ?_)
 refine spG rfl rfl rfl rfl (PE.move rfl) rfl ?_
 refine spG rfl rfl rfl rfl (PE.eql rfl rfl) rfl ?_
 refine sp rfl (PE.pick rfl rfl rfl) rfl ?_
 refine sp rfl (PE.move rfl) rfl ?_
 refine sy_case (t := 96) rfl (fun g96 => ?_) (fun g96 => ?_)
 refine spG rfl rfl rfl rfl (PE.move rfl) rfl ?_
 refine spG rfl rfl rfl rfl (PE.eql rfl rfl) rfl ?_
 refine sp rfl (PE.pick rfl rfl rfl) rfl ?_
 refine sp rfl (PE.move rfl) rfl ?_
 refine sy_case (t := 100) rfl (fun g100 => ?_) (fun g100 => ?_)
 refine spG rfl rfl rfl rfl (PE.move rfl) rfl ?_
 refine spG rfl rfl rfl rfl (PE.eql rfl rfl) rfl ?_
 refine sp rfl (PE.pick rfl rfl rfl) rfl ?_
 refine sp rfl (PE.move rfl) rfl ?_
 refine sy_case (t := 104) rfl (fun g104 => ?_) (fun g104 => ?_)
 refine spLG rfl rfl rfl rfl rfl (lhA [_, _] ag61 rfl rfl rfl) rfl ?_
 refine spG rfl rfl rfl rfl (PE.build (out := [_, _]) pl61 zl61 rfl rfl) rfl ?_
 refine spG rfl rfl rfl rfl (PE.eqlAgg [890, 910] [890, 910] (eqB_ok 10000 61 true 2 eqf61) eqg61 rfl rfl rfl rfl) rfl ?_
 refine sp rfl (PE.pick rfl rfl rfl) rfl ?_
 refine sp rfl (PE.move rfl) rfl ?_
 refine sy_case (t := 109) rfl (fun g109 => ?_) (fun g109 => ?_)
 refine spLG rfl rfl rfl rfl rfl (lhA [_, _, _, _, _, _, _, _] ag64 rfl rfl rfl) rfl ?_
 refine spG rfl rfl rfl rfl (PE.build (out := [_, _]) pl61 zl61 rfl rfl) rfl ?_
 refine spG rfl rfl rfl rfl (PE.build (out := [_, _]) pl61 zl61 rfl rfl) rfl ?_
 refine spG rfl rfl rfl rfl (PE.build (out := [_, _]) pl61 zl61 rfl rfl) rfl ?_
 refine spG rfl rfl rfl rfl (PE.build (out := [_, _]) pl61 zl61 rfl rfl) rfl ?_
 refine spG rfl rfl rfl rfl (PE.buildArr (out := [_, _, _, _, _, _, _, _]) ar64 zl64 rfl rfl) rfl ?_
 refine spG rfl rfl rfl rfl (PE.eqlAgg [31, 32, 4, 5, 0, 2, 2, 4] [31, 32, 4, 5, 0, 2, 2, 4] (eqB_ok 10000 64 true 8 eqf64) eqg64 rfl rfl rfl rfl) rfl ?_
 refine sp rfl (PE.pick rfl rfl rfl) rfl ?_
 refine sp rfl (PE.move rfl) rfl ?_
 refine sy_case (t := 118) rfl (fun g118 => ?_) (fun g118 => ?_)
 refine spG rfl rfl rfl rfl (PE.move rfl) rfl ?_
 refine spG rfl rfl rfl rfl (PE.eql rfl rfl) rfl ?_
 refine sp rfl (PE.pick rfl rfl rfl) rfl ?_
 refine sp rfl (PE.move rfl) rfl ?_
 refine sy_case (t := 122) rfl (fun g122 => ?_) (fun g122 => ?_)
 refine spLG rfl rfl rfl rfl rfl (lhA [_, _] ag61 rfl rfl rfl) rfl ?_
 refine spG rfl rfl rfl rfl (PE.build (out := [_, _]) pl61 zl61 rfl rfl) rfl ?_
 refine spG rfl rfl rfl rfl (PE.eqlAgg [6230, 6370] [6230, 6370] (eqB_ok 10000 61 true 2 eqf61) eqg61 rfl rfl rfl rfl) rfl ?_
 refine sp rfl (PE.pick rfl rfl rfl) rfl ?_
 refine sp rfl (PE.move rfl) rfl ?_
 refine sy_case (t := 127) rfl (fun g127 => ?_) (fun g127 => ?_)
 refine spG rfl rfl rfl rfl (PE.move rfl) rfl ?_
 refine bslG (out := [_, _]) rfl rfl rfl rfl sl22 zl3 rfl rfl rfl rfl rfl rfl (fun b129 => ?_)
 refine Sy.heap (fun w h => St.intRows (l := [0, 2]) (h.pull b129)) ?_
 refine clVG rfl rfl rfl rfl cal34 rfl rfl (c_eq_int [0, 2] [0, 2] acl (some ⟨b129, 0, none⟩) ccl 2 (by decide) (by decide) _ _) ?_
 refine sp rfl (PE.pick rfl rfl rfl) rfl ?_
 refine sp rfl (PE.move rfl) rfl ?_
 refine sy_case (t := 132) rfl (fun g132 => ?_) (fun g132 => ?_)
 refine spG rfl rfl rfl rfl (PE.move rfl) rfl ?_
 refine sp rfl (PE.pick rfl rfl rfl) rfl ?_
 refine sp rfl (PE.move rfl) rfl ?_
 refine sy_case (t := 135) rfl (fun g135 => ?_) (fun g135 => ?_)
 refine spG rfl rfl rfl rfl (PE.move rfl) rfl ?_
 refine bslG (out := [_, _, _]) rfl rfl rfl rfl sl22 zl3 rfl rfl rfl rfl rfl rfl (fun b137 => ?_)
 refine Sy.heap (fun w h => St.intRows (l := [1, 2, -1]) (h.pull b137)) ?_
 refine clVG rfl rfl rfl rfl cal34 rfl rfl (c_eq_int [1, 2, -1] [1, 2, -1] acn (some ⟨b137, 0, none⟩) ccn 3 (by decide) (by decide) _ _) ?_
 refine sp rfl (PE.pick rfl rfl rfl) rfl ?_
 refine sp rfl (PE.assign rfl) rfl ?_
 refine sy_ret ?_
 exact sy_return (vs := [_]) rfl (.cons (RV.tmp rfl) .nil) rfl ⟨rfl, rfl, rfl⟩ drp
 exact absurd g135 (by first | (simp; done) | (simp_all; done))
 exact absurd g132 (by first | (simp; done) | (simp_all; done))
 exact absurd g127 (by first | (simp; done) | (simp_all; done))
 exact absurd g122 (by first | (simp; done) | (simp_all; done))
 exact absurd g118 (by first | (simp; done) | (simp_all; done))
 exact absurd g109 (by first | (simp; done) | (simp_all; done))
 exact absurd g104 (by first | (simp; done) | (simp_all; done))
 exact absurd g100 (by first | (simp; done) | (simp_all; done))
 exact absurd g96 (by first | (simp; done) | (simp_all; done))
 exact absurd g92 (by first | (simp; done) | (simp_all; done))
 exact absurd g88 (by first | (simp; done) | (simp_all; done))
 exact absurd g84 (by first | (simp; done) | (simp_all; done))
 exact absurd g80 (by first | (simp; done) | (simp_all; done))
end Go.Proofs.YtndhkpnaeocnhaaGreat
namespace Go.Proofs.YtndhkpnaeocnhaaGreat
set_option linter.unusedSimpArgs false
set_option linter.unusedVariables false
open Go
structure MxI (k : Nat) (l : List Int) (left : Int) : Prop where
  len : l.length = 4
  sum : sum4 l + left = 40
  at_ : ∀ j < 4, 0 ≤ nn l j ∧ nn l j ≤ 40
  lo : 0 ≤ left ∧ left ≤ 40
  zero : ∀ j < 4, j + k ≤ 3 → nn l j = 0
theorem MxI.start : MxI 0 [0, 0, 0, 0] 40 := ⟨rfl, rfl, of4 ⟨by decide, by decide, by decide, by decide⟩, by omega, of4 ⟨fun _ => rfl, fun _ => rfl, fun _ => rfl, fun _ => rfl⟩⟩
theorem MxI.more {k : Nat} {l : List Int} {left v : Int} (h : MxI k l left) (hk : k < 3) (hv : 0 ≤ v ∧ v ≤ left) : MxI (k + 1) (l.set (3 - k) v) (left - v) := by
  have hlo := h.lo
  have hz := h.zero (3 - k) (by omega) (by omega)
  have hs := h.sum
  have hset : ∀ j, nn (l.set (3 - k) v) j = bif 3 - k == j then v else nn l j := fun j => nn_set (by rw [h.len]; omega)
  refine ⟨by simp [h.len], by rw [sum_set h.len (by omega)]; omega, fun j hj => ?_, by omega, fun j hj hjk => ?_⟩
  · rw [hset]
    cases 3 - k == j
    · exact h.at_ j hj
    · simp only [cond_true]; omega
  · rw [hset, show (3 - k == j) = false from by simp; omega]
    exact h.zero j hj (by omega)
theorem MxI.done {l : List Int} {left : Int} (h : MxI 3 l left) : Mxt (l.set 0 left) := by
  have hlo := h.lo
  have hz := h.zero 0 (by omega) (by omega)
  have hs := h.sum
  refine ⟨by simp [h.len], by rw [sum_set h.len (by omega)]; omega, fun j hj => ?_⟩
  rw [nn_set (by rw [h.len]; omega)]
  cases (0 : Nat) == j
  · exact h.at_ j hj
  · simp only [cond_true]; omega
end Go.Proofs.YtndhkpnaeocnhaaGreat
