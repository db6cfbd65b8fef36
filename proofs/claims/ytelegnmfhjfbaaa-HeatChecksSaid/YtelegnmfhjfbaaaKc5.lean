/- Walks of the functions of the program, and the laws that join them: what the last theorem of this claim needs, in order. -/
import Derived.Test.YtelegnmfhjfbaaaKc4
namespace Go.Proofs.Ytelegnmfhjfbaaa
set_option linter.unusedSimpArgs false
set_option linter.unusedVariables false
open Go
theorem ag113 : aggN Try.prog 113 = some 4 := by kernel_rfl
theorem cal48 : cal Try.prog 48 = true := by kernel_rfl
theorem cal72 : cal Try.prog 72 = true := by kernel_rfl
theorem cn113 : cellN Try.prog 113 = some 4 := by kernel_rfl
theorem el31 : elN Try.prog 31 = some 4 := by kernel_rfl
theorem fo113_0 : fOff Try.prog 113 0 = some 0 := by kernel_rfl
theorem fo113_1 : fOff Try.prog 113 1 = some 1 := by kernel_rfl
theorem fo113_2 : fOff Try.prog 113 2 = some 2 := by kernel_rfl
theorem fo33_0 : fOff Try.prog 33 0 = some 0 := by kernel_rfl
theorem fo33_1 : fOff Try.prog 33 1 = some 1 := by kernel_rfl
theorem fo33_2 : fOff Try.prog 33 2 = some 2 := by kernel_rfl
theorem isl31 : isSl Try.prog 31 = true := by kernel_rfl
theorem daysB_end {r m w v : Int} {n : Nat} (hr : 0 < r) (hv : v = w + (n : Int) * r) (h : n = 0 ∨ v ≤ m) (h2 : m < v + r) : daysB r m w = n := by
  have hn : 0 ≤ (n : Int) * r := Int.mul_nonneg (by omega) (by omega)
  by_cases hw : w ≤ m
  · exact daysB_step hr (by rcases h with rfl | h <;> simp_all) (by rw [Int.add_mul]; omega) hw
  · obtain rfl : n = 0 := by rcases h with h | h <;> omega
    unfold daysB
    rw [decide_eq_false (by omega), cond_false, decide_eq_true (by omega), cond_true]; rfl
theorem ck2 {b : Barn} (h : nin (b.bins.length : Int) 1 4 = true) : b.check = 2 := by
  unfold Barn.check; rw [nin_in] at h; rw [h]; rfl
theorem ck3 {b : Barn} (h : nin (b.bins.length : Int) 1 4 = false) (h1 : nin b.cool 0 60 = true ∨ nin b.gangs 0 3 = true) : b.check = 3 := by
  unfold Barn.check; rw [nin_in] at h h1; rw [nin_in] at h1; rw [h]
  rcases h1 with h1 | h1 <;> rw [h1] <;> simp
theorem ck3r {b : Barn} (h : nin (b.bins.length : Int) 1 4 = false) (h1 : nin b.cool 0 60 = false) (h2 : nin b.gangs 0 3 = false) {k : Nat} (hk : k < b.rise.length) (h3 : na b.rise k ≠ 0) (h4 : nin (na b.rise k) 6 20 = true) : b.check = 3 := by
  have e : b.rise.all riseOk = false := by
    rw [List.all_eq_false]
    refine ⟨_, na_mem hk, ?_⟩
    rw [nin_in] at h4
    unfold riseOk
    rw [decide_eq_false h3, Bool.false_or]
    rw [Bool.not_eq_true'] at h4
    rw [h4]; decide
  unfold Barn.check; rw [nin_in] at h h1 h2; rw [h, h1, h2, e]; rfl
theorem riseOk_of {n : Int} (h : n = 0 ∨ nin n 6 20 = false) : riseOk n = true := by
  unfold riseOk
  rcases h with h | h
  · rw [decide_eq_true h, Bool.true_or]
  · rw [nin_in, Bool.not_eq_false'] at h; rw [h, Bool.or_true]
theorem bin_bad {x : HBin} (h : nin x.mark 0 60 = true ∨ nin x.warm 0 x.mark = true ∨ nin x.lo 0 5 = true ∨ nin x.hi 0 5 = true) : x.ok = false := by
  simp only [nin_in, Bool.not_eq_true'] at h
  unfold HBin.ok
  rcases h with h | h | h | h <;> rw [h] <;> simp
theorem bin_good {x : HBin} (h1 : nin x.mark 0 60 = false) (h2 : nin x.warm 0 x.mark = false) (h3 : nin x.lo 0 5 = false) (h4 : nin x.hi 0 5 = false) : x.ok = true := by
  simp only [nin_in, Bool.not_eq_false'] at h1 h2 h3 h4
  unfold HBin.ok; rw [h1, h2, h3, h4]; rfl
structure CkA (b : Barn) : Prop where
  many : nin (b.bins.length : Int) 1 4 = false
  cool : nin b.cool 0 60 = false
  gangs : nin b.gangs 0 3 = false
theorem CkA.at_bin {b : Barn} (h : CkA b) (hr : b.rise.all riseOk = true) {x : HBin} (hx : x ∈ b.bins) (hb : x.ok = false) : b.check = 3 := by
  have e : b.bins.all HBin.ok = false := by rw [List.all_eq_false]; exact ⟨x, hx, by rw [hb]; decide⟩
  have h1 := h.many; have h2 := h.cool; have h3 := h.gangs
  unfold Barn.check; rw [nin_in] at h1 h2 h3; rw [h1, h2, h3, hr, e]; rfl
theorem CkA.rest {b : Barn} (h : CkA b) (hr : b.rise.all riseOk = true) (hb : b.bins.all HBin.ok = true) : b.check = bif !(srt b.rise) || !(b.bins.all fun x => decide (x.lo ≤ x.hi)) then 4 else 0 := by
  have h1 := h.many; have h2 := h.cool; have h3 := h.gangs
  unfold Barn.check; rw [nin_in] at h1 h2 h3; rw [h1, h2, h3, hr, hb]; rfl
theorem na_get' {l : List Int} {k : Nat} {y : Int} (h : l[k]? = some y) : na l k = y := by unfold na; rw [List.getD_eq_getElem?_getD, h]; rfl
theorem all_nat {l : List Int} {p : Int → Bool} (h : ∀ k, k < l.length → p (na l k) = true) : l.all p = true := by
  rw [List.all_eq_true]
  intro x hx
  obtain ⟨k, hk, rfl⟩ := List.mem_iff_getElem.1 hx
  have := h k hk
  rwa [na_get' (List.getElem?_eq_getElem hk)] at this
theorem all_bins {l : List HBin} {p : HBin → Bool} (h : ∀ (k : Nat) (x : HBin), l[k]? = some x → p x = true) : l.all p = true := by
  rw [List.all_eq_true]
  intro x hx
  obtain ⟨k, hk, rfl⟩ := List.mem_iff_getElem.1 hx
  exact h k _ (List.getElem?_eq_getElem hk)
theorem c_rLeft (b : Barn) (ab : Option Addr) (cb : Nat) (hok : b.ok) (k : Nat) (x : HBin) (hx : b.bins[k]? = some x) (w : Int) (hw : 0 ≤ w ∧ w ≤ 60) (H : Heap) (R : Facts) [hB : MemRows ab 4 (brows b.bins) R] :
    FnV Try.prog 48 [b.v (b.sl ab cb), .int .i64 k, .int .i64 w] H R (.int .i64 (b.days x w)) := by
 have hk := (List.getElem?_eq_some_iff.1 hx).1
 have hm := List.mem_of_getElem? hx
 have hh := (hok.bins x hm).2.2.2
 have hmk := (hok.bins x hm).1
 have hwr : na b.rise x.hi.toNat = 0 ∨ (6 ≤ na b.rise x.hi.toNat ∧ na b.rise x.hi.toNat ≤ 20) := b.worst_range hok hm
 refine fn_of Try.func48 rfl Try.ntmps48 rfl ?_
 refine sy_seq ?_
 refine sy_tx' [0, 1] rfl ?_
 refine bx rfl rfl rfl (fun b3 => ?_)
 refine sp rfl (PE.assign rfl) rfl ?_
 refine sy_seq ?_
 refine sy_tx' [0, 1, 2, 3, 4, 5, 6, 7, 8, 9, 10, 11] rfl ?_
 refine sp rfl (PE.fieldAddr fo33_3 rfl) rfl ?_
 refine spL rfl rfl (lh sc31 rfl rfl) rfl ?_
 refine sp rfl (PE.move rfl) rfl ?_
 refine sy_addr (a := ab) (sz := 4) (rows := brows b.bins) (by intro h0; simp [brows] at h0; simp [h0] at hx) (fun ba oa he => ?_)
 subst he
 refine sp rfl (PE.indexAddr el31 rfl rfl (by omega) (by omega)) rfl ?_
 refine sp rfl (PE.fieldAddr fo113_2 rfl) rfl ?_
 refine sp rfl (PE.fieldAddr fo43_1 rfl) rfl ?_
 refine spL rfl rfl (lf (j := 3) sc3 (br_get hx) rfl) rfl ?_
 refine sp rfl (PE.fieldAddr fo33_2 rfl) rfl ?_
 refine sp rfl (PE.indexArr ar22 rfl rfl (by omega) (by omega)) rfl ?_
 refine spL rfl rfl (lh sc3 rfl (by rw [show 0 + 2 + x.hi.toNat * 1 = 2 + x.hi.toNat by omega]; exact btl_rise (by omega))) rfl ?_
 refine sp rfl (PE.assign rfl) rfl ?_
 refine sp rfl (PE.assign rfl) rfl ?_
 refine sy_seq ?_
 refine sy_seq ?_
 refine sy_tx' [0, 1] rfl ?_
 refine sp rfl (PE.move rfl) rfl ?_
 refine sp rfl (PE.eql rfl rfl) rfl ?_
 refine sy_cond rfl (fun hc0 => ?_) (fun hc0 => ?_)
 try simp only [decide_eq_true_eq, decide_eq_false_iff_not, Bool.and_eq_true, Bool.or_eq_true, Bool.not_eq_true', Int.not_le, Int.not_lt] at hc0
 refine sy_seq ?_
 refine sy_tx' [0] rfl ?_
 refine sp rfl (PE.assign rfl) rfl ?_
 refine sy_ret ?_
 exact sy_return (vs := [_]) rfl (.cons (RV.tmp rfl) .nil) rfl ⟨by simp only [retV]; first | (unfold Barn.days daysB Barn.worst; rw [decide_eq_true hc0]; rfl) | rw [hde], rfl, rfl⟩ drp
 try simp only [decide_eq_true_eq, decide_eq_false_iff_not, Bool.and_eq_true, Bool.or_eq_true, Bool.not_eq_true', Int.not_le, Int.not_lt] at hc0
 refine sy_skip ?_
 refine sy_seq ?_
 refine sy_block ?_
 refine sy_loop (ι := {v : Int × Nat // v.1 = w + (v.2 : Int) * na b.rise x.hi.toNat ∧ (v.2 = 0 ∨ v.1 ≤ x.mark) ∧ (v.2 : Int) ≤ v.1 ∧ v.1 ≤ 60}) (fun v => ⟨[(1, .int .i64 k), (2, .int .i64 v.1.1), (3, .pointer (some ⟨b3, 0, none⟩)), (7, .int .i64 (na b.rise x.hi.toNat)), (8, .int .i64 v.1.2)], (b3, cel 33 (btl b (b.sl (some ⟨ba, oa, none⟩) cb))) :: H, R⟩) (fun v => (x.mark - v.1.1).toNat) ⟨(w, 0), by simp, .inl rfl, by omega, by omega⟩ ?_ (fun v => ?_)
 exact sy_at (by repeat' first | exact Sub.nil | apply Sub.cons | rfl | (simp [lk]; omega)) (fun _ h => h)
 obtain ⟨⟨v, n⟩, hv, hv2, hv3, hv4⟩ := v
 dsimp only at hv hv2 hv3 hv4 ⊢
 refine sy_seq ?_
 refine sy_seq ?_
 refine sy_tx' [0, 1, 2, 3, 4, 5, 6, 7, 8, 9] rfl ?_
 refine sp rfl (PE.move rfl) rfl ?_
 refine sp rfl (PE.move rfl) rfl ?_
 refine sp rfl (PE.add rfl rfl (by omega)) rfl ?_
 refine sp rfl (PE.fieldAddr fo33_3 rfl) rfl ?_
 refine spL rfl rfl (lh sc31 rfl rfl) rfl ?_
 refine sp rfl (PE.move rfl) rfl ?_
 refine sp rfl (PE.indexAddr el31 rfl rfl (by omega) (by omega)) rfl ?_
 refine sp rfl (PE.fieldAddr fo113_1 rfl) rfl ?_
 refine spL rfl rfl (lf (j := 1) sc3 (br_get hx) rfl) rfl ?_
 refine sp rfl (PE.leq rfl rfl) rfl ?_
 refine sy_cond rfl (fun hc1 => ?_) (fun hc1 => ?_)
 try simp only [decide_eq_true_eq, decide_eq_false_iff_not, Bool.and_eq_true, Bool.or_eq_true, Bool.not_eq_true', Int.not_le, Int.not_lt] at hc1
 refine sy_skip ?_
 refine sy_block ?_
 refine sy_seq ?_
 refine sy_tx' [0, 1, 2, 3] rfl ?_
 refine sp rfl (PE.move rfl) rfl ?_
 refine sp rfl (PE.move rfl) rfl ?_
 refine sp rfl (PE.add rfl rfl (by omega)) rfl ?_
 refine sp rfl (PE.assign rfl) rfl ?_
 refine sy_tx' [0, 1, 2] rfl ?_
 refine sp rfl (PE.move rfl) rfl ?_
 refine sp rfl (PE.add rfl rfl (by omega)) rfl ?_
 refine sp rfl (PE.assign rfl) rfl ?_
 exact sy_next ⟨(v + na b.rise x.hi.toNat, n + 1), by show v + _ = w + ((n : Int) + 1) * _; rw [Int.add_mul, Int.one_mul, hv]; omega, .inr (by dsimp only; omega), by dsimp only; omega, by dsimp only; omega⟩ (by dsimp only; omega) (by repeat' first | exact Sub.nil | apply Sub.cons | rfl | (simp [lk]; omega)) (fun _ h => h)
 try simp only [decide_eq_true_eq, decide_eq_false_iff_not, Bool.and_eq_true, Bool.or_eq_true, Bool.not_eq_true', Int.not_le, Int.not_lt] at hc1
 have hde : b.days x w = n := (daysB_end (r := na b.rise x.hi.toNat) (by omega) hv hv2 (by omega) : daysB (na b.rise x.hi.toNat) x.mark w = n)
 refine sy_exit ?_
 repeat refine sy_tx ?_
 refine sy_bx ?_
 refine sy_seq ?_
 refine sy_tx' [0, 1] rfl ?_
 refine sp rfl (PE.move rfl) rfl ?_
 refine sp rfl (PE.assign rfl) rfl ?_
 refine sy_ret ?_
 exact sy_return (vs := [_]) rfl (.cons (RV.tmp rfl) .nil) rfl ⟨by simp only [retV]; first | (unfold Barn.days daysB Barn.worst; rw [decide_eq_true hc0]; rfl) | rw [hde], rfl, rfl⟩ drp
theorem c_rLasts (b : Barn) (ab : Option Addr) (cb : Nat) (hok : b.ok) (k : Nat) (x : HBin) (hx : b.bins[k]? = some x) (H : Heap) (R : Facts) [hB : MemRows ab 4 (brows b.bins) R] :
    FnV Try.prog 49 [b.v (b.sl ab cb), .int .i64 k] H R (.int .i64 (b.days x b.cool)) := by
 refine fn_of Try.func49 rfl Try.ntmps49 rfl ?_
 refine sy_seq ?_
 refine sy_tx' [0, 1] rfl ?_
 refine bx rfl rfl rfl (fun b2 => ?_)
 refine sp rfl (PE.assign rfl) rfl ?_
 refine sy_seq ?_
 refine sy_tx' [0, 1, 2, 3, 4, 5] rfl ?_
 refine spL rfl rfl (lhA (btl b (b.sl ab cb)) ag33 rfl rfl rfl) rfl ?_
 refine sp rfl (PE.move rfl) rfl ?_
 refine sp rfl (PE.fieldAddr fo33_0 rfl) rfl ?_
 refine spL rfl rfl (lh sc3 rfl rfl) rfl ?_
 refine clV rfl cal48 rfl rfl (c_rLeft b ab cb hok k x hx b.cool hok.cool _ _) ?_
 refine sp rfl (PE.assign rfl) rfl ?_
 refine sy_ret ?_
 exact sy_return (vs := [_]) rfl (.cons (RV.tmp rfl) .nil) rfl ⟨rfl, rfl, rfl⟩ drp
theorem c_rCheck (b : Barn) (ab : Option Addr) (cb : Nat) (hl : b.bins.length ≤ 9223372036854775807) (hr : b.rise.length = 6) (H : Heap) (R : Facts) [hB : MemRows ab 4 (brows b.bins) R] :
    FnV Try.prog 22 [b.v (b.sl ab cb)] H R (.int .i64 b.check) := by
 refine fn_of Try.func22 rfl Try.ntmps22 rfl ?_
 refine sy_seq ?_
 refine sy_tx' [0, 1] rfl ?_
 refine bx rfl rfl rfl (fun b1 => ?_)
 refine sp rfl (PE.assign rfl) rfl ?_
 refine sy_seq ?_
 refine sy_seq ?_
 refine sy_tx' [0, 1, 2, 3] rfl ?_
 refine sp rfl (PE.fieldAddr fo33_3 rfl) rfl ?_
 refine spL rfl rfl (lh sc31 rfl rfl) rfl ?_
 refine sp rfl (PE.lenSl isl31 rfl) rfl ?_
 refine clV rfl cal72 rfl rfl (c_off _ _ _ _ _) ?_
 refine sy_cond rfl (fun hc0 => ?_) (fun hc0 => ?_)
 refine sy_seq ?_
 refine sy_tx' [0] rfl ?_
 refine sp rfl (PE.assign rfl) rfl ?_
 refine sy_ret ?_
 exact sy_return (vs := [_]) rfl (.cons (RV.tmp rfl) .nil) rfl ⟨by simp only [retV]; rw [ck2 hc0], rfl, rfl⟩ drp
 refine sy_skip ?_
 refine sy_seq ?_
 refine sy_seq ?_
 refine sy_tx' [0, 1, 2, 3, 4, 5, 6, 7] rfl ?_
 refine sp rfl (PE.fieldAddr fo33_0 rfl) rfl ?_
 refine spL rfl rfl (lh sc3 rfl rfl) rfl ?_
 refine clV rfl cal72 rfl rfl (c_off _ _ _ _ _) ?_
 refine sp rfl (PE.move rfl) rfl ?_
 refine sy_case (t := 15) rfl (fun g15 => ?_) (fun g15 => ?_)
 repeat refine spN rfl rfl rfl rfl rfl rfl rfl rfl ?_
 refine sp rfl (PE.pick rfl rfl rfl) rfl ?_
 refine sy_condT rfl ?_
 refine sy_seq ?_
 refine sy_tx' [0] rfl ?_
 refine sp rfl (PE.assign rfl) rfl ?_
 refine sy_ret ?_
 exact sy_return (vs := [_]) rfl (.cons (RV.tmp rfl) .nil) rfl ⟨by simp only [retV]; rw [ck3 hc0 (.inl g15)], rfl, rfl⟩ drp
 refine spG rfl rfl rfl rfl (PE.fieldAddr fo33_1 rfl) rfl ?_
 refine spLG rfl rfl rfl rfl rfl (lh sc3 rfl rfl) rfl ?_
 refine clVG rfl rfl rfl rfl cal72 rfl rfl (c_off _ _ _ _ _) ?_
 refine sp rfl (PE.pick rfl rfl rfl) rfl ?_
 refine sy_cond rfl (fun hc1 => ?_) (fun hc1 => ?_)
 refine sy_seq ?_
 refine sy_tx' [0] rfl ?_
 refine sp rfl (PE.assign rfl) rfl ?_
 refine sy_ret ?_
 exact sy_return (vs := [_]) rfl (.cons (RV.tmp rfl) .nil) rfl ⟨by simp only [retV]; rw [ck3 hc0 (.inr hc1)], rfl, rfl⟩ drp
 have hA : CkA b := ⟨hc0, g15, hc1⟩
 refine sy_skip ?_
 refine sy_seq ?_
 refine sy_seq ?_
 refine sy_tx' [0] rfl ?_
 refine sp rfl (PE.assign rfl) rfl ?_
 refine sy_block ?_
 refine sy_loop (ι := {k : Nat // k ≤ 6 ∧ ∀ i, i < k → riseOk (na b.rise i) = true}) (fun k => ⟨[(1, .pointer (some ⟨b1, 0, none⟩)), (3, .int .i64 k.1)], (b1, cel 33 (btl b (b.sl ab cb))) :: H, R⟩) (fun k => 6 - k.1) ⟨0, by omega, fun i hi => by omega⟩ ?_ (fun k => ?_)
 exact sy_at (by repeat' first | exact Sub.nil | apply Sub.cons | rfl | (simp [lk]; omega)) (fun _ h => h)
 obtain ⟨k, hk, hin⟩ := k
 dsimp only at hk hin ⊢
 refine sy_seq ?_
 refine sy_seq ?_
 refine sy_tx' [0, 1] rfl ?_
 refine sp rfl (PE.move rfl) rfl ?_
 refine sp rfl (PE.lss rfl rfl) rfl ?_
 refine sy_cond rfl (fun hc2 => ?_) (fun hc2 => ?_)
 try simp only [decide_eq_true_eq, decide_eq_false_iff_not, Bool.and_eq_true, Bool.or_eq_true, Bool.not_eq_true', Int.not_le, Int.not_lt] at hc2
 refine sy_skip ?_
 refine sy_seq ?_
 refine sy_block ?_
 refine sy_seq ?_
 refine sy_tx' [0, 1, 2, 3, 4, 5, 6, 7, 8, 9, 10, 11] rfl ?_
 refine sp rfl (PE.move rfl) rfl ?_
 refine sp rfl (PE.fieldAddr fo33_2 rfl) rfl ?_
 refine sp rfl (PE.indexArr ar22 rfl rfl (by omega) (by omega)) rfl ?_
 refine spL rfl rfl (lh sc3 rfl (by rw [show 0 + 2 + ((k : Nat) : Int).toNat * 1 = 2 + k by omega]; exact btl_rise (by omega))) rfl ?_
 refine sp rfl (PE.neq rfl rfl) rfl ?_
 refine sp rfl (PE.move rfl) rfl ?_
 refine sy_case (t := 29) rfl (fun g29 => ?_) (fun g29 => ?_)
 try simp only [decide_eq_true_eq, decide_eq_false_iff_not, Bool.and_eq_true, Bool.or_eq_true, Bool.not_eq_true', Int.not_le, Int.not_lt] at g29
 refine spG rfl rfl rfl rfl (PE.move rfl) rfl ?_
 refine spG rfl rfl rfl rfl (PE.fieldAddr fo33_2 rfl) rfl ?_
 refine spG rfl rfl rfl rfl (PE.indexArr ar22 rfl rfl (by omega) (by omega)) rfl ?_
 refine spLG rfl rfl rfl rfl rfl (lh sc3 rfl (by rw [show 0 + 2 + ((k : Nat) : Int).toNat * 1 = 2 + k by omega]; exact btl_rise (by omega))) rfl ?_
 refine clVG rfl rfl rfl rfl cal72 rfl rfl (c_off _ _ _ _ _) ?_
 refine sp rfl (PE.pick rfl rfl rfl) rfl ?_
 refine sy_cond rfl (fun hc3 => ?_) (fun hc3 => ?_)
 refine sy_seq ?_
 refine sy_tx' [0] rfl ?_
 refine sp rfl (PE.assign rfl) rfl ?_
 refine sy_ret ?_
 exact sy_return (vs := [_]) rfl (.cons (RV.tmp rfl) .nil) rfl ⟨by simp only [retV]; rw [ck3r hA.many hA.cool hA.gangs (k := k) (by omega) g29 hc3], rfl, rfl⟩ drp
 have hro : riseOk (na b.rise k) = true := riseOk_of (.inr hc3)
 refine sy_skip ?_
 refine sy_tx' [0, 1, 2] rfl ?_
 refine sp rfl (PE.move rfl) rfl ?_
 refine sp rfl (PE.add rfl rfl (by omega)) rfl ?_
 refine sp rfl (PE.assign rfl) rfl ?_
 refine sy_next ⟨k + 1, by omega, fun i hi => ?_⟩ (by dsimp only; omega) (by repeat' first | exact Sub.nil | apply Sub.cons | rfl | (simp [lk]; omega)) (fun _ h => h)
 rcases Nat.lt_or_ge i k with h3 | h3
 · exact hin i h3
 · obtain rfl : i = k := by omega
   exact hro
 try simp only [decide_eq_true_eq, decide_eq_false_iff_not, Bool.and_eq_true, Bool.or_eq_true, Bool.not_eq_true', Int.not_le, Int.not_lt] at g29
 have hro : riseOk (na b.rise k) = true := riseOk_of (.inl (by omega))
 repeat refine spN rfl rfl rfl rfl rfl rfl rfl rfl ?_
 refine sp rfl (PE.pick rfl rfl rfl) rfl ?_
 refine sy_condF rfl ?_
 refine sy_skip ?_
 refine sy_tx' [0, 1, 2] rfl ?_
 refine sp rfl (PE.move rfl) rfl ?_
 refine sp rfl (PE.add rfl rfl (by omega)) rfl ?_
 refine sp rfl (PE.assign rfl) rfl ?_
 refine sy_next ⟨k + 1, by omega, fun i hi => ?_⟩ (by dsimp only; omega) (by repeat' first | exact Sub.nil | apply Sub.cons | rfl | (simp [lk]; omega)) (fun _ h => h)
 rcases Nat.lt_or_ge i k with h3 | h3
 · exact hin i h3
 · obtain rfl : i = k := by omega
   exact hro
 try simp only [decide_eq_true_eq, decide_eq_false_iff_not, Bool.and_eq_true, Bool.or_eq_true, Bool.not_eq_true', Int.not_le, Int.not_lt] at hc2
 obtain rfl : k = 6 := by omega
 have hra : b.rise.all riseOk = true := all_nat (fun i hi => hin i (by omega))
 refine sy_exit ?_
 repeat refine sy_tx ?_
 refine sy_bx ?_
 refine sy_seq ?_
 refine sy_seq ?_
 refine sy_tx' [0] rfl ?_
 refine sp rfl (PE.assign rfl) rfl ?_
 refine sy_block ?_
 refine sy_loop (ι := {k : Nat // k ≤ b.bins.length ∧ ∀ i, i < k → ∀ x, b.bins[i]? = some x → x.ok = true}) (fun k => ⟨[(1, .pointer (some ⟨b1, 0, none⟩)), (4, .int .i64 k.1)], (b1, cel 33 (btl b (b.sl ab cb))) :: H, R⟩) (fun k => b.bins.length - k.1) ⟨0, by omega, fun i hi => by omega⟩ ?_ (fun k => ?_)
 exact sy_at (by repeat' first | exact Sub.nil | apply Sub.cons | rfl | (simp [lk]; omega)) (fun _ h => h)
 obtain ⟨k, hk, hin⟩ := k
 dsimp only at hk hin ⊢
 refine sy_seq ?_
 refine sy_seq ?_
 refine sy_tx' [0, 1, 2, 3, 4] rfl ?_
 refine sp rfl (PE.move rfl) rfl ?_
 refine sp rfl (PE.fieldAddr fo33_3 rfl) rfl ?_
 refine spL rfl rfl (lh sc31 rfl rfl) rfl ?_
 refine sp rfl (PE.lenSl isl31 rfl) rfl ?_
 refine sp rfl (PE.lss rfl rfl) rfl ?_
 refine sy_cond rfl (fun hc4 => ?_) (fun hc4 => ?_)
 try simp only [decide_eq_true_eq, decide_eq_false_iff_not, Bool.and_eq_true, Bool.or_eq_true, Bool.not_eq_true', Int.not_le, Int.not_lt] at hc4
 obtain ⟨x, hx⟩ : ∃ x, b.bins[k]? = some x := ⟨_, List.getElem?_eq_getElem (by omega)⟩
 have hxm := List.mem_of_getElem? hx
 refine sy_addr (a := ab) (sz := 4) (rows := brows b.bins) (by intro h0; simp [brows] at h0; simp [h0] at hx) (fun ba oa he => ?_)
 subst he
 refine sy_skip ?_
 refine sy_seq ?_
 refine sy_block ?_
 refine sy_seq ?_
 refine sy_tx' [0, 1, 2, 3, 4, 5, 6] rfl ?_
 refine sp rfl (PE.fieldAddr fo33_3 rfl) rfl ?_
 refine spL rfl rfl (lh sc31 rfl rfl) rfl ?_
 refine sp rfl (PE.move rfl) rfl ?_
 refine sp rfl (PE.indexAddr el31 rfl rfl (by omega) (by omega)) rfl ?_
 refine spL rfl rfl (lfA ag113 (row := brow x) (br_get hx) rfl) rfl ?_
 refine alc rfl zl113 rfl (fun b5 => ?_)
 refine sto rfl rfl rfl cn113 rfl rfl rfl rfl ?_
 refine sy_seq ?_
 refine sy_tx' [0, 1, 2, 3, 4, 5, 6, 7, 8, 9, 10, 11, 12, 13, 14, 15, 16, 17, 18, 19, 20, 21] rfl ?_
 refine sp rfl (PE.fieldAddr fo113_1 rfl) rfl ?_
 refine spL rfl rfl (lh sc3 rfl rfl) rfl ?_
 refine clV rfl cal72 rfl rfl (c_off _ _ _ _ _) ?_
 refine sp rfl (PE.move rfl) rfl ?_
 refine sy_case (t := 51) rfl (fun g51 => ?_) (fun g51 => ?_)
 repeat refine spN rfl rfl rfl rfl rfl rfl rfl rfl ?_
 refine sp rfl (PE.pick rfl rfl rfl) rfl ?_
 refine sp rfl (PE.move rfl) rfl ?_
 repeat refine spN rfl rfl rfl rfl rfl rfl rfl rfl ?_
 refine sp rfl (PE.pick rfl rfl rfl) rfl ?_
 refine sp rfl (PE.move rfl) rfl ?_
 repeat refine spN rfl rfl rfl rfl rfl rfl rfl rfl ?_
 refine sp rfl (PE.pick rfl rfl rfl) rfl ?_
 refine sy_condT rfl ?_
 refine sy_seq ?_
 refine sy_tx' [0] rfl ?_
 refine sp rfl (PE.assign rfl) rfl ?_
 refine sy_ret ?_
 exact sy_return (vs := [_]) rfl (.cons (RV.tmp rfl) .nil) rfl ⟨by simp only [retV]; rw [hA.at_bin hra hxm (bin_bad (.inl g51))], rfl, rfl⟩ drp
 refine spG rfl rfl rfl rfl (PE.fieldAddr fo113_0 rfl) rfl ?_
 refine spLG rfl rfl rfl rfl rfl (lh sc3 rfl rfl) rfl ?_
 refine spG rfl rfl rfl rfl (PE.fieldAddr fo113_1 rfl) rfl ?_
 refine spLG rfl rfl rfl rfl rfl (lh sc3 rfl rfl) rfl ?_
 refine clVG rfl rfl rfl rfl cal72 rfl rfl (c_off _ _ _ _ _) ?_
 refine sp rfl (PE.pick rfl rfl rfl) rfl ?_
 refine sp rfl (PE.move rfl) rfl ?_
 refine sy_case (t := 58) rfl (fun g58 => ?_) (fun g58 => ?_)
 repeat refine spN rfl rfl rfl rfl rfl rfl rfl rfl ?_
 refine sp rfl (PE.pick rfl rfl rfl) rfl ?_
 refine sp rfl (PE.move rfl) rfl ?_
 repeat refine spN rfl rfl rfl rfl rfl rfl rfl rfl ?_
 refine sp rfl (PE.pick rfl rfl rfl) rfl ?_
 refine sy_condT rfl ?_
 refine sy_seq ?_
 refine sy_tx' [0] rfl ?_
 refine sp rfl (PE.assign rfl) rfl ?_
 refine sy_ret ?_
 exact sy_return (vs := [_]) rfl (.cons (RV.tmp rfl) .nil) rfl ⟨by simp only [retV]; rw [hA.at_bin hra hxm (bin_bad (.inr (.inl g58)))], rfl, rfl⟩ drp
 refine spG rfl rfl rfl rfl (PE.fieldAddr fo113_2 rfl) rfl ?_
 refine spG rfl rfl rfl rfl (PE.fieldAddr fo43_0 rfl) rfl ?_
 refine spLG rfl rfl rfl rfl rfl (lh sc3 rfl rfl) rfl ?_
 refine clVG rfl rfl rfl rfl cal72 rfl rfl (c_off _ _ _ _ _) ?_
 refine sp rfl (PE.pick rfl rfl rfl) rfl ?_
 refine sp rfl (PE.move rfl) rfl ?_
 refine sy_case (t := 64) rfl (fun g64 => ?_) (fun g64 => ?_)
 repeat refine spN rfl rfl rfl rfl rfl rfl rfl rfl ?_
 refine sp rfl (PE.pick rfl rfl rfl) rfl ?_
 refine sy_condT rfl ?_
 refine sy_seq ?_
 refine sy_tx' [0] rfl ?_
 refine sp rfl (PE.assign rfl) rfl ?_
 refine sy_ret ?_
 exact sy_return (vs := [_]) rfl (.cons (RV.tmp rfl) .nil) rfl ⟨by simp only [retV]; rw [hA.at_bin hra hxm (bin_bad (.inr (.inr (.inl g64))))], rfl, rfl⟩ drp
 refine spG rfl rfl rfl rfl (PE.fieldAddr fo113_2 rfl) rfl ?_
 refine spG rfl rfl rfl rfl (PE.fieldAddr fo43_1 rfl) rfl ?_
 refine spLG rfl rfl rfl rfl rfl (lh sc3 rfl rfl) rfl ?_
 refine clVG rfl rfl rfl rfl cal72 rfl rfl (c_off _ _ _ _ _) ?_
 refine sp rfl (PE.pick rfl rfl rfl) rfl ?_
 refine sy_cond rfl (fun hc5 => ?_) (fun hc5 => ?_)
 refine sy_seq ?_
 refine sy_tx' [0] rfl ?_
 refine sp rfl (PE.assign rfl) rfl ?_
 refine sy_ret ?_
 exact sy_return (vs := [_]) rfl (.cons (RV.tmp rfl) .nil) rfl ⟨by simp only [retV]; rw [hA.at_bin hra hxm (bin_bad (.inr (.inr (.inr hc5))))], rfl, rfl⟩ drp
 have hxo := bin_good g51 g58 g64 hc5
 refine sy_skip ?_
 refine sy_tx' [0, 1, 2] rfl ?_
 refine sp rfl (PE.move rfl) rfl ?_
 refine sp rfl (PE.add rfl rfl (by omega)) rfl ?_
 refine sp rfl (PE.assign rfl) rfl ?_
 refine sy_next ⟨k + 1, by omega, fun i hi => ?_⟩ (by dsimp only; omega) (by repeat' first | exact Sub.nil | apply Sub.cons | rfl | (simp [lk]; omega)) (fun w h => h.del b5)
 rcases Nat.lt_or_ge i k with h3 | h3
 · exact hin i h3
 · obtain rfl : i = k := by omega
   exact fun y hy => by rw [hx] at hy; cases hy; exact hxo
 try simp only [decide_eq_true_eq, decide_eq_false_iff_not, Bool.and_eq_true, Bool.or_eq_true, Bool.not_eq_true', Int.not_le, Int.not_lt] at hc4
 obtain rfl : k = b.bins.length := by omega
 have hba : b.bins.all HBin.ok = true := all_bins (fun i y hy => hin i (List.getElem?_eq_some_iff.1 hy).1 y hy)
 have hrest := hA.rest hra hba
 refine sy_exit ?_
 repeat refine sy_tx ?_
 refine sy_bx ?_
 refine sy_seq ?_
 refine sy_seq ?_
 refine sy_tx' [0] rfl ?_
 refine sp rfl (PE.assign rfl) rfl ?_
 refine sy_block ?_
 refine sy_loop (ι := {k : Nat // k ≤ 5 ∧ ∀ i, i < k → badI b.rise i = false}) (fun k => ⟨[(1, .pointer (some ⟨b1, 0, none⟩)), (6, .int .i64 ((k.1 + 1 : Nat) : Int))], (b1, cel 33 (btl b (b.sl ab cb))) :: H, R⟩) (fun k => 5 - k.1) ⟨0, by omega, fun i hi => by omega⟩ ?_ (fun k => ?_)
 exact sy_at (by repeat' first | exact Sub.nil | apply Sub.cons | rfl | (simp [lk]; omega)) (fun _ h => h)
 obtain ⟨k, hk, hin⟩ := k
 dsimp only at hk hin ⊢
 refine sy_seq ?_
 refine sy_seq ?_
 refine sy_tx' [0, 1] rfl ?_
 refine sp rfl (PE.move rfl) rfl ?_
 refine sp rfl (PE.lss rfl rfl) rfl ?_
 refine sy_cond rfl (fun hc6 => ?_) (fun hc6 => ?_)
 try simp only [decide_eq_true_eq, decide_eq_false_iff_not, Bool.and_eq_true, Bool.or_eq_true, Bool.not_eq_true', Int.not_le, Int.not_lt] at hc6
 refine sy_skip ?_
 refine sy_seq ?_
 refine sy_block ?_
 refine sy_seq ?_
 refine sy_draw [0, 0, 3, 7, 0, 16, 0, 112, 240, 511] (.tk 0 (.tk 1 (.tk 2 (.ld 3 (.tk 4 (.tk 5 (.tk 6 (.tk 7 (.ld 8 (.tk 9 .done)))))))))) mixed (by kernel_rfl) ?_
 refine tk rfl (PE.move rfl) rfl ?_
 refine tk rfl (PE.fieldAddr fo33_2 rfl) rfl ?_
 refine tk rfl (PE.indexArr ar22 rfl rfl (by omega) (by omega)) rfl ?_
 refine ld rfl rfl (lh sc3 rfl (by rw [show 0 + 2 + (((k + 1 : Nat) : Int)).toNat * 1 = 2 + (k + 1) by omega]; exact btl_rise (by omega))) rfl ?_
 refine tk rfl (PE.move rfl) rfl ?_
 refine tk rfl (PE.sub rfl rfl (by omega)) rfl ?_
 refine tk rfl (PE.fieldAddr fo33_2 rfl) rfl ?_
 refine tk rfl (PE.indexArr ar22 rfl rfl (by omega) (by omega)) rfl ?_
 refine ld rfl rfl (lh sc3 rfl (by rw [show 0 + 2 + (((k + 1 : Nat) : Int) - 1).toNat * 1 = 2 + k by omega]; exact btl_rise (by omega))) rfl ?_
 refine tk rfl (PE.lss rfl rfl) rfl ?_
 refine sy_cond rfl (fun hc7 => ?_) (fun hc7 => ?_)
 try simp only [decide_eq_true_eq, decide_eq_false_iff_not, Bool.and_eq_true, Bool.or_eq_true, Bool.not_eq_true', Int.not_le, Int.not_lt] at hc7
 have hbd := not_srt (na_get (by omega)) (na_get (by omega)) hc7
 rw [hbd] at hrest
 refine sy_seq ?_
 refine sy_tx' [0] rfl ?_
 refine sp rfl (PE.assign rfl) rfl ?_
 refine sy_ret ?_
 exact sy_return (vs := [_]) rfl (.cons (RV.tmp rfl) .nil) rfl ⟨by simp only [retV]; rw [hrest]; rfl, rfl, rfl⟩ drp
 try simp only [decide_eq_true_eq, decide_eq_false_iff_not, Bool.and_eq_true, Bool.or_eq_true, Bool.not_eq_true', Int.not_le, Int.not_lt] at hc7
 have hnb : badI b.rise k = false := by rw [badI_at (na_get (by omega)) (na_get (by omega))]; exact decide_eq_false (by omega)
 refine sy_skip ?_
 refine sy_tx' [0, 1, 2] rfl ?_
 refine sp rfl (PE.move rfl) rfl ?_
 refine sp rfl (PE.add rfl rfl (by omega)) rfl ?_
 refine sp rfl (PE.assign rfl) rfl ?_
 refine sy_next ⟨k + 1, by omega, fun i hi => ?_⟩ (by dsimp only; omega) (by repeat' first | exact Sub.nil | apply Sub.cons | rfl | (simp [lk]; omega)) (fun _ h => h)
 rcases Nat.lt_or_ge i k with h3 | h3
 · exact hin i h3
 · obtain rfl : i = k := by omega
   exact hnb
 try simp only [decide_eq_true_eq, decide_eq_false_iff_not, Bool.and_eq_true, Bool.or_eq_true, Bool.not_eq_true', Int.not_le, Int.not_lt] at hc6
 obtain rfl : k = 5 := by omega
 have hsr : srt b.rise = true := is_srt (fun i hi => hin i (by omega))
 rw [hsr] at hrest
 refine sy_exit ?_
 repeat refine sy_tx ?_
 refine sy_bx ?_
 refine sy_seq ?_
 refine sy_seq ?_
 refine sy_tx' [0] rfl ?_
 refine sp rfl (PE.assign rfl) rfl ?_
 refine sy_block ?_
 refine sy_loop (ι := {k : Nat // k ≤ b.bins.length ∧ ∀ i, i < k → ∀ x, b.bins[i]? = some x → x.lo ≤ x.hi}) (fun k => ⟨[(1, .pointer (some ⟨b1, 0, none⟩)), (7, .int .i64 k.1)], (b1, cel 33 (btl b (b.sl ab cb))) :: H, R⟩) (fun k => b.bins.length - k.1) ⟨0, by omega, fun i hi => by omega⟩ ?_ (fun k => ?_)
 exact sy_at (by repeat' first | exact Sub.nil | apply Sub.cons | rfl | (simp [lk]; omega)) (fun _ h => h)
 obtain ⟨k, hk, hin⟩ := k
 dsimp only at hk hin ⊢
 refine sy_seq ?_
 refine sy_seq ?_
 refine sy_tx' [0, 1, 2, 3, 4] rfl ?_
 refine sp rfl (PE.move rfl) rfl ?_
 refine sp rfl (PE.fieldAddr fo33_3 rfl) rfl ?_
 refine spL rfl rfl (lh sc31 rfl rfl) rfl ?_
 refine sp rfl (PE.lenSl isl31 rfl) rfl ?_
 refine sp rfl (PE.lss rfl rfl) rfl ?_
 refine sy_cond rfl (fun hc8 => ?_) (fun hc8 => ?_)
 try simp only [decide_eq_true_eq, decide_eq_false_iff_not, Bool.and_eq_true, Bool.or_eq_true, Bool.not_eq_true', Int.not_le, Int.not_lt] at hc8
 obtain ⟨x, hx⟩ : ∃ x, b.bins[k]? = some x := ⟨_, List.getElem?_eq_getElem (by omega)⟩
 have hxm := List.mem_of_getElem? hx
 refine sy_addr (a := ab) (sz := 4) (rows := brows b.bins) (by intro h0; simp [brows] at h0; simp [h0] at hx) (fun ba oa he => ?_)
 subst he
 refine sy_skip ?_
 refine sy_seq ?_
 refine sy_block ?_
 refine sy_seq ?_
 refine sy_draw [0, 1, 0, 7, 15, 31, 63, 0, 128, 0, 896, 1920, 3968, 8064, 16383] (.tk 0 (.ld 1 (.tk 2 (.tk 3 (.tk 4 (.tk 5 (.ld 6 (.tk 7 (.ld 8 (.tk 9 (.tk 10 (.tk 11 (.tk 12 (.ld 13 (.tk 14 .done))))))))))))))) mixed (by kernel_rfl) ?_
 refine tk rfl (PE.fieldAddr fo33_3 rfl) rfl ?_
 refine ld rfl rfl (lh sc31 rfl rfl) rfl ?_
 refine tk rfl (PE.move rfl) rfl ?_
 refine tk rfl (PE.indexAddr el31 rfl rfl (by omega) (by omega)) rfl ?_
 refine tk rfl (PE.fieldAddr fo113_2 rfl) rfl ?_
 refine tk rfl (PE.fieldAddr fo43_0 rfl) rfl ?_
 refine ld rfl rfl (lf (j := 2) sc3 (br_get hx) rfl) rfl ?_
 refine tk rfl (PE.fieldAddr fo33_3 rfl) rfl ?_
 refine ld rfl rfl (lh sc31 rfl rfl) rfl ?_
 refine tk rfl (PE.move rfl) rfl ?_
 refine tk rfl (PE.indexAddr el31 rfl rfl (by omega) (by omega)) rfl ?_
 refine tk rfl (PE.fieldAddr fo113_2 rfl) rfl ?_
 refine tk rfl (PE.fieldAddr fo43_1 rfl) rfl ?_
 refine ld rfl rfl (lf (j := 3) sc3 (br_get hx) rfl) rfl ?_
 refine tk rfl (PE.gtr rfl rfl) rfl ?_
 refine sy_cond rfl (fun hc9 => ?_) (fun hc9 => ?_)
 try simp only [decide_eq_true_eq, decide_eq_false_iff_not, Bool.and_eq_true, Bool.or_eq_true, Bool.not_eq_true', Int.not_le, Int.not_lt] at hc9
 have hbd : (b.bins.all fun x => decide (x.lo ≤ x.hi)) = false := by rw [List.all_eq_false]; exact ⟨x, hxm, by simp; omega⟩
 rw [hbd] at hrest
 refine sy_seq ?_
 refine sy_tx' [0] rfl ?_
 refine sp rfl (PE.assign rfl) rfl ?_
 refine sy_ret ?_
 exact sy_return (vs := [_]) rfl (.cons (RV.tmp rfl) .nil) rfl ⟨by simp only [retV]; rw [hrest]; rfl, rfl, rfl⟩ drp
 try simp only [decide_eq_true_eq, decide_eq_false_iff_not, Bool.and_eq_true, Bool.or_eq_true, Bool.not_eq_true', Int.not_le, Int.not_lt] at hc9
 refine sy_skip ?_
 refine sy_tx' [0, 1, 2] rfl ?_
 refine sp rfl (PE.move rfl) rfl ?_
 refine sp rfl (PE.add rfl rfl (by omega)) rfl ?_
 refine sp rfl (PE.assign rfl) rfl ?_
 refine sy_next ⟨k + 1, by omega, fun i hi => ?_⟩ (by dsimp only; omega) (by repeat' first | exact Sub.nil | apply Sub.cons | rfl | (simp [lk]; omega)) (fun _ h => h)
 rcases Nat.lt_or_ge i k with h3 | h3
 · exact hin i h3
 · obtain rfl : i = k := by omega
   exact fun y hy => by rw [hx] at hy; cases hy; omega
 try simp only [decide_eq_true_eq, decide_eq_false_iff_not, Bool.and_eq_true, Bool.or_eq_true, Bool.not_eq_true', Int.not_le, Int.not_lt] at hc8
 obtain rfl : k = b.bins.length := by omega
 have hgd : (b.bins.all fun x => decide (x.lo ≤ x.hi)) = true := all_bins (fun i y hy => decide_eq_true (hin i (List.getElem?_eq_some_iff.1 hy).1 y hy))
 rw [hgd] at hrest
 refine sy_exit ?_
 repeat refine sy_tx ?_
 refine sy_bx ?_
 refine sy_seq ?_
 refine sy_tx' [0] rfl ?_
 refine sp rfl (PE.assign rfl) rfl ?_
 refine sy_ret ?_
 exact sy_return (vs := [_]) rfl (.cons (RV.tmp rfl) .nil) rfl ⟨by simp only [retV]; rw [hrest]; rfl, rfl, rfl⟩ drp
end Go.Proofs.Ytelegnmfhjfbaaa
namespace Go.Proofs.Ytelegnmfhjfbaaa
set_option linter.unusedSimpArgs false
set_option linter.unusedVariables false
open Go
section pe
variable {P : Program} {L : Slots} {d : Option Tmp} {ty : TypeId} {pos : String} {af : Array Edge} {g : Option (Nat × Bool)}
end pe
section steps
variable {P : Program} {r : Option Nat} {ops : Array Oper} {n : Nat} {L : Slots} {D : List Deferred} {H : Heap} {R : Facts} {K : Act → World → Prop}
  {i d : Nat} {ty : TypeId} {pos : String} {af : Array Edge}
end steps
def AllS : List Nat → (Nat → Prop) → Prop
  | [], _ => True
  | i :: l, p => p i ∧ AllS l p
theorem AllS.all {p : Nat → Prop} : ∀ {l : List Nat}, AllS l p → ∀ i ∈ l, p i
  | [], _, i, h => by cases h
  | j :: l, h, i, hi => by
    rcases List.mem_cons.1 hi with rfl | hi
    · exact h.1
    · exact AllS.all h.2 i hi
abbrev Invs := (Nat → Bool) → Slots → Heap → Facts → Prop
def FreeStep (P : Program) (r : Option Nat) (ops : Array Oper) (bm : List Nat) (n : Nat) (D : List Deferred) (Inv : Invs) (i : Nat) : Prop :=
  ∀ (s : Nat → Bool) (L : Slots) (H : Heap) (R : Facts), (∀ j k, j < ops.size → pre bm j k = true → s j = true → s k = true) → s i = false → (∀ j, pre bm i j = true → s j = true) → Inv s L H R →
    ∀ K : Act → World → Prop, (∀ L' H' R', Inv (fun j => Nat.beq i j || s j) L' H' R' → Sy n L' D H' R' K) → Sy n L D H R (stp P r ops i K)
theorem count_set_true : ∀ (l : List Bool) (i : Nat) (h : i < l.length), l[i] = false → (l.set i true).count false + 1 = l.count false
  | [], i, h, _ => by simp at h
  | b :: l, 0, _, h => by
    obtain rfl : b = false := h
    simp
  | b :: l, i + 1, h, hb => by
    have ih := count_set_true l i (by simpa using h) (by simpa using hb)
    rw [List.set_cons_succ, List.count_cons, List.count_cons]
    omega
theorem getD_set_same {l : Array Bool} {i : Nat} (h : i < l.size) : (l.setIfInBounds i true).getD i false = true := by simp [h]
section free
variable {P : Program} {r : Option Nat} {ops : Array Oper} {n : Nat} {L : Slots} {D : List Deferred} {H : Heap} {R : Facts}
theorem getD_ft {l : Array Bool} {j : Nat} (h : l.getD j false = true) : l.getD j true = true := by
  rcases Nat.lt_or_ge j l.size with h1 | h1
  · simp [h1] at h ⊢; exact h
  · simp [Array.getElem?_eq_none h1]
theorem getD_tf {l : Array Bool} {j : Nat} (h : l.getD j true = true) (h1 : j < l.size) : l.getD j false = true := by simp [h1] at h ⊢; exact h
theorem down_pre {bm : List Nat} (hbm : bmOk ops bm = true) {listed : Array Bool} (hd : Down ops listed) {j k : Nat} (hj : j < ops.size) (hp : pre bm j k = true) (hl : listed.getD j true = true) : listed.getD k true = true :=
  getD_ft (before_listed hbm hd k j ops[j] (by simp) (fun e he hb => hd j ops[j] (by simp) hl e he hb) (by rw [← pre_eq]; exact hp))
theorem none_ready {bm : List Nat} (hbm : bmOk ops bm = true) {listed : Array Bool} (hsz : listed.size = ops.size) (h : Region.ready .any ops listed = []) : ∀ j, j < ops.size → listed.getD j true = true := by
  intro j
  induction j using Nat.strongRecOn with
  | _ j ih =>
    intro hj
    cases hl : listed.getD j true with
    | true => rfl
    | false =>
      exfalso
      have h1 := List.all_eq_true.1 hbm j (List.mem_range.2 hj)
      simp only [show ops[j]? = some ops[j] by simp, Bool.and_eq_true] at h1
      have : j ∈ Region.ready .any ops listed := mem_ready.2 ⟨hl, ops[j], by simp, fun e he hb => by
        have h2 := List.all_eq_true.1 h1.2 e (by simpa using he)
        have hlt : e.on < j := by simpa [hb] using h2
        exact getD_tf (ih e.on hlt (by omega)) (by omega)⟩
      rw [h] at this; cases this
theorem free_any {bm : List Nat} {X : Act → World → Prop} {Inv : Invs} (hbm : bmOk ops bm = true) (step : ∀ i, i < ops.size → FreeStep P r ops bm n D Inv i) (fin : ∀ L H R, Inv (fun _ => true) L H R → Sy n L D H R X) :
    ∀ (fuel : Nat) (listed : Array Bool) (L : Slots) (H : Heap) (R : Facts), listed.size = ops.size → Down ops listed → listed.toList.count false = fuel → Inv (fun j => listed.getD j true) L H R → Sy n L D H R (anyP P r ops bm X fuel listed []) := by
  intro fuel
  induction fuel with
  | zero =>
    intro listed L H R hsz hd hc hI a w ha hD hs
    have hall : ∀ j, listed.getD j true = true := fun j => by
      rcases Nat.lt_or_ge j listed.size with h1 | h1
      · cases hl : listed.getD j true with
        | true => rfl
        | false =>
          have h2 := List.count_eq_zero.1 hc
          exact absurd (by simp [h1] at hl; rw [← hl]; simp) h2
      · simp [Array.getElem?_eq_none h1]
    have he : (fun j => listed.getD j true) = fun _ => true := funext hall
    rw [he] at hI
    refine ⟨?_, fin L H R hI a w ha hD hs⟩
    cases hr : Region.ready .any ops listed with
    | nil => rfl
    | cons i l =>
      have := (mem_ready.1 (show i ∈ Region.ready .any ops listed by rw [hr]; simp)).1
      rw [hall i] at this; cases this
  | succ fuel ih =>
    intro listed L H R hsz hd hc hI a w ha hD hs
    refine ⟨fun hr => ?_, fun i hi => ?_⟩
    · have hall : ∀ j, listed.getD j true = true := fun j => by
        rcases Nat.lt_or_ge j ops.size with h1 | h1
        · exact none_ready hbm hsz hr j h1
        · simp [Array.getElem?_eq_none (show listed.size ≤ j by omega)]
      have he : (fun j => listed.getD j true) = fun _ => true := funext hall
      rw [he] at hI
      exact fin L H R hI a w ha hD hs
    · obtain ⟨hun, o, ho, hall⟩ := mem_ready.1 hi
      have hil : i < ops.size := (Array.getElem?_eq_some_iff.1 ho).1
      refine step i hil (fun j => listed.getD j true) L H R (fun j k hj hp hl => down_pre hbm hd hj hp hl) hun (fun j hp => getD_ft (before_listed hbm hd j i o ho hall (by rw [← pre_eq]; exact hp))) hI _ (fun L' H' R' hI' => ?_) a w ha hD hs
      have he : (fun j => Nat.beq i j || listed.getD j true) = fun j => (listed.setIfInBounds i true).getD j true := funext fun j => by
        by_cases hij : i = j
        · subst hij
          rw [show Nat.beq i i = true from Nat.beq_refl i]
          exact (getD_ft (getD_set_same (by omega))).symm
        · rw [getD_set_ne true hij, show Nat.beq i j = false from by cases hb : Nat.beq i j with | false => rfl | true => exact absurd (Nat.eq_of_beq_eq_true hb) hij]; rfl
      rw [he] at hI'
      intro a' w' ha' hD' hs'
      refine ⟨trivial, ih (listed.setIfInBounds i true) L' H' R' (by simpa using hsz) (hd.set hi) ?_ hI' a' w' ha' hD' hs'⟩
      have hil2 : i < listed.size := by omega
      rw [Array.toList_setIfInBounds]
      have h9 : listed.toList[i]'(by simpa using hil2) = false := by simp [hil2] at hun; simpa using hun
      have h10 := count_set_true listed.toList i (by simpa using hil2) h9
      omega
theorem sy_free {id : Nat} {Q : Exit → Act → World → Prop} (bm : List Nat) (l : List Nat) (hm : P.follows .mixedOrders = true) (hb : bmOk ops bm = true) (hl : List.range ops.size = l) (Inv : Invs)
    (h0 : Inv (fun j => Nat.ble ops.size j) L H R) (step : AllS l (FreeStep P r ops bm n D Inv)) (fin : ∀ L H R, Inv (fun _ => true) L H R → Sy n L D H R (Q .normal)) : Sy n L D H R (wpc P r (.region id ops true) Q) := fun a w ha hD hs => by
  have h1 := free_any (X := Q .normal) hb (fun i hi => step.all i (by rw [← hl]; exact List.mem_range.2 hi)) fin ops.size (Array.replicate ops.size false) L H R (by simp) down_start (by simp) (by
    have he : (fun j => (Array.replicate ops.size false).getD j true) = fun j => Nat.ble ops.size j := funext fun j => by
      rcases Nat.lt_or_ge j ops.size with h1 | h1
      · rw [show Nat.ble ops.size j = false from by cases hb : Nat.ble ops.size j with | false => rfl | true => have := Nat.le_of_ble_eq_true hb; omega]; simp [h1]
      · rw [show Nat.ble ops.size j = true from Nat.ble_eq_true_of_le h1]; simp [h1]
    rw [he]; exact h0) a w.drew ha hD hs.drew
  refine wpIn_mono (wpIn_region_any hm (anyP_wpAny _ _ _ _ _ h1)) fun e a w hq => ?_
  cases e <;> first | exact hq | exact hq.elim
theorem lk_same {d : Nat} {v : Value} : lk ((d, v) :: L) d = some v := by
  unfold lk; rw [show Nat.beq d d = true from Nat.beq_refl d]; rfl
theorem lk_more {d t : Nat} {v u : Value} (hne : Nat.beq d t = false) (h : lk L t = some u) : lk ((d, v) :: L) t = some u := by
  show (bif Nat.beq d t then some v else lk L t) = some u
  rw [hne]; exact h
theorem sub_more {d : Nat} {v : Value} : ∀ {L' : Slots}, (L'.all fun p => !(Nat.beq d p.1)) = true → Sub L' L → Sub L' ((d, v) :: L)
  | [], _, _ => trivial
  | p :: L', hk, h => by
    rw [List.all_cons, Bool.and_eq_true] at hk
    exact ⟨lk_more (by simpa using hk.1) h.1, sub_more hk.2 h.2⟩
theorem fin_cons {f : World → Prop} {A : Facts} (h : f ∈ R) (hA : ∀ g ∈ A, g ∈ R) : ∀ g ∈ f :: A, g ∈ R := fun g hg => by
  rcases List.mem_cons.1 hg with rfl | hg
  · exact h
  · exact hA g hg
theorem fin_more {f : World → Prop} {A : Facts} (hA : ∀ g ∈ A, g ∈ R) : ∀ g ∈ A, g ∈ f :: R := fun g hg => List.mem_cons_of_mem _ (hA g hg)
end free
end Go.Proofs.Ytelegnmfhjfbaaa
namespace Go.Proofs.Ytelegnmfhjfbaaa
set_option linter.unusedSimpArgs false
set_option linter.unusedVariables false
open Go
theorem cal16 : cal Try.prog 16 = true := by kernel_rfl
theorem cal18 : cal Try.prog 18 = true := by kernel_rfl
theorem cal19 : cal Try.prog 19 = true := by kernel_rfl
theorem cal20 : cal Try.prog 20 = true := by kernel_rfl
theorem cal22 : cal Try.prog 22 = true := by kernel_rfl
theorem cal31 : cal Try.prog 31 = true := by kernel_rfl
theorem cal46 : cal Try.prog 46 = true := by kernel_rfl
theorem cal49 : cal Try.prog 49 = true := by kernel_rfl
theorem cal50 : cal Try.prog 50 = true := by kernel_rfl
theorem cal51 : cal Try.prog 51 = true := by kernel_rfl
theorem cal52 : cal Try.prog 52 = true := by kernel_rfl
theorem brow_len {l : List HBin} : ∀ r ∈ brows l, r.length = 4 := by
  intro r hr
  obtain ⟨x, _, rfl⟩ := List.mem_map.1 hr
  rfl
theorem St.binRows {l : List HBin} {bk e : Nat} {junk : List Value} {H : Heap} {R : Facts} {w : World} (hs : St ((bk, cel e ((brows l).flatten ++ junk)) :: H) R w) :
    St H (RowsA (some ⟨bk, 0, none⟩) 4 (brows l) :: R) w := by
  have h1 := (St.freeze hs).also (f := RowsA (some ⟨bk, 0, none⟩) 4 (brows l)) (fun w' hw => by
    have hb := hw (fun w => w.heap[bk]? = some (cel e ((brows l).flatten ++ junk))) (by simp)
    exact rows_block hb brow_len)
  exact h1.facts (fun g hg => by rcases List.mem_cons.1 hg with h3 | h3 <;> simp [h3])
theorem spl_left {A J v : List Value} {i : Nat} (h : i + v.length ≤ A.length) : spl (A ++ J) i v = spl A i v ++ J := by
  unfold spl; rw [List.take_append_of_le_length (by omega), List.drop_append_of_le_length h]; simp
theorem St.noRows {sz : Nat} {H : Heap} {R : Facts} {w : World} (hs : St H R w) : St H (RowsA none sz [] :: R) w :=
  hs.also (fun w' _ i row hi => by simp at hi)
theorem c_OwnF (b : Barn) (ab : Option Addr) (cb : Nat) (hl : b.bins.length ≤ 1000000) (H : Heap) (R : Facts) [hB : MemRows ab 4 (brows b.bins) R] : Fn Try.prog 19 [b.v (b.sl ab cb)] H R (fun v H' R' => ∃ ax cx, v = b.v (b.sl ax cx) ∧ H' = H ∧ R' = RowsA ax 4 (brows b.bins) :: R) := fun w hw => by
  refine CallsIn.mono (c_Own b ab cb hl H R w hw) ?_
  rintro e' w' ⟨u, H', R', ⟨bo, cap, junk, rfl, rfl, rfl⟩, he, hs'⟩
  exact ⟨_, H, _, ⟨_, _, rfl, rfl, rfl⟩, he, hs'.binRows⟩
theorem c_HeatChecks (b : Barn) (ab : Option Addr) (cb : Nat) (n lo hi : Int) (hn : -9223372036854775808 ≤ n ∧ n ≤ 9223372036854775807) (hlo : -9223372036854775808 ≤ lo ∧ lo ≤ 9223372036854775807) (hhi : -9223372036854775808 ≤ hi ∧ hi ≤ 9223372036854775807) (hl : b.bins.length ≤ 9223372036854775807) (hr : b.rise.length = 6) (H : Heap) (R : Facts) [hB : MemRows ab 4 (brows b.bins) R] :
    Fn Try.prog 8 [b.v (b.sl ab cb), .int .i64 n, spv lo hi] H R (fun v H' R' => v = .bool true ∧ H' = H ∧ R' = R) := by
 refine fn_of Try.func8 rfl Try.ntmps8 rfl ?_
 refine sy_seq ?_
 refine sy_tx' [0, 1, 2] rfl ?_
 refine bx rfl rfl rfl (fun b3 => ?_)
 refine bx rfl rfl rfl (fun b5 => ?_)
 refine sp rfl (PE.assign rfl) rfl ?_
 refine sy_seq ?_
 refine sy_seq ?_
 refine sy_tx' [0, 1] rfl ?_
 refine spL rfl rfl (lhA (btl b (b.sl ab cb)) ag25 rfl rfl rfl) rfl ?_
 refine clV rfl cal16 rfl rfl (c_great b ab cb hl _ _) ?_
 refine sy_cond rfl (fun hc0 => ?_) (fun hc0 => ?_)
 refine sy_seq ?_
 refine sy_tx' [0, 1] rfl ?_
 refine clV rfl cal18 rfl rfl (c_awake _ _) ?_
 refine sp rfl (PE.assign rfl) rfl ?_
 refine sy_ret ?_
 exact sy_return (vs := [_]) rfl (.cons (RV.tmp rfl) .nil) rfl ⟨rfl, rfl, rfl⟩ (fun w h => (h.del b5).del b3)
 have h8 : ¬ 8 < b.bins.length := by simpa using hc0
 refine sy_skip ?_
 refine sy_seq ?_
 refine sy_free [0, 1, 0, 7, 0, 0, 63, 127] [0, 1, 2, 3, 4, 5, 6, 7] mixed (by kernel_rfl) rfl (fun s L H1 R1 => ∃ (a1 : Option Addr) (c1 : Nat) (a2 : Option Addr) (c2 : Nat) (b7 : Nat) (x7 : List Value) (b8 : Nat) (x8 : List Value), Sub [(1, .int .i64 n), (3, .pointer (some ⟨b3, 0, none⟩)), (5, .pointer (some ⟨b5, 0, none⟩))] L ∧ (∀ f ∈ (R : Facts), f ∈ R1) ∧ (s 0 = true → lk L 28 = some (b.v (b.sl ab cb))) ∧ (s 1 = true → lk L 29 = some (b.v (b.sl a1 c1)) ∧ (RowsA a1 4 (brows b.bins)) ∈ R1) ∧ (s 2 = true → lk L 30 = some (b.v (b.sl ab cb))) ∧ (s 3 = true → lk L 31 = some (b.v (b.sl a2 c2)) ∧ (RowsA a2 4 (brows b.bins)) ∈ R1) ∧ (s 4 = true → lk L 7 = some (.pointer (some ⟨b7, 0, none⟩)) ∧ (s 6 = false → x7 = [.int .i64 0, .int .i64 0, .int .i64 0, .int .i64 0, .int .i64 0, .int .i64 0, .int .i64 0, .int .i64 0, .slice none 0 0])) ∧ (s 5 = true → lk L 8 = some (.pointer (some ⟨b8, 0, none⟩)) ∧ (s 7 = false → x8 = [.int .i64 0, .int .i64 0, .int .i64 0, .int .i64 0, .int .i64 0, .int .i64 0, .int .i64 0, .int .i64 0, .slice none 0 0])) ∧ (s 6 = true → x7 = btl b (b.sl a1 c1)) ∧ (s 7 = true → x8 = btl b (b.sl a2 c2)) ∧ ∀ w, St H1 R1 w → St ((bif s 5 then [(b8, cel 33 x8)] else []) ++ ((bif s 4 then [(b7, cel 25 x7)] else []) ++ ((b5, cel 43 [.int .i64 lo, .int .i64 hi]) :: (b3, cel 25 (btl b (b.sl ab cb))) :: H))) R1 w) ?_ ?_ ?_
 exact ⟨none, 0, none, 0, 0, [], 0, [], (by repeat' first | exact Sub.nil | apply Sub.cons | rfl | (simp [lk]; omega)), fun _ hf => hf, (fun h => by cases (show false = true from h)), (fun h => by cases (show false = true from h)), (fun h => by cases (show false = true from h)), (fun h => by cases (show false = true from h)), (fun h => by cases (show false = true from h)), (fun h => by cases (show false = true from h)), (fun h => by cases (show false = true from h)), (fun h => by cases (show false = true from h)), fun w h => h⟩
 refine ⟨?_, ?_, ?_, ?_, ?_, ?_, ?_, ?_, trivial⟩
 intro s Lz Hz Rz hdn hs hpre hI K hK
 obtain ⟨a1, c1, a2, c2, b7, x7, b8, x8, hL0, hR0, q0, q1, q2, q3, q4, q5, q6, q7, hH⟩ := hI
 refine Sy.heap hH ?_
 refine spL rfl (Sub.lk hL0 _ _ rfl) ((lhA (btl b (b.sl ab cb)) ag25 rfl rfl rfl)) rfl ?_
 exact hK _ _ _ ⟨a1, c1, a2, c2, b7, x7, b8, x8, sub_more rfl hL0, hR0, fun _ => lk_same, fun h => ⟨lk_more rfl (q1 h).1, (q1 h).2⟩, fun h => lk_more rfl (q2 h), fun h => ⟨lk_more rfl (q3 h).1, (q3 h).2⟩, fun h => ⟨lk_more rfl (q4 h).1, (q4 h).2⟩, fun h => ⟨lk_more rfl (q5 h).1, (q5 h).2⟩, fun h => q6 h, fun h => q7 h, fun w h => h⟩
 intro s Lz Hz Rz hdn hs hpre hI K hK
 obtain ⟨a1, c1, a2, c2, b7, x7, b8, x8, hL0, hR0, q0, q1, q2, q3, q4, q5, q6, q7, hH⟩ := hI
 have h0 : s 0 = true := hpre 0 rfl
 refine Sy.heap hH ?_
 haveI m0 : MemRows ab 4 (brows b.bins) Rz := ⟨hR0 _ (inferInstance : MemRows ab 4 (brows b.bins) (R)).mem⟩
 refine cl rfl cal19 rfl (by simp only [evs, show ev Lz (.tmp 28) = _ from (q0 h0)]) (c_OwnF b ab cb (by omega) _ _) ?_
 rintro _ _ R1 ⟨a1, c1, rfl, rfl, hR1⟩
 obtain rfl := hR1.symm
 clear hR1
 exact hK _ _ _ ⟨a1, c1, a2, c2, b7, x7, b8, x8, sub_more rfl hL0, fin_more (hR0), fun h => lk_more rfl (q0 h), fun _ => ⟨lk_same, (by simp)⟩, fun h => lk_more rfl (q2 h), fun h => ⟨lk_more rfl (q3 h).1, List.mem_cons_of_mem _ ((q3 h).2)⟩, fun h => ⟨lk_more rfl (q4 h).1, (q4 h).2⟩, fun h => ⟨lk_more rfl (q5 h).1, (q5 h).2⟩, fun h => absurd (hdn 6 1 (Nat.le_of_ble_eq_true rfl) rfl h) (by rw [hs]; exact Bool.false_ne_true), fun h => q7 h, fun w h => h⟩
 intro s Lz Hz Rz hdn hs hpre hI K hK
 obtain ⟨a1, c1, a2, c2, b7, x7, b8, x8, hL0, hR0, q0, q1, q2, q3, q4, q5, q6, q7, hH⟩ := hI
 refine Sy.heap hH ?_
 refine spL rfl (Sub.lk hL0 _ _ rfl) ((lhA (btl b (b.sl ab cb)) ag25 rfl rfl rfl)) rfl ?_
 exact hK _ _ _ ⟨a1, c1, a2, c2, b7, x7, b8, x8, sub_more rfl hL0, hR0, fun h => lk_more rfl (q0 h), fun h => ⟨lk_more rfl (q1 h).1, (q1 h).2⟩, fun _ => lk_same, fun h => ⟨lk_more rfl (q3 h).1, (q3 h).2⟩, fun h => ⟨lk_more rfl (q4 h).1, (q4 h).2⟩, fun h => ⟨lk_more rfl (q5 h).1, (q5 h).2⟩, fun h => q6 h, fun h => q7 h, fun w h => h⟩
 intro s Lz Hz Rz hdn hs hpre hI K hK
 obtain ⟨a1, c1, a2, c2, b7, x7, b8, x8, hL0, hR0, q0, q1, q2, q3, q4, q5, q6, q7, hH⟩ := hI
 obtain ⟨h0, h1, h2⟩ : s 0 = true ∧ s 1 = true ∧ s 2 = true := ⟨hpre 0 rfl, hpre 1 rfl, hpre 2 rfl⟩
 refine Sy.heap hH ?_
 haveI m0 : MemRows ab 4 (brows b.bins) Rz := ⟨hR0 _ (inferInstance : MemRows ab 4 (brows b.bins) (R)).mem⟩
 refine cl rfl cal20 rfl (by simp only [evs, show ev Lz (.tmp 30) = _ from (q2 h2)]) (c_theirs b ab cb (by omega) _ _) ?_
 rintro _ _ R1 ⟨a2, c2, rfl, rfl, hR1⟩
 obtain rfl := hR1.symm
 clear hR1
 exact hK _ _ _ ⟨a1, c1, a2, c2, b7, x7, b8, x8, sub_more rfl hL0, fin_more (hR0), fun h => lk_more rfl (q0 h), fun h => ⟨lk_more rfl (q1 h).1, List.mem_cons_of_mem _ ((q1 h).2)⟩, fun h => lk_more rfl (q2 h), fun _ => ⟨lk_same, (by simp)⟩, fun h => ⟨lk_more rfl (q4 h).1, (q4 h).2⟩, fun h => ⟨lk_more rfl (q5 h).1, (q5 h).2⟩, fun h => q6 h, fun h => absurd (hdn 7 3 (Nat.le_of_ble_eq_true rfl) rfl h) (by rw [hs]; exact Bool.false_ne_true), fun w h => h⟩
 intro s Lz Hz Rz hdn hs hpre hI K hK
 obtain ⟨a1, c1, a2, c2, b7, x7, b8, x8, hL0, hR0, q0, q1, q2, q3, q4, q5, q6, q7, hH⟩ := hI
 refine Sy.heap hH ?_
 refine alc rfl zl25 rfl (fun b7 => ?_)
 exact hK _ _ _ ⟨a1, c1, a2, c2, b7, [.int .i64 0, .int .i64 0, .int .i64 0, .int .i64 0, .int .i64 0, .int .i64 0, .int .i64 0, .int .i64 0, .slice none 0 0], b8, x8, sub_more rfl hL0, hR0, fun h => lk_more rfl (q0 h), fun h => ⟨lk_more rfl (q1 h).1, (q1 h).2⟩, fun h => lk_more rfl (q2 h), fun h => ⟨lk_more rfl (q3 h).1, (q3 h).2⟩, fun _ => ⟨lk_same, fun _ => rfl⟩, fun h => ⟨lk_more rfl (q5 h).1, (q5 h).2⟩, fun h => absurd (hdn 6 4 (Nat.le_of_ble_eq_true rfl) rfl h) (by rw [hs]; exact Bool.false_ne_true), fun h => q7 h, fun w h => by rw [hs] at h; exact h.perm (List.perm_middle.symm.trans (List.Perm.append_left _ (.refl _)))⟩
 intro s Lz Hz Rz hdn hs hpre hI K hK
 obtain ⟨a1, c1, a2, c2, b7, x7, b8, x8, hL0, hR0, q0, q1, q2, q3, q4, q5, q6, q7, hH⟩ := hI
 refine Sy.heap hH ?_
 refine alc rfl zl33 rfl (fun b8 => ?_)
 exact hK _ _ _ ⟨a1, c1, a2, c2, b7, x7, b8, [.int .i64 0, .int .i64 0, .int .i64 0, .int .i64 0, .int .i64 0, .int .i64 0, .int .i64 0, .int .i64 0, .slice none 0 0], sub_more rfl hL0, hR0, fun h => lk_more rfl (q0 h), fun h => ⟨lk_more rfl (q1 h).1, (q1 h).2⟩, fun h => lk_more rfl (q2 h), fun h => ⟨lk_more rfl (q3 h).1, (q3 h).2⟩, fun h => ⟨lk_more rfl (q4 h).1, (q4 h).2⟩, fun _ => ⟨lk_same, fun _ => rfl⟩, fun h => q6 h, fun h => absurd (hdn 7 5 (Nat.le_of_ble_eq_true rfl) rfl h) (by rw [hs]; exact Bool.false_ne_true), fun w h => by rw [hs] at h; exact h.perm (.refl _)⟩
 intro s Lz Hz Rz hdn hs hpre hI K hK
 obtain ⟨a1, c1, a2, c2, b7, x7, b8, x8, hL0, hR0, q0, q1, q2, q3, q4, q5, q6, q7, hH⟩ := hI
 obtain ⟨h0, h1, h2, h3, h4, h5⟩ : s 0 = true ∧ s 1 = true ∧ s 2 = true ∧ s 3 = true ∧ s 4 = true ∧ s 5 = true := ⟨hpre 0 rfl, hpre 1 rfl, hpre 2 rfl, hpre 3 rfl, hpre 4 rfl, hpre 5 rfl⟩
 refine Sy.heap hH ?_
 obtain rfl := (q4 h4).2 hs
 refine Sy.heap (H' := (bif s 5 then [(b8, cel 33 x8)] else []) ++ ((b7, cel 25 [.int .i64 0, .int .i64 0, .int .i64 0, .int .i64 0, .int .i64 0, .int .i64 0, .int .i64 0, .int .i64 0, .slice none 0 0]) :: ((b5, cel 43 [.int .i64 lo, .int .i64 hi]) :: (b3, cel 25 (btl b (b.sl ab cb))) :: H))) (fun w h => by rw [h4] at h; exact h) ?_
 refine stoE (l' := btl b (b.sl a1 c1)) rfl (q4 h4).1 (q1 h1).1 cn25 rfl rfl rfl rfl (Nat.le_refl _) ?_
 exact hK _ _ _ ⟨a1, c1, a2, c2, b7, btl b (b.sl a1 c1), b8, x8, hL0, hR0, fun h => (q0 h), fun h => ⟨(q1 h).1, (q1 h).2⟩, fun h => (q2 h), fun h => ⟨(q3 h).1, (q3 h).2⟩, fun h => ⟨(q4 h).1, fun h => by cases (show true = false from h)⟩, fun h => ⟨(q5 h).1, (q5 h).2⟩, fun _ => rfl, fun h => q7 h, fun w h => by show St ((bif s 5 then [(b8, cel 33 x8)] else []) ++ ((bif s 4 then [(b7, cel 25 (btl b (b.sl a1 c1)))] else []) ++ ((b5, cel 43 [.int .i64 lo, .int .i64 hi]) :: (b3, cel 25 (btl b (b.sl ab cb))) :: H))) Rz w; rw [h4]; exact h⟩
 intro s Lz Hz Rz hdn hs hpre hI K hK
 obtain ⟨a1, c1, a2, c2, b7, x7, b8, x8, hL0, hR0, q0, q1, q2, q3, q4, q5, q6, q7, hH⟩ := hI
 obtain ⟨h0, h1, h2, h3, h4, h5, h6⟩ : s 0 = true ∧ s 1 = true ∧ s 2 = true ∧ s 3 = true ∧ s 4 = true ∧ s 5 = true ∧ s 6 = true := ⟨hpre 0 rfl, hpre 1 rfl, hpre 2 rfl, hpre 3 rfl, hpre 4 rfl, hpre 5 rfl, hpre 6 rfl⟩
 refine Sy.heap hH ?_
 obtain rfl := (q5 h5).2 hs
 refine Sy.heap (H' := (b8, cel 33 [.int .i64 0, .int .i64 0, .int .i64 0, .int .i64 0, .int .i64 0, .int .i64 0, .int .i64 0, .int .i64 0, .slice none 0 0]) :: ((bif s 4 then [(b7, cel 25 x7)] else []) ++ ((b5, cel 43 [.int .i64 lo, .int .i64 hi]) :: (b3, cel 25 (btl b (b.sl ab cb))) :: H))) (fun w h => by rw [h5] at h; exact h) ?_
 refine stoE (l' := btl b (b.sl a2 c2)) rfl (q5 h5).1 (q3 h3).1 cn33 rfl rfl rfl rfl (Nat.le_refl _) ?_
 exact hK _ _ _ ⟨a1, c1, a2, c2, b7, x7, b8, btl b (b.sl a2 c2), hL0, hR0, fun h => (q0 h), fun h => ⟨(q1 h).1, (q1 h).2⟩, fun h => (q2 h), fun h => ⟨(q3 h).1, (q3 h).2⟩, fun h => ⟨(q4 h).1, (q4 h).2⟩, fun h => ⟨(q5 h).1, fun h => by cases (show true = false from h)⟩, fun h => q6 h, fun _ => rfl, fun w h => by show St ((bif s 5 then [(b8, cel 33 (btl b (b.sl a2 c2)))] else []) ++ ((bif s 4 then [(b7, cel 25 x7)] else []) ++ ((b5, cel 43 [.int .i64 lo, .int .i64 hi]) :: (b3, cel 25 (btl b (b.sl ab cb))) :: H))) Rz w; rw [h5]; exact h⟩
 intro Lz Hz Rz hI
 obtain ⟨a1, c1, a2, c2, b7, x7, b8, x8, hL0, hR0, q0, q1, q2, q3, q4, q5, q6, q7, hH⟩ := hI
 obtain rfl := q7 rfl
 obtain rfl := q6 rfl
 refine Sy.weak (L' := [(8, .pointer (some ⟨b8, 0, none⟩)), (7, .pointer (some ⟨b7, 0, none⟩)), (1, .int .i64 n), (3, .pointer (some ⟨b3, 0, none⟩)), (5, .pointer (some ⟨b5, 0, none⟩))]) (H' := (b8, cel 33 (btl b (b.sl a2 c2))) :: (b7, cel 25 (btl b (b.sl a1 c1))) :: (b5, cel 43 [.int .i64 lo, .int .i64 hi]) :: (b3, cel 25 (btl b (b.sl ab cb))) :: H) (R' := RowsA a2 4 (brows b.bins) :: RowsA a1 4 (brows b.bins) :: R) ?_ (Sub.cons (q5 rfl).1 (Sub.cons (q4 rfl).1 hL0)).lk (fun w h => St.facts (hH w h) (fin_cons (q3 rfl).2 (fin_cons (q1 rfl).2 hR0)))
 refine sy_seq ?_
 refine sy_tx' [0, 1, 2] rfl ?_
 refine spL rfl rfl (lhA (btl b (b.sl a2 c2)) ag33 rfl rfl rfl) rfl ?_
 refine clV rfl cal22 rfl rfl (c_rCheck b a2 c2 hl hr _ _) ?_
 refine sp rfl (PE.assign rfl) rfl ?_
 refine sy_seq ?_
 refine sy_seq ?_
 refine sy_tx' [0, 1, 2, 3] rfl ?_
 refine spL rfl rfl (lhA (btl b (b.sl a1 c1)) ag25 rfl rfl rfl) rfl ?_
 refine clV rfl cal47 rfl rfl (c_Check b a1 c1 hl hr _ _) ?_
 refine sp rfl (PE.move rfl) rfl ?_
 refine sp rfl (PE.neq rfl rfl) rfl ?_
 refine sy_cond rfl (fun hc1 => ?_) (fun hc1 => ?_)
 exact absurd hc1 (by simp)
 refine sy_skip ?_
 refine sy_seq ?_
 refine sy_tx' [0, 1, 2, 3] rfl ?_
 refine sp rfl (PE.move rfl) rfl ?_
 refine sp rfl (PE.move rfl) rfl ?_
 refine sp rfl (PE.assign rfl) rfl ?_
 refine sp rfl (PE.assign rfl) rfl ?_
 refine sy_seq ?_
 refine sy_tx' [0] rfl ?_
 refine alc rfl zl43 rfl (fun b12 => ?_)
 refine sy_seq ?_
 refine sy_tx' [0, 1] rfl ?_
 refine sp rfl (PE.assign rfl) rfl ?_
 refine sp rfl (PE.assign rfl) rfl ?_
 refine sy_seq ?_
 refine sy_tx' [0] rfl ?_
 refine alc rfl zl25 rfl (fun b15 => ?_)
 refine sy_seq ?_
 refine sy_seq ?_
 refine sy_tx' [0, 1] rfl ?_
 refine sp rfl (PE.move rfl) rfl ?_
 refine sp rfl (PE.eql rfl rfl) rfl ?_
 refine sy_join (ι := {q : Barn × Option Addr × Nat // (sampErr b n lo hi ≠ 0 ∧ q.1 = zbarn ∧ q.2 = (none, 0)) ∨ (sampErr b n lo hi = 0 ∧ q.1 = b.withB (sampB b n lo hi))}) (fun q => ⟨[(1, .int .i64 n), (3, .pointer (some ⟨b3, 0, none⟩)), (5, .pointer (some ⟨b5, 0, none⟩)), (7, .pointer (some ⟨b7, 0, none⟩)), (8, .pointer (some ⟨b8, 0, none⟩)), (10, .int .i64 (b.known n)), (11, .int .i64 (sampErr b n lo hi)), (12, .pointer (some ⟨b12, 0, none⟩)), (13, .int .i64 (bif decide (b.known n = 0) then b.days (binAt b n) (binAt b n).warm else 0)), (14, .int .i64 (bif decide (b.known n = 0) then b.days (binAt b n) b.cool else 0)), (15, .pointer (some ⟨b15, 0, none⟩))], (b15, cel 25 (btl q.1.1 (q.1.1.sl q.1.2.1 q.1.2.2))) :: (b12, cel 43 [.int .i64 (bif decide (b.known n = 0) then b.least (binAt b n) else 0), .int .i64 (bif decide (b.known n = 0) then b.worst (binAt b n) else 0)]) :: (b8, cel 33 (btl b (b.sl a2 c2))) :: (b7, cel 25 (btl b (b.sl a1 c1))) :: (b5, cel 43 [.int .i64 lo, .int .i64 hi]) :: (b3, cel 25 (btl b (b.sl ab cb))) :: H, RowsA q.1.2.1 4 (brows q.1.1.bins) :: RowsA a2 4 (brows b.bins) :: RowsA a1 4 (brows b.bins) :: R⟩) ?_ ?_
 refine sy_cond rfl (fun hc2 => ?_) (fun hc2 => ?_)
 refine sy_seq ?_
 refine sy_tx' [0, 1] rfl ?_
 refine sp rfl (PE.assign rfl) rfl ?_
 refine sp rfl (PE.assign rfl) rfl ?_
 refine sy_seq ?_
 refine sy_tx' [0, 1, 2, 3, 4, 5, 6, 7, 8] rfl ?_
 refine sp rfl (PE.move rfl) rfl ?_
 refine sp rfl (PE.geq rfl rfl) rfl ?_
 refine sp rfl (PE.move rfl) rfl ?_
 refine sy_case (t := 44) rfl (fun g44 => ?_) (fun g44 => ?_)
 try simp only [decide_eq_true_eq, decide_eq_false_iff_not, Bool.and_eq_true, Bool.or_eq_true, Bool.not_eq_true', Int.not_le, Int.not_lt] at g44
 refine spG rfl rfl rfl rfl (PE.move rfl) rfl ?_
 refine spG rfl rfl rfl rfl (PE.fieldAddr fo25_3 rfl) rfl ?_
 refine spLG rfl rfl rfl rfl rfl (lh sc23 rfl rfl) rfl ?_
 refine spG rfl rfl rfl rfl (PE.lenSl isl23 rfl) rfl ?_
 refine spG rfl rfl rfl rfl (PE.lss rfl rfl) rfl ?_
 refine sp rfl (PE.pick rfl rfl rfl) rfl ?_
 refine sy_cond rfl (fun hc3 => ?_) (fun hc3 => ?_)
 try simp only [decide_eq_true_eq, decide_eq_false_iff_not, Bool.and_eq_true, Bool.or_eq_true, Bool.not_eq_true', Int.not_le, Int.not_lt] at hc3
 have hck : b.check = 0 := of_decide_eq_true hc2
 have hok := Barn.ok_of hr hck
 obtain ⟨k, rfl⟩ : ∃ k : Nat, n = k := ⟨n.toNat, by omega⟩
 obtain ⟨x, hx⟩ : ∃ x, b.bins[k]? = some x := ⟨_, List.getElem?_eq_getElem (by omega)⟩
 have hbx := binAt_of hx
 have hkn := Barn.known_ok hck hx
 have hkz : decide (b.known k = 0) = true := decide_eq_true hkn
 have hm := List.mem_of_getElem? hx
 have hmk := hok.bins x hm
 have hmn := hok.many
 refine sy_addr (a := ab) (sz := 4) (rows := brows b.bins) (by intro h0; simp [brows] at h0; simp [h0] at hx) (fun ba oa he => ?_)
 subst he
 refine sy_seq ?_
 refine sy_tx' [0, 1, 2, 3, 4, 5, 6] rfl ?_
 refine sp rfl (PE.fieldAddr fo25_3 rfl) rfl ?_
 refine spL rfl rfl (lh sc23 rfl rfl) rfl ?_
 refine sp rfl (PE.move rfl) rfl ?_
 refine sp rfl (PE.indexAddr el23 rfl rfl (by omega) (by omega)) rfl ?_
 refine spL rfl rfl (lfA ag45 (row := brow x) (br_get hx) rfl) rfl ?_
 refine alc rfl zl45 rfl (fun b16 => ?_)
 refine sto rfl rfl rfl cn45 rfl rfl rfl rfl ?_
 refine sy_seq ?_
 refine sy_draw [0, 1, 3, 0, 15, 31, 0, 64, 192, 0, 960, 1984, 4095, 0, 0, 0, 32768, 122880, 0, 0, 1040384, 2097151, 4194303, 8388607, 16777215] (.tk 0 (.tk 1 (.ld 2 (.tk 3 (.tk 4 (.ld 5 (.tk 6 (.tk 7 (.ld 8 (.tk 9 (.tk 10 (.ld 11 (.tk 12 (.ld 13 (.tk 14 (.tk 15 (.ld 16 (.ld 18 (.tk 19 (.big 17 (.big 20 (.big 21 (.tk 22 (.tk 23 (.tk 24 .done))))))))))))))))))))))))) mixed (by kernel_rfl) ?_
 refine tk rfl (PE.fieldAddr fo45_2 rfl) rfl ?_
 refine tk rfl (PE.fieldAddr fo43_0 rfl) rfl ?_
 refine ld rfl rfl (lh sc3 rfl rfl) rfl ?_
 refine tk rfl (PE.fieldAddr fo25_2 rfl) rfl ?_
 refine tk rfl (PE.indexArr ar22 rfl rfl (by omega) (by omega)) rfl ?_
 refine ld rfl rfl (lh sc3 rfl (by rw [show 0 + 2 + x.lo.toNat * 1 = 2 + x.lo.toNat by omega]; exact btl_rise (by omega))) rfl ?_
 refine tk rfl (PE.fieldAddr fo45_2 rfl) rfl ?_
 refine tk rfl (PE.fieldAddr fo43_1 rfl) rfl ?_
 refine ld rfl rfl (lh sc3 rfl rfl) rfl ?_
 refine tk rfl (PE.fieldAddr fo25_2 rfl) rfl ?_
 refine tk rfl (PE.indexArr ar22 rfl rfl (by omega) (by omega)) rfl ?_
 refine ld rfl rfl (lh sc3 rfl (by rw [show 0 + 2 + x.hi.toNat * 1 = 2 + x.hi.toNat by omega]; exact btl_rise (by omega))) rfl ?_
 refine tk rfl (PE.build (out := [_, _]) pl43 zl43 rfl rfl) rfl ?_
 refine ld rfl rfl (lhA (btl b (b.sl a2 c2)) ag33 rfl rfl rfl) rfl ?_
 refine tk rfl (PE.move rfl) rfl ?_
 refine tk rfl (PE.fieldAddr fo45_0 rfl) rfl ?_
 refine ld rfl rfl (lh sc3 rfl rfl) rfl ?_
 refine ld rfl rfl (lhA (btl b (b.sl a2 c2)) ag33 rfl rfl rfl) rfl ?_
 refine tk rfl (PE.move rfl) rfl ?_
 refine clV rfl cal48 rfl rfl (c_rLeft b a2 c2 hok k x hx x.warm (by omega) _ _) ?_
 refine bg (fun w hs => ⟨(lhA (btl b (b.sl a2 c2)) ag33 rfl rfl rfl) w hs, trivial, trivial, (lh sc3 rfl (by rw [show 0 + 2 + x.hi.toNat * 1 = 2 + x.hi.toNat by omega]; exact btl_rise (by omega))) w hs, (lh sc3 rfl rfl) w hs, (lh sc3 rfl (by rw [show 0 + 2 + x.lo.toNat * 1 = 2 + x.lo.toNat by omega]; exact btl_rise (by omega))) w hs, (lh sc3 rfl rfl) w hs, trivial⟩) ?_
 refine clV rfl cal49 rfl rfl (c_rLasts b a2 c2 hok k x hx _ _) ?_
 refine bg (fun w hs => ⟨trivial, (lh sc3 rfl (by rw [show 0 + 2 + x.hi.toNat * 1 = 2 + x.hi.toNat by omega]; exact btl_rise (by omega))) w hs, (lh sc3 rfl rfl) w hs, (lh sc3 rfl (by rw [show 0 + 2 + x.lo.toNat * 1 = 2 + x.lo.toNat by omega]; exact btl_rise (by omega))) w hs, (lh sc3 rfl rfl) w hs, trivial⟩) ?_
 refine sto rfl rfl rfl cn43 rfl rfl rfl rfl ?_
 refine bg (fun w hs => ⟨trivial, trivial, trivial, trivial, trivial⟩) ?_
 refine tk rfl (PE.assign rfl) rfl ?_
 refine tk rfl (PE.assign rfl) rfl ?_
 refine tk rfl (PE.assign rfl) rfl ?_
 refine sy_block ?_
 refine sy_seq ?_
 refine sy_tx' [0, 1, 2, 3, 4, 5, 6, 7, 8, 9, 10, 11, 12, 13, 14, 15, 16, 17, 18] rfl ?_
 refine sp rfl (PE.fieldAddr fo43_0 rfl) rfl ?_
 refine spL rfl rfl (lh sc3 rfl rfl) rfl ?_
 refine sp rfl (PE.lss rfl rfl) rfl ?_
 refine sp rfl (PE.move rfl) rfl ?_
 refine sy_case (t := 101) rfl (fun g101 => ?_) (fun g101 => ?_)
 try simp only [decide_eq_true_eq, decide_eq_false_iff_not, Bool.and_eq_true, Bool.or_eq_true, Bool.not_eq_true', Int.not_le, Int.not_lt] at g101
 have h3 : (!(inB lo 0 5) || !(inB hi 0 5)) = true := by simp [inB]; omega
 have ese : sampErr b k lo hi = 3 := by unfold sampErr; rw [hkn, h3]; rfl
 repeat refine spN rfl rfl rfl rfl rfl rfl rfl rfl ?_
 refine sp rfl (PE.pick rfl rfl rfl) rfl ?_
 refine sp rfl (PE.move rfl) rfl ?_
 repeat refine spN rfl rfl rfl rfl rfl rfl rfl rfl ?_
 refine sp rfl (PE.pick rfl rfl rfl) rfl ?_
 refine sp rfl (PE.move rfl) rfl ?_
 repeat refine spN rfl rfl rfl rfl rfl rfl rfl rfl ?_
 refine sp rfl (PE.pick rfl rfl rfl) rfl ?_
 refine sp rfl (PE.assign rfl) rfl ?_
 refine sy_condT rfl ?_
 refine sy_tx' [0] rfl ?_
 refine sp rfl (PE.assign rfl) rfl ?_
 refine sy_bn ?_
 exact sy_jend ⟨(zbarn, none, 0), .inl ⟨by rw [ese]; decide, rfl, rfl⟩⟩ (by dsimp only; rw [ese, hkn, hbx]; exact (by repeat' first | exact Sub.nil | apply Sub.cons | rfl | (simp [lk]; omega))) (fun w h => by dsimp only; rw [hkn, hbx]; exact St.noRows (h.del b16))
 try simp only [decide_eq_true_eq, decide_eq_false_iff_not, Bool.and_eq_true, Bool.or_eq_true, Bool.not_eq_true', Int.not_le, Int.not_lt] at g101
 refine spG rfl rfl rfl rfl (PE.fieldAddr fo43_1 rfl) rfl ?_
 refine spLG rfl rfl rfl rfl rfl (lh sc3 rfl rfl) rfl ?_
 refine spG rfl rfl rfl rfl (PE.lss rfl rfl) rfl ?_
 refine sp rfl (PE.pick rfl rfl rfl) rfl ?_
 refine sp rfl (PE.move rfl) rfl ?_
 refine sy_case (t := 106) rfl (fun g106 => ?_) (fun g106 => ?_)
 try simp only [decide_eq_true_eq, decide_eq_false_iff_not, Bool.and_eq_true, Bool.or_eq_true, Bool.not_eq_true', Int.not_le, Int.not_lt] at g106
 have h3 : (!(inB lo 0 5) || !(inB hi 0 5)) = true := by simp [inB]; omega
 have ese : sampErr b k lo hi = 3 := by unfold sampErr; rw [hkn, h3]; rfl
 repeat refine spN rfl rfl rfl rfl rfl rfl rfl rfl ?_
 refine sp rfl (PE.pick rfl rfl rfl) rfl ?_
 refine sp rfl (PE.move rfl) rfl ?_
 repeat refine spN rfl rfl rfl rfl rfl rfl rfl rfl ?_
 refine sp rfl (PE.pick rfl rfl rfl) rfl ?_
 refine sp rfl (PE.assign rfl) rfl ?_
 refine sy_condT rfl ?_
 refine sy_tx' [0] rfl ?_
 refine sp rfl (PE.assign rfl) rfl ?_
 refine sy_bn ?_
 exact sy_jend ⟨(zbarn, none, 0), .inl ⟨by rw [ese]; decide, rfl, rfl⟩⟩ (by dsimp only; rw [ese, hkn, hbx]; exact (by repeat' first | exact Sub.nil | apply Sub.cons | rfl | (simp [lk]; omega))) (fun w h => by dsimp only; rw [hkn, hbx]; exact St.noRows (h.del b16))
 try simp only [decide_eq_true_eq, decide_eq_false_iff_not, Bool.and_eq_true, Bool.or_eq_true, Bool.not_eq_true', Int.not_le, Int.not_lt] at g106
 refine spG rfl rfl rfl rfl (PE.fieldAddr fo43_0 rfl) rfl ?_
 refine spLG rfl rfl rfl rfl rfl (lh sc3 rfl rfl) rfl ?_
 refine spG rfl rfl rfl rfl (PE.gtr rfl rfl) rfl ?_
 refine sp rfl (PE.pick rfl rfl rfl) rfl ?_
 refine sp rfl (PE.move rfl) rfl ?_
 refine sy_case (t := 111) rfl (fun g111 => ?_) (fun g111 => ?_)
 try simp only [decide_eq_true_eq, decide_eq_false_iff_not, Bool.and_eq_true, Bool.or_eq_true, Bool.not_eq_true', Int.not_le, Int.not_lt] at g111
 have h3 : (!(inB lo 0 5) || !(inB hi 0 5)) = true := by simp [inB]; omega
 have ese : sampErr b k lo hi = 3 := by unfold sampErr; rw [hkn, h3]; rfl
 repeat refine spN rfl rfl rfl rfl rfl rfl rfl rfl ?_
 refine sp rfl (PE.pick rfl rfl rfl) rfl ?_
 refine sp rfl (PE.assign rfl) rfl ?_
 refine sy_condT rfl ?_
 refine sy_tx' [0] rfl ?_
 refine sp rfl (PE.assign rfl) rfl ?_
 refine sy_bn ?_
 exact sy_jend ⟨(zbarn, none, 0), .inl ⟨by rw [ese]; decide, rfl, rfl⟩⟩ (by dsimp only; rw [ese, hkn, hbx]; exact (by repeat' first | exact Sub.nil | apply Sub.cons | rfl | (simp [lk]; omega))) (fun w h => by dsimp only; rw [hkn, hbx]; exact St.noRows (h.del b16))
 try simp only [decide_eq_true_eq, decide_eq_false_iff_not, Bool.and_eq_true, Bool.or_eq_true, Bool.not_eq_true', Int.not_le, Int.not_lt] at g111
 refine spG rfl rfl rfl rfl (PE.fieldAddr fo43_1 rfl) rfl ?_
 refine spLG rfl rfl rfl rfl rfl (lh sc3 rfl rfl) rfl ?_
 refine spG rfl rfl rfl rfl (PE.gtr rfl rfl) rfl ?_
 refine sp rfl (PE.pick rfl rfl rfl) rfl ?_
 refine sp rfl (PE.assign rfl) rfl ?_
 refine sy_cond rfl (fun hc4 => ?_) (fun hc4 => ?_)
 try simp only [decide_eq_true_eq, decide_eq_false_iff_not, Bool.and_eq_true, Bool.or_eq_true, Bool.not_eq_true', Int.not_le, Int.not_lt] at hc4
 have h3 : (!(inB lo 0 5) || !(inB hi 0 5)) = true := by simp [inB]; omega
 have ese : sampErr b k lo hi = 3 := by unfold sampErr; rw [hkn, h3]; rfl
 refine sy_tx' [0] rfl ?_
 refine sp rfl (PE.assign rfl) rfl ?_
 refine sy_bn ?_
 exact sy_jend ⟨(zbarn, none, 0), .inl ⟨by rw [ese]; decide, rfl, rfl⟩⟩ (by dsimp only; rw [ese, hkn, hbx]; exact (by repeat' first | exact Sub.nil | apply Sub.cons | rfl | (simp [lk]; omega))) (fun w h => by dsimp only; rw [hkn, hbx]; exact St.noRows (h.del b16))
 try simp only [decide_eq_true_eq, decide_eq_false_iff_not, Bool.and_eq_true, Bool.or_eq_true, Bool.not_eq_true', Int.not_le, Int.not_lt] at hc4
 have h3 : (!(inB lo 0 5) || !(inB hi 0 5)) = false := by simp [inB]; omega
 refine sy_seq ?_
 refine sy_tx' [0, 1, 2, 3, 4, 5] rfl ?_
 refine sp rfl (PE.fieldAddr fo43_0 rfl) rfl ?_
 refine spL rfl rfl (lh sc3 rfl rfl) rfl ?_
 refine sp rfl (PE.fieldAddr fo43_1 rfl) rfl ?_
 refine spL rfl rfl (lh sc3 rfl rfl) rfl ?_
 refine sp rfl (PE.gtr rfl rfl) rfl ?_
 refine sp rfl (PE.assign rfl) rfl ?_
 refine sy_cond rfl (fun hc5 => ?_) (fun hc5 => ?_)
 try simp only [decide_eq_true_eq, decide_eq_false_iff_not, Bool.and_eq_true, Bool.or_eq_true, Bool.not_eq_true', Int.not_le, Int.not_lt] at hc5
 have ese : sampErr b k lo hi = 4 := by unfold sampErr; rw [hkn, h3, decide_eq_true hc5]; rfl
 refine sy_tx' [0] rfl ?_
 refine sp rfl (PE.assign rfl) rfl ?_
 refine sy_bn ?_
 exact sy_jend ⟨(zbarn, none, 0), .inl ⟨by rw [ese]; decide, rfl, rfl⟩⟩ (by dsimp only; rw [ese, hkn, hbx]; exact (by repeat' first | exact Sub.nil | apply Sub.cons | rfl | (simp [lk]; omega))) (fun w h => by dsimp only; rw [hkn, hbx]; exact St.noRows (h.del b16))
 try simp only [decide_eq_true_eq, decide_eq_false_iff_not, Bool.and_eq_true, Bool.or_eq_true, Bool.not_eq_true', Int.not_le, Int.not_lt] at hc5
 have h4 : decide (hi < lo) = false := decide_eq_false (by omega)
 refine sy_seq ?_
 refine sy_tx' [0, 1, 2, 3, 4, 5, 6, 7, 8, 9, 10, 11, 12, 13] rfl ?_
 refine sp rfl (PE.fieldAddr fo43_0 rfl) rfl ?_
 refine spL rfl rfl (lh sc3 rfl rfl) rfl ?_
 refine sp rfl (PE.fieldAddr fo45_2 rfl) rfl ?_
 refine sp rfl (PE.fieldAddr fo43_0 rfl) rfl ?_
 refine spL rfl rfl (lh sc3 rfl rfl) rfl ?_
 refine sp rfl (PE.max rfl rfl) rfl ?_
 refine sp rfl (PE.fieldAddr fo43_1 rfl) rfl ?_
 refine spL rfl rfl (lh sc3 rfl rfl) rfl ?_
 refine sp rfl (PE.fieldAddr fo45_2 rfl) rfl ?_
 refine sp rfl (PE.fieldAddr fo43_1 rfl) rfl ?_
 refine spL rfl rfl (lh sc3 rfl rfl) rfl ?_
 refine sp rfl (PE.min rfl rfl) rfl ?_
 refine sp rfl (PE.gtr rfl rfl) rfl ?_
 refine sp rfl (PE.assign rfl) rfl ?_
 refine sy_cond rfl (fun hc6 => ?_) (fun hc6 => ?_)
 try simp only [decide_eq_true_eq, decide_eq_false_iff_not, Bool.and_eq_true, Bool.or_eq_true, Bool.not_eq_true', Int.not_le, Int.not_lt] at hc6
 have ese : sampErr b k lo hi = 7 := by unfold sampErr; rw [hkn, h3, h4, hbx, decide_eq_true (show min hi x.hi < max lo x.lo from hc6)]; rfl
 refine sy_tx' [0] rfl ?_
 refine sp rfl (PE.assign rfl) rfl ?_
 refine sy_bn ?_
 exact sy_jend ⟨(zbarn, none, 0), .inl ⟨by rw [ese]; decide, rfl, rfl⟩⟩ (by dsimp only; rw [ese, hkn, hbx]; exact (by repeat' first | exact Sub.nil | apply Sub.cons | rfl | (simp [lk]; omega))) (fun w h => by dsimp only; rw [hkn, hbx]; exact St.noRows (h.del b16))
 try simp only [decide_eq_true_eq, decide_eq_false_iff_not, Bool.and_eq_true, Bool.or_eq_true, Bool.not_eq_true', Int.not_le, Int.not_lt] at hc6
 have ese : sampErr b k lo hi = 0 := by unfold sampErr; rw [hkn, h3, h4, hbx, decide_eq_false (show ¬ (min hi x.hi < max lo x.lo) from Int.not_lt.2 hc6)]; rfl
 refine sy_seq ?_
 refine sy_tx' [0, 1, 2, 3] rfl ?_
 refine spL rfl rfl (lhA (btl b (b.sl (some ⟨ba, oa, none⟩) cb)) ag25 rfl rfl rfl) rfl ?_
 refine cl rfl cal19 rfl rfl (c_Own b (some ⟨ba, oa, none⟩) cb (by omega) _ _) ?_
 rintro _ _ _ ⟨bo, cap, junk, rfl, rfl, rfl⟩
 refine sto rfl rfl rfl cn25 rfl rfl rfl rfl ?_
 refine sp rfl (PE.assign rfl) rfl ?_
 refine sy_tx' [0, 1, 2, 3, 4, 5, 6, 7, 8, 9, 10, 11, 12, 13, 14, 15, 16, 17, 18] rfl ?_
 refine sp rfl (PE.fieldAddr fo25_3 rfl) rfl ?_
 refine spL rfl rfl (lh sc23 rfl rfl) rfl ?_
 refine sp rfl (PE.move rfl) rfl ?_
 refine sp rfl (PE.fieldAddr fo43_0 rfl) rfl ?_
 refine spL rfl rfl (lh sc3 rfl rfl) rfl ?_
 refine sp rfl (PE.fieldAddr fo45_2 rfl) rfl ?_
 refine sp rfl (PE.fieldAddr fo43_0 rfl) rfl ?_
 refine spL rfl rfl (lh sc3 rfl rfl) rfl ?_
 refine sp rfl (PE.max rfl rfl) rfl ?_
 refine sp rfl (PE.fieldAddr fo43_1 rfl) rfl ?_
 refine spL rfl rfl (lh sc3 rfl rfl) rfl ?_
 refine sp rfl (PE.fieldAddr fo45_2 rfl) rfl ?_
 refine sp rfl (PE.fieldAddr fo43_1 rfl) rfl ?_
 refine spL rfl rfl (lh sc3 rfl rfl) rfl ?_
 refine sp rfl (PE.min rfl rfl) rfl ?_
 refine sp rfl (PE.build (out := [_, _]) pl43 zl43 rfl rfl) rfl ?_
 refine sp rfl (PE.indexAddr el23 rfl rfl (by omega) (by omega)) rfl ?_
 refine sp rfl (PE.fieldAddr fo45_2 rfl) rfl ?_
 refine stoE (l' := (brows (sampB b k lo hi)).flatten ++ junk) rfl rfl rfl cn43 rfl rfl rfl ((spl_left (by rw [br_flat]; show 0 + ((k : Nat) : Int).toNat * 4 + 2 + 2 ≤ _; omega)).trans (congrArg (· ++ junk) ((br_damp hx (max lo x.lo) (min hi x.hi) (by show 0 + ((k : Nat) : Int).toNat * 4 + 2 = _; omega)).trans (by unfold sampB; rw [hbx]; rfl)))) (by rw [List.length_append, br_flat]; show 0 + ((k : Nat) : Int).toNat * 4 + 2 + 2 ≤ _; omega) ?_
 have hbl : (b.withB (sampB b k lo hi)).sl (some ⟨bo, 0, none⟩) cap = b.sl (some ⟨bo, 0, none⟩) cap := by unfold Barn.sl Barn.withB sampB; dsimp only; rw [List.length_set]
 refine sy_bn ?_
 exact sy_jend ⟨(b.withB (sampB b k lo hi), some ⟨bo, 0, none⟩, cap), .inr ⟨ese, rfl⟩⟩ (by dsimp only; rw [ese, hkn, hbx]; exact (by repeat' first | exact Sub.nil | apply Sub.cons | rfl | (simp [lk]; omega))) (fun w h => by dsimp only; rw [hkn, hbx, hbl]; exact St.binRows (l := sampB b k lo hi) (junk := junk) ((h.del b16).pull bo))
 try simp only [decide_eq_true_eq, decide_eq_false_iff_not, Bool.and_eq_true, Bool.or_eq_true, Bool.not_eq_true', Int.not_le, Int.not_lt] at hc3
 have hck : b.check = 0 := of_decide_eq_true hc2
 have hnb : inB n 0 ((b.bins.length : Int) - 1) = false := by simp [inB]; omega
 have hkn : b.known n = 1 := by unfold Barn.known; rw [decide_eq_true hck, hnb]; rfl
 have hkz : decide ((1 : Int) = 0) = false := rfl
 have ese : sampErr b n lo hi = 1 := by unfold sampErr; rw [hkn]; rfl
 refine sy_skip ?_
 exact sy_jend ⟨(zbarn, none, 0), .inl ⟨by rw [ese]; decide, rfl, rfl⟩⟩ (by dsimp only; rw [ese, hkn, hkz]; exact (by repeat' first | exact Sub.nil | apply Sub.cons | rfl | (simp [lk]; omega))) (fun w h => by dsimp only; rw [hkn, hkz]; exact St.noRows h)
 try simp only [decide_eq_true_eq, decide_eq_false_iff_not, Bool.and_eq_true, Bool.or_eq_true, Bool.not_eq_true', Int.not_le, Int.not_lt] at g44
 have hck : b.check = 0 := of_decide_eq_true hc2
 have hnb : inB n 0 ((b.bins.length : Int) - 1) = false := by simp [inB]; omega
 have hkn : b.known n = 1 := by unfold Barn.known; rw [decide_eq_true hck, hnb]; rfl
 have hkz : decide ((1 : Int) = 0) = false := rfl
 have ese : sampErr b n lo hi = 1 := by unfold sampErr; rw [hkn]; rfl
 repeat refine spN rfl rfl rfl rfl rfl rfl rfl rfl ?_
 refine sp rfl (PE.pick rfl rfl rfl) rfl ?_
 refine sy_condF rfl ?_
 refine sy_skip ?_
 exact sy_jend ⟨(zbarn, none, 0), .inl ⟨by rw [ese]; decide, rfl, rfl⟩⟩ (by dsimp only; rw [ese, hkn, hkz]; exact (by repeat' first | exact Sub.nil | apply Sub.cons | rfl | (simp [lk]; omega))) (fun w h => by dsimp only; rw [hkn, hkz]; exact St.noRows h)
 try simp only [decide_eq_true_eq, decide_eq_false_iff_not, Bool.and_eq_true, Bool.or_eq_true, Bool.not_eq_true', Int.not_le, Int.not_lt] at hc2
 have hkn : b.known n = b.check := by unfold Barn.known; rw [decide_eq_false hc2]; rfl
 have hkz : decide (b.check = 0) = false := decide_eq_false hc2
 have ese : sampErr b n lo hi = b.check := by unfold sampErr; rw [hkn, hkz]; rfl
 refine sy_skip ?_
 exact sy_jend ⟨(zbarn, none, 0), .inl ⟨by rw [ese]; exact hc2, rfl, rfl⟩⟩ (by dsimp only; rw [ese, hkn, hkz]; exact (by repeat' first | exact Sub.nil | apply Sub.cons | rfl | (simp [lk]; omega))) (fun w h => by dsimp only; rw [hkn, hkz]; exact St.noRows h)
 rintro ⟨⟨wb, aw, cw⟩, hq⟩
 dsimp only at hq ⊢
 refine sy_seq ?_
 refine sy_tx' [0, 1, 2, 3, 4, 5, 6, 7, 8] rfl ?_
 refine spL rfl rfl (lhA (btl b (b.sl a1 c1)) ag25 rfl rfl rfl) rfl ?_
 refine sp rfl (PE.move rfl) rfl ?_
 refine cl rfl cal50 rfl rfl (c_Rises b a1 c1 hl hr n _ _) ?_
 rintro _ _ _ ⟨rfl, rfl, rfl⟩
 rw [show (bif decide (b.known n = 0) then spv (b.least (binAt b n)) (b.worst (binAt b n)) else spv 0 0) = spv (bif decide (b.known n = 0) then b.least (binAt b n) else 0) (bif decide (b.known n = 0) then b.worst (binAt b n) else 0) by cases decide (b.known n = 0) <;> rfl]
 refine sp rfl (PE.move rfl) rfl ?_
 refine sp rfl (PE.extract rfl rfl) rfl ?_
 refine sp rfl (PE.extract rfl rfl) rfl ?_
 refine alc rfl zl43 rfl (fun b17 => ?_)
 refine sto rfl rfl rfl cn43 rfl rfl rfl rfl ?_
 refine sp rfl (PE.assign rfl) rfl ?_
 refine sy_seq ?_
 refine sy_tx' [0, 1, 2, 3, 4, 5, 6, 7] rfl ?_
 refine spL rfl rfl (lhA (btl b (b.sl a1 c1)) ag25 rfl rfl rfl) rfl ?_
 refine sp rfl (PE.move rfl) rfl ?_
 refine clV rfl cal51 rfl rfl (c_Left b a1 c1 hl hr n _ _) ?_
 refine sp rfl (PE.move rfl) rfl ?_
 refine sp rfl (PE.extract rfl rfl) rfl ?_
 refine sp rfl (PE.extract rfl rfl) rfl ?_
 refine sp rfl (PE.assign rfl) rfl ?_
 refine sp rfl (PE.assign rfl) rfl ?_
 refine sy_seq ?_
 refine sy_tx' [0, 1, 2, 3, 4, 5, 6, 7] rfl ?_
 refine spL rfl rfl (lhA (btl b (b.sl a1 c1)) ag25 rfl rfl rfl) rfl ?_
 refine sp rfl (PE.move rfl) rfl ?_
 refine clV rfl cal52 rfl rfl (c_Lasts b a1 c1 hl hr n _ _) ?_
 refine sp rfl (PE.move rfl) rfl ?_
 refine sp rfl (PE.extract rfl rfl) rfl ?_
 refine sp rfl (PE.extract rfl rfl) rfl ?_
 refine sp rfl (PE.assign rfl) rfl ?_
 refine sp rfl (PE.assign rfl) rfl ?_
 refine sy_seq ?_
 refine sy_tx' [0, 1, 2, 3, 4, 5, 6, 7, 8, 9] rfl ?_
 refine spL rfl rfl (lhA (btl b (b.sl a1 c1)) ag25 rfl rfl rfl) rfl ?_
 refine sp rfl (PE.move rfl) rfl ?_
 refine spL rfl rfl (lhA [_, _] ag43 rfl rfl rfl) rfl ?_
 refine cl rfl cal46 rfl rfl (c_Sample b a1 c1 hl hr n lo hi _ _) ?_
 rintro _ _ _ ⟨rfl, ⟨hne, rfl, rfl⟩ | ⟨he0, bo, rfl, rfl⟩⟩
 refine sp rfl (PE.move rfl) rfl ?_
 refine sp rfl (PE.extract rfl rfl) rfl ?_
 refine sp rfl (PE.extract rfl rfl) rfl ?_
 refine alc rfl zl25 rfl (fun b23 => ?_)
 refine sto rfl rfl rfl cn25 rfl rfl rfl rfl ?_
 refine sp rfl (PE.assign rfl) rfl ?_
 refine sy_seq ?_
 refine sy_seq ?_
 refine sy_tx' [0, 1, 2, 3, 4, 5, 6, 7, 8, 9, 10, 11, 12, 13, 14, 15, 16, 17, 18, 19, 20, 21, 22, 23, 24, 25, 26, 27, 28, 29, 30, 31, 32, 33, 34, 35, 36, 37, 38] rfl ?_
 obtain ⟨rfl, rfl, rfl⟩ : wb = zbarn ∧ aw = none ∧ cw = 0 := by
   rcases hq with ⟨_, h1, h2⟩ | ⟨h0, _⟩
   · cases h2; exact ⟨h1, rfl, rfl⟩
   · exact absurd h0 hne
 refine sp rfl (PE.move rfl) rfl ?_
 refine sp rfl (PE.move rfl) rfl ?_
 refine sp rfl (PE.neq rfl rfl) rfl ?_
 refine sp rfl (PE.move rfl) rfl ?_
 refine sy_case (t := 164) rfl (fun g164 => ?_) (fun g164 => ?_)
 exact absurd g164 (by simp)
 refine spG rfl rfl rfl rfl (PE.move rfl) rfl ?_
 refine spG rfl rfl rfl rfl (PE.move rfl) rfl ?_
 refine spG rfl rfl rfl rfl (PE.neq rfl rfl) rfl ?_
 refine sp rfl (PE.pick rfl rfl rfl) rfl ?_
 refine sp rfl (PE.move rfl) rfl ?_
 refine sy_case (t := 169) rfl (fun g169 => ?_) (fun g169 => ?_)
 exact absurd g169 (by simp)
 refine spG rfl rfl rfl rfl (PE.move rfl) rfl ?_
 refine spG rfl rfl rfl rfl (PE.move rfl) rfl ?_
 refine spG rfl rfl rfl rfl (PE.neq rfl rfl) rfl ?_
 refine sp rfl (PE.pick rfl rfl rfl) rfl ?_
 refine sp rfl (PE.move rfl) rfl ?_
 refine sy_case (t := 174) rfl (fun g174 => ?_) (fun g174 => ?_)
 exact absurd g174 (by simp)
 refine spG rfl rfl rfl rfl (PE.move rfl) rfl ?_
 refine spG rfl rfl rfl rfl (PE.move rfl) rfl ?_
 refine spG rfl rfl rfl rfl (PE.neq rfl rfl) rfl ?_
 refine sp rfl (PE.pick rfl rfl rfl) rfl ?_
 refine sp rfl (PE.move rfl) rfl ?_
 refine sy_case (t := 179) rfl (fun g179 => ?_) (fun g179 => ?_)
 exact absurd g179 (by simp)
 refine spLG rfl rfl rfl rfl rfl (lhA [_, _] ag43 rfl rfl rfl) rfl ?_
 refine spLG rfl rfl rfl rfl rfl (lhA [_, _] ag43 rfl rfl rfl) rfl ?_
 refine spG rfl rfl rfl rfl (PE.neqAgg [bif decide (b.known n = 0) then b.least (binAt b n) else 0, bif decide (b.known n = 0) then b.worst (binAt b n) else 0] [bif decide (b.known n = 0) then b.least (binAt b n) else 0, bif decide (b.known n = 0) then b.worst (binAt b n) else 0] (eqB_ok 10000 43 true 2 eqf43) eqg43 rfl rfl rfl rfl) rfl ?_
 refine sp rfl (PE.pick rfl rfl rfl) rfl ?_
 refine sp rfl (PE.move rfl) rfl ?_
 refine sy_case (t := 184) rfl (fun g184 => ?_) (fun g184 => ?_)
 exact absurd g184 (by simp)
 refine spG rfl rfl rfl rfl (PE.move rfl) rfl ?_
 refine spG rfl rfl rfl rfl (PE.move rfl) rfl ?_
 refine spG rfl rfl rfl rfl (PE.neq rfl rfl) rfl ?_
 refine sp rfl (PE.pick rfl rfl rfl) rfl ?_
 refine sp rfl (PE.move rfl) rfl ?_
 refine sy_case (t := 189) rfl (fun g189 => ?_) (fun g189 => ?_)
 exact absurd g189 (by simp)
 refine spG rfl rfl rfl rfl (PE.move rfl) rfl ?_
 refine spG rfl rfl rfl rfl (PE.move rfl) rfl ?_
 refine spG rfl rfl rfl rfl (PE.neq rfl rfl) rfl ?_
 refine sp rfl (PE.pick rfl rfl rfl) rfl ?_
 refine sp rfl (PE.move rfl) rfl ?_
 refine sy_case (t := 194) rfl (fun g194 => ?_) (fun g194 => ?_)
 exact absurd g194 (by simp)
 refine spLG rfl rfl rfl rfl rfl (lhA (btl zbarn (.slice none 0 0)) ag25 rfl rfl rfl) rfl ?_
 refine spLG rfl rfl rfl rfl rfl (lhA (btl zbarn (.slice none 0 0)) ag25 rfl rfl rfl) rfl ?_
 refine clVG rfl rfl rfl rfl cal31 rfl rfl (c_same zbarn none 0 zbarn none 0 (by decide) (by decide) rfl rfl _ _) ?_
 refine spG rfl rfl rfl rfl (PE.not rfl) rfl ?_
 refine sp rfl (PE.pick rfl rfl rfl) rfl ?_
 refine sy_cond rfl (fun hc7 => ?_) (fun hc7 => ?_)
 rw [sameB_iff.2 rfl] at hc7; exact absurd hc7 (by decide)
 refine sy_skip ?_
 refine sy_seq ?_
 refine sy_tx' [0, 1, 2] rfl ?_
 refine sp rfl (PE.fieldAddr fo25_3 rfl) rfl ?_
 refine spL rfl rfl (lh sc23 rfl rfl) rfl ?_
 refine clr0 rfl rfl sl23 rfl ?_
 refine sy_seq ?_
 refine sy_tx' [0, 1, 2, 3, 4, 5, 6] rfl ?_
 refine spL rfl rfl (lhA (btl b (b.sl a1 c1)) ag25 rfl rfl rfl) rfl ?_
 refine spL rfl rfl (lhA (btl b (b.sl ab cb)) ag25 rfl rfl rfl) rfl ?_
 refine clV rfl cal31 rfl rfl (c_same b a1 c1 b ab cb hl hl hr hr _ _) ?_
 refine sp rfl (PE.move rfl) rfl ?_
 refine sy_case (t := 205) rfl (fun g205 => ?_) (fun g205 => ?_)
 refine clVG rfl rfl rfl rfl cal18 rfl rfl (c_awake _ _) ?_
 refine sp rfl (PE.pick rfl rfl rfl) rfl ?_
 refine sp rfl (PE.assign rfl) rfl ?_
 refine sy_ret ?_
 exact sy_return (vs := [_]) rfl (.cons (RV.tmp rfl) .nil) rfl ⟨rfl, rfl, rfl⟩ (fun w h => (((((((((h.del b23).del b17).del b15).del b12).del b8).del b7).del b5).del b3).ftail.ftail.ftail))
 rw [sameB_iff.2 rfl] at g205; exact absurd g205 (by decide)
 refine Sy.heap (H' := (bo, cel 45 ((brows (sampB b n lo hi)).flatten ++ [])) :: _) (fun w h => by rw [List.append_nil]; exact h) ?_
 refine sp rfl (PE.move rfl) rfl ?_
 refine sp rfl (PE.extract rfl rfl) rfl ?_
 refine sp rfl (PE.extract rfl rfl) rfl ?_
 refine alc rfl zl25 rfl (fun b23 => ?_)
 refine sto rfl rfl rfl cn25 rfl rfl rfl rfl ?_
 refine sp rfl (PE.assign rfl) rfl ?_
 refine sy_seq ?_
 refine sy_seq ?_
 refine sy_tx' [0, 1, 2, 3, 4, 5, 6, 7, 8, 9, 10, 11, 12, 13, 14, 15, 16, 17, 18, 19, 20, 21, 22, 23, 24, 25, 26, 27, 28, 29, 30, 31, 32, 33, 34, 35, 36, 37, 38] rfl ?_
 have hls : (b.withB (sampB b n lo hi)).bins.length ≤ 9223372036854775807 := by unfold Barn.withB sampB; dsimp only; rw [List.length_set]; exact hl
 obtain rfl : wb = b.withB (sampB b n lo hi) := by
   rcases hq with ⟨h1, _⟩ | ⟨_, h2⟩
   · exact absurd he0 h1
   · exact h2
 refine sp rfl (PE.move rfl) rfl ?_
 refine sp rfl (PE.move rfl) rfl ?_
 refine sp rfl (PE.neq rfl rfl) rfl ?_
 refine sp rfl (PE.move rfl) rfl ?_
 refine sy_case (t := 164) rfl (fun g164 => ?_) (fun g164 => ?_)
 exact absurd g164 (by simp)
 refine spG rfl rfl rfl rfl (PE.move rfl) rfl ?_
 refine spG rfl rfl rfl rfl (PE.move rfl) rfl ?_
 refine spG rfl rfl rfl rfl (PE.neq rfl rfl) rfl ?_
 refine sp rfl (PE.pick rfl rfl rfl) rfl ?_
 refine sp rfl (PE.move rfl) rfl ?_
 refine sy_case (t := 169) rfl (fun g169 => ?_) (fun g169 => ?_)
 exact absurd g169 (by simp)
 refine spG rfl rfl rfl rfl (PE.move rfl) rfl ?_
 refine spG rfl rfl rfl rfl (PE.move rfl) rfl ?_
 refine spG rfl rfl rfl rfl (PE.neq rfl rfl) rfl ?_
 refine sp rfl (PE.pick rfl rfl rfl) rfl ?_
 refine sp rfl (PE.move rfl) rfl ?_
 refine sy_case (t := 174) rfl (fun g174 => ?_) (fun g174 => ?_)
 exact absurd g174 (by simp)
 refine spG rfl rfl rfl rfl (PE.move rfl) rfl ?_
 refine spG rfl rfl rfl rfl (PE.move rfl) rfl ?_
 refine spG rfl rfl rfl rfl (PE.neq rfl rfl) rfl ?_
 refine sp rfl (PE.pick rfl rfl rfl) rfl ?_
 refine sp rfl (PE.move rfl) rfl ?_
 refine sy_case (t := 179) rfl (fun g179 => ?_) (fun g179 => ?_)
 exact absurd g179 (by rw [he0]; simp)
 refine spLG rfl rfl rfl rfl rfl (lhA [_, _] ag43 rfl rfl rfl) rfl ?_
 refine spLG rfl rfl rfl rfl rfl (lhA [_, _] ag43 rfl rfl rfl) rfl ?_
 refine spG rfl rfl rfl rfl (PE.neqAgg [bif decide (b.known n = 0) then b.least (binAt b n) else 0, bif decide (b.known n = 0) then b.worst (binAt b n) else 0] [bif decide (b.known n = 0) then b.least (binAt b n) else 0, bif decide (b.known n = 0) then b.worst (binAt b n) else 0] (eqB_ok 10000 43 true 2 eqf43) eqg43 rfl rfl rfl rfl) rfl ?_
 refine sp rfl (PE.pick rfl rfl rfl) rfl ?_
 refine sp rfl (PE.move rfl) rfl ?_
 refine sy_case (t := 184) rfl (fun g184 => ?_) (fun g184 => ?_)
 exact absurd g184 (by simp)
 refine spG rfl rfl rfl rfl (PE.move rfl) rfl ?_
 refine spG rfl rfl rfl rfl (PE.move rfl) rfl ?_
 refine spG rfl rfl rfl rfl (PE.neq rfl rfl) rfl ?_
 refine sp rfl (PE.pick rfl rfl rfl) rfl ?_
 refine sp rfl (PE.move rfl) rfl ?_
 refine sy_case (t := 189) rfl (fun g189 => ?_) (fun g189 => ?_)
 exact absurd g189 (by simp)
 refine spG rfl rfl rfl rfl (PE.move rfl) rfl ?_
 refine spG rfl rfl rfl rfl (PE.move rfl) rfl ?_
 refine spG rfl rfl rfl rfl (PE.neq rfl rfl) rfl ?_
 refine sp rfl (PE.pick rfl rfl rfl) rfl ?_
 refine sp rfl (PE.move rfl) rfl ?_
 refine sy_case (t := 194) rfl (fun g194 => ?_) (fun g194 => ?_)
 exact absurd g194 (by simp)
 refine spLG rfl rfl rfl rfl rfl (lhA (btl (b.withB (sampB b n lo hi)) ((b.withB (sampB b n lo hi)).sl (some ⟨bo, 0, none⟩) b.bins.length)) ag25 rfl rfl rfl) rfl ?_
 refine spLG rfl rfl rfl rfl rfl (lhA (btl (b.withB (sampB b n lo hi)) ((b.withB (sampB b n lo hi)).sl aw cw)) ag25 rfl rfl rfl) rfl ?_
 refine clVG rfl rfl rfl rfl cal31 rfl rfl (FnV.lend (b := bo) (e := 45) (sz := 4) (rows := brows (sampB b n lo hi)) (junk := []) brow_len (fun B => c_same (b.withB (sampB b n lo hi)) (some ⟨bo, 0, none⟩) b.bins.length (b.withB (sampB b n lo hi)) aw cw hls hls hr hr _ _)) ?_
 refine spG rfl rfl rfl rfl (PE.not rfl) rfl ?_
 refine sp rfl (PE.pick rfl rfl rfl) rfl ?_
 refine sy_cond rfl (fun hc7 => ?_) (fun hc7 => ?_)
 rw [sameB_iff.2 rfl] at hc7; exact absurd hc7 (by decide)
 refine sy_skip ?_
 refine sy_seq ?_
 refine sy_tx' [0, 1, 2] rfl ?_
 refine sp rfl (PE.fieldAddr fo25_3 rfl) rfl ?_
 refine spL rfl rfl (lh sc23 rfl rfl) rfl ?_
 refine clrB rfl rfl sl23 zl45 rfl rfl rfl (by rw [List.append_nil, br_flat]; unfold sampB Barn.withB; dsimp only; rw [List.length_set]; exact Nat.le_refl _) ?_
 refine sy_seq ?_
 refine sy_tx' [0, 1, 2, 3, 4, 5, 6] rfl ?_
 refine spL rfl rfl (lhA (btl b (b.sl a1 c1)) ag25 rfl rfl rfl) rfl ?_
 refine spL rfl rfl (lhA (btl b (b.sl ab cb)) ag25 rfl rfl rfl) rfl ?_
 refine clV rfl cal31 rfl rfl (c_same b a1 c1 b ab cb hl hl hr hr _ _) ?_
 refine sp rfl (PE.move rfl) rfl ?_
 refine sy_case (t := 205) rfl (fun g205 => ?_) (fun g205 => ?_)
 refine clVG rfl rfl rfl rfl cal18 rfl rfl (c_awake _ _) ?_
 refine sp rfl (PE.pick rfl rfl rfl) rfl ?_
 refine sp rfl (PE.assign rfl) rfl ?_
 refine sy_ret ?_
 exact sy_return (vs := [_]) rfl (.cons (RV.tmp rfl) .nil) rfl ⟨rfl, rfl, rfl⟩ (fun w h => ((((((((((h.del bo).del b23).del b17).del b15).del b12).del b8).del b7).del b5).del b3).ftail.ftail.ftail))
 rw [sameB_iff.2 rfl] at g205; exact absurd g205 (by decide)
end Go.Proofs.Ytelegnmfhjfbaaa
