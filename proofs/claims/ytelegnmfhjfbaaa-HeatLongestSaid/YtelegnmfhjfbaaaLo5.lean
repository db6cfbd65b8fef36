/- Walks of the functions of the program, and the laws that join them: what the last theorem of this claim needs, in order. -/
import Derived.Test.YtelegnmfhjfbaaaLo4
namespace Go.Proofs.Ytelegnmfhjfbaaa
set_option linter.unusedSimpArgs false
set_option linter.unusedVariables false
open Go
def bgL (b : Barn) : List Int := b.bins.map fun x => b.days x x.warm
def laL (b : Barn) : List Int := b.bins.map fun x => b.days x b.cool
theorem bgL_len (b : Barn) : (bgL b).length = b.bins.length := List.length_map _
theorem laL_at {b : Barn} {k : Nat} {x : HBin} (hx : b.bins[k]? = some x) : na (laL b) k = b.days x b.cool := by unfold na laL; rw [List.getD_eq_getElem?_getD, List.getElem?_map, hx]; rfl
theorem laL_lasts (b : Barn) : ∀ k < b.dsk.n, na (laL b) k = na b.dsk.lasts k := fun k _ => (pad_na (l := laL b)).symm
theorem prd_app : ∀ (a c : List Nat), prd (a ++ c) = prd a * prd c
  | [], c => by simp [prd]
  | z :: a, c => by show z * prd (a ++ c) = z * prd a * prd c; rw [prd_app a c, Nat.mul_assoc]
theorem prd_take {zs : List Nat} {k z : Nat} (h : zs[k]? = some z) : prd (zs.take (k + 1)) = prd (zs.take k) * z := by
  rw [List.take_add_one, h, Option.toList_some, prd_app]; simp [prd]
theorem prd_bd {d : Dsk} (hd : d.ok) {k : Nat} (hk : k ≤ d.n) : 1 ≤ prd (d.zs.take k) ∧ prd (d.zs.take k) ≤ 14641 := by
  refine ⟨prd_pos _ (fun z hz => d.zs_pos z (List.mem_of_mem_take hz)), ?_⟩
  have h1 : d.nst = prd (d.zs.take k) * prd (d.zs.drop k) := by unfold Dsk.nst; rw [← prd_app, List.take_append_drop]
  have h2 := prd_pos (d.zs.drop k) (fun z hz => d.zs_pos z (List.mem_of_mem_drop hz))
  have h3 := (d.nst_le hd).2
  have h4 : prd (d.zs.take k) * 1 ≤ prd (d.zs.take k) * prd (d.zs.drop k) := Nat.mul_le_mul_left _ h2
  omega
theorem pow_le16 {n : Nat} (h : n ≤ 4) : 1 ≤ 2 ^ n ∧ 2 ^ n ≤ 16 := by
  refine ⟨Nat.pos_of_ne_zero (by simp), ?_⟩
  have := Nat.pow_le_pow_right (show 0 < 2 by decide) h
  omega
theorem rmid_yes {la s : List Int} {u k : Nat} (h : u / 2 ^ k % 2 = 1) : rmid la s u k = max (na s k) (na la k) := by
  unfold rmid; rw [Nat.testBit_eq_decide_div_mod_eq, decide_eq_true h]; rfl
theorem rmid_no {la s : List Int} {u k : Nat} (h : ¬ u / 2 ^ k % 2 = 1) : rmid la s u k = na s k := by
  unfold rmid; rw [Nat.testBit_eq_decide_div_mod_eq, decide_eq_false h]; rfl
theorem rNx_bad {la s : List Int} {u k n : Nat} {t : List Int} (hk : k < n) (h : rNx la s u k = some t) (hb : rnum (rmid la s u k) < 0) : rNx la s u n = none := by
  refine rNx_none (k := k + 1) hk ?_
  unfold rNx; rw [h]; simp only; rw [decide_eq_true hb]; rfl
theorem rNx_good {la s : List Int} {u k : Nat} {t : List Int} (h : rNx la s u k = some t) (hb : ¬ rnum (rmid la s u k) < 0) : rNx la s u (k + 1) = some (t ++ [rnum (rmid la s u k)]) := by
  unfold rNx; rw [h]; simp only; rw [decide_eq_false hb]; rfl
theorem irows_one (l : List Int) : ∀ r ∈ irows l, r.length = 1 := fun r hr => by obtain ⟨x, _, rfl⟩ := List.mem_map.1 hr; rfl
def plcV (l : List (List Int)) (s : List Int) : Int := match l.findIdx? (fun t => decide (t = s)) with
  | some k => (k : Int)
  | none => -1
theorem plc_neg {l : List (List Int)} {s : List Int} : plcV l s < 0 ↔ s ∉ l := by
  unfold plcV
  cases h : l.findIdx? (fun t => decide (t = s)) with
  | some k =>
    obtain ⟨hk, h1, _⟩ := List.findIdx?_eq_some_iff_getElem.1 h
    have : l[k] = s := of_decide_eq_true h1
    constructor
    · intro h; simp only at h; omega
    · intro h; exact absurd (this ▸ List.getElem_mem hk) h
  | none =>
    rw [List.findIdx?_eq_none_iff] at h
    constructor
    · intro _ hm; have := h s hm; simp at this
    · intro _; simp only; omega
theorem take_eq2 {l s : List Int} {i : Nat} {u v : Int} (hu : l[i]? = some u) (hv : s[i]? = some v) : decide (l.take (i + 1) = s.take (i + 1)) = (decide (l.take i = s.take i) && decide (u = v)) := by
  rw [take_snoc hu, take_snoc hv, ← Bool.decide_and]
  refine decide_eq_decide.2 ⟨fun h => ?_, fun h => by rw [h.1, h.2]⟩
  have h1 := List.append_inj h (by have := (List.getElem?_eq_some_iff.1 hu).1; have := (List.getElem?_eq_some_iff.1 hv).1; rw [List.length_take, List.length_take]; omega)
  exact ⟨h1.1, by simpa using h1.2⟩
theorem plc_at {l : List (List Int)} {s t : List Int} {k : Nat} (hn : ∀ y ∈ l.take k, y ≠ s) (h : l[k]? = some t) (e : t = s) : plcV l s = k := by
  have hk := (List.getElem?_eq_some_iff.1 h).1
  have : l.findIdx? (fun t => decide (t = s)) = some k := List.findIdx?_eq_some_iff_getElem.2 ⟨hk, by rw [(List.getElem?_eq_some_iff.1 h).2]; exact decide_eq_true e, fun j hj => by
    have := hn l[j] (List.mem_take_iff_getElem.2 ⟨j, by omega, rfl⟩)
    simpa using this⟩
  unfold plcV; rw [this]
theorem plc_no {l : List (List Int)} {s : List Int} (hn : ∀ y ∈ l, y ≠ s) : plcV l s = -1 := by
  have : l.findIdx? (fun t => decide (t = s)) = none := List.findIdx?_eq_none_iff.2 fun x hx => by simpa using hn x hx
  unfold plcV; rw [this]
theorem c_rBegin (b : Barn) (ab : Option Addr) (cb : Nat) (hok : b.ok) (H : Heap) (R : Facts) [hB : MemRows ab 4 (brows b.bins) R] :
    Fn Try.prog 84 [b.v (b.sl ab cb)] H R (fun v H' R' => ∃ (ax : Option Addr) (cx : Nat), v = .slice ax b.bins.length cx ∧ H' = H ∧ R' = RowsA ax 1 (irows (bgL b)) :: R) := by
 have hmn := hok.many
 refine fn_of Try.func84 rfl Try.ntmps84 rfl ?_
 refine sy_seq ?_
 refine sy_tx' [0, 1] rfl ?_
 refine bx rfl rfl rfl (fun b1 => ?_)
 refine sp rfl (PE.assign rfl) rfl ?_
 refine sy_seq ?_
 refine sy_tx' [0] rfl ?_
 refine sp rfl (PE.assign rfl) rfl ?_
 refine sy_seq ?_
 refine sy_seq ?_
 refine sy_tx' [0] rfl ?_
 refine sp rfl (PE.assign rfl) rfl ?_
 refine sy_block ?_
 refine sy_loop (ι := (k : {k : Nat // k ≤ b.bins.length}) × OSl 3 1 (irows ((bgL b).take k.1))) (fun y => ⟨[(1, .pointer (some ⟨b1, 0, none⟩)), (3, y.2.fs), (4, .int .i64 y.1.1)], y.2.G ++ (b1, cel 33 (btl b (b.sl ab cb))) :: H, R⟩) (fun y => b.bins.length - y.1.1) ⟨⟨0, by omega⟩, OSl.nil _ _⟩ ?_ (fun y => ?_)
 exact sy_at (by repeat' first | exact Sub.nil | apply Sub.cons | rfl | (simp [lk]; omega)) (fun _ h => h)
 obtain ⟨⟨k, hk⟩, o⟩ := y
 dsimp only at hk o ⊢
 refine sy_seq ?_
 refine sy_seq ?_
 refine sy_tx' [0, 1, 2, 3, 4] rfl ?_
 refine sp rfl (PE.move rfl) rfl ?_
 refine sp rfl (PE.fieldAddr fo33_3 rfl) rfl ?_
 refine spL rfl rfl (lh sc31 rfl rfl) rfl ?_
 refine sp rfl (PE.lenSl isl31 rfl) rfl ?_
 refine sp rfl (PE.lss rfl rfl) rfl ?_
 refine sy_cond rfl (fun hc0 => ?_) (fun hc0 => ?_)
 try simp only [decide_eq_true_eq, decide_eq_false_iff_not, Bool.and_eq_true, Bool.or_eq_true, Bool.not_eq_true', Int.not_le, Int.not_lt] at hc0
 obtain ⟨x, hx⟩ : ∃ x, b.bins[k]? = some x := ⟨_, List.getElem?_eq_getElem (by omega)⟩
 have hm := List.mem_of_getElem? hx
 have hh := hok.bins x hm
 have hg : (bgL b)[k]? = some (b.days x x.warm) := by unfold bgL; rw [List.getElem?_map, hx]; rfl
 refine sy_addr (a := ab) (sz := 4) (rows := brows b.bins) (by intro h0; simp [brows] at h0; simp [h0] at hx) (fun ba oa he => ?_)
 subst he
 refine sy_skip ?_
 refine sy_seq ?_
 refine sy_block ?_
 refine sy_draw [0, 0, 0, 0, 8, 0, 56, 120, 248, 510, 1022, 2047, 4095] (.tk 0 (.ld 1 (.tk 2 (.tk 3 (.ld 4 (.tk 5 (.tk 6 (.tk 7 (.ld 8 (.big 9 (.big 10 (.big 11 (.tk 12 .done))))))))))))) mixed (by kernel_rfl) ?_
 refine tk rfl (PE.move rfl) rfl ?_
 refine ld rfl rfl (lhA (btl b (b.sl (some ⟨ba, oa, none⟩) cb)) ag33 rfl rfl rfl) rfl ?_
 refine tk rfl (PE.move rfl) rfl ?_
 refine tk rfl (PE.fieldAddr fo33_3 rfl) rfl ?_
 refine ld rfl rfl (lh sc31 rfl rfl) rfl ?_
 refine tk rfl (PE.move rfl) rfl ?_
 refine tk rfl (PE.indexAddr el31 rfl rfl (by omega) (by omega)) rfl ?_
 refine tk rfl (PE.fieldAddr fo113_0 rfl) rfl ?_
 refine ld rfl rfl (lf (j := 0) sc3 (br_get hx) rfl) rfl ?_
 refine clV rfl cal48 rfl rfl (c_rLeft b (some ⟨ba, oa, none⟩) cb hok k x hx x.warm (by omega) _ _) ?_
 refine bg (fun w hs => ⟨trivial, trivial, trivial, trivial⟩) ?_
 refine bsl (out := [_]) rfl sl40 zl3 rfl rfl rfl rfl rfl rfl (fun b22 => ?_)
 refine bg (fun w hs => trivial) ?_
 refine apO (o) rfl ap40 rfl rfl (rowsH (row := [.int .i64 (b.days x x.warm)]) rfl) rfl rfl ((by rw [irows_len, List.length_take, bgL_len]; simp only [List.length_singleton]; omega)) rfl (fun o23 => ?_)
 refine bg (fun w hs => trivial) ?_
 refine tk rfl (PE.assign rfl) rfl ?_
 refine sy_tx' [0, 1, 2] rfl ?_
 refine sp rfl (PE.move rfl) rfl ?_
 refine sp rfl (PE.add rfl rfl (by omega)) rfl ?_
 refine sp rfl (PE.assign rfl) rfl ?_
 exact sy_next ⟨⟨k + 1, by omega⟩, o23.cast (by rw [take_snoc hg]; simp [irows])⟩ (by dsimp only; omega) (by repeat' first | exact Sub.nil | apply Sub.cons | rfl | (simp [lk]; omega)) (fun w h => h.del b22)
 try simp only [decide_eq_true_eq, decide_eq_false_iff_not, Bool.and_eq_true, Bool.or_eq_true, Bool.not_eq_true', Int.not_le, Int.not_lt] at hc0
 obtain rfl : k = b.bins.length := by omega
 obtain ⟨ax, cx, he, hf⟩ := o.freeze
 rw [he, irows_len, List.length_take, bgL_len, Nat.min_self]
 refine Sy.heap (fun w h => hf h) ?_
 clear he hf
 rw [show (bgL b).take b.bins.length = bgL b from List.take_of_length_le (by rw [bgL_len]; exact Nat.le_refl _)]
 refine sy_exit ?_
 repeat refine sy_tx ?_
 refine sy_bx ?_
 refine sy_seq ?_
 refine sy_tx' [0, 1] rfl ?_
 refine sp rfl (PE.move rfl) rfl ?_
 refine sp rfl (PE.assign rfl) rfl ?_
 refine sy_ret ?_
 exact sy_return (vs := [_]) rfl (.cons (RV.tmp rfl) .nil) rfl ⟨ax, cx, rfl, rfl, rfl⟩ (fun w h => h.del b1)
theorem c_rMany (b : Barn) (ab : Option Addr) (cb : Nat) (hok : b.ok) (H : Heap) (R : Facts) [hB : MemRows ab 4 (brows b.bins) R] :
    FnV Try.prog 83 [b.v (b.sl ab cb)] H R (.int .i64 (b.dsk.nst : Int)) := by
 have hmn := hok.many
 have hdk := b.dsk_ok hok
 refine fn_of Try.func83 rfl Try.ntmps83 rfl ?_
 refine sy_seq ?_
 refine sy_tx' [0, 1] rfl ?_
 refine bx rfl rfl rfl (fun b1 => ?_)
 refine sp rfl (PE.assign rfl) rfl ?_
 refine sy_seq ?_
 refine sy_tx' [0] rfl ?_
 refine sp rfl (PE.assign rfl) rfl ?_
 refine sy_seq ?_
 refine sy_seq ?_
 refine sy_tx' [0] rfl ?_
 refine sp rfl (PE.assign rfl) rfl ?_
 refine sy_block ?_
 refine sy_loop (ι := {k : Nat // k ≤ b.bins.length}) (fun k => ⟨[(1, .pointer (some ⟨b1, 0, none⟩)), (3, .int .i64 (prd (b.dsk.zs.take k.1) : Nat)), (4, .int .i64 k.1)], (b1, cel 33 (btl b (b.sl ab cb))) :: H, R⟩) (fun k => b.bins.length - k.1) ⟨0, by omega⟩ ?_ (fun k => ?_)
 exact sy_at (by repeat' first | exact Sub.nil | apply Sub.cons | rfl | (simp [lk]; omega)) (fun _ h => h)
 obtain ⟨k, hk⟩ := k
 dsimp only at hk ⊢
 have hpb := prd_bd hdk (show k ≤ b.dsk.n from hk)
 refine sy_seq ?_
 refine sy_seq ?_
 refine sy_tx' [0, 1, 2, 3, 4] rfl ?_
 refine sp rfl (PE.move rfl) rfl ?_
 refine sp rfl (PE.fieldAddr fo33_3 rfl) rfl ?_
 refine spL rfl rfl (lh sc31 rfl rfl) rfl ?_
 refine sp rfl (PE.lenSl isl31 rfl) rfl ?_
 refine sp rfl (PE.lss rfl rfl) rfl ?_
 refine sy_cond rfl (fun hc0 => ?_) (fun hc0 => ?_)
 try simp only [decide_eq_true_eq, decide_eq_false_iff_not, Bool.and_eq_true, Bool.or_eq_true, Bool.not_eq_true', Int.not_le, Int.not_lt] at hc0
 obtain ⟨x, hx⟩ : ∃ x, b.bins[k]? = some x := ⟨_, List.getElem?_eq_getElem (by omega)⟩
 have hm := List.mem_of_getElem? hx
 have hh := hok.bins x hm
 have r1 := b.days_range hok hm hh.2.1.1
 have r2 := b.days_range hok hm hok.cool.1
 have hmo : na b.dsk.most k = max (b.days x x.warm) (b.days x b.cool) := na_at (b.map_get hok _ hx)
 have hzk := b.dsk.zs_get hdk (show k < b.dsk.n by show k < b.bins.length; omega)
 rw [hmo] at hzk
 have hpt := prd_take hzk
 have hpb2 := prd_bd hdk (show k + 1 ≤ b.dsk.n by show k + 1 ≤ b.bins.length; omega)
 refine sy_addr (a := ab) (sz := 4) (rows := brows b.bins) (by intro h0; simp [brows] at h0; simp [h0] at hx) (fun ba oa he => ?_)
 subst he
 refine sy_skip ?_
 refine sy_seq ?_
 refine sy_block ?_
 refine sy_seq ?_
 refine sy_draw [0, 0, 0, 4, 0, 28, 60, 124, 255, 0, 0, 2047, 4095, 8191] (.ld 0 (.tk 1 (.tk 2 (.ld 3 (.tk 4 (.tk 5 (.tk 6 (.ld 7 (.ld 9 (.tk 10 (.big 8 (.big 11 (.tk 12 (.tk 13 .done)))))))))))))) mixed (by kernel_rfl) ?_
 refine ld rfl rfl (lhA (btl b (b.sl (some ⟨ba, oa, none⟩) cb)) ag33 rfl rfl rfl) rfl ?_
 refine tk rfl (PE.move rfl) rfl ?_
 refine tk rfl (PE.fieldAddr fo33_3 rfl) rfl ?_
 refine ld rfl rfl (lh sc31 rfl rfl) rfl ?_
 refine tk rfl (PE.move rfl) rfl ?_
 refine tk rfl (PE.indexAddr el31 rfl rfl (by omega) (by omega)) rfl ?_
 refine tk rfl (PE.fieldAddr fo113_0 rfl) rfl ?_
 refine ld rfl rfl (lf (j := 0) sc3 (br_get hx) rfl) rfl ?_
 refine ld rfl rfl (lhA (btl b (b.sl (some ⟨ba, oa, none⟩) cb)) ag33 rfl rfl rfl) rfl ?_
 refine tk rfl (PE.move rfl) rfl ?_
 refine clV rfl cal48 rfl rfl (c_rLeft b (some ⟨ba, oa, none⟩) cb hok k x hx x.warm (by omega) _ _) ?_
 refine bg (fun w hs => ⟨(lhA (btl b (b.sl (some ⟨ba, oa, none⟩) cb)) ag33 rfl rfl rfl) w hs, trivial, trivial, trivial, trivial⟩) ?_
 refine clV rfl cal49 rfl rfl (c_rLasts b (some ⟨ba, oa, none⟩) cb hok k x hx _ _) ?_
 refine bg (fun w hs => ⟨trivial, trivial⟩) ?_
 refine tk rfl (PE.max rfl rfl) rfl ?_
 refine tk rfl (PE.assign rfl) rfl ?_
 refine sy_seq ?_
 refine sy_tx' [0, 1] rfl ?_
 refine sp rfl (PE.move rfl) rfl ?_
 refine sp rfl (PE.neq rfl rfl) rfl ?_
 refine sy_cond rfl (fun hc1 => ?_) (fun hc1 => ?_)
 try simp only [decide_eq_true_eq, decide_eq_false_iff_not, Bool.and_eq_true, Bool.or_eq_true, Bool.not_eq_true', Int.not_le, Int.not_lt] at hc1
 rw [decide_eq_false hc1, cond_false] at hpt
 have hcast : ((prd (b.dsk.zs.take (k + 1)) : Nat) : Int) = (prd (b.dsk.zs.take k) : Nat) * (max (b.days x x.warm) (b.days x b.cool) + 1) := by rw [hpt]; push_cast; rw [Int.toNat_of_nonneg (by omega)]
 refine sy_tx' [0, 1, 2, 3, 4] rfl ?_
 refine sp rfl (PE.move rfl) rfl ?_
 refine sp rfl (PE.move rfl) rfl ?_
 refine sp rfl (PE.add rfl rfl (by omega)) rfl ?_
 refine sp rfl (PE.mul rfl rfl (by rw [← hcast]; omega)) rfl ?_
 refine sp rfl (PE.assign rfl) rfl ?_
 refine sy_tx' [0, 1, 2] rfl ?_
 refine sp rfl (PE.move rfl) rfl ?_
 refine sp rfl (PE.add rfl rfl (by omega)) rfl ?_
 refine sp rfl (PE.assign rfl) rfl ?_
 exact sy_next ⟨k + 1, by omega⟩ (by dsimp only; omega) (by dsimp only; first | (rw [hcast]; exact (by repeat' first | exact Sub.nil | apply Sub.cons | rfl | (simp [lk]; omega))) | (rw [hpt]; exact (by repeat' first | exact Sub.nil | apply Sub.cons | rfl | (simp [lk]; omega)))) (fun _ h => h)
 try simp only [decide_eq_true_eq, decide_eq_false_iff_not, Bool.and_eq_true, Bool.or_eq_true, Bool.not_eq_true', Int.not_le, Int.not_lt] at hc1
 rw [decide_eq_true (show max (b.days x x.warm) (b.days x b.cool) = 1000000 by omega), cond_true, Nat.mul_one] at hpt
 refine sy_skip ?_
 refine sy_tx' [0, 1, 2] rfl ?_
 refine sp rfl (PE.move rfl) rfl ?_
 refine sp rfl (PE.add rfl rfl (by omega)) rfl ?_
 refine sp rfl (PE.assign rfl) rfl ?_
 exact sy_next ⟨k + 1, by omega⟩ (by dsimp only; omega) (by dsimp only; first | (rw [hcast]; exact (by repeat' first | exact Sub.nil | apply Sub.cons | rfl | (simp [lk]; omega))) | (rw [hpt]; exact (by repeat' first | exact Sub.nil | apply Sub.cons | rfl | (simp [lk]; omega)))) (fun _ h => h)
 try simp only [decide_eq_true_eq, decide_eq_false_iff_not, Bool.and_eq_true, Bool.or_eq_true, Bool.not_eq_true', Int.not_le, Int.not_lt] at hc0
 obtain rfl : k = b.bins.length := by omega
 have hfull : prd (b.dsk.zs.take b.bins.length) = b.dsk.nst := by unfold Dsk.nst; rw [List.take_of_length_le (by rw [b.dsk.zs_len hdk]; exact Nat.le_refl _)]
 refine sy_exit ?_
 repeat refine sy_tx ?_
 refine sy_bx ?_
 refine sy_seq ?_
 refine sy_tx' [0, 1] rfl ?_
 refine sp rfl (PE.move rfl) rfl ?_
 refine sp rfl (PE.assign rfl) rfl ?_
 refine sy_ret ?_
 exact sy_return (vs := [_]) rfl (.cons (RV.tmp rfl) .nil) rfl ⟨by rw [← hfull]; rfl, rfl, rfl⟩ (fun w h => h.del b1)
theorem c_rsets (b : Barn) (ab : Option Addr) (cb : Nat) (hmn : b.bins.length ≤ 4) (H : Heap) (R : Facts) :
    FnV Try.prog 85 [b.v (b.sl ab cb)] H R (.int .i64 ((2 ^ b.bins.length : Nat) : Int)) := by
 refine fn_of Try.func85 rfl Try.ntmps85 rfl ?_
 refine sy_seq ?_
 refine sy_tx' [0, 1] rfl ?_
 refine bx rfl rfl rfl (fun b1 => ?_)
 refine sp rfl (PE.assign rfl) rfl ?_
 refine sy_seq ?_
 refine sy_tx' [0] rfl ?_
 refine sp rfl (PE.assign rfl) rfl ?_
 refine sy_seq ?_
 refine sy_seq ?_
 refine sy_tx' [0] rfl ?_
 refine sp rfl (PE.assign rfl) rfl ?_
 refine sy_block ?_
 refine sy_loop (ι := {k : Nat // k ≤ b.bins.length}) (fun k => ⟨[(1, .pointer (some ⟨b1, 0, none⟩)), (3, .int .i64 ((2 ^ k.1 : Nat) : Int)), (4, .int .i64 k.1)], (b1, cel 33 (btl b (b.sl ab cb))) :: H, R⟩) (fun k => b.bins.length - k.1) ⟨0, by omega⟩ ?_ (fun k => ?_)
 exact sy_at (by repeat' first | exact Sub.nil | apply Sub.cons | rfl | (simp [lk]; omega)) (fun _ h => h)
 obtain ⟨k, hk⟩ := k
 dsimp only at hk ⊢
 have hp := pow_le16 (n := k) (by omega)
 have hps : ((2 ^ (k + 1) : Nat) : Int) = 2 * ((2 ^ k : Nat) : Int) := by rw [Nat.pow_succ]; push_cast; omega
 refine sy_seq ?_
 refine sy_seq ?_
 refine sy_tx' [0, 1, 2, 3, 4] rfl ?_
 refine sp rfl (PE.move rfl) rfl ?_
 refine sp rfl (PE.fieldAddr fo33_3 rfl) rfl ?_
 refine spL rfl rfl (lh sc31 rfl rfl) rfl ?_
 refine sp rfl (PE.lenSl isl31 rfl) rfl ?_
 refine sp rfl (PE.lss rfl rfl) rfl ?_
 refine sy_cond rfl (fun hc0 => ?_) (fun hc0 => ?_)
 try simp only [decide_eq_true_eq, decide_eq_false_iff_not, Bool.and_eq_true, Bool.or_eq_true, Bool.not_eq_true', Int.not_le, Int.not_lt] at hc0
 refine sy_skip ?_
 refine sy_seq ?_
 refine sy_block ?_
 refine sy_tx' [0, 1, 2] rfl ?_
 refine sp rfl (PE.move rfl) rfl ?_
 refine sp rfl (PE.mul rfl rfl (by omega)) rfl ?_
 refine sp rfl (PE.assign rfl) rfl ?_
 refine sy_tx' [0, 1, 2] rfl ?_
 refine sp rfl (PE.move rfl) rfl ?_
 refine sp rfl (PE.add rfl rfl (by omega)) rfl ?_
 refine sp rfl (PE.assign rfl) rfl ?_
 exact sy_next ⟨k + 1, by omega⟩ (by dsimp only; omega) (by dsimp only; rw [hps]; exact (by repeat' first | exact Sub.nil | apply Sub.cons | rfl | (simp [lk]; omega))) (fun _ h => h)
 try simp only [decide_eq_true_eq, decide_eq_false_iff_not, Bool.and_eq_true, Bool.or_eq_true, Bool.not_eq_true', Int.not_le, Int.not_lt] at hc0
 obtain rfl : k = b.bins.length := by omega
 refine sy_exit ?_
 repeat refine sy_tx ?_
 refine sy_bx ?_
 refine sy_seq ?_
 refine sy_tx' [0, 1] rfl ?_
 refine sp rfl (PE.move rfl) rfl ?_
 refine sp rfl (PE.assign rfl) rfl ?_
 refine sy_ret ?_
 exact sy_return (vs := [_]) rfl (.cons (RV.tmp rfl) .nil) rfl ⟨rfl, rfl, rfl⟩ (fun w h => h.del b1)
theorem c_rones (u : Nat) (hu : u < 16) (H : Heap) (R : Facts) :
    FnV Try.prog 86 [.int .i64 u] H R (.int .i64 ((bitl 4 u).length : Int)) := by
 refine fn_of Try.func86 rfl Try.ntmps86 rfl ?_
 refine sy_seq ?_
 refine sy_tx' [0] rfl ?_
 refine sp rfl (PE.assign rfl) rfl ?_
 refine sy_seq ?_
 refine sy_tx' [0] rfl ?_
 refine sp rfl (PE.assign rfl) rfl ?_
 refine sy_seq ?_
 refine sy_block ?_
 refine sy_loop (ι := {y : Nat × Nat // y.1 < 16 ∧ y.2 ≤ 4 ∧ y.2 + (bitl 4 y.1).length = (bitl 4 u).length}) (fun y => ⟨[(0, .int .i64 y.1.1), (3, .int .i64 y.1.2)], H, R⟩) (fun y => y.1.1) ⟨(u, 0), hu, by dsimp only; omega, by simp⟩ ?_ (fun y => ?_)
 exact sy_at (by repeat' first | exact Sub.nil | apply Sub.cons | rfl | (simp [lk]; omega)) (fun _ h => h)
 obtain ⟨⟨v, c⟩, hv, hc4, hce⟩ := y
 dsimp only at hv hc4 hce ⊢
 have hst := ones_step v hv
 have h4 := ones_le u
 refine sy_seq ?_
 refine sy_seq ?_
 refine sy_tx' [0, 1] rfl ?_
 refine sp rfl (PE.move rfl) rfl ?_
 refine sp rfl (PE.gtr rfl rfl) rfl ?_
 refine sy_cond rfl (fun hc0 => ?_) (fun hc0 => ?_)
 try simp only [decide_eq_true_eq, decide_eq_false_iff_not, Bool.and_eq_true, Bool.or_eq_true, Bool.not_eq_true', Int.not_le, Int.not_lt] at hc0
 refine sy_skip ?_
 refine sy_block ?_
 refine sy_seq ?_
 refine sy_tx' [0, 1, 2, 3, 4] rfl ?_
 refine sp rfl (PE.move rfl) rfl ?_
 refine sp rfl (PE.move rfl) rfl ?_
 refine sp rfl (PE.rem rfl rfl (by omega)) rfl ?_
 refine sp rfl (PE.add rfl rfl (by omega)) rfl ?_
 refine sp rfl (PE.assign rfl) rfl ?_
 refine sy_tx' [0, 1, 2] rfl ?_
 refine sp rfl (PE.move rfl) rfl ?_
 refine sp rfl (PE.quo rfl rfl (by omega)) rfl ?_
 refine sp rfl (PE.assign rfl) rfl ?_
 exact sy_next ⟨(v / 2, c + v % 2), by dsimp only; omega, by dsimp only; omega, by dsimp only; omega⟩ (by dsimp only; omega) (by dsimp only; push_cast; exact (by repeat' first | exact Sub.nil | apply Sub.cons | rfl | (simp [lk]; omega))) (fun _ h => h)
 try simp only [decide_eq_true_eq, decide_eq_false_iff_not, Bool.and_eq_true, Bool.or_eq_true, Bool.not_eq_true', Int.not_le, Int.not_lt] at hc0
 obtain rfl : v = 0 := by omega
 have hz : (bitl 4 0).length = 0 := rfl
 refine sy_exit ?_
 repeat refine sy_tx ?_
 refine sy_bx ?_
 refine sy_seq ?_
 refine sy_tx' [0, 1] rfl ?_
 refine sp rfl (PE.move rfl) rfl ?_
 refine sp rfl (PE.assign rfl) rfl ?_
 refine sy_ret ?_
 exact sy_return (vs := [_]) rfl (.cons (RV.tmp rfl) .nil) rfl ⟨by rw [show (bitl 4 u).length = c by omega]; rfl, rfl, rfl⟩ (fun _ h => h)
theorem c_rNext (b : Barn) (ab : Option Addr) (cb : Nat) (hok : b.ok) (s : List Int) (aS : Option Addr) (cs : Nat) (hs : s.length = b.bins.length) (hsm : ∀ k < b.bins.length, 0 ≤ na s k ∧ na s k ≤ 1000000) (u : Nat) (hu : u < 16) (H : Heap) (R : Facts) [hB : MemRows ab 4 (brows b.bins) R] [hS : MemRows aS 1 (irows s) R] :
    Fn Try.prog 87 [b.v (b.sl ab cb), .slice aS s.length cs, .int .i64 u] H R (fun v H' R' => H' = H ∧ ((rNx (laL b) s u b.bins.length = none ∧ v = .slice none 0 0 ∧ R' = R) ∨ ∃ (t : List Int) (bo c : Nat), rNx (laL b) s u b.bins.length = some t ∧ v = .slice (some ⟨bo, 0, none⟩) t.length c ∧ R' = RowsA (some ⟨bo, 0, none⟩) 1 (irows t) :: R)) := by
 have hmn := hok.many
 refine fn_of Try.func87 rfl Try.ntmps87 rfl ?_
 refine sy_seq ?_
 refine sy_tx' [0, 1] rfl ?_
 refine bx rfl rfl rfl (fun b3 => ?_)
 refine sp rfl (PE.assign rfl) rfl ?_
 refine sy_seq ?_
 refine sy_tx' [0] rfl ?_
 refine sp rfl (PE.assign rfl) rfl ?_
 refine sy_seq ?_
 refine sy_seq ?_
 refine sy_tx' [0] rfl ?_
 refine sp rfl (PE.assign rfl) rfl ?_
 refine sy_block ?_
 refine sy_loop (ι := (y : {y : Nat × List Int // y.1 ≤ b.bins.length ∧ rNx (laL b) s u y.1 = some y.2}) × OSl 3 1 (irows y.1.2)) (fun y => ⟨[(1, .slice aS s.length cs), (2, .int .i64 ((u / 2 ^ y.1.1.1 : Nat) : Int)), (3, .pointer (some ⟨b3, 0, none⟩)), (7, y.2.fs), (8, .int .i64 y.1.1.1)], y.2.G ++ (b3, cel 33 (btl b (b.sl ab cb))) :: H, R⟩) (fun y => b.bins.length - y.1.1.1) ⟨⟨(0, []), Nat.zero_le _, rfl⟩, OSl.nil _ _⟩ ?_ (fun y => ?_)
 exact sy_at (by dsimp only; rw [Nat.pow_zero, Nat.div_one]; exact (by repeat' first | exact Sub.nil | apply Sub.cons | rfl | (simp [lk]; omega))) (fun _ h => h)
 obtain ⟨⟨⟨k, t⟩, hk, ht⟩, o⟩ := y
 dsimp only at hk ht o ⊢
 have htl := rNx_len ht
 have hdu : u / 2 ^ k < 16 := Nat.lt_of_le_of_lt (Nat.div_le_self _ _) hu
 generalize hv : u / 2 ^ k = v at hdu ⊢
 refine sy_seq ?_
 refine sy_seq ?_
 refine sy_tx' [0, 1, 2, 3] rfl ?_
 refine sp rfl (PE.move rfl) rfl ?_
 refine sp rfl (PE.move rfl) rfl ?_
 refine sp rfl (PE.lenSl isl40 rfl) rfl ?_
 refine sp rfl (PE.lss rfl rfl) rfl ?_
 refine sy_cond rfl (fun hc0 => ?_) (fun hc0 => ?_)
 try simp only [decide_eq_true_eq, decide_eq_false_iff_not, Bool.and_eq_true, Bool.or_eq_true, Bool.not_eq_true', Int.not_le, Int.not_lt] at hc0
 obtain ⟨x, hx⟩ : ∃ x, b.bins[k]? = some x := ⟨_, List.getElem?_eq_getElem (by omega)⟩
 have hm := List.mem_of_getElem? hx
 have hh := hok.bins x hm
 have hsk := hsm k (by omega)
 have r2 := b.days_range hok hm hok.cool.1
 have hlk := laL_at hx
 have hsg : s[k]? = some (na s k) := na_get (by omega)
 refine sy_addr (a := aS) (sz := 1) (rows := irows s) (by intro h0; have := congrArg List.length h0; rw [irows_len] at this; simp only [List.length_nil] at this; omega) (fun bs os he => ?_)
 subst he
 refine sy_skip ?_
 refine sy_seq ?_
 refine sy_block ?_
 refine sy_seq ?_
 refine sy_tx' [0, 1, 2, 3, 4] rfl ?_
 refine sp rfl (PE.move rfl) rfl ?_
 refine sp rfl (PE.move rfl) rfl ?_
 refine sp rfl (PE.indexAddr el40 rfl rfl (by omega) (by omega)) rfl ?_
 refine spL rfl rfl (lf0 sc3 (ir_get hsg) rfl) rfl ?_
 refine sp rfl (PE.assign rfl) rfl ?_
 refine sy_seq ?_
 refine sy_seq ?_
 refine sy_tx' [0, 1, 2] rfl ?_
 refine sp rfl (PE.move rfl) rfl ?_
 refine sp rfl (PE.rem rfl rfl (by omega)) rfl ?_
 refine sp rfl (PE.eql rfl rfl) rfl ?_
 refine sy_cond rfl (fun hc1 => ?_) (fun hc1 => ?_)
 try simp only [decide_eq_true_eq, decide_eq_false_iff_not, Bool.and_eq_true, Bool.or_eq_true, Bool.not_eq_true', Int.not_le, Int.not_lt] at hc1
 have hmd : rmid (laL b) s u k = max (na s k) (b.days x b.cool) := by rw [rmid_yes (by rw [hv]; omega), hlk]
 refine sy_tx' [0, 1, 2, 3, 4, 5] rfl ?_
 refine sp rfl (PE.move rfl) rfl ?_
 refine spL rfl rfl (lhA (btl b (b.sl ab cb)) ag33 rfl rfl rfl) rfl ?_
 refine sp rfl (PE.move rfl) rfl ?_
 refine clV rfl cal49 rfl rfl (c_rLasts b ab cb hok k x hx _ _) ?_
 refine sp rfl (PE.max rfl rfl) rfl ?_
 refine sp rfl (PE.assign rfl) rfl ?_
 refine sy_seq ?_
 refine sy_tx' [0, 1, 2] rfl ?_
 rw [← hmd]
 have hmr : 0 ≤ rmid (laL b) s u k ∧ rmid (laL b) s u k ≤ 1000000 := by omega
 clear hmd
 refine sp rfl (PE.move rfl) rfl ?_
 refine sp rfl (PE.quo rfl rfl (by omega)) rfl ?_
 refine sp rfl (PE.assign rfl) rfl ?_
 refine sy_seq ?_
 refine sy_seq ?_
 refine sy_tx' [0, 1] rfl ?_
 refine sp rfl (PE.move rfl) rfl ?_
 refine sp rfl (PE.neq rfl rfl) rfl ?_
 refine sy_cond rfl (fun hc2 => ?_) (fun hc2 => ?_)
 try simp only [decide_eq_true_eq, decide_eq_false_iff_not, Bool.and_eq_true, Bool.or_eq_true, Bool.not_eq_true', Int.not_le, Int.not_lt] at hc2
 have hnm : rnum (rmid (laL b) s u k) = rmid (laL b) s u k - 1 := by unfold rnum; rw [decide_eq_false hc2]; rfl
 refine sy_tx' [0, 1, 2] rfl ?_
 refine sp rfl (PE.move rfl) rfl ?_
 refine sp rfl (PE.sub rfl rfl (by omega)) rfl ?_
 refine sp rfl (PE.assign rfl) rfl ?_
 refine sy_seq ?_
 refine sy_seq ?_
 refine sy_tx' [0, 1] rfl ?_
 rw [← hnm]
 have hnr : -1 ≤ rnum (rmid (laL b) s u k) ∧ rnum (rmid (laL b) s u k) ≤ 1000000 := by omega
 clear hnm
 refine sp rfl (PE.move rfl) rfl ?_
 refine sp rfl (PE.lss rfl rfl) rfl ?_
 refine sy_cond rfl (fun hc3 => ?_) (fun hc3 => ?_)
 try simp only [decide_eq_true_eq, decide_eq_false_iff_not, Bool.and_eq_true, Bool.or_eq_true, Bool.not_eq_true', Int.not_le, Int.not_lt] at hc3
 refine sy_seq ?_
 refine sy_tx' [0] rfl ?_
 refine sp rfl (PE.assign rfl) rfl ?_
 refine sy_ret ?_
 exact sy_return (vs := [_]) rfl (.cons (RV.tmp rfl) .nil) rfl ⟨rfl, .inl ⟨rNx_bad (by omega) ht hc3, rfl, rfl⟩⟩ (fun w h => (St.drop h).del b3)
 try simp only [decide_eq_true_eq, decide_eq_false_iff_not, Bool.and_eq_true, Bool.or_eq_true, Bool.not_eq_true', Int.not_le, Int.not_lt] at hc3
 have htn := rNx_good ht (Int.not_lt.2 hc3)
 refine sy_skip ?_
 refine sy_tx' [0, 1, 2, 3, 4] rfl ?_
 refine sp rfl (PE.move rfl) rfl ?_
 refine sp rfl (PE.move rfl) rfl ?_
 refine bsl (out := [_]) rfl sl40 zl3 rfl rfl rfl rfl rfl rfl (fun b38 => ?_)
 refine apO (o) rfl ap40 rfl rfl (rowsH (row := [.int .i64 (rnum (rmid (laL b) s u k))]) rfl) rfl rfl ((by rw [irows_len]; simp only [List.length_singleton]; omega)) rfl (fun o39 => ?_)
 refine sp rfl (PE.assign rfl) rfl ?_
 refine sy_tx' [0, 1, 2] rfl ?_
 refine sp rfl (PE.move rfl) rfl ?_
 refine sp rfl (PE.add rfl rfl (by omega)) rfl ?_
 refine sp rfl (PE.assign rfl) rfl ?_
 exact sy_next ⟨⟨(k + 1, t ++ [rnum (rmid (laL b) s u k)]), by dsimp only; omega, htn⟩, o39.cast (by simp [irows])⟩ (by dsimp only; omega) (by dsimp only; rw [show u / 2 ^ (k + 1) = v / 2 by rw [Nat.pow_succ, ← Nat.div_div_eq_div_mul, hv]]; exact (by repeat' first | exact Sub.nil | apply Sub.cons | rfl | (simp [lk]; omega))) (fun w h => h.del b38)
 try simp only [decide_eq_true_eq, decide_eq_false_iff_not, Bool.and_eq_true, Bool.or_eq_true, Bool.not_eq_true', Int.not_le, Int.not_lt] at hc2
 have hnm : rnum (rmid (laL b) s u k) = rmid (laL b) s u k := by unfold rnum; rw [decide_eq_true (show rmid (laL b) s u k = 1000000 by omega)]; rfl
 refine sy_skip ?_
 refine sy_seq ?_
 refine sy_seq ?_
 refine sy_tx' [0, 1] rfl ?_
 rw [← hnm]
 have hnr : -1 ≤ rnum (rmid (laL b) s u k) ∧ rnum (rmid (laL b) s u k) ≤ 1000000 := by omega
 clear hnm
 refine sp rfl (PE.move rfl) rfl ?_
 refine sp rfl (PE.lss rfl rfl) rfl ?_
 refine sy_cond rfl (fun hc3 => ?_) (fun hc3 => ?_)
 try simp only [decide_eq_true_eq, decide_eq_false_iff_not, Bool.and_eq_true, Bool.or_eq_true, Bool.not_eq_true', Int.not_le, Int.not_lt] at hc3
 refine sy_seq ?_
 refine sy_tx' [0] rfl ?_
 refine sp rfl (PE.assign rfl) rfl ?_
 refine sy_ret ?_
 exact sy_return (vs := [_]) rfl (.cons (RV.tmp rfl) .nil) rfl ⟨rfl, .inl ⟨rNx_bad (by omega) ht hc3, rfl, rfl⟩⟩ (fun w h => (St.drop h).del b3)
 try simp only [decide_eq_true_eq, decide_eq_false_iff_not, Bool.and_eq_true, Bool.or_eq_true, Bool.not_eq_true', Int.not_le, Int.not_lt] at hc3
 have htn := rNx_good ht (Int.not_lt.2 hc3)
 refine sy_skip ?_
 refine sy_tx' [0, 1, 2, 3, 4] rfl ?_
 refine sp rfl (PE.move rfl) rfl ?_
 refine sp rfl (PE.move rfl) rfl ?_
 refine bsl (out := [_]) rfl sl40 zl3 rfl rfl rfl rfl rfl rfl (fun b38 => ?_)
 refine apO (o) rfl ap40 rfl rfl (rowsH (row := [.int .i64 (rnum (rmid (laL b) s u k))]) rfl) rfl rfl ((by rw [irows_len]; simp only [List.length_singleton]; omega)) rfl (fun o39 => ?_)
 refine sp rfl (PE.assign rfl) rfl ?_
 refine sy_tx' [0, 1, 2] rfl ?_
 refine sp rfl (PE.move rfl) rfl ?_
 refine sp rfl (PE.add rfl rfl (by omega)) rfl ?_
 refine sp rfl (PE.assign rfl) rfl ?_
 exact sy_next ⟨⟨(k + 1, t ++ [rnum (rmid (laL b) s u k)]), by dsimp only; omega, htn⟩, o39.cast (by simp [irows])⟩ (by dsimp only; omega) (by dsimp only; rw [show u / 2 ^ (k + 1) = v / 2 by rw [Nat.pow_succ, ← Nat.div_div_eq_div_mul, hv]]; exact (by repeat' first | exact Sub.nil | apply Sub.cons | rfl | (simp [lk]; omega))) (fun w h => h.del b38)
 try simp only [decide_eq_true_eq, decide_eq_false_iff_not, Bool.and_eq_true, Bool.or_eq_true, Bool.not_eq_true', Int.not_le, Int.not_lt] at hc1
 have hmd : rmid (laL b) s u k = na s k := rmid_no (by rw [hv]; omega)
 refine sy_skip ?_
 refine sy_seq ?_
 refine sy_tx' [0, 1, 2] rfl ?_
 rw [← hmd]
 have hmr : 0 ≤ rmid (laL b) s u k ∧ rmid (laL b) s u k ≤ 1000000 := by omega
 clear hmd
 refine sp rfl (PE.move rfl) rfl ?_
 refine sp rfl (PE.quo rfl rfl (by omega)) rfl ?_
 refine sp rfl (PE.assign rfl) rfl ?_
 refine sy_seq ?_
 refine sy_seq ?_
 refine sy_tx' [0, 1] rfl ?_
 refine sp rfl (PE.move rfl) rfl ?_
 refine sp rfl (PE.neq rfl rfl) rfl ?_
 refine sy_cond rfl (fun hc2 => ?_) (fun hc2 => ?_)
 try simp only [decide_eq_true_eq, decide_eq_false_iff_not, Bool.and_eq_true, Bool.or_eq_true, Bool.not_eq_true', Int.not_le, Int.not_lt] at hc2
 have hnm : rnum (rmid (laL b) s u k) = rmid (laL b) s u k - 1 := by unfold rnum; rw [decide_eq_false hc2]; rfl
 refine sy_tx' [0, 1, 2] rfl ?_
 refine sp rfl (PE.move rfl) rfl ?_
 refine sp rfl (PE.sub rfl rfl (by omega)) rfl ?_
 refine sp rfl (PE.assign rfl) rfl ?_
 refine sy_seq ?_
 refine sy_seq ?_
 refine sy_tx' [0, 1] rfl ?_
 rw [← hnm]
 have hnr : -1 ≤ rnum (rmid (laL b) s u k) ∧ rnum (rmid (laL b) s u k) ≤ 1000000 := by omega
 clear hnm
 refine sp rfl (PE.move rfl) rfl ?_
 refine sp rfl (PE.lss rfl rfl) rfl ?_
 refine sy_cond rfl (fun hc3 => ?_) (fun hc3 => ?_)
 try simp only [decide_eq_true_eq, decide_eq_false_iff_not, Bool.and_eq_true, Bool.or_eq_true, Bool.not_eq_true', Int.not_le, Int.not_lt] at hc3
 refine sy_seq ?_
 refine sy_tx' [0] rfl ?_
 refine sp rfl (PE.assign rfl) rfl ?_
 refine sy_ret ?_
 exact sy_return (vs := [_]) rfl (.cons (RV.tmp rfl) .nil) rfl ⟨rfl, .inl ⟨rNx_bad (by omega) ht hc3, rfl, rfl⟩⟩ (fun w h => (St.drop h).del b3)
 try simp only [decide_eq_true_eq, decide_eq_false_iff_not, Bool.and_eq_true, Bool.or_eq_true, Bool.not_eq_true', Int.not_le, Int.not_lt] at hc3
 have htn := rNx_good ht (Int.not_lt.2 hc3)
 refine sy_skip ?_
 refine sy_tx' [0, 1, 2, 3, 4] rfl ?_
 refine sp rfl (PE.move rfl) rfl ?_
 refine sp rfl (PE.move rfl) rfl ?_
 refine bsl (out := [_]) rfl sl40 zl3 rfl rfl rfl rfl rfl rfl (fun b38 => ?_)
 refine apO (o) rfl ap40 rfl rfl (rowsH (row := [.int .i64 (rnum (rmid (laL b) s u k))]) rfl) rfl rfl ((by rw [irows_len]; simp only [List.length_singleton]; omega)) rfl (fun o39 => ?_)
 refine sp rfl (PE.assign rfl) rfl ?_
 refine sy_tx' [0, 1, 2] rfl ?_
 refine sp rfl (PE.move rfl) rfl ?_
 refine sp rfl (PE.add rfl rfl (by omega)) rfl ?_
 refine sp rfl (PE.assign rfl) rfl ?_
 exact sy_next ⟨⟨(k + 1, t ++ [rnum (rmid (laL b) s u k)]), by dsimp only; omega, htn⟩, o39.cast (by simp [irows])⟩ (by dsimp only; omega) (by dsimp only; rw [show u / 2 ^ (k + 1) = v / 2 by rw [Nat.pow_succ, ← Nat.div_div_eq_div_mul, hv]]; exact (by repeat' first | exact Sub.nil | apply Sub.cons | rfl | (simp [lk]; omega))) (fun w h => h.del b38)
 try simp only [decide_eq_true_eq, decide_eq_false_iff_not, Bool.and_eq_true, Bool.or_eq_true, Bool.not_eq_true', Int.not_le, Int.not_lt] at hc2
 have hnm : rnum (rmid (laL b) s u k) = rmid (laL b) s u k := by unfold rnum; rw [decide_eq_true (show rmid (laL b) s u k = 1000000 by omega)]; rfl
 refine sy_skip ?_
 refine sy_seq ?_
 refine sy_seq ?_
 refine sy_tx' [0, 1] rfl ?_
 rw [← hnm]
 have hnr : -1 ≤ rnum (rmid (laL b) s u k) ∧ rnum (rmid (laL b) s u k) ≤ 1000000 := by omega
 clear hnm
 refine sp rfl (PE.move rfl) rfl ?_
 refine sp rfl (PE.lss rfl rfl) rfl ?_
 refine sy_cond rfl (fun hc3 => ?_) (fun hc3 => ?_)
 try simp only [decide_eq_true_eq, decide_eq_false_iff_not, Bool.and_eq_true, Bool.or_eq_true, Bool.not_eq_true', Int.not_le, Int.not_lt] at hc3
 refine sy_seq ?_
 refine sy_tx' [0] rfl ?_
 refine sp rfl (PE.assign rfl) rfl ?_
 refine sy_ret ?_
 exact sy_return (vs := [_]) rfl (.cons (RV.tmp rfl) .nil) rfl ⟨rfl, .inl ⟨rNx_bad (by omega) ht hc3, rfl, rfl⟩⟩ (fun w h => (St.drop h).del b3)
 try simp only [decide_eq_true_eq, decide_eq_false_iff_not, Bool.and_eq_true, Bool.or_eq_true, Bool.not_eq_true', Int.not_le, Int.not_lt] at hc3
 have htn := rNx_good ht (Int.not_lt.2 hc3)
 refine sy_skip ?_
 refine sy_tx' [0, 1, 2, 3, 4] rfl ?_
 refine sp rfl (PE.move rfl) rfl ?_
 refine sp rfl (PE.move rfl) rfl ?_
 refine bsl (out := [_]) rfl sl40 zl3 rfl rfl rfl rfl rfl rfl (fun b38 => ?_)
 refine apO (o) rfl ap40 rfl rfl (rowsH (row := [.int .i64 (rnum (rmid (laL b) s u k))]) rfl) rfl rfl ((by rw [irows_len]; simp only [List.length_singleton]; omega)) rfl (fun o39 => ?_)
 refine sp rfl (PE.assign rfl) rfl ?_
 refine sy_tx' [0, 1, 2] rfl ?_
 refine sp rfl (PE.move rfl) rfl ?_
 refine sp rfl (PE.add rfl rfl (by omega)) rfl ?_
 refine sp rfl (PE.assign rfl) rfl ?_
 exact sy_next ⟨⟨(k + 1, t ++ [rnum (rmid (laL b) s u k)]), by dsimp only; omega, htn⟩, o39.cast (by simp [irows])⟩ (by dsimp only; omega) (by dsimp only; rw [show u / 2 ^ (k + 1) = v / 2 by rw [Nat.pow_succ, ← Nat.div_div_eq_div_mul, hv]]; exact (by repeat' first | exact Sub.nil | apply Sub.cons | rfl | (simp [lk]; omega))) (fun w h => h.del b38)
 try simp only [decide_eq_true_eq, decide_eq_false_iff_not, Bool.and_eq_true, Bool.or_eq_true, Bool.not_eq_true', Int.not_le, Int.not_lt] at hc0
 obtain rfl : k = b.bins.length := by omega
 obtain ⟨bo, cap, junk, hfs, hGG, hjk, hcap, hmx⟩ := o.is.resolve_left (fun h => by have := congrArg List.length h.1; rw [irows_len] at this; simp only [List.length_nil] at this; omega)
 rw [irows_len] at hfs hjk hcap
 rw [hfs]
 refine Sy.heap (H' := (b3, cel 33 (btl b (b.sl ab cb))) :: H) (fun w h => St.blkRows (irows_one t) (by rw [hGG] at h; exact h)) ?_
 refine sy_exit ?_
 repeat refine sy_tx ?_
 refine sy_bx ?_
 refine sy_seq ?_
 refine sy_tx' [0, 1] rfl ?_
 refine sp rfl (PE.move rfl) rfl ?_
 refine sp rfl (PE.assign rfl) rfl ?_
 refine sy_ret ?_
 exact sy_return (vs := [_]) rfl (.cons (RV.tmp rfl) .nil) rfl ⟨rfl, .inr ⟨t, bo, cap, ht, rfl, rfl⟩⟩ (fun w h => h.del b3)
theorem c_rplace (pl : List PL) (ap : Option Addr) (cp : Nat) (hpl : pl.length ≤ 9223372036854775807) (s : List Int) (aS : Option Addr) (cs : Nat) (hsl : s.length ≤ 9223372036854775807) (hall : ∀ x ∈ pl, x.l.length = s.length) (H : Heap) (R : Facts) [hP : MemRows ap 1 (plrows pl) R] [hI : MemF (Inn pl) R] [hS : MemRows aS 1 (irows s) R] :
    FnV Try.prog 88 [.slice ap pl.length cp, .slice aS s.length cs] H R (.int .i64 (plcV (lls pl) s)) := by
 refine fn_of Try.func88 rfl Try.ntmps88 rfl ?_
 refine sy_seq ?_
 refine sy_tx' [0] rfl ?_
 refine sp rfl (PE.assign rfl) rfl ?_
 refine sy_seq ?_
 refine sy_seq ?_
 refine sy_tx' [0] rfl ?_
 refine sp rfl (PE.assign rfl) rfl ?_
 refine sy_block ?_
 refine sy_loop (ι := {k : Nat // k ≤ pl.length ∧ ∀ y ∈ (lls pl).take k, y ≠ s}) (fun k => ⟨[(0, .slice ap pl.length cp), (1, .slice aS s.length cs), (5, .int .i64 k.1)], H, R⟩) (fun k => pl.length - k.1) ⟨0, Nat.zero_le _, by simp⟩ ?_ (fun k => ?_)
 exact sy_at (by repeat' first | exact Sub.nil | apply Sub.cons | rfl | (simp [lk]; omega)) (fun _ h => h)
 obtain ⟨k, hk, hin⟩ := k
 dsimp only at hk hin ⊢
 refine sy_seq ?_
 refine sy_seq ?_
 refine sy_tx' [0, 1, 2, 3] rfl ?_
 refine sp rfl (PE.move rfl) rfl ?_
 refine sp rfl (PE.move rfl) rfl ?_
 refine sp rfl (PE.lenSl isl26 rfl) rfl ?_
 refine sp rfl (PE.lss rfl rfl) rfl ?_
 refine sy_cond rfl (fun hc0 => ?_) (fun hc0 => ?_)
 try simp only [decide_eq_true_eq, decide_eq_false_iff_not, Bool.and_eq_true, Bool.or_eq_true, Bool.not_eq_true', Int.not_le, Int.not_lt] at hc0
 obtain ⟨x, hx⟩ : ∃ x, pl[k]? = some x := ⟨_, List.getElem?_eq_getElem (by omega)⟩
 have hxm := List.mem_of_getElem? hx
 have hxl := hall x hxm
 refine sy_addr (a := ap) (sz := 1) (rows := plrows pl) (by intro h0; have := congrArg List.length h0; rw [plrows_len] at this; simp only [List.length_nil] at this; omega) (fun ba oa he => ?_)
 subst he
 refine Sy.heap (fun w h => St.inn (x := x) h hxm) ?_
 refine sy_skip ?_
 refine sy_seq ?_
 refine sy_block ?_
 refine sy_seq ?_
 refine sy_tx' [0] rfl ?_
 refine sp rfl (PE.assign rfl) rfl ?_
 refine sy_seq ?_
 refine sy_seq ?_
 refine sy_tx' [0] rfl ?_
 refine sp rfl (PE.assign rfl) rfl ?_
 refine sy_block ?_
 refine sy_loop (ι := {i : Nat // i ≤ s.length}) (fun i => ⟨[(0, .slice (some ⟨ba, oa, none⟩) pl.length cp), (1, .slice aS s.length cs), (5, .int .i64 k), (6, .bool (decide (x.l.take i.1 = s.take i.1))), (7, .int .i64 i.1)], H, RowsA x.a 1 (irows x.l) :: R⟩) (fun i => s.length - i.1) ⟨0, Nat.zero_le _⟩ ?_ (fun i => ?_)
 exact sy_at (by repeat' first | exact Sub.nil | apply Sub.cons | rfl | (simp [lk]; omega)) (fun _ h => h)
 obtain ⟨i, hi⟩ := i
 dsimp only at hi ⊢
 refine sy_seq ?_
 refine sy_seq ?_
 refine sy_tx' [0, 1, 2, 3] rfl ?_
 refine sp rfl (PE.move rfl) rfl ?_
 refine sp rfl (PE.move rfl) rfl ?_
 refine sp rfl (PE.lenSl isl40 rfl) rfl ?_
 refine sp rfl (PE.lss rfl rfl) rfl ?_
 refine sy_cond rfl (fun hc1 => ?_) (fun hc1 => ?_)
 try simp only [decide_eq_true_eq, decide_eq_false_iff_not, Bool.and_eq_true, Bool.or_eq_true, Bool.not_eq_true', Int.not_le, Int.not_lt] at hc1
 obtain ⟨u, hu⟩ : ∃ u, x.l[i]? = some u := ⟨_, List.getElem?_eq_getElem (by omega)⟩
 obtain ⟨v, hv⟩ : ∃ v, s[i]? = some v := ⟨_, List.getElem?_eq_getElem (by omega)⟩
 have htk := take_eq2 hu hv
 refine sy_addr (a := x.a) (sz := 1) (rows := irows x.l) (by intro h0; have := congrArg List.length h0; rw [irows_len] at this; simp only [List.length_nil] at this; omega) (fun bx ox he => ?_)
 rw [he]
 refine sy_addr (a := aS) (sz := 1) (rows := irows s) (by intro h0; have := congrArg List.length h0; rw [irows_len] at this; simp only [List.length_nil] at this; omega) (fun bs os he2 => ?_)
 subst he2
 refine sy_skip ?_
 refine sy_seq ?_
 refine sy_block ?_
 refine sy_draw [0, 1, 3, 3, 15, 31, 3, 127, 255, 3, 3, 1539, 3587, 8191, 16383, 32767] (.tk 0 (.tk 1 (.tk 2 (.tk 3 (.tk 4 (.ld 5 (.tk 6 (.tk 7 (.ld 8 (.tk 9 (.tk 10 (.tk 11 (.ld 12 (.tk 13 (.tk 14 (.tk 15 .done)))))))))))))))) mixed (by kernel_rfl) ?_
 refine tk rfl (PE.move rfl) rfl ?_
 refine tk rfl (PE.move rfl) rfl ?_
 refine sy_case (t := 21) rfl (fun g21 => ?_) (fun g21 => ?_)
 try simp only [decide_eq_true_eq, decide_eq_false_iff_not, Bool.and_eq_true, Bool.or_eq_true, Bool.not_eq_true', Int.not_le, Int.not_lt] at g21
 rw [decide_eq_true g21, Bool.true_and] at htk
 refine tkG rfl rfl rfl rfl (PE.move rfl) rfl ?_
 refine tkG rfl rfl rfl rfl (PE.move rfl) rfl ?_
 refine tkG rfl rfl rfl rfl (PE.indexAddr el26 rfl rfl (by omega) (by omega)) rfl ?_
 refine ldG rfl rfl rfl rfl rfl (lf0 (row := [.slice (some ⟨bx, ox, none⟩) x.l.length x.c]) sc40 (by refine (pl_get hx).trans ?_; unfold plrow; rw [he]) rfl) rfl ?_
 refine tkG rfl rfl rfl rfl (PE.move rfl) rfl ?_
 refine tkG rfl rfl rfl rfl (PE.indexAddr el40 rfl rfl (by omega) (by omega)) rfl ?_
 refine ldG rfl rfl rfl rfl rfl (lf0 sc3 (ir_get hu) rfl) rfl ?_
 refine tkG rfl rfl rfl rfl (PE.move rfl) rfl ?_
 refine tkG rfl rfl rfl rfl (PE.move rfl) rfl ?_
 refine tkG rfl rfl rfl rfl (PE.indexAddr el40 rfl rfl (by omega) (by omega)) rfl ?_
 refine ldG rfl rfl rfl rfl rfl (lf0 sc3 (ir_get hv) rfl) rfl ?_
 refine tkG rfl rfl rfl rfl (PE.eql rfl rfl) rfl ?_
 refine tk rfl (PE.pick rfl rfl rfl) rfl ?_
 refine tk rfl (PE.assign rfl) rfl ?_
 refine sy_tx' [0, 1, 2] rfl ?_
 refine sp rfl (PE.move rfl) rfl ?_
 refine sp rfl (PE.add rfl rfl (by omega)) rfl ?_
 refine sp rfl (PE.assign rfl) rfl ?_
 exact sy_next ⟨i + 1, by omega⟩ (by dsimp only; omega) (by dsimp only; rw [htk]; exact (by repeat' first | exact Sub.nil | apply Sub.cons | rfl | (simp [lk]; omega))) (fun _ h => h)
 try simp only [decide_eq_true_eq, decide_eq_false_iff_not, Bool.and_eq_true, Bool.or_eq_true, Bool.not_eq_true', Int.not_le, Int.not_lt] at g21
 rw [decide_eq_false g21, Bool.false_and] at htk
 repeat refine tkN rfl rfl rfl rfl rfl rfl rfl rfl ?_
 refine ldN rfl rfl rfl rfl rfl rfl rfl rfl ?_
 repeat refine tkN rfl rfl rfl rfl rfl rfl rfl rfl ?_
 refine ldN rfl rfl rfl rfl rfl rfl rfl rfl ?_
 repeat refine tkN rfl rfl rfl rfl rfl rfl rfl rfl ?_
 refine ldN rfl rfl rfl rfl rfl rfl rfl rfl ?_
 refine tkN rfl rfl rfl rfl rfl rfl rfl rfl ?_
 refine tk rfl (PE.pick rfl rfl rfl) rfl ?_
 refine tk rfl (PE.assign rfl) rfl ?_
 refine sy_tx' [0, 1, 2] rfl ?_
 refine sp rfl (PE.move rfl) rfl ?_
 refine sp rfl (PE.add rfl rfl (by omega)) rfl ?_
 refine sp rfl (PE.assign rfl) rfl ?_
 exact sy_next ⟨i + 1, by omega⟩ (by dsimp only; omega) (by dsimp only; rw [htk]; exact (by repeat' first | exact Sub.nil | apply Sub.cons | rfl | (simp [lk]; omega))) (fun _ h => h)
 try simp only [decide_eq_true_eq, decide_eq_false_iff_not, Bool.and_eq_true, Bool.or_eq_true, Bool.not_eq_true', Int.not_le, Int.not_lt] at hc1
 obtain rfl : i = s.length := by omega
 rw [List.take_length, List.take_of_length_le (by omega)]
 refine sy_exit ?_
 repeat refine sy_tx ?_
 refine sy_bx ?_
 refine sy_seq ?_
 refine sy_tx' [0] rfl ?_
 refine sp rfl (PE.move rfl) rfl ?_
 refine sy_cond rfl (fun hc2 => ?_) (fun hc2 => ?_)
 try simp only [decide_eq_true_eq, decide_eq_false_iff_not, Bool.and_eq_true, Bool.or_eq_true, Bool.not_eq_true', Int.not_le, Int.not_lt] at hc2
 have hans : plcV (lls pl) s = k := plc_at hin (lls_get hx) hc2
 refine sy_seq ?_
 refine sy_tx' [0, 1] rfl ?_
 refine sp rfl (PE.move rfl) rfl ?_
 refine sp rfl (PE.assign rfl) rfl ?_
 refine sy_ret ?_
 exact sy_return (vs := [_]) rfl (.cons (RV.tmp rfl) .nil) rfl ⟨by rw [hans]; rfl, rfl, rfl⟩ drp
 try simp only [decide_eq_true_eq, decide_eq_false_iff_not, Bool.and_eq_true, Bool.or_eq_true, Bool.not_eq_true', Int.not_le, Int.not_lt] at hc2
 refine sy_skip ?_
 refine sy_tx' [0, 1, 2] rfl ?_
 refine sp rfl (PE.move rfl) rfl ?_
 refine sp rfl (PE.add rfl rfl (by omega)) rfl ?_
 refine sp rfl (PE.assign rfl) rfl ?_
 exact sy_next ⟨k + 1, by omega, fun y hy => by
   rw [take_snoc (lls_get hx), List.mem_append, List.mem_singleton] at hy
   rcases hy with hy | rfl
   · exact hin y hy
   · exact hc2⟩ (by dsimp only; omega) (by repeat' first | exact Sub.nil | apply Sub.cons | rfl | (simp [lk]; omega)) (fun w h => h.ftail)
 try simp only [decide_eq_true_eq, decide_eq_false_iff_not, Bool.and_eq_true, Bool.or_eq_true, Bool.not_eq_true', Int.not_le, Int.not_lt] at hc0
 obtain rfl : k = pl.length := by omega
 have hans : plcV (lls pl) s = -1 := plc_no (fun y hy => hin y (by rw [List.take_of_length_le (by rw [lls_len]; exact Nat.le_refl _)]; exact hy))
 refine sy_exit ?_
 repeat refine sy_tx ?_
 refine sy_bx ?_
 refine sy_seq ?_
 refine sy_tx' [0] rfl ?_
 refine sp rfl (PE.assign rfl) rfl ?_
 refine sy_ret ?_
 exact sy_return (vs := [_]) rfl (.cons (RV.tmp rfl) .nil) rfl ⟨by rw [hans]; rfl, rfl, rfl⟩ drp
end Go.Proofs.Ytelegnmfhjfbaaa
namespace Go.Proofs.Ytelegnmfhjfbaaa
set_option linter.unusedSimpArgs false
set_option linter.unusedVariables false
open Go
theorem cal83 : cal Try.prog 83 = true := by kernel_rfl
theorem cal84 : cal Try.prog 84 = true := by kernel_rfl
theorem cal85 : cal Try.prog 85 = true := by kernel_rfl
theorem cal86 : cal Try.prog 86 = true := by kernel_rfl
theorem cal87 : cal Try.prog 87 = true := by kernel_rfl
theorem cal88 : cal Try.prog 88 = true := by kernel_rfl
theorem FnV.lendO {P : Program} {f : FuncId} {v : Value} {e sz : Nat} {rows : List (List Value)} (o : OSl e sz rows) (mk : Value → List Value) {T : Heap} {R : Facts}
    (h : ∀ (a : Option Addr) (c : Nat) (B : World → Prop), FnV P f (mk (.slice a rows.length c)) T (RowsA a sz rows :: B :: R) v) : FnV P f (mk o.fs) (o.G ++ T) R v := fun w hw => by
  obtain ⟨fs, G, hl, his⟩ := o
  rcases his with ⟨rfl, rfl, rfl⟩ | ⟨b, cap, junk, rfl, rfl, h1, h2, h3⟩
  · have h3 : St T (RowsA none sz [] :: (fun _ => True) :: R) w := St.also (St.also hw (f := fun _ => True) (fun _ _ => trivial)) (fun w' _ i row hi => by simp at hi)
    refine CallsIn.mono (h none 0 _ w h3) ?_
    rintro e' w' ⟨u, H', R', ⟨rfl, rfl, rfl⟩, he, hs'⟩
    exact ⟨_, _, R, ⟨rfl, rfl, rfl⟩, he, hs'.ftail.ftail⟩
  · exact FnV.lend (H := (b, cel e (rows.flatten ++ junk)) :: T) (b := b) (e := e) (sz := sz) (rows := rows) (junk := junk) hl (fun B => h _ cap B) w hw
theorem lls_snoc (l : List PL) (x : PL) : lls (l ++ [x]) = lls l ++ [x.l] := by simp [lls]
theorem rS_no {n : Nat} {g : Int} {la s : List Int} {u : Nat} (h : g < ((bitl 4 u).length : Int)) : rS n g la s u = none := by unfold rS; rw [decide_eq_false (by omega)]; rfl
theorem rS_yes {n : Nat} {g : Int} {la s : List Int} {u : Nat} (h : ¬ g < ((bitl 4 u).length : Int)) : rS n g la s u = rNx la s u n := by unfold rS; rw [decide_eq_true (by omega)]; rfl
def wideV (b : Barn) (m : Int) : Bool := decide (8 < b.bins.length) || (decide (b.check = 0) && decide (m < (b.dsk.nst : Int)))
theorem c_rLongest (b : Barn) (ab : Option Addr) (cb : Nat) (hok : b.ok) (H : Heap) (R : Facts) [hB : MemRows ab 4 (brows b.bins) R] :
    Fn Try.prog 34 [b.v (b.sl ab cb)] H R (fun v H' R' => (∃ m, Kpt b.dsk b.state m ∧ v = .int .i64 m) ∧ H' = H ∧ R' = R) := by
 have hmn := hok.many
 have hdk := b.dsk_ok hok
 have hst := b.state_inS hok
 have hp16 := pow_le16 hmn.2
 have hn14 := (b.dsk.nst_le hdk).2
 refine fn_of Try.func34 rfl Try.ntmps34 rfl ?_
 refine sy_seq ?_
 refine sy_tx' [0, 1] rfl ?_
 refine bx rfl rfl rfl (fun b1 => ?_)
 refine sp rfl (PE.assign rfl) rfl ?_
 refine sy_seq ?_
 refine sy_tx' [0, 1, 2, 3] rfl ?_
 refine spL rfl rfl (lhA (btl b (b.sl ab cb)) ag33 rfl rfl rfl) rfl ?_
 refine cl rfl cal84 rfl rfl (c_rBegin b ab cb hok _ _) ?_
 rintro _ _ R1 ⟨ax, cx, rfl, rfl, hR1⟩
 obtain rfl := hR1.symm
 clear hR1
 refine bsl (out := [_]) rfl sl26 zl40 rfl rfl rfl rfl rfl rfl (fun b11 => ?_)
 refine sp rfl (PE.assign rfl) rfl ?_
 refine sy_seq ?_
 refine sy_seq ?_
 refine sy_tx' [0] rfl ?_
 refine Sy.heap (H' := (b11, cel 40 ((plrows [⟨ax, cx, bgL b⟩]).flatten ++ [])) :: (b1, cel 33 (btl b (b.sl ab cb))) :: H) (fun w h => by
   have e : (plrows [⟨ax, cx, bgL b⟩]).flatten ++ [] = [.slice ax b.bins.length cx] := by show [Value.slice ax (bgL b).length cx] = _; rw [bgL_len]
   rw [e]; exact h) ?_
 refine Sy.heap (fun w h => St.inn0 h) ?_
 refine Sy.heap (fun w h => St.innCons (a := ax) (c := cx) (l0 := bgL b) (l := []) h) ?_
 refine Sy.heap (fun w h => St.blkRows (plr_one [⟨ax, cx, bgL b⟩]) h) ?_
 refine sp rfl (PE.assign rfl) rfl ?_
 refine sy_block ?_
 refine sy_loop (ι := {y : Nat × List PL × Option Addr × Nat // y.1 ≤ b.dsk.nst + 1 ∧ Lv b.dsk b.state y.1 (lls y.2.1) ∧ lls y.2.1 ≠ [] ∧ y.2.1.length ≤ 14641}) (fun y => ⟨[(1, .pointer (some ⟨b1, 0, none⟩)), (3, .slice y.1.2.2.1 y.1.2.1.length y.1.2.2.2), (4, .int .i64 y.1.1)], (b1, cel 33 (btl b (b.sl ab cb))) :: H, RowsA y.1.2.2.1 1 (plrows y.1.2.1) :: Inn y.1.2.1 :: R⟩) (fun y => b.dsk.nst + 1 - y.1.1) ⟨(0, [⟨ax, cx, bgL b⟩], some ⟨b11, 0, none⟩, 1), Nat.zero_le _, Lv.start (bgL_len b), by simp [lls], by simp⟩ ?_ (fun y => ?_)
 exact sy_at (by repeat' first | exact Sub.nil | apply Sub.cons | rfl | (simp [lk]; omega)) (fun w h => h.facts (fun g hg => by simp only [List.mem_cons] at hg ⊢; rcases hg with hg | hg | hg <;> simp [hg]))
 obtain ⟨⟨day, nl, an, cn⟩, hday, hlv, hne, hnl⟩ := y
 dsimp only at hday hlv hne hnl ⊢
 refine sy_seq ?_
 refine sy_seq ?_
 refine sy_tx' [0, 1, 2, 3] rfl ?_
 refine sp rfl (PE.move rfl) rfl ?_
 refine spL rfl rfl (lhA (btl b (b.sl ab cb)) ag33 rfl rfl rfl) rfl ?_
 refine clV rfl cal83 rfl rfl (c_rMany b ab cb hok _ _) ?_
 refine sp rfl (PE.leq rfl rfl) rfl ?_
 refine sy_cond rfl (fun hc0 => ?_) (fun hc0 => ?_)
 try simp only [decide_eq_true_eq, decide_eq_false_iff_not, Bool.and_eq_true, Bool.or_eq_true, Bool.not_eq_true', Int.not_le, Int.not_lt] at hc0
 refine sy_skip ?_
 refine sy_seq ?_
 refine sy_block ?_
 refine sy_seq ?_
 refine sy_tx' [0] rfl ?_
 refine sp rfl (PE.assign rfl) rfl ?_
 refine sy_seq ?_
 refine sy_seq ?_
 refine sy_tx' [0] rfl ?_
 refine sp rfl (PE.assign rfl) rfl ?_
 refine sy_block ?_
 refine sy_loop (ι := (y : {y : Nat × List PL // y.1 ≤ nl.length ∧ Bf b.dsk.n b.dsk.gangs (laL b) (lls nl) y.1 0 (lls y.2)}) × OSl 40 1 (plrows y.1.2)) (fun y => ⟨[(1, .pointer (some ⟨b1, 0, none⟩)), (3, .slice an nl.length cn), (4, .int .i64 day), (5, y.2.fs), (6, .int .i64 y.1.1.1)], y.2.G ++ (b1, cel 33 (btl b (b.sl ab cb))) :: H, Inn y.1.1.2 :: RowsA an 1 (plrows nl) :: Inn nl :: R⟩) (fun y => nl.length - y.1.1.1) ⟨⟨(0, []), Nat.zero_le _, Bf.start⟩, OSl.nil _ _⟩ ?_ (fun y => ?_)
 exact sy_at (by repeat' first | exact Sub.nil | apply Sub.cons | rfl | (simp [lk]; omega)) (fun w h => St.inn0 h)
 obtain ⟨⟨⟨i, q⟩, hi, hbf⟩, o⟩ := y
 dsimp only at hi hbf o ⊢
 refine sy_seq ?_
 refine sy_seq ?_
 refine sy_tx' [0, 1, 2, 3] rfl ?_
 refine sp rfl (PE.move rfl) rfl ?_
 refine sp rfl (PE.move rfl) rfl ?_
 refine sp rfl (PE.lenSl isl26 rfl) rfl ?_
 refine sp rfl (PE.lss rfl rfl) rfl ?_
 refine sy_cond rfl (fun hc1 => ?_) (fun hc1 => ?_)
 try simp only [decide_eq_true_eq, decide_eq_false_iff_not, Bool.and_eq_true, Bool.or_eq_true, Bool.not_eq_true', Int.not_le, Int.not_lt] at hc1
 obtain ⟨x, hx⟩ : ∃ x, nl[i]? = some x := ⟨_, List.getElem?_eq_getElem (by omega)⟩
 have hxm := List.mem_of_getElem? hx
 have hxl : x.l.length = b.bins.length := hlv.len x.l (List.mem_map.2 ⟨x, hxm, rfl⟩)
 have hxs := hlv.inS hdk hst (List.mem_map.2 ⟨x, hxm, rfl⟩)
 have hxn : ∀ k < b.bins.length, 0 ≤ na x.l k ∧ na x.l k ≤ 1000000 := fun k hk => by have := (b.dsk.inS_sml hdk hxs).at_ k (by omega); rwa [pad_na] at this
 refine sy_addr (a := an) (sz := 1) (rows := plrows nl) (by intro h0; have := congrArg List.length h0; rw [plrows_len] at this; simp only [List.length_nil] at this; omega) (fun ba oa he => ?_)
 subst he
 refine Sy.heap (fun w h => St.inn (x := x) h hxm) ?_
 refine sy_skip ?_
 refine sy_seq ?_
 refine sy_block ?_
 refine sy_seq ?_
 refine sy_tx' [0] rfl ?_
 refine sp rfl (PE.assign rfl) rfl ?_
 refine sy_block ?_
 refine sy_loop (ι := (y : {y : Nat × List PL // y.1 ≤ 2 ^ b.bins.length ∧ Bf b.dsk.n b.dsk.gangs (laL b) (lls nl) i y.1 (lls y.2)}) × OSl 40 1 (plrows y.1.2)) (fun y => ⟨[(1, .pointer (some ⟨b1, 0, none⟩)), (3, .slice (some ⟨ba, oa, none⟩) nl.length cn), (4, .int .i64 day), (5, y.2.fs), (6, .int .i64 i), (7, .int .i64 y.1.1.1)], y.2.G ++ (b1, cel 33 (btl b (b.sl ab cb))) :: H, Inn y.1.1.2 :: RowsA x.a 1 (irows x.l) :: RowsA (some ⟨ba, oa, none⟩) 1 (plrows nl) :: Inn nl :: R⟩) (fun y => 2 ^ b.bins.length - y.1.1.1) ⟨⟨(0, q), Nat.zero_le _, hbf⟩, o⟩ ?_ (fun y => ?_)
 exact sy_at (by repeat' first | exact Sub.nil | apply Sub.cons | rfl | (simp [lk]; omega)) (fun w h => h.facts (fun g hg => by simp only [List.mem_cons] at hg ⊢; rcases hg with hg | hg | hg | hg | hg <;> simp [hg]))
 obtain ⟨⟨⟨u, q2⟩, hu, hbf2⟩, o2⟩ := y
 dsimp only at hu hbf2 o2 ⊢
 have hfew := hbf2.few hdk hst (laL_lasts b) hlv
 rw [lls_len] at hfew
 refine sy_seq ?_
 refine sy_seq ?_
 refine sy_tx' [0, 1, 2, 3] rfl ?_
 refine sp rfl (PE.move rfl) rfl ?_
 refine spL rfl rfl (lhA (btl b (b.sl ab cb)) ag33 rfl rfl rfl) rfl ?_
 refine clV rfl cal85 rfl rfl (c_rsets b ab cb hmn.2 _ _) ?_
 refine sp rfl (PE.lss rfl rfl) rfl ?_
 refine sy_cond rfl (fun hc2 => ?_) (fun hc2 => ?_)
 try simp only [decide_eq_true_eq, decide_eq_false_iff_not, Bool.and_eq_true, Bool.or_eq_true, Bool.not_eq_true', Int.not_le, Int.not_lt] at hc2
 have hu16 : u < 16 := by omega
 refine sy_skip ?_
 refine sy_seq ?_
 refine sy_block ?_
 refine sy_seq ?_
 refine sy_seq ?_
 refine sy_draw [0, 1, 0, 4, 15] (.tk 0 (.tk 2 (.ld 3 (.big 1 (.tk 4 .done))))) mixed (by kernel_rfl) ?_
 refine tk rfl (PE.move rfl) rfl ?_
 refine tk rfl (PE.fieldAddr fo33_1 rfl) rfl ?_
 refine ld rfl rfl (lh sc3 rfl rfl) rfl ?_
 refine clV rfl cal86 rfl rfl (c_rones u hu16 _ _) ?_
 refine bg (fun w hs => ⟨(lh sc3 rfl rfl) w hs, trivial⟩) ?_
 refine tk rfl (PE.gtr rfl rfl) rfl ?_
 refine sy_cond rfl (fun hc3 => ?_) (fun hc3 => ?_)
 try simp only [decide_eq_true_eq, decide_eq_false_iff_not, Bool.and_eq_true, Bool.or_eq_true, Bool.not_eq_true', Int.not_le, Int.not_lt] at hc3
 have hsk := hbf2.skip (lls_get hx) (by show u < 2 ^ b.bins.length; omega) (fun t ht => by rw [rS_no (show b.dsk.gangs < _ from hc3)] at ht; cases ht)
 refine sy_exit ?_
 refine sy_tx ?_
 refine sy_bx ?_
 refine sy_tx' [0, 1, 2] rfl ?_
 refine sp rfl (PE.move rfl) rfl ?_
 refine sp rfl (PE.add rfl rfl (by omega)) rfl ?_
 refine sp rfl (PE.assign rfl) rfl ?_
 first
   | exact sy_next ⟨⟨(u + 1, q2 ++ [⟨some ⟨bo, 0, none⟩, c, t⟩]), by dsimp only; omega, by rw [lls_snoc]; exact hadd⟩, o53.cast (by rw [plrows_app]; rfl)⟩ (by dsimp only; omega) (by repeat' first | exact Sub.nil | apply Sub.cons | rfl | (simp [lk]; omega)) (fun w h => (St.innSnoc (a := some ⟨bo, 0, none⟩) (c := c) (l0 := t) (l := q2) (h.del b52)).facts (fun g hg => by simp only [List.mem_cons] at hg ⊢; rcases hg with hg | hg | hg | hg | hg <;> simp [hg]))
   | exact sy_next ⟨⟨(u + 1, q2), by dsimp only; omega, hsk⟩, o2⟩ (by dsimp only; omega) (by repeat' first | exact Sub.nil | apply Sub.cons | rfl | (simp [lk]; omega)) (fun w h => h.facts (fun g hg => by simp only [List.mem_cons] at hg ⊢; rcases hg with hg | hg | hg | hg | hg <;> simp [hg]))
 try simp only [decide_eq_true_eq, decide_eq_false_iff_not, Bool.and_eq_true, Bool.or_eq_true, Bool.not_eq_true', Int.not_le, Int.not_lt] at hc3
 have hrs : rS b.dsk.n b.dsk.gangs (laL b) x.l u = rNx (laL b) x.l u b.bins.length := rS_yes (show ¬ b.gangs < _ by omega)
 refine sy_skip ?_
 refine sy_seq ?_
 refine sy_draw [0, 0, 0, 6, 14, 0, 63, 127] (.ld 0 (.tk 1 (.tk 2 (.tk 3 (.ld 4 (.tk 5 (.big 6 (.tk 7 .done)))))))) mixed (by kernel_rfl) ?_
 refine ld rfl rfl (lhA (btl b (b.sl ab cb)) ag33 rfl rfl rfl) rfl ?_
 refine tk rfl (PE.move rfl) rfl ?_
 refine tk rfl (PE.move rfl) rfl ?_
 refine tk rfl (PE.indexAddr el26 rfl rfl (by omega) (by omega)) rfl ?_
 refine ld rfl rfl (lf0 sc40 (pl_get hx) rfl) rfl ?_
 refine tk rfl (PE.move rfl) rfl ?_
 refine cl rfl cal87 rfl rfl (c_rNext b ab cb hok x.l x.a x.c hxl hxn u hu16 _ _) ?_
 rintro _ _ R1 ⟨rfl, (⟨hnx, rfl, hR1⟩ | ⟨t, bo, c, hnx, rfl, hR1⟩)⟩ <;> obtain rfl := hR1.symm <;> clear hR1
 refine bg (fun w hs => ⟨trivial, trivial, trivial⟩) ?_
 refine tk rfl (PE.assign rfl) rfl ?_
 refine sy_seq ?_
 refine sy_tx' [0, 1, 2, 3, 4, 5, 6, 7] rfl ?_
 have hsk := hbf2.skip (lls_get hx) (by show u < 2 ^ b.bins.length; omega) (fun t ht => by rw [hrs, hnx] at ht; cases ht)
 refine sp rfl (PE.move rfl) rfl ?_
 refine sp rfl (PE.neqNil isl40 rfl rfl) rfl ?_
 refine sp rfl (PE.move rfl) rfl ?_
 repeat refine spN rfl rfl rfl rfl rfl rfl rfl rfl ?_
 refine sp rfl (PE.pick rfl rfl rfl) rfl ?_
 refine sy_condF rfl ?_
 refine sy_skip ?_
 refine sy_tx' [0, 1, 2] rfl ?_
 refine sp rfl (PE.move rfl) rfl ?_
 refine sp rfl (PE.add rfl rfl (by omega)) rfl ?_
 refine sp rfl (PE.assign rfl) rfl ?_
 first
   | exact sy_next ⟨⟨(u + 1, q2 ++ [⟨some ⟨bo, 0, none⟩, c, t⟩]), by dsimp only; omega, by rw [lls_snoc]; exact hadd⟩, o53.cast (by rw [plrows_app]; rfl)⟩ (by dsimp only; omega) (by repeat' first | exact Sub.nil | apply Sub.cons | rfl | (simp [lk]; omega)) (fun w h => (St.innSnoc (a := some ⟨bo, 0, none⟩) (c := c) (l0 := t) (l := q2) (h.del b52)).facts (fun g hg => by simp only [List.mem_cons] at hg ⊢; rcases hg with hg | hg | hg | hg | hg <;> simp [hg]))
   | exact sy_next ⟨⟨(u + 1, q2), by dsimp only; omega, hsk⟩, o2⟩ (by dsimp only; omega) (by repeat' first | exact Sub.nil | apply Sub.cons | rfl | (simp [lk]; omega)) (fun w h => h.facts (fun g hg => by simp only [List.mem_cons] at hg ⊢; rcases hg with hg | hg | hg | hg | hg <;> simp [hg]))
 refine bg (fun w hs => ⟨trivial, trivial, trivial⟩) ?_
 refine tk rfl (PE.assign rfl) rfl ?_
 refine sy_seq ?_
 refine sy_tx' [0, 1, 2, 3, 4, 5, 6, 7] rfl ?_
 have htl : t.length = b.bins.length := rNx_len hnx
 have hall : ∀ y ∈ q2, y.l.length = t.length := fun y hy => by rw [htl]; exact hbf2.len y.l (List.mem_map.2 ⟨y, hy, rfl⟩)
 refine sp rfl (PE.move rfl) rfl ?_
 refine sp rfl (PE.neqNil isl40 rfl rfl) rfl ?_
 refine sp rfl (PE.move rfl) rfl ?_
 refine spG rfl rfl rfl rfl (PE.move rfl) rfl ?_
 refine spG rfl rfl rfl rfl (PE.move rfl) rfl ?_
 refine clVG rfl rfl rfl rfl cal88 rfl rfl (FnV.lendO o2 (fun v => [v, .slice (some ⟨bo, 0, none⟩) t.length c]) (fun a5 c5 B => by rw [plrows_len]; exact c_rplace q2 a5 c5 (by omega) t (some ⟨bo, 0, none⟩) c (by omega) hall _ _)) ?_
 refine spG rfl rfl rfl rfl (PE.lss rfl rfl) rfl ?_
 refine sp rfl (PE.pick rfl rfl rfl) rfl ?_
 refine sy_cond rfl (fun hc4 => ?_) (fun hc4 => ?_)
 try simp only [decide_eq_true_eq, decide_eq_false_iff_not, Bool.and_eq_true, Bool.or_eq_true, Bool.not_eq_true', Int.not_le, Int.not_lt] at hc4
 have hadd := hbf2.add (lls_get hx) (by show u < 2 ^ b.bins.length; omega) (hrs.trans hnx) (plc_neg.1 hc4)
 refine sy_tx' [0, 1, 2, 3, 4] rfl ?_
 refine sp rfl (PE.move rfl) rfl ?_
 refine sp rfl (PE.move rfl) rfl ?_
 refine bsl (out := [_]) rfl sl26 zl40 rfl rfl rfl rfl rfl rfl (fun b52 => ?_)
 refine apO (o2) rfl ap26 rfl rfl (rowsH (row := [.slice (some ⟨bo, 0, none⟩) t.length c]) rfl) rfl rfl ((by rw [plrows_len]; simp only [List.length_singleton]; omega)) rfl (fun o53 => ?_)
 refine sp rfl (PE.assign rfl) rfl ?_
 refine sy_tx' [0, 1, 2] rfl ?_
 refine sp rfl (PE.move rfl) rfl ?_
 refine sp rfl (PE.add rfl rfl (by omega)) rfl ?_
 refine sp rfl (PE.assign rfl) rfl ?_
 first
   | exact sy_next ⟨⟨(u + 1, q2 ++ [⟨some ⟨bo, 0, none⟩, c, t⟩]), by dsimp only; omega, by rw [lls_snoc]; exact hadd⟩, o53.cast (by rw [plrows_app]; rfl)⟩ (by dsimp only; omega) (by repeat' first | exact Sub.nil | apply Sub.cons | rfl | (simp [lk]; omega)) (fun w h => (St.innSnoc (a := some ⟨bo, 0, none⟩) (c := c) (l0 := t) (l := q2) (h.del b52)).facts (fun g hg => by simp only [List.mem_cons] at hg ⊢; rcases hg with hg | hg | hg | hg | hg <;> simp [hg]))
   | exact sy_next ⟨⟨(u + 1, q2), by dsimp only; omega, hsk⟩, o2⟩ (by dsimp only; omega) (by repeat' first | exact Sub.nil | apply Sub.cons | rfl | (simp [lk]; omega)) (fun w h => h.facts (fun g hg => by simp only [List.mem_cons] at hg ⊢; rcases hg with hg | hg | hg | hg | hg <;> simp [hg]))
 try simp only [decide_eq_true_eq, decide_eq_false_iff_not, Bool.and_eq_true, Bool.or_eq_true, Bool.not_eq_true', Int.not_le, Int.not_lt] at hc4
 have hsk := hbf2.skip (lls_get hx) (by show u < 2 ^ b.bins.length; omega) (fun t2 ht2 => by rw [hrs, hnx] at ht2; cases ht2; exact Classical.byContradiction fun h9 => absurd (plc_neg.2 h9) (by omega))
 refine sy_skip ?_
 refine sy_tx' [0, 1, 2] rfl ?_
 refine sp rfl (PE.move rfl) rfl ?_
 refine sp rfl (PE.add rfl rfl (by omega)) rfl ?_
 refine sp rfl (PE.assign rfl) rfl ?_
 first
   | exact sy_next ⟨⟨(u + 1, q2 ++ [⟨some ⟨bo, 0, none⟩, c, t⟩]), by dsimp only; omega, by rw [lls_snoc]; exact hadd⟩, o53.cast (by rw [plrows_app]; rfl)⟩ (by dsimp only; omega) (by repeat' first | exact Sub.nil | apply Sub.cons | rfl | (simp [lk]; omega)) (fun w h => (St.innSnoc (a := some ⟨bo, 0, none⟩) (c := c) (l0 := t) (l := q2) (h.del b52)).facts (fun g hg => by simp only [List.mem_cons] at hg ⊢; rcases hg with hg | hg | hg | hg | hg <;> simp [hg]))
   | exact sy_next ⟨⟨(u + 1, q2), by dsimp only; omega, hsk⟩, o2⟩ (by dsimp only; omega) (by repeat' first | exact Sub.nil | apply Sub.cons | rfl | (simp [lk]; omega)) (fun w h => h.facts (fun g hg => by simp only [List.mem_cons] at hg ⊢; rcases hg with hg | hg | hg | hg | hg <;> simp [hg]))
 try simp only [decide_eq_true_eq, decide_eq_false_iff_not, Bool.and_eq_true, Bool.or_eq_true, Bool.not_eq_true', Int.not_le, Int.not_lt] at hc2
 obtain rfl : u = 2 ^ b.bins.length := by omega
 refine sy_exit ?_
 repeat refine sy_tx ?_
 refine sy_bx ?_
 refine sy_tx' [0, 1, 2] rfl ?_
 refine sp rfl (PE.move rfl) rfl ?_
 refine sp rfl (PE.add rfl rfl (by omega)) rfl ?_
 refine sp rfl (PE.assign rfl) rfl ?_
 exact sy_next ⟨⟨(i + 1, q2), by dsimp only; omega, hbf2.next⟩, o2⟩ (by dsimp only; omega) (by repeat' first | exact Sub.nil | apply Sub.cons | rfl | (simp [lk]; omega)) (fun w h => h.facts (fun g hg => by simp only [List.mem_cons] at hg ⊢; rcases hg with hg | hg | hg | hg <;> simp [hg]))
 try simp only [decide_eq_true_eq, decide_eq_false_iff_not, Bool.and_eq_true, Bool.or_eq_true, Bool.not_eq_true', Int.not_le, Int.not_lt] at hc1
 obtain rfl : i = nl.length := by omega
 have hfew := hbf.few hdk hst (laL_lasts b) hlv
 rw [lls_len] at hfew
 have hlv2 := hlv.next hdk hst (laL_lasts b) (by rw [lls_len]; exact hbf)
 obtain ⟨a5, c5, he, hf⟩ := o.freeze
 rw [he, plrows_len]
 refine Sy.heap (fun w h => hf h) ?_
 clear he hf
 refine sy_exit ?_
 repeat refine sy_tx ?_
 refine sy_bx ?_
 refine sy_seq ?_
 refine sy_seq ?_
 refine sy_tx' [0, 1, 2] rfl ?_
 refine sp rfl (PE.move rfl) rfl ?_
 refine sp rfl (PE.lenSl isl26 rfl) rfl ?_
 refine sp rfl (PE.eql rfl rfl) rfl ?_
 refine sy_cond rfl (fun hc5 => ?_) (fun hc5 => ?_)
 try simp only [decide_eq_true_eq, decide_eq_false_iff_not, Bool.and_eq_true, Bool.or_eq_true, Bool.not_eq_true', Int.not_le, Int.not_lt] at hc5
 have hq0 : lls q = [] := List.length_eq_zero_iff.1 (by rw [lls_len]; omega)
 have hkp := hlv.ends hdk hst (by omega) hne (by rw [← hq0]; exact hlv2)
 refine sy_seq ?_
 refine sy_tx' [0, 1] rfl ?_
 refine sp rfl (PE.move rfl) rfl ?_
 refine sp rfl (PE.assign rfl) rfl ?_
 refine sy_ret ?_
 exact sy_return (vs := [_]) rfl (.cons (RV.tmp rfl) .nil) rfl ⟨⟨_, hkp, rfl⟩, rfl, rfl⟩ (fun w h => (h.del b1).facts (fun g hg => by simp [hg]))
 try simp only [decide_eq_true_eq, decide_eq_false_iff_not, Bool.and_eq_true, Bool.or_eq_true, Bool.not_eq_true', Int.not_le, Int.not_lt] at hc5
 refine sy_skip ?_
 refine sy_tx' [0, 1] rfl ?_
 refine sp rfl (PE.move rfl) rfl ?_
 refine sp rfl (PE.assign rfl) rfl ?_
 refine sy_tx' [0, 1, 2] rfl ?_
 refine sp rfl (PE.move rfl) rfl ?_
 refine sp rfl (PE.add rfl rfl (by omega)) rfl ?_
 refine sp rfl (PE.assign rfl) rfl ?_
 exact sy_next ⟨(day + 1, q, a5, c5), by dsimp only; omega, hlv2, fun h => by dsimp only at h; have := congrArg List.length h; rw [lls_len, List.length_nil] at this; omega, hfew⟩ (by dsimp only; omega) (by repeat' first | exact Sub.nil | apply Sub.cons | rfl | (simp [lk]; omega)) (fun w h => h.facts (fun g hg => by simp only [List.mem_cons] at hg ⊢; rcases hg with hg | hg | hg <;> simp [hg]))
 try simp only [decide_eq_true_eq, decide_eq_false_iff_not, Bool.and_eq_true, Bool.or_eq_true, Bool.not_eq_true', Int.not_le, Int.not_lt] at hc0
 have hkp := hlv.ever hdk hst (by omega) hne
 refine sy_exit ?_
 repeat refine sy_tx ?_
 refine sy_bx ?_
 refine sy_seq ?_
 refine sy_tx' [0] rfl ?_
 refine sp rfl (PE.assign rfl) rfl ?_
 refine sy_ret ?_
 exact sy_return (vs := [_]) rfl (.cons (RV.tmp rfl) .nil) rfl ⟨⟨_, hkp, rfl⟩, rfl, rfl⟩ (fun w h => (h.del b1).facts (fun g hg => by simp [hg]))
theorem c_wide (b : Barn) (ab : Option Addr) (cb : Nat) (m : Int) (hl : b.bins.length ≤ 4398046511104) (hr : b.rise.length = 6) (H : Heap) (R : Facts) [hB : MemRows ab 4 (brows b.bins) R] :
    FnV Try.prog 33 [b.v (b.sl ab cb), .int .i64 m] H R (.bool (wideV b m)) := by
 refine fn_of Try.func33 rfl Try.ntmps33 rfl ?_
 refine sy_seq ?_
 refine sy_tx' [0, 1] rfl ?_
 refine bx rfl rfl rfl (fun b2 => ?_)
 refine sp rfl (PE.assign rfl) rfl ?_
 refine sy_seq ?_
 refine sy_tx' [0, 1, 2, 3] rfl ?_
 refine spL rfl rfl (lhA (btl b (b.sl ab cb)) ag25 rfl rfl rfl) rfl ?_
 refine cl rfl cal20 rfl rfl (c_theirs b ab cb (by omega) _ _) ?_
 rintro _ _ R1 ⟨ax, cx, rfl, rfl, hR1⟩
 obtain rfl := hR1.symm
 clear hR1
 refine alc rfl zl33 rfl (fun b5 => ?_)
 refine sto rfl rfl rfl cn33 rfl rfl rfl rfl ?_
 refine sy_seq ?_
 refine sy_tx' [0, 1, 2, 3, 4, 5, 6, 7, 8, 9, 10, 11, 12, 13] rfl ?_
 refine spL rfl rfl (lhA (btl b (b.sl ab cb)) ag25 rfl rfl rfl) rfl ?_
 refine clV rfl cal16 rfl rfl (c_great b ab cb (by omega) _ _) ?_
 refine sp rfl (PE.move rfl) rfl ?_
 refine sy_case (t := 10) rfl (fun g10 => ?_) (fun g10 => ?_)
 repeat refine spN rfl rfl rfl rfl rfl rfl rfl rfl ?_
 repeat refine spU rfl rfl rfl rfl rfl rfl rfl ?_
 refine spN rfl rfl rfl rfl rfl rfl rfl rfl ?_
 refine sp rfl (PE.pick rfl rfl rfl) rfl ?_
 refine sp rfl (PE.assign rfl) rfl ?_
 refine sy_ret ?_
 exact sy_return (vs := [_]) rfl (.cons (RV.tmp rfl) .nil) rfl ⟨by unfold wideV; first | (rw [g10]; rfl) | (rw [g10, decide_eq_true g14]; rfl) | (rw [g10, decide_eq_false g14]; rfl), rfl, rfl⟩ (fun w h => ((h.del b5).del b2).facts (fun g hg => by simp [hg]))
 refine spLG rfl rfl rfl rfl rfl (lhA (btl b (b.sl ax cx)) ag33 rfl rfl rfl) rfl ?_
 refine clVG rfl rfl rfl rfl cal22 rfl rfl (c_rCheck b ax cx (by omega) hr _ _) ?_
 refine spG rfl rfl rfl rfl (PE.eql rfl rfl) rfl ?_
 refine spG rfl rfl rfl rfl (PE.move rfl) rfl ?_
 refine sy_case (t := 14) rfl (fun g14 => ?_) (fun g14 => ?_)
 try simp only [decide_eq_true_eq, decide_eq_false_iff_not, Bool.and_eq_true, Bool.or_eq_true, Bool.not_eq_true', Int.not_le, Int.not_lt] at g14
 refine spLG rfl rfl rfl rfl rfl (lhA (btl b (b.sl ax cx)) ag33 rfl rfl rfl) rfl ?_
 refine clVG rfl rfl rfl rfl cal83 rfl rfl (c_rMany b ax cx (Barn.ok_of hr g14) _ _) ?_
 refine spG rfl rfl rfl rfl (PE.move rfl) rfl ?_
 refine spG rfl rfl rfl rfl (PE.gtr rfl rfl) rfl ?_
 refine spG rfl rfl rfl rfl (PE.pick rfl rfl rfl) rfl ?_
 refine sp rfl (PE.pick rfl rfl rfl) rfl ?_
 refine sp rfl (PE.assign rfl) rfl ?_
 refine sy_ret ?_
 exact sy_return (vs := [_]) rfl (.cons (RV.tmp rfl) .nil) rfl ⟨by unfold wideV; first | (rw [g10]; rfl) | (rw [g10, decide_eq_true g14]; rfl) | (rw [g10, decide_eq_false g14]; rfl), rfl, rfl⟩ (fun w h => ((h.del b5).del b2).facts (fun g hg => by simp [hg]))
 try simp only [decide_eq_true_eq, decide_eq_false_iff_not, Bool.and_eq_true, Bool.or_eq_true, Bool.not_eq_true', Int.not_le, Int.not_lt] at g14
 repeat refine spN rfl rfl rfl rfl rfl rfl rfl rfl ?_
 refine spG rfl rfl rfl rfl (PE.pick rfl rfl rfl) rfl ?_
 refine sp rfl (PE.pick rfl rfl rfl) rfl ?_
 refine sp rfl (PE.assign rfl) rfl ?_
 refine sy_ret ?_
 exact sy_return (vs := [_]) rfl (.cons (RV.tmp rfl) .nil) rfl ⟨by unfold wideV; first | (rw [g10]; rfl) | (rw [g10, decide_eq_true g14]; rfl) | (rw [g10, decide_eq_false g14]; rfl), rfl, rfl⟩ (fun w h => ((h.del b5).del b2).facts (fun g hg => by simp [hg]))
end Go.Proofs.Ytelegnmfhjfbaaa
namespace Go.Proofs.Ytelegnmfhjfbaaa
set_option linter.unusedSimpArgs false
set_option linter.unusedVariables false
open Go
theorem cal33 : cal Try.prog 33 = true := by kernel_rfl
theorem cal34 : cal Try.prog 34 = true := by kernel_rfl
def SpI (b : Barn) (m : Nat) (s e : Int) : Prop := (e = 6 ∧ s = 0 ∧ ∀ g : Nat, m ≤ g → g ≤ b.bins.length → b.ends g) ∨
  (e = 0 ∧ ∃ g : Nat, s = g ∧ m ≤ g ∧ g ≤ b.bins.length ∧ Kpt (b.withG g).dsk b.state 1000000 ∧ ∀ j : Nat, m ≤ j → j < g → b.ends j)
theorem SpI.start (b : Barn) : SpI b (b.bins.length + 1) 0 6 := .inl ⟨rfl, rfl, fun g h1 h2 => by omega⟩
theorem SpI.yes {b : Barn} {k : Nat} (hk : k ≤ b.bins.length) (h : Kpt (b.withG k).dsk b.state 1000000) : SpI b k k 0 := .inr ⟨rfl, k, rfl, Nat.le_refl _, hk, h, fun j h1 h2 => by omega⟩
theorem SpI.no {b : Barn} {k : Nat} {s e : Int} (h : SpI b (k + 1) s e) (hn : b.ends k) : SpI b k s e := by
  rcases h with ⟨h1, h2, h3⟩ | ⟨h1, g, h2, h3, h4, h5, h6⟩
  · refine .inl ⟨h1, h2, fun g hg hg2 => ?_⟩
    rcases Nat.lt_or_ge k g with h | h
    · exact h3 g h hg2
    · obtain rfl : g = k := by omega
      exact hn
  · refine .inr ⟨h1, g, h2, by omega, h4, h5, fun j hj hj2 => ?_⟩
    rcases Nat.lt_or_ge k j with h | h
    · exact h6 j h hj2
    · obtain rfl : j = k := by omega
      exact hn
theorem ends_not {b : Barn} {g : Nat} (h : b.ends g) : ¬ Kpt (b.withG g).dsk b.state 1000000 := fun h2 => by
  obtain ⟨w, hw, h3⟩ := h
  exact hw (kpt_unique h3 h2)
theorem SpI.eq {b : Barn} {s e : Int} (h : SpI b 0 s e) (hc : b.check = 0) {v : Value} (hq : SpareQ b v) : v = .tuple #[.int .i64 s, .int .i64 e] := by
  rcases hq with ⟨h1, _⟩ | ⟨_, ⟨g, hg, hn, hk, rfl⟩ | ⟨hn, rfl⟩⟩
  · exact absurd hc h1
  · rcases h with ⟨rfl, rfl, h3⟩ | ⟨rfl, g2, rfl, _, h4, h5, h6⟩
    · exact absurd hk (ends_not (h3 g (Nat.zero_le _) hg))
    · rcases Nat.lt_trichotomy g g2 with h7 | h7 | h7
      · exact absurd hk (ends_not (h6 g (Nat.zero_le _) h7))
      · rw [h7]
      · exact absurd h5 (ends_not (hn g2 h7))
  · rcases h with ⟨rfl, rfl, h3⟩ | ⟨rfl, g2, rfl, _, h4, h5, h6⟩
    · rfl
    · exact absurd h5 (ends_not (hn g2 h4))
theorem Fn.toV {P : Program} {f : FuncId} {args : List Value} {v : Value} {H : Heap} {R : Facts} {Q : Value → Prop} (h : Fn P f args H R (fun u H' R' => Q u ∧ H' = H ∧ R' = R)) (hq : ∀ u, Q u → u = v) : FnV P f args H R v := fun w hw => by
  refine CallsIn.mono (h w hw) ?_
  rintro e' w' ⟨u, H', R', ⟨h1, h2, h3⟩, he, hs'⟩
  exact ⟨u, H', R', ⟨hq u h1, h2, h3⟩, he, hs'⟩
theorem c_LongestE (b : Barn) (ab : Option Addr) (cb : Nat) (hl : b.bins.length ≤ 9223372036854775807) (hr : b.rise.length = 6) (hc : b.check ≠ 0) (H : Heap) (R : Facts) [hB : MemRows ab 4 (brows b.bins) R] : FnV Try.prog 35 [b.v (b.sl ab cb)] H R (.tuple #[.int .i64 0, .int .i64 b.check]) := (c_Longest b ab cb hl hr H R).toV (by rintro u (⟨_, rfl⟩ | ⟨h, _⟩); rfl; exact absurd h hc)
theorem c_FirstE (b : Barn) (ab : Option Addr) (cb : Nat) (hl : b.bins.length ≤ 9223372036854775807) (hr : b.rise.length = 6) (hc : b.check ≠ 0) (H : Heap) (R : Facts) [hB : MemRows ab 4 (brows b.bins) R] : FnV Try.prog 36 [b.v (b.sl ab cb)] H R (.tuple #[.int .i64 0, .int .i64 b.check]) := (c_First b ab cb hl hr H R).toV (by rintro u (⟨_, rfl⟩ | ⟨h, _⟩); rfl; exact absurd h hc)
theorem c_SpareE (b : Barn) (ab : Option Addr) (cb : Nat) (hl : b.bins.length ≤ 9223372036854775807) (hr : b.rise.length = 6) (hc : b.check ≠ 0) (H : Heap) (R : Facts) [hB : MemRows ab 4 (brows b.bins) R] : FnV Try.prog 37 [b.v (b.sl ab cb)] H R (.tuple #[.int .i64 0, .int .i64 b.check]) := (c_Spare b ab cb hl hr H R).toV (by rintro u (⟨_, rfl⟩ | ⟨h, _⟩); rfl; exact absurd h hc)
theorem c_LongestK (b : Barn) (ab : Option Addr) (cb : Nat) (hl : b.bins.length ≤ 9223372036854775807) (hr : b.rise.length = 6) (hc : b.check = 0) {m : Int} (hm : Kpt b.dsk b.state m) (H : Heap) (R : Facts) [hB : MemRows ab 4 (brows b.bins) R] : FnV Try.prog 35 [b.v (b.sl ab cb)] H R (.tuple #[.int .i64 m, .int .i64 0]) := (c_Longest b ab cb hl hr H R).toV (by rintro u (⟨h, _⟩ | ⟨_, w, hw, rfl⟩); exact absurd hc h; rw [kpt_unique hw hm])
theorem c_FirstK (b : Barn) (ab : Option Addr) (cb : Nat) (hl : b.bins.length ≤ 9223372036854775807) (hr : b.rise.length = 6) (hc : b.check = 0) {m : Int} (hm : Kpt b.dsk b.state m) (H : Heap) (R : Facts) [hB : MemRows ab 4 (brows b.bins) R] : FnV Try.prog 36 [b.v (b.sl ab cb)] H R (.tuple #[.int .i64 (bif decide (m = 1000000) then 0 else m), .int .i64 (bif decide (m = 1000000) then 6 else 0)]) := (c_First b ab cb hl hr H R).toV (by rintro u (⟨h, _⟩ | ⟨_, w, hw, rfl⟩); exact absurd hc h; rw [kpt_unique hw hm])
theorem c_SpareK (b : Barn) (ab : Option Addr) (cb : Nat) (hl : b.bins.length ≤ 9223372036854775807) (hr : b.rise.length = 6) (hc : b.check = 0) {s e : Int} (hs : SpI b 0 s e) (H : Heap) (R : Facts) [hB : MemRows ab 4 (brows b.bins) R] : FnV Try.prog 37 [b.v (b.sl ab cb)] H R (.tuple #[.int .i64 s, .int .i64 e]) := (c_Spare b ab cb hl hr H R).toV (fun u hq => hs.eq hc hq)
theorem c_HeatLongest (b : Barn) (ab : Option Addr) (cb : Nat) (hl9 : b.bins.length ≤ 4398046511104) (hr : b.rise.length = 6) (H : Heap) (R : Facts) [hB : MemRows ab 4 (brows b.bins) R] :
    Fn Try.prog 4 [b.v (b.sl ab cb)] H R (fun v H' R' => v = .bool true ∧ H' = H ∧ R' = R) := by
 have hl : b.bins.length ≤ 9223372036854775807 := by omega
 refine fn_of Try.func4 rfl Try.ntmps4 rfl ?_
 refine sy_seq ?_
 refine sy_tx' [0, 1] rfl ?_
 refine bx rfl rfl rfl (fun b1 => ?_)
 refine sp rfl (PE.assign rfl) rfl ?_
 refine sy_seq ?_
 refine sy_seq ?_
 refine sy_tx' [0, 1] rfl ?_
 refine spL rfl rfl (lhA (btl b (b.sl ab cb)) ag25 rfl rfl rfl) rfl ?_
 refine clV rfl cal33 rfl rfl (c_wide b ab cb 80 hl9 hr _ _) ?_
 refine sy_cond rfl (fun hc0 => ?_) (fun hc0 => ?_)
 refine sy_seq ?_
 refine sy_tx' [0, 1] rfl ?_
 refine clV rfl cal18 rfl rfl (c_awake _ _) ?_
 refine sp rfl (PE.assign rfl) rfl ?_
 refine sy_ret ?_
 exact sy_return (vs := [_]) rfl (.cons (RV.tmp rfl) .nil) rfl ⟨rfl, rfl, rfl⟩ (fun w h => by first | exact (((h.del b4).del b3).del b1).facts (fun g hg => by simp [hg]) | exact h.del b1)
 have h8 : ¬ 8 < b.bins.length := by unfold wideV at hc0; rw [Bool.or_eq_false_iff] at hc0; simpa using hc0.1
 refine sy_skip ?_
 refine sy_seq ?_
 refine sy_free [0, 1, 0, 7, 0, 0, 63, 127] [0, 1, 2, 3, 4, 5, 6, 7] mixed (by kernel_rfl) rfl (fun s L H1 R1 => ∃ (a1 : Option Addr) (c1 : Nat) (a2 : Option Addr) (c2 : Nat) (b3 : Nat) (x3 : List Value) (b4 : Nat) (x4 : List Value), Sub [(1, .pointer (some ⟨b1, 0, none⟩))] L ∧ (∀ f ∈ (R : Facts), f ∈ R1) ∧ (s 0 = true → lk L 20 = some (b.v (b.sl ab cb))) ∧ (s 1 = true → lk L 21 = some (b.v (b.sl a1 c1)) ∧ (RowsA a1 4 (brows b.bins)) ∈ R1) ∧ (s 2 = true → lk L 22 = some (b.v (b.sl ab cb))) ∧ (s 3 = true → lk L 23 = some (b.v (b.sl a2 c2)) ∧ (RowsA a2 4 (brows b.bins)) ∈ R1) ∧ (s 4 = true → lk L 3 = some (.pointer (some ⟨b3, 0, none⟩)) ∧ (s 6 = false → x3 = [.int .i64 0, .int .i64 0, .int .i64 0, .int .i64 0, .int .i64 0, .int .i64 0, .int .i64 0, .int .i64 0, .slice none 0 0])) ∧ (s 5 = true → lk L 4 = some (.pointer (some ⟨b4, 0, none⟩)) ∧ (s 7 = false → x4 = [.int .i64 0, .int .i64 0, .int .i64 0, .int .i64 0, .int .i64 0, .int .i64 0, .int .i64 0, .int .i64 0, .slice none 0 0])) ∧ (s 6 = true → x3 = btl b (b.sl a1 c1)) ∧ (s 7 = true → x4 = btl b (b.sl a2 c2)) ∧ ∀ w, St H1 R1 w → St ((bif s 5 then [(b4, cel 33 x4)] else []) ++ ((bif s 4 then [(b3, cel 25 x3)] else []) ++ ((b1, cel 25 (btl b (b.sl ab cb))) :: H))) R1 w) ?_ ?_ ?_
 exact ⟨none, 0, none, 0, 0, [], 0, [], (by repeat' first | exact Sub.nil | apply Sub.cons | rfl | (simp [lk]; omega)), fun _ hf => hf, (fun h => by cases (show false = true from h)), (fun h => by cases (show false = true from h)), (fun h => by cases (show false = true from h)), (fun h => by cases (show false = true from h)), (fun h => by cases (show false = true from h)), (fun h => by cases (show false = true from h)), (fun h => by cases (show false = true from h)), (fun h => by cases (show false = true from h)), fun w h => h⟩
 refine ⟨?_, ?_, ?_, ?_, ?_, ?_, ?_, ?_, trivial⟩
 intro s Lz Hz Rz hdn hs hpre hI K hK
 obtain ⟨a1, c1, a2, c2, b3, x3, b4, x4, hL0, hR0, q0, q1, q2, q3, q4, q5, q6, q7, hH⟩ := hI
 refine Sy.heap hH ?_
 refine spL rfl (Sub.lk hL0 _ _ rfl) ((lhA (btl b (b.sl ab cb)) ag25 rfl rfl rfl)) rfl ?_
 exact hK _ _ _ ⟨a1, c1, a2, c2, b3, x3, b4, x4, sub_more rfl hL0, hR0, fun _ => lk_same, fun h => ⟨lk_more rfl (q1 h).1, (q1 h).2⟩, fun h => lk_more rfl (q2 h), fun h => ⟨lk_more rfl (q3 h).1, (q3 h).2⟩, fun h => ⟨lk_more rfl (q4 h).1, (q4 h).2⟩, fun h => ⟨lk_more rfl (q5 h).1, (q5 h).2⟩, fun h => q6 h, fun h => q7 h, fun w h => h⟩
 intro s Lz Hz Rz hdn hs hpre hI K hK
 obtain ⟨a1, c1, a2, c2, b3, x3, b4, x4, hL0, hR0, q0, q1, q2, q3, q4, q5, q6, q7, hH⟩ := hI
 have h0 : s 0 = true := hpre 0 rfl
 refine Sy.heap hH ?_
 haveI m0 : MemRows ab 4 (brows b.bins) Rz := ⟨hR0 _ (inferInstance : MemRows ab 4 (brows b.bins) (R)).mem⟩
 refine cl rfl cal19 rfl (by simp only [evs, show ev Lz (.tmp 20) = _ from (q0 h0)]) (c_OwnF b ab cb (by omega) _ _) ?_
 rintro _ _ R1 ⟨a1, c1, rfl, rfl, hR1⟩
 obtain rfl := hR1.symm
 clear hR1
 exact hK _ _ _ ⟨a1, c1, a2, c2, b3, x3, b4, x4, sub_more rfl hL0, fin_more (hR0), fun h => lk_more rfl (q0 h), fun _ => ⟨lk_same, (by simp)⟩, fun h => lk_more rfl (q2 h), fun h => ⟨lk_more rfl (q3 h).1, List.mem_cons_of_mem _ ((q3 h).2)⟩, fun h => ⟨lk_more rfl (q4 h).1, (q4 h).2⟩, fun h => ⟨lk_more rfl (q5 h).1, (q5 h).2⟩, fun h => absurd (hdn 6 1 (Nat.le_of_ble_eq_true rfl) rfl h) (by rw [hs]; exact Bool.false_ne_true), fun h => q7 h, fun w h => h⟩
 intro s Lz Hz Rz hdn hs hpre hI K hK
 obtain ⟨a1, c1, a2, c2, b3, x3, b4, x4, hL0, hR0, q0, q1, q2, q3, q4, q5, q6, q7, hH⟩ := hI
 refine Sy.heap hH ?_
 refine spL rfl (Sub.lk hL0 _ _ rfl) ((lhA (btl b (b.sl ab cb)) ag25 rfl rfl rfl)) rfl ?_
 exact hK _ _ _ ⟨a1, c1, a2, c2, b3, x3, b4, x4, sub_more rfl hL0, hR0, fun h => lk_more rfl (q0 h), fun h => ⟨lk_more rfl (q1 h).1, (q1 h).2⟩, fun _ => lk_same, fun h => ⟨lk_more rfl (q3 h).1, (q3 h).2⟩, fun h => ⟨lk_more rfl (q4 h).1, (q4 h).2⟩, fun h => ⟨lk_more rfl (q5 h).1, (q5 h).2⟩, fun h => q6 h, fun h => q7 h, fun w h => h⟩
 intro s Lz Hz Rz hdn hs hpre hI K hK
 obtain ⟨a1, c1, a2, c2, b3, x3, b4, x4, hL0, hR0, q0, q1, q2, q3, q4, q5, q6, q7, hH⟩ := hI
 obtain ⟨h0, h1, h2⟩ : s 0 = true ∧ s 1 = true ∧ s 2 = true := ⟨hpre 0 rfl, hpre 1 rfl, hpre 2 rfl⟩
 refine Sy.heap hH ?_
 haveI m0 : MemRows ab 4 (brows b.bins) Rz := ⟨hR0 _ (inferInstance : MemRows ab 4 (brows b.bins) (R)).mem⟩
 refine cl rfl cal20 rfl (by simp only [evs, show ev Lz (.tmp 22) = _ from (q2 h2)]) (c_theirs b ab cb (by omega) _ _) ?_
 rintro _ _ R1 ⟨a2, c2, rfl, rfl, hR1⟩
 obtain rfl := hR1.symm
 clear hR1
 exact hK _ _ _ ⟨a1, c1, a2, c2, b3, x3, b4, x4, sub_more rfl hL0, fin_more (hR0), fun h => lk_more rfl (q0 h), fun h => ⟨lk_more rfl (q1 h).1, List.mem_cons_of_mem _ ((q1 h).2)⟩, fun h => lk_more rfl (q2 h), fun _ => ⟨lk_same, (by simp)⟩, fun h => ⟨lk_more rfl (q4 h).1, (q4 h).2⟩, fun h => ⟨lk_more rfl (q5 h).1, (q5 h).2⟩, fun h => q6 h, fun h => absurd (hdn 7 3 (Nat.le_of_ble_eq_true rfl) rfl h) (by rw [hs]; exact Bool.false_ne_true), fun w h => h⟩
 intro s Lz Hz Rz hdn hs hpre hI K hK
 obtain ⟨a1, c1, a2, c2, b3, x3, b4, x4, hL0, hR0, q0, q1, q2, q3, q4, q5, q6, q7, hH⟩ := hI
 refine Sy.heap hH ?_
 refine alc rfl zl25 rfl (fun b3 => ?_)
 exact hK _ _ _ ⟨a1, c1, a2, c2, b3, [.int .i64 0, .int .i64 0, .int .i64 0, .int .i64 0, .int .i64 0, .int .i64 0, .int .i64 0, .int .i64 0, .slice none 0 0], b4, x4, sub_more rfl hL0, hR0, fun h => lk_more rfl (q0 h), fun h => ⟨lk_more rfl (q1 h).1, (q1 h).2⟩, fun h => lk_more rfl (q2 h), fun h => ⟨lk_more rfl (q3 h).1, (q3 h).2⟩, fun _ => ⟨lk_same, fun _ => rfl⟩, fun h => ⟨lk_more rfl (q5 h).1, (q5 h).2⟩, fun h => absurd (hdn 6 4 (Nat.le_of_ble_eq_true rfl) rfl h) (by rw [hs]; exact Bool.false_ne_true), fun h => q7 h, fun w h => by rw [hs] at h; exact h.perm (List.perm_middle.symm.trans (List.Perm.append_left _ (.refl _)))⟩
 intro s Lz Hz Rz hdn hs hpre hI K hK
 obtain ⟨a1, c1, a2, c2, b3, x3, b4, x4, hL0, hR0, q0, q1, q2, q3, q4, q5, q6, q7, hH⟩ := hI
 refine Sy.heap hH ?_
 refine alc rfl zl33 rfl (fun b4 => ?_)
 exact hK _ _ _ ⟨a1, c1, a2, c2, b3, x3, b4, [.int .i64 0, .int .i64 0, .int .i64 0, .int .i64 0, .int .i64 0, .int .i64 0, .int .i64 0, .int .i64 0, .slice none 0 0], sub_more rfl hL0, hR0, fun h => lk_more rfl (q0 h), fun h => ⟨lk_more rfl (q1 h).1, (q1 h).2⟩, fun h => lk_more rfl (q2 h), fun h => ⟨lk_more rfl (q3 h).1, (q3 h).2⟩, fun h => ⟨lk_more rfl (q4 h).1, (q4 h).2⟩, fun _ => ⟨lk_same, fun _ => rfl⟩, fun h => q6 h, fun h => absurd (hdn 7 5 (Nat.le_of_ble_eq_true rfl) rfl h) (by rw [hs]; exact Bool.false_ne_true), fun w h => by rw [hs] at h; exact h.perm (.refl _)⟩
 intro s Lz Hz Rz hdn hs hpre hI K hK
 obtain ⟨a1, c1, a2, c2, b3, x3, b4, x4, hL0, hR0, q0, q1, q2, q3, q4, q5, q6, q7, hH⟩ := hI
 obtain ⟨h0, h1, h2, h3, h4, h5⟩ : s 0 = true ∧ s 1 = true ∧ s 2 = true ∧ s 3 = true ∧ s 4 = true ∧ s 5 = true := ⟨hpre 0 rfl, hpre 1 rfl, hpre 2 rfl, hpre 3 rfl, hpre 4 rfl, hpre 5 rfl⟩
 refine Sy.heap hH ?_
 obtain rfl := (q4 h4).2 hs
 refine Sy.heap (H' := (bif s 5 then [(b4, cel 33 x4)] else []) ++ ((b3, cel 25 [.int .i64 0, .int .i64 0, .int .i64 0, .int .i64 0, .int .i64 0, .int .i64 0, .int .i64 0, .int .i64 0, .slice none 0 0]) :: ((b1, cel 25 (btl b (b.sl ab cb))) :: H))) (fun w h => by rw [h4] at h; exact h) ?_
 refine stoE (l' := btl b (b.sl a1 c1)) rfl (q4 h4).1 (q1 h1).1 cn25 rfl rfl rfl rfl (Nat.le_refl _) ?_
 exact hK _ _ _ ⟨a1, c1, a2, c2, b3, btl b (b.sl a1 c1), b4, x4, hL0, hR0, fun h => (q0 h), fun h => ⟨(q1 h).1, (q1 h).2⟩, fun h => (q2 h), fun h => ⟨(q3 h).1, (q3 h).2⟩, fun h => ⟨(q4 h).1, fun h => by cases (show true = false from h)⟩, fun h => ⟨(q5 h).1, (q5 h).2⟩, fun _ => rfl, fun h => q7 h, fun w h => by show St ((bif s 5 then [(b4, cel 33 x4)] else []) ++ ((bif s 4 then [(b3, cel 25 (btl b (b.sl a1 c1)))] else []) ++ ((b1, cel 25 (btl b (b.sl ab cb))) :: H))) Rz w; rw [h4]; exact h⟩
 intro s Lz Hz Rz hdn hs hpre hI K hK
 obtain ⟨a1, c1, a2, c2, b3, x3, b4, x4, hL0, hR0, q0, q1, q2, q3, q4, q5, q6, q7, hH⟩ := hI
 obtain ⟨h0, h1, h2, h3, h4, h5, h6⟩ : s 0 = true ∧ s 1 = true ∧ s 2 = true ∧ s 3 = true ∧ s 4 = true ∧ s 5 = true ∧ s 6 = true := ⟨hpre 0 rfl, hpre 1 rfl, hpre 2 rfl, hpre 3 rfl, hpre 4 rfl, hpre 5 rfl, hpre 6 rfl⟩
 refine Sy.heap hH ?_
 obtain rfl := (q5 h5).2 hs
 refine Sy.heap (H' := (b4, cel 33 [.int .i64 0, .int .i64 0, .int .i64 0, .int .i64 0, .int .i64 0, .int .i64 0, .int .i64 0, .int .i64 0, .slice none 0 0]) :: ((bif s 4 then [(b3, cel 25 x3)] else []) ++ ((b1, cel 25 (btl b (b.sl ab cb))) :: H))) (fun w h => by rw [h5] at h; exact h) ?_
 refine stoE (l' := btl b (b.sl a2 c2)) rfl (q5 h5).1 (q3 h3).1 cn33 rfl rfl rfl rfl (Nat.le_refl _) ?_
 exact hK _ _ _ ⟨a1, c1, a2, c2, b3, x3, b4, btl b (b.sl a2 c2), hL0, hR0, fun h => (q0 h), fun h => ⟨(q1 h).1, (q1 h).2⟩, fun h => (q2 h), fun h => ⟨(q3 h).1, (q3 h).2⟩, fun h => ⟨(q4 h).1, (q4 h).2⟩, fun h => ⟨(q5 h).1, fun h => by cases (show true = false from h)⟩, fun h => q6 h, fun _ => rfl, fun w h => by show St ((bif s 5 then [(b4, cel 33 (btl b (b.sl a2 c2)))] else []) ++ ((bif s 4 then [(b3, cel 25 x3)] else []) ++ ((b1, cel 25 (btl b (b.sl ab cb))) :: H))) Rz w; rw [h5]; exact h⟩
 intro Lz Hz Rz hI
 obtain ⟨a1, c1, a2, c2, b3, x3, b4, x4, hL0, hR0, q0, q1, q2, q3, q4, q5, q6, q7, hH⟩ := hI
 obtain rfl := q7 rfl
 obtain rfl := q6 rfl
 refine Sy.weak (L' := [(4, .pointer (some ⟨b4, 0, none⟩)), (3, .pointer (some ⟨b3, 0, none⟩)), (1, .pointer (some ⟨b1, 0, none⟩))]) (H' := (b4, cel 33 (btl b (b.sl a2 c2))) :: (b3, cel 25 (btl b (b.sl a1 c1))) :: (b1, cel 25 (btl b (b.sl ab cb))) :: H) (R' := RowsA a2 4 (brows b.bins) :: RowsA a1 4 (brows b.bins) :: R) ?_ (Sub.cons (q5 rfl).1 (Sub.cons (q4 rfl).1 hL0)).lk (fun w h => St.facts (hH w h) (fin_cons (q3 rfl).2 (fin_cons (q1 rfl).2 hR0)))
 refine sy_seq ?_
 refine sy_tx' [0, 1, 2] rfl ?_
 refine spL rfl rfl (lhA (btl b (b.sl a2 c2)) ag33 rfl rfl rfl) rfl ?_
 refine clV rfl cal22 rfl rfl (c_rCheck b a2 c2 hl hr _ _) ?_
 refine sp rfl (PE.assign rfl) rfl ?_
 refine sy_seq ?_
 refine sy_tx' [0, 1, 2, 3] rfl ?_
 refine sp rfl (PE.move rfl) rfl ?_
 refine sp rfl (PE.move rfl) rfl ?_
 refine sp rfl (PE.assign rfl) rfl ?_
 refine sp rfl (PE.assign rfl) rfl ?_
 refine sy_seq ?_
 refine sy_tx' [0, 1, 2] rfl ?_
 refine sp rfl (PE.assign rfl) rfl ?_
 refine sp rfl (PE.assign rfl) rfl ?_
 refine sp rfl (PE.assign rfl) rfl ?_
 refine sy_seq ?_
 refine sy_seq ?_
 refine sy_tx' [0, 1] rfl ?_
 refine sp rfl (PE.move rfl) rfl ?_
 refine sp rfl (PE.eql rfl rfl) rfl ?_
 refine sy_cond rfl (fun hc1 => ?_) (fun hc1 => ?_)
 try simp only [decide_eq_true_eq, decide_eq_false_iff_not, Bool.and_eq_true, Bool.or_eq_true, Bool.not_eq_true', Int.not_le, Int.not_lt] at hc1
 have hck : b.check = 0 := hc1
 have hok := Barn.ok_of hr hck
 have hmn := hok.many
 rw [hck]
 refine sy_seq ?_
 refine sy_seq ?_
 refine sy_tx' [0, 1, 2] rfl ?_
 refine spL rfl rfl (lhA (btl b (b.sl a2 c2)) ag33 rfl rfl rfl) rfl ?_
 refine cl rfl cal34 rfl rfl (c_rLongest b a2 c2 hok _ _) ?_
 rintro _ _ _ ⟨⟨m, hm, rfl⟩, rfl, rfl⟩
 refine sp rfl (PE.assign rfl) rfl ?_
 refine sy_seq ?_
 refine sy_tx' [0, 1] rfl ?_
 refine sp rfl (PE.move rfl) rfl ?_
 refine sp rfl (PE.eql rfl rfl) rfl ?_
 refine sy_join (ι := Unit) (fun _ => ⟨[(1, .pointer (some ⟨b1, 0, none⟩)), (3, .pointer (some ⟨b3, 0, none⟩)), (4, .pointer (some ⟨b4, 0, none⟩)), (5, .int .i64 0), (6, .int .i64 (bif decide (m = 1000000) then 6 else 0)), (7, .int .i64 0), (8, .int .i64 m), (9, .int .i64 (bif decide (m = 1000000) then 0 else m)), (10, .int .i64 0)], (b4, cel 33 (btl (b.withG b.gangs) (b.sl a2 c2))) :: (b3, cel 25 (btl b (b.sl a1 c1))) :: (b1, cel 25 (btl b (b.sl ab cb))) :: H, RowsA a2 4 (brows b.bins) :: RowsA a1 4 (brows b.bins) :: R⟩) ?_ ?_
 refine sy_cond rfl (fun hc2 => ?_) (fun hc2 => ?_)
 try simp only [decide_eq_true_eq, decide_eq_false_iff_not, Bool.and_eq_true, Bool.or_eq_true, Bool.not_eq_true', Int.not_le, Int.not_lt] at hc2
 refine sy_tx' [0] rfl ?_
 refine sp rfl (PE.assign rfl) rfl ?_
 first | exact sy_jend () (by dsimp only; rw [decide_eq_true (show m = 1000000 from hc2)]; exact (by repeat' first | exact Sub.nil | apply Sub.cons | rfl | (simp [lk]; omega))) (fun w h => h) | exact sy_jend () (by dsimp only; rw [decide_eq_false (show ¬ m = 1000000 from hc2)]; exact (by repeat' first | exact Sub.nil | apply Sub.cons | rfl | (simp [lk]; omega))) (fun w h => h)
 try simp only [decide_eq_true_eq, decide_eq_false_iff_not, Bool.and_eq_true, Bool.or_eq_true, Bool.not_eq_true', Int.not_le, Int.not_lt] at hc2
 refine sy_tx' [0, 1] rfl ?_
 refine sp rfl (PE.move rfl) rfl ?_
 refine sp rfl (PE.assign rfl) rfl ?_
 first | exact sy_jend () (by dsimp only; rw [decide_eq_true (show m = 1000000 from hc2)]; exact (by repeat' first | exact Sub.nil | apply Sub.cons | rfl | (simp [lk]; omega))) (fun w h => h) | exact sy_jend () (by dsimp only; rw [decide_eq_false (show ¬ m = 1000000 from hc2)]; exact (by repeat' first | exact Sub.nil | apply Sub.cons | rfl | (simp [lk]; omega))) (fun w h => h)
 rintro ⟨⟩
 refine sy_seq ?_
 refine sy_tx' [0] rfl ?_
 refine sp rfl (PE.assign rfl) rfl ?_
 refine sy_seq ?_
 refine sy_tx' [0, 1, 2, 3, 4] rfl ?_
 refine sp rfl (PE.fieldAddr fo25_3 rfl) rfl ?_
 refine spL rfl rfl (lh sc23 rfl rfl) rfl ?_
 refine sp rfl (PE.lenSl isl23 rfl) rfl ?_
 refine sp rfl (PE.fieldAddr fo33_1 rfl) rfl ?_
 refine stoE (l' := btl (b.withG (b.bins.length : Int)) (b.sl a2 c2)) rfl rfl rfl cn3 rfl rfl rfl rfl (Nat.le_of_ble_eq_true rfl) ?_
 refine sy_block ?_
 refine sy_loop (ι := {y : Nat × Int × Int // y.1 ≤ b.bins.length + 1 ∧ SpI b y.1 y.2.1 y.2.2}) (fun y => ⟨[(1, .pointer (some ⟨b1, 0, none⟩)), (3, .pointer (some ⟨b3, 0, none⟩)), (4, .pointer (some ⟨b4, 0, none⟩)), (5, .int .i64 0), (6, .int .i64 (bif decide (m = 1000000) then 6 else 0)), (7, .int .i64 y.1.2.2), (8, .int .i64 m), (9, .int .i64 (bif decide (m = 1000000) then 0 else m)), (10, .int .i64 y.1.2.1)], (b4, cel 33 (btl (b.withG ((y.1.1 : Int) - 1)) (b.sl a2 c2))) :: (b3, cel 25 (btl b (b.sl a1 c1))) :: (b1, cel 25 (btl b (b.sl ab cb))) :: H, RowsA a2 4 (brows b.bins) :: RowsA a1 4 (brows b.bins) :: R⟩) (fun y => y.1.1) ⟨(b.bins.length + 1, 0, 6), Nat.le_refl _, SpI.start b⟩ ?_ (fun y => ?_)
 exact sy_at (by repeat' first | exact Sub.nil | apply Sub.cons | rfl | (simp [lk]; omega)) (fun w h => by dsimp only; rw [show (((b.bins.length + 1 : Nat) : Int) - 1) = (b.bins.length : Int) by omega]; exact h)
 obtain ⟨⟨mg, spr, ve⟩, hmg, hsp⟩ := y
 dsimp only at hmg hsp ⊢
 refine sy_seq ?_
 refine sy_seq ?_
 refine sy_tx' [0, 1, 2] rfl ?_
 refine sp rfl (PE.fieldAddr fo33_1 rfl) rfl ?_
 refine spL rfl rfl (lh sc3 rfl rfl) rfl ?_
 refine sp rfl (PE.geq rfl rfl) rfl ?_
 refine sy_cond rfl (fun hc3 => ?_) (fun hc3 => ?_)
 try simp only [decide_eq_true_eq, decide_eq_false_iff_not, Bool.and_eq_true, Bool.or_eq_true, Bool.not_eq_true', Int.not_le, Int.not_lt] at hc3
 obtain ⟨k, rfl⟩ : ∃ k, mg = k + 1 := ⟨mg - 1, by have h9 : (b.withG ((mg : Int) - 1)).gangs = (mg : Int) - 1 := rfl; omega⟩
 have hgk : (b.withG k).ok := b.withG_ok hok (by omega)
 rw [show (((k + 1 : Nat) : Int) - 1) = (k : Int) by omega]
 refine sy_skip ?_
 refine sy_seq ?_
 refine sy_block ?_
 refine sy_seq ?_
 refine sy_tx' [0, 1, 2] rfl ?_
 refine spL rfl rfl (lhA (btl (b.withG k) (b.sl a2 c2)) ag33 rfl rfl rfl) rfl ?_
 refine cl rfl cal34 rfl rfl (c_rLongest (b.withG k) a2 c2 hgk _ _) ?_
 rintro _ _ _ ⟨⟨m', hm', rfl⟩, rfl, rfl⟩
 refine sp rfl (PE.eql rfl rfl) rfl ?_
 refine sy_cond rfl (fun hc4 => ?_) (fun hc4 => ?_)
 try simp only [decide_eq_true_eq, decide_eq_false_iff_not, Bool.and_eq_true, Bool.or_eq_true, Bool.not_eq_true', Int.not_le, Int.not_lt] at hc4
 have hsn := SpI.yes (b := b) (k := k) (by omega) (by rw [← show m' = 1000000 from hc4]; exact hm')
 refine sy_tx' [0, 1, 2, 3] rfl ?_
 refine sp rfl (PE.fieldAddr fo33_1 rfl) rfl ?_
 refine spL rfl rfl (lh sc3 rfl rfl) rfl ?_
 refine sp rfl (PE.assign rfl) rfl ?_
 refine sp rfl (PE.assign rfl) rfl ?_
 refine sy_tx' [0, 1, 2, 3, 4] rfl ?_
 refine sp rfl (PE.fieldAddr fo33_1 rfl) rfl ?_
 refine spL rfl rfl (lh sc3 rfl rfl) rfl ?_
 refine sp rfl (PE.sub rfl rfl (by have h9 : (b.withG (k : Int)).gangs = (k : Int) := rfl; omega)) rfl ?_
 refine sp rfl (PE.fieldAddr fo33_1 rfl) rfl ?_
 refine stoE (l' := btl (b.withG ((k : Int) - 1)) (b.sl a2 c2)) rfl rfl rfl cn3 rfl rfl rfl rfl (Nat.le_of_ble_eq_true rfl) ?_
 first | exact sy_next ⟨(k, (k : Int), 0), by dsimp only; omega, hsn⟩ (by dsimp only; omega) (by repeat' first | exact Sub.nil | apply Sub.cons | rfl | (simp [lk]; omega)) (fun _ h => h) | exact sy_next ⟨(k, spr, ve), by dsimp only; omega, hsn⟩ (by dsimp only; omega) (by repeat' first | exact Sub.nil | apply Sub.cons | rfl | (simp [lk]; omega)) (fun _ h => h)
 try simp only [decide_eq_true_eq, decide_eq_false_iff_not, Bool.and_eq_true, Bool.or_eq_true, Bool.not_eq_true', Int.not_le, Int.not_lt] at hc4
 have hsn := hsp.no (k := k) ⟨m', hc4, hm'⟩
 refine sy_skip ?_
 refine sy_tx' [0, 1, 2, 3, 4] rfl ?_
 refine sp rfl (PE.fieldAddr fo33_1 rfl) rfl ?_
 refine spL rfl rfl (lh sc3 rfl rfl) rfl ?_
 refine sp rfl (PE.sub rfl rfl (by have h9 : (b.withG (k : Int)).gangs = (k : Int) := rfl; omega)) rfl ?_
 refine sp rfl (PE.fieldAddr fo33_1 rfl) rfl ?_
 refine stoE (l' := btl (b.withG ((k : Int) - 1)) (b.sl a2 c2)) rfl rfl rfl cn3 rfl rfl rfl rfl (Nat.le_of_ble_eq_true rfl) ?_
 first | exact sy_next ⟨(k, (k : Int), 0), by dsimp only; omega, hsn⟩ (by dsimp only; omega) (by repeat' first | exact Sub.nil | apply Sub.cons | rfl | (simp [lk]; omega)) (fun _ h => h) | exact sy_next ⟨(k, spr, ve), by dsimp only; omega, hsn⟩ (by dsimp only; omega) (by repeat' first | exact Sub.nil | apply Sub.cons | rfl | (simp [lk]; omega)) (fun _ h => h)
 try simp only [decide_eq_true_eq, decide_eq_false_iff_not, Bool.and_eq_true, Bool.or_eq_true, Bool.not_eq_true', Int.not_le, Int.not_lt] at hc3
 obtain rfl : mg = 0 := by have h9 : (b.withG ((mg : Int) - 1)).gangs = (mg : Int) - 1 := rfl; omega
 refine sy_exit ?_
 repeat refine sy_tx ?_
 refine sy_bx ?_
 refine sy_seq ?_
 refine sy_tx' [0, 1, 2, 3, 4, 5, 6] rfl ?_
 refine spL rfl rfl (lhA (btl b (b.sl a1 c1)) ag25 rfl rfl rfl) rfl ?_
 refine clV rfl cal35 rfl rfl (c_LongestK b a1 c1 hl hr hck hm _ _) ?_
 refine sp rfl (PE.move rfl) rfl ?_
 refine sp rfl (PE.extract rfl rfl) rfl ?_
 refine sp rfl (PE.extract rfl rfl) rfl ?_
 refine sp rfl (PE.assign rfl) rfl ?_
 refine sp rfl (PE.assign rfl) rfl ?_
 refine sy_seq ?_
 refine sy_tx' [0, 1, 2, 3, 4, 5, 6] rfl ?_
 refine spL rfl rfl (lhA (btl b (b.sl a1 c1)) ag25 rfl rfl rfl) rfl ?_
 refine clV rfl cal36 rfl rfl (c_FirstK b a1 c1 hl hr hck hm _ _) ?_
 refine sp rfl (PE.move rfl) rfl ?_
 refine sp rfl (PE.extract rfl rfl) rfl ?_
 refine sp rfl (PE.extract rfl rfl) rfl ?_
 refine sp rfl (PE.assign rfl) rfl ?_
 refine sp rfl (PE.assign rfl) rfl ?_
 refine sy_seq ?_
 refine sy_tx' [0, 1, 2, 3, 4, 5, 6] rfl ?_
 refine spL rfl rfl (lhA (btl b (b.sl a1 c1)) ag25 rfl rfl rfl) rfl ?_
 refine clV rfl cal37 rfl rfl (c_SpareK b a1 c1 hl hr hck hsp _ _) ?_
 refine sp rfl (PE.move rfl) rfl ?_
 refine sp rfl (PE.extract rfl rfl) rfl ?_
 refine sp rfl (PE.extract rfl rfl) rfl ?_
 refine sp rfl (PE.assign rfl) rfl ?_
 refine sp rfl (PE.assign rfl) rfl ?_
 refine sy_seq ?_
 refine sy_tx' [0, 1, 2, 3, 4, 5, 6, 7, 8, 9, 10, 11, 12, 13, 14, 15, 16, 17, 18, 19, 20, 21, 22, 23, 24, 25, 26, 27, 28, 29, 30, 31, 32, 33, 34, 35, 36] rfl ?_
 refine sp rfl (PE.move rfl) rfl ?_
 refine sp rfl (PE.move rfl) rfl ?_
 refine sp rfl (PE.eql rfl rfl) rfl ?_
 refine sp rfl (PE.move rfl) rfl ?_
 refine sy_case (t := 69) rfl (fun g69 => ?_) (fun g69 => ?_)
 refine spG rfl rfl rfl rfl (PE.move rfl) rfl ?_
 refine spG rfl rfl rfl rfl (PE.move rfl) rfl ?_
 refine spG rfl rfl rfl rfl (PE.eql rfl rfl) rfl ?_
 refine sp rfl (PE.pick rfl rfl rfl) rfl ?_
 refine sp rfl (PE.move rfl) rfl ?_
 refine sy_case (t := 74) rfl (fun g74 => ?_) (fun g74 => ?_)
 refine spG rfl rfl rfl rfl (PE.move rfl) rfl ?_
 refine spG rfl rfl rfl rfl (PE.move rfl) rfl ?_
 refine spG rfl rfl rfl rfl (PE.eql rfl rfl) rfl ?_
 refine sp rfl (PE.pick rfl rfl rfl) rfl ?_
 refine sp rfl (PE.move rfl) rfl ?_
 refine sy_case (t := 79) rfl (fun g79 => ?_) (fun g79 => ?_)
 refine spG rfl rfl rfl rfl (PE.move rfl) rfl ?_
 refine spG rfl rfl rfl rfl (PE.move rfl) rfl ?_
 refine spG rfl rfl rfl rfl (PE.eql rfl rfl) rfl ?_
 refine sp rfl (PE.pick rfl rfl rfl) rfl ?_
 refine sp rfl (PE.move rfl) rfl ?_
 refine sy_case (t := 84) rfl (fun g84 => ?_) (fun g84 => ?_)
 refine spG rfl rfl rfl rfl (PE.move rfl) rfl ?_
 refine spG rfl rfl rfl rfl (PE.move rfl) rfl ?_
 refine spG rfl rfl rfl rfl (PE.eql rfl rfl) rfl ?_
 refine sp rfl (PE.pick rfl rfl rfl) rfl ?_
 refine sp rfl (PE.move rfl) rfl ?_
 refine sy_case (t := 89) rfl (fun g89 => ?_) (fun g89 => ?_)
 refine spG rfl rfl rfl rfl (PE.move rfl) rfl ?_
 refine spG rfl rfl rfl rfl (PE.move rfl) rfl ?_
 refine spG rfl rfl rfl rfl (PE.eql rfl rfl) rfl ?_
 refine sp rfl (PE.pick rfl rfl rfl) rfl ?_
 refine sp rfl (PE.move rfl) rfl ?_
 refine sy_case (t := 94) rfl (fun g94 => ?_) (fun g94 => ?_)
 refine spLG rfl rfl rfl rfl rfl (lhA (btl b (b.sl a1 c1)) ag25 rfl rfl rfl) rfl ?_
 refine spLG rfl rfl rfl rfl rfl (lhA (btl b (b.sl ab cb)) ag25 rfl rfl rfl) rfl ?_
 refine clVG rfl rfl rfl rfl cal31 rfl rfl (c_same b a1 c1 b ab cb hl hl hr hr _ _) ?_
 refine sp rfl (PE.pick rfl rfl rfl) rfl ?_
 refine sp rfl (PE.move rfl) rfl ?_
 refine sy_case (t := 99) rfl (fun g99 => ?_) (fun g99 => ?_)
 refine clVG rfl rfl rfl rfl cal18 rfl rfl (c_awake _ _) ?_
 refine sp rfl (PE.pick rfl rfl rfl) rfl ?_
 refine sp rfl (PE.assign rfl) rfl ?_
 refine sy_ret ?_
 exact sy_return (vs := [_]) rfl (.cons (RV.tmp rfl) .nil) rfl ⟨rfl, rfl, rfl⟩ (fun w h => by first | exact (((h.del b4).del b3).del b1).facts (fun g hg => by simp [hg]) | exact h.del b1)
 rw [sameB_iff.2 rfl] at g99; exact absurd g99 (by decide)
 exact absurd g94 (by simp)
 exact absurd g89 (by simp)
 exact absurd g84 (by simp)
 exact absurd g79 (by simp)
 exact absurd g74 (by simp)
 exact absurd g69 (by simp)
 try simp only [decide_eq_true_eq, decide_eq_false_iff_not, Bool.and_eq_true, Bool.or_eq_true, Bool.not_eq_true', Int.not_le, Int.not_lt] at hc1
 have hcn : b.check ≠ 0 := hc1
 refine sy_skip ?_
 refine sy_seq ?_
 refine sy_tx' [0, 1, 2, 3, 4, 5, 6] rfl ?_
 refine spL rfl rfl (lhA (btl b (b.sl a1 c1)) ag25 rfl rfl rfl) rfl ?_
 refine clV rfl cal35 rfl rfl (c_LongestE b a1 c1 hl hr hcn _ _) ?_
 refine sp rfl (PE.move rfl) rfl ?_
 refine sp rfl (PE.extract rfl rfl) rfl ?_
 refine sp rfl (PE.extract rfl rfl) rfl ?_
 refine sp rfl (PE.assign rfl) rfl ?_
 refine sp rfl (PE.assign rfl) rfl ?_
 refine sy_seq ?_
 refine sy_tx' [0, 1, 2, 3, 4, 5, 6] rfl ?_
 refine spL rfl rfl (lhA (btl b (b.sl a1 c1)) ag25 rfl rfl rfl) rfl ?_
 refine clV rfl cal36 rfl rfl (c_FirstE b a1 c1 hl hr hcn _ _) ?_
 refine sp rfl (PE.move rfl) rfl ?_
 refine sp rfl (PE.extract rfl rfl) rfl ?_
 refine sp rfl (PE.extract rfl rfl) rfl ?_
 refine sp rfl (PE.assign rfl) rfl ?_
 refine sp rfl (PE.assign rfl) rfl ?_
 refine sy_seq ?_
 refine sy_tx' [0, 1, 2, 3, 4, 5, 6] rfl ?_
 refine spL rfl rfl (lhA (btl b (b.sl a1 c1)) ag25 rfl rfl rfl) rfl ?_
 refine clV rfl cal37 rfl rfl (c_SpareE b a1 c1 hl hr hcn _ _) ?_
 refine sp rfl (PE.move rfl) rfl ?_
 refine sp rfl (PE.extract rfl rfl) rfl ?_
 refine sp rfl (PE.extract rfl rfl) rfl ?_
 refine sp rfl (PE.assign rfl) rfl ?_
 refine sp rfl (PE.assign rfl) rfl ?_
 refine sy_seq ?_
 refine sy_tx' [0, 1, 2, 3, 4, 5, 6, 7, 8, 9, 10, 11, 12, 13, 14, 15, 16, 17, 18, 19, 20, 21, 22, 23, 24, 25, 26, 27, 28, 29, 30, 31, 32, 33, 34, 35, 36] rfl ?_
 refine sp rfl (PE.move rfl) rfl ?_
 refine sp rfl (PE.move rfl) rfl ?_
 refine sp rfl (PE.eql rfl rfl) rfl ?_
 refine sp rfl (PE.move rfl) rfl ?_
 refine sy_case (t := 69) rfl (fun g69 => ?_) (fun g69 => ?_)
 refine spG rfl rfl rfl rfl (PE.move rfl) rfl ?_
 refine spG rfl rfl rfl rfl (PE.move rfl) rfl ?_
 refine spG rfl rfl rfl rfl (PE.eql rfl rfl) rfl ?_
 refine sp rfl (PE.pick rfl rfl rfl) rfl ?_
 refine sp rfl (PE.move rfl) rfl ?_
 refine sy_case (t := 74) rfl (fun g74 => ?_) (fun g74 => ?_)
 refine spG rfl rfl rfl rfl (PE.move rfl) rfl ?_
 refine spG rfl rfl rfl rfl (PE.move rfl) rfl ?_
 refine spG rfl rfl rfl rfl (PE.eql rfl rfl) rfl ?_
 refine sp rfl (PE.pick rfl rfl rfl) rfl ?_
 refine sp rfl (PE.move rfl) rfl ?_
 refine sy_case (t := 79) rfl (fun g79 => ?_) (fun g79 => ?_)
 refine spG rfl rfl rfl rfl (PE.move rfl) rfl ?_
 refine spG rfl rfl rfl rfl (PE.move rfl) rfl ?_
 refine spG rfl rfl rfl rfl (PE.eql rfl rfl) rfl ?_
 refine sp rfl (PE.pick rfl rfl rfl) rfl ?_
 refine sp rfl (PE.move rfl) rfl ?_
 refine sy_case (t := 84) rfl (fun g84 => ?_) (fun g84 => ?_)
 refine spG rfl rfl rfl rfl (PE.move rfl) rfl ?_
 refine spG rfl rfl rfl rfl (PE.move rfl) rfl ?_
 refine spG rfl rfl rfl rfl (PE.eql rfl rfl) rfl ?_
 refine sp rfl (PE.pick rfl rfl rfl) rfl ?_
 refine sp rfl (PE.move rfl) rfl ?_
 refine sy_case (t := 89) rfl (fun g89 => ?_) (fun g89 => ?_)
 refine spG rfl rfl rfl rfl (PE.move rfl) rfl ?_
 refine spG rfl rfl rfl rfl (PE.move rfl) rfl ?_
 refine spG rfl rfl rfl rfl (PE.eql rfl rfl) rfl ?_
 refine sp rfl (PE.pick rfl rfl rfl) rfl ?_
 refine sp rfl (PE.move rfl) rfl ?_
 refine sy_case (t := 94) rfl (fun g94 => ?_) (fun g94 => ?_)
 refine spLG rfl rfl rfl rfl rfl (lhA (btl b (b.sl a1 c1)) ag25 rfl rfl rfl) rfl ?_
 refine spLG rfl rfl rfl rfl rfl (lhA (btl b (b.sl ab cb)) ag25 rfl rfl rfl) rfl ?_
 refine clVG rfl rfl rfl rfl cal31 rfl rfl (c_same b a1 c1 b ab cb hl hl hr hr _ _) ?_
 refine sp rfl (PE.pick rfl rfl rfl) rfl ?_
 refine sp rfl (PE.move rfl) rfl ?_
 refine sy_case (t := 99) rfl (fun g99 => ?_) (fun g99 => ?_)
 refine clVG rfl rfl rfl rfl cal18 rfl rfl (c_awake _ _) ?_
 refine sp rfl (PE.pick rfl rfl rfl) rfl ?_
 refine sp rfl (PE.assign rfl) rfl ?_
 refine sy_ret ?_
 exact sy_return (vs := [_]) rfl (.cons (RV.tmp rfl) .nil) rfl ⟨rfl, rfl, rfl⟩ (fun w h => by first | exact (((h.del b4).del b3).del b1).facts (fun g hg => by simp [hg]) | exact h.del b1)
 rw [sameB_iff.2 rfl] at g99; exact absurd g99 (by decide)
 exact absurd g94 (by simp)
 exact absurd g89 (by simp)
 exact absurd g84 (by simp)
 exact absurd g79 (by simp)
 exact absurd g74 (by simp)
 exact absurd g69 (by simp)
end Go.Proofs.Ytelegnmfhjfbaaa
namespace Go.Proofs.Ytelegnmfhjfbaaa
set_option linter.unusedSimpArgs false
set_option linter.unusedVariables false
open Go Go.ChangeShapes Go.WideShapes Go.RowKit
section weigh
variable {H : Type} {enc : TypeId × Value → H} {P : Program} {w : World} {base : Nat} {spare : Nat → Bool} {held : Bool}
theorem weight_slice {t e fuel : Nat} {cs : List Value} {x : DataW H × List MemPlace} (hu : P.underlying t = some (.slice e)) (h : DataW.trod enc P w base spare held fuel t cs = some x) {a : Option Addr} {len cap : Nat} (hc : cs = [.slice a len cap]) {B : Nat} (hw : ∀ n ∈ x.1.weights P t, n ≤ B) : len * P.bytesOf e ≤ B := by
  rcases DataW.trod_slice hu h with ⟨h1, _⟩ | ⟨a', len', cap', elems, rest, n, _, h1, rfl, hb, hl, hm, hlen, _⟩
  · rw [h1] at hc
    simp only [List.cons.injEq, Value.slice.injEq, and_true] at hc
    rw [← hc.2.1]; simp
  · rw [h1] at hc
    simp only [List.cons.injEq, Value.slice.injEq, and_true] at hc
    have := hw ((elems.length + rest.length) * P.bytesOf e) (by simp [DataW.weights, hu])
    refine Nat.le_trans (Nat.mul_le_mul_right _ (by omega)) this
theorem weight_field {T e fuel k : Nat} {fs : Array Field} {cs : List Value} {x : DataW H × List MemPlace} {f : Field} (hu : P.underlying T = some (.struct fs)) (h : DataW.trod enc P w base spare held fuel T cs = some x) (hf : fs[k]? = some f) (hs : P.underlying f.type = some (.slice e)) {a : Option Addr} {len cap : Nat}
    (hc : (cs.drop f.offset).take (P.cellsOf f.type) = [.slice a len cap]) {B : Nat} (hw : ∀ n ∈ x.1.weights P T, n ≤ B) : len * P.bytesOf e ≤ B := by
  obtain ⟨xs, n, _, rfl, _, hxl, hx⟩ := DataW.trod_struct hu h
  have h1 := hx k f hf
  obtain ⟨y, hy⟩ : ∃ y, xs[k]? = some y := ⟨_, List.getElem?_eq_getElem (by rw [hxl]; exact (Array.getElem?_eq_some_iff.1 hf).1)⟩
  rw [hy] at h1
  refine weight_slice hs h1 hc fun m hm => hw m ?_
  show m ∈ (DataW.agg (xs.map (·.1))).weights P T
  simp only [DataW.weights, hu]
  exact DataW.weights_mem_each (j := k) (t := f.type) (d := y.1) (by rw [List.getElem?_map, Array.getElem?_toList, hf]; rfl) (by rw [List.getElem?_map, hy]; rfl) m hm
end weigh
end Go.Proofs.Ytelegnmfhjfbaaa
