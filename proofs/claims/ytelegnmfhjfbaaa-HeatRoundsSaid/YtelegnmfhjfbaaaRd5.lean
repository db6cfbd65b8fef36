/- Walks of the functions of the program, and the laws that join them: what the last theorem of this claim needs, in order. -/
import Derived.Test.YtelegnmfhjfbaaaRd4
namespace Go.Proofs.Ytelegnmfhjfbaaa
set_option linter.unusedSimpArgs false
set_option linter.unusedVariables false
open Go
def longP (p : List (List Int)) : Bool := decide (24 < p.length) || p.any fun l => decide (8 < l.length)
theorem longP_no {p : List (List Int)} (h : longP p = false) : p.length ≤ 24 ∧ ∀ l ∈ p, l.length ≤ 8 := by
  unfold longP at h
  rw [Bool.or_eq_false_iff, decide_eq_false_iff_not, List.any_eq_false] at h
  exact ⟨by omega, fun l hl => by have := h.2 l hl; simp at this; omega⟩
theorem longP_hit {pl : List PL} {k : Nat} {x : PL} (hx : pl[k]? = some x) (h : 8 < x.l.length) : longP (lls pl) = true := by
  unfold longP
  rw [Bool.or_eq_true, List.any_eq_true]
  exact .inr ⟨x.l, List.mem_map.2 ⟨x, List.mem_of_getElem? hx, rfl⟩, decide_eq_true h⟩
theorem longP_miss {pl : List PL} (h1 : ¬ 24 < pl.length) (h : ∀ (i : Nat) (x : PL), pl[i]? = some x → ¬ 8 < x.l.length) : longP (lls pl) = false := by
  unfold longP
  rw [lls_len, decide_eq_false h1, Bool.false_or, List.any_eq_false]
  intro l hl
  obtain ⟨x, hx, rfl⟩ := List.mem_map.1 hl
  obtain ⟨i, hi, rfl⟩ := List.mem_iff_getElem.1 hx
  simpa using h i _ (List.getElem?_eq_getElem hi)
theorem c_long (pl : List PL) (ap : Option Addr) (cp : Nat) (hpl : pl.length ≤ 9223372036854775807) (hpi : ∀ x ∈ pl, x.l.length ≤ 9223372036854775807) (H : Heap) (R : Facts) [hP : MemRows ap 1 (plrows pl) R] [hI : MemF (Inn pl) R] :
    FnV Try.prog 17 [.slice ap pl.length cp] H R (.bool (longP (lls pl))) := by
 refine fn_of Try.func17 rfl Try.ntmps17 rfl ?_
 refine sy_seq ?_
 refine sy_tx' [0] rfl ?_
 refine sp rfl (PE.assign rfl) rfl ?_
 refine sy_seq ?_
 refine sy_seq ?_
 refine sy_tx' [0, 1, 2] rfl ?_
 refine sp rfl (PE.move rfl) rfl ?_
 refine sp rfl (PE.lenSl isl26 rfl) rfl ?_
 refine sp rfl (PE.gtr rfl rfl) rfl ?_
 refine sy_cond rfl (fun hc0 => ?_) (fun hc0 => ?_)
 try simp only [decide_eq_true_eq, decide_eq_false_iff_not, Bool.and_eq_true, Bool.or_eq_true, Bool.not_eq_true', Int.not_le, Int.not_lt] at hc0
 have hlg : longP (lls pl) = true := by unfold longP; rw [lls_len, decide_eq_true (by omega)]; rfl
 refine sy_seq ?_
 refine sy_tx' [0] rfl ?_
 refine sp rfl (PE.assign rfl) rfl ?_
 refine sy_ret ?_
 exact sy_return (vs := [_]) rfl (.cons (RV.tmp rfl) .nil) rfl ⟨by rw [hlg]; rfl, rfl, rfl⟩ (fun _ h => h)
 try simp only [decide_eq_true_eq, decide_eq_false_iff_not, Bool.and_eq_true, Bool.or_eq_true, Bool.not_eq_true', Int.not_le, Int.not_lt] at hc0
 refine sy_skip ?_
 refine sy_seq ?_
 refine sy_seq ?_
 refine sy_tx' [0, 1, 2] rfl ?_
 refine sp rfl (PE.move rfl) rfl ?_
 refine sp rfl (PE.lenSl isl26 rfl) rfl ?_
 refine sp rfl (PE.move rfl) rfl ?_
 refine sy_block ?_
 refine sy_loop (ι := {k : Nat // k ≤ pl.length ∧ ∀ i x, i < k → pl[i]? = some x → ¬ 8 < x.l.length}) (fun k => ⟨[(8, .slice ap pl.length cp), (9, .int .i64 pl.length), (10, .int .i64 k.1)], H, R⟩) (fun k => pl.length - k.1) ⟨0, Nat.zero_le _, fun i x hi => by omega⟩ ?_ (fun k => ?_)
 exact sy_at (by repeat' first | exact Sub.nil | apply Sub.cons | rfl | (simp [lk]; omega)) (fun _ h => h)
 obtain ⟨k, hk, hin⟩ := k
 dsimp only at hk hin ⊢
 refine sy_seq ?_
 refine sy_tx' [0] rfl ?_
 refine sp rfl (PE.lss rfl rfl) rfl ?_
 refine sy_seq ?_
 refine sy_cond rfl (fun hc1 => ?_) (fun hc1 => ?_)
 try simp only [decide_eq_true_eq, decide_eq_false_iff_not, Bool.and_eq_true, Bool.or_eq_true, Bool.not_eq_true', Int.not_le, Int.not_lt] at hc1
 obtain ⟨x, hx⟩ : ∃ x, pl[k]? = some x := ⟨_, List.getElem?_eq_getElem (by omega)⟩
 refine sy_addr (a := ap) (sz := 1) (rows := plrows pl) (by intro h0; have := congrArg List.length h0; rw [plrows_len] at this; simp only [List.length_nil] at this; omega) (fun ba oa he => ?_)
 subst he
 refine sy_skip ?_
 refine sy_seq ?_
 refine sy_block ?_
 refine sy_seq ?_
 refine sy_tx' [0, 1, 2] rfl ?_
 refine sp rfl (PE.indexAddr el26 rfl rfl (by omega) (by omega)) rfl ?_
 refine spL rfl rfl (lf0 sc40 (pl_get hx) rfl) rfl ?_
 refine sp rfl (PE.assign rfl) rfl ?_
 refine sy_seq ?_
 refine sy_tx' [0, 1, 2] rfl ?_
 refine sp rfl (PE.move rfl) rfl ?_
 refine sp rfl (PE.lenSl isl40 rfl) rfl ?_
 refine sp rfl (PE.gtr rfl rfl) rfl ?_
 refine sy_cond rfl (fun hc2 => ?_) (fun hc2 => ?_)
 try simp only [decide_eq_true_eq, decide_eq_false_iff_not, Bool.and_eq_true, Bool.or_eq_true, Bool.not_eq_true', Int.not_le, Int.not_lt] at hc2
 have hlg := longP_hit hx (by omega)
 refine sy_seq ?_
 refine sy_tx' [0] rfl ?_
 refine sp rfl (PE.assign rfl) rfl ?_
 refine sy_ret ?_
 exact sy_return (vs := [_]) rfl (.cons (RV.tmp rfl) .nil) rfl ⟨by rw [hlg]; rfl, rfl, rfl⟩ (fun _ h => h)
 try simp only [decide_eq_true_eq, decide_eq_false_iff_not, Bool.and_eq_true, Bool.or_eq_true, Bool.not_eq_true', Int.not_le, Int.not_lt] at hc2
 refine sy_skip ?_
 refine sy_tx' [0, 1] rfl ?_
 refine sp rfl (PE.add rfl rfl (by omega)) rfl ?_
 refine sp rfl (PE.move rfl) rfl ?_
 exact sy_next ⟨k + 1, by omega, fun i y hi hy => by
   rcases Nat.lt_or_ge i k with h3 | h3
   · exact hin i y h3 hy
   · obtain rfl : i = k := by omega
     rw [hx] at hy; cases hy; omega⟩ (by dsimp only; omega) (by repeat' first | exact Sub.nil | apply Sub.cons | rfl | (simp [lk]; omega)) (fun _ h => h)
 try simp only [decide_eq_true_eq, decide_eq_false_iff_not, Bool.and_eq_true, Bool.or_eq_true, Bool.not_eq_true', Int.not_le, Int.not_lt] at hc1
 obtain rfl : k = pl.length := by omega
 have hlg := longP_miss (pl := pl) (by omega) (fun i y hy => hin i y (List.getElem?_eq_some_iff.1 hy).1 hy)
 refine sy_exit ?_
 repeat refine sy_tx ?_
 refine sy_bx ?_
 refine sy_seq ?_
 refine sy_tx' [0] rfl ?_
 refine sp rfl (PE.assign rfl) rfl ?_
 refine sy_ret ?_
 exact sy_return (vs := [_]) rfl (.cons (RV.tmp rfl) .nil) rfl ⟨by rw [hlg]; rfl, rfl, rfl⟩ (fun _ h => h)
theorem c_has (xs : List Int) (a : Option Addr) (c : Nat) (v : Int) (hl : xs.length ≤ 9223372036854775807) (H : Heap) (R : Facts) [hR : MemRows a 1 (irows xs) R] :
    FnV Try.prog 73 [.slice a xs.length c, .int .i64 v] H R (.bool (xs.any fun x => decide (x = v))) := by
 refine fn_of Try.func73 rfl Try.ntmps73 rfl ?_
 refine sy_seq ?_
 refine sy_tx' [0] rfl ?_
 refine sp rfl (PE.assign rfl) rfl ?_
 refine sy_seq ?_
 refine sy_seq ?_
 refine sy_tx' [0] rfl ?_
 refine sp rfl (PE.assign rfl) rfl ?_
 refine sy_block ?_
 refine sy_loop (ι := {k : Nat // k ≤ xs.length ∧ ∀ i y, i < k → xs[i]? = some y → y ≠ v}) (fun k => ⟨[(0, .slice a xs.length c), (1, .int .i64 v), (5, .int .i64 k.1)], H, R⟩) (fun k => xs.length - k.1) ⟨0, Nat.zero_le _, fun i y hi => by omega⟩ ?_ (fun k => ?_)
 exact sy_at (by repeat' first | exact Sub.nil | apply Sub.cons | rfl | (simp [lk]; omega)) (fun _ h => h)
 obtain ⟨k, hk, hin⟩ := k
 dsimp only at hk hin ⊢
 refine sy_seq ?_
 refine sy_seq ?_
 refine sy_tx' [0, 1, 2, 3] rfl ?_
 refine sp rfl (PE.move rfl) rfl ?_
 refine sp rfl (PE.move rfl) rfl ?_
 refine sp rfl (PE.lenSl isl40 rfl) rfl ?_
 refine sp rfl (PE.lss rfl rfl) rfl ?_
 refine sy_cond rfl (fun hc0 => ?_) (fun hc0 => ?_)
 try simp only [decide_eq_true_eq, decide_eq_false_iff_not, Bool.and_eq_true, Bool.or_eq_true, Bool.not_eq_true', Int.not_le, Int.not_lt] at hc0
 obtain ⟨x, hx⟩ : ∃ x, xs[k]? = some x := ⟨_, List.getElem?_eq_getElem (by omega)⟩
 refine sy_addr (a := a) (sz := 1) (rows := irows xs) (by intro h0; have := congrArg List.length h0; rw [irows_len] at this; simp only [List.length_nil] at this; omega) (fun ba oa he => ?_)
 subst he
 refine sy_skip ?_
 refine sy_seq ?_
 refine sy_block ?_
 refine sy_seq ?_
 refine sy_tx' [0, 1, 2, 3, 4, 5] rfl ?_
 refine sp rfl (PE.move rfl) rfl ?_
 refine sp rfl (PE.move rfl) rfl ?_
 refine sp rfl (PE.indexAddr el40 rfl rfl (by omega) (by omega)) rfl ?_
 refine spL rfl rfl (lf0 sc3 (ir_get hx) rfl) rfl ?_
 refine sp rfl (PE.move rfl) rfl ?_
 refine sp rfl (PE.eql rfl rfl) rfl ?_
 refine sy_cond rfl (fun hc1 => ?_) (fun hc1 => ?_)
 try simp only [decide_eq_true_eq, decide_eq_false_iff_not, Bool.and_eq_true, Bool.or_eq_true, Bool.not_eq_true', Int.not_le, Int.not_lt] at hc1
 have hbn : (xs.any fun x => decide (x = v)) = true := List.any_eq_true.2 ⟨x, List.mem_of_getElem? hx, decide_eq_true hc1⟩
 refine sy_seq ?_
 refine sy_tx' [0] rfl ?_
 refine sp rfl (PE.assign rfl) rfl ?_
 refine sy_ret ?_
 exact sy_return (vs := [_]) rfl (.cons (RV.tmp rfl) .nil) rfl ⟨by rw [hbn]; rfl, rfl, rfl⟩ (fun _ h => h)
 try simp only [decide_eq_true_eq, decide_eq_false_iff_not, Bool.and_eq_true, Bool.or_eq_true, Bool.not_eq_true', Int.not_le, Int.not_lt] at hc1
 refine sy_skip ?_
 refine sy_tx' [0, 1, 2] rfl ?_
 refine sp rfl (PE.move rfl) rfl ?_
 refine sp rfl (PE.add rfl rfl (by omega)) rfl ?_
 refine sp rfl (PE.assign rfl) rfl ?_
 exact sy_next ⟨k + 1, by omega, fun i y hi hy => by
   rcases Nat.lt_or_ge i k with h3 | h3
   · exact hin i y h3 hy
   · obtain rfl : i = k := by omega
     rw [hx] at hy; cases hy; exact hc1⟩ (by dsimp only; omega) (by repeat' first | exact Sub.nil | apply Sub.cons | rfl | (simp [lk]; omega)) (fun _ h => h)
 try simp only [decide_eq_true_eq, decide_eq_false_iff_not, Bool.and_eq_true, Bool.or_eq_true, Bool.not_eq_true', Int.not_le, Int.not_lt] at hc0
 obtain rfl : k = xs.length := by omega
 have hbn : (xs.any fun x => decide (x = v)) = false := by
   rw [List.any_eq_false]; intro y hy
   obtain ⟨i, hi, rfl⟩ := List.mem_iff_getElem.1 hy
   simpa using hin i _ hi (List.getElem?_eq_getElem hi)
 refine sy_exit ?_
 repeat refine sy_tx ?_
 refine sy_bx ?_
 refine sy_seq ?_
 refine sy_tx' [0] rfl ?_
 refine sp rfl (PE.assign rfl) rfl ?_
 refine sy_ret ?_
 exact sy_return (vs := [_]) rfl (.cons (RV.tmp rfl) .nil) rfl ⟨by rw [hbn]; rfl, rfl, rfl⟩ (fun _ h => h)
theorem c_rPlanned (b : Barn) (ab : Option Addr) (cb : Nat) (hl : b.bins.length ≤ 9223372036854775807) (pl : List PL) (ap : Option Addr) (cp : Nat) (hpl : pl.length ≤ 9223372036854775807) (hpi : ∀ x ∈ pl, x.l.length ≤ 9223372036854775807) (H : Heap) (R : Facts) [hP : MemRows ap 1 (plrows pl) R] [hI : MemF (Inn pl) R] :
    FnV Try.prog 23 [b.v (b.sl ab cb), .slice ap pl.length cp] H R (.int .i64 (planErr ((b.bins.length : Int)) b.gangs (lls pl))) := by
 refine fn_of Try.func23 rfl Try.ntmps23 rfl ?_
 refine sy_seq ?_
 refine sy_tx' [0, 1] rfl ?_
 refine bx rfl rfl rfl (fun b2 => ?_)
 refine sp rfl (PE.assign rfl) rfl ?_
 refine sy_seq ?_
 refine sy_seq ?_
 refine sy_tx' [0, 1, 2] rfl ?_
 refine sp rfl (PE.move rfl) rfl ?_
 refine sp rfl (PE.lenSl isl26 rfl) rfl ?_
 refine sp rfl (PE.gtr rfl rfl) rfl ?_
 refine sy_cond rfl (fun hc0 => ?_) (fun hc0 => ?_)
 try simp only [decide_eq_true_eq, decide_eq_false_iff_not, Bool.and_eq_true, Bool.or_eq_true, Bool.not_eq_true', Int.not_le, Int.not_lt] at hc0
 have e : planErr ((b.bins.length : Int)) b.gangs (lls pl) = 2 := by unfold planErr; rw [lls_len, decide_eq_true (by omega)]; rfl
 refine sy_seq ?_
 refine sy_tx' [0] rfl ?_
 refine sp rfl (PE.assign rfl) rfl ?_
 refine sy_ret ?_
 exact sy_return (vs := [_]) rfl (.cons (RV.tmp rfl) .nil) rfl ⟨by first | (rw [e, e2]; rfl) | (rw [e]; rfl), rfl, rfl⟩ (fun w h => by first | exact St.sub (h.del b2) | skip)
 try simp only [decide_eq_true_eq, decide_eq_false_iff_not, Bool.and_eq_true, Bool.or_eq_true, Bool.not_eq_true', Int.not_le, Int.not_lt] at hc0
 have e : planErr ((b.bins.length : Int)) b.gangs (lls pl) = daysErr ((b.bins.length : Int)) b.gangs (lls pl) := by unfold planErr; rw [lls_len, decide_eq_false (by omega)]; rfl
 refine sy_skip ?_
 refine sy_seq ?_
 refine sy_seq ?_
 refine sy_tx' [0] rfl ?_
 refine sp rfl (PE.assign rfl) rfl ?_
 refine sy_block ?_
 refine sy_loop (ι := {k : Nat // k ≤ pl.length ∧ daysErr ((b.bins.length : Int)) b.gangs (lls pl) = daysErr ((b.bins.length : Int)) b.gangs ((lls pl).drop k)}) (fun k => ⟨[(1, .slice ap pl.length cp), (2, .pointer (some ⟨b2, 0, none⟩)), (5, .int .i64 k.1)], (b2, cel 33 (btl b (b.sl ab cb))) :: H, R⟩) (fun k => pl.length - k.1) ⟨0, Nat.zero_le _, rfl⟩ ?_ (fun k => ?_)
 exact sy_at (by repeat' first | exact Sub.nil | apply Sub.cons | rfl | (simp [lk]; omega)) (fun _ h => h)
 obtain ⟨k, hk, hke⟩ := k
 dsimp only at hk hke ⊢
 refine sy_seq ?_
 refine sy_seq ?_
 refine sy_tx' [0, 1, 2, 3] rfl ?_
 refine sp rfl (PE.move rfl) rfl ?_
 refine sp rfl (PE.move rfl) rfl ?_
 refine sp rfl (PE.lenSl isl26 rfl) rfl ?_
 refine sp rfl (PE.lss rfl rfl) rfl ?_
 refine sy_cond rfl (fun hc1 => ?_) (fun hc1 => ?_)
 try simp only [decide_eq_true_eq, decide_eq_false_iff_not, Bool.and_eq_true, Bool.or_eq_true, Bool.not_eq_true', Int.not_le, Int.not_lt] at hc1
 obtain ⟨x, hx⟩ : ∃ x, pl[k]? = some x := ⟨_, List.getElem?_eq_getElem (by omega)⟩
 have hxm := List.mem_of_getElem? hx
 have hxl := hpi x hxm
 rw [daysErr_drop (lls_get hx)] at hke
 refine sy_addr (a := ap) (sz := 1) (rows := plrows pl) (by intro h0; have := congrArg List.length h0; rw [plrows_len] at this; simp only [List.length_nil] at this; omega) (fun ba oa he => ?_)
 subst he
 refine Sy.heap (fun w h => St.inn (x := x) h hxm) ?_
 refine sy_skip ?_
 refine sy_seq ?_
 refine sy_block ?_
 refine sy_seq ?_
 refine sy_seq ?_
 refine sy_tx' [0] rfl ?_
 refine sp rfl (PE.assign rfl) rfl ?_
 refine sy_block ?_
 refine sy_loop (ι := {i : Nat // i ≤ x.l.length ∧ ∀ j u, j < i → x.l[j]? = some u → inB u 0 (((b.bins.length : Int)) - 1) = true}) (fun i => ⟨[(1, .slice (some ⟨ba, oa, none⟩) pl.length cp), (2, .pointer (some ⟨b2, 0, none⟩)), (5, .int .i64 k), (6, .int .i64 i.1)], (b2, cel 33 (btl b (b.sl ab cb))) :: H, RowsA x.a 1 (irows x.l) :: R⟩) (fun i => x.l.length - i.1) ⟨0, Nat.zero_le _, fun j u hj => by omega⟩ ?_ (fun i => ?_)
 exact sy_at (by repeat' first | exact Sub.nil | apply Sub.cons | rfl | (simp [lk]; omega)) (fun _ h => h)
 obtain ⟨i, hi, his⟩ := i
 dsimp only at hi his ⊢
 refine sy_seq ?_
 refine sy_seq ?_
 refine sy_tx' [0, 1, 2, 3, 4, 5, 6] rfl ?_
 refine sp rfl (PE.move rfl) rfl ?_
 refine sp rfl (PE.move rfl) rfl ?_
 refine sp rfl (PE.move rfl) rfl ?_
 refine sp rfl (PE.indexAddr el26 rfl rfl (by omega) (by omega)) rfl ?_
 refine spL rfl rfl (lf0 sc40 (pl_get hx) rfl) rfl ?_
 refine sp rfl (PE.lenSl isl40 rfl) rfl ?_
 refine sp rfl (PE.lss rfl rfl) rfl ?_
 refine sy_cond rfl (fun hc2 => ?_) (fun hc2 => ?_)
 try simp only [decide_eq_true_eq, decide_eq_false_iff_not, Bool.and_eq_true, Bool.or_eq_true, Bool.not_eq_true', Int.not_le, Int.not_lt] at hc2
 obtain ⟨u, hu⟩ : ∃ u, x.l[i]? = some u := ⟨_, List.getElem?_eq_getElem (by omega)⟩
 refine sy_addr (a := x.a) (sz := 1) (rows := irows x.l) (by intro h0; have := congrArg List.length h0; rw [irows_len] at this; simp only [List.length_nil] at this; omega) (fun bx ox he => ?_)
 rw [he]
 refine sy_skip ?_
 refine sy_seq ?_
 refine sy_block ?_
 refine sy_seq ?_
 refine sy_draw [0, 0, 3, 7, 0, 31, 63, 0, 128, 384, 896, 2047] (.tk 0 (.tk 1 (.tk 2 (.ld 3 (.tk 4 (.tk 5 (.ld 6 (.tk 7 (.ld 8 (.tk 9 (.tk 10 (.big 11 .done)))))))))))) mixed (by kernel_rfl) ?_
 refine tk rfl (PE.move rfl) rfl ?_
 refine tk rfl (PE.move rfl) rfl ?_
 refine tk rfl (PE.indexAddr el26 rfl rfl (by omega) (by omega)) rfl ?_
 refine ld rfl rfl (lf0 (row := [.slice (some ⟨bx, ox, none⟩) x.l.length x.c]) sc40 (by refine (pl_get hx).trans ?_; unfold plrow; rw [he]) rfl) rfl ?_
 refine tk rfl (PE.move rfl) rfl ?_
 refine tk rfl (PE.indexAddr el40 rfl rfl (by omega) (by omega)) rfl ?_
 refine ld rfl rfl (lf0 sc3 (ir_get hu) rfl) rfl ?_
 refine tk rfl (PE.fieldAddr fo33_3 rfl) rfl ?_
 refine ld rfl rfl (lh sc31 rfl rfl) rfl ?_
 refine tk rfl (PE.lenSl isl31 rfl) rfl ?_
 refine tk rfl (PE.sub rfl rfl (by omega)) rfl ?_
 refine clV rfl cal72 rfl rfl (c_off _ _ _ _ _) ?_
 refine bg (fun w hs => ⟨trivial, trivial, trivial, trivial⟩) ?_
 refine sy_cond rfl (fun hc3 => ?_) (fun hc3 => ?_)
 have hal : (x.l.all fun k => inB k 0 (((b.bins.length : Int)) - 1)) = false := by rw [List.all_eq_false]; rw [nin_in, Bool.not_eq_true'] at hc3; exact ⟨u, List.mem_of_getElem? hu, by rw [hc3]; decide⟩
 have ed : dayErr ((b.bins.length : Int)) b.gangs x.l = 1 := by unfold dayErr; rw [hal]; rfl
 rw [ed] at hke
 have e2 : daysErr ((b.bins.length : Int)) b.gangs (lls pl) = 1 := hke
 refine sy_seq ?_
 refine sy_tx' [0] rfl ?_
 refine sp rfl (PE.assign rfl) rfl ?_
 refine sy_ret ?_
 exact sy_return (vs := [_]) rfl (.cons (RV.tmp rfl) .nil) rfl ⟨by first | (rw [e, e2]; rfl) | (rw [e]; rfl), rfl, rfl⟩ (fun w h => by first | exact St.sub (h.del b2) | skip)
 rw [nin_in, Bool.not_eq_false'] at hc3
 refine sy_skip ?_
 refine sy_tx' [0, 1, 2] rfl ?_
 refine sp rfl (PE.move rfl) rfl ?_
 refine sp rfl (PE.add rfl rfl (by omega)) rfl ?_
 refine sp rfl (PE.assign rfl) rfl ?_
 exact sy_next ⟨i + 1, by omega, fun j w hj hw => by
   rcases Nat.lt_or_ge j i with h3 | h3
   · exact his j w h3 hw
   · obtain rfl : j = i := by omega
     rw [hu] at hw; cases hw; exact hc3⟩ (by dsimp only; omega) (by repeat' first | exact Sub.nil | apply Sub.cons | rfl | (simp [lk]; omega)) (fun _ h => h)
 try simp only [decide_eq_true_eq, decide_eq_false_iff_not, Bool.and_eq_true, Bool.or_eq_true, Bool.not_eq_true', Int.not_le, Int.not_lt] at hc2
 obtain rfl : i = x.l.length := by omega
 have hal : (x.l.all fun k => inB k 0 (((b.bins.length : Int)) - 1)) = true := by
   rw [List.all_eq_true]; intro y hy
   obtain ⟨j, hj, rfl⟩ := List.mem_iff_getElem.1 hy
   exact his j _ hj (List.getElem?_eq_getElem hj)
 refine sy_exit ?_
 repeat refine sy_tx ?_
 refine sy_bx ?_
 refine sy_seq ?_
 refine sy_seq ?_
 refine sy_tx' [0] rfl ?_
 refine sp rfl (PE.assign rfl) rfl ?_
 refine sy_block ?_
 refine sy_loop (ι := {i : Nat // 1 ≤ i ∧ i ≤ x.l.length + 1 ∧ ∀ j u v, j + 1 < i → x.l[j]? = some u → x.l[j + 1]? = some v → u < v}) (fun i => ⟨[(1, .slice (some ⟨ba, oa, none⟩) pl.length cp), (2, .pointer (some ⟨b2, 0, none⟩)), (5, .int .i64 k), (7, .int .i64 i.1)], (b2, cel 33 (btl b (b.sl ab cb))) :: H, RowsA x.a 1 (irows x.l) :: R⟩) (fun i => x.l.length + 1 - i.1) ⟨1, Nat.le_refl _, by omega, fun j u v hj => by omega⟩ ?_ (fun i => ?_)
 exact sy_at (by repeat' first | exact Sub.nil | apply Sub.cons | rfl | (simp [lk]; omega)) (fun _ h => h)
 obtain ⟨i, hi1, hi2, his2⟩ := i
 dsimp only at hi1 hi2 his2 ⊢
 refine sy_seq ?_
 refine sy_seq ?_
 refine sy_tx' [0, 1, 2, 3, 4, 5, 6] rfl ?_
 refine sp rfl (PE.move rfl) rfl ?_
 refine sp rfl (PE.move rfl) rfl ?_
 refine sp rfl (PE.move rfl) rfl ?_
 refine sp rfl (PE.indexAddr el26 rfl rfl (by omega) (by omega)) rfl ?_
 refine spL rfl rfl (lf0 sc40 (pl_get hx) rfl) rfl ?_
 refine sp rfl (PE.lenSl isl40 rfl) rfl ?_
 refine sp rfl (PE.lss rfl rfl) rfl ?_
 refine sy_cond rfl (fun hc4 => ?_) (fun hc4 => ?_)
 try simp only [decide_eq_true_eq, decide_eq_false_iff_not, Bool.and_eq_true, Bool.or_eq_true, Bool.not_eq_true', Int.not_le, Int.not_lt] at hc4
 obtain ⟨u, hu⟩ : ∃ u, x.l[i - 1]? = some u := ⟨_, List.getElem?_eq_getElem (by omega)⟩
 obtain ⟨v, hv⟩ : ∃ v, x.l[i]? = some v := ⟨_, List.getElem?_eq_getElem (by omega)⟩
 have hv' : x.l[i - 1 + 1]? = some v := by rw [Nat.sub_add_cancel hi1]; exact hv
 refine sy_addr (a := x.a) (sz := 1) (rows := irows x.l) (by intro h0; have := congrArg List.length h0; rw [irows_len] at this; simp only [List.length_nil] at this; omega) (fun bx ox he => ?_)
 rw [he]
 refine sy_skip ?_
 refine sy_seq ?_
 refine sy_block ?_
 refine sy_seq ?_
 refine sy_draw [0, 0, 3, 7, 0, 31, 63, 0, 0, 384, 896, 0, 2048, 8064, 16256, 32767] (.tk 0 (.tk 1 (.tk 2 (.ld 3 (.tk 4 (.tk 5 (.ld 6 (.tk 7 (.tk 8 (.tk 9 (.ld 10 (.tk 11 (.tk 12 (.tk 13 (.ld 14 (.tk 15 .done)))))))))))))))) mixed (by kernel_rfl) ?_
 refine tk rfl (PE.move rfl) rfl ?_
 refine tk rfl (PE.move rfl) rfl ?_
 refine tk rfl (PE.indexAddr el26 rfl rfl (by omega) (by omega)) rfl ?_
 refine ld rfl rfl (lf0 (row := [.slice (some ⟨bx, ox, none⟩) x.l.length x.c]) sc40 (by refine (pl_get hx).trans ?_; unfold plrow; rw [he]) rfl) rfl ?_
 refine tk rfl (PE.move rfl) rfl ?_
 refine tk rfl (PE.indexAddr el40 rfl rfl (by omega) (by omega)) rfl ?_
 refine ld rfl rfl (lf0 sc3 (ir_get hv) rfl) rfl ?_
 refine tk rfl (PE.move rfl) rfl ?_
 refine tk rfl (PE.move rfl) rfl ?_
 refine tk rfl (PE.indexAddr el26 rfl rfl (by omega) (by omega)) rfl ?_
 refine ld rfl rfl (lf0 (row := [.slice (some ⟨bx, ox, none⟩) x.l.length x.c]) sc40 (by refine (pl_get hx).trans ?_; unfold plrow; rw [he]) rfl) rfl ?_
 refine tk rfl (PE.move rfl) rfl ?_
 refine tk rfl (PE.sub rfl rfl (by omega)) rfl ?_
 refine tk rfl (PE.indexAddr el40 rfl rfl (by omega) (by omega)) rfl ?_
 refine ld rfl rfl (lf0 (row := [.int .i64 u]) sc3 (by rw [show ((i : Int) - 1).toNat = i - 1 by omega]; exact ir_get hu) rfl) rfl ?_
 refine tk rfl (PE.leq rfl rfl) rfl ?_
 refine sy_cond rfl (fun hc5 => ?_) (fun hc5 => ?_)
 try simp only [decide_eq_true_eq, decide_eq_false_iff_not, Bool.and_eq_true, Bool.or_eq_true, Bool.not_eq_true', Int.not_le, Int.not_lt] at hc5
 have ed : dayErr ((b.bins.length : Int)) b.gangs x.l = 4 := by unfold dayErr; rw [hal, sinc_no hu hv' hc5]; rfl
 rw [ed] at hke
 have e2 : daysErr ((b.bins.length : Int)) b.gangs (lls pl) = 4 := hke
 refine sy_seq ?_
 refine sy_tx' [0] rfl ?_
 refine sp rfl (PE.assign rfl) rfl ?_
 refine sy_ret ?_
 exact sy_return (vs := [_]) rfl (.cons (RV.tmp rfl) .nil) rfl ⟨by first | (rw [e, e2]; rfl) | (rw [e]; rfl), rfl, rfl⟩ (fun w h => by first | exact St.sub (h.del b2) | skip)
 try simp only [decide_eq_true_eq, decide_eq_false_iff_not, Bool.and_eq_true, Bool.or_eq_true, Bool.not_eq_true', Int.not_le, Int.not_lt] at hc5
 refine sy_skip ?_
 refine sy_tx' [0, 1, 2] rfl ?_
 refine sp rfl (PE.move rfl) rfl ?_
 refine sp rfl (PE.add rfl rfl (by omega)) rfl ?_
 refine sp rfl (PE.assign rfl) rfl ?_
 exact sy_next ⟨i + 1, by omega, by omega, fun j u' v' hj hu' hv2 => by
   rcases Nat.lt_or_ge (j + 1) i with h1 | h1
   · exact his2 j u' v' h1 hu' hv2
   · obtain rfl : j = i - 1 := by omega
     rw [hu] at hu'; rw [hv'] at hv2; cases hu'; cases hv2; omega⟩ (by dsimp only; omega) (by repeat' first | exact Sub.nil | apply Sub.cons | rfl | (simp [lk]; omega)) (fun _ h => h)
 try simp only [decide_eq_true_eq, decide_eq_false_iff_not, Bool.and_eq_true, Bool.or_eq_true, Bool.not_eq_true', Int.not_le, Int.not_lt] at hc4
 have hsi : sinc x.l = true := sinc_yes fun j u v hu hv => his2 j u v (by have := (List.getElem?_eq_some_iff.1 hv).1; omega) hu hv
 refine sy_exit ?_
 repeat refine sy_tx ?_
 refine sy_bx ?_
 refine sy_seq ?_
 refine sy_draw [0, 0, 3, 7, 15, 0, 32, 127] (.tk 0 (.tk 1 (.tk 2 (.ld 3 (.tk 4 (.tk 5 (.ld 6 (.tk 7 .done)))))))) mixed (by kernel_rfl) ?_
 refine tk rfl (PE.move rfl) rfl ?_
 refine tk rfl (PE.move rfl) rfl ?_
 refine tk rfl (PE.indexAddr el26 rfl rfl (by omega) (by omega)) rfl ?_
 refine ld rfl rfl (lf0 sc40 (pl_get hx) rfl) rfl ?_
 refine tk rfl (PE.lenSl isl40 rfl) rfl ?_
 refine tk rfl (PE.fieldAddr fo33_1 rfl) rfl ?_
 refine ld rfl rfl (lh sc3 rfl rfl) rfl ?_
 refine tk rfl (PE.gtr rfl rfl) rfl ?_
 refine sy_cond rfl (fun hc6 => ?_) (fun hc6 => ?_)
 try simp only [decide_eq_true_eq, decide_eq_false_iff_not, Bool.and_eq_true, Bool.or_eq_true, Bool.not_eq_true', Int.not_le, Int.not_lt] at hc6
 have ed : dayErr ((b.bins.length : Int)) b.gangs x.l = 9 := by unfold dayErr; rw [hal, hsi, decide_eq_true hc6]; rfl
 rw [ed] at hke
 have e2 : daysErr ((b.bins.length : Int)) b.gangs (lls pl) = 9 := hke
 refine sy_seq ?_
 refine sy_tx' [0] rfl ?_
 refine sp rfl (PE.assign rfl) rfl ?_
 refine sy_ret ?_
 exact sy_return (vs := [_]) rfl (.cons (RV.tmp rfl) .nil) rfl ⟨by first | (rw [e, e2]; rfl) | (rw [e]; rfl), rfl, rfl⟩ (fun w h => by first | exact St.sub (h.del b2) | skip)
 try simp only [decide_eq_true_eq, decide_eq_false_iff_not, Bool.and_eq_true, Bool.or_eq_true, Bool.not_eq_true', Int.not_le, Int.not_lt] at hc6
 have ed : dayErr ((b.bins.length : Int)) b.gangs x.l = 0 := by unfold dayErr; rw [hal, hsi, decide_eq_false (by omega)]; rfl
 rw [ed] at hke
 refine sy_skip ?_
 refine sy_tx' [0, 1, 2] rfl ?_
 refine sp rfl (PE.move rfl) rfl ?_
 refine sp rfl (PE.add rfl rfl (by omega)) rfl ?_
 refine sp rfl (PE.assign rfl) rfl ?_
 exact sy_next ⟨k + 1, by omega, hke⟩ (by dsimp only; omega) (by repeat' first | exact Sub.nil | apply Sub.cons | rfl | (simp [lk]; omega)) (fun w h => h.ftail)
 try simp only [decide_eq_true_eq, decide_eq_false_iff_not, Bool.and_eq_true, Bool.or_eq_true, Bool.not_eq_true', Int.not_le, Int.not_lt] at hc1
 obtain rfl : k = pl.length := by omega
 rw [show (lls pl).drop pl.length = [] by rw [List.drop_eq_nil_iff, lls_len]; exact Nat.le_refl _] at hke
 have e2 : daysErr ((b.bins.length : Int)) b.gangs (lls pl) = 0 := hke
 refine sy_exit ?_
 repeat refine sy_tx ?_
 refine sy_bx ?_
 refine sy_seq ?_
 refine sy_tx' [0] rfl ?_
 refine sp rfl (PE.assign rfl) rfl ?_
 refine sy_ret ?_
 exact sy_return (vs := [_]) rfl (.cons (RV.tmp rfl) .nil) rfl ⟨by first | (rw [e, e2]; rfl) | (rw [e]; rfl), rfl, rfl⟩ (fun w h => by first | exact St.sub (h.del b2) | skip)
end Go.Proofs.Ytelegnmfhjfbaaa
namespace Go.Proofs.Ytelegnmfhjfbaaa
set_option linter.unusedSimpArgs false
set_option linter.unusedVariables false
open Go
theorem cal24 : cal Try.prog 24 = true := by kernel_rfl
theorem cal57 : cal Try.prog 57 = true := by kernel_rfl
theorem cal73 : cal Try.prog 73 = true := by kernel_rfl
theorem cal82 : cal Try.prog 82 = true := by kernel_rfl
theorem wst_mono {c r s k : Int} (hr : r ≤ s) : ∀ (p : List (List Int)) (w v : Int), w ≤ v → wst c r k w p ≤ wst c s k v p
  | [], _, _, h => h
  | l :: p, w, v, h => by
    unfold wst
    refine wst_mono hr p _ _ ?_
    cases hasI l k <;> simp only [cond_true, cond_false] <;> omega
theorem srt_le {l : List Int} (h : srt l = true) {i : Nat} : ∀ {j : Nat}, i ≤ j → j < l.length → na l i ≤ na l j
  | 0, hij, hj => by obtain rfl : i = 0 := by omega
                     exact Int.le_refl _
  | j + 1, hij, hj => by
    rcases Nat.lt_or_ge j i with h1 | h1
    · obtain rfl : i = j + 1 := by omega
      exact Int.le_refl _
    · have ih := srt_le h (j := j) h1 (by omega)
      have : ¬ (na l (j + 1) < na l j) := fun hlt => by
        have := not_srt (na_get (by omega)) (na_get hj) hlt
        rw [h] at this; cases this
      omega
def wL (c r k w : Int) (p : List (List Int)) (n : Nat) : List Int := (List.range n).map fun d => wst c r k w (p.take (d + 1))
theorem wL_len (c r k w : Int) (p : List (List Int)) (n : Nat) : (wL c r k w p n).length = n := by simp [wL]
theorem wL_get {c r k w : Int} {p : List (List Int)} {n d : Nat} (h : d < n) : (wL c r k w p n)[d]? = some (wst c r k w (p.take (d + 1))) := by
  unfold wL; rw [List.getElem?_map, List.getElem?_range h]; rfl
theorem wL_snoc (c r k w : Int) (p : List (List Int)) (n : Nat) : wL c r k w p (n + 1) = wL c r k w p n ++ [wst c r k w (p.take (n + 1))] := by
  unfold wL; rw [List.range_succ, List.map_append]; rfl
theorem has_I (l : List Int) (k : Int) : (l.any fun x => decide (x = k)) = hasI l k := by
  unfold hasI; congr 1; funext x; exact decide_eq_decide.2 eq_comm
def Barn.binD (b : Barn) (k : Nat) : HBin := b.bins.getD k hb0
def hotc (b : Barn) (p : List (List Int)) (k : Nat) (c : Int) (d : Nat) : Prop := (b.binD k).mark < wst b.cool (na b.rise c.toNat) k (b.binD k).warm (p.take (d + 1))
structure Bst (S : Nat → Nat → Prop) (q : Nat × Nat × Bool) : Prop where
  no : q.2.2 = false → q.1 = 0 ∧ q.2.1 = 0 ∧ ∀ k d, ¬ S k d
  yes : q.2.2 = true → S q.2.1 q.1 ∧ ∀ k d, S k d → q.1 < d ∨ (q.1 = d ∧ q.2.1 ≤ k)
theorem Bst.iff {S S' : Nat → Nat → Prop} {q : Nat × Nat × Bool} (h : Bst S q) (e : ∀ k d, S' k d ↔ S k d) : Bst S' q := by
  have : S' = S := by funext k d; exact propext (e k d)
  exact this ▸ h
theorem Bst.add {S S' : Nat → Nat → Prop} {q : Nat × Nat × Bool} {k e : Nat} (h : Bst S q) (hS : ∀ j d, S' j d ↔ S j d ∨ (j = k ∧ d = e)) (hq : q.2.2 = false ∨ e < q.1) : Bst S' (e, k, true) where
  no h := by cases h
  yes _ := ⟨(hS _ _).2 (.inr ⟨rfl, rfl⟩), fun j d hj => by
    rcases (hS j d).1 hj with h1 | ⟨rfl, rfl⟩
    · cases hb : q.2.2 with
      | false => exact absurd h1 ((h.no hb).2.2 j d)
      | true =>
        have := (h.yes hb).2 j d h1
        rcases hq with hq | hq
        · rw [hb] at hq; cases hq
        · exact .inl (by show e < d; omega)
    · exact .inr ⟨rfl, Nat.le_refl _⟩⟩
theorem Bst.keep {S S' : Nat → Nat → Prop} {q : Nat × Nat × Bool} {k e : Nat} (h : Bst S q) (hle : ∀ j d, S j d → j ≤ k) (hS : ∀ j d, S' j d ↔ S j d ∨ (j = k ∧ d = e)) (hq : q.2.2 = true) (hq2 : ¬ e < q.1) : Bst S' q where
  no h := by rw [hq] at h; cases h
  yes _ := by
    obtain ⟨h1, h2⟩ := h.yes hq
    refine ⟨(hS _ _).2 (.inl h1), fun j d hj => ?_⟩
    rcases (hS j d).1 hj with h3 | ⟨rfl, rfl⟩
    · exact h2 j d h3
    · have := hle _ _ h1
      omega
def hotW (b : Barn) (ws : List Int) (p : List (List Int)) (k d : Nat) : Prop := (b.binD k).mark < wst b.cool (b.worst (b.binD k)) k (na ws k) (p.take (d + 1))
theorem Barn.burns_spec {b : Barn} : ∀ (p : List (List Int)) (ws : List Int) (d0 : Nat), ((b.burnsF ws p d0).1 = none ∧ ∀ k < b.bins.length, ∀ d < p.length, ¬ hotW b ws p k d) ∨
    ∃ k e : Nat, (b.burnsF ws p d0).1 = some (d0 + e, k) ∧ k < b.bins.length ∧ e < p.length ∧ hotW b ws p k e ∧ ∀ j < b.bins.length, ∀ d < p.length, hotW b ws p j d → e < d ∨ (e = d ∧ k ≤ j)
  | [], ws, d0 => .inl ⟨rfl, fun k _ d hd => absurd hd (Nat.not_lt_zero _)⟩
  | l :: p, ws, d0 => by
    have h0 : ∀ k, hotW b ws (l :: p) k 0 ↔ b.hotAt ws l k = true := fun k => by
      unfold hotW Barn.hotAt
      rw [decide_eq_true_eq]; exact Iff.rfl
    have h1 : ∀ k d, k < b.bins.length → (hotW b ws (l :: p) k (d + 1) ↔ hotW b (b.dayW ws l) p k d) := fun k d hk => by
      unfold hotW
      rw [na_at (b.dayW_at (ws := ws) (l := l) hk), List.take_succ_cons]
      exact Iff.rfl
    rw [b.burns_cons]
    cases hf : (List.range b.bins.length).find? (b.hotAt ws l) with
    | some k =>
      rw [List.find?_range_eq_some] at hf
      obtain ⟨f1, f2, f3⟩ := hf
      have f2 := List.mem_range.1 f2
      refine .inr ⟨k, 0, rfl, f2, by simp, (h0 k).2 f1, fun j hj d hd hh => ?_⟩
      cases d with
      | succ d => exact .inl (by omega)
      | zero =>
        refine .inr ⟨rfl, ?_⟩
        rcases Nat.lt_or_ge j k with h4 | h4
        · have := f3 j h4
          rw [(h0 j).1 hh] at this; cases this
        · exact h4
    | none =>
      dsimp only
      have hn : ∀ k < b.bins.length, ¬ hotW b ws (l :: p) k 0 := fun k hk hh => by
        have := List.find?_eq_none.1 hf k (List.mem_range.2 hk)
        exact this ((h0 k).1 hh)
      rcases burns_spec p (b.dayW ws l) (d0 + 1) with ⟨i1, i2⟩ | ⟨k, e, i1, i2, i3, i4, i5⟩
      · refine .inl ⟨i1, fun k hk d hd hh => ?_⟩
        cases d with
        | zero => exact hn k hk hh
        | succ d => exact i2 k hk d (by simpa using hd) ((h1 k d hk).1 hh)
      · refine .inr ⟨k, e + 1, by rw [i1]; congr 2; omega, i2, by simpa using i3, (h1 k e i2).2 i4, fun j hj d hd hh => ?_⟩
        cases d with
        | zero => exact absurd hh (hn j hj)
        | succ d =>
          have := i5 j hj d (by simpa using hd) ((h1 j d hj).1 hh)
          omega
def brnQ (b : Barn) (p : List (List Int)) : Nat × Nat × Bool := match (b.burnsF b.warms p 0).1 with
  | none => (0, 0, false)
  | some (d, k) => (d, k, true)
theorem Bst.burns {b : Barn} (hb : b.ok) {p : List (List Int)} {q : Nat × Nat × Bool} (h : Bst (fun k d => k < b.bins.length ∧ d < p.length ∧ ∃ c, (b.binD k).lo ≤ c ∧ c ≤ (b.binD k).hi ∧ hotc b p k c d) q) : q = brnQ b p := by
  have hS : ∀ k d, (k < b.bins.length ∧ d < p.length ∧ hotW b b.warms p k d) ↔ (k < b.bins.length ∧ d < p.length ∧ ∃ c, (b.binD k).lo ≤ c ∧ c ≤ (b.binD k).hi ∧ hotc b p k c d) := fun k d => by
    refine and_congr_right fun hk => and_congr_right fun _ => ?_
    obtain ⟨x, hx⟩ : ∃ x, b.bins[k]? = some x := ⟨_, List.getElem?_eq_getElem hk⟩
    have ex : b.binD k = x := bin_getD hx
    have hm := List.mem_of_getElem? hx
    have hbx := hb.bins x hm
    have ho := hb.ord x hm
    have ew : na b.warms k = x.warm := by unfold na Barn.warms; rw [List.getD_eq_getElem?_getD, List.getElem?_map, hx]; rfl
    unfold hotW hotc
    rw [ex, ew]
    constructor
    · intro h; exact ⟨x.hi, ho, Int.le_refl _, h⟩
    · rintro ⟨c, h1, h2, h3⟩
      have : wst b.cool (na b.rise c.toNat) k x.warm (p.take (d + 1)) ≤ wst b.cool (b.worst x) k x.warm (p.take (d + 1)) :=
        wst_mono (srt_le hb.srt (by omega) (by rw [hb.len]; omega)) _ _ _ (Int.le_refl _)
      omega
  have h := h.iff hS
  obtain ⟨day, bin, is⟩ := q
  unfold brnQ
  rcases b.burns_spec p b.warms 0 with ⟨i1, i2⟩ | ⟨k, e, i1, i2, i3, i4, i5⟩
  · rw [i1]
    cases is with
    | true => obtain ⟨⟨h1, h2, h3⟩, _⟩ := h.yes rfl; exact absurd h3 (i2 _ h1 _ h2)
    | false => obtain ⟨h1, h2, _⟩ := h.no rfl; dsimp only at h1 h2; rw [h1, h2]
  · rw [i1]
    cases is with
    | false => exact absurd ⟨i2, i3, i4⟩ ((h.no rfl).2.2 k e)
    | true =>
      obtain ⟨⟨h1, h2, h3⟩, h4⟩ := h.yes rfl
      have a1 := i5 _ h1 _ h2 h3
      have a2 := h4 _ _ ⟨i2, i3, i4⟩
      dsimp only at a1 a2 ⊢
      have : day = e ∧ bin = k := by omega
      rw [this.1, this.2, Nat.zero_add]
def SA (b : Barn) (p : List (List Int)) (k : Nat) : Nat → Nat → Prop := fun j d => j < k ∧ d < p.length ∧ ∃ c, (b.binD j).lo ≤ c ∧ c ≤ (b.binD j).hi ∧ hotc b p j c d
def SB (b : Barn) (p : List (List Int)) (k : Nat) (c : Int) : Nat → Nat → Prop := fun j d => SA b p k j d ∨ (j = k ∧ d < p.length ∧ ∃ c', (b.binD k).lo ≤ c' ∧ c' < c ∧ hotc b p k c' d)
def SC (b : Barn) (p : List (List Int)) (k : Nat) (c : Int) (e : Nat) : Nat → Nat → Prop := fun j d => SB b p k c j d ∨ (j = k ∧ d < e ∧ hotc b p k c d)
theorem SA.start {b : Barn} {p : List (List Int)} : Bst (SA b p 0) (0, 0, false) := ⟨fun _ => ⟨rfl, rfl, fun k d h => by have := h.1; omega⟩, fun h => by cases h⟩
theorem SB.start {b : Barn} {p : List (List Int)} {k : Nat} {c : Int} (hc : c = (b.binD k).lo) {q : Nat × Nat × Bool} (h : Bst (SA b p k) q) : Bst (SB b p k c) q := h.iff fun j d => by
  constructor
  · rintro (h1 | ⟨_, _, c', h1, h2, _⟩)
    · exact h1
    · omega
  · exact .inl
theorem SC.start {b : Barn} {p : List (List Int)} {k : Nat} {c : Int} {q : Nat × Nat × Bool} (h : Bst (SB b p k c) q) : Bst (SC b p k c 0) q := h.iff fun j d => by
  constructor
  · rintro (h1 | ⟨_, h1, _⟩)
    · exact h1
    · omega
  · exact .inl
theorem SC.le {b : Barn} {p : List (List Int)} {k : Nat} {c : Int} {e j d : Nat} (h : SC b p k c e j d) : j ≤ k := by
  rcases h with (h | h) | h
  · exact Nat.le_of_lt h.1
  · exact Nat.le_of_eq h.1
  · exact Nat.le_of_eq h.1
theorem SC.cold {b : Barn} {p : List (List Int)} {k : Nat} {c : Int} {e : Nat} {q : Nat × Nat × Bool} (h : Bst (SC b p k c e) q) (hn : ¬ hotc b p k c e) : Bst (SC b p k c (e + 1)) q := h.iff fun j d => by
  constructor
  · rintro (h1 | ⟨h1, h2, h3⟩)
    · exact .inl h1
    · refine .inr ⟨h1, ?_, h3⟩
      rcases Nat.lt_or_ge d e with h4 | h4
      · exact h4
      · obtain rfl : d = e := by omega
        exact absurd h3 hn
  · rintro (h1 | ⟨h1, h2, h3⟩)
    · exact .inl h1
    · exact .inr ⟨h1, by omega, h3⟩
theorem SC.hot {b : Barn} {p : List (List Int)} {k : Nat} {c : Int} {e : Nat} (hn : hotc b p k c e) (j d : Nat) : SC b p k c (e + 1) j d ↔ SC b p k c e j d ∨ (j = k ∧ d = e) := by
  constructor
  · rintro (h1 | ⟨h1, h2, h3⟩)
    · exact .inl (.inl h1)
    · rcases Nat.lt_or_ge d e with h4 | h4
      · exact .inl (.inr ⟨h1, h4, h3⟩)
      · exact .inr ⟨h1, by omega⟩
  · rintro ((h1 | ⟨h1, h2, h3⟩) | ⟨rfl, rfl⟩)
    · exact .inl h1
    · exact .inr ⟨h1, by omega, h3⟩
    · exact .inr ⟨rfl, by omega, hn⟩
theorem SC.done {b : Barn} {p : List (List Int)} {k : Nat} {c : Int} (hc : (b.binD k).lo ≤ c) {q : Nat × Nat × Bool} (h : Bst (SC b p k c p.length) q) : Bst (SB b p k (c + 1)) q := h.iff fun j d => by
  constructor
  · rintro (h1 | ⟨h1, h2, c', h3, h4, h5⟩)
    · exact .inl (.inl h1)
    · rcases Int.lt_or_le c' c with h6 | h6
      · exact .inl (.inr ⟨h1, h2, c', h3, h6, h5⟩)
      · obtain rfl : c' = c := by omega
        exact .inr ⟨h1, h2, h5⟩
  · rintro ((h1 | ⟨h1, h2, c', h3, h4, h5⟩) | ⟨h1, h2, h3⟩)
    · exact .inl h1
    · exact .inr ⟨h1, h2, c', h3, by omega, h5⟩
    · exact .inr ⟨h1, h2, c, hc, by omega, h3⟩
theorem SB.done {b : Barn} {p : List (List Int)} {k : Nat} {c : Int} (hc : c = (b.binD k).hi + 1) {q : Nat × Nat × Bool} (h : Bst (SB b p k c) q) : Bst (SA b p (k + 1)) q := h.iff fun j d => by
  constructor
  · rintro ⟨h1, h2, c', h3, h4, h5⟩
    rcases Nat.lt_or_ge j k with h6 | h6
    · exact .inl ⟨h6, h2, c', h3, h4, h5⟩
    · obtain rfl : j = k := by omega
      exact .inr ⟨rfl, h2, c', h3, by omega, h5⟩
  · rintro (⟨h1, h2, h3⟩ | ⟨rfl, h2, c', h3, h4, h5⟩)
    · exact ⟨by omega, h2, h3⟩
    · exact ⟨by omega, h2, c', h3, by omega, h5⟩
theorem Bst.bd {b : Barn} {p : List (List Int)} {k : Nat} {c : Int} {e : Nat} {q : Nat × Nat × Bool} (h : Bst (SC b p k c e) q) (he : e ≤ p.length) : q.1 ≤ p.length ∧ q.2.1 ≤ k := by
  cases hb : q.2.2 with
  | false => obtain ⟨h1, h2, _⟩ := h.no hb; omega
  | true =>
    have h1 := (h.yes hb).1
    refine ⟨?_, SC.le h1⟩
    rcases h1 with (h1 | h1) | h1
    · exact Nat.le_of_lt h1.2.1
    · exact Nat.le_of_lt h1.2.1
    · omega
theorem St.blkRows {rows : List (List Value)} {sz bk e : Nat} {junk : List Value} {H : Heap} {R : Facts} {w : World} (hz : ∀ r ∈ rows, r.length = sz) (hs : St ((bk, cel e (rows.flatten ++ junk)) :: H) R w) :
    St H (RowsA (some ⟨bk, 0, none⟩) sz rows :: R) w := by
  have h1 := (St.freeze hs).also (f := RowsA (some ⟨bk, 0, none⟩) sz rows) (fun w' hw => by
    have hb := hw (fun w => w.heap[bk]? = some (cel e (rows.flatten ++ junk))) (by simp)
    exact rows_block hb hz)
  exact h1.facts (fun g hg => by rcases List.mem_cons.1 hg with h3 | h3 <;> simp [h3])
theorem plr_one (l : List PL) : ∀ r ∈ plrows l, r.length = 1 := fun r hr => by obtain ⟨x, _, rfl⟩ := List.mem_map.1 hr; rfl
theorem plrows_app (A B : List PL) : plrows (A ++ B) = plrows A ++ plrows B := by simp [plrows]
theorem plr_flat (l : List PL) : (plrows l).flatten.length = l.length := by rw [flat_len (plr_one l), plrows_len]; omega
def pgap (ql : List PL) (n : Nat) : List Value := (plrows ql).flatten ++ (List.replicate n [Value.slice none 0 0]).flatten
theorem pgap_len (ql : List PL) (n : Nat) : (pgap ql n).length = ql.length + n := by
  unfold pgap
  rw [List.length_append, plr_flat, flat_len (sz := 1) (fun q hq => by rw [(List.mem_replicate.1 hq).2]; rfl), List.length_replicate]; omega
theorem pgap_put (ql : List PL) (n : Nat) (x : PL) {i : Nat} (e : i = ql.length) : spl (pgap ql (n + 1)) i [.slice x.a x.l.length x.c] = pgap (ql ++ [x]) n := by
  subst e
  unfold pgap
  rw [List.replicate_succ, List.flatten_cons, plrows_app, List.flatten_append, List.append_assoc]
  have := spl_at (p := (plrows ql).flatten) (q := [Value.slice none 0 0]) (s := (List.replicate n [Value.slice none 0 0]).flatten) (vs := [.slice x.a x.l.length x.c]) rfl
  rw [plr_flat] at this
  exact this
theorem St.innSnoc {a : Option Addr} {c : Nat} {l0 : List Int} {l : List PL} {H : Heap} {R : Facts} {w : World} [m1 : MemF (Inn l) R] [m2 : MemRows a 1 (irows l0) R] (h : St H R w) : St H (Inn (l ++ [⟨a, c, l0⟩]) :: R) w :=
  h.also fun w' hw x hx => by
    rcases List.mem_append.1 hx with hx | hx
    · exact hw _ m1.mem x hx
    · obtain rfl : x = ⟨a, c, l0⟩ := by simpa using hx
      exact hw _ m2.mem
theorem c_eq_int (xs ys : List Int) (a a2 : Option Addr) (c c2 : Nat) (hl : xs.length ≤ 9223372036854775807) (hl2 : ys.length ≤ 9223372036854775807) (H : Heap) (R : Facts) [hR : MemRows a 1 (irows xs) R] [hR2 : MemRows a2 1 (irows ys) R] :
    FnV Try.prog 82 [.slice a xs.length c, .slice a2 ys.length c2] H R (.bool (decide (xs = ys))) := by
 refine fn_of Try.func82 rfl Try.ntmps82 rfl ?_
 refine sy_seq ?_
 refine sy_tx' [0] rfl ?_
 refine sp rfl (PE.assign rfl) rfl ?_
 refine sy_seq ?_
 refine sy_seq ?_
 refine sy_tx' [0, 1, 2, 3, 4] rfl ?_
 refine sp rfl (PE.move rfl) rfl ?_
 refine sp rfl (PE.lenSl isl40 rfl) rfl ?_
 refine sp rfl (PE.move rfl) rfl ?_
 refine sp rfl (PE.lenSl isl40 rfl) rfl ?_
 refine sp rfl (PE.neq rfl rfl) rfl ?_
 refine sy_cond rfl (fun hc0 => ?_) (fun hc0 => ?_)
 have hne : xs ≠ ys := fun e => by subst e; simp at hc0
 refine sy_seq ?_
 refine sy_tx' [0] rfl ?_
 refine sp rfl (PE.assign rfl) rfl ?_
 refine sy_ret ?_
 exact sy_return (vs := [_]) rfl (.cons (RV.tmp rfl) .nil) rfl ⟨by first | (simp only [retV]; rw [decide_eq_true heq]; done) | (simp only [retV]; rw [decide_eq_false hne]), rfl, rfl⟩ (fun _ h => h)
 have hle : xs.length = ys.length := by simp only [decide_eq_true_eq, decide_eq_false_iff_not, Bool.and_eq_true, Bool.or_eq_true, Bool.not_eq_true', Int.not_le, Int.not_lt] at hc0; omega
 refine sy_skip ?_
 refine sy_seq ?_
 refine sy_seq ?_
 refine sy_tx' [0, 1, 2] rfl ?_
 refine sp rfl (PE.move rfl) rfl ?_
 refine sp rfl (PE.lenSl isl40 rfl) rfl ?_
 refine sp rfl (PE.move rfl) rfl ?_
 refine sy_block ?_
 refine sy_loop (ι := {k : Nat // k ≤ xs.length ∧ xs.take k = ys.take k}) (fun k => ⟨[(0, .slice a xs.length c), (1, .slice a2 ys.length c2), (12, .int .i64 xs.length), (13, .int .i64 k.1)], H, R⟩) (fun k => xs.length - k.1) ⟨0, by simp⟩ ?_ (fun k => ?_)
 exact sy_at (by repeat' first | exact Sub.nil | apply Sub.cons | rfl | (simp [lk]; omega)) (fun _ h => h)
 obtain ⟨k, hk, hn⟩ := k
 dsimp only
 refine sy_seq ?_
 refine sy_tx' [0] rfl ?_
 refine sp rfl (PE.lss rfl rfl) rfl ?_
 refine sy_seq ?_
 refine sy_cond rfl (fun hc1 => ?_) (fun hc1 => ?_)
 simp only [decide_eq_true_eq, decide_eq_false_iff_not, Bool.and_eq_true, Bool.or_eq_true, Bool.not_eq_true', Int.not_le, Int.not_lt] at hc1
 obtain ⟨x, hx⟩ : ∃ x, xs[k]? = some x := ⟨_, List.getElem?_eq_getElem (by omega)⟩
 obtain ⟨z, hz⟩ : ∃ z, ys[k]? = some z := ⟨_, List.getElem?_eq_getElem (by omega)⟩
 refine sy_addr (a := a) (sz := 1) (rows := irows xs) (by intro h0; simp [irows] at h0; simp [h0] at hx) (fun b off he => ?_)
 subst he
 refine sy_addr (a := a2) (sz := 1) (rows := irows ys) (by intro h0; simp [irows] at h0; simp [h0] at hz) (fun b2 off2 he => ?_)
 subst he
 refine sy_skip ?_
 refine sy_seq ?_
 refine sy_block ?_
 refine sy_seq ?_
 refine sy_tx' [0, 1] rfl ?_
 refine sp rfl (PE.move rfl) rfl ?_
 refine sp rfl (PE.assign rfl) rfl ?_
 refine sy_seq ?_
 refine sy_draw [0, 0, 3, 7, 0, 0, 48, 112, 255] (.tk 0 (.tk 1 (.tk 2 (.ld 3 (.tk 4 (.tk 5 (.tk 6 (.ld 7 (.tk 8 .done))))))))) mixed (by kernel_rfl) ?_
 refine tk rfl (PE.move rfl) rfl ?_
 refine tk rfl (PE.move rfl) rfl ?_
 refine tk rfl (PE.indexAddr el40 rfl rfl (by omega) (by omega)) rfl ?_
 refine ld rfl rfl (lf0 sc3 (by simp [irows, hx]; rfl) rfl) rfl ?_
 refine tk rfl (PE.move rfl) rfl ?_
 refine tk rfl (PE.move rfl) rfl ?_
 refine tk rfl (PE.indexAddr el40 rfl rfl (by omega) (by omega)) rfl ?_
 refine ld rfl rfl (lf0 sc3 (by simp [irows, hz]; rfl) rfl) rfl ?_
 refine tk rfl (PE.neq rfl rfl) rfl ?_
 refine sy_cond rfl (fun hc2 => ?_) (fun hc2 => ?_)
 have hne : xs ≠ ys := fun e => by subst e; rw [hx] at hz; cases hz; simp at hc2
 refine sy_seq ?_
 refine sy_tx' [0] rfl ?_
 refine sp rfl (PE.assign rfl) rfl ?_
 refine sy_ret ?_
 exact sy_return (vs := [_]) rfl (.cons (RV.tmp rfl) .nil) rfl ⟨by first | (simp only [retV]; rw [decide_eq_true heq]; done) | (simp only [retV]; rw [decide_eq_false hne]), rfl, rfl⟩ (fun _ h => h)
 have hxz : x = z := by simpa using hc2
 refine sy_skip ?_
 refine sy_tx' [0, 1] rfl ?_
 refine sp rfl (PE.add rfl rfl (by omega)) rfl ?_
 refine sp rfl (PE.move rfl) rfl ?_
 exact sy_next ⟨k + 1, by omega, by rw [List.take_add_one, List.take_add_one, hn, hx, hz, hxz]⟩ (by dsimp only; omega) (by repeat' first | exact Sub.nil | apply Sub.cons | rfl | (simp [lk]; omega)) (fun _ h => h)
 simp only [decide_eq_true_eq, decide_eq_false_iff_not, Bool.and_eq_true, Bool.or_eq_true, Bool.not_eq_true', Int.not_le, Int.not_lt] at hc1
 obtain rfl : k = xs.length := by omega
 have heq : xs = ys := by
   rw [List.take_length] at hn
   exact hn.trans (by rw [hle]; exact List.take_length)
 refine sy_exit ?_
 repeat refine sy_tx ?_
 refine sy_bx ?_
 refine sy_seq ?_
 refine sy_tx' [0] rfl ?_
 refine sp rfl (PE.assign rfl) rfl ?_
 refine sy_ret ?_
 exact sy_return (vs := [_]) rfl (.cons (RV.tmp rfl) .nil) rfl ⟨by first | (simp only [retV]; rw [decide_eq_true heq]; done) | (simp only [retV]; rw [decide_eq_false hne]), rfl, rfl⟩ (fun _ h => h)
theorem c_dup_int (xs : List Int) (a : Option Addr) (c : Nat) (hl : xs.length ≤ 1000000) (H : Heap) (R : Facts) [hR : MemRows a 1 (irows xs) R] :
    Fn Try.prog 57 [.slice a xs.length c] H R (fun v H' R' => ∃ o : OSl 3 1 (irows xs), v = o.fs ∧ o.here ∧ H' = o.G ++ H ∧ R' = R) := by
 refine fn_of Try.func57 rfl Try.ntmps57 rfl ?_
 refine sy_seq ?_
 refine sy_tx' [0] rfl ?_
 refine sp rfl (PE.assign rfl) rfl ?_
 refine sy_seq ?_
 refine sy_tx' [0, 1, 2, 3, 4, 5] rfl ?_
 refine sp rfl (PE.move rfl) rfl ?_
 refine sp rfl (PE.lenSl isl40 rfl) rfl ?_
 refine mkO rfl ap40 zl3 rfl rfl ⟨by omega, by omega⟩ rfl (fun o ho => ?_)
 refine sp rfl (PE.move rfl) rfl ?_
 refine apOh (news := irows xs) o rfl ap40 rfl rfl (rowsF) (by simp [irows]) (by simp [onecells, irows, Value.oneCell']) ⟨by simp [irows]; omega, by simp [irows]; omega⟩ rfl ho (fun o2 ho2 => ?_)
 refine sp rfl (PE.assign rfl) rfl ?_
 refine sy_ret ?_
 exact sy_return (vs := [_]) rfl (.cons (RV.tmp rfl) .nil) rfl ⟨o2.cast (by simp), rfl, ho2, rfl, rfl⟩ (fun _ h => h)
theorem c_DupRows (pl : List PL) (ap : Option Addr) (cp : Nat) (hpl : pl.length ≤ 1000000) (hpi : ∀ x ∈ pl, x.l.length ≤ 1000000) (H : Heap) (R : Facts) [hP : MemRows ap 1 (plrows pl) R] [hI : MemF (Inn pl) R] :
    Fn Try.prog 21 [.slice ap pl.length cp] H R (fun v H' R' => ∃ (ql : List PL) (aq : Option Addr) (cq : Nat), lls ql = lls pl ∧ v = .slice aq ql.length cq ∧ H' = H ∧ R' = RowsA aq 1 (plrows ql) :: Inn ql :: R) := by
 refine fn_of Try.func21 rfl Try.ntmps21 rfl ?_
 refine sy_seq ?_
 refine sy_tx' [0] rfl ?_
 refine sp rfl (PE.assign rfl) rfl ?_
 refine sy_seq ?_
 refine sy_tx' [0, 1, 2, 3] rfl ?_
 refine sp rfl (PE.move rfl) rfl ?_
 refine sp rfl (PE.lenSl isl26 rfl) rfl ?_
 refine mkS rfl ap26 zl40 rfl rfl (Nat.le_refl _) ⟨by omega, by omega⟩ rfl (fun b8 => ?_)
 refine Sy.heap (H' := (b8, cel 40 (pgap [] pl.length)) :: H) (R' := Inn [] :: R) (fun w h => St.inn0 (by rw [← flat_repl] at h; exact h)) ?_
 refine sp rfl (PE.assign rfl) rfl ?_
 refine sy_seq ?_
 refine sy_seq ?_
 refine sy_tx' [0, 1, 2] rfl ?_
 refine sp rfl (PE.move rfl) rfl ?_
 refine sp rfl (PE.lenSl isl26 rfl) rfl ?_
 refine sp rfl (PE.move rfl) rfl ?_
 refine sy_block ?_
 refine sy_loop (ι := {q : List PL // q.length ≤ pl.length ∧ lls q = (lls pl).take q.length}) (fun q => ⟨[(3, .slice (some ⟨b8, 0, none⟩) pl.length pl.length), (9, .slice ap pl.length cp), (10, .int .i64 pl.length), (11, .int .i64 q.1.length)], (b8, cel 40 (pgap q.1 (pl.length - q.1.length))) :: H, Inn q.1 :: R⟩) (fun q => pl.length - q.1.length) ⟨[], Nat.zero_le _, rfl⟩ ?_ (fun q => ?_)
 exact sy_at (by repeat' first | exact Sub.nil | apply Sub.cons | rfl | (simp [lk]; omega)) (fun _ h => h)
 obtain ⟨q, hq, hqe⟩ := q
 dsimp only at hq hqe ⊢
 refine sy_seq ?_
 refine sy_tx' [0] rfl ?_
 refine sp rfl (PE.lss rfl rfl) rfl ?_
 refine sy_seq ?_
 refine sy_cond rfl (fun hc0 => ?_) (fun hc0 => ?_)
 try simp only [decide_eq_true_eq, decide_eq_false_iff_not, Bool.and_eq_true, Bool.or_eq_true, Bool.not_eq_true', Int.not_le, Int.not_lt] at hc0
 obtain ⟨x, hx⟩ : ∃ x, pl[q.length]? = some x := ⟨_, List.getElem?_eq_getElem (by omega)⟩
 have hxm := List.mem_of_getElem? hx
 have hxl := hpi x hxm
 refine sy_addr (a := ap) (sz := 1) (rows := plrows pl) (by intro h0; have := congrArg List.length h0; rw [plrows_len] at this; simp only [List.length_nil] at this; omega) (fun ba oa he => ?_)
 subst he
 refine Sy.heap (fun w h => St.inn (x := x) h hxm) ?_
 refine sy_skip ?_
 refine sy_seq ?_
 refine sy_block ?_
 refine sy_seq ?_
 refine sy_tx' [0, 1, 2, 3, 4] rfl ?_
 refine sp rfl (PE.move rfl) rfl ?_
 refine sp rfl (PE.indexAddr el26 rfl rfl (by omega) (by omega)) rfl ?_
 refine spL rfl rfl (lf0 sc40 (pl_get hx) rfl) rfl ?_
 refine sp rfl (PE.assign rfl) rfl ?_
 refine sp rfl (PE.assign rfl) rfl ?_
 refine sy_tx' [0, 1, 2, 3, 4, 5] rfl ?_
 refine sp rfl (PE.move rfl) rfl ?_
 refine sp rfl (PE.move rfl) rfl ?_
 refine sp rfl (PE.move rfl) rfl ?_
 refine cl rfl cal57 rfl rfl (c_dup_int x.l x.a x.c hxl _ _) ?_
 rintro _ _ _ ⟨o, rfl, ho, rfl, rfl⟩
 obtain ⟨ax, cx, he, hf⟩ := o.freeze
 rw [he, irows_len]
 refine Sy.heap (fun w h => hf h) ?_
 clear he hf
 refine sp rfl (PE.indexAddr el26 rfl rfl (by omega) (by omega)) rfl ?_
 refine stoE (l' := pgap (q ++ [⟨ax, cx, x.l⟩]) (pl.length - (q.length + 1))) rfl rfl rfl cn40 rfl rfl rfl (by rw [show pl.length - q.length = (pl.length - (q.length + 1)) + 1 by omega]; exact pgap_put q _ ⟨ax, cx, x.l⟩ (by show 0 + ((q.length : Nat) : Int).toNat * 1 = _; omega)) (by rw [pgap_len]; show 0 + ((q.length : Nat) : Int).toNat * 1 + 1 ≤ _; omega) ?_
 refine sy_tx' [0, 1] rfl ?_
 refine sp rfl (PE.add rfl rfl (by omega)) rfl ?_
 refine sp rfl (PE.move rfl) rfl ?_
 exact sy_next ⟨q ++ [⟨ax, cx, x.l⟩], by rw [List.length_append, List.length_singleton]; omega, by rw [List.length_append, List.length_singleton, take_snoc (lls_get hx), ← hqe]; simp [lls]⟩ (by dsimp only; rw [List.length_append, List.length_singleton]; omega) (by dsimp only; rw [List.length_append, List.length_singleton]; exact (by repeat' first | exact Sub.nil | apply Sub.cons | rfl | (simp [lk]; omega))) (fun w h => by dsimp only; rw [List.length_append, List.length_singleton]; exact (St.innSnoc (a := ax) (c := cx) (l0 := x.l) (l := q) h).facts (fun g hg => by rcases List.mem_cons.1 hg with h3 | h3 <;> simp [h3]))
 try simp only [decide_eq_true_eq, decide_eq_false_iff_not, Bool.and_eq_true, Bool.or_eq_true, Bool.not_eq_true', Int.not_le, Int.not_lt] at hc0
 have hql : q.length = pl.length := by omega
 rw [hql, List.take_of_length_le (by rw [lls_len]; exact Nat.le_refl _)] at hqe
 refine Sy.heap (H' := (b8, cel 40 ((plrows q).flatten ++ [])) :: H) (fun w h => by rw [hql, Nat.sub_self] at h; exact h) ?_
 refine Sy.heap (fun w h => St.blkRows (plr_one q) h) ?_
 refine sy_exit ?_
 repeat refine sy_tx ?_
 refine sy_bx ?_
 refine sy_seq ?_
 refine sy_tx' [0, 1] rfl ?_
 refine sp rfl (PE.move rfl) rfl ?_
 refine sp rfl (PE.assign rfl) rfl ?_
 refine sy_ret ?_
 exact sy_return (vs := [_]) rfl (.cons (RV.tmp rfl) .nil) rfl ⟨q, _, _, hqe, by rw [hql]; rfl, rfl, rfl⟩ (fun _ h => h)
theorem c_EqRows (pl : List PL) (ap : Option Addr) (cp : Nat) (hpl : pl.length ≤ 9223372036854775807) (hpi : ∀ x ∈ pl, x.l.length ≤ 9223372036854775807) (ql : List PL) (aq : Option Addr) (cq : Nat) (hql : ql.length ≤ 9223372036854775807) (hqi : ∀ x ∈ ql, x.l.length ≤ 9223372036854775807) (H : Heap) (R : Facts) [hP : MemRows ap 1 (plrows pl) R] [hI : MemF (Inn pl) R] [hQ : MemRows aq 1 (plrows ql) R] [hJ : MemF (Inn ql) R] :
    FnV Try.prog 32 [.slice ap pl.length cp, .slice aq ql.length cq] H R (.bool (decide (lls pl = lls ql))) := by
 refine fn_of Try.func32 rfl Try.ntmps32 rfl ?_
 refine sy_seq ?_
 refine sy_tx' [0] rfl ?_
 refine sp rfl (PE.assign rfl) rfl ?_
 refine sy_seq ?_
 refine sy_seq ?_
 refine sy_tx' [0, 1, 2, 3, 4] rfl ?_
 refine sp rfl (PE.move rfl) rfl ?_
 refine sp rfl (PE.lenSl isl26 rfl) rfl ?_
 refine sp rfl (PE.move rfl) rfl ?_
 refine sp rfl (PE.lenSl isl26 rfl) rfl ?_
 refine sp rfl (PE.neq rfl rfl) rfl ?_
 refine sy_cond rfl (fun hc0 => ?_) (fun hc0 => ?_)
 try simp only [decide_eq_true_eq, decide_eq_false_iff_not, Bool.and_eq_true, Bool.or_eq_true, Bool.not_eq_true', Int.not_le, Int.not_lt] at hc0
 have hne : lls pl ≠ lls ql := fun e => by have := congrArg List.length e; rw [lls_len, lls_len] at this; omega
 refine sy_seq ?_
 refine sy_tx' [0] rfl ?_
 refine sp rfl (PE.assign rfl) rfl ?_
 refine sy_ret ?_
 exact sy_return (vs := [_]) rfl (.cons (RV.tmp rfl) .nil) rfl ⟨by first | (simp only [retV]; rw [decide_eq_true heq]; done) | (simp only [retV]; rw [decide_eq_false hne]), rfl, rfl⟩ drp
 try simp only [decide_eq_true_eq, decide_eq_false_iff_not, Bool.and_eq_true, Bool.or_eq_true, Bool.not_eq_true', Int.not_le, Int.not_lt] at hc0
 have hle : pl.length = ql.length := by omega
 refine sy_skip ?_
 refine sy_seq ?_
 refine sy_seq ?_
 refine sy_tx' [0, 1, 2] rfl ?_
 refine sp rfl (PE.move rfl) rfl ?_
 refine sp rfl (PE.lenSl isl26 rfl) rfl ?_
 refine sp rfl (PE.move rfl) rfl ?_
 refine sy_block ?_
 refine sy_loop (ι := {k : Nat // k ≤ pl.length ∧ (lls pl).take k = (lls ql).take k}) (fun k => ⟨[(1, .slice aq ql.length cq), (12, .slice ap pl.length cp), (13, .int .i64 pl.length), (14, .int .i64 k.1)], H, R⟩) (fun k => pl.length - k.1) ⟨0, Nat.zero_le _, rfl⟩ ?_ (fun k => ?_)
 exact sy_at (by repeat' first | exact Sub.nil | apply Sub.cons | rfl | (simp [lk]; omega)) (fun _ h => h)
 obtain ⟨k, hk, hke⟩ := k
 dsimp only at hk hke ⊢
 refine sy_seq ?_
 refine sy_tx' [0] rfl ?_
 refine sp rfl (PE.lss rfl rfl) rfl ?_
 refine sy_seq ?_
 refine sy_cond rfl (fun hc1 => ?_) (fun hc1 => ?_)
 try simp only [decide_eq_true_eq, decide_eq_false_iff_not, Bool.and_eq_true, Bool.or_eq_true, Bool.not_eq_true', Int.not_le, Int.not_lt] at hc1
 obtain ⟨x, hx⟩ : ∃ x, pl[k]? = some x := ⟨_, List.getElem?_eq_getElem (by omega)⟩
 have hxm := List.mem_of_getElem? hx
 have hxl := hpi x hxm
 obtain ⟨z, hz⟩ : ∃ z, ql[k]? = some z := ⟨_, List.getElem?_eq_getElem (by omega)⟩
 have hzm := List.mem_of_getElem? hz
 have hzl := hqi z hzm
 refine sy_addr (a := ap) (sz := 1) (rows := plrows pl) (by intro h0; have := congrArg List.length h0; rw [plrows_len] at this; simp only [List.length_nil] at this; omega) (fun ba oa he => ?_)
 subst he
 refine sy_addr (a := aq) (sz := 1) (rows := plrows ql) (by intro h0; have := congrArg List.length h0; rw [plrows_len] at this; simp only [List.length_nil] at this; omega) (fun bq oq he => ?_)
 subst he
 refine Sy.heap (fun w h => St.inn (x := x) h hxm) ?_
 refine Sy.heap (fun w h => St.inn (x := z) h hzm) ?_
 refine sy_skip ?_
 refine sy_seq ?_
 refine sy_block ?_
 refine sy_seq ?_
 refine sy_tx' [0, 1, 2, 3, 4] rfl ?_
 refine sp rfl (PE.move rfl) rfl ?_
 refine sp rfl (PE.indexAddr el26 rfl rfl (by omega) (by omega)) rfl ?_
 refine spL rfl rfl (lf0 sc40 (pl_get hx) rfl) rfl ?_
 refine sp rfl (PE.assign rfl) rfl ?_
 refine sp rfl (PE.assign rfl) rfl ?_
 refine sy_seq ?_
 refine sy_tx' [0, 1, 2, 3, 4, 5, 6] rfl ?_
 refine sp rfl (PE.move rfl) rfl ?_
 refine sp rfl (PE.move rfl) rfl ?_
 refine sp rfl (PE.move rfl) rfl ?_
 refine sp rfl (PE.indexAddr el26 rfl rfl (by omega) (by omega)) rfl ?_
 refine spL rfl rfl (lf0 sc40 (pl_get hz) rfl) rfl ?_
 refine clV rfl cal82 rfl rfl (c_eq_int x.l z.l x.a z.a x.c z.c hxl hzl _ _) ?_
 refine sp rfl (PE.not rfl) rfl ?_
 refine sy_cond rfl (fun hc2 => ?_) (fun hc2 => ?_)
 have hne : lls pl ≠ lls ql := fun e => by
   have h1 := lls_get hx; have h2 := lls_get hz
   rw [e, h2] at h1
   have e3 := Option.some.inj h1
   rw [e3] at hc2
   simp at hc2
 refine sy_seq ?_
 refine sy_tx' [0] rfl ?_
 refine sp rfl (PE.assign rfl) rfl ?_
 refine sy_ret ?_
 exact sy_return (vs := [_]) rfl (.cons (RV.tmp rfl) .nil) rfl ⟨by first | (simp only [retV]; rw [decide_eq_true heq]; done) | (simp only [retV]; rw [decide_eq_false hne]), rfl, rfl⟩ drp
 have hxz : x.l = z.l := by simpa using hc2
 refine sy_skip ?_
 refine sy_tx' [0, 1] rfl ?_
 refine sp rfl (PE.add rfl rfl (by omega)) rfl ?_
 refine sp rfl (PE.move rfl) rfl ?_
 exact sy_next ⟨k + 1, by omega, by rw [take_snoc (lls_get hx), take_snoc (lls_get hz), hke, hxz]⟩ (by dsimp only; omega) (by repeat' first | exact Sub.nil | apply Sub.cons | rfl | (simp [lk]; omega)) (fun w h => h.ftail.ftail)
 try simp only [decide_eq_true_eq, decide_eq_false_iff_not, Bool.and_eq_true, Bool.or_eq_true, Bool.not_eq_true', Int.not_le, Int.not_lt] at hc1
 obtain rfl : k = pl.length := by omega
 have heq : lls pl = lls ql := by
   rw [List.take_of_length_le (by rw [lls_len]; exact Nat.le_refl _), List.take_of_length_le (by rw [lls_len]; omega)] at hke; exact hke
 refine sy_exit ?_
 repeat refine sy_tx ?_
 refine sy_bx ?_
 refine sy_seq ?_
 refine sy_tx' [0] rfl ?_
 refine sp rfl (PE.assign rfl) rfl ?_
 refine sy_ret ?_
 exact sy_return (vs := [_]) rfl (.cons (RV.tmp rfl) .nil) rfl ⟨by first | (simp only [retV]; rw [decide_eq_true heq]; done) | (simp only [retV]; rw [decide_eq_false hne]), rfl, rfl⟩ drp
theorem c_rWarmth (b : Barn) (ab : Option Addr) (cb : Nat) (hok : b.ok) (pl : List PL) (ap : Option Addr) (cp : Nat) (hpl : pl.length ≤ 9223372036854775807) (hpi : ∀ x ∈ pl, x.l.length ≤ 9223372036854775807) (hp9 : pl.length ≤ 1000000) (k : Nat) (x : HBin) (hx : b.bins[k]? = some x) (c : Int) (hc5 : 0 ≤ c ∧ c ≤ 5) (H : Heap) (R : Facts) [hB : MemRows ab 4 (brows b.bins) R] [hP : MemRows ap 1 (plrows pl) R] [hI : MemF (Inn pl) R] :
    Fn Try.prog 24 [b.v (b.sl ab cb), .slice ap pl.length cp, .int .i64 k, .int .i64 c] H R (fun v H' R' => ∃ (aw : Option Addr) (cw : Nat), v = .slice aw pl.length cw ∧ H' = H ∧ R' = RowsA aw 1 (irows (wL b.cool (na b.rise c.toNat) k x.warm (lls pl) pl.length)) :: R) := by
 have hk := (List.getElem?_eq_some_iff.1 hx).1
 have hm := List.mem_of_getElem? hx
 have hh := hok.bins x hm
 have hwr := hok.rise _ (na_mem (l := b.rise) (k := c.toNat) (by rw [hok.len]; omega))
 have hwb : ∀ d, 0 ≤ (wst b.cool (na b.rise c.toNat) k x.warm ((lls pl).take d)) ∧ (wst b.cool (na b.rise c.toNat) k x.warm ((lls pl).take d)) ≤ 100000000 := fun d => by
   have h1 := wst_bd (k := k) hok.cool (show 0 ≤ na b.rise c.toNat ∧ na b.rise c.toNat ≤ 20 by omega) ((lls pl).take d) x.warm hh.2.1.1
   have h2 : ((lls pl).take d).length ≤ pl.length := by rw [List.length_take, lls_len]; omega
   omega
 have hcl := hok.cool
 refine fn_of Try.func24 rfl Try.ntmps24 rfl ?_
 refine sy_seq ?_
 refine sy_tx' [0, 1] rfl ?_
 refine bx rfl rfl rfl (fun b4 => ?_)
 refine sp rfl (PE.assign rfl) rfl ?_
 refine sy_seq ?_
 refine sy_tx' [0] rfl ?_
 refine sp rfl (PE.assign rfl) rfl ?_
 refine sy_seq ?_
 refine sy_tx' [0, 1, 2, 3, 4, 5, 6] rfl ?_
 refine sp rfl (PE.fieldAddr fo33_3 rfl) rfl ?_
 refine spL rfl rfl (lh sc31 rfl rfl) rfl ?_
 refine sp rfl (PE.move rfl) rfl ?_
 refine sy_addr (a := ab) (sz := 4) (rows := brows b.bins) (by intro h0; simp [brows] at h0; simp [h0] at hx) (fun ba oa he => ?_)
 subst he
 refine sp rfl (PE.indexAddr el31 rfl rfl (by omega) (by omega)) rfl ?_
 refine sp rfl (PE.fieldAddr fo113_0 rfl) rfl ?_
 refine spL rfl rfl (lf (j := 0) sc3 (br_get hx) rfl) rfl ?_
 refine sp rfl (PE.assign rfl) rfl ?_
 refine sy_seq ?_
 refine sy_seq ?_
 refine sy_tx' [0] rfl ?_
 refine sp rfl (PE.assign rfl) rfl ?_
 refine sy_block ?_
 refine sy_loop (ι := (d : {d : Nat // d ≤ pl.length}) × OSl 3 1 (irows (wL b.cool (na b.rise c.toNat) k x.warm (lls pl) d.1))) (fun y => ⟨[(1, .slice ap pl.length cp), (2, .int .i64 k), (3, .int .i64 c), (4, .pointer (some ⟨b4, 0, none⟩)), (9, y.2.fs), (10, .int .i64 (wst b.cool (na b.rise c.toNat) k x.warm ((lls pl).take y.1.1))), (11, .int .i64 y.1.1)], y.2.G ++ (b4, cel 33 (btl b (b.sl (some ⟨ba, oa, none⟩) cb))) :: H, R⟩) (fun y => pl.length - y.1.1) ⟨⟨0, by omega⟩, OSl.nil _ _⟩ ?_ (fun y => ?_)
 exact sy_at (by repeat' first | exact Sub.nil | apply Sub.cons | rfl | (simp [lk]; omega)) (fun _ h => h)
 obtain ⟨⟨d, hd⟩, o⟩ := y
 dsimp only at hd o ⊢
 have hwd := hwb d
 refine sy_seq ?_
 refine sy_seq ?_
 refine sy_tx' [0, 1, 2, 3] rfl ?_
 refine sp rfl (PE.move rfl) rfl ?_
 refine sp rfl (PE.move rfl) rfl ?_
 refine sp rfl (PE.lenSl isl26 rfl) rfl ?_
 refine sp rfl (PE.lss rfl rfl) rfl ?_
 refine sy_cond rfl (fun hc0 => ?_) (fun hc0 => ?_)
 try simp only [decide_eq_true_eq, decide_eq_false_iff_not, Bool.and_eq_true, Bool.or_eq_true, Bool.not_eq_true', Int.not_le, Int.not_lt] at hc0
 obtain ⟨z, hz⟩ : ∃ z, pl[d]? = some z := ⟨_, List.getElem?_eq_getElem (by omega)⟩
 have hxm := List.mem_of_getElem? hz
 have hzl := hpi z hxm
 refine sy_addr (a := ap) (sz := 1) (rows := plrows pl) (by intro h0; have := congrArg List.length h0; rw [plrows_len] at this; simp only [List.length_nil] at this; omega) (fun bp op he => ?_)
 subst he
 refine Sy.heap (fun w h => St.inn (x := z) h hxm) ?_
 refine sy_skip ?_
 refine sy_seq ?_
 refine sy_block ?_
 refine sy_seq ?_
 refine sy_seq ?_
 refine sy_tx' [0, 1, 2, 3, 4, 5, 6, 7, 8, 9, 10, 11] rfl ?_
 refine sp rfl (PE.move rfl) rfl ?_
 refine sp rfl (PE.move rfl) rfl ?_
 refine sp rfl (PE.indexAddr el26 rfl rfl (by omega) (by omega)) rfl ?_
 refine spL rfl rfl (lf0 sc40 (pl_get hz) rfl) rfl ?_
 refine sp rfl (PE.move rfl) rfl ?_
 refine clV rfl cal73 rfl rfl (c_has z.l z.a z.c k hzl _ _) ?_
 refine sp rfl (PE.move rfl) rfl ?_
 refine sy_case (t := 30) rfl (fun g30 => ?_) (fun g30 => ?_)
 rw [has_I] at g30
 refine spG rfl rfl rfl rfl (PE.move rfl) rfl ?_
 refine spG rfl rfl rfl rfl (PE.fieldAddr fo33_0 rfl) rfl ?_
 refine spLG rfl rfl rfl rfl rfl (lh sc3 rfl rfl) rfl ?_
 refine spG rfl rfl rfl rfl (PE.gtr rfl rfl) rfl ?_
 refine sp rfl (PE.pick rfl rfl rfl) rfl ?_
 refine sy_cond rfl (fun hc1 => ?_) (fun hc1 => ?_)
 try simp only [decide_eq_true_eq, decide_eq_false_iff_not, Bool.and_eq_true, Bool.or_eq_true, Bool.not_eq_true', Int.not_le, Int.not_lt] at hc1
 have e1 : (wst b.cool (na b.rise c.toNat) k x.warm ((lls pl).take (d + 1))) = b.cool + na b.rise c.toNat := by rw [take_snoc (lls_get hz), wst_snoc, g30]; simp only [cond_true, cond_false] <;> omega
 refine sy_tx' [0, 1, 2] rfl ?_
 refine sp rfl (PE.fieldAddr fo33_0 rfl) rfl ?_
 refine spL rfl rfl (lh sc3 rfl rfl) rfl ?_
 refine sp rfl (PE.assign rfl) rfl ?_
 refine sy_seq ?_
 refine sy_tx' [0, 1, 2, 3, 4, 5, 6] rfl ?_
 refine sp rfl (PE.move rfl) rfl ?_
 refine sp rfl (PE.move rfl) rfl ?_
 refine sp rfl (PE.fieldAddr fo33_2 rfl) rfl ?_
 refine sp rfl (PE.indexArr ar22 rfl rfl (by omega) (by omega)) rfl ?_
 refine spL rfl rfl (lh sc3 rfl (by rw [show 0 + 2 + c.toNat * 1 = 2 + c.toNat by omega]; exact btl_rise (by omega))) rfl ?_
 refine sp rfl (PE.add rfl rfl (by omega)) rfl ?_
 refine sp rfl (PE.assign rfl) rfl ?_
 refine sy_tx' [0, 1, 2, 3, 4] rfl ?_
 rw [← e1]
 refine sp rfl (PE.move rfl) rfl ?_
 refine sp rfl (PE.move rfl) rfl ?_
 refine bsl (out := [_]) rfl sl40 zl3 rfl rfl rfl rfl rfl rfl (fun b46 => ?_)
 refine apO (o) rfl ap40 rfl rfl (rowsH (row := [.int .i64 ((wst b.cool (na b.rise c.toNat) k x.warm ((lls pl).take (d + 1))))]) rfl) rfl rfl ((by rw [irows_len, wL_len]; simp only [List.length_singleton]; omega)) rfl (fun o47 => ?_)
 refine sp rfl (PE.assign rfl) rfl ?_
 refine sy_tx' [0, 1, 2] rfl ?_
 refine sp rfl (PE.move rfl) rfl ?_
 refine sp rfl (PE.add rfl rfl (by omega)) rfl ?_
 refine sp rfl (PE.assign rfl) rfl ?_
 exact sy_next ⟨⟨d + 1, by omega⟩, o47.cast (by rw [wL_snoc]; simp [irows])⟩ (by dsimp only; omega) (by repeat' first | exact Sub.nil | apply Sub.cons | rfl | (simp [lk]; omega)) (fun w h => (h.del b46).ftail)
 try simp only [decide_eq_true_eq, decide_eq_false_iff_not, Bool.and_eq_true, Bool.or_eq_true, Bool.not_eq_true', Int.not_le, Int.not_lt] at hc1
 have e1 : (wst b.cool (na b.rise c.toNat) k x.warm ((lls pl).take (d + 1))) = (wst b.cool (na b.rise c.toNat) k x.warm ((lls pl).take d)) + na b.rise c.toNat := by rw [take_snoc (lls_get hz), wst_snoc, g30]; simp only [cond_true, cond_false] <;> omega
 refine sy_skip ?_
 refine sy_seq ?_
 refine sy_tx' [0, 1, 2, 3, 4, 5, 6] rfl ?_
 refine sp rfl (PE.move rfl) rfl ?_
 refine sp rfl (PE.move rfl) rfl ?_
 refine sp rfl (PE.fieldAddr fo33_2 rfl) rfl ?_
 refine sp rfl (PE.indexArr ar22 rfl rfl (by omega) (by omega)) rfl ?_
 refine spL rfl rfl (lh sc3 rfl (by rw [show 0 + 2 + c.toNat * 1 = 2 + c.toNat by omega]; exact btl_rise (by omega))) rfl ?_
 refine sp rfl (PE.add rfl rfl (by omega)) rfl ?_
 refine sp rfl (PE.assign rfl) rfl ?_
 refine sy_tx' [0, 1, 2, 3, 4] rfl ?_
 rw [← e1]
 refine sp rfl (PE.move rfl) rfl ?_
 refine sp rfl (PE.move rfl) rfl ?_
 refine bsl (out := [_]) rfl sl40 zl3 rfl rfl rfl rfl rfl rfl (fun b46 => ?_)
 refine apO (o) rfl ap40 rfl rfl (rowsH (row := [.int .i64 ((wst b.cool (na b.rise c.toNat) k x.warm ((lls pl).take (d + 1))))]) rfl) rfl rfl ((by rw [irows_len, wL_len]; simp only [List.length_singleton]; omega)) rfl (fun o47 => ?_)
 refine sp rfl (PE.assign rfl) rfl ?_
 refine sy_tx' [0, 1, 2] rfl ?_
 refine sp rfl (PE.move rfl) rfl ?_
 refine sp rfl (PE.add rfl rfl (by omega)) rfl ?_
 refine sp rfl (PE.assign rfl) rfl ?_
 exact sy_next ⟨⟨d + 1, by omega⟩, o47.cast (by rw [wL_snoc]; simp [irows])⟩ (by dsimp only; omega) (by repeat' first | exact Sub.nil | apply Sub.cons | rfl | (simp [lk]; omega)) (fun w h => (h.del b46).ftail)
 rw [has_I] at g30
 have e1 : (wst b.cool (na b.rise c.toNat) k x.warm ((lls pl).take (d + 1))) = (wst b.cool (na b.rise c.toNat) k x.warm ((lls pl).take d)) + na b.rise c.toNat := by rw [take_snoc (lls_get hz), wst_snoc, g30]; simp only [cond_true, cond_false] <;> omega
 repeat refine spN rfl rfl rfl rfl rfl rfl rfl rfl ?_
 refine sp rfl (PE.pick rfl rfl rfl) rfl ?_
 refine sy_condF rfl ?_
 refine sy_skip ?_
 refine sy_seq ?_
 refine sy_tx' [0, 1, 2, 3, 4, 5, 6] rfl ?_
 refine sp rfl (PE.move rfl) rfl ?_
 refine sp rfl (PE.move rfl) rfl ?_
 refine sp rfl (PE.fieldAddr fo33_2 rfl) rfl ?_
 refine sp rfl (PE.indexArr ar22 rfl rfl (by omega) (by omega)) rfl ?_
 refine spL rfl rfl (lh sc3 rfl (by rw [show 0 + 2 + c.toNat * 1 = 2 + c.toNat by omega]; exact btl_rise (by omega))) rfl ?_
 refine sp rfl (PE.add rfl rfl (by omega)) rfl ?_
 refine sp rfl (PE.assign rfl) rfl ?_
 refine sy_tx' [0, 1, 2, 3, 4] rfl ?_
 rw [← e1]
 refine sp rfl (PE.move rfl) rfl ?_
 refine sp rfl (PE.move rfl) rfl ?_
 refine bsl (out := [_]) rfl sl40 zl3 rfl rfl rfl rfl rfl rfl (fun b46 => ?_)
 refine apO (o) rfl ap40 rfl rfl (rowsH (row := [.int .i64 ((wst b.cool (na b.rise c.toNat) k x.warm ((lls pl).take (d + 1))))]) rfl) rfl rfl ((by rw [irows_len, wL_len]; simp only [List.length_singleton]; omega)) rfl (fun o47 => ?_)
 refine sp rfl (PE.assign rfl) rfl ?_
 refine sy_tx' [0, 1, 2] rfl ?_
 refine sp rfl (PE.move rfl) rfl ?_
 refine sp rfl (PE.add rfl rfl (by omega)) rfl ?_
 refine sp rfl (PE.assign rfl) rfl ?_
 exact sy_next ⟨⟨d + 1, by omega⟩, o47.cast (by rw [wL_snoc]; simp [irows])⟩ (by dsimp only; omega) (by repeat' first | exact Sub.nil | apply Sub.cons | rfl | (simp [lk]; omega)) (fun w h => (h.del b46).ftail)
 try simp only [decide_eq_true_eq, decide_eq_false_iff_not, Bool.and_eq_true, Bool.or_eq_true, Bool.not_eq_true', Int.not_le, Int.not_lt] at hc0
 obtain rfl : d = pl.length := by omega
 obtain ⟨aw, cw, he, hf⟩ := o.freeze
 rw [he, irows_len, wL_len]
 refine Sy.heap (fun w h => hf h) ?_
 clear he hf
 refine sy_exit ?_
 repeat refine sy_tx ?_
 refine sy_bx ?_
 refine sy_seq ?_
 refine sy_tx' [0, 1] rfl ?_
 refine sp rfl (PE.move rfl) rfl ?_
 refine sp rfl (PE.assign rfl) rfl ?_
 refine sy_ret ?_
 exact sy_return (vs := [_]) rfl (.cons (RV.tmp rfl) .nil) rfl ⟨aw, cw, rfl, rfl, rfl⟩ (fun w h => h.del b4)
theorem c_rBurns (b : Barn) (ab : Option Addr) (cb : Nat) (hok : b.ok) (pl : List PL) (ap : Option Addr) (cp : Nat) (hpl : pl.length ≤ 9223372036854775807) (hpi : ∀ x ∈ pl, x.l.length ≤ 9223372036854775807) (hp9 : pl.length ≤ 1000000) (H : Heap) (R : Facts) [hB : MemRows ab 4 (brows b.bins) R] [hP : MemRows ap 1 (plrows pl) R] [hI : MemF (Inn pl) R] :
    FnV Try.prog 25 [b.v (b.sl ab cb), .slice ap pl.length cp] H R (.tuple #[.int .i64 (brnQ b (lls pl)).1, .int .i64 (brnQ b (lls pl)).2.1, .bool (brnQ b (lls pl)).2.2]) := by
 have hmn := hok.many
 refine fn_of Try.func25 rfl Try.ntmps25 rfl ?_
 refine sy_seq ?_
 refine sy_tx' [0, 1, 2, 3] rfl ?_
 refine bx rfl rfl rfl (fun b2 => ?_)
 refine sp rfl (PE.assign rfl) rfl ?_
 refine sp rfl (PE.assign rfl) rfl ?_
 refine sp rfl (PE.assign rfl) rfl ?_
 refine sy_seq ?_
 refine sy_tx' [0, 1, 2] rfl ?_
 refine sp rfl (PE.assign rfl) rfl ?_
 refine sp rfl (PE.assign rfl) rfl ?_
 refine sp rfl (PE.assign rfl) rfl ?_
 refine sy_seq ?_
 refine sy_seq ?_
 refine sy_tx' [0] rfl ?_
 refine sp rfl (PE.assign rfl) rfl ?_
 refine sy_block ?_
 refine sy_loop (ι := {y : Nat × (Nat × Nat × Bool) // y.1 ≤ b.bins.length ∧ Bst (SA b (lls pl) y.1) y.2}) (fun y => ⟨[(1, .slice ap pl.length cp), (2, .pointer (some ⟨b2, 0, none⟩)), (7, .int .i64 y.1.2.1), (8, .int .i64 y.1.2.2.1), (9, .bool y.1.2.2.2), (10, .int .i64 y.1.1)], (b2, cel 33 (btl b (b.sl ab cb))) :: H, R⟩) (fun y => b.bins.length - y.1.1) ⟨(0, 0, 0, false), Nat.zero_le _, SA.start⟩ ?_ (fun y => ?_)
 exact sy_at (by repeat' first | exact Sub.nil | apply Sub.cons | rfl | (simp [lk]; omega)) (fun _ h => h)
 obtain ⟨⟨k, q⟩, hk, hbs⟩ := y
 dsimp only at hk hbs ⊢
 refine sy_seq ?_
 refine sy_seq ?_
 refine sy_tx' [0, 1, 2, 3, 4] rfl ?_
 refine sp rfl (PE.move rfl) rfl ?_
 refine sp rfl (PE.fieldAddr fo33_3 rfl) rfl ?_
 refine spL rfl rfl (lh sc31 rfl rfl) rfl ?_
 refine sp rfl (PE.lenSl isl31 rfl) rfl ?_
 refine sp rfl (PE.lss rfl rfl) rfl ?_
 refine sy_cond rfl (fun hc0 => ?_) (fun hc0 => ?_)
 try simp only [decide_eq_true_eq, decide_eq_false_iff_not, Bool.and_eq_true, Bool.or_eq_true, Bool.not_eq_true', Int.not_le, Int.not_lt] at hc0
 obtain ⟨x, hx⟩ : ∃ x, b.bins[k]? = some x := ⟨_, List.getElem?_eq_getElem (by omega)⟩
 have hm := List.mem_of_getElem? hx
 have hh := hok.bins x hm
 have ho := hok.ord x hm
 have ex : b.binD k = x := bin_getD hx
 refine sy_addr (a := ab) (sz := 4) (rows := brows b.bins) (by intro h0; simp [brows] at h0; simp [h0] at hx) (fun ba oa he => ?_)
 subst he
 refine sy_skip ?_
 refine sy_seq ?_
 refine sy_block ?_
 refine sy_seq ?_
 refine sy_tx' [0, 1, 2, 3, 4, 5, 6, 7] rfl ?_
 refine sp rfl (PE.fieldAddr fo33_3 rfl) rfl ?_
 refine spL rfl rfl (lh sc31 rfl rfl) rfl ?_
 refine sp rfl (PE.move rfl) rfl ?_
 refine sp rfl (PE.indexAddr el31 rfl rfl (by omega) (by omega)) rfl ?_
 refine sp rfl (PE.fieldAddr fo113_2 rfl) rfl ?_
 refine sp rfl (PE.fieldAddr fo43_0 rfl) rfl ?_
 refine spL rfl rfl (lf (j := 2) sc3 (br_get hx) rfl) rfl ?_
 refine sp rfl (PE.assign rfl) rfl ?_
 refine sy_block ?_
 refine sy_loop (ι := {y : Int × (Nat × Nat × Bool) // x.lo ≤ y.1 ∧ y.1 ≤ x.hi + 1 ∧ Bst (SB b (lls pl) k y.1) y.2}) (fun y => ⟨[(1, .slice ap pl.length cp), (2, .pointer (some ⟨b2, 0, none⟩)), (7, .int .i64 y.1.2.1), (8, .int .i64 y.1.2.2.1), (9, .bool y.1.2.2.2), (10, .int .i64 k), (11, .int .i64 y.1.1)], (b2, cel 33 (btl b (b.sl (some ⟨ba, oa, none⟩) cb))) :: H, R⟩) (fun y => (x.hi + 1 - y.1.1).toNat) ⟨(x.lo, q), Int.le_refl _, by dsimp only; omega, SB.start (by rw [ex]) hbs⟩ ?_ (fun y => ?_)
 exact sy_at (by repeat' first | exact Sub.nil | apply Sub.cons | rfl | (simp [lk]; omega)) (fun _ h => h)
 obtain ⟨⟨c, q1⟩, hlo, hhi, hbs1⟩ := y
 dsimp only at hlo hhi hbs1 ⊢
 refine sy_seq ?_
 refine sy_seq ?_
 refine sy_tx' [0, 1, 2, 3, 4, 5, 6, 7, 8] rfl ?_
 refine sp rfl (PE.move rfl) rfl ?_
 refine sp rfl (PE.fieldAddr fo33_3 rfl) rfl ?_
 refine spL rfl rfl (lh sc31 rfl rfl) rfl ?_
 refine sp rfl (PE.move rfl) rfl ?_
 refine sp rfl (PE.indexAddr el31 rfl rfl (by omega) (by omega)) rfl ?_
 refine sp rfl (PE.fieldAddr fo113_2 rfl) rfl ?_
 refine sp rfl (PE.fieldAddr fo43_1 rfl) rfl ?_
 refine spL rfl rfl (lf (j := 3) sc3 (br_get hx) rfl) rfl ?_
 refine sp rfl (PE.leq rfl rfl) rfl ?_
 refine sy_cond rfl (fun hc1 => ?_) (fun hc1 => ?_)
 try simp only [decide_eq_true_eq, decide_eq_false_iff_not, Bool.and_eq_true, Bool.or_eq_true, Bool.not_eq_true', Int.not_le, Int.not_lt] at hc1
 refine sy_skip ?_
 refine sy_seq ?_
 refine sy_block ?_
 refine sy_seq ?_
 refine sy_tx' [0, 1, 2, 3, 4, 5] rfl ?_
 refine spL rfl rfl (lhA (btl b (b.sl (some ⟨ba, oa, none⟩) cb)) ag33 rfl rfl rfl) rfl ?_
 refine sp rfl (PE.move rfl) rfl ?_
 refine sp rfl (PE.move rfl) rfl ?_
 refine sp rfl (PE.move rfl) rfl ?_
 refine cl rfl cal24 rfl rfl (c_rWarmth b (some ⟨ba, oa, none⟩) cb hok pl ap cp hpl hpi hp9 k x hx c (by omega) _ _) ?_
 rintro _ _ _ ⟨aw, cw, rfl, rfl, rfl⟩
 refine sp rfl (PE.assign rfl) rfl ?_
 refine sy_seq ?_
 refine sy_tx' [0] rfl ?_
 refine sp rfl (PE.assign rfl) rfl ?_
 refine sy_block ?_
 refine sy_loop (ι := {y : Nat × (Nat × Nat × Bool) // y.1 ≤ pl.length ∧ Bst (SC b (lls pl) k c y.1) y.2}) (fun y => ⟨[(1, .slice ap pl.length cp), (2, .pointer (some ⟨b2, 0, none⟩)), (7, .int .i64 y.1.2.1), (8, .int .i64 y.1.2.2.1), (9, .bool y.1.2.2.2), (10, .int .i64 k), (11, .int .i64 c), (12, .slice aw pl.length cw), (13, .int .i64 y.1.1)], (b2, cel 33 (btl b (b.sl (some ⟨ba, oa, none⟩) cb))) :: H, RowsA aw 1 (irows (wL b.cool (na b.rise c.toNat) k x.warm (lls pl) pl.length)) :: R⟩) (fun y => pl.length - y.1.1) ⟨(0, q1), Nat.zero_le _, SC.start hbs1⟩ ?_ (fun y => ?_)
 exact sy_at (by repeat' first | exact Sub.nil | apply Sub.cons | rfl | (simp [lk]; omega)) (fun _ h => h)
 obtain ⟨⟨e, q2⟩, he2, hbs2⟩ := y
 dsimp only at he2 hbs2 ⊢
 have hqb := hbs2.bd (by rw [lls_len]; exact he2)
 rw [lls_len] at hqb
 refine sy_seq ?_
 refine sy_seq ?_
 refine sy_tx' [0, 1, 2, 3] rfl ?_
 refine sp rfl (PE.move rfl) rfl ?_
 refine sp rfl (PE.move rfl) rfl ?_
 refine sp rfl (PE.lenSl isl40 rfl) rfl ?_
 refine sp rfl (PE.lss rfl rfl) rfl ?_
 refine sy_cond rfl (fun hc2 => ?_) (fun hc2 => ?_)
 try simp only [decide_eq_true_eq, decide_eq_false_iff_not, Bool.and_eq_true, Bool.or_eq_true, Bool.not_eq_true', Int.not_le, Int.not_lt] at hc2
 refine sy_addr (a := aw) (sz := 1) (rows := irows (wL b.cool (na b.rise c.toNat) k x.warm (lls pl) pl.length)) (by intro h0; have := congrArg List.length h0; rw [irows_len, wL_len] at this; simp only [List.length_nil] at this; omega) (fun bw ow he => ?_)
 subst he
 refine sy_skip ?_
 refine sy_seq ?_
 refine sy_block ?_
 refine sy_seq ?_
 refine sy_draw [0, 0, 3, 7, 0, 16, 0, 112, 240, 496, 1023, 2047, 4095, 8191, 16383, 32767, 32767, 131071, 262143, 524287] (.tk 0 (.tk 1 (.tk 2 (.ld 3 (.tk 4 (.ld 5 (.tk 6 (.tk 7 (.tk 8 (.ld 9 (.tk 10 (.tk 11 (.tk 12 (.tk 13 (.tk 14 (.tk 15 (.tk 16 (.tk 17 (.tk 18 (.tk 19 .done)))))))))))))))))))) mixed (by kernel_rfl) ?_
 refine tk rfl (PE.move rfl) rfl ?_
 refine tk rfl (PE.move rfl) rfl ?_
 refine tk rfl (PE.indexAddr el40 rfl rfl (by omega) (by omega)) rfl ?_
 refine ld rfl rfl (lf0 sc3 (ir_get (wL_get (d := e) (by omega))) rfl) rfl ?_
 refine tk rfl (PE.fieldAddr fo33_3 rfl) rfl ?_
 refine ld rfl rfl (lh sc31 rfl rfl) rfl ?_
 refine tk rfl (PE.move rfl) rfl ?_
 refine tk rfl (PE.indexAddr el31 rfl rfl (by omega) (by omega)) rfl ?_
 refine tk rfl (PE.fieldAddr fo113_1 rfl) rfl ?_
 refine ld rfl rfl (lf (j := 1) sc3 (br_get hx) rfl) rfl ?_
 refine tk rfl (PE.gtr rfl rfl) rfl ?_
 refine tk rfl (PE.move rfl) rfl ?_
 refine sy_case (t := 61) rfl (fun g61 => ?_) (fun g61 => ?_)
 try simp only [decide_eq_true_eq, decide_eq_false_iff_not, Bool.and_eq_true, Bool.or_eq_true, Bool.not_eq_true', Int.not_le, Int.not_lt] at g61
 have hht : hotc b (lls pl) k c e := by unfold hotc; rw [ex]; exact g61
 refine tkG rfl rfl rfl rfl (PE.move rfl) rfl ?_
 refine tkG rfl rfl rfl rfl (PE.not rfl) rfl ?_
 refine tkG rfl rfl rfl rfl (PE.move rfl) rfl ?_
 refine sy_case (t := 64) rfl (fun g64 => ?_) (fun g64 => ?_)
 have hbn := hbs2.add (SC.hot hht) (.inl (by simpa using g64))
 repeat refine tkN rfl rfl rfl rfl rfl rfl rfl rfl ?_
 refine tkG rfl rfl rfl rfl (PE.pick rfl rfl rfl) rfl ?_
 refine tk rfl (PE.pick rfl rfl rfl) rfl ?_
 refine sy_condT rfl ?_
 refine sy_tx' [0, 1, 2, 3, 4] rfl ?_
 refine sp rfl (PE.move rfl) rfl ?_
 refine sp rfl (PE.move rfl) rfl ?_
 refine sp rfl (PE.assign rfl) rfl ?_
 refine sp rfl (PE.assign rfl) rfl ?_
 refine sp rfl (PE.assign rfl) rfl ?_
 refine sy_tx' [0, 1, 2] rfl ?_
 refine sp rfl (PE.move rfl) rfl ?_
 refine sp rfl (PE.add rfl rfl (by omega)) rfl ?_
 refine sp rfl (PE.assign rfl) rfl ?_
 first | exact sy_next ⟨(e + 1, e, k, true), by dsimp only; omega, hbn⟩ (by dsimp only; omega) (by repeat' first | exact Sub.nil | apply Sub.cons | rfl | (simp [lk]; omega)) (fun _ h => h) | exact sy_next ⟨(e + 1, q2), by dsimp only; omega, hbn⟩ (by dsimp only; omega) (by repeat' first | exact Sub.nil | apply Sub.cons | rfl | (simp [lk]; omega)) (fun _ h => h)
 have hq2 : q2.2.2 = true := by simpa using g64
 refine tkG rfl rfl rfl rfl (PE.move rfl) rfl ?_
 refine tkG rfl rfl rfl rfl (PE.move rfl) rfl ?_
 refine tkG rfl rfl rfl rfl (PE.lss rfl rfl) rfl ?_
 refine tkG rfl rfl rfl rfl (PE.pick rfl rfl rfl) rfl ?_
 refine tk rfl (PE.pick rfl rfl rfl) rfl ?_
 refine sy_cond rfl (fun hc3 => ?_) (fun hc3 => ?_)
 try simp only [decide_eq_true_eq, decide_eq_false_iff_not, Bool.and_eq_true, Bool.or_eq_true, Bool.not_eq_true', Int.not_le, Int.not_lt] at hc3
 first | have hbn := hbs2.add (SC.hot hht) (.inr (by omega)) | skip
 refine sy_tx' [0, 1, 2, 3, 4] rfl ?_
 refine sp rfl (PE.move rfl) rfl ?_
 refine sp rfl (PE.move rfl) rfl ?_
 refine sp rfl (PE.assign rfl) rfl ?_
 refine sp rfl (PE.assign rfl) rfl ?_
 refine sp rfl (PE.assign rfl) rfl ?_
 refine sy_tx' [0, 1, 2] rfl ?_
 refine sp rfl (PE.move rfl) rfl ?_
 refine sp rfl (PE.add rfl rfl (by omega)) rfl ?_
 refine sp rfl (PE.assign rfl) rfl ?_
 first | exact sy_next ⟨(e + 1, e, k, true), by dsimp only; omega, hbn⟩ (by dsimp only; omega) (by repeat' first | exact Sub.nil | apply Sub.cons | rfl | (simp [lk]; omega)) (fun _ h => h) | exact sy_next ⟨(e + 1, q2), by dsimp only; omega, hbn⟩ (by dsimp only; omega) (by repeat' first | exact Sub.nil | apply Sub.cons | rfl | (simp [lk]; omega)) (fun _ h => h)
 try simp only [decide_eq_true_eq, decide_eq_false_iff_not, Bool.and_eq_true, Bool.or_eq_true, Bool.not_eq_true', Int.not_le, Int.not_lt] at hc3
 first | have hbn := hbs2.keep (fun j d h => SC.le h) (SC.hot hht) hq2 (by omega) | skip
 refine sy_skip ?_
 refine sy_tx' [0, 1, 2] rfl ?_
 refine sp rfl (PE.move rfl) rfl ?_
 refine sp rfl (PE.add rfl rfl (by omega)) rfl ?_
 refine sp rfl (PE.assign rfl) rfl ?_
 first | exact sy_next ⟨(e + 1, e, k, true), by dsimp only; omega, hbn⟩ (by dsimp only; omega) (by repeat' first | exact Sub.nil | apply Sub.cons | rfl | (simp [lk]; omega)) (fun _ h => h) | exact sy_next ⟨(e + 1, q2), by dsimp only; omega, hbn⟩ (by dsimp only; omega) (by repeat' first | exact Sub.nil | apply Sub.cons | rfl | (simp [lk]; omega)) (fun _ h => h)
 try simp only [decide_eq_true_eq, decide_eq_false_iff_not, Bool.and_eq_true, Bool.or_eq_true, Bool.not_eq_true', Int.not_le, Int.not_lt] at g61
 have hht : ¬ hotc b (lls pl) k c e := by unfold hotc; rw [ex]; omega
 have hbn := SC.cold hbs2 hht
 repeat refine tkN rfl rfl rfl rfl rfl rfl rfl rfl ?_
 repeat refine tkU rfl rfl rfl rfl rfl rfl rfl ?_
 refine tkN rfl rfl rfl rfl rfl rfl rfl rfl ?_
 refine tk rfl (PE.pick rfl rfl rfl) rfl ?_
 refine sy_condF rfl ?_
 refine sy_skip ?_
 refine sy_tx' [0, 1, 2] rfl ?_
 refine sp rfl (PE.move rfl) rfl ?_
 refine sp rfl (PE.add rfl rfl (by omega)) rfl ?_
 refine sp rfl (PE.assign rfl) rfl ?_
 first | exact sy_next ⟨(e + 1, e, k, true), by dsimp only; omega, hbn⟩ (by dsimp only; omega) (by repeat' first | exact Sub.nil | apply Sub.cons | rfl | (simp [lk]; omega)) (fun _ h => h) | exact sy_next ⟨(e + 1, q2), by dsimp only; omega, hbn⟩ (by dsimp only; omega) (by repeat' first | exact Sub.nil | apply Sub.cons | rfl | (simp [lk]; omega)) (fun _ h => h)
 try simp only [decide_eq_true_eq, decide_eq_false_iff_not, Bool.and_eq_true, Bool.or_eq_true, Bool.not_eq_true', Int.not_le, Int.not_lt] at hc2
 obtain rfl : e = pl.length := by omega
 have hbd := SC.done (by rw [ex]; exact hlo) (by rw [lls_len]; exact hbs2)
 refine sy_exit ?_
 repeat refine sy_tx ?_
 refine sy_bx ?_
 refine sy_tx' [0, 1, 2] rfl ?_
 refine sp rfl (PE.move rfl) rfl ?_
 refine sp rfl (PE.add rfl rfl (by omega)) rfl ?_
 refine sp rfl (PE.assign rfl) rfl ?_
 exact sy_next ⟨(c + 1, q2), by dsimp only; omega, by dsimp only; omega, hbd⟩ (by dsimp only; omega) (by repeat' first | exact Sub.nil | apply Sub.cons | rfl | (simp [lk]; omega)) (fun w h => h.ftail)
 try simp only [decide_eq_true_eq, decide_eq_false_iff_not, Bool.and_eq_true, Bool.or_eq_true, Bool.not_eq_true', Int.not_le, Int.not_lt] at hc1
 refine sy_exit ?_
 repeat refine sy_tx ?_
 refine sy_bx ?_
 refine sy_tx' [0, 1, 2] rfl ?_
 refine sp rfl (PE.move rfl) rfl ?_
 refine sp rfl (PE.add rfl rfl (by omega)) rfl ?_
 refine sp rfl (PE.assign rfl) rfl ?_
 exact sy_next ⟨(k + 1, q1), by dsimp only; omega, SB.done (by rw [ex]; omega) hbs1⟩ (by dsimp only; omega) (by repeat' first | exact Sub.nil | apply Sub.cons | rfl | (simp [lk]; omega)) (fun _ h => h)
 try simp only [decide_eq_true_eq, decide_eq_false_iff_not, Bool.and_eq_true, Bool.or_eq_true, Bool.not_eq_true', Int.not_le, Int.not_lt] at hc0
 obtain rfl : k = b.bins.length := by omega
 have hqe := Bst.burns hok hbs
 refine sy_exit ?_
 repeat refine sy_tx ?_
 refine sy_bx ?_
 refine sy_seq ?_
 refine sy_tx' [0, 1, 2, 3, 4, 5] rfl ?_
 refine sp rfl (PE.move rfl) rfl ?_
 refine sp rfl (PE.move rfl) rfl ?_
 refine sp rfl (PE.move rfl) rfl ?_
 refine sp rfl (PE.assign rfl) rfl ?_
 refine sp rfl (PE.assign rfl) rfl ?_
 refine sp rfl (PE.assign rfl) rfl ?_
 refine sy_ret ?_
 exact sy_return (vs := [_, _, _]) rfl (.cons (RV.tmp rfl) (.cons (RV.tmp rfl) (.cons (RV.tmp rfl) .nil))) rfl ⟨by rw [← hqe]; rfl, rfl, rfl⟩ (fun w h => h.del b2)
end Go.Proofs.Ytelegnmfhjfbaaa
namespace Go.Proofs.Ytelegnmfhjfbaaa
set_option linter.unusedSimpArgs false
set_option linter.unusedVariables false
open Go
theorem cal17 : cal Try.prog 17 = true := by kernel_rfl
theorem cal21 : cal Try.prog 21 = true := by kernel_rfl
theorem cal23 : cal Try.prog 23 = true := by kernel_rfl
theorem cal25 : cal Try.prog 25 = true := by kernel_rfl
theorem cal32 : cal Try.prog 32 = true := by kernel_rfl
theorem ub4 : Try.prog.underlying 4 = some .bool := by kernel_rfl
theorem brn_none {b : Barn} {p : List (List Int)} (h : (b.burnsF b.warms p 0).1 = none) : brnQ b p = (0, 0, false) := by unfold brnQ; rw [h]
theorem brn_some {b : Barn} {p : List (List Int)} {q : Nat × Nat} (h : (b.burnsF b.warms p 0).1 = some q) : brnQ b p = (q.1, q.2, true) := by unfold brnQ; rw [h]
theorem brn_cases (b : Barn) (p : List (List Int)) : (∃ ws, b.burnsF b.warms p 0 = (none, ws) ∧ brnQ b p = (0, 0, false)) ∨ ∃ d k ws, b.burnsF b.warms p 0 = (some (d, k), ws) ∧ brnQ b p = (d, k, true) := by
  cases h : b.burnsF b.warms p 0 with
  | mk o ws => cases o with
    | none => exact .inl ⟨ws, rfl, brn_none (by rw [h])⟩
    | some q => exact .inr ⟨q.1, q.2, ws, rfl, brn_some (by rw [h])⟩
end Go.Proofs.Ytelegnmfhjfbaaa
namespace Go.Proofs.Ytelegnmfhjfbaaa
set_option linter.unusedSimpArgs false
set_option linter.unusedVariables false
theorem Dsk.next_mono {d : Dsk} (hd : d.ok) {s s' : HSt} (h : d.inS s) (h' : d.inS s') (hle : ∀ k < d.n, na s k ≤ na s' k) {l l' : List Nat} (hl : ∀ k ∈ l, k < d.n) (hl' : ∀ k ∈ l', k < d.n)
    (hsub : ∀ k ∈ l, k ∈ l') {t : HSt} (e : d.next s l = some t) : ∃ t', d.next s' l' = some t' ∧ ∀ k < d.n, na t k ≤ na t' k := by
  obtain ⟨_, h2⟩ := d.next_at hd.n.2 h.len hl e
  have hm : ∀ k < d.n, d.mid s l k ≤ d.mid s' l' k := fun k hk => by
    have := hle k hk
    unfold Dsk.mid
    by_cases h3 : k ∈ l
    · rw [if_pos h3, if_pos (hsub k h3)]; omega
    · rw [if_neg h3]; split <;> omega
  obtain ⟨t', ht'⟩ := d.next_some hd.n.2 h'.len hl' (fun k hk => by have := hm k hk; have := (h2 k).1 hk; have := d.inS_mid hd h l hk; have := d.inS_mid hd h' l' hk; have := (hd.ever k hk).2.1; omega)
  refine ⟨t', ht', fun k hk => ?_⟩
  obtain ⟨_, h3⟩ := d.next_at hd.n.2 h'.len hl' ht'
  have a1 := (h2 k).2; have a2 := (h3 k).2
  have := hm k hk
  have b1 := d.inS_mid hd h l hk; have b2 := d.inS_mid hd h' l' hk
  have := (hd.ever k hk).2.1
  rw [a1, a2]
  split <;> split <;> omega
theorem full_dec : ((List.range 5).all fun n => (List.range (2 ^ n)).all fun u => (List.range (n + 1)).all fun g => !decide ((bitl n u).length ≤ g) || (List.range (2 ^ n)).any fun v => decide ((bitl n v).length = g) && (bitl n u).all fun k => (bitl n v).contains k) = true := by decide +kernel
theorem full_ext {n u g : Nat} (hn : n ≤ 4) (hu : u < 2 ^ n) (hg : g ≤ n) (h : (bitl n u).length ≤ g) : ∃ v, v < 2 ^ n ∧ (bitl n v).length = g ∧ ∀ k ∈ bitl n u, k ∈ bitl n v := by
  have h0 := full_dec
  rw [List.all_eq_true] at h0
  have h1 := h0 n (List.mem_range.2 (by omega))
  rw [List.all_eq_true] at h1
  have h2 := h1 u (List.mem_range.2 hu)
  rw [List.all_eq_true] at h2
  have h3 := h2 g (List.mem_range.2 (by omega))
  rw [decide_eq_true h, Bool.not_true, Bool.false_or, List.any_eq_true] at h3
  obtain ⟨v, hv, h4⟩ := h3
  rw [Bool.and_eq_true, decide_eq_true_eq, List.all_eq_true] at h4
  exact ⟨v, List.mem_range.1 hv, h4.1, fun k hk => by simpa using h4.2 k hk⟩
theorem Dsk.mem_trs {d : Dsk} {full : Bool} {l : List Nat} : l ∈ d.trs full ↔ ∃ u, u < 2 ^ d.n ∧ l = bitl d.n u ∧ (l.length : Int) ≤ d.g ∧ (full = true → d.g ≤ (l.length : Int)) := by
  unfold Dsk.trs
  rw [List.mem_filter, List.mem_map]
  have hm : d.may full l = true ↔ (l.length : Int) ≤ d.g ∧ (full = true → d.g ≤ (l.length : Int)) := by
    unfold Dsk.may
    cases full <;> simp <;> omega
  constructor
  · rintro ⟨⟨u, hu, rfl⟩, h⟩; exact ⟨u, List.mem_range.1 hu, rfl, hm.1 h⟩
  · rintro ⟨u, hu, rfl, h⟩; exact ⟨⟨u, List.mem_range.2 hu, rfl⟩, hm.2 h⟩
theorem Dsk.full_of {d : Dsk} (hd : d.ok) {l : List Nat} (h : l ∈ d.trs false) : ∃ l' ∈ d.trs true, ∀ k ∈ l, k ∈ l' := by
  obtain ⟨u, hu, rfl, h1, _⟩ := d.mem_trs.1 h
  have hn := hd.n; have hg := hd.gangs
  have e : (d.g.toNat : Int) = d.g := by unfold Dsk.g at *; omega
  obtain ⟨v, hv, h2, h3⟩ := full_ext (g := d.g.toNat) hn.2 hu (by unfold Dsk.g at *; omega) (by omega)
  exact ⟨_, d.mem_trs.2 ⟨v, hv, rfl, by omega, fun _ => by omega⟩, h3⟩
def Dsk.pth (d : Dsk) : Nat → HSt → HSt → Nat → Prop
  | 0, s, t, c => t = s ∧ c = 0
  | n + 1, s, t, c => ∃ u a l, d.pth n s u a ∧ l ∈ d.trs false ∧ d.next u l = some t ∧ c = a + l.length
theorem Dsk.pth_cons {d : Dsk} {s u : HSt} {l : List Nat} (hl : l ∈ d.trs false) (e : d.next s l = some u) : ∀ {n : Nat} {t : HSt} {c : Nat}, d.pth n u t c → d.pth (n + 1) s t (l.length + c)
  | 0, t, c, h => by obtain ⟨rfl, rfl⟩ := h; exact ⟨s, 0, l, ⟨rfl, rfl⟩, hl, e, by omega⟩
  | n + 1, t, c, h => by
    obtain ⟨v, a, l', h1, h2, h3, rfl⟩ := h
    exact ⟨v, l.length + a, l', pth_cons hl e h1, h2, h3, by omega⟩
theorem Dsk.pth_uncons {d : Dsk} {s : HSt} : ∀ {n : Nat} {t : HSt} {c : Nat}, d.pth (n + 1) s t c → ∃ l u a, l ∈ d.trs false ∧ d.next s l = some u ∧ d.pth n u t a ∧ c = l.length + a
  | 0, t, c, h => by
    obtain ⟨v, a, l, ⟨rfl, rfl⟩, h2, h3, rfl⟩ := h
    exact ⟨l, t, 0, h2, h3, ⟨rfl, rfl⟩, by omega⟩
  | n + 1, t, c, h => by
    obtain ⟨v, a, l, h1, h2, h3, rfl⟩ := h
    obtain ⟨l', u, a', i1, i2, i3, rfl⟩ := pth_uncons h1
    exact ⟨l', u, a' + l.length, i1, i2, ⟨v, a', l, i3, h2, h3, rfl⟩, by omega⟩
theorem Dsk.trs_sub {d : Dsk} {l : List Nat} (h : l ∈ d.trs true) : l ∈ d.trs false := by
  obtain ⟨u, hu, rfl, h1, _⟩ := d.mem_trs.1 h
  exact d.mem_trs.2 ⟨u, hu, rfl, h1, fun h => by cases h⟩
theorem Dsk.pth_inS {d : Dsk} (hd : d.ok) {s : HSt} (hs : d.inS s) : ∀ {n : Nat} {t : HSt} {c : Nat}, d.pth n s t c → d.inS t
  | 0, t, c, h => by obtain ⟨rfl, rfl⟩ := h; exact hs
  | n + 1, t, c, h => by
    obtain ⟨v, a, l, h1, h2, h3, rfl⟩ := h
    exact d.next_inS hd (pth_inS hd hs h1) (d.trs_lt h2) h3
theorem Dsk.pth_alive {d : Dsk} (hd : d.ok) : ∀ {n : Nat} {s s' t : HSt} {c : Nat}, d.inS s → d.inS s' → (∀ k < d.n, na s k ≤ na s' k) → d.pth n s t c → s' ∈ d.alive n
  | 0, s, s', t, c, _, h', _, _ => (d.mem_sts hd s').2 h'
  | n + 1, s, s', t, c, h, h', hle, hp => by
    obtain ⟨v, a, _, h1, _⟩ := id hp
    obtain ⟨l, u, a', i1, i2, i3, _⟩ := d.pth_uncons hp
    obtain ⟨l', j1, j2⟩ := d.full_of hd i1
    obtain ⟨u', k1, k2⟩ := d.next_mono hd h h' hle (d.trs_lt i1) (d.trs_lt j1) j2 i2
    exact d.alive_succ.2 ⟨pth_alive hd h h' hle h1, d.helped_iff.2 ⟨l', j1, u', k1, pth_alive hd (d.next_inS hd h (d.trs_lt i1) i2) (d.next_inS hd h' (d.trs_lt j1) k1) k2 i3⟩⟩
theorem Dsk.alive_pth {d : Dsk} : ∀ {n : Nat} {s : HSt}, s ∈ d.alive n → ∃ t c, d.pth n s t c
  | 0, s, _ => ⟨s, 0, rfl, rfl⟩
  | n + 1, s, h => by
    obtain ⟨l, hl, t, ht, hta⟩ := d.helped_iff.1 (d.alive_succ.1 h).2
    obtain ⟨t', c, hp⟩ := alive_pth hta
    exact ⟨t', _, d.pth_cons (d.trs_sub hl) ht hp⟩
theorem Dsk.alive_iff {d : Dsk} (hd : d.ok) {n : Nat} {s : HSt} (hs : d.inS s) : s ∈ d.alive n ↔ ∃ t c, d.pth n s t c :=
  ⟨d.alive_pth, fun ⟨_, _, h⟩ => d.pth_alive hd hs hs (fun _ _ => Int.le_refl _) h⟩
theorem Dsk.alive_stop (d : Dsk) : ∃ n, n ≤ d.nst ∧ d.alive (n + 1) = d.alive n := by
  by_cases h : ∃ n, n ≤ d.nst ∧ d.alive (n + 1) = d.alive n
  · exact h
  · have h1 : ∀ m, m ≤ d.nst + 1 → (d.alive m).length + m ≤ d.nst := by
      intro m
      induction m with
      | zero => intro _; show d.sts.length + 0 ≤ _; rw [d.sts_len]; omega
      | succ m ih =>
        intro hm
        have := ih (by omega)
        have h2 : ((d.alive m).filter fun s => !d.helped (d.alive m) s).length ≠ 0 := fun e => h ⟨m, by omega, d.alive_same e⟩
        have := d.alive_less h2
        omega
    have := h1 (d.nst + 1) (Nat.le_refl _)
    omega
theorem Dsk.alive_ever {d : Dsk} {s : HSt} {m : Nat} (hm : d.nst ≤ m) (h : s ∈ d.alive m) : ∀ k, s ∈ d.alive k := fun k => by
  obtain ⟨n, hn, e⟩ := d.alive_stop
  rcases Nat.lt_or_ge k n with h1 | h1
  · exact d.alive_le (by omega) h
  · obtain ⟨j, rfl⟩ : ∃ j, k = n + j := ⟨k - n, by omega⟩
    rw [d.alive_fix e]; exact d.alive_le (by omega) h
theorem kpt_ref {d : Dsk} (hd : d.ok) {s : HSt} (hs : d.inS s) {j : Nat} (hj : j ≤ d.nst) (h1 : ∃ t c, d.pth j s t c) (h2 : ¬ ∃ t c, d.pth (j + 1) s t c) : Kpt d s j :=
  .inr ⟨j, Nat.le_trans hj (d.nst_le hd).2, rfl, (d.alive_iff hd hs).2 h1, fun h => h2 ((d.alive_iff hd hs).1 h)⟩
theorem kpt_ref_ever {d : Dsk} (hd : d.ok) {s : HSt} (hs : d.inS s) {m : Nat} (hm : d.nst ≤ m) (h1 : ∃ t c, d.pth m s t c) : Kpt d s 1000000 :=
  .inl ⟨rfl, d.alive_ever hm ((d.alive_iff hd hs).2 h1)⟩
def rmid (la s : List Int) (u k : Nat) : Int := bif u.testBit k then max (na s k) (na la k) else na s k
def rnum (v : Int) : Int := bif decide (v = 1000000) then v else v - 1
def rNx (la s : List Int) (u : Nat) : Nat → Option (List Int)
  | 0 => some []
  | k + 1 => match rNx la s u k with
    | none => none
    | some t => bif decide (rnum (rmid la s u k) < 0) then none else some (t ++ [rnum (rmid la s u k)])
theorem rNx_len {la s : List Int} {u : Nat} : ∀ {k : Nat} {t : List Int}, rNx la s u k = some t → t.length = k
  | 0, t, h => by cases h; rfl
  | k + 1, t, h => by
    unfold rNx at h
    split at h
    · cases h
    · rename_i v hv
      cases h1 : decide (rnum (rmid la s u k) < 0) with
      | true => rw [h1] at h; cases h
      | false => rw [h1] at h; cases h; simp [rNx_len hv]
theorem rNx_none {la s : List Int} {u n : Nat} : ∀ {k : Nat}, k ≤ n → rNx la s u k = none → rNx la s u n = none := by
  intro k hk h
  induction n with
  | zero => obtain rfl : k = 0 := by omega
            exact h
  | succ n ih =>
    rcases Nat.lt_or_ge n k with h1 | h1
    · obtain rfl : k = n + 1 := by omega
      exact h
    · unfold rNx; rw [ih h1]
theorem na_snoc {l : List Int} {v : Int} {k : Nat} : na (l ++ [v]) k = if k < l.length then na l k else if k = l.length then v else 0 := by
  unfold na
  rw [List.getD_eq_getElem?_getD, List.getD_eq_getElem?_getD]
  by_cases h : k < l.length
  · rw [if_pos h, List.getElem?_append_left h]
  · rw [if_neg h, List.getElem?_append_right (by omega)]
    by_cases h1 : k = l.length
    · rw [if_pos h1, h1]; simp
    · rw [if_neg h1, List.getElem?_eq_none (by simp; omega)]; rfl
theorem rNx_iff {la s : List Int} {u : Nat} : ∀ {n : Nat} {t : List Int}, rNx la s u n = some t ↔ t.length = n ∧ ∀ k < n, 0 ≤ rnum (rmid la s u k) ∧ na t k = rnum (rmid la s u k)
  | 0, t => by
    constructor
    · intro h; cases h; exact ⟨rfl, fun k hk => absurd hk (Nat.not_lt_zero _)⟩
    · rintro ⟨h, _⟩; rw [List.length_eq_zero_iff.1 h]; rfl
  | n + 1, t => by
    constructor
    · intro h
      refine ⟨rNx_len h, ?_⟩
      unfold rNx at h
      split at h
      · cases h
      · rename_i v hv
        obtain ⟨h1, h2⟩ := rNx_iff.1 hv
        by_cases h3 : rnum (rmid la s u n) < 0
        · rw [decide_eq_true h3] at h; cases h
        · rw [decide_eq_false h3, cond_false] at h; cases h
          intro k hk
          rw [na_snoc, h1]
          by_cases h4 : k < n
          · rw [if_pos h4]; exact h2 k h4
          · obtain rfl : k = n := by omega
            rw [if_neg h4, if_pos rfl]; exact ⟨by omega, rfl⟩
    · rintro ⟨h1, h2⟩
      have e : t = t.take n ++ [na t n] := by
        have := List.take_append_drop n t
        rw [List.drop_eq_getElem_cons (by omega), List.drop_eq_nil_of_le (by omega)] at this
        have h3 : na t n = t[n] := by unfold na; rw [List.getD_eq_getElem?_getD, List.getElem?_eq_getElem (by omega)]; rfl
        rw [h3]; exact this.symm
      have hv : rNx la s u n = some (t.take n) := rNx_iff.2 ⟨by rw [List.length_take]; omega, fun k hk => by
        have := h2 k (by omega)
        have e2 : na (t.take n) k = na t k := by unfold na; rw [List.getD_eq_getElem?_getD, List.getD_eq_getElem?_getD, List.getElem?_take, if_pos hk]
        rw [e2]; exact this⟩
      have h4 := h2 n (by omega)
      unfold rNx
      rw [hv]
      simp only
      rw [decide_eq_false (by omega), cond_false, ← h4.2, ← e]
theorem pad_na {l : List Int} {k : Nat} : na (pad l) k = na l k := by
  unfold na pad
  rw [List.getD_eq_getElem?_getD, List.getD_eq_getElem?_getD]
  rcases Nat.lt_or_ge k l.length with h | h
  · rw [List.getElem?_append_left h]
  · rw [List.getElem?_append_right h, List.getElem?_eq_none h, List.getElem?_replicate]
    split <;> rfl
theorem pad_inj {s t : List Int} (hs : s.length = t.length) (h : pad s = pad t) : s = t := by
  refine List.ext_getElem? fun k => ?_
  rcases Nat.lt_or_ge k s.length with h1 | h1
  · have : na (pad s) k = na (pad t) k := by rw [h]
    rw [pad_na, pad_na] at this
    unfold na at this
    rw [List.getD_eq_getElem?_getD, List.getD_eq_getElem?_getD, List.getElem?_eq_getElem h1, List.getElem?_eq_getElem (by omega)] at this
    rw [List.getElem?_eq_getElem h1, List.getElem?_eq_getElem (by omega)]
    simpa using this
  · rw [List.getElem?_eq_none h1, List.getElem?_eq_none (by omega)]
theorem mem_bitl {n u k : Nat} : k ∈ bitl n u ↔ k < n ∧ u.testBit k = true := by
  unfold bitl; rw [List.mem_filter, List.mem_range]
theorem rmid_eq {d : Dsk} {la s : List Int} (hla : ∀ k < d.n, na la k = na d.lasts k) (u : Nat) {k : Nat} (hk : k < d.n) : rmid la s u k = d.mid (pad s) (bitl d.n u) k := by
  unfold rmid Dsk.mid
  rw [pad_na, hla k hk]
  cases h : u.testBit k with
  | true => rw [if_pos (mem_bitl.2 ⟨hk, h⟩)]; rfl
  | false => rw [if_neg (fun h1 => by have := (mem_bitl.1 h1).2; rw [h] at this; cases this)]; rfl
theorem rNx_next {d : Dsk} (hn : d.n ≤ 4) {la s t : List Int} (hla : ∀ k < d.n, na la k = na d.lasts k) (hs : s.length = d.n) (ht : t.length = d.n) (u : Nat) : rNx la s u d.n = some t ↔ d.next (pad s) (bitl d.n u) = some (pad t) := by
  have hl : ∀ k ∈ bitl d.n u, k < d.n := fun k hk => bitl_lt hk
  have hps : (pad s).length = 4 := pad_len' (by omega)
  rw [rNx_iff]
  constructor
  · rintro ⟨_, h⟩
    obtain ⟨t', ht'⟩ := d.next_some hn hps hl (fun k hk => by
      have := (h k hk).1
      rw [rmid_eq hla u hk] at this
      unfold rnum at this
      by_cases h1 : d.mid (pad s) (bitl d.n u) k = 1000000
      · exact .inl h1
      · rw [decide_eq_false h1, cond_false] at this; exact .inr (by omega))
    rw [ht']
    congr 1
    obtain ⟨h2, h3⟩ := d.next_at hn hps hl ht'
    refine ext4 h2 (pad_len' (by omega)) fun k hk => ?_
    rw [(h3 k).2, pad_na]
    by_cases hkn : k < d.n
    · rw [(h k hkn).2, rmid_eq hla u hkn]
      unfold rnum
      by_cases h1 : d.mid (pad s) (bitl d.n u) k = 1000000
      · rw [if_neg (by omega), decide_eq_true h1]; rfl
      · rw [if_pos ⟨hkn, h1⟩, decide_eq_false h1]; rfl
    · rw [if_neg (by omega)]
      unfold Dsk.mid
      rw [if_neg (fun h1 => hkn (hl k h1)), pad_na]
      unfold na
      rw [List.getD_eq_getElem?_getD, List.getD_eq_getElem?_getD, List.getElem?_eq_none (by omega), List.getElem?_eq_none (by omega)]
  · intro h
    obtain ⟨h2, h3⟩ := d.next_at hn hps hl h
    refine ⟨ht, fun k hk => ?_⟩
    obtain ⟨h4, h5⟩ := h3 k
    have h4 := h4 hk
    rw [pad_na] at h5
    rw [rmid_eq hla u hk, h5]
    unfold rnum
    by_cases h1 : d.mid (pad s) (bitl d.n u) k = 1000000
    · rw [if_neg (by omega), decide_eq_true h1, cond_true]; exact ⟨by omega, rfl⟩
    · rw [if_pos ⟨hk, h1⟩, decide_eq_false h1, cond_false]; exact ⟨by omega, rfl⟩
theorem ones_dec : ((List.range 5).all fun n => (List.range (2 ^ n)).all fun u => decide ((bitl n u).length = (bitl 4 u).length)) = true := by decide +kernel
theorem ones_eq {n u : Nat} (hn : n ≤ 4) (hu : u < 2 ^ n) : (bitl 4 u).length = (bitl n u).length := by
  have h0 := ones_dec
  rw [List.all_eq_true] at h0
  have h1 := h0 n (List.mem_range.2 (by omega))
  rw [List.all_eq_true] at h1
  exact (of_decide_eq_true (h1 u (List.mem_range.2 hu))).symm
theorem ones_step : ∀ u < 16, (bitl 4 u).length = u % 2 + (bitl 4 (u / 2)).length := by decide +kernel
theorem ones_le (u : Nat) : (bitl 4 u).length ≤ 4 := bitl_len 4 u
def rS (n : Nat) (g : Int) (la s : List Int) (u : Nat) : Option (List Int) := bif decide (((bitl 4 u).length : Int) ≤ g) then rNx la s u n else none
theorem rS_len {n : Nat} {g : Int} {la s t : List Int} {u : Nat} (h : rS n g la s u = some t) : t.length = n := by
  unfold rS at h
  cases h1 : decide (((bitl 4 u).length : Int) ≤ g) with
  | true => rw [h1] at h; exact rNx_len h
  | false => rw [h1] at h; cases h
def Sx (n : Nat) (g : Int) (la : List Int) (now : List (List Int)) (i u : Nat) (t : List Int) : Prop := ∃ j s v, now[j]? = some s ∧ (j < i ∨ (j = i ∧ v < u)) ∧ v < 2 ^ n ∧ rS n g la s v = some t
theorem Sx.step {n : Nat} {g : Int} {la s t : List Int} {now : List (List Int)} {i u : Nat} (hs : now[i]? = some s) (hu : u < 2 ^ n) : Sx n g la now i (u + 1) t ↔ Sx n g la now i u t ∨ rS n g la s u = some t := by
  constructor
  · rintro ⟨j, s', v, h1, h2, h3, h4⟩
    rcases h2 with h2 | ⟨rfl, h2⟩
    · exact .inl ⟨j, s', v, h1, .inl h2, h3, h4⟩
    · rcases Nat.lt_or_ge v u with h5 | h5
      · exact .inl ⟨j, s', v, h1, .inr ⟨rfl, h5⟩, h3, h4⟩
      · obtain rfl : v = u := by omega
        rw [hs] at h1; cases h1; exact .inr h4
  · rintro (⟨j, s', v, h1, h2, h3, h4⟩ | h)
    · exact ⟨j, s', v, h1, by omega, h3, h4⟩
    · exact ⟨i, s, u, hs, by omega, hu, h⟩
theorem Sx.next {n : Nat} {g : Int} {la t : List Int} {now : List (List Int)} {i : Nat} : Sx n g la now (i + 1) 0 t ↔ Sx n g la now i (2 ^ n) t := by
  constructor
  · rintro ⟨j, s', v, h1, h2, h3, h4⟩
    exact ⟨j, s', v, h1, by omega, h3, h4⟩
  · rintro ⟨j, s', v, h1, h2, h3, h4⟩
    exact ⟨j, s', v, h1, by omega, h3, h4⟩
structure Bf (n : Nat) (g : Int) (la : List Int) (now : List (List Int)) (i u : Nat) (L : List (List Int)) : Prop where
  len : ∀ t ∈ L, t.length = n
  nd : L.Nodup
  mem : ∀ t, t ∈ L ↔ Sx n g la now i u t
theorem Bf.start {n : Nat} {g : Int} {la : List Int} {now : List (List Int)} : Bf n g la now 0 0 [] := ⟨by simp, List.nodup_nil, fun t => by
  constructor
  · intro h; cases h
  · rintro ⟨j, s, v, _, h, _⟩; omega⟩
theorem Bf.next {n : Nat} {g : Int} {la : List Int} {now : List (List Int)} {i : Nat} {L : List (List Int)} (h : Bf n g la now i (2 ^ n) L) : Bf n g la now (i + 1) 0 L := ⟨h.len, h.nd, fun t => (h.mem t).trans Sx.next.symm⟩
theorem Bf.skip {n : Nat} {g : Int} {la s : List Int} {now : List (List Int)} {i u : Nat} {L : List (List Int)} (h : Bf n g la now i u L) (hs : now[i]? = some s) (hu : u < 2 ^ n) (hn : ∀ t, rS n g la s u = some t → t ∈ L) : Bf n g la now i (u + 1) L := ⟨h.len, h.nd, fun t => by
  rw [Sx.step hs hu, ← h.mem]
  exact ⟨.inl, fun h1 => h1.elim id (hn t)⟩⟩
theorem Bf.add {n : Nat} {g : Int} {la s t : List Int} {now : List (List Int)} {i u : Nat} {L : List (List Int)} (h : Bf n g la now i u L) (hs : now[i]? = some s) (hu : u < 2 ^ n) (ht : rS n g la s u = some t) (hn : t ∉ L) : Bf n g la now i (u + 1) (L ++ [t]) where
  len x hx := by
    rcases List.mem_append.1 hx with hx | hx
    · exact h.len x hx
    · rw [List.mem_singleton.1 hx]; exact rS_len ht
  nd := List.nodup_append.2 ⟨h.nd, by simp, fun x hx y hy e => hn (by rw [← List.mem_singleton.1 hy, ← e]; exact hx)⟩
  mem x := by
    rw [Sx.step hs hu, ← h.mem, List.mem_append, List.mem_singleton, ht]
    exact or_congr_right ⟨fun e => by rw [e], fun e => (Option.some.inj e).symm⟩
theorem nodup_len {α : Type} [DecidableEq α] : ∀ {l m : List α}, l.Nodup → (∀ x ∈ l, x ∈ m) → l.length ≤ m.length
  | [], _, _, _ => Nat.zero_le _
  | x :: l, m, hn, h => by
    rw [List.nodup_cons] at hn
    have hx := h x (by simp)
    have h1 := nodup_len (m := m.erase x) hn.2 fun y hy => (List.mem_erase_of_ne (show y ≠ x from fun e => hn.1 (by rw [← e]; exact hy))).2 (h y (by simp [hy]))
    rw [List.length_erase_of_mem hx] at h1
    have := List.length_pos_of_mem hx
    rw [List.length_cons]; omega
theorem nodup_map {α β : Type} {f : α → β} : ∀ {l : List α}, (∀ x ∈ l, ∀ y ∈ l, f x = f y → x = y) → l.Nodup → (l.map f).Nodup
  | [], _, _ => List.nodup_nil
  | x :: l, hf, hn => by
    rw [List.nodup_cons] at hn
    rw [List.map_cons, List.nodup_cons]
    refine ⟨fun h => ?_, nodup_map (fun a ha b hb => hf a (by simp [ha]) b (by simp [hb])) hn.2⟩
    obtain ⟨y, hy, e⟩ := List.mem_map.1 h
    have e2 := hf y (by simp [hy]) x (by simp) e
    exact hn.1 (e2 ▸ hy)
structure Lv (d : Dsk) (s0 : HSt) (day : Nat) (L : List (List Int)) : Prop where
  len : ∀ t ∈ L, t.length = d.n
  mem : ∀ t, t.length = d.n → (t ∈ L ↔ ∃ c, d.pth day s0 (pad t) c)
theorem inS_pad {d : Dsk} (hd : d.ok) {u : HSt} (h : d.inS u) : pad (u.take d.n) = u := by
  have hn := hd.n
  refine ext4 (pad_len' (by rw [List.length_take]; omega)) h.len fun k hk => ?_
  rw [pad_na]
  unfold na
  rw [List.getD_eq_getElem?_getD, List.getD_eq_getElem?_getD, List.getElem?_take]
  by_cases h1 : k < d.n
  · rw [if_pos h1]
  · rw [if_neg h1]
    have := h.out k hk (by omega)
    unfold na at this
    rw [List.getD_eq_getElem?_getD] at this
    rw [this]; rfl
theorem Lv.start {d : Dsk} {s : List Int} (hs : s.length = d.n) : Lv d (pad s) 0 [s] := ⟨fun t ht => by rw [List.mem_singleton.1 ht]; exact hs, fun t ht => by
  rw [List.mem_singleton]
  constructor
  · rintro rfl; exact ⟨0, rfl, rfl⟩
  · rintro ⟨c, h, _⟩; exact pad_inj (by omega) h⟩
theorem Lv.inS {d : Dsk} (hd : d.ok) {s0 : HSt} (h0 : d.inS s0) {day : Nat} {L : List (List Int)} (h : Lv d s0 day L) {t : List Int} (ht : t ∈ L) : d.inS (pad t) := by
  obtain ⟨c, hc⟩ := (h.mem t (h.len t ht)).1 ht
  exact d.pth_inS hd h0 hc
theorem rS_iff {d : Dsk} (hd : d.ok) {la s t : List Int} (hla : ∀ k < d.n, na la k = na d.lasts k) (hs : s.length = d.n) (ht : t.length = d.n) {v : Nat} (hv : v < 2 ^ d.n) : rS d.n d.gangs la s v = some t ↔ bitl d.n v ∈ d.trs false ∧ d.next (pad s) (bitl d.n v) = some (pad t) := by
  have hn := hd.n
  have e := ones_eq hn.2 hv
  have hle := bitl_len d.n v
  have hm : bitl d.n v ∈ d.trs false ↔ ((bitl d.n v).length : Int) ≤ d.gangs := by
    rw [d.mem_trs]
    unfold Dsk.g
    constructor
    · rintro ⟨_, _, _, h, _⟩; omega
    · intro h; exact ⟨v, hv, rfl, by omega, fun h => by cases h⟩
  unfold rS
  rw [e]
  by_cases h : ((bitl d.n v).length : Int) ≤ d.gangs
  · rw [decide_eq_true h, cond_true, rNx_next hn.2 hla hs ht]
    exact ⟨fun h1 => ⟨hm.2 h, h1⟩, fun h1 => h1.2⟩
  · rw [decide_eq_false h, cond_false]
    exact ⟨fun h1 => (by cases h1), fun h1 => absurd (hm.1 h1.1) h⟩
theorem Lv.next {d : Dsk} (hd : d.ok) {s0 : HSt} (h0 : d.inS s0) {la : List Int} (hla : ∀ k < d.n, na la k = na d.lasts k) {day : Nat} {now L : List (List Int)} (h : Lv d s0 day now) (hb : Bf d.n d.gangs la now now.length 0 L) : Lv d s0 (day + 1) L where
  len := hb.len
  mem t ht := by
    rw [hb.mem]
    constructor
    · rintro ⟨j, s, v, h1, _, h3, h4⟩
      have hm := List.mem_of_getElem? h1
      obtain ⟨c, hc⟩ := (h.mem s (h.len s hm)).1 hm
      obtain ⟨h5, h6⟩ := (rS_iff hd hla (h.len s hm) ht h3).1 h4
      exact ⟨_, _, _, _, hc, h5, h6, rfl⟩
    · rintro ⟨c, u, a, l, h1, h2, h3, _⟩
      obtain ⟨v, hv, rfl, _⟩ := d.mem_trs.1 h2
      have hu := d.pth_inS hd h0 h1
      have hlen : (u.take d.n).length = d.n := by rw [List.length_take, hu.len]; have := hd.n; omega
      have e := inS_pad hd hu
      have hm : u.take d.n ∈ now := (h.mem _ hlen).2 ⟨a, by rw [e]; exact h1⟩
      obtain ⟨j, hj⟩ := List.getElem?_of_mem hm
      exact ⟨j, _, v, hj, .inl (List.getElem?_eq_some_iff.1 hj).1, hv, (rS_iff hd hla hlen ht hv).2 ⟨h2, by rw [e]; exact h3⟩⟩
theorem Bf.few {d : Dsk} (hd : d.ok) {s0 : HSt} (h0 : d.inS s0) {la : List Int} (hla : ∀ k < d.n, na la k = na d.lasts k) {day i u : Nat} {now L : List (List Int)} (h : Lv d s0 day now) (hb : Bf d.n d.gangs la now i u L) : L.length ≤ 14641 := by
  have h1 : (L.map pad).length ≤ d.sts.length := nodup_len (nodup_map (fun x hx y hy e => pad_inj (by rw [hb.len x hx, hb.len y hy]) e) hb.nd) fun p hp => by
    obtain ⟨t, ht, rfl⟩ := List.mem_map.1 hp
    obtain ⟨j, s, v, h1, _, h3, h4⟩ := (hb.mem t).1 ht
    have hm := List.mem_of_getElem? h1
    obtain ⟨h5, h6⟩ := (rS_iff hd hla (h.len s hm) (hb.len t ht) h3).1 h4
    exact (d.mem_sts hd _).2 (d.next_inS hd (h.inS hd h0 hm) (d.trs_lt h5) h6)
  rw [List.length_map, d.sts_len] at h1
  have := (d.nst_le hd).2
  omega
theorem Lv.ends {d : Dsk} (hd : d.ok) {s0 : HSt} (h0 : d.inS s0) {day : Nat} (hday : day ≤ d.nst) {now : List (List Int)} (h : Lv d s0 day now) (hne : now ≠ []) (h' : Lv d s0 (day + 1) []) : Kpt d s0 day := by
  refine kpt_ref hd h0 hday ?_ ?_
  · obtain ⟨t, ht⟩ := List.exists_mem_of_ne_nil now hne
    obtain ⟨c, hc⟩ := (h.mem t (h.len t ht)).1 ht
    exact ⟨_, c, hc⟩
  · rintro ⟨t, c, hc⟩
    have hi := d.pth_inS hd h0 hc
    have hlen : (t.take d.n).length = d.n := by rw [List.length_take, hi.len]; have := hd.n; omega
    have := (h'.mem _ hlen).2 ⟨c, by rw [inS_pad hd hi]; exact hc⟩
    cases this
theorem Lv.ever {d : Dsk} (hd : d.ok) {s0 : HSt} (h0 : d.inS s0) {day : Nat} (hday : d.nst ≤ day) {now : List (List Int)} (h : Lv d s0 day now) (hne : now ≠ []) : Kpt d s0 1000000 := by
  obtain ⟨t, ht⟩ := List.exists_mem_of_ne_nil now hne
  obtain ⟨c, hc⟩ := (h.mem t (h.len t ht)).1 ht
  exact kpt_ref_ever hd h0 hday ⟨_, c, hc⟩
end Go.Proofs.Ytelegnmfhjfbaaa
namespace Go.Proofs.Ytelegnmfhjfbaaa
set_option linter.unusedSimpArgs false
set_option linter.unusedVariables false
open Go
def bgL (b : Barn) : List Int := b.bins.map fun x => b.days x x.warm
def laL (b : Barn) : List Int := b.bins.map fun x => b.days x b.cool
theorem bgL_len (b : Barn) : (bgL b).length = b.bins.length := List.length_map _
theorem laL_at {b : Barn} {k : Nat} {x : HBin} (hx : b.bins[k]? = some x) : na (laL b) k = b.days x b.cool := by unfold na laL; rw [List.getD_eq_getElem?_getD, List.getElem?_map, hx]; rfl
theorem laL_lasts (b : Barn) : ∀ k < b.dsk.n, na (laL b) k = na b.dsk.lasts k := fun k _ => (pad_na (l := laL b)).symm
theorem prd_app : ∀ (a c : List Nat), prd (a ++ c) = prd a * prd c
  | [], c => by simp [prd]
  | z :: a, c => by show z * prd (a ++ c) = z * prd a * prd c; rw [prd_app a c, Nat.mul_assoc]
theorem prd_take {zs : List Nat} {k z : Nat} (h : zs[k]? = some z) : prd (zs.take (k + 1)) = prd (zs.take k) * z := by
  rw [List.take_add_one, h, Option.toList_some, prd_app]; simp [prd]
theorem prd_bd {d : Dsk} (hd : d.ok) {k : Nat} (hk : k ≤ d.n) : 1 ≤ prd (d.zs.take k) ∧ prd (d.zs.take k) ≤ 14641 := by
  refine ⟨prd_pos _ (fun z hz => d.zs_pos z (List.mem_of_mem_take hz)), ?_⟩
  have h1 : d.nst = prd (d.zs.take k) * prd (d.zs.drop k) := by unfold Dsk.nst; rw [← prd_app, List.take_append_drop]
  have h2 := prd_pos (d.zs.drop k) (fun z hz => d.zs_pos z (List.mem_of_mem_drop hz))
  have h3 := (d.nst_le hd).2
  have h4 : prd (d.zs.take k) * 1 ≤ prd (d.zs.take k) * prd (d.zs.drop k) := Nat.mul_le_mul_left _ h2
  omega
theorem pow_le16 {n : Nat} (h : n ≤ 4) : 1 ≤ 2 ^ n ∧ 2 ^ n ≤ 16 := by
  refine ⟨Nat.pos_of_ne_zero (by simp), ?_⟩
  have := Nat.pow_le_pow_right (show 0 < 2 by decide) h
  omega
theorem rmid_yes {la s : List Int} {u k : Nat} (h : u / 2 ^ k % 2 = 1) : rmid la s u k = max (na s k) (na la k) := by
  unfold rmid; rw [Nat.testBit_eq_decide_div_mod_eq, decide_eq_true h]; rfl
theorem rmid_no {la s : List Int} {u k : Nat} (h : ¬ u / 2 ^ k % 2 = 1) : rmid la s u k = na s k := by
  unfold rmid; rw [Nat.testBit_eq_decide_div_mod_eq, decide_eq_false h]; rfl
theorem rNx_bad {la s : List Int} {u k n : Nat} {t : List Int} (hk : k < n) (h : rNx la s u k = some t) (hb : rnum (rmid la s u k) < 0) : rNx la s u n = none := by
  refine rNx_none (k := k + 1) hk ?_
  unfold rNx; rw [h]; simp only; rw [decide_eq_true hb]; rfl
theorem rNx_good {la s : List Int} {u k : Nat} {t : List Int} (h : rNx la s u k = some t) (hb : ¬ rnum (rmid la s u k) < 0) : rNx la s u (k + 1) = some (t ++ [rnum (rmid la s u k)]) := by
  unfold rNx; rw [h]; simp only; rw [decide_eq_false hb]; rfl
theorem irows_one (l : List Int) : ∀ r ∈ irows l, r.length = 1 := fun r hr => by obtain ⟨x, _, rfl⟩ := List.mem_map.1 hr; rfl
def plcV (l : List (List Int)) (s : List Int) : Int := match l.findIdx? (fun t => decide (t = s)) with
  | some k => (k : Int)
  | none => -1
theorem plc_neg {l : List (List Int)} {s : List Int} : plcV l s < 0 ↔ s ∉ l := by
  unfold plcV
  cases h : l.findIdx? (fun t => decide (t = s)) with
  | some k =>
    obtain ⟨hk, h1, _⟩ := List.findIdx?_eq_some_iff_getElem.1 h
    have : l[k] = s := of_decide_eq_true h1
    constructor
    · intro h; simp only at h; omega
    · intro h; exact absurd (this ▸ List.getElem_mem hk) h
  | none =>
    rw [List.findIdx?_eq_none_iff] at h
    constructor
    · intro _ hm; have := h s hm; simp at this
    · intro _; simp only; omega
theorem take_eq2 {l s : List Int} {i : Nat} {u v : Int} (hu : l[i]? = some u) (hv : s[i]? = some v) : decide (l.take (i + 1) = s.take (i + 1)) = (decide (l.take i = s.take i) && decide (u = v)) := by
  rw [take_snoc hu, take_snoc hv, ← Bool.decide_and]
  refine decide_eq_decide.2 ⟨fun h => ?_, fun h => by rw [h.1, h.2]⟩
  have h1 := List.append_inj h (by have := (List.getElem?_eq_some_iff.1 hu).1; have := (List.getElem?_eq_some_iff.1 hv).1; rw [List.length_take, List.length_take]; omega)
  exact ⟨h1.1, by simpa using h1.2⟩
theorem plc_at {l : List (List Int)} {s t : List Int} {k : Nat} (hn : ∀ y ∈ l.take k, y ≠ s) (h : l[k]? = some t) (e : t = s) : plcV l s = k := by
  have hk := (List.getElem?_eq_some_iff.1 h).1
  have : l.findIdx? (fun t => decide (t = s)) = some k := List.findIdx?_eq_some_iff_getElem.2 ⟨hk, by rw [(List.getElem?_eq_some_iff.1 h).2]; exact decide_eq_true e, fun j hj => by
    have := hn l[j] (List.mem_take_iff_getElem.2 ⟨j, by omega, rfl⟩)
    simpa using this⟩
  unfold plcV; rw [this]
theorem plc_no {l : List (List Int)} {s : List Int} (hn : ∀ y ∈ l, y ≠ s) : plcV l s = -1 := by
  have : l.findIdx? (fun t => decide (t = s)) = none := List.findIdx?_eq_none_iff.2 fun x hx => by simpa using hn x hx
  unfold plcV; rw [this]
theorem c_rBegin (b : Barn) (ab : Option Addr) (cb : Nat) (hok : b.ok) (H : Heap) (R : Facts) [hB : MemRows ab 4 (brows b.bins) R] :
    Fn Try.prog 84 [b.v (b.sl ab cb)] H R (fun v H' R' => ∃ (ax : Option Addr) (cx : Nat), v = .slice ax b.bins.length cx ∧ H' = H ∧ R' = RowsA ax 1 (irows (bgL b)) :: R) := by
 have hmn := hok.many
 refine fn_of Try.func84 rfl Try.ntmps84 rfl ?_
 refine sy_seq ?_
 refine sy_tx' [0, 1] rfl ?_
 refine bx rfl rfl rfl (fun b1 => ?_)
 refine sp rfl (PE.assign rfl) rfl ?_
 refine sy_seq ?_
 refine sy_tx' [0] rfl ?_
 refine sp rfl (PE.assign rfl) rfl ?_
 refine sy_seq ?_
 refine sy_seq ?_
 refine sy_tx' [0] rfl ?_
 refine sp rfl (PE.assign rfl) rfl ?_
 refine sy_block ?_
 refine sy_loop (ι := (k : {k : Nat // k ≤ b.bins.length}) × OSl 3 1 (irows ((bgL b).take k.1))) (fun y => ⟨[(1, .pointer (some ⟨b1, 0, none⟩)), (3, y.2.fs), (4, .int .i64 y.1.1)], y.2.G ++ (b1, cel 33 (btl b (b.sl ab cb))) :: H, R⟩) (fun y => b.bins.length - y.1.1) ⟨⟨0, by omega⟩, OSl.nil _ _⟩ ?_ (fun y => ?_)
 exact sy_at (by repeat' first | exact Sub.nil | apply Sub.cons | rfl | (simp [lk]; omega)) (fun _ h => h)
 obtain ⟨⟨k, hk⟩, o⟩ := y
 dsimp only at hk o ⊢
 refine sy_seq ?_
 refine sy_seq ?_
 refine sy_tx' [0, 1, 2, 3, 4] rfl ?_
 refine sp rfl (PE.move rfl) rfl ?_
 refine sp rfl (PE.fieldAddr fo33_3 rfl) rfl ?_
 refine spL rfl rfl (lh sc31 rfl rfl) rfl ?_
 refine sp rfl (PE.lenSl isl31 rfl) rfl ?_
 refine sp rfl (PE.lss rfl rfl) rfl ?_
 refine sy_cond rfl (fun hc0 => ?_) (fun hc0 => ?_)
 try simp only [decide_eq_true_eq, decide_eq_false_iff_not, Bool.and_eq_true, Bool.or_eq_true, Bool.not_eq_true', Int.not_le, Int.not_lt] at hc0
 obtain ⟨x, hx⟩ : ∃ x, b.bins[k]? = some x := ⟨_, List.getElem?_eq_getElem (by omega)⟩
 have hm := List.mem_of_getElem? hx
 have hh := hok.bins x hm
 have hg : (bgL b)[k]? = some (b.days x x.warm) := by unfold bgL; rw [List.getElem?_map, hx]; rfl
 refine sy_addr (a := ab) (sz := 4) (rows := brows b.bins) (by intro h0; simp [brows] at h0; simp [h0] at hx) (fun ba oa he => ?_)
 subst he
 refine sy_skip ?_
 refine sy_seq ?_
 refine sy_block ?_
 refine sy_draw [0, 0, 0, 0, 8, 0, 56, 120, 248, 510, 1022, 2047, 4095] (.tk 0 (.ld 1 (.tk 2 (.tk 3 (.ld 4 (.tk 5 (.tk 6 (.tk 7 (.ld 8 (.big 9 (.big 10 (.big 11 (.tk 12 .done))))))))))))) mixed (by kernel_rfl) ?_
 refine tk rfl (PE.move rfl) rfl ?_
 refine ld rfl rfl (lhA (btl b (b.sl (some ⟨ba, oa, none⟩) cb)) ag33 rfl rfl rfl) rfl ?_
 refine tk rfl (PE.move rfl) rfl ?_
 refine tk rfl (PE.fieldAddr fo33_3 rfl) rfl ?_
 refine ld rfl rfl (lh sc31 rfl rfl) rfl ?_
 refine tk rfl (PE.move rfl) rfl ?_
 refine tk rfl (PE.indexAddr el31 rfl rfl (by omega) (by omega)) rfl ?_
 refine tk rfl (PE.fieldAddr fo113_0 rfl) rfl ?_
 refine ld rfl rfl (lf (j := 0) sc3 (br_get hx) rfl) rfl ?_
 refine clV rfl cal48 rfl rfl (c_rLeft b (some ⟨ba, oa, none⟩) cb hok k x hx x.warm (by omega) _ _) ?_
 refine bg (fun w hs => ⟨trivial, trivial, trivial, trivial⟩) ?_
 refine bsl (out := [_]) rfl sl40 zl3 rfl rfl rfl rfl rfl rfl (fun b22 => ?_)
 refine bg (fun w hs => trivial) ?_
 refine apO (o) rfl ap40 rfl rfl (rowsH (row := [.int .i64 (b.days x x.warm)]) rfl) rfl rfl ((by rw [irows_len, List.length_take, bgL_len]; simp only [List.length_singleton]; omega)) rfl (fun o23 => ?_)
 refine bg (fun w hs => trivial) ?_
 refine tk rfl (PE.assign rfl) rfl ?_
 refine sy_tx' [0, 1, 2] rfl ?_
 refine sp rfl (PE.move rfl) rfl ?_
 refine sp rfl (PE.add rfl rfl (by omega)) rfl ?_
 refine sp rfl (PE.assign rfl) rfl ?_
 exact sy_next ⟨⟨k + 1, by omega⟩, o23.cast (by rw [take_snoc hg]; simp [irows])⟩ (by dsimp only; omega) (by repeat' first | exact Sub.nil | apply Sub.cons | rfl | (simp [lk]; omega)) (fun w h => h.del b22)
 try simp only [decide_eq_true_eq, decide_eq_false_iff_not, Bool.and_eq_true, Bool.or_eq_true, Bool.not_eq_true', Int.not_le, Int.not_lt] at hc0
 obtain rfl : k = b.bins.length := by omega
 obtain ⟨ax, cx, he, hf⟩ := o.freeze
 rw [he, irows_len, List.length_take, bgL_len, Nat.min_self]
 refine Sy.heap (fun w h => hf h) ?_
 clear he hf
 rw [show (bgL b).take b.bins.length = bgL b from List.take_of_length_le (by rw [bgL_len]; exact Nat.le_refl _)]
 refine sy_exit ?_
 repeat refine sy_tx ?_
 refine sy_bx ?_
 refine sy_seq ?_
 refine sy_tx' [0, 1] rfl ?_
 refine sp rfl (PE.move rfl) rfl ?_
 refine sp rfl (PE.assign rfl) rfl ?_
 refine sy_ret ?_
 exact sy_return (vs := [_]) rfl (.cons (RV.tmp rfl) .nil) rfl ⟨ax, cx, rfl, rfl, rfl⟩ (fun w h => h.del b1)
theorem c_rMany (b : Barn) (ab : Option Addr) (cb : Nat) (hok : b.ok) (H : Heap) (R : Facts) [hB : MemRows ab 4 (brows b.bins) R] :
    FnV Try.prog 83 [b.v (b.sl ab cb)] H R (.int .i64 (b.dsk.nst : Int)) := by
 have hmn := hok.many
 have hdk := b.dsk_ok hok
 refine fn_of Try.func83 rfl Try.ntmps83 rfl ?_
 refine sy_seq ?_
 refine sy_tx' [0, 1] rfl ?_
 refine bx rfl rfl rfl (fun b1 => ?_)
 refine sp rfl (PE.assign rfl) rfl ?_
 refine sy_seq ?_
 refine sy_tx' [0] rfl ?_
 refine sp rfl (PE.assign rfl) rfl ?_
 refine sy_seq ?_
 refine sy_seq ?_
 refine sy_tx' [0] rfl ?_
 refine sp rfl (PE.assign rfl) rfl ?_
 refine sy_block ?_
 refine sy_loop (ι := {k : Nat // k ≤ b.bins.length}) (fun k => ⟨[(1, .pointer (some ⟨b1, 0, none⟩)), (3, .int .i64 (prd (b.dsk.zs.take k.1) : Nat)), (4, .int .i64 k.1)], (b1, cel 33 (btl b (b.sl ab cb))) :: H, R⟩) (fun k => b.bins.length - k.1) ⟨0, by omega⟩ ?_ (fun k => ?_)
 exact sy_at (by repeat' first | exact Sub.nil | apply Sub.cons | rfl | (simp [lk]; omega)) (fun _ h => h)
 obtain ⟨k, hk⟩ := k
 dsimp only at hk ⊢
 have hpb := prd_bd hdk (show k ≤ b.dsk.n from hk)
 refine sy_seq ?_
 refine sy_seq ?_
 refine sy_tx' [0, 1, 2, 3, 4] rfl ?_
 refine sp rfl (PE.move rfl) rfl ?_
 refine sp rfl (PE.fieldAddr fo33_3 rfl) rfl ?_
 refine spL rfl rfl (lh sc31 rfl rfl) rfl ?_
 refine sp rfl (PE.lenSl isl31 rfl) rfl ?_
 refine sp rfl (PE.lss rfl rfl) rfl ?_
 refine sy_cond rfl (fun hc0 => ?_) (fun hc0 => ?_)
 try simp only [decide_eq_true_eq, decide_eq_false_iff_not, Bool.and_eq_true, Bool.or_eq_true, Bool.not_eq_true', Int.not_le, Int.not_lt] at hc0
 obtain ⟨x, hx⟩ : ∃ x, b.bins[k]? = some x := ⟨_, List.getElem?_eq_getElem (by omega)⟩
 have hm := List.mem_of_getElem? hx
 have hh := hok.bins x hm
 have r1 := b.days_range hok hm hh.2.1.1
 have r2 := b.days_range hok hm hok.cool.1
 have hmo : na b.dsk.most k = max (b.days x x.warm) (b.days x b.cool) := na_at (b.map_get hok _ hx)
 have hzk := b.dsk.zs_get hdk (show k < b.dsk.n by show k < b.bins.length; omega)
 rw [hmo] at hzk
 have hpt := prd_take hzk
 have hpb2 := prd_bd hdk (show k + 1 ≤ b.dsk.n by show k + 1 ≤ b.bins.length; omega)
 refine sy_addr (a := ab) (sz := 4) (rows := brows b.bins) (by intro h0; simp [brows] at h0; simp [h0] at hx) (fun ba oa he => ?_)
 subst he
 refine sy_skip ?_
 refine sy_seq ?_
 refine sy_block ?_
 refine sy_seq ?_
 refine sy_draw [0, 0, 0, 4, 0, 28, 60, 124, 255, 0, 0, 2047, 4095, 8191] (.ld 0 (.tk 1 (.tk 2 (.ld 3 (.tk 4 (.tk 5 (.tk 6 (.ld 7 (.ld 9 (.tk 10 (.big 8 (.big 11 (.tk 12 (.tk 13 .done)))))))))))))) mixed (by kernel_rfl) ?_
 refine ld rfl rfl (lhA (btl b (b.sl (some ⟨ba, oa, none⟩) cb)) ag33 rfl rfl rfl) rfl ?_
 refine tk rfl (PE.move rfl) rfl ?_
 refine tk rfl (PE.fieldAddr fo33_3 rfl) rfl ?_
 refine ld rfl rfl (lh sc31 rfl rfl) rfl ?_
 refine tk rfl (PE.move rfl) rfl ?_
 refine tk rfl (PE.indexAddr el31 rfl rfl (by omega) (by omega)) rfl ?_
 refine tk rfl (PE.fieldAddr fo113_0 rfl) rfl ?_
 refine ld rfl rfl (lf (j := 0) sc3 (br_get hx) rfl) rfl ?_
 refine ld rfl rfl (lhA (btl b (b.sl (some ⟨ba, oa, none⟩) cb)) ag33 rfl rfl rfl) rfl ?_
 refine tk rfl (PE.move rfl) rfl ?_
 refine clV rfl cal48 rfl rfl (c_rLeft b (some ⟨ba, oa, none⟩) cb hok k x hx x.warm (by omega) _ _) ?_
 refine bg (fun w hs => ⟨(lhA (btl b (b.sl (some ⟨ba, oa, none⟩) cb)) ag33 rfl rfl rfl) w hs, trivial, trivial, trivial, trivial⟩) ?_
 refine clV rfl cal49 rfl rfl (c_rLasts b (some ⟨ba, oa, none⟩) cb hok k x hx _ _) ?_
 refine bg (fun w hs => ⟨trivial, trivial⟩) ?_
 refine tk rfl (PE.max rfl rfl) rfl ?_
 refine tk rfl (PE.assign rfl) rfl ?_
 refine sy_seq ?_
 refine sy_tx' [0, 1] rfl ?_
 refine sp rfl (PE.move rfl) rfl ?_
 refine sp rfl (PE.neq rfl rfl) rfl ?_
 refine sy_cond rfl (fun hc1 => ?_) (fun hc1 => ?_)
 try simp only [decide_eq_true_eq, decide_eq_false_iff_not, Bool.and_eq_true, Bool.or_eq_true, Bool.not_eq_true', Int.not_le, Int.not_lt] at hc1
 rw [decide_eq_false hc1, cond_false] at hpt
 have hcast : ((prd (b.dsk.zs.take (k + 1)) : Nat) : Int) = (prd (b.dsk.zs.take k) : Nat) * (max (b.days x x.warm) (b.days x b.cool) + 1) := by rw [hpt]; push_cast; rw [Int.toNat_of_nonneg (by omega)]
 refine sy_tx' [0, 1, 2, 3, 4] rfl ?_
 refine sp rfl (PE.move rfl) rfl ?_
 refine sp rfl (PE.move rfl) rfl ?_
 refine sp rfl (PE.add rfl rfl (by omega)) rfl ?_
 refine sp rfl (PE.mul rfl rfl (by rw [← hcast]; omega)) rfl ?_
 refine sp rfl (PE.assign rfl) rfl ?_
 refine sy_tx' [0, 1, 2] rfl ?_
 refine sp rfl (PE.move rfl) rfl ?_
 refine sp rfl (PE.add rfl rfl (by omega)) rfl ?_
 refine sp rfl (PE.assign rfl) rfl ?_
 exact sy_next ⟨k + 1, by omega⟩ (by dsimp only; omega) (by dsimp only; first | (rw [hcast]; exact (by repeat' first | exact Sub.nil | apply Sub.cons | rfl | (simp [lk]; omega))) | (rw [hpt]; exact (by repeat' first | exact Sub.nil | apply Sub.cons | rfl | (simp [lk]; omega)))) (fun _ h => h)
 try simp only [decide_eq_true_eq, decide_eq_false_iff_not, Bool.and_eq_true, Bool.or_eq_true, Bool.not_eq_true', Int.not_le, Int.not_lt] at hc1
 rw [decide_eq_true (show max (b.days x x.warm) (b.days x b.cool) = 1000000 by omega), cond_true, Nat.mul_one] at hpt
 refine sy_skip ?_
 refine sy_tx' [0, 1, 2] rfl ?_
 refine sp rfl (PE.move rfl) rfl ?_
 refine sp rfl (PE.add rfl rfl (by omega)) rfl ?_
 refine sp rfl (PE.assign rfl) rfl ?_
 exact sy_next ⟨k + 1, by omega⟩ (by dsimp only; omega) (by dsimp only; first | (rw [hcast]; exact (by repeat' first | exact Sub.nil | apply Sub.cons | rfl | (simp [lk]; omega))) | (rw [hpt]; exact (by repeat' first | exact Sub.nil | apply Sub.cons | rfl | (simp [lk]; omega)))) (fun _ h => h)
 try simp only [decide_eq_true_eq, decide_eq_false_iff_not, Bool.and_eq_true, Bool.or_eq_true, Bool.not_eq_true', Int.not_le, Int.not_lt] at hc0
 obtain rfl : k = b.bins.length := by omega
 have hfull : prd (b.dsk.zs.take b.bins.length) = b.dsk.nst := by unfold Dsk.nst; rw [List.take_of_length_le (by rw [b.dsk.zs_len hdk]; exact Nat.le_refl _)]
 refine sy_exit ?_
 repeat refine sy_tx ?_
 refine sy_bx ?_
 refine sy_seq ?_
 refine sy_tx' [0, 1] rfl ?_
 refine sp rfl (PE.move rfl) rfl ?_
 refine sp rfl (PE.assign rfl) rfl ?_
 refine sy_ret ?_
 exact sy_return (vs := [_]) rfl (.cons (RV.tmp rfl) .nil) rfl ⟨by rw [← hfull]; rfl, rfl, rfl⟩ (fun w h => h.del b1)
theorem c_rsets (b : Barn) (ab : Option Addr) (cb : Nat) (hmn : b.bins.length ≤ 4) (H : Heap) (R : Facts) :
    FnV Try.prog 85 [b.v (b.sl ab cb)] H R (.int .i64 ((2 ^ b.bins.length : Nat) : Int)) := by
 refine fn_of Try.func85 rfl Try.ntmps85 rfl ?_
 refine sy_seq ?_
 refine sy_tx' [0, 1] rfl ?_
 refine bx rfl rfl rfl (fun b1 => ?_)
 refine sp rfl (PE.assign rfl) rfl ?_
 refine sy_seq ?_
 refine sy_tx' [0] rfl ?_
 refine sp rfl (PE.assign rfl) rfl ?_
 refine sy_seq ?_
 refine sy_seq ?_
 refine sy_tx' [0] rfl ?_
 refine sp rfl (PE.assign rfl) rfl ?_
 refine sy_block ?_
 refine sy_loop (ι := {k : Nat // k ≤ b.bins.length}) (fun k => ⟨[(1, .pointer (some ⟨b1, 0, none⟩)), (3, .int .i64 ((2 ^ k.1 : Nat) : Int)), (4, .int .i64 k.1)], (b1, cel 33 (btl b (b.sl ab cb))) :: H, R⟩) (fun k => b.bins.length - k.1) ⟨0, by omega⟩ ?_ (fun k => ?_)
 exact sy_at (by repeat' first | exact Sub.nil | apply Sub.cons | rfl | (simp [lk]; omega)) (fun _ h => h)
 obtain ⟨k, hk⟩ := k
 dsimp only at hk ⊢
 have hp := pow_le16 (n := k) (by omega)
 have hps : ((2 ^ (k + 1) : Nat) : Int) = 2 * ((2 ^ k : Nat) : Int) := by rw [Nat.pow_succ]; push_cast; omega
 refine sy_seq ?_
 refine sy_seq ?_
 refine sy_tx' [0, 1, 2, 3, 4] rfl ?_
 refine sp rfl (PE.move rfl) rfl ?_
 refine sp rfl (PE.fieldAddr fo33_3 rfl) rfl ?_
 refine spL rfl rfl (lh sc31 rfl rfl) rfl ?_
 refine sp rfl (PE.lenSl isl31 rfl) rfl ?_
 refine sp rfl (PE.lss rfl rfl) rfl ?_
 refine sy_cond rfl (fun hc0 => ?_) (fun hc0 => ?_)
 try simp only [decide_eq_true_eq, decide_eq_false_iff_not, Bool.and_eq_true, Bool.or_eq_true, Bool.not_eq_true', Int.not_le, Int.not_lt] at hc0
 refine sy_skip ?_
 refine sy_seq ?_
 refine sy_block ?_
 refine sy_tx' [0, 1, 2] rfl ?_
 refine sp rfl (PE.move rfl) rfl ?_
 refine sp rfl (PE.mul rfl rfl (by omega)) rfl ?_
 refine sp rfl (PE.assign rfl) rfl ?_
 refine sy_tx' [0, 1, 2] rfl ?_
 refine sp rfl (PE.move rfl) rfl ?_
 refine sp rfl (PE.add rfl rfl (by omega)) rfl ?_
 refine sp rfl (PE.assign rfl) rfl ?_
 exact sy_next ⟨k + 1, by omega⟩ (by dsimp only; omega) (by dsimp only; rw [hps]; exact (by repeat' first | exact Sub.nil | apply Sub.cons | rfl | (simp [lk]; omega))) (fun _ h => h)
 try simp only [decide_eq_true_eq, decide_eq_false_iff_not, Bool.and_eq_true, Bool.or_eq_true, Bool.not_eq_true', Int.not_le, Int.not_lt] at hc0
 obtain rfl : k = b.bins.length := by omega
 refine sy_exit ?_
 repeat refine sy_tx ?_
 refine sy_bx ?_
 refine sy_seq ?_
 refine sy_tx' [0, 1] rfl ?_
 refine sp rfl (PE.move rfl) rfl ?_
 refine sp rfl (PE.assign rfl) rfl ?_
 refine sy_ret ?_
 exact sy_return (vs := [_]) rfl (.cons (RV.tmp rfl) .nil) rfl ⟨rfl, rfl, rfl⟩ (fun w h => h.del b1)
theorem c_rones (u : Nat) (hu : u < 16) (H : Heap) (R : Facts) :
    FnV Try.prog 86 [.int .i64 u] H R (.int .i64 ((bitl 4 u).length : Int)) := by
 refine fn_of Try.func86 rfl Try.ntmps86 rfl ?_
 refine sy_seq ?_
 refine sy_tx' [0] rfl ?_
 refine sp rfl (PE.assign rfl) rfl ?_
 refine sy_seq ?_
 refine sy_tx' [0] rfl ?_
 refine sp rfl (PE.assign rfl) rfl ?_
 refine sy_seq ?_
 refine sy_block ?_
 refine sy_loop (ι := {y : Nat × Nat // y.1 < 16 ∧ y.2 ≤ 4 ∧ y.2 + (bitl 4 y.1).length = (bitl 4 u).length}) (fun y => ⟨[(0, .int .i64 y.1.1), (3, .int .i64 y.1.2)], H, R⟩) (fun y => y.1.1) ⟨(u, 0), hu, by dsimp only; omega, by simp⟩ ?_ (fun y => ?_)
 exact sy_at (by repeat' first | exact Sub.nil | apply Sub.cons | rfl | (simp [lk]; omega)) (fun _ h => h)
 obtain ⟨⟨v, c⟩, hv, hc4, hce⟩ := y
 dsimp only at hv hc4 hce ⊢
 have hst := ones_step v hv
 have h4 := ones_le u
 refine sy_seq ?_
 refine sy_seq ?_
 refine sy_tx' [0, 1] rfl ?_
 refine sp rfl (PE.move rfl) rfl ?_
 refine sp rfl (PE.gtr rfl rfl) rfl ?_
 refine sy_cond rfl (fun hc0 => ?_) (fun hc0 => ?_)
 try simp only [decide_eq_true_eq, decide_eq_false_iff_not, Bool.and_eq_true, Bool.or_eq_true, Bool.not_eq_true', Int.not_le, Int.not_lt] at hc0
 refine sy_skip ?_
 refine sy_block ?_
 refine sy_seq ?_
 refine sy_tx' [0, 1, 2, 3, 4] rfl ?_
 refine sp rfl (PE.move rfl) rfl ?_
 refine sp rfl (PE.move rfl) rfl ?_
 refine sp rfl (PE.rem rfl rfl (by omega)) rfl ?_
 refine sp rfl (PE.add rfl rfl (by omega)) rfl ?_
 refine sp rfl (PE.assign rfl) rfl ?_
 refine sy_tx' [0, 1, 2] rfl ?_
 refine sp rfl (PE.move rfl) rfl ?_
 refine sp rfl (PE.quo rfl rfl (by omega)) rfl ?_
 refine sp rfl (PE.assign rfl) rfl ?_
 exact sy_next ⟨(v / 2, c + v % 2), by dsimp only; omega, by dsimp only; omega, by dsimp only; omega⟩ (by dsimp only; omega) (by dsimp only; push_cast; exact (by repeat' first | exact Sub.nil | apply Sub.cons | rfl | (simp [lk]; omega))) (fun _ h => h)
 try simp only [decide_eq_true_eq, decide_eq_false_iff_not, Bool.and_eq_true, Bool.or_eq_true, Bool.not_eq_true', Int.not_le, Int.not_lt] at hc0
 obtain rfl : v = 0 := by omega
 have hz : (bitl 4 0).length = 0 := rfl
 refine sy_exit ?_
 repeat refine sy_tx ?_
 refine sy_bx ?_
 refine sy_seq ?_
 refine sy_tx' [0, 1] rfl ?_
 refine sp rfl (PE.move rfl) rfl ?_
 refine sp rfl (PE.assign rfl) rfl ?_
 refine sy_ret ?_
 exact sy_return (vs := [_]) rfl (.cons (RV.tmp rfl) .nil) rfl ⟨by rw [show (bitl 4 u).length = c by omega]; rfl, rfl, rfl⟩ (fun _ h => h)
theorem c_rNext (b : Barn) (ab : Option Addr) (cb : Nat) (hok : b.ok) (s : List Int) (aS : Option Addr) (cs : Nat) (hs : s.length = b.bins.length) (hsm : ∀ k < b.bins.length, 0 ≤ na s k ∧ na s k ≤ 1000000) (u : Nat) (hu : u < 16) (H : Heap) (R : Facts) [hB : MemRows ab 4 (brows b.bins) R] [hS : MemRows aS 1 (irows s) R] :
    Fn Try.prog 87 [b.v (b.sl ab cb), .slice aS s.length cs, .int .i64 u] H R (fun v H' R' => H' = H ∧ ((rNx (laL b) s u b.bins.length = none ∧ v = .slice none 0 0 ∧ R' = R) ∨ ∃ (t : List Int) (bo c : Nat), rNx (laL b) s u b.bins.length = some t ∧ v = .slice (some ⟨bo, 0, none⟩) t.length c ∧ R' = RowsA (some ⟨bo, 0, none⟩) 1 (irows t) :: R)) := by
 have hmn := hok.many
 refine fn_of Try.func87 rfl Try.ntmps87 rfl ?_
 refine sy_seq ?_
 refine sy_tx' [0, 1] rfl ?_
 refine bx rfl rfl rfl (fun b3 => ?_)
 refine sp rfl (PE.assign rfl) rfl ?_
 refine sy_seq ?_
 refine sy_tx' [0] rfl ?_
 refine sp rfl (PE.assign rfl) rfl ?_
 refine sy_seq ?_
 refine sy_seq ?_
 refine sy_tx' [0] rfl ?_
 refine sp rfl (PE.assign rfl) rfl ?_
 refine sy_block ?_
 refine sy_loop (ι := (y : {y : Nat × List Int // y.1 ≤ b.bins.length ∧ rNx (laL b) s u y.1 = some y.2}) × OSl 3 1 (irows y.1.2)) (fun y => ⟨[(1, .slice aS s.length cs), (2, .int .i64 ((u / 2 ^ y.1.1.1 : Nat) : Int)), (3, .pointer (some ⟨b3, 0, none⟩)), (7, y.2.fs), (8, .int .i64 y.1.1.1)], y.2.G ++ (b3, cel 33 (btl b (b.sl ab cb))) :: H, R⟩) (fun y => b.bins.length - y.1.1.1) ⟨⟨(0, []), Nat.zero_le _, rfl⟩, OSl.nil _ _⟩ ?_ (fun y => ?_)
 exact sy_at (by dsimp only; rw [Nat.pow_zero, Nat.div_one]; exact (by repeat' first | exact Sub.nil | apply Sub.cons | rfl | (simp [lk]; omega))) (fun _ h => h)
 obtain ⟨⟨⟨k, t⟩, hk, ht⟩, o⟩ := y
 dsimp only at hk ht o ⊢
 have htl := rNx_len ht
 have hdu : u / 2 ^ k < 16 := Nat.lt_of_le_of_lt (Nat.div_le_self _ _) hu
 generalize hv : u / 2 ^ k = v at hdu ⊢
 refine sy_seq ?_
 refine sy_seq ?_
 refine sy_tx' [0, 1, 2, 3] rfl ?_
 refine sp rfl (PE.move rfl) rfl ?_
 refine sp rfl (PE.move rfl) rfl ?_
 refine sp rfl (PE.lenSl isl40 rfl) rfl ?_
 refine sp rfl (PE.lss rfl rfl) rfl ?_
 refine sy_cond rfl (fun hc0 => ?_) (fun hc0 => ?_)
 try simp only [decide_eq_true_eq, decide_eq_false_iff_not, Bool.and_eq_true, Bool.or_eq_true, Bool.not_eq_true', Int.not_le, Int.not_lt] at hc0
 obtain ⟨x, hx⟩ : ∃ x, b.bins[k]? = some x := ⟨_, List.getElem?_eq_getElem (by omega)⟩
 have hm := List.mem_of_getElem? hx
 have hh := hok.bins x hm
 have hsk := hsm k (by omega)
 have r2 := b.days_range hok hm hok.cool.1
 have hlk := laL_at hx
 have hsg : s[k]? = some (na s k) := na_get (by omega)
 refine sy_addr (a := aS) (sz := 1) (rows := irows s) (by intro h0; have := congrArg List.length h0; rw [irows_len] at this; simp only [List.length_nil] at this; omega) (fun bs os he => ?_)
 subst he
 refine sy_skip ?_
 refine sy_seq ?_
 refine sy_block ?_
 refine sy_seq ?_
 refine sy_tx' [0, 1, 2, 3, 4] rfl ?_
 refine sp rfl (PE.move rfl) rfl ?_
 refine sp rfl (PE.move rfl) rfl ?_
 refine sp rfl (PE.indexAddr el40 rfl rfl (by omega) (by omega)) rfl ?_
 refine spL rfl rfl (lf0 sc3 (ir_get hsg) rfl) rfl ?_
 refine sp rfl (PE.assign rfl) rfl ?_
 refine sy_seq ?_
 refine sy_seq ?_
 refine sy_tx' [0, 1, 2] rfl ?_
 refine sp rfl (PE.move rfl) rfl ?_
 refine sp rfl (PE.rem rfl rfl (by omega)) rfl ?_
 refine sp rfl (PE.eql rfl rfl) rfl ?_
 refine sy_cond rfl (fun hc1 => ?_) (fun hc1 => ?_)
 try simp only [decide_eq_true_eq, decide_eq_false_iff_not, Bool.and_eq_true, Bool.or_eq_true, Bool.not_eq_true', Int.not_le, Int.not_lt] at hc1
 have hmd : rmid (laL b) s u k = max (na s k) (b.days x b.cool) := by rw [rmid_yes (by rw [hv]; omega), hlk]
 refine sy_tx' [0, 1, 2, 3, 4, 5] rfl ?_
 refine sp rfl (PE.move rfl) rfl ?_
 refine spL rfl rfl (lhA (btl b (b.sl ab cb)) ag33 rfl rfl rfl) rfl ?_
 refine sp rfl (PE.move rfl) rfl ?_
 refine clV rfl cal49 rfl rfl (c_rLasts b ab cb hok k x hx _ _) ?_
 refine sp rfl (PE.max rfl rfl) rfl ?_
 refine sp rfl (PE.assign rfl) rfl ?_
 refine sy_seq ?_
 refine sy_tx' [0, 1, 2] rfl ?_
 rw [← hmd]
 have hmr : 0 ≤ rmid (laL b) s u k ∧ rmid (laL b) s u k ≤ 1000000 := by omega
 clear hmd
 refine sp rfl (PE.move rfl) rfl ?_
 refine sp rfl (PE.quo rfl rfl (by omega)) rfl ?_
 refine sp rfl (PE.assign rfl) rfl ?_
 refine sy_seq ?_
 refine sy_seq ?_
 refine sy_tx' [0, 1] rfl ?_
 refine sp rfl (PE.move rfl) rfl ?_
 refine sp rfl (PE.neq rfl rfl) rfl ?_
 refine sy_cond rfl (fun hc2 => ?_) (fun hc2 => ?_)
 try simp only [decide_eq_true_eq, decide_eq_false_iff_not, Bool.and_eq_true, Bool.or_eq_true, Bool.not_eq_true', Int.not_le, Int.not_lt] at hc2
 have hnm : rnum (rmid (laL b) s u k) = rmid (laL b) s u k - 1 := by unfold rnum; rw [decide_eq_false hc2]; rfl
 refine sy_tx' [0, 1, 2] rfl ?_
 refine sp rfl (PE.move rfl) rfl ?_
 refine sp rfl (PE.sub rfl rfl (by omega)) rfl ?_
 refine sp rfl (PE.assign rfl) rfl ?_
 refine sy_seq ?_
 refine sy_seq ?_
 refine sy_tx' [0, 1] rfl ?_
 rw [← hnm]
 have hnr : -1 ≤ rnum (rmid (laL b) s u k) ∧ rnum (rmid (laL b) s u k) ≤ 1000000 := by omega
 clear hnm
 refine sp rfl (PE.move rfl) rfl ?_
 refine sp rfl (PE.lss rfl rfl) rfl ?_
 refine sy_cond rfl (fun hc3 => ?_) (fun hc3 => ?_)
 try simp only [decide_eq_true_eq, decide_eq_false_iff_not, Bool.and_eq_true, Bool.or_eq_true, Bool.not_eq_true', Int.not_le, Int.not_lt] at hc3
 refine sy_seq ?_
 refine sy_tx' [0] rfl ?_
 refine sp rfl (PE.assign rfl) rfl ?_
 refine sy_ret ?_
 exact sy_return (vs := [_]) rfl (.cons (RV.tmp rfl) .nil) rfl ⟨rfl, .inl ⟨rNx_bad (by omega) ht hc3, rfl, rfl⟩⟩ (fun w h => (St.drop h).del b3)
 try simp only [decide_eq_true_eq, decide_eq_false_iff_not, Bool.and_eq_true, Bool.or_eq_true, Bool.not_eq_true', Int.not_le, Int.not_lt] at hc3
 have htn := rNx_good ht (Int.not_lt.2 hc3)
 refine sy_skip ?_
 refine sy_tx' [0, 1, 2, 3, 4] rfl ?_
 refine sp rfl (PE.move rfl) rfl ?_
 refine sp rfl (PE.move rfl) rfl ?_
 refine bsl (out := [_]) rfl sl40 zl3 rfl rfl rfl rfl rfl rfl (fun b38 => ?_)
 refine apO (o) rfl ap40 rfl rfl (rowsH (row := [.int .i64 (rnum (rmid (laL b) s u k))]) rfl) rfl rfl ((by rw [irows_len]; simp only [List.length_singleton]; omega)) rfl (fun o39 => ?_)
 refine sp rfl (PE.assign rfl) rfl ?_
 refine sy_tx' [0, 1, 2] rfl ?_
 refine sp rfl (PE.move rfl) rfl ?_
 refine sp rfl (PE.add rfl rfl (by omega)) rfl ?_
 refine sp rfl (PE.assign rfl) rfl ?_
 exact sy_next ⟨⟨(k + 1, t ++ [rnum (rmid (laL b) s u k)]), by dsimp only; omega, htn⟩, o39.cast (by simp [irows])⟩ (by dsimp only; omega) (by dsimp only; rw [show u / 2 ^ (k + 1) = v / 2 by rw [Nat.pow_succ, ← Nat.div_div_eq_div_mul, hv]]; exact (by repeat' first | exact Sub.nil | apply Sub.cons | rfl | (simp [lk]; omega))) (fun w h => h.del b38)
 try simp only [decide_eq_true_eq, decide_eq_false_iff_not, Bool.and_eq_true, Bool.or_eq_true, Bool.not_eq_true', Int.not_le, Int.not_lt] at hc2
 have hnm : rnum (rmid (laL b) s u k) = rmid (laL b) s u k := by unfold rnum; rw [decide_eq_true (show rmid (laL b) s u k = 1000000 by omega)]; rfl
 refine sy_skip ?_
 refine sy_seq ?_
 refine sy_seq ?_
 refine sy_tx' [0, 1] rfl ?_
 rw [← hnm]
 have hnr : -1 ≤ rnum (rmid (laL b) s u k) ∧ rnum (rmid (laL b) s u k) ≤ 1000000 := by omega
 clear hnm
 refine sp rfl (PE.move rfl) rfl ?_
 refine sp rfl (PE.lss rfl rfl) rfl ?_
 refine sy_cond rfl (fun hc3 => ?_) (fun hc3 => ?_)
 try simp only [decide_eq_true_eq, decide_eq_false_iff_not, Bool.and_eq_true, Bool.or_eq_true, Bool.not_eq_true', Int.not_le, Int.not_lt] at hc3
 refine sy_seq ?_
 refine sy_tx' [0] rfl ?_
 refine sp rfl (PE.assign rfl) rfl ?_
 refine sy_ret ?_
 exact sy_return (vs := [_]) rfl (.cons (RV.tmp rfl) .nil) rfl ⟨rfl, .inl ⟨rNx_bad (by omega) ht hc3, rfl, rfl⟩⟩ (fun w h => (St.drop h).del b3)
 try simp only [decide_eq_true_eq, decide_eq_false_iff_not, Bool.and_eq_true, Bool.or_eq_true, Bool.not_eq_true', Int.not_le, Int.not_lt] at hc3
 have htn := rNx_good ht (Int.not_lt.2 hc3)
 refine sy_skip ?_
 refine sy_tx' [0, 1, 2, 3, 4] rfl ?_
 refine sp rfl (PE.move rfl) rfl ?_
 refine sp rfl (PE.move rfl) rfl ?_
 refine bsl (out := [_]) rfl sl40 zl3 rfl rfl rfl rfl rfl rfl (fun b38 => ?_)
 refine apO (o) rfl ap40 rfl rfl (rowsH (row := [.int .i64 (rnum (rmid (laL b) s u k))]) rfl) rfl rfl ((by rw [irows_len]; simp only [List.length_singleton]; omega)) rfl (fun o39 => ?_)
 refine sp rfl (PE.assign rfl) rfl ?_
 refine sy_tx' [0, 1, 2] rfl ?_
 refine sp rfl (PE.move rfl) rfl ?_
 refine sp rfl (PE.add rfl rfl (by omega)) rfl ?_
 refine sp rfl (PE.assign rfl) rfl ?_
 exact sy_next ⟨⟨(k + 1, t ++ [rnum (rmid (laL b) s u k)]), by dsimp only; omega, htn⟩, o39.cast (by simp [irows])⟩ (by dsimp only; omega) (by dsimp only; rw [show u / 2 ^ (k + 1) = v / 2 by rw [Nat.pow_succ, ← Nat.div_div_eq_div_mul, hv]]; exact (by repeat' first | exact Sub.nil | apply Sub.cons | rfl | (simp [lk]; omega))) (fun w h => h.del b38)
 try simp only [decide_eq_true_eq, decide_eq_false_iff_not, Bool.and_eq_true, Bool.or_eq_true, Bool.not_eq_true', Int.not_le, Int.not_lt] at hc1
 have hmd : rmid (laL b) s u k = na s k := rmid_no (by rw [hv]; omega)
 refine sy_skip ?_
 refine sy_seq ?_
 refine sy_tx' [0, 1, 2] rfl ?_
 rw [← hmd]
 have hmr : 0 ≤ rmid (laL b) s u k ∧ rmid (laL b) s u k ≤ 1000000 := by omega
 clear hmd
 refine sp rfl (PE.move rfl) rfl ?_
 refine sp rfl (PE.quo rfl rfl (by omega)) rfl ?_
 refine sp rfl (PE.assign rfl) rfl ?_
 refine sy_seq ?_
 refine sy_seq ?_
 refine sy_tx' [0, 1] rfl ?_
 refine sp rfl (PE.move rfl) rfl ?_
 refine sp rfl (PE.neq rfl rfl) rfl ?_
 refine sy_cond rfl (fun hc2 => ?_) (fun hc2 => ?_)
 try simp only [decide_eq_true_eq, decide_eq_false_iff_not, Bool.and_eq_true, Bool.or_eq_true, Bool.not_eq_true', Int.not_le, Int.not_lt] at hc2
 have hnm : rnum (rmid (laL b) s u k) = rmid (laL b) s u k - 1 := by unfold rnum; rw [decide_eq_false hc2]; rfl
 refine sy_tx' [0, 1, 2] rfl ?_
 refine sp rfl (PE.move rfl) rfl ?_
 refine sp rfl (PE.sub rfl rfl (by omega)) rfl ?_
 refine sp rfl (PE.assign rfl) rfl ?_
 refine sy_seq ?_
 refine sy_seq ?_
 refine sy_tx' [0, 1] rfl ?_
 rw [← hnm]
 have hnr : -1 ≤ rnum (rmid (laL b) s u k) ∧ rnum (rmid (laL b) s u k) ≤ 1000000 := by omega
 clear hnm
 refine sp rfl (PE.move rfl) rfl ?_
 refine sp rfl (PE.lss rfl rfl) rfl ?_
 refine sy_cond rfl (fun hc3 => ?_) (fun hc3 => ?_)
 try simp only [decide_eq_true_eq, decide_eq_false_iff_not, Bool.and_eq_true, Bool.or_eq_true, Bool.not_eq_true', Int.not_le, Int.not_lt] at hc3
 refine sy_seq ?_
 refine sy_tx' [0] rfl ?_
 refine sp rfl (PE.assign rfl) rfl ?_
 refine sy_ret ?_
 exact sy_return (vs := [_]) rfl (.cons (RV.tmp rfl) .nil) rfl ⟨rfl, .inl ⟨rNx_bad (by omega) ht hc3, rfl, rfl⟩⟩ (fun w h => (St.drop h).del b3)
 try simp only [decide_eq_true_eq, decide_eq_false_iff_not, Bool.and_eq_true, Bool.or_eq_true, Bool.not_eq_true', Int.not_le, Int.not_lt] at hc3
 have htn := rNx_good ht (Int.not_lt.2 hc3)
 refine sy_skip ?_
 refine sy_tx' [0, 1, 2, 3, 4] rfl ?_
 refine sp rfl (PE.move rfl) rfl ?_
 refine sp rfl (PE.move rfl) rfl ?_
 refine bsl (out := [_]) rfl sl40 zl3 rfl rfl rfl rfl rfl rfl (fun b38 => ?_)
 refine apO (o) rfl ap40 rfl rfl (rowsH (row := [.int .i64 (rnum (rmid (laL b) s u k))]) rfl) rfl rfl ((by rw [irows_len]; simp only [List.length_singleton]; omega)) rfl (fun o39 => ?_)
 refine sp rfl (PE.assign rfl) rfl ?_
 refine sy_tx' [0, 1, 2] rfl ?_
 refine sp rfl (PE.move rfl) rfl ?_
 refine sp rfl (PE.add rfl rfl (by omega)) rfl ?_
 refine sp rfl (PE.assign rfl) rfl ?_
 exact sy_next ⟨⟨(k + 1, t ++ [rnum (rmid (laL b) s u k)]), by dsimp only; omega, htn⟩, o39.cast (by simp [irows])⟩ (by dsimp only; omega) (by dsimp only; rw [show u / 2 ^ (k + 1) = v / 2 by rw [Nat.pow_succ, ← Nat.div_div_eq_div_mul, hv]]; exact (by repeat' first | exact Sub.nil | apply Sub.cons | rfl | (simp [lk]; omega))) (fun w h => h.del b38)
 try simp only [decide_eq_true_eq, decide_eq_false_iff_not, Bool.and_eq_true, Bool.or_eq_true, Bool.not_eq_true', Int.not_le, Int.not_lt] at hc2
 have hnm : rnum (rmid (laL b) s u k) = rmid (laL b) s u k := by unfold rnum; rw [decide_eq_true (show rmid (laL b) s u k = 1000000 by omega)]; rfl
 refine sy_skip ?_
 refine sy_seq ?_
 refine sy_seq ?_
 refine sy_tx' [0, 1] rfl ?_
 rw [← hnm]
 have hnr : -1 ≤ rnum (rmid (laL b) s u k) ∧ rnum (rmid (laL b) s u k) ≤ 1000000 := by omega
 clear hnm
 refine sp rfl (PE.move rfl) rfl ?_
 refine sp rfl (PE.lss rfl rfl) rfl ?_
 refine sy_cond rfl (fun hc3 => ?_) (fun hc3 => ?_)
 try simp only [decide_eq_true_eq, decide_eq_false_iff_not, Bool.and_eq_true, Bool.or_eq_true, Bool.not_eq_true', Int.not_le, Int.not_lt] at hc3
 refine sy_seq ?_
 refine sy_tx' [0] rfl ?_
 refine sp rfl (PE.assign rfl) rfl ?_
 refine sy_ret ?_
 exact sy_return (vs := [_]) rfl (.cons (RV.tmp rfl) .nil) rfl ⟨rfl, .inl ⟨rNx_bad (by omega) ht hc3, rfl, rfl⟩⟩ (fun w h => (St.drop h).del b3)
 try simp only [decide_eq_true_eq, decide_eq_false_iff_not, Bool.and_eq_true, Bool.or_eq_true, Bool.not_eq_true', Int.not_le, Int.not_lt] at hc3
 have htn := rNx_good ht (Int.not_lt.2 hc3)
 refine sy_skip ?_
 refine sy_tx' [0, 1, 2, 3, 4] rfl ?_
 refine sp rfl (PE.move rfl) rfl ?_
 refine sp rfl (PE.move rfl) rfl ?_
 refine bsl (out := [_]) rfl sl40 zl3 rfl rfl rfl rfl rfl rfl (fun b38 => ?_)
 refine apO (o) rfl ap40 rfl rfl (rowsH (row := [.int .i64 (rnum (rmid (laL b) s u k))]) rfl) rfl rfl ((by rw [irows_len]; simp only [List.length_singleton]; omega)) rfl (fun o39 => ?_)
 refine sp rfl (PE.assign rfl) rfl ?_
 refine sy_tx' [0, 1, 2] rfl ?_
 refine sp rfl (PE.move rfl) rfl ?_
 refine sp rfl (PE.add rfl rfl (by omega)) rfl ?_
 refine sp rfl (PE.assign rfl) rfl ?_
 exact sy_next ⟨⟨(k + 1, t ++ [rnum (rmid (laL b) s u k)]), by dsimp only; omega, htn⟩, o39.cast (by simp [irows])⟩ (by dsimp only; omega) (by dsimp only; rw [show u / 2 ^ (k + 1) = v / 2 by rw [Nat.pow_succ, ← Nat.div_div_eq_div_mul, hv]]; exact (by repeat' first | exact Sub.nil | apply Sub.cons | rfl | (simp [lk]; omega))) (fun w h => h.del b38)
 try simp only [decide_eq_true_eq, decide_eq_false_iff_not, Bool.and_eq_true, Bool.or_eq_true, Bool.not_eq_true', Int.not_le, Int.not_lt] at hc0
 obtain rfl : k = b.bins.length := by omega
 obtain ⟨bo, cap, junk, hfs, hGG, hjk, hcap, hmx⟩ := o.is.resolve_left (fun h => by have := congrArg List.length h.1; rw [irows_len] at this; simp only [List.length_nil] at this; omega)
 rw [irows_len] at hfs hjk hcap
 rw [hfs]
 refine Sy.heap (H' := (b3, cel 33 (btl b (b.sl ab cb))) :: H) (fun w h => St.blkRows (irows_one t) (by rw [hGG] at h; exact h)) ?_
 refine sy_exit ?_
 repeat refine sy_tx ?_
 refine sy_bx ?_
 refine sy_seq ?_
 refine sy_tx' [0, 1] rfl ?_
 refine sp rfl (PE.move rfl) rfl ?_
 refine sp rfl (PE.assign rfl) rfl ?_
 refine sy_ret ?_
 exact sy_return (vs := [_]) rfl (.cons (RV.tmp rfl) .nil) rfl ⟨rfl, .inr ⟨t, bo, cap, ht, rfl, rfl⟩⟩ (fun w h => h.del b3)
theorem c_rplace (pl : List PL) (ap : Option Addr) (cp : Nat) (hpl : pl.length ≤ 9223372036854775807) (s : List Int) (aS : Option Addr) (cs : Nat) (hsl : s.length ≤ 9223372036854775807) (hall : ∀ x ∈ pl, x.l.length = s.length) (H : Heap) (R : Facts) [hP : MemRows ap 1 (plrows pl) R] [hI : MemF (Inn pl) R] [hS : MemRows aS 1 (irows s) R] :
    FnV Try.prog 88 [.slice ap pl.length cp, .slice aS s.length cs] H R (.int .i64 (plcV (lls pl) s)) := by
 refine fn_of Try.func88 rfl Try.ntmps88 rfl ?_
 refine sy_seq ?_
 refine sy_tx' [0] rfl ?_
 refine sp rfl (PE.assign rfl) rfl ?_
 refine sy_seq ?_
 refine sy_seq ?_
 refine sy_tx' [0] rfl ?_
 refine sp rfl (PE.assign rfl) rfl ?_
 refine sy_block ?_
 refine sy_loop (ι := {k : Nat // k ≤ pl.length ∧ ∀ y ∈ (lls pl).take k, y ≠ s}) (fun k => ⟨[(0, .slice ap pl.length cp), (1, .slice aS s.length cs), (5, .int .i64 k.1)], H, R⟩) (fun k => pl.length - k.1) ⟨0, Nat.zero_le _, by simp⟩ ?_ (fun k => ?_)
 exact sy_at (by repeat' first | exact Sub.nil | apply Sub.cons | rfl | (simp [lk]; omega)) (fun _ h => h)
 obtain ⟨k, hk, hin⟩ := k
 dsimp only at hk hin ⊢
 refine sy_seq ?_
 refine sy_seq ?_
 refine sy_tx' [0, 1, 2, 3] rfl ?_
 refine sp rfl (PE.move rfl) rfl ?_
 refine sp rfl (PE.move rfl) rfl ?_
 refine sp rfl (PE.lenSl isl26 rfl) rfl ?_
 refine sp rfl (PE.lss rfl rfl) rfl ?_
 refine sy_cond rfl (fun hc0 => ?_) (fun hc0 => ?_)
 try simp only [decide_eq_true_eq, decide_eq_false_iff_not, Bool.and_eq_true, Bool.or_eq_true, Bool.not_eq_true', Int.not_le, Int.not_lt] at hc0
 obtain ⟨x, hx⟩ : ∃ x, pl[k]? = some x := ⟨_, List.getElem?_eq_getElem (by omega)⟩
 have hxm := List.mem_of_getElem? hx
 have hxl := hall x hxm
 refine sy_addr (a := ap) (sz := 1) (rows := plrows pl) (by intro h0; have := congrArg List.length h0; rw [plrows_len] at this; simp only [List.length_nil] at this; omega) (fun ba oa he => ?_)
 subst he
 refine Sy.heap (fun w h => St.inn (x := x) h hxm) ?_
 refine sy_skip ?_
 refine sy_seq ?_
 refine sy_block ?_
 refine sy_seq ?_
 refine sy_tx' [0] rfl ?_
 refine sp rfl (PE.assign rfl) rfl ?_
 refine sy_seq ?_
 refine sy_seq ?_
 refine sy_tx' [0] rfl ?_
 refine sp rfl (PE.assign rfl) rfl ?_
 refine sy_block ?_
 refine sy_loop (ι := {i : Nat // i ≤ s.length}) (fun i => ⟨[(0, .slice (some ⟨ba, oa, none⟩) pl.length cp), (1, .slice aS s.length cs), (5, .int .i64 k), (6, .bool (decide (x.l.take i.1 = s.take i.1))), (7, .int .i64 i.1)], H, RowsA x.a 1 (irows x.l) :: R⟩) (fun i => s.length - i.1) ⟨0, Nat.zero_le _⟩ ?_ (fun i => ?_)
 exact sy_at (by repeat' first | exact Sub.nil | apply Sub.cons | rfl | (simp [lk]; omega)) (fun _ h => h)
 obtain ⟨i, hi⟩ := i
 dsimp only at hi ⊢
 refine sy_seq ?_
 refine sy_seq ?_
 refine sy_tx' [0, 1, 2, 3] rfl ?_
 refine sp rfl (PE.move rfl) rfl ?_
 refine sp rfl (PE.move rfl) rfl ?_
 refine sp rfl (PE.lenSl isl40 rfl) rfl ?_
 refine sp rfl (PE.lss rfl rfl) rfl ?_
 refine sy_cond rfl (fun hc1 => ?_) (fun hc1 => ?_)
 try simp only [decide_eq_true_eq, decide_eq_false_iff_not, Bool.and_eq_true, Bool.or_eq_true, Bool.not_eq_true', Int.not_le, Int.not_lt] at hc1
 obtain ⟨u, hu⟩ : ∃ u, x.l[i]? = some u := ⟨_, List.getElem?_eq_getElem (by omega)⟩
 obtain ⟨v, hv⟩ : ∃ v, s[i]? = some v := ⟨_, List.getElem?_eq_getElem (by omega)⟩
 have htk := take_eq2 hu hv
 refine sy_addr (a := x.a) (sz := 1) (rows := irows x.l) (by intro h0; have := congrArg List.length h0; rw [irows_len] at this; simp only [List.length_nil] at this; omega) (fun bx ox he => ?_)
 rw [he]
 refine sy_addr (a := aS) (sz := 1) (rows := irows s) (by intro h0; have := congrArg List.length h0; rw [irows_len] at this; simp only [List.length_nil] at this; omega) (fun bs os he2 => ?_)
 subst he2
 refine sy_skip ?_
 refine sy_seq ?_
 refine sy_block ?_
 refine sy_draw [0, 1, 3, 3, 15, 31, 3, 127, 255, 3, 3, 1539, 3587, 8191, 16383, 32767] (.tk 0 (.tk 1 (.tk 2 (.tk 3 (.tk 4 (.ld 5 (.tk 6 (.tk 7 (.ld 8 (.tk 9 (.tk 10 (.tk 11 (.ld 12 (.tk 13 (.tk 14 (.tk 15 .done)))))))))))))))) mixed (by kernel_rfl) ?_
 refine tk rfl (PE.move rfl) rfl ?_
 refine tk rfl (PE.move rfl) rfl ?_
 refine sy_case (t := 21) rfl (fun g21 => ?_) (fun g21 => ?_)
 try simp only [decide_eq_true_eq, decide_eq_false_iff_not, Bool.and_eq_true, Bool.or_eq_true, Bool.not_eq_true', Int.not_le, Int.not_lt] at g21
 rw [decide_eq_true g21, Bool.true_and] at htk
 refine tkG rfl rfl rfl rfl (PE.move rfl) rfl ?_
 refine tkG rfl rfl rfl rfl (PE.move rfl) rfl ?_
 refine tkG rfl rfl rfl rfl (PE.indexAddr el26 rfl rfl (by omega) (by omega)) rfl ?_
 refine ldG rfl rfl rfl rfl rfl (lf0 (row := [.slice (some ⟨bx, ox, none⟩) x.l.length x.c]) sc40 (by refine (pl_get hx).trans ?_; unfold plrow; rw [he]) rfl) rfl ?_
 refine tkG rfl rfl rfl rfl (PE.move rfl) rfl ?_
 refine tkG rfl rfl rfl rfl (PE.indexAddr el40 rfl rfl (by omega) (by omega)) rfl ?_
 refine ldG rfl rfl rfl rfl rfl (lf0 sc3 (ir_get hu) rfl) rfl ?_
 refine tkG rfl rfl rfl rfl (PE.move rfl) rfl ?_
 refine tkG rfl rfl rfl rfl (PE.move rfl) rfl ?_
 refine tkG rfl rfl rfl rfl (PE.indexAddr el40 rfl rfl (by omega) (by omega)) rfl ?_
 refine ldG rfl rfl rfl rfl rfl (lf0 sc3 (ir_get hv) rfl) rfl ?_
 refine tkG rfl rfl rfl rfl (PE.eql rfl rfl) rfl ?_
 refine tk rfl (PE.pick rfl rfl rfl) rfl ?_
 refine tk rfl (PE.assign rfl) rfl ?_
 refine sy_tx' [0, 1, 2] rfl ?_
 refine sp rfl (PE.move rfl) rfl ?_
 refine sp rfl (PE.add rfl rfl (by omega)) rfl ?_
 refine sp rfl (PE.assign rfl) rfl ?_
 exact sy_next ⟨i + 1, by omega⟩ (by dsimp only; omega) (by dsimp only; rw [htk]; exact (by repeat' first | exact Sub.nil | apply Sub.cons | rfl | (simp [lk]; omega))) (fun _ h => h)
 try simp only [decide_eq_true_eq, decide_eq_false_iff_not, Bool.and_eq_true, Bool.or_eq_true, Bool.not_eq_true', Int.not_le, Int.not_lt] at g21
 rw [decide_eq_false g21, Bool.false_and] at htk
 repeat refine tkN rfl rfl rfl rfl rfl rfl rfl rfl ?_
 refine ldN rfl rfl rfl rfl rfl rfl rfl rfl ?_
 repeat refine tkN rfl rfl rfl rfl rfl rfl rfl rfl ?_
 refine ldN rfl rfl rfl rfl rfl rfl rfl rfl ?_
 repeat refine tkN rfl rfl rfl rfl rfl rfl rfl rfl ?_
 refine ldN rfl rfl rfl rfl rfl rfl rfl rfl ?_
 refine tkN rfl rfl rfl rfl rfl rfl rfl rfl ?_
 refine tk rfl (PE.pick rfl rfl rfl) rfl ?_
 refine tk rfl (PE.assign rfl) rfl ?_
 refine sy_tx' [0, 1, 2] rfl ?_
 refine sp rfl (PE.move rfl) rfl ?_
 refine sp rfl (PE.add rfl rfl (by omega)) rfl ?_
 refine sp rfl (PE.assign rfl) rfl ?_
 exact sy_next ⟨i + 1, by omega⟩ (by dsimp only; omega) (by dsimp only; rw [htk]; exact (by repeat' first | exact Sub.nil | apply Sub.cons | rfl | (simp [lk]; omega))) (fun _ h => h)
 try simp only [decide_eq_true_eq, decide_eq_false_iff_not, Bool.and_eq_true, Bool.or_eq_true, Bool.not_eq_true', Int.not_le, Int.not_lt] at hc1
 obtain rfl : i = s.length := by omega
 rw [List.take_length, List.take_of_length_le (by omega)]
 refine sy_exit ?_
 repeat refine sy_tx ?_
 refine sy_bx ?_
 refine sy_seq ?_
 refine sy_tx' [0] rfl ?_
 refine sp rfl (PE.move rfl) rfl ?_
 refine sy_cond rfl (fun hc2 => ?_) (fun hc2 => ?_)
 try simp only [decide_eq_true_eq, decide_eq_false_iff_not, Bool.and_eq_true, Bool.or_eq_true, Bool.not_eq_true', Int.not_le, Int.not_lt] at hc2
 have hans : plcV (lls pl) s = k := plc_at hin (lls_get hx) hc2
 refine sy_seq ?_
 refine sy_tx' [0, 1] rfl ?_
 refine sp rfl (PE.move rfl) rfl ?_
 refine sp rfl (PE.assign rfl) rfl ?_
 refine sy_ret ?_
 exact sy_return (vs := [_]) rfl (.cons (RV.tmp rfl) .nil) rfl ⟨by rw [hans]; rfl, rfl, rfl⟩ drp
 try simp only [decide_eq_true_eq, decide_eq_false_iff_not, Bool.and_eq_true, Bool.or_eq_true, Bool.not_eq_true', Int.not_le, Int.not_lt] at hc2
 refine sy_skip ?_
 refine sy_tx' [0, 1, 2] rfl ?_
 refine sp rfl (PE.move rfl) rfl ?_
 refine sp rfl (PE.add rfl rfl (by omega)) rfl ?_
 refine sp rfl (PE.assign rfl) rfl ?_
 exact sy_next ⟨k + 1, by omega, fun y hy => by
   rw [take_snoc (lls_get hx), List.mem_append, List.mem_singleton] at hy
   rcases hy with hy | rfl
   · exact hin y hy
   · exact hc2⟩ (by dsimp only; omega) (by repeat' first | exact Sub.nil | apply Sub.cons | rfl | (simp [lk]; omega)) (fun w h => h.ftail)
 try simp only [decide_eq_true_eq, decide_eq_false_iff_not, Bool.and_eq_true, Bool.or_eq_true, Bool.not_eq_true', Int.not_le, Int.not_lt] at hc0
 obtain rfl : k = pl.length := by omega
 have hans : plcV (lls pl) s = -1 := plc_no (fun y hy => hin y (by rw [List.take_of_length_le (by rw [lls_len]; exact Nat.le_refl _)]; exact hy))
 refine sy_exit ?_
 repeat refine sy_tx ?_
 refine sy_bx ?_
 refine sy_seq ?_
 refine sy_tx' [0] rfl ?_
 refine sp rfl (PE.assign rfl) rfl ?_
 refine sy_ret ?_
 exact sy_return (vs := [_]) rfl (.cons (RV.tmp rfl) .nil) rfl ⟨by rw [hans]; rfl, rfl, rfl⟩ drp
end Go.Proofs.Ytelegnmfhjfbaaa
namespace Go.Proofs.Ytelegnmfhjfbaaa
set_option linter.unusedSimpArgs false
set_option linter.unusedVariables false
open Go
theorem cal83 : cal Try.prog 83 = true := by kernel_rfl
theorem cal84 : cal Try.prog 84 = true := by kernel_rfl
theorem cal85 : cal Try.prog 85 = true := by kernel_rfl
theorem cal86 : cal Try.prog 86 = true := by kernel_rfl
theorem cal87 : cal Try.prog 87 = true := by kernel_rfl
theorem cal88 : cal Try.prog 88 = true := by kernel_rfl
theorem FnV.lendO {P : Program} {f : FuncId} {v : Value} {e sz : Nat} {rows : List (List Value)} (o : OSl e sz rows) (mk : Value → List Value) {T : Heap} {R : Facts}
    (h : ∀ (a : Option Addr) (c : Nat) (B : World → Prop), FnV P f (mk (.slice a rows.length c)) T (RowsA a sz rows :: B :: R) v) : FnV P f (mk o.fs) (o.G ++ T) R v := fun w hw => by
  obtain ⟨fs, G, hl, his⟩ := o
  rcases his with ⟨rfl, rfl, rfl⟩ | ⟨b, cap, junk, rfl, rfl, h1, h2, h3⟩
  · have h3 : St T (RowsA none sz [] :: (fun _ => True) :: R) w := St.also (St.also hw (f := fun _ => True) (fun _ _ => trivial)) (fun w' _ i row hi => by simp at hi)
    refine CallsIn.mono (h none 0 _ w h3) ?_
    rintro e' w' ⟨u, H', R', ⟨rfl, rfl, rfl⟩, he, hs'⟩
    exact ⟨_, _, R, ⟨rfl, rfl, rfl⟩, he, hs'.ftail.ftail⟩
  · exact FnV.lend (H := (b, cel e (rows.flatten ++ junk)) :: T) (b := b) (e := e) (sz := sz) (rows := rows) (junk := junk) hl (fun B => h _ cap B) w hw
theorem lls_snoc (l : List PL) (x : PL) : lls (l ++ [x]) = lls l ++ [x.l] := by simp [lls]
theorem rS_no {n : Nat} {g : Int} {la s : List Int} {u : Nat} (h : g < ((bitl 4 u).length : Int)) : rS n g la s u = none := by unfold rS; rw [decide_eq_false (by omega)]; rfl
theorem rS_yes {n : Nat} {g : Int} {la s : List Int} {u : Nat} (h : ¬ g < ((bitl 4 u).length : Int)) : rS n g la s u = rNx la s u n := by unfold rS; rw [decide_eq_true (by omega)]; rfl
def wideV (b : Barn) (m : Int) : Bool := decide (8 < b.bins.length) || (decide (b.check = 0) && decide (m < (b.dsk.nst : Int)))
theorem c_rLongest (b : Barn) (ab : Option Addr) (cb : Nat) (hok : b.ok) (H : Heap) (R : Facts) [hB : MemRows ab 4 (brows b.bins) R] :
    Fn Try.prog 34 [b.v (b.sl ab cb)] H R (fun v H' R' => (∃ m, Kpt b.dsk b.state m ∧ v = .int .i64 m) ∧ H' = H ∧ R' = R) := by
 have hmn := hok.many
 have hdk := b.dsk_ok hok
 have hst := b.state_inS hok
 have hp16 := pow_le16 hmn.2
 have hn14 := (b.dsk.nst_le hdk).2
 refine fn_of Try.func34 rfl Try.ntmps34 rfl ?_
 refine sy_seq ?_
 refine sy_tx' [0, 1] rfl ?_
 refine bx rfl rfl rfl (fun b1 => ?_)
 refine sp rfl (PE.assign rfl) rfl ?_
 refine sy_seq ?_
 refine sy_tx' [0, 1, 2, 3] rfl ?_
 refine spL rfl rfl (lhA (btl b (b.sl ab cb)) ag33 rfl rfl rfl) rfl ?_
 refine cl rfl cal84 rfl rfl (c_rBegin b ab cb hok _ _) ?_
 rintro _ _ R1 ⟨ax, cx, rfl, rfl, hR1⟩
 obtain rfl := hR1.symm
 clear hR1
 refine bsl (out := [_]) rfl sl26 zl40 rfl rfl rfl rfl rfl rfl (fun b11 => ?_)
 refine sp rfl (PE.assign rfl) rfl ?_
 refine sy_seq ?_
 refine sy_seq ?_
 refine sy_tx' [0] rfl ?_
 refine Sy.heap (H' := (b11, cel 40 ((plrows [⟨ax, cx, bgL b⟩]).flatten ++ [])) :: (b1, cel 33 (btl b (b.sl ab cb))) :: H) (fun w h => by
   have e : (plrows [⟨ax, cx, bgL b⟩]).flatten ++ [] = [.slice ax b.bins.length cx] := by show [Value.slice ax (bgL b).length cx] = _; rw [bgL_len]
   rw [e]; exact h) ?_
 refine Sy.heap (fun w h => St.inn0 h) ?_
 refine Sy.heap (fun w h => St.innCons (a := ax) (c := cx) (l0 := bgL b) (l := []) h) ?_
 refine Sy.heap (fun w h => St.blkRows (plr_one [⟨ax, cx, bgL b⟩]) h) ?_
 refine sp rfl (PE.assign rfl) rfl ?_
 refine sy_block ?_
 refine sy_loop (ι := {y : Nat × List PL × Option Addr × Nat // y.1 ≤ b.dsk.nst + 1 ∧ Lv b.dsk b.state y.1 (lls y.2.1) ∧ lls y.2.1 ≠ [] ∧ y.2.1.length ≤ 14641}) (fun y => ⟨[(1, .pointer (some ⟨b1, 0, none⟩)), (3, .slice y.1.2.2.1 y.1.2.1.length y.1.2.2.2), (4, .int .i64 y.1.1)], (b1, cel 33 (btl b (b.sl ab cb))) :: H, RowsA y.1.2.2.1 1 (plrows y.1.2.1) :: Inn y.1.2.1 :: R⟩) (fun y => b.dsk.nst + 1 - y.1.1) ⟨(0, [⟨ax, cx, bgL b⟩], some ⟨b11, 0, none⟩, 1), Nat.zero_le _, Lv.start (bgL_len b), by simp [lls], by simp⟩ ?_ (fun y => ?_)
 exact sy_at (by repeat' first | exact Sub.nil | apply Sub.cons | rfl | (simp [lk]; omega)) (fun w h => h.facts (fun g hg => by simp only [List.mem_cons] at hg ⊢; rcases hg with hg | hg | hg <;> simp [hg]))
 obtain ⟨⟨day, nl, an, cn⟩, hday, hlv, hne, hnl⟩ := y
 dsimp only at hday hlv hne hnl ⊢
 refine sy_seq ?_
 refine sy_seq ?_
 refine sy_tx' [0, 1, 2, 3] rfl ?_
 refine sp rfl (PE.move rfl) rfl ?_
 refine spL rfl rfl (lhA (btl b (b.sl ab cb)) ag33 rfl rfl rfl) rfl ?_
 refine clV rfl cal83 rfl rfl (c_rMany b ab cb hok _ _) ?_
 refine sp rfl (PE.leq rfl rfl) rfl ?_
 refine sy_cond rfl (fun hc0 => ?_) (fun hc0 => ?_)
 try simp only [decide_eq_true_eq, decide_eq_false_iff_not, Bool.and_eq_true, Bool.or_eq_true, Bool.not_eq_true', Int.not_le, Int.not_lt] at hc0
 refine sy_skip ?_
 refine sy_seq ?_
 refine sy_block ?_
 refine sy_seq ?_
 refine sy_tx' [0] rfl ?_
 refine sp rfl (PE.assign rfl) rfl ?_
 refine sy_seq ?_
 refine sy_seq ?_
 refine sy_tx' [0] rfl ?_
 refine sp rfl (PE.assign rfl) rfl ?_
 refine sy_block ?_
 refine sy_loop (ι := (y : {y : Nat × List PL // y.1 ≤ nl.length ∧ Bf b.dsk.n b.dsk.gangs (laL b) (lls nl) y.1 0 (lls y.2)}) × OSl 40 1 (plrows y.1.2)) (fun y => ⟨[(1, .pointer (some ⟨b1, 0, none⟩)), (3, .slice an nl.length cn), (4, .int .i64 day), (5, y.2.fs), (6, .int .i64 y.1.1.1)], y.2.G ++ (b1, cel 33 (btl b (b.sl ab cb))) :: H, Inn y.1.1.2 :: RowsA an 1 (plrows nl) :: Inn nl :: R⟩) (fun y => nl.length - y.1.1.1) ⟨⟨(0, []), Nat.zero_le _, Bf.start⟩, OSl.nil _ _⟩ ?_ (fun y => ?_)
 exact sy_at (by repeat' first | exact Sub.nil | apply Sub.cons | rfl | (simp [lk]; omega)) (fun w h => St.inn0 h)
 obtain ⟨⟨⟨i, q⟩, hi, hbf⟩, o⟩ := y
 dsimp only at hi hbf o ⊢
 refine sy_seq ?_
 refine sy_seq ?_
 refine sy_tx' [0, 1, 2, 3] rfl ?_
 refine sp rfl (PE.move rfl) rfl ?_
 refine sp rfl (PE.move rfl) rfl ?_
 refine sp rfl (PE.lenSl isl26 rfl) rfl ?_
 refine sp rfl (PE.lss rfl rfl) rfl ?_
 refine sy_cond rfl (fun hc1 => ?_) (fun hc1 => ?_)
 try simp only [decide_eq_true_eq, decide_eq_false_iff_not, Bool.and_eq_true, Bool.or_eq_true, Bool.not_eq_true', Int.not_le, Int.not_lt] at hc1
 obtain ⟨x, hx⟩ : ∃ x, nl[i]? = some x := ⟨_, List.getElem?_eq_getElem (by omega)⟩
 have hxm := List.mem_of_getElem? hx
 have hxl : x.l.length = b.bins.length := hlv.len x.l (List.mem_map.2 ⟨x, hxm, rfl⟩)
 have hxs := hlv.inS hdk hst (List.mem_map.2 ⟨x, hxm, rfl⟩)
 have hxn : ∀ k < b.bins.length, 0 ≤ na x.l k ∧ na x.l k ≤ 1000000 := fun k hk => by have := (b.dsk.inS_sml hdk hxs).at_ k (by omega); rwa [pad_na] at this
 refine sy_addr (a := an) (sz := 1) (rows := plrows nl) (by intro h0; have := congrArg List.length h0; rw [plrows_len] at this; simp only [List.length_nil] at this; omega) (fun ba oa he => ?_)
 subst he
 refine Sy.heap (fun w h => St.inn (x := x) h hxm) ?_
 refine sy_skip ?_
 refine sy_seq ?_
 refine sy_block ?_
 refine sy_seq ?_
 refine sy_tx' [0] rfl ?_
 refine sp rfl (PE.assign rfl) rfl ?_
 refine sy_block ?_
 refine sy_loop (ι := (y : {y : Nat × List PL // y.1 ≤ 2 ^ b.bins.length ∧ Bf b.dsk.n b.dsk.gangs (laL b) (lls nl) i y.1 (lls y.2)}) × OSl 40 1 (plrows y.1.2)) (fun y => ⟨[(1, .pointer (some ⟨b1, 0, none⟩)), (3, .slice (some ⟨ba, oa, none⟩) nl.length cn), (4, .int .i64 day), (5, y.2.fs), (6, .int .i64 i), (7, .int .i64 y.1.1.1)], y.2.G ++ (b1, cel 33 (btl b (b.sl ab cb))) :: H, Inn y.1.1.2 :: RowsA x.a 1 (irows x.l) :: RowsA (some ⟨ba, oa, none⟩) 1 (plrows nl) :: Inn nl :: R⟩) (fun y => 2 ^ b.bins.length - y.1.1.1) ⟨⟨(0, q), Nat.zero_le _, hbf⟩, o⟩ ?_ (fun y => ?_)
 exact sy_at (by repeat' first | exact Sub.nil | apply Sub.cons | rfl | (simp [lk]; omega)) (fun w h => h.facts (fun g hg => by simp only [List.mem_cons] at hg ⊢; rcases hg with hg | hg | hg | hg | hg <;> simp [hg]))
 obtain ⟨⟨⟨u, q2⟩, hu, hbf2⟩, o2⟩ := y
 dsimp only at hu hbf2 o2 ⊢
 have hfew := hbf2.few hdk hst (laL_lasts b) hlv
 rw [lls_len] at hfew
 refine sy_seq ?_
 refine sy_seq ?_
 refine sy_tx' [0, 1, 2, 3] rfl ?_
 refine sp rfl (PE.move rfl) rfl ?_
 refine spL rfl rfl (lhA (btl b (b.sl ab cb)) ag33 rfl rfl rfl) rfl ?_
 refine clV rfl cal85 rfl rfl (c_rsets b ab cb hmn.2 _ _) ?_
 refine sp rfl (PE.lss rfl rfl) rfl ?_
 refine sy_cond rfl (fun hc2 => ?_) (fun hc2 => ?_)
 try simp only [decide_eq_true_eq, decide_eq_false_iff_not, Bool.and_eq_true, Bool.or_eq_true, Bool.not_eq_true', Int.not_le, Int.not_lt] at hc2
 have hu16 : u < 16 := by omega
 refine sy_skip ?_
 refine sy_seq ?_
 refine sy_block ?_
 refine sy_seq ?_
 refine sy_seq ?_
 refine sy_draw [0, 1, 0, 4, 15] (.tk 0 (.tk 2 (.ld 3 (.big 1 (.tk 4 .done))))) mixed (by kernel_rfl) ?_
 refine tk rfl (PE.move rfl) rfl ?_
 refine tk rfl (PE.fieldAddr fo33_1 rfl) rfl ?_
 refine ld rfl rfl (lh sc3 rfl rfl) rfl ?_
 refine clV rfl cal86 rfl rfl (c_rones u hu16 _ _) ?_
 refine bg (fun w hs => ⟨(lh sc3 rfl rfl) w hs, trivial⟩) ?_
 refine tk rfl (PE.gtr rfl rfl) rfl ?_
 refine sy_cond rfl (fun hc3 => ?_) (fun hc3 => ?_)
 try simp only [decide_eq_true_eq, decide_eq_false_iff_not, Bool.and_eq_true, Bool.or_eq_true, Bool.not_eq_true', Int.not_le, Int.not_lt] at hc3
 have hsk := hbf2.skip (lls_get hx) (by show u < 2 ^ b.bins.length; omega) (fun t ht => by rw [rS_no (show b.dsk.gangs < _ from hc3)] at ht; cases ht)
 refine sy_exit ?_
 refine sy_tx ?_
 refine sy_bx ?_
 refine sy_tx' [0, 1, 2] rfl ?_
 refine sp rfl (PE.move rfl) rfl ?_
 refine sp rfl (PE.add rfl rfl (by omega)) rfl ?_
 refine sp rfl (PE.assign rfl) rfl ?_
 first
   | exact sy_next ⟨⟨(u + 1, q2 ++ [⟨some ⟨bo, 0, none⟩, c, t⟩]), by dsimp only; omega, by rw [lls_snoc]; exact hadd⟩, o53.cast (by rw [plrows_app]; rfl)⟩ (by dsimp only; omega) (by repeat' first | exact Sub.nil | apply Sub.cons | rfl | (simp [lk]; omega)) (fun w h => (St.innSnoc (a := some ⟨bo, 0, none⟩) (c := c) (l0 := t) (l := q2) (h.del b52)).facts (fun g hg => by simp only [List.mem_cons] at hg ⊢; rcases hg with hg | hg | hg | hg | hg <;> simp [hg]))
   | exact sy_next ⟨⟨(u + 1, q2), by dsimp only; omega, hsk⟩, o2⟩ (by dsimp only; omega) (by repeat' first | exact Sub.nil | apply Sub.cons | rfl | (simp [lk]; omega)) (fun w h => h.facts (fun g hg => by simp only [List.mem_cons] at hg ⊢; rcases hg with hg | hg | hg | hg | hg <;> simp [hg]))
 try simp only [decide_eq_true_eq, decide_eq_false_iff_not, Bool.and_eq_true, Bool.or_eq_true, Bool.not_eq_true', Int.not_le, Int.not_lt] at hc3
 have hrs : rS b.dsk.n b.dsk.gangs (laL b) x.l u = rNx (laL b) x.l u b.bins.length := rS_yes (show ¬ b.gangs < _ by omega)
 refine sy_skip ?_
 refine sy_seq ?_
 refine sy_draw [0, 0, 0, 6, 14, 0, 63, 127] (.ld 0 (.tk 1 (.tk 2 (.tk 3 (.ld 4 (.tk 5 (.big 6 (.tk 7 .done)))))))) mixed (by kernel_rfl) ?_
 refine ld rfl rfl (lhA (btl b (b.sl ab cb)) ag33 rfl rfl rfl) rfl ?_
 refine tk rfl (PE.move rfl) rfl ?_
 refine tk rfl (PE.move rfl) rfl ?_
 refine tk rfl (PE.indexAddr el26 rfl rfl (by omega) (by omega)) rfl ?_
 refine ld rfl rfl (lf0 sc40 (pl_get hx) rfl) rfl ?_
 refine tk rfl (PE.move rfl) rfl ?_
 refine cl rfl cal87 rfl rfl (c_rNext b ab cb hok x.l x.a x.c hxl hxn u hu16 _ _) ?_
 rintro _ _ R1 ⟨rfl, (⟨hnx, rfl, hR1⟩ | ⟨t, bo, c, hnx, rfl, hR1⟩)⟩ <;> obtain rfl := hR1.symm <;> clear hR1
 refine bg (fun w hs => ⟨trivial, trivial, trivial⟩) ?_
 refine tk rfl (PE.assign rfl) rfl ?_
 refine sy_seq ?_
 refine sy_tx' [0, 1, 2, 3, 4, 5, 6, 7] rfl ?_
 have hsk := hbf2.skip (lls_get hx) (by show u < 2 ^ b.bins.length; omega) (fun t ht => by rw [hrs, hnx] at ht; cases ht)
 refine sp rfl (PE.move rfl) rfl ?_
 refine sp rfl (PE.neqNil isl40 rfl rfl) rfl ?_
 refine sp rfl (PE.move rfl) rfl ?_
 repeat refine spN rfl rfl rfl rfl rfl rfl rfl rfl ?_
 refine sp rfl (PE.pick rfl rfl rfl) rfl ?_
 refine sy_condF rfl ?_
 refine sy_skip ?_
 refine sy_tx' [0, 1, 2] rfl ?_
 refine sp rfl (PE.move rfl) rfl ?_
 refine sp rfl (PE.add rfl rfl (by omega)) rfl ?_
 refine sp rfl (PE.assign rfl) rfl ?_
 first
   | exact sy_next ⟨⟨(u + 1, q2 ++ [⟨some ⟨bo, 0, none⟩, c, t⟩]), by dsimp only; omega, by rw [lls_snoc]; exact hadd⟩, o53.cast (by rw [plrows_app]; rfl)⟩ (by dsimp only; omega) (by repeat' first | exact Sub.nil | apply Sub.cons | rfl | (simp [lk]; omega)) (fun w h => (St.innSnoc (a := some ⟨bo, 0, none⟩) (c := c) (l0 := t) (l := q2) (h.del b52)).facts (fun g hg => by simp only [List.mem_cons] at hg ⊢; rcases hg with hg | hg | hg | hg | hg <;> simp [hg]))
   | exact sy_next ⟨⟨(u + 1, q2), by dsimp only; omega, hsk⟩, o2⟩ (by dsimp only; omega) (by repeat' first | exact Sub.nil | apply Sub.cons | rfl | (simp [lk]; omega)) (fun w h => h.facts (fun g hg => by simp only [List.mem_cons] at hg ⊢; rcases hg with hg | hg | hg | hg | hg <;> simp [hg]))
 refine bg (fun w hs => ⟨trivial, trivial, trivial⟩) ?_
 refine tk rfl (PE.assign rfl) rfl ?_
 refine sy_seq ?_
 refine sy_tx' [0, 1, 2, 3, 4, 5, 6, 7] rfl ?_
 have htl : t.length = b.bins.length := rNx_len hnx
 have hall : ∀ y ∈ q2, y.l.length = t.length := fun y hy => by rw [htl]; exact hbf2.len y.l (List.mem_map.2 ⟨y, hy, rfl⟩)
 refine sp rfl (PE.move rfl) rfl ?_
 refine sp rfl (PE.neqNil isl40 rfl rfl) rfl ?_
 refine sp rfl (PE.move rfl) rfl ?_
 refine spG rfl rfl rfl rfl (PE.move rfl) rfl ?_
 refine spG rfl rfl rfl rfl (PE.move rfl) rfl ?_
 refine clVG rfl rfl rfl rfl cal88 rfl rfl (FnV.lendO o2 (fun v => [v, .slice (some ⟨bo, 0, none⟩) t.length c]) (fun a5 c5 B => by rw [plrows_len]; exact c_rplace q2 a5 c5 (by omega) t (some ⟨bo, 0, none⟩) c (by omega) hall _ _)) ?_
 refine spG rfl rfl rfl rfl (PE.lss rfl rfl) rfl ?_
 refine sp rfl (PE.pick rfl rfl rfl) rfl ?_
 refine sy_cond rfl (fun hc4 => ?_) (fun hc4 => ?_)
 try simp only [decide_eq_true_eq, decide_eq_false_iff_not, Bool.and_eq_true, Bool.or_eq_true, Bool.not_eq_true', Int.not_le, Int.not_lt] at hc4
 have hadd := hbf2.add (lls_get hx) (by show u < 2 ^ b.bins.length; omega) (hrs.trans hnx) (plc_neg.1 hc4)
 refine sy_tx' [0, 1, 2, 3, 4] rfl ?_
 refine sp rfl (PE.move rfl) rfl ?_
 refine sp rfl (PE.move rfl) rfl ?_
 refine bsl (out := [_]) rfl sl26 zl40 rfl rfl rfl rfl rfl rfl (fun b52 => ?_)
 refine apO (o2) rfl ap26 rfl rfl (rowsH (row := [.slice (some ⟨bo, 0, none⟩) t.length c]) rfl) rfl rfl ((by rw [plrows_len]; simp only [List.length_singleton]; omega)) rfl (fun o53 => ?_)
 refine sp rfl (PE.assign rfl) rfl ?_
 refine sy_tx' [0, 1, 2] rfl ?_
 refine sp rfl (PE.move rfl) rfl ?_
 refine sp rfl (PE.add rfl rfl (by omega)) rfl ?_
 refine sp rfl (PE.assign rfl) rfl ?_
 first
   | exact sy_next ⟨⟨(u + 1, q2 ++ [⟨some ⟨bo, 0, none⟩, c, t⟩]), by dsimp only; omega, by rw [lls_snoc]; exact hadd⟩, o53.cast (by rw [plrows_app]; rfl)⟩ (by dsimp only; omega) (by repeat' first | exact Sub.nil | apply Sub.cons | rfl | (simp [lk]; omega)) (fun w h => (St.innSnoc (a := some ⟨bo, 0, none⟩) (c := c) (l0 := t) (l := q2) (h.del b52)).facts (fun g hg => by simp only [List.mem_cons] at hg ⊢; rcases hg with hg | hg | hg | hg | hg <;> simp [hg]))
   | exact sy_next ⟨⟨(u + 1, q2), by dsimp only; omega, hsk⟩, o2⟩ (by dsimp only; omega) (by repeat' first | exact Sub.nil | apply Sub.cons | rfl | (simp [lk]; omega)) (fun w h => h.facts (fun g hg => by simp only [List.mem_cons] at hg ⊢; rcases hg with hg | hg | hg | hg | hg <;> simp [hg]))
 try simp only [decide_eq_true_eq, decide_eq_false_iff_not, Bool.and_eq_true, Bool.or_eq_true, Bool.not_eq_true', Int.not_le, Int.not_lt] at hc4
 have hsk := hbf2.skip (lls_get hx) (by show u < 2 ^ b.bins.length; omega) (fun t2 ht2 => by rw [hrs, hnx] at ht2; cases ht2; exact Classical.byContradiction fun h9 => absurd (plc_neg.2 h9) (by omega))
 refine sy_skip ?_
 refine sy_tx' [0, 1, 2] rfl ?_
 refine sp rfl (PE.move rfl) rfl ?_
 refine sp rfl (PE.add rfl rfl (by omega)) rfl ?_
 refine sp rfl (PE.assign rfl) rfl ?_
 first
   | exact sy_next ⟨⟨(u + 1, q2 ++ [⟨some ⟨bo, 0, none⟩, c, t⟩]), by dsimp only; omega, by rw [lls_snoc]; exact hadd⟩, o53.cast (by rw [plrows_app]; rfl)⟩ (by dsimp only; omega) (by repeat' first | exact Sub.nil | apply Sub.cons | rfl | (simp [lk]; omega)) (fun w h => (St.innSnoc (a := some ⟨bo, 0, none⟩) (c := c) (l0 := t) (l := q2) (h.del b52)).facts (fun g hg => by simp only [List.mem_cons] at hg ⊢; rcases hg with hg | hg | hg | hg | hg <;> simp [hg]))
   | exact sy_next ⟨⟨(u + 1, q2), by dsimp only; omega, hsk⟩, o2⟩ (by dsimp only; omega) (by repeat' first | exact Sub.nil | apply Sub.cons | rfl | (simp [lk]; omega)) (fun w h => h.facts (fun g hg => by simp only [List.mem_cons] at hg ⊢; rcases hg with hg | hg | hg | hg | hg <;> simp [hg]))
 try simp only [decide_eq_true_eq, decide_eq_false_iff_not, Bool.and_eq_true, Bool.or_eq_true, Bool.not_eq_true', Int.not_le, Int.not_lt] at hc2
 obtain rfl : u = 2 ^ b.bins.length := by omega
 refine sy_exit ?_
 repeat refine sy_tx ?_
 refine sy_bx ?_
 refine sy_tx' [0, 1, 2] rfl ?_
 refine sp rfl (PE.move rfl) rfl ?_
 refine sp rfl (PE.add rfl rfl (by omega)) rfl ?_
 refine sp rfl (PE.assign rfl) rfl ?_
 exact sy_next ⟨⟨(i + 1, q2), by dsimp only; omega, hbf2.next⟩, o2⟩ (by dsimp only; omega) (by repeat' first | exact Sub.nil | apply Sub.cons | rfl | (simp [lk]; omega)) (fun w h => h.facts (fun g hg => by simp only [List.mem_cons] at hg ⊢; rcases hg with hg | hg | hg | hg <;> simp [hg]))
 try simp only [decide_eq_true_eq, decide_eq_false_iff_not, Bool.and_eq_true, Bool.or_eq_true, Bool.not_eq_true', Int.not_le, Int.not_lt] at hc1
 obtain rfl : i = nl.length := by omega
 have hfew := hbf.few hdk hst (laL_lasts b) hlv
 rw [lls_len] at hfew
 have hlv2 := hlv.next hdk hst (laL_lasts b) (by rw [lls_len]; exact hbf)
 obtain ⟨a5, c5, he, hf⟩ := o.freeze
 rw [he, plrows_len]
 refine Sy.heap (fun w h => hf h) ?_
 clear he hf
 refine sy_exit ?_
 repeat refine sy_tx ?_
 refine sy_bx ?_
 refine sy_seq ?_
 refine sy_seq ?_
 refine sy_tx' [0, 1, 2] rfl ?_
 refine sp rfl (PE.move rfl) rfl ?_
 refine sp rfl (PE.lenSl isl26 rfl) rfl ?_
 refine sp rfl (PE.eql rfl rfl) rfl ?_
 refine sy_cond rfl (fun hc5 => ?_) (fun hc5 => ?_)
 try simp only [decide_eq_true_eq, decide_eq_false_iff_not, Bool.and_eq_true, Bool.or_eq_true, Bool.not_eq_true', Int.not_le, Int.not_lt] at hc5
 have hq0 : lls q = [] := List.length_eq_zero_iff.1 (by rw [lls_len]; omega)
 have hkp := hlv.ends hdk hst (by omega) hne (by rw [← hq0]; exact hlv2)
 refine sy_seq ?_
 refine sy_tx' [0, 1] rfl ?_
 refine sp rfl (PE.move rfl) rfl ?_
 refine sp rfl (PE.assign rfl) rfl ?_
 refine sy_ret ?_
 exact sy_return (vs := [_]) rfl (.cons (RV.tmp rfl) .nil) rfl ⟨⟨_, hkp, rfl⟩, rfl, rfl⟩ (fun w h => (h.del b1).facts (fun g hg => by simp [hg]))
 try simp only [decide_eq_true_eq, decide_eq_false_iff_not, Bool.and_eq_true, Bool.or_eq_true, Bool.not_eq_true', Int.not_le, Int.not_lt] at hc5
 refine sy_skip ?_
 refine sy_tx' [0, 1] rfl ?_
 refine sp rfl (PE.move rfl) rfl ?_
 refine sp rfl (PE.assign rfl) rfl ?_
 refine sy_tx' [0, 1, 2] rfl ?_
 refine sp rfl (PE.move rfl) rfl ?_
 refine sp rfl (PE.add rfl rfl (by omega)) rfl ?_
 refine sp rfl (PE.assign rfl) rfl ?_
 exact sy_next ⟨(day + 1, q, a5, c5), by dsimp only; omega, hlv2, fun h => by dsimp only at h; have := congrArg List.length h; rw [lls_len, List.length_nil] at this; omega, hfew⟩ (by dsimp only; omega) (by repeat' first | exact Sub.nil | apply Sub.cons | rfl | (simp [lk]; omega)) (fun w h => h.facts (fun g hg => by simp only [List.mem_cons] at hg ⊢; rcases hg with hg | hg | hg <;> simp [hg]))
 try simp only [decide_eq_true_eq, decide_eq_false_iff_not, Bool.and_eq_true, Bool.or_eq_true, Bool.not_eq_true', Int.not_le, Int.not_lt] at hc0
 have hkp := hlv.ever hdk hst (by omega) hne
 refine sy_exit ?_
 repeat refine sy_tx ?_
 refine sy_bx ?_
 refine sy_seq ?_
 refine sy_tx' [0] rfl ?_
 refine sp rfl (PE.assign rfl) rfl ?_
 refine sy_ret ?_
 exact sy_return (vs := [_]) rfl (.cons (RV.tmp rfl) .nil) rfl ⟨⟨_, hkp, rfl⟩, rfl, rfl⟩ (fun w h => (h.del b1).facts (fun g hg => by simp [hg]))
theorem c_wide (b : Barn) (ab : Option Addr) (cb : Nat) (m : Int) (hl : b.bins.length ≤ 4398046511104) (hr : b.rise.length = 6) (H : Heap) (R : Facts) [hB : MemRows ab 4 (brows b.bins) R] :
    FnV Try.prog 33 [b.v (b.sl ab cb), .int .i64 m] H R (.bool (wideV b m)) := by
 refine fn_of Try.func33 rfl Try.ntmps33 rfl ?_
 refine sy_seq ?_
 refine sy_tx' [0, 1] rfl ?_
 refine bx rfl rfl rfl (fun b2 => ?_)
 refine sp rfl (PE.assign rfl) rfl ?_
 refine sy_seq ?_
 refine sy_tx' [0, 1, 2, 3] rfl ?_
 refine spL rfl rfl (lhA (btl b (b.sl ab cb)) ag25 rfl rfl rfl) rfl ?_
 refine cl rfl cal20 rfl rfl (c_theirs b ab cb (by omega) _ _) ?_
 rintro _ _ R1 ⟨ax, cx, rfl, rfl, hR1⟩
 obtain rfl := hR1.symm
 clear hR1
 refine alc rfl zl33 rfl (fun b5 => ?_)
 refine sto rfl rfl rfl cn33 rfl rfl rfl rfl ?_
 refine sy_seq ?_
 refine sy_tx' [0, 1, 2, 3, 4, 5, 6, 7, 8, 9, 10, 11, 12, 13] rfl ?_
 refine spL rfl rfl (lhA (btl b (b.sl ab cb)) ag25 rfl rfl rfl) rfl ?_
 refine clV rfl cal16 rfl rfl (c_great b ab cb (by omega) _ _) ?_
 refine sp rfl (PE.move rfl) rfl ?_
 refine sy_case (t := 10) rfl (fun g10 => ?_) (fun g10 => ?_)
 repeat refine spN rfl rfl rfl rfl rfl rfl rfl rfl ?_
 repeat refine spU rfl rfl rfl rfl rfl rfl rfl ?_
 refine spN rfl rfl rfl rfl rfl rfl rfl rfl ?_
 refine sp rfl (PE.pick rfl rfl rfl) rfl ?_
 refine sp rfl (PE.assign rfl) rfl ?_
 refine sy_ret ?_
 exact sy_return (vs := [_]) rfl (.cons (RV.tmp rfl) .nil) rfl ⟨by unfold wideV; first | (rw [g10]; rfl) | (rw [g10, decide_eq_true g14]; rfl) | (rw [g10, decide_eq_false g14]; rfl), rfl, rfl⟩ (fun w h => ((h.del b5).del b2).facts (fun g hg => by simp [hg]))
 refine spLG rfl rfl rfl rfl rfl (lhA (btl b (b.sl ax cx)) ag33 rfl rfl rfl) rfl ?_
 refine clVG rfl rfl rfl rfl cal22 rfl rfl (c_rCheck b ax cx (by omega) hr _ _) ?_
 refine spG rfl rfl rfl rfl (PE.eql rfl rfl) rfl ?_
 refine spG rfl rfl rfl rfl (PE.move rfl) rfl ?_
 refine sy_case (t := 14) rfl (fun g14 => ?_) (fun g14 => ?_)
 try simp only [decide_eq_true_eq, decide_eq_false_iff_not, Bool.and_eq_true, Bool.or_eq_true, Bool.not_eq_true', Int.not_le, Int.not_lt] at g14
 refine spLG rfl rfl rfl rfl rfl (lhA (btl b (b.sl ax cx)) ag33 rfl rfl rfl) rfl ?_
 refine clVG rfl rfl rfl rfl cal83 rfl rfl (c_rMany b ax cx (Barn.ok_of hr g14) _ _) ?_
 refine spG rfl rfl rfl rfl (PE.move rfl) rfl ?_
 refine spG rfl rfl rfl rfl (PE.gtr rfl rfl) rfl ?_
 refine spG rfl rfl rfl rfl (PE.pick rfl rfl rfl) rfl ?_
 refine sp rfl (PE.pick rfl rfl rfl) rfl ?_
 refine sp rfl (PE.assign rfl) rfl ?_
 refine sy_ret ?_
 exact sy_return (vs := [_]) rfl (.cons (RV.tmp rfl) .nil) rfl ⟨by unfold wideV; first | (rw [g10]; rfl) | (rw [g10, decide_eq_true g14]; rfl) | (rw [g10, decide_eq_false g14]; rfl), rfl, rfl⟩ (fun w h => ((h.del b5).del b2).facts (fun g hg => by simp [hg]))
 try simp only [decide_eq_true_eq, decide_eq_false_iff_not, Bool.and_eq_true, Bool.or_eq_true, Bool.not_eq_true', Int.not_le, Int.not_lt] at g14
 repeat refine spN rfl rfl rfl rfl rfl rfl rfl rfl ?_
 refine spG rfl rfl rfl rfl (PE.pick rfl rfl rfl) rfl ?_
 refine sp rfl (PE.pick rfl rfl rfl) rfl ?_
 refine sp rfl (PE.assign rfl) rfl ?_
 refine sy_ret ?_
 exact sy_return (vs := [_]) rfl (.cons (RV.tmp rfl) .nil) rfl ⟨by unfold wideV; first | (rw [g10]; rfl) | (rw [g10, decide_eq_true g14]; rfl) | (rw [g10, decide_eq_false g14]; rfl), rfl, rfl⟩ (fun w h => ((h.del b5).del b2).facts (fun g hg => by simp [hg]))
end Go.Proofs.Ytelegnmfhjfbaaa
namespace Go.Proofs.Ytelegnmfhjfbaaa
set_option linter.unusedSimpArgs false
set_option linter.unusedVariables false
open Go
theorem cal33 : cal Try.prog 33 = true := by kernel_rfl
theorem cal34 : cal Try.prog 34 = true := by kernel_rfl
def SpI (b : Barn) (m : Nat) (s e : Int) : Prop := (e = 6 ∧ s = 0 ∧ ∀ g : Nat, m ≤ g → g ≤ b.bins.length → b.ends g) ∨
  (e = 0 ∧ ∃ g : Nat, s = g ∧ m ≤ g ∧ g ≤ b.bins.length ∧ Kpt (b.withG g).dsk b.state 1000000 ∧ ∀ j : Nat, m ≤ j → j < g → b.ends j)
theorem SpI.start (b : Barn) : SpI b (b.bins.length + 1) 0 6 := .inl ⟨rfl, rfl, fun g h1 h2 => by omega⟩
theorem SpI.yes {b : Barn} {k : Nat} (hk : k ≤ b.bins.length) (h : Kpt (b.withG k).dsk b.state 1000000) : SpI b k k 0 := .inr ⟨rfl, k, rfl, Nat.le_refl _, hk, h, fun j h1 h2 => by omega⟩
theorem SpI.no {b : Barn} {k : Nat} {s e : Int} (h : SpI b (k + 1) s e) (hn : b.ends k) : SpI b k s e := by
  rcases h with ⟨h1, h2, h3⟩ | ⟨h1, g, h2, h3, h4, h5, h6⟩
  · refine .inl ⟨h1, h2, fun g hg hg2 => ?_⟩
    rcases Nat.lt_or_ge k g with h | h
    · exact h3 g h hg2
    · obtain rfl : g = k := by omega
      exact hn
  · refine .inr ⟨h1, g, h2, by omega, h4, h5, fun j hj hj2 => ?_⟩
    rcases Nat.lt_or_ge k j with h | h
    · exact h6 j h hj2
    · obtain rfl : j = k := by omega
      exact hn
theorem ends_not {b : Barn} {g : Nat} (h : b.ends g) : ¬ Kpt (b.withG g).dsk b.state 1000000 := fun h2 => by
  obtain ⟨w, hw, h3⟩ := h
  exact hw (kpt_unique h3 h2)
theorem SpI.eq {b : Barn} {s e : Int} (h : SpI b 0 s e) (hc : b.check = 0) {v : Value} (hq : SpareQ b v) : v = .tuple #[.int .i64 s, .int .i64 e] := by
  rcases hq with ⟨h1, _⟩ | ⟨_, ⟨g, hg, hn, hk, rfl⟩ | ⟨hn, rfl⟩⟩
  · exact absurd hc h1
  · rcases h with ⟨rfl, rfl, h3⟩ | ⟨rfl, g2, rfl, _, h4, h5, h6⟩
    · exact absurd hk (ends_not (h3 g (Nat.zero_le _) hg))
    · rcases Nat.lt_trichotomy g g2 with h7 | h7 | h7
      · exact absurd hk (ends_not (h6 g (Nat.zero_le _) h7))
      · rw [h7]
      · exact absurd h5 (ends_not (hn g2 h7))
  · rcases h with ⟨rfl, rfl, h3⟩ | ⟨rfl, g2, rfl, _, h4, h5, h6⟩
    · rfl
    · exact absurd h5 (ends_not (hn g2 h4))
theorem Fn.toV {P : Program} {f : FuncId} {args : List Value} {v : Value} {H : Heap} {R : Facts} {Q : Value → Prop} (h : Fn P f args H R (fun u H' R' => Q u ∧ H' = H ∧ R' = R)) (hq : ∀ u, Q u → u = v) : FnV P f args H R v := fun w hw => by
  refine CallsIn.mono (h w hw) ?_
  rintro e' w' ⟨u, H', R', ⟨h1, h2, h3⟩, he, hs'⟩
  exact ⟨u, H', R', ⟨hq u h1, h2, h3⟩, he, hs'⟩
end Go.Proofs.Ytelegnmfhjfbaaa
