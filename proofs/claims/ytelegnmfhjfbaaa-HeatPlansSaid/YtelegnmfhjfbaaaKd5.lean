/- Walks of the functions of the program, and the laws that join them: what the last theorem of this claim needs, in order. -/
import Derived.Test.YtelegnmfhjfbaaaKd4
namespace Go.Proofs.Ytelegnmfhjfbaaa
set_option linter.unusedSimpArgs false
set_option linter.unusedVariables false
open Go
def longP (p : List (List Int)) : Bool := decide (24 < p.length) || p.any fun l => decide (8 < l.length)
theorem longP_no {p : List (List Int)} (h : longP p = false) : p.length ≤ 24 ∧ ∀ l ∈ p, l.length ≤ 8 := by
  unfold longP at h
  rw [Bool.or_eq_false_iff, decide_eq_false_iff_not, List.any_eq_false] at h
  exact ⟨by omega, fun l hl => by have := h.2 l hl; simp at this; omega⟩
theorem longP_hit {pl : List PL} {k : Nat} {x : PL} (hx : pl[k]? = some x) (h : 8 < x.l.length) : longP (lls pl) = true := by
  unfold longP
  rw [Bool.or_eq_true, List.any_eq_true]
  exact .inr ⟨x.l, List.mem_map.2 ⟨x, List.mem_of_getElem? hx, rfl⟩, decide_eq_true h⟩
theorem longP_miss {pl : List PL} (h1 : ¬ 24 < pl.length) (h : ∀ (i : Nat) (x : PL), pl[i]? = some x → ¬ 8 < x.l.length) : longP (lls pl) = false := by
  unfold longP
  rw [lls_len, decide_eq_false h1, Bool.false_or, List.any_eq_false]
  intro l hl
  obtain ⟨x, hx, rfl⟩ := List.mem_map.1 hl
  obtain ⟨i, hi, rfl⟩ := List.mem_iff_getElem.1 hx
  simpa using h i _ (List.getElem?_eq_getElem hi)
theorem c_long (pl : List PL) (ap : Option Addr) (cp : Nat) (hpl : pl.length ≤ 9223372036854775807) (hpi : ∀ x ∈ pl, x.l.length ≤ 9223372036854775807) (H : Heap) (R : Facts) [hP : MemRows ap 1 (plrows pl) R] [hI : MemF (Inn pl) R] :
    FnV Try.prog 17 [.slice ap pl.length cp] H R (.bool (longP (lls pl))) := by
 refine fn_of Try.func17 rfl Try.ntmps17 rfl ?_
 refine sy_seq ?_
 refine sy_tx' [0] rfl ?_
 refine sp rfl (PE.assign rfl) rfl ?_
 refine sy_seq ?_
 refine sy_seq ?_
 refine sy_tx' [0, 1, 2] rfl ?_
 refine sp rfl (PE.move rfl) rfl ?_
 refine sp rfl (PE.lenSl isl26 rfl) rfl ?_
 refine sp rfl (PE.gtr rfl rfl) rfl ?_
 refine sy_cond rfl (fun hc0 => ?_) (fun hc0 => ?_)
 try simp only [decide_eq_true_eq, decide_eq_false_iff_not, Bool.and_eq_true, Bool.or_eq_true, Bool.not_eq_true', Int.not_le, Int.not_lt] at hc0
 have hlg : longP (lls pl) = true := by unfold longP; rw [lls_len, decide_eq_true (by omega)]; rfl
 refine sy_seq ?_
 refine sy_tx' [0] rfl ?_
 refine sp rfl (PE.assign rfl) rfl ?_
 refine sy_ret ?_
 exact sy_return (vs := [_]) rfl (.cons (RV.tmp rfl) .nil) rfl ⟨by rw [hlg]; rfl, rfl, rfl⟩ (fun _ h => h)
 try simp only [decide_eq_true_eq, decide_eq_false_iff_not, Bool.and_eq_true, Bool.or_eq_true, Bool.not_eq_true', Int.not_le, Int.not_lt] at hc0
 refine sy_skip ?_
 refine sy_seq ?_
 refine sy_seq ?_
 refine sy_tx' [0, 1, 2] rfl ?_
 refine sp rfl (PE.move rfl) rfl ?_
 refine sp rfl (PE.lenSl isl26 rfl) rfl ?_
 refine sp rfl (PE.move rfl) rfl ?_
 refine sy_block ?_
 refine sy_loop (ι := {k : Nat // k ≤ pl.length ∧ ∀ i x, i < k → pl[i]? = some x → ¬ 8 < x.l.length}) (fun k => ⟨[(8, .slice ap pl.length cp), (9, .int .i64 pl.length), (10, .int .i64 k.1)], H, R⟩) (fun k => pl.length - k.1) ⟨0, Nat.zero_le _, fun i x hi => by omega⟩ ?_ (fun k => ?_)
 exact sy_at (by repeat' first | exact Sub.nil | apply Sub.cons | rfl | (simp [lk]; omega)) (fun _ h => h)
 obtain ⟨k, hk, hin⟩ := k
 dsimp only at hk hin ⊢
 refine sy_seq ?_
 refine sy_tx' [0] rfl ?_
 refine sp rfl (PE.lss rfl rfl) rfl ?_
 refine sy_seq ?_
 refine sy_cond rfl (fun hc1 => ?_) (fun hc1 => ?_)
 try simp only [decide_eq_true_eq, decide_eq_false_iff_not, Bool.and_eq_true, Bool.or_eq_true, Bool.not_eq_true', Int.not_le, Int.not_lt] at hc1
 obtain ⟨x, hx⟩ : ∃ x, pl[k]? = some x := ⟨_, List.getElem?_eq_getElem (by omega)⟩
 refine sy_addr (a := ap) (sz := 1) (rows := plrows pl) (by intro h0; have := congrArg List.length h0; rw [plrows_len] at this; simp only [List.length_nil] at this; omega) (fun ba oa he => ?_)
 subst he
 refine sy_skip ?_
 refine sy_seq ?_
 refine sy_block ?_
 refine sy_seq ?_
 refine sy_tx' [0, 1, 2] rfl ?_
 refine sp rfl (PE.indexAddr el26 rfl rfl (by omega) (by omega)) rfl ?_
 refine spL rfl rfl (lf0 sc40 (pl_get hx) rfl) rfl ?_
 refine sp rfl (PE.assign rfl) rfl ?_
 refine sy_seq ?_
 refine sy_tx' [0, 1, 2] rfl ?_
 refine sp rfl (PE.move rfl) rfl ?_
 refine sp rfl (PE.lenSl isl40 rfl) rfl ?_
 refine sp rfl (PE.gtr rfl rfl) rfl ?_
 refine sy_cond rfl (fun hc2 => ?_) (fun hc2 => ?_)
 try simp only [decide_eq_true_eq, decide_eq_false_iff_not, Bool.and_eq_true, Bool.or_eq_true, Bool.not_eq_true', Int.not_le, Int.not_lt] at hc2
 have hlg := longP_hit hx (by omega)
 refine sy_seq ?_
 refine sy_tx' [0] rfl ?_
 refine sp rfl (PE.assign rfl) rfl ?_
 refine sy_ret ?_
 exact sy_return (vs := [_]) rfl (.cons (RV.tmp rfl) .nil) rfl ⟨by rw [hlg]; rfl, rfl, rfl⟩ (fun _ h => h)
 try simp only [decide_eq_true_eq, decide_eq_false_iff_not, Bool.and_eq_true, Bool.or_eq_true, Bool.not_eq_true', Int.not_le, Int.not_lt] at hc2
 refine sy_skip ?_
 refine sy_tx' [0, 1] rfl ?_
 refine sp rfl (PE.add rfl rfl (by omega)) rfl ?_
 refine sp rfl (PE.move rfl) rfl ?_
 exact sy_next ⟨k + 1, by omega, fun i y hi hy => by
   rcases Nat.lt_or_ge i k with h3 | h3
   · exact hin i y h3 hy
   · obtain rfl : i = k := by omega
     rw [hx] at hy; cases hy; omega⟩ (by dsimp only; omega) (by repeat' first | exact Sub.nil | apply Sub.cons | rfl | (simp [lk]; omega)) (fun _ h => h)
 try simp only [decide_eq_true_eq, decide_eq_false_iff_not, Bool.and_eq_true, Bool.or_eq_true, Bool.not_eq_true', Int.not_le, Int.not_lt] at hc1
 obtain rfl : k = pl.length := by omega
 have hlg := longP_miss (pl := pl) (by omega) (fun i y hy => hin i y (List.getElem?_eq_some_iff.1 hy).1 hy)
 refine sy_exit ?_
 repeat refine sy_tx ?_
 refine sy_bx ?_
 refine sy_seq ?_
 refine sy_tx' [0] rfl ?_
 refine sp rfl (PE.assign rfl) rfl ?_
 refine sy_ret ?_
 exact sy_return (vs := [_]) rfl (.cons (RV.tmp rfl) .nil) rfl ⟨by rw [hlg]; rfl, rfl, rfl⟩ (fun _ h => h)
theorem c_has (xs : List Int) (a : Option Addr) (c : Nat) (v : Int) (hl : xs.length ≤ 9223372036854775807) (H : Heap) (R : Facts) [hR : MemRows a 1 (irows xs) R] :
    FnV Try.prog 73 [.slice a xs.length c, .int .i64 v] H R (.bool (xs.any fun x => decide (x = v))) := by
 refine fn_of Try.func73 rfl Try.ntmps73 rfl ?_
 refine sy_seq ?_
 refine sy_tx' [0] rfl ?_
 refine sp rfl (PE.assign rfl) rfl ?_
 refine sy_seq ?_
 refine sy_seq ?_
 refine sy_tx' [0] rfl ?_
 refine sp rfl (PE.assign rfl) rfl ?_
 refine sy_block ?_
 refine sy_loop (ι := {k : Nat // k ≤ xs.length ∧ ∀ i y, i < k → xs[i]? = some y → y ≠ v}) (fun k => ⟨[(0, .slice a xs.length c), (1, .int .i64 v), (5, .int .i64 k.1)], H, R⟩) (fun k => xs.length - k.1) ⟨0, Nat.zero_le _, fun i y hi => by omega⟩ ?_ (fun k => ?_)
 exact sy_at (by repeat' first | exact Sub.nil | apply Sub.cons | rfl | (simp [lk]; omega)) (fun _ h => h)
 obtain ⟨k, hk, hin⟩ := k
 dsimp only at hk hin ⊢
 refine sy_seq ?_
 refine sy_seq ?_
 refine sy_tx' [0, 1, 2, 3] rfl ?_
 refine sp rfl (PE.move rfl) rfl ?_
 refine sp rfl (PE.move rfl) rfl ?_
 refine sp rfl (PE.lenSl isl40 rfl) rfl ?_
 refine sp rfl (PE.lss rfl rfl) rfl ?_
 refine sy_cond rfl (fun hc0 => ?_) (fun hc0 => ?_)
 try simp only [decide_eq_true_eq, decide_eq_false_iff_not, Bool.and_eq_true, Bool.or_eq_true, Bool.not_eq_true', Int.not_le, Int.not_lt] at hc0
 obtain ⟨x, hx⟩ : ∃ x, xs[k]? = some x := ⟨_, List.getElem?_eq_getElem (by omega)⟩
 refine sy_addr (a := a) (sz := 1) (rows := irows xs) (by intro h0; have := congrArg List.length h0; rw [irows_len] at this; simp only [List.length_nil] at this; omega) (fun ba oa he => ?_)
 subst he
 refine sy_skip ?_
 refine sy_seq ?_
 refine sy_block ?_
 refine sy_seq ?_
 refine sy_tx' [0, 1, 2, 3, 4, 5] rfl ?_
 refine sp rfl (PE.move rfl) rfl ?_
 refine sp rfl (PE.move rfl) rfl ?_
 refine sp rfl (PE.indexAddr el40 rfl rfl (by omega) (by omega)) rfl ?_
 refine spL rfl rfl (lf0 sc3 (ir_get hx) rfl) rfl ?_
 refine sp rfl (PE.move rfl) rfl ?_
 refine sp rfl (PE.eql rfl rfl) rfl ?_
 refine sy_cond rfl (fun hc1 => ?_) (fun hc1 => ?_)
 try simp only [decide_eq_true_eq, decide_eq_false_iff_not, Bool.and_eq_true, Bool.or_eq_true, Bool.not_eq_true', Int.not_le, Int.not_lt] at hc1
 have hbn : (xs.any fun x => decide (x = v)) = true := List.any_eq_true.2 ⟨x, List.mem_of_getElem? hx, decide_eq_true hc1⟩
 refine sy_seq ?_
 refine sy_tx' [0] rfl ?_
 refine sp rfl (PE.assign rfl) rfl ?_
 refine sy_ret ?_
 exact sy_return (vs := [_]) rfl (.cons (RV.tmp rfl) .nil) rfl ⟨by rw [hbn]; rfl, rfl, rfl⟩ (fun _ h => h)
 try simp only [decide_eq_true_eq, decide_eq_false_iff_not, Bool.and_eq_true, Bool.or_eq_true, Bool.not_eq_true', Int.not_le, Int.not_lt] at hc1
 refine sy_skip ?_
 refine sy_tx' [0, 1, 2] rfl ?_
 refine sp rfl (PE.move rfl) rfl ?_
 refine sp rfl (PE.add rfl rfl (by omega)) rfl ?_
 refine sp rfl (PE.assign rfl) rfl ?_
 exact sy_next ⟨k + 1, by omega, fun i y hi hy => by
   rcases Nat.lt_or_ge i k with h3 | h3
   · exact hin i y h3 hy
   · obtain rfl : i = k := by omega
     rw [hx] at hy; cases hy; exact hc1⟩ (by dsimp only; omega) (by repeat' first | exact Sub.nil | apply Sub.cons | rfl | (simp [lk]; omega)) (fun _ h => h)
 try simp only [decide_eq_true_eq, decide_eq_false_iff_not, Bool.and_eq_true, Bool.or_eq_true, Bool.not_eq_true', Int.not_le, Int.not_lt] at hc0
 obtain rfl : k = xs.length := by omega
 have hbn : (xs.any fun x => decide (x = v)) = false := by
   rw [List.any_eq_false]; intro y hy
   obtain ⟨i, hi, rfl⟩ := List.mem_iff_getElem.1 hy
   simpa using hin i _ hi (List.getElem?_eq_getElem hi)
 refine sy_exit ?_
 repeat refine sy_tx ?_
 refine sy_bx ?_
 refine sy_seq ?_
 refine sy_tx' [0] rfl ?_
 refine sp rfl (PE.assign rfl) rfl ?_
 refine sy_ret ?_
 exact sy_return (vs := [_]) rfl (.cons (RV.tmp rfl) .nil) rfl ⟨by rw [hbn]; rfl, rfl, rfl⟩ (fun _ h => h)
theorem c_rPlanned (b : Barn) (ab : Option Addr) (cb : Nat) (hl : b.bins.length ≤ 9223372036854775807) (pl : List PL) (ap : Option Addr) (cp : Nat) (hpl : pl.length ≤ 9223372036854775807) (hpi : ∀ x ∈ pl, x.l.length ≤ 9223372036854775807) (H : Heap) (R : Facts) [hP : MemRows ap 1 (plrows pl) R] [hI : MemF (Inn pl) R] :
    FnV Try.prog 23 [b.v (b.sl ab cb), .slice ap pl.length cp] H R (.int .i64 (planErr ((b.bins.length : Int)) b.gangs (lls pl))) := by
 refine fn_of Try.func23 rfl Try.ntmps23 rfl ?_
 refine sy_seq ?_
 refine sy_tx' [0, 1] rfl ?_
 refine bx rfl rfl rfl (fun b2 => ?_)
 refine sp rfl (PE.assign rfl) rfl ?_
 refine sy_seq ?_
 refine sy_seq ?_
 refine sy_tx' [0, 1, 2] rfl ?_
 refine sp rfl (PE.move rfl) rfl ?_
 refine sp rfl (PE.lenSl isl26 rfl) rfl ?_
 refine sp rfl (PE.gtr rfl rfl) rfl ?_
 refine sy_cond rfl (fun hc0 => ?_) (fun hc0 => ?_)
 try simp only [decide_eq_true_eq, decide_eq_false_iff_not, Bool.and_eq_true, Bool.or_eq_true, Bool.not_eq_true', Int.not_le, Int.not_lt] at hc0
 have e : planErr ((b.bins.length : Int)) b.gangs (lls pl) = 2 := by unfold planErr; rw [lls_len, decide_eq_true (by omega)]; rfl
 refine sy_seq ?_
 refine sy_tx' [0] rfl ?_
 refine sp rfl (PE.assign rfl) rfl ?_
 refine sy_ret ?_
 exact sy_return (vs := [_]) rfl (.cons (RV.tmp rfl) .nil) rfl ⟨by first | (rw [e, e2]; rfl) | (rw [e]; rfl), rfl, rfl⟩ (fun w h => by first | exact St.sub (h.del b2) | skip)
 try simp only [decide_eq_true_eq, decide_eq_false_iff_not, Bool.and_eq_true, Bool.or_eq_true, Bool.not_eq_true', Int.not_le, Int.not_lt] at hc0
 have e : planErr ((b.bins.length : Int)) b.gangs (lls pl) = daysErr ((b.bins.length : Int)) b.gangs (lls pl) := by unfold planErr; rw [lls_len, decide_eq_false (by omega)]; rfl
 refine sy_skip ?_
 refine sy_seq ?_
 refine sy_seq ?_
 refine sy_tx' [0] rfl ?_
 refine sp rfl (PE.assign rfl) rfl ?_
 refine sy_block ?_
 refine sy_loop (ι := {k : Nat // k ≤ pl.length ∧ daysErr ((b.bins.length : Int)) b.gangs (lls pl) = daysErr ((b.bins.length : Int)) b.gangs ((lls pl).drop k)}) (fun k => ⟨[(1, .slice ap pl.length cp), (2, .pointer (some ⟨b2, 0, none⟩)), (5, .int .i64 k.1)], (b2, cel 33 (btl b (b.sl ab cb))) :: H, R⟩) (fun k => pl.length - k.1) ⟨0, Nat.zero_le _, rfl⟩ ?_ (fun k => ?_)
 exact sy_at (by repeat' first | exact Sub.nil | apply Sub.cons | rfl | (simp [lk]; omega)) (fun _ h => h)
 obtain ⟨k, hk, hke⟩ := k
 dsimp only at hk hke ⊢
 refine sy_seq ?_
 refine sy_seq ?_
 refine sy_tx' [0, 1, 2, 3] rfl ?_
 refine sp rfl (PE.move rfl) rfl ?_
 refine sp rfl (PE.move rfl) rfl ?_
 refine sp rfl (PE.lenSl isl26 rfl) rfl ?_
 refine sp rfl (PE.lss rfl rfl) rfl ?_
 refine sy_cond rfl (fun hc1 => ?_) (fun hc1 => ?_)
 try simp only [decide_eq_true_eq, decide_eq_false_iff_not, Bool.and_eq_true, Bool.or_eq_true, Bool.not_eq_true', Int.not_le, Int.not_lt] at hc1
 obtain ⟨x, hx⟩ : ∃ x, pl[k]? = some x := ⟨_, List.getElem?_eq_getElem (by omega)⟩
 have hxm := List.mem_of_getElem? hx
 have hxl := hpi x hxm
 rw [daysErr_drop (lls_get hx)] at hke
 refine sy_addr (a := ap) (sz := 1) (rows := plrows pl) (by intro h0; have := congrArg List.length h0; rw [plrows_len] at this; simp only [List.length_nil] at this; omega) (fun ba oa he => ?_)
 subst he
 refine Sy.heap (fun w h => St.inn (x := x) h hxm) ?_
 refine sy_skip ?_
 refine sy_seq ?_
 refine sy_block ?_
 refine sy_seq ?_
 refine sy_seq ?_
 refine sy_tx' [0] rfl ?_
 refine sp rfl (PE.assign rfl) rfl ?_
 refine sy_block ?_
 refine sy_loop (ι := {i : Nat // i ≤ x.l.length ∧ ∀ j u, j < i → x.l[j]? = some u → inB u 0 (((b.bins.length : Int)) - 1) = true}) (fun i => ⟨[(1, .slice (some ⟨ba, oa, none⟩) pl.length cp), (2, .pointer (some ⟨b2, 0, none⟩)), (5, .int .i64 k), (6, .int .i64 i.1)], (b2, cel 33 (btl b (b.sl ab cb))) :: H, RowsA x.a 1 (irows x.l) :: R⟩) (fun i => x.l.length - i.1) ⟨0, Nat.zero_le _, fun j u hj => by omega⟩ ?_ (fun i => ?_)
 exact sy_at (by repeat' first | exact Sub.nil | apply Sub.cons | rfl | (simp [lk]; omega)) (fun _ h => h)
 obtain ⟨i, hi, his⟩ := i
 dsimp only at hi his ⊢
 refine sy_seq ?_
 refine sy_seq ?_
 refine sy_tx' [0, 1, 2, 3, 4, 5, 6] rfl ?_
 refine sp rfl (PE.move rfl) rfl ?_
 refine sp rfl (PE.move rfl) rfl ?_
 refine sp rfl (PE.move rfl) rfl ?_
 refine sp rfl (PE.indexAddr el26 rfl rfl (by omega) (by omega)) rfl ?_
 refine spL rfl rfl (lf0 sc40 (pl_get hx) rfl) rfl ?_
 refine sp rfl (PE.lenSl isl40 rfl) rfl ?_
 refine sp rfl (PE.lss rfl rfl) rfl ?_
 refine sy_cond rfl (fun hc2 => ?_) (fun hc2 => ?_)
 try simp only [decide_eq_true_eq, decide_eq_false_iff_not, Bool.and_eq_true, Bool.or_eq_true, Bool.not_eq_true', Int.not_le, Int.not_lt] at hc2
 obtain ⟨u, hu⟩ : ∃ u, x.l[i]? = some u := ⟨_, List.getElem?_eq_getElem (by omega)⟩
 refine sy_addr (a := x.a) (sz := 1) (rows := irows x.l) (by intro h0; have := congrArg List.length h0; rw [irows_len] at this; simp only [List.length_nil] at this; omega) (fun bx ox he => ?_)
 rw [he]
 refine sy_skip ?_
 refine sy_seq ?_
 refine sy_block ?_
 refine sy_seq ?_
 refine sy_draw [0, 0, 3, 7, 0, 31, 63, 0, 128, 384, 896, 2047] (.tk 0 (.tk 1 (.tk 2 (.ld 3 (.tk 4 (.tk 5 (.ld 6 (.tk 7 (.ld 8 (.tk 9 (.tk 10 (.big 11 .done)))))))))))) mixed (by kernel_rfl) ?_
 refine tk rfl (PE.move rfl) rfl ?_
 refine tk rfl (PE.move rfl) rfl ?_
 refine tk rfl (PE.indexAddr el26 rfl rfl (by omega) (by omega)) rfl ?_
 refine ld rfl rfl (lf0 (row := [.slice (some ⟨bx, ox, none⟩) x.l.length x.c]) sc40 (by refine (pl_get hx).trans ?_; unfold plrow; rw [he]) rfl) rfl ?_
 refine tk rfl (PE.move rfl) rfl ?_
 refine tk rfl (PE.indexAddr el40 rfl rfl (by omega) (by omega)) rfl ?_
 refine ld rfl rfl (lf0 sc3 (ir_get hu) rfl) rfl ?_
 refine tk rfl (PE.fieldAddr fo33_3 rfl) rfl ?_
 refine ld rfl rfl (lh sc31 rfl rfl) rfl ?_
 refine tk rfl (PE.lenSl isl31 rfl) rfl ?_
 refine tk rfl (PE.sub rfl rfl (by omega)) rfl ?_
 refine clV rfl cal72 rfl rfl (c_off _ _ _ _ _) ?_
 refine bg (fun w hs => ⟨trivial, trivial, trivial, trivial⟩) ?_
 refine sy_cond rfl (fun hc3 => ?_) (fun hc3 => ?_)
 have hal : (x.l.all fun k => inB k 0 (((b.bins.length : Int)) - 1)) = false := by rw [List.all_eq_false]; rw [nin_in, Bool.not_eq_true'] at hc3; exact ⟨u, List.mem_of_getElem? hu, by rw [hc3]; decide⟩
 have ed : dayErr ((b.bins.length : Int)) b.gangs x.l = 1 := by unfold dayErr; rw [hal]; rfl
 rw [ed] at hke
 have e2 : daysErr ((b.bins.length : Int)) b.gangs (lls pl) = 1 := hke
 refine sy_seq ?_
 refine sy_tx' [0] rfl ?_
 refine sp rfl (PE.assign rfl) rfl ?_
 refine sy_ret ?_
 exact sy_return (vs := [_]) rfl (.cons (RV.tmp rfl) .nil) rfl ⟨by first | (rw [e, e2]; rfl) | (rw [e]; rfl), rfl, rfl⟩ (fun w h => by first | exact St.sub (h.del b2) | skip)
 rw [nin_in, Bool.not_eq_false'] at hc3
 refine sy_skip ?_
 refine sy_tx' [0, 1, 2] rfl ?_
 refine sp rfl (PE.move rfl) rfl ?_
 refine sp rfl (PE.add rfl rfl (by omega)) rfl ?_
 refine sp rfl (PE.assign rfl) rfl ?_
 exact sy_next ⟨i + 1, by omega, fun j w hj hw => by
   rcases Nat.lt_or_ge j i with h3 | h3
   · exact his j w h3 hw
   · obtain rfl : j = i := by omega
     rw [hu] at hw; cases hw; exact hc3⟩ (by dsimp only; omega) (by repeat' first | exact Sub.nil | apply Sub.cons | rfl | (simp [lk]; omega)) (fun _ h => h)
 try simp only [decide_eq_true_eq, decide_eq_false_iff_not, Bool.and_eq_true, Bool.or_eq_true, Bool.not_eq_true', Int.not_le, Int.not_lt] at hc2
 obtain rfl : i = x.l.length := by omega
 have hal : (x.l.all fun k => inB k 0 (((b.bins.length : Int)) - 1)) = true := by
   rw [List.all_eq_true]; intro y hy
   obtain ⟨j, hj, rfl⟩ := List.mem_iff_getElem.1 hy
   exact his j _ hj (List.getElem?_eq_getElem hj)
 refine sy_exit ?_
 repeat refine sy_tx ?_
 refine sy_bx ?_
 refine sy_seq ?_
 refine sy_seq ?_
 refine sy_tx' [0] rfl ?_
 refine sp rfl (PE.assign rfl) rfl ?_
 refine sy_block ?_
 refine sy_loop (ι := {i : Nat // 1 ≤ i ∧ i ≤ x.l.length + 1 ∧ ∀ j u v, j + 1 < i → x.l[j]? = some u → x.l[j + 1]? = some v → u < v}) (fun i => ⟨[(1, .slice (some ⟨ba, oa, none⟩) pl.length cp), (2, .pointer (some ⟨b2, 0, none⟩)), (5, .int .i64 k), (7, .int .i64 i.1)], (b2, cel 33 (btl b (b.sl ab cb))) :: H, RowsA x.a 1 (irows x.l) :: R⟩) (fun i => x.l.length + 1 - i.1) ⟨1, Nat.le_refl _, by omega, fun j u v hj => by omega⟩ ?_ (fun i => ?_)
 exact sy_at (by repeat' first | exact Sub.nil | apply Sub.cons | rfl | (simp [lk]; omega)) (fun _ h => h)
 obtain ⟨i, hi1, hi2, his2⟩ := i
 dsimp only at hi1 hi2 his2 ⊢
 refine sy_seq ?_
 refine sy_seq ?_
 refine sy_tx' [0, 1, 2, 3, 4, 5, 6] rfl ?_
 refine sp rfl (PE.move rfl) rfl ?_
 refine sp rfl (PE.move rfl) rfl ?_
 refine sp rfl (PE.move rfl) rfl ?_
 refine sp rfl (PE.indexAddr el26 rfl rfl (by omega) (by omega)) rfl ?_
 refine spL rfl rfl (lf0 sc40 (pl_get hx) rfl) rfl ?_
 refine sp rfl (PE.lenSl isl40 rfl) rfl ?_
 refine sp rfl (PE.lss rfl rfl) rfl ?_
 refine sy_cond rfl (fun hc4 => ?_) (fun hc4 => ?_)
 try simp only [decide_eq_true_eq, decide_eq_false_iff_not, Bool.and_eq_true, Bool.or_eq_true, Bool.not_eq_true', Int.not_le, Int.not_lt] at hc4
 obtain ⟨u, hu⟩ : ∃ u, x.l[i - 1]? = some u := ⟨_, List.getElem?_eq_getElem (by omega)⟩
 obtain ⟨v, hv⟩ : ∃ v, x.l[i]? = some v := ⟨_, List.getElem?_eq_getElem (by omega)⟩
 have hv' : x.l[i - 1 + 1]? = some v := by rw [Nat.sub_add_cancel hi1]; exact hv
 refine sy_addr (a := x.a) (sz := 1) (rows := irows x.l) (by intro h0; have := congrArg List.length h0; rw [irows_len] at this; simp only [List.length_nil] at this; omega) (fun bx ox he => ?_)
 rw [he]
 refine sy_skip ?_
 refine sy_seq ?_
 refine sy_block ?_
 refine sy_seq ?_
 refine sy_draw [0, 0, 3, 7, 0, 31, 63, 0, 0, 384, 896, 0, 2048, 8064, 16256, 32767] (.tk 0 (.tk 1 (.tk 2 (.ld 3 (.tk 4 (.tk 5 (.ld 6 (.tk 7 (.tk 8 (.tk 9 (.ld 10 (.tk 11 (.tk 12 (.tk 13 (.ld 14 (.tk 15 .done)))))))))))))))) mixed (by kernel_rfl) ?_
 refine tk rfl (PE.move rfl) rfl ?_
 refine tk rfl (PE.move rfl) rfl ?_
 refine tk rfl (PE.indexAddr el26 rfl rfl (by omega) (by omega)) rfl ?_
 refine ld rfl rfl (lf0 (row := [.slice (some ⟨bx, ox, none⟩) x.l.length x.c]) sc40 (by refine (pl_get hx).trans ?_; unfold plrow; rw [he]) rfl) rfl ?_
 refine tk rfl (PE.move rfl) rfl ?_
 refine tk rfl (PE.indexAddr el40 rfl rfl (by omega) (by omega)) rfl ?_
 refine ld rfl rfl (lf0 sc3 (ir_get hv) rfl) rfl ?_
 refine tk rfl (PE.move rfl) rfl ?_
 refine tk rfl (PE.move rfl) rfl ?_
 refine tk rfl (PE.indexAddr el26 rfl rfl (by omega) (by omega)) rfl ?_
 refine ld rfl rfl (lf0 (row := [.slice (some ⟨bx, ox, none⟩) x.l.length x.c]) sc40 (by refine (pl_get hx).trans ?_; unfold plrow; rw [he]) rfl) rfl ?_
 refine tk rfl (PE.move rfl) rfl ?_
 refine tk rfl (PE.sub rfl rfl (by omega)) rfl ?_
 refine tk rfl (PE.indexAddr el40 rfl rfl (by omega) (by omega)) rfl ?_
 refine ld rfl rfl (lf0 (row := [.int .i64 u]) sc3 (by rw [show ((i : Int) - 1).toNat = i - 1 by omega]; exact ir_get hu) rfl) rfl ?_
 refine tk rfl (PE.leq rfl rfl) rfl ?_
 refine sy_cond rfl (fun hc5 => ?_) (fun hc5 => ?_)
 try simp only [decide_eq_true_eq, decide_eq_false_iff_not, Bool.and_eq_true, Bool.or_eq_true, Bool.not_eq_true', Int.not_le, Int.not_lt] at hc5
 have ed : dayErr ((b.bins.length : Int)) b.gangs x.l = 4 := by unfold dayErr; rw [hal, sinc_no hu hv' hc5]; rfl
 rw [ed] at hke
 have e2 : daysErr ((b.bins.length : Int)) b.gangs (lls pl) = 4 := hke
 refine sy_seq ?_
 refine sy_tx' [0] rfl ?_
 refine sp rfl (PE.assign rfl) rfl ?_
 refine sy_ret ?_
 exact sy_return (vs := [_]) rfl (.cons (RV.tmp rfl) .nil) rfl ⟨by first | (rw [e, e2]; rfl) | (rw [e]; rfl), rfl, rfl⟩ (fun w h => by first | exact St.sub (h.del b2) | skip)
 try simp only [decide_eq_true_eq, decide_eq_false_iff_not, Bool.and_eq_true, Bool.or_eq_true, Bool.not_eq_true', Int.not_le, Int.not_lt] at hc5
 refine sy_skip ?_
 refine sy_tx' [0, 1, 2] rfl ?_
 refine sp rfl (PE.move rfl) rfl ?_
 refine sp rfl (PE.add rfl rfl (by omega)) rfl ?_
 refine sp rfl (PE.assign rfl) rfl ?_
 exact sy_next ⟨i + 1, by omega, by omega, fun j u' v' hj hu' hv2 => by
   rcases Nat.lt_or_ge (j + 1) i with h1 | h1
   · exact his2 j u' v' h1 hu' hv2
   · obtain rfl : j = i - 1 := by omega
     rw [hu] at hu'; rw [hv'] at hv2; cases hu'; cases hv2; omega⟩ (by dsimp only; omega) (by repeat' first | exact Sub.nil | apply Sub.cons | rfl | (simp [lk]; omega)) (fun _ h => h)
 try simp only [decide_eq_true_eq, decide_eq_false_iff_not, Bool.and_eq_true, Bool.or_eq_true, Bool.not_eq_true', Int.not_le, Int.not_lt] at hc4
 have hsi : sinc x.l = true := sinc_yes fun j u v hu hv => his2 j u v (by have := (List.getElem?_eq_some_iff.1 hv).1; omega) hu hv
 refine sy_exit ?_
 repeat refine sy_tx ?_
 refine sy_bx ?_
 refine sy_seq ?_
 refine sy_draw [0, 0, 3, 7, 15, 0, 32, 127] (.tk 0 (.tk 1 (.tk 2 (.ld 3 (.tk 4 (.tk 5 (.ld 6 (.tk 7 .done)))))))) mixed (by kernel_rfl) ?_
 refine tk rfl (PE.move rfl) rfl ?_
 refine tk rfl (PE.move rfl) rfl ?_
 refine tk rfl (PE.indexAddr el26 rfl rfl (by omega) (by omega)) rfl ?_
 refine ld rfl rfl (lf0 sc40 (pl_get hx) rfl) rfl ?_
 refine tk rfl (PE.lenSl isl40 rfl) rfl ?_
 refine tk rfl (PE.fieldAddr fo33_1 rfl) rfl ?_
 refine ld rfl rfl (lh sc3 rfl rfl) rfl ?_
 refine tk rfl (PE.gtr rfl rfl) rfl ?_
 refine sy_cond rfl (fun hc6 => ?_) (fun hc6 => ?_)
 try simp only [decide_eq_true_eq, decide_eq_false_iff_not, Bool.and_eq_true, Bool.or_eq_true, Bool.not_eq_true', Int.not_le, Int.not_lt] at hc6
 have ed : dayErr ((b.bins.length : Int)) b.gangs x.l = 9 := by unfold dayErr; rw [hal, hsi, decide_eq_true hc6]; rfl
 rw [ed] at hke
 have e2 : daysErr ((b.bins.length : Int)) b.gangs (lls pl) = 9 := hke
 refine sy_seq ?_
 refine sy_tx' [0] rfl ?_
 refine sp rfl (PE.assign rfl) rfl ?_
 refine sy_ret ?_
 exact sy_return (vs := [_]) rfl (.cons (RV.tmp rfl) .nil) rfl ⟨by first | (rw [e, e2]; rfl) | (rw [e]; rfl), rfl, rfl⟩ (fun w h => by first | exact St.sub (h.del b2) | skip)
 try simp only [decide_eq_true_eq, decide_eq_false_iff_not, Bool.and_eq_true, Bool.or_eq_true, Bool.not_eq_true', Int.not_le, Int.not_lt] at hc6
 have ed : dayErr ((b.bins.length : Int)) b.gangs x.l = 0 := by unfold dayErr; rw [hal, hsi, decide_eq_false (by omega)]; rfl
 rw [ed] at hke
 refine sy_skip ?_
 refine sy_tx' [0, 1, 2] rfl ?_
 refine sp rfl (PE.move rfl) rfl ?_
 refine sp rfl (PE.add rfl rfl (by omega)) rfl ?_
 refine sp rfl (PE.assign rfl) rfl ?_
 exact sy_next ⟨k + 1, by omega, hke⟩ (by dsimp only; omega) (by repeat' first | exact Sub.nil | apply Sub.cons | rfl | (simp [lk]; omega)) (fun w h => h.ftail)
 try simp only [decide_eq_true_eq, decide_eq_false_iff_not, Bool.and_eq_true, Bool.or_eq_true, Bool.not_eq_true', Int.not_le, Int.not_lt] at hc1
 obtain rfl : k = pl.length := by omega
 rw [show (lls pl).drop pl.length = [] by rw [List.drop_eq_nil_iff, lls_len]; exact Nat.le_refl _] at hke
 have e2 : daysErr ((b.bins.length : Int)) b.gangs (lls pl) = 0 := hke
 refine sy_exit ?_
 repeat refine sy_tx ?_
 refine sy_bx ?_
 refine sy_seq ?_
 refine sy_tx' [0] rfl ?_
 refine sp rfl (PE.assign rfl) rfl ?_
 refine sy_ret ?_
 exact sy_return (vs := [_]) rfl (.cons (RV.tmp rfl) .nil) rfl ⟨by first | (rw [e, e2]; rfl) | (rw [e]; rfl), rfl, rfl⟩ (fun w h => by first | exact St.sub (h.del b2) | skip)
end Go.Proofs.Ytelegnmfhjfbaaa
namespace Go.Proofs.Ytelegnmfhjfbaaa
set_option linter.unusedSimpArgs false
set_option linter.unusedVariables false
open Go
theorem cal24 : cal Try.prog 24 = true := by kernel_rfl
theorem cal57 : cal Try.prog 57 = true := by kernel_rfl
theorem cal73 : cal Try.prog 73 = true := by kernel_rfl
theorem cal82 : cal Try.prog 82 = true := by kernel_rfl
theorem wst_mono {c r s k : Int} (hr : r ≤ s) : ∀ (p : List (List Int)) (w v : Int), w ≤ v → wst c r k w p ≤ wst c s k v p
  | [], _, _, h => h
  | l :: p, w, v, h => by
    unfold wst
    refine wst_mono hr p _ _ ?_
    cases hasI l k <;> simp only [cond_true, cond_false] <;> omega
theorem srt_le {l : List Int} (h : srt l = true) {i : Nat} : ∀ {j : Nat}, i ≤ j → j < l.length → na l i ≤ na l j
  | 0, hij, hj => by obtain rfl : i = 0 := by omega
                     exact Int.le_refl _
  | j + 1, hij, hj => by
    rcases Nat.lt_or_ge j i with h1 | h1
    · obtain rfl : i = j + 1 := by omega
      exact Int.le_refl _
    · have ih := srt_le h (j := j) h1 (by omega)
      have : ¬ (na l (j + 1) < na l j) := fun hlt => by
        have := not_srt (na_get (by omega)) (na_get hj) hlt
        rw [h] at this; cases this
      omega
def wL (c r k w : Int) (p : List (List Int)) (n : Nat) : List Int := (List.range n).map fun d => wst c r k w (p.take (d + 1))
theorem wL_len (c r k w : Int) (p : List (List Int)) (n : Nat) : (wL c r k w p n).length = n := by simp [wL]
theorem wL_get {c r k w : Int} {p : List (List Int)} {n d : Nat} (h : d < n) : (wL c r k w p n)[d]? = some (wst c r k w (p.take (d + 1))) := by
  unfold wL; rw [List.getElem?_map, List.getElem?_range h]; rfl
theorem wL_snoc (c r k w : Int) (p : List (List Int)) (n : Nat) : wL c r k w p (n + 1) = wL c r k w p n ++ [wst c r k w (p.take (n + 1))] := by
  unfold wL; rw [List.range_succ, List.map_append]; rfl
theorem has_I (l : List Int) (k : Int) : (l.any fun x => decide (x = k)) = hasI l k := by
  unfold hasI; congr 1; funext x; exact decide_eq_decide.2 eq_comm
def Barn.binD (b : Barn) (k : Nat) : HBin := b.bins.getD k hb0
def hotc (b : Barn) (p : List (List Int)) (k : Nat) (c : Int) (d : Nat) : Prop := (b.binD k).mark < wst b.cool (na b.rise c.toNat) k (b.binD k).warm (p.take (d + 1))
structure Bst (S : Nat → Nat → Prop) (q : Nat × Nat × Bool) : Prop where
  no : q.2.2 = false → q.1 = 0 ∧ q.2.1 = 0 ∧ ∀ k d, ¬ S k d
  yes : q.2.2 = true → S q.2.1 q.1 ∧ ∀ k d, S k d → q.1 < d ∨ (q.1 = d ∧ q.2.1 ≤ k)
theorem Bst.iff {S S' : Nat → Nat → Prop} {q : Nat × Nat × Bool} (h : Bst S q) (e : ∀ k d, S' k d ↔ S k d) : Bst S' q := by
  have : S' = S := by funext k d; exact propext (e k d)
  exact this ▸ h
theorem Bst.add {S S' : Nat → Nat → Prop} {q : Nat × Nat × Bool} {k e : Nat} (h : Bst S q) (hS : ∀ j d, S' j d ↔ S j d ∨ (j = k ∧ d = e)) (hq : q.2.2 = false ∨ e < q.1) : Bst S' (e, k, true) where
  no h := by cases h
  yes _ := ⟨(hS _ _).2 (.inr ⟨rfl, rfl⟩), fun j d hj => by
    rcases (hS j d).1 hj with h1 | ⟨rfl, rfl⟩
    · cases hb : q.2.2 with
      | false => exact absurd h1 ((h.no hb).2.2 j d)
      | true =>
        have := (h.yes hb).2 j d h1
        rcases hq with hq | hq
        · rw [hb] at hq; cases hq
        · exact .inl (by show e < d; omega)
    · exact .inr ⟨rfl, Nat.le_refl _⟩⟩
theorem Bst.keep {S S' : Nat → Nat → Prop} {q : Nat × Nat × Bool} {k e : Nat} (h : Bst S q) (hle : ∀ j d, S j d → j ≤ k) (hS : ∀ j d, S' j d ↔ S j d ∨ (j = k ∧ d = e)) (hq : q.2.2 = true) (hq2 : ¬ e < q.1) : Bst S' q where
  no h := by rw [hq] at h; cases h
  yes _ := by
    obtain ⟨h1, h2⟩ := h.yes hq
    refine ⟨(hS _ _).2 (.inl h1), fun j d hj => ?_⟩
    rcases (hS j d).1 hj with h3 | ⟨rfl, rfl⟩
    · exact h2 j d h3
    · have := hle _ _ h1
      omega
def hotW (b : Barn) (ws : List Int) (p : List (List Int)) (k d : Nat) : Prop := (b.binD k).mark < wst b.cool (b.worst (b.binD k)) k (na ws k) (p.take (d + 1))
theorem Barn.burns_spec {b : Barn} : ∀ (p : List (List Int)) (ws : List Int) (d0 : Nat), ((b.burnsF ws p d0).1 = none ∧ ∀ k < b.bins.length, ∀ d < p.length, ¬ hotW b ws p k d) ∨
    ∃ k e : Nat, (b.burnsF ws p d0).1 = some (d0 + e, k) ∧ k < b.bins.length ∧ e < p.length ∧ hotW b ws p k e ∧ ∀ j < b.bins.length, ∀ d < p.length, hotW b ws p j d → e < d ∨ (e = d ∧ k ≤ j)
  | [], ws, d0 => .inl ⟨rfl, fun k _ d hd => absurd hd (Nat.not_lt_zero _)⟩
  | l :: p, ws, d0 => by
    have h0 : ∀ k, hotW b ws (l :: p) k 0 ↔ b.hotAt ws l k = true := fun k => by
      unfold hotW Barn.hotAt
      rw [decide_eq_true_eq]; exact Iff.rfl
    have h1 : ∀ k d, k < b.bins.length → (hotW b ws (l :: p) k (d + 1) ↔ hotW b (b.dayW ws l) p k d) := fun k d hk => by
      unfold hotW
      rw [na_at (b.dayW_at (ws := ws) (l := l) hk), List.take_succ_cons]
      exact Iff.rfl
    rw [b.burns_cons]
    cases hf : (List.range b.bins.length).find? (b.hotAt ws l) with
    | some k =>
      rw [List.find?_range_eq_some] at hf
      obtain ⟨f1, f2, f3⟩ := hf
      have f2 := List.mem_range.1 f2
      refine .inr ⟨k, 0, rfl, f2, by simp, (h0 k).2 f1, fun j hj d hd hh => ?_⟩
      cases d with
      | succ d => exact .inl (by omega)
      | zero =>
        refine .inr ⟨rfl, ?_⟩
        rcases Nat.lt_or_ge j k with h4 | h4
        · have := f3 j h4
          rw [(h0 j).1 hh] at this; cases this
        · exact h4
    | none =>
      dsimp only
      have hn : ∀ k < b.bins.length, ¬ hotW b ws (l :: p) k 0 := fun k hk hh => by
        have := List.find?_eq_none.1 hf k (List.mem_range.2 hk)
        exact this ((h0 k).1 hh)
      rcases burns_spec p (b.dayW ws l) (d0 + 1) with ⟨i1, i2⟩ | ⟨k, e, i1, i2, i3, i4, i5⟩
      · refine .inl ⟨i1, fun k hk d hd hh => ?_⟩
        cases d with
        | zero => exact hn k hk hh
        | succ d => exact i2 k hk d (by simpa using hd) ((h1 k d hk).1 hh)
      · refine .inr ⟨k, e + 1, by rw [i1]; congr 2; omega, i2, by simpa using i3, (h1 k e i2).2 i4, fun j hj d hd hh => ?_⟩
        cases d with
        | zero => exact absurd hh (hn j hj)
        | succ d =>
          have := i5 j hj d (by simpa using hd) ((h1 j d hj).1 hh)
          omega
def brnQ (b : Barn) (p : List (List Int)) : Nat × Nat × Bool := match (b.burnsF b.warms p 0).1 with
  | none => (0, 0, false)
  | some (d, k) => (d, k, true)
theorem Bst.burns {b : Barn} (hb : b.ok) {p : List (List Int)} {q : Nat × Nat × Bool} (h : Bst (fun k d => k < b.bins.length ∧ d < p.length ∧ ∃ c, (b.binD k).lo ≤ c ∧ c ≤ (b.binD k).hi ∧ hotc b p k c d) q) : q = brnQ b p := by
  have hS : ∀ k d, (k < b.bins.length ∧ d < p.length ∧ hotW b b.warms p k d) ↔ (k < b.bins.length ∧ d < p.length ∧ ∃ c, (b.binD k).lo ≤ c ∧ c ≤ (b.binD k).hi ∧ hotc b p k c d) := fun k d => by
    refine and_congr_right fun hk => and_congr_right fun _ => ?_
    obtain ⟨x, hx⟩ : ∃ x, b.bins[k]? = some x := ⟨_, List.getElem?_eq_getElem hk⟩
    have ex : b.binD k = x := bin_getD hx
    have hm := List.mem_of_getElem? hx
    have hbx := hb.bins x hm
    have ho := hb.ord x hm
    have ew : na b.warms k = x.warm := by unfold na Barn.warms; rw [List.getD_eq_getElem?_getD, List.getElem?_map, hx]; rfl
    unfold hotW hotc
    rw [ex, ew]
    constructor
    · intro h; exact ⟨x.hi, ho, Int.le_refl _, h⟩
    · rintro ⟨c, h1, h2, h3⟩
      have : wst b.cool (na b.rise c.toNat) k x.warm (p.take (d + 1)) ≤ wst b.cool (b.worst x) k x.warm (p.take (d + 1)) :=
        wst_mono (srt_le hb.srt (by omega) (by rw [hb.len]; omega)) _ _ _ (Int.le_refl _)
      omega
  have h := h.iff hS
  obtain ⟨day, bin, is⟩ := q
  unfold brnQ
  rcases b.burns_spec p b.warms 0 with ⟨i1, i2⟩ | ⟨k, e, i1, i2, i3, i4, i5⟩
  · rw [i1]
    cases is with
    | true => obtain ⟨⟨h1, h2, h3⟩, _⟩ := h.yes rfl; exact absurd h3 (i2 _ h1 _ h2)
    | false => obtain ⟨h1, h2, _⟩ := h.no rfl; dsimp only at h1 h2; rw [h1, h2]
  · rw [i1]
    cases is with
    | false => exact absurd ⟨i2, i3, i4⟩ ((h.no rfl).2.2 k e)
    | true =>
      obtain ⟨⟨h1, h2, h3⟩, h4⟩ := h.yes rfl
      have a1 := i5 _ h1 _ h2 h3
      have a2 := h4 _ _ ⟨i2, i3, i4⟩
      dsimp only at a1 a2 ⊢
      have : day = e ∧ bin = k := by omega
      rw [this.1, this.2, Nat.zero_add]
def SA (b : Barn) (p : List (List Int)) (k : Nat) : Nat → Nat → Prop := fun j d => j < k ∧ d < p.length ∧ ∃ c, (b.binD j).lo ≤ c ∧ c ≤ (b.binD j).hi ∧ hotc b p j c d
def SB (b : Barn) (p : List (List Int)) (k : Nat) (c : Int) : Nat → Nat → Prop := fun j d => SA b p k j d ∨ (j = k ∧ d < p.length ∧ ∃ c', (b.binD k).lo ≤ c' ∧ c' < c ∧ hotc b p k c' d)
def SC (b : Barn) (p : List (List Int)) (k : Nat) (c : Int) (e : Nat) : Nat → Nat → Prop := fun j d => SB b p k c j d ∨ (j = k ∧ d < e ∧ hotc b p k c d)
theorem SA.start {b : Barn} {p : List (List Int)} : Bst (SA b p 0) (0, 0, false) := ⟨fun _ => ⟨rfl, rfl, fun k d h => by have := h.1; omega⟩, fun h => by cases h⟩
theorem SB.start {b : Barn} {p : List (List Int)} {k : Nat} {c : Int} (hc : c = (b.binD k).lo) {q : Nat × Nat × Bool} (h : Bst (SA b p k) q) : Bst (SB b p k c) q := h.iff fun j d => by
  constructor
  · rintro (h1 | ⟨_, _, c', h1, h2, _⟩)
    · exact h1
    · omega
  · exact .inl
theorem SC.start {b : Barn} {p : List (List Int)} {k : Nat} {c : Int} {q : Nat × Nat × Bool} (h : Bst (SB b p k c) q) : Bst (SC b p k c 0) q := h.iff fun j d => by
  constructor
  · rintro (h1 | ⟨_, h1, _⟩)
    · exact h1
    · omega
  · exact .inl
theorem SC.le {b : Barn} {p : List (List Int)} {k : Nat} {c : Int} {e j d : Nat} (h : SC b p k c e j d) : j ≤ k := by
  rcases h with (h | h) | h
  · exact Nat.le_of_lt h.1
  · exact Nat.le_of_eq h.1
  · exact Nat.le_of_eq h.1
theorem SC.cold {b : Barn} {p : List (List Int)} {k : Nat} {c : Int} {e : Nat} {q : Nat × Nat × Bool} (h : Bst (SC b p k c e) q) (hn : ¬ hotc b p k c e) : Bst (SC b p k c (e + 1)) q := h.iff fun j d => by
  constructor
  · rintro (h1 | ⟨h1, h2, h3⟩)
    · exact .inl h1
    · refine .inr ⟨h1, ?_, h3⟩
      rcases Nat.lt_or_ge d e with h4 | h4
      · exact h4
      · obtain rfl : d = e := by omega
        exact absurd h3 hn
  · rintro (h1 | ⟨h1, h2, h3⟩)
    · exact .inl h1
    · exact .inr ⟨h1, by omega, h3⟩
theorem SC.hot {b : Barn} {p : List (List Int)} {k : Nat} {c : Int} {e : Nat} (hn : hotc b p k c e) (j d : Nat) : SC b p k c (e + 1) j d ↔ SC b p k c e j d ∨ (j = k ∧ d = e) := by
  constructor
  · rintro (h1 | ⟨h1, h2, h3⟩)
    · exact .inl (.inl h1)
    · rcases Nat.lt_or_ge d e with h4 | h4
      · exact .inl (.inr ⟨h1, h4, h3⟩)
      · exact .inr ⟨h1, by omega⟩
  · rintro ((h1 | ⟨h1, h2, h3⟩) | ⟨rfl, rfl⟩)
    · exact .inl h1
    · exact .inr ⟨h1, by omega, h3⟩
    · exact .inr ⟨rfl, by omega, hn⟩
theorem SC.done {b : Barn} {p : List (List Int)} {k : Nat} {c : Int} (hc : (b.binD k).lo ≤ c) {q : Nat × Nat × Bool} (h : Bst (SC b p k c p.length) q) : Bst (SB b p k (c + 1)) q := h.iff fun j d => by
  constructor
  · rintro (h1 | ⟨h1, h2, c', h3, h4, h5⟩)
    · exact .inl (.inl h1)
    · rcases Int.lt_or_le c' c with h6 | h6
      · exact .inl (.inr ⟨h1, h2, c', h3, h6, h5⟩)
      · obtain rfl : c' = c := by omega
        exact .inr ⟨h1, h2, h5⟩
  · rintro ((h1 | ⟨h1, h2, c', h3, h4, h5⟩) | ⟨h1, h2, h3⟩)
    · exact .inl h1
    · exact .inr ⟨h1, h2, c', h3, by omega, h5⟩
    · exact .inr ⟨h1, h2, c, hc, by omega, h3⟩
theorem SB.done {b : Barn} {p : List (List Int)} {k : Nat} {c : Int} (hc : c = (b.binD k).hi + 1) {q : Nat × Nat × Bool} (h : Bst (SB b p k c) q) : Bst (SA b p (k + 1)) q := h.iff fun j d => by
  constructor
  · rintro ⟨h1, h2, c', h3, h4, h5⟩
    rcases Nat.lt_or_ge j k with h6 | h6
    · exact .inl ⟨h6, h2, c', h3, h4, h5⟩
    · obtain rfl : j = k := by omega
      exact .inr ⟨rfl, h2, c', h3, by omega, h5⟩
  · rintro (⟨h1, h2, h3⟩ | ⟨rfl, h2, c', h3, h4, h5⟩)
    · exact ⟨by omega, h2, h3⟩
    · exact ⟨by omega, h2, c', h3, by omega, h5⟩
theorem Bst.bd {b : Barn} {p : List (List Int)} {k : Nat} {c : Int} {e : Nat} {q : Nat × Nat × Bool} (h : Bst (SC b p k c e) q) (he : e ≤ p.length) : q.1 ≤ p.length ∧ q.2.1 ≤ k := by
  cases hb : q.2.2 with
  | false => obtain ⟨h1, h2, _⟩ := h.no hb; omega
  | true =>
    have h1 := (h.yes hb).1
    refine ⟨?_, SC.le h1⟩
    rcases h1 with (h1 | h1) | h1
    · exact Nat.le_of_lt h1.2.1
    · exact Nat.le_of_lt h1.2.1
    · omega
theorem St.blkRows {rows : List (List Value)} {sz bk e : Nat} {junk : List Value} {H : Heap} {R : Facts} {w : World} (hz : ∀ r ∈ rows, r.length = sz) (hs : St ((bk, cel e (rows.flatten ++ junk)) :: H) R w) :
    St H (RowsA (some ⟨bk, 0, none⟩) sz rows :: R) w := by
  have h1 := (St.freeze hs).also (f := RowsA (some ⟨bk, 0, none⟩) sz rows) (fun w' hw => by
    have hb := hw (fun w => w.heap[bk]? = some (cel e (rows.flatten ++ junk))) (by simp)
    exact rows_block hb hz)
  exact h1.facts (fun g hg => by rcases List.mem_cons.1 hg with h3 | h3 <;> simp [h3])
theorem plr_one (l : List PL) : ∀ r ∈ plrows l, r.length = 1 := fun r hr => by obtain ⟨x, _, rfl⟩ := List.mem_map.1 hr; rfl
theorem plrows_app (A B : List PL) : plrows (A ++ B) = plrows A ++ plrows B := by simp [plrows]
theorem plr_flat (l : List PL) : (plrows l).flatten.length = l.length := by rw [flat_len (plr_one l), plrows_len]; omega
def pgap (ql : List PL) (n : Nat) : List Value := (plrows ql).flatten ++ (List.replicate n [Value.slice none 0 0]).flatten
theorem pgap_len (ql : List PL) (n : Nat) : (pgap ql n).length = ql.length + n := by
  unfold pgap
  rw [List.length_append, plr_flat, flat_len (sz := 1) (fun q hq => by rw [(List.mem_replicate.1 hq).2]; rfl), List.length_replicate]; omega
theorem pgap_put (ql : List PL) (n : Nat) (x : PL) {i : Nat} (e : i = ql.length) : spl (pgap ql (n + 1)) i [.slice x.a x.l.length x.c] = pgap (ql ++ [x]) n := by
  subst e
  unfold pgap
  rw [List.replicate_succ, List.flatten_cons, plrows_app, List.flatten_append, List.append_assoc]
  have := spl_at (p := (plrows ql).flatten) (q := [Value.slice none 0 0]) (s := (List.replicate n [Value.slice none 0 0]).flatten) (vs := [.slice x.a x.l.length x.c]) rfl
  rw [plr_flat] at this
  exact this
theorem St.innSnoc {a : Option Addr} {c : Nat} {l0 : List Int} {l : List PL} {H : Heap} {R : Facts} {w : World} [m1 : MemF (Inn l) R] [m2 : MemRows a 1 (irows l0) R] (h : St H R w) : St H (Inn (l ++ [⟨a, c, l0⟩]) :: R) w :=
  h.also fun w' hw x hx => by
    rcases List.mem_append.1 hx with hx | hx
    · exact hw _ m1.mem x hx
    · obtain rfl : x = ⟨a, c, l0⟩ := by simpa using hx
      exact hw _ m2.mem
theorem c_eq_int (xs ys : List Int) (a a2 : Option Addr) (c c2 : Nat) (hl : xs.length ≤ 9223372036854775807) (hl2 : ys.length ≤ 9223372036854775807) (H : Heap) (R : Facts) [hR : MemRows a 1 (irows xs) R] [hR2 : MemRows a2 1 (irows ys) R] :
    FnV Try.prog 82 [.slice a xs.length c, .slice a2 ys.length c2] H R (.bool (decide (xs = ys))) := by
 refine fn_of Try.func82 rfl Try.ntmps82 rfl ?_
 refine sy_seq ?_
 refine sy_tx' [0] rfl ?_
 refine sp rfl (PE.assign rfl) rfl ?_
 refine sy_seq ?_
 refine sy_seq ?_
 refine sy_tx' [0, 1, 2, 3, 4] rfl ?_
 refine sp rfl (PE.move rfl) rfl ?_
 refine sp rfl (PE.lenSl isl40 rfl) rfl ?_
 refine sp rfl (PE.move rfl) rfl ?_
 refine sp rfl (PE.lenSl isl40 rfl) rfl ?_
 refine sp rfl (PE.neq rfl rfl) rfl ?_
 refine sy_cond rfl (fun hc0 => ?_) (fun hc0 => ?_)
 have hne : xs ≠ ys := fun e => by subst e; simp at hc0
 refine sy_seq ?_
 refine sy_tx' [0] rfl ?_
 refine sp rfl (PE.assign rfl) rfl ?_
 refine sy_ret ?_
 exact sy_return (vs := [_]) rfl (.cons (RV.tmp rfl) .nil) rfl ⟨by first | (simp only [retV]; rw [decide_eq_true heq]; done) | (simp only [retV]; rw [decide_eq_false hne]), rfl, rfl⟩ (fun _ h => h)
 have hle : xs.length = ys.length := by simp only [decide_eq_true_eq, decide_eq_false_iff_not, Bool.and_eq_true, Bool.or_eq_true, Bool.not_eq_true', Int.not_le, Int.not_lt] at hc0; omega
 refine sy_skip ?_
 refine sy_seq ?_
 refine sy_seq ?_
 refine sy_tx' [0, 1, 2] rfl ?_
 refine sp rfl (PE.move rfl) rfl ?_
 refine sp rfl (PE.lenSl isl40 rfl) rfl ?_
 refine sp rfl (PE.move rfl) rfl ?_
 refine sy_block ?_
 refine sy_loop (ι := {k : Nat // k ≤ xs.length ∧ xs.take k = ys.take k}) (fun k => ⟨[(0, .slice a xs.length c), (1, .slice a2 ys.length c2), (12, .int .i64 xs.length), (13, .int .i64 k.1)], H, R⟩) (fun k => xs.length - k.1) ⟨0, by simp⟩ ?_ (fun k => ?_)
 exact sy_at (by repeat' first | exact Sub.nil | apply Sub.cons | rfl | (simp [lk]; omega)) (fun _ h => h)
 obtain ⟨k, hk, hn⟩ := k
 dsimp only
 refine sy_seq ?_
 refine sy_tx' [0] rfl ?_
 refine sp rfl (PE.lss rfl rfl) rfl ?_
 refine sy_seq ?_
 refine sy_cond rfl (fun hc1 => ?_) (fun hc1 => ?_)
 simp only [decide_eq_true_eq, decide_eq_false_iff_not, Bool.and_eq_true, Bool.or_eq_true, Bool.not_eq_true', Int.not_le, Int.not_lt] at hc1
 obtain ⟨x, hx⟩ : ∃ x, xs[k]? = some x := ⟨_, List.getElem?_eq_getElem (by omega)⟩
 obtain ⟨z, hz⟩ : ∃ z, ys[k]? = some z := ⟨_, List.getElem?_eq_getElem (by omega)⟩
 refine sy_addr (a := a) (sz := 1) (rows := irows xs) (by intro h0; simp [irows] at h0; simp [h0] at hx) (fun b off he => ?_)
 subst he
 refine sy_addr (a := a2) (sz := 1) (rows := irows ys) (by intro h0; simp [irows] at h0; simp [h0] at hz) (fun b2 off2 he => ?_)
 subst he
 refine sy_skip ?_
 refine sy_seq ?_
 refine sy_block ?_
 refine sy_seq ?_
 refine sy_tx' [0, 1] rfl ?_
 refine sp rfl (PE.move rfl) rfl ?_
 refine sp rfl (PE.assign rfl) rfl ?_
 refine sy_seq ?_
 refine sy_draw [0, 0, 3, 7, 0, 0, 48, 112, 255] (.tk 0 (.tk 1 (.tk 2 (.ld 3 (.tk 4 (.tk 5 (.tk 6 (.ld 7 (.tk 8 .done))))))))) mixed (by kernel_rfl) ?_
 refine tk rfl (PE.move rfl) rfl ?_
 refine tk rfl (PE.move rfl) rfl ?_
 refine tk rfl (PE.indexAddr el40 rfl rfl (by omega) (by omega)) rfl ?_
 refine ld rfl rfl (lf0 sc3 (by simp [irows, hx]; rfl) rfl) rfl ?_
 refine tk rfl (PE.move rfl) rfl ?_
 refine tk rfl (PE.move rfl) rfl ?_
 refine tk rfl (PE.indexAddr el40 rfl rfl (by omega) (by omega)) rfl ?_
 refine ld rfl rfl (lf0 sc3 (by simp [irows, hz]; rfl) rfl) rfl ?_
 refine tk rfl (PE.neq rfl rfl) rfl ?_
 refine sy_cond rfl (fun hc2 => ?_) (fun hc2 => ?_)
 have hne : xs ≠ ys := fun e => by subst e; rw [hx] at hz; cases hz; simp at hc2
 refine sy_seq ?_
 refine sy_tx' [0] rfl ?_
 refine sp rfl (PE.assign rfl) rfl ?_
 refine sy_ret ?_
 exact sy_return (vs := [_]) rfl (.cons (RV.tmp rfl) .nil) rfl ⟨by first | (simp only [retV]; rw [decide_eq_true heq]; done) | (simp only [retV]; rw [decide_eq_false hne]), rfl, rfl⟩ (fun _ h => h)
 have hxz : x = z := by simpa using hc2
 refine sy_skip ?_
 refine sy_tx' [0, 1] rfl ?_
 refine sp rfl (PE.add rfl rfl (by omega)) rfl ?_
 refine sp rfl (PE.move rfl) rfl ?_
 exact sy_next ⟨k + 1, by omega, by rw [List.take_add_one, List.take_add_one, hn, hx, hz, hxz]⟩ (by dsimp only; omega) (by repeat' first | exact Sub.nil | apply Sub.cons | rfl | (simp [lk]; omega)) (fun _ h => h)
 simp only [decide_eq_true_eq, decide_eq_false_iff_not, Bool.and_eq_true, Bool.or_eq_true, Bool.not_eq_true', Int.not_le, Int.not_lt] at hc1
 obtain rfl : k = xs.length := by omega
 have heq : xs = ys := by
   rw [List.take_length] at hn
   exact hn.trans (by rw [hle]; exact List.take_length)
 refine sy_exit ?_
 repeat refine sy_tx ?_
 refine sy_bx ?_
 refine sy_seq ?_
 refine sy_tx' [0] rfl ?_
 refine sp rfl (PE.assign rfl) rfl ?_
 refine sy_ret ?_
 exact sy_return (vs := [_]) rfl (.cons (RV.tmp rfl) .nil) rfl ⟨by first | (simp only [retV]; rw [decide_eq_true heq]; done) | (simp only [retV]; rw [decide_eq_false hne]), rfl, rfl⟩ (fun _ h => h)
theorem c_dup_int (xs : List Int) (a : Option Addr) (c : Nat) (hl : xs.length ≤ 1000000) (H : Heap) (R : Facts) [hR : MemRows a 1 (irows xs) R] :
    Fn Try.prog 57 [.slice a xs.length c] H R (fun v H' R' => ∃ o : OSl 3 1 (irows xs), v = o.fs ∧ o.here ∧ H' = o.G ++ H ∧ R' = R) := by
 refine fn_of Try.func57 rfl Try.ntmps57 rfl ?_
 refine sy_seq ?_
 refine sy_tx' [0] rfl ?_
 refine sp rfl (PE.assign rfl) rfl ?_
 refine sy_seq ?_
 refine sy_tx' [0, 1, 2, 3, 4, 5] rfl ?_
 refine sp rfl (PE.move rfl) rfl ?_
 refine sp rfl (PE.lenSl isl40 rfl) rfl ?_
 refine mkO rfl ap40 zl3 rfl rfl ⟨by omega, by omega⟩ rfl (fun o ho => ?_)
 refine sp rfl (PE.move rfl) rfl ?_
 refine apOh (news := irows xs) o rfl ap40 rfl rfl (rowsF) (by simp [irows]) (by simp [onecells, irows, Value.oneCell']) ⟨by simp [irows]; omega, by simp [irows]; omega⟩ rfl ho (fun o2 ho2 => ?_)
 refine sp rfl (PE.assign rfl) rfl ?_
 refine sy_ret ?_
 exact sy_return (vs := [_]) rfl (.cons (RV.tmp rfl) .nil) rfl ⟨o2.cast (by simp), rfl, ho2, rfl, rfl⟩ (fun _ h => h)
theorem c_DupRows (pl : List PL) (ap : Option Addr) (cp : Nat) (hpl : pl.length ≤ 1000000) (hpi : ∀ x ∈ pl, x.l.length ≤ 1000000) (H : Heap) (R : Facts) [hP : MemRows ap 1 (plrows pl) R] [hI : MemF (Inn pl) R] :
    Fn Try.prog 21 [.slice ap pl.length cp] H R (fun v H' R' => ∃ (ql : List PL) (aq : Option Addr) (cq : Nat), lls ql = lls pl ∧ v = .slice aq ql.length cq ∧ H' = H ∧ R' = RowsA aq 1 (plrows ql) :: Inn ql :: R) := by
 refine fn_of Try.func21 rfl Try.ntmps21 rfl ?_
 refine sy_seq ?_
 refine sy_tx' [0] rfl ?_
 refine sp rfl (PE.assign rfl) rfl ?_
 refine sy_seq ?_
 refine sy_tx' [0, 1, 2, 3] rfl ?_
 refine sp rfl (PE.move rfl) rfl ?_
 refine sp rfl (PE.lenSl isl26 rfl) rfl ?_
 refine mkS rfl ap26 zl40 rfl rfl (Nat.le_refl _) ⟨by omega, by omega⟩ rfl (fun b8 => ?_)
 refine Sy.heap (H' := (b8, cel 40 (pgap [] pl.length)) :: H) (R' := Inn [] :: R) (fun w h => St.inn0 (by rw [← flat_repl] at h; exact h)) ?_
 refine sp rfl (PE.assign rfl) rfl ?_
 refine sy_seq ?_
 refine sy_seq ?_
 refine sy_tx' [0, 1, 2] rfl ?_
 refine sp rfl (PE.move rfl) rfl ?_
 refine sp rfl (PE.lenSl isl26 rfl) rfl ?_
 refine sp rfl (PE.move rfl) rfl ?_
 refine sy_block ?_
 refine sy_loop (ι := {q : List PL // q.length ≤ pl.length ∧ lls q = (lls pl).take q.length}) (fun q => ⟨[(3, .slice (some ⟨b8, 0, none⟩) pl.length pl.length), (9, .slice ap pl.length cp), (10, .int .i64 pl.length), (11, .int .i64 q.1.length)], (b8, cel 40 (pgap q.1 (pl.length - q.1.length))) :: H, Inn q.1 :: R⟩) (fun q => pl.length - q.1.length) ⟨[], Nat.zero_le _, rfl⟩ ?_ (fun q => ?_)
 exact sy_at (by repeat' first | exact Sub.nil | apply Sub.cons | rfl | (simp [lk]; omega)) (fun _ h => h)
 obtain ⟨q, hq, hqe⟩ := q
 dsimp only at hq hqe ⊢
 refine sy_seq ?_
 refine sy_tx' [0] rfl ?_
 refine sp rfl (PE.lss rfl rfl) rfl ?_
 refine sy_seq ?_
 refine sy_cond rfl (fun hc0 => ?_) (fun hc0 => ?_)
 try simp only [decide_eq_true_eq, decide_eq_false_iff_not, Bool.and_eq_true, Bool.or_eq_true, Bool.not_eq_true', Int.not_le, Int.not_lt] at hc0
 obtain ⟨x, hx⟩ : ∃ x, pl[q.length]? = some x := ⟨_, List.getElem?_eq_getElem (by omega)⟩
 have hxm := List.mem_of_getElem? hx
 have hxl := hpi x hxm
 refine sy_addr (a := ap) (sz := 1) (rows := plrows pl) (by intro h0; have := congrArg List.length h0; rw [plrows_len] at this; simp only [List.length_nil] at this; omega) (fun ba oa he => ?_)
 subst he
 refine Sy.heap (fun w h => St.inn (x := x) h hxm) ?_
 refine sy_skip ?_
 refine sy_seq ?_
 refine sy_block ?_
 refine sy_seq ?_
 refine sy_tx' [0, 1, 2, 3, 4] rfl ?_
 refine sp rfl (PE.move rfl) rfl ?_
 refine sp rfl (PE.indexAddr el26 rfl rfl (by omega) (by omega)) rfl ?_
 refine spL rfl rfl (lf0 sc40 (pl_get hx) rfl) rfl ?_
 refine sp rfl (PE.assign rfl) rfl ?_
 refine sp rfl (PE.assign rfl) rfl ?_
 refine sy_tx' [0, 1, 2, 3, 4, 5] rfl ?_
 refine sp rfl (PE.move rfl) rfl ?_
 refine sp rfl (PE.move rfl) rfl ?_
 refine sp rfl (PE.move rfl) rfl ?_
 refine cl rfl cal57 rfl rfl (c_dup_int x.l x.a x.c hxl _ _) ?_
 rintro _ _ _ ⟨o, rfl, ho, rfl, rfl⟩
 obtain ⟨ax, cx, he, hf⟩ := o.freeze
 rw [he, irows_len]
 refine Sy.heap (fun w h => hf h) ?_
 clear he hf
 refine sp rfl (PE.indexAddr el26 rfl rfl (by omega) (by omega)) rfl ?_
 refine stoE (l' := pgap (q ++ [⟨ax, cx, x.l⟩]) (pl.length - (q.length + 1))) rfl rfl rfl cn40 rfl rfl rfl (by rw [show pl.length - q.length = (pl.length - (q.length + 1)) + 1 by omega]; exact pgap_put q _ ⟨ax, cx, x.l⟩ (by show 0 + ((q.length : Nat) : Int).toNat * 1 = _; omega)) (by rw [pgap_len]; show 0 + ((q.length : Nat) : Int).toNat * 1 + 1 ≤ _; omega) ?_
 refine sy_tx' [0, 1] rfl ?_
 refine sp rfl (PE.add rfl rfl (by omega)) rfl ?_
 refine sp rfl (PE.move rfl) rfl ?_
 exact sy_next ⟨q ++ [⟨ax, cx, x.l⟩], by rw [List.length_append, List.length_singleton]; omega, by rw [List.length_append, List.length_singleton, take_snoc (lls_get hx), ← hqe]; simp [lls]⟩ (by dsimp only; rw [List.length_append, List.length_singleton]; omega) (by dsimp only; rw [List.length_append, List.length_singleton]; exact (by repeat' first | exact Sub.nil | apply Sub.cons | rfl | (simp [lk]; omega))) (fun w h => by dsimp only; rw [List.length_append, List.length_singleton]; exact (St.innSnoc (a := ax) (c := cx) (l0 := x.l) (l := q) h).facts (fun g hg => by rcases List.mem_cons.1 hg with h3 | h3 <;> simp [h3]))
 try simp only [decide_eq_true_eq, decide_eq_false_iff_not, Bool.and_eq_true, Bool.or_eq_true, Bool.not_eq_true', Int.not_le, Int.not_lt] at hc0
 have hql : q.length = pl.length := by omega
 rw [hql, List.take_of_length_le (by rw [lls_len]; exact Nat.le_refl _)] at hqe
 refine Sy.heap (H' := (b8, cel 40 ((plrows q).flatten ++ [])) :: H) (fun w h => by rw [hql, Nat.sub_self] at h; exact h) ?_
 refine Sy.heap (fun w h => St.blkRows (plr_one q) h) ?_
 refine sy_exit ?_
 repeat refine sy_tx ?_
 refine sy_bx ?_
 refine sy_seq ?_
 refine sy_tx' [0, 1] rfl ?_
 refine sp rfl (PE.move rfl) rfl ?_
 refine sp rfl (PE.assign rfl) rfl ?_
 refine sy_ret ?_
 exact sy_return (vs := [_]) rfl (.cons (RV.tmp rfl) .nil) rfl ⟨q, _, _, hqe, by rw [hql]; rfl, rfl, rfl⟩ (fun _ h => h)
theorem c_EqRows (pl : List PL) (ap : Option Addr) (cp : Nat) (hpl : pl.length ≤ 9223372036854775807) (hpi : ∀ x ∈ pl, x.l.length ≤ 9223372036854775807) (ql : List PL) (aq : Option Addr) (cq : Nat) (hql : ql.length ≤ 9223372036854775807) (hqi : ∀ x ∈ ql, x.l.length ≤ 9223372036854775807) (H : Heap) (R : Facts) [hP : MemRows ap 1 (plrows pl) R] [hI : MemF (Inn pl) R] [hQ : MemRows aq 1 (plrows ql) R] [hJ : MemF (Inn ql) R] :
    FnV Try.prog 32 [.slice ap pl.length cp, .slice aq ql.length cq] H R (.bool (decide (lls pl = lls ql))) := by
 refine fn_of Try.func32 rfl Try.ntmps32 rfl ?_
 refine sy_seq ?_
 refine sy_tx' [0] rfl ?_
 refine sp rfl (PE.assign rfl) rfl ?_
 refine sy_seq ?_
 refine sy_seq ?_
 refine sy_tx' [0, 1, 2, 3, 4] rfl ?_
 refine sp rfl (PE.move rfl) rfl ?_
 refine sp rfl (PE.lenSl isl26 rfl) rfl ?_
 refine sp rfl (PE.move rfl) rfl ?_
 refine sp rfl (PE.lenSl isl26 rfl) rfl ?_
 refine sp rfl (PE.neq rfl rfl) rfl ?_
 refine sy_cond rfl (fun hc0 => ?_) (fun hc0 => ?_)
 try simp only [decide_eq_true_eq, decide_eq_false_iff_not, Bool.and_eq_true, Bool.or_eq_true, Bool.not_eq_true', Int.not_le, Int.not_lt] at hc0
 have hne : lls pl ≠ lls ql := fun e => by have := congrArg List.length e; rw [lls_len, lls_len] at this; omega
 refine sy_seq ?_
 refine sy_tx' [0] rfl ?_
 refine sp rfl (PE.assign rfl) rfl ?_
 refine sy_ret ?_
 exact sy_return (vs := [_]) rfl (.cons (RV.tmp rfl) .nil) rfl ⟨by first | (simp only [retV]; rw [decide_eq_true heq]; done) | (simp only [retV]; rw [decide_eq_false hne]), rfl, rfl⟩ drp
 try simp only [decide_eq_true_eq, decide_eq_false_iff_not, Bool.and_eq_true, Bool.or_eq_true, Bool.not_eq_true', Int.not_le, Int.not_lt] at hc0
 have hle : pl.length = ql.length := by omega
 refine sy_skip ?_
 refine sy_seq ?_
 refine sy_seq ?_
 refine sy_tx' [0, 1, 2] rfl ?_
 refine sp rfl (PE.move rfl) rfl ?_
 refine sp rfl (PE.lenSl isl26 rfl) rfl ?_
 refine sp rfl (PE.move rfl) rfl ?_
 refine sy_block ?_
 refine sy_loop (ι := {k : Nat // k ≤ pl.length ∧ (lls pl).take k = (lls ql).take k}) (fun k => ⟨[(1, .slice aq ql.length cq), (12, .slice ap pl.length cp), (13, .int .i64 pl.length), (14, .int .i64 k.1)], H, R⟩) (fun k => pl.length - k.1) ⟨0, Nat.zero_le _, rfl⟩ ?_ (fun k => ?_)
 exact sy_at (by repeat' first | exact Sub.nil | apply Sub.cons | rfl | (simp [lk]; omega)) (fun _ h => h)
 obtain ⟨k, hk, hke⟩ := k
 dsimp only at hk hke ⊢
 refine sy_seq ?_
 refine sy_tx' [0] rfl ?_
 refine sp rfl (PE.lss rfl rfl) rfl ?_
 refine sy_seq ?_
 refine sy_cond rfl (fun hc1 => ?_) (fun hc1 => ?_)
 try simp only [decide_eq_true_eq, decide_eq_false_iff_not, Bool.and_eq_true, Bool.or_eq_true, Bool.not_eq_true', Int.not_le, Int.not_lt] at hc1
 obtain ⟨x, hx⟩ : ∃ x, pl[k]? = some x := ⟨_, List.getElem?_eq_getElem (by omega)⟩
 have hxm := List.mem_of_getElem? hx
 have hxl := hpi x hxm
 obtain ⟨z, hz⟩ : ∃ z, ql[k]? = some z := ⟨_, List.getElem?_eq_getElem (by omega)⟩
 have hzm := List.mem_of_getElem? hz
 have hzl := hqi z hzm
 refine sy_addr (a := ap) (sz := 1) (rows := plrows pl) (by intro h0; have := congrArg List.length h0; rw [plrows_len] at this; simp only [List.length_nil] at this; omega) (fun ba oa he => ?_)
 subst he
 refine sy_addr (a := aq) (sz := 1) (rows := plrows ql) (by intro h0; have := congrArg List.length h0; rw [plrows_len] at this; simp only [List.length_nil] at this; omega) (fun bq oq he => ?_)
 subst he
 refine Sy.heap (fun w h => St.inn (x := x) h hxm) ?_
 refine Sy.heap (fun w h => St.inn (x := z) h hzm) ?_
 refine sy_skip ?_
 refine sy_seq ?_
 refine sy_block ?_
 refine sy_seq ?_
 refine sy_tx' [0, 1, 2, 3, 4] rfl ?_
 refine sp rfl (PE.move rfl) rfl ?_
 refine sp rfl (PE.indexAddr el26 rfl rfl (by omega) (by omega)) rfl ?_
 refine spL rfl rfl (lf0 sc40 (pl_get hx) rfl) rfl ?_
 refine sp rfl (PE.assign rfl) rfl ?_
 refine sp rfl (PE.assign rfl) rfl ?_
 refine sy_seq ?_
 refine sy_tx' [0, 1, 2, 3, 4, 5, 6] rfl ?_
 refine sp rfl (PE.move rfl) rfl ?_
 refine sp rfl (PE.move rfl) rfl ?_
 refine sp rfl (PE.move rfl) rfl ?_
 refine sp rfl (PE.indexAddr el26 rfl rfl (by omega) (by omega)) rfl ?_
 refine spL rfl rfl (lf0 sc40 (pl_get hz) rfl) rfl ?_
 refine clV rfl cal82 rfl rfl (c_eq_int x.l z.l x.a z.a x.c z.c hxl hzl _ _) ?_
 refine sp rfl (PE.not rfl) rfl ?_
 refine sy_cond rfl (fun hc2 => ?_) (fun hc2 => ?_)
 have hne : lls pl ≠ lls ql := fun e => by
   have h1 := lls_get hx; have h2 := lls_get hz
   rw [e, h2] at h1
   have e3 := Option.some.inj h1
   rw [e3] at hc2
   simp at hc2
 refine sy_seq ?_
 refine sy_tx' [0] rfl ?_
 refine sp rfl (PE.assign rfl) rfl ?_
 refine sy_ret ?_
 exact sy_return (vs := [_]) rfl (.cons (RV.tmp rfl) .nil) rfl ⟨by first | (simp only [retV]; rw [decide_eq_true heq]; done) | (simp only [retV]; rw [decide_eq_false hne]), rfl, rfl⟩ drp
 have hxz : x.l = z.l := by simpa using hc2
 refine sy_skip ?_
 refine sy_tx' [0, 1] rfl ?_
 refine sp rfl (PE.add rfl rfl (by omega)) rfl ?_
 refine sp rfl (PE.move rfl) rfl ?_
 exact sy_next ⟨k + 1, by omega, by rw [take_snoc (lls_get hx), take_snoc (lls_get hz), hke, hxz]⟩ (by dsimp only; omega) (by repeat' first | exact Sub.nil | apply Sub.cons | rfl | (simp [lk]; omega)) (fun w h => h.ftail.ftail)
 try simp only [decide_eq_true_eq, decide_eq_false_iff_not, Bool.and_eq_true, Bool.or_eq_true, Bool.not_eq_true', Int.not_le, Int.not_lt] at hc1
 obtain rfl : k = pl.length := by omega
 have heq : lls pl = lls ql := by
   rw [List.take_of_length_le (by rw [lls_len]; exact Nat.le_refl _), List.take_of_length_le (by rw [lls_len]; omega)] at hke; exact hke
 refine sy_exit ?_
 repeat refine sy_tx ?_
 refine sy_bx ?_
 refine sy_seq ?_
 refine sy_tx' [0] rfl ?_
 refine sp rfl (PE.assign rfl) rfl ?_
 refine sy_ret ?_
 exact sy_return (vs := [_]) rfl (.cons (RV.tmp rfl) .nil) rfl ⟨by first | (simp only [retV]; rw [decide_eq_true heq]; done) | (simp only [retV]; rw [decide_eq_false hne]), rfl, rfl⟩ drp
theorem c_rWarmth (b : Barn) (ab : Option Addr) (cb : Nat) (hok : b.ok) (pl : List PL) (ap : Option Addr) (cp : Nat) (hpl : pl.length ≤ 9223372036854775807) (hpi : ∀ x ∈ pl, x.l.length ≤ 9223372036854775807) (hp9 : pl.length ≤ 1000000) (k : Nat) (x : HBin) (hx : b.bins[k]? = some x) (c : Int) (hc5 : 0 ≤ c ∧ c ≤ 5) (H : Heap) (R : Facts) [hB : MemRows ab 4 (brows b.bins) R] [hP : MemRows ap 1 (plrows pl) R] [hI : MemF (Inn pl) R] :
    Fn Try.prog 24 [b.v (b.sl ab cb), .slice ap pl.length cp, .int .i64 k, .int .i64 c] H R (fun v H' R' => ∃ (aw : Option Addr) (cw : Nat), v = .slice aw pl.length cw ∧ H' = H ∧ R' = RowsA aw 1 (irows (wL b.cool (na b.rise c.toNat) k x.warm (lls pl) pl.length)) :: R) := by
 have hk := (List.getElem?_eq_some_iff.1 hx).1
 have hm := List.mem_of_getElem? hx
 have hh := hok.bins x hm
 have hwr := hok.rise _ (na_mem (l := b.rise) (k := c.toNat) (by rw [hok.len]; omega))
 have hwb : ∀ d, 0 ≤ (wst b.cool (na b.rise c.toNat) k x.warm ((lls pl).take d)) ∧ (wst b.cool (na b.rise c.toNat) k x.warm ((lls pl).take d)) ≤ 100000000 := fun d => by
   have h1 := wst_bd (k := k) hok.cool (show 0 ≤ na b.rise c.toNat ∧ na b.rise c.toNat ≤ 20 by omega) ((lls pl).take d) x.warm hh.2.1.1
   have h2 : ((lls pl).take d).length ≤ pl.length := by rw [List.length_take, lls_len]; omega
   omega
 have hcl := hok.cool
 refine fn_of Try.func24 rfl Try.ntmps24 rfl ?_
 refine sy_seq ?_
 refine sy_tx' [0, 1] rfl ?_
 refine bx rfl rfl rfl (fun b4 => ?_)
 refine sp rfl (PE.assign rfl) rfl ?_
 refine sy_seq ?_
 refine sy_tx' [0] rfl ?_
 refine sp rfl (PE.assign rfl) rfl ?_
 refine sy_seq ?_
 refine sy_tx' [0, 1, 2, 3, 4, 5, 6] rfl ?_
 refine sp rfl (PE.fieldAddr fo33_3 rfl) rfl ?_
 refine spL rfl rfl (lh sc31 rfl rfl) rfl ?_
 refine sp rfl (PE.move rfl) rfl ?_
 refine sy_addr (a := ab) (sz := 4) (rows := brows b.bins) (by intro h0; simp [brows] at h0; simp [h0] at hx) (fun ba oa he => ?_)
 subst he
 refine sp rfl (PE.indexAddr el31 rfl rfl (by omega) (by omega)) rfl ?_
 refine sp rfl (PE.fieldAddr fo113_0 rfl) rfl ?_
 refine spL rfl rfl (lf (j := 0) sc3 (br_get hx) rfl) rfl ?_
 refine sp rfl (PE.assign rfl) rfl ?_
 refine sy_seq ?_
 refine sy_seq ?_
 refine sy_tx' [0] rfl ?_
 refine sp rfl (PE.assign rfl) rfl ?_
 refine sy_block ?_
 refine sy_loop (ι := (d : {d : Nat // d ≤ pl.length}) × OSl 3 1 (irows (wL b.cool (na b.rise c.toNat) k x.warm (lls pl) d.1))) (fun y => ⟨[(1, .slice ap pl.length cp), (2, .int .i64 k), (3, .int .i64 c), (4, .pointer (some ⟨b4, 0, none⟩)), (9, y.2.fs), (10, .int .i64 (wst b.cool (na b.rise c.toNat) k x.warm ((lls pl).take y.1.1))), (11, .int .i64 y.1.1)], y.2.G ++ (b4, cel 33 (btl b (b.sl (some ⟨ba, oa, none⟩) cb))) :: H, R⟩) (fun y => pl.length - y.1.1) ⟨⟨0, by omega⟩, OSl.nil _ _⟩ ?_ (fun y => ?_)
 exact sy_at (by repeat' first | exact Sub.nil | apply Sub.cons | rfl | (simp [lk]; omega)) (fun _ h => h)
 obtain ⟨⟨d, hd⟩, o⟩ := y
 dsimp only at hd o ⊢
 have hwd := hwb d
 refine sy_seq ?_
 refine sy_seq ?_
 refine sy_tx' [0, 1, 2, 3] rfl ?_
 refine sp rfl (PE.move rfl) rfl ?_
 refine sp rfl (PE.move rfl) rfl ?_
 refine sp rfl (PE.lenSl isl26 rfl) rfl ?_
 refine sp rfl (PE.lss rfl rfl) rfl ?_
 refine sy_cond rfl (fun hc0 => ?_) (fun hc0 => ?_)
 try simp only [decide_eq_true_eq, decide_eq_false_iff_not, Bool.and_eq_true, Bool.or_eq_true, Bool.not_eq_true', Int.not_le, Int.not_lt] at hc0
 obtain ⟨z, hz⟩ : ∃ z, pl[d]? = some z := ⟨_, List.getElem?_eq_getElem (by omega)⟩
 have hxm := List.mem_of_getElem? hz
 have hzl := hpi z hxm
 refine sy_addr (a := ap) (sz := 1) (rows := plrows pl) (by intro h0; have := congrArg List.length h0; rw [plrows_len] at this; simp only [List.length_nil] at this; omega) (fun bp op he => ?_)
 subst he
 refine Sy.heap (fun w h => St.inn (x := z) h hxm) ?_
 refine sy_skip ?_
 refine sy_seq ?_
 refine sy_block ?_
 refine sy_seq ?_
 refine sy_seq ?_
 refine sy_tx' [0, 1, 2, 3, 4, 5, 6, 7, 8, 9, 10, 11] rfl ?_
 refine sp rfl (PE.move rfl) rfl ?_
 refine sp rfl (PE.move rfl) rfl ?_
 refine sp rfl (PE.indexAddr el26 rfl rfl (by omega) (by omega)) rfl ?_
 refine spL rfl rfl (lf0 sc40 (pl_get hz) rfl) rfl ?_
 refine sp rfl (PE.move rfl) rfl ?_
 refine clV rfl cal73 rfl rfl (c_has z.l z.a z.c k hzl _ _) ?_
 refine sp rfl (PE.move rfl) rfl ?_
 refine sy_case (t := 30) rfl (fun g30 => ?_) (fun g30 => ?_)
 rw [has_I] at g30
 refine spG rfl rfl rfl rfl (PE.move rfl) rfl ?_
 refine spG rfl rfl rfl rfl (PE.fieldAddr fo33_0 rfl) rfl ?_
 refine spLG rfl rfl rfl rfl rfl (lh sc3 rfl rfl) rfl ?_
 refine spG rfl rfl rfl rfl (PE.gtr rfl rfl) rfl ?_
 refine sp rfl (PE.pick rfl rfl rfl) rfl ?_
 refine sy_cond rfl (fun hc1 => ?_) (fun hc1 => ?_)
 try simp only [decide_eq_true_eq, decide_eq_false_iff_not, Bool.and_eq_true, Bool.or_eq_true, Bool.not_eq_true', Int.not_le, Int.not_lt] at hc1
 have e1 : (wst b.cool (na b.rise c.toNat) k x.warm ((lls pl).take (d + 1))) = b.cool + na b.rise c.toNat := by rw [take_snoc (lls_get hz), wst_snoc, g30]; simp only [cond_true, cond_false] <;> omega
 refine sy_tx' [0, 1, 2] rfl ?_
 refine sp rfl (PE.fieldAddr fo33_0 rfl) rfl ?_
 refine spL rfl rfl (lh sc3 rfl rfl) rfl ?_
 refine sp rfl (PE.assign rfl) rfl ?_
 refine sy_seq ?_
 refine sy_tx' [0, 1, 2, 3, 4, 5, 6] rfl ?_
 refine sp rfl (PE.move rfl) rfl ?_
 refine sp rfl (PE.move rfl) rfl ?_
 refine sp rfl (PE.fieldAddr fo33_2 rfl) rfl ?_
 refine sp rfl (PE.indexArr ar22 rfl rfl (by omega) (by omega)) rfl ?_
 refine spL rfl rfl (lh sc3 rfl (by rw [show 0 + 2 + c.toNat * 1 = 2 + c.toNat by omega]; exact btl_rise (by omega))) rfl ?_
 refine sp rfl (PE.add rfl rfl (by omega)) rfl ?_
 refine sp rfl (PE.assign rfl) rfl ?_
 refine sy_tx' [0, 1, 2, 3, 4] rfl ?_
 rw [← e1]
 refine sp rfl (PE.move rfl) rfl ?_
 refine sp rfl (PE.move rfl) rfl ?_
 refine bsl (out := [_]) rfl sl40 zl3 rfl rfl rfl rfl rfl rfl (fun b46 => ?_)
 refine apO (o) rfl ap40 rfl rfl (rowsH (row := [.int .i64 ((wst b.cool (na b.rise c.toNat) k x.warm ((lls pl).take (d + 1))))]) rfl) rfl rfl ((by rw [irows_len, wL_len]; simp only [List.length_singleton]; omega)) rfl (fun o47 => ?_)
 refine sp rfl (PE.assign rfl) rfl ?_
 refine sy_tx' [0, 1, 2] rfl ?_
 refine sp rfl (PE.move rfl) rfl ?_
 refine sp rfl (PE.add rfl rfl (by omega)) rfl ?_
 refine sp rfl (PE.assign rfl) rfl ?_
 exact sy_next ⟨⟨d + 1, by omega⟩, o47.cast (by rw [wL_snoc]; simp [irows])⟩ (by dsimp only; omega) (by repeat' first | exact Sub.nil | apply Sub.cons | rfl | (simp [lk]; omega)) (fun w h => (h.del b46).ftail)
 try simp only [decide_eq_true_eq, decide_eq_false_iff_not, Bool.and_eq_true, Bool.or_eq_true, Bool.not_eq_true', Int.not_le, Int.not_lt] at hc1
 have e1 : (wst b.cool (na b.rise c.toNat) k x.warm ((lls pl).take (d + 1))) = (wst b.cool (na b.rise c.toNat) k x.warm ((lls pl).take d)) + na b.rise c.toNat := by rw [take_snoc (lls_get hz), wst_snoc, g30]; simp only [cond_true, cond_false] <;> omega
 refine sy_skip ?_
 refine sy_seq ?_
 refine sy_tx' [0, 1, 2, 3, 4, 5, 6] rfl ?_
 refine sp rfl (PE.move rfl) rfl ?_
 refine sp rfl (PE.move rfl) rfl ?_
 refine sp rfl (PE.fieldAddr fo33_2 rfl) rfl ?_
 refine sp rfl (PE.indexArr ar22 rfl rfl (by omega) (by omega)) rfl ?_
 refine spL rfl rfl (lh sc3 rfl (by rw [show 0 + 2 + c.toNat * 1 = 2 + c.toNat by omega]; exact btl_rise (by omega))) rfl ?_
 refine sp rfl (PE.add rfl rfl (by omega)) rfl ?_
 refine sp rfl (PE.assign rfl) rfl ?_
 refine sy_tx' [0, 1, 2, 3, 4] rfl ?_
 rw [← e1]
 refine sp rfl (PE.move rfl) rfl ?_
 refine sp rfl (PE.move rfl) rfl ?_
 refine bsl (out := [_]) rfl sl40 zl3 rfl rfl rfl rfl rfl rfl (fun b46 => ?_)
 refine apO (o) rfl ap40 rfl rfl (rowsH (row := [.int .i64 ((wst b.cool (na b.rise c.toNat) k x.warm ((lls pl).take (d + 1))))]) rfl) rfl rfl ((by rw [irows_len, wL_len]; simp only [List.length_singleton]; omega)) rfl (fun o47 => ?_)
 refine sp rfl (PE.assign rfl) rfl ?_
 refine sy_tx' [0, 1, 2] rfl ?_
 refine sp rfl (PE.move rfl) rfl ?_
 refine sp rfl (PE.add rfl rfl (by omega)) rfl ?_
 refine sp rfl (PE.assign rfl) rfl ?_
 exact sy_next ⟨⟨d + 1, by omega⟩, o47.cast (by rw [wL_snoc]; simp [irows])⟩ (by dsimp only; omega) (by repeat' first | exact Sub.nil | apply Sub.cons | rfl | (simp [lk]; omega)) (fun w h => (h.del b46).ftail)
 rw [has_I] at g30
 have e1 : (wst b.cool (na b.rise c.toNat) k x.warm ((lls pl).take (d + 1))) = (wst b.cool (na b.rise c.toNat) k x.warm ((lls pl).take d)) + na b.rise c.toNat := by rw [take_snoc (lls_get hz), wst_snoc, g30]; simp only [cond_true, cond_false] <;> omega
 repeat refine spN rfl rfl rfl rfl rfl rfl rfl rfl ?_
 refine sp rfl (PE.pick rfl rfl rfl) rfl ?_
 refine sy_condF rfl ?_
 refine sy_skip ?_
 refine sy_seq ?_
 refine sy_tx' [0, 1, 2, 3, 4, 5, 6] rfl ?_
 refine sp rfl (PE.move rfl) rfl ?_
 refine sp rfl (PE.move rfl) rfl ?_
 refine sp rfl (PE.fieldAddr fo33_2 rfl) rfl ?_
 refine sp rfl (PE.indexArr ar22 rfl rfl (by omega) (by omega)) rfl ?_
 refine spL rfl rfl (lh sc3 rfl (by rw [show 0 + 2 + c.toNat * 1 = 2 + c.toNat by omega]; exact btl_rise (by omega))) rfl ?_
 refine sp rfl (PE.add rfl rfl (by omega)) rfl ?_
 refine sp rfl (PE.assign rfl) rfl ?_
 refine sy_tx' [0, 1, 2, 3, 4] rfl ?_
 rw [← e1]
 refine sp rfl (PE.move rfl) rfl ?_
 refine sp rfl (PE.move rfl) rfl ?_
 refine bsl (out := [_]) rfl sl40 zl3 rfl rfl rfl rfl rfl rfl (fun b46 => ?_)
 refine apO (o) rfl ap40 rfl rfl (rowsH (row := [.int .i64 ((wst b.cool (na b.rise c.toNat) k x.warm ((lls pl).take (d + 1))))]) rfl) rfl rfl ((by rw [irows_len, wL_len]; simp only [List.length_singleton]; omega)) rfl (fun o47 => ?_)
 refine sp rfl (PE.assign rfl) rfl ?_
 refine sy_tx' [0, 1, 2] rfl ?_
 refine sp rfl (PE.move rfl) rfl ?_
 refine sp rfl (PE.add rfl rfl (by omega)) rfl ?_
 refine sp rfl (PE.assign rfl) rfl ?_
 exact sy_next ⟨⟨d + 1, by omega⟩, o47.cast (by rw [wL_snoc]; simp [irows])⟩ (by dsimp only; omega) (by repeat' first | exact Sub.nil | apply Sub.cons | rfl | (simp [lk]; omega)) (fun w h => (h.del b46).ftail)
 try simp only [decide_eq_true_eq, decide_eq_false_iff_not, Bool.and_eq_true, Bool.or_eq_true, Bool.not_eq_true', Int.not_le, Int.not_lt] at hc0
 obtain rfl : d = pl.length := by omega
 obtain ⟨aw, cw, he, hf⟩ := o.freeze
 rw [he, irows_len, wL_len]
 refine Sy.heap (fun w h => hf h) ?_
 clear he hf
 refine sy_exit ?_
 repeat refine sy_tx ?_
 refine sy_bx ?_
 refine sy_seq ?_
 refine sy_tx' [0, 1] rfl ?_
 refine sp rfl (PE.move rfl) rfl ?_
 refine sp rfl (PE.assign rfl) rfl ?_
 refine sy_ret ?_
 exact sy_return (vs := [_]) rfl (.cons (RV.tmp rfl) .nil) rfl ⟨aw, cw, rfl, rfl, rfl⟩ (fun w h => h.del b4)
theorem c_rBurns (b : Barn) (ab : Option Addr) (cb : Nat) (hok : b.ok) (pl : List PL) (ap : Option Addr) (cp : Nat) (hpl : pl.length ≤ 9223372036854775807) (hpi : ∀ x ∈ pl, x.l.length ≤ 9223372036854775807) (hp9 : pl.length ≤ 1000000) (H : Heap) (R : Facts) [hB : MemRows ab 4 (brows b.bins) R] [hP : MemRows ap 1 (plrows pl) R] [hI : MemF (Inn pl) R] :
    FnV Try.prog 25 [b.v (b.sl ab cb), .slice ap pl.length cp] H R (.tuple #[.int .i64 (brnQ b (lls pl)).1, .int .i64 (brnQ b (lls pl)).2.1, .bool (brnQ b (lls pl)).2.2]) := by
 have hmn := hok.many
 refine fn_of Try.func25 rfl Try.ntmps25 rfl ?_
 refine sy_seq ?_
 refine sy_tx' [0, 1, 2, 3] rfl ?_
 refine bx rfl rfl rfl (fun b2 => ?_)
 refine sp rfl (PE.assign rfl) rfl ?_
 refine sp rfl (PE.assign rfl) rfl ?_
 refine sp rfl (PE.assign rfl) rfl ?_
 refine sy_seq ?_
 refine sy_tx' [0, 1, 2] rfl ?_
 refine sp rfl (PE.assign rfl) rfl ?_
 refine sp rfl (PE.assign rfl) rfl ?_
 refine sp rfl (PE.assign rfl) rfl ?_
 refine sy_seq ?_
 refine sy_seq ?_
 refine sy_tx' [0] rfl ?_
 refine sp rfl (PE.assign rfl) rfl ?_
 refine sy_block ?_
 refine sy_loop (ι := {y : Nat × (Nat × Nat × Bool) // y.1 ≤ b.bins.length ∧ Bst (SA b (lls pl) y.1) y.2}) (fun y => ⟨[(1, .slice ap pl.length cp), (2, .pointer (some ⟨b2, 0, none⟩)), (7, .int .i64 y.1.2.1), (8, .int .i64 y.1.2.2.1), (9, .bool y.1.2.2.2), (10, .int .i64 y.1.1)], (b2, cel 33 (btl b (b.sl ab cb))) :: H, R⟩) (fun y => b.bins.length - y.1.1) ⟨(0, 0, 0, false), Nat.zero_le _, SA.start⟩ ?_ (fun y => ?_)
 exact sy_at (by repeat' first | exact Sub.nil | apply Sub.cons | rfl | (simp [lk]; omega)) (fun _ h => h)
 obtain ⟨⟨k, q⟩, hk, hbs⟩ := y
 dsimp only at hk hbs ⊢
 refine sy_seq ?_
 refine sy_seq ?_
 refine sy_tx' [0, 1, 2, 3, 4] rfl ?_
 refine sp rfl (PE.move rfl) rfl ?_
 refine sp rfl (PE.fieldAddr fo33_3 rfl) rfl ?_
 refine spL rfl rfl (lh sc31 rfl rfl) rfl ?_
 refine sp rfl (PE.lenSl isl31 rfl) rfl ?_
 refine sp rfl (PE.lss rfl rfl) rfl ?_
 refine sy_cond rfl (fun hc0 => ?_) (fun hc0 => ?_)
 try simp only [decide_eq_true_eq, decide_eq_false_iff_not, Bool.and_eq_true, Bool.or_eq_true, Bool.not_eq_true', Int.not_le, Int.not_lt] at hc0
 obtain ⟨x, hx⟩ : ∃ x, b.bins[k]? = some x := ⟨_, List.getElem?_eq_getElem (by omega)⟩
 have hm := List.mem_of_getElem? hx
 have hh := hok.bins x hm
 have ho := hok.ord x hm
 have ex : b.binD k = x := bin_getD hx
 refine sy_addr (a := ab) (sz := 4) (rows := brows b.bins) (by intro h0; simp [brows] at h0; simp [h0] at hx) (fun ba oa he => ?_)
 subst he
 refine sy_skip ?_
 refine sy_seq ?_
 refine sy_block ?_
 refine sy_seq ?_
 refine sy_tx' [0, 1, 2, 3, 4, 5, 6, 7] rfl ?_
 refine sp rfl (PE.fieldAddr fo33_3 rfl) rfl ?_
 refine spL rfl rfl (lh sc31 rfl rfl) rfl ?_
 refine sp rfl (PE.move rfl) rfl ?_
 refine sp rfl (PE.indexAddr el31 rfl rfl (by omega) (by omega)) rfl ?_
 refine sp rfl (PE.fieldAddr fo113_2 rfl) rfl ?_
 refine sp rfl (PE.fieldAddr fo43_0 rfl) rfl ?_
 refine spL rfl rfl (lf (j := 2) sc3 (br_get hx) rfl) rfl ?_
 refine sp rfl (PE.assign rfl) rfl ?_
 refine sy_block ?_
 refine sy_loop (ι := {y : Int × (Nat × Nat × Bool) // x.lo ≤ y.1 ∧ y.1 ≤ x.hi + 1 ∧ Bst (SB b (lls pl) k y.1) y.2}) (fun y => ⟨[(1, .slice ap pl.length cp), (2, .pointer (some ⟨b2, 0, none⟩)), (7, .int .i64 y.1.2.1), (8, .int .i64 y.1.2.2.1), (9, .bool y.1.2.2.2), (10, .int .i64 k), (11, .int .i64 y.1.1)], (b2, cel 33 (btl b (b.sl (some ⟨ba, oa, none⟩) cb))) :: H, R⟩) (fun y => (x.hi + 1 - y.1.1).toNat) ⟨(x.lo, q), Int.le_refl _, by dsimp only; omega, SB.start (by rw [ex]) hbs⟩ ?_ (fun y => ?_)
 exact sy_at (by repeat' first | exact Sub.nil | apply Sub.cons | rfl | (simp [lk]; omega)) (fun _ h => h)
 obtain ⟨⟨c, q1⟩, hlo, hhi, hbs1⟩ := y
 dsimp only at hlo hhi hbs1 ⊢
 refine sy_seq ?_
 refine sy_seq ?_
 refine sy_tx' [0, 1, 2, 3, 4, 5, 6, 7, 8] rfl ?_
 refine sp rfl (PE.move rfl) rfl ?_
 refine sp rfl (PE.fieldAddr fo33_3 rfl) rfl ?_
 refine spL rfl rfl (lh sc31 rfl rfl) rfl ?_
 refine sp rfl (PE.move rfl) rfl ?_
 refine sp rfl (PE.indexAddr el31 rfl rfl (by omega) (by omega)) rfl ?_
 refine sp rfl (PE.fieldAddr fo113_2 rfl) rfl ?_
 refine sp rfl (PE.fieldAddr fo43_1 rfl) rfl ?_
 refine spL rfl rfl (lf (j := 3) sc3 (br_get hx) rfl) rfl ?_
 refine sp rfl (PE.leq rfl rfl) rfl ?_
 refine sy_cond rfl (fun hc1 => ?_) (fun hc1 => ?_)
 try simp only [decide_eq_true_eq, decide_eq_false_iff_not, Bool.and_eq_true, Bool.or_eq_true, Bool.not_eq_true', Int.not_le, Int.not_lt] at hc1
 refine sy_skip ?_
 refine sy_seq ?_
 refine sy_block ?_
 refine sy_seq ?_
 refine sy_tx' [0, 1, 2, 3, 4, 5] rfl ?_
 refine spL rfl rfl (lhA (btl b (b.sl (some ⟨ba, oa, none⟩) cb)) ag33 rfl rfl rfl) rfl ?_
 refine sp rfl (PE.move rfl) rfl ?_
 refine sp rfl (PE.move rfl) rfl ?_
 refine sp rfl (PE.move rfl) rfl ?_
 refine cl rfl cal24 rfl rfl (c_rWarmth b (some ⟨ba, oa, none⟩) cb hok pl ap cp hpl hpi hp9 k x hx c (by omega) _ _) ?_
 rintro _ _ _ ⟨aw, cw, rfl, rfl, rfl⟩
 refine sp rfl (PE.assign rfl) rfl ?_
 refine sy_seq ?_
 refine sy_tx' [0] rfl ?_
 refine sp rfl (PE.assign rfl) rfl ?_
 refine sy_block ?_
 refine sy_loop (ι := {y : Nat × (Nat × Nat × Bool) // y.1 ≤ pl.length ∧ Bst (SC b (lls pl) k c y.1) y.2}) (fun y => ⟨[(1, .slice ap pl.length cp), (2, .pointer (some ⟨b2, 0, none⟩)), (7, .int .i64 y.1.2.1), (8, .int .i64 y.1.2.2.1), (9, .bool y.1.2.2.2), (10, .int .i64 k), (11, .int .i64 c), (12, .slice aw pl.length cw), (13, .int .i64 y.1.1)], (b2, cel 33 (btl b (b.sl (some ⟨ba, oa, none⟩) cb))) :: H, RowsA aw 1 (irows (wL b.cool (na b.rise c.toNat) k x.warm (lls pl) pl.length)) :: R⟩) (fun y => pl.length - y.1.1) ⟨(0, q1), Nat.zero_le _, SC.start hbs1⟩ ?_ (fun y => ?_)
 exact sy_at (by repeat' first | exact Sub.nil | apply Sub.cons | rfl | (simp [lk]; omega)) (fun _ h => h)
 obtain ⟨⟨e, q2⟩, he2, hbs2⟩ := y
 dsimp only at he2 hbs2 ⊢
 have hqb := hbs2.bd (by rw [lls_len]; exact he2)
 rw [lls_len] at hqb
 refine sy_seq ?_
 refine sy_seq ?_
 refine sy_tx' [0, 1, 2, 3] rfl ?_
 refine sp rfl (PE.move rfl) rfl ?_
 refine sp rfl (PE.move rfl) rfl ?_
 refine sp rfl (PE.lenSl isl40 rfl) rfl ?_
 refine sp rfl (PE.lss rfl rfl) rfl ?_
 refine sy_cond rfl (fun hc2 => ?_) (fun hc2 => ?_)
 try simp only [decide_eq_true_eq, decide_eq_false_iff_not, Bool.and_eq_true, Bool.or_eq_true, Bool.not_eq_true', Int.not_le, Int.not_lt] at hc2
 refine sy_addr (a := aw) (sz := 1) (rows := irows (wL b.cool (na b.rise c.toNat) k x.warm (lls pl) pl.length)) (by intro h0; have := congrArg List.length h0; rw [irows_len, wL_len] at this; simp only [List.length_nil] at this; omega) (fun bw ow he => ?_)
 subst he
 refine sy_skip ?_
 refine sy_seq ?_
 refine sy_block ?_
 refine sy_seq ?_
 refine sy_draw [0, 0, 3, 7, 0, 16, 0, 112, 240, 496, 1023, 2047, 4095, 8191, 16383, 32767, 32767, 131071, 262143, 524287] (.tk 0 (.tk 1 (.tk 2 (.ld 3 (.tk 4 (.ld 5 (.tk 6 (.tk 7 (.tk 8 (.ld 9 (.tk 10 (.tk 11 (.tk 12 (.tk 13 (.tk 14 (.tk 15 (.tk 16 (.tk 17 (.tk 18 (.tk 19 .done)))))))))))))))))))) mixed (by kernel_rfl) ?_
 refine tk rfl (PE.move rfl) rfl ?_
 refine tk rfl (PE.move rfl) rfl ?_
 refine tk rfl (PE.indexAddr el40 rfl rfl (by omega) (by omega)) rfl ?_
 refine ld rfl rfl (lf0 sc3 (ir_get (wL_get (d := e) (by omega))) rfl) rfl ?_
 refine tk rfl (PE.fieldAddr fo33_3 rfl) rfl ?_
 refine ld rfl rfl (lh sc31 rfl rfl) rfl ?_
 refine tk rfl (PE.move rfl) rfl ?_
 refine tk rfl (PE.indexAddr el31 rfl rfl (by omega) (by omega)) rfl ?_
 refine tk rfl (PE.fieldAddr fo113_1 rfl) rfl ?_
 refine ld rfl rfl (lf (j := 1) sc3 (br_get hx) rfl) rfl ?_
 refine tk rfl (PE.gtr rfl rfl) rfl ?_
 refine tk rfl (PE.move rfl) rfl ?_
 refine sy_case (t := 61) rfl (fun g61 => ?_) (fun g61 => ?_)
 try simp only [decide_eq_true_eq, decide_eq_false_iff_not, Bool.and_eq_true, Bool.or_eq_true, Bool.not_eq_true', Int.not_le, Int.not_lt] at g61
 have hht : hotc b (lls pl) k c e := by unfold hotc; rw [ex]; exact g61
 refine tkG rfl rfl rfl rfl (PE.move rfl) rfl ?_
 refine tkG rfl rfl rfl rfl (PE.not rfl) rfl ?_
 refine tkG rfl rfl rfl rfl (PE.move rfl) rfl ?_
 refine sy_case (t := 64) rfl (fun g64 => ?_) (fun g64 => ?_)
 have hbn := hbs2.add (SC.hot hht) (.inl (by simpa using g64))
 repeat refine tkN rfl rfl rfl rfl rfl rfl rfl rfl ?_
 refine tkG rfl rfl rfl rfl (PE.pick rfl rfl rfl) rfl ?_
 refine tk rfl (PE.pick rfl rfl rfl) rfl ?_
 refine sy_condT rfl ?_
 refine sy_tx' [0, 1, 2, 3, 4] rfl ?_
 refine sp rfl (PE.move rfl) rfl ?_
 refine sp rfl (PE.move rfl) rfl ?_
 refine sp rfl (PE.assign rfl) rfl ?_
 refine sp rfl (PE.assign rfl) rfl ?_
 refine sp rfl (PE.assign rfl) rfl ?_
 refine sy_tx' [0, 1, 2] rfl ?_
 refine sp rfl (PE.move rfl) rfl ?_
 refine sp rfl (PE.add rfl rfl (by omega)) rfl ?_
 refine sp rfl (PE.assign rfl) rfl ?_
 first | exact sy_next ⟨(e + 1, e, k, true), by dsimp only; omega, hbn⟩ (by dsimp only; omega) (by repeat' first | exact Sub.nil | apply Sub.cons | rfl | (simp [lk]; omega)) (fun _ h => h) | exact sy_next ⟨(e + 1, q2), by dsimp only; omega, hbn⟩ (by dsimp only; omega) (by repeat' first | exact Sub.nil | apply Sub.cons | rfl | (simp [lk]; omega)) (fun _ h => h)
 have hq2 : q2.2.2 = true := by simpa using g64
 refine tkG rfl rfl rfl rfl (PE.move rfl) rfl ?_
 refine tkG rfl rfl rfl rfl (PE.move rfl) rfl ?_
 refine tkG rfl rfl rfl rfl (PE.lss rfl rfl) rfl ?_
 refine tkG rfl rfl rfl rfl (PE.pick rfl rfl rfl) rfl ?_
 refine tk rfl (PE.pick rfl rfl rfl) rfl ?_
 refine sy_cond rfl (fun hc3 => ?_) (fun hc3 => ?_)
 try simp only [decide_eq_true_eq, decide_eq_false_iff_not, Bool.and_eq_true, Bool.or_eq_true, Bool.not_eq_true', Int.not_le, Int.not_lt] at hc3
 first | have hbn := hbs2.add (SC.hot hht) (.inr (by omega)) | skip
 refine sy_tx' [0, 1, 2, 3, 4] rfl ?_
 refine sp rfl (PE.move rfl) rfl ?_
 refine sp rfl (PE.move rfl) rfl ?_
 refine sp rfl (PE.assign rfl) rfl ?_
 refine sp rfl (PE.assign rfl) rfl ?_
 refine sp rfl (PE.assign rfl) rfl ?_
 refine sy_tx' [0, 1, 2] rfl ?_
 refine sp rfl (PE.move rfl) rfl ?_
 refine sp rfl (PE.add rfl rfl (by omega)) rfl ?_
 refine sp rfl (PE.assign rfl) rfl ?_
 first | exact sy_next ⟨(e + 1, e, k, true), by dsimp only; omega, hbn⟩ (by dsimp only; omega) (by repeat' first | exact Sub.nil | apply Sub.cons | rfl | (simp [lk]; omega)) (fun _ h => h) | exact sy_next ⟨(e + 1, q2), by dsimp only; omega, hbn⟩ (by dsimp only; omega) (by repeat' first | exact Sub.nil | apply Sub.cons | rfl | (simp [lk]; omega)) (fun _ h => h)
 try simp only [decide_eq_true_eq, decide_eq_false_iff_not, Bool.and_eq_true, Bool.or_eq_true, Bool.not_eq_true', Int.not_le, Int.not_lt] at hc3
 first | have hbn := hbs2.keep (fun j d h => SC.le h) (SC.hot hht) hq2 (by omega) | skip
 refine sy_skip ?_
 refine sy_tx' [0, 1, 2] rfl ?_
 refine sp rfl (PE.move rfl) rfl ?_
 refine sp rfl (PE.add rfl rfl (by omega)) rfl ?_
 refine sp rfl (PE.assign rfl) rfl ?_
 first | exact sy_next ⟨(e + 1, e, k, true), by dsimp only; omega, hbn⟩ (by dsimp only; omega) (by repeat' first | exact Sub.nil | apply Sub.cons | rfl | (simp [lk]; omega)) (fun _ h => h) | exact sy_next ⟨(e + 1, q2), by dsimp only; omega, hbn⟩ (by dsimp only; omega) (by repeat' first | exact Sub.nil | apply Sub.cons | rfl | (simp [lk]; omega)) (fun _ h => h)
 try simp only [decide_eq_true_eq, decide_eq_false_iff_not, Bool.and_eq_true, Bool.or_eq_true, Bool.not_eq_true', Int.not_le, Int.not_lt] at g61
 have hht : ¬ hotc b (lls pl) k c e := by unfold hotc; rw [ex]; omega
 have hbn := SC.cold hbs2 hht
 repeat refine tkN rfl rfl rfl rfl rfl rfl rfl rfl ?_
 repeat refine tkU rfl rfl rfl rfl rfl rfl rfl ?_
 refine tkN rfl rfl rfl rfl rfl rfl rfl rfl ?_
 refine tk rfl (PE.pick rfl rfl rfl) rfl ?_
 refine sy_condF rfl ?_
 refine sy_skip ?_
 refine sy_tx' [0, 1, 2] rfl ?_
 refine sp rfl (PE.move rfl) rfl ?_
 refine sp rfl (PE.add rfl rfl (by omega)) rfl ?_
 refine sp rfl (PE.assign rfl) rfl ?_
 first | exact sy_next ⟨(e + 1, e, k, true), by dsimp only; omega, hbn⟩ (by dsimp only; omega) (by repeat' first | exact Sub.nil | apply Sub.cons | rfl | (simp [lk]; omega)) (fun _ h => h) | exact sy_next ⟨(e + 1, q2), by dsimp only; omega, hbn⟩ (by dsimp only; omega) (by repeat' first | exact Sub.nil | apply Sub.cons | rfl | (simp [lk]; omega)) (fun _ h => h)
 try simp only [decide_eq_true_eq, decide_eq_false_iff_not, Bool.and_eq_true, Bool.or_eq_true, Bool.not_eq_true', Int.not_le, Int.not_lt] at hc2
 obtain rfl : e = pl.length := by omega
 have hbd := SC.done (by rw [ex]; exact hlo) (by rw [lls_len]; exact hbs2)
 refine sy_exit ?_
 repeat refine sy_tx ?_
 refine sy_bx ?_
 refine sy_tx' [0, 1, 2] rfl ?_
 refine sp rfl (PE.move rfl) rfl ?_
 refine sp rfl (PE.add rfl rfl (by omega)) rfl ?_
 refine sp rfl (PE.assign rfl) rfl ?_
 exact sy_next ⟨(c + 1, q2), by dsimp only; omega, by dsimp only; omega, hbd⟩ (by dsimp only; omega) (by repeat' first | exact Sub.nil | apply Sub.cons | rfl | (simp [lk]; omega)) (fun w h => h.ftail)
 try simp only [decide_eq_true_eq, decide_eq_false_iff_not, Bool.and_eq_true, Bool.or_eq_true, Bool.not_eq_true', Int.not_le, Int.not_lt] at hc1
 refine sy_exit ?_
 repeat refine sy_tx ?_
 refine sy_bx ?_
 refine sy_tx' [0, 1, 2] rfl ?_
 refine sp rfl (PE.move rfl) rfl ?_
 refine sp rfl (PE.add rfl rfl (by omega)) rfl ?_
 refine sp rfl (PE.assign rfl) rfl ?_
 exact sy_next ⟨(k + 1, q1), by dsimp only; omega, SB.done (by rw [ex]; omega) hbs1⟩ (by dsimp only; omega) (by repeat' first | exact Sub.nil | apply Sub.cons | rfl | (simp [lk]; omega)) (fun _ h => h)
 try simp only [decide_eq_true_eq, decide_eq_false_iff_not, Bool.and_eq_true, Bool.or_eq_true, Bool.not_eq_true', Int.not_le, Int.not_lt] at hc0
 obtain rfl : k = b.bins.length := by omega
 have hqe := Bst.burns hok hbs
 refine sy_exit ?_
 repeat refine sy_tx ?_
 refine sy_bx ?_
 refine sy_seq ?_
 refine sy_tx' [0, 1, 2, 3, 4, 5] rfl ?_
 refine sp rfl (PE.move rfl) rfl ?_
 refine sp rfl (PE.move rfl) rfl ?_
 refine sp rfl (PE.move rfl) rfl ?_
 refine sp rfl (PE.assign rfl) rfl ?_
 refine sp rfl (PE.assign rfl) rfl ?_
 refine sp rfl (PE.assign rfl) rfl ?_
 refine sy_ret ?_
 exact sy_return (vs := [_, _, _]) rfl (.cons (RV.tmp rfl) (.cons (RV.tmp rfl) (.cons (RV.tmp rfl) .nil))) rfl ⟨by rw [← hqe]; rfl, rfl, rfl⟩ (fun w h => h.del b2)
end Go.Proofs.Ytelegnmfhjfbaaa
namespace Go.Proofs.Ytelegnmfhjfbaaa
set_option linter.unusedSimpArgs false
set_option linter.unusedVariables false
open Go
theorem cal17 : cal Try.prog 17 = true := by kernel_rfl
theorem cal21 : cal Try.prog 21 = true := by kernel_rfl
theorem cal23 : cal Try.prog 23 = true := by kernel_rfl
theorem cal25 : cal Try.prog 25 = true := by kernel_rfl
theorem cal32 : cal Try.prog 32 = true := by kernel_rfl
theorem ub4 : Try.prog.underlying 4 = some .bool := by kernel_rfl
def plU (b : Barn) (p : List (List Int)) : Int := bif decide (b.planned p = 0) then (bif (brnQ b p).2.2 then 0 else 6) else b.planned p
def plV (b : Barn) (p : List (List Int)) : Int := bif decide (b.planned p = 0) then (bif (brnQ b p).2.2 then 8 else 0) else b.planned p
def plW (b : Barn) (p : List (List Int)) (n : Int) : List (Int × Int) := bif decide (warmErr b p n = 0) then warmL b p n else []
def plB (b : Barn) (p : List (List Int)) : Barn := bif decide (b.planned p = 0) && !(brnQ b p).2.2 then b.withB (wbins b.bins (b.burnsF b.warms p 0).2) else zbarn
def plQ (b : Barn) (p : List (List Int)) : Nat × Nat × Bool := bif decide (b.planned p = 0) then brnQ b p else (0, 0, false)
def plK (b : Barn) (p : List (List Int)) : Bool := bif decide (b.planned p = 0) then !(brnQ b p).2.2 else false
theorem brn_none {b : Barn} {p : List (List Int)} (h : (b.burnsF b.warms p 0).1 = none) : brnQ b p = (0, 0, false) := by unfold brnQ; rw [h]
theorem brn_some {b : Barn} {p : List (List Int)} {q : Nat × Nat} (h : (b.burnsF b.warms p 0).1 = some q) : brnQ b p = (q.1, q.2, true) := by unfold brnQ; rw [h]
theorem brn_cases (b : Barn) (p : List (List Int)) : (∃ ws, b.burnsF b.warms p 0 = (none, ws) ∧ brnQ b p = (0, 0, false)) ∨ ∃ d k ws, b.burnsF b.warms p 0 = (some (d, k), ws) ∧ brnQ b p = (d, k, true) := by
  cases h : b.burnsF b.warms p 0 with
  | mk o ws => cases o with
    | none => exact .inl ⟨ws, rfl, brn_none (by rw [h])⟩
    | some q => exact .inr ⟨q.1, q.2, ws, rfl, brn_some (by rw [h])⟩
theorem warmErr_bad {b : Barn} {p : List (List Int)} {n : Int} (h : b.planned p ≠ 0) : warmErr b p n = b.planned p := by unfold warmErr; rw [decide_eq_false h]; rfl
theorem plBad {b : Barn} {p : List (List Int)} {n : Int} (h : b.planned p ≠ 0) : warmErr b p n = b.planned p ∧ plU b p = b.planned p ∧ plV b p = b.planned p ∧ plW b p n = [] ∧ plQ b p = (0, 0, false) ∧ plB b p = zbarn := by
  have e := warmErr_bad (n := n) h
  refine ⟨e, ?_, ?_, ?_, ?_, ?_⟩
  · unfold plU; rw [decide_eq_false h]; rfl
  · unfold plV; rw [decide_eq_false h]; rfl
  · unfold plW; rw [e, decide_eq_false h]; rfl
  · unfold plQ; rw [decide_eq_false h]; rfl
  · unfold plB; rw [decide_eq_false h]; rfl
theorem plHot {b : Barn} {p : List (List Int)} (h : b.planned p = 0) (h2 : (brnQ b p).2.2 = true) : plU b p = 0 ∧ plV b p = 8 ∧ plQ b p = brnQ b p ∧ plB b p = zbarn := by
  refine ⟨?_, ?_, ?_, ?_⟩
  · unfold plU; rw [decide_eq_true h, h2]; rfl
  · unfold plV; rw [decide_eq_true h, h2]; rfl
  · unfold plQ; rw [decide_eq_true h]; rfl
  · unfold plB; rw [decide_eq_true h, h2]; rfl
theorem plCold {b : Barn} {p : List (List Int)} (h : b.planned p = 0) (h2 : (brnQ b p).2.2 = false) : ∃ ws, b.burnsF b.warms p 0 = (none, ws) ∧ plU b p = 6 ∧ plV b p = 0 ∧ plQ b p = (0, 0, false) ∧ plB b p = b.withB (wbins b.bins ws) := by
  rcases brn_cases b p with ⟨ws, h3, h4⟩ | ⟨d, k, ws, h3, h4⟩
  · refine ⟨ws, h3, ?_, ?_, ?_, ?_⟩
    · unfold plU; rw [decide_eq_true h, h2]; rfl
    · unfold plV; rw [decide_eq_true h, h2]; rfl
    · unfold plQ; rw [decide_eq_true h]; exact h4
    · unfold plB; rw [decide_eq_true h, h2, h3]; rfl
  · rw [h4] at h2; cases h2
theorem keepsV_eq (b : Barn) (p : List (List Int)) : b.keepsV p = .tuple #[.bool (plK b p), .int .i64 (b.planned p)] := by
  unfold Barn.keepsV plK
  by_cases h : b.planned p = 0
  · rw [decide_eq_true h, cond_true, cond_true, h]
    rcases brn_cases b p with ⟨ws, h3, h4⟩ | ⟨d, k, ws, h3, h4⟩ <;> rw [h3, h4] <;> rfl
  · rw [decide_eq_false h]; rfl
theorem burnsV_eq (b : Barn) (p : List (List Int)) : b.burnsV p = .tuple #[.int .i64 (plQ b p).1, .int .i64 (plQ b p).2.1, .int .i64 (plU b p)] := by
  unfold Barn.burnsV plQ plU
  by_cases h : b.planned p = 0
  · rw [decide_eq_true h, cond_true, cond_true, cond_true]
    rcases brn_cases b p with ⟨ws, h3, h4⟩ | ⟨d, k, ws, h3, h4⟩ <;> rw [h3, h4] <;> rfl
  · rw [decide_eq_false h]; rfl
theorem plK_ok {b : Barn} {p : List (List Int)} (h : b.planned p = 0) : plK b p = !(plQ b p).2.2 := by unfold plK plQ; rw [decide_eq_true h]; rfl
theorem plK_bad {b : Barn} {p : List (List Int)} (h : b.planned p ≠ 0) : plK b p = false := by unfold plK; rw [decide_eq_false h]; rfl
theorem burns_last {b : Barn} {p : List (List Int)} {ws : List Int} (h : b.burnsF b.warms p 0 = (none, ws)) {k : Nat} {x : HBin} (hx : b.bins[k]? = some x) : na ws k = wst b.cool (b.worst x) k x.warm p := by
  have hk := (List.getElem?_eq_some_iff.1 hx).1
  have h1 := b.burns_at p _ ws 0 h k hk (by simp [Barn.warms])
  have ew : na b.warms k = x.warm := by unfold na Barn.warms; rw [List.getD_eq_getElem?_getD, List.getElem?_map, hx]; rfl
  rw [bin_getD hx, ew] at h1
  exact h1
theorem mid_skip {l : List HBin} {ws : List Int} (hl : ws.length = l.length) {k : Nat} {x : HBin} (hx : l[k]? = some x) (h : na ws k = x.warm) : (wbins l ws).take k ++ l.drop k = (wbins l ws).take (k + 1) ++ l.drop (k + 1) := by
  have hk := (List.getElem?_eq_some_iff.1 hx).1
  have hw : ws[k]? = some (na ws k) := na_get (by omega)
  rw [List.take_add_one, wbins_get hx hw, h, List.drop_eq_getElem_cons hk, (List.getElem?_eq_some_iff.1 hx).2, List.append_assoc]
  rfl
theorem c_WarmthF (b : Barn) (ab : Option Addr) (cb : Nat) (hl : b.bins.length ≤ 9223372036854775807) (hr : b.rise.length = 6) (pl : List PL) (ap : Option Addr) (cp : Nat) (hpl : pl.length ≤ 9223372036854775807) (hpi : ∀ x ∈ pl, x.l.length ≤ 9223372036854775807) (n : Int) (H : Heap) (R : Facts) [hB : MemRows ab 4 (brows b.bins) R] [hP : MemRows ap 1 (plrows pl) R] [hI : MemF (Inn pl) R] : Fn Try.prog 26 [b.v (b.sl ab cb), .slice ap pl.length cp, .int .i64 n] H R (fun v H' R' => ∃ (ax : Option Addr) (cx : Nat), v = .tuple #[.slice ax (plW b (lls pl) n).length cx, .int .i64 (warmErr b (lls pl) n)] ∧ H' = H ∧ R' = RowsA ax 2 (sprows (plW b (lls pl) n)) :: R) := fun w hw => by
  refine CallsIn.mono (c_Warmth b ab cb hl hr pl ap cp hpl hpi n H R w hw) ?_
  rintro e' w' ⟨u, H', R', ⟨(⟨hne, rfl, rfl⟩ | ⟨he0, o, rfl, rfl⟩), rfl⟩, he, hs'⟩
  · have e0 : plW b (lls pl) n = [] := by unfold plW; rw [decide_eq_false hne]; rfl
    exact ⟨_, _, _, ⟨none, 0, by rw [e0]; rfl, rfl, rfl⟩, he, by rw [e0]; exact St.noRows hs'⟩
  · have e0 : plW b (lls pl) n = warmL b (lls pl) n := by unfold plW; rw [decide_eq_true he0]; rfl
    obtain ⟨ax, cx, hfs, hf⟩ := o.freeze
    refine ⟨_, _, _, ⟨ax, cx, by rw [hfs, sprows_len, e0, he0], rfl, rfl⟩, he, by rw [e0]; exact hf hs'⟩
theorem c_KeepsF (b : Barn) (ab : Option Addr) (cb : Nat) (hl : b.bins.length ≤ 9223372036854775807) (hr : b.rise.length = 6) (pl : List PL) (ap : Option Addr) (cp : Nat) (hpl : pl.length ≤ 9223372036854775807) (hpi : ∀ x ∈ pl, x.l.length ≤ 9223372036854775807) (H : Heap) (R : Facts) [hB : MemRows ab 4 (brows b.bins) R] [hP : MemRows ap 1 (plrows pl) R] [hI : MemF (Inn pl) R] : FnV Try.prog 27 [b.v (b.sl ab cb), .slice ap pl.length cp] H R (.tuple #[.bool (plK b (lls pl)), .int .i64 (b.planned (lls pl))]) := keepsV_eq b (lls pl) ▸ c_Keeps b ab cb hl hr pl ap cp hpl hpi H R
theorem c_BurnsF (b : Barn) (ab : Option Addr) (cb : Nat) (hl : b.bins.length ≤ 9223372036854775807) (hr : b.rise.length = 6) (pl : List PL) (ap : Option Addr) (cp : Nat) (hpl : pl.length ≤ 9223372036854775807) (hpi : ∀ x ∈ pl, x.l.length ≤ 9223372036854775807) (H : Heap) (R : Facts) [hB : MemRows ab 4 (brows b.bins) R] [hP : MemRows ap 1 (plrows pl) R] [hI : MemF (Inn pl) R] : FnV Try.prog 28 [b.v (b.sl ab cb), .slice ap pl.length cp] H R (.tuple #[.int .i64 (plQ b (lls pl)).1, .int .i64 (plQ b (lls pl)).2.1, .int .i64 (plU b (lls pl))]) := burnsV_eq b (lls pl) ▸ c_Burns b ab cb hl hr pl ap cp hpl hpi H R
theorem c_AfterF (b : Barn) (ab : Option Addr) (cb : Nat) (hl : b.bins.length ≤ 9223372036854775807) (hr : b.rise.length = 6) (pl : List PL) (ap : Option Addr) (cp : Nat) (hpl : pl.length ≤ 9223372036854775807) (hpi : ∀ x ∈ pl, x.l.length ≤ 9223372036854775807) (H : Heap) (R : Facts) [hB : MemRows ab 4 (brows b.bins) R] [hP : MemRows ap 1 (plrows pl) R] [hI : MemF (Inn pl) R] : Fn Try.prog 29 [b.v (b.sl ab cb), .slice ap pl.length cp] H R (fun v H' R' => R' = R ∧ ((plB b (lls pl) = zbarn ∧ v = .tuple #[zbv, .int .i64 (plV b (lls pl))] ∧ H' = H) ∨
    (∃ (ws : List Int) (bo : Nat), ws.length = b.bins.length ∧ plB b (lls pl) = b.withB (wbins b.bins ws) ∧ v = .tuple #[(b.withB (wbins b.bins ws)).v ((b.withB (wbins b.bins ws)).sl (some ⟨bo, 0, none⟩) b.bins.length), .int .i64 (plV b (lls pl))] ∧ H' = (bo, cel 45 (brows (wbins b.bins ws)).flatten) :: H))) := fun w hw => by
  refine CallsIn.mono (c_After b ab cb hl hr pl ap cp hpl hpi H R w hw) ?_
  rintro e' w' ⟨u, H', R', ⟨hR, hq⟩, he, hs'⟩
  refine ⟨u, H', R', ⟨hR, ?_⟩, he, hs'⟩
  rcases hq with ⟨hne, rfl, rfl⟩ | ⟨h0, ⟨q, ws, hb⟩, rfl, rfl⟩ | ⟨h0, ws, bo, hb, hcw, rfl, rfl⟩
  · obtain ⟨_, _, e3, _, _, e6⟩ := plBad (n := 0) hne
    exact .inl ⟨e6, by rw [e3], rfl⟩
  · have e := brn_some (b := b) (p := (lls pl)) (q := q) (by rw [hb])
    obtain ⟨_, e2, _, e4⟩ := plHot h0 (by rw [e])
    exact .inl ⟨e4, by rw [e2], rfl⟩
  · have e := brn_none (b := b) (p := (lls pl)) (by rw [hb])
    obtain ⟨ws', h1, _, e2, _, e4⟩ := plCold h0 (by rw [e])
    rw [hb] at h1
    cases h1
    exact .inr ⟨ws, bo, hcw.len, e4, by rw [e2], rfl⟩
theorem c_HeatPlans (b : Barn) (ab : Option Addr) (cb : Nat) (pl : List PL) (ap : Option Addr) (cp : Nat) (hpl : pl.length ≤ 9223372036854775807) (hpi : ∀ x ∈ pl, x.l.length ≤ 9223372036854775807) (n : Int) (hn : -9223372036854775808 ≤ n ∧ n ≤ 9223372036854775807) (hl : b.bins.length ≤ 9223372036854775807) (hr : b.rise.length = 6) (H : Heap) (R : Facts) [hB : MemRows ab 4 (brows b.bins) R] [hP : MemRows ap 1 (plrows pl) R] [hI : MemF (Inn pl) R] :
    Fn Try.prog 3 [b.v (b.sl ab cb), .slice ap pl.length cp, .int .i64 n] H R (fun v H' R' => v = .bool true ∧ H' = H ∧ R' = R) := by
 refine fn_of Try.func3 rfl Try.ntmps3 rfl ?_
 refine sy_seq ?_
 refine sy_tx' [0, 1] rfl ?_
 refine bx rfl rfl rfl (fun b3 => ?_)
 refine sp rfl (PE.assign rfl) rfl ?_
 refine sy_seq ?_
 refine sy_seq ?_
 refine sy_tx' [0, 1, 2, 3, 4, 5] rfl ?_
 refine spL rfl rfl (lhA (btl b (b.sl ab cb)) ag25 rfl rfl rfl) rfl ?_
 refine clV rfl cal16 rfl rfl (c_great b ab cb hl _ _) ?_
 refine sp rfl (PE.move rfl) rfl ?_
 refine sy_case (t := 35) rfl (fun g35 => ?_) (fun g35 => ?_)
 repeat refine spN rfl rfl rfl rfl rfl rfl rfl rfl ?_
 refine sp rfl (PE.pick rfl rfl rfl) rfl ?_
 refine sy_condT rfl ?_
 refine sy_seq ?_
 refine sy_tx' [0, 1] rfl ?_
 refine clV rfl cal18 rfl rfl (c_awake _ _) ?_
 refine sp rfl (PE.assign rfl) rfl ?_
 refine sy_ret ?_
 exact sy_return (vs := [_]) rfl (.cons (RV.tmp rfl) .nil) rfl ⟨rfl, rfl, rfl⟩ (fun w h => h.del b3)
 refine spG rfl rfl rfl rfl (PE.move rfl) rfl ?_
 refine clVG rfl rfl rfl rfl cal17 rfl rfl (c_long pl ap cp hpl hpi _ _) ?_
 refine sp rfl (PE.pick rfl rfl rfl) rfl ?_
 refine sy_cond rfl (fun hc0 => ?_) (fun hc0 => ?_)
 refine sy_seq ?_
 refine sy_tx' [0, 1] rfl ?_
 refine clV rfl cal18 rfl rfl (c_awake _ _) ?_
 refine sp rfl (PE.assign rfl) rfl ?_
 refine sy_ret ?_
 exact sy_return (vs := [_]) rfl (.cons (RV.tmp rfl) .nil) rfl ⟨rfl, rfl, rfl⟩ (fun w h => h.del b3)
 have h8 : ¬ 8 < b.bins.length := by simpa using g35
 obtain ⟨hp24, hpe8'⟩ := longP_no hc0
 rw [lls_len] at hp24
 have hpe8 : ∀ x ∈ pl, x.l.length ≤ 8 := fun x hx => hpe8' x.l (List.mem_map.2 ⟨x, hx, rfl⟩)
 have hp9 : pl.length ≤ 1000000 := by omega
 refine sy_skip ?_
 refine sy_seq ?_
 refine sy_free [0, 1, 0, 7, 0, 31, 0, 0, 255, 511, 1023] [0, 1, 2, 3, 4, 5, 6, 7, 8, 9, 10] mixed (by kernel_rfl) rfl (fun s L H1 R1 => ∃ (a1 : Option Addr) (c1 : Nat) (a2 : Option Addr) (c2 : Nat) (ql : List PL) (aq : Option Addr) (cq : Nat) (b7 : Nat) (x7 : List Value) (b8 : Nat) (x8 : List Value), Sub [(1, .slice ap pl.length cp), (2, .int .i64 n), (3, .pointer (some ⟨b3, 0, none⟩))] L ∧ (∀ f ∈ (R : Facts), f ∈ R1) ∧ (s 0 = true → lk L 40 = some (b.v (b.sl ab cb))) ∧ (s 1 = true → lk L 41 = some (b.v (b.sl a1 c1)) ∧ (RowsA a1 4 (brows b.bins)) ∈ R1) ∧ (s 2 = true → lk L 42 = some (b.v (b.sl ab cb))) ∧ (s 3 = true → lk L 43 = some (b.v (b.sl a2 c2)) ∧ (RowsA a2 4 (brows b.bins)) ∈ R1) ∧ (s 4 = true → lk L 44 = some (.slice ap pl.length cp)) ∧ (s 5 = true → lk L 45 = some (.slice aq ql.length cq) ∧ (RowsA aq 1 (plrows ql)) ∈ R1 ∧ (Inn ql) ∈ R1 ∧ (lls ql = lls pl)) ∧ (s 6 = true → lk L 7 = some (.pointer (some ⟨b7, 0, none⟩)) ∧ (s 8 = false → x7 = [.int .i64 0, .int .i64 0, .int .i64 0, .int .i64 0, .int .i64 0, .int .i64 0, .int .i64 0, .int .i64 0, .slice none 0 0])) ∧ (s 7 = true → lk L 8 = some (.pointer (some ⟨b8, 0, none⟩)) ∧ (s 9 = false → x8 = [.int .i64 0, .int .i64 0, .int .i64 0, .int .i64 0, .int .i64 0, .int .i64 0, .int .i64 0, .int .i64 0, .slice none 0 0])) ∧ (s 8 = true → x7 = btl b (b.sl a1 c1)) ∧ (s 9 = true → x8 = btl b (b.sl a2 c2)) ∧ (s 10 = true → lk L 9 = some (.slice aq ql.length cq)) ∧ ∀ w, St H1 R1 w → St ((bif s 7 then [(b8, cel 33 x8)] else []) ++ ((bif s 6 then [(b7, cel 25 x7)] else []) ++ ((b3, cel 25 (btl b (b.sl ab cb))) :: H))) R1 w) ?_ ?_ ?_
 exact ⟨none, 0, none, 0, [], none, 0, 0, [], 0, [], (by repeat' first | exact Sub.nil | apply Sub.cons | rfl | (simp [lk]; omega)), fun _ hf => hf, (fun h => by cases (show false = true from h)), (fun h => by cases (show false = true from h)), (fun h => by cases (show false = true from h)), (fun h => by cases (show false = true from h)), (fun h => by cases (show false = true from h)), (fun h => by cases (show false = true from h)), (fun h => by cases (show false = true from h)), (fun h => by cases (show false = true from h)), (fun h => by cases (show false = true from h)), (fun h => by cases (show false = true from h)), (fun h => by cases (show false = true from h)), fun w h => h⟩
 refine ⟨?_, ?_, ?_, ?_, ?_, ?_, ?_, ?_, ?_, ?_, ?_, trivial⟩
 intro s Lz Hz Rz hdn hs hpre hI K hK
 obtain ⟨a1, c1, a2, c2, ql, aq, cq, b7, x7, b8, x8, hL0, hR0, q0, q1, q2, q3, q4, q5, q6, q7, q8, q9, q10, hH⟩ := hI
 refine Sy.heap hH ?_
 refine spL rfl (Sub.lk hL0 _ _ rfl) ((lhA (btl b (b.sl ab cb)) ag25 rfl rfl rfl)) rfl ?_
 exact hK _ _ _ ⟨a1, c1, a2, c2, ql, aq, cq, b7, x7, b8, x8, sub_more rfl hL0, hR0, fun _ => lk_same, fun h => ⟨lk_more rfl (q1 h).1, (q1 h).2⟩, fun h => lk_more rfl (q2 h), fun h => ⟨lk_more rfl (q3 h).1, (q3 h).2⟩, fun h => lk_more rfl (q4 h), fun h => ⟨lk_more rfl (q5 h).1, (q5 h).2.1, (q5 h).2.2.1, (q5 h).2.2.2⟩, fun h => ⟨lk_more rfl (q6 h).1, (q6 h).2⟩, fun h => ⟨lk_more rfl (q7 h).1, (q7 h).2⟩, fun h => q8 h, fun h => q9 h, fun h => lk_more rfl (q10 h), fun w h => h⟩
 intro s Lz Hz Rz hdn hs hpre hI K hK
 obtain ⟨a1, c1, a2, c2, ql, aq, cq, b7, x7, b8, x8, hL0, hR0, q0, q1, q2, q3, q4, q5, q6, q7, q8, q9, q10, hH⟩ := hI
 have h0 : s 0 = true := hpre 0 rfl
 refine Sy.heap hH ?_
 haveI m0 : MemRows ab 4 (brows b.bins) Rz := ⟨hR0 _ (inferInstance : MemRows ab 4 (brows b.bins) (R)).mem⟩
 refine cl rfl cal19 rfl (by simp only [evs, show ev Lz (.tmp 40) = _ from (q0 h0)]) (c_OwnF b ab cb (by omega) _ _) ?_
 rintro _ _ R1 ⟨a1, c1, rfl, rfl, hR1⟩
 obtain rfl := hR1.symm
 clear hR1
 exact hK _ _ _ ⟨a1, c1, a2, c2, ql, aq, cq, b7, x7, b8, x8, sub_more rfl hL0, fin_more (hR0), fun h => lk_more rfl (q0 h), fun _ => ⟨lk_same, (by simp)⟩, fun h => lk_more rfl (q2 h), fun h => ⟨lk_more rfl (q3 h).1, List.mem_cons_of_mem _ ((q3 h).2)⟩, fun h => lk_more rfl (q4 h), fun h => ⟨lk_more rfl (q5 h).1, List.mem_cons_of_mem _ ((q5 h).2.1), List.mem_cons_of_mem _ ((q5 h).2.2.1), (q5 h).2.2.2⟩, fun h => ⟨lk_more rfl (q6 h).1, (q6 h).2⟩, fun h => ⟨lk_more rfl (q7 h).1, (q7 h).2⟩, fun h => absurd (hdn 8 1 (Nat.le_of_ble_eq_true rfl) rfl h) (by rw [hs]; exact Bool.false_ne_true), fun h => q9 h, fun h => lk_more rfl (q10 h), fun w h => h⟩
 intro s Lz Hz Rz hdn hs hpre hI K hK
 obtain ⟨a1, c1, a2, c2, ql, aq, cq, b7, x7, b8, x8, hL0, hR0, q0, q1, q2, q3, q4, q5, q6, q7, q8, q9, q10, hH⟩ := hI
 refine Sy.heap hH ?_
 refine spL rfl (Sub.lk hL0 _ _ rfl) ((lhA (btl b (b.sl ab cb)) ag25 rfl rfl rfl)) rfl ?_
 exact hK _ _ _ ⟨a1, c1, a2, c2, ql, aq, cq, b7, x7, b8, x8, sub_more rfl hL0, hR0, fun h => lk_more rfl (q0 h), fun h => ⟨lk_more rfl (q1 h).1, (q1 h).2⟩, fun _ => lk_same, fun h => ⟨lk_more rfl (q3 h).1, (q3 h).2⟩, fun h => lk_more rfl (q4 h), fun h => ⟨lk_more rfl (q5 h).1, (q5 h).2.1, (q5 h).2.2.1, (q5 h).2.2.2⟩, fun h => ⟨lk_more rfl (q6 h).1, (q6 h).2⟩, fun h => ⟨lk_more rfl (q7 h).1, (q7 h).2⟩, fun h => q8 h, fun h => q9 h, fun h => lk_more rfl (q10 h), fun w h => h⟩
 intro s Lz Hz Rz hdn hs hpre hI K hK
 obtain ⟨a1, c1, a2, c2, ql, aq, cq, b7, x7, b8, x8, hL0, hR0, q0, q1, q2, q3, q4, q5, q6, q7, q8, q9, q10, hH⟩ := hI
 obtain ⟨h0, h1, h2⟩ : s 0 = true ∧ s 1 = true ∧ s 2 = true := ⟨hpre 0 rfl, hpre 1 rfl, hpre 2 rfl⟩
 refine Sy.heap hH ?_
 haveI m0 : MemRows ab 4 (brows b.bins) Rz := ⟨hR0 _ (inferInstance : MemRows ab 4 (brows b.bins) (R)).mem⟩
 refine cl rfl cal20 rfl (by simp only [evs, show ev Lz (.tmp 42) = _ from (q2 h2)]) (c_theirs b ab cb (by omega) _ _) ?_
 rintro _ _ R1 ⟨a2, c2, rfl, rfl, hR1⟩
 obtain rfl := hR1.symm
 clear hR1
 exact hK _ _ _ ⟨a1, c1, a2, c2, ql, aq, cq, b7, x7, b8, x8, sub_more rfl hL0, fin_more (hR0), fun h => lk_more rfl (q0 h), fun h => ⟨lk_more rfl (q1 h).1, List.mem_cons_of_mem _ ((q1 h).2)⟩, fun h => lk_more rfl (q2 h), fun _ => ⟨lk_same, (by simp)⟩, fun h => lk_more rfl (q4 h), fun h => ⟨lk_more rfl (q5 h).1, List.mem_cons_of_mem _ ((q5 h).2.1), List.mem_cons_of_mem _ ((q5 h).2.2.1), (q5 h).2.2.2⟩, fun h => ⟨lk_more rfl (q6 h).1, (q6 h).2⟩, fun h => ⟨lk_more rfl (q7 h).1, (q7 h).2⟩, fun h => q8 h, fun h => absurd (hdn 9 3 (Nat.le_of_ble_eq_true rfl) rfl h) (by rw [hs]; exact Bool.false_ne_true), fun h => lk_more rfl (q10 h), fun w h => h⟩
 intro s Lz Hz Rz hdn hs hpre hI K hK
 obtain ⟨a1, c1, a2, c2, ql, aq, cq, b7, x7, b8, x8, hL0, hR0, q0, q1, q2, q3, q4, q5, q6, q7, q8, q9, q10, hH⟩ := hI
 refine Sy.heap hH ?_
 refine sp rfl (PE.move (Sub.lk hL0 _ _ rfl)) rfl ?_
 exact hK _ _ _ ⟨a1, c1, a2, c2, ql, aq, cq, b7, x7, b8, x8, sub_more rfl hL0, hR0, fun h => lk_more rfl (q0 h), fun h => ⟨lk_more rfl (q1 h).1, (q1 h).2⟩, fun h => lk_more rfl (q2 h), fun h => ⟨lk_more rfl (q3 h).1, (q3 h).2⟩, fun _ => lk_same, fun h => ⟨lk_more rfl (q5 h).1, (q5 h).2.1, (q5 h).2.2.1, (q5 h).2.2.2⟩, fun h => ⟨lk_more rfl (q6 h).1, (q6 h).2⟩, fun h => ⟨lk_more rfl (q7 h).1, (q7 h).2⟩, fun h => q8 h, fun h => q9 h, fun h => lk_more rfl (q10 h), fun w h => h⟩
 intro s Lz Hz Rz hdn hs hpre hI K hK
 obtain ⟨a1, c1, a2, c2, ql, aq, cq, b7, x7, b8, x8, hL0, hR0, q0, q1, q2, q3, q4, q5, q6, q7, q8, q9, q10, hH⟩ := hI
 obtain ⟨h0, h1, h2, h3, h4⟩ : s 0 = true ∧ s 1 = true ∧ s 2 = true ∧ s 3 = true ∧ s 4 = true := ⟨hpre 0 rfl, hpre 1 rfl, hpre 2 rfl, hpre 3 rfl, hpre 4 rfl⟩
 refine Sy.heap hH ?_
 haveI m0 : MemRows ap 1 (plrows pl) Rz := ⟨hR0 _ (inferInstance : MemRows ap 1 (plrows pl) (R)).mem⟩
 haveI m1 : MemF (Inn pl) Rz := ⟨hR0 _ (inferInstance : MemF (Inn pl) (R)).mem⟩
 refine cl rfl cal21 rfl (by simp only [evs, show ev Lz (.tmp 44) = _ from (q4 h4)]) (c_DupRows pl ap cp (by omega) (fun x hx => by have := hpe8 x hx; omega) _ _) ?_
 rintro _ _ R1 ⟨ql, aq, cq, hqe, rfl, rfl, hR1⟩
 obtain rfl := hR1.symm
 clear hR1
 exact hK _ _ _ ⟨a1, c1, a2, c2, ql, aq, cq, b7, x7, b8, x8, sub_more rfl hL0, fin_more (fin_more (hR0)), fun h => lk_more rfl (q0 h), fun h => ⟨lk_more rfl (q1 h).1, List.mem_cons_of_mem _ (List.mem_cons_of_mem _ ((q1 h).2))⟩, fun h => lk_more rfl (q2 h), fun h => ⟨lk_more rfl (q3 h).1, List.mem_cons_of_mem _ (List.mem_cons_of_mem _ ((q3 h).2))⟩, fun h => lk_more rfl (q4 h), fun _ => ⟨lk_same, (by simp), (by simp), hqe⟩, fun h => ⟨lk_more rfl (q6 h).1, (q6 h).2⟩, fun h => ⟨lk_more rfl (q7 h).1, (q7 h).2⟩, fun h => q8 h, fun h => q9 h, fun h => absurd (hdn 10 5 (Nat.le_of_ble_eq_true rfl) rfl h) (by rw [hs]; exact Bool.false_ne_true), fun w h => h⟩
 intro s Lz Hz Rz hdn hs hpre hI K hK
 obtain ⟨a1, c1, a2, c2, ql, aq, cq, b7, x7, b8, x8, hL0, hR0, q0, q1, q2, q3, q4, q5, q6, q7, q8, q9, q10, hH⟩ := hI
 refine Sy.heap hH ?_
 refine alc rfl zl25 rfl (fun b7 => ?_)
 exact hK _ _ _ ⟨a1, c1, a2, c2, ql, aq, cq, b7, [.int .i64 0, .int .i64 0, .int .i64 0, .int .i64 0, .int .i64 0, .int .i64 0, .int .i64 0, .int .i64 0, .slice none 0 0], b8, x8, sub_more rfl hL0, hR0, fun h => lk_more rfl (q0 h), fun h => ⟨lk_more rfl (q1 h).1, (q1 h).2⟩, fun h => lk_more rfl (q2 h), fun h => ⟨lk_more rfl (q3 h).1, (q3 h).2⟩, fun h => lk_more rfl (q4 h), fun h => ⟨lk_more rfl (q5 h).1, (q5 h).2.1, (q5 h).2.2.1, (q5 h).2.2.2⟩, fun _ => ⟨lk_same, fun _ => rfl⟩, fun h => ⟨lk_more rfl (q7 h).1, (q7 h).2⟩, fun h => absurd (hdn 8 6 (Nat.le_of_ble_eq_true rfl) rfl h) (by rw [hs]; exact Bool.false_ne_true), fun h => q9 h, fun h => lk_more rfl (q10 h), fun w h => by rw [hs] at h; exact h.perm (List.perm_middle.symm.trans (List.Perm.append_left _ (.refl _)))⟩
 intro s Lz Hz Rz hdn hs hpre hI K hK
 obtain ⟨a1, c1, a2, c2, ql, aq, cq, b7, x7, b8, x8, hL0, hR0, q0, q1, q2, q3, q4, q5, q6, q7, q8, q9, q10, hH⟩ := hI
 refine Sy.heap hH ?_
 refine alc rfl zl33 rfl (fun b8 => ?_)
 exact hK _ _ _ ⟨a1, c1, a2, c2, ql, aq, cq, b7, x7, b8, [.int .i64 0, .int .i64 0, .int .i64 0, .int .i64 0, .int .i64 0, .int .i64 0, .int .i64 0, .int .i64 0, .slice none 0 0], sub_more rfl hL0, hR0, fun h => lk_more rfl (q0 h), fun h => ⟨lk_more rfl (q1 h).1, (q1 h).2⟩, fun h => lk_more rfl (q2 h), fun h => ⟨lk_more rfl (q3 h).1, (q3 h).2⟩, fun h => lk_more rfl (q4 h), fun h => ⟨lk_more rfl (q5 h).1, (q5 h).2.1, (q5 h).2.2.1, (q5 h).2.2.2⟩, fun h => ⟨lk_more rfl (q6 h).1, (q6 h).2⟩, fun _ => ⟨lk_same, fun _ => rfl⟩, fun h => q8 h, fun h => absurd (hdn 9 7 (Nat.le_of_ble_eq_true rfl) rfl h) (by rw [hs]; exact Bool.false_ne_true), fun h => lk_more rfl (q10 h), fun w h => by rw [hs] at h; exact h.perm (.refl _)⟩
 intro s Lz Hz Rz hdn hs hpre hI K hK
 obtain ⟨a1, c1, a2, c2, ql, aq, cq, b7, x7, b8, x8, hL0, hR0, q0, q1, q2, q3, q4, q5, q6, q7, q8, q9, q10, hH⟩ := hI
 obtain ⟨h0, h1, h2, h3, h4, h5, h6, h7⟩ : s 0 = true ∧ s 1 = true ∧ s 2 = true ∧ s 3 = true ∧ s 4 = true ∧ s 5 = true ∧ s 6 = true ∧ s 7 = true := ⟨hpre 0 rfl, hpre 1 rfl, hpre 2 rfl, hpre 3 rfl, hpre 4 rfl, hpre 5 rfl, hpre 6 rfl, hpre 7 rfl⟩
 refine Sy.heap hH ?_
 obtain rfl := (q6 h6).2 hs
 refine Sy.heap (H' := (bif s 7 then [(b8, cel 33 x8)] else []) ++ ((b7, cel 25 [.int .i64 0, .int .i64 0, .int .i64 0, .int .i64 0, .int .i64 0, .int .i64 0, .int .i64 0, .int .i64 0, .slice none 0 0]) :: ((b3, cel 25 (btl b (b.sl ab cb))) :: H))) (fun w h => by rw [h6] at h; exact h) ?_
 refine stoE (l' := btl b (b.sl a1 c1)) rfl (q6 h6).1 (q1 h1).1 cn25 rfl rfl rfl rfl (Nat.le_refl _) ?_
 exact hK _ _ _ ⟨a1, c1, a2, c2, ql, aq, cq, b7, btl b (b.sl a1 c1), b8, x8, hL0, hR0, fun h => (q0 h), fun h => ⟨(q1 h).1, (q1 h).2⟩, fun h => (q2 h), fun h => ⟨(q3 h).1, (q3 h).2⟩, fun h => (q4 h), fun h => ⟨(q5 h).1, (q5 h).2.1, (q5 h).2.2.1, (q5 h).2.2.2⟩, fun h => ⟨(q6 h).1, fun h => by cases (show true = false from h)⟩, fun h => ⟨(q7 h).1, (q7 h).2⟩, fun _ => rfl, fun h => q9 h, fun h => (q10 h), fun w h => by show St ((bif s 7 then [(b8, cel 33 x8)] else []) ++ ((bif s 6 then [(b7, cel 25 (btl b (b.sl a1 c1)))] else []) ++ ((b3, cel 25 (btl b (b.sl ab cb))) :: H))) Rz w; rw [h6]; exact h⟩
 intro s Lz Hz Rz hdn hs hpre hI K hK
 obtain ⟨a1, c1, a2, c2, ql, aq, cq, b7, x7, b8, x8, hL0, hR0, q0, q1, q2, q3, q4, q5, q6, q7, q8, q9, q10, hH⟩ := hI
 obtain ⟨h0, h1, h2, h3, h4, h5, h6, h7, h8⟩ : s 0 = true ∧ s 1 = true ∧ s 2 = true ∧ s 3 = true ∧ s 4 = true ∧ s 5 = true ∧ s 6 = true ∧ s 7 = true ∧ s 8 = true := ⟨hpre 0 rfl, hpre 1 rfl, hpre 2 rfl, hpre 3 rfl, hpre 4 rfl, hpre 5 rfl, hpre 6 rfl, hpre 7 rfl, hpre 8 rfl⟩
 refine Sy.heap hH ?_
 obtain rfl := (q7 h7).2 hs
 refine Sy.heap (H' := (b8, cel 33 [.int .i64 0, .int .i64 0, .int .i64 0, .int .i64 0, .int .i64 0, .int .i64 0, .int .i64 0, .int .i64 0, .slice none 0 0]) :: ((bif s 6 then [(b7, cel 25 x7)] else []) ++ ((b3, cel 25 (btl b (b.sl ab cb))) :: H))) (fun w h => by rw [h7] at h; exact h) ?_
 refine stoE (l' := btl b (b.sl a2 c2)) rfl (q7 h7).1 (q3 h3).1 cn33 rfl rfl rfl rfl (Nat.le_refl _) ?_
 exact hK _ _ _ ⟨a1, c1, a2, c2, ql, aq, cq, b7, x7, b8, btl b (b.sl a2 c2), hL0, hR0, fun h => (q0 h), fun h => ⟨(q1 h).1, (q1 h).2⟩, fun h => (q2 h), fun h => ⟨(q3 h).1, (q3 h).2⟩, fun h => (q4 h), fun h => ⟨(q5 h).1, (q5 h).2.1, (q5 h).2.2.1, (q5 h).2.2.2⟩, fun h => ⟨(q6 h).1, (q6 h).2⟩, fun h => ⟨(q7 h).1, fun h => by cases (show true = false from h)⟩, fun h => q8 h, fun _ => rfl, fun h => (q10 h), fun w h => by show St ((bif s 7 then [(b8, cel 33 (btl b (b.sl a2 c2)))] else []) ++ ((bif s 6 then [(b7, cel 25 x7)] else []) ++ ((b3, cel 25 (btl b (b.sl ab cb))) :: H))) Rz w; rw [h7]; exact h⟩
 intro s Lz Hz Rz hdn hs hpre hI K hK
 obtain ⟨a1, c1, a2, c2, ql, aq, cq, b7, x7, b8, x8, hL0, hR0, q0, q1, q2, q3, q4, q5, q6, q7, q8, q9, q10, hH⟩ := hI
 obtain ⟨h0, h1, h2, h3, h4, h5, h6, h7, h8, h9⟩ : s 0 = true ∧ s 1 = true ∧ s 2 = true ∧ s 3 = true ∧ s 4 = true ∧ s 5 = true ∧ s 6 = true ∧ s 7 = true ∧ s 8 = true ∧ s 9 = true := ⟨hpre 0 rfl, hpre 1 rfl, hpre 2 rfl, hpre 3 rfl, hpre 4 rfl, hpre 5 rfl, hpre 6 rfl, hpre 7 rfl, hpre 8 rfl, hpre 9 rfl⟩
 refine Sy.heap hH ?_
 refine sp rfl (PE.assign (q5 h5).1) rfl ?_
 exact hK _ _ _ ⟨a1, c1, a2, c2, ql, aq, cq, b7, x7, b8, x8, sub_more rfl hL0, hR0, fun h => lk_more rfl (q0 h), fun h => ⟨lk_more rfl (q1 h).1, (q1 h).2⟩, fun h => lk_more rfl (q2 h), fun h => ⟨lk_more rfl (q3 h).1, (q3 h).2⟩, fun h => lk_more rfl (q4 h), fun h => ⟨lk_more rfl (q5 h).1, (q5 h).2.1, (q5 h).2.2.1, (q5 h).2.2.2⟩, fun h => ⟨lk_more rfl (q6 h).1, (q6 h).2⟩, fun h => ⟨lk_more rfl (q7 h).1, (q7 h).2⟩, fun h => q8 h, fun h => q9 h, fun _ => lk_same, fun w h => h⟩
 intro Lz Hz Rz hI
 obtain ⟨a1, c1, a2, c2, ql, aq, cq, b7, x7, b8, x8, hL0, hR0, q0, q1, q2, q3, q4, q5, q6, q7, q8, q9, q10, hH⟩ := hI
 obtain rfl := q9 rfl
 obtain rfl := q8 rfl
 have hqe : lls ql = lls pl := (q5 rfl).2.2.2
 refine Sy.weak (L' := [(8, .pointer (some ⟨b8, 0, none⟩)), (7, .pointer (some ⟨b7, 0, none⟩)), (9, .slice aq ql.length cq), (1, .slice ap pl.length cp), (2, .int .i64 n), (3, .pointer (some ⟨b3, 0, none⟩))]) (H' := (b8, cel 33 (btl b (b.sl a2 c2))) :: (b7, cel 25 (btl b (b.sl a1 c1))) :: (b3, cel 25 (btl b (b.sl ab cb))) :: H) (R' := RowsA aq 1 (plrows ql) :: Inn ql :: RowsA a2 4 (brows b.bins) :: RowsA a1 4 (brows b.bins) :: R) ?_ (Sub.cons (q7 rfl).1 (Sub.cons (q6 rfl).1 (Sub.cons (q10 rfl) hL0))).lk (fun w h => St.facts (hH w h) (fin_cons (q5 rfl).2.1 (fin_cons (q5 rfl).2.2.1 (fin_cons (q3 rfl).2 (fin_cons (q1 rfl).2 hR0)))))
 refine sy_seq ?_
 refine sy_tx' [0, 1, 2] rfl ?_
 have hqi : ∀ x ∈ ql, x.l.length ≤ 9223372036854775807 := fun x hx => by
   have h1 : x.l ∈ lls pl := hqe ▸ List.mem_map.2 ⟨x, hx, rfl⟩
   obtain ⟨y, hy, e⟩ := List.mem_map.1 h1
   rw [← e]; exact hpi y hy
 have hql : ql.length = pl.length := by have := congrArg List.length hqe; rwa [lls_len, lls_len] at this
 have hqm : ql.length ≤ 9223372036854775807 := by omega
 refine spL rfl rfl (lhA (btl b (b.sl a2 c2)) ag33 rfl rfl rfl) rfl ?_
 refine clV rfl cal22 rfl rfl (c_rCheck b a2 c2 hl hr _ _) ?_
 refine sp rfl (PE.assign rfl) rfl ?_
 refine sy_seq ?_
 refine sy_seq ?_
 refine sy_tx' [0, 1] rfl ?_
 refine sp rfl (PE.move rfl) rfl ?_
 refine sp rfl (PE.eql rfl rfl) rfl ?_
 refine sy_join (ι := Unit) (fun _ => ⟨[(1, .slice ap pl.length cp), (2, .int .i64 n), (3, .pointer (some ⟨b3, 0, none⟩)), (7, .pointer (some ⟨b7, 0, none⟩)), (8, .pointer (some ⟨b8, 0, none⟩)), (9, .slice aq ql.length cq), (10, .int .i64 (b.planned (lls pl)))], (b8, cel 33 (btl b (b.sl a2 c2))) :: (b7, cel 25 (btl b (b.sl a1 c1))) :: (b3, cel 25 (btl b (b.sl ab cb))) :: H, RowsA aq 1 (plrows ql) :: Inn ql :: RowsA a2 4 (brows b.bins) :: RowsA a1 4 (brows b.bins) :: R⟩) ?_ ?_
 refine sy_cond rfl (fun hc1 => ?_) (fun hc1 => ?_)
 try simp only [decide_eq_true_eq, decide_eq_false_iff_not, Bool.and_eq_true, Bool.or_eq_true, Bool.not_eq_true', Int.not_le, Int.not_lt] at hc1
 have hpe : planErr b.bins.length b.gangs (lls pl) = (b.planned (lls pl)) := by unfold Barn.planned; rw [decide_eq_true (show b.check = 0 from hc1)]; rfl
 refine sy_tx' [0, 1, 2, 3] rfl ?_
 refine spL rfl rfl (lhA (btl b (b.sl a2 c2)) ag33 rfl rfl rfl) rfl ?_
 refine sp rfl (PE.move rfl) rfl ?_
 refine clV rfl cal23 rfl rfl (c_rPlanned b a2 c2 hl pl ap cp hpl hpi _ _) ?_
 refine sp rfl (PE.assign rfl) rfl ?_
 exact sy_jend () (by dsimp only; rw [← hpe]; exact (by repeat' first | exact Sub.nil | apply Sub.cons | rfl | (simp [lk]; omega))) (fun w h => h)
 try simp only [decide_eq_true_eq, decide_eq_false_iff_not, Bool.and_eq_true, Bool.or_eq_true, Bool.not_eq_true', Int.not_le, Int.not_lt] at hc1
 have hpe : b.check = (b.planned (lls pl)) := by unfold Barn.planned; rw [decide_eq_false (show ¬ b.check = 0 from hc1)]; rfl
 refine sy_skip ?_
 exact sy_jend () (by dsimp only; rw [← hpe]; exact (by repeat' first | exact Sub.nil | apply Sub.cons | rfl | (simp [lk]; omega))) (fun w h => h)
 rintro ⟨⟩
 refine sy_seq ?_
 refine sy_tx' [0, 1, 2, 3, 4, 5] rfl ?_
 refine sp rfl (PE.move rfl) rfl ?_
 refine sp rfl (PE.move rfl) rfl ?_
 refine sp rfl (PE.move rfl) rfl ?_
 refine sp rfl (PE.assign rfl) rfl ?_
 refine sp rfl (PE.assign rfl) rfl ?_
 refine sp rfl (PE.assign rfl) rfl ?_
 refine sy_seq ?_
 refine sy_tx' [0] rfl ?_
 refine sp rfl (PE.assign rfl) rfl ?_
 refine sy_seq ?_
 refine sy_tx' [0, 1, 2] rfl ?_
 refine sp rfl (PE.assign rfl) rfl ?_
 refine sp rfl (PE.assign rfl) rfl ?_
 refine sp rfl (PE.assign rfl) rfl ?_
 refine sy_seq ?_
 refine sy_tx' [0] rfl ?_
 refine alc rfl zl25 rfl (fun b18 => ?_)
 refine sy_seq ?_
 refine sy_seq ?_
 refine sy_tx' [0, 1] rfl ?_
 refine sp rfl (PE.move rfl) rfl ?_
 refine sp rfl (PE.eql rfl rfl) rfl ?_
 refine sy_join (ι := (Option Addr × Nat) × (Option Addr × Nat)) (fun q => ⟨[(1, .slice ap pl.length cp), (2, .int .i64 n), (3, .pointer (some ⟨b3, 0, none⟩)), (7, .pointer (some ⟨b7, 0, none⟩)), (8, .pointer (some ⟨b8, 0, none⟩)), (9, .slice aq ql.length cq), (10, .int .i64 (b.planned (lls pl))), (11, .int .i64 (warmErr b (lls pl) n)), (12, .int .i64 (plU b (lls pl))), (13, .int .i64 (plV b (lls pl))), (14, .slice q.1.1 (plW b (lls pl) n).length q.1.2), (15, .int .i64 (plQ b (lls pl)).1), (16, .int .i64 (plQ b (lls pl)).2.1), (17, .bool (plQ b (lls pl)).2.2), (18, .pointer (some ⟨b18, 0, none⟩))], (b18, cel 25 (btl (plB b (lls pl)) ((plB b (lls pl)).sl q.2.1 q.2.2))) :: (b8, cel 33 (btl b (b.sl a2 c2))) :: (b7, cel 25 (btl b (b.sl a1 c1))) :: (b3, cel 25 (btl b (b.sl ab cb))) :: H, RowsA q.2.1 4 (brows (plB b (lls pl)).bins) :: RowsA q.1.1 2 (sprows (plW b (lls pl) n)) :: RowsA aq 1 (plrows ql) :: Inn ql :: RowsA a2 4 (brows b.bins) :: RowsA a1 4 (brows b.bins) :: R⟩) ?_ ?_
 refine sy_cond rfl (fun hc2 => ?_) (fun hc2 => ?_)
 try simp only [decide_eq_true_eq, decide_eq_false_iff_not, Bool.and_eq_true, Bool.or_eq_true, Bool.not_eq_true', Int.not_le, Int.not_lt] at hc2
 have hpz : (b.planned (lls pl)) = 0 := hc2
 obtain ⟨hck, hok, hpe⟩ := planned_ok hr hpz
 have hmn := hok.many
 refine sy_seq ?_
 refine sy_block ?_
 refine sy_seq ?_
 refine sy_tx' [0, 1, 2, 3] rfl ?_
 refine sp rfl (PE.move rfl) rfl ?_
 refine sp rfl (PE.lenSl isl26 rfl) rfl ?_
 refine sp rfl (PE.gtr rfl rfl) rfl ?_
 refine sp rfl (PE.assign rfl) rfl ?_
 refine sy_join (ι := Option Addr × Nat) (fun q => ⟨[(1, .slice ap pl.length cp), (2, .int .i64 n), (3, .pointer (some ⟨b3, 0, none⟩)), (7, .pointer (some ⟨b7, 0, none⟩)), (8, .pointer (some ⟨b8, 0, none⟩)), (9, .slice aq ql.length cq), (10, .int .i64 (b.planned (lls pl))), (11, .int .i64 (warmErr b (lls pl) n)), (12, .int .i64 (b.planned (lls pl))), (13, .int .i64 (b.planned (lls pl))), (14, .slice q.1 (plW b (lls pl) n).length q.2), (15, .int .i64 ((0, 0, false) : Nat × Nat × Bool).1), (16, .int .i64 ((0, 0, false) : Nat × Nat × Bool).2.1), (17, .bool ((0, 0, false) : Nat × Nat × Bool).2.2), (18, .pointer (some ⟨b18, 0, none⟩))], (b18, cel 25 (btl zbarn (.slice none 0 0))) :: (b8, cel 33 (btl b (b.sl a2 c2))) :: (b7, cel 25 (btl b (b.sl a1 c1))) :: (b3, cel 25 (btl b (b.sl ab cb))) :: H, RowsA q.1 2 (sprows (plW b (lls pl) n)) :: RowsA aq 1 (plrows ql) :: Inn ql :: RowsA a2 4 (brows b.bins) :: RowsA a1 4 (brows b.bins) :: R⟩) ?_ ?_
 refine sy_cond rfl (fun hc3 => ?_) (fun hc3 => ?_)
 try simp only [decide_eq_true_eq, decide_eq_false_iff_not, Bool.and_eq_true, Bool.or_eq_true, Bool.not_eq_true', Int.not_le, Int.not_lt] at hc3
 have ese : warmErr b (lls pl) n = 2 := by unfold warmErr; rw [decide_eq_true hpz, lls_len, decide_eq_true (show 20 < pl.length by omega)]; rfl
 have hwl : plW b (lls pl) n = [] := by unfold plW; rw [ese]; rfl
 refine sy_tx' [0] rfl ?_
 refine sp rfl (PE.assign rfl) rfl ?_
 exact sy_jend (none, 0) (by dsimp only; rw [ese, hwl]; exact (by repeat' first | exact Sub.nil | apply Sub.cons | rfl | (simp [lk]; omega))) (fun w h => by dsimp only; rw [hwl]; exact St.noRows h)
 try simp only [decide_eq_true_eq, decide_eq_false_iff_not, Bool.and_eq_true, Bool.or_eq_true, Bool.not_eq_true', Int.not_le, Int.not_lt] at hc3
 have h20 : decide (20 < pl.length) = false := decide_eq_false (by omega)
 refine sy_seq ?_
 refine sy_tx' [0, 1, 2, 3, 4, 5, 6, 7, 8, 9] rfl ?_
 refine sp rfl (PE.move rfl) rfl ?_
 refine sp rfl (PE.lss rfl rfl) rfl ?_
 refine sp rfl (PE.move rfl) rfl ?_
 refine sy_case (t := 103) rfl (fun g103 => ?_) (fun g103 => ?_)
 try simp only [decide_eq_true_eq, decide_eq_false_iff_not, Bool.and_eq_true, Bool.or_eq_true, Bool.not_eq_true', Int.not_le, Int.not_lt] at g103
 have ese : warmErr b (lls pl) n = 1 := by unfold warmErr; rw [decide_eq_true hpz, lls_len, h20]; simp only [cond_true, cond_false]; rw [show inB n 0 ((b.bins.length : Int) - 1) = false by simp [inB]; omega]; rfl
 have hwl : plW b (lls pl) n = [] := by unfold plW; rw [ese]; rfl
 repeat refine spN rfl rfl rfl rfl rfl rfl rfl rfl ?_
 refine sp rfl (PE.pick rfl rfl rfl) rfl ?_
 refine sp rfl (PE.assign rfl) rfl ?_
 refine sy_condT rfl ?_
 refine sy_tx' [0] rfl ?_
 refine sp rfl (PE.assign rfl) rfl ?_
 exact sy_jend (none, 0) (by dsimp only; rw [ese, hwl]; exact (by repeat' first | exact Sub.nil | apply Sub.cons | rfl | (simp [lk]; omega))) (fun w h => by dsimp only; rw [hwl]; exact St.noRows h)
 try simp only [decide_eq_true_eq, decide_eq_false_iff_not, Bool.and_eq_true, Bool.or_eq_true, Bool.not_eq_true', Int.not_le, Int.not_lt] at g103
 refine spG rfl rfl rfl rfl (PE.move rfl) rfl ?_
 refine spG rfl rfl rfl rfl (PE.fieldAddr fo25_3 rfl) rfl ?_
 refine spLG rfl rfl rfl rfl rfl (lh sc23 rfl rfl) rfl ?_
 refine spG rfl rfl rfl rfl (PE.lenSl isl23 rfl) rfl ?_
 refine spG rfl rfl rfl rfl (PE.geq rfl rfl) rfl ?_
 refine sp rfl (PE.pick rfl rfl rfl) rfl ?_
 refine sp rfl (PE.assign rfl) rfl ?_
 refine sy_cond rfl (fun hc4 => ?_) (fun hc4 => ?_)
 try simp only [decide_eq_true_eq, decide_eq_false_iff_not, Bool.and_eq_true, Bool.or_eq_true, Bool.not_eq_true', Int.not_le, Int.not_lt] at hc4
 have ese : warmErr b (lls pl) n = 1 := by unfold warmErr; rw [decide_eq_true hpz, lls_len, h20]; simp only [cond_true, cond_false]; rw [show inB n 0 ((b.bins.length : Int) - 1) = false by simp [inB]; omega]; rfl
 have hwl : plW b (lls pl) n = [] := by unfold plW; rw [ese]; rfl
 refine sy_tx' [0] rfl ?_
 refine sp rfl (PE.assign rfl) rfl ?_
 exact sy_jend (none, 0) (by dsimp only; rw [ese, hwl]; exact (by repeat' first | exact Sub.nil | apply Sub.cons | rfl | (simp [lk]; omega))) (fun w h => by dsimp only; rw [hwl]; exact St.noRows h)
 try simp only [decide_eq_true_eq, decide_eq_false_iff_not, Bool.and_eq_true, Bool.or_eq_true, Bool.not_eq_true', Int.not_le, Int.not_lt] at hc4
 obtain ⟨k, rfl⟩ : ∃ k : Nat, n = k := ⟨n.toNat, by omega⟩
 obtain ⟨x, hx⟩ : ∃ x, b.bins[k]? = some x := ⟨_, List.getElem?_eq_getElem (by omega)⟩
 have hbx := binAt_of hx
 have hm := List.mem_of_getElem? hx
 have hh := (hok.bins x hm).2
 have ese : warmErr b (lls pl) k = 0 := by unfold warmErr; rw [decide_eq_true hpz, lls_len, h20, show inB (k : Int) 0 ((b.bins.length : Int) - 1) = true by simp [inB]; omega]; rfl
 have hwl : plW b (lls pl) k = (wSpans b.cool (b.least x) (b.worst x) k x.warm (lls pl) pl.length) := by unfold plW warmL; rw [ese, hbx, lls_len]; rfl
 refine sy_addr (a := ab) (sz := 4) (rows := brows b.bins) (by intro h0; simp [brows] at h0; simp [h0] at hx) (fun ba oa he => ?_)
 subst he
 refine sy_seq ?_
 refine sy_draw [0, 0, 0, 0, 8, 0, 56, 120, 248, 504, 1023, 2047] (.ld 0 (.tk 1 (.tk 2 (.tk 3 (.ld 4 (.tk 5 (.tk 6 (.tk 7 (.tk 8 (.ld 9 (.big 10 (.tk 11 .done)))))))))))) mixed (by kernel_rfl) ?_
 refine ld rfl rfl (lhA (btl b (b.sl a2 c2)) ag33 rfl rfl rfl) rfl ?_
 refine tk rfl (PE.move rfl) rfl ?_
 refine tk rfl (PE.move rfl) rfl ?_
 refine tk rfl (PE.fieldAddr fo25_3 rfl) rfl ?_
 refine ld rfl rfl (lh sc23 rfl rfl) rfl ?_
 refine tk rfl (PE.move rfl) rfl ?_
 refine tk rfl (PE.indexAddr el23 rfl rfl (by omega) (by omega)) rfl ?_
 refine tk rfl (PE.fieldAddr fo45_2 rfl) rfl ?_
 refine tk rfl (PE.fieldAddr fo43_1 rfl) rfl ?_
 refine ld rfl rfl (lf (j := 3) sc3 (br_get hx) rfl) rfl ?_
 refine cl rfl cal24 rfl rfl (c_rWarmth b a2 c2 hok pl ap cp hpl hpi hp9 k x hx x.hi (by omega) _ _) ?_
 rintro _ _ R1 ⟨ah, ch, rfl, rfl, hR1⟩
 obtain rfl := hR1.symm
 clear hR1
 refine bg (fun w hs => ⟨trivial, trivial, trivial, trivial⟩) ?_
 refine tk rfl (PE.assign rfl) rfl ?_
 refine sy_seq ?_
 refine sy_draw [0, 0, 0, 0, 8, 0, 56, 120, 248, 504, 1023, 2047, 0] (.ld 0 (.tk 1 (.tk 2 (.tk 3 (.ld 4 (.tk 5 (.tk 6 (.tk 7 (.tk 8 (.ld 9 (.tk 12 (.big 10 (.tk 11 .done))))))))))))) mixed (by kernel_rfl) ?_
 refine ld rfl rfl (lhA (btl b (b.sl a2 c2)) ag33 rfl rfl rfl) rfl ?_
 refine tk rfl (PE.move rfl) rfl ?_
 refine tk rfl (PE.move rfl) rfl ?_
 refine tk rfl (PE.fieldAddr fo25_3 rfl) rfl ?_
 refine ld rfl rfl (lh sc23 rfl rfl) rfl ?_
 refine tk rfl (PE.move rfl) rfl ?_
 refine tk rfl (PE.indexAddr el23 rfl rfl (by omega) (by omega)) rfl ?_
 refine tk rfl (PE.fieldAddr fo45_2 rfl) rfl ?_
 refine tk rfl (PE.fieldAddr fo43_0 rfl) rfl ?_
 refine ld rfl rfl (lf (j := 2) sc3 (br_get hx) rfl) rfl ?_
 refine tk rfl (PE.move rfl) rfl ?_
 refine cl rfl cal24 rfl rfl (c_rWarmth b a2 c2 hok pl ap cp hpl hpi hp9 k x hx x.lo (by omega) _ _) ?_
 rintro _ _ R1 ⟨al, cl, rfl, rfl, hR1⟩
 obtain rfl := hR1.symm
 clear hR1
 refine bg (fun w hs => ⟨trivial, trivial, trivial, trivial⟩) ?_
 refine tk rfl (PE.lenSl isl40 rfl) rfl ?_
 refine sy_block ?_
 refine sy_loop (ι := (d : {d : Nat // d ≤ pl.length}) × OSl 43 2 (sprows (wSpans b.cool (b.least x) (b.worst x) k x.warm (lls pl) d.1))) (fun y => ⟨[(1, .slice ap pl.length cp), (2, .int .i64 k), (3, .pointer (some ⟨b3, 0, none⟩)), (7, .pointer (some ⟨b7, 0, none⟩)), (8, .pointer (some ⟨b8, 0, none⟩)), (9, .slice aq ql.length cq), (10, .int .i64 (b.planned (lls pl))), (11, .int .i64 (b.planned (lls pl))), (12, .int .i64 (b.planned (lls pl))), (13, .int .i64 (b.planned (lls pl))), (14, y.2.fs), (15, .int .i64 0), (16, .int .i64 0), (17, .bool false), (18, .pointer (some ⟨b18, 0, none⟩)), (19, .slice ah pl.length ch), (79, .slice al pl.length cl), (80, .int .i64 pl.length), (81, .int .i64 y.1.1)], y.2.G ++ (b18, cel 25 (btl zbarn (.slice none 0 0))) :: (b8, cel 33 (btl b (b.sl a2 c2))) :: (b7, cel 25 (btl b (b.sl a1 c1))) :: (b3, cel 25 (btl b (b.sl (some ⟨ba, oa, none⟩) cb))) :: H, RowsA al 1 (irows (wL b.cool (na b.rise x.lo.toNat) k x.warm (lls pl) pl.length)) :: RowsA ah 1 (irows (wL b.cool (na b.rise x.hi.toNat) k x.warm (lls pl) pl.length)) :: RowsA aq 1 (plrows ql) :: Inn ql :: RowsA a2 4 (brows b.bins) :: RowsA a1 4 (brows b.bins) :: R⟩) (fun y => pl.length - y.1.1) ⟨⟨0, by omega⟩, OSl.nil _ _⟩ ?_ (fun y => ?_)
 exact sy_at (by repeat' first | exact Sub.nil | apply Sub.cons | rfl | (simp [lk]; omega)) (fun _ h => h)
 obtain ⟨⟨d, hd⟩, o⟩ := y
 dsimp only at hd o ⊢
 refine sy_seq ?_
 refine sy_tx' [0] rfl ?_
 refine sp rfl (PE.lss rfl rfl) rfl ?_
 refine sy_seq ?_
 refine sy_cond rfl (fun hc5 => ?_) (fun hc5 => ?_)
 try simp only [decide_eq_true_eq, decide_eq_false_iff_not, Bool.and_eq_true, Bool.or_eq_true, Bool.not_eq_true', Int.not_le, Int.not_lt] at hc5
 refine sy_addr (a := al) (sz := 1) (rows := irows (wL b.cool (na b.rise x.lo.toNat) k x.warm (lls pl) pl.length)) (by intro h0; have := congrArg List.length h0; rw [irows_len, wL_len] at this; simp only [List.length_nil] at this; omega) (fun b5 o5 he => ?_)
 subst he
 refine sy_addr (a := ah) (sz := 1) (rows := irows (wL b.cool (na b.rise x.hi.toNat) k x.warm (lls pl) pl.length)) (by intro h0; have := congrArg List.length h0; rw [irows_len, wL_len] at this; simp only [List.length_nil] at this; omega) (fun b6 o6 he => ?_)
 subst he
 refine sy_skip ?_
 refine sy_seq ?_
 refine sy_block ?_
 refine sy_seq ?_
 refine sy_tx' [0, 1, 2, 3, 4] rfl ?_
 refine sp rfl (PE.move rfl) rfl ?_
 refine sp rfl (PE.indexAddr el40 rfl rfl (by omega) (by omega)) rfl ?_
 refine spL rfl rfl (lf0 sc3 (ir_get (wL_get (d := d) (by omega))) rfl) rfl ?_
 refine sp rfl (PE.assign rfl) rfl ?_
 refine sp rfl (PE.assign rfl) rfl ?_
 refine sy_tx' [0, 1, 2, 3, 4, 5, 6, 7, 8, 9] rfl ?_
 refine sp rfl (PE.move rfl) rfl ?_
 refine sp rfl (PE.move rfl) rfl ?_
 refine sp rfl (PE.move rfl) rfl ?_
 refine sp rfl (PE.move rfl) rfl ?_
 refine sp rfl (PE.indexAddr el40 rfl rfl (by omega) (by omega)) rfl ?_
 refine spL rfl rfl (lf0 sc3 (ir_get (wL_get (d := d) (by omega))) rfl) rfl ?_
 refine sp rfl (PE.build (out := [_, _]) pl43 zl43 rfl rfl) rfl ?_
 refine bsl (out := [_, _]) rfl sl39 zl43 rfl rfl rfl rfl rfl rfl (fun b93 => ?_)
 refine apO (o) rfl ap39 rfl rfl (rowsH (row := sprow (wst b.cool (b.least x) k x.warm ((lls pl).take (d + 1)), wst b.cool (b.worst x) k x.warm ((lls pl).take (d + 1)))) rfl) rfl rfl ((by rw [sprows_len, wSpans, List.length_map, List.length_range]; simp only [List.length_singleton]; omega)) rfl (fun o94 => ?_)
 refine sp rfl (PE.assign rfl) rfl ?_
 refine sy_tx' [0, 1] rfl ?_
 refine sp rfl (PE.add rfl rfl (by omega)) rfl ?_
 refine sp rfl (PE.move rfl) rfl ?_
 exact sy_next ⟨⟨d + 1, by omega⟩, o94.cast (by unfold wSpans; rw [List.range_succ, List.map_append]; simp [sprows])⟩ (by dsimp only; omega) (by repeat' first | exact Sub.nil | apply Sub.cons | rfl | (simp [lk]; omega)) (fun w h => h.del b93)
 try simp only [decide_eq_true_eq, decide_eq_false_iff_not, Bool.and_eq_true, Bool.or_eq_true, Bool.not_eq_true', Int.not_le, Int.not_lt] at hc5
 obtain rfl : d = pl.length := by omega
 obtain ⟨aw, cw, he, hf⟩ := o.freeze
 rw [he, sprows_len]
 refine Sy.heap (fun w h => hf h) ?_
 clear he hf
 refine sy_exit ?_
 repeat refine sy_tx ?_
 refine sy_bx ?_
 exact sy_jend (aw, cw) (by dsimp only; rw [ese, hwl]; rw [hpz]; exact (by repeat' first | exact Sub.nil | apply Sub.cons | rfl | (simp [lk]; omega))) (fun w h => by dsimp only; rw [hwl]; exact h.facts (fun g hg => by simp only [List.mem_cons] at hg ⊢; rcases hg with hg | hg | hg | hg | hg | hg <;> simp [hg]))
 rintro ⟨aw, cw⟩
 dsimp only
 refine sy_seq ?_
 refine sy_tx' [0, 1, 2, 3, 4, 5, 6, 7, 8, 9] rfl ?_
 refine spL rfl rfl (lhA (btl b (b.sl a2 c2)) ag33 rfl rfl rfl) rfl ?_
 refine sp rfl (PE.move rfl) rfl ?_
 refine clV rfl cal25 rfl rfl (c_rBurns b a2 c2 hok pl ap cp hpl hpi hp9 _ _) ?_
 refine sp rfl (PE.move rfl) rfl ?_
 refine sp rfl (PE.extract rfl rfl) rfl ?_
 refine sp rfl (PE.extract rfl rfl) rfl ?_
 refine sp rfl (PE.extract rfl rfl) rfl ?_
 refine sp rfl (PE.assign rfl) rfl ?_
 refine sp rfl (PE.assign rfl) rfl ?_
 refine sp rfl (PE.assign rfl) rfl ?_
 refine sy_seq ?_
 refine sy_tx' [0] rfl ?_
 refine sp rfl (PE.move rfl) rfl ?_
 refine sy_cond rfl (fun hc6 => ?_) (fun hc6 => ?_)
 obtain ⟨e1, e2, e3, e4⟩ := plHot hpz hc6
 refine sy_tx' [0] rfl ?_
 refine sp rfl (PE.assign rfl) rfl ?_
 exact sy_jend ((aw, cw), (none, 0)) (by dsimp only; rw [e1, e2, e3]; rw [hpz]; exact (by repeat' first | exact Sub.nil | apply Sub.cons | rfl | (simp [lk]; omega))) (fun w h => by dsimp only; rw [e4]; exact St.noRows h)
 obtain ⟨ws, hbu, e1, e2, e3, e4⟩ := plCold hpz hc6
 have hwl : ws.length = b.bins.length := b.burns_len (lls pl) _ ws 0 hbu (by simp [Barn.warms])
 refine sy_seq ?_
 refine sy_tx' [0, 1, 2, 3, 4, 5] rfl ?_
 refine spL rfl rfl (lhA (btl b (b.sl ab cb)) ag25 rfl rfl rfl) rfl ?_
 refine cl rfl cal19 rfl rfl (c_Own b ab cb (by omega) _ _) ?_
 rintro _ _ _ ⟨bo, cap, junk, rfl, rfl, rfl⟩
 refine sp rfl (PE.assign rfl) rfl ?_
 refine sp rfl (PE.assign rfl) rfl ?_
 refine sp rfl (PE.assign rfl) rfl ?_
 refine sto rfl rfl rfl cn25 rfl rfl rfl rfl ?_
 refine sy_seq ?_
 refine sy_tx' [0, 1, 2, 3] rfl ?_
 refine sp rfl (PE.fieldAddr fo25_3 rfl) rfl ?_
 refine spL rfl rfl (lh sc23 rfl rfl) rfl ?_
 refine sp rfl (PE.lenSl isl23 rfl) rfl ?_
 refine Sy.heap (H' := (bo, cel 45 ((brows ((wbins b.bins ws).take 0 ++ b.bins.drop 0)).flatten ++ junk)) :: (b18, cel 25 (btl b (b.sl (some ⟨bo, 0, none⟩) cap))) :: (b8, cel 33 (btl b (b.sl a2 c2))) :: (b7, cel 25 (btl b (b.sl a1 c1))) :: (b3, cel 25 (btl b (b.sl ab cb))) :: H) (fun w h => h.pull bo) ?_
 refine sp rfl (PE.move rfl) rfl ?_
 refine sy_block ?_
 refine sy_loop (ι := {k : Nat // k ≤ b.bins.length}) (fun k => ⟨[(1, .slice ap pl.length cp), (2, .int .i64 n), (3, .pointer (some ⟨b3, 0, none⟩)), (7, .pointer (some ⟨b7, 0, none⟩)), (8, .pointer (some ⟨b8, 0, none⟩)), (9, .slice aq ql.length cq), (10, .int .i64 (b.planned (lls pl))), (11, .int .i64 (warmErr b (lls pl) n)), (12, .int .i64 6), (13, .int .i64 (b.planned (lls pl))), (14, .slice aw (plW b (lls pl) n).length cw), (15, .int .i64 ((0, 0, false) : Nat × Nat × Bool).1), (16, .int .i64 ((0, 0, false) : Nat × Nat × Bool).2.1), (17, .bool (brnQ b (lls pl)).2.2), (18, .pointer (some ⟨b18, 0, none⟩)), (122, .int .i64 b.bins.length), (123, .int .i64 k.1)], (bo, cel 45 ((brows ((wbins b.bins ws).take k.1 ++ b.bins.drop k.1)).flatten ++ junk)) :: (b18, cel 25 (btl b (b.sl (some ⟨bo, 0, none⟩) cap))) :: (b8, cel 33 (btl b (b.sl a2 c2))) :: (b7, cel 25 (btl b (b.sl a1 c1))) :: (b3, cel 25 (btl b (b.sl ab cb))) :: H, RowsA aw 2 (sprows (plW b (lls pl) n)) :: RowsA aq 1 (plrows ql) :: Inn ql :: RowsA a2 4 (brows b.bins) :: RowsA a1 4 (brows b.bins) :: R⟩) (fun k => b.bins.length - k.1) ⟨0, by omega⟩ ?_ (fun k => ?_)
 exact sy_at (by repeat' first | exact Sub.nil | apply Sub.cons | rfl | (simp [lk]; omega)) (fun _ h => h)
 obtain ⟨k, hk⟩ := k
 dsimp only at hk ⊢
 refine sy_seq ?_
 refine sy_tx' [0] rfl ?_
 refine sp rfl (PE.lss rfl rfl) rfl ?_
 refine sy_seq ?_
 refine sy_cond rfl (fun hc7 => ?_) (fun hc7 => ?_)
 try simp only [decide_eq_true_eq, decide_eq_false_iff_not, Bool.and_eq_true, Bool.or_eq_true, Bool.not_eq_true', Int.not_le, Int.not_lt] at hc7
 obtain ⟨x, hx⟩ : ∃ x, b.bins[k]? = some x := ⟨_, List.getElem?_eq_getElem (by omega)⟩
 have hm := List.mem_of_getElem? hx
 have hh := (hok.bins x hm).2
 have hbl := burns_last hbu hx
 have hml : ((wbins b.bins ws).take k ++ b.bins.drop k).length = b.bins.length := by rw [List.length_append, List.length_take, List.length_drop, wbins_len hwl]; omega
 have hmg : ((wbins b.bins ws).take k ++ b.bins.drop k)[k]? = some x := by
   rw [List.getElem?_append_right (by rw [List.length_take, wbins_len hwl]; omega), List.length_take, wbins_len hwl, show k - min k b.bins.length = 0 by omega, List.getElem?_drop]; simpa using hx
 have hms : ((wbins b.bins ws).take k ++ b.bins.drop k).set k { x with warm := na ws k } = ((wbins b.bins ws).take (k + 1) ++ b.bins.drop (k + 1)) := set_take (by rw [wbins_len hwl]) (wbins_get hx (na_get (by omega)))
 refine sy_addr (a := ab) (sz := 4) (rows := brows b.bins) (by intro h0; simp [brows] at h0; simp [h0] at hx) (fun ba oa he => ?_)
 subst he
 refine sy_skip ?_
 refine sy_seq ?_
 refine sy_block ?_
 refine sy_seq ?_
 refine sy_tx' [0, 1] rfl ?_
 refine sp rfl (PE.move rfl) rfl ?_
 refine sp rfl (PE.assign rfl) rfl ?_
 refine sy_seq ?_
 refine sy_draw [0, 0, 0, 0, 8, 0, 56, 120, 248, 504, 1023, 2047] (.ld 0 (.tk 1 (.tk 2 (.tk 3 (.ld 4 (.tk 5 (.tk 6 (.tk 7 (.tk 8 (.ld 9 (.big 10 (.tk 11 .done)))))))))))) mixed (by kernel_rfl) ?_
 refine ld rfl rfl (lhA (btl b (b.sl a2 c2)) ag33 rfl rfl rfl) rfl ?_
 refine tk rfl (PE.move rfl) rfl ?_
 refine tk rfl (PE.move rfl) rfl ?_
 refine tk rfl (PE.fieldAddr fo25_3 rfl) rfl ?_
 refine ld rfl rfl (lh sc23 rfl rfl) rfl ?_
 refine tk rfl (PE.move rfl) rfl ?_
 refine tk rfl (PE.indexAddr el23 rfl rfl (by omega) (by omega)) rfl ?_
 refine tk rfl (PE.fieldAddr fo45_2 rfl) rfl ?_
 refine tk rfl (PE.fieldAddr fo43_1 rfl) rfl ?_
 refine ld rfl rfl (lf (j := 3) sc3 (br_get hx) rfl) rfl ?_
 refine cl rfl cal24 rfl rfl (c_rWarmth b a2 c2 hok pl ap cp hpl hpi hp9 k x hx x.hi (by omega) _ _) ?_
 rintro _ _ R1 ⟨ah, ch, rfl, rfl, hR1⟩
 obtain rfl := hR1.symm
 clear hR1
 refine bg (fun w hs => ⟨trivial, trivial, trivial, trivial⟩) ?_
 refine tk rfl (PE.assign rfl) rfl ?_
 refine sy_seq ?_
 refine sy_tx' [0, 1, 2] rfl ?_
 refine sp rfl (PE.move rfl) rfl ?_
 refine sp rfl (PE.lenSl isl40 rfl) rfl ?_
 refine sp rfl (PE.gtr rfl rfl) rfl ?_
 refine sy_cond rfl (fun hc8 => ?_) (fun hc8 => ?_)
 try simp only [decide_eq_true_eq, decide_eq_false_iff_not, Bool.and_eq_true, Bool.or_eq_true, Bool.not_eq_true', Int.not_le, Int.not_lt] at hc8
 have hp0 : 0 < pl.length := by omega
 have hlast : (wL b.cool (na b.rise x.hi.toNat) k x.warm (lls pl) pl.length)[pl.length - 1]? = some (na ws k) := by
   rw [wL_get (by omega), show pl.length - 1 + 1 = pl.length by omega, List.take_of_length_le (by rw [lls_len]; exact Nat.le_refl _), hbl]; rfl
 refine sy_addr (a := ah) (sz := 1) (rows := irows (wL b.cool (na b.rise x.hi.toNat) k x.warm (lls pl) pl.length)) (by intro h0; have := congrArg List.length h0; rw [irows_len, wL_len] at this; simp only [List.length_nil] at this; omega) (fun b6 o6 he => ?_)
 subst he
 refine sy_draw [0, 1, 0, 0, 0, 16, 48, 120, 248, 511, 1023, 2047] (.tk 0 (.ld 1 (.tk 2 (.tk 3 (.tk 4 (.tk 5 (.tk 6 (.tk 7 (.ld 8 (.tk 9 (.tk 10 (.big 11 .done)))))))))))) mixed (by kernel_rfl) ?_
 refine tk rfl (PE.fieldAddr fo25_3 rfl) rfl ?_
 refine ld rfl rfl (lh sc23 rfl rfl) rfl ?_
 refine tk rfl (PE.move rfl) rfl ?_
 refine tk rfl (PE.move rfl) rfl ?_
 refine tk rfl (PE.move rfl) rfl ?_
 refine tk rfl (PE.lenSl isl40 rfl) rfl ?_
 refine tk rfl (PE.sub rfl rfl (by omega)) rfl ?_
 refine tk rfl (PE.indexAddr el40 rfl rfl (by omega) (by omega)) rfl ?_
 refine ld rfl rfl (lf0 (row := [.int .i64 (na ws k)]) sc3 (by rw [show ((pl.length : Int) - 1).toNat = pl.length - 1 by omega]; exact ir_get hlast) rfl) rfl ?_
 refine tk rfl (PE.indexAddr el23 rfl rfl (by omega) (by omega)) rfl ?_
 refine tk rfl (PE.fieldAddr fo45_0 rfl) rfl ?_
 refine stoE (l' := (brows ((wbins b.bins ws).take (k + 1) ++ b.bins.drop (k + 1))).flatten ++ junk) rfl rfl rfl cn3 rfl rfl rfl ((spl_left (by rw [br_flat, hml]; show 0 + ((k : Nat) : Int).toNat * 4 + 0 + 1 ≤ _; omega)).trans (congrArg (· ++ junk) ((br_warm hmg (na ws k) (by show 0 + ((k : Nat) : Int).toNat * 4 + 0 = _; omega)).trans (by rw [hms])))) (by rw [List.length_append, br_flat, hml]; show 0 + ((k : Nat) : Int).toNat * 4 + 0 + 1 ≤ _; omega) ?_
 refine bg (fun w hs => ⟨trivial, trivial, trivial⟩) ?_
 refine sy_tx' [0, 1] rfl ?_
 refine sp rfl (PE.add rfl rfl (by omega)) rfl ?_
 refine sp rfl (PE.move rfl) rfl ?_
 exact sy_next ⟨k + 1, by omega⟩ (by dsimp only; omega) (by repeat' first | exact Sub.nil | apply Sub.cons | rfl | (simp [lk]; omega)) (fun w h => h.ftail)
 try simp only [decide_eq_true_eq, decide_eq_false_iff_not, Bool.and_eq_true, Bool.or_eq_true, Bool.not_eq_true', Int.not_le, Int.not_lt] at hc8
 have hp0 : (lls pl) = [] := List.length_eq_zero_iff.1 (by rw [lls_len]; omega)
 have hsk := mid_skip hwl hx (by rw [hbl, hp0]; rfl)
 refine Sy.heap (H' := (bo, cel 45 ((brows ((wbins b.bins ws).take (k + 1) ++ b.bins.drop (k + 1))).flatten ++ junk)) :: _) (fun w h => by rw [← hsk]; exact h) ?_
 refine sy_skip ?_
 refine sy_tx' [0, 1] rfl ?_
 refine sp rfl (PE.add rfl rfl (by omega)) rfl ?_
 refine sp rfl (PE.move rfl) rfl ?_
 exact sy_next ⟨k + 1, by omega⟩ (by dsimp only; omega) (by repeat' first | exact Sub.nil | apply Sub.cons | rfl | (simp [lk]; omega)) (fun w h => h.ftail)
 try simp only [decide_eq_true_eq, decide_eq_false_iff_not, Bool.and_eq_true, Bool.or_eq_true, Bool.not_eq_true', Int.not_le, Int.not_lt] at hc7
 obtain rfl : k = b.bins.length := by omega
 rw [show ((wbins b.bins ws).take b.bins.length ++ b.bins.drop b.bins.length) = wbins b.bins ws by rw [List.drop_length, List.append_nil, List.take_of_length_le (by rw [wbins_len hwl]; exact Nat.le_refl _)]]
 have hsl : (b.withB (wbins b.bins ws)).sl (some ⟨bo, 0, none⟩) cap = b.sl (some ⟨bo, 0, none⟩) cap := by unfold Barn.sl Barn.withB; dsimp only; rw [wbins_len hwl]
 refine sy_exit ?_
 repeat refine sy_tx ?_
 refine sy_bx ?_
 exact sy_jend ((aw, cw), (some ⟨bo, 0, none⟩, cap)) (by dsimp only; rw [e1, e2, e3]; rw [hpz, hc6]; exact (by repeat' first | exact Sub.nil | apply Sub.cons | rfl | (simp [lk]; omega))) (fun w h => by dsimp only; rw [e4, hsl]; exact St.binRows (l := wbins b.bins ws) (junk := junk) h)
 try simp only [decide_eq_true_eq, decide_eq_false_iff_not, Bool.and_eq_true, Bool.or_eq_true, Bool.not_eq_true', Int.not_le, Int.not_lt] at hc2
 obtain ⟨e1, e2, e3, e4, e5, e6⟩ := plBad (n := n) (show (b.planned (lls pl)) ≠ 0 from hc2)
 refine sy_skip ?_
 exact sy_jend ((none, 0), (none, 0)) (by dsimp only; rw [e1, e2, e3, e4, e5]; exact (by repeat' first | exact Sub.nil | apply Sub.cons | rfl | (simp [lk]; omega))) (fun w h => by dsimp only; rw [e4, e6]; exact St.noRows (St.noRows h))
 rintro ⟨⟨aw, cw⟩, ⟨aB, cB⟩⟩
 dsimp only
 refine sy_seq ?_
 refine sy_tx' [0, 1, 2, 3, 4, 5, 6, 7, 8] rfl ?_
 refine spL rfl rfl (lhA (btl b (b.sl a1 c1)) ag25 rfl rfl rfl) rfl ?_
 refine sp rfl (PE.move rfl) rfl ?_
 refine sp rfl (PE.move rfl) rfl ?_
 refine cl rfl cal26 rfl rfl (c_WarmthF b a1 c1 hl hr ql aq cq hqm hqi n _ _) ?_
 rintro _ _ R1 ⟨a5, c5, rfl, rfl, hR1⟩
 obtain rfl := hR1.symm
 clear hR1
 rw [hqe]
 refine sp rfl (PE.move rfl) rfl ?_
 refine sp rfl (PE.extract rfl rfl) rfl ?_
 refine sp rfl (PE.extract rfl rfl) rfl ?_
 refine sp rfl (PE.assign rfl) rfl ?_
 refine sp rfl (PE.assign rfl) rfl ?_
 refine sy_seq ?_
 refine sy_tx' [0, 1, 2, 3, 4, 5, 6, 7] rfl ?_
 refine spL rfl rfl (lhA (btl b (b.sl a1 c1)) ag25 rfl rfl rfl) rfl ?_
 refine sp rfl (PE.move rfl) rfl ?_
 refine cl rfl cal27 rfl rfl (c_KeepsF b a1 c1 hl hr ql aq cq hqm hqi _ _) ?_
 rintro _ _ _ ⟨rfl, rfl, rfl⟩
 rw [hqe]
 refine sp rfl (PE.move rfl) rfl ?_
 refine sp rfl (PE.extract rfl rfl) rfl ?_
 refine sp rfl (PE.extract rfl rfl) rfl ?_
 refine sp rfl (PE.assign rfl) rfl ?_
 refine sp rfl (PE.assign rfl) rfl ?_
 refine sy_seq ?_
 refine sy_tx' [0, 1, 2, 3, 4, 5, 6, 7, 8, 9] rfl ?_
 refine spL rfl rfl (lhA (btl b (b.sl a1 c1)) ag25 rfl rfl rfl) rfl ?_
 refine sp rfl (PE.move rfl) rfl ?_
 refine cl rfl cal28 rfl rfl (c_BurnsF b a1 c1 hl hr ql aq cq hqm hqi _ _) ?_
 rintro _ _ _ ⟨rfl, rfl, rfl⟩
 rw [hqe]
 refine sp rfl (PE.move rfl) rfl ?_
 refine sp rfl (PE.extract rfl rfl) rfl ?_
 refine sp rfl (PE.extract rfl rfl) rfl ?_
 refine sp rfl (PE.extract rfl rfl) rfl ?_
 refine sp rfl (PE.assign rfl) rfl ?_
 refine sp rfl (PE.assign rfl) rfl ?_
 refine sp rfl (PE.assign rfl) rfl ?_
 refine sy_seq ?_
 refine sy_tx' [0, 1, 2, 3, 4, 5, 6, 7, 8] rfl ?_
 refine spL rfl rfl (lhA (btl b (b.sl a1 c1)) ag25 rfl rfl rfl) rfl ?_
 refine sp rfl (PE.move rfl) rfl ?_
 refine cl rfl cal29 rfl rfl (c_AfterF b a1 c1 hl hr ql aq cq hqm hqi _ _) ?_
 rw [hqe]
 rintro _ _ R1 ⟨hR1, ⟨hPB, rfl, rfl⟩ | ⟨ws, bo, hwl, hPB, rfl, rfl⟩⟩ <;> obtain rfl := hR1.symm <;> clear hR1 <;> rw [hPB]
 refine sp rfl (PE.move rfl) rfl ?_
 refine sp rfl (PE.extract rfl rfl) rfl ?_
 refine sp rfl (PE.extract rfl rfl) rfl ?_
 refine alc rfl zl25 rfl (fun b31 => ?_)
 refine sto rfl rfl rfl cn25 rfl rfl rfl rfl ?_
 refine sp rfl (PE.assign rfl) rfl ?_
 refine sy_seq ?_
 refine sy_seq ?_
 refine sy_tx' [0, 1, 2, 3, 4, 5, 6, 7, 8, 9, 10, 11, 12, 13, 14, 15, 16, 17, 18, 19, 20, 21, 22, 23, 24, 25, 26, 27, 28, 29, 30, 31, 32, 33, 34, 35, 36, 37, 38, 39, 40, 41, 42, 43, 44, 45, 46, 47, 48, 49] rfl ?_
 refine Sy.heap (fun w h => St.noRows (sz := 4) h) ?_
 refine sp rfl (PE.move rfl) rfl ?_
 refine sp rfl (PE.move rfl) rfl ?_
 refine sp rfl (PE.neq rfl rfl) rfl ?_
 refine sp rfl (PE.move rfl) rfl ?_
 refine sy_case (t := 181) rfl (fun g181 => ?_) (fun g181 => ?_)
 exact absurd g181 (by simp)
 refine spG rfl rfl rfl rfl (PE.move rfl) rfl ?_
 refine spG rfl rfl rfl rfl (PE.move rfl) rfl ?_
 refine spG rfl rfl rfl rfl (PE.neq rfl rfl) rfl ?_
 refine sp rfl (PE.pick rfl rfl rfl) rfl ?_
 refine sp rfl (PE.move rfl) rfl ?_
 refine sy_case (t := 186) rfl (fun g186 => ?_) (fun g186 => ?_)
 exact absurd g186 (by simp)
 refine spG rfl rfl rfl rfl (PE.move rfl) rfl ?_
 refine spG rfl rfl rfl rfl (PE.move rfl) rfl ?_
 refine spG rfl rfl rfl rfl (PE.neq rfl rfl) rfl ?_
 refine sp rfl (PE.pick rfl rfl rfl) rfl ?_
 refine sp rfl (PE.move rfl) rfl ?_
 refine sy_case (t := 191) rfl (fun g191 => ?_) (fun g191 => ?_)
 exact absurd g191 (by simp)
 refine spG rfl rfl rfl rfl (PE.move rfl) rfl ?_
 refine spG rfl rfl rfl rfl (PE.move rfl) rfl ?_
 refine spG rfl rfl rfl rfl (PE.neq rfl rfl) rfl ?_
 refine sp rfl (PE.pick rfl rfl rfl) rfl ?_
 refine sp rfl (PE.move rfl) rfl ?_
 refine sy_case (t := 196) rfl (fun g196 => ?_) (fun g196 => ?_)
 exact absurd g196 (by simp)
 refine spG rfl rfl rfl rfl (PE.move rfl) rfl ?_
 refine spG rfl rfl rfl rfl (PE.move rfl) rfl ?_
 refine clVG rfl rfl rfl rfl cal30 rfl rfl (c_Eq_span (plW b (lls pl) n) (plW b (lls pl) n) a5 aw c5 cw (by unfold plW warmL wSpans; cases decide (warmErr b (lls pl) n = 0) <;> simp [lls_len]; omega) (by unfold plW warmL wSpans; cases decide (warmErr b (lls pl) n = 0) <;> simp [lls_len]; omega) _ _) ?_
 refine spG rfl rfl rfl rfl (PE.not rfl) rfl ?_
 refine sp rfl (PE.pick rfl rfl rfl) rfl ?_
 refine sp rfl (PE.move rfl) rfl ?_
 refine sy_case (t := 202) rfl (fun g202 => ?_) (fun g202 => ?_)
 exact absurd g202 (by simp)
 refine spG rfl rfl rfl rfl (PE.move rfl) rfl ?_
 refine spG rfl rfl rfl rfl (PE.move rfl) rfl ?_
 refine spG rfl rfl rfl rfl (PE.eql rfl rfl) rfl ?_
 refine spG rfl rfl rfl rfl (PE.move rfl) rfl ?_
 refine sy_case (t := 206) rfl (fun g206 => ?_) (fun g206 => ?_)
 try simp only [decide_eq_true_eq, decide_eq_false_iff_not, Bool.and_eq_true, Bool.or_eq_true, Bool.not_eq_true', Int.not_le, Int.not_lt] at g206
 refine spG rfl rfl rfl rfl (PE.move rfl) rfl ?_
 refine spG rfl rfl rfl rfl (PE.not rfl) rfl ?_
 refine spG rfl rfl rfl rfl (PE.pick rfl rfl rfl) rfl ?_
 refine spG rfl rfl rfl rfl (PE.neqBool ub4 rfl rfl) rfl ?_
 refine sp rfl (PE.pick rfl rfl rfl) rfl ?_
 refine sp rfl (PE.move rfl) rfl ?_
 refine sy_case (t := 212) rfl (fun g212 => ?_) (fun g212 => ?_)
 first | (rw [plK_ok g206] at g212; simp at g212) | (rw [plK_bad g206] at g212; simp at g212)
 refine spG rfl rfl rfl rfl (PE.move rfl) rfl ?_
 refine spG rfl rfl rfl rfl (PE.move rfl) rfl ?_
 refine spG rfl rfl rfl rfl (PE.neq rfl rfl) rfl ?_
 refine sp rfl (PE.pick rfl rfl rfl) rfl ?_
 refine sp rfl (PE.move rfl) rfl ?_
 refine sy_case (t := 217) rfl (fun g217 => ?_) (fun g217 => ?_)
 exact absurd g217 (by simp)
 refine spG rfl rfl rfl rfl (PE.move rfl) rfl ?_
 refine spG rfl rfl rfl rfl (PE.move rfl) rfl ?_
 refine spG rfl rfl rfl rfl (PE.neq rfl rfl) rfl ?_
 refine sp rfl (PE.pick rfl rfl rfl) rfl ?_
 refine sp rfl (PE.move rfl) rfl ?_
 refine sy_case (t := 222) rfl (fun g222 => ?_) (fun g222 => ?_)
 exact absurd g222 (by simp)
 refine spLG rfl rfl rfl rfl rfl (lhA (btl zbarn (.slice none 0 0)) ag25 rfl rfl rfl) rfl ?_
 refine spLG rfl rfl rfl rfl rfl (lhA (btl zbarn (zbarn.sl aB cB)) ag25 rfl rfl rfl) rfl ?_
 refine clVG rfl rfl rfl rfl cal31 rfl rfl (c_same zbarn none 0 zbarn aB cB (by decide) (by decide) rfl rfl _ _) ?_
 refine spG rfl rfl rfl rfl (PE.not rfl) rfl ?_
 refine sp rfl (PE.pick rfl rfl rfl) rfl ?_
 refine sy_cond rfl (fun hc9 => ?_) (fun hc9 => ?_)
 rw [sameB_iff.2 rfl] at hc9; exact absurd hc9 (by decide)
 refine sy_skip ?_
 refine sy_seq ?_
 refine sy_tx' [0, 1, 2] rfl ?_
 refine sp rfl (PE.fieldAddr fo25_3 rfl) rfl ?_
 refine spL rfl rfl (lh sc23 rfl rfl) rfl ?_
 refine clr0 rfl rfl sl23 rfl ?_
 refine sy_seq ?_
 refine sy_tx' [0, 1, 2, 3, 4, 5, 6, 7, 8, 9, 10, 11] rfl ?_
 refine spL rfl rfl (lhA (btl b (b.sl a1 c1)) ag25 rfl rfl rfl) rfl ?_
 refine spL rfl rfl (lhA (btl b (b.sl ab cb)) ag25 rfl rfl rfl) rfl ?_
 refine clV rfl cal31 rfl rfl (c_same b a1 c1 b ab cb hl hl hr hr _ _) ?_
 refine sp rfl (PE.move rfl) rfl ?_
 refine sy_case (t := 233) rfl (fun g233 => ?_) (fun g233 => ?_)
 refine spG rfl rfl rfl rfl (PE.move rfl) rfl ?_
 refine spG rfl rfl rfl rfl (PE.move rfl) rfl ?_
 refine clVG rfl rfl rfl rfl cal32 rfl rfl (c_EqRows ql aq cq hqm hqi pl ap cp hpl hpi _ _) ?_
 refine sp rfl (PE.pick rfl rfl rfl) rfl ?_
 refine sp rfl (PE.move rfl) rfl ?_
 refine sy_case (t := 238) rfl (fun g238 => ?_) (fun g238 => ?_)
 refine clVG rfl rfl rfl rfl cal18 rfl rfl (c_awake _ _) ?_
 refine sp rfl (PE.pick rfl rfl rfl) rfl ?_
 refine sp rfl (PE.assign rfl) rfl ?_
 refine sy_ret ?_
 exact sy_return (vs := [_]) rfl (.cons (RV.tmp rfl) .nil) rfl ⟨rfl, rfl, rfl⟩ (fun w h => (((((h.del b31).del b18).del b8).del b7).del b3).facts (fun g hg => by simp [hg]))
 rw [decide_eq_true hqe] at g238; exact absurd g238 (by decide)
 rw [sameB_iff.2 rfl] at g233; exact absurd g233 (by decide)
 try simp only [decide_eq_true_eq, decide_eq_false_iff_not, Bool.and_eq_true, Bool.or_eq_true, Bool.not_eq_true', Int.not_le, Int.not_lt] at g206
 repeat refine spN rfl rfl rfl rfl rfl rfl rfl rfl ?_
 refine spG rfl rfl rfl rfl (PE.pick rfl rfl rfl) rfl ?_
 refine spG rfl rfl rfl rfl (PE.neqBool ub4 rfl rfl) rfl ?_
 refine sp rfl (PE.pick rfl rfl rfl) rfl ?_
 refine sp rfl (PE.move rfl) rfl ?_
 refine sy_case (t := 212) rfl (fun g212 => ?_) (fun g212 => ?_)
 first | (rw [plK_ok g206] at g212; simp at g212) | (rw [plK_bad g206] at g212; simp at g212)
 refine spG rfl rfl rfl rfl (PE.move rfl) rfl ?_
 refine spG rfl rfl rfl rfl (PE.move rfl) rfl ?_
 refine spG rfl rfl rfl rfl (PE.neq rfl rfl) rfl ?_
 refine sp rfl (PE.pick rfl rfl rfl) rfl ?_
 refine sp rfl (PE.move rfl) rfl ?_
 refine sy_case (t := 217) rfl (fun g217 => ?_) (fun g217 => ?_)
 exact absurd g217 (by simp)
 refine spG rfl rfl rfl rfl (PE.move rfl) rfl ?_
 refine spG rfl rfl rfl rfl (PE.move rfl) rfl ?_
 refine spG rfl rfl rfl rfl (PE.neq rfl rfl) rfl ?_
 refine sp rfl (PE.pick rfl rfl rfl) rfl ?_
 refine sp rfl (PE.move rfl) rfl ?_
 refine sy_case (t := 222) rfl (fun g222 => ?_) (fun g222 => ?_)
 exact absurd g222 (by simp)
 refine spLG rfl rfl rfl rfl rfl (lhA (btl zbarn (.slice none 0 0)) ag25 rfl rfl rfl) rfl ?_
 refine spLG rfl rfl rfl rfl rfl (lhA (btl zbarn (zbarn.sl aB cB)) ag25 rfl rfl rfl) rfl ?_
 refine clVG rfl rfl rfl rfl cal31 rfl rfl (c_same zbarn none 0 zbarn aB cB (by decide) (by decide) rfl rfl _ _) ?_
 refine spG rfl rfl rfl rfl (PE.not rfl) rfl ?_
 refine sp rfl (PE.pick rfl rfl rfl) rfl ?_
 refine sy_cond rfl (fun hc9 => ?_) (fun hc9 => ?_)
 rw [sameB_iff.2 rfl] at hc9; exact absurd hc9 (by decide)
 refine sy_skip ?_
 refine sy_seq ?_
 refine sy_tx' [0, 1, 2] rfl ?_
 refine sp rfl (PE.fieldAddr fo25_3 rfl) rfl ?_
 refine spL rfl rfl (lh sc23 rfl rfl) rfl ?_
 refine clr0 rfl rfl sl23 rfl ?_
 refine sy_seq ?_
 refine sy_tx' [0, 1, 2, 3, 4, 5, 6, 7, 8, 9, 10, 11] rfl ?_
 refine spL rfl rfl (lhA (btl b (b.sl a1 c1)) ag25 rfl rfl rfl) rfl ?_
 refine spL rfl rfl (lhA (btl b (b.sl ab cb)) ag25 rfl rfl rfl) rfl ?_
 refine clV rfl cal31 rfl rfl (c_same b a1 c1 b ab cb hl hl hr hr _ _) ?_
 refine sp rfl (PE.move rfl) rfl ?_
 refine sy_case (t := 233) rfl (fun g233 => ?_) (fun g233 => ?_)
 refine spG rfl rfl rfl rfl (PE.move rfl) rfl ?_
 refine spG rfl rfl rfl rfl (PE.move rfl) rfl ?_
 refine clVG rfl rfl rfl rfl cal32 rfl rfl (c_EqRows ql aq cq hqm hqi pl ap cp hpl hpi _ _) ?_
 refine sp rfl (PE.pick rfl rfl rfl) rfl ?_
 refine sp rfl (PE.move rfl) rfl ?_
 refine sy_case (t := 238) rfl (fun g238 => ?_) (fun g238 => ?_)
 refine clVG rfl rfl rfl rfl cal18 rfl rfl (c_awake _ _) ?_
 refine sp rfl (PE.pick rfl rfl rfl) rfl ?_
 refine sp rfl (PE.assign rfl) rfl ?_
 refine sy_ret ?_
 exact sy_return (vs := [_]) rfl (.cons (RV.tmp rfl) .nil) rfl ⟨rfl, rfl, rfl⟩ (fun w h => (((((h.del b31).del b18).del b8).del b7).del b3).facts (fun g hg => by simp [hg]))
 rw [decide_eq_true hqe] at g238; exact absurd g238 (by decide)
 rw [sameB_iff.2 rfl] at g233; exact absurd g233 (by decide)
 refine sp rfl (PE.move rfl) rfl ?_
 refine sp rfl (PE.extract rfl rfl) rfl ?_
 refine sp rfl (PE.extract rfl rfl) rfl ?_
 refine alc rfl zl25 rfl (fun b31 => ?_)
 refine sto rfl rfl rfl cn25 rfl rfl rfl rfl ?_
 refine sp rfl (PE.assign rfl) rfl ?_
 refine sy_seq ?_
 refine sy_seq ?_
 refine sy_tx' [0, 1, 2, 3, 4, 5, 6, 7, 8, 9, 10, 11, 12, 13, 14, 15, 16, 17, 18, 19, 20, 21, 22, 23, 24, 25, 26, 27, 28, 29, 30, 31, 32, 33, 34, 35, 36, 37, 38, 39, 40, 41, 42, 43, 44, 45, 46, 47, 48, 49] rfl ?_
 refine Sy.heap (H' := (bo, cel 45 ((brows (wbins b.bins ws)).flatten ++ [])) :: _) (fun w h => by rw [List.append_nil]; exact h.pull bo) ?_
 have hls : (b.withB (wbins b.bins ws)).bins.length ≤ 9223372036854775807 := by unfold Barn.withB; dsimp only; rw [wbins_len hwl]; exact hl
 refine sp rfl (PE.move rfl) rfl ?_
 refine sp rfl (PE.move rfl) rfl ?_
 refine sp rfl (PE.neq rfl rfl) rfl ?_
 refine sp rfl (PE.move rfl) rfl ?_
 refine sy_case (t := 181) rfl (fun g181 => ?_) (fun g181 => ?_)
 exact absurd g181 (by simp)
 refine spG rfl rfl rfl rfl (PE.move rfl) rfl ?_
 refine spG rfl rfl rfl rfl (PE.move rfl) rfl ?_
 refine spG rfl rfl rfl rfl (PE.neq rfl rfl) rfl ?_
 refine sp rfl (PE.pick rfl rfl rfl) rfl ?_
 refine sp rfl (PE.move rfl) rfl ?_
 refine sy_case (t := 186) rfl (fun g186 => ?_) (fun g186 => ?_)
 exact absurd g186 (by simp)
 refine spG rfl rfl rfl rfl (PE.move rfl) rfl ?_
 refine spG rfl rfl rfl rfl (PE.move rfl) rfl ?_
 refine spG rfl rfl rfl rfl (PE.neq rfl rfl) rfl ?_
 refine sp rfl (PE.pick rfl rfl rfl) rfl ?_
 refine sp rfl (PE.move rfl) rfl ?_
 refine sy_case (t := 191) rfl (fun g191 => ?_) (fun g191 => ?_)
 exact absurd g191 (by simp)
 refine spG rfl rfl rfl rfl (PE.move rfl) rfl ?_
 refine spG rfl rfl rfl rfl (PE.move rfl) rfl ?_
 refine spG rfl rfl rfl rfl (PE.neq rfl rfl) rfl ?_
 refine sp rfl (PE.pick rfl rfl rfl) rfl ?_
 refine sp rfl (PE.move rfl) rfl ?_
 refine sy_case (t := 196) rfl (fun g196 => ?_) (fun g196 => ?_)
 exact absurd g196 (by simp)
 refine spG rfl rfl rfl rfl (PE.move rfl) rfl ?_
 refine spG rfl rfl rfl rfl (PE.move rfl) rfl ?_
 refine clVG rfl rfl rfl rfl cal30 rfl rfl (c_Eq_span (plW b (lls pl) n) (plW b (lls pl) n) a5 aw c5 cw (by unfold plW warmL wSpans; cases decide (warmErr b (lls pl) n = 0) <;> simp [lls_len]; omega) (by unfold plW warmL wSpans; cases decide (warmErr b (lls pl) n = 0) <;> simp [lls_len]; omega) _ _) ?_
 refine spG rfl rfl rfl rfl (PE.not rfl) rfl ?_
 refine sp rfl (PE.pick rfl rfl rfl) rfl ?_
 refine sp rfl (PE.move rfl) rfl ?_
 refine sy_case (t := 202) rfl (fun g202 => ?_) (fun g202 => ?_)
 exact absurd g202 (by simp)
 refine spG rfl rfl rfl rfl (PE.move rfl) rfl ?_
 refine spG rfl rfl rfl rfl (PE.move rfl) rfl ?_
 refine spG rfl rfl rfl rfl (PE.eql rfl rfl) rfl ?_
 refine spG rfl rfl rfl rfl (PE.move rfl) rfl ?_
 refine sy_case (t := 206) rfl (fun g206 => ?_) (fun g206 => ?_)
 try simp only [decide_eq_true_eq, decide_eq_false_iff_not, Bool.and_eq_true, Bool.or_eq_true, Bool.not_eq_true', Int.not_le, Int.not_lt] at g206
 refine spG rfl rfl rfl rfl (PE.move rfl) rfl ?_
 refine spG rfl rfl rfl rfl (PE.not rfl) rfl ?_
 refine spG rfl rfl rfl rfl (PE.pick rfl rfl rfl) rfl ?_
 refine spG rfl rfl rfl rfl (PE.neqBool ub4 rfl rfl) rfl ?_
 refine sp rfl (PE.pick rfl rfl rfl) rfl ?_
 refine sp rfl (PE.move rfl) rfl ?_
 refine sy_case (t := 212) rfl (fun g212 => ?_) (fun g212 => ?_)
 first | (rw [plK_ok g206] at g212; simp at g212) | (rw [plK_bad g206] at g212; simp at g212)
 refine spG rfl rfl rfl rfl (PE.move rfl) rfl ?_
 refine spG rfl rfl rfl rfl (PE.move rfl) rfl ?_
 refine spG rfl rfl rfl rfl (PE.neq rfl rfl) rfl ?_
 refine sp rfl (PE.pick rfl rfl rfl) rfl ?_
 refine sp rfl (PE.move rfl) rfl ?_
 refine sy_case (t := 217) rfl (fun g217 => ?_) (fun g217 => ?_)
 exact absurd g217 (by simp)
 refine spG rfl rfl rfl rfl (PE.move rfl) rfl ?_
 refine spG rfl rfl rfl rfl (PE.move rfl) rfl ?_
 refine spG rfl rfl rfl rfl (PE.neq rfl rfl) rfl ?_
 refine sp rfl (PE.pick rfl rfl rfl) rfl ?_
 refine sp rfl (PE.move rfl) rfl ?_
 refine sy_case (t := 222) rfl (fun g222 => ?_) (fun g222 => ?_)
 exact absurd g222 (by simp)
 refine spLG rfl rfl rfl rfl rfl (lhA (btl (b.withB (wbins b.bins ws)) ((b.withB (wbins b.bins ws)).sl (some ⟨bo, 0, none⟩) b.bins.length)) ag25 rfl rfl rfl) rfl ?_
 refine spLG rfl rfl rfl rfl rfl (lhA (btl (b.withB (wbins b.bins ws)) ((b.withB (wbins b.bins ws)).sl aB cB)) ag25 rfl rfl rfl) rfl ?_
 refine clVG rfl rfl rfl rfl cal31 rfl rfl (FnV.lend (b := bo) (e := 45) (sz := 4) (rows := brows (wbins b.bins ws)) (junk := []) brow_len (fun B => c_same (b.withB (wbins b.bins ws)) (some ⟨bo, 0, none⟩) b.bins.length (b.withB (wbins b.bins ws)) aB cB hls hls hr hr _ _)) ?_
 refine spG rfl rfl rfl rfl (PE.not rfl) rfl ?_
 refine sp rfl (PE.pick rfl rfl rfl) rfl ?_
 refine sy_cond rfl (fun hc9 => ?_) (fun hc9 => ?_)
 rw [sameB_iff.2 rfl] at hc9; exact absurd hc9 (by decide)
 refine sy_skip ?_
 refine sy_seq ?_
 refine sy_tx' [0, 1, 2] rfl ?_
 refine sp rfl (PE.fieldAddr fo25_3 rfl) rfl ?_
 refine spL rfl rfl (lh sc23 rfl rfl) rfl ?_
 refine clrB rfl rfl sl23 zl45 rfl rfl rfl (by rw [List.append_nil, br_flat]; unfold Barn.withB; dsimp only; exact Nat.le_refl _) ?_
 refine sy_seq ?_
 refine sy_tx' [0, 1, 2, 3, 4, 5, 6, 7, 8, 9, 10, 11] rfl ?_
 refine spL rfl rfl (lhA (btl b (b.sl a1 c1)) ag25 rfl rfl rfl) rfl ?_
 refine spL rfl rfl (lhA (btl b (b.sl ab cb)) ag25 rfl rfl rfl) rfl ?_
 refine clV rfl cal31 rfl rfl (c_same b a1 c1 b ab cb hl hl hr hr _ _) ?_
 refine sp rfl (PE.move rfl) rfl ?_
 refine sy_case (t := 233) rfl (fun g233 => ?_) (fun g233 => ?_)
 refine spG rfl rfl rfl rfl (PE.move rfl) rfl ?_
 refine spG rfl rfl rfl rfl (PE.move rfl) rfl ?_
 refine clVG rfl rfl rfl rfl cal32 rfl rfl (c_EqRows ql aq cq hqm hqi pl ap cp hpl hpi _ _) ?_
 refine sp rfl (PE.pick rfl rfl rfl) rfl ?_
 refine sp rfl (PE.move rfl) rfl ?_
 refine sy_case (t := 238) rfl (fun g238 => ?_) (fun g238 => ?_)
 refine clVG rfl rfl rfl rfl cal18 rfl rfl (c_awake _ _) ?_
 refine sp rfl (PE.pick rfl rfl rfl) rfl ?_
 refine sp rfl (PE.assign rfl) rfl ?_
 refine sy_ret ?_
 exact sy_return (vs := [_]) rfl (.cons (RV.tmp rfl) .nil) rfl ⟨rfl, rfl, rfl⟩ (fun w h => ((((((h.del bo).del b31).del b18).del b8).del b7).del b3).facts (fun g hg => by simp [hg]))
 rw [decide_eq_true hqe] at g238; exact absurd g238 (by decide)
 rw [sameB_iff.2 rfl] at g233; exact absurd g233 (by decide)
 try simp only [decide_eq_true_eq, decide_eq_false_iff_not, Bool.and_eq_true, Bool.or_eq_true, Bool.not_eq_true', Int.not_le, Int.not_lt] at g206
 repeat refine spN rfl rfl rfl rfl rfl rfl rfl rfl ?_
 refine spG rfl rfl rfl rfl (PE.pick rfl rfl rfl) rfl ?_
 refine spG rfl rfl rfl rfl (PE.neqBool ub4 rfl rfl) rfl ?_
 refine sp rfl (PE.pick rfl rfl rfl) rfl ?_
 refine sp rfl (PE.move rfl) rfl ?_
 refine sy_case (t := 212) rfl (fun g212 => ?_) (fun g212 => ?_)
 first | (rw [plK_ok g206] at g212; simp at g212) | (rw [plK_bad g206] at g212; simp at g212)
 refine spG rfl rfl rfl rfl (PE.move rfl) rfl ?_
 refine spG rfl rfl rfl rfl (PE.move rfl) rfl ?_
 refine spG rfl rfl rfl rfl (PE.neq rfl rfl) rfl ?_
 refine sp rfl (PE.pick rfl rfl rfl) rfl ?_
 refine sp rfl (PE.move rfl) rfl ?_
 refine sy_case (t := 217) rfl (fun g217 => ?_) (fun g217 => ?_)
 exact absurd g217 (by simp)
 refine spG rfl rfl rfl rfl (PE.move rfl) rfl ?_
 refine spG rfl rfl rfl rfl (PE.move rfl) rfl ?_
 refine spG rfl rfl rfl rfl (PE.neq rfl rfl) rfl ?_
 refine sp rfl (PE.pick rfl rfl rfl) rfl ?_
 refine sp rfl (PE.move rfl) rfl ?_
 refine sy_case (t := 222) rfl (fun g222 => ?_) (fun g222 => ?_)
 exact absurd g222 (by simp)
 refine spLG rfl rfl rfl rfl rfl (lhA (btl (b.withB (wbins b.bins ws)) ((b.withB (wbins b.bins ws)).sl (some ⟨bo, 0, none⟩) b.bins.length)) ag25 rfl rfl rfl) rfl ?_
 refine spLG rfl rfl rfl rfl rfl (lhA (btl (b.withB (wbins b.bins ws)) ((b.withB (wbins b.bins ws)).sl aB cB)) ag25 rfl rfl rfl) rfl ?_
 refine clVG rfl rfl rfl rfl cal31 rfl rfl (FnV.lend (b := bo) (e := 45) (sz := 4) (rows := brows (wbins b.bins ws)) (junk := []) brow_len (fun B => c_same (b.withB (wbins b.bins ws)) (some ⟨bo, 0, none⟩) b.bins.length (b.withB (wbins b.bins ws)) aB cB hls hls hr hr _ _)) ?_
 refine spG rfl rfl rfl rfl (PE.not rfl) rfl ?_
 refine sp rfl (PE.pick rfl rfl rfl) rfl ?_
 refine sy_cond rfl (fun hc9 => ?_) (fun hc9 => ?_)
 rw [sameB_iff.2 rfl] at hc9; exact absurd hc9 (by decide)
 refine sy_skip ?_
 refine sy_seq ?_
 refine sy_tx' [0, 1, 2] rfl ?_
 refine sp rfl (PE.fieldAddr fo25_3 rfl) rfl ?_
 refine spL rfl rfl (lh sc23 rfl rfl) rfl ?_
 refine clrB rfl rfl sl23 zl45 rfl rfl rfl (by rw [List.append_nil, br_flat]; unfold Barn.withB; dsimp only; exact Nat.le_refl _) ?_
 refine sy_seq ?_
 refine sy_tx' [0, 1, 2, 3, 4, 5, 6, 7, 8, 9, 10, 11] rfl ?_
 refine spL rfl rfl (lhA (btl b (b.sl a1 c1)) ag25 rfl rfl rfl) rfl ?_
 refine spL rfl rfl (lhA (btl b (b.sl ab cb)) ag25 rfl rfl rfl) rfl ?_
 refine clV rfl cal31 rfl rfl (c_same b a1 c1 b ab cb hl hl hr hr _ _) ?_
 refine sp rfl (PE.move rfl) rfl ?_
 refine sy_case (t := 233) rfl (fun g233 => ?_) (fun g233 => ?_)
 refine spG rfl rfl rfl rfl (PE.move rfl) rfl ?_
 refine spG rfl rfl rfl rfl (PE.move rfl) rfl ?_
 refine clVG rfl rfl rfl rfl cal32 rfl rfl (c_EqRows ql aq cq hqm hqi pl ap cp hpl hpi _ _) ?_
 refine sp rfl (PE.pick rfl rfl rfl) rfl ?_
 refine sp rfl (PE.move rfl) rfl ?_
 refine sy_case (t := 238) rfl (fun g238 => ?_) (fun g238 => ?_)
 refine clVG rfl rfl rfl rfl cal18 rfl rfl (c_awake _ _) ?_
 refine sp rfl (PE.pick rfl rfl rfl) rfl ?_
 refine sp rfl (PE.assign rfl) rfl ?_
 refine sy_ret ?_
 exact sy_return (vs := [_]) rfl (.cons (RV.tmp rfl) .nil) rfl ⟨rfl, rfl, rfl⟩ (fun w h => ((((((h.del bo).del b31).del b18).del b8).del b7).del b3).facts (fun g hg => by simp [hg]))
 rw [decide_eq_true hqe] at g238; exact absurd g238 (by decide)
 rw [sameB_iff.2 rfl] at g233; exact absurd g233 (by decide)
end Go.Proofs.Ytelegnmfhjfbaaa
