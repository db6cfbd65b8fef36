/- Walks of the functions of the program: what each returns and leaves in memory, under the conditions that its theorem names. -/
import Derived.Test.YtaldphhdkmchhaaTy
import Derived.Test.YtaldphhdkmchhaaMa
namespace Go.Proofs.Ytaldphhdkmchhaa
set_option linter.unusedSimpArgs false
set_option linter.unusedVariables false
open Go
theorem ag23 : aggN Try.prog 23 = some 3 := by kernel_rfl
theorem ag26 : aggN Try.prog 26 = some 11 := by kernel_rfl
theorem cal103 : cal Try.prog 103 = true := by kernel_rfl
theorem cal128 : cal Try.prog 128 = true := by kernel_rfl
theorem cal92 : cal Try.prog 92 = true := by kernel_rfl
theorem cn23 : cellN Try.prog 23 = some 3 := by kernel_rfl
theorem cn3 : cellN Try.prog 3 = some 1 := by kernel_rfl
theorem el24 : elN Try.prog 24 = some 2 := by kernel_rfl
theorem el42 : elN Try.prog 42 = some 1 := by kernel_rfl
theorem fo23_0 : fOff Try.prog 23 0 = some 0 := by kernel_rfl
theorem fo23_1 : fOff Try.prog 23 1 = some 1 := by kernel_rfl
theorem fo23_2 : fOff Try.prog 23 2 = some 2 := by kernel_rfl
theorem fo26_1 : fOff Try.prog 26 1 = some 3 := by kernel_rfl
theorem fo26_2 : fOff Try.prog 26 2 = some 4 := by kernel_rfl
theorem fo26_3 : fOff Try.prog 26 3 = some 5 := by kernel_rfl
theorem fo26_4 : fOff Try.prog 26 4 = some 6 := by kernel_rfl
theorem fo26_5 : fOff Try.prog 26 5 = some 7 := by kernel_rfl
theorem fo26_6 : fOff Try.prog 26 6 = some 8 := by kernel_rfl
theorem fo26_7 : fOff Try.prog 26 7 = some 9 := by kernel_rfl
theorem fo26_8 : fOff Try.prog 26 8 = some 10 := by kernel_rfl
theorem fo91_0 : fOff Try.prog 91 0 = some 0 := by kernel_rfl
theorem isl24 : isSl Try.prog 24 = true := by kernel_rfl
theorem isl42 : isSl Try.prog 42 = true := by kernel_rfl
theorem pl23 : placeL Try.prog 23 = some [(0, 1), (1, 1), (2, 1)] := by kernel_rfl
theorem sc24 : scal Try.prog 24 = true := by kernel_rfl
theorem sc3 : scal Try.prog 3 = true := by kernel_rfl
theorem sl42 : slE Try.prog 42 = some (3, 1) := by kernel_rfl
theorem zl23 : zeroL Try.prog 23 = some ([.int .i64 0, .int .i64 0, .int .i64 0]) := by kernel_rfl
theorem zl3 : zeroL Try.prog 3 = some ([.int .i64 0]) := by kernel_rfl
theorem c_in (n lo hi : Int) (H : Heap) (R : Facts) :
    FnV Try.prog 92 [.int .i64 n, .int .i64 lo, .int .i64 hi] H R (.bool (decide (lo ≤ n) && decide (n ≤ hi))) := by
  refine fn_of Try.func92 rfl Try.ntmps92 rfl ?_
  refine sy_seq ?_
  refine sy_tx' [0] rfl ?_
  refine sy_sq ?_
  refine sp rfl (PE.assign rfl) rfl ?_
  refine sy_sn ?_
  refine sy_nx ?_
  refine sy_seq ?_
  refine sy_tx' [0, 1, 2, 3, 4, 5, 6, 7, 8] rfl ?_
  refine sy_sq ?_
  refine sp rfl (PE.move rfl) rfl ?_
  refine sy_sq ?_
  refine sp rfl (PE.move rfl) rfl ?_
  refine sy_sq ?_
  refine sp rfl (PE.geq rfl rfl) rfl ?_
  refine sy_sq ?_
  refine sp rfl (PE.move rfl) rfl ?_
  refine sy_sq ?_
  refine sy_case (t := 10) rfl (fun g10 => ?_) (fun g10 => ?_)
  ·
   try simp only [decide_eq_true_eq, decide_eq_false_iff_not, Bool.and_eq_true, Bool.or_eq_true, Bool.not_eq_true', Int.not_le, Int.not_lt] at g10
   refine spG rfl rfl rfl rfl (PE.move rfl) rfl ?_
   refine sy_sq ?_
   refine spG rfl rfl rfl rfl (PE.move rfl) rfl ?_
   refine sy_sq ?_
   refine spG rfl rfl rfl rfl (PE.leq rfl rfl) rfl ?_
   refine sy_sq ?_
   refine sp rfl (PE.pick rfl rfl rfl) rfl ?_
   refine sy_sq ?_
   refine sp rfl (PE.assign rfl) rfl ?_
   refine sy_sn ?_
   refine sy_nx ?_
   refine sy_ret ?_
   exact sy_return (vs := [_]) rfl (.cons (RV.tmp rfl) .nil) rfl ⟨by simp [retV, g10]; try omega, rfl, rfl⟩ (fun _ h => by repeat first | exact h | replace h := St.tail h | replace h := St.ftail h | replace h := St.drop h)
  ·
   try simp only [decide_eq_true_eq, decide_eq_false_iff_not, Bool.and_eq_true, Bool.or_eq_true, Bool.not_eq_true', Int.not_le, Int.not_lt] at g10
   refine spN rfl rfl rfl rfl rfl rfl rfl rfl ?_
   refine sy_sq ?_
   refine spN rfl rfl rfl rfl rfl rfl rfl rfl ?_
   refine sy_sq ?_
   refine spN rfl rfl rfl rfl rfl rfl rfl rfl ?_
   refine sy_sq ?_
   refine sp rfl (PE.pick rfl rfl rfl) rfl ?_
   refine sy_sq ?_
   refine sp rfl (PE.assign rfl) rfl ?_
   refine sy_sn ?_
   refine sy_nx ?_
   refine sy_ret ?_
   exact sy_return (vs := [_]) rfl (.cons (RV.tmp rfl) .nil) rfl ⟨by simp [retV, g10]; try omega, rfl, rfl⟩ (fun _ h => by repeat first | exact h | replace h := St.tail h | replace h := St.ftail h | replace h := St.drop h)

theorem c_least1 (n m : Int) (a : Option Addr) (c : Nat) (H : Heap) (R : Facts) [hR : MemRows a 1 [[.int .i64 m]] R] :
    FnV Try.prog 103 [.int .i64 n, .slice a 1 c] H R (.int .i64 (min n m)) := by
  refine fn_of Try.func103 rfl Try.ntmps103 rfl ?_
  refine sy_seq ?_
  refine sy_tx' [0] rfl ?_
  refine sy_sq ?_
  refine sp rfl (PE.assign rfl) rfl ?_
  refine sy_sn ?_
  refine sy_nx ?_
  refine sy_seq ?_
  refine sy_seq ?_
  refine sy_tx' [0, 1, 2] rfl ?_
  refine sy_sq ?_
  refine sp rfl (PE.move rfl) rfl ?_
  refine sy_sq ?_
  refine sp rfl (PE.lenSl isl42 rfl) rfl ?_
  refine sy_sq ?_
  refine sp rfl (PE.move rfl) rfl ?_
  refine sy_sn ?_
  refine sy_nx ?_
  refine sy_block ?_
  refine sy_addr (a := a) (sz := 1) (rows := [[.int .i64 m]]) (by simp) (fun b off he => ?_)
  subst he
  refine sy_loop (ι := {k : Nat // k ≤ 1}) (fun k => ⟨[(0, .int .i64 (bif k.1 == 0 then n else min n m)), (7, .slice (some ⟨b, off, none⟩) 1 c), (8, .int .i64 1), (9, .int .i64 k.1)], H, R⟩) (fun k => 1 - k.1) ⟨0, by omega⟩ ?_ (fun k => ?_)
  ·
   exact sy_at (by repeat' first | exact Sub.nil | apply Sub.cons | rfl | (simp [lk]; omega)) (fun _ h => h)
  ·
   obtain ⟨k, hk⟩ := k
   dsimp only
   refine sy_seq ?_
   refine sy_tx' [0] rfl ?_
   refine sy_sq ?_
   refine sp rfl (PE.lss rfl rfl) rfl ?_
   refine sy_sn ?_
   refine sy_nx ?_
   refine sy_seq ?_
   refine sy_cond rfl (fun hc0 => ?_) (fun hc0 => ?_)
   ·
    simp only [decide_eq_true_eq, decide_eq_false_iff_not, Bool.and_eq_true, Bool.or_eq_true, Bool.not_eq_true', Int.not_le, Int.not_lt] at hc0
    obtain rfl : k = 0 := by omega
    refine sy_skip ?_
    refine sy_nx ?_
    refine sy_seq ?_
    refine sy_block ?_
    refine sy_seq ?_
    refine sy_tx' [0, 1, 2] rfl ?_
    refine sy_sq ?_
    refine sp rfl (PE.indexAddr el42 rfl rfl (by omega) (by omega)) rfl ?_
    refine sy_sq ?_
    refine spL rfl rfl (lf0 sc3 (row := [.int .i64 m]) rfl rfl) rfl ?_
    refine sy_sq ?_
    refine sp rfl (PE.assign rfl) rfl ?_
    refine sy_sn ?_
    refine sy_nx ?_
    refine sy_tx' [0, 1, 2, 3] rfl ?_
    refine sy_sq ?_
    refine sp rfl (PE.move rfl) rfl ?_
    refine sy_sq ?_
    refine sp rfl (PE.move rfl) rfl ?_
    refine sy_sq ?_
    refine sp rfl (PE.min rfl rfl) rfl ?_
    refine sy_sq ?_
    refine sp rfl (PE.assign rfl) rfl ?_
    refine sy_sn ?_
    refine sy_bn ?_
    refine sy_nx ?_
    refine sy_tx' [0, 1] rfl ?_
    refine sy_sq ?_
    refine sp rfl (PE.add rfl rfl (by omega)) rfl ?_
    refine sy_sq ?_
    refine sp rfl (PE.move rfl) rfl ?_
    refine sy_sn ?_
    refine sy_nx ?_
    exact sy_next ⟨1, by omega⟩ (by simp) (by repeat' first | exact Sub.nil | apply Sub.cons | rfl | (simp [lk]; omega)) (fun _ h => h)
   ·
    try simp only [decide_eq_true_eq, decide_eq_false_iff_not, Bool.and_eq_true, Bool.or_eq_true, Bool.not_eq_true', Int.not_le, Int.not_lt] at hc0
    refine sy_exit ?_
    refine sy_tx ?_
    refine sy_tx ?_
    refine sy_bx ?_
    refine sy_nx ?_
    refine sy_seq ?_
    refine sy_tx' [0, 1] rfl ?_
    refine sy_sq ?_
    refine sp rfl (PE.move rfl) rfl ?_
    refine sy_sq ?_
    refine sp rfl (PE.assign rfl) rfl ?_
    refine sy_sn ?_
    refine sy_nx ?_
    refine sy_ret ?_
    obtain rfl : k = 1 := by omega
    exact sy_return (vs := [_]) rfl (.cons (RV.tmp rfl) .nil) rfl ⟨rfl, rfl, rfl⟩ (fun _ h => by repeat first | exact h | replace h := St.tail h | replace h := St.ftail h | replace h := St.drop h)

/-- Values. -/
abbrev Sta.v (s : Sta) : Value := .agg #[.int .i64 s.stock, .int .i64 s.short, .int .i64 s.dry]
abbrev twl (t : Twn) (sl : Value) : List Value := [.int .i64 t.now.stock, .int .i64 t.now.short, .int .i64 t.now.dry, .int .i64 t.holds, .int .i64 t.need, .int .i64 t.patience, .int .i64 t.run, .int .i64 t.good, .int .i64 t.bad, .int .i64 t.rot, sl]
abbrev Twn.v (t : Twn) (sl : Value) : Value := .agg (twl t sl).toArray
def rrow (q : Rn) : List Value := [.int .i64 q.sacks, .int .i64 q.price]
def rrows (l : List Rn) : List (List Value) := l.map rrow
abbrev Twn.sl (t : Twn) (a : Option Addr) (c : Nat) : Value := .slice a t.rats.length c
theorem rr_get {l : List Rn} {k : Nat} {q : Rn} (h : l[k]? = some q) : (rrows l)[k]? = some (rrow q) := by simp [rrows, h]

theorem c_right (t : Twn) (s : Sta) (sl : Value) (H : Heap) (R : Facts) :
    FnV Try.prog 91 [t.v sl, s.v] H R (.bool (s.right t)) := by
  refine fn_of Try.func91 rfl Try.ntmps91 rfl ?_
  refine sy_seq ?_
  refine sy_tx' [0, 1, 2] rfl ?_
  refine sy_sq ?_
  refine bx rfl rfl rfl (fun b2 => ?_)
  refine sy_sq ?_
  refine bx rfl rfl rfl (fun b3 => ?_)
  refine sy_sq ?_
  refine sp rfl (PE.assign rfl) rfl ?_
  refine sy_sn ?_
  refine sy_nx ?_
  refine sy_seq ?_
  refine sy_tx' [0, 1, 2, 3, 4, 5, 6, 7, 8, 9, 10, 11, 12, 13, 14, 15, 16, 17, 18, 19] rfl ?_
  refine sy_sq ?_
  refine sp rfl (PE.fieldAddr fo23_0 rfl) rfl ?_
  refine sy_sq ?_
  refine spL rfl rfl (lh sc3 rfl rfl) rfl ?_
  refine sy_sq ?_
  refine sp rfl (PE.fieldAddr fo26_1 rfl) rfl ?_
  refine sy_sq ?_
  refine spL rfl rfl (lh sc3 rfl rfl) rfl ?_
  refine sy_sq ?_
  refine clV rfl cal92 rfl rfl (c_in _ _ _ _ _) ?_
  refine sy_sq ?_
  refine sp rfl (PE.move rfl) rfl ?_
  refine sy_sq ?_
  refine sy_case (t := 10) rfl (fun g10 => ?_) (fun g10 => ?_)
  ·
   refine spG rfl rfl rfl rfl (PE.fieldAddr fo23_1 rfl) rfl ?_
   refine sy_sq ?_
   refine spLG rfl rfl rfl rfl rfl (lh sc3 rfl rfl) rfl ?_
   refine sy_sq ?_
   refine spG rfl rfl rfl rfl (PE.fieldAddr fo26_3 rfl) rfl ?_
   refine sy_sq ?_
   refine spLG rfl rfl rfl rfl rfl (lh sc3 rfl rfl) rfl ?_
   refine sy_sq ?_
   refine clVG rfl rfl rfl rfl cal92 rfl rfl (c_in _ _ _ _ _) ?_
   refine sy_sq ?_
   refine sp rfl (PE.pick rfl rfl rfl) rfl ?_
   refine sy_sq ?_
   refine sp rfl (PE.move rfl) rfl ?_
   refine sy_sq ?_
   refine sy_case (t := 17) rfl (fun g17 => ?_) (fun g17 => ?_)
   ·
    refine spG rfl rfl rfl rfl (PE.fieldAddr fo23_2 rfl) rfl ?_
    refine sy_sq ?_
    refine spLG rfl rfl rfl rfl rfl (lh sc3 rfl rfl) rfl ?_
    refine sy_sq ?_
    refine spG rfl rfl rfl rfl (PE.fieldAddr fo26_4 rfl) rfl ?_
    refine sy_sq ?_
    refine spLG rfl rfl rfl rfl rfl (lh sc3 rfl rfl) rfl ?_
    refine sy_sq ?_
    refine clVG rfl rfl rfl rfl cal92 rfl rfl (c_in _ _ _ _ _) ?_
    refine sy_sq ?_
    refine sp rfl (PE.pick rfl rfl rfl) rfl ?_
    refine sy_sq ?_
    refine sp rfl (PE.assign rfl) rfl ?_
    refine sy_sn ?_
    refine sy_nx ?_
    refine sy_ret ?_
    exact sy_return (vs := [_]) rfl (.cons (RV.tmp rfl) .nil) rfl ⟨by simp_all only [retV, Sta.right, Bool.true_and, Bool.false_and, cond_true, cond_false], rfl, rfl⟩ (fun _ h => by repeat first | exact h | replace h := St.tail h | replace h := St.ftail h | replace h := St.drop h)
   ·
    refine spN rfl rfl rfl rfl rfl rfl rfl rfl ?_
    refine sy_sq ?_
    refine spN rfl rfl rfl rfl rfl rfl rfl rfl ?_
    refine sy_sq ?_
    refine spN rfl rfl rfl rfl rfl rfl rfl rfl ?_
    refine sy_sq ?_
    refine spN rfl rfl rfl rfl rfl rfl rfl rfl ?_
    refine sy_sq ?_
    refine spN rfl rfl rfl rfl rfl rfl rfl rfl ?_
    refine sy_sq ?_
    refine sp rfl (PE.pick rfl rfl rfl) rfl ?_
    refine sy_sq ?_
    refine sp rfl (PE.assign rfl) rfl ?_
    refine sy_sn ?_
    refine sy_nx ?_
    refine sy_ret ?_
    exact sy_return (vs := [_]) rfl (.cons (RV.tmp rfl) .nil) rfl ⟨by simp_all only [retV, Sta.right, Bool.true_and, Bool.false_and, cond_true, cond_false], rfl, rfl⟩ (fun _ h => by repeat first | exact h | replace h := St.tail h | replace h := St.ftail h | replace h := St.drop h)
  ·
   refine spN rfl rfl rfl rfl rfl rfl rfl rfl ?_
   refine sy_sq ?_
   refine spN rfl rfl rfl rfl rfl rfl rfl rfl ?_
   refine sy_sq ?_
   refine spN rfl rfl rfl rfl rfl rfl rfl rfl ?_
   refine sy_sq ?_
   refine spN rfl rfl rfl rfl rfl rfl rfl rfl ?_
   refine sy_sq ?_
   refine spN rfl rfl rfl rfl rfl rfl rfl rfl ?_
   refine sy_sq ?_
   refine sp rfl (PE.pick rfl rfl rfl) rfl ?_
   refine sy_sq ?_
   refine sp rfl (PE.move rfl) rfl ?_
   refine sy_sq ?_
   refine spN rfl rfl rfl rfl rfl rfl rfl rfl ?_
   refine sy_sq ?_
   refine spN rfl rfl rfl rfl rfl rfl rfl rfl ?_
   refine sy_sq ?_
   refine spN rfl rfl rfl rfl rfl rfl rfl rfl ?_
   refine sy_sq ?_
   refine spN rfl rfl rfl rfl rfl rfl rfl rfl ?_
   refine sy_sq ?_
   refine spN rfl rfl rfl rfl rfl rfl rfl rfl ?_
   refine sy_sq ?_
   refine sp rfl (PE.pick rfl rfl rfl) rfl ?_
   refine sy_sq ?_
   refine sp rfl (PE.assign rfl) rfl ?_
   refine sy_sn ?_
   refine sy_nx ?_
   refine sy_ret ?_
   exact sy_return (vs := [_]) rfl (.cons (RV.tmp rfl) .nil) rfl ⟨by simp_all only [retV, Sta.right, Bool.true_and, Bool.false_and, cond_true, cond_false], rfl, rfl⟩ (fun _ h => by repeat first | exact h | replace h := St.tail h | replace h := St.ftail h | replace h := St.drop h)

theorem c_ration (t : Twn) (r : Int) (a : Option Addr) (c : Nat) (hl : t.rats.length ≤ 9223372036854775807) (H : Heap) (R : Facts) :
    FnV Try.prog 93 [t.v (t.sl a c), .int .i64 r] H R (.bool (decide (0 ≤ r) && decide (r ≤ (t.rats.length : Int) - 1))) := by
  refine fn_of Try.func93 rfl Try.ntmps93 rfl ?_
  refine sy_seq ?_
  refine sy_tx' [0, 1] rfl ?_
  refine sy_sq ?_
  refine bx rfl rfl rfl (fun b2 => ?_)
  refine sy_sq ?_
  refine sp rfl (PE.assign rfl) rfl ?_
  refine sy_sn ?_
  refine sy_nx ?_
  refine sy_seq ?_
  refine sy_tx' [0, 1, 2, 3, 4, 5, 6] rfl ?_
  refine sy_sq ?_
  refine sp rfl (PE.move rfl) rfl ?_
  refine sy_sq ?_
  refine sp rfl (PE.fieldAddr fo26_8 rfl) rfl ?_
  refine sy_sq ?_
  refine spL rfl rfl (lh sc24 rfl rfl) rfl ?_
  refine sy_sq ?_
  refine sp rfl (PE.lenSl isl24 rfl) rfl ?_
  refine sy_sq ?_
  refine sp rfl (PE.sub rfl rfl (by omega)) rfl ?_
  refine sy_sq ?_
  refine clV rfl cal92 rfl rfl (c_in _ _ _ _ _) ?_
  refine sy_sq ?_
  refine sp rfl (PE.assign rfl) rfl ?_
  refine sy_sn ?_
  refine sy_nx ?_
  refine sy_ret ?_
  exact sy_return (vs := [_]) rfl (.cons (RV.tmp rfl) .nil) rfl ⟨rfl, rfl, rfl⟩ (fun _ h => by repeat first | exact h | replace h := St.tail h | replace h := St.ftail h | replace h := St.drop h)

theorem nthq {l : List Rn} {r : Int} {q : Rn} (h0 : 0 ≤ r) (h : l[r.toNat]? = some q) : r < l.length := by
  have := (List.getElem?_eq_some_iff.1 h).1; omega

theorem c_short (t : Twn) (r : Int) (q : Rn) (b off c : Nat) (h0 : 0 ≤ r) (hq : t.rats[r.toNat]? = some q) (H : Heap) (R : Facts) [hR : MemRows (some ⟨b, off, none⟩) 2 (rrows t.rats) R] :
    FnV Try.prog 128 [t.v (t.sl (some ⟨b, off, none⟩) c), .int .i64 r] H R (.bool (decide (q.sacks < t.need))) := by
  have hr := nthq h0 hq
  refine fn_of Try.func128 rfl Try.ntmps128 rfl ?_
  refine sy_seq ?_
  refine sy_tx' [0, 1] rfl ?_
  refine sy_sq ?_
  refine bx rfl rfl rfl (fun b2 => ?_)
  refine sy_sq ?_
  refine sp rfl (PE.assign rfl) rfl ?_
  refine sy_sn ?_
  refine sy_nx ?_
  refine sy_seq ?_
  refine sy_draw [0, 1, 0, 7, 15, 31, 0, 64, 255, 511] (.tk 0 (.ld 1 (.tk 2 (.tk 3 (.tk 4 (.ld 5 (.tk 6 (.ld 7 (.tk 8 (.tk 9 .done)))))))))) mixed (by kernel_rfl) ?_
  refine tk rfl (PE.fieldAddr fo26_8 rfl) rfl ?_
  refine ld rfl rfl (lh sc24 rfl rfl) rfl ?_
  refine tk rfl (PE.move rfl) rfl ?_
  refine tk rfl (PE.indexAddr el24 rfl rfl (by omega) (by omega)) rfl ?_
  refine tk rfl (PE.fieldAddr fo91_0 rfl) rfl ?_
  refine ld rfl rfl (lf sc3 (rr_get hq) rfl) rfl ?_
  refine tk rfl (PE.fieldAddr fo26_2 rfl) rfl ?_
  refine ld rfl rfl (lh sc3 rfl rfl) rfl ?_
  refine tk rfl (PE.lss rfl rfl) rfl ?_
  refine tk rfl (PE.assign rfl) rfl ?_
  refine sy_dn ?_
  refine sy_nx ?_
  refine sy_ret ?_
  exact sy_return (vs := [_]) rfl (.cons (RV.tmp rfl) .nil) rfl ⟨rfl, rfl, rfl⟩ (fun _ h => by repeat first | exact h | replace h := St.tail h | replace h := St.ftail h | replace h := St.drop h)

theorem c_allowed (t : Twn) (s : Sta) (r : Int) (q : Rn) (b off c : Nat) (h0 : 0 ≤ r) (hq : t.rats[r.toNat]? = some q) (H : Heap) (R : Facts) [hR : MemRows (some ⟨b, off, none⟩) 2 (rrows t.rats) R] :
    FnV Try.prog 94 [t.v (t.sl (some ⟨b, off, none⟩) c), s.v, .int .i64 r] H R (.bool (t.can s q)) := by
  have hr := nthq h0 hq
  refine fn_of Try.func94 rfl Try.ntmps94 rfl ?_
  refine sy_seq ?_
  refine sy_tx' [0, 1, 2] rfl ?_
  refine sy_sq ?_
  refine bx rfl rfl rfl (fun b3 => ?_)
  refine sy_sq ?_
  refine bx rfl rfl rfl (fun b4 => ?_)
  refine sy_sq ?_
  refine sp rfl (PE.assign rfl) rfl ?_
  refine sy_sn ?_
  refine sy_nx ?_
  refine sy_seq ?_
  refine sy_draw [0, 1, 0, 7, 15, 31, 0, 64, 255, 511, 1023, 1023, 4095, 8191, 16383, 32767, 65535, 32767, 163839, 524287, 1048575, 2097151, 4194303] (.tk 0 (.ld 1 (.tk 2 (.tk 3 (.tk 4 (.ld 5 (.tk 6 (.ld 7 (.tk 8 (.tk 9 (.ld 10 (.tk 11 (.big 12 (.tk 13 (.tk 14 (.tk 15 (.ld 16 (.tk 17 (.ld 18 (.tk 19 (.tk 20 (.tk 21 (.tk 22 .done))))))))))))))))))))))) mixed (by kernel_rfl) ?_
  refine tk rfl (PE.fieldAddr fo26_8 rfl) rfl ?_
  refine ld rfl rfl (lh sc24 rfl rfl) rfl ?_
  refine tk rfl (PE.move rfl) rfl ?_
  refine tk rfl (PE.indexAddr el24 rfl rfl (by omega) (by omega)) rfl ?_
  refine tk rfl (PE.fieldAddr fo91_0 rfl) rfl ?_
  refine ld rfl rfl (lf sc3 (rr_get hq) rfl) rfl ?_
  refine tk rfl (PE.fieldAddr fo23_0 rfl) rfl ?_
  refine ld rfl rfl (lh sc3 rfl rfl) rfl ?_
  refine tk rfl (PE.leq rfl rfl) rfl ?_
  refine tk rfl (PE.move rfl) rfl ?_
  refine sy_case (t := 16) rfl (fun g16 => ?_) (fun g16 => ?_)
  ·
   try simp only [decide_eq_true_eq, decide_eq_false_iff_not, Bool.and_eq_true, Bool.or_eq_true, Bool.not_eq_true', Int.not_le, Int.not_lt] at g16
   refine ldG rfl rfl rfl rfl rfl (lhA [_, _, _, _, _, _, _, _, _, _, _] ag26 rfl rfl rfl) rfl ?_
   refine tkG rfl rfl rfl rfl (PE.move rfl) rfl ?_
   refine sy_bg ?_
   refine clVG rfl rfl rfl rfl cal128 rfl rfl (c_short t r q b off c h0 hq _ _) ?_
   refine bg (fun w hs => ⟨trivial, trivial, trivial, trivial, trivial⟩) ?_
   refine tkG rfl rfl rfl rfl (PE.not rfl) rfl ?_
   refine tkG rfl rfl rfl rfl (PE.move rfl) rfl ?_
   refine sy_case (t := 21) rfl (fun g21 => ?_) (fun g21 => ?_)
   ·
    try simp only [decide_eq_true_eq, decide_eq_false_iff_not, Bool.and_eq_true, Bool.or_eq_true, Bool.not_eq_true', Int.not_le, Int.not_lt] at g21
    refine tkN rfl rfl rfl rfl rfl rfl rfl rfl ?_
    refine ldN rfl rfl rfl rfl rfl rfl rfl rfl ?_
    refine tkN rfl rfl rfl rfl rfl rfl rfl rfl ?_
    refine ldN rfl rfl rfl rfl rfl rfl rfl rfl ?_
    refine tkN rfl rfl rfl rfl rfl rfl rfl rfl ?_
    refine tkG rfl rfl rfl rfl (PE.pick rfl rfl rfl) rfl ?_
    refine tk rfl (PE.pick rfl rfl rfl) rfl ?_
    refine tk rfl (PE.assign rfl) rfl ?_
    refine sy_dn ?_
    refine sy_nx ?_
    refine sy_ret ?_
    exact sy_return (vs := [_]) rfl (.cons (RV.tmp rfl) .nil) rfl ⟨by simp_all [retV, Twn.can] <;> omega, rfl, rfl⟩ (fun _ h => by repeat first | exact h | replace h := St.tail h | replace h := St.ftail h | replace h := St.drop h)
   ·
    try simp only [decide_eq_true_eq, decide_eq_false_iff_not, Bool.and_eq_true, Bool.or_eq_true, Bool.not_eq_true', Int.not_le, Int.not_lt] at g21
    refine tkG rfl rfl rfl rfl (PE.fieldAddr fo23_1 rfl) rfl ?_
    refine ldG rfl rfl rfl rfl rfl (lh sc3 rfl rfl) rfl ?_
    refine tkG rfl rfl rfl rfl (PE.fieldAddr fo26_3 rfl) rfl ?_
    refine ldG rfl rfl rfl rfl rfl (lh sc3 rfl rfl) rfl ?_
    refine tkG rfl rfl rfl rfl (PE.lss rfl rfl) rfl ?_
    refine tkG rfl rfl rfl rfl (PE.pick rfl rfl rfl) rfl ?_
    refine tk rfl (PE.pick rfl rfl rfl) rfl ?_
    refine tk rfl (PE.assign rfl) rfl ?_
    refine sy_dn ?_
    refine sy_nx ?_
    refine sy_ret ?_
    exact sy_return (vs := [_]) rfl (.cons (RV.tmp rfl) .nil) rfl ⟨by simp_all [retV, Twn.can] <;> omega, rfl, rfl⟩ (fun _ h => by repeat first | exact h | replace h := St.tail h | replace h := St.ftail h | replace h := St.drop h)
  ·
   try simp only [decide_eq_true_eq, decide_eq_false_iff_not, Bool.and_eq_true, Bool.or_eq_true, Bool.not_eq_true', Int.not_le, Int.not_lt] at g16
   refine ldN rfl rfl rfl rfl rfl rfl rfl rfl ?_
   refine tkN rfl rfl rfl rfl rfl rfl rfl rfl ?_
   refine sy_bg ?_
   refine spN rfl rfl rfl rfl rfl rfl rfl rfl ?_
   refine bg (fun w hs => ⟨trivial, trivial, trivial, trivial, trivial⟩) ?_
   refine tkN rfl rfl rfl rfl rfl rfl rfl rfl ?_
   refine tkN rfl rfl rfl rfl rfl rfl rfl rfl ?_
   refine tkU rfl rfl rfl rfl rfl rfl rfl ?_
   refine ldU rfl rfl rfl rfl rfl rfl rfl ?_
   refine tkU rfl rfl rfl rfl rfl rfl rfl ?_
   refine ldU rfl rfl rfl rfl rfl rfl rfl ?_
   refine tkU rfl rfl rfl rfl rfl rfl rfl ?_
   refine tkN rfl rfl rfl rfl rfl rfl rfl rfl ?_
   refine tk rfl (PE.pick rfl rfl rfl) rfl ?_
   refine tk rfl (PE.assign rfl) rfl ?_
   refine sy_dn ?_
   refine sy_nx ?_
   refine sy_ret ?_
   exact sy_return (vs := [_]) rfl (.cons (RV.tmp rfl) .nil) rfl ⟨by simp_all [retV, Twn.can] <;> omega, rfl, rfl⟩ (fun _ h => by repeat first | exact h | replace h := St.tail h | replace h := St.ftail h | replace h := St.drop h)

theorem c_next (t : Twn) (ht : t.ok) (s : Sta) (hs : s.right t = true) (r : Int) (q : Rn) (bad : Bool) (b off c : Nat) (h0 : 0 ≤ r) (hq : t.rats[r.toNat]? = some q) (hc : q.sacks ≤ s.stock) (H : Heap) (R : Facts) [hR : MemRows (some ⟨b, off, none⟩) 2 (rrows t.rats) R] :
    FnV Try.prog 102 [t.v (t.sl (some ⟨b, off, none⟩) c), s.v, .int .i64 r, .bool bad] H R (t.next s q bad).v := by
  have hr := nthq h0 hq
  have hq1 := ht.rats q (List.mem_of_getElem? hq)
  have hs1 := right_iff.1 hs
  have h1 := ht.holds
  have h2 := ht.good
  have h3 := ht.bad
  have h4 := ht.run
  have h5 := ht.patience
  have h6 := rot_bd (x := s.stock - q.sacks) (r := t.rot) (by omega) (by omega) ht.rot.1 ht.rot.2
  refine fn_of Try.func102 rfl Try.ntmps102 rfl ?_
  refine sy_seq ?_
  refine sy_tx' [0, 1, 2] rfl ?_
  refine sy_sq ?_
  refine bx rfl rfl rfl (fun b4 => ?_)
  refine sy_sq ?_
  refine bx rfl rfl rfl (fun b5 => ?_)
  refine sy_sq ?_
  refine alc rfl zl23 rfl (fun b8 => ?_)
  refine sy_sn ?_
  refine sy_nx ?_
  refine sy_seq ?_
  refine sy_draw [0, 1, 0, 4, 0, 28, 60, 124, 255, 511] (.tk 0 (.ld 1 (.tk 2 (.ld 3 (.tk 4 (.tk 5 (.tk 6 (.ld 7 (.tk 8 (.tk 9 .done)))))))))) mixed (by kernel_rfl) ?_
  refine tk rfl (PE.fieldAddr fo23_0 rfl) rfl ?_
  refine ld rfl rfl (lh sc3 rfl rfl) rfl ?_
  refine tk rfl (PE.fieldAddr fo26_8 rfl) rfl ?_
  refine ld rfl rfl (lh sc24 rfl rfl) rfl ?_
  refine tk rfl (PE.move rfl) rfl ?_
  refine tk rfl (PE.indexAddr el24 rfl rfl (by omega) (by omega)) rfl ?_
  refine tk rfl (PE.fieldAddr fo91_0 rfl) rfl ?_
  refine ld rfl rfl (lf sc3 (rr_get hq) rfl) rfl ?_
  refine tk rfl (PE.sub rfl rfl (by omega)) rfl ?_
  refine tk rfl (PE.assign rfl) rfl ?_
  refine sy_dn ?_
  refine sy_nx ?_
  refine sy_seq ?_
  refine sy_tx' [0, 1, 2, 3, 4, 5, 6, 7, 8] rfl ?_
  refine sy_sq ?_
  refine sp rfl (PE.move rfl) rfl ?_
  refine sy_sq ?_
  refine sp rfl (PE.move rfl) rfl ?_
  refine sy_sq ?_
  refine sp rfl (PE.fieldAddr fo26_7 rfl) rfl ?_
  refine sy_sq ?_
  refine spL rfl rfl (lh sc3 rfl rfl) rfl ?_
  refine sy_sq ?_
  refine sp rfl (PE.mul rfl rfl (by omega)) rfl ?_
  refine sy_sq ?_
  refine sp rfl (PE.add rfl rfl (by omega)) rfl ?_
  refine sy_sq ?_
  refine sp rfl (PE.quo rfl rfl (by omega)) rfl ?_
  refine sy_sq ?_
  refine sp rfl (PE.sub rfl rfl (by omega)) rfl ?_
  refine sy_sq ?_
  refine sp rfl (PE.assign rfl) rfl ?_
  refine sy_sn ?_
  refine sy_nx ?_
  refine sy_seq ?_
  refine sy_tx' [0, 1, 2, 3, 4, 5, 6, 7, 8, 9, 10] rfl ?_
  refine sy_sq ?_
  refine sp rfl (PE.fieldAddr fo26_1 rfl) rfl ?_
  refine sy_sq ?_
  refine spL rfl rfl (lh sc3 rfl rfl) rfl ?_
  refine sy_sq ?_
  refine sp rfl (PE.move rfl) rfl ?_
  refine sy_sq ?_
  refine sp rfl (PE.fieldAddr fo26_5 rfl) rfl ?_
  refine sy_sq ?_
  refine spL rfl rfl (lh sc3 rfl rfl) rfl ?_
  refine sy_sq ?_
  refine sp rfl (PE.add rfl rfl (by omega)) rfl ?_
  refine sy_sq ?_
  refine bsl (out := [_]) rfl sl42 zl3 rfl rfl rfl rfl rfl rfl (fun b34 => ?_)
  refine sy_sq ?_
  refine Sy.heap (fun w h => St.rows (sz := 1) (rows := [[.int .i64 _]]) (rest := []) h (by simp)) ?_
  refine clV rfl cal103 rfl rfl (c_least1 _ _ _ _ _ _) ?_
  refine sy_sq ?_
  refine sp rfl (PE.build (out := [_, _, _]) pl23 zl23 rfl rfl) rfl ?_
  refine sy_sq ?_
  refine alc rfl zl23 rfl (fun b10 => ?_)
  refine sy_sq ?_
  refine sto rfl rfl rfl cn23 rfl rfl rfl rfl ?_
  refine sy_sn ?_
  refine sy_nx ?_
  refine sy_seq ?_
  refine sy_seq ?_
  refine sy_tx' [0] rfl ?_
  refine sy_sq ?_
  refine sp rfl (PE.move rfl) rfl ?_
  refine sy_sn ?_
  refine sy_nx ?_
  refine sy_cond rfl (fun hc0 => ?_) (fun hc0 => ?_)
  ·
   subst hc0
   refine sy_draw [0, 1, 0, 0, 8, 28, 60, 127, 0, 256, 768, 2047, 4095] (.tk 0 (.ld 1 (.tk 2 (.tk 3 (.ld 4 (.tk 5 (.tk 8 (.ld 9 (.tk 10 (.big 6 (.big 7 (.tk 11 (.big 12 .done))))))))))))) mixed (by kernel_rfl) ?_
   refine tk rfl (PE.fieldAddr fo26_1 rfl) rfl ?_
   refine ld rfl rfl (lh sc3 rfl rfl) rfl ?_
   refine tk rfl (PE.move rfl) rfl ?_
   refine tk rfl (PE.fieldAddr fo26_6 rfl) rfl ?_
   refine ld rfl rfl (lh sc3 rfl rfl) rfl ?_
   refine tk rfl (PE.add rfl rfl (by omega)) rfl ?_
   refine tk rfl (PE.fieldAddr fo23_2 rfl) rfl ?_
   refine ld rfl rfl (lh sc3 rfl rfl) rfl ?_
   refine tk rfl (PE.add rfl rfl (by omega)) rfl ?_
   refine sy_bg ?_
   refine bsl (out := [_]) rfl sl42 zl3 rfl rfl rfl rfl rfl rfl (fun b44 => ?_)
   refine bg (fun w hs => ⟨(lh sc3 rfl rfl) w hs, trivial, (lh sc3 rfl rfl) w hs, trivial⟩) ?_
   refine sy_bg ?_
   refine Sy.heap (fun w h => St.rows (sz := 1) (rows := [[.int .i64 _]]) (rest := []) h (by simp)) ?_
   refine clV rfl cal103 rfl rfl (c_least1 _ _ _ _ _ _) ?_
   refine bg (fun w hs => ⟨(lh sc3 rfl rfl) w hs, trivial, trivial⟩) ?_
   refine tk rfl (PE.build (out := [_, _, _]) pl23 zl23 rfl rfl) rfl ?_
   refine sy_bg ?_
   refine sto rfl rfl rfl cn23 rfl rfl rfl rfl ?_
   refine bg (fun w hs => ⟨trivial, trivial⟩) ?_
   refine sy_dn ?_
   refine sy_nx ?_
   refine sy_seq ?_
   refine sy_seq ?_
   refine sy_tx' [0, 1, 2] rfl ?_
   refine sy_sq ?_
   refine spL rfl rfl (lhA [_, _, _, _, _, _, _, _, _, _, _] ag26 rfl rfl rfl) rfl ?_
   refine sy_sq ?_
   refine sp rfl (PE.move rfl) rfl ?_
   refine sy_sq ?_
   refine clV rfl cal128 rfl rfl (c_short t r q b off c h0 hq _ _) ?_
   refine sy_sn ?_
   refine sy_nx ?_
   refine sy_cond rfl (fun hc1 => ?_) (fun hc1 => ?_)
   ·
    refine sy_tx' [0, 1, 2, 3, 4] rfl ?_
    refine sy_sq ?_
    refine sp rfl (PE.fieldAddr fo23_1 rfl) rfl ?_
    refine sy_sq ?_
    refine spL rfl rfl (lh sc3 rfl rfl) rfl ?_
    refine sy_sq ?_
    refine sp rfl (PE.add rfl rfl (by omega)) rfl ?_
    refine sy_sq ?_
    refine sp rfl (PE.fieldAddr fo23_1 rfl) rfl ?_
    refine sy_sq ?_
    refine sto rfl rfl rfl cn3 rfl rfl rfl rfl ?_
    refine sy_sn ?_
    refine sy_nx ?_
    refine sy_seq ?_
    refine sy_tx' [0, 1] rfl ?_
    refine sy_sq ?_
    refine spL rfl rfl (lhA [_, _, _] ag23 rfl rfl rfl) rfl ?_
    refine sy_sq ?_
    refine sto rfl rfl rfl cn23 rfl rfl rfl rfl ?_
    refine sy_sn ?_
    refine sy_nx ?_
    refine sy_ret ?_
    exact sy_return (vs := [_]) rfl (.cons (RV.cell rfl (lhA [_, _, _] ag23 rfl rfl rfl)) .nil) rfl ⟨by simp only [retV, Twn.next, leftOf, hc1, cond_true, cond_false], rfl, rfl⟩ (fun _ h => by repeat first | exact h | replace h := St.tail h | replace h := St.ftail h | replace h := St.drop h)
   ·
    refine sy_skip ?_
    refine sy_nx ?_
    refine sy_seq ?_
    refine sy_tx' [0, 1] rfl ?_
    refine sy_sq ?_
    refine spL rfl rfl (lhA [_, _, _] ag23 rfl rfl rfl) rfl ?_
    refine sy_sq ?_
    refine sto rfl rfl rfl cn23 rfl rfl rfl rfl ?_
    refine sy_sn ?_
    refine sy_nx ?_
    refine sy_ret ?_
    exact sy_return (vs := [_]) rfl (.cons (RV.cell rfl (lhA [_, _, _] ag23 rfl rfl rfl)) .nil) rfl ⟨by simp only [retV, Twn.next, leftOf, hc1, cond_true, cond_false], rfl, rfl⟩ (fun _ h => by repeat first | exact h | replace h := St.tail h | replace h := St.ftail h | replace h := St.drop h)
  ·
   subst hc0
   refine sy_skip ?_
   refine sy_nx ?_
   refine sy_seq ?_
   refine sy_seq ?_
   refine sy_tx' [0, 1, 2] rfl ?_
   refine sy_sq ?_
   refine spL rfl rfl (lhA [_, _, _, _, _, _, _, _, _, _, _] ag26 rfl rfl rfl) rfl ?_
   refine sy_sq ?_
   refine sp rfl (PE.move rfl) rfl ?_
   refine sy_sq ?_
   refine clV rfl cal128 rfl rfl (c_short t r q b off c h0 hq _ _) ?_
   refine sy_sn ?_
   refine sy_nx ?_
   refine sy_cond rfl (fun hc1 => ?_) (fun hc1 => ?_)
   ·
    refine sy_tx' [0, 1, 2, 3, 4] rfl ?_
    refine sy_sq ?_
    refine sp rfl (PE.fieldAddr fo23_1 rfl) rfl ?_
    refine sy_sq ?_
    refine spL rfl rfl (lh sc3 rfl rfl) rfl ?_
    refine sy_sq ?_
    refine sp rfl (PE.add rfl rfl (by omega)) rfl ?_
    refine sy_sq ?_
    refine sp rfl (PE.fieldAddr fo23_1 rfl) rfl ?_
    refine sy_sq ?_
    refine sto rfl rfl rfl cn3 rfl rfl rfl rfl ?_
    refine sy_sn ?_
    refine sy_nx ?_
    refine sy_seq ?_
    refine sy_tx' [0, 1] rfl ?_
    refine sy_sq ?_
    refine spL rfl rfl (lhA [_, _, _] ag23 rfl rfl rfl) rfl ?_
    refine sy_sq ?_
    refine sto rfl rfl rfl cn23 rfl rfl rfl rfl ?_
    refine sy_sn ?_
    refine sy_nx ?_
    refine sy_ret ?_
    exact sy_return (vs := [_]) rfl (.cons (RV.cell rfl (lhA [_, _, _] ag23 rfl rfl rfl)) .nil) rfl ⟨by simp only [retV, Twn.next, leftOf, hc1, cond_true, cond_false], rfl, rfl⟩ (fun _ h => by repeat first | exact h | replace h := St.tail h | replace h := St.ftail h | replace h := St.drop h)
   ·
    refine sy_skip ?_
    refine sy_nx ?_
    refine sy_seq ?_
    refine sy_tx' [0, 1] rfl ?_
    refine sy_sq ?_
    refine spL rfl rfl (lhA [_, _, _] ag23 rfl rfl rfl) rfl ?_
    refine sy_sq ?_
    refine sto rfl rfl rfl cn23 rfl rfl rfl rfl ?_
    refine sy_sn ?_
    refine sy_nx ?_
    refine sy_ret ?_
    exact sy_return (vs := [_]) rfl (.cons (RV.cell rfl (lhA [_, _, _] ag23 rfl rfl rfl)) .nil) rfl ⟨by simp only [retV, Twn.next, leftOf, hc1, cond_true, cond_false], rfl, rfl⟩ (fun _ h => by repeat first | exact h | replace h := St.tail h | replace h := St.ftail h | replace h := St.drop h)
end Go.Proofs.Ytaldphhdkmchhaa
