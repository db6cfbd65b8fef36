/- Walks of the functions of the program: what each returns and leaves in memory, under the conditions that its theorem names. -/
import Derived.Test.YtaldphhdkmchhaaTy
import Derived.Test.YtaldphhdkmchhaaMa
import Derived.Test.YtaldphhdkmchhaaWk5
import Derived.Test.YtaldphhdkmchhaaMc
namespace Go.Proofs.Ytaldphhdkmchhaa
set_option linter.unusedSimpArgs false
set_option linter.unusedVariables false
open Go
theorem cal104 : cal Try.prog 104 = true := by kernel_rfl
theorem cal130 : cal Try.prog 130 = true := by kernel_rfl
theorem eqf91 : eqB Try.prog 10000 91 = some (true, 2) := by kernel_rfl
theorem eqg91 : Try.prog.eqGuardType Try.prog.depth 91 = false := by kernel_rfl
theorem c_eq_int (xs ys : List Int) (a a2 : Option Addr) (c c2 : Nat) (hl : xs.length ≤ 9223372036854775807) (hl2 : ys.length ≤ 9223372036854775807) (H : Heap) (R : Facts) [hR : MemRows a 1 (irows xs) R] [hR2 : MemRows a2 1 (irows ys) R] :
    FnV Try.prog 81 [.slice a xs.length c, .slice a2 ys.length c2] H R (.bool (decide (xs = ys))) := by
  refine fn_of Try.func81 rfl Try.ntmps81 rfl ?_
  refine sy_seq ?_
  refine sy_tx' [0] rfl ?_
  refine sy_sq ?_
  refine sp rfl (PE.assign rfl) rfl ?_
  refine sy_sn ?_
  refine sy_nx ?_
  refine sy_seq ?_
  refine sy_seq ?_
  refine sy_tx' [0, 1, 2, 3, 4] rfl ?_
  refine sy_sq ?_
  refine sp rfl (PE.move rfl) rfl ?_
  refine sy_sq ?_
  refine sp rfl (PE.lenSl isl42 rfl) rfl ?_
  refine sy_sq ?_
  refine sp rfl (PE.move rfl) rfl ?_
  refine sy_sq ?_
  refine sp rfl (PE.lenSl isl42 rfl) rfl ?_
  refine sy_sq ?_
  refine sp rfl (PE.neq rfl rfl) rfl ?_
  refine sy_sn ?_
  refine sy_nx ?_
  refine sy_cond rfl (fun hc0 => ?_) (fun hc0 => ?_)
  ·
   have hne : xs ≠ ys := fun e => by subst e; simp at hc0
   refine sy_seq ?_
   refine sy_tx' [0] rfl ?_
   refine sy_sq ?_
   refine sp rfl (PE.assign rfl) rfl ?_
   refine sy_sn ?_
   refine sy_nx ?_
   refine sy_ret ?_
   refine sy_tr ?_
   exact sy_return (vs := [_]) rfl (.cons (RV.tmp rfl) .nil) rfl ⟨by first | (simp only [retV]; rw [decide_eq_true heq]; done) | (simp only [retV]; rw [decide_eq_false hne]), rfl, rfl⟩ (fun _ h => h)
  ·
   have hle : xs.length = ys.length := by simp only [decide_eq_true_eq, decide_eq_false_iff_not, Bool.and_eq_true, Bool.or_eq_true, Bool.not_eq_true', Int.not_le, Int.not_lt] at hc0; omega
   refine sy_skip ?_
   refine sy_nx ?_
   refine sy_seq ?_
   refine sy_seq ?_
   refine sy_tx' [0, 1, 2] rfl ?_
   refine sy_sq ?_
   refine sp rfl (PE.move rfl) rfl ?_
   refine sy_sq ?_
   refine sp rfl (PE.lenSl isl42 rfl) rfl ?_
   refine sy_sq ?_
   refine sp rfl (PE.move rfl) rfl ?_
   refine sy_sn ?_
   refine sy_nx ?_
   refine sy_block ?_
   refine sy_loop (ι := {k : Nat // k ≤ xs.length ∧ xs.take k = ys.take k}) (fun k => ⟨[(0, .slice a xs.length c), (1, .slice a2 ys.length c2), (12, .int .i64 xs.length), (13, .int .i64 k.1)], H, R⟩) (fun k => xs.length - k.1) ⟨0, by simp⟩ ?_ (fun k => ?_)
   ·
    exact sy_at (by repeat' first | exact Sub.nil | apply Sub.cons | rfl | (simp [lk]; omega)) (fun _ h => h)
   ·
    obtain ⟨k, hk, hn⟩ := k
    dsimp only
    refine sy_seq ?_
    refine sy_tx' [0] rfl ?_
    refine sy_sq ?_
    refine sp rfl (PE.lss rfl rfl) rfl ?_
    refine sy_sn ?_
    refine sy_nx ?_
    refine sy_seq ?_
    refine sy_cond rfl (fun hc1 => ?_) (fun hc1 => ?_)
    ·
     simp only [decide_eq_true_eq, decide_eq_false_iff_not, Bool.and_eq_true, Bool.or_eq_true, Bool.not_eq_true', Int.not_le, Int.not_lt] at hc1
     obtain ⟨x, hx⟩ : ∃ x, xs[k]? = some x := ⟨_, List.getElem?_eq_getElem (by omega)⟩
     obtain ⟨z, hz⟩ : ∃ z, ys[k]? = some z := ⟨_, List.getElem?_eq_getElem (by omega)⟩
     refine sy_addr (a := a) (sz := 1) (rows := irows xs) (by intro h0; simp [irows] at h0; simp [h0] at hx) (fun b off he => ?_)
     subst he
     refine sy_addr (a := a2) (sz := 1) (rows := irows ys) (by intro h0; simp [irows] at h0; simp [h0] at hz) (fun b2 off2 he => ?_)
     subst he
     refine sy_skip ?_
     refine sy_nx ?_
     refine sy_seq ?_
     refine sy_block ?_
     refine sy_seq ?_
     refine sy_tx' [0, 1] rfl ?_
     refine sy_sq ?_
     refine sp rfl (PE.move rfl) rfl ?_
     refine sy_sq ?_
     refine sp rfl (PE.assign rfl) rfl ?_
     refine sy_sn ?_
     refine sy_nx ?_
     refine sy_seq ?_
     refine sy_draw [0, 0, 3, 7, 0, 0, 48, 112, 255] (.tk 0 (.tk 1 (.tk 2 (.ld 3 (.tk 4 (.tk 5 (.tk 6 (.ld 7 (.tk 8 .done))))))))) mixed (by kernel_rfl) ?_
     refine tk rfl (PE.move rfl) rfl ?_
     refine tk rfl (PE.move rfl) rfl ?_
     refine tk rfl (PE.indexAddr el42 rfl rfl (by omega) (by omega)) rfl ?_
     refine ld rfl rfl (lf0 sc3 (by simp [irows, hx]; rfl) rfl) rfl ?_
     refine tk rfl (PE.move rfl) rfl ?_
     refine tk rfl (PE.move rfl) rfl ?_
     refine tk rfl (PE.indexAddr el42 rfl rfl (by omega) (by omega)) rfl ?_
     refine ld rfl rfl (lf0 sc3 (by simp [irows, hz]; rfl) rfl) rfl ?_
     refine tk rfl (PE.neq rfl rfl) rfl ?_
     refine sy_dn ?_
     refine sy_nx ?_
     refine sy_cond rfl (fun hc2 => ?_) (fun hc2 => ?_)
     ·
      have hne : xs ≠ ys := fun e => by subst e; rw [hx] at hz; cases hz; simp at hc2
      refine sy_seq ?_
      refine sy_tx' [0] rfl ?_
      refine sy_sq ?_
      refine sp rfl (PE.assign rfl) rfl ?_
      refine sy_sn ?_
      refine sy_nx ?_
      refine sy_ret ?_
      refine sy_br ?_
      refine sy_tr ?_
      refine sy_tr ?_
      refine sy_br ?_
      refine sy_tr ?_
      exact sy_return (vs := [_]) rfl (.cons (RV.tmp rfl) .nil) rfl ⟨by first | (simp only [retV]; rw [decide_eq_true heq]; done) | (simp only [retV]; rw [decide_eq_false hne]), rfl, rfl⟩ (fun _ h => h)
     ·
      have hxz : x = z := by simpa using hc2
      refine sy_skip ?_
      refine sy_bn ?_
      refine sy_nx ?_
      refine sy_tx' [0, 1] rfl ?_
      refine sy_sq ?_
      refine sp rfl (PE.add rfl rfl (by omega)) rfl ?_
      refine sy_sq ?_
      refine sp rfl (PE.move rfl) rfl ?_
      refine sy_sn ?_
      refine sy_nx ?_
      exact sy_next ⟨k + 1, by omega, by rw [List.take_add_one, List.take_add_one, hn, hx, hz, hxz]⟩ (by dsimp only; omega) (by repeat' first | exact Sub.nil | apply Sub.cons | rfl | (simp [lk]; omega)) (fun _ h => h)
    ·
     simp only [decide_eq_true_eq, decide_eq_false_iff_not, Bool.and_eq_true, Bool.or_eq_true, Bool.not_eq_true', Int.not_le, Int.not_lt] at hc1
     obtain rfl : k = xs.length := by omega
     have heq : xs = ys := by
       rw [List.take_length] at hn
       exact hn.trans (by rw [hle]; exact List.take_length)
     refine sy_exit ?_
     refine sy_tx ?_
     refine sy_tx ?_
     refine sy_bx ?_
     refine sy_nx ?_
     refine sy_seq ?_
     refine sy_tx' [0] rfl ?_
     refine sy_sq ?_
     refine sp rfl (PE.assign rfl) rfl ?_
     refine sy_sn ?_
     refine sy_nx ?_
     refine sy_ret ?_
     exact sy_return (vs := [_]) rfl (.cons (RV.tmp rfl) .nil) rfl ⟨by first | (simp only [retV]; rw [decide_eq_true heq]; done) | (simp only [retV]; rw [decide_eq_false hne]), rfl, rfl⟩ (fun _ h => h)

theorem c_eq_rat (xs ys : List Rn) (a a2 : Option Addr) (c c2 : Nat) (hl : xs.length ≤ 9223372036854775807) (hl2 : ys.length ≤ 9223372036854775807) (H : Heap) (R : Facts) [hR : MemRows a 2 (rrows xs) R] [hR2 : MemRows a2 2 (rrows ys) R] :
    FnV Try.prog 129 [.slice a xs.length c, .slice a2 ys.length c2] H R (.bool (decide (xs = ys))) := by
  refine fn_of Try.func129 rfl Try.ntmps129 rfl ?_
  refine sy_seq ?_
  refine sy_tx' [0] rfl ?_
  refine sy_sq ?_
  refine sp rfl (PE.assign rfl) rfl ?_
  refine sy_sn ?_
  refine sy_nx ?_
  refine sy_seq ?_
  refine sy_seq ?_
  refine sy_tx' [0, 1, 2, 3, 4] rfl ?_
  refine sy_sq ?_
  refine sp rfl (PE.move rfl) rfl ?_
  refine sy_sq ?_
  refine sp rfl (PE.lenSl isl24 rfl) rfl ?_
  refine sy_sq ?_
  refine sp rfl (PE.move rfl) rfl ?_
  refine sy_sq ?_
  refine sp rfl (PE.lenSl isl24 rfl) rfl ?_
  refine sy_sq ?_
  refine sp rfl (PE.neq rfl rfl) rfl ?_
  refine sy_sn ?_
  refine sy_nx ?_
  refine sy_cond rfl (fun hc0 => ?_) (fun hc0 => ?_)
  ·
   have hne : xs ≠ ys := fun e => by subst e; simp at hc0
   refine sy_seq ?_
   refine sy_tx' [0] rfl ?_
   refine sy_sq ?_
   refine sp rfl (PE.assign rfl) rfl ?_
   refine sy_sn ?_
   refine sy_nx ?_
   refine sy_ret ?_
   refine sy_tr ?_
   exact sy_return (vs := [_]) rfl (.cons (RV.tmp rfl) .nil) rfl ⟨by first | (simp only [retV]; rw [decide_eq_true heq]; done) | (simp only [retV]; rw [decide_eq_false hne]), rfl, rfl⟩ (fun _ h => h)
  ·
   have hle : xs.length = ys.length := by simp only [decide_eq_true_eq, decide_eq_false_iff_not, Bool.and_eq_true, Bool.or_eq_true, Bool.not_eq_true', Int.not_le, Int.not_lt] at hc0; omega
   refine sy_skip ?_
   refine sy_nx ?_
   refine sy_seq ?_
   refine sy_seq ?_
   refine sy_tx' [0, 1, 2] rfl ?_
   refine sy_sq ?_
   refine sp rfl (PE.move rfl) rfl ?_
   refine sy_sq ?_
   refine sp rfl (PE.lenSl isl24 rfl) rfl ?_
   refine sy_sq ?_
   refine sp rfl (PE.move rfl) rfl ?_
   refine sy_sn ?_
   refine sy_nx ?_
   refine sy_block ?_
   refine sy_loop (ι := {k : Nat // k ≤ xs.length ∧ xs.take k = ys.take k}) (fun k => ⟨[(0, .slice a xs.length c), (1, .slice a2 ys.length c2), (12, .int .i64 xs.length), (13, .int .i64 k.1)], H, R⟩) (fun k => xs.length - k.1) ⟨0, by simp⟩ ?_ (fun k => ?_)
   ·
    exact sy_at (by repeat' first | exact Sub.nil | apply Sub.cons | rfl | (simp [lk]; omega)) (fun _ h => h)
   ·
    obtain ⟨k, hk, hn⟩ := k
    dsimp only
    refine sy_seq ?_
    refine sy_tx' [0] rfl ?_
    refine sy_sq ?_
    refine sp rfl (PE.lss rfl rfl) rfl ?_
    refine sy_sn ?_
    refine sy_nx ?_
    refine sy_seq ?_
    refine sy_cond rfl (fun hc1 => ?_) (fun hc1 => ?_)
    ·
     simp only [decide_eq_true_eq, decide_eq_false_iff_not, Bool.and_eq_true, Bool.or_eq_true, Bool.not_eq_true', Int.not_le, Int.not_lt] at hc1
     obtain ⟨x, hx⟩ : ∃ x, xs[k]? = some x := ⟨_, List.getElem?_eq_getElem (by omega)⟩
     obtain ⟨z, hz⟩ : ∃ z, ys[k]? = some z := ⟨_, List.getElem?_eq_getElem (by omega)⟩
     refine sy_addr (a := a) (sz := 2) (rows := rrows xs) (by intro h0; simp [rrows] at h0; simp [h0] at hx) (fun b off he => ?_)
     subst he
     refine sy_addr (a := a2) (sz := 2) (rows := rrows ys) (by intro h0; simp [rrows] at h0; simp [h0] at hz) (fun b2 off2 he => ?_)
     subst he
     refine sy_skip ?_
     refine sy_nx ?_
     refine sy_seq ?_
     refine sy_block ?_
     refine sy_seq ?_
     refine sy_tx' [0, 1] rfl ?_
     refine sy_sq ?_
     refine sp rfl (PE.move rfl) rfl ?_
     refine sy_sq ?_
     refine sp rfl (PE.assign rfl) rfl ?_
     refine sy_sn ?_
     refine sy_nx ?_
     refine sy_seq ?_
     refine sy_draw [0, 0, 3, 7, 0, 0, 48, 112, 255] (.tk 0 (.tk 1 (.tk 2 (.ld 3 (.tk 4 (.tk 5 (.tk 6 (.ld 7 (.tk 8 .done))))))))) mixed (by kernel_rfl) ?_
     refine tk rfl (PE.move rfl) rfl ?_
     refine tk rfl (PE.move rfl) rfl ?_
     refine tk rfl (PE.indexAddr el24 rfl rfl (by omega) (by omega)) rfl ?_
     refine ld rfl rfl (lfA ag91 (row := rrow x) (by simp [rrows, hx]) rfl) rfl ?_
     refine tk rfl (PE.move rfl) rfl ?_
     refine tk rfl (PE.move rfl) rfl ?_
     refine tk rfl (PE.indexAddr el24 rfl rfl (by omega) (by omega)) rfl ?_
     refine ld rfl rfl (lfA ag91 (row := rrow z) (by simp [rrows, hz]) rfl) rfl ?_
     refine tk rfl (PE.neqAgg [x.sacks, x.price] [z.sacks, z.price] (eqB_ok 10000 91 true 2 eqf91) eqg91 rfl rfl rfl rfl) rfl ?_
     refine sy_dn ?_
     refine sy_nx ?_
     refine sy_cond rfl (fun hc2 => ?_) (fun hc2 => ?_)
     ·
      have hne : xs ≠ ys := fun e => by subst e; rw [hx] at hz; cases hz; simp at hc2
      refine sy_seq ?_
      refine sy_tx' [0] rfl ?_
      refine sy_sq ?_
      refine sp rfl (PE.assign rfl) rfl ?_
      refine sy_sn ?_
      refine sy_nx ?_
      refine sy_ret ?_
      refine sy_br ?_
      refine sy_tr ?_
      refine sy_tr ?_
      refine sy_br ?_
      refine sy_tr ?_
      exact sy_return (vs := [_]) rfl (.cons (RV.tmp rfl) .nil) rfl ⟨by first | (simp only [retV]; rw [decide_eq_true heq]; done) | (simp only [retV]; rw [decide_eq_false hne]), rfl, rfl⟩ (fun _ h => h)
     ·
      have hxz : x = z := by cases x; cases z; simpa using hc2
      refine sy_skip ?_
      refine sy_bn ?_
      refine sy_nx ?_
      refine sy_tx' [0, 1] rfl ?_
      refine sy_sq ?_
      refine sp rfl (PE.add rfl rfl (by omega)) rfl ?_
      refine sy_sq ?_
      refine sp rfl (PE.move rfl) rfl ?_
      refine sy_sn ?_
      refine sy_nx ?_
      exact sy_next ⟨k + 1, by omega, by rw [List.take_add_one, List.take_add_one, hn, hx, hz, hxz]⟩ (by dsimp only; omega) (by repeat' first | exact Sub.nil | apply Sub.cons | rfl | (simp [lk]; omega)) (fun _ h => h)
    ·
     simp only [decide_eq_true_eq, decide_eq_false_iff_not, Bool.and_eq_true, Bool.or_eq_true, Bool.not_eq_true', Int.not_le, Int.not_lt] at hc1
     obtain rfl : k = xs.length := by omega
     have heq : xs = ys := by
       rw [List.take_length] at hn
       exact hn.trans (by rw [hle]; exact List.take_length)
     refine sy_exit ?_
     refine sy_tx ?_
     refine sy_tx ?_
     refine sy_bx ?_
     refine sy_nx ?_
     refine sy_seq ?_
     refine sy_tx' [0] rfl ?_
     refine sy_sq ?_
     refine sp rfl (PE.assign rfl) rfl ?_
     refine sy_sn ?_
     refine sy_nx ?_
     refine sy_ret ?_
     exact sy_return (vs := [_]) rfl (.cons (RV.tmp rfl) .nil) rfl ⟨by first | (simp only [retV]; rw [decide_eq_true heq]; done) | (simp only [retV]; rw [decide_eq_false hne]), rfl, rfl⟩ (fun _ h => h)

theorem c_ask1 (n : Int) (H : Heap) (R : Facts) :
    FnV Try.prog 130 [.int .i64 n] H R (.bool (inb n 0 1000)) := by
  refine fn_of Try.func130 rfl Try.ntmps130 rfl ?_
  refine sy_seq ?_
  refine sy_tx' [0] rfl ?_
  refine sy_sq ?_
  refine sp rfl (PE.assign rfl) rfl ?_
  refine sy_sn ?_
  refine sy_nx ?_
  refine sy_seq ?_
  refine sy_tx' [0, 1, 2] rfl ?_
  refine sy_sq ?_
  refine sp rfl (PE.move rfl) rfl ?_
  refine sy_sq ?_
  refine clV rfl cal92 rfl rfl (c_in _ _ _ _ _) ?_
  refine sy_sq ?_
  refine sp rfl (PE.assign rfl) rfl ?_
  refine sy_sn ?_
  refine sy_nx ?_
  refine sy_ret ?_
  exact sy_return (vs := [_]) rfl (.cons (RV.tmp rfl) .nil) rfl ⟨rfl, rfl, rfl⟩ (fun _ h => by repeat first | exact h | replace h := St.tail h | replace h := St.ftail h | replace h := St.drop h)

theorem c_fair1 (n : Int) (H : Heap) (R : Facts) :
    FnV Try.prog 106 [.int .i64 n] H R (.bool (inb n 0 1000)) := by
  refine fn_of Try.func106 rfl Try.ntmps106 rfl ?_
  refine sy_seq ?_
  refine sy_tx' [0] rfl ?_
  refine sy_sq ?_
  refine sp rfl (PE.assign rfl) rfl ?_
  refine sy_sn ?_
  refine sy_nx ?_
  refine sy_seq ?_
  refine sy_tx' [0, 1, 2] rfl ?_
  refine sy_sq ?_
  refine sp rfl (PE.move rfl) rfl ?_
  refine sy_sq ?_
  refine clV rfl cal92 rfl rfl (c_in _ _ _ _ _) ?_
  refine sy_sq ?_
  refine sp rfl (PE.assign rfl) rfl ?_
  refine sy_sn ?_
  refine sy_nx ?_
  refine sy_ret ?_
  exact sy_return (vs := [_]) rfl (.cons (RV.tmp rfl) .nil) rfl ⟨rfl, rfl, rfl⟩ (fun _ h => by repeat first | exact h | replace h := St.tail h | replace h := St.ftail h | replace h := St.drop h)

theorem c_asked (s : Int) (ws : List Int) (a : Option Addr) (c : Nat) (hl : ws.length ≤ 9223372036854775807) (H : Heap) (R : Facts) [hR : MemRows a 1 (irows ws) R] :
    FnV Try.prog 104 [.int .i64 s, .slice a ws.length c] H R (.int .i64 (askE s ws)) := by
  refine fn_of Try.func104 rfl Try.ntmps104 rfl ?_
  refine sy_seq ?_
  refine sy_tx' [0] rfl ?_
  refine sy_sq ?_
  refine sp rfl (PE.assign rfl) rfl ?_
  refine sy_sn ?_
  refine sy_nx ?_
  refine sy_seq ?_
  refine sy_block ?_
  refine sy_seq ?_
  refine sy_tx' [0, 1, 2, 3] rfl ?_
  refine sy_sq ?_
  refine sp rfl (PE.move rfl) rfl ?_
  refine sy_sq ?_
  refine sp rfl (PE.lenSl isl42 rfl) rfl ?_
  refine sy_sq ?_
  refine sp rfl (PE.gtr rfl rfl) rfl ?_
  refine sy_sq ?_
  refine sp rfl (PE.assign rfl) rfl ?_
  refine sy_sn ?_
  refine sy_nx ?_
  refine sy_cond rfl (fun hc0 => ?_) (fun hc0 => ?_)
  ·
   have h8 : decide (8 < ws.length) = true := by simp only [decide_eq_true_eq] at hc0 ⊢; omega
   refine sy_seq ?_
   refine sy_tx' [0] rfl ?_
   refine sy_sq ?_
   refine sp rfl (PE.assign rfl) rfl ?_
   refine sy_sn ?_
   refine sy_nx ?_
   refine sy_ret ?_
   refine sy_br ?_
   refine sy_tr ?_
   exact sy_return (vs := [_]) rfl (.cons (RV.tmp rfl) .nil) rfl ⟨congrArg (Value.int .i64) (by simp_all only [askE, inb, cond_true, cond_false, Bool.not_true, Bool.not_false, Bool.not_eq_true', Bool.not_eq_false']), rfl, rfl⟩ (fun _ h => by repeat first | exact h | replace h := St.tail h | replace h := St.ftail h | replace h := St.drop h)
  ·
   have h8 : decide (8 < ws.length) = false := by simp only [decide_eq_false_iff_not] at hc0 ⊢; omega
   refine sy_seq ?_
   refine sy_tx' [0, 1, 2, 3, 4, 5, 6, 7, 8] rfl ?_
   refine sy_sq ?_
   refine sp rfl (PE.move rfl) rfl ?_
   refine sy_sq ?_
   refine clV rfl cal92 rfl rfl (c_in _ _ _ _ _) ?_
   refine sy_sq ?_
   refine sp rfl (PE.not rfl) rfl ?_
   refine sy_sq ?_
   refine sp rfl (PE.move rfl) rfl ?_
   refine sy_sq ?_
   refine sy_case (t := 13) rfl (fun g13 => ?_) (fun g13 => ?_)
   ·
    refine spN rfl rfl rfl rfl rfl rfl rfl rfl ?_
    refine sy_sq ?_
    refine spN rfl rfl rfl rfl rfl rfl rfl rfl ?_
    refine sy_sq ?_
    refine spN rfl rfl rfl rfl rfl rfl rfl rfl ?_
    refine sy_sq ?_
    refine sp rfl (PE.pick rfl rfl rfl) rfl ?_
    refine sy_sq ?_
    refine sp rfl (PE.assign rfl) rfl ?_
    refine sy_sn ?_
    refine sy_nx ?_
    refine sy_condT rfl ?_
    refine sy_seq ?_
    refine sy_tx' [0] rfl ?_
    refine sy_sq ?_
    refine sp rfl (PE.assign rfl) rfl ?_
    refine sy_sn ?_
    refine sy_nx ?_
    refine sy_ret ?_
    refine sy_br ?_
    refine sy_tr ?_
    exact sy_return (vs := [_]) rfl (.cons (RV.tmp rfl) .nil) rfl ⟨congrArg (Value.int .i64) (by simp_all only [askE, inb, cond_true, cond_false, Bool.not_true, Bool.not_false, Bool.not_eq_true', Bool.not_eq_false']), rfl, rfl⟩ (fun _ h => by repeat first | exact h | replace h := St.tail h | replace h := St.ftail h | replace h := St.drop h)
   ·
    refine spG rfl rfl rfl rfl (PE.move rfl) rfl ?_
    refine sy_sq ?_
    refine clVG rfl rfl rfl rfl cal105 rfl rfl (c_every_int ws a c 130 [] [] (fun n => inb n 0 1000) cal130 hl _ _ (fun _ x _ => c_ask1 x _ _)) ?_
    refine sy_sq ?_
    refine spG rfl rfl rfl rfl (PE.not rfl) rfl ?_
    refine sy_sq ?_
    refine sp rfl (PE.pick rfl rfl rfl) rfl ?_
    refine sy_sq ?_
    refine sp rfl (PE.assign rfl) rfl ?_
    refine sy_sn ?_
    refine sy_nx ?_
    refine sy_cond rfl (fun hc1 => ?_) (fun hc1 => ?_)
    ·
     refine sy_seq ?_
     refine sy_tx' [0] rfl ?_
     refine sy_sq ?_
     refine sp rfl (PE.assign rfl) rfl ?_
     refine sy_sn ?_
     refine sy_nx ?_
     refine sy_ret ?_
     refine sy_br ?_
     refine sy_tr ?_
     exact sy_return (vs := [_]) rfl (.cons (RV.tmp rfl) .nil) rfl ⟨congrArg (Value.int .i64) (by simp_all only [askE, inb, cond_true, cond_false, Bool.not_true, Bool.not_false, Bool.not_eq_true', Bool.not_eq_false']), rfl, rfl⟩ (fun _ h => by repeat first | exact h | replace h := St.tail h | replace h := St.ftail h | replace h := St.drop h)
    ·
     refine sy_skip ?_
     refine sy_bn ?_
     refine sy_nx ?_
     refine sy_seq ?_
     refine sy_tx' [0] rfl ?_
     refine sy_sq ?_
     refine sp rfl (PE.assign rfl) rfl ?_
     refine sy_sn ?_
     refine sy_nx ?_
     refine sy_ret ?_
     exact sy_return (vs := [_]) rfl (.cons (RV.tmp rfl) .nil) rfl ⟨congrArg (Value.int .i64) (by simp_all only [askE, inb, cond_true, cond_false, Bool.not_true, Bool.not_false, Bool.not_eq_true', Bool.not_eq_false']), rfl, rfl⟩ (fun _ h => by repeat first | exact h | replace h := St.tail h | replace h := St.ftail h | replace h := St.drop h)

theorem c_Share (s : Int) (ws : List Int) (a : Option Addr) (c : Nat) (hl : ws.length ≤ 9223372036854775807) (H : Heap) (R : Facts) [hR : MemRows a 1 (irows ws) R] :
    Fn Try.prog 36 [.int .i64 s, .slice a ws.length c] H R (fun v H' R' => ((askE s ws ≠ 0 ∧ v = .tuple #[.slice none 0 0, .int .i64 (askE s ws)] ∧ H' = H) ∨
      (askE s ws = 0 ∧ ∃ j b, (shIt ws j (shInit s ws)).g = false ∧ v = .tuple #[.slice (some ⟨b, 0, none⟩) ws.length ws.length, .int .i64 0] ∧ H' = (b, cel 3 (ints (shIt ws j (shInit s ws)).o)) :: H)) ∧ R' = R) := by
  refine fn_of Try.func36 rfl Try.ntmps36 rfl ?_
  refine sy_seq ?_
  refine sy_tx' [0, 1] rfl ?_
  refine sy_sq ?_
  refine sp rfl (PE.assign rfl) rfl ?_
  refine sy_sq ?_
  refine sp rfl (PE.assign rfl) rfl ?_
  refine sy_sn ?_
  refine sy_nx ?_
  refine sy_seq ?_
  refine sy_seq ?_
  refine sy_tx' [0, 1, 2, 3] rfl ?_
  refine sy_sq ?_
  refine sp rfl (PE.move rfl) rfl ?_
  refine sy_sq ?_
  refine sp rfl (PE.move rfl) rfl ?_
  refine sy_sq ?_
  refine clV rfl cal104 rfl rfl (c_asked s ws a c hl _ _) ?_
  refine sy_sq ?_
  refine sp rfl (PE.assign rfl) rfl ?_
  refine sy_sn ?_
  refine sy_nx ?_
  refine sy_seq ?_
  refine sy_tx' [0, 1] rfl ?_
  refine sy_sq ?_
  refine sp rfl (PE.move rfl) rfl ?_
  refine sy_sq ?_
  refine sp rfl (PE.neq rfl rfl) rfl ?_
  refine sy_sn ?_
  refine sy_nx ?_
  refine sy_cond rfl (fun hc0 => ?_) (fun hc0 => ?_)
  ·
   have hck : askE s ws ≠ 0 := by simpa using hc0
   refine sy_seq ?_
   refine sy_tx' [0, 1, 2] rfl ?_
   refine sy_sq ?_
   refine sp rfl (PE.move rfl) rfl ?_
   refine sy_sq ?_
   refine sp rfl (PE.assign rfl) rfl ?_
   refine sy_sq ?_
   refine sp rfl (PE.assign rfl) rfl ?_
   refine sy_sn ?_
   refine sy_nx ?_
   refine sy_ret ?_
   refine sy_tr ?_
   first | exact sy_return (vs := [_, _]) rfl (.cons (RV.tmp rfl) (.cons (RV.tmp rfl) .nil)) rfl ⟨.inl ⟨hck, rfl, rfl⟩, rfl⟩ (fun _ h => h) | exact sy_return (vs := [_, _]) rfl (.cons (RV.tmp rfl) (.cons (RV.tmp rfl) .nil)) rfl ⟨.inr ⟨hck, j, b19, hc1, rfl, rfl⟩, rfl⟩ (fun _ h => h)
  ·
   have hck : askE s ws = 0 := by simpa using hc0
   obtain ⟨hi1, hi2, hi3, hi4⟩ := shInit_ok hck
   refine sy_skip ?_
   refine sy_nx ?_
   refine sy_seq ?_
   refine sy_tx' [0, 1, 2, 3] rfl ?_
   refine sy_sq ?_
   refine sp rfl (PE.move rfl) rfl ?_
   refine sy_sq ?_
   refine sp rfl (PE.lenSl isl42 rfl) rfl ?_
   refine sy_sq ?_
   refine mkS rfl ap42 zl3 rfl rfl (Nat.le_refl _) ⟨by omega, by omega⟩ rfl (fun b19 => ?_)
   rw [repl0]
   refine sy_sq ?_
   refine sp rfl (PE.assign rfl) rfl ?_
   refine sy_sn ?_
   refine sy_nx ?_
   refine sy_seq ?_
   refine sy_seq ?_
   refine sy_tx' [0] rfl ?_
   refine sy_sq ?_
   refine sp rfl (PE.assign rfl) rfl ?_
   refine sy_sn ?_
   refine sy_nx ?_
   refine sy_block ?_
   refine sy_loop (ι := Nat) (fun j => ⟨[(0, .int .i64 (shIt ws j (shInit s ws)).s), (1, .slice a ws.length c), (7, .slice (some ⟨b19, 0, none⟩) ws.length ws.length), (8, .bool (shIt ws j (shInit s ws)).g)], (b19, cel 3 (ints (shIt ws j (shInit s ws)).o)) :: H, R⟩) (fun j => 2 * (shIt ws j (shInit s ws)).s.toNat + if (shIt ws j (shInit s ws)).g = true then 1 else 0) 0 ?_ (fun j => ?_)
   ·
    exact sy_at (by repeat' first | exact Sub.nil | apply Sub.cons | rfl | (simp [lk]; omega)) (fun _ h => h)
   ·
    have hj := shIt_ok j _ hi1
    have hsj := hj.s
    dsimp only
    refine sy_seq ?_
    refine sy_seq ?_
    refine sy_tx' [0] rfl ?_
    refine sy_sq ?_
    refine sp rfl (PE.move rfl) rfl ?_
    refine sy_sn ?_
    refine sy_nx ?_
    refine sy_cond rfl (fun hc1 => ?_) (fun hc1 => ?_)
    ·
     refine sy_skip ?_
     refine sy_nx ?_
     refine sy_block ?_
     refine sy_seq ?_
     refine sy_tx' [0] rfl ?_
     refine sy_sq ?_
     refine sp rfl (PE.assign rfl) rfl ?_
     refine sy_sn ?_
     refine sy_nx ?_
     refine sy_seq ?_
     refine sy_tx' [0, 1, 2] rfl ?_
     refine sy_sq ?_
     refine sp rfl (PE.move rfl) rfl ?_
     refine sy_sq ?_
     refine sp rfl (PE.lenSl isl42 rfl) rfl ?_
     refine sy_sq ?_
     refine sp rfl (PE.move rfl) rfl ?_
     refine sy_sn ?_
     refine sy_nx ?_
     refine sy_block ?_
     refine sy_loop (ι := {k : Nat // k ≤ ws.length}) (fun k => ⟨[(0, .int .i64 ((List.range k.1).foldl (ShS.step ws) { shIt ws j (shInit s ws) with g := false }).s), (1, .slice a ws.length c), (7, .slice (some ⟨b19, 0, none⟩) ws.length ws.length), (8, .bool ((List.range k.1).foldl (ShS.step ws) { shIt ws j (shInit s ws) with g := false }).g), (21, .slice a ws.length c), (22, .int .i64 ws.length), (23, .int .i64 k.1)], (b19, cel 3 (ints ((List.range k.1).foldl (ShS.step ws) { shIt ws j (shInit s ws) with g := false }).o)) :: H, R⟩) (fun k => ws.length - k.1) ⟨0, by omega⟩ ?_ (fun k => ?_)
     ·
      exact sy_at (by repeat' first | exact Sub.nil | apply Sub.cons | rfl | (simp [lk]; omega)) (fun _ h => h)
     ·
      obtain ⟨k, hk⟩ := k
      dsimp only
      have e : (List.range (k + 1)).foldl (ShS.step ws) { shIt ws j (shInit s ws) with g := false } = ((List.range k).foldl (ShS.step ws) { shIt ws j (shInit s ws) with g := false }).step ws k := by rw [List.range_succ, List.foldl_append]; rfl
      have hok := foldS_ok (List.range k) { shIt ws j (shInit s ws) with g := false } ⟨hj.len, hj.s, hj.m⟩
      have hke : k = ws.length → (List.range k).foldl (ShS.step ws) { shIt ws j (shInit s ws) with g := false } = (shIt ws j (shInit s ws)).pass ws := fun h => by subst h; rfl
      generalize (List.range k).foldl (ShS.step ws) { shIt ws j (shInit s ws) with g := false } = τ at e hok hke ⊢
      have hso := hok.s
      refine sy_seq ?_
      refine sy_tx' [0] rfl ?_
      refine sy_sq ?_
      refine sp rfl (PE.lss rfl rfl) rfl ?_
      refine sy_sn ?_
      refine sy_nx ?_
      refine sy_seq ?_
      refine sy_cond rfl (fun hc2 => ?_) (fun hc2 => ?_)
      ·
       simp only [decide_eq_true_eq, decide_eq_false_iff_not, Bool.and_eq_true, Bool.or_eq_true, Bool.not_eq_true', Int.not_le, Int.not_lt] at hc2
       obtain ⟨n, hn⟩ : ∃ n, ws[k]? = some n := ⟨_, List.getElem?_eq_getElem (by omega)⟩
       obtain ⟨m, hm⟩ : ∃ m, τ.o[k]? = some m := ⟨_, List.getElem?_eq_getElem (by rw [hok.len]; omega)⟩
       have hmn := hok.m k m n hm hn
       have hn1 := hi3 n (List.mem_of_getElem? hn)
       refine sy_addr (a := a) (sz := 1) (rows := irows ws) (by intro h0; simp [irows] at h0; simp [h0] at hn) (fun ba oa he => ?_)
       subst he
       refine sy_skip ?_
       refine sy_nx ?_
       refine sy_seq ?_
       refine sy_block ?_
       refine sy_seq ?_
       refine sy_tx' [0, 1, 2, 3, 4] rfl ?_
       refine sy_sq ?_
       refine sp rfl (PE.move rfl) rfl ?_
       refine sy_sq ?_
       refine sp rfl (PE.indexAddr el42 rfl rfl (by omega) (by omega)) rfl ?_
       refine sy_sq ?_
       refine spL rfl rfl (lf0 sc3 (by simp [irows, hn]; rfl) rfl) rfl ?_
       refine sy_sq ?_
       refine sp rfl (PE.assign rfl) rfl ?_
       refine sy_sq ?_
       refine sp rfl (PE.assign rfl) rfl ?_
       refine sy_sn ?_
       refine sy_nx ?_
       refine sy_seq ?_
       refine sy_tx' [0, 1, 2, 3, 4, 5, 6, 7, 8, 9] rfl ?_
       refine sy_sq ?_
       refine sp rfl (PE.move rfl) rfl ?_
       refine sy_sq ?_
       refine sp rfl (PE.gtr rfl rfl) rfl ?_
       refine sy_sq ?_
       refine sp rfl (PE.move rfl) rfl ?_
       refine sy_sq ?_
       refine sy_case (t := 30) rfl (fun g30 => ?_) (fun g30 => ?_)
       ·
        simp only [decide_eq_true_eq, decide_eq_false_iff_not, Bool.and_eq_true, Bool.or_eq_true, Bool.not_eq_true', Int.not_le, Int.not_lt] at g30
        refine spG rfl rfl rfl rfl (PE.move rfl) rfl ?_
        refine sy_sq ?_
        refine spG rfl rfl rfl rfl (PE.move rfl) rfl ?_
        refine sy_sq ?_
        refine spG rfl rfl rfl rfl (PE.indexAddr el42 rfl rfl (by omega) (by omega)) rfl ?_
        refine sy_sq ?_
        refine spLG rfl rfl rfl rfl rfl (lh (v := .int .i64 m) sc3 rfl (by simp [ints, hm])) rfl ?_
        refine sy_sq ?_
        refine spG rfl rfl rfl rfl (PE.move rfl) rfl ?_
        refine sy_sq ?_
        refine spG rfl rfl rfl rfl (PE.lss rfl rfl) rfl ?_
        refine sy_sq ?_
        refine sp rfl (PE.pick rfl rfl rfl) rfl ?_
        refine sy_sn ?_
        refine sy_nx ?_
        refine sy_cond rfl (fun hc3 => ?_) (fun hc3 => ?_)
        ·
         simp only [decide_eq_true_eq, decide_eq_false_iff_not, Bool.and_eq_true, Bool.or_eq_true, Bool.not_eq_true', Int.not_le, Int.not_lt] at hc3
         have hst : τ.step ws k = ⟨τ.s - 1, τ.o.set k (m + 1), true⟩ := by unfold ShS.step; rw [hn, hm]; simp [g30, hc3]
         refine sy_seq ?_
         refine sy_tx' [0, 1, 2, 3, 4, 5, 6] rfl ?_
         refine sy_sq ?_
         refine sp rfl (PE.move rfl) rfl ?_
         refine sy_sq ?_
         refine sp rfl (PE.move rfl) rfl ?_
         refine sy_sq ?_
         refine sp rfl (PE.indexAddr el42 rfl rfl (by omega) (by omega)) rfl ?_
         refine sy_sq ?_
         refine spL rfl rfl (lh (v := .int .i64 m) sc3 rfl (by simp [ints, hm])) rfl ?_
         refine sy_sq ?_
         refine sp rfl (PE.add rfl rfl (by omega)) rfl ?_
         refine sy_sq ?_
         refine sp rfl (PE.indexAddr el42 rfl rfl (by omega) (by omega)) rfl ?_
         refine sy_sq ?_
         refine stoE (l' := ints (τ.o.set k (m + 1))) rfl rfl rfl cn3 rfl rfl rfl (by show spl _ _ [_] = _; rw [spl_set (by simp [ints, hok.len]; omega), ints_set]; simp) (by simp [ints, hok.len, Value.cells]; omega) ?_
         refine sy_sn ?_
         refine sy_nx ?_
         refine sy_seq ?_
         refine sy_tx' [0, 1, 2] rfl ?_
         refine sy_sq ?_
         refine sp rfl (PE.move rfl) rfl ?_
         refine sy_sq ?_
         refine sp rfl (PE.sub rfl rfl (by omega)) rfl ?_
         refine sy_sq ?_
         refine sp rfl (PE.assign rfl) rfl ?_
         refine sy_sn ?_
         refine sy_nx ?_
         refine sy_tx' [0] rfl ?_
         refine sy_sq ?_
         refine sp rfl (PE.assign rfl) rfl ?_
         refine sy_sn ?_
         refine sy_bn ?_
         refine sy_nx ?_
         refine sy_tx' [0, 1] rfl ?_
         refine sy_sq ?_
         refine sp rfl (PE.add rfl rfl (by omega)) rfl ?_
         refine sy_sq ?_
         refine sp rfl (PE.move rfl) rfl ?_
         refine sy_sn ?_
         refine sy_nx ?_
         exact sy_next ⟨k + 1, by omega⟩ (by dsimp only; omega) (by rw [e, hst]; exact (by repeat' first | exact Sub.nil | apply Sub.cons | rfl | (simp [lk]; omega))) (fun w h => by rw [e, hst]; exact h)
        ·
         simp only [decide_eq_true_eq, decide_eq_false_iff_not, Bool.and_eq_true, Bool.or_eq_true, Bool.not_eq_true', Int.not_le, Int.not_lt] at hc3
         have hst : τ.step ws k = τ := by unfold ShS.step; rw [hn, hm]; simp [Int.not_lt.2 hc3]
         refine sy_skip ?_
         refine sy_bn ?_
         refine sy_nx ?_
         refine sy_tx' [0, 1] rfl ?_
         refine sy_sq ?_
         refine sp rfl (PE.add rfl rfl (by omega)) rfl ?_
         refine sy_sq ?_
         refine sp rfl (PE.move rfl) rfl ?_
         refine sy_sn ?_
         refine sy_nx ?_
         exact sy_next ⟨k + 1, by omega⟩ (by dsimp only; omega) (by rw [e, hst]; exact (by repeat' first | exact Sub.nil | apply Sub.cons | rfl | (simp [lk]; omega))) (fun w h => by rw [e, hst]; exact h)
       ·
        simp only [decide_eq_true_eq, decide_eq_false_iff_not, Bool.and_eq_true, Bool.or_eq_true, Bool.not_eq_true', Int.not_le, Int.not_lt] at g30
        have hst : τ.step ws k = τ := by unfold ShS.step; rw [hn, hm]; simp [Int.not_lt.2 g30]
        refine spN rfl rfl rfl rfl rfl rfl rfl rfl ?_
        refine sy_sq ?_
        refine spN rfl rfl rfl rfl rfl rfl rfl rfl ?_
        refine sy_sq ?_
        refine spN rfl rfl rfl rfl rfl rfl rfl rfl ?_
        refine sy_sq ?_
        refine spN rfl rfl rfl rfl rfl rfl rfl rfl ?_
        refine sy_sq ?_
        refine spN rfl rfl rfl rfl rfl rfl rfl rfl ?_
        refine sy_sq ?_
        refine spN rfl rfl rfl rfl rfl rfl rfl rfl ?_
        refine sy_sq ?_
        refine sp rfl (PE.pick rfl rfl rfl) rfl ?_
        refine sy_sn ?_
        refine sy_nx ?_
        refine sy_condF rfl ?_
        refine sy_skip ?_
        refine sy_bn ?_
        refine sy_nx ?_
        refine sy_tx' [0, 1] rfl ?_
        refine sy_sq ?_
        refine sp rfl (PE.add rfl rfl (by omega)) rfl ?_
        refine sy_sq ?_
        refine sp rfl (PE.move rfl) rfl ?_
        refine sy_sn ?_
        refine sy_nx ?_
        exact sy_next ⟨k + 1, by omega⟩ (by dsimp only; omega) (by rw [e, hst]; exact (by repeat' first | exact Sub.nil | apply Sub.cons | rfl | (simp [lk]; omega))) (fun w h => by rw [e, hst]; exact h)
      ·
       simp only [decide_eq_true_eq, decide_eq_false_iff_not, Bool.and_eq_true, Bool.or_eq_true, Bool.not_eq_true', Int.not_le, Int.not_lt] at hc2
       have hkw : k = ws.length := by omega
       rw [hke hkw] at *
       refine sy_exit ?_
       refine sy_tx ?_
       refine sy_tx ?_
       refine sy_bx ?_
       refine sy_bn ?_
       refine sy_nx ?_
       exact sy_next (j + 1) (by
         rw [if_pos hc1]
         have h1 := foldS_le ws (List.range ws.length) { shIt ws j (shInit s ws) with g := false }
         have h2 := (shIt_ok (j + 1) _ hi1).s
         change ((shIt ws j (shInit s ws)).pass ws).s ≤ _ ∧ (((shIt ws j (shInit s ws)).pass ws).g = true → _ ∨ ((shIt ws j (shInit s ws)).pass ws).s < _) at h1
         change 0 ≤ ((shIt ws j (shInit s ws)).pass ws).s ∧ _ at h2
         show 2 * ((shIt ws j (shInit s ws)).pass ws).s.toNat + (if ((shIt ws j (shInit s ws)).pass ws).g = true then 1 else 0) < _
         obtain ⟨h3, h4⟩ := h1
         simp only at h3 h4
         split
         · rename_i hg
           rcases h4 hg with h | h
           · cases h
           · omega
         · omega) (by repeat' first | exact Sub.nil | apply Sub.cons | rfl | (simp [lk]; omega)) (fun _ h => h)
    ·
     refine sy_exit ?_
     refine sy_tx ?_
     refine sy_tx ?_
     refine sy_bx ?_
     refine sy_nx ?_
     refine sy_seq ?_
     refine sy_tx' [0, 1, 2] rfl ?_
     refine sy_sq ?_
     refine sp rfl (PE.move rfl) rfl ?_
     refine sy_sq ?_
     refine sp rfl (PE.assign rfl) rfl ?_
     refine sy_sq ?_
     refine sp rfl (PE.assign rfl) rfl ?_
     refine sy_sn ?_
     refine sy_nx ?_
     refine sy_ret ?_
     first | exact sy_return (vs := [_, _]) rfl (.cons (RV.tmp rfl) (.cons (RV.tmp rfl) .nil)) rfl ⟨.inl ⟨hck, rfl, rfl⟩, rfl⟩ (fun _ h => h) | exact sy_return (vs := [_, _]) rfl (.cons (RV.tmp rfl) (.cons (RV.tmp rfl) .nil)) rfl ⟨.inr ⟨hck, j, b19, hc1, rfl, rfl⟩, rfl⟩ (fun _ h => h)
end Go.Proofs.Ytaldphhdkmchhaa
