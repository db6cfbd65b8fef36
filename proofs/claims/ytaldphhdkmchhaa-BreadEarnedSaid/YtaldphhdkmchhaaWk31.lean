/- Walks of the functions of the program: what each returns and leaves in memory, under the conditions that its theorem names. -/
import Derived.Test.YtaldphhdkmchhaaTy
import Derived.Test.YtaldphhdkmchhaaMa
import Derived.Test.YtaldphhdkmchhaaWk28
namespace Go.Proofs.Ytaldphhdkmchhaa
set_option linter.unusedSimpArgs false
set_option linter.unusedVariables false
open Go
theorem cal46 : cal Try.prog 46 = true := by kernel_rfl
theorem cal47 : cal Try.prog 47 = true := by kernel_rfl
theorem cal49 : cal Try.prog 49 = true := by kernel_rfl
theorem c_lallow (t : Twn) (s : Sta) (r : Int) (q : Rn) (ba oa ca : Nat) (h0 : 0 ≤ r) (hq : t.rats[r.toNat]? = some q) (H : Heap) (R : Facts) [hR : MemRows (some ⟨ba, oa, none⟩) 2 (rrows t.rats) R] :
    FnV Try.prog 54 [t.v (t.sl (some ⟨ba, oa, none⟩) ca), s.v, .int .i64 r] H R (.bool (t.can s q)) := by
  have hr := nthq h0 hq
  refine fn_of Try.func54 rfl Try.ntmps54 rfl ?_
  refine sy_seq ?_
  refine sy_tx' [0, 1, 2] rfl ?_
  refine sy_sq ?_
  refine bx rfl rfl rfl (fun b3 => ?_)
  refine sy_sq ?_
  refine bx rfl rfl rfl (fun b4 => ?_)
  refine sy_sq ?_
  refine sp rfl (PE.assign rfl) rfl ?_
  refine sy_sn ?_
  refine sy_nx ?_
  refine sy_seq ?_
  refine sy_seq ?_
  refine sy_draw [0, 1, 3, 7, 7, 23, 55, 127, 255, 511, 1023, 2047, 1023, 8191, 16383, 32767, 1023, 66559, 262143, 524287] (.tk 0 (.tk 1 (.tk 2 (.tk 3 (.tk 4 (.ld 5 (.tk 6 (.tk 7 (.tk 8 (.tk 9 (.tk 10 (.ld 11 (.tk 12 (.tk 13 (.tk 14 (.ld 15 (.tk 16 (.ld 17 (.tk 18 (.tk 19 .done)))))))))))))))))))) mixed (by kernel_rfl) ?_
  refine tk rfl (PE.move rfl) rfl ?_
  refine tk rfl (PE.lss rfl rfl) rfl ?_
  refine tk rfl (PE.move rfl) rfl ?_
  refine sy_case (t := 9) rfl (fun g9 => ?_) (fun g9 => ?_)
  ·
   exact absurd g9 (by first | (simp; omega) | omega)
  ·
   refine tkG rfl rfl rfl rfl (PE.move rfl) rfl ?_
   refine tkG rfl rfl rfl rfl (PE.fieldAddr fo26_8 rfl) rfl ?_
   refine ldG rfl rfl rfl rfl rfl (lh sc24 rfl rfl) rfl ?_
   refine tkG rfl rfl rfl rfl (PE.lenSl isl24 rfl) rfl ?_
   refine tkG rfl rfl rfl rfl (PE.geq rfl rfl) rfl ?_
   refine tk rfl (PE.pick rfl rfl rfl) rfl ?_
   refine tk rfl (PE.move rfl) rfl ?_
   refine sy_case (t := 16) rfl (fun g16 => ?_) (fun g16 => ?_)
   ·
    exact absurd g16 (by first | (simp; omega) | omega)
   ·
    refine tkG rfl rfl rfl rfl (PE.fieldAddr fo26_8 rfl) rfl ?_
    refine ldG rfl rfl rfl rfl rfl (lh sc24 rfl rfl) rfl ?_
    refine tkG rfl rfl rfl rfl (PE.move rfl) rfl ?_
    refine tkG rfl rfl rfl rfl (PE.indexAddr el24 rfl rfl (by omega) (by omega)) rfl ?_
    refine tkG rfl rfl rfl rfl (PE.fieldAddr fo91_0 rfl) rfl ?_
    refine ldG rfl rfl rfl rfl rfl (lf sc3 (rr_get hq) rfl) rfl ?_
    refine tkG rfl rfl rfl rfl (PE.fieldAddr fo23_0 rfl) rfl ?_
    refine ldG rfl rfl rfl rfl rfl (lh sc3 rfl rfl) rfl ?_
    refine tkG rfl rfl rfl rfl (PE.gtr rfl rfl) rfl ?_
    refine tk rfl (PE.pick rfl rfl rfl) rfl ?_
    refine sy_dn ?_
    refine sy_nx ?_
    refine sy_cond rfl (fun hc0 => ?_) (fun hc0 => ?_)
    ·
     simp only [decide_eq_true_eq, decide_eq_false_iff_not, Bool.and_eq_true, Bool.or_eq_true, Bool.not_eq_true', Int.not_le, Int.not_lt] at hc0
     refine sy_seq ?_
     refine sy_tx' [0] rfl ?_
     refine sy_sq ?_
     refine sp rfl (PE.assign rfl) rfl ?_
     refine sy_sn ?_
     refine sy_nx ?_
     refine sy_ret ?_
     refine sy_tr ?_
     exact sy_return (vs := [_]) rfl (.cons (RV.tmp rfl) .nil) rfl ⟨by simp_all [retV, Twn.can] <;> omega, rfl, rfl⟩ (fun _ h => by repeat first | exact h | replace h := St.tail h | replace h := St.ftail h | replace h := St.drop h)
    ·
     simp only [decide_eq_true_eq, decide_eq_false_iff_not, Bool.and_eq_true, Bool.or_eq_true, Bool.not_eq_true', Int.not_le, Int.not_lt] at hc0
     refine sy_skip ?_
     refine sy_nx ?_
     refine sy_seq ?_
     refine sy_draw [0, 1, 0, 7, 15, 31, 0, 64, 255, 511, 1023, 2047, 1023, 5119, 16383, 32767, 65535] (.tk 0 (.ld 1 (.tk 2 (.tk 3 (.tk 4 (.ld 5 (.tk 6 (.ld 7 (.tk 8 (.tk 9 (.tk 10 (.ld 11 (.tk 12 (.ld 13 (.tk 14 (.tk 15 (.tk 16 .done))))))))))))))))) mixed (by kernel_rfl) ?_
     refine tk rfl (PE.fieldAddr fo26_8 rfl) rfl ?_
     refine ld rfl rfl (lh sc24 rfl rfl) rfl ?_
     refine tk rfl (PE.move rfl) rfl ?_
     refine tk rfl (PE.indexAddr el24 rfl rfl (by omega) (by omega)) rfl ?_
     refine tk rfl (PE.fieldAddr fo91_0 rfl) rfl ?_
     refine ld rfl rfl (lf sc3 (rr_get hq) rfl) rfl ?_
     refine tk rfl (PE.fieldAddr fo26_2 rfl) rfl ?_
     refine ld rfl rfl (lh sc3 rfl rfl) rfl ?_
     refine tk rfl (PE.geq rfl rfl) rfl ?_
     refine tk rfl (PE.move rfl) rfl ?_
     refine sy_case (t := 36) rfl (fun g36 => ?_) (fun g36 => ?_)
     ·
      simp only [decide_eq_true_eq, decide_eq_false_iff_not, Bool.and_eq_true, Bool.or_eq_true, Bool.not_eq_true', Int.not_le, Int.not_lt] at g36
      refine tkN rfl rfl rfl rfl rfl rfl rfl rfl ?_
      refine ldN rfl rfl rfl rfl rfl rfl rfl rfl ?_
      refine tkN rfl rfl rfl rfl rfl rfl rfl rfl ?_
      refine ldN rfl rfl rfl rfl rfl rfl rfl rfl ?_
      refine tkN rfl rfl rfl rfl rfl rfl rfl rfl ?_
      refine tk rfl (PE.pick rfl rfl rfl) rfl ?_
      refine tk rfl (PE.assign rfl) rfl ?_
      refine sy_dn ?_
      refine sy_nx ?_
      refine sy_ret ?_
      exact sy_return (vs := [_]) rfl (.cons (RV.tmp rfl) .nil) rfl ⟨by simp_all [retV, Twn.can] <;> omega, rfl, rfl⟩ (fun _ h => by repeat first | exact h | replace h := St.tail h | replace h := St.ftail h | replace h := St.drop h)
     ·
      simp only [decide_eq_true_eq, decide_eq_false_iff_not, Bool.and_eq_true, Bool.or_eq_true, Bool.not_eq_true', Int.not_le, Int.not_lt] at g36
      refine tkG rfl rfl rfl rfl (PE.fieldAddr fo23_1 rfl) rfl ?_
      refine ldG rfl rfl rfl rfl rfl (lh sc3 rfl rfl) rfl ?_
      refine tkG rfl rfl rfl rfl (PE.fieldAddr fo26_3 rfl) rfl ?_
      refine ldG rfl rfl rfl rfl rfl (lh sc3 rfl rfl) rfl ?_
      refine tkG rfl rfl rfl rfl (PE.lss rfl rfl) rfl ?_
      refine tk rfl (PE.pick rfl rfl rfl) rfl ?_
      refine tk rfl (PE.assign rfl) rfl ?_
      refine sy_dn ?_
      refine sy_nx ?_
      refine sy_ret ?_
      exact sy_return (vs := [_]) rfl (.cons (RV.tmp rfl) .nil) rfl ⟨by simp_all [retV, Twn.can] <;> omega, rfl, rfl⟩ (fun _ h => by repeat first | exact h | replace h := St.tail h | replace h := St.ftail h | replace h := St.drop h)

theorem c_after (t : Twn) (ht : t.ok) (s : Sta) (hs : s.right t = true) (r : Int) (q : Rn) (bad : Bool) (ba oa ca : Nat) (h0 : 0 ≤ r) (hq : t.rats[r.toNat]? = some q) (hc : q.sacks ≤ s.stock) (H : Heap) (R : Facts) [hR : MemRows (some ⟨ba, oa, none⟩) 2 (rrows t.rats) R] :
    FnV Try.prog 56 [t.v (t.sl (some ⟨ba, oa, none⟩) ca), s.v, .int .i64 r, .bool bad] H R (t.next s q bad).v := by
  have hr := nthq h0 hq
  have hq1 := ht.rats q (List.mem_of_getElem? hq)
  have hs1 := right_iff.1 hs
  have h1 := ht.holds
  have h2 := ht.good
  have h3 := ht.bad
  have h4 := ht.run
  have h5 := ht.patience
  have h6 := rot_bd (x := s.stock - q.sacks) (r := t.rot) (by omega) (by omega) ht.rot.1 ht.rot.2
  refine fn_of Try.func56 rfl Try.ntmps56 rfl ?_
  refine sy_seq ?_
  refine sy_tx' [0, 1, 2] rfl ?_
  refine sy_sq ?_
  refine bx rfl rfl rfl (fun b4 => ?_)
  refine sy_sq ?_
  refine bx rfl rfl rfl (fun b5 => ?_)
  refine sy_sq ?_
  refine alc rfl zl23 rfl (fun b8 => ?_)
  refine sy_sn ?_
  refine sy_nx ?_
  refine sy_seq ?_
  refine sy_draw [0, 1, 0, 4, 0, 28, 60, 124, 255, 511] (.tk 0 (.ld 1 (.tk 2 (.ld 3 (.tk 4 (.tk 5 (.tk 6 (.ld 7 (.tk 8 (.tk 9 .done)))))))))) mixed (by kernel_rfl) ?_
  refine tk rfl (PE.fieldAddr fo23_0 rfl) rfl ?_
  refine ld rfl rfl (lh sc3 rfl rfl) rfl ?_
  refine tk rfl (PE.fieldAddr fo26_8 rfl) rfl ?_
  refine ld rfl rfl (lh sc24 rfl rfl) rfl ?_
  refine tk rfl (PE.move rfl) rfl ?_
  refine tk rfl (PE.indexAddr el24 rfl rfl (by omega) (by omega)) rfl ?_
  refine tk rfl (PE.fieldAddr fo91_0 rfl) rfl ?_
  refine ld rfl rfl (lf sc3 (rr_get hq) rfl) rfl ?_
  refine tk rfl (PE.sub rfl rfl (by omega)) rfl ?_
  refine tk rfl (PE.assign rfl) rfl ?_
  refine sy_dn ?_
  refine sy_nx ?_
  refine sy_seq ?_
  refine sy_tx' [0, 1, 2, 3, 4, 5, 6, 7] rfl ?_
  refine sy_sq ?_
  refine sp rfl (PE.move rfl) rfl ?_
  refine sy_sq ?_
  refine sp rfl (PE.move rfl) rfl ?_
  refine sy_sq ?_
  refine sp rfl (PE.fieldAddr fo26_7 rfl) rfl ?_
  refine sy_sq ?_
  refine spL rfl rfl (lh sc3 rfl rfl) rfl ?_
  refine sy_sq ?_
  refine sp rfl (PE.mul rfl rfl (by omega)) rfl ?_
  refine sy_sq ?_
  refine sp rfl (PE.quo rfl rfl (by omega)) rfl ?_
  refine sy_sq ?_
  refine sp rfl (PE.sub rfl rfl (by omega)) rfl ?_
  refine sy_sq ?_
  refine sp rfl (PE.assign rfl) rfl ?_
  refine sy_sn ?_
  refine sy_nx ?_
  refine sy_seq ?_
  refine sy_seq ?_
  refine sy_draw [0, 1, 0, 4, 0, 28, 60, 124, 255, 0, 512, 2047, 4095, 8191] (.tk 0 (.ld 1 (.tk 2 (.ld 3 (.tk 4 (.tk 5 (.tk 6 (.ld 7 (.tk 8 (.tk 9 (.ld 10 (.tk 11 (.tk 12 (.tk 13 .done)))))))))))))) mixed (by kernel_rfl) ?_
  refine tk rfl (PE.fieldAddr fo23_0 rfl) rfl ?_
  refine ld rfl rfl (lh sc3 rfl rfl) rfl ?_
  refine tk rfl (PE.fieldAddr fo26_8 rfl) rfl ?_
  refine ld rfl rfl (lh sc24 rfl rfl) rfl ?_
  refine tk rfl (PE.move rfl) rfl ?_
  refine tk rfl (PE.indexAddr el24 rfl rfl (by omega) (by omega)) rfl ?_
  refine tk rfl (PE.fieldAddr fo91_0 rfl) rfl ?_
  refine ld rfl rfl (lf sc3 (rr_get hq) rfl) rfl ?_
  refine tk rfl (PE.sub rfl rfl (by omega)) rfl ?_
  refine tk rfl (PE.fieldAddr fo26_7 rfl) rfl ?_
  refine ld rfl rfl (lh sc3 rfl rfl) rfl ?_
  refine tk rfl (PE.mul rfl rfl (by omega)) rfl ?_
  refine tk rfl (PE.rem rfl rfl (by omega)) rfl ?_
  refine tk rfl (PE.gtr rfl rfl) rfl ?_
  refine sy_dn ?_
  refine sy_nx ?_
  refine sy_cond rfl (fun hc0 => ?_) (fun hc0 => ?_)
  ·
   simp only [decide_eq_true_eq, decide_eq_false_iff_not, Bool.and_eq_true, Bool.or_eq_true, Bool.not_eq_true', Int.not_le, Int.not_lt] at hc0
   have hl : s.stock - q.sacks - (s.stock - q.sacks) * t.rot / 10 - 1 = leftOf t s q := by unfold leftOf; omega
   refine sy_tx' [0, 1, 2] rfl ?_
   refine sy_sq ?_
   refine sp rfl (PE.move rfl) rfl ?_
   refine sy_sq ?_
   refine sp rfl (PE.sub rfl rfl (by omega)) rfl ?_
   refine sy_sq ?_
   refine sp rfl (PE.assign rfl) rfl ?_
   refine sy_sn ?_
   refine sy_nx ?_
   refine sy_seq ?_
   refine sy_tx' [0, 1, 2] rfl ?_
   refine sy_sq ?_
   rw [hl]
   have hlb : 0 ≤ leftOf t s q ∧ leftOf t s q ≤ 30 := by rw [← hl]; omega
   refine sp rfl (PE.build (out := [_, _, _]) pl23 zl23 rfl rfl) rfl ?_
   refine sy_sq ?_
   refine alc rfl zl23 rfl (fun b10 => ?_)
   refine sy_sq ?_
   refine sto rfl rfl rfl cn23 rfl rfl rfl rfl ?_
   refine sy_sn ?_
   refine sy_nx ?_
   refine sy_seq ?_
   refine sy_seq ?_
   refine sy_tx' [0, 1, 2, 3, 4, 5, 6, 7, 8] rfl ?_
   refine sy_sq ?_
   refine sp rfl (PE.fieldAddr fo26_1 rfl) rfl ?_
   refine sy_sq ?_
   refine spL rfl rfl (lh sc3 rfl rfl) rfl ?_
   refine sy_sq ?_
   refine sp rfl (PE.move rfl) rfl ?_
   refine sy_sq ?_
   refine sp rfl (PE.fieldAddr fo26_5 rfl) rfl ?_
   refine sy_sq ?_
   refine spL rfl rfl (lh sc3 rfl rfl) rfl ?_
   refine sy_sq ?_
   refine sp rfl (PE.add rfl rfl (by omega)) rfl ?_
   refine sy_sq ?_
   refine sp rfl (PE.min rfl rfl) rfl ?_
   refine sy_sq ?_
   refine sp rfl (PE.fieldAddr fo23_0 rfl) rfl ?_
   refine sy_sq ?_
   refine sto rfl rfl rfl cn3 rfl rfl rfl rfl ?_
   refine sy_sn ?_
   refine sy_nx ?_
   refine sy_seq ?_
   refine sy_tx' [0] rfl ?_
   refine sy_sq ?_
   refine sp rfl (PE.move rfl) rfl ?_
   refine sy_sn ?_
   refine sy_nx ?_
   refine sy_cond rfl (fun hc1 => ?_) (fun hc1 => ?_)
   ·
    subst hc1
    refine sy_draw [0, 1, 0, 0, 8, 28, 63, 0, 128, 384, 127, 1151, 4095, 8191] (.tk 0 (.ld 1 (.tk 2 (.tk 3 (.ld 4 (.tk 5 (.tk 6 (.tk 7 (.ld 8 (.tk 9 (.tk 10 (.big 11 (.tk 12 (.big 13 .done)))))))))))))) mixed (by kernel_rfl) ?_
    refine tk rfl (PE.fieldAddr fo26_1 rfl) rfl ?_
    refine ld rfl rfl (lh sc3 rfl rfl) rfl ?_
    refine tk rfl (PE.move rfl) rfl ?_
    refine tk rfl (PE.fieldAddr fo26_6 rfl) rfl ?_
    refine ld rfl rfl (lh sc3 rfl rfl) rfl ?_
    refine tk rfl (PE.add rfl rfl (by omega)) rfl ?_
    refine tk rfl (PE.min rfl rfl) rfl ?_
    refine tk rfl (PE.fieldAddr fo23_2 rfl) rfl ?_
    refine ld rfl rfl (lh sc3 rfl rfl) rfl ?_
    refine tk rfl (PE.add rfl rfl (by omega)) rfl ?_
    refine tk rfl (PE.fieldAddr fo23_0 rfl) rfl ?_
    refine sy_bg ?_
    refine sto rfl rfl rfl cn3 rfl rfl rfl rfl ?_
    refine bg (fun w hs => ⟨(lh sc3 rfl rfl) w hs, trivial, trivial, trivial⟩) ?_
    refine tk rfl (PE.fieldAddr fo23_2 rfl) rfl ?_
    refine sy_bg ?_
    refine sto rfl rfl rfl cn3 rfl rfl rfl rfl ?_
    refine bg (fun w hs => ⟨trivial, trivial⟩) ?_
    refine sy_dn ?_
    refine sy_nx ?_
    refine sy_seq ?_
    refine sy_seq ?_
    refine sy_draw [0, 1, 0, 7, 15, 31, 0, 64, 255] (.tk 0 (.ld 1 (.tk 2 (.tk 3 (.tk 4 (.ld 5 (.tk 6 (.ld 7 (.tk 8 .done))))))))) mixed (by kernel_rfl) ?_
    refine tk rfl (PE.fieldAddr fo26_8 rfl) rfl ?_
    refine ld rfl rfl (lh sc24 rfl rfl) rfl ?_
    refine tk rfl (PE.move rfl) rfl ?_
    refine tk rfl (PE.indexAddr el24 rfl rfl (by omega) (by omega)) rfl ?_
    refine tk rfl (PE.fieldAddr fo91_0 rfl) rfl ?_
    refine ld rfl rfl (lf sc3 (rr_get hq) rfl) rfl ?_
    refine tk rfl (PE.fieldAddr fo26_2 rfl) rfl ?_
    refine ld rfl rfl (lh sc3 rfl rfl) rfl ?_
    refine tk rfl (PE.lss rfl rfl) rfl ?_
    refine sy_dn ?_
    refine sy_nx ?_
    refine sy_cond rfl (fun hc2 => ?_) (fun hc2 => ?_)
    ·
     refine sy_tx' [0, 1, 2, 3, 4] rfl ?_
     refine sy_sq ?_
     refine sp rfl (PE.fieldAddr fo23_1 rfl) rfl ?_
     refine sy_sq ?_
     refine spL rfl rfl (lh sc3 rfl rfl) rfl ?_
     refine sy_sq ?_
     refine sp rfl (PE.add rfl rfl (by omega)) rfl ?_
     refine sy_sq ?_
     refine sp rfl (PE.fieldAddr fo23_1 rfl) rfl ?_
     refine sy_sq ?_
     refine sto rfl rfl rfl cn3 rfl rfl rfl rfl ?_
     refine sy_sn ?_
     refine sy_nx ?_
     refine sy_seq ?_
     refine sy_tx' [0, 1] rfl ?_
     refine sy_sq ?_
     refine spL rfl rfl (lhA [_, _, _] ag23 rfl rfl rfl) rfl ?_
     refine sy_sq ?_
     refine sto rfl rfl rfl cn23 rfl rfl rfl rfl ?_
     refine sy_sn ?_
     refine sy_nx ?_
     refine sy_ret ?_
     exact sy_return (vs := [_]) rfl (.cons (RV.cell rfl (lhA [_, _, _] ag23 rfl rfl rfl)) .nil) rfl ⟨by simp only [retV, Twn.next, hc2, cond_true, cond_false], rfl, rfl⟩ (fun _ h => by repeat first | exact h | replace h := St.tail h | replace h := St.ftail h | replace h := St.drop h)
    ·
     refine sy_skip ?_
     refine sy_nx ?_
     refine sy_seq ?_
     refine sy_tx' [0, 1] rfl ?_
     refine sy_sq ?_
     refine spL rfl rfl (lhA [_, _, _] ag23 rfl rfl rfl) rfl ?_
     refine sy_sq ?_
     refine sto rfl rfl rfl cn23 rfl rfl rfl rfl ?_
     refine sy_sn ?_
     refine sy_nx ?_
     refine sy_ret ?_
     exact sy_return (vs := [_]) rfl (.cons (RV.cell rfl (lhA [_, _, _] ag23 rfl rfl rfl)) .nil) rfl ⟨by simp only [retV, Twn.next, hc2, cond_true, cond_false], rfl, rfl⟩ (fun _ h => by repeat first | exact h | replace h := St.tail h | replace h := St.ftail h | replace h := St.drop h)
   ·
    subst hc1
    refine sy_skip ?_
    refine sy_nx ?_
    refine sy_seq ?_
    refine sy_seq ?_
    refine sy_draw [0, 1, 0, 7, 15, 31, 0, 64, 255] (.tk 0 (.ld 1 (.tk 2 (.tk 3 (.tk 4 (.ld 5 (.tk 6 (.ld 7 (.tk 8 .done))))))))) mixed (by kernel_rfl) ?_
    refine tk rfl (PE.fieldAddr fo26_8 rfl) rfl ?_
    refine ld rfl rfl (lh sc24 rfl rfl) rfl ?_
    refine tk rfl (PE.move rfl) rfl ?_
    refine tk rfl (PE.indexAddr el24 rfl rfl (by omega) (by omega)) rfl ?_
    refine tk rfl (PE.fieldAddr fo91_0 rfl) rfl ?_
    refine ld rfl rfl (lf sc3 (rr_get hq) rfl) rfl ?_
    refine tk rfl (PE.fieldAddr fo26_2 rfl) rfl ?_
    refine ld rfl rfl (lh sc3 rfl rfl) rfl ?_
    refine tk rfl (PE.lss rfl rfl) rfl ?_
    refine sy_dn ?_
    refine sy_nx ?_
    refine sy_cond rfl (fun hc2 => ?_) (fun hc2 => ?_)
    ·
     refine sy_tx' [0, 1, 2, 3, 4] rfl ?_
     refine sy_sq ?_
     refine sp rfl (PE.fieldAddr fo23_1 rfl) rfl ?_
     refine sy_sq ?_
     refine spL rfl rfl (lh sc3 rfl rfl) rfl ?_
     refine sy_sq ?_
     refine sp rfl (PE.add rfl rfl (by omega)) rfl ?_
     refine sy_sq ?_
     refine sp rfl (PE.fieldAddr fo23_1 rfl) rfl ?_
     refine sy_sq ?_
     refine sto rfl rfl rfl cn3 rfl rfl rfl rfl ?_
     refine sy_sn ?_
     refine sy_nx ?_
     refine sy_seq ?_
     refine sy_tx' [0, 1] rfl ?_
     refine sy_sq ?_
     refine spL rfl rfl (lhA [_, _, _] ag23 rfl rfl rfl) rfl ?_
     refine sy_sq ?_
     refine sto rfl rfl rfl cn23 rfl rfl rfl rfl ?_
     refine sy_sn ?_
     refine sy_nx ?_
     refine sy_ret ?_
     exact sy_return (vs := [_]) rfl (.cons (RV.cell rfl (lhA [_, _, _] ag23 rfl rfl rfl)) .nil) rfl ⟨by simp only [retV, Twn.next, hc2, cond_true, cond_false], rfl, rfl⟩ (fun _ h => by repeat first | exact h | replace h := St.tail h | replace h := St.ftail h | replace h := St.drop h)
    ·
     refine sy_skip ?_
     refine sy_nx ?_
     refine sy_seq ?_
     refine sy_tx' [0, 1] rfl ?_
     refine sy_sq ?_
     refine spL rfl rfl (lhA [_, _, _] ag23 rfl rfl rfl) rfl ?_
     refine sy_sq ?_
     refine sto rfl rfl rfl cn23 rfl rfl rfl rfl ?_
     refine sy_sn ?_
     refine sy_nx ?_
     refine sy_ret ?_
     exact sy_return (vs := [_]) rfl (.cons (RV.cell rfl (lhA [_, _, _] ag23 rfl rfl rfl)) .nil) rfl ⟨by simp only [retV, Twn.next, hc2, cond_true, cond_false], rfl, rfl⟩ (fun _ h => by repeat first | exact h | replace h := St.tail h | replace h := St.ftail h | replace h := St.drop h)
  ·
   simp only [decide_eq_true_eq, decide_eq_false_iff_not, Bool.and_eq_true, Bool.or_eq_true, Bool.not_eq_true', Int.not_le, Int.not_lt] at hc0
   have hl : s.stock - q.sacks - (s.stock - q.sacks) * t.rot / 10 = leftOf t s q := by unfold leftOf; omega
   refine sy_skip ?_
   refine sy_nx ?_
   refine sy_seq ?_
   refine sy_tx' [0, 1, 2] rfl ?_
   refine sy_sq ?_
   rw [hl]
   have hlb : 0 ≤ leftOf t s q ∧ leftOf t s q ≤ 30 := by rw [← hl]; omega
   refine sp rfl (PE.build (out := [_, _, _]) pl23 zl23 rfl rfl) rfl ?_
   refine sy_sq ?_
   refine alc rfl zl23 rfl (fun b10 => ?_)
   refine sy_sq ?_
   refine sto rfl rfl rfl cn23 rfl rfl rfl rfl ?_
   refine sy_sn ?_
   refine sy_nx ?_
   refine sy_seq ?_
   refine sy_seq ?_
   refine sy_tx' [0, 1, 2, 3, 4, 5, 6, 7, 8] rfl ?_
   refine sy_sq ?_
   refine sp rfl (PE.fieldAddr fo26_1 rfl) rfl ?_
   refine sy_sq ?_
   refine spL rfl rfl (lh sc3 rfl rfl) rfl ?_
   refine sy_sq ?_
   refine sp rfl (PE.move rfl) rfl ?_
   refine sy_sq ?_
   refine sp rfl (PE.fieldAddr fo26_5 rfl) rfl ?_
   refine sy_sq ?_
   refine spL rfl rfl (lh sc3 rfl rfl) rfl ?_
   refine sy_sq ?_
   refine sp rfl (PE.add rfl rfl (by omega)) rfl ?_
   refine sy_sq ?_
   refine sp rfl (PE.min rfl rfl) rfl ?_
   refine sy_sq ?_
   refine sp rfl (PE.fieldAddr fo23_0 rfl) rfl ?_
   refine sy_sq ?_
   refine sto rfl rfl rfl cn3 rfl rfl rfl rfl ?_
   refine sy_sn ?_
   refine sy_nx ?_
   refine sy_seq ?_
   refine sy_tx' [0] rfl ?_
   refine sy_sq ?_
   refine sp rfl (PE.move rfl) rfl ?_
   refine sy_sn ?_
   refine sy_nx ?_
   refine sy_cond rfl (fun hc1 => ?_) (fun hc1 => ?_)
   ·
    subst hc1
    refine sy_draw [0, 1, 0, 0, 8, 28, 63, 0, 128, 384, 127, 1151, 4095, 8191] (.tk 0 (.ld 1 (.tk 2 (.tk 3 (.ld 4 (.tk 5 (.tk 6 (.tk 7 (.ld 8 (.tk 9 (.tk 10 (.big 11 (.tk 12 (.big 13 .done)))))))))))))) mixed (by kernel_rfl) ?_
    refine tk rfl (PE.fieldAddr fo26_1 rfl) rfl ?_
    refine ld rfl rfl (lh sc3 rfl rfl) rfl ?_
    refine tk rfl (PE.move rfl) rfl ?_
    refine tk rfl (PE.fieldAddr fo26_6 rfl) rfl ?_
    refine ld rfl rfl (lh sc3 rfl rfl) rfl ?_
    refine tk rfl (PE.add rfl rfl (by omega)) rfl ?_
    refine tk rfl (PE.min rfl rfl) rfl ?_
    refine tk rfl (PE.fieldAddr fo23_2 rfl) rfl ?_
    refine ld rfl rfl (lh sc3 rfl rfl) rfl ?_
    refine tk rfl (PE.add rfl rfl (by omega)) rfl ?_
    refine tk rfl (PE.fieldAddr fo23_0 rfl) rfl ?_
    refine sy_bg ?_
    refine sto rfl rfl rfl cn3 rfl rfl rfl rfl ?_
    refine bg (fun w hs => ⟨(lh sc3 rfl rfl) w hs, trivial, trivial, trivial⟩) ?_
    refine tk rfl (PE.fieldAddr fo23_2 rfl) rfl ?_
    refine sy_bg ?_
    refine sto rfl rfl rfl cn3 rfl rfl rfl rfl ?_
    refine bg (fun w hs => ⟨trivial, trivial⟩) ?_
    refine sy_dn ?_
    refine sy_nx ?_
    refine sy_seq ?_
    refine sy_seq ?_
    refine sy_draw [0, 1, 0, 7, 15, 31, 0, 64, 255] (.tk 0 (.ld 1 (.tk 2 (.tk 3 (.tk 4 (.ld 5 (.tk 6 (.ld 7 (.tk 8 .done))))))))) mixed (by kernel_rfl) ?_
    refine tk rfl (PE.fieldAddr fo26_8 rfl) rfl ?_
    refine ld rfl rfl (lh sc24 rfl rfl) rfl ?_
    refine tk rfl (PE.move rfl) rfl ?_
    refine tk rfl (PE.indexAddr el24 rfl rfl (by omega) (by omega)) rfl ?_
    refine tk rfl (PE.fieldAddr fo91_0 rfl) rfl ?_
    refine ld rfl rfl (lf sc3 (rr_get hq) rfl) rfl ?_
    refine tk rfl (PE.fieldAddr fo26_2 rfl) rfl ?_
    refine ld rfl rfl (lh sc3 rfl rfl) rfl ?_
    refine tk rfl (PE.lss rfl rfl) rfl ?_
    refine sy_dn ?_
    refine sy_nx ?_
    refine sy_cond rfl (fun hc2 => ?_) (fun hc2 => ?_)
    ·
     refine sy_tx' [0, 1, 2, 3, 4] rfl ?_
     refine sy_sq ?_
     refine sp rfl (PE.fieldAddr fo23_1 rfl) rfl ?_
     refine sy_sq ?_
     refine spL rfl rfl (lh sc3 rfl rfl) rfl ?_
     refine sy_sq ?_
     refine sp rfl (PE.add rfl rfl (by omega)) rfl ?_
     refine sy_sq ?_
     refine sp rfl (PE.fieldAddr fo23_1 rfl) rfl ?_
     refine sy_sq ?_
     refine sto rfl rfl rfl cn3 rfl rfl rfl rfl ?_
     refine sy_sn ?_
     refine sy_nx ?_
     refine sy_seq ?_
     refine sy_tx' [0, 1] rfl ?_
     refine sy_sq ?_
     refine spL rfl rfl (lhA [_, _, _] ag23 rfl rfl rfl) rfl ?_
     refine sy_sq ?_
     refine sto rfl rfl rfl cn23 rfl rfl rfl rfl ?_
     refine sy_sn ?_
     refine sy_nx ?_
     refine sy_ret ?_
     exact sy_return (vs := [_]) rfl (.cons (RV.cell rfl (lhA [_, _, _] ag23 rfl rfl rfl)) .nil) rfl ⟨by simp only [retV, Twn.next, hc2, cond_true, cond_false], rfl, rfl⟩ (fun _ h => by repeat first | exact h | replace h := St.tail h | replace h := St.ftail h | replace h := St.drop h)
    ·
     refine sy_skip ?_
     refine sy_nx ?_
     refine sy_seq ?_
     refine sy_tx' [0, 1] rfl ?_
     refine sy_sq ?_
     refine spL rfl rfl (lhA [_, _, _] ag23 rfl rfl rfl) rfl ?_
     refine sy_sq ?_
     refine sto rfl rfl rfl cn23 rfl rfl rfl rfl ?_
     refine sy_sn ?_
     refine sy_nx ?_
     refine sy_ret ?_
     exact sy_return (vs := [_]) rfl (.cons (RV.cell rfl (lhA [_, _, _] ag23 rfl rfl rfl)) .nil) rfl ⟨by simp only [retV, Twn.next, hc2, cond_true, cond_false], rfl, rfl⟩ (fun _ h => by repeat first | exact h | replace h := St.tail h | replace h := St.ftail h | replace h := St.drop h)
   ·
    subst hc1
    refine sy_skip ?_
    refine sy_nx ?_
    refine sy_seq ?_
    refine sy_seq ?_
    refine sy_draw [0, 1, 0, 7, 15, 31, 0, 64, 255] (.tk 0 (.ld 1 (.tk 2 (.tk 3 (.tk 4 (.ld 5 (.tk 6 (.ld 7 (.tk 8 .done))))))))) mixed (by kernel_rfl) ?_
    refine tk rfl (PE.fieldAddr fo26_8 rfl) rfl ?_
    refine ld rfl rfl (lh sc24 rfl rfl) rfl ?_
    refine tk rfl (PE.move rfl) rfl ?_
    refine tk rfl (PE.indexAddr el24 rfl rfl (by omega) (by omega)) rfl ?_
    refine tk rfl (PE.fieldAddr fo91_0 rfl) rfl ?_
    refine ld rfl rfl (lf sc3 (rr_get hq) rfl) rfl ?_
    refine tk rfl (PE.fieldAddr fo26_2 rfl) rfl ?_
    refine ld rfl rfl (lh sc3 rfl rfl) rfl ?_
    refine tk rfl (PE.lss rfl rfl) rfl ?_
    refine sy_dn ?_
    refine sy_nx ?_
    refine sy_cond rfl (fun hc2 => ?_) (fun hc2 => ?_)
    ·
     refine sy_tx' [0, 1, 2, 3, 4] rfl ?_
     refine sy_sq ?_
     refine sp rfl (PE.fieldAddr fo23_1 rfl) rfl ?_
     refine sy_sq ?_
     refine spL rfl rfl (lh sc3 rfl rfl) rfl ?_
     refine sy_sq ?_
     refine sp rfl (PE.add rfl rfl (by omega)) rfl ?_
     refine sy_sq ?_
     refine sp rfl (PE.fieldAddr fo23_1 rfl) rfl ?_
     refine sy_sq ?_
     refine sto rfl rfl rfl cn3 rfl rfl rfl rfl ?_
     refine sy_sn ?_
     refine sy_nx ?_
     refine sy_seq ?_
     refine sy_tx' [0, 1] rfl ?_
     refine sy_sq ?_
     refine spL rfl rfl (lhA [_, _, _] ag23 rfl rfl rfl) rfl ?_
     refine sy_sq ?_
     refine sto rfl rfl rfl cn23 rfl rfl rfl rfl ?_
     refine sy_sn ?_
     refine sy_nx ?_
     refine sy_ret ?_
     exact sy_return (vs := [_]) rfl (.cons (RV.cell rfl (lhA [_, _, _] ag23 rfl rfl rfl)) .nil) rfl ⟨by simp only [retV, Twn.next, hc2, cond_true, cond_false], rfl, rfl⟩ (fun _ h => by repeat first | exact h | replace h := St.tail h | replace h := St.ftail h | replace h := St.drop h)
    ·
     refine sy_skip ?_
     refine sy_nx ?_
     refine sy_seq ?_
     refine sy_tx' [0, 1] rfl ?_
     refine sy_sq ?_
     refine spL rfl rfl (lhA [_, _, _] ag23 rfl rfl rfl) rfl ?_
     refine sy_sq ?_
     refine sto rfl rfl rfl cn23 rfl rfl rfl rfl ?_
     refine sy_sn ?_
     refine sy_nx ?_
     refine sy_ret ?_
     exact sy_return (vs := [_]) rfl (.cons (RV.cell rfl (lhA [_, _, _] ag23 rfl rfl rfl)) .nil) rfl ⟨by simp only [retV, Twn.next, hc2, cond_true, cond_false], rfl, rfl⟩ (fun _ h => by repeat first | exact h | replace h := St.tail h | replace h := St.ftail h | replace h := St.drop h)
end Go.Proofs.Ytaldphhdkmchhaa
