/- Walks of the functions of the program: what each returns and leaves in memory, under the conditions that its theorem names. -/
import Derived.Test.YtaldphhdkmchhaaTy
import Derived.Test.YtaldphhdkmchhaaMa
import Derived.Test.YtaldphhdkmchhaaWk11
import Derived.Test.YtaldphhdkmchhaaMi
namespace Go.Proofs.Ytaldphhdkmchhaa
set_option linter.unusedSimpArgs false
set_option linter.unusedVariables false
open Go
theorem ag129 : aggN Try.prog 129 = some 2 := by kernel_rfl
theorem ag34 : aggN Try.prog 34 = some 3 := by kernel_rfl
theorem ag37 : aggN Try.prog 37 = some 11 := by kernel_rfl
theorem ap82 : apT Try.prog 82 = some (34, 3, 24) := by kernel_rfl
theorem cal106 : cal Try.prog 106 = true := by kernel_rfl
theorem cal118 : cal Try.prog 118 = true := by kernel_rfl
theorem cal16 : cal Try.prog 16 = true := by kernel_rfl
theorem cal32 : cal Try.prog 32 = true := by kernel_rfl
theorem cal33 : cal Try.prog 33 = true := by kernel_rfl
theorem cal34 : cal Try.prog 34 = true := by kernel_rfl
theorem cal35 : cal Try.prog 35 = true := by kernel_rfl
theorem cal37 : cal Try.prog 37 = true := by kernel_rfl
theorem cal38 : cal Try.prog 38 = true := by kernel_rfl
theorem cal39 : cal Try.prog 39 = true := by kernel_rfl
theorem cal83 : cal Try.prog 83 = true := by kernel_rfl
theorem cn129 : cellN Try.prog 129 = some 2 := by kernel_rfl
theorem cn34 : cellN Try.prog 34 = some 3 := by kernel_rfl
theorem el35 : elN Try.prog 35 = some 2 := by kernel_rfl
theorem fo129_0 : fOff Try.prog 129 0 = some 0 := by kernel_rfl
theorem fo129_1 : fOff Try.prog 129 1 = some 1 := by kernel_rfl
theorem fo34_0 : fOff Try.prog 34 0 = some 0 := by kernel_rfl
theorem fo34_1 : fOff Try.prog 34 1 = some 1 := by kernel_rfl
theorem fo34_2 : fOff Try.prog 34 2 = some 2 := by kernel_rfl
theorem fo37_0 : fOff Try.prog 37 0 = some 0 := by kernel_rfl
theorem fo37_1 : fOff Try.prog 37 1 = some 3 := by kernel_rfl
theorem fo37_2 : fOff Try.prog 37 2 = some 4 := by kernel_rfl
theorem fo37_3 : fOff Try.prog 37 3 = some 5 := by kernel_rfl
theorem fo37_4 : fOff Try.prog 37 4 = some 6 := by kernel_rfl
theorem fo37_5 : fOff Try.prog 37 5 = some 7 := by kernel_rfl
theorem fo37_6 : fOff Try.prog 37 6 = some 8 := by kernel_rfl
theorem fo37_7 : fOff Try.prog 37 7 = some 9 := by kernel_rfl
theorem fo37_8 : fOff Try.prog 37 8 = some 10 := by kernel_rfl
theorem isl35 : isSl Try.prog 35 = true := by kernel_rfl
theorem pl34 : placeL Try.prog 34 = some [(0, 1), (1, 1), (2, 1)] := by kernel_rfl
theorem sc35 : scal Try.prog 35 = true := by kernel_rfl
theorem sl82 : slE Try.prog 82 = some (34, 3) := by kernel_rfl
theorem ub4 : Try.prog.underlying 4 = some .bool := by kernel_rfl
theorem zl129 : zeroL Try.prog 129 = some ([.int .i64 0, .int .i64 0]) := by kernel_rfl
theorem zl34 : zeroL Try.prog 34 = some ([.int .i64 0, .int .i64 0, .int .i64 0]) := by kernel_rfl
theorem c_rRight (t : Twn) (s : Sta) (sl : Value) (H : Heap) (R : Facts) :
    FnV Try.prog 39 [t.v sl, s.v] H R (.bool (s.right t)) := by
  refine fn_of Try.func39 rfl Try.ntmps39 rfl ?_
  refine sy_seq ?_
  refine sy_tx' [0, 1, 2] rfl ?_
  refine sy_sq ?_
  refine bx rfl rfl rfl (fun b2 => ?_)
  refine sy_sq ?_
  refine bx rfl rfl rfl (fun b3 => ?_)
  refine sy_sq ?_
  refine sp rfl (PE.assign rfl) rfl ?_
  refine sy_sn ?_
  refine sy_nx ?_
  refine sy_seq ?_
  refine sy_tx' [0, 1, 2, 3, 4, 5, 6, 7, 8, 9, 10, 11, 12, 13, 14, 15, 16, 17, 18, 19, 20, 21, 22] rfl ?_
  refine sy_sq ?_
  refine sp rfl (PE.fieldAddr fo34_0 rfl) rfl ?_
  refine sy_sq ?_
  refine spL rfl rfl (lh sc3 rfl rfl) rfl ?_
  refine sy_sq ?_
  refine sp rfl (PE.fieldAddr fo37_1 rfl) rfl ?_
  refine sy_sq ?_
  refine spL rfl rfl (lh sc3 rfl rfl) rfl ?_
  refine sy_sq ?_
  refine clV rfl cal83 rfl rfl (c_off _ _ _ _ _) ?_
  refine sy_sq ?_
  refine sp rfl (PE.not rfl) rfl ?_
  refine sy_sq ?_
  refine sp rfl (PE.move rfl) rfl ?_
  refine sy_sq ?_
  refine sy_case (t := 11) rfl (fun g11 => ?_) (fun g11 => ?_)
  ·
   refine spG rfl rfl rfl rfl (PE.fieldAddr fo34_1 rfl) rfl ?_
   refine sy_sq ?_
   refine spLG rfl rfl rfl rfl rfl (lh sc3 rfl rfl) rfl ?_
   refine sy_sq ?_
   refine spG rfl rfl rfl rfl (PE.fieldAddr fo37_3 rfl) rfl ?_
   refine sy_sq ?_
   refine spLG rfl rfl rfl rfl rfl (lh sc3 rfl rfl) rfl ?_
   refine sy_sq ?_
   refine clVG rfl rfl rfl rfl cal83 rfl rfl (c_off _ _ _ _ _) ?_
   refine sy_sq ?_
   refine spG rfl rfl rfl rfl (PE.not rfl) rfl ?_
   refine sy_sq ?_
   refine sp rfl (PE.pick rfl rfl rfl) rfl ?_
   refine sy_sq ?_
   refine sp rfl (PE.move rfl) rfl ?_
   refine sy_sq ?_
   refine sy_case (t := 19) rfl (fun g19 => ?_) (fun g19 => ?_)
   ·
    refine spG rfl rfl rfl rfl (PE.fieldAddr fo34_2 rfl) rfl ?_
    refine sy_sq ?_
    refine spLG rfl rfl rfl rfl rfl (lh sc3 rfl rfl) rfl ?_
    refine sy_sq ?_
    refine spG rfl rfl rfl rfl (PE.fieldAddr fo37_4 rfl) rfl ?_
    refine sy_sq ?_
    refine spLG rfl rfl rfl rfl rfl (lh sc3 rfl rfl) rfl ?_
    refine sy_sq ?_
    refine clVG rfl rfl rfl rfl cal83 rfl rfl (c_off _ _ _ _ _) ?_
    refine sy_sq ?_
    refine spG rfl rfl rfl rfl (PE.not rfl) rfl ?_
    refine sy_sq ?_
    refine sp rfl (PE.pick rfl rfl rfl) rfl ?_
    refine sy_sq ?_
    refine sp rfl (PE.assign rfl) rfl ?_
    refine sy_sn ?_
    refine sy_nx ?_
    refine sy_ret ?_
    exact sy_return (vs := [_]) rfl (.cons (RV.tmp rfl) .nil) rfl ⟨by simp_all only [retV, Sta.right, Bool.not_not, Bool.not_eq_true', Bool.not_eq_false', Bool.true_and, Bool.false_and, cond_true, cond_false], rfl, rfl⟩ (fun _ h => by repeat first | exact h | replace h := St.tail h | replace h := St.ftail h | replace h := St.drop h)
   ·
    refine spN rfl rfl rfl rfl rfl rfl rfl rfl ?_
    refine sy_sq ?_
    refine spN rfl rfl rfl rfl rfl rfl rfl rfl ?_
    refine sy_sq ?_
    refine spN rfl rfl rfl rfl rfl rfl rfl rfl ?_
    refine sy_sq ?_
    refine spN rfl rfl rfl rfl rfl rfl rfl rfl ?_
    refine sy_sq ?_
    refine spN rfl rfl rfl rfl rfl rfl rfl rfl ?_
    refine sy_sq ?_
    refine spN rfl rfl rfl rfl rfl rfl rfl rfl ?_
    refine sy_sq ?_
    refine sp rfl (PE.pick rfl rfl rfl) rfl ?_
    refine sy_sq ?_
    refine sp rfl (PE.assign rfl) rfl ?_
    refine sy_sn ?_
    refine sy_nx ?_
    refine sy_ret ?_
    exact sy_return (vs := [_]) rfl (.cons (RV.tmp rfl) .nil) rfl ⟨by simp_all only [retV, Sta.right, Bool.not_not, Bool.not_eq_true', Bool.not_eq_false', Bool.true_and, Bool.false_and, cond_true, cond_false], rfl, rfl⟩ (fun _ h => by repeat first | exact h | replace h := St.tail h | replace h := St.ftail h | replace h := St.drop h)
  ·
   refine spN rfl rfl rfl rfl rfl rfl rfl rfl ?_
   refine sy_sq ?_
   refine spN rfl rfl rfl rfl rfl rfl rfl rfl ?_
   refine sy_sq ?_
   refine spN rfl rfl rfl rfl rfl rfl rfl rfl ?_
   refine sy_sq ?_
   refine spN rfl rfl rfl rfl rfl rfl rfl rfl ?_
   refine sy_sq ?_
   refine spN rfl rfl rfl rfl rfl rfl rfl rfl ?_
   refine sy_sq ?_
   refine spN rfl rfl rfl rfl rfl rfl rfl rfl ?_
   refine sy_sq ?_
   refine sp rfl (PE.pick rfl rfl rfl) rfl ?_
   refine sy_sq ?_
   refine sp rfl (PE.move rfl) rfl ?_
   refine sy_sq ?_
   refine spN rfl rfl rfl rfl rfl rfl rfl rfl ?_
   refine sy_sq ?_
   refine spN rfl rfl rfl rfl rfl rfl rfl rfl ?_
   refine sy_sq ?_
   refine spN rfl rfl rfl rfl rfl rfl rfl rfl ?_
   refine sy_sq ?_
   refine spN rfl rfl rfl rfl rfl rfl rfl rfl ?_
   refine sy_sq ?_
   refine spN rfl rfl rfl rfl rfl rfl rfl rfl ?_
   refine sy_sq ?_
   refine spN rfl rfl rfl rfl rfl rfl rfl rfl ?_
   refine sy_sq ?_
   refine sp rfl (PE.pick rfl rfl rfl) rfl ?_
   refine sy_sq ?_
   refine sp rfl (PE.assign rfl) rfl ?_
   refine sy_sn ?_
   refine sy_nx ?_
   refine sy_ret ?_
   exact sy_return (vs := [_]) rfl (.cons (RV.tmp rfl) .nil) rfl ⟨by simp_all only [retV, Sta.right, Bool.not_not, Bool.not_eq_true', Bool.not_eq_false', Bool.true_and, Bool.false_and, cond_true, cond_false], rfl, rfl⟩ (fun _ h => by repeat first | exact h | replace h := St.tail h | replace h := St.ftail h | replace h := St.drop h)

theorem c_rCheck (t : Twn) (a : Option Addr) (c : Nat) (hl : t.rats.length ≤ 9223372036854775807) (H : Heap) (R : Facts) [hR : MemRows a 2 (rrows t.rats) R] :
    FnV Try.prog 20 [t.v (t.sl a c)] H R (.int .i64 t.check) := by
  refine fn_of Try.func20 rfl Try.ntmps20 rfl ?_
  refine sy_seq ?_
  refine sy_tx' [0, 1] rfl ?_
  refine sy_sq ?_
  refine bx rfl rfl rfl (fun b1 => ?_)
  refine sy_sq ?_
  refine sp rfl (PE.assign rfl) rfl ?_
  refine sy_sn ?_
  refine sy_nx ?_
  refine sy_seq ?_
  refine sy_seq ?_
  refine sy_tx' [0, 1, 2, 3] rfl ?_
  refine sy_sq ?_
  refine sp rfl (PE.fieldAddr fo37_8 rfl) rfl ?_
  refine sy_sq ?_
  refine spL rfl rfl (lh sc35 rfl rfl) rfl ?_
  refine sy_sq ?_
  refine sp rfl (PE.lenSl isl35 rfl) rfl ?_
  refine sy_sq ?_
  refine clV rfl cal83 rfl rfl (c_off _ _ _ _ _) ?_
  refine sy_sn ?_
  refine sy_nx ?_
  refine sy_cond rfl (fun hc0 => ?_) (fun hc0 => ?_)
  ·
   refine sy_seq ?_
   refine sy_tx' [0] rfl ?_
   refine sy_sq ?_
   refine sp rfl (PE.assign rfl) rfl ?_
   refine sy_sn ?_
   refine sy_nx ?_
   refine sy_ret ?_
   refine sy_tr ?_
   exact sy_return (vs := [_]) rfl (.cons (RV.tmp rfl) .nil) rfl ⟨congrArg (Value.int .i64) (by first | exact hres.symm | (rw [hck1, hbad]; rfl) | simp_all only [Twn.check, inb, List.all_cons, List.all_nil, Bool.and_true, cond_true, cond_false, Bool.not_true, Bool.not_false, Bool.not_eq_true', Bool.not_eq_false', Bool.and_self, Bool.false_and, Bool.and_false, Bool.true_and]), rfl, rfl⟩ (fun _ h => by repeat first | exact h | replace h := St.tail h | replace h := St.ftail h | replace h := St.drop h)
  ·
   refine sy_skip ?_
   refine sy_nx ?_
   refine sy_seq ?_
   refine sy_seq ?_
   refine sy_tx' [0, 1, 2, 3, 4, 5, 6, 7, 8, 9, 10, 11, 12, 13, 14, 15, 16, 17, 18, 19, 20, 21, 22, 23, 24, 25, 26, 27, 28, 29, 30, 31, 32, 33, 34, 35, 36, 37, 38, 39] rfl ?_
   refine sy_sq ?_
   refine sp rfl (PE.fieldAddr fo37_1 rfl) rfl ?_
   refine sy_sq ?_
   refine spL rfl rfl (lh sc3 rfl rfl) rfl ?_
   refine sy_sq ?_
   refine clV rfl cal83 rfl rfl (c_off _ _ _ _ _) ?_
   refine sy_sq ?_
   refine sp rfl (PE.move rfl) rfl ?_
   refine sy_sq ?_
   refine sy_case (t := 12) rfl (fun g12 => ?_) (fun g12 => ?_)
   ·
    refine spN rfl rfl rfl rfl rfl rfl rfl rfl ?_
    refine sy_sq ?_
    refine spN rfl rfl rfl rfl rfl rfl rfl rfl ?_
    refine sy_sq ?_
    refine spN rfl rfl rfl rfl rfl rfl rfl rfl ?_
    refine sy_sq ?_
    refine sp rfl (PE.pick rfl rfl rfl) rfl ?_
    refine sy_sq ?_
    refine sp rfl (PE.move rfl) rfl ?_
    refine sy_sq ?_
    refine spN rfl rfl rfl rfl rfl rfl rfl rfl ?_
    refine sy_sq ?_
    refine spN rfl rfl rfl rfl rfl rfl rfl rfl ?_
    refine sy_sq ?_
    refine spN rfl rfl rfl rfl rfl rfl rfl rfl ?_
    refine sy_sq ?_
    refine sp rfl (PE.pick rfl rfl rfl) rfl ?_
    refine sy_sq ?_
    refine sp rfl (PE.move rfl) rfl ?_
    refine sy_sq ?_
    refine spN rfl rfl rfl rfl rfl rfl rfl rfl ?_
    refine sy_sq ?_
    refine spN rfl rfl rfl rfl rfl rfl rfl rfl ?_
    refine sy_sq ?_
    refine spN rfl rfl rfl rfl rfl rfl rfl rfl ?_
    refine sy_sq ?_
    refine sp rfl (PE.pick rfl rfl rfl) rfl ?_
    refine sy_sq ?_
    refine sp rfl (PE.move rfl) rfl ?_
    refine sy_sq ?_
    refine spN rfl rfl rfl rfl rfl rfl rfl rfl ?_
    refine sy_sq ?_
    refine spN rfl rfl rfl rfl rfl rfl rfl rfl ?_
    refine sy_sq ?_
    refine spN rfl rfl rfl rfl rfl rfl rfl rfl ?_
    refine sy_sq ?_
    refine sp rfl (PE.pick rfl rfl rfl) rfl ?_
    refine sy_sq ?_
    refine sp rfl (PE.move rfl) rfl ?_
    refine sy_sq ?_
    refine spN rfl rfl rfl rfl rfl rfl rfl rfl ?_
    refine sy_sq ?_
    refine spN rfl rfl rfl rfl rfl rfl rfl rfl ?_
    refine sy_sq ?_
    refine spN rfl rfl rfl rfl rfl rfl rfl rfl ?_
    refine sy_sq ?_
    refine sp rfl (PE.pick rfl rfl rfl) rfl ?_
    refine sy_sq ?_
    refine sp rfl (PE.move rfl) rfl ?_
    refine sy_sq ?_
    refine spN rfl rfl rfl rfl rfl rfl rfl rfl ?_
    refine sy_sq ?_
    refine spN rfl rfl rfl rfl rfl rfl rfl rfl ?_
    refine sy_sq ?_
    refine spN rfl rfl rfl rfl rfl rfl rfl rfl ?_
    refine sy_sq ?_
    refine sp rfl (PE.pick rfl rfl rfl) rfl ?_
    refine sy_sq ?_
    refine sp rfl (PE.move rfl) rfl ?_
    refine sy_sq ?_
    refine spN rfl rfl rfl rfl rfl rfl rfl rfl ?_
    refine sy_sq ?_
    refine spN rfl rfl rfl rfl rfl rfl rfl rfl ?_
    refine sy_sq ?_
    refine spN rfl rfl rfl rfl rfl rfl rfl rfl ?_
    refine sy_sq ?_
    refine spN rfl rfl rfl rfl rfl rfl rfl rfl ?_
    refine sy_sq ?_
    refine spN rfl rfl rfl rfl rfl rfl rfl rfl ?_
    refine sy_sq ?_
    refine sp rfl (PE.pick rfl rfl rfl) rfl ?_
    refine sy_sn ?_
    refine sy_nx ?_
    refine sy_condT rfl ?_
    refine sy_seq ?_
    refine sy_tx' [0] rfl ?_
    refine sy_sq ?_
    refine sp rfl (PE.assign rfl) rfl ?_
    refine sy_sn ?_
    refine sy_nx ?_
    refine sy_ret ?_
    refine sy_tr ?_
    exact sy_return (vs := [_]) rfl (.cons (RV.tmp rfl) .nil) rfl ⟨congrArg (Value.int .i64) (by first | exact hres.symm | (rw [hck1, hbad]; rfl) | simp_all only [Twn.check, inb, List.all_cons, List.all_nil, Bool.and_true, cond_true, cond_false, Bool.not_true, Bool.not_false, Bool.not_eq_true', Bool.not_eq_false', Bool.and_self, Bool.false_and, Bool.and_false, Bool.true_and]), rfl, rfl⟩ (fun _ h => by repeat first | exact h | replace h := St.tail h | replace h := St.ftail h | replace h := St.drop h)
   ·
    refine spG rfl rfl rfl rfl (PE.fieldAddr fo37_2 rfl) rfl ?_
    refine sy_sq ?_
    refine spLG rfl rfl rfl rfl rfl (lh sc3 rfl rfl) rfl ?_
    refine sy_sq ?_
    refine clVG rfl rfl rfl rfl cal83 rfl rfl (c_off _ _ _ _ _) ?_
    refine sy_sq ?_
    refine sp rfl (PE.pick rfl rfl rfl) rfl ?_
    refine sy_sq ?_
    refine sp rfl (PE.move rfl) rfl ?_
    refine sy_sq ?_
    refine sy_case (t := 17) rfl (fun g17 => ?_) (fun g17 => ?_)
    ·
     refine spN rfl rfl rfl rfl rfl rfl rfl rfl ?_
     refine sy_sq ?_
     refine spN rfl rfl rfl rfl rfl rfl rfl rfl ?_
     refine sy_sq ?_
     refine spN rfl rfl rfl rfl rfl rfl rfl rfl ?_
     refine sy_sq ?_
     refine sp rfl (PE.pick rfl rfl rfl) rfl ?_
     refine sy_sq ?_
     refine sp rfl (PE.move rfl) rfl ?_
     refine sy_sq ?_
     refine spN rfl rfl rfl rfl rfl rfl rfl rfl ?_
     refine sy_sq ?_
     refine spN rfl rfl rfl rfl rfl rfl rfl rfl ?_
     refine sy_sq ?_
     refine spN rfl rfl rfl rfl rfl rfl rfl rfl ?_
     refine sy_sq ?_
     refine sp rfl (PE.pick rfl rfl rfl) rfl ?_
     refine sy_sq ?_
     refine sp rfl (PE.move rfl) rfl ?_
     refine sy_sq ?_
     refine spN rfl rfl rfl rfl rfl rfl rfl rfl ?_
     refine sy_sq ?_
     refine spN rfl rfl rfl rfl rfl rfl rfl rfl ?_
     refine sy_sq ?_
     refine spN rfl rfl rfl rfl rfl rfl rfl rfl ?_
     refine sy_sq ?_
     refine sp rfl (PE.pick rfl rfl rfl) rfl ?_
     refine sy_sq ?_
     refine sp rfl (PE.move rfl) rfl ?_
     refine sy_sq ?_
     refine spN rfl rfl rfl rfl rfl rfl rfl rfl ?_
     refine sy_sq ?_
     refine spN rfl rfl rfl rfl rfl rfl rfl rfl ?_
     refine sy_sq ?_
     refine spN rfl rfl rfl rfl rfl rfl rfl rfl ?_
     refine sy_sq ?_
     refine sp rfl (PE.pick rfl rfl rfl) rfl ?_
     refine sy_sq ?_
     refine sp rfl (PE.move rfl) rfl ?_
     refine sy_sq ?_
     refine spN rfl rfl rfl rfl rfl rfl rfl rfl ?_
     refine sy_sq ?_
     refine spN rfl rfl rfl rfl rfl rfl rfl rfl ?_
     refine sy_sq ?_
     refine spN rfl rfl rfl rfl rfl rfl rfl rfl ?_
     refine sy_sq ?_
     refine sp rfl (PE.pick rfl rfl rfl) rfl ?_
     refine sy_sq ?_
     refine sp rfl (PE.move rfl) rfl ?_
     refine sy_sq ?_
     refine spN rfl rfl rfl rfl rfl rfl rfl rfl ?_
     refine sy_sq ?_
     refine spN rfl rfl rfl rfl rfl rfl rfl rfl ?_
     refine sy_sq ?_
     refine spN rfl rfl rfl rfl rfl rfl rfl rfl ?_
     refine sy_sq ?_
     refine spN rfl rfl rfl rfl rfl rfl rfl rfl ?_
     refine sy_sq ?_
     refine spN rfl rfl rfl rfl rfl rfl rfl rfl ?_
     refine sy_sq ?_
     refine sp rfl (PE.pick rfl rfl rfl) rfl ?_
     refine sy_sn ?_
     refine sy_nx ?_
     refine sy_condT rfl ?_
     refine sy_seq ?_
     refine sy_tx' [0] rfl ?_
     refine sy_sq ?_
     refine sp rfl (PE.assign rfl) rfl ?_
     refine sy_sn ?_
     refine sy_nx ?_
     refine sy_ret ?_
     refine sy_tr ?_
     exact sy_return (vs := [_]) rfl (.cons (RV.tmp rfl) .nil) rfl ⟨congrArg (Value.int .i64) (by first | exact hres.symm | (rw [hck1, hbad]; rfl) | simp_all only [Twn.check, inb, List.all_cons, List.all_nil, Bool.and_true, cond_true, cond_false, Bool.not_true, Bool.not_false, Bool.not_eq_true', Bool.not_eq_false', Bool.and_self, Bool.false_and, Bool.and_false, Bool.true_and]), rfl, rfl⟩ (fun _ h => by repeat first | exact h | replace h := St.tail h | replace h := St.ftail h | replace h := St.drop h)
    ·
     refine spG rfl rfl rfl rfl (PE.fieldAddr fo37_5 rfl) rfl ?_
     refine sy_sq ?_
     refine spLG rfl rfl rfl rfl rfl (lh sc3 rfl rfl) rfl ?_
     refine sy_sq ?_
     refine clVG rfl rfl rfl rfl cal83 rfl rfl (c_off _ _ _ _ _) ?_
     refine sy_sq ?_
     refine sp rfl (PE.pick rfl rfl rfl) rfl ?_
     refine sy_sq ?_
     refine sp rfl (PE.move rfl) rfl ?_
     refine sy_sq ?_
     refine sy_case (t := 22) rfl (fun g22 => ?_) (fun g22 => ?_)
     ·
      refine spN rfl rfl rfl rfl rfl rfl rfl rfl ?_
      refine sy_sq ?_
      refine spN rfl rfl rfl rfl rfl rfl rfl rfl ?_
      refine sy_sq ?_
      refine spN rfl rfl rfl rfl rfl rfl rfl rfl ?_
      refine sy_sq ?_
      refine sp rfl (PE.pick rfl rfl rfl) rfl ?_
      refine sy_sq ?_
      refine sp rfl (PE.move rfl) rfl ?_
      refine sy_sq ?_
      refine spN rfl rfl rfl rfl rfl rfl rfl rfl ?_
      refine sy_sq ?_
      refine spN rfl rfl rfl rfl rfl rfl rfl rfl ?_
      refine sy_sq ?_
      refine spN rfl rfl rfl rfl rfl rfl rfl rfl ?_
      refine sy_sq ?_
      refine sp rfl (PE.pick rfl rfl rfl) rfl ?_
      refine sy_sq ?_
      refine sp rfl (PE.move rfl) rfl ?_
      refine sy_sq ?_
      refine spN rfl rfl rfl rfl rfl rfl rfl rfl ?_
      refine sy_sq ?_
      refine spN rfl rfl rfl rfl rfl rfl rfl rfl ?_
      refine sy_sq ?_
      refine spN rfl rfl rfl rfl rfl rfl rfl rfl ?_
      refine sy_sq ?_
      refine sp rfl (PE.pick rfl rfl rfl) rfl ?_
      refine sy_sq ?_
      refine sp rfl (PE.move rfl) rfl ?_
      refine sy_sq ?_
      refine spN rfl rfl rfl rfl rfl rfl rfl rfl ?_
      refine sy_sq ?_
      refine spN rfl rfl rfl rfl rfl rfl rfl rfl ?_
      refine sy_sq ?_
      refine spN rfl rfl rfl rfl rfl rfl rfl rfl ?_
      refine sy_sq ?_
      refine sp rfl (PE.pick rfl rfl rfl) rfl ?_
      refine sy_sq ?_
      refine sp rfl (PE.move rfl) rfl ?_
      refine sy_sq ?_
      refine spN rfl rfl rfl rfl rfl rfl rfl rfl ?_
      refine sy_sq ?_
      refine spN rfl rfl rfl rfl rfl rfl rfl rfl ?_
      refine sy_sq ?_
      refine spN rfl rfl rfl rfl rfl rfl rfl rfl ?_
      refine sy_sq ?_
      refine spN rfl rfl rfl rfl rfl rfl rfl rfl ?_
      refine sy_sq ?_
      refine spN rfl rfl rfl rfl rfl rfl rfl rfl ?_
      refine sy_sq ?_
      refine sp rfl (PE.pick rfl rfl rfl) rfl ?_
      refine sy_sn ?_
      refine sy_nx ?_
      refine sy_condT rfl ?_
      refine sy_seq ?_
      refine sy_tx' [0] rfl ?_
      refine sy_sq ?_
      refine sp rfl (PE.assign rfl) rfl ?_
      refine sy_sn ?_
      refine sy_nx ?_
      refine sy_ret ?_
      refine sy_tr ?_
      exact sy_return (vs := [_]) rfl (.cons (RV.tmp rfl) .nil) rfl ⟨congrArg (Value.int .i64) (by first | exact hres.symm | (rw [hck1, hbad]; rfl) | simp_all only [Twn.check, inb, List.all_cons, List.all_nil, Bool.and_true, cond_true, cond_false, Bool.not_true, Bool.not_false, Bool.not_eq_true', Bool.not_eq_false', Bool.and_self, Bool.false_and, Bool.and_false, Bool.true_and]), rfl, rfl⟩ (fun _ h => by repeat first | exact h | replace h := St.tail h | replace h := St.ftail h | replace h := St.drop h)
     ·
      refine spG rfl rfl rfl rfl (PE.fieldAddr fo37_6 rfl) rfl ?_
      refine sy_sq ?_
      refine spLG rfl rfl rfl rfl rfl (lh sc3 rfl rfl) rfl ?_
      refine sy_sq ?_
      refine clVG rfl rfl rfl rfl cal83 rfl rfl (c_off _ _ _ _ _) ?_
      refine sy_sq ?_
      refine sp rfl (PE.pick rfl rfl rfl) rfl ?_
      refine sy_sq ?_
      refine sp rfl (PE.move rfl) rfl ?_
      refine sy_sq ?_
      refine sy_case (t := 27) rfl (fun g27 => ?_) (fun g27 => ?_)
      ·
       refine spN rfl rfl rfl rfl rfl rfl rfl rfl ?_
       refine sy_sq ?_
       refine spN rfl rfl rfl rfl rfl rfl rfl rfl ?_
       refine sy_sq ?_
       refine spN rfl rfl rfl rfl rfl rfl rfl rfl ?_
       refine sy_sq ?_
       refine sp rfl (PE.pick rfl rfl rfl) rfl ?_
       refine sy_sq ?_
       refine sp rfl (PE.move rfl) rfl ?_
       refine sy_sq ?_
       refine spN rfl rfl rfl rfl rfl rfl rfl rfl ?_
       refine sy_sq ?_
       refine spN rfl rfl rfl rfl rfl rfl rfl rfl ?_
       refine sy_sq ?_
       refine spN rfl rfl rfl rfl rfl rfl rfl rfl ?_
       refine sy_sq ?_
       refine sp rfl (PE.pick rfl rfl rfl) rfl ?_
       refine sy_sq ?_
       refine sp rfl (PE.move rfl) rfl ?_
       refine sy_sq ?_
       refine spN rfl rfl rfl rfl rfl rfl rfl rfl ?_
       refine sy_sq ?_
       refine spN rfl rfl rfl rfl rfl rfl rfl rfl ?_
       refine sy_sq ?_
       refine spN rfl rfl rfl rfl rfl rfl rfl rfl ?_
       refine sy_sq ?_
       refine sp rfl (PE.pick rfl rfl rfl) rfl ?_
       refine sy_sq ?_
       refine sp rfl (PE.move rfl) rfl ?_
       refine sy_sq ?_
       refine spN rfl rfl rfl rfl rfl rfl rfl rfl ?_
       refine sy_sq ?_
       refine spN rfl rfl rfl rfl rfl rfl rfl rfl ?_
       refine sy_sq ?_
       refine spN rfl rfl rfl rfl rfl rfl rfl rfl ?_
       refine sy_sq ?_
       refine spN rfl rfl rfl rfl rfl rfl rfl rfl ?_
       refine sy_sq ?_
       refine spN rfl rfl rfl rfl rfl rfl rfl rfl ?_
       refine sy_sq ?_
       refine sp rfl (PE.pick rfl rfl rfl) rfl ?_
       refine sy_sn ?_
       refine sy_nx ?_
       refine sy_condT rfl ?_
       refine sy_seq ?_
       refine sy_tx' [0] rfl ?_
       refine sy_sq ?_
       refine sp rfl (PE.assign rfl) rfl ?_
       refine sy_sn ?_
       refine sy_nx ?_
       refine sy_ret ?_
       refine sy_tr ?_
       exact sy_return (vs := [_]) rfl (.cons (RV.tmp rfl) .nil) rfl ⟨congrArg (Value.int .i64) (by first | exact hres.symm | (rw [hck1, hbad]; rfl) | simp_all only [Twn.check, inb, List.all_cons, List.all_nil, Bool.and_true, cond_true, cond_false, Bool.not_true, Bool.not_false, Bool.not_eq_true', Bool.not_eq_false', Bool.and_self, Bool.false_and, Bool.and_false, Bool.true_and]), rfl, rfl⟩ (fun _ h => by repeat first | exact h | replace h := St.tail h | replace h := St.ftail h | replace h := St.drop h)
      ·
       refine spG rfl rfl rfl rfl (PE.fieldAddr fo37_3 rfl) rfl ?_
       refine sy_sq ?_
       refine spLG rfl rfl rfl rfl rfl (lh sc3 rfl rfl) rfl ?_
       refine sy_sq ?_
       refine clVG rfl rfl rfl rfl cal83 rfl rfl (c_off _ _ _ _ _) ?_
       refine sy_sq ?_
       refine sp rfl (PE.pick rfl rfl rfl) rfl ?_
       refine sy_sq ?_
       refine sp rfl (PE.move rfl) rfl ?_
       refine sy_sq ?_
       refine sy_case (t := 32) rfl (fun g32 => ?_) (fun g32 => ?_)
       ·
        refine spN rfl rfl rfl rfl rfl rfl rfl rfl ?_
        refine sy_sq ?_
        refine spN rfl rfl rfl rfl rfl rfl rfl rfl ?_
        refine sy_sq ?_
        refine spN rfl rfl rfl rfl rfl rfl rfl rfl ?_
        refine sy_sq ?_
        refine sp rfl (PE.pick rfl rfl rfl) rfl ?_
        refine sy_sq ?_
        refine sp rfl (PE.move rfl) rfl ?_
        refine sy_sq ?_
        refine spN rfl rfl rfl rfl rfl rfl rfl rfl ?_
        refine sy_sq ?_
        refine spN rfl rfl rfl rfl rfl rfl rfl rfl ?_
        refine sy_sq ?_
        refine spN rfl rfl rfl rfl rfl rfl rfl rfl ?_
        refine sy_sq ?_
        refine sp rfl (PE.pick rfl rfl rfl) rfl ?_
        refine sy_sq ?_
        refine sp rfl (PE.move rfl) rfl ?_
        refine sy_sq ?_
        refine spN rfl rfl rfl rfl rfl rfl rfl rfl ?_
        refine sy_sq ?_
        refine spN rfl rfl rfl rfl rfl rfl rfl rfl ?_
        refine sy_sq ?_
        refine spN rfl rfl rfl rfl rfl rfl rfl rfl ?_
        refine sy_sq ?_
        refine spN rfl rfl rfl rfl rfl rfl rfl rfl ?_
        refine sy_sq ?_
        refine spN rfl rfl rfl rfl rfl rfl rfl rfl ?_
        refine sy_sq ?_
        refine sp rfl (PE.pick rfl rfl rfl) rfl ?_
        refine sy_sn ?_
        refine sy_nx ?_
        refine sy_condT rfl ?_
        refine sy_seq ?_
        refine sy_tx' [0] rfl ?_
        refine sy_sq ?_
        refine sp rfl (PE.assign rfl) rfl ?_
        refine sy_sn ?_
        refine sy_nx ?_
        refine sy_ret ?_
        refine sy_tr ?_
        exact sy_return (vs := [_]) rfl (.cons (RV.tmp rfl) .nil) rfl ⟨congrArg (Value.int .i64) (by first | exact hres.symm | (rw [hck1, hbad]; rfl) | simp_all only [Twn.check, inb, List.all_cons, List.all_nil, Bool.and_true, cond_true, cond_false, Bool.not_true, Bool.not_false, Bool.not_eq_true', Bool.not_eq_false', Bool.and_self, Bool.false_and, Bool.and_false, Bool.true_and]), rfl, rfl⟩ (fun _ h => by repeat first | exact h | replace h := St.tail h | replace h := St.ftail h | replace h := St.drop h)
       ·
        refine spG rfl rfl rfl rfl (PE.fieldAddr fo37_4 rfl) rfl ?_
        refine sy_sq ?_
        refine spLG rfl rfl rfl rfl rfl (lh sc3 rfl rfl) rfl ?_
        refine sy_sq ?_
        refine clVG rfl rfl rfl rfl cal83 rfl rfl (c_off _ _ _ _ _) ?_
        refine sy_sq ?_
        refine sp rfl (PE.pick rfl rfl rfl) rfl ?_
        refine sy_sq ?_
        refine sp rfl (PE.move rfl) rfl ?_
        refine sy_sq ?_
        refine sy_case (t := 37) rfl (fun g37 => ?_) (fun g37 => ?_)
        ·
         refine spN rfl rfl rfl rfl rfl rfl rfl rfl ?_
         refine sy_sq ?_
         refine spN rfl rfl rfl rfl rfl rfl rfl rfl ?_
         refine sy_sq ?_
         refine spN rfl rfl rfl rfl rfl rfl rfl rfl ?_
         refine sy_sq ?_
         refine sp rfl (PE.pick rfl rfl rfl) rfl ?_
         refine sy_sq ?_
         refine sp rfl (PE.move rfl) rfl ?_
         refine sy_sq ?_
         refine spN rfl rfl rfl rfl rfl rfl rfl rfl ?_
         refine sy_sq ?_
         refine spN rfl rfl rfl rfl rfl rfl rfl rfl ?_
         refine sy_sq ?_
         refine spN rfl rfl rfl rfl rfl rfl rfl rfl ?_
         refine sy_sq ?_
         refine spN rfl rfl rfl rfl rfl rfl rfl rfl ?_
         refine sy_sq ?_
         refine spN rfl rfl rfl rfl rfl rfl rfl rfl ?_
         refine sy_sq ?_
         refine sp rfl (PE.pick rfl rfl rfl) rfl ?_
         refine sy_sn ?_
         refine sy_nx ?_
         refine sy_condT rfl ?_
         refine sy_seq ?_
         refine sy_tx' [0] rfl ?_
         refine sy_sq ?_
         refine sp rfl (PE.assign rfl) rfl ?_
         refine sy_sn ?_
         refine sy_nx ?_
         refine sy_ret ?_
         refine sy_tr ?_
         exact sy_return (vs := [_]) rfl (.cons (RV.tmp rfl) .nil) rfl ⟨congrArg (Value.int .i64) (by first | exact hres.symm | (rw [hck1, hbad]; rfl) | simp_all only [Twn.check, inb, List.all_cons, List.all_nil, Bool.and_true, cond_true, cond_false, Bool.not_true, Bool.not_false, Bool.not_eq_true', Bool.not_eq_false', Bool.and_self, Bool.false_and, Bool.and_false, Bool.true_and]), rfl, rfl⟩ (fun _ h => by repeat first | exact h | replace h := St.tail h | replace h := St.ftail h | replace h := St.drop h)
        ·
         refine spG rfl rfl rfl rfl (PE.fieldAddr fo37_7 rfl) rfl ?_
         refine sy_sq ?_
         refine spLG rfl rfl rfl rfl rfl (lh sc3 rfl rfl) rfl ?_
         refine sy_sq ?_
         refine clVG rfl rfl rfl rfl cal83 rfl rfl (c_off _ _ _ _ _) ?_
         refine sy_sq ?_
         refine sp rfl (PE.pick rfl rfl rfl) rfl ?_
         refine sy_sq ?_
         refine sp rfl (PE.move rfl) rfl ?_
         refine sy_sq ?_
         refine sy_case (t := 42) rfl (fun g42 => ?_) (fun g42 => ?_)
         ·
          refine spN rfl rfl rfl rfl rfl rfl rfl rfl ?_
          refine sy_sq ?_
          refine spN rfl rfl rfl rfl rfl rfl rfl rfl ?_
          refine sy_sq ?_
          refine spN rfl rfl rfl rfl rfl rfl rfl rfl ?_
          refine sy_sq ?_
          refine spN rfl rfl rfl rfl rfl rfl rfl rfl ?_
          refine sy_sq ?_
          refine spN rfl rfl rfl rfl rfl rfl rfl rfl ?_
          refine sy_sq ?_
          refine sp rfl (PE.pick rfl rfl rfl) rfl ?_
          refine sy_sn ?_
          refine sy_nx ?_
          refine sy_condT rfl ?_
          refine sy_seq ?_
          refine sy_tx' [0] rfl ?_
          refine sy_sq ?_
          refine sp rfl (PE.assign rfl) rfl ?_
          refine sy_sn ?_
          refine sy_nx ?_
          refine sy_ret ?_
          refine sy_tr ?_
          exact sy_return (vs := [_]) rfl (.cons (RV.tmp rfl) .nil) rfl ⟨congrArg (Value.int .i64) (by first | exact hres.symm | (rw [hck1, hbad]; rfl) | simp_all only [Twn.check, inb, List.all_cons, List.all_nil, Bool.and_true, cond_true, cond_false, Bool.not_true, Bool.not_false, Bool.not_eq_true', Bool.not_eq_false', Bool.and_self, Bool.false_and, Bool.and_false, Bool.true_and]), rfl, rfl⟩ (fun _ h => by repeat first | exact h | replace h := St.tail h | replace h := St.ftail h | replace h := St.drop h)
         ·
          refine spLG rfl rfl rfl rfl rfl (lhA [_, _, _, _, _, _, _, _, _, _, _] ag37 rfl rfl rfl) rfl ?_
          refine sy_sq ?_
          refine spG rfl rfl rfl rfl (PE.fieldAddr fo37_0 rfl) rfl ?_
          refine sy_sq ?_
          refine spLG rfl rfl rfl rfl rfl (lhA [_, _, _] ag34 rfl rfl rfl) rfl ?_
          refine sy_sq ?_
          refine clVG rfl rfl rfl rfl cal39 rfl rfl (c_rRight t t.now _ _ _) ?_
          refine sy_sq ?_
          refine spG rfl rfl rfl rfl (PE.not rfl) rfl ?_
          refine sy_sq ?_
          refine sp rfl (PE.pick rfl rfl rfl) rfl ?_
          refine sy_sn ?_
          refine sy_nx ?_
          refine sy_cond rfl (fun hc1 => ?_) (fun hc1 => ?_)
          ·
           refine sy_seq ?_
           refine sy_tx' [0] rfl ?_
           refine sy_sq ?_
           refine sp rfl (PE.assign rfl) rfl ?_
           refine sy_sn ?_
           refine sy_nx ?_
           refine sy_ret ?_
           refine sy_tr ?_
           exact sy_return (vs := [_]) rfl (.cons (RV.tmp rfl) .nil) rfl ⟨congrArg (Value.int .i64) (by first | exact hres.symm | (rw [hck1, hbad]; rfl) | simp_all only [Twn.check, inb, List.all_cons, List.all_nil, Bool.and_true, cond_true, cond_false, Bool.not_true, Bool.not_false, Bool.not_eq_true', Bool.not_eq_false', Bool.and_self, Bool.false_and, Bool.and_false, Bool.true_and]), rfl, rfl⟩ (fun _ h => by repeat first | exact h | replace h := St.tail h | replace h := St.ftail h | replace h := St.drop h)
          ·
           refine sy_skip ?_
           refine sy_nx ?_
           refine sy_seq ?_
           refine sy_seq ?_
           refine sy_tx' [0] rfl ?_
           refine sy_sq ?_
           refine sp rfl (PE.assign rfl) rfl ?_
           refine sy_sn ?_
           refine sy_nx ?_
           refine sy_block ?_
           have hlen : 1 ≤ t.rats.length := by
             simp only [inb, decide_eq_true_eq, decide_eq_false_iff_not, Bool.and_eq_true, Bool.or_eq_true, Bool.not_eq_true', Int.not_le, Int.not_lt, Bool.not_eq_false'] at hc0
             omega
           have hck1 : t.check = bif !(t.rats.all fun q => inb q.sacks 0 30 && inb q.price 0 100) then 3 else bif decide (t.good < t.bad) then 4 else bif (List.range t.rats.length).any (badAt t.rats) then 4 else 0 := by simp_all only [Twn.check, inb, List.all_cons, List.all_nil, Bool.and_true, cond_true, cond_false, Bool.not_true, Bool.not_false, Bool.not_eq_true', Bool.not_eq_false', Bool.and_self, Bool.false_and, Bool.and_false, Bool.true_and]
           refine sy_loop (ι := {k : Nat // k ≤ t.rats.length ∧ ∀ i q, i < k → t.rats[i]? = some q → (inb q.sacks 0 30 && inb q.price 0 100) = true}) (fun k => ⟨[(1, .pointer (some ⟨b1, 0, none⟩)), (3, .int .i64 k.1)], (b1, cel 37 (twl t (t.sl a c))) :: H, R⟩) (fun k => t.rats.length - k.1) ⟨0, by omega, by omega⟩ ?_ (fun k => ?_)
           ·
            exact sy_at (by repeat' first | exact Sub.nil | apply Sub.cons | rfl | (simp [lk]; omega)) (fun w h => by repeat first | exact h | replace h := St.ftail h)
           ·
            obtain ⟨k, hk2, hn⟩ := k
            dsimp only
            refine sy_seq ?_
            refine sy_seq ?_
            refine sy_tx' [0, 1, 2, 3, 4] rfl ?_
            refine sy_sq ?_
            refine sp rfl (PE.move rfl) rfl ?_
            refine sy_sq ?_
            refine sp rfl (PE.fieldAddr fo37_8 rfl) rfl ?_
            refine sy_sq ?_
            refine spL rfl rfl (lh sc35 rfl rfl) rfl ?_
            refine sy_sq ?_
            refine sp rfl (PE.lenSl isl35 rfl) rfl ?_
            refine sy_sq ?_
            refine sp rfl (PE.lss rfl rfl) rfl ?_
            refine sy_sn ?_
            refine sy_nx ?_
            refine sy_cond rfl (fun hc2 => ?_) (fun hc2 => ?_)
            ·
             try simp only [decide_eq_true_eq, decide_eq_false_iff_not, Bool.and_eq_true, Bool.or_eq_true, Bool.not_eq_true', Int.not_le, Int.not_lt] at hc2
             obtain ⟨x, hx⟩ : ∃ x, t.rats[k]? = some x := ⟨_, List.getElem?_eq_getElem (by omega)⟩
             refine sy_addr (a := a) (sz := 2) (rows := rrows t.rats) (by intro h0; simp [rrows] at h0; simp [h0] at hx) (fun b off he => ?_)
             subst he
             refine sy_skip ?_
             refine sy_nx ?_
             refine sy_seq ?_
             refine sy_block ?_
             refine sy_seq ?_
             refine sy_tx' [0, 1, 2, 3, 4, 5, 6, 7, 8, 9, 10, 11, 12, 13, 14, 15] rfl ?_
             refine sy_sq ?_
             refine sp rfl (PE.fieldAddr fo37_8 rfl) rfl ?_
             refine sy_sq ?_
             refine spL rfl rfl (lh sc35 rfl rfl) rfl ?_
             refine sy_sq ?_
             refine sp rfl (PE.move rfl) rfl ?_
             refine sy_sq ?_
             refine sp rfl (PE.indexAddr el35 rfl rfl (by omega) (by omega)) rfl ?_
             refine sy_sq ?_
             refine sp rfl (PE.fieldAddr fo129_0 rfl) rfl ?_
             refine sy_sq ?_
             refine spL rfl rfl (lf0 (x := .int .i64 x.sacks) sc3 (rr_get hx) rfl) rfl ?_
             refine sy_sq ?_
             refine clV rfl cal83 rfl rfl (c_off _ _ _ _ _) ?_
             refine sy_sq ?_
             refine sp rfl (PE.move rfl) rfl ?_
             refine sy_sq ?_
             refine sy_case (t := 63) rfl (fun g63 => ?_) (fun g63 => ?_)
             ·
              have hbad : (t.rats.all fun q => inb q.sacks 0 30 && inb q.price 0 100) = false := by
                rw [List.all_eq_false]; refine ⟨x, List.mem_of_getElem? hx, ?_⟩; rw [Bool.not_eq_true'] at g63; rw [show inb x.sacks 0 30 = false from g63]; simp
              refine spN rfl rfl rfl rfl rfl rfl rfl rfl ?_
              refine sy_sq ?_
              refine spN rfl rfl rfl rfl rfl rfl rfl rfl ?_
              refine sy_sq ?_
              refine spN rfl rfl rfl rfl rfl rfl rfl rfl ?_
              refine sy_sq ?_
              refine spN rfl rfl rfl rfl rfl rfl rfl rfl ?_
              refine sy_sq ?_
              refine spN rfl rfl rfl rfl rfl rfl rfl rfl ?_
              refine sy_sq ?_
              refine spN rfl rfl rfl rfl rfl rfl rfl rfl ?_
              refine sy_sq ?_
              refine spN rfl rfl rfl rfl rfl rfl rfl rfl ?_
              refine sy_sq ?_
              refine sp rfl (PE.pick rfl rfl rfl) rfl ?_
              refine sy_sn ?_
              refine sy_nx ?_
              refine sy_condT rfl ?_
              refine sy_seq ?_
              refine sy_tx' [0] rfl ?_
              refine sy_sq ?_
              refine sp rfl (PE.assign rfl) rfl ?_
              refine sy_sn ?_
              refine sy_nx ?_
              refine sy_ret ?_
              refine sy_br ?_
              refine sy_tr ?_
              refine sy_tr ?_
              refine sy_br ?_
              refine sy_tr ?_
              exact sy_return (vs := [_]) rfl (.cons (RV.tmp rfl) .nil) rfl ⟨congrArg (Value.int .i64) (by first | exact hres.symm | (rw [hck1, hbad]; rfl) | simp_all only [Twn.check, inb, List.all_cons, List.all_nil, Bool.and_true, cond_true, cond_false, Bool.not_true, Bool.not_false, Bool.not_eq_true', Bool.not_eq_false', Bool.and_self, Bool.false_and, Bool.and_false, Bool.true_and]), rfl, rfl⟩ (fun _ h => by repeat first | exact h | replace h := St.tail h | replace h := St.ftail h | replace h := St.drop h)
             ·
              replace g63 : inb x.sacks 0 30 = true := by rw [← Bool.not_eq_false']; exact g63
              refine spG rfl rfl rfl rfl (PE.fieldAddr fo37_8 rfl) rfl ?_
              refine sy_sq ?_
              refine spLG rfl rfl rfl rfl rfl (lh sc35 rfl rfl) rfl ?_
              refine sy_sq ?_
              refine spG rfl rfl rfl rfl (PE.move rfl) rfl ?_
              refine sy_sq ?_
              refine spG rfl rfl rfl rfl (PE.indexAddr el35 rfl rfl (by omega) (by omega)) rfl ?_
              refine sy_sq ?_
              refine spG rfl rfl rfl rfl (PE.fieldAddr fo129_1 rfl) rfl ?_
              refine sy_sq ?_
              refine spLG rfl rfl rfl rfl rfl (lf (x := .int .i64 x.price) sc3 (rr_get hx) rfl) rfl ?_
              refine sy_sq ?_
              refine clVG rfl rfl rfl rfl cal83 rfl rfl (c_off _ _ _ _ _) ?_
              refine sy_sq ?_
              refine sp rfl (PE.pick rfl rfl rfl) rfl ?_
              refine sy_sn ?_
              refine sy_nx ?_
              refine sy_cond rfl (fun hc3 => ?_) (fun hc3 => ?_)
              ·
               have hbad : (t.rats.all fun q => inb q.sacks 0 30 && inb q.price 0 100) = false := by
                 rw [List.all_eq_false]; refine ⟨x, List.mem_of_getElem? hx, ?_⟩; rw [Bool.not_eq_true'] at hc3; rw [show inb x.price 0 100 = false from hc3]; simp
               refine sy_seq ?_
               refine sy_tx' [0] rfl ?_
               refine sy_sq ?_
               refine sp rfl (PE.assign rfl) rfl ?_
               refine sy_sn ?_
               refine sy_nx ?_
               refine sy_ret ?_
               refine sy_br ?_
               refine sy_tr ?_
               refine sy_tr ?_
               refine sy_br ?_
               refine sy_tr ?_
               exact sy_return (vs := [_]) rfl (.cons (RV.tmp rfl) .nil) rfl ⟨congrArg (Value.int .i64) (by first | exact hres.symm | (rw [hck1, hbad]; rfl) | simp_all only [Twn.check, inb, List.all_cons, List.all_nil, Bool.and_true, cond_true, cond_false, Bool.not_true, Bool.not_false, Bool.not_eq_true', Bool.not_eq_false', Bool.and_self, Bool.false_and, Bool.and_false, Bool.true_and]), rfl, rfl⟩ (fun _ h => by repeat first | exact h | replace h := St.tail h | replace h := St.ftail h | replace h := St.drop h)
              ·
               replace hc3 : inb x.price 0 100 = true := by rw [← Bool.not_eq_false']; exact hc3
               refine sy_skip ?_
               refine sy_bn ?_
               refine sy_nx ?_
               refine sy_tx' [0, 1, 2] rfl ?_
               refine sy_sq ?_
               refine sp rfl (PE.move rfl) rfl ?_
               refine sy_sq ?_
               refine sp rfl (PE.add rfl rfl (by omega)) rfl ?_
               refine sy_sq ?_
               refine sp rfl (PE.assign rfl) rfl ?_
               refine sy_sn ?_
               refine sy_nx ?_
               exact sy_next ⟨k + 1, by omega, fun i q' hi hq' => by
                 rcases Nat.lt_or_ge i k with h1 | h1
                 · exact hn i q' h1 hq'
                 · obtain rfl : i = k := by omega
                   rw [hx] at hq'; cases hq'; rw [g63, hc3]; rfl⟩ (by dsimp only; omega) (by repeat' first | exact Sub.nil | apply Sub.cons | rfl | (simp [lk]; omega)) (fun _ h => h)
            ·
             try simp only [decide_eq_true_eq, decide_eq_false_iff_not, Bool.and_eq_true, Bool.or_eq_true, Bool.not_eq_true', Int.not_le, Int.not_lt] at hc2
             obtain rfl : k = t.rats.length := by omega
             refine sy_exit ?_
             refine sy_tx ?_
             refine sy_tx ?_
             refine sy_bx ?_
             refine sy_nx ?_
             refine sy_seq ?_
             refine sy_seq ?_
             refine sy_tx' [0, 1, 2, 3, 4] rfl ?_
             refine sy_sq ?_
             refine sp rfl (PE.fieldAddr fo37_6 rfl) rfl ?_
             refine sy_sq ?_
             refine spL rfl rfl (lh sc3 rfl rfl) rfl ?_
             refine sy_sq ?_
             refine sp rfl (PE.fieldAddr fo37_5 rfl) rfl ?_
             refine sy_sq ?_
             refine spL rfl rfl (lh sc3 rfl rfl) rfl ?_
             refine sy_sq ?_
             refine sp rfl (PE.gtr rfl rfl) rfl ?_
             refine sy_sn ?_
             refine sy_nx ?_
             refine sy_cond rfl (fun hc4 => ?_) (fun hc4 => ?_)
             ·
              try simp only [decide_eq_true_eq, decide_eq_false_iff_not, Bool.and_eq_true, Bool.or_eq_true, Bool.not_eq_true', Int.not_le, Int.not_lt] at hc4
              have hres : t.check = 4 := by rw [hck1, decide_eq_true hc4]; rw [show (t.rats.all fun q => inb q.sacks 0 30 && inb q.price 0 100) = true from List.all_eq_true.2 fun q hq => by
                  obtain ⟨i, hi⟩ := List.getElem?_of_mem hq
                  exact hn i q (List.getElem?_eq_some_iff.1 hi).1 hi]; rfl
              refine sy_seq ?_
              refine sy_tx' [0] rfl ?_
              refine sy_sq ?_
              refine sp rfl (PE.assign rfl) rfl ?_
              refine sy_sn ?_
              refine sy_nx ?_
              refine sy_ret ?_
              refine sy_tr ?_
              exact sy_return (vs := [_]) rfl (.cons (RV.tmp rfl) .nil) rfl ⟨congrArg (Value.int .i64) (by first | exact hres.symm | (rw [hck1, hbad]; rfl) | simp_all only [Twn.check, inb, List.all_cons, List.all_nil, Bool.and_true, cond_true, cond_false, Bool.not_true, Bool.not_false, Bool.not_eq_true', Bool.not_eq_false', Bool.and_self, Bool.false_and, Bool.and_false, Bool.true_and]), rfl, rfl⟩ (fun _ h => by repeat first | exact h | replace h := St.tail h | replace h := St.ftail h | replace h := St.drop h)
             ·
              try simp only [decide_eq_true_eq, decide_eq_false_iff_not, Bool.and_eq_true, Bool.or_eq_true, Bool.not_eq_true', Int.not_le, Int.not_lt] at hc4
              refine sy_skip ?_
              refine sy_nx ?_
              refine sy_seq ?_
              refine sy_seq ?_
              refine sy_tx' [0] rfl ?_
              refine sy_sq ?_
              refine sp rfl (PE.assign rfl) rfl ?_
              refine sy_sn ?_
              refine sy_nx ?_
              refine sy_block ?_
              have hall : (t.rats.all fun q => inb q.sacks 0 30 && inb q.price 0 100) = true := List.all_eq_true.2 fun q hq => by
                obtain ⟨i, hi⟩ := List.getElem?_of_mem hq
                exact hn i q (List.getElem?_eq_some_iff.1 hi).1 hi
              have hck : t.check = bif (List.range t.rats.length).any (badAt t.rats) then 4 else 0 := by rw [hck1, hall, decide_eq_false (by omega)]; rfl
              refine sy_loop (ι := {k : Nat // 1 ≤ k ∧ k ≤ t.rats.length ∧ ∀ i, i < k - 1 → badAt t.rats i = false}) (fun k => ⟨[(1, .pointer (some ⟨b1, 0, none⟩)), (4, .int .i64 k.1)], (b1, cel 37 (twl t (t.sl a c))) :: H, R⟩) (fun k => t.rats.length - k.1) ⟨1, by simp; omega⟩ ?_ (fun k => ?_)
              ·
               exact sy_at (by repeat' first | exact Sub.nil | apply Sub.cons | rfl | (simp [lk]; omega)) (fun _ h => h)
              ·
               obtain ⟨k, hk1, hk2, hn⟩ := k
               dsimp only
               refine sy_seq ?_
               refine sy_seq ?_
               refine sy_tx' [0, 1, 2, 3, 4] rfl ?_
               refine sy_sq ?_
               refine sp rfl (PE.move rfl) rfl ?_
               refine sy_sq ?_
               refine sp rfl (PE.fieldAddr fo37_8 rfl) rfl ?_
               refine sy_sq ?_
               refine spL rfl rfl (lh sc35 rfl rfl) rfl ?_
               refine sy_sq ?_
               refine sp rfl (PE.lenSl isl35 rfl) rfl ?_
               refine sy_sq ?_
               refine sp rfl (PE.lss rfl rfl) rfl ?_
               refine sy_sn ?_
               refine sy_nx ?_
               refine sy_cond rfl (fun hc5 => ?_) (fun hc5 => ?_)
               ·
                try simp only [decide_eq_true_eq, decide_eq_false_iff_not, Bool.and_eq_true, Bool.or_eq_true, Bool.not_eq_true', Int.not_le, Int.not_lt] at hc5
                obtain ⟨x, hx⟩ : ∃ x, t.rats[k - 1]? = some x := ⟨_, List.getElem?_eq_getElem (by omega)⟩
                obtain ⟨y, hy⟩ : ∃ y, t.rats[k]? = some y := ⟨_, List.getElem?_eq_getElem (by omega)⟩
                have e1 : ((k : Int) - 1).toNat = k - 1 := by omega
                have hba : badAt t.rats (k - 1) = (decide (x.sacks ≤ y.sacks) || decide (y.price ≤ x.price)) := by unfold badAt; rw [hx, show k - 1 + 1 = k from by omega, hy]
                refine sy_addr (a := a) (sz := 2) (rows := rrows t.rats) (by intro h0; simp [rrows] at h0; simp [h0] at hx) (fun b off he => ?_)
                subst he
                refine sy_skip ?_
                refine sy_nx ?_
                refine sy_seq ?_
                refine sy_block ?_
                refine sy_seq ?_
                refine sy_draw [0, 1, 0, 7, 15, 31, 0, 64, 0, 256, 960, 1984, 4032, 8191, 16383, 32767, 65535, 32767, 262143, 524287, 1048575, 32767, 2129919, 32767, 8421375, 31490047, 65044479, 132153343, 268435455, 536870911] (.tk 0 (.ld 1 (.tk 2 (.tk 3 (.tk 4 (.ld 5 (.tk 6 (.ld 7 (.tk 8 (.tk 9 (.tk 10 (.tk 11 (.ld 12 (.tk 13 (.tk 14 (.tk 15 (.ld 16 (.tk 17 (.tk 18 (.tk 19 (.ld 20 (.tk 21 (.ld 22 (.tk 23 (.tk 24 (.tk 25 (.tk 26 (.ld 27 (.tk 28 (.tk 29 .done)))))))))))))))))))))))))))))) mixed (by kernel_rfl) ?_
                refine tk rfl (PE.fieldAddr fo37_8 rfl) rfl ?_
                refine ld rfl rfl (lh sc35 rfl rfl) rfl ?_
                refine tk rfl (PE.move rfl) rfl ?_
                refine tk rfl (PE.indexAddr el35 rfl rfl (by omega) (by omega)) rfl ?_
                refine tk rfl (PE.fieldAddr fo129_0 rfl) rfl ?_
                refine ld rfl rfl (lf0 (x := .int .i64 y.sacks) sc3 (rr_get hy) rfl) rfl ?_
                refine tk rfl (PE.fieldAddr fo37_8 rfl) rfl ?_
                refine ld rfl rfl (lh sc35 rfl rfl) rfl ?_
                refine tk rfl (PE.move rfl) rfl ?_
                refine tk rfl (PE.sub rfl rfl (by omega)) rfl ?_
                refine tk rfl (PE.indexAddr el35 rfl rfl (by omega) (by omega)) rfl ?_
                refine tk rfl (PE.fieldAddr fo129_0 rfl) rfl ?_
                refine ld rfl rfl (lf0 (x := .int .i64 x.sacks) sc3 (by rw [e1]; exact rr_get hx) rfl) rfl ?_
                refine tk rfl (PE.geq rfl rfl) rfl ?_
                refine tk rfl (PE.move rfl) rfl ?_
                refine sy_case (t := 98) rfl (fun g98 => ?_) (fun g98 => ?_)
                ·
                 have hbad : badAt t.rats (k - 1) = true := by rw [hba, g98]; rfl
                 have hres : t.check = 4 := by rw [hck, some_bad (by omega) hbad]; rfl
                 refine tkN rfl rfl rfl rfl rfl rfl rfl rfl ?_
                 refine ldN rfl rfl rfl rfl rfl rfl rfl rfl ?_
                 refine tkN rfl rfl rfl rfl rfl rfl rfl rfl ?_
                 refine tkN rfl rfl rfl rfl rfl rfl rfl rfl ?_
                 refine tkN rfl rfl rfl rfl rfl rfl rfl rfl ?_
                 refine ldN rfl rfl rfl rfl rfl rfl rfl rfl ?_
                 refine tkN rfl rfl rfl rfl rfl rfl rfl rfl ?_
                 refine ldN rfl rfl rfl rfl rfl rfl rfl rfl ?_
                 refine tkN rfl rfl rfl rfl rfl rfl rfl rfl ?_
                 refine tkN rfl rfl rfl rfl rfl rfl rfl rfl ?_
                 refine tkN rfl rfl rfl rfl rfl rfl rfl rfl ?_
                 refine tkN rfl rfl rfl rfl rfl rfl rfl rfl ?_
                 refine ldN rfl rfl rfl rfl rfl rfl rfl rfl ?_
                 refine tkN rfl rfl rfl rfl rfl rfl rfl rfl ?_
                 refine tk rfl (PE.pick rfl rfl rfl) rfl ?_
                 refine sy_dn ?_
                 refine sy_nx ?_
                 refine sy_condT rfl ?_
                 refine sy_seq ?_
                 refine sy_tx' [0] rfl ?_
                 refine sy_sq ?_
                 refine sp rfl (PE.assign rfl) rfl ?_
                 refine sy_sn ?_
                 refine sy_nx ?_
                 refine sy_ret ?_
                 refine sy_br ?_
                 refine sy_tr ?_
                 refine sy_tr ?_
                 refine sy_br ?_
                 refine sy_tr ?_
                 exact sy_return (vs := [_]) rfl (.cons (RV.tmp rfl) .nil) rfl ⟨congrArg (Value.int .i64) (by first | exact hres.symm | (rw [hck1, hbad]; rfl) | simp_all only [Twn.check, inb, List.all_cons, List.all_nil, Bool.and_true, cond_true, cond_false, Bool.not_true, Bool.not_false, Bool.not_eq_true', Bool.not_eq_false', Bool.and_self, Bool.false_and, Bool.and_false, Bool.true_and]), rfl, rfl⟩ (fun _ h => by repeat first | exact h | replace h := St.tail h | replace h := St.ftail h | replace h := St.drop h)
                ·
                 refine tkG rfl rfl rfl rfl (PE.fieldAddr fo37_8 rfl) rfl ?_
                 refine ldG rfl rfl rfl rfl rfl (lh sc35 rfl rfl) rfl ?_
                 refine tkG rfl rfl rfl rfl (PE.move rfl) rfl ?_
                 refine tkG rfl rfl rfl rfl (PE.indexAddr el35 rfl rfl (by omega) (by omega)) rfl ?_
                 refine tkG rfl rfl rfl rfl (PE.fieldAddr fo129_1 rfl) rfl ?_
                 refine ldG rfl rfl rfl rfl rfl (lf (x := .int .i64 y.price) sc3 (rr_get hy) rfl) rfl ?_
                 refine tkG rfl rfl rfl rfl (PE.fieldAddr fo37_8 rfl) rfl ?_
                 refine ldG rfl rfl rfl rfl rfl (lh sc35 rfl rfl) rfl ?_
                 refine tkG rfl rfl rfl rfl (PE.move rfl) rfl ?_
                 refine tkG rfl rfl rfl rfl (PE.sub rfl rfl (by omega)) rfl ?_
                 refine tkG rfl rfl rfl rfl (PE.indexAddr el35 rfl rfl (by omega) (by omega)) rfl ?_
                 refine tkG rfl rfl rfl rfl (PE.fieldAddr fo129_1 rfl) rfl ?_
                 refine ldG rfl rfl rfl rfl rfl (lf (x := .int .i64 x.price) sc3 (by rw [e1]; exact rr_get hx) rfl) rfl ?_
                 refine tkG rfl rfl rfl rfl (PE.leq rfl rfl) rfl ?_
                 refine tk rfl (PE.pick rfl rfl rfl) rfl ?_
                 refine sy_dn ?_
                 refine sy_nx ?_
                 refine sy_cond rfl (fun hc6 => ?_) (fun hc6 => ?_)
                 ·
                  have hbad : badAt t.rats (k - 1) = true := by rw [hba, g98]; exact hc6
                  have hres : t.check = 4 := by rw [hck, some_bad (by omega) hbad]; rfl
                  refine sy_seq ?_
                  refine sy_tx' [0] rfl ?_
                  refine sy_sq ?_
                  refine sp rfl (PE.assign rfl) rfl ?_
                  refine sy_sn ?_
                  refine sy_nx ?_
                  refine sy_ret ?_
                  refine sy_br ?_
                  refine sy_tr ?_
                  refine sy_tr ?_
                  refine sy_br ?_
                  refine sy_tr ?_
                  exact sy_return (vs := [_]) rfl (.cons (RV.tmp rfl) .nil) rfl ⟨congrArg (Value.int .i64) (by first | exact hres.symm | (rw [hck1, hbad]; rfl) | simp_all only [Twn.check, inb, List.all_cons, List.all_nil, Bool.and_true, cond_true, cond_false, Bool.not_true, Bool.not_false, Bool.not_eq_true', Bool.not_eq_false', Bool.and_self, Bool.false_and, Bool.and_false, Bool.true_and]), rfl, rfl⟩ (fun _ h => by repeat first | exact h | replace h := St.tail h | replace h := St.ftail h | replace h := St.drop h)
                 ·
                  refine sy_skip ?_
                  refine sy_bn ?_
                  refine sy_nx ?_
                  refine sy_tx' [0, 1, 2] rfl ?_
                  refine sy_sq ?_
                  refine sp rfl (PE.move rfl) rfl ?_
                  refine sy_sq ?_
                  refine sp rfl (PE.add rfl rfl (by omega)) rfl ?_
                  refine sy_sq ?_
                  refine sp rfl (PE.assign rfl) rfl ?_
                  refine sy_sn ?_
                  refine sy_nx ?_
                  exact sy_next ⟨k + 1, by omega, by omega, fun i hi => by
                    rcases Nat.lt_or_ge i (k - 1) with h1 | h1
                    · exact hn i h1
                    · obtain rfl : i = k - 1 := by omega
                      rw [hba, g98]; exact hc6⟩ (by dsimp only; omega) (by repeat' first | exact Sub.nil | apply Sub.cons | rfl | (simp [lk]; omega)) (fun _ h => h)
               ·
                try simp only [decide_eq_true_eq, decide_eq_false_iff_not, Bool.and_eq_true, Bool.or_eq_true, Bool.not_eq_true', Int.not_le, Int.not_lt] at hc5
                obtain rfl : k = t.rats.length := by omega
                have hres : t.check = 0 := by rw [hck, no_bad hn]; rfl
                refine sy_exit ?_
                refine sy_tx ?_
                refine sy_tx ?_
                refine sy_bx ?_
                refine sy_nx ?_
                refine sy_seq ?_
                refine sy_tx' [0] rfl ?_
                refine sy_sq ?_
                refine sp rfl (PE.assign rfl) rfl ?_
                refine sy_sn ?_
                refine sy_nx ?_
                refine sy_ret ?_
                exact sy_return (vs := [_]) rfl (.cons (RV.tmp rfl) .nil) rfl ⟨congrArg (Value.int .i64) (by first | exact hres.symm | (rw [hck1, hbad]; rfl) | simp_all only [Twn.check, inb, List.all_cons, List.all_nil, Bool.and_true, cond_true, cond_false, Bool.not_true, Bool.not_false, Bool.not_eq_true', Bool.not_eq_false', Bool.and_self, Bool.false_and, Bool.and_false, Bool.true_and]), rfl, rfl⟩ (fun _ h => by repeat first | exact h | replace h := St.tail h | replace h := St.ftail h | replace h := St.drop h)

theorem c_rCan (t : Twn) (s : Sta) (r : Int) (q : Rn) (b off c : Nat) (h0 : 0 ≤ r) (hq : t.rats[r.toNat]? = some q) (H : Heap) (R : Facts) [hR : MemRows (some ⟨b, off, none⟩) 2 (rrows t.rats) R] :
    FnV Try.prog 118 [t.v (t.sl (some ⟨b, off, none⟩) c), s.v, .int .i64 r] H R (.bool (t.can s q)) := by
  have hr := nthq h0 hq
  refine fn_of Try.func118 rfl Try.ntmps118 rfl ?_
  refine sy_seq ?_
  refine sy_tx' [0, 1, 2] rfl ?_
  refine sy_sq ?_
  refine bx rfl rfl rfl (fun b3 => ?_)
  refine sy_sq ?_
  refine bx rfl rfl rfl (fun b4 => ?_)
  refine sy_sq ?_
  refine sp rfl (PE.assign rfl) rfl ?_
  refine sy_sn ?_
  refine sy_nx ?_
  refine sy_seq ?_
  refine sy_tx' [0, 1, 2, 3, 4, 5, 6] rfl ?_
  refine sy_sq ?_
  refine sp rfl (PE.fieldAddr fo37_8 rfl) rfl ?_
  refine sy_sq ?_
  refine spL rfl rfl (lh sc35 rfl rfl) rfl ?_
  refine sy_sq ?_
  refine sp rfl (PE.move rfl) rfl ?_
  refine sy_sq ?_
  refine sp rfl (PE.indexAddr el35 rfl rfl (by omega) (by omega)) rfl ?_
  refine sy_sq ?_
  refine spL rfl rfl (lfA (row := rrow q) ag129 (rr_get hq) rfl) rfl ?_
  refine sy_sq ?_
  refine alc rfl zl129 rfl (fun b7 => ?_)
  refine sy_sq ?_
  refine sto rfl rfl rfl cn129 rfl rfl rfl rfl ?_
  refine sy_sn ?_
  refine sy_nx ?_
  refine sy_seq ?_
  refine sy_seq ?_
  refine sy_tx' [0, 1, 2, 3, 4] rfl ?_
  refine sy_sq ?_
  refine sp rfl (PE.fieldAddr fo129_0 rfl) rfl ?_
  refine sy_sq ?_
  refine spL rfl rfl (lh sc3 rfl rfl) rfl ?_
  refine sy_sq ?_
  refine sp rfl (PE.fieldAddr fo34_0 rfl) rfl ?_
  refine sy_sq ?_
  refine spL rfl rfl (lh sc3 rfl rfl) rfl ?_
  refine sy_sq ?_
  refine sp rfl (PE.gtr rfl rfl) rfl ?_
  refine sy_sn ?_
  refine sy_nx ?_
  refine sy_cond rfl (fun hc0 => ?_) (fun hc0 => ?_)
  ·
   try simp only [decide_eq_true_eq, decide_eq_false_iff_not, Bool.and_eq_true, Bool.or_eq_true, Bool.not_eq_true', Int.not_le, Int.not_lt] at hc0
   refine sy_seq ?_
   refine sy_tx' [0] rfl ?_
   refine sy_sq ?_
   refine sp rfl (PE.assign rfl) rfl ?_
   refine sy_sn ?_
   refine sy_nx ?_
   refine sy_ret ?_
   refine sy_tr ?_
   exact sy_return (vs := [_]) rfl (.cons (RV.tmp rfl) .nil) rfl ⟨by simp_all [retV, Twn.can] <;> omega, rfl, rfl⟩ (fun _ h => by repeat first | exact h | replace h := St.tail h | replace h := St.ftail h | replace h := St.drop h)
  ·
   try simp only [decide_eq_true_eq, decide_eq_false_iff_not, Bool.and_eq_true, Bool.or_eq_true, Bool.not_eq_true', Int.not_le, Int.not_lt] at hc0
   refine sy_skip ?_
   refine sy_nx ?_
   refine sy_seq ?_
   refine sy_tx' [0, 1, 2, 3, 4, 5, 6, 7, 8, 9, 10, 11, 12] rfl ?_
   refine sy_sq ?_
   refine sp rfl (PE.fieldAddr fo129_0 rfl) rfl ?_
   refine sy_sq ?_
   refine spL rfl rfl (lh sc3 rfl rfl) rfl ?_
   refine sy_sq ?_
   refine sp rfl (PE.fieldAddr fo37_2 rfl) rfl ?_
   refine sy_sq ?_
   refine spL rfl rfl (lh sc3 rfl rfl) rfl ?_
   refine sy_sq ?_
   refine sp rfl (PE.geq rfl rfl) rfl ?_
   refine sy_sq ?_
   refine sp rfl (PE.move rfl) rfl ?_
   refine sy_sq ?_
   refine sy_case (t := 23) rfl (fun g23 => ?_) (fun g23 => ?_)
   ·
    try simp only [decide_eq_true_eq, decide_eq_false_iff_not, Bool.and_eq_true, Bool.or_eq_true, Bool.not_eq_true', Int.not_le, Int.not_lt] at g23
    refine spN rfl rfl rfl rfl rfl rfl rfl rfl ?_
    refine sy_sq ?_
    refine spN rfl rfl rfl rfl rfl rfl rfl rfl ?_
    refine sy_sq ?_
    refine spN rfl rfl rfl rfl rfl rfl rfl rfl ?_
    refine sy_sq ?_
    refine spN rfl rfl rfl rfl rfl rfl rfl rfl ?_
    refine sy_sq ?_
    refine spN rfl rfl rfl rfl rfl rfl rfl rfl ?_
    refine sy_sq ?_
    refine sp rfl (PE.pick rfl rfl rfl) rfl ?_
    refine sy_sq ?_
    refine sp rfl (PE.assign rfl) rfl ?_
    refine sy_sn ?_
    refine sy_nx ?_
    refine sy_ret ?_
    exact sy_return (vs := [_]) rfl (.cons (RV.tmp rfl) .nil) rfl ⟨by simp_all [retV, Twn.can] <;> omega, rfl, rfl⟩ (fun _ h => by repeat first | exact h | replace h := St.tail h | replace h := St.ftail h | replace h := St.drop h)
   ·
    try simp only [decide_eq_true_eq, decide_eq_false_iff_not, Bool.and_eq_true, Bool.or_eq_true, Bool.not_eq_true', Int.not_le, Int.not_lt] at g23
    refine spG rfl rfl rfl rfl (PE.fieldAddr fo34_1 rfl) rfl ?_
    refine sy_sq ?_
    refine spLG rfl rfl rfl rfl rfl (lh sc3 rfl rfl) rfl ?_
    refine sy_sq ?_
    refine spG rfl rfl rfl rfl (PE.fieldAddr fo37_3 rfl) rfl ?_
    refine sy_sq ?_
    refine spLG rfl rfl rfl rfl rfl (lh sc3 rfl rfl) rfl ?_
    refine sy_sq ?_
    refine spG rfl rfl rfl rfl (PE.lss rfl rfl) rfl ?_
    refine sy_sq ?_
    refine sp rfl (PE.pick rfl rfl rfl) rfl ?_
    refine sy_sq ?_
    refine sp rfl (PE.assign rfl) rfl ?_
    refine sy_sn ?_
    refine sy_nx ?_
    refine sy_ret ?_
    exact sy_return (vs := [_]) rfl (.cons (RV.tmp rfl) .nil) rfl ⟨by simp_all [retV, Twn.can] <;> omega, rfl, rfl⟩ (fun _ h => by repeat first | exact h | replace h := St.tail h | replace h := St.ftail h | replace h := St.drop h)

theorem c_rAllowed (t : Twn) (ht : t.ok) (s : Sta) (ba oa ca : Nat) (H : Heap) (R : Facts) [hR : MemRows (some ⟨ba, oa, none⟩) 2 (rrows t.rats) R] :
    Fn Try.prog 63 [t.v (t.sl (some ⟨ba, oa, none⟩) ca), s.v] H R (fun v H' R' => ∃ o : OSl 3 1 (irows (canU t s)), v = o.fs ∧ H' = o.G ++ H ∧ R' = R) := by
  have hlen := ht.many
  refine fn_of Try.func63 rfl Try.ntmps63 rfl ?_
  refine sy_seq ?_
  refine sy_tx' [0, 1, 2] rfl ?_
  refine sy_sq ?_
  refine bx rfl rfl rfl (fun b2 => ?_)
  refine sy_sq ?_
  refine bx rfl rfl rfl (fun b3 => ?_)
  refine sy_sq ?_
  refine sp rfl (PE.assign rfl) rfl ?_
  refine sy_sn ?_
  refine sy_nx ?_
  refine sy_seq ?_
  refine sy_tx' [0] rfl ?_
  refine sy_sq ?_
  refine sp rfl (PE.assign rfl) rfl ?_
  refine sy_sn ?_
  refine sy_nx ?_
  refine sy_seq ?_
  refine sy_seq ?_
  refine sy_tx' [0] rfl ?_
  refine sy_sq ?_
  refine sp rfl (PE.assign rfl) rfl ?_
  refine sy_sn ?_
  refine sy_nx ?_
  refine sy_block ?_
  refine sy_loop (ι := (k : {k : Nat // k ≤ t.rats.length}) × OSl 3 1 (irows (pickU (t.can s) t.rats k.1))) (fun x => ⟨[(2, .pointer (some ⟨b2, 0, none⟩)), (3, .pointer (some ⟨b3, 0, none⟩)), (5, x.2.fs), (6, .int .i64 x.1.1)], x.2.G ++ (b3, cel 34 [.int .i64 s.stock, .int .i64 s.short, .int .i64 s.dry]) :: (b2, cel 37 (twl t (t.sl (some ⟨ba, oa, none⟩) ca))) :: H, R⟩) (fun x => t.rats.length - x.1.1) ⟨⟨0, by omega⟩, OSl.nil _ _⟩ ?_ (fun x => ?_)
  ·
   exact sy_at (by repeat' first | exact Sub.nil | apply Sub.cons | rfl | (simp [lk]; omega)) (fun _ h => h)
  ·
   obtain ⟨⟨k, hk⟩, o'⟩ := x
   dsimp only at o' ⊢
   refine sy_seq ?_
   refine sy_seq ?_
   refine sy_tx' [0, 1, 2, 3, 4] rfl ?_
   refine sy_sq ?_
   refine sp rfl (PE.move rfl) rfl ?_
   refine sy_sq ?_
   refine sp rfl (PE.fieldAddr fo37_8 rfl) rfl ?_
   refine sy_sq ?_
   refine spL rfl rfl (lh sc35 rfl rfl) rfl ?_
   refine sy_sq ?_
   refine sp rfl (PE.lenSl isl35 rfl) rfl ?_
   refine sy_sq ?_
   refine sp rfl (PE.lss rfl rfl) rfl ?_
   refine sy_sn ?_
   refine sy_nx ?_
   refine sy_cond rfl (fun hc0 => ?_) (fun hc0 => ?_)
   ·
    try simp only [decide_eq_true_eq, decide_eq_false_iff_not, Bool.and_eq_true, Bool.or_eq_true, Bool.not_eq_true', Int.not_le, Int.not_lt] at hc0
    obtain ⟨q, hq⟩ : ∃ q, t.rats[k]? = some q := ⟨_, List.getElem?_eq_getElem (by omega)⟩
    refine sy_skip ?_
    refine sy_nx ?_
    refine sy_seq ?_
    refine sy_block ?_
    refine sy_seq ?_
    refine sy_tx' [0, 1, 2, 3] rfl ?_
    refine sy_sq ?_
    refine spL rfl rfl (lhA [_, _, _, _, _, _, _, _, _, _, _] ag37 rfl rfl rfl) rfl ?_
    refine sy_sq ?_
    refine spL rfl rfl (lhA [_, _, _] ag34 rfl rfl rfl) rfl ?_
    refine sy_sq ?_
    refine sp rfl (PE.move rfl) rfl ?_
    refine sy_sq ?_
    refine clV rfl cal118 rfl rfl (c_rCan t s k q ba oa ca (by omega) (by simpa using hq) _ _) ?_
    refine sy_sn ?_
    refine sy_nx ?_
    refine sy_cond rfl (fun hc1 => ?_) (fun hc1 => ?_)
    ·
     have e := pickU_succ (p := t.can s) hq
     rw [hc1, cond_true] at e
     refine sy_tx' [0, 1, 2, 3, 4] rfl ?_
     refine sy_sq ?_
     refine sp rfl (PE.move rfl) rfl ?_
     refine sy_sq ?_
     refine sp rfl (PE.move rfl) rfl ?_
     refine sy_sq ?_
     refine bsl (out := [_]) rfl sl42 zl3 rfl rfl rfl rfl rfl rfl (fun b20 => ?_)
     refine sy_sq ?_
     refine apO (o') rfl ap42 rfl rfl (rowsH (row := [.int .i64 k]) rfl) rfl rfl ((by have := pickU_len (t.can s) t.rats k; simp only [irows, List.length_map, List.length_singleton]; omega)) rfl (fun o21 => ?_)
     refine sy_sq ?_
     refine sp rfl (PE.assign rfl) rfl ?_
     refine sy_sn ?_
     refine sy_bn ?_
     refine sy_nx ?_
     refine sy_tx' [0, 1, 2] rfl ?_
     refine sy_sq ?_
     refine sp rfl (PE.move rfl) rfl ?_
     refine sy_sq ?_
     refine sp rfl (PE.add rfl rfl (by omega)) rfl ?_
     refine sy_sq ?_
     refine sp rfl (PE.assign rfl) rfl ?_
     refine sy_sn ?_
     refine sy_nx ?_
     first
       | exact sy_next ⟨⟨k + 1, by omega⟩, o21.cast (by rw [e]; simp [irows])⟩ (by dsimp only; omega) (by repeat' first | exact Sub.nil | apply Sub.cons | rfl | (simp [lk]; omega)) (fun w h => h.del b20)
       | exact sy_next ⟨⟨k + 1, by omega⟩, o'.cast (by rw [e])⟩ (by dsimp only; omega) (by repeat' first | exact Sub.nil | apply Sub.cons | rfl | (simp [lk]; omega)) (fun w h => h)
    ·
     have e := pickU_succ (p := t.can s) hq
     rw [hc1, cond_false] at e
     refine sy_skip ?_
     refine sy_bn ?_
     refine sy_nx ?_
     refine sy_tx' [0, 1, 2] rfl ?_
     refine sy_sq ?_
     refine sp rfl (PE.move rfl) rfl ?_
     refine sy_sq ?_
     refine sp rfl (PE.add rfl rfl (by omega)) rfl ?_
     refine sy_sq ?_
     refine sp rfl (PE.assign rfl) rfl ?_
     refine sy_sn ?_
     refine sy_nx ?_
     first
       | exact sy_next ⟨⟨k + 1, by omega⟩, o21.cast (by rw [e]; simp [irows])⟩ (by dsimp only; omega) (by repeat' first | exact Sub.nil | apply Sub.cons | rfl | (simp [lk]; omega)) (fun w h => h.del b20)
       | exact sy_next ⟨⟨k + 1, by omega⟩, o'.cast (by rw [e])⟩ (by dsimp only; omega) (by repeat' first | exact Sub.nil | apply Sub.cons | rfl | (simp [lk]; omega)) (fun w h => h)
   ·
    try simp only [decide_eq_true_eq, decide_eq_false_iff_not, Bool.and_eq_true, Bool.or_eq_true, Bool.not_eq_true', Int.not_le, Int.not_lt] at hc0
    obtain rfl : k = t.rats.length := by omega
    refine sy_exit ?_
    refine sy_tx ?_
    refine sy_tx ?_
    refine sy_bx ?_
    refine sy_nx ?_
    refine sy_seq ?_
    refine sy_tx' [0, 1] rfl ?_
    refine sy_sq ?_
    refine sp rfl (PE.move rfl) rfl ?_
    refine sy_sq ?_
    refine sp rfl (PE.assign rfl) rfl ?_
    refine sy_sn ?_
    refine sy_nx ?_
    refine sy_ret ?_
    exact sy_return (vs := [_]) rfl (.cons (RV.tmp rfl) .nil) rfl ⟨o', rfl, rfl, rfl⟩ (fun w h => (h.del b3).del b2)

theorem lost_eq {x k : Int} (h1 : x ≤ 10 * k) (h2 : k = 0 ∨ 10 * (k - 1) < x) (h0 : 0 ≤ x) : k = (x + 9) / 10 := by omega
theorem mul_b {a b A B : Int} (h1 : 0 ≤ a) (h2 : a ≤ A) (h3 : 0 ≤ b) (h4 : b ≤ B) : 0 ≤ a * b ∧ a * b ≤ A * B := by
  have h5 := Int.mul_nonneg h1 h3
  have h6 := Int.mul_le_mul h2 h4 h3 (by omega)
  omega
def srow (s : Sta) : List Value := [.int .i64 s.stock, .int .i64 s.short, .int .i64 s.dry]
def srows (l : List Sta) : List (List Value) := l.map srow
theorem sr_get {l : List Sta} {k : Nat} {s : Sta} (h : l[k]? = some s) : (srows l)[k]? = some (srow s) := by simp [srows, h]

theorem c_rAfter (t : Twn) (ht : t.ok) (s : Sta) (hs : s.right t = true) (r : Int) (q : Rn) (bad : Bool) (ba oa ca : Nat) (h0 : 0 ≤ r) (hq : t.rats[r.toNat]? = some q) (hc : q.sacks ≤ s.stock) (H : Heap) (R : Facts) [hR : MemRows (some ⟨ba, oa, none⟩) 2 (rrows t.rats) R] :
    FnV Try.prog 100 [t.v (t.sl (some ⟨ba, oa, none⟩) ca), s.v, .int .i64 r, .bool bad] H R (t.next s q bad).v := by
  have hr := nthq h0 hq
  have hq1 := ht.rats q (List.mem_of_getElem? hq)
  have hs1 := right_iff.1 hs
  have h1 := ht.holds
  have h2 := ht.good
  have h3 := ht.bad
  have h4 := ht.run
  have h5 := ht.patience
  have h6 := rot_bd (x := s.stock - q.sacks) (r := t.rot) (by omega) (by omega) ht.rot.1 ht.rot.2
  refine fn_of Try.func100 rfl Try.ntmps100 rfl ?_
  refine sy_seq ?_
  refine sy_tx' [0, 1, 2] rfl ?_
  refine sy_sq ?_
  refine bx rfl rfl rfl (fun b4 => ?_)
  refine sy_sq ?_
  refine bx rfl rfl rfl (fun b5 => ?_)
  refine sy_sq ?_
  refine alc rfl zl34 rfl (fun b8 => ?_)
  refine sy_sn ?_
  refine sy_nx ?_
  refine sy_seq ?_
  refine sy_draw [0, 1, 0, 4, 0, 28, 60, 124, 255, 511] (.tk 0 (.ld 1 (.tk 2 (.ld 3 (.tk 4 (.tk 5 (.tk 6 (.ld 7 (.tk 8 (.tk 9 .done)))))))))) mixed (by kernel_rfl) ?_
  refine tk rfl (PE.fieldAddr fo34_0 rfl) rfl ?_
  refine ld rfl rfl (lh sc3 rfl rfl) rfl ?_
  refine tk rfl (PE.fieldAddr fo37_8 rfl) rfl ?_
  refine ld rfl rfl (lh sc35 rfl rfl) rfl ?_
  refine tk rfl (PE.move rfl) rfl ?_
  refine tk rfl (PE.indexAddr el35 rfl rfl (by omega) (by omega)) rfl ?_
  refine tk rfl (PE.fieldAddr fo129_0 rfl) rfl ?_
  refine ld rfl rfl (lf0 (x := .int .i64 q.sacks) sc3 (rr_get hq) rfl) rfl ?_
  refine tk rfl (PE.sub rfl rfl (by omega)) rfl ?_
  refine tk rfl (PE.assign rfl) rfl ?_
  refine sy_dn ?_
  refine sy_nx ?_
  refine sy_seq ?_
  refine sy_tx' [0] rfl ?_
  refine sy_sq ?_
  refine sp rfl (PE.assign rfl) rfl ?_
  refine sy_sn ?_
  refine sy_nx ?_
  refine sy_seq ?_
  refine sy_block ?_
  refine sy_loop (ι := {k : Nat // k = 0 ∨ 10 * ((k : Int) - 1) < (s.stock - q.sacks) * t.rot}) (fun k => ⟨[(2, .int .i64 r), (3, .bool bad), (4, .pointer (some ⟨b4, 0, none⟩)), (5, .pointer (some ⟨b5, 0, none⟩)), (8, .pointer (some ⟨b8, 0, none⟩)), (9, .int .i64 (s.stock - q.sacks)), (10, .int .i64 k.1)], (b8, cel 34 [.int .i64 0, .int .i64 0, .int .i64 0]) :: (b5, cel 34 [.int .i64 s.stock, .int .i64 s.short, .int .i64 s.dry]) :: (b4, cel 37 (twl t (t.sl (some ⟨ba, oa, none⟩) ca))) :: H, R⟩) (fun k => 16 - k.1) ⟨0, .inl rfl⟩ ?_ (fun k => ?_)
  ·
   exact sy_at (by repeat' first | exact Sub.nil | apply Sub.cons | rfl | (simp [lk]; omega)) (fun _ h => h)
  ·
   obtain ⟨k, hk⟩ := k
   dsimp only
   refine sy_seq ?_
   refine sy_seq ?_
   refine sy_tx' [0, 1, 2, 3, 4, 5, 6] rfl ?_
   refine sy_sq ?_
   refine sp rfl (PE.move rfl) rfl ?_
   refine sy_sq ?_
   refine sp rfl (PE.mul rfl rfl (by omega)) rfl ?_
   refine sy_sq ?_
   refine sp rfl (PE.move rfl) rfl ?_
   refine sy_sq ?_
   refine sp rfl (PE.fieldAddr fo37_7 rfl) rfl ?_
   refine sy_sq ?_
   refine spL rfl rfl (lh sc3 rfl rfl) rfl ?_
   refine sy_sq ?_
   refine sp rfl (PE.mul rfl rfl (by omega)) rfl ?_
   refine sy_sq ?_
   refine sp rfl (PE.lss rfl rfl) rfl ?_
   refine sy_sn ?_
   refine sy_nx ?_
   refine sy_cond rfl (fun hc0 => ?_) (fun hc0 => ?_)
   ·
    try simp only [decide_eq_true_eq, decide_eq_false_iff_not, Bool.and_eq_true, Bool.or_eq_true, Bool.not_eq_true', Int.not_le, Int.not_lt] at hc0
    refine sy_skip ?_
    refine sy_nx ?_
    refine sy_block ?_
    refine sy_tx' [0, 1, 2] rfl ?_
    refine sy_sq ?_
    refine sp rfl (PE.move rfl) rfl ?_
    refine sy_sq ?_
    refine sp rfl (PE.add rfl rfl (by omega)) rfl ?_
    refine sy_sq ?_
    refine sp rfl (PE.assign rfl) rfl ?_
    refine sy_sn ?_
    refine sy_bn ?_
    refine sy_nx ?_
    exact sy_next ⟨k + 1, by omega⟩ (by dsimp only; omega) (by repeat' first | exact Sub.nil | apply Sub.cons | rfl | (simp [lk]; omega)) (fun _ h => h)
   ·
    try simp only [decide_eq_true_eq, decide_eq_false_iff_not, Bool.and_eq_true, Bool.or_eq_true, Bool.not_eq_true', Int.not_le, Int.not_lt] at hc0
    have hlost := lost_eq (x := (s.stock - q.sacks) * t.rot) (k := k) hc0 (by omega) h6.1
    refine sy_exit ?_
    refine sy_tx ?_
    refine sy_tx ?_
    refine sy_bx ?_
    refine sy_nx ?_
    refine sy_seq ?_
    refine sy_tx' [0, 1, 2, 3, 4, 5, 6, 7, 8] rfl ?_
    refine sy_sq ?_
    refine sp rfl (PE.move rfl) rfl ?_
    refine sy_sq ?_
    refine sp rfl (PE.move rfl) rfl ?_
    refine sy_sq ?_
    refine sp rfl (PE.sub rfl rfl (by omega)) rfl ?_
    refine sy_sq ?_
    refine sp rfl (PE.fieldAddr fo37_5 rfl) rfl ?_
    refine sy_sq ?_
    refine spL rfl rfl (lh sc3 rfl rfl) rfl ?_
    refine sy_sq ?_
    refine sp rfl (PE.add rfl rfl (by omega)) rfl ?_
    refine sy_sq ?_
    refine sp rfl (PE.build (out := [_, _, _]) pl34 zl34 rfl rfl) rfl ?_
    refine sy_sq ?_
    refine alc rfl zl34 rfl (fun b11 => ?_)
    refine sy_sq ?_
    refine sto rfl rfl rfl cn34 rfl rfl rfl rfl ?_
    refine sy_sn ?_
    refine sy_nx ?_
    refine sy_seq ?_
    refine sy_seq ?_
    refine sy_tx' [0] rfl ?_
    refine sy_sq ?_
    refine sp rfl (PE.move rfl) rfl ?_
    refine sy_sn ?_
    refine sy_nx ?_
    refine sy_cond rfl (fun hc1 => ?_) (fun hc1 => ?_)
    ·
     subst hc1
     refine sy_tx' [0, 1, 2, 3, 4, 5, 6, 7, 8, 9, 10] rfl ?_
     refine sy_sq ?_
     refine sp rfl (PE.move rfl) rfl ?_
     refine sy_sq ?_
     refine sp rfl (PE.move rfl) rfl ?_
     refine sy_sq ?_
     refine sp rfl (PE.sub rfl rfl (by omega)) rfl ?_
     refine sy_sq ?_
     refine sp rfl (PE.fieldAddr fo37_6 rfl) rfl ?_
     refine sy_sq ?_
     refine spL rfl rfl (lh sc3 rfl rfl) rfl ?_
     refine sy_sq ?_
     refine sp rfl (PE.add rfl rfl (by omega)) rfl ?_
     refine sy_sq ?_
     refine sp rfl (PE.fieldAddr fo34_2 rfl) rfl ?_
     refine sy_sq ?_
     refine spL rfl rfl (lh sc3 rfl rfl) rfl ?_
     refine sy_sq ?_
     refine sp rfl (PE.add rfl rfl (by omega)) rfl ?_
     refine sy_sq ?_
     refine sp rfl (PE.build (out := [_, _, _]) pl34 zl34 rfl rfl) rfl ?_
     refine sy_sq ?_
     refine sto rfl rfl rfl cn34 rfl rfl rfl rfl ?_
     refine sy_sn ?_
     refine sy_nx ?_
     refine sy_seq ?_
     refine sy_seq ?_
     refine sy_tx' [0, 1, 2, 3, 4] rfl ?_
     refine sy_sq ?_
     refine sp rfl (PE.fieldAddr fo34_0 rfl) rfl ?_
     refine sy_sq ?_
     refine spL rfl rfl (lh sc3 rfl rfl) rfl ?_
     refine sy_sq ?_
     refine sp rfl (PE.fieldAddr fo37_1 rfl) rfl ?_
     refine sy_sq ?_
     refine spL rfl rfl (lh sc3 rfl rfl) rfl ?_
     refine sy_sq ?_
     refine sp rfl (PE.gtr rfl rfl) rfl ?_
     refine sy_sn ?_
     refine sy_nx ?_
     refine sy_cond rfl (fun hc2 => ?_) (fun hc2 => ?_)
     ·
      try simp only [decide_eq_true_eq, decide_eq_false_iff_not, Bool.and_eq_true, Bool.or_eq_true, Bool.not_eq_true', Int.not_le, Int.not_lt] at hc2
      refine sy_tx' [0, 1, 2, 3] rfl ?_
      refine sy_sq ?_
      refine sp rfl (PE.fieldAddr fo37_1 rfl) rfl ?_
      refine sy_sq ?_
      refine spL rfl rfl (lh sc3 rfl rfl) rfl ?_
      refine sy_sq ?_
      refine sp rfl (PE.fieldAddr fo34_0 rfl) rfl ?_
      refine sy_sq ?_
      refine sto rfl rfl rfl cn3 rfl rfl rfl rfl ?_
      refine sy_sn ?_
      refine sy_nx ?_
      refine sy_seq ?_
      refine sy_seq ?_
      refine sy_draw [0, 1, 0, 7, 15, 31, 0, 64, 255] (.tk 0 (.ld 1 (.tk 2 (.tk 3 (.tk 4 (.ld 5 (.tk 6 (.ld 7 (.tk 8 .done))))))))) mixed (by kernel_rfl) ?_
      refine tk rfl (PE.fieldAddr fo37_8 rfl) rfl ?_
      refine ld rfl rfl (lh sc35 rfl rfl) rfl ?_
      refine tk rfl (PE.move rfl) rfl ?_
      refine tk rfl (PE.indexAddr el35 rfl rfl (by omega) (by omega)) rfl ?_
      refine tk rfl (PE.fieldAddr fo129_0 rfl) rfl ?_
      refine ld rfl rfl (lf0 (x := .int .i64 q.sacks) sc3 (rr_get hq) rfl) rfl ?_
      refine tk rfl (PE.fieldAddr fo37_2 rfl) rfl ?_
      refine ld rfl rfl (lh sc3 rfl rfl) rfl ?_
      refine tk rfl (PE.lss rfl rfl) rfl ?_
      refine sy_dn ?_
      refine sy_nx ?_
      refine sy_cond rfl (fun hc3 => ?_) (fun hc3 => ?_)
      ·
       try simp only [decide_eq_true_eq, decide_eq_false_iff_not, Bool.and_eq_true, Bool.or_eq_true, Bool.not_eq_true', Int.not_le, Int.not_lt] at hc3
       refine sy_tx' [0, 1, 2, 3, 4] rfl ?_
       refine sy_sq ?_
       refine sp rfl (PE.fieldAddr fo34_1 rfl) rfl ?_
       refine sy_sq ?_
       refine spL rfl rfl (lh sc3 rfl rfl) rfl ?_
       refine sy_sq ?_
       refine sp rfl (PE.add rfl rfl (by omega)) rfl ?_
       refine sy_sq ?_
       refine sp rfl (PE.fieldAddr fo34_1 rfl) rfl ?_
       refine sy_sq ?_
       refine sto rfl rfl rfl cn3 rfl rfl rfl rfl ?_
       refine sy_sn ?_
       refine sy_nx ?_
       refine sy_seq ?_
       refine sy_tx' [0, 1] rfl ?_
       refine sy_sq ?_
       refine spL rfl rfl (lhA [_, _, _] ag34 rfl rfl rfl) rfl ?_
       refine sy_sq ?_
       refine sto rfl rfl rfl cn34 rfl rfl rfl rfl ?_
       refine sy_sn ?_
       refine sy_nx ?_
       refine sy_ret ?_
       exact sy_return (vs := [_]) rfl (.cons (RV.cell rfl (lhA [_, _, _] ag34 rfl rfl rfl)) .nil) rfl ⟨by
           simp only [retV, Twn.next, leftOf, cond_true, cond_false, Value.agg.injEq]
           rw [← hlost]
           first | rw [decide_eq_true hc3] | rw [decide_eq_false (by omega)]
           simp only [cond_true, cond_false]
           congr 3 <;> (congr 1; try omega), rfl, rfl⟩ (fun _ h => by repeat first | exact h | replace h := St.tail h | replace h := St.ftail h | replace h := St.drop h)
      ·
       try simp only [decide_eq_true_eq, decide_eq_false_iff_not, Bool.and_eq_true, Bool.or_eq_true, Bool.not_eq_true', Int.not_le, Int.not_lt] at hc3
       refine sy_skip ?_
       refine sy_nx ?_
       refine sy_seq ?_
       refine sy_tx' [0, 1] rfl ?_
       refine sy_sq ?_
       refine spL rfl rfl (lhA [_, _, _] ag34 rfl rfl rfl) rfl ?_
       refine sy_sq ?_
       refine sto rfl rfl rfl cn34 rfl rfl rfl rfl ?_
       refine sy_sn ?_
       refine sy_nx ?_
       refine sy_ret ?_
       exact sy_return (vs := [_]) rfl (.cons (RV.cell rfl (lhA [_, _, _] ag34 rfl rfl rfl)) .nil) rfl ⟨by
           simp only [retV, Twn.next, leftOf, cond_true, cond_false, Value.agg.injEq]
           rw [← hlost]
           first | rw [decide_eq_true hc3] | rw [decide_eq_false (by omega)]
           simp only [cond_true, cond_false]
           congr 3 <;> (congr 1; try omega), rfl, rfl⟩ (fun _ h => by repeat first | exact h | replace h := St.tail h | replace h := St.ftail h | replace h := St.drop h)
     ·
      try simp only [decide_eq_true_eq, decide_eq_false_iff_not, Bool.and_eq_true, Bool.or_eq_true, Bool.not_eq_true', Int.not_le, Int.not_lt] at hc2
      refine sy_skip ?_
      refine sy_nx ?_
      refine sy_seq ?_
      refine sy_seq ?_
      refine sy_draw [0, 1, 0, 7, 15, 31, 0, 64, 255] (.tk 0 (.ld 1 (.tk 2 (.tk 3 (.tk 4 (.ld 5 (.tk 6 (.ld 7 (.tk 8 .done))))))))) mixed (by kernel_rfl) ?_
      refine tk rfl (PE.fieldAddr fo37_8 rfl) rfl ?_
      refine ld rfl rfl (lh sc35 rfl rfl) rfl ?_
      refine tk rfl (PE.move rfl) rfl ?_
      refine tk rfl (PE.indexAddr el35 rfl rfl (by omega) (by omega)) rfl ?_
      refine tk rfl (PE.fieldAddr fo129_0 rfl) rfl ?_
      refine ld rfl rfl (lf0 (x := .int .i64 q.sacks) sc3 (rr_get hq) rfl) rfl ?_
      refine tk rfl (PE.fieldAddr fo37_2 rfl) rfl ?_
      refine ld rfl rfl (lh sc3 rfl rfl) rfl ?_
      refine tk rfl (PE.lss rfl rfl) rfl ?_
      refine sy_dn ?_
      refine sy_nx ?_
      refine sy_cond rfl (fun hc3 => ?_) (fun hc3 => ?_)
      ·
       try simp only [decide_eq_true_eq, decide_eq_false_iff_not, Bool.and_eq_true, Bool.or_eq_true, Bool.not_eq_true', Int.not_le, Int.not_lt] at hc3
       refine sy_tx' [0, 1, 2, 3, 4] rfl ?_
       refine sy_sq ?_
       refine sp rfl (PE.fieldAddr fo34_1 rfl) rfl ?_
       refine sy_sq ?_
       refine spL rfl rfl (lh sc3 rfl rfl) rfl ?_
       refine sy_sq ?_
       refine sp rfl (PE.add rfl rfl (by omega)) rfl ?_
       refine sy_sq ?_
       refine sp rfl (PE.fieldAddr fo34_1 rfl) rfl ?_
       refine sy_sq ?_
       refine sto rfl rfl rfl cn3 rfl rfl rfl rfl ?_
       refine sy_sn ?_
       refine sy_nx ?_
       refine sy_seq ?_
       refine sy_tx' [0, 1] rfl ?_
       refine sy_sq ?_
       refine spL rfl rfl (lhA [_, _, _] ag34 rfl rfl rfl) rfl ?_
       refine sy_sq ?_
       refine sto rfl rfl rfl cn34 rfl rfl rfl rfl ?_
       refine sy_sn ?_
       refine sy_nx ?_
       refine sy_ret ?_
       exact sy_return (vs := [_]) rfl (.cons (RV.cell rfl (lhA [_, _, _] ag34 rfl rfl rfl)) .nil) rfl ⟨by
           simp only [retV, Twn.next, leftOf, cond_true, cond_false, Value.agg.injEq]
           rw [← hlost]
           first | rw [decide_eq_true hc3] | rw [decide_eq_false (by omega)]
           simp only [cond_true, cond_false]
           congr 3 <;> (congr 1; try omega), rfl, rfl⟩ (fun _ h => by repeat first | exact h | replace h := St.tail h | replace h := St.ftail h | replace h := St.drop h)
      ·
       try simp only [decide_eq_true_eq, decide_eq_false_iff_not, Bool.and_eq_true, Bool.or_eq_true, Bool.not_eq_true', Int.not_le, Int.not_lt] at hc3
       refine sy_skip ?_
       refine sy_nx ?_
       refine sy_seq ?_
       refine sy_tx' [0, 1] rfl ?_
       refine sy_sq ?_
       refine spL rfl rfl (lhA [_, _, _] ag34 rfl rfl rfl) rfl ?_
       refine sy_sq ?_
       refine sto rfl rfl rfl cn34 rfl rfl rfl rfl ?_
       refine sy_sn ?_
       refine sy_nx ?_
       refine sy_ret ?_
       exact sy_return (vs := [_]) rfl (.cons (RV.cell rfl (lhA [_, _, _] ag34 rfl rfl rfl)) .nil) rfl ⟨by
           simp only [retV, Twn.next, leftOf, cond_true, cond_false, Value.agg.injEq]
           rw [← hlost]
           first | rw [decide_eq_true hc3] | rw [decide_eq_false (by omega)]
           simp only [cond_true, cond_false]
           congr 3 <;> (congr 1; try omega), rfl, rfl⟩ (fun _ h => by repeat first | exact h | replace h := St.tail h | replace h := St.ftail h | replace h := St.drop h)
    ·
     subst hc1
     refine sy_skip ?_
     refine sy_nx ?_
     refine sy_seq ?_
     refine sy_seq ?_
     refine sy_tx' [0, 1, 2, 3, 4] rfl ?_
     refine sy_sq ?_
     refine sp rfl (PE.fieldAddr fo34_0 rfl) rfl ?_
     refine sy_sq ?_
     refine spL rfl rfl (lh sc3 rfl rfl) rfl ?_
     refine sy_sq ?_
     refine sp rfl (PE.fieldAddr fo37_1 rfl) rfl ?_
     refine sy_sq ?_
     refine spL rfl rfl (lh sc3 rfl rfl) rfl ?_
     refine sy_sq ?_
     refine sp rfl (PE.gtr rfl rfl) rfl ?_
     refine sy_sn ?_
     refine sy_nx ?_
     refine sy_cond rfl (fun hc2 => ?_) (fun hc2 => ?_)
     ·
      try simp only [decide_eq_true_eq, decide_eq_false_iff_not, Bool.and_eq_true, Bool.or_eq_true, Bool.not_eq_true', Int.not_le, Int.not_lt] at hc2
      refine sy_tx' [0, 1, 2, 3] rfl ?_
      refine sy_sq ?_
      refine sp rfl (PE.fieldAddr fo37_1 rfl) rfl ?_
      refine sy_sq ?_
      refine spL rfl rfl (lh sc3 rfl rfl) rfl ?_
      refine sy_sq ?_
      refine sp rfl (PE.fieldAddr fo34_0 rfl) rfl ?_
      refine sy_sq ?_
      refine sto rfl rfl rfl cn3 rfl rfl rfl rfl ?_
      refine sy_sn ?_
      refine sy_nx ?_
      refine sy_seq ?_
      refine sy_seq ?_
      refine sy_draw [0, 1, 0, 7, 15, 31, 0, 64, 255] (.tk 0 (.ld 1 (.tk 2 (.tk 3 (.tk 4 (.ld 5 (.tk 6 (.ld 7 (.tk 8 .done))))))))) mixed (by kernel_rfl) ?_
      refine tk rfl (PE.fieldAddr fo37_8 rfl) rfl ?_
      refine ld rfl rfl (lh sc35 rfl rfl) rfl ?_
      refine tk rfl (PE.move rfl) rfl ?_
      refine tk rfl (PE.indexAddr el35 rfl rfl (by omega) (by omega)) rfl ?_
      refine tk rfl (PE.fieldAddr fo129_0 rfl) rfl ?_
      refine ld rfl rfl (lf0 (x := .int .i64 q.sacks) sc3 (rr_get hq) rfl) rfl ?_
      refine tk rfl (PE.fieldAddr fo37_2 rfl) rfl ?_
      refine ld rfl rfl (lh sc3 rfl rfl) rfl ?_
      refine tk rfl (PE.lss rfl rfl) rfl ?_
      refine sy_dn ?_
      refine sy_nx ?_
      refine sy_cond rfl (fun hc3 => ?_) (fun hc3 => ?_)
      ·
       try simp only [decide_eq_true_eq, decide_eq_false_iff_not, Bool.and_eq_true, Bool.or_eq_true, Bool.not_eq_true', Int.not_le, Int.not_lt] at hc3
       refine sy_tx' [0, 1, 2, 3, 4] rfl ?_
       refine sy_sq ?_
       refine sp rfl (PE.fieldAddr fo34_1 rfl) rfl ?_
       refine sy_sq ?_
       refine spL rfl rfl (lh sc3 rfl rfl) rfl ?_
       refine sy_sq ?_
       refine sp rfl (PE.add rfl rfl (by omega)) rfl ?_
       refine sy_sq ?_
       refine sp rfl (PE.fieldAddr fo34_1 rfl) rfl ?_
       refine sy_sq ?_
       refine sto rfl rfl rfl cn3 rfl rfl rfl rfl ?_
       refine sy_sn ?_
       refine sy_nx ?_
       refine sy_seq ?_
       refine sy_tx' [0, 1] rfl ?_
       refine sy_sq ?_
       refine spL rfl rfl (lhA [_, _, _] ag34 rfl rfl rfl) rfl ?_
       refine sy_sq ?_
       refine sto rfl rfl rfl cn34 rfl rfl rfl rfl ?_
       refine sy_sn ?_
       refine sy_nx ?_
       refine sy_ret ?_
       exact sy_return (vs := [_]) rfl (.cons (RV.cell rfl (lhA [_, _, _] ag34 rfl rfl rfl)) .nil) rfl ⟨by
           simp only [retV, Twn.next, leftOf, cond_true, cond_false, Value.agg.injEq]
           rw [← hlost]
           first | rw [decide_eq_true hc3] | rw [decide_eq_false (by omega)]
           simp only [cond_true, cond_false]
           congr 3 <;> (congr 1; try omega), rfl, rfl⟩ (fun _ h => by repeat first | exact h | replace h := St.tail h | replace h := St.ftail h | replace h := St.drop h)
      ·
       try simp only [decide_eq_true_eq, decide_eq_false_iff_not, Bool.and_eq_true, Bool.or_eq_true, Bool.not_eq_true', Int.not_le, Int.not_lt] at hc3
       refine sy_skip ?_
       refine sy_nx ?_
       refine sy_seq ?_
       refine sy_tx' [0, 1] rfl ?_
       refine sy_sq ?_
       refine spL rfl rfl (lhA [_, _, _] ag34 rfl rfl rfl) rfl ?_
       refine sy_sq ?_
       refine sto rfl rfl rfl cn34 rfl rfl rfl rfl ?_
       refine sy_sn ?_
       refine sy_nx ?_
       refine sy_ret ?_
       exact sy_return (vs := [_]) rfl (.cons (RV.cell rfl (lhA [_, _, _] ag34 rfl rfl rfl)) .nil) rfl ⟨by
           simp only [retV, Twn.next, leftOf, cond_true, cond_false, Value.agg.injEq]
           rw [← hlost]
           first | rw [decide_eq_true hc3] | rw [decide_eq_false (by omega)]
           simp only [cond_true, cond_false]
           congr 3 <;> (congr 1; try omega), rfl, rfl⟩ (fun _ h => by repeat first | exact h | replace h := St.tail h | replace h := St.ftail h | replace h := St.drop h)
     ·
      try simp only [decide_eq_true_eq, decide_eq_false_iff_not, Bool.and_eq_true, Bool.or_eq_true, Bool.not_eq_true', Int.not_le, Int.not_lt] at hc2
      refine sy_skip ?_
      refine sy_nx ?_
      refine sy_seq ?_
      refine sy_seq ?_
      refine sy_draw [0, 1, 0, 7, 15, 31, 0, 64, 255] (.tk 0 (.ld 1 (.tk 2 (.tk 3 (.tk 4 (.ld 5 (.tk 6 (.ld 7 (.tk 8 .done))))))))) mixed (by kernel_rfl) ?_
      refine tk rfl (PE.fieldAddr fo37_8 rfl) rfl ?_
      refine ld rfl rfl (lh sc35 rfl rfl) rfl ?_
      refine tk rfl (PE.move rfl) rfl ?_
      refine tk rfl (PE.indexAddr el35 rfl rfl (by omega) (by omega)) rfl ?_
      refine tk rfl (PE.fieldAddr fo129_0 rfl) rfl ?_
      refine ld rfl rfl (lf0 (x := .int .i64 q.sacks) sc3 (rr_get hq) rfl) rfl ?_
      refine tk rfl (PE.fieldAddr fo37_2 rfl) rfl ?_
      refine ld rfl rfl (lh sc3 rfl rfl) rfl ?_
      refine tk rfl (PE.lss rfl rfl) rfl ?_
      refine sy_dn ?_
      refine sy_nx ?_
      refine sy_cond rfl (fun hc3 => ?_) (fun hc3 => ?_)
      ·
       try simp only [decide_eq_true_eq, decide_eq_false_iff_not, Bool.and_eq_true, Bool.or_eq_true, Bool.not_eq_true', Int.not_le, Int.not_lt] at hc3
       refine sy_tx' [0, 1, 2, 3, 4] rfl ?_
       refine sy_sq ?_
       refine sp rfl (PE.fieldAddr fo34_1 rfl) rfl ?_
       refine sy_sq ?_
       refine spL rfl rfl (lh sc3 rfl rfl) rfl ?_
       refine sy_sq ?_
       refine sp rfl (PE.add rfl rfl (by omega)) rfl ?_
       refine sy_sq ?_
       refine sp rfl (PE.fieldAddr fo34_1 rfl) rfl ?_
       refine sy_sq ?_
       refine sto rfl rfl rfl cn3 rfl rfl rfl rfl ?_
       refine sy_sn ?_
       refine sy_nx ?_
       refine sy_seq ?_
       refine sy_tx' [0, 1] rfl ?_
       refine sy_sq ?_
       refine spL rfl rfl (lhA [_, _, _] ag34 rfl rfl rfl) rfl ?_
       refine sy_sq ?_
       refine sto rfl rfl rfl cn34 rfl rfl rfl rfl ?_
       refine sy_sn ?_
       refine sy_nx ?_
       refine sy_ret ?_
       exact sy_return (vs := [_]) rfl (.cons (RV.cell rfl (lhA [_, _, _] ag34 rfl rfl rfl)) .nil) rfl ⟨by
           simp only [retV, Twn.next, leftOf, cond_true, cond_false, Value.agg.injEq]
           rw [← hlost]
           first | rw [decide_eq_true hc3] | rw [decide_eq_false (by omega)]
           simp only [cond_true, cond_false]
           congr 3 <;> (congr 1; try omega), rfl, rfl⟩ (fun _ h => by repeat first | exact h | replace h := St.tail h | replace h := St.ftail h | replace h := St.drop h)
      ·
       try simp only [decide_eq_true_eq, decide_eq_false_iff_not, Bool.and_eq_true, Bool.or_eq_true, Bool.not_eq_true', Int.not_le, Int.not_lt] at hc3
       refine sy_skip ?_
       refine sy_nx ?_
       refine sy_seq ?_
       refine sy_tx' [0, 1] rfl ?_
       refine sy_sq ?_
       refine spL rfl rfl (lhA [_, _, _] ag34 rfl rfl rfl) rfl ?_
       refine sy_sq ?_
       refine sto rfl rfl rfl cn34 rfl rfl rfl rfl ?_
       refine sy_sn ?_
       refine sy_nx ?_
       refine sy_ret ?_
       exact sy_return (vs := [_]) rfl (.cons (RV.cell rfl (lhA [_, _, _] ag34 rfl rfl rfl)) .nil) rfl ⟨by
           simp only [retV, Twn.next, leftOf, cond_true, cond_false, Value.agg.injEq]
           rw [← hlost]
           first | rw [decide_eq_true hc3] | rw [decide_eq_false (by omega)]
           simp only [cond_true, cond_false]
           congr 3 <;> (congr 1; try omega), rfl, rfl⟩ (fun _ h => by repeat first | exact h | replace h := St.tail h | replace h := St.ftail h | replace h := St.drop h)

theorem c_rIndex (t : Twn) (ht : t.ok) (s : Sta) (hs : s.right t = true) (sl : Value) (H : Heap) (R : Facts) :
    FnV Try.prog 84 [t.v sl, s.v] H R (.int .i64 (ixr t s)) := by
  have hs1 := right_iff.1 hs
  have h1 := ht.holds
  have h4 := ht.run
  have h5 := ht.patience
  have m1 := mul_b (a := s.stock) (b := t.patience + 1) (A := 30) (B := 4) (by omega) (by omega) (by omega) (by omega)
  have m2 := mul_b (a := s.stock * (t.patience + 1) + s.short) (b := t.run + 1) (A := 123) (B := 4) (by omega) (by omega) (by omega) (by omega)
  refine fn_of Try.func84 rfl Try.ntmps84 rfl ?_
  refine sy_seq ?_
  refine sy_tx' [0, 1, 2] rfl ?_
  refine sy_sq ?_
  refine bx rfl rfl rfl (fun b2 => ?_)
  refine sy_sq ?_
  refine bx rfl rfl rfl (fun b3 => ?_)
  refine sy_sq ?_
  refine sp rfl (PE.assign rfl) rfl ?_
  refine sy_sn ?_
  refine sy_nx ?_
  refine sy_seq ?_
  refine sy_tx' [0, 1, 2, 3, 4, 5, 6, 7, 8, 9, 10, 11, 12, 13, 14, 15, 16] rfl ?_
  refine sy_sq ?_
  refine sp rfl (PE.fieldAddr fo34_0 rfl) rfl ?_
  refine sy_sq ?_
  refine spL rfl rfl (lh sc3 rfl rfl) rfl ?_
  refine sy_sq ?_
  refine sp rfl (PE.fieldAddr fo37_3 rfl) rfl ?_
  refine sy_sq ?_
  refine spL rfl rfl (lh sc3 rfl rfl) rfl ?_
  refine sy_sq ?_
  refine sp rfl (PE.add rfl rfl (by omega)) rfl ?_
  refine sy_sq ?_
  refine sp rfl (PE.mul rfl rfl (by omega)) rfl ?_
  refine sy_sq ?_
  refine sp rfl (PE.fieldAddr fo34_1 rfl) rfl ?_
  refine sy_sq ?_
  refine spL rfl rfl (lh sc3 rfl rfl) rfl ?_
  refine sy_sq ?_
  refine sp rfl (PE.add rfl rfl (by omega)) rfl ?_
  refine sy_sq ?_
  refine sp rfl (PE.fieldAddr fo37_4 rfl) rfl ?_
  refine sy_sq ?_
  refine spL rfl rfl (lh sc3 rfl rfl) rfl ?_
  refine sy_sq ?_
  refine sp rfl (PE.add rfl rfl (by omega)) rfl ?_
  refine sy_sq ?_
  refine sp rfl (PE.mul rfl rfl (by omega)) rfl ?_
  refine sy_sq ?_
  refine sp rfl (PE.fieldAddr fo34_2 rfl) rfl ?_
  refine sy_sq ?_
  refine spL rfl rfl (lh sc3 rfl rfl) rfl ?_
  refine sy_sq ?_
  refine sp rfl (PE.add rfl rfl (by omega)) rfl ?_
  refine sy_sq ?_
  refine sp rfl (PE.assign rfl) rfl ?_
  refine sy_sn ?_
  refine sy_nx ?_
  refine sy_ret ?_
  exact sy_return (vs := [_]) rfl (.cons (RV.tmp rfl) .nil) rfl ⟨congrArg (Value.int .i64) (ixr_int ht hs).symm, rfl, rfl⟩ (fun _ h => by repeat first | exact h | replace h := St.tail h | replace h := St.ftail h | replace h := St.drop h)

theorem sts_take {t : Twn} {a b c : Nat} (ha : a ≤ t.holds.toNat) (hb : b ≤ t.patience.toNat) (hc : c ≤ t.run.toNat) :
    (sts t).take ((a * (t.patience.toNat + 1) + b) * (t.run.toNat + 1) + (c + 1)) = (sts t).take ((a * (t.patience.toNat + 1) + b) * (t.run.toNat + 1) + c) ++ [⟨a, b, c⟩] := by
  rw [← Nat.add_assoc, List.take_add_one, sts_get (nst_lt ha hb hc), staAt_of hb hc]; rfl
theorem sts_end {t : Twn} : (sts t).take ((t.holds.toNat + 1) * (t.patience.toNat + 1) * (t.run.toNat + 1)) = sts t := List.take_of_length_le (by rw [sts_len]; exact Nat.le_refl _)

theorem c_rStates (t : Twn) (ht : t.ok) (sl : Value) (H : Heap) (R : Facts) :
    Fn Try.prog 85 [t.v sl] H R (fun v H' R' => ∃ o : OSl 34 3 (srows (sts t)), v = o.fs ∧ H' = o.G ++ H ∧ R' = R) := by
  have h1 := ht.holds
  have h2 := ht.patience
  have h3 := ht.run
  refine fn_of Try.func85 rfl Try.ntmps85 rfl ?_
  refine sy_seq ?_
  refine sy_tx' [0, 1] rfl ?_
  refine sy_sq ?_
  refine bx rfl rfl rfl (fun b1 => ?_)
  refine sy_sq ?_
  refine sp rfl (PE.assign rfl) rfl ?_
  refine sy_sn ?_
  refine sy_nx ?_
  refine sy_seq ?_
  refine sy_tx' [0] rfl ?_
  refine sy_sq ?_
  refine sp rfl (PE.assign rfl) rfl ?_
  refine sy_sn ?_
  refine sy_nx ?_
  refine sy_seq ?_
  refine sy_seq ?_
  refine sy_tx' [0] rfl ?_
  refine sy_sq ?_
  refine sp rfl (PE.assign rfl) rfl ?_
  refine sy_sn ?_
  refine sy_nx ?_
  refine sy_block ?_
  refine sy_loop (ι := (k : {k : Nat // k ≤ t.holds.toNat + 1}) × OSl 34 3 (srows ((sts t).take (k.1 * (t.patience.toNat + 1) * (t.run.toNat + 1))))) (fun x => ⟨[(1, .pointer (some ⟨b1, 0, none⟩)), (3, x.2.fs), (4, .int .i64 x.1.1)], x.2.G ++ (b1, cel 37 (twl t sl)) :: H, R⟩) (fun x => t.holds.toNat + 1 - x.1.1) ⟨⟨0, by omega⟩, (OSl.nil _ _).cast (by simp [srows])⟩ ?_ (fun x => ?_)
  ·
   exact sy_at (by repeat' first | exact Sub.nil | apply Sub.cons | rfl | (simp [lk]; omega)) (fun _ h => h)
  ·
   obtain ⟨⟨a, ha⟩, o0⟩ := x
   dsimp only at o0 ⊢
   refine sy_seq ?_
   refine sy_seq ?_
   refine sy_tx' [0, 1, 2, 3] rfl ?_
   refine sy_sq ?_
   refine sp rfl (PE.move rfl) rfl ?_
   refine sy_sq ?_
   refine sp rfl (PE.fieldAddr fo37_1 rfl) rfl ?_
   refine sy_sq ?_
   refine spL rfl rfl (lh sc3 rfl rfl) rfl ?_
   refine sy_sq ?_
   refine sp rfl (PE.leq rfl rfl) rfl ?_
   refine sy_sn ?_
   refine sy_nx ?_
   refine sy_cond rfl (fun hc0 => ?_) (fun hc0 => ?_)
   ·
    try simp only [decide_eq_true_eq, decide_eq_false_iff_not, Bool.and_eq_true, Bool.or_eq_true, Bool.not_eq_true', Int.not_le, Int.not_lt] at hc0
    refine sy_skip ?_
    refine sy_nx ?_
    refine sy_seq ?_
    refine sy_block ?_
    refine sy_seq ?_
    refine sy_tx' [0] rfl ?_
    refine sy_sq ?_
    refine sp rfl (PE.assign rfl) rfl ?_
    refine sy_sn ?_
    refine sy_nx ?_
    refine sy_block ?_
    refine sy_loop (ι := (k : {k : Nat // k ≤ t.patience.toNat + 1}) × OSl 34 3 (srows ((sts t).take ((a * (t.patience.toNat + 1) + k.1) * (t.run.toNat + 1))))) (fun x => ⟨[(1, .pointer (some ⟨b1, 0, none⟩)), (3, x.2.fs), (4, .int .i64 a), (5, .int .i64 x.1.1)], x.2.G ++ (b1, cel 37 (twl t sl)) :: H, R⟩) (fun x => t.patience.toNat + 1 - x.1.1) ⟨⟨0, by omega⟩, o0.cast rfl⟩ ?_ (fun x => ?_)
    ·
     exact sy_at (by repeat' first | exact Sub.nil | apply Sub.cons | rfl | (simp [lk]; omega)) (fun _ h => h)
    ·
     obtain ⟨⟨b, hb⟩, o1⟩ := x
     dsimp only at o1 ⊢
     refine sy_seq ?_
     refine sy_seq ?_
     refine sy_tx' [0, 1, 2, 3] rfl ?_
     refine sy_sq ?_
     refine sp rfl (PE.move rfl) rfl ?_
     refine sy_sq ?_
     refine sp rfl (PE.fieldAddr fo37_3 rfl) rfl ?_
     refine sy_sq ?_
     refine spL rfl rfl (lh sc3 rfl rfl) rfl ?_
     refine sy_sq ?_
     refine sp rfl (PE.leq rfl rfl) rfl ?_
     refine sy_sn ?_
     refine sy_nx ?_
     refine sy_cond rfl (fun hc1 => ?_) (fun hc1 => ?_)
     ·
      try simp only [decide_eq_true_eq, decide_eq_false_iff_not, Bool.and_eq_true, Bool.or_eq_true, Bool.not_eq_true', Int.not_le, Int.not_lt] at hc1
      refine sy_skip ?_
      refine sy_nx ?_
      refine sy_seq ?_
      refine sy_block ?_
      refine sy_seq ?_
      refine sy_tx' [0] rfl ?_
      refine sy_sq ?_
      refine sp rfl (PE.assign rfl) rfl ?_
      refine sy_sn ?_
      refine sy_nx ?_
      refine sy_block ?_
      refine sy_loop (ι := (k : {k : Nat // k ≤ t.run.toNat + 1}) × OSl 34 3 (srows ((sts t).take ((a * (t.patience.toNat + 1) + b) * (t.run.toNat + 1) + k.1)))) (fun x => ⟨[(1, .pointer (some ⟨b1, 0, none⟩)), (3, x.2.fs), (4, .int .i64 a), (5, .int .i64 b), (6, .int .i64 x.1.1)], x.2.G ++ (b1, cel 37 (twl t sl)) :: H, R⟩) (fun x => t.run.toNat + 1 - x.1.1) ⟨⟨0, by omega⟩, o1.cast rfl⟩ ?_ (fun x => ?_)
      ·
       exact sy_at (by repeat' first | exact Sub.nil | apply Sub.cons | rfl | (simp [lk]; omega)) (fun _ h => h)
      ·
       obtain ⟨⟨c, hc⟩, o2⟩ := x
       dsimp only at o2 ⊢
       refine sy_seq ?_
       refine sy_seq ?_
       refine sy_tx' [0, 1, 2, 3] rfl ?_
       refine sy_sq ?_
       refine sp rfl (PE.move rfl) rfl ?_
       refine sy_sq ?_
       refine sp rfl (PE.fieldAddr fo37_4 rfl) rfl ?_
       refine sy_sq ?_
       refine spL rfl rfl (lh sc3 rfl rfl) rfl ?_
       refine sy_sq ?_
       refine sp rfl (PE.leq rfl rfl) rfl ?_
       refine sy_sn ?_
       refine sy_nx ?_
       refine sy_cond rfl (fun hc2 => ?_) (fun hc2 => ?_)
       ·
        try simp only [decide_eq_true_eq, decide_eq_false_iff_not, Bool.and_eq_true, Bool.or_eq_true, Bool.not_eq_true', Int.not_le, Int.not_lt] at hc2
        refine sy_skip ?_
        refine sy_nx ?_
        refine sy_seq ?_
        refine sy_block ?_
        refine sy_tx' [0, 1, 2, 3, 4, 5, 6, 7] rfl ?_
        refine sy_sq ?_
        refine sp rfl (PE.move rfl) rfl ?_
        refine sy_sq ?_
        refine sp rfl (PE.move rfl) rfl ?_
        refine sy_sq ?_
        refine sp rfl (PE.move rfl) rfl ?_
        refine sy_sq ?_
        refine sp rfl (PE.move rfl) rfl ?_
        refine sy_sq ?_
        refine sp rfl (PE.build (out := [_, _, _]) pl34 zl34 rfl rfl) rfl ?_
        refine sy_sq ?_
        refine bsl (out := [_, _, _]) rfl sl82 zl34 rfl rfl rfl rfl rfl rfl (fun b30 => ?_)
        refine sy_sq ?_
        refine apO (o2) rfl ap82 rfl rfl (rowsH (row := srow ⟨a, b, c⟩) rfl) rfl rfl ((by have := nst_le ht; have := nst_lt (t := t) (a := a) (b := b) (c := c) (by omega) (by omega) (by omega); simp only [srows, List.length_map, List.length_take, List.length_singleton]; omega)) rfl (fun o31 => ?_)
        refine sy_sq ?_
        refine sp rfl (PE.assign rfl) rfl ?_
        refine sy_sn ?_
        refine sy_bn ?_
        refine sy_nx ?_
        refine sy_tx' [0, 1, 2] rfl ?_
        refine sy_sq ?_
        refine sp rfl (PE.move rfl) rfl ?_
        refine sy_sq ?_
        refine sp rfl (PE.add rfl rfl (by omega)) rfl ?_
        refine sy_sq ?_
        refine sp rfl (PE.assign rfl) rfl ?_
        refine sy_sn ?_
        refine sy_nx ?_
        exact sy_next ⟨⟨c + 1, by omega⟩, o31.cast (by rw [sts_take (by omega) (by omega) (by omega)]; simp [srows])⟩ (by dsimp only; omega) (by repeat' first | exact Sub.nil | apply Sub.cons | rfl | (simp [lk]; omega)) (fun w h => h.del b30)
       ·
        try simp only [decide_eq_true_eq, decide_eq_false_iff_not, Bool.and_eq_true, Bool.or_eq_true, Bool.not_eq_true', Int.not_le, Int.not_lt] at hc2
        obtain rfl : c = t.run.toNat + 1 := by omega
        refine sy_exit ?_
        refine sy_tx ?_
        refine sy_tx ?_
        refine sy_bx ?_
        refine sy_bn ?_
        refine sy_nx ?_
        refine sy_tx' [0, 1, 2] rfl ?_
        refine sy_sq ?_
        refine sp rfl (PE.move rfl) rfl ?_
        refine sy_sq ?_
        refine sp rfl (PE.add rfl rfl (by omega)) rfl ?_
        refine sy_sq ?_
        refine sp rfl (PE.assign rfl) rfl ?_
        refine sy_sn ?_
        refine sy_nx ?_
        exact sy_next ⟨⟨b + 1, by omega⟩, o2.cast (by rw [show a * (t.patience.toNat + 1) + (b + 1) = (a * (t.patience.toNat + 1) + b) + 1 from rfl, Nat.succ_mul])⟩ (by dsimp only; omega) (by repeat' first | exact Sub.nil | apply Sub.cons | rfl | (simp [lk]; omega)) (fun _ h => h)
     ·
      try simp only [decide_eq_true_eq, decide_eq_false_iff_not, Bool.and_eq_true, Bool.or_eq_true, Bool.not_eq_true', Int.not_le, Int.not_lt] at hc1
      obtain rfl : b = t.patience.toNat + 1 := by omega
      refine sy_exit ?_
      refine sy_tx ?_
      refine sy_tx ?_
      refine sy_bx ?_
      refine sy_bn ?_
      refine sy_nx ?_
      refine sy_tx' [0, 1, 2] rfl ?_
      refine sy_sq ?_
      refine sp rfl (PE.move rfl) rfl ?_
      refine sy_sq ?_
      refine sp rfl (PE.add rfl rfl (by omega)) rfl ?_
      refine sy_sq ?_
      refine sp rfl (PE.assign rfl) rfl ?_
      refine sy_sn ?_
      refine sy_nx ?_
      exact sy_next ⟨⟨a + 1, by omega⟩, o1.cast (by rw [Nat.succ_mul])⟩ (by dsimp only; omega) (by repeat' first | exact Sub.nil | apply Sub.cons | rfl | (simp [lk]; omega)) (fun _ h => h)
   ·
    try simp only [decide_eq_true_eq, decide_eq_false_iff_not, Bool.and_eq_true, Bool.or_eq_true, Bool.not_eq_true', Int.not_le, Int.not_lt] at hc0
    obtain rfl : a = t.holds.toNat + 1 := by omega
    refine sy_exit ?_
    refine sy_tx ?_
    refine sy_tx ?_
    refine sy_bx ?_
    refine sy_nx ?_
    refine sy_seq ?_
    refine sy_tx' [0, 1] rfl ?_
    refine sy_sq ?_
    refine sp rfl (PE.move rfl) rfl ?_
    refine sy_sq ?_
    refine sp rfl (PE.assign rfl) rfl ?_
    refine sy_sn ?_
    refine sy_nx ?_
    refine sy_ret ?_
    exact sy_return (vs := [_]) rfl (.cons (RV.tmp rfl) .nil) rfl ⟨o0.cast (by rw [sts_end]), rfl, rfl, rfl⟩ (fun w h => h.del b1)
end Go.Proofs.Ytaldphhdkmchhaa
