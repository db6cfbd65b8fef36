/- Walks of the functions of the program, and the laws that join them: what the last theorem of this claim needs, in order. -/
import Derived.Test.YtknoaljnelfklaaCu3
namespace Go.Proofs.Ytknoaljnelfklaa
set_option linter.unusedSimpArgs false
set_option linter.unusedVariables false
open Go
theorem are29 : arE Try.prog 29 = some (4, 3) := by kernel_rfl
theorem cal111 : cal Try.prog 111 = true := by kernel_rfl
theorem cal112 : cal Try.prog 112 = true := by kernel_rfl
theorem cal64 : cal Try.prog 64 = true := by kernel_rfl
theorem cal70 : cal Try.prog 70 = true := by kernel_rfl
theorem cn123 : cellN Try.prog 123 = some 1 := by kernel_rfl
theorem el22 : elN Try.prog 22 = some 1 := by kernel_rfl
theorem fo125_0 : fOff Try.prog 125 0 = some 0 := by kernel_rfl
theorem fo125_1 : fOff Try.prog 125 1 = some 1 := by kernel_rfl
theorem fo125_2 : fOff Try.prog 125 2 = some 2 := by kernel_rfl
theorem ik123 : intK Try.prog 123 = some .u32 := by kernel_rfl
theorem ik3 : intK Try.prog 3 = some .i64 := by kernel_rfl
theorem isl22 : isSl Try.prog 22 = true := by kernel_rfl
theorem pl125 : placeL Try.prog 125 = some [(0, 1), (1, 1), (2, 1)] := by kernel_rfl
theorem sc123 : scal Try.prog 123 = true := by kernel_rfl
theorem sc22 : scal Try.prog 22 = true := by kernel_rfl
theorem sc5 : scal Try.prog 5 = true := by kernel_rfl
theorem us123 : (Try.prog.underlying 123).isSome = true := by kernel_rfl
theorem us3 : (Try.prog.underlying 3).isSome = true := by kernel_rfl
theorem us5 : (Try.prog.underlying 5).isSome = true := by kernel_rfl
theorem zl125 : zeroL Try.prog 125 = some ([.slice none 0 0, .int .i64 0, .int .u32 0]) := by kernel_rfl
def urow (x : Int) : List Value := [.int .u8 x]
def urows (l : List Int) : List (List Value) := l.map urow
theorem c_Fill (g : List Int) (ag : Option Addr) (cg : Nat) (hgl : g.length ≤ 9223372036854775807) (H : Heap) (R : Facts) :
    Fn Try.prog 14 [.slice ag g.length cg] H R (fun v H' R' => ∃ bk, ∃ mx : Int, (0 ≤ mx ∧ mx ≤ 4294967295) ∧ v = .pointer (some ⟨bk, 0, none⟩) ∧ H' = (bk, cel 125 [.slice ag g.length cg, .int .i64 (0), .int .u32 (mx)]) :: H ∧ R' = R) := by
 refine fn_of Try.func14 rfl Try.ntmps14 rfl ?_
 refine sy_seq ?_
 refine sy_tx' [0] rfl ?_
 refine sp rfl (PE.assign rfl) rfl ?_
 refine sy_seq ?_
 refine sy_tx' [0, 1, 2, 3, 4, 5, 6, 7] rfl ?_
 refine sp rfl (PE.move rfl) rfl ?_
 refine sp rfl (PE.move rfl) rfl ?_
 refine sp rfl (PE.lenSl isl22 rfl) rfl ?_
 refine spE rfl (PE.convU us3 ik123 rfl) rfl ?_
 rintro _ ⟨u6, rfl, hu6⟩
 refine spE rfl (PE.xorU rfl rfl) rfl ?_
 rintro _ ⟨u7, rfl, hu7⟩
 refine sp rfl (PE.build (out := [_, _, _]) pl125 zl125 rfl rfl) rfl ?_
 refine bx rfl rfl rfl (fun b9 => ?_)
 refine sp rfl (PE.assign rfl) rfl ?_
 refine sy_ret ?_
 exact sy_return (vs := [_]) rfl (.cons (RV.tmp rfl) .nil) rfl ⟨b9, u7, hu7, rfl, rfl, rfl⟩ (fun _ h => h)
theorem c_handful (g : List Int) (ag : Option Addr) (cg bk : Nat) (hgl : g.length ≤ 9223372036854775807) (tq mx : Int) (htq : 0 ≤ tq ∧ tq ≤ 1000000000) (hmx : 0 ≤ mx ∧ mx ≤ 4294967295) (H : Heap) (R : Facts) [hG : MemRows ag 1 (urows g) R] :
    Fn Try.prog 112 [.pointer (some ⟨bk, 0, none⟩)] ((bk, cel 125 [.slice ag g.length cg, .int .i64 (tq), .int .u32 (mx)]) :: H) R (fun v H' R' => ∃ x m' : Int, (0 ≤ x ∧ x ≤ 65535) ∧ v = .int .i64 x ∧ (0 ≤ m' ∧ m' ≤ 4294967295) ∧ H' = (bk, cel 125 [.slice ag g.length cg, .int .i64 (tq + 1), .int .u32 (m')]) :: H ∧ R' = R) := by
 refine fn_of Try.func112 rfl Try.ntmps112 rfl ?_
 refine sy_seq ?_
 refine sy_tx' [0] rfl ?_
 refine sp rfl (PE.assign rfl) rfl ?_
 refine sy_seq ?_
 refine sy_seq ?_
 refine sy_tx' [0, 1, 2, 3, 4, 5] rfl ?_
 refine sp rfl (PE.move rfl) rfl ?_
 refine sp rfl (PE.nilCheck rfl) rfl ?_
 refine sp rfl (PE.fieldAddr fo125_0 rfl) rfl ?_
 refine spL rfl rfl (lh sc22 rfl rfl) rfl ?_
 refine sp rfl (PE.lenSl isl22 rfl) rfl ?_
 refine sp rfl (PE.assign rfl) rfl ?_
 refine sy_seq ?_
 refine sy_tx' [0, 1] rfl ?_
 refine sp rfl (PE.move rfl) rfl ?_
 refine sp rfl (PE.gtr rfl rfl) rfl ?_
 refine sy_cond rfl (fun hc0 => ?_) (fun hc0 => ?_)
 try simp only [decide_eq_true_eq, decide_eq_false_iff_not, Bool.and_eq_true, Bool.or_eq_true, Bool.not_eq_true', Int.not_le, Int.not_lt] at hc0
 obtain ⟨y, hy⟩ : ∃ y, g[(tq % g.length).toNat]? = some y := ⟨_, List.getElem?_eq_getElem (by have := Int.emod_lt_of_pos tq hc0; have := Int.emod_nonneg tq (show (g.length : Int) ≠ 0 by omega); omega)⟩
 refine sy_addr (a := ag) (sz := 1) (rows := urows g) (by intro h0; simp [urows] at h0; simp [h0] at hy) (fun bgr ogr he => ?_)
 subst he
 refine sy_draw [0, 0, 2, 6, 14, 0, 32, 96, 224, 0, 512, 1536, 3584, 0, 15872, 32736, 65504, 131040, 262142, 524286, 1048575, 2097151, 4194303] (.tk 0 (.tk 1 (.tk 2 (.tk 3 (.ld 4 (.tk 5 (.tk 6 (.tk 7 (.ld 8 (.tk 9 (.tk 10 (.tk 11 (.ld 12 (.tk 13 (.tk 14 (.tk 15 (.ld 16 (.tk 17 (.tk 18 (.tk 19 (.tk 20 (.tk 21 (.big 22 .done))))))))))))))))))))))) mixed (by kernel_rfl) ?_
 refine tk rfl (PE.move rfl) rfl ?_
 refine tk rfl (PE.move rfl) rfl ?_
 refine tk rfl (PE.nilCheck rfl) rfl ?_
 refine tk rfl (PE.fieldAddr fo125_2 rfl) rfl ?_
 refine ld rfl rfl (lh sc123 rfl rfl) rfl ?_
 refine tk rfl (PE.move rfl) rfl ?_
 refine tk rfl (PE.nilCheck rfl) rfl ?_
 refine tk rfl (PE.fieldAddr fo125_0 rfl) rfl ?_
 refine ld rfl rfl (lh sc22 rfl rfl) rfl ?_
 refine tk rfl (PE.move rfl) rfl ?_
 refine tk rfl (PE.nilCheck rfl) rfl ?_
 refine tk rfl (PE.fieldAddr fo125_1 rfl) rfl ?_
 refine ld rfl rfl (lh sc3 rfl rfl) rfl ?_
 refine tk rfl (PE.move rfl) rfl ?_
 refine tk rfl (PE.rem rfl rfl (by omega)) rfl ?_
 refine tk rfl (PE.indexAddr el22 rfl rfl (by exact Int.emod_nonneg tq (by omega)) (by exact Int.emod_lt_of_pos tq hc0)) rfl ?_
 refine ld rfl rfl (lf0 (x := .int .u8 y) sc5 (by simp [urows, urow, hy]; rfl) rfl) rfl ?_
 refine tkE rfl (PE.convU us5 ik123 rfl) rfl ?_
 rintro _ ⟨u28, rfl, hu28⟩
 refine tkE rfl (PE.xorU rfl rfl) rfl ?_
 rintro _ ⟨u29, rfl, hu29⟩
 refine tkE rfl (PE.mulU rfl rfl) rfl ?_
 rintro _ ⟨u30, rfl, hu30⟩
 refine tk rfl (PE.nilCheck rfl) rfl ?_
 refine tk rfl (PE.fieldAddr fo125_2 rfl) rfl ?_
 refine sto rfl rfl rfl cn123 rfl rfl rfl rfl ?_
 refine bg (fun w hs => ⟨trivial, trivial, trivial, trivial, trivial⟩) ?_
 refine sy_seq ?_
 refine sy_tx' [0, 1, 2, 3, 4, 5, 6, 7] rfl ?_
 refine sp rfl (PE.move rfl) rfl ?_
 refine sp rfl (PE.nilCheck rfl) rfl ?_
 refine sp rfl (PE.fieldAddr fo125_1 rfl) rfl ?_
 refine spL rfl rfl (lh sc3 rfl rfl) rfl ?_
 refine sp rfl (PE.add rfl rfl (by omega)) rfl ?_
 refine sp rfl (PE.nilCheck rfl) rfl ?_
 refine sp rfl (PE.fieldAddr fo125_1 rfl) rfl ?_
 refine sto rfl rfl rfl cn3 rfl rfl rfl rfl ?_
 refine sy_seq ?_
 refine sy_seq ?_
 refine sy_draw [0, 1, 3, 7, 0, 16, 48, 112, 240, 511] (.tk 0 (.tk 1 (.tk 2 (.ld 3 (.tk 4 (.tk 5 (.tk 6 (.ld 7 (.tk 8 (.tk 9 .done)))))))))) mixed (by kernel_rfl) ?_
 refine tk rfl (PE.move rfl) rfl ?_
 refine tk rfl (PE.nilCheck rfl) rfl ?_
 refine tk rfl (PE.fieldAddr fo125_1 rfl) rfl ?_
 refine ld rfl rfl (lh sc3 rfl rfl) rfl ?_
 refine tk rfl (PE.move rfl) rfl ?_
 refine tk rfl (PE.nilCheck rfl) rfl ?_
 refine tk rfl (PE.fieldAddr fo125_0 rfl) rfl ?_
 refine ld rfl rfl (lh sc22 rfl rfl) rfl ?_
 refine tk rfl (PE.lenSl isl22 rfl) rfl ?_
 refine tk rfl (PE.gtr rfl rfl) rfl ?_
 refine sy_cond rfl (fun hc1 => ?_) (fun hc1 => ?_)
 try simp only [decide_eq_true_eq, decide_eq_false_iff_not, Bool.and_eq_true, Bool.or_eq_true, Bool.not_eq_true', Int.not_le, Int.not_lt] at hc1
 refine sy_tx' [0, 1, 2, 3, 4, 5, 6, 7, 8, 9] rfl ?_
 refine sp rfl (PE.move rfl) rfl ?_
 refine sp rfl (PE.move rfl) rfl ?_
 refine sp rfl (PE.nilCheck rfl) rfl ?_
 refine sp rfl (PE.fieldAddr fo125_2 rfl) rfl ?_
 refine spL rfl rfl (lh sc123 rfl rfl) rfl ?_
 refine spE rfl (PE.mulU rfl rfl) rfl ?_
 rintro _ ⟨u55, rfl, hu55⟩
 refine spE rfl (PE.addU rfl rfl) rfl ?_
 rintro _ ⟨u56, rfl, hu56⟩
 refine sp rfl (PE.nilCheck rfl) rfl ?_
 refine sp rfl (PE.fieldAddr fo125_2 rfl) rfl ?_
 refine sto rfl rfl rfl cn123 rfl rfl rfl rfl ?_
 refine sy_seq ?_
 refine sy_draw [0, 1, 3, 7, 0, 16, 48, 112, 240, 511, 1023, 2047, 4095, 8191] (.tk 0 (.tk 1 (.tk 2 (.ld 3 (.tk 4 (.tk 5 (.tk 6 (.ld 7 (.tk 8 (.tk 9 (.tk 10 (.tk 11 (.tk 12 (.tk 13 .done)))))))))))))) mixed (by kernel_rfl) ?_
 refine tk rfl (PE.move rfl) rfl ?_
 refine tk rfl (PE.nilCheck rfl) rfl ?_
 refine tk rfl (PE.fieldAddr fo125_2 rfl) rfl ?_
 refine ld rfl rfl (lh sc123 rfl rfl) rfl ?_
 refine tk rfl (PE.move rfl) rfl ?_
 refine tk rfl (PE.nilCheck rfl) rfl ?_
 refine tk rfl (PE.fieldAddr fo125_2 rfl) rfl ?_
 refine ld rfl rfl (lh sc123 rfl rfl) rfl ?_
 refine tkE rfl (PE.shrU rfl rfl (by decide) (by omega) (by omega)) rfl ?_
 rintro _ ⟨u67, rfl, hu67⟩
 refine tkE rfl (PE.xorU rfl rfl) rfl ?_
 rintro _ ⟨u68, rfl, hu68⟩
 refine tkE rfl (PE.shrU rfl rfl (by decide) (by omega) (by omega)) rfl ?_
 rintro _ ⟨u69, rfl, hu69⟩
 refine tkE rfl (PE.andU rfl rfl (by decide) (by decide)) rfl ?_
 rintro _ ⟨u70, rfl, hu70⟩
 refine tk rfl (PE.conv64 us123 ik3 rfl (by omega)) rfl ?_
 refine tk rfl (PE.assign rfl) rfl ?_
 refine sy_ret ?_
 first
   | exact sy_return (vs := [_]) rfl (.cons (RV.tmp rfl) .nil) rfl ⟨u70, _, hu70, rfl, hu56, rfl, rfl⟩ (fun _ h => h)
   | exact sy_return (vs := [_]) rfl (.cons (RV.tmp rfl) .nil) rfl ⟨u70, _, hu70, rfl, hu30, rfl, rfl⟩ (fun _ h => h)
   | exact sy_return (vs := [_]) rfl (.cons (RV.tmp rfl) .nil) rfl ⟨u70, _, hu70, rfl, hmx, rfl, rfl⟩ (fun _ h => h)
 try simp only [decide_eq_true_eq, decide_eq_false_iff_not, Bool.and_eq_true, Bool.or_eq_true, Bool.not_eq_true', Int.not_le, Int.not_lt] at hc1
 refine sy_skip ?_
 refine sy_seq ?_
 refine sy_draw [0, 1, 3, 7, 0, 16, 48, 112, 240, 511, 1023, 2047, 4095, 8191] (.tk 0 (.tk 1 (.tk 2 (.ld 3 (.tk 4 (.tk 5 (.tk 6 (.ld 7 (.tk 8 (.tk 9 (.tk 10 (.tk 11 (.tk 12 (.tk 13 .done)))))))))))))) mixed (by kernel_rfl) ?_
 refine tk rfl (PE.move rfl) rfl ?_
 refine tk rfl (PE.nilCheck rfl) rfl ?_
 refine tk rfl (PE.fieldAddr fo125_2 rfl) rfl ?_
 refine ld rfl rfl (lh sc123 rfl rfl) rfl ?_
 refine tk rfl (PE.move rfl) rfl ?_
 refine tk rfl (PE.nilCheck rfl) rfl ?_
 refine tk rfl (PE.fieldAddr fo125_2 rfl) rfl ?_
 refine ld rfl rfl (lh sc123 rfl rfl) rfl ?_
 refine tkE rfl (PE.shrU rfl rfl (by decide) (by omega) (by omega)) rfl ?_
 rintro _ ⟨u67, rfl, hu67⟩
 refine tkE rfl (PE.xorU rfl rfl) rfl ?_
 rintro _ ⟨u68, rfl, hu68⟩
 refine tkE rfl (PE.shrU rfl rfl (by decide) (by omega) (by omega)) rfl ?_
 rintro _ ⟨u69, rfl, hu69⟩
 refine tkE rfl (PE.andU rfl rfl (by decide) (by decide)) rfl ?_
 rintro _ ⟨u70, rfl, hu70⟩
 refine tk rfl (PE.conv64 us123 ik3 rfl (by omega)) rfl ?_
 refine tk rfl (PE.assign rfl) rfl ?_
 refine sy_ret ?_
 first
   | exact sy_return (vs := [_]) rfl (.cons (RV.tmp rfl) .nil) rfl ⟨u70, _, hu70, rfl, hu56, rfl, rfl⟩ (fun _ h => h)
   | exact sy_return (vs := [_]) rfl (.cons (RV.tmp rfl) .nil) rfl ⟨u70, _, hu70, rfl, hu30, rfl, rfl⟩ (fun _ h => h)
   | exact sy_return (vs := [_]) rfl (.cons (RV.tmp rfl) .nil) rfl ⟨u70, _, hu70, rfl, hmx, rfl, rfl⟩ (fun _ h => h)
 try simp only [decide_eq_true_eq, decide_eq_false_iff_not, Bool.and_eq_true, Bool.or_eq_true, Bool.not_eq_true', Int.not_le, Int.not_lt] at hc0
 refine sy_skip ?_
 refine sy_seq ?_
 refine sy_tx' [0, 1, 2, 3, 4, 5, 6, 7] rfl ?_
 refine sp rfl (PE.move rfl) rfl ?_
 refine sp rfl (PE.nilCheck rfl) rfl ?_
 refine sp rfl (PE.fieldAddr fo125_1 rfl) rfl ?_
 refine spL rfl rfl (lh sc3 rfl rfl) rfl ?_
 refine sp rfl (PE.add rfl rfl (by omega)) rfl ?_
 refine sp rfl (PE.nilCheck rfl) rfl ?_
 refine sp rfl (PE.fieldAddr fo125_1 rfl) rfl ?_
 refine sto rfl rfl rfl cn3 rfl rfl rfl rfl ?_
 refine sy_seq ?_
 refine sy_seq ?_
 refine sy_draw [0, 1, 3, 7, 0, 16, 48, 112, 240, 511] (.tk 0 (.tk 1 (.tk 2 (.ld 3 (.tk 4 (.tk 5 (.tk 6 (.ld 7 (.tk 8 (.tk 9 .done)))))))))) mixed (by kernel_rfl) ?_
 refine tk rfl (PE.move rfl) rfl ?_
 refine tk rfl (PE.nilCheck rfl) rfl ?_
 refine tk rfl (PE.fieldAddr fo125_1 rfl) rfl ?_
 refine ld rfl rfl (lh sc3 rfl rfl) rfl ?_
 refine tk rfl (PE.move rfl) rfl ?_
 refine tk rfl (PE.nilCheck rfl) rfl ?_
 refine tk rfl (PE.fieldAddr fo125_0 rfl) rfl ?_
 refine ld rfl rfl (lh sc22 rfl rfl) rfl ?_
 refine tk rfl (PE.lenSl isl22 rfl) rfl ?_
 refine tk rfl (PE.gtr rfl rfl) rfl ?_
 refine sy_cond rfl (fun hc1 => ?_) (fun hc1 => ?_)
 try simp only [decide_eq_true_eq, decide_eq_false_iff_not, Bool.and_eq_true, Bool.or_eq_true, Bool.not_eq_true', Int.not_le, Int.not_lt] at hc1
 refine sy_tx' [0, 1, 2, 3, 4, 5, 6, 7, 8, 9] rfl ?_
 refine sp rfl (PE.move rfl) rfl ?_
 refine sp rfl (PE.move rfl) rfl ?_
 refine sp rfl (PE.nilCheck rfl) rfl ?_
 refine sp rfl (PE.fieldAddr fo125_2 rfl) rfl ?_
 refine spL rfl rfl (lh sc123 rfl rfl) rfl ?_
 refine spE rfl (PE.mulU rfl rfl) rfl ?_
 rintro _ ⟨u55, rfl, hu55⟩
 refine spE rfl (PE.addU rfl rfl) rfl ?_
 rintro _ ⟨u56, rfl, hu56⟩
 refine sp rfl (PE.nilCheck rfl) rfl ?_
 refine sp rfl (PE.fieldAddr fo125_2 rfl) rfl ?_
 refine sto rfl rfl rfl cn123 rfl rfl rfl rfl ?_
 refine sy_seq ?_
 refine sy_draw [0, 1, 3, 7, 0, 16, 48, 112, 240, 511, 1023, 2047, 4095, 8191] (.tk 0 (.tk 1 (.tk 2 (.ld 3 (.tk 4 (.tk 5 (.tk 6 (.ld 7 (.tk 8 (.tk 9 (.tk 10 (.tk 11 (.tk 12 (.tk 13 .done)))))))))))))) mixed (by kernel_rfl) ?_
 refine tk rfl (PE.move rfl) rfl ?_
 refine tk rfl (PE.nilCheck rfl) rfl ?_
 refine tk rfl (PE.fieldAddr fo125_2 rfl) rfl ?_
 refine ld rfl rfl (lh sc123 rfl rfl) rfl ?_
 refine tk rfl (PE.move rfl) rfl ?_
 refine tk rfl (PE.nilCheck rfl) rfl ?_
 refine tk rfl (PE.fieldAddr fo125_2 rfl) rfl ?_
 refine ld rfl rfl (lh sc123 rfl rfl) rfl ?_
 refine tkE rfl (PE.shrU rfl rfl (by decide) (by omega) (by omega)) rfl ?_
 rintro _ ⟨u67, rfl, hu67⟩
 refine tkE rfl (PE.xorU rfl rfl) rfl ?_
 rintro _ ⟨u68, rfl, hu68⟩
 refine tkE rfl (PE.shrU rfl rfl (by decide) (by omega) (by omega)) rfl ?_
 rintro _ ⟨u69, rfl, hu69⟩
 refine tkE rfl (PE.andU rfl rfl (by decide) (by decide)) rfl ?_
 rintro _ ⟨u70, rfl, hu70⟩
 refine tk rfl (PE.conv64 us123 ik3 rfl (by omega)) rfl ?_
 refine tk rfl (PE.assign rfl) rfl ?_
 refine sy_ret ?_
 first
   | exact sy_return (vs := [_]) rfl (.cons (RV.tmp rfl) .nil) rfl ⟨u70, _, hu70, rfl, hu56, rfl, rfl⟩ (fun _ h => h)
   | exact sy_return (vs := [_]) rfl (.cons (RV.tmp rfl) .nil) rfl ⟨u70, _, hu70, rfl, hu30, rfl, rfl⟩ (fun _ h => h)
   | exact sy_return (vs := [_]) rfl (.cons (RV.tmp rfl) .nil) rfl ⟨u70, _, hu70, rfl, hmx, rfl, rfl⟩ (fun _ h => h)
 try simp only [decide_eq_true_eq, decide_eq_false_iff_not, Bool.and_eq_true, Bool.or_eq_true, Bool.not_eq_true', Int.not_le, Int.not_lt] at hc1
 refine sy_skip ?_
 refine sy_seq ?_
 refine sy_draw [0, 1, 3, 7, 0, 16, 48, 112, 240, 511, 1023, 2047, 4095, 8191] (.tk 0 (.tk 1 (.tk 2 (.ld 3 (.tk 4 (.tk 5 (.tk 6 (.ld 7 (.tk 8 (.tk 9 (.tk 10 (.tk 11 (.tk 12 (.tk 13 .done)))))))))))))) mixed (by kernel_rfl) ?_
 refine tk rfl (PE.move rfl) rfl ?_
 refine tk rfl (PE.nilCheck rfl) rfl ?_
 refine tk rfl (PE.fieldAddr fo125_2 rfl) rfl ?_
 refine ld rfl rfl (lh sc123 rfl rfl) rfl ?_
 refine tk rfl (PE.move rfl) rfl ?_
 refine tk rfl (PE.nilCheck rfl) rfl ?_
 refine tk rfl (PE.fieldAddr fo125_2 rfl) rfl ?_
 refine ld rfl rfl (lh sc123 rfl rfl) rfl ?_
 refine tkE rfl (PE.shrU rfl rfl (by decide) (by omega) (by omega)) rfl ?_
 rintro _ ⟨u67, rfl, hu67⟩
 refine tkE rfl (PE.xorU rfl rfl) rfl ?_
 rintro _ ⟨u68, rfl, hu68⟩
 refine tkE rfl (PE.shrU rfl rfl (by decide) (by omega) (by omega)) rfl ?_
 rintro _ ⟨u69, rfl, hu69⟩
 refine tkE rfl (PE.andU rfl rfl (by decide) (by decide)) rfl ?_
 rintro _ ⟨u70, rfl, hu70⟩
 refine tk rfl (PE.conv64 us123 ik3 rfl (by omega)) rfl ?_
 refine tk rfl (PE.assign rfl) rfl ?_
 refine sy_ret ?_
 first
   | exact sy_return (vs := [_]) rfl (.cons (RV.tmp rfl) .nil) rfl ⟨u70, _, hu70, rfl, hu56, rfl, rfl⟩ (fun _ h => h)
   | exact sy_return (vs := [_]) rfl (.cons (RV.tmp rfl) .nil) rfl ⟨u70, _, hu70, rfl, hu30, rfl, rfl⟩ (fun _ h => h)
   | exact sy_return (vs := [_]) rfl (.cons (RV.tmp rfl) .nil) rfl ⟨u70, _, hu70, rfl, hmx, rfl, rfl⟩ (fun _ h => h)
theorem c_Below (g : List Int) (ag : Option Addr) (cg bk : Nat) (hgl : g.length ≤ 9223372036854775807) (tq mx : Int) (htq : 0 ≤ tq ∧ tq ≤ 1000000000) (hmx : 0 ≤ mx ∧ mx ≤ 4294967295) (n : Int) (H : Heap) (R : Facts) [hG : MemRows ag 1 (urows g) R] :
    Fn Try.prog 64 [.pointer (some ⟨bk, 0, none⟩), .int .i64 n] ((bk, cel 125 [.slice ag g.length cg, .int .i64 (tq), .int .u32 (mx)]) :: H) R (fun v H' R' => ∃ x m' : Int, (0 ≤ x ∧ x < max 1 n) ∧ v = .int .i64 x ∧ (0 ≤ m' ∧ m' ≤ 4294967295) ∧ H' = (bk, cel 125 [.slice ag g.length cg, .int .i64 (tq + 1), .int .u32 (m')]) :: H ∧ R' = R) := by
 refine fn_of Try.func64 rfl Try.ntmps64 rfl ?_
 refine sy_seq ?_
 refine sy_tx' [0] rfl ?_
 refine sp rfl (PE.assign rfl) rfl ?_
 refine sy_seq ?_
 refine sy_tx' [0, 1, 2, 3, 4, 5] rfl ?_
 refine sp rfl (PE.move rfl) rfl ?_
 refine cl rfl cal112 rfl rfl (c_handful g ag cg bk hgl tq mx htq hmx _ _) ?_
 rintro _ _ _ ⟨x, m', hx, rfl, hm', rfl, rfl⟩
 refine sp rfl (PE.move rfl) rfl ?_
 refine sp rfl (PE.max rfl rfl) rfl ?_
 refine sp rfl (PE.rem rfl rfl (by omega)) rfl ?_
 refine sp rfl (PE.assign rfl) rfl ?_
 refine sy_ret ?_
 exact sy_return (vs := [_]) rfl (.cons (RV.tmp rfl) .nil) rfl ⟨_, m', ⟨Int.emod_nonneg _ (by omega), Int.emod_lt_of_pos _ (by omega)⟩, rfl, hm', rfl, rfl⟩ (fun _ h => h)
theorem c_Among (g : List Int) (ag : Option Addr) (cg bk : Nat) (hgl : g.length ≤ 9223372036854775807) (tq mx : Int) (htq : 0 ≤ tq ∧ tq ≤ 1000000000) (hmx : 0 ≤ mx ∧ mx ≤ 4294967295) (lo hi : Int) (hb : -1000000 ≤ lo ∧ lo ≤ 1000000 ∧ -1000000 ≤ hi ∧ hi ≤ 1000000) (H : Heap) (R : Facts) [hG : MemRows ag 1 (urows g) R] :
    Fn Try.prog 70 [.pointer (some ⟨bk, 0, none⟩), .int .i64 lo, .int .i64 hi] ((bk, cel 125 [.slice ag g.length cg, .int .i64 (tq), .int .u32 (mx)]) :: H) R (fun v H' R' => ∃ x m' : Int, (lo ≤ x ∧ x < lo + max 1 (hi - lo + 1)) ∧ v = .int .i64 x ∧ (0 ≤ m' ∧ m' ≤ 4294967295) ∧ H' = (bk, cel 125 [.slice ag g.length cg, .int .i64 (tq + 1), .int .u32 (m')]) :: H ∧ R' = R) := by
 refine fn_of Try.func70 rfl Try.ntmps70 rfl ?_
 refine sy_seq ?_
 refine sy_tx' [0] rfl ?_
 refine sp rfl (PE.assign rfl) rfl ?_
 refine sy_seq ?_
 refine sy_tx' [0, 1, 2, 3, 4, 5, 6, 7, 8] rfl ?_
 refine sp rfl (PE.move rfl) rfl ?_
 refine sp rfl (PE.move rfl) rfl ?_
 refine sp rfl (PE.move rfl) rfl ?_
 refine sp rfl (PE.move rfl) rfl ?_
 refine sp rfl (PE.sub rfl rfl (by omega)) rfl ?_
 refine sp rfl (PE.add rfl rfl (by omega)) rfl ?_
 refine cl rfl cal64 rfl rfl (c_Below g ag cg bk hgl tq mx htq hmx (hi - lo + 1) _ _) ?_
 rintro _ _ _ ⟨x, m', hx, rfl, hm', rfl, rfl⟩
 refine sp rfl (PE.add rfl rfl (by omega)) rfl ?_
 refine sp rfl (PE.assign rfl) rfl ?_
 refine sy_ret ?_
 exact sy_return (vs := [_]) rfl (.cons (RV.tmp rfl) .nil) rfl ⟨lo + x, m', ⟨by omega, by omega⟩, rfl, hm', rfl, rfl⟩ (fun _ h => h)
theorem c_Rare (g : List Int) (ag : Option Addr) (cg bk : Nat) (hgl : g.length ≤ 9223372036854775807) (tq mx : Int) (htq : 0 ≤ tq ∧ tq ≤ 1000000000) (hmx : 0 ≤ mx ∧ mx ≤ 4294967295) (n : Int) (H : Heap) (R : Facts) [hG : MemRows ag 1 (urows g) R] :
    Fn Try.prog 111 [.pointer (some ⟨bk, 0, none⟩), .int .i64 n] ((bk, cel 125 [.slice ag g.length cg, .int .i64 (tq), .int .u32 (mx)]) :: H) R (fun v H' R' => ∃ (x : Bool) (m' : Int), v = .bool x ∧ (0 ≤ m' ∧ m' ≤ 4294967295) ∧ H' = (bk, cel 125 [.slice ag g.length cg, .int .i64 (tq + 1), .int .u32 (m')]) :: H ∧ R' = R) := by
 refine fn_of Try.func111 rfl Try.ntmps111 rfl ?_
 refine sy_seq ?_
 refine sy_tx' [0] rfl ?_
 refine sp rfl (PE.assign rfl) rfl ?_
 refine sy_seq ?_
 refine sy_tx' [0, 1, 2, 3, 4] rfl ?_
 refine sp rfl (PE.move rfl) rfl ?_
 refine sp rfl (PE.move rfl) rfl ?_
 refine cl rfl cal64 rfl rfl (c_Below g ag cg bk hgl tq mx htq hmx n _ _) ?_
 rintro _ _ _ ⟨x, m', hx, rfl, hm', rfl, rfl⟩
 refine sp rfl (PE.eql rfl rfl) rfl ?_
 refine sp rfl (PE.assign rfl) rfl ?_
 refine sy_ret ?_
 exact sy_return (vs := [_]) rfl (.cons (RV.tmp rfl) .nil) rfl ⟨_, m', rfl, hm', rfl, rfl⟩ (fun _ h => h)
theorem three_at {j k : Nat} (hk : k < 3) (e : j = k) : [Value.int .i64 3, .int .i64 2, .int .i64 1][j]? = some (.int .i64 ((3 - k : Nat) : Int)) := by
  subst e
  revert hk
  rcases j with _ | _ | _ | j <;> intro hk
  · rfl
  · rfl
  · rfl
  · omega
structure MxI (k : Nat) (l : List Int) (left : Int) : Prop where
  len : l.length = 4
  sum : sum4 l + left = 40
  at_ : ∀ j < 4, 0 ≤ nn l j ∧ nn l j ≤ 40
  lo : 0 ≤ left ∧ left ≤ 40
  zero : ∀ j < 4, j + k ≤ 3 → nn l j = 0
theorem MxI.start : MxI 0 [0, 0, 0, 0] 40 := ⟨rfl, rfl, of4 ⟨by decide, by decide, by decide, by decide⟩, by omega, of4 ⟨fun _ => rfl, fun _ => rfl, fun _ => rfl, fun _ => rfl⟩⟩
theorem MxI.more {k : Nat} {l : List Int} {left v : Int} (h : MxI k l left) (hk : k < 3) (hv : 0 ≤ v ∧ v ≤ left) : MxI (k + 1) (l.set (3 - k) v) (left - v) := by
  have hlo := h.lo
  have hz := h.zero (3 - k) (by omega) (by omega)
  have hs := h.sum
  have hset : ∀ j, nn (l.set (3 - k) v) j = bif 3 - k == j then v else nn l j := fun j => nn_set (by rw [h.len]; omega)
  refine ⟨by simp [h.len], by rw [sum_set h.len (by omega)]; omega, fun j hj => ?_, by omega, fun j hj hjk => ?_⟩
  · rw [hset]
    cases 3 - k == j
    · exact h.at_ j hj
    · simp only [cond_true]; omega
  · rw [hset, show (3 - k == j) = false from by simp; omega]
    exact h.zero j hj (by omega)
theorem MxI.done {l : List Int} {left : Int} (h : MxI 3 l left) : Mxt (l.set 0 left) := by
  have hlo := h.lo
  have hz := h.zero 0 (by omega) (by omega)
  have hs := h.sum
  refine ⟨by simp [h.len], by rw [sum_set h.len (by omega)]; omega, fun j hj => ?_⟩
  rw [nn_set (by rw [h.len]; omega)]
  cases (0 : Nat) == j
  · exact h.at_ j hj
  · simp only [cond_true]; omega
theorem mx_swap {m : Mix} (hm : Mxt m) {k : Nat} (hk : k < 4) : Mxt ((m.set 0 (nn m k)).set k (nn m 0)) := by
  obtain ⟨a, b, c, d, rfl⟩ := list4 hm.len
  have hs := hm.sum
  have h4 := all4 hm.at_
  simp only [sum4, nn, List.getD_cons_zero, List.getD_cons_succ] at hs h4
  rcases lt4 hk with rfl | rfl | rfl | rfl <;> refine ⟨rfl, ?_, of4 ⟨?_, ?_, ?_, ?_⟩⟩ <;> simp [sum4, nn] <;> omega
theorem c_Mixed (g : List Int) (ag : Option Addr) (cg bk : Nat) (hgl : g.length ≤ 9223372036854775807) (tq mx : Int) (htq : 0 ≤ tq ∧ tq ≤ 1000000) (hmx : 0 ≤ mx ∧ mx ≤ 4294967295) (H : Heap) (R : Facts) [hG : MemRows ag 1 (urows g) R] :
    Fn Try.prog 63 [.pointer (some ⟨bk, 0, none⟩)] ((bk, cel 125 [.slice ag g.length cg, .int .i64 (tq), .int .u32 (mx)]) :: H) R (fun v H' R' => ∃ (q : Mix) (tq' mx' : Int), Mxt q ∧ v = .agg (ints q).toArray ∧ (tq ≤ tq' ∧ tq' ≤ tq + 10) ∧ (0 ≤ mx' ∧ mx' ≤ 4294967295) ∧ H' = (bk, cel 125 [.slice ag g.length cg, .int .i64 (tq'), .int .u32 (mx')]) :: H ∧ R' = R) := by
 refine fn_of Try.func63 rfl Try.ntmps63 rfl ?_
 refine sy_seq ?_
 refine sy_tx' [0] rfl ?_
 refine alc rfl zl29 rfl (fun b2 => ?_)
 refine sy_seq ?_
 refine sy_tx' [0] rfl ?_
 refine alc rfl zl29 rfl (fun b3 => ?_)
 refine sy_seq ?_
 refine sy_tx' [0] rfl ?_
 refine sp rfl (PE.assign rfl) rfl ?_
 refine sy_seq ?_
 refine sy_seq ?_
 refine sy_tx' [0, 1, 2] rfl ?_
 refine bsl (out := [_, _, _]) rfl sl34 zl3 rfl rfl rfl rfl rfl rfl (fun b8 => ?_)
 refine sp rfl (PE.lenSl isl34 rfl) rfl ?_
 refine sp rfl (PE.move rfl) rfl ?_
 refine sy_block ?_
 refine sy_pull bk ?_
 refine sy_loop (ι := {x : Nat × List Int × Int × Int × Int // x.1 ≤ 3 ∧ MxI x.1 x.2.1 x.2.2.1 ∧ x.2.2.2.1 = tq + 2 * x.1 ∧ (0 ≤ x.2.2.2.2 ∧ x.2.2.2.2 ≤ 4294967295)}) (fun x => ⟨[(0, .pointer (some ⟨bk, 0, none⟩)), (2, .pointer (some ⟨b2, 0, none⟩)), (3, .pointer (some ⟨b3, 0, none⟩)), (4, .int .i64 x.1.2.2.1), (8, .slice (some ⟨b8, 0, none⟩) 3 3), (9, .int .i64 3), (10, .int .i64 x.1.1)], (bk, cel 125 [.slice ag g.length cg, .int .i64 (x.1.2.2.2.1), .int .u32 (x.1.2.2.2.2)]) :: (b8, cel 3 [.int .i64 3, .int .i64 2, .int .i64 1]) :: (b3, cel 29 (ints x.1.2.1)) :: (b2, cel 29 (ints [0, 0, 0, 0])) :: H, R⟩) (fun x => 3 - x.1.1) ⟨(0, [0, 0, 0, 0], 40, tq, mx), by omega, MxI.start, by dsimp only; omega, by assumption⟩ ?_ (fun x => ?_)
 exact sy_at (by repeat' first | exact Sub.nil | apply Sub.cons | rfl | (simp [lk]; omega)) (fun _ h => h)
 obtain ⟨⟨k, l, left, tq2, mx2⟩, hk, hmi, htq2, hmx2⟩ := x
 dsimp only at hk hmi htq2 hmx2 ⊢
 subst htq2
 have hlo := hmi.lo
 have hml := hmi.len
 refine sy_seq ?_
 refine sy_tx' [0] rfl ?_
 refine sp rfl (PE.lss rfl rfl) rfl ?_
 refine sy_seq ?_
 refine sy_cond rfl (fun hc0 => ?_) (fun hc0 => ?_)
 try simp only [decide_eq_true_eq, decide_eq_false_iff_not, Bool.and_eq_true, Bool.or_eq_true, Bool.not_eq_true', Int.not_le, Int.not_lt] at hc0
 have hk3 : k < 3 := by omega
 have hk4 : 3 - k < 4 := by omega
 refine sy_skip ?_
 refine sy_seq ?_
 refine sy_block ?_
 refine sy_seq ?_
 refine sy_tx' [0, 1, 2] rfl ?_
 refine sp rfl (PE.indexAddr el34 rfl rfl (by omega) (by omega)) rfl ?_
 refine spL rfl rfl (lh sc3 rfl (three_at hk3 (by omega))) rfl ?_
 refine sp rfl (PE.assign rfl) rfl ?_
 refine sy_seq ?_
 refine sy_tx' [0, 1, 2, 3, 4, 5, 6, 7, 8, 9] rfl ?_
 refine sp rfl (PE.move rfl) rfl ?_
 refine sp rfl (PE.move rfl) rfl ?_
 refine sp rfl (PE.move rfl) rfl ?_
 refine cl rfl cal64 rfl rfl (c_Below g ag cg bk hgl _ _ (by omega) (by assumption) (5) _ _) ?_
 rintro _ _ R1 ⟨x17, m17, hx17, rfl, hm17, rfl, hR1⟩
 obtain rfl := hR1.symm
 refine sp rfl (PE.move rfl) rfl ?_
 refine cl rfl cal64 rfl rfl (c_Below g ag cg bk hgl _ _ (by omega) (by assumption) (4) _ _) ?_
 rintro _ _ R1 ⟨x19, m19, hx19, rfl, hm19, rfl, hR1⟩
 obtain rfl := hR1.symm
 have hm20 := mul_b (a := x17) (b := x19) (A := 4) (B := 3) (by omega) (by omega) (by omega) (by omega)
 obtain ⟨v, hv⟩ : ∃ v, v = min left (x17 * x19) := ⟨_, rfl⟩
 refine sp rfl (PE.mul rfl rfl (by omega)) rfl ?_
 refine sp rfl (PE.min rfl rfl) rfl ?_
 rw [← hv]
 refine sp rfl (PE.indexArr ar29 rfl rfl (by omega) (by omega)) rfl ?_
 refine sy_pull b3 ?_
 refine stoE (l' := ints ((l).set (3 - k) (v))) rfl rfl rfl cn3 rfl rfl rfl (spl_mix hml hk4 _) (by rw [ints_length, hml]; show 0 + (((3 - k) : Nat) : Int).toNat * 1 + 1 ≤ 4; omega) ?_
 refine sy_tx' [0, 1, 2, 3, 4, 5] rfl ?_
 refine sp rfl (PE.move rfl) rfl ?_
 refine sp rfl (PE.move rfl) rfl ?_
 refine sp rfl (PE.indexArr ar29 rfl rfl (by omega) (by omega)) rfl ?_
 refine spL rfl rfl (lh sc3 rfl (mix_at (by simp [hml]) hk4)) rfl ?_
 rw [show nn (l.set (3 - k) v) (3 - k) = v from by rw [nn_set (by omega)]; simp]
 refine sp rfl (PE.sub rfl rfl (by omega)) rfl ?_
 refine sp rfl (PE.assign rfl) rfl ?_
 refine sy_tx' [0, 1] rfl ?_
 refine sp rfl (PE.add rfl rfl (by omega)) rfl ?_
 refine sp rfl (PE.move rfl) rfl ?_
 exact sy_next ⟨(k + 1, l.set (3 - k) v, left - v, tq + 2 * k + 1 + 1, m19), by omega, hmi.more hk3 (by omega), by dsimp only; omega, by assumption⟩ (by dsimp only; omega) (by repeat' first | exact Sub.nil | apply Sub.cons | rfl | (simp [lk]; omega)) (fun _ h => St.sub (((h.pull b3).pull b8).pull bk))
 try simp only [decide_eq_true_eq, decide_eq_false_iff_not, Bool.and_eq_true, Bool.or_eq_true, Bool.not_eq_true', Int.not_le, Int.not_lt] at hc0
 obtain rfl : k = 3 := by omega
 have hq := hmi.done
 refine sy_exit ?_
 repeat refine sy_tx ?_
 refine sy_bx ?_
 refine sy_seq ?_
 refine sy_tx' [0, 1, 2] rfl ?_
 refine sp rfl (PE.move rfl) rfl ?_
 refine sp rfl (PE.indexArr ar29 rfl rfl (by omega) (by omega)) rfl ?_
 refine sy_pull b3 ?_
 refine stoE (l' := ints ((l).set 0 (left))) rfl rfl rfl cn3 rfl rfl rfl (spl_mix hml (by decide) _) (by rw [ints_length, hml]; show 0 + ((0 : Nat) : Int).toNat * 1 + 1 ≤ 4; decide) ?_
 refine sy_seq ?_
 refine sy_seq ?_
 refine sy_tx' [0, 1] rfl ?_
 refine sy_pull bk ?_
 obtain ⟨q, hqe⟩ : ∃ q, q = l.set 0 left := ⟨_, rfl⟩
 rw [← hqe] at hq ⊢
 refine sp rfl (PE.move rfl) rfl ?_
 refine cl rfl cal111 rfl rfl (c_Rare g ag cg bk hgl _ _ (by omega) (by assumption) 4 _ _) ?_
 rintro _ _ R1 ⟨x32, m32, rfl, hm32, rfl, hR1⟩
 obtain rfl := hR1.symm
 refine sy_cond rfl (fun hc1 => ?_) (fun hc1 => ?_)
 try simp only [decide_eq_true_eq, decide_eq_false_iff_not, Bool.and_eq_true, Bool.or_eq_true, Bool.not_eq_true', Int.not_le, Int.not_lt] at hc1
 refine sy_seq ?_
 refine sy_tx' [0, 1, 2, 3] rfl ?_
 refine sp rfl (PE.move rfl) rfl ?_
 refine cl rfl cal64 rfl rfl (c_Below g ag cg bk hgl _ _ (by omega) (by assumption) (3) _ _) ?_
 rintro _ _ R1 ⟨x34, m34, hx34, rfl, hm34, rfl, hR1⟩
 obtain rfl := hR1.symm
 refine sp rfl (PE.add rfl rfl (by omega)) rfl ?_
 refine sp rfl (PE.assign rfl) rfl ?_
 refine sy_draw [0, 0, 2, 6, 0, 16, 62, 126, 255, 511] (.tk 0 (.tk 1 (.tk 2 (.ld 3 (.tk 4 (.ld 5 (.tk 6 (.big 7 (.tk 8 (.big 9 .done)))))))))) mixed (by kernel_rfl) ?_
 obtain ⟨k, hk⟩ : ∃ k : Nat, 1 + x34 = k := ⟨(1 + x34).toNat, by omega⟩
 rw [hk]
 have hk4 : k < 4 := by omega
 have hq2 := mx_swap hq hk4
 refine tk rfl (PE.move rfl) rfl ?_
 refine tk rfl (PE.move rfl) rfl ?_
 refine tk rfl (PE.indexArr ar29 rfl rfl (by omega) (by omega)) rfl ?_
 refine ld rfl rfl (lh sc3 rfl (mix_at hq.len hk4)) rfl ?_
 refine tk rfl (PE.indexArr ar29 rfl rfl (by omega) (by omega)) rfl ?_
 refine ld rfl rfl (lh sc3 rfl (mix_at hq.len (k := 0) (by omega))) rfl ?_
 refine tk rfl (PE.indexArr ar29 rfl rfl (by omega) (by omega)) rfl ?_
 refine sy_pull b3 ?_
 refine stoE (l' := ints ((q).set 0 (nn q k))) rfl rfl rfl cn3 rfl rfl rfl (spl_mix hq.len (by decide) _) (by rw [ints_length, hq.len]; show 0 + ((0 : Nat) : Int).toNat * 1 + 1 ≤ 4; decide) ?_
 refine bg (fun w hs => ⟨trivial, trivial, trivial⟩) ?_
 refine tk rfl (PE.indexArr ar29 rfl rfl (by omega) (by omega)) rfl ?_
 refine stoE (l' := ints ((q.set 0 (nn q k)).set k (nn q 0))) rfl rfl rfl cn3 rfl rfl rfl (spl_mix (show (q.set 0 (nn q k)).length = 4 by simp [hq.len]) hk4 _) (by rw [ints_length, (show (q.set 0 (nn q k)).length = 4 by simp [hq.len])]; show 0 + ((k : Nat) : Int).toNat * 1 + 1 ≤ 4; omega) ?_
 refine bg (fun w hs => trivial) ?_
 refine sy_seq ?_
 refine sy_tx' [0, 1] rfl ?_
 obtain ⟨p, hpe, hp⟩ : ∃ p, p = q ∧ Mxt p := ⟨_, rfl, hq⟩
 first
   | (clear hpe hp p; obtain ⟨p, hpe⟩ : ∃ p, p = (q.set 0 (nn q k)).set k (nn q 0) := ⟨_, rfl⟩; rw [← hpe] at hq2 ⊢; have hp := hq2)
   | rw [← hpe]
 refine spL rfl rfl (lhA (ints (p)) ag29 rfl (rest := []) (by rw [List.append_nil]; rfl) (by rw [ints_length]; exact hp.len)) rfl ?_
 refine sy_pull b2 ?_
 refine stoA rfl rfl rfl cn29 rfl (by rw [ints_length]; exact hp.len) rfl (ints_one _) ?_
 refine sy_ret ?_
 first
   | exact sy_return (vs := [_]) rfl (.cons (RV.cell rfl (lhA (ints (p)) ag29 rfl (rest := []) (by rw [List.append_nil]; rfl) (by rw [ints_length]; exact hp.len))) .nil) rfl ⟨p, tq + 2 * (3 : Nat) + 1 + 1, m34, hp, rfl, by omega, hm34, rfl, rfl⟩ (fun w h => St.sub (((h.del b2).del b3).del b8))
   | exact sy_return (vs := [_]) rfl (.cons (RV.cell rfl (lhA (ints (p)) ag29 rfl (rest := []) (by rw [List.append_nil]; rfl) (by rw [ints_length]; exact hp.len))) .nil) rfl ⟨p, tq + 2 * (3 : Nat) + 1, m32, hp, rfl, by omega, hm32, rfl, rfl⟩ (fun w h => St.sub (((h.del b2).del b3).del b8))
 try simp only [decide_eq_true_eq, decide_eq_false_iff_not, Bool.and_eq_true, Bool.or_eq_true, Bool.not_eq_true', Int.not_le, Int.not_lt] at hc1
 refine sy_skip ?_
 refine sy_seq ?_
 refine sy_tx' [0, 1] rfl ?_
 obtain ⟨p, hpe, hp⟩ : ∃ p, p = q ∧ Mxt p := ⟨_, rfl, hq⟩
 first
   | (clear hpe hp p; obtain ⟨p, hpe⟩ : ∃ p, p = (q.set 0 (nn q k)).set k (nn q 0) := ⟨_, rfl⟩; rw [← hpe] at hq2 ⊢; have hp := hq2)
   | rw [← hpe]
 refine spL rfl rfl (lhA (ints (p)) ag29 rfl (rest := []) (by rw [List.append_nil]; rfl) (by rw [ints_length]; exact hp.len)) rfl ?_
 refine sy_pull b2 ?_
 refine stoA rfl rfl rfl cn29 rfl (by rw [ints_length]; exact hp.len) rfl (ints_one _) ?_
 refine sy_ret ?_
 first
   | exact sy_return (vs := [_]) rfl (.cons (RV.cell rfl (lhA (ints (p)) ag29 rfl (rest := []) (by rw [List.append_nil]; rfl) (by rw [ints_length]; exact hp.len))) .nil) rfl ⟨p, tq + 2 * (3 : Nat) + 1 + 1, m34, hp, rfl, by omega, hm34, rfl, rfl⟩ (fun w h => St.sub (((h.del b2).del b3).del b8))
   | exact sy_return (vs := [_]) rfl (.cons (RV.cell rfl (lhA (ints (p)) ag29 rfl (rest := []) (by rw [List.append_nil]; rfl) (by rw [ints_length]; exact hp.len))) .nil) rfl ⟨p, tq + 2 * (3 : Nat) + 1, m32, hp, rfl, by omega, hm32, rfl, rfl⟩ (fun w h => St.sub (((h.del b2).del b3).del b8))
theorem hnd_at {s : Int} {m : List Int} (hm : m.length = 4) {k : Nat} (hk : k < 4) : (Value.int .i64 s :: ints m)[0 + 1 + ((k : Nat) : Int).toNat * 1]? = some (.int .i64 (nn m k)) := by
  obtain ⟨a, b, c, d, rfl⟩ := list4 hm
  rcases lt4 hk with rfl | rfl | rfl | rfl <;> rfl
theorem spl_hnd {s : Int} {m : List Int} (hm : m.length = 4) {k : Nat} (hk : k < 4) (v : Int) : spl (Value.int .i64 s :: ints m) (0 + 1 + ((k : Nat) : Int).toNat * 1) [.int .i64 v] = Value.int .i64 s :: ints (m.set k v) := by
  obtain ⟨a, b, c, d, rfl⟩ := list4 hm
  rcases lt4 hk with rfl | rfl | rfl | rfl <;> rfl
theorem mk_part {m : List Int} (hm : m.length = 4) {k : Nat} (hk : k < 4) : mkv false ((m.drop (k * 1)).take 1) = .int .i64 (nn m k) := by
  obtain ⟨a, b, c, d, rfl⟩ := list4 hm
  rcases lt4 hk with rfl | rfl | rfl | rfl <;> rfl
theorem tdiv40 {a : Int} (h : 0 ≤ a ∧ a ≤ 1000000) : IntKind.i64.wrap (a.tdiv 40) = a / 40 := by
  rw [tdiv_in (by omega) (by omega), Int.tdiv_eq_ediv_of_nonneg h.1]
theorem hnd_len {s : Int} {m : List Int} (hm : m.length = 4) : (Value.int .i64 s :: ints m).length = 5 := by rw [List.length_cons, ints_length, hm]
theorem c_Taken (l0 : List Int) (ag : Option Addr) (cg bk : Nat) (hgl : l0.length ≤ 9223372036854775807) (tq mx : Int) (htq : 0 ≤ tq ∧ tq ≤ 1000000) (hmx : 0 ≤ mx ∧ mx ≤ 4294967295) (g : Gat) (hmi : 0 ≤ g.miss ∧ g.miss ≤ 20) (sl : Value) (m : Mix) (hm : Mxt m) (H : Heap) (R : Facts) [hG : MemRows ag 1 (urows l0) R] :
    Fn Try.prog 52 [.pointer (some ⟨bk, 0, none⟩), g.v sl, .agg (ints m).toArray] ((bk, cel 125 [.slice ag l0.length cg, .int .i64 (tq), .int .u32 (mx)]) :: H) R (fun v H' R' => ∃ (h : Hnd) (tq' mx' : Int), h.ok ∧ fitB g.miss h m = true ∧ v = .agg (hrow h).toArray ∧ (tq ≤ tq' ∧ tq' ≤ tq + 20) ∧ (0 ≤ mx' ∧ mx' ≤ 4294967295) ∧ H' = (bk, cel 125 [.slice ag l0.length cg, .int .i64 (tq'), .int .u32 (mx')]) :: H ∧ R' = R) := by
 refine fn_of Try.func52 rfl Try.ntmps52 rfl ?_
 refine sy_seq ?_
 refine sy_tx' [0, 1, 2] rfl ?_
 refine bx rfl rfl rfl (fun b4 => ?_)
 refine bx rfl rfl rfl (fun b5 => ?_)
 refine alc rfl zl82 rfl (fun b6 => ?_)
 refine sy_seq ?_
 refine sy_tx' [0, 1, 2] rfl ?_
 refine sy_pull bk ?_
 refine sp rfl (PE.move rfl) rfl ?_
 refine cl rfl cal70 rfl rfl (c_Among l0 ag cg bk hgl _ _ (by omega) (by assumption) (10) (200) (by first | omega | (dsimp only; omega)) _ _) ?_
 rintro _ _ R1 ⟨x18, m18, hx18, rfl, hm18, rfl, hR1⟩
 obtain rfl := hR1.symm
 refine sp rfl (PE.assign rfl) rfl ?_
 refine sy_seq ?_
 refine sy_seq ?_
 refine sy_tx' [0, 1, 2] rfl ?_
 refine sp rfl (PE.fieldAddr fo25_1 rfl) rfl ?_
 refine spL rfl rfl (lh sc3 rfl rfl) rfl ?_
 refine sp rfl (PE.eql rfl rfl) rfl ?_
 refine sy_join (ι := {x : Int × Int × Int // (10 ≤ x.1 ∧ x.1 ≤ 200) ∧ (g.miss = 0 → ∃ j : Int, x.1 = 40 * j) ∧ (tq ≤ x.2.1 ∧ x.2.1 ≤ tq + 2) ∧ (0 ≤ x.2.2 ∧ x.2.2 ≤ 4294967295)}) (fun x => ⟨[(0, .pointer (some ⟨bk, 0, none⟩)), (4, .pointer (some ⟨b4, 0, none⟩)), (5, .pointer (some ⟨b5, 0, none⟩)), (6, .pointer (some ⟨b6, 0, none⟩)), (7, .int .i64 x.1.1)], (bk, cel 125 [.slice ag l0.length cg, .int .i64 (x.1.2.1), .int .u32 (x.1.2.2)]) :: (b6, cel 82 (hrow ⟨0, 0, 0, 0, 0⟩)) :: (b5, cel 29 (ints m)) :: (b4, cel 25 (gtl g sl)) :: H, R⟩) ?_ ?_
 refine sy_cond rfl (fun hc0 => ?_) (fun hc0 => ?_)
 refine sy_tx' [0, 1, 2, 3] rfl ?_
 refine sp rfl (PE.move rfl) rfl ?_
 refine cl rfl cal70 rfl rfl (c_Among l0 ag cg bk hgl _ _ (by omega) (by assumption) (1) (5) (by first | omega | (dsimp only; omega)) _ _) ?_
 rintro _ _ R1 ⟨x23, m23, hx23, rfl, hm23, rfl, hR1⟩
 obtain rfl := hR1.symm
 refine sp rfl (PE.mul rfl rfl (by omega)) rfl ?_
 refine sp rfl (PE.assign rfl) rfl ?_
 exact sy_jend ⟨(40 * x23, tq + 1 + 1, m23), by dsimp only; omega, fun _ => ⟨x23, rfl⟩, by dsimp only; omega, by assumption⟩ (by repeat' first | exact Sub.nil | apply Sub.cons | rfl | (simp [lk]; omega)) (fun _ h => h)
 refine sy_skip ?_
 exact sy_jend ⟨(x18, tq + 1, m18), by dsimp only; omega, fun h => absurd h (by simpa using hc0), by dsimp only; omega, by assumption⟩ (by repeat' first | exact Sub.nil | apply Sub.cons | rfl | (simp [lk]; omega)) (fun _ h => h)
 rintro ⟨⟨n, tq2, mx2⟩, hn, hn0, htq2, hmx2⟩
 dsimp only at hn hn0 htq2 hmx2 ⊢
 have hng : 0 ≤ n ∧ n ≤ 200 := by omega
 refine sy_seq ?_
 refine sy_tx' [0, 1, 2, 3, 4] rfl ?_
 refine sp rfl (PE.move rfl) rfl ?_
 refine cl rfl cal64 rfl rfl (c_Below l0 ag cg bk hgl _ _ (by omega) (by assumption) (3) _ _) ?_
 rintro _ _ R1 ⟨x26, m26, hx26, rfl, hm26, rfl, hR1⟩
 obtain rfl := hR1.symm
 refine sp rfl (PE.build (out := hrow ⟨x26, 0, 0, 0, 0⟩) pl82 zl82 rfl rfl) rfl ?_
 refine alc rfl zl82 rfl (fun b8 => ?_)
 refine sto rfl rfl rfl cn82 rfl rfl rfl rfl ?_
 refine sy_seq ?_
 refine sy_tx' [0, 1] rfl ?_
 refine sp rfl (PE.move rfl) rfl ?_
 refine sp rfl (PE.assign rfl) rfl ?_
 refine sy_seq ?_
 refine sy_seq ?_
 refine sy_tx' [0, 1] rfl ?_
 refine spL rfl rfl (lhA (ints (m)) ag29 rfl (rest := []) (by rw [List.append_nil]; rfl) (by rw [ints_length]; exact hm.len)) rfl ?_
 refine sp rfl (PE.move rfl) rfl ?_
 refine sy_block ?_
 refine sy_loop (ι := {k : Nat // k ≤ 4}) (fun k => ⟨[(0, .pointer (some ⟨bk, 0, none⟩)), (4, .pointer (some ⟨b4, 0, none⟩)), (5, .pointer (some ⟨b5, 0, none⟩)), (6, .pointer (some ⟨b6, 0, none⟩)), (7, .int .i64 n), (8, .pointer (some ⟨b8, 0, none⟩)), (9, .int .i64 (takL n m k.1).2), (29, .agg (ints m).toArray), (30, .int .i64 k.1)], (b8, cel 82 (.int .i64 x26 :: ints (takL n m k.1).1)) :: (bk, cel 125 [.slice ag l0.length cg, .int .i64 (tq2 + 1), .int .u32 (m26)]) :: (b6, cel 82 (hrow ⟨0, 0, 0, 0, 0⟩)) :: (b5, cel 29 (ints m)) :: (b4, cel 25 (gtl g sl)) :: H, R⟩) (fun k => 4 - k.1) ⟨0, by omega⟩ ?_ (fun k => ?_)
 exact sy_at (by repeat' first | exact Sub.nil | apply Sub.cons | rfl | (simp [lk]; omega)) (fun _ h => h)
 obtain ⟨k, hk⟩ := k
 dsimp only at hk ⊢
 obtain ⟨t1, t2, t3, t4, t5, t6⟩ := takL_ok hm hng k hk
 refine sy_seq ?_
 refine sy_tx' [0] rfl ?_
 refine sp rfl (PE.lss rfl rfl) rfl ?_
 refine sy_seq ?_
 refine sy_cond rfl (fun hc1 => ?_) (fun hc1 => ?_)
 try simp only [decide_eq_true_eq, decide_eq_false_iff_not, Bool.and_eq_true, Bool.or_eq_true, Bool.not_eq_true', Int.not_le, Int.not_lt] at hc1
 have hk4 : k < 4 := by omega
 have hbd := mul_bd4 hm hng hk4
 have hg0 : g0 n m k = n * nn m k / 40 := rfl
 refine sy_skip ?_
 refine sy_seq ?_
 refine sy_block ?_
 refine sy_seq ?_
 refine sy_tx' [0, 1, 2, 3] rfl ?_
 refine sp rfl (PE.move rfl) rfl ?_
 refine sp rfl ((PE.indexI (l := m) are29 (eqB_ok 10000 3 false 1 eqf3) (fun _ => rfl) rfl rfl hk4 (by rw [hm.len]; omega)).to (by rw [mk_part hm.len hk4])) rfl ?_
 refine sp rfl (PE.assign rfl) rfl ?_
 refine sp rfl (PE.assign rfl) rfl ?_
 refine sy_seq ?_
 refine sy_tx' [0, 1, 2, 3, 4, 5, 6, 7] rfl ?_
 refine sp rfl (PE.move rfl) rfl ?_
 refine sp rfl (PE.move rfl) rfl ?_
 refine sp rfl (PE.move rfl) rfl ?_
 refine sp rfl (PE.mul rfl rfl (by omega)) rfl ?_
 refine sp rfl ((PE.quoW rfl rfl (by omega)).to (by rw [tdiv40 (by omega), ← hg0])) rfl ?_
 refine sp rfl (PE.fieldAddr fo82_1 rfl) rfl ?_
 refine sp rfl (PE.indexArr ar29 rfl rfl (by omega) (by omega)) rfl ?_
 refine stoE (l' := .int .i64 x26 :: ints (((takL n m k).1).set k (g0 n m k))) rfl rfl rfl cn3 rfl rfl rfl (spl_hnd t1 hk4 _) (by rw [hnd_len t1]; show 0 + 1 + ((k : Nat) : Int).toNat * 1 + 1 ≤ 5; omega) ?_
 refine sy_tx' [0, 1, 2, 3, 4, 5, 6] rfl ?_
 refine sp rfl (PE.move rfl) rfl ?_
 refine sp rfl (PE.move rfl) rfl ?_
 refine sp rfl (PE.fieldAddr fo82_1 rfl) rfl ?_
 refine sp rfl (PE.indexArr ar29 rfl rfl (by omega) (by omega)) rfl ?_
 refine spL rfl rfl (lh sc3 rfl (hnd_at (by simp [t1]) hk4)) rfl ?_
 rw [show nn ((takL n m k).1.set k (g0 n m k)) k = g0 n m k from by rw [nn_set (by omega)]; simp]
 refine sp rfl (PE.sub rfl rfl (by omega)) rfl ?_
 refine sp rfl (PE.assign rfl) rfl ?_
 refine sy_tx' [0, 1] rfl ?_
 refine sp rfl (PE.add rfl rfl (by omega)) rfl ?_
 refine sp rfl (PE.move rfl) rfl ?_
 exact sy_next ⟨k + 1, by omega⟩ (by dsimp only; omega) (by repeat' first | exact Sub.nil | apply Sub.cons | rfl | (simp [lk]; omega)) (fun _ h => h)
 try simp only [decide_eq_true_eq, decide_eq_false_iff_not, Bool.and_eq_true, Bool.or_eq_true, Bool.not_eq_true', Int.not_le, Int.not_lt] at hc1
 obtain rfl : k = 4 := by omega
 refine sy_exit ?_
 repeat refine sy_tx ?_
 refine sy_bx ?_
 refine sy_seq ?_
 refine sy_seq ?_
 refine sy_tx' [0, 1] rfl ?_
 refine spL rfl rfl (lhA (ints (m)) ag29 rfl (rest := []) (by rw [List.append_nil]; rfl) (by rw [ints_length]; exact hm.len)) rfl ?_
 refine sp rfl (PE.move rfl) rfl ?_
 refine sy_block ?_
 refine sy_loop (ι := {k : Nat // k ≤ 4}) (fun k => ⟨[(0, .pointer (some ⟨bk, 0, none⟩)), (4, .pointer (some ⟨b4, 0, none⟩)), (5, .pointer (some ⟨b5, 0, none⟩)), (6, .pointer (some ⟨b6, 0, none⟩)), (7, .int .i64 n), (8, .pointer (some ⟨b8, 0, none⟩)), (9, .int .i64 (takI n m k.1).2), (48, .agg (ints m).toArray), (49, .int .i64 k.1)], (b8, cel 82 (.int .i64 x26 :: ints (takI n m k.1).1)) :: (bk, cel 125 [.slice ag l0.length cg, .int .i64 (tq2 + 1), .int .u32 (m26)]) :: (b6, cel 82 (hrow ⟨0, 0, 0, 0, 0⟩)) :: (b5, cel 29 (ints m)) :: (b4, cel 25 (gtl g sl)) :: H, R⟩) (fun k => 4 - k.1) ⟨0, by omega⟩ ?_ (fun k => ?_)
 exact sy_at (by repeat' first | exact Sub.nil | apply Sub.cons | rfl | (simp [lk]; omega)) (fun _ h => h)
 obtain ⟨k, hk⟩ := k
 dsimp only at hk ⊢
 have hti := takI_ok hm hng k hk
 have t1 := hti.len
 have t2 := hti.lo
 have t3 := hti.sum
 have t4 : (takI n m k).2 ≤ 200 := by
   obtain ⟨p0, p1, p2, p3⟩ := all4 hti.at_
   obtain ⟨q0, q1, q2, q3⟩ := all4 (fun k hk => mul_bd4 hm hng (k := k) hk)
   have t3 := t3
   unfold sum4 at t3
   simp only [g0] at p0 p1 p2 p3
   omega
 refine sy_seq ?_
 refine sy_tx' [0] rfl ?_
 refine sp rfl (PE.lss rfl rfl) rfl ?_
 refine sy_seq ?_
 refine sy_cond rfl (fun hc2 => ?_) (fun hc2 => ?_)
 try simp only [decide_eq_true_eq, decide_eq_false_iff_not, Bool.and_eq_true, Bool.or_eq_true, Bool.not_eq_true', Int.not_le, Int.not_lt] at hc2
 have hk4 : k < 4 := by omega
 have hbd := mul_bd4 hm hng hk4
 have hat := hti.at_ k hk4
 have hg0 : g0 n m k = n * nn m k / 40 := rfl
 refine sy_skip ?_
 refine sy_seq ?_
 refine sy_block ?_
 refine sy_seq ?_
 refine sy_tx' [0, 1, 2, 3] rfl ?_
 refine sp rfl (PE.move rfl) rfl ?_
 refine sp rfl ((PE.indexI (l := m) are29 (eqB_ok 10000 3 false 1 eqf3) (fun _ => rfl) rfl rfl hk4 (by rw [hm.len]; omega)).to (by rw [mk_part hm.len hk4])) rfl ?_
 refine sp rfl (PE.assign rfl) rfl ?_
 refine sp rfl (PE.assign rfl) rfl ?_
 refine sy_seq ?_
 refine sy_tx' [0, 1, 2, 3, 4, 5, 6, 7, 8] rfl ?_
 refine sp rfl (PE.move rfl) rfl ?_
 refine sp rfl (PE.gtr rfl rfl) rfl ?_
 refine sp rfl (PE.move rfl) rfl ?_
 refine sy_case (t := 55) rfl (fun g55 => ?_) (fun g55 => ?_)
 refine spG rfl rfl rfl rfl (PE.move rfl) rfl ?_
 refine spG rfl rfl rfl rfl (PE.move rfl) rfl ?_
 refine spG rfl rfl rfl rfl (PE.mul rfl rfl (by omega)) rfl ?_
 refine spG rfl rfl rfl rfl (PE.rem rfl rfl (by omega)) rfl ?_
 refine spG rfl rfl rfl rfl (PE.gtr rfl rfl) rfl ?_
 refine sp rfl (PE.pick rfl rfl rfl) rfl ?_
 refine sy_cond rfl (fun hc3 => ?_) (fun hc3 => ?_)
 have hst : takI n m (k + 1) = ((takI n m k).1.set k (nn (takI n m k).1 k + 1), (takI n m k).2 - 1) := by
   show (bif takC n m (takI n m k) k then _ else _) = _
   rw [show takC n m (takI n m k) k = true from by simp_all [takC]]; rfl
 refine sy_seq ?_
 refine sy_tx' [0, 1, 2, 3, 4, 5, 6, 7] rfl ?_
 refine sp rfl (PE.move rfl) rfl ?_
 refine sp rfl (PE.fieldAddr fo82_1 rfl) rfl ?_
 refine sp rfl (PE.indexArr ar29 rfl rfl (by omega) (by omega)) rfl ?_
 refine spL rfl rfl (lh sc3 rfl (hnd_at t1 hk4)) rfl ?_
 refine sp rfl (PE.add rfl rfl (by omega)) rfl ?_
 refine sp rfl (PE.fieldAddr fo82_1 rfl) rfl ?_
 refine sp rfl (PE.indexArr ar29 rfl rfl (by omega) (by omega)) rfl ?_
 refine stoE (l' := .int .i64 x26 :: ints (((takI n m k).1).set k (nn (takI n m k).1 k + 1))) rfl rfl rfl cn3 rfl rfl rfl (spl_hnd t1 hk4 _) (by rw [hnd_len t1]; show 0 + 1 + ((k : Nat) : Int).toNat * 1 + 1 ≤ 5; omega) ?_
 refine sy_tx' [0, 1, 2] rfl ?_
 refine sp rfl (PE.move rfl) rfl ?_
 refine sp rfl (PE.sub rfl rfl (by omega)) rfl ?_
 refine sp rfl (PE.assign rfl) rfl ?_
 refine sy_tx' [0, 1] rfl ?_
 refine sp rfl (PE.add rfl rfl (by omega)) rfl ?_
 refine sp rfl (PE.move rfl) rfl ?_
 exact sy_next ⟨k + 1, by omega⟩ (by dsimp only; omega) (by dsimp only; rw [hst]; exact (by repeat' first | exact Sub.nil | apply Sub.cons | rfl | (simp [lk]; omega))) (fun w h => by dsimp only; rw [hst]; exact h)
 have hst : takI n m (k + 1) = takI n m k := by
   show (bif takC n m (takI n m k) k then _ else _) = _
   rw [show takC n m (takI n m k) k = false from by simp_all [takC]]; rfl
 refine sy_skip ?_
 refine sy_tx' [0, 1] rfl ?_
 refine sp rfl (PE.add rfl rfl (by omega)) rfl ?_
 refine sp rfl (PE.move rfl) rfl ?_
 exact sy_next ⟨k + 1, by omega⟩ (by dsimp only; omega) (by dsimp only; rw [hst]; exact (by repeat' first | exact Sub.nil | apply Sub.cons | rfl | (simp [lk]; omega))) (fun w h => by dsimp only; rw [hst]; exact h)
 have hst : takI n m (k + 1) = takI n m k := by
   show (bif takC n m (takI n m k) k then _ else _) = _
   have h55 : decide (0 < (takI n m k).2) = false := by simpa using g55
   rw [show takC n m (takI n m k) k = false from by unfold takC; rw [h55]; rfl]; rfl
 repeat refine spN rfl rfl rfl rfl rfl rfl rfl rfl ?_
 refine sp rfl (PE.pick rfl rfl rfl) rfl ?_
 refine sy_condF rfl ?_
 refine sy_skip ?_
 refine sy_tx' [0, 1] rfl ?_
 refine sp rfl (PE.add rfl rfl (by omega)) rfl ?_
 refine sp rfl (PE.move rfl) rfl ?_
 exact sy_next ⟨k + 1, by omega⟩ (by dsimp only; omega) (by dsimp only; rw [hst]; exact (by repeat' first | exact Sub.nil | apply Sub.cons | rfl | (simp [lk]; omega))) (fun w h => by dsimp only; rw [hst]; exact h)
 try simp only [decide_eq_true_eq, decide_eq_false_iff_not, Bool.and_eq_true, Bool.or_eq_true, Bool.not_eq_true', Int.not_le, Int.not_lt] at hc2
 obtain rfl : k = 4 := by omega
 obtain ⟨e1, e2, e3⟩ := tak_end hm hng
 refine sy_exit ?_
 repeat refine sy_tx ?_
 refine sy_bx ?_
 refine sy_seq ?_
 refine sy_tx' [0, 1, 2, 3, 4, 5] rfl ?_
 refine sy_pull bk ?_
 obtain ⟨l, hl⟩ : ∃ l, l = (takI n m 4).1 := ⟨_, rfl⟩
 rw [← hl]
 rw [← hl] at e1 e2 e3
 refine sp rfl (PE.move rfl) rfl ?_
 refine cl rfl cal64 rfl rfl (c_Below l0 ag cg bk hgl _ _ (by omega) (by assumption) (4) _ _) ?_
 rintro _ _ R1 ⟨x73, m73, hx73, rfl, hm73, rfl, hR1⟩
 obtain rfl := hR1.symm
 refine sp rfl (PE.move rfl) rfl ?_
 refine cl rfl cal64 rfl rfl (c_Below l0 ag cg bk hgl _ _ (by omega) (by assumption) (4) _ _) ?_
 rintro _ _ R1 ⟨x75, m75, hx75, rfl, hm75, rfl, hR1⟩
 obtain rfl := hR1.symm
 refine sp rfl (PE.assign rfl) rfl ?_
 refine sp rfl (PE.assign rfl) rfl ?_
 refine sy_seq ?_
 refine sy_seq ?_
 refine sy_draw [0, 0, 2, 7, 0, 0, 48, 112, 255, 511] (.tk 0 (.tk 1 (.ld 2 (.tk 4 (.tk 5 (.tk 6 (.ld 7 (.big 3 (.tk 8 (.tk 9 .done)))))))))) mixed (by kernel_rfl) ?_
 obtain ⟨a, ha⟩ : ∃ a : Nat, x73 = a := ⟨x73.toNat, by omega⟩
 obtain ⟨b, hb⟩ : ∃ b : Nat, x75 = b := ⟨x75.toNat, by omega⟩
 rw [ha, hb]
 have ha4 : a < 4 := by omega
 have hb4 : b < 4 := by omega
 have hea := e3 a ha4
 have heb := e3 b hb4
 have hga : g0 n m a = n * nn m a / 40 := rfl
 have hgb : g0 n m b = n * nn m b / 40 := rfl
 have hba := mul_bd4 hm hng ha4
 have hbb := mul_bd4 hm hng hb4
 refine tk rfl (PE.move rfl) rfl ?_
 refine tk rfl (PE.fieldAddr fo25_1 rfl) rfl ?_
 refine ld rfl rfl (lh sc3 rfl rfl) rfl ?_
 refine tk rfl (PE.move rfl) rfl ?_
 refine tk rfl (PE.fieldAddr fo82_1 rfl) rfl ?_
 refine tk rfl (PE.indexArr ar29 rfl rfl (by omega) (by omega)) rfl ?_
 refine ld rfl rfl (lh sc3 rfl (hnd_at e1 ha4)) rfl ?_
 refine cl rfl cal64 rfl rfl (c_Below l0 ag cg bk hgl _ _ (by omega) (by assumption) (g.miss) _ _) ?_
 rintro _ _ R1 ⟨x79, m79, hx79, rfl, hm79, rfl, hR1⟩
 obtain rfl := hR1.symm
 refine bg (fun w hs => ⟨(lh sc3 rfl (hnd_at e1 ha4)) w hs, trivial, trivial⟩) ?_
 refine tk rfl (PE.min rfl rfl) rfl ?_
 refine tk rfl (PE.assign rfl) rfl ?_
 refine sy_seq ?_
 refine sy_tx' [0, 1, 2] rfl ?_
 obtain ⟨t, ht⟩ : ∃ t, t = min x79 (nn l a) := ⟨_, rfl⟩
 rw [← ht]
 obtain ⟨k1, k2, k3⟩ := tkM_at e1 ha4 hb4 t
 refine sp rfl (PE.move rfl) rfl ?_
 refine sp rfl (PE.move rfl) rfl ?_
 refine sp rfl (PE.neq rfl rfl) rfl ?_
 refine sy_cond rfl (fun hc4 => ?_) (fun hc4 => ?_)
 have hab : a ≠ b := by intro h; subst h; simp at hc4
 have htk : tkM l a b t = (l.set a (nn l a - t)).set b (nn l b + t) := by unfold tkM; rw [show (a == b) = false by simpa using hab]; rfl
 refine sy_draw [0, 0, 0, 0, 12, 28, 0, 124, 0, 0, 768, 1792, 0, 7936, 0, 20477, 53245, 0, 262143, 524287] (.tk 0 (.tk 1 (.tk 2 (.tk 3 (.tk 4 (.ld 5 (.tk 6 (.tk 7 (.tk 8 (.tk 9 (.tk 10 (.ld 11 (.tk 12 (.tk 13 (.tk 14 (.tk 15 (.tk 17 (.big 16 (.tk 18 (.big 19 .done)))))))))))))))))))) mixed (by kernel_rfl) ?_
 refine tk rfl (PE.move rfl) rfl ?_
 refine tk rfl (PE.move rfl) rfl ?_
 refine tk rfl (PE.move rfl) rfl ?_
 refine tk rfl (PE.fieldAddr fo82_1 rfl) rfl ?_
 refine tk rfl (PE.indexArr ar29 rfl rfl (by omega) (by omega)) rfl ?_
 refine ld rfl rfl (lh sc3 rfl (hnd_at e1 ha4)) rfl ?_
 refine tk rfl (PE.move rfl) rfl ?_
 refine tk rfl (PE.sub rfl rfl (by omega)) rfl ?_
 refine tk rfl (PE.move rfl) rfl ?_
 refine tk rfl (PE.fieldAddr fo82_1 rfl) rfl ?_
 refine tk rfl (PE.indexArr ar29 rfl rfl (by omega) (by omega)) rfl ?_
 refine ld rfl rfl (lh sc3 rfl (hnd_at e1 hb4)) rfl ?_
 refine tk rfl (PE.move rfl) rfl ?_
 refine tk rfl (PE.add rfl rfl (by omega)) rfl ?_
 refine sy_pull b8 ?_
 refine tk rfl (PE.fieldAddr fo82_1 rfl) rfl ?_
 refine tk rfl (PE.indexArr ar29 rfl rfl (by omega) (by omega)) rfl ?_
 refine tk rfl (PE.fieldAddr fo82_1 rfl) rfl ?_
 refine stoE (l' := .int .i64 x26 :: ints ((l).set a (nn l a - t))) rfl rfl rfl cn3 rfl rfl rfl (spl_hnd e1 ha4 _) (by rw [hnd_len e1]; show 0 + 1 + ((a : Nat) : Int).toNat * 1 + 1 ≤ 5; omega) ?_
 refine bg (fun w hs => ⟨trivial, trivial, trivial⟩) ?_
 refine tk rfl (PE.indexArr ar29 rfl rfl (by omega) (by omega)) rfl ?_
 refine stoE (l' := .int .i64 x26 :: ints ((l.set a (nn l a - t)).set b (nn l b + t))) rfl rfl rfl cn3 rfl rfl rfl (spl_hnd (show (l.set a (nn l a - t)).length = 4 by simp [e1]) hb4 _) (by rw [hnd_len (show (l.set a (nn l a - t)).length = 4 by simp [e1])]; show 0 + 1 + ((b : Nat) : Int).toNat * 1 + 1 ≤ 5; omega) ?_
 refine bg (fun w hs => trivial) ?_
 refine sy_seq ?_
 refine sy_tx' [0, 1] rfl ?_
 rw [← htk]
 obtain ⟨x0, x1, x2, x3, hx⟩ := list4 k1
 obtain ⟨hok, hfit⟩ := tak_fit (spot := x26) hm hn (by omega) hmi.1 hn0 ha4 hb4 (t := t) (by rw [← hl]; omega) (by rw [← hl]; exact hx)
 rw [hx]
 refine spL rfl rfl (lhA (hrow ⟨x26, x0, x1, x2, x3⟩) ag82 rfl rfl rfl) rfl ?_
 refine sy_pull b6 ?_
 refine stoA rfl rfl rfl cn82 rfl rfl rfl rfl ?_
 refine sy_ret ?_
 exact sy_return (vs := [_]) rfl (.cons (RV.cell rfl (lhA (hrow ⟨x26, x0, x1, x2, x3⟩) ag82 rfl rfl rfl)) .nil) rfl ⟨⟨x26, x0, x1, x2, x3⟩, tq2 + 1 + 1 + 1 + 1, m79, hok, hfit, rfl, by omega, by assumption, rfl, rfl⟩ (fun w h => St.sub ((((h.del b6).del b8).del b5).del b4))
 have hab : a = b := by simp at hc4; omega
 have htk : tkM l a b t = l := by unfold tkM; rw [show (a == b) = true by simpa using hab]; rfl
 refine sy_skip ?_
 refine sy_seq ?_
 refine sy_tx' [0, 1] rfl ?_
 rw [← htk]
 obtain ⟨x0, x1, x2, x3, hx⟩ := list4 k1
 obtain ⟨hok, hfit⟩ := tak_fit (spot := x26) hm hn (by omega) hmi.1 hn0 ha4 hb4 (t := t) (by rw [← hl]; omega) (by rw [← hl]; exact hx)
 rw [hx]
 refine spL rfl rfl (lhA (hrow ⟨x26, x0, x1, x2, x3⟩) ag82 rfl rfl rfl) rfl ?_
 refine sy_pull b6 ?_
 refine stoA rfl rfl rfl cn82 rfl rfl rfl rfl ?_
 refine sy_ret ?_
 exact sy_return (vs := [_]) rfl (.cons (RV.cell rfl (lhA (hrow ⟨x26, x0, x1, x2, x3⟩) ag82 rfl rfl rfl)) .nil) rfl ⟨⟨x26, x0, x1, x2, x3⟩, tq2 + 1 + 1 + 1 + 1, m79, hok, hfit, rfl, by omega, by assumption, rfl, rfl⟩ (fun w h => St.sub ((((h.del b6).del b8).del b5).del b4))
end Go.Proofs.Ytknoaljnelfklaa
namespace Go.Proofs.Ytknoaljnelfklaa
set_option linter.unusedSimpArgs false
set_option linter.unusedVariables false
open Go
theorem ap23 : apT Try.prog 23 = some (45, 5, 40) := by kernel_rfl
theorem cal52 : cal Try.prog 52 = true := by kernel_rfl
theorem cal63 : cal Try.prog 63 = true := by kernel_rfl
theorem OSl.freezeC {e sz : Nat} {rows : List (List Value)} (o : OSl e sz rows) : ∃ a c, o.fs = .slice a rows.length c ∧ rows.length ≤ c ∧ ∀ {H : Heap} {R : Facts} {w : World}, St (o.G ++ H) R w → St H (RowsA a sz rows :: R) w := by
  obtain ⟨fs, G, hl, his⟩ := o
  rcases his with ⟨rfl, rfl, rfl⟩ | ⟨b, cap, junk, rfl, rfl, _, hc, _⟩
  · exact ⟨none, 0, rfl, Nat.le_refl _, fun {H R w} h => (St.also (H := H) (R := R) h (f := RowsA none sz []) (fun w' _ => fun i row hi => by simp at hi))⟩
  · exact ⟨_, cap, rfl, hc, fun {H R w} h => St.rows (rest := junk) h hl⟩
theorem grBad_snoc {l : List Grd} {x : Grd} (h : ∀ i, grBad l i = false) (hx : ∀ q ∈ l, x.price ≤ q.price) : ∀ i, grBad (l ++ [x]) i = false := fun i => by
  rcases Nat.lt_trichotomy (i + 1) l.length with h1 | h1 | h1
  · have := h i
    unfold grBad at this ⊢
    rw [List.getElem?_append_left (by omega), List.getElem?_append_left (by omega)]; exact this
  · obtain ⟨q, hq⟩ : ∃ q, l[i]? = some q := ⟨_, List.getElem?_eq_getElem (by omega)⟩
    have h2 := hx q (List.mem_of_getElem? hq)
    unfold grBad
    rw [List.getElem?_append_left (by omega), hq, List.getElem?_append_right (by omega), show i + 1 - l.length = 0 from by omega]
    simp only [List.getElem?_cons_zero]
    rw [decide_eq_false (by omega)]
  · unfold grBad
    rw [List.getElem?_eq_none (l := l ++ [x]) (i := i + 1) (by simp; omega)]
    split <;> simp_all
structure GrI (l : List Grd) (k : Nat) (pr : Int) : Prop where
  len : l.length = k
  bd : 0 ≤ pr ∧ pr ≤ 100
  q : ∀ q ∈ l, (pr ≤ q.price ∧ q.price ≤ 100) ∧ ∀ k < 4, 0 ≤ nn q.ns k ∧ nn q.ns k ≤ 40
  bad : ∀ i, grBad l i = false
theorem GrI.more {l : List Grd} {k : Nat} {pr a b c d x : Int} (h : GrI l k pr) (ha : 0 ≤ a ∧ a ≤ 40) (hb : 0 ≤ b ∧ b ≤ 40) (hc : 0 ≤ c ∧ c ≤ 40) (hd : 0 ≤ d ∧ d ≤ 40) (hx : 0 ≤ x ∧ x ≤ pr) : GrI (l ++ [⟨a, b, c, d, pr⟩]) (k + 1) (pr - x) := by
  have hp := h.bd
  refine ⟨by simp [h.len], by omega, fun q hq => ?_, grBad_snoc h.bad (fun q hq => (h.q q hq).1.1)⟩
  rcases List.mem_append.1 hq with hq | hq
  · have := h.q q hq; exact ⟨by omega, this.2⟩
  · simp only [List.mem_singleton] at hq; subst hq; exact ⟨by simp only; omega, of4 ⟨ha, hb, hc, hd⟩⟩
structure MdOk (ng nh : Int) (g : Gat) (c : Crt) (m : Mix) : Prop where
  gok : g.ok
  cok : c.ok
  mix : Mxt m
  err : g.err ≤ 8
  miss : g.miss ≤ 6
  fit : ∀ h ∈ c.hs, fitB g.miss h m = true
  many : g.grs.length ≤ ng
  more : c.hs.length ≤ nh
  net : 0 ≤ c.full - c.empty ∧ c.full - c.empty < 2000
theorem c_Made (l0 : List Int) (a0 : Option Addr) (c0 bk : Nat) (hgl : l0.length ≤ 9223372036854775807) (tq mx : Int) (htq : 0 ≤ tq ∧ tq ≤ 1000) (hmx : 0 ≤ mx ∧ mx ≤ 4294967295) (ng nh : Int) (hng : 0 ≤ ng ∧ ng ≤ 4) (hnh : 0 ≤ nh ∧ nh ≤ 6) (H : Heap) (R : Facts) [hG : MemRows a0 1 (urows l0) R] :
    Fn Try.prog 13 [.pointer (some ⟨bk, 0, none⟩), .int .i64 ng, .int .i64 nh] ((bk, cel 125 [.slice a0 l0.length c0, .int .i64 (tq), .int .u32 (mx)]) :: H) R (fun v H' R' => ∃ (g : Gat) (c : Crt) (m : Mix) (ag : Option Addr) (cg : Nat) (ah : Option Addr) (ch : Nat) (tq' mx' : Int), MdOk ng nh g c m ∧ g.grs.length ≤ cg ∧ v = .tuple #[g.v (g.sl ag cg), c.v (c.sl ah ch), .agg (ints m).toArray] ∧ (tq ≤ tq' ∧ tq' ≤ tq + 200) ∧ (0 ≤ mx' ∧ mx' ≤ 4294967295) ∧ H' = (bk, cel 125 [.slice a0 l0.length c0, .int .i64 (tq'), .int .u32 (mx')]) :: H ∧ R' = RowsA ah 5 (hrows c.hs) :: RowsA ag 5 (grows g.grs) :: R) := by
 refine fn_of Try.func13 rfl Try.ntmps13 rfl ?_
 refine sy_seq ?_
 refine sy_tx' [0, 1, 2] rfl ?_
 refine alc rfl zl25 rfl (fun b6 => ?_)
 refine alc rfl zl28 rfl (fun b7 => ?_)
 refine alc rfl zl29 rfl (fun b8 => ?_)
 refine sy_seq ?_
 refine sy_tx' [0, 1, 2, 3, 4, 5, 6] rfl ?_
 refine sy_pull bk ?_
 refine sp rfl (PE.move rfl) rfl ?_
 refine cl rfl cal64 rfl rfl (c_Below l0 a0 c0 bk hgl _ _ (by omega) (by assumption) (9) _ _) ?_
 rintro _ _ R1 ⟨x15, m15, hx15, rfl, hm15, rfl, hR1⟩
 obtain rfl := hR1.symm
 refine sp rfl (PE.move rfl) rfl ?_
 refine cl rfl cal64 rfl rfl (c_Below l0 a0 c0 bk hgl _ _ (by omega) (by assumption) (7) _ _) ?_
 rintro _ _ R1 ⟨x17, m17, hx17, rfl, hm17, rfl, hR1⟩
 obtain rfl := hR1.symm
 refine sp rfl (PE.build (out := gtl ⟨x15, x17, []⟩ (.slice none 0 0)) pl25 zl25 rfl rfl) rfl ?_
 refine alc rfl zl25 rfl (fun b9 => ?_)
 refine sto rfl rfl rfl cn25 rfl rfl rfl rfl ?_
 refine sy_seq ?_
 refine sy_tx' [0, 1, 2] rfl ?_
 refine sy_pull bk ?_
 refine sp rfl (PE.move rfl) rfl ?_
 refine cl rfl cal70 rfl rfl (c_Among l0 a0 c0 bk hgl _ _ (by omega) (by assumption) (1) (100) (by first | omega | (dsimp only; omega)) _ _) ?_
 rintro _ _ R1 ⟨x20, m20, hx20, rfl, hm20, rfl, hR1⟩
 obtain rfl := hR1.symm
 refine sp rfl (PE.assign rfl) rfl ?_
 refine sy_seq ?_
 refine sy_seq ?_
 refine sy_tx' [0, 1, 2, 3, 4] rfl ?_
 refine sp rfl (PE.move rfl) rfl ?_
 refine sp rfl (PE.move rfl) rfl ?_
 refine sp rfl (PE.add rfl rfl (by omega)) rfl ?_
 refine cl rfl cal64 rfl rfl (c_Below l0 a0 c0 bk hgl _ _ (by omega) (by assumption) (ng + 1) _ _) ?_
 rintro _ _ R1 ⟨x24, m24, hx24, rfl, hm24, rfl, hR1⟩
 obtain rfl := hR1.symm
 refine sp rfl (PE.move rfl) rfl ?_
 refine sy_block ?_
 obtain ⟨n24, rfl⟩ : ∃ n : Nat, x24 = n := ⟨x24.toNat, by omega⟩
 refine sy_loop (ι := (x : {x : Nat × Int × List Grd × Int × Int // x.1 ≤ n24 ∧ GrI x.2.2.1 x.1 x.2.1 ∧ (tq ≤ x.2.2.2.1 ∧ x.2.2.2.1 ≤ tq + 10 + 5 * x.1) ∧ (0 ≤ x.2.2.2.2 ∧ x.2.2.2.2 ≤ 4294967295)}) × OSl 45 5 (grows x.1.2.2.1)) (fun x => ⟨[(0, .pointer (some ⟨bk, 0, none⟩)), (6, .pointer (some ⟨b6, 0, none⟩)), (7, .pointer (some ⟨b7, 0, none⟩)), (8, .pointer (some ⟨b8, 0, none⟩)), (9, .pointer (some ⟨b9, 0, none⟩)), (2, .int .i64 nh), (10, .int .i64 x.1.1.2.1), (24, .int .i64 n24), (25, .int .i64 x.1.1.1)],
   (bk, cel 125 [.slice a0 l0.length c0, .int .i64 (x.1.1.2.2.2.1), .int .u32 (x.1.1.2.2.2.2)]) :: (x.2.G ++ (b9, cel 25 (gtl ⟨x15, x17, x.1.1.2.2.1⟩ x.2.fs)) :: (b8, cel 29 (ints [0, 0, 0, 0])) :: (b7, cel 28 [.int .i64 0, .int .i64 0, .slice none 0 0]) :: (b6, cel 25 [.int .i64 0, .int .i64 0, .slice none 0 0]) :: H), R⟩) (fun x => n24 - x.1.1.1) ⟨⟨(0, x20, [], tq + 1 + 1 + 1 + 1, m24), by omega, ⟨rfl, by dsimp only; omega, by simp, fun i => by simp [grBad]⟩, by dsimp only; omega, by assumption⟩, OSl.nil _ _⟩ ?_ (fun x => ?_)
 exact sy_at (by repeat' first | exact Sub.nil | apply Sub.cons | rfl | (simp [lk]; omega)) (fun _ h => h)
 obtain ⟨⟨⟨k, pr, l, tq2, mx2⟩, hk, hri, htq2, hmx2⟩, o'⟩ := x
 dsimp only at hk hri htq2 hmx2 o' ⊢
 have h2 := hri.bd
 have h3 := hri.len
 refine sy_seq ?_
 refine sy_tx' [0] rfl ?_
 refine sp rfl (PE.lss rfl rfl) rfl ?_
 refine sy_seq ?_
 refine sy_cond rfl (fun hc0 => ?_) (fun hc0 => ?_)
 try simp only [decide_eq_true_eq, decide_eq_false_iff_not, Bool.and_eq_true, Bool.or_eq_true, Bool.not_eq_true', Int.not_le, Int.not_lt] at hc0
 refine sy_skip ?_
 refine sy_seq ?_
 refine sy_block ?_
 refine sy_seq ?_
 refine sy_draw [0, 1, 0, 4, 0, 28, 0, 124, 0, 508, 0, 2044, 4092, 8191, 16383, 32767] (.tk 0 (.ld 1 (.tk 2 (.tk 4 (.tk 6 (.tk 8 (.tk 10 (.big 3 (.big 5 (.big 7 (.big 9 (.tk 11 (.big 12 (.big 13 (.tk 14 (.big 15 .done)))))))))))))))) mixed (by kernel_rfl) ?_
 refine tk rfl (PE.fieldAddr fo25_2 rfl) rfl ?_
 refine ld rfl rfl (lh sc23 rfl rfl) rfl ?_
 refine tk rfl (PE.move rfl) rfl ?_
 refine tk rfl (PE.move rfl) rfl ?_
 refine tk rfl (PE.move rfl) rfl ?_
 refine tk rfl (PE.move rfl) rfl ?_
 refine tk rfl (PE.move rfl) rfl ?_
 refine cl rfl cal70 rfl rfl (c_Among l0 a0 c0 bk hgl _ _ (by omega) (by assumption) (10) (38) (by first | omega | (dsimp only; omega)) _ _) ?_
 rintro _ _ R1 ⟨x30, m30, hx30, rfl, hm30, rfl, hR1⟩
 obtain rfl := hR1.symm
 refine bg (fun w hs => ⟨(lh sc23 rfl rfl) w hs, trivial⟩) ?_
 refine cl rfl cal70 rfl rfl (c_Among l0 a0 c0 bk hgl _ _ (by omega) (by assumption) (1) (14) (by first | omega | (dsimp only; omega)) _ _) ?_
 rintro _ _ R1 ⟨x32, m32, hx32, rfl, hm32, rfl, hR1⟩
 obtain rfl := hR1.symm
 refine bg (fun w hs => ⟨(lh sc23 rfl rfl) w hs, trivial⟩) ?_
 refine cl rfl cal64 rfl rfl (c_Below l0 a0 c0 bk hgl _ _ (by omega) (by assumption) (9) _ _) ?_
 rintro _ _ R1 ⟨x34, m34, hx34, rfl, hm34, rfl, hR1⟩
 obtain rfl := hR1.symm
 refine bg (fun w hs => ⟨(lh sc23 rfl rfl) w hs, trivial⟩) ?_
 refine cl rfl cal70 rfl rfl (c_Among l0 a0 c0 bk hgl _ _ (by omega) (by assumption) (1) (14) (by first | omega | (dsimp only; omega)) _ _) ?_
 rintro _ _ R1 ⟨x36, m36, hx36, rfl, hm36, rfl, hR1⟩
 obtain rfl := hR1.symm
 refine bg (fun w hs => ⟨(lh sc23 rfl rfl) w hs, trivial⟩) ?_
 refine tk rfl (PE.build (out := grow ⟨x30, x32, x34, x36, pr⟩) pl45 zl45 rfl rfl) rfl ?_
 refine bsl (out := [_, _, _, _, _]) rfl sl23 zl45 rfl rfl rfl rfl rfl rfl (fun b39 => ?_)
 refine bg (fun w hs => ⟨(lh sc23 rfl rfl) w hs, trivial⟩) ?_
 refine apO (o') rfl ap23 rfl rfl (rowsH (row := grow ⟨x30, x32, x34, x36, pr⟩) rfl) rfl rfl ((by simp only [grows, List.length_map, List.length_singleton]; omega)) rfl (fun o40 => ?_)
 refine bg (fun w hs => ⟨trivial, trivial⟩) ?_
 refine tk rfl (PE.fieldAddr fo25_2 rfl) rfl ?_
 refine stoE (l' := gtl ⟨x15, x17, l ++ [⟨x30, x32, x34, x36, pr⟩]⟩ o40.fs) rfl rfl rfl cn23 rfl (by rw [o40.cells.1]; first | done | rfl) (by rw [o40.cells.1]; simp [o40.cells.2]) (by rw [o40.cells.1]; first | done | rfl) (by rw [o40.cells.1]; first | done | exact Nat.le_refl _) ?_
 refine bg (fun w hs => trivial) ?_
 refine sy_tx' [0, 1, 2, 3, 4, 5, 6] rfl ?_
 refine sy_pull bk ?_
 refine sp rfl (PE.move rfl) rfl ?_
 refine sp rfl (PE.move rfl) rfl ?_
 refine sp rfl (PE.move rfl) rfl ?_
 refine sp rfl (PE.add rfl rfl (by omega)) rfl ?_
 refine cl rfl cal64 rfl rfl (c_Below l0 a0 c0 bk hgl _ _ (by omega) (by assumption) (pr + 1) _ _) ?_
 rintro _ _ R1 ⟨x46, m46, hx46, rfl, hm46, rfl, hR1⟩
 obtain rfl := hR1.symm
 refine sp rfl (PE.sub rfl rfl (by omega)) rfl ?_
 refine sp rfl (PE.assign rfl) rfl ?_
 refine sy_tx' [0, 1] rfl ?_
 refine sp rfl (PE.add rfl rfl (by omega)) rfl ?_
 refine sp rfl (PE.move rfl) rfl ?_
 exact sy_next ⟨⟨(k + 1, pr - x46, l ++ [⟨x30, x32, x34, x36, pr⟩], tq2 + 1 + 1 + 1 + 1 + 1, m46), by omega, hri.more (x := x46) (by omega) (by omega) (by omega) (by omega) (by omega), by dsimp only; omega, by assumption⟩, o40.cast (by simp [grows])⟩ (by dsimp only; omega) (by repeat' first | exact Sub.nil | apply Sub.cons | rfl | (simp [lk]; omega)) (fun w h => (h.del b39).perm (by first | exact .refl _ | exact List.Perm.cons _ (.refl _)))
 try simp only [decide_eq_true_eq, decide_eq_false_iff_not, Bool.and_eq_true, Bool.or_eq_true, Bool.not_eq_true', Int.not_le, Int.not_lt] at hc0
 obtain rfl : k = n24 := by omega
 obtain ⟨ag, cg, he, hcg, hf⟩ := o'.freezeC
 rw [he]
 refine sy_pull bk ?_
 refine Sy.heap (H' := _) (fun w h => hf (h.perm (List.perm_middle (l₁ := o'.G) (a := _)).symm)) ?_
 rw [show (grows l).length = l.length from List.length_map _]
 rw [show (grows l).length = l.length from List.length_map _] at hcg
 have hgo : Gat.ok ⟨x15, x17, l⟩ := ⟨by simp only; omega, by simp only; omega, by simp only; omega, fun q hq => by have := hri.q q hq; exact ⟨by omega, this.2⟩, hri.bad⟩
 clear he hf
 refine sy_exit ?_
 repeat refine sy_tx ?_
 refine sy_bx ?_
 refine sy_seq ?_
 refine sy_tx' [0, 1, 2, 3] rfl ?_
 refine sp rfl (PE.move rfl) rfl ?_
 refine cl rfl cal63 rfl rfl (c_Mixed l0 a0 c0 bk hgl _ _ (by omega) (by assumption) _ _) ?_
 rintro _ _ R1 ⟨q, tq5, mx5, hq, rfl, htq5, hmx5, rfl, hR1⟩
 obtain rfl := hR1.symm
 refine alc rfl zl29 rfl (fun b11 => ?_)
 refine stoA rfl rfl rfl cn29 rfl (by rw [ints_length]; exact hq.len) rfl (ints_one _) ?_
 refine sy_seq ?_
 refine sy_tx' [0, 1, 2] rfl ?_
 refine sy_pull bk ?_
 refine sp rfl (PE.move rfl) rfl ?_
 refine cl rfl cal64 rfl rfl (c_Below l0 a0 c0 bk hgl _ _ (by omega) (by assumption) (900) _ _) ?_
 rintro _ _ R1 ⟨x52, m52, hx52, rfl, hm52, rfl, hR1⟩
 obtain rfl := hR1.symm
 refine sp rfl (PE.assign rfl) rfl ?_
 refine sy_seq ?_
 refine sy_tx' [0, 1, 2, 3, 4, 5, 6, 7] rfl ?_
 refine sp rfl (PE.move rfl) rfl ?_
 refine sp rfl (PE.move rfl) rfl ?_
 refine cl rfl cal64 rfl rfl (c_Below l0 a0 c0 bk hgl _ _ (by omega) (by assumption) (2000) _ _) ?_
 rintro _ _ R1 ⟨x55, m55, hx55, rfl, hm55, rfl, hR1⟩
 obtain rfl := hR1.symm
 refine sp rfl (PE.add rfl rfl (by omega)) rfl ?_
 refine sp rfl (PE.move rfl) rfl ?_
 refine sp rfl (PE.build (out := ctl ⟨x52 + x55, x52, []⟩ (.slice none 0 0)) pl28 zl28 rfl rfl) rfl ?_
 refine alc rfl zl28 rfl (fun b13 => ?_)
 refine sto rfl rfl rfl cn28 rfl rfl rfl rfl ?_
 refine sy_seq ?_
 refine sy_seq ?_
 refine sy_tx' [0, 1, 2, 3, 4] rfl ?_
 refine sy_pull bk ?_
 refine sp rfl (PE.move rfl) rfl ?_
 refine sp rfl (PE.move rfl) rfl ?_
 refine sp rfl (PE.add rfl rfl (by omega)) rfl ?_
 refine cl rfl cal64 rfl rfl (c_Below l0 a0 c0 bk hgl _ _ (by omega) (by assumption) (nh + 1) _ _) ?_
 rintro _ _ R1 ⟨x62, m62, hx62, rfl, hm62, rfl, hR1⟩
 obtain rfl := hR1.symm
 refine sp rfl (PE.move rfl) rfl ?_
 refine sy_block ?_
 obtain ⟨n62, rfl⟩ : ∃ n : Nat, x62 = n := ⟨x62.toNat, by omega⟩
 refine sy_loop (ι := (x : {x : Nat × List Hnd × Int × Int // x.1 ≤ n62 ∧ (x.2.1.length = x.1 ∧ ∀ h ∈ x.2.1, h.ok ∧ fitB x17 h q = true) ∧ (tq ≤ x.2.2.1 ∧ x.2.2.1 ≤ tq + 60 + 20 * x.1) ∧ (0 ≤ x.2.2.2 ∧ x.2.2.2 ≤ 4294967295)}) × OSl 82 5 (hrows x.1.2.1)) (fun x => ⟨[(0, .pointer (some ⟨bk, 0, none⟩)), (6, .pointer (some ⟨b6, 0, none⟩)), (7, .pointer (some ⟨b7, 0, none⟩)), (8, .pointer (some ⟨b8, 0, none⟩)), (9, .pointer (some ⟨b9, 0, none⟩)), (11, .pointer (some ⟨b11, 0, none⟩)), (13, .pointer (some ⟨b13, 0, none⟩)), (62, .int .i64 n62), (63, .int .i64 x.1.1.1)],
   (bk, cel 125 [.slice a0 l0.length c0, .int .i64 (x.1.1.2.2.1), .int .u32 (x.1.1.2.2.2)]) :: (x.2.G ++ (b13, cel 28 (ctl ⟨x52 + x55, x52, x.1.1.2.1⟩ x.2.fs)) :: (b11, cel 29 (ints q)) :: (b9, cel 25 (gtl ⟨x15, x17, l⟩ (.slice ag l.length cg))) :: (b8, cel 29 (ints [0, 0, 0, 0])) :: (b7, cel 28 [.int .i64 0, .int .i64 0, .slice none 0 0]) :: (b6, cel 25 [.int .i64 0, .int .i64 0, .slice none 0 0]) :: H), RowsA ag 5 (grows l) :: R⟩) (fun x => n62 - x.1.1.1) ⟨⟨(0, [], tq5 + 1 + 1 + 1, m62), by omega, ⟨rfl, by simp⟩, by dsimp only; omega, by assumption⟩, OSl.nil _ _⟩ ?_ (fun x => ?_)
 exact sy_at (by repeat' first | exact Sub.nil | apply Sub.cons | rfl | (simp [lk]; omega)) (fun _ h => h)
 obtain ⟨⟨⟨k, hds, tq3, mx3⟩, hk1, ⟨hkl, hkh⟩, htq3, hmx3⟩, o'⟩ := x
 dsimp only at hk1 hkl hkh htq3 hmx3 o' ⊢
 refine sy_seq ?_
 refine sy_tx' [0] rfl ?_
 refine sp rfl (PE.lss rfl rfl) rfl ?_
 refine sy_seq ?_
 refine sy_cond rfl (fun hc1 => ?_) (fun hc1 => ?_)
 try simp only [decide_eq_true_eq, decide_eq_false_iff_not, Bool.and_eq_true, Bool.or_eq_true, Bool.not_eq_true', Int.not_le, Int.not_lt] at hc1
 refine sy_skip ?_
 refine sy_seq ?_
 refine sy_block ?_
 refine sy_draw [0, 1, 0, 0, 0, 28, 60, 127, 255, 511] (.tk 0 (.ld 1 (.tk 2 (.ld 3 (.ld 4 (.big 5 (.big 6 (.big 7 (.tk 8 (.big 9 .done)))))))))) mixed (by kernel_rfl) ?_
 refine tk rfl (PE.fieldAddr fo28_2 rfl) rfl ?_
 refine ld rfl rfl (lh sc26 rfl rfl) rfl ?_
 refine tk rfl (PE.move rfl) rfl ?_
 refine ld rfl rfl (lhA (gtl ⟨x15, x17, l⟩ (.slice ag l.length cg)) ag25 rfl rfl rfl) rfl ?_
 refine ld rfl rfl (lhA (ints (q)) ag29 rfl (rest := []) (by rw [List.append_nil]; rfl) (by rw [ints_length]; exact hq.len)) rfl ?_
 refine cl rfl cal52 rfl rfl (c_Taken l0 a0 c0 bk hgl _ _ (by omega) (by assumption) ⟨x15, x17, l⟩ (by dsimp only; omega) (.slice ag l.length cg) q hq _ _) ?_
 rintro _ _ R1 ⟨h, tq4, mx4, hho, hhf, rfl, htq4, hmx4, rfl, hR1⟩
 obtain rfl := hR1.symm
 refine bg (fun w hs => ⟨trivial, trivial, (lh sc26 rfl rfl) w hs, trivial⟩) ?_
 refine bsl (out := [_, _, _, _, _]) rfl sl26 zl82 rfl rfl rfl rfl rfl rfl (fun b71 => ?_)
 refine bg (fun w hs => ⟨(lh sc26 rfl rfl) w hs, trivial⟩) ?_
 refine apO (o') rfl ap26 rfl rfl (rowsH (row := hrow h) rfl) rfl rfl ((by simp only [hrows, List.length_map, List.length_singleton]; omega)) rfl (fun o72 => ?_)
 refine bg (fun w hs => ⟨trivial, trivial⟩) ?_
 refine tk rfl (PE.fieldAddr fo28_2 rfl) rfl ?_
 refine stoE (l' := ctl ⟨x52 + x55, x52, hds ++ [h]⟩ o72.fs) rfl rfl rfl cn26 rfl (by rw [o72.cells.1]; first | done | rfl) (by rw [o72.cells.1]; simp [o72.cells.2]) (by rw [o72.cells.1]; first | done | rfl) (by rw [o72.cells.1]; first | done | exact Nat.le_refl _) ?_
 refine bg (fun w hs => trivial) ?_
 refine sy_tx' [0, 1] rfl ?_
 refine sy_pull bk ?_
 refine sp rfl (PE.add rfl rfl (by omega)) rfl ?_
 refine sp rfl (PE.move rfl) rfl ?_
 exact sy_next ⟨⟨(k + 1, hds ++ [h], tq4, mx4), by omega, ⟨by simp [hkl], fun x hx => by rcases List.mem_append.1 hx with hx | hx; exact hkh x hx; obtain rfl := List.mem_singleton.1 hx; exact ⟨hho, hhf⟩⟩, by dsimp only; omega, by assumption⟩, o72.cast (by simp [hrows])⟩ (by dsimp only; omega) (by repeat' first | exact Sub.nil | apply Sub.cons | rfl | (simp [lk]; omega)) (fun w h => (h.del b71).perm (by first | exact .refl _ | exact List.Perm.cons _ (.refl _)))
 try simp only [decide_eq_true_eq, decide_eq_false_iff_not, Bool.and_eq_true, Bool.or_eq_true, Bool.not_eq_true', Int.not_le, Int.not_lt] at hc1
 obtain rfl : k = n62 := by omega
 obtain ⟨ah, ch, he, hf⟩ := o'.freeze
 rw [he]
 refine sy_pull bk ?_
 refine Sy.heap (H' := _) (fun w h => hf (h.perm (List.perm_middle (l₁ := o'.G) (a := _)).symm)) ?_
 rw [show (hrows hds).length = hds.length from List.length_map _]
 clear he hf
 refine sy_exit ?_
 repeat refine sy_tx ?_
 refine sy_bx ?_
 refine sy_seq ?_
 refine sy_draw [0, 0, 0, 1, 11, 31] (.ld 0 (.ld 1 (.ld 2 (.big 3 (.big 4 (.big 5 .done)))))) mixed (by kernel_rfl) ?_
 refine ld rfl rfl (lhA (gtl ⟨x15, x17, l⟩ (.slice ag l.length cg)) ag25 rfl rfl rfl) rfl ?_
 refine ld rfl rfl (lhA (ctl ⟨x52 + x55, x52, hds⟩ (.slice ah hds.length ch)) ag28 rfl rfl rfl) rfl ?_
 refine ld rfl rfl (lhA (ints (q)) ag29 rfl (rest := []) (by rw [List.append_nil]; rfl) (by rw [ints_length]; exact hq.len)) rfl ?_
 refine sto rfl rfl rfl cn25 rfl rfl rfl rfl ?_
 refine bg (fun w hs => ⟨(lhA (ints (q)) ag29 rfl (rest := []) (by rw [List.append_nil]; rfl) (by rw [ints_length]; exact hq.len)) w hs, (lhA (ctl ⟨x52 + x55, x52, hds⟩ (.slice ah hds.length ch)) ag28 rfl rfl rfl) w hs, trivial, trivial⟩) ?_
 refine sto rfl rfl rfl cn28 rfl rfl rfl rfl ?_
 refine bg (fun w hs => ⟨(lhA (ints (q)) ag29 rfl (rest := []) (by rw [List.append_nil]; rfl) (by rw [ints_length]; exact hq.len)) w hs, trivial, trivial⟩) ?_
 refine stoA rfl rfl rfl cn29 rfl (by rw [ints_length]; exact hq.len) rfl (ints_one _) ?_
 refine bg (fun w hs => ⟨trivial, trivial⟩) ?_
 refine sy_ret ?_
 have hco : Crt.ok ⟨x52 + x55, x52, hds⟩ := ⟨by simp only; omega, by simp only; omega, by simp only; omega, fun h hh => (hkh h hh).1⟩
 exact sy_return (vs := [_, _, _]) rfl (.cons (RV.cell rfl (lhA [_, _, _] ag25 rfl rfl rfl)) (.cons (RV.cell rfl (lhA [_, _, _] ag28 rfl rfl rfl)) (.cons (RV.cell rfl (lhA (ints (q)) ag29 rfl (rest := []) (by rw [List.append_nil]; rfl) (by rw [ints_length]; exact hq.len))) .nil))) rfl ⟨⟨x15, x17, l⟩, ⟨x52 + x55, x52, hds⟩, q, ag, cg, ah, ch, tq3, mx3, ⟨hgo, hco, hq, by simp only; omega, by simp only; omega, fun h hh => (hkh h hh).2, by simp only; omega, by simp only; omega, by simp only; omega⟩, hcg, rfl, by omega, by assumption, rfl, rfl⟩ (fun w h => St.sub ((((((h.del b13).del b11).del b9).del b8).del b7).del b6))
end Go.Proofs.Ytknoaljnelfklaa
namespace Go.Proofs.Ytknoaljnelfklaa
set_option linter.unusedSimpArgs false
set_option linter.unusedVariables false
open Go
theorem cal13 : cal Try.prog 13 = true := by kernel_rfl
theorem cal14 : cal Try.prog 14 = true := by kernel_rfl
theorem cal22 : cal Try.prog 22 = true := by kernel_rfl
theorem md_told {ng nh : Int} {g : Gat} {c : Crt} {m : Mix} (h : MdOk ng nh g c m) : bothE g c = 0 ∧ toldE g c false = 0 ∧ ∃ b, clo (boxF g.miss c.hs fun _ => true) = some b ∧ Tight b ∧ ∀ m', Mx b m' ↔ (Mxt m' ∧ ∀ x ∈ c.hs, fitB g.miss x m' = true) := by
  have h1 := gat_ok.2 h.gok
  have h2 := crt_ok.2 h.cok
  have h0 : bothE g c = 0 := by simp [bothE, h1, h2]
  have hmi := h.gok.miss
  have hiff : ∀ m', Mx (boxF g.miss c.hs fun _ => true) m' ↔ (Mxt m' ∧ ∀ x ∈ c.hs, fitB g.miss x m' = true) := fun m' => by
    rw [boxF_mx hmi.1 h.cok.hs]
    constructor
    · rintro ⟨h3, h4⟩
      refine ⟨h3, fun x hx => ?_⟩
      obtain ⟨i, hi⟩ := List.getElem?_of_mem hx
      exact h4 i x hi rfl
    · rintro ⟨h3, h4⟩
      exact ⟨h3, fun i x hx _ => h4 x (List.mem_of_getElem? hx)⟩
  cases hb : clo (boxF g.miss c.hs fun _ => true) with
  | none => exact absurd ((hiff m).2 ⟨h.mix, h.fit⟩) (clo_none (boxF_ok _ _ _) hb m)
  | some b =>
    obtain ⟨h3, h4⟩ := clo_some (boxF_ok _ _ _) hb
    exact ⟨h0, by simp [toldE, h0, hb], b, rfl, h3, fun m' => (h4 m').trans (hiff m')⟩
theorem md_net {ng nh : Int} {g : Gat} {c : Crt} {m : Mix} (h : MdOk ng nh g c m) : netR g c = .tuple #[spv (netP g c).1 (netP g c).2, .int .i64 0] ∧ (0 ≤ (netP g c).1 ∧ (netP g c).1 ≤ c.full - c.empty) ∧ (c.full - c.empty ≤ (netP g c).2 ∧ (netP g c).2 ≤ 2100) := by
  have h1 := h.net
  have h2 := h.gok.err
  refine ⟨by unfold netR; rw [decide_eq_false (show ¬ bothE g c ≠ 0 by rw [(md_told h).1]; decide)]; rfl, ?_, ?_⟩ <;> simp only [netP] <;> omega
theorem md_pay {ng nh : Int} {g : Gat} {c : Crt} {m : Mix} (h : MdOk ng nh g c m) {l : List Int} (hl : canR g c = l) : payR g c = .tuple #[spv ((netP g c).1 * leastP g.grs l) ((netP g c).2 * mostP g.grs l), .int .i64 0] := by
  unfold payR
  rw [decide_eq_false (show ¬ toldE g c false ≠ 0 by rw [(md_told h).2.1]; decide), hl]; rfl
end Go.Proofs.Ytknoaljnelfklaa
namespace Go.Proofs.Ytknoaljnelfklaa
set_option linter.unusedSimpArgs false
set_option linter.unusedVariables false
open Go
theorem cal23 : cal Try.prog 23 = true := by kernel_rfl
theorem wgh_at {n w x a p z : Int} (hn : 0 ≤ n) (hw : n ≤ w ∧ w ≤ x) (ha : 0 ≤ a) (hp : a ≤ p ∧ p ≤ z) : n * a / 40 ≤ w * p / 40 ∧ w * p / 40 ≤ x * z / 40 :=
  ⟨Int.ediv_le_ediv (by omega) (Int.mul_le_mul hw.1 hp.1 ha (by omega)), Int.ediv_le_ediv (by omega) (Int.mul_le_mul hw.2 hp.2 (by omega) (by omega))⟩
end Go.Proofs.Ytknoaljnelfklaa
namespace Go.Proofs.Ytknoaljnelfklaa
set_option linter.unusedSimpArgs false
set_option linter.unusedVariables false
open Go
theorem run_rows {P : Program} {ax : Option Addr} {s dl sc : Nat} {rows : List (List Value)} {w : World} (hr : RowsA ax s rows w) (hl : ∀ q ∈ rows, q.length = s) (hle : rows.length ≤ dl) :
    (Builtin.firstCells s (Nat.min rows.length dl) (.slice ax rows.length sc)).run P w = .ok rows.flatten.toArray w := by
  rw [show Nat.min rows.length dl = rows.length from Nat.min_eq_left hle]
  have hf := flat_len hl
  match ax, hr with
  | none, hr =>
    match rows, hr with
    | [], _ => rfl
    | q :: qs, hr =>
      obtain ⟨_, b, off, h, _⟩ := hr 0 q rfl
      cases h
  | some a, hr =>
    have hc : ∀ j v, rows.flatten[j]? = some v → w.cell? (a.add j) = some v := by
      match rows, hr with
      | [], _ => intro j v h; simp at h
      | q :: qs, hr =>
        obtain ⟨_, b, off, h, _⟩ := hr 0 q rfl
        cases h
        intro j v h
        rw [addr_add]; exact rows_flat hr j v h
    have := run_loadCells_list (P := P) w a rows.flatten hc
    rw [hf] at this
    exact this
section steps
variable {P : Program} {r : Option Nat} {ops : Array Oper} {n : Nat} {L : Slots} {D : List Deferred} {H : Heap} {R : Facts} {K : Act → World → Prop}
  {i d : Nat} {ty : TypeId} {pos : String} {af : Array Edge}
theorem cpyR {T T2 e s : Nat} {x y : Operand} {b dl dc sc e2 : Nat} {l : List Value} {ax : Option Addr} {rows : List (List Value)} {H' : Heap}
    (ho : ops[i]? = some ⟨some d, .call { callee := .builtin .copy, args := #[x, y], argTypes := #[T, T2] }, ty, pos, af, none⟩) (hT : slE P T = some (e, s))
    (hx : ev L x = some (.slice (some ⟨b, 0, none⟩) dl dc)) (hy : ev L y = some (.slice ax rows.length sc)) [mr : MemRows ax s rows R] (hl : ∀ q ∈ rows, q.length = s) (hle : rows.length ≤ dl)
    (h1 : rows.flatten.all (·.oneCell') = true) (hb : rows.flatten.length ≤ l.length) (hd : Nat.blt d n = true)
    [m : Mem1 b (cel e2 l) H] [rp : Rep [(b, cel e2 l)] [(b, cel e2 (spl l 0 rows.flatten))] H H']
    (h : Sy n ((d, .int .i64 rows.length) :: L) D H' R K) : Sy n L D H R (stp P r ops i K) := fun a w ha hD hs => by
  obtain ⟨ie, hu, hi, rfl⟩ := slE_und hT
  have hr := run_rows (P := P) (sc := sc) (hs.now mr.mem) hl hle
  have hst : (storeCells ⟨b, 0, none⟩ rows.flatten).run P w = .ok () { w with heap := w.heap.setIfInBounds b (cel e2 (spl l 0 rows.flatten)) } := run_store0 (P := P) (e := e2) h1 hb (hs.held _ m.mem)
  refine stp_value ho (wanted_none _ rfl _) (v := .int .i64 rows.length) (w' := { w with heap := w.heap.setIfInBounds b (cel e2 (spl l 0 rows.flatten)) }) ?_
    (h _ _ (ha.put (by simpa using hd) _) hD (hs.rep (F := [(b, cel e2 l)]) (F' := [(b, cel e2 (spl l 0 rows.flatten))]) fun T hT => St.set hT))
  simp only [execOp, resolve, invoke, builtin, Sem.run_bind, Sem.run_pure, Result.andThen, List.map_toArray, List.map_cons, List.map_nil, ha.reads _ _ hx, ha.reads _ _ hy]
  have e1 : (Builtin.copy_ #[T, T2] ty #[.slice (some ⟨b, 0, none⟩) dl dc, .slice ax rows.length sc]).run P w = .ok (goInt (rows.length : Nat)) { w with heap := w.heap.setIfInBounds b (cel e2 (spl l 0 rows.flatten)) } := by
    have e3 : (Builtin.firstCells ie.size rows.length (.slice ax rows.length sc)).run P w = .ok rows.flatten.toArray w := by
      rw [show Nat.min rows.length dl = rows.length from Nat.min_eq_left hle] at hr; exact hr
    simp [Builtin.copy_, run_underlying hu, Builtin.lenOf, sizeOf, typeInfo, hi, e3, hst, Nat.min_eq_left hle]
  rw [e1]
  rfl
end steps
end Go.Proofs.Ytknoaljnelfklaa
namespace Go.Proofs.Ytknoaljnelfklaa
set_option linter.unusedSimpArgs false
set_option linter.unusedVariables false
open Go
theorem eqf82 : eqB Try.prog 10000 82 = some (true, 5) := by kernel_rfl
theorem eqg82 : Try.prog.eqGuardType Try.prog.depth 82 = false := by kernel_rfl
def zcrt : Crt := ⟨0, 0, []⟩
def takR (c : Crt) (h : Hnd) : Crt × Int := bif decide (c.check ≠ 0) then (zcrt, c.check) else bif decide (c.hs.length = 6) then (zcrt, 9) else bif decide (Crt.check { c with hs := c.hs ++ [h] } ≠ 0) then (zcrt, Crt.check { c with hs := c.hs ++ [h] }) else ({ c with hs := c.hs ++ [h] }, 0)
theorem hr_flat (l : List Hnd) : (hrows l).flatten.length = 5 * l.length := by
  rw [flat_len (sz := 5) (hrows_len l), hrows, List.length_map]; omega
theorem hr_one (l : List Hnd) : (hrows l).flatten.all (·.oneCell') = true := by
  rw [List.all_eq_true]
  intro v hv
  obtain ⟨r, hr, hv⟩ := List.mem_flatten.1 hv
  obtain ⟨x, _, rfl⟩ := List.mem_map.1 hr
  simp only [hrow, List.mem_cons, List.not_mem_nil, or_false] at hv
  rcases hv with rfl | rfl | rfl | rfl | rfl <;> rfl
theorem repl_len5 (n : Nat) : (repl n [Value.int .i64 0, .int .i64 0, .int .i64 0, .int .i64 0, .int .i64 0]).length = 5 * n := by
  rw [← flat_repl, flat_len (sz := 5) (fun q hq => by rw [(List.mem_replicate.1 hq).2]; rfl), List.length_replicate]; omega
theorem spl_take (l : List Hnd) (h : Hnd) : spl (spl (repl (l.length + 1) [Value.int .i64 0, .int .i64 0, .int .i64 0, .int .i64 0, .int .i64 0]) 0 (hrows l).flatten) (0 + ((l.length : Nat) : Int).toNat * 5) (hrow h) = (hrows (l ++ [h])).flatten := by
  have h1 := hr_flat l
  have h2 := repl_len5 (l.length + 1)
  rw [show hrows (l ++ [h]) = hrows l ++ [hrow h] by simp [hrows], List.flatten_append, List.flatten_singleton]
  unfold spl
  rw [List.take_zero, List.nil_append, Nat.zero_add, Nat.zero_add, Int.toNat_natCast, List.take_append_of_le_length (by omega), List.take_of_length_le (by omega), List.drop_append, List.drop_eq_nil_of_le (show (hrows l).flatten.length ≤ l.length * 5 + (hrow h).length by rw [h1]; omega), List.nil_append, List.drop_drop, List.drop_eq_nil_of_le (by rw [h1, h2]; show 5 * (l.length + 1) ≤ 5 * l.length + (l.length * 5 + 5 - 5 * l.length); omega), List.append_nil]
theorem mx_less {b b' : Box} (hb : Tight b') (h : ∀ m, Mx b' m → Mx b m) {k : Nat} (hk : k < 4) : bl b k ≤ bl b' k ∧ bh b' k ≤ bh b k := by
  have hf := hb.fit k hk
  obtain ⟨m1, h1, e1⟩ := hb.had hk (v := bl b' k) ⟨Int.le_refl _, hf.1⟩
  obtain ⟨m2, h2, e2⟩ := hb.had hk (v := bh b' k) ⟨hf.1, Int.le_refl _⟩
  have h3 := (h m1 h1).at_ k hk
  have h4 := (h m2 h2).at_ k hk
  omega
theorem fold_min (f : Int → Int) : ∀ (s : List Int) (a : Int), (s.foldl (fun m x => min m (f x)) a ≤ a ∧ ∀ x ∈ s, s.foldl (fun m x => min m (f x)) a ≤ f x) ∧ (s.foldl (fun m x => min m (f x)) a = a ∨ ∃ x ∈ s, s.foldl (fun m x => min m (f x)) a = f x)
  | [], a => ⟨⟨Int.le_refl _, by simp⟩, .inl rfl⟩
  | y :: s, a => by
    obtain ⟨⟨h1, h2⟩, h3⟩ := fold_min f s (min a (f y))
    simp only [List.foldl_cons]
    refine ⟨⟨by omega, fun x hx => ?_⟩, ?_⟩
    · rcases List.mem_cons.1 hx with rfl | hx
      · omega
      · exact h2 x hx
    · rcases h3 with h3 | ⟨x, hx, h3⟩
      · rw [h3]
        rcases Int.le_total a (f y) with h | h
        · exact .inl (by omega)
        · exact .inr ⟨y, by simp, by omega⟩
      · exact .inr ⟨x, by simp [hx], h3⟩
theorem fold_max (f : Int → Int) : ∀ (s : List Int) (a : Int), (a ≤ s.foldl (fun m x => max m (f x)) a ∧ ∀ x ∈ s, f x ≤ s.foldl (fun m x => max m (f x)) a) ∧ (s.foldl (fun m x => max m (f x)) a = a ∨ ∃ x ∈ s, s.foldl (fun m x => max m (f x)) a = f x)
  | [], a => ⟨⟨Int.le_refl _, by simp⟩, .inl rfl⟩
  | y :: s, a => by
    obtain ⟨⟨h1, h2⟩, h3⟩ := fold_max f s (max a (f y))
    simp only [List.foldl_cons]
    refine ⟨⟨by omega, fun x hx => ?_⟩, ?_⟩
    · rcases List.mem_cons.1 hx with rfl | hx
      · omega
      · exact h2 x hx
    · rcases h3 with h3 | ⟨x, hx, h3⟩
      · rw [h3]
        rcases Int.le_total a (f y) with h | h
        · exact .inr ⟨y, by simp, by omega⟩
        · exact .inl (by omega)
      · exact .inr ⟨x, by simp [hx], h3⟩
theorem least_sub {l : List Grd} {s s' : List Int} (h : ∀ x ∈ s', x ∈ s) : leastP l s ≤ leastP l s' ∧ mostP l s' ≤ mostP l s := by
  obtain ⟨⟨a1, a2⟩, _⟩ := fold_min (prc l) s 100
  obtain ⟨_, a3⟩ := fold_min (prc l) s' 100
  obtain ⟨⟨b1, b2⟩, _⟩ := fold_max (prc l) s 0
  obtain ⟨_, b3⟩ := fold_max (prc l) s' 0
  constructor
  · show s.foldl (fun m x => min m (prc l x)) 100 ≤ s'.foldl (fun m x => min m (prc l x)) 100
    rcases a3 with a3 | ⟨x, hx, a3⟩
    · omega
    · rw [a3]; exact a2 x (h x hx)
  · show s'.foldl (fun m x => max m (prc l x)) 0 ≤ s.foldl (fun m x => max m (prc l x)) 0
    rcases b3 with b3 | ⟨x, hx, b3⟩
    · omega
    · rw [b3]; exact b2 x (h x hx)
theorem md_take {nh : Int} {g : Gat} {c : Crt} {m : Mix} (hm : MdOk 4 nh g c m) (hn : nh ≤ 5) {h : Hnd} (hh : h.ok) (hf : fitB g.miss h m = true) : MdOk 4 6 g { c with hs := c.hs ++ [h] } m := by
  have h1 := hm.cok
  have h2 := hm.more
  refine ⟨hm.gok, ⟨by simp; omega, h1.full, h1.empty, fun x hx => ?_⟩, hm.mix, hm.err, hm.miss, fun x hx => ?_, hm.many, by simp; omega, hm.net⟩
  · rcases List.mem_append.1 hx with hx | hx
    · exact h1.hs x hx
    · obtain rfl := List.mem_singleton.1 hx; exact hh
  · rcases List.mem_append.1 hx with hx | hx
    · exact hm.fit x hx
    · obtain rfl := List.mem_singleton.1 hx; exact hf
theorem c_eq_hnd (xs ys : List Hnd) (a a2 : Option Addr) (c c2 : Nat) (hl : xs.length ≤ 9223372036854775807) (hl2 : ys.length ≤ 9223372036854775807) (H : Heap) (R : Facts) [hR : MemRows a 5 (hrows xs) R] [hR2 : MemRows a2 5 (hrows ys) R] :
    FnV Try.prog 53 [.slice a xs.length c, .slice a2 ys.length c2] H R (.bool (decide (xs = ys))) := by
 refine fn_of Try.func53 rfl Try.ntmps53 rfl ?_
 refine sy_seq ?_
 refine sy_tx' [0] rfl ?_
 refine sp rfl (PE.assign rfl) rfl ?_
 refine sy_seq ?_
 refine sy_seq ?_
 refine sy_tx' [0, 1, 2, 3, 4] rfl ?_
 refine sp rfl (PE.move rfl) rfl ?_
 refine sp rfl (PE.lenSl isl26 rfl) rfl ?_
 refine sp rfl (PE.move rfl) rfl ?_
 refine sp rfl (PE.lenSl isl26 rfl) rfl ?_
 refine sp rfl (PE.neq rfl rfl) rfl ?_
 refine sy_cond rfl (fun hc0 => ?_) (fun hc0 => ?_)
 have hne : xs ≠ ys := fun e => by subst e; simp at hc0
 refine sy_seq ?_
 refine sy_tx' [0] rfl ?_
 refine sp rfl (PE.assign rfl) rfl ?_
 refine sy_ret ?_
 exact sy_return (vs := [_]) rfl (.cons (RV.tmp rfl) .nil) rfl ⟨by first | (simp only [retV]; rw [decide_eq_true heq]; done) | (simp only [retV]; rw [decide_eq_false hne]), rfl, rfl⟩ (fun _ h => h)
 have hle : xs.length = ys.length := by simp only [decide_eq_true_eq, decide_eq_false_iff_not, Bool.and_eq_true, Bool.or_eq_true, Bool.not_eq_true', Int.not_le, Int.not_lt] at hc0; omega
 refine sy_skip ?_
 refine sy_seq ?_
 refine sy_seq ?_
 refine sy_tx' [0, 1, 2] rfl ?_
 refine sp rfl (PE.move rfl) rfl ?_
 refine sp rfl (PE.lenSl isl26 rfl) rfl ?_
 refine sp rfl (PE.move rfl) rfl ?_
 refine sy_block ?_
 refine sy_loop (ι := {k : Nat // k ≤ xs.length ∧ xs.take k = ys.take k}) (fun k => ⟨[(0, .slice a xs.length c), (1, .slice a2 ys.length c2), (12, .int .i64 xs.length), (13, .int .i64 k.1)], H, R⟩) (fun k => xs.length - k.1) ⟨0, by simp⟩ ?_ (fun k => ?_)
 exact sy_at (by repeat' first | exact Sub.nil | apply Sub.cons | rfl | (simp [lk]; omega)) (fun _ h => h)
 obtain ⟨k, hk, hn⟩ := k
 dsimp only
 refine sy_seq ?_
 refine sy_tx' [0] rfl ?_
 refine sp rfl (PE.lss rfl rfl) rfl ?_
 refine sy_seq ?_
 refine sy_cond rfl (fun hc1 => ?_) (fun hc1 => ?_)
 simp only [decide_eq_true_eq, decide_eq_false_iff_not, Bool.and_eq_true, Bool.or_eq_true, Bool.not_eq_true', Int.not_le, Int.not_lt] at hc1
 obtain ⟨x, hx⟩ : ∃ x, xs[k]? = some x := ⟨_, List.getElem?_eq_getElem (by omega)⟩
 obtain ⟨z, hz⟩ : ∃ z, ys[k]? = some z := ⟨_, List.getElem?_eq_getElem (by omega)⟩
 refine sy_addr (a := a) (sz := 5) (rows := hrows xs) (by intro h0; simp [hrows] at h0; simp [h0] at hx) (fun b off he => ?_)
 subst he
 refine sy_addr (a := a2) (sz := 5) (rows := hrows ys) (by intro h0; simp [hrows] at h0; simp [h0] at hz) (fun b2 off2 he => ?_)
 subst he
 refine sy_skip ?_
 refine sy_seq ?_
 refine sy_block ?_
 refine sy_seq ?_
 refine sy_tx' [0, 1] rfl ?_
 refine sp rfl (PE.move rfl) rfl ?_
 refine sp rfl (PE.assign rfl) rfl ?_
 refine sy_seq ?_
 refine sy_draw [0, 0, 3, 7, 0, 0, 48, 112, 255] (.tk 0 (.tk 1 (.tk 2 (.ld 3 (.tk 4 (.tk 5 (.tk 6 (.ld 7 (.tk 8 .done))))))))) mixed (by kernel_rfl) ?_
 refine tk rfl (PE.move rfl) rfl ?_
 refine tk rfl (PE.move rfl) rfl ?_
 refine tk rfl (PE.indexAddr el26 rfl rfl (by omega) (by omega)) rfl ?_
 refine ld rfl rfl (lfA ag82 (row := hrow x) (by simp [hrows, hx]) rfl) rfl ?_
 refine tk rfl (PE.move rfl) rfl ?_
 refine tk rfl (PE.move rfl) rfl ?_
 refine tk rfl (PE.indexAddr el26 rfl rfl (by omega) (by omega)) rfl ?_
 refine ld rfl rfl (lfA ag82 (row := hrow z) (by simp [hrows, hz]) rfl) rfl ?_
 refine tk rfl (PE.neqAgg [x.spot, x.a, x.b, x.c, x.d] [z.spot, z.a, z.b, z.c, z.d] (eqB_ok 10000 82 true 5 eqf82) eqg82 rfl rfl rfl rfl) rfl ?_
 refine sy_cond rfl (fun hc2 => ?_) (fun hc2 => ?_)
 have hne : xs ≠ ys := fun e => by subst e; rw [hx] at hz; cases hz; simp at hc2
 refine sy_seq ?_
 refine sy_tx' [0] rfl ?_
 refine sp rfl (PE.assign rfl) rfl ?_
 refine sy_ret ?_
 exact sy_return (vs := [_]) rfl (.cons (RV.tmp rfl) .nil) rfl ⟨by first | (simp only [retV]; rw [decide_eq_true heq]; done) | (simp only [retV]; rw [decide_eq_false hne]), rfl, rfl⟩ (fun _ h => h)
 have hxz : x = z := by cases x; cases z; simpa using hc2
 refine sy_skip ?_
 refine sy_tx' [0, 1] rfl ?_
 refine sp rfl (PE.add rfl rfl (by omega)) rfl ?_
 refine sp rfl (PE.move rfl) rfl ?_
 exact sy_next ⟨k + 1, by omega, by rw [List.take_add_one, List.take_add_one, hn, hx, hz, hxz]⟩ (by dsimp only; omega) (by repeat' first | exact Sub.nil | apply Sub.cons | rfl | (simp [lk]; omega)) (fun _ h => h)
 simp only [decide_eq_true_eq, decide_eq_false_iff_not, Bool.and_eq_true, Bool.or_eq_true, Bool.not_eq_true', Int.not_le, Int.not_lt] at hc1
 obtain rfl : k = xs.length := by omega
 have heq : xs = ys := by
   rw [List.take_length] at hn
   exact hn.trans (by rw [hle]; exact List.take_length)
 refine sy_exit ?_
 repeat refine sy_tx ?_
 refine sy_bx ?_
 refine sy_seq ?_
 refine sy_tx' [0] rfl ?_
 refine sp rfl (PE.assign rfl) rfl ?_
 refine sy_ret ?_
 exact sy_return (vs := [_]) rfl (.cons (RV.tmp rfl) .nil) rfl ⟨by first | (simp only [retV]; rw [decide_eq_true heq]; done) | (simp only [retV]; rw [decide_eq_false hne]), rfl, rfl⟩ (fun _ h => h)
theorem c_Take (c : Crt) (ah : Option Addr) (ch : Nat) (hlh : c.hs.length ≤ 9223372036854775807) (h : Hnd) (H : Heap) (R : Facts) [hA : MemRows ah 5 (hrows c.hs) R] :
    Fn Try.prog 42 [c.v (c.sl ah ch), .agg (hrow h).toArray] H R (fun v H' R' => ∃ a cd, (takR c h).1.hs.length ≤ cd ∧ v = .tuple #[(takR c h).1.v ((takR c h).1.sl a cd), .int .i64 (takR c h).2] ∧ H' = H ∧ R' = RowsA a 5 (hrows (takR c h).1.hs) :: R) := by
 refine fn_of Try.func42 rfl Try.ntmps42 rfl ?_
 refine sy_seq ?_
 refine sy_tx' [0, 1, 2, 3] rfl ?_
 refine bx rfl rfl rfl (fun b2 => ?_)
 refine bx rfl rfl rfl (fun b3 => ?_)
 refine alc rfl zl28 rfl (fun b4 => ?_)
 refine sp rfl (PE.assign rfl) rfl ?_
 refine sy_seq ?_
 refine sy_seq ?_
 refine sy_tx' [0, 1, 2] rfl ?_
 refine spL rfl rfl (lhA [_, _, _] ag28 rfl rfl rfl) rfl ?_
 refine clV rfl cal45 rfl rfl (c_CheckCart c ah ch hlh _ _) ?_
 refine sp rfl (PE.assign rfl) rfl ?_
 refine sy_seq ?_
 refine sy_tx' [0, 1] rfl ?_
 refine sp rfl (PE.move rfl) rfl ?_
 refine sp rfl (PE.neq rfl rfl) rfl ?_
 refine sy_cond rfl (fun hc0 => ?_) (fun hc0 => ?_)
 have e : takR c h = (zcrt, c.check) := by unfold takR; rw [decide_eq_true (by simpa using hc0)]; rfl
 refine sy_seq ?_
 refine sy_tx' [0, 1, 2, 3] rfl ?_
 refine sp rfl (PE.build (out := [_, _, _]) pl28 zl28 rfl rfl) rfl ?_
 refine sp rfl (PE.move rfl) rfl ?_
 refine sto rfl rfl rfl cn28 rfl rfl rfl rfl ?_
 refine sp rfl (PE.assign rfl) rfl ?_
 refine sy_ret ?_
 refine Sy.heap (fun w h9 => St.also h9 (f := RowsA none 5 []) (fun w9 _ => fun i row hi => by simp at hi)) ?_
 rw [e]
 exact sy_return (vs := [_, _]) rfl (.cons (RV.cell rfl (lhA [_, _, _] ag28 rfl rfl rfl)) (.cons (RV.tmp rfl) .nil)) rfl ⟨none, 0, Nat.le_refl _, rfl, rfl, (rfl : RowsA none 5 [] :: R = _)⟩ (fun w h => St.sub (((h.del b4).del b3).del b2))
 have h0 : c.check = 0 := by simpa using hc0
 have hco := crt_ok.1 h0
 have hmn := hco.many
 refine sy_skip ?_
 refine sy_seq ?_
 refine sy_seq ?_
 refine sy_tx' [0, 1, 2, 3] rfl ?_
 refine sp rfl (PE.fieldAddr fo28_2 rfl) rfl ?_
 refine spL rfl rfl (lh sc26 rfl rfl) rfl ?_
 refine sp rfl (PE.lenSl isl26 rfl) rfl ?_
 refine sp rfl (PE.eql rfl rfl) rfl ?_
 refine sy_cond rfl (fun hc1 => ?_) (fun hc1 => ?_)
 try simp only [decide_eq_true_eq, decide_eq_false_iff_not, Bool.and_eq_true, Bool.or_eq_true, Bool.not_eq_true', Int.not_le, Int.not_lt] at hc1
 have e : takR c h = (zcrt, 9) := by unfold takR; rw [decide_eq_false (show ¬ c.check ≠ 0 by omega), decide_eq_true (show c.hs.length = 6 by omega)]; rfl
 refine sy_seq ?_
 refine sy_tx' [0, 1, 2] rfl ?_
 refine sp rfl (PE.build (out := [_, _, _]) pl28 zl28 rfl rfl) rfl ?_
 refine sto rfl rfl rfl cn28 rfl rfl rfl rfl ?_
 refine sp rfl (PE.assign rfl) rfl ?_
 refine sy_ret ?_
 refine Sy.heap (fun w h9 => St.also h9 (f := RowsA none 5 []) (fun w9 _ => fun i row hi => by simp at hi)) ?_
 rw [e]
 exact sy_return (vs := [_, _]) rfl (.cons (RV.cell rfl (lhA [_, _, _] ag28 rfl rfl rfl)) (.cons (RV.tmp rfl) .nil)) rfl ⟨none, 0, Nat.le_refl _, rfl, rfl, (rfl : RowsA none 5 [] :: R = _)⟩ (fun w h => St.sub (((h.del b4).del b3).del b2))
 try simp only [decide_eq_true_eq, decide_eq_false_iff_not, Bool.and_eq_true, Bool.or_eq_true, Bool.not_eq_true', Int.not_le, Int.not_lt] at hc1
 refine sy_skip ?_
 refine sy_seq ?_
 refine sy_draw [0, 1, 0, 4, 0, 16, 48, 112, 240, 511, 0, 2047] (.tk 0 (.ld 1 (.tk 2 (.ld 3 (.tk 4 (.ld 5 (.tk 6 (.tk 7 (.any (.alt 8 (.tk 9 (.big 10 (.big 11 .done))) (.alt 10 (.big 8 (.tk 9 (.big 11 .done))) .stop))))))))))) mixed (by kernel_rfl) ?_
 refine tk rfl (PE.fieldAddr fo28_0 rfl) rfl ?_
 refine ld rfl rfl (lh sc3 rfl rfl) rfl ?_
 refine tk rfl (PE.fieldAddr fo28_1 rfl) rfl ?_
 refine ld rfl rfl (lh sc3 rfl rfl) rfl ?_
 refine tk rfl (PE.fieldAddr fo28_2 rfl) rfl ?_
 refine ld rfl rfl (lh sc26 rfl rfl) rfl ?_
 refine tk rfl (PE.lenSl isl26 rfl) rfl ?_
 refine tk rfl (PE.add rfl rfl (by omega)) rfl ?_
 refine sy_alt ?_ ?_
 rw [show ((c.hs.length : Int) + 1) = ((c.hs.length + 1 : Nat) : Int) from by omega]
 refine mkS rfl ap26 zl82 rfl rfl (Nat.le_refl _) ⟨by omega, by omega⟩ rfl (fun b28 => ?_)
 refine bg (fun w hs => ⟨trivial, (lh sc3 rfl rfl) w hs, (lh sc3 rfl rfl) w hs, trivial⟩) ?_
 refine tk rfl (PE.build (out := [.int .i64 c.full, .int .i64 c.empty, .slice (some ⟨b28, 0, none⟩) (c.hs.length + 1) (c.hs.length + 1)]) pl28 zl28 rfl rfl) rfl ?_
 refine alc rfl zl28 rfl (fun b7 => ?_)
 refine bg (fun w hs => ⟨(lh sc3 rfl rfl) w hs, (lh sc3 rfl rfl) w hs, trivial⟩) ?_
 refine sto rfl rfl rfl cn28 rfl rfl rfl rfl ?_
 refine bg (fun w hs => ⟨trivial, trivial, trivial⟩) ?_
 refine sy_seq ?_
 refine sy_tx' [0, 1, 2, 3, 4] rfl ?_
 refine sp rfl (PE.fieldAddr fo28_2 rfl) rfl ?_
 refine spL rfl rfl (lh sc26 rfl rfl) rfl ?_
 refine sp rfl (PE.fieldAddr fo28_2 rfl) rfl ?_
 refine spL rfl rfl (lh sc26 rfl rfl) rfl ?_
 refine cpyR (rows := hrows c.hs) rfl sl26 rfl (by rw [show (hrows c.hs).length = c.hs.length from List.length_map _]; rfl) (hrows_len _) (by rw [show (hrows c.hs).length = c.hs.length from List.length_map _]; omega) (hr_one _) (by rw [hr_flat, repl_len5]; omega) rfl ?_
 refine sy_seq ?_
 refine sy_tx' [0, 1, 2, 3, 4, 5, 6, 7] rfl ?_
 refine sp rfl (PE.fieldAddr fo28_2 rfl) rfl ?_
 refine spL rfl rfl (lh sc26 rfl rfl) rfl ?_
 refine sp rfl (PE.fieldAddr fo28_2 rfl) rfl ?_
 refine spL rfl rfl (lh sc26 rfl rfl) rfl ?_
 refine sp rfl (PE.lenSl isl26 rfl) rfl ?_
 refine spL rfl rfl (lhA [_, _, _, _, _] ag82 rfl rfl rfl) rfl ?_
 refine sp rfl (PE.indexAddr el26 rfl rfl (by omega) (by omega)) rfl ?_
 refine stoE (l' := (hrows (c.hs ++ [h])).flatten) rfl rfl rfl cn82 rfl rfl rfl (spl_take _ _) (by unfold spl; simp only [List.length_append, List.length_take, List.length_drop, repl_len5, hr_flat]; show 0 + ((c.hs.length : Nat) : Int).toNat * 5 + 5 ≤ _; omega) ?_
 refine sy_seq ?_
 refine sy_seq ?_
 refine sy_tx' [0, 1, 2] rfl ?_
 refine Sy.heap (fun w h0 => St.rows (sz := 5) (rows := hrows (c.hs ++ [h])) (rest := []) (by rw [List.append_nil]; exact h0.pull b28) (hrows_len _)) ?_
 rw [show c.hs.length + 1 = (c.hs ++ [h]).length from by simp]
 obtain ⟨d, hd⟩ : ∃ d : Crt, d = { c with hs := c.hs ++ [h] } := ⟨_, rfl⟩
 have hdh : c.hs ++ [h] = d.hs := by rw [hd]
 rw [hdh, show c.full = d.full from by rw [hd], show c.empty = d.empty from by rw [hd]]
 refine spL rfl rfl (lhA (ctl d (d.sl (some ⟨b28, 0, none⟩) d.hs.length)) ag28 rfl rfl rfl) rfl ?_
 refine clV rfl cal45 rfl rfl (c_CheckCart d (some ⟨b28, 0, none⟩) d.hs.length (by rw [← hdh]; simp; omega) _ _) ?_
 refine sp rfl (PE.assign rfl) rfl ?_
 refine sy_seq ?_
 refine sy_tx' [0, 1] rfl ?_
 refine sp rfl (PE.move rfl) rfl ?_
 refine sp rfl (PE.neq rfl rfl) rfl ?_
 refine sy_cond rfl (fun hc2 => ?_) (fun hc2 => ?_)
 have e : takR c h = (zcrt, d.check) := by unfold takR; rw [decide_eq_false (show ¬ c.check ≠ 0 by omega), decide_eq_false (show ¬ c.hs.length = 6 by omega), ← hd, decide_eq_true (by simpa using hc2)]; rfl
 refine sy_seq ?_
 refine sy_tx' [0, 1, 2, 3] rfl ?_
 refine sp rfl (PE.build (out := [_, _, _]) pl28 zl28 rfl rfl) rfl ?_
 refine sp rfl (PE.move rfl) rfl ?_
 refine sto rfl rfl rfl cn28 rfl rfl rfl rfl ?_
 refine sp rfl (PE.assign rfl) rfl ?_
 refine sy_ret ?_
 refine Sy.heap (fun w h9 => St.also h9.ftail (f := RowsA none 5 []) (fun w9 _ => fun i row hi => by simp at hi)) ?_
 rw [e]
 exact sy_return (vs := [_, _]) rfl (.cons (RV.cell rfl (lhA [_, _, _] ag28 rfl rfl rfl)) (.cons (RV.tmp rfl) .nil)) rfl ⟨none, 0, Nat.le_refl _, rfl, rfl, (rfl : RowsA none 5 [] :: R = _)⟩ (fun w h => St.sub ((((h.del b7).del b4).del b3).del b2))
 have e : takR c h = (d, 0) := by unfold takR; rw [decide_eq_false (show ¬ c.check ≠ 0 by omega), decide_eq_false (show ¬ c.hs.length = 6 by omega), ← hd, decide_eq_false (by simpa using hc2)]; rfl
 refine sy_skip ?_
 refine sy_seq ?_
 refine sy_tx' [0, 1, 2] rfl ?_
 refine spL rfl rfl (lhA (ctl d (d.sl (some ⟨b28, 0, none⟩) d.hs.length)) ag28 rfl rfl rfl) rfl ?_
 refine sto rfl rfl rfl cn28 rfl rfl rfl rfl ?_
 refine sp rfl (PE.assign rfl) rfl ?_
 refine sy_ret ?_
 rw [e]
 exact sy_return (vs := [_, _]) rfl (.cons (RV.cell rfl (lhA [_, _, _] ag28 rfl rfl rfl)) (.cons (RV.tmp rfl) .nil)) rfl ⟨some ⟨b28, 0, none⟩, d.hs.length, Nat.le_refl _, rfl, rfl, (rfl : RowsA (some ⟨b28, 0, none⟩) 5 (hrows d.hs) :: R = _)⟩ (fun w h => St.sub ((((h.del b7).del b4).del b3).del b2))
 refine sy_alt ?_ ?_
 refine alc rfl zl28 rfl (fun b7 => ?_)
 refine bg (fun w hs => ⟨(lh sc26 rfl rfl) w hs, (lh sc3 rfl rfl) w hs, (lh sc3 rfl rfl) w hs, trivial⟩) ?_
 rw [show ((c.hs.length : Int) + 1) = ((c.hs.length + 1 : Nat) : Int) from by omega]
 refine mkS rfl ap26 zl82 rfl rfl (Nat.le_refl _) ⟨by omega, by omega⟩ rfl (fun b28 => ?_)
 refine bg (fun w hs => ⟨trivial, (lh sc3 rfl rfl) w hs, (lh sc3 rfl rfl) w hs, trivial⟩) ?_
 refine tk rfl (PE.build (out := [.int .i64 c.full, .int .i64 c.empty, .slice (some ⟨b28, 0, none⟩) (c.hs.length + 1) (c.hs.length + 1)]) pl28 zl28 rfl rfl) rfl ?_
 refine sto rfl rfl rfl cn28 rfl rfl rfl rfl ?_
 refine bg (fun w hs => ⟨trivial, trivial, trivial⟩) ?_
 refine sy_seq ?_
 refine sy_tx' [0, 1, 2, 3, 4] rfl ?_
 refine sp rfl (PE.fieldAddr fo28_2 rfl) rfl ?_
 refine spL rfl rfl (lh sc26 rfl rfl) rfl ?_
 refine sp rfl (PE.fieldAddr fo28_2 rfl) rfl ?_
 refine spL rfl rfl (lh sc26 rfl rfl) rfl ?_
 refine cpyR (rows := hrows c.hs) rfl sl26 rfl (by rw [show (hrows c.hs).length = c.hs.length from List.length_map _]; rfl) (hrows_len _) (by rw [show (hrows c.hs).length = c.hs.length from List.length_map _]; omega) (hr_one _) (by rw [hr_flat, repl_len5]; omega) rfl ?_
 refine sy_seq ?_
 refine sy_tx' [0, 1, 2, 3, 4, 5, 6, 7] rfl ?_
 refine sp rfl (PE.fieldAddr fo28_2 rfl) rfl ?_
 refine spL rfl rfl (lh sc26 rfl rfl) rfl ?_
 refine sp rfl (PE.fieldAddr fo28_2 rfl) rfl ?_
 refine spL rfl rfl (lh sc26 rfl rfl) rfl ?_
 refine sp rfl (PE.lenSl isl26 rfl) rfl ?_
 refine spL rfl rfl (lhA [_, _, _, _, _] ag82 rfl rfl rfl) rfl ?_
 refine sp rfl (PE.indexAddr el26 rfl rfl (by omega) (by omega)) rfl ?_
 refine stoE (l' := (hrows (c.hs ++ [h])).flatten) rfl rfl rfl cn82 rfl rfl rfl (spl_take _ _) (by unfold spl; simp only [List.length_append, List.length_take, List.length_drop, repl_len5, hr_flat]; show 0 + ((c.hs.length : Nat) : Int).toNat * 5 + 5 ≤ _; omega) ?_
 refine sy_seq ?_
 refine sy_seq ?_
 refine sy_tx' [0, 1, 2] rfl ?_
 refine Sy.heap (fun w h0 => St.rows (sz := 5) (rows := hrows (c.hs ++ [h])) (rest := []) (by rw [List.append_nil]; exact h0.pull b28) (hrows_len _)) ?_
 rw [show c.hs.length + 1 = (c.hs ++ [h]).length from by simp]
 obtain ⟨d, hd⟩ : ∃ d : Crt, d = { c with hs := c.hs ++ [h] } := ⟨_, rfl⟩
 have hdh : c.hs ++ [h] = d.hs := by rw [hd]
 rw [hdh, show c.full = d.full from by rw [hd], show c.empty = d.empty from by rw [hd]]
 refine spL rfl rfl (lhA (ctl d (d.sl (some ⟨b28, 0, none⟩) d.hs.length)) ag28 rfl rfl rfl) rfl ?_
 refine clV rfl cal45 rfl rfl (c_CheckCart d (some ⟨b28, 0, none⟩) d.hs.length (by rw [← hdh]; simp; omega) _ _) ?_
 refine sp rfl (PE.assign rfl) rfl ?_
 refine sy_seq ?_
 refine sy_tx' [0, 1] rfl ?_
 refine sp rfl (PE.move rfl) rfl ?_
 refine sp rfl (PE.neq rfl rfl) rfl ?_
 refine sy_cond rfl (fun hc2 => ?_) (fun hc2 => ?_)
 have e : takR c h = (zcrt, d.check) := by unfold takR; rw [decide_eq_false (show ¬ c.check ≠ 0 by omega), decide_eq_false (show ¬ c.hs.length = 6 by omega), ← hd, decide_eq_true (by simpa using hc2)]; rfl
 refine sy_seq ?_
 refine sy_tx' [0, 1, 2, 3] rfl ?_
 refine sp rfl (PE.build (out := [_, _, _]) pl28 zl28 rfl rfl) rfl ?_
 refine sp rfl (PE.move rfl) rfl ?_
 refine sto rfl rfl rfl cn28 rfl rfl rfl rfl ?_
 refine sp rfl (PE.assign rfl) rfl ?_
 refine sy_ret ?_
 refine Sy.heap (fun w h9 => St.also h9.ftail (f := RowsA none 5 []) (fun w9 _ => fun i row hi => by simp at hi)) ?_
 rw [e]
 exact sy_return (vs := [_, _]) rfl (.cons (RV.cell rfl (lhA [_, _, _] ag28 rfl rfl rfl)) (.cons (RV.tmp rfl) .nil)) rfl ⟨none, 0, Nat.le_refl _, rfl, rfl, (rfl : RowsA none 5 [] :: R = _)⟩ (fun w h => St.sub ((((h.del b7).del b4).del b3).del b2))
 have e : takR c h = (d, 0) := by unfold takR; rw [decide_eq_false (show ¬ c.check ≠ 0 by omega), decide_eq_false (show ¬ c.hs.length = 6 by omega), ← hd, decide_eq_false (by simpa using hc2)]; rfl
 refine sy_skip ?_
 refine sy_seq ?_
 refine sy_tx' [0, 1, 2] rfl ?_
 refine spL rfl rfl (lhA (ctl d (d.sl (some ⟨b28, 0, none⟩) d.hs.length)) ag28 rfl rfl rfl) rfl ?_
 refine sto rfl rfl rfl cn28 rfl rfl rfl rfl ?_
 refine sp rfl (PE.assign rfl) rfl ?_
 refine sy_ret ?_
 rw [e]
 exact sy_return (vs := [_, _]) rfl (.cons (RV.cell rfl (lhA [_, _, _] ag28 rfl rfl rfl)) (.cons (RV.tmp rfl) .nil)) rfl ⟨some ⟨b28, 0, none⟩, d.hs.length, Nat.le_refl _, rfl, rfl, (rfl : RowsA (some ⟨b28, 0, none⟩) 5 (hrows d.hs) :: R = _)⟩ (fun w h => St.sub ((((h.del b7).del b4).del b3).del b2))
 exact sy_stop
end Go.Proofs.Ytknoaljnelfklaa
