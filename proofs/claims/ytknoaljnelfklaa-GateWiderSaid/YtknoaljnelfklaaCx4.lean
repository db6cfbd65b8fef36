/- Walks of the functions of the program, and the laws that join them: what the last theorem of this claim needs, in order. -/
import Derived.Test.YtknoaljnelfklaaCx3
namespace Go.Proofs.Ytknoaljnelfklaa
set_option linter.unusedSimpArgs false
set_option linter.unusedVariables false
open Go
theorem are29 : arE Try.prog 29 = some (4, 3) := by kernel_rfl
theorem cal111 : cal Try.prog 111 = true := by kernel_rfl
theorem cal112 : cal Try.prog 112 = true := by kernel_rfl
theorem cal64 : cal Try.prog 64 = true := by kernel_rfl
theorem cal70 : cal Try.prog 70 = true := by kernel_rfl
theorem cn123 : cellN Try.prog 123 = some 1 := by kernel_rfl
theorem el22 : elN Try.prog 22 = some 1 := by kernel_rfl
theorem fo125_0 : fOff Try.prog 125 0 = some 0 := by kernel_rfl
theorem fo125_1 : fOff Try.prog 125 1 = some 1 := by kernel_rfl
theorem fo125_2 : fOff Try.prog 125 2 = some 2 := by kernel_rfl
theorem ik123 : intK Try.prog 123 = some .u32 := by kernel_rfl
theorem ik3 : intK Try.prog 3 = some .i64 := by kernel_rfl
theorem isl22 : isSl Try.prog 22 = true := by kernel_rfl
theorem pl125 : placeL Try.prog 125 = some [(0, 1), (1, 1), (2, 1)] := by kernel_rfl
theorem sc123 : scal Try.prog 123 = true := by kernel_rfl
theorem sc22 : scal Try.prog 22 = true := by kernel_rfl
theorem sc5 : scal Try.prog 5 = true := by kernel_rfl
theorem us123 : (Try.prog.underlying 123).isSome = true := by kernel_rfl
theorem us3 : (Try.prog.underlying 3).isSome = true := by kernel_rfl
theorem us5 : (Try.prog.underlying 5).isSome = true := by kernel_rfl
theorem zl125 : zeroL Try.prog 125 = some ([.slice none 0 0, .int .i64 0, .int .u32 0]) := by kernel_rfl
def urow (x : Int) : List Value := [.int .u8 x]
def urows (l : List Int) : List (List Value) := l.map urow
theorem c_Fill (g : List Int) (ag : Option Addr) (cg : Nat) (hgl : g.length ≤ 9223372036854775807) (H : Heap) (R : Facts) :
    Fn Try.prog 14 [.slice ag g.length cg] H R (fun v H' R' => ∃ bk, ∃ mx : Int, (0 ≤ mx ∧ mx ≤ 4294967295) ∧ v = .pointer (some ⟨bk, 0, none⟩) ∧ H' = (bk, cel 125 [.slice ag g.length cg, .int .i64 (0), .int .u32 (mx)]) :: H ∧ R' = R) := by
 refine fn_of Try.func14 rfl Try.ntmps14 rfl ?_
 refine sy_seq ?_
 refine sy_tx' [0] rfl ?_
 refine sp rfl (PE.assign rfl) rfl ?_
 refine sy_seq ?_
 refine sy_tx' [0, 1, 2, 3, 4, 5, 6, 7] rfl ?_
 refine sp rfl (PE.move rfl) rfl ?_
 refine sp rfl (PE.move rfl) rfl ?_
 refine sp rfl (PE.lenSl isl22 rfl) rfl ?_
 refine spE rfl (PE.convU us3 ik123 rfl) rfl ?_
 rintro _ ⟨u6, rfl, hu6⟩
 refine spE rfl (PE.xorU rfl rfl) rfl ?_
 rintro _ ⟨u7, rfl, hu7⟩
 refine sp rfl (PE.build (out := [_, _, _]) pl125 zl125 rfl rfl) rfl ?_
 refine bx rfl rfl rfl (fun b9 => ?_)
 refine sp rfl (PE.assign rfl) rfl ?_
 refine sy_ret ?_
 exact sy_return (vs := [_]) rfl (.cons (RV.tmp rfl) .nil) rfl ⟨b9, u7, hu7, rfl, rfl, rfl⟩ (fun _ h => h)
theorem c_handful (g : List Int) (ag : Option Addr) (cg bk : Nat) (hgl : g.length ≤ 9223372036854775807) (tq mx : Int) (htq : 0 ≤ tq ∧ tq ≤ 1000000000) (hmx : 0 ≤ mx ∧ mx ≤ 4294967295) (H : Heap) (R : Facts) [hG : MemRows ag 1 (urows g) R] :
    Fn Try.prog 112 [.pointer (some ⟨bk, 0, none⟩)] ((bk, cel 125 [.slice ag g.length cg, .int .i64 (tq), .int .u32 (mx)]) :: H) R (fun v H' R' => ∃ x m' : Int, (0 ≤ x ∧ x ≤ 65535) ∧ v = .int .i64 x ∧ (0 ≤ m' ∧ m' ≤ 4294967295) ∧ H' = (bk, cel 125 [.slice ag g.length cg, .int .i64 (tq + 1), .int .u32 (m')]) :: H ∧ R' = R) := by
 refine fn_of Try.func112 rfl Try.ntmps112 rfl ?_
 refine sy_seq ?_
 refine sy_tx' [0] rfl ?_
 refine sp rfl (PE.assign rfl) rfl ?_
 refine sy_seq ?_
 refine sy_seq ?_
 refine sy_tx' [0, 1, 2, 3, 4, 5] rfl ?_
 refine sp rfl (PE.move rfl) rfl ?_
 refine sp rfl (PE.nilCheck rfl) rfl ?_
 refine sp rfl (PE.fieldAddr fo125_0 rfl) rfl ?_
 refine spL rfl rfl (lh sc22 rfl rfl) rfl ?_
 refine sp rfl (PE.lenSl isl22 rfl) rfl ?_
 refine sp rfl (PE.assign rfl) rfl ?_
 refine sy_seq ?_
 refine sy_tx' [0, 1] rfl ?_
 refine sp rfl (PE.move rfl) rfl ?_
 refine sp rfl (PE.gtr rfl rfl) rfl ?_
 refine sy_cond rfl (fun hc0 => ?_) (fun hc0 => ?_)
 try simp only [decide_eq_true_eq, decide_eq_false_iff_not, Bool.and_eq_true, Bool.or_eq_true, Bool.not_eq_true', Int.not_le, Int.not_lt] at hc0
 obtain ⟨y, hy⟩ : ∃ y, g[(tq % g.length).toNat]? = some y := ⟨_, List.getElem?_eq_getElem (by have := Int.emod_lt_of_pos tq hc0; have := Int.emod_nonneg tq (show (g.length : Int) ≠ 0 by omega); omega)⟩
 refine sy_addr (a := ag) (sz := 1) (rows := urows g) (by intro h0; simp [urows] at h0; simp [h0] at hy) (fun bgr ogr he => ?_)
 subst he
 refine sy_draw [0, 0, 2, 6, 14, 0, 32, 96, 224, 0, 512, 1536, 3584, 0, 15872, 32736, 65504, 131040, 262142, 524286, 1048575, 2097151, 4194303] (.tk 0 (.tk 1 (.tk 2 (.tk 3 (.ld 4 (.tk 5 (.tk 6 (.tk 7 (.ld 8 (.tk 9 (.tk 10 (.tk 11 (.ld 12 (.tk 13 (.tk 14 (.tk 15 (.ld 16 (.tk 17 (.tk 18 (.tk 19 (.tk 20 (.tk 21 (.big 22 .done))))))))))))))))))))))) mixed (by kernel_rfl) ?_
 refine tk rfl (PE.move rfl) rfl ?_
 refine tk rfl (PE.move rfl) rfl ?_
 refine tk rfl (PE.nilCheck rfl) rfl ?_
 refine tk rfl (PE.fieldAddr fo125_2 rfl) rfl ?_
 refine ld rfl rfl (lh sc123 rfl rfl) rfl ?_
 refine tk rfl (PE.move rfl) rfl ?_
 refine tk rfl (PE.nilCheck rfl) rfl ?_
 refine tk rfl (PE.fieldAddr fo125_0 rfl) rfl ?_
 refine ld rfl rfl (lh sc22 rfl rfl) rfl ?_
 refine tk rfl (PE.move rfl) rfl ?_
 refine tk rfl (PE.nilCheck rfl) rfl ?_
 refine tk rfl (PE.fieldAddr fo125_1 rfl) rfl ?_
 refine ld rfl rfl (lh sc3 rfl rfl) rfl ?_
 refine tk rfl (PE.move rfl) rfl ?_
 refine tk rfl (PE.rem rfl rfl (by omega)) rfl ?_
 refine tk rfl (PE.indexAddr el22 rfl rfl (by exact Int.emod_nonneg tq (by omega)) (by exact Int.emod_lt_of_pos tq hc0)) rfl ?_
 refine ld rfl rfl (lf0 (x := .int .u8 y) sc5 (by simp [urows, urow, hy]; rfl) rfl) rfl ?_
 refine tkE rfl (PE.convU us5 ik123 rfl) rfl ?_
 rintro _ ⟨u28, rfl, hu28⟩
 refine tkE rfl (PE.xorU rfl rfl) rfl ?_
 rintro _ ⟨u29, rfl, hu29⟩
 refine tkE rfl (PE.mulU rfl rfl) rfl ?_
 rintro _ ⟨u30, rfl, hu30⟩
 refine tk rfl (PE.nilCheck rfl) rfl ?_
 refine tk rfl (PE.fieldAddr fo125_2 rfl) rfl ?_
 refine sto rfl rfl rfl cn123 rfl rfl rfl rfl ?_
 refine bg (fun w hs => ⟨trivial, trivial, trivial, trivial, trivial⟩) ?_
 refine sy_seq ?_
 refine sy_tx' [0, 1, 2, 3, 4, 5, 6, 7] rfl ?_
 refine sp rfl (PE.move rfl) rfl ?_
 refine sp rfl (PE.nilCheck rfl) rfl ?_
 refine sp rfl (PE.fieldAddr fo125_1 rfl) rfl ?_
 refine spL rfl rfl (lh sc3 rfl rfl) rfl ?_
 refine sp rfl (PE.add rfl rfl (by omega)) rfl ?_
 refine sp rfl (PE.nilCheck rfl) rfl ?_
 refine sp rfl (PE.fieldAddr fo125_1 rfl) rfl ?_
 refine sto rfl rfl rfl cn3 rfl rfl rfl rfl ?_
 refine sy_seq ?_
 refine sy_seq ?_
 refine sy_draw [0, 1, 3, 7, 0, 16, 48, 112, 240, 511] (.tk 0 (.tk 1 (.tk 2 (.ld 3 (.tk 4 (.tk 5 (.tk 6 (.ld 7 (.tk 8 (.tk 9 .done)))))))))) mixed (by kernel_rfl) ?_
 refine tk rfl (PE.move rfl) rfl ?_
 refine tk rfl (PE.nilCheck rfl) rfl ?_
 refine tk rfl (PE.fieldAddr fo125_1 rfl) rfl ?_
 refine ld rfl rfl (lh sc3 rfl rfl) rfl ?_
 refine tk rfl (PE.move rfl) rfl ?_
 refine tk rfl (PE.nilCheck rfl) rfl ?_
 refine tk rfl (PE.fieldAddr fo125_0 rfl) rfl ?_
 refine ld rfl rfl (lh sc22 rfl rfl) rfl ?_
 refine tk rfl (PE.lenSl isl22 rfl) rfl ?_
 refine tk rfl (PE.gtr rfl rfl) rfl ?_
 refine sy_cond rfl (fun hc1 => ?_) (fun hc1 => ?_)
 try simp only [decide_eq_true_eq, decide_eq_false_iff_not, Bool.and_eq_true, Bool.or_eq_true, Bool.not_eq_true', Int.not_le, Int.not_lt] at hc1
 refine sy_tx' [0, 1, 2, 3, 4, 5, 6, 7, 8, 9] rfl ?_
 refine sp rfl (PE.move rfl) rfl ?_
 refine sp rfl (PE.move rfl) rfl ?_
 refine sp rfl (PE.nilCheck rfl) rfl ?_
 refine sp rfl (PE.fieldAddr fo125_2 rfl) rfl ?_
 refine spL rfl rfl (lh sc123 rfl rfl) rfl ?_
 refine spE rfl (PE.mulU rfl rfl) rfl ?_
 rintro _ ⟨u55, rfl, hu55⟩
 refine spE rfl (PE.addU rfl rfl) rfl ?_
 rintro _ ⟨u56, rfl, hu56⟩
 refine sp rfl (PE.nilCheck rfl) rfl ?_
 refine sp rfl (PE.fieldAddr fo125_2 rfl) rfl ?_
 refine sto rfl rfl rfl cn123 rfl rfl rfl rfl ?_
 refine sy_seq ?_
 refine sy_draw [0, 1, 3, 7, 0, 16, 48, 112, 240, 511, 1023, 2047, 4095, 8191] (.tk 0 (.tk 1 (.tk 2 (.ld 3 (.tk 4 (.tk 5 (.tk 6 (.ld 7 (.tk 8 (.tk 9 (.tk 10 (.tk 11 (.tk 12 (.tk 13 .done)))))))))))))) mixed (by kernel_rfl) ?_
 refine tk rfl (PE.move rfl) rfl ?_
 refine tk rfl (PE.nilCheck rfl) rfl ?_
 refine tk rfl (PE.fieldAddr fo125_2 rfl) rfl ?_
 refine ld rfl rfl (lh sc123 rfl rfl) rfl ?_
 refine tk rfl (PE.move rfl) rfl ?_
 refine tk rfl (PE.nilCheck rfl) rfl ?_
 refine tk rfl (PE.fieldAddr fo125_2 rfl) rfl ?_
 refine ld rfl rfl (lh sc123 rfl rfl) rfl ?_
 refine tkE rfl (PE.shrU rfl rfl (by decide) (by omega) (by omega)) rfl ?_
 rintro _ ⟨u67, rfl, hu67⟩
 refine tkE rfl (PE.xorU rfl rfl) rfl ?_
 rintro _ ⟨u68, rfl, hu68⟩
 refine tkE rfl (PE.shrU rfl rfl (by decide) (by omega) (by omega)) rfl ?_
 rintro _ ⟨u69, rfl, hu69⟩
 refine tkE rfl (PE.andU rfl rfl (by decide) (by decide)) rfl ?_
 rintro _ ⟨u70, rfl, hu70⟩
 refine tk rfl (PE.conv64 us123 ik3 rfl (by omega)) rfl ?_
 refine tk rfl (PE.assign rfl) rfl ?_
 refine sy_ret ?_
 first
   | exact sy_return (vs := [_]) rfl (.cons (RV.tmp rfl) .nil) rfl ⟨u70, _, hu70, rfl, hu56, rfl, rfl⟩ (fun _ h => h)
   | exact sy_return (vs := [_]) rfl (.cons (RV.tmp rfl) .nil) rfl ⟨u70, _, hu70, rfl, hu30, rfl, rfl⟩ (fun _ h => h)
   | exact sy_return (vs := [_]) rfl (.cons (RV.tmp rfl) .nil) rfl ⟨u70, _, hu70, rfl, hmx, rfl, rfl⟩ (fun _ h => h)
 try simp only [decide_eq_true_eq, decide_eq_false_iff_not, Bool.and_eq_true, Bool.or_eq_true, Bool.not_eq_true', Int.not_le, Int.not_lt] at hc1
 refine sy_skip ?_
 refine sy_seq ?_
 refine sy_draw [0, 1, 3, 7, 0, 16, 48, 112, 240, 511, 1023, 2047, 4095, 8191] (.tk 0 (.tk 1 (.tk 2 (.ld 3 (.tk 4 (.tk 5 (.tk 6 (.ld 7 (.tk 8 (.tk 9 (.tk 10 (.tk 11 (.tk 12 (.tk 13 .done)))))))))))))) mixed (by kernel_rfl) ?_
 refine tk rfl (PE.move rfl) rfl ?_
 refine tk rfl (PE.nilCheck rfl) rfl ?_
 refine tk rfl (PE.fieldAddr fo125_2 rfl) rfl ?_
 refine ld rfl rfl (lh sc123 rfl rfl) rfl ?_
 refine tk rfl (PE.move rfl) rfl ?_
 refine tk rfl (PE.nilCheck rfl) rfl ?_
 refine tk rfl (PE.fieldAddr fo125_2 rfl) rfl ?_
 refine ld rfl rfl (lh sc123 rfl rfl) rfl ?_
 refine tkE rfl (PE.shrU rfl rfl (by decide) (by omega) (by omega)) rfl ?_
 rintro _ ⟨u67, rfl, hu67⟩
 refine tkE rfl (PE.xorU rfl rfl) rfl ?_
 rintro _ ⟨u68, rfl, hu68⟩
 refine tkE rfl (PE.shrU rfl rfl (by decide) (by omega) (by omega)) rfl ?_
 rintro _ ⟨u69, rfl, hu69⟩
 refine tkE rfl (PE.andU rfl rfl (by decide) (by decide)) rfl ?_
 rintro _ ⟨u70, rfl, hu70⟩
 refine tk rfl (PE.conv64 us123 ik3 rfl (by omega)) rfl ?_
 refine tk rfl (PE.assign rfl) rfl ?_
 refine sy_ret ?_
 first
   | exact sy_return (vs := [_]) rfl (.cons (RV.tmp rfl) .nil) rfl ⟨u70, _, hu70, rfl, hu56, rfl, rfl⟩ (fun _ h => h)
   | exact sy_return (vs := [_]) rfl (.cons (RV.tmp rfl) .nil) rfl ⟨u70, _, hu70, rfl, hu30, rfl, rfl⟩ (fun _ h => h)
   | exact sy_return (vs := [_]) rfl (.cons (RV.tmp rfl) .nil) rfl ⟨u70, _, hu70, rfl, hmx, rfl, rfl⟩ (fun _ h => h)
 try simp only [decide_eq_true_eq, decide_eq_false_iff_not, Bool.and_eq_true, Bool.or_eq_true, Bool.not_eq_true', Int.not_le, Int.not_lt] at hc0
 refine sy_skip ?_
 refine sy_seq ?_
 refine sy_tx' [0, 1, 2, 3, 4, 5, 6, 7] rfl ?_
 refine sp rfl (PE.move rfl) rfl ?_
 refine sp rfl (PE.nilCheck rfl) rfl ?_
 refine sp rfl (PE.fieldAddr fo125_1 rfl) rfl ?_
 refine spL rfl rfl (lh sc3 rfl rfl) rfl ?_
 refine sp rfl (PE.add rfl rfl (by omega)) rfl ?_
 refine sp rfl (PE.nilCheck rfl) rfl ?_
 refine sp rfl (PE.fieldAddr fo125_1 rfl) rfl ?_
 refine sto rfl rfl rfl cn3 rfl rfl rfl rfl ?_
 refine sy_seq ?_
 refine sy_seq ?_
 refine sy_draw [0, 1, 3, 7, 0, 16, 48, 112, 240, 511] (.tk 0 (.tk 1 (.tk 2 (.ld 3 (.tk 4 (.tk 5 (.tk 6 (.ld 7 (.tk 8 (.tk 9 .done)))))))))) mixed (by kernel_rfl) ?_
 refine tk rfl (PE.move rfl) rfl ?_
 refine tk rfl (PE.nilCheck rfl) rfl ?_
 refine tk rfl (PE.fieldAddr fo125_1 rfl) rfl ?_
 refine ld rfl rfl (lh sc3 rfl rfl) rfl ?_
 refine tk rfl (PE.move rfl) rfl ?_
 refine tk rfl (PE.nilCheck rfl) rfl ?_
 refine tk rfl (PE.fieldAddr fo125_0 rfl) rfl ?_
 refine ld rfl rfl (lh sc22 rfl rfl) rfl ?_
 refine tk rfl (PE.lenSl isl22 rfl) rfl ?_
 refine tk rfl (PE.gtr rfl rfl) rfl ?_
 refine sy_cond rfl (fun hc1 => ?_) (fun hc1 => ?_)
 try simp only [decide_eq_true_eq, decide_eq_false_iff_not, Bool.and_eq_true, Bool.or_eq_true, Bool.not_eq_true', Int.not_le, Int.not_lt] at hc1
 refine sy_tx' [0, 1, 2, 3, 4, 5, 6, 7, 8, 9] rfl ?_
 refine sp rfl (PE.move rfl) rfl ?_
 refine sp rfl (PE.move rfl) rfl ?_
 refine sp rfl (PE.nilCheck rfl) rfl ?_
 refine sp rfl (PE.fieldAddr fo125_2 rfl) rfl ?_
 refine spL rfl rfl (lh sc123 rfl rfl) rfl ?_
 refine spE rfl (PE.mulU rfl rfl) rfl ?_
 rintro _ ⟨u55, rfl, hu55⟩
 refine spE rfl (PE.addU rfl rfl) rfl ?_
 rintro _ ⟨u56, rfl, hu56⟩
 refine sp rfl (PE.nilCheck rfl) rfl ?_
 refine sp rfl (PE.fieldAddr fo125_2 rfl) rfl ?_
 refine sto rfl rfl rfl cn123 rfl rfl rfl rfl ?_
 refine sy_seq ?_
 refine sy_draw [0, 1, 3, 7, 0, 16, 48, 112, 240, 511, 1023, 2047, 4095, 8191] (.tk 0 (.tk 1 (.tk 2 (.ld 3 (.tk 4 (.tk 5 (.tk 6 (.ld 7 (.tk 8 (.tk 9 (.tk 10 (.tk 11 (.tk 12 (.tk 13 .done)))))))))))))) mixed (by kernel_rfl) ?_
 refine tk rfl (PE.move rfl) rfl ?_
 refine tk rfl (PE.nilCheck rfl) rfl ?_
 refine tk rfl (PE.fieldAddr fo125_2 rfl) rfl ?_
 refine ld rfl rfl (lh sc123 rfl rfl) rfl ?_
 refine tk rfl (PE.move rfl) rfl ?_
 refine tk rfl (PE.nilCheck rfl) rfl ?_
 refine tk rfl (PE.fieldAddr fo125_2 rfl) rfl ?_
 refine ld rfl rfl (lh sc123 rfl rfl) rfl ?_
 refine tkE rfl (PE.shrU rfl rfl (by decide) (by omega) (by omega)) rfl ?_
 rintro _ ⟨u67, rfl, hu67⟩
 refine tkE rfl (PE.xorU rfl rfl) rfl ?_
 rintro _ ⟨u68, rfl, hu68⟩
 refine tkE rfl (PE.shrU rfl rfl (by decide) (by omega) (by omega)) rfl ?_
 rintro _ ⟨u69, rfl, hu69⟩
 refine tkE rfl (PE.andU rfl rfl (by decide) (by decide)) rfl ?_
 rintro _ ⟨u70, rfl, hu70⟩
 refine tk rfl (PE.conv64 us123 ik3 rfl (by omega)) rfl ?_
 refine tk rfl (PE.assign rfl) rfl ?_
 refine sy_ret ?_
 first
   | exact sy_return (vs := [_]) rfl (.cons (RV.tmp rfl) .nil) rfl ⟨u70, _, hu70, rfl, hu56, rfl, rfl⟩ (fun _ h => h)
   | exact sy_return (vs := [_]) rfl (.cons (RV.tmp rfl) .nil) rfl ⟨u70, _, hu70, rfl, hu30, rfl, rfl⟩ (fun _ h => h)
   | exact sy_return (vs := [_]) rfl (.cons (RV.tmp rfl) .nil) rfl ⟨u70, _, hu70, rfl, hmx, rfl, rfl⟩ (fun _ h => h)
 try simp only [decide_eq_true_eq, decide_eq_false_iff_not, Bool.and_eq_true, Bool.or_eq_true, Bool.not_eq_true', Int.not_le, Int.not_lt] at hc1
 refine sy_skip ?_
 refine sy_seq ?_
 refine sy_draw [0, 1, 3, 7, 0, 16, 48, 112, 240, 511, 1023, 2047, 4095, 8191] (.tk 0 (.tk 1 (.tk 2 (.ld 3 (.tk 4 (.tk 5 (.tk 6 (.ld 7 (.tk 8 (.tk 9 (.tk 10 (.tk 11 (.tk 12 (.tk 13 .done)))))))))))))) mixed (by kernel_rfl) ?_
 refine tk rfl (PE.move rfl) rfl ?_
 refine tk rfl (PE.nilCheck rfl) rfl ?_
 refine tk rfl (PE.fieldAddr fo125_2 rfl) rfl ?_
 refine ld rfl rfl (lh sc123 rfl rfl) rfl ?_
 refine tk rfl (PE.move rfl) rfl ?_
 refine tk rfl (PE.nilCheck rfl) rfl ?_
 refine tk rfl (PE.fieldAddr fo125_2 rfl) rfl ?_
 refine ld rfl rfl (lh sc123 rfl rfl) rfl ?_
 refine tkE rfl (PE.shrU rfl rfl (by decide) (by omega) (by omega)) rfl ?_
 rintro _ ⟨u67, rfl, hu67⟩
 refine tkE rfl (PE.xorU rfl rfl) rfl ?_
 rintro _ ⟨u68, rfl, hu68⟩
 refine tkE rfl (PE.shrU rfl rfl (by decide) (by omega) (by omega)) rfl ?_
 rintro _ ⟨u69, rfl, hu69⟩
 refine tkE rfl (PE.andU rfl rfl (by decide) (by decide)) rfl ?_
 rintro _ ⟨u70, rfl, hu70⟩
 refine tk rfl (PE.conv64 us123 ik3 rfl (by omega)) rfl ?_
 refine tk rfl (PE.assign rfl) rfl ?_
 refine sy_ret ?_
 first
   | exact sy_return (vs := [_]) rfl (.cons (RV.tmp rfl) .nil) rfl ⟨u70, _, hu70, rfl, hu56, rfl, rfl⟩ (fun _ h => h)
   | exact sy_return (vs := [_]) rfl (.cons (RV.tmp rfl) .nil) rfl ⟨u70, _, hu70, rfl, hu30, rfl, rfl⟩ (fun _ h => h)
   | exact sy_return (vs := [_]) rfl (.cons (RV.tmp rfl) .nil) rfl ⟨u70, _, hu70, rfl, hmx, rfl, rfl⟩ (fun _ h => h)
theorem c_Below (g : List Int) (ag : Option Addr) (cg bk : Nat) (hgl : g.length ≤ 9223372036854775807) (tq mx : Int) (htq : 0 ≤ tq ∧ tq ≤ 1000000000) (hmx : 0 ≤ mx ∧ mx ≤ 4294967295) (n : Int) (H : Heap) (R : Facts) [hG : MemRows ag 1 (urows g) R] :
    Fn Try.prog 64 [.pointer (some ⟨bk, 0, none⟩), .int .i64 n] ((bk, cel 125 [.slice ag g.length cg, .int .i64 (tq), .int .u32 (mx)]) :: H) R (fun v H' R' => ∃ x m' : Int, (0 ≤ x ∧ x < max 1 n) ∧ v = .int .i64 x ∧ (0 ≤ m' ∧ m' ≤ 4294967295) ∧ H' = (bk, cel 125 [.slice ag g.length cg, .int .i64 (tq + 1), .int .u32 (m')]) :: H ∧ R' = R) := by
 refine fn_of Try.func64 rfl Try.ntmps64 rfl ?_
 refine sy_seq ?_
 refine sy_tx' [0] rfl ?_
 refine sp rfl (PE.assign rfl) rfl ?_
 refine sy_seq ?_
 refine sy_tx' [0, 1, 2, 3, 4, 5] rfl ?_
 refine sp rfl (PE.move rfl) rfl ?_
 refine cl rfl cal112 rfl rfl (c_handful g ag cg bk hgl tq mx htq hmx _ _) ?_
 rintro _ _ _ ⟨x, m', hx, rfl, hm', rfl, rfl⟩
 refine sp rfl (PE.move rfl) rfl ?_
 refine sp rfl (PE.max rfl rfl) rfl ?_
 refine sp rfl (PE.rem rfl rfl (by omega)) rfl ?_
 refine sp rfl (PE.assign rfl) rfl ?_
 refine sy_ret ?_
 exact sy_return (vs := [_]) rfl (.cons (RV.tmp rfl) .nil) rfl ⟨_, m', ⟨Int.emod_nonneg _ (by omega), Int.emod_lt_of_pos _ (by omega)⟩, rfl, hm', rfl, rfl⟩ (fun _ h => h)
theorem c_Among (g : List Int) (ag : Option Addr) (cg bk : Nat) (hgl : g.length ≤ 9223372036854775807) (tq mx : Int) (htq : 0 ≤ tq ∧ tq ≤ 1000000000) (hmx : 0 ≤ mx ∧ mx ≤ 4294967295) (lo hi : Int) (hb : -1000000 ≤ lo ∧ lo ≤ 1000000 ∧ -1000000 ≤ hi ∧ hi ≤ 1000000) (H : Heap) (R : Facts) [hG : MemRows ag 1 (urows g) R] :
    Fn Try.prog 70 [.pointer (some ⟨bk, 0, none⟩), .int .i64 lo, .int .i64 hi] ((bk, cel 125 [.slice ag g.length cg, .int .i64 (tq), .int .u32 (mx)]) :: H) R (fun v H' R' => ∃ x m' : Int, (lo ≤ x ∧ x < lo + max 1 (hi - lo + 1)) ∧ v = .int .i64 x ∧ (0 ≤ m' ∧ m' ≤ 4294967295) ∧ H' = (bk, cel 125 [.slice ag g.length cg, .int .i64 (tq + 1), .int .u32 (m')]) :: H ∧ R' = R) := by
 refine fn_of Try.func70 rfl Try.ntmps70 rfl ?_
 refine sy_seq ?_
 refine sy_tx' [0] rfl ?_
 refine sp rfl (PE.assign rfl) rfl ?_
 refine sy_seq ?_
 refine sy_tx' [0, 1, 2, 3, 4, 5, 6, 7, 8] rfl ?_
 refine sp rfl (PE.move rfl) rfl ?_
 refine sp rfl (PE.move rfl) rfl ?_
 refine sp rfl (PE.move rfl) rfl ?_
 refine sp rfl (PE.move rfl) rfl ?_
 refine sp rfl (PE.sub rfl rfl (by omega)) rfl ?_
 refine sp rfl (PE.add rfl rfl (by omega)) rfl ?_
 refine cl rfl cal64 rfl rfl (c_Below g ag cg bk hgl tq mx htq hmx (hi - lo + 1) _ _) ?_
 rintro _ _ _ ⟨x, m', hx, rfl, hm', rfl, rfl⟩
 refine sp rfl (PE.add rfl rfl (by omega)) rfl ?_
 refine sp rfl (PE.assign rfl) rfl ?_
 refine sy_ret ?_
 exact sy_return (vs := [_]) rfl (.cons (RV.tmp rfl) .nil) rfl ⟨lo + x, m', ⟨by omega, by omega⟩, rfl, hm', rfl, rfl⟩ (fun _ h => h)
theorem c_Rare (g : List Int) (ag : Option Addr) (cg bk : Nat) (hgl : g.length ≤ 9223372036854775807) (tq mx : Int) (htq : 0 ≤ tq ∧ tq ≤ 1000000000) (hmx : 0 ≤ mx ∧ mx ≤ 4294967295) (n : Int) (H : Heap) (R : Facts) [hG : MemRows ag 1 (urows g) R] :
    Fn Try.prog 111 [.pointer (some ⟨bk, 0, none⟩), .int .i64 n] ((bk, cel 125 [.slice ag g.length cg, .int .i64 (tq), .int .u32 (mx)]) :: H) R (fun v H' R' => ∃ (x : Bool) (m' : Int), v = .bool x ∧ (0 ≤ m' ∧ m' ≤ 4294967295) ∧ H' = (bk, cel 125 [.slice ag g.length cg, .int .i64 (tq + 1), .int .u32 (m')]) :: H ∧ R' = R) := by
 refine fn_of Try.func111 rfl Try.ntmps111 rfl ?_
 refine sy_seq ?_
 refine sy_tx' [0] rfl ?_
 refine sp rfl (PE.assign rfl) rfl ?_
 refine sy_seq ?_
 refine sy_tx' [0, 1, 2, 3, 4] rfl ?_
 refine sp rfl (PE.move rfl) rfl ?_
 refine sp rfl (PE.move rfl) rfl ?_
 refine cl rfl cal64 rfl rfl (c_Below g ag cg bk hgl tq mx htq hmx n _ _) ?_
 rintro _ _ _ ⟨x, m', hx, rfl, hm', rfl, rfl⟩
 refine sp rfl (PE.eql rfl rfl) rfl ?_
 refine sp rfl (PE.assign rfl) rfl ?_
 refine sy_ret ?_
 exact sy_return (vs := [_]) rfl (.cons (RV.tmp rfl) .nil) rfl ⟨_, m', rfl, hm', rfl, rfl⟩ (fun _ h => h)
theorem three_at {j k : Nat} (hk : k < 3) (e : j = k) : [Value.int .i64 3, .int .i64 2, .int .i64 1][j]? = some (.int .i64 ((3 - k : Nat) : Int)) := by
  subst e
  revert hk
  rcases j with _ | _ | _ | j <;> intro hk
  · rfl
  · rfl
  · rfl
  · omega
structure MxI (k : Nat) (l : List Int) (left : Int) : Prop where
  len : l.length = 4
  sum : sum4 l + left = 40
  at_ : ∀ j < 4, 0 ≤ nn l j ∧ nn l j ≤ 40
  lo : 0 ≤ left ∧ left ≤ 40
  zero : ∀ j < 4, j + k ≤ 3 → nn l j = 0
theorem MxI.start : MxI 0 [0, 0, 0, 0] 40 := ⟨rfl, rfl, of4 ⟨by decide, by decide, by decide, by decide⟩, by omega, of4 ⟨fun _ => rfl, fun _ => rfl, fun _ => rfl, fun _ => rfl⟩⟩
theorem MxI.more {k : Nat} {l : List Int} {left v : Int} (h : MxI k l left) (hk : k < 3) (hv : 0 ≤ v ∧ v ≤ left) : MxI (k + 1) (l.set (3 - k) v) (left - v) := by
  have hlo := h.lo
  have hz := h.zero (3 - k) (by omega) (by omega)
  have hs := h.sum
  have hset : ∀ j, nn (l.set (3 - k) v) j = bif 3 - k == j then v else nn l j := fun j => nn_set (by rw [h.len]; omega)
  refine ⟨by simp [h.len], by rw [sum_set h.len (by omega)]; omega, fun j hj => ?_, by omega, fun j hj hjk => ?_⟩
  · rw [hset]
    cases 3 - k == j
    · exact h.at_ j hj
    · simp only [cond_true]; omega
  · rw [hset, show (3 - k == j) = false from by simp; omega]
    exact h.zero j hj (by omega)
theorem MxI.done {l : List Int} {left : Int} (h : MxI 3 l left) : Mxt (l.set 0 left) := by
  have hlo := h.lo
  have hz := h.zero 0 (by omega) (by omega)
  have hs := h.sum
  refine ⟨by simp [h.len], by rw [sum_set h.len (by omega)]; omega, fun j hj => ?_⟩
  rw [nn_set (by rw [h.len]; omega)]
  cases (0 : Nat) == j
  · exact h.at_ j hj
  · simp only [cond_true]; omega
theorem mx_swap {m : Mix} (hm : Mxt m) {k : Nat} (hk : k < 4) : Mxt ((m.set 0 (nn m k)).set k (nn m 0)) := by
  obtain ⟨a, b, c, d, rfl⟩ := list4 hm.len
  have hs := hm.sum
  have h4 := all4 hm.at_
  simp only [sum4, nn, List.getD_cons_zero, List.getD_cons_succ] at hs h4
  rcases lt4 hk with rfl | rfl | rfl | rfl <;> refine ⟨rfl, ?_, of4 ⟨?_, ?_, ?_, ?_⟩⟩ <;> simp [sum4, nn] <;> omega
theorem c_Mixed (g : List Int) (ag : Option Addr) (cg bk : Nat) (hgl : g.length ≤ 9223372036854775807) (tq mx : Int) (htq : 0 ≤ tq ∧ tq ≤ 1000000) (hmx : 0 ≤ mx ∧ mx ≤ 4294967295) (H : Heap) (R : Facts) [hG : MemRows ag 1 (urows g) R] :
    Fn Try.prog 63 [.pointer (some ⟨bk, 0, none⟩)] ((bk, cel 125 [.slice ag g.length cg, .int .i64 (tq), .int .u32 (mx)]) :: H) R (fun v H' R' => ∃ (q : Mix) (tq' mx' : Int), Mxt q ∧ v = .agg (ints q).toArray ∧ (tq ≤ tq' ∧ tq' ≤ tq + 10) ∧ (0 ≤ mx' ∧ mx' ≤ 4294967295) ∧ H' = (bk, cel 125 [.slice ag g.length cg, .int .i64 (tq'), .int .u32 (mx')]) :: H ∧ R' = R) := by
 refine fn_of Try.func63 rfl Try.ntmps63 rfl ?_
 refine sy_seq ?_
 refine sy_tx' [0] rfl ?_
 refine alc rfl zl29 rfl (fun b2 => ?_)
 refine sy_seq ?_
 refine sy_tx' [0] rfl ?_
 refine alc rfl zl29 rfl (fun b3 => ?_)
 refine sy_seq ?_
 refine sy_tx' [0] rfl ?_
 refine sp rfl (PE.assign rfl) rfl ?_
 refine sy_seq ?_
 refine sy_seq ?_
 refine sy_tx' [0, 1, 2] rfl ?_
 refine bsl (out := [_, _, _]) rfl sl34 zl3 rfl rfl rfl rfl rfl rfl (fun b8 => ?_)
 refine sp rfl (PE.lenSl isl34 rfl) rfl ?_
 refine sp rfl (PE.move rfl) rfl ?_
 refine sy_block ?_
 refine sy_pull bk ?_
 refine sy_loop (ι := {x : Nat × List Int × Int × Int × Int // x.1 ≤ 3 ∧ MxI x.1 x.2.1 x.2.2.1 ∧ x.2.2.2.1 = tq + 2 * x.1 ∧ (0 ≤ x.2.2.2.2 ∧ x.2.2.2.2 ≤ 4294967295)}) (fun x => ⟨[(0, .pointer (some ⟨bk, 0, none⟩)), (2, .pointer (some ⟨b2, 0, none⟩)), (3, .pointer (some ⟨b3, 0, none⟩)), (4, .int .i64 x.1.2.2.1), (8, .slice (some ⟨b8, 0, none⟩) 3 3), (9, .int .i64 3), (10, .int .i64 x.1.1)], (bk, cel 125 [.slice ag g.length cg, .int .i64 (x.1.2.2.2.1), .int .u32 (x.1.2.2.2.2)]) :: (b8, cel 3 [.int .i64 3, .int .i64 2, .int .i64 1]) :: (b3, cel 29 (ints x.1.2.1)) :: (b2, cel 29 (ints [0, 0, 0, 0])) :: H, R⟩) (fun x => 3 - x.1.1) ⟨(0, [0, 0, 0, 0], 40, tq, mx), by omega, MxI.start, by dsimp only; omega, by assumption⟩ ?_ (fun x => ?_)
 exact sy_at (by repeat' first | exact Sub.nil | apply Sub.cons | rfl | (simp [lk]; omega)) (fun _ h => h)
 obtain ⟨⟨k, l, left, tq2, mx2⟩, hk, hmi, htq2, hmx2⟩ := x
 dsimp only at hk hmi htq2 hmx2 ⊢
 subst htq2
 have hlo := hmi.lo
 have hml := hmi.len
 refine sy_seq ?_
 refine sy_tx' [0] rfl ?_
 refine sp rfl (PE.lss rfl rfl) rfl ?_
 refine sy_seq ?_
 refine sy_cond rfl (fun hc0 => ?_) (fun hc0 => ?_)
 try simp only [decide_eq_true_eq, decide_eq_false_iff_not, Bool.and_eq_true, Bool.or_eq_true, Bool.not_eq_true', Int.not_le, Int.not_lt] at hc0
 have hk3 : k < 3 := by omega
 have hk4 : 3 - k < 4 := by omega
 refine sy_skip ?_
 refine sy_seq ?_
 refine sy_block ?_
 refine sy_seq ?_
 refine sy_tx' [0, 1, 2] rfl ?_
 refine sp rfl (PE.indexAddr el34 rfl rfl (by omega) (by omega)) rfl ?_
 refine spL rfl rfl (lh sc3 rfl (three_at hk3 (by omega))) rfl ?_
 refine sp rfl (PE.assign rfl) rfl ?_
 refine sy_seq ?_
 refine sy_tx' [0, 1, 2, 3, 4, 5, 6, 7, 8, 9] rfl ?_
 refine sp rfl (PE.move rfl) rfl ?_
 refine sp rfl (PE.move rfl) rfl ?_
 refine sp rfl (PE.move rfl) rfl ?_
 refine cl rfl cal64 rfl rfl (c_Below g ag cg bk hgl _ _ (by omega) (by assumption) (5) _ _) ?_
 rintro _ _ R1 ⟨x17, m17, hx17, rfl, hm17, rfl, hR1⟩
 obtain rfl := hR1.symm
 refine sp rfl (PE.move rfl) rfl ?_
 refine cl rfl cal64 rfl rfl (c_Below g ag cg bk hgl _ _ (by omega) (by assumption) (4) _ _) ?_
 rintro _ _ R1 ⟨x19, m19, hx19, rfl, hm19, rfl, hR1⟩
 obtain rfl := hR1.symm
 have hm20 := mul_b (a := x17) (b := x19) (A := 4) (B := 3) (by omega) (by omega) (by omega) (by omega)
 obtain ⟨v, hv⟩ : ∃ v, v = min left (x17 * x19) := ⟨_, rfl⟩
 refine sp rfl (PE.mul rfl rfl (by omega)) rfl ?_
 refine sp rfl (PE.min rfl rfl) rfl ?_
 rw [← hv]
 refine sp rfl (PE.indexArr ar29 rfl rfl (by omega) (by omega)) rfl ?_
 refine sy_pull b3 ?_
 refine stoE (l' := ints ((l).set (3 - k) (v))) rfl rfl rfl cn3 rfl rfl rfl (spl_mix hml hk4 _) (by rw [ints_length, hml]; show 0 + (((3 - k) : Nat) : Int).toNat * 1 + 1 ≤ 4; omega) ?_
 refine sy_tx' [0, 1, 2, 3, 4, 5] rfl ?_
 refine sp rfl (PE.move rfl) rfl ?_
 refine sp rfl (PE.move rfl) rfl ?_
 refine sp rfl (PE.indexArr ar29 rfl rfl (by omega) (by omega)) rfl ?_
 refine spL rfl rfl (lh sc3 rfl (mix_at (by simp [hml]) hk4)) rfl ?_
 rw [show nn (l.set (3 - k) v) (3 - k) = v from by rw [nn_set (by omega)]; simp]
 refine sp rfl (PE.sub rfl rfl (by omega)) rfl ?_
 refine sp rfl (PE.assign rfl) rfl ?_
 refine sy_tx' [0, 1] rfl ?_
 refine sp rfl (PE.add rfl rfl (by omega)) rfl ?_
 refine sp rfl (PE.move rfl) rfl ?_
 exact sy_next ⟨(k + 1, l.set (3 - k) v, left - v, tq + 2 * k + 1 + 1, m19), by omega, hmi.more hk3 (by omega), by dsimp only; omega, by assumption⟩ (by dsimp only; omega) (by repeat' first | exact Sub.nil | apply Sub.cons | rfl | (simp [lk]; omega)) (fun _ h => St.sub (((h.pull b3).pull b8).pull bk))
 try simp only [decide_eq_true_eq, decide_eq_false_iff_not, Bool.and_eq_true, Bool.or_eq_true, Bool.not_eq_true', Int.not_le, Int.not_lt] at hc0
 obtain rfl : k = 3 := by omega
 have hq := hmi.done
 refine sy_exit ?_
 repeat refine sy_tx ?_
 refine sy_bx ?_
 refine sy_seq ?_
 refine sy_tx' [0, 1, 2] rfl ?_
 refine sp rfl (PE.move rfl) rfl ?_
 refine sp rfl (PE.indexArr ar29 rfl rfl (by omega) (by omega)) rfl ?_
 refine sy_pull b3 ?_
 refine stoE (l' := ints ((l).set 0 (left))) rfl rfl rfl cn3 rfl rfl rfl (spl_mix hml (by decide) _) (by rw [ints_length, hml]; show 0 + ((0 : Nat) : Int).toNat * 1 + 1 ≤ 4; decide) ?_
 refine sy_seq ?_
 refine sy_seq ?_
 refine sy_tx' [0, 1] rfl ?_
 refine sy_pull bk ?_
 obtain ⟨q, hqe⟩ : ∃ q, q = l.set 0 left := ⟨_, rfl⟩
 rw [← hqe] at hq ⊢
 refine sp rfl (PE.move rfl) rfl ?_
 refine cl rfl cal111 rfl rfl (c_Rare g ag cg bk hgl _ _ (by omega) (by assumption) 4 _ _) ?_
 rintro _ _ R1 ⟨x32, m32, rfl, hm32, rfl, hR1⟩
 obtain rfl := hR1.symm
 refine sy_cond rfl (fun hc1 => ?_) (fun hc1 => ?_)
 try simp only [decide_eq_true_eq, decide_eq_false_iff_not, Bool.and_eq_true, Bool.or_eq_true, Bool.not_eq_true', Int.not_le, Int.not_lt] at hc1
 refine sy_seq ?_
 refine sy_tx' [0, 1, 2, 3] rfl ?_
 refine sp rfl (PE.move rfl) rfl ?_
 refine cl rfl cal64 rfl rfl (c_Below g ag cg bk hgl _ _ (by omega) (by assumption) (3) _ _) ?_
 rintro _ _ R1 ⟨x34, m34, hx34, rfl, hm34, rfl, hR1⟩
 obtain rfl := hR1.symm
 refine sp rfl (PE.add rfl rfl (by omega)) rfl ?_
 refine sp rfl (PE.assign rfl) rfl ?_
 refine sy_draw [0, 0, 2, 6, 0, 16, 62, 126, 255, 511] (.tk 0 (.tk 1 (.tk 2 (.ld 3 (.tk 4 (.ld 5 (.tk 6 (.big 7 (.tk 8 (.big 9 .done)))))))))) mixed (by kernel_rfl) ?_
 obtain ⟨k, hk⟩ : ∃ k : Nat, 1 + x34 = k := ⟨(1 + x34).toNat, by omega⟩
 rw [hk]
 have hk4 : k < 4 := by omega
 have hq2 := mx_swap hq hk4
 refine tk rfl (PE.move rfl) rfl ?_
 refine tk rfl (PE.move rfl) rfl ?_
 refine tk rfl (PE.indexArr ar29 rfl rfl (by omega) (by omega)) rfl ?_
 refine ld rfl rfl (lh sc3 rfl (mix_at hq.len hk4)) rfl ?_
 refine tk rfl (PE.indexArr ar29 rfl rfl (by omega) (by omega)) rfl ?_
 refine ld rfl rfl (lh sc3 rfl (mix_at hq.len (k := 0) (by omega))) rfl ?_
 refine tk rfl (PE.indexArr ar29 rfl rfl (by omega) (by omega)) rfl ?_
 refine sy_pull b3 ?_
 refine stoE (l' := ints ((q).set 0 (nn q k))) rfl rfl rfl cn3 rfl rfl rfl (spl_mix hq.len (by decide) _) (by rw [ints_length, hq.len]; show 0 + ((0 : Nat) : Int).toNat * 1 + 1 ≤ 4; decide) ?_
 refine bg (fun w hs => ⟨trivial, trivial, trivial⟩) ?_
 refine tk rfl (PE.indexArr ar29 rfl rfl (by omega) (by omega)) rfl ?_
 refine stoE (l' := ints ((q.set 0 (nn q k)).set k (nn q 0))) rfl rfl rfl cn3 rfl rfl rfl (spl_mix (show (q.set 0 (nn q k)).length = 4 by simp [hq.len]) hk4 _) (by rw [ints_length, (show (q.set 0 (nn q k)).length = 4 by simp [hq.len])]; show 0 + ((k : Nat) : Int).toNat * 1 + 1 ≤ 4; omega) ?_
 refine bg (fun w hs => trivial) ?_
 refine sy_seq ?_
 refine sy_tx' [0, 1] rfl ?_
 obtain ⟨p, hpe, hp⟩ : ∃ p, p = q ∧ Mxt p := ⟨_, rfl, hq⟩
 first
   | (clear hpe hp p; obtain ⟨p, hpe⟩ : ∃ p, p = (q.set 0 (nn q k)).set k (nn q 0) := ⟨_, rfl⟩; rw [← hpe] at hq2 ⊢; have hp := hq2)
   | rw [← hpe]
 refine spL rfl rfl (lhA (ints (p)) ag29 rfl (rest := []) (by rw [List.append_nil]; rfl) (by rw [ints_length]; exact hp.len)) rfl ?_
 refine sy_pull b2 ?_
 refine stoA rfl rfl rfl cn29 rfl (by rw [ints_length]; exact hp.len) rfl (ints_one _) ?_
 refine sy_ret ?_
 first
   | exact sy_return (vs := [_]) rfl (.cons (RV.cell rfl (lhA (ints (p)) ag29 rfl (rest := []) (by rw [List.append_nil]; rfl) (by rw [ints_length]; exact hp.len))) .nil) rfl ⟨p, tq + 2 * (3 : Nat) + 1 + 1, m34, hp, rfl, by omega, hm34, rfl, rfl⟩ (fun w h => St.sub (((h.del b2).del b3).del b8))
   | exact sy_return (vs := [_]) rfl (.cons (RV.cell rfl (lhA (ints (p)) ag29 rfl (rest := []) (by rw [List.append_nil]; rfl) (by rw [ints_length]; exact hp.len))) .nil) rfl ⟨p, tq + 2 * (3 : Nat) + 1, m32, hp, rfl, by omega, hm32, rfl, rfl⟩ (fun w h => St.sub (((h.del b2).del b3).del b8))
 try simp only [decide_eq_true_eq, decide_eq_false_iff_not, Bool.and_eq_true, Bool.or_eq_true, Bool.not_eq_true', Int.not_le, Int.not_lt] at hc1
 refine sy_skip ?_
 refine sy_seq ?_
 refine sy_tx' [0, 1] rfl ?_
 obtain ⟨p, hpe, hp⟩ : ∃ p, p = q ∧ Mxt p := ⟨_, rfl, hq⟩
 first
   | (clear hpe hp p; obtain ⟨p, hpe⟩ : ∃ p, p = (q.set 0 (nn q k)).set k (nn q 0) := ⟨_, rfl⟩; rw [← hpe] at hq2 ⊢; have hp := hq2)
   | rw [← hpe]
 refine spL rfl rfl (lhA (ints (p)) ag29 rfl (rest := []) (by rw [List.append_nil]; rfl) (by rw [ints_length]; exact hp.len)) rfl ?_
 refine sy_pull b2 ?_
 refine stoA rfl rfl rfl cn29 rfl (by rw [ints_length]; exact hp.len) rfl (ints_one _) ?_
 refine sy_ret ?_
 first
   | exact sy_return (vs := [_]) rfl (.cons (RV.cell rfl (lhA (ints (p)) ag29 rfl (rest := []) (by rw [List.append_nil]; rfl) (by rw [ints_length]; exact hp.len))) .nil) rfl ⟨p, tq + 2 * (3 : Nat) + 1 + 1, m34, hp, rfl, by omega, hm34, rfl, rfl⟩ (fun w h => St.sub (((h.del b2).del b3).del b8))
   | exact sy_return (vs := [_]) rfl (.cons (RV.cell rfl (lhA (ints (p)) ag29 rfl (rest := []) (by rw [List.append_nil]; rfl) (by rw [ints_length]; exact hp.len))) .nil) rfl ⟨p, tq + 2 * (3 : Nat) + 1, m32, hp, rfl, by omega, hm32, rfl, rfl⟩ (fun w h => St.sub (((h.del b2).del b3).del b8))
theorem hnd_at {s : Int} {m : List Int} (hm : m.length = 4) {k : Nat} (hk : k < 4) : (Value.int .i64 s :: ints m)[0 + 1 + ((k : Nat) : Int).toNat * 1]? = some (.int .i64 (nn m k)) := by
  obtain ⟨a, b, c, d, rfl⟩ := list4 hm
  rcases lt4 hk with rfl | rfl | rfl | rfl <;> rfl
theorem spl_hnd {s : Int} {m : List Int} (hm : m.length = 4) {k : Nat} (hk : k < 4) (v : Int) : spl (Value.int .i64 s :: ints m) (0 + 1 + ((k : Nat) : Int).toNat * 1) [.int .i64 v] = Value.int .i64 s :: ints (m.set k v) := by
  obtain ⟨a, b, c, d, rfl⟩ := list4 hm
  rcases lt4 hk with rfl | rfl | rfl | rfl <;> rfl
theorem mk_part {m : List Int} (hm : m.length = 4) {k : Nat} (hk : k < 4) : mkv false ((m.drop (k * 1)).take 1) = .int .i64 (nn m k) := by
  obtain ⟨a, b, c, d, rfl⟩ := list4 hm
  rcases lt4 hk with rfl | rfl | rfl | rfl <;> rfl
theorem tdiv40 {a : Int} (h : 0 ≤ a ∧ a ≤ 1000000) : IntKind.i64.wrap (a.tdiv 40) = a / 40 := by
  rw [tdiv_in (by omega) (by omega), Int.tdiv_eq_ediv_of_nonneg h.1]
theorem hnd_len {s : Int} {m : List Int} (hm : m.length = 4) : (Value.int .i64 s :: ints m).length = 5 := by rw [List.length_cons, ints_length, hm]
theorem c_Taken (l0 : List Int) (ag : Option Addr) (cg bk : Nat) (hgl : l0.length ≤ 9223372036854775807) (tq mx : Int) (htq : 0 ≤ tq ∧ tq ≤ 1000000) (hmx : 0 ≤ mx ∧ mx ≤ 4294967295) (g : Gat) (hmi : 0 ≤ g.miss ∧ g.miss ≤ 20) (sl : Value) (m : Mix) (hm : Mxt m) (H : Heap) (R : Facts) [hG : MemRows ag 1 (urows l0) R] :
    Fn Try.prog 52 [.pointer (some ⟨bk, 0, none⟩), g.v sl, .agg (ints m).toArray] ((bk, cel 125 [.slice ag l0.length cg, .int .i64 (tq), .int .u32 (mx)]) :: H) R (fun v H' R' => ∃ (h : Hnd) (tq' mx' : Int), h.ok ∧ fitB g.miss h m = true ∧ v = .agg (hrow h).toArray ∧ (tq ≤ tq' ∧ tq' ≤ tq + 20) ∧ (0 ≤ mx' ∧ mx' ≤ 4294967295) ∧ H' = (bk, cel 125 [.slice ag l0.length cg, .int .i64 (tq'), .int .u32 (mx')]) :: H ∧ R' = R) := by
 refine fn_of Try.func52 rfl Try.ntmps52 rfl ?_
 refine sy_seq ?_
 refine sy_tx' [0, 1, 2] rfl ?_
 refine bx rfl rfl rfl (fun b4 => ?_)
 refine bx rfl rfl rfl (fun b5 => ?_)
 refine alc rfl zl82 rfl (fun b6 => ?_)
 refine sy_seq ?_
 refine sy_tx' [0, 1, 2] rfl ?_
 refine sy_pull bk ?_
 refine sp rfl (PE.move rfl) rfl ?_
 refine cl rfl cal70 rfl rfl (c_Among l0 ag cg bk hgl _ _ (by omega) (by assumption) (10) (200) (by first | omega | (dsimp only; omega)) _ _) ?_
 rintro _ _ R1 ⟨x18, m18, hx18, rfl, hm18, rfl, hR1⟩
 obtain rfl := hR1.symm
 refine sp rfl (PE.assign rfl) rfl ?_
 refine sy_seq ?_
 refine sy_seq ?_
 refine sy_tx' [0, 1, 2] rfl ?_
 refine sp rfl (PE.fieldAddr fo25_1 rfl) rfl ?_
 refine spL rfl rfl (lh sc3 rfl rfl) rfl ?_
 refine sp rfl (PE.eql rfl rfl) rfl ?_
 refine sy_join (ι := {x : Int × Int × Int // (10 ≤ x.1 ∧ x.1 ≤ 200) ∧ (g.miss = 0 → ∃ j : Int, x.1 = 40 * j) ∧ (tq ≤ x.2.1 ∧ x.2.1 ≤ tq + 2) ∧ (0 ≤ x.2.2 ∧ x.2.2 ≤ 4294967295)}) (fun x => ⟨[(0, .pointer (some ⟨bk, 0, none⟩)), (4, .pointer (some ⟨b4, 0, none⟩)), (5, .pointer (some ⟨b5, 0, none⟩)), (6, .pointer (some ⟨b6, 0, none⟩)), (7, .int .i64 x.1.1)], (bk, cel 125 [.slice ag l0.length cg, .int .i64 (x.1.2.1), .int .u32 (x.1.2.2)]) :: (b6, cel 82 (hrow ⟨0, 0, 0, 0, 0⟩)) :: (b5, cel 29 (ints m)) :: (b4, cel 25 (gtl g sl)) :: H, R⟩) ?_ ?_
 refine sy_cond rfl (fun hc0 => ?_) (fun hc0 => ?_)
 refine sy_tx' [0, 1, 2, 3] rfl ?_
 refine sp rfl (PE.move rfl) rfl ?_
 refine cl rfl cal70 rfl rfl (c_Among l0 ag cg bk hgl _ _ (by omega) (by assumption) (1) (5) (by first | omega | (dsimp only; omega)) _ _) ?_
 rintro _ _ R1 ⟨x23, m23, hx23, rfl, hm23, rfl, hR1⟩
 obtain rfl := hR1.symm
 refine sp rfl (PE.mul rfl rfl (by omega)) rfl ?_
 refine sp rfl (PE.assign rfl) rfl ?_
 exact sy_jend ⟨(40 * x23, tq + 1 + 1, m23), by dsimp only; omega, fun _ => ⟨x23, rfl⟩, by dsimp only; omega, by assumption⟩ (by repeat' first | exact Sub.nil | apply Sub.cons | rfl | (simp [lk]; omega)) (fun _ h => h)
 refine sy_skip ?_
 exact sy_jend ⟨(x18, tq + 1, m18), by dsimp only; omega, fun h => absurd h (by simpa using hc0), by dsimp only; omega, by assumption⟩ (by repeat' first | exact Sub.nil | apply Sub.cons | rfl | (simp [lk]; omega)) (fun _ h => h)
 rintro ⟨⟨n, tq2, mx2⟩, hn, hn0, htq2, hmx2⟩
 dsimp only at hn hn0 htq2 hmx2 ⊢
 have hng : 0 ≤ n ∧ n ≤ 200 := by omega
 refine sy_seq ?_
 refine sy_tx' [0, 1, 2, 3, 4] rfl ?_
 refine sp rfl (PE.move rfl) rfl ?_
 refine cl rfl cal64 rfl rfl (c_Below l0 ag cg bk hgl _ _ (by omega) (by assumption) (3) _ _) ?_
 rintro _ _ R1 ⟨x26, m26, hx26, rfl, hm26, rfl, hR1⟩
 obtain rfl := hR1.symm
 refine sp rfl (PE.build (out := hrow ⟨x26, 0, 0, 0, 0⟩) pl82 zl82 rfl rfl) rfl ?_
 refine alc rfl zl82 rfl (fun b8 => ?_)
 refine sto rfl rfl rfl cn82 rfl rfl rfl rfl ?_
 refine sy_seq ?_
 refine sy_tx' [0, 1] rfl ?_
 refine sp rfl (PE.move rfl) rfl ?_
 refine sp rfl (PE.assign rfl) rfl ?_
 refine sy_seq ?_
 refine sy_seq ?_
 refine sy_tx' [0, 1] rfl ?_
 refine spL rfl rfl (lhA (ints (m)) ag29 rfl (rest := []) (by rw [List.append_nil]; rfl) (by rw [ints_length]; exact hm.len)) rfl ?_
 refine sp rfl (PE.move rfl) rfl ?_
 refine sy_block ?_
 refine sy_loop (ι := {k : Nat // k ≤ 4}) (fun k => ⟨[(0, .pointer (some ⟨bk, 0, none⟩)), (4, .pointer (some ⟨b4, 0, none⟩)), (5, .pointer (some ⟨b5, 0, none⟩)), (6, .pointer (some ⟨b6, 0, none⟩)), (7, .int .i64 n), (8, .pointer (some ⟨b8, 0, none⟩)), (9, .int .i64 (takL n m k.1).2), (29, .agg (ints m).toArray), (30, .int .i64 k.1)], (b8, cel 82 (.int .i64 x26 :: ints (takL n m k.1).1)) :: (bk, cel 125 [.slice ag l0.length cg, .int .i64 (tq2 + 1), .int .u32 (m26)]) :: (b6, cel 82 (hrow ⟨0, 0, 0, 0, 0⟩)) :: (b5, cel 29 (ints m)) :: (b4, cel 25 (gtl g sl)) :: H, R⟩) (fun k => 4 - k.1) ⟨0, by omega⟩ ?_ (fun k => ?_)
 exact sy_at (by repeat' first | exact Sub.nil | apply Sub.cons | rfl | (simp [lk]; omega)) (fun _ h => h)
 obtain ⟨k, hk⟩ := k
 dsimp only at hk ⊢
 obtain ⟨t1, t2, t3, t4, t5, t6⟩ := takL_ok hm hng k hk
 refine sy_seq ?_
 refine sy_tx' [0] rfl ?_
 refine sp rfl (PE.lss rfl rfl) rfl ?_
 refine sy_seq ?_
 refine sy_cond rfl (fun hc1 => ?_) (fun hc1 => ?_)
 try simp only [decide_eq_true_eq, decide_eq_false_iff_not, Bool.and_eq_true, Bool.or_eq_true, Bool.not_eq_true', Int.not_le, Int.not_lt] at hc1
 have hk4 : k < 4 := by omega
 have hbd := mul_bd4 hm hng hk4
 have hg0 : g0 n m k = n * nn m k / 40 := rfl
 refine sy_skip ?_
 refine sy_seq ?_
 refine sy_block ?_
 refine sy_seq ?_
 refine sy_tx' [0, 1, 2, 3] rfl ?_
 refine sp rfl (PE.move rfl) rfl ?_
 refine sp rfl ((PE.indexI (l := m) are29 (eqB_ok 10000 3 false 1 eqf3) (fun _ => rfl) rfl rfl hk4 (by rw [hm.len]; omega)).to (by rw [mk_part hm.len hk4])) rfl ?_
 refine sp rfl (PE.assign rfl) rfl ?_
 refine sp rfl (PE.assign rfl) rfl ?_
 refine sy_seq ?_
 refine sy_tx' [0, 1, 2, 3, 4, 5, 6, 7] rfl ?_
 refine sp rfl (PE.move rfl) rfl ?_
 refine sp rfl (PE.move rfl) rfl ?_
 refine sp rfl (PE.move rfl) rfl ?_
 refine sp rfl (PE.mul rfl rfl (by omega)) rfl ?_
 refine sp rfl ((PE.quoW rfl rfl (by omega)).to (by rw [tdiv40 (by omega), ← hg0])) rfl ?_
 refine sp rfl (PE.fieldAddr fo82_1 rfl) rfl ?_
 refine sp rfl (PE.indexArr ar29 rfl rfl (by omega) (by omega)) rfl ?_
 refine stoE (l' := .int .i64 x26 :: ints (((takL n m k).1).set k (g0 n m k))) rfl rfl rfl cn3 rfl rfl rfl (spl_hnd t1 hk4 _) (by rw [hnd_len t1]; show 0 + 1 + ((k : Nat) : Int).toNat * 1 + 1 ≤ 5; omega) ?_
 refine sy_tx' [0, 1, 2, 3, 4, 5, 6] rfl ?_
 refine sp rfl (PE.move rfl) rfl ?_
 refine sp rfl (PE.move rfl) rfl ?_
 refine sp rfl (PE.fieldAddr fo82_1 rfl) rfl ?_
 refine sp rfl (PE.indexArr ar29 rfl rfl (by omega) (by omega)) rfl ?_
 refine spL rfl rfl (lh sc3 rfl (hnd_at (by simp [t1]) hk4)) rfl ?_
 rw [show nn ((takL n m k).1.set k (g0 n m k)) k = g0 n m k from by rw [nn_set (by omega)]; simp]
 refine sp rfl (PE.sub rfl rfl (by omega)) rfl ?_
 refine sp rfl (PE.assign rfl) rfl ?_
 refine sy_tx' [0, 1] rfl ?_
 refine sp rfl (PE.add rfl rfl (by omega)) rfl ?_
 refine sp rfl (PE.move rfl) rfl ?_
 exact sy_next ⟨k + 1, by omega⟩ (by dsimp only; omega) (by repeat' first | exact Sub.nil | apply Sub.cons | rfl | (simp [lk]; omega)) (fun _ h => h)
 try simp only [decide_eq_true_eq, decide_eq_false_iff_not, Bool.and_eq_true, Bool.or_eq_true, Bool.not_eq_true', Int.not_le, Int.not_lt] at hc1
 obtain rfl : k = 4 := by omega
 refine sy_exit ?_
 repeat refine sy_tx ?_
 refine sy_bx ?_
 refine sy_seq ?_
 refine sy_seq ?_
 refine sy_tx' [0, 1] rfl ?_
 refine spL rfl rfl (lhA (ints (m)) ag29 rfl (rest := []) (by rw [List.append_nil]; rfl) (by rw [ints_length]; exact hm.len)) rfl ?_
 refine sp rfl (PE.move rfl) rfl ?_
 refine sy_block ?_
 refine sy_loop (ι := {k : Nat // k ≤ 4}) (fun k => ⟨[(0, .pointer (some ⟨bk, 0, none⟩)), (4, .pointer (some ⟨b4, 0, none⟩)), (5, .pointer (some ⟨b5, 0, none⟩)), (6, .pointer (some ⟨b6, 0, none⟩)), (7, .int .i64 n), (8, .pointer (some ⟨b8, 0, none⟩)), (9, .int .i64 (takI n m k.1).2), (48, .agg (ints m).toArray), (49, .int .i64 k.1)], (b8, cel 82 (.int .i64 x26 :: ints (takI n m k.1).1)) :: (bk, cel 125 [.slice ag l0.length cg, .int .i64 (tq2 + 1), .int .u32 (m26)]) :: (b6, cel 82 (hrow ⟨0, 0, 0, 0, 0⟩)) :: (b5, cel 29 (ints m)) :: (b4, cel 25 (gtl g sl)) :: H, R⟩) (fun k => 4 - k.1) ⟨0, by omega⟩ ?_ (fun k => ?_)
 exact sy_at (by repeat' first | exact Sub.nil | apply Sub.cons | rfl | (simp [lk]; omega)) (fun _ h => h)
 obtain ⟨k, hk⟩ := k
 dsimp only at hk ⊢
 have hti := takI_ok hm hng k hk
 have t1 := hti.len
 have t2 := hti.lo
 have t3 := hti.sum
 have t4 : (takI n m k).2 ≤ 200 := by
   obtain ⟨p0, p1, p2, p3⟩ := all4 hti.at_
   obtain ⟨q0, q1, q2, q3⟩ := all4 (fun k hk => mul_bd4 hm hng (k := k) hk)
   have t3 := t3
   unfold sum4 at t3
   simp only [g0] at p0 p1 p2 p3
   omega
 refine sy_seq ?_
 refine sy_tx' [0] rfl ?_
 refine sp rfl (PE.lss rfl rfl) rfl ?_
 refine sy_seq ?_
 refine sy_cond rfl (fun hc2 => ?_) (fun hc2 => ?_)
 try simp only [decide_eq_true_eq, decide_eq_false_iff_not, Bool.and_eq_true, Bool.or_eq_true, Bool.not_eq_true', Int.not_le, Int.not_lt] at hc2
 have hk4 : k < 4 := by omega
 have hbd := mul_bd4 hm hng hk4
 have hat := hti.at_ k hk4
 have hg0 : g0 n m k = n * nn m k / 40 := rfl
 refine sy_skip ?_
 refine sy_seq ?_
 refine sy_block ?_
 refine sy_seq ?_
 refine sy_tx' [0, 1, 2, 3] rfl ?_
 refine sp rfl (PE.move rfl) rfl ?_
 refine sp rfl ((PE.indexI (l := m) are29 (eqB_ok 10000 3 false 1 eqf3) (fun _ => rfl) rfl rfl hk4 (by rw [hm.len]; omega)).to (by rw [mk_part hm.len hk4])) rfl ?_
 refine sp rfl (PE.assign rfl) rfl ?_
 refine sp rfl (PE.assign rfl) rfl ?_
 refine sy_seq ?_
 refine sy_tx' [0, 1, 2, 3, 4, 5, 6, 7, 8] rfl ?_
 refine sp rfl (PE.move rfl) rfl ?_
 refine sp rfl (PE.gtr rfl rfl) rfl ?_
 refine sp rfl (PE.move rfl) rfl ?_
 refine sy_case (t := 55) rfl (fun g55 => ?_) (fun g55 => ?_)
 refine spG rfl rfl rfl rfl (PE.move rfl) rfl ?_
 refine spG rfl rfl rfl rfl (PE.move rfl) rfl ?_
 refine spG rfl rfl rfl rfl (PE.mul rfl rfl (by omega)) rfl ?_
 refine spG rfl rfl rfl rfl (PE.rem rfl rfl (by omega)) rfl ?_
 refine spG rfl rfl rfl rfl (PE.gtr rfl rfl) rfl ?_
 refine sp rfl (PE.pick rfl rfl rfl) rfl ?_
 refine sy_cond rfl (fun hc3 => ?_) (fun hc3 => ?_)
 have hst : takI n m (k + 1) = ((takI n m k).1.set k (nn (takI n m k).1 k + 1), (takI n m k).2 - 1) := by
   show (bif takC n m (takI n m k) k then _ else _) = _
   rw [show takC n m (takI n m k) k = true from by simp_all [takC]]; rfl
 refine sy_seq ?_
 refine sy_tx' [0, 1, 2, 3, 4, 5, 6, 7] rfl ?_
 refine sp rfl (PE.move rfl) rfl ?_
 refine sp rfl (PE.fieldAddr fo82_1 rfl) rfl ?_
 refine sp rfl (PE.indexArr ar29 rfl rfl (by omega) (by omega)) rfl ?_
 refine spL rfl rfl (lh sc3 rfl (hnd_at t1 hk4)) rfl ?_
 refine sp rfl (PE.add rfl rfl (by omega)) rfl ?_
 refine sp rfl (PE.fieldAddr fo82_1 rfl) rfl ?_
 refine sp rfl (PE.indexArr ar29 rfl rfl (by omega) (by omega)) rfl ?_
 refine stoE (l' := .int .i64 x26 :: ints (((takI n m k).1).set k (nn (takI n m k).1 k + 1))) rfl rfl rfl cn3 rfl rfl rfl (spl_hnd t1 hk4 _) (by rw [hnd_len t1]; show 0 + 1 + ((k : Nat) : Int).toNat * 1 + 1 ≤ 5; omega) ?_
 refine sy_tx' [0, 1, 2] rfl ?_
 refine sp rfl (PE.move rfl) rfl ?_
 refine sp rfl (PE.sub rfl rfl (by omega)) rfl ?_
 refine sp rfl (PE.assign rfl) rfl ?_
 refine sy_tx' [0, 1] rfl ?_
 refine sp rfl (PE.add rfl rfl (by omega)) rfl ?_
 refine sp rfl (PE.move rfl) rfl ?_
 exact sy_next ⟨k + 1, by omega⟩ (by dsimp only; omega) (by dsimp only; rw [hst]; exact (by repeat' first | exact Sub.nil | apply Sub.cons | rfl | (simp [lk]; omega))) (fun w h => by dsimp only; rw [hst]; exact h)
 have hst : takI n m (k + 1) = takI n m k := by
   show (bif takC n m (takI n m k) k then _ else _) = _
   rw [show takC n m (takI n m k) k = false from by simp_all [takC]]; rfl
 refine sy_skip ?_
 refine sy_tx' [0, 1] rfl ?_
 refine sp rfl (PE.add rfl rfl (by omega)) rfl ?_
 refine sp rfl (PE.move rfl) rfl ?_
 exact sy_next ⟨k + 1, by omega⟩ (by dsimp only; omega) (by dsimp only; rw [hst]; exact (by repeat' first | exact Sub.nil | apply Sub.cons | rfl | (simp [lk]; omega))) (fun w h => by dsimp only; rw [hst]; exact h)
 have hst : takI n m (k + 1) = takI n m k := by
   show (bif takC n m (takI n m k) k then _ else _) = _
   have h55 : decide (0 < (takI n m k).2) = false := by simpa using g55
   rw [show takC n m (takI n m k) k = false from by unfold takC; rw [h55]; rfl]; rfl
 repeat refine spN rfl rfl rfl rfl rfl rfl rfl rfl ?_
 refine sp rfl (PE.pick rfl rfl rfl) rfl ?_
 refine sy_condF rfl ?_
 refine sy_skip ?_
 refine sy_tx' [0, 1] rfl ?_
 refine sp rfl (PE.add rfl rfl (by omega)) rfl ?_
 refine sp rfl (PE.move rfl) rfl ?_
 exact sy_next ⟨k + 1, by omega⟩ (by dsimp only; omega) (by dsimp only; rw [hst]; exact (by repeat' first | exact Sub.nil | apply Sub.cons | rfl | (simp [lk]; omega))) (fun w h => by dsimp only; rw [hst]; exact h)
 try simp only [decide_eq_true_eq, decide_eq_false_iff_not, Bool.and_eq_true, Bool.or_eq_true, Bool.not_eq_true', Int.not_le, Int.not_lt] at hc2
 obtain rfl : k = 4 := by omega
 obtain ⟨e1, e2, e3⟩ := tak_end hm hng
 refine sy_exit ?_
 repeat refine sy_tx ?_
 refine sy_bx ?_
 refine sy_seq ?_
 refine sy_tx' [0, 1, 2, 3, 4, 5] rfl ?_
 refine sy_pull bk ?_
 obtain ⟨l, hl⟩ : ∃ l, l = (takI n m 4).1 := ⟨_, rfl⟩
 rw [← hl]
 rw [← hl] at e1 e2 e3
 refine sp rfl (PE.move rfl) rfl ?_
 refine cl rfl cal64 rfl rfl (c_Below l0 ag cg bk hgl _ _ (by omega) (by assumption) (4) _ _) ?_
 rintro _ _ R1 ⟨x73, m73, hx73, rfl, hm73, rfl, hR1⟩
 obtain rfl := hR1.symm
 refine sp rfl (PE.move rfl) rfl ?_
 refine cl rfl cal64 rfl rfl (c_Below l0 ag cg bk hgl _ _ (by omega) (by assumption) (4) _ _) ?_
 rintro _ _ R1 ⟨x75, m75, hx75, rfl, hm75, rfl, hR1⟩
 obtain rfl := hR1.symm
 refine sp rfl (PE.assign rfl) rfl ?_
 refine sp rfl (PE.assign rfl) rfl ?_
 refine sy_seq ?_
 refine sy_seq ?_
 refine sy_draw [0, 0, 2, 7, 0, 0, 48, 112, 255, 511] (.tk 0 (.tk 1 (.ld 2 (.tk 4 (.tk 5 (.tk 6 (.ld 7 (.big 3 (.tk 8 (.tk 9 .done)))))))))) mixed (by kernel_rfl) ?_
 obtain ⟨a, ha⟩ : ∃ a : Nat, x73 = a := ⟨x73.toNat, by omega⟩
 obtain ⟨b, hb⟩ : ∃ b : Nat, x75 = b := ⟨x75.toNat, by omega⟩
 rw [ha, hb]
 have ha4 : a < 4 := by omega
 have hb4 : b < 4 := by omega
 have hea := e3 a ha4
 have heb := e3 b hb4
 have hga : g0 n m a = n * nn m a / 40 := rfl
 have hgb : g0 n m b = n * nn m b / 40 := rfl
 have hba := mul_bd4 hm hng ha4
 have hbb := mul_bd4 hm hng hb4
 refine tk rfl (PE.move rfl) rfl ?_
 refine tk rfl (PE.fieldAddr fo25_1 rfl) rfl ?_
 refine ld rfl rfl (lh sc3 rfl rfl) rfl ?_
 refine tk rfl (PE.move rfl) rfl ?_
 refine tk rfl (PE.fieldAddr fo82_1 rfl) rfl ?_
 refine tk rfl (PE.indexArr ar29 rfl rfl (by omega) (by omega)) rfl ?_
 refine ld rfl rfl (lh sc3 rfl (hnd_at e1 ha4)) rfl ?_
 refine cl rfl cal64 rfl rfl (c_Below l0 ag cg bk hgl _ _ (by omega) (by assumption) (g.miss) _ _) ?_
 rintro _ _ R1 ⟨x79, m79, hx79, rfl, hm79, rfl, hR1⟩
 obtain rfl := hR1.symm
 refine bg (fun w hs => ⟨(lh sc3 rfl (hnd_at e1 ha4)) w hs, trivial, trivial⟩) ?_
 refine tk rfl (PE.min rfl rfl) rfl ?_
 refine tk rfl (PE.assign rfl) rfl ?_
 refine sy_seq ?_
 refine sy_tx' [0, 1, 2] rfl ?_
 obtain ⟨t, ht⟩ : ∃ t, t = min x79 (nn l a) := ⟨_, rfl⟩
 rw [← ht]
 obtain ⟨k1, k2, k3⟩ := tkM_at e1 ha4 hb4 t
 refine sp rfl (PE.move rfl) rfl ?_
 refine sp rfl (PE.move rfl) rfl ?_
 refine sp rfl (PE.neq rfl rfl) rfl ?_
 refine sy_cond rfl (fun hc4 => ?_) (fun hc4 => ?_)
 have hab : a ≠ b := by intro h; subst h; simp at hc4
 have htk : tkM l a b t = (l.set a (nn l a - t)).set b (nn l b + t) := by unfold tkM; rw [show (a == b) = false by simpa using hab]; rfl
 refine sy_draw [0, 0, 0, 0, 12, 28, 0, 124, 0, 0, 768, 1792, 0, 7936, 0, 20477, 53245, 0, 262143, 524287] (.tk 0 (.tk 1 (.tk 2 (.tk 3 (.tk 4 (.ld 5 (.tk 6 (.tk 7 (.tk 8 (.tk 9 (.tk 10 (.ld 11 (.tk 12 (.tk 13 (.tk 14 (.tk 15 (.tk 17 (.big 16 (.tk 18 (.big 19 .done)))))))))))))))))))) mixed (by kernel_rfl) ?_
 refine tk rfl (PE.move rfl) rfl ?_
 refine tk rfl (PE.move rfl) rfl ?_
 refine tk rfl (PE.move rfl) rfl ?_
 refine tk rfl (PE.fieldAddr fo82_1 rfl) rfl ?_
 refine tk rfl (PE.indexArr ar29 rfl rfl (by omega) (by omega)) rfl ?_
 refine ld rfl rfl (lh sc3 rfl (hnd_at e1 ha4)) rfl ?_
 refine tk rfl (PE.move rfl) rfl ?_
 refine tk rfl (PE.sub rfl rfl (by omega)) rfl ?_
 refine tk rfl (PE.move rfl) rfl ?_
 refine tk rfl (PE.fieldAddr fo82_1 rfl) rfl ?_
 refine tk rfl (PE.indexArr ar29 rfl rfl (by omega) (by omega)) rfl ?_
 refine ld rfl rfl (lh sc3 rfl (hnd_at e1 hb4)) rfl ?_
 refine tk rfl (PE.move rfl) rfl ?_
 refine tk rfl (PE.add rfl rfl (by omega)) rfl ?_
 refine sy_pull b8 ?_
 refine tk rfl (PE.fieldAddr fo82_1 rfl) rfl ?_
 refine tk rfl (PE.indexArr ar29 rfl rfl (by omega) (by omega)) rfl ?_
 refine tk rfl (PE.fieldAddr fo82_1 rfl) rfl ?_
 refine stoE (l' := .int .i64 x26 :: ints ((l).set a (nn l a - t))) rfl rfl rfl cn3 rfl rfl rfl (spl_hnd e1 ha4 _) (by rw [hnd_len e1]; show 0 + 1 + ((a : Nat) : Int).toNat * 1 + 1 ≤ 5; omega) ?_
 refine bg (fun w hs => ⟨trivial, trivial, trivial⟩) ?_
 refine tk rfl (PE.indexArr ar29 rfl rfl (by omega) (by omega)) rfl ?_
 refine stoE (l' := .int .i64 x26 :: ints ((l.set a (nn l a - t)).set b (nn l b + t))) rfl rfl rfl cn3 rfl rfl rfl (spl_hnd (show (l.set a (nn l a - t)).length = 4 by simp [e1]) hb4 _) (by rw [hnd_len (show (l.set a (nn l a - t)).length = 4 by simp [e1])]; show 0 + 1 + ((b : Nat) : Int).toNat * 1 + 1 ≤ 5; omega) ?_
 refine bg (fun w hs => trivial) ?_
 refine sy_seq ?_
 refine sy_tx' [0, 1] rfl ?_
 rw [← htk]
 obtain ⟨x0, x1, x2, x3, hx⟩ := list4 k1
 obtain ⟨hok, hfit⟩ := tak_fit (spot := x26) hm hn (by omega) hmi.1 hn0 ha4 hb4 (t := t) (by rw [← hl]; omega) (by rw [← hl]; exact hx)
 rw [hx]
 refine spL rfl rfl (lhA (hrow ⟨x26, x0, x1, x2, x3⟩) ag82 rfl rfl rfl) rfl ?_
 refine sy_pull b6 ?_
 refine stoA rfl rfl rfl cn82 rfl rfl rfl rfl ?_
 refine sy_ret ?_
 exact sy_return (vs := [_]) rfl (.cons (RV.cell rfl (lhA (hrow ⟨x26, x0, x1, x2, x3⟩) ag82 rfl rfl rfl)) .nil) rfl ⟨⟨x26, x0, x1, x2, x3⟩, tq2 + 1 + 1 + 1 + 1, m79, hok, hfit, rfl, by omega, by assumption, rfl, rfl⟩ (fun w h => St.sub ((((h.del b6).del b8).del b5).del b4))
 have hab : a = b := by simp at hc4; omega
 have htk : tkM l a b t = l := by unfold tkM; rw [show (a == b) = true by simpa using hab]; rfl
 refine sy_skip ?_
 refine sy_seq ?_
 refine sy_tx' [0, 1] rfl ?_
 rw [← htk]
 obtain ⟨x0, x1, x2, x3, hx⟩ := list4 k1
 obtain ⟨hok, hfit⟩ := tak_fit (spot := x26) hm hn (by omega) hmi.1 hn0 ha4 hb4 (t := t) (by rw [← hl]; omega) (by rw [← hl]; exact hx)
 rw [hx]
 refine spL rfl rfl (lhA (hrow ⟨x26, x0, x1, x2, x3⟩) ag82 rfl rfl rfl) rfl ?_
 refine sy_pull b6 ?_
 refine stoA rfl rfl rfl cn82 rfl rfl rfl rfl ?_
 refine sy_ret ?_
 exact sy_return (vs := [_]) rfl (.cons (RV.cell rfl (lhA (hrow ⟨x26, x0, x1, x2, x3⟩) ag82 rfl rfl rfl)) .nil) rfl ⟨⟨x26, x0, x1, x2, x3⟩, tq2 + 1 + 1 + 1 + 1, m79, hok, hfit, rfl, by omega, by assumption, rfl, rfl⟩ (fun w h => St.sub ((((h.del b6).del b8).del b5).del b4))
end Go.Proofs.Ytknoaljnelfklaa
namespace Go.Proofs.Ytknoaljnelfklaa
set_option linter.unusedSimpArgs false
set_option linter.unusedVariables false
open Go
theorem ap23 : apT Try.prog 23 = some (45, 5, 40) := by kernel_rfl
theorem cal52 : cal Try.prog 52 = true := by kernel_rfl
theorem cal63 : cal Try.prog 63 = true := by kernel_rfl
theorem OSl.freezeC {e sz : Nat} {rows : List (List Value)} (o : OSl e sz rows) : ∃ a c, o.fs = .slice a rows.length c ∧ rows.length ≤ c ∧ ∀ {H : Heap} {R : Facts} {w : World}, St (o.G ++ H) R w → St H (RowsA a sz rows :: R) w := by
  obtain ⟨fs, G, hl, his⟩ := o
  rcases his with ⟨rfl, rfl, rfl⟩ | ⟨b, cap, junk, rfl, rfl, _, hc, _⟩
  · exact ⟨none, 0, rfl, Nat.le_refl _, fun {H R w} h => (St.also (H := H) (R := R) h (f := RowsA none sz []) (fun w' _ => fun i row hi => by simp at hi))⟩
  · exact ⟨_, cap, rfl, hc, fun {H R w} h => St.rows (rest := junk) h hl⟩
theorem grBad_snoc {l : List Grd} {x : Grd} (h : ∀ i, grBad l i = false) (hx : ∀ q ∈ l, x.price ≤ q.price) : ∀ i, grBad (l ++ [x]) i = false := fun i => by
  rcases Nat.lt_trichotomy (i + 1) l.length with h1 | h1 | h1
  · have := h i
    unfold grBad at this ⊢
    rw [List.getElem?_append_left (by omega), List.getElem?_append_left (by omega)]; exact this
  · obtain ⟨q, hq⟩ : ∃ q, l[i]? = some q := ⟨_, List.getElem?_eq_getElem (by omega)⟩
    have h2 := hx q (List.mem_of_getElem? hq)
    unfold grBad
    rw [List.getElem?_append_left (by omega), hq, List.getElem?_append_right (by omega), show i + 1 - l.length = 0 from by omega]
    simp only [List.getElem?_cons_zero]
    rw [decide_eq_false (by omega)]
  · unfold grBad
    rw [List.getElem?_eq_none (l := l ++ [x]) (i := i + 1) (by simp; omega)]
    split <;> simp_all
structure GrI (l : List Grd) (k : Nat) (pr : Int) : Prop where
  len : l.length = k
  bd : 0 ≤ pr ∧ pr ≤ 100
  q : ∀ q ∈ l, (pr ≤ q.price ∧ q.price ≤ 100) ∧ ∀ k < 4, 0 ≤ nn q.ns k ∧ nn q.ns k ≤ 40
  bad : ∀ i, grBad l i = false
theorem GrI.more {l : List Grd} {k : Nat} {pr a b c d x : Int} (h : GrI l k pr) (ha : 0 ≤ a ∧ a ≤ 40) (hb : 0 ≤ b ∧ b ≤ 40) (hc : 0 ≤ c ∧ c ≤ 40) (hd : 0 ≤ d ∧ d ≤ 40) (hx : 0 ≤ x ∧ x ≤ pr) : GrI (l ++ [⟨a, b, c, d, pr⟩]) (k + 1) (pr - x) := by
  have hp := h.bd
  refine ⟨by simp [h.len], by omega, fun q hq => ?_, grBad_snoc h.bad (fun q hq => (h.q q hq).1.1)⟩
  rcases List.mem_append.1 hq with hq | hq
  · have := h.q q hq; exact ⟨by omega, this.2⟩
  · simp only [List.mem_singleton] at hq; subst hq; exact ⟨by simp only; omega, of4 ⟨ha, hb, hc, hd⟩⟩
structure MdOk (ng nh : Int) (g : Gat) (c : Crt) (m : Mix) : Prop where
  gok : g.ok
  cok : c.ok
  mix : Mxt m
  err : g.err ≤ 8
  miss : g.miss ≤ 6
  fit : ∀ h ∈ c.hs, fitB g.miss h m = true
  many : g.grs.length ≤ ng
  more : c.hs.length ≤ nh
  net : 0 ≤ c.full - c.empty ∧ c.full - c.empty < 2000
theorem c_MadeO (l0 : List Int) (a0 : Option Addr) (c0 bk : Nat) (hgl : l0.length ≤ 9223372036854775807) (tq mx : Int) (htq : 0 ≤ tq ∧ tq ≤ 1000) (hmx : 0 ≤ mx ∧ mx ≤ 4294967295) (ng nh : Int) (hng : 0 ≤ ng ∧ ng ≤ 4) (hnh : 0 ≤ nh ∧ nh ≤ 6) (H : Heap) (R : Facts) [hG : MemRows a0 1 (urows l0) R] :
    Fn Try.prog 13 [.pointer (some ⟨bk, 0, none⟩), .int .i64 ng, .int .i64 nh] ((bk, cel 125 [.slice a0 l0.length c0, .int .i64 (tq), .int .u32 (mx)]) :: H) R (fun v H' R' => ∃ (g : Gat) (c : Crt) (m : Mix) (ag : Option Addr) (cg : Nat) (tq' mx' : Int) (o : OSl 82 5 (hrows c.hs)), MdOk ng nh g c m ∧ g.grs.length ≤ cg ∧ v = .tuple #[g.v (g.sl ag cg), c.v o.fs, .agg (ints m).toArray] ∧ (tq ≤ tq' ∧ tq' ≤ tq + 200) ∧ (0 ≤ mx' ∧ mx' ≤ 4294967295) ∧ H' = (bk, cel 125 [.slice a0 l0.length c0, .int .i64 (tq'), .int .u32 (mx')]) :: (o.G ++ H) ∧ R' = RowsA ag 5 (grows g.grs) :: R) := by
 refine fn_of Try.func13 rfl Try.ntmps13 rfl ?_
 refine sy_seq ?_
 refine sy_tx' [0, 1, 2] rfl ?_
 refine alc rfl zl25 rfl (fun b6 => ?_)
 refine alc rfl zl28 rfl (fun b7 => ?_)
 refine alc rfl zl29 rfl (fun b8 => ?_)
 refine sy_seq ?_
 refine sy_tx' [0, 1, 2, 3, 4, 5, 6] rfl ?_
 refine sy_pull bk ?_
 refine sp rfl (PE.move rfl) rfl ?_
 refine cl rfl cal64 rfl rfl (c_Below l0 a0 c0 bk hgl _ _ (by omega) (by assumption) (9) _ _) ?_
 rintro _ _ R1 ⟨x15, m15, hx15, rfl, hm15, rfl, hR1⟩
 obtain rfl := hR1.symm
 refine sp rfl (PE.move rfl) rfl ?_
 refine cl rfl cal64 rfl rfl (c_Below l0 a0 c0 bk hgl _ _ (by omega) (by assumption) (7) _ _) ?_
 rintro _ _ R1 ⟨x17, m17, hx17, rfl, hm17, rfl, hR1⟩
 obtain rfl := hR1.symm
 refine sp rfl (PE.build (out := gtl ⟨x15, x17, []⟩ (.slice none 0 0)) pl25 zl25 rfl rfl) rfl ?_
 refine alc rfl zl25 rfl (fun b9 => ?_)
 refine sto rfl rfl rfl cn25 rfl rfl rfl rfl ?_
 refine sy_seq ?_
 refine sy_tx' [0, 1, 2] rfl ?_
 refine sy_pull bk ?_
 refine sp rfl (PE.move rfl) rfl ?_
 refine cl rfl cal70 rfl rfl (c_Among l0 a0 c0 bk hgl _ _ (by omega) (by assumption) (1) (100) (by first | omega | (dsimp only; omega)) _ _) ?_
 rintro _ _ R1 ⟨x20, m20, hx20, rfl, hm20, rfl, hR1⟩
 obtain rfl := hR1.symm
 refine sp rfl (PE.assign rfl) rfl ?_
 refine sy_seq ?_
 refine sy_seq ?_
 refine sy_tx' [0, 1, 2, 3, 4] rfl ?_
 refine sp rfl (PE.move rfl) rfl ?_
 refine sp rfl (PE.move rfl) rfl ?_
 refine sp rfl (PE.add rfl rfl (by omega)) rfl ?_
 refine cl rfl cal64 rfl rfl (c_Below l0 a0 c0 bk hgl _ _ (by omega) (by assumption) (ng + 1) _ _) ?_
 rintro _ _ R1 ⟨x24, m24, hx24, rfl, hm24, rfl, hR1⟩
 obtain rfl := hR1.symm
 refine sp rfl (PE.move rfl) rfl ?_
 refine sy_block ?_
 obtain ⟨n24, rfl⟩ : ∃ n : Nat, x24 = n := ⟨x24.toNat, by omega⟩
 refine sy_loop (ι := (x : {x : Nat × Int × List Grd × Int × Int // x.1 ≤ n24 ∧ GrI x.2.2.1 x.1 x.2.1 ∧ (tq ≤ x.2.2.2.1 ∧ x.2.2.2.1 ≤ tq + 10 + 5 * x.1) ∧ (0 ≤ x.2.2.2.2 ∧ x.2.2.2.2 ≤ 4294967295)}) × OSl 45 5 (grows x.1.2.2.1)) (fun x => ⟨[(0, .pointer (some ⟨bk, 0, none⟩)), (6, .pointer (some ⟨b6, 0, none⟩)), (7, .pointer (some ⟨b7, 0, none⟩)), (8, .pointer (some ⟨b8, 0, none⟩)), (9, .pointer (some ⟨b9, 0, none⟩)), (2, .int .i64 nh), (10, .int .i64 x.1.1.2.1), (24, .int .i64 n24), (25, .int .i64 x.1.1.1)],
   (bk, cel 125 [.slice a0 l0.length c0, .int .i64 (x.1.1.2.2.2.1), .int .u32 (x.1.1.2.2.2.2)]) :: (x.2.G ++ (b9, cel 25 (gtl ⟨x15, x17, x.1.1.2.2.1⟩ x.2.fs)) :: (b8, cel 29 (ints [0, 0, 0, 0])) :: (b7, cel 28 [.int .i64 0, .int .i64 0, .slice none 0 0]) :: (b6, cel 25 [.int .i64 0, .int .i64 0, .slice none 0 0]) :: H), R⟩) (fun x => n24 - x.1.1.1) ⟨⟨(0, x20, [], tq + 1 + 1 + 1 + 1, m24), by omega, ⟨rfl, by dsimp only; omega, by simp, fun i => by simp [grBad]⟩, by dsimp only; omega, by assumption⟩, OSl.nil _ _⟩ ?_ (fun x => ?_)
 exact sy_at (by repeat' first | exact Sub.nil | apply Sub.cons | rfl | (simp [lk]; omega)) (fun _ h => h)
 obtain ⟨⟨⟨k, pr, l, tq2, mx2⟩, hk, hri, htq2, hmx2⟩, o'⟩ := x
 dsimp only at hk hri htq2 hmx2 o' ⊢
 have h2 := hri.bd
 have h3 := hri.len
 refine sy_seq ?_
 refine sy_tx' [0] rfl ?_
 refine sp rfl (PE.lss rfl rfl) rfl ?_
 refine sy_seq ?_
 refine sy_cond rfl (fun hc0 => ?_) (fun hc0 => ?_)
 try simp only [decide_eq_true_eq, decide_eq_false_iff_not, Bool.and_eq_true, Bool.or_eq_true, Bool.not_eq_true', Int.not_le, Int.not_lt] at hc0
 refine sy_skip ?_
 refine sy_seq ?_
 refine sy_block ?_
 refine sy_seq ?_
 refine sy_draw [0, 1, 0, 4, 0, 28, 0, 124, 0, 508, 0, 2044, 4092, 8191, 16383, 32767] (.tk 0 (.ld 1 (.tk 2 (.tk 4 (.tk 6 (.tk 8 (.tk 10 (.big 3 (.big 5 (.big 7 (.big 9 (.tk 11 (.big 12 (.big 13 (.tk 14 (.big 15 .done)))))))))))))))) mixed (by kernel_rfl) ?_
 refine tk rfl (PE.fieldAddr fo25_2 rfl) rfl ?_
 refine ld rfl rfl (lh sc23 rfl rfl) rfl ?_
 refine tk rfl (PE.move rfl) rfl ?_
 refine tk rfl (PE.move rfl) rfl ?_
 refine tk rfl (PE.move rfl) rfl ?_
 refine tk rfl (PE.move rfl) rfl ?_
 refine tk rfl (PE.move rfl) rfl ?_
 refine cl rfl cal70 rfl rfl (c_Among l0 a0 c0 bk hgl _ _ (by omega) (by assumption) (10) (38) (by first | omega | (dsimp only; omega)) _ _) ?_
 rintro _ _ R1 ⟨x30, m30, hx30, rfl, hm30, rfl, hR1⟩
 obtain rfl := hR1.symm
 refine bg (fun w hs => ⟨(lh sc23 rfl rfl) w hs, trivial⟩) ?_
 refine cl rfl cal70 rfl rfl (c_Among l0 a0 c0 bk hgl _ _ (by omega) (by assumption) (1) (14) (by first | omega | (dsimp only; omega)) _ _) ?_
 rintro _ _ R1 ⟨x32, m32, hx32, rfl, hm32, rfl, hR1⟩
 obtain rfl := hR1.symm
 refine bg (fun w hs => ⟨(lh sc23 rfl rfl) w hs, trivial⟩) ?_
 refine cl rfl cal64 rfl rfl (c_Below l0 a0 c0 bk hgl _ _ (by omega) (by assumption) (9) _ _) ?_
 rintro _ _ R1 ⟨x34, m34, hx34, rfl, hm34, rfl, hR1⟩
 obtain rfl := hR1.symm
 refine bg (fun w hs => ⟨(lh sc23 rfl rfl) w hs, trivial⟩) ?_
 refine cl rfl cal70 rfl rfl (c_Among l0 a0 c0 bk hgl _ _ (by omega) (by assumption) (1) (14) (by first | omega | (dsimp only; omega)) _ _) ?_
 rintro _ _ R1 ⟨x36, m36, hx36, rfl, hm36, rfl, hR1⟩
 obtain rfl := hR1.symm
 refine bg (fun w hs => ⟨(lh sc23 rfl rfl) w hs, trivial⟩) ?_
 refine tk rfl (PE.build (out := grow ⟨x30, x32, x34, x36, pr⟩) pl45 zl45 rfl rfl) rfl ?_
 refine bsl (out := [_, _, _, _, _]) rfl sl23 zl45 rfl rfl rfl rfl rfl rfl (fun b39 => ?_)
 refine bg (fun w hs => ⟨(lh sc23 rfl rfl) w hs, trivial⟩) ?_
 refine apO (o') rfl ap23 rfl rfl (rowsH (row := grow ⟨x30, x32, x34, x36, pr⟩) rfl) rfl rfl ((by simp only [grows, List.length_map, List.length_singleton]; omega)) rfl (fun o40 => ?_)
 refine bg (fun w hs => ⟨trivial, trivial⟩) ?_
 refine tk rfl (PE.fieldAddr fo25_2 rfl) rfl ?_
 refine stoE (l' := gtl ⟨x15, x17, l ++ [⟨x30, x32, x34, x36, pr⟩]⟩ o40.fs) rfl rfl rfl cn23 rfl (by rw [o40.cells.1]; first | done | rfl) (by rw [o40.cells.1]; simp [o40.cells.2]) (by rw [o40.cells.1]; first | done | rfl) (by rw [o40.cells.1]; first | done | exact Nat.le_refl _) ?_
 refine bg (fun w hs => trivial) ?_
 refine sy_tx' [0, 1, 2, 3, 4, 5, 6] rfl ?_
 refine sy_pull bk ?_
 refine sp rfl (PE.move rfl) rfl ?_
 refine sp rfl (PE.move rfl) rfl ?_
 refine sp rfl (PE.move rfl) rfl ?_
 refine sp rfl (PE.add rfl rfl (by omega)) rfl ?_
 refine cl rfl cal64 rfl rfl (c_Below l0 a0 c0 bk hgl _ _ (by omega) (by assumption) (pr + 1) _ _) ?_
 rintro _ _ R1 ⟨x46, m46, hx46, rfl, hm46, rfl, hR1⟩
 obtain rfl := hR1.symm
 refine sp rfl (PE.sub rfl rfl (by omega)) rfl ?_
 refine sp rfl (PE.assign rfl) rfl ?_
 refine sy_tx' [0, 1] rfl ?_
 refine sp rfl (PE.add rfl rfl (by omega)) rfl ?_
 refine sp rfl (PE.move rfl) rfl ?_
 exact sy_next ⟨⟨(k + 1, pr - x46, l ++ [⟨x30, x32, x34, x36, pr⟩], tq2 + 1 + 1 + 1 + 1 + 1, m46), by omega, hri.more (x := x46) (by omega) (by omega) (by omega) (by omega) (by omega), by dsimp only; omega, by assumption⟩, o40.cast (by simp [grows])⟩ (by dsimp only; omega) (by repeat' first | exact Sub.nil | apply Sub.cons | rfl | (simp [lk]; omega)) (fun w h => (h.del b39).perm (by first | exact .refl _ | exact List.Perm.cons _ (.refl _)))
 try simp only [decide_eq_true_eq, decide_eq_false_iff_not, Bool.and_eq_true, Bool.or_eq_true, Bool.not_eq_true', Int.not_le, Int.not_lt] at hc0
 obtain rfl : k = n24 := by omega
 obtain ⟨ag, cg, he, hcg, hf⟩ := o'.freezeC
 rw [he]
 refine sy_pull bk ?_
 refine Sy.heap (H' := _) (fun w h => hf (h.perm (List.perm_middle (l₁ := o'.G) (a := _)).symm)) ?_
 rw [show (grows l).length = l.length from List.length_map _]
 rw [show (grows l).length = l.length from List.length_map _] at hcg
 have hgo : Gat.ok ⟨x15, x17, l⟩ := ⟨by simp only; omega, by simp only; omega, by simp only; omega, fun q hq => by have := hri.q q hq; exact ⟨by omega, this.2⟩, hri.bad⟩
 clear he hf
 refine sy_exit ?_
 repeat refine sy_tx ?_
 refine sy_bx ?_
 refine sy_seq ?_
 refine sy_tx' [0, 1, 2, 3] rfl ?_
 refine sp rfl (PE.move rfl) rfl ?_
 refine cl rfl cal63 rfl rfl (c_Mixed l0 a0 c0 bk hgl _ _ (by omega) (by assumption) _ _) ?_
 rintro _ _ R1 ⟨q, tq5, mx5, hq, rfl, htq5, hmx5, rfl, hR1⟩
 obtain rfl := hR1.symm
 refine alc rfl zl29 rfl (fun b11 => ?_)
 refine stoA rfl rfl rfl cn29 rfl (by rw [ints_length]; exact hq.len) rfl (ints_one _) ?_
 refine sy_seq ?_
 refine sy_tx' [0, 1, 2] rfl ?_
 refine sy_pull bk ?_
 refine sp rfl (PE.move rfl) rfl ?_
 refine cl rfl cal64 rfl rfl (c_Below l0 a0 c0 bk hgl _ _ (by omega) (by assumption) (900) _ _) ?_
 rintro _ _ R1 ⟨x52, m52, hx52, rfl, hm52, rfl, hR1⟩
 obtain rfl := hR1.symm
 refine sp rfl (PE.assign rfl) rfl ?_
 refine sy_seq ?_
 refine sy_tx' [0, 1, 2, 3, 4, 5, 6, 7] rfl ?_
 refine sp rfl (PE.move rfl) rfl ?_
 refine sp rfl (PE.move rfl) rfl ?_
 refine cl rfl cal64 rfl rfl (c_Below l0 a0 c0 bk hgl _ _ (by omega) (by assumption) (2000) _ _) ?_
 rintro _ _ R1 ⟨x55, m55, hx55, rfl, hm55, rfl, hR1⟩
 obtain rfl := hR1.symm
 refine sp rfl (PE.add rfl rfl (by omega)) rfl ?_
 refine sp rfl (PE.move rfl) rfl ?_
 refine sp rfl (PE.build (out := ctl ⟨x52 + x55, x52, []⟩ (.slice none 0 0)) pl28 zl28 rfl rfl) rfl ?_
 refine alc rfl zl28 rfl (fun b13 => ?_)
 refine sto rfl rfl rfl cn28 rfl rfl rfl rfl ?_
 refine sy_seq ?_
 refine sy_seq ?_
 refine sy_tx' [0, 1, 2, 3, 4] rfl ?_
 refine sy_pull bk ?_
 refine sp rfl (PE.move rfl) rfl ?_
 refine sp rfl (PE.move rfl) rfl ?_
 refine sp rfl (PE.add rfl rfl (by omega)) rfl ?_
 refine cl rfl cal64 rfl rfl (c_Below l0 a0 c0 bk hgl _ _ (by omega) (by assumption) (nh + 1) _ _) ?_
 rintro _ _ R1 ⟨x62, m62, hx62, rfl, hm62, rfl, hR1⟩
 obtain rfl := hR1.symm
 refine sp rfl (PE.move rfl) rfl ?_
 refine sy_block ?_
 obtain ⟨n62, rfl⟩ : ∃ n : Nat, x62 = n := ⟨x62.toNat, by omega⟩
 refine sy_loop (ι := (x : {x : Nat × List Hnd × Int × Int // x.1 ≤ n62 ∧ (x.2.1.length = x.1 ∧ ∀ h ∈ x.2.1, h.ok ∧ fitB x17 h q = true) ∧ (tq ≤ x.2.2.1 ∧ x.2.2.1 ≤ tq + 60 + 20 * x.1) ∧ (0 ≤ x.2.2.2 ∧ x.2.2.2 ≤ 4294967295)}) × OSl 82 5 (hrows x.1.2.1)) (fun x => ⟨[(0, .pointer (some ⟨bk, 0, none⟩)), (6, .pointer (some ⟨b6, 0, none⟩)), (7, .pointer (some ⟨b7, 0, none⟩)), (8, .pointer (some ⟨b8, 0, none⟩)), (9, .pointer (some ⟨b9, 0, none⟩)), (11, .pointer (some ⟨b11, 0, none⟩)), (13, .pointer (some ⟨b13, 0, none⟩)), (62, .int .i64 n62), (63, .int .i64 x.1.1.1)],
   (bk, cel 125 [.slice a0 l0.length c0, .int .i64 (x.1.1.2.2.1), .int .u32 (x.1.1.2.2.2)]) :: (x.2.G ++ (b13, cel 28 (ctl ⟨x52 + x55, x52, x.1.1.2.1⟩ x.2.fs)) :: (b11, cel 29 (ints q)) :: (b9, cel 25 (gtl ⟨x15, x17, l⟩ (.slice ag l.length cg))) :: (b8, cel 29 (ints [0, 0, 0, 0])) :: (b7, cel 28 [.int .i64 0, .int .i64 0, .slice none 0 0]) :: (b6, cel 25 [.int .i64 0, .int .i64 0, .slice none 0 0]) :: H), RowsA ag 5 (grows l) :: R⟩) (fun x => n62 - x.1.1.1) ⟨⟨(0, [], tq5 + 1 + 1 + 1, m62), by omega, ⟨rfl, by simp⟩, by dsimp only; omega, by assumption⟩, OSl.nil _ _⟩ ?_ (fun x => ?_)
 exact sy_at (by repeat' first | exact Sub.nil | apply Sub.cons | rfl | (simp [lk]; omega)) (fun _ h => h)
 obtain ⟨⟨⟨k, hds, tq3, mx3⟩, hk1, ⟨hkl, hkh⟩, htq3, hmx3⟩, o'⟩ := x
 dsimp only at hk1 hkl hkh htq3 hmx3 o' ⊢
 refine sy_seq ?_
 refine sy_tx' [0] rfl ?_
 refine sp rfl (PE.lss rfl rfl) rfl ?_
 refine sy_seq ?_
 refine sy_cond rfl (fun hc1 => ?_) (fun hc1 => ?_)
 try simp only [decide_eq_true_eq, decide_eq_false_iff_not, Bool.and_eq_true, Bool.or_eq_true, Bool.not_eq_true', Int.not_le, Int.not_lt] at hc1
 refine sy_skip ?_
 refine sy_seq ?_
 refine sy_block ?_
 refine sy_draw [0, 1, 0, 0, 0, 28, 60, 127, 255, 511] (.tk 0 (.ld 1 (.tk 2 (.ld 3 (.ld 4 (.big 5 (.big 6 (.big 7 (.tk 8 (.big 9 .done)))))))))) mixed (by kernel_rfl) ?_
 refine tk rfl (PE.fieldAddr fo28_2 rfl) rfl ?_
 refine ld rfl rfl (lh sc26 rfl rfl) rfl ?_
 refine tk rfl (PE.move rfl) rfl ?_
 refine ld rfl rfl (lhA (gtl ⟨x15, x17, l⟩ (.slice ag l.length cg)) ag25 rfl rfl rfl) rfl ?_
 refine ld rfl rfl (lhA (ints (q)) ag29 rfl (rest := []) (by rw [List.append_nil]; rfl) (by rw [ints_length]; exact hq.len)) rfl ?_
 refine cl rfl cal52 rfl rfl (c_Taken l0 a0 c0 bk hgl _ _ (by omega) (by assumption) ⟨x15, x17, l⟩ (by dsimp only; omega) (.slice ag l.length cg) q hq _ _) ?_
 rintro _ _ R1 ⟨h, tq4, mx4, hho, hhf, rfl, htq4, hmx4, rfl, hR1⟩
 obtain rfl := hR1.symm
 refine bg (fun w hs => ⟨trivial, trivial, (lh sc26 rfl rfl) w hs, trivial⟩) ?_
 refine bsl (out := [_, _, _, _, _]) rfl sl26 zl82 rfl rfl rfl rfl rfl rfl (fun b71 => ?_)
 refine bg (fun w hs => ⟨(lh sc26 rfl rfl) w hs, trivial⟩) ?_
 refine apO (o') rfl ap26 rfl rfl (rowsH (row := hrow h) rfl) rfl rfl ((by simp only [hrows, List.length_map, List.length_singleton]; omega)) rfl (fun o72 => ?_)
 refine bg (fun w hs => ⟨trivial, trivial⟩) ?_
 refine tk rfl (PE.fieldAddr fo28_2 rfl) rfl ?_
 refine stoE (l' := ctl ⟨x52 + x55, x52, hds ++ [h]⟩ o72.fs) rfl rfl rfl cn26 rfl (by rw [o72.cells.1]; first | done | rfl) (by rw [o72.cells.1]; simp [o72.cells.2]) (by rw [o72.cells.1]; first | done | rfl) (by rw [o72.cells.1]; first | done | exact Nat.le_refl _) ?_
 refine bg (fun w hs => trivial) ?_
 refine sy_tx' [0, 1] rfl ?_
 refine sy_pull bk ?_
 refine sp rfl (PE.add rfl rfl (by omega)) rfl ?_
 refine sp rfl (PE.move rfl) rfl ?_
 exact sy_next ⟨⟨(k + 1, hds ++ [h], tq4, mx4), by omega, ⟨by simp [hkl], fun x hx => by rcases List.mem_append.1 hx with hx | hx; exact hkh x hx; obtain rfl := List.mem_singleton.1 hx; exact ⟨hho, hhf⟩⟩, by dsimp only; omega, by assumption⟩, o72.cast (by simp [hrows])⟩ (by dsimp only; omega) (by repeat' first | exact Sub.nil | apply Sub.cons | rfl | (simp [lk]; omega)) (fun w h => (h.del b71).perm (by first | exact .refl _ | exact List.Perm.cons _ (.refl _)))
 try simp only [decide_eq_true_eq, decide_eq_false_iff_not, Bool.and_eq_true, Bool.or_eq_true, Bool.not_eq_true', Int.not_le, Int.not_lt] at hc1
 obtain rfl : k = n62 := by omega
 refine sy_pull bk ?_
 refine sy_exit ?_
 repeat refine sy_tx ?_
 refine sy_bx ?_
 refine sy_seq ?_
 refine sy_draw [0, 0, 0, 1, 11, 31] (.ld 0 (.ld 1 (.ld 2 (.big 3 (.big 4 (.big 5 .done)))))) mixed (by kernel_rfl) ?_
 refine ld rfl rfl (lhA (gtl ⟨x15, x17, l⟩ (.slice ag l.length cg)) ag25 rfl rfl rfl) rfl ?_
 refine ld rfl rfl (lhA (ctl ⟨x52 + x55, x52, hds⟩ o'.fs) ag28 rfl rfl rfl) rfl ?_
 refine ld rfl rfl (lhA (ints (q)) ag29 rfl (rest := []) (by rw [List.append_nil]; rfl) (by rw [ints_length]; exact hq.len)) rfl ?_
 refine sto rfl rfl rfl cn25 rfl rfl rfl rfl ?_
 refine bg (fun w hs => ⟨(lhA (ints (q)) ag29 rfl (rest := []) (by rw [List.append_nil]; rfl) (by rw [ints_length]; exact hq.len)) w hs, (lhA (ctl ⟨x52 + x55, x52, hds⟩ o'.fs) ag28 rfl rfl rfl) w hs, trivial, trivial⟩) ?_
 refine stoE (l' := ctl ⟨x52 + x55, x52, hds⟩ o'.fs) rfl rfl rfl cn28 rfl rfl (by show (ctl _ o'.fs).all (·.oneCell') = true; simp only [ctl, List.all_cons, List.all_nil, o'.cells.2, Bool.and_true]; rfl) rfl (Nat.le_refl _) ?_
 refine bg (fun w hs => ⟨(lhA (ints (q)) ag29 rfl (rest := []) (by rw [List.append_nil]; rfl) (by rw [ints_length]; exact hq.len)) w hs, trivial, trivial⟩) ?_
 refine stoA rfl rfl rfl cn29 rfl (by rw [ints_length]; exact hq.len) rfl (ints_one _) ?_
 refine bg (fun w hs => ⟨trivial, trivial⟩) ?_
 refine sy_ret ?_
 have hco : Crt.ok ⟨x52 + x55, x52, hds⟩ := ⟨by simp only; omega, by simp only; omega, by simp only; omega, fun h hh => (hkh h hh).1⟩
 exact sy_return (vs := [_, _, _]) rfl (.cons (RV.cell rfl (lhA [_, _, _] ag25 rfl rfl rfl)) (.cons (RV.cell rfl (lhA [_, _, _] ag28 rfl rfl rfl)) (.cons (RV.cell rfl (lhA (ints (q)) ag29 rfl (rest := []) (by rw [List.append_nil]; rfl) (by rw [ints_length]; exact hq.len))) .nil))) rfl ⟨⟨x15, x17, l⟩, ⟨x52 + x55, x52, hds⟩, q, ag, cg, tq3, mx3, o', ⟨hgo, hco, hq, by simp only; omega, by simp only; omega, fun h hh => (hkh h hh).2, by simp only; omega, by simp only; omega, by simp only; omega⟩, hcg, rfl, by omega, by assumption, rfl, rfl⟩ (fun w h => St.sub ((((((h.del b13).del b11).del b9).del b8).del b7).del b6))
theorem Fn.post {P : Program} {f : FuncId} {args : List Value} {H : Heap} {R : Facts} {Q Q' : Value → Heap → Facts → Prop} (h : Fn P f args H R Q) (hq : ∀ v H1 R1, Q v H1 R1 → ∃ H2 R2, Q' v H2 R2 ∧ ∀ w, St H1 R1 w → St H2 R2 w) : Fn P f args H R Q' :=
  fun w hs => CallsIn.mono (h w hs) fun e w' ⟨v, H1, R1, q, he, hs'⟩ => by obtain ⟨H2, R2, q2, hst⟩ := hq _ _ _ q; exact ⟨v, H2, R2, q2, he, hst _ hs'⟩
end Go.Proofs.Ytknoaljnelfklaa
namespace Go.Proofs.Ytknoaljnelfklaa
set_option linter.unusedSimpArgs false
set_option linter.unusedVariables false
open Go
theorem cal13 : cal Try.prog 13 = true := by kernel_rfl
theorem cal14 : cal Try.prog 14 = true := by kernel_rfl
theorem cal22 : cal Try.prog 22 = true := by kernel_rfl
end Go.Proofs.Ytknoaljnelfklaa
namespace Go.Proofs.Ytknoaljnelfklaa
set_option linter.unusedSimpArgs false
set_option linter.unusedVariables false
open Go
theorem mx_less {b b' : Box} (hb : Tight b') (h : ∀ m, Mx b' m → Mx b m) {k : Nat} (hk : k < 4) : bl b k ≤ bl b' k ∧ bh b' k ≤ bh b k := by
  have hf := hb.fit k hk
  obtain ⟨m1, h1, e1⟩ := hb.had hk (v := bl b' k) ⟨Int.le_refl _, hf.1⟩
  obtain ⟨m2, h2, e2⟩ := hb.had hk (v := bh b' k) ⟨hf.1, Int.le_refl _⟩
  have h3 := (h m1 h1).at_ k hk
  have h4 := (h m2 h2).at_ k hk
  omega
end Go.Proofs.Ytknoaljnelfklaa
namespace Go.Proofs.Ytknoaljnelfklaa
set_option linter.unusedSimpArgs false
set_option linter.unusedVariables false
open Go
theorem bx_lo {b : Box} (hb : b.length = 8) {k : Nat} (hk : k < 4) : (ints b)[0 + ((k : Nat) : Int).toNat * 2 + 0]? = some (.int .i64 (bl b k)) := by
  obtain ⟨a0, a1, a2, a3, a4, a5, a6, a7, rfl⟩ := list8 hb
  rcases lt4 hk with rfl | rfl | rfl | rfl <;> rfl
theorem bx_hi {b : Box} (hb : b.length = 8) {k : Nat} (hk : k < 4) : (ints b)[0 + ((k : Nat) : Int).toNat * 2 + 1]? = some (.int .i64 (bh b k)) := by
  obtain ⟨a0, a1, a2, a3, a4, a5, a6, a7, rfl⟩ := list8 hb
  rcases lt4 hk with rfl | rfl | rfl | rfl <;> rfl
end Go.Proofs.Ytknoaljnelfklaa
namespace Go.Proofs.Ytknoaljnelfklaa
set_option linter.unusedSimpArgs false
set_option linter.unusedVariables false
open Go
def isStr (P : Program) (T : Nat) : Bool := match P.underlying T with | some .string => true | _ => false
def U8 (v : Value) : Prop := ∃ x : Int, v = .int .u8 x ∧ 0 ≤ x ∧ x ≤ 255
theorem wrap_u8_id {n : Int} (h0 : 0 ≤ n) (h1 : n ≤ 255) : IntKind.u8.wrap n = n := by
  have e : IntKind.u8.wrap n = n % 256 := rfl
  rw [e]; omega
theorem wrap_u64_id {n : Int} (h0 : 0 ≤ n) (h1 : n ≤ 18446744073709551615) : IntKind.u64.wrap n = n := by
  have e : IntKind.u64.wrap n = n % 18446744073709551616 := rfl
  rw [e]; omega
section pe
variable {P : Program} {L : Slots} {d : Option Tmp} {ty : TypeId} {pos : String} {af : Array Edge} {g : Option (Nat × Bool)}
theorem PE.indexS {T : TypeId} {x y : Operand} {k : IntKind} {s : ByteArray} {i m : Nat} (hT : isStr P T = true) (hx : ev L x = some (.string s)) (hy : ev L y = some (.int k i)) (hz : s.size = m) (hi : i < m) :
    ∃ v, PE P L ⟨d, .index T x y, ty, pos, af, g⟩ v ∧ U8 v := by
  have hu : P.underlying T = some .string := by
    unfold isStr at hT
    split at hT
    · assumption
    · cases hT
  refine ⟨.int .u8 (s[i]'(by omega)).toNat, fun ρ hρ w => ?_, _, rfl, by omega, ?_⟩
  · have e1 : s[i]? = some (s[i]'(by omega)) := getElem?_pos s i (by omega)
    simp only [execOp, hρ _ _ hx, hρ _ _ hy, Instr.index, asIntOf, Sem.run_bind, Sem.run_pure, run_underlying hu, Result.andThen]
    rw [if_pos (by omega), Int.toNat_natCast, e1]
    rfl
  · have := UInt8.toNat_lt (s[i]'(by omega)); omega
end pe
theorem run_storeA {P : Program} {b e od : Nat} {l vs : List Value} (h1 : vs.all (·.oneCell') = true) (hb : od + vs.length ≤ l.length) {w : World} (h : w.heap[b]? = some (cel e l)) :
    (storeCells ⟨b, od, none⟩ vs).run P w = .ok () { w with heap := w.heap.setIfInBounds b (cel e (spl l od vs)) } := by
  have := run_storeCells_at (P := P) b od e vs 0 l.toArray w h (by simpa using hb) (fun x hx => List.all_eq_true.1 h1 x hx)
  rw [setRow_cells h] at this
  simpa [spl] using this
section steps
variable {P : Program} {r : Option Nat} {ops : Array Oper} {n : Nat} {L : Slots} {D : List Deferred} {H : Heap} {R : Facts} {K : Act → World → Prop}
  {i d : Nat} {ty : TypeId} {pos : String} {af : Array Edge}
theorem clrA {T e s : Nat} {x : Operand} {b od k c e2 : Nat} {l z : List Value} {H' : Heap} {dd : Option Nat} (ho : ops[i]? = some ⟨dd, .call { callee := .builtin .clear, args := #[x], argTypes := #[T] }, ty, pos, af, none⟩) (hdd : dd = none) (hT : slE P T = some (e, s))
    (hz : zeroL P e = some z) (hzs : z.length = s) (hz1 : z.all (·.oneCell') = true) (hx : ev L x = some (.slice (some ⟨b, od, none⟩) k c)) (hb : od + k * s ≤ l.length)
    [m : Mem1 b (cel e2 l) H] [rp : Rep [(b, cel e2 l)] [(b, cel e2 (spl l od (repl k z)))] H H'] (h : Sy n L D H' R K) : Sy n L D H R (stp P r ops i K) := fun a w ha hD hs => by
  subst hdd
  obtain ⟨ie, hu, hi, rfl⟩ := slE_und hT
  obtain ⟨zv, hzv1, hzv2⟩ := run_zero hz
  have hlz : ∀ r ∈ List.replicate k z, r.length = ie.size := fun r hr => by rw [(List.mem_replicate.1 hr).2]; exact hzs
  have hr : (repl k z).length = k * ie.size := by rw [← flat_repl, flat_len hlz]; simp
  have hst := run_storeA (P := P) (e := e2) (l := l) (vs := repl k z) (by
    rw [← flat_repl]
    refine List.all_eq_true.2 fun v hv => ?_
    obtain ⟨q, hq, hvq⟩ := List.mem_flatten.1 hv
    rw [(List.mem_replicate.1 hq).2] at hvq
    exact List.all_eq_true.1 hz1 v hvq) (by rw [hr]; exact hb) (hs.held _ m.mem)
  have hzc : (Builtin.zeroCells zv.cells k).toList = repl k z := by rw [hzv1]; simp [Builtin.zeroCells, repl]
  refine stp_value ho (wanted_none _ rfl _) (v := .tuple #[]) (w' := { w with heap := w.heap.setIfInBounds b (cel e2 (spl l od (repl k z))) }) ?_ (h _ _ (ha.putNone _) hD (hs.rep (F := [(b, cel e2 l)]) (F' := [(b, cel e2 (spl l od (repl k z)))]) fun T hT => St.set hT))
  simp only [execOp, resolve, invoke, builtin, Sem.run_bind, Sem.run_pure, Result.andThen, List.map_toArray, List.map_cons, List.map_nil, ha.reads _ _ hx]
  have e3 : (Builtin.clear_ #[T] ty #[.slice (some ⟨b, od, none⟩) k c]).run P w = .ok (.tuple #[]) { w with heap := w.heap.setIfInBounds b (cel e2 (spl l od (repl k z))) } := by
    rcases Nat.eq_zero_or_pos k with h0 | h0
    · subst h0
      have h4 : spl l od (repl 0 z) = l := by simp [spl, repl]
      have h5 : w.heap.setIfInBounds b (cel e2 l) = w.heap := by
        apply Array.ext_getElem?
        intro j
        by_cases e : b = j
        · subst e
          have hlt : b < w.heap.size := hs.lt (mem_ids m.mem)
          rw [Array.getElem?_setIfInBounds_self_of_lt hlt]; exact (hs.held _ m.mem).symm
        · rw [Array.getElem?_setIfInBounds_ne e]
      rw [h4, h5]
      simp [Builtin.clear_, run_underlying hu]
    · obtain ⟨q, rfl⟩ : ∃ q, k = q + 1 := ⟨k - 1, by omega⟩
      simp only [Builtin.clear_, Sem.run_bind, run_underlying hu, Result.andThen, hzv2, hzc, hst, Sem.run_pure, List.getElem?_toArray, List.getElem?_cons_zero]
  rw [e3]
end steps
end Go.Proofs.Ytknoaljnelfklaa
namespace Go.Proofs.Ytknoaljnelfklaa
set_option linter.unusedSimpArgs false
set_option linter.unusedVariables false
open Go
theorem cal80 : cal Try.prog 80 = true := by kernel_rfl
theorem agr_iff {miss : Int} (hm : 0 ≤ miss) {hs : List Hnd} (hh : ∀ h ∈ hs, h.ok) (f : Nat → Bool) : agr miss hs f = true ↔ ∃ m, Mxt m ∧ ∀ i h, hs[i]? = some h → f i = true → fitB miss h m = true := by
  unfold agr
  cases hc : clo (boxF miss hs f) with
  | none =>
    constructor
    · intro h; cases h
    · rintro ⟨m, h1, h2⟩
      exact absurd ((boxF_mx hm hh f m).2 ⟨h1, h2⟩) (clo_none (boxF_ok _ _ _) hc m)
  | some b =>
    obtain ⟨h3, h4⟩ := clo_some (boxF_ok _ _ _) hc
    exact ⟨fun _ => ⟨_, (boxF_mx hm hh f _).1 ((h4 _).1 (mixt_mx h3))⟩, fun _ => rfl⟩
structure Ord (p : List Nat) (n : Nat) : Prop where
  len : p.length = n
  nd : p.Nodup
  lt : ∀ i ∈ p, i < n
theorem Ord.nil : Ord [] 0 := ⟨rfl, List.nodup_nil, by simp⟩
theorem Ord.ins {p : List Nat} {n j : Nat} (h : Ord p n) (hj : j ≤ n) : Ord (p.take j ++ n :: p.drop j) (n + 1) := by
  have hp : (p.take j ++ n :: p.drop j).Perm (n :: p) := by
    have h1 := List.perm_middle (a := n) (l₁ := p.take j) (l₂ := p.drop j)
    rwa [List.take_append_drop] at h1
  refine ⟨by rw [hp.length_eq]; simp [h.len], hp.nodup_iff.2 (List.nodup_cons.2 ⟨fun h1 => Nat.lt_irrefl _ (h.lt n h1), h.nd⟩), fun i hi => ?_⟩
  rcases List.mem_cons.1 (hp.mem_iff.1 hi) with rfl | h1
  · omega
  · have := h.lt i h1; omega
structure Wrt (hs dl : List Hnd) (p : List Nat) (k : Nat) : Prop where
  len : dl.length = hs.length
  at_ : ∀ i < k, ∀ j, p[i]? = some j → dl[j]? = hs[i]?
  sub : ∀ x ∈ dl, x ∈ hs
theorem Wrt.start (hs : List Hnd) (p : List Nat) : Wrt hs hs p 0 := ⟨rfl, fun i hi => by omega, fun _ h => h⟩
theorem Wrt.more {hs dl : List Hnd} {p : List Nat} {k j : Nat} {x : Hnd} (h : Wrt hs dl p k) (hp : Ord p hs.length) (hj : p[k]? = some j) (hx : hs[k]? = some x) : Wrt hs (dl.set j x) p (k + 1) := by
  have hjl := hp.lt j (List.mem_of_getElem? hj)
  refine ⟨by simp [h.len], fun i hi q hq => ?_, fun y hy => ?_⟩
  · rw [List.getElem?_set]
    by_cases hqj : j = q
    · subst hqj
      have hik : i = k := by
        have h1 := (List.getElem?_eq_some_iff.1 hq).1
        have h2 := (List.getElem?_eq_some_iff.1 hj).1
        have e1 := (List.getElem?_eq_some_iff.1 hq).2
        have e2 := (List.getElem?_eq_some_iff.1 hj).2
        have hnd := List.pairwise_iff_getElem.1 hp.nd
        rcases Nat.lt_trichotomy i k with h3 | h3 | h3
        · exact absurd (e1.trans e2.symm) (hnd i k h1 h2 h3)
        · exact h3
        · exact absurd (e2.trans e1.symm) (hnd k i h2 h1 h3)
      subst hik
      rw [if_pos rfl, if_pos (by rw [h.len]; exact hjl), hx]
    · rw [if_neg hqj]
      have hik : i ≠ k := fun e => by subst e; rw [hj] at hq; exact hqj (Option.some.inj hq)
      exact h.at_ i (by omega) q hq
  · rcases List.mem_or_eq_of_mem_set hy with h1 | rfl
    · exact h.sub y h1
    · exact List.mem_of_getElem? hx
theorem Wrt.done {hs dl : List Hnd} {p : List Nat} (h : Wrt hs dl p hs.length) (hp : Ord p hs.length) (x : Hnd) : x ∈ hs ↔ x ∈ dl := by
  refine ⟨fun hx => ?_, h.sub x⟩
  obtain ⟨i, hi⟩ := List.getElem?_of_mem hx
  have hil := (List.getElem?_eq_some_iff.1 hi).1
  have h1 := h.at_ i hil (p[i]'(by rw [hp.len]; exact hil)) (List.getElem?_eq_getElem _)
  rw [hi] at h1
  exact List.mem_of_getElem? h1
theorem spl_at {p q s vs : List Value} (h : q.length = vs.length) : spl (p ++ (q ++ s)) p.length vs = p ++ (vs ++ s) := by
  unfold spl
  rw [List.take_left, show p.length + vs.length = (p ++ q).length by simp [h], ← List.append_assoc p q s, List.drop_left, List.append_assoc]
theorem cut_at {α : Type} {xs : List α} {i : Nat} (hi : i < xs.length) : ∃ A y B, xs = A ++ y :: B ∧ i = A.length := ⟨xs.take i, xs[i], xs.drop (i + 1), by rw [← List.drop_eq_getElem_cons hi, List.take_append_drop], by rw [List.length_take]; omega⟩
theorem irows_flat' (l : List Int) : (irows l).flatten = ints l := irows_flat l
theorem ir_len (l : List Int) : ∀ r ∈ irows l, r.length = 1 := fun r hr => by obtain ⟨z, _, rfl⟩ := List.mem_map.1 hr; rfl
theorem c_dup_grd (xs : List Grd) (a : Option Addr) (c : Nat) (hl : xs.length ≤ 1000000) (H : Heap) (R : Facts) [hR : MemRows a 5 (grows xs) R] :
    Fn Try.prog 80 [.slice a xs.length c] H R (fun v H' R' => ∃ o : OSl 45 5 (grows xs), v = o.fs ∧ o.here ∧ H' = o.G ++ H ∧ R' = R) := by
 refine fn_of Try.func80 rfl Try.ntmps80 rfl ?_
 refine sy_seq ?_
 refine sy_tx' [0] rfl ?_
 refine sp rfl (PE.assign rfl) rfl ?_
 refine sy_seq ?_
 refine sy_tx' [0, 1, 2, 3, 4, 5] rfl ?_
 refine sp rfl (PE.move rfl) rfl ?_
 refine sp rfl (PE.lenSl isl23 rfl) rfl ?_
 refine mkO rfl ap23 zl45 rfl rfl ⟨by omega, by omega⟩ rfl (fun o ho => ?_)
 refine sp rfl (PE.move rfl) rfl ?_
 refine apOh (news := grows xs) o rfl ap23 rfl rfl (rowsF) (by simp [grows]) (by simp [onecells, grows, grow, Value.oneCell']) ⟨by simp [grows]; omega, by simp [grows]; omega⟩ rfl ho (fun o2 ho2 => ?_)
 refine sp rfl (PE.assign rfl) rfl ?_
 refine sy_ret ?_
 exact sy_return (vs := [_]) rfl (.cons (RV.tmp rfl) .nil) rfl ⟨o2.cast (by simp), rfl, ho2, rfl, rfl⟩ (fun _ h => h)
theorem c_Own (g : Gat) (ag : Option Addr) (cg : Nat) (hl : g.grs.length ≤ 1000000) (H : Heap) (R : Facts) [hG : MemRows ag 5 (grows g.grs) R] :
    Fn Try.prog 25 [g.v (g.sl ag cg)] H R (fun v H' R' => ∃ o : OSl 45 5 (grows g.grs), v = g.v o.fs ∧ o.here ∧ H' = o.G ++ H ∧ R' = R) := by
 refine fn_of Try.func25 rfl Try.ntmps25 rfl ?_
 refine sy_seq ?_
 refine sy_tx' [0, 1] rfl ?_
 refine bx rfl rfl rfl (fun b1 => ?_)
 refine alc rfl zl25 rfl (fun b2 => ?_)
 refine sy_seq ?_
 refine sy_tx' [0, 1, 2, 3, 4] rfl ?_
 refine sp rfl (PE.fieldAddr fo25_2 rfl) rfl ?_
 refine spL rfl rfl (lh sc23 rfl rfl) rfl ?_
 refine cl rfl cal80 rfl rfl (c_dup_grd g.grs ag cg hl _ _) ?_
 rintro _ _ R1 ⟨o, rfl, ho, rfl, hR1⟩
 obtain rfl := hR1.symm
 clear hR1
 refine sp rfl (PE.fieldAddr fo25_2 rfl) rfl ?_
 refine stoE (l' := gtl g o.fs) rfl rfl rfl cn23 rfl (by rw [o.cells.1]; first | done | rfl) (by rw [o.cells.1]; simp [o.cells.2]) (by rw [o.cells.1]; first | done | rfl) (by rw [o.cells.1]; first | done | exact Nat.le_refl _) ?_
 refine sy_seq ?_
 refine sy_tx' [0, 1] rfl ?_
 refine spL rfl rfl (lhA (gtl g o.fs) ag25 rfl rfl rfl) rfl ?_
 refine stoE (l' := gtl g o.fs) rfl rfl rfl cn25 rfl rfl (by show (gtl _ o.fs).all (·.oneCell') = true; simp only [gtl, List.all_cons, List.all_nil, o.cells.2, Bool.and_true]; rfl) rfl (Nat.le_refl _) ?_
 refine sy_ret ?_
 exact sy_return (vs := [_]) rfl (.cons (RV.cell rfl (lhA [_, _, _] ag25 rfl rfl rfl)) .nil) rfl ⟨o, rfl, ho, rfl, rfl⟩ (fun w h => (h.del b2).del b1)
end Go.Proofs.Ytknoaljnelfklaa
namespace Go.Proofs.Ytknoaljnelfklaa
set_option linter.unusedSimpArgs false
set_option linter.unusedVariables false
open Go
theorem cal137 : cal Try.prog 137 = true := by kernel_rfl
theorem cal138 : cal Try.prog 138 = true := by kernel_rfl
theorem cal139 : cal Try.prog 139 = true := by kernel_rfl
theorem cal145 : cal Try.prog 145 = true := by kernel_rfl
theorem cal146 : cal Try.prog 146 = true := by kernel_rfl
theorem cal147 : cal Try.prog 147 = true := by kernel_rfl
theorem cal149 : cal Try.prog 149 = true := by kernel_rfl
theorem cal155 : cal Try.prog 155 = true := by kernel_rfl
theorem cal159 : cal Try.prog 159 = true := by kernel_rfl
theorem cal165 : cal Try.prog 165 = true := by kernel_rfl
theorem ik184 : intK Try.prog 184 = some .u64 := by kernel_rfl
theorem ik5 : intK Try.prog 5 = some .u8 := by kernel_rfl
theorem istr9 : isStr Try.prog 9 = true := by kernel_rfl
theorem us205 : (Try.prog.underlying 205).isSome = true := by kernel_rfl
structure InsI (l xs : List Int) (i j : Nat) : Prop where
  perm : xs.Perm l
  le : j ≤ i
  at_ : ∀ p q, p < q → q ≤ i → q ≠ j → nn xs p ≤ nn xs q
structure SrtI (l xs : List Int) (i : Nat) : Prop where
  perm : xs.Perm l
  at_ : ∀ p q, p < q → q < i → nn xs p ≤ nn xs q
theorem SrtI.start (l : List Int) : SrtI l l 1 := ⟨.refl _, fun p q h1 h2 => by omega⟩
theorem SrtI.ins {l xs : List Int} {i : Nat} (h : SrtI l xs i) : InsI l xs i i := ⟨h.perm, Nat.le_refl _, fun p q h1 h2 h3 => h.at_ p q h1 (by omega)⟩
theorem InsI.done {l xs : List Int} {i j : Nat} (h : InsI l xs i j) (hj : j = 0 ∨ nn xs (j - 1) ≤ nn xs j) : SrtI l xs (i + 1) := ⟨h.perm, fun p q h1 h2 => by
  by_cases hq : q = j
  · subst hq
    have h3 : nn xs (q - 1) ≤ nn xs q := hj.resolve_left (by omega)
    by_cases hp : p = q - 1
    · subst hp; exact h3
    · have := h.at_ p (q - 1) (by omega) (by omega) (by omega); omega
  · exact h.at_ p q h1 (by omega) hq⟩
theorem nn_at {xs : List Int} {k : Nat} (h : k < xs.length) : nn xs k = xs[k] := by unfold nn; rw [List.getD_eq_getElem?_getD, List.getElem?_eq_getElem h]; rfl
theorem InsI.swap {l xs : List Int} {i j : Nat} (h : InsI l xs i j) (hj : 0 < j) (hi : i < xs.length) (hlt : nn xs j < nn xs (j - 1)) : InsI l ((xs.set j (nn xs (j - 1))).set (j - 1) (nn xs j)) i (j - 1) := by
  have hle := h.le
  have hv : ∀ q, nn ((xs.set j (nn xs (j - 1))).set (j - 1) (nn xs j)) q = if q = j - 1 then nn xs j else if q = j then nn xs (j - 1) else nn xs q := fun q => by
    rw [nn_set (by rw [List.length_set]; omega), nn_set (by omega)]
    by_cases h1 : q = j - 1
    · subst h1; simp
    · have e1 : (j - 1 == q) = false := by simp; omega
      rw [e1, if_neg h1]
      by_cases h2 : q = j
      · subst h2; simp
      · have e2 : (j == q) = false := by simp; omega
        rw [e2, if_neg h2]; rfl
  refine ⟨?_, by omega, fun p q h1 h2 h3 => ?_⟩
  · have e := @List.set_set_perm Int xs j (j - 1) (by omega) (by omega)
    rw [nn_at (k := j - 1) (by omega), nn_at (k := j) (by omega)]
    exact e.trans h.perm
  · rw [hv p, hv q]
    have A := h.at_ p q h1 h2
    have B := h.at_ p (j - 1)
    have C := h.at_ j q
    have E := h.at_ (j - 1) q
    rw [if_neg h3]
    by_cases hq : q = j
    · rw [if_pos hq]
      split
      · omega
      · rw [if_neg (by omega)]; exact B (by omega) (by omega) (by omega)
    · rw [if_neg hq]
      split
      · exact C (by omega) h2 hq
      · split
        · exact E (by omega) h2 hq
        · exact A hq
theorem int_at {xs : List Int} {junk : List Value} {k : Nat} (h : k < xs.length) : (ints xs ++ junk)[0 + ((k : Nat) : Int).toNat * 1]? = some (.int .i64 (nn xs k)) := by
  rw [show 0 + ((k : Nat) : Int).toNat * 1 = k by omega, List.getElem?_append_left (by rw [ints_length]; exact h), nn_at h]
  simp [ints, h]
theorem int_at2 {xs : List Int} {junk : List Value} {q k : Nat} (h : q + k < xs.length) : (ints xs ++ junk)[0 + q * 1 + ((k : Nat) : Int).toNat * 1]? = some (.int .i64 (nn xs (q + k))) := by
  have := int_at (junk := junk) h
  rw [show 0 + q * 1 + ((k : Nat) : Int).toNat * 1 = 0 + ((q + k : Nat) : Int).toNat * 1 by omega]; exact this
theorem spl_int {xs : List Int} {junk : List Value} {k : Nat} (h : k < xs.length) (v : Int) : spl (ints xs ++ junk) (0 + ((k : Nat) : Int).toNat * 1) [.int .i64 v] = ints (xs.set k v) ++ junk := by
  rw [show 0 + ((k : Nat) : Int).toNat * 1 = k by omega]
  obtain ⟨A, y, B, rfl, rfl⟩ := cut_at h
  have h1 := spl_at (p := ints A) (q := [.int .i64 y]) (s := ints B ++ junk) (vs := [.int .i64 v]) rfl
  rw [show (ints A).length = A.length by simp [ints]] at h1
  rw [show ints (A ++ y :: B) ++ junk = ints A ++ ([.int .i64 y] ++ (ints B ++ junk)) by simp [ints], h1]
  simp [ints]
theorem pair_ne {xs : List Int} {k : Nat} (h : k + 1 < xs.length) (hn : xs.Nodup) : nn xs k ≠ nn xs (k + 1) := by
  rw [nn_at (k := k) (by omega), nn_at h]
  exact List.pairwise_iff_getElem.1 hn k (k + 1) (by omega) h (by omega)
theorem srt_nd {l xs : List Int} {n : Nat} (h : SrtI l xs n) (hn : xs.length ≤ n) (hd : ∀ p, p + 1 < xs.length → nn xs p ≠ nn xs (p + 1)) : l.Nodup := by
  refine h.perm.nodup_iff.1 (List.pairwise_iff_getElem.2 fun p q hp hq hpq e => ?_)
  rw [← nn_at hp, ← nn_at hq] at e
  have h1 := hd p (by omega)
  have h2 := h.at_ p (p + 1) (by omega) (by omega)
  by_cases h3 : q = p + 1
  · subst h3; exact h1 e
  · have h4 := h.at_ (p + 1) q (by omega) (by omega); omega
def agrE (g : Gat) (c : Crt) (l : List Int) : Int := bif decide (bothE g c ≠ 0) then bothE g c else bif !(l.all fun i => inb i 0 (c.hs.length - 1)) then 1 else bif !(decide l.Nodup) then 5 else 0
def agrR (g : Gat) (c : Crt) (l : List Int) : Bool := bif decide (agrE g c l ≠ 0) then false else agr g.miss c.hs (flt l)
theorem c_isNaN (x : Int) (H : Heap) (R : Facts) :
    FnV Try.prog 165 [.int .i64 x] H R (.bool false) := by
 refine fn_of Try.func165 rfl Try.ntmps165 rfl ?_
 refine sy_seq ?_
 refine sy_tx' [0] rfl ?_
 refine sp rfl (PE.assign rfl) rfl ?_
 refine sy_seq ?_
 refine sy_tx' [0, 1, 2, 3] rfl ?_
 refine sp rfl (PE.move rfl) rfl ?_
 refine sp rfl (PE.move rfl) rfl ?_
 refine sp rfl (PE.neq rfl rfl) rfl ?_
 refine sp rfl (PE.assign rfl) rfl ?_
 refine sy_ret ?_
 exact sy_return (vs := [_]) rfl (.cons (RV.tmp rfl) .nil) rfl ⟨by simp [retV], rfl, rfl⟩ drp
theorem c_Less (x y : Int) (H : Heap) (R : Facts) :
    FnV Try.prog 155 [.int .i64 x, .int .i64 y] H R (.bool (decide (x < y))) := by
 refine fn_of Try.func155 rfl Try.ntmps155 rfl ?_
 refine sy_seq ?_
 refine sy_tx' [0] rfl ?_
 refine sp rfl (PE.assign rfl) rfl ?_
 refine sy_seq ?_
 refine sy_tx' [0, 1, 2, 3, 4, 5, 6, 7, 8, 9, 10, 11, 12] rfl ?_
 refine sp rfl (PE.move rfl) rfl ?_
 refine clV rfl cal165 rfl rfl (c_isNaN x _ _) ?_
 refine sp rfl (PE.move rfl) rfl ?_
 repeat refine spN rfl rfl rfl rfl rfl rfl rfl rfl ?_
 refine sp rfl (PE.pick rfl rfl rfl) rfl ?_
 refine sp rfl (PE.move rfl) rfl ?_
 refine spG rfl rfl rfl rfl (PE.move rfl) rfl ?_
 refine spG rfl rfl rfl rfl (PE.move rfl) rfl ?_
 refine spG rfl rfl rfl rfl (PE.lss rfl rfl) rfl ?_
 refine sp rfl (PE.pick rfl rfl rfl) rfl ?_
 refine sp rfl (PE.assign rfl) rfl ?_
 refine sy_ret ?_
 exact sy_return (vs := [_]) rfl (.cons (RV.tmp rfl) .nil) rfl ⟨rfl, rfl, rfl⟩ drp
theorem c_insB (l : List Int) (b cap : Nat) (junk : List Value) (hl : l.length ≤ 12) (H : Heap) (R : Facts) :
    Fn Try.prog 149 [.slice (some ⟨b, 0, none⟩) l.length cap, .int .i64 0, .int .i64 l.length] ((b, cel 3 (ints l ++ junk)) :: H) R (fun v H' R' => ∃ ys, SrtI l ys l.length ∧ v = .tuple #[] ∧ H' = (b, cel 3 (ints ys ++ junk)) :: H ∧ R' = R) := by
 refine fn_of Try.func149 rfl Try.ntmps149 rfl ?_
 refine sy_seq ?_
 refine sy_tx' [0, 1, 2] rfl ?_
 refine sp rfl (PE.move rfl) rfl ?_
 refine sp rfl (PE.add rfl rfl (by omega)) rfl ?_
 refine sp rfl (PE.assign rfl) rfl ?_
 refine sy_block ?_
 refine sy_loop (ι := {x : Nat × List Int // 1 ≤ x.1 ∧ x.1 ≤ 13 ∧ SrtI l x.2 x.1}) (fun x => ⟨[(0, .slice (some ⟨b, 0, none⟩) l.length cap), (1, .int .i64 0), (2, .int .i64 l.length), (6, .int .i64 x.1.1)], (b, cel 3 (ints x.1.2 ++ junk)) :: H, R⟩) (fun x => l.length - x.1.1) ⟨(1, l), by omega, by omega, SrtI.start l⟩ ?_ (fun x => ?_)
 exact sy_at (by repeat' first | exact Sub.nil | apply Sub.cons | rfl | (simp [lk]; omega)) (fun _ h => h)
 ·
  obtain ⟨⟨i, xs⟩, hi1, hi2, hs⟩ := x
  dsimp only at hi1 hi2 hs ⊢
  have hxl := hs.perm.length_eq
  refine sy_seq ?_
  refine sy_seq ?_
  refine sy_tx' [0, 1, 2] rfl ?_
  refine sp rfl (PE.move rfl) rfl ?_
  refine sp rfl (PE.move rfl) rfl ?_
  refine sp rfl (PE.lss rfl rfl) rfl ?_
  refine sy_cond rfl (fun hc0 => ?_) (fun hc0 => ?_)
  ·
   try simp only [decide_eq_true_eq, decide_eq_false_iff_not, Bool.and_eq_true, Bool.or_eq_true, Bool.not_eq_true', Int.not_le, Int.not_lt] at hc0
   refine sy_skip ?_
   refine sy_seq ?_
   refine sy_block ?_
   refine sy_seq ?_
   refine sy_tx' [0, 1] rfl ?_
   refine sp rfl (PE.move rfl) rfl ?_
   refine sp rfl (PE.assign rfl) rfl ?_
   refine sy_block ?_
   refine sy_loop (ι := {x : Nat × List Int // InsI l x.2 i x.1}) (fun x => ⟨[(0, .slice (some ⟨b, 0, none⟩) l.length cap), (1, .int .i64 0), (2, .int .i64 l.length), (6, .int .i64 i), (7, .int .i64 x.1.1)], (b, cel 3 (ints x.1.2 ++ junk)) :: H, R⟩) (fun x => x.1.1) ⟨(i, xs), hs.ins⟩ ?_ (fun x => ?_)
   exact sy_at (by repeat' first | exact Sub.nil | apply Sub.cons | rfl | (simp [lk]; omega)) (fun _ h => h)
   ·
    obtain ⟨⟨j, ys⟩, hy⟩ := x
    dsimp only at hy ⊢
    have hyl := hy.perm.length_eq
    have hyj := hy.le
    refine sy_seq ?_
    refine sy_seq ?_
    refine sy_draw [0, 0, 3, 7, 15, 15, 63, 127, 15, 15, 527, 1807, 3855, 8191, 16383] (.tk 0 (.tk 1 (.tk 2 (.tk 3 (.tk 4 (.tk 5 (.tk 6 (.ld 7 (.tk 8 (.tk 9 (.tk 10 (.tk 11 (.ld 12 (.big 13 (.tk 14 .done))))))))))))))) mixed (by kernel_rfl) ?_
    refine tk rfl (PE.move rfl) rfl ?_
    refine tk rfl (PE.move rfl) rfl ?_
    refine tk rfl (PE.gtr rfl rfl) rfl ?_
    refine tk rfl (PE.move rfl) rfl ?_
    refine sy_case (t := 19) rfl (fun g19 => ?_) (fun g19 => ?_)
    ·
     try simp only [decide_eq_true_eq, decide_eq_false_iff_not, Bool.and_eq_true, Bool.or_eq_true, Bool.not_eq_true', Int.not_le, Int.not_lt] at g19
     refine tkG rfl rfl rfl rfl (PE.move rfl) rfl ?_
     refine tkG rfl rfl rfl rfl (PE.move rfl) rfl ?_
     refine tkG rfl rfl rfl rfl (PE.indexAddr el34 rfl rfl (by omega) (by omega)) rfl ?_
     refine ldG rfl rfl rfl rfl rfl (lh sc3 rfl (int_at (by omega))) rfl ?_
     refine tkG rfl rfl rfl rfl (PE.move rfl) rfl ?_
     refine tkG rfl rfl rfl rfl (PE.move rfl) rfl ?_
     refine tkG rfl rfl rfl rfl (PE.sub rfl rfl (by omega)) rfl ?_
     rw [show (j : Int) - 1 = ((j - 1 : Nat) : Int) from by omega]
     refine tkG rfl rfl rfl rfl (PE.indexAddr el34 rfl rfl (by omega) (by omega)) rfl ?_
     refine ldG rfl rfl rfl rfl rfl (lh sc3 rfl (int_at (by omega))) rfl ?_
     refine clVG rfl rfl rfl rfl cal155 rfl rfl (c_Less _ _ _ _) ?_
     refine bg (fun w hs => ⟨trivial, trivial, trivial⟩) ?_
     refine tk rfl (PE.pick rfl rfl rfl) rfl ?_
     refine sy_cond rfl (fun hc1 => ?_) (fun hc1 => ?_)
     ·
      try simp only [decide_eq_true_eq, decide_eq_false_iff_not, Bool.and_eq_true, Bool.or_eq_true, Bool.not_eq_true', Int.not_le, Int.not_lt] at hc1
      refine sy_skip ?_
      refine sy_seq ?_
      refine sy_block ?_
      refine sy_draw [0, 0, 0, 0, 8, 0, 0, 64, 224, 480, 0, 0, 3072, 7168, 16355, 32739, 65535, 131071] (.tk 0 (.tk 1 (.tk 2 (.tk 3 (.tk 4 (.tk 5 (.tk 6 (.tk 7 (.tk 8 (.ld 9 (.tk 10 (.tk 11 (.tk 12 (.ld 13 (.tk 14 (.big 15 (.tk 16 (.big 17 .done)))))))))))))))))) mixed (by kernel_rfl) ?_
      refine tk rfl (PE.move rfl) rfl ?_
      refine tk rfl (PE.move rfl) rfl ?_
      refine tk rfl (PE.move rfl) rfl ?_
      refine tk rfl (PE.move rfl) rfl ?_
      refine tk rfl (PE.sub rfl rfl (by omega)) rfl ?_
      refine tk rfl (PE.move rfl) rfl ?_
      refine tk rfl (PE.move rfl) rfl ?_
      refine tk rfl (PE.sub rfl rfl (by omega)) rfl ?_
      rw [show (j : Int) - 1 = ((j - 1 : Nat) : Int) from by omega]
      refine tk rfl (PE.indexAddr el34 rfl rfl (by omega) (by omega)) rfl ?_
      refine ld rfl rfl (lh sc3 rfl (int_at (by omega))) rfl ?_
      refine tk rfl (PE.move rfl) rfl ?_
      refine tk rfl (PE.move rfl) rfl ?_
      refine tk rfl (PE.indexAddr el34 rfl rfl (by omega) (by omega)) rfl ?_
      refine ld rfl rfl (lh sc3 rfl (int_at (by omega))) rfl ?_
      refine tk rfl (PE.indexAddr el34 rfl rfl (by omega) (by omega)) rfl ?_
      refine stoE (l' := ints ((ys).set j (nn ys (j - 1))) ++ junk) rfl rfl rfl cn3 rfl rfl rfl (spl_int (show j < ys.length by omega) _) (by rw [List.length_append, ints_length]; show 0 + ((j : Nat) : Int).toNat * 1 + 1 ≤ _; have := (show j < ys.length by omega); omega) ?_
      refine bg (fun w hs => ⟨trivial, trivial, trivial⟩) ?_
      refine tk rfl (PE.indexAddr el34 rfl rfl (by omega) (by omega)) rfl ?_
      refine stoE (l' := ints ((ys.set j (nn ys (j - 1))).set (j - 1) (nn ys j)) ++ junk) rfl rfl rfl cn3 rfl rfl rfl (spl_int (show j - 1 < (ys.set j (nn ys (j - 1))).length by rw [List.length_set]; omega) _) (by rw [List.length_append, ints_length]; show 0 + (((j - 1) : Nat) : Int).toNat * 1 + 1 ≤ _; have := (show j - 1 < (ys.set j (nn ys (j - 1))).length by rw [List.length_set]; omega); omega) ?_
      refine bg (fun w hs => trivial) ?_
      refine sy_tx' [0, 1, 2] rfl ?_
      refine sp rfl (PE.move rfl) rfl ?_
      refine sp rfl (PE.sub rfl rfl (by omega)) rfl ?_
      refine sp rfl (PE.assign rfl) rfl ?_
      rw [show (j : Int) - 1 = ((j - 1 : Nat) : Int) from by omega]
      exact sy_next ⟨(j - 1, (ys.set j (nn ys (j - 1))).set (j - 1) (nn ys j)), hy.swap (by omega) (by omega) (by omega)⟩ (by dsimp only; omega) (by repeat' first | exact Sub.nil | apply Sub.cons | rfl | (simp [lk]; omega)) (fun _ h => h)
     try simp only [decide_eq_true_eq, decide_eq_false_iff_not, Bool.and_eq_true, Bool.or_eq_true, Bool.not_eq_true', Int.not_le, Int.not_lt] at hc1
     have hfd := hy.done (.inr (by omega))
     refine sy_exit ?_
     repeat refine sy_tx ?_
     refine sy_bx ?_
     refine sy_tx' [0, 1, 2] rfl ?_
     refine sp rfl (PE.move rfl) rfl ?_
     refine sp rfl (PE.add rfl rfl (by omega)) rfl ?_
     refine sp rfl (PE.assign rfl) rfl ?_
     exact sy_next ⟨(i + 1, ys), by omega, by omega, hfd⟩ (by dsimp only; omega) (by repeat' first | exact Sub.nil | apply Sub.cons | rfl | (simp [lk]; omega)) (fun _ h => h)
    try simp only [decide_eq_true_eq, decide_eq_false_iff_not, Bool.and_eq_true, Bool.or_eq_true, Bool.not_eq_true', Int.not_le, Int.not_lt] at g19
    have hfd := hy.done (.inl (by omega))
    repeat refine tkN rfl rfl rfl rfl rfl rfl rfl rfl ?_
    refine ldN rfl rfl rfl rfl rfl rfl rfl rfl ?_
    repeat refine tkN rfl rfl rfl rfl rfl rfl rfl rfl ?_
    refine ldN rfl rfl rfl rfl rfl rfl rfl rfl ?_
    refine spN rfl rfl rfl rfl rfl rfl rfl rfl ?_
    refine bg (fun w hs => ⟨trivial, trivial, trivial⟩) ?_
    refine tk rfl (PE.pick rfl rfl rfl) rfl ?_
    refine sy_condF rfl ?_
    refine sy_exit ?_
    repeat refine sy_tx ?_
    refine sy_bx ?_
    refine sy_tx' [0, 1, 2] rfl ?_
    refine sp rfl (PE.move rfl) rfl ?_
    refine sp rfl (PE.add rfl rfl (by omega)) rfl ?_
    refine sp rfl (PE.assign rfl) rfl ?_
    exact sy_next ⟨(i + 1, ys), by omega, by omega, hfd⟩ (by dsimp only; omega) (by repeat' first | exact Sub.nil | apply Sub.cons | rfl | (simp [lk]; omega)) (fun _ h => h)
  try simp only [decide_eq_true_eq, decide_eq_false_iff_not, Bool.and_eq_true, Bool.or_eq_true, Bool.not_eq_true', Int.not_le, Int.not_lt] at hc0
  have hfin : SrtI l xs l.length := ⟨hs.perm, fun p q h1 h2 => hs.at_ p q h1 (by omega)⟩
  refine sy_exit ?_
  repeat refine sy_tx ?_
  refine sy_bx ?_
  exact sy_fall (vs := []) rfl .nil rfl ⟨xs, hfin, rfl, rfl, rfl⟩ (fun _ h => h)
theorem c_insN (H : Heap) (R : Facts) :
    FnV Try.prog 149 [.slice none 0 0, .int .i64 0, .int .i64 (([] : List Int).length : Nat)] H R (.tuple #[]) := by
 refine fn_of Try.func149 rfl Try.ntmps149 rfl ?_
 refine sy_seq ?_
 refine sy_tx' [0, 1, 2] rfl ?_
 refine sp rfl (PE.move rfl) rfl ?_
 refine sp rfl (PE.add rfl rfl (by omega)) rfl ?_
 refine sp rfl (PE.assign rfl) rfl ?_
 refine sy_block ?_
 refine sy_loop (ι := Unit) (fun _ => ⟨[(2, .int .i64 (([] : List Int).length : Nat)), (6, .int .i64 1)], H, R⟩) (fun x => 0) () ?_ (fun x => ?_)
 exact sy_at (by repeat' first | exact Sub.nil | apply Sub.cons | rfl | (simp [lk]; omega)) (fun _ h => h)
 refine sy_seq ?_
 refine sy_seq ?_
 refine sy_tx' [0, 1, 2] rfl ?_
 refine sp rfl (PE.move rfl) rfl ?_
 refine sp rfl (PE.move rfl) rfl ?_
 refine sp rfl (PE.lss rfl rfl) rfl ?_
 refine sy_cond rfl (fun hc0 => ?_) (fun hc0 => ?_)
 exact absurd hc0 (by simp)
 refine sy_exit ?_
 repeat refine sy_tx ?_
 refine sy_bx ?_
 exact sy_fall (vs := []) rfl .nil rfl ⟨rfl, rfl, rfl⟩ (fun _ h => h)
theorem c_ins (l : List Int) (o : OSl 3 1 (irows l)) (hl : l.length ≤ 12) (H : Heap) (R : Facts) : Fn Try.prog 149 [o.fs, .int .i64 0, .int .i64 l.length] (o.G ++ H) R (fun v H' R' => ∃ ys, ∃ o' : OSl 3 1 (irows ys), SrtI l ys l.length ∧ o'.fs = o.fs ∧ v = .tuple #[] ∧ H' = o'.G ++ H ∧ R' = R) := by
  have hir : (irows l).length = l.length := List.length_map _
  rcases o.is with ⟨h1, h2, h3⟩ | ⟨b, cap, junk, h2, h3, hj, hc, hm⟩
  · have hx : l = [] := List.map_eq_nil_iff.1 h1
    subst hx
    rw [h2, h3]
    exact Fn.mono (c_insN H R) (by rintro v H' R' ⟨rfl, rfl, rfl⟩; exact ⟨[], OSl.nil _ _, ⟨.refl _, fun p q h4 h5 => by simp at h5⟩, rfl, rfl, rfl, rfl⟩)
  · rw [hir] at h2 hj hc
    rw [h2, h3, irows_flat']
    exact Fn.mono (c_insB l b cap junk hl H R) (by
      rintro v H' R' ⟨ys, hs, rfl, rfl, rfl⟩
      have hyl := hs.perm.length_eq
      have hyi : (irows ys).length = l.length := by rw [List.length_map, hyl]
      exact ⟨ys, ⟨.slice (some ⟨b, 0, none⟩) (irows ys).length cap, [(b, cel 3 ((irows ys).flatten ++ junk))], ir_len _, .inr ⟨b, cap, junk, rfl, rfl, by rw [hyi]; exact hj, by rw [hyi]; exact hc, hm⟩⟩, hs, congrArg (fun q => Value.slice (some ⟨b, 0, none⟩) q cap) hyi, rfl, congrArg (fun q => (b, cel 3 (q ++ junk)) :: H) (irows_flat' ys).symm, rfl⟩)
theorem c_pdq (l : List Int) (o : OSl 3 1 (irows l)) (hl : l.length ≤ 12) (z : Int) (H : Heap) (R : Facts) :
    Fn Try.prog 146 [o.fs, .int .i64 0, .int .i64 l.length, .int .i64 z] (o.G ++ H) R (fun v H' R' => ∃ ys, ∃ o' : OSl 3 1 (irows ys), SrtI l ys l.length ∧ o'.fs = o.fs ∧ v = .tuple #[] ∧ H' = o'.G ++ H ∧ R' = R) := by
 refine fn_of Try.func146 rfl Try.ntmps146 rfl ?_
 refine sy_seq ?_
 refine sy_tx' [0] rfl ?_
 refine sp rfl (PE.assign rfl) rfl ?_
 refine sy_seq ?_
 refine sy_tx' [0] rfl ?_
 refine sp rfl (PE.assign rfl) rfl ?_
 refine sy_block ?_
 refine sy_loop (ι := Unit) (fun _ => ⟨[(0, o.fs), (1, .int .i64 0), (2, .int .i64 l.length)], o.G ++ H, R⟩) (fun x => 0) () ?_ (fun x => ?_)
 exact sy_at (by repeat' first | exact Sub.nil | apply Sub.cons | rfl | (simp [lk]; omega)) (fun _ h => h)
 refine sy_block ?_
 refine sy_seq ?_
 refine sy_tx' [0, 1, 2, 3] rfl ?_
 refine sp rfl (PE.move rfl) rfl ?_
 refine sp rfl (PE.move rfl) rfl ?_
 refine sp rfl (PE.sub rfl rfl (by omega)) rfl ?_
 refine sp rfl (PE.assign rfl) rfl ?_
 refine sy_seq ?_
 refine sy_seq ?_
 refine sy_tx' [0, 1] rfl ?_
 refine sp rfl (PE.move rfl) rfl ?_
 refine sp rfl (PE.leq rfl rfl) rfl ?_
 refine sy_cond rfl (fun hc0 => ?_) (fun hc0 => ?_)
 refine sy_seq ?_
 refine sy_tx' [0, 1, 2, 3] rfl ?_
 refine sp rfl (PE.move rfl) rfl ?_
 refine sp rfl (PE.move rfl) rfl ?_
 refine sp rfl (PE.move rfl) rfl ?_
 refine cl rfl cal149 rfl rfl (c_ins l o hl _ _) ?_
 rintro _ _ R1 ⟨ys, o', hs, hof, rfl, rfl, hR1⟩
 obtain rfl := hR1.symm
 clear hR1
 refine sy_ret ?_
 exact sy_return (vs := []) rfl .nil rfl ⟨ys, o', hs, hof, rfl, rfl, rfl⟩ (fun _ h => h)
 simp only [decide_eq_false_iff_not] at hc0
 omega
theorem c_Len64 (k : Nat) (hk : k ≤ 12) (H : Heap) (R : Facts) :
    Fn Try.prog 159 [.int .u64 k] H R (fun v H' R' => ∃ z : Int, v = .int .i64 z ∧ H' = H ∧ R' = R) := by
 refine fn_of Try.func159 rfl Try.ntmps159 rfl ?_
 refine sy_seq ?_
 refine sy_tx' [0] rfl ?_
 refine sp rfl (PE.assign rfl) rfl ?_
 refine sy_seq ?_
 refine sy_seq ?_
 refine sy_tx' [0, 1] rfl ?_
 refine sp rfl (PE.move rfl) rfl ?_
 refine sp rfl (PE.geq rfl rfl) rfl ?_
 refine sy_cond rfl (fun hc0 => ?_) (fun hc0 => ?_)
 simp only [decide_eq_true_eq] at hc0
 omega
 refine sy_skip ?_
 refine sy_seq ?_
 refine sy_seq ?_
 refine sy_tx' [0, 1] rfl ?_
 refine sp rfl (PE.move rfl) rfl ?_
 refine sp rfl (PE.geq rfl rfl) rfl ?_
 refine sy_cond rfl (fun hc1 => ?_) (fun hc1 => ?_)
 simp only [decide_eq_true_eq] at hc1
 omega
 refine sy_skip ?_
 refine sy_seq ?_
 refine sy_seq ?_
 refine sy_tx' [0, 1] rfl ?_
 refine sp rfl (PE.move rfl) rfl ?_
 refine sp rfl (PE.geq rfl rfl) rfl ?_
 refine sy_cond rfl (fun hc2 => ?_) (fun hc2 => ?_)
 simp only [decide_eq_true_eq] at hc2
 omega
 refine sy_skip ?_
 refine sy_seq ?_
 refine sy_tx' [0, 1, 2, 3, 4, 5, 6] rfl ?_
 refine sp rfl (PE.move rfl) rfl ?_
 refine sp rfl (PE.move rfl) rfl ?_
 refine sp rfl ((PE.convert us205 ik5 rfl).to (by rw [wrap_u8_id (by omega) (by omega)])) rfl ?_
 refine spE rfl (PE.indexS (m := 256) istr9 rfl rfl (by kernel_rfl) (by omega)) rfl ?_
 rintro _ ⟨u22, rfl, hu22⟩
 refine sp rfl (PE.conv64 us5 ik3 rfl (by omega)) rfl ?_
 refine sp rfl (PE.add rfl rfl (by omega)) rfl ?_
 refine sp rfl (PE.assign rfl) rfl ?_
 refine sy_ret ?_
 exact sy_return (vs := [_]) rfl (.cons (RV.tmp rfl) .nil) rfl ⟨_, rfl, rfl, rfl⟩ (fun _ h => h)
theorem c_Len (k : Nat) (hk : k ≤ 12) (H : Heap) (R : Facts) :
    Fn Try.prog 147 [.int .u64 k] H R (fun v H' R' => ∃ z : Int, v = .int .i64 z ∧ H' = H ∧ R' = R) := by
 refine fn_of Try.func147 rfl Try.ntmps147 rfl ?_
 refine sy_seq ?_
 refine sy_tx' [0] rfl ?_
 refine sp rfl (PE.assign rfl) rfl ?_
 refine sy_seq ?_
 refine sy_condF rfl ?_
 refine sy_skip ?_
 refine sy_seq ?_
 refine sy_tx' [0, 1, 2] rfl ?_
 refine sp rfl (PE.move rfl) rfl ?_
 refine cl rfl cal159 rfl rfl (c_Len64 k hk _ _) ?_
 rintro _ _ R1 ⟨z, rfl, rfl, hR1⟩
 obtain rfl := hR1.symm
 clear hR1
 refine sp rfl (PE.assign rfl) rfl ?_
 refine sy_ret ?_
 exact sy_return (vs := [_]) rfl (.cons (RV.tmp rfl) .nil) rfl ⟨_, rfl, rfl, rfl⟩ (fun _ h => h)
theorem c_Sort (l : List Int) (o : OSl 3 1 (irows l)) (hl : l.length ≤ 12) (H : Heap) (R : Facts) :
    Fn Try.prog 138 [o.fs] (o.G ++ H) R (fun v H' R' => ∃ ys, ∃ o' : OSl 3 1 (irows ys), SrtI l ys l.length ∧ o'.fs = o.fs ∧ v = .tuple #[] ∧ H' = o'.G ++ H ∧ R' = R) := by
 obtain ⟨a, c, he, hcc, _⟩ := o.freezeC
 rw [show (irows l).length = l.length from List.length_map _] at he hcc
 refine fn_of Try.func138 rfl Try.ntmps138 rfl ?_
 refine sy_seq ?_
 refine sy_tx' [0, 1, 2] rfl ?_
 refine sp rfl (PE.move rfl) rfl ?_
 refine sp rfl (PE.lenSl isl34 (congrArg some he)) rfl ?_
 refine sp rfl (PE.assign rfl) rfl ?_
 refine sy_tx' [0, 1, 2, 3, 4, 5] rfl ?_
 refine sp rfl (PE.move rfl) rfl ?_
 refine sp rfl (PE.move rfl) rfl ?_
 refine sp rfl (PE.move rfl) rfl ?_
 refine sp rfl ((PE.convert us3 ik184 rfl).to (by rw [wrap_u64_id (by omega) (by omega)])) rfl ?_
 refine cl rfl cal147 rfl rfl (c_Len l.length hl _ _) ?_
 rintro _ _ R1 ⟨z, rfl, rfl, hR1⟩
 obtain rfl := hR1.symm
 clear hR1
 refine cl rfl cal146 rfl rfl (c_pdq l o hl z _ _) ?_
 rintro _ _ R1 ⟨ys, o', hs, hof, rfl, rfl, hR1⟩
 obtain rfl := hR1.symm
 clear hR1
 exact sy_fall (vs := []) rfl .nil rfl ⟨ys, o', hs, hof, rfl, rfl, rfl⟩ (fun _ h => h)
theorem c_Values (xs : List Int) (a : Option Addr) (c : Nat) (H : Heap) (R : Facts) :
    Fn Try.prog 120 [.slice a xs.length c] H R (fun v H' R' => ∃ b1, v = .func (.func 139) #[] #[.pointer (some ⟨b1, 0, none⟩)] ∧ H' = (b1, cel 34 [.slice a xs.length c]) :: H ∧ R' = R) := by
 refine fn_of Try.func120 rfl Try.ntmps120 rfl ?_
 refine sy_seq ?_
 refine sy_tx' [0, 1] rfl ?_
 refine bx rfl rfl rfl (fun b1 => ?_)
 refine sp rfl (PE.assign rfl) rfl ?_
 refine sy_seq ?_
 refine sy_tx' [0, 1] rfl ?_
 refine sp rfl (PE.makeFunc rfl rfl) rfl ?_
 refine sp rfl (PE.assign rfl) rfl ?_
 refine sy_ret ?_
 exact sy_return (vs := [_]) rfl (.cons (RV.tmp rfl) .nil) rfl ⟨b1, rfl, rfl, rfl⟩ (fun _ h => h)
theorem c_vals1 (xs : List Int) (a : Option Addr) (c b1 bl0 : Nat) (hl : xs.length ≤ 9223372036854775807) (I : Nat → Heap → Prop) (T0 : Heap) (h0 : I 0 T0) (R : Facts) [hR : MemRows a 1 (irows xs) R] (hy : ∀ k x T1, xs[k]? = some x → I k T1 → Yd Try.prog bl0 [.int .i64 x] ((b1, cel 34 [.slice a xs.length c]) :: T1) R (fun v H' R' => v = .bool true ∧ (∃ T', I (k + 1) T' ∧ H' = (b1, cel 34 [.slice a xs.length c]) :: T') ∧ R' = R)) :
    Fn Try.prog 139 [yv bl0, .pointer (some ⟨b1, 0, none⟩)] ((b1, cel 34 [.slice a xs.length c]) :: T0) R (fun v H' R' => ∃ T', I xs.length T' ∧ v = .tuple #[] ∧ H' = (b1, cel 34 [.slice a xs.length c]) :: T' ∧ R' = R) := by
 refine fn_of Try.func139 rfl Try.ntmps139 rfl ?_
 refine sy_seq ?_
 refine sy_tx' [0, 1, 2] rfl ?_
 refine spL rfl rfl (lh sc34 rfl rfl) rfl ?_
 refine sp rfl (PE.lenSl isl34 rfl) rfl ?_
 refine sp rfl (PE.move rfl) rfl ?_
 refine sy_block ?_
 refine sy_loop (ι := {x : Nat × Heap // x.1 ≤ xs.length ∧ I x.1 x.2}) (fun x => ⟨[(0, yv bl0), (5, .slice a xs.length c), (6, .int .i64 xs.length), (7, .int .i64 x.1.1)], (b1, cel 34 [.slice a xs.length c]) :: x.1.2, R⟩) (fun x => xs.length - x.1.1) ⟨(0, T0), by omega, h0⟩ ?_ (fun x => ?_)
 exact sy_at (by repeat' first | exact Sub.nil | apply Sub.cons | rfl | (simp [lk]; omega)) (fun _ h => h)
 obtain ⟨⟨k, T1⟩, hk, hI⟩ := x
 dsimp only at hk hI ⊢
 refine sy_seq ?_
 refine sy_tx' [0] rfl ?_
 refine sp rfl (PE.lss rfl rfl) rfl ?_
 refine sy_seq ?_
 refine sy_cond rfl (fun hc0 => ?_) (fun hc0 => ?_)
 try simp only [decide_eq_true_eq, decide_eq_false_iff_not, Bool.and_eq_true, Bool.or_eq_true, Bool.not_eq_true', Int.not_le, Int.not_lt] at hc0
 obtain ⟨x, hx⟩ : ∃ x, xs[k]? = some x := ⟨_, List.getElem?_eq_getElem (by omega)⟩
 refine sy_addr (a := a) (sz := 1) (rows := irows xs) (by intro h0; simp [irows] at h0; simp [h0] at hx) (fun ba oa he => ?_)
 subst he
 refine sy_skip ?_
 refine sy_seq ?_
 refine sy_block ?_
 refine sy_seq ?_
 refine sy_tx' [0, 1, 2] rfl ?_
 refine sp rfl (PE.indexAddr el34 rfl rfl (by omega) (by omega)) rfl ?_
 refine spL rfl rfl (lf0 (x := .int .i64 x) sc3 (by simp [irows, hx]; rfl) rfl) rfl ?_
 refine sp rfl (PE.assign rfl) rfl ?_
 refine sy_seq ?_
 refine sy_tx' [0, 1, 2, 3] rfl ?_
 refine sp rfl (PE.move rfl) rfl ?_
 refine sp rfl (PE.move rfl) rfl ?_
 refine clY rfl rfl rfl rfl (hy k x T1 hx hI) ?_
 rintro _ _ _ ⟨rfl, ⟨T2, hI2, rfl⟩, rfl⟩
 refine sp rfl (PE.not rfl) rfl ?_
 refine sy_condF rfl ?_
 refine sy_skip ?_
 refine sy_tx' [0, 1] rfl ?_
 refine sp rfl (PE.add rfl rfl (by omega)) rfl ?_
 refine sp rfl (PE.move rfl) rfl ?_
 exact sy_next ⟨(k + 1, T2), by omega, hI2⟩ (by dsimp only; omega) (by repeat' first | exact Sub.nil | apply Sub.cons | rfl | (simp [lk]; omega)) (fun _ h => h)
 try simp only [decide_eq_true_eq, decide_eq_false_iff_not, Bool.and_eq_true, Bool.or_eq_true, Bool.not_eq_true', Int.not_le, Int.not_lt] at hc0
 obtain rfl : k = xs.length := by omega
 refine sy_exit ?_
 repeat refine sy_tx ?_
 refine sy_bx ?_
 exact sy_fall (vs := []) rfl .nil rfl ⟨T1, hI, rfl, rfl, rfl⟩ (fun _ h => h)
theorem c_AppSeq (xs : List Int) (a : Option Addr) (c b1 : Nat) (hl : xs.length ≤ 1000000) (H : Heap) (R : Facts) [hR : MemRows a 1 (irows xs) R] :
    Fn Try.prog 145 [.slice none 0 0, .func (.func 139) #[] #[.pointer (some ⟨b1, 0, none⟩)]] ((b1, cel 34 [.slice a xs.length c]) :: H) R (fun v H' R' => ∃ o : OSl 3 1 (irows xs), v = o.fs ∧ H' = o.G ++ H ∧ R' = R) := by
 refine fnM_of Try.func145 rfl Try.ntmps145 rfl ?_
 refine sy_seq ?_
 refine sy_tx' [0, 1] rfl ?_
 refine bx rfl rfl rfl (fun b2 => ?_)
 refine sp rfl (PE.assign rfl) rfl ?_
 refine sy_seq ?_
 refine sy_seq ?_
 refine sy_tx' [0] rfl ?_
 refine sp rfl (PE.move rfl) rfl ?_
 refine sy_block ?_
 refine sy_range rfl cal139 (fun c0 bl0 bd0 hcp0 hca0 hcb0 hck0 => ?_)
 refine ⟨fun st pend T1 R' => R' = R ∧ pend = none ∧ ∃ o : OSl 3 1 (irows xs), T1 = (bd0, .deferred (some [])) :: (b1, cel 34 [.slice a xs.length c]) :: (o.G ++ ((b2, cel 34 [o.fs]) :: H)),
   Fn.mono (Fn.heapP (H' := (b1, cel 34 [.slice a xs.length c]) :: ((bl0, lob c0 .ready none) :: (bd0, .deferred (some [])) :: (b2, cel 34 [.slice none 0 0]) :: H)) (List.perm_middle (l₁ := [(bl0, lob c0 .ready none), (bd0, .deferred (some [])), (b2, cel 34 [.slice none 0 0])]) (a := (b1, cel 34 [.slice a xs.length c])))
     (c_vals1 xs a c b1 bl0 (by omega) (fun k T1 => ∃ o : OSl 3 1 (irows (xs.take k)), T1 = (bl0, lob c0 .ready none) :: (bd0, .deferred (some [])) :: (o.G ++ ((b2, cel 34 [o.fs]) :: H))) _ ⟨OSl.nil _ _, rfl⟩ _ (fun k x T1 hx hI => ?_))) (fun v H' R' h => ?_), ?_⟩
 rotate_left
 · obtain ⟨T', ⟨o, rfl⟩, _, rfl, rfl⟩ := h
   exact ⟨.ready, none, (bd0, .deferred (some [])) :: (b1, cel 34 [.slice a xs.length c]) :: (o.G ++ ((b2, cel 34 [o.fs]) :: H)), by simp, (List.Perm.swap _ _ _).trans (List.Perm.cons _ (.swap _ _ _)), rfl, rfl, o.cast (by rw [List.take_length]), rfl⟩
 rotate_left
 obtain ⟨o, rfl⟩ := hI
 refine yd_of hcp0 hca0 hcb0 hck0 rfl ?_
 refine sy_tx' [0] rfl ?_
 refine sp rfl (PE.assign rfl) rfl ?_
 refine sy_beginRound ?_
 refine sy_block ?_
 refine sy_tx' [0, 1, 2, 3, 4] rfl ?_
 refine spL rfl rfl (lh sc34 rfl rfl) rfl ?_
 refine sp rfl (PE.move rfl) rfl ?_
 refine bsl (out := [_]) rfl sl34 zl3 rfl rfl rfl rfl rfl rfl (fun b10 => ?_)
 refine apO (o) rfl ap34 rfl rfl (rowsH (row := [.int .i64 x]) rfl) rfl rfl ((by simp only [irows, List.length_map, List.length_singleton, List.length_take]; omega)) rfl (fun o11 => ?_)
 refine stoE (l' := [o11.fs]) rfl rfl rfl cn34 rfl (by rw [o11.cells.1]; first | done | rfl) (by rw [o11.cells.1]; simp [o11.cells.2]) (by rw [o11.cells.1]; first | done | rfl) (by rw [o11.cells.1]; first | done | exact Nat.le_refl _) ?_
 exact sy_roundOn ⟨rfl, ⟨_, ⟨o11.cast (by rw [List.take_add_one, hx]; simp [irows, List.map_take]), rfl⟩, rfl⟩, rfl⟩ (fun w h => ((h.del b10).pull b1))
 rintro _ _ _ _ ⟨rfl, rfl, o, rfl⟩
 refine sy_jn ?_
 refine sy_seq ?_
 refine sy_tx' [0, 1] rfl ?_
 refine spL rfl rfl (lh sc34 rfl rfl) rfl ?_
 refine sp rfl (PE.assign rfl) rfl ?_
 refine sy_ret ?_
 exact sy_returnM [bd0] (fun _ h => h) rfl (.cons (RV.tmp rfl) .nil) rfl ⟨o, rfl, rfl, rfl⟩ (fun w h => (h.del b1).del b2)
theorem c_Collect (xs : List Int) (a : Option Addr) (c b1 : Nat) (hl : xs.length ≤ 1000000) (H : Heap) (R : Facts) [hR : MemRows a 1 (irows xs) R] :
    Fn Try.prog 137 [.func (.func 139) #[] #[.pointer (some ⟨b1, 0, none⟩)]] ((b1, cel 34 [.slice a xs.length c]) :: H) R (fun v H' R' => ∃ o : OSl 3 1 (irows xs), v = o.fs ∧ H' = o.G ++ H ∧ R' = R) := by
 refine fn_of Try.func137 rfl Try.ntmps137 rfl ?_
 refine sy_seq ?_
 refine sy_tx' [0] rfl ?_
 refine sp rfl (PE.assign rfl) rfl ?_
 refine sy_seq ?_
 refine sy_tx' [0, 1, 2] rfl ?_
 refine sp rfl (PE.move rfl) rfl ?_
 refine cl rfl cal145 rfl rfl (c_AppSeq xs a c b1 hl _ _) ?_
 rintro _ _ R1 ⟨o, rfl, rfl, hR1⟩
 obtain rfl := hR1.symm
 clear hR1
 refine sp rfl (PE.assign rfl) rfl ?_
 refine sy_ret ?_
 exact sy_return (vs := [_]) rfl (.cons (RV.tmp rfl) .nil) rfl ⟨o, rfl, rfl, rfl⟩ (fun _ h => h)
theorem c_Sorted (xs : List Int) (a : Option Addr) (c b1 : Nat) (hl : xs.length ≤ 12) (H : Heap) (R : Facts) [hR : MemRows a 1 (irows xs) R] :
    Fn Try.prog 119 [.func (.func 139) #[] #[.pointer (some ⟨b1, 0, none⟩)]] ((b1, cel 34 [.slice a xs.length c]) :: H) R (fun v H' R' => ∃ ys, ∃ o : OSl 3 1 (irows ys), SrtI xs ys xs.length ∧ v = o.fs ∧ H' = o.G ++ H ∧ R' = R) := by
 refine fn_of Try.func119 rfl Try.ntmps119 rfl ?_
 refine sy_seq ?_
 refine sy_tx' [0] rfl ?_
 refine sp rfl (PE.assign rfl) rfl ?_
 refine sy_seq ?_
 refine sy_tx' [0, 1, 2] rfl ?_
 refine sp rfl (PE.move rfl) rfl ?_
 refine cl rfl cal137 rfl rfl (c_Collect xs a c b1 (by omega) _ _) ?_
 rintro _ _ R1 ⟨o, rfl, rfl, hR1⟩
 obtain rfl := hR1.symm
 clear hR1
 refine sp rfl (PE.assign rfl) rfl ?_
 refine sy_seq ?_
 refine sy_tx' [0, 1] rfl ?_
 refine sp rfl (PE.move rfl) rfl ?_
 refine cl rfl cal138 rfl rfl (c_Sort xs o hl _ _) ?_
 rintro _ _ R1 ⟨ys, o', hs, hof, rfl, rfl, hR1⟩
 obtain rfl := hR1.symm
 clear hR1
 rw [← hof]
 refine sy_seq ?_
 refine sy_tx' [0, 1] rfl ?_
 refine sp rfl (PE.move rfl) rfl ?_
 refine sp rfl (PE.assign rfl) rfl ?_
 refine sy_ret ?_
 exact sy_return (vs := [_]) rfl (.cons (RV.tmp rfl) .nil) rfl ⟨ys, o', hs, rfl, rfl, rfl⟩ (fun _ h => h)
theorem c_Compact (l : List Int) (o : OSl 3 1 (irows l)) (hl : l.length ≤ 1000) (H : Heap) (R : Facts) :
    Fn Try.prog 121 [o.fs] (o.G ++ H) R (fun v H' R' => ∃ a m c', v = .slice a m c' ∧ ((m = l.length ∧ ∀ p, p + 1 < l.length → nn l p ≠ nn l (p + 1)) ∨ (m < l.length ∧ ∃ p, p + 1 < l.length ∧ nn l p = nn l (p + 1))) ∧ H' = H ∧ R' = R) := by
 obtain ⟨a, c, he, hcc, _⟩ := o.freezeC
 rw [show (irows l).length = l.length from List.length_map _] at he hcc
 refine fn_of Try.func121 rfl Try.ntmps121 rfl ?_
 refine sy_seq ?_
 refine sy_tx' [0] rfl ?_
 refine sp rfl (PE.assign rfl) rfl ?_
 refine sy_seq ?_
 refine sy_seq ?_
 refine sy_tx' [0, 1, 2] rfl ?_
 refine sp rfl (PE.move rfl) rfl ?_
 refine sp rfl (PE.lenSl isl34 (congrArg some he)) rfl ?_
 refine sp rfl (PE.lss rfl rfl) rfl ?_
 refine sy_cond rfl (fun hc0 => ?_) (fun hc0 => ?_)
 try simp only [decide_eq_true_eq, decide_eq_false_iff_not, Bool.and_eq_true, Bool.or_eq_true, Bool.not_eq_true', Int.not_le, Int.not_lt] at hc0
 rw [he]
 refine sy_seq ?_
 refine sy_tx' [0, 1] rfl ?_
 refine sp rfl (PE.move rfl) rfl ?_
 refine sp rfl (PE.assign rfl) rfl ?_
 refine sy_ret ?_
 exact sy_return (vs := [_]) rfl (.cons (RV.tmp rfl) .nil) rfl ⟨a, l.length, c, rfl, .inl ⟨rfl, fun p hp => by omega⟩, rfl, rfl⟩ (fun w h => St.drop h)
 try simp only [decide_eq_true_eq, decide_eq_false_iff_not, Bool.and_eq_true, Bool.or_eq_true, Bool.not_eq_true', Int.not_le, Int.not_lt] at hc0
 have hir : (irows l).length = l.length := List.length_map _
 obtain ⟨b, cap, junk, hfs, hG, hj, hcap, hmx⟩ := o.is.resolve_left (fun h => by rw [h.1] at hir; simp at hir; omega)
 rw [hir] at hfs hcap hj
 rw [hfs, hG, irows_flat']
 refine Sy.heap (H' := (b, cel 3 (ints l ++ junk)) :: H) (fun w h => h) ?_
 clear he
 refine sy_skip ?_
 refine sy_seq ?_
 refine sy_seq ?_
 refine sy_tx' [0] rfl ?_
 refine sp rfl (PE.assign rfl) rfl ?_
 refine sy_block ?_
 refine sy_loop (ι := {k : Nat // 1 ≤ k ∧ k ≤ l.length ∧ ∀ p, p + 1 < k → nn l p ≠ nn l (p + 1)}) (fun k => ⟨[(0, .slice (some ⟨b, 0, none⟩) l.length cap), (3, .int .i64 k.1)], (b, cel 3 (ints l ++ junk)) :: H, R⟩) (fun k => l.length - k.1) ⟨1, by omega, by omega, fun p hp => by omega⟩ ?_ (fun k => ?_)
 exact sy_at (by repeat' first | exact Sub.nil | apply Sub.cons | rfl | (simp [lk]; omega)) (fun _ h => h)
 obtain ⟨k, hk1, hk2, hne⟩ := k
 dsimp only at hk1 hk2 hne ⊢
 refine sy_seq ?_
 refine sy_seq ?_
 refine sy_tx' [0, 1, 2, 3] rfl ?_
 refine sp rfl (PE.move rfl) rfl ?_
 refine sp rfl (PE.move rfl) rfl ?_
 refine sp rfl (PE.lenSl isl34 rfl) rfl ?_
 refine sp rfl (PE.lss rfl rfl) rfl ?_
 refine sy_cond rfl (fun hc1 => ?_) (fun hc1 => ?_)
 try simp only [decide_eq_true_eq, decide_eq_false_iff_not, Bool.and_eq_true, Bool.or_eq_true, Bool.not_eq_true', Int.not_le, Int.not_lt] at hc1
 refine sy_skip ?_
 refine sy_seq ?_
 refine sy_block ?_
 refine sy_seq ?_
 refine sy_draw [0, 0, 3, 7, 0, 0, 32, 112, 240, 511] (.tk 0 (.tk 1 (.tk 2 (.ld 3 (.tk 4 (.tk 5 (.tk 6 (.tk 7 (.ld 8 (.tk 9 .done)))))))))) mixed (by kernel_rfl) ?_
 refine tk rfl (PE.move rfl) rfl ?_
 refine tk rfl (PE.move rfl) rfl ?_
 refine tk rfl (PE.indexAddr el34 rfl rfl (by omega) (by omega)) rfl ?_
 refine ld rfl rfl (lh sc3 rfl (int_at (by omega))) rfl ?_
 refine tk rfl (PE.move rfl) rfl ?_
 refine tk rfl (PE.move rfl) rfl ?_
 refine tk rfl (PE.sub rfl rfl (by omega)) rfl ?_
 rw [show (k : Int) - 1 = ((k - 1 : Nat) : Int) from by omega]
 refine tk rfl (PE.indexAddr el34 rfl rfl (by omega) (by omega)) rfl ?_
 refine ld rfl rfl (lh sc3 rfl (int_at (by omega))) rfl ?_
 refine tk rfl (PE.eql rfl rfl) rfl ?_
 refine sy_cond rfl (fun hc2 => ?_) (fun hc2 => ?_)
 try simp only [decide_eq_true_eq, decide_eq_false_iff_not, Bool.and_eq_true, Bool.or_eq_true, Bool.not_eq_true', Int.not_le, Int.not_lt] at hc2
 refine sy_seq ?_
 refine sy_tx' [0, 1, 2, 3] rfl ?_
 refine sp rfl (PE.move rfl) rfl ?_
 refine sp rfl (PE.move rfl) rfl ?_
 refine sp rfl (PE.slLo sl34 rfl rfl (by omega) (by omega)) rfl ?_
 refine sp rfl (PE.assign rfl) rfl ?_
 refine sy_seq ?_
 refine sy_seq ?_
 refine sy_tx' [0] rfl ?_
 refine sp rfl (PE.assign rfl) rfl ?_
 refine sy_block ?_
 refine sy_loop (ι := {x : Nat × Nat × List Int // k ≤ x.1 ∧ x.1 + 1 ≤ k + x.2.1 ∧ 1 ≤ x.2.1 ∧ x.2.1 ≤ l.length - k ∧ x.2.2.length = l.length}) (fun x => ⟨[(0, .slice (some ⟨b, 0, none⟩) l.length cap), (3, .int .i64 x.1.1), (4, .slice (some ⟨b, 0 + k * 1, none⟩) (l.length - k) (cap - k)), (5, .int .i64 x.1.2.1)], (b, cel 3 (ints x.1.2.2 ++ junk)) :: H, R⟩) (fun x => l.length - x.1.2.1) ⟨(k, 1, l), by dsimp only; omega, by dsimp only; omega, by dsimp only; omega, by dsimp only; omega, rfl⟩ ?_ (fun x => ?_)
 exact sy_at (by repeat' first | exact Sub.nil | apply Sub.cons | rfl | (simp [lk]; omega)) (fun _ h => h)
 obtain ⟨⟨m, q, ys⟩, hm1, hm2, hq1, hq2, hyl⟩ := x
 dsimp only at hm1 hm2 hq1 hq2 hyl ⊢
 refine sy_seq ?_
 refine sy_seq ?_
 refine sy_tx' [0, 1, 2, 3] rfl ?_
 refine sp rfl (PE.move rfl) rfl ?_
 refine sp rfl (PE.move rfl) rfl ?_
 refine sp rfl (PE.lenSl isl34 rfl) rfl ?_
 refine sp rfl (PE.lss rfl rfl) rfl ?_
 refine sy_cond rfl (fun hc3 => ?_) (fun hc3 => ?_)
 try simp only [decide_eq_true_eq, decide_eq_false_iff_not, Bool.and_eq_true, Bool.or_eq_true, Bool.not_eq_true', Int.not_le, Int.not_lt] at hc3
 refine sy_skip ?_
 refine sy_seq ?_
 refine sy_block ?_
 refine sy_seq ?_
 refine sy_draw [0, 0, 3, 7, 0, 0, 32, 112, 240, 511] (.tk 0 (.tk 1 (.tk 2 (.ld 3 (.tk 4 (.tk 5 (.tk 6 (.tk 7 (.ld 8 (.tk 9 .done)))))))))) mixed (by kernel_rfl) ?_
 refine tk rfl (PE.move rfl) rfl ?_
 refine tk rfl (PE.move rfl) rfl ?_
 refine tk rfl (PE.indexAddr el34 rfl rfl (by omega) (by omega)) rfl ?_
 refine ld rfl rfl (lh sc3 rfl (int_at2 (by omega))) rfl ?_
 refine tk rfl (PE.move rfl) rfl ?_
 refine tk rfl (PE.move rfl) rfl ?_
 refine tk rfl (PE.sub rfl rfl (by omega)) rfl ?_
 rw [show (q : Int) - 1 = ((q - 1 : Nat) : Int) from by omega]
 refine tk rfl (PE.indexAddr el34 rfl rfl (by omega) (by omega)) rfl ?_
 refine ld rfl rfl (lh sc3 rfl (int_at2 (by omega))) rfl ?_
 refine tk rfl (PE.neq rfl rfl) rfl ?_
 refine sy_cond rfl (fun hc4 => ?_) (fun hc4 => ?_)
 try simp only [decide_eq_true_eq, decide_eq_false_iff_not, Bool.and_eq_true, Bool.or_eq_true, Bool.not_eq_true', Int.not_le, Int.not_lt] at hc4
 refine sy_seq ?_
 refine sy_tx' [0, 1, 2, 3, 4, 5, 6, 7] rfl ?_
 refine sp rfl (PE.move rfl) rfl ?_
 refine sp rfl (PE.move rfl) rfl ?_
 refine sp rfl (PE.move rfl) rfl ?_
 refine sp rfl (PE.move rfl) rfl ?_
 refine sp rfl (PE.indexAddr el34 rfl rfl (by omega) (by omega)) rfl ?_
 refine spL rfl rfl (lh sc3 rfl (int_at2 (by omega))) rfl ?_
 refine sp rfl (PE.indexAddr el34 rfl rfl (by omega) (by omega)) rfl ?_
 refine stoE (l' := ints ((ys).set m (nn ys (k + q))) ++ junk) rfl rfl rfl cn3 rfl rfl rfl (spl_int (show m < ys.length by omega) _) (by rw [List.length_append, ints_length]; show 0 + ((m : Nat) : Int).toNat * 1 + 1 ≤ _; have := (show m < ys.length by omega); omega) ?_
 refine sy_tx' [0, 1, 2] rfl ?_
 refine sp rfl (PE.move rfl) rfl ?_
 refine sp rfl (PE.add rfl rfl (by omega)) rfl ?_
 refine sp rfl (PE.assign rfl) rfl ?_
 refine sy_tx' [0, 1, 2] rfl ?_
 refine sp rfl (PE.move rfl) rfl ?_
 refine sp rfl (PE.add rfl rfl (by omega)) rfl ?_
 refine sp rfl (PE.assign rfl) rfl ?_
 exact sy_next ⟨(m + 1, q + 1, ys.set m (nn ys (k + q))), by dsimp only; omega, by dsimp only; omega, by dsimp only; omega, by dsimp only; omega, by rw [List.length_set]; exact hyl⟩ (by dsimp only; omega) (by repeat' first | exact Sub.nil | apply Sub.cons | rfl | (simp [lk]; omega)) (fun _ h => h)
 try simp only [decide_eq_true_eq, decide_eq_false_iff_not, Bool.and_eq_true, Bool.or_eq_true, Bool.not_eq_true', Int.not_le, Int.not_lt] at hc4
 refine sy_skip ?_
 refine sy_tx' [0, 1, 2] rfl ?_
 refine sp rfl (PE.move rfl) rfl ?_
 refine sp rfl (PE.add rfl rfl (by omega)) rfl ?_
 refine sp rfl (PE.assign rfl) rfl ?_
 exact sy_next ⟨(m, q + 1, ys), by dsimp only; omega, by dsimp only; omega, by dsimp only; omega, by dsimp only; omega, hyl⟩ (by dsimp only; omega) (by repeat' first | exact Sub.nil | apply Sub.cons | rfl | (simp [lk]; omega)) (fun _ h => h)
 try simp only [decide_eq_true_eq, decide_eq_false_iff_not, Bool.and_eq_true, Bool.or_eq_true, Bool.not_eq_true', Int.not_le, Int.not_lt] at hc3
 refine sy_exit ?_
 repeat refine sy_tx ?_
 refine sy_bx ?_
 refine sy_seq ?_
 refine sy_tx' [0, 1, 2, 3] rfl ?_
 refine sp rfl (PE.move rfl) rfl ?_
 refine sp rfl (PE.move rfl) rfl ?_
 refine sp rfl (PE.slLo sl34 rfl rfl (by omega) (by omega)) rfl ?_
 refine clrA rfl rfl sl34 zl3 rfl rfl rfl (by rw [List.length_append, ints_length]; omega) ?_
 refine sy_seq ?_
 refine sy_tx' [0, 1, 2, 3] rfl ?_
 refine sp rfl (PE.move rfl) rfl ?_
 refine sp rfl (PE.move rfl) rfl ?_
 refine sp rfl (PE.slHi sl34 rfl rfl (by omega)) rfl ?_
 refine sp rfl (PE.assign rfl) rfl ?_
 refine sy_ret ?_
 first
   | exact sy_return (vs := [_]) rfl (.cons (RV.tmp rfl) .nil) rfl ⟨_, m, cap, rfl, .inr ⟨by omega, k - 1, by omega, by rw [show k - 1 + 1 = k from by omega]; exact hc2.symm⟩, rfl, rfl⟩ (fun w h => h.del b)
   | exact sy_return (vs := [_]) rfl (.cons (RV.tmp rfl) .nil) rfl ⟨_, l.length, cap, rfl, .inl ⟨rfl, hne⟩, rfl, rfl⟩ (fun w h => h.del b)
 try simp only [decide_eq_true_eq, decide_eq_false_iff_not, Bool.and_eq_true, Bool.or_eq_true, Bool.not_eq_true', Int.not_le, Int.not_lt] at hc2
 refine sy_skip ?_
 refine sy_tx' [0, 1, 2] rfl ?_
 refine sp rfl (PE.move rfl) rfl ?_
 refine sp rfl (PE.add rfl rfl (by omega)) rfl ?_
 refine sp rfl (PE.assign rfl) rfl ?_
 exact sy_next ⟨k + 1, by omega, by omega, fun p hp => by rcases Nat.lt_or_ge (p + 1) k with h1 | h1; exact hne p h1; obtain rfl : p + 1 = k := (by omega); simp only [Nat.add_sub_cancel] at hc2; exact fun e => hc2 e.symm⟩ (by dsimp only; omega) (by repeat' first | exact Sub.nil | apply Sub.cons | rfl | (simp [lk]; omega)) (fun _ h => h)
 try simp only [decide_eq_true_eq, decide_eq_false_iff_not, Bool.and_eq_true, Bool.or_eq_true, Bool.not_eq_true', Int.not_le, Int.not_lt] at hc1
 obtain rfl : k = l.length := by omega
 refine sy_exit ?_
 repeat refine sy_tx ?_
 refine sy_bx ?_
 refine sy_seq ?_
 refine sy_tx' [0, 1] rfl ?_
 refine sp rfl (PE.move rfl) rfl ?_
 refine sp rfl (PE.assign rfl) rfl ?_
 refine sy_ret ?_
 first
   | exact sy_return (vs := [_]) rfl (.cons (RV.tmp rfl) .nil) rfl ⟨_, m, cap, rfl, .inr ⟨by omega, k - 1, by omega, by rw [show k - 1 + 1 = k from by omega]; exact hc2.symm⟩, rfl, rfl⟩ (fun w h => h.del b)
   | exact sy_return (vs := [_]) rfl (.cons (RV.tmp rfl) .nil) rfl ⟨_, l.length, cap, rfl, .inl ⟨rfl, hne⟩, rfl, rfl⟩ (fun w h => h.del b)
end Go.Proofs.Ytknoaljnelfklaa
namespace Go.Proofs.Ytknoaljnelfklaa
set_option linter.unusedSimpArgs false
set_option linter.unusedVariables false
open Go
theorem cal105 : cal Try.prog 105 = true := by kernel_rfl
theorem cal119 : cal Try.prog 119 = true := by kernel_rfl
theorem cal120 : cal Try.prog 120 = true := by kernel_rfl
theorem cal121 : cal Try.prog 121 = true := by kernel_rfl
def letE (g : Gat) (c : Crt) (n k : Int) : Int := bif decide (bothE g c ≠ 0) then bothE g c else bif !(inb n 0 ((c.hs.length : Int) - 1)) || !(inb k 0 3) then 1 else match c.hs[n.toNat]? with
  | some h => bif decide ((letS g.miss h k.toNat).2 < (letS g.miss h k.toNat).1) then 6 else 0
  | none => 1
def letP (g : Gat) (c : Crt) (n k : Int) : Int × Int := bif decide (letE g c n k ≠ 0) then (0, 0) else match c.hs[n.toNat]? with
  | some h => letS g.miss h k.toNat
  | none => (0, 0)
theorem letP_no {g : Gat} {c : Crt} {n k e : Int} (h : letE g c n k = e) (h0 : e ≠ 0) : letP g c n k = (0, 0) := by
  unfold letP; rw [h, decide_eq_true h0]; rfl
theorem letE_bad {g : Gat} {c : Crt} {n k : Int} (h0 : bothE g c = 0) (h : inb n 0 ((c.hs.length : Int) - 1) = false ∨ inb k 0 3 = false) : letE g c n k = 1 := by
  unfold letE
  rw [decide_eq_false (by omega)]
  rcases h with h | h <;> rw [h] <;> simp
theorem letE_at {g : Gat} {c : Crt} {i k : Nat} {h : Hnd} (h0 : bothE g c = 0) (hh : c.hs[i]? = some h) (hk : k < 4) : letE g c i k = bif decide ((letS g.miss h k).2 < (letS g.miss h k).1) then 6 else 0 := by
  have hi := (List.getElem?_eq_some_iff.1 hh).1
  unfold letE
  rw [decide_eq_false (by omega), show inb (i : Int) 0 ((c.hs.length : Int) - 1) = true by simp [inb]; omega, show inb (k : Int) 0 3 = true by simp [inb]; omega]
  simp only [Bool.not_true, Bool.or_self, cond_false, Int.toNat_natCast, hh]
theorem letP_at {g : Gat} {c : Crt} {i k : Nat} {h : Hnd} (h0 : bothE g c = 0) (hh : c.hs[i]? = some h) (hk : k < 4) (hl : (letS g.miss h k).1 ≤ (letS g.miss h k).2) : letP g c i k = letS g.miss h k := by
  unfold letP
  rw [letE_at h0 hh hk, decide_eq_false (show ¬ (letS g.miss h k).2 < (letS g.miss h k).1 by omega)]
  simp only [cond_false, ne_eq, not_true_eq_false, decide_false, Int.toNat_natCast, hh]
theorem agrE_0 {g : Gat} {c : Crt} {l : List Int} (h0 : bothE g c = 0) (h1 : (l.all fun i => inb i 0 ((c.hs.length : Int) - 1)) = true) (h2 : l.Nodup) : agrE g c l = 0 := by
  unfold agrE
  rw [decide_eq_false (by omega), h1, decide_eq_true h2]; rfl
theorem agrR_no {g : Gat} {c : Crt} {l : List Int} {e : Int} (h : agrE g c l = e) (h0 : e ≠ 0) : agrR g c l = false := by
  unfold agrR; rw [h, decide_eq_true h0]; rfl
theorem agrR_0 {g : Gat} {c : Crt} {l : List Int} (h : agrE g c l = 0) : agrR g c l = agr g.miss c.hs (flt l) := by
  unfold agrR; rw [h]; rfl
theorem c_hasHnd (g : Gat) (hg : g.ok) (ag : Option Addr) (cg : Nat) (c : Crt) (hc : c.ok) (ah : Option Addr) (ch : Nat) (bw : Nat) (n : Int) (H : Heap) (R : Facts) [hW : MemRows (some ⟨bw, 0, none⟩) 6 [wrow g c (g.sl ag cg) (c.sl ah ch)] R] [hG : MemRows ag 5 (grows g.grs) R] [hA : MemRows ah 5 (hrows c.hs) R] :
    FnV Try.prog 105 [.pointer (some ⟨bw, 0, none⟩), .int .i64 n] H R (.bool (inb n 0 ((c.hs.length : Int) - 1))) := by
 refine fn_of Try.func105 rfl Try.ntmps105 rfl ?_
 refine sy_seq ?_
 refine sy_tx' [0] rfl ?_
 refine sp rfl (PE.assign rfl) rfl ?_
 refine sy_seq ?_
 refine sy_tx' [0, 1, 2, 3, 4, 5, 6, 7, 8, 9] rfl ?_
 refine sp rfl (PE.move rfl) rfl ?_
 refine sp rfl (PE.move rfl) rfl ?_
 refine sp rfl (PE.nilCheck rfl) rfl ?_
 refine sp rfl (PE.fieldAddr fo163_0 rfl) rfl ?_
 refine sp rfl (PE.fieldAddr fo28_2 rfl) rfl ?_
 refine spL rfl rfl (lfB (sz := 6) sc26 rfl) rfl ?_
 refine sp rfl (PE.lenSl isl26 rfl) rfl ?_
 refine sp rfl (PE.sub rfl rfl (by have := hc.many; omega)) rfl ?_
 refine clV rfl cal79 rfl rfl (c_in _ _ _ _ _) ?_
 refine sp rfl (PE.assign rfl) rfl ?_
 refine sy_ret ?_
 exact sy_return (vs := [_]) rfl (.cons (RV.tmp rfl) .nil) rfl ⟨rfl, rfl, rfl⟩ drp
theorem c_Lets (g : Gat) (ag : Option Addr) (cg : Nat) (hlg : g.grs.length ≤ 9223372036854775807) (c : Crt) (ah : Option Addr) (ch : Nat) (hlh : c.hs.length ≤ 9223372036854775807) (n k : Int) (H : Heap) (R : Facts) [hG : MemRows ag 5 (grows g.grs) R] [hA : MemRows ah 5 (hrows c.hs) R] :
    FnV Try.prog 58 [g.v (g.sl ag cg), c.v (c.sl ah ch), .int .i64 n, .int .i64 k] H R (.tuple #[spv (letP g c n k).1 (letP g c n k).2, .int .i64 (letE g c n k)]) := by
 refine fn_of Try.func58 rfl Try.ntmps58 rfl ?_
 refine sy_seq ?_
 refine sy_tx' [0, 1, 2, 3] rfl ?_
 refine bx rfl rfl rfl (fun b4 => ?_)
 refine bx rfl rfl rfl (fun b5 => ?_)
 refine alc rfl zl41 rfl (fun b8 => ?_)
 refine sp rfl (PE.assign rfl) rfl ?_
 refine sy_seq ?_
 refine sy_tx' [0, 1, 2, 3, 4, 5, 6, 7] rfl ?_
 refine spL rfl rfl (lhA [_, _, _] ag25 rfl rfl rfl) rfl ?_
 refine spL rfl rfl (lhA [_, _, _] ag28 rfl rfl rfl) rfl ?_
 refine cl rfl cal75 rfl rfl (c_opened g ag cg hlg c ah ch hlh _ _) ?_
 rintro _ _ _ ⟨rfl, ho⟩
 rcases ho with ⟨hne, rfl, rfl⟩ | ⟨hg, hc, h0, bw, rfl, rfl⟩
 refine sp rfl (PE.move rfl) rfl ?_
 refine sp rfl (PE.extract rfl rfl) rfl ?_
 refine sp rfl (PE.extract rfl rfl) rfl ?_
 refine sp rfl (PE.assign rfl) rfl ?_
 refine sp rfl (PE.assign rfl) rfl ?_
 refine sy_seq ?_
 refine sy_seq ?_
 refine sy_tx' [0, 1] rfl ?_
 refine sp rfl (PE.move rfl) rfl ?_
 refine sp rfl (PE.neq rfl rfl) rfl ?_
 refine sy_cond rfl (fun hc0 => ?_) (fun hc0 => ?_)
 have he2 : letE g c n k = bothE g c := by unfold letE; rw [decide_eq_true hne]; rfl
 have he1 := letP_no he2 hne
 refine sy_seq ?_
 refine sy_tx' [0, 1, 2, 3] rfl ?_
 refine sp rfl (PE.build (out := [_, _]) pl41 zl41 rfl rfl) rfl ?_
 refine sp rfl (PE.move rfl) rfl ?_
 refine sto rfl rfl rfl cn41 rfl rfl rfl rfl ?_
 refine sp rfl (PE.assign rfl) rfl ?_
 refine sy_ret ?_
 exact sy_return (vs := [_, _]) rfl (.cons (RV.cell rfl (lhA [_, _] ag41 rfl rfl rfl)) (.cons (RV.tmp rfl) .nil)) (by rw [he1, he2]; rfl) ⟨rfl, rfl, rfl⟩ drp
 exact absurd hc0 (by simp [hne])
 refine sp rfl (PE.move rfl) rfl ?_
 refine sp rfl (PE.extract rfl rfl) rfl ?_
 refine sp rfl (PE.extract rfl rfl) rfl ?_
 refine sp rfl (PE.assign rfl) rfl ?_
 refine sp rfl (PE.assign rfl) rfl ?_
 refine sy_seq ?_
 refine sy_seq ?_
 refine sy_tx' [0, 1] rfl ?_
 refine sp rfl (PE.move rfl) rfl ?_
 refine sp rfl (PE.neq rfl rfl) rfl ?_
 refine sy_cond rfl (fun hc0 => ?_) (fun hc0 => ?_)
 exact absurd hc0 (by simp)
 have hmany := hc.many
 refine sy_skip ?_
 refine sy_seq ?_
 refine sy_tx' [0, 1, 2] rfl ?_
 refine sp rfl (PE.move rfl) rfl ?_
 refine sp rfl (PE.makeFunc rfl rfl) rfl ?_
 refine sp rfl (PE.assign rfl) rfl ?_
 refine sy_seq ?_
 refine sy_seq ?_
 refine sy_tx' [0, 1, 2, 3, 4, 5, 6, 7, 8] rfl ?_
 refine sp rfl (PE.move rfl) rfl ?_
 refine sp rfl (PE.move rfl) rfl ?_
 refine clFV rfl rfl (cal105) rfl rfl (c_hasHnd g hg ag cg c hc ah ch bw n _ _) ?_
 refine sp rfl (PE.not rfl) rfl ?_
 refine sp rfl (PE.move rfl) rfl ?_
 refine sy_case (t := 30) rfl (fun g30 => ?_) (fun g30 => ?_)
 have hin : inb n 0 ((c.hs.length : Int) - 1) = false := by rw [← Bool.not_eq_true']; exact g30
 have he2 := letE_bad (k := k) h0 (.inl hin)
 have he1 := letP_no he2 (by decide)
 repeat refine spN rfl rfl rfl rfl rfl rfl rfl rfl ?_
 refine sp rfl (PE.pick rfl rfl rfl) rfl ?_
 refine sy_condT rfl ?_
 refine sy_seq ?_
 refine sy_tx' [0, 1, 2] rfl ?_
 refine sp rfl (PE.build (out := [_, _]) pl41 zl41 rfl rfl) rfl ?_
 refine sto rfl rfl rfl cn41 rfl rfl rfl rfl ?_
 refine sp rfl (PE.assign rfl) rfl ?_
 refine sy_ret ?_
 exact sy_return (vs := [_, _]) rfl (.cons (RV.cell rfl (lhA [_, _] ag41 rfl rfl rfl)) (.cons (RV.tmp rfl) .nil)) (by rw [he1, he2]; rfl) ⟨rfl, rfl, rfl⟩ drp
 have hin : inb n 0 ((c.hs.length : Int) - 1) = true := by rw [← Bool.not_eq_false']; exact g30
 refine spG rfl rfl rfl rfl (PE.move rfl) rfl ?_
 refine clVG rfl rfl rfl rfl cal79 rfl rfl (c_in _ _ _ _ _) ?_
 refine spG rfl rfl rfl rfl (PE.not rfl) rfl ?_
 refine sp rfl (PE.pick rfl rfl rfl) rfl ?_
 refine sy_cond rfl (fun hc1 => ?_) (fun hc1 => ?_)
 have hik : inb k 0 3 = false := by rw [← Bool.not_eq_true']; exact hc1
 have he2 := letE_bad (n := n) h0 (.inr hik)
 have he1 := letP_no he2 (by decide)
 refine sy_seq ?_
 refine sy_tx' [0, 1, 2] rfl ?_
 refine sp rfl (PE.build (out := [_, _]) pl41 zl41 rfl rfl) rfl ?_
 refine sto rfl rfl rfl cn41 rfl rfl rfl rfl ?_
 refine sp rfl (PE.assign rfl) rfl ?_
 refine sy_ret ?_
 exact sy_return (vs := [_, _]) rfl (.cons (RV.cell rfl (lhA [_, _] ag41 rfl rfl rfl)) (.cons (RV.tmp rfl) .nil)) (by rw [he1, he2]; rfl) ⟨rfl, rfl, rfl⟩ drp
 have hik : inb k 0 3 = true := by rw [← Bool.not_eq_false']; exact hc1
 simp only [inb, Bool.and_eq_true, decide_eq_true_eq] at hin hik
 obtain ⟨i, rfl⟩ : ∃ i : Nat, n = i := ⟨n.toNat, by omega⟩
 obtain ⟨q, rfl⟩ : ∃ q : Nat, k = q := ⟨k.toNat, by omega⟩
 have hq4 : q < 4 := by omega
 obtain ⟨h, hh⟩ : ∃ h, c.hs[i]? = some h := ⟨_, List.getElem?_eq_getElem (by omega)⟩
 have hok := hc.hs h (List.mem_of_getElem? hh)
 have hle := letE_at (g := g) h0 hh hq4
 refine sy_addr (a := ah) (sz := 5) (rows := hrows c.hs) (by intro h0; simp [hrows] at h0; simp [h0] at hh) (fun ba oa he => ?_)
 subst he
 refine sy_skip ?_
 refine sy_seq ?_
 refine sy_tx' [0, 1, 2, 3, 4, 5, 6, 7, 8, 9, 10, 11, 12] rfl ?_
 refine sp rfl (PE.move rfl) rfl ?_
 refine sp rfl (PE.move rfl) rfl ?_
 refine sp rfl (PE.nilCheck rfl) rfl ?_
 refine sp rfl (PE.fieldAddr fo163_0 rfl) rfl ?_
 refine sp rfl (PE.fieldAddr fo28_2 rfl) rfl ?_
 refine spL rfl rfl (lfB (sz := 6) sc26 rfl) rfl ?_
 refine sp rfl (PE.move rfl) rfl ?_
 refine sp rfl (PE.indexAddr el26 rfl rfl (by omega) (by omega)) rfl ?_
 refine spL rfl rfl (lfA ag82 (row := hrow h) (hr_get (by simpa using hh)) rfl) rfl ?_
 refine sp rfl (PE.move rfl) rfl ?_
 refine clV rfl cal106 rfl rfl (c_lets g hg ag cg c hc (some ⟨ba, oa, none⟩) ch bw h hok q hq4 _ _) ?_
 refine alc rfl zl41 rfl (fun b13 => ?_)
 refine sto rfl rfl rfl cn41 rfl rfl rfl rfl ?_
 refine sy_seq ?_
 refine sy_seq ?_
 refine sy_tx' [0, 1, 2, 3, 4] rfl ?_
 refine sp rfl (PE.fieldAddr fo41_0 rfl) rfl ?_
 refine spL rfl rfl (lh sc3 rfl rfl) rfl ?_
 refine sp rfl (PE.fieldAddr fo41_1 rfl) rfl ?_
 refine spL rfl rfl (lh sc3 rfl rfl) rfl ?_
 refine sp rfl (PE.gtr rfl rfl) rfl ?_
 refine sy_cond rfl (fun hc2 => ?_) (fun hc2 => ?_)
 try simp only [decide_eq_true_eq, decide_eq_false_iff_not, Bool.and_eq_true, Bool.or_eq_true, Bool.not_eq_true', Int.not_le, Int.not_lt] at hc2
 have he2 : letE g c i q = 6 := by rw [hle, decide_eq_true (by omega)]; rfl
 have he1 := letP_no he2 (by decide)
 refine sy_seq ?_
 refine sy_tx' [0, 1, 2] rfl ?_
 refine sp rfl (PE.build (out := [_, _]) pl41 zl41 rfl rfl) rfl ?_
 refine sto rfl rfl rfl cn41 rfl rfl rfl rfl ?_
 refine sp rfl (PE.assign rfl) rfl ?_
 refine sy_ret ?_
 exact sy_return (vs := [_, _]) rfl (.cons (RV.cell rfl (lhA [_, _] ag41 rfl rfl rfl)) (.cons (RV.tmp rfl) .nil)) (by rw [he1, he2]; rfl) ⟨rfl, rfl, rfl⟩ drp
 try simp only [decide_eq_true_eq, decide_eq_false_iff_not, Bool.and_eq_true, Bool.or_eq_true, Bool.not_eq_true', Int.not_le, Int.not_lt] at hc2
 have he2 : letE g c i q = 0 := by rw [hle, decide_eq_false (by omega)]; rfl
 have he1 := letP_at (g := g) h0 hh hq4 (by omega)
 refine sy_skip ?_
 refine sy_seq ?_
 refine sy_tx' [0, 1, 2] rfl ?_
 refine spL rfl rfl (lhA [_, _] ag41 rfl rfl rfl) rfl ?_
 refine sto rfl rfl rfl cn41 rfl rfl rfl rfl ?_
 refine sp rfl (PE.assign rfl) rfl ?_
 refine sy_ret ?_
 exact sy_return (vs := [_, _]) rfl (.cons (RV.cell rfl (lhA [_, _] ag41 rfl rfl rfl)) (.cons (RV.tmp rfl) .nil)) (by rw [he1, he2]; rfl) ⟨rfl, rfl, rfl⟩ drp
theorem c_Agree (g : Gat) (ag : Option Addr) (cg : Nat) (hlg : g.grs.length ≤ 9223372036854775807) (c : Crt) (ah : Option Addr) (ch : Nat) (hlh : c.hs.length ≤ 9223372036854775807) (l : List Int) (al : Option Addr) (cy : Nat) (hl : l.length ≤ 12) (H : Heap) (R : Facts) [hG : MemRows ag 5 (grows g.grs) R] [hA : MemRows ah 5 (hrows c.hs) R] [hL : MemRows al 1 (irows l) R] :
    FnV Try.prog 69 [g.v (g.sl ag cg), c.v (c.sl ah ch), .slice al l.length cy] H R (.tuple #[.bool (agrR g c l), .int .i64 (agrE g c l)]) := by
 refine fn_of Try.func69 rfl Try.ntmps69 rfl ?_
 refine sy_seq ?_
 refine sy_tx' [0, 1, 2, 3] rfl ?_
 refine bx rfl rfl rfl (fun b3 => ?_)
 refine bx rfl rfl rfl (fun b4 => ?_)
 refine sp rfl (PE.assign rfl) rfl ?_
 refine sp rfl (PE.assign rfl) rfl ?_
 refine sy_seq ?_
 refine sy_tx' [0, 1, 2, 3, 4, 5, 6, 7] rfl ?_
 refine spL rfl rfl (lhA [_, _, _] ag25 rfl rfl rfl) rfl ?_
 refine spL rfl rfl (lhA [_, _, _] ag28 rfl rfl rfl) rfl ?_
 refine cl rfl cal75 rfl rfl (c_opened g ag cg hlg c ah ch hlh _ _) ?_
 rintro _ _ _ ⟨rfl, ho⟩
 rcases ho with ⟨hne, rfl, rfl⟩ | ⟨hg, hc, h0, bw, rfl, rfl⟩
 refine sp rfl (PE.move rfl) rfl ?_
 refine sp rfl (PE.extract rfl rfl) rfl ?_
 refine sp rfl (PE.extract rfl rfl) rfl ?_
 refine sp rfl (PE.assign rfl) rfl ?_
 refine sp rfl (PE.assign rfl) rfl ?_
 refine sy_seq ?_
 refine sy_seq ?_
 refine sy_tx' [0, 1] rfl ?_
 refine sp rfl (PE.move rfl) rfl ?_
 refine sp rfl (PE.neq rfl rfl) rfl ?_
 refine sy_cond rfl (fun hc0 => ?_) (fun hc0 => ?_)
 have he2 : agrE g c l = bothE g c := by unfold agrE; rw [decide_eq_true hne]; rfl
 have he1 := agrR_no he2 hne
 refine sy_seq ?_
 refine sy_tx' [0, 1, 2] rfl ?_
 refine sp rfl (PE.move rfl) rfl ?_
 refine sp rfl (PE.assign rfl) rfl ?_
 refine sp rfl (PE.assign rfl) rfl ?_
 refine sy_ret ?_
 exact sy_return (vs := [_, _]) rfl (.cons (RV.tmp rfl) (.cons (RV.tmp rfl) .nil)) (by rw [he1, he2]; rfl) ⟨rfl, rfl, rfl⟩ drp
 exact absurd hc0 (by simp [hne])
 refine sp rfl (PE.move rfl) rfl ?_
 refine sp rfl (PE.extract rfl rfl) rfl ?_
 refine sp rfl (PE.extract rfl rfl) rfl ?_
 refine sp rfl (PE.assign rfl) rfl ?_
 refine sp rfl (PE.assign rfl) rfl ?_
 refine sy_seq ?_
 refine sy_seq ?_
 refine sy_tx' [0, 1] rfl ?_
 refine sp rfl (PE.move rfl) rfl ?_
 refine sp rfl (PE.neq rfl rfl) rfl ?_
 refine sy_cond rfl (fun hc0 => ?_) (fun hc0 => ?_)
 exact absurd hc0 (by simp)
 refine sy_skip ?_
 refine sy_seq ?_
 refine sy_seq ?_
 refine sy_tx' [0, 1, 2, 3, 4] rfl ?_
 refine sp rfl (PE.move rfl) rfl ?_
 refine sp rfl (PE.move rfl) rfl ?_
 refine sp rfl (PE.makeFunc rfl rfl) rfl ?_
 refine clV rfl cal90 rfl rfl (c_every_int l al cy 105 [.pointer (some ⟨bw, 0, none⟩)] [] (fun i => inb i 0 ((c.hs.length : Int) - 1)) cal105 (by omega) _ _ (fun b y _ => c_hasHnd g hg ag cg c hc ah ch bw y _ _)) ?_
 refine sp rfl (PE.not rfl) rfl ?_
 refine sy_cond rfl (fun hc1 => ?_) (fun hc1 => ?_)
 have hal : (l.all fun i => inb i 0 ((c.hs.length : Int) - 1)) = false := by simpa using hc1
 have he2 : agrE g c l = 1 := by unfold agrE; rw [decide_eq_false (by omega), hal]; rfl
 have he1 := agrR_no he2 (by decide)
 refine sy_seq ?_
 refine sy_tx' [0, 1] rfl ?_
 refine sp rfl (PE.assign rfl) rfl ?_
 refine sp rfl (PE.assign rfl) rfl ?_
 refine sy_ret ?_
 exact sy_return (vs := [_, _]) rfl (.cons (RV.tmp rfl) (.cons (RV.tmp rfl) .nil)) (by rw [he1, he2]; rfl) ⟨rfl, rfl, rfl⟩ drp
 have hal : (l.all fun i => inb i 0 ((c.hs.length : Int) - 1)) = true := by simpa using hc1
 refine sy_skip ?_
 refine sy_seq ?_
 refine sy_seq ?_
 refine sy_tx' [0, 1, 2, 3] rfl ?_
 refine sp rfl (PE.move rfl) rfl ?_
 refine cl rfl cal120 rfl rfl (c_Values l al cy _ _) ?_
 rintro _ _ R1 ⟨b1, rfl, rfl, hR1⟩
 obtain rfl := hR1.symm
 clear hR1
 refine cl rfl cal119 rfl rfl (c_Sorted l al cy b1 hl _ _) ?_
 rintro _ _ R1 ⟨ys, o, hs, rfl, rfl, hR1⟩
 obtain rfl := hR1.symm
 clear hR1
 have hyl := hs.perm.length_eq
 refine sp rfl (PE.assign rfl) rfl ?_
 refine sy_seq ?_
 refine sy_tx' [0, 1, 2, 3, 4, 5] rfl ?_
 refine sp rfl (PE.move rfl) rfl ?_
 refine cl rfl cal121 rfl rfl (c_Compact ys o (by omega) _ _) ?_
 rintro _ _ R1 ⟨az, m, cz, rfl, hm, rfl, hR1⟩
 obtain rfl := hR1.symm
 clear hR1
 refine sp rfl (PE.lenSl isl34 rfl) rfl ?_
 refine sp rfl (PE.move rfl) rfl ?_
 refine sp rfl (PE.lenSl isl34 rfl) rfl ?_
 refine sp rfl (PE.lss rfl rfl) rfl ?_
 refine sy_cond rfl (fun hc2 => ?_) (fun hc2 => ?_)
 try simp only [decide_eq_true_eq, decide_eq_false_iff_not, Bool.and_eq_true, Bool.or_eq_true, Bool.not_eq_true', Int.not_le, Int.not_lt] at hc2
 obtain ⟨p, hp, hpe⟩ := (hm.resolve_left (fun h => by omega)).2
 have hnd : ¬ l.Nodup := fun h => pair_ne hp (hs.perm.nodup_iff.2 h) hpe
 have he2 : agrE g c l = 5 := by unfold agrE; rw [decide_eq_false (by omega), hal, decide_eq_false hnd]; rfl
 have he1 := agrR_no he2 (by decide)
 refine sy_seq ?_
 refine sy_tx' [0, 1] rfl ?_
 refine sp rfl (PE.assign rfl) rfl ?_
 refine sp rfl (PE.assign rfl) rfl ?_
 refine sy_ret ?_
 exact sy_return (vs := [_, _]) rfl (.cons (RV.tmp rfl) (.cons (RV.tmp rfl) .nil)) (by rw [he1, he2]; rfl) ⟨rfl, rfl, rfl⟩ drp
 try simp only [decide_eq_true_eq, decide_eq_false_iff_not, Bool.and_eq_true, Bool.or_eq_true, Bool.not_eq_true', Int.not_le, Int.not_lt] at hc2
 have hnd : l.Nodup := srt_nd hs (by omega) (hm.resolve_right (fun h => by omega)).2
 have he2 := agrE_0 h0 hal hnd
 have he1 := agrR_0 he2
 refine sy_skip ?_
 refine sy_seq ?_
 refine sy_tx' [0, 1, 2, 3, 4, 5] rfl ?_
 refine sp rfl (PE.move rfl) rfl ?_
 refine sp rfl (PE.move rfl) rfl ?_
 refine cl rfl cal116 rfl rfl (c_some l al cy _ _) ?_
 rintro _ _ R1 ⟨bs, rfl, rfl, hR1⟩
 obtain rfl := hR1.symm
 clear hR1
 refine clV rfl cal114 rfl rfl (c_agree g hg ag cg c hc ah ch bw 136 [.pointer (some ⟨bs, 0, none⟩)] (flt l) cal136 _ _ (fun G i hi => c_some1 l al cy bs (by omega) i _ _)) ?_
 refine sp rfl (PE.assign rfl) rfl ?_
 refine sp rfl (PE.assign rfl) rfl ?_
 refine sy_ret ?_
 exact sy_return (vs := [_, _]) rfl (.cons (RV.tmp rfl) (.cons (RV.tmp rfl) .nil)) (by rw [he1, he2]; rfl) ⟨rfl, rfl, rfl⟩ (fun w h => St.ftail (((h.del bs).del b4).del b3))
end Go.Proofs.Ytknoaljnelfklaa
namespace Go.Proofs.Ytknoaljnelfklaa
set_option linter.unusedSimpArgs false
set_option linter.unusedVariables false
open Go
theorem cal25 : cal Try.prog 25 = true := by kernel_rfl
theorem cal58 : cal Try.prog 58 = true := by kernel_rfl
theorem cal69 : cal Try.prog 69 = true := by kernel_rfl
theorem letB_wide {miss miss' : Int} (h : miss ≤ miss') {x : Hnd} {k : Nat} {v : Int} (hb : letB miss x k v = true) : letB miss' x k v = true := by
  simp only [letB, Bool.and_eq_true, decide_eq_true_eq] at hb ⊢; omega
theorem fit_wide {miss miss' : Int} (h : miss ≤ miss') {x : Hnd} {m : Mix} (hb : fitB miss x m = true) : fitB miss' x m = true := by
  unfold fitB at hb ⊢
  rw [List.all_eq_true] at hb ⊢
  exact fun k hk => letB_wide h (hb k hk)
theorem clo_wide {miss miss' : Int} (h0 : 0 ≤ miss) (h : miss ≤ miss') {hs : List Hnd} (hh : ∀ x ∈ hs, x.ok) {b : Box} (hb : clo (boxF miss hs fun _ => true) = some b) : ∃ b', clo (boxF miss' hs fun _ => true) = some b' ∧ ∀ k < 4, bl b' k ≤ bl b k ∧ bh b k ≤ bh b' k := by
  obtain ⟨h3, h4⟩ := clo_some (boxF_ok _ _ _) hb
  have hsub : ∀ m, Mx b m → Mx (boxF miss' hs fun _ => true) m := fun m hm => by
    obtain ⟨h5, h6⟩ := (boxF_mx h0 hh _ m).1 ((h4 m).1 hm)
    exact (boxF_mx (by omega) hh _ m).2 ⟨h5, fun i x hi hf => fit_wide h (h6 i x hi hf)⟩
  cases hb' : clo (boxF miss' hs fun _ => true) with
  | none => exact absurd (hsub _ (mixt_mx h3)) (clo_none (boxF_ok _ _ _) hb' _)
  | some b' =>
    obtain ⟨h3', h4'⟩ := clo_some (boxF_ok _ _ _) hb'
    exact ⟨b', rfl, fun k hk => mx_less h3 (fun m hm => (h4' m).2 (hsub m hm)) hk⟩
theorem let_wide {miss miss' : Int} (h0 : 0 ≤ miss) (h1 : miss ≤ 20) (h : miss ≤ miss') {x : Hnd} (hx : x.ok) {k : Nat} (hk : k < 4) (hl : (letS miss x k).1 ≤ (letS miss x k).2) : (letS miss' x k).1 ≤ (letS miss x k).1 ∧ (letS miss x k).2 ≤ (letS miss' x k).2 := by
  obtain ⟨⟨b1, b2⟩, b3, b4⟩ := let_bd ⟨h0, h1⟩ hx hk
  have e1 := (let_iff (by omega : 0 ≤ miss') hx hk (x := (letS miss x k).1) (by omega)).2 (letB_wide h ((let_iff h0 hx hk (by omega)).1 ⟨Int.le_refl _, hl⟩))
  have e2 := (let_iff (by omega : 0 ≤ miss') hx hk (x := (letS miss x k).2) (by omega)).2 (letB_wide h ((let_iff h0 hx hk (by omega)).1 ⟨hl, Int.le_refl _⟩))
  omega
theorem agr_wide {miss miss' : Int} (h0 : 0 ≤ miss) (h : miss ≤ miss') {hs : List Hnd} (hh : ∀ x ∈ hs, x.ok) {f f' : Nat → Bool} (hf : ∀ i, f' i = true → f i = true) (ha : agr miss hs f = true) : agr miss' hs f' = true := by
  obtain ⟨m, h1, h2⟩ := (agr_iff h0 hh f).1 ha
  exact (agr_iff (by omega) hh f').2 ⟨m, h1, fun i x hi hfi => fit_wide h (h2 i x hi (hf i hfi))⟩
structure WidP (g v : Gat) (c : Crt) : Prop where
  bg : bothE g c = 0
  bv : bothE v c = 0
  told : toldE g c false = 0 → toldE v c false = 0 ∧ ∀ k < 4, bl (bndB v c) k ≤ bl (bndB g c) k ∧ bh (bndB g c) k ≤ bh (bndB v c) k
  lg : (bndB g c).length = 8
  lv : (bndB v c).length = 8
  net : (netP v c).1 ≤ (netP g c).1 ∧ (netP g c).2 ≤ (netP v c).2
  lets : ∀ n k : Nat, n < c.hs.length → k < 4 → (letE g c n k = 6 ∧ (letE v c n k = 0 ∨ letE v c n k = 6)) ∨ (letE g c n k = 0 ∧ letE v c n k = 0 ∧ (letP v c n k).1 ≤ (letP g c n k).1 ∧ (letP g c n k).2 ≤ (letP v c n k).2)
  agr : ∀ i j : Int, agr g.miss c.hs (flt [i, j]) = true → agr v.miss c.hs (flt [j, i]) = true
theorem bnd_len (g : Gat) (c : Crt) : (bndB g c).length = 8 := by
  unfold bndB
  cases hcl : clo (boxF g.miss c.hs fun _ => true) with
  | none => cases decide (toldE g c false ≠ 0) <;> rfl
  | some b =>
    have := (clo_some (boxF_ok _ _ _) hcl).1.ok.len
    cases decide (toldE g c false ≠ 0)
    · exact this
    · rfl
theorem widen {g v : Gat} {c : Crt} (hg : g.ok) (hv : v.ok) (hc : c.ok) (he : g.err ≤ v.err) (hm : g.miss ≤ v.miss) : WidP g v c := by
  have hb : bothE g c = 0 := by simp [bothE, gat_ok.2 hg, crt_ok.2 hc]
  have hb' : bothE v c = 0 := by simp [bothE, gat_ok.2 hv, crt_ok.2 hc]
  have h0 := hg.miss
  refine ⟨hb, hb', fun ht => ?_, bnd_len _ _, bnd_len _ _, by unfold netP; simp only; omega, fun n k hn hk => ?_, fun i j ha => ?_⟩
  · have ht' := ht
    unfold toldE at ht
    rw [hb] at ht
    cases hcl : clo (boxF g.miss c.hs fun _ => true) with
    | none => rw [hcl] at ht; cases ht
    | some b =>
      obtain ⟨b', h1, h2⟩ := clo_wide h0.1 hm hc.hs hcl
      have e1 : toldE v c false = 0 := by unfold toldE; rw [hb', h1]; rfl
      rw [bnd_of ht' hcl, bnd_of e1 h1]
      exact ⟨e1, h2⟩
  · obtain ⟨h, hh⟩ : ∃ h, c.hs[n]? = some h := ⟨_, List.getElem?_eq_getElem hn⟩
    have hok := hc.hs h (List.mem_of_getElem? hh)
    have e1 := letE_at (g := g) hb hh hk
    have e2 := letE_at (g := v) hb' hh hk
    by_cases hl : (letS g.miss h k).1 ≤ (letS g.miss h k).2
    · have hw := let_wide h0.1 h0.2 hm hok hk hl
      rw [decide_eq_false (by omega)] at e1
      rw [decide_eq_false (by omega)] at e2
      right
      rw [letP_at (g := g) hb hh hk hl, letP_at (g := v) hb' hh hk (by omega)]
      exact ⟨e1, e2, hw⟩
    · rw [decide_eq_true (by omega)] at e1
      left
      refine ⟨e1, ?_⟩
      rw [e2]
      cases decide ((letS v.miss h k).2 < (letS v.miss h k).1)
      · exact .inl rfl
      · exact .inr rfl
  · exact agr_wide h0.1 hm hc.hs (fun q hq => by
      simp only [flt, List.any_cons, List.any_nil, Bool.or_false, Bool.or_eq_true, decide_eq_true_eq] at hq ⊢; omega) ha
theorem agr2_0 {g : Gat} {c : Crt} {i k : Nat} (h0 : bothE g c = 0) (hi : i < c.hs.length) (hk : k < c.hs.length) (hne : i ≠ k) : agrE g c [(i : Int), (k : Int)] = 0 :=
  agrE_0 h0 (by simp [inb]; omega) (by simp; omega)
theorem c_GateWider (l0 : List Int) (a0 : Option Addr) (c0 : Nat) (hl0 : l0.length ≤ 9223372036854775807) (l1 : List Int) (a1 : Option Addr) (c1 : Nat) (hl1 : l1.length ≤ 9223372036854775807) (mo : Int) (hmo : 0 ≤ mo ∧ mo ≤ 255) (H : Heap) (R : Facts) [hG : MemRows a0 1 (urows l0) R] [hG2 : MemRows a1 1 (urows l1) R] :
    Fn Try.prog 12 [.slice a0 l0.length c0, .slice a1 l1.length c1, .int .u8 mo] H R (fun v H' R' => v = .bool true ∧ H' = H ∧ R' = R) := by
 refine fn_of Try.func12 rfl Try.ntmps12 rfl ?_
 refine sy_seq ?_
 refine sy_tx' [0] rfl ?_
 refine sp rfl (PE.assign rfl) rfl ?_
 refine sy_seq ?_
 refine sy_tx' [0, 1, 2, 3, 4, 5, 6, 7, 8, 9, 10, 11, 12] rfl ?_
 refine sp rfl (PE.move rfl) rfl ?_
 refine cl rfl cal14 rfl rfl (c_Fill l0 a0 c0 hl0 _ _) ?_
 rintro _ _ R1 ⟨bk, mk, hmk, rfl, rfl, hR1⟩
 obtain rfl := hR1.symm
 clear hR1
 refine cl rfl cal13 rfl rfl (c_MadeO l0 a0 c0 bk hl0 0 mk (by omega) hmk 2 4 (by omega) (by omega) _ _) ?_
 rintro _ _ R1 ⟨g, c, m, ag, cg, tq1, mx1, o, hmd, hcg, rfl, _, _, rfl, hR1⟩
 obtain rfl := hR1.symm
 clear hR1
 refine Sy.heap (fun w h => h.del bk) ?_
 have hgm := hmd.many
 have hgmi := hmd.gok.miss
 have hger := hmd.gok.err
 have hcm := hmd.more
 refine sp rfl (PE.move rfl) rfl ?_
 refine sp rfl (PE.extract rfl rfl) rfl ?_
 refine sp rfl (PE.extract rfl rfl) rfl ?_
 refine sp rfl (PE.extract rfl rfl) rfl ?_
 refine alc rfl zl25 rfl (fun b7 => ?_)
 refine alc rfl zl28 rfl (fun b8 => ?_)
 refine alc rfl zl29 rfl (fun b9 => ?_)
 refine sto rfl rfl rfl cn25 rfl rfl rfl rfl ?_
 refine stoE (l' := ctl c o.fs) rfl rfl rfl cn28 rfl rfl (by show (ctl _ o.fs).all (·.oneCell') = true; simp only [ctl, List.all_cons, List.all_nil, o.cells.2, Bool.and_true]; rfl) rfl (Nat.le_refl _) ?_
 refine stoA rfl rfl rfl cn29 rfl (by rw [ints_length]; exact hmd.mix.len) rfl (ints_one _) ?_
 refine sy_seq ?_
 refine sy_tx' [0, 1, 2] rfl ?_
 refine sp rfl (PE.move rfl) rfl ?_
 refine cl rfl cal14 rfl rfl (c_Fill l1 a1 c1 hl1 _ _) ?_
 rintro _ _ R1 ⟨bj, mj, hmj, rfl, rfl, hR1⟩
 obtain rfl := hR1.symm
 clear hR1
 refine sp rfl (PE.assign rfl) rfl ?_
 refine sy_seq ?_
 refine sy_tx' [0, 1, 2, 3] rfl ?_
 refine sp rfl (PE.move rfl) rfl ?_
 refine cl rfl cal63 rfl rfl (c_Mixed l1 a1 c1 bj hl1 0 mj (by omega) hmj _ _) ?_
 rintro _ _ R1 ⟨q, tq2, mx2, hq, rfl, htq2, hmx2, rfl, hR1⟩
 obtain rfl := hR1.symm
 clear hR1
 refine alc rfl zl29 rfl (fun b11 => ?_)
 refine stoA rfl rfl rfl cn29 rfl (by rw [ints_length]; exact hq.len) rfl (ints_one _) ?_
 refine sy_seq ?_
 refine sy_seq ?_
 refine sy_tx' [0, 1, 2] rfl ?_
 refine sp rfl (PE.move rfl) rfl ?_
 refine sy_pull bj ?_
 refine cl rfl cal64 rfl rfl (c_Below l1 a1 c1 bj hl1 _ _ (by omega) (by assumption) (3) _ _) ?_
 rintro _ _ R1 ⟨x45, m45, hx45, rfl, hm45, rfl, hR1⟩
 obtain rfl := hR1.symm
 refine sp rfl (PE.move rfl) rfl ?_
 refine sy_block ?_
 obtain ⟨n45, rfl⟩ : ∃ n : Nat, x45 = n := ⟨x45.toNat, by omega⟩
 refine sy_loop (ι := (x : {x : Nat × List Hnd × Int × Int // x.1 ≤ n45 ∧ (x.2.1.length = c.hs.length + x.1 ∧ ∀ h ∈ x.2.1, h.ok) ∧ (0 ≤ x.2.2.1 ∧ x.2.2.1 ≤ 11 + 20 * x.1) ∧ (0 ≤ x.2.2.2 ∧ x.2.2.2 ≤ 4294967295)}) × OSl 82 5 (hrows x.1.2.1)) (fun x => ⟨[(2, .int .u8 mo), (7, .pointer (some ⟨b7, 0, none⟩)), (8, .pointer (some ⟨b8, 0, none⟩)), (10, .pointer (some ⟨bj, 0, none⟩)), (11, .pointer (some ⟨b11, 0, none⟩)), (45, .int .i64 n45), (46, .int .i64 x.1.1.1)],
   (bj, cel 125 [.slice a1 l1.length c1, .int .i64 (x.1.1.2.2.1), .int .u32 (x.1.1.2.2.2)]) :: (x.2.G ++ (b11, cel 29 (ints q)) :: (b8, cel 28 (ctl ⟨c.full, c.empty, x.1.1.2.1⟩ x.2.fs)) :: (b7, cel 25 (gtl g (g.sl ag cg))) :: H), RowsA ag 5 (grows g.grs) :: R⟩) (fun x => n45 - x.1.1.1) ⟨⟨(0, c.hs, tq2 + 1, m45), by omega, ⟨rfl, hmd.cok.hs⟩, by dsimp only; omega, by assumption⟩, o⟩ ?_ (fun x => ?_)
 exact sy_at (by repeat' first | exact Sub.nil | apply Sub.cons | rfl | (simp [lk]; omega)) (fun w h => ((h.del b9).pullG o.G).pull bj)
 obtain ⟨⟨⟨k, hs, tq3, mx3⟩, hk1, ⟨hkl, hkh⟩, htq3, hmx3⟩, o'⟩ := x
 dsimp only at hk1 hkl hkh htq3 hmx3 o' ⊢
 refine sy_seq ?_
 refine sy_tx' [0] rfl ?_
 refine sp rfl (PE.lss rfl rfl) rfl ?_
 refine sy_seq ?_
 refine sy_cond rfl (fun hc0 => ?_) (fun hc0 => ?_)
 try simp only [decide_eq_true_eq, decide_eq_false_iff_not, Bool.and_eq_true, Bool.or_eq_true, Bool.not_eq_true', Int.not_le, Int.not_lt] at hc0
 refine sy_skip ?_
 refine sy_seq ?_
 refine sy_block ?_
 refine sy_draw [0, 1, 0, 0, 0, 28, 60, 127, 255, 511] (.tk 0 (.ld 1 (.tk 2 (.ld 3 (.ld 4 (.big 5 (.big 6 (.big 7 (.tk 8 (.big 9 .done)))))))))) mixed (by kernel_rfl) ?_
 refine tk rfl (PE.fieldAddr fo28_2 rfl) rfl ?_
 refine ld rfl rfl (lh sc26 rfl rfl) rfl ?_
 refine tk rfl (PE.move rfl) rfl ?_
 refine ld rfl rfl (lhA (gtl g (g.sl ag cg)) ag25 rfl rfl rfl) rfl ?_
 refine ld rfl rfl (lhA (ints (q)) ag29 rfl (rest := []) (by rw [List.append_nil]; rfl) (by rw [ints_length]; exact hq.len)) rfl ?_
 refine cl rfl cal52 rfl rfl (c_Taken l1 a1 c1 bj hl1 _ _ (by omega) (by assumption) g hmd.gok.miss (g.sl ag cg) q hq _ _) ?_
 rintro _ _ R1 ⟨h, tq4, mx4, hho, hhf, rfl, htq4, hmx4, rfl, hR1⟩
 obtain rfl := hR1.symm
 clear hR1
 refine bg (fun w hs => ⟨trivial, trivial, (lh sc26 rfl rfl) w hs, trivial⟩) ?_
 refine bsl (out := [_, _, _, _, _]) rfl sl26 zl82 rfl rfl rfl rfl rfl rfl (fun b54 => ?_)
 refine bg (fun w hs => ⟨(lh sc26 rfl rfl) w hs, trivial⟩) ?_
 refine apO (o') rfl ap26 rfl rfl (rowsH (row := hrow h) rfl) rfl rfl ((by simp only [hrows, List.length_map, List.length_singleton]; omega)) rfl (fun o55 => ?_)
 refine bg (fun w hs => ⟨trivial, trivial⟩) ?_
 refine tk rfl (PE.fieldAddr fo28_2 rfl) rfl ?_
 refine stoE (l' := ctl ⟨c.full, c.empty, hs ++ [h]⟩ o55.fs) rfl rfl rfl cn26 rfl (by rw [o55.cells.1]; first | done | rfl) (by rw [o55.cells.1]; simp [o55.cells.2]) (by rw [o55.cells.1]; first | done | rfl) (by rw [o55.cells.1]; first | done | exact Nat.le_refl _) ?_
 refine bg (fun w hs => trivial) ?_
 refine sy_tx' [0, 1] rfl ?_
 refine sy_pull bj ?_
 refine sp rfl (PE.add rfl rfl (by omega)) rfl ?_
 refine sp rfl (PE.move rfl) rfl ?_
 exact sy_next ⟨⟨(k + 1, hs ++ [h], tq4, mx4), by omega, ⟨by simp [hkl]; omega, fun x hx => by rcases List.mem_append.1 hx with hx | hx; exact hkh x hx; obtain rfl := List.mem_singleton.1 hx; exact hho⟩, by dsimp only; omega, by assumption⟩, o55.cast (by simp [hrows])⟩ (by dsimp only; omega) (by repeat' first | exact Sub.nil | apply Sub.cons | rfl | (simp [lk]; omega)) (fun w h => (h.del b54).perm (by first | exact .refl _ | exact List.Perm.cons _ (.refl _)))
 try simp only [decide_eq_true_eq, decide_eq_false_iff_not, Bool.and_eq_true, Bool.or_eq_true, Bool.not_eq_true', Int.not_le, Int.not_lt] at hc0
 obtain rfl : k = n45 := by omega
 obtain ⟨ah, ch, he, hf⟩ := o'.freeze
 rw [he]
 refine Sy.heap (fun w h => (h.del bj).del b11) ?_
 refine Sy.heap (H' := _) (fun w h => hf h) ?_
 rw [show (hrows hs).length = hs.length from List.length_map _]
 clear he hf
 obtain ⟨d, hd⟩ : ∃ d : Crt, d = ⟨c.full, c.empty, hs⟩ := ⟨_, rfl⟩
 have hdh : d.hs = hs := by rw [hd]
 rw [← hdh] at hkl hkh
 have hdm : d.hs.length ≤ 6 := by omega
 have hdo : d.ok := ⟨by omega, by rw [hd]; exact hmd.cok.full, by rw [hd]; exact hmd.cok.empty, hkh⟩
 refine Sy.heap (H' := (b8, cel 28 (ctl d (d.sl ah ch))) :: (b7, cel 25 (gtl g (g.sl ag cg))) :: H) (R' := RowsA ah 5 (hrows d.hs) :: RowsA ag 5 (grows g.grs) :: R) (fun w h => by rw [hd]; exact h) ?_
 refine sy_exit ?_
 repeat refine sy_tx ?_
 refine sy_bx ?_
 refine sy_seq ?_
 refine sy_tx' [0, 1, 2, 3] rfl ?_
 refine spL rfl rfl (lhA [_, _, _] ag25 rfl rfl rfl) rfl ?_
 refine cl rfl cal25 rfl rfl (c_Own g ag cg (by omega) _ _) ?_
 rintro _ _ R1 ⟨o2, rfl, ho2, rfl, hR1⟩
 obtain rfl := hR1.symm
 clear hR1
 obtain ⟨aw, cw, he, hf⟩ := o2.freeze
 rw [he]
 refine Sy.heap (H' := _) (fun w h => hf h) ?_
 rw [show (grows g.grs).length = g.grs.length from List.length_map _]
 clear he hf
 refine alc rfl zl25 rfl (fun b12 => ?_)
 refine sto rfl rfl rfl cn25 rfl rfl rfl rfl ?_
 refine sy_seq ?_
 refine sy_draw [0, 1, 0, 4, 12, 31, 63, 0, 128, 0, 512, 1536, 3584, 8064, 16256, 127, 32895, 131071, 262143] (.tk 0 (.ld 1 (.tk 2 (.tk 3 (.tk 4 (.tk 5 (.tk 6 (.tk 7 (.ld 8 (.tk 9 (.tk 10 (.tk 11 (.tk 12 (.tk 13 (.tk 14 (.tk 15 (.big 16 (.tk 17 (.big 18 .done))))))))))))))))))) mixed (by kernel_rfl) ?_
 refine tk rfl (PE.fieldAddr fo25_0 rfl) rfl ?_
 refine ld rfl rfl (lh sc3 rfl rfl) rfl ?_
 refine tk rfl (PE.move rfl) rfl ?_
 refine tk rfl (PE.conv64 us5 ik3 rfl (by omega)) rfl ?_
 refine tk rfl (PE.rem rfl rfl (by omega)) rfl ?_
 refine tk rfl (PE.add rfl rfl (by omega)) rfl ?_
 refine tk rfl (PE.min rfl rfl) rfl ?_
 refine tk rfl (PE.fieldAddr fo25_1 rfl) rfl ?_
 refine ld rfl rfl (lh sc3 rfl rfl) rfl ?_
 refine tk rfl (PE.move rfl) rfl ?_
 refine tk rfl (PE.conv64 us5 ik3 rfl (by omega)) rfl ?_
 refine tk rfl (PE.quo rfl rfl (by omega)) rfl ?_
 refine tk rfl (PE.rem rfl rfl (by omega)) rfl ?_
 refine tk rfl (PE.add rfl rfl (by omega)) rfl ?_
 refine tk rfl (PE.min rfl rfl) rfl ?_
 refine tk rfl (PE.fieldAddr fo25_0 rfl) rfl ?_
 refine sto rfl rfl rfl cn3 rfl rfl rfl rfl ?_
 refine bg (fun w hs => ⟨(lh sc3 rfl rfl) w hs, trivial, trivial⟩) ?_
 refine tk rfl (PE.fieldAddr fo25_1 rfl) rfl ?_
 refine sto rfl rfl rfl cn3 rfl rfl rfl rfl ?_
 refine bg (fun w hs => ⟨trivial, trivial⟩) ?_
 refine sy_seq ?_
 refine sy_tx' [0, 1, 2, 3, 4, 5, 6, 7, 8] rfl ?_
 obtain ⟨v, hv⟩ : ∃ v : Gat, v = ⟨min 50 (g.err + mo % 7), min 20 (g.miss + mo / 7 % 9), g.grs⟩ := ⟨_, rfl⟩
 have hve : v.err = min 50 (g.err + mo % 7) := by rw [hv]
 have hvm : v.miss = min 20 (g.miss + mo / 7 % 9) := by rw [hv]
 have hvg : v.grs = g.grs := by rw [hv]
 have hvo : v.ok := ⟨by rw [hvg]; exact hmd.gok.many, by omega, by omega, by rw [hvg]; exact hmd.gok.grs, by rw [hvg]; exact hmd.gok.ord⟩
 have hvgl : v.grs.length = g.grs.length := by rw [hvg]
 refine Sy.heap (H' := (b12, cel 25 (gtl v (v.sl aw cw))) :: (b8, cel 28 (ctl d (d.sl ah ch))) :: (b7, cel 25 (gtl g (g.sl ag cg))) :: H) (R' := RowsA aw 5 (grows v.grs) :: RowsA ah 5 (hrows d.hs) :: RowsA ag 5 (grows g.grs) :: R) (fun w h => by rw [hv]; exact h) ?_
 have hwd := widen (c := d) hmd.gok hvo hdo (by omega) (by omega)
 refine spL rfl rfl (lhA [_, _, _] ag25 rfl rfl rfl) rfl ?_
 refine spL rfl rfl (lhA [_, _, _] ag28 rfl rfl rfl) rfl ?_
 refine cl rfl cal50 rfl rfl (c_Bounds g ag cg (by omega) d ah ch (by omega) _ _) ?_
 rintro _ _ _ ⟨rfl, rfl, rfl⟩
 refine sp rfl (PE.move rfl) rfl ?_
 refine sp rfl (PE.extract rfl rfl) rfl ?_
 refine sp rfl (PE.extract rfl rfl) rfl ?_
 refine alc rfl zl94 rfl (fun b13 => ?_)
 refine stoA rfl rfl rfl cn94 rfl (by rw [ints_length]; exact hwd.lg) rfl (ints_one _) ?_
 refine sp rfl (PE.assign rfl) rfl ?_
 refine sy_seq ?_
 refine sy_tx' [0, 1, 2, 3, 4, 5, 6, 7, 8] rfl ?_
 refine spL rfl rfl (lhA [_, _, _] ag25 rfl rfl rfl) rfl ?_
 refine spL rfl rfl (lhA [_, _, _] ag28 rfl rfl rfl) rfl ?_
 refine cl rfl cal50 rfl rfl (c_Bounds v aw cw (by omega) d ah ch (by omega) _ _) ?_
 rintro _ _ _ ⟨rfl, rfl, rfl⟩
 refine sp rfl (PE.move rfl) rfl ?_
 refine sp rfl (PE.extract rfl rfl) rfl ?_
 refine sp rfl (PE.extract rfl rfl) rfl ?_
 refine alc rfl zl94 rfl (fun b15 => ?_)
 refine stoA rfl rfl rfl cn94 rfl (by rw [ints_length]; exact hwd.lv) rfl (ints_one _) ?_
 refine sp rfl (PE.assign rfl) rfl ?_
 refine sy_seq ?_
 refine sy_tx' [0, 1, 2, 3, 4, 5, 6, 7, 8] rfl ?_
 refine spL rfl rfl (lhA [_, _, _] ag25 rfl rfl rfl) rfl ?_
 refine spL rfl rfl (lhA [_, _, _] ag28 rfl rfl rfl) rfl ?_
 refine cl rfl cal18 rfl rfl (c_Net g ag cg (by omega) d ah ch (by omega) _ _) ?_
 rintro _ _ _ ⟨rfl, rfl, rfl⟩
 rw [show netR g d = .tuple #[spv (netP g d).1 (netP g d).2, .int .i64 0] from by unfold netR; rw [decide_eq_false (show ¬ bothE g d ≠ 0 by rw [hwd.bg]; decide)]; rfl]
 refine sp rfl (PE.move rfl) rfl ?_
 refine sp rfl (PE.extract rfl rfl) rfl ?_
 refine sp rfl (PE.extract rfl rfl) rfl ?_
 refine alc rfl zl41 rfl (fun b17 => ?_)
 refine sto rfl rfl rfl cn41 rfl rfl rfl rfl ?_
 refine sp rfl (PE.assign rfl) rfl ?_
 refine sy_seq ?_
 refine sy_tx' [0, 1, 2, 3, 4, 5, 6, 7, 8] rfl ?_
 refine spL rfl rfl (lhA [_, _, _] ag25 rfl rfl rfl) rfl ?_
 refine spL rfl rfl (lhA [_, _, _] ag28 rfl rfl rfl) rfl ?_
 refine cl rfl cal18 rfl rfl (c_Net v aw cw (by omega) d ah ch (by omega) _ _) ?_
 rintro _ _ _ ⟨rfl, rfl, rfl⟩
 rw [show netR v d = .tuple #[spv (netP v d).1 (netP v d).2, .int .i64 0] from by unfold netR; rw [decide_eq_false (show ¬ bothE v d ≠ 0 by rw [hwd.bv]; decide)]; rfl]
 have hnet := hwd.net
 refine sp rfl (PE.move rfl) rfl ?_
 refine sp rfl (PE.extract rfl rfl) rfl ?_
 refine sp rfl (PE.extract rfl rfl) rfl ?_
 refine alc rfl zl41 rfl (fun b19 => ?_)
 refine sto rfl rfl rfl cn41 rfl rfl rfl rfl ?_
 refine sp rfl (PE.assign rfl) rfl ?_
 refine sy_seq ?_
 refine sy_seq ?_
 refine sy_cut (ι := Unit) (fun _ => ⟨[(7, .pointer (some ⟨b7, 0, none⟩)), (8, .pointer (some ⟨b8, 0, none⟩)), (12, .pointer (some ⟨b12, 0, none⟩)), (13, .pointer (some ⟨b13, 0, none⟩)), (15, .pointer (some ⟨b15, 0, none⟩)), (14, .int .i64 (toldE g d false)), (16, .int .i64 (toldE v d false)), (128, .bool false)], (b15, cel 94 (ints (bndB v d))) :: (b13, cel 94 (ints (bndB g d))) :: (b12, cel 25 (gtl v (v.sl aw cw))) :: (b8, cel 28 (ctl d (d.sl ah ch))) :: (b7, cel 25 (gtl g (g.sl ag cg))) :: H, RowsA aw 5 (grows v.grs) :: RowsA ah 5 (hrows d.hs) :: RowsA ag 5 (grows g.grs) :: R⟩) ?_ ?_
 refine sy_tx' [0, 1, 2, 3, 4, 5, 6, 7, 8, 9, 10, 11, 12, 13, 14, 15, 16, 17, 18, 19, 20, 21, 22, 23, 24, 25, 26, 27] rfl ?_
 refine sp rfl (PE.move rfl) rfl ?_
 refine sp rfl (PE.neq rfl rfl) rfl ?_
 refine sp rfl (PE.move rfl) rfl ?_
 refine sy_case (t := 103) rfl (fun g103 => ?_) (fun g103 => ?_)
 exact absurd g103 (by first | (simp; done) | (rw [decide_eq_false (by omega)]; simp))
 refine spG rfl rfl rfl rfl (PE.move rfl) rfl ?_
 refine spG rfl rfl rfl rfl (PE.neq rfl rfl) rfl ?_
 refine sp rfl (PE.pick rfl rfl rfl) rfl ?_
 refine sp rfl (PE.move rfl) rfl ?_
 refine sy_case (t := 107) rfl (fun g107 => ?_) (fun g107 => ?_)
 exact absurd g107 (by first | (simp; done) | (rw [decide_eq_false (by omega)]; simp))
 refine spG rfl rfl rfl rfl (PE.fieldAddr fo41_0 rfl) rfl ?_
 refine spLG rfl rfl rfl rfl rfl (lh sc3 rfl rfl) rfl ?_
 refine spG rfl rfl rfl rfl (PE.fieldAddr fo41_0 rfl) rfl ?_
 refine spLG rfl rfl rfl rfl rfl (lh sc3 rfl rfl) rfl ?_
 refine spG rfl rfl rfl rfl (PE.gtr rfl rfl) rfl ?_
 refine sp rfl (PE.pick rfl rfl rfl) rfl ?_
 refine sp rfl (PE.move rfl) rfl ?_
 refine sy_case (t := 114) rfl (fun g114 => ?_) (fun g114 => ?_)
 exact absurd g114 (by first | (simp; done) | (rw [decide_eq_false (by omega)]; simp))
 refine spG rfl rfl rfl rfl (PE.fieldAddr fo41_1 rfl) rfl ?_
 refine spLG rfl rfl rfl rfl rfl (lh sc3 rfl rfl) rfl ?_
 refine spG rfl rfl rfl rfl (PE.fieldAddr fo41_1 rfl) rfl ?_
 refine spLG rfl rfl rfl rfl rfl (lh sc3 rfl rfl) rfl ?_
 refine spG rfl rfl rfl rfl (PE.lss rfl rfl) rfl ?_
 refine sp rfl (PE.pick rfl rfl rfl) rfl ?_
 refine sp rfl (PE.move rfl) rfl ?_
 refine sy_case (t := 121) rfl (fun g121 => ?_) (fun g121 => ?_)
 exact absurd g121 (by first | (simp; done) | (rw [decide_eq_false (by omega)]; simp))
 refine spG rfl rfl rfl rfl (PE.move rfl) rfl ?_
 refine spG rfl rfl rfl rfl (PE.eql rfl rfl) rfl ?_
 refine spG rfl rfl rfl rfl (PE.move rfl) rfl ?_
 refine sy_case (t := 124) rfl (fun g124 => ?_) (fun g124 => ?_)
 try simp only [decide_eq_true_eq, decide_eq_false_iff_not, Bool.and_eq_true, Bool.or_eq_true, Bool.not_eq_true', Int.not_le, Int.not_lt] at g124
 have ht2 := hwd.told (by simpa using g124)
 refine spG rfl rfl rfl rfl (PE.move rfl) rfl ?_
 refine spG rfl rfl rfl rfl (PE.neq rfl rfl) rfl ?_
 refine spG rfl rfl rfl rfl (PE.pick rfl rfl rfl) rfl ?_
 refine sp rfl (PE.pick rfl rfl rfl) rfl ?_
 first
   | exact sy_cutEnd () (by repeat' first | exact Sub.nil | apply Sub.cons | rfl | (simp [lk]; omega)) (fun w h => (h.del b19).del b17)
   | (rw [ht2.1]; exact sy_cutEnd () (by repeat' first | exact Sub.nil | apply Sub.cons | rfl | (simp [lk]; omega)) (fun w h => (h.del b19).del b17))
 repeat refine spN rfl rfl rfl rfl rfl rfl rfl rfl ?_
 refine spG rfl rfl rfl rfl (PE.pick rfl rfl rfl) rfl ?_
 refine sp rfl (PE.pick rfl rfl rfl) rfl ?_
 first
   | exact sy_cutEnd () (by repeat' first | exact Sub.nil | apply Sub.cons | rfl | (simp [lk]; omega)) (fun w h => (h.del b19).del b17)
   | (rw [ht2.1]; exact sy_cutEnd () (by repeat' first | exact Sub.nil | apply Sub.cons | rfl | (simp [lk]; omega)) (fun w h => (h.del b19).del b17))
 rintro ⟨⟩
 dsimp only
 refine sy_cond rfl (fun hc1 => ?_) (fun hc1 => ?_)
 exact absurd hc1 (by first | (simp; done) | (rw [decide_eq_false (by omega)]; simp))
 refine sy_skip ?_
 refine sy_seq ?_
 refine sy_seq ?_
 refine sy_tx' [0] rfl ?_
 refine sp rfl (PE.move rfl) rfl ?_
 refine sy_block ?_
 refine sy_loop (ι := {k : Nat // k ≤ 4}) (fun k => ⟨[(7, .pointer (some ⟨b7, 0, none⟩)), (8, .pointer (some ⟨b8, 0, none⟩)), (12, .pointer (some ⟨b12, 0, none⟩)), (13, .pointer (some ⟨b13, 0, none⟩)), (15, .pointer (some ⟨b15, 0, none⟩)), (14, .int .i64 (toldE g d false)), (16, .int .i64 (toldE v d false)), (129, .int .i64 k.1)], (b15, cel 94 (ints (bndB v d))) :: (b13, cel 94 (ints (bndB g d))) :: (b12, cel 25 (gtl v (v.sl aw cw))) :: (b8, cel 28 (ctl d (d.sl ah ch))) :: (b7, cel 25 (gtl g (g.sl ag cg))) :: H, RowsA aw 5 (grows v.grs) :: RowsA ah 5 (hrows d.hs) :: RowsA ag 5 (grows g.grs) :: R⟩) (fun k => 4 - k.1) ⟨0, by omega⟩ ?_ (fun k => ?_)
 exact sy_at (by repeat' first | exact Sub.nil | apply Sub.cons | rfl | (simp [lk]; omega)) (fun _ h => h)
 obtain ⟨k, hk⟩ := k
 dsimp only at hk ⊢
 refine sy_seq ?_
 refine sy_tx' [0] rfl ?_
 refine sp rfl (PE.lss rfl rfl) rfl ?_
 refine sy_seq ?_
 refine sy_cond rfl (fun hc2 => ?_) (fun hc2 => ?_)
 try simp only [decide_eq_true_eq, decide_eq_false_iff_not, Bool.and_eq_true, Bool.or_eq_true, Bool.not_eq_true', Int.not_le, Int.not_lt] at hc2
 have hk4 : k < 4 := by omega
 refine sy_skip ?_
 refine sy_seq ?_
 refine sy_block ?_
 refine sy_seq ?_
 refine sy_tx' [0, 1] rfl ?_
 refine sp rfl (PE.move rfl) rfl ?_
 refine sp rfl (PE.assign rfl) rfl ?_
 refine sy_seq ?_
 refine sy_seq ?_
 refine sy_cut (ι := Unit) (fun _ => ⟨[(21, .int .i64 k), (129, .int .i64 k), (7, .pointer (some ⟨b7, 0, none⟩)), (8, .pointer (some ⟨b8, 0, none⟩)), (12, .pointer (some ⟨b12, 0, none⟩)), (13, .pointer (some ⟨b13, 0, none⟩)), (15, .pointer (some ⟨b15, 0, none⟩)), (14, .int .i64 (toldE g d false)), (16, .int .i64 (toldE v d false)), (155, .bool false)], (b15, cel 94 (ints (bndB v d))) :: (b13, cel 94 (ints (bndB g d))) :: (b12, cel 25 (gtl v (v.sl aw cw))) :: (b8, cel 28 (ctl d (d.sl ah ch))) :: (b7, cel 25 (gtl g (g.sl ag cg))) :: H, RowsA aw 5 (grows v.grs) :: RowsA ah 5 (hrows d.hs) :: RowsA ag 5 (grows g.grs) :: R⟩) ?_ ?_
 refine sy_draw [0, 1, 3, 7, 15, 31, 63, 7, 135, 391, 903, 2047, 4095, 8191, 16383, 32767, 65535, 8191, 139263, 401407, 925695, 2097151, 4194303, 8388607] (.tk 0 (.tk 1 (.tk 2 (.tk 3 (.tk 4 (.tk 5 (.ld 6 (.tk 7 (.tk 8 (.tk 9 (.ld 10 (.tk 11 (.tk 12 (.tk 13 (.tk 14 (.tk 15 (.ld 16 (.tk 17 (.tk 18 (.tk 19 (.ld 20 (.tk 21 (.tk 22 (.tk 23 .done)))))))))))))))))))))))) mixed (by kernel_rfl) ?_
 refine tk rfl (PE.move rfl) rfl ?_
 refine tk rfl (PE.eql rfl rfl) rfl ?_
 refine tk rfl (PE.move rfl) rfl ?_
 refine sy_case (t := 134) rfl (fun g134 => ?_) (fun g134 => ?_)
 try simp only [decide_eq_true_eq, decide_eq_false_iff_not, Bool.and_eq_true, Bool.or_eq_true, Bool.not_eq_true', Int.not_le, Int.not_lt] at g134
 have ht2 := (hwd.told (by simpa using g134)).2 k hk4
 refine tkG rfl rfl rfl rfl (PE.move rfl) rfl ?_
 refine tkG rfl rfl rfl rfl (PE.indexArr ar94 rfl rfl (by omega) (by omega)) rfl ?_
 refine tkG rfl rfl rfl rfl (PE.fieldAddr fo41_0 rfl) rfl ?_
 refine ldG rfl rfl rfl rfl rfl (lh sc3 rfl (bx_lo hwd.lv hk4)) rfl ?_
 refine tkG rfl rfl rfl rfl (PE.move rfl) rfl ?_
 refine tkG rfl rfl rfl rfl (PE.indexArr ar94 rfl rfl (by omega) (by omega)) rfl ?_
 refine tkG rfl rfl rfl rfl (PE.fieldAddr fo41_0 rfl) rfl ?_
 refine ldG rfl rfl rfl rfl rfl (lh sc3 rfl (bx_lo hwd.lg hk4)) rfl ?_
 refine tkG rfl rfl rfl rfl (PE.gtr rfl rfl) rfl ?_
 refine tkG rfl rfl rfl rfl (PE.move rfl) rfl ?_
 refine sy_case (t := 144) rfl (fun g144 => ?_) (fun g144 => ?_)
 exact absurd g144 (by first | (simp; done) | (rw [decide_eq_false (by omega)]; simp))
 refine tkG rfl rfl rfl rfl (PE.move rfl) rfl ?_
 refine tkG rfl rfl rfl rfl (PE.indexArr ar94 rfl rfl (by omega) (by omega)) rfl ?_
 refine tkG rfl rfl rfl rfl (PE.fieldAddr fo41_1 rfl) rfl ?_
 refine ldG rfl rfl rfl rfl rfl (lh sc3 rfl (bx_hi hwd.lv hk4)) rfl ?_
 refine tkG rfl rfl rfl rfl (PE.move rfl) rfl ?_
 refine tkG rfl rfl rfl rfl (PE.indexArr ar94 rfl rfl (by omega) (by omega)) rfl ?_
 refine tkG rfl rfl rfl rfl (PE.fieldAddr fo41_1 rfl) rfl ?_
 refine ldG rfl rfl rfl rfl rfl (lh sc3 rfl (bx_hi hwd.lg hk4)) rfl ?_
 refine tkG rfl rfl rfl rfl (PE.lss rfl rfl) rfl ?_
 refine tkG rfl rfl rfl rfl (PE.pick rfl rfl rfl) rfl ?_
 refine tk rfl (PE.pick rfl rfl rfl) rfl ?_
 first
   | exact sy_cutEnd () (by repeat' first | exact Sub.nil | apply Sub.cons | rfl | (simp [lk]; omega)) (fun _ h => h)
   | (rw [show decide (bh (bndB v d) k < bh (bndB g d) k) = false from decide_eq_false (by omega)]; exact sy_cutEnd () (by repeat' first | exact Sub.nil | apply Sub.cons | rfl | (simp [lk]; omega)) (fun _ h => h))
 repeat refine tkN rfl rfl rfl rfl rfl rfl rfl rfl ?_
 refine ldN rfl rfl rfl rfl rfl rfl rfl rfl ?_
 repeat refine tkN rfl rfl rfl rfl rfl rfl rfl rfl ?_
 refine ldN rfl rfl rfl rfl rfl rfl rfl rfl ?_
 repeat refine tkN rfl rfl rfl rfl rfl rfl rfl rfl ?_
 repeat refine tkU rfl rfl rfl rfl rfl rfl rfl ?_
 refine ldU rfl rfl rfl rfl rfl rfl rfl ?_
 repeat refine tkU rfl rfl rfl rfl rfl rfl rfl ?_
 refine ldU rfl rfl rfl rfl rfl rfl rfl ?_
 refine tkU rfl rfl rfl rfl rfl rfl rfl ?_
 refine tkN rfl rfl rfl rfl rfl rfl rfl rfl ?_
 refine tk rfl (PE.pick rfl rfl rfl) rfl ?_
 first
   | exact sy_cutEnd () (by repeat' first | exact Sub.nil | apply Sub.cons | rfl | (simp [lk]; omega)) (fun _ h => h)
   | (rw [show decide (bh (bndB v d) k < bh (bndB g d) k) = false from decide_eq_false (by omega)]; exact sy_cutEnd () (by repeat' first | exact Sub.nil | apply Sub.cons | rfl | (simp [lk]; omega)) (fun _ h => h))
 rintro ⟨⟩
 dsimp only
 refine sy_cond rfl (fun hc3 => ?_) (fun hc3 => ?_)
 exact absurd hc3 (by first | (simp; done) | (rw [decide_eq_false (by omega)]; simp))
 refine sy_skip ?_
 refine sy_seq ?_
 refine sy_tx' [0, 1, 2, 3] rfl ?_
 refine sp rfl (PE.fieldAddr fo28_2 rfl) rfl ?_
 refine spL rfl rfl (lh sc26 rfl rfl) rfl ?_
 refine sp rfl (PE.lenSl isl26 rfl) rfl ?_
 refine sp rfl (PE.move rfl) rfl ?_
 refine sy_block ?_
 refine sy_loop (ι := {n : Nat // n ≤ d.hs.length}) (fun n => ⟨[(21, .int .i64 k), (129, .int .i64 k), (7, .pointer (some ⟨b7, 0, none⟩)), (8, .pointer (some ⟨b8, 0, none⟩)), (12, .pointer (some ⟨b12, 0, none⟩)), (13, .pointer (some ⟨b13, 0, none⟩)), (15, .pointer (some ⟨b15, 0, none⟩)), (14, .int .i64 (toldE g d false)), (16, .int .i64 (toldE v d false)), (158, .int .i64 d.hs.length), (159, .int .i64 n.1)], (b15, cel 94 (ints (bndB v d))) :: (b13, cel 94 (ints (bndB g d))) :: (b12, cel 25 (gtl v (v.sl aw cw))) :: (b8, cel 28 (ctl d (d.sl ah ch))) :: (b7, cel 25 (gtl g (g.sl ag cg))) :: H, RowsA aw 5 (grows v.grs) :: RowsA ah 5 (hrows d.hs) :: RowsA ag 5 (grows g.grs) :: R⟩) (fun n => d.hs.length - n.1) ⟨0, by omega⟩ ?_ (fun n => ?_)
 exact sy_at (by repeat' first | exact Sub.nil | apply Sub.cons | rfl | (simp [lk]; omega)) (fun _ h => h)
 obtain ⟨n, hn⟩ := n
 dsimp only at hn ⊢
 refine sy_seq ?_
 refine sy_tx' [0] rfl ?_
 refine sp rfl (PE.lss rfl rfl) rfl ?_
 refine sy_seq ?_
 refine sy_cond rfl (fun hc4 => ?_) (fun hc4 => ?_)
 try simp only [decide_eq_true_eq, decide_eq_false_iff_not, Bool.and_eq_true, Bool.or_eq_true, Bool.not_eq_true', Int.not_le, Int.not_lt] at hc4
 have hlt := hwd.lets n k (by omega) hk4
 refine sy_skip ?_
 refine sy_seq ?_
 refine sy_block ?_
 refine sy_seq ?_
 refine sy_tx' [0, 1] rfl ?_
 refine sp rfl (PE.move rfl) rfl ?_
 refine sp rfl (PE.assign rfl) rfl ?_
 refine sy_seq ?_
 refine sy_tx' [0, 1, 2, 3, 4, 5, 6, 7, 8, 9, 10] rfl ?_
 refine spL rfl rfl (lhA [_, _, _] ag25 rfl rfl rfl) rfl ?_
 refine spL rfl rfl (lhA [_, _, _] ag28 rfl rfl rfl) rfl ?_
 refine sp rfl (PE.move rfl) rfl ?_
 refine sp rfl (PE.move rfl) rfl ?_
 refine cl rfl cal58 rfl rfl (c_Lets g ag cg (by omega) d ah ch (by omega) n k _ _) ?_
 rintro _ _ _ ⟨rfl, rfl, rfl⟩
 refine sp rfl (PE.move rfl) rfl ?_
 refine sp rfl (PE.extract rfl rfl) rfl ?_
 refine sp rfl (PE.extract rfl rfl) rfl ?_
 refine alc rfl zl41 rfl (fun b23 => ?_)
 refine sto rfl rfl rfl cn41 rfl rfl rfl rfl ?_
 refine sp rfl (PE.assign rfl) rfl ?_
 refine sy_seq ?_
 refine sy_tx' [0, 1, 2, 3, 4, 5, 6, 7, 8, 9, 10] rfl ?_
 refine spL rfl rfl (lhA [_, _, _] ag25 rfl rfl rfl) rfl ?_
 refine spL rfl rfl (lhA [_, _, _] ag28 rfl rfl rfl) rfl ?_
 refine sp rfl (PE.move rfl) rfl ?_
 refine sp rfl (PE.move rfl) rfl ?_
 refine cl rfl cal58 rfl rfl (c_Lets v aw cw (by omega) d ah ch (by omega) n k _ _) ?_
 rintro _ _ _ ⟨rfl, rfl, rfl⟩
 rcases hlt with ⟨e1, e2 | e2⟩ | ⟨e1, e2, e3, e4⟩ <;> rw [e1, e2]
 refine sp rfl (PE.move rfl) rfl ?_
 refine sp rfl (PE.extract rfl rfl) rfl ?_
 refine sp rfl (PE.extract rfl rfl) rfl ?_
 refine alc rfl zl41 rfl (fun b25 => ?_)
 refine sto rfl rfl rfl cn41 rfl rfl rfl rfl ?_
 refine sp rfl (PE.assign rfl) rfl ?_
 refine sy_seq ?_
 refine sy_cut (ι := Unit) (fun _ => ⟨[(21, .int .i64 k), (129, .int .i64 k), (7, .pointer (some ⟨b7, 0, none⟩)), (8, .pointer (some ⟨b8, 0, none⟩)), (12, .pointer (some ⟨b12, 0, none⟩)), (13, .pointer (some ⟨b13, 0, none⟩)), (15, .pointer (some ⟨b15, 0, none⟩)), (14, .int .i64 (toldE g d false)), (16, .int .i64 (toldE v d false)), (22, .int .i64 n), (158, .int .i64 d.hs.length), (159, .int .i64 n), (213, .bool false)], (b15, cel 94 (ints (bndB v d))) :: (b13, cel 94 (ints (bndB g d))) :: (b12, cel 25 (gtl v (v.sl aw cw))) :: (b8, cel 28 (ctl d (d.sl ah ch))) :: (b7, cel 25 (gtl g (g.sl ag cg))) :: H, RowsA aw 5 (grows v.grs) :: RowsA ah 5 (hrows d.hs) :: RowsA ag 5 (grows g.grs) :: R⟩) ?_ ?_
 refine sy_tx' [0, 1, 2, 3, 4, 5, 6, 7, 8, 9, 10, 11, 12, 13, 14, 15, 16, 17, 18, 19, 20, 21, 22, 23, 24, 25, 26, 27, 28, 29, 30, 31, 32, 33, 34, 35] rfl ?_
 refine sp rfl (PE.move rfl) rfl ?_
 refine sp rfl (PE.neq rfl rfl) rfl ?_
 refine sp rfl (PE.move rfl) rfl ?_
 refine sy_case (t := 180) rfl (fun g180 => ?_) (fun g180 => ?_)
 refine spG rfl rfl rfl rfl (PE.move rfl) rfl ?_
 refine spG rfl rfl rfl rfl (PE.neq rfl rfl) rfl ?_
 refine sp rfl (PE.pick rfl rfl rfl) rfl ?_
 refine sp rfl (PE.move rfl) rfl ?_
 refine sy_case (t := 184) rfl (fun g184 => ?_) (fun g184 => ?_)
 exact absurd g184 (by simp)
 refine spG rfl rfl rfl rfl (PE.move rfl) rfl ?_
 refine spG rfl rfl rfl rfl (PE.neq rfl rfl) rfl ?_
 refine spG rfl rfl rfl rfl (PE.move rfl) rfl ?_
 refine sy_case (t := 187) rfl (fun g187 => ?_) (fun g187 => ?_)
 exact absurd g187 (by simp)
 repeat refine spN rfl rfl rfl rfl rfl rfl rfl rfl ?_
 refine spG rfl rfl rfl rfl (PE.pick rfl rfl rfl) rfl ?_
 refine sp rfl (PE.pick rfl rfl rfl) rfl ?_
 refine sp rfl (PE.move rfl) rfl ?_
 refine spG rfl rfl rfl rfl (PE.move rfl) rfl ?_
 refine spG rfl rfl rfl rfl (PE.eql rfl rfl) rfl ?_
 refine spG rfl rfl rfl rfl (PE.move rfl) rfl ?_
 refine sy_case (t := 195) rfl (fun g195 => ?_) (fun g195 => ?_)
 exact absurd g195 (by simp)
 repeat refine spN rfl rfl rfl rfl rfl rfl rfl rfl ?_
 repeat refine spU rfl rfl rfl rfl rfl rfl rfl ?_
 repeat refine spN rfl rfl rfl rfl rfl rfl rfl rfl ?_
 repeat refine spU rfl rfl rfl rfl rfl rfl rfl ?_
 refine spN rfl rfl rfl rfl rfl rfl rfl rfl ?_
 refine spG rfl rfl rfl rfl (PE.pick rfl rfl rfl) rfl ?_
 refine sp rfl (PE.pick rfl rfl rfl) rfl ?_
 first
   | exact sy_cutEnd () (by repeat' first | exact Sub.nil | apply Sub.cons | rfl | (simp [lk]; omega)) (fun w h => (h.del b25).del b23)
   | (rw [show decide ((letP v d n k).2 < (letP g d n k).2) = false from decide_eq_false (by omega)]; exact sy_cutEnd () (by repeat' first | exact Sub.nil | apply Sub.cons | rfl | (simp [lk]; omega)) (fun w h => (h.del b25).del b23))
 exact absurd g180 (by simp)
 rintro ⟨⟩
 dsimp only
 refine sy_cond rfl (fun hc5 => ?_) (fun hc5 => ?_)
 exact absurd hc5 (by first | (simp; done) | (rw [decide_eq_false (by omega)]; simp))
 refine sy_skip ?_
 refine sy_tx' [0, 1] rfl ?_
 refine sp rfl (PE.add rfl rfl (by omega)) rfl ?_
 refine sp rfl (PE.move rfl) rfl ?_
 exact sy_next ⟨n + 1, by omega⟩ (by dsimp only; omega) (by repeat' first | exact Sub.nil | apply Sub.cons | rfl | (simp [lk]; omega)) (fun _ h => h)
 refine sp rfl (PE.move rfl) rfl ?_
 refine sp rfl (PE.extract rfl rfl) rfl ?_
 refine sp rfl (PE.extract rfl rfl) rfl ?_
 refine alc rfl zl41 rfl (fun b25 => ?_)
 refine sto rfl rfl rfl cn41 rfl rfl rfl rfl ?_
 refine sp rfl (PE.assign rfl) rfl ?_
 refine sy_seq ?_
 refine sy_cut (ι := Unit) (fun _ => ⟨[(21, .int .i64 k), (129, .int .i64 k), (7, .pointer (some ⟨b7, 0, none⟩)), (8, .pointer (some ⟨b8, 0, none⟩)), (12, .pointer (some ⟨b12, 0, none⟩)), (13, .pointer (some ⟨b13, 0, none⟩)), (15, .pointer (some ⟨b15, 0, none⟩)), (14, .int .i64 (toldE g d false)), (16, .int .i64 (toldE v d false)), (22, .int .i64 n), (158, .int .i64 d.hs.length), (159, .int .i64 n), (213, .bool false)], (b15, cel 94 (ints (bndB v d))) :: (b13, cel 94 (ints (bndB g d))) :: (b12, cel 25 (gtl v (v.sl aw cw))) :: (b8, cel 28 (ctl d (d.sl ah ch))) :: (b7, cel 25 (gtl g (g.sl ag cg))) :: H, RowsA aw 5 (grows v.grs) :: RowsA ah 5 (hrows d.hs) :: RowsA ag 5 (grows g.grs) :: R⟩) ?_ ?_
 refine sy_tx' [0, 1, 2, 3, 4, 5, 6, 7, 8, 9, 10, 11, 12, 13, 14, 15, 16, 17, 18, 19, 20, 21, 22, 23, 24, 25, 26, 27, 28, 29, 30, 31, 32, 33, 34, 35] rfl ?_
 refine sp rfl (PE.move rfl) rfl ?_
 refine sp rfl (PE.neq rfl rfl) rfl ?_
 refine sp rfl (PE.move rfl) rfl ?_
 refine sy_case (t := 180) rfl (fun g180 => ?_) (fun g180 => ?_)
 refine spG rfl rfl rfl rfl (PE.move rfl) rfl ?_
 refine spG rfl rfl rfl rfl (PE.neq rfl rfl) rfl ?_
 refine sp rfl (PE.pick rfl rfl rfl) rfl ?_
 refine sp rfl (PE.move rfl) rfl ?_
 refine sy_case (t := 184) rfl (fun g184 => ?_) (fun g184 => ?_)
 exact absurd g184 (by simp)
 refine spG rfl rfl rfl rfl (PE.move rfl) rfl ?_
 refine spG rfl rfl rfl rfl (PE.neq rfl rfl) rfl ?_
 refine spG rfl rfl rfl rfl (PE.move rfl) rfl ?_
 refine sy_case (t := 187) rfl (fun g187 => ?_) (fun g187 => ?_)
 refine spG rfl rfl rfl rfl (PE.move rfl) rfl ?_
 refine spG rfl rfl rfl rfl (PE.neq rfl rfl) rfl ?_
 refine spG rfl rfl rfl rfl (PE.pick rfl rfl rfl) rfl ?_
 refine sp rfl (PE.pick rfl rfl rfl) rfl ?_
 refine sp rfl (PE.move rfl) rfl ?_
 refine sy_case (t := 192) rfl (fun g192 => ?_) (fun g192 => ?_)
 exact absurd g192 (by simp)
 refine spG rfl rfl rfl rfl (PE.move rfl) rfl ?_
 refine spG rfl rfl rfl rfl (PE.eql rfl rfl) rfl ?_
 refine spG rfl rfl rfl rfl (PE.move rfl) rfl ?_
 refine sy_case (t := 195) rfl (fun g195 => ?_) (fun g195 => ?_)
 exact absurd g195 (by simp)
 repeat refine spN rfl rfl rfl rfl rfl rfl rfl rfl ?_
 repeat refine spU rfl rfl rfl rfl rfl rfl rfl ?_
 repeat refine spN rfl rfl rfl rfl rfl rfl rfl rfl ?_
 repeat refine spU rfl rfl rfl rfl rfl rfl rfl ?_
 refine spN rfl rfl rfl rfl rfl rfl rfl rfl ?_
 refine spG rfl rfl rfl rfl (PE.pick rfl rfl rfl) rfl ?_
 refine sp rfl (PE.pick rfl rfl rfl) rfl ?_
 first
   | exact sy_cutEnd () (by repeat' first | exact Sub.nil | apply Sub.cons | rfl | (simp [lk]; omega)) (fun w h => (h.del b25).del b23)
   | (rw [show decide ((letP v d n k).2 < (letP g d n k).2) = false from decide_eq_false (by omega)]; exact sy_cutEnd () (by repeat' first | exact Sub.nil | apply Sub.cons | rfl | (simp [lk]; omega)) (fun w h => (h.del b25).del b23))
 exact absurd g187 (by simp)
 exact absurd g180 (by simp)
 rintro ⟨⟩
 dsimp only
 refine sy_cond rfl (fun hc5 => ?_) (fun hc5 => ?_)
 exact absurd hc5 (by first | (simp; done) | (rw [decide_eq_false (by omega)]; simp))
 refine sy_skip ?_
 refine sy_tx' [0, 1] rfl ?_
 refine sp rfl (PE.add rfl rfl (by omega)) rfl ?_
 refine sp rfl (PE.move rfl) rfl ?_
 exact sy_next ⟨n + 1, by omega⟩ (by dsimp only; omega) (by repeat' first | exact Sub.nil | apply Sub.cons | rfl | (simp [lk]; omega)) (fun _ h => h)
 refine sp rfl (PE.move rfl) rfl ?_
 refine sp rfl (PE.extract rfl rfl) rfl ?_
 refine sp rfl (PE.extract rfl rfl) rfl ?_
 refine alc rfl zl41 rfl (fun b25 => ?_)
 refine sto rfl rfl rfl cn41 rfl rfl rfl rfl ?_
 refine sp rfl (PE.assign rfl) rfl ?_
 refine sy_seq ?_
 refine sy_cut (ι := Unit) (fun _ => ⟨[(21, .int .i64 k), (129, .int .i64 k), (7, .pointer (some ⟨b7, 0, none⟩)), (8, .pointer (some ⟨b8, 0, none⟩)), (12, .pointer (some ⟨b12, 0, none⟩)), (13, .pointer (some ⟨b13, 0, none⟩)), (15, .pointer (some ⟨b15, 0, none⟩)), (14, .int .i64 (toldE g d false)), (16, .int .i64 (toldE v d false)), (22, .int .i64 n), (158, .int .i64 d.hs.length), (159, .int .i64 n), (213, .bool false)], (b15, cel 94 (ints (bndB v d))) :: (b13, cel 94 (ints (bndB g d))) :: (b12, cel 25 (gtl v (v.sl aw cw))) :: (b8, cel 28 (ctl d (d.sl ah ch))) :: (b7, cel 25 (gtl g (g.sl ag cg))) :: H, RowsA aw 5 (grows v.grs) :: RowsA ah 5 (hrows d.hs) :: RowsA ag 5 (grows g.grs) :: R⟩) ?_ ?_
 refine sy_tx' [0, 1, 2, 3, 4, 5, 6, 7, 8, 9, 10, 11, 12, 13, 14, 15, 16, 17, 18, 19, 20, 21, 22, 23, 24, 25, 26, 27, 28, 29, 30, 31, 32, 33, 34, 35] rfl ?_
 refine sp rfl (PE.move rfl) rfl ?_
 refine sp rfl (PE.neq rfl rfl) rfl ?_
 refine sp rfl (PE.move rfl) rfl ?_
 refine sy_case (t := 180) rfl (fun g180 => ?_) (fun g180 => ?_)
 exact absurd g180 (by simp)
 repeat refine spN rfl rfl rfl rfl rfl rfl rfl rfl ?_
 refine sp rfl (PE.pick rfl rfl rfl) rfl ?_
 refine sp rfl (PE.move rfl) rfl ?_
 refine spG rfl rfl rfl rfl (PE.move rfl) rfl ?_
 refine spG rfl rfl rfl rfl (PE.neq rfl rfl) rfl ?_
 refine spG rfl rfl rfl rfl (PE.move rfl) rfl ?_
 refine sy_case (t := 187) rfl (fun g187 => ?_) (fun g187 => ?_)
 exact absurd g187 (by simp)
 repeat refine spN rfl rfl rfl rfl rfl rfl rfl rfl ?_
 refine spG rfl rfl rfl rfl (PE.pick rfl rfl rfl) rfl ?_
 refine sp rfl (PE.pick rfl rfl rfl) rfl ?_
 refine sp rfl (PE.move rfl) rfl ?_
 refine spG rfl rfl rfl rfl (PE.move rfl) rfl ?_
 refine spG rfl rfl rfl rfl (PE.eql rfl rfl) rfl ?_
 refine spG rfl rfl rfl rfl (PE.move rfl) rfl ?_
 refine sy_case (t := 195) rfl (fun g195 => ?_) (fun g195 => ?_)
 refine spG rfl rfl rfl rfl (PE.move rfl) rfl ?_
 refine spG rfl rfl rfl rfl (PE.neq rfl rfl) rfl ?_
 refine spG rfl rfl rfl rfl (PE.move rfl) rfl ?_
 refine sy_case (t := 198) rfl (fun g198 => ?_) (fun g198 => ?_)
 exact absurd g198 (by simp)
 refine spG rfl rfl rfl rfl (PE.fieldAddr fo41_0 rfl) rfl ?_
 refine spLG rfl rfl rfl rfl rfl (lh sc3 rfl rfl) rfl ?_
 refine spG rfl rfl rfl rfl (PE.fieldAddr fo41_0 rfl) rfl ?_
 refine spLG rfl rfl rfl rfl rfl (lh sc3 rfl rfl) rfl ?_
 refine spG rfl rfl rfl rfl (PE.gtr rfl rfl) rfl ?_
 refine spG rfl rfl rfl rfl (PE.pick rfl rfl rfl) rfl ?_
 refine spG rfl rfl rfl rfl (PE.move rfl) rfl ?_
 refine sy_case (t := 205) rfl (fun g205 => ?_) (fun g205 => ?_)
 exact absurd g205 (by first | (simp; done) | (rw [decide_eq_false (by omega)]; simp))
 refine spG rfl rfl rfl rfl (PE.fieldAddr fo41_1 rfl) rfl ?_
 refine spLG rfl rfl rfl rfl rfl (lh sc3 rfl rfl) rfl ?_
 refine spG rfl rfl rfl rfl (PE.fieldAddr fo41_1 rfl) rfl ?_
 refine spLG rfl rfl rfl rfl rfl (lh sc3 rfl rfl) rfl ?_
 refine spG rfl rfl rfl rfl (PE.lss rfl rfl) rfl ?_
 refine spG rfl rfl rfl rfl (PE.pick rfl rfl rfl) rfl ?_
 refine spG rfl rfl rfl rfl (PE.pick rfl rfl rfl) rfl ?_
 refine sp rfl (PE.pick rfl rfl rfl) rfl ?_
 first
   | exact sy_cutEnd () (by repeat' first | exact Sub.nil | apply Sub.cons | rfl | (simp [lk]; omega)) (fun w h => (h.del b25).del b23)
   | (rw [show decide ((letP v d n k).2 < (letP g d n k).2) = false from decide_eq_false (by omega)]; exact sy_cutEnd () (by repeat' first | exact Sub.nil | apply Sub.cons | rfl | (simp [lk]; omega)) (fun w h => (h.del b25).del b23))
 exact absurd g195 (by simp)
 rintro ⟨⟩
 dsimp only
 refine sy_cond rfl (fun hc5 => ?_) (fun hc5 => ?_)
 exact absurd hc5 (by first | (simp; done) | (rw [decide_eq_false (by omega)]; simp))
 refine sy_skip ?_
 refine sy_tx' [0, 1] rfl ?_
 refine sp rfl (PE.add rfl rfl (by omega)) rfl ?_
 refine sp rfl (PE.move rfl) rfl ?_
 exact sy_next ⟨n + 1, by omega⟩ (by dsimp only; omega) (by repeat' first | exact Sub.nil | apply Sub.cons | rfl | (simp [lk]; omega)) (fun _ h => h)
 try simp only [decide_eq_true_eq, decide_eq_false_iff_not, Bool.and_eq_true, Bool.or_eq_true, Bool.not_eq_true', Int.not_le, Int.not_lt] at hc4
 refine sy_exit ?_
 repeat refine sy_tx ?_
 refine sy_bx ?_
 refine sy_tx' [0, 1] rfl ?_
 refine sp rfl (PE.add rfl rfl (by omega)) rfl ?_
 refine sp rfl (PE.move rfl) rfl ?_
 exact sy_next ⟨k + 1, by omega⟩ (by dsimp only; omega) (by repeat' first | exact Sub.nil | apply Sub.cons | rfl | (simp [lk]; omega)) (fun _ h => h)
 try simp only [decide_eq_true_eq, decide_eq_false_iff_not, Bool.and_eq_true, Bool.or_eq_true, Bool.not_eq_true', Int.not_le, Int.not_lt] at hc2
 refine sy_exit ?_
 repeat refine sy_tx ?_
 refine sy_bx ?_
 refine sy_seq ?_
 refine sy_seq ?_
 refine sy_tx' [0, 1, 2, 3] rfl ?_
 refine sp rfl (PE.fieldAddr fo28_2 rfl) rfl ?_
 refine spL rfl rfl (lh sc26 rfl rfl) rfl ?_
 refine sp rfl (PE.lenSl isl26 rfl) rfl ?_
 refine sp rfl (PE.move rfl) rfl ?_
 refine sy_block ?_
 refine sy_loop (ι := {i : Nat // i ≤ d.hs.length}) (fun i => ⟨[(7, .pointer (some ⟨b7, 0, none⟩)), (8, .pointer (some ⟨b8, 0, none⟩)), (12, .pointer (some ⟨b12, 0, none⟩)), (218, .int .i64 d.hs.length), (219, .int .i64 i.1)], (b15, cel 94 (ints (bndB v d))) :: (b13, cel 94 (ints (bndB g d))) :: (b12, cel 25 (gtl v (v.sl aw cw))) :: (b8, cel 28 (ctl d (d.sl ah ch))) :: (b7, cel 25 (gtl g (g.sl ag cg))) :: H, RowsA aw 5 (grows v.grs) :: RowsA ah 5 (hrows d.hs) :: RowsA ag 5 (grows g.grs) :: R⟩) (fun i => d.hs.length - i.1) ⟨0, by omega⟩ ?_ (fun i => ?_)
 exact sy_at (by repeat' first | exact Sub.nil | apply Sub.cons | rfl | (simp [lk]; omega)) (fun _ h => h)
 obtain ⟨i, hi⟩ := i
 dsimp only at hi ⊢
 refine sy_seq ?_
 refine sy_tx' [0] rfl ?_
 refine sp rfl (PE.lss rfl rfl) rfl ?_
 refine sy_seq ?_
 refine sy_cond rfl (fun hc6 => ?_) (fun hc6 => ?_)
 try simp only [decide_eq_true_eq, decide_eq_false_iff_not, Bool.and_eq_true, Bool.or_eq_true, Bool.not_eq_true', Int.not_le, Int.not_lt] at hc6
 refine sy_skip ?_
 refine sy_seq ?_
 refine sy_block ?_
 refine sy_seq ?_
 refine sy_tx' [0, 1] rfl ?_
 refine sp rfl (PE.move rfl) rfl ?_
 refine sp rfl (PE.assign rfl) rfl ?_
 refine sy_seq ?_
 refine sy_tx' [0, 1] rfl ?_
 refine sp rfl (PE.move rfl) rfl ?_
 refine sp rfl (PE.move rfl) rfl ?_
 refine sy_block ?_
 refine sy_loop (ι := {k : Nat // k ≤ i}) (fun k => ⟨[(7, .pointer (some ⟨b7, 0, none⟩)), (8, .pointer (some ⟨b8, 0, none⟩)), (12, .pointer (some ⟨b12, 0, none⟩)), (27, .int .i64 i), (218, .int .i64 d.hs.length), (219, .int .i64 i), (222, .int .i64 i), (223, .int .i64 k.1)], (b15, cel 94 (ints (bndB v d))) :: (b13, cel 94 (ints (bndB g d))) :: (b12, cel 25 (gtl v (v.sl aw cw))) :: (b8, cel 28 (ctl d (d.sl ah ch))) :: (b7, cel 25 (gtl g (g.sl ag cg))) :: H, RowsA aw 5 (grows v.grs) :: RowsA ah 5 (hrows d.hs) :: RowsA ag 5 (grows g.grs) :: R⟩) (fun k => i - k.1) ⟨0, by omega⟩ ?_ (fun k => ?_)
 exact sy_at (by repeat' first | exact Sub.nil | apply Sub.cons | rfl | (simp [lk]; omega)) (fun _ h => h)
 obtain ⟨k, hk⟩ := k
 dsimp only at hk ⊢
 refine sy_seq ?_
 refine sy_tx' [0] rfl ?_
 refine sp rfl (PE.lss rfl rfl) rfl ?_
 refine sy_seq ?_
 refine sy_cond rfl (fun hc7 => ?_) (fun hc7 => ?_)
 try simp only [decide_eq_true_eq, decide_eq_false_iff_not, Bool.and_eq_true, Bool.or_eq_true, Bool.not_eq_true', Int.not_le, Int.not_lt] at hc7
 refine sy_skip ?_
 refine sy_seq ?_
 refine sy_block ?_
 refine sy_seq ?_
 refine sy_tx' [0, 1] rfl ?_
 refine sp rfl (PE.move rfl) rfl ?_
 refine sp rfl (PE.assign rfl) rfl ?_
 refine sy_seq ?_
 refine sy_tx' [0, 1, 2, 3, 4, 5, 6, 7, 8, 9, 10] rfl ?_
 refine spL rfl rfl (lhA [_, _, _] ag25 rfl rfl rfl) rfl ?_
 refine spL rfl rfl (lhA [_, _, _] ag28 rfl rfl rfl) rfl ?_
 refine sp rfl (PE.move rfl) rfl ?_
 refine sp rfl (PE.move rfl) rfl ?_
 refine bsl (out := [_, _]) rfl sl34 zl3 rfl rfl rfl rfl rfl rfl (fun b231 => ?_)
 refine Sy.heap (fun w h => St.intRows (l := [(i : Int), (k : Int)]) h) ?_
 refine cl rfl cal69 rfl rfl (c_Agree g ag cg (by omega) d ah ch (by omega) [(i : Int), (k : Int)] (some ⟨b231, 0, none⟩) 2 (by simp) _ _) ?_
 rintro _ _ _ ⟨rfl, rfl, rfl⟩
 have ea := agr2_0 (i := i) (k := k) hwd.bg (by omega) (by omega) (by omega)
 rw [agrR_0 ea, ea]
 refine sp rfl (PE.move rfl) rfl ?_
 refine sp rfl (PE.extract rfl rfl) rfl ?_
 refine sp rfl (PE.extract rfl rfl) rfl ?_
 refine sp rfl (PE.assign rfl) rfl ?_
 refine sp rfl (PE.assign rfl) rfl ?_
 refine sy_seq ?_
 refine sy_tx' [0, 1, 2, 3, 4, 5, 6, 7, 8, 9, 10] rfl ?_
 refine spL rfl rfl (lhA [_, _, _] ag25 rfl rfl rfl) rfl ?_
 refine spL rfl rfl (lhA [_, _, _] ag28 rfl rfl rfl) rfl ?_
 refine sp rfl (PE.move rfl) rfl ?_
 refine sp rfl (PE.move rfl) rfl ?_
 refine bsl (out := [_, _]) rfl sl34 zl3 rfl rfl rfl rfl rfl rfl (fun b240 => ?_)
 refine Sy.heap (fun w h => St.intRows (l := [(k : Int), (i : Int)]) h) ?_
 refine cl rfl cal69 rfl rfl (c_Agree v aw cw (by omega) d ah ch (by omega) [(k : Int), (i : Int)] (some ⟨b240, 0, none⟩) 2 (by simp) _ _) ?_
 rintro _ _ _ ⟨rfl, rfl, rfl⟩
 have eb := agr2_0 (i := k) (k := i) hwd.bv (by omega) (by omega) (by omega)
 rw [agrR_0 eb, eb]
 have hag := hwd.agr i k
 refine sp rfl (PE.move rfl) rfl ?_
 refine sp rfl (PE.extract rfl rfl) rfl ?_
 refine sp rfl (PE.extract rfl rfl) rfl ?_
 refine sp rfl (PE.assign rfl) rfl ?_
 refine sp rfl (PE.assign rfl) rfl ?_
 refine sy_seq ?_
 refine sy_tx' [0, 1, 2, 3, 4, 5, 6, 7, 8, 9, 10, 11, 12] rfl ?_
 refine sp rfl (PE.move rfl) rfl ?_
 refine sp rfl (PE.neq rfl rfl) rfl ?_
 refine sp rfl (PE.move rfl) rfl ?_
 refine sy_case (t := 246) rfl (fun g246 => ?_) (fun g246 => ?_)
 exact absurd g246 (by first | (simp; done) | (rw [decide_eq_false (by omega)]; simp))
 refine spG rfl rfl rfl rfl (PE.move rfl) rfl ?_
 refine spG rfl rfl rfl rfl (PE.neq rfl rfl) rfl ?_
 refine sp rfl (PE.pick rfl rfl rfl) rfl ?_
 refine sp rfl (PE.move rfl) rfl ?_
 refine sy_case (t := 250) rfl (fun g250 => ?_) (fun g250 => ?_)
 exact absurd g250 (by first | (simp; done) | (rw [decide_eq_false (by omega)]; simp))
 refine spG rfl rfl rfl rfl (PE.move rfl) rfl ?_
 refine spG rfl rfl rfl rfl (PE.move rfl) rfl ?_
 refine sy_case (t := 252) rfl (fun g252 => ?_) (fun g252 => ?_)
 rw [hag g252]
 refine spG rfl rfl rfl rfl (PE.move rfl) rfl ?_
 refine spG rfl rfl rfl rfl (PE.not rfl) rfl ?_
 refine spG rfl rfl rfl rfl (PE.pick rfl rfl rfl) rfl ?_
 refine sp rfl (PE.pick rfl rfl rfl) rfl ?_
 refine sy_cond rfl (fun hc8 => ?_) (fun hc8 => ?_)
 exact absurd hc8 (by first | (simp; done) | (rw [decide_eq_false (by omega)]; simp))
 refine sy_skip ?_
 refine sy_tx' [0, 1] rfl ?_
 refine sp rfl (PE.add rfl rfl (by omega)) rfl ?_
 refine sp rfl (PE.move rfl) rfl ?_
 exact sy_next ⟨k + 1, by omega⟩ (by dsimp only; omega) (by repeat' first | exact Sub.nil | apply Sub.cons | rfl | (simp [lk]; omega)) drp
 repeat refine spN rfl rfl rfl rfl rfl rfl rfl rfl ?_
 refine spG rfl rfl rfl rfl (PE.pick rfl rfl rfl) rfl ?_
 refine sp rfl (PE.pick rfl rfl rfl) rfl ?_
 refine sy_condF rfl ?_
 refine sy_skip ?_
 refine sy_tx' [0, 1] rfl ?_
 refine sp rfl (PE.add rfl rfl (by omega)) rfl ?_
 refine sp rfl (PE.move rfl) rfl ?_
 exact sy_next ⟨k + 1, by omega⟩ (by dsimp only; omega) (by repeat' first | exact Sub.nil | apply Sub.cons | rfl | (simp [lk]; omega)) drp
 try simp only [decide_eq_true_eq, decide_eq_false_iff_not, Bool.and_eq_true, Bool.or_eq_true, Bool.not_eq_true', Int.not_le, Int.not_lt] at hc7
 refine sy_exit ?_
 repeat refine sy_tx ?_
 refine sy_bx ?_
 refine sy_tx' [0, 1] rfl ?_
 refine sp rfl (PE.add rfl rfl (by omega)) rfl ?_
 refine sp rfl (PE.move rfl) rfl ?_
 exact sy_next ⟨i + 1, by omega⟩ (by dsimp only; omega) (by repeat' first | exact Sub.nil | apply Sub.cons | rfl | (simp [lk]; omega)) drp
 try simp only [decide_eq_true_eq, decide_eq_false_iff_not, Bool.and_eq_true, Bool.or_eq_true, Bool.not_eq_true', Int.not_le, Int.not_lt] at hc6
 refine sy_exit ?_
 repeat refine sy_tx ?_
 refine sy_bx ?_
 refine sy_seq ?_
 refine sy_tx' [0, 1] rfl ?_
 refine clV rfl cal22 rfl rfl (c_awake _ _) ?_
 refine sp rfl (PE.assign rfl) rfl ?_
 refine sy_ret ?_
 exact sy_return (vs := [_]) rfl (.cons (RV.tmp rfl) .nil) rfl ⟨rfl, rfl, rfl⟩ (fun w h => St.sub (((((h.del b15).del b13).del b12).del b8).del b7))
end Go.Proofs.Ytknoaljnelfklaa
