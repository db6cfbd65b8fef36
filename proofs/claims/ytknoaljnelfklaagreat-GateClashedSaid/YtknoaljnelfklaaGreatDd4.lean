/- Walks of the functions of the program, and the laws that join them: what the last theorem of this claim needs, in order. -/
import Derived.Test.YtknoaljnelfklaaGreatDd3
namespace Go.Proofs.YtknoaljnelfklaaGreat
set_option linter.unusedSimpArgs false
set_option linter.unusedVariables false
open Go
theorem are64 : arE Tryz.prog 64 = some (4, 3) := by kernel_rfl
theorem cal33 : cal Tryz.prog 33 = true := by kernel_rfl
theorem cal83 : cal Tryz.prog 83 = true := by kernel_rfl
theorem cal84 : cal Tryz.prog 84 = true := by kernel_rfl
theorem cal85 : cal Tryz.prog 85 = true := by kernel_rfl
theorem cn136 : cellN Tryz.prog 136 = some 1 := by kernel_rfl
theorem el75 : elN Tryz.prog 75 = some 1 := by kernel_rfl
theorem fo138_0 : fOff Tryz.prog 138 0 = some 0 := by kernel_rfl
theorem fo138_1 : fOff Tryz.prog 138 1 = some 1 := by kernel_rfl
theorem fo138_2 : fOff Tryz.prog 138 2 = some 2 := by kernel_rfl
theorem ik136 : intK Tryz.prog 136 = some .u32 := by kernel_rfl
theorem ik3 : intK Tryz.prog 3 = some .i64 := by kernel_rfl
theorem isl75 : isSl Tryz.prog 75 = true := by kernel_rfl
theorem pl138 : placeL Tryz.prog 138 = some [(0, 1), (1, 1), (2, 1)] := by kernel_rfl
theorem sc136 : scal Tryz.prog 136 = true := by kernel_rfl
theorem sc5 : scal Tryz.prog 5 = true := by kernel_rfl
theorem sc75 : scal Tryz.prog 75 = true := by kernel_rfl
theorem us136 : (Tryz.prog.underlying 136).isSome = true := by kernel_rfl
theorem us3 : (Tryz.prog.underlying 3).isSome = true := by kernel_rfl
theorem us5 : (Tryz.prog.underlying 5).isSome = true := by kernel_rfl
theorem zl138 : zeroL Tryz.prog 138 = some ([.slice none 0 0, .int .i64 0, .int .u32 0]) := by kernel_rfl
def urow (x : Int) : List Value := [.int .u8 x]
def urows (l : List Int) : List (List Value) := l.map urow
theorem c_Fill (g : List Int) (ag : Option Addr) (cg : Nat) (hgl : g.length ≤ 9223372036854775807) (H : Heap) (R : Facts) :
    Fn Tryz.prog 31 [.slice ag g.length cg] H R (fun v H' R' => ∃ bk, ∃ mx : Int, (0 ≤ mx ∧ mx ≤ 4294967295) ∧ v = .pointer (some ⟨bk, 0, none⟩) ∧ H' = (bk, cel 138 [.slice ag g.length cg, .int .i64 (0), .int .u32 (mx)]) :: H ∧ R' = R) := by
 refine fn_of Tryz.func31 rfl Tryz.ntmps31 rfl ?_
 refine sy_seq ?_
 refine sy_tx' [0] rfl ?_
 refine sp rfl (PE.assign rfl) rfl ?_
 refine sy_seq ?_
 refine sy_tx' [0, 1, 2, 3, 4, 5, 6, 7] rfl ?_
 refine sp rfl (PE.move rfl) rfl ?_
 refine sp rfl (PE.move rfl) rfl ?_
 refine sp rfl (PE.lenSl isl75 rfl) rfl ?_
 refine spE rfl (PE.convU us3 ik136 rfl) rfl ?_
 rintro _ ⟨u6, rfl, hu6⟩
 refine spE rfl (PE.xorU rfl rfl) rfl ?_
 rintro _ ⟨u7, rfl, hu7⟩
 refine sp rfl (PE.build (out := [_, _, _]) pl138 zl138 rfl rfl) rfl ?_
 refine bx rfl rfl rfl (fun b9 => ?_)
 refine sp rfl (PE.assign rfl) rfl ?_
 refine sy_ret ?_
 exact sy_return (vs := [_]) rfl (.cons (RV.tmp rfl) .nil) rfl ⟨b9, u7, hu7, rfl, rfl, rfl⟩ (fun _ h => h)
theorem c_handful (g : List Int) (ag : Option Addr) (cg bk : Nat) (hgl : g.length ≤ 9223372036854775807) (tq mx : Int) (htq : 0 ≤ tq ∧ tq ≤ 1000000000) (hmx : 0 ≤ mx ∧ mx ≤ 4294967295) (H : Heap) (R : Facts) [hG : MemRows ag 1 (urows g) R] :
    Fn Tryz.prog 85 [.pointer (some ⟨bk, 0, none⟩)] ((bk, cel 138 [.slice ag g.length cg, .int .i64 (tq), .int .u32 (mx)]) :: H) R (fun v H' R' => ∃ x m' : Int, (0 ≤ x ∧ x ≤ 65535) ∧ v = .int .i64 x ∧ (0 ≤ m' ∧ m' ≤ 4294967295) ∧ H' = (bk, cel 138 [.slice ag g.length cg, .int .i64 (tq + 1), .int .u32 (m')]) :: H ∧ R' = R) := by
 refine fn_of Tryz.func85 rfl Tryz.ntmps85 rfl ?_
 refine sy_seq ?_
 refine sy_tx' [0] rfl ?_
 refine sp rfl (PE.assign rfl) rfl ?_
 refine sy_seq ?_
 refine sy_seq ?_
 refine sy_tx' [0, 1, 2, 3, 4, 5] rfl ?_
 refine sp rfl (PE.move rfl) rfl ?_
 refine sp rfl (PE.nilCheck rfl) rfl ?_
 refine sp rfl (PE.fieldAddr fo138_0 rfl) rfl ?_
 refine spL rfl rfl (lh sc75 rfl rfl) rfl ?_
 refine sp rfl (PE.lenSl isl75 rfl) rfl ?_
 refine sp rfl (PE.assign rfl) rfl ?_
 refine sy_seq ?_
 refine sy_tx' [0, 1] rfl ?_
 refine sp rfl (PE.move rfl) rfl ?_
 refine sp rfl (PE.gtr rfl rfl) rfl ?_
 refine sy_cond rfl (fun hc0 => ?_) (fun hc0 => ?_)
 try simp only [decide_eq_true_eq, decide_eq_false_iff_not, Bool.and_eq_true, Bool.or_eq_true, Bool.not_eq_true', Int.not_le, Int.not_lt] at hc0
 obtain ⟨y, hy⟩ : ∃ y, g[(tq % g.length).toNat]? = some y := ⟨_, List.getElem?_eq_getElem (by have := Int.emod_lt_of_pos tq hc0; have := Int.emod_nonneg tq (show (g.length : Int) ≠ 0 by omega); omega)⟩
 refine sy_addr (a := ag) (sz := 1) (rows := urows g) (by intro h0; simp [urows] at h0; simp [h0] at hy) (fun bgr ogr he => ?_)
 subst he
 refine sy_draw [0, 0, 2, 6, 14, 0, 32, 96, 224, 0, 512, 1536, 3584, 0, 15872, 32736, 65504, 131040, 262142, 524286, 1048575, 2097151, 4194303] (.tk 0 (.tk 1 (.tk 2 (.tk 3 (.ld 4 (.tk 5 (.tk 6 (.tk 7 (.ld 8 (.tk 9 (.tk 10 (.tk 11 (.ld 12 (.tk 13 (.tk 14 (.tk 15 (.ld 16 (.tk 17 (.tk 18 (.tk 19 (.tk 20 (.tk 21 (.big 22 .done))))))))))))))))))))))) mixed (by kernel_rfl) ?_
 refine tk rfl (PE.move rfl) rfl ?_
 refine tk rfl (PE.move rfl) rfl ?_
 refine tk rfl (PE.nilCheck rfl) rfl ?_
 refine tk rfl (PE.fieldAddr fo138_2 rfl) rfl ?_
 refine ld rfl rfl (lh sc136 rfl rfl) rfl ?_
 refine tk rfl (PE.move rfl) rfl ?_
 refine tk rfl (PE.nilCheck rfl) rfl ?_
 refine tk rfl (PE.fieldAddr fo138_0 rfl) rfl ?_
 refine ld rfl rfl (lh sc75 rfl rfl) rfl ?_
 refine tk rfl (PE.move rfl) rfl ?_
 refine tk rfl (PE.nilCheck rfl) rfl ?_
 refine tk rfl (PE.fieldAddr fo138_1 rfl) rfl ?_
 refine ld rfl rfl (lh sc3 rfl rfl) rfl ?_
 refine tk rfl (PE.move rfl) rfl ?_
 refine tk rfl (PE.rem rfl rfl (by omega)) rfl ?_
 refine tk rfl (PE.indexAddr el75 rfl rfl (by exact Int.emod_nonneg tq (by omega)) (by exact Int.emod_lt_of_pos tq hc0)) rfl ?_
 refine ld rfl rfl (lf0 (x := .int .u8 y) sc5 (by simp [urows, urow, hy]; rfl) rfl) rfl ?_
 refine tkE rfl (PE.convU us5 ik136 rfl) rfl ?_
 rintro _ ⟨u28, rfl, hu28⟩
 refine tkE rfl (PE.xorU rfl rfl) rfl ?_
 rintro _ ⟨u29, rfl, hu29⟩
 refine tkE rfl (PE.mulU rfl rfl) rfl ?_
 rintro _ ⟨u30, rfl, hu30⟩
 refine tk rfl (PE.nilCheck rfl) rfl ?_
 refine tk rfl (PE.fieldAddr fo138_2 rfl) rfl ?_
 refine sto rfl rfl rfl cn136 rfl rfl rfl rfl ?_
 refine bg (fun w hs => ⟨trivial, trivial, trivial, trivial, trivial⟩) ?_
 refine sy_seq ?_
 refine sy_tx' [0, 1, 2, 3, 4, 5, 6, 7] rfl ?_
 refine sp rfl (PE.move rfl) rfl ?_
 refine sp rfl (PE.nilCheck rfl) rfl ?_
 refine sp rfl (PE.fieldAddr fo138_1 rfl) rfl ?_
 refine spL rfl rfl (lh sc3 rfl rfl) rfl ?_
 refine sp rfl (PE.add rfl rfl (by omega)) rfl ?_
 refine sp rfl (PE.nilCheck rfl) rfl ?_
 refine sp rfl (PE.fieldAddr fo138_1 rfl) rfl ?_
 refine sto rfl rfl rfl cn3 rfl rfl rfl rfl ?_
 refine sy_seq ?_
 refine sy_seq ?_
 refine sy_draw [0, 1, 3, 7, 0, 16, 48, 112, 240, 511] (.tk 0 (.tk 1 (.tk 2 (.ld 3 (.tk 4 (.tk 5 (.tk 6 (.ld 7 (.tk 8 (.tk 9 .done)))))))))) mixed (by kernel_rfl) ?_
 refine tk rfl (PE.move rfl) rfl ?_
 refine tk rfl (PE.nilCheck rfl) rfl ?_
 refine tk rfl (PE.fieldAddr fo138_1 rfl) rfl ?_
 refine ld rfl rfl (lh sc3 rfl rfl) rfl ?_
 refine tk rfl (PE.move rfl) rfl ?_
 refine tk rfl (PE.nilCheck rfl) rfl ?_
 refine tk rfl (PE.fieldAddr fo138_0 rfl) rfl ?_
 refine ld rfl rfl (lh sc75 rfl rfl) rfl ?_
 refine tk rfl (PE.lenSl isl75 rfl) rfl ?_
 refine tk rfl (PE.gtr rfl rfl) rfl ?_
 refine sy_cond rfl (fun hc1 => ?_) (fun hc1 => ?_)
 try simp only [decide_eq_true_eq, decide_eq_false_iff_not, Bool.and_eq_true, Bool.or_eq_true, Bool.not_eq_true', Int.not_le, Int.not_lt] at hc1
 refine sy_tx' [0, 1, 2, 3, 4, 5, 6, 7, 8, 9] rfl ?_
 refine sp rfl (PE.move rfl) rfl ?_
 refine sp rfl (PE.move rfl) rfl ?_
 refine sp rfl (PE.nilCheck rfl) rfl ?_
 refine sp rfl (PE.fieldAddr fo138_2 rfl) rfl ?_
 refine spL rfl rfl (lh sc136 rfl rfl) rfl ?_
 refine spE rfl (PE.mulU rfl rfl) rfl ?_
 rintro _ ⟨u55, rfl, hu55⟩
 refine spE rfl (PE.addU rfl rfl) rfl ?_
 rintro _ ⟨u56, rfl, hu56⟩
 refine sp rfl (PE.nilCheck rfl) rfl ?_
 refine sp rfl (PE.fieldAddr fo138_2 rfl) rfl ?_
 refine sto rfl rfl rfl cn136 rfl rfl rfl rfl ?_
 refine sy_seq ?_
 refine sy_draw [0, 1, 3, 7, 0, 16, 48, 112, 240, 511, 1023, 2047, 4095, 8191] (.tk 0 (.tk 1 (.tk 2 (.ld 3 (.tk 4 (.tk 5 (.tk 6 (.ld 7 (.tk 8 (.tk 9 (.tk 10 (.tk 11 (.tk 12 (.tk 13 .done)))))))))))))) mixed (by kernel_rfl) ?_
 refine tk rfl (PE.move rfl) rfl ?_
 refine tk rfl (PE.nilCheck rfl) rfl ?_
 refine tk rfl (PE.fieldAddr fo138_2 rfl) rfl ?_
 refine ld rfl rfl (lh sc136 rfl rfl) rfl ?_
 refine tk rfl (PE.move rfl) rfl ?_
 refine tk rfl (PE.nilCheck rfl) rfl ?_
 refine tk rfl (PE.fieldAddr fo138_2 rfl) rfl ?_
 refine ld rfl rfl (lh sc136 rfl rfl) rfl ?_
 refine tkE rfl (PE.shrU rfl rfl (by decide) (by omega) (by omega)) rfl ?_
 rintro _ ⟨u67, rfl, hu67⟩
 refine tkE rfl (PE.xorU rfl rfl) rfl ?_
 rintro _ ⟨u68, rfl, hu68⟩
 refine tkE rfl (PE.shrU rfl rfl (by decide) (by omega) (by omega)) rfl ?_
 rintro _ ⟨u69, rfl, hu69⟩
 refine tkE rfl (PE.andU rfl rfl (by decide) (by decide)) rfl ?_
 rintro _ ⟨u70, rfl, hu70⟩
 refine tk rfl (PE.conv64 us136 ik3 rfl (by omega)) rfl ?_
 refine tk rfl (PE.assign rfl) rfl ?_
 refine sy_ret ?_
 first
   | exact sy_return (vs := [_]) rfl (.cons (RV.tmp rfl) .nil) rfl ⟨u70, _, hu70, rfl, hu56, rfl, rfl⟩ (fun _ h => h)
   | exact sy_return (vs := [_]) rfl (.cons (RV.tmp rfl) .nil) rfl ⟨u70, _, hu70, rfl, hu30, rfl, rfl⟩ (fun _ h => h)
   | exact sy_return (vs := [_]) rfl (.cons (RV.tmp rfl) .nil) rfl ⟨u70, _, hu70, rfl, hmx, rfl, rfl⟩ (fun _ h => h)
 try simp only [decide_eq_true_eq, decide_eq_false_iff_not, Bool.and_eq_true, Bool.or_eq_true, Bool.not_eq_true', Int.not_le, Int.not_lt] at hc1
 refine sy_skip ?_
 refine sy_seq ?_
 refine sy_draw [0, 1, 3, 7, 0, 16, 48, 112, 240, 511, 1023, 2047, 4095, 8191] (.tk 0 (.tk 1 (.tk 2 (.ld 3 (.tk 4 (.tk 5 (.tk 6 (.ld 7 (.tk 8 (.tk 9 (.tk 10 (.tk 11 (.tk 12 (.tk 13 .done)))))))))))))) mixed (by kernel_rfl) ?_
 refine tk rfl (PE.move rfl) rfl ?_
 refine tk rfl (PE.nilCheck rfl) rfl ?_
 refine tk rfl (PE.fieldAddr fo138_2 rfl) rfl ?_
 refine ld rfl rfl (lh sc136 rfl rfl) rfl ?_
 refine tk rfl (PE.move rfl) rfl ?_
 refine tk rfl (PE.nilCheck rfl) rfl ?_
 refine tk rfl (PE.fieldAddr fo138_2 rfl) rfl ?_
 refine ld rfl rfl (lh sc136 rfl rfl) rfl ?_
 refine tkE rfl (PE.shrU rfl rfl (by decide) (by omega) (by omega)) rfl ?_
 rintro _ ⟨u67, rfl, hu67⟩
 refine tkE rfl (PE.xorU rfl rfl) rfl ?_
 rintro _ ⟨u68, rfl, hu68⟩
 refine tkE rfl (PE.shrU rfl rfl (by decide) (by omega) (by omega)) rfl ?_
 rintro _ ⟨u69, rfl, hu69⟩
 refine tkE rfl (PE.andU rfl rfl (by decide) (by decide)) rfl ?_
 rintro _ ⟨u70, rfl, hu70⟩
 refine tk rfl (PE.conv64 us136 ik3 rfl (by omega)) rfl ?_
 refine tk rfl (PE.assign rfl) rfl ?_
 refine sy_ret ?_
 first
   | exact sy_return (vs := [_]) rfl (.cons (RV.tmp rfl) .nil) rfl ⟨u70, _, hu70, rfl, hu56, rfl, rfl⟩ (fun _ h => h)
   | exact sy_return (vs := [_]) rfl (.cons (RV.tmp rfl) .nil) rfl ⟨u70, _, hu70, rfl, hu30, rfl, rfl⟩ (fun _ h => h)
   | exact sy_return (vs := [_]) rfl (.cons (RV.tmp rfl) .nil) rfl ⟨u70, _, hu70, rfl, hmx, rfl, rfl⟩ (fun _ h => h)
 try simp only [decide_eq_true_eq, decide_eq_false_iff_not, Bool.and_eq_true, Bool.or_eq_true, Bool.not_eq_true', Int.not_le, Int.not_lt] at hc0
 refine sy_skip ?_
 refine sy_seq ?_
 refine sy_tx' [0, 1, 2, 3, 4, 5, 6, 7] rfl ?_
 refine sp rfl (PE.move rfl) rfl ?_
 refine sp rfl (PE.nilCheck rfl) rfl ?_
 refine sp rfl (PE.fieldAddr fo138_1 rfl) rfl ?_
 refine spL rfl rfl (lh sc3 rfl rfl) rfl ?_
 refine sp rfl (PE.add rfl rfl (by omega)) rfl ?_
 refine sp rfl (PE.nilCheck rfl) rfl ?_
 refine sp rfl (PE.fieldAddr fo138_1 rfl) rfl ?_
 refine sto rfl rfl rfl cn3 rfl rfl rfl rfl ?_
 refine sy_seq ?_
 refine sy_seq ?_
 refine sy_draw [0, 1, 3, 7, 0, 16, 48, 112, 240, 511] (.tk 0 (.tk 1 (.tk 2 (.ld 3 (.tk 4 (.tk 5 (.tk 6 (.ld 7 (.tk 8 (.tk 9 .done)))))))))) mixed (by kernel_rfl) ?_
 refine tk rfl (PE.move rfl) rfl ?_
 refine tk rfl (PE.nilCheck rfl) rfl ?_
 refine tk rfl (PE.fieldAddr fo138_1 rfl) rfl ?_
 refine ld rfl rfl (lh sc3 rfl rfl) rfl ?_
 refine tk rfl (PE.move rfl) rfl ?_
 refine tk rfl (PE.nilCheck rfl) rfl ?_
 refine tk rfl (PE.fieldAddr fo138_0 rfl) rfl ?_
 refine ld rfl rfl (lh sc75 rfl rfl) rfl ?_
 refine tk rfl (PE.lenSl isl75 rfl) rfl ?_
 refine tk rfl (PE.gtr rfl rfl) rfl ?_
 refine sy_cond rfl (fun hc1 => ?_) (fun hc1 => ?_)
 try simp only [decide_eq_true_eq, decide_eq_false_iff_not, Bool.and_eq_true, Bool.or_eq_true, Bool.not_eq_true', Int.not_le, Int.not_lt] at hc1
 refine sy_tx' [0, 1, 2, 3, 4, 5, 6, 7, 8, 9] rfl ?_
 refine sp rfl (PE.move rfl) rfl ?_
 refine sp rfl (PE.move rfl) rfl ?_
 refine sp rfl (PE.nilCheck rfl) rfl ?_
 refine sp rfl (PE.fieldAddr fo138_2 rfl) rfl ?_
 refine spL rfl rfl (lh sc136 rfl rfl) rfl ?_
 refine spE rfl (PE.mulU rfl rfl) rfl ?_
 rintro _ ⟨u55, rfl, hu55⟩
 refine spE rfl (PE.addU rfl rfl) rfl ?_
 rintro _ ⟨u56, rfl, hu56⟩
 refine sp rfl (PE.nilCheck rfl) rfl ?_
 refine sp rfl (PE.fieldAddr fo138_2 rfl) rfl ?_
 refine sto rfl rfl rfl cn136 rfl rfl rfl rfl ?_
 refine sy_seq ?_
 refine sy_draw [0, 1, 3, 7, 0, 16, 48, 112, 240, 511, 1023, 2047, 4095, 8191] (.tk 0 (.tk 1 (.tk 2 (.ld 3 (.tk 4 (.tk 5 (.tk 6 (.ld 7 (.tk 8 (.tk 9 (.tk 10 (.tk 11 (.tk 12 (.tk 13 .done)))))))))))))) mixed (by kernel_rfl) ?_
 refine tk rfl (PE.move rfl) rfl ?_
 refine tk rfl (PE.nilCheck rfl) rfl ?_
 refine tk rfl (PE.fieldAddr fo138_2 rfl) rfl ?_
 refine ld rfl rfl (lh sc136 rfl rfl) rfl ?_
 refine tk rfl (PE.move rfl) rfl ?_
 refine tk rfl (PE.nilCheck rfl) rfl ?_
 refine tk rfl (PE.fieldAddr fo138_2 rfl) rfl ?_
 refine ld rfl rfl (lh sc136 rfl rfl) rfl ?_
 refine tkE rfl (PE.shrU rfl rfl (by decide) (by omega) (by omega)) rfl ?_
 rintro _ ⟨u67, rfl, hu67⟩
 refine tkE rfl (PE.xorU rfl rfl) rfl ?_
 rintro _ ⟨u68, rfl, hu68⟩
 refine tkE rfl (PE.shrU rfl rfl (by decide) (by omega) (by omega)) rfl ?_
 rintro _ ⟨u69, rfl, hu69⟩
 refine tkE rfl (PE.andU rfl rfl (by decide) (by decide)) rfl ?_
 rintro _ ⟨u70, rfl, hu70⟩
 refine tk rfl (PE.conv64 us136 ik3 rfl (by omega)) rfl ?_
 refine tk rfl (PE.assign rfl) rfl ?_
 refine sy_ret ?_
 first
   | exact sy_return (vs := [_]) rfl (.cons (RV.tmp rfl) .nil) rfl ⟨u70, _, hu70, rfl, hu56, rfl, rfl⟩ (fun _ h => h)
   | exact sy_return (vs := [_]) rfl (.cons (RV.tmp rfl) .nil) rfl ⟨u70, _, hu70, rfl, hu30, rfl, rfl⟩ (fun _ h => h)
   | exact sy_return (vs := [_]) rfl (.cons (RV.tmp rfl) .nil) rfl ⟨u70, _, hu70, rfl, hmx, rfl, rfl⟩ (fun _ h => h)
 try simp only [decide_eq_true_eq, decide_eq_false_iff_not, Bool.and_eq_true, Bool.or_eq_true, Bool.not_eq_true', Int.not_le, Int.not_lt] at hc1
 refine sy_skip ?_
 refine sy_seq ?_
 refine sy_draw [0, 1, 3, 7, 0, 16, 48, 112, 240, 511, 1023, 2047, 4095, 8191] (.tk 0 (.tk 1 (.tk 2 (.ld 3 (.tk 4 (.tk 5 (.tk 6 (.ld 7 (.tk 8 (.tk 9 (.tk 10 (.tk 11 (.tk 12 (.tk 13 .done)))))))))))))) mixed (by kernel_rfl) ?_
 refine tk rfl (PE.move rfl) rfl ?_
 refine tk rfl (PE.nilCheck rfl) rfl ?_
 refine tk rfl (PE.fieldAddr fo138_2 rfl) rfl ?_
 refine ld rfl rfl (lh sc136 rfl rfl) rfl ?_
 refine tk rfl (PE.move rfl) rfl ?_
 refine tk rfl (PE.nilCheck rfl) rfl ?_
 refine tk rfl (PE.fieldAddr fo138_2 rfl) rfl ?_
 refine ld rfl rfl (lh sc136 rfl rfl) rfl ?_
 refine tkE rfl (PE.shrU rfl rfl (by decide) (by omega) (by omega)) rfl ?_
 rintro _ ⟨u67, rfl, hu67⟩
 refine tkE rfl (PE.xorU rfl rfl) rfl ?_
 rintro _ ⟨u68, rfl, hu68⟩
 refine tkE rfl (PE.shrU rfl rfl (by decide) (by omega) (by omega)) rfl ?_
 rintro _ ⟨u69, rfl, hu69⟩
 refine tkE rfl (PE.andU rfl rfl (by decide) (by decide)) rfl ?_
 rintro _ ⟨u70, rfl, hu70⟩
 refine tk rfl (PE.conv64 us136 ik3 rfl (by omega)) rfl ?_
 refine tk rfl (PE.assign rfl) rfl ?_
 refine sy_ret ?_
 first
   | exact sy_return (vs := [_]) rfl (.cons (RV.tmp rfl) .nil) rfl ⟨u70, _, hu70, rfl, hu56, rfl, rfl⟩ (fun _ h => h)
   | exact sy_return (vs := [_]) rfl (.cons (RV.tmp rfl) .nil) rfl ⟨u70, _, hu70, rfl, hu30, rfl, rfl⟩ (fun _ h => h)
   | exact sy_return (vs := [_]) rfl (.cons (RV.tmp rfl) .nil) rfl ⟨u70, _, hu70, rfl, hmx, rfl, rfl⟩ (fun _ h => h)
theorem c_Below (g : List Int) (ag : Option Addr) (cg bk : Nat) (hgl : g.length ≤ 9223372036854775807) (tq mx : Int) (htq : 0 ≤ tq ∧ tq ≤ 1000000000) (hmx : 0 ≤ mx ∧ mx ≤ 4294967295) (n : Int) (H : Heap) (R : Facts) [hG : MemRows ag 1 (urows g) R] :
    Fn Tryz.prog 33 [.pointer (some ⟨bk, 0, none⟩), .int .i64 n] ((bk, cel 138 [.slice ag g.length cg, .int .i64 (tq), .int .u32 (mx)]) :: H) R (fun v H' R' => ∃ x m' : Int, (0 ≤ x ∧ x < max 1 n) ∧ v = .int .i64 x ∧ (0 ≤ m' ∧ m' ≤ 4294967295) ∧ H' = (bk, cel 138 [.slice ag g.length cg, .int .i64 (tq + 1), .int .u32 (m')]) :: H ∧ R' = R) := by
 refine fn_of Tryz.func33 rfl Tryz.ntmps33 rfl ?_
 refine sy_seq ?_
 refine sy_tx' [0] rfl ?_
 refine sp rfl (PE.assign rfl) rfl ?_
 refine sy_seq ?_
 refine sy_tx' [0, 1, 2, 3, 4, 5] rfl ?_
 refine sp rfl (PE.move rfl) rfl ?_
 refine cl rfl cal85 rfl rfl (c_handful g ag cg bk hgl tq mx htq hmx _ _) ?_
 rintro _ _ _ ⟨x, m', hx, rfl, hm', rfl, rfl⟩
 refine sp rfl (PE.move rfl) rfl ?_
 refine sp rfl (PE.max rfl rfl) rfl ?_
 refine sp rfl (PE.rem rfl rfl (by omega)) rfl ?_
 refine sp rfl (PE.assign rfl) rfl ?_
 refine sy_ret ?_
 exact sy_return (vs := [_]) rfl (.cons (RV.tmp rfl) .nil) rfl ⟨_, m', ⟨Int.emod_nonneg _ (by omega), Int.emod_lt_of_pos _ (by omega)⟩, rfl, hm', rfl, rfl⟩ (fun _ h => h)
theorem c_Among (g : List Int) (ag : Option Addr) (cg bk : Nat) (hgl : g.length ≤ 9223372036854775807) (tq mx : Int) (htq : 0 ≤ tq ∧ tq ≤ 1000000000) (hmx : 0 ≤ mx ∧ mx ≤ 4294967295) (lo hi : Int) (hb : -1000000 ≤ lo ∧ lo ≤ 1000000 ∧ -1000000 ≤ hi ∧ hi ≤ 1000000) (H : Heap) (R : Facts) [hG : MemRows ag 1 (urows g) R] :
    Fn Tryz.prog 83 [.pointer (some ⟨bk, 0, none⟩), .int .i64 lo, .int .i64 hi] ((bk, cel 138 [.slice ag g.length cg, .int .i64 (tq), .int .u32 (mx)]) :: H) R (fun v H' R' => ∃ x m' : Int, (lo ≤ x ∧ x < lo + max 1 (hi - lo + 1)) ∧ v = .int .i64 x ∧ (0 ≤ m' ∧ m' ≤ 4294967295) ∧ H' = (bk, cel 138 [.slice ag g.length cg, .int .i64 (tq + 1), .int .u32 (m')]) :: H ∧ R' = R) := by
 refine fn_of Tryz.func83 rfl Tryz.ntmps83 rfl ?_
 refine sy_seq ?_
 refine sy_tx' [0] rfl ?_
 refine sp rfl (PE.assign rfl) rfl ?_
 refine sy_seq ?_
 refine sy_tx' [0, 1, 2, 3, 4, 5, 6, 7, 8] rfl ?_
 refine sp rfl (PE.move rfl) rfl ?_
 refine sp rfl (PE.move rfl) rfl ?_
 refine sp rfl (PE.move rfl) rfl ?_
 refine sp rfl (PE.move rfl) rfl ?_
 refine sp rfl (PE.sub rfl rfl (by omega)) rfl ?_
 refine sp rfl (PE.add rfl rfl (by omega)) rfl ?_
 refine cl rfl cal33 rfl rfl (c_Below g ag cg bk hgl tq mx htq hmx (hi - lo + 1) _ _) ?_
 rintro _ _ _ ⟨x, m', hx, rfl, hm', rfl, rfl⟩
 refine sp rfl (PE.add rfl rfl (by omega)) rfl ?_
 refine sp rfl (PE.assign rfl) rfl ?_
 refine sy_ret ?_
 exact sy_return (vs := [_]) rfl (.cons (RV.tmp rfl) .nil) rfl ⟨lo + x, m', ⟨by omega, by omega⟩, rfl, hm', rfl, rfl⟩ (fun _ h => h)
theorem c_Rare (g : List Int) (ag : Option Addr) (cg bk : Nat) (hgl : g.length ≤ 9223372036854775807) (tq mx : Int) (htq : 0 ≤ tq ∧ tq ≤ 1000000000) (hmx : 0 ≤ mx ∧ mx ≤ 4294967295) (n : Int) (H : Heap) (R : Facts) [hG : MemRows ag 1 (urows g) R] :
    Fn Tryz.prog 84 [.pointer (some ⟨bk, 0, none⟩), .int .i64 n] ((bk, cel 138 [.slice ag g.length cg, .int .i64 (tq), .int .u32 (mx)]) :: H) R (fun v H' R' => ∃ (x : Bool) (m' : Int), v = .bool x ∧ (0 ≤ m' ∧ m' ≤ 4294967295) ∧ H' = (bk, cel 138 [.slice ag g.length cg, .int .i64 (tq + 1), .int .u32 (m')]) :: H ∧ R' = R) := by
 refine fn_of Tryz.func84 rfl Tryz.ntmps84 rfl ?_
 refine sy_seq ?_
 refine sy_tx' [0] rfl ?_
 refine sp rfl (PE.assign rfl) rfl ?_
 refine sy_seq ?_
 refine sy_tx' [0, 1, 2, 3, 4] rfl ?_
 refine sp rfl (PE.move rfl) rfl ?_
 refine sp rfl (PE.move rfl) rfl ?_
 refine cl rfl cal33 rfl rfl (c_Below g ag cg bk hgl tq mx htq hmx n _ _) ?_
 rintro _ _ _ ⟨x, m', hx, rfl, hm', rfl, rfl⟩
 refine sp rfl (PE.eql rfl rfl) rfl ?_
 refine sp rfl (PE.assign rfl) rfl ?_
 refine sy_ret ?_
 exact sy_return (vs := [_]) rfl (.cons (RV.tmp rfl) .nil) rfl ⟨_, m', rfl, hm', rfl, rfl⟩ (fun _ h => h)
theorem three_at {j k : Nat} (hk : k < 3) (e : j = k) : [Value.int .i64 3, .int .i64 2, .int .i64 1][j]? = some (.int .i64 ((3 - k : Nat) : Int)) := by
  subst e
  revert hk
  rcases j with _ | _ | _ | j <;> intro hk
  · rfl
  · rfl
  · rfl
  · omega
structure MxI (k : Nat) (l : List Int) (left : Int) : Prop where
  len : l.length = 4
  sum : sum4 l + left = 40
  at_ : ∀ j < 4, 0 ≤ nn l j ∧ nn l j ≤ 40
  lo : 0 ≤ left ∧ left ≤ 40
  zero : ∀ j < 4, j + k ≤ 3 → nn l j = 0
theorem MxI.start : MxI 0 [0, 0, 0, 0] 40 := ⟨rfl, rfl, of4 ⟨by decide, by decide, by decide, by decide⟩, by omega, of4 ⟨fun _ => rfl, fun _ => rfl, fun _ => rfl, fun _ => rfl⟩⟩
theorem MxI.more {k : Nat} {l : List Int} {left v : Int} (h : MxI k l left) (hk : k < 3) (hv : 0 ≤ v ∧ v ≤ left) : MxI (k + 1) (l.set (3 - k) v) (left - v) := by
  have hlo := h.lo
  have hz := h.zero (3 - k) (by omega) (by omega)
  have hs := h.sum
  have hset : ∀ j, nn (l.set (3 - k) v) j = bif 3 - k == j then v else nn l j := fun j => nn_set (by rw [h.len]; omega)
  refine ⟨by simp [h.len], by rw [sum_set h.len (by omega)]; omega, fun j hj => ?_, by omega, fun j hj hjk => ?_⟩
  · rw [hset]
    cases 3 - k == j
    · exact h.at_ j hj
    · simp only [cond_true]; omega
  · rw [hset, show (3 - k == j) = false from by simp; omega]
    exact h.zero j hj (by omega)
theorem MxI.done {l : List Int} {left : Int} (h : MxI 3 l left) : Mxt (l.set 0 left) := by
  have hlo := h.lo
  have hz := h.zero 0 (by omega) (by omega)
  have hs := h.sum
  refine ⟨by simp [h.len], by rw [sum_set h.len (by omega)]; omega, fun j hj => ?_⟩
  rw [nn_set (by rw [h.len]; omega)]
  cases (0 : Nat) == j
  · exact h.at_ j hj
  · simp only [cond_true]; omega
theorem mx_swap {m : Mix} (hm : Mxt m) {k : Nat} (hk : k < 4) : Mxt ((m.set 0 (nn m k)).set k (nn m 0)) := by
  obtain ⟨a, b, c, d, rfl⟩ := list4 hm.len
  have hs := hm.sum
  have h4 := all4 hm.at_
  simp only [sum4, nn, List.getD_cons_zero, List.getD_cons_succ] at hs h4
  rcases lt4 hk with rfl | rfl | rfl | rfl <;> refine ⟨rfl, ?_, of4 ⟨?_, ?_, ?_, ?_⟩⟩ <;> simp [sum4, nn] <;> omega
theorem c_Mixed (g : List Int) (ag : Option Addr) (cg bk : Nat) (hgl : g.length ≤ 9223372036854775807) (tq mx : Int) (htq : 0 ≤ tq ∧ tq ≤ 1000000) (hmx : 0 ≤ mx ∧ mx ≤ 4294967295) (H : Heap) (R : Facts) [hG : MemRows ag 1 (urows g) R] :
    Fn Tryz.prog 32 [.pointer (some ⟨bk, 0, none⟩)] ((bk, cel 138 [.slice ag g.length cg, .int .i64 (tq), .int .u32 (mx)]) :: H) R (fun v H' R' => ∃ (q : Mix) (tq' mx' : Int), Mxt q ∧ v = .agg (ints q).toArray ∧ (tq ≤ tq' ∧ tq' ≤ tq + 10) ∧ (0 ≤ mx' ∧ mx' ≤ 4294967295) ∧ H' = (bk, cel 138 [.slice ag g.length cg, .int .i64 (tq'), .int .u32 (mx')]) :: H ∧ R' = R) := by
 refine fn_of Tryz.func32 rfl Tryz.ntmps32 rfl ?_
 refine sy_seq ?_
 refine sy_tx' [0] rfl ?_
 refine alc rfl zl64 rfl (fun b2 => ?_)
 refine sy_seq ?_
 refine sy_tx' [0] rfl ?_
 refine alc rfl zl64 rfl (fun b3 => ?_)
 refine sy_seq ?_
 refine sy_tx' [0] rfl ?_
 refine sp rfl (PE.assign rfl) rfl ?_
 refine sy_seq ?_
 refine sy_seq ?_
 refine sy_tx' [0, 1, 2] rfl ?_
 refine bsl (out := [_, _, _]) rfl sl28 zl3 rfl rfl rfl rfl rfl rfl (fun b8 => ?_)
 refine sp rfl (PE.lenSl isl28 rfl) rfl ?_
 refine sp rfl (PE.move rfl) rfl ?_
 refine sy_block ?_
 refine sy_pull bk ?_
 refine sy_loop (ι := {x : Nat × List Int × Int × Int × Int // x.1 ≤ 3 ∧ MxI x.1 x.2.1 x.2.2.1 ∧ x.2.2.2.1 = tq + 2 * x.1 ∧ (0 ≤ x.2.2.2.2 ∧ x.2.2.2.2 ≤ 4294967295)}) (fun x => ⟨[(0, .pointer (some ⟨bk, 0, none⟩)), (2, .pointer (some ⟨b2, 0, none⟩)), (3, .pointer (some ⟨b3, 0, none⟩)), (4, .int .i64 x.1.2.2.1), (8, .slice (some ⟨b8, 0, none⟩) 3 3), (9, .int .i64 3), (10, .int .i64 x.1.1)], (bk, cel 138 [.slice ag g.length cg, .int .i64 (x.1.2.2.2.1), .int .u32 (x.1.2.2.2.2)]) :: (b8, cel 3 [.int .i64 3, .int .i64 2, .int .i64 1]) :: (b3, cel 64 (ints x.1.2.1)) :: (b2, cel 64 (ints [0, 0, 0, 0])) :: H, R⟩) (fun x => 3 - x.1.1) ⟨(0, [0, 0, 0, 0], 40, tq, mx), by omega, MxI.start, by dsimp only; omega, by assumption⟩ ?_ (fun x => ?_)
 exact sy_at (by repeat' first | exact Sub.nil | apply Sub.cons | rfl | (simp [lk]; omega)) (fun _ h => h)
 obtain ⟨⟨k, l, left, tq2, mx2⟩, hk, hmi, htq2, hmx2⟩ := x
 dsimp only at hk hmi htq2 hmx2 ⊢
 subst htq2
 have hlo := hmi.lo
 have hml := hmi.len
 refine sy_seq ?_
 refine sy_tx' [0] rfl ?_
 refine sp rfl (PE.lss rfl rfl) rfl ?_
 refine sy_seq ?_
 refine sy_cond rfl (fun hc0 => ?_) (fun hc0 => ?_)
 try simp only [decide_eq_true_eq, decide_eq_false_iff_not, Bool.and_eq_true, Bool.or_eq_true, Bool.not_eq_true', Int.not_le, Int.not_lt] at hc0
 have hk3 : k < 3 := by omega
 have hk4 : 3 - k < 4 := by omega
 refine sy_skip ?_
 refine sy_seq ?_
 refine sy_block ?_
 refine sy_seq ?_
 refine sy_tx' [0, 1, 2] rfl ?_
 refine sp rfl (PE.indexAddr el28 rfl rfl (by omega) (by omega)) rfl ?_
 refine spL rfl rfl (lh sc3 rfl (three_at hk3 (by omega))) rfl ?_
 refine sp rfl (PE.assign rfl) rfl ?_
 refine sy_seq ?_
 refine sy_tx' [0, 1, 2, 3, 4, 5, 6, 7, 8, 9] rfl ?_
 refine sp rfl (PE.move rfl) rfl ?_
 refine sp rfl (PE.move rfl) rfl ?_
 refine sp rfl (PE.move rfl) rfl ?_
 refine cl rfl cal33 rfl rfl (c_Below g ag cg bk hgl _ _ (by omega) (by assumption) (5) _ _) ?_
 rintro _ _ R1 ⟨x17, m17, hx17, rfl, hm17, rfl, hR1⟩
 obtain rfl := hR1.symm
 refine sp rfl (PE.move rfl) rfl ?_
 refine cl rfl cal33 rfl rfl (c_Below g ag cg bk hgl _ _ (by omega) (by assumption) (4) _ _) ?_
 rintro _ _ R1 ⟨x19, m19, hx19, rfl, hm19, rfl, hR1⟩
 obtain rfl := hR1.symm
 have hm20 := mul_b (a := x17) (b := x19) (A := 4) (B := 3) (by omega) (by omega) (by omega) (by omega)
 obtain ⟨v, hv⟩ : ∃ v, v = min left (x17 * x19) := ⟨_, rfl⟩
 refine sp rfl (PE.mul rfl rfl (by omega)) rfl ?_
 refine sp rfl (PE.min rfl rfl) rfl ?_
 rw [← hv]
 refine sp rfl (PE.indexArr ar64 rfl rfl (by omega) (by omega)) rfl ?_
 refine sy_pull b3 ?_
 refine stoE (l' := ints ((l).set (3 - k) (v))) rfl rfl rfl cn3 rfl rfl rfl (spl_mix hml hk4 _) (by rw [ints_length, hml]; show 0 + (((3 - k) : Nat) : Int).toNat * 1 + 1 ≤ 4; omega) ?_
 refine sy_tx' [0, 1, 2, 3, 4, 5] rfl ?_
 refine sp rfl (PE.move rfl) rfl ?_
 refine sp rfl (PE.move rfl) rfl ?_
 refine sp rfl (PE.indexArr ar64 rfl rfl (by omega) (by omega)) rfl ?_
 refine spL rfl rfl (lh sc3 rfl (mix_at (by simp [hml]) hk4)) rfl ?_
 rw [show nn (l.set (3 - k) v) (3 - k) = v from by rw [nn_set (by omega)]; simp]
 refine sp rfl (PE.sub rfl rfl (by omega)) rfl ?_
 refine sp rfl (PE.assign rfl) rfl ?_
 refine sy_tx' [0, 1] rfl ?_
 refine sp rfl (PE.add rfl rfl (by omega)) rfl ?_
 refine sp rfl (PE.move rfl) rfl ?_
 exact sy_next ⟨(k + 1, l.set (3 - k) v, left - v, tq + 2 * k + 1 + 1, m19), by omega, hmi.more hk3 (by omega), by dsimp only; omega, by assumption⟩ (by dsimp only; omega) (by repeat' first | exact Sub.nil | apply Sub.cons | rfl | (simp [lk]; omega)) (fun _ h => St.sub (((h.pull b3).pull b8).pull bk))
 try simp only [decide_eq_true_eq, decide_eq_false_iff_not, Bool.and_eq_true, Bool.or_eq_true, Bool.not_eq_true', Int.not_le, Int.not_lt] at hc0
 obtain rfl : k = 3 := by omega
 have hq := hmi.done
 refine sy_exit ?_
 repeat refine sy_tx ?_
 refine sy_bx ?_
 refine sy_seq ?_
 refine sy_tx' [0, 1, 2] rfl ?_
 refine sp rfl (PE.move rfl) rfl ?_
 refine sp rfl (PE.indexArr ar64 rfl rfl (by omega) (by omega)) rfl ?_
 refine sy_pull b3 ?_
 refine stoE (l' := ints ((l).set 0 (left))) rfl rfl rfl cn3 rfl rfl rfl (spl_mix hml (by decide) _) (by rw [ints_length, hml]; show 0 + ((0 : Nat) : Int).toNat * 1 + 1 ≤ 4; decide) ?_
 refine sy_seq ?_
 refine sy_seq ?_
 refine sy_tx' [0, 1] rfl ?_
 refine sy_pull bk ?_
 obtain ⟨q, hqe⟩ : ∃ q, q = l.set 0 left := ⟨_, rfl⟩
 rw [← hqe] at hq ⊢
 refine sp rfl (PE.move rfl) rfl ?_
 refine cl rfl cal84 rfl rfl (c_Rare g ag cg bk hgl _ _ (by omega) (by assumption) 4 _ _) ?_
 rintro _ _ R1 ⟨x32, m32, rfl, hm32, rfl, hR1⟩
 obtain rfl := hR1.symm
 refine sy_cond rfl (fun hc1 => ?_) (fun hc1 => ?_)
 try simp only [decide_eq_true_eq, decide_eq_false_iff_not, Bool.and_eq_true, Bool.or_eq_true, Bool.not_eq_true', Int.not_le, Int.not_lt] at hc1
 refine sy_seq ?_
 refine sy_tx' [0, 1, 2, 3] rfl ?_
 refine sp rfl (PE.move rfl) rfl ?_
 refine cl rfl cal33 rfl rfl (c_Below g ag cg bk hgl _ _ (by omega) (by assumption) (3) _ _) ?_
 rintro _ _ R1 ⟨x34, m34, hx34, rfl, hm34, rfl, hR1⟩
 obtain rfl := hR1.symm
 refine sp rfl (PE.add rfl rfl (by omega)) rfl ?_
 refine sp rfl (PE.assign rfl) rfl ?_
 refine sy_draw [0, 0, 2, 6, 0, 16, 62, 126, 255, 511] (.tk 0 (.tk 1 (.tk 2 (.ld 3 (.tk 4 (.ld 5 (.tk 6 (.big 7 (.tk 8 (.big 9 .done)))))))))) mixed (by kernel_rfl) ?_
 obtain ⟨k, hk⟩ : ∃ k : Nat, 1 + x34 = k := ⟨(1 + x34).toNat, by omega⟩
 rw [hk]
 have hk4 : k < 4 := by omega
 have hq2 := mx_swap hq hk4
 refine tk rfl (PE.move rfl) rfl ?_
 refine tk rfl (PE.move rfl) rfl ?_
 refine tk rfl (PE.indexArr ar64 rfl rfl (by omega) (by omega)) rfl ?_
 refine ld rfl rfl (lh sc3 rfl (mix_at hq.len hk4)) rfl ?_
 refine tk rfl (PE.indexArr ar64 rfl rfl (by omega) (by omega)) rfl ?_
 refine ld rfl rfl (lh sc3 rfl (mix_at hq.len (k := 0) (by omega))) rfl ?_
 refine tk rfl (PE.indexArr ar64 rfl rfl (by omega) (by omega)) rfl ?_
 refine sy_pull b3 ?_
 refine stoE (l' := ints ((q).set 0 (nn q k))) rfl rfl rfl cn3 rfl rfl rfl (spl_mix hq.len (by decide) _) (by rw [ints_length, hq.len]; show 0 + ((0 : Nat) : Int).toNat * 1 + 1 ≤ 4; decide) ?_
 refine bg (fun w hs => ⟨trivial, trivial, trivial⟩) ?_
 refine tk rfl (PE.indexArr ar64 rfl rfl (by omega) (by omega)) rfl ?_
 refine stoE (l' := ints ((q.set 0 (nn q k)).set k (nn q 0))) rfl rfl rfl cn3 rfl rfl rfl (spl_mix (show (q.set 0 (nn q k)).length = 4 by simp [hq.len]) hk4 _) (by rw [ints_length, (show (q.set 0 (nn q k)).length = 4 by simp [hq.len])]; show 0 + ((k : Nat) : Int).toNat * 1 + 1 ≤ 4; omega) ?_
 refine bg (fun w hs => trivial) ?_
 refine sy_seq ?_
 refine sy_tx' [0, 1] rfl ?_
 obtain ⟨p, hpe, hp⟩ : ∃ p, p = q ∧ Mxt p := ⟨_, rfl, hq⟩
 first
   | (clear hpe hp p; obtain ⟨p, hpe⟩ : ∃ p, p = (q.set 0 (nn q k)).set k (nn q 0) := ⟨_, rfl⟩; rw [← hpe] at hq2 ⊢; have hp := hq2)
   | rw [← hpe]
 refine spL rfl rfl (lhA (ints (p)) ag64 rfl (rest := []) (by rw [List.append_nil]; rfl) (by rw [ints_length]; exact hp.len)) rfl ?_
 refine sy_pull b2 ?_
 refine stoA rfl rfl rfl cn64 rfl (by rw [ints_length]; exact hp.len) rfl (ints_one _) ?_
 refine sy_ret ?_
 first
   | exact sy_return (vs := [_]) rfl (.cons (RV.cell rfl (lhA (ints (p)) ag64 rfl (rest := []) (by rw [List.append_nil]; rfl) (by rw [ints_length]; exact hp.len))) .nil) rfl ⟨p, tq + 2 * (3 : Nat) + 1 + 1, m34, hp, rfl, by omega, hm34, rfl, rfl⟩ (fun w h => St.sub (((h.del b2).del b3).del b8))
   | exact sy_return (vs := [_]) rfl (.cons (RV.cell rfl (lhA (ints (p)) ag64 rfl (rest := []) (by rw [List.append_nil]; rfl) (by rw [ints_length]; exact hp.len))) .nil) rfl ⟨p, tq + 2 * (3 : Nat) + 1, m32, hp, rfl, by omega, hm32, rfl, rfl⟩ (fun w h => St.sub (((h.del b2).del b3).del b8))
 try simp only [decide_eq_true_eq, decide_eq_false_iff_not, Bool.and_eq_true, Bool.or_eq_true, Bool.not_eq_true', Int.not_le, Int.not_lt] at hc1
 refine sy_skip ?_
 refine sy_seq ?_
 refine sy_tx' [0, 1] rfl ?_
 obtain ⟨p, hpe, hp⟩ : ∃ p, p = q ∧ Mxt p := ⟨_, rfl, hq⟩
 first
   | (clear hpe hp p; obtain ⟨p, hpe⟩ : ∃ p, p = (q.set 0 (nn q k)).set k (nn q 0) := ⟨_, rfl⟩; rw [← hpe] at hq2 ⊢; have hp := hq2)
   | rw [← hpe]
 refine spL rfl rfl (lhA (ints (p)) ag64 rfl (rest := []) (by rw [List.append_nil]; rfl) (by rw [ints_length]; exact hp.len)) rfl ?_
 refine sy_pull b2 ?_
 refine stoA rfl rfl rfl cn64 rfl (by rw [ints_length]; exact hp.len) rfl (ints_one _) ?_
 refine sy_ret ?_
 first
   | exact sy_return (vs := [_]) rfl (.cons (RV.cell rfl (lhA (ints (p)) ag64 rfl (rest := []) (by rw [List.append_nil]; rfl) (by rw [ints_length]; exact hp.len))) .nil) rfl ⟨p, tq + 2 * (3 : Nat) + 1 + 1, m34, hp, rfl, by omega, hm34, rfl, rfl⟩ (fun w h => St.sub (((h.del b2).del b3).del b8))
   | exact sy_return (vs := [_]) rfl (.cons (RV.cell rfl (lhA (ints (p)) ag64 rfl (rest := []) (by rw [List.append_nil]; rfl) (by rw [ints_length]; exact hp.len))) .nil) rfl ⟨p, tq + 2 * (3 : Nat) + 1, m32, hp, rfl, by omega, hm32, rfl, rfl⟩ (fun w h => St.sub (((h.del b2).del b3).del b8))
theorem hnd_at {s : Int} {m : List Int} (hm : m.length = 4) {k : Nat} (hk : k < 4) : (Value.int .i64 s :: ints m)[0 + 1 + ((k : Nat) : Int).toNat * 1]? = some (.int .i64 (nn m k)) := by
  obtain ⟨a, b, c, d, rfl⟩ := list4 hm
  rcases lt4 hk with rfl | rfl | rfl | rfl <;> rfl
theorem spl_hnd {s : Int} {m : List Int} (hm : m.length = 4) {k : Nat} (hk : k < 4) (v : Int) : spl (Value.int .i64 s :: ints m) (0 + 1 + ((k : Nat) : Int).toNat * 1) [.int .i64 v] = Value.int .i64 s :: ints (m.set k v) := by
  obtain ⟨a, b, c, d, rfl⟩ := list4 hm
  rcases lt4 hk with rfl | rfl | rfl | rfl <;> rfl
theorem mk_part {m : List Int} (hm : m.length = 4) {k : Nat} (hk : k < 4) : mkv false ((m.drop (k * 1)).take 1) = .int .i64 (nn m k) := by
  obtain ⟨a, b, c, d, rfl⟩ := list4 hm
  rcases lt4 hk with rfl | rfl | rfl | rfl <;> rfl
theorem tdiv40 {a : Int} (h : 0 ≤ a ∧ a ≤ 1000000) : IntKind.i64.wrap (a.tdiv 40) = a / 40 := by
  rw [tdiv_in (by omega) (by omega), Int.tdiv_eq_ediv_of_nonneg h.1]
theorem hnd_len {s : Int} {m : List Int} (hm : m.length = 4) : (Value.int .i64 s :: ints m).length = 5 := by rw [List.length_cons, ints_length, hm]
theorem c_Taken (l0 : List Int) (ag : Option Addr) (cg bk : Nat) (hgl : l0.length ≤ 9223372036854775807) (tq mx : Int) (htq : 0 ≤ tq ∧ tq ≤ 1000000) (hmx : 0 ≤ mx ∧ mx ≤ 4294967295) (g : Gat) (hmi : 0 ≤ g.miss ∧ g.miss ≤ 20) (sl : Value) (m : Mix) (hm : Mxt m) (H : Heap) (R : Facts) [hG : MemRows ag 1 (urows l0) R] :
    Fn Tryz.prog 34 [.pointer (some ⟨bk, 0, none⟩), g.v sl, .agg (ints m).toArray] ((bk, cel 138 [.slice ag l0.length cg, .int .i64 (tq), .int .u32 (mx)]) :: H) R (fun v H' R' => ∃ (h : Hnd) (tq' mx' : Int), h.ok ∧ fitB g.miss h m = true ∧ v = .agg (hrow h).toArray ∧ (tq ≤ tq' ∧ tq' ≤ tq + 20) ∧ (0 ≤ mx' ∧ mx' ≤ 4294967295) ∧ H' = (bk, cel 138 [.slice ag l0.length cg, .int .i64 (tq'), .int .u32 (mx')]) :: H ∧ R' = R) := by
 refine fn_of Tryz.func34 rfl Tryz.ntmps34 rfl ?_
 refine sy_seq ?_
 refine sy_tx' [0, 1, 2] rfl ?_
 refine bx rfl rfl rfl (fun b4 => ?_)
 refine bx rfl rfl rfl (fun b5 => ?_)
 refine alc rfl zl66 rfl (fun b6 => ?_)
 refine sy_seq ?_
 refine sy_tx' [0, 1, 2] rfl ?_
 refine sy_pull bk ?_
 refine sp rfl (PE.move rfl) rfl ?_
 refine cl rfl cal83 rfl rfl (c_Among l0 ag cg bk hgl _ _ (by omega) (by assumption) (10) (200) (by first | omega | (dsimp only; omega)) _ _) ?_
 rintro _ _ R1 ⟨x18, m18, hx18, rfl, hm18, rfl, hR1⟩
 obtain rfl := hR1.symm
 refine sp rfl (PE.assign rfl) rfl ?_
 refine sy_seq ?_
 refine sy_seq ?_
 refine sy_tx' [0, 1, 2] rfl ?_
 refine sp rfl (PE.fieldAddr fo24_1 rfl) rfl ?_
 refine spL rfl rfl (lh sc3 rfl rfl) rfl ?_
 refine sp rfl (PE.eql rfl rfl) rfl ?_
 refine sy_join (ι := {x : Int × Int × Int // (10 ≤ x.1 ∧ x.1 ≤ 200) ∧ (g.miss = 0 → ∃ j : Int, x.1 = 40 * j) ∧ (tq ≤ x.2.1 ∧ x.2.1 ≤ tq + 2) ∧ (0 ≤ x.2.2 ∧ x.2.2 ≤ 4294967295)}) (fun x => ⟨[(0, .pointer (some ⟨bk, 0, none⟩)), (4, .pointer (some ⟨b4, 0, none⟩)), (5, .pointer (some ⟨b5, 0, none⟩)), (6, .pointer (some ⟨b6, 0, none⟩)), (7, .int .i64 x.1.1)], (bk, cel 138 [.slice ag l0.length cg, .int .i64 (x.1.2.1), .int .u32 (x.1.2.2)]) :: (b6, cel 66 (hrow ⟨0, 0, 0, 0, 0⟩)) :: (b5, cel 64 (ints m)) :: (b4, cel 24 (gtl g sl)) :: H, R⟩) ?_ ?_
 refine sy_cond rfl (fun hc0 => ?_) (fun hc0 => ?_)
 refine sy_tx' [0, 1, 2, 3] rfl ?_
 refine sp rfl (PE.move rfl) rfl ?_
 refine cl rfl cal83 rfl rfl (c_Among l0 ag cg bk hgl _ _ (by omega) (by assumption) (1) (5) (by first | omega | (dsimp only; omega)) _ _) ?_
 rintro _ _ R1 ⟨x23, m23, hx23, rfl, hm23, rfl, hR1⟩
 obtain rfl := hR1.symm
 refine sp rfl (PE.mul rfl rfl (by omega)) rfl ?_
 refine sp rfl (PE.assign rfl) rfl ?_
 exact sy_jend ⟨(40 * x23, tq + 1 + 1, m23), by dsimp only; omega, fun _ => ⟨x23, rfl⟩, by dsimp only; omega, by assumption⟩ (by repeat' first | exact Sub.nil | apply Sub.cons | rfl | (simp [lk]; omega)) (fun _ h => h)
 refine sy_skip ?_
 exact sy_jend ⟨(x18, tq + 1, m18), by dsimp only; omega, fun h => absurd h (by simpa using hc0), by dsimp only; omega, by assumption⟩ (by repeat' first | exact Sub.nil | apply Sub.cons | rfl | (simp [lk]; omega)) (fun _ h => h)
 rintro ⟨⟨n, tq2, mx2⟩, hn, hn0, htq2, hmx2⟩
 dsimp only at hn hn0 htq2 hmx2 ⊢
 have hng : 0 ≤ n ∧ n ≤ 200 := by omega
 refine sy_seq ?_
 refine sy_tx' [0, 1, 2, 3, 4] rfl ?_
 refine sp rfl (PE.move rfl) rfl ?_
 refine cl rfl cal33 rfl rfl (c_Below l0 ag cg bk hgl _ _ (by omega) (by assumption) (3) _ _) ?_
 rintro _ _ R1 ⟨x26, m26, hx26, rfl, hm26, rfl, hR1⟩
 obtain rfl := hR1.symm
 refine sp rfl (PE.build (out := hrow ⟨x26, 0, 0, 0, 0⟩) pl66 zl66 rfl rfl) rfl ?_
 refine alc rfl zl66 rfl (fun b8 => ?_)
 refine sto rfl rfl rfl cn66 rfl rfl rfl rfl ?_
 refine sy_seq ?_
 refine sy_tx' [0, 1] rfl ?_
 refine sp rfl (PE.move rfl) rfl ?_
 refine sp rfl (PE.assign rfl) rfl ?_
 refine sy_seq ?_
 refine sy_seq ?_
 refine sy_tx' [0, 1] rfl ?_
 refine spL rfl rfl (lhA (ints (m)) ag64 rfl (rest := []) (by rw [List.append_nil]; rfl) (by rw [ints_length]; exact hm.len)) rfl ?_
 refine sp rfl (PE.move rfl) rfl ?_
 refine sy_block ?_
 refine sy_loop (ι := {k : Nat // k ≤ 4}) (fun k => ⟨[(0, .pointer (some ⟨bk, 0, none⟩)), (4, .pointer (some ⟨b4, 0, none⟩)), (5, .pointer (some ⟨b5, 0, none⟩)), (6, .pointer (some ⟨b6, 0, none⟩)), (7, .int .i64 n), (8, .pointer (some ⟨b8, 0, none⟩)), (9, .int .i64 (takL n m k.1).2), (29, .agg (ints m).toArray), (30, .int .i64 k.1)], (b8, cel 66 (.int .i64 x26 :: ints (takL n m k.1).1)) :: (bk, cel 138 [.slice ag l0.length cg, .int .i64 (tq2 + 1), .int .u32 (m26)]) :: (b6, cel 66 (hrow ⟨0, 0, 0, 0, 0⟩)) :: (b5, cel 64 (ints m)) :: (b4, cel 24 (gtl g sl)) :: H, R⟩) (fun k => 4 - k.1) ⟨0, by omega⟩ ?_ (fun k => ?_)
 exact sy_at (by repeat' first | exact Sub.nil | apply Sub.cons | rfl | (simp [lk]; omega)) (fun _ h => h)
 obtain ⟨k, hk⟩ := k
 dsimp only at hk ⊢
 obtain ⟨t1, t2, t3, t4, t5, t6⟩ := takL_ok hm hng k hk
 refine sy_seq ?_
 refine sy_tx' [0] rfl ?_
 refine sp rfl (PE.lss rfl rfl) rfl ?_
 refine sy_seq ?_
 refine sy_cond rfl (fun hc1 => ?_) (fun hc1 => ?_)
 try simp only [decide_eq_true_eq, decide_eq_false_iff_not, Bool.and_eq_true, Bool.or_eq_true, Bool.not_eq_true', Int.not_le, Int.not_lt] at hc1
 have hk4 : k < 4 := by omega
 have hbd := mul_bd4 hm hng hk4
 have hg0 : g0 n m k = n * nn m k / 40 := rfl
 refine sy_skip ?_
 refine sy_seq ?_
 refine sy_block ?_
 refine sy_seq ?_
 refine sy_tx' [0, 1, 2, 3] rfl ?_
 refine sp rfl (PE.move rfl) rfl ?_
 refine sp rfl ((PE.indexI (l := m) are64 (eqB_ok 10000 3 false 1 eqf3) (fun _ => rfl) rfl rfl hk4 (by rw [hm.len]; omega)).to (by rw [mk_part hm.len hk4])) rfl ?_
 refine sp rfl (PE.assign rfl) rfl ?_
 refine sp rfl (PE.assign rfl) rfl ?_
 refine sy_seq ?_
 refine sy_tx' [0, 1, 2, 3, 4, 5, 6, 7] rfl ?_
 refine sp rfl (PE.move rfl) rfl ?_
 refine sp rfl (PE.move rfl) rfl ?_
 refine sp rfl (PE.move rfl) rfl ?_
 refine sp rfl (PE.mul rfl rfl (by omega)) rfl ?_
 refine sp rfl ((PE.quoW rfl rfl (by omega)).to (by rw [tdiv40 (by omega), ← hg0])) rfl ?_
 refine sp rfl (PE.fieldAddr fo66_1 rfl) rfl ?_
 refine sp rfl (PE.indexArr ar64 rfl rfl (by omega) (by omega)) rfl ?_
 refine stoE (l' := .int .i64 x26 :: ints (((takL n m k).1).set k (g0 n m k))) rfl rfl rfl cn3 rfl rfl rfl (spl_hnd t1 hk4 _) (by rw [hnd_len t1]; show 0 + 1 + ((k : Nat) : Int).toNat * 1 + 1 ≤ 5; omega) ?_
 refine sy_tx' [0, 1, 2, 3, 4, 5, 6] rfl ?_
 refine sp rfl (PE.move rfl) rfl ?_
 refine sp rfl (PE.move rfl) rfl ?_
 refine sp rfl (PE.fieldAddr fo66_1 rfl) rfl ?_
 refine sp rfl (PE.indexArr ar64 rfl rfl (by omega) (by omega)) rfl ?_
 refine spL rfl rfl (lh sc3 rfl (hnd_at (by simp [t1]) hk4)) rfl ?_
 rw [show nn ((takL n m k).1.set k (g0 n m k)) k = g0 n m k from by rw [nn_set (by omega)]; simp]
 refine sp rfl (PE.sub rfl rfl (by omega)) rfl ?_
 refine sp rfl (PE.assign rfl) rfl ?_
 refine sy_tx' [0, 1] rfl ?_
 refine sp rfl (PE.add rfl rfl (by omega)) rfl ?_
 refine sp rfl (PE.move rfl) rfl ?_
 exact sy_next ⟨k + 1, by omega⟩ (by dsimp only; omega) (by repeat' first | exact Sub.nil | apply Sub.cons | rfl | (simp [lk]; omega)) (fun _ h => h)
 try simp only [decide_eq_true_eq, decide_eq_false_iff_not, Bool.and_eq_true, Bool.or_eq_true, Bool.not_eq_true', Int.not_le, Int.not_lt] at hc1
 obtain rfl : k = 4 := by omega
 refine sy_exit ?_
 repeat refine sy_tx ?_
 refine sy_bx ?_
 refine sy_seq ?_
 refine sy_seq ?_
 refine sy_tx' [0, 1] rfl ?_
 refine spL rfl rfl (lhA (ints (m)) ag64 rfl (rest := []) (by rw [List.append_nil]; rfl) (by rw [ints_length]; exact hm.len)) rfl ?_
 refine sp rfl (PE.move rfl) rfl ?_
 refine sy_block ?_
 refine sy_loop (ι := {k : Nat // k ≤ 4}) (fun k => ⟨[(0, .pointer (some ⟨bk, 0, none⟩)), (4, .pointer (some ⟨b4, 0, none⟩)), (5, .pointer (some ⟨b5, 0, none⟩)), (6, .pointer (some ⟨b6, 0, none⟩)), (7, .int .i64 n), (8, .pointer (some ⟨b8, 0, none⟩)), (9, .int .i64 (takI n m k.1).2), (48, .agg (ints m).toArray), (49, .int .i64 k.1)], (b8, cel 66 (.int .i64 x26 :: ints (takI n m k.1).1)) :: (bk, cel 138 [.slice ag l0.length cg, .int .i64 (tq2 + 1), .int .u32 (m26)]) :: (b6, cel 66 (hrow ⟨0, 0, 0, 0, 0⟩)) :: (b5, cel 64 (ints m)) :: (b4, cel 24 (gtl g sl)) :: H, R⟩) (fun k => 4 - k.1) ⟨0, by omega⟩ ?_ (fun k => ?_)
 exact sy_at (by repeat' first | exact Sub.nil | apply Sub.cons | rfl | (simp [lk]; omega)) (fun _ h => h)
 obtain ⟨k, hk⟩ := k
 dsimp only at hk ⊢
 have hti := takI_ok hm hng k hk
 have t1 := hti.len
 have t2 := hti.lo
 have t3 := hti.sum
 have t4 : (takI n m k).2 ≤ 200 := by
   obtain ⟨p0, p1, p2, p3⟩ := all4 hti.at_
   obtain ⟨q0, q1, q2, q3⟩ := all4 (fun k hk => mul_bd4 hm hng (k := k) hk)
   have t3 := t3
   unfold sum4 at t3
   simp only [g0] at p0 p1 p2 p3
   omega
 refine sy_seq ?_
 refine sy_tx' [0] rfl ?_
 refine sp rfl (PE.lss rfl rfl) rfl ?_
 refine sy_seq ?_
 refine sy_cond rfl (fun hc2 => ?_) (fun hc2 => ?_)
 try simp only [decide_eq_true_eq, decide_eq_false_iff_not, Bool.and_eq_true, Bool.or_eq_true, Bool.not_eq_true', Int.not_le, Int.not_lt] at hc2
 have hk4 : k < 4 := by omega
 have hbd := mul_bd4 hm hng hk4
 have hat := hti.at_ k hk4
 have hg0 : g0 n m k = n * nn m k / 40 := rfl
 refine sy_skip ?_
 refine sy_seq ?_
 refine sy_block ?_
 refine sy_seq ?_
 refine sy_tx' [0, 1, 2, 3] rfl ?_
 refine sp rfl (PE.move rfl) rfl ?_
 refine sp rfl ((PE.indexI (l := m) are64 (eqB_ok 10000 3 false 1 eqf3) (fun _ => rfl) rfl rfl hk4 (by rw [hm.len]; omega)).to (by rw [mk_part hm.len hk4])) rfl ?_
 refine sp rfl (PE.assign rfl) rfl ?_
 refine sp rfl (PE.assign rfl) rfl ?_
 refine sy_seq ?_
 refine sy_tx' [0, 1, 2, 3, 4, 5, 6, 7, 8] rfl ?_
 refine sp rfl (PE.move rfl) rfl ?_
 refine sp rfl (PE.gtr rfl rfl) rfl ?_
 refine sp rfl (PE.move rfl) rfl ?_
 refine sy_case (t := 55) rfl (fun g55 => ?_) (fun g55 => ?_)
 refine spG rfl rfl rfl rfl (PE.move rfl) rfl ?_
 refine spG rfl rfl rfl rfl (PE.move rfl) rfl ?_
 refine spG rfl rfl rfl rfl (PE.mul rfl rfl (by omega)) rfl ?_
 refine spG rfl rfl rfl rfl (PE.rem rfl rfl (by omega)) rfl ?_
 refine spG rfl rfl rfl rfl (PE.gtr rfl rfl) rfl ?_
 refine sp rfl (PE.pick rfl rfl rfl) rfl ?_
 refine sy_cond rfl (fun hc3 => ?_) (fun hc3 => ?_)
 have hst : takI n m (k + 1) = ((takI n m k).1.set k (nn (takI n m k).1 k + 1), (takI n m k).2 - 1) := by
   show (bif takC n m (takI n m k) k then _ else _) = _
   rw [show takC n m (takI n m k) k = true from by simp_all [takC]]; rfl
 refine sy_seq ?_
 refine sy_tx' [0, 1, 2, 3, 4, 5, 6, 7] rfl ?_
 refine sp rfl (PE.move rfl) rfl ?_
 refine sp rfl (PE.fieldAddr fo66_1 rfl) rfl ?_
 refine sp rfl (PE.indexArr ar64 rfl rfl (by omega) (by omega)) rfl ?_
 refine spL rfl rfl (lh sc3 rfl (hnd_at t1 hk4)) rfl ?_
 refine sp rfl (PE.add rfl rfl (by omega)) rfl ?_
 refine sp rfl (PE.fieldAddr fo66_1 rfl) rfl ?_
 refine sp rfl (PE.indexArr ar64 rfl rfl (by omega) (by omega)) rfl ?_
 refine stoE (l' := .int .i64 x26 :: ints (((takI n m k).1).set k (nn (takI n m k).1 k + 1))) rfl rfl rfl cn3 rfl rfl rfl (spl_hnd t1 hk4 _) (by rw [hnd_len t1]; show 0 + 1 + ((k : Nat) : Int).toNat * 1 + 1 ≤ 5; omega) ?_
 refine sy_tx' [0, 1, 2] rfl ?_
 refine sp rfl (PE.move rfl) rfl ?_
 refine sp rfl (PE.sub rfl rfl (by omega)) rfl ?_
 refine sp rfl (PE.assign rfl) rfl ?_
 refine sy_tx' [0, 1] rfl ?_
 refine sp rfl (PE.add rfl rfl (by omega)) rfl ?_
 refine sp rfl (PE.move rfl) rfl ?_
 exact sy_next ⟨k + 1, by omega⟩ (by dsimp only; omega) (by dsimp only; rw [hst]; exact (by repeat' first | exact Sub.nil | apply Sub.cons | rfl | (simp [lk]; omega))) (fun w h => by dsimp only; rw [hst]; exact h)
 have hst : takI n m (k + 1) = takI n m k := by
   show (bif takC n m (takI n m k) k then _ else _) = _
   rw [show takC n m (takI n m k) k = false from by simp_all [takC]]; rfl
 refine sy_skip ?_
 refine sy_tx' [0, 1] rfl ?_
 refine sp rfl (PE.add rfl rfl (by omega)) rfl ?_
 refine sp rfl (PE.move rfl) rfl ?_
 exact sy_next ⟨k + 1, by omega⟩ (by dsimp only; omega) (by dsimp only; rw [hst]; exact (by repeat' first | exact Sub.nil | apply Sub.cons | rfl | (simp [lk]; omega))) (fun w h => by dsimp only; rw [hst]; exact h)
 have hst : takI n m (k + 1) = takI n m k := by
   show (bif takC n m (takI n m k) k then _ else _) = _
   have h55 : decide (0 < (takI n m k).2) = false := by simpa using g55
   rw [show takC n m (takI n m k) k = false from by unfold takC; rw [h55]; rfl]; rfl
 repeat refine spN rfl rfl rfl rfl rfl rfl rfl rfl ?_
 refine sp rfl (PE.pick rfl rfl rfl) rfl ?_
 refine sy_condF rfl ?_
 refine sy_skip ?_
 refine sy_tx' [0, 1] rfl ?_
 refine sp rfl (PE.add rfl rfl (by omega)) rfl ?_
 refine sp rfl (PE.move rfl) rfl ?_
 exact sy_next ⟨k + 1, by omega⟩ (by dsimp only; omega) (by dsimp only; rw [hst]; exact (by repeat' first | exact Sub.nil | apply Sub.cons | rfl | (simp [lk]; omega))) (fun w h => by dsimp only; rw [hst]; exact h)
 try simp only [decide_eq_true_eq, decide_eq_false_iff_not, Bool.and_eq_true, Bool.or_eq_true, Bool.not_eq_true', Int.not_le, Int.not_lt] at hc2
 obtain rfl : k = 4 := by omega
 obtain ⟨e1, e2, e3⟩ := tak_end hm hng
 refine sy_exit ?_
 repeat refine sy_tx ?_
 refine sy_bx ?_
 refine sy_seq ?_
 refine sy_tx' [0, 1, 2, 3, 4, 5] rfl ?_
 refine sy_pull bk ?_
 obtain ⟨l, hl⟩ : ∃ l, l = (takI n m 4).1 := ⟨_, rfl⟩
 rw [← hl]
 rw [← hl] at e1 e2 e3
 refine sp rfl (PE.move rfl) rfl ?_
 refine cl rfl cal33 rfl rfl (c_Below l0 ag cg bk hgl _ _ (by omega) (by assumption) (4) _ _) ?_
 rintro _ _ R1 ⟨x73, m73, hx73, rfl, hm73, rfl, hR1⟩
 obtain rfl := hR1.symm
 refine sp rfl (PE.move rfl) rfl ?_
 refine cl rfl cal33 rfl rfl (c_Below l0 ag cg bk hgl _ _ (by omega) (by assumption) (4) _ _) ?_
 rintro _ _ R1 ⟨x75, m75, hx75, rfl, hm75, rfl, hR1⟩
 obtain rfl := hR1.symm
 refine sp rfl (PE.assign rfl) rfl ?_
 refine sp rfl (PE.assign rfl) rfl ?_
 refine sy_seq ?_
 refine sy_seq ?_
 refine sy_draw [0, 0, 2, 7, 0, 0, 48, 112, 255, 511] (.tk 0 (.tk 1 (.ld 2 (.tk 4 (.tk 5 (.tk 6 (.ld 7 (.big 3 (.tk 8 (.tk 9 .done)))))))))) mixed (by kernel_rfl) ?_
 obtain ⟨a, ha⟩ : ∃ a : Nat, x73 = a := ⟨x73.toNat, by omega⟩
 obtain ⟨b, hb⟩ : ∃ b : Nat, x75 = b := ⟨x75.toNat, by omega⟩
 rw [ha, hb]
 have ha4 : a < 4 := by omega
 have hb4 : b < 4 := by omega
 have hea := e3 a ha4
 have heb := e3 b hb4
 have hga : g0 n m a = n * nn m a / 40 := rfl
 have hgb : g0 n m b = n * nn m b / 40 := rfl
 have hba := mul_bd4 hm hng ha4
 have hbb := mul_bd4 hm hng hb4
 refine tk rfl (PE.move rfl) rfl ?_
 refine tk rfl (PE.fieldAddr fo24_1 rfl) rfl ?_
 refine ld rfl rfl (lh sc3 rfl rfl) rfl ?_
 refine tk rfl (PE.move rfl) rfl ?_
 refine tk rfl (PE.fieldAddr fo66_1 rfl) rfl ?_
 refine tk rfl (PE.indexArr ar64 rfl rfl (by omega) (by omega)) rfl ?_
 refine ld rfl rfl (lh sc3 rfl (hnd_at e1 ha4)) rfl ?_
 refine cl rfl cal33 rfl rfl (c_Below l0 ag cg bk hgl _ _ (by omega) (by assumption) (g.miss) _ _) ?_
 rintro _ _ R1 ⟨x79, m79, hx79, rfl, hm79, rfl, hR1⟩
 obtain rfl := hR1.symm
 refine bg (fun w hs => ⟨(lh sc3 rfl (hnd_at e1 ha4)) w hs, trivial, trivial⟩) ?_
 refine tk rfl (PE.min rfl rfl) rfl ?_
 refine tk rfl (PE.assign rfl) rfl ?_
 refine sy_seq ?_
 refine sy_tx' [0, 1, 2] rfl ?_
 obtain ⟨t, ht⟩ : ∃ t, t = min x79 (nn l a) := ⟨_, rfl⟩
 rw [← ht]
 obtain ⟨k1, k2, k3⟩ := tkM_at e1 ha4 hb4 t
 refine sp rfl (PE.move rfl) rfl ?_
 refine sp rfl (PE.move rfl) rfl ?_
 refine sp rfl (PE.neq rfl rfl) rfl ?_
 refine sy_cond rfl (fun hc4 => ?_) (fun hc4 => ?_)
 have hab : a ≠ b := by intro h; subst h; simp at hc4
 have htk : tkM l a b t = (l.set a (nn l a - t)).set b (nn l b + t) := by unfold tkM; rw [show (a == b) = false by simpa using hab]; rfl
 refine sy_draw [0, 0, 0, 0, 12, 28, 0, 124, 0, 0, 768, 1792, 0, 7936, 0, 20477, 53245, 0, 262143, 524287] (.tk 0 (.tk 1 (.tk 2 (.tk 3 (.tk 4 (.ld 5 (.tk 6 (.tk 7 (.tk 8 (.tk 9 (.tk 10 (.ld 11 (.tk 12 (.tk 13 (.tk 14 (.tk 15 (.tk 17 (.big 16 (.tk 18 (.big 19 .done)))))))))))))))))))) mixed (by kernel_rfl) ?_
 refine tk rfl (PE.move rfl) rfl ?_
 refine tk rfl (PE.move rfl) rfl ?_
 refine tk rfl (PE.move rfl) rfl ?_
 refine tk rfl (PE.fieldAddr fo66_1 rfl) rfl ?_
 refine tk rfl (PE.indexArr ar64 rfl rfl (by omega) (by omega)) rfl ?_
 refine ld rfl rfl (lh sc3 rfl (hnd_at e1 ha4)) rfl ?_
 refine tk rfl (PE.move rfl) rfl ?_
 refine tk rfl (PE.sub rfl rfl (by omega)) rfl ?_
 refine tk rfl (PE.move rfl) rfl ?_
 refine tk rfl (PE.fieldAddr fo66_1 rfl) rfl ?_
 refine tk rfl (PE.indexArr ar64 rfl rfl (by omega) (by omega)) rfl ?_
 refine ld rfl rfl (lh sc3 rfl (hnd_at e1 hb4)) rfl ?_
 refine tk rfl (PE.move rfl) rfl ?_
 refine tk rfl (PE.add rfl rfl (by omega)) rfl ?_
 refine sy_pull b8 ?_
 refine tk rfl (PE.fieldAddr fo66_1 rfl) rfl ?_
 refine tk rfl (PE.indexArr ar64 rfl rfl (by omega) (by omega)) rfl ?_
 refine tk rfl (PE.fieldAddr fo66_1 rfl) rfl ?_
 refine stoE (l' := .int .i64 x26 :: ints ((l).set a (nn l a - t))) rfl rfl rfl cn3 rfl rfl rfl (spl_hnd e1 ha4 _) (by rw [hnd_len e1]; show 0 + 1 + ((a : Nat) : Int).toNat * 1 + 1 ≤ 5; omega) ?_
 refine bg (fun w hs => ⟨trivial, trivial, trivial⟩) ?_
 refine tk rfl (PE.indexArr ar64 rfl rfl (by omega) (by omega)) rfl ?_
 refine stoE (l' := .int .i64 x26 :: ints ((l.set a (nn l a - t)).set b (nn l b + t))) rfl rfl rfl cn3 rfl rfl rfl (spl_hnd (show (l.set a (nn l a - t)).length = 4 by simp [e1]) hb4 _) (by rw [hnd_len (show (l.set a (nn l a - t)).length = 4 by simp [e1])]; show 0 + 1 + ((b : Nat) : Int).toNat * 1 + 1 ≤ 5; omega) ?_
 refine bg (fun w hs => trivial) ?_
 refine sy_seq ?_
 refine sy_tx' [0, 1] rfl ?_
 rw [← htk]
 obtain ⟨x0, x1, x2, x3, hx⟩ := list4 k1
 obtain ⟨hok, hfit⟩ := tak_fit (spot := x26) hm hn (by omega) hmi.1 hn0 ha4 hb4 (t := t) (by rw [← hl]; omega) (by rw [← hl]; exact hx)
 rw [hx]
 refine spL rfl rfl (lhA (hrow ⟨x26, x0, x1, x2, x3⟩) ag66 rfl rfl rfl) rfl ?_
 refine sy_pull b6 ?_
 refine stoA rfl rfl rfl cn66 rfl rfl rfl rfl ?_
 refine sy_ret ?_
 exact sy_return (vs := [_]) rfl (.cons (RV.cell rfl (lhA (hrow ⟨x26, x0, x1, x2, x3⟩) ag66 rfl rfl rfl)) .nil) rfl ⟨⟨x26, x0, x1, x2, x3⟩, tq2 + 1 + 1 + 1 + 1, m79, hok, hfit, rfl, by omega, by assumption, rfl, rfl⟩ (fun w h => St.sub ((((h.del b6).del b8).del b5).del b4))
 have hab : a = b := by simp at hc4; omega
 have htk : tkM l a b t = l := by unfold tkM; rw [show (a == b) = true by simpa using hab]; rfl
 refine sy_skip ?_
 refine sy_seq ?_
 refine sy_tx' [0, 1] rfl ?_
 rw [← htk]
 obtain ⟨x0, x1, x2, x3, hx⟩ := list4 k1
 obtain ⟨hok, hfit⟩ := tak_fit (spot := x26) hm hn (by omega) hmi.1 hn0 ha4 hb4 (t := t) (by rw [← hl]; omega) (by rw [← hl]; exact hx)
 rw [hx]
 refine spL rfl rfl (lhA (hrow ⟨x26, x0, x1, x2, x3⟩) ag66 rfl rfl rfl) rfl ?_
 refine sy_pull b6 ?_
 refine stoA rfl rfl rfl cn66 rfl rfl rfl rfl ?_
 refine sy_ret ?_
 exact sy_return (vs := [_]) rfl (.cons (RV.cell rfl (lhA (hrow ⟨x26, x0, x1, x2, x3⟩) ag66 rfl rfl rfl)) .nil) rfl ⟨⟨x26, x0, x1, x2, x3⟩, tq2 + 1 + 1 + 1 + 1, m79, hok, hfit, rfl, by omega, by assumption, rfl, rfl⟩ (fun w h => St.sub ((((h.del b6).del b8).del b5).del b4))
end Go.Proofs.YtknoaljnelfklaaGreat
namespace Go.Proofs.YtknoaljnelfklaaGreat
set_option linter.unusedSimpArgs false
set_option linter.unusedVariables false
open Go
theorem ap22 : apT Tryz.prog 22 = some (69, 5, 40) := by kernel_rfl
theorem cal32 : cal Tryz.prog 32 = true := by kernel_rfl
theorem cal34 : cal Tryz.prog 34 = true := by kernel_rfl
theorem OSl.freezeC {e sz : Nat} {rows : List (List Value)} (o : OSl e sz rows) : ∃ a c, o.fs = .slice a rows.length c ∧ rows.length ≤ c ∧ ∀ {H : Heap} {R : Facts} {w : World}, St (o.G ++ H) R w → St H (RowsA a sz rows :: R) w := by
  obtain ⟨fs, G, hl, his⟩ := o
  rcases his with ⟨rfl, rfl, rfl⟩ | ⟨b, cap, junk, rfl, rfl, _, hc, _⟩
  · exact ⟨none, 0, rfl, Nat.le_refl _, fun {H R w} h => (St.also (H := H) (R := R) h (f := RowsA none sz []) (fun w' _ => fun i row hi => by simp at hi))⟩
  · exact ⟨_, cap, rfl, hc, fun {H R w} h => St.rows (rest := junk) h hl⟩
theorem grBad_snoc {l : List Grd} {x : Grd} (h : ∀ i, grBad l i = false) (hx : ∀ q ∈ l, x.price ≤ q.price) : ∀ i, grBad (l ++ [x]) i = false := fun i => by
  rcases Nat.lt_trichotomy (i + 1) l.length with h1 | h1 | h1
  · have := h i
    unfold grBad at this ⊢
    rw [List.getElem?_append_left (by omega), List.getElem?_append_left (by omega)]; exact this
  · obtain ⟨q, hq⟩ : ∃ q, l[i]? = some q := ⟨_, List.getElem?_eq_getElem (by omega)⟩
    have h2 := hx q (List.mem_of_getElem? hq)
    unfold grBad
    rw [List.getElem?_append_left (by omega), hq, List.getElem?_append_right (by omega), show i + 1 - l.length = 0 from by omega]
    simp only [List.getElem?_cons_zero]
    rw [decide_eq_false (by omega)]
  · unfold grBad
    rw [List.getElem?_eq_none (l := l ++ [x]) (i := i + 1) (by simp; omega)]
    split <;> simp_all
structure GrI (l : List Grd) (k : Nat) (pr : Int) : Prop where
  len : l.length = k
  bd : 0 ≤ pr ∧ pr ≤ 100
  q : ∀ q ∈ l, (pr ≤ q.price ∧ q.price ≤ 100) ∧ ∀ k < 4, 0 ≤ nn q.ns k ∧ nn q.ns k ≤ 40
  bad : ∀ i, grBad l i = false
theorem GrI.more {l : List Grd} {k : Nat} {pr a b c d x : Int} (h : GrI l k pr) (ha : 0 ≤ a ∧ a ≤ 40) (hb : 0 ≤ b ∧ b ≤ 40) (hc : 0 ≤ c ∧ c ≤ 40) (hd : 0 ≤ d ∧ d ≤ 40) (hx : 0 ≤ x ∧ x ≤ pr) : GrI (l ++ [⟨a, b, c, d, pr⟩]) (k + 1) (pr - x) := by
  have hp := h.bd
  refine ⟨by simp [h.len], by omega, fun q hq => ?_, grBad_snoc h.bad (fun q hq => (h.q q hq).1.1)⟩
  rcases List.mem_append.1 hq with hq | hq
  · have := h.q q hq; exact ⟨by omega, this.2⟩
  · simp only [List.mem_singleton] at hq; subst hq; exact ⟨by simp only; omega, of4 ⟨ha, hb, hc, hd⟩⟩
structure MdOk (ng nh : Int) (g : Gat) (c : Crt) (m : Mix) : Prop where
  gok : g.ok
  cok : c.ok
  mix : Mxt m
  err : g.err ≤ 8
  miss : g.miss ≤ 6
  fit : ∀ h ∈ c.hs, fitB g.miss h m = true
  many : g.grs.length ≤ ng
  more : c.hs.length ≤ nh
  net : 0 ≤ c.full - c.empty ∧ c.full - c.empty < 2000
theorem c_MadeO (l0 : List Int) (a0 : Option Addr) (c0 bk : Nat) (hgl : l0.length ≤ 9223372036854775807) (tq mx : Int) (htq : 0 ≤ tq ∧ tq ≤ 1000) (hmx : 0 ≤ mx ∧ mx ≤ 4294967295) (ng nh : Int) (hng : 0 ≤ ng ∧ ng ≤ 4) (hnh : 0 ≤ nh ∧ nh ≤ 6) (H : Heap) (R : Facts) [hG : MemRows a0 1 (urows l0) R] :
    Fn Tryz.prog 30 [.pointer (some ⟨bk, 0, none⟩), .int .i64 ng, .int .i64 nh] ((bk, cel 138 [.slice a0 l0.length c0, .int .i64 (tq), .int .u32 (mx)]) :: H) R (fun v H' R' => ∃ (g : Gat) (c : Crt) (m : Mix) (ag : Option Addr) (cg : Nat) (tq' mx' : Int) (o : OSl 66 5 (hrows c.hs)), MdOk ng nh g c m ∧ g.grs.length ≤ cg ∧ v = .tuple #[g.v (g.sl ag cg), c.v o.fs, .agg (ints m).toArray] ∧ (tq ≤ tq' ∧ tq' ≤ tq + 200) ∧ (0 ≤ mx' ∧ mx' ≤ 4294967295) ∧ H' = (bk, cel 138 [.slice a0 l0.length c0, .int .i64 (tq'), .int .u32 (mx')]) :: (o.G ++ H) ∧ R' = RowsA ag 5 (grows g.grs) :: R) := by
 refine fn_of Tryz.func30 rfl Tryz.ntmps30 rfl ?_
 refine sy_seq ?_
 refine sy_tx' [0, 1, 2] rfl ?_
 refine alc rfl zl24 rfl (fun b6 => ?_)
 refine alc rfl zl27 rfl (fun b7 => ?_)
 refine alc rfl zl64 rfl (fun b8 => ?_)
 refine sy_seq ?_
 refine sy_tx' [0, 1, 2, 3, 4, 5, 6] rfl ?_
 refine sy_pull bk ?_
 refine sp rfl (PE.move rfl) rfl ?_
 refine cl rfl cal33 rfl rfl (c_Below l0 a0 c0 bk hgl _ _ (by omega) (by assumption) (9) _ _) ?_
 rintro _ _ R1 ⟨x15, m15, hx15, rfl, hm15, rfl, hR1⟩
 obtain rfl := hR1.symm
 refine sp rfl (PE.move rfl) rfl ?_
 refine cl rfl cal33 rfl rfl (c_Below l0 a0 c0 bk hgl _ _ (by omega) (by assumption) (7) _ _) ?_
 rintro _ _ R1 ⟨x17, m17, hx17, rfl, hm17, rfl, hR1⟩
 obtain rfl := hR1.symm
 refine sp rfl (PE.build (out := gtl ⟨x15, x17, []⟩ (.slice none 0 0)) pl24 zl24 rfl rfl) rfl ?_
 refine alc rfl zl24 rfl (fun b9 => ?_)
 refine sto rfl rfl rfl cn24 rfl rfl rfl rfl ?_
 refine sy_seq ?_
 refine sy_tx' [0, 1, 2] rfl ?_
 refine sy_pull bk ?_
 refine sp rfl (PE.move rfl) rfl ?_
 refine cl rfl cal83 rfl rfl (c_Among l0 a0 c0 bk hgl _ _ (by omega) (by assumption) (1) (100) (by first | omega | (dsimp only; omega)) _ _) ?_
 rintro _ _ R1 ⟨x20, m20, hx20, rfl, hm20, rfl, hR1⟩
 obtain rfl := hR1.symm
 refine sp rfl (PE.assign rfl) rfl ?_
 refine sy_seq ?_
 refine sy_seq ?_
 refine sy_tx' [0, 1, 2, 3, 4] rfl ?_
 refine sp rfl (PE.move rfl) rfl ?_
 refine sp rfl (PE.move rfl) rfl ?_
 refine sp rfl (PE.add rfl rfl (by omega)) rfl ?_
 refine cl rfl cal33 rfl rfl (c_Below l0 a0 c0 bk hgl _ _ (by omega) (by assumption) (ng + 1) _ _) ?_
 rintro _ _ R1 ⟨x24, m24, hx24, rfl, hm24, rfl, hR1⟩
 obtain rfl := hR1.symm
 refine sp rfl (PE.move rfl) rfl ?_
 refine sy_block ?_
 obtain ⟨n24, rfl⟩ : ∃ n : Nat, x24 = n := ⟨x24.toNat, by omega⟩
 refine sy_loop (ι := (x : {x : Nat × Int × List Grd × Int × Int // x.1 ≤ n24 ∧ GrI x.2.2.1 x.1 x.2.1 ∧ (tq ≤ x.2.2.2.1 ∧ x.2.2.2.1 ≤ tq + 10 + 5 * x.1) ∧ (0 ≤ x.2.2.2.2 ∧ x.2.2.2.2 ≤ 4294967295)}) × OSl 69 5 (grows x.1.2.2.1)) (fun x => ⟨[(0, .pointer (some ⟨bk, 0, none⟩)), (6, .pointer (some ⟨b6, 0, none⟩)), (7, .pointer (some ⟨b7, 0, none⟩)), (8, .pointer (some ⟨b8, 0, none⟩)), (9, .pointer (some ⟨b9, 0, none⟩)), (2, .int .i64 nh), (10, .int .i64 x.1.1.2.1), (24, .int .i64 n24), (25, .int .i64 x.1.1.1)],
   (bk, cel 138 [.slice a0 l0.length c0, .int .i64 (x.1.1.2.2.2.1), .int .u32 (x.1.1.2.2.2.2)]) :: (x.2.G ++ (b9, cel 24 (gtl ⟨x15, x17, x.1.1.2.2.1⟩ x.2.fs)) :: (b8, cel 64 (ints [0, 0, 0, 0])) :: (b7, cel 27 [.int .i64 0, .int .i64 0, .slice none 0 0]) :: (b6, cel 24 [.int .i64 0, .int .i64 0, .slice none 0 0]) :: H), R⟩) (fun x => n24 - x.1.1.1) ⟨⟨(0, x20, [], tq + 1 + 1 + 1 + 1, m24), by omega, ⟨rfl, by dsimp only; omega, by simp, fun i => by simp [grBad]⟩, by dsimp only; omega, by assumption⟩, OSl.nil _ _⟩ ?_ (fun x => ?_)
 exact sy_at (by repeat' first | exact Sub.nil | apply Sub.cons | rfl | (simp [lk]; omega)) (fun _ h => h)
 obtain ⟨⟨⟨k, pr, l, tq2, mx2⟩, hk, hri, htq2, hmx2⟩, o'⟩ := x
 dsimp only at hk hri htq2 hmx2 o' ⊢
 have h2 := hri.bd
 have h3 := hri.len
 refine sy_seq ?_
 refine sy_tx' [0] rfl ?_
 refine sp rfl (PE.lss rfl rfl) rfl ?_
 refine sy_seq ?_
 refine sy_cond rfl (fun hc0 => ?_) (fun hc0 => ?_)
 try simp only [decide_eq_true_eq, decide_eq_false_iff_not, Bool.and_eq_true, Bool.or_eq_true, Bool.not_eq_true', Int.not_le, Int.not_lt] at hc0
 refine sy_skip ?_
 refine sy_seq ?_
 refine sy_block ?_
 refine sy_seq ?_
 refine sy_draw [0, 1, 0, 4, 0, 28, 0, 124, 0, 508, 0, 2044, 4092, 8191, 16383, 32767] (.tk 0 (.ld 1 (.tk 2 (.tk 4 (.tk 6 (.tk 8 (.tk 10 (.big 3 (.big 5 (.big 7 (.big 9 (.tk 11 (.big 12 (.big 13 (.tk 14 (.big 15 .done)))))))))))))))) mixed (by kernel_rfl) ?_
 refine tk rfl (PE.fieldAddr fo24_2 rfl) rfl ?_
 refine ld rfl rfl (lh sc22 rfl rfl) rfl ?_
 refine tk rfl (PE.move rfl) rfl ?_
 refine tk rfl (PE.move rfl) rfl ?_
 refine tk rfl (PE.move rfl) rfl ?_
 refine tk rfl (PE.move rfl) rfl ?_
 refine tk rfl (PE.move rfl) rfl ?_
 refine cl rfl cal83 rfl rfl (c_Among l0 a0 c0 bk hgl _ _ (by omega) (by assumption) (10) (38) (by first | omega | (dsimp only; omega)) _ _) ?_
 rintro _ _ R1 ⟨x30, m30, hx30, rfl, hm30, rfl, hR1⟩
 obtain rfl := hR1.symm
 refine bg (fun w hs => ⟨(lh sc22 rfl rfl) w hs, trivial⟩) ?_
 refine cl rfl cal83 rfl rfl (c_Among l0 a0 c0 bk hgl _ _ (by omega) (by assumption) (1) (14) (by first | omega | (dsimp only; omega)) _ _) ?_
 rintro _ _ R1 ⟨x32, m32, hx32, rfl, hm32, rfl, hR1⟩
 obtain rfl := hR1.symm
 refine bg (fun w hs => ⟨(lh sc22 rfl rfl) w hs, trivial⟩) ?_
 refine cl rfl cal33 rfl rfl (c_Below l0 a0 c0 bk hgl _ _ (by omega) (by assumption) (9) _ _) ?_
 rintro _ _ R1 ⟨x34, m34, hx34, rfl, hm34, rfl, hR1⟩
 obtain rfl := hR1.symm
 refine bg (fun w hs => ⟨(lh sc22 rfl rfl) w hs, trivial⟩) ?_
 refine cl rfl cal83 rfl rfl (c_Among l0 a0 c0 bk hgl _ _ (by omega) (by assumption) (1) (14) (by first | omega | (dsimp only; omega)) _ _) ?_
 rintro _ _ R1 ⟨x36, m36, hx36, rfl, hm36, rfl, hR1⟩
 obtain rfl := hR1.symm
 refine bg (fun w hs => ⟨(lh sc22 rfl rfl) w hs, trivial⟩) ?_
 refine tk rfl (PE.build (out := grow ⟨x30, x32, x34, x36, pr⟩) pl69 zl69 rfl rfl) rfl ?_
 refine bsl (out := [_, _, _, _, _]) rfl sl22 zl69 rfl rfl rfl rfl rfl rfl (fun b39 => ?_)
 refine bg (fun w hs => ⟨(lh sc22 rfl rfl) w hs, trivial⟩) ?_
 refine apO (o') rfl ap22 rfl rfl (rowsH (row := grow ⟨x30, x32, x34, x36, pr⟩) rfl) rfl rfl ((by simp only [grows, List.length_map, List.length_singleton]; omega)) rfl (fun o40 => ?_)
 refine bg (fun w hs => ⟨trivial, trivial⟩) ?_
 refine tk rfl (PE.fieldAddr fo24_2 rfl) rfl ?_
 refine stoE (l' := gtl ⟨x15, x17, l ++ [⟨x30, x32, x34, x36, pr⟩]⟩ o40.fs) rfl rfl rfl cn22 rfl (by rw [o40.cells.1]; first | done | rfl) (by rw [o40.cells.1]; simp [o40.cells.2]) (by rw [o40.cells.1]; first | done | rfl) (by rw [o40.cells.1]; first | done | exact Nat.le_refl _) ?_
 refine bg (fun w hs => trivial) ?_
 refine sy_tx' [0, 1, 2, 3, 4, 5, 6] rfl ?_
 refine sy_pull bk ?_
 refine sp rfl (PE.move rfl) rfl ?_
 refine sp rfl (PE.move rfl) rfl ?_
 refine sp rfl (PE.move rfl) rfl ?_
 refine sp rfl (PE.add rfl rfl (by omega)) rfl ?_
 refine cl rfl cal33 rfl rfl (c_Below l0 a0 c0 bk hgl _ _ (by omega) (by assumption) (pr + 1) _ _) ?_
 rintro _ _ R1 ⟨x46, m46, hx46, rfl, hm46, rfl, hR1⟩
 obtain rfl := hR1.symm
 refine sp rfl (PE.sub rfl rfl (by omega)) rfl ?_
 refine sp rfl (PE.assign rfl) rfl ?_
 refine sy_tx' [0, 1] rfl ?_
 refine sp rfl (PE.add rfl rfl (by omega)) rfl ?_
 refine sp rfl (PE.move rfl) rfl ?_
 exact sy_next ⟨⟨(k + 1, pr - x46, l ++ [⟨x30, x32, x34, x36, pr⟩], tq2 + 1 + 1 + 1 + 1 + 1, m46), by omega, hri.more (x := x46) (by omega) (by omega) (by omega) (by omega) (by omega), by dsimp only; omega, by assumption⟩, o40.cast (by simp [grows])⟩ (by dsimp only; omega) (by repeat' first | exact Sub.nil | apply Sub.cons | rfl | (simp [lk]; omega)) (fun w h => (h.del b39).perm (by first | exact .refl _ | exact List.Perm.cons _ (.refl _)))
 try simp only [decide_eq_true_eq, decide_eq_false_iff_not, Bool.and_eq_true, Bool.or_eq_true, Bool.not_eq_true', Int.not_le, Int.not_lt] at hc0
 obtain rfl : k = n24 := by omega
 obtain ⟨ag, cg, he, hcg, hf⟩ := o'.freezeC
 rw [he]
 refine sy_pull bk ?_
 refine Sy.heap (H' := _) (fun w h => hf (h.perm (List.perm_middle (l₁ := o'.G) (a := _)).symm)) ?_
 rw [show (grows l).length = l.length from List.length_map _]
 rw [show (grows l).length = l.length from List.length_map _] at hcg
 have hgo : Gat.ok ⟨x15, x17, l⟩ := ⟨by simp only; omega, by simp only; omega, by simp only; omega, fun q hq => by have := hri.q q hq; exact ⟨by omega, this.2⟩, hri.bad⟩
 clear he hf
 refine sy_exit ?_
 repeat refine sy_tx ?_
 refine sy_bx ?_
 refine sy_seq ?_
 refine sy_tx' [0, 1, 2, 3] rfl ?_
 refine sp rfl (PE.move rfl) rfl ?_
 refine cl rfl cal32 rfl rfl (c_Mixed l0 a0 c0 bk hgl _ _ (by omega) (by assumption) _ _) ?_
 rintro _ _ R1 ⟨q, tq5, mx5, hq, rfl, htq5, hmx5, rfl, hR1⟩
 obtain rfl := hR1.symm
 refine alc rfl zl64 rfl (fun b11 => ?_)
 refine stoA rfl rfl rfl cn64 rfl (by rw [ints_length]; exact hq.len) rfl (ints_one _) ?_
 refine sy_seq ?_
 refine sy_tx' [0, 1, 2] rfl ?_
 refine sy_pull bk ?_
 refine sp rfl (PE.move rfl) rfl ?_
 refine cl rfl cal33 rfl rfl (c_Below l0 a0 c0 bk hgl _ _ (by omega) (by assumption) (900) _ _) ?_
 rintro _ _ R1 ⟨x52, m52, hx52, rfl, hm52, rfl, hR1⟩
 obtain rfl := hR1.symm
 refine sp rfl (PE.assign rfl) rfl ?_
 refine sy_seq ?_
 refine sy_tx' [0, 1, 2, 3, 4, 5, 6, 7] rfl ?_
 refine sp rfl (PE.move rfl) rfl ?_
 refine sp rfl (PE.move rfl) rfl ?_
 refine cl rfl cal33 rfl rfl (c_Below l0 a0 c0 bk hgl _ _ (by omega) (by assumption) (2000) _ _) ?_
 rintro _ _ R1 ⟨x55, m55, hx55, rfl, hm55, rfl, hR1⟩
 obtain rfl := hR1.symm
 refine sp rfl (PE.add rfl rfl (by omega)) rfl ?_
 refine sp rfl (PE.move rfl) rfl ?_
 refine sp rfl (PE.build (out := ctl ⟨x52 + x55, x52, []⟩ (.slice none 0 0)) pl27 zl27 rfl rfl) rfl ?_
 refine alc rfl zl27 rfl (fun b13 => ?_)
 refine sto rfl rfl rfl cn27 rfl rfl rfl rfl ?_
 refine sy_seq ?_
 refine sy_seq ?_
 refine sy_tx' [0, 1, 2, 3, 4] rfl ?_
 refine sy_pull bk ?_
 refine sp rfl (PE.move rfl) rfl ?_
 refine sp rfl (PE.move rfl) rfl ?_
 refine sp rfl (PE.add rfl rfl (by omega)) rfl ?_
 refine cl rfl cal33 rfl rfl (c_Below l0 a0 c0 bk hgl _ _ (by omega) (by assumption) (nh + 1) _ _) ?_
 rintro _ _ R1 ⟨x62, m62, hx62, rfl, hm62, rfl, hR1⟩
 obtain rfl := hR1.symm
 refine sp rfl (PE.move rfl) rfl ?_
 refine sy_block ?_
 obtain ⟨n62, rfl⟩ : ∃ n : Nat, x62 = n := ⟨x62.toNat, by omega⟩
 refine sy_loop (ι := (x : {x : Nat × List Hnd × Int × Int // x.1 ≤ n62 ∧ (x.2.1.length = x.1 ∧ ∀ h ∈ x.2.1, h.ok ∧ fitB x17 h q = true) ∧ (tq ≤ x.2.2.1 ∧ x.2.2.1 ≤ tq + 60 + 20 * x.1) ∧ (0 ≤ x.2.2.2 ∧ x.2.2.2 ≤ 4294967295)}) × OSl 66 5 (hrows x.1.2.1)) (fun x => ⟨[(0, .pointer (some ⟨bk, 0, none⟩)), (6, .pointer (some ⟨b6, 0, none⟩)), (7, .pointer (some ⟨b7, 0, none⟩)), (8, .pointer (some ⟨b8, 0, none⟩)), (9, .pointer (some ⟨b9, 0, none⟩)), (11, .pointer (some ⟨b11, 0, none⟩)), (13, .pointer (some ⟨b13, 0, none⟩)), (62, .int .i64 n62), (63, .int .i64 x.1.1.1)],
   (bk, cel 138 [.slice a0 l0.length c0, .int .i64 (x.1.1.2.2.1), .int .u32 (x.1.1.2.2.2)]) :: (x.2.G ++ (b13, cel 27 (ctl ⟨x52 + x55, x52, x.1.1.2.1⟩ x.2.fs)) :: (b11, cel 64 (ints q)) :: (b9, cel 24 (gtl ⟨x15, x17, l⟩ (.slice ag l.length cg))) :: (b8, cel 64 (ints [0, 0, 0, 0])) :: (b7, cel 27 [.int .i64 0, .int .i64 0, .slice none 0 0]) :: (b6, cel 24 [.int .i64 0, .int .i64 0, .slice none 0 0]) :: H), RowsA ag 5 (grows l) :: R⟩) (fun x => n62 - x.1.1.1) ⟨⟨(0, [], tq5 + 1 + 1 + 1, m62), by omega, ⟨rfl, by simp⟩, by dsimp only; omega, by assumption⟩, OSl.nil _ _⟩ ?_ (fun x => ?_)
 exact sy_at (by repeat' first | exact Sub.nil | apply Sub.cons | rfl | (simp [lk]; omega)) (fun _ h => h)
 obtain ⟨⟨⟨k, hds, tq3, mx3⟩, hk1, ⟨hkl, hkh⟩, htq3, hmx3⟩, o'⟩ := x
 dsimp only at hk1 hkl hkh htq3 hmx3 o' ⊢
 refine sy_seq ?_
 refine sy_tx' [0] rfl ?_
 refine sp rfl (PE.lss rfl rfl) rfl ?_
 refine sy_seq ?_
 refine sy_cond rfl (fun hc1 => ?_) (fun hc1 => ?_)
 try simp only [decide_eq_true_eq, decide_eq_false_iff_not, Bool.and_eq_true, Bool.or_eq_true, Bool.not_eq_true', Int.not_le, Int.not_lt] at hc1
 refine sy_skip ?_
 refine sy_seq ?_
 refine sy_block ?_
 refine sy_draw [0, 1, 0, 0, 0, 28, 60, 127, 255, 511] (.tk 0 (.ld 1 (.tk 2 (.ld 3 (.ld 4 (.big 5 (.big 6 (.big 7 (.tk 8 (.big 9 .done)))))))))) mixed (by kernel_rfl) ?_
 refine tk rfl (PE.fieldAddr fo27_2 rfl) rfl ?_
 refine ld rfl rfl (lh sc25 rfl rfl) rfl ?_
 refine tk rfl (PE.move rfl) rfl ?_
 refine ld rfl rfl (lhA (gtl ⟨x15, x17, l⟩ (.slice ag l.length cg)) ag24 rfl rfl rfl) rfl ?_
 refine ld rfl rfl (lhA (ints (q)) ag64 rfl (rest := []) (by rw [List.append_nil]; rfl) (by rw [ints_length]; exact hq.len)) rfl ?_
 refine cl rfl cal34 rfl rfl (c_Taken l0 a0 c0 bk hgl _ _ (by omega) (by assumption) ⟨x15, x17, l⟩ (by dsimp only; omega) (.slice ag l.length cg) q hq _ _) ?_
 rintro _ _ R1 ⟨h, tq4, mx4, hho, hhf, rfl, htq4, hmx4, rfl, hR1⟩
 obtain rfl := hR1.symm
 refine bg (fun w hs => ⟨trivial, trivial, (lh sc25 rfl rfl) w hs, trivial⟩) ?_
 refine bsl (out := [_, _, _, _, _]) rfl sl25 zl66 rfl rfl rfl rfl rfl rfl (fun b71 => ?_)
 refine bg (fun w hs => ⟨(lh sc25 rfl rfl) w hs, trivial⟩) ?_
 refine apO (o') rfl ap25 rfl rfl (rowsH (row := hrow h) rfl) rfl rfl ((by simp only [hrows, List.length_map, List.length_singleton]; omega)) rfl (fun o72 => ?_)
 refine bg (fun w hs => ⟨trivial, trivial⟩) ?_
 refine tk rfl (PE.fieldAddr fo27_2 rfl) rfl ?_
 refine stoE (l' := ctl ⟨x52 + x55, x52, hds ++ [h]⟩ o72.fs) rfl rfl rfl cn25 rfl (by rw [o72.cells.1]; first | done | rfl) (by rw [o72.cells.1]; simp [o72.cells.2]) (by rw [o72.cells.1]; first | done | rfl) (by rw [o72.cells.1]; first | done | exact Nat.le_refl _) ?_
 refine bg (fun w hs => trivial) ?_
 refine sy_tx' [0, 1] rfl ?_
 refine sy_pull bk ?_
 refine sp rfl (PE.add rfl rfl (by omega)) rfl ?_
 refine sp rfl (PE.move rfl) rfl ?_
 exact sy_next ⟨⟨(k + 1, hds ++ [h], tq4, mx4), by omega, ⟨by simp [hkl], fun x hx => by rcases List.mem_append.1 hx with hx | hx; exact hkh x hx; obtain rfl := List.mem_singleton.1 hx; exact ⟨hho, hhf⟩⟩, by dsimp only; omega, by assumption⟩, o72.cast (by simp [hrows])⟩ (by dsimp only; omega) (by repeat' first | exact Sub.nil | apply Sub.cons | rfl | (simp [lk]; omega)) (fun w h => (h.del b71).perm (by first | exact .refl _ | exact List.Perm.cons _ (.refl _)))
 try simp only [decide_eq_true_eq, decide_eq_false_iff_not, Bool.and_eq_true, Bool.or_eq_true, Bool.not_eq_true', Int.not_le, Int.not_lt] at hc1
 obtain rfl : k = n62 := by omega
 refine sy_pull bk ?_
 refine sy_exit ?_
 repeat refine sy_tx ?_
 refine sy_bx ?_
 refine sy_seq ?_
 refine sy_draw [0, 0, 0, 1, 11, 31] (.ld 0 (.ld 1 (.ld 2 (.big 3 (.big 4 (.big 5 .done)))))) mixed (by kernel_rfl) ?_
 refine ld rfl rfl (lhA (gtl ⟨x15, x17, l⟩ (.slice ag l.length cg)) ag24 rfl rfl rfl) rfl ?_
 refine ld rfl rfl (lhA (ctl ⟨x52 + x55, x52, hds⟩ o'.fs) ag27 rfl rfl rfl) rfl ?_
 refine ld rfl rfl (lhA (ints (q)) ag64 rfl (rest := []) (by rw [List.append_nil]; rfl) (by rw [ints_length]; exact hq.len)) rfl ?_
 refine sto rfl rfl rfl cn24 rfl rfl rfl rfl ?_
 refine bg (fun w hs => ⟨(lhA (ints (q)) ag64 rfl (rest := []) (by rw [List.append_nil]; rfl) (by rw [ints_length]; exact hq.len)) w hs, (lhA (ctl ⟨x52 + x55, x52, hds⟩ o'.fs) ag27 rfl rfl rfl) w hs, trivial, trivial⟩) ?_
 refine stoE (l' := ctl ⟨x52 + x55, x52, hds⟩ o'.fs) rfl rfl rfl cn27 rfl rfl (by show (ctl _ o'.fs).all (·.oneCell') = true; simp only [ctl, List.all_cons, List.all_nil, o'.cells.2, Bool.and_true]; rfl) rfl (Nat.le_refl _) ?_
 refine bg (fun w hs => ⟨(lhA (ints (q)) ag64 rfl (rest := []) (by rw [List.append_nil]; rfl) (by rw [ints_length]; exact hq.len)) w hs, trivial, trivial⟩) ?_
 refine stoA rfl rfl rfl cn64 rfl (by rw [ints_length]; exact hq.len) rfl (ints_one _) ?_
 refine bg (fun w hs => ⟨trivial, trivial⟩) ?_
 refine sy_ret ?_
 have hco : Crt.ok ⟨x52 + x55, x52, hds⟩ := ⟨by simp only; omega, by simp only; omega, by simp only; omega, fun h hh => (hkh h hh).1⟩
 exact sy_return (vs := [_, _, _]) rfl (.cons (RV.cell rfl (lhA [_, _, _] ag24 rfl rfl rfl)) (.cons (RV.cell rfl (lhA [_, _, _] ag27 rfl rfl rfl)) (.cons (RV.cell rfl (lhA (ints (q)) ag64 rfl (rest := []) (by rw [List.append_nil]; rfl) (by rw [ints_length]; exact hq.len))) .nil))) rfl ⟨⟨x15, x17, l⟩, ⟨x52 + x55, x52, hds⟩, q, ag, cg, tq3, mx3, o', ⟨hgo, hco, hq, by simp only; omega, by simp only; omega, fun h hh => (hkh h hh).2, by simp only; omega, by simp only; omega, by simp only; omega⟩, hcg, rfl, by omega, by assumption, rfl, rfl⟩ (fun w h => St.sub ((((((h.del b13).del b11).del b9).del b8).del b7).del b6))
theorem Fn.post {P : Program} {f : FuncId} {args : List Value} {H : Heap} {R : Facts} {Q Q' : Value → Heap → Facts → Prop} (h : Fn P f args H R Q) (hq : ∀ v H1 R1, Q v H1 R1 → ∃ H2 R2, Q' v H2 R2 ∧ ∀ w, St H1 R1 w → St H2 R2 w) : Fn P f args H R Q' :=
  fun w hs => CallsIn.mono (h w hs) fun e w' ⟨v, H1, R1, q, he, hs'⟩ => by obtain ⟨H2, R2, q2, hst⟩ := hq _ _ _ q; exact ⟨v, H2, R2, q2, he, hst _ hs'⟩
end Go.Proofs.YtknoaljnelfklaaGreat
namespace Go.Proofs.YtknoaljnelfklaaGreat
set_option linter.unusedSimpArgs false
set_option linter.unusedVariables false
open Go
theorem mx_less {b b' : Box} (hb : Tight b') (h : ∀ m, Mx b' m → Mx b m) {k : Nat} (hk : k < 4) : bl b k ≤ bl b' k ∧ bh b' k ≤ bh b k := by
  have hf := hb.fit k hk
  obtain ⟨m1, h1, e1⟩ := hb.had hk (v := bl b' k) ⟨Int.le_refl _, hf.1⟩
  obtain ⟨m2, h2, e2⟩ := hb.had hk (v := bh b' k) ⟨hf.1, Int.le_refl _⟩
  have h3 := (h m1 h1).at_ k hk
  have h4 := (h m2 h2).at_ k hk
  omega
end Go.Proofs.YtknoaljnelfklaaGreat
namespace Go.Proofs.YtknoaljnelfklaaGreat
set_option linter.unusedSimpArgs false
set_option linter.unusedVariables false
open Go
def mixE (m : Mix) : Int := bif !(m.all fun n => inb n 0 40) then 3 else bif decide (sum4 m ≠ 40) then 8 else 0
theorem mix_ok {m : Mix} (hm : m.length = 4) : mixE m = 0 ↔ Mxt m := by
  obtain ⟨a, b, c, d, rfl⟩ := list4 hm
  unfold mixE
  constructor
  · intro h
    cases h1 : ([a, b, c, d].all fun n => inb n 0 40)
    · rw [h1] at h; cases h
    · rw [h1] at h
      by_cases h2 : sum4 [a, b, c, d] = 40
      · simp [inb] at h1
        exact ⟨rfl, h2, of4 ⟨by simp [nn]; omega, by simp [nn]; omega, by simp [nn]; omega, by simp [nn]; omega⟩⟩
      · rw [decide_eq_true h2] at h; cases h
  · intro h
    obtain ⟨p0, p1, p2, p3⟩ := all4 h.at_
    simp only [nn, List.getD_cons_zero, List.getD_cons_succ] at p0 p1 p2 p3
    rw [show ([a, b, c, d].all fun n => inb n 0 40) = true from by simp [inb]; omega, decide_eq_false (by rw [h.sum]; decide)]; rfl
end Go.Proofs.YtknoaljnelfklaaGreat
namespace Go.Proofs.YtknoaljnelfklaaGreat
set_option linter.unusedSimpArgs false
set_option linter.unusedVariables false
open Go
def isStr (P : Program) (T : Nat) : Bool := match P.underlying T with | some .string => true | _ => false
def U8 (v : Value) : Prop := ∃ x : Int, v = .int .u8 x ∧ 0 ≤ x ∧ x ≤ 255
theorem wrap_u8_id {n : Int} (h0 : 0 ≤ n) (h1 : n ≤ 255) : IntKind.u8.wrap n = n := by
  have e : IntKind.u8.wrap n = n % 256 := rfl
  rw [e]; omega
theorem wrap_u64_id {n : Int} (h0 : 0 ≤ n) (h1 : n ≤ 18446744073709551615) : IntKind.u64.wrap n = n := by
  have e : IntKind.u64.wrap n = n % 18446744073709551616 := rfl
  rw [e]; omega
section pe
variable {P : Program} {L : Slots} {d : Option Tmp} {ty : TypeId} {pos : String} {af : Array Edge} {g : Option (Nat × Bool)}
theorem PE.slLoA {T e s : Nat} {x z : Operand} {a : Option Addr} {len cap l : Nat} {k2 : IntKind} (hT : slE P T = some (e, s)) (hx : ev L x = some (.slice a len cap)) (hz : ev L z = some (.int k2 l)) (hl : l ≤ len) :
    PE P L ⟨d, .slice T x (some z) none none, ty, pos, af, g⟩ (.slice (if cap = l then a else a.map (·.add (l * s))) (len - l) (cap - l)) := fun ρ hρ w => by
  obtain ⟨i, hu, hi, rfl⟩ := slE_und hT
  have hb2 : ∀ c w, (Instr.sliceBound (.int k2 (l : Int)) len c).run P w = .ok l w := fun c w => by rw [run_bound (by omega)]; simp
  simp only [execOp, hρ _ _ hx, hρ _ _ hz, Option.map_none, Option.map_some, Instr.sliceAt, Instr.slice, Sem.run_bind, run_underlying hu, Result.andThen, Sem.run_pure, Instr.sliceBounds, hb2, sizeOf, typeInfo, program, hi, Sem.run]
theorem PE.indexS {T : TypeId} {x y : Operand} {k : IntKind} {s : ByteArray} {i m : Nat} (hT : isStr P T = true) (hx : ev L x = some (.string s)) (hy : ev L y = some (.int k i)) (hz : s.size = m) (hi : i < m) :
    ∃ v, PE P L ⟨d, .index T x y, ty, pos, af, g⟩ v ∧ U8 v := by
  have hu : P.underlying T = some .string := by
    unfold isStr at hT
    split at hT
    · assumption
    · cases hT
  refine ⟨.int .u8 (s[i]'(by omega)).toNat, fun ρ hρ w => ?_, _, rfl, by omega, ?_⟩
  · have e1 : s[i]? = some (s[i]'(by omega)) := getElem?_pos s i (by omega)
    simp only [execOp, hρ _ _ hx, hρ _ _ hy, Instr.index, asIntOf, Sem.run_bind, Sem.run_pure, run_underlying hu, Result.andThen]
    rw [if_pos (by omega), Int.toNat_natCast, e1]
    rfl
  · have := UInt8.toNat_lt (s[i]'(by omega)); omega
end pe
theorem run_storeA {P : Program} {b e od : Nat} {l vs : List Value} (h1 : vs.all (·.oneCell') = true) (hb : od + vs.length ≤ l.length) {w : World} (h : w.heap[b]? = some (cel e l)) :
    (storeCells ⟨b, od, none⟩ vs).run P w = .ok () { w with heap := w.heap.setIfInBounds b (cel e (spl l od vs)) } := by
  have := run_storeCells_at (P := P) b od e vs 0 l.toArray w h (by simpa using hb) (fun x hx => List.all_eq_true.1 h1 x hx)
  rw [setRow_cells h] at this
  simpa [spl] using this
section steps
variable {P : Program} {r : Option Nat} {ops : Array Oper} {n : Nat} {L : Slots} {D : List Deferred} {H : Heap} {R : Facts} {K : Act → World → Prop}
  {i d : Nat} {ty : TypeId} {pos : String} {af : Array Edge}
theorem cpyA {T T2 e s : Nat} {x y : Operand} {b od bs os dl dc sl sc e2 : Nat} {l : List Value} (cs : List Value) {H' : Heap}
    (ho : ops[i]? = some ⟨some d, .call { callee := .builtin .copy, args := #[x, y], argTypes := #[T, T2] }, ty, pos, af, none⟩) (hT : slE P T = some (e, s))
    (hx : ev L x = some (.slice (some ⟨b, od, none⟩) dl dc)) (hy : ev L y = some (.slice (some ⟨bs, os, none⟩) sl sc)) (hn : cs.length = Nat.min sl dl * s)
    (hsrc : ∀ w, St H R w → ∀ j v, cs[j]? = some v → w.cell? ⟨bs, os + j, none⟩ = some v) (h1 : cs.all (·.oneCell') = true) (hb : od + cs.length ≤ l.length) (hd : Nat.blt d n = true)
    [m : Mem1 b (cel e2 l) H] [rp : Rep [(b, cel e2 l)] [(b, cel e2 (spl l od cs))] H H']
    (h : Sy n ((d, .int .i64 (Nat.min sl dl : Nat)) :: L) D H' R K) : Sy n L D H R (stp P r ops i K) := fun a w ha hD hs => by
  obtain ⟨ie, hu, hi, rfl⟩ := slE_und hT
  have hl := run_loadCells_list (P := P) w ⟨bs, os, none⟩ cs (fun j v hj => by rw [addr_add]; exact hsrc w hs j v hj)
  have hst := run_storeA (P := P) (e := e2) h1 hb (hs.held _ m.mem)
  refine stp_value ho (wanted_none _ rfl _) (v := .int .i64 (Nat.min sl dl : Nat)) (w' := { w with heap := w.heap.setIfInBounds b (cel e2 (spl l od cs)) }) ?_
    (h _ _ (ha.put (by simpa using hd) _) hD (hs.rep (F := [(b, cel e2 l)]) (F' := [(b, cel e2 (spl l od cs))]) fun T hT => St.set hT))
  simp only [execOp, resolve, invoke, builtin, Sem.run_bind, Sem.run_pure, Result.andThen, List.map_toArray, List.map_cons, List.map_nil, ha.reads _ _ hx, ha.reads _ _ hy]
  have e1 : (Builtin.copy_ #[T, T2] ty #[.slice (some ⟨b, od, none⟩) dl dc, .slice (some ⟨bs, os, none⟩) sl sc]).run P w = .ok (goInt (Nat.min sl dl : Nat)) { w with heap := w.heap.setIfInBounds b (cel e2 (spl l od cs)) } := by
    simp [Builtin.copy_, run_underlying hu, Builtin.lenOf, Builtin.firstCells, sizeOf, typeInfo, hi, ← hn, hl, hst]
  rw [e1]
  rfl
theorem heldAt {b e2 os : Nat} {l cs : List Value} [m : Mem1 b (cel e2 l) H] (hc : ∀ j v, cs[j]? = some v → l[os + j]? = some v) : ∀ w, St H R w → ∀ j v, cs[j]? = some v → w.cell? ⟨b, os + j, none⟩ = some v := fun w hs j v hj => by
  rw [cell_of (hs.held _ m.mem)]
  simpa using hc j v hj
theorem apZ {t tn e sz by_ b i' cap k e2 : Nat} {kq kn : IntKind} {s x : Operand} {l zl : List Value} (ho : ops[i]? = some ⟨some d, .call { callee := .builtin .append, args := #[s, x], argTypes := #[t, tn] }, ty, pos, af, none⟩)
    (ht : apT P t = some (e, sz, by_)) (htn : intK P tn = some kn) (hz : zeroL P e = some zl) (hs : ev L s = some (.slice (some ⟨b, 0, none⟩) i' cap)) (hx : ev L x = some (.int kq k))
    (hk : 0 < k) (hs0 : 0 < sz) (hg : cap < i' + k) (hb : (i' + k) * by_ ≤ 140737488355328 ∧ i' + k ≤ 9223372036854775807) (hl : i' * sz ≤ l.length) (hd : Nat.blt d n = true) [m : Mem1 b (cel e2 l) H]
    (h : ∀ (b' cap' : Nat) (junk : List Value), i' + k ≤ cap' → cap' ≤ 9223372036854775807 → (i' + k) * sz + junk.length = cap' * sz → Sy n ((d, .slice (some ⟨b', 0, none⟩) (i' + k) cap') :: L) D ((b', cel e (l.take (i' * sz) ++ (repl k zl ++ junk))) :: H) R K) : Sy n L D H R (stp P r ops i K) := fun a w ha hD hw => by
  unfold apT at ht
  split at ht
  case h_2 => cases ht
  rename_i e' hu
  split at ht
  case h_2 => cases ht
  rename_i ie hi
  split at ht
  case h_2 => cases ht
  rename_i z hzz
  cases hzs : Nat.beq z.cells.size ie.size with
  | false => rw [hzs] at ht; cases ht
  | true =>
  rw [hzs, cond_true] at ht
  cases ht
  have hzs := Nat.eq_of_beq_eq_true hzs
  have hzl : z.cells.toList = zl := by
    have : zeroL P e = some z.cells.toList := by simp [zeroL, hi, hzz]
    rw [this] at hz; exact Option.some.inj hz
  have hun : P.underlying tn = some (.int kn) := by
    unfold intK at htn
    split at htn
    · rename_i q hq; cases htn; exact hq
    · cases htn
  have hcs : (l.take (i' * ie.size)).length = i' * ie.size := by rw [List.length_take]; omega
  have hold : (Builtin.firstCells ie.size i' (.slice (some ⟨b, 0, none⟩) i' cap)).run P w.drew = .ok (l.take (i' * ie.size)).toArray w.drew := by
    have h1 := run_loadCells_list (P := P) w.drew ⟨b, 0, none⟩ (l.take (i' * ie.size)) (fun j v hj => by
      rw [addr_add, cell_of (hw.drew.held _ m.mem)]
      rw [List.getElem?_take] at hj
      split at hj
      · simpa using hj
      · cases hj)
    rw [hcs] at h1
    exact h1
  have hq : k * ie.bytes ≤ (i' + k) * ie.bytes := Nat.mul_le_mul_right _ (by omega)
  have h2 := Lib.run_append_grow_zeros (P := P) w t tn ty e ie z kq kn hu hun hi hzz (some ⟨b, 0, none⟩) i' cap (l.take (i' * ie.size)) hold k hk hs0 hg (by omega) (by omega) (growslice_fits hg hb.1)
  have hge := grownCap_ge w (i' + k) cap e
  have hcm : grownCap w (i' + k) cap e ≤ maxLen := grownCap_le_maxLen w _ cap e (by simp only [maxLen]; omega)
  have hrep : ∀ q, (Builtin.zeroCells z.cells q).toList = repl q zl := fun q => by rw [← hzl]; simp [Builtin.zeroCells, repl]
  have e1 : (.cells ((l.take (i' * ie.size)).toArray ++ Builtin.zeroCells z.cells k ++ Builtin.zeroCells z.cells (grownCap w (i' + k) cap e - (i' + k))) e : Obj) = cel e (l.take (i' * ie.size) ++ (repl k zl ++ (Builtin.zeroCells z.cells (grownCap w (i' + k) cap e - (i' + k))).toList)) := by
    unfold cel; congr 1; apply Array.toList_inj.1; simp [hrep]
  refine stp_value ho (wanted_none _ rfl _) (v := .slice (some ⟨w.heap.size, 0, none⟩) (i' + k) (grownCap w (i' + k) cap e)) (w' := w.drew.alloc (cel e (l.take (i' * ie.size) ++ (repl k zl ++ (Builtin.zeroCells z.cells (grownCap w (i' + k) cap e - (i' + k))).toList)))) ?_
    (h w.heap.size (grownCap w (i' + k) cap e) (Builtin.zeroCells z.cells (grownCap w (i' + k) cap e - (i' + k))).toList hge (by simp only [maxLen] at hcm; omega) ?_ _ _ (ha.put (by simpa using hd) _) hD (hw.drew.alloc _))
  · simp only [execOp, resolve, invoke, builtin, Sem.run_bind, Sem.run_pure, Result.andThen, List.map_toArray, List.map_cons, List.map_nil, ha.reads _ _ hs, ha.reads _ _ hx]
    rw [e1] at h2
    rw [h2]
  · simp only [Array.length_toList, size_zeroCells, hzs, ← Nat.add_mul]
    congr 1; omega
theorem clX {f : FuncId} {xs : List Operand} {vs : List Value} {ts : Array TypeId} {v : Value}
    (ho : ops[i]? = some ⟨some d, .call { callee := .value (.func f), args := xs.toArray, argTypes := ts }, ty, pos, af, none⟩) (hd : Nat.blt d n = true) (hx : evs L xs = some vs)
    (hc : ∀ w, St H R w → (callFunc f vs.toArray).run P w = .ok (.value v) w) (h : Sy n ((d, v) :: L) D H R K) : Sy n L D H R (stp P r ops i K) := fun a w ha hD hs => by
  refine stp_value ho (wanted_none _ rfl _) (v := v) (w' := w) ?_ (h _ _ (ha.put (by simpa using hd) _) hD hs)
  have e : xs.toArray.map a.eval = vs.toArray := by rw [List.map_toArray, evs_map ha.reads _ _ hx]
  have e2 : a.eval (.func f) = .func (.func f) #[] #[] := ha.reads (.func f) _ rfl
  simp only [execOp, resolve, e2, Deferred.ofValue, e, Sem.run_bind, Sem.run_pure, Result.andThen, invoke]
  simpa using hc w hs
theorem clrA {T e s : Nat} {x : Operand} {b od k c e2 : Nat} {l z : List Value} {H' : Heap} {dd : Option Nat} (ho : ops[i]? = some ⟨dd, .call { callee := .builtin .clear, args := #[x], argTypes := #[T] }, ty, pos, af, none⟩) (hdd : dd = none) (hT : slE P T = some (e, s))
    (hz : zeroL P e = some z) (hzs : z.length = s) (hz1 : z.all (·.oneCell') = true) (hx : ev L x = some (.slice (some ⟨b, od, none⟩) k c)) (hb : od + k * s ≤ l.length)
    [m : Mem1 b (cel e2 l) H] [rp : Rep [(b, cel e2 l)] [(b, cel e2 (spl l od (repl k z)))] H H'] (h : Sy n L D H' R K) : Sy n L D H R (stp P r ops i K) := fun a w ha hD hs => by
  subst hdd
  obtain ⟨ie, hu, hi, rfl⟩ := slE_und hT
  obtain ⟨zv, hzv1, hzv2⟩ := run_zero hz
  have hlz : ∀ r ∈ List.replicate k z, r.length = ie.size := fun r hr => by rw [(List.mem_replicate.1 hr).2]; exact hzs
  have hr : (repl k z).length = k * ie.size := by rw [← flat_repl, flat_len hlz]; simp
  have hst := run_storeA (P := P) (e := e2) (l := l) (vs := repl k z) (by
    rw [← flat_repl]
    refine List.all_eq_true.2 fun v hv => ?_
    obtain ⟨q, hq, hvq⟩ := List.mem_flatten.1 hv
    rw [(List.mem_replicate.1 hq).2] at hvq
    exact List.all_eq_true.1 hz1 v hvq) (by rw [hr]; exact hb) (hs.held _ m.mem)
  have hzc : (Builtin.zeroCells zv.cells k).toList = repl k z := by rw [hzv1]; simp [Builtin.zeroCells, repl]
  refine stp_value ho (wanted_none _ rfl _) (v := .tuple #[]) (w' := { w with heap := w.heap.setIfInBounds b (cel e2 (spl l od (repl k z))) }) ?_ (h _ _ (ha.putNone _) hD (hs.rep (F := [(b, cel e2 l)]) (F' := [(b, cel e2 (spl l od (repl k z)))]) fun T hT => St.set hT))
  simp only [execOp, resolve, invoke, builtin, Sem.run_bind, Sem.run_pure, Result.andThen, List.map_toArray, List.map_cons, List.map_nil, ha.reads _ _ hx]
  have e3 : (Builtin.clear_ #[T] ty #[.slice (some ⟨b, od, none⟩) k c]).run P w = .ok (.tuple #[]) { w with heap := w.heap.setIfInBounds b (cel e2 (spl l od (repl k z))) } := by
    rcases Nat.eq_zero_or_pos k with h0 | h0
    · subst h0
      have h4 : spl l od (repl 0 z) = l := by simp [spl, repl]
      have h5 : w.heap.setIfInBounds b (cel e2 l) = w.heap := by
        apply Array.ext_getElem?
        intro j
        by_cases e : b = j
        · subst e
          have hlt : b < w.heap.size := hs.lt (mem_ids m.mem)
          rw [Array.getElem?_setIfInBounds_self_of_lt hlt]; exact (hs.held _ m.mem).symm
        · rw [Array.getElem?_setIfInBounds_ne e]
      rw [h4, h5]
      simp [Builtin.clear_, run_underlying hu]
    · obtain ⟨q, rfl⟩ : ∃ q, k = q + 1 := ⟨k - 1, by omega⟩
      simp only [Builtin.clear_, Sem.run_bind, run_underlying hu, Result.andThen, hzv2, hzc, hst, Sem.run_pure, List.getElem?_toArray, List.getElem?_cons_zero]
  rw [e3]
end steps
section dag
variable {P : Program} {r : Option Nat} {ops : Array Oper} {bm : List Nat} {X : Act → World → Prop} {n : Nat} {L : Slots} {D : List Deferred} {H : Heap} {R : Facts} {p : Plan} {pend : Pend}
end dag
theorem run_ovl {P : Program} {tS tR e f : Nat} {fn : Func} (hf : P.funcs[f]? = some fn) (h1 : (fn.name == "runtime.NumGoroutine") = false) (h2 : fn.body.isNone = true) (h3 : Extern.findNext fn = none) (h4 : Extern.find fn = some (Extern.SlicesOverlaps.overlaps #[tS, tS] #[tR]))
    {s : Nat} (hT : slE P tS = some (e, s)) {a b oa ob la ca lb cb eA eB : Nat} {xa xb : List Value} (hne : a ≠ b) (hb0 : xb ≠ []) {w : World} (hA : w.heap[a]? = some (cel eA xa)) (hB : w.heap[b]? = some (cel eB xb)) :
    (callFunc f #[.slice (some ⟨a, oa, none⟩) la ca, .slice (some ⟨b, ob, none⟩) lb cb]).run P w = .ok (.value (.bool false)) w := by
  obtain ⟨i, hu, hi, hs⟩ := slE_und hT
  rw [run_callFunc_extern hf h1 h2 h3 (e := Extern.SlicesOverlaps.overlaps #[tS, tS] #[tR]) h4,
    Lib.run_overlaps_apart w tS tR e hu s (fun w => by rw [← hs]; exact run_size (by rw [hi]; rfl) w) ⟨a, oa, none⟩ ⟨b, ob, none⟩ la ca lb cb hne eA eB xa.length xb.length
      (by simp [World.shape?, hA, cel]) (by simp [World.shape?, hB, cel]) (by simpa using hb0) (by simp [World.frozen?, hA, cel]) (by simp [World.frozen?, hA, cel])]
  rfl
end Go.Proofs.YtknoaljnelfklaaGreat
namespace Go.Proofs.YtknoaljnelfklaaGreat
set_option linter.unusedSimpArgs false
set_option linter.unusedVariables false
open Go
theorem cal88 : cal Tryz.prog 88 = true := by kernel_rfl
theorem agr_iff {miss : Int} (hm : 0 ≤ miss) {hs : List Hnd} (hh : ∀ h ∈ hs, h.ok) (f : Nat → Bool) : agr miss hs f = true ↔ ∃ m, Mxt m ∧ ∀ i h, hs[i]? = some h → f i = true → fitB miss h m = true := by
  unfold agr
  cases hc : clo (boxF miss hs f) with
  | none =>
    constructor
    · intro h; cases h
    · rintro ⟨m, h1, h2⟩
      exact absurd ((boxF_mx hm hh f m).2 ⟨h1, h2⟩) (clo_none (boxF_ok _ _ _) hc m)
  | some b =>
    obtain ⟨h3, h4⟩ := clo_some (boxF_ok _ _ _) hc
    exact ⟨fun _ => ⟨_, (boxF_mx hm hh f _).1 ((h4 _).1 (mixt_mx h3))⟩, fun _ => rfl⟩
theorem agr_less {miss : Int} (hm : 0 ≤ miss) {hs hs' : List Hnd} (hh : ∀ h ∈ hs, h.ok) (hh' : ∀ h ∈ hs', h.ok) {f f' : Nat → Bool} (h : ∀ j x, hs'[j]? = some x → f' j = true → ∃ i, hs[i]? = some x ∧ f i = true) (ha : agr miss hs f = true) : agr miss hs' f' = true := by
  obtain ⟨m, h1, h2⟩ := (agr_iff hm hh f).1 ha
  exact (agr_iff hm hh' f').2 ⟨m, h1, fun j x hj hf => by obtain ⟨i, hi, hfi⟩ := h j x hj hf; exact h2 i x hi hfi⟩
theorem clo_same {miss : Int} (hm : 0 ≤ miss) {hs hs' : List Hnd} (hh : ∀ h ∈ hs, h.ok) (hh' : ∀ h ∈ hs', h.ok) (h : ∀ x, x ∈ hs ↔ x ∈ hs') : clo (boxF miss hs fun _ => true) = clo (boxF miss hs' fun _ => true) := by
  have hmx : ∀ m, Mx (boxF miss hs fun _ => true) m ↔ Mx (boxF miss hs' fun _ => true) m := fun m => by
    rw [boxF_mx hm hh, boxF_mx hm hh']
    constructor
    · rintro ⟨h1, h2⟩
      exact ⟨h1, fun i x hi _ => by obtain ⟨j, hj⟩ := List.getElem?_of_mem ((h x).2 (List.mem_of_getElem? hi)); exact h2 j x hj rfl⟩
    · rintro ⟨h1, h2⟩
      exact ⟨h1, fun i x hi _ => by obtain ⟨j, hj⟩ := List.getElem?_of_mem ((h x).1 (List.mem_of_getElem? hi)); exact h2 j x hj rfl⟩
  cases hb : clo (boxF miss hs fun _ => true) with
  | none =>
    cases hb' : clo (boxF miss hs' fun _ => true) with
    | none => rfl
    | some b' =>
      obtain ⟨h3, h4⟩ := clo_some (boxF_ok _ _ _) hb'
      exact absurd ((hmx _).2 ((h4 _).1 (mixt_mx h3))) (clo_none (boxF_ok _ _ _) hb _)
  | some b =>
    obtain ⟨h3, h4⟩ := clo_some (boxF_ok _ _ _) hb
    cases hb' : clo (boxF miss hs' fun _ => true) with
    | none => exact absurd ((hmx _).1 ((h4 _).1 (mixt_mx h3))) (clo_none (boxF_ok _ _ _) hb' _)
    | some b' =>
      obtain ⟨h3', h4'⟩ := clo_some (boxF_ok _ _ _) hb'
      congr 1
      refine box_ext h3.ok.len h3'.ok.len fun k hk => ?_
      have h5 := mx_less h3' (fun m h => (h4 m).2 ((hmx m).2 ((h4' m).1 h))) hk
      have h6 := mx_less h3 (fun m h => (h4' m).2 ((hmx m).1 ((h4 m).1 h))) hk
      omega
theorem find_range {α : Type} {f : Nat → Option α} : ∀ (n s : Nat) {x : α}, (List.range' s n).findSome? f = some x → ∃ k, s ≤ k ∧ k < s + n ∧ f k = some x ∧ ∀ j, s ≤ j → j < k → f j = none
  | 0, s, x, h => by simp at h
  | n + 1, s, x, h => by
    rw [List.range'_succ, List.findSome?_cons] at h
    cases hf : f s with
    | some y => rw [hf] at h; obtain rfl := Option.some.inj h; exact ⟨s, by omega, by omega, hf, fun j h1 h2 => by omega⟩
    | none =>
      rw [hf] at h
      obtain ⟨k, h1, h2, h3, h4⟩ := find_range n (s + 1) h
      exact ⟨k, by omega, by omega, h3, fun j h5 h6 => by
        rcases Nat.eq_or_lt_of_le h5 with rfl | h7
        · exact hf
        · exact h4 j (by omega) h6⟩
theorem more_some {ag : List Int → Bool} {n : Nat} : ∀ {r fr : Nat} {l x : List Int}, moreS ag n r l fr = some x → x.length = l.length + r ∧ ag x = false ∧ ∃ y, x = l ++ y ∧ ∀ v ∈ y, ∃ j : Nat, v = j ∧ j < n
  | 0, fr, l, x, h => by
    unfold moreS at h
    cases ha : ag l with
    | true => rw [ha] at h; cases h
    | false => rw [ha] at h; obtain rfl := Option.some.inj h; exact ⟨rfl, ha, [], by simp, by simp⟩
  | r + 1, fr, l, x, h => by
    unfold moreS at h
    obtain ⟨i, hi, h1⟩ := List.exists_of_findSome?_eq_some h
    rw [List.mem_range'_1] at hi
    obtain ⟨h2, h3, y, rfl, hy⟩ := more_some h1
    refine ⟨by simp only [List.length_append, List.length_singleton] at h2 ⊢; omega, h3, (i : Int) :: y, by simp, fun v hv => ?_⟩
    rcases List.mem_cons.1 hv with rfl | hv
    · exact ⟨i, rfl, by omega⟩
    · exact hy v hv
theorem more_no {ag : List Int → Bool} {n : Nat} : ∀ (y : List Nat) {fr : Nat} {l : List Int}, moreS ag n y.length l fr = none → y.Pairwise (· < ·) → (∀ j ∈ y, fr ≤ j ∧ j < n) → ag (l ++ y.map fun (j : Nat) => (j : Int)) = true
  | [], fr, l, h, _, _ => by
    simp only [List.length_nil, moreS] at h
    cases ha : ag l with
    | true => simpa using ha
    | false => rw [ha] at h; cases h
  | j :: y, fr, l, h, hp, hb => by
    rw [List.length_cons, moreS, List.findSome?_eq_none_iff] at h
    have hj := hb j (by simp)
    have h1 := h j (List.mem_range'_1.2 ⟨hj.1, by omega⟩)
    obtain ⟨h2, h3⟩ := List.pairwise_cons.1 hp
    have h4 := more_no y h1 h3 (fun i hi => ⟨h2 i hi, (hb i (by simp [hi])).2⟩)
    simpa using h4
theorem nodup_len {α : Type} [DecidableEq α] : ∀ {l l' : List α}, l.Nodup → (∀ x ∈ l, x ∈ l') → l.length ≤ l'.length
  | [], _, _, _ => Nat.zero_le _
  | x :: l, l', hn, hs => by
    obtain ⟨h1, h2⟩ := List.nodup_cons.1 hn
    have hx := hs x (by simp)
    have h3 := nodup_len (l := l) (l' := l'.erase x) h2 (fun y hy => (List.mem_erase_of_ne (fun e => h1 (by rw [← e]; exact hy))).2 (hs y (by simp [hy])))
    have h4 := List.length_erase_of_mem hx
    have h5 := List.length_pos_of_mem hx
    simp only [List.length_cons]; omega
theorem pick_all {α β : Type} {P : α → β → Prop} : ∀ (x : List α), (∀ i ∈ x, ∃ j, P i j) → ∃ J : List β, J.length = x.length ∧ ∀ i ∈ x, ∃ j ∈ J, P i j
  | [], _ => ⟨[], rfl, by simp⟩
  | a :: x, h => by
    obtain ⟨j, hj⟩ := h a (by simp)
    obtain ⟨J, h1, h2⟩ := pick_all x (fun i hi => h i (by simp [hi]))
    refine ⟨j :: J, by simp [h1], fun i hi => ?_⟩
    rcases List.mem_cons.1 hi with rfl | hi
    · exact ⟨j, by simp, hj⟩
    · obtain ⟨j', h3, h4⟩ := h2 i hi; exact ⟨j', by simp [h3], h4⟩
theorem clash_le {miss : Int} (hm : 0 ≤ miss) {hs hs' : List Hnd} (hh : ∀ h ∈ hs, h.ok) (hh' : ∀ h ∈ hs', h.ok) (h : ∀ x ∈ hs, x ∈ hs') {x x' : List Int} (hx : clashS (agL miss hs) hs.length = some x) (hx' : clashS (agL miss hs') hs'.length = some x') : x'.length ≤ x.length := by
  obtain ⟨k, k1, k2, k3, _⟩ := find_range _ _ hx
  obtain ⟨k', k1', k2', k3', k4'⟩ := find_range _ _ hx'
  obtain ⟨e1, e2, y, ey, hy⟩ := more_some k3
  rw [List.nil_append] at ey
  subst ey
  have e1' := (more_some k3').1
  obtain ⟨J, hJ, hJ2⟩ := pick_all (P := fun (v : Int) (j : Nat) => j < hs'.length ∧ hs'[j]? = hs[v.toNat]?) x (fun v hv => by
    obtain ⟨i, rfl, hi⟩ := hy v hv
    obtain ⟨j, hj⟩ := List.getElem?_of_mem (h _ (List.getElem_mem hi))
    exact ⟨j, (List.getElem?_eq_some_iff.1 hj).1, by rw [Int.toNat_natCast, hj, List.getElem?_eq_getElem hi]⟩)
  obtain ⟨z, hze⟩ : ∃ z, z = (List.range hs'.length).filter (fun j => decide (j ∈ J)) := ⟨_, rfl⟩
  have hzn : ∀ j ∈ z, j < hs'.length := fun j hj => by rw [hze] at hj; exact List.mem_range.1 (List.mem_filter.1 hj).1
  have hzp : z.Pairwise (· < ·) := by rw [hze]; exact List.pairwise_lt_range.filter _
  have hz : z.length ≤ x.length := by
    rw [← hJ]
    exact nodup_len (hzp.imp (fun h => Nat.ne_of_lt h)) (fun j hj => by rw [hze] at hj; exact of_decide_eq_true (List.mem_filter.1 hj).2)
  have hag : agL miss hs' (z.map fun (j : Nat) => (j : Int)) = false := by
    cases hc : agL miss hs' (z.map fun (j : Nat) => (j : Int)) with
    | false => rfl
    | true =>
      have h9 := agr_less hm hh' hh (f := flt (z.map fun (j : Nat) => (j : Int))) (f' := flt x) (fun i q hq hf => by
        obtain ⟨v, hv, he⟩ := List.any_eq_true.1 hf
        have he := of_decide_eq_true he
        obtain ⟨j, hj, h1, h2⟩ := hJ2 v hv
        refine ⟨j, by rw [h2, ← he]; simpa using hq, ?_⟩
        exact List.any_eq_true.2 ⟨(j : Int), List.mem_map.2 ⟨j, by rw [hze]; exact List.mem_filter.2 ⟨List.mem_range.2 h1, by simpa using hj⟩, rfl⟩, by simp⟩) hc
      rw [show agr miss hs (flt x) = false from e2] at h9; cases h9
  false_or_by_contra
  rename_i hlt
  have h2 : 1 ≤ z.length := by
    rcases Nat.eq_zero_or_pos z.length with h0 | h0
    · have h1 := List.eq_nil_of_length_eq_zero h0
      rw [h1] at hag
      have h9 : agr miss hs' (flt []) = true := (agr_iff hm hh' _).2 ⟨[40, 0, 0, 0], ⟨rfl, by decide, of4 ⟨by decide, by decide, by decide, by decide⟩⟩, fun i q _ hf => by simp [flt] at hf⟩
      rw [show agr miss hs' (flt []) = false from hag] at h9; cases h9
    · exact h0
  have e1'' : x'.length = k' := by simpa using e1'
  have h3 := k4' z.length h2 (by omega)
  have h4 := more_no z h3 hzp (fun j hj => ⟨Nat.zero_le _, hzn j hj⟩)
  rw [List.nil_append, hag] at h4; cases h4
structure TwcP (g : Gat) (c d : Crt) : Prop where
  tol : toldE g d false = toldE g c false
  bnd : bndB g d = bndB g c
  can : canR g d = canR g c
  cl1 : (claR g d).1.length = (claR g c).1.length
  cl2 : (claR g d).2 = (claR g c).2
  top : topB g.miss d.hs = topB g.miss c.hs
  bc : bothE g c = 0
  bd : bothE g d = 0
  bl : (bndB g c).length = 8
theorem spot_iff {hs : List Hnd} {s : Int} {i : Nat} {x : Hnd} (hi : hs[i]? = some x) : (match hs[i]? with | some h => decide (h.spot = s) | none => false) = decide (x.spot = s) := by rw [hi]
theorem twc {g : Gat} {c d : Crt} (hg : g.ok) (hc : c.ok) (hd : d.ok) (h : ∀ x, x ∈ c.hs ↔ x ∈ d.hs) : TwcP g c d := by
  have hb : bothE g c = 0 := by simp [bothE, gat_ok.2 hg, crt_ok.2 hc]
  have hb' : bothE g d = 0 := by simp [bothE, gat_ok.2 hg, crt_ok.2 hd]
  have hm := hg.miss
  have h1 := clo_same hm.1 hc.hs hd.hs h
  have ht : toldE g d false = toldE g c false := by unfold toldE; rw [hb, hb', h1]
  have hbn : bndB g d = bndB g c := by unfold bndB; rw [ht, h1]
  have ha : agr g.miss d.hs (fun _ => true) = agr g.miss c.hs (fun _ => true) := by unfold agr; rw [h1]
  have hsp : ∀ s : Int, agr g.miss c.hs (fun i => match c.hs[i]? with | some h => decide (h.spot = s) | none => false) = agr g.miss d.hs (fun i => match d.hs[i]? with | some h => decide (h.spot = s) | none => false) := fun s => by
    rw [Bool.eq_iff_iff]
    constructor
    · exact agr_less hm.1 hc.hs hd.hs (fun j x hj hf => by
        obtain ⟨i, hi⟩ := List.getElem?_of_mem ((h x).2 (List.mem_of_getElem? hj))
        exact ⟨i, hi, by rw [spot_iff hi, ← spot_iff (s := s) hj]; exact hf⟩)
    · exact agr_less hm.1 hd.hs hc.hs (fun j x hj hf => by
        obtain ⟨i, hi⟩ := List.getElem?_of_mem ((h x).1 (List.mem_of_getElem? hj))
        exact ⟨i, hi, by rw [spot_iff hi, ← spot_iff (s := s) hj]; exact hf⟩)
  have hcl : (claR g d).1.length = (claR g c).1.length ∧ (claR g d).2 = (claR g c).2 := by
    unfold claR
    rw [hb, hb', ha]
    cases hag : agr g.miss c.hs (fun _ => true) with
    | true => exact ⟨rfl, rfl⟩
    | false =>
      have hx := clash_hit hag
      have hx' := clash_hit (ha.trans hag)
      have h2 := clash_le hm.1 hc.hs hd.hs (fun x hx => (h x).1 hx) hx hx'
      have h3 := clash_le hm.1 hd.hs hc.hs (fun x hx => (h x).2 hx) hx' hx
      exact ⟨Nat.le_antisymm h2 h3, rfl⟩
  refine ⟨ht, hbn, by unfold canR; rw [ht, hbn], hcl.1, hcl.2, ?_, hb, hb', ?_⟩
  · unfold topB
    rw [ha]
    congr 1
    exact congrArg (fun f => (List.range 3).all f) (funext fun s => (hsp s).symm)
  · unfold bndB
    cases hcl : clo (boxF g.miss c.hs fun _ => true) with
    | none => cases decide (toldE g c false ≠ 0) <;> rfl
    | some b =>
      have := (clo_some (boxF_ok _ _ _) hcl).1.ok.len
      cases decide (toldE g c false ≠ 0)
      · exact this
      · rfl
structure Ord (p : List Nat) (n : Nat) : Prop where
  len : p.length = n
  nd : p.Nodup
  lt : ∀ i ∈ p, i < n
theorem Ord.nil : Ord [] 0 := ⟨rfl, List.nodup_nil, by simp⟩
theorem Ord.ins {p : List Nat} {n j : Nat} (h : Ord p n) (hj : j ≤ n) : Ord (p.take j ++ n :: p.drop j) (n + 1) := by
  have hp : (p.take j ++ n :: p.drop j).Perm (n :: p) := by
    have h1 := List.perm_middle (a := n) (l₁ := p.take j) (l₂ := p.drop j)
    rwa [List.take_append_drop] at h1
  refine ⟨by rw [hp.length_eq]; simp [h.len], hp.nodup_iff.2 (List.nodup_cons.2 ⟨fun h1 => Nat.lt_irrefl _ (h.lt n h1), h.nd⟩), fun i hi => ?_⟩
  rcases List.mem_cons.1 (hp.mem_iff.1 hi) with rfl | h1
  · omega
  · have := h.lt i h1; omega
structure Wrt (hs dl : List Hnd) (p : List Nat) (k : Nat) : Prop where
  len : dl.length = hs.length
  at_ : ∀ i < k, ∀ j, p[i]? = some j → dl[j]? = hs[i]?
  sub : ∀ x ∈ dl, x ∈ hs
theorem Wrt.start (hs : List Hnd) (p : List Nat) : Wrt hs hs p 0 := ⟨rfl, fun i hi => by omega, fun _ h => h⟩
theorem Wrt.more {hs dl : List Hnd} {p : List Nat} {k j : Nat} {x : Hnd} (h : Wrt hs dl p k) (hp : Ord p hs.length) (hj : p[k]? = some j) (hx : hs[k]? = some x) : Wrt hs (dl.set j x) p (k + 1) := by
  have hjl := hp.lt j (List.mem_of_getElem? hj)
  refine ⟨by simp [h.len], fun i hi q hq => ?_, fun y hy => ?_⟩
  · rw [List.getElem?_set]
    by_cases hqj : j = q
    · subst hqj
      have hik : i = k := by
        have h1 := (List.getElem?_eq_some_iff.1 hq).1
        have h2 := (List.getElem?_eq_some_iff.1 hj).1
        have e1 := (List.getElem?_eq_some_iff.1 hq).2
        have e2 := (List.getElem?_eq_some_iff.1 hj).2
        have hnd := List.pairwise_iff_getElem.1 hp.nd
        rcases Nat.lt_trichotomy i k with h3 | h3 | h3
        · exact absurd (e1.trans e2.symm) (hnd i k h1 h2 h3)
        · exact h3
        · exact absurd (e2.trans e1.symm) (hnd k i h2 h1 h3)
      subst hik
      rw [if_pos rfl, if_pos (by rw [h.len]; exact hjl), hx]
    · rw [if_neg hqj]
      have hik : i ≠ k := fun e => by subst e; rw [hj] at hq; exact hqj (Option.some.inj hq)
      exact h.at_ i (by omega) q hq
  · rcases List.mem_or_eq_of_mem_set hy with h1 | rfl
    · exact h.sub y h1
    · exact List.mem_of_getElem? hx
theorem Wrt.done {hs dl : List Hnd} {p : List Nat} (h : Wrt hs dl p hs.length) (hp : Ord p hs.length) (x : Hnd) : x ∈ hs ↔ x ∈ dl := by
  refine ⟨fun hx => ?_, h.sub x⟩
  obtain ⟨i, hi⟩ := List.getElem?_of_mem hx
  have hil := (List.getElem?_eq_some_iff.1 hi).1
  have h1 := h.at_ i hil (p[i]'(by rw [hp.len]; exact hil)) (List.getElem?_eq_getElem _)
  rw [hi] at h1
  exact List.mem_of_getElem? h1
theorem spl_at {p q s vs : List Value} (h : q.length = vs.length) : spl (p ++ (q ++ s)) p.length vs = p ++ (vs ++ s) := by
  unfold spl
  rw [List.take_left, show p.length + vs.length = (p ++ q).length by simp [h], ← List.append_assoc p q s, List.drop_left, List.append_assoc]
theorem cut_at {α : Type} {xs : List α} {i : Nat} (hi : i < xs.length) : ∃ A y B, xs = A ++ y :: B ∧ i = A.length := ⟨xs.take i, xs[i], xs.drop (i + 1), by rw [← List.drop_eq_getElem_cons hi, List.take_append_drop], by rw [List.length_take]; omega⟩
theorem spl_ins {xs : List Int} {rest : List Value} {i : Nat} {x : Int} (hi : i < xs.length) (hr : 1 ≤ rest.length) : spl (spl (ints xs ++ rest) (0 + (i + 1) * 1) (ints (xs.drop i))) (0 + i * 1) [.int .i64 x] = ints (xs.take i ++ x :: xs.drop i) ++ rest.drop 1 := by
  rw [show 0 + (i + 1) * 1 = i + 1 from by omega, show 0 + i * 1 = i from by omega]
  obtain ⟨A, y, B, rfl, rfl⟩ := cut_at hi
  obtain ⟨r0, r, rfl⟩ : ∃ r0 r, rest = r0 :: r := by cases rest with
    | nil => simp at hr
    | cons a b => exact ⟨a, b, rfl⟩
  rw [List.drop_left, List.take_left]
  have e1 : ints (A ++ y :: B) ++ r0 :: r = (ints A ++ [.int .i64 y]) ++ ((ints B ++ [r0]) ++ r) := by simp [ints]
  have h1 := spl_at (p := ints A ++ [.int .i64 y]) (q := ints B ++ [r0]) (s := r) (vs := ints (y :: B)) (by simp [ints])
  rw [show (ints A ++ [Value.int .i64 y]).length = A.length + 1 by simp [ints]] at h1
  have h2 := spl_at (p := ints A) (q := [.int .i64 y]) (s := ints (y :: B) ++ r) (vs := [.int .i64 x]) rfl
  rw [show (ints A).length = A.length by simp [ints]] at h2
  rw [e1, h1, List.append_assoc, h2]
  simp [ints]
theorem spl_new {xs : List Int} {z junk : List Value} {i : Nat} {x : Int} (hi : i < xs.length) (hz : z.length = xs.length + 1 - i) : spl (spl ((ints (xs.take i)) ++ (z ++ junk)) (0 + i * 1) [.int .i64 x]) (0 + (i + 1) * 1) (ints (xs.drop i)) = ints (xs.take i ++ x :: xs.drop i) ++ junk := by
  rw [show 0 + (i + 1) * 1 = i + 1 from by omega, show 0 + i * 1 = i from by omega]
  obtain ⟨A, y, B, rfl, rfl⟩ := cut_at hi
  obtain ⟨z0, z1, rfl⟩ : ∃ z0 z1, z = z0 :: z1 := by cases z with
    | nil => simp only [List.length_nil, List.length_append, List.length_cons] at hz; omega
    | cons a b => exact ⟨a, b, rfl⟩
  rw [List.drop_left, List.take_left]
  have h1 := spl_at (p := ints A) (q := [z0]) (s := z1 ++ junk) (vs := [.int .i64 x]) rfl
  rw [show (ints A).length = A.length by simp [ints]] at h1
  have h2 := spl_at (p := ints A ++ [.int .i64 x]) (q := z1) (s := junk) (vs := ints (y :: B)) (by simp [ints] at hz ⊢; omega)
  rw [show (ints A ++ [Value.int .i64 x]).length = A.length + 1 by simp [ints]] at h2
  rw [show ints A ++ (z0 :: z1 ++ junk) = ints A ++ ([z0] ++ (z1 ++ junk)) from rfl, h1, ← List.append_assoc, h2]
  simp [ints]
theorem repl_len1 (n : Nat) (v : Value) : (repl n [v]).length = n := by rw [repl1, List.length_replicate]
theorem spl_len {l vs : List Value} {off : Nat} (h : off + vs.length ≤ l.length) : (spl l off vs).length = l.length := by
  unfold spl
  simp only [List.length_append, List.length_take, List.length_drop]; omega
theorem irows_flat' (l : List Int) : (irows l).flatten = ints l := irows_flat l
theorem ir_len (l : List Int) : ∀ r ∈ irows l, r.length = 1 := fun r hr => by obtain ⟨z, _, rfl⟩ := List.mem_map.1 hr; rfl
theorem hr_len (l : List Hnd) : (hrows l).length = l.length := List.length_map _
theorem c_Insert (xs : List Int) (o : OSl 3 1 (irows xs)) (i : Nat) (hi : i ≤ xs.length) (hl : xs.length ≤ 1000000) (x : Int) (bv : Nat) (H : Heap) (R : Facts) :
    Fn Tryz.prog 88 [o.fs, .int .i64 i, .slice (some ⟨bv, 0, none⟩) 1 1] ((bv, cel 3 [.int .i64 x]) :: (o.G ++ H)) R (fun v H' R' => ∃ o' : OSl 3 1 (irows (xs.take i ++ x :: xs.drop i)), v = o'.fs ∧ H' = o'.G ++ H ∧ R' = R) := by
 obtain ⟨a, c, he, hcc, _⟩ := o.freezeC
 rw [show (irows xs).length = xs.length from List.length_map _] at he hcc
 refine fn_of Tryz.func88 rfl Tryz.ntmps88 rfl ?_
 refine sy_seq ?_
 refine sy_tx' [0] rfl ?_
 refine sp rfl (PE.assign rfl) rfl ?_
 refine sy_seq ?_
 refine sy_tx' [0, 1, 2] rfl ?_
 refine sp rfl (PE.move rfl) rfl ?_
 refine sp rfl (PE.move rfl) rfl ?_
 refine sp rfl (PE.slLoA sl28 (congrArg some he) rfl hi) rfl ?_
 refine sy_seq ?_
 refine sy_tx' [0, 1, 2] rfl ?_
 refine sp rfl (PE.move rfl) rfl ?_
 refine sp rfl (PE.lenSl isl28 rfl) rfl ?_
 refine sp rfl (PE.assign rfl) rfl ?_
 refine sy_seq ?_
 refine sy_seq ?_
 refine sy_tx' [0, 1] rfl ?_
 refine sp rfl (PE.move rfl) rfl ?_
 refine sp rfl (PE.eql rfl rfl) rfl ?_
 refine sy_cond rfl (fun hc0 => ?_) (fun hc0 => ?_)
 exact absurd hc0 (by simp)
 refine sy_skip ?_
 refine sy_seq ?_
 refine sy_tx' [0, 1, 2] rfl ?_
 refine sp rfl (PE.move rfl) rfl ?_
 refine sp rfl (PE.lenSl isl28 (congrArg some he)) rfl ?_
 refine sp rfl (PE.assign rfl) rfl ?_
 refine sy_seq ?_
 refine sy_seq ?_
 refine sy_tx' [0, 1, 2] rfl ?_
 refine sp rfl (PE.move rfl) rfl ?_
 refine sp rfl (PE.move rfl) rfl ?_
 refine sp rfl (PE.eql rfl rfl) rfl ?_
 refine sy_cond rfl (fun hc1 => ?_) (fun hc1 => ?_)
 try simp only [decide_eq_true_eq, decide_eq_false_iff_not, Bool.and_eq_true, Bool.or_eq_true, Bool.not_eq_true', Int.not_le, Int.not_lt] at hc1
 obtain rfl : i = xs.length := by omega
 refine sy_seq ?_
 refine sy_tx' [0, 1, 2, 3] rfl ?_
 refine sp rfl (PE.move rfl) rfl ?_
 refine sp rfl (PE.move rfl) rfl ?_
 refine apO (o) rfl ap28 rfl rfl (rowsH (row := [.int .i64 x]) rfl) rfl rfl ((by simp only [irows, List.length_map, List.length_singleton]; omega)) rfl (fun o25 => ?_)
 refine sp rfl (PE.assign rfl) rfl ?_
 refine sy_ret ?_
 exact sy_return (vs := [_]) rfl (.cons (RV.tmp rfl) .nil) rfl ⟨o25.cast (by simp [irows]), rfl, rfl, rfl⟩ (fun w h => h.del bv)
 try simp only [decide_eq_true_eq, decide_eq_false_iff_not, Bool.and_eq_true, Bool.or_eq_true, Bool.not_eq_true', Int.not_le, Int.not_lt] at hc1
 have hin : i < xs.length := by omega
 have hir : (irows xs).length = xs.length := List.length_map _
 obtain ⟨b, cap, junk, hfs, hG, hj, hcap, hmx⟩ := o.is.resolve_left (fun h => by rw [h.1] at hir; simp at hir; omega)
 rw [hir] at hfs hcap hj
 rw [hfs, hG, irows_flat']
 refine Sy.heap (H' := (bv, cel 3 [.int .i64 x]) :: (b, cel 3 (ints xs ++ junk)) :: H) (fun w h => h) ?_
 clear he
 refine sy_skip ?_
 refine sy_seq ?_
 refine sy_seq ?_
 refine sy_tx' [0, 1, 2, 3, 4, 5] rfl ?_
 refine sp rfl (PE.move rfl) rfl ?_
 refine sp rfl (PE.move rfl) rfl ?_
 refine sp rfl (PE.add rfl rfl (by omega)) rfl ?_
 refine sp rfl (PE.move rfl) rfl ?_
 refine sp rfl (PE.capSl isl28 rfl) rfl ?_
 refine sp rfl (PE.gtr rfl rfl) rfl ?_
 refine sy_cond rfl (fun hc2 => ?_) (fun hc2 => ?_)
 try simp only [decide_eq_true_eq, decide_eq_false_iff_not, Bool.and_eq_true, Bool.or_eq_true, Bool.not_eq_true', Int.not_le, Int.not_lt] at hc2
 refine sy_seq ?_
 refine sy_tx' [0, 1, 2, 3, 4, 5, 6, 7, 8, 9] rfl ?_
 refine sp rfl (PE.move rfl) rfl ?_
 refine sp rfl (PE.move rfl) rfl ?_
 refine sp rfl (PE.slHi sl28 rfl rfl (by omega)) rfl ?_
 refine sp rfl (PE.move rfl) rfl ?_
 refine sp rfl (PE.move rfl) rfl ?_
 refine sp rfl (PE.add rfl rfl (by omega)) rfl ?_
 refine sp rfl (PE.move rfl) rfl ?_
 refine sp rfl (PE.sub rfl rfl (by omega)) rfl ?_
 rw [show (xs.length : Int) + ((1 : Nat) : Int) - i = ((xs.length + 1 - i : Nat) : Int) from by omega]
 refine apZ rfl ap28 ik3 zl3 rfl rfl (by omega) (by omega) (by omega) (by omega) (by rw [List.length_append, ints_length]; omega) rfl (fun b2 cap2 jk2 hc1 hc2 hc3 => ?_)
 refine sp rfl (PE.assign rfl) rfl ?_
 refine sy_seq ?_
 refine sy_tx' [0, 1, 2, 3, 4] rfl ?_
 refine sp rfl (PE.move rfl) rfl ?_
 refine sp rfl (PE.move rfl) rfl ?_
 rw [show i + (xs.length + 1 - i) = xs.length + 1 from by omega] at hc1 hc3 ⊢
 rw [show (ints xs ++ junk).take (i * 1) = ints (xs.take i) from by rw [Nat.mul_one, List.take_append_of_le_length (by rw [ints_length]; omega)]; simp [ints, List.map_take]]
 refine sp rfl (PE.slLo sl28 rfl rfl (by omega) (by omega)) rfl ?_
 refine sp rfl (PE.move rfl) rfl ?_
 refine cpyA [.int .i64 x] rfl sl28 rfl rfl (by show 1 = Nat.min 1 (xs.length + 1 - i) * 1; rw [show Nat.min 1 (xs.length + 1 - i) = 1 from Nat.min_eq_left (by omega)]) (heldAt (l := [.int .i64 x]) (e2 := 3) (fun j v h => by simpa using h)) rfl (by simp only [List.length_append, ints_length, List.length_take, repl_len1, List.length_singleton]; omega) rfl ?_
 refine sy_seq ?_
 refine sy_draw [0, 0, 0, 6, 15, 0, 0, 96, 255] (.tk 0 (.tk 1 (.tk 2 (.tk 3 (.tk 4 (.tk 5 (.tk 6 (.tk 7 (.big 8 .done))))))))) mixed (by kernel_rfl) ?_
 refine tk rfl (PE.move rfl) rfl ?_
 refine tk rfl (PE.move rfl) rfl ?_
 refine tk rfl (PE.move rfl) rfl ?_
 refine tk rfl (PE.add rfl rfl (by omega)) rfl ?_
 rw [show (i : Int) + ((1 : Nat) : Int) = ((i + 1 : Nat) : Int) from by omega]
 refine tk rfl (PE.slLo sl28 rfl rfl (by omega) (by omega)) rfl ?_
 refine tk rfl (PE.move rfl) rfl ?_
 refine tk rfl (PE.move rfl) rfl ?_
 refine tk rfl (PE.slLo sl28 rfl rfl (by omega) (by omega)) rfl ?_
 refine cpyA (ints (xs.drop i)) rfl sl28 rfl rfl (by rw [ints_length, List.length_drop, show xs.length + 1 - (i + 1) = xs.length - i from by omega]; simp) (heldAt (l := ints xs ++ junk) (e2 := 3) (fun j v h => by
   have h1 := (List.getElem?_eq_some_iff.1 h).1
   rw [ints_length, List.length_drop] at h1
   rw [show 0 + i * 1 + j = i + j from by omega, List.getElem?_append_left (by rw [ints_length]; omega)]
   simpa [ints] using h)) (ints_one _) (by rw [spl_len (by simp only [List.length_append, ints_length, List.length_take, repl_len1, List.length_singleton, List.length_drop]; omega)]; simp only [List.length_append, ints_length, List.length_take, repl_len1, List.length_singleton, List.length_drop]; omega) rfl ?_
 refine bg (fun w hs => trivial) ?_
 refine sy_seq ?_
 refine sy_tx' [0, 1] rfl ?_
 rw [spl_new hin (by rw [repl_len1])]
 refine sp rfl (PE.move rfl) rfl ?_
 refine sp rfl (PE.assign rfl) rfl ?_
 refine sy_ret ?_
 obtain ⟨ys, hys⟩ : ∃ ys, ys = xs.take i ++ x :: xs.drop i := ⟨_, rfl⟩
 have hyl : ys.length = xs.length + 1 := by rw [hys]; simp; omega
 rw [← hys]
 have hyi : (irows ys).length = xs.length + 1 := by rw [List.length_map, hyl]
 exact sy_return (vs := [_]) rfl (.cons (RV.tmp rfl) .nil) rfl ⟨(⟨.slice (some ⟨b2, 0, none⟩) (irows ys).length cap2, [(b2, cel 3 ((irows ys).flatten ++ jk2))], ir_len _, .inr ⟨b2, cap2, jk2, rfl, rfl, by rw [hyi]; first | omega | (rw [List.length_drop]; omega), by rw [hyi]; omega, hc2⟩⟩ : OSl 3 1 (irows ys)).cast (by rw [hys]), congrArg (fun q => Value.slice (some ⟨b2, 0, none⟩) q cap2) hyi.symm, rfl, rfl⟩ (fun w h => by
   show St ((b2, cel 3 ((irows ys).flatten ++ jk2)) :: H) R w
   rw [irows_flat']
   exact ((h.del bv).del b))
 try simp only [decide_eq_true_eq, decide_eq_false_iff_not, Bool.and_eq_true, Bool.or_eq_true, Bool.not_eq_true', Int.not_le, Int.not_lt] at hc2
 refine sy_skip ?_
 refine sy_seq ?_
 refine sy_tx' [0, 1, 2, 3, 4, 5] rfl ?_
 refine sp rfl (PE.move rfl) rfl ?_
 refine sp rfl (PE.move rfl) rfl ?_
 refine sp rfl (PE.move rfl) rfl ?_
 refine sp rfl (PE.add rfl rfl (by omega)) rfl ?_
 rw [show (xs.length : Int) + ((1 : Nat) : Int) = ((xs.length + 1 : Nat) : Int) from by omega]
 refine sp rfl (PE.slHi sl28 rfl rfl (by omega)) rfl ?_
 refine sp rfl (PE.assign rfl) rfl ?_
 refine sy_seq ?_
 refine sy_seq ?_
 refine sy_tx' [0, 1, 2, 3, 4, 5, 6, 7] rfl ?_
 refine sp rfl (PE.move rfl) rfl ?_
 refine sp rfl (PE.move rfl) rfl ?_
 refine sp rfl (PE.move rfl) rfl ?_
 refine sp rfl (PE.move rfl) rfl ?_
 refine sp rfl (PE.add rfl rfl (by omega)) rfl ?_
 rw [show (i : Int) + ((1 : Nat) : Int) = ((i + 1 : Nat) : Int) from by omega]
 refine sp rfl (PE.slLo sl28 rfl rfl (by omega) (by omega)) rfl ?_
 refine clX rfl rfl rfl (fun w hs => run_ovl (xa := [.int .i64 x]) (xb := ints xs ++ junk) (eA := 3) (eB := 3) (tS := 28) (tR := 4) Tryz.func126 (by kernel_rfl) (by kernel_rfl) (by kernel_rfl) (by kernel_rfl) sl28 (fun e9 => ?_) (by simp [ints]; intro e9 _; rw [e9] at hin; simp at hin) (hs.held (bv, _) (by simp)) (hs.held (b, _) (by simp))) ?_
 · subst e9
   have := hs.nd
   simp at this
 refine sp rfl (PE.not rfl) rfl ?_
 refine sy_condT (rfl) ?_
 refine sy_seq ?_
 refine sy_draw [0, 0, 0, 6, 15, 0, 0, 96, 255] (.tk 0 (.tk 1 (.tk 2 (.tk 3 (.tk 4 (.tk 5 (.tk 6 (.tk 7 (.big 8 .done))))))))) mixed (by kernel_rfl) ?_
 refine tk rfl (PE.move rfl) rfl ?_
 refine tk rfl (PE.move rfl) rfl ?_
 refine tk rfl (PE.move rfl) rfl ?_
 refine tk rfl (PE.add rfl rfl (by omega)) rfl ?_
 rw [show (i : Int) + ((1 : Nat) : Int) = ((i + 1 : Nat) : Int) from by omega]
 refine tk rfl (PE.slLo sl28 rfl rfl (by omega) (by omega)) rfl ?_
 refine tk rfl (PE.move rfl) rfl ?_
 refine tk rfl (PE.move rfl) rfl ?_
 refine tk rfl (PE.slLo sl28 rfl rfl (by omega) (by omega)) rfl ?_
 refine cpyA (ints (xs.drop i)) rfl sl28 rfl rfl (by rw [ints_length, List.length_drop, show xs.length + 1 - (i + 1) = xs.length - i from by omega, show Nat.min (xs.length + 1 - i) (xs.length - i) = xs.length - i from Nat.min_eq_right (by omega)]; omega) (heldAt (l := ints xs ++ junk) (e2 := 3) (fun j v h => by
   have h1 := (List.getElem?_eq_some_iff.1 h).1
   rw [ints_length, List.length_drop] at h1
   rw [show 0 + i * 1 + j = i + j from by omega, List.getElem?_append_left (by rw [ints_length]; omega)]
   simpa [ints] using h)) (ints_one _) (by simp only [List.length_append, ints_length, List.length_drop]; omega) rfl ?_
 refine bg (fun w hs => trivial) ?_
 refine sy_seq ?_
 refine sy_tx' [0, 1, 2, 3, 4] rfl ?_
 refine sp rfl (PE.move rfl) rfl ?_
 refine sp rfl (PE.move rfl) rfl ?_
 refine sp rfl (PE.slLo sl28 rfl rfl (by omega) (by omega)) rfl ?_
 refine sp rfl (PE.move rfl) rfl ?_
 refine cpyA [.int .i64 x] rfl sl28 rfl rfl (by show 1 = Nat.min 1 (xs.length + 1 - i) * 1; rw [show Nat.min 1 (xs.length + 1 - i) = 1 from Nat.min_eq_left (by omega)]) (heldAt (l := [.int .i64 x]) (e2 := 3) (fun j v h => by simpa using h)) rfl (by rw [spl_len (by simp only [List.length_append, ints_length, List.length_singleton, List.length_drop]; omega)]; simp only [List.length_append, ints_length, List.length_singleton, List.length_drop]; omega) rfl ?_
 refine sy_seq ?_
 refine sy_tx' [0, 1] rfl ?_
 rw [spl_ins hin (by omega)]
 refine sp rfl (PE.move rfl) rfl ?_
 refine sp rfl (PE.assign rfl) rfl ?_
 refine sy_ret ?_
 obtain ⟨ys, hys⟩ : ∃ ys, ys = xs.take i ++ x :: xs.drop i := ⟨_, rfl⟩
 have hyl : ys.length = xs.length + 1 := by rw [hys]; simp; omega
 rw [← hys]
 have hyi : (irows ys).length = xs.length + 1 := by rw [List.length_map, hyl]
 exact sy_return (vs := [_]) rfl (.cons (RV.tmp rfl) .nil) rfl ⟨(⟨.slice (some ⟨b, 0, none⟩) (irows ys).length cap, [(b, cel 3 ((irows ys).flatten ++ junk.drop 1))], ir_len _, .inr ⟨b, cap, junk.drop 1, rfl, rfl, by rw [hyi]; first | omega | (rw [List.length_drop]; omega), by rw [hyi]; omega, hmx⟩⟩ : OSl 3 1 (irows ys)).cast (by rw [hys]), congrArg (fun q => Value.slice (some ⟨b, 0, none⟩) q cap) hyi.symm, rfl, rfl⟩ (fun w h => by
   show St ((b, cel 3 ((irows ys).flatten ++ junk.drop 1)) :: H) R w
   rw [irows_flat']
   exact h.del bv)
theorem c_Shuffle (l0 : List Int) (a0 : Option Addr) (c0 bk : Nat) (hgl : l0.length ≤ 9223372036854775807) (tq mx : Int) (htq : 0 ≤ tq ∧ tq ≤ 1000) (hmx : 0 ≤ mx ∧ mx ≤ 4294967295) (n : Nat) (hn : n ≤ 1000) (H : Heap) (R : Facts) [hG : MemRows a0 1 (urows l0) R] :
    Fn Tryz.prog 36 [.pointer (some ⟨bk, 0, none⟩), .int .i64 n] ((bk, cel 138 [.slice a0 l0.length c0, .int .i64 (tq), .int .u32 (mx)]) :: H) R (fun v H' R' => ∃ (p : List Nat) (o : OSl 3 1 (irows (p.map fun (j : Nat) => (j : Int)))) (tq' mx' : Int), Ord p n ∧ v = o.fs ∧ (tq ≤ tq' ∧ tq' ≤ tq + n) ∧ (0 ≤ mx' ∧ mx' ≤ 4294967295) ∧ H' = (bk, cel 138 [.slice a0 l0.length c0, .int .i64 (tq'), .int .u32 (mx')]) :: (o.G ++ H) ∧ R' = R) := by
 refine fn_of Tryz.func36 rfl Tryz.ntmps36 rfl ?_
 refine sy_seq ?_
 refine sy_tx' [0] rfl ?_
 refine sp rfl (PE.assign rfl) rfl ?_
 refine sy_seq ?_
 refine sy_tx' [0] rfl ?_
 refine sp rfl (PE.assign rfl) rfl ?_
 refine sy_seq ?_
 refine sy_seq ?_
 refine sy_tx' [0, 1] rfl ?_
 refine sp rfl (PE.move rfl) rfl ?_
 refine sp rfl (PE.move rfl) rfl ?_
 refine sy_block ?_
 refine sy_loop (ι := (x : {x : Nat × List Nat × Int × Int // x.1 ≤ n ∧ Ord x.2.1 x.1 ∧ (tq ≤ x.2.2.1 ∧ x.2.2.1 ≤ tq + x.1) ∧ (0 ≤ x.2.2.2 ∧ x.2.2.2 ≤ 4294967295)}) × OSl 3 1 (irows (x.1.2.1.map fun (j : Nat) => (j : Int)))) (fun x => ⟨[(0, .pointer (some ⟨bk, 0, none⟩)), (5, x.2.fs), (7, .int .i64 n), (8, .int .i64 x.1.1.1)], (bk, cel 138 [.slice a0 l0.length c0, .int .i64 (x.1.1.2.2.1), .int .u32 (x.1.1.2.2.2)]) :: (x.2.G ++ H), R⟩) (fun x => n - x.1.1.1) ⟨⟨(0, [], tq, mx), by omega, Ord.nil, by dsimp only; omega, by assumption⟩, OSl.nil _ _⟩ ?_ (fun x => ?_)
 exact sy_at (by repeat' first | exact Sub.nil | apply Sub.cons | rfl | (simp [lk]; omega)) (fun _ h => h)
 obtain ⟨⟨⟨k, p, tq2, mx2⟩, hk, hp, htq2, hmx2⟩, o⟩ := x
 dsimp only at hk hp htq2 hmx2 o ⊢
 have hpl := hp.len
 refine sy_seq ?_
 refine sy_tx' [0] rfl ?_
 refine sp rfl (PE.lss rfl rfl) rfl ?_
 refine sy_seq ?_
 refine sy_cond rfl (fun hc0 => ?_) (fun hc0 => ?_)
 try simp only [decide_eq_true_eq, decide_eq_false_iff_not, Bool.and_eq_true, Bool.or_eq_true, Bool.not_eq_true', Int.not_le, Int.not_lt] at hc0
 refine sy_skip ?_
 refine sy_seq ?_
 refine sy_block ?_
 refine sy_seq ?_
 refine sy_tx' [0, 1] rfl ?_
 refine sp rfl (PE.move rfl) rfl ?_
 refine sp rfl (PE.assign rfl) rfl ?_
 refine sy_tx' [0, 1, 2, 3, 4, 5, 6, 7, 8] rfl ?_
 refine sp rfl (PE.move rfl) rfl ?_
 refine sp rfl (PE.move rfl) rfl ?_
 refine sp rfl (PE.move rfl) rfl ?_
 refine sp rfl (PE.add rfl rfl (by omega)) rfl ?_
 refine cl rfl cal33 rfl rfl (c_Below l0 a0 c0 bk hgl _ _ (by omega) (by assumption) ((k : Int) + 1) _ _) ?_
 rintro _ _ R1 ⟨x15, m15, hx15, rfl, hm15, rfl, hR1⟩
 obtain rfl := hR1.symm
 obtain ⟨j, hj⟩ : ∃ j : Nat, x15 = j := ⟨x15.toNat, by omega⟩
 rw [hj]
 have hjk : j ≤ k := by omega
 refine sp rfl (PE.move rfl) rfl ?_
 refine bsl (out := [_]) rfl sl28 zl3 rfl rfl rfl rfl rfl rfl (fun b17 => ?_)
 refine Sy.heap (H' := (b17, cel 3 [.int .i64 (k : Int)]) :: (o.G ++ ((bk, cel 138 [.slice a0 l0.length c0, .int .i64 (tq2 + 1), .int .u32 (m15)]) :: H))) (fun w h => h.perm (List.Perm.cons _ List.perm_middle.symm)) ?_
 refine cl rfl cal88 rfl rfl (c_Insert (p.map fun (j : Nat) => (j : Int)) o j (by simp [hpl]; omega) (by simp [hpl]; omega) (k : Int) b17 _ _) ?_
 rintro _ _ R1 ⟨o18, rfl, rfl, hR1⟩
 obtain rfl := hR1.symm
 clear hR1
 refine sp rfl (PE.assign rfl) rfl ?_
 refine sy_tx' [0, 1] rfl ?_
 refine sp rfl (PE.add rfl rfl (by omega)) rfl ?_
 refine sp rfl (PE.move rfl) rfl ?_
 exact sy_next ⟨⟨(k + 1, p.take j ++ k :: p.drop j, tq2 + 1, m15), by omega, hp.ins hjk, by dsimp only; omega, by assumption⟩, o18.cast (by simp [irows, List.map_take, List.map_drop])⟩ (by dsimp only; omega) (by repeat' first | exact Sub.nil | apply Sub.cons | rfl | (simp [lk]; omega)) (fun w h => h.perm List.perm_middle)
 try simp only [decide_eq_true_eq, decide_eq_false_iff_not, Bool.and_eq_true, Bool.or_eq_true, Bool.not_eq_true', Int.not_le, Int.not_lt] at hc0
 obtain rfl : k = n := by omega
 refine sy_exit ?_
 repeat refine sy_tx ?_
 refine sy_bx ?_
 refine sy_seq ?_
 refine sy_tx' [0, 1] rfl ?_
 refine sp rfl (PE.move rfl) rfl ?_
 refine sp rfl (PE.assign rfl) rfl ?_
 refine sy_ret ?_
 exact sy_return (vs := [_]) rfl (.cons (RV.tmp rfl) .nil) rfl ⟨p, o, tq2, mx2, hp, rfl, by omega, by assumption, rfl, rfl⟩ (fun _ h => h)
end Go.Proofs.YtknoaljnelfklaaGreat
namespace Go.Proofs.YtknoaljnelfklaaGreat
set_option linter.unusedSimpArgs false
set_option linter.unusedVariables false
open Go
theorem cal130 : cal Tryz.prog 130 = true := by kernel_rfl
theorem cal131 : cal Tryz.prog 131 = true := by kernel_rfl
theorem cal132 : cal Tryz.prog 132 = true := by kernel_rfl
theorem cal143 : cal Tryz.prog 143 = true := by kernel_rfl
theorem cal149 : cal Tryz.prog 149 = true := by kernel_rfl
theorem cal153 : cal Tryz.prog 153 = true := by kernel_rfl
theorem cal165 : cal Tryz.prog 165 = true := by kernel_rfl
theorem cal96 : cal Tryz.prog 96 = true := by kernel_rfl
theorem cal97 : cal Tryz.prog 97 = true := by kernel_rfl
theorem cal98 : cal Tryz.prog 98 = true := by kernel_rfl
theorem ik175 : intK Tryz.prog 175 = some .u64 := by kernel_rfl
theorem ik5 : intK Tryz.prog 5 = some .u8 := by kernel_rfl
theorem istr9 : isStr Tryz.prog 9 = true := by kernel_rfl
theorem us204 : (Tryz.prog.underlying 204).isSome = true := by kernel_rfl
structure InsI (l xs : List Int) (i j : Nat) : Prop where
  perm : xs.Perm l
  le : j ≤ i
  at_ : ∀ p q, p < q → q ≤ i → q ≠ j → nn xs p ≤ nn xs q
structure SrtI (l xs : List Int) (i : Nat) : Prop where
  perm : xs.Perm l
  at_ : ∀ p q, p < q → q < i → nn xs p ≤ nn xs q
theorem SrtI.start (l : List Int) : SrtI l l 1 := ⟨.refl _, fun p q h1 h2 => by omega⟩
theorem SrtI.ins {l xs : List Int} {i : Nat} (h : SrtI l xs i) : InsI l xs i i := ⟨h.perm, Nat.le_refl _, fun p q h1 h2 h3 => h.at_ p q h1 (by omega)⟩
theorem InsI.done {l xs : List Int} {i j : Nat} (h : InsI l xs i j) (hj : j = 0 ∨ nn xs (j - 1) ≤ nn xs j) : SrtI l xs (i + 1) := ⟨h.perm, fun p q h1 h2 => by
  by_cases hq : q = j
  · subst hq
    have h3 : nn xs (q - 1) ≤ nn xs q := hj.resolve_left (by omega)
    by_cases hp : p = q - 1
    · subst hp; exact h3
    · have := h.at_ p (q - 1) (by omega) (by omega) (by omega); omega
  · exact h.at_ p q h1 (by omega) hq⟩
theorem nn_at {xs : List Int} {k : Nat} (h : k < xs.length) : nn xs k = xs[k] := by unfold nn; rw [List.getD_eq_getElem?_getD, List.getElem?_eq_getElem h]; rfl
theorem InsI.swap {l xs : List Int} {i j : Nat} (h : InsI l xs i j) (hj : 0 < j) (hi : i < xs.length) (hlt : nn xs j < nn xs (j - 1)) : InsI l ((xs.set j (nn xs (j - 1))).set (j - 1) (nn xs j)) i (j - 1) := by
  have hle := h.le
  have hv : ∀ q, nn ((xs.set j (nn xs (j - 1))).set (j - 1) (nn xs j)) q = if q = j - 1 then nn xs j else if q = j then nn xs (j - 1) else nn xs q := fun q => by
    rw [nn_set (by rw [List.length_set]; omega), nn_set (by omega)]
    by_cases h1 : q = j - 1
    · subst h1; simp
    · have e1 : (j - 1 == q) = false := by simp; omega
      rw [e1, if_neg h1]
      by_cases h2 : q = j
      · subst h2; simp
      · have e2 : (j == q) = false := by simp; omega
        rw [e2, if_neg h2]; rfl
  refine ⟨?_, by omega, fun p q h1 h2 h3 => ?_⟩
  · have e := @List.set_set_perm Int xs j (j - 1) (by omega) (by omega)
    rw [nn_at (k := j - 1) (by omega), nn_at (k := j) (by omega)]
    exact e.trans h.perm
  · rw [hv p, hv q]
    have A := h.at_ p q h1 h2
    have B := h.at_ p (j - 1)
    have C := h.at_ j q
    have E := h.at_ (j - 1) q
    rw [if_neg h3]
    by_cases hq : q = j
    · rw [if_pos hq]
      split
      · omega
      · rw [if_neg (by omega)]; exact B (by omega) (by omega) (by omega)
    · rw [if_neg hq]
      split
      · exact C (by omega) h2 hq
      · split
        · exact E (by omega) h2 hq
        · exact A hq
theorem int_at {xs : List Int} {junk : List Value} {k : Nat} (h : k < xs.length) : (ints xs ++ junk)[0 + ((k : Nat) : Int).toNat * 1]? = some (.int .i64 (nn xs k)) := by
  rw [show 0 + ((k : Nat) : Int).toNat * 1 = k by omega, List.getElem?_append_left (by rw [ints_length]; exact h), nn_at h]
  simp [ints, h]
theorem int_at2 {xs : List Int} {junk : List Value} {q k : Nat} (h : q + k < xs.length) : (ints xs ++ junk)[0 + q * 1 + ((k : Nat) : Int).toNat * 1]? = some (.int .i64 (nn xs (q + k))) := by
  have := int_at (junk := junk) h
  rw [show 0 + q * 1 + ((k : Nat) : Int).toNat * 1 = 0 + ((q + k : Nat) : Int).toNat * 1 by omega]; exact this
theorem spl_int {xs : List Int} {junk : List Value} {k : Nat} (h : k < xs.length) (v : Int) : spl (ints xs ++ junk) (0 + ((k : Nat) : Int).toNat * 1) [.int .i64 v] = ints (xs.set k v) ++ junk := by
  rw [show 0 + ((k : Nat) : Int).toNat * 1 = k by omega]
  obtain ⟨A, y, B, rfl, rfl⟩ := cut_at h
  have h1 := spl_at (p := ints A) (q := [.int .i64 y]) (s := ints B ++ junk) (vs := [.int .i64 v]) rfl
  rw [show (ints A).length = A.length by simp [ints]] at h1
  rw [show ints (A ++ y :: B) ++ junk = ints A ++ ([.int .i64 y] ++ (ints B ++ junk)) by simp [ints], h1]
  simp [ints]
theorem pair_ne {xs : List Int} {k : Nat} (h : k + 1 < xs.length) (hn : xs.Nodup) : nn xs k ≠ nn xs (k + 1) := by
  rw [nn_at (k := k) (by omega), nn_at h]
  exact List.pairwise_iff_getElem.1 hn k (k + 1) (by omega) h (by omega)
theorem srt_nd {l xs : List Int} {n : Nat} (h : SrtI l xs n) (hn : xs.length ≤ n) (hd : ∀ p, p + 1 < xs.length → nn xs p ≠ nn xs (p + 1)) : l.Nodup := by
  refine h.perm.nodup_iff.1 (List.pairwise_iff_getElem.2 fun p q hp hq hpq e => ?_)
  rw [← nn_at hp, ← nn_at hq] at e
  have h1 := hd p (by omega)
  have h2 := h.at_ p (p + 1) (by omega) (by omega)
  by_cases h3 : q = p + 1
  · subst h3; exact h1 e
  · have h4 := h.at_ (p + 1) q (by omega) (by omega); omega
def agrE (g : Gat) (c : Crt) (l : List Int) : Int := bif decide (bothE g c ≠ 0) then bothE g c else bif !(l.all fun i => inb i 0 (c.hs.length - 1)) then 1 else bif !(decide l.Nodup) then 5 else 0
def agrR (g : Gat) (c : Crt) (l : List Int) : Bool := bif decide (agrE g c l ≠ 0) then false else agr g.miss c.hs (flt l)
theorem c_isNaN (x : Int) (H : Heap) (R : Facts) :
    FnV Tryz.prog 165 [.int .i64 x] H R (.bool false) := by
 refine fn_of Tryz.func165 rfl Tryz.ntmps165 rfl ?_
 refine sy_seq ?_
 refine sy_tx' [0] rfl ?_
 refine sp rfl (PE.assign rfl) rfl ?_
 refine sy_seq ?_
 refine sy_tx' [0, 1, 2, 3] rfl ?_
 refine sp rfl (PE.move rfl) rfl ?_
 refine sp rfl (PE.move rfl) rfl ?_
 refine sp rfl (PE.neq rfl rfl) rfl ?_
 refine sp rfl (PE.assign rfl) rfl ?_
 refine sy_ret ?_
 exact sy_return (vs := [_]) rfl (.cons (RV.tmp rfl) .nil) rfl ⟨by simp [retV], rfl, rfl⟩ drp
theorem c_Less (x y : Int) (H : Heap) (R : Facts) :
    FnV Tryz.prog 149 [.int .i64 x, .int .i64 y] H R (.bool (decide (x < y))) := by
 refine fn_of Tryz.func149 rfl Tryz.ntmps149 rfl ?_
 refine sy_seq ?_
 refine sy_tx' [0] rfl ?_
 refine sp rfl (PE.assign rfl) rfl ?_
 refine sy_seq ?_
 refine sy_tx' [0, 1, 2, 3, 4, 5, 6, 7, 8, 9, 10, 11, 12] rfl ?_
 refine sp rfl (PE.move rfl) rfl ?_
 refine clV rfl cal165 rfl rfl (c_isNaN x _ _) ?_
 refine sp rfl (PE.move rfl) rfl ?_
 repeat refine spN rfl rfl rfl rfl rfl rfl rfl rfl ?_
 refine sp rfl (PE.pick rfl rfl rfl) rfl ?_
 refine sp rfl (PE.move rfl) rfl ?_
 refine spG rfl rfl rfl rfl (PE.move rfl) rfl ?_
 refine spG rfl rfl rfl rfl (PE.move rfl) rfl ?_
 refine spG rfl rfl rfl rfl (PE.lss rfl rfl) rfl ?_
 refine sp rfl (PE.pick rfl rfl rfl) rfl ?_
 refine sp rfl (PE.assign rfl) rfl ?_
 refine sy_ret ?_
 exact sy_return (vs := [_]) rfl (.cons (RV.tmp rfl) .nil) rfl ⟨rfl, rfl, rfl⟩ drp
theorem c_insB (l : List Int) (b cap : Nat) (junk : List Value) (hl : l.length ≤ 12) (H : Heap) (R : Facts) :
    Fn Tryz.prog 143 [.slice (some ⟨b, 0, none⟩) l.length cap, .int .i64 0, .int .i64 l.length] ((b, cel 3 (ints l ++ junk)) :: H) R (fun v H' R' => ∃ ys, SrtI l ys l.length ∧ v = .tuple #[] ∧ H' = (b, cel 3 (ints ys ++ junk)) :: H ∧ R' = R) := by
 refine fn_of Tryz.func143 rfl Tryz.ntmps143 rfl ?_
 refine sy_seq ?_
 refine sy_tx' [0, 1, 2] rfl ?_
 refine sp rfl (PE.move rfl) rfl ?_
 refine sp rfl (PE.add rfl rfl (by omega)) rfl ?_
 refine sp rfl (PE.assign rfl) rfl ?_
 refine sy_block ?_
 refine sy_loop (ι := {x : Nat × List Int // 1 ≤ x.1 ∧ x.1 ≤ 13 ∧ SrtI l x.2 x.1}) (fun x => ⟨[(0, .slice (some ⟨b, 0, none⟩) l.length cap), (1, .int .i64 0), (2, .int .i64 l.length), (6, .int .i64 x.1.1)], (b, cel 3 (ints x.1.2 ++ junk)) :: H, R⟩) (fun x => l.length - x.1.1) ⟨(1, l), by omega, by omega, SrtI.start l⟩ ?_ (fun x => ?_)
 exact sy_at (by repeat' first | exact Sub.nil | apply Sub.cons | rfl | (simp [lk]; omega)) (fun _ h => h)
 ·
  obtain ⟨⟨i, xs⟩, hi1, hi2, hs⟩ := x
  dsimp only at hi1 hi2 hs ⊢
  have hxl := hs.perm.length_eq
  refine sy_seq ?_
  refine sy_seq ?_
  refine sy_tx' [0, 1, 2] rfl ?_
  refine sp rfl (PE.move rfl) rfl ?_
  refine sp rfl (PE.move rfl) rfl ?_
  refine sp rfl (PE.lss rfl rfl) rfl ?_
  refine sy_cond rfl (fun hc0 => ?_) (fun hc0 => ?_)
  ·
   try simp only [decide_eq_true_eq, decide_eq_false_iff_not, Bool.and_eq_true, Bool.or_eq_true, Bool.not_eq_true', Int.not_le, Int.not_lt] at hc0
   refine sy_skip ?_
   refine sy_seq ?_
   refine sy_block ?_
   refine sy_seq ?_
   refine sy_tx' [0, 1] rfl ?_
   refine sp rfl (PE.move rfl) rfl ?_
   refine sp rfl (PE.assign rfl) rfl ?_
   refine sy_block ?_
   refine sy_loop (ι := {x : Nat × List Int // InsI l x.2 i x.1}) (fun x => ⟨[(0, .slice (some ⟨b, 0, none⟩) l.length cap), (1, .int .i64 0), (2, .int .i64 l.length), (6, .int .i64 i), (7, .int .i64 x.1.1)], (b, cel 3 (ints x.1.2 ++ junk)) :: H, R⟩) (fun x => x.1.1) ⟨(i, xs), hs.ins⟩ ?_ (fun x => ?_)
   exact sy_at (by repeat' first | exact Sub.nil | apply Sub.cons | rfl | (simp [lk]; omega)) (fun _ h => h)
   ·
    obtain ⟨⟨j, ys⟩, hy⟩ := x
    dsimp only at hy ⊢
    have hyl := hy.perm.length_eq
    have hyj := hy.le
    refine sy_seq ?_
    refine sy_seq ?_
    refine sy_draw [0, 0, 3, 7, 15, 15, 63, 127, 15, 15, 527, 1807, 3855, 8191, 16383] (.tk 0 (.tk 1 (.tk 2 (.tk 3 (.tk 4 (.tk 5 (.tk 6 (.ld 7 (.tk 8 (.tk 9 (.tk 10 (.tk 11 (.ld 12 (.big 13 (.tk 14 .done))))))))))))))) mixed (by kernel_rfl) ?_
    refine tk rfl (PE.move rfl) rfl ?_
    refine tk rfl (PE.move rfl) rfl ?_
    refine tk rfl (PE.gtr rfl rfl) rfl ?_
    refine tk rfl (PE.move rfl) rfl ?_
    refine sy_case (t := 19) rfl (fun g19 => ?_) (fun g19 => ?_)
    ·
     try simp only [decide_eq_true_eq, decide_eq_false_iff_not, Bool.and_eq_true, Bool.or_eq_true, Bool.not_eq_true', Int.not_le, Int.not_lt] at g19
     refine tkG rfl rfl rfl rfl (PE.move rfl) rfl ?_
     refine tkG rfl rfl rfl rfl (PE.move rfl) rfl ?_
     refine tkG rfl rfl rfl rfl (PE.indexAddr el28 rfl rfl (by omega) (by omega)) rfl ?_
     refine ldG rfl rfl rfl rfl rfl (lh sc3 rfl (int_at (by omega))) rfl ?_
     refine tkG rfl rfl rfl rfl (PE.move rfl) rfl ?_
     refine tkG rfl rfl rfl rfl (PE.move rfl) rfl ?_
     refine tkG rfl rfl rfl rfl (PE.sub rfl rfl (by omega)) rfl ?_
     rw [show (j : Int) - 1 = ((j - 1 : Nat) : Int) from by omega]
     refine tkG rfl rfl rfl rfl (PE.indexAddr el28 rfl rfl (by omega) (by omega)) rfl ?_
     refine ldG rfl rfl rfl rfl rfl (lh sc3 rfl (int_at (by omega))) rfl ?_
     refine clVG rfl rfl rfl rfl cal149 rfl rfl (c_Less _ _ _ _) ?_
     refine bg (fun w hs => ⟨trivial, trivial, trivial⟩) ?_
     refine tk rfl (PE.pick rfl rfl rfl) rfl ?_
     refine sy_cond rfl (fun hc1 => ?_) (fun hc1 => ?_)
     ·
      try simp only [decide_eq_true_eq, decide_eq_false_iff_not, Bool.and_eq_true, Bool.or_eq_true, Bool.not_eq_true', Int.not_le, Int.not_lt] at hc1
      refine sy_skip ?_
      refine sy_seq ?_
      refine sy_block ?_
      refine sy_draw [0, 0, 0, 0, 8, 0, 0, 64, 224, 480, 0, 0, 3072, 7168, 16355, 32739, 65535, 131071] (.tk 0 (.tk 1 (.tk 2 (.tk 3 (.tk 4 (.tk 5 (.tk 6 (.tk 7 (.tk 8 (.ld 9 (.tk 10 (.tk 11 (.tk 12 (.ld 13 (.tk 14 (.big 15 (.tk 16 (.big 17 .done)))))))))))))))))) mixed (by kernel_rfl) ?_
      refine tk rfl (PE.move rfl) rfl ?_
      refine tk rfl (PE.move rfl) rfl ?_
      refine tk rfl (PE.move rfl) rfl ?_
      refine tk rfl (PE.move rfl) rfl ?_
      refine tk rfl (PE.sub rfl rfl (by omega)) rfl ?_
      refine tk rfl (PE.move rfl) rfl ?_
      refine tk rfl (PE.move rfl) rfl ?_
      refine tk rfl (PE.sub rfl rfl (by omega)) rfl ?_
      rw [show (j : Int) - 1 = ((j - 1 : Nat) : Int) from by omega]
      refine tk rfl (PE.indexAddr el28 rfl rfl (by omega) (by omega)) rfl ?_
      refine ld rfl rfl (lh sc3 rfl (int_at (by omega))) rfl ?_
      refine tk rfl (PE.move rfl) rfl ?_
      refine tk rfl (PE.move rfl) rfl ?_
      refine tk rfl (PE.indexAddr el28 rfl rfl (by omega) (by omega)) rfl ?_
      refine ld rfl rfl (lh sc3 rfl (int_at (by omega))) rfl ?_
      refine tk rfl (PE.indexAddr el28 rfl rfl (by omega) (by omega)) rfl ?_
      refine stoE (l' := ints ((ys).set j (nn ys (j - 1))) ++ junk) rfl rfl rfl cn3 rfl rfl rfl (spl_int (show j < ys.length by omega) _) (by rw [List.length_append, ints_length]; show 0 + ((j : Nat) : Int).toNat * 1 + 1 ≤ _; have := (show j < ys.length by omega); omega) ?_
      refine bg (fun w hs => ⟨trivial, trivial, trivial⟩) ?_
      refine tk rfl (PE.indexAddr el28 rfl rfl (by omega) (by omega)) rfl ?_
      refine stoE (l' := ints ((ys.set j (nn ys (j - 1))).set (j - 1) (nn ys j)) ++ junk) rfl rfl rfl cn3 rfl rfl rfl (spl_int (show j - 1 < (ys.set j (nn ys (j - 1))).length by rw [List.length_set]; omega) _) (by rw [List.length_append, ints_length]; show 0 + (((j - 1) : Nat) : Int).toNat * 1 + 1 ≤ _; have := (show j - 1 < (ys.set j (nn ys (j - 1))).length by rw [List.length_set]; omega); omega) ?_
      refine bg (fun w hs => trivial) ?_
      refine sy_tx' [0, 1, 2] rfl ?_
      refine sp rfl (PE.move rfl) rfl ?_
      refine sp rfl (PE.sub rfl rfl (by omega)) rfl ?_
      refine sp rfl (PE.assign rfl) rfl ?_
      rw [show (j : Int) - 1 = ((j - 1 : Nat) : Int) from by omega]
      exact sy_next ⟨(j - 1, (ys.set j (nn ys (j - 1))).set (j - 1) (nn ys j)), hy.swap (by omega) (by omega) (by omega)⟩ (by dsimp only; omega) (by repeat' first | exact Sub.nil | apply Sub.cons | rfl | (simp [lk]; omega)) (fun _ h => h)
     try simp only [decide_eq_true_eq, decide_eq_false_iff_not, Bool.and_eq_true, Bool.or_eq_true, Bool.not_eq_true', Int.not_le, Int.not_lt] at hc1
     have hfd := hy.done (.inr (by omega))
     refine sy_exit ?_
     repeat refine sy_tx ?_
     refine sy_bx ?_
     refine sy_tx' [0, 1, 2] rfl ?_
     refine sp rfl (PE.move rfl) rfl ?_
     refine sp rfl (PE.add rfl rfl (by omega)) rfl ?_
     refine sp rfl (PE.assign rfl) rfl ?_
     exact sy_next ⟨(i + 1, ys), by omega, by omega, hfd⟩ (by dsimp only; omega) (by repeat' first | exact Sub.nil | apply Sub.cons | rfl | (simp [lk]; omega)) (fun _ h => h)
    try simp only [decide_eq_true_eq, decide_eq_false_iff_not, Bool.and_eq_true, Bool.or_eq_true, Bool.not_eq_true', Int.not_le, Int.not_lt] at g19
    have hfd := hy.done (.inl (by omega))
    repeat refine tkN rfl rfl rfl rfl rfl rfl rfl rfl ?_
    refine ldN rfl rfl rfl rfl rfl rfl rfl rfl ?_
    repeat refine tkN rfl rfl rfl rfl rfl rfl rfl rfl ?_
    refine ldN rfl rfl rfl rfl rfl rfl rfl rfl ?_
    refine spN rfl rfl rfl rfl rfl rfl rfl rfl ?_
    refine bg (fun w hs => ⟨trivial, trivial, trivial⟩) ?_
    refine tk rfl (PE.pick rfl rfl rfl) rfl ?_
    refine sy_condF rfl ?_
    refine sy_exit ?_
    repeat refine sy_tx ?_
    refine sy_bx ?_
    refine sy_tx' [0, 1, 2] rfl ?_
    refine sp rfl (PE.move rfl) rfl ?_
    refine sp rfl (PE.add rfl rfl (by omega)) rfl ?_
    refine sp rfl (PE.assign rfl) rfl ?_
    exact sy_next ⟨(i + 1, ys), by omega, by omega, hfd⟩ (by dsimp only; omega) (by repeat' first | exact Sub.nil | apply Sub.cons | rfl | (simp [lk]; omega)) (fun _ h => h)
  try simp only [decide_eq_true_eq, decide_eq_false_iff_not, Bool.and_eq_true, Bool.or_eq_true, Bool.not_eq_true', Int.not_le, Int.not_lt] at hc0
  have hfin : SrtI l xs l.length := ⟨hs.perm, fun p q h1 h2 => hs.at_ p q h1 (by omega)⟩
  refine sy_exit ?_
  repeat refine sy_tx ?_
  refine sy_bx ?_
  exact sy_fall (vs := []) rfl .nil rfl ⟨xs, hfin, rfl, rfl, rfl⟩ (fun _ h => h)
theorem c_insN (H : Heap) (R : Facts) :
    FnV Tryz.prog 143 [.slice none 0 0, .int .i64 0, .int .i64 (([] : List Int).length : Nat)] H R (.tuple #[]) := by
 refine fn_of Tryz.func143 rfl Tryz.ntmps143 rfl ?_
 refine sy_seq ?_
 refine sy_tx' [0, 1, 2] rfl ?_
 refine sp rfl (PE.move rfl) rfl ?_
 refine sp rfl (PE.add rfl rfl (by omega)) rfl ?_
 refine sp rfl (PE.assign rfl) rfl ?_
 refine sy_block ?_
 refine sy_loop (ι := Unit) (fun _ => ⟨[(2, .int .i64 (([] : List Int).length : Nat)), (6, .int .i64 1)], H, R⟩) (fun x => 0) () ?_ (fun x => ?_)
 exact sy_at (by repeat' first | exact Sub.nil | apply Sub.cons | rfl | (simp [lk]; omega)) (fun _ h => h)
 refine sy_seq ?_
 refine sy_seq ?_
 refine sy_tx' [0, 1, 2] rfl ?_
 refine sp rfl (PE.move rfl) rfl ?_
 refine sp rfl (PE.move rfl) rfl ?_
 refine sp rfl (PE.lss rfl rfl) rfl ?_
 refine sy_cond rfl (fun hc0 => ?_) (fun hc0 => ?_)
 exact absurd hc0 (by simp)
 refine sy_exit ?_
 repeat refine sy_tx ?_
 refine sy_bx ?_
 exact sy_fall (vs := []) rfl .nil rfl ⟨rfl, rfl, rfl⟩ (fun _ h => h)
theorem c_ins (l : List Int) (o : OSl 3 1 (irows l)) (hl : l.length ≤ 12) (H : Heap) (R : Facts) : Fn Tryz.prog 143 [o.fs, .int .i64 0, .int .i64 l.length] (o.G ++ H) R (fun v H' R' => ∃ ys, ∃ o' : OSl 3 1 (irows ys), SrtI l ys l.length ∧ o'.fs = o.fs ∧ v = .tuple #[] ∧ H' = o'.G ++ H ∧ R' = R) := by
  have hir : (irows l).length = l.length := List.length_map _
  rcases o.is with ⟨h1, h2, h3⟩ | ⟨b, cap, junk, h2, h3, hj, hc, hm⟩
  · have hx : l = [] := List.map_eq_nil_iff.1 h1
    subst hx
    rw [h2, h3]
    exact Fn.mono (c_insN H R) (by rintro v H' R' ⟨rfl, rfl, rfl⟩; exact ⟨[], OSl.nil _ _, ⟨.refl _, fun p q h4 h5 => by simp at h5⟩, rfl, rfl, rfl, rfl⟩)
  · rw [hir] at h2 hj hc
    rw [h2, h3, irows_flat']
    exact Fn.mono (c_insB l b cap junk hl H R) (by
      rintro v H' R' ⟨ys, hs, rfl, rfl, rfl⟩
      have hyl := hs.perm.length_eq
      have hyi : (irows ys).length = l.length := by rw [List.length_map, hyl]
      exact ⟨ys, ⟨.slice (some ⟨b, 0, none⟩) (irows ys).length cap, [(b, cel 3 ((irows ys).flatten ++ junk))], ir_len _, .inr ⟨b, cap, junk, rfl, rfl, by rw [hyi]; exact hj, by rw [hyi]; exact hc, hm⟩⟩, hs, congrArg (fun q => Value.slice (some ⟨b, 0, none⟩) q cap) hyi, rfl, congrArg (fun q => (b, cel 3 (q ++ junk)) :: H) (irows_flat' ys).symm, rfl⟩)
theorem c_pdq (l : List Int) (o : OSl 3 1 (irows l)) (hl : l.length ≤ 12) (z : Int) (H : Heap) (R : Facts) :
    Fn Tryz.prog 131 [o.fs, .int .i64 0, .int .i64 l.length, .int .i64 z] (o.G ++ H) R (fun v H' R' => ∃ ys, ∃ o' : OSl 3 1 (irows ys), SrtI l ys l.length ∧ o'.fs = o.fs ∧ v = .tuple #[] ∧ H' = o'.G ++ H ∧ R' = R) := by
 refine fn_of Tryz.func131 rfl Tryz.ntmps131 rfl ?_
 refine sy_seq ?_
 refine sy_tx' [0] rfl ?_
 refine sp rfl (PE.assign rfl) rfl ?_
 refine sy_seq ?_
 refine sy_tx' [0] rfl ?_
 refine sp rfl (PE.assign rfl) rfl ?_
 refine sy_block ?_
 refine sy_loop (ι := Unit) (fun _ => ⟨[(0, o.fs), (1, .int .i64 0), (2, .int .i64 l.length)], o.G ++ H, R⟩) (fun x => 0) () ?_ (fun x => ?_)
 exact sy_at (by repeat' first | exact Sub.nil | apply Sub.cons | rfl | (simp [lk]; omega)) (fun _ h => h)
 refine sy_block ?_
 refine sy_seq ?_
 refine sy_tx' [0, 1, 2, 3] rfl ?_
 refine sp rfl (PE.move rfl) rfl ?_
 refine sp rfl (PE.move rfl) rfl ?_
 refine sp rfl (PE.sub rfl rfl (by omega)) rfl ?_
 refine sp rfl (PE.assign rfl) rfl ?_
 refine sy_seq ?_
 refine sy_seq ?_
 refine sy_tx' [0, 1] rfl ?_
 refine sp rfl (PE.move rfl) rfl ?_
 refine sp rfl (PE.leq rfl rfl) rfl ?_
 refine sy_cond rfl (fun hc0 => ?_) (fun hc0 => ?_)
 refine sy_seq ?_
 refine sy_tx' [0, 1, 2, 3] rfl ?_
 refine sp rfl (PE.move rfl) rfl ?_
 refine sp rfl (PE.move rfl) rfl ?_
 refine sp rfl (PE.move rfl) rfl ?_
 refine cl rfl cal143 rfl rfl (c_ins l o hl _ _) ?_
 rintro _ _ R1 ⟨ys, o', hs, hof, rfl, rfl, hR1⟩
 obtain rfl := hR1.symm
 clear hR1
 refine sy_ret ?_
 exact sy_return (vs := []) rfl .nil rfl ⟨ys, o', hs, hof, rfl, rfl, rfl⟩ (fun _ h => h)
 simp only [decide_eq_false_iff_not] at hc0
 omega
theorem c_Len64 (k : Nat) (hk : k ≤ 12) (H : Heap) (R : Facts) :
    Fn Tryz.prog 153 [.int .u64 k] H R (fun v H' R' => ∃ z : Int, v = .int .i64 z ∧ H' = H ∧ R' = R) := by
 refine fn_of Tryz.func153 rfl Tryz.ntmps153 rfl ?_
 refine sy_seq ?_
 refine sy_tx' [0] rfl ?_
 refine sp rfl (PE.assign rfl) rfl ?_
 refine sy_seq ?_
 refine sy_seq ?_
 refine sy_tx' [0, 1] rfl ?_
 refine sp rfl (PE.move rfl) rfl ?_
 refine sp rfl (PE.geq rfl rfl) rfl ?_
 refine sy_cond rfl (fun hc0 => ?_) (fun hc0 => ?_)
 simp only [decide_eq_true_eq] at hc0
 omega
 refine sy_skip ?_
 refine sy_seq ?_
 refine sy_seq ?_
 refine sy_tx' [0, 1] rfl ?_
 refine sp rfl (PE.move rfl) rfl ?_
 refine sp rfl (PE.geq rfl rfl) rfl ?_
 refine sy_cond rfl (fun hc1 => ?_) (fun hc1 => ?_)
 simp only [decide_eq_true_eq] at hc1
 omega
 refine sy_skip ?_
 refine sy_seq ?_
 refine sy_seq ?_
 refine sy_tx' [0, 1] rfl ?_
 refine sp rfl (PE.move rfl) rfl ?_
 refine sp rfl (PE.geq rfl rfl) rfl ?_
 refine sy_cond rfl (fun hc2 => ?_) (fun hc2 => ?_)
 simp only [decide_eq_true_eq] at hc2
 omega
 refine sy_skip ?_
 refine sy_seq ?_
 refine sy_tx' [0, 1, 2, 3, 4, 5, 6] rfl ?_
 refine sp rfl (PE.move rfl) rfl ?_
 refine sp rfl (PE.move rfl) rfl ?_
 refine sp rfl ((PE.convert us204 ik5 rfl).to (by rw [wrap_u8_id (by omega) (by omega)])) rfl ?_
 refine spE rfl (PE.indexS (m := 256) istr9 rfl rfl (by kernel_rfl) (by omega)) rfl ?_
 rintro _ ⟨u22, rfl, hu22⟩
 refine sp rfl (PE.conv64 us5 ik3 rfl (by omega)) rfl ?_
 refine sp rfl (PE.add rfl rfl (by omega)) rfl ?_
 refine sp rfl (PE.assign rfl) rfl ?_
 refine sy_ret ?_
 exact sy_return (vs := [_]) rfl (.cons (RV.tmp rfl) .nil) rfl ⟨_, rfl, rfl, rfl⟩ (fun _ h => h)
theorem c_Len (k : Nat) (hk : k ≤ 12) (H : Heap) (R : Facts) :
    Fn Tryz.prog 132 [.int .u64 k] H R (fun v H' R' => ∃ z : Int, v = .int .i64 z ∧ H' = H ∧ R' = R) := by
 refine fn_of Tryz.func132 rfl Tryz.ntmps132 rfl ?_
 refine sy_seq ?_
 refine sy_tx' [0] rfl ?_
 refine sp rfl (PE.assign rfl) rfl ?_
 refine sy_seq ?_
 refine sy_condF rfl ?_
 refine sy_skip ?_
 refine sy_seq ?_
 refine sy_tx' [0, 1, 2] rfl ?_
 refine sp rfl (PE.move rfl) rfl ?_
 refine cl rfl cal153 rfl rfl (c_Len64 k hk _ _) ?_
 rintro _ _ R1 ⟨z, rfl, rfl, hR1⟩
 obtain rfl := hR1.symm
 clear hR1
 refine sp rfl (PE.assign rfl) rfl ?_
 refine sy_ret ?_
 exact sy_return (vs := [_]) rfl (.cons (RV.tmp rfl) .nil) rfl ⟨_, rfl, rfl, rfl⟩ (fun _ h => h)
theorem c_Sort (l : List Int) (o : OSl 3 1 (irows l)) (hl : l.length ≤ 12) (H : Heap) (R : Facts) :
    Fn Tryz.prog 97 [o.fs] (o.G ++ H) R (fun v H' R' => ∃ ys, ∃ o' : OSl 3 1 (irows ys), SrtI l ys l.length ∧ o'.fs = o.fs ∧ v = .tuple #[] ∧ H' = o'.G ++ H ∧ R' = R) := by
 obtain ⟨a, c, he, hcc, _⟩ := o.freezeC
 rw [show (irows l).length = l.length from List.length_map _] at he hcc
 refine fn_of Tryz.func97 rfl Tryz.ntmps97 rfl ?_
 refine sy_seq ?_
 refine sy_tx' [0, 1, 2] rfl ?_
 refine sp rfl (PE.move rfl) rfl ?_
 refine sp rfl (PE.lenSl isl28 (congrArg some he)) rfl ?_
 refine sp rfl (PE.assign rfl) rfl ?_
 refine sy_tx' [0, 1, 2, 3, 4, 5] rfl ?_
 refine sp rfl (PE.move rfl) rfl ?_
 refine sp rfl (PE.move rfl) rfl ?_
 refine sp rfl (PE.move rfl) rfl ?_
 refine sp rfl ((PE.convert us3 ik175 rfl).to (by rw [wrap_u64_id (by omega) (by omega)])) rfl ?_
 refine cl rfl cal132 rfl rfl (c_Len l.length hl _ _) ?_
 rintro _ _ R1 ⟨z, rfl, rfl, hR1⟩
 obtain rfl := hR1.symm
 clear hR1
 refine cl rfl cal131 rfl rfl (c_pdq l o hl z _ _) ?_
 rintro _ _ R1 ⟨ys, o', hs, hof, rfl, rfl, hR1⟩
 obtain rfl := hR1.symm
 clear hR1
 exact sy_fall (vs := []) rfl .nil rfl ⟨ys, o', hs, hof, rfl, rfl, rfl⟩ (fun _ h => h)
theorem c_Values (xs : List Int) (a : Option Addr) (c : Nat) (H : Heap) (R : Facts) :
    Fn Tryz.prog 58 [.slice a xs.length c] H R (fun v H' R' => ∃ b1, v = .func (.func 98) #[] #[.pointer (some ⟨b1, 0, none⟩)] ∧ H' = (b1, cel 28 [.slice a xs.length c]) :: H ∧ R' = R) := by
 refine fn_of Tryz.func58 rfl Tryz.ntmps58 rfl ?_
 refine sy_seq ?_
 refine sy_tx' [0, 1] rfl ?_
 refine bx rfl rfl rfl (fun b1 => ?_)
 refine sp rfl (PE.assign rfl) rfl ?_
 refine sy_seq ?_
 refine sy_tx' [0, 1] rfl ?_
 refine sp rfl (PE.makeFunc rfl rfl) rfl ?_
 refine sp rfl (PE.assign rfl) rfl ?_
 refine sy_ret ?_
 exact sy_return (vs := [_]) rfl (.cons (RV.tmp rfl) .nil) rfl ⟨b1, rfl, rfl, rfl⟩ (fun _ h => h)
theorem c_vals1 (xs : List Int) (a : Option Addr) (c b1 bl0 : Nat) (hl : xs.length ≤ 9223372036854775807) (I : Nat → Heap → Prop) (T0 : Heap) (h0 : I 0 T0) (R : Facts) [hR : MemRows a 1 (irows xs) R] (hy : ∀ k x T1, xs[k]? = some x → I k T1 → Yd Tryz.prog bl0 [.int .i64 x] ((b1, cel 28 [.slice a xs.length c]) :: T1) R (fun v H' R' => v = .bool true ∧ (∃ T', I (k + 1) T' ∧ H' = (b1, cel 28 [.slice a xs.length c]) :: T') ∧ R' = R)) :
    Fn Tryz.prog 98 [yv bl0, .pointer (some ⟨b1, 0, none⟩)] ((b1, cel 28 [.slice a xs.length c]) :: T0) R (fun v H' R' => ∃ T', I xs.length T' ∧ v = .tuple #[] ∧ H' = (b1, cel 28 [.slice a xs.length c]) :: T' ∧ R' = R) := by
 refine fn_of Tryz.func98 rfl Tryz.ntmps98 rfl ?_
 refine sy_seq ?_
 refine sy_tx' [0, 1, 2] rfl ?_
 refine spL rfl rfl (lh sc28 rfl rfl) rfl ?_
 refine sp rfl (PE.lenSl isl28 rfl) rfl ?_
 refine sp rfl (PE.move rfl) rfl ?_
 refine sy_block ?_
 refine sy_loop (ι := {x : Nat × Heap // x.1 ≤ xs.length ∧ I x.1 x.2}) (fun x => ⟨[(0, yv bl0), (5, .slice a xs.length c), (6, .int .i64 xs.length), (7, .int .i64 x.1.1)], (b1, cel 28 [.slice a xs.length c]) :: x.1.2, R⟩) (fun x => xs.length - x.1.1) ⟨(0, T0), by omega, h0⟩ ?_ (fun x => ?_)
 exact sy_at (by repeat' first | exact Sub.nil | apply Sub.cons | rfl | (simp [lk]; omega)) (fun _ h => h)
 obtain ⟨⟨k, T1⟩, hk, hI⟩ := x
 dsimp only at hk hI ⊢
 refine sy_seq ?_
 refine sy_tx' [0] rfl ?_
 refine sp rfl (PE.lss rfl rfl) rfl ?_
 refine sy_seq ?_
 refine sy_cond rfl (fun hc0 => ?_) (fun hc0 => ?_)
 try simp only [decide_eq_true_eq, decide_eq_false_iff_not, Bool.and_eq_true, Bool.or_eq_true, Bool.not_eq_true', Int.not_le, Int.not_lt] at hc0
 obtain ⟨x, hx⟩ : ∃ x, xs[k]? = some x := ⟨_, List.getElem?_eq_getElem (by omega)⟩
 refine sy_addr (a := a) (sz := 1) (rows := irows xs) (by intro h0; simp [irows] at h0; simp [h0] at hx) (fun ba oa he => ?_)
 subst he
 refine sy_skip ?_
 refine sy_seq ?_
 refine sy_block ?_
 refine sy_seq ?_
 refine sy_tx' [0, 1, 2] rfl ?_
 refine sp rfl (PE.indexAddr el28 rfl rfl (by omega) (by omega)) rfl ?_
 refine spL rfl rfl (lf0 (x := .int .i64 x) sc3 (by simp [irows, hx]; rfl) rfl) rfl ?_
 refine sp rfl (PE.assign rfl) rfl ?_
 refine sy_seq ?_
 refine sy_tx' [0, 1, 2, 3] rfl ?_
 refine sp rfl (PE.move rfl) rfl ?_
 refine sp rfl (PE.move rfl) rfl ?_
 refine clY rfl rfl rfl rfl (hy k x T1 hx hI) ?_
 rintro _ _ _ ⟨rfl, ⟨T2, hI2, rfl⟩, rfl⟩
 refine sp rfl (PE.not rfl) rfl ?_
 refine sy_condF rfl ?_
 refine sy_skip ?_
 refine sy_tx' [0, 1] rfl ?_
 refine sp rfl (PE.add rfl rfl (by omega)) rfl ?_
 refine sp rfl (PE.move rfl) rfl ?_
 exact sy_next ⟨(k + 1, T2), by omega, hI2⟩ (by dsimp only; omega) (by repeat' first | exact Sub.nil | apply Sub.cons | rfl | (simp [lk]; omega)) (fun _ h => h)
 try simp only [decide_eq_true_eq, decide_eq_false_iff_not, Bool.and_eq_true, Bool.or_eq_true, Bool.not_eq_true', Int.not_le, Int.not_lt] at hc0
 obtain rfl : k = xs.length := by omega
 refine sy_exit ?_
 repeat refine sy_tx ?_
 refine sy_bx ?_
 exact sy_fall (vs := []) rfl .nil rfl ⟨T1, hI, rfl, rfl, rfl⟩ (fun _ h => h)
theorem c_AppSeq (xs : List Int) (a : Option Addr) (c b1 : Nat) (hl : xs.length ≤ 1000000) (H : Heap) (R : Facts) [hR : MemRows a 1 (irows xs) R] :
    Fn Tryz.prog 130 [.slice none 0 0, .func (.func 98) #[] #[.pointer (some ⟨b1, 0, none⟩)]] ((b1, cel 28 [.slice a xs.length c]) :: H) R (fun v H' R' => ∃ o : OSl 3 1 (irows xs), v = o.fs ∧ H' = o.G ++ H ∧ R' = R) := by
 refine fnM_of Tryz.func130 rfl Tryz.ntmps130 rfl ?_
 refine sy_seq ?_
 refine sy_tx' [0, 1] rfl ?_
 refine bx rfl rfl rfl (fun b2 => ?_)
 refine sp rfl (PE.assign rfl) rfl ?_
 refine sy_seq ?_
 refine sy_seq ?_
 refine sy_tx' [0] rfl ?_
 refine sp rfl (PE.move rfl) rfl ?_
 refine sy_block ?_
 refine sy_range rfl cal98 (fun c0 bl0 bd0 hcp0 hca0 hcb0 hck0 => ?_)
 refine ⟨fun st pend T1 R' => R' = R ∧ pend = none ∧ ∃ o : OSl 3 1 (irows xs), T1 = (bd0, .deferred (some [])) :: (b1, cel 28 [.slice a xs.length c]) :: (o.G ++ ((b2, cel 28 [o.fs]) :: H)),
   Fn.mono (Fn.heapP (H' := (b1, cel 28 [.slice a xs.length c]) :: ((bl0, lob c0 .ready none) :: (bd0, .deferred (some [])) :: (b2, cel 28 [.slice none 0 0]) :: H)) (List.perm_middle (l₁ := [(bl0, lob c0 .ready none), (bd0, .deferred (some [])), (b2, cel 28 [.slice none 0 0])]) (a := (b1, cel 28 [.slice a xs.length c])))
     (c_vals1 xs a c b1 bl0 (by omega) (fun k T1 => ∃ o : OSl 3 1 (irows (xs.take k)), T1 = (bl0, lob c0 .ready none) :: (bd0, .deferred (some [])) :: (o.G ++ ((b2, cel 28 [o.fs]) :: H))) _ ⟨OSl.nil _ _, rfl⟩ _ (fun k x T1 hx hI => ?_))) (fun v H' R' h => ?_), ?_⟩
 rotate_left
 · obtain ⟨T', ⟨o, rfl⟩, _, rfl, rfl⟩ := h
   exact ⟨.ready, none, (bd0, .deferred (some [])) :: (b1, cel 28 [.slice a xs.length c]) :: (o.G ++ ((b2, cel 28 [o.fs]) :: H)), by simp, (List.Perm.swap _ _ _).trans (List.Perm.cons _ (.swap _ _ _)), rfl, rfl, o.cast (by rw [List.take_length]), rfl⟩
 rotate_left
 obtain ⟨o, rfl⟩ := hI
 refine yd_of hcp0 hca0 hcb0 hck0 rfl ?_
 refine sy_tx' [0] rfl ?_
 refine sp rfl (PE.assign rfl) rfl ?_
 refine sy_beginRound ?_
 refine sy_block ?_
 refine sy_tx' [0, 1, 2, 3, 4] rfl ?_
 refine spL rfl rfl (lh sc28 rfl rfl) rfl ?_
 refine sp rfl (PE.move rfl) rfl ?_
 refine bsl (out := [_]) rfl sl28 zl3 rfl rfl rfl rfl rfl rfl (fun b10 => ?_)
 refine apO (o) rfl ap28 rfl rfl (rowsH (row := [.int .i64 x]) rfl) rfl rfl ((by simp only [irows, List.length_map, List.length_singleton, List.length_take]; omega)) rfl (fun o11 => ?_)
 refine stoE (l' := [o11.fs]) rfl rfl rfl cn28 rfl (by rw [o11.cells.1]; first | done | rfl) (by rw [o11.cells.1]; simp [o11.cells.2]) (by rw [o11.cells.1]; first | done | rfl) (by rw [o11.cells.1]; first | done | exact Nat.le_refl _) ?_
 exact sy_roundOn ⟨rfl, ⟨_, ⟨o11.cast (by rw [List.take_add_one, hx]; simp [irows, List.map_take]), rfl⟩, rfl⟩, rfl⟩ (fun w h => ((h.del b10).pull b1))
 rintro _ _ _ _ ⟨rfl, rfl, o, rfl⟩
 refine sy_jn ?_
 refine sy_seq ?_
 refine sy_tx' [0, 1] rfl ?_
 refine spL rfl rfl (lh sc28 rfl rfl) rfl ?_
 refine sp rfl (PE.assign rfl) rfl ?_
 refine sy_ret ?_
 exact sy_returnM [bd0] (fun _ h => h) rfl (.cons (RV.tmp rfl) .nil) rfl ⟨o, rfl, rfl, rfl⟩ (fun w h => (h.del b1).del b2)
theorem c_Collect (xs : List Int) (a : Option Addr) (c b1 : Nat) (hl : xs.length ≤ 1000000) (H : Heap) (R : Facts) [hR : MemRows a 1 (irows xs) R] :
    Fn Tryz.prog 96 [.func (.func 98) #[] #[.pointer (some ⟨b1, 0, none⟩)]] ((b1, cel 28 [.slice a xs.length c]) :: H) R (fun v H' R' => ∃ o : OSl 3 1 (irows xs), v = o.fs ∧ H' = o.G ++ H ∧ R' = R) := by
 refine fn_of Tryz.func96 rfl Tryz.ntmps96 rfl ?_
 refine sy_seq ?_
 refine sy_tx' [0] rfl ?_
 refine sp rfl (PE.assign rfl) rfl ?_
 refine sy_seq ?_
 refine sy_tx' [0, 1, 2] rfl ?_
 refine sp rfl (PE.move rfl) rfl ?_
 refine cl rfl cal130 rfl rfl (c_AppSeq xs a c b1 hl _ _) ?_
 rintro _ _ R1 ⟨o, rfl, rfl, hR1⟩
 obtain rfl := hR1.symm
 clear hR1
 refine sp rfl (PE.assign rfl) rfl ?_
 refine sy_ret ?_
 exact sy_return (vs := [_]) rfl (.cons (RV.tmp rfl) .nil) rfl ⟨o, rfl, rfl, rfl⟩ (fun _ h => h)
theorem c_Sorted (xs : List Int) (a : Option Addr) (c b1 : Nat) (hl : xs.length ≤ 12) (H : Heap) (R : Facts) [hR : MemRows a 1 (irows xs) R] :
    Fn Tryz.prog 57 [.func (.func 98) #[] #[.pointer (some ⟨b1, 0, none⟩)]] ((b1, cel 28 [.slice a xs.length c]) :: H) R (fun v H' R' => ∃ ys, ∃ o : OSl 3 1 (irows ys), SrtI xs ys xs.length ∧ v = o.fs ∧ H' = o.G ++ H ∧ R' = R) := by
 refine fn_of Tryz.func57 rfl Tryz.ntmps57 rfl ?_
 refine sy_seq ?_
 refine sy_tx' [0] rfl ?_
 refine sp rfl (PE.assign rfl) rfl ?_
 refine sy_seq ?_
 refine sy_tx' [0, 1, 2] rfl ?_
 refine sp rfl (PE.move rfl) rfl ?_
 refine cl rfl cal96 rfl rfl (c_Collect xs a c b1 (by omega) _ _) ?_
 rintro _ _ R1 ⟨o, rfl, rfl, hR1⟩
 obtain rfl := hR1.symm
 clear hR1
 refine sp rfl (PE.assign rfl) rfl ?_
 refine sy_seq ?_
 refine sy_tx' [0, 1] rfl ?_
 refine sp rfl (PE.move rfl) rfl ?_
 refine cl rfl cal97 rfl rfl (c_Sort xs o hl _ _) ?_
 rintro _ _ R1 ⟨ys, o', hs, hof, rfl, rfl, hR1⟩
 obtain rfl := hR1.symm
 clear hR1
 rw [← hof]
 refine sy_seq ?_
 refine sy_tx' [0, 1] rfl ?_
 refine sp rfl (PE.move rfl) rfl ?_
 refine sp rfl (PE.assign rfl) rfl ?_
 refine sy_ret ?_
 exact sy_return (vs := [_]) rfl (.cons (RV.tmp rfl) .nil) rfl ⟨ys, o', hs, rfl, rfl, rfl⟩ (fun _ h => h)
theorem c_Compact (l : List Int) (o : OSl 3 1 (irows l)) (hl : l.length ≤ 1000) (H : Heap) (R : Facts) :
    Fn Tryz.prog 59 [o.fs] (o.G ++ H) R (fun v H' R' => ∃ a m c', v = .slice a m c' ∧ ((m = l.length ∧ ∀ p, p + 1 < l.length → nn l p ≠ nn l (p + 1)) ∨ (m < l.length ∧ ∃ p, p + 1 < l.length ∧ nn l p = nn l (p + 1))) ∧ H' = H ∧ R' = R) := by
 obtain ⟨a, c, he, hcc, _⟩ := o.freezeC
 rw [show (irows l).length = l.length from List.length_map _] at he hcc
 refine fn_of Tryz.func59 rfl Tryz.ntmps59 rfl ?_
 refine sy_seq ?_
 refine sy_tx' [0] rfl ?_
 refine sp rfl (PE.assign rfl) rfl ?_
 refine sy_seq ?_
 refine sy_seq ?_
 refine sy_tx' [0, 1, 2] rfl ?_
 refine sp rfl (PE.move rfl) rfl ?_
 refine sp rfl (PE.lenSl isl28 (congrArg some he)) rfl ?_
 refine sp rfl (PE.lss rfl rfl) rfl ?_
 refine sy_cond rfl (fun hc0 => ?_) (fun hc0 => ?_)
 try simp only [decide_eq_true_eq, decide_eq_false_iff_not, Bool.and_eq_true, Bool.or_eq_true, Bool.not_eq_true', Int.not_le, Int.not_lt] at hc0
 rw [he]
 refine sy_seq ?_
 refine sy_tx' [0, 1] rfl ?_
 refine sp rfl (PE.move rfl) rfl ?_
 refine sp rfl (PE.assign rfl) rfl ?_
 refine sy_ret ?_
 exact sy_return (vs := [_]) rfl (.cons (RV.tmp rfl) .nil) rfl ⟨a, l.length, c, rfl, .inl ⟨rfl, fun p hp => by omega⟩, rfl, rfl⟩ (fun w h => St.drop h)
 try simp only [decide_eq_true_eq, decide_eq_false_iff_not, Bool.and_eq_true, Bool.or_eq_true, Bool.not_eq_true', Int.not_le, Int.not_lt] at hc0
 have hir : (irows l).length = l.length := List.length_map _
 obtain ⟨b, cap, junk, hfs, hG, hj, hcap, hmx⟩ := o.is.resolve_left (fun h => by rw [h.1] at hir; simp at hir; omega)
 rw [hir] at hfs hcap hj
 rw [hfs, hG, irows_flat']
 refine Sy.heap (H' := (b, cel 3 (ints l ++ junk)) :: H) (fun w h => h) ?_
 clear he
 refine sy_skip ?_
 refine sy_seq ?_
 refine sy_seq ?_
 refine sy_tx' [0] rfl ?_
 refine sp rfl (PE.assign rfl) rfl ?_
 refine sy_block ?_
 refine sy_loop (ι := {k : Nat // 1 ≤ k ∧ k ≤ l.length ∧ ∀ p, p + 1 < k → nn l p ≠ nn l (p + 1)}) (fun k => ⟨[(0, .slice (some ⟨b, 0, none⟩) l.length cap), (3, .int .i64 k.1)], (b, cel 3 (ints l ++ junk)) :: H, R⟩) (fun k => l.length - k.1) ⟨1, by omega, by omega, fun p hp => by omega⟩ ?_ (fun k => ?_)
 exact sy_at (by repeat' first | exact Sub.nil | apply Sub.cons | rfl | (simp [lk]; omega)) (fun _ h => h)
 obtain ⟨k, hk1, hk2, hne⟩ := k
 dsimp only at hk1 hk2 hne ⊢
 refine sy_seq ?_
 refine sy_seq ?_
 refine sy_tx' [0, 1, 2, 3] rfl ?_
 refine sp rfl (PE.move rfl) rfl ?_
 refine sp rfl (PE.move rfl) rfl ?_
 refine sp rfl (PE.lenSl isl28 rfl) rfl ?_
 refine sp rfl (PE.lss rfl rfl) rfl ?_
 refine sy_cond rfl (fun hc1 => ?_) (fun hc1 => ?_)
 try simp only [decide_eq_true_eq, decide_eq_false_iff_not, Bool.and_eq_true, Bool.or_eq_true, Bool.not_eq_true', Int.not_le, Int.not_lt] at hc1
 refine sy_skip ?_
 refine sy_seq ?_
 refine sy_block ?_
 refine sy_seq ?_
 refine sy_draw [0, 0, 3, 7, 0, 0, 32, 112, 240, 511] (.tk 0 (.tk 1 (.tk 2 (.ld 3 (.tk 4 (.tk 5 (.tk 6 (.tk 7 (.ld 8 (.tk 9 .done)))))))))) mixed (by kernel_rfl) ?_
 refine tk rfl (PE.move rfl) rfl ?_
 refine tk rfl (PE.move rfl) rfl ?_
 refine tk rfl (PE.indexAddr el28 rfl rfl (by omega) (by omega)) rfl ?_
 refine ld rfl rfl (lh sc3 rfl (int_at (by omega))) rfl ?_
 refine tk rfl (PE.move rfl) rfl ?_
 refine tk rfl (PE.move rfl) rfl ?_
 refine tk rfl (PE.sub rfl rfl (by omega)) rfl ?_
 rw [show (k : Int) - 1 = ((k - 1 : Nat) : Int) from by omega]
 refine tk rfl (PE.indexAddr el28 rfl rfl (by omega) (by omega)) rfl ?_
 refine ld rfl rfl (lh sc3 rfl (int_at (by omega))) rfl ?_
 refine tk rfl (PE.eql rfl rfl) rfl ?_
 refine sy_cond rfl (fun hc2 => ?_) (fun hc2 => ?_)
 try simp only [decide_eq_true_eq, decide_eq_false_iff_not, Bool.and_eq_true, Bool.or_eq_true, Bool.not_eq_true', Int.not_le, Int.not_lt] at hc2
 refine sy_seq ?_
 refine sy_tx' [0, 1, 2, 3] rfl ?_
 refine sp rfl (PE.move rfl) rfl ?_
 refine sp rfl (PE.move rfl) rfl ?_
 refine sp rfl (PE.slLo sl28 rfl rfl (by omega) (by omega)) rfl ?_
 refine sp rfl (PE.assign rfl) rfl ?_
 refine sy_seq ?_
 refine sy_seq ?_
 refine sy_tx' [0] rfl ?_
 refine sp rfl (PE.assign rfl) rfl ?_
 refine sy_block ?_
 refine sy_loop (ι := {x : Nat × Nat × List Int // k ≤ x.1 ∧ x.1 + 1 ≤ k + x.2.1 ∧ 1 ≤ x.2.1 ∧ x.2.1 ≤ l.length - k ∧ x.2.2.length = l.length}) (fun x => ⟨[(0, .slice (some ⟨b, 0, none⟩) l.length cap), (3, .int .i64 x.1.1), (4, .slice (some ⟨b, 0 + k * 1, none⟩) (l.length - k) (cap - k)), (5, .int .i64 x.1.2.1)], (b, cel 3 (ints x.1.2.2 ++ junk)) :: H, R⟩) (fun x => l.length - x.1.2.1) ⟨(k, 1, l), by dsimp only; omega, by dsimp only; omega, by dsimp only; omega, by dsimp only; omega, rfl⟩ ?_ (fun x => ?_)
 exact sy_at (by repeat' first | exact Sub.nil | apply Sub.cons | rfl | (simp [lk]; omega)) (fun _ h => h)
 obtain ⟨⟨m, q, ys⟩, hm1, hm2, hq1, hq2, hyl⟩ := x
 dsimp only at hm1 hm2 hq1 hq2 hyl ⊢
 refine sy_seq ?_
 refine sy_seq ?_
 refine sy_tx' [0, 1, 2, 3] rfl ?_
 refine sp rfl (PE.move rfl) rfl ?_
 refine sp rfl (PE.move rfl) rfl ?_
 refine sp rfl (PE.lenSl isl28 rfl) rfl ?_
 refine sp rfl (PE.lss rfl rfl) rfl ?_
 refine sy_cond rfl (fun hc3 => ?_) (fun hc3 => ?_)
 try simp only [decide_eq_true_eq, decide_eq_false_iff_not, Bool.and_eq_true, Bool.or_eq_true, Bool.not_eq_true', Int.not_le, Int.not_lt] at hc3
 refine sy_skip ?_
 refine sy_seq ?_
 refine sy_block ?_
 refine sy_seq ?_
 refine sy_draw [0, 0, 3, 7, 0, 0, 32, 112, 240, 511] (.tk 0 (.tk 1 (.tk 2 (.ld 3 (.tk 4 (.tk 5 (.tk 6 (.tk 7 (.ld 8 (.tk 9 .done)))))))))) mixed (by kernel_rfl) ?_
 refine tk rfl (PE.move rfl) rfl ?_
 refine tk rfl (PE.move rfl) rfl ?_
 refine tk rfl (PE.indexAddr el28 rfl rfl (by omega) (by omega)) rfl ?_
 refine ld rfl rfl (lh sc3 rfl (int_at2 (by omega))) rfl ?_
 refine tk rfl (PE.move rfl) rfl ?_
 refine tk rfl (PE.move rfl) rfl ?_
 refine tk rfl (PE.sub rfl rfl (by omega)) rfl ?_
 rw [show (q : Int) - 1 = ((q - 1 : Nat) : Int) from by omega]
 refine tk rfl (PE.indexAddr el28 rfl rfl (by omega) (by omega)) rfl ?_
 refine ld rfl rfl (lh sc3 rfl (int_at2 (by omega))) rfl ?_
 refine tk rfl (PE.neq rfl rfl) rfl ?_
 refine sy_cond rfl (fun hc4 => ?_) (fun hc4 => ?_)
 try simp only [decide_eq_true_eq, decide_eq_false_iff_not, Bool.and_eq_true, Bool.or_eq_true, Bool.not_eq_true', Int.not_le, Int.not_lt] at hc4
 refine sy_seq ?_
 refine sy_tx' [0, 1, 2, 3, 4, 5, 6, 7] rfl ?_
 refine sp rfl (PE.move rfl) rfl ?_
 refine sp rfl (PE.move rfl) rfl ?_
 refine sp rfl (PE.move rfl) rfl ?_
 refine sp rfl (PE.move rfl) rfl ?_
 refine sp rfl (PE.indexAddr el28 rfl rfl (by omega) (by omega)) rfl ?_
 refine spL rfl rfl (lh sc3 rfl (int_at2 (by omega))) rfl ?_
 refine sp rfl (PE.indexAddr el28 rfl rfl (by omega) (by omega)) rfl ?_
 refine stoE (l' := ints ((ys).set m (nn ys (k + q))) ++ junk) rfl rfl rfl cn3 rfl rfl rfl (spl_int (show m < ys.length by omega) _) (by rw [List.length_append, ints_length]; show 0 + ((m : Nat) : Int).toNat * 1 + 1 ≤ _; have := (show m < ys.length by omega); omega) ?_
 refine sy_tx' [0, 1, 2] rfl ?_
 refine sp rfl (PE.move rfl) rfl ?_
 refine sp rfl (PE.add rfl rfl (by omega)) rfl ?_
 refine sp rfl (PE.assign rfl) rfl ?_
 refine sy_tx' [0, 1, 2] rfl ?_
 refine sp rfl (PE.move rfl) rfl ?_
 refine sp rfl (PE.add rfl rfl (by omega)) rfl ?_
 refine sp rfl (PE.assign rfl) rfl ?_
 exact sy_next ⟨(m + 1, q + 1, ys.set m (nn ys (k + q))), by dsimp only; omega, by dsimp only; omega, by dsimp only; omega, by dsimp only; omega, by rw [List.length_set]; exact hyl⟩ (by dsimp only; omega) (by repeat' first | exact Sub.nil | apply Sub.cons | rfl | (simp [lk]; omega)) (fun _ h => h)
 try simp only [decide_eq_true_eq, decide_eq_false_iff_not, Bool.and_eq_true, Bool.or_eq_true, Bool.not_eq_true', Int.not_le, Int.not_lt] at hc4
 refine sy_skip ?_
 refine sy_tx' [0, 1, 2] rfl ?_
 refine sp rfl (PE.move rfl) rfl ?_
 refine sp rfl (PE.add rfl rfl (by omega)) rfl ?_
 refine sp rfl (PE.assign rfl) rfl ?_
 exact sy_next ⟨(m, q + 1, ys), by dsimp only; omega, by dsimp only; omega, by dsimp only; omega, by dsimp only; omega, hyl⟩ (by dsimp only; omega) (by repeat' first | exact Sub.nil | apply Sub.cons | rfl | (simp [lk]; omega)) (fun _ h => h)
 try simp only [decide_eq_true_eq, decide_eq_false_iff_not, Bool.and_eq_true, Bool.or_eq_true, Bool.not_eq_true', Int.not_le, Int.not_lt] at hc3
 refine sy_exit ?_
 repeat refine sy_tx ?_
 refine sy_bx ?_
 refine sy_seq ?_
 refine sy_tx' [0, 1, 2, 3] rfl ?_
 refine sp rfl (PE.move rfl) rfl ?_
 refine sp rfl (PE.move rfl) rfl ?_
 refine sp rfl (PE.slLo sl28 rfl rfl (by omega) (by omega)) rfl ?_
 refine clrA rfl rfl sl28 zl3 rfl rfl rfl (by rw [List.length_append, ints_length]; omega) ?_
 refine sy_seq ?_
 refine sy_tx' [0, 1, 2, 3] rfl ?_
 refine sp rfl (PE.move rfl) rfl ?_
 refine sp rfl (PE.move rfl) rfl ?_
 refine sp rfl (PE.slHi sl28 rfl rfl (by omega)) rfl ?_
 refine sp rfl (PE.assign rfl) rfl ?_
 refine sy_ret ?_
 first
   | exact sy_return (vs := [_]) rfl (.cons (RV.tmp rfl) .nil) rfl ⟨_, m, cap, rfl, .inr ⟨by omega, k - 1, by omega, by rw [show k - 1 + 1 = k from by omega]; exact hc2.symm⟩, rfl, rfl⟩ (fun w h => h.del b)
   | exact sy_return (vs := [_]) rfl (.cons (RV.tmp rfl) .nil) rfl ⟨_, l.length, cap, rfl, .inl ⟨rfl, hne⟩, rfl, rfl⟩ (fun w h => h.del b)
 try simp only [decide_eq_true_eq, decide_eq_false_iff_not, Bool.and_eq_true, Bool.or_eq_true, Bool.not_eq_true', Int.not_le, Int.not_lt] at hc2
 refine sy_skip ?_
 refine sy_tx' [0, 1, 2] rfl ?_
 refine sp rfl (PE.move rfl) rfl ?_
 refine sp rfl (PE.add rfl rfl (by omega)) rfl ?_
 refine sp rfl (PE.assign rfl) rfl ?_
 exact sy_next ⟨k + 1, by omega, by omega, fun p hp => by rcases Nat.lt_or_ge (p + 1) k with h1 | h1; exact hne p h1; obtain rfl : p + 1 = k := (by omega); simp only [Nat.add_sub_cancel] at hc2; exact fun e => hc2 e.symm⟩ (by dsimp only; omega) (by repeat' first | exact Sub.nil | apply Sub.cons | rfl | (simp [lk]; omega)) (fun _ h => h)
 try simp only [decide_eq_true_eq, decide_eq_false_iff_not, Bool.and_eq_true, Bool.or_eq_true, Bool.not_eq_true', Int.not_le, Int.not_lt] at hc1
 obtain rfl : k = l.length := by omega
 refine sy_exit ?_
 repeat refine sy_tx ?_
 refine sy_bx ?_
 refine sy_seq ?_
 refine sy_tx' [0, 1] rfl ?_
 refine sp rfl (PE.move rfl) rfl ?_
 refine sp rfl (PE.assign rfl) rfl ?_
 refine sy_ret ?_
 first
   | exact sy_return (vs := [_]) rfl (.cons (RV.tmp rfl) .nil) rfl ⟨_, m, cap, rfl, .inr ⟨by omega, k - 1, by omega, by rw [show k - 1 + 1 = k from by omega]; exact hc2.symm⟩, rfl, rfl⟩ (fun w h => h.del b)
   | exact sy_return (vs := [_]) rfl (.cons (RV.tmp rfl) .nil) rfl ⟨_, l.length, cap, rfl, .inl ⟨rfl, hne⟩, rfl, rfl⟩ (fun w h => h.del b)
end Go.Proofs.YtknoaljnelfklaaGreat
namespace Go.Proofs.YtknoaljnelfklaaGreat
set_option linter.unusedSimpArgs false
set_option linter.unusedVariables false
open Go
theorem cal56 : cal Tryz.prog 56 = true := by kernel_rfl
theorem cal57 : cal Tryz.prog 57 = true := by kernel_rfl
theorem cal58 : cal Tryz.prog 58 = true := by kernel_rfl
theorem cal59 : cal Tryz.prog 59 = true := by kernel_rfl
theorem agrE_0 {g : Gat} {c : Crt} {l : List Int} (h0 : bothE g c = 0) (h1 : (l.all fun i => inb i 0 ((c.hs.length : Int) - 1)) = true) (h2 : l.Nodup) : agrE g c l = 0 := by
  unfold agrE
  rw [decide_eq_false (by omega), h1, decide_eq_true h2]; rfl
theorem agrR_no {g : Gat} {c : Crt} {l : List Int} {e : Int} (h : agrE g c l = e) (h0 : e ≠ 0) : agrR g c l = false := by
  unfold agrR; rw [h, decide_eq_true h0]; rfl
theorem agrR_0 {g : Gat} {c : Crt} {l : List Int} (h : agrE g c l = 0) : agrR g c l = agr g.miss c.hs (flt l) := by
  unfold agrR; rw [h]; rfl
theorem c_hasHnd (g : Gat) (hg : g.ok) (ag : Option Addr) (cg : Nat) (c : Crt) (hc : c.ok) (ah : Option Addr) (ch : Nat) (bw : Nat) (n : Int) (H : Heap) (R : Facts) [hW : MemRows (some ⟨bw, 0, none⟩) 6 [wrow g c (g.sl ag cg) (c.sl ah ch)] R] [hG : MemRows ag 5 (grows g.grs) R] [hA : MemRows ah 5 (hrows c.hs) R] :
    FnV Tryz.prog 56 [.pointer (some ⟨bw, 0, none⟩), .int .i64 n] H R (.bool (inb n 0 ((c.hs.length : Int) - 1))) := by
 refine fn_of Tryz.func56 rfl Tryz.ntmps56 rfl ?_
 refine sy_seq ?_
 refine sy_tx' [0] rfl ?_
 refine sp rfl (PE.assign rfl) rfl ?_
 refine sy_seq ?_
 refine sy_tx' [0, 1, 2, 3, 4, 5, 6, 7, 8, 9] rfl ?_
 refine sp rfl (PE.move rfl) rfl ?_
 refine sp rfl (PE.move rfl) rfl ?_
 refine sp rfl (PE.nilCheck rfl) rfl ?_
 refine sp rfl (PE.fieldAddr fo151_0 rfl) rfl ?_
 refine sp rfl (PE.fieldAddr fo27_2 rfl) rfl ?_
 refine spL rfl rfl (lfB (sz := 6) sc25 rfl) rfl ?_
 refine sp rfl (PE.lenSl isl25 rfl) rfl ?_
 refine sp rfl (PE.sub rfl rfl (by have := hc.many; omega)) rfl ?_
 refine clV rfl cal71 rfl rfl (c_in _ _ _ _ _) ?_
 refine sp rfl (PE.assign rfl) rfl ?_
 refine sy_ret ?_
 exact sy_return (vs := [_]) rfl (.cons (RV.tmp rfl) .nil) rfl ⟨rfl, rfl, rfl⟩ drp
theorem c_Agree (g : Gat) (ag : Option Addr) (cg : Nat) (hlg : g.grs.length ≤ 9223372036854775807) (c : Crt) (ah : Option Addr) (ch : Nat) (hlh : c.hs.length ≤ 9223372036854775807) (l : List Int) (al : Option Addr) (cy : Nat) (hl : l.length ≤ 12) (H : Heap) (R : Facts) [hG : MemRows ag 5 (grows g.grs) R] [hA : MemRows ah 5 (hrows c.hs) R] [hL : MemRows al 1 (irows l) R] :
    FnV Tryz.prog 20 [g.v (g.sl ag cg), c.v (c.sl ah ch), .slice al l.length cy] H R (.tuple #[.bool (agrR g c l), .int .i64 (agrE g c l)]) := by
 refine fn_of Tryz.func20 rfl Tryz.ntmps20 rfl ?_
 refine sy_seq ?_
 refine sy_tx' [0, 1, 2, 3] rfl ?_
 refine bx rfl rfl rfl (fun b3 => ?_)
 refine bx rfl rfl rfl (fun b4 => ?_)
 refine sp rfl (PE.assign rfl) rfl ?_
 refine sp rfl (PE.assign rfl) rfl ?_
 refine sy_seq ?_
 refine sy_tx' [0, 1, 2, 3, 4, 5, 6, 7] rfl ?_
 refine spL rfl rfl (lhA [_, _, _] ag24 rfl rfl rfl) rfl ?_
 refine spL rfl rfl (lhA [_, _, _] ag27 rfl rfl rfl) rfl ?_
 refine cl rfl cal54 rfl rfl (c_opened g ag cg hlg c ah ch hlh _ _) ?_
 rintro _ _ _ ⟨rfl, ho⟩
 rcases ho with ⟨hne, rfl, rfl⟩ | ⟨hg, hc, h0, bw, rfl, rfl⟩
 refine sp rfl (PE.move rfl) rfl ?_
 refine sp rfl (PE.extract rfl rfl) rfl ?_
 refine sp rfl (PE.extract rfl rfl) rfl ?_
 refine sp rfl (PE.assign rfl) rfl ?_
 refine sp rfl (PE.assign rfl) rfl ?_
 refine sy_seq ?_
 refine sy_seq ?_
 refine sy_tx' [0, 1] rfl ?_
 refine sp rfl (PE.move rfl) rfl ?_
 refine sp rfl (PE.neq rfl rfl) rfl ?_
 refine sy_cond rfl (fun hc0 => ?_) (fun hc0 => ?_)
 have he2 : agrE g c l = bothE g c := by unfold agrE; rw [decide_eq_true hne]; rfl
 have he1 := agrR_no he2 hne
 refine sy_seq ?_
 refine sy_tx' [0, 1, 2] rfl ?_
 refine sp rfl (PE.move rfl) rfl ?_
 refine sp rfl (PE.assign rfl) rfl ?_
 refine sp rfl (PE.assign rfl) rfl ?_
 refine sy_ret ?_
 exact sy_return (vs := [_, _]) rfl (.cons (RV.tmp rfl) (.cons (RV.tmp rfl) .nil)) (by rw [he1, he2]; rfl) ⟨rfl, rfl, rfl⟩ drp
 exact absurd hc0 (by simp [hne])
 refine sp rfl (PE.move rfl) rfl ?_
 refine sp rfl (PE.extract rfl rfl) rfl ?_
 refine sp rfl (PE.extract rfl rfl) rfl ?_
 refine sp rfl (PE.assign rfl) rfl ?_
 refine sp rfl (PE.assign rfl) rfl ?_
 refine sy_seq ?_
 refine sy_seq ?_
 refine sy_tx' [0, 1] rfl ?_
 refine sp rfl (PE.move rfl) rfl ?_
 refine sp rfl (PE.neq rfl rfl) rfl ?_
 refine sy_cond rfl (fun hc0 => ?_) (fun hc0 => ?_)
 exact absurd hc0 (by simp)
 refine sy_skip ?_
 refine sy_seq ?_
 refine sy_seq ?_
 refine sy_tx' [0, 1, 2, 3, 4] rfl ?_
 refine sp rfl (PE.move rfl) rfl ?_
 refine sp rfl (PE.move rfl) rfl ?_
 refine sp rfl (PE.makeFunc rfl rfl) rfl ?_
 refine clV rfl cal55 rfl rfl (c_every_int l al cy 56 [.pointer (some ⟨bw, 0, none⟩)] [] (fun i => inb i 0 ((c.hs.length : Int) - 1)) cal56 (by omega) _ _ (fun b y _ => c_hasHnd g hg ag cg c hc ah ch bw y _ _)) ?_
 refine sp rfl (PE.not rfl) rfl ?_
 refine sy_cond rfl (fun hc1 => ?_) (fun hc1 => ?_)
 have hal : (l.all fun i => inb i 0 ((c.hs.length : Int) - 1)) = false := by simpa using hc1
 have he2 : agrE g c l = 1 := by unfold agrE; rw [decide_eq_false (by omega), hal]; rfl
 have he1 := agrR_no he2 (by decide)
 refine sy_seq ?_
 refine sy_tx' [0, 1] rfl ?_
 refine sp rfl (PE.assign rfl) rfl ?_
 refine sp rfl (PE.assign rfl) rfl ?_
 refine sy_ret ?_
 exact sy_return (vs := [_, _]) rfl (.cons (RV.tmp rfl) (.cons (RV.tmp rfl) .nil)) (by rw [he1, he2]; rfl) ⟨rfl, rfl, rfl⟩ drp
 have hal : (l.all fun i => inb i 0 ((c.hs.length : Int) - 1)) = true := by simpa using hc1
 refine sy_skip ?_
 refine sy_seq ?_
 refine sy_seq ?_
 refine sy_tx' [0, 1, 2, 3] rfl ?_
 refine sp rfl (PE.move rfl) rfl ?_
 refine cl rfl cal58 rfl rfl (c_Values l al cy _ _) ?_
 rintro _ _ R1 ⟨b1, rfl, rfl, hR1⟩
 obtain rfl := hR1.symm
 clear hR1
 refine cl rfl cal57 rfl rfl (c_Sorted l al cy b1 hl _ _) ?_
 rintro _ _ R1 ⟨ys, o, hs, rfl, rfl, hR1⟩
 obtain rfl := hR1.symm
 clear hR1
 have hyl := hs.perm.length_eq
 refine sp rfl (PE.assign rfl) rfl ?_
 refine sy_seq ?_
 refine sy_tx' [0, 1, 2, 3, 4, 5] rfl ?_
 refine sp rfl (PE.move rfl) rfl ?_
 refine cl rfl cal59 rfl rfl (c_Compact ys o (by omega) _ _) ?_
 rintro _ _ R1 ⟨az, m, cz, rfl, hm, rfl, hR1⟩
 obtain rfl := hR1.symm
 clear hR1
 refine sp rfl (PE.lenSl isl28 rfl) rfl ?_
 refine sp rfl (PE.move rfl) rfl ?_
 refine sp rfl (PE.lenSl isl28 rfl) rfl ?_
 refine sp rfl (PE.lss rfl rfl) rfl ?_
 refine sy_cond rfl (fun hc2 => ?_) (fun hc2 => ?_)
 try simp only [decide_eq_true_eq, decide_eq_false_iff_not, Bool.and_eq_true, Bool.or_eq_true, Bool.not_eq_true', Int.not_le, Int.not_lt] at hc2
 obtain ⟨p, hp, hpe⟩ := (hm.resolve_left (fun h => by omega)).2
 have hnd : ¬ l.Nodup := fun h => pair_ne hp (hs.perm.nodup_iff.2 h) hpe
 have he2 : agrE g c l = 5 := by unfold agrE; rw [decide_eq_false (by omega), hal, decide_eq_false hnd]; rfl
 have he1 := agrR_no he2 (by decide)
 refine sy_seq ?_
 refine sy_tx' [0, 1] rfl ?_
 refine sp rfl (PE.assign rfl) rfl ?_
 refine sp rfl (PE.assign rfl) rfl ?_
 refine sy_ret ?_
 exact sy_return (vs := [_, _]) rfl (.cons (RV.tmp rfl) (.cons (RV.tmp rfl) .nil)) (by rw [he1, he2]; rfl) ⟨rfl, rfl, rfl⟩ drp
 try simp only [decide_eq_true_eq, decide_eq_false_iff_not, Bool.and_eq_true, Bool.or_eq_true, Bool.not_eq_true', Int.not_le, Int.not_lt] at hc2
 have hnd : l.Nodup := srt_nd hs (by omega) (hm.resolve_right (fun h => by omega)).2
 have he2 := agrE_0 h0 hal hnd
 have he1 := agrR_0 he2
 refine sy_skip ?_
 refine sy_seq ?_
 refine sy_tx' [0, 1, 2, 3, 4, 5] rfl ?_
 refine sp rfl (PE.move rfl) rfl ?_
 refine sp rfl (PE.move rfl) rfl ?_
 refine cl rfl cal61 rfl rfl (c_some l al cy _ _) ?_
 rintro _ _ R1 ⟨bs, rfl, rfl, hR1⟩
 obtain rfl := hR1.symm
 clear hR1
 refine clV rfl cal60 rfl rfl (c_agree g hg ag cg c hc ah ch bw 101 [.pointer (some ⟨bs, 0, none⟩)] (flt l) cal101 _ _ (fun G i hi => c_some1 l al cy bs (by omega) i _ _)) ?_
 refine sp rfl (PE.assign rfl) rfl ?_
 refine sp rfl (PE.assign rfl) rfl ?_
 refine sy_ret ?_
 exact sy_return (vs := [_, _]) rfl (.cons (RV.tmp rfl) (.cons (RV.tmp rfl) .nil)) (by rw [he1, he2]; rfl) ⟨rfl, rfl, rfl⟩ (fun w h => St.ftail (((h.del bs).del b4).del b3))
end Go.Proofs.YtknoaljnelfklaaGreat
namespace Go.Proofs.YtknoaljnelfklaaGreat
set_option linter.unusedSimpArgs false
set_option linter.unusedVariables false
open Go
theorem cal7 : cal Tryz.prog 7 = true := by kernel_rfl
theorem OSl.mk1 {e b n : Nat} {hs : List Hnd} (hn : hs.length = n) (hm : n ≤ 1000) : ∃ o : OSl e 5 (hrows hs), o.fs = .slice (some ⟨b, 0, none⟩) n n ∧ o.G = [(b, cel e ((hrows hs).flatten ++ []))] := by
  subst hn
  exact ⟨⟨.slice (some ⟨b, 0, none⟩) hs.length hs.length, [(b, cel e ((hrows hs).flatten ++ []))], hrows_len _, .inr ⟨b, hs.length, [], by rw [hr_len], rfl, by rw [hr_len]; rfl, by rw [hr_len]; exact Nat.le_refl _, by omega⟩⟩, rfl, rfl⟩
end Go.Proofs.YtknoaljnelfklaaGreat
namespace Go.Proofs.YtknoaljnelfklaaGreat
set_option linter.unusedSimpArgs false
set_option linter.unusedVariables false
open Go
theorem ub4 : Tryz.prog.underlying 4 = some .bool := by kernel_rfl
end Go.Proofs.YtknoaljnelfklaaGreat
namespace Go.Proofs.YtknoaljnelfklaaGreat
set_option linter.unusedSimpArgs false
set_option linter.unusedVariables false
open Go
structure AllI (a b d : Nat) (ms : List Mix) : Prop where
  mx : ∀ m ∈ ms, Mxt m
  all : ∀ m, Mxt m → (nn m 0 < a ∨ (nn m 0 = a ∧ nn m 1 < b) ∨ (nn m 0 = a ∧ nn m 1 = b ∧ nn m 2 < d)) → m ∈ ms
  len : ms.length ≤ 1681 * a + 41 * b + d
theorem AllI.start : AllI 0 0 0 [] := ⟨by simp, fun m hm h => by
  have h0 := hm.at_ 0 (by omega); have h1 := hm.at_ 1 (by omega); have h2 := hm.at_ 2 (by omega)
  omega, by simp⟩
def mixOf (a b d : Nat) : Mix := [(a : Int), (b : Int), (d : Int), 40 - a - b - d]
theorem mixOf_ok {a b d : Nat} (h : a + b + d ≤ 40) : Mxt (mixOf a b d) := ⟨rfl, by simp [mixOf, sum4, nn]; omega, of4 ⟨by simp [mixOf, nn]; omega, by simp [mixOf, nn]; omega, by simp [mixOf, nn]; omega, by simp [mixOf, nn]; omega⟩⟩
theorem AllI.more {a b d : Nat} {ms : List Mix} (h : AllI a b d ms) (hs : a + b + d ≤ 40) : AllI a b (d + 1) (ms ++ [mixOf a b d]) := by
  refine ⟨fun m hm => ?_, fun m hm hlt => ?_, by have := h.len; simp; omega⟩
  · rcases List.mem_append.1 hm with hm | hm
    · exact h.mx m hm
    · obtain rfl := List.mem_singleton.1 hm; exact mixOf_ok hs
  · by_cases he : nn m 0 = a ∧ nn m 1 = b ∧ nn m 2 = d
    · have hsm := hm.sum
      obtain ⟨x0, x1, x2, x3, rfl⟩ := list4 hm.len
      simp only [sum4, nn, List.getD_cons_zero, List.getD_cons_succ] at he hsm
      obtain ⟨rfl, rfl, rfl⟩ := he
      refine List.mem_append_right _ (List.mem_singleton.2 ?_)
      simp [mixOf]; omega
    · exact List.mem_append_left _ (h.all m hm (by omega))
theorem AllI.next {a b d : Nat} {ms : List Mix} (h : AllI a b d ms) (hd : 40 < a + b + d) (hd2 : d ≤ 41) : AllI a (b + 1) 0 ms := ⟨h.mx, fun m hm hlt => h.all m hm (by
  have h0 := hm.at_ 0 (by omega); have h1 := hm.at_ 1 (by omega); have h2 := hm.at_ 2 (by omega); have h3 := hm.at_ 3 (by omega)
  have hs := hm.sum
  unfold sum4 at hs
  omega), by have := h.len; omega⟩
theorem AllI.done {ms : List Mix} (h : AllI 41 0 0 ms) (m : Mix) : m ∈ ms ↔ Mxt m := ⟨h.mx m, fun hm => h.all m hm (by have h0 := hm.at_ 0 (by omega); omega)⟩
end Go.Proofs.YtknoaljnelfklaaGreat
namespace Go.Proofs.YtknoaljnelfklaaGreat
set_option linter.unusedSimpArgs false
set_option linter.unusedVariables false
open Go
theorem cal35 : cal Tryz.prog 35 = true := by kernel_rfl
theorem told_err {g : Gat} {c : Crt} (h : bothE g c ≠ 0) (bad : Bool) : toldE g c bad = bothE g c := by unfold toldE; rw [decide_eq_true h]; rfl
theorem bnd_err {g : Gat} {c : Crt} (h : toldE g c false ≠ 0) : bndB g c = zbx ∧ mixP g c = [0, 0, 0, 0] := by
  unfold bndB mixP; rw [decide_eq_true h]; exact ⟨rfl, rfl⟩
theorem told_0 {g : Gat} {c : Crt} (h : toldE g c false = 0) : bothE g c = 0 ∧ ∃ b, clo (boxF g.miss c.hs fun _ => true) = some b ∧ mixP g c = mixt b ∧ bndB g c = b ∧ Tight b := by
  have hb : bothE g c = 0 := by
    by_cases h1 : bothE g c = 0
    · exact h1
    · rw [told_err h1] at h; exact h
  cases hc : clo (boxF g.miss c.hs fun _ => true) with
  | none => unfold toldE at h; rw [decide_eq_false (show ¬ bothE g c ≠ 0 by omega), hc] at h; cases h
  | some b => exact ⟨hb, b, rfl, by unfold mixP; rw [decide_eq_false (show ¬ toldE g c false ≠ 0 by omega), hc]; rfl, bnd_of h hc, told_tight hc⟩
theorem both_ok {g : Gat} {c : Crt} (h : bothE g c = 0) : g.ok ∧ c.ok := by
  have hg : g.check = 0 := by
    by_cases h1 : g.check = 0
    · exact h1
    · unfold bothE at h; rw [decide_eq_true h1] at h; exact absurd h h1
  refine ⟨gat_ok.1 hg, crt_ok.1 ?_⟩
  unfold bothE at h; rw [hg] at h; exact h
theorem box_all {g : Gat} {c : Crt} (hg : g.ok) (hc : c.ok) (m : Mix) : Mx (boxF g.miss c.hs fun _ => true) m ↔ (Mxt m ∧ ∀ x ∈ c.hs, fitB g.miss x m = true) := by
  rw [boxF_mx hg.miss.1 hc.hs]
  constructor
  · rintro ⟨h1, h2⟩
    refine ⟨h1, fun x hx => ?_⟩
    obtain ⟨i, hi⟩ := List.getElem?_of_mem hx
    exact h2 i x hi rfl
  · rintro ⟨h1, h2⟩
    exact ⟨h1, fun i x hi _ => h2 x (List.mem_of_getElem? hi)⟩
theorem mix_0 {g : Gat} {c : Crt} (h : toldE g c false = 0) : Mxt (mixP g c) ∧ (c.hs.all fun x => fitB g.miss x (mixP g c)) = true ∧ mixE (mixP g c) = 0 := by
  obtain ⟨hb, b, h1, h2, _, h3⟩ := told_0 h
  obtain ⟨hg, hc⟩ := both_ok hb
  have h4 := (box_all hg hc (mixt b)).1 (((clo_some (boxF_ok _ _ _) h1).2 _).1 (mixt_mx h3))
  rw [h2]
  exact ⟨h4.1, List.all_eq_true.2 h4.2, (mix_ok h4.1.len).2 h4.1⟩
theorem mixP_len (g : Gat) (c : Crt) : (mixP g c).length = 4 := by
  by_cases h : toldE g c false = 0
  · exact (mix_0 h).1.len
  · rw [(bnd_err h).2]; rfl
end Go.Proofs.YtknoaljnelfklaaGreat
