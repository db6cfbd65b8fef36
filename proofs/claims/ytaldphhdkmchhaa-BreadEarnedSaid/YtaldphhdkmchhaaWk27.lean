/- Walks of the functions of the program: what each returns and leaves in memory, under the conditions that its theorem names. -/
import Derived.Test.YtaldphhdkmchhaaTy
import Derived.Test.YtaldphhdkmchhaaMa
import Derived.Test.YtaldphhdkmchhaaWk25
import Derived.Test.YtaldphhdkmchhaaEngY
namespace Go.Proofs.Ytaldphhdkmchhaa
set_option linter.unusedSimpArgs false
set_option linter.unusedVariables false
open Go
theorem cal109 : cal Try.prog 109 = true := by kernel_rfl
theorem cal111 : cal Try.prog 111 = true := by kernel_rfl
theorem cal48 : cal Try.prog 48 = true := by kernel_rfl
theorem cal50 : cal Try.prog 50 = true := by kernel_rfl
theorem cal51 : cal Try.prog 51 = true := by kernel_rfl
theorem cal52 : cal Try.prog 52 = true := by kernel_rfl
theorem cal53 : cal Try.prog 53 = true := by kernel_rfl
theorem cn166 : cellN Try.prog 166 = some 1 := by kernel_rfl
theorem el74 : elN Try.prog 74 = some 1 := by kernel_rfl
theorem el85 : elN Try.prog 85 = some 3 := by kernel_rfl
theorem fo168_0 : fOff Try.prog 168 0 = some 0 := by kernel_rfl
theorem fo168_1 : fOff Try.prog 168 1 = some 1 := by kernel_rfl
theorem fo168_2 : fOff Try.prog 168 2 = some 2 := by kernel_rfl
theorem ik166 : intK Try.prog 166 = some .u32 := by kernel_rfl
theorem ik3 : intK Try.prog 3 = some .i64 := by kernel_rfl
theorem isl74 : isSl Try.prog 74 = true := by kernel_rfl
theorem isl85 : isSl Try.prog 85 = true := by kernel_rfl
theorem pl168 : placeL Try.prog 168 = some [(0, 1), (1, 1), (2, 1)] := by kernel_rfl
theorem sc166 : scal Try.prog 166 = true := by kernel_rfl
theorem sc5 : scal Try.prog 5 = true := by kernel_rfl
theorem sc74 : scal Try.prog 74 = true := by kernel_rfl
theorem us166 : (Try.prog.underlying 166).isSome = true := by kernel_rfl
theorem us3 : (Try.prog.underlying 3).isSome = true := by kernel_rfl
theorem us5 : (Try.prog.underlying 5).isSome = true := by kernel_rfl
theorem zl168 : zeroL Try.prog 168 = some ([.slice none 0 0, .int .i64 0, .int .u32 0]) := by kernel_rfl
def urow (x : Int) : List Value := [.int .u8 x]
def urows (l : List Int) : List (List Value) := l.map urow

theorem c_Fill (g : List Int) (ag : Option Addr) (cg : Nat) (hgl : g.length ≤ 9223372036854775807) (H : Heap) (R : Facts) :
    Fn Try.prog 47 [.slice ag g.length cg] H R (fun v H' R' => ∃ bk, ∃ mx : Int, (0 ≤ mx ∧ mx ≤ 4294967295) ∧ v = .pointer (some ⟨bk, 0, none⟩) ∧ H' = (bk, cel 168 [.slice ag g.length cg, .int .i64 (0), .int .u32 (mx)]) :: H ∧ R' = R) := by
  refine fn_of Try.func47 rfl Try.ntmps47 rfl ?_
  refine sy_seq ?_
  refine sy_tx' [0] rfl ?_
  refine sy_sq ?_
  refine sp rfl (PE.assign rfl) rfl ?_
  refine sy_sn ?_
  refine sy_nx ?_
  refine sy_seq ?_
  refine sy_tx' [0, 1, 2, 3, 4, 5, 6, 7] rfl ?_
  refine sy_sq ?_
  refine sp rfl (PE.move rfl) rfl ?_
  refine sy_sq ?_
  refine sp rfl (PE.move rfl) rfl ?_
  refine sy_sq ?_
  refine sp rfl (PE.lenSl isl74 rfl) rfl ?_
  refine sy_sq ?_
  refine spE rfl (PE.convU us3 ik166 rfl) rfl ?_
  rintro _ ⟨u6, rfl, hu6⟩
  refine sy_sq ?_
  refine spE rfl (PE.xorU rfl rfl) rfl ?_
  rintro _ ⟨u7, rfl, hu7⟩
  refine sy_sq ?_
  refine sp rfl (PE.build (out := [_, _, _]) pl168 zl168 rfl rfl) rfl ?_
  refine sy_sq ?_
  refine bx rfl rfl rfl (fun b9 => ?_)
  refine sy_sq ?_
  refine sp rfl (PE.assign rfl) rfl ?_
  refine sy_sn ?_
  refine sy_nx ?_
  refine sy_ret ?_
  exact sy_return (vs := [_]) rfl (.cons (RV.tmp rfl) .nil) rfl ⟨b9, u7, hu7, rfl, rfl, rfl⟩ (fun _ h => h)

theorem c_handful (g : List Int) (ag : Option Addr) (cg bk : Nat) (hgl : g.length ≤ 9223372036854775807) (tq mx : Int) (htq : 0 ≤ tq ∧ tq ≤ 1000000000) (hmx : 0 ≤ mx ∧ mx ≤ 4294967295) (H : Heap) (R : Facts) [hG : MemRows ag 1 (urows g) R] :
    Fn Try.prog 109 [.pointer (some ⟨bk, 0, none⟩)] ((bk, cel 168 [.slice ag g.length cg, .int .i64 (tq), .int .u32 (mx)]) :: H) R (fun v H' R' => ∃ x m' : Int, (0 ≤ x ∧ x ≤ 65535) ∧ v = .int .i64 x ∧ (0 ≤ m' ∧ m' ≤ 4294967295) ∧ H' = (bk, cel 168 [.slice ag g.length cg, .int .i64 (tq + 1), .int .u32 (m')]) :: H ∧ R' = R) := by
  refine fn_of Try.func109 rfl Try.ntmps109 rfl ?_
  refine sy_seq ?_
  refine sy_tx' [0] rfl ?_
  refine sy_sq ?_
  refine sp rfl (PE.assign rfl) rfl ?_
  refine sy_sn ?_
  refine sy_nx ?_
  refine sy_seq ?_
  refine sy_seq ?_
  refine sy_tx' [0, 1, 2, 3, 4, 5] rfl ?_
  refine sy_sq ?_
  refine sp rfl (PE.move rfl) rfl ?_
  refine sy_sq ?_
  refine sp rfl (PE.nilCheck rfl) rfl ?_
  refine sy_sq ?_
  refine sp rfl (PE.fieldAddr fo168_0 rfl) rfl ?_
  refine sy_sq ?_
  refine spL rfl rfl (lh sc74 rfl rfl) rfl ?_
  refine sy_sq ?_
  refine sp rfl (PE.lenSl isl74 rfl) rfl ?_
  refine sy_sq ?_
  refine sp rfl (PE.assign rfl) rfl ?_
  refine sy_sn ?_
  refine sy_nx ?_
  refine sy_seq ?_
  refine sy_tx' [0, 1] rfl ?_
  refine sy_sq ?_
  refine sp rfl (PE.move rfl) rfl ?_
  refine sy_sq ?_
  refine sp rfl (PE.gtr rfl rfl) rfl ?_
  refine sy_sn ?_
  refine sy_nx ?_
  refine sy_cond rfl (fun hc0 => ?_) (fun hc0 => ?_)
  ·
   try simp only [decide_eq_true_eq, decide_eq_false_iff_not, Bool.and_eq_true, Bool.or_eq_true, Bool.not_eq_true', Int.not_le, Int.not_lt] at hc0
   obtain ⟨y, hy⟩ : ∃ y, g[(tq % g.length).toNat]? = some y := ⟨_, List.getElem?_eq_getElem (by have := Int.emod_lt_of_pos tq hc0; have := Int.emod_nonneg tq (show (g.length : Int) ≠ 0 by omega); omega)⟩
   refine sy_addr (a := ag) (sz := 1) (rows := urows g) (by intro h0; simp [urows] at h0; simp [h0] at hy) (fun bgr ogr he => ?_)
   subst he
   refine sy_draw [0, 0, 2, 6, 14, 0, 32, 96, 224, 0, 512, 1536, 3584, 0, 15872, 32736, 65504, 131040, 262142, 524286, 1048575, 2097151, 4194303] (.tk 0 (.tk 1 (.tk 2 (.tk 3 (.ld 4 (.tk 5 (.tk 6 (.tk 7 (.ld 8 (.tk 9 (.tk 10 (.tk 11 (.ld 12 (.tk 13 (.tk 14 (.tk 15 (.ld 16 (.tk 17 (.tk 18 (.tk 19 (.tk 20 (.tk 21 (.big 22 .done))))))))))))))))))))))) mixed (by kernel_rfl) ?_
   refine tk rfl (PE.move rfl) rfl ?_
   refine tk rfl (PE.move rfl) rfl ?_
   refine tk rfl (PE.nilCheck rfl) rfl ?_
   refine tk rfl (PE.fieldAddr fo168_2 rfl) rfl ?_
   refine ld rfl rfl (lh sc166 rfl rfl) rfl ?_
   refine tk rfl (PE.move rfl) rfl ?_
   refine tk rfl (PE.nilCheck rfl) rfl ?_
   refine tk rfl (PE.fieldAddr fo168_0 rfl) rfl ?_
   refine ld rfl rfl (lh sc74 rfl rfl) rfl ?_
   refine tk rfl (PE.move rfl) rfl ?_
   refine tk rfl (PE.nilCheck rfl) rfl ?_
   refine tk rfl (PE.fieldAddr fo168_1 rfl) rfl ?_
   refine ld rfl rfl (lh sc3 rfl rfl) rfl ?_
   refine tk rfl (PE.move rfl) rfl ?_
   refine tk rfl (PE.rem rfl rfl (by omega)) rfl ?_
   refine tk rfl (PE.indexAddr el74 rfl rfl (by exact Int.emod_nonneg tq (by omega)) (by exact Int.emod_lt_of_pos tq hc0)) rfl ?_
   refine ld rfl rfl (lf0 (x := .int .u8 y) sc5 (by simp [urows, urow, hy]; rfl) rfl) rfl ?_
   refine tkE rfl (PE.convU us5 ik166 rfl) rfl ?_
   rintro _ ⟨u28, rfl, hu28⟩
   refine tkE rfl (PE.xorU rfl rfl) rfl ?_
   rintro _ ⟨u29, rfl, hu29⟩
   refine tkE rfl (PE.mulU rfl rfl) rfl ?_
   rintro _ ⟨u30, rfl, hu30⟩
   refine tk rfl (PE.nilCheck rfl) rfl ?_
   refine tk rfl (PE.fieldAddr fo168_2 rfl) rfl ?_
   refine sy_bg ?_
   refine sto rfl rfl rfl cn166 rfl rfl rfl rfl ?_
   refine bg (fun w hs => ⟨trivial, trivial, trivial, trivial, trivial⟩) ?_
   refine sy_dn ?_
   refine sy_nx ?_
   refine sy_seq ?_
   refine sy_tx' [0, 1, 2, 3, 4, 5, 6, 7] rfl ?_
   refine sy_sq ?_
   refine sp rfl (PE.move rfl) rfl ?_
   refine sy_sq ?_
   refine sp rfl (PE.nilCheck rfl) rfl ?_
   refine sy_sq ?_
   refine sp rfl (PE.fieldAddr fo168_1 rfl) rfl ?_
   refine sy_sq ?_
   refine spL rfl rfl (lh sc3 rfl rfl) rfl ?_
   refine sy_sq ?_
   refine sp rfl (PE.add rfl rfl (by omega)) rfl ?_
   refine sy_sq ?_
   refine sp rfl (PE.nilCheck rfl) rfl ?_
   refine sy_sq ?_
   refine sp rfl (PE.fieldAddr fo168_1 rfl) rfl ?_
   refine sy_sq ?_
   refine sto rfl rfl rfl cn3 rfl rfl rfl rfl ?_
   refine sy_sn ?_
   refine sy_nx ?_
   refine sy_seq ?_
   refine sy_seq ?_
   refine sy_draw [0, 1, 3, 7, 0, 16, 48, 112, 240, 511] (.tk 0 (.tk 1 (.tk 2 (.ld 3 (.tk 4 (.tk 5 (.tk 6 (.ld 7 (.tk 8 (.tk 9 .done)))))))))) mixed (by kernel_rfl) ?_
   refine tk rfl (PE.move rfl) rfl ?_
   refine tk rfl (PE.nilCheck rfl) rfl ?_
   refine tk rfl (PE.fieldAddr fo168_1 rfl) rfl ?_
   refine ld rfl rfl (lh sc3 rfl rfl) rfl ?_
   refine tk rfl (PE.move rfl) rfl ?_
   refine tk rfl (PE.nilCheck rfl) rfl ?_
   refine tk rfl (PE.fieldAddr fo168_0 rfl) rfl ?_
   refine ld rfl rfl (lh sc74 rfl rfl) rfl ?_
   refine tk rfl (PE.lenSl isl74 rfl) rfl ?_
   refine tk rfl (PE.gtr rfl rfl) rfl ?_
   refine sy_dn ?_
   refine sy_nx ?_
   refine sy_cond rfl (fun hc1 => ?_) (fun hc1 => ?_)
   ·
    try simp only [decide_eq_true_eq, decide_eq_false_iff_not, Bool.and_eq_true, Bool.or_eq_true, Bool.not_eq_true', Int.not_le, Int.not_lt] at hc1
    
    refine sy_tx' [0, 1, 2, 3, 4, 5, 6, 7, 8, 9] rfl ?_
    refine sy_sq ?_
    refine sp rfl (PE.move rfl) rfl ?_
    refine sy_sq ?_
    refine sp rfl (PE.move rfl) rfl ?_
    refine sy_sq ?_
    refine sp rfl (PE.nilCheck rfl) rfl ?_
    refine sy_sq ?_
    refine sp rfl (PE.fieldAddr fo168_2 rfl) rfl ?_
    refine sy_sq ?_
    refine spL rfl rfl (lh sc166 rfl rfl) rfl ?_
    refine sy_sq ?_
    refine spE rfl (PE.mulU rfl rfl) rfl ?_
    rintro _ ⟨u55, rfl, hu55⟩
    refine sy_sq ?_
    refine spE rfl (PE.addU rfl rfl) rfl ?_
    rintro _ ⟨u56, rfl, hu56⟩
    refine sy_sq ?_
    refine sp rfl (PE.nilCheck rfl) rfl ?_
    refine sy_sq ?_
    refine sp rfl (PE.fieldAddr fo168_2 rfl) rfl ?_
    refine sy_sq ?_
    refine sto rfl rfl rfl cn166 rfl rfl rfl rfl ?_
    refine sy_sn ?_
    refine sy_nx ?_
    refine sy_seq ?_
    refine sy_draw [0, 1, 3, 7, 0, 16, 48, 112, 240, 511, 1023, 2047, 4095, 8191] (.tk 0 (.tk 1 (.tk 2 (.ld 3 (.tk 4 (.tk 5 (.tk 6 (.ld 7 (.tk 8 (.tk 9 (.tk 10 (.tk 11 (.tk 12 (.tk 13 .done)))))))))))))) mixed (by kernel_rfl) ?_
    refine tk rfl (PE.move rfl) rfl ?_
    refine tk rfl (PE.nilCheck rfl) rfl ?_
    refine tk rfl (PE.fieldAddr fo168_2 rfl) rfl ?_
    refine ld rfl rfl (lh sc166 rfl rfl) rfl ?_
    refine tk rfl (PE.move rfl) rfl ?_
    refine tk rfl (PE.nilCheck rfl) rfl ?_
    refine tk rfl (PE.fieldAddr fo168_2 rfl) rfl ?_
    refine ld rfl rfl (lh sc166 rfl rfl) rfl ?_
    refine tkE rfl (PE.shrU rfl rfl (by decide) (by omega) (by omega)) rfl ?_
    rintro _ ⟨u67, rfl, hu67⟩
    refine tkE rfl (PE.xorU rfl rfl) rfl ?_
    rintro _ ⟨u68, rfl, hu68⟩
    refine tkE rfl (PE.shrU rfl rfl (by decide) (by omega) (by omega)) rfl ?_
    rintro _ ⟨u69, rfl, hu69⟩
    refine tkE rfl (PE.andU rfl rfl (by decide) (by decide)) rfl ?_
    rintro _ ⟨u70, rfl, hu70⟩
    refine tk rfl (PE.conv64 us166 ik3 rfl (by omega)) rfl ?_
    refine tk rfl (PE.assign rfl) rfl ?_
    refine sy_dn ?_
    refine sy_nx ?_
    refine sy_ret ?_
    first
      | exact sy_return (vs := [_]) rfl (.cons (RV.tmp rfl) .nil) rfl ⟨u70, _, hu70, rfl, hu56, rfl, rfl⟩ (fun _ h => h)
      | exact sy_return (vs := [_]) rfl (.cons (RV.tmp rfl) .nil) rfl ⟨u70, _, hu70, rfl, hu30, rfl, rfl⟩ (fun _ h => h)
      | exact sy_return (vs := [_]) rfl (.cons (RV.tmp rfl) .nil) rfl ⟨u70, _, hu70, rfl, hmx, rfl, rfl⟩ (fun _ h => h)
   ·
    try simp only [decide_eq_true_eq, decide_eq_false_iff_not, Bool.and_eq_true, Bool.or_eq_true, Bool.not_eq_true', Int.not_le, Int.not_lt] at hc1
    
    refine sy_skip ?_
    refine sy_nx ?_
    refine sy_seq ?_
    refine sy_draw [0, 1, 3, 7, 0, 16, 48, 112, 240, 511, 1023, 2047, 4095, 8191] (.tk 0 (.tk 1 (.tk 2 (.ld 3 (.tk 4 (.tk 5 (.tk 6 (.ld 7 (.tk 8 (.tk 9 (.tk 10 (.tk 11 (.tk 12 (.tk 13 .done)))))))))))))) mixed (by kernel_rfl) ?_
    refine tk rfl (PE.move rfl) rfl ?_
    refine tk rfl (PE.nilCheck rfl) rfl ?_
    refine tk rfl (PE.fieldAddr fo168_2 rfl) rfl ?_
    refine ld rfl rfl (lh sc166 rfl rfl) rfl ?_
    refine tk rfl (PE.move rfl) rfl ?_
    refine tk rfl (PE.nilCheck rfl) rfl ?_
    refine tk rfl (PE.fieldAddr fo168_2 rfl) rfl ?_
    refine ld rfl rfl (lh sc166 rfl rfl) rfl ?_
    refine tkE rfl (PE.shrU rfl rfl (by decide) (by omega) (by omega)) rfl ?_
    rintro _ ⟨u67, rfl, hu67⟩
    refine tkE rfl (PE.xorU rfl rfl) rfl ?_
    rintro _ ⟨u68, rfl, hu68⟩
    refine tkE rfl (PE.shrU rfl rfl (by decide) (by omega) (by omega)) rfl ?_
    rintro _ ⟨u69, rfl, hu69⟩
    refine tkE rfl (PE.andU rfl rfl (by decide) (by decide)) rfl ?_
    rintro _ ⟨u70, rfl, hu70⟩
    refine tk rfl (PE.conv64 us166 ik3 rfl (by omega)) rfl ?_
    refine tk rfl (PE.assign rfl) rfl ?_
    refine sy_dn ?_
    refine sy_nx ?_
    refine sy_ret ?_
    first
      | exact sy_return (vs := [_]) rfl (.cons (RV.tmp rfl) .nil) rfl ⟨u70, _, hu70, rfl, hu56, rfl, rfl⟩ (fun _ h => h)
      | exact sy_return (vs := [_]) rfl (.cons (RV.tmp rfl) .nil) rfl ⟨u70, _, hu70, rfl, hu30, rfl, rfl⟩ (fun _ h => h)
      | exact sy_return (vs := [_]) rfl (.cons (RV.tmp rfl) .nil) rfl ⟨u70, _, hu70, rfl, hmx, rfl, rfl⟩ (fun _ h => h)
  ·
   try simp only [decide_eq_true_eq, decide_eq_false_iff_not, Bool.and_eq_true, Bool.or_eq_true, Bool.not_eq_true', Int.not_le, Int.not_lt] at hc0
   
   refine sy_skip ?_
   refine sy_nx ?_
   refine sy_seq ?_
   refine sy_tx' [0, 1, 2, 3, 4, 5, 6, 7] rfl ?_
   refine sy_sq ?_
   refine sp rfl (PE.move rfl) rfl ?_
   refine sy_sq ?_
   refine sp rfl (PE.nilCheck rfl) rfl ?_
   refine sy_sq ?_
   refine sp rfl (PE.fieldAddr fo168_1 rfl) rfl ?_
   refine sy_sq ?_
   refine spL rfl rfl (lh sc3 rfl rfl) rfl ?_
   refine sy_sq ?_
   refine sp rfl (PE.add rfl rfl (by omega)) rfl ?_
   refine sy_sq ?_
   refine sp rfl (PE.nilCheck rfl) rfl ?_
   refine sy_sq ?_
   refine sp rfl (PE.fieldAddr fo168_1 rfl) rfl ?_
   refine sy_sq ?_
   refine sto rfl rfl rfl cn3 rfl rfl rfl rfl ?_
   refine sy_sn ?_
   refine sy_nx ?_
   refine sy_seq ?_
   refine sy_seq ?_
   refine sy_draw [0, 1, 3, 7, 0, 16, 48, 112, 240, 511] (.tk 0 (.tk 1 (.tk 2 (.ld 3 (.tk 4 (.tk 5 (.tk 6 (.ld 7 (.tk 8 (.tk 9 .done)))))))))) mixed (by kernel_rfl) ?_
   refine tk rfl (PE.move rfl) rfl ?_
   refine tk rfl (PE.nilCheck rfl) rfl ?_
   refine tk rfl (PE.fieldAddr fo168_1 rfl) rfl ?_
   refine ld rfl rfl (lh sc3 rfl rfl) rfl ?_
   refine tk rfl (PE.move rfl) rfl ?_
   refine tk rfl (PE.nilCheck rfl) rfl ?_
   refine tk rfl (PE.fieldAddr fo168_0 rfl) rfl ?_
   refine ld rfl rfl (lh sc74 rfl rfl) rfl ?_
   refine tk rfl (PE.lenSl isl74 rfl) rfl ?_
   refine tk rfl (PE.gtr rfl rfl) rfl ?_
   refine sy_dn ?_
   refine sy_nx ?_
   refine sy_cond rfl (fun hc1 => ?_) (fun hc1 => ?_)
   ·
    try simp only [decide_eq_true_eq, decide_eq_false_iff_not, Bool.and_eq_true, Bool.or_eq_true, Bool.not_eq_true', Int.not_le, Int.not_lt] at hc1
    
    refine sy_tx' [0, 1, 2, 3, 4, 5, 6, 7, 8, 9] rfl ?_
    refine sy_sq ?_
    refine sp rfl (PE.move rfl) rfl ?_
    refine sy_sq ?_
    refine sp rfl (PE.move rfl) rfl ?_
    refine sy_sq ?_
    refine sp rfl (PE.nilCheck rfl) rfl ?_
    refine sy_sq ?_
    refine sp rfl (PE.fieldAddr fo168_2 rfl) rfl ?_
    refine sy_sq ?_
    refine spL rfl rfl (lh sc166 rfl rfl) rfl ?_
    refine sy_sq ?_
    refine spE rfl (PE.mulU rfl rfl) rfl ?_
    rintro _ ⟨u55, rfl, hu55⟩
    refine sy_sq ?_
    refine spE rfl (PE.addU rfl rfl) rfl ?_
    rintro _ ⟨u56, rfl, hu56⟩
    refine sy_sq ?_
    refine sp rfl (PE.nilCheck rfl) rfl ?_
    refine sy_sq ?_
    refine sp rfl (PE.fieldAddr fo168_2 rfl) rfl ?_
    refine sy_sq ?_
    refine sto rfl rfl rfl cn166 rfl rfl rfl rfl ?_
    refine sy_sn ?_
    refine sy_nx ?_
    refine sy_seq ?_
    refine sy_draw [0, 1, 3, 7, 0, 16, 48, 112, 240, 511, 1023, 2047, 4095, 8191] (.tk 0 (.tk 1 (.tk 2 (.ld 3 (.tk 4 (.tk 5 (.tk 6 (.ld 7 (.tk 8 (.tk 9 (.tk 10 (.tk 11 (.tk 12 (.tk 13 .done)))))))))))))) mixed (by kernel_rfl) ?_
    refine tk rfl (PE.move rfl) rfl ?_
    refine tk rfl (PE.nilCheck rfl) rfl ?_
    refine tk rfl (PE.fieldAddr fo168_2 rfl) rfl ?_
    refine ld rfl rfl (lh sc166 rfl rfl) rfl ?_
    refine tk rfl (PE.move rfl) rfl ?_
    refine tk rfl (PE.nilCheck rfl) rfl ?_
    refine tk rfl (PE.fieldAddr fo168_2 rfl) rfl ?_
    refine ld rfl rfl (lh sc166 rfl rfl) rfl ?_
    refine tkE rfl (PE.shrU rfl rfl (by decide) (by omega) (by omega)) rfl ?_
    rintro _ ⟨u67, rfl, hu67⟩
    refine tkE rfl (PE.xorU rfl rfl) rfl ?_
    rintro _ ⟨u68, rfl, hu68⟩
    refine tkE rfl (PE.shrU rfl rfl (by decide) (by omega) (by omega)) rfl ?_
    rintro _ ⟨u69, rfl, hu69⟩
    refine tkE rfl (PE.andU rfl rfl (by decide) (by decide)) rfl ?_
    rintro _ ⟨u70, rfl, hu70⟩
    refine tk rfl (PE.conv64 us166 ik3 rfl (by omega)) rfl ?_
    refine tk rfl (PE.assign rfl) rfl ?_
    refine sy_dn ?_
    refine sy_nx ?_
    refine sy_ret ?_
    first
      | exact sy_return (vs := [_]) rfl (.cons (RV.tmp rfl) .nil) rfl ⟨u70, _, hu70, rfl, hu56, rfl, rfl⟩ (fun _ h => h)
      | exact sy_return (vs := [_]) rfl (.cons (RV.tmp rfl) .nil) rfl ⟨u70, _, hu70, rfl, hu30, rfl, rfl⟩ (fun _ h => h)
      | exact sy_return (vs := [_]) rfl (.cons (RV.tmp rfl) .nil) rfl ⟨u70, _, hu70, rfl, hmx, rfl, rfl⟩ (fun _ h => h)
   ·
    try simp only [decide_eq_true_eq, decide_eq_false_iff_not, Bool.and_eq_true, Bool.or_eq_true, Bool.not_eq_true', Int.not_le, Int.not_lt] at hc1
    
    refine sy_skip ?_
    refine sy_nx ?_
    refine sy_seq ?_
    refine sy_draw [0, 1, 3, 7, 0, 16, 48, 112, 240, 511, 1023, 2047, 4095, 8191] (.tk 0 (.tk 1 (.tk 2 (.ld 3 (.tk 4 (.tk 5 (.tk 6 (.ld 7 (.tk 8 (.tk 9 (.tk 10 (.tk 11 (.tk 12 (.tk 13 .done)))))))))))))) mixed (by kernel_rfl) ?_
    refine tk rfl (PE.move rfl) rfl ?_
    refine tk rfl (PE.nilCheck rfl) rfl ?_
    refine tk rfl (PE.fieldAddr fo168_2 rfl) rfl ?_
    refine ld rfl rfl (lh sc166 rfl rfl) rfl ?_
    refine tk rfl (PE.move rfl) rfl ?_
    refine tk rfl (PE.nilCheck rfl) rfl ?_
    refine tk rfl (PE.fieldAddr fo168_2 rfl) rfl ?_
    refine ld rfl rfl (lh sc166 rfl rfl) rfl ?_
    refine tkE rfl (PE.shrU rfl rfl (by decide) (by omega) (by omega)) rfl ?_
    rintro _ ⟨u67, rfl, hu67⟩
    refine tkE rfl (PE.xorU rfl rfl) rfl ?_
    rintro _ ⟨u68, rfl, hu68⟩
    refine tkE rfl (PE.shrU rfl rfl (by decide) (by omega) (by omega)) rfl ?_
    rintro _ ⟨u69, rfl, hu69⟩
    refine tkE rfl (PE.andU rfl rfl (by decide) (by decide)) rfl ?_
    rintro _ ⟨u70, rfl, hu70⟩
    refine tk rfl (PE.conv64 us166 ik3 rfl (by omega)) rfl ?_
    refine tk rfl (PE.assign rfl) rfl ?_
    refine sy_dn ?_
    refine sy_nx ?_
    refine sy_ret ?_
    first
      | exact sy_return (vs := [_]) rfl (.cons (RV.tmp rfl) .nil) rfl ⟨u70, _, hu70, rfl, hu56, rfl, rfl⟩ (fun _ h => h)
      | exact sy_return (vs := [_]) rfl (.cons (RV.tmp rfl) .nil) rfl ⟨u70, _, hu70, rfl, hu30, rfl, rfl⟩ (fun _ h => h)
      | exact sy_return (vs := [_]) rfl (.cons (RV.tmp rfl) .nil) rfl ⟨u70, _, hu70, rfl, hmx, rfl, rfl⟩ (fun _ h => h)

theorem c_Below (g : List Int) (ag : Option Addr) (cg bk : Nat) (hgl : g.length ≤ 9223372036854775807) (tq mx : Int) (htq : 0 ≤ tq ∧ tq ≤ 1000000000) (hmx : 0 ≤ mx ∧ mx ≤ 4294967295) (n : Int) (H : Heap) (R : Facts) [hG : MemRows ag 1 (urows g) R] :
    Fn Try.prog 48 [.pointer (some ⟨bk, 0, none⟩), .int .i64 n] ((bk, cel 168 [.slice ag g.length cg, .int .i64 (tq), .int .u32 (mx)]) :: H) R (fun v H' R' => ∃ x m' : Int, (0 ≤ x ∧ x < max 1 n) ∧ v = .int .i64 x ∧ (0 ≤ m' ∧ m' ≤ 4294967295) ∧ H' = (bk, cel 168 [.slice ag g.length cg, .int .i64 (tq + 1), .int .u32 (m')]) :: H ∧ R' = R) := by
  refine fn_of Try.func48 rfl Try.ntmps48 rfl ?_
  refine sy_seq ?_
  refine sy_tx' [0] rfl ?_
  refine sy_sq ?_
  refine sp rfl (PE.assign rfl) rfl ?_
  refine sy_sn ?_
  refine sy_nx ?_
  refine sy_seq ?_
  refine sy_tx' [0, 1, 2, 3, 4, 5] rfl ?_
  refine sy_sq ?_
  refine sp rfl (PE.move rfl) rfl ?_
  refine sy_sq ?_
  refine cl rfl cal109 rfl rfl (c_handful g ag cg bk hgl tq mx htq hmx _ _) ?_
  rintro _ _ _ ⟨x, m', hx, rfl, hm', rfl, rfl⟩
  refine sy_sq ?_
  refine sp rfl (PE.move rfl) rfl ?_
  refine sy_sq ?_
  refine sp rfl (PE.max rfl rfl) rfl ?_
  refine sy_sq ?_
  refine sp rfl (PE.rem rfl rfl (by omega)) rfl ?_
  refine sy_sq ?_
  refine sp rfl (PE.assign rfl) rfl ?_
  refine sy_sn ?_
  refine sy_nx ?_
  refine sy_ret ?_
  exact sy_return (vs := [_]) rfl (.cons (RV.tmp rfl) .nil) rfl ⟨_, m', ⟨Int.emod_nonneg _ (by omega), Int.emod_lt_of_pos _ (by omega)⟩, rfl, hm', rfl, rfl⟩ (fun _ h => h)

theorem c_Among (g : List Int) (ag : Option Addr) (cg bk : Nat) (hgl : g.length ≤ 9223372036854775807) (tq mx : Int) (htq : 0 ≤ tq ∧ tq ≤ 1000000000) (hmx : 0 ≤ mx ∧ mx ≤ 4294967295) (lo hi : Int) (hb : -1000000 ≤ lo ∧ lo ≤ 1000000 ∧ -1000000 ≤ hi ∧ hi ≤ 1000000) (H : Heap) (R : Facts) [hG : MemRows ag 1 (urows g) R] :
    Fn Try.prog 73 [.pointer (some ⟨bk, 0, none⟩), .int .i64 lo, .int .i64 hi] ((bk, cel 168 [.slice ag g.length cg, .int .i64 (tq), .int .u32 (mx)]) :: H) R (fun v H' R' => ∃ x m' : Int, (lo ≤ x ∧ x < lo + max 1 (hi - lo + 1)) ∧ v = .int .i64 x ∧ (0 ≤ m' ∧ m' ≤ 4294967295) ∧ H' = (bk, cel 168 [.slice ag g.length cg, .int .i64 (tq + 1), .int .u32 (m')]) :: H ∧ R' = R) := by
  refine fn_of Try.func73 rfl Try.ntmps73 rfl ?_
  refine sy_seq ?_
  refine sy_tx' [0] rfl ?_
  refine sy_sq ?_
  refine sp rfl (PE.assign rfl) rfl ?_
  refine sy_sn ?_
  refine sy_nx ?_
  refine sy_seq ?_
  refine sy_tx' [0, 1, 2, 3, 4, 5, 6, 7, 8] rfl ?_
  refine sy_sq ?_
  refine sp rfl (PE.move rfl) rfl ?_
  refine sy_sq ?_
  refine sp rfl (PE.move rfl) rfl ?_
  refine sy_sq ?_
  refine sp rfl (PE.move rfl) rfl ?_
  refine sy_sq ?_
  refine sp rfl (PE.move rfl) rfl ?_
  refine sy_sq ?_
  refine sp rfl (PE.sub rfl rfl (by omega)) rfl ?_
  refine sy_sq ?_
  refine sp rfl (PE.add rfl rfl (by omega)) rfl ?_
  refine sy_sq ?_
  refine cl rfl cal48 rfl rfl (c_Below g ag cg bk hgl tq mx htq hmx (hi - lo + 1) _ _) ?_
  rintro _ _ _ ⟨x, m', hx, rfl, hm', rfl, rfl⟩
  refine sy_sq ?_
  refine sp rfl (PE.add rfl rfl (by omega)) rfl ?_
  refine sy_sq ?_
  refine sp rfl (PE.assign rfl) rfl ?_
  refine sy_sn ?_
  refine sy_nx ?_
  refine sy_ret ?_
  exact sy_return (vs := [_]) rfl (.cons (RV.tmp rfl) .nil) rfl ⟨lo + x, m', ⟨by omega, by omega⟩, rfl, hm', rfl, rfl⟩ (fun _ h => h)

theorem c_Rare (g : List Int) (ag : Option Addr) (cg bk : Nat) (hgl : g.length ≤ 9223372036854775807) (tq mx : Int) (htq : 0 ≤ tq ∧ tq ≤ 1000000000) (hmx : 0 ≤ mx ∧ mx ≤ 4294967295) (n : Int) (H : Heap) (R : Facts) [hG : MemRows ag 1 (urows g) R] :
    Fn Try.prog 72 [.pointer (some ⟨bk, 0, none⟩), .int .i64 n] ((bk, cel 168 [.slice ag g.length cg, .int .i64 (tq), .int .u32 (mx)]) :: H) R (fun v H' R' => ∃ (x : Bool) (m' : Int), v = .bool x ∧ (0 ≤ m' ∧ m' ≤ 4294967295) ∧ H' = (bk, cel 168 [.slice ag g.length cg, .int .i64 (tq + 1), .int .u32 (m')]) :: H ∧ R' = R) := by
  refine fn_of Try.func72 rfl Try.ntmps72 rfl ?_
  refine sy_seq ?_
  refine sy_tx' [0] rfl ?_
  refine sy_sq ?_
  refine sp rfl (PE.assign rfl) rfl ?_
  refine sy_sn ?_
  refine sy_nx ?_
  refine sy_seq ?_
  refine sy_tx' [0, 1, 2, 3, 4] rfl ?_
  refine sy_sq ?_
  refine sp rfl (PE.move rfl) rfl ?_
  refine sy_sq ?_
  refine sp rfl (PE.move rfl) rfl ?_
  refine sy_sq ?_
  refine cl rfl cal48 rfl rfl (c_Below g ag cg bk hgl tq mx htq hmx n _ _) ?_
  rintro _ _ _ ⟨x, m', hx, rfl, hm', rfl, rfl⟩
  refine sy_sq ?_
  refine sp rfl (PE.eql rfl rfl) rfl ?_
  refine sy_sq ?_
  refine sp rfl (PE.assign rfl) rfl ?_
  refine sy_sn ?_
  refine sy_nx ?_
  refine sy_ret ?_
  exact sy_return (vs := [_]) rfl (.cons (RV.tmp rfl) .nil) rfl ⟨_, m', rfl, hm', rfl, rfl⟩ (fun _ h => h)
end Go.Proofs.Ytaldphhdkmchhaa
