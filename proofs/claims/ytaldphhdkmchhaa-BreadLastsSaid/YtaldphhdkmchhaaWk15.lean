/- Walks of the functions of the program: what each returns and leaves in memory, under the conditions that its theorem names. -/
import Derived.Test.YtaldphhdkmchhaaTy
import Derived.Test.YtaldphhdkmchhaaMa
import Derived.Test.YtaldphhdkmchhaaWk14
namespace Go.Proofs.Ytaldphhdkmchhaa
set_option linter.unusedSimpArgs false
set_option linter.unusedVariables false
open Go
/-- What Earns answers. -/
def earnP (t : Twn) (years : Int) : Int × Int := bif decide (t.check ≠ 0) then (0, t.check) else bif !(inb years 0 12) then (0, 3) else bif decide (ef t years.toNat t.now < 0) then (0, 6) else (ef t years.toNat t.now, 0)
theorem earn_P {t : Twn} {years : Int} {v : Value} (h : (t.check ≠ 0 ∧ v = .tuple #[.int .i64 0, .int .i64 t.check]) ∨ (t.check = 0 ∧ inb years 0 12 = false ∧ v = .tuple #[.int .i64 0, .int .i64 3]) ∨ (t.check = 0 ∧ inb years 0 12 = true ∧ v = earnV t years)) :
    v = .tuple #[.int .i64 (earnP t years).1, .int .i64 (earnP t years).2] := by
  rcases h with ⟨h, rfl⟩ | ⟨h, h2, rfl⟩ | ⟨h, h2, rfl⟩
  · simp [earnP, h]
  · unfold earnP; rw [h2]; simp [h]
  · have hb := (ef_bd (ok_of_check h).1 years.toNat t.now).1
    unfold earnP earnV
    rw [h2]
    by_cases h3 : ef t years.toNat t.now = -1
    · simp [h, h3]
    · simp [h, h3]
      rw [decide_eq_false (by omega)]
      simp

theorem c_BreadEarns (t : Twn) (a : Option Addr) (c : Nat) (hl : t.rats.length ≤ 9223372036854775807) (years : Int) (H : Heap) (R : Facts) [hR : MemRows a 2 (rrows t.rats) R] :
    Fn Try.prog 4 [t.v (t.sl a c), .int .i64 years] H R (fun v H' R' => v = .bool true ∧ H' = H ∧ R' = R) := by
  refine fn_of Try.func4 rfl Try.ntmps4 rfl ?_
  refine sy_seq ?_
  refine sy_tx' [0, 1] rfl ?_
  refine sy_sq ?_
  refine bx rfl rfl rfl (fun b2 => ?_)
  refine sy_sq ?_
  refine sp rfl (PE.assign rfl) rfl ?_
  refine sy_sn ?_
  refine sy_nx ?_
  refine sy_seq ?_
  refine sy_seq ?_
  refine sy_tx' [0, 1] rfl ?_
  refine sy_sq ?_
  refine spL rfl rfl (lhA [_, _, _, _, _, _, _, _, _, _, _] ag26 rfl rfl rfl) rfl ?_
  refine sy_sq ?_
  refine clV rfl cal29 rfl rfl (c_great t a c (by omega) _ _) ?_
  refine sy_sn ?_
  refine sy_nx ?_
  refine sy_cond rfl (fun hc0 => ?_) (fun hc0 => ?_)
  ·
    try simp only [decide_eq_true_eq, decide_eq_false_iff_not, Bool.and_eq_true, Bool.or_eq_true, Bool.not_eq_true', Int.not_le, Int.not_lt] at hc0
    refine sy_seq ?_
    refine sy_tx' [0, 1] rfl ?_
    refine sy_sq ?_
    refine clV rfl cal16 rfl rfl (c_awake _ _) ?_
    refine sy_sq ?_
    refine sp rfl (PE.assign rfl) rfl ?_
    refine sy_sn ?_
    refine sy_nx ?_
    refine sy_ret ?_
    refine sy_tr ?_
    exact sy_return (vs := [_]) rfl (.cons (RV.tmp rfl) .nil) rfl ⟨rfl, rfl, rfl⟩ (fun _ h => by repeat first | exact h | replace h := St.tail h | replace h := St.ftail h | replace h := St.drop h)
  ·
    try simp only [decide_eq_true_eq, decide_eq_false_iff_not, Bool.and_eq_true, Bool.or_eq_true, Bool.not_eq_true', Int.not_le, Int.not_lt] at hc0
    refine sy_skip ?_
    refine sy_nx ?_
    refine sy_seq ?_
    refine sy_cut (ι := (Nat × Nat × Option Addr × Nat) × Nat × Nat) (fun z => ⟨[(1, .int .i64 years), (2, .pointer (some ⟨b2, 0, none⟩)), (5, .pointer (some ⟨z.2.1, 0, none⟩)), (6, .pointer (some ⟨z.2.2, 0, none⟩))],
      (z.2.1, cel 26 (twl t (t.sl (some ⟨z.1.1, 0, none⟩) z.1.2.1))) :: (z.2.2, cel 37 (twl t (t.sl z.1.2.2.1 z.1.2.2.2))) :: (b2, cel 26 (twl t (t.sl a c))) :: H, RowsA z.1.2.2.1 2 (rrows t.rats) :: RowsA (some ⟨z.1.1, 0, none⟩) 2 (rrows t.rats) :: R⟩) ?_ ?_
    ·
      refine sy_draw [0, 1, 0, 7, 0, 0, 63, 127] (.ld 0 (.ld 2 (.any (.alt 1 (.any (.alt 3 (.any (.alt 4 (.big 5 (.big 6 (.big 7 .done))) (.alt 5 (.big 4 (.big 6 (.big 7 .done))) .stop))) (.alt 4 (.any (.alt 3 (.big 5 (.big 6 (.big 7 .done))) (.alt 5 (.big 3 (.big 6 (.big 7 .done))) .stop))) (.alt 5 (.any (.alt 3 (.big 4 (.big 6 (.big 7 .done))) (.alt 4 (.big 3 (.big 6 (.big 7 .done))) .stop))) .stop)))) (.alt 4 (.any (.alt 1 (.any (.alt 3 (.big 5 (.big 6 (.big 7 .done))) (.alt 5 (.big 3 (.big 6 (.big 7 .done))) .stop))) (.alt 5 (.big 1 (.big 3 (.big 6 (.big 7 .done)))) .stop))) (.alt 5 (.any (.alt 1 (.any (.alt 3 (.big 4 (.big 6 (.big 7 .done))) (.alt 4 (.big 3 (.big 6 (.big 7 .done))) .stop))) (.alt 4 (.big 1 (.big 3 (.big 6 (.big 7 .done)))) .stop))) .stop)))))) mixed (by kernel_rfl) ?_
      refine ld rfl rfl (lhA [_, _, _, _, _, _, _, _, _, _, _] ag26 rfl rfl rfl) rfl ?_
      refine ld rfl rfl (lhA [_, _, _, _, _, _, _, _, _, _, _] ag26 rfl rfl rfl) rfl ?_
      refine sy_any ?_
      refine sy_alt ?_ ?_
      ·
        refine cl rfl cal17 rfl rfl (c_Own t a c (by omega) _ _) ?_
        rintro _ _ _ ⟨bo, co, rfl, rfl, rfl⟩
        refine bg (fun w hs => ⟨(lhA [_, _, _, _, _, _, _, _, _, _, _] ag26 rfl rfl rfl) w hs, trivial, trivial⟩) ?_
        refine sy_any ?_
        refine sy_alt ?_ ?_
        ·
          refine cl rfl cal19 rfl rfl (c_theirs t a c (by omega) _ _) ?_
          rintro _ _ _ ⟨ax, cx, rfl, rfl, rfl⟩
          refine bg (fun w hs => ⟨trivial, trivial⟩) ?_
          refine sy_any ?_
          refine sy_alt ?_ ?_
          ·
            refine alc rfl zl26 rfl (fun b5 => ?_)
            refine bg (fun w hs => trivial) ?_
            refine sy_bg ?_
            refine alc rfl zl37 rfl (fun b6 => ?_)
            refine bg (fun w hs => trivial) ?_
            refine sy_bg ?_
            refine sto rfl rfl rfl cn26 rfl rfl rfl rfl ?_
            refine bg (fun w hs => trivial) ?_
            refine sy_bg ?_
            refine sto rfl rfl rfl cn37 rfl rfl rfl rfl ?_
            refine bg (fun w hs => trivial) ?_
            refine sy_dn ?_
            exact sy_cutEnd ((bo, co, ax, cx), b5, b6) (by repeat' first | exact Sub.nil | apply Sub.cons | rfl | (simp [lk]; omega)) (fun _ h => St.sub (((h.pull b2).pull b6).pull b5))
          refine sy_alt ?_ ?_
          ·
            refine alc rfl zl37 rfl (fun b6 => ?_)
            refine bg (fun w hs => trivial) ?_
            refine sy_bg ?_
            refine alc rfl zl26 rfl (fun b5 => ?_)
            refine bg (fun w hs => trivial) ?_
            refine sy_bg ?_
            refine sto rfl rfl rfl cn26 rfl rfl rfl rfl ?_
            refine bg (fun w hs => trivial) ?_
            refine sy_bg ?_
            refine sto rfl rfl rfl cn37 rfl rfl rfl rfl ?_
            refine bg (fun w hs => trivial) ?_
            refine sy_dn ?_
            exact sy_cutEnd ((bo, co, ax, cx), b5, b6) (by repeat' first | exact Sub.nil | apply Sub.cons | rfl | (simp [lk]; omega)) (fun _ h => St.sub (((h.pull b2).pull b6).pull b5))
          exact sy_stop
        refine sy_alt ?_ ?_
        ·
          refine alc rfl zl26 rfl (fun b5 => ?_)
          refine bg (fun w hs => ⟨(lhA [_, _, _, _, _, _, _, _, _, _, _] ag26 rfl rfl rfl) w hs, trivial⟩) ?_
          refine sy_any ?_
          refine sy_alt ?_ ?_
          ·
            refine cl rfl cal19 rfl rfl (c_theirs t a c (by omega) _ _) ?_
            rintro _ _ _ ⟨ax, cx, rfl, rfl, rfl⟩
            refine bg (fun w hs => ⟨trivial, trivial⟩) ?_
            refine sy_bg ?_
            refine alc rfl zl37 rfl (fun b6 => ?_)
            refine bg (fun w hs => trivial) ?_
            refine sy_bg ?_
            refine sto rfl rfl rfl cn26 rfl rfl rfl rfl ?_
            refine bg (fun w hs => trivial) ?_
            refine sy_bg ?_
            refine sto rfl rfl rfl cn37 rfl rfl rfl rfl ?_
            refine bg (fun w hs => trivial) ?_
            refine sy_dn ?_
            exact sy_cutEnd ((bo, co, ax, cx), b5, b6) (by repeat' first | exact Sub.nil | apply Sub.cons | rfl | (simp [lk]; omega)) (fun _ h => St.sub (((h.pull b2).pull b6).pull b5))
          refine sy_alt ?_ ?_
          ·
            refine alc rfl zl37 rfl (fun b6 => ?_)
            refine bg (fun w hs => ⟨(lhA [_, _, _, _, _, _, _, _, _, _, _] ag26 rfl rfl rfl) w hs, trivial⟩) ?_
            refine sy_bg ?_
            refine cl rfl cal19 rfl rfl (c_theirs t a c (by omega) _ _) ?_
            rintro _ _ _ ⟨ax, cx, rfl, rfl, rfl⟩
            refine bg (fun w hs => ⟨trivial, trivial⟩) ?_
            refine sy_bg ?_
            refine sto rfl rfl rfl cn26 rfl rfl rfl rfl ?_
            refine bg (fun w hs => trivial) ?_
            refine sy_bg ?_
            refine sto rfl rfl rfl cn37 rfl rfl rfl rfl ?_
            refine bg (fun w hs => trivial) ?_
            refine sy_dn ?_
            exact sy_cutEnd ((bo, co, ax, cx), b5, b6) (by repeat' first | exact Sub.nil | apply Sub.cons | rfl | (simp [lk]; omega)) (fun _ h => St.sub (((h.pull b2).pull b6).pull b5))
          exact sy_stop
        refine sy_alt ?_ ?_
        ·
          refine alc rfl zl37 rfl (fun b6 => ?_)
          refine bg (fun w hs => ⟨(lhA [_, _, _, _, _, _, _, _, _, _, _] ag26 rfl rfl rfl) w hs, trivial⟩) ?_
          refine sy_any ?_
          refine sy_alt ?_ ?_
          ·
            refine cl rfl cal19 rfl rfl (c_theirs t a c (by omega) _ _) ?_
            rintro _ _ _ ⟨ax, cx, rfl, rfl, rfl⟩
            refine bg (fun w hs => ⟨trivial, trivial⟩) ?_
            refine sy_bg ?_
            refine alc rfl zl26 rfl (fun b5 => ?_)
            refine bg (fun w hs => trivial) ?_
            refine sy_bg ?_
            refine sto rfl rfl rfl cn26 rfl rfl rfl rfl ?_
            refine bg (fun w hs => trivial) ?_
            refine sy_bg ?_
            refine sto rfl rfl rfl cn37 rfl rfl rfl rfl ?_
            refine bg (fun w hs => trivial) ?_
            refine sy_dn ?_
            exact sy_cutEnd ((bo, co, ax, cx), b5, b6) (by repeat' first | exact Sub.nil | apply Sub.cons | rfl | (simp [lk]; omega)) (fun _ h => St.sub (((h.pull b2).pull b6).pull b5))
          refine sy_alt ?_ ?_
          ·
            refine alc rfl zl26 rfl (fun b5 => ?_)
            refine bg (fun w hs => ⟨(lhA [_, _, _, _, _, _, _, _, _, _, _] ag26 rfl rfl rfl) w hs, trivial⟩) ?_
            refine sy_bg ?_
            refine cl rfl cal19 rfl rfl (c_theirs t a c (by omega) _ _) ?_
            rintro _ _ _ ⟨ax, cx, rfl, rfl, rfl⟩
            refine bg (fun w hs => ⟨trivial, trivial⟩) ?_
            refine sy_bg ?_
            refine sto rfl rfl rfl cn26 rfl rfl rfl rfl ?_
            refine bg (fun w hs => trivial) ?_
            refine sy_bg ?_
            refine sto rfl rfl rfl cn37 rfl rfl rfl rfl ?_
            refine bg (fun w hs => trivial) ?_
            refine sy_dn ?_
            exact sy_cutEnd ((bo, co, ax, cx), b5, b6) (by repeat' first | exact Sub.nil | apply Sub.cons | rfl | (simp [lk]; omega)) (fun _ h => St.sub (((h.pull b2).pull b6).pull b5))
          exact sy_stop
        exact sy_stop
      refine sy_alt ?_ ?_
      ·
        refine alc rfl zl26 rfl (fun b5 => ?_)
        refine bg (fun w hs => ⟨(lhA [_, _, _, _, _, _, _, _, _, _, _] ag26 rfl rfl rfl) w hs, (lhA [_, _, _, _, _, _, _, _, _, _, _] ag26 rfl rfl rfl) w hs, trivial⟩) ?_
        refine sy_any ?_
        refine sy_alt ?_ ?_
        ·
          refine cl rfl cal17 rfl rfl (c_Own t a c (by omega) _ _) ?_
          rintro _ _ _ ⟨bo, co, rfl, rfl, rfl⟩
          refine bg (fun w hs => ⟨(lhA [_, _, _, _, _, _, _, _, _, _, _] ag26 rfl rfl rfl) w hs, trivial, trivial⟩) ?_
          refine sy_any ?_
          refine sy_alt ?_ ?_
          ·
            refine cl rfl cal19 rfl rfl (c_theirs t a c (by omega) _ _) ?_
            rintro _ _ _ ⟨ax, cx, rfl, rfl, rfl⟩
            refine bg (fun w hs => ⟨trivial, trivial⟩) ?_
            refine sy_bg ?_
            refine alc rfl zl37 rfl (fun b6 => ?_)
            refine bg (fun w hs => trivial) ?_
            refine sy_bg ?_
            refine sto rfl rfl rfl cn26 rfl rfl rfl rfl ?_
            refine bg (fun w hs => trivial) ?_
            refine sy_bg ?_
            refine sto rfl rfl rfl cn37 rfl rfl rfl rfl ?_
            refine bg (fun w hs => trivial) ?_
            refine sy_dn ?_
            exact sy_cutEnd ((bo, co, ax, cx), b5, b6) (by repeat' first | exact Sub.nil | apply Sub.cons | rfl | (simp [lk]; omega)) (fun _ h => St.sub (((h.pull b2).pull b6).pull b5))
          refine sy_alt ?_ ?_
          ·
            refine alc rfl zl37 rfl (fun b6 => ?_)
            refine bg (fun w hs => ⟨(lhA [_, _, _, _, _, _, _, _, _, _, _] ag26 rfl rfl rfl) w hs, trivial⟩) ?_
            refine sy_bg ?_
            refine cl rfl cal19 rfl rfl (c_theirs t a c (by omega) _ _) ?_
            rintro _ _ _ ⟨ax, cx, rfl, rfl, rfl⟩
            refine bg (fun w hs => ⟨trivial, trivial⟩) ?_
            refine sy_bg ?_
            refine sto rfl rfl rfl cn26 rfl rfl rfl rfl ?_
            refine bg (fun w hs => trivial) ?_
            refine sy_bg ?_
            refine sto rfl rfl rfl cn37 rfl rfl rfl rfl ?_
            refine bg (fun w hs => trivial) ?_
            refine sy_dn ?_
            exact sy_cutEnd ((bo, co, ax, cx), b5, b6) (by repeat' first | exact Sub.nil | apply Sub.cons | rfl | (simp [lk]; omega)) (fun _ h => St.sub (((h.pull b2).pull b6).pull b5))
          exact sy_stop
        refine sy_alt ?_ ?_
        ·
          refine alc rfl zl37 rfl (fun b6 => ?_)
          refine bg (fun w hs => ⟨(lhA [_, _, _, _, _, _, _, _, _, _, _] ag26 rfl rfl rfl) w hs, (lhA [_, _, _, _, _, _, _, _, _, _, _] ag26 rfl rfl rfl) w hs, trivial⟩) ?_
          refine sy_bg ?_
          refine cl rfl cal17 rfl rfl (c_Own t a c (by omega) _ _) ?_
          rintro _ _ _ ⟨bo, co, rfl, rfl, rfl⟩
          refine bg (fun w hs => ⟨(lhA [_, _, _, _, _, _, _, _, _, _, _] ag26 rfl rfl rfl) w hs, trivial, trivial⟩) ?_
          refine sy_bg ?_
          refine cl rfl cal19 rfl rfl (c_theirs t a c (by omega) _ _) ?_
          rintro _ _ _ ⟨ax, cx, rfl, rfl, rfl⟩
          refine bg (fun w hs => ⟨trivial, trivial⟩) ?_
          refine sy_bg ?_
          refine sto rfl rfl rfl cn26 rfl rfl rfl rfl ?_
          refine bg (fun w hs => trivial) ?_
          refine sy_bg ?_
          refine sto rfl rfl rfl cn37 rfl rfl rfl rfl ?_
          refine bg (fun w hs => trivial) ?_
          refine sy_dn ?_
          exact sy_cutEnd ((bo, co, ax, cx), b5, b6) (by repeat' first | exact Sub.nil | apply Sub.cons | rfl | (simp [lk]; omega)) (fun _ h => St.sub (((h.pull b2).pull b6).pull b5))
        exact sy_stop
      refine sy_alt ?_ ?_
      ·
        refine alc rfl zl37 rfl (fun b6 => ?_)
        refine bg (fun w hs => ⟨(lhA [_, _, _, _, _, _, _, _, _, _, _] ag26 rfl rfl rfl) w hs, (lhA [_, _, _, _, _, _, _, _, _, _, _] ag26 rfl rfl rfl) w hs, trivial⟩) ?_
        refine sy_any ?_
        refine sy_alt ?_ ?_
        ·
          refine cl rfl cal17 rfl rfl (c_Own t a c (by omega) _ _) ?_
          rintro _ _ _ ⟨bo, co, rfl, rfl, rfl⟩
          refine bg (fun w hs => ⟨(lhA [_, _, _, _, _, _, _, _, _, _, _] ag26 rfl rfl rfl) w hs, trivial, trivial⟩) ?_
          refine sy_any ?_
          refine sy_alt ?_ ?_
          ·
            refine cl rfl cal19 rfl rfl (c_theirs t a c (by omega) _ _) ?_
            rintro _ _ _ ⟨ax, cx, rfl, rfl, rfl⟩
            refine bg (fun w hs => ⟨trivial, trivial⟩) ?_
            refine sy_bg ?_
            refine alc rfl zl26 rfl (fun b5 => ?_)
            refine bg (fun w hs => trivial) ?_
            refine sy_bg ?_
            refine sto rfl rfl rfl cn26 rfl rfl rfl rfl ?_
            refine bg (fun w hs => trivial) ?_
            refine sy_bg ?_
            refine sto rfl rfl rfl cn37 rfl rfl rfl rfl ?_
            refine bg (fun w hs => trivial) ?_
            refine sy_dn ?_
            exact sy_cutEnd ((bo, co, ax, cx), b5, b6) (by repeat' first | exact Sub.nil | apply Sub.cons | rfl | (simp [lk]; omega)) (fun _ h => St.sub (((h.pull b2).pull b6).pull b5))
          refine sy_alt ?_ ?_
          ·
            refine alc rfl zl26 rfl (fun b5 => ?_)
            refine bg (fun w hs => ⟨(lhA [_, _, _, _, _, _, _, _, _, _, _] ag26 rfl rfl rfl) w hs, trivial⟩) ?_
            refine sy_bg ?_
            refine cl rfl cal19 rfl rfl (c_theirs t a c (by omega) _ _) ?_
            rintro _ _ _ ⟨ax, cx, rfl, rfl, rfl⟩
            refine bg (fun w hs => ⟨trivial, trivial⟩) ?_
            refine sy_bg ?_
            refine sto rfl rfl rfl cn26 rfl rfl rfl rfl ?_
            refine bg (fun w hs => trivial) ?_
            refine sy_bg ?_
            refine sto rfl rfl rfl cn37 rfl rfl rfl rfl ?_
            refine bg (fun w hs => trivial) ?_
            refine sy_dn ?_
            exact sy_cutEnd ((bo, co, ax, cx), b5, b6) (by repeat' first | exact Sub.nil | apply Sub.cons | rfl | (simp [lk]; omega)) (fun _ h => St.sub (((h.pull b2).pull b6).pull b5))
          exact sy_stop
        refine sy_alt ?_ ?_
        ·
          refine alc rfl zl26 rfl (fun b5 => ?_)
          refine bg (fun w hs => ⟨(lhA [_, _, _, _, _, _, _, _, _, _, _] ag26 rfl rfl rfl) w hs, (lhA [_, _, _, _, _, _, _, _, _, _, _] ag26 rfl rfl rfl) w hs, trivial⟩) ?_
          refine sy_bg ?_
          refine cl rfl cal17 rfl rfl (c_Own t a c (by omega) _ _) ?_
          rintro _ _ _ ⟨bo, co, rfl, rfl, rfl⟩
          refine bg (fun w hs => ⟨(lhA [_, _, _, _, _, _, _, _, _, _, _] ag26 rfl rfl rfl) w hs, trivial, trivial⟩) ?_
          refine sy_bg ?_
          refine cl rfl cal19 rfl rfl (c_theirs t a c (by omega) _ _) ?_
          rintro _ _ _ ⟨ax, cx, rfl, rfl, rfl⟩
          refine bg (fun w hs => ⟨trivial, trivial⟩) ?_
          refine sy_bg ?_
          refine sto rfl rfl rfl cn26 rfl rfl rfl rfl ?_
          refine bg (fun w hs => trivial) ?_
          refine sy_bg ?_
          refine sto rfl rfl rfl cn37 rfl rfl rfl rfl ?_
          refine bg (fun w hs => trivial) ?_
          refine sy_dn ?_
          exact sy_cutEnd ((bo, co, ax, cx), b5, b6) (by repeat' first | exact Sub.nil | apply Sub.cons | rfl | (simp [lk]; omega)) (fun _ h => St.sub (((h.pull b2).pull b6).pull b5))
        exact sy_stop
      exact sy_stop
    ·
      rintro ⟨⟨bo, co, ax, cx⟩, b5, b6⟩
      dsimp only
      refine sy_nx ?_
      refine sy_seq ?_
      refine sy_tx' [0, 1, 2] rfl ?_
      refine sy_sq ?_
      refine spL rfl rfl (lhA [_, _, _, _, _, _, _, _, _, _, _] ag37 rfl rfl rfl) rfl ?_
      refine sy_sq ?_
      refine clV rfl cal20 rfl rfl (c_rCheck t ax cx (by omega) _ _) ?_
      refine sy_sq ?_
      refine sp rfl (PE.assign rfl) rfl ?_
      refine sy_sn ?_
      refine sy_nx ?_
      refine sy_seq ?_
      refine sy_tx' [0] rfl ?_
      refine sy_sq ?_
      refine sp rfl (PE.assign rfl) rfl ?_
      refine sy_sn ?_
      refine sy_nx ?_
      refine sy_seq ?_
      refine sy_seq ?_
      refine sy_tx' [0, 1] rfl ?_
      refine sy_sq ?_
      refine sp rfl (PE.move rfl) rfl ?_
      refine sy_sq ?_
      refine sp rfl (PE.eql rfl rfl) rfl ?_
      refine sy_sn ?_
      refine sy_nx ?_
      refine sy_join (ι := Unit) (fun _ => ⟨[(1, .int .i64 years), (2, .pointer (some ⟨b2, 0, none⟩)), (5, .pointer (some ⟨b5, 0, none⟩)), (7, .int .i64 (earnP t years).2), (8, .int .i64 (earnP t years).1)], (b5, cel 26 (twl t (t.sl (some ⟨bo, 0, none⟩) co))) :: (b6, cel 37 (twl t (t.sl ax cx))) :: (b2, cel 26 (twl t (t.sl a c))) :: H, RowsA ax 2 (rrows t.rats) :: RowsA (some ⟨bo, 0, none⟩) 2 (rrows t.rats) :: R⟩) ?_ ?_
      ·
        refine sy_cond rfl (fun hc1 => ?_) (fun hc1 => ?_)
        ·
          try simp only [decide_eq_true_eq, decide_eq_false_iff_not, Bool.and_eq_true, Bool.or_eq_true, Bool.not_eq_true', Int.not_le, Int.not_lt] at hc1
          have hck : t.check = 0 := hc1
          have hok := (ok_of_check hck).1
          refine sy_seq ?_
          refine sy_tx' [0] rfl ?_
          refine sy_sq ?_
          refine sp rfl (PE.assign rfl) rfl ?_
          refine sy_sn ?_
          refine sy_nx ?_
          refine sy_seq ?_
          refine sy_tx' [0, 1, 2, 3, 4, 5] rfl ?_
          refine sy_sq ?_
          refine sp rfl (PE.move rfl) rfl ?_
          refine sy_sq ?_
          refine sp rfl (PE.geq rfl rfl) rfl ?_
          refine sy_sq ?_
          refine sp rfl (PE.move rfl) rfl ?_
          refine sy_sq ?_
          refine sy_case (t := 24) rfl (fun g24 => ?_) (fun g24 => ?_)
          ·
            try simp only [decide_eq_true_eq, decide_eq_false_iff_not, Bool.and_eq_true, Bool.or_eq_true, Bool.not_eq_true', Int.not_le, Int.not_lt] at g24
            refine spG rfl rfl rfl rfl (PE.move rfl) rfl ?_
            refine sy_sq ?_
            refine spG rfl rfl rfl rfl (PE.leq rfl rfl) rfl ?_
            refine sy_sq ?_
            refine sp rfl (PE.pick rfl rfl rfl) rfl ?_
            refine sy_sn ?_
            refine sy_nx ?_
            refine sy_cond rfl (fun hc2 => ?_) (fun hc2 => ?_)
            ·
              try simp only [decide_eq_true_eq, decide_eq_false_iff_not, Bool.and_eq_true, Bool.or_eq_true, Bool.not_eq_true', Int.not_le, Int.not_lt] at hc2
              have hy : 0 ≤ years ∧ years ≤ 12 := by simp_all
              have hib : inb years 0 12 = true := by simp only [inb, Bool.and_eq_true, decide_eq_true_eq]; omega
              refine sy_addr (a := ax) (sz := 2) (rows := rrows t.rats) (by have := hok.many; intro h0; simp [rrows] at h0; simp [h0] at this) (fun bx ox he => ?_)
              subst he
              rw [show Value.int .i64 years = .int .i64 (years.toNat : Nat) from by congr 1; omega]
              refine sy_seq ?_
              refine sy_tx' [0] rfl ?_
              refine sy_sq ?_
              refine sp rfl (PE.assign rfl) rfl ?_
              refine sy_sn ?_
              refine sy_nx ?_
              refine sy_seq ?_
              refine sy_tx' [0, 1, 2, 3] rfl ?_
              refine sy_sq ?_
              refine spL rfl rfl (lhA [_, _, _, _, _, _, _, _, _, _, _] ag37 rfl rfl rfl) rfl ?_
              refine sy_sq ?_
              refine sp rfl (PE.move rfl) rfl ?_
              refine sy_sq ?_
              refine cl rfl cal30 rfl rfl (c_rEarns t hok years.toNat (by omega) bx ox cx _ _) ?_
              rintro _ _ _ ⟨rfl, rfl, rfl⟩
              rw [show Value.int .i64 ((years.toNat : Nat) : Int) = .int .i64 years from by congr 1; omega]
              refine sy_sq ?_
              refine sp rfl (PE.assign rfl) rfl ?_
              refine sy_sn ?_
              refine sy_nx ?_
              refine sy_seq ?_
              refine sy_tx' [0, 1] rfl ?_
              refine sy_sq ?_
              refine sp rfl (PE.move rfl) rfl ?_
              refine sy_sq ?_
              refine sp rfl (PE.lss rfl rfl) rfl ?_
              refine sy_sn ?_
              refine sy_nx ?_
              refine sy_cond rfl (fun hc3 => ?_) (fun hc3 => ?_)
              ·
                try simp only [decide_eq_true_eq, decide_eq_false_iff_not, Bool.and_eq_true, Bool.or_eq_true, Bool.not_eq_true', Int.not_le, Int.not_lt] at hc3
                
                refine sy_tx' [0, 1] rfl ?_
                refine sy_sq ?_
                refine sp rfl (PE.assign rfl) rfl ?_
                refine sy_sq ?_
                refine sp rfl (PE.assign rfl) rfl ?_
                refine sy_sn ?_
                rw [show earnP t years = (0, 6) from by unfold earnP; rw [hib, hck, decide_eq_true hc3]; try rfl]
                exact sy_jend () (by repeat' first | exact Sub.nil | apply Sub.cons | rfl | (simp [lk]; omega)) (fun _ h => h)
              ·
                try simp only [decide_eq_true_eq, decide_eq_false_iff_not, Bool.and_eq_true, Bool.or_eq_true, Bool.not_eq_true', Int.not_le, Int.not_lt] at hc3
                
                refine sy_skip ?_
                rw [show earnP t years = (ef t years.toNat t.now, 0) from by unfold earnP; rw [hib, hck, decide_eq_false (show ¬ ef t years.toNat t.now < 0 by omega)]; try rfl]
                exact sy_jend () (by repeat' first | exact Sub.nil | apply Sub.cons | rfl | (simp [lk]; omega)) (fun _ h => h)
            ·
              try simp only [decide_eq_true_eq, decide_eq_false_iff_not, Bool.and_eq_true, Bool.or_eq_true, Bool.not_eq_true', Int.not_le, Int.not_lt] at hc2
              have hib : inb years 0 12 = false := by simp only [inb]; simp_all; try omega
              refine sy_skip ?_
              rw [show earnP t years = (0, 3) from by unfold earnP; rw [hib, hck]; try rfl]
              exact sy_jend () (by repeat' first | exact Sub.nil | apply Sub.cons | rfl | (simp [lk]; omega)) (fun _ h => h)
          ·
            try simp only [decide_eq_true_eq, decide_eq_false_iff_not, Bool.and_eq_true, Bool.or_eq_true, Bool.not_eq_true', Int.not_le, Int.not_lt] at g24
            refine spN rfl rfl rfl rfl rfl rfl rfl rfl ?_
            refine sy_sq ?_
            refine spN rfl rfl rfl rfl rfl rfl rfl rfl ?_
            refine sy_sq ?_
            refine sp rfl (PE.pick rfl rfl rfl) rfl ?_
            refine sy_sn ?_
            refine sy_nx ?_
            refine sy_condF rfl ?_
            refine sy_skip ?_
            have hib : inb years 0 12 = false := by rw [inb, decide_eq_false (by omega)]; rfl
            rw [show earnP t years = (0, 3) from by unfold earnP; rw [hib, hck]; try rfl]
            exact sy_jend () (by repeat' first | exact Sub.nil | apply Sub.cons | rfl | (simp [lk]; omega)) (fun _ h => h)
        ·
          try simp only [decide_eq_true_eq, decide_eq_false_iff_not, Bool.and_eq_true, Bool.or_eq_true, Bool.not_eq_true', Int.not_le, Int.not_lt] at hc1
          have hck : t.check ≠ 0 := hc1
          refine sy_skip ?_
          rw [show earnP t years = (0, t.check) from by unfold earnP; rw [decide_eq_true hck]; try rfl]
          exact sy_jend () (by repeat' first | exact Sub.nil | apply Sub.cons | rfl | (simp [lk]; omega)) (fun _ h => h)
      ·
        rintro ⟨⟩
        dsimp only
        refine sy_nx ?_
        refine sy_seq ?_
        refine sy_tx' [0, 1, 2, 3, 4, 5, 6, 7] rfl ?_
        refine sy_sq ?_
        refine spL rfl rfl (lhA [_, _, _, _, _, _, _, _, _, _, _] ag26 rfl rfl rfl) rfl ?_
        refine sy_sq ?_
        refine sp rfl (PE.move rfl) rfl ?_
        refine sy_sq ?_
        refine cl rfl cal31 rfl rfl (c_Earns t (by omega) years bo 0 co _ _) ?_
        rintro _ _ _ ⟨h, rfl, rfl⟩
        rw [earn_P h]
        refine sy_sq ?_
        refine sp rfl (PE.move rfl) rfl ?_
        refine sy_sq ?_
        refine sp rfl (PE.extract rfl rfl) rfl ?_
        refine sy_sq ?_
        refine sp rfl (PE.extract rfl rfl) rfl ?_
        refine sy_sq ?_
        refine sp rfl (PE.assign rfl) rfl ?_
        refine sy_sq ?_
        refine sp rfl (PE.assign rfl) rfl ?_
        refine sy_sn ?_
        refine sy_nx ?_
        refine sy_seq ?_
        refine sy_tx' [0, 1, 2, 3, 4, 5, 6, 7, 8, 9, 10, 11, 12, 13, 14, 15, 16] rfl ?_
        refine sy_sq ?_
        refine sp rfl (PE.move rfl) rfl ?_
        refine sy_sq ?_
        refine sp rfl (PE.move rfl) rfl ?_
        refine sy_sq ?_
        refine sp rfl (PE.eql rfl rfl) rfl ?_
        refine sy_sq ?_
        refine sp rfl (PE.move rfl) rfl ?_
        refine sy_sq ?_
        refine sy_case (t := 42) rfl (fun g42 => ?_) (fun g42 => ?_)
        ·
          refine spG rfl rfl rfl rfl (PE.move rfl) rfl ?_
          refine sy_sq ?_
          refine spG rfl rfl rfl rfl (PE.move rfl) rfl ?_
          refine sy_sq ?_
          refine spG rfl rfl rfl rfl (PE.eql rfl rfl) rfl ?_
          refine sy_sq ?_
          refine sp rfl (PE.pick rfl rfl rfl) rfl ?_
          refine sy_sq ?_
          refine sp rfl (PE.move rfl) rfl ?_
          refine sy_sq ?_
          refine sy_case (t := 47) rfl (fun g47 => ?_) (fun g47 => ?_)
          ·
            refine spLG rfl rfl rfl rfl rfl (lhA [_, _, _, _, _, _, _, _, _, _, _] ag26 rfl rfl rfl) rfl ?_
            refine sy_sq ?_
            refine spLG rfl rfl rfl rfl rfl (lhA [_, _, _, _, _, _, _, _, _, _, _] ag26 rfl rfl rfl) rfl ?_
            refine sy_sq ?_
            refine clVG rfl rfl rfl rfl cal28 rfl rfl (c_same t t _ a co c (by omega) (by omega) _ _) ?_
            refine sy_sq ?_
            refine sp rfl (PE.pick rfl rfl rfl) rfl ?_
            refine sy_sq ?_
            refine sp rfl (PE.move rfl) rfl ?_
            refine sy_sq ?_
            refine sy_case (t := 52) rfl (fun g52 => ?_) (fun g52 => ?_)
            ·
              refine clVG rfl rfl rfl rfl cal16 rfl rfl (c_awake _ _) ?_
              refine sy_sq ?_
              refine sp rfl (PE.pick rfl rfl rfl) rfl ?_
              refine sy_sq ?_
              refine sp rfl (PE.assign rfl) rfl ?_
              refine sy_sn ?_
              refine sy_nx ?_
              refine sy_ret ?_
              exact sy_return (vs := [_]) rfl (.cons (RV.tmp rfl) .nil) rfl ⟨rfl, rfl, rfl⟩ (fun _ h => by repeat first | exact h | replace h := St.tail h | replace h := St.ftail h | replace h := St.drop h)
            ·
              exact absurd g52 (by first | (simp; done) | (simp_all; done))
          ·
            exact absurd g47 (by first | (simp; done) | (simp_all; done))
        ·
          exact absurd g42 (by first | (simp; done) | (simp_all; done))
end Go.Proofs.Ytaldphhdkmchhaa
