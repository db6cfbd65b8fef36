/- Walks of the functions of the program: what each returns and leaves in memory, under the conditions that its theorem names. -/
import Derived.Test.YtaldphhdkmchhaaTy
import Derived.Test.YtaldphhdkmchhaaMa
import Derived.Test.YtaldphhdkmchhaaWk17
namespace Go.Proofs.Ytaldphhdkmchhaa
set_option linter.unusedSimpArgs false
set_option linter.unusedVariables false
open Go
theorem St.norows {sz : Nat} {H : Heap} {R : Facts} {w : World} (h : St H R w) : St H (RowsA none sz [] :: R) w := St.also h (fun _ _ i row hi => by simp at hi)
theorem cho_hit {t : Twn} (h : t.check = 0) (hn : lat (LY t) t.now ≠ -1) : choP t = (pickU (fun q => t.keeps (LY t) t.now q (lat (LY t) t.now)) t.rats t.rats.length, 0) := by simp [choP, h, hn]
theorem cho_none {t : Twn} (h : t.check = 0) (hn : lat (LY t) t.now = -1) : choP t = ([], 6) := by simp [choP, h, hn]
theorem cho_len (t : Twn) : (choP t).1.length ≤ t.rats.length := by
  unfold choP
  cases decide (t.check ≠ 0) with
  | true => simp
  | false => cases decide (lat (LY t) t.now = -1) with
    | true => simp
    | false => exact pickU_len _ _ _

theorem c_Choose2 (t : Twn) (hl : t.rats.length ≤ 9223372036854775807) (ba oa ca : Nat) (H : Heap) (R : Facts) [hR : MemRows (some ⟨ba, oa, none⟩) 2 (rrows t.rats) R] : Fn Try.prog 44 [t.v (t.sl (some ⟨ba, oa, none⟩) ca)] H R (fun v H' R' => ∃ o : OSl 3 1 (irows (choP t).1), v = .tuple #[o.fs, .int .i64 (choP t).2] ∧ H' = o.G ++ H ∧ R' = R) := by
  refine Fn.mono (c_Choose t hl ba oa ca H R) ?_
  rintro v H' R' ⟨⟨hck, rfl, rfl⟩ | ⟨hck, σ, hσ, ⟨h1, rfl, rfl⟩ | ⟨h1, o, rfl, rfl⟩⟩, rfl⟩
  · have e : choP t = ([], t.check) := by simp [choP, hck]
    rw [e]; exact ⟨OSl.nil _ _, rfl, rfl, rfl⟩
  · rw [cho_P0 hck hσ h1]; exact ⟨OSl.nil _ _, rfl, rfl, rfl⟩
  · rw [cho_P hck hσ h1]; exact ⟨o, rfl, rfl, rfl⟩

theorem c_BreadLasts (t : Twn) (a : Option Addr) (c : Nat) (hl : t.rats.length ≤ 9223372036854775807) (s : Sta) (bads : Int) (H : Heap) (R : Facts) [hR : MemRows a 2 (rrows t.rats) R] :
    Fn Try.prog 6 [t.v (t.sl a c), s.v, .int .i64 bads] H R (fun v H' R' => v = .bool true ∧ H' = H ∧ R' = R) := by
  refine fn_of Try.func6 rfl Try.ntmps6 rfl ?_
  refine sy_seq ?_
  refine sy_tx' [0, 1, 2] rfl ?_
  refine sy_sq ?_
  refine bx rfl rfl rfl (fun b3 => ?_)
  refine sy_sq ?_
  refine bx rfl rfl rfl (fun b4 => ?_)
  refine sy_sq ?_
  refine sp rfl (PE.assign rfl) rfl ?_
  refine sy_sn ?_
  refine sy_nx ?_
  refine sy_seq ?_
  refine sy_seq ?_
  refine sy_tx' [0, 1] rfl ?_
  refine sy_sq ?_
  refine spL rfl rfl (lhA [_, _, _, _, _, _, _, _, _, _, _] ag26 rfl rfl rfl) rfl ?_
  refine sy_sq ?_
  refine clV rfl cal15 rfl rfl (c_wide t a c (by omega) _ _) ?_
  refine sy_sn ?_
  refine sy_nx ?_
  refine sy_cond rfl (fun hc0 => ?_) (fun hc0 => ?_)
  ·
    try simp only [decide_eq_true_eq, decide_eq_false_iff_not, Bool.and_eq_true, Bool.or_eq_true, Bool.not_eq_true', Int.not_le, Int.not_lt] at hc0
    refine sy_seq ?_
    refine sy_tx' [0, 1] rfl ?_
    refine sy_sq ?_
    refine clV rfl cal16 rfl rfl (c_awake _ _) ?_
    refine sy_sq ?_
    refine sp rfl (PE.assign rfl) rfl ?_
    refine sy_sn ?_
    refine sy_nx ?_
    refine sy_ret ?_
    refine sy_tr ?_
    exact sy_return (vs := [_]) rfl (.cons (RV.tmp rfl) .nil) rfl ⟨rfl, rfl, rfl⟩ (fun _ h => by repeat first | exact h | replace h := St.tail h | replace h := St.ftail h | replace h := St.drop h)
  ·
    have h7 := wideB_no hc0
    have hcl := cho_len t
    refine sy_skip ?_
    refine sy_nx ?_
    refine sy_seq ?_
    refine sy_cut (ι := (Nat × Nat × Option Addr × Nat) × Nat × Nat) (fun z => ⟨[(2, .int .i64 bads), (3, .pointer (some ⟨b3, 0, none⟩)), (4, .pointer (some ⟨b4, 0, none⟩)), (7, .pointer (some ⟨z.2.1, 0, none⟩)), (8, .pointer (some ⟨z.2.2, 0, none⟩))],
      (z.2.1, cel 26 (twl t (t.sl (some ⟨z.1.1, 0, none⟩) z.1.2.1))) :: (z.2.2, cel 37 (twl t (t.sl z.1.2.2.1 z.1.2.2.2))) :: (b4, cel 23 [.int .i64 s.stock, .int .i64 s.short, .int .i64 s.dry]) :: (b3, cel 26 (twl t (t.sl a c))) :: H, RowsA z.1.2.2.1 2 (rrows t.rats) :: RowsA (some ⟨z.1.1, 0, none⟩) 2 (rrows t.rats) :: R⟩) ?_ ?_
    ·
      refine sy_draw [0, 1, 0, 7, 0, 0, 63, 127] (.ld 0 (.ld 2 (.any (.alt 1 (.any (.alt 3 (.any (.alt 4 (.big 5 (.big 6 (.big 7 .done))) (.alt 5 (.big 4 (.big 6 (.big 7 .done))) .stop))) (.alt 4 (.any (.alt 3 (.big 5 (.big 6 (.big 7 .done))) (.alt 5 (.big 3 (.big 6 (.big 7 .done))) .stop))) (.alt 5 (.any (.alt 3 (.big 4 (.big 6 (.big 7 .done))) (.alt 4 (.big 3 (.big 6 (.big 7 .done))) .stop))) .stop)))) (.alt 4 (.any (.alt 1 (.any (.alt 3 (.big 5 (.big 6 (.big 7 .done))) (.alt 5 (.big 3 (.big 6 (.big 7 .done))) .stop))) (.alt 5 (.big 1 (.big 3 (.big 6 (.big 7 .done)))) .stop))) (.alt 5 (.any (.alt 1 (.any (.alt 3 (.big 4 (.big 6 (.big 7 .done))) (.alt 4 (.big 3 (.big 6 (.big 7 .done))) .stop))) (.alt 4 (.big 1 (.big 3 (.big 6 (.big 7 .done)))) .stop))) .stop)))))) mixed (by kernel_rfl) ?_
      refine ld rfl rfl (lhA [_, _, _, _, _, _, _, _, _, _, _] ag26 rfl rfl rfl) rfl ?_
      refine ld rfl rfl (lhA [_, _, _, _, _, _, _, _, _, _, _] ag26 rfl rfl rfl) rfl ?_
      refine sy_any ?_
      refine sy_alt ?_ ?_
      ·
        refine cl rfl cal17 rfl rfl (c_Own t a c (by omega) _ _) ?_
        rintro _ _ _ ⟨bo, co, rfl, rfl, rfl⟩
        refine bg (fun w hs => ⟨(lhA [_, _, _, _, _, _, _, _, _, _, _] ag26 rfl rfl rfl) w hs, trivial, trivial⟩) ?_
        refine sy_any ?_
        refine sy_alt ?_ ?_
        ·
          refine cl rfl cal19 rfl rfl (c_theirs t a c (by omega) _ _) ?_
          rintro _ _ _ ⟨ax, cx, rfl, rfl, rfl⟩
          refine bg (fun w hs => ⟨trivial, trivial⟩) ?_
          refine sy_any ?_
          refine sy_alt ?_ ?_
          ·
            refine alc rfl zl26 rfl (fun b7 => ?_)
            refine bg (fun w hs => trivial) ?_
            refine sy_bg ?_
            refine alc rfl zl37 rfl (fun b8 => ?_)
            refine bg (fun w hs => trivial) ?_
            refine sy_bg ?_
            refine sto rfl rfl rfl cn26 rfl rfl rfl rfl ?_
            refine bg (fun w hs => trivial) ?_
            refine sy_bg ?_
            refine sto rfl rfl rfl cn37 rfl rfl rfl rfl ?_
            refine bg (fun w hs => trivial) ?_
            refine sy_dn ?_
            exact sy_cutEnd ((bo, co, ax, cx), b7, b8) (by repeat' first | exact Sub.nil | apply Sub.cons | rfl | (simp [lk]; omega)) (fun _ h => St.sub ((((h.pull b3).pull b4).pull b8).pull b7))
          refine sy_alt ?_ ?_
          ·
            refine alc rfl zl37 rfl (fun b8 => ?_)
            refine bg (fun w hs => trivial) ?_
            refine sy_bg ?_
            refine alc rfl zl26 rfl (fun b7 => ?_)
            refine bg (fun w hs => trivial) ?_
            refine sy_bg ?_
            refine sto rfl rfl rfl cn26 rfl rfl rfl rfl ?_
            refine bg (fun w hs => trivial) ?_
            refine sy_bg ?_
            refine sto rfl rfl rfl cn37 rfl rfl rfl rfl ?_
            refine bg (fun w hs => trivial) ?_
            refine sy_dn ?_
            exact sy_cutEnd ((bo, co, ax, cx), b7, b8) (by repeat' first | exact Sub.nil | apply Sub.cons | rfl | (simp [lk]; omega)) (fun _ h => St.sub ((((h.pull b3).pull b4).pull b8).pull b7))
          exact sy_stop
        refine sy_alt ?_ ?_
        ·
          refine alc rfl zl26 rfl (fun b7 => ?_)
          refine bg (fun w hs => ⟨(lhA [_, _, _, _, _, _, _, _, _, _, _] ag26 rfl rfl rfl) w hs, trivial⟩) ?_
          refine sy_any ?_
          refine sy_alt ?_ ?_
          ·
            refine cl rfl cal19 rfl rfl (c_theirs t a c (by omega) _ _) ?_
            rintro _ _ _ ⟨ax, cx, rfl, rfl, rfl⟩
            refine bg (fun w hs => ⟨trivial, trivial⟩) ?_
            refine sy_bg ?_
            refine alc rfl zl37 rfl (fun b8 => ?_)
            refine bg (fun w hs => trivial) ?_
            refine sy_bg ?_
            refine sto rfl rfl rfl cn26 rfl rfl rfl rfl ?_
            refine bg (fun w hs => trivial) ?_
            refine sy_bg ?_
            refine sto rfl rfl rfl cn37 rfl rfl rfl rfl ?_
            refine bg (fun w hs => trivial) ?_
            refine sy_dn ?_
            exact sy_cutEnd ((bo, co, ax, cx), b7, b8) (by repeat' first | exact Sub.nil | apply Sub.cons | rfl | (simp [lk]; omega)) (fun _ h => St.sub ((((h.pull b3).pull b4).pull b8).pull b7))
          refine sy_alt ?_ ?_
          ·
            refine alc rfl zl37 rfl (fun b8 => ?_)
            refine bg (fun w hs => ⟨(lhA [_, _, _, _, _, _, _, _, _, _, _] ag26 rfl rfl rfl) w hs, trivial⟩) ?_
            refine sy_bg ?_
            refine cl rfl cal19 rfl rfl (c_theirs t a c (by omega) _ _) ?_
            rintro _ _ _ ⟨ax, cx, rfl, rfl, rfl⟩
            refine bg (fun w hs => ⟨trivial, trivial⟩) ?_
            refine sy_bg ?_
            refine sto rfl rfl rfl cn26 rfl rfl rfl rfl ?_
            refine bg (fun w hs => trivial) ?_
            refine sy_bg ?_
            refine sto rfl rfl rfl cn37 rfl rfl rfl rfl ?_
            refine bg (fun w hs => trivial) ?_
            refine sy_dn ?_
            exact sy_cutEnd ((bo, co, ax, cx), b7, b8) (by repeat' first | exact Sub.nil | apply Sub.cons | rfl | (simp [lk]; omega)) (fun _ h => St.sub ((((h.pull b3).pull b4).pull b8).pull b7))
          exact sy_stop
        refine sy_alt ?_ ?_
        ·
          refine alc rfl zl37 rfl (fun b8 => ?_)
          refine bg (fun w hs => ⟨(lhA [_, _, _, _, _, _, _, _, _, _, _] ag26 rfl rfl rfl) w hs, trivial⟩) ?_
          refine sy_any ?_
          refine sy_alt ?_ ?_
          ·
            refine cl rfl cal19 rfl rfl (c_theirs t a c (by omega) _ _) ?_
            rintro _ _ _ ⟨ax, cx, rfl, rfl, rfl⟩
            refine bg (fun w hs => ⟨trivial, trivial⟩) ?_
            refine sy_bg ?_
            refine alc rfl zl26 rfl (fun b7 => ?_)
            refine bg (fun w hs => trivial) ?_
            refine sy_bg ?_
            refine sto rfl rfl rfl cn26 rfl rfl rfl rfl ?_
            refine bg (fun w hs => trivial) ?_
            refine sy_bg ?_
            refine sto rfl rfl rfl cn37 rfl rfl rfl rfl ?_
            refine bg (fun w hs => trivial) ?_
            refine sy_dn ?_
            exact sy_cutEnd ((bo, co, ax, cx), b7, b8) (by repeat' first | exact Sub.nil | apply Sub.cons | rfl | (simp [lk]; omega)) (fun _ h => St.sub ((((h.pull b3).pull b4).pull b8).pull b7))
          refine sy_alt ?_ ?_
          ·
            refine alc rfl zl26 rfl (fun b7 => ?_)
            refine bg (fun w hs => ⟨(lhA [_, _, _, _, _, _, _, _, _, _, _] ag26 rfl rfl rfl) w hs, trivial⟩) ?_
            refine sy_bg ?_
            refine cl rfl cal19 rfl rfl (c_theirs t a c (by omega) _ _) ?_
            rintro _ _ _ ⟨ax, cx, rfl, rfl, rfl⟩
            refine bg (fun w hs => ⟨trivial, trivial⟩) ?_
            refine sy_bg ?_
            refine sto rfl rfl rfl cn26 rfl rfl rfl rfl ?_
            refine bg (fun w hs => trivial) ?_
            refine sy_bg ?_
            refine sto rfl rfl rfl cn37 rfl rfl rfl rfl ?_
            refine bg (fun w hs => trivial) ?_
            refine sy_dn ?_
            exact sy_cutEnd ((bo, co, ax, cx), b7, b8) (by repeat' first | exact Sub.nil | apply Sub.cons | rfl | (simp [lk]; omega)) (fun _ h => St.sub ((((h.pull b3).pull b4).pull b8).pull b7))
          exact sy_stop
        exact sy_stop
      refine sy_alt ?_ ?_
      ·
        refine alc rfl zl26 rfl (fun b7 => ?_)
        refine bg (fun w hs => ⟨(lhA [_, _, _, _, _, _, _, _, _, _, _] ag26 rfl rfl rfl) w hs, (lhA [_, _, _, _, _, _, _, _, _, _, _] ag26 rfl rfl rfl) w hs, trivial⟩) ?_
        refine sy_any ?_
        refine sy_alt ?_ ?_
        ·
          refine cl rfl cal17 rfl rfl (c_Own t a c (by omega) _ _) ?_
          rintro _ _ _ ⟨bo, co, rfl, rfl, rfl⟩
          refine bg (fun w hs => ⟨(lhA [_, _, _, _, _, _, _, _, _, _, _] ag26 rfl rfl rfl) w hs, trivial, trivial⟩) ?_
          refine sy_any ?_
          refine sy_alt ?_ ?_
          ·
            refine cl rfl cal19 rfl rfl (c_theirs t a c (by omega) _ _) ?_
            rintro _ _ _ ⟨ax, cx, rfl, rfl, rfl⟩
            refine bg (fun w hs => ⟨trivial, trivial⟩) ?_
            refine sy_bg ?_
            refine alc rfl zl37 rfl (fun b8 => ?_)
            refine bg (fun w hs => trivial) ?_
            refine sy_bg ?_
            refine sto rfl rfl rfl cn26 rfl rfl rfl rfl ?_
            refine bg (fun w hs => trivial) ?_
            refine sy_bg ?_
            refine sto rfl rfl rfl cn37 rfl rfl rfl rfl ?_
            refine bg (fun w hs => trivial) ?_
            refine sy_dn ?_
            exact sy_cutEnd ((bo, co, ax, cx), b7, b8) (by repeat' first | exact Sub.nil | apply Sub.cons | rfl | (simp [lk]; omega)) (fun _ h => St.sub ((((h.pull b3).pull b4).pull b8).pull b7))
          refine sy_alt ?_ ?_
          ·
            refine alc rfl zl37 rfl (fun b8 => ?_)
            refine bg (fun w hs => ⟨(lhA [_, _, _, _, _, _, _, _, _, _, _] ag26 rfl rfl rfl) w hs, trivial⟩) ?_
            refine sy_bg ?_
            refine cl rfl cal19 rfl rfl (c_theirs t a c (by omega) _ _) ?_
            rintro _ _ _ ⟨ax, cx, rfl, rfl, rfl⟩
            refine bg (fun w hs => ⟨trivial, trivial⟩) ?_
            refine sy_bg ?_
            refine sto rfl rfl rfl cn26 rfl rfl rfl rfl ?_
            refine bg (fun w hs => trivial) ?_
            refine sy_bg ?_
            refine sto rfl rfl rfl cn37 rfl rfl rfl rfl ?_
            refine bg (fun w hs => trivial) ?_
            refine sy_dn ?_
            exact sy_cutEnd ((bo, co, ax, cx), b7, b8) (by repeat' first | exact Sub.nil | apply Sub.cons | rfl | (simp [lk]; omega)) (fun _ h => St.sub ((((h.pull b3).pull b4).pull b8).pull b7))
          exact sy_stop
        refine sy_alt ?_ ?_
        ·
          refine alc rfl zl37 rfl (fun b8 => ?_)
          refine bg (fun w hs => ⟨(lhA [_, _, _, _, _, _, _, _, _, _, _] ag26 rfl rfl rfl) w hs, (lhA [_, _, _, _, _, _, _, _, _, _, _] ag26 rfl rfl rfl) w hs, trivial⟩) ?_
          refine sy_bg ?_
          refine cl rfl cal17 rfl rfl (c_Own t a c (by omega) _ _) ?_
          rintro _ _ _ ⟨bo, co, rfl, rfl, rfl⟩
          refine bg (fun w hs => ⟨(lhA [_, _, _, _, _, _, _, _, _, _, _] ag26 rfl rfl rfl) w hs, trivial, trivial⟩) ?_
          refine sy_bg ?_
          refine cl rfl cal19 rfl rfl (c_theirs t a c (by omega) _ _) ?_
          rintro _ _ _ ⟨ax, cx, rfl, rfl, rfl⟩
          refine bg (fun w hs => ⟨trivial, trivial⟩) ?_
          refine sy_bg ?_
          refine sto rfl rfl rfl cn26 rfl rfl rfl rfl ?_
          refine bg (fun w hs => trivial) ?_
          refine sy_bg ?_
          refine sto rfl rfl rfl cn37 rfl rfl rfl rfl ?_
          refine bg (fun w hs => trivial) ?_
          refine sy_dn ?_
          exact sy_cutEnd ((bo, co, ax, cx), b7, b8) (by repeat' first | exact Sub.nil | apply Sub.cons | rfl | (simp [lk]; omega)) (fun _ h => St.sub ((((h.pull b3).pull b4).pull b8).pull b7))
        exact sy_stop
      refine sy_alt ?_ ?_
      ·
        refine alc rfl zl37 rfl (fun b8 => ?_)
        refine bg (fun w hs => ⟨(lhA [_, _, _, _, _, _, _, _, _, _, _] ag26 rfl rfl rfl) w hs, (lhA [_, _, _, _, _, _, _, _, _, _, _] ag26 rfl rfl rfl) w hs, trivial⟩) ?_
        refine sy_any ?_
        refine sy_alt ?_ ?_
        ·
          refine cl rfl cal17 rfl rfl (c_Own t a c (by omega) _ _) ?_
          rintro _ _ _ ⟨bo, co, rfl, rfl, rfl⟩
          refine bg (fun w hs => ⟨(lhA [_, _, _, _, _, _, _, _, _, _, _] ag26 rfl rfl rfl) w hs, trivial, trivial⟩) ?_
          refine sy_any ?_
          refine sy_alt ?_ ?_
          ·
            refine cl rfl cal19 rfl rfl (c_theirs t a c (by omega) _ _) ?_
            rintro _ _ _ ⟨ax, cx, rfl, rfl, rfl⟩
            refine bg (fun w hs => ⟨trivial, trivial⟩) ?_
            refine sy_bg ?_
            refine alc rfl zl26 rfl (fun b7 => ?_)
            refine bg (fun w hs => trivial) ?_
            refine sy_bg ?_
            refine sto rfl rfl rfl cn26 rfl rfl rfl rfl ?_
            refine bg (fun w hs => trivial) ?_
            refine sy_bg ?_
            refine sto rfl rfl rfl cn37 rfl rfl rfl rfl ?_
            refine bg (fun w hs => trivial) ?_
            refine sy_dn ?_
            exact sy_cutEnd ((bo, co, ax, cx), b7, b8) (by repeat' first | exact Sub.nil | apply Sub.cons | rfl | (simp [lk]; omega)) (fun _ h => St.sub ((((h.pull b3).pull b4).pull b8).pull b7))
          refine sy_alt ?_ ?_
          ·
            refine alc rfl zl26 rfl (fun b7 => ?_)
            refine bg (fun w hs => ⟨(lhA [_, _, _, _, _, _, _, _, _, _, _] ag26 rfl rfl rfl) w hs, trivial⟩) ?_
            refine sy_bg ?_
            refine cl rfl cal19 rfl rfl (c_theirs t a c (by omega) _ _) ?_
            rintro _ _ _ ⟨ax, cx, rfl, rfl, rfl⟩
            refine bg (fun w hs => ⟨trivial, trivial⟩) ?_
            refine sy_bg ?_
            refine sto rfl rfl rfl cn26 rfl rfl rfl rfl ?_
            refine bg (fun w hs => trivial) ?_
            refine sy_bg ?_
            refine sto rfl rfl rfl cn37 rfl rfl rfl rfl ?_
            refine bg (fun w hs => trivial) ?_
            refine sy_dn ?_
            exact sy_cutEnd ((bo, co, ax, cx), b7, b8) (by repeat' first | exact Sub.nil | apply Sub.cons | rfl | (simp [lk]; omega)) (fun _ h => St.sub ((((h.pull b3).pull b4).pull b8).pull b7))
          exact sy_stop
        refine sy_alt ?_ ?_
        ·
          refine alc rfl zl26 rfl (fun b7 => ?_)
          refine bg (fun w hs => ⟨(lhA [_, _, _, _, _, _, _, _, _, _, _] ag26 rfl rfl rfl) w hs, (lhA [_, _, _, _, _, _, _, _, _, _, _] ag26 rfl rfl rfl) w hs, trivial⟩) ?_
          refine sy_bg ?_
          refine cl rfl cal17 rfl rfl (c_Own t a c (by omega) _ _) ?_
          rintro _ _ _ ⟨bo, co, rfl, rfl, rfl⟩
          refine bg (fun w hs => ⟨(lhA [_, _, _, _, _, _, _, _, _, _, _] ag26 rfl rfl rfl) w hs, trivial, trivial⟩) ?_
          refine sy_bg ?_
          refine cl rfl cal19 rfl rfl (c_theirs t a c (by omega) _ _) ?_
          rintro _ _ _ ⟨ax, cx, rfl, rfl, rfl⟩
          refine bg (fun w hs => ⟨trivial, trivial⟩) ?_
          refine sy_bg ?_
          refine sto rfl rfl rfl cn26 rfl rfl rfl rfl ?_
          refine bg (fun w hs => trivial) ?_
          refine sy_bg ?_
          refine sto rfl rfl rfl cn37 rfl rfl rfl rfl ?_
          refine bg (fun w hs => trivial) ?_
          refine sy_dn ?_
          exact sy_cutEnd ((bo, co, ax, cx), b7, b8) (by repeat' first | exact Sub.nil | apply Sub.cons | rfl | (simp [lk]; omega)) (fun _ h => St.sub ((((h.pull b3).pull b4).pull b8).pull b7))
        exact sy_stop
      exact sy_stop
    ·
      rintro ⟨⟨bo, co, ax, cx⟩, b7, b8⟩
      dsimp only
      refine sy_nx ?_
      refine sy_seq ?_
      refine sy_tx' [0, 1, 2] rfl ?_
      refine sy_sq ?_
      refine spL rfl rfl (lhA [_, _, _, _, _, _, _, _, _, _, _] ag37 rfl rfl rfl) rfl ?_
      refine sy_sq ?_
      refine clV rfl cal20 rfl rfl (c_rCheck t ax cx (by omega) _ _) ?_
      refine sy_sq ?_
      refine sp rfl (PE.assign rfl) rfl ?_
      refine sy_sn ?_
      refine sy_nx ?_
      refine sy_seq ?_
      refine sy_tx' [0, 1, 2, 3, 4, 5] rfl ?_
      refine sy_sq ?_
      refine sp rfl (PE.move rfl) rfl ?_
      refine sy_sq ?_
      refine sp rfl (PE.move rfl) rfl ?_
      refine sy_sq ?_
      refine sp rfl (PE.move rfl) rfl ?_
      refine sy_sq ?_
      refine sp rfl (PE.assign rfl) rfl ?_
      refine sy_sq ?_
      refine sp rfl (PE.assign rfl) rfl ?_
      refine sy_sq ?_
      refine sp rfl (PE.assign rfl) rfl ?_
      refine sy_sn ?_
      refine sy_nx ?_
      refine sy_seq ?_
      refine sy_tx' [0, 1, 2] rfl ?_
      refine sy_sq ?_
      refine sp rfl (PE.assign rfl) rfl ?_
      refine sy_sq ?_
      refine sp rfl (PE.assign rfl) rfl ?_
      refine sy_sq ?_
      refine sp rfl (PE.assign rfl) rfl ?_
      refine sy_sn ?_
      refine sy_nx ?_
      refine sy_seq ?_
      refine sy_tx' [0] rfl ?_
      refine sy_sq ?_
      refine sp rfl (PE.assign rfl) rfl ?_
      refine sy_sn ?_
      refine sy_nx ?_
      refine sy_seq ?_
      refine sy_seq ?_
      refine sy_tx' [0, 1] rfl ?_
      refine sy_sq ?_
      refine sp rfl (PE.move rfl) rfl ?_
      refine sy_sq ?_
      refine sp rfl (PE.eql rfl rfl) rfl ?_
      refine sy_sn ?_
      refine sy_nx ?_
      refine sy_join (ι := Option Addr × Nat) (fun z => ⟨[(2, .int .i64 bads), (3, .pointer (some ⟨b3, 0, none⟩)), (4, .pointer (some ⟨b4, 0, none⟩)), (7, .pointer (some ⟨b7, 0, none⟩)), (8, .pointer (some ⟨b8, 0, none⟩)), (9, .int .i64 t.check), (10, .int .i64 ((fromP t s).2)), (11, .int .i64 ((choP t).2)), (12, .int .i64 ((neeP t bads).2)), (13, .int .i64 ((lastP t).1)), (14, .int .i64 ((fromP t s).1)), (15, .int .i64 ((neeP t bads).1)), (16, .slice z.1 (choP t).1.length z.2)], (b7, cel 26 (twl t (t.sl (some ⟨bo, 0, none⟩) co))) :: (b8, cel 37 (twl t (t.sl ax cx))) :: (b4, cel 23 [.int .i64 s.stock, .int .i64 s.short, .int .i64 s.dry]) :: (b3, cel 26 (twl t (t.sl a c))) :: H, RowsA z.1 1 (irows (choP t).1) :: RowsA ax 2 (rrows t.rats) :: RowsA (some ⟨bo, 0, none⟩) 2 (rrows t.rats) :: R⟩) ?_ ?_
      ·
        refine sy_cond rfl (fun hc1 => ?_) (fun hc1 => ?_)
        ·
          try simp only [decide_eq_true_eq, decide_eq_false_iff_not, Bool.and_eq_true, Bool.or_eq_true, Bool.not_eq_true', Int.not_le, Int.not_lt] at hc1
          have hck : t.check = 0 := hc1
          have hok := (ok_of_check hck).1
          refine sy_addr (a := ax) (sz := 2) (rows := rrows t.rats) (by have := hok.many; intro h0; simp [rrows] at h0; simp [h0] at this) (fun bx ox he => ?_)
          subst he
          refine sy_seq ?_
          refine sy_tx' [0, 1, 2] rfl ?_
          refine sy_sq ?_
          refine spL rfl rfl (lhA [_, _, _, _, _, _, _, _, _, _, _] ag37 rfl rfl rfl) rfl ?_
          refine sy_sq ?_
          refine cl rfl cal22 rfl rfl (c_rSolved t hok bx ox cx _ _) ?_
          rintro _ _ _ ⟨bla, la, hsol, rfl, rfl, rfl⟩
          obtain ⟨hrel, hlsa⟩ := hsol.ly hok
          have hrg := ls_range hlsa hok.now
          refine Sy.heap (fun w h => St.intRows h) ?_
          refine sy_sq ?_
          refine sp rfl (PE.assign rfl) rfl ?_
          refine sy_sn ?_
          refine sy_nx ?_
          refine sy_seq ?_
          refine sy_tx' [0, 1, 2, 3, 4, 5] rfl ?_
          refine sy_sq ?_
          refine spL rfl rfl (lhA [_, _, _, _, _, _, _, _, _, _, _] ag37 rfl rfl rfl) rfl ?_
          refine sy_sq ?_
          refine sp rfl (PE.move rfl) rfl ?_
          refine sy_sq ?_
          refine sp rfl (PE.fieldAddr fo37_0 rfl) rfl ?_
          refine sy_sq ?_
          refine spL rfl rfl (lhA [_, _, _] ag34 rfl rfl rfl) rfl ?_
          refine sy_sq ?_
          refine clV rfl cal21 rfl rfl (c_rLasts t hok t.now hok.now _ la (LY t) hrel bla 0 t.nst _ _) ?_
          refine sy_sq ?_
          refine sp rfl (PE.assign rfl) rfl ?_
          refine sy_sn ?_
          refine sy_nx ?_
          refine sy_seq ?_
          refine sy_seq ?_
          refine sy_tx' [0] rfl ?_
          refine sy_sq ?_
          refine sp rfl (PE.assign rfl) rfl ?_
          refine sy_sn ?_
          refine sy_nx ?_
          refine sy_seq ?_
          refine sy_tx' [0, 1, 2] rfl ?_
          refine sy_sq ?_
          refine spL rfl rfl (lhA [_, _, _, _, _, _, _, _, _, _, _] ag37 rfl rfl rfl) rfl ?_
          refine sy_sq ?_
          refine spL rfl rfl (lhA [_, _, _] ag23 rfl rfl rfl) rfl ?_
          refine sy_sq ?_
          refine clV rfl cal39 rfl rfl (c_rRight t s _ _ _) ?_
          refine sy_sn ?_
          refine sy_nx ?_
          refine sy_join (ι := Unit) (fun _ => ⟨[(2, .int .i64 bads), (3, .pointer (some ⟨b3, 0, none⟩)), (4, .pointer (some ⟨b4, 0, none⟩)), (7, .pointer (some ⟨b7, 0, none⟩)), (8, .pointer (some ⟨b8, 0, none⟩)), (9, .int .i64 t.check), (10, .int .i64 ((fromP t s).2)), (11, .int .i64 (t.check)), (12, .int .i64 (t.check)), (13, .int .i64 (lat (LY t) t.now)), (14, .int .i64 ((fromP t s).1)), (15, .int .i64 (0)), (16, .slice none 0 0), (17, .slice (some ⟨bla, 0, none⟩) t.nst t.nst)], (b7, cel 26 (twl t (t.sl (some ⟨bo, 0, none⟩) co))) :: (b8, cel 37 (twl t (t.sl (some ⟨bx, ox, none⟩) cx))) :: (b4, cel 23 [.int .i64 s.stock, .int .i64 s.short, .int .i64 s.dry]) :: (b3, cel 26 (twl t (t.sl a c))) :: H, RowsA (some ⟨bla, 0, none⟩) 1 (irows la) :: RowsA (some ⟨bx, ox, none⟩) 2 (rrows t.rats) :: RowsA (some ⟨bo, 0, none⟩) 2 (rrows t.rats) :: R⟩) ?_ ?_
          ·
            refine sy_cond rfl (fun hc2 => ?_) (fun hc2 => ?_)
            ·
              refine sy_tx' [0, 1, 2, 3, 4, 5] rfl ?_
              refine sy_sq ?_
              refine spL rfl rfl (lhA [_, _, _, _, _, _, _, _, _, _, _] ag37 rfl rfl rfl) rfl ?_
              refine sy_sq ?_
              refine sp rfl (PE.move rfl) rfl ?_
              refine sy_sq ?_
              refine spL rfl rfl (lhA [_, _, _] ag23 rfl rfl rfl) rfl ?_
              refine sy_sq ?_
              refine clV rfl cal21 rfl rfl (c_rLasts t hok s hc2 _ la (LY t) hrel bla 0 t.nst _ _) ?_
              refine sy_sq ?_
              refine sp rfl (PE.assign rfl) rfl ?_
              refine sy_sq ?_
              refine sp rfl (PE.assign rfl) rfl ?_
              refine sy_sn ?_
              rw [show fromP t s = (lat (LY t) s, 0) from by simp [fromP, hck, hc2]]
              exact sy_jend () (by repeat' first | exact Sub.nil | apply Sub.cons | rfl | (simp [lk]; omega)) (fun _ h => h)
            ·
              refine sy_skip ?_
              rw [show fromP t s = (0, 3) from by simp [fromP, hck, hc2]]
              exact sy_jend () (by repeat' first | exact Sub.nil | apply Sub.cons | rfl | (simp [lk]; omega)) (fun _ h => h)
          ·
            rintro ⟨⟩
            dsimp only
            refine sy_nx ?_
            refine sy_seq ?_
            refine sy_seq ?_
            refine sy_tx' [0] rfl ?_
            refine sy_sq ?_
            refine sp rfl (PE.assign rfl) rfl ?_
            refine sy_sn ?_
            refine sy_nx ?_
            refine sy_seq ?_
            refine sy_tx' [0, 1] rfl ?_
            refine sy_sq ?_
            refine sp rfl (PE.move rfl) rfl ?_
            refine sy_sq ?_
            refine sp rfl (PE.geq rfl rfl) rfl ?_
            refine sy_sn ?_
            refine sy_nx ?_
            refine sy_join (ι := Option Addr × Nat) (fun z => ⟨[(2, .int .i64 bads), (3, .pointer (some ⟨b3, 0, none⟩)), (4, .pointer (some ⟨b4, 0, none⟩)), (7, .pointer (some ⟨b7, 0, none⟩)), (8, .pointer (some ⟨b8, 0, none⟩)), (9, .int .i64 t.check), (10, .int .i64 ((fromP t s).2)), (11, .int .i64 ((choP t).2)), (12, .int .i64 (t.check)), (13, .int .i64 (lat (LY t) t.now)), (14, .int .i64 ((fromP t s).1)), (15, .int .i64 (0)), (16, .slice z.1 (choP t).1.length z.2), (17, .slice (some ⟨bla, 0, none⟩) t.nst t.nst)], (b7, cel 26 (twl t (t.sl (some ⟨bo, 0, none⟩) co))) :: (b8, cel 37 (twl t (t.sl (some ⟨bx, ox, none⟩) cx))) :: (b4, cel 23 [.int .i64 s.stock, .int .i64 s.short, .int .i64 s.dry]) :: (b3, cel 26 (twl t (t.sl a c))) :: H, RowsA z.1 1 (irows (choP t).1) :: RowsA (some ⟨bla, 0, none⟩) 1 (irows la) :: RowsA (some ⟨bx, ox, none⟩) 2 (rrows t.rats) :: RowsA (some ⟨bo, 0, none⟩) 2 (rrows t.rats) :: R⟩) ?_ ?_
            ·
              refine sy_cond rfl (fun hc3 => ?_) (fun hc3 => ?_)
              ·
                try simp only [decide_eq_true_eq, decide_eq_false_iff_not, Bool.and_eq_true, Bool.or_eq_true, Bool.not_eq_true', Int.not_le, Int.not_lt] at hc3
                
                refine sy_tx' [0, 1, 2, 3, 4] rfl ?_
                refine sy_sq ?_
                refine spL rfl rfl (lhA [_, _, _, _, _, _, _, _, _, _, _] ag37 rfl rfl rfl) rfl ?_
                refine sy_sq ?_
                refine sp rfl (PE.move rfl) rfl ?_
                refine sy_sq ?_
                refine cl rfl cal40 rfl rfl (c_rChoose t hok bx ox cx la (LY t) hrel bla 0 t.nst (by omega) _ _) ?_
                rintro _ _ _ ⟨oc, rfl, rfl, rfl⟩
                obtain ⟨ac, cc, hoc, hfc⟩ := oc.freeze
                rw [hoc]
                refine Sy.heap (fun w h => hfc h) ?_
                rw [show (irows (pickU (fun q => t.keeps (LY t) t.now q (lat (LY t) t.now)) t.rats t.rats.length)).length = (pickU (fun q => t.keeps (LY t) t.now q (lat (LY t) t.now)) t.rats t.rats.length).length from List.length_map _]
                refine sy_sq ?_
                refine sp rfl (PE.assign rfl) rfl ?_
                refine sy_sq ?_
                refine sp rfl (PE.assign rfl) rfl ?_
                refine sy_sn ?_
                rw [cho_hit hck (by omega)]
                exact sy_jend (ac, cc) (by repeat' first | exact Sub.nil | apply Sub.cons | rfl | (simp [lk]; omega)) (fun _ h => h)
              ·
                try simp only [decide_eq_true_eq, decide_eq_false_iff_not, Bool.and_eq_true, Bool.or_eq_true, Bool.not_eq_true', Int.not_le, Int.not_lt] at hc3
                
                refine sy_skip ?_
                rw [cho_none hck (by omega)]
                exact sy_jend (none, 0) (by repeat' first | exact Sub.nil | apply Sub.cons | rfl | (simp [lk]; omega)) (fun _ h => St.norows h)
            ·
              rintro ⟨ac, cc⟩
              dsimp only
              refine sy_nx ?_
              refine sy_seq ?_
              refine sy_tx' [0] rfl ?_
              refine sy_sq ?_
              refine sp rfl (PE.assign rfl) rfl ?_
              refine sy_sn ?_
              refine sy_nx ?_
              refine sy_seq ?_
              refine sy_tx' [0, 1, 2, 3, 4, 5] rfl ?_
              refine sy_sq ?_
              refine sp rfl (PE.move rfl) rfl ?_
              refine sy_sq ?_
              refine sp rfl (PE.geq rfl rfl) rfl ?_
              refine sy_sq ?_
              refine sp rfl (PE.move rfl) rfl ?_
              refine sy_sq ?_
              refine sy_case (t := 62) rfl (fun g62 => ?_) (fun g62 => ?_)
              ·
                try simp only [decide_eq_true_eq, decide_eq_false_iff_not, Bool.and_eq_true, Bool.or_eq_true, Bool.not_eq_true', Int.not_le, Int.not_lt] at g62
                refine spG rfl rfl rfl rfl (PE.move rfl) rfl ?_
                refine sy_sq ?_
                refine spG rfl rfl rfl rfl (PE.leq rfl rfl) rfl ?_
                refine sy_sq ?_
                refine sp rfl (PE.pick rfl rfl rfl) rfl ?_
                refine sy_sn ?_
                refine sy_nx ?_
                refine sy_join (ι := Unit) (fun _ => ⟨[(2, .int .i64 bads), (3, .pointer (some ⟨b3, 0, none⟩)), (4, .pointer (some ⟨b4, 0, none⟩)), (7, .pointer (some ⟨b7, 0, none⟩)), (8, .pointer (some ⟨b8, 0, none⟩)), (9, .int .i64 t.check), (10, .int .i64 ((fromP t s).2)), (11, .int .i64 ((choP t).2)), (12, .int .i64 ((neeP t bads).2)), (13, .int .i64 (lat (LY t) t.now)), (14, .int .i64 ((fromP t s).1)), (15, .int .i64 ((neeP t bads).1)), (16, .slice ac (choP t).1.length cc)], (b7, cel 26 (twl t (t.sl (some ⟨bo, 0, none⟩) co))) :: (b8, cel 37 (twl t (t.sl (some ⟨bx, ox, none⟩) cx))) :: (b4, cel 23 [.int .i64 s.stock, .int .i64 s.short, .int .i64 s.dry]) :: (b3, cel 26 (twl t (t.sl a c))) :: H, RowsA ac 1 (irows (choP t).1) :: RowsA (some ⟨bx, ox, none⟩) 2 (rrows t.rats) :: RowsA (some ⟨bo, 0, none⟩) 2 (rrows t.rats) :: R⟩) ?_ ?_
                ·
                  refine sy_cond rfl (fun hc4 => ?_) (fun hc4 => ?_)
                  ·
                    try simp only [decide_eq_true_eq, decide_eq_false_iff_not, Bool.and_eq_true, Bool.or_eq_true, Bool.not_eq_true', Int.not_le, Int.not_lt] at hc4
                    have hib : inb bads 0 1000000 = true := by simp only [inb]; simp_all
                    refine sy_seq ?_
                    refine sy_tx' [0] rfl ?_
                    refine sy_sq ?_
                    refine sp rfl (PE.assign rfl) rfl ?_
                    refine sy_sn ?_
                    refine sy_nx ?_
                    refine sy_seq ?_
                    refine sy_tx' [0, 1, 2, 3, 4, 5, 6, 7, 8] rfl ?_
                    refine sy_sq ?_
                    refine spL rfl rfl (lhA [_, _, _, _, _, _, _, _, _, _, _] ag37 rfl rfl rfl) rfl ?_
                    refine sy_sq ?_
                    refine sp rfl (PE.move rfl) rfl ?_
                    refine sy_sq ?_
                    refine sp rfl (PE.move rfl) rfl ?_
                    refine sy_sq ?_
                    refine clV rfl cal41 rfl rfl (c_rNeeds t hok bads _ la (LY t) hrel bla 0 t.nst _ _) ?_
                    refine sy_sq ?_
                    refine sp rfl (PE.move rfl) rfl ?_
                    refine sy_sq ?_
                    refine sp rfl (PE.extract rfl rfl) rfl ?_
                    refine sy_sq ?_
                    refine sp rfl (PE.extract rfl rfl) rfl ?_
                    refine sy_sq ?_
                    refine sp rfl (PE.assign rfl) rfl ?_
                    refine sy_sq ?_
                    refine sp rfl (PE.assign rfl) rfl ?_
                    refine sy_sn ?_
                    refine sy_nx ?_
                    refine sy_seq ?_
                    refine sy_tx' [0] rfl ?_
                    refine sy_sq ?_
                    refine sp rfl (PE.move rfl) rfl ?_
                    refine sy_sn ?_
                    refine sy_nx ?_
                    refine sy_cond rfl (fun hc5 => ?_) (fun hc5 => ?_)
                    ·
                      obtain ⟨k, hk⟩ := Option.isSome_iff_exists.1 hc5
                      rw [hk]
                      refine sy_tx' [0] rfl ?_
                      refine sy_sq ?_
                      refine sp rfl (PE.assign rfl) rfl ?_
                      refine sy_sn ?_
                      rw [show neeP t bads = (k, 0) from by unfold neeP; rw [hib, hk]; simp [hck]]
                      exact sy_jend () (by repeat' first | exact Sub.nil | apply Sub.cons | rfl | (simp [lk]; omega)) (fun _ h => St.sub h)
                    ·
                      have hk : needO t (LY t) bads = none := by simpa using hc5
                      rw [hk]
                      refine sy_tx' [0] rfl ?_
                      refine sy_sq ?_
                      refine sp rfl (PE.assign rfl) rfl ?_
                      refine sy_sn ?_
                      rw [show neeP t bads = (0, 6) from by unfold neeP; rw [hib, hk]; simp [hck]]
                      exact sy_jend () (by repeat' first | exact Sub.nil | apply Sub.cons | rfl | (simp [lk]; omega)) (fun _ h => St.sub h)
                  ·
                    try simp only [decide_eq_true_eq, decide_eq_false_iff_not, Bool.and_eq_true, Bool.or_eq_true, Bool.not_eq_true', Int.not_le, Int.not_lt] at hc4
                    
                    refine sy_skip ?_
                    have hib : inb bads 0 1000000 = false := by rw [← Bool.not_eq_true]; simp only [inb, Bool.and_eq_true, decide_eq_true_eq]; omega
                    rw [show neeP t bads = (0, 3) from by unfold neeP; rw [hib]; simp [hck]]
                    exact sy_jend () (by repeat' first | exact Sub.nil | apply Sub.cons | rfl | (simp [lk]; omega)) (fun _ h => St.sub h)
                ·
                  rintro ⟨⟩
                  dsimp only
                  rw [show lastP t = (lat (LY t) t.now, 0) from by simp [lastP, hck]]
                  exact sy_jend (ac, cc) (by repeat' first | exact Sub.nil | apply Sub.cons | rfl | (simp [lk]; omega)) (fun _ h => h)
              ·
                try simp only [decide_eq_true_eq, decide_eq_false_iff_not, Bool.and_eq_true, Bool.or_eq_true, Bool.not_eq_true', Int.not_le, Int.not_lt] at g62
                refine spN rfl rfl rfl rfl rfl rfl rfl rfl ?_
                refine sy_sq ?_
                refine spN rfl rfl rfl rfl rfl rfl rfl rfl ?_
                refine sy_sq ?_
                refine sp rfl (PE.pick rfl rfl rfl) rfl ?_
                refine sy_sn ?_
                refine sy_nx ?_
                refine sy_join (ι := Unit) (fun _ => ⟨[(2, .int .i64 bads), (3, .pointer (some ⟨b3, 0, none⟩)), (4, .pointer (some ⟨b4, 0, none⟩)), (7, .pointer (some ⟨b7, 0, none⟩)), (8, .pointer (some ⟨b8, 0, none⟩)), (9, .int .i64 t.check), (10, .int .i64 ((fromP t s).2)), (11, .int .i64 ((choP t).2)), (12, .int .i64 ((neeP t bads).2)), (13, .int .i64 (lat (LY t) t.now)), (14, .int .i64 ((fromP t s).1)), (15, .int .i64 ((neeP t bads).1)), (16, .slice ac (choP t).1.length cc)], (b7, cel 26 (twl t (t.sl (some ⟨bo, 0, none⟩) co))) :: (b8, cel 37 (twl t (t.sl (some ⟨bx, ox, none⟩) cx))) :: (b4, cel 23 [.int .i64 s.stock, .int .i64 s.short, .int .i64 s.dry]) :: (b3, cel 26 (twl t (t.sl a c))) :: H, RowsA ac 1 (irows (choP t).1) :: RowsA (some ⟨bx, ox, none⟩) 2 (rrows t.rats) :: RowsA (some ⟨bo, 0, none⟩) 2 (rrows t.rats) :: R⟩) ?_ ?_
                ·
                  refine sy_condF rfl ?_
                  refine sy_skip ?_
                  have hib : inb bads 0 1000000 = false := by rw [← Bool.not_eq_true]; simp only [inb, Bool.and_eq_true, decide_eq_true_eq]; omega
                  rw [show neeP t bads = (0, 3) from by unfold neeP; rw [hib]; simp [hck]]
                  exact sy_jend () (by repeat' first | exact Sub.nil | apply Sub.cons | rfl | (simp [lk]; omega)) (fun _ h => St.sub h)
                ·
                  rintro ⟨⟩
                  dsimp only
                  rw [show lastP t = (lat (LY t) t.now, 0) from by simp [lastP, hck]]
                  exact sy_jend (ac, cc) (by repeat' first | exact Sub.nil | apply Sub.cons | rfl | (simp [lk]; omega)) (fun _ h => h)
        ·
          try simp only [decide_eq_true_eq, decide_eq_false_iff_not, Bool.and_eq_true, Bool.or_eq_true, Bool.not_eq_true', Int.not_le, Int.not_lt] at hc1
          have hck : t.check ≠ 0 := hc1
          refine sy_skip ?_
          rw [show fromP t s = (0, t.check) from by simp [fromP, hck], show choP t = ([], t.check) from by simp [choP, hck], show neeP t bads = (0, t.check) from by simp [neeP, hck], show lastP t = (0, t.check) from by simp [lastP, hck]]
          exact sy_jend (none, 0) (by repeat' first | exact Sub.nil | apply Sub.cons | rfl | (simp [lk]; omega)) (fun _ h => St.norows h)
      ·
        rintro ⟨ac, cc⟩
        dsimp only
        refine sy_nx ?_
        refine sy_seq ?_
        refine sy_tx' [0, 1, 2, 3, 4, 5, 6] rfl ?_
        refine sy_sq ?_
        refine spL rfl rfl (lhA [_, _, _, _, _, _, _, _, _, _, _] ag26 rfl rfl rfl) rfl ?_
        refine sy_sq ?_
        refine cl rfl cal42 rfl rfl (c_Lasts t (by omega) bo 0 co _ _) ?_
        rintro _ _ _ ⟨h, rfl, rfl⟩
        rw [last_P h]
        refine sy_sq ?_
        refine sp rfl (PE.move rfl) rfl ?_
        refine sy_sq ?_
        refine sp rfl (PE.extract rfl rfl) rfl ?_
        refine sy_sq ?_
        refine sp rfl (PE.extract rfl rfl) rfl ?_
        refine sy_sq ?_
        refine sp rfl (PE.assign rfl) rfl ?_
        refine sy_sq ?_
        refine sp rfl (PE.assign rfl) rfl ?_
        refine sy_sn ?_
        refine sy_nx ?_
        refine sy_seq ?_
        refine sy_tx' [0, 1, 2, 3, 4, 5, 6, 7] rfl ?_
        refine sy_sq ?_
        refine spL rfl rfl (lhA [_, _, _, _, _, _, _, _, _, _, _] ag26 rfl rfl rfl) rfl ?_
        refine sy_sq ?_
        refine spL rfl rfl (lhA [_, _, _] ag23 rfl rfl rfl) rfl ?_
        refine sy_sq ?_
        refine clV rfl cal43 rfl rfl (c_From t s (by omega) bo 0 co _ _) ?_
        refine sy_sq ?_
        refine sp rfl (PE.move rfl) rfl ?_
        refine sy_sq ?_
        refine sp rfl (PE.extract rfl rfl) rfl ?_
        refine sy_sq ?_
        refine sp rfl (PE.extract rfl rfl) rfl ?_
        refine sy_sq ?_
        refine sp rfl (PE.assign rfl) rfl ?_
        refine sy_sq ?_
        refine sp rfl (PE.assign rfl) rfl ?_
        refine sy_sn ?_
        refine sy_nx ?_
        refine sy_seq ?_
        refine sy_tx' [0, 1, 2, 3, 4, 5, 6] rfl ?_
        refine sy_sq ?_
        refine spL rfl rfl (lhA [_, _, _, _, _, _, _, _, _, _, _] ag26 rfl rfl rfl) rfl ?_
        refine sy_sq ?_
        refine cl rfl cal44 rfl rfl (c_Choose2 t (by omega) bo 0 co _ _) ?_
        rintro _ _ _ ⟨oc, rfl, rfl, rfl⟩
        obtain ⟨ad, cd, hoc, hfc⟩ := oc.freeze
        rw [hoc]
        refine Sy.heap (fun w h => hfc h) ?_
        rw [show (irows (choP t).1).length = (choP t).1.length from List.length_map _]
        refine sy_sq ?_
        refine sp rfl (PE.move rfl) rfl ?_
        refine sy_sq ?_
        refine sp rfl (PE.extract rfl rfl) rfl ?_
        refine sy_sq ?_
        refine sp rfl (PE.extract rfl rfl) rfl ?_
        refine sy_sq ?_
        refine sp rfl (PE.assign rfl) rfl ?_
        refine sy_sq ?_
        refine sp rfl (PE.assign rfl) rfl ?_
        refine sy_sn ?_
        refine sy_nx ?_
        refine sy_seq ?_
        refine sy_tx' [0, 1, 2, 3, 4, 5, 6, 7] rfl ?_
        refine sy_sq ?_
        refine spL rfl rfl (lhA [_, _, _, _, _, _, _, _, _, _, _] ag26 rfl rfl rfl) rfl ?_
        refine sy_sq ?_
        refine sp rfl (PE.move rfl) rfl ?_
        refine sy_sq ?_
        refine cl rfl cal45 rfl rfl (c_Needs t (by omega) bads bo 0 co _ _) ?_
        rintro _ _ _ ⟨h, rfl, rfl⟩
        rw [need_P h]
        refine sy_sq ?_
        refine sp rfl (PE.move rfl) rfl ?_
        refine sy_sq ?_
        refine sp rfl (PE.extract rfl rfl) rfl ?_
        refine sy_sq ?_
        refine sp rfl (PE.extract rfl rfl) rfl ?_
        refine sy_sq ?_
        refine sp rfl (PE.assign rfl) rfl ?_
        refine sy_sq ?_
        refine sp rfl (PE.assign rfl) rfl ?_
        refine sy_sn ?_
        refine sy_nx ?_
        refine sy_seq ?_
        refine sy_tx' [0, 1, 2, 3, 4, 5, 6, 7, 8, 9, 10, 11, 12, 13, 14, 15, 16, 17, 18, 19, 20, 21, 22, 23, 24, 25, 26, 27, 28, 29, 30, 31, 32, 33, 34, 35, 36, 37, 38, 39, 40, 41, 42, 43, 44, 45, 46] rfl ?_
        refine sy_sq ?_
        have hls : (lastP t).2 = t.check := by by_cases h : t.check = 0 <;> simp [lastP, h]
        rw [hls]
        refine sp rfl (PE.move rfl) rfl ?_
        refine sy_sq ?_
        refine sp rfl (PE.move rfl) rfl ?_
        refine sy_sq ?_
        refine sp rfl (PE.eql rfl rfl) rfl ?_
        refine sy_sq ?_
        refine sp rfl (PE.move rfl) rfl ?_
        refine sy_sq ?_
        refine sy_case (t := 99) rfl (fun g99 => ?_) (fun g99 => ?_)
        ·
          refine spG rfl rfl rfl rfl (PE.move rfl) rfl ?_
          refine sy_sq ?_
          refine spG rfl rfl rfl rfl (PE.move rfl) rfl ?_
          refine sy_sq ?_
          refine spG rfl rfl rfl rfl (PE.eql rfl rfl) rfl ?_
          refine sy_sq ?_
          refine sp rfl (PE.pick rfl rfl rfl) rfl ?_
          refine sy_sq ?_
          refine sp rfl (PE.move rfl) rfl ?_
          refine sy_sq ?_
          refine sy_case (t := 104) rfl (fun g104 => ?_) (fun g104 => ?_)
          ·
            refine spG rfl rfl rfl rfl (PE.move rfl) rfl ?_
            refine sy_sq ?_
            refine spG rfl rfl rfl rfl (PE.move rfl) rfl ?_
            refine sy_sq ?_
            refine spG rfl rfl rfl rfl (PE.eql rfl rfl) rfl ?_
            refine sy_sq ?_
            refine sp rfl (PE.pick rfl rfl rfl) rfl ?_
            refine sy_sq ?_
            refine sp rfl (PE.move rfl) rfl ?_
            refine sy_sq ?_
            refine sy_case (t := 109) rfl (fun g109 => ?_) (fun g109 => ?_)
            ·
              refine spG rfl rfl rfl rfl (PE.move rfl) rfl ?_
              refine sy_sq ?_
              refine spG rfl rfl rfl rfl (PE.move rfl) rfl ?_
              refine sy_sq ?_
              refine spG rfl rfl rfl rfl (PE.eql rfl rfl) rfl ?_
              refine sy_sq ?_
              refine sp rfl (PE.pick rfl rfl rfl) rfl ?_
              refine sy_sq ?_
              refine sp rfl (PE.move rfl) rfl ?_
              refine sy_sq ?_
              refine sy_case (t := 114) rfl (fun g114 => ?_) (fun g114 => ?_)
              ·
                refine spG rfl rfl rfl rfl (PE.move rfl) rfl ?_
                refine sy_sq ?_
                refine spG rfl rfl rfl rfl (PE.move rfl) rfl ?_
                refine sy_sq ?_
                refine spG rfl rfl rfl rfl (PE.eql rfl rfl) rfl ?_
                refine sy_sq ?_
                refine sp rfl (PE.pick rfl rfl rfl) rfl ?_
                refine sy_sq ?_
                refine sp rfl (PE.move rfl) rfl ?_
                refine sy_sq ?_
                refine sy_case (t := 119) rfl (fun g119 => ?_) (fun g119 => ?_)
                ·
                  refine spG rfl rfl rfl rfl (PE.move rfl) rfl ?_
                  refine sy_sq ?_
                  refine spG rfl rfl rfl rfl (PE.move rfl) rfl ?_
                  refine sy_sq ?_
                  refine spG rfl rfl rfl rfl (PE.eql rfl rfl) rfl ?_
                  refine sy_sq ?_
                  refine sp rfl (PE.pick rfl rfl rfl) rfl ?_
                  refine sy_sq ?_
                  refine sp rfl (PE.move rfl) rfl ?_
                  refine sy_sq ?_
                  refine sy_case (t := 124) rfl (fun g124 => ?_) (fun g124 => ?_)
                  ·
                    refine spG rfl rfl rfl rfl (PE.move rfl) rfl ?_
                    refine sy_sq ?_
                    refine spG rfl rfl rfl rfl (PE.move rfl) rfl ?_
                    refine sy_sq ?_
                    refine clVG rfl rfl rfl rfl cal38 rfl rfl (c_Eq_int (choP t).1 (choP t).1 ad ac cd cc (by omega) (by omega) _ _) ?_
                    refine sy_sq ?_
                    refine sp rfl (PE.pick rfl rfl rfl) rfl ?_
                    refine sy_sq ?_
                    refine sp rfl (PE.move rfl) rfl ?_
                    refine sy_sq ?_
                    refine sy_case (t := 129) rfl (fun g129 => ?_) (fun g129 => ?_)
                    ·
                      refine spG rfl rfl rfl rfl (PE.move rfl) rfl ?_
                      refine sy_sq ?_
                      refine spG rfl rfl rfl rfl (PE.move rfl) rfl ?_
                      refine sy_sq ?_
                      refine spG rfl rfl rfl rfl (PE.eql rfl rfl) rfl ?_
                      refine sy_sq ?_
                      refine sp rfl (PE.pick rfl rfl rfl) rfl ?_
                      refine sy_sq ?_
                      refine sp rfl (PE.move rfl) rfl ?_
                      refine sy_sq ?_
                      refine sy_case (t := 134) rfl (fun g134 => ?_) (fun g134 => ?_)
                      ·
                        refine spLG rfl rfl rfl rfl rfl (lhA [_, _, _, _, _, _, _, _, _, _, _] ag26 rfl rfl rfl) rfl ?_
                        refine sy_sq ?_
                        refine spLG rfl rfl rfl rfl rfl (lhA [_, _, _, _, _, _, _, _, _, _, _] ag26 rfl rfl rfl) rfl ?_
                        refine sy_sq ?_
                        refine clVG rfl rfl rfl rfl cal28 rfl rfl (c_same t t _ a co c (by omega) (by omega) _ _) ?_
                        refine sy_sq ?_
                        refine sp rfl (PE.pick rfl rfl rfl) rfl ?_
                        refine sy_sq ?_
                        refine sp rfl (PE.move rfl) rfl ?_
                        refine sy_sq ?_
                        refine sy_case (t := 139) rfl (fun g139 => ?_) (fun g139 => ?_)
                        ·
                          refine clVG rfl rfl rfl rfl cal16 rfl rfl (c_awake _ _) ?_
                          refine sy_sq ?_
                          refine sp rfl (PE.pick rfl rfl rfl) rfl ?_
                          refine sy_sq ?_
                          refine sp rfl (PE.assign rfl) rfl ?_
                          refine sy_sn ?_
                          refine sy_nx ?_
                          refine sy_ret ?_
                          exact sy_return (vs := [_]) rfl (.cons (RV.tmp rfl) .nil) rfl ⟨rfl, rfl, rfl⟩ (fun _ h => by repeat first | exact h | replace h := St.tail h | replace h := St.ftail h | replace h := St.drop h)
                        ·
                          exact absurd g139 (by first | (simp; done) | (simp_all; done))
                      ·
                        exact absurd g134 (by first | (simp; done) | (simp_all; done))
                    ·
                      exact absurd g129 (by first | (simp; done) | (simp_all; done))
                  ·
                    exact absurd g124 (by first | (simp; done) | (simp_all; done))
                ·
                  exact absurd g119 (by first | (simp; done) | (simp_all; done))
              ·
                exact absurd g114 (by first | (simp; done) | (simp_all; done))
            ·
              exact absurd g109 (by first | (simp; done) | (simp_all; done))
          ·
            exact absurd g104 (by first | (simp; done) | (simp_all; done))
        ·
          exact absurd g99 (by first | (simp; done) | (simp_all; done))
end Go.Proofs.Ytaldphhdkmchhaa
