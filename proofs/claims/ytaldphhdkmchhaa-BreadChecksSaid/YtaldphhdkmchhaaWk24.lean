/- Walks of the functions of the program: what each returns and leaves in memory, under the conditions that its theorem names. -/
import Derived.Test.YtaldphhdkmchhaaTy
import Derived.Test.YtaldphhdkmchhaaMa
import Derived.Test.YtaldphhdkmchhaaWk23
namespace Go.Proofs.Ytaldphhdkmchhaa
set_option linter.unusedSimpArgs false
set_option linter.unusedVariables false
open Go
theorem St.norows {sz : Nat} {H : Heap} {R : Facts} {w : World} (h : St H R w) : St H (RowsA none sz [] :: R) w := St.also h (fun _ _ i row hi => by simp at hi)
theorem St.swapf {f g : World → Prop} {H : Heap} {R : Facts} {w : World} (h : St H (f :: g :: R) w) : St H (g :: f :: R) w := by
  refine St.facts h (fun q hq => ?_)
  simp only [List.mem_cons] at hq ⊢
  rcases hq with e | e | e
  · exact .inr (.inl e)
  · exact .inl e
  · exact .inr (.inr e)
theorem all_right {t : Twn} {s : Sta} (h0 : t.check = 0) (h : (allP t s).2 = 0) : s.right t = true := by
  unfold allP at h
  cases hr : s.right t with
  | true => rfl
  | false => rw [hr] at h; simp [h0] at h
theorem all_wrong {t : Twn} {s : Sta} (h0 : t.check = 0) (h : ¬ (allP t s).2 = 0) : s.right t = false ∧ (allP t s).2 = 3 := by
  cases hr : s.right t with
  | true => exfalso; apply h; simp [allP, h0, hr]
  | false => exact ⟨rfl, by simp [allP, h0, hr]⟩
theorem all_len (t : Twn) (s : Sta) : (allP t s).1.length ≤ t.rats.length := by
  unfold allP
  cases decide (t.check ≠ 0) with
  | true => simp
  | false => cases s.right t with
    | true => exact canU_le t s
    | false => simp
theorem year_len (t : Twn) (r : Int) (bad : Bool) : (yearP t r bad).1.rats.length ≤ t.rats.length := by
  unfold yearP
  cases decide (t.check ≠ 0) with
  | true => simp [ztw]
  | false => cases decide ((nxtR t t.now r bad).2 ≠ 0) with
    | true => simp [ztw]
    | false => simp
theorem rr_two (l : List Rn) : ∀ q ∈ rrows l, q.length = 2 := fun q hq => by obtain ⟨x, _, rfl⟩ := List.mem_map.1 hq; rfl

theorem c_BreadChecks (t : Twn) (a : Option Addr) (c : Nat) (hl : t.rats.length ≤ 9223372036854775807) (s : Sta) (r : Int) (bad : Bool) (H : Heap) (R : Facts) [hR : MemRows a 2 (rrows t.rats) R] :
    Fn Try.prog 12 [t.v (t.sl a c), s.v, .int .i64 r, .bool bad] H R (fun v H' R' => v = .bool true ∧ H' = H ∧ R' = R) := by
  refine fn_of Try.func12 rfl Try.ntmps12 rfl ?_
  refine sy_seq ?_
  refine sy_tx' [0, 1, 2] rfl ?_
  refine sy_sq ?_
  refine bx rfl rfl rfl (fun b4 => ?_)
  refine sy_sq ?_
  refine bx rfl rfl rfl (fun b5 => ?_)
  refine sy_sq ?_
  refine sp rfl (PE.assign rfl) rfl ?_
  refine sy_sn ?_
  refine sy_nx ?_
  refine sy_seq ?_
  refine sy_seq ?_
  refine sy_tx' [0, 1] rfl ?_
  refine sy_sq ?_
  refine spL rfl rfl (lhA [_, _, _, _, _, _, _, _, _, _, _] ag26 rfl rfl rfl) rfl ?_
  refine sy_sq ?_
  refine clV rfl cal29 rfl rfl (c_great t a c (by omega) _ _) ?_
  refine sy_sn ?_
  refine sy_nx ?_
  refine sy_cond rfl (fun hc0 => ?_) (fun hc0 => ?_)
  ·
   try simp only [decide_eq_true_eq, decide_eq_false_iff_not, Bool.and_eq_true, Bool.or_eq_true, Bool.not_eq_true', Int.not_le, Int.not_lt] at hc0
   refine sy_seq ?_
   refine sy_tx' [0, 1] rfl ?_
   refine sy_sq ?_
   refine clV rfl cal16 rfl rfl (c_awake _ _) ?_
   refine sy_sq ?_
   refine sp rfl (PE.assign rfl) rfl ?_
   refine sy_sn ?_
   refine sy_nx ?_
   refine sy_ret ?_
   refine sy_tr ?_
   exact sy_return (vs := [_]) rfl (.cons (RV.tmp rfl) .nil) rfl ⟨rfl, rfl, rfl⟩ (fun _ h => by repeat first | exact h | replace h := St.tail h | replace h := St.ftail h | replace h := St.drop h)
  ·
   try simp only [decide_eq_true_eq, decide_eq_false_iff_not, Bool.and_eq_true, Bool.or_eq_true, Bool.not_eq_true', Int.not_le, Int.not_lt] at hc0
   have hal := all_len t s
   have hyl := year_len t r bad
   refine sy_skip ?_
   refine sy_nx ?_
   refine sy_seq ?_
   refine sy_cut (ι := (Nat × Nat × Option Addr × Nat) × Nat × Nat) (fun z => ⟨[(2, .int .i64 r), (3, .bool bad), (4, .pointer (some ⟨b4, 0, none⟩)), (5, .pointer (some ⟨b5, 0, none⟩)), (9, .pointer (some ⟨z.2.1, 0, none⟩)), (10, .pointer (some ⟨z.2.2, 0, none⟩))],
     (z.2.1, cel 26 (twl t (t.sl (some ⟨z.1.1, 0, none⟩) z.1.2.1))) :: (z.2.2, cel 37 (twl t (t.sl z.1.2.2.1 z.1.2.2.2))) :: (b5, cel 23 [.int .i64 s.stock, .int .i64 s.short, .int .i64 s.dry]) :: (b4, cel 26 (twl t (t.sl a c))) :: H, RowsA z.1.2.2.1 2 (rrows t.rats) :: RowsA (some ⟨z.1.1, 0, none⟩) 2 (rrows t.rats) :: R⟩) ?_ ?_
   ·
    refine sy_draw [0, 1, 0, 7, 0, 0, 63, 127] (.ld 0 (.ld 2 (.any (.alt 1 (.any (.alt 3 (.any (.alt 4 (.big 5 (.big 6 (.big 7 .done))) (.alt 5 (.big 4 (.big 6 (.big 7 .done))) .stop))) (.alt 4 (.any (.alt 3 (.big 5 (.big 6 (.big 7 .done))) (.alt 5 (.big 3 (.big 6 (.big 7 .done))) .stop))) (.alt 5 (.any (.alt 3 (.big 4 (.big 6 (.big 7 .done))) (.alt 4 (.big 3 (.big 6 (.big 7 .done))) .stop))) .stop)))) (.alt 4 (.any (.alt 1 (.any (.alt 3 (.big 5 (.big 6 (.big 7 .done))) (.alt 5 (.big 3 (.big 6 (.big 7 .done))) .stop))) (.alt 5 (.big 1 (.big 3 (.big 6 (.big 7 .done)))) .stop))) (.alt 5 (.any (.alt 1 (.any (.alt 3 (.big 4 (.big 6 (.big 7 .done))) (.alt 4 (.big 3 (.big 6 (.big 7 .done))) .stop))) (.alt 4 (.big 1 (.big 3 (.big 6 (.big 7 .done)))) .stop))) .stop)))))) mixed (by kernel_rfl) ?_
    refine ld rfl rfl (lhA [_, _, _, _, _, _, _, _, _, _, _] ag26 rfl rfl rfl) rfl ?_
    refine ld rfl rfl (lhA [_, _, _, _, _, _, _, _, _, _, _] ag26 rfl rfl rfl) rfl ?_
    refine sy_any ?_
    refine sy_alt ?_ ?_
    ·
     refine cl rfl cal17 rfl rfl (c_Own t a c (by omega) _ _) ?_
     rintro _ _ _ ⟨bo, co, rfl, rfl, rfl⟩
     refine bg (fun w hs => ⟨(lhA [_, _, _, _, _, _, _, _, _, _, _] ag26 rfl rfl rfl) w hs, trivial, trivial⟩) ?_
     refine sy_any ?_
     refine sy_alt ?_ ?_
     ·
      refine cl rfl cal19 rfl rfl (c_theirs t a c (by omega) _ _) ?_
      rintro _ _ _ ⟨ax, cx, rfl, rfl, rfl⟩
      refine bg (fun w hs => ⟨trivial, trivial⟩) ?_
      refine sy_any ?_
      refine sy_alt ?_ ?_
      ·
       refine alc rfl zl26 rfl (fun b9 => ?_)
       refine bg (fun w hs => trivial) ?_
       refine sy_bg ?_
       refine alc rfl zl37 rfl (fun b10 => ?_)
       refine bg (fun w hs => trivial) ?_
       refine sy_bg ?_
       refine sto rfl rfl rfl cn26 rfl rfl rfl rfl ?_
       refine bg (fun w hs => trivial) ?_
       refine sy_bg ?_
       refine sto rfl rfl rfl cn37 rfl rfl rfl rfl ?_
       refine bg (fun w hs => trivial) ?_
       refine sy_dn ?_
       exact sy_cutEnd ((bo, co, ax, cx), b9, b10) (by repeat' first | exact Sub.nil | apply Sub.cons | rfl | (simp [lk]; omega)) (fun _ h => St.sub ((((h.pull b4).pull b5).pull b10).pull b9))
      refine sy_alt ?_ ?_
      ·
       refine alc rfl zl37 rfl (fun b10 => ?_)
       refine bg (fun w hs => trivial) ?_
       refine sy_bg ?_
       refine alc rfl zl26 rfl (fun b9 => ?_)
       refine bg (fun w hs => trivial) ?_
       refine sy_bg ?_
       refine sto rfl rfl rfl cn26 rfl rfl rfl rfl ?_
       refine bg (fun w hs => trivial) ?_
       refine sy_bg ?_
       refine sto rfl rfl rfl cn37 rfl rfl rfl rfl ?_
       refine bg (fun w hs => trivial) ?_
       refine sy_dn ?_
       exact sy_cutEnd ((bo, co, ax, cx), b9, b10) (by repeat' first | exact Sub.nil | apply Sub.cons | rfl | (simp [lk]; omega)) (fun _ h => St.sub ((((h.pull b4).pull b5).pull b10).pull b9))
      exact sy_stop
     refine sy_alt ?_ ?_
     ·
      refine alc rfl zl26 rfl (fun b9 => ?_)
      refine bg (fun w hs => ⟨(lhA [_, _, _, _, _, _, _, _, _, _, _] ag26 rfl rfl rfl) w hs, trivial⟩) ?_
      refine sy_any ?_
      refine sy_alt ?_ ?_
      ·
       refine cl rfl cal19 rfl rfl (c_theirs t a c (by omega) _ _) ?_
       rintro _ _ _ ⟨ax, cx, rfl, rfl, rfl⟩
       refine bg (fun w hs => ⟨trivial, trivial⟩) ?_
       refine sy_bg ?_
       refine alc rfl zl37 rfl (fun b10 => ?_)
       refine bg (fun w hs => trivial) ?_
       refine sy_bg ?_
       refine sto rfl rfl rfl cn26 rfl rfl rfl rfl ?_
       refine bg (fun w hs => trivial) ?_
       refine sy_bg ?_
       refine sto rfl rfl rfl cn37 rfl rfl rfl rfl ?_
       refine bg (fun w hs => trivial) ?_
       refine sy_dn ?_
       exact sy_cutEnd ((bo, co, ax, cx), b9, b10) (by repeat' first | exact Sub.nil | apply Sub.cons | rfl | (simp [lk]; omega)) (fun _ h => St.sub ((((h.pull b4).pull b5).pull b10).pull b9))
      refine sy_alt ?_ ?_
      ·
       refine alc rfl zl37 rfl (fun b10 => ?_)
       refine bg (fun w hs => ⟨(lhA [_, _, _, _, _, _, _, _, _, _, _] ag26 rfl rfl rfl) w hs, trivial⟩) ?_
       refine sy_bg ?_
       refine cl rfl cal19 rfl rfl (c_theirs t a c (by omega) _ _) ?_
       rintro _ _ _ ⟨ax, cx, rfl, rfl, rfl⟩
       refine bg (fun w hs => ⟨trivial, trivial⟩) ?_
       refine sy_bg ?_
       refine sto rfl rfl rfl cn26 rfl rfl rfl rfl ?_
       refine bg (fun w hs => trivial) ?_
       refine sy_bg ?_
       refine sto rfl rfl rfl cn37 rfl rfl rfl rfl ?_
       refine bg (fun w hs => trivial) ?_
       refine sy_dn ?_
       exact sy_cutEnd ((bo, co, ax, cx), b9, b10) (by repeat' first | exact Sub.nil | apply Sub.cons | rfl | (simp [lk]; omega)) (fun _ h => St.sub ((((h.pull b4).pull b5).pull b10).pull b9))
      exact sy_stop
     refine sy_alt ?_ ?_
     ·
      refine alc rfl zl37 rfl (fun b10 => ?_)
      refine bg (fun w hs => ⟨(lhA [_, _, _, _, _, _, _, _, _, _, _] ag26 rfl rfl rfl) w hs, trivial⟩) ?_
      refine sy_any ?_
      refine sy_alt ?_ ?_
      ·
       refine cl rfl cal19 rfl rfl (c_theirs t a c (by omega) _ _) ?_
       rintro _ _ _ ⟨ax, cx, rfl, rfl, rfl⟩
       refine bg (fun w hs => ⟨trivial, trivial⟩) ?_
       refine sy_bg ?_
       refine alc rfl zl26 rfl (fun b9 => ?_)
       refine bg (fun w hs => trivial) ?_
       refine sy_bg ?_
       refine sto rfl rfl rfl cn26 rfl rfl rfl rfl ?_
       refine bg (fun w hs => trivial) ?_
       refine sy_bg ?_
       refine sto rfl rfl rfl cn37 rfl rfl rfl rfl ?_
       refine bg (fun w hs => trivial) ?_
       refine sy_dn ?_
       exact sy_cutEnd ((bo, co, ax, cx), b9, b10) (by repeat' first | exact Sub.nil | apply Sub.cons | rfl | (simp [lk]; omega)) (fun _ h => St.sub ((((h.pull b4).pull b5).pull b10).pull b9))
      refine sy_alt ?_ ?_
      ·
       refine alc rfl zl26 rfl (fun b9 => ?_)
       refine bg (fun w hs => ⟨(lhA [_, _, _, _, _, _, _, _, _, _, _] ag26 rfl rfl rfl) w hs, trivial⟩) ?_
       refine sy_bg ?_
       refine cl rfl cal19 rfl rfl (c_theirs t a c (by omega) _ _) ?_
       rintro _ _ _ ⟨ax, cx, rfl, rfl, rfl⟩
       refine bg (fun w hs => ⟨trivial, trivial⟩) ?_
       refine sy_bg ?_
       refine sto rfl rfl rfl cn26 rfl rfl rfl rfl ?_
       refine bg (fun w hs => trivial) ?_
       refine sy_bg ?_
       refine sto rfl rfl rfl cn37 rfl rfl rfl rfl ?_
       refine bg (fun w hs => trivial) ?_
       refine sy_dn ?_
       exact sy_cutEnd ((bo, co, ax, cx), b9, b10) (by repeat' first | exact Sub.nil | apply Sub.cons | rfl | (simp [lk]; omega)) (fun _ h => St.sub ((((h.pull b4).pull b5).pull b10).pull b9))
      exact sy_stop
     exact sy_stop
    refine sy_alt ?_ ?_
    ·
     refine alc rfl zl26 rfl (fun b9 => ?_)
     refine bg (fun w hs => ⟨(lhA [_, _, _, _, _, _, _, _, _, _, _] ag26 rfl rfl rfl) w hs, (lhA [_, _, _, _, _, _, _, _, _, _, _] ag26 rfl rfl rfl) w hs, trivial⟩) ?_
     refine sy_any ?_
     refine sy_alt ?_ ?_
     ·
      refine cl rfl cal17 rfl rfl (c_Own t a c (by omega) _ _) ?_
      rintro _ _ _ ⟨bo, co, rfl, rfl, rfl⟩
      refine bg (fun w hs => ⟨(lhA [_, _, _, _, _, _, _, _, _, _, _] ag26 rfl rfl rfl) w hs, trivial, trivial⟩) ?_
      refine sy_any ?_
      refine sy_alt ?_ ?_
      ·
       refine cl rfl cal19 rfl rfl (c_theirs t a c (by omega) _ _) ?_
       rintro _ _ _ ⟨ax, cx, rfl, rfl, rfl⟩
       refine bg (fun w hs => ⟨trivial, trivial⟩) ?_
       refine sy_bg ?_
       refine alc rfl zl37 rfl (fun b10 => ?_)
       refine bg (fun w hs => trivial) ?_
       refine sy_bg ?_
       refine sto rfl rfl rfl cn26 rfl rfl rfl rfl ?_
       refine bg (fun w hs => trivial) ?_
       refine sy_bg ?_
       refine sto rfl rfl rfl cn37 rfl rfl rfl rfl ?_
       refine bg (fun w hs => trivial) ?_
       refine sy_dn ?_
       exact sy_cutEnd ((bo, co, ax, cx), b9, b10) (by repeat' first | exact Sub.nil | apply Sub.cons | rfl | (simp [lk]; omega)) (fun _ h => St.sub ((((h.pull b4).pull b5).pull b10).pull b9))
      refine sy_alt ?_ ?_
      ·
       refine alc rfl zl37 rfl (fun b10 => ?_)
       refine bg (fun w hs => ⟨(lhA [_, _, _, _, _, _, _, _, _, _, _] ag26 rfl rfl rfl) w hs, trivial⟩) ?_
       refine sy_bg ?_
       refine cl rfl cal19 rfl rfl (c_theirs t a c (by omega) _ _) ?_
       rintro _ _ _ ⟨ax, cx, rfl, rfl, rfl⟩
       refine bg (fun w hs => ⟨trivial, trivial⟩) ?_
       refine sy_bg ?_
       refine sto rfl rfl rfl cn26 rfl rfl rfl rfl ?_
       refine bg (fun w hs => trivial) ?_
       refine sy_bg ?_
       refine sto rfl rfl rfl cn37 rfl rfl rfl rfl ?_
       refine bg (fun w hs => trivial) ?_
       refine sy_dn ?_
       exact sy_cutEnd ((bo, co, ax, cx), b9, b10) (by repeat' first | exact Sub.nil | apply Sub.cons | rfl | (simp [lk]; omega)) (fun _ h => St.sub ((((h.pull b4).pull b5).pull b10).pull b9))
      exact sy_stop
     refine sy_alt ?_ ?_
     ·
      refine alc rfl zl37 rfl (fun b10 => ?_)
      refine bg (fun w hs => ⟨(lhA [_, _, _, _, _, _, _, _, _, _, _] ag26 rfl rfl rfl) w hs, (lhA [_, _, _, _, _, _, _, _, _, _, _] ag26 rfl rfl rfl) w hs, trivial⟩) ?_
      refine sy_bg ?_
      refine cl rfl cal17 rfl rfl (c_Own t a c (by omega) _ _) ?_
      rintro _ _ _ ⟨bo, co, rfl, rfl, rfl⟩
      refine bg (fun w hs => ⟨(lhA [_, _, _, _, _, _, _, _, _, _, _] ag26 rfl rfl rfl) w hs, trivial, trivial⟩) ?_
      refine sy_bg ?_
      refine cl rfl cal19 rfl rfl (c_theirs t a c (by omega) _ _) ?_
      rintro _ _ _ ⟨ax, cx, rfl, rfl, rfl⟩
      refine bg (fun w hs => ⟨trivial, trivial⟩) ?_
      refine sy_bg ?_
      refine sto rfl rfl rfl cn26 rfl rfl rfl rfl ?_
      refine bg (fun w hs => trivial) ?_
      refine sy_bg ?_
      refine sto rfl rfl rfl cn37 rfl rfl rfl rfl ?_
      refine bg (fun w hs => trivial) ?_
      refine sy_dn ?_
      exact sy_cutEnd ((bo, co, ax, cx), b9, b10) (by repeat' first | exact Sub.nil | apply Sub.cons | rfl | (simp [lk]; omega)) (fun _ h => St.sub ((((h.pull b4).pull b5).pull b10).pull b9))
     exact sy_stop
    refine sy_alt ?_ ?_
    ·
     refine alc rfl zl37 rfl (fun b10 => ?_)
     refine bg (fun w hs => ⟨(lhA [_, _, _, _, _, _, _, _, _, _, _] ag26 rfl rfl rfl) w hs, (lhA [_, _, _, _, _, _, _, _, _, _, _] ag26 rfl rfl rfl) w hs, trivial⟩) ?_
     refine sy_any ?_
     refine sy_alt ?_ ?_
     ·
      refine cl rfl cal17 rfl rfl (c_Own t a c (by omega) _ _) ?_
      rintro _ _ _ ⟨bo, co, rfl, rfl, rfl⟩
      refine bg (fun w hs => ⟨(lhA [_, _, _, _, _, _, _, _, _, _, _] ag26 rfl rfl rfl) w hs, trivial, trivial⟩) ?_
      refine sy_any ?_
      refine sy_alt ?_ ?_
      ·
       refine cl rfl cal19 rfl rfl (c_theirs t a c (by omega) _ _) ?_
       rintro _ _ _ ⟨ax, cx, rfl, rfl, rfl⟩
       refine bg (fun w hs => ⟨trivial, trivial⟩) ?_
       refine sy_bg ?_
       refine alc rfl zl26 rfl (fun b9 => ?_)
       refine bg (fun w hs => trivial) ?_
       refine sy_bg ?_
       refine sto rfl rfl rfl cn26 rfl rfl rfl rfl ?_
       refine bg (fun w hs => trivial) ?_
       refine sy_bg ?_
       refine sto rfl rfl rfl cn37 rfl rfl rfl rfl ?_
       refine bg (fun w hs => trivial) ?_
       refine sy_dn ?_
       exact sy_cutEnd ((bo, co, ax, cx), b9, b10) (by repeat' first | exact Sub.nil | apply Sub.cons | rfl | (simp [lk]; omega)) (fun _ h => St.sub ((((h.pull b4).pull b5).pull b10).pull b9))
      refine sy_alt ?_ ?_
      ·
       refine alc rfl zl26 rfl (fun b9 => ?_)
       refine bg (fun w hs => ⟨(lhA [_, _, _, _, _, _, _, _, _, _, _] ag26 rfl rfl rfl) w hs, trivial⟩) ?_
       refine sy_bg ?_
       refine cl rfl cal19 rfl rfl (c_theirs t a c (by omega) _ _) ?_
       rintro _ _ _ ⟨ax, cx, rfl, rfl, rfl⟩
       refine bg (fun w hs => ⟨trivial, trivial⟩) ?_
       refine sy_bg ?_
       refine sto rfl rfl rfl cn26 rfl rfl rfl rfl ?_
       refine bg (fun w hs => trivial) ?_
       refine sy_bg ?_
       refine sto rfl rfl rfl cn37 rfl rfl rfl rfl ?_
       refine bg (fun w hs => trivial) ?_
       refine sy_dn ?_
       exact sy_cutEnd ((bo, co, ax, cx), b9, b10) (by repeat' first | exact Sub.nil | apply Sub.cons | rfl | (simp [lk]; omega)) (fun _ h => St.sub ((((h.pull b4).pull b5).pull b10).pull b9))
      exact sy_stop
     refine sy_alt ?_ ?_
     ·
      refine alc rfl zl26 rfl (fun b9 => ?_)
      refine bg (fun w hs => ⟨(lhA [_, _, _, _, _, _, _, _, _, _, _] ag26 rfl rfl rfl) w hs, (lhA [_, _, _, _, _, _, _, _, _, _, _] ag26 rfl rfl rfl) w hs, trivial⟩) ?_
      refine sy_bg ?_
      refine cl rfl cal17 rfl rfl (c_Own t a c (by omega) _ _) ?_
      rintro _ _ _ ⟨bo, co, rfl, rfl, rfl⟩
      refine bg (fun w hs => ⟨(lhA [_, _, _, _, _, _, _, _, _, _, _] ag26 rfl rfl rfl) w hs, trivial, trivial⟩) ?_
      refine sy_bg ?_
      refine cl rfl cal19 rfl rfl (c_theirs t a c (by omega) _ _) ?_
      rintro _ _ _ ⟨ax, cx, rfl, rfl, rfl⟩
      refine bg (fun w hs => ⟨trivial, trivial⟩) ?_
      refine sy_bg ?_
      refine sto rfl rfl rfl cn26 rfl rfl rfl rfl ?_
      refine bg (fun w hs => trivial) ?_
      refine sy_bg ?_
      refine sto rfl rfl rfl cn37 rfl rfl rfl rfl ?_
      refine bg (fun w hs => trivial) ?_
      refine sy_dn ?_
      exact sy_cutEnd ((bo, co, ax, cx), b9, b10) (by repeat' first | exact Sub.nil | apply Sub.cons | rfl | (simp [lk]; omega)) (fun _ h => St.sub ((((h.pull b4).pull b5).pull b10).pull b9))
     exact sy_stop
    exact sy_stop
   ·
    rintro ⟨⟨bo, co, ax, cx⟩, b9, b10⟩
    dsimp only
    refine sy_nx ?_
    refine sy_seq ?_
    refine sy_tx' [0, 1, 2] rfl ?_
    refine sy_sq ?_
    refine spL rfl rfl (lhA [_, _, _, _, _, _, _, _, _, _, _] ag37 rfl rfl rfl) rfl ?_
    refine sy_sq ?_
    refine clV rfl cal20 rfl rfl (c_rCheck t ax cx (by omega) _ _) ?_
    refine sy_sq ?_
    refine sp rfl (PE.assign rfl) rfl ?_
    refine sy_sn ?_
    refine sy_nx ?_
    refine sy_seq ?_
    refine sy_tx' [0, 1, 2, 3, 4, 5] rfl ?_
    refine sy_sq ?_
    refine sp rfl (PE.move rfl) rfl ?_
    refine sy_sq ?_
    refine sp rfl (PE.move rfl) rfl ?_
    refine sy_sq ?_
    refine sp rfl (PE.move rfl) rfl ?_
    refine sy_sq ?_
    refine sp rfl (PE.assign rfl) rfl ?_
    refine sy_sq ?_
    refine sp rfl (PE.assign rfl) rfl ?_
    refine sy_sq ?_
    refine sp rfl (PE.assign rfl) rfl ?_
    refine sy_sn ?_
    refine sy_nx ?_
    refine sy_seq ?_
    refine sy_tx' [0] rfl ?_
    refine sy_sq ?_
    refine sp rfl (PE.assign rfl) rfl ?_
    refine sy_sn ?_
    refine sy_nx ?_
    refine sy_seq ?_
    refine sy_tx' [0] rfl ?_
    refine sy_sq ?_
    refine alc rfl zl34 rfl (fun b16 => ?_)
    refine sy_sn ?_
    refine sy_nx ?_
    refine sy_seq ?_
    refine sy_tx' [0] rfl ?_
    refine sy_sq ?_
    refine alc rfl zl26 rfl (fun b17 => ?_)
    refine sy_sn ?_
    refine sy_nx ?_
    refine sy_seq ?_
    refine sy_seq ?_
    refine sy_tx' [0, 1] rfl ?_
    refine sy_sq ?_
    refine sp rfl (PE.move rfl) rfl ?_
    refine sy_sq ?_
    refine sp rfl (PE.eql rfl rfl) rfl ?_
    refine sy_sn ?_
    refine sy_nx ?_
    refine sy_join (ι := (Option Addr × Nat) × Option Addr × Nat) (fun z => ⟨[(2, .int .i64 r), (3, .bool bad), (4, .pointer (some ⟨b4, 0, none⟩)), (5, .pointer (some ⟨b5, 0, none⟩)), (9, .pointer (some ⟨b9, 0, none⟩)), (10, .pointer (some ⟨b10, 0, none⟩)), (11, .int .i64 t.check), (16, .pointer (some ⟨b16, 0, none⟩)), (17, .pointer (some ⟨b17, 0, none⟩)), (12, .int .i64 ((allP t s).2)), (13, .int .i64 ((nextP t s r bad).2)), (14, .int .i64 ((yearP t r bad).2)), (15, .slice z.1.1 (allP t s).1.length z.1.2)], (b17, cel 26 (twl (yearP t r bad).1 ((yearP t r bad).1.sl z.2.1 z.2.2))) :: (b16, cel 34 (srow (nextP t s r bad).1)) :: (b9, cel 26 (twl t (t.sl (some ⟨bo, 0, none⟩) co))) :: (b10, cel 37 (twl t (t.sl ax cx))) :: (b5, cel 23 [.int .i64 s.stock, .int .i64 s.short, .int .i64 s.dry]) :: (b4, cel 26 (twl t (t.sl a c))) :: H, RowsA z.1.1 1 (irows (allP t s).1) :: RowsA z.2.1 2 (rrows (yearP t r bad).1.rats) :: RowsA ax 2 (rrows t.rats) :: RowsA (some ⟨bo, 0, none⟩) 2 (rrows t.rats) :: R⟩) ?_ ?_
    ·
     refine sy_cond rfl (fun hc1 => ?_) (fun hc1 => ?_)
     ·
      try simp only [decide_eq_true_eq, decide_eq_false_iff_not, Bool.and_eq_true, Bool.or_eq_true, Bool.not_eq_true', Int.not_le, Int.not_lt] at hc1
      have hck : t.check = 0 := hc1
      have hok := (ok_of_check hck).1
      refine sy_addr (a := ax) (sz := 2) (rows := rrows t.rats) (by have := hok.many; intro h0; simp [rrows] at h0; simp [h0] at this) (fun bx ox he => ?_)
      subst he
      refine sy_seq ?_
      refine sy_seq ?_
      refine sy_tx' [0] rfl ?_
      refine sy_sq ?_
      refine sp rfl (PE.assign rfl) rfl ?_
      refine sy_sn ?_
      refine sy_nx ?_
      refine sy_seq ?_
      refine sy_tx' [0, 1, 2] rfl ?_
      refine sy_sq ?_
      refine spL rfl rfl (lhA [_, _, _, _, _, _, _, _, _, _, _] ag37 rfl rfl rfl) rfl ?_
      refine sy_sq ?_
      refine spL rfl rfl (lhA [_, _, _] ag23 rfl rfl rfl) rfl ?_
      refine sy_sq ?_
      refine clV rfl cal39 rfl rfl (c_rRight t s _ _ _) ?_
      refine sy_sn ?_
      refine sy_nx ?_
      refine sy_join (ι := Option Addr × Nat) (fun z => ⟨[(2, .int .i64 r), (3, .bool bad), (4, .pointer (some ⟨b4, 0, none⟩)), (5, .pointer (some ⟨b5, 0, none⟩)), (9, .pointer (some ⟨b9, 0, none⟩)), (10, .pointer (some ⟨b10, 0, none⟩)), (11, .int .i64 t.check), (16, .pointer (some ⟨b16, 0, none⟩)), (17, .pointer (some ⟨b17, 0, none⟩)), (12, .int .i64 ((allP t s).2)), (13, .int .i64 (t.check)), (14, .int .i64 (t.check)), (15, .slice z.1 (allP t s).1.length z.2)], (b17, cel 26 (twl ztw (.slice none 0 0))) :: (b16, cel 34 (srow zst)) :: (b9, cel 26 (twl t (t.sl (some ⟨bo, 0, none⟩) co))) :: (b10, cel 37 (twl t (t.sl (some ⟨bx, ox, none⟩) cx))) :: (b5, cel 23 [.int .i64 s.stock, .int .i64 s.short, .int .i64 s.dry]) :: (b4, cel 26 (twl t (t.sl a c))) :: H, RowsA z.1 1 (irows (allP t s).1) :: RowsA (some ⟨bx, ox, none⟩) 2 (rrows t.rats) :: RowsA (some ⟨bo, 0, none⟩) 2 (rrows t.rats) :: R⟩) ?_ ?_
      ·
       refine sy_cond rfl (fun hc2 => ?_) (fun hc2 => ?_)
       ·
        refine sy_tx' [0, 1, 2, 3, 4] rfl ?_
        refine sy_sq ?_
        refine spL rfl rfl (lhA [_, _, _, _, _, _, _, _, _, _, _] ag37 rfl rfl rfl) rfl ?_
        refine sy_sq ?_
        refine spL rfl rfl (lhA [_, _, _] ag23 rfl rfl rfl) rfl ?_
        refine sy_sq ?_
        refine cl rfl cal63 rfl rfl (c_rAllowed t hok s bx ox cx _ _) ?_
        rintro _ _ _ ⟨oc, rfl, rfl, rfl⟩
        obtain ⟨ac, cc, hoc, hfc⟩ := oc.freeze
        rw [hoc]
        refine Sy.heap (fun w h => hfc h) ?_
        rw [show (irows (canU t s)).length = (canU t s).length from List.length_map _]
        refine sy_sq ?_
        refine sp rfl (PE.assign rfl) rfl ?_
        refine sy_sq ?_
        refine sp rfl (PE.assign rfl) rfl ?_
        refine sy_sn ?_
        rw [show allP t s = (canU t s, 0) from by simp [allP, hck, hc2]]
        exact sy_jend (ac, cc) (by repeat' first | exact Sub.nil | apply Sub.cons | rfl | (simp [lk]; omega)) (fun _ h => h)
       ·
        refine sy_skip ?_
        rw [show allP t s = ([], 3) from by simp [allP, hck, hc2]]
        exact sy_jend (none, 0) (by repeat' first | exact Sub.nil | apply Sub.cons | rfl | (simp [lk]; omega)) (fun _ h => St.norows h)
      ·
       rintro ⟨aa, ca⟩
       dsimp only
       refine sy_nx ?_
       refine sy_seq ?_
       refine sy_seq ?_
       refine sy_tx' [0, 1] rfl ?_
       refine sy_sq ?_
       refine sp rfl (PE.move rfl) rfl ?_
       refine sy_sq ?_
       refine sp rfl (PE.assign rfl) rfl ?_
       refine sy_sn ?_
       refine sy_nx ?_
       refine sy_seq ?_
       refine sy_tx' [0, 1] rfl ?_
       refine sy_sq ?_
       refine sp rfl (PE.move rfl) rfl ?_
       refine sy_sq ?_
       refine sp rfl (PE.eql rfl rfl) rfl ?_
       refine sy_sn ?_
       refine sy_nx ?_
       refine sy_join (ι := Unit) (fun _ => ⟨[(2, .int .i64 r), (3, .bool bad), (4, .pointer (some ⟨b4, 0, none⟩)), (5, .pointer (some ⟨b5, 0, none⟩)), (9, .pointer (some ⟨b9, 0, none⟩)), (10, .pointer (some ⟨b10, 0, none⟩)), (11, .int .i64 t.check), (16, .pointer (some ⟨b16, 0, none⟩)), (17, .pointer (some ⟨b17, 0, none⟩)), (12, .int .i64 ((allP t s).2)), (13, .int .i64 ((nextP t s r bad).2)), (14, .int .i64 (t.check)), (15, .slice aa (allP t s).1.length ca)], (b17, cel 26 (twl ztw (.slice none 0 0))) :: (b16, cel 34 (srow (nextP t s r bad).1)) :: (b9, cel 26 (twl t (t.sl (some ⟨bo, 0, none⟩) co))) :: (b10, cel 37 (twl t (t.sl (some ⟨bx, ox, none⟩) cx))) :: (b5, cel 23 [.int .i64 s.stock, .int .i64 s.short, .int .i64 s.dry]) :: (b4, cel 26 (twl t (t.sl a c))) :: H, RowsA aa 1 (irows (allP t s).1) :: RowsA (some ⟨bx, ox, none⟩) 2 (rrows t.rats) :: RowsA (some ⟨bo, 0, none⟩) 2 (rrows t.rats) :: R⟩) ?_ ?_
       ·
        refine sy_cond rfl (fun hc3 => ?_) (fun hc3 => ?_)
        ·
         try simp only [decide_eq_true_eq, decide_eq_false_iff_not, Bool.and_eq_true, Bool.or_eq_true, Bool.not_eq_true', Int.not_le, Int.not_lt] at hc3
         have hrt := all_right hck hc3
         refine sy_tx' [0, 1, 2, 3, 4, 5, 6, 7, 8, 9] rfl ?_
         refine sy_sq ?_
         refine spL rfl rfl (lhA [_, _, _, _, _, _, _, _, _, _, _] ag37 rfl rfl rfl) rfl ?_
         refine sy_sq ?_
         refine spL rfl rfl (lhA [_, _, _] ag23 rfl rfl rfl) rfl ?_
         refine sy_sq ?_
         refine sp rfl (PE.move rfl) rfl ?_
         refine sy_sq ?_
         refine sp rfl (PE.move rfl) rfl ?_
         refine sy_sq ?_
         refine clV rfl cal64 rfl rfl (c_rNext t hok s hrt r bad bx ox cx _ _) ?_
         refine sy_sq ?_
         refine sp rfl (PE.move rfl) rfl ?_
         refine sy_sq ?_
         refine sp rfl (PE.extract rfl rfl) rfl ?_
         refine sy_sq ?_
         refine sp rfl (PE.extract rfl rfl) rfl ?_
         refine sy_sq ?_
         refine sto rfl rfl rfl cn34 rfl rfl rfl rfl ?_
         refine sy_sq ?_
         refine sp rfl (PE.assign rfl) rfl ?_
         refine sy_sn ?_
         rw [show nextP t s r bad = nxtR t s r bad from by simp [nextP, hck, hrt]]
         exact sy_jend () (by repeat' first | exact Sub.nil | apply Sub.cons | rfl | (simp [lk]; omega)) (fun _ h => h)
        ·
         try simp only [decide_eq_true_eq, decide_eq_false_iff_not, Bool.and_eq_true, Bool.or_eq_true, Bool.not_eq_true', Int.not_le, Int.not_lt] at hc3
         obtain ⟨hrt, ha3⟩ := all_wrong hck hc3
         refine sy_skip ?_
         rw [show nextP t s r bad = (zst, (allP t s).2) from by rw [ha3]; simp [nextP, hck, hrt]]
         exact sy_jend () (by repeat' first | exact Sub.nil | apply Sub.cons | rfl | (simp [lk]; omega)) (fun _ h => h)
       ·
        rintro ⟨⟩
        dsimp only
        refine sy_nx ?_
        refine sy_seq ?_
        refine sy_tx' [0] rfl ?_
        refine sy_sq ?_
        refine alc rfl zl34 rfl (fun b18 => ?_)
        refine sy_sn ?_
        refine sy_nx ?_
        refine sy_seq ?_
        refine sy_tx' [0, 1, 2, 3, 4, 5, 6, 7, 8, 9, 10] rfl ?_
        refine sy_sq ?_
        refine spL rfl rfl (lhA [_, _, _, _, _, _, _, _, _, _, _] ag37 rfl rfl rfl) rfl ?_
        refine sy_sq ?_
        refine sp rfl (PE.fieldAddr fo37_0 rfl) rfl ?_
        refine sy_sq ?_
        refine spL rfl rfl (lhA [_, _, _] ag34 rfl rfl rfl) rfl ?_
        refine sy_sq ?_
        refine sp rfl (PE.move rfl) rfl ?_
        refine sy_sq ?_
        refine sp rfl (PE.move rfl) rfl ?_
        refine sy_sq ?_
        refine clV rfl cal64 rfl rfl (c_rNext t hok t.now hok.now r bad bx ox cx _ _) ?_
        refine sy_sq ?_
        refine sp rfl (PE.move rfl) rfl ?_
        refine sy_sq ?_
        refine sp rfl (PE.extract rfl rfl) rfl ?_
        refine sy_sq ?_
        refine sp rfl (PE.extract rfl rfl) rfl ?_
        refine sy_sq ?_
        refine sto rfl rfl rfl cn34 rfl rfl rfl rfl ?_
        refine sy_sq ?_
        refine sp rfl (PE.assign rfl) rfl ?_
        refine sy_sn ?_
        refine sy_nx ?_
        refine sy_seq ?_
        refine sy_tx' [0, 1] rfl ?_
        refine sy_sq ?_
        refine sp rfl (PE.move rfl) rfl ?_
        refine sy_sq ?_
        refine sp rfl (PE.eql rfl rfl) rfl ?_
        refine sy_sn ?_
        refine sy_nx ?_
        refine sy_cond rfl (fun hc4 => ?_) (fun hc4 => ?_)
        ·
         try simp only [decide_eq_true_eq, decide_eq_false_iff_not, Bool.and_eq_true, Bool.or_eq_true, Bool.not_eq_true', Int.not_le, Int.not_lt] at hc4
         
         refine sy_seq ?_
         refine sy_tx' [0, 1, 2] rfl ?_
         refine sy_sq ?_
         refine spL rfl rfl (lhA [_, _, _, _, _, _, _, _, _, _, _] ag26 rfl rfl rfl) rfl ?_
         refine sy_sq ?_
         refine cl rfl cal17 rfl rfl (c_Own t a c (by omega) _ _) ?_
         rintro _ _ _ ⟨bp, cp, rfl, rfl, rfl⟩
         refine sy_sq ?_
         refine sto rfl rfl rfl cn26 rfl rfl rfl rfl ?_
         refine sy_sn ?_
         refine sy_nx ?_
         refine sy_tx' [0, 1, 2] rfl ?_
         refine sy_sq ?_
         refine spL rfl rfl (lhA [_, _, _] ag34 rfl rfl rfl) rfl ?_
         refine sy_sq ?_
         refine sp rfl (PE.fieldAddr fo26_0 rfl) rfl ?_
         refine sy_sq ?_
         refine sto rfl rfl rfl cn23 rfl rfl rfl rfl ?_
         refine sy_sn ?_
         rw [show yearP t r bad = ({ t with now := (nxtR t t.now r bad).1 }, (nxtR t t.now r bad).2) from by rw [hc4]; simp [yearP, hck, hc4]]
         exact sy_jend ((aa, ca), some ⟨bp, 0, none⟩, cp) (by repeat' first | exact Sub.nil | apply Sub.cons | rfl | (simp [lk]; omega)) (fun _ h => St.sub (h.del b18))
        ·
         try simp only [decide_eq_true_eq, decide_eq_false_iff_not, Bool.and_eq_true, Bool.or_eq_true, Bool.not_eq_true', Int.not_le, Int.not_lt] at hc4
         
         refine sy_skip ?_
         rw [show yearP t r bad = (ztw, (nxtR t t.now r bad).2) from by simp [yearP, hck, hc4]]
         exact sy_jend ((aa, ca), none, 0) (by repeat' first | exact Sub.nil | apply Sub.cons | rfl | (simp [lk]; omega)) (fun _ h => St.swapf (St.norows (sz := 2) (h.del b18)))
     ·
      try simp only [decide_eq_true_eq, decide_eq_false_iff_not, Bool.and_eq_true, Bool.or_eq_true, Bool.not_eq_true', Int.not_le, Int.not_lt] at hc1
      have hck : t.check ≠ 0 := hc1
      refine sy_skip ?_
      rw [show allP t s = ([], t.check) from by simp [allP, hck], show nextP t s r bad = (zst, t.check) from by simp [nextP, hck], show yearP t r bad = (ztw, t.check) from by simp [yearP, hck]]
      exact sy_jend ((none, 0), none, 0) (by repeat' first | exact Sub.nil | apply Sub.cons | rfl | (simp [lk]; omega)) (fun _ h => St.norows (St.norows h))
    ·
     rintro ⟨⟨aa, ca⟩, am, cm⟩
     dsimp only
     refine sy_nx ?_
     refine sy_seq ?_
     refine sy_tx' [0, 1, 2, 3, 4, 5, 6, 7] rfl ?_
     refine sy_sq ?_
     refine spL rfl rfl (lhA [_, _, _, _, _, _, _, _, _, _, _] ag26 rfl rfl rfl) rfl ?_
     refine sy_sq ?_
     refine spL rfl rfl (lhA [_, _, _] ag23 rfl rfl rfl) rfl ?_
     refine sy_sq ?_
     refine cl rfl cal65 rfl rfl (c_Allowed t s (by omega) bo 0 co _ _) ?_
     rintro _ _ _ ⟨oc, rfl, rfl, rfl⟩
     obtain ⟨ad, cd, hoc, hfc⟩ := oc.freeze
     rw [hoc]
     refine Sy.heap (fun w h => hfc h) ?_
     rw [show (irows (allP t s).1).length = (allP t s).1.length from List.length_map _]
     refine sy_sq ?_
     refine sp rfl (PE.move rfl) rfl ?_
     refine sy_sq ?_
     refine sp rfl (PE.extract rfl rfl) rfl ?_
     refine sy_sq ?_
     refine sp rfl (PE.extract rfl rfl) rfl ?_
     refine sy_sq ?_
     refine sp rfl (PE.assign rfl) rfl ?_
     refine sy_sq ?_
     refine sp rfl (PE.assign rfl) rfl ?_
     refine sy_sn ?_
     refine sy_nx ?_
     refine sy_seq ?_
     refine sy_tx' [0, 1, 2, 3, 4, 5, 6, 7, 8, 9, 10] rfl ?_
     refine sy_sq ?_
     refine spL rfl rfl (lhA [_, _, _, _, _, _, _, _, _, _, _] ag26 rfl rfl rfl) rfl ?_
     refine sy_sq ?_
     refine spL rfl rfl (lhA [_, _, _] ag23 rfl rfl rfl) rfl ?_
     refine sy_sq ?_
     refine sp rfl (PE.move rfl) rfl ?_
     refine sy_sq ?_
     refine sp rfl (PE.move rfl) rfl ?_
     refine sy_sq ?_
     refine clV rfl cal66 rfl rfl (c_Next t s r bad (by omega) bo 0 co _ _) ?_
     refine sy_sq ?_
     refine sp rfl (PE.move rfl) rfl ?_
     refine sy_sq ?_
     refine sp rfl (PE.extract rfl rfl) rfl ?_
     refine sy_sq ?_
     refine sp rfl (PE.extract rfl rfl) rfl ?_
     refine sy_sq ?_
     refine alc rfl zl23 rfl (fun b21 => ?_)
     refine sy_sq ?_
     refine sto rfl rfl rfl cn23 rfl rfl rfl rfl ?_
     refine sy_sq ?_
     refine sp rfl (PE.assign rfl) rfl ?_
     refine sy_sn ?_
     refine sy_nx ?_
     refine sy_seq ?_
     refine sy_tx' [0, 1, 2, 3, 4, 5, 6, 7, 8, 9] rfl ?_
     refine sy_sq ?_
     refine spL rfl rfl (lhA [_, _, _, _, _, _, _, _, _, _, _] ag26 rfl rfl rfl) rfl ?_
     refine sy_sq ?_
     refine sp rfl (PE.move rfl) rfl ?_
     refine sy_sq ?_
     refine sp rfl (PE.move rfl) rfl ?_
     refine sy_sq ?_
     refine cl rfl cal55 rfl rfl (c_Year t r bad (by omega) bo 0 co _ _) ?_
     rintro _ _ _ ⟨rfl, ⟨hrn, rfl, rfl⟩ | ⟨by_, cy, jy, rfl, rfl⟩⟩
     ·
      refine sy_sq ?_
      refine sp rfl (PE.move rfl) rfl ?_
      refine sy_sq ?_
      refine sp rfl (PE.extract rfl rfl) rfl ?_
      refine sy_sq ?_
      refine sp rfl (PE.extract rfl rfl) rfl ?_
      refine sy_sq ?_
      refine alc rfl zl26 rfl (fun b23 => ?_)
      refine sy_sq ?_
      refine sto rfl rfl rfl cn26 rfl rfl rfl rfl ?_
      refine sy_sq ?_
      refine sp rfl (PE.assign rfl) rfl ?_
      refine sy_sn ?_
      refine sy_nx ?_
      refine sy_seq ?_
      refine sy_seq ?_
      refine sy_tx' [0, 1, 2, 3, 4, 5, 6, 7, 8, 9, 10, 11, 12, 13, 14, 15, 16, 17, 18, 19, 20, 21, 22, 23, 24, 25, 26, 27, 28, 29, 30, 31, 32, 33, 34, 35] rfl ?_
      refine sy_sq ?_
      refine Sy.heap (R' := RowsA none 2 (rrows (yearP t r bad).1.rats) :: _) (fun w h => by rw [hrn]; exact St.norows h) ?_
      refine spL rfl rfl (lhA [_, _, _, _, _, _, _, _, _, _, _] ag26 rfl rfl rfl) rfl ?_
      refine sy_sq ?_
      refine clV rfl cal67 rfl rfl (c_Check t _ _ (by omega) _ _) ?_
      refine sy_sq ?_
      refine sp rfl (PE.move rfl) rfl ?_
      refine sy_sq ?_
      refine sp rfl (PE.neq rfl rfl) rfl ?_
      refine sy_sq ?_
      refine sp rfl (PE.move rfl) rfl ?_
      refine sy_sq ?_
      refine sy_case (t := 96) rfl (fun g96 => ?_) (fun g96 => ?_)
      ·
       exact absurd g96 (by first | (simp; done) | (simp_all; done))
      ·
       refine spG rfl rfl rfl rfl (PE.move rfl) rfl ?_
       refine sy_sq ?_
       refine spG rfl rfl rfl rfl (PE.move rfl) rfl ?_
       refine sy_sq ?_
       refine spG rfl rfl rfl rfl (PE.neq rfl rfl) rfl ?_
       refine sy_sq ?_
       refine sp rfl (PE.pick rfl rfl rfl) rfl ?_
       refine sy_sq ?_
       refine sp rfl (PE.move rfl) rfl ?_
       refine sy_sq ?_
       refine sy_case (t := 101) rfl (fun g101 => ?_) (fun g101 => ?_)
       ·
        exact absurd g101 (by first | (simp; done) | (simp_all; done))
       ·
        refine spG rfl rfl rfl rfl (PE.move rfl) rfl ?_
        refine sy_sq ?_
        refine spG rfl rfl rfl rfl (PE.move rfl) rfl ?_
        refine sy_sq ?_
        refine spG rfl rfl rfl rfl (PE.neq rfl rfl) rfl ?_
        refine sy_sq ?_
        refine sp rfl (PE.pick rfl rfl rfl) rfl ?_
        refine sy_sq ?_
        refine sp rfl (PE.move rfl) rfl ?_
        refine sy_sq ?_
        refine sy_case (t := 106) rfl (fun g106 => ?_) (fun g106 => ?_)
        ·
         exact absurd g106 (by first | (simp; done) | (simp_all; done))
        ·
         refine spG rfl rfl rfl rfl (PE.move rfl) rfl ?_
         refine sy_sq ?_
         refine spG rfl rfl rfl rfl (PE.move rfl) rfl ?_
         refine sy_sq ?_
         refine spG rfl rfl rfl rfl (PE.neq rfl rfl) rfl ?_
         refine sy_sq ?_
         refine sp rfl (PE.pick rfl rfl rfl) rfl ?_
         refine sy_sq ?_
         refine sp rfl (PE.move rfl) rfl ?_
         refine sy_sq ?_
         refine sy_case (t := 111) rfl (fun g111 => ?_) (fun g111 => ?_)
         ·
          exact absurd g111 (by first | (simp; done) | (simp_all; done))
         ·
          refine spG rfl rfl rfl rfl (PE.move rfl) rfl ?_
          refine sy_sq ?_
          refine spG rfl rfl rfl rfl (PE.move rfl) rfl ?_
          refine sy_sq ?_
          refine clVG rfl rfl rfl rfl cal38 rfl rfl (c_Eq_int (allP t s).1 (allP t s).1 ad aa cd ca (by omega) (by omega) _ _) ?_
          refine sy_sq ?_
          refine spG rfl rfl rfl rfl (PE.not rfl) rfl ?_
          refine sy_sq ?_
          refine sp rfl (PE.pick rfl rfl rfl) rfl ?_
          refine sy_sq ?_
          refine sp rfl (PE.move rfl) rfl ?_
          refine sy_sq ?_
          refine sy_case (t := 117) rfl (fun g117 => ?_) (fun g117 => ?_)
          ·
           exact absurd g117 (by first | (simp; done) | (simp_all; done))
          ·
           refine spLG rfl rfl rfl rfl rfl (lhA [_, _, _] ag23 rfl rfl rfl) rfl ?_
           refine sy_sq ?_
           refine spLG rfl rfl rfl rfl rfl (lhA [_, _, _] ag34 rfl rfl rfl) rfl ?_
           refine sy_sq ?_
           refine spG rfl rfl rfl rfl (PE.neqAgg [(nextP t s r bad).1.stock, (nextP t s r bad).1.short, (nextP t s r bad).1.dry] [(nextP t s r bad).1.stock, (nextP t s r bad).1.short, (nextP t s r bad).1.dry] (eqB_ok 10000 23 true 3 eqf23) eqg23 rfl rfl rfl rfl) rfl ?_
           refine sy_sq ?_
           refine sp rfl (PE.pick rfl rfl rfl) rfl ?_
           refine sy_sq ?_
           refine sp rfl (PE.move rfl) rfl ?_
           refine sy_sq ?_
           refine sy_case (t := 122) rfl (fun g122 => ?_) (fun g122 => ?_)
           ·
            exact absurd g122 (by first | (simp; done) | (simp_all; done))
           ·
            refine spLG rfl rfl rfl rfl rfl (lhA [_, _, _, _, _, _, _, _, _, _, _] ag26 rfl rfl rfl) rfl ?_
            refine sy_sq ?_
            refine spLG rfl rfl rfl rfl rfl (lhA [_, _, _, _, _, _, _, _, _, _, _] ag26 rfl rfl rfl) rfl ?_
            refine sy_sq ?_
            refine clVG rfl rfl rfl rfl cal28 rfl rfl (c_same (yearP t r bad).1 (yearP t r bad).1 (none) am 0 cm (by omega) (by omega) _ _) ?_
            refine sy_sq ?_
            refine spG rfl rfl rfl rfl (PE.not rfl) rfl ?_
            refine sy_sq ?_
            refine sp rfl (PE.pick rfl rfl rfl) rfl ?_
            refine sy_sn ?_
            refine sy_nx ?_
            refine sy_cond rfl (fun hc5 => ?_) (fun hc5 => ?_)
            ·
             exact absurd hc5 (by simp)
            ·
             refine sy_skip ?_
             refine sy_nx ?_
             refine sy_seq ?_
             refine sy_tx' [0, 1, 2] rfl ?_
             refine sy_sq ?_
             refine sp rfl (PE.fieldAddr fo26_8 rfl) rfl ?_
             refine sy_sq ?_
             refine spL rfl rfl (lh sc24 rfl rfl) rfl ?_
             refine sy_sq ?_
             refine clr0 rfl rfl sl24 rfl ?_
             refine sy_sn ?_
             refine sy_nx ?_
             refine sy_seq ?_
             refine sy_tx' [0, 1, 2, 3, 4, 5, 6] rfl ?_
             refine sy_sq ?_
             refine spL rfl rfl (lhA [_, _, _, _, _, _, _, _, _, _, _] ag26 rfl rfl rfl) rfl ?_
             refine sy_sq ?_
             refine spL rfl rfl (lhA [_, _, _, _, _, _, _, _, _, _, _] ag26 rfl rfl rfl) rfl ?_
             refine sy_sq ?_
             refine clV rfl cal28 rfl rfl (c_same t t _ a co c (by omega) (by omega) _ _) ?_
             refine sy_sq ?_
             refine sp rfl (PE.move rfl) rfl ?_
             refine sy_sq ?_
             refine sy_case (t := 133) rfl (fun g133 => ?_) (fun g133 => ?_)
             ·
              refine clVG rfl rfl rfl rfl cal16 rfl rfl (c_awake _ _) ?_
              refine sy_sq ?_
              refine sp rfl (PE.pick rfl rfl rfl) rfl ?_
              refine sy_sq ?_
              refine sp rfl (PE.assign rfl) rfl ?_
              refine sy_sn ?_
              refine sy_nx ?_
              refine sy_ret ?_
              exact sy_return (vs := [_]) rfl (.cons (RV.tmp rfl) .nil) rfl ⟨rfl, rfl, rfl⟩ (fun _ h => by repeat first | exact h | replace h := St.tail h | replace h := St.ftail h | replace h := St.drop h)
             ·
              exact absurd g133 (by first | (simp; done) | (simp_all; done))
     ·
      refine sy_sq ?_
      refine sp rfl (PE.move rfl) rfl ?_
      refine sy_sq ?_
      refine sp rfl (PE.extract rfl rfl) rfl ?_
      refine sy_sq ?_
      refine sp rfl (PE.extract rfl rfl) rfl ?_
      refine sy_sq ?_
      refine alc rfl zl26 rfl (fun b23 => ?_)
      refine sy_sq ?_
      refine sto rfl rfl rfl cn26 rfl rfl rfl rfl ?_
      refine sy_sq ?_
      refine sp rfl (PE.assign rfl) rfl ?_
      refine sy_sn ?_
      refine sy_nx ?_
      refine sy_seq ?_
      refine sy_seq ?_
      refine sy_tx' [0, 1, 2, 3, 4, 5, 6, 7, 8, 9, 10, 11, 12, 13, 14, 15, 16, 17, 18, 19, 20, 21, 22, 23, 24, 25, 26, 27, 28, 29, 30, 31, 32, 33, 34, 35] rfl ?_
      refine sy_sq ?_
      refine spL rfl rfl (lhA [_, _, _, _, _, _, _, _, _, _, _] ag26 rfl rfl rfl) rfl ?_
      refine sy_sq ?_
      refine clV rfl cal67 rfl rfl (c_Check t _ _ (by omega) _ _) ?_
      refine sy_sq ?_
      refine sp rfl (PE.move rfl) rfl ?_
      refine sy_sq ?_
      refine sp rfl (PE.neq rfl rfl) rfl ?_
      refine sy_sq ?_
      refine sp rfl (PE.move rfl) rfl ?_
      refine sy_sq ?_
      refine sy_case (t := 96) rfl (fun g96 => ?_) (fun g96 => ?_)
      ·
       exact absurd g96 (by first | (simp; done) | (simp_all; done))
      ·
       refine spG rfl rfl rfl rfl (PE.move rfl) rfl ?_
       refine sy_sq ?_
       refine spG rfl rfl rfl rfl (PE.move rfl) rfl ?_
       refine sy_sq ?_
       refine spG rfl rfl rfl rfl (PE.neq rfl rfl) rfl ?_
       refine sy_sq ?_
       refine sp rfl (PE.pick rfl rfl rfl) rfl ?_
       refine sy_sq ?_
       refine sp rfl (PE.move rfl) rfl ?_
       refine sy_sq ?_
       refine sy_case (t := 101) rfl (fun g101 => ?_) (fun g101 => ?_)
       ·
        exact absurd g101 (by first | (simp; done) | (simp_all; done))
       ·
        refine spG rfl rfl rfl rfl (PE.move rfl) rfl ?_
        refine sy_sq ?_
        refine spG rfl rfl rfl rfl (PE.move rfl) rfl ?_
        refine sy_sq ?_
        refine spG rfl rfl rfl rfl (PE.neq rfl rfl) rfl ?_
        refine sy_sq ?_
        refine sp rfl (PE.pick rfl rfl rfl) rfl ?_
        refine sy_sq ?_
        refine sp rfl (PE.move rfl) rfl ?_
        refine sy_sq ?_
        refine sy_case (t := 106) rfl (fun g106 => ?_) (fun g106 => ?_)
        ·
         exact absurd g106 (by first | (simp; done) | (simp_all; done))
        ·
         refine spG rfl rfl rfl rfl (PE.move rfl) rfl ?_
         refine sy_sq ?_
         refine spG rfl rfl rfl rfl (PE.move rfl) rfl ?_
         refine sy_sq ?_
         refine spG rfl rfl rfl rfl (PE.neq rfl rfl) rfl ?_
         refine sy_sq ?_
         refine sp rfl (PE.pick rfl rfl rfl) rfl ?_
         refine sy_sq ?_
         refine sp rfl (PE.move rfl) rfl ?_
         refine sy_sq ?_
         refine sy_case (t := 111) rfl (fun g111 => ?_) (fun g111 => ?_)
         ·
          exact absurd g111 (by first | (simp; done) | (simp_all; done))
         ·
          refine spG rfl rfl rfl rfl (PE.move rfl) rfl ?_
          refine sy_sq ?_
          refine spG rfl rfl rfl rfl (PE.move rfl) rfl ?_
          refine sy_sq ?_
          refine clVG rfl rfl rfl rfl cal38 rfl rfl (c_Eq_int (allP t s).1 (allP t s).1 ad aa cd ca (by omega) (by omega) _ _) ?_
          refine sy_sq ?_
          refine spG rfl rfl rfl rfl (PE.not rfl) rfl ?_
          refine sy_sq ?_
          refine sp rfl (PE.pick rfl rfl rfl) rfl ?_
          refine sy_sq ?_
          refine sp rfl (PE.move rfl) rfl ?_
          refine sy_sq ?_
          refine sy_case (t := 117) rfl (fun g117 => ?_) (fun g117 => ?_)
          ·
           exact absurd g117 (by first | (simp; done) | (simp_all; done))
          ·
           refine spLG rfl rfl rfl rfl rfl (lhA [_, _, _] ag23 rfl rfl rfl) rfl ?_
           refine sy_sq ?_
           refine spLG rfl rfl rfl rfl rfl (lhA [_, _, _] ag34 rfl rfl rfl) rfl ?_
           refine sy_sq ?_
           refine spG rfl rfl rfl rfl (PE.neqAgg [(nextP t s r bad).1.stock, (nextP t s r bad).1.short, (nextP t s r bad).1.dry] [(nextP t s r bad).1.stock, (nextP t s r bad).1.short, (nextP t s r bad).1.dry] (eqB_ok 10000 23 true 3 eqf23) eqg23 rfl rfl rfl rfl) rfl ?_
           refine sy_sq ?_
           refine sp rfl (PE.pick rfl rfl rfl) rfl ?_
           refine sy_sq ?_
           refine sp rfl (PE.move rfl) rfl ?_
           refine sy_sq ?_
           refine sy_case (t := 122) rfl (fun g122 => ?_) (fun g122 => ?_)
           ·
            exact absurd g122 (by first | (simp; done) | (simp_all; done))
           ·
            refine spLG rfl rfl rfl rfl rfl (lhA [_, _, _, _, _, _, _, _, _, _, _] ag26 rfl rfl rfl) rfl ?_
            refine sy_sq ?_
            refine spLG rfl rfl rfl rfl rfl (lhA [_, _, _, _, _, _, _, _, _, _, _] ag26 rfl rfl rfl) rfl ?_
            refine sy_sq ?_
            refine clVG rfl rfl rfl rfl cal28 rfl rfl (FnV.lend (b := by_) (rows := rrows (yearP t r bad).1.rats) (junk := jy) (rr_two _) (fun B => c_same (yearP t r bad).1 (yearP t r bad).1 (some ⟨by_, 0, none⟩) am cy cm (by omega) (by omega) _ _)) ?_
            refine sy_sq ?_
            refine spG rfl rfl rfl rfl (PE.not rfl) rfl ?_
            refine sy_sq ?_
            refine sp rfl (PE.pick rfl rfl rfl) rfl ?_
            refine sy_sn ?_
            refine sy_nx ?_
            refine sy_cond rfl (fun hc5 => ?_) (fun hc5 => ?_)
            ·
             exact absurd hc5 (by simp)
            ·
             refine sy_skip ?_
             refine sy_nx ?_
             refine sy_seq ?_
             refine sy_tx' [0, 1, 2] rfl ?_
             refine sy_sq ?_
             refine sp rfl (PE.fieldAddr fo26_8 rfl) rfl ?_
             refine sy_sq ?_
             refine spL rfl rfl (lh sc24 rfl rfl) rfl ?_
             refine sy_sq ?_
             refine clrB rfl rfl sl24 zl91 rfl rfl rfl (by rw [List.length_append, flat_len (rr_two _)]; simp [rrows]) ?_
             refine sy_sn ?_
             refine sy_nx ?_
             refine sy_seq ?_
             refine sy_tx' [0, 1, 2, 3, 4, 5, 6] rfl ?_
             refine sy_sq ?_
             refine spL rfl rfl (lhA [_, _, _, _, _, _, _, _, _, _, _] ag26 rfl rfl rfl) rfl ?_
             refine sy_sq ?_
             refine spL rfl rfl (lhA [_, _, _, _, _, _, _, _, _, _, _] ag26 rfl rfl rfl) rfl ?_
             refine sy_sq ?_
             refine clV rfl cal28 rfl rfl (c_same t t _ a co c (by omega) (by omega) _ _) ?_
             refine sy_sq ?_
             refine sp rfl (PE.move rfl) rfl ?_
             refine sy_sq ?_
             refine sy_case (t := 133) rfl (fun g133 => ?_) (fun g133 => ?_)
             ·
              refine clVG rfl rfl rfl rfl cal16 rfl rfl (c_awake _ _) ?_
              refine sy_sq ?_
              refine sp rfl (PE.pick rfl rfl rfl) rfl ?_
              refine sy_sq ?_
              refine sp rfl (PE.assign rfl) rfl ?_
              refine sy_sn ?_
              refine sy_nx ?_
              refine sy_ret ?_
              exact sy_return (vs := [_]) rfl (.cons (RV.tmp rfl) .nil) rfl ⟨rfl, rfl, rfl⟩ (fun _ h => by repeat first | exact h | replace h := St.tail h | replace h := St.ftail h | replace h := St.drop h)
             ·
              exact absurd g133 (by first | (simp; done) | (simp_all; done))
end Go.Proofs.Ytaldphhdkmchhaa
