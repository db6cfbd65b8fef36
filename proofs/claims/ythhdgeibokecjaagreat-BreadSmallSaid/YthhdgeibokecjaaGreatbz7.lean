/- Walks of the functions of the program, and the laws that join them: what the last theorem of this claim needs, in order. -/
import Derived.Test.YthhdgeibokecjaaGreatbz6
namespace Go.Proofs.YthhdgeibokecjaaGreat.Bd
set_option linter.unusedSimpArgs false
set_option linter.unusedVariables false
open Go
theorem ZaG : cal Tryz.prog 47 = true := by kernel_rfl
theorem ZeO : cal Tryz.prog 48 = true := by kernel_rfl
theorem Zfg : cal Tryz.prog 49 = true := by kernel_rfl
theorem ZeZ : cal Tryz.prog 50 = true := by kernel_rfl
theorem St.swapf {f g : World → Prop} {H : Zj} {R : Z9} {w : World} (h : St H (f :: g :: R) w) : St H (g :: f :: R) w := by
  refine St.facts h (fun q hq => ?_)
  simp only [List.mem_cons] at hq ⊢
  rcases hq with e | e | e
  · exact .inr (.inl e)
  · exact .inl e
  · exact .inr (.inr e)
theorem Za2 {t : Twn} {s : Sta} (h0 : t.check = 0) (h : (Z28 t s).2 = 0) : s.right t = true := by
  unfold Z28 at h
  cases hr : s.right t with
  | true => rfl
  | false => rw [hr] at h; simp [h0] at h
theorem Zaq {t : Twn} {s : Sta} (h0 : t.check = 0) (h : ¬ (Z28 t s).2 = 0) : s.right t = false ∧ (Z28 t s).2 = 3 := by
  cases hr : s.right t with
  | true => exfalso; apply h; simp [Z28, h0, hr]
  | false => exact ⟨rfl, by simp [Z28, h0, hr]⟩
theorem Zca (t : Twn) (s : Sta) : (Z28 t s).1.length ≤ t.rats.length := by
  unfold Z28
  cases decide (t.check ≠ 0) with
  | true => simp
  | false => cases s.right t with
    | true => exact Z65 t s
    | false => simp
theorem Zb9 (t : Twn) (r : Int) (bad : Bool) : (Z0L t r bad).1.rats.length ≤ t.rats.length := by
  unfold Z0L
  cases decide (t.check ≠ 0) with
  | true => simp [ztw]
  | false => cases decide ((Z16 t t.now r bad).2 ≠ 0) with
    | true => simp [ztw]
    | false => simp
theorem Z6G (l : List Rn) : ∀ q ∈ Zf l, q.length = 2 := fun q hq => by obtain ⟨x, _, rfl⟩ := List.mem_map.1 hq; rfl
theorem Z5W (t : Twn) (a : Option Addr) (c : Nat) (hl : t.rats.length ≤ 9223372036854775807) (s : Sta) (r : Int) (bad : Bool) (H : Zj) (R : Z9) [hR : MemRows a 2 (Zf t.rats) R] :
    Fn Tryz.prog 17 [t.v (t.sl a c), s.v, .int .i64 r, .bool bad] H R (fun v H' R' => v = .bool true ∧ H' = H ∧ R' = R) := by
  refine Zq Tryz.func17 rfl Tryz.ntmps17 rfl ?_
  refine Z0 ?_
  refine Z1 [0, 1, 2] rfl ?_
  refine bx rfl rfl rfl (fun b4 => ?_)
  refine bx rfl rfl rfl (fun b5 => ?_)
  refine sp rfl (PE.assign rfl) rfl ?_
  refine Z0 ?_
  refine Z0 ?_
  refine Z1 [0, 1] rfl ?_
  refine spL rfl rfl (lhA [_, _, _, _, _, _, _, _, _, _, _] Zd rfl rfl rfl) rfl ?_
  refine clV rfl Zax rfl rfl (Z5B t a c (by omega) _ _) ?_
  refine Z5 rfl (fun hc0 => ?_) (fun hc0 => ?_)
  ·
   try simp only [decide_eq_true_eq, decide_eq_false_iff_not, Bool.and_eq_true, Bool.or_eq_true, Bool.not_eq_true', Int.not_le, Int.not_lt] at hc0
   refine Z0 ?_
   refine Z1 [0, 1] rfl ?_
   refine clV rfl Z1f rfl rfl (Z00 _ _) ?_
   refine sp rfl (PE.assign rfl) rfl ?_
   refine Z4 ?_
   exact Z2 (vs := [_]) rfl (.cons (RV.tmp rfl) .nil) rfl ⟨rfl, rfl, rfl⟩ drp
  ·
   try simp only [decide_eq_true_eq, decide_eq_false_iff_not, Bool.and_eq_true, Bool.or_eq_true, Bool.not_eq_true', Int.not_le, Int.not_lt] at hc0
   have hal := Zca t s
   have hyl := Zb9 t r bad
   refine Z3 ?_
   refine Z0 ?_
   refine Z2q (ι := (Nat × Nat × Option Addr × Nat) × Nat × Nat) (fun z => ⟨[(2, .int .i64 r), (3, .bool bad), (4, .pointer (some ⟨b4, 0, none⟩)), (5, .pointer (some ⟨b5, 0, none⟩)), (9, .pointer (some ⟨z.2.1, 0, none⟩)), (10, .pointer (some ⟨z.2.2, 0, none⟩))],
     (z.2.1, cel 27 (twl t (t.sl (some ⟨z.1.1, 0, none⟩) z.1.2.1))) :: (z.2.2, cel 96 (twl t (t.sl z.1.2.2.1 z.1.2.2.2))) :: (b5, cel 24 [.int .i64 s.stock, .int .i64 s.short, .int .i64 s.dry]) :: (b4, cel 27 (twl t (t.sl a c))) :: H, RowsA z.1.2.2.1 2 (Zf t.rats) :: RowsA (some ⟨z.1.1, 0, none⟩) 2 (Zf t.rats) :: R⟩) ?_ ?_
   ·
    refine Ze [0, 1, 0, 7, 0, 0, 63, 127] (.ld 0 (.ld 2 (.any (.alt 1 (.any (.alt 3 (.any (.alt 4 (.big 5 (.big 6 (.big 7 .done))) (.alt 5 (.big 4 (.big 6 (.big 7 .done))) .stop))) (.alt 4 (.any (.alt 3 (.big 5 (.big 6 (.big 7 .done))) (.alt 5 (.big 3 (.big 6 (.big 7 .done))) .stop))) (.alt 5 (.any (.alt 3 (.big 4 (.big 6 (.big 7 .done))) (.alt 4 (.big 3 (.big 6 (.big 7 .done))) .stop))) .stop)))) (.alt 4 (.any (.alt 1 (.any (.alt 3 (.big 5 (.big 6 (.big 7 .done))) (.alt 5 (.big 3 (.big 6 (.big 7 .done))) .stop))) (.alt 5 (.big 1 (.big 3 (.big 6 (.big 7 .done)))) .stop))) (.alt 5 (.any (.alt 1 (.any (.alt 3 (.big 4 (.big 6 (.big 7 .done))) (.alt 4 (.big 3 (.big 6 (.big 7 .done))) .stop))) (.alt 4 (.big 1 (.big 3 (.big 6 (.big 7 .done)))) .stop))) .stop)))))) Zy (by kernel_rfl) ?_
    refine ld rfl rfl (lhA [_, _, _, _, _, _, _, _, _, _, _] Zd rfl rfl rfl) rfl ?_
    refine ld rfl rfl (lhA [_, _, _, _, _, _, _, _, _, _, _] Zd rfl rfl rfl) rfl ?_
    refine Z8 ?_ ?_
    ·
     refine cl rfl Z0R rfl rfl (Z0Q t a c (by omega) _ _) ?_
     rintro _ _ _ ⟨bo, co, rfl, rfl, rfl⟩
     refine bg (fun w hs => ⟨(lhA [_, _, _, _, _, _, _, _, _, _, _] Zd rfl rfl rfl) w hs, trivial, trivial⟩) ?_
     refine Z8 ?_ ?_
     ·
      refine cl rfl ZA rfl rfl (Za t a c (by omega) _ _) ?_
      rintro _ _ _ ⟨ax, cx, rfl, rfl, rfl⟩
      refine bg (fun w hs => ⟨trivial, trivial⟩) ?_
      refine Z8 ?_ ?_
      ·
       refine alc rfl Z04 rfl (fun b9 => ?_)
       refine bg (fun w hs => trivial) ?_
       refine alc rfl Z0m rfl (fun b10 => ?_)
       refine bg (fun w hs => trivial) ?_
       refine sto rfl rfl rfl ZO rfl rfl rfl rfl ?_
       refine bg (fun w hs => trivial) ?_
       refine sto rfl rfl rfl ZU rfl rfl rfl rfl ?_
       refine bg (fun w hs => trivial) ?_
       exact Z6 ((bo, co, ax, cx), b9, b10) (by repeat' first | exact Sub.nil | apply Sub.cons | rfl | (simp [lk]; omega)) (fun _ h => St.sub ((((h.pull b4).pull b5).pull b10).pull b9))
      refine Z8 ?_ ?_
      ·
       refine alc rfl Z0m rfl (fun b10 => ?_)
       refine bg (fun w hs => trivial) ?_
       refine alc rfl Z04 rfl (fun b9 => ?_)
       refine bg (fun w hs => trivial) ?_
       refine sto rfl rfl rfl ZO rfl rfl rfl rfl ?_
       refine bg (fun w hs => trivial) ?_
       refine sto rfl rfl rfl ZU rfl rfl rfl rfl ?_
       refine bg (fun w hs => trivial) ?_
       exact Z6 ((bo, co, ax, cx), b9, b10) (by repeat' first | exact Sub.nil | apply Sub.cons | rfl | (simp [lk]; omega)) (fun _ h => St.sub ((((h.pull b4).pull b5).pull b10).pull b9))
      exact Zc
     refine Z8 ?_ ?_
     ·
      refine alc rfl Z04 rfl (fun b9 => ?_)
      refine bg (fun w hs => ⟨(lhA [_, _, _, _, _, _, _, _, _, _, _] Zd rfl rfl rfl) w hs, trivial⟩) ?_
      refine Z8 ?_ ?_
      ·
       refine cl rfl ZA rfl rfl (Za t a c (by omega) _ _) ?_
       rintro _ _ _ ⟨ax, cx, rfl, rfl, rfl⟩
       refine bg (fun w hs => ⟨trivial, trivial⟩) ?_
       refine alc rfl Z0m rfl (fun b10 => ?_)
       refine bg (fun w hs => trivial) ?_
       refine sto rfl rfl rfl ZO rfl rfl rfl rfl ?_
       refine bg (fun w hs => trivial) ?_
       refine sto rfl rfl rfl ZU rfl rfl rfl rfl ?_
       refine bg (fun w hs => trivial) ?_
       exact Z6 ((bo, co, ax, cx), b9, b10) (by repeat' first | exact Sub.nil | apply Sub.cons | rfl | (simp [lk]; omega)) (fun _ h => St.sub ((((h.pull b4).pull b5).pull b10).pull b9))
      refine Z8 ?_ ?_
      ·
       refine alc rfl Z0m rfl (fun b10 => ?_)
       refine bg (fun w hs => ⟨(lhA [_, _, _, _, _, _, _, _, _, _, _] Zd rfl rfl rfl) w hs, trivial⟩) ?_
       refine cl rfl ZA rfl rfl (Za t a c (by omega) _ _) ?_
       rintro _ _ _ ⟨ax, cx, rfl, rfl, rfl⟩
       refine bg (fun w hs => ⟨trivial, trivial⟩) ?_
       refine sto rfl rfl rfl ZO rfl rfl rfl rfl ?_
       refine bg (fun w hs => trivial) ?_
       refine sto rfl rfl rfl ZU rfl rfl rfl rfl ?_
       refine bg (fun w hs => trivial) ?_
       exact Z6 ((bo, co, ax, cx), b9, b10) (by repeat' first | exact Sub.nil | apply Sub.cons | rfl | (simp [lk]; omega)) (fun _ h => St.sub ((((h.pull b4).pull b5).pull b10).pull b9))
      exact Zc
     refine Z8 ?_ ?_
     ·
      refine alc rfl Z0m rfl (fun b10 => ?_)
      refine bg (fun w hs => ⟨(lhA [_, _, _, _, _, _, _, _, _, _, _] Zd rfl rfl rfl) w hs, trivial⟩) ?_
      refine Z8 ?_ ?_
      ·
       refine cl rfl ZA rfl rfl (Za t a c (by omega) _ _) ?_
       rintro _ _ _ ⟨ax, cx, rfl, rfl, rfl⟩
       refine bg (fun w hs => ⟨trivial, trivial⟩) ?_
       refine alc rfl Z04 rfl (fun b9 => ?_)
       refine bg (fun w hs => trivial) ?_
       refine sto rfl rfl rfl ZO rfl rfl rfl rfl ?_
       refine bg (fun w hs => trivial) ?_
       refine sto rfl rfl rfl ZU rfl rfl rfl rfl ?_
       refine bg (fun w hs => trivial) ?_
       exact Z6 ((bo, co, ax, cx), b9, b10) (by repeat' first | exact Sub.nil | apply Sub.cons | rfl | (simp [lk]; omega)) (fun _ h => St.sub ((((h.pull b4).pull b5).pull b10).pull b9))
      refine Z8 ?_ ?_
      ·
       refine alc rfl Z04 rfl (fun b9 => ?_)
       refine bg (fun w hs => ⟨(lhA [_, _, _, _, _, _, _, _, _, _, _] Zd rfl rfl rfl) w hs, trivial⟩) ?_
       refine cl rfl ZA rfl rfl (Za t a c (by omega) _ _) ?_
       rintro _ _ _ ⟨ax, cx, rfl, rfl, rfl⟩
       refine bg (fun w hs => ⟨trivial, trivial⟩) ?_
       refine sto rfl rfl rfl ZO rfl rfl rfl rfl ?_
       refine bg (fun w hs => trivial) ?_
       refine sto rfl rfl rfl ZU rfl rfl rfl rfl ?_
       refine bg (fun w hs => trivial) ?_
       exact Z6 ((bo, co, ax, cx), b9, b10) (by repeat' first | exact Sub.nil | apply Sub.cons | rfl | (simp [lk]; omega)) (fun _ h => St.sub ((((h.pull b4).pull b5).pull b10).pull b9))
      exact Zc
     exact Zc
    refine Z8 ?_ ?_
    ·
     refine alc rfl Z04 rfl (fun b9 => ?_)
     refine bg (fun w hs => ⟨(lhA [_, _, _, _, _, _, _, _, _, _, _] Zd rfl rfl rfl) w hs, (lhA [_, _, _, _, _, _, _, _, _, _, _] Zd rfl rfl rfl) w hs, trivial⟩) ?_
     refine Z8 ?_ ?_
     ·
      refine cl rfl Z0R rfl rfl (Z0Q t a c (by omega) _ _) ?_
      rintro _ _ _ ⟨bo, co, rfl, rfl, rfl⟩
      refine bg (fun w hs => ⟨(lhA [_, _, _, _, _, _, _, _, _, _, _] Zd rfl rfl rfl) w hs, trivial, trivial⟩) ?_
      refine Z8 ?_ ?_
      ·
       refine cl rfl ZA rfl rfl (Za t a c (by omega) _ _) ?_
       rintro _ _ _ ⟨ax, cx, rfl, rfl, rfl⟩
       refine bg (fun w hs => ⟨trivial, trivial⟩) ?_
       refine alc rfl Z0m rfl (fun b10 => ?_)
       refine bg (fun w hs => trivial) ?_
       refine sto rfl rfl rfl ZO rfl rfl rfl rfl ?_
       refine bg (fun w hs => trivial) ?_
       refine sto rfl rfl rfl ZU rfl rfl rfl rfl ?_
       refine bg (fun w hs => trivial) ?_
       exact Z6 ((bo, co, ax, cx), b9, b10) (by repeat' first | exact Sub.nil | apply Sub.cons | rfl | (simp [lk]; omega)) (fun _ h => St.sub ((((h.pull b4).pull b5).pull b10).pull b9))
      refine Z8 ?_ ?_
      ·
       refine alc rfl Z0m rfl (fun b10 => ?_)
       refine bg (fun w hs => ⟨(lhA [_, _, _, _, _, _, _, _, _, _, _] Zd rfl rfl rfl) w hs, trivial⟩) ?_
       refine cl rfl ZA rfl rfl (Za t a c (by omega) _ _) ?_
       rintro _ _ _ ⟨ax, cx, rfl, rfl, rfl⟩
       refine bg (fun w hs => ⟨trivial, trivial⟩) ?_
       refine sto rfl rfl rfl ZO rfl rfl rfl rfl ?_
       refine bg (fun w hs => trivial) ?_
       refine sto rfl rfl rfl ZU rfl rfl rfl rfl ?_
       refine bg (fun w hs => trivial) ?_
       exact Z6 ((bo, co, ax, cx), b9, b10) (by repeat' first | exact Sub.nil | apply Sub.cons | rfl | (simp [lk]; omega)) (fun _ h => St.sub ((((h.pull b4).pull b5).pull b10).pull b9))
      exact Zc
     refine Z8 ?_ ?_
     ·
      refine alc rfl Z0m rfl (fun b10 => ?_)
      refine bg (fun w hs => ⟨(lhA [_, _, _, _, _, _, _, _, _, _, _] Zd rfl rfl rfl) w hs, (lhA [_, _, _, _, _, _, _, _, _, _, _] Zd rfl rfl rfl) w hs, trivial⟩) ?_
      refine cl rfl Z0R rfl rfl (Z0Q t a c (by omega) _ _) ?_
      rintro _ _ _ ⟨bo, co, rfl, rfl, rfl⟩
      refine bg (fun w hs => ⟨(lhA [_, _, _, _, _, _, _, _, _, _, _] Zd rfl rfl rfl) w hs, trivial, trivial⟩) ?_
      refine cl rfl ZA rfl rfl (Za t a c (by omega) _ _) ?_
      rintro _ _ _ ⟨ax, cx, rfl, rfl, rfl⟩
      refine bg (fun w hs => ⟨trivial, trivial⟩) ?_
      refine sto rfl rfl rfl ZO rfl rfl rfl rfl ?_
      refine bg (fun w hs => trivial) ?_
      refine sto rfl rfl rfl ZU rfl rfl rfl rfl ?_
      refine bg (fun w hs => trivial) ?_
      exact Z6 ((bo, co, ax, cx), b9, b10) (by repeat' first | exact Sub.nil | apply Sub.cons | rfl | (simp [lk]; omega)) (fun _ h => St.sub ((((h.pull b4).pull b5).pull b10).pull b9))
     exact Zc
    refine Z8 ?_ ?_
    ·
     refine alc rfl Z0m rfl (fun b10 => ?_)
     refine bg (fun w hs => ⟨(lhA [_, _, _, _, _, _, _, _, _, _, _] Zd rfl rfl rfl) w hs, (lhA [_, _, _, _, _, _, _, _, _, _, _] Zd rfl rfl rfl) w hs, trivial⟩) ?_
     refine Z8 ?_ ?_
     ·
      refine cl rfl Z0R rfl rfl (Z0Q t a c (by omega) _ _) ?_
      rintro _ _ _ ⟨bo, co, rfl, rfl, rfl⟩
      refine bg (fun w hs => ⟨(lhA [_, _, _, _, _, _, _, _, _, _, _] Zd rfl rfl rfl) w hs, trivial, trivial⟩) ?_
      refine Z8 ?_ ?_
      ·
       refine cl rfl ZA rfl rfl (Za t a c (by omega) _ _) ?_
       rintro _ _ _ ⟨ax, cx, rfl, rfl, rfl⟩
       refine bg (fun w hs => ⟨trivial, trivial⟩) ?_
       refine alc rfl Z04 rfl (fun b9 => ?_)
       refine bg (fun w hs => trivial) ?_
       refine sto rfl rfl rfl ZO rfl rfl rfl rfl ?_
       refine bg (fun w hs => trivial) ?_
       refine sto rfl rfl rfl ZU rfl rfl rfl rfl ?_
       refine bg (fun w hs => trivial) ?_
       exact Z6 ((bo, co, ax, cx), b9, b10) (by repeat' first | exact Sub.nil | apply Sub.cons | rfl | (simp [lk]; omega)) (fun _ h => St.sub ((((h.pull b4).pull b5).pull b10).pull b9))
      refine Z8 ?_ ?_
      ·
       refine alc rfl Z04 rfl (fun b9 => ?_)
       refine bg (fun w hs => ⟨(lhA [_, _, _, _, _, _, _, _, _, _, _] Zd rfl rfl rfl) w hs, trivial⟩) ?_
       refine cl rfl ZA rfl rfl (Za t a c (by omega) _ _) ?_
       rintro _ _ _ ⟨ax, cx, rfl, rfl, rfl⟩
       refine bg (fun w hs => ⟨trivial, trivial⟩) ?_
       refine sto rfl rfl rfl ZO rfl rfl rfl rfl ?_
       refine bg (fun w hs => trivial) ?_
       refine sto rfl rfl rfl ZU rfl rfl rfl rfl ?_
       refine bg (fun w hs => trivial) ?_
       exact Z6 ((bo, co, ax, cx), b9, b10) (by repeat' first | exact Sub.nil | apply Sub.cons | rfl | (simp [lk]; omega)) (fun _ h => St.sub ((((h.pull b4).pull b5).pull b10).pull b9))
      exact Zc
     refine Z8 ?_ ?_
     ·
      refine alc rfl Z04 rfl (fun b9 => ?_)
      refine bg (fun w hs => ⟨(lhA [_, _, _, _, _, _, _, _, _, _, _] Zd rfl rfl rfl) w hs, (lhA [_, _, _, _, _, _, _, _, _, _, _] Zd rfl rfl rfl) w hs, trivial⟩) ?_
      refine cl rfl Z0R rfl rfl (Z0Q t a c (by omega) _ _) ?_
      rintro _ _ _ ⟨bo, co, rfl, rfl, rfl⟩
      refine bg (fun w hs => ⟨(lhA [_, _, _, _, _, _, _, _, _, _, _] Zd rfl rfl rfl) w hs, trivial, trivial⟩) ?_
      refine cl rfl ZA rfl rfl (Za t a c (by omega) _ _) ?_
      rintro _ _ _ ⟨ax, cx, rfl, rfl, rfl⟩
      refine bg (fun w hs => ⟨trivial, trivial⟩) ?_
      refine sto rfl rfl rfl ZO rfl rfl rfl rfl ?_
      refine bg (fun w hs => trivial) ?_
      refine sto rfl rfl rfl ZU rfl rfl rfl rfl ?_
      refine bg (fun w hs => trivial) ?_
      exact Z6 ((bo, co, ax, cx), b9, b10) (by repeat' first | exact Sub.nil | apply Sub.cons | rfl | (simp [lk]; omega)) (fun _ h => St.sub ((((h.pull b4).pull b5).pull b10).pull b9))
     exact Zc
    exact Zc
   ·
    rintro ⟨⟨bo, co, ax, cx⟩, b9, b10⟩
    dsimp only
    refine Z0 ?_
    refine Z1 [0, 1, 2] rfl ?_
    refine spL rfl rfl (lhA [_, _, _, _, _, _, _, _, _, _, _] Z0c rfl rfl rfl) rfl ?_
    refine clV rfl Z7h rfl rfl (Z1X t ax cx (by omega) _ _) ?_
    refine sp rfl (PE.assign rfl) rfl ?_
    refine Z0 ?_
    refine Z1 [0, 1, 2, 3, 4, 5] rfl ?_
    refine sp rfl (PE.move rfl) rfl ?_
    refine sp rfl (PE.move rfl) rfl ?_
    refine sp rfl (PE.move rfl) rfl ?_
    refine sp rfl (PE.assign rfl) rfl ?_
    refine sp rfl (PE.assign rfl) rfl ?_
    refine sp rfl (PE.assign rfl) rfl ?_
    refine Z0 ?_
    refine Z1 [0] rfl ?_
    refine sp rfl (PE.assign rfl) rfl ?_
    refine Z0 ?_
    refine Z1 [0] rfl ?_
    refine alc rfl Z6C rfl (fun b16 => ?_)
    refine Z0 ?_
    refine Z1 [0] rfl ?_
    refine alc rfl Z04 rfl (fun b17 => ?_)
    refine Z0 ?_
    refine Z0 ?_
    refine Z1 [0, 1] rfl ?_
    refine sp rfl (PE.move rfl) rfl ?_
    refine sp rfl (PE.eql rfl rfl) rfl ?_
    refine Z0I (ι := (Option Addr × Nat) × Option Addr × Nat) (fun z => ⟨[(2, .int .i64 r), (3, .bool bad), (4, .pointer (some ⟨b4, 0, none⟩)), (5, .pointer (some ⟨b5, 0, none⟩)), (9, .pointer (some ⟨b9, 0, none⟩)), (10, .pointer (some ⟨b10, 0, none⟩)), (11, .int .i64 t.check), (16, .pointer (some ⟨b16, 0, none⟩)), (17, .pointer (some ⟨b17, 0, none⟩)), (12, .int .i64 ((Z28 t s).2)), (13, .int .i64 ((Z0U t s r bad).2)), (14, .int .i64 ((Z0L t r bad).2)), (15, .slice z.1.1 (Z28 t s).1.length z.1.2)], (b17, cel 27 (twl (Z0L t r bad).1 ((Z0L t r bad).1.sl z.2.1 z.2.2))) :: (b16, cel 93 (Z67 (Z0U t s r bad).1)) :: (b9, cel 27 (twl t (t.sl (some ⟨bo, 0, none⟩) co))) :: (b10, cel 96 (twl t (t.sl ax cx))) :: (b5, cel 24 [.int .i64 s.stock, .int .i64 s.short, .int .i64 s.dry]) :: (b4, cel 27 (twl t (t.sl a c))) :: H, RowsA z.1.1 1 (Zh (Z28 t s).1) :: RowsA z.2.1 2 (Zf (Z0L t r bad).1.rats) :: RowsA ax 2 (Zf t.rats) :: RowsA (some ⟨bo, 0, none⟩) 2 (Zf t.rats) :: R⟩) ?_ ?_
    ·
     refine Z5 rfl (fun hc1 => ?_) (fun hc1 => ?_)
     ·
      try simp only [decide_eq_true_eq, decide_eq_false_iff_not, Bool.and_eq_true, Bool.or_eq_true, Bool.not_eq_true', Int.not_le, Int.not_lt] at hc1
      have hck : t.check = 0 := hc1
      have hok := (Zi hck).1
      refine Zw (a := ax) (sz := 2) (rows := Zf t.rats) (by have := hok.many; intro h0; simp [Zf] at h0; simp [h0] at this) (fun bx ox he => ?_)
      subst he
      refine Z0 ?_
      refine Z0 ?_
      refine Z1 [0] rfl ?_
      refine sp rfl (PE.assign rfl) rfl ?_
      refine Z0 ?_
      refine Z1 [0, 1, 2] rfl ?_
      refine spL rfl rfl (lhA [_, _, _, _, _, _, _, _, _, _, _] Z0c rfl rfl rfl) rfl ?_
      refine spL rfl rfl (lhA [_, _, _] ZF rfl rfl rfl) rfl ?_
      refine clV rfl Zah rfl rfl (Z3c t s _ _ _) ?_
      refine Z0I (ι := Option Addr × Nat) (fun z => ⟨[(2, .int .i64 r), (3, .bool bad), (4, .pointer (some ⟨b4, 0, none⟩)), (5, .pointer (some ⟨b5, 0, none⟩)), (9, .pointer (some ⟨b9, 0, none⟩)), (10, .pointer (some ⟨b10, 0, none⟩)), (11, .int .i64 t.check), (16, .pointer (some ⟨b16, 0, none⟩)), (17, .pointer (some ⟨b17, 0, none⟩)), (12, .int .i64 ((Z28 t s).2)), (13, .int .i64 (t.check)), (14, .int .i64 (t.check)), (15, .slice z.1 (Z28 t s).1.length z.2)], (b17, cel 27 (twl ztw (.slice none 0 0))) :: (b16, cel 93 (Z67 zst)) :: (b9, cel 27 (twl t (t.sl (some ⟨bo, 0, none⟩) co))) :: (b10, cel 96 (twl t (t.sl (some ⟨bx, ox, none⟩) cx))) :: (b5, cel 24 [.int .i64 s.stock, .int .i64 s.short, .int .i64 s.dry]) :: (b4, cel 27 (twl t (t.sl a c))) :: H, RowsA z.1 1 (Zh (Z28 t s).1) :: RowsA (some ⟨bx, ox, none⟩) 2 (Zf t.rats) :: RowsA (some ⟨bo, 0, none⟩) 2 (Zf t.rats) :: R⟩) ?_ ?_
      ·
       refine Z5 rfl (fun hc2 => ?_) (fun hc2 => ?_)
       ·
        refine Z1 [0, 1, 2, 3, 4] rfl ?_
        refine spL rfl rfl (lhA [_, _, _, _, _, _, _, _, _, _, _] Z0c rfl rfl rfl) rfl ?_
        refine spL rfl rfl (lhA [_, _, _] ZF rfl rfl rfl) rfl ?_
        refine cl rfl ZaE rfl rfl (Z2s t hok s bx ox cx _ _) ?_
        rintro _ _ _ ⟨oc, rfl, rfl, rfl⟩
        obtain ⟨ac, cc, hoc, hfc⟩ := oc.freeze
        rw [hoc]
        refine Sy.heap (fun w h => hfc h) ?_
        rw [show (Zh (Z4P t s)).length = (Z4P t s).length from List.length_map _]
        refine sp rfl (PE.assign rfl) rfl ?_
        refine sp rfl (PE.assign rfl) rfl ?_
        rw [show Z28 t s = (Z4P t s, 0) from by simp [Z28, hck, hc2]]
        exact ZG (ac, cc) (by repeat' first | exact Sub.nil | apply Sub.cons | rfl | (simp [lk]; omega)) (fun _ h => h)
       ·
        refine Z3 ?_
        rw [show Z28 t s = ([], 3) from by simp [Z28, hck, hc2]]
        exact ZG (none, 0) (by repeat' first | exact Sub.nil | apply Sub.cons | rfl | (simp [lk]; omega)) (fun _ h => St.norows h)
      ·
       rintro ⟨aa, ca⟩
       dsimp only
       refine Z0 ?_
       refine Z0 ?_
       refine Z1 [0, 1] rfl ?_
       refine sp rfl (PE.move rfl) rfl ?_
       refine sp rfl (PE.assign rfl) rfl ?_
       refine Z0 ?_
       refine Z1 [0, 1] rfl ?_
       refine sp rfl (PE.move rfl) rfl ?_
       refine sp rfl (PE.eql rfl rfl) rfl ?_
       refine Z0I (ι := Unit) (fun _ => ⟨[(2, .int .i64 r), (3, .bool bad), (4, .pointer (some ⟨b4, 0, none⟩)), (5, .pointer (some ⟨b5, 0, none⟩)), (9, .pointer (some ⟨b9, 0, none⟩)), (10, .pointer (some ⟨b10, 0, none⟩)), (11, .int .i64 t.check), (16, .pointer (some ⟨b16, 0, none⟩)), (17, .pointer (some ⟨b17, 0, none⟩)), (12, .int .i64 ((Z28 t s).2)), (13, .int .i64 ((Z0U t s r bad).2)), (14, .int .i64 (t.check)), (15, .slice aa (Z28 t s).1.length ca)], (b17, cel 27 (twl ztw (.slice none 0 0))) :: (b16, cel 93 (Z67 (Z0U t s r bad).1)) :: (b9, cel 27 (twl t (t.sl (some ⟨bo, 0, none⟩) co))) :: (b10, cel 96 (twl t (t.sl (some ⟨bx, ox, none⟩) cx))) :: (b5, cel 24 [.int .i64 s.stock, .int .i64 s.short, .int .i64 s.dry]) :: (b4, cel 27 (twl t (t.sl a c))) :: H, RowsA aa 1 (Zh (Z28 t s).1) :: RowsA (some ⟨bx, ox, none⟩) 2 (Zf t.rats) :: RowsA (some ⟨bo, 0, none⟩) 2 (Zf t.rats) :: R⟩) ?_ ?_
       ·
        refine Z5 rfl (fun hc3 => ?_) (fun hc3 => ?_)
        ·
         try simp only [decide_eq_true_eq, decide_eq_false_iff_not, Bool.and_eq_true, Bool.or_eq_true, Bool.not_eq_true', Int.not_le, Int.not_lt] at hc3
         have hrt := Za2 hck hc3
         refine Z1 [0, 1, 2, 3, 4, 5, 6, 7, 8, 9] rfl ?_
         refine spL rfl rfl (lhA [_, _, _, _, _, _, _, _, _, _, _] Z0c rfl rfl rfl) rfl ?_
         refine spL rfl rfl (lhA [_, _, _] ZF rfl rfl rfl) rfl ?_
         refine sp rfl (PE.move rfl) rfl ?_
         refine sp rfl (PE.move rfl) rfl ?_
         refine clV rfl ZaG rfl rfl (Z5r t hok s hrt r bad bx ox cx _ _) ?_
         refine sp rfl (PE.move rfl) rfl ?_
         refine sp rfl (PE.extract rfl rfl) rfl ?_
         refine sp rfl (PE.extract rfl rfl) rfl ?_
         refine sto rfl rfl rfl Z4R rfl rfl rfl rfl ?_
         refine sp rfl (PE.assign rfl) rfl ?_
         rw [show Z0U t s r bad = Z16 t s r bad from by simp [Z0U, hck, hrt]]
         exact ZG () (by repeat' first | exact Sub.nil | apply Sub.cons | rfl | (simp [lk]; omega)) (fun _ h => h)
        ·
         try simp only [decide_eq_true_eq, decide_eq_false_iff_not, Bool.and_eq_true, Bool.or_eq_true, Bool.not_eq_true', Int.not_le, Int.not_lt] at hc3
         obtain ⟨hrt, ha3⟩ := Zaq hck hc3
         refine Z3 ?_
         rw [show Z0U t s r bad = (zst, (Z28 t s).2) from by rw [ha3]; simp [Z0U, hck, hrt]]
         exact ZG () (by repeat' first | exact Sub.nil | apply Sub.cons | rfl | (simp [lk]; omega)) (fun _ h => h)
       ·
        rintro ⟨⟩
        dsimp only
        refine Z0 ?_
        refine Z1 [0] rfl ?_
        refine alc rfl Z6C rfl (fun b18 => ?_)
        refine Z0 ?_
        refine Z1 [0, 1, 2, 3, 4, 5, 6, 7, 8, 9, 10] rfl ?_
        refine spL rfl rfl (lhA [_, _, _, _, _, _, _, _, _, _, _] Z0c rfl rfl rfl) rfl ?_
        refine sp rfl (PE.fieldAddr Z1G rfl) rfl ?_
        refine spL rfl rfl (lhA [_, _, _] Z0w rfl rfl rfl) rfl ?_
        refine sp rfl (PE.move rfl) rfl ?_
        refine sp rfl (PE.move rfl) rfl ?_
        refine clV rfl ZaG rfl rfl (Z5r t hok t.now hok.now r bad bx ox cx _ _) ?_
        refine sp rfl (PE.move rfl) rfl ?_
        refine sp rfl (PE.extract rfl rfl) rfl ?_
        refine sp rfl (PE.extract rfl rfl) rfl ?_
        refine sto rfl rfl rfl Z4R rfl rfl rfl rfl ?_
        refine sp rfl (PE.assign rfl) rfl ?_
        refine Z0 ?_
        refine Z1 [0, 1] rfl ?_
        refine sp rfl (PE.move rfl) rfl ?_
        refine sp rfl (PE.eql rfl rfl) rfl ?_
        refine Z5 rfl (fun hc4 => ?_) (fun hc4 => ?_)
        ·
         try simp only [decide_eq_true_eq, decide_eq_false_iff_not, Bool.and_eq_true, Bool.or_eq_true, Bool.not_eq_true', Int.not_le, Int.not_lt] at hc4
         
         refine Z0 ?_
         refine Z1 [0, 1, 2] rfl ?_
         refine spL rfl rfl (lhA [_, _, _, _, _, _, _, _, _, _, _] Zd rfl rfl rfl) rfl ?_
         refine cl rfl Z0R rfl rfl (Z0Q t a c (by omega) _ _) ?_
         rintro _ _ _ ⟨bp, cp, rfl, rfl, rfl⟩
         refine sto rfl rfl rfl ZO rfl rfl rfl rfl ?_
         refine Z1 [0, 1, 2] rfl ?_
         refine spL rfl rfl (lhA [_, _, _] Z0w rfl rfl rfl) rfl ?_
         refine sp rfl (PE.fieldAddr Z0a rfl) rfl ?_
         refine sto rfl rfl rfl Z2O rfl rfl rfl rfl ?_
         rw [show Z0L t r bad = ({ t with now := (Z16 t t.now r bad).1 }, (Z16 t t.now r bad).2) from by rw [hc4]; simp [Z0L, hck, hc4]]
         exact ZG ((aa, ca), some ⟨bp, 0, none⟩, cp) (by repeat' first | exact Sub.nil | apply Sub.cons | rfl | (simp [lk]; omega)) (fun _ h => St.sub (h.del b18))
        ·
         try simp only [decide_eq_true_eq, decide_eq_false_iff_not, Bool.and_eq_true, Bool.or_eq_true, Bool.not_eq_true', Int.not_le, Int.not_lt] at hc4
         
         refine Z3 ?_
         rw [show Z0L t r bad = (ztw, (Z16 t t.now r bad).2) from by simp [Z0L, hck, hc4]]
         exact ZG ((aa, ca), none, 0) (by repeat' first | exact Sub.nil | apply Sub.cons | rfl | (simp [lk]; omega)) (fun _ h => St.swapf (St.norows (sz := 2) (h.del b18)))
     ·
      try simp only [decide_eq_true_eq, decide_eq_false_iff_not, Bool.and_eq_true, Bool.or_eq_true, Bool.not_eq_true', Int.not_le, Int.not_lt] at hc1
      have hck : t.check ≠ 0 := hc1
      refine Z3 ?_
      rw [show Z28 t s = ([], t.check) from by simp [Z28, hck], show Z0U t s r bad = (zst, t.check) from by simp [Z0U, hck], show Z0L t r bad = (ztw, t.check) from by simp [Z0L, hck]]
      exact ZG ((none, 0), none, 0) (by repeat' first | exact Sub.nil | apply Sub.cons | rfl | (simp [lk]; omega)) (fun _ h => St.norows (St.norows h))
    ·
     rintro ⟨⟨aa, ca⟩, am, cm⟩
     dsimp only
     refine Z0 ?_
     refine Z1 [0, 1, 2, 3, 4, 5, 6, 7] rfl ?_
     refine spL rfl rfl (lhA [_, _, _, _, _, _, _, _, _, _, _] Zd rfl rfl rfl) rfl ?_
     refine spL rfl rfl (lhA [_, _, _] ZF rfl rfl rfl) rfl ?_
     refine cl rfl ZeO rfl rfl (Z9o t s (by omega) bo 0 co _ _) ?_
     rintro _ _ _ ⟨oc, rfl, rfl, rfl⟩
     obtain ⟨ad, cd, hoc, hfc⟩ := oc.freeze
     rw [hoc]
     refine Sy.heap (fun w h => hfc h) ?_
     rw [show (Zh (Z28 t s).1).length = (Z28 t s).1.length from List.length_map _]
     refine sp rfl (PE.move rfl) rfl ?_
     refine sp rfl (PE.extract rfl rfl) rfl ?_
     refine sp rfl (PE.extract rfl rfl) rfl ?_
     refine sp rfl (PE.assign rfl) rfl ?_
     refine sp rfl (PE.assign rfl) rfl ?_
     refine Z0 ?_
     refine Z1 [0, 1, 2, 3, 4, 5, 6, 7, 8, 9, 10] rfl ?_
     refine spL rfl rfl (lhA [_, _, _, _, _, _, _, _, _, _, _] Zd rfl rfl rfl) rfl ?_
     refine spL rfl rfl (lhA [_, _, _] ZF rfl rfl rfl) rfl ?_
     refine sp rfl (PE.move rfl) rfl ?_
     refine sp rfl (PE.move rfl) rfl ?_
     refine clV rfl Zfg rfl rfl (ZdB t s r bad (by omega) bo 0 co _ _) ?_
     refine sp rfl (PE.move rfl) rfl ?_
     refine sp rfl (PE.extract rfl rfl) rfl ?_
     refine sp rfl (PE.extract rfl rfl) rfl ?_
     refine alc rfl Z2M rfl (fun b21 => ?_)
     refine sto rfl rfl rfl Z2O rfl rfl rfl rfl ?_
     refine sp rfl (PE.assign rfl) rfl ?_
     refine Z0 ?_
     refine Z1 [0, 1, 2, 3, 4, 5, 6, 7, 8, 9] rfl ?_
     refine spL rfl rfl (lhA [_, _, _, _, _, _, _, _, _, _, _] Zd rfl rfl rfl) rfl ?_
     refine sp rfl (PE.move rfl) rfl ?_
     refine sp rfl (PE.move rfl) rfl ?_
     refine cl rfl ZeZ rfl rfl (Ze0 t r bad (by omega) bo 0 co _ _) ?_
     rintro _ _ _ ⟨rfl, ⟨hrn, rfl, rfl⟩ | ⟨by_, cy, jy, rfl, rfl⟩⟩
     ·
      refine sp rfl (PE.move rfl) rfl ?_
      refine sp rfl (PE.extract rfl rfl) rfl ?_
      refine sp rfl (PE.extract rfl rfl) rfl ?_
      refine alc rfl Z04 rfl (fun b23 => ?_)
      refine sto rfl rfl rfl ZO rfl rfl rfl rfl ?_
      refine sp rfl (PE.assign rfl) rfl ?_
      refine Z0 ?_
      refine Z0 ?_
      refine Z1 [0, 1, 2, 3, 4, 5, 6, 7, 8, 9, 10, 11, 12, 13, 14, 15, 16, 17, 18, 19, 20, 21, 22, 23, 24, 25, 26, 27, 28, 29, 30, 31, 32, 33, 34, 35] rfl ?_
      refine Sy.heap (R' := RowsA none 2 (Zf (Z0L t r bad).1.rats) :: _) (fun w h => by rw [hrn]; exact St.norows h) ?_
      refine spL rfl rfl (lhA [_, _, _, _, _, _, _, _, _, _, _] Zd rfl rfl rfl) rfl ?_
      refine clV rfl ZaD rfl rfl (Z5m t _ _ (by omega) _ _) ?_
      refine sp rfl (PE.move rfl) rfl ?_
      refine sp rfl (PE.neq rfl rfl) rfl ?_
      refine sp rfl (PE.move rfl) rfl ?_
      refine Zg (t := 96) rfl (fun g96 => ?_) (fun g96 => ?_)
      ·
       exact absurd g96 (by first | (simp; done) | (simp_all; done))
      ·
       refine spG rfl rfl rfl rfl (PE.move rfl) rfl ?_
       refine spG rfl rfl rfl rfl (PE.move rfl) rfl ?_
       refine spG rfl rfl rfl rfl (PE.neq rfl rfl) rfl ?_
       refine sp rfl (PE.pick rfl rfl rfl) rfl ?_
       refine sp rfl (PE.move rfl) rfl ?_
       refine Zg (t := 101) rfl (fun g101 => ?_) (fun g101 => ?_)
       ·
        exact absurd g101 (by first | (simp; done) | (simp_all; done))
       ·
        refine spG rfl rfl rfl rfl (PE.move rfl) rfl ?_
        refine spG rfl rfl rfl rfl (PE.move rfl) rfl ?_
        refine spG rfl rfl rfl rfl (PE.neq rfl rfl) rfl ?_
        refine sp rfl (PE.pick rfl rfl rfl) rfl ?_
        refine sp rfl (PE.move rfl) rfl ?_
        refine Zg (t := 106) rfl (fun g106 => ?_) (fun g106 => ?_)
        ·
         exact absurd g106 (by first | (simp; done) | (simp_all; done))
        ·
         refine spG rfl rfl rfl rfl (PE.move rfl) rfl ?_
         refine spG rfl rfl rfl rfl (PE.move rfl) rfl ?_
         refine spG rfl rfl rfl rfl (PE.neq rfl rfl) rfl ?_
         refine sp rfl (PE.pick rfl rfl rfl) rfl ?_
         refine sp rfl (PE.move rfl) rfl ?_
         refine Zg (t := 111) rfl (fun g111 => ?_) (fun g111 => ?_)
         ·
          exact absurd g111 (by first | (simp; done) | (simp_all; done))
         ·
          refine spG rfl rfl rfl rfl (PE.move rfl) rfl ?_
          refine spG rfl rfl rfl rfl (PE.move rfl) rfl ?_
          refine Z0k rfl rfl rfl rfl Z4N rfl rfl (Z1a (Z28 t s).1 (Z28 t s).1 ad aa cd ca (by omega) (by omega) _ _) ?_
          refine spG rfl rfl rfl rfl (PE.not rfl) rfl ?_
          refine sp rfl (PE.pick rfl rfl rfl) rfl ?_
          refine sp rfl (PE.move rfl) rfl ?_
          refine Zg (t := 117) rfl (fun g117 => ?_) (fun g117 => ?_)
          ·
           exact absurd g117 (by first | (simp; done) | (simp_all; done))
          ·
           refine Z03 rfl rfl rfl rfl rfl (lhA [_, _, _] ZF rfl rfl rfl) rfl ?_
           refine Z03 rfl rfl rfl rfl rfl (lhA [_, _, _] Z0w rfl rfl rfl) rfl ?_
           refine spG rfl rfl rfl rfl (PE.neqAgg [(Z0U t s r bad).1.stock, (Z0U t s r bad).1.short, (Z0U t s r bad).1.dry] [(Z0U t s r bad).1.stock, (Z0U t s r bad).1.short, (Z0U t s r bad).1.dry] (Z13 10000 24 true 3 Z3S) Z8o rfl rfl rfl rfl) rfl ?_
           refine sp rfl (PE.pick rfl rfl rfl) rfl ?_
           refine sp rfl (PE.move rfl) rfl ?_
           refine Zg (t := 122) rfl (fun g122 => ?_) (fun g122 => ?_)
           ·
            exact absurd g122 (by first | (simp; done) | (simp_all; done))
           ·
            refine Z03 rfl rfl rfl rfl rfl (lhA [_, _, _, _, _, _, _, _, _, _, _] Zd rfl rfl rfl) rfl ?_
            refine Z03 rfl rfl rfl rfl rfl (lhA [_, _, _, _, _, _, _, _, _, _, _] Zd rfl rfl rfl) rfl ?_
            refine Z0k rfl rfl rfl rfl Z5i rfl rfl (Z38 (Z0L t r bad).1 (Z0L t r bad).1 (none) am 0 cm (by omega) (by omega) _ _) ?_
            refine spG rfl rfl rfl rfl (PE.not rfl) rfl ?_
            refine sp rfl (PE.pick rfl rfl rfl) rfl ?_
            refine Z5 rfl (fun hc5 => ?_) (fun hc5 => ?_)
            ·
             exact absurd hc5 (by simp)
            ·
             refine Z3 ?_
             refine Z0 ?_
             refine Z1 [0, 1, 2] rfl ?_
             refine sp rfl (PE.fieldAddr ZY rfl) rfl ?_
             refine spL rfl rfl (lh Z23 rfl rfl) rfl ?_
             refine ZfB rfl rfl ZcU rfl ?_
             refine Z0 ?_
             refine Z1 [0, 1, 2, 3, 4, 5, 6] rfl ?_
             refine spL rfl rfl (lhA [_, _, _, _, _, _, _, _, _, _, _] Zd rfl rfl rfl) rfl ?_
             refine spL rfl rfl (lhA [_, _, _, _, _, _, _, _, _, _, _] Zd rfl rfl rfl) rfl ?_
             refine clV rfl Z5i rfl rfl (Z38 t t _ a co c (by omega) (by omega) _ _) ?_
             refine sp rfl (PE.move rfl) rfl ?_
             refine Zg (t := 133) rfl (fun g133 => ?_) (fun g133 => ?_)
             ·
              refine Z0k rfl rfl rfl rfl Z1f rfl rfl (Z00 _ _) ?_
              refine sp rfl (PE.pick rfl rfl rfl) rfl ?_
              refine sp rfl (PE.assign rfl) rfl ?_
              refine Z4 ?_
              exact Z2 (vs := [_]) rfl (.cons (RV.tmp rfl) .nil) rfl ⟨rfl, rfl, rfl⟩ drp
             ·
              exact absurd g133 (by first | (simp; done) | (simp_all; done))
     ·
      refine sp rfl (PE.move rfl) rfl ?_
      refine sp rfl (PE.extract rfl rfl) rfl ?_
      refine sp rfl (PE.extract rfl rfl) rfl ?_
      refine alc rfl Z04 rfl (fun b23 => ?_)
      refine sto rfl rfl rfl ZO rfl rfl rfl rfl ?_
      refine sp rfl (PE.assign rfl) rfl ?_
      refine Z0 ?_
      refine Z0 ?_
      refine Z1 [0, 1, 2, 3, 4, 5, 6, 7, 8, 9, 10, 11, 12, 13, 14, 15, 16, 17, 18, 19, 20, 21, 22, 23, 24, 25, 26, 27, 28, 29, 30, 31, 32, 33, 34, 35] rfl ?_
      refine spL rfl rfl (lhA [_, _, _, _, _, _, _, _, _, _, _] Zd rfl rfl rfl) rfl ?_
      refine clV rfl ZaD rfl rfl (Z5m t _ _ (by omega) _ _) ?_
      refine sp rfl (PE.move rfl) rfl ?_
      refine sp rfl (PE.neq rfl rfl) rfl ?_
      refine sp rfl (PE.move rfl) rfl ?_
      refine Zg (t := 96) rfl (fun g96 => ?_) (fun g96 => ?_)
      ·
       exact absurd g96 (by first | (simp; done) | (simp_all; done))
      ·
       refine spG rfl rfl rfl rfl (PE.move rfl) rfl ?_
       refine spG rfl rfl rfl rfl (PE.move rfl) rfl ?_
       refine spG rfl rfl rfl rfl (PE.neq rfl rfl) rfl ?_
       refine sp rfl (PE.pick rfl rfl rfl) rfl ?_
       refine sp rfl (PE.move rfl) rfl ?_
       refine Zg (t := 101) rfl (fun g101 => ?_) (fun g101 => ?_)
       ·
        exact absurd g101 (by first | (simp; done) | (simp_all; done))
       ·
        refine spG rfl rfl rfl rfl (PE.move rfl) rfl ?_
        refine spG rfl rfl rfl rfl (PE.move rfl) rfl ?_
        refine spG rfl rfl rfl rfl (PE.neq rfl rfl) rfl ?_
        refine sp rfl (PE.pick rfl rfl rfl) rfl ?_
        refine sp rfl (PE.move rfl) rfl ?_
        refine Zg (t := 106) rfl (fun g106 => ?_) (fun g106 => ?_)
        ·
         exact absurd g106 (by first | (simp; done) | (simp_all; done))
        ·
         refine spG rfl rfl rfl rfl (PE.move rfl) rfl ?_
         refine spG rfl rfl rfl rfl (PE.move rfl) rfl ?_
         refine spG rfl rfl rfl rfl (PE.neq rfl rfl) rfl ?_
         refine sp rfl (PE.pick rfl rfl rfl) rfl ?_
         refine sp rfl (PE.move rfl) rfl ?_
         refine Zg (t := 111) rfl (fun g111 => ?_) (fun g111 => ?_)
         ·
          exact absurd g111 (by first | (simp; done) | (simp_all; done))
         ·
          refine spG rfl rfl rfl rfl (PE.move rfl) rfl ?_
          refine spG rfl rfl rfl rfl (PE.move rfl) rfl ?_
          refine Z0k rfl rfl rfl rfl Z4N rfl rfl (Z1a (Z28 t s).1 (Z28 t s).1 ad aa cd ca (by omega) (by omega) _ _) ?_
          refine spG rfl rfl rfl rfl (PE.not rfl) rfl ?_
          refine sp rfl (PE.pick rfl rfl rfl) rfl ?_
          refine sp rfl (PE.move rfl) rfl ?_
          refine Zg (t := 117) rfl (fun g117 => ?_) (fun g117 => ?_)
          ·
           exact absurd g117 (by first | (simp; done) | (simp_all; done))
          ·
           refine Z03 rfl rfl rfl rfl rfl (lhA [_, _, _] ZF rfl rfl rfl) rfl ?_
           refine Z03 rfl rfl rfl rfl rfl (lhA [_, _, _] Z0w rfl rfl rfl) rfl ?_
           refine spG rfl rfl rfl rfl (PE.neqAgg [(Z0U t s r bad).1.stock, (Z0U t s r bad).1.short, (Z0U t s r bad).1.dry] [(Z0U t s r bad).1.stock, (Z0U t s r bad).1.short, (Z0U t s r bad).1.dry] (Z13 10000 24 true 3 Z3S) Z8o rfl rfl rfl rfl) rfl ?_
           refine sp rfl (PE.pick rfl rfl rfl) rfl ?_
           refine sp rfl (PE.move rfl) rfl ?_
           refine Zg (t := 122) rfl (fun g122 => ?_) (fun g122 => ?_)
           ·
            exact absurd g122 (by first | (simp; done) | (simp_all; done))
           ·
            refine Z03 rfl rfl rfl rfl rfl (lhA [_, _, _, _, _, _, _, _, _, _, _] Zd rfl rfl rfl) rfl ?_
            refine Z03 rfl rfl rfl rfl rfl (lhA [_, _, _, _, _, _, _, _, _, _, _] Zd rfl rfl rfl) rfl ?_
            refine Z0k rfl rfl rfl rfl Z5i rfl rfl (FnV.lend (b := by_) (rows := Zf (Z0L t r bad).1.rats) (junk := jy) (Z6G _) (fun B => Z38 (Z0L t r bad).1 (Z0L t r bad).1 (some ⟨by_, 0, none⟩) am cy cm (by omega) (by omega) _ _)) ?_
            refine spG rfl rfl rfl rfl (PE.not rfl) rfl ?_
            refine sp rfl (PE.pick rfl rfl rfl) rfl ?_
            refine Z5 rfl (fun hc5 => ?_) (fun hc5 => ?_)
            ·
             exact absurd hc5 (by simp)
            ·
             refine Z3 ?_
             refine Z0 ?_
             refine Z1 [0, 1, 2] rfl ?_
             refine sp rfl (PE.fieldAddr ZY rfl) rfl ?_
             refine spL rfl rfl (lh Z23 rfl rfl) rfl ?_
             refine ZfM rfl rfl ZcU Z6P rfl rfl rfl (by rw [List.length_append, Z09 (Z6G _)]; simp [Zf]) ?_
             refine Z0 ?_
             refine Z1 [0, 1, 2, 3, 4, 5, 6] rfl ?_
             refine spL rfl rfl (lhA [_, _, _, _, _, _, _, _, _, _, _] Zd rfl rfl rfl) rfl ?_
             refine spL rfl rfl (lhA [_, _, _, _, _, _, _, _, _, _, _] Zd rfl rfl rfl) rfl ?_
             refine clV rfl Z5i rfl rfl (Z38 t t _ a co c (by omega) (by omega) _ _) ?_
             refine sp rfl (PE.move rfl) rfl ?_
             refine Zg (t := 133) rfl (fun g133 => ?_) (fun g133 => ?_)
             ·
              refine Z0k rfl rfl rfl rfl Z1f rfl rfl (Z00 _ _) ?_
              refine sp rfl (PE.pick rfl rfl rfl) rfl ?_
              refine sp rfl (PE.assign rfl) rfl ?_
              refine Z4 ?_
              exact Z2 (vs := [_]) rfl (.cons (RV.tmp rfl) .nil) rfl ⟨rfl, rfl, rfl⟩ drp
             ·
              exact absurd g133 (by first | (simp; done) | (simp_all; done))
theorem Zf9 : apT Tryz.prog 114 = some (24, 3, 24) := by kernel_rfl
theorem Zdq : arN Tryz.prog 151 = some (12, 3) := by kernel_rfl
theorem Z72 : Z6N Tryz.prog 47 = true := by kernel_rfl
theorem ZeQ : slE Tryz.prog 114 = some (24, 3) := by kernel_rfl
theorem Zfl : Z0n Tryz.prog 151 = some ([.int .i64 0, .int .i64 0, .int .i64 0, .int .i64 0, .int .i64 0, .int .i64 0, .int .i64 0, .int .i64 0, .int .i64 0, .int .i64 0, .int .i64 0, .int .i64 0, .int .i64 0, .int .i64 0, .int .i64 0, .int .i64 0, .int .i64 0, .int .i64 0, .int .i64 0, .int .i64 0, .int .i64 0, .int .i64 0, .int .i64 0, .int .i64 0, .int .i64 0, .int .i64 0, .int .i64 0, .int .i64 0, .int .i64 0, .int .i64 0, .int .i64 0, .int .i64 0, .int .i64 0, .int .i64 0, .int .i64 0, .int .i64 0]) := by kernel_rfl
def Z7v (ss : List Sta) (p : List Sta × Int) : List Sta × Int := bif decide (p.2 ≠ 0) then ([], p.2) else (ss ++ p.1, 0)
def Z1b (t : Twn) : Sta → List (Int × Bool) → List Sta × Int
  | _, [] => ([], 0)
  | s, (r, b) :: l => bif decide ((Z16 t s r b).2 ≠ 0) then ([], (Z16 t s r b).2) else Z7v [(Z16 t s r b).1] (Z1b t (Z16 t s r b).1 l)
def Z0B (t : Twn) (rs : List Int) (bs : List Bool) : List Sta × Int := bif decide (t.check ≠ 0) then ([], t.check) else bif decide (rs.length ≠ bs.length) then ([], 2) else bif decide (12 < rs.length) then ([], 2) else Z1b t t.now (rs.zip bs)
theorem ZaA {t : Twn} : ∀ {l : List (Int × Bool)} {s : Sta}, (Z1b t s l).2 ≠ 0 → (Z1b t s l).1 = []
  | [], s, h => rfl
  | (r, b) :: l, s, h => by
    unfold Z1b at h ⊢
    cases hc : decide ((Z16 t s r b).2 ≠ 0) with
    | true => rfl
    | false =>
      rw [hc] at h
      simp only [cond_false, Z7v] at h ⊢
      cases hd : decide ((Z1b t (Z16 t s r b).1 l).2 ≠ 0) with
      | true => rfl
      | false => rw [hd] at h; exact absurd rfl h
theorem Z7F {t : Twn} (l : List (Int × Bool)) (s : Sta) : Z7v [] (Z1b t s l) = Z1b t s l := by
  unfold Z7v
  by_cases h : (Z1b t s l).2 = 0
  · simp [h]; rw [← h]
  · simp only [ne_eq, h, not_false_eq_true, decide_true, cond_true]; rw [← ZaA h]
theorem Z4I {t : Twn} {ss : List Sta} {s : Sta} {r : Int} {b : Bool} {l : List (Int × Bool)} (h : (Z16 t s r b).2 = 0) : Z7v ss (Z1b t s ((r, b) :: l)) = Z7v (ss ++ [(Z16 t s r b).1]) (Z1b t (Z16 t s r b).1 l) := by
  rw [Z1b, decide_eq_false (by simp [h]), cond_false]
  unfold Z7v
  cases hd : decide ((Z1b t (Z16 t s r b).1 l).2 ≠ 0) with
  | true => simp only [cond_true]; rw [hd]; rfl
  | false => simp
theorem Z5O {t : Twn} {ss : List Sta} {s : Sta} {r : Int} {b : Bool} {l : List (Int × Bool)} (h : (Z16 t s r b).2 ≠ 0) : Z7v ss (Z1b t s ((r, b) :: l)) = ([], (Z16 t s r b).2) := by
  rw [Z1b, decide_eq_true h, cond_true]
  unfold Z7v
  rw [decide_eq_true h]; rfl
theorem Z7K {rs : List Int} {bs : List Bool} {k : Nat} {r : Int} {b : Bool} (hr : rs[k]? = some r) (hb : bs[k]? = some b) : (rs.zip bs).drop k = (r, b) :: (rs.zip bs).drop (k + 1) := Z40 (by rw [List.getElem?_zip_eq_some]; exact ⟨hr, hb⟩)
theorem Za5 {rs : List Int} {bs : List Bool} {k : Nat} (h : rs.length ≤ k) : (rs.zip bs).drop k = [] := List.drop_eq_nil_of_le (by rw [List.length_zip]; omega)
theorem Z7x {t : Twn} {rs : List Int} {bs : List Bool} (h0 : t.check = 0) (h1 : rs.length = bs.length) (h2 : rs.length ≤ 12) : Z0B t rs bs = Z1b t t.now (rs.zip bs) := by
  unfold Z0B; rw [decide_eq_false (show ¬ 12 < rs.length by omega)]; simp [h0, h1]
theorem Z3i {t : Twn} {rs : List Int} {bs : List Bool} (h0 : t.check = 0) (h1 : rs.length ≠ bs.length ∨ 12 < rs.length) : Z0B t rs bs = ([], 2) := by
  unfold Z0B
  by_cases h : rs.length = bs.length
  · rw [decide_eq_true (show 12 < rs.length by omega)]; simp [h0]
  · simp [h0, h]
theorem Z8a (l : List Sta) : ∀ q ∈ ZP l, q.length = 3 := fun q hq => by obtain ⟨x, _, rfl⟩ := List.mem_map.1 hq; rfl
theorem Z6B (l : List Sta) : (ZP l).flatten.length = l.length * 3 := by rw [Z09 (Z8a l)]; simp [ZP]
theorem ZcD (l : List Sta) (s : Sta) : (ZP (l ++ [s])).flatten = (ZP l).flatten ++ Z67 s := by simp [ZP]
theorem Z8f {ss : List Sta} {s : Sta} {k : Nat} (hk : ss.length = k) (h : k < 12) : spl ((ZP ss).flatten ++ List.replicate (36 - 3 * k) (Value.int .i64 0)) (0 + (k : Int).toNat * 3) (Z67 s) = (ZP (ss ++ [s])).flatten ++ List.replicate (36 - 3 * (k + 1)) (.int .i64 0) := by
  have e1 : 0 + (k : Int).toNat * 3 = (ZP ss).flatten.length := by rw [Z6B, hk]; simp
  unfold spl
  rw [e1, List.take_left, ZcD, ← List.drop_drop, List.drop_left, List.drop_replicate]
  rw [show 36 - 3 * k - (Z67 s).length = 36 - 3 * (k + 1) from by show 36 - 3 * k - 3 = _; omega]
theorem St.stas {b e : Nat} {l : List Sta} {junk : List Value} {H : Zj} {R : Z9} {w : World} (h : St ((b, cel e ((ZP l).flatten ++ junk)) :: H) R w) : St H (RowsA (some ⟨b, 0, none⟩) 3 (ZP l) :: R) w := St.rows h (Z8a l)
theorem St.norows3 {sz : Nat} {H : Zj} {R : Z9} {w : World} (h : St H R w) : St H (RowsA none sz [] :: R) w := St.also h (fun _ _ i row hi => by simp at hi)
theorem ZdL (l : List Sta) : (ZP l).flatten.all (·.oneCell') = true := List.all_eq_true.2 fun v hv => by
  obtain ⟨q, hq, h⟩ := List.mem_flatten.1 hv
  obtain ⟨x, _, rfl⟩ := List.mem_map.1 hq
  simp only [Z67, List.mem_cons, List.not_mem_nil, or_false] at h
  rcases h with rfl | rfl | rfl <;> rfl
theorem ZbW (t : Twn) (hck : t.check = 0) (rs : List Int) (bs : List Bool) (a a2 : Option Addr) (c c2 : Nat) (hl1 : rs.length ≤ 9223372036854775807) (hl2 : bs.length ≤ 9223372036854775807) (ba oa ca : Nat) (H : Zj) (R : Z9) [hR : MemRows (some ⟨ba, oa, none⟩) 2 (Zf t.rats) R] [hR1 : MemRows a 1 (Zh rs) R] [hR2 : MemRows a2 1 (ZM bs) R] :
    Fn Tryz.prog 54 [t.v (t.sl (some ⟨ba, oa, none⟩) ca), .slice a rs.length c, .slice a2 bs.length c2] H R (fun v H' R' => ∃ a' c', v = .tuple #[.slice a' (Z0B t rs bs).1.length c', .int .i64 (Z0B t rs bs).2] ∧ H' = H ∧ R' = RowsA a' 3 (ZP (Z0B t rs bs).1) :: R) := by
  have ht := (Zi hck).1
  refine Zq Tryz.func54 rfl Tryz.ntmps54 rfl ?_
  refine Z0 ?_
  refine Z1 [0, 1, 2] rfl ?_
  refine bx rfl rfl rfl (fun b3 => ?_)
  refine sp rfl (PE.assign rfl) rfl ?_
  refine sp rfl (PE.assign rfl) rfl ?_
  refine Z0 ?_
  refine Z0 ?_
  refine Z1 [0, 1, 2, 3, 4, 5, 6, 7, 8, 9] rfl ?_
  refine sp rfl (PE.move rfl) rfl ?_
  refine sp rfl (PE.lenSl Z0p rfl) rfl ?_
  refine sp rfl (PE.move rfl) rfl ?_
  refine sp rfl (PE.lenSl Z72 rfl) rfl ?_
  refine sp rfl (PE.neq rfl rfl) rfl ?_
  refine sp rfl (PE.move rfl) rfl ?_
  refine Zg (t := 18) rfl (fun g18 => ?_) (fun g18 => ?_)
  ·
   try simp only [decide_eq_true_eq, decide_eq_false_iff_not, Bool.and_eq_true, Bool.or_eq_true, Bool.not_eq_true', Int.not_le, Int.not_lt] at g18
   have e := Z3i hck (rs := rs) (bs := bs) (.inl (by omega))
   refine spN rfl rfl rfl rfl rfl rfl rfl rfl ?_
   refine spN rfl rfl rfl rfl rfl rfl rfl rfl ?_
   refine spN rfl rfl rfl rfl rfl rfl rfl rfl ?_
   refine sp rfl (PE.pick rfl rfl rfl) rfl ?_
   refine Zm rfl ?_
   refine Z0 ?_
   refine Z1 [0, 1] rfl ?_
   refine sp rfl (PE.assign rfl) rfl ?_
   refine sp rfl (PE.assign rfl) rfl ?_
   refine Z4 ?_
   first
     | (rw [e2]; exact Z2 (vs := [_, _]) rfl (.cons (RV.tmp rfl) (.cons (RV.tmp rfl) .nil)) rfl ⟨a', c', rfl, rfl, rfl⟩ (fun w h => (h.del b9).del b3))
     | (rw [e2]; exact Z2 (vs := [_, _]) rfl (.cons (RV.tmp rfl) (.cons (RV.tmp rfl) .nil)) rfl ⟨none, 0, rfl, rfl, rfl⟩ (fun w h => St.norows3 ((((h.del b11).del b9).del b3).drop)))
     | (rw [e]; exact Z2 (vs := [_, _]) rfl (.cons (RV.tmp rfl) (.cons (RV.tmp rfl) .nil)) rfl ⟨none, 0, rfl, rfl, rfl⟩ (fun w h => St.norows3 (h.del b3)))
  ·
   try simp only [decide_eq_true_eq, decide_eq_false_iff_not, Bool.and_eq_true, Bool.or_eq_true, Bool.not_eq_true', Int.not_le, Int.not_lt] at g18
   
   refine spG rfl rfl rfl rfl (PE.move rfl) rfl ?_
   refine spG rfl rfl rfl rfl (PE.lenSl Z0p rfl) rfl ?_
   refine spG rfl rfl rfl rfl (PE.gtr rfl rfl) rfl ?_
   refine sp rfl (PE.pick rfl rfl rfl) rfl ?_
   refine Z5 rfl (fun hc0 => ?_) (fun hc0 => ?_)
   ·
    try simp only [decide_eq_true_eq, decide_eq_false_iff_not, Bool.and_eq_true, Bool.or_eq_true, Bool.not_eq_true', Int.not_le, Int.not_lt] at hc0
    have e := Z3i hck (rs := rs) (bs := bs) (.inr (by omega))
    refine Z0 ?_
    refine Z1 [0, 1] rfl ?_
    refine sp rfl (PE.assign rfl) rfl ?_
    refine sp rfl (PE.assign rfl) rfl ?_
    refine Z4 ?_
    first
      | (rw [e2]; exact Z2 (vs := [_, _]) rfl (.cons (RV.tmp rfl) (.cons (RV.tmp rfl) .nil)) rfl ⟨a', c', rfl, rfl, rfl⟩ (fun w h => (h.del b9).del b3))
      | (rw [e2]; exact Z2 (vs := [_, _]) rfl (.cons (RV.tmp rfl) (.cons (RV.tmp rfl) .nil)) rfl ⟨none, 0, rfl, rfl, rfl⟩ (fun w h => St.norows3 ((((h.del b11).del b9).del b3).drop)))
      | (rw [e]; exact Z2 (vs := [_, _]) rfl (.cons (RV.tmp rfl) (.cons (RV.tmp rfl) .nil)) rfl ⟨none, 0, rfl, rfl, rfl⟩ (fun w h => St.norows3 (h.del b3)))
   ·
    try simp only [decide_eq_true_eq, decide_eq_false_iff_not, Bool.and_eq_true, Bool.or_eq_true, Bool.not_eq_true', Int.not_le, Int.not_lt] at hc0
    have e := Z7x hck (rs := rs) (bs := bs) (by omega) (by omega)
    refine Z3 ?_
    refine Z0 ?_
    refine Z1 [0] rfl ?_
    refine sp rfl (PE.assign rfl) rfl ?_
    refine Z0 ?_
    refine Z1 [0, 1, 2, 3] rfl ?_
    refine sp rfl (PE.fieldAddr Z1G rfl) rfl ?_
    refine spL rfl rfl (lhA [_, _, _] Z0w rfl rfl rfl) rfl ?_
    refine alc rfl Z6C rfl (fun b9 => ?_)
    refine sto rfl rfl rfl Z4R rfl rfl rfl rfl ?_
    refine Z0 ?_
    refine Z0 ?_
    refine Z1 [0] rfl ?_
    refine sp rfl (PE.assign rfl) rfl ?_
    refine Z7 ?_
    refine Zn (ι := (x : {x : Nat × List Sta × Sta // x.1 ≤ rs.length ∧ x.2.1.length = x.1 ∧ x.2.2.right t = true ∧ Z1b t t.now (rs.zip bs) = Z7v x.2.1 (Z1b t x.2.2 ((rs.zip bs).drop x.1))}) × OSl 93 3 (ZP x.1.2.1)) (fun x => ⟨[(1, .slice a rs.length c), (2, .slice a2 bs.length c2), (3, .pointer (some ⟨b3, 0, none⟩)), (8, x.2.fs), (9, .pointer (some ⟨b9, 0, none⟩)), (10, .int .i64 x.1.1.1)], x.2.G ++ (b9, cel 93 [.int .i64 x.1.1.2.2.stock, .int .i64 x.1.1.2.2.short, .int .i64 x.1.1.2.2.dry]) :: (b3, cel 96 (twl t (t.sl (some ⟨ba, oa, none⟩) ca))) :: H, R⟩) (fun x => rs.length - x.1.1.1) ⟨⟨(0, [], t.now), by omega, rfl, ht.now, (Z7F _ _).symm⟩, OSl.nil _ _⟩ ?_ (fun x => ?_)
    ·
     exact Z0i (by repeat' first | exact Sub.nil | apply Sub.cons | rfl | (simp [lk]; omega)) (fun _ h => h)
    ·
     obtain ⟨⟨⟨k, ss, s⟩, hk, hsl, hsr, hpl⟩, o'⟩ := x
     dsimp only at hk hsl hsr hpl o' ⊢
     refine Z0 ?_
     refine Z0 ?_
     refine Z1 [0, 1, 2, 3] rfl ?_
     refine sp rfl (PE.move rfl) rfl ?_
     refine sp rfl (PE.move rfl) rfl ?_
     refine sp rfl (PE.lenSl Z0p rfl) rfl ?_
     refine sp rfl (PE.lss rfl rfl) rfl ?_
     refine Z5 rfl (fun hc1 => ?_) (fun hc1 => ?_)
     ·
      try simp only [decide_eq_true_eq, decide_eq_false_iff_not, Bool.and_eq_true, Bool.or_eq_true, Bool.not_eq_true', Int.not_le, Int.not_lt] at hc1
      obtain ⟨r, hr⟩ : ∃ r, rs[k]? = some r := ⟨_, List.getElem?_eq_getElem (by omega)⟩
      obtain ⟨b, hb⟩ : ∃ b, bs[k]? = some b := ⟨_, List.getElem?_eq_getElem (by omega)⟩
      rw [Z7K hr hb] at hpl
      refine Zw (a := a) (sz := 1) (rows := Zh rs) (by intro h0; simp [Zh] at h0; simp [h0] at hr) (fun br or_ he => ?_)
      subst he
      refine Zw (a := a2) (sz := 1) (rows := ZM bs) (by intro h0; simp [ZM] at h0; simp [h0] at hb) (fun bb ob he => ?_)
      subst he
      refine Z3 ?_
      refine Z0 ?_
      refine Z7 ?_
      refine Z0 ?_
      refine Ze [0, 0, 0, 0, 12, 28, 0, 0, 192, 448, 1023, 2047, 4095, 4095, 0, 24575, 65535] (.ld 0 (.ld 1 (.tk 2 (.tk 3 (.tk 4 (.ld 5 (.tk 6 (.tk 7 (.tk 8 (.ld 9 (.any (.alt 10 (.tk 11 (.tk 12 (.tk 13 (.big 14 (.big 15 (.tk 16 .done)))))) (.alt 14 (.big 10 (.tk 11 (.tk 12 (.tk 13 (.big 15 (.tk 16 .done)))))) .stop))))))))))))) Zy (by kernel_rfl) ?_
      refine ld rfl rfl (lhA [_, _, _, _, _, _, _, _, _, _, _] Z0c rfl rfl rfl) rfl ?_
      refine ld rfl rfl (lhA [_, _, _] Z0w rfl rfl rfl) rfl ?_
      refine tk rfl (PE.move rfl) rfl ?_
      refine tk rfl (PE.move rfl) rfl ?_
      refine tk rfl (PE.indexAddr Z0N rfl rfl (by omega) (by omega)) rfl ?_
      refine ld rfl rfl (lf0 (x := .int .i64 r) sc3 (by simp [Zh, hr]; rfl) rfl) rfl ?_
      refine tk rfl (PE.move rfl) rfl ?_
      refine tk rfl (PE.move rfl) rfl ?_
      refine tk rfl (PE.indexAddr Z7E rfl rfl (by omega) (by omega)) rfl ?_
      refine ld rfl rfl (lf0 (x := .bool b) sc4 (Z4d hb) rfl) rfl ?_
      refine Z8 ?_ ?_
      ·
       refine clV rfl ZaG rfl rfl (Z5r t ht s hsr r b ba oa ca _ _) ?_
       refine bg (fun w hs => ⟨trivial, trivial, trivial, trivial, trivial⟩) ?_
       refine tk rfl (PE.move rfl) rfl ?_
       refine tk rfl (PE.extract rfl rfl) rfl ?_
       refine tk rfl (PE.extract rfl rfl) rfl ?_
       refine alc rfl Z6C rfl (fun b11 => ?_)
       refine bg (fun w hs => trivial) ?_
       refine sto rfl rfl rfl Z4R rfl rfl rfl rfl ?_
       refine bg (fun w hs => trivial) ?_
       refine tk rfl (PE.assign rfl) rfl ?_
       refine Z0 ?_
       refine Z0 ?_
       refine Z1 [0, 1] rfl ?_
       refine sp rfl (PE.move rfl) rfl ?_
       refine sp rfl (PE.neq rfl rfl) rfl ?_
       refine Z5 rfl (fun hc2 => ?_) (fun hc2 => ?_)
       ·
        try simp only [decide_eq_true_eq, decide_eq_false_iff_not, Bool.and_eq_true, Bool.or_eq_true, Bool.not_eq_true', Int.not_le, Int.not_lt] at hc2
        have e2 : Z0B t rs bs = ([], (Z16 t s r b).2) := by rw [e, hpl, Z5O hc2]
        refine Z0 ?_
        refine Z1 [0, 1, 2] rfl ?_
        refine sp rfl (PE.move rfl) rfl ?_
        refine sp rfl (PE.assign rfl) rfl ?_
        refine sp rfl (PE.assign rfl) rfl ?_
        refine Z4 ?_
        first
          | (rw [e2]; exact Z2 (vs := [_, _]) rfl (.cons (RV.tmp rfl) (.cons (RV.tmp rfl) .nil)) rfl ⟨a', c', rfl, rfl, rfl⟩ (fun w h => (h.del b9).del b3))
          | (rw [e2]; exact Z2 (vs := [_, _]) rfl (.cons (RV.tmp rfl) (.cons (RV.tmp rfl) .nil)) rfl ⟨none, 0, rfl, rfl, rfl⟩ (fun w h => St.norows3 ((((h.del b11).del b9).del b3).drop)))
          | (rw [e]; exact Z2 (vs := [_, _]) rfl (.cons (RV.tmp rfl) (.cons (RV.tmp rfl) .nil)) rfl ⟨none, 0, rfl, rfl, rfl⟩ (fun w h => St.norows3 (h.del b3)))
       ·
        try simp only [decide_eq_true_eq, decide_eq_false_iff_not, Bool.and_eq_true, Bool.or_eq_true, Bool.not_eq_true', Int.not_le, Int.not_lt] at hc2
        
        refine Z3 ?_
        refine Z0 ?_
        refine Z1 [0, 1] rfl ?_
        refine spL rfl rfl (lhA [_, _, _] Z0w rfl rfl rfl) rfl ?_
        refine sto rfl rfl rfl Z4R rfl rfl rfl rfl ?_
        refine Z1 [0, 1, 2, 3, 4] rfl ?_
        refine sp rfl (PE.move rfl) rfl ?_
        refine spL rfl rfl (lhA [_, _, _] Z0w rfl rfl rfl) rfl ?_
        refine bsl (out := [_, _, _]) rfl Zcj Z6C rfl rfl rfl rfl rfl rfl (fun b51 => ?_)
        refine apO (o') rfl ZbR rfl rfl (Z3e (row := Z67 (Z16 t s r b).1) rfl) rfl rfl ((by simp only [ZP, List.length_map, List.length_singleton]; omega)) rfl (fun o52 => ?_)
        refine sp rfl (PE.assign rfl) rfl ?_
        refine Z1 [0, 1, 2] rfl ?_
        refine sp rfl (PE.move rfl) rfl ?_
        refine sp rfl (PE.add rfl rfl (by omega)) rfl ?_
        refine sp rfl (PE.assign rfl) rfl ?_
        exact Zb ⟨⟨(k + 1, ss ++ [(Z16 t s r b).1], (Z16 t s r b).1), by omega, by simp [hsl], Z4C ht hsr (Decidable.not_not.1 hc2), by rw [hpl, Z4I (Decidable.not_not.1 hc2)]⟩, o52.cast (by simp [ZP])⟩ (by dsimp only; omega) (by repeat' first | exact Sub.nil | apply Sub.cons | rfl | (simp [lk]; omega)) (fun w h => (h.del b51).del b11)
      refine Z8 ?_ ?_
      ·
       refine alc rfl Z6C rfl (fun b11 => ?_)
       refine bg (fun w hs => ⟨(lf0 (x := .bool b) sc4 (Z4d hb) rfl) w hs, (lf0 (x := .int .i64 r) sc3 (by simp [Zh, hr]; rfl) rfl) w hs, (lhA [_, _, _] Z0w rfl rfl rfl) w hs, (lhA [_, _, _, _, _, _, _, _, _, _, _] Z0c rfl rfl rfl) w hs, trivial⟩) ?_
       refine clV rfl ZaG rfl rfl (Z5r t ht s hsr r b ba oa ca _ _) ?_
       refine bg (fun w hs => ⟨trivial, trivial, trivial, trivial, trivial⟩) ?_
       refine tk rfl (PE.move rfl) rfl ?_
       refine tk rfl (PE.extract rfl rfl) rfl ?_
       refine tk rfl (PE.extract rfl rfl) rfl ?_
       refine sto rfl rfl rfl Z4R rfl rfl rfl rfl ?_
       refine bg (fun w hs => trivial) ?_
       refine tk rfl (PE.assign rfl) rfl ?_
       refine Z0 ?_
       refine Z0 ?_
       refine Z1 [0, 1] rfl ?_
       refine sp rfl (PE.move rfl) rfl ?_
       refine sp rfl (PE.neq rfl rfl) rfl ?_
       refine Z5 rfl (fun hc2 => ?_) (fun hc2 => ?_)
       ·
        try simp only [decide_eq_true_eq, decide_eq_false_iff_not, Bool.and_eq_true, Bool.or_eq_true, Bool.not_eq_true', Int.not_le, Int.not_lt] at hc2
        have e2 : Z0B t rs bs = ([], (Z16 t s r b).2) := by rw [e, hpl, Z5O hc2]
        refine Z0 ?_
        refine Z1 [0, 1, 2] rfl ?_
        refine sp rfl (PE.move rfl) rfl ?_
        refine sp rfl (PE.assign rfl) rfl ?_
        refine sp rfl (PE.assign rfl) rfl ?_
        refine Z4 ?_
        first
          | (rw [e2]; exact Z2 (vs := [_, _]) rfl (.cons (RV.tmp rfl) (.cons (RV.tmp rfl) .nil)) rfl ⟨a', c', rfl, rfl, rfl⟩ (fun w h => (h.del b9).del b3))
          | (rw [e2]; exact Z2 (vs := [_, _]) rfl (.cons (RV.tmp rfl) (.cons (RV.tmp rfl) .nil)) rfl ⟨none, 0, rfl, rfl, rfl⟩ (fun w h => St.norows3 ((((h.del b11).del b9).del b3).drop)))
          | (rw [e]; exact Z2 (vs := [_, _]) rfl (.cons (RV.tmp rfl) (.cons (RV.tmp rfl) .nil)) rfl ⟨none, 0, rfl, rfl, rfl⟩ (fun w h => St.norows3 (h.del b3)))
       ·
        try simp only [decide_eq_true_eq, decide_eq_false_iff_not, Bool.and_eq_true, Bool.or_eq_true, Bool.not_eq_true', Int.not_le, Int.not_lt] at hc2
        
        refine Z3 ?_
        refine Z0 ?_
        refine Z1 [0, 1] rfl ?_
        refine spL rfl rfl (lhA [_, _, _] Z0w rfl rfl rfl) rfl ?_
        refine sto rfl rfl rfl Z4R rfl rfl rfl rfl ?_
        refine Z1 [0, 1, 2, 3, 4] rfl ?_
        refine sp rfl (PE.move rfl) rfl ?_
        refine spL rfl rfl (lhA [_, _, _] Z0w rfl rfl rfl) rfl ?_
        refine bsl (out := [_, _, _]) rfl Zcj Z6C rfl rfl rfl rfl rfl rfl (fun b51 => ?_)
        refine apO (o') rfl ZbR rfl rfl (Z3e (row := Z67 (Z16 t s r b).1) rfl) rfl rfl ((by simp only [ZP, List.length_map, List.length_singleton]; omega)) rfl (fun o52 => ?_)
        refine sp rfl (PE.assign rfl) rfl ?_
        refine Z1 [0, 1, 2] rfl ?_
        refine sp rfl (PE.move rfl) rfl ?_
        refine sp rfl (PE.add rfl rfl (by omega)) rfl ?_
        refine sp rfl (PE.assign rfl) rfl ?_
        exact Zb ⟨⟨(k + 1, ss ++ [(Z16 t s r b).1], (Z16 t s r b).1), by omega, by simp [hsl], Z4C ht hsr (Decidable.not_not.1 hc2), by rw [hpl, Z4I (Decidable.not_not.1 hc2)]⟩, o52.cast (by simp [ZP])⟩ (by dsimp only; omega) (by repeat' first | exact Sub.nil | apply Sub.cons | rfl | (simp [lk]; omega)) (fun w h => (h.del b51).del b11)
      exact Zc
     ·
      try simp only [decide_eq_true_eq, decide_eq_false_iff_not, Bool.and_eq_true, Bool.or_eq_true, Bool.not_eq_true', Int.not_le, Int.not_lt] at hc1
      obtain rfl : k = rs.length := by omega
      rw [Za5 (Nat.le_refl _)] at hpl
      have e2 : Z0B t rs bs = (ss, 0) := by rw [e, hpl]; simp [Z7v, Z1b]
      obtain ⟨a', c', ho, hf⟩ := o'.freeze
      rw [ho]
      refine Sy.heap (fun w h => hf h) ?_
      rw [show (ZP ss).length = ss.length from List.length_map _]
      refine Zk ?_
      refine Zl ?_
      refine Zl ?_
      refine ZH ?_
      refine Z0 ?_
      refine Z1 [0, 1, 2] rfl ?_
      refine sp rfl (PE.move rfl) rfl ?_
      refine sp rfl (PE.assign rfl) rfl ?_
      refine sp rfl (PE.assign rfl) rfl ?_
      refine Z4 ?_
      first
        | (rw [e2]; exact Z2 (vs := [_, _]) rfl (.cons (RV.tmp rfl) (.cons (RV.tmp rfl) .nil)) rfl ⟨a', c', rfl, rfl, rfl⟩ (fun w h => (h.del b9).del b3))
        | (rw [e2]; exact Z2 (vs := [_, _]) rfl (.cons (RV.tmp rfl) (.cons (RV.tmp rfl) .nil)) rfl ⟨none, 0, rfl, rfl, rfl⟩ (fun w h => St.norows3 ((((h.del b11).del b9).del b3).drop)))
        | (rw [e]; exact Z2 (vs := [_, _]) rfl (.cons (RV.tmp rfl) (.cons (RV.tmp rfl) .nil)) rfl ⟨none, 0, rfl, rfl, rfl⟩ (fun w h => St.norows3 (h.del b3)))
theorem Zdf (t : Twn) (hl : t.rats.length ≤ 9223372036854775807) (rs : List Int) (bs : List Bool) (a a2 : Option Addr) (c c2 : Nat) (hl1 : rs.length ≤ 9223372036854775807) (hl2 : bs.length ≤ 9223372036854775807) (ba oa ca : Nat) (H : Zj) (R : Z9) [hR : MemRows (some ⟨ba, oa, none⟩) 2 (Zf t.rats) R] [hR1 : MemRows a 1 (Zh rs) R] [hR2 : MemRows a2 1 (ZM bs) R] :
    Fn Tryz.prog 55 [t.v (t.sl (some ⟨ba, oa, none⟩) ca), .slice a rs.length c, .slice a2 bs.length c2] H R (fun v H' R' => ∃ a' c', v = .tuple #[.slice a' (Z0B t rs bs).1.length c', .int .i64 (Z0B t rs bs).2] ∧ H' = H ∧ R' = RowsA a' 3 (ZP (Z0B t rs bs).1) :: R) := by
  refine Zq Tryz.func55 rfl Tryz.ntmps55 rfl ?_
  refine Z0 ?_
  refine Z1 [0, 1, 2] rfl ?_
  refine bx rfl rfl rfl (fun b3 => ?_)
  refine sp rfl (PE.assign rfl) rfl ?_
  refine sp rfl (PE.assign rfl) rfl ?_
  refine Z0 ?_
  refine Z1 [0, 1, 2, 3, 4, 5, 6] rfl ?_
  refine spL rfl rfl (lhA [_, _, _, _, _, _, _, _, _, _, _] Zd rfl rfl rfl) rfl ?_
  refine cl rfl Z5w rfl rfl (Z1A t hl ba oa ca _ _) ?_
  rintro _ _ _ (⟨hck, rfl, rfl, rfl⟩ | ⟨hck, bw, m, bt, rfl, rfl, rfl⟩)
  ·
   refine sp rfl (PE.move rfl) rfl ?_
   refine sp rfl (PE.extract rfl rfl) rfl ?_
   refine sp rfl (PE.extract rfl rfl) rfl ?_
   refine sp rfl (PE.assign rfl) rfl ?_
   refine sp rfl (PE.assign rfl) rfl ?_
   refine Z0 ?_
   refine Z7 ?_
   refine Z0 ?_
   refine Z1 [0, 1, 2] rfl ?_
   refine sp rfl (PE.move rfl) rfl ?_
   refine sp rfl (PE.neq rfl rfl) rfl ?_
   refine sp rfl (PE.assign rfl) rfl ?_
   refine Zm (congrArg (fun b => some (Value.bool b)) (decide_eq_true hck)) ?_
   refine Z0 ?_
   refine Z1 [0, 1, 2] rfl ?_
   have e : Z0B t rs bs = ([], t.check) := by simp [Z0B, hck]
   refine sp rfl (PE.move rfl) rfl ?_
   refine sp rfl (PE.assign rfl) rfl ?_
   refine sp rfl (PE.assign rfl) rfl ?_
   refine Z4 ?_
   rw [e]
   exact Z2 (vs := [_, _]) rfl (.cons (RV.tmp rfl) (.cons (RV.tmp rfl) .nil)) rfl ⟨none, 0, rfl, rfl, rfl⟩ (fun w h => St.norows3 (h.del b3))
  ·
   refine sp rfl (PE.move rfl) rfl ?_
   refine sp rfl (PE.extract rfl rfl) rfl ?_
   refine sp rfl (PE.extract rfl rfl) rfl ?_
   refine sp rfl (PE.assign rfl) rfl ?_
   refine sp rfl (PE.assign rfl) rfl ?_
   refine Z0 ?_
   refine Z7 ?_
   refine Z0 ?_
   refine Z1 [0, 1, 2] rfl ?_
   refine sp rfl (PE.move rfl) rfl ?_
   refine sp rfl (PE.neq rfl rfl) rfl ?_
   refine sp rfl (PE.assign rfl) rfl ?_
   refine Zz (rfl) ?_
   refine Z0 ?_
   refine Z1 [0, 1, 2, 3, 4, 5, 6, 7, 8, 9, 10] rfl ?_
   have hok := (Zi hck).1
   refine sp rfl (PE.move rfl) rfl ?_
   refine sp rfl (PE.lenSl Z0p rfl) rfl ?_
   refine sp rfl (PE.move rfl) rfl ?_
   refine sp rfl (PE.lenSl Z72 rfl) rfl ?_
   refine sp rfl (PE.neq rfl rfl) rfl ?_
   refine sp rfl (PE.move rfl) rfl ?_
   refine Zg (t := 30) rfl (fun g30 => ?_) (fun g30 => ?_)
   ·
    try simp only [decide_eq_true_eq, decide_eq_false_iff_not, Bool.and_eq_true, Bool.or_eq_true, Bool.not_eq_true', Int.not_le, Int.not_lt] at g30
    have e := Z3i hck (rs := rs) (bs := bs) (.inl (by omega))
    refine spN rfl rfl rfl rfl rfl rfl rfl rfl ?_
    refine spN rfl rfl rfl rfl rfl rfl rfl rfl ?_
    refine spN rfl rfl rfl rfl rfl rfl rfl rfl ?_
    refine sp rfl (PE.pick rfl rfl rfl) rfl ?_
    refine sp rfl (PE.assign rfl) rfl ?_
    refine Zm rfl ?_
    refine Z0 ?_
    refine Z1 [0, 1] rfl ?_
    refine sp rfl (PE.assign rfl) rfl ?_
    refine sp rfl (PE.assign rfl) rfl ?_
    refine Z4 ?_
    first
      | (rw [e2]; exact Z2 (vs := [_, _]) rfl (.cons (RV.tmp rfl) (.cons (RV.tmp rfl) .nil)) rfl ⟨some ⟨b64, 0, none⟩, ss.length, rfl, rfl, rfl⟩ (fun w h => ((((h.del b11).del b10).del bw).del m).del b3 |> fun h => St.sub h))
      | (rw [e2]; exact Z2 (vs := [_, _]) rfl (.cons (RV.tmp rfl) (.cons (RV.tmp rfl) .nil)) rfl ⟨none, 0, rfl, rfl, rfl⟩ (fun w h => St.norows3 ((((((h.del b11).del b10).del bw).del m).del b3).ftail)))
      | (rw [e]; exact Z2 (vs := [_, _]) rfl (.cons (RV.tmp rfl) (.cons (RV.tmp rfl) .nil)) rfl ⟨none, 0, rfl, rfl, rfl⟩ (fun w h => St.norows3 ((((h.del bw).del m).del b3).ftail)))
   ·
    try simp only [decide_eq_true_eq, decide_eq_false_iff_not, Bool.and_eq_true, Bool.or_eq_true, Bool.not_eq_true', Int.not_le, Int.not_lt] at g30
    
    refine spG rfl rfl rfl rfl (PE.move rfl) rfl ?_
    refine spG rfl rfl rfl rfl (PE.lenSl Z0p rfl) rfl ?_
    refine spG rfl rfl rfl rfl (PE.gtr rfl rfl) rfl ?_
    refine sp rfl (PE.pick rfl rfl rfl) rfl ?_
    refine sp rfl (PE.assign rfl) rfl ?_
    refine Z5 rfl (fun hc1 => ?_) (fun hc1 => ?_)
    ·
     try simp only [decide_eq_true_eq, decide_eq_false_iff_not, Bool.and_eq_true, Bool.or_eq_true, Bool.not_eq_true', Int.not_le, Int.not_lt] at hc1
     have e := Z3i hck (rs := rs) (bs := bs) (.inr (by omega))
     refine Z0 ?_
     refine Z1 [0, 1] rfl ?_
     refine sp rfl (PE.assign rfl) rfl ?_
     refine sp rfl (PE.assign rfl) rfl ?_
     refine Z4 ?_
     first
       | (rw [e2]; exact Z2 (vs := [_, _]) rfl (.cons (RV.tmp rfl) (.cons (RV.tmp rfl) .nil)) rfl ⟨some ⟨b64, 0, none⟩, ss.length, rfl, rfl, rfl⟩ (fun w h => ((((h.del b11).del b10).del bw).del m).del b3 |> fun h => St.sub h))
       | (rw [e2]; exact Z2 (vs := [_, _]) rfl (.cons (RV.tmp rfl) (.cons (RV.tmp rfl) .nil)) rfl ⟨none, 0, rfl, rfl, rfl⟩ (fun w h => St.norows3 ((((((h.del b11).del b10).del bw).del m).del b3).ftail)))
       | (rw [e]; exact Z2 (vs := [_, _]) rfl (.cons (RV.tmp rfl) (.cons (RV.tmp rfl) .nil)) rfl ⟨none, 0, rfl, rfl, rfl⟩ (fun w h => St.norows3 ((((h.del bw).del m).del b3).ftail)))
    ·
     try simp only [decide_eq_true_eq, decide_eq_false_iff_not, Bool.and_eq_true, Bool.or_eq_true, Bool.not_eq_true', Int.not_le, Int.not_lt] at hc1
     have e := Z7x hck (rs := rs) (bs := bs) (by omega) (by omega)
     refine Z3 ?_
     refine Z0 ?_
     refine Z1 [0] rfl ?_
     refine alc rfl Zfl rfl (fun b10 => ?_)
     refine Z0 ?_
     refine Z1 [0, 1, 2, 3] rfl ?_
     refine sp rfl (PE.fieldAddr Z0a rfl) rfl ?_
     refine spL rfl rfl (lhA [_, _, _] ZF rfl rfl rfl) rfl ?_
     refine alc rfl Z2M rfl (fun b11 => ?_)
     refine sto rfl rfl rfl Z2O rfl rfl rfl rfl ?_
     refine Z0 ?_
     refine Z0 ?_
     refine Z1 [0, 1, 2] rfl ?_
     refine sp rfl (PE.move rfl) rfl ?_
     refine sp rfl (PE.lenSl Z0p rfl) rfl ?_
     refine sp rfl (PE.move rfl) rfl ?_
     refine Z7 ?_
     refine Zn (ι := {x : Nat × List Sta × Sta // x.1 ≤ rs.length ∧ x.2.1.length = x.1 ∧ x.2.2.right t = true ∧ Z1b t t.now (rs.zip bs) = Z7v x.2.1 (Z1b t x.2.2 ((rs.zip bs).drop x.1))}) (fun x => ⟨[(1, .slice a rs.length c), (2, .slice a2 bs.length c2), (8, .pointer (some ⟨bw, 0, none⟩)), (10, .pointer (some ⟨b10, 0, none⟩)), (11, .pointer (some ⟨b11, 0, none⟩)), (37, .slice a rs.length c), (38, .int .i64 rs.length), (39, .int .i64 x.1.1)], (b11, cel 24 [.int .i64 x.1.2.2.stock, .int .i64 x.1.2.2.short, .int .i64 x.1.2.2.dry]) :: (b10, cel 151 ((ZP x.1.2.1).flatten ++ List.replicate (36 - 3 * x.1.1) (Value.int .i64 0))) :: (bw, cel 62 (rcs t (t.sl (some ⟨ba, oa, none⟩) ca) bt (List.replicate 496 0) (.slice none 0 0) m)) :: (m, Z1j true []) :: (b3, cel 27 (twl t (t.sl (some ⟨ba, oa, none⟩) ca))) :: H, RowsA (some ⟨bt, 0, none⟩) 11 [twl t (t.sl (some ⟨ba, oa, none⟩) ca)] :: R⟩) (fun x => rs.length - x.1.1) ⟨(0, [], t.now), by omega, rfl, hok.now, (Z7F _ _).symm⟩ ?_ (fun x => ?_)
     ·
      exact Z0i (by repeat' first | exact Sub.nil | apply Sub.cons | rfl | (simp [lk]; omega)) (fun _ h => h)
     ·
      obtain ⟨⟨k, ss, s⟩, hk, hsl, hsr, hpl⟩ := x
      dsimp only at hk hsl hsr hpl ⊢
      have ht := hok
      refine Z0 ?_
      refine Z1 [0] rfl ?_
      refine sp rfl (PE.lss rfl rfl) rfl ?_
      refine Z0 ?_
      refine Z5 rfl (fun hc2 => ?_) (fun hc2 => ?_)
      ·
       try simp only [decide_eq_true_eq, decide_eq_false_iff_not, Bool.and_eq_true, Bool.or_eq_true, Bool.not_eq_true', Int.not_le, Int.not_lt] at hc2
       obtain ⟨r, hr⟩ : ∃ r, rs[k]? = some r := ⟨_, List.getElem?_eq_getElem (by omega)⟩
       obtain ⟨b, hb⟩ : ∃ b, bs[k]? = some b := ⟨_, List.getElem?_eq_getElem (by omega)⟩
       rw [Z7K hr hb] at hpl
       refine Zw (a := a) (sz := 1) (rows := Zh rs) (by intro h0; simp [Zh] at h0; simp [h0] at hr) (fun br or_ he => ?_)
       subst he
       refine Zw (a := a2) (sz := 1) (rows := ZM bs) (by intro h0; simp [ZM] at h0; simp [h0] at hb) (fun bb ob he => ?_)
       subst he
       refine Z3 ?_
       refine Z0 ?_
       refine Z7 ?_
       refine Z0 ?_
       refine Z1 [0, 1, 2, 3, 4] rfl ?_
       refine sp rfl (PE.move rfl) rfl ?_
       refine sp rfl (PE.indexAddr Z0N rfl rfl (by omega) (by omega)) rfl ?_
       refine spL rfl rfl (lf0 (x := .int .i64 r) sc3 (by simp [Zh, hr]; rfl) rfl) rfl ?_
       refine sp rfl (PE.assign rfl) rfl ?_
       refine sp rfl (PE.assign rfl) rfl ?_
       refine Z0 ?_
       refine Z0 ?_
       refine Ze [0, 0, 0, 0, 0, 24, 56, 127, 255, 511, 511, 1023, 4095] (.tk 0 (.ld 1 (.tk 2 (.tk 3 (.tk 4 (.tk 5 (.ld 6 (.big 7 (.tk 8 (.tk 9 (.tk 10 (.big 11 (.tk 12 .done))))))))))))) Zy (by kernel_rfl) ?_
       refine tk rfl (PE.move rfl) rfl ?_
       refine ld rfl rfl (lhA [_, _, _] ZF rfl rfl rfl) rfl ?_
       refine tk rfl (PE.move rfl) rfl ?_
       refine tk rfl (PE.move rfl) rfl ?_
       refine tk rfl (PE.move rfl) rfl ?_
       refine tk rfl (PE.indexAddr Z7E rfl rfl (by omega) (by omega)) rfl ?_
       refine ld rfl rfl (lf0 (x := .bool b) sc4 (Z4d hb) rfl) rfl ?_
       refine cl rfl Zc0 rfl rfl (Z9Y t hok s hsr r b ba oa ca bt bw m _ _ _ _) ?_
       rintro _ _ _ ⟨rfl, rfl, rfl⟩
       refine bg (fun w hs => ⟨trivial, trivial, trivial⟩) ?_
       refine tk rfl (PE.move rfl) rfl ?_
       refine tk rfl (PE.extract rfl rfl) rfl ?_
       refine tk rfl (PE.extract rfl rfl) rfl ?_
       refine sto rfl rfl rfl Z2O rfl rfl rfl rfl ?_
       refine bg (fun w hs => trivial) ?_
       refine tk rfl (PE.assign rfl) rfl ?_
       refine Z0 ?_
       refine Z1 [0, 1] rfl ?_
       refine sp rfl (PE.move rfl) rfl ?_
       refine sp rfl (PE.neq rfl rfl) rfl ?_
       refine Z5 rfl (fun hc3 => ?_) (fun hc3 => ?_)
       ·
        try simp only [decide_eq_true_eq, decide_eq_false_iff_not, Bool.and_eq_true, Bool.or_eq_true, Bool.not_eq_true', Int.not_le, Int.not_lt] at hc3
        have e2 : Z0B t rs bs = ([], (Z16 t s r b).2) := by rw [e, hpl, Z5O hc3]
        refine Z0 ?_
        refine Z1 [0, 1, 2] rfl ?_
        refine sp rfl (PE.move rfl) rfl ?_
        refine sp rfl (PE.assign rfl) rfl ?_
        refine sp rfl (PE.assign rfl) rfl ?_
        refine Z4 ?_
        first
          | (rw [e2]; exact Z2 (vs := [_, _]) rfl (.cons (RV.tmp rfl) (.cons (RV.tmp rfl) .nil)) rfl ⟨some ⟨b64, 0, none⟩, ss.length, rfl, rfl, rfl⟩ (fun w h => ((((h.del b11).del b10).del bw).del m).del b3 |> fun h => St.sub h))
          | (rw [e2]; exact Z2 (vs := [_, _]) rfl (.cons (RV.tmp rfl) (.cons (RV.tmp rfl) .nil)) rfl ⟨none, 0, rfl, rfl, rfl⟩ (fun w h => St.norows3 ((((((h.del b11).del b10).del bw).del m).del b3).ftail)))
          | (rw [e]; exact Z2 (vs := [_, _]) rfl (.cons (RV.tmp rfl) (.cons (RV.tmp rfl) .nil)) rfl ⟨none, 0, rfl, rfl, rfl⟩ (fun w h => St.norows3 ((((h.del bw).del m).del b3).ftail)))
       ·
        try simp only [decide_eq_true_eq, decide_eq_false_iff_not, Bool.and_eq_true, Bool.or_eq_true, Bool.not_eq_true', Int.not_le, Int.not_lt] at hc3
        
        refine Z3 ?_
        refine Z1 [0, 1, 2, 3] rfl ?_
        refine sp rfl (PE.move rfl) rfl ?_
        refine spL rfl rfl (lhA [_, _, _] ZF rfl rfl rfl) rfl ?_
        refine sp rfl (PE.indexArr Zdq rfl rfl (by omega) (by omega)) rfl ?_
        refine Z2R (l' := (ZP (ss ++ [(Z16 t s r b).1])).flatten ++ List.replicate (36 - 3 * (k + 1)) (Value.int .i64 0)) rfl rfl rfl Z2O rfl rfl rfl (Z8f hsl (by omega)) (by rw [List.length_append, Z6B, hsl, List.length_replicate]; show 0 + ((k : Nat) : Int).toNat * 3 + 3 ≤ _; omega) ?_
        refine Z1 [0, 1] rfl ?_
        refine sp rfl (PE.add rfl rfl (by omega)) rfl ?_
        refine sp rfl (PE.move rfl) rfl ?_
        exact Zb ⟨(k + 1, ss ++ [(Z16 t s r b).1], (Z16 t s r b).1), by omega, by simp [hsl], Z4C ht hsr (Decidable.not_not.1 hc3), by rw [hpl, Z4I (Decidable.not_not.1 hc3)]⟩ (by dsimp only; omega) (by repeat' first | exact Sub.nil | apply Sub.cons | rfl | (simp [lk]; omega)) (fun _ h => h)
      ·
       try simp only [decide_eq_true_eq, decide_eq_false_iff_not, Bool.and_eq_true, Bool.or_eq_true, Bool.not_eq_true', Int.not_le, Int.not_lt] at hc2
       obtain rfl : k = rs.length := by omega
       rw [Za5 (Nat.le_refl _)] at hpl
       have e2 : Z0B t rs bs = (ss, 0) := by rw [e, hpl]; simp [Z7v, Z1b]
       refine Zk ?_
       refine Zl ?_
       refine Zl ?_
       refine ZH ?_
       refine Z0 ?_
       refine Z1 [0, 1, 2, 3] rfl ?_
       refine sp rfl (PE.move rfl) rfl ?_
       refine sp rfl (PE.lenSl Z0p rfl) rfl ?_
       refine mkS rfl Zf9 Z2M rfl rfl (Nat.le_refl _) ⟨by omega, by omega⟩ rfl (fun b64 => ?_)
       refine sp rfl (PE.assign rfl) rfl ?_
       refine Z0 ?_
       refine Z1 [0, 1, 2] rfl ?_
       refine sp rfl (PE.move rfl) rfl ?_
       refine sp rfl (PE.slArr Zdq rfl) rfl ?_
       refine cpy ((ZP ss).flatten) rfl ZeQ rfl rfl (by rw [Z6B, hsl]; show _ = min 12 rs.length * 3; rw [Nat.min_eq_right (by omega)]) (fun w hs j v hj => ?_) (ZdL ss) (by rw [Z6B, hsl, ← Z2e, Z09 (sz := 3) (fun q hq => by rw [(List.mem_replicate.1 hq).2]; rfl)]; simp) rfl ?_
       · have hb := hs.held (b10, _) (Mem1.mem (b := b10))
         rw [Nat.zero_add, Z2h hb, List.getElem?_toArray, List.getElem?_append_left (List.getElem?_eq_some_iff.1 hj).1]
         exact hj
       rw [show spl (Z2b rs.length [Value.int .i64 0, .int .i64 0, .int .i64 0]) 0 (ZP ss).flatten = (ZP ss).flatten ++ [] from by
         unfold spl
         rw [List.take_zero, List.nil_append, List.drop_eq_nil_of_le]
         rw [Z6B, hsl, ← Z2e, Z09 (sz := 3) (fun q hq => by rw [(List.mem_replicate.1 hq).2]; rfl)]; simp]
       refine Z0X b64 ?_
       refine Sy.heap (fun w h => St.stas h) ?_
       rw [← hsl]
       refine Z0 ?_
       refine Z1 [0, 1, 2] rfl ?_
       refine sp rfl (PE.move rfl) rfl ?_
       refine sp rfl (PE.assign rfl) rfl ?_
       refine sp rfl (PE.assign rfl) rfl ?_
       refine Z4 ?_
       first
         | (rw [e2]; exact Z2 (vs := [_, _]) rfl (.cons (RV.tmp rfl) (.cons (RV.tmp rfl) .nil)) rfl ⟨some ⟨b64, 0, none⟩, ss.length, rfl, rfl, rfl⟩ (fun w h => ((((h.del b11).del b10).del bw).del m).del b3 |> fun h => St.sub h))
         | (rw [e2]; exact Z2 (vs := [_, _]) rfl (.cons (RV.tmp rfl) (.cons (RV.tmp rfl) .nil)) rfl ⟨none, 0, rfl, rfl, rfl⟩ (fun w h => St.norows3 ((((((h.del b11).del b10).del bw).del m).del b3).ftail)))
         | (rw [e]; exact Z2 (vs := [_, _]) rfl (.cons (RV.tmp rfl) (.cons (RV.tmp rfl) .nil)) rfl ⟨none, 0, rfl, rfl, rfl⟩ (fun w h => St.norows3 ((((h.del bw).del m).del b3).ftail)))
theorem Z20 : cal Tryz.prog 53 = true := by kernel_rfl
theorem Zen : cal Tryz.prog 54 = true := by kernel_rfl
theorem Zfu : cal Tryz.prog 55 = true := by kernel_rfl
theorem Zft : cal Tryz.prog 56 = true := by kernel_rfl
theorem Zfp : cal Tryz.prog 94 = true := by kernel_rfl
theorem ZeG : elN Tryz.prog 114 = some 3 := by kernel_rfl
theorem ZbK : Z6N Tryz.prog 114 = true := by kernel_rfl
theorem Z91 (xs ys : List Bool) (a a2 : Option Addr) (c c2 : Nat) (hl : xs.length ≤ 9223372036854775807) (hl2 : ys.length ≤ 9223372036854775807) (H : Zj) (R : Z9) [hR : MemRows a 1 (ZM xs) R] [hR2 : MemRows a2 1 (ZM ys) R] :
    FnV Tryz.prog 94 [.slice a xs.length c, .slice a2 ys.length c2] H R (.bool (decide (xs = ys))) := by
  refine Zq Tryz.func94 rfl Tryz.ntmps94 rfl ?_
  refine Z0 ?_
  refine Z1 [0] rfl ?_
  refine sp rfl (PE.assign rfl) rfl ?_
  refine Z0 ?_
  refine Z0 ?_
  refine Z1 [0, 1, 2, 3, 4] rfl ?_
  refine sp rfl (PE.move rfl) rfl ?_
  refine sp rfl (PE.lenSl Z72 rfl) rfl ?_
  refine sp rfl (PE.move rfl) rfl ?_
  refine sp rfl (PE.lenSl Z72 rfl) rfl ?_
  refine sp rfl (PE.neq rfl rfl) rfl ?_
  refine Z5 rfl (fun hc0 => ?_) (fun hc0 => ?_)
  ·
   have hne : xs ≠ ys := fun e => by subst e; simp at hc0
   refine Z0 ?_
   refine Z1 [0] rfl ?_
   refine sp rfl (PE.assign rfl) rfl ?_
   refine Z4 ?_
   exact Z2 (vs := [_]) rfl (.cons (RV.tmp rfl) .nil) rfl ⟨by first | (simp only [ZL]; rw [decide_eq_true heq]; done) | (simp only [ZL]; rw [decide_eq_false hne]), rfl, rfl⟩ (fun _ h => h)
  ·
   have hle : xs.length = ys.length := by simp only [decide_eq_true_eq, decide_eq_false_iff_not, Bool.and_eq_true, Bool.or_eq_true, Bool.not_eq_true', Int.not_le, Int.not_lt] at hc0; omega
   refine Z3 ?_
   refine Z0 ?_
   refine Z0 ?_
   refine Z1 [0, 1, 2] rfl ?_
   refine sp rfl (PE.move rfl) rfl ?_
   refine sp rfl (PE.lenSl Z72 rfl) rfl ?_
   refine sp rfl (PE.move rfl) rfl ?_
   refine Z7 ?_
   refine Zn (ι := {k : Nat // k ≤ xs.length ∧ xs.take k = ys.take k}) (fun k => ⟨[(0, .slice a xs.length c), (1, .slice a2 ys.length c2), (12, .int .i64 xs.length), (13, .int .i64 k.1)], H, R⟩) (fun k => xs.length - k.1) ⟨0, by simp⟩ ?_ (fun k => ?_)
   ·
    exact Z0i (by repeat' first | exact Sub.nil | apply Sub.cons | rfl | (simp [lk]; omega)) (fun _ h => h)
   ·
    obtain ⟨k, hk, hn⟩ := k
    dsimp only
    refine Z0 ?_
    refine Z1 [0] rfl ?_
    refine sp rfl (PE.lss rfl rfl) rfl ?_
    refine Z0 ?_
    refine Z5 rfl (fun hc1 => ?_) (fun hc1 => ?_)
    ·
     try simp only [decide_eq_true_eq, decide_eq_false_iff_not, Bool.and_eq_true, Bool.or_eq_true, Bool.not_eq_true', Int.not_le, Int.not_lt] at hc1
     obtain ⟨x, hx⟩ : ∃ x, xs[k]? = some x := ⟨_, List.getElem?_eq_getElem (by omega)⟩
     obtain ⟨z, hz⟩ : ∃ z, ys[k]? = some z := ⟨_, List.getElem?_eq_getElem (by omega)⟩
     refine Zw (a := a) (sz := 1) (rows := ZM xs) (by intro h0; simp [ZM] at h0; simp [h0] at hx) (fun b off he => ?_)
     subst he
     refine Zw (a := a2) (sz := 1) (rows := ZM ys) (by intro h0; simp [ZM] at h0; simp [h0] at hz) (fun b2 off2 he => ?_)
     subst he
     refine Z3 ?_
     refine Z0 ?_
     refine Z7 ?_
     refine Z0 ?_
     refine Z1 [0, 1] rfl ?_
     refine sp rfl (PE.move rfl) rfl ?_
     refine sp rfl (PE.assign rfl) rfl ?_
     refine Z0 ?_
     refine Ze [0, 0, 3, 7, 0, 0, 48, 112, 255] (.tk 0 (.tk 1 (.tk 2 (.ld 3 (.tk 4 (.tk 5 (.tk 6 (.ld 7 (.tk 8 .done))))))))) Zy (by kernel_rfl) ?_
     refine tk rfl (PE.move rfl) rfl ?_
     refine tk rfl (PE.move rfl) rfl ?_
     refine tk rfl (PE.indexAddr Z7E rfl rfl (by omega) (by omega)) rfl ?_
     refine ld rfl rfl (lf0 (x := .bool x) sc4 (Z4d hx) rfl) rfl ?_
     refine tk rfl (PE.move rfl) rfl ?_
     refine tk rfl (PE.move rfl) rfl ?_
     refine tk rfl (PE.indexAddr Z7E rfl rfl (by omega) (by omega)) rfl ?_
     refine ld rfl rfl (lf0 (x := .bool z) sc4 (Z4d hz) rfl) rfl ?_
     refine tk rfl (PE.neqBool ub4 rfl rfl) rfl ?_
     refine Z5 rfl (fun hc2 => ?_) (fun hc2 => ?_)
     ·
      have hne : xs ≠ ys := fun e => by subst e; rw [hx] at hz; cases hz; simp at hc2
      refine Z0 ?_
      refine Z1 [0] rfl ?_
      refine sp rfl (PE.assign rfl) rfl ?_
      refine Z4 ?_
      exact Z2 (vs := [_]) rfl (.cons (RV.tmp rfl) .nil) rfl ⟨by first | (simp only [ZL]; rw [decide_eq_true heq]; done) | (simp only [ZL]; rw [decide_eq_false hne]), rfl, rfl⟩ (fun _ h => h)
     ·
      have hxz : x = z := by simpa using hc2
      refine Z3 ?_
      refine Z1 [0, 1] rfl ?_
      refine sp rfl (PE.add rfl rfl (by omega)) rfl ?_
      refine sp rfl (PE.move rfl) rfl ?_
      exact Zb ⟨k + 1, by omega, by rw [List.take_add_one, List.take_add_one, hn, hx, hz, hxz]⟩ (by dsimp only; omega) (by repeat' first | exact Sub.nil | apply Sub.cons | rfl | (simp [lk]; omega)) (fun _ h => h)
    ·
     try simp only [decide_eq_true_eq, decide_eq_false_iff_not, Bool.and_eq_true, Bool.or_eq_true, Bool.not_eq_true', Int.not_le, Int.not_lt] at hc1
     obtain rfl : k = xs.length := by omega
     have heq : xs = ys := by
       rw [List.take_length] at hn
       exact hn.trans (by rw [hle]; exact List.take_length)
     refine Zk ?_
     refine Zl ?_
     refine Zl ?_
     refine ZH ?_
     refine Z0 ?_
     refine Z1 [0] rfl ?_
     refine sp rfl (PE.assign rfl) rfl ?_
     refine Z4 ?_
     exact Z2 (vs := [_]) rfl (.cons (RV.tmp rfl) .nil) rfl ⟨by first | (simp only [ZL]; rw [decide_eq_true heq]; done) | (simp only [ZL]; rw [decide_eq_false hne]), rfl, rfl⟩ (fun _ h => h)
theorem Za8 (xs ys : List Bool) (a a2 : Option Addr) (c c2 : Nat) (hl : xs.length ≤ 9223372036854775807) (hl2 : ys.length ≤ 9223372036854775807) (H : Zj) (R : Z9) [hR : MemRows a 1 (ZM xs) R] [hR2 : MemRows a2 1 (ZM ys) R] :
    FnV Tryz.prog 56 [.slice a xs.length c, .slice a2 ys.length c2] H R (.bool (decide (xs = ys))) := by
  refine Zq Tryz.func56 rfl Tryz.ntmps56 rfl ?_
  refine Z0 ?_
  refine Z1 [0] rfl ?_
  refine sp rfl (PE.assign rfl) rfl ?_
  refine Z0 ?_
  refine Z1 [0, 1, 2, 3] rfl ?_
  refine sp rfl (PE.move rfl) rfl ?_
  refine sp rfl (PE.move rfl) rfl ?_
  refine clV rfl Zfp rfl rfl (Z91 xs ys a a2 c c2 hl hl2 _ _) ?_
  refine sp rfl (PE.assign rfl) rfl ?_
  refine Z4 ?_
  exact Z2 (vs := [_]) rfl (.cons (RV.tmp rfl) .nil) rfl ⟨rfl, rfl, rfl⟩ drp
theorem ZK (xs : List Bool) (a : Option Addr) (c : Nat) (hl : xs.length ≤ 1000000) (H : Zj) (R : Z9) [hR : MemRows a 1 (ZM xs) R] :
    Fn Tryz.prog 53 [.slice a xs.length c] H R (fun v H' R' => ∃ o : OSl 4 1 (ZM xs), v = o.fs ∧ o.here ∧ H' = o.G ++ H ∧ R' = R) := by
  refine Zq Tryz.func53 rfl Tryz.ntmps53 rfl ?_
  refine Z0 ?_
  refine Z1 [0] rfl ?_
  refine sp rfl (PE.assign rfl) rfl ?_
  refine Z0 ?_
  refine Z1 [0, 1, 2, 3, 4, 5] rfl ?_
  refine sp rfl (PE.move rfl) rfl ?_
  refine sp rfl (PE.lenSl Z72 rfl) rfl ?_
  refine mkO rfl Z57 zl4 rfl rfl ⟨by omega, by omega⟩ rfl (fun o ho => ?_)
  refine sp rfl (PE.move rfl) rfl ?_
  refine Zbg (news := ZM xs) o rfl Z57 rfl rfl (Z6F) (by simp [ZM]) (by simp [Z0C, ZM, Zdz, Value.oneCell']) ⟨by simp [ZM]; omega, by simp [ZM]; omega⟩ rfl ho (fun o2 ho2 => ?_)
  refine sp rfl (PE.assign rfl) rfl ?_
  refine Z4 ?_
  exact Z2 (vs := [_]) rfl (.cons (RV.tmp rfl) .nil) rfl ⟨o2.cast (by simp), rfl, ho2, rfl, rfl⟩ (fun _ h => h)
theorem Zb8 (t : Twn) (rs : List Int) (bs : List Bool) : (Z0B t rs bs).1.length ≤ rs.length := by
  have key : ∀ (l : List (Int × Bool)) (s : Sta), (Z1b t s l).1.length ≤ l.length := by
    intro l
    induction l with
    | nil => intro s; simp [Z1b]
    | cons x l ih =>
      intro s
      obtain ⟨r, b⟩ := x
      unfold Z1b
      cases decide ((Z16 t s r b).2 ≠ 0) with
      | true => simp
      | false =>
        simp only [cond_false, Z7v]
        have := ih (Z16 t s r b).1
        cases decide ((Z1b t (Z16 t s r b).1 l).2 ≠ 0) with
        | true => simp
        | false => simp; omega
  unfold Z0B
  cases decide (t.check ≠ 0) with
  | true => simp
  | false => cases decide (rs.length ≠ bs.length) with
    | true => simp
    | false => cases decide (12 < rs.length) with
      | true => simp
      | false =>
        have := key (rs.zip bs) t.now
        rw [List.length_zip] at this
        simp only [cond_false]
        omega
theorem Z6K (t : Twn) (a : Option Addr) (c : Nat) (hl : t.rats.length ≤ 9223372036854775807) (rs : List Int) (a1 : Option Addr) (c1 : Nat) (hl1 : rs.length ≤ 9223372036854775807) (bs : List Bool) (a2 : Option Addr) (c2 : Nat) (hl2 : bs.length ≤ 9223372036854775807) (H : Zj) (R : Z9) [hR : MemRows a 2 (Zf t.rats) R] [hR1 : MemRows a1 1 (Zh rs) R] [hR2 : MemRows a2 1 (ZM bs) R] :
    Fn Tryz.prog 18 [t.v (t.sl a c), .slice a1 rs.length c1, .slice a2 bs.length c2] H R (fun v H' R' => v = .bool true ∧ H' = H ∧ R' = R) := by
  refine Zq Tryz.func18 rfl Tryz.ntmps18 rfl ?_
  refine Z0 ?_
  refine Z1 [0, 1] rfl ?_
  refine bx rfl rfl rfl (fun b3 => ?_)
  refine sp rfl (PE.assign rfl) rfl ?_
  refine Z0 ?_
  refine Z0 ?_
  refine Z1 [0, 1, 2, 3, 4, 5, 6, 7, 8, 9, 10, 11] rfl ?_
  refine spL rfl rfl (lhA [_, _, _, _, _, _, _, _, _, _, _] Zd rfl rfl rfl) rfl ?_
  refine clV rfl Zax rfl rfl (Z5B t a c (by omega) _ _) ?_
  refine sp rfl (PE.move rfl) rfl ?_
  refine Zg (t := 19) rfl (fun g19 => ?_) (fun g19 => ?_)
  ·
   refine spN rfl rfl rfl rfl rfl rfl rfl rfl ?_
   refine spN rfl rfl rfl rfl rfl rfl rfl rfl ?_
   refine spN rfl rfl rfl rfl rfl rfl rfl rfl ?_
   refine sp rfl (PE.pick rfl rfl rfl) rfl ?_
   refine sp rfl (PE.move rfl) rfl ?_
   refine spN rfl rfl rfl rfl rfl rfl rfl rfl ?_
   refine spN rfl rfl rfl rfl rfl rfl rfl rfl ?_
   refine spN rfl rfl rfl rfl rfl rfl rfl rfl ?_
   refine sp rfl (PE.pick rfl rfl rfl) rfl ?_
   refine Zm rfl ?_
   refine Z0 ?_
   refine Z1 [0, 1] rfl ?_
   refine clV rfl Z1f rfl rfl (Z00 _ _) ?_
   refine sp rfl (PE.assign rfl) rfl ?_
   refine Z4 ?_
   exact Z2 (vs := [_]) rfl (.cons (RV.tmp rfl) .nil) rfl ⟨rfl, rfl, rfl⟩ drp
  ·
   try simp only [decide_eq_true_eq, decide_eq_false_iff_not, Bool.and_eq_true, Bool.or_eq_true, Bool.not_eq_true', Int.not_le, Int.not_lt] at g19
   
   refine spG rfl rfl rfl rfl (PE.move rfl) rfl ?_
   refine spG rfl rfl rfl rfl (PE.lenSl Z0p rfl) rfl ?_
   refine spG rfl rfl rfl rfl (PE.gtr rfl rfl) rfl ?_
   refine sp rfl (PE.pick rfl rfl rfl) rfl ?_
   refine sp rfl (PE.move rfl) rfl ?_
   refine Zg (t := 24) rfl (fun g24 => ?_) (fun g24 => ?_)
   ·
    refine spN rfl rfl rfl rfl rfl rfl rfl rfl ?_
    refine spN rfl rfl rfl rfl rfl rfl rfl rfl ?_
    refine spN rfl rfl rfl rfl rfl rfl rfl rfl ?_
    refine sp rfl (PE.pick rfl rfl rfl) rfl ?_
    refine Zm rfl ?_
    refine Z0 ?_
    refine Z1 [0, 1] rfl ?_
    refine clV rfl Z1f rfl rfl (Z00 _ _) ?_
    refine sp rfl (PE.assign rfl) rfl ?_
    refine Z4 ?_
    exact Z2 (vs := [_]) rfl (.cons (RV.tmp rfl) .nil) rfl ⟨rfl, rfl, rfl⟩ drp
   ·
    try simp only [decide_eq_true_eq, decide_eq_false_iff_not, Bool.and_eq_true, Bool.or_eq_true, Bool.not_eq_true', Int.not_le, Int.not_lt] at g24
    
    refine spG rfl rfl rfl rfl (PE.move rfl) rfl ?_
    refine spG rfl rfl rfl rfl (PE.lenSl Z72 rfl) rfl ?_
    refine spG rfl rfl rfl rfl (PE.gtr rfl rfl) rfl ?_
    refine sp rfl (PE.pick rfl rfl rfl) rfl ?_
    refine Z5 rfl (fun hc0 => ?_) (fun hc0 => ?_)
    ·
     refine Z0 ?_
     refine Z1 [0, 1] rfl ?_
     refine clV rfl Z1f rfl rfl (Z00 _ _) ?_
     refine sp rfl (PE.assign rfl) rfl ?_
     refine Z4 ?_
     exact Z2 (vs := [_]) rfl (.cons (RV.tmp rfl) .nil) rfl ⟨rfl, rfl, rfl⟩ drp
    ·
     try simp only [decide_eq_true_eq, decide_eq_false_iff_not, Bool.and_eq_true, Bool.or_eq_true, Bool.not_eq_true', Int.not_le, Int.not_lt] at hc0
     have hpn := Zb8 t rs bs
     refine Z3 ?_
     refine Z0 ?_
     refine Z2q (ι := (Nat × Nat × Option Addr × Nat) × (Nat × Nat) × (Nat × Nat) × Nat × Nat) (fun z => ⟨[(1, .slice a1 rs.length c1), (2, .slice a2 bs.length c2), (3, .pointer (some ⟨b3, 0, none⟩)), (7, .pointer (some ⟨z.2.2.2.1, 0, none⟩)), (8, .slice (some ⟨z.2.1.1, 0, none⟩) rs.length z.2.1.2), (9, .slice (some ⟨z.2.2.1.1, 0, none⟩) bs.length z.2.2.1.2), (10, .pointer (some ⟨z.2.2.2.2, 0, none⟩))],
       (z.2.2.2.1, cel 27 (twl t (t.sl (some ⟨z.1.1, 0, none⟩) z.1.2.1))) :: (z.2.2.2.2, cel 96 (twl t (t.sl z.1.2.2.1 z.1.2.2.2))) :: (b3, cel 27 (twl t (t.sl a c))) :: H, RowsA z.1.2.2.1 2 (Zf t.rats) :: RowsA (some ⟨z.1.1, 0, none⟩) 2 (Zf t.rats) :: RowsA (some ⟨z.2.1.1, 0, none⟩) 1 (Zh rs) :: RowsA (some ⟨z.2.2.1.1, 0, none⟩) 1 (ZM bs) :: R⟩) ?_ ?_
     ·
      refine Ze [0, 1, 0, 7, 0, 31, 0, 127, 0, 0, 1023, 2047, 4095, 8191] (.ld 0 (.tk 2 (.tk 4 (.ld 6 (.any (.alt 1 (.any (.alt 3 (.any (.alt 5 (.any (.alt 7 (.any (.alt 8 (.big 9 (.big 10 (.tk 11 (.tk 12 (.big 13 .done))))) (.alt 9 (.big 8 (.big 10 (.tk 11 (.tk 12 (.big 13 .done))))) .stop))) (.alt 8 (.any (.alt 7 (.big 9 (.big 10 (.tk 11 (.tk 12 (.big 13 .done))))) (.alt 9 (.big 7 (.big 10 (.tk 11 (.tk 12 (.big 13 .done))))) .stop))) (.alt 9 (.any (.alt 7 (.big 8 (.big 10 (.tk 11 (.tk 12 (.big 13 .done))))) (.alt 8 (.big 7 (.big 10 (.tk 11 (.tk 12 (.big 13 .done))))) .stop))) .stop)))) (.alt 8 (.any (.alt 5 (.any (.alt 7 (.big 9 (.big 10 (.tk 11 (.tk 12 (.big 13 .done))))) (.alt 9 (.big 7 (.big 10 (.tk 11 (.tk 12 (.big 13 .done))))) .stop))) (.alt 9 (.big 5 (.big 7 (.big 10 (.tk 11 (.tk 12 (.big 13 .done)))))) .stop))) (.alt 9 (.any (.alt 5 (.any (.alt 7 (.big 8 (.big 10 (.tk 11 (.tk 12 (.big 13 .done))))) (.alt 8 (.big 7 (.big 10 (.tk 11 (.tk 12 (.big 13 .done))))) .stop))) (.alt 8 (.big 5 (.big 7 (.big 10 (.tk 11 (.tk 12 (.big 13 .done)))))) .stop))) .stop)))) (.alt 8 (.any (.alt 3 (.any (.alt 5 (.any (.alt 7 (.big 9 (.big 10 (.tk 11 (.tk 12 (.big 13 .done))))) (.alt 9 (.big 7 (.big 10 (.tk 11 (.tk 12 (.big 13 .done))))) .stop))) (.alt 9 (.big 5 (.big 7 (.big 10 (.tk 11 (.tk 12 (.big 13 .done)))))) .stop))) (.alt 9 (.big 3 (.big 5 (.big 7 (.big 10 (.tk 11 (.tk 12 (.big 13 .done))))))) .stop))) (.alt 9 (.any (.alt 3 (.any (.alt 5 (.any (.alt 7 (.big 8 (.big 10 (.tk 11 (.tk 12 (.big 13 .done))))) (.alt 8 (.big 7 (.big 10 (.tk 11 (.tk 12 (.big 13 .done))))) .stop))) (.alt 8 (.big 5 (.big 7 (.big 10 (.tk 11 (.tk 12 (.big 13 .done)))))) .stop))) (.alt 8 (.big 3 (.big 5 (.big 7 (.big 10 (.tk 11 (.tk 12 (.big 13 .done))))))) .stop))) .stop)))) (.alt 8 (.any (.alt 1 (.any (.alt 3 (.any (.alt 5 (.any (.alt 7 (.big 9 (.big 10 (.tk 11 (.tk 12 (.big 13 .done))))) (.alt 9 (.big 7 (.big 10 (.tk 11 (.tk 12 (.big 13 .done))))) .stop))) (.alt 9 (.big 5 (.big 7 (.big 10 (.tk 11 (.tk 12 (.big 13 .done)))))) .stop))) (.alt 9 (.big 3 (.big 5 (.big 7 (.big 10 (.tk 11 (.tk 12 (.big 13 .done))))))) .stop))) (.alt 9 (.big 1 (.big 3 (.big 5 (.big 7 (.big 10 (.tk 11 (.tk 12 (.big 13 .done)))))))) .stop))) (.alt 9 (.any (.alt 1 (.any (.alt 3 (.any (.alt 5 (.any (.alt 7 (.big 8 (.big 10 (.tk 11 (.tk 12 (.big 13 .done))))) (.alt 8 (.big 7 (.big 10 (.tk 11 (.tk 12 (.big 13 .done))))) .stop))) (.alt 8 (.big 5 (.big 7 (.big 10 (.tk 11 (.tk 12 (.big 13 .done)))))) .stop))) (.alt 8 (.big 3 (.big 5 (.big 7 (.big 10 (.tk 11 (.tk 12 (.big 13 .done))))))) .stop))) (.alt 8 (.big 1 (.big 3 (.big 5 (.big 7 (.big 10 (.tk 11 (.tk 12 (.big 13 .done)))))))) .stop))) .stop)))))))) Zy (by kernel_rfl) ?_
      refine ld rfl rfl (lhA [_, _, _, _, _, _, _, _, _, _, _] Zd rfl rfl rfl) rfl ?_
      refine tk rfl (PE.move rfl) rfl ?_
      refine tk rfl (PE.move rfl) rfl ?_
      refine ld rfl rfl (lhA [_, _, _, _, _, _, _, _, _, _, _] Zd rfl rfl rfl) rfl ?_
      refine Z8 ?_ ?_
      ·
       refine cl rfl Z0R rfl rfl (Z0Q t a c (by omega) _ _) ?_
       rintro _ _ _ ⟨bo, co, rfl, rfl, rfl⟩
       refine bg (fun w hs => ⟨(lhA [_, _, _, _, _, _, _, _, _, _, _] Zd rfl rfl rfl) w hs, trivial, trivial⟩) ?_
       refine Z8 ?_ ?_
       ·
        refine cl rfl Z3v rfl rfl (Z0d rs a1 c1 (by omega) _ _) ?_
        rintro _ _ _ ⟨o, rfl, ⟨bd, cd, hbd⟩, rfl, rfl⟩
        obtain ⟨ad, c3, ho, hf⟩ := o.freeze
        rw [hbd] at ho
        cases ho
        rw [hbd]
        refine Sy.heap (fun w h => hf h) ?_
        rw [show (Zh rs).length = rs.length from List.length_map _]
        refine bg (fun w hs => ⟨(lhA [_, _, _, _, _, _, _, _, _, _, _] Zd rfl rfl rfl) w hs, trivial⟩) ?_
        refine Z8 ?_ ?_
        ·
         refine cl rfl Z20 rfl rfl (ZK bs a2 c2 (by omega) _ _) ?_
         rintro _ _ _ ⟨o, rfl, ⟨be, ce, hbd⟩, rfl, rfl⟩
         obtain ⟨ad, c3, ho, hf⟩ := o.freeze
         rw [hbd] at ho
         cases ho
         rw [hbd]
         refine Sy.heap (fun w h => hf h) ?_
         rw [show (ZM bs).length = bs.length from List.length_map _]
         refine bg (fun w hs => ⟨(lhA [_, _, _, _, _, _, _, _, _, _, _] Zd rfl rfl rfl) w hs, trivial⟩) ?_
         refine Z8 ?_ ?_
         ·
          refine cl rfl ZA rfl rfl (Za t a c (by omega) _ _) ?_
          rintro _ _ _ ⟨ax, cx, rfl, rfl, rfl⟩
          refine bg (fun w hs => ⟨trivial, trivial⟩) ?_
          refine Z8 ?_ ?_
          ·
           refine alc rfl Z04 rfl (fun b7 => ?_)
           refine bg (fun w hs => trivial) ?_
           refine alc rfl Z0m rfl (fun b10 => ?_)
           refine bg (fun w hs => trivial) ?_
           refine sto rfl rfl rfl ZO rfl rfl rfl rfl ?_
           refine bg (fun w hs => trivial) ?_
           refine tk rfl (PE.assign rfl) rfl ?_
           refine tk rfl (PE.assign rfl) rfl ?_
           refine sto rfl rfl rfl ZU rfl rfl rfl rfl ?_
           refine bg (fun w hs => trivial) ?_
           exact Z6 ((bo, co, ax, cx), (bd, cd), (be, ce), b7, b10) (by repeat' first | exact Sub.nil | apply Sub.cons | rfl | (simp [lk]; omega)) (fun _ h => St.sub (((h.pull b3).pull b10).pull b7))
          refine Z8 ?_ ?_
          ·
           refine alc rfl Z0m rfl (fun b10 => ?_)
           refine bg (fun w hs => trivial) ?_
           refine alc rfl Z04 rfl (fun b7 => ?_)
           refine bg (fun w hs => trivial) ?_
           refine sto rfl rfl rfl ZO rfl rfl rfl rfl ?_
           refine bg (fun w hs => trivial) ?_
           refine tk rfl (PE.assign rfl) rfl ?_
           refine tk rfl (PE.assign rfl) rfl ?_
           refine sto rfl rfl rfl ZU rfl rfl rfl rfl ?_
           refine bg (fun w hs => trivial) ?_
           exact Z6 ((bo, co, ax, cx), (bd, cd), (be, ce), b7, b10) (by repeat' first | exact Sub.nil | apply Sub.cons | rfl | (simp [lk]; omega)) (fun _ h => St.sub (((h.pull b3).pull b10).pull b7))
          exact Zc
         refine Z8 ?_ ?_
         ·
          refine alc rfl Z04 rfl (fun b7 => ?_)
          refine bg (fun w hs => ⟨(lhA [_, _, _, _, _, _, _, _, _, _, _] Zd rfl rfl rfl) w hs, trivial⟩) ?_
          refine Z8 ?_ ?_
          ·
           refine cl rfl ZA rfl rfl (Za t a c (by omega) _ _) ?_
           rintro _ _ _ ⟨ax, cx, rfl, rfl, rfl⟩
           refine bg (fun w hs => ⟨trivial, trivial⟩) ?_
           refine alc rfl Z0m rfl (fun b10 => ?_)
           refine bg (fun w hs => trivial) ?_
           refine sto rfl rfl rfl ZO rfl rfl rfl rfl ?_
           refine bg (fun w hs => trivial) ?_
           refine tk rfl (PE.assign rfl) rfl ?_
           refine tk rfl (PE.assign rfl) rfl ?_
           refine sto rfl rfl rfl ZU rfl rfl rfl rfl ?_
           refine bg (fun w hs => trivial) ?_
           exact Z6 ((bo, co, ax, cx), (bd, cd), (be, ce), b7, b10) (by repeat' first | exact Sub.nil | apply Sub.cons | rfl | (simp [lk]; omega)) (fun _ h => St.sub (((h.pull b3).pull b10).pull b7))
          refine Z8 ?_ ?_
          ·
           refine alc rfl Z0m rfl (fun b10 => ?_)
           refine bg (fun w hs => ⟨(lhA [_, _, _, _, _, _, _, _, _, _, _] Zd rfl rfl rfl) w hs, trivial⟩) ?_
           refine cl rfl ZA rfl rfl (Za t a c (by omega) _ _) ?_
           rintro _ _ _ ⟨ax, cx, rfl, rfl, rfl⟩
           refine bg (fun w hs => ⟨trivial, trivial⟩) ?_
           refine sto rfl rfl rfl ZO rfl rfl rfl rfl ?_
           refine bg (fun w hs => trivial) ?_
           refine tk rfl (PE.assign rfl) rfl ?_
           refine tk rfl (PE.assign rfl) rfl ?_
           refine sto rfl rfl rfl ZU rfl rfl rfl rfl ?_
           refine bg (fun w hs => trivial) ?_
           exact Z6 ((bo, co, ax, cx), (bd, cd), (be, ce), b7, b10) (by repeat' first | exact Sub.nil | apply Sub.cons | rfl | (simp [lk]; omega)) (fun _ h => St.sub (((h.pull b3).pull b10).pull b7))
          exact Zc
         refine Z8 ?_ ?_
         ·
          refine alc rfl Z0m rfl (fun b10 => ?_)
          refine bg (fun w hs => ⟨(lhA [_, _, _, _, _, _, _, _, _, _, _] Zd rfl rfl rfl) w hs, trivial⟩) ?_
          refine Z8 ?_ ?_
          ·
           refine cl rfl ZA rfl rfl (Za t a c (by omega) _ _) ?_
           rintro _ _ _ ⟨ax, cx, rfl, rfl, rfl⟩
           refine bg (fun w hs => ⟨trivial, trivial⟩) ?_
           refine alc rfl Z04 rfl (fun b7 => ?_)
           refine bg (fun w hs => trivial) ?_
           refine sto rfl rfl rfl ZO rfl rfl rfl rfl ?_
           refine bg (fun w hs => trivial) ?_
           refine tk rfl (PE.assign rfl) rfl ?_
           refine tk rfl (PE.assign rfl) rfl ?_
           refine sto rfl rfl rfl ZU rfl rfl rfl rfl ?_
           refine bg (fun w hs => trivial) ?_
           exact Z6 ((bo, co, ax, cx), (bd, cd), (be, ce), b7, b10) (by repeat' first | exact Sub.nil | apply Sub.cons | rfl | (simp [lk]; omega)) (fun _ h => St.sub (((h.pull b3).pull b10).pull b7))
          refine Z8 ?_ ?_
          ·
           refine alc rfl Z04 rfl (fun b7 => ?_)
           refine bg (fun w hs => ⟨(lhA [_, _, _, _, _, _, _, _, _, _, _] Zd rfl rfl rfl) w hs, trivial⟩) ?_
           refine cl rfl ZA rfl rfl (Za t a c (by omega) _ _) ?_
           rintro _ _ _ ⟨ax, cx, rfl, rfl, rfl⟩
           refine bg (fun w hs => ⟨trivial, trivial⟩) ?_
           refine sto rfl rfl rfl ZO rfl rfl rfl rfl ?_
           refine bg (fun w hs => trivial) ?_
           refine tk rfl (PE.assign rfl) rfl ?_
           refine tk rfl (PE.assign rfl) rfl ?_
           refine sto rfl rfl rfl ZU rfl rfl rfl rfl ?_
           refine bg (fun w hs => trivial) ?_
           exact Z6 ((bo, co, ax, cx), (bd, cd), (be, ce), b7, b10) (by repeat' first | exact Sub.nil | apply Sub.cons | rfl | (simp [lk]; omega)) (fun _ h => St.sub (((h.pull b3).pull b10).pull b7))
          exact Zc
         exact Zc
        refine Z8 ?_ ?_
        ·
         refine alc rfl Z04 rfl (fun b7 => ?_)
         refine bg (fun w hs => ⟨(lhA [_, _, _, _, _, _, _, _, _, _, _] Zd rfl rfl rfl) w hs, trivial⟩) ?_
         refine Z8 ?_ ?_
         ·
          refine cl rfl Z20 rfl rfl (ZK bs a2 c2 (by omega) _ _) ?_
          rintro _ _ _ ⟨o, rfl, ⟨be, ce, hbd⟩, rfl, rfl⟩
          obtain ⟨ad, c3, ho, hf⟩ := o.freeze
          rw [hbd] at ho
          cases ho
          rw [hbd]
          refine Sy.heap (fun w h => hf h) ?_
          rw [show (ZM bs).length = bs.length from List.length_map _]
          refine bg (fun w hs => ⟨(lhA [_, _, _, _, _, _, _, _, _, _, _] Zd rfl rfl rfl) w hs, trivial⟩) ?_
          refine Z8 ?_ ?_
          ·
           refine cl rfl ZA rfl rfl (Za t a c (by omega) _ _) ?_
           rintro _ _ _ ⟨ax, cx, rfl, rfl, rfl⟩
           refine bg (fun w hs => ⟨trivial, trivial⟩) ?_
           refine alc rfl Z0m rfl (fun b10 => ?_)
           refine bg (fun w hs => trivial) ?_
           refine sto rfl rfl rfl ZO rfl rfl rfl rfl ?_
           refine bg (fun w hs => trivial) ?_
           refine tk rfl (PE.assign rfl) rfl ?_
           refine tk rfl (PE.assign rfl) rfl ?_
           refine sto rfl rfl rfl ZU rfl rfl rfl rfl ?_
           refine bg (fun w hs => trivial) ?_
           exact Z6 ((bo, co, ax, cx), (bd, cd), (be, ce), b7, b10) (by repeat' first | exact Sub.nil | apply Sub.cons | rfl | (simp [lk]; omega)) (fun _ h => St.sub (((h.pull b3).pull b10).pull b7))
          refine Z8 ?_ ?_
          ·
           refine alc rfl Z0m rfl (fun b10 => ?_)
           refine bg (fun w hs => ⟨(lhA [_, _, _, _, _, _, _, _, _, _, _] Zd rfl rfl rfl) w hs, trivial⟩) ?_
           refine cl rfl ZA rfl rfl (Za t a c (by omega) _ _) ?_
           rintro _ _ _ ⟨ax, cx, rfl, rfl, rfl⟩
           refine bg (fun w hs => ⟨trivial, trivial⟩) ?_
           refine sto rfl rfl rfl ZO rfl rfl rfl rfl ?_
           refine bg (fun w hs => trivial) ?_
           refine tk rfl (PE.assign rfl) rfl ?_
           refine tk rfl (PE.assign rfl) rfl ?_
           refine sto rfl rfl rfl ZU rfl rfl rfl rfl ?_
           refine bg (fun w hs => trivial) ?_
           exact Z6 ((bo, co, ax, cx), (bd, cd), (be, ce), b7, b10) (by repeat' first | exact Sub.nil | apply Sub.cons | rfl | (simp [lk]; omega)) (fun _ h => St.sub (((h.pull b3).pull b10).pull b7))
          exact Zc
         refine Z8 ?_ ?_
         ·
          refine alc rfl Z0m rfl (fun b10 => ?_)
          refine bg (fun w hs => ⟨(lhA [_, _, _, _, _, _, _, _, _, _, _] Zd rfl rfl rfl) w hs, trivial⟩) ?_
          refine cl rfl Z20 rfl rfl (ZK bs a2 c2 (by omega) _ _) ?_
          rintro _ _ _ ⟨o, rfl, ⟨be, ce, hbd⟩, rfl, rfl⟩
          obtain ⟨ad, c3, ho, hf⟩ := o.freeze
          rw [hbd] at ho
          cases ho
          rw [hbd]
          refine Sy.heap (fun w h => hf h) ?_
          rw [show (ZM bs).length = bs.length from List.length_map _]
          refine bg (fun w hs => ⟨(lhA [_, _, _, _, _, _, _, _, _, _, _] Zd rfl rfl rfl) w hs, trivial⟩) ?_
          refine cl rfl ZA rfl rfl (Za t a c (by omega) _ _) ?_
          rintro _ _ _ ⟨ax, cx, rfl, rfl, rfl⟩
          refine bg (fun w hs => ⟨trivial, trivial⟩) ?_
          refine sto rfl rfl rfl ZO rfl rfl rfl rfl ?_
          refine bg (fun w hs => trivial) ?_
          refine tk rfl (PE.assign rfl) rfl ?_
          refine tk rfl (PE.assign rfl) rfl ?_
          refine sto rfl rfl rfl ZU rfl rfl rfl rfl ?_
          refine bg (fun w hs => trivial) ?_
          exact Z6 ((bo, co, ax, cx), (bd, cd), (be, ce), b7, b10) (by repeat' first | exact Sub.nil | apply Sub.cons | rfl | (simp [lk]; omega)) (fun _ h => St.sub (((h.pull b3).pull b10).pull b7))
         exact Zc
        refine Z8 ?_ ?_
        ·
         refine alc rfl Z0m rfl (fun b10 => ?_)
         refine bg (fun w hs => ⟨(lhA [_, _, _, _, _, _, _, _, _, _, _] Zd rfl rfl rfl) w hs, trivial⟩) ?_
         refine Z8 ?_ ?_
         ·
          refine cl rfl Z20 rfl rfl (ZK bs a2 c2 (by omega) _ _) ?_
          rintro _ _ _ ⟨o, rfl, ⟨be, ce, hbd⟩, rfl, rfl⟩
          obtain ⟨ad, c3, ho, hf⟩ := o.freeze
          rw [hbd] at ho
          cases ho
          rw [hbd]
          refine Sy.heap (fun w h => hf h) ?_
          rw [show (ZM bs).length = bs.length from List.length_map _]
          refine bg (fun w hs => ⟨(lhA [_, _, _, _, _, _, _, _, _, _, _] Zd rfl rfl rfl) w hs, trivial⟩) ?_
          refine Z8 ?_ ?_
          ·
           refine cl rfl ZA rfl rfl (Za t a c (by omega) _ _) ?_
           rintro _ _ _ ⟨ax, cx, rfl, rfl, rfl⟩
           refine bg (fun w hs => ⟨trivial, trivial⟩) ?_
           refine alc rfl Z04 rfl (fun b7 => ?_)
           refine bg (fun w hs => trivial) ?_
           refine sto rfl rfl rfl ZO rfl rfl rfl rfl ?_
           refine bg (fun w hs => trivial) ?_
           refine tk rfl (PE.assign rfl) rfl ?_
           refine tk rfl (PE.assign rfl) rfl ?_
           refine sto rfl rfl rfl ZU rfl rfl rfl rfl ?_
           refine bg (fun w hs => trivial) ?_
           exact Z6 ((bo, co, ax, cx), (bd, cd), (be, ce), b7, b10) (by repeat' first | exact Sub.nil | apply Sub.cons | rfl | (simp [lk]; omega)) (fun _ h => St.sub (((h.pull b3).pull b10).pull b7))
          refine Z8 ?_ ?_
          ·
           refine alc rfl Z04 rfl (fun b7 => ?_)
           refine bg (fun w hs => ⟨(lhA [_, _, _, _, _, _, _, _, _, _, _] Zd rfl rfl rfl) w hs, trivial⟩) ?_
           refine cl rfl ZA rfl rfl (Za t a c (by omega) _ _) ?_
           rintro _ _ _ ⟨ax, cx, rfl, rfl, rfl⟩
           refine bg (fun w hs => ⟨trivial, trivial⟩) ?_
           refine sto rfl rfl rfl ZO rfl rfl rfl rfl ?_
           refine bg (fun w hs => trivial) ?_
           refine tk rfl (PE.assign rfl) rfl ?_
           refine tk rfl (PE.assign rfl) rfl ?_
           refine sto rfl rfl rfl ZU rfl rfl rfl rfl ?_
           refine bg (fun w hs => trivial) ?_
           exact Z6 ((bo, co, ax, cx), (bd, cd), (be, ce), b7, b10) (by repeat' first | exact Sub.nil | apply Sub.cons | rfl | (simp [lk]; omega)) (fun _ h => St.sub (((h.pull b3).pull b10).pull b7))
          exact Zc
         refine Z8 ?_ ?_
         ·
          refine alc rfl Z04 rfl (fun b7 => ?_)
          refine bg (fun w hs => ⟨(lhA [_, _, _, _, _, _, _, _, _, _, _] Zd rfl rfl rfl) w hs, trivial⟩) ?_
          refine cl rfl Z20 rfl rfl (ZK bs a2 c2 (by omega) _ _) ?_
          rintro _ _ _ ⟨o, rfl, ⟨be, ce, hbd⟩, rfl, rfl⟩
          obtain ⟨ad, c3, ho, hf⟩ := o.freeze
          rw [hbd] at ho
          cases ho
          rw [hbd]
          refine Sy.heap (fun w h => hf h) ?_
          rw [show (ZM bs).length = bs.length from List.length_map _]
          refine bg (fun w hs => ⟨(lhA [_, _, _, _, _, _, _, _, _, _, _] Zd rfl rfl rfl) w hs, trivial⟩) ?_
          refine cl rfl ZA rfl rfl (Za t a c (by omega) _ _) ?_
          rintro _ _ _ ⟨ax, cx, rfl, rfl, rfl⟩
          refine bg (fun w hs => ⟨trivial, trivial⟩) ?_
          refine sto rfl rfl rfl ZO rfl rfl rfl rfl ?_
          refine bg (fun w hs => trivial) ?_
          refine tk rfl (PE.assign rfl) rfl ?_
          refine tk rfl (PE.assign rfl) rfl ?_
          refine sto rfl rfl rfl ZU rfl rfl rfl rfl ?_
          refine bg (fun w hs => trivial) ?_
          exact Z6 ((bo, co, ax, cx), (bd, cd), (be, ce), b7, b10) (by repeat' first | exact Sub.nil | apply Sub.cons | rfl | (simp [lk]; omega)) (fun _ h => St.sub (((h.pull b3).pull b10).pull b7))
         exact Zc
        exact Zc
       refine Z8 ?_ ?_
       ·
        refine alc rfl Z04 rfl (fun b7 => ?_)
        refine bg (fun w hs => ⟨(lhA [_, _, _, _, _, _, _, _, _, _, _] Zd rfl rfl rfl) w hs, trivial⟩) ?_
        refine Z8 ?_ ?_
        ·
         refine cl rfl Z3v rfl rfl (Z0d rs a1 c1 (by omega) _ _) ?_
         rintro _ _ _ ⟨o, rfl, ⟨bd, cd, hbd⟩, rfl, rfl⟩
         obtain ⟨ad, c3, ho, hf⟩ := o.freeze
         rw [hbd] at ho
         cases ho
         rw [hbd]
         refine Sy.heap (fun w h => hf h) ?_
         rw [show (Zh rs).length = rs.length from List.length_map _]
         refine bg (fun w hs => ⟨(lhA [_, _, _, _, _, _, _, _, _, _, _] Zd rfl rfl rfl) w hs, trivial⟩) ?_
         refine Z8 ?_ ?_
         ·
          refine cl rfl Z20 rfl rfl (ZK bs a2 c2 (by omega) _ _) ?_
          rintro _ _ _ ⟨o, rfl, ⟨be, ce, hbd⟩, rfl, rfl⟩
          obtain ⟨ad, c3, ho, hf⟩ := o.freeze
          rw [hbd] at ho
          cases ho
          rw [hbd]
          refine Sy.heap (fun w h => hf h) ?_
          rw [show (ZM bs).length = bs.length from List.length_map _]
          refine bg (fun w hs => ⟨(lhA [_, _, _, _, _, _, _, _, _, _, _] Zd rfl rfl rfl) w hs, trivial⟩) ?_
          refine Z8 ?_ ?_
          ·
           refine cl rfl ZA rfl rfl (Za t a c (by omega) _ _) ?_
           rintro _ _ _ ⟨ax, cx, rfl, rfl, rfl⟩
           refine bg (fun w hs => ⟨trivial, trivial⟩) ?_
           refine alc rfl Z0m rfl (fun b10 => ?_)
           refine bg (fun w hs => trivial) ?_
           refine sto rfl rfl rfl ZO rfl rfl rfl rfl ?_
           refine bg (fun w hs => trivial) ?_
           refine tk rfl (PE.assign rfl) rfl ?_
           refine tk rfl (PE.assign rfl) rfl ?_
           refine sto rfl rfl rfl ZU rfl rfl rfl rfl ?_
           refine bg (fun w hs => trivial) ?_
           exact Z6 ((bo, co, ax, cx), (bd, cd), (be, ce), b7, b10) (by repeat' first | exact Sub.nil | apply Sub.cons | rfl | (simp [lk]; omega)) (fun _ h => St.sub (((h.pull b3).pull b10).pull b7))
          refine Z8 ?_ ?_
          ·
           refine alc rfl Z0m rfl (fun b10 => ?_)
           refine bg (fun w hs => ⟨(lhA [_, _, _, _, _, _, _, _, _, _, _] Zd rfl rfl rfl) w hs, trivial⟩) ?_
           refine cl rfl ZA rfl rfl (Za t a c (by omega) _ _) ?_
           rintro _ _ _ ⟨ax, cx, rfl, rfl, rfl⟩
           refine bg (fun w hs => ⟨trivial, trivial⟩) ?_
           refine sto rfl rfl rfl ZO rfl rfl rfl rfl ?_
           refine bg (fun w hs => trivial) ?_
           refine tk rfl (PE.assign rfl) rfl ?_
           refine tk rfl (PE.assign rfl) rfl ?_
           refine sto rfl rfl rfl ZU rfl rfl rfl rfl ?_
           refine bg (fun w hs => trivial) ?_
           exact Z6 ((bo, co, ax, cx), (bd, cd), (be, ce), b7, b10) (by repeat' first | exact Sub.nil | apply Sub.cons | rfl | (simp [lk]; omega)) (fun _ h => St.sub (((h.pull b3).pull b10).pull b7))
          exact Zc
         refine Z8 ?_ ?_
         ·
          refine alc rfl Z0m rfl (fun b10 => ?_)
          refine bg (fun w hs => ⟨(lhA [_, _, _, _, _, _, _, _, _, _, _] Zd rfl rfl rfl) w hs, trivial⟩) ?_
          refine cl rfl Z20 rfl rfl (ZK bs a2 c2 (by omega) _ _) ?_
          rintro _ _ _ ⟨o, rfl, ⟨be, ce, hbd⟩, rfl, rfl⟩
          obtain ⟨ad, c3, ho, hf⟩ := o.freeze
          rw [hbd] at ho
          cases ho
          rw [hbd]
          refine Sy.heap (fun w h => hf h) ?_
          rw [show (ZM bs).length = bs.length from List.length_map _]
          refine bg (fun w hs => ⟨(lhA [_, _, _, _, _, _, _, _, _, _, _] Zd rfl rfl rfl) w hs, trivial⟩) ?_
          refine cl rfl ZA rfl rfl (Za t a c (by omega) _ _) ?_
          rintro _ _ _ ⟨ax, cx, rfl, rfl, rfl⟩
          refine bg (fun w hs => ⟨trivial, trivial⟩) ?_
          refine sto rfl rfl rfl ZO rfl rfl rfl rfl ?_
          refine bg (fun w hs => trivial) ?_
          refine tk rfl (PE.assign rfl) rfl ?_
          refine tk rfl (PE.assign rfl) rfl ?_
          refine sto rfl rfl rfl ZU rfl rfl rfl rfl ?_
          refine bg (fun w hs => trivial) ?_
          exact Z6 ((bo, co, ax, cx), (bd, cd), (be, ce), b7, b10) (by repeat' first | exact Sub.nil | apply Sub.cons | rfl | (simp [lk]; omega)) (fun _ h => St.sub (((h.pull b3).pull b10).pull b7))
         exact Zc
        refine Z8 ?_ ?_
        ·
         refine alc rfl Z0m rfl (fun b10 => ?_)
         refine bg (fun w hs => ⟨(lhA [_, _, _, _, _, _, _, _, _, _, _] Zd rfl rfl rfl) w hs, trivial⟩) ?_
         refine cl rfl Z3v rfl rfl (Z0d rs a1 c1 (by omega) _ _) ?_
         rintro _ _ _ ⟨o, rfl, ⟨bd, cd, hbd⟩, rfl, rfl⟩
         obtain ⟨ad, c3, ho, hf⟩ := o.freeze
         rw [hbd] at ho
         cases ho
         rw [hbd]
         refine Sy.heap (fun w h => hf h) ?_
         rw [show (Zh rs).length = rs.length from List.length_map _]
         refine bg (fun w hs => ⟨(lhA [_, _, _, _, _, _, _, _, _, _, _] Zd rfl rfl rfl) w hs, trivial⟩) ?_
         refine cl rfl Z20 rfl rfl (ZK bs a2 c2 (by omega) _ _) ?_
         rintro _ _ _ ⟨o, rfl, ⟨be, ce, hbd⟩, rfl, rfl⟩
         obtain ⟨ad, c3, ho, hf⟩ := o.freeze
         rw [hbd] at ho
         cases ho
         rw [hbd]
         refine Sy.heap (fun w h => hf h) ?_
         rw [show (ZM bs).length = bs.length from List.length_map _]
         refine bg (fun w hs => ⟨(lhA [_, _, _, _, _, _, _, _, _, _, _] Zd rfl rfl rfl) w hs, trivial⟩) ?_
         refine cl rfl ZA rfl rfl (Za t a c (by omega) _ _) ?_
         rintro _ _ _ ⟨ax, cx, rfl, rfl, rfl⟩
         refine bg (fun w hs => ⟨trivial, trivial⟩) ?_
         refine sto rfl rfl rfl ZO rfl rfl rfl rfl ?_
         refine bg (fun w hs => trivial) ?_
         refine tk rfl (PE.assign rfl) rfl ?_
         refine tk rfl (PE.assign rfl) rfl ?_
         refine sto rfl rfl rfl ZU rfl rfl rfl rfl ?_
         refine bg (fun w hs => trivial) ?_
         exact Z6 ((bo, co, ax, cx), (bd, cd), (be, ce), b7, b10) (by repeat' first | exact Sub.nil | apply Sub.cons | rfl | (simp [lk]; omega)) (fun _ h => St.sub (((h.pull b3).pull b10).pull b7))
        exact Zc
       refine Z8 ?_ ?_
       ·
        refine alc rfl Z0m rfl (fun b10 => ?_)
        refine bg (fun w hs => ⟨(lhA [_, _, _, _, _, _, _, _, _, _, _] Zd rfl rfl rfl) w hs, trivial⟩) ?_
        refine Z8 ?_ ?_
        ·
         refine cl rfl Z3v rfl rfl (Z0d rs a1 c1 (by omega) _ _) ?_
         rintro _ _ _ ⟨o, rfl, ⟨bd, cd, hbd⟩, rfl, rfl⟩
         obtain ⟨ad, c3, ho, hf⟩ := o.freeze
         rw [hbd] at ho
         cases ho
         rw [hbd]
         refine Sy.heap (fun w h => hf h) ?_
         rw [show (Zh rs).length = rs.length from List.length_map _]
         refine bg (fun w hs => ⟨(lhA [_, _, _, _, _, _, _, _, _, _, _] Zd rfl rfl rfl) w hs, trivial⟩) ?_
         refine Z8 ?_ ?_
         ·
          refine cl rfl Z20 rfl rfl (ZK bs a2 c2 (by omega) _ _) ?_
          rintro _ _ _ ⟨o, rfl, ⟨be, ce, hbd⟩, rfl, rfl⟩
          obtain ⟨ad, c3, ho, hf⟩ := o.freeze
          rw [hbd] at ho
          cases ho
          rw [hbd]
          refine Sy.heap (fun w h => hf h) ?_
          rw [show (ZM bs).length = bs.length from List.length_map _]
          refine bg (fun w hs => ⟨(lhA [_, _, _, _, _, _, _, _, _, _, _] Zd rfl rfl rfl) w hs, trivial⟩) ?_
          refine Z8 ?_ ?_
          ·
           refine cl rfl ZA rfl rfl (Za t a c (by omega) _ _) ?_
           rintro _ _ _ ⟨ax, cx, rfl, rfl, rfl⟩
           refine bg (fun w hs => ⟨trivial, trivial⟩) ?_
           refine alc rfl Z04 rfl (fun b7 => ?_)
           refine bg (fun w hs => trivial) ?_
           refine sto rfl rfl rfl ZO rfl rfl rfl rfl ?_
           refine bg (fun w hs => trivial) ?_
           refine tk rfl (PE.assign rfl) rfl ?_
           refine tk rfl (PE.assign rfl) rfl ?_
           refine sto rfl rfl rfl ZU rfl rfl rfl rfl ?_
           refine bg (fun w hs => trivial) ?_
           exact Z6 ((bo, co, ax, cx), (bd, cd), (be, ce), b7, b10) (by repeat' first | exact Sub.nil | apply Sub.cons | rfl | (simp [lk]; omega)) (fun _ h => St.sub (((h.pull b3).pull b10).pull b7))
          refine Z8 ?_ ?_
          ·
           refine alc rfl Z04 rfl (fun b7 => ?_)
           refine bg (fun w hs => ⟨(lhA [_, _, _, _, _, _, _, _, _, _, _] Zd rfl rfl rfl) w hs, trivial⟩) ?_
           refine cl rfl ZA rfl rfl (Za t a c (by omega) _ _) ?_
           rintro _ _ _ ⟨ax, cx, rfl, rfl, rfl⟩
           refine bg (fun w hs => ⟨trivial, trivial⟩) ?_
           refine sto rfl rfl rfl ZO rfl rfl rfl rfl ?_
           refine bg (fun w hs => trivial) ?_
           refine tk rfl (PE.assign rfl) rfl ?_
           refine tk rfl (PE.assign rfl) rfl ?_
           refine sto rfl rfl rfl ZU rfl rfl rfl rfl ?_
           refine bg (fun w hs => trivial) ?_
           exact Z6 ((bo, co, ax, cx), (bd, cd), (be, ce), b7, b10) (by repeat' first | exact Sub.nil | apply Sub.cons | rfl | (simp [lk]; omega)) (fun _ h => St.sub (((h.pull b3).pull b10).pull b7))
          exact Zc
         refine Z8 ?_ ?_
         ·
          refine alc rfl Z04 rfl (fun b7 => ?_)
          refine bg (fun w hs => ⟨(lhA [_, _, _, _, _, _, _, _, _, _, _] Zd rfl rfl rfl) w hs, trivial⟩) ?_
          refine cl rfl Z20 rfl rfl (ZK bs a2 c2 (by omega) _ _) ?_
          rintro _ _ _ ⟨o, rfl, ⟨be, ce, hbd⟩, rfl, rfl⟩
          obtain ⟨ad, c3, ho, hf⟩ := o.freeze
          rw [hbd] at ho
          cases ho
          rw [hbd]
          refine Sy.heap (fun w h => hf h) ?_
          rw [show (ZM bs).length = bs.length from List.length_map _]
          refine bg (fun w hs => ⟨(lhA [_, _, _, _, _, _, _, _, _, _, _] Zd rfl rfl rfl) w hs, trivial⟩) ?_
          refine cl rfl ZA rfl rfl (Za t a c (by omega) _ _) ?_
          rintro _ _ _ ⟨ax, cx, rfl, rfl, rfl⟩
          refine bg (fun w hs => ⟨trivial, trivial⟩) ?_
          refine sto rfl rfl rfl ZO rfl rfl rfl rfl ?_
          refine bg (fun w hs => trivial) ?_
          refine tk rfl (PE.assign rfl) rfl ?_
          refine tk rfl (PE.assign rfl) rfl ?_
          refine sto rfl rfl rfl ZU rfl rfl rfl rfl ?_
          refine bg (fun w hs => trivial) ?_
          exact Z6 ((bo, co, ax, cx), (bd, cd), (be, ce), b7, b10) (by repeat' first | exact Sub.nil | apply Sub.cons | rfl | (simp [lk]; omega)) (fun _ h => St.sub (((h.pull b3).pull b10).pull b7))
         exact Zc
        refine Z8 ?_ ?_
        ·
         refine alc rfl Z04 rfl (fun b7 => ?_)
         refine bg (fun w hs => ⟨(lhA [_, _, _, _, _, _, _, _, _, _, _] Zd rfl rfl rfl) w hs, trivial⟩) ?_
         refine cl rfl Z3v rfl rfl (Z0d rs a1 c1 (by omega) _ _) ?_
         rintro _ _ _ ⟨o, rfl, ⟨bd, cd, hbd⟩, rfl, rfl⟩
         obtain ⟨ad, c3, ho, hf⟩ := o.freeze
         rw [hbd] at ho
         cases ho
         rw [hbd]
         refine Sy.heap (fun w h => hf h) ?_
         rw [show (Zh rs).length = rs.length from List.length_map _]
         refine bg (fun w hs => ⟨(lhA [_, _, _, _, _, _, _, _, _, _, _] Zd rfl rfl rfl) w hs, trivial⟩) ?_
         refine cl rfl Z20 rfl rfl (ZK bs a2 c2 (by omega) _ _) ?_
         rintro _ _ _ ⟨o, rfl, ⟨be, ce, hbd⟩, rfl, rfl⟩
         obtain ⟨ad, c3, ho, hf⟩ := o.freeze
         rw [hbd] at ho
         cases ho
         rw [hbd]
         refine Sy.heap (fun w h => hf h) ?_
         rw [show (ZM bs).length = bs.length from List.length_map _]
         refine bg (fun w hs => ⟨(lhA [_, _, _, _, _, _, _, _, _, _, _] Zd rfl rfl rfl) w hs, trivial⟩) ?_
         refine cl rfl ZA rfl rfl (Za t a c (by omega) _ _) ?_
         rintro _ _ _ ⟨ax, cx, rfl, rfl, rfl⟩
         refine bg (fun w hs => ⟨trivial, trivial⟩) ?_
         refine sto rfl rfl rfl ZO rfl rfl rfl rfl ?_
         refine bg (fun w hs => trivial) ?_
         refine tk rfl (PE.assign rfl) rfl ?_
         refine tk rfl (PE.assign rfl) rfl ?_
         refine sto rfl rfl rfl ZU rfl rfl rfl rfl ?_
         refine bg (fun w hs => trivial) ?_
         exact Z6 ((bo, co, ax, cx), (bd, cd), (be, ce), b7, b10) (by repeat' first | exact Sub.nil | apply Sub.cons | rfl | (simp [lk]; omega)) (fun _ h => St.sub (((h.pull b3).pull b10).pull b7))
        exact Zc
       exact Zc
      refine Z8 ?_ ?_
      ·
       refine alc rfl Z04 rfl (fun b7 => ?_)
       refine bg (fun w hs => ⟨(lhA [_, _, _, _, _, _, _, _, _, _, _] Zd rfl rfl rfl) w hs, (lhA [_, _, _, _, _, _, _, _, _, _, _] Zd rfl rfl rfl) w hs, trivial⟩) ?_
       refine Z8 ?_ ?_
       ·
        refine cl rfl Z0R rfl rfl (Z0Q t a c (by omega) _ _) ?_
        rintro _ _ _ ⟨bo, co, rfl, rfl, rfl⟩
        refine bg (fun w hs => ⟨(lhA [_, _, _, _, _, _, _, _, _, _, _] Zd rfl rfl rfl) w hs, trivial, trivial⟩) ?_
        refine Z8 ?_ ?_
        ·
         refine cl rfl Z3v rfl rfl (Z0d rs a1 c1 (by omega) _ _) ?_
         rintro _ _ _ ⟨o, rfl, ⟨bd, cd, hbd⟩, rfl, rfl⟩
         obtain ⟨ad, c3, ho, hf⟩ := o.freeze
         rw [hbd] at ho
         cases ho
         rw [hbd]
         refine Sy.heap (fun w h => hf h) ?_
         rw [show (Zh rs).length = rs.length from List.length_map _]
         refine bg (fun w hs => ⟨(lhA [_, _, _, _, _, _, _, _, _, _, _] Zd rfl rfl rfl) w hs, trivial⟩) ?_
         refine Z8 ?_ ?_
         ·
          refine cl rfl Z20 rfl rfl (ZK bs a2 c2 (by omega) _ _) ?_
          rintro _ _ _ ⟨o, rfl, ⟨be, ce, hbd⟩, rfl, rfl⟩
          obtain ⟨ad, c3, ho, hf⟩ := o.freeze
          rw [hbd] at ho
          cases ho
          rw [hbd]
          refine Sy.heap (fun w h => hf h) ?_
          rw [show (ZM bs).length = bs.length from List.length_map _]
          refine bg (fun w hs => ⟨(lhA [_, _, _, _, _, _, _, _, _, _, _] Zd rfl rfl rfl) w hs, trivial⟩) ?_
          refine Z8 ?_ ?_
          ·
           refine cl rfl ZA rfl rfl (Za t a c (by omega) _ _) ?_
           rintro _ _ _ ⟨ax, cx, rfl, rfl, rfl⟩
           refine bg (fun w hs => ⟨trivial, trivial⟩) ?_
           refine alc rfl Z0m rfl (fun b10 => ?_)
           refine bg (fun w hs => trivial) ?_
           refine sto rfl rfl rfl ZO rfl rfl rfl rfl ?_
           refine bg (fun w hs => trivial) ?_
           refine tk rfl (PE.assign rfl) rfl ?_
           refine tk rfl (PE.assign rfl) rfl ?_
           refine sto rfl rfl rfl ZU rfl rfl rfl rfl ?_
           refine bg (fun w hs => trivial) ?_
           exact Z6 ((bo, co, ax, cx), (bd, cd), (be, ce), b7, b10) (by repeat' first | exact Sub.nil | apply Sub.cons | rfl | (simp [lk]; omega)) (fun _ h => St.sub (((h.pull b3).pull b10).pull b7))
          refine Z8 ?_ ?_
          ·
           refine alc rfl Z0m rfl (fun b10 => ?_)
           refine bg (fun w hs => ⟨(lhA [_, _, _, _, _, _, _, _, _, _, _] Zd rfl rfl rfl) w hs, trivial⟩) ?_
           refine cl rfl ZA rfl rfl (Za t a c (by omega) _ _) ?_
           rintro _ _ _ ⟨ax, cx, rfl, rfl, rfl⟩
           refine bg (fun w hs => ⟨trivial, trivial⟩) ?_
           refine sto rfl rfl rfl ZO rfl rfl rfl rfl ?_
           refine bg (fun w hs => trivial) ?_
           refine tk rfl (PE.assign rfl) rfl ?_
           refine tk rfl (PE.assign rfl) rfl ?_
           refine sto rfl rfl rfl ZU rfl rfl rfl rfl ?_
           refine bg (fun w hs => trivial) ?_
           exact Z6 ((bo, co, ax, cx), (bd, cd), (be, ce), b7, b10) (by repeat' first | exact Sub.nil | apply Sub.cons | rfl | (simp [lk]; omega)) (fun _ h => St.sub (((h.pull b3).pull b10).pull b7))
          exact Zc
         refine Z8 ?_ ?_
         ·
          refine alc rfl Z0m rfl (fun b10 => ?_)
          refine bg (fun w hs => ⟨(lhA [_, _, _, _, _, _, _, _, _, _, _] Zd rfl rfl rfl) w hs, trivial⟩) ?_
          refine cl rfl Z20 rfl rfl (ZK bs a2 c2 (by omega) _ _) ?_
          rintro _ _ _ ⟨o, rfl, ⟨be, ce, hbd⟩, rfl, rfl⟩
          obtain ⟨ad, c3, ho, hf⟩ := o.freeze
          rw [hbd] at ho
          cases ho
          rw [hbd]
          refine Sy.heap (fun w h => hf h) ?_
          rw [show (ZM bs).length = bs.length from List.length_map _]
          refine bg (fun w hs => ⟨(lhA [_, _, _, _, _, _, _, _, _, _, _] Zd rfl rfl rfl) w hs, trivial⟩) ?_
          refine cl rfl ZA rfl rfl (Za t a c (by omega) _ _) ?_
          rintro _ _ _ ⟨ax, cx, rfl, rfl, rfl⟩
          refine bg (fun w hs => ⟨trivial, trivial⟩) ?_
          refine sto rfl rfl rfl ZO rfl rfl rfl rfl ?_
          refine bg (fun w hs => trivial) ?_
          refine tk rfl (PE.assign rfl) rfl ?_
          refine tk rfl (PE.assign rfl) rfl ?_
          refine sto rfl rfl rfl ZU rfl rfl rfl rfl ?_
          refine bg (fun w hs => trivial) ?_
          exact Z6 ((bo, co, ax, cx), (bd, cd), (be, ce), b7, b10) (by repeat' first | exact Sub.nil | apply Sub.cons | rfl | (simp [lk]; omega)) (fun _ h => St.sub (((h.pull b3).pull b10).pull b7))
         exact Zc
        refine Z8 ?_ ?_
        ·
         refine alc rfl Z0m rfl (fun b10 => ?_)
         refine bg (fun w hs => ⟨(lhA [_, _, _, _, _, _, _, _, _, _, _] Zd rfl rfl rfl) w hs, trivial⟩) ?_
         refine cl rfl Z3v rfl rfl (Z0d rs a1 c1 (by omega) _ _) ?_
         rintro _ _ _ ⟨o, rfl, ⟨bd, cd, hbd⟩, rfl, rfl⟩
         obtain ⟨ad, c3, ho, hf⟩ := o.freeze
         rw [hbd] at ho
         cases ho
         rw [hbd]
         refine Sy.heap (fun w h => hf h) ?_
         rw [show (Zh rs).length = rs.length from List.length_map _]
         refine bg (fun w hs => ⟨(lhA [_, _, _, _, _, _, _, _, _, _, _] Zd rfl rfl rfl) w hs, trivial⟩) ?_
         refine cl rfl Z20 rfl rfl (ZK bs a2 c2 (by omega) _ _) ?_
         rintro _ _ _ ⟨o, rfl, ⟨be, ce, hbd⟩, rfl, rfl⟩
         obtain ⟨ad, c3, ho, hf⟩ := o.freeze
         rw [hbd] at ho
         cases ho
         rw [hbd]
         refine Sy.heap (fun w h => hf h) ?_
         rw [show (ZM bs).length = bs.length from List.length_map _]
         refine bg (fun w hs => ⟨(lhA [_, _, _, _, _, _, _, _, _, _, _] Zd rfl rfl rfl) w hs, trivial⟩) ?_
         refine cl rfl ZA rfl rfl (Za t a c (by omega) _ _) ?_
         rintro _ _ _ ⟨ax, cx, rfl, rfl, rfl⟩
         refine bg (fun w hs => ⟨trivial, trivial⟩) ?_
         refine sto rfl rfl rfl ZO rfl rfl rfl rfl ?_
         refine bg (fun w hs => trivial) ?_
         refine tk rfl (PE.assign rfl) rfl ?_
         refine tk rfl (PE.assign rfl) rfl ?_
         refine sto rfl rfl rfl ZU rfl rfl rfl rfl ?_
         refine bg (fun w hs => trivial) ?_
         exact Z6 ((bo, co, ax, cx), (bd, cd), (be, ce), b7, b10) (by repeat' first | exact Sub.nil | apply Sub.cons | rfl | (simp [lk]; omega)) (fun _ h => St.sub (((h.pull b3).pull b10).pull b7))
        exact Zc
       refine Z8 ?_ ?_
       ·
        refine alc rfl Z0m rfl (fun b10 => ?_)
        refine bg (fun w hs => ⟨(lhA [_, _, _, _, _, _, _, _, _, _, _] Zd rfl rfl rfl) w hs, (lhA [_, _, _, _, _, _, _, _, _, _, _] Zd rfl rfl rfl) w hs, trivial⟩) ?_
        refine cl rfl Z0R rfl rfl (Z0Q t a c (by omega) _ _) ?_
        rintro _ _ _ ⟨bo, co, rfl, rfl, rfl⟩
        refine bg (fun w hs => ⟨(lhA [_, _, _, _, _, _, _, _, _, _, _] Zd rfl rfl rfl) w hs, trivial, trivial⟩) ?_
        refine cl rfl Z3v rfl rfl (Z0d rs a1 c1 (by omega) _ _) ?_
        rintro _ _ _ ⟨o, rfl, ⟨bd, cd, hbd⟩, rfl, rfl⟩
        obtain ⟨ad, c3, ho, hf⟩ := o.freeze
        rw [hbd] at ho
        cases ho
        rw [hbd]
        refine Sy.heap (fun w h => hf h) ?_
        rw [show (Zh rs).length = rs.length from List.length_map _]
        refine bg (fun w hs => ⟨(lhA [_, _, _, _, _, _, _, _, _, _, _] Zd rfl rfl rfl) w hs, trivial⟩) ?_
        refine cl rfl Z20 rfl rfl (ZK bs a2 c2 (by omega) _ _) ?_
        rintro _ _ _ ⟨o, rfl, ⟨be, ce, hbd⟩, rfl, rfl⟩
        obtain ⟨ad, c3, ho, hf⟩ := o.freeze
        rw [hbd] at ho
        cases ho
        rw [hbd]
        refine Sy.heap (fun w h => hf h) ?_
        rw [show (ZM bs).length = bs.length from List.length_map _]
        refine bg (fun w hs => ⟨(lhA [_, _, _, _, _, _, _, _, _, _, _] Zd rfl rfl rfl) w hs, trivial⟩) ?_
        refine cl rfl ZA rfl rfl (Za t a c (by omega) _ _) ?_
        rintro _ _ _ ⟨ax, cx, rfl, rfl, rfl⟩
        refine bg (fun w hs => ⟨trivial, trivial⟩) ?_
        refine sto rfl rfl rfl ZO rfl rfl rfl rfl ?_
        refine bg (fun w hs => trivial) ?_
        refine tk rfl (PE.assign rfl) rfl ?_
        refine tk rfl (PE.assign rfl) rfl ?_
        refine sto rfl rfl rfl ZU rfl rfl rfl rfl ?_
        refine bg (fun w hs => trivial) ?_
        exact Z6 ((bo, co, ax, cx), (bd, cd), (be, ce), b7, b10) (by repeat' first | exact Sub.nil | apply Sub.cons | rfl | (simp [lk]; omega)) (fun _ h => St.sub (((h.pull b3).pull b10).pull b7))
       exact Zc
      refine Z8 ?_ ?_
      ·
       refine alc rfl Z0m rfl (fun b10 => ?_)
       refine bg (fun w hs => ⟨(lhA [_, _, _, _, _, _, _, _, _, _, _] Zd rfl rfl rfl) w hs, (lhA [_, _, _, _, _, _, _, _, _, _, _] Zd rfl rfl rfl) w hs, trivial⟩) ?_
       refine Z8 ?_ ?_
       ·
        refine cl rfl Z0R rfl rfl (Z0Q t a c (by omega) _ _) ?_
        rintro _ _ _ ⟨bo, co, rfl, rfl, rfl⟩
        refine bg (fun w hs => ⟨(lhA [_, _, _, _, _, _, _, _, _, _, _] Zd rfl rfl rfl) w hs, trivial, trivial⟩) ?_
        refine Z8 ?_ ?_
        ·
         refine cl rfl Z3v rfl rfl (Z0d rs a1 c1 (by omega) _ _) ?_
         rintro _ _ _ ⟨o, rfl, ⟨bd, cd, hbd⟩, rfl, rfl⟩
         obtain ⟨ad, c3, ho, hf⟩ := o.freeze
         rw [hbd] at ho
         cases ho
         rw [hbd]
         refine Sy.heap (fun w h => hf h) ?_
         rw [show (Zh rs).length = rs.length from List.length_map _]
         refine bg (fun w hs => ⟨(lhA [_, _, _, _, _, _, _, _, _, _, _] Zd rfl rfl rfl) w hs, trivial⟩) ?_
         refine Z8 ?_ ?_
         ·
          refine cl rfl Z20 rfl rfl (ZK bs a2 c2 (by omega) _ _) ?_
          rintro _ _ _ ⟨o, rfl, ⟨be, ce, hbd⟩, rfl, rfl⟩
          obtain ⟨ad, c3, ho, hf⟩ := o.freeze
          rw [hbd] at ho
          cases ho
          rw [hbd]
          refine Sy.heap (fun w h => hf h) ?_
          rw [show (ZM bs).length = bs.length from List.length_map _]
          refine bg (fun w hs => ⟨(lhA [_, _, _, _, _, _, _, _, _, _, _] Zd rfl rfl rfl) w hs, trivial⟩) ?_
          refine Z8 ?_ ?_
          ·
           refine cl rfl ZA rfl rfl (Za t a c (by omega) _ _) ?_
           rintro _ _ _ ⟨ax, cx, rfl, rfl, rfl⟩
           refine bg (fun w hs => ⟨trivial, trivial⟩) ?_
           refine alc rfl Z04 rfl (fun b7 => ?_)
           refine bg (fun w hs => trivial) ?_
           refine sto rfl rfl rfl ZO rfl rfl rfl rfl ?_
           refine bg (fun w hs => trivial) ?_
           refine tk rfl (PE.assign rfl) rfl ?_
           refine tk rfl (PE.assign rfl) rfl ?_
           refine sto rfl rfl rfl ZU rfl rfl rfl rfl ?_
           refine bg (fun w hs => trivial) ?_
           exact Z6 ((bo, co, ax, cx), (bd, cd), (be, ce), b7, b10) (by repeat' first | exact Sub.nil | apply Sub.cons | rfl | (simp [lk]; omega)) (fun _ h => St.sub (((h.pull b3).pull b10).pull b7))
          refine Z8 ?_ ?_
          ·
           refine alc rfl Z04 rfl (fun b7 => ?_)
           refine bg (fun w hs => ⟨(lhA [_, _, _, _, _, _, _, _, _, _, _] Zd rfl rfl rfl) w hs, trivial⟩) ?_
           refine cl rfl ZA rfl rfl (Za t a c (by omega) _ _) ?_
           rintro _ _ _ ⟨ax, cx, rfl, rfl, rfl⟩
           refine bg (fun w hs => ⟨trivial, trivial⟩) ?_
           refine sto rfl rfl rfl ZO rfl rfl rfl rfl ?_
           refine bg (fun w hs => trivial) ?_
           refine tk rfl (PE.assign rfl) rfl ?_
           refine tk rfl (PE.assign rfl) rfl ?_
           refine sto rfl rfl rfl ZU rfl rfl rfl rfl ?_
           refine bg (fun w hs => trivial) ?_
           exact Z6 ((bo, co, ax, cx), (bd, cd), (be, ce), b7, b10) (by repeat' first | exact Sub.nil | apply Sub.cons | rfl | (simp [lk]; omega)) (fun _ h => St.sub (((h.pull b3).pull b10).pull b7))
          exact Zc
         refine Z8 ?_ ?_
         ·
          refine alc rfl Z04 rfl (fun b7 => ?_)
          refine bg (fun w hs => ⟨(lhA [_, _, _, _, _, _, _, _, _, _, _] Zd rfl rfl rfl) w hs, trivial⟩) ?_
          refine cl rfl Z20 rfl rfl (ZK bs a2 c2 (by omega) _ _) ?_
          rintro _ _ _ ⟨o, rfl, ⟨be, ce, hbd⟩, rfl, rfl⟩
          obtain ⟨ad, c3, ho, hf⟩ := o.freeze
          rw [hbd] at ho
          cases ho
          rw [hbd]
          refine Sy.heap (fun w h => hf h) ?_
          rw [show (ZM bs).length = bs.length from List.length_map _]
          refine bg (fun w hs => ⟨(lhA [_, _, _, _, _, _, _, _, _, _, _] Zd rfl rfl rfl) w hs, trivial⟩) ?_
          refine cl rfl ZA rfl rfl (Za t a c (by omega) _ _) ?_
          rintro _ _ _ ⟨ax, cx, rfl, rfl, rfl⟩
          refine bg (fun w hs => ⟨trivial, trivial⟩) ?_
          refine sto rfl rfl rfl ZO rfl rfl rfl rfl ?_
          refine bg (fun w hs => trivial) ?_
          refine tk rfl (PE.assign rfl) rfl ?_
          refine tk rfl (PE.assign rfl) rfl ?_
          refine sto rfl rfl rfl ZU rfl rfl rfl rfl ?_
          refine bg (fun w hs => trivial) ?_
          exact Z6 ((bo, co, ax, cx), (bd, cd), (be, ce), b7, b10) (by repeat' first | exact Sub.nil | apply Sub.cons | rfl | (simp [lk]; omega)) (fun _ h => St.sub (((h.pull b3).pull b10).pull b7))
         exact Zc
        refine Z8 ?_ ?_
        ·
         refine alc rfl Z04 rfl (fun b7 => ?_)
         refine bg (fun w hs => ⟨(lhA [_, _, _, _, _, _, _, _, _, _, _] Zd rfl rfl rfl) w hs, trivial⟩) ?_
         refine cl rfl Z3v rfl rfl (Z0d rs a1 c1 (by omega) _ _) ?_
         rintro _ _ _ ⟨o, rfl, ⟨bd, cd, hbd⟩, rfl, rfl⟩
         obtain ⟨ad, c3, ho, hf⟩ := o.freeze
         rw [hbd] at ho
         cases ho
         rw [hbd]
         refine Sy.heap (fun w h => hf h) ?_
         rw [show (Zh rs).length = rs.length from List.length_map _]
         refine bg (fun w hs => ⟨(lhA [_, _, _, _, _, _, _, _, _, _, _] Zd rfl rfl rfl) w hs, trivial⟩) ?_
         refine cl rfl Z20 rfl rfl (ZK bs a2 c2 (by omega) _ _) ?_
         rintro _ _ _ ⟨o, rfl, ⟨be, ce, hbd⟩, rfl, rfl⟩
         obtain ⟨ad, c3, ho, hf⟩ := o.freeze
         rw [hbd] at ho
         cases ho
         rw [hbd]
         refine Sy.heap (fun w h => hf h) ?_
         rw [show (ZM bs).length = bs.length from List.length_map _]
         refine bg (fun w hs => ⟨(lhA [_, _, _, _, _, _, _, _, _, _, _] Zd rfl rfl rfl) w hs, trivial⟩) ?_
         refine cl rfl ZA rfl rfl (Za t a c (by omega) _ _) ?_
         rintro _ _ _ ⟨ax, cx, rfl, rfl, rfl⟩
         refine bg (fun w hs => ⟨trivial, trivial⟩) ?_
         refine sto rfl rfl rfl ZO rfl rfl rfl rfl ?_
         refine bg (fun w hs => trivial) ?_
         refine tk rfl (PE.assign rfl) rfl ?_
         refine tk rfl (PE.assign rfl) rfl ?_
         refine sto rfl rfl rfl ZU rfl rfl rfl rfl ?_
         refine bg (fun w hs => trivial) ?_
         exact Z6 ((bo, co, ax, cx), (bd, cd), (be, ce), b7, b10) (by repeat' first | exact Sub.nil | apply Sub.cons | rfl | (simp [lk]; omega)) (fun _ h => St.sub (((h.pull b3).pull b10).pull b7))
        exact Zc
       refine Z8 ?_ ?_
       ·
        refine alc rfl Z04 rfl (fun b7 => ?_)
        refine bg (fun w hs => ⟨(lhA [_, _, _, _, _, _, _, _, _, _, _] Zd rfl rfl rfl) w hs, (lhA [_, _, _, _, _, _, _, _, _, _, _] Zd rfl rfl rfl) w hs, trivial⟩) ?_
        refine cl rfl Z0R rfl rfl (Z0Q t a c (by omega) _ _) ?_
        rintro _ _ _ ⟨bo, co, rfl, rfl, rfl⟩
        refine bg (fun w hs => ⟨(lhA [_, _, _, _, _, _, _, _, _, _, _] Zd rfl rfl rfl) w hs, trivial, trivial⟩) ?_
        refine cl rfl Z3v rfl rfl (Z0d rs a1 c1 (by omega) _ _) ?_
        rintro _ _ _ ⟨o, rfl, ⟨bd, cd, hbd⟩, rfl, rfl⟩
        obtain ⟨ad, c3, ho, hf⟩ := o.freeze
        rw [hbd] at ho
        cases ho
        rw [hbd]
        refine Sy.heap (fun w h => hf h) ?_
        rw [show (Zh rs).length = rs.length from List.length_map _]
        refine bg (fun w hs => ⟨(lhA [_, _, _, _, _, _, _, _, _, _, _] Zd rfl rfl rfl) w hs, trivial⟩) ?_
        refine cl rfl Z20 rfl rfl (ZK bs a2 c2 (by omega) _ _) ?_
        rintro _ _ _ ⟨o, rfl, ⟨be, ce, hbd⟩, rfl, rfl⟩
        obtain ⟨ad, c3, ho, hf⟩ := o.freeze
        rw [hbd] at ho
        cases ho
        rw [hbd]
        refine Sy.heap (fun w h => hf h) ?_
        rw [show (ZM bs).length = bs.length from List.length_map _]
        refine bg (fun w hs => ⟨(lhA [_, _, _, _, _, _, _, _, _, _, _] Zd rfl rfl rfl) w hs, trivial⟩) ?_
        refine cl rfl ZA rfl rfl (Za t a c (by omega) _ _) ?_
        rintro _ _ _ ⟨ax, cx, rfl, rfl, rfl⟩
        refine bg (fun w hs => ⟨trivial, trivial⟩) ?_
        refine sto rfl rfl rfl ZO rfl rfl rfl rfl ?_
        refine bg (fun w hs => trivial) ?_
        refine tk rfl (PE.assign rfl) rfl ?_
        refine tk rfl (PE.assign rfl) rfl ?_
        refine sto rfl rfl rfl ZU rfl rfl rfl rfl ?_
        refine bg (fun w hs => trivial) ?_
        exact Z6 ((bo, co, ax, cx), (bd, cd), (be, ce), b7, b10) (by repeat' first | exact Sub.nil | apply Sub.cons | rfl | (simp [lk]; omega)) (fun _ h => St.sub (((h.pull b3).pull b10).pull b7))
       exact Zc
      exact Zc
     ·
      rintro ⟨⟨bo, co, ax, cx⟩, ⟨bd, cd⟩, ⟨be, ce⟩, b7, b10⟩
      dsimp only
      refine Z0 ?_
      refine Z1 [0, 1, 2] rfl ?_
      refine spL rfl rfl (lhA [_, _, _, _, _, _, _, _, _, _, _] Z0c rfl rfl rfl) rfl ?_
      refine clV rfl Z7h rfl rfl (Z1X t ax cx (by omega) _ _) ?_
      refine sp rfl (PE.assign rfl) rfl ?_
      refine Z0 ?_
      refine Z1 [0] rfl ?_
      refine sp rfl (PE.assign rfl) rfl ?_
      refine Z0 ?_
      refine Z0 ?_
      refine Z1 [0, 1] rfl ?_
      refine sp rfl (PE.move rfl) rfl ?_
      refine sp rfl (PE.eql rfl rfl) rfl ?_
      refine Z0I (ι := Option Addr × Nat) (fun z => ⟨[(1, .slice a1 rs.length c1), (2, .slice a2 bs.length c2), (3, .pointer (some ⟨b3, 0, none⟩)), (7, .pointer (some ⟨b7, 0, none⟩)), (8, .slice (some ⟨bd, 0, none⟩) rs.length cd), (9, .slice (some ⟨be, 0, none⟩) bs.length ce), (10, .pointer (some ⟨b10, 0, none⟩)), (11, .int .i64 (Z0B t rs bs).2), (12, .slice z.1 (Z0B t rs bs).1.length z.2)], (b7, cel 27 (twl t (t.sl (some ⟨bo, 0, none⟩) co))) :: (b10, cel 96 (twl t (t.sl ax cx))) :: (b3, cel 27 (twl t (t.sl a c))) :: H, RowsA z.1 3 (ZP (Z0B t rs bs).1) :: RowsA ax 2 (Zf t.rats) :: RowsA (some ⟨bo, 0, none⟩) 2 (Zf t.rats) :: RowsA (some ⟨bd, 0, none⟩) 1 (Zh rs) :: RowsA (some ⟨be, 0, none⟩) 1 (ZM bs) :: R⟩) ?_ ?_
      ·
       refine Z5 rfl (fun hc1 => ?_) (fun hc1 => ?_)
       ·
        try simp only [decide_eq_true_eq, decide_eq_false_iff_not, Bool.and_eq_true, Bool.or_eq_true, Bool.not_eq_true', Int.not_le, Int.not_lt] at hc1
        have hck : t.check = 0 := hc1
        have hok := (Zi hck).1
        refine Zw (a := ax) (sz := 2) (rows := Zf t.rats) (by have := hok.many; intro h0; simp [Zf] at h0; simp [h0] at this) (fun bx ox he => ?_)
        subst he
        refine Z1 [0, 1, 2, 3, 4, 5, 6, 7, 8] rfl ?_
        refine spL rfl rfl (lhA [_, _, _, _, _, _, _, _, _, _, _] Z0c rfl rfl rfl) rfl ?_
        refine sp rfl (PE.move rfl) rfl ?_
        refine sp rfl (PE.move rfl) rfl ?_
        refine cl rfl Zen rfl rfl (ZbW t hck rs bs a1 a2 c1 c2 hl1 hl2 bx ox cx _ _) ?_
        rintro _ _ _ ⟨ap, cp, rfl, rfl, rfl⟩
        refine sp rfl (PE.move rfl) rfl ?_
        refine sp rfl (PE.extract rfl rfl) rfl ?_
        refine sp rfl (PE.extract rfl rfl) rfl ?_
        refine sp rfl (PE.assign rfl) rfl ?_
        refine sp rfl (PE.assign rfl) rfl ?_
        exact ZG (ap, cp) (by repeat' first | exact Sub.nil | apply Sub.cons | rfl | (simp [lk]; omega)) (fun _ h => h)
       ·
        try simp only [decide_eq_true_eq, decide_eq_false_iff_not, Bool.and_eq_true, Bool.or_eq_true, Bool.not_eq_true', Int.not_le, Int.not_lt] at hc1
        have hck : t.check ≠ 0 := hc1
        refine Z3 ?_
        rw [show Z0B t rs bs = ([], t.check) from by simp [Z0B, hck]]
        exact ZG (none, 0) (by repeat' first | exact Sub.nil | apply Sub.cons | rfl | (simp [lk]; omega)) (fun _ h => St.norows3 h)
      ·
       rintro ⟨ap, cp⟩
       dsimp only
       refine Z0 ?_
       refine Z1 [0, 1, 2, 3, 4, 5, 6, 7, 8] rfl ?_
       refine spL rfl rfl (lhA [_, _, _, _, _, _, _, _, _, _, _] Zd rfl rfl rfl) rfl ?_
       refine sp rfl (PE.move rfl) rfl ?_
       refine sp rfl (PE.move rfl) rfl ?_
       refine cl rfl Zfu rfl rfl (Zdf t (by omega) rs bs (some ⟨bd, 0, none⟩) (some ⟨be, 0, none⟩) cd ce hl1 hl2 bo 0 co _ _) ?_
       rintro _ _ _ ⟨aq, cq, rfl, rfl, rfl⟩
       refine sp rfl (PE.move rfl) rfl ?_
       refine sp rfl (PE.extract rfl rfl) rfl ?_
       refine sp rfl (PE.extract rfl rfl) rfl ?_
       refine sp rfl (PE.assign rfl) rfl ?_
       refine sp rfl (PE.assign rfl) rfl ?_
       refine Z0 ?_
       refine Z0 ?_
       refine Z1 [0, 1, 2, 3, 4, 5, 6, 7, 8, 9] rfl ?_
       refine sp rfl (PE.move rfl) rfl ?_
       refine sp rfl (PE.move rfl) rfl ?_
       refine sp rfl (PE.neq rfl rfl) rfl ?_
       refine sp rfl (PE.move rfl) rfl ?_
       refine Zg (t := 59) rfl (fun g59 => ?_) (fun g59 => ?_)
       ·
        exact absurd g59 (by first | (simp; done) | (simp_all; done))
       ·
        refine spG rfl rfl rfl rfl (PE.move rfl) rfl ?_
        refine spG rfl rfl rfl rfl (PE.lenSl ZbK rfl) rfl ?_
        refine spG rfl rfl rfl rfl (PE.move rfl) rfl ?_
        refine spG rfl rfl rfl rfl (PE.lenSl Z2o rfl) rfl ?_
        refine spG rfl rfl rfl rfl (PE.neq rfl rfl) rfl ?_
        refine sp rfl (PE.pick rfl rfl rfl) rfl ?_
        refine Z5 rfl (fun hc2 => ?_) (fun hc2 => ?_)
        ·
         exact absurd hc2 (by simp)
        ·
         refine Z3 ?_
         refine Z0 ?_
         refine Z0 ?_
         refine Z1 [0, 1, 2] rfl ?_
         refine sp rfl (PE.move rfl) rfl ?_
         refine sp rfl (PE.lenSl ZbK rfl) rfl ?_
         refine sp rfl (PE.move rfl) rfl ?_
         refine Z7 ?_
         refine Zn (ι := {k : Nat // k ≤ (Z0B t rs bs).1.length}) (fun k => ⟨[(1, .slice a1 rs.length c1), (2, .slice a2 bs.length c2), (3, .pointer (some ⟨b3, 0, none⟩)), (7, .pointer (some ⟨b7, 0, none⟩)), (8, .slice (some ⟨bd, 0, none⟩) rs.length cd), (9, .slice (some ⟨be, 0, none⟩) bs.length ce), (10, .pointer (some ⟨b10, 0, none⟩)), (12, .slice ap (Z0B t rs bs).1.length cp), (66, .slice aq (Z0B t rs bs).1.length cq), (67, .int .i64 (Z0B t rs bs).1.length), (68, .int .i64 k.1)], (b7, cel 27 (twl t (t.sl (some ⟨bo, 0, none⟩) co))) :: (b10, cel 96 (twl t (t.sl ax cx))) :: (b3, cel 27 (twl t (t.sl a c))) :: H, RowsA aq 3 (ZP (Z0B t rs bs).1) :: RowsA ap 3 (ZP (Z0B t rs bs).1) :: RowsA ax 2 (Zf t.rats) :: RowsA (some ⟨bo, 0, none⟩) 2 (Zf t.rats) :: RowsA (some ⟨bd, 0, none⟩) 1 (Zh rs) :: RowsA (some ⟨be, 0, none⟩) 1 (ZM bs) :: R⟩) (fun k => (Z0B t rs bs).1.length - k.1) ⟨0, by omega⟩ ?_ (fun k => ?_)
         ·
          exact Z0i (by repeat' first | exact Sub.nil | apply Sub.cons | rfl | (simp [lk]; omega)) (fun _ h => h)
         ·
          obtain ⟨k, hk⟩ := k
          dsimp only
          refine Z0 ?_
          refine Z1 [0] rfl ?_
          refine sp rfl (PE.lss rfl rfl) rfl ?_
          refine Z0 ?_
          refine Z5 rfl (fun hc3 => ?_) (fun hc3 => ?_)
          ·
           try simp only [decide_eq_true_eq, decide_eq_false_iff_not, Bool.and_eq_true, Bool.or_eq_true, Bool.not_eq_true', Int.not_le, Int.not_lt] at hc3
           obtain ⟨s, hs⟩ : ∃ s, (Z0B t rs bs).1[k]? = some s := ⟨_, List.getElem?_eq_getElem (by omega)⟩
           refine Zw (a := aq) (sz := 3) (rows := ZP (Z0B t rs bs).1) (by intro h0; simp [ZP] at h0; simp [h0] at hs) (fun bq oq he => ?_)
           subst he
           refine Zw (a := ap) (sz := 3) (rows := ZP (Z0B t rs bs).1) (by intro h0; simp [ZP] at h0; simp [h0] at hs) (fun bp op he => ?_)
           subst he
           refine Z3 ?_
           refine Z0 ?_
           refine Z7 ?_
           refine Z0 ?_
           refine Z1 [0, 1, 2, 3, 4, 5] rfl ?_
           refine sp rfl (PE.move rfl) rfl ?_
           refine sp rfl (PE.indexAddr ZeG rfl rfl (by omega) (by omega)) rfl ?_
           refine spL rfl rfl (lfA (row := Z67 s) ZF (Z4v hs) rfl) rfl ?_
           refine alc rfl Z2M rfl (fun b16 => ?_)
           refine sp rfl (PE.assign rfl) rfl ?_
           refine sto rfl rfl rfl Z2O rfl rfl rfl rfl ?_
           refine Z0 ?_
           refine Ze [0, 0, 0, 6, 14, 31] (.ld 0 (.tk 1 (.tk 2 (.tk 3 (.ld 4 (.tk 5 .done)))))) Zy (by kernel_rfl) ?_
           refine ld rfl rfl (lhA [_, _, _] ZF rfl rfl rfl) rfl ?_
           refine tk rfl (PE.move rfl) rfl ?_
           refine tk rfl (PE.move rfl) rfl ?_
           refine tk rfl (PE.indexAddr Z8e rfl rfl (by omega) (by omega)) rfl ?_
           refine ld rfl rfl (lfA (row := Z67 s) Z0w (Z4v hs) rfl) rfl ?_
           refine tk rfl (PE.neqAgg [s.stock, s.short, s.dry] [s.stock, s.short, s.dry] (Z13 10000 24 true 3 Z3S) Z8o rfl rfl rfl rfl) rfl ?_
           refine Z5 rfl (fun hc4 => ?_) (fun hc4 => ?_)
           ·
            exact absurd hc4 (by simp)
           ·
            refine Z3 ?_
            refine Z1 [0, 1] rfl ?_
            refine sp rfl (PE.add rfl rfl (by omega)) rfl ?_
            refine sp rfl (PE.move rfl) rfl ?_
            exact Zb ⟨k + 1, by omega⟩ (by dsimp only; omega) (by repeat' first | exact Sub.nil | apply Sub.cons | rfl | (simp [lk]; omega)) (fun w h => h.del b16)
          ·
           try simp only [decide_eq_true_eq, decide_eq_false_iff_not, Bool.and_eq_true, Bool.or_eq_true, Bool.not_eq_true', Int.not_le, Int.not_lt] at hc3
           
           refine Zk ?_
           refine Zl ?_
           refine Zl ?_
           refine ZH ?_
           refine Z0 ?_
           refine Z1 [0, 1, 2, 3, 4, 5, 6, 7, 8, 9, 10, 11, 12, 13, 14, 15, 16] rfl ?_
           refine sp rfl (PE.move rfl) rfl ?_
           refine sp rfl (PE.move rfl) rfl ?_
           refine clV rfl Z4N rfl rfl (Z1a rs rs (some ⟨bd, 0, none⟩) a1 cd c1 hl1 hl1 _ _) ?_
           refine sp rfl (PE.move rfl) rfl ?_
           refine Zg (t := 83) rfl (fun g83 => ?_) (fun g83 => ?_)
           ·
            refine spG rfl rfl rfl rfl (PE.move rfl) rfl ?_
            refine spG rfl rfl rfl rfl (PE.move rfl) rfl ?_
            refine Z0k rfl rfl rfl rfl Zft rfl rfl (Za8 bs bs (some ⟨be, 0, none⟩) a2 ce c2 hl2 hl2 _ _) ?_
            refine sp rfl (PE.pick rfl rfl rfl) rfl ?_
            refine sp rfl (PE.move rfl) rfl ?_
            refine Zg (t := 88) rfl (fun g88 => ?_) (fun g88 => ?_)
            ·
             refine Z03 rfl rfl rfl rfl rfl (lhA [_, _, _, _, _, _, _, _, _, _, _] Zd rfl rfl rfl) rfl ?_
             refine Z03 rfl rfl rfl rfl rfl (lhA [_, _, _, _, _, _, _, _, _, _, _] Zd rfl rfl rfl) rfl ?_
             refine Z0k rfl rfl rfl rfl Z5i rfl rfl (Z38 t t _ a co c (by omega) (by omega) _ _) ?_
             refine sp rfl (PE.pick rfl rfl rfl) rfl ?_
             refine sp rfl (PE.move rfl) rfl ?_
             refine Zg (t := 93) rfl (fun g93 => ?_) (fun g93 => ?_)
             ·
              refine Z0k rfl rfl rfl rfl Z1f rfl rfl (Z00 _ _) ?_
              refine sp rfl (PE.pick rfl rfl rfl) rfl ?_
              refine sp rfl (PE.assign rfl) rfl ?_
              refine Z4 ?_
              exact Z2 (vs := [_]) rfl (.cons (RV.tmp rfl) .nil) rfl ⟨rfl, rfl, rfl⟩ drp
             ·
              exact absurd g93 (by first | (simp; done) | (simp_all; done))
            ·
             exact absurd g88 (by first | (simp; done) | (simp_all; done))
           ·
            exact absurd g83 (by first | (simp; done) | (simp_all; done))
theorem Zf7 : cal Tryz.prog 17 = true := by kernel_rfl
theorem Zfr : cal Tryz.prog 18 = true := by kernel_rfl
theorem Zf2 : cal Tryz.prog 19 = true := by kernel_rfl
theorem Zfb : cal Tryz.prog 20 = true := by kernel_rfl
theorem Zep : cal Tryz.prog 21 = true := by kernel_rfl
theorem Zf1 : cal Tryz.prog 22 = true := by kernel_rfl
theorem Zai (o : Obj) : ∃ o2 : Obj, o2 ≠ o := by
  by_cases h : o = cel 0 []
  · refine ⟨cel 0 [.bool true], fun e => ?_⟩
    rw [h] at e
    simp [cel] at e
  · exact ⟨cel 0 [], fun e => h e.symm⟩
theorem Z8d {b : Nat} {o : Obj} {T : Zj} {R R' : Z9} {w : World} (h : St T (Z8G b o R :: R') w) : b ∉ ids T := fun hb => by
  obtain ⟨o2, ho⟩ := Zai o
  have h0 := (h.now (f := Z8G b o R) (by simp)).1
  have hlt : b < w.heap.size := (Array.getElem?_eq_some_iff.1 h0).1
  have k1 : Keep (ids T) w { w with heap := w.heap.setIfInBounds b o2 } := ⟨rfl, rfl, rfl, by simp, fun i hi hn => by
    show (w.heap.setIfInBounds b o2)[i]? = _
    rw [Array.getElem?_setIfInBounds_ne (fun (e : b = i) => hn (e ▸ hb))]⟩
  have h2 := (h.fact (Z8G b o R) (by simp) _ k1).1
  have h3 : (w.heap.setIfInBounds b o2)[b]? = some o := h2
  rw [Array.getElem?_setIfInBounds_self_of_lt hlt] at h3
  exact ho (Option.some.inj h3)
theorem Z85 {P : Program} {f : FuncId} {args : List Value} {b e sz : Nat} {rows : List (List Value)} {junk : List Value} {H T : Zj} {R : Z9} {Q : Value → Zj → Prop} [pl : Pull b (cel e (rows.flatten ++ junk)) H T] (hs : ∀ r ∈ rows, r.length = sz)
    (h : ∀ B : World → Prop, Fn P f args T (RowsA (some ⟨b, 0, none⟩) sz rows :: B :: R) (fun v H' R' => Q v H' ∧ R' = RowsA (some ⟨b, 0, none⟩) sz rows :: B :: R)) :
    Fn P f args H R (fun v H' R' => ∃ H1, Q v H1 ∧ H' = (b, cel e (rows.flatten ++ junk)) :: H1 ∧ R' = R) := fun w hw => by
  have h1 := hw.perm pl.perm
  have h3 : St T (RowsA (some ⟨b, 0, none⟩) sz rows :: Z8G b (cel e (rows.flatten ++ junk)) R :: R) w :=
    St.also h1.lend (fun w' hg => Z4Z (hg (Z8G b (cel e (rows.flatten ++ junk)) R) (by simp)).1 hs)
  refine CallsIn.mono (h _ w h3) ?_
  rintro e' w' ⟨u, H', R', ⟨hq, rfl⟩, he, hs'⟩
  exact ⟨_, _, R, ⟨H', hq, rfl, rfl⟩, he, St.unlend hs'.ftail (Z8d hs'.ftail)⟩
theorem Z8O {b off sz : Nat} {rows : List (List Value)} {w : World} (h : RowsA (some ⟨b, off, none⟩) sz rows w) (j : Nat) : RowsA (some ⟨b, off + j * sz, none⟩) sz (rows.drop j) w := fun i row hi => by
  rw [List.getElem?_drop] at hi
  obtain ⟨h1, b', o', he, h2⟩ := h (j + i) row hi
  cases he
  refine ⟨h1, b, off + j * sz, rfl, fun k x hx => ?_⟩
  have := h2 k x hx
  rw [show off + (j + i) * sz + k = off + j * sz + i * sz + k by rw [Nat.add_mul]; omega] at this
  exact this
theorem Z7a {b off sz : Nat} {rows : List (List Value)} {H : Zj} {R : Z9} {w : World} [m : MemRows (some ⟨b, off, none⟩) sz rows R] (h : St H R w) (n : Nat) : St H (RowsA (some ⟨b, off + n * sz, none⟩) sz (rows.drop n) :: R) w := h.also fun _ hg => Z8O (hg _ m.mem) n
section Zet
variable {P : Program} {r : Option Nat} {ops : Array Oper} {n : Nat} {L : ZI} {D : List Deferred} {H : Zj} {R : Z9} {K : Act → World → Prop}
  {i d : Nat} {ty : TypeId} {pos : String} {af : Array Edge}
theorem Zfy {T e s y j t : Nat} {bb : Bool} {oj : Oper} {x z : Operand} {kl kc : IntKind} {l c : Nat} {zl : List Value} (ho : ops[i]? = some ⟨some d, .makeSlice T x z, ty, pos, af, some (j, bb)⟩) (hj : ops[j]? = some oj) (ht : oj.dst = some t) (hg : lk L t = some (.bool bb)) (hp : apT P T = some (e, s, y)) (hz : Z0n P e = some zl)
    (hx : ev L x = some (.int kl l)) (hy : ev L z = some (.int kc c)) (hlc : l ≤ c) (hb : y * c ≤ 281474976710656 ∧ c ≤ 9223372036854775807) (hd : Nat.blt d n = true)
    (h : ∀ b, Sy n ((d, .slice (some ⟨b, 0, none⟩) l c) :: L) D ((b, cel e (Z2b c zl)) :: H) R K) : Sy n L D H R (stp P r ops i K) := fun a w ha hD hs => by
  obtain ⟨h1, _⟩ := Z7b hp hz hlc hb.1 hb.2 (kl := kl) (kc := kc) w
  refine ZN ho (by simp [Region.wanted, Z0f ha hj ht hg]) (v := .slice (some ⟨w.heap.size, 0, none⟩) l c) (w' := w.alloc (cel e (Z2b c zl))) ?_ (h _ _ _ (ha.put (by simpa using hd) _) hD (hs.alloc _))
  simp only [execOp, ha.reads _ _ hx, ha.reads _ _ hy, Sem.run_bind, h1, Result.andThen, Sem.run_pure]
theorem Zet {t e sz by_ c cap b : Nat} {s x : Operand} {r0 : List Value} {rs news : List (List Value)} {junk : List Value} {bx offx : Nat} {T : Zj}
    (ho : ops[i]? = some ⟨some d, .call { callee := .builtin .append, args := #[s, x], argTypes := #[t, t] }, ty, pos, af, none⟩) (ht : apT P t = some (e, sz, by_))
    (hs : ev L s = some (.slice (some ⟨b, sz, none⟩) rs.length (cap - 1))) (hx : ev L x = some (.slice (some ⟨bx, offx, none⟩) news.length c)) (hr : ∀ w, St H R w → RowsA (some ⟨bx, offx, none⟩) sz news w) (h1 : Z0C news = true) (hn : 0 < news.length)
    (hl : ∀ r ∈ r0 :: rs, r.length = sz) (hj : (rs.length + 1) * sz + junk.length = cap * sz) (hc : rs.length + 1 ≤ cap)
    (hb : (rs.length + news.length) * by_ ≤ 140737488355328 ∧ rs.length + news.length ≤ 9223372036854775807) (hd : Nat.blt d n = true) [pl : Pull b (cel e ((r0 :: rs).flatten ++ junk)) H T]
    (h : ∀ a c', Sy n ((d, .slice a (rs ++ news).length c') :: L) D T (RowsA a sz (rs ++ news) :: R) K) : Sy n L D H R (stp P r ops i K) := fun a w ha hD hs0 => by
  have hrn := hr w hs0
  have hP := hs0.perm pl.perm
  unfold apT at ht
  split at ht
  case h_2 => cases ht
  rename_i e' hu
  split at ht
  case h_2 => cases ht
  rename_i ie hi
  split at ht
  case h_2 => cases ht
  rename_i z hz
  cases hzs : Nat.beq z.cells.size ie.size with
  | false => rw [hzs] at ht; cases ht
  | true =>
  rw [hzs, cond_true] at ht
  cases ht
  have hzs := Nat.eq_of_beq_eq_true hzs
  have hnl := Z7T hrn
  have hrl : ∀ r ∈ rs, r.length = ie.size := fun r h => hl r (by simp [h])
  have hr0 : r0.length = ie.size := hl r0 (by simp)
  have hnf := Z09 hnl
  have hrf := Z09 hrl
  have hall : ∀ r ∈ r0 :: (rs ++ news), r.length = ie.size := fun r h => by
    rcases List.mem_cons.1 h with h | h
    · rw [h]; exact hr0
    · rcases List.mem_append.1 h with h | h
      · exact hrl r h
      · exact hnl r h
  have hcell : ∀ j v, news.flatten[j]? = some v → w.cell? ((⟨bx, offx, none⟩ : Addr).add j) = some v := fun j v h => by rw [Z0Y]; exact Z49 hrn j v h
  have hbk : w.heap[b]? = some (cel e ((r0 :: rs).flatten ++ junk)) := hP.held (b, cel e ((r0 :: rs).flatten ++ junk)) (by simp)
  have key : ∃ (a' : Option Addr) (c' : Nat) (w' : World), (Builtin.append_ #[t, t] ty #[.slice (some ⟨b, ie.size, none⟩) rs.length (cap - 1), .slice (some ⟨bx, offx, none⟩) news.length c]).run P w = .ok (.slice a' (rs ++ news).length c') w' ∧ St T (RowsA a' ie.size (rs ++ news) :: R) w' := by
    by_cases hroom : rs.length + news.length ≤ cap - 1
    · have hm2 : (rs.length + 1 + news.length) * ie.size ≤ cap * ie.size := Nat.mul_le_mul_right _ (by omega)
      rw [Nat.add_mul] at hm2
      have hll : ((r0 :: rs).flatten ++ junk).length = cap * ie.size := by rw [List.length_append, Z09 hl, List.length_cons]; exact hj
      have e5 : ie.size + rs.length * ie.size = (rs.length + 1) * ie.size := by rw [Nat.succ_mul]; omega
      have hst := Z8r (P := P) (od := ie.size + rs.length * ie.size) (List.all_eq_true.2 (Z7l h1)) (by rw [hll, hnf, e5]; exact hm2) hbk
      have hfc := run_firstCells_some (P := P) w ie.size news.length ⟨bx, offx, none⟩ news.length c news.flatten hnf hcell
      refine ⟨some ⟨b, ie.size, none⟩, cap - 1, { w with heap := w.heap.setIfInBounds b (cel e (spl ((r0 :: rs).flatten ++ junk) (ie.size + rs.length * ie.size) news.flatten)) }, ?_, ?_⟩
      · have e0 : (⟨b, ie.size, none⟩ : Addr).add (rs.length * ie.size) = ⟨b, ie.size + rs.length * ie.size, none⟩ := by rw [Z0Y]
        simp [Builtin.append_, run_underlying hu, sizeOf, typeInfo, hi, Builtin.lenOf, hroom, hfc, e0, hst]
      · have e6 : spl ((r0 :: rs).flatten ++ junk) (ie.size + rs.length * ie.size) news.flatten = (r0 :: (rs ++ news)).flatten ++ junk.drop news.flatten.length := by
          have e7 : ie.size + rs.length * ie.size = (r0 :: rs).flatten.length := by rw [Z09 hl, List.length_cons, e5]
          rw [e7]
          unfold spl
          rw [List.take_left, List.drop_append]
          simp
        rw [e6]
        have h9 : St ((b, cel e ((r0 :: (rs ++ news)).flatten ++ junk.drop news.flatten.length)) :: T) R _ := St.set hP
        have h10 := Z7a (b := b) (off := 0) (sz := ie.size) (rows := r0 :: (rs ++ news)) (St.rows (sz := ie.size) (rows := r0 :: (rs ++ news)) (rest := junk.drop news.flatten.length) h9 hall) 1
        rw [show 0 + 1 * ie.size = ie.size from by omega] at h10
        exact h10.facts (fun g hg => by simp only [List.mem_cons] at hg ⊢; rcases hg with h8 | h8 <;> simp [h8])
    · have holds : ∀ j v, rs.flatten[j]? = some v → w.cell? ((⟨b, ie.size, none⟩ : Addr).add j) = some v := fun j v h => by
        have hlt : j < rs.flatten.length := (List.getElem?_eq_some_iff.1 h).1
        rw [Z0Y, Z2h hbk]
        simp only [List.getElem?_toArray]
        rw [List.getElem?_append_left (by rw [List.flatten_cons, List.length_append, hr0]; omega), List.flatten_cons, List.getElem?_append_right (by omega), hr0, show ie.size + j - ie.size = j by omega]; exact h
      have h2 := run_append_grow (P := P) w t ty e ie z hu hi hz ⟨b, ie.size, none⟩ rs.length (cap - 1) rs.flatten hrf holds ⟨bx, offx, none⟩ news.length c news.flatten hnf hcell (by omega) (by omega) (growslice_fits (by omega) hb.1)
      refine ⟨some ⟨w.heap.size, 0, none⟩, grownCap w (rs.length + news.length) (cap - 1) e, _, by rw [List.length_append]; exact h2, ?_⟩
      have h3 := (St.tail hP).drew.alloc (.cells (rs.flatten.toArray ++ news.flatten.toArray ++ Builtin.zeroCells z.cells (grownCap w (rs.length + news.length) (cap - 1) e - (rs.length + news.length))) e)
      have e1 : (cel e ((rs ++ news).flatten ++ (Builtin.zeroCells z.cells (grownCap w (rs.length + news.length) (cap - 1) e - (rs.length + news.length))).toList)) = .cells (rs.flatten.toArray ++ news.flatten.toArray ++ Builtin.zeroCells z.cells (grownCap w (rs.length + news.length) (cap - 1) e - (rs.length + news.length))) e := by
        unfold cel; congr 1; apply Array.toList_inj.1; simp
      have h4 : St ((w.heap.size, cel e ((rs ++ news).flatten ++ (Builtin.zeroCells z.cells (grownCap w (rs.length + news.length) (cap - 1) e - (rs.length + news.length))).toList)) :: T) R (w.drew.alloc (.cells (rs.flatten.toArray ++ news.flatten.toArray ++ Builtin.zeroCells z.cells (grownCap w (rs.length + news.length) (cap - 1) e - (rs.length + news.length))) e)) := by rw [e1]; exact h3
      exact St.rows (sz := ie.size) (rows := rs ++ news) h4 (fun r hr => hall r (by simp [List.mem_append.1 hr]))
  obtain ⟨a', c', w', h2, h3⟩ := key
  refine ZN ho (Zx _ rfl _) (v := .slice a' (rs ++ news).length c') (w' := w') ?_ (h a' c' _ _ (ha.put (by simpa using hd) _) hD h3)
  simp only [execOp, resolve, invoke, builtin, Sem.run_bind, Sem.run_pure, Result.andThen, List.map_toArray, List.map_cons, List.map_nil, ha.reads _ _ hs, ha.reads _ _ hx]
  rw [h2]
end Zet
theorem ZaH {σ : Sv} (h : Z3w mill σ) : tab mill σ.y = tab mill Z4s := Z6e mill_ok (fun s hs => Z39 h s hs)
theorem Zas : 3 ≤ (tab mill Z4s).length := by decide +kernel
theorem Z7d {σ : Sv} (h : Z3w mill σ) {s : Sta} (hs : s.right mill = true) (hl : lat Z4s s ≠ 1000000) : ∃ p ∈ σ.fl, p.1 = s := by
  have h1 := (Z4h mill_ok h).1.at_ s hs
  have e : Z3b σ.y s = false := by unfold Z3b; rw [Z39 h s hs]; exact decide_eq_false hl
  rw [e] at h1
  have h2 := Z15 σ.fl s (lat σ.y s + 1)
  rw [h1] at h2
  have h3 : Zs σ.fl s (lat σ.y s + 1) = true := by rw [h2]; simp [leO]
  obtain ⟨p, hp, h4⟩ := List.any_eq_true.1 h3
  simp only [Bool.and_eq_true, decide_eq_true_eq] at h4
  exact ⟨p, hp, h4.1⟩
theorem Z9X {σ : Sv} (h : Z3w mill σ) : 3 ≤ σ.fl.length := by
  obtain ⟨p, hp, e1⟩ := Z7d h (s := ⟨12, 0, 0⟩) (by decide +kernel) (by decide +kernel)
  obtain ⟨q, hq, e2⟩ := Z7d h (s := ⟨12, 0, 1⟩) (by decide +kernel) (by decide +kernel)
  obtain ⟨u, hu, e3⟩ := Z7d h (s := ⟨12, 0, 2⟩) (by decide +kernel) (by decide +kernel)
  match hl : σ.fl with
  | [] => rw [hl] at hp; cases hp
  | [a] =>
    rw [hl] at hp hq
    obtain rfl := List.mem_singleton.1 hp
    obtain rfl := List.mem_singleton.1 hq
    rw [e1] at e2; exact absurd e2 (by decide)
  | [a, b] =>
    rw [hl] at hp hq hu
    simp only [List.mem_cons, List.not_mem_nil, or_false] at hp hq hu
    exfalso
    rcases hp with rfl | rfl <;> rcases hq with rfl | rfl <;> rcases hu with rfl | rfl <;> first | (rw [e1] at e2; exact absurd e2 (by decide)) | (rw [e1] at e3; exact absurd e3 (by decide)) | (rw [e2] at e3; exact absurd e3 (by decide))
  | _ :: _ :: _ :: _ => simp
theorem Z7J {α : Type} {l : List α} (h : 3 ≤ l.length) : ∃ a b c l', l = a :: b :: c :: l' := by
  match l, h with
  | a :: b :: c :: l', _ => exact ⟨a, b, c, l', rfl⟩
theorem Z5Q (t : Twn) (a : Option Addr) (c : Nat) (hl : t.rats.length ≤ 9223372036854775807) (s : Sta) (r : Int) (bad : Bool) (rs : List Int) (a1 : Option Addr) (c1 : Nat) (hl1 : rs.length ≤ 1000000) (bs : List Bool) (a2 : Option Addr) (c2 : Nat) (hl2 : bs.length ≤ 1000000) (bads : Int) (tb : List Rw) (a3 : Option Addr) (c3 : Nat) (hl3 : tb.length ≤ 1000000) (l : List Fat) (a4 : Option Addr) (c4 : Nat) (hl4 : l.length ≤ 1000000) (H : Zj) (R : Z9) [hR : MemRows a 2 (Zf t.rats) R] [hR1 : MemRows a1 1 (Zh rs) R] [hR2 : MemRows a2 1 (ZM bs) R] [hR3 : MemRows a3 5 (Zt tb) R] [hR4 : MemRows a4 4 (Zo l) R] :
    Fn Tryz.prog 9 [t.v (t.sl a c), s.v, .int .i64 r, .bool bad, .slice a1 rs.length c1, .slice a2 bs.length c2, .int .i64 bads, .slice a3 tb.length c3, .slice a4 l.length c4] H R (fun v H' R' => v = .bool true ∧ H' = H ∧ R' = R) := by
  refine Zq Tryz.func9 rfl Tryz.ntmps9 rfl ?_
  refine Z0 ?_
  refine Z1 [0, 1, 2] rfl ?_
  refine bx rfl rfl rfl (fun b9 => ?_)
  refine bx rfl rfl rfl (fun b10 => ?_)
  refine sp rfl (PE.assign rfl) rfl ?_
  refine Z0 ?_
  refine Z1 [0, 1, 2, 3, 4, 5, 6, 7, 8, 9, 10, 11, 12, 13, 14, 15, 16, 17, 18, 19, 20, 21, 22, 23, 24, 25, 26, 27, 28, 29, 30, 31, 32] rfl ?_
  refine spL rfl rfl (lhA [_, _, _, _, _, _, _, _, _, _, _] Zd rfl rfl rfl) rfl ?_
  refine spL rfl rfl (lhA [_, _, _] ZF rfl rfl rfl) rfl ?_
  refine sp rfl (PE.move rfl) rfl ?_
  refine sp rfl (PE.move rfl) rfl ?_
  refine cl rfl Zf7 rfl rfl (Z5W t a c (by omega) s r bad _ _) ?_
  rintro _ _ R1 ⟨rfl, rfl, hR1⟩
  obtain rfl := hR1.symm
  clear hR1
  refine sp rfl (PE.move rfl) rfl ?_
  refine Zg (t := 24) rfl (fun g24 => ?_) (fun g24 => ?_)
  ·
   refine Z03 rfl rfl rfl rfl rfl (lhA [_, _, _, _, _, _, _, _, _, _, _] Zd rfl rfl rfl) rfl ?_
   refine spG rfl rfl rfl rfl (PE.move rfl) rfl ?_
   refine spG rfl rfl rfl rfl (PE.move rfl) rfl ?_
   refine clG rfl rfl rfl rfl Zfr rfl rfl (Z6K t a c (by omega) rs a1 c1 (by omega) bs a2 c2 (by omega) _ _) ?_
   rintro _ _ R1 ⟨rfl, rfl, hR1⟩
   obtain rfl := hR1.symm
   clear hR1
   refine sp rfl (PE.pick rfl rfl rfl) rfl ?_
   refine sp rfl (PE.move rfl) rfl ?_
   refine Zg (t := 30) rfl (fun g30 => ?_) (fun g30 => ?_)
   ·
    refine Z03 rfl rfl rfl rfl rfl (lhA [_, _, _, _, _, _, _, _, _, _, _] Zd rfl rfl rfl) rfl ?_
    refine Z03 rfl rfl rfl rfl rfl (lhA [_, _, _] ZF rfl rfl rfl) rfl ?_
    refine spG rfl rfl rfl rfl (PE.move rfl) rfl ?_
    refine clG rfl rfl rfl rfl Zf2 rfl rfl (Z6D t a c (by omega) s bads _ _) ?_
    rintro _ _ R1 ⟨rfl, rfl, hR1⟩
    obtain rfl := hR1.symm
    clear hR1
    refine sp rfl (PE.pick rfl rfl rfl) rfl ?_
    refine sp rfl (PE.move rfl) rfl ?_
    refine Zg (t := 36) rfl (fun g36 => ?_) (fun g36 => ?_)
    ·
     refine Z03 rfl rfl rfl rfl rfl (lhA [_, _, _, _, _, _, _, _, _, _, _] Zd rfl rfl rfl) rfl ?_
     refine spG rfl rfl rfl rfl (PE.move rfl) rfl ?_
     refine clG rfl rfl rfl rfl Zfb rfl rfl (Z5N t a c (by omega) tb a3 c3 (by omega) _ _) ?_
     rintro _ _ R1 ⟨rfl, rfl, hR1⟩
     obtain rfl := hR1.symm
     clear hR1
     refine sp rfl (PE.pick rfl rfl rfl) rfl ?_
     refine sp rfl (PE.move rfl) rfl ?_
     refine Zg (t := 41) rfl (fun g41 => ?_) (fun g41 => ?_)
     ·
      refine Z03 rfl rfl rfl rfl rfl (lhA [_, _, _, _, _, _, _, _, _, _, _] Zd rfl rfl rfl) rfl ?_
      refine spG rfl rfl rfl rfl (PE.move rfl) rfl ?_
      refine clG rfl rfl rfl rfl Zep rfl rfl (Z6h t a c (by omega) l a4 c4 (by omega) _ _) ?_
      rintro _ _ R1 ⟨rfl, rfl, hR1⟩
      obtain rfl := hR1.symm
      clear hR1
      refine sp rfl (PE.pick rfl rfl rfl) rfl ?_
      refine sp rfl (PE.move rfl) rfl ?_
      refine Zg (t := 46) rfl (fun g46 => ?_) (fun g46 => ?_)
      ·
       refine Z03 rfl rfl rfl rfl rfl (lhA [_, _, _, _, _, _, _, _, _, _, _] Zd rfl rfl rfl) rfl ?_
       refine spG rfl rfl rfl rfl (PE.move rfl) rfl ?_
       refine clG rfl rfl rfl rfl Zf1 rfl rfl (Z6H t a c (by omega) bads _ _) ?_
       rintro _ _ R1 ⟨rfl, rfl, hR1⟩
       obtain rfl := hR1.symm
       clear hR1
       refine sp rfl (PE.pick rfl rfl rfl) rfl ?_
       refine sp rfl (PE.assign rfl) rfl ?_
       refine Z4 ?_
       exact Z2 (vs := [_]) rfl (.cons (RV.tmp rfl) .nil) rfl ⟨rfl, rfl, rfl⟩ drp
      ·
       exact absurd g46 (by simp)
     ·
      exact absurd g41 (by simp)
    ·
     exact absurd g36 (by simp)
   ·
    exact absurd g30 (by simp)
  ·
   exact absurd g24 (by simp)
theorem ZcA (H : Zj) (R : Z9) :
    Fn Tryz.prog 4 [] H R (fun v H' R' => ∃ b, v = mill.v (.slice (some ⟨b, 0, none⟩) 2 2) ∧ H' = (b, cel 44 [.int .i64 4, .int .i64 10, .int .i64 2, .int .i64 16]) :: H ∧ R' = R) := by
  refine Zq Tryz.func4 rfl Tryz.ntmps4 rfl ?_
  refine Z0 ?_
  refine Z1 [0] rfl ?_
  refine alc rfl Z04 rfl (fun b0 => ?_)
  refine Z0 ?_
  refine Z1 [0, 1, 2, 3, 4, 5] rfl ?_
  refine sp rfl (PE.build (out := [_, _, _]) Z7z Z2M rfl rfl) rfl ?_
  refine sp rfl (PE.build (out := [_, _]) Ze4 Z6P rfl rfl) rfl ?_
  refine sp rfl (PE.build (out := [_, _]) Ze4 Z6P rfl rfl) rfl ?_
  refine bsl (out := [_, _, _, _]) rfl ZcU Z6P rfl rfl rfl rfl rfl rfl (fun b4 => ?_)
  refine sp rfl (PE.build (out := [_, _, _, _, _, _, _, _, _, _, _]) ZdU Z04 rfl rfl) rfl ?_
  refine sto rfl rfl rfl ZO rfl rfl rfl rfl ?_
  refine Z4 ?_
  exact Z2 (vs := [_]) rfl (.cons (RV.cell rfl (lhA [_, _, _, _, _, _, _, _, _, _, _] Zd rfl rfl rfl)) .nil) rfl ⟨b4, rfl, rfl, rfl⟩ (fun w h => (h.pull b0).tail)
theorem Z9A (t : Twn) (h : t.check ≠ 0) (a : Option Addr) (c : Nat) (hl : t.rats.length ≤ 9223372036854775807) (H : Zj) (R : Z9) [hR : MemRows a 2 (Zf t.rats) R] :
    FnV Tryz.prog 36 [t.v (t.sl a c)] H R (.tuple #[.pointer none, .int .i64 t.check]) := by
  refine Zq Tryz.func36 rfl Tryz.ntmps36 rfl ?_
  refine Z0 ?_
  refine Z1 [0, 1, 2] rfl ?_
  refine bx rfl rfl rfl (fun b1 => ?_)
  refine sp rfl (PE.assign rfl) rfl ?_
  refine sp rfl (PE.assign rfl) rfl ?_
  refine Z0 ?_
  refine Z0 ?_
  refine Z1 [0, 1, 2] rfl ?_
  refine spL rfl rfl (lhA [_, _, _, _, _, _, _, _, _, _, _] Zd rfl rfl rfl) rfl ?_
  refine clV rfl ZaD rfl rfl (Z5m t a c hl _ _) ?_
  refine sp rfl (PE.assign rfl) rfl ?_
  refine Z0 ?_
  refine Z1 [0, 1] rfl ?_
  refine sp rfl (PE.move rfl) rfl ?_
  refine sp rfl (PE.neq rfl rfl) rfl ?_
  refine Z5 rfl (fun hc0 => ?_) (fun hc0 => ?_)
  ·
   refine Z0 ?_
   refine Z1 [0, 1, 2] rfl ?_
   refine sp rfl (PE.move rfl) rfl ?_
   refine sp rfl (PE.assign rfl) rfl ?_
   refine sp rfl (PE.assign rfl) rfl ?_
   refine Z4 ?_
   exact Z2 (vs := [_, _]) rfl (.cons (RV.tmp rfl) (.cons (RV.tmp rfl) .nil)) rfl ⟨rfl, rfl, rfl⟩ drp
  ·
   exact absurd hc0 (by simp; exact h)
theorem Z6o (t : Twn) (h : t.check ≠ 0) (a : Option Addr) (c : Nat) (hl : t.rats.length ≤ 9223372036854775807) (H : Zj) (R : Z9) [hR : MemRows a 2 (Zf t.rats) R] :
    FnV Tryz.prog 12 [t.v (t.sl a c)] H R (.tuple #[.pointer none, .int .i64 t.check]) := by
  refine Zq Tryz.func12 rfl Tryz.ntmps12 rfl ?_
  refine Z0 ?_
  refine Z1 [0, 1, 2] rfl ?_
  refine bx rfl rfl rfl (fun b1 => ?_)
  refine sp rfl (PE.assign rfl) rfl ?_
  refine sp rfl (PE.assign rfl) rfl ?_
  refine Z0 ?_
  refine Z1 [0, 1, 2, 3, 4, 5, 6] rfl ?_
  refine spL rfl rfl (lhA [_, _, _, _, _, _, _, _, _, _, _] Zd rfl rfl rfl) rfl ?_
  refine clV rfl Z5w rfl rfl (Z9A t h a c hl _ _) ?_
  refine sp rfl (PE.move rfl) rfl ?_
  refine sp rfl (PE.extract rfl rfl) rfl ?_
  refine sp rfl (PE.extract rfl rfl) rfl ?_
  refine sp rfl (PE.assign rfl) rfl ?_
  refine sp rfl (PE.assign rfl) rfl ?_
  refine Z0 ?_
  refine Z0 ?_
  refine Z1 [0, 1] rfl ?_
  refine sp rfl (PE.move rfl) rfl ?_
  refine sp rfl (PE.neq rfl rfl) rfl ?_
  refine Z5 rfl (fun hc0 => ?_) (fun hc0 => ?_)
  ·
   refine Z0 ?_
   refine Z1 [0, 1, 2] rfl ?_
   refine sp rfl (PE.move rfl) rfl ?_
   refine sp rfl (PE.assign rfl) rfl ?_
   refine sp rfl (PE.assign rfl) rfl ?_
   refine Z4 ?_
   exact Z2 (vs := [_, _]) rfl (.cons (RV.tmp rfl) (.cons (RV.tmp rfl) .nil)) rfl ⟨rfl, rfl, rfl⟩ drp
  ·
   exact absurd hc0 (by simp; exact h)
theorem ZaS (t : Twn) (h : t.check ≠ 0) (a : Option Addr) (c : Nat) (hl : t.rats.length ≤ 9223372036854775807) (H : Zj) (R : Z9) [hR : MemRows a 2 (Zf t.rats) R] :
    FnV Tryz.prog 5 [t.v (t.sl a c)] H R (.tuple #[.slice none 0 0, .int .i64 t.check]) := by
  refine Z6I Tryz.func5 rfl Tryz.ntmps5 rfl ?_
  refine Z0 ?_
  refine Z1 [0, 1, 2] rfl ?_
  refine bx rfl rfl rfl (fun b1 => ?_)
  refine sp rfl (PE.assign rfl) rfl ?_
  refine sp rfl (PE.assign rfl) rfl ?_
  refine Z0 ?_
  refine Z1 [0, 1, 2, 3, 4, 5, 6, 7] rfl ?_
  refine spL rfl rfl (lhA [_, _, _, _, _, _, _, _, _, _, _] Zd rfl rfl rfl) rfl ?_
  refine clV rfl Z6A rfl rfl (Z6o t h a c hl _ _) ?_
  refine sp rfl (PE.move rfl) rfl ?_
  refine sp rfl (PE.extract rfl rfl) rfl ?_
  refine sp rfl (PE.extract rfl rfl) rfl ?_
  refine alc rfl ZaT rfl (fun b4 => ?_)
  refine sto rfl rfl rfl ZaC rfl rfl rfl rfl ?_
  refine sp rfl (PE.assign rfl) rfl ?_
  refine Z0 ?_
  refine Z0 ?_
  refine Z1 [0, 1] rfl ?_
  refine sp rfl (PE.move rfl) rfl ?_
  refine sp rfl (PE.neq rfl rfl) rfl ?_
  refine Z5 rfl (fun hc0 => ?_) (fun hc0 => ?_)
  ·
   refine Z0 ?_
   refine Z1 [0, 1, 2] rfl ?_
   refine sp rfl (PE.move rfl) rfl ?_
   refine sp rfl (PE.assign rfl) rfl ?_
   refine sp rfl (PE.assign rfl) rfl ?_
   refine Z4 ?_
   exact Zr [] (fun _ h => h) rfl (.cons (RV.tmp rfl) (.cons (RV.tmp rfl) .nil)) rfl ⟨rfl, rfl, rfl⟩ drp
  ·
   exact absurd hc0 (by simp; exact h)
theorem ZaJ (t : Twn) (h : t.check ≠ 0) (a : Option Addr) (c : Nat) (hl : t.rats.length ≤ 9223372036854775807) (H : Zj) (R : Z9) [hR : MemRows a 2 (Zf t.rats) R] :
    FnV Tryz.prog 6 [t.v (t.sl a c)] H R (.tuple #[.slice none 0 0, .int .i64 t.check]) := by
  refine Zq Tryz.func6 rfl Tryz.ntmps6 rfl ?_
  refine Z0 ?_
  refine Z1 [0, 1, 2] rfl ?_
  refine bx rfl rfl rfl (fun b1 => ?_)
  refine sp rfl (PE.assign rfl) rfl ?_
  refine sp rfl (PE.assign rfl) rfl ?_
  refine Z0 ?_
  refine Z1 [0, 1, 2, 3, 4, 5, 6] rfl ?_
  refine spL rfl rfl (lhA [_, _, _, _, _, _, _, _, _, _, _] Zd rfl rfl rfl) rfl ?_
  refine clV rfl Z6A rfl rfl (Z6o t h a c hl _ _) ?_
  refine sp rfl (PE.move rfl) rfl ?_
  refine sp rfl (PE.extract rfl rfl) rfl ?_
  refine sp rfl (PE.extract rfl rfl) rfl ?_
  refine sp rfl (PE.assign rfl) rfl ?_
  refine sp rfl (PE.assign rfl) rfl ?_
  refine Z0 ?_
  refine Z0 ?_
  refine Z1 [0, 1] rfl ?_
  refine sp rfl (PE.move rfl) rfl ?_
  refine sp rfl (PE.neq rfl rfl) rfl ?_
  refine Z5 rfl (fun hc0 => ?_) (fun hc0 => ?_)
  ·
   refine Z0 ?_
   refine Z1 [0, 1, 2] rfl ?_
   refine sp rfl (PE.move rfl) rfl ?_
   refine sp rfl (PE.assign rfl) rfl ?_
   refine sp rfl (PE.assign rfl) rfl ?_
   refine Z4 ?_
   exact Z2 (vs := [_, _]) rfl (.cons (RV.tmp rfl) (.cons (RV.tmp rfl) .nil)) rfl ⟨rfl, rfl, rfl⟩ drp
  ·
   exact absurd hc0 (by simp; exact h)
theorem Z80 (t : Twn) (hl : t.rats.length ≤ 9223372036854775807) (ba oa ca : Nat) (H : Zj) (R : Z9) [hR : MemRows (some ⟨ba, oa, none⟩) 2 (Zf t.rats) R] :
    Fn Tryz.prog 6 [t.v (t.sl (some ⟨ba, oa, none⟩) ca)] H R (fun v H' R' => ∃ (l : List Fat) (o : OSl 41 4 (Zo l)), v = .tuple #[o.fs, .int .i64 (Z3f t)] ∧ H' = o.G ++ H ∧ R' = R ∧ l.length ≤ 496 ∧ (Z3f t ≠ 0 → l = []) ∧ (Z3f t = 0 → t.check = 0 ∧ LSA t (LY t) ∧ lat (LY t) t.now ≠ 1000000 ∧ stR t l = (lat (LY t) t.now + 1, 0)) ∧ (t.check = 0 → ∃ σ, Z3w t σ ∧ (Z3f t = 0 → l = σ.fl))) := by
  refine Zq Tryz.func6 rfl Tryz.ntmps6 rfl ?_
  refine Z0 ?_
  refine Z1 [0, 1, 2] rfl ?_
  refine bx rfl rfl rfl (fun b1 => ?_)
  refine sp rfl (PE.assign rfl) rfl ?_
  refine sp rfl (PE.assign rfl) rfl ?_
  refine Z0 ?_
  refine Z1 [0, 1, 2, 3, 4, 5, 6] rfl ?_
  refine spL rfl rfl (lhA [_, _, _, _, _, _, _, _, _, _, _] Zd rfl rfl rfl) rfl ?_
  refine cl rfl Z6A rfl rfl (Z2w t hl ba oa ca _ _) ?_
  rintro _ _ _ (⟨hck, rfl, rfl, rfl⟩ | ⟨hck, bw, m, bt, σ, o, hσ, rfl, rfl, rfl⟩)
  ·
   refine sp rfl (PE.move rfl) rfl ?_
   refine sp rfl (PE.extract rfl rfl) rfl ?_
   refine sp rfl (PE.extract rfl rfl) rfl ?_
   refine sp rfl (PE.assign rfl) rfl ?_
   refine sp rfl (PE.assign rfl) rfl ?_
   refine Z0 ?_
   refine Z0 ?_
   refine Z1 [0, 1] rfl ?_
   refine sp rfl (PE.move rfl) rfl ?_
   refine sp rfl (PE.neq rfl rfl) rfl ?_
   refine Zm (congrArg (fun b => some (Value.bool b)) (decide_eq_true hck)) ?_
   refine Z0 ?_
   refine Z1 [0, 1, 2] rfl ?_
   refine sp rfl (PE.move rfl) rfl ?_
   refine sp rfl (PE.assign rfl) rfl ?_
   refine sp rfl (PE.assign rfl) rfl ?_
   refine Z4 ?_
   have hfe : Z3f t = t.check := by simp [Z3f, hck]
   exact Z2 (vs := [_, _]) rfl (.cons (RV.tmp rfl) (.cons (RV.tmp rfl) .nil)) (by rw [hfe]; rfl) ⟨[], OSl.nil _ _, rfl, rfl, rfl, by simp, fun _ => rfl, (fun h => absurd (hfe ▸ h) hck), fun h => absurd h hck⟩ (fun _ h => by repeat first | exact h | replace h := St.tail h | replace h := St.ftail h | replace h := St.drop h)
  ·
   have hok := (Zi hck).1
   have hsl := Z2l hok hσ
   obtain ⟨hfl, hfn⟩ := Z4h hok hσ
   have hlsa := Z0P hok hσ
   have hev := (Z7V σ.fl t.now).trans (Z7H hok hσ hok.now)
   refine sp rfl (PE.move rfl) rfl ?_
   refine sp rfl (PE.extract rfl rfl) rfl ?_
   refine sp rfl (PE.extract rfl rfl) rfl ?_
   refine sp rfl (PE.assign rfl) rfl ?_
   refine sp rfl (PE.assign rfl) rfl ?_
   refine Z0 ?_
   refine Z0 ?_
   refine Z1 [0, 1] rfl ?_
   refine sp rfl (PE.move rfl) rfl ?_
   refine sp rfl (PE.neq rfl rfl) rfl ?_
   refine Zz (rfl) ?_
   refine Z3 ?_
   refine Z0 ?_
   refine Z0 ?_
   refine Ze [0, 1, 3, 7, 0, 16, 63, 127, 255, 255, 511, 2047] (.tk 0 (.tk 1 (.tk 2 (.ld 3 (.tk 4 (.ld 5 (.ld 6 (.tk 7 (.tk 8 (.tk 9 (.tk 10 (.tk 11 .done)))))))))))) Zy (by kernel_rfl) ?_
   refine tk rfl (PE.move rfl) rfl ?_
   refine tk rfl (PE.nilCheck rfl) rfl ?_
   refine tk rfl (PE.fieldAddr Z5e rfl) rfl ?_
   refine ld rfl rfl (lh ZcT rfl (Z3s hsl)) rfl ?_
   refine tk rfl (PE.fieldAddr Z0a rfl) rfl ?_
   refine ld rfl rfl (lhA [_, _, _] ZF rfl rfl rfl) rfl ?_
   refine ldK rfl rfl rfl (Z4K (Z3q σ.fl) [t.now.stock, t.now.short, t.now.dry] Z8E (KeyT.of Z3S Z8w) (Z6g zv3) rfl (Z5v _) true) rfl ?_
   rw [hev]
   refine tk rfl (PE.move rfl) rfl ?_
   refine tk rfl (PE.extract rfl rfl) rfl ?_
   refine tk rfl (PE.extract rfl rfl) rfl ?_
   refine tk rfl (PE.assign rfl) rfl ?_
   refine tk rfl (PE.assign rfl) rfl ?_
   refine Z0 ?_
   refine Z1 [0, 1] rfl ?_
   refine sp rfl (PE.move rfl) rfl ?_
   refine sp rfl (PE.not rfl) rfl ?_
   refine Z5 rfl (fun hc1 => ?_) (fun hc1 => ?_)
   ·
    have hlv : lat (LY t) t.now = 1000000 := by simpa using hc1
    have hfe : Z3f t = 6 := by simp [Z3f, hck, hlv]
    refine Z0 ?_
    refine Z1 [0, 1] rfl ?_
    refine sp rfl (PE.assign rfl) rfl ?_
    refine sp rfl (PE.assign rfl) rfl ?_
    refine Z4 ?_
    first
      | exact Z2 (vs := [_, _]) rfl (.cons (RV.tmp rfl) (.cons (RV.tmp rfl) .nil)) (by rw [hfe]; rfl) ⟨[], OSl.nil _ _, rfl, rfl, rfl, by simp, fun _ => rfl, (fun h => by rw [hfe] at h; cases h), fun _ => ⟨σ, hσ, fun h => by rw [hfe] at h; cases h⟩⟩ (fun w h => (((((h.del b1).del bw).del m).ftail).drop))
      | exact Z2 (vs := [_, _]) rfl (.cons (RV.tmp rfl) (.cons (RV.tmp rfl) .nil)) (by rw [hfe]; rfl) ⟨σ.fl, oc, rfl, rfl, rfl, hfn, fun h => absurd hfe h, fun _ => ⟨hck, hlsa.ly hok, hlv, hst⟩, fun _ => ⟨σ, hσ, fun _ => rfl⟩⟩ (fun w h => (((h.del b1).del bw).del m).ftail.ftail)
   ·
    have hlv : lat (LY t) t.now ≠ 1000000 := by simpa using hc1
    have hfe : Z3f t = 0 := by simp [Z3f, hck, hlv]
    have hst := Zd2 hck hσ (by rw [hlsa.same hok _ hok.now]; exact hlv)
    rw [hlsa.same hok _ hok.now] at hst
    refine Z3 ?_
    refine Z0 ?_
    refine Z1 [0, 1, 2, 3, 4, 5, 6] rfl ?_
    obtain ⟨a', c', ho, hf⟩ := o.freeze
    rw [ho]
    refine Sy.heap (fun w h => hf h) ?_
    rw [show (Zo σ.fl).length = σ.fl.length from List.length_map _]
    refine sp rfl (PE.move rfl) rfl ?_
    refine sp rfl (PE.nilCheck rfl) rfl ?_
    refine sp rfl (PE.fieldAddr Z7s rfl) rfl ?_
    refine spL rfl rfl (lh Zeb rfl (Z3V hsl)) rfl ?_
    refine cl rfl ZdJ rfl rfl (Z3G σ.fl a' c' (by omega) _ _) ?_
    rintro _ _ _ ⟨oc, rfl, rfl, rfl⟩
    refine sp rfl (PE.assign rfl) rfl ?_
    refine sp rfl (PE.assign rfl) rfl ?_
    refine Z4 ?_
    first
      | exact Z2 (vs := [_, _]) rfl (.cons (RV.tmp rfl) (.cons (RV.tmp rfl) .nil)) (by rw [hfe]; rfl) ⟨[], OSl.nil _ _, rfl, rfl, rfl, by simp, fun _ => rfl, (fun h => by rw [hfe] at h; cases h), fun _ => ⟨σ, hσ, fun h => by rw [hfe] at h; cases h⟩⟩ (fun w h => (((((h.del b1).del bw).del m).ftail).drop))
      | exact Z2 (vs := [_, _]) rfl (.cons (RV.tmp rfl) (.cons (RV.tmp rfl) .nil)) (by rw [hfe]; rfl) ⟨σ.fl, oc, rfl, rfl, rfl, hfn, fun h => absurd hfe h, fun _ => ⟨hck, hlsa.ly hok, hlv, hst⟩, fun _ => ⟨σ, hσ, fun _ => rfl⟩⟩ (fun w h => (((h.del b1).del bw).del m).ftail.ftail)
theorem Z9O {t : Twn} (h : t.rats = []) : t.check ≠ 0 := fun h0 => by
  have := (Zi h0).1.many
  rw [h] at this; simp at this
theorem ZaM (t : Twn) (a : Option Addr) (c : Nat) (hl : t.rats.length ≤ 9223372036854775807) (H : Zj) (R : Z9) [hR : MemRows a 2 (Zf t.rats) R] : Fn Tryz.prog 5 [t.v (t.sl a c)] H R (fun v H' R' => ∃ o : OSl 38 5 (Zt (Z3z t).1), v = .tuple #[o.fs, .int .i64 (Z3z t).2] ∧ H' = o.G ++ H ∧ R' = R) := fun w hw => by
  by_cases h0 : t.rats = []
  · have hck := Z9O h0
    have e : Z3z t = ([], t.check) := by simp [Z3z, hck]
    rw [e]
    refine CallsIn.mono (ZaS t hck a c hl H R w hw) ?_
    rintro e' w' ⟨u, H', R', ⟨rfl, rfl, rfl⟩, he, hs⟩
    exact ⟨_, _, _, ⟨OSl.nil _ _, rfl, rfl, rfl⟩, he, hs⟩
  · obtain ⟨ba, oa, rfl⟩ := Z37 (hw.now hR.mem) (by intro h1; exact h0 (by simpa [Zf] using h1))
    refine CallsIn.mono (Z83 t hl ba oa c H R w hw) ?_
    rintro e' w' ⟨u, H', R', ⟨o, h1, h2, h3, _⟩, he, hs⟩
    exact ⟨_, _, _, ⟨o, h1, h2, h3⟩, he, hs⟩
theorem Zb2 (t : Twn) (a : Option Addr) (c : Nat) (hl : t.rats.length ≤ 9223372036854775807) (H : Zj) (R : Z9) [hR : MemRows a 2 (Zf t.rats) R] : Fn Tryz.prog 6 [t.v (t.sl a c)] H R (fun v H' R' => ∃ (l : List Fat) (o : OSl 41 4 (Zo l)) (e : Int), l.length ≤ 496 ∧ v = .tuple #[o.fs, .int .i64 e] ∧ H' = o.G ++ H ∧ R' = R) := fun w hw => by
  by_cases h0 : t.rats = []
  · have hck := Z9O h0
    refine CallsIn.mono (ZaJ t hck a c hl H R w hw) ?_
    rintro e' w' ⟨u, H', R', ⟨rfl, rfl, rfl⟩, he, hs⟩
    exact ⟨_, _, _, ⟨[], OSl.nil _ _, t.check, by simp, rfl, rfl, rfl⟩, he, hs⟩
  · obtain ⟨ba, oa, rfl⟩ := Z37 (hw.now hR.mem) (by intro h1; exact h0 (by simpa [Zf] using h1))
    refine CallsIn.mono (Z80 t hl ba oa c H R w hw) ?_
    rintro e' w' ⟨u, H', R', ⟨l, o, h1, h2, h3, h4, _⟩, he, hs⟩
    exact ⟨_, _, _, ⟨l, o, _, h4, h1, h2, h3⟩, he, hs⟩
theorem Zb5 (t : Twn) : (Z3z t).1.length ≤ 496 := by
  by_cases h : (Z3z t).2 = 0
  · obtain ⟨h1, h2, h3⟩ := Z9S h
    rw [h3]; exact Z4f (Zi h1).1 _
  · rw [Z9h h]; simp
theorem Z7g (bm : Nat) (H : Zj) (R : Z9) {T : Zj} [pl : Pull bm (cel 44 [.int .i64 4, .int .i64 10, .int .i64 2, .int .i64 16]) H T] : Fn Tryz.prog 5 [mill.v (.slice (some ⟨bm, 0, none⟩) 2 2)] H R (fun v H' R' => ∃ H1, (∃ o : OSl 38 5 (Zt (tab mill Z4s)), v = .tuple #[o.fs, .int .i64 0] ∧ H1 = o.G ++ T) ∧ H' = (bm, cel 44 [.int .i64 4, .int .i64 10, .int .i64 2, .int .i64 16]) :: H1 ∧ R' = R) :=
  Z85 (e := 44) (rows := Zf mill.rats) (junk := []) (sz := 2) (pl := pl) (Z6G _) fun B => Fn.mono (Z6Y mill (by decide) bm 0 2 _ _) fun v H' R' hq => by
    rcases hq with ⟨⟨hck, rfl, rfl⟩ | ⟨hck, σ, hσ, ⟨h1, rfl, rfl⟩ | ⟨h1, o, rfl, rfl⟩⟩, rfl⟩
    · exact absurd Z0r hck
    · rw [Z1o hσ] at h1; exact absurd h1 (by decide)
    · have e := ZaH hσ
      exact ⟨⟨o.cast (by rw [e]), rfl, rfl⟩, rfl⟩
theorem Z73 (bm : Nat) (H : Zj) (R : Z9) {T : Zj} [pl : Pull bm (cel 44 [.int .i64 4, .int .i64 10, .int .i64 2, .int .i64 16]) H T] : Fn Tryz.prog 6 [mill.v (.slice (some ⟨bm, 0, none⟩) 2 2)] H R (fun v H' R' => ∃ H1, (∃ (l : List Fat) (o : OSl 41 4 (Zo l)) (e : Int), (3 ≤ l.length ∧ l.length ≤ 496) ∧ v = .tuple #[o.fs, .int .i64 e] ∧ H1 = o.G ++ T) ∧ H' = (bm, cel 44 [.int .i64 4, .int .i64 10, .int .i64 2, .int .i64 16]) :: H1 ∧ R' = R) :=
  Z85 (e := 44) (rows := Zf mill.rats) (junk := []) (sz := 2) (pl := pl) (Z6G _) fun B => Fn.mono (Z80 mill (by decide) bm 0 2 _ _) fun v H' R' hq => by
    obtain ⟨l, o, rfl, rfl, rfl, h4, h5, h6, h7⟩ := hq
    obtain ⟨σ, hσ, h8⟩ := h7 Z0r
    have e : Z3f mill = 0 := by
      have h9 := Z1o hσ
      rw [(Z0P mill_ok hσ).same mill_ok _ mill_ok.now] at h9
      unfold Z3f
      rw [h9, Z0r]; rfl
    have h10 := h8 e
    exact ⟨⟨l, o, _, ⟨by rw [h10]; exact Z9X hσ, h4⟩, rfl, rfl⟩, rfl⟩
theorem Z9s {l : List Int} {k : Nat} {x : Int} (h : l[k]? = some x) : (Zh l)[k]? = some [.int .i64 x] := by simp [Zh, h]
theorem Zds (k m : Nat) (hm : 0 < m) : Z2b k (List.replicate m (Value.int .i64 0)) = List.replicate (k * m) (.int .i64 0) := by
  unfold Z2b
  rw [List.length_replicate, List.eq_replicate_iff]
  refine ⟨by simp, fun x hx => ?_⟩
  obtain ⟨j, _, rfl⟩ := List.mem_map.1 hx
  have := Nat.mod_lt j hm
  simp [this]
theorem Z0J (k : Nat) : Z2b k [.int .i64 0, .int .i64 0, .int .i64 0, .int .i64 0, .int .i64 0] = (Zt (List.replicate k ⟨⟨0, 0, 0⟩, 0, 0⟩)).flatten := by
  have h := Zds k 5 (by omega)
  unfold Zt
  rw [List.map_replicate]
  show _ = (List.replicate k (List.replicate 5 (Value.int .i64 0))).flatten
  rw [List.flatten_replicate_replicate]; exact h
theorem Z0H (k : Nat) : Z2b k [.int .i64 0, .int .i64 0, .int .i64 0, .int .i64 0] = (Zo (List.replicate k (⟨0, 0, 0⟩, 0))).flatten := by
  have h := Zds k 4 (by omega)
  unfold Zo
  rw [List.map_replicate]
  show _ = (List.replicate k (List.replicate 4 (Value.int .i64 0))).flatten
  rw [List.flatten_replicate_replicate]; exact h
structure Sm25 where
  a0 : Int
  a1 : Int
  a2 : Int
  a3 : Int
  a4 : Int
  a5 : Int
  a6 : Int
  a7 : Int
  a8 : Int
  a9 : Int
  r0 : Int
  r1 : Int
  s0 : Int
  s1 : Int
  s2 : Int
  ra : Int
  p0 : Int
  p2 : Int
  bd : Int
  t1 : Int
  t2 : Int
  t0 : Int
  f2 : Int
  f1 : Int
  f0 : Int
def Sm25.tw (y : Sm25) : Twn := ⟨⟨y.a0, y.a1, y.a2⟩, y.a3, y.a4, y.a5, y.a6, y.a7, y.a8, y.a9, [⟨y.r0, 10⟩, ⟨2, y.r1⟩]⟩
def Sm25.tr (y : Sm25) (x0 x1 x2 : Rw) (xs : List Rw) : List Rw := ⟨⟨x0.st.stock, x0.st.short, y.t0⟩, x0.lasts, x0.ration⟩ :: ⟨x1.st, y.t1, x1.ration⟩ :: ⟨x2.st, x2.lasts, y.t2⟩ :: xs
def Sm25.fr (y : Sm25) (g0 g1 g2 : Fat) (gs : List Fat) : List Fat := (⟨g0.1.stock, y.f0, g0.1.dry⟩, g0.2) :: (⟨y.f1, g1.1.short, g1.1.dry⟩, g1.2) :: (g2.1, y.f2) :: gs
def ZcP : List Int := [-9223372036854775808, -2, -1, 0, 1, 2, 3, 4, 5, 6, 12, 13, 30, 31, 100, 101, 1000000, 1000001, 9223372036854775807]
def ZfU (n : Nat) : Twn := ⟨⟨0, 0, 0⟩, (n : Int) % 9, (n : Int) % 4, (n : Int) % 3, (n : Int) / 3 % 3, (n : Int) % 6, (n : Int) % 2, (n : Int) % 6, []⟩
def Zc1 (n : Nat) (l : List Rn) : Twn := ⟨⟨(n : Int) % ((n : Int) % 9 + 1), (n : Int) % ((n : Int) % 3 + 1), (n : Int) / 2 % ((n : Int) / 3 % 3 + 1)⟩, (n : Int) % 9, (n : Int) % 4, (n : Int) % 3, (n : Int) / 3 % 3, (n : Int) % 6, (n : Int) % 2, (n : Int) % 6, l⟩
def smR (n i : Nat) : Rn := ⟨4 + (n : Int) % 2 - i, 5 * i + (n : Int) % 7⟩
def smL (n i : Nat) : List Rn := (List.range i).map (smR n)
theorem ZaQ (n i : Nat) : smL n (i + 1) = smL n i ++ [smR n i] := by unfold smL; rw [List.range_succ, List.map_append]; rfl
theorem Z8V (n i : Nat) : (smL n i).length = i := by simp [smL]
end Go.Proofs.YthhdgeibokecjaaGreat.Bd
