/- Walks of the functions of the program: what each returns and leaves in memory, under the conditions that its theorem names. -/
import Derived.Test.YtaldphhdkmchhaaTy
import Derived.Test.YtaldphhdkmchhaaMa
import Derived.Test.YtaldphhdkmchhaaWk19
namespace Go.Proofs.Ytaldphhdkmchhaa
set_option linter.unusedSimpArgs false
set_option linter.unusedVariables false
open Go
/-- What Table answers. -/
noncomputable def tabP (t : Twn) : List Rw × Int := bif decide (t.check ≠ 0) then ([], t.check) else bif decide (lat (LY t) t.now = -1) then ([], 6) else (tab t (LY t), 0)
theorem findIdx_congr {α : Type} {p q : α → Bool} : ∀ {l : List α}, (∀ x ∈ l, p x = q x) → l.findIdx? p = l.findIdx? q
  | [], _ => rfl
  | a :: l, h => by rw [List.findIdx?_cons, List.findIdx?_cons, h a (by simp), findIdx_congr (l := l) (fun x hx => h x (by simp [hx]))]
theorem tabRow_congr {t : Twn} (ht : t.ok) {y y' : List Int} (h : Same t y y') {s : Sta} (hs : s.right t = true) : tabRow t y s = tabRow t y' s := by
  unfold tabRow
  rw [← h s hs, findIdx_congr (fun q hq => keeps_congr ht h hs hq _)]
theorem filterMap_congr2 {α β : Type} {f g : α → Option β} : ∀ {l : List α}, (∀ x ∈ l, f x = g x) → l.filterMap f = l.filterMap g
  | [], _ => rfl
  | a :: l, h => by simp only [List.filterMap_cons, h a (by simp), filterMap_congr2 (l := l) (fun x hx => h x (by simp [hx]))]
theorem tab_congr {t : Twn} (ht : t.ok) {y y' : List Int} (h : Same t y y') : tab t y = tab t y' := filterMap_congr2 fun s hs => tabRow_congr ht h (sts_right ht hs)
theorem tab_hit {t : Twn} (h : t.check = 0) (hn : lat (LY t) t.now ≠ -1) : tabP t = (tab t (LY t), 0) := by simp [tabP, h, hn]
theorem tab_none {t : Twn} (h : t.check = 0) (hn : lat (LY t) t.now = -1) : tabP t = ([], 6) := by simp [tabP, h, hn]
theorem tab_err {t : Twn} (h : (tabP t).2 ≠ 0) : (tabP t).1 = [] := by
  unfold tabP at h ⊢
  cases h1 : decide (t.check ≠ 0) with
  | true => rfl
  | false =>
    rw [h1] at h
    cases h2 : decide (lat (LY t) t.now = -1) with
    | true => rfl
    | false => rw [h2] at h; exact absurd rfl h
theorem tab_yes {t : Twn} (h : (tabP t).2 = 0) : t.check = 0 ∧ lat (LY t) t.now ≠ -1 ∧ tabP t = (tab t (LY t), 0) := by
  by_cases h1 : t.check = 0
  · by_cases h2 : lat (LY t) t.now = -1
    · rw [tab_none h1 h2] at h; cases h
    · exact ⟨h1, h2, tab_hit h1 h2⟩
  · exfalso; simp [tabP, h1] at h

theorem c_Table2 (t : Twn) (hl : t.rats.length ≤ 9223372036854775807) (ba oa ca : Nat) (H : Heap) (R : Facts) [hR : MemRows (some ⟨ba, oa, none⟩) 2 (rrows t.rats) R] : Fn Try.prog 26 [t.v (t.sl (some ⟨ba, oa, none⟩) ca)] H R (fun v H' R' => ∃ o : OSl 33 5 (trows (tabP t).1), v = .tuple #[o.fs, .int .i64 (tabP t).2] ∧ H' = o.G ++ H ∧ R' = R ∧ (t.check = 0 → LSA t (LY t))) := by
  refine Fn.mono (c_Table t hl ba oa ca H R) ?_
  rintro v H' R' ⟨⟨hck, rfl, rfl⟩ | ⟨hck, σ, hσ, ⟨h1, rfl, rfl⟩ | ⟨h1, o, rfl, rfl⟩⟩, rfl⟩
  · have e : tabP t = ([], t.check) := by simp [tabP, hck]
    rw [e]; exact ⟨OSl.nil _ _, rfl, rfl, rfl, fun h => absurd h hck⟩
  · have hok := (ok_of_check hck).1
    have hl := solv_lsa hok hσ
    rw [tab_none hck (by rw [← hl.same hok _ hok.now]; exact h1)]; exact ⟨OSl.nil _ _, rfl, rfl, rfl, fun _ => hl.ly hok⟩
  · have hok := (ok_of_check hck).1
    have hl := solv_lsa hok hσ
    rw [tab_hit hck (by rw [← hl.same hok _ hok.now]; exact h1), ← tab_congr hok (hl.same hok)]; exact ⟨o, rfl, rfl, rfl, fun _ => hl.ly hok⟩

theorem c_BreadTables (t : Twn) (a : Option Addr) (c : Nat) (hl : t.rats.length ≤ 9223372036854775807) (tb : List Rw) (a2 : Option Addr) (c2 : Nat) (hl2 : tb.length ≤ 9223372036854775807) (H : Heap) (R : Facts) [hR : MemRows a 2 (rrows t.rats) R] [hR2 : MemRows a2 5 (trows tb) R] :
    Fn Try.prog 3 [t.v (t.sl a c), .slice a2 tb.length c2] H R (fun v H' R' => v = .bool true ∧ H' = H ∧ R' = R) := by
  refine fn_of Try.func3 rfl Try.ntmps3 rfl ?_
  refine sy_seq ?_
  refine sy_tx' [0, 1] rfl ?_
  refine sy_sq ?_
  refine bx rfl rfl rfl (fun b2 => ?_)
  refine sy_sq ?_
  refine sp rfl (PE.assign rfl) rfl ?_
  refine sy_sn ?_
  refine sy_nx ?_
  refine sy_seq ?_
  refine sy_seq ?_
  refine sy_tx' [0, 1, 2, 3, 4, 5, 6] rfl ?_
  refine sy_sq ?_
  refine spL rfl rfl (lhA [_, _, _, _, _, _, _, _, _, _, _] ag26 rfl rfl rfl) rfl ?_
  refine sy_sq ?_
  refine clV rfl cal15 rfl rfl (c_wide t a c (by omega) _ _) ?_
  refine sy_sq ?_
  refine sp rfl (PE.move rfl) rfl ?_
  refine sy_sq ?_
  refine sy_case (t := 19) rfl (fun g19 => ?_) (fun g19 => ?_)
  ·
   refine spN rfl rfl rfl rfl rfl rfl rfl rfl ?_
   refine sy_sq ?_
   refine spN rfl rfl rfl rfl rfl rfl rfl rfl ?_
   refine sy_sq ?_
   refine spN rfl rfl rfl rfl rfl rfl rfl rfl ?_
   refine sy_sq ?_
   refine sp rfl (PE.pick rfl rfl rfl) rfl ?_
   refine sy_sn ?_
   refine sy_nx ?_
   refine sy_condT rfl ?_
   refine sy_seq ?_
   refine sy_tx' [0, 1] rfl ?_
   refine sy_sq ?_
   refine clV rfl cal16 rfl rfl (c_awake _ _) ?_
   refine sy_sq ?_
   refine sp rfl (PE.assign rfl) rfl ?_
   refine sy_sn ?_
   refine sy_nx ?_
   refine sy_ret ?_
   refine sy_tr ?_
   exact sy_return (vs := [_]) rfl (.cons (RV.tmp rfl) .nil) rfl ⟨rfl, rfl, rfl⟩ (fun _ h => by repeat first | exact h | replace h := St.tail h | replace h := St.ftail h | replace h := St.drop h)
  ·
   have h7 := wideB_no g19
   refine spG rfl rfl rfl rfl (PE.move rfl) rfl ?_
   refine sy_sq ?_
   refine spG rfl rfl rfl rfl (PE.lenSl isl27 rfl) rfl ?_
   refine sy_sq ?_
   refine spG rfl rfl rfl rfl (PE.gtr rfl rfl) rfl ?_
   refine sy_sq ?_
   refine sp rfl (PE.pick rfl rfl rfl) rfl ?_
   refine sy_sn ?_
   refine sy_nx ?_
   refine sy_cond rfl (fun hc0 => ?_) (fun hc0 => ?_)
   ·
    refine sy_seq ?_
    refine sy_tx' [0, 1] rfl ?_
    refine sy_sq ?_
    refine clV rfl cal16 rfl rfl (c_awake _ _) ?_
    refine sy_sq ?_
    refine sp rfl (PE.assign rfl) rfl ?_
    refine sy_sn ?_
    refine sy_nx ?_
    refine sy_ret ?_
    refine sy_tr ?_
    exact sy_return (vs := [_]) rfl (.cons (RV.tmp rfl) .nil) rfl ⟨rfl, rfl, rfl⟩ (fun _ h => by repeat first | exact h | replace h := St.tail h | replace h := St.ftail h | replace h := St.drop h)
   ·
    try simp only [decide_eq_true_eq, decide_eq_false_iff_not, Bool.and_eq_true, Bool.or_eq_true, Bool.not_eq_true', Int.not_le, Int.not_lt] at hc0
    
    refine sy_skip ?_
    refine sy_nx ?_
    refine sy_seq ?_
    refine sy_cut (ι := (Nat × Nat × Option Addr × Nat) × (Nat × Nat) × Nat × Nat) (fun z => ⟨[(1, .slice a2 tb.length c2), (2, .pointer (some ⟨b2, 0, none⟩)), (5, .pointer (some ⟨z.2.2.1, 0, none⟩)), (6, .slice (some ⟨z.2.1.1, 0, none⟩) tb.length z.2.1.2), (7, .pointer (some ⟨z.2.2.2, 0, none⟩))],
      (z.2.2.1, cel 26 (twl t (t.sl (some ⟨z.1.1, 0, none⟩) z.1.2.1))) :: (z.2.2.2, cel 37 (twl t (t.sl z.1.2.2.1 z.1.2.2.2))) :: (b2, cel 26 (twl t (t.sl a c))) :: H, RowsA z.1.2.2.1 2 (rrows t.rats) :: RowsA (some ⟨z.1.1, 0, none⟩) 2 (rrows t.rats) :: RowsA (some ⟨z.2.1.1, 0, none⟩) 5 (trows tb) :: R⟩) ?_ ?_
    ·
     refine sy_draw [0, 1, 0, 7, 0, 31, 0, 0, 255, 511, 1023] (.ld 0 (.tk 2 (.ld 4 (.any (.alt 1 (.any (.alt 3 (.any (.alt 5 (.any (.alt 6 (.big 7 (.big 8 (.tk 9 (.big 10 .done)))) (.alt 7 (.big 6 (.big 8 (.tk 9 (.big 10 .done)))) .stop))) (.alt 6 (.any (.alt 5 (.big 7 (.big 8 (.tk 9 (.big 10 .done)))) (.alt 7 (.big 5 (.big 8 (.tk 9 (.big 10 .done)))) .stop))) (.alt 7 (.any (.alt 5 (.big 6 (.big 8 (.tk 9 (.big 10 .done)))) (.alt 6 (.big 5 (.big 8 (.tk 9 (.big 10 .done)))) .stop))) .stop)))) (.alt 6 (.any (.alt 3 (.any (.alt 5 (.big 7 (.big 8 (.tk 9 (.big 10 .done)))) (.alt 7 (.big 5 (.big 8 (.tk 9 (.big 10 .done)))) .stop))) (.alt 7 (.big 3 (.big 5 (.big 8 (.tk 9 (.big 10 .done))))) .stop))) (.alt 7 (.any (.alt 3 (.any (.alt 5 (.big 6 (.big 8 (.tk 9 (.big 10 .done)))) (.alt 6 (.big 5 (.big 8 (.tk 9 (.big 10 .done)))) .stop))) (.alt 6 (.big 3 (.big 5 (.big 8 (.tk 9 (.big 10 .done))))) .stop))) .stop)))) (.alt 6 (.any (.alt 1 (.any (.alt 3 (.any (.alt 5 (.big 7 (.big 8 (.tk 9 (.big 10 .done)))) (.alt 7 (.big 5 (.big 8 (.tk 9 (.big 10 .done)))) .stop))) (.alt 7 (.big 3 (.big 5 (.big 8 (.tk 9 (.big 10 .done))))) .stop))) (.alt 7 (.big 1 (.big 3 (.big 5 (.big 8 (.tk 9 (.big 10 .done)))))) .stop))) (.alt 7 (.any (.alt 1 (.any (.alt 3 (.any (.alt 5 (.big 6 (.big 8 (.tk 9 (.big 10 .done)))) (.alt 6 (.big 5 (.big 8 (.tk 9 (.big 10 .done)))) .stop))) (.alt 6 (.big 3 (.big 5 (.big 8 (.tk 9 (.big 10 .done))))) .stop))) (.alt 6 (.big 1 (.big 3 (.big 5 (.big 8 (.tk 9 (.big 10 .done)))))) .stop))) .stop))))))) mixed (by kernel_rfl) ?_
     refine ld rfl rfl (lhA [_, _, _, _, _, _, _, _, _, _, _] ag26 rfl rfl rfl) rfl ?_
     refine tk rfl (PE.move rfl) rfl ?_
     refine ld rfl rfl (lhA [_, _, _, _, _, _, _, _, _, _, _] ag26 rfl rfl rfl) rfl ?_
     refine sy_any ?_
     refine sy_alt ?_ ?_
     ·
      refine cl rfl cal17 rfl rfl (c_Own t a c (by omega) _ _) ?_
      rintro _ _ _ ⟨bo, co, rfl, rfl, rfl⟩
      refine bg (fun w hs => ⟨(lhA [_, _, _, _, _, _, _, _, _, _, _] ag26 rfl rfl rfl) w hs, trivial, trivial⟩) ?_
      refine sy_any ?_
      refine sy_alt ?_ ?_
      ·
       refine cl rfl cal18 rfl rfl (c_dup_row tb a2 c2 (by omega) _ _) ?_
       rintro _ _ _ ⟨o, rfl, ⟨bd, cd, hbd⟩, rfl, rfl⟩
       obtain ⟨ad, c3, ho, hf⟩ := o.freeze
       rw [hbd] at ho
       cases ho
       rw [hbd]
       refine Sy.heap (fun w h => hf h) ?_
       rw [show (trows tb).length = tb.length from List.length_map _]
       refine bg (fun w hs => ⟨(lhA [_, _, _, _, _, _, _, _, _, _, _] ag26 rfl rfl rfl) w hs, trivial⟩) ?_
       refine sy_any ?_
       refine sy_alt ?_ ?_
       ·
        refine cl rfl cal19 rfl rfl (c_theirs t a c (by omega) _ _) ?_
        rintro _ _ _ ⟨ax, cx, rfl, rfl, rfl⟩
        refine bg (fun w hs => ⟨trivial, trivial⟩) ?_
        refine sy_any ?_
        refine sy_alt ?_ ?_
        ·
         refine alc rfl zl26 rfl (fun b5 => ?_)
         refine bg (fun w hs => trivial) ?_
         refine sy_bg ?_
         refine alc rfl zl37 rfl (fun b7 => ?_)
         refine bg (fun w hs => trivial) ?_
         refine sy_bg ?_
         refine sto rfl rfl rfl cn26 rfl rfl rfl rfl ?_
         refine bg (fun w hs => trivial) ?_
         refine tk rfl (PE.assign rfl) rfl ?_
         refine sy_bg ?_
         refine sto rfl rfl rfl cn37 rfl rfl rfl rfl ?_
         refine bg (fun w hs => trivial) ?_
         refine sy_dn ?_
         exact sy_cutEnd ((bo, co, ax, cx), (bd, cd), b5, b7) (by repeat' first | exact Sub.nil | apply Sub.cons | rfl | (simp [lk]; omega)) (fun _ h => St.sub (((h.pull b2).pull b7).pull b5))
        refine sy_alt ?_ ?_
        ·
         refine alc rfl zl37 rfl (fun b7 => ?_)
         refine bg (fun w hs => trivial) ?_
         refine sy_bg ?_
         refine alc rfl zl26 rfl (fun b5 => ?_)
         refine bg (fun w hs => trivial) ?_
         refine sy_bg ?_
         refine sto rfl rfl rfl cn26 rfl rfl rfl rfl ?_
         refine bg (fun w hs => trivial) ?_
         refine tk rfl (PE.assign rfl) rfl ?_
         refine sy_bg ?_
         refine sto rfl rfl rfl cn37 rfl rfl rfl rfl ?_
         refine bg (fun w hs => trivial) ?_
         refine sy_dn ?_
         exact sy_cutEnd ((bo, co, ax, cx), (bd, cd), b5, b7) (by repeat' first | exact Sub.nil | apply Sub.cons | rfl | (simp [lk]; omega)) (fun _ h => St.sub (((h.pull b2).pull b7).pull b5))
        exact sy_stop
       refine sy_alt ?_ ?_
       ·
        refine alc rfl zl26 rfl (fun b5 => ?_)
        refine bg (fun w hs => ⟨(lhA [_, _, _, _, _, _, _, _, _, _, _] ag26 rfl rfl rfl) w hs, trivial⟩) ?_
        refine sy_any ?_
        refine sy_alt ?_ ?_
        ·
         refine cl rfl cal19 rfl rfl (c_theirs t a c (by omega) _ _) ?_
         rintro _ _ _ ⟨ax, cx, rfl, rfl, rfl⟩
         refine bg (fun w hs => ⟨trivial, trivial⟩) ?_
         refine sy_bg ?_
         refine alc rfl zl37 rfl (fun b7 => ?_)
         refine bg (fun w hs => trivial) ?_
         refine sy_bg ?_
         refine sto rfl rfl rfl cn26 rfl rfl rfl rfl ?_
         refine bg (fun w hs => trivial) ?_
         refine tk rfl (PE.assign rfl) rfl ?_
         refine sy_bg ?_
         refine sto rfl rfl rfl cn37 rfl rfl rfl rfl ?_
         refine bg (fun w hs => trivial) ?_
         refine sy_dn ?_
         exact sy_cutEnd ((bo, co, ax, cx), (bd, cd), b5, b7) (by repeat' first | exact Sub.nil | apply Sub.cons | rfl | (simp [lk]; omega)) (fun _ h => St.sub (((h.pull b2).pull b7).pull b5))
        refine sy_alt ?_ ?_
        ·
         refine alc rfl zl37 rfl (fun b7 => ?_)
         refine bg (fun w hs => ⟨(lhA [_, _, _, _, _, _, _, _, _, _, _] ag26 rfl rfl rfl) w hs, trivial⟩) ?_
         refine sy_bg ?_
         refine cl rfl cal19 rfl rfl (c_theirs t a c (by omega) _ _) ?_
         rintro _ _ _ ⟨ax, cx, rfl, rfl, rfl⟩
         refine bg (fun w hs => ⟨trivial, trivial⟩) ?_
         refine sy_bg ?_
         refine sto rfl rfl rfl cn26 rfl rfl rfl rfl ?_
         refine bg (fun w hs => trivial) ?_
         refine tk rfl (PE.assign rfl) rfl ?_
         refine sy_bg ?_
         refine sto rfl rfl rfl cn37 rfl rfl rfl rfl ?_
         refine bg (fun w hs => trivial) ?_
         refine sy_dn ?_
         exact sy_cutEnd ((bo, co, ax, cx), (bd, cd), b5, b7) (by repeat' first | exact Sub.nil | apply Sub.cons | rfl | (simp [lk]; omega)) (fun _ h => St.sub (((h.pull b2).pull b7).pull b5))
        exact sy_stop
       refine sy_alt ?_ ?_
       ·
        refine alc rfl zl37 rfl (fun b7 => ?_)
        refine bg (fun w hs => ⟨(lhA [_, _, _, _, _, _, _, _, _, _, _] ag26 rfl rfl rfl) w hs, trivial⟩) ?_
        refine sy_any ?_
        refine sy_alt ?_ ?_
        ·
         refine cl rfl cal19 rfl rfl (c_theirs t a c (by omega) _ _) ?_
         rintro _ _ _ ⟨ax, cx, rfl, rfl, rfl⟩
         refine bg (fun w hs => ⟨trivial, trivial⟩) ?_
         refine sy_bg ?_
         refine alc rfl zl26 rfl (fun b5 => ?_)
         refine bg (fun w hs => trivial) ?_
         refine sy_bg ?_
         refine sto rfl rfl rfl cn26 rfl rfl rfl rfl ?_
         refine bg (fun w hs => trivial) ?_
         refine tk rfl (PE.assign rfl) rfl ?_
         refine sy_bg ?_
         refine sto rfl rfl rfl cn37 rfl rfl rfl rfl ?_
         refine bg (fun w hs => trivial) ?_
         refine sy_dn ?_
         exact sy_cutEnd ((bo, co, ax, cx), (bd, cd), b5, b7) (by repeat' first | exact Sub.nil | apply Sub.cons | rfl | (simp [lk]; omega)) (fun _ h => St.sub (((h.pull b2).pull b7).pull b5))
        refine sy_alt ?_ ?_
        ·
         refine alc rfl zl26 rfl (fun b5 => ?_)
         refine bg (fun w hs => ⟨(lhA [_, _, _, _, _, _, _, _, _, _, _] ag26 rfl rfl rfl) w hs, trivial⟩) ?_
         refine sy_bg ?_
         refine cl rfl cal19 rfl rfl (c_theirs t a c (by omega) _ _) ?_
         rintro _ _ _ ⟨ax, cx, rfl, rfl, rfl⟩
         refine bg (fun w hs => ⟨trivial, trivial⟩) ?_
         refine sy_bg ?_
         refine sto rfl rfl rfl cn26 rfl rfl rfl rfl ?_
         refine bg (fun w hs => trivial) ?_
         refine tk rfl (PE.assign rfl) rfl ?_
         refine sy_bg ?_
         refine sto rfl rfl rfl cn37 rfl rfl rfl rfl ?_
         refine bg (fun w hs => trivial) ?_
         refine sy_dn ?_
         exact sy_cutEnd ((bo, co, ax, cx), (bd, cd), b5, b7) (by repeat' first | exact Sub.nil | apply Sub.cons | rfl | (simp [lk]; omega)) (fun _ h => St.sub (((h.pull b2).pull b7).pull b5))
        exact sy_stop
       exact sy_stop
      refine sy_alt ?_ ?_
      ·
       refine alc rfl zl26 rfl (fun b5 => ?_)
       refine bg (fun w hs => ⟨(lhA [_, _, _, _, _, _, _, _, _, _, _] ag26 rfl rfl rfl) w hs, trivial⟩) ?_
       refine sy_any ?_
       refine sy_alt ?_ ?_
       ·
        refine cl rfl cal18 rfl rfl (c_dup_row tb a2 c2 (by omega) _ _) ?_
        rintro _ _ _ ⟨o, rfl, ⟨bd, cd, hbd⟩, rfl, rfl⟩
        obtain ⟨ad, c3, ho, hf⟩ := o.freeze
        rw [hbd] at ho
        cases ho
        rw [hbd]
        refine Sy.heap (fun w h => hf h) ?_
        rw [show (trows tb).length = tb.length from List.length_map _]
        refine bg (fun w hs => ⟨(lhA [_, _, _, _, _, _, _, _, _, _, _] ag26 rfl rfl rfl) w hs, trivial⟩) ?_
        refine sy_any ?_
        refine sy_alt ?_ ?_
        ·
         refine cl rfl cal19 rfl rfl (c_theirs t a c (by omega) _ _) ?_
         rintro _ _ _ ⟨ax, cx, rfl, rfl, rfl⟩
         refine bg (fun w hs => ⟨trivial, trivial⟩) ?_
         refine sy_bg ?_
         refine alc rfl zl37 rfl (fun b7 => ?_)
         refine bg (fun w hs => trivial) ?_
         refine sy_bg ?_
         refine sto rfl rfl rfl cn26 rfl rfl rfl rfl ?_
         refine bg (fun w hs => trivial) ?_
         refine tk rfl (PE.assign rfl) rfl ?_
         refine sy_bg ?_
         refine sto rfl rfl rfl cn37 rfl rfl rfl rfl ?_
         refine bg (fun w hs => trivial) ?_
         refine sy_dn ?_
         exact sy_cutEnd ((bo, co, ax, cx), (bd, cd), b5, b7) (by repeat' first | exact Sub.nil | apply Sub.cons | rfl | (simp [lk]; omega)) (fun _ h => St.sub (((h.pull b2).pull b7).pull b5))
        refine sy_alt ?_ ?_
        ·
         refine alc rfl zl37 rfl (fun b7 => ?_)
         refine bg (fun w hs => ⟨(lhA [_, _, _, _, _, _, _, _, _, _, _] ag26 rfl rfl rfl) w hs, trivial⟩) ?_
         refine sy_bg ?_
         refine cl rfl cal19 rfl rfl (c_theirs t a c (by omega) _ _) ?_
         rintro _ _ _ ⟨ax, cx, rfl, rfl, rfl⟩
         refine bg (fun w hs => ⟨trivial, trivial⟩) ?_
         refine sy_bg ?_
         refine sto rfl rfl rfl cn26 rfl rfl rfl rfl ?_
         refine bg (fun w hs => trivial) ?_
         refine tk rfl (PE.assign rfl) rfl ?_
         refine sy_bg ?_
         refine sto rfl rfl rfl cn37 rfl rfl rfl rfl ?_
         refine bg (fun w hs => trivial) ?_
         refine sy_dn ?_
         exact sy_cutEnd ((bo, co, ax, cx), (bd, cd), b5, b7) (by repeat' first | exact Sub.nil | apply Sub.cons | rfl | (simp [lk]; omega)) (fun _ h => St.sub (((h.pull b2).pull b7).pull b5))
        exact sy_stop
       refine sy_alt ?_ ?_
       ·
        refine alc rfl zl37 rfl (fun b7 => ?_)
        refine bg (fun w hs => ⟨(lhA [_, _, _, _, _, _, _, _, _, _, _] ag26 rfl rfl rfl) w hs, trivial⟩) ?_
        refine sy_bg ?_
        refine cl rfl cal18 rfl rfl (c_dup_row tb a2 c2 (by omega) _ _) ?_
        rintro _ _ _ ⟨o, rfl, ⟨bd, cd, hbd⟩, rfl, rfl⟩
        obtain ⟨ad, c3, ho, hf⟩ := o.freeze
        rw [hbd] at ho
        cases ho
        rw [hbd]
        refine Sy.heap (fun w h => hf h) ?_
        rw [show (trows tb).length = tb.length from List.length_map _]
        refine bg (fun w hs => ⟨(lhA [_, _, _, _, _, _, _, _, _, _, _] ag26 rfl rfl rfl) w hs, trivial⟩) ?_
        refine sy_bg ?_
        refine cl rfl cal19 rfl rfl (c_theirs t a c (by omega) _ _) ?_
        rintro _ _ _ ⟨ax, cx, rfl, rfl, rfl⟩
        refine bg (fun w hs => ⟨trivial, trivial⟩) ?_
        refine sy_bg ?_
        refine sto rfl rfl rfl cn26 rfl rfl rfl rfl ?_
        refine bg (fun w hs => trivial) ?_
        refine tk rfl (PE.assign rfl) rfl ?_
        refine sy_bg ?_
        refine sto rfl rfl rfl cn37 rfl rfl rfl rfl ?_
        refine bg (fun w hs => trivial) ?_
        refine sy_dn ?_
        exact sy_cutEnd ((bo, co, ax, cx), (bd, cd), b5, b7) (by repeat' first | exact Sub.nil | apply Sub.cons | rfl | (simp [lk]; omega)) (fun _ h => St.sub (((h.pull b2).pull b7).pull b5))
       exact sy_stop
      refine sy_alt ?_ ?_
      ·
       refine alc rfl zl37 rfl (fun b7 => ?_)
       refine bg (fun w hs => ⟨(lhA [_, _, _, _, _, _, _, _, _, _, _] ag26 rfl rfl rfl) w hs, trivial⟩) ?_
       refine sy_any ?_
       refine sy_alt ?_ ?_
       ·
        refine cl rfl cal18 rfl rfl (c_dup_row tb a2 c2 (by omega) _ _) ?_
        rintro _ _ _ ⟨o, rfl, ⟨bd, cd, hbd⟩, rfl, rfl⟩
        obtain ⟨ad, c3, ho, hf⟩ := o.freeze
        rw [hbd] at ho
        cases ho
        rw [hbd]
        refine Sy.heap (fun w h => hf h) ?_
        rw [show (trows tb).length = tb.length from List.length_map _]
        refine bg (fun w hs => ⟨(lhA [_, _, _, _, _, _, _, _, _, _, _] ag26 rfl rfl rfl) w hs, trivial⟩) ?_
        refine sy_any ?_
        refine sy_alt ?_ ?_
        ·
         refine cl rfl cal19 rfl rfl (c_theirs t a c (by omega) _ _) ?_
         rintro _ _ _ ⟨ax, cx, rfl, rfl, rfl⟩
         refine bg (fun w hs => ⟨trivial, trivial⟩) ?_
         refine sy_bg ?_
         refine alc rfl zl26 rfl (fun b5 => ?_)
         refine bg (fun w hs => trivial) ?_
         refine sy_bg ?_
         refine sto rfl rfl rfl cn26 rfl rfl rfl rfl ?_
         refine bg (fun w hs => trivial) ?_
         refine tk rfl (PE.assign rfl) rfl ?_
         refine sy_bg ?_
         refine sto rfl rfl rfl cn37 rfl rfl rfl rfl ?_
         refine bg (fun w hs => trivial) ?_
         refine sy_dn ?_
         exact sy_cutEnd ((bo, co, ax, cx), (bd, cd), b5, b7) (by repeat' first | exact Sub.nil | apply Sub.cons | rfl | (simp [lk]; omega)) (fun _ h => St.sub (((h.pull b2).pull b7).pull b5))
        refine sy_alt ?_ ?_
        ·
         refine alc rfl zl26 rfl (fun b5 => ?_)
         refine bg (fun w hs => ⟨(lhA [_, _, _, _, _, _, _, _, _, _, _] ag26 rfl rfl rfl) w hs, trivial⟩) ?_
         refine sy_bg ?_
         refine cl rfl cal19 rfl rfl (c_theirs t a c (by omega) _ _) ?_
         rintro _ _ _ ⟨ax, cx, rfl, rfl, rfl⟩
         refine bg (fun w hs => ⟨trivial, trivial⟩) ?_
         refine sy_bg ?_
         refine sto rfl rfl rfl cn26 rfl rfl rfl rfl ?_
         refine bg (fun w hs => trivial) ?_
         refine tk rfl (PE.assign rfl) rfl ?_
         refine sy_bg ?_
         refine sto rfl rfl rfl cn37 rfl rfl rfl rfl ?_
         refine bg (fun w hs => trivial) ?_
         refine sy_dn ?_
         exact sy_cutEnd ((bo, co, ax, cx), (bd, cd), b5, b7) (by repeat' first | exact Sub.nil | apply Sub.cons | rfl | (simp [lk]; omega)) (fun _ h => St.sub (((h.pull b2).pull b7).pull b5))
        exact sy_stop
       refine sy_alt ?_ ?_
       ·
        refine alc rfl zl26 rfl (fun b5 => ?_)
        refine bg (fun w hs => ⟨(lhA [_, _, _, _, _, _, _, _, _, _, _] ag26 rfl rfl rfl) w hs, trivial⟩) ?_
        refine sy_bg ?_
        refine cl rfl cal18 rfl rfl (c_dup_row tb a2 c2 (by omega) _ _) ?_
        rintro _ _ _ ⟨o, rfl, ⟨bd, cd, hbd⟩, rfl, rfl⟩
        obtain ⟨ad, c3, ho, hf⟩ := o.freeze
        rw [hbd] at ho
        cases ho
        rw [hbd]
        refine Sy.heap (fun w h => hf h) ?_
        rw [show (trows tb).length = tb.length from List.length_map _]
        refine bg (fun w hs => ⟨(lhA [_, _, _, _, _, _, _, _, _, _, _] ag26 rfl rfl rfl) w hs, trivial⟩) ?_
        refine sy_bg ?_
        refine cl rfl cal19 rfl rfl (c_theirs t a c (by omega) _ _) ?_
        rintro _ _ _ ⟨ax, cx, rfl, rfl, rfl⟩
        refine bg (fun w hs => ⟨trivial, trivial⟩) ?_
        refine sy_bg ?_
        refine sto rfl rfl rfl cn26 rfl rfl rfl rfl ?_
        refine bg (fun w hs => trivial) ?_
        refine tk rfl (PE.assign rfl) rfl ?_
        refine sy_bg ?_
        refine sto rfl rfl rfl cn37 rfl rfl rfl rfl ?_
        refine bg (fun w hs => trivial) ?_
        refine sy_dn ?_
        exact sy_cutEnd ((bo, co, ax, cx), (bd, cd), b5, b7) (by repeat' first | exact Sub.nil | apply Sub.cons | rfl | (simp [lk]; omega)) (fun _ h => St.sub (((h.pull b2).pull b7).pull b5))
       exact sy_stop
      exact sy_stop
     refine sy_alt ?_ ?_
     ·
      refine alc rfl zl26 rfl (fun b5 => ?_)
      refine bg (fun w hs => ⟨(lhA [_, _, _, _, _, _, _, _, _, _, _] ag26 rfl rfl rfl) w hs, (lhA [_, _, _, _, _, _, _, _, _, _, _] ag26 rfl rfl rfl) w hs, trivial⟩) ?_
      refine sy_any ?_
      refine sy_alt ?_ ?_
      ·
       refine cl rfl cal17 rfl rfl (c_Own t a c (by omega) _ _) ?_
       rintro _ _ _ ⟨bo, co, rfl, rfl, rfl⟩
       refine bg (fun w hs => ⟨(lhA [_, _, _, _, _, _, _, _, _, _, _] ag26 rfl rfl rfl) w hs, trivial, trivial⟩) ?_
       refine sy_any ?_
       refine sy_alt ?_ ?_
       ·
        refine cl rfl cal18 rfl rfl (c_dup_row tb a2 c2 (by omega) _ _) ?_
        rintro _ _ _ ⟨o, rfl, ⟨bd, cd, hbd⟩, rfl, rfl⟩
        obtain ⟨ad, c3, ho, hf⟩ := o.freeze
        rw [hbd] at ho
        cases ho
        rw [hbd]
        refine Sy.heap (fun w h => hf h) ?_
        rw [show (trows tb).length = tb.length from List.length_map _]
        refine bg (fun w hs => ⟨(lhA [_, _, _, _, _, _, _, _, _, _, _] ag26 rfl rfl rfl) w hs, trivial⟩) ?_
        refine sy_any ?_
        refine sy_alt ?_ ?_
        ·
         refine cl rfl cal19 rfl rfl (c_theirs t a c (by omega) _ _) ?_
         rintro _ _ _ ⟨ax, cx, rfl, rfl, rfl⟩
         refine bg (fun w hs => ⟨trivial, trivial⟩) ?_
         refine sy_bg ?_
         refine alc rfl zl37 rfl (fun b7 => ?_)
         refine bg (fun w hs => trivial) ?_
         refine sy_bg ?_
         refine sto rfl rfl rfl cn26 rfl rfl rfl rfl ?_
         refine bg (fun w hs => trivial) ?_
         refine tk rfl (PE.assign rfl) rfl ?_
         refine sy_bg ?_
         refine sto rfl rfl rfl cn37 rfl rfl rfl rfl ?_
         refine bg (fun w hs => trivial) ?_
         refine sy_dn ?_
         exact sy_cutEnd ((bo, co, ax, cx), (bd, cd), b5, b7) (by repeat' first | exact Sub.nil | apply Sub.cons | rfl | (simp [lk]; omega)) (fun _ h => St.sub (((h.pull b2).pull b7).pull b5))
        refine sy_alt ?_ ?_
        ·
         refine alc rfl zl37 rfl (fun b7 => ?_)
         refine bg (fun w hs => ⟨(lhA [_, _, _, _, _, _, _, _, _, _, _] ag26 rfl rfl rfl) w hs, trivial⟩) ?_
         refine sy_bg ?_
         refine cl rfl cal19 rfl rfl (c_theirs t a c (by omega) _ _) ?_
         rintro _ _ _ ⟨ax, cx, rfl, rfl, rfl⟩
         refine bg (fun w hs => ⟨trivial, trivial⟩) ?_
         refine sy_bg ?_
         refine sto rfl rfl rfl cn26 rfl rfl rfl rfl ?_
         refine bg (fun w hs => trivial) ?_
         refine tk rfl (PE.assign rfl) rfl ?_
         refine sy_bg ?_
         refine sto rfl rfl rfl cn37 rfl rfl rfl rfl ?_
         refine bg (fun w hs => trivial) ?_
         refine sy_dn ?_
         exact sy_cutEnd ((bo, co, ax, cx), (bd, cd), b5, b7) (by repeat' first | exact Sub.nil | apply Sub.cons | rfl | (simp [lk]; omega)) (fun _ h => St.sub (((h.pull b2).pull b7).pull b5))
        exact sy_stop
       refine sy_alt ?_ ?_
       ·
        refine alc rfl zl37 rfl (fun b7 => ?_)
        refine bg (fun w hs => ⟨(lhA [_, _, _, _, _, _, _, _, _, _, _] ag26 rfl rfl rfl) w hs, trivial⟩) ?_
        refine sy_bg ?_
        refine cl rfl cal18 rfl rfl (c_dup_row tb a2 c2 (by omega) _ _) ?_
        rintro _ _ _ ⟨o, rfl, ⟨bd, cd, hbd⟩, rfl, rfl⟩
        obtain ⟨ad, c3, ho, hf⟩ := o.freeze
        rw [hbd] at ho
        cases ho
        rw [hbd]
        refine Sy.heap (fun w h => hf h) ?_
        rw [show (trows tb).length = tb.length from List.length_map _]
        refine bg (fun w hs => ⟨(lhA [_, _, _, _, _, _, _, _, _, _, _] ag26 rfl rfl rfl) w hs, trivial⟩) ?_
        refine sy_bg ?_
        refine cl rfl cal19 rfl rfl (c_theirs t a c (by omega) _ _) ?_
        rintro _ _ _ ⟨ax, cx, rfl, rfl, rfl⟩
        refine bg (fun w hs => ⟨trivial, trivial⟩) ?_
        refine sy_bg ?_
        refine sto rfl rfl rfl cn26 rfl rfl rfl rfl ?_
        refine bg (fun w hs => trivial) ?_
        refine tk rfl (PE.assign rfl) rfl ?_
        refine sy_bg ?_
        refine sto rfl rfl rfl cn37 rfl rfl rfl rfl ?_
        refine bg (fun w hs => trivial) ?_
        refine sy_dn ?_
        exact sy_cutEnd ((bo, co, ax, cx), (bd, cd), b5, b7) (by repeat' first | exact Sub.nil | apply Sub.cons | rfl | (simp [lk]; omega)) (fun _ h => St.sub (((h.pull b2).pull b7).pull b5))
       exact sy_stop
      refine sy_alt ?_ ?_
      ·
       refine alc rfl zl37 rfl (fun b7 => ?_)
       refine bg (fun w hs => ⟨(lhA [_, _, _, _, _, _, _, _, _, _, _] ag26 rfl rfl rfl) w hs, (lhA [_, _, _, _, _, _, _, _, _, _, _] ag26 rfl rfl rfl) w hs, trivial⟩) ?_
       refine sy_bg ?_
       refine cl rfl cal17 rfl rfl (c_Own t a c (by omega) _ _) ?_
       rintro _ _ _ ⟨bo, co, rfl, rfl, rfl⟩
       refine bg (fun w hs => ⟨(lhA [_, _, _, _, _, _, _, _, _, _, _] ag26 rfl rfl rfl) w hs, trivial, trivial⟩) ?_
       refine sy_bg ?_
       refine cl rfl cal18 rfl rfl (c_dup_row tb a2 c2 (by omega) _ _) ?_
       rintro _ _ _ ⟨o, rfl, ⟨bd, cd, hbd⟩, rfl, rfl⟩
       obtain ⟨ad, c3, ho, hf⟩ := o.freeze
       rw [hbd] at ho
       cases ho
       rw [hbd]
       refine Sy.heap (fun w h => hf h) ?_
       rw [show (trows tb).length = tb.length from List.length_map _]
       refine bg (fun w hs => ⟨(lhA [_, _, _, _, _, _, _, _, _, _, _] ag26 rfl rfl rfl) w hs, trivial⟩) ?_
       refine sy_bg ?_
       refine cl rfl cal19 rfl rfl (c_theirs t a c (by omega) _ _) ?_
       rintro _ _ _ ⟨ax, cx, rfl, rfl, rfl⟩
       refine bg (fun w hs => ⟨trivial, trivial⟩) ?_
       refine sy_bg ?_
       refine sto rfl rfl rfl cn26 rfl rfl rfl rfl ?_
       refine bg (fun w hs => trivial) ?_
       refine tk rfl (PE.assign rfl) rfl ?_
       refine sy_bg ?_
       refine sto rfl rfl rfl cn37 rfl rfl rfl rfl ?_
       refine bg (fun w hs => trivial) ?_
       refine sy_dn ?_
       exact sy_cutEnd ((bo, co, ax, cx), (bd, cd), b5, b7) (by repeat' first | exact Sub.nil | apply Sub.cons | rfl | (simp [lk]; omega)) (fun _ h => St.sub (((h.pull b2).pull b7).pull b5))
      exact sy_stop
     refine sy_alt ?_ ?_
     ·
      refine alc rfl zl37 rfl (fun b7 => ?_)
      refine bg (fun w hs => ⟨(lhA [_, _, _, _, _, _, _, _, _, _, _] ag26 rfl rfl rfl) w hs, (lhA [_, _, _, _, _, _, _, _, _, _, _] ag26 rfl rfl rfl) w hs, trivial⟩) ?_
      refine sy_any ?_
      refine sy_alt ?_ ?_
      ·
       refine cl rfl cal17 rfl rfl (c_Own t a c (by omega) _ _) ?_
       rintro _ _ _ ⟨bo, co, rfl, rfl, rfl⟩
       refine bg (fun w hs => ⟨(lhA [_, _, _, _, _, _, _, _, _, _, _] ag26 rfl rfl rfl) w hs, trivial, trivial⟩) ?_
       refine sy_any ?_
       refine sy_alt ?_ ?_
       ·
        refine cl rfl cal18 rfl rfl (c_dup_row tb a2 c2 (by omega) _ _) ?_
        rintro _ _ _ ⟨o, rfl, ⟨bd, cd, hbd⟩, rfl, rfl⟩
        obtain ⟨ad, c3, ho, hf⟩ := o.freeze
        rw [hbd] at ho
        cases ho
        rw [hbd]
        refine Sy.heap (fun w h => hf h) ?_
        rw [show (trows tb).length = tb.length from List.length_map _]
        refine bg (fun w hs => ⟨(lhA [_, _, _, _, _, _, _, _, _, _, _] ag26 rfl rfl rfl) w hs, trivial⟩) ?_
        refine sy_any ?_
        refine sy_alt ?_ ?_
        ·
         refine cl rfl cal19 rfl rfl (c_theirs t a c (by omega) _ _) ?_
         rintro _ _ _ ⟨ax, cx, rfl, rfl, rfl⟩
         refine bg (fun w hs => ⟨trivial, trivial⟩) ?_
         refine sy_bg ?_
         refine alc rfl zl26 rfl (fun b5 => ?_)
         refine bg (fun w hs => trivial) ?_
         refine sy_bg ?_
         refine sto rfl rfl rfl cn26 rfl rfl rfl rfl ?_
         refine bg (fun w hs => trivial) ?_
         refine tk rfl (PE.assign rfl) rfl ?_
         refine sy_bg ?_
         refine sto rfl rfl rfl cn37 rfl rfl rfl rfl ?_
         refine bg (fun w hs => trivial) ?_
         refine sy_dn ?_
         exact sy_cutEnd ((bo, co, ax, cx), (bd, cd), b5, b7) (by repeat' first | exact Sub.nil | apply Sub.cons | rfl | (simp [lk]; omega)) (fun _ h => St.sub (((h.pull b2).pull b7).pull b5))
        refine sy_alt ?_ ?_
        ·
         refine alc rfl zl26 rfl (fun b5 => ?_)
         refine bg (fun w hs => ⟨(lhA [_, _, _, _, _, _, _, _, _, _, _] ag26 rfl rfl rfl) w hs, trivial⟩) ?_
         refine sy_bg ?_
         refine cl rfl cal19 rfl rfl (c_theirs t a c (by omega) _ _) ?_
         rintro _ _ _ ⟨ax, cx, rfl, rfl, rfl⟩
         refine bg (fun w hs => ⟨trivial, trivial⟩) ?_
         refine sy_bg ?_
         refine sto rfl rfl rfl cn26 rfl rfl rfl rfl ?_
         refine bg (fun w hs => trivial) ?_
         refine tk rfl (PE.assign rfl) rfl ?_
         refine sy_bg ?_
         refine sto rfl rfl rfl cn37 rfl rfl rfl rfl ?_
         refine bg (fun w hs => trivial) ?_
         refine sy_dn ?_
         exact sy_cutEnd ((bo, co, ax, cx), (bd, cd), b5, b7) (by repeat' first | exact Sub.nil | apply Sub.cons | rfl | (simp [lk]; omega)) (fun _ h => St.sub (((h.pull b2).pull b7).pull b5))
        exact sy_stop
       refine sy_alt ?_ ?_
       ·
        refine alc rfl zl26 rfl (fun b5 => ?_)
        refine bg (fun w hs => ⟨(lhA [_, _, _, _, _, _, _, _, _, _, _] ag26 rfl rfl rfl) w hs, trivial⟩) ?_
        refine sy_bg ?_
        refine cl rfl cal18 rfl rfl (c_dup_row tb a2 c2 (by omega) _ _) ?_
        rintro _ _ _ ⟨o, rfl, ⟨bd, cd, hbd⟩, rfl, rfl⟩
        obtain ⟨ad, c3, ho, hf⟩ := o.freeze
        rw [hbd] at ho
        cases ho
        rw [hbd]
        refine Sy.heap (fun w h => hf h) ?_
        rw [show (trows tb).length = tb.length from List.length_map _]
        refine bg (fun w hs => ⟨(lhA [_, _, _, _, _, _, _, _, _, _, _] ag26 rfl rfl rfl) w hs, trivial⟩) ?_
        refine sy_bg ?_
        refine cl rfl cal19 rfl rfl (c_theirs t a c (by omega) _ _) ?_
        rintro _ _ _ ⟨ax, cx, rfl, rfl, rfl⟩
        refine bg (fun w hs => ⟨trivial, trivial⟩) ?_
        refine sy_bg ?_
        refine sto rfl rfl rfl cn26 rfl rfl rfl rfl ?_
        refine bg (fun w hs => trivial) ?_
        refine tk rfl (PE.assign rfl) rfl ?_
        refine sy_bg ?_
        refine sto rfl rfl rfl cn37 rfl rfl rfl rfl ?_
        refine bg (fun w hs => trivial) ?_
        refine sy_dn ?_
        exact sy_cutEnd ((bo, co, ax, cx), (bd, cd), b5, b7) (by repeat' first | exact Sub.nil | apply Sub.cons | rfl | (simp [lk]; omega)) (fun _ h => St.sub (((h.pull b2).pull b7).pull b5))
       exact sy_stop
      refine sy_alt ?_ ?_
      ·
       refine alc rfl zl26 rfl (fun b5 => ?_)
       refine bg (fun w hs => ⟨(lhA [_, _, _, _, _, _, _, _, _, _, _] ag26 rfl rfl rfl) w hs, (lhA [_, _, _, _, _, _, _, _, _, _, _] ag26 rfl rfl rfl) w hs, trivial⟩) ?_
       refine sy_bg ?_
       refine cl rfl cal17 rfl rfl (c_Own t a c (by omega) _ _) ?_
       rintro _ _ _ ⟨bo, co, rfl, rfl, rfl⟩
       refine bg (fun w hs => ⟨(lhA [_, _, _, _, _, _, _, _, _, _, _] ag26 rfl rfl rfl) w hs, trivial, trivial⟩) ?_
       refine sy_bg ?_
       refine cl rfl cal18 rfl rfl (c_dup_row tb a2 c2 (by omega) _ _) ?_
       rintro _ _ _ ⟨o, rfl, ⟨bd, cd, hbd⟩, rfl, rfl⟩
       obtain ⟨ad, c3, ho, hf⟩ := o.freeze
       rw [hbd] at ho
       cases ho
       rw [hbd]
       refine Sy.heap (fun w h => hf h) ?_
       rw [show (trows tb).length = tb.length from List.length_map _]
       refine bg (fun w hs => ⟨(lhA [_, _, _, _, _, _, _, _, _, _, _] ag26 rfl rfl rfl) w hs, trivial⟩) ?_
       refine sy_bg ?_
       refine cl rfl cal19 rfl rfl (c_theirs t a c (by omega) _ _) ?_
       rintro _ _ _ ⟨ax, cx, rfl, rfl, rfl⟩
       refine bg (fun w hs => ⟨trivial, trivial⟩) ?_
       refine sy_bg ?_
       refine sto rfl rfl rfl cn26 rfl rfl rfl rfl ?_
       refine bg (fun w hs => trivial) ?_
       refine tk rfl (PE.assign rfl) rfl ?_
       refine sy_bg ?_
       refine sto rfl rfl rfl cn37 rfl rfl rfl rfl ?_
       refine bg (fun w hs => trivial) ?_
       refine sy_dn ?_
       exact sy_cutEnd ((bo, co, ax, cx), (bd, cd), b5, b7) (by repeat' first | exact Sub.nil | apply Sub.cons | rfl | (simp [lk]; omega)) (fun _ h => St.sub (((h.pull b2).pull b7).pull b5))
      exact sy_stop
     exact sy_stop
    ·
     rintro ⟨⟨bo, co, ax, cx⟩, ⟨bd, cd⟩, b5, b7⟩
     dsimp only
     refine sy_nx ?_
     refine sy_seq ?_
     refine sy_tx' [0, 1, 2] rfl ?_
     refine sy_sq ?_
     refine spL rfl rfl (lhA [_, _, _, _, _, _, _, _, _, _, _] ag37 rfl rfl rfl) rfl ?_
     refine sy_sq ?_
     refine clV rfl cal20 rfl rfl (c_rCheck t ax cx (by omega) _ _) ?_
     refine sy_sq ?_
     refine sp rfl (PE.assign rfl) rfl ?_
     refine sy_sn ?_
     refine sy_nx ?_
     refine sy_seq ?_
     refine sy_tx' [0, 1] rfl ?_
     refine sy_sq ?_
     refine sp rfl (PE.move rfl) rfl ?_
     refine sy_sq ?_
     refine sp rfl (PE.assign rfl) rfl ?_
     refine sy_sn ?_
     refine sy_nx ?_
     refine sy_seq ?_
     refine sy_tx' [0, 1] rfl ?_
     refine sy_sq ?_
     refine sp rfl (PE.assign rfl) rfl ?_
     refine sy_sq ?_
     refine sp rfl (PE.assign rfl) rfl ?_
     refine sy_sn ?_
     refine sy_nx ?_
     refine sy_seq ?_
     refine sy_seq ?_
     refine sy_tx' [0, 1] rfl ?_
     refine sy_sq ?_
     refine sp rfl (PE.move rfl) rfl ?_
     refine sy_sq ?_
     refine sp rfl (PE.eql rfl rfl) rfl ?_
     refine sy_sn ?_
     refine sy_nx ?_
     refine sy_join (ι := Unit) (fun _ => ⟨[(1, .slice a2 tb.length c2), (2, .pointer (some ⟨b2, 0, none⟩)), (5, .pointer (some ⟨b5, 0, none⟩)), (6, .slice (some ⟨bd, 0, none⟩) tb.length cd), (7, .pointer (some ⟨b7, 0, none⟩)), (8, .int .i64 ((feedR t tb).2)), (9, .int .i64 ((tabP t).2)), (10, .int .i64 ((lastP t).1)), (11, .int .i64 ((feedR t tb).1))], (b5, cel 26 (twl t (t.sl (some ⟨bo, 0, none⟩) co))) :: (b7, cel 37 (twl t (t.sl ax cx))) :: (b2, cel 26 (twl t (t.sl a c))) :: H, RowsA ax 2 (rrows t.rats) :: RowsA (some ⟨bo, 0, none⟩) 2 (rrows t.rats) :: RowsA (some ⟨bd, 0, none⟩) 5 (trows tb) :: R⟩) ?_ ?_
     ·
      refine sy_cond rfl (fun hc1 => ?_) (fun hc1 => ?_)
      ·
       try simp only [decide_eq_true_eq, decide_eq_false_iff_not, Bool.and_eq_true, Bool.or_eq_true, Bool.not_eq_true', Int.not_le, Int.not_lt] at hc1
       have hck : t.check = 0 := hc1
       have hok := (ok_of_check hck).1
       refine sy_addr (a := ax) (sz := 2) (rows := rrows t.rats) (by have := hok.many; intro h0; simp [rrows] at h0; simp [h0] at this) (fun bx ox he => ?_)
       subst he
       refine sy_seq ?_
       refine sy_seq ?_
       refine sy_draw [0, 0, 2, 0, 8, 31, 63] (.ld 0 (.ld 1 (.tk 3 (.ld 4 (.big 2 (.big 5 (.tk 6 .done))))))) mixed (by kernel_rfl) ?_
       refine ld rfl rfl (lhA [_, _, _, _, _, _, _, _, _, _, _] ag37 rfl rfl rfl) rfl ?_
       refine ld rfl rfl (lhA [_, _, _, _, _, _, _, _, _, _, _] ag37 rfl rfl rfl) rfl ?_
       refine tk rfl (PE.fieldAddr fo37_0 rfl) rfl ?_
       refine ld rfl rfl (lhA [_, _, _] ag34 rfl rfl rfl) rfl ?_
       refine sy_bg ?_
       refine cl rfl cal22 rfl rfl (c_rSolved t hok bx ox cx _ _) ?_
       rintro _ _ _ ⟨bla, la, hsol, rfl, rfl, rfl⟩
       obtain ⟨hrel, hlsa⟩ := hsol.ly hok
       have hrg := ls_range hlsa hok.now
       refine Sy.heap (fun w h => St.intRows h) ?_
       refine bg (fun w hs => ⟨(lhA [_, _, _] ag34 rfl rfl rfl) w hs, trivial, (lhA [_, _, _, _, _, _, _, _, _, _, _] ag37 rfl rfl rfl) w hs, trivial⟩) ?_
       refine sy_bg ?_
       refine cl rfl cal21 rfl rfl (c_rLasts t hok t.now hok.now _ la (LY t) hrel bla 0 t.nst _ _) ?_
       rintro _ _ _ ⟨rfl, rfl, rfl⟩
       have hlp : lastP t = (lat (LY t) t.now, 0) := by simp [lastP, hck]
       refine bg (fun w hs => ⟨trivial, trivial, trivial⟩) ?_
       refine tk rfl (PE.assign rfl) rfl ?_
       refine sy_dn ?_
       refine sy_nx ?_
       refine sy_seq ?_
       refine sy_tx' [0, 1] rfl ?_
       refine sy_sq ?_
       refine sp rfl (PE.move rfl) rfl ?_
       refine sy_sq ?_
       refine sp rfl (PE.lss rfl rfl) rfl ?_
       refine sy_sn ?_
       refine sy_nx ?_
       refine sy_join (ι := Unit) (fun _ => ⟨[(1, .slice a2 tb.length c2), (2, .pointer (some ⟨b2, 0, none⟩)), (5, .pointer (some ⟨b5, 0, none⟩)), (6, .slice (some ⟨bd, 0, none⟩) tb.length cd), (7, .pointer (some ⟨b7, 0, none⟩)), (8, .int .i64 (t.check)), (9, .int .i64 ((tabP t).2)), (10, .int .i64 ((lastP t).1)), (11, .int .i64 (0))], (b5, cel 26 (twl t (t.sl (some ⟨bo, 0, none⟩) co))) :: (b7, cel 37 (twl t (t.sl (some ⟨bx, ox, none⟩) cx))) :: (b2, cel 26 (twl t (t.sl a c))) :: H, RowsA (some ⟨bx, ox, none⟩) 2 (rrows t.rats) :: RowsA (some ⟨bo, 0, none⟩) 2 (rrows t.rats) :: RowsA (some ⟨bd, 0, none⟩) 5 (trows tb) :: R⟩) ?_ ?_
       ·
        refine sy_cond rfl (fun hc2 => ?_) (fun hc2 => ?_)
        ·
         try simp only [decide_eq_true_eq, decide_eq_false_iff_not, Bool.and_eq_true, Bool.or_eq_true, Bool.not_eq_true', Int.not_le, Int.not_lt] at hc2
         
         refine sy_tx' [0] rfl ?_
         refine sy_sq ?_
         refine sp rfl (PE.assign rfl) rfl ?_
         refine sy_sn ?_
         rw [tab_none hck (by omega), hlp]
         exact sy_jend () (by repeat' first | exact Sub.nil | apply Sub.cons | rfl | (simp [lk]; omega)) (fun _ h => St.sub h)
        ·
         try simp only [decide_eq_true_eq, decide_eq_false_iff_not, Bool.and_eq_true, Bool.or_eq_true, Bool.not_eq_true', Int.not_le, Int.not_lt] at hc2
         
         refine sy_skip ?_
         rw [tab_hit hck (by omega), hlp, hck]
         exact sy_jend () (by repeat' first | exact Sub.nil | apply Sub.cons | rfl | (simp [lk]; omega)) (fun _ h => St.sub h)
       ·
        rintro ⟨⟩
        dsimp only
        refine sy_nx ?_
        refine sy_draw [0, 0, 2, 7, 15, 31, 31, 63, 255] (.ld 0 (.tk 1 (.big 2 (.big 3 (.tk 4 (.tk 5 (.tk 6 (.tk 7 (.tk 8 .done))))))))) mixed (by kernel_rfl) ?_
        refine ld rfl rfl (lhA [_, _, _, _, _, _, _, _, _, _, _] ag37 rfl rfl rfl) rfl ?_
        refine tk rfl (PE.move rfl) rfl ?_
        refine sy_bg ?_
        refine cl rfl cal24 rfl rfl (c_rows tb a2 c2 (by omega) _ _) ?_
        rintro _ _ _ ⟨ar, cr, rfl, rfl, rfl⟩
        refine bg (fun w hs => ⟨(lhA [_, _, _, _, _, _, _, _, _, _, _] ag37 rfl rfl rfl) w hs, trivial⟩) ?_
        refine sy_bg ?_
        refine clV rfl cal23 rfl rfl (c_rFeeds t hck tb ar cr (by omega) bx ox cx _ _) ?_
        refine bg (fun w hs => ⟨trivial, trivial⟩) ?_
        refine tk rfl (PE.move rfl) rfl ?_
        refine tk rfl (PE.extract rfl rfl) rfl ?_
        refine tk rfl (PE.extract rfl rfl) rfl ?_
        refine tk rfl (PE.assign rfl) rfl ?_
        refine tk rfl (PE.assign rfl) rfl ?_
        refine sy_dn ?_
        exact sy_jend () (by repeat' first | exact Sub.nil | apply Sub.cons | rfl | (simp [lk]; omega)) (fun _ h => St.sub h)
      ·
       try simp only [decide_eq_true_eq, decide_eq_false_iff_not, Bool.and_eq_true, Bool.or_eq_true, Bool.not_eq_true', Int.not_le, Int.not_lt] at hc1
       have hck : t.check ≠ 0 := hc1
       refine sy_skip ?_
       rw [show feedR t tb = (0, t.check) from by simp [feedR, hck], show tabP t = ([], t.check) from by simp [tabP, hck], show lastP t = (0, t.check) from by simp [lastP, hck]]
       exact sy_jend () (by repeat' first | exact Sub.nil | apply Sub.cons | rfl | (simp [lk]; omega)) (fun _ h => h)
     ·
      rintro ⟨⟩
      dsimp only
      refine sy_nx ?_
      refine sy_seq ?_
      refine sy_tx' [0, 1, 2, 3, 4, 5, 6, 7] rfl ?_
      refine sy_sq ?_
      refine spL rfl rfl (lhA [_, _, _, _, _, _, _, _, _, _, _] ag26 rfl rfl rfl) rfl ?_
      refine sy_sq ?_
      refine sp rfl (PE.move rfl) rfl ?_
      refine sy_sq ?_
      refine clV rfl cal25 rfl rfl (c_Feeds t (by omega) tb (some ⟨bd, 0, none⟩) cd (by omega) bo 0 co _ _) ?_
      refine sy_sq ?_
      refine sp rfl (PE.move rfl) rfl ?_
      refine sy_sq ?_
      refine sp rfl (PE.extract rfl rfl) rfl ?_
      refine sy_sq ?_
      refine sp rfl (PE.extract rfl rfl) rfl ?_
      refine sy_sq ?_
      refine sp rfl (PE.assign rfl) rfl ?_
      refine sy_sq ?_
      refine sp rfl (PE.assign rfl) rfl ?_
      refine sy_sn ?_
      refine sy_nx ?_
      refine sy_seq ?_
      refine sy_tx' [0, 1, 2, 3, 4, 5, 6] rfl ?_
      refine sy_sq ?_
      refine spL rfl rfl (lhA [_, _, _, _, _, _, _, _, _, _, _] ag26 rfl rfl rfl) rfl ?_
      refine sy_sq ?_
      refine cl rfl cal26 rfl rfl (c_Table2 t (by omega) bo 0 co _ _) ?_
      rintro _ _ _ ⟨ot, rfl, rfl, rfl, hly⟩
      obtain ⟨at_, ct, hot, hft⟩ := ot.freeze
      rw [hot]
      refine Sy.heap (fun w h => hft h) ?_
      rw [show (trows (tabP t).1).length = (tabP t).1.length from List.length_map _]
      refine sy_sq ?_
      refine sp rfl (PE.move rfl) rfl ?_
      refine sy_sq ?_
      refine sp rfl (PE.extract rfl rfl) rfl ?_
      refine sy_sq ?_
      refine sp rfl (PE.extract rfl rfl) rfl ?_
      refine sy_sq ?_
      refine sp rfl (PE.assign rfl) rfl ?_
      refine sy_sq ?_
      refine sp rfl (PE.assign rfl) rfl ?_
      refine sy_sn ?_
      refine sy_nx ?_
      refine sy_seq ?_
      refine sy_seq ?_
      refine sy_tx' [0, 1, 2, 3, 4, 5, 6, 7, 8, 9, 10, 11, 12, 13, 14, 15, 16, 17, 18, 19, 20, 21, 22, 23, 24] rfl ?_
      refine sy_sq ?_
      refine sp rfl (PE.move rfl) rfl ?_
      refine sy_sq ?_
      refine sp rfl (PE.move rfl) rfl ?_
      refine sy_sq ?_
      refine sp rfl (PE.neq rfl rfl) rfl ?_
      refine sy_sq ?_
      refine sp rfl (PE.move rfl) rfl ?_
      refine sy_sq ?_
      refine sy_case (t := 65) rfl (fun g65 => ?_) (fun g65 => ?_)
      ·
       exact absurd g65 (by first | (simp; done) | (simp_all; done))
      ·
       refine spG rfl rfl rfl rfl (PE.move rfl) rfl ?_
       refine sy_sq ?_
       refine spG rfl rfl rfl rfl (PE.move rfl) rfl ?_
       refine sy_sq ?_
       refine spG rfl rfl rfl rfl (PE.neq rfl rfl) rfl ?_
       refine sy_sq ?_
       refine sp rfl (PE.pick rfl rfl rfl) rfl ?_
       refine sy_sq ?_
       refine sp rfl (PE.move rfl) rfl ?_
       refine sy_sq ?_
       refine sy_case (t := 70) rfl (fun g70 => ?_) (fun g70 => ?_)
       ·
        exact absurd g70 (by first | (simp; done) | (simp_all; done))
       ·
        refine spG rfl rfl rfl rfl (PE.move rfl) rfl ?_
        refine sy_sq ?_
        refine spG rfl rfl rfl rfl (PE.move rfl) rfl ?_
        refine sy_sq ?_
        refine spG rfl rfl rfl rfl (PE.neq rfl rfl) rfl ?_
        refine sy_sq ?_
        refine sp rfl (PE.pick rfl rfl rfl) rfl ?_
        refine sy_sq ?_
        refine sp rfl (PE.move rfl) rfl ?_
        refine sy_sq ?_
        refine sy_case (t := 75) rfl (fun g75 => ?_) (fun g75 => ?_)
        ·
         exact absurd g75 (by first | (simp; done) | (simp_all; done))
        ·
         refine spG rfl rfl rfl rfl (PE.move rfl) rfl ?_
         refine sy_sq ?_
         refine spG rfl rfl rfl rfl (PE.move rfl) rfl ?_
         refine sy_sq ?_
         refine clVG rfl rfl rfl rfl cal27 rfl rfl (c_Eq_row tb tb (some ⟨bd, 0, none⟩) a2 cd c2 (by omega) (by omega) _ _) ?_
         refine sy_sq ?_
         refine spG rfl rfl rfl rfl (PE.not rfl) rfl ?_
         refine sy_sq ?_
         refine sp rfl (PE.pick rfl rfl rfl) rfl ?_
         refine sy_sq ?_
         refine sp rfl (PE.move rfl) rfl ?_
         refine sy_sq ?_
         refine sy_case (t := 81) rfl (fun g81 => ?_) (fun g81 => ?_)
         ·
          exact absurd g81 (by first | (simp; done) | (simp_all; done))
         ·
          refine spLG rfl rfl rfl rfl rfl (lhA [_, _, _, _, _, _, _, _, _, _, _] ag26 rfl rfl rfl) rfl ?_
          refine sy_sq ?_
          refine spLG rfl rfl rfl rfl rfl (lhA [_, _, _, _, _, _, _, _, _, _, _] ag26 rfl rfl rfl) rfl ?_
          refine sy_sq ?_
          refine clVG rfl rfl rfl rfl cal28 rfl rfl (c_same t t _ a co c (by omega) (by omega) _ _) ?_
          refine sy_sq ?_
          refine spG rfl rfl rfl rfl (PE.not rfl) rfl ?_
          refine sy_sq ?_
          refine sp rfl (PE.pick rfl rfl rfl) rfl ?_
          refine sy_sn ?_
          refine sy_nx ?_
          refine sy_cond rfl (fun hc3 => ?_) (fun hc3 => ?_)
          ·
           exact absurd hc3 (by simp)
          ·
           refine sy_skip ?_
           refine sy_nx ?_
           refine sy_seq ?_
           refine sy_seq ?_
           refine sy_tx' [0, 1] rfl ?_
           refine sy_sq ?_
           refine sp rfl (PE.move rfl) rfl ?_
           refine sy_sq ?_
           refine sp rfl (PE.neq rfl rfl) rfl ?_
           refine sy_sn ?_
           refine sy_nx ?_
           refine sy_cond rfl (fun hc4 => ?_) (fun hc4 => ?_)
           ·
            try simp only [decide_eq_true_eq, decide_eq_false_iff_not, Bool.and_eq_true, Bool.or_eq_true, Bool.not_eq_true', Int.not_le, Int.not_lt] at hc4
            have hnil := tab_err hc4
            rw [hnil]
            refine sy_seq ?_
            refine sy_tx' [0, 1, 2, 3, 4, 5, 6] rfl ?_
            refine sy_sq ?_
            refine sp rfl (PE.move rfl) rfl ?_
            refine sy_sq ?_
            refine sp rfl (PE.lenSl isl27 rfl) rfl ?_
            refine sy_sq ?_
            refine sp rfl (PE.eql rfl rfl) rfl ?_
            refine sy_sq ?_
            refine sp rfl (PE.move rfl) rfl ?_
            refine sy_sq ?_
            refine sy_case (t := 92) rfl (fun g92 => ?_) (fun g92 => ?_)
            ·
             refine clVG rfl rfl rfl rfl cal16 rfl rfl (c_awake _ _) ?_
             refine sy_sq ?_
             refine sp rfl (PE.pick rfl rfl rfl) rfl ?_
             refine sy_sq ?_
             refine sp rfl (PE.assign rfl) rfl ?_
             refine sy_sn ?_
             refine sy_nx ?_
             refine sy_ret ?_
             refine sy_tr ?_
             exact sy_return (vs := [_]) rfl (.cons (RV.tmp rfl) .nil) rfl ⟨rfl, rfl, rfl⟩ (fun _ h => by repeat first | exact h | replace h := St.tail h | replace h := St.ftail h | replace h := St.drop h)
            ·
             exact absurd g92 (by first | (simp; done) | (simp_all; done))
           ·
            try simp only [decide_eq_true_eq, decide_eq_false_iff_not, Bool.and_eq_true, Bool.or_eq_true, Bool.not_eq_true', Int.not_le, Int.not_lt] at hc4
            obtain ⟨hck, hn, htp⟩ := tab_yes (by simpa using hc4)
            have hok := (ok_of_check hck).1
            have htl := tab_len hok (LY t)
            have hft2 := feed_tab hck (hly hck) hn
            have hlp : lastP t = (lat (LY t) t.now, 0) := by simp [lastP, hck]
            rw [htp, hlp]
            dsimp only
            refine sy_addr (a := ax) (sz := 2) (rows := rrows t.rats) (by have := hok.many; intro h0; simp [rrows] at h0; simp [h0] at this) (fun bx ox he => ?_)
            subst he
            refine sy_skip ?_
            refine sy_nx ?_
            refine sy_seq ?_
            refine sy_draw [0, 0, 2, 7, 15, 31, 31, 63, 255] (.ld 0 (.tk 1 (.big 2 (.big 3 (.tk 4 (.tk 5 (.tk 6 (.tk 7 (.tk 8 .done))))))))) mixed (by kernel_rfl) ?_
            refine ld rfl rfl (lhA [_, _, _, _, _, _, _, _, _, _, _] ag37 rfl rfl rfl) rfl ?_
            refine tk rfl (PE.move rfl) rfl ?_
            refine sy_bg ?_
            refine cl rfl cal24 rfl rfl (c_rows (tab t (LY t)) at_ ct (by omega) _ _) ?_
            rintro _ _ _ ⟨ar, cr, rfl, rfl, rfl⟩
            refine bg (fun w hs => ⟨(lhA [_, _, _, _, _, _, _, _, _, _, _] ag37 rfl rfl rfl) w hs, trivial⟩) ?_
            refine sy_bg ?_
            refine cl rfl cal23 rfl rfl (c_rFeeds t hck (tab t (LY t)) ar cr (by omega) bx ox cx _ _) ?_
            rintro _ _ _ ⟨rfl, rfl, rfl⟩
            rw [hft2]
            refine bg (fun w hs => ⟨trivial, trivial⟩) ?_
            refine tk rfl (PE.move rfl) rfl ?_
            refine tk rfl (PE.extract rfl rfl) rfl ?_
            refine tk rfl (PE.extract rfl rfl) rfl ?_
            refine tk rfl (PE.assign rfl) rfl ?_
            refine tk rfl (PE.assign rfl) rfl ?_
            refine sy_dn ?_
            refine sy_nx ?_
            refine sy_seq ?_
            refine sy_tx' [0, 1, 2, 3, 4, 5, 6, 7, 8, 9, 10] rfl ?_
            refine sy_sq ?_
            refine sp rfl (PE.move rfl) rfl ?_
            refine sy_sq ?_
            refine sp rfl (PE.eql rfl rfl) rfl ?_
            refine sy_sq ?_
            refine sp rfl (PE.move rfl) rfl ?_
            refine sy_sq ?_
            refine sy_case (t := 104) rfl (fun g104 => ?_) (fun g104 => ?_)
            ·
             refine spG rfl rfl rfl rfl (PE.move rfl) rfl ?_
             refine sy_sq ?_
             refine spG rfl rfl rfl rfl (PE.move rfl) rfl ?_
             refine sy_sq ?_
             refine spG rfl rfl rfl rfl (PE.eql rfl rfl) rfl ?_
             refine sy_sq ?_
             refine sp rfl (PE.pick rfl rfl rfl) rfl ?_
             refine sy_sq ?_
             refine sp rfl (PE.move rfl) rfl ?_
             refine sy_sq ?_
             refine sy_case (t := 109) rfl (fun g109 => ?_) (fun g109 => ?_)
             ·
              refine clVG rfl rfl rfl rfl cal16 rfl rfl (c_awake _ _) ?_
              refine sy_sq ?_
              refine sp rfl (PE.pick rfl rfl rfl) rfl ?_
              refine sy_sq ?_
              refine sp rfl (PE.assign rfl) rfl ?_
              refine sy_sn ?_
              refine sy_nx ?_
              refine sy_ret ?_
              exact sy_return (vs := [_]) rfl (.cons (RV.tmp rfl) .nil) rfl ⟨rfl, rfl, rfl⟩ (fun _ h => by repeat first | exact h | replace h := St.tail h | replace h := St.ftail h | replace h := St.drop h)
             ·
              exact absurd g109 (by first | (simp; done) | (simp_all; done))
            ·
             exact absurd g104 (by first | (simp; done) | (simp_all; done))
end Go.Proofs.Ytaldphhdkmchhaa
