/- Walks of the functions of the program: what each returns and leaves in memory, under the conditions that its theorem names. -/
import Derived.Test.YtaldphhdkmchhaaTy
import Derived.Test.YtaldphhdkmchhaaMa
import Derived.Test.YtaldphhdkmchhaaWk17
namespace Go.Proofs.Ytaldphhdkmchhaa
set_option linter.unusedSimpArgs false
set_option linter.unusedVariables false
open Go
theorem ag135 : aggN Try.prog 135 = some 5 := by kernel_rfl
theorem ap46 : apT Try.prog 46 = some (135, 5, 40) := by kernel_rfl
theorem cal15 : cal Try.prog 15 = true := by kernel_rfl
theorem cal22 : cal Try.prog 22 = true := by kernel_rfl
theorem cal40 : cal Try.prog 40 = true := by kernel_rfl
theorem cal41 : cal Try.prog 41 = true := by kernel_rfl
theorem cal43 : cal Try.prog 43 = true := by kernel_rfl
theorem cal87 : cal Try.prog 87 = true := by kernel_rfl
theorem cal98 : cal Try.prog 98 = true := by kernel_rfl
theorem cn135 : cellN Try.prog 135 = some 5 := by kernel_rfl
theorem el46 : elN Try.prog 46 = some 5 := by kernel_rfl
theorem eqf33 : eqB Try.prog 10000 33 = some (true, 5) := by kernel_rfl
theorem eqg33 : Try.prog.eqGuardType Try.prog.depth 33 = false := by kernel_rfl
theorem fo135_0 : fOff Try.prog 135 0 = some 0 := by kernel_rfl
theorem fo135_1 : fOff Try.prog 135 1 = some 3 := by kernel_rfl
theorem fo135_2 : fOff Try.prog 135 2 = some 4 := by kernel_rfl
theorem isl46 : isSl Try.prog 46 = true := by kernel_rfl
theorem pl135 : placeL Try.prog 135 = some [(0, 3), (3, 1), (4, 1)] := by kernel_rfl
theorem sl46 : slE Try.prog 46 = some (135, 5) := by kernel_rfl
theorem zl135 : zeroL Try.prog 135 = some ([.int .i64 0, .int .i64 0, .int .i64 0, .int .i64 0, .int .i64 0]) := by kernel_rfl
theorem c_dup_row (xs : List Rw) (a : Option Addr) (c : Nat) (hl : xs.length ≤ 1000000) (H : Heap) (R : Facts) [hR : MemRows a 5 (trows xs) R] :
    Fn Try.prog 18 [.slice a xs.length c] H R (fun v H' R' => ∃ o : OSl 33 5 (trows xs), v = o.fs ∧ o.here ∧ H' = o.G ++ H ∧ R' = R) := by
  refine fn_of Try.func18 rfl Try.ntmps18 rfl ?_
  refine sy_seq ?_
  refine sy_tx' [0] rfl ?_
  refine sy_sq ?_
  refine sp rfl (PE.assign rfl) rfl ?_
  refine sy_sn ?_
  refine sy_nx ?_
  refine sy_seq ?_
  refine sy_tx' [0, 1, 2, 3, 4, 5] rfl ?_
  refine sy_sq ?_
  refine sp rfl (PE.move rfl) rfl ?_
  refine sy_sq ?_
  refine sp rfl (PE.lenSl isl27 rfl) rfl ?_
  refine sy_sq ?_
  refine mkO rfl ap27 zl33 rfl rfl ⟨by omega, by omega⟩ rfl (fun o ho => ?_)
  refine sy_sq ?_
  refine sp rfl (PE.move rfl) rfl ?_
  refine sy_sq ?_
  refine apOh (news := trows xs) o rfl ap27 rfl rfl (rowsF) (by simp [trows]) (by simp [onecells, trows, trow, Value.oneCell']) ⟨by simp [trows]; omega, by simp [trows]; omega⟩ rfl ho (fun o2 ho2 => ?_)
  refine sy_sq ?_
  refine sp rfl (PE.assign rfl) rfl ?_
  refine sy_sn ?_
  refine sy_nx ?_
  refine sy_ret ?_
  exact sy_return (vs := [_]) rfl (.cons (RV.tmp rfl) .nil) rfl ⟨o2.cast (by simp), rfl, ho2, rfl, rfl⟩ (fun _ h => h)

theorem c_eq_row (xs ys : List Rw) (a a2 : Option Addr) (c c2 : Nat) (hl : xs.length ≤ 9223372036854775807) (hl2 : ys.length ≤ 9223372036854775807) (H : Heap) (R : Facts) [hR : MemRows a 5 (trows xs) R] [hR2 : MemRows a2 5 (trows ys) R] :
    FnV Try.prog 98 [.slice a xs.length c, .slice a2 ys.length c2] H R (.bool (decide (xs = ys))) := by
  refine fn_of Try.func98 rfl Try.ntmps98 rfl ?_
  refine sy_seq ?_
  refine sy_tx' [0] rfl ?_
  refine sy_sq ?_
  refine sp rfl (PE.assign rfl) rfl ?_
  refine sy_sn ?_
  refine sy_nx ?_
  refine sy_seq ?_
  refine sy_seq ?_
  refine sy_tx' [0, 1, 2, 3, 4] rfl ?_
  refine sy_sq ?_
  refine sp rfl (PE.move rfl) rfl ?_
  refine sy_sq ?_
  refine sp rfl (PE.lenSl isl27 rfl) rfl ?_
  refine sy_sq ?_
  refine sp rfl (PE.move rfl) rfl ?_
  refine sy_sq ?_
  refine sp rfl (PE.lenSl isl27 rfl) rfl ?_
  refine sy_sq ?_
  refine sp rfl (PE.neq rfl rfl) rfl ?_
  refine sy_sn ?_
  refine sy_nx ?_
  refine sy_cond rfl (fun hc0 => ?_) (fun hc0 => ?_)
  ·
   have hne : xs ≠ ys := fun e => by subst e; simp at hc0
   refine sy_seq ?_
   refine sy_tx' [0] rfl ?_
   refine sy_sq ?_
   refine sp rfl (PE.assign rfl) rfl ?_
   refine sy_sn ?_
   refine sy_nx ?_
   refine sy_ret ?_
   refine sy_tr ?_
   exact sy_return (vs := [_]) rfl (.cons (RV.tmp rfl) .nil) rfl ⟨by first | (simp only [retV]; rw [decide_eq_true heq]; done) | (simp only [retV]; rw [decide_eq_false hne]), rfl, rfl⟩ (fun _ h => h)
  ·
   have hle : xs.length = ys.length := by simp only [decide_eq_true_eq, decide_eq_false_iff_not, Bool.and_eq_true, Bool.or_eq_true, Bool.not_eq_true', Int.not_le, Int.not_lt] at hc0; omega
   refine sy_skip ?_
   refine sy_nx ?_
   refine sy_seq ?_
   refine sy_seq ?_
   refine sy_tx' [0, 1, 2] rfl ?_
   refine sy_sq ?_
   refine sp rfl (PE.move rfl) rfl ?_
   refine sy_sq ?_
   refine sp rfl (PE.lenSl isl27 rfl) rfl ?_
   refine sy_sq ?_
   refine sp rfl (PE.move rfl) rfl ?_
   refine sy_sn ?_
   refine sy_nx ?_
   refine sy_block ?_
   refine sy_loop (ι := {k : Nat // k ≤ xs.length ∧ xs.take k = ys.take k}) (fun k => ⟨[(0, .slice a xs.length c), (1, .slice a2 ys.length c2), (12, .int .i64 xs.length), (13, .int .i64 k.1)], H, R⟩) (fun k => xs.length - k.1) ⟨0, by simp⟩ ?_ (fun k => ?_)
   ·
    exact sy_at (by repeat' first | exact Sub.nil | apply Sub.cons | rfl | (simp [lk]; omega)) (fun _ h => h)
   ·
    obtain ⟨k, hk, hn⟩ := k
    dsimp only
    refine sy_seq ?_
    refine sy_tx' [0] rfl ?_
    refine sy_sq ?_
    refine sp rfl (PE.lss rfl rfl) rfl ?_
    refine sy_sn ?_
    refine sy_nx ?_
    refine sy_seq ?_
    refine sy_cond rfl (fun hc1 => ?_) (fun hc1 => ?_)
    ·
     simp only [decide_eq_true_eq, decide_eq_false_iff_not, Bool.and_eq_true, Bool.or_eq_true, Bool.not_eq_true', Int.not_le, Int.not_lt] at hc1
     obtain ⟨x, hx⟩ : ∃ x, xs[k]? = some x := ⟨_, List.getElem?_eq_getElem (by omega)⟩
     obtain ⟨z, hz⟩ : ∃ z, ys[k]? = some z := ⟨_, List.getElem?_eq_getElem (by omega)⟩
     refine sy_addr (a := a) (sz := 5) (rows := trows xs) (by intro h0; simp [trows] at h0; simp [h0] at hx) (fun b off he => ?_)
     subst he
     refine sy_addr (a := a2) (sz := 5) (rows := trows ys) (by intro h0; simp [trows] at h0; simp [h0] at hz) (fun b2 off2 he => ?_)
     subst he
     refine sy_skip ?_
     refine sy_nx ?_
     refine sy_seq ?_
     refine sy_block ?_
     refine sy_seq ?_
     refine sy_tx' [0, 1] rfl ?_
     refine sy_sq ?_
     refine sp rfl (PE.move rfl) rfl ?_
     refine sy_sq ?_
     refine sp rfl (PE.assign rfl) rfl ?_
     refine sy_sn ?_
     refine sy_nx ?_
     refine sy_seq ?_
     refine sy_draw [0, 0, 3, 7, 0, 0, 48, 112, 255] (.tk 0 (.tk 1 (.tk 2 (.ld 3 (.tk 4 (.tk 5 (.tk 6 (.ld 7 (.tk 8 .done))))))))) mixed (by kernel_rfl) ?_
     refine tk rfl (PE.move rfl) rfl ?_
     refine tk rfl (PE.move rfl) rfl ?_
     refine tk rfl (PE.indexAddr el27 rfl rfl (by omega) (by omega)) rfl ?_
     refine ld rfl rfl (lfA ag33 (row := trow x) (by simp [trows, hx]) rfl) rfl ?_
     refine tk rfl (PE.move rfl) rfl ?_
     refine tk rfl (PE.move rfl) rfl ?_
     refine tk rfl (PE.indexAddr el27 rfl rfl (by omega) (by omega)) rfl ?_
     refine ld rfl rfl (lfA ag33 (row := trow z) (by simp [trows, hz]) rfl) rfl ?_
     refine tk rfl (PE.neqAgg [x.st.stock, x.st.short, x.st.dry, x.lasts, x.ration] [z.st.stock, z.st.short, z.st.dry, z.lasts, z.ration] (eqB_ok 10000 33 true 5 eqf33) eqg33 rfl rfl rfl rfl) rfl ?_
     refine sy_dn ?_
     refine sy_nx ?_
     refine sy_cond rfl (fun hc2 => ?_) (fun hc2 => ?_)
     ·
      have hne : xs ≠ ys := fun e => by subst e; rw [hx] at hz; cases hz; simp at hc2
      refine sy_seq ?_
      refine sy_tx' [0] rfl ?_
      refine sy_sq ?_
      refine sp rfl (PE.assign rfl) rfl ?_
      refine sy_sn ?_
      refine sy_nx ?_
      refine sy_ret ?_
      refine sy_br ?_
      refine sy_tr ?_
      refine sy_tr ?_
      refine sy_br ?_
      refine sy_tr ?_
      exact sy_return (vs := [_]) rfl (.cons (RV.tmp rfl) .nil) rfl ⟨by first | (simp only [retV]; rw [decide_eq_true heq]; done) | (simp only [retV]; rw [decide_eq_false hne]), rfl, rfl⟩ (fun _ h => h)
     ·
      have hxz : x = z := by obtain ⟨⟨x1, x2, x3⟩, x4, x5⟩ := x; obtain ⟨⟨z1, z2, z3⟩, z4, z5⟩ := z; simpa [and_assoc] using hc2
      refine sy_skip ?_
      refine sy_bn ?_
      refine sy_nx ?_
      refine sy_tx' [0, 1] rfl ?_
      refine sy_sq ?_
      refine sp rfl (PE.add rfl rfl (by omega)) rfl ?_
      refine sy_sq ?_
      refine sp rfl (PE.move rfl) rfl ?_
      refine sy_sn ?_
      refine sy_nx ?_
      exact sy_next ⟨k + 1, by omega, by rw [List.take_add_one, List.take_add_one, hn, hx, hz, hxz]⟩ (by dsimp only; omega) (by repeat' first | exact Sub.nil | apply Sub.cons | rfl | (simp [lk]; omega)) (fun _ h => h)
    ·
     simp only [decide_eq_true_eq, decide_eq_false_iff_not, Bool.and_eq_true, Bool.or_eq_true, Bool.not_eq_true', Int.not_le, Int.not_lt] at hc1
     obtain rfl : k = xs.length := by omega
     have heq : xs = ys := by
       rw [List.take_length] at hn
       exact hn.trans (by rw [hle]; exact List.take_length)
     refine sy_exit ?_
     refine sy_tx ?_
     refine sy_tx ?_
     refine sy_bx ?_
     refine sy_nx ?_
     refine sy_seq ?_
     refine sy_tx' [0] rfl ?_
     refine sy_sq ?_
     refine sp rfl (PE.assign rfl) rfl ?_
     refine sy_sn ?_
     refine sy_nx ?_
     refine sy_ret ?_
     exact sy_return (vs := [_]) rfl (.cons (RV.tmp rfl) .nil) rfl ⟨by first | (simp only [retV]; rw [decide_eq_true heq]; done) | (simp only [retV]; rw [decide_eq_false hne]), rfl, rfl⟩ (fun _ h => h)

theorem c_Eq_row (xs ys : List Rw) (a a2 : Option Addr) (c c2 : Nat) (hl : xs.length ≤ 9223372036854775807) (hl2 : ys.length ≤ 9223372036854775807) (H : Heap) (R : Facts) [hR : MemRows a 5 (trows xs) R] [hR2 : MemRows a2 5 (trows ys) R] :
    FnV Try.prog 27 [.slice a xs.length c, .slice a2 ys.length c2] H R (.bool (decide (xs = ys))) := by
  refine fn_of Try.func27 rfl Try.ntmps27 rfl ?_
  refine sy_seq ?_
  refine sy_tx' [0] rfl ?_
  refine sy_sq ?_
  refine sp rfl (PE.assign rfl) rfl ?_
  refine sy_sn ?_
  refine sy_nx ?_
  refine sy_seq ?_
  refine sy_tx' [0, 1, 2, 3] rfl ?_
  refine sy_sq ?_
  refine sp rfl (PE.move rfl) rfl ?_
  refine sy_sq ?_
  refine sp rfl (PE.move rfl) rfl ?_
  refine sy_sq ?_
  refine clV rfl cal98 rfl rfl (c_eq_row xs ys a a2 c c2 hl hl2 _ _) ?_
  refine sy_sq ?_
  refine sp rfl (PE.assign rfl) rfl ?_
  refine sy_sn ?_
  refine sy_nx ?_
  refine sy_ret ?_
  exact sy_return (vs := [_]) rfl (.cons (RV.tmp rfl) .nil) rfl ⟨rfl, rfl, rfl⟩ (fun _ h => by repeat first | exact h | replace h := St.tail h | replace h := St.ftail h | replace h := St.drop h)

theorem tr_get {l : List Rw} {k : Nat} {x : Rw} (h : l[k]? = some x) : (trows l)[k]? = some (trow x) := by simp [trows, h]
theorem scan_bad1 {t : Twn} {x : Rw} {l : List Rw} {tw : Bool} {y : List Int} (h : (x.st.right t && inb x.lasts 0 1000000) = false) : feedScan t (x :: l) tw y = .error 3 := by
  unfold feedScan
  rw [← Bool.not_and, h]; rfl
theorem scan_bad2 {t : Twn} {x : Rw} {l : List Rw} {tw : Bool} {y : List Int} (h : (x.st.right t && inb x.lasts 0 1000000) = true) (h2 : soldE t x.st x.ration ≠ 0) : feedScan t (x :: l) tw y = .error (soldE t x.st x.ration) := by
  unfold feedScan
  rw [← Bool.not_and, h]
  unfold soldE at h2 ⊢
  cases h3 : t.rat x.ration with
  | none => rfl
  | some q =>
    rw [h3] at h2
    cases h4 : t.can x.st q with
    | true => simp [h4] at h2
    | false => simp [h4]
theorem scan_ok {t : Twn} {x : Rw} {l : List Rw} {tw : Bool} {y : List Int} (h : (x.st.right t && inb x.lasts 0 1000000) = true) (h2 : soldE t x.st x.ration = 0) : feedScan t (x :: l) tw y = feedScan t l (tw || decide (lat y x.st ≠ -1)) (y.set x.st.ix x.lasts) := by
  rw [feedScan.eq_def]
  simp only
  rw [← Bool.not_and, h]
  unfold soldE at h2
  cases h3 : t.rat x.ration with
  | none => rw [h3] at h2; cases h2
  | some q =>
    rw [h3] at h2
    cases h4 : t.can x.st q with
    | true => simp [h4]
    | false => simp [h4] at h2

theorem c_rFeeds (t : Twn) (hck : t.check = 0) (tb : List Rw) (a : Option Addr) (c : Nat) (hl2 : tb.length ≤ 9223372036854775807) (ba oa ca : Nat) (H : Heap) (R : Facts) [hR : MemRows (some ⟨ba, oa, none⟩) 2 (rrows t.rats) R] [hR2 : MemRows a 5 (trows tb) R] :
    FnV Try.prog 23 [t.v (t.sl (some ⟨ba, oa, none⟩) ca), .slice a tb.length c] H R (.tuple #[.int .i64 (feedR t tb).1, .int .i64 (feedR t tb).2]) := by
  have ht := (ok_of_check hck).1
  have hnst := nst_le ht
  refine fn_of Try.func23 rfl Try.ntmps23 rfl ?_
  refine sy_seq ?_
  refine sy_tx' [0, 1, 2] rfl ?_
  refine sy_sq ?_
  refine bx rfl rfl rfl (fun b2 => ?_)
  refine sy_sq ?_
  refine sp rfl (PE.assign rfl) rfl ?_
  refine sy_sq ?_
  refine sp rfl (PE.assign rfl) rfl ?_
  refine sy_sn ?_
  refine sy_nx ?_
  refine sy_seq ?_
  refine sy_seq ?_
  refine sy_tx' [0, 1, 2] rfl ?_
  refine sy_sq ?_
  refine sp rfl (PE.move rfl) rfl ?_
  refine sy_sq ?_
  refine sp rfl (PE.lenSl isl46 rfl) rfl ?_
  refine sy_sq ?_
  refine sp rfl (PE.gtr rfl rfl) rfl ?_
  refine sy_sn ?_
  refine sy_nx ?_
  refine sy_cond rfl (fun hc0 => ?_) (fun hc0 => ?_)
  ·
   try simp only [decide_eq_true_eq, decide_eq_false_iff_not, Bool.and_eq_true, Bool.or_eq_true, Bool.not_eq_true', Int.not_le, Int.not_lt] at hc0
   have hres : feedR t tb = (0, 2) := by unfold feedR; rw [decide_eq_true (show 496 < tb.length by omega)]; simp [hck]
   refine sy_seq ?_
   refine sy_tx' [0, 1] rfl ?_
   refine sy_sq ?_
   refine sp rfl (PE.assign rfl) rfl ?_
   refine sy_sq ?_
   refine sp rfl (PE.assign rfl) rfl ?_
   refine sy_sn ?_
   refine sy_nx ?_
   refine sy_ret ?_
   refine sy_tr ?_
   first
     | exact sy_return (vs := [_, _]) rfl (.cons (RV.tmp rfl) (.cons (RV.tmp rfl) .nil)) (by rw [hres]; rfl) ⟨rfl, rfl, rfl⟩ (fun _ h => by repeat first | exact h | replace h := St.tail h | replace h := St.ftail h | replace h := St.drop h)
     | exact sy_return (vs := [_, _]) rfl (.cons (RV.tmp rfl) (.cons (RV.tmp rfl) .nil)) (by rw [feedR_err hck (by omega) (hscan.trans (scan_bad1 hbad))]; rfl) ⟨rfl, rfl, rfl⟩ (fun _ h => by repeat first | exact h | replace h := St.tail h | replace h := St.ftail h | replace h := St.drop h)
  ·
   try simp only [decide_eq_true_eq, decide_eq_false_iff_not, Bool.and_eq_true, Bool.or_eq_true, Bool.not_eq_true', Int.not_le, Int.not_lt] at hc0
   
   refine sy_skip ?_
   refine sy_nx ?_
   refine sy_seq ?_
   refine sy_tx' [0, 1, 2, 3, 4] rfl ?_
   refine sy_sq ?_
   refine spL rfl rfl (lhA [_, _, _, _, _, _, _, _, _, _, _] ag37 rfl rfl rfl) rfl ?_
   refine sy_sq ?_
   refine cl rfl cal85 rfl rfl (c_rStates t ht _ _ _) ?_
   rintro _ _ R1 ⟨oS, rfl, rfl, hR1⟩
   obtain rfl := hR1.symm
   obtain ⟨aS, cS, hoS, hfS⟩ := oS.freeze
   rw [hoS]
   refine Sy.heap (fun w h => (hfS h).ftail) ?_
   rw [show (srows (sts t)).length = t.nst from by rw [srows, List.length_map, sts_len]]
   refine sy_sq ?_
   refine sp rfl (PE.lenSl isl82 rfl) rfl ?_
   refine sy_sq ?_
   refine mkS rfl ap42 zl3 rfl rfl (Nat.le_refl _) ⟨by omega, by omega⟩ rfl (fun b20 => ?_)
   rw [repl0]
   refine sy_sq ?_
   refine sp rfl (PE.assign rfl) rfl ?_
   refine sy_sn ?_
   refine sy_nx ?_
   refine sy_seq ?_
   refine sy_seq ?_
   refine sy_tx' [0] rfl ?_
   refine sy_sq ?_
   refine sp rfl (PE.assign rfl) rfl ?_
   refine sy_sn ?_
   refine sy_nx ?_
   refine sy_block ?_
   refine sy_loop (ι := {x : Nat × List Int // x.1 ≤ t.nst ∧ x.2.length = t.nst ∧ ∀ j, j < x.1 → io x.2 j = -1}) (fun x => ⟨[(1, .slice a tb.length c), (2, .pointer (some ⟨b2, 0, none⟩)), (6, .slice (some ⟨b20, 0, none⟩) t.nst t.nst), (7, .int .i64 x.1.1)], (b20, cel 3 (ints (x.1.2))) :: (b2, cel 37 (twl t (t.sl (some ⟨ba, oa, none⟩) ca))) :: H, R⟩) (fun x => t.nst - x.1.1) ⟨(0, List.replicate t.nst 0), by omega, by simp, by omega⟩ ?_ (fun x => ?_)
   ·
    exact sy_at (by repeat' first | exact Sub.nil | apply Sub.cons | rfl | (simp [lk]; omega)) (fun _ h => h)
   ·
    obtain ⟨⟨i, la⟩, hi, hll, hin⟩ := x
    dsimp only at hi hll hin ⊢
    refine sy_seq ?_
    refine sy_seq ?_
    refine sy_tx' [0, 1, 2, 3] rfl ?_
    refine sy_sq ?_
    refine sp rfl (PE.move rfl) rfl ?_
    refine sy_sq ?_
    refine sp rfl (PE.move rfl) rfl ?_
    refine sy_sq ?_
    refine sp rfl (PE.lenSl isl42 rfl) rfl ?_
    refine sy_sq ?_
    refine sp rfl (PE.lss rfl rfl) rfl ?_
    refine sy_sn ?_
    refine sy_nx ?_
    refine sy_cond rfl (fun hc1 => ?_) (fun hc1 => ?_)
    ·
     try simp only [decide_eq_true_eq, decide_eq_false_iff_not, Bool.and_eq_true, Bool.or_eq_true, Bool.not_eq_true', Int.not_le, Int.not_lt] at hc1
     refine sy_skip ?_
     refine sy_nx ?_
     refine sy_seq ?_
     refine sy_block ?_
     refine sy_tx' [0, 1, 2, 3] rfl ?_
     refine sy_sq ?_
     refine sp rfl (PE.move rfl) rfl ?_
     refine sy_sq ?_
     refine sp rfl (PE.move rfl) rfl ?_
     refine sy_sq ?_
     refine sp rfl (PE.indexAddr el42 rfl rfl (by omega) (by omega)) rfl ?_
     refine sy_sq ?_
     refine stoE (l' := ints (la.set i (-1))) rfl rfl rfl cn3 rfl rfl rfl (spl_i (i := i) (by omega) (by omega)) (by rw [ints_length]; show 0 + ((i : Nat) : Int).toNat * 1 + 1 ≤ _; omega) ?_
     refine sy_sn ?_
     refine sy_bn ?_
     refine sy_nx ?_
     refine sy_tx' [0, 1, 2] rfl ?_
     refine sy_sq ?_
     refine sp rfl (PE.move rfl) rfl ?_
     refine sy_sq ?_
     refine sp rfl (PE.add rfl rfl (by omega)) rfl ?_
     refine sy_sq ?_
     refine sp rfl (PE.assign rfl) rfl ?_
     refine sy_sn ?_
     refine sy_nx ?_
     exact sy_next ⟨(i + 1, la.set i (-1)), by omega, by simp [hll], fun j hj => by
       rw [io_set (by omega)]
       by_cases e : i = j
       · simp [e]
       · simp only [e, decide_false, cond_false]; exact hin j (by dsimp only at hj; omega)⟩ (by dsimp only; omega) (by repeat' first | exact Sub.nil | apply Sub.cons | rfl | (simp [lk]; omega)) (fun _ h => h)
    ·
     try simp only [decide_eq_true_eq, decide_eq_false_iff_not, Bool.and_eq_true, Bool.or_eq_true, Bool.not_eq_true', Int.not_le, Int.not_lt] at hc1
     obtain rfl : i = t.nst := by omega
     refine sy_exit ?_
     refine sy_tx ?_
     refine sy_tx ?_
     refine sy_bx ?_
     refine sy_nx ?_
     refine sy_seq ?_
     refine sy_tx' [0] rfl ?_
     refine sy_sq ?_
     refine sp rfl (PE.assign rfl) rfl ?_
     refine sy_sn ?_
     refine sy_nx ?_
     refine sy_seq ?_
     refine sy_seq ?_
     refine sy_tx' [0] rfl ?_
     refine sy_sq ?_
     refine sp rfl (PE.assign rfl) rfl ?_
     refine sy_sn ?_
     refine sy_nx ?_
     refine sy_block ?_
     refine sy_loop (ι := {x : Nat × List Int × List Int × Bool // x.1 ≤ tb.length ∧ Rel t x.2.1 x.2.2.1 ∧ (∀ u, u.right t = true → -1 ≤ lat x.2.2.1 u) ∧ feedScan t tb false (nevY t) = feedScan t (tb.drop x.1) x.2.2.2 x.2.2.1}) (fun x => ⟨[(1, .slice a tb.length c), (2, .pointer (some ⟨b2, 0, none⟩)), (6, .slice (some ⟨b20, 0, none⟩) t.nst t.nst), (8, .bool x.1.2.2.2), (9, .int .i64 x.1.1)], (b20, cel 3 (ints (x.1.2.1))) :: (b2, cel 37 (twl t (t.sl (some ⟨ba, oa, none⟩) ca))) :: H, R⟩) (fun x => tb.length - x.1.1) ⟨(0, la, nevY t, false), by omega, ⟨hll, nevY_len t, fun u hu => by rw [hin _ (ixr_lt hu), nevY_get ht (right_sts hu)]⟩, fun u hu => by rw [nevY_get ht (right_sts hu)]; omega, rfl⟩ ?_ (fun x => ?_)
     ·
      exact sy_at (by repeat' first | exact Sub.nil | apply Sub.cons | rfl | (simp [lk]; omega)) (fun _ h => h)
     ·
      obtain ⟨⟨k, lb, y, tw⟩, hk, hrel, hge, hscan⟩ := x
      dsimp only at hk hrel hge hscan ⊢
      refine sy_seq ?_
      refine sy_seq ?_
      refine sy_tx' [0, 1, 2, 3] rfl ?_
      refine sy_sq ?_
      refine sp rfl (PE.move rfl) rfl ?_
      refine sy_sq ?_
      refine sp rfl (PE.move rfl) rfl ?_
      refine sy_sq ?_
      refine sp rfl (PE.lenSl isl46 rfl) rfl ?_
      refine sy_sq ?_
      refine sp rfl (PE.lss rfl rfl) rfl ?_
      refine sy_sn ?_
      refine sy_nx ?_
      refine sy_cond rfl (fun hc2 => ?_) (fun hc2 => ?_)
      ·
       try simp only [decide_eq_true_eq, decide_eq_false_iff_not, Bool.and_eq_true, Bool.or_eq_true, Bool.not_eq_true', Int.not_le, Int.not_lt] at hc2
       obtain ⟨x, hx⟩ : ∃ x, tb[k]? = some x := ⟨_, List.getElem?_eq_getElem (by omega)⟩
       have hxm := List.mem_of_getElem? hx
       refine sy_addr (a := a) (sz := 5) (rows := trows tb) (by intro h0; simp [trows] at h0; simp [h0] at hx) (fun bb ob he => ?_)
       subst he
       rw [drop_get hx] at hscan
       refine sy_skip ?_
       refine sy_nx ?_
       refine sy_seq ?_
       refine sy_block ?_
       refine sy_seq ?_
       refine sy_tx' [0, 1, 2, 3, 4, 5] rfl ?_
       refine sy_sq ?_
       refine sp rfl (PE.move rfl) rfl ?_
       refine sy_sq ?_
       refine sp rfl (PE.move rfl) rfl ?_
       refine sy_sq ?_
       refine sp rfl (PE.indexAddr el46 rfl rfl (by omega) (by omega)) rfl ?_
       refine sy_sq ?_
       refine spL rfl rfl (lfA (row := trow x) ag135 (tr_get hx) rfl) rfl ?_
       refine sy_sq ?_
       refine alc rfl zl135 rfl (fun b10 => ?_)
       refine sy_sq ?_
       refine sto rfl rfl rfl cn135 rfl rfl rfl rfl ?_
       refine sy_sn ?_
       refine sy_nx ?_
       refine sy_seq ?_
       refine sy_seq ?_
       refine sy_tx' [0, 1, 2, 3, 4, 5, 6, 7, 8, 9] rfl ?_
       refine sy_sq ?_
       refine spL rfl rfl (lhA [_, _, _, _, _, _, _, _, _, _, _] ag37 rfl rfl rfl) rfl ?_
       refine sy_sq ?_
       refine sp rfl (PE.fieldAddr fo135_0 rfl) rfl ?_
       refine sy_sq ?_
       refine spL rfl rfl (lhA [_, _, _] ag34 rfl rfl rfl) rfl ?_
       refine sy_sq ?_
       refine clV rfl cal39 rfl rfl (c_rRight t x.st _ _ _) ?_
       refine sy_sq ?_
       refine sp rfl (PE.not rfl) rfl ?_
       refine sy_sq ?_
       refine sp rfl (PE.move rfl) rfl ?_
       refine sy_sq ?_
       refine sy_case (t := 45) rfl (fun g45 => ?_) (fun g45 => ?_)
       ·
        have hbad : (x.st.right t && inb x.lasts 0 1000000) = false := by rw [show x.st.right t = false from by simpa using g45]; rfl
        refine spN rfl rfl rfl rfl rfl rfl rfl rfl ?_
        refine sy_sq ?_
        refine spN rfl rfl rfl rfl rfl rfl rfl rfl ?_
        refine sy_sq ?_
        refine spN rfl rfl rfl rfl rfl rfl rfl rfl ?_
        refine sy_sq ?_
        refine sp rfl (PE.pick rfl rfl rfl) rfl ?_
        refine sy_sn ?_
        refine sy_nx ?_
        refine sy_condT rfl ?_
        refine sy_seq ?_
        refine sy_tx' [0, 1] rfl ?_
        refine sy_sq ?_
        refine sp rfl (PE.assign rfl) rfl ?_
        refine sy_sq ?_
        refine sp rfl (PE.assign rfl) rfl ?_
        refine sy_sn ?_
        refine sy_nx ?_
        refine sy_ret ?_
        refine sy_tr ?_
        refine sy_br ?_
        refine sy_tr ?_
        refine sy_tr ?_
        refine sy_br ?_
        refine sy_tr ?_
        first
          | exact sy_return (vs := [_, _]) rfl (.cons (RV.tmp rfl) (.cons (RV.tmp rfl) .nil)) (by rw [hres]; rfl) ⟨rfl, rfl, rfl⟩ (fun _ h => by repeat first | exact h | replace h := St.tail h | replace h := St.ftail h | replace h := St.drop h)
          | exact sy_return (vs := [_, _]) rfl (.cons (RV.tmp rfl) (.cons (RV.tmp rfl) .nil)) (by rw [feedR_err hck (by omega) (hscan.trans (scan_bad1 hbad))]; rfl) ⟨rfl, rfl, rfl⟩ (fun _ h => by repeat first | exact h | replace h := St.tail h | replace h := St.ftail h | replace h := St.drop h)
       ·
        have hxr : x.st.right t = true := by simpa using g45
        refine spG rfl rfl rfl rfl (PE.fieldAddr fo135_1 rfl) rfl ?_
        refine sy_sq ?_
        refine spLG rfl rfl rfl rfl rfl (lh sc3 rfl rfl) rfl ?_
        refine sy_sq ?_
        refine clVG rfl rfl rfl rfl cal83 rfl rfl (c_off _ _ _ _ _) ?_
        refine sy_sq ?_
        refine sp rfl (PE.pick rfl rfl rfl) rfl ?_
        refine sy_sn ?_
        refine sy_nx ?_
        refine sy_cond rfl (fun hc3 => ?_) (fun hc3 => ?_)
        ·
         have hbad : (x.st.right t && inb x.lasts 0 1000000) = false := by rw [hxr, show inb x.lasts 0 1000000 = false from by rw [← Bool.not_eq_true']; exact hc3]; rfl
         refine sy_seq ?_
         refine sy_tx' [0, 1] rfl ?_
         refine sy_sq ?_
         refine sp rfl (PE.assign rfl) rfl ?_
         refine sy_sq ?_
         refine sp rfl (PE.assign rfl) rfl ?_
         refine sy_sn ?_
         refine sy_nx ?_
         refine sy_ret ?_
         refine sy_tr ?_
         refine sy_br ?_
         refine sy_tr ?_
         refine sy_tr ?_
         refine sy_br ?_
         refine sy_tr ?_
         first
           | exact sy_return (vs := [_, _]) rfl (.cons (RV.tmp rfl) (.cons (RV.tmp rfl) .nil)) (by rw [hres]; rfl) ⟨rfl, rfl, rfl⟩ (fun _ h => by repeat first | exact h | replace h := St.tail h | replace h := St.ftail h | replace h := St.drop h)
           | exact sy_return (vs := [_, _]) rfl (.cons (RV.tmp rfl) (.cons (RV.tmp rfl) .nil)) (by rw [feedR_err hck (by omega) (hscan.trans (scan_bad1 hbad))]; rfl) ⟨rfl, rfl, rfl⟩ (fun _ h => by repeat first | exact h | replace h := St.tail h | replace h := St.ftail h | replace h := St.drop h)
        ·
         have hib : inb x.lasts 0 1000000 = true := by rw [← Bool.not_eq_false']; exact hc3
         have hgood : (x.st.right t && inb x.lasts 0 1000000) = true := by rw [hxr, hib]; rfl
         simp only [inb, Bool.and_eq_true, decide_eq_true_eq] at hib
         refine sy_skip ?_
         refine sy_nx ?_
         refine sy_seq ?_
         refine sy_seq ?_
         refine sy_tx' [0, 1, 2, 3, 4, 5, 6] rfl ?_
         refine sy_sq ?_
         refine spL rfl rfl (lhA [_, _, _, _, _, _, _, _, _, _, _] ag37 rfl rfl rfl) rfl ?_
         refine sy_sq ?_
         refine sp rfl (PE.fieldAddr fo135_0 rfl) rfl ?_
         refine sy_sq ?_
         refine spL rfl rfl (lhA [_, _, _] ag34 rfl rfl rfl) rfl ?_
         refine sy_sq ?_
         refine sp rfl (PE.fieldAddr fo135_2 rfl) rfl ?_
         refine sy_sq ?_
         refine spL rfl rfl (lh sc3 rfl rfl) rfl ?_
         refine sy_sq ?_
         refine clV rfl cal87 rfl rfl (c_rSold t x.st x.ration ba oa ca (by have := ht.many; omega) _ _) ?_
         refine sy_sq ?_
         refine sp rfl (PE.assign rfl) rfl ?_
         refine sy_sn ?_
         refine sy_nx ?_
         refine sy_seq ?_
         refine sy_tx' [0, 1] rfl ?_
         refine sy_sq ?_
         refine sp rfl (PE.move rfl) rfl ?_
         refine sy_sq ?_
         refine sp rfl (PE.neq rfl rfl) rfl ?_
         refine sy_sn ?_
         refine sy_nx ?_
         refine sy_cond rfl (fun hc4 => ?_) (fun hc4 => ?_)
         ·
          try simp only [decide_eq_true_eq, decide_eq_false_iff_not, Bool.and_eq_true, Bool.or_eq_true, Bool.not_eq_true', Int.not_le, Int.not_lt] at hc4
          have hres := feedR_err hck (by omega) (hscan.trans (scan_bad2 hgood hc4))
          refine sy_seq ?_
          refine sy_tx' [0, 1, 2] rfl ?_
          refine sy_sq ?_
          refine sp rfl (PE.move rfl) rfl ?_
          refine sy_sq ?_
          refine sp rfl (PE.assign rfl) rfl ?_
          refine sy_sq ?_
          refine sp rfl (PE.assign rfl) rfl ?_
          refine sy_sn ?_
          refine sy_nx ?_
          refine sy_ret ?_
          refine sy_tr ?_
          refine sy_br ?_
          refine sy_tr ?_
          refine sy_tr ?_
          refine sy_br ?_
          refine sy_tr ?_
          first
            | exact sy_return (vs := [_, _]) rfl (.cons (RV.tmp rfl) (.cons (RV.tmp rfl) .nil)) (by rw [hres]; rfl) ⟨rfl, rfl, rfl⟩ (fun _ h => by repeat first | exact h | replace h := St.tail h | replace h := St.ftail h | replace h := St.drop h)
            | exact sy_return (vs := [_, _]) rfl (.cons (RV.tmp rfl) (.cons (RV.tmp rfl) .nil)) (by rw [feedR_err hck (by omega) (hscan.trans (scan_bad1 hbad))]; rfl) ⟨rfl, rfl, rfl⟩ (fun _ h => by repeat first | exact h | replace h := St.tail h | replace h := St.ftail h | replace h := St.drop h)
         ·
          try simp only [decide_eq_true_eq, decide_eq_false_iff_not, Bool.and_eq_true, Bool.or_eq_true, Bool.not_eq_true', Int.not_le, Int.not_lt] at hc4
          
          refine sy_skip ?_
          refine sy_nx ?_
          refine sy_seq ?_
          refine sy_seq ?_
          refine sy_tx' [0, 1, 2, 3, 4, 5, 6, 7] rfl ?_
          refine sy_sq ?_
          refine sp rfl (PE.move rfl) rfl ?_
          refine sy_sq ?_
          refine spL rfl rfl (lhA [_, _, _, _, _, _, _, _, _, _, _] ag37 rfl rfl rfl) rfl ?_
          refine sy_sq ?_
          refine sp rfl (PE.fieldAddr fo135_0 rfl) rfl ?_
          refine sy_sq ?_
          refine spL rfl rfl (lhA [_, _, _] ag34 rfl rfl rfl) rfl ?_
          refine sy_sq ?_
          refine clV rfl cal84 rfl rfl (c_rIndex t ht x.st hxr _ _ _) ?_
          refine sy_sq ?_
          refine sp rfl (PE.indexAddr el42 rfl rfl (by omega) (by have := ixr_lt hxr; omega)) rfl ?_
          refine sy_sq ?_
          refine spL rfl rfl (lh (v := .int .i64 (lat y x.st)) sc3 rfl (ints_at (i := ixr t x.st) (by rw [← hrel.at_ _ hxr]; exact io_get (by rw [hrel.len]; exact ixr_lt hxr)) (by omega))) rfl ?_
          refine sy_sq ?_
          refine sp rfl (PE.geq rfl rfl) rfl ?_
          refine sy_sn ?_
          refine sy_nx ?_
          refine sy_cond rfl (fun hc5 => ?_) (fun hc5 => ?_)
          ·
           try simp only [decide_eq_true_eq, decide_eq_false_iff_not, Bool.and_eq_true, Bool.or_eq_true, Bool.not_eq_true', Int.not_le, Int.not_lt] at hc5
           have htw : (tw || decide (lat y x.st ≠ -1)) = true := by rw [decide_eq_true (show lat y x.st ≠ -1 by omega)]; simp
           refine sy_tx' [0] rfl ?_
           refine sy_sq ?_
           refine sp rfl (PE.assign rfl) rfl ?_
           refine sy_sn ?_
           refine sy_nx ?_
           refine sy_draw [0, 0, 0, 4, 14, 0, 32, 127, 255] (.tk 0 (.ld 1 (.tk 2 (.ld 3 (.tk 5 (.ld 6 (.big 4 (.tk 7 (.big 8 .done))))))))) mixed (by kernel_rfl) ?_
           refine tk rfl (PE.move rfl) rfl ?_
           refine ld rfl rfl (lhA [_, _, _, _, _, _, _, _, _, _, _] ag37 rfl rfl rfl) rfl ?_
           refine tk rfl (PE.fieldAddr fo135_0 rfl) rfl ?_
           refine ld rfl rfl (lhA [_, _, _] ag34 rfl rfl rfl) rfl ?_
           refine tk rfl (PE.fieldAddr fo135_1 rfl) rfl ?_
           refine ld rfl rfl (lh sc3 rfl rfl) rfl ?_
           refine sy_bg ?_
           refine clV rfl cal84 rfl rfl (c_rIndex t ht x.st hxr _ _ _) ?_
           refine bg (fun w hs => ⟨(lh sc3 rfl rfl) w hs, trivial, trivial, trivial⟩) ?_
           refine tk rfl (PE.indexAddr el42 rfl rfl (by omega) (by have := ixr_lt hxr; omega)) rfl ?_
           refine sy_bg ?_
           refine stoE (l' := ints (lb.set (ixr t x.st) x.lasts)) rfl rfl rfl cn3 rfl rfl rfl (spl_i (i := ixr t x.st) (by rw [hrel.len]; exact ixr_lt hxr) (by omega)) (by rw [ints_length, hrel.len]; have := ixr_lt hxr; show 0 + ((ixr t x.st : Nat) : Int).toNat * 1 + 1 ≤ _; omega) ?_
           refine bg (fun w hs => ⟨trivial, trivial⟩) ?_
           refine sy_dn ?_
           refine sy_bn ?_
           refine sy_nx ?_
           refine sy_tx' [0, 1, 2] rfl ?_
           refine sy_sq ?_
           refine sp rfl (PE.move rfl) rfl ?_
           refine sy_sq ?_
           refine sp rfl (PE.add rfl rfl (by omega)) rfl ?_
           refine sy_sq ?_
           refine sp rfl (PE.assign rfl) rfl ?_
           refine sy_sn ?_
           refine sy_nx ?_
           have hs2 := hscan.trans (scan_ok hgood (by omega))
           rw [htw] at hs2
           exact sy_next ⟨(k + 1, _, _, _), by omega, hrel.set ht hxr x.lasts, fun u hu => by
             by_cases e : x.st.ix = u.ix
             · obtain rfl := ix_inj ht hxr hu e
               dsimp only; rw [lat_set_self (by rw [hrel.ylen]; exact ix_lt ht hxr)]; omega
             · dsimp only; rw [lat_set_ne e]; exact hge u hu, hs2⟩ (by dsimp only; omega) (by repeat' first | exact Sub.nil | apply Sub.cons | rfl | (simp [lk]; omega)) (fun w h => h.del b10)
          ·
           try simp only [decide_eq_true_eq, decide_eq_false_iff_not, Bool.and_eq_true, Bool.or_eq_true, Bool.not_eq_true', Int.not_le, Int.not_lt] at hc5
           have htw : (tw || decide (lat y x.st ≠ -1)) = tw := by rw [decide_eq_false (show ¬ lat y x.st ≠ -1 by have := hge _ hxr; omega)]; simp
           refine sy_skip ?_
           refine sy_nx ?_
           refine sy_draw [0, 0, 0, 4, 14, 0, 32, 127, 255] (.tk 0 (.ld 1 (.tk 2 (.ld 3 (.tk 5 (.ld 6 (.big 4 (.tk 7 (.big 8 .done))))))))) mixed (by kernel_rfl) ?_
           refine tk rfl (PE.move rfl) rfl ?_
           refine ld rfl rfl (lhA [_, _, _, _, _, _, _, _, _, _, _] ag37 rfl rfl rfl) rfl ?_
           refine tk rfl (PE.fieldAddr fo135_0 rfl) rfl ?_
           refine ld rfl rfl (lhA [_, _, _] ag34 rfl rfl rfl) rfl ?_
           refine tk rfl (PE.fieldAddr fo135_1 rfl) rfl ?_
           refine ld rfl rfl (lh sc3 rfl rfl) rfl ?_
           refine sy_bg ?_
           refine clV rfl cal84 rfl rfl (c_rIndex t ht x.st hxr _ _ _) ?_
           refine bg (fun w hs => ⟨(lh sc3 rfl rfl) w hs, trivial, trivial, trivial⟩) ?_
           refine tk rfl (PE.indexAddr el42 rfl rfl (by omega) (by have := ixr_lt hxr; omega)) rfl ?_
           refine sy_bg ?_
           refine stoE (l' := ints (lb.set (ixr t x.st) x.lasts)) rfl rfl rfl cn3 rfl rfl rfl (spl_i (i := ixr t x.st) (by rw [hrel.len]; exact ixr_lt hxr) (by omega)) (by rw [ints_length, hrel.len]; have := ixr_lt hxr; show 0 + ((ixr t x.st : Nat) : Int).toNat * 1 + 1 ≤ _; omega) ?_
           refine bg (fun w hs => ⟨trivial, trivial⟩) ?_
           refine sy_dn ?_
           refine sy_bn ?_
           refine sy_nx ?_
           refine sy_tx' [0, 1, 2] rfl ?_
           refine sy_sq ?_
           refine sp rfl (PE.move rfl) rfl ?_
           refine sy_sq ?_
           refine sp rfl (PE.add rfl rfl (by omega)) rfl ?_
           refine sy_sq ?_
           refine sp rfl (PE.assign rfl) rfl ?_
           refine sy_sn ?_
           refine sy_nx ?_
           have hs2 := hscan.trans (scan_ok hgood (by omega))
           rw [htw] at hs2
           exact sy_next ⟨(k + 1, _, _, _), by omega, hrel.set ht hxr x.lasts, fun u hu => by
             by_cases e : x.st.ix = u.ix
             · obtain rfl := ix_inj ht hxr hu e
               dsimp only; rw [lat_set_self (by rw [hrel.ylen]; exact ix_lt ht hxr)]; omega
             · dsimp only; rw [lat_set_ne e]; exact hge u hu, hs2⟩ (by dsimp only; omega) (by repeat' first | exact Sub.nil | apply Sub.cons | rfl | (simp [lk]; omega)) (fun w h => h.del b10)
      ·
       try simp only [decide_eq_true_eq, decide_eq_false_iff_not, Bool.and_eq_true, Bool.or_eq_true, Bool.not_eq_true', Int.not_le, Int.not_lt] at hc2
       obtain rfl : k = tb.length := by omega
       rw [List.drop_length] at hscan
       have hfr := feedR_ok hck (by omega) hscan
       have hall := feedScan_ok tb _ _ _ hscan
       refine sy_exit ?_
       refine sy_tx ?_
       refine sy_tx ?_
       refine sy_bx ?_
       refine sy_nx ?_
       refine sy_seq ?_
       refine sy_seq ?_
       refine sy_tx' [0] rfl ?_
       refine sy_sq ?_
       refine sp rfl (PE.move rfl) rfl ?_
       refine sy_sn ?_
       refine sy_nx ?_
       refine sy_cond rfl (fun hc6 => ?_) (fun hc6 => ?_)
       ·
        try simp only [decide_eq_true_eq, decide_eq_false_iff_not, Bool.and_eq_true, Bool.or_eq_true, Bool.not_eq_true', Int.not_le, Int.not_lt] at hc6
        have hres : feedR t tb = (0, 5) := by rw [hfr, hc6]; rfl
        refine sy_seq ?_
        refine sy_tx' [0, 1] rfl ?_
        refine sy_sq ?_
        refine sp rfl (PE.assign rfl) rfl ?_
        refine sy_sq ?_
        refine sp rfl (PE.assign rfl) rfl ?_
        refine sy_sn ?_
        refine sy_nx ?_
        refine sy_ret ?_
        refine sy_tr ?_
        first
          | exact sy_return (vs := [_, _]) rfl (.cons (RV.tmp rfl) (.cons (RV.tmp rfl) .nil)) (by rw [hres]; rfl) ⟨rfl, rfl, rfl⟩ (fun _ h => by repeat first | exact h | replace h := St.tail h | replace h := St.ftail h | replace h := St.drop h)
          | exact sy_return (vs := [_, _]) rfl (.cons (RV.tmp rfl) (.cons (RV.tmp rfl) .nil)) (by rw [feedR_err hck (by omega) (hscan.trans (scan_bad1 hbad))]; rfl) ⟨rfl, rfl, rfl⟩ (fun _ h => by repeat first | exact h | replace h := St.tail h | replace h := St.ftail h | replace h := St.drop h)
       ·
        rw [hc6] at hfr
        refine Sy.heap (fun w h => St.intRows h) ?_
        refine sy_skip ?_
        refine sy_nx ?_
        refine sy_seq ?_
        refine sy_seq ?_
        refine sy_tx' [0] rfl ?_
        refine sy_sq ?_
        refine sp rfl (PE.assign rfl) rfl ?_
        refine sy_sn ?_
        refine sy_nx ?_
        refine sy_block ?_
        refine sy_loop (ι := {k : Nat // k ≤ tb.length ∧ ∀ x ∈ tb.take k, tabKeeps t y x = true}) (fun k => ⟨[(1, .slice a tb.length c), (2, .pointer (some ⟨b2, 0, none⟩)), (6, .slice (some ⟨b20, 0, none⟩) t.nst t.nst), (12, .int .i64 k.1)], (b2, cel 37 (twl t (t.sl (some ⟨ba, oa, none⟩) ca))) :: H, RowsA (some ⟨b20, 0, none⟩) 1 (irows lb) :: R⟩) (fun k => tb.length - k.1) ⟨0, by omega, by simp⟩ ?_ (fun k => ?_)
        ·
         exact sy_at (by repeat' first | exact Sub.nil | apply Sub.cons | rfl | (simp [lk]; omega)) (fun _ h => h)
        ·
         obtain ⟨k, hk, hke⟩ := k
         dsimp only
         refine sy_seq ?_
         refine sy_seq ?_
         refine sy_tx' [0, 1, 2, 3] rfl ?_
         refine sy_sq ?_
         refine sp rfl (PE.move rfl) rfl ?_
         refine sy_sq ?_
         refine sp rfl (PE.move rfl) rfl ?_
         refine sy_sq ?_
         refine sp rfl (PE.lenSl isl46 rfl) rfl ?_
         refine sy_sq ?_
         refine sp rfl (PE.lss rfl rfl) rfl ?_
         refine sy_sn ?_
         refine sy_nx ?_
         refine sy_cond rfl (fun hc7 => ?_) (fun hc7 => ?_)
         ·
          try simp only [decide_eq_true_eq, decide_eq_false_iff_not, Bool.and_eq_true, Bool.or_eq_true, Bool.not_eq_true', Int.not_le, Int.not_lt] at hc7
          obtain ⟨x, hx⟩ : ∃ x, tb[k]? = some x := ⟨_, List.getElem?_eq_getElem (by omega)⟩
          have hxm := List.mem_of_getElem? hx
          refine sy_addr (a := a) (sz := 5) (rows := trows tb) (by intro h0; simp [trows] at h0; simp [h0] at hx) (fun bb ob he => ?_)
          subst he
          obtain ⟨hxr, hxl, q, hrt, hcan⟩ := hall x hxm
          obtain ⟨h0, hq⟩ := rat_iff.1 hrt
          have htk : tabKeeps t y x = t.keeps y x.st q x.lasts := by unfold tabKeeps; rw [hrt]
          refine sy_skip ?_
          refine sy_nx ?_
          refine sy_seq ?_
          refine sy_block ?_
          refine sy_seq ?_
          refine sy_draw [0, 0, 0, 0, 12, 28, 60, 0, 0, 384, 896, 1920, 0, 0, 12288, 28672, 61440, 131071, 262143] (.ld 0 (.tk 1 (.tk 2 (.tk 3 (.tk 4 (.tk 5 (.ld 6 (.tk 7 (.tk 8 (.tk 9 (.tk 10 (.ld 11 (.tk 12 (.tk 13 (.tk 14 (.tk 15 (.ld 16 (.big 17 (.tk 18 .done))))))))))))))))))) mixed (by kernel_rfl) ?_
          refine ld rfl rfl (lhA [_, _, _, _, _, _, _, _, _, _, _] ag37 rfl rfl rfl) rfl ?_
          refine tk rfl (PE.move rfl) rfl ?_
          refine tk rfl (PE.move rfl) rfl ?_
          refine tk rfl (PE.move rfl) rfl ?_
          refine tk rfl (PE.indexAddr el46 rfl rfl (by omega) (by omega)) rfl ?_
          refine tk rfl (PE.fieldAddr fo135_0 rfl) rfl ?_
          refine ld rfl rfl (lfAt (j := 0) (row := trow x) [_, _, _] ag34 (tr_get hx) rfl rfl) rfl ?_
          refine tk rfl (PE.move rfl) rfl ?_
          refine tk rfl (PE.move rfl) rfl ?_
          refine tk rfl (PE.indexAddr el46 rfl rfl (by omega) (by omega)) rfl ?_
          refine tk rfl (PE.fieldAddr fo135_2 rfl) rfl ?_
          refine ld rfl rfl (lf (x := .int .i64 x.ration) sc3 (tr_get hx) rfl) rfl ?_
          refine tk rfl (PE.move rfl) rfl ?_
          refine tk rfl (PE.move rfl) rfl ?_
          refine tk rfl (PE.indexAddr el46 rfl rfl (by omega) (by omega)) rfl ?_
          refine tk rfl (PE.fieldAddr fo135_1 rfl) rfl ?_
          refine ld rfl rfl (lf (x := .int .i64 x.lasts) sc3 (tr_get hx) rfl) rfl ?_
          refine sy_bg ?_
          refine clV rfl cal88 rfl rfl (c_rKeeps t ht x.st hxr x.ration q h0 hq x.lasts hxl ba oa ca lb y hrel b20 0 t.nst _ _) ?_
          refine bg (fun w hs => ⟨trivial, trivial, trivial, trivial, trivial⟩) ?_
          refine tk rfl (PE.not rfl) rfl ?_
          refine sy_dn ?_
          refine sy_nx ?_
          refine sy_cond rfl (fun hc8 => ?_) (fun hc8 => ?_)
          ·
           have hres : feedR t tb = (0, 8) := by
             rw [hfr]; unfold feedEnd
             rw [show tb.all (tabKeeps t y) = false from List.all_eq_false.2 ⟨x, hxm, by rw [htk]; simpa using hc8⟩]; rfl
           refine sy_seq ?_
           refine sy_tx' [0, 1] rfl ?_
           refine sy_sq ?_
           refine sp rfl (PE.assign rfl) rfl ?_
           refine sy_sq ?_
           refine sp rfl (PE.assign rfl) rfl ?_
           refine sy_sn ?_
           refine sy_nx ?_
           refine sy_ret ?_
           refine sy_br ?_
           refine sy_tr ?_
           refine sy_tr ?_
           refine sy_br ?_
           refine sy_tr ?_
           first
             | exact sy_return (vs := [_, _]) rfl (.cons (RV.tmp rfl) (.cons (RV.tmp rfl) .nil)) (by rw [hres]; rfl) ⟨rfl, rfl, rfl⟩ (fun _ h => by repeat first | exact h | replace h := St.tail h | replace h := St.ftail h | replace h := St.drop h)
             | exact sy_return (vs := [_, _]) rfl (.cons (RV.tmp rfl) (.cons (RV.tmp rfl) .nil)) (by rw [feedR_err hck (by omega) (hscan.trans (scan_bad1 hbad))]; rfl) ⟨rfl, rfl, rfl⟩ (fun _ h => by repeat first | exact h | replace h := St.tail h | replace h := St.ftail h | replace h := St.drop h)
          ·
           have hkp : tabKeeps t y x = true := by rw [htk]; simpa using hc8
           refine sy_skip ?_
           refine sy_bn ?_
           refine sy_nx ?_
           refine sy_tx' [0, 1, 2] rfl ?_
           refine sy_sq ?_
           refine sp rfl (PE.move rfl) rfl ?_
           refine sy_sq ?_
           refine sp rfl (PE.add rfl rfl (by omega)) rfl ?_
           refine sy_sq ?_
           refine sp rfl (PE.assign rfl) rfl ?_
           refine sy_sn ?_
           refine sy_nx ?_
           exact sy_next ⟨k + 1, by omega, fun z hz => by
             rw [List.take_add_one, hx] at hz
             rcases List.mem_append.1 hz with h | h
             · exact hke z h
             · simp only [Option.toList_some, List.mem_singleton] at h; subst h; exact hkp⟩ (by dsimp only; omega) (by repeat' first | exact Sub.nil | apply Sub.cons | rfl | (simp [lk]; omega)) (fun _ h => h)
         ·
          try simp only [decide_eq_true_eq, decide_eq_false_iff_not, Bool.and_eq_true, Bool.or_eq_true, Bool.not_eq_true', Int.not_le, Int.not_lt] at hc7
          obtain rfl : k = tb.length := by omega
          rw [List.take_length] at hke
          have hfe : feedR t tb = bif decide (lat y t.now = -1) then (0, 6) else (lat y t.now, 0) := by rw [hfr]; unfold feedEnd; rw [List.all_eq_true.2 hke]; rfl
          refine sy_exit ?_
          refine sy_tx ?_
          refine sy_tx ?_
          refine sy_bx ?_
          refine sy_nx ?_
          refine sy_seq ?_
          refine sy_seq ?_
          refine sy_tx' [0, 1, 2, 3, 4, 5, 6, 7] rfl ?_
          refine sy_sq ?_
          refine sp rfl (PE.move rfl) rfl ?_
          refine sy_sq ?_
          refine spL rfl rfl (lhA [_, _, _, _, _, _, _, _, _, _, _] ag37 rfl rfl rfl) rfl ?_
          refine sy_sq ?_
          refine sp rfl (PE.fieldAddr fo37_0 rfl) rfl ?_
          refine sy_sq ?_
          refine spL rfl rfl (lhA [_, _, _] ag34 rfl rfl rfl) rfl ?_
          refine sy_sq ?_
          refine clV rfl cal84 rfl rfl (c_rIndex t ht t.now ht.now _ _ _) ?_
          refine sy_sq ?_
          refine sp rfl (PE.indexAddr el42 rfl rfl (by omega) (by have := ixr_lt ht.now; omega)) rfl ?_
          refine sy_sq ?_
          refine spL rfl rfl (lf0 (x := .int .i64 (lat y t.now)) sc3 (rel_row hrel ht.now) rfl) rfl ?_
          refine sy_sq ?_
          refine sp rfl (PE.assign rfl) rfl ?_
          refine sy_sn ?_
          refine sy_nx ?_
          refine sy_seq ?_
          refine sy_tx' [0, 1] rfl ?_
          refine sy_sq ?_
          refine sp rfl (PE.move rfl) rfl ?_
          refine sy_sq ?_
          refine sp rfl (PE.geq rfl rfl) rfl ?_
          refine sy_sn ?_
          refine sy_nx ?_
          refine sy_cond rfl (fun hc9 => ?_) (fun hc9 => ?_)
          ·
           try simp only [decide_eq_true_eq, decide_eq_false_iff_not, Bool.and_eq_true, Bool.or_eq_true, Bool.not_eq_true', Int.not_le, Int.not_lt] at hc9
           have hres : feedR t tb = (lat y t.now, 0) := by rw [hfe, decide_eq_false (by omega)]; rfl
           refine sy_seq ?_
           refine sy_tx' [0, 1, 2] rfl ?_
           refine sy_sq ?_
           refine sp rfl (PE.move rfl) rfl ?_
           refine sy_sq ?_
           refine sp rfl (PE.assign rfl) rfl ?_
           refine sy_sq ?_
           refine sp rfl (PE.assign rfl) rfl ?_
           refine sy_sn ?_
           refine sy_nx ?_
           refine sy_ret ?_
           refine sy_tr ?_
           first
             | exact sy_return (vs := [_, _]) rfl (.cons (RV.tmp rfl) (.cons (RV.tmp rfl) .nil)) (by rw [hres]; rfl) ⟨rfl, rfl, rfl⟩ (fun _ h => by repeat first | exact h | replace h := St.tail h | replace h := St.ftail h | replace h := St.drop h)
             | exact sy_return (vs := [_, _]) rfl (.cons (RV.tmp rfl) (.cons (RV.tmp rfl) .nil)) (by rw [feedR_err hck (by omega) (hscan.trans (scan_bad1 hbad))]; rfl) ⟨rfl, rfl, rfl⟩ (fun _ h => by repeat first | exact h | replace h := St.tail h | replace h := St.ftail h | replace h := St.drop h)
          ·
           try simp only [decide_eq_true_eq, decide_eq_false_iff_not, Bool.and_eq_true, Bool.or_eq_true, Bool.not_eq_true', Int.not_le, Int.not_lt] at hc9
           have hres : feedR t tb = (0, 6) := by rw [hfe, decide_eq_true (by have := hge _ ht.now; omega)]; rfl
           refine sy_skip ?_
           refine sy_nx ?_
           refine sy_seq ?_
           refine sy_tx' [0, 1] rfl ?_
           refine sy_sq ?_
           refine sp rfl (PE.assign rfl) rfl ?_
           refine sy_sq ?_
           refine sp rfl (PE.assign rfl) rfl ?_
           refine sy_sn ?_
           refine sy_nx ?_
           refine sy_ret ?_
           first
             | exact sy_return (vs := [_, _]) rfl (.cons (RV.tmp rfl) (.cons (RV.tmp rfl) .nil)) (by rw [hres]; rfl) ⟨rfl, rfl, rfl⟩ (fun _ h => by repeat first | exact h | replace h := St.tail h | replace h := St.ftail h | replace h := St.drop h)
             | exact sy_return (vs := [_, _]) rfl (.cons (RV.tmp rfl) (.cons (RV.tmp rfl) .nil)) (by rw [feedR_err hck (by omega) (hscan.trans (scan_bad1 hbad))]; rfl) ⟨rfl, rfl, rfl⟩ (fun _ h => by repeat first | exact h | replace h := St.tail h | replace h := St.ftail h | replace h := St.drop h)

theorem c_rows (tb : List Rw) (a : Option Addr) (c : Nat) (hl : tb.length ≤ 1000000) (H : Heap) (R : Facts) [hR : MemRows a 5 (trows tb) R] :
    Fn Try.prog 24 [.slice a tb.length c] H R (fun v H' R' => ∃ a' c', v = .slice a' tb.length c' ∧ H' = H ∧ R' = RowsA a' 5 (trows tb) :: R) := by
  refine fn_of Try.func24 rfl Try.ntmps24 rfl ?_
  refine sy_seq ?_
  refine sy_tx' [0] rfl ?_
  refine sy_sq ?_
  refine sp rfl (PE.assign rfl) rfl ?_
  refine sy_sn ?_
  refine sy_nx ?_
  refine sy_seq ?_
  refine sy_tx' [0] rfl ?_
  refine sy_sq ?_
  refine sp rfl (PE.assign rfl) rfl ?_
  refine sy_sn ?_
  refine sy_nx ?_
  refine sy_seq ?_
  refine sy_seq ?_
  refine sy_tx' [0, 1, 2] rfl ?_
  refine sy_sq ?_
  refine sp rfl (PE.move rfl) rfl ?_
  refine sy_sq ?_
  refine sp rfl (PE.lenSl isl27 rfl) rfl ?_
  refine sy_sq ?_
  refine sp rfl (PE.move rfl) rfl ?_
  refine sy_sn ?_
  refine sy_nx ?_
  refine sy_block ?_
  refine sy_loop (ι := (k : {k : Nat // k ≤ tb.length}) × OSl 135 5 (trows (tb.take k.1))) (fun x => ⟨[(3, x.2.fs), (6, .slice a tb.length c), (7, .int .i64 tb.length), (8, .int .i64 x.1.1)], x.2.G ++ H, R⟩) (fun x => tb.length - x.1.1) ⟨⟨0, by omega⟩, (OSl.nil _ _).cast (by simp [trows])⟩ ?_ (fun x => ?_)
  ·
   exact sy_at (by repeat' first | exact Sub.nil | apply Sub.cons | rfl | (simp [lk]; omega)) (fun _ h => h)
  ·
   obtain ⟨⟨k, hk⟩, o'⟩ := x
   dsimp only at o' ⊢
   refine sy_seq ?_
   refine sy_tx' [0] rfl ?_
   refine sy_sq ?_
   refine sp rfl (PE.lss rfl rfl) rfl ?_
   refine sy_sn ?_
   refine sy_nx ?_
   refine sy_seq ?_
   refine sy_cond rfl (fun hc0 => ?_) (fun hc0 => ?_)
   ·
    try simp only [decide_eq_true_eq, decide_eq_false_iff_not, Bool.and_eq_true, Bool.or_eq_true, Bool.not_eq_true', Int.not_le, Int.not_lt] at hc0
    obtain ⟨x, hx⟩ : ∃ x, tb[k]? = some x := ⟨_, List.getElem?_eq_getElem (by omega)⟩
    refine sy_addr (a := a) (sz := 5) (rows := trows tb) (by intro h0; simp [trows] at h0; simp [h0] at hx) (fun b off he => ?_)
    subst he
    refine sy_skip ?_
    refine sy_nx ?_
    refine sy_seq ?_
    refine sy_block ?_
    refine sy_seq ?_
    refine sy_tx' [0, 1, 2, 3] rfl ?_
    refine sy_sq ?_
    refine sp rfl (PE.indexAddr el27 rfl rfl (by omega) (by omega)) rfl ?_
    refine sy_sq ?_
    refine spL rfl rfl (lfA (row := trow x) ag33 (tr_get hx) rfl) rfl ?_
    refine sy_sq ?_
    refine alc rfl zl33 rfl (fun b5 => ?_)
    refine sy_sq ?_
    refine sto rfl rfl rfl cn33 rfl rfl rfl rfl ?_
    refine sy_sn ?_
    refine sy_nx ?_
    refine sy_tx' [0, 1, 2, 3, 4, 5, 6, 7, 8, 9, 10] rfl ?_
    refine sy_sq ?_
    refine sp rfl (PE.move rfl) rfl ?_
    refine sy_sq ?_
    refine sp rfl (PE.fieldAddr fo33_0 rfl) rfl ?_
    refine sy_sq ?_
    refine spL rfl rfl (lhA [_, _, _] ag23 rfl rfl rfl) rfl ?_
    refine sy_sq ?_
    refine sp rfl (PE.fieldAddr fo33_1 rfl) rfl ?_
    refine sy_sq ?_
    refine spL rfl rfl (lh sc3 rfl rfl) rfl ?_
    refine sy_sq ?_
    refine sp rfl (PE.fieldAddr fo33_2 rfl) rfl ?_
    refine sy_sq ?_
    refine spL rfl rfl (lh sc3 rfl rfl) rfl ?_
    refine sy_sq ?_
    refine sp rfl (PE.build (out := [_, _, _, _, _]) pl135 zl135 rfl rfl) rfl ?_
    refine sy_sq ?_
    refine bsl (out := [_, _, _, _, _]) rfl sl46 zl135 rfl rfl rfl rfl rfl rfl (fun b20 => ?_)
    refine sy_sq ?_
    refine apO (o') rfl ap46 rfl rfl (rowsH (row := trow x) rfl) rfl rfl ((by simp only [trows, List.length_map, List.length_take, List.length_singleton]; omega)) rfl (fun o21 => ?_)
    refine sy_sq ?_
    refine sp rfl (PE.assign rfl) rfl ?_
    refine sy_sn ?_
    refine sy_bn ?_
    refine sy_nx ?_
    refine sy_tx' [0, 1] rfl ?_
    refine sy_sq ?_
    refine sp rfl (PE.add rfl rfl (by omega)) rfl ?_
    refine sy_sq ?_
    refine sp rfl (PE.move rfl) rfl ?_
    refine sy_sn ?_
    refine sy_nx ?_
    exact sy_next ⟨⟨k + 1, by omega⟩, o21.cast (by rw [List.take_add_one, hx]; simp [trows])⟩ (by dsimp only; omega) (by repeat' first | exact Sub.nil | apply Sub.cons | rfl | (simp [lk]; omega)) (fun w h => (h.del b20).del b5)
   ·
    try simp only [decide_eq_true_eq, decide_eq_false_iff_not, Bool.and_eq_true, Bool.or_eq_true, Bool.not_eq_true', Int.not_le, Int.not_lt] at hc0
    obtain rfl : k = tb.length := by omega
    obtain ⟨a', c', he, hf⟩ := (o'.cast (by rw [List.take_length]) : OSl _ 5 (trows tb)).freeze
    rw [show o'.fs = _ from he]
    refine Sy.heap (fun w h => hf h) ?_
    rw [show (trows tb).length = tb.length from List.length_map _]
    refine sy_exit ?_
    refine sy_tx ?_
    refine sy_tx ?_
    refine sy_bx ?_
    refine sy_nx ?_
    refine sy_seq ?_
    refine sy_tx' [0, 1] rfl ?_
    refine sy_sq ?_
    refine sp rfl (PE.move rfl) rfl ?_
    refine sy_sq ?_
    refine sp rfl (PE.assign rfl) rfl ?_
    refine sy_sn ?_
    refine sy_nx ?_
    refine sy_ret ?_
    exact sy_return (vs := [_]) rfl (.cons (RV.tmp rfl) .nil) rfl ⟨a', c', rfl, rfl, rfl⟩ (fun _ h => h)
end Go.Proofs.Ytaldphhdkmchhaa
