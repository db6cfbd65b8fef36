/- Walks of the functions of the program: what each returns and leaves in memory, under the conditions that its theorem names. -/
import Derived.Test.YtaldphhdkmchhaaTy
import Derived.Test.YtaldphhdkmchhaaMa
import Derived.Test.YtaldphhdkmchhaaWk25
namespace Go.Proofs.Ytaldphhdkmchhaa
set_option linter.unusedSimpArgs false
set_option linter.unusedVariables false
open Go
theorem cal111 : cal Try.prog 111 = true := by kernel_rfl
theorem cal50 : cal Try.prog 50 = true := by kernel_rfl
theorem cal51 : cal Try.prog 51 = true := by kernel_rfl
theorem cal52 : cal Try.prog 52 = true := by kernel_rfl
theorem cal53 : cal Try.prog 53 = true := by kernel_rfl
theorem el85 : elN Try.prog 85 = some 3 := by kernel_rfl
theorem isl85 : isSl Try.prog 85 = true := by kernel_rfl
theorem c_eq_bool (xs ys : List Bool) (a a2 : Option Addr) (c c2 : Nat) (hl : xs.length ≤ 9223372036854775807) (hl2 : ys.length ≤ 9223372036854775807) (H : Heap) (R : Facts) [hR : MemRows a 1 (brows xs) R] [hR2 : MemRows a2 1 (brows ys) R] :
    FnV Try.prog 111 [.slice a xs.length c, .slice a2 ys.length c2] H R (.bool (decide (xs = ys))) := by
  refine fn_of Try.func111 rfl Try.ntmps111 rfl ?_
  refine sy_seq ?_
  refine sy_tx' [0] rfl ?_
  refine sy_sq ?_
  refine sp rfl (PE.assign rfl) rfl ?_
  refine sy_sn ?_
  refine sy_nx ?_
  refine sy_seq ?_
  refine sy_seq ?_
  refine sy_tx' [0, 1, 2, 3, 4] rfl ?_
  refine sy_sq ?_
  refine sp rfl (PE.move rfl) rfl ?_
  refine sy_sq ?_
  refine sp rfl (PE.lenSl isl80 rfl) rfl ?_
  refine sy_sq ?_
  refine sp rfl (PE.move rfl) rfl ?_
  refine sy_sq ?_
  refine sp rfl (PE.lenSl isl80 rfl) rfl ?_
  refine sy_sq ?_
  refine sp rfl (PE.neq rfl rfl) rfl ?_
  refine sy_sn ?_
  refine sy_nx ?_
  refine sy_cond rfl (fun hc0 => ?_) (fun hc0 => ?_)
  ·
   have hne : xs ≠ ys := fun e => by subst e; simp at hc0
   refine sy_seq ?_
   refine sy_tx' [0] rfl ?_
   refine sy_sq ?_
   refine sp rfl (PE.assign rfl) rfl ?_
   refine sy_sn ?_
   refine sy_nx ?_
   refine sy_ret ?_
   refine sy_tr ?_
   exact sy_return (vs := [_]) rfl (.cons (RV.tmp rfl) .nil) rfl ⟨by first | (simp only [retV]; rw [decide_eq_true heq]; done) | (simp only [retV]; rw [decide_eq_false hne]), rfl, rfl⟩ (fun _ h => h)
  ·
   have hle : xs.length = ys.length := by simp only [decide_eq_true_eq, decide_eq_false_iff_not, Bool.and_eq_true, Bool.or_eq_true, Bool.not_eq_true', Int.not_le, Int.not_lt] at hc0; omega
   refine sy_skip ?_
   refine sy_nx ?_
   refine sy_seq ?_
   refine sy_seq ?_
   refine sy_tx' [0, 1, 2] rfl ?_
   refine sy_sq ?_
   refine sp rfl (PE.move rfl) rfl ?_
   refine sy_sq ?_
   refine sp rfl (PE.lenSl isl80 rfl) rfl ?_
   refine sy_sq ?_
   refine sp rfl (PE.move rfl) rfl ?_
   refine sy_sn ?_
   refine sy_nx ?_
   refine sy_block ?_
   refine sy_loop (ι := {k : Nat // k ≤ xs.length ∧ xs.take k = ys.take k}) (fun k => ⟨[(0, .slice a xs.length c), (1, .slice a2 ys.length c2), (12, .int .i64 xs.length), (13, .int .i64 k.1)], H, R⟩) (fun k => xs.length - k.1) ⟨0, by simp⟩ ?_ (fun k => ?_)
   ·
    exact sy_at (by repeat' first | exact Sub.nil | apply Sub.cons | rfl | (simp [lk]; omega)) (fun _ h => h)
   ·
    obtain ⟨k, hk, hn⟩ := k
    dsimp only
    refine sy_seq ?_
    refine sy_tx' [0] rfl ?_
    refine sy_sq ?_
    refine sp rfl (PE.lss rfl rfl) rfl ?_
    refine sy_sn ?_
    refine sy_nx ?_
    refine sy_seq ?_
    refine sy_cond rfl (fun hc1 => ?_) (fun hc1 => ?_)
    ·
     try simp only [decide_eq_true_eq, decide_eq_false_iff_not, Bool.and_eq_true, Bool.or_eq_true, Bool.not_eq_true', Int.not_le, Int.not_lt] at hc1
     obtain ⟨x, hx⟩ : ∃ x, xs[k]? = some x := ⟨_, List.getElem?_eq_getElem (by omega)⟩
     obtain ⟨z, hz⟩ : ∃ z, ys[k]? = some z := ⟨_, List.getElem?_eq_getElem (by omega)⟩
     refine sy_addr (a := a) (sz := 1) (rows := brows xs) (by intro h0; simp [brows] at h0; simp [h0] at hx) (fun b off he => ?_)
     subst he
     refine sy_addr (a := a2) (sz := 1) (rows := brows ys) (by intro h0; simp [brows] at h0; simp [h0] at hz) (fun b2 off2 he => ?_)
     subst he
     refine sy_skip ?_
     refine sy_nx ?_
     refine sy_seq ?_
     refine sy_block ?_
     refine sy_seq ?_
     refine sy_tx' [0, 1] rfl ?_
     refine sy_sq ?_
     refine sp rfl (PE.move rfl) rfl ?_
     refine sy_sq ?_
     refine sp rfl (PE.assign rfl) rfl ?_
     refine sy_sn ?_
     refine sy_nx ?_
     refine sy_seq ?_
     refine sy_draw [0, 0, 3, 7, 0, 0, 48, 112, 255] (.tk 0 (.tk 1 (.tk 2 (.ld 3 (.tk 4 (.tk 5 (.tk 6 (.ld 7 (.tk 8 .done))))))))) mixed (by kernel_rfl) ?_
     refine tk rfl (PE.move rfl) rfl ?_
     refine tk rfl (PE.move rfl) rfl ?_
     refine tk rfl (PE.indexAddr el80 rfl rfl (by omega) (by omega)) rfl ?_
     refine ld rfl rfl (lf0 (x := .bool x) sc4 (br_get hx) rfl) rfl ?_
     refine tk rfl (PE.move rfl) rfl ?_
     refine tk rfl (PE.move rfl) rfl ?_
     refine tk rfl (PE.indexAddr el80 rfl rfl (by omega) (by omega)) rfl ?_
     refine ld rfl rfl (lf0 (x := .bool z) sc4 (br_get hz) rfl) rfl ?_
     refine tk rfl (PE.neqBool ub4 rfl rfl) rfl ?_
     refine sy_dn ?_
     refine sy_nx ?_
     refine sy_cond rfl (fun hc2 => ?_) (fun hc2 => ?_)
     ·
      have hne : xs ≠ ys := fun e => by subst e; rw [hx] at hz; cases hz; simp at hc2
      refine sy_seq ?_
      refine sy_tx' [0] rfl ?_
      refine sy_sq ?_
      refine sp rfl (PE.assign rfl) rfl ?_
      refine sy_sn ?_
      refine sy_nx ?_
      refine sy_ret ?_
      refine sy_br ?_
      refine sy_tr ?_
      refine sy_tr ?_
      refine sy_br ?_
      refine sy_tr ?_
      exact sy_return (vs := [_]) rfl (.cons (RV.tmp rfl) .nil) rfl ⟨by first | (simp only [retV]; rw [decide_eq_true heq]; done) | (simp only [retV]; rw [decide_eq_false hne]), rfl, rfl⟩ (fun _ h => h)
     ·
      have hxz : x = z := by simpa using hc2
      refine sy_skip ?_
      refine sy_bn ?_
      refine sy_nx ?_
      refine sy_tx' [0, 1] rfl ?_
      refine sy_sq ?_
      refine sp rfl (PE.add rfl rfl (by omega)) rfl ?_
      refine sy_sq ?_
      refine sp rfl (PE.move rfl) rfl ?_
      refine sy_sn ?_
      refine sy_nx ?_
      exact sy_next ⟨k + 1, by omega, by rw [List.take_add_one, List.take_add_one, hn, hx, hz, hxz]⟩ (by dsimp only; omega) (by repeat' first | exact Sub.nil | apply Sub.cons | rfl | (simp [lk]; omega)) (fun _ h => h)
    ·
     try simp only [decide_eq_true_eq, decide_eq_false_iff_not, Bool.and_eq_true, Bool.or_eq_true, Bool.not_eq_true', Int.not_le, Int.not_lt] at hc1
     obtain rfl : k = xs.length := by omega
     have heq : xs = ys := by
       rw [List.take_length] at hn
       exact hn.trans (by rw [hle]; exact List.take_length)
     refine sy_exit ?_
     refine sy_tx ?_
     refine sy_tx ?_
     refine sy_bx ?_
     refine sy_nx ?_
     refine sy_seq ?_
     refine sy_tx' [0] rfl ?_
     refine sy_sq ?_
     refine sp rfl (PE.assign rfl) rfl ?_
     refine sy_sn ?_
     refine sy_nx ?_
     refine sy_ret ?_
     exact sy_return (vs := [_]) rfl (.cons (RV.tmp rfl) .nil) rfl ⟨by first | (simp only [retV]; rw [decide_eq_true heq]; done) | (simp only [retV]; rw [decide_eq_false hne]), rfl, rfl⟩ (fun _ h => h)

theorem c_Eq_bool (xs ys : List Bool) (a a2 : Option Addr) (c c2 : Nat) (hl : xs.length ≤ 9223372036854775807) (hl2 : ys.length ≤ 9223372036854775807) (H : Heap) (R : Facts) [hR : MemRows a 1 (brows xs) R] [hR2 : MemRows a2 1 (brows ys) R] :
    FnV Try.prog 53 [.slice a xs.length c, .slice a2 ys.length c2] H R (.bool (decide (xs = ys))) := by
  refine fn_of Try.func53 rfl Try.ntmps53 rfl ?_
  refine sy_seq ?_
  refine sy_tx' [0] rfl ?_
  refine sy_sq ?_
  refine sp rfl (PE.assign rfl) rfl ?_
  refine sy_sn ?_
  refine sy_nx ?_
  refine sy_seq ?_
  refine sy_tx' [0, 1, 2, 3] rfl ?_
  refine sy_sq ?_
  refine sp rfl (PE.move rfl) rfl ?_
  refine sy_sq ?_
  refine sp rfl (PE.move rfl) rfl ?_
  refine sy_sq ?_
  refine clV rfl cal111 rfl rfl (c_eq_bool xs ys a a2 c c2 hl hl2 _ _) ?_
  refine sy_sq ?_
  refine sp rfl (PE.assign rfl) rfl ?_
  refine sy_sn ?_
  refine sy_nx ?_
  refine sy_ret ?_
  exact sy_return (vs := [_]) rfl (.cons (RV.tmp rfl) .nil) rfl ⟨rfl, rfl, rfl⟩ (fun _ h => by repeat first | exact h | replace h := St.tail h | replace h := St.ftail h | replace h := St.drop h)

theorem c_dup_bool (xs : List Bool) (a : Option Addr) (c : Nat) (hl : xs.length ≤ 1000000) (H : Heap) (R : Facts) [hR : MemRows a 1 (brows xs) R] :
    Fn Try.prog 50 [.slice a xs.length c] H R (fun v H' R' => ∃ o : OSl 4 1 (brows xs), v = o.fs ∧ o.here ∧ H' = o.G ++ H ∧ R' = R) := by
  refine fn_of Try.func50 rfl Try.ntmps50 rfl ?_
  refine sy_seq ?_
  refine sy_tx' [0] rfl ?_
  refine sy_sq ?_
  refine sp rfl (PE.assign rfl) rfl ?_
  refine sy_sn ?_
  refine sy_nx ?_
  refine sy_seq ?_
  refine sy_tx' [0, 1, 2, 3, 4, 5] rfl ?_
  refine sy_sq ?_
  refine sp rfl (PE.move rfl) rfl ?_
  refine sy_sq ?_
  refine sp rfl (PE.lenSl isl80 rfl) rfl ?_
  refine sy_sq ?_
  refine mkO rfl ap80 zl4 rfl rfl ⟨by omega, by omega⟩ rfl (fun o ho => ?_)
  refine sy_sq ?_
  refine sp rfl (PE.move rfl) rfl ?_
  refine sy_sq ?_
  refine apOh (news := brows xs) o rfl ap80 rfl rfl (rowsF) (by simp [brows]) (by simp [onecells, brows, brow, Value.oneCell']) ⟨by simp [brows]; omega, by simp [brows]; omega⟩ rfl ho (fun o2 ho2 => ?_)
  refine sy_sq ?_
  refine sp rfl (PE.assign rfl) rfl ?_
  refine sy_sn ?_
  refine sy_nx ?_
  refine sy_ret ?_
  exact sy_return (vs := [_]) rfl (.cons (RV.tmp rfl) .nil) rfl ⟨o2.cast (by simp), rfl, ho2, rfl, rfl⟩ (fun _ h => h)

theorem play_len (t : Twn) (rs : List Int) (bs : List Bool) : (playP t rs bs).1.length ≤ rs.length := by
  have key : ∀ (l : List (Int × Bool)) (s : Sta), (playS t s l).1.length ≤ l.length := by
    intro l
    induction l with
    | nil => intro s; simp [playS]
    | cons x l ih =>
      intro s
      obtain ⟨r, b⟩ := x
      unfold playS
      cases decide ((nxtR t s r b).2 ≠ 0) with
      | true => simp
      | false =>
        simp only [cond_false, glue]
        have := ih (nxtR t s r b).1
        cases decide ((playS t (nxtR t s r b).1 l).2 ≠ 0) with
        | true => simp
        | false => simp; omega
  unfold playP
  cases decide (t.check ≠ 0) with
  | true => simp
  | false => cases decide (rs.length ≠ bs.length) with
    | true => simp
    | false => cases decide (12 < rs.length) with
      | true => simp
      | false =>
        have := key (rs.zip bs) t.now
        rw [List.length_zip] at this
        simp only [cond_false]
        omega

theorem c_BreadPlays (t : Twn) (a : Option Addr) (c : Nat) (hl : t.rats.length ≤ 9223372036854775807) (rs : List Int) (a1 : Option Addr) (c1 : Nat) (hl1 : rs.length ≤ 9223372036854775807) (bs : List Bool) (a2 : Option Addr) (c2 : Nat) (hl2 : bs.length ≤ 9223372036854775807) (H : Heap) (R : Facts) [hR : MemRows a 2 (rrows t.rats) R] [hR1 : MemRows a1 1 (irows rs) R] [hR2 : MemRows a2 1 (brows bs) R] :
    Fn Try.prog 9 [t.v (t.sl a c), .slice a1 rs.length c1, .slice a2 bs.length c2] H R (fun v H' R' => v = .bool true ∧ H' = H ∧ R' = R) := by
  refine fn_of Try.func9 rfl Try.ntmps9 rfl ?_
  refine sy_seq ?_
  refine sy_tx' [0, 1] rfl ?_
  refine sy_sq ?_
  refine bx rfl rfl rfl (fun b3 => ?_)
  refine sy_sq ?_
  refine sp rfl (PE.assign rfl) rfl ?_
  refine sy_sn ?_
  refine sy_nx ?_
  refine sy_seq ?_
  refine sy_seq ?_
  refine sy_tx' [0, 1, 2, 3, 4, 5, 6, 7, 8, 9, 10, 11] rfl ?_
  refine sy_sq ?_
  refine spL rfl rfl (lhA [_, _, _, _, _, _, _, _, _, _, _] ag26 rfl rfl rfl) rfl ?_
  refine sy_sq ?_
  refine clV rfl cal29 rfl rfl (c_great t a c (by omega) _ _) ?_
  refine sy_sq ?_
  refine sp rfl (PE.move rfl) rfl ?_
  refine sy_sq ?_
  refine sy_case (t := 19) rfl (fun g19 => ?_) (fun g19 => ?_)
  ·
   refine spN rfl rfl rfl rfl rfl rfl rfl rfl ?_
   refine sy_sq ?_
   refine spN rfl rfl rfl rfl rfl rfl rfl rfl ?_
   refine sy_sq ?_
   refine spN rfl rfl rfl rfl rfl rfl rfl rfl ?_
   refine sy_sq ?_
   refine sp rfl (PE.pick rfl rfl rfl) rfl ?_
   refine sy_sq ?_
   refine sp rfl (PE.move rfl) rfl ?_
   refine sy_sq ?_
   refine spN rfl rfl rfl rfl rfl rfl rfl rfl ?_
   refine sy_sq ?_
   refine spN rfl rfl rfl rfl rfl rfl rfl rfl ?_
   refine sy_sq ?_
   refine spN rfl rfl rfl rfl rfl rfl rfl rfl ?_
   refine sy_sq ?_
   refine sp rfl (PE.pick rfl rfl rfl) rfl ?_
   refine sy_sn ?_
   refine sy_nx ?_
   refine sy_condT rfl ?_
   refine sy_seq ?_
   refine sy_tx' [0, 1] rfl ?_
   refine sy_sq ?_
   refine clV rfl cal16 rfl rfl (c_awake _ _) ?_
   refine sy_sq ?_
   refine sp rfl (PE.assign rfl) rfl ?_
   refine sy_sn ?_
   refine sy_nx ?_
   refine sy_ret ?_
   refine sy_tr ?_
   exact sy_return (vs := [_]) rfl (.cons (RV.tmp rfl) .nil) rfl ⟨rfl, rfl, rfl⟩ (fun _ h => by repeat first | exact h | replace h := St.tail h | replace h := St.ftail h | replace h := St.drop h)
  ·
   try simp only [decide_eq_true_eq, decide_eq_false_iff_not, Bool.and_eq_true, Bool.or_eq_true, Bool.not_eq_true', Int.not_le, Int.not_lt] at g19
   
   refine spG rfl rfl rfl rfl (PE.move rfl) rfl ?_
   refine sy_sq ?_
   refine spG rfl rfl rfl rfl (PE.lenSl isl42 rfl) rfl ?_
   refine sy_sq ?_
   refine spG rfl rfl rfl rfl (PE.gtr rfl rfl) rfl ?_
   refine sy_sq ?_
   refine sp rfl (PE.pick rfl rfl rfl) rfl ?_
   refine sy_sq ?_
   refine sp rfl (PE.move rfl) rfl ?_
   refine sy_sq ?_
   refine sy_case (t := 24) rfl (fun g24 => ?_) (fun g24 => ?_)
   ·
    refine spN rfl rfl rfl rfl rfl rfl rfl rfl ?_
    refine sy_sq ?_
    refine spN rfl rfl rfl rfl rfl rfl rfl rfl ?_
    refine sy_sq ?_
    refine spN rfl rfl rfl rfl rfl rfl rfl rfl ?_
    refine sy_sq ?_
    refine sp rfl (PE.pick rfl rfl rfl) rfl ?_
    refine sy_sn ?_
    refine sy_nx ?_
    refine sy_condT rfl ?_
    refine sy_seq ?_
    refine sy_tx' [0, 1] rfl ?_
    refine sy_sq ?_
    refine clV rfl cal16 rfl rfl (c_awake _ _) ?_
    refine sy_sq ?_
    refine sp rfl (PE.assign rfl) rfl ?_
    refine sy_sn ?_
    refine sy_nx ?_
    refine sy_ret ?_
    refine sy_tr ?_
    exact sy_return (vs := [_]) rfl (.cons (RV.tmp rfl) .nil) rfl ⟨rfl, rfl, rfl⟩ (fun _ h => by repeat first | exact h | replace h := St.tail h | replace h := St.ftail h | replace h := St.drop h)
   ·
    try simp only [decide_eq_true_eq, decide_eq_false_iff_not, Bool.and_eq_true, Bool.or_eq_true, Bool.not_eq_true', Int.not_le, Int.not_lt] at g24
    
    refine spG rfl rfl rfl rfl (PE.move rfl) rfl ?_
    refine sy_sq ?_
    refine spG rfl rfl rfl rfl (PE.lenSl isl80 rfl) rfl ?_
    refine sy_sq ?_
    refine spG rfl rfl rfl rfl (PE.gtr rfl rfl) rfl ?_
    refine sy_sq ?_
    refine sp rfl (PE.pick rfl rfl rfl) rfl ?_
    refine sy_sn ?_
    refine sy_nx ?_
    refine sy_cond rfl (fun hc0 => ?_) (fun hc0 => ?_)
    ·
     refine sy_seq ?_
     refine sy_tx' [0, 1] rfl ?_
     refine sy_sq ?_
     refine clV rfl cal16 rfl rfl (c_awake _ _) ?_
     refine sy_sq ?_
     refine sp rfl (PE.assign rfl) rfl ?_
     refine sy_sn ?_
     refine sy_nx ?_
     refine sy_ret ?_
     refine sy_tr ?_
     exact sy_return (vs := [_]) rfl (.cons (RV.tmp rfl) .nil) rfl ⟨rfl, rfl, rfl⟩ (fun _ h => by repeat first | exact h | replace h := St.tail h | replace h := St.ftail h | replace h := St.drop h)
    ·
     try simp only [decide_eq_true_eq, decide_eq_false_iff_not, Bool.and_eq_true, Bool.or_eq_true, Bool.not_eq_true', Int.not_le, Int.not_lt] at hc0
     have hpn := play_len t rs bs
     refine sy_skip ?_
     refine sy_nx ?_
     refine sy_seq ?_
     refine sy_cut (ι := (Nat × Nat × Option Addr × Nat) × (Nat × Nat) × (Nat × Nat) × Nat × Nat) (fun z => ⟨[(1, .slice a1 rs.length c1), (2, .slice a2 bs.length c2), (3, .pointer (some ⟨b3, 0, none⟩)), (7, .pointer (some ⟨z.2.2.2.1, 0, none⟩)), (8, .slice (some ⟨z.2.1.1, 0, none⟩) rs.length z.2.1.2), (9, .slice (some ⟨z.2.2.1.1, 0, none⟩) bs.length z.2.2.1.2), (10, .pointer (some ⟨z.2.2.2.2, 0, none⟩))],
       (z.2.2.2.1, cel 26 (twl t (t.sl (some ⟨z.1.1, 0, none⟩) z.1.2.1))) :: (z.2.2.2.2, cel 37 (twl t (t.sl z.1.2.2.1 z.1.2.2.2))) :: (b3, cel 26 (twl t (t.sl a c))) :: H, RowsA z.1.2.2.1 2 (rrows t.rats) :: RowsA (some ⟨z.1.1, 0, none⟩) 2 (rrows t.rats) :: RowsA (some ⟨z.2.1.1, 0, none⟩) 1 (irows rs) :: RowsA (some ⟨z.2.2.1.1, 0, none⟩) 1 (brows bs) :: R⟩) ?_ ?_
     ·
      refine sy_draw [0, 1, 0, 7, 0, 31, 0, 127, 0, 0, 1023, 2047, 4095, 8191] (.ld 0 (.tk 2 (.tk 4 (.ld 6 (.any (.alt 1 (.any (.alt 3 (.any (.alt 5 (.any (.alt 7 (.any (.alt 8 (.big 9 (.big 10 (.tk 11 (.tk 12 (.big 13 .done))))) (.alt 9 (.big 8 (.big 10 (.tk 11 (.tk 12 (.big 13 .done))))) .stop))) (.alt 8 (.any (.alt 7 (.big 9 (.big 10 (.tk 11 (.tk 12 (.big 13 .done))))) (.alt 9 (.big 7 (.big 10 (.tk 11 (.tk 12 (.big 13 .done))))) .stop))) (.alt 9 (.any (.alt 7 (.big 8 (.big 10 (.tk 11 (.tk 12 (.big 13 .done))))) (.alt 8 (.big 7 (.big 10 (.tk 11 (.tk 12 (.big 13 .done))))) .stop))) .stop)))) (.alt 8 (.any (.alt 5 (.any (.alt 7 (.big 9 (.big 10 (.tk 11 (.tk 12 (.big 13 .done))))) (.alt 9 (.big 7 (.big 10 (.tk 11 (.tk 12 (.big 13 .done))))) .stop))) (.alt 9 (.big 5 (.big 7 (.big 10 (.tk 11 (.tk 12 (.big 13 .done)))))) .stop))) (.alt 9 (.any (.alt 5 (.any (.alt 7 (.big 8 (.big 10 (.tk 11 (.tk 12 (.big 13 .done))))) (.alt 8 (.big 7 (.big 10 (.tk 11 (.tk 12 (.big 13 .done))))) .stop))) (.alt 8 (.big 5 (.big 7 (.big 10 (.tk 11 (.tk 12 (.big 13 .done)))))) .stop))) .stop)))) (.alt 8 (.any (.alt 3 (.any (.alt 5 (.any (.alt 7 (.big 9 (.big 10 (.tk 11 (.tk 12 (.big 13 .done))))) (.alt 9 (.big 7 (.big 10 (.tk 11 (.tk 12 (.big 13 .done))))) .stop))) (.alt 9 (.big 5 (.big 7 (.big 10 (.tk 11 (.tk 12 (.big 13 .done)))))) .stop))) (.alt 9 (.big 3 (.big 5 (.big 7 (.big 10 (.tk 11 (.tk 12 (.big 13 .done))))))) .stop))) (.alt 9 (.any (.alt 3 (.any (.alt 5 (.any (.alt 7 (.big 8 (.big 10 (.tk 11 (.tk 12 (.big 13 .done))))) (.alt 8 (.big 7 (.big 10 (.tk 11 (.tk 12 (.big 13 .done))))) .stop))) (.alt 8 (.big 5 (.big 7 (.big 10 (.tk 11 (.tk 12 (.big 13 .done)))))) .stop))) (.alt 8 (.big 3 (.big 5 (.big 7 (.big 10 (.tk 11 (.tk 12 (.big 13 .done))))))) .stop))) .stop)))) (.alt 8 (.any (.alt 1 (.any (.alt 3 (.any (.alt 5 (.any (.alt 7 (.big 9 (.big 10 (.tk 11 (.tk 12 (.big 13 .done))))) (.alt 9 (.big 7 (.big 10 (.tk 11 (.tk 12 (.big 13 .done))))) .stop))) (.alt 9 (.big 5 (.big 7 (.big 10 (.tk 11 (.tk 12 (.big 13 .done)))))) .stop))) (.alt 9 (.big 3 (.big 5 (.big 7 (.big 10 (.tk 11 (.tk 12 (.big 13 .done))))))) .stop))) (.alt 9 (.big 1 (.big 3 (.big 5 (.big 7 (.big 10 (.tk 11 (.tk 12 (.big 13 .done)))))))) .stop))) (.alt 9 (.any (.alt 1 (.any (.alt 3 (.any (.alt 5 (.any (.alt 7 (.big 8 (.big 10 (.tk 11 (.tk 12 (.big 13 .done))))) (.alt 8 (.big 7 (.big 10 (.tk 11 (.tk 12 (.big 13 .done))))) .stop))) (.alt 8 (.big 5 (.big 7 (.big 10 (.tk 11 (.tk 12 (.big 13 .done)))))) .stop))) (.alt 8 (.big 3 (.big 5 (.big 7 (.big 10 (.tk 11 (.tk 12 (.big 13 .done))))))) .stop))) (.alt 8 (.big 1 (.big 3 (.big 5 (.big 7 (.big 10 (.tk 11 (.tk 12 (.big 13 .done)))))))) .stop))) .stop)))))))) mixed (by kernel_rfl) ?_
      refine ld rfl rfl (lhA [_, _, _, _, _, _, _, _, _, _, _] ag26 rfl rfl rfl) rfl ?_
      refine tk rfl (PE.move rfl) rfl ?_
      refine tk rfl (PE.move rfl) rfl ?_
      refine ld rfl rfl (lhA [_, _, _, _, _, _, _, _, _, _, _] ag26 rfl rfl rfl) rfl ?_
      refine sy_any ?_
      refine sy_alt ?_ ?_
      ·
       refine cl rfl cal17 rfl rfl (c_Own t a c (by omega) _ _) ?_
       rintro _ _ _ ⟨bo, co, rfl, rfl, rfl⟩
       refine bg (fun w hs => ⟨(lhA [_, _, _, _, _, _, _, _, _, _, _] ag26 rfl rfl rfl) w hs, trivial, trivial⟩) ?_
       refine sy_any ?_
       refine sy_alt ?_ ?_
       ·
        refine cl rfl cal32 rfl rfl (c_dup_int rs a1 c1 (by omega) _ _) ?_
        rintro _ _ _ ⟨o, rfl, ⟨bd, cd, hbd⟩, rfl, rfl⟩
        obtain ⟨ad, c3, ho, hf⟩ := o.freeze
        rw [hbd] at ho
        cases ho
        rw [hbd]
        refine Sy.heap (fun w h => hf h) ?_
        rw [show (irows rs).length = rs.length from List.length_map _]
        refine bg (fun w hs => ⟨(lhA [_, _, _, _, _, _, _, _, _, _, _] ag26 rfl rfl rfl) w hs, trivial⟩) ?_
        refine sy_any ?_
        refine sy_alt ?_ ?_
        ·
         refine cl rfl cal50 rfl rfl (c_dup_bool bs a2 c2 (by omega) _ _) ?_
         rintro _ _ _ ⟨o, rfl, ⟨be, ce, hbd⟩, rfl, rfl⟩
         obtain ⟨ad, c3, ho, hf⟩ := o.freeze
         rw [hbd] at ho
         cases ho
         rw [hbd]
         refine Sy.heap (fun w h => hf h) ?_
         rw [show (brows bs).length = bs.length from List.length_map _]
         refine bg (fun w hs => ⟨(lhA [_, _, _, _, _, _, _, _, _, _, _] ag26 rfl rfl rfl) w hs, trivial⟩) ?_
         refine sy_any ?_
         refine sy_alt ?_ ?_
         ·
          refine cl rfl cal19 rfl rfl (c_theirs t a c (by omega) _ _) ?_
          rintro _ _ _ ⟨ax, cx, rfl, rfl, rfl⟩
          refine bg (fun w hs => ⟨trivial, trivial⟩) ?_
          refine sy_any ?_
          refine sy_alt ?_ ?_
          ·
           refine alc rfl zl26 rfl (fun b7 => ?_)
           refine bg (fun w hs => trivial) ?_
           refine sy_bg ?_
           refine alc rfl zl37 rfl (fun b10 => ?_)
           refine bg (fun w hs => trivial) ?_
           refine sy_bg ?_
           refine sto rfl rfl rfl cn26 rfl rfl rfl rfl ?_
           refine bg (fun w hs => trivial) ?_
           refine tk rfl (PE.assign rfl) rfl ?_
           refine tk rfl (PE.assign rfl) rfl ?_
           refine sy_bg ?_
           refine sto rfl rfl rfl cn37 rfl rfl rfl rfl ?_
           refine bg (fun w hs => trivial) ?_
           refine sy_dn ?_
           exact sy_cutEnd ((bo, co, ax, cx), (bd, cd), (be, ce), b7, b10) (by repeat' first | exact Sub.nil | apply Sub.cons | rfl | (simp [lk]; omega)) (fun _ h => St.sub (((h.pull b3).pull b10).pull b7))
          refine sy_alt ?_ ?_
          ·
           refine alc rfl zl37 rfl (fun b10 => ?_)
           refine bg (fun w hs => trivial) ?_
           refine sy_bg ?_
           refine alc rfl zl26 rfl (fun b7 => ?_)
           refine bg (fun w hs => trivial) ?_
           refine sy_bg ?_
           refine sto rfl rfl rfl cn26 rfl rfl rfl rfl ?_
           refine bg (fun w hs => trivial) ?_
           refine tk rfl (PE.assign rfl) rfl ?_
           refine tk rfl (PE.assign rfl) rfl ?_
           refine sy_bg ?_
           refine sto rfl rfl rfl cn37 rfl rfl rfl rfl ?_
           refine bg (fun w hs => trivial) ?_
           refine sy_dn ?_
           exact sy_cutEnd ((bo, co, ax, cx), (bd, cd), (be, ce), b7, b10) (by repeat' first | exact Sub.nil | apply Sub.cons | rfl | (simp [lk]; omega)) (fun _ h => St.sub (((h.pull b3).pull b10).pull b7))
          exact sy_stop
         refine sy_alt ?_ ?_
         ·
          refine alc rfl zl26 rfl (fun b7 => ?_)
          refine bg (fun w hs => ⟨(lhA [_, _, _, _, _, _, _, _, _, _, _] ag26 rfl rfl rfl) w hs, trivial⟩) ?_
          refine sy_any ?_
          refine sy_alt ?_ ?_
          ·
           refine cl rfl cal19 rfl rfl (c_theirs t a c (by omega) _ _) ?_
           rintro _ _ _ ⟨ax, cx, rfl, rfl, rfl⟩
           refine bg (fun w hs => ⟨trivial, trivial⟩) ?_
           refine sy_bg ?_
           refine alc rfl zl37 rfl (fun b10 => ?_)
           refine bg (fun w hs => trivial) ?_
           refine sy_bg ?_
           refine sto rfl rfl rfl cn26 rfl rfl rfl rfl ?_
           refine bg (fun w hs => trivial) ?_
           refine tk rfl (PE.assign rfl) rfl ?_
           refine tk rfl (PE.assign rfl) rfl ?_
           refine sy_bg ?_
           refine sto rfl rfl rfl cn37 rfl rfl rfl rfl ?_
           refine bg (fun w hs => trivial) ?_
           refine sy_dn ?_
           exact sy_cutEnd ((bo, co, ax, cx), (bd, cd), (be, ce), b7, b10) (by repeat' first | exact Sub.nil | apply Sub.cons | rfl | (simp [lk]; omega)) (fun _ h => St.sub (((h.pull b3).pull b10).pull b7))
          refine sy_alt ?_ ?_
          ·
           refine alc rfl zl37 rfl (fun b10 => ?_)
           refine bg (fun w hs => ⟨(lhA [_, _, _, _, _, _, _, _, _, _, _] ag26 rfl rfl rfl) w hs, trivial⟩) ?_
           refine sy_bg ?_
           refine cl rfl cal19 rfl rfl (c_theirs t a c (by omega) _ _) ?_
           rintro _ _ _ ⟨ax, cx, rfl, rfl, rfl⟩
           refine bg (fun w hs => ⟨trivial, trivial⟩) ?_
           refine sy_bg ?_
           refine sto rfl rfl rfl cn26 rfl rfl rfl rfl ?_
           refine bg (fun w hs => trivial) ?_
           refine tk rfl (PE.assign rfl) rfl ?_
           refine tk rfl (PE.assign rfl) rfl ?_
           refine sy_bg ?_
           refine sto rfl rfl rfl cn37 rfl rfl rfl rfl ?_
           refine bg (fun w hs => trivial) ?_
           refine sy_dn ?_
           exact sy_cutEnd ((bo, co, ax, cx), (bd, cd), (be, ce), b7, b10) (by repeat' first | exact Sub.nil | apply Sub.cons | rfl | (simp [lk]; omega)) (fun _ h => St.sub (((h.pull b3).pull b10).pull b7))
          exact sy_stop
         refine sy_alt ?_ ?_
         ·
          refine alc rfl zl37 rfl (fun b10 => ?_)
          refine bg (fun w hs => ⟨(lhA [_, _, _, _, _, _, _, _, _, _, _] ag26 rfl rfl rfl) w hs, trivial⟩) ?_
          refine sy_any ?_
          refine sy_alt ?_ ?_
          ·
           refine cl rfl cal19 rfl rfl (c_theirs t a c (by omega) _ _) ?_
           rintro _ _ _ ⟨ax, cx, rfl, rfl, rfl⟩
           refine bg (fun w hs => ⟨trivial, trivial⟩) ?_
           refine sy_bg ?_
           refine alc rfl zl26 rfl (fun b7 => ?_)
           refine bg (fun w hs => trivial) ?_
           refine sy_bg ?_
           refine sto rfl rfl rfl cn26 rfl rfl rfl rfl ?_
           refine bg (fun w hs => trivial) ?_
           refine tk rfl (PE.assign rfl) rfl ?_
           refine tk rfl (PE.assign rfl) rfl ?_
           refine sy_bg ?_
           refine sto rfl rfl rfl cn37 rfl rfl rfl rfl ?_
           refine bg (fun w hs => trivial) ?_
           refine sy_dn ?_
           exact sy_cutEnd ((bo, co, ax, cx), (bd, cd), (be, ce), b7, b10) (by repeat' first | exact Sub.nil | apply Sub.cons | rfl | (simp [lk]; omega)) (fun _ h => St.sub (((h.pull b3).pull b10).pull b7))
          refine sy_alt ?_ ?_
          ·
           refine alc rfl zl26 rfl (fun b7 => ?_)
           refine bg (fun w hs => ⟨(lhA [_, _, _, _, _, _, _, _, _, _, _] ag26 rfl rfl rfl) w hs, trivial⟩) ?_
           refine sy_bg ?_
           refine cl rfl cal19 rfl rfl (c_theirs t a c (by omega) _ _) ?_
           rintro _ _ _ ⟨ax, cx, rfl, rfl, rfl⟩
           refine bg (fun w hs => ⟨trivial, trivial⟩) ?_
           refine sy_bg ?_
           refine sto rfl rfl rfl cn26 rfl rfl rfl rfl ?_
           refine bg (fun w hs => trivial) ?_
           refine tk rfl (PE.assign rfl) rfl ?_
           refine tk rfl (PE.assign rfl) rfl ?_
           refine sy_bg ?_
           refine sto rfl rfl rfl cn37 rfl rfl rfl rfl ?_
           refine bg (fun w hs => trivial) ?_
           refine sy_dn ?_
           exact sy_cutEnd ((bo, co, ax, cx), (bd, cd), (be, ce), b7, b10) (by repeat' first | exact Sub.nil | apply Sub.cons | rfl | (simp [lk]; omega)) (fun _ h => St.sub (((h.pull b3).pull b10).pull b7))
          exact sy_stop
         exact sy_stop
        refine sy_alt ?_ ?_
        ·
         refine alc rfl zl26 rfl (fun b7 => ?_)
         refine bg (fun w hs => ⟨(lhA [_, _, _, _, _, _, _, _, _, _, _] ag26 rfl rfl rfl) w hs, trivial⟩) ?_
         refine sy_any ?_
         refine sy_alt ?_ ?_
         ·
          refine cl rfl cal50 rfl rfl (c_dup_bool bs a2 c2 (by omega) _ _) ?_
          rintro _ _ _ ⟨o, rfl, ⟨be, ce, hbd⟩, rfl, rfl⟩
          obtain ⟨ad, c3, ho, hf⟩ := o.freeze
          rw [hbd] at ho
          cases ho
          rw [hbd]
          refine Sy.heap (fun w h => hf h) ?_
          rw [show (brows bs).length = bs.length from List.length_map _]
          refine bg (fun w hs => ⟨(lhA [_, _, _, _, _, _, _, _, _, _, _] ag26 rfl rfl rfl) w hs, trivial⟩) ?_
          refine sy_any ?_
          refine sy_alt ?_ ?_
          ·
           refine cl rfl cal19 rfl rfl (c_theirs t a c (by omega) _ _) ?_
           rintro _ _ _ ⟨ax, cx, rfl, rfl, rfl⟩
           refine bg (fun w hs => ⟨trivial, trivial⟩) ?_
           refine sy_bg ?_
           refine alc rfl zl37 rfl (fun b10 => ?_)
           refine bg (fun w hs => trivial) ?_
           refine sy_bg ?_
           refine sto rfl rfl rfl cn26 rfl rfl rfl rfl ?_
           refine bg (fun w hs => trivial) ?_
           refine tk rfl (PE.assign rfl) rfl ?_
           refine tk rfl (PE.assign rfl) rfl ?_
           refine sy_bg ?_
           refine sto rfl rfl rfl cn37 rfl rfl rfl rfl ?_
           refine bg (fun w hs => trivial) ?_
           refine sy_dn ?_
           exact sy_cutEnd ((bo, co, ax, cx), (bd, cd), (be, ce), b7, b10) (by repeat' first | exact Sub.nil | apply Sub.cons | rfl | (simp [lk]; omega)) (fun _ h => St.sub (((h.pull b3).pull b10).pull b7))
          refine sy_alt ?_ ?_
          ·
           refine alc rfl zl37 rfl (fun b10 => ?_)
           refine bg (fun w hs => ⟨(lhA [_, _, _, _, _, _, _, _, _, _, _] ag26 rfl rfl rfl) w hs, trivial⟩) ?_
           refine sy_bg ?_
           refine cl rfl cal19 rfl rfl (c_theirs t a c (by omega) _ _) ?_
           rintro _ _ _ ⟨ax, cx, rfl, rfl, rfl⟩
           refine bg (fun w hs => ⟨trivial, trivial⟩) ?_
           refine sy_bg ?_
           refine sto rfl rfl rfl cn26 rfl rfl rfl rfl ?_
           refine bg (fun w hs => trivial) ?_
           refine tk rfl (PE.assign rfl) rfl ?_
           refine tk rfl (PE.assign rfl) rfl ?_
           refine sy_bg ?_
           refine sto rfl rfl rfl cn37 rfl rfl rfl rfl ?_
           refine bg (fun w hs => trivial) ?_
           refine sy_dn ?_
           exact sy_cutEnd ((bo, co, ax, cx), (bd, cd), (be, ce), b7, b10) (by repeat' first | exact Sub.nil | apply Sub.cons | rfl | (simp [lk]; omega)) (fun _ h => St.sub (((h.pull b3).pull b10).pull b7))
          exact sy_stop
         refine sy_alt ?_ ?_
         ·
          refine alc rfl zl37 rfl (fun b10 => ?_)
          refine bg (fun w hs => ⟨(lhA [_, _, _, _, _, _, _, _, _, _, _] ag26 rfl rfl rfl) w hs, trivial⟩) ?_
          refine sy_bg ?_
          refine cl rfl cal50 rfl rfl (c_dup_bool bs a2 c2 (by omega) _ _) ?_
          rintro _ _ _ ⟨o, rfl, ⟨be, ce, hbd⟩, rfl, rfl⟩
          obtain ⟨ad, c3, ho, hf⟩ := o.freeze
          rw [hbd] at ho
          cases ho
          rw [hbd]
          refine Sy.heap (fun w h => hf h) ?_
          rw [show (brows bs).length = bs.length from List.length_map _]
          refine bg (fun w hs => ⟨(lhA [_, _, _, _, _, _, _, _, _, _, _] ag26 rfl rfl rfl) w hs, trivial⟩) ?_
          refine sy_bg ?_
          refine cl rfl cal19 rfl rfl (c_theirs t a c (by omega) _ _) ?_
          rintro _ _ _ ⟨ax, cx, rfl, rfl, rfl⟩
          refine bg (fun w hs => ⟨trivial, trivial⟩) ?_
          refine sy_bg ?_
          refine sto rfl rfl rfl cn26 rfl rfl rfl rfl ?_
          refine bg (fun w hs => trivial) ?_
          refine tk rfl (PE.assign rfl) rfl ?_
          refine tk rfl (PE.assign rfl) rfl ?_
          refine sy_bg ?_
          refine sto rfl rfl rfl cn37 rfl rfl rfl rfl ?_
          refine bg (fun w hs => trivial) ?_
          refine sy_dn ?_
          exact sy_cutEnd ((bo, co, ax, cx), (bd, cd), (be, ce), b7, b10) (by repeat' first | exact Sub.nil | apply Sub.cons | rfl | (simp [lk]; omega)) (fun _ h => St.sub (((h.pull b3).pull b10).pull b7))
         exact sy_stop
        refine sy_alt ?_ ?_
        ·
         refine alc rfl zl37 rfl (fun b10 => ?_)
         refine bg (fun w hs => ⟨(lhA [_, _, _, _, _, _, _, _, _, _, _] ag26 rfl rfl rfl) w hs, trivial⟩) ?_
         refine sy_any ?_
         refine sy_alt ?_ ?_
         ·
          refine cl rfl cal50 rfl rfl (c_dup_bool bs a2 c2 (by omega) _ _) ?_
          rintro _ _ _ ⟨o, rfl, ⟨be, ce, hbd⟩, rfl, rfl⟩
          obtain ⟨ad, c3, ho, hf⟩ := o.freeze
          rw [hbd] at ho
          cases ho
          rw [hbd]
          refine Sy.heap (fun w h => hf h) ?_
          rw [show (brows bs).length = bs.length from List.length_map _]
          refine bg (fun w hs => ⟨(lhA [_, _, _, _, _, _, _, _, _, _, _] ag26 rfl rfl rfl) w hs, trivial⟩) ?_
          refine sy_any ?_
          refine sy_alt ?_ ?_
          ·
           refine cl rfl cal19 rfl rfl (c_theirs t a c (by omega) _ _) ?_
           rintro _ _ _ ⟨ax, cx, rfl, rfl, rfl⟩
           refine bg (fun w hs => ⟨trivial, trivial⟩) ?_
           refine sy_bg ?_
           refine alc rfl zl26 rfl (fun b7 => ?_)
           refine bg (fun w hs => trivial) ?_
           refine sy_bg ?_
           refine sto rfl rfl rfl cn26 rfl rfl rfl rfl ?_
           refine bg (fun w hs => trivial) ?_
           refine tk rfl (PE.assign rfl) rfl ?_
           refine tk rfl (PE.assign rfl) rfl ?_
           refine sy_bg ?_
           refine sto rfl rfl rfl cn37 rfl rfl rfl rfl ?_
           refine bg (fun w hs => trivial) ?_
           refine sy_dn ?_
           exact sy_cutEnd ((bo, co, ax, cx), (bd, cd), (be, ce), b7, b10) (by repeat' first | exact Sub.nil | apply Sub.cons | rfl | (simp [lk]; omega)) (fun _ h => St.sub (((h.pull b3).pull b10).pull b7))
          refine sy_alt ?_ ?_
          ·
           refine alc rfl zl26 rfl (fun b7 => ?_)
           refine bg (fun w hs => ⟨(lhA [_, _, _, _, _, _, _, _, _, _, _] ag26 rfl rfl rfl) w hs, trivial⟩) ?_
           refine sy_bg ?_
           refine cl rfl cal19 rfl rfl (c_theirs t a c (by omega) _ _) ?_
           rintro _ _ _ ⟨ax, cx, rfl, rfl, rfl⟩
           refine bg (fun w hs => ⟨trivial, trivial⟩) ?_
           refine sy_bg ?_
           refine sto rfl rfl rfl cn26 rfl rfl rfl rfl ?_
           refine bg (fun w hs => trivial) ?_
           refine tk rfl (PE.assign rfl) rfl ?_
           refine tk rfl (PE.assign rfl) rfl ?_
           refine sy_bg ?_
           refine sto rfl rfl rfl cn37 rfl rfl rfl rfl ?_
           refine bg (fun w hs => trivial) ?_
           refine sy_dn ?_
           exact sy_cutEnd ((bo, co, ax, cx), (bd, cd), (be, ce), b7, b10) (by repeat' first | exact Sub.nil | apply Sub.cons | rfl | (simp [lk]; omega)) (fun _ h => St.sub (((h.pull b3).pull b10).pull b7))
          exact sy_stop
         refine sy_alt ?_ ?_
         ·
          refine alc rfl zl26 rfl (fun b7 => ?_)
          refine bg (fun w hs => ⟨(lhA [_, _, _, _, _, _, _, _, _, _, _] ag26 rfl rfl rfl) w hs, trivial⟩) ?_
          refine sy_bg ?_
          refine cl rfl cal50 rfl rfl (c_dup_bool bs a2 c2 (by omega) _ _) ?_
          rintro _ _ _ ⟨o, rfl, ⟨be, ce, hbd⟩, rfl, rfl⟩
          obtain ⟨ad, c3, ho, hf⟩ := o.freeze
          rw [hbd] at ho
          cases ho
          rw [hbd]
          refine Sy.heap (fun w h => hf h) ?_
          rw [show (brows bs).length = bs.length from List.length_map _]
          refine bg (fun w hs => ⟨(lhA [_, _, _, _, _, _, _, _, _, _, _] ag26 rfl rfl rfl) w hs, trivial⟩) ?_
          refine sy_bg ?_
          refine cl rfl cal19 rfl rfl (c_theirs t a c (by omega) _ _) ?_
          rintro _ _ _ ⟨ax, cx, rfl, rfl, rfl⟩
          refine bg (fun w hs => ⟨trivial, trivial⟩) ?_
          refine sy_bg ?_
          refine sto rfl rfl rfl cn26 rfl rfl rfl rfl ?_
          refine bg (fun w hs => trivial) ?_
          refine tk rfl (PE.assign rfl) rfl ?_
          refine tk rfl (PE.assign rfl) rfl ?_
          refine sy_bg ?_
          refine sto rfl rfl rfl cn37 rfl rfl rfl rfl ?_
          refine bg (fun w hs => trivial) ?_
          refine sy_dn ?_
          exact sy_cutEnd ((bo, co, ax, cx), (bd, cd), (be, ce), b7, b10) (by repeat' first | exact Sub.nil | apply Sub.cons | rfl | (simp [lk]; omega)) (fun _ h => St.sub (((h.pull b3).pull b10).pull b7))
         exact sy_stop
        exact sy_stop
       refine sy_alt ?_ ?_
       ·
        refine alc rfl zl26 rfl (fun b7 => ?_)
        refine bg (fun w hs => ⟨(lhA [_, _, _, _, _, _, _, _, _, _, _] ag26 rfl rfl rfl) w hs, trivial⟩) ?_
        refine sy_any ?_
        refine sy_alt ?_ ?_
        ·
         refine cl rfl cal32 rfl rfl (c_dup_int rs a1 c1 (by omega) _ _) ?_
         rintro _ _ _ ⟨o, rfl, ⟨bd, cd, hbd⟩, rfl, rfl⟩
         obtain ⟨ad, c3, ho, hf⟩ := o.freeze
         rw [hbd] at ho
         cases ho
         rw [hbd]
         refine Sy.heap (fun w h => hf h) ?_
         rw [show (irows rs).length = rs.length from List.length_map _]
         refine bg (fun w hs => ⟨(lhA [_, _, _, _, _, _, _, _, _, _, _] ag26 rfl rfl rfl) w hs, trivial⟩) ?_
         refine sy_any ?_
         refine sy_alt ?_ ?_
         ·
          refine cl rfl cal50 rfl rfl (c_dup_bool bs a2 c2 (by omega) _ _) ?_
          rintro _ _ _ ⟨o, rfl, ⟨be, ce, hbd⟩, rfl, rfl⟩
          obtain ⟨ad, c3, ho, hf⟩ := o.freeze
          rw [hbd] at ho
          cases ho
          rw [hbd]
          refine Sy.heap (fun w h => hf h) ?_
          rw [show (brows bs).length = bs.length from List.length_map _]
          refine bg (fun w hs => ⟨(lhA [_, _, _, _, _, _, _, _, _, _, _] ag26 rfl rfl rfl) w hs, trivial⟩) ?_
          refine sy_any ?_
          refine sy_alt ?_ ?_
          ·
           refine cl rfl cal19 rfl rfl (c_theirs t a c (by omega) _ _) ?_
           rintro _ _ _ ⟨ax, cx, rfl, rfl, rfl⟩
           refine bg (fun w hs => ⟨trivial, trivial⟩) ?_
           refine sy_bg ?_
           refine alc rfl zl37 rfl (fun b10 => ?_)
           refine bg (fun w hs => trivial) ?_
           refine sy_bg ?_
           refine sto rfl rfl rfl cn26 rfl rfl rfl rfl ?_
           refine bg (fun w hs => trivial) ?_
           refine tk rfl (PE.assign rfl) rfl ?_
           refine tk rfl (PE.assign rfl) rfl ?_
           refine sy_bg ?_
           refine sto rfl rfl rfl cn37 rfl rfl rfl rfl ?_
           refine bg (fun w hs => trivial) ?_
           refine sy_dn ?_
           exact sy_cutEnd ((bo, co, ax, cx), (bd, cd), (be, ce), b7, b10) (by repeat' first | exact Sub.nil | apply Sub.cons | rfl | (simp [lk]; omega)) (fun _ h => St.sub (((h.pull b3).pull b10).pull b7))
          refine sy_alt ?_ ?_
          ·
           refine alc rfl zl37 rfl (fun b10 => ?_)
           refine bg (fun w hs => ⟨(lhA [_, _, _, _, _, _, _, _, _, _, _] ag26 rfl rfl rfl) w hs, trivial⟩) ?_
           refine sy_bg ?_
           refine cl rfl cal19 rfl rfl (c_theirs t a c (by omega) _ _) ?_
           rintro _ _ _ ⟨ax, cx, rfl, rfl, rfl⟩
           refine bg (fun w hs => ⟨trivial, trivial⟩) ?_
           refine sy_bg ?_
           refine sto rfl rfl rfl cn26 rfl rfl rfl rfl ?_
           refine bg (fun w hs => trivial) ?_
           refine tk rfl (PE.assign rfl) rfl ?_
           refine tk rfl (PE.assign rfl) rfl ?_
           refine sy_bg ?_
           refine sto rfl rfl rfl cn37 rfl rfl rfl rfl ?_
           refine bg (fun w hs => trivial) ?_
           refine sy_dn ?_
           exact sy_cutEnd ((bo, co, ax, cx), (bd, cd), (be, ce), b7, b10) (by repeat' first | exact Sub.nil | apply Sub.cons | rfl | (simp [lk]; omega)) (fun _ h => St.sub (((h.pull b3).pull b10).pull b7))
          exact sy_stop
         refine sy_alt ?_ ?_
         ·
          refine alc rfl zl37 rfl (fun b10 => ?_)
          refine bg (fun w hs => ⟨(lhA [_, _, _, _, _, _, _, _, _, _, _] ag26 rfl rfl rfl) w hs, trivial⟩) ?_
          refine sy_bg ?_
          refine cl rfl cal50 rfl rfl (c_dup_bool bs a2 c2 (by omega) _ _) ?_
          rintro _ _ _ ⟨o, rfl, ⟨be, ce, hbd⟩, rfl, rfl⟩
          obtain ⟨ad, c3, ho, hf⟩ := o.freeze
          rw [hbd] at ho
          cases ho
          rw [hbd]
          refine Sy.heap (fun w h => hf h) ?_
          rw [show (brows bs).length = bs.length from List.length_map _]
          refine bg (fun w hs => ⟨(lhA [_, _, _, _, _, _, _, _, _, _, _] ag26 rfl rfl rfl) w hs, trivial⟩) ?_
          refine sy_bg ?_
          refine cl rfl cal19 rfl rfl (c_theirs t a c (by omega) _ _) ?_
          rintro _ _ _ ⟨ax, cx, rfl, rfl, rfl⟩
          refine bg (fun w hs => ⟨trivial, trivial⟩) ?_
          refine sy_bg ?_
          refine sto rfl rfl rfl cn26 rfl rfl rfl rfl ?_
          refine bg (fun w hs => trivial) ?_
          refine tk rfl (PE.assign rfl) rfl ?_
          refine tk rfl (PE.assign rfl) rfl ?_
          refine sy_bg ?_
          refine sto rfl rfl rfl cn37 rfl rfl rfl rfl ?_
          refine bg (fun w hs => trivial) ?_
          refine sy_dn ?_
          exact sy_cutEnd ((bo, co, ax, cx), (bd, cd), (be, ce), b7, b10) (by repeat' first | exact Sub.nil | apply Sub.cons | rfl | (simp [lk]; omega)) (fun _ h => St.sub (((h.pull b3).pull b10).pull b7))
         exact sy_stop
        refine sy_alt ?_ ?_
        ·
         refine alc rfl zl37 rfl (fun b10 => ?_)
         refine bg (fun w hs => ⟨(lhA [_, _, _, _, _, _, _, _, _, _, _] ag26 rfl rfl rfl) w hs, trivial⟩) ?_
         refine sy_bg ?_
         refine cl rfl cal32 rfl rfl (c_dup_int rs a1 c1 (by omega) _ _) ?_
         rintro _ _ _ ⟨o, rfl, ⟨bd, cd, hbd⟩, rfl, rfl⟩
         obtain ⟨ad, c3, ho, hf⟩ := o.freeze
         rw [hbd] at ho
         cases ho
         rw [hbd]
         refine Sy.heap (fun w h => hf h) ?_
         rw [show (irows rs).length = rs.length from List.length_map _]
         refine bg (fun w hs => ⟨(lhA [_, _, _, _, _, _, _, _, _, _, _] ag26 rfl rfl rfl) w hs, trivial⟩) ?_
         refine sy_bg ?_
         refine cl rfl cal50 rfl rfl (c_dup_bool bs a2 c2 (by omega) _ _) ?_
         rintro _ _ _ ⟨o, rfl, ⟨be, ce, hbd⟩, rfl, rfl⟩
         obtain ⟨ad, c3, ho, hf⟩ := o.freeze
         rw [hbd] at ho
         cases ho
         rw [hbd]
         refine Sy.heap (fun w h => hf h) ?_
         rw [show (brows bs).length = bs.length from List.length_map _]
         refine bg (fun w hs => ⟨(lhA [_, _, _, _, _, _, _, _, _, _, _] ag26 rfl rfl rfl) w hs, trivial⟩) ?_
         refine sy_bg ?_
         refine cl rfl cal19 rfl rfl (c_theirs t a c (by omega) _ _) ?_
         rintro _ _ _ ⟨ax, cx, rfl, rfl, rfl⟩
         refine bg (fun w hs => ⟨trivial, trivial⟩) ?_
         refine sy_bg ?_
         refine sto rfl rfl rfl cn26 rfl rfl rfl rfl ?_
         refine bg (fun w hs => trivial) ?_
         refine tk rfl (PE.assign rfl) rfl ?_
         refine tk rfl (PE.assign rfl) rfl ?_
         refine sy_bg ?_
         refine sto rfl rfl rfl cn37 rfl rfl rfl rfl ?_
         refine bg (fun w hs => trivial) ?_
         refine sy_dn ?_
         exact sy_cutEnd ((bo, co, ax, cx), (bd, cd), (be, ce), b7, b10) (by repeat' first | exact Sub.nil | apply Sub.cons | rfl | (simp [lk]; omega)) (fun _ h => St.sub (((h.pull b3).pull b10).pull b7))
        exact sy_stop
       refine sy_alt ?_ ?_
       ·
        refine alc rfl zl37 rfl (fun b10 => ?_)
        refine bg (fun w hs => ⟨(lhA [_, _, _, _, _, _, _, _, _, _, _] ag26 rfl rfl rfl) w hs, trivial⟩) ?_
        refine sy_any ?_
        refine sy_alt ?_ ?_
        ·
         refine cl rfl cal32 rfl rfl (c_dup_int rs a1 c1 (by omega) _ _) ?_
         rintro _ _ _ ⟨o, rfl, ⟨bd, cd, hbd⟩, rfl, rfl⟩
         obtain ⟨ad, c3, ho, hf⟩ := o.freeze
         rw [hbd] at ho
         cases ho
         rw [hbd]
         refine Sy.heap (fun w h => hf h) ?_
         rw [show (irows rs).length = rs.length from List.length_map _]
         refine bg (fun w hs => ⟨(lhA [_, _, _, _, _, _, _, _, _, _, _] ag26 rfl rfl rfl) w hs, trivial⟩) ?_
         refine sy_any ?_
         refine sy_alt ?_ ?_
         ·
          refine cl rfl cal50 rfl rfl (c_dup_bool bs a2 c2 (by omega) _ _) ?_
          rintro _ _ _ ⟨o, rfl, ⟨be, ce, hbd⟩, rfl, rfl⟩
          obtain ⟨ad, c3, ho, hf⟩ := o.freeze
          rw [hbd] at ho
          cases ho
          rw [hbd]
          refine Sy.heap (fun w h => hf h) ?_
          rw [show (brows bs).length = bs.length from List.length_map _]
          refine bg (fun w hs => ⟨(lhA [_, _, _, _, _, _, _, _, _, _, _] ag26 rfl rfl rfl) w hs, trivial⟩) ?_
          refine sy_any ?_
          refine sy_alt ?_ ?_
          ·
           refine cl rfl cal19 rfl rfl (c_theirs t a c (by omega) _ _) ?_
           rintro _ _ _ ⟨ax, cx, rfl, rfl, rfl⟩
           refine bg (fun w hs => ⟨trivial, trivial⟩) ?_
           refine sy_bg ?_
           refine alc rfl zl26 rfl (fun b7 => ?_)
           refine bg (fun w hs => trivial) ?_
           refine sy_bg ?_
           refine sto rfl rfl rfl cn26 rfl rfl rfl rfl ?_
           refine bg (fun w hs => trivial) ?_
           refine tk rfl (PE.assign rfl) rfl ?_
           refine tk rfl (PE.assign rfl) rfl ?_
           refine sy_bg ?_
           refine sto rfl rfl rfl cn37 rfl rfl rfl rfl ?_
           refine bg (fun w hs => trivial) ?_
           refine sy_dn ?_
           exact sy_cutEnd ((bo, co, ax, cx), (bd, cd), (be, ce), b7, b10) (by repeat' first | exact Sub.nil | apply Sub.cons | rfl | (simp [lk]; omega)) (fun _ h => St.sub (((h.pull b3).pull b10).pull b7))
          refine sy_alt ?_ ?_
          ·
           refine alc rfl zl26 rfl (fun b7 => ?_)
           refine bg (fun w hs => ⟨(lhA [_, _, _, _, _, _, _, _, _, _, _] ag26 rfl rfl rfl) w hs, trivial⟩) ?_
           refine sy_bg ?_
           refine cl rfl cal19 rfl rfl (c_theirs t a c (by omega) _ _) ?_
           rintro _ _ _ ⟨ax, cx, rfl, rfl, rfl⟩
           refine bg (fun w hs => ⟨trivial, trivial⟩) ?_
           refine sy_bg ?_
           refine sto rfl rfl rfl cn26 rfl rfl rfl rfl ?_
           refine bg (fun w hs => trivial) ?_
           refine tk rfl (PE.assign rfl) rfl ?_
           refine tk rfl (PE.assign rfl) rfl ?_
           refine sy_bg ?_
           refine sto rfl rfl rfl cn37 rfl rfl rfl rfl ?_
           refine bg (fun w hs => trivial) ?_
           refine sy_dn ?_
           exact sy_cutEnd ((bo, co, ax, cx), (bd, cd), (be, ce), b7, b10) (by repeat' first | exact Sub.nil | apply Sub.cons | rfl | (simp [lk]; omega)) (fun _ h => St.sub (((h.pull b3).pull b10).pull b7))
          exact sy_stop
         refine sy_alt ?_ ?_
         ·
          refine alc rfl zl26 rfl (fun b7 => ?_)
          refine bg (fun w hs => ⟨(lhA [_, _, _, _, _, _, _, _, _, _, _] ag26 rfl rfl rfl) w hs, trivial⟩) ?_
          refine sy_bg ?_
          refine cl rfl cal50 rfl rfl (c_dup_bool bs a2 c2 (by omega) _ _) ?_
          rintro _ _ _ ⟨o, rfl, ⟨be, ce, hbd⟩, rfl, rfl⟩
          obtain ⟨ad, c3, ho, hf⟩ := o.freeze
          rw [hbd] at ho
          cases ho
          rw [hbd]
          refine Sy.heap (fun w h => hf h) ?_
          rw [show (brows bs).length = bs.length from List.length_map _]
          refine bg (fun w hs => ⟨(lhA [_, _, _, _, _, _, _, _, _, _, _] ag26 rfl rfl rfl) w hs, trivial⟩) ?_
          refine sy_bg ?_
          refine cl rfl cal19 rfl rfl (c_theirs t a c (by omega) _ _) ?_
          rintro _ _ _ ⟨ax, cx, rfl, rfl, rfl⟩
          refine bg (fun w hs => ⟨trivial, trivial⟩) ?_
          refine sy_bg ?_
          refine sto rfl rfl rfl cn26 rfl rfl rfl rfl ?_
          refine bg (fun w hs => trivial) ?_
          refine tk rfl (PE.assign rfl) rfl ?_
          refine tk rfl (PE.assign rfl) rfl ?_
          refine sy_bg ?_
          refine sto rfl rfl rfl cn37 rfl rfl rfl rfl ?_
          refine bg (fun w hs => trivial) ?_
          refine sy_dn ?_
          exact sy_cutEnd ((bo, co, ax, cx), (bd, cd), (be, ce), b7, b10) (by repeat' first | exact Sub.nil | apply Sub.cons | rfl | (simp [lk]; omega)) (fun _ h => St.sub (((h.pull b3).pull b10).pull b7))
         exact sy_stop
        refine sy_alt ?_ ?_
        ·
         refine alc rfl zl26 rfl (fun b7 => ?_)
         refine bg (fun w hs => ⟨(lhA [_, _, _, _, _, _, _, _, _, _, _] ag26 rfl rfl rfl) w hs, trivial⟩) ?_
         refine sy_bg ?_
         refine cl rfl cal32 rfl rfl (c_dup_int rs a1 c1 (by omega) _ _) ?_
         rintro _ _ _ ⟨o, rfl, ⟨bd, cd, hbd⟩, rfl, rfl⟩
         obtain ⟨ad, c3, ho, hf⟩ := o.freeze
         rw [hbd] at ho
         cases ho
         rw [hbd]
         refine Sy.heap (fun w h => hf h) ?_
         rw [show (irows rs).length = rs.length from List.length_map _]
         refine bg (fun w hs => ⟨(lhA [_, _, _, _, _, _, _, _, _, _, _] ag26 rfl rfl rfl) w hs, trivial⟩) ?_
         refine sy_bg ?_
         refine cl rfl cal50 rfl rfl (c_dup_bool bs a2 c2 (by omega) _ _) ?_
         rintro _ _ _ ⟨o, rfl, ⟨be, ce, hbd⟩, rfl, rfl⟩
         obtain ⟨ad, c3, ho, hf⟩ := o.freeze
         rw [hbd] at ho
         cases ho
         rw [hbd]
         refine Sy.heap (fun w h => hf h) ?_
         rw [show (brows bs).length = bs.length from List.length_map _]
         refine bg (fun w hs => ⟨(lhA [_, _, _, _, _, _, _, _, _, _, _] ag26 rfl rfl rfl) w hs, trivial⟩) ?_
         refine sy_bg ?_
         refine cl rfl cal19 rfl rfl (c_theirs t a c (by omega) _ _) ?_
         rintro _ _ _ ⟨ax, cx, rfl, rfl, rfl⟩
         refine bg (fun w hs => ⟨trivial, trivial⟩) ?_
         refine sy_bg ?_
         refine sto rfl rfl rfl cn26 rfl rfl rfl rfl ?_
         refine bg (fun w hs => trivial) ?_
         refine tk rfl (PE.assign rfl) rfl ?_
         refine tk rfl (PE.assign rfl) rfl ?_
         refine sy_bg ?_
         refine sto rfl rfl rfl cn37 rfl rfl rfl rfl ?_
         refine bg (fun w hs => trivial) ?_
         refine sy_dn ?_
         exact sy_cutEnd ((bo, co, ax, cx), (bd, cd), (be, ce), b7, b10) (by repeat' first | exact Sub.nil | apply Sub.cons | rfl | (simp [lk]; omega)) (fun _ h => St.sub (((h.pull b3).pull b10).pull b7))
        exact sy_stop
       exact sy_stop
      refine sy_alt ?_ ?_
      ·
       refine alc rfl zl26 rfl (fun b7 => ?_)
       refine bg (fun w hs => ⟨(lhA [_, _, _, _, _, _, _, _, _, _, _] ag26 rfl rfl rfl) w hs, (lhA [_, _, _, _, _, _, _, _, _, _, _] ag26 rfl rfl rfl) w hs, trivial⟩) ?_
       refine sy_any ?_
       refine sy_alt ?_ ?_
       ·
        refine cl rfl cal17 rfl rfl (c_Own t a c (by omega) _ _) ?_
        rintro _ _ _ ⟨bo, co, rfl, rfl, rfl⟩
        refine bg (fun w hs => ⟨(lhA [_, _, _, _, _, _, _, _, _, _, _] ag26 rfl rfl rfl) w hs, trivial, trivial⟩) ?_
        refine sy_any ?_
        refine sy_alt ?_ ?_
        ·
         refine cl rfl cal32 rfl rfl (c_dup_int rs a1 c1 (by omega) _ _) ?_
         rintro _ _ _ ⟨o, rfl, ⟨bd, cd, hbd⟩, rfl, rfl⟩
         obtain ⟨ad, c3, ho, hf⟩ := o.freeze
         rw [hbd] at ho
         cases ho
         rw [hbd]
         refine Sy.heap (fun w h => hf h) ?_
         rw [show (irows rs).length = rs.length from List.length_map _]
         refine bg (fun w hs => ⟨(lhA [_, _, _, _, _, _, _, _, _, _, _] ag26 rfl rfl rfl) w hs, trivial⟩) ?_
         refine sy_any ?_
         refine sy_alt ?_ ?_
         ·
          refine cl rfl cal50 rfl rfl (c_dup_bool bs a2 c2 (by omega) _ _) ?_
          rintro _ _ _ ⟨o, rfl, ⟨be, ce, hbd⟩, rfl, rfl⟩
          obtain ⟨ad, c3, ho, hf⟩ := o.freeze
          rw [hbd] at ho
          cases ho
          rw [hbd]
          refine Sy.heap (fun w h => hf h) ?_
          rw [show (brows bs).length = bs.length from List.length_map _]
          refine bg (fun w hs => ⟨(lhA [_, _, _, _, _, _, _, _, _, _, _] ag26 rfl rfl rfl) w hs, trivial⟩) ?_
          refine sy_any ?_
          refine sy_alt ?_ ?_
          ·
           refine cl rfl cal19 rfl rfl (c_theirs t a c (by omega) _ _) ?_
           rintro _ _ _ ⟨ax, cx, rfl, rfl, rfl⟩
           refine bg (fun w hs => ⟨trivial, trivial⟩) ?_
           refine sy_bg ?_
           refine alc rfl zl37 rfl (fun b10 => ?_)
           refine bg (fun w hs => trivial) ?_
           refine sy_bg ?_
           refine sto rfl rfl rfl cn26 rfl rfl rfl rfl ?_
           refine bg (fun w hs => trivial) ?_
           refine tk rfl (PE.assign rfl) rfl ?_
           refine tk rfl (PE.assign rfl) rfl ?_
           refine sy_bg ?_
           refine sto rfl rfl rfl cn37 rfl rfl rfl rfl ?_
           refine bg (fun w hs => trivial) ?_
           refine sy_dn ?_
           exact sy_cutEnd ((bo, co, ax, cx), (bd, cd), (be, ce), b7, b10) (by repeat' first | exact Sub.nil | apply Sub.cons | rfl | (simp [lk]; omega)) (fun _ h => St.sub (((h.pull b3).pull b10).pull b7))
          refine sy_alt ?_ ?_
          ·
           refine alc rfl zl37 rfl (fun b10 => ?_)
           refine bg (fun w hs => ⟨(lhA [_, _, _, _, _, _, _, _, _, _, _] ag26 rfl rfl rfl) w hs, trivial⟩) ?_
           refine sy_bg ?_
           refine cl rfl cal19 rfl rfl (c_theirs t a c (by omega) _ _) ?_
           rintro _ _ _ ⟨ax, cx, rfl, rfl, rfl⟩
           refine bg (fun w hs => ⟨trivial, trivial⟩) ?_
           refine sy_bg ?_
           refine sto rfl rfl rfl cn26 rfl rfl rfl rfl ?_
           refine bg (fun w hs => trivial) ?_
           refine tk rfl (PE.assign rfl) rfl ?_
           refine tk rfl (PE.assign rfl) rfl ?_
           refine sy_bg ?_
           refine sto rfl rfl rfl cn37 rfl rfl rfl rfl ?_
           refine bg (fun w hs => trivial) ?_
           refine sy_dn ?_
           exact sy_cutEnd ((bo, co, ax, cx), (bd, cd), (be, ce), b7, b10) (by repeat' first | exact Sub.nil | apply Sub.cons | rfl | (simp [lk]; omega)) (fun _ h => St.sub (((h.pull b3).pull b10).pull b7))
          exact sy_stop
         refine sy_alt ?_ ?_
         ·
          refine alc rfl zl37 rfl (fun b10 => ?_)
          refine bg (fun w hs => ⟨(lhA [_, _, _, _, _, _, _, _, _, _, _] ag26 rfl rfl rfl) w hs, trivial⟩) ?_
          refine sy_bg ?_
          refine cl rfl cal50 rfl rfl (c_dup_bool bs a2 c2 (by omega) _ _) ?_
          rintro _ _ _ ⟨o, rfl, ⟨be, ce, hbd⟩, rfl, rfl⟩
          obtain ⟨ad, c3, ho, hf⟩ := o.freeze
          rw [hbd] at ho
          cases ho
          rw [hbd]
          refine Sy.heap (fun w h => hf h) ?_
          rw [show (brows bs).length = bs.length from List.length_map _]
          refine bg (fun w hs => ⟨(lhA [_, _, _, _, _, _, _, _, _, _, _] ag26 rfl rfl rfl) w hs, trivial⟩) ?_
          refine sy_bg ?_
          refine cl rfl cal19 rfl rfl (c_theirs t a c (by omega) _ _) ?_
          rintro _ _ _ ⟨ax, cx, rfl, rfl, rfl⟩
          refine bg (fun w hs => ⟨trivial, trivial⟩) ?_
          refine sy_bg ?_
          refine sto rfl rfl rfl cn26 rfl rfl rfl rfl ?_
          refine bg (fun w hs => trivial) ?_
          refine tk rfl (PE.assign rfl) rfl ?_
          refine tk rfl (PE.assign rfl) rfl ?_
          refine sy_bg ?_
          refine sto rfl rfl rfl cn37 rfl rfl rfl rfl ?_
          refine bg (fun w hs => trivial) ?_
          refine sy_dn ?_
          exact sy_cutEnd ((bo, co, ax, cx), (bd, cd), (be, ce), b7, b10) (by repeat' first | exact Sub.nil | apply Sub.cons | rfl | (simp [lk]; omega)) (fun _ h => St.sub (((h.pull b3).pull b10).pull b7))
         exact sy_stop
        refine sy_alt ?_ ?_
        ·
         refine alc rfl zl37 rfl (fun b10 => ?_)
         refine bg (fun w hs => ⟨(lhA [_, _, _, _, _, _, _, _, _, _, _] ag26 rfl rfl rfl) w hs, trivial⟩) ?_
         refine sy_bg ?_
         refine cl rfl cal32 rfl rfl (c_dup_int rs a1 c1 (by omega) _ _) ?_
         rintro _ _ _ ⟨o, rfl, ⟨bd, cd, hbd⟩, rfl, rfl⟩
         obtain ⟨ad, c3, ho, hf⟩ := o.freeze
         rw [hbd] at ho
         cases ho
         rw [hbd]
         refine Sy.heap (fun w h => hf h) ?_
         rw [show (irows rs).length = rs.length from List.length_map _]
         refine bg (fun w hs => ⟨(lhA [_, _, _, _, _, _, _, _, _, _, _] ag26 rfl rfl rfl) w hs, trivial⟩) ?_
         refine sy_bg ?_
         refine cl rfl cal50 rfl rfl (c_dup_bool bs a2 c2 (by omega) _ _) ?_
         rintro _ _ _ ⟨o, rfl, ⟨be, ce, hbd⟩, rfl, rfl⟩
         obtain ⟨ad, c3, ho, hf⟩ := o.freeze
         rw [hbd] at ho
         cases ho
         rw [hbd]
         refine Sy.heap (fun w h => hf h) ?_
         rw [show (brows bs).length = bs.length from List.length_map _]
         refine bg (fun w hs => ⟨(lhA [_, _, _, _, _, _, _, _, _, _, _] ag26 rfl rfl rfl) w hs, trivial⟩) ?_
         refine sy_bg ?_
         refine cl rfl cal19 rfl rfl (c_theirs t a c (by omega) _ _) ?_
         rintro _ _ _ ⟨ax, cx, rfl, rfl, rfl⟩
         refine bg (fun w hs => ⟨trivial, trivial⟩) ?_
         refine sy_bg ?_
         refine sto rfl rfl rfl cn26 rfl rfl rfl rfl ?_
         refine bg (fun w hs => trivial) ?_
         refine tk rfl (PE.assign rfl) rfl ?_
         refine tk rfl (PE.assign rfl) rfl ?_
         refine sy_bg ?_
         refine sto rfl rfl rfl cn37 rfl rfl rfl rfl ?_
         refine bg (fun w hs => trivial) ?_
         refine sy_dn ?_
         exact sy_cutEnd ((bo, co, ax, cx), (bd, cd), (be, ce), b7, b10) (by repeat' first | exact Sub.nil | apply Sub.cons | rfl | (simp [lk]; omega)) (fun _ h => St.sub (((h.pull b3).pull b10).pull b7))
        exact sy_stop
       refine sy_alt ?_ ?_
       ·
        refine alc rfl zl37 rfl (fun b10 => ?_)
        refine bg (fun w hs => ⟨(lhA [_, _, _, _, _, _, _, _, _, _, _] ag26 rfl rfl rfl) w hs, (lhA [_, _, _, _, _, _, _, _, _, _, _] ag26 rfl rfl rfl) w hs, trivial⟩) ?_
        refine sy_bg ?_
        refine cl rfl cal17 rfl rfl (c_Own t a c (by omega) _ _) ?_
        rintro _ _ _ ⟨bo, co, rfl, rfl, rfl⟩
        refine bg (fun w hs => ⟨(lhA [_, _, _, _, _, _, _, _, _, _, _] ag26 rfl rfl rfl) w hs, trivial, trivial⟩) ?_
        refine sy_bg ?_
        refine cl rfl cal32 rfl rfl (c_dup_int rs a1 c1 (by omega) _ _) ?_
        rintro _ _ _ ⟨o, rfl, ⟨bd, cd, hbd⟩, rfl, rfl⟩
        obtain ⟨ad, c3, ho, hf⟩ := o.freeze
        rw [hbd] at ho
        cases ho
        rw [hbd]
        refine Sy.heap (fun w h => hf h) ?_
        rw [show (irows rs).length = rs.length from List.length_map _]
        refine bg (fun w hs => ⟨(lhA [_, _, _, _, _, _, _, _, _, _, _] ag26 rfl rfl rfl) w hs, trivial⟩) ?_
        refine sy_bg ?_
        refine cl rfl cal50 rfl rfl (c_dup_bool bs a2 c2 (by omega) _ _) ?_
        rintro _ _ _ ⟨o, rfl, ⟨be, ce, hbd⟩, rfl, rfl⟩
        obtain ⟨ad, c3, ho, hf⟩ := o.freeze
        rw [hbd] at ho
        cases ho
        rw [hbd]
        refine Sy.heap (fun w h => hf h) ?_
        rw [show (brows bs).length = bs.length from List.length_map _]
        refine bg (fun w hs => ⟨(lhA [_, _, _, _, _, _, _, _, _, _, _] ag26 rfl rfl rfl) w hs, trivial⟩) ?_
        refine sy_bg ?_
        refine cl rfl cal19 rfl rfl (c_theirs t a c (by omega) _ _) ?_
        rintro _ _ _ ⟨ax, cx, rfl, rfl, rfl⟩
        refine bg (fun w hs => ⟨trivial, trivial⟩) ?_
        refine sy_bg ?_
        refine sto rfl rfl rfl cn26 rfl rfl rfl rfl ?_
        refine bg (fun w hs => trivial) ?_
        refine tk rfl (PE.assign rfl) rfl ?_
        refine tk rfl (PE.assign rfl) rfl ?_
        refine sy_bg ?_
        refine sto rfl rfl rfl cn37 rfl rfl rfl rfl ?_
        refine bg (fun w hs => trivial) ?_
        refine sy_dn ?_
        exact sy_cutEnd ((bo, co, ax, cx), (bd, cd), (be, ce), b7, b10) (by repeat' first | exact Sub.nil | apply Sub.cons | rfl | (simp [lk]; omega)) (fun _ h => St.sub (((h.pull b3).pull b10).pull b7))
       exact sy_stop
      refine sy_alt ?_ ?_
      ·
       refine alc rfl zl37 rfl (fun b10 => ?_)
       refine bg (fun w hs => ⟨(lhA [_, _, _, _, _, _, _, _, _, _, _] ag26 rfl rfl rfl) w hs, (lhA [_, _, _, _, _, _, _, _, _, _, _] ag26 rfl rfl rfl) w hs, trivial⟩) ?_
       refine sy_any ?_
       refine sy_alt ?_ ?_
       ·
        refine cl rfl cal17 rfl rfl (c_Own t a c (by omega) _ _) ?_
        rintro _ _ _ ⟨bo, co, rfl, rfl, rfl⟩
        refine bg (fun w hs => ⟨(lhA [_, _, _, _, _, _, _, _, _, _, _] ag26 rfl rfl rfl) w hs, trivial, trivial⟩) ?_
        refine sy_any ?_
        refine sy_alt ?_ ?_
        ·
         refine cl rfl cal32 rfl rfl (c_dup_int rs a1 c1 (by omega) _ _) ?_
         rintro _ _ _ ⟨o, rfl, ⟨bd, cd, hbd⟩, rfl, rfl⟩
         obtain ⟨ad, c3, ho, hf⟩ := o.freeze
         rw [hbd] at ho
         cases ho
         rw [hbd]
         refine Sy.heap (fun w h => hf h) ?_
         rw [show (irows rs).length = rs.length from List.length_map _]
         refine bg (fun w hs => ⟨(lhA [_, _, _, _, _, _, _, _, _, _, _] ag26 rfl rfl rfl) w hs, trivial⟩) ?_
         refine sy_any ?_
         refine sy_alt ?_ ?_
         ·
          refine cl rfl cal50 rfl rfl (c_dup_bool bs a2 c2 (by omega) _ _) ?_
          rintro _ _ _ ⟨o, rfl, ⟨be, ce, hbd⟩, rfl, rfl⟩
          obtain ⟨ad, c3, ho, hf⟩ := o.freeze
          rw [hbd] at ho
          cases ho
          rw [hbd]
          refine Sy.heap (fun w h => hf h) ?_
          rw [show (brows bs).length = bs.length from List.length_map _]
          refine bg (fun w hs => ⟨(lhA [_, _, _, _, _, _, _, _, _, _, _] ag26 rfl rfl rfl) w hs, trivial⟩) ?_
          refine sy_any ?_
          refine sy_alt ?_ ?_
          ·
           refine cl rfl cal19 rfl rfl (c_theirs t a c (by omega) _ _) ?_
           rintro _ _ _ ⟨ax, cx, rfl, rfl, rfl⟩
           refine bg (fun w hs => ⟨trivial, trivial⟩) ?_
           refine sy_bg ?_
           refine alc rfl zl26 rfl (fun b7 => ?_)
           refine bg (fun w hs => trivial) ?_
           refine sy_bg ?_
           refine sto rfl rfl rfl cn26 rfl rfl rfl rfl ?_
           refine bg (fun w hs => trivial) ?_
           refine tk rfl (PE.assign rfl) rfl ?_
           refine tk rfl (PE.assign rfl) rfl ?_
           refine sy_bg ?_
           refine sto rfl rfl rfl cn37 rfl rfl rfl rfl ?_
           refine bg (fun w hs => trivial) ?_
           refine sy_dn ?_
           exact sy_cutEnd ((bo, co, ax, cx), (bd, cd), (be, ce), b7, b10) (by repeat' first | exact Sub.nil | apply Sub.cons | rfl | (simp [lk]; omega)) (fun _ h => St.sub (((h.pull b3).pull b10).pull b7))
          refine sy_alt ?_ ?_
          ·
           refine alc rfl zl26 rfl (fun b7 => ?_)
           refine bg (fun w hs => ⟨(lhA [_, _, _, _, _, _, _, _, _, _, _] ag26 rfl rfl rfl) w hs, trivial⟩) ?_
           refine sy_bg ?_
           refine cl rfl cal19 rfl rfl (c_theirs t a c (by omega) _ _) ?_
           rintro _ _ _ ⟨ax, cx, rfl, rfl, rfl⟩
           refine bg (fun w hs => ⟨trivial, trivial⟩) ?_
           refine sy_bg ?_
           refine sto rfl rfl rfl cn26 rfl rfl rfl rfl ?_
           refine bg (fun w hs => trivial) ?_
           refine tk rfl (PE.assign rfl) rfl ?_
           refine tk rfl (PE.assign rfl) rfl ?_
           refine sy_bg ?_
           refine sto rfl rfl rfl cn37 rfl rfl rfl rfl ?_
           refine bg (fun w hs => trivial) ?_
           refine sy_dn ?_
           exact sy_cutEnd ((bo, co, ax, cx), (bd, cd), (be, ce), b7, b10) (by repeat' first | exact Sub.nil | apply Sub.cons | rfl | (simp [lk]; omega)) (fun _ h => St.sub (((h.pull b3).pull b10).pull b7))
          exact sy_stop
         refine sy_alt ?_ ?_
         ·
          refine alc rfl zl26 rfl (fun b7 => ?_)
          refine bg (fun w hs => ⟨(lhA [_, _, _, _, _, _, _, _, _, _, _] ag26 rfl rfl rfl) w hs, trivial⟩) ?_
          refine sy_bg ?_
          refine cl rfl cal50 rfl rfl (c_dup_bool bs a2 c2 (by omega) _ _) ?_
          rintro _ _ _ ⟨o, rfl, ⟨be, ce, hbd⟩, rfl, rfl⟩
          obtain ⟨ad, c3, ho, hf⟩ := o.freeze
          rw [hbd] at ho
          cases ho
          rw [hbd]
          refine Sy.heap (fun w h => hf h) ?_
          rw [show (brows bs).length = bs.length from List.length_map _]
          refine bg (fun w hs => ⟨(lhA [_, _, _, _, _, _, _, _, _, _, _] ag26 rfl rfl rfl) w hs, trivial⟩) ?_
          refine sy_bg ?_
          refine cl rfl cal19 rfl rfl (c_theirs t a c (by omega) _ _) ?_
          rintro _ _ _ ⟨ax, cx, rfl, rfl, rfl⟩
          refine bg (fun w hs => ⟨trivial, trivial⟩) ?_
          refine sy_bg ?_
          refine sto rfl rfl rfl cn26 rfl rfl rfl rfl ?_
          refine bg (fun w hs => trivial) ?_
          refine tk rfl (PE.assign rfl) rfl ?_
          refine tk rfl (PE.assign rfl) rfl ?_
          refine sy_bg ?_
          refine sto rfl rfl rfl cn37 rfl rfl rfl rfl ?_
          refine bg (fun w hs => trivial) ?_
          refine sy_dn ?_
          exact sy_cutEnd ((bo, co, ax, cx), (bd, cd), (be, ce), b7, b10) (by repeat' first | exact Sub.nil | apply Sub.cons | rfl | (simp [lk]; omega)) (fun _ h => St.sub (((h.pull b3).pull b10).pull b7))
         exact sy_stop
        refine sy_alt ?_ ?_
        ·
         refine alc rfl zl26 rfl (fun b7 => ?_)
         refine bg (fun w hs => ⟨(lhA [_, _, _, _, _, _, _, _, _, _, _] ag26 rfl rfl rfl) w hs, trivial⟩) ?_
         refine sy_bg ?_
         refine cl rfl cal32 rfl rfl (c_dup_int rs a1 c1 (by omega) _ _) ?_
         rintro _ _ _ ⟨o, rfl, ⟨bd, cd, hbd⟩, rfl, rfl⟩
         obtain ⟨ad, c3, ho, hf⟩ := o.freeze
         rw [hbd] at ho
         cases ho
         rw [hbd]
         refine Sy.heap (fun w h => hf h) ?_
         rw [show (irows rs).length = rs.length from List.length_map _]
         refine bg (fun w hs => ⟨(lhA [_, _, _, _, _, _, _, _, _, _, _] ag26 rfl rfl rfl) w hs, trivial⟩) ?_
         refine sy_bg ?_
         refine cl rfl cal50 rfl rfl (c_dup_bool bs a2 c2 (by omega) _ _) ?_
         rintro _ _ _ ⟨o, rfl, ⟨be, ce, hbd⟩, rfl, rfl⟩
         obtain ⟨ad, c3, ho, hf⟩ := o.freeze
         rw [hbd] at ho
         cases ho
         rw [hbd]
         refine Sy.heap (fun w h => hf h) ?_
         rw [show (brows bs).length = bs.length from List.length_map _]
         refine bg (fun w hs => ⟨(lhA [_, _, _, _, _, _, _, _, _, _, _] ag26 rfl rfl rfl) w hs, trivial⟩) ?_
         refine sy_bg ?_
         refine cl rfl cal19 rfl rfl (c_theirs t a c (by omega) _ _) ?_
         rintro _ _ _ ⟨ax, cx, rfl, rfl, rfl⟩
         refine bg (fun w hs => ⟨trivial, trivial⟩) ?_
         refine sy_bg ?_
         refine sto rfl rfl rfl cn26 rfl rfl rfl rfl ?_
         refine bg (fun w hs => trivial) ?_
         refine tk rfl (PE.assign rfl) rfl ?_
         refine tk rfl (PE.assign rfl) rfl ?_
         refine sy_bg ?_
         refine sto rfl rfl rfl cn37 rfl rfl rfl rfl ?_
         refine bg (fun w hs => trivial) ?_
         refine sy_dn ?_
         exact sy_cutEnd ((bo, co, ax, cx), (bd, cd), (be, ce), b7, b10) (by repeat' first | exact Sub.nil | apply Sub.cons | rfl | (simp [lk]; omega)) (fun _ h => St.sub (((h.pull b3).pull b10).pull b7))
        exact sy_stop
       refine sy_alt ?_ ?_
       ·
        refine alc rfl zl26 rfl (fun b7 => ?_)
        refine bg (fun w hs => ⟨(lhA [_, _, _, _, _, _, _, _, _, _, _] ag26 rfl rfl rfl) w hs, (lhA [_, _, _, _, _, _, _, _, _, _, _] ag26 rfl rfl rfl) w hs, trivial⟩) ?_
        refine sy_bg ?_
        refine cl rfl cal17 rfl rfl (c_Own t a c (by omega) _ _) ?_
        rintro _ _ _ ⟨bo, co, rfl, rfl, rfl⟩
        refine bg (fun w hs => ⟨(lhA [_, _, _, _, _, _, _, _, _, _, _] ag26 rfl rfl rfl) w hs, trivial, trivial⟩) ?_
        refine sy_bg ?_
        refine cl rfl cal32 rfl rfl (c_dup_int rs a1 c1 (by omega) _ _) ?_
        rintro _ _ _ ⟨o, rfl, ⟨bd, cd, hbd⟩, rfl, rfl⟩
        obtain ⟨ad, c3, ho, hf⟩ := o.freeze
        rw [hbd] at ho
        cases ho
        rw [hbd]
        refine Sy.heap (fun w h => hf h) ?_
        rw [show (irows rs).length = rs.length from List.length_map _]
        refine bg (fun w hs => ⟨(lhA [_, _, _, _, _, _, _, _, _, _, _] ag26 rfl rfl rfl) w hs, trivial⟩) ?_
        refine sy_bg ?_
        refine cl rfl cal50 rfl rfl (c_dup_bool bs a2 c2 (by omega) _ _) ?_
        rintro _ _ _ ⟨o, rfl, ⟨be, ce, hbd⟩, rfl, rfl⟩
        obtain ⟨ad, c3, ho, hf⟩ := o.freeze
        rw [hbd] at ho
        cases ho
        rw [hbd]
        refine Sy.heap (fun w h => hf h) ?_
        rw [show (brows bs).length = bs.length from List.length_map _]
        refine bg (fun w hs => ⟨(lhA [_, _, _, _, _, _, _, _, _, _, _] ag26 rfl rfl rfl) w hs, trivial⟩) ?_
        refine sy_bg ?_
        refine cl rfl cal19 rfl rfl (c_theirs t a c (by omega) _ _) ?_
        rintro _ _ _ ⟨ax, cx, rfl, rfl, rfl⟩
        refine bg (fun w hs => ⟨trivial, trivial⟩) ?_
        refine sy_bg ?_
        refine sto rfl rfl rfl cn26 rfl rfl rfl rfl ?_
        refine bg (fun w hs => trivial) ?_
        refine tk rfl (PE.assign rfl) rfl ?_
        refine tk rfl (PE.assign rfl) rfl ?_
        refine sy_bg ?_
        refine sto rfl rfl rfl cn37 rfl rfl rfl rfl ?_
        refine bg (fun w hs => trivial) ?_
        refine sy_dn ?_
        exact sy_cutEnd ((bo, co, ax, cx), (bd, cd), (be, ce), b7, b10) (by repeat' first | exact Sub.nil | apply Sub.cons | rfl | (simp [lk]; omega)) (fun _ h => St.sub (((h.pull b3).pull b10).pull b7))
       exact sy_stop
      exact sy_stop
     ·
      rintro ⟨⟨bo, co, ax, cx⟩, ⟨bd, cd⟩, ⟨be, ce⟩, b7, b10⟩
      dsimp only
      refine sy_nx ?_
      refine sy_seq ?_
      refine sy_tx' [0, 1, 2] rfl ?_
      refine sy_sq ?_
      refine spL rfl rfl (lhA [_, _, _, _, _, _, _, _, _, _, _] ag37 rfl rfl rfl) rfl ?_
      refine sy_sq ?_
      refine clV rfl cal20 rfl rfl (c_rCheck t ax cx (by omega) _ _) ?_
      refine sy_sq ?_
      refine sp rfl (PE.assign rfl) rfl ?_
      refine sy_sn ?_
      refine sy_nx ?_
      refine sy_seq ?_
      refine sy_tx' [0] rfl ?_
      refine sy_sq ?_
      refine sp rfl (PE.assign rfl) rfl ?_
      refine sy_sn ?_
      refine sy_nx ?_
      refine sy_seq ?_
      refine sy_seq ?_
      refine sy_tx' [0, 1] rfl ?_
      refine sy_sq ?_
      refine sp rfl (PE.move rfl) rfl ?_
      refine sy_sq ?_
      refine sp rfl (PE.eql rfl rfl) rfl ?_
      refine sy_sn ?_
      refine sy_nx ?_
      refine sy_join (ι := Option Addr × Nat) (fun z => ⟨[(1, .slice a1 rs.length c1), (2, .slice a2 bs.length c2), (3, .pointer (some ⟨b3, 0, none⟩)), (7, .pointer (some ⟨b7, 0, none⟩)), (8, .slice (some ⟨bd, 0, none⟩) rs.length cd), (9, .slice (some ⟨be, 0, none⟩) bs.length ce), (10, .pointer (some ⟨b10, 0, none⟩)), (11, .int .i64 (playP t rs bs).2), (12, .slice z.1 (playP t rs bs).1.length z.2)], (b7, cel 26 (twl t (t.sl (some ⟨bo, 0, none⟩) co))) :: (b10, cel 37 (twl t (t.sl ax cx))) :: (b3, cel 26 (twl t (t.sl a c))) :: H, RowsA z.1 3 (srows (playP t rs bs).1) :: RowsA ax 2 (rrows t.rats) :: RowsA (some ⟨bo, 0, none⟩) 2 (rrows t.rats) :: RowsA (some ⟨bd, 0, none⟩) 1 (irows rs) :: RowsA (some ⟨be, 0, none⟩) 1 (brows bs) :: R⟩) ?_ ?_
      ·
       refine sy_cond rfl (fun hc1 => ?_) (fun hc1 => ?_)
       ·
        try simp only [decide_eq_true_eq, decide_eq_false_iff_not, Bool.and_eq_true, Bool.or_eq_true, Bool.not_eq_true', Int.not_le, Int.not_lt] at hc1
        have hck : t.check = 0 := hc1
        have hok := (ok_of_check hck).1
        refine sy_addr (a := ax) (sz := 2) (rows := rrows t.rats) (by have := hok.many; intro h0; simp [rrows] at h0; simp [h0] at this) (fun bx ox he => ?_)
        subst he
        refine sy_tx' [0, 1, 2, 3, 4, 5, 6, 7, 8] rfl ?_
        refine sy_sq ?_
        refine spL rfl rfl (lhA [_, _, _, _, _, _, _, _, _, _, _] ag37 rfl rfl rfl) rfl ?_
        refine sy_sq ?_
        refine sp rfl (PE.move rfl) rfl ?_
        refine sy_sq ?_
        refine sp rfl (PE.move rfl) rfl ?_
        refine sy_sq ?_
        refine cl rfl cal51 rfl rfl (c_rPlay t hck rs bs a1 a2 c1 c2 hl1 hl2 bx ox cx _ _) ?_
        rintro _ _ _ ⟨ap, cp, rfl, rfl, rfl⟩
        refine sy_sq ?_
        refine sp rfl (PE.move rfl) rfl ?_
        refine sy_sq ?_
        refine sp rfl (PE.extract rfl rfl) rfl ?_
        refine sy_sq ?_
        refine sp rfl (PE.extract rfl rfl) rfl ?_
        refine sy_sq ?_
        refine sp rfl (PE.assign rfl) rfl ?_
        refine sy_sq ?_
        refine sp rfl (PE.assign rfl) rfl ?_
        refine sy_sn ?_
        exact sy_jend (ap, cp) (by repeat' first | exact Sub.nil | apply Sub.cons | rfl | (simp [lk]; omega)) (fun _ h => h)
       ·
        try simp only [decide_eq_true_eq, decide_eq_false_iff_not, Bool.and_eq_true, Bool.or_eq_true, Bool.not_eq_true', Int.not_le, Int.not_lt] at hc1
        have hck : t.check ≠ 0 := hc1
        refine sy_skip ?_
        rw [show playP t rs bs = ([], t.check) from by simp [playP, hck]]
        exact sy_jend (none, 0) (by repeat' first | exact Sub.nil | apply Sub.cons | rfl | (simp [lk]; omega)) (fun _ h => St.norows3 h)
      ·
       rintro ⟨ap, cp⟩
       dsimp only
       refine sy_nx ?_
       refine sy_seq ?_
       refine sy_tx' [0, 1, 2, 3, 4, 5, 6, 7, 8] rfl ?_
       refine sy_sq ?_
       refine spL rfl rfl (lhA [_, _, _, _, _, _, _, _, _, _, _] ag26 rfl rfl rfl) rfl ?_
       refine sy_sq ?_
       refine sp rfl (PE.move rfl) rfl ?_
       refine sy_sq ?_
       refine sp rfl (PE.move rfl) rfl ?_
       refine sy_sq ?_
       refine cl rfl cal52 rfl rfl (c_Play t (by omega) rs bs (some ⟨bd, 0, none⟩) (some ⟨be, 0, none⟩) cd ce hl1 hl2 bo 0 co _ _) ?_
       rintro _ _ _ ⟨aq, cq, rfl, rfl, rfl⟩
       refine sy_sq ?_
       refine sp rfl (PE.move rfl) rfl ?_
       refine sy_sq ?_
       refine sp rfl (PE.extract rfl rfl) rfl ?_
       refine sy_sq ?_
       refine sp rfl (PE.extract rfl rfl) rfl ?_
       refine sy_sq ?_
       refine sp rfl (PE.assign rfl) rfl ?_
       refine sy_sq ?_
       refine sp rfl (PE.assign rfl) rfl ?_
       refine sy_sn ?_
       refine sy_nx ?_
       refine sy_seq ?_
       refine sy_seq ?_
       refine sy_tx' [0, 1, 2, 3, 4, 5, 6, 7, 8, 9] rfl ?_
       refine sy_sq ?_
       refine sp rfl (PE.move rfl) rfl ?_
       refine sy_sq ?_
       refine sp rfl (PE.move rfl) rfl ?_
       refine sy_sq ?_
       refine sp rfl (PE.neq rfl rfl) rfl ?_
       refine sy_sq ?_
       refine sp rfl (PE.move rfl) rfl ?_
       refine sy_sq ?_
       refine sy_case (t := 59) rfl (fun g59 => ?_) (fun g59 => ?_)
       ·
        exact absurd g59 (by first | (simp; done) | (simp_all; done))
       ·
        refine spG rfl rfl rfl rfl (PE.move rfl) rfl ?_
        refine sy_sq ?_
        refine spG rfl rfl rfl rfl (PE.lenSl isl85 rfl) rfl ?_
        refine sy_sq ?_
        refine spG rfl rfl rfl rfl (PE.move rfl) rfl ?_
        refine sy_sq ?_
        refine spG rfl rfl rfl rfl (PE.lenSl isl82 rfl) rfl ?_
        refine sy_sq ?_
        refine spG rfl rfl rfl rfl (PE.neq rfl rfl) rfl ?_
        refine sy_sq ?_
        refine sp rfl (PE.pick rfl rfl rfl) rfl ?_
        refine sy_sn ?_
        refine sy_nx ?_
        refine sy_cond rfl (fun hc2 => ?_) (fun hc2 => ?_)
        ·
         exact absurd hc2 (by simp)
        ·
         refine sy_skip ?_
         refine sy_nx ?_
         refine sy_seq ?_
         refine sy_seq ?_
         refine sy_tx' [0, 1, 2] rfl ?_
         refine sy_sq ?_
         refine sp rfl (PE.move rfl) rfl ?_
         refine sy_sq ?_
         refine sp rfl (PE.lenSl isl85 rfl) rfl ?_
         refine sy_sq ?_
         refine sp rfl (PE.move rfl) rfl ?_
         refine sy_sn ?_
         refine sy_nx ?_
         refine sy_block ?_
         refine sy_loop (ι := {k : Nat // k ≤ (playP t rs bs).1.length}) (fun k => ⟨[(1, .slice a1 rs.length c1), (2, .slice a2 bs.length c2), (3, .pointer (some ⟨b3, 0, none⟩)), (7, .pointer (some ⟨b7, 0, none⟩)), (8, .slice (some ⟨bd, 0, none⟩) rs.length cd), (9, .slice (some ⟨be, 0, none⟩) bs.length ce), (10, .pointer (some ⟨b10, 0, none⟩)), (12, .slice ap (playP t rs bs).1.length cp), (66, .slice aq (playP t rs bs).1.length cq), (67, .int .i64 (playP t rs bs).1.length), (68, .int .i64 k.1)], (b7, cel 26 (twl t (t.sl (some ⟨bo, 0, none⟩) co))) :: (b10, cel 37 (twl t (t.sl ax cx))) :: (b3, cel 26 (twl t (t.sl a c))) :: H, RowsA aq 3 (srows (playP t rs bs).1) :: RowsA ap 3 (srows (playP t rs bs).1) :: RowsA ax 2 (rrows t.rats) :: RowsA (some ⟨bo, 0, none⟩) 2 (rrows t.rats) :: RowsA (some ⟨bd, 0, none⟩) 1 (irows rs) :: RowsA (some ⟨be, 0, none⟩) 1 (brows bs) :: R⟩) (fun k => (playP t rs bs).1.length - k.1) ⟨0, by omega⟩ ?_ (fun k => ?_)
         ·
          exact sy_at (by repeat' first | exact Sub.nil | apply Sub.cons | rfl | (simp [lk]; omega)) (fun _ h => h)
         ·
          obtain ⟨k, hk⟩ := k
          dsimp only
          refine sy_seq ?_
          refine sy_tx' [0] rfl ?_
          refine sy_sq ?_
          refine sp rfl (PE.lss rfl rfl) rfl ?_
          refine sy_sn ?_
          refine sy_nx ?_
          refine sy_seq ?_
          refine sy_cond rfl (fun hc3 => ?_) (fun hc3 => ?_)
          ·
           try simp only [decide_eq_true_eq, decide_eq_false_iff_not, Bool.and_eq_true, Bool.or_eq_true, Bool.not_eq_true', Int.not_le, Int.not_lt] at hc3
           obtain ⟨s, hs⟩ : ∃ s, (playP t rs bs).1[k]? = some s := ⟨_, List.getElem?_eq_getElem (by omega)⟩
           refine sy_addr (a := aq) (sz := 3) (rows := srows (playP t rs bs).1) (by intro h0; simp [srows] at h0; simp [h0] at hs) (fun bq oq he => ?_)
           subst he
           refine sy_addr (a := ap) (sz := 3) (rows := srows (playP t rs bs).1) (by intro h0; simp [srows] at h0; simp [h0] at hs) (fun bp op he => ?_)
           subst he
           refine sy_skip ?_
           refine sy_nx ?_
           refine sy_seq ?_
           refine sy_block ?_
           refine sy_seq ?_
           refine sy_tx' [0, 1, 2, 3, 4, 5] rfl ?_
           refine sy_sq ?_
           refine sp rfl (PE.move rfl) rfl ?_
           refine sy_sq ?_
           refine sp rfl (PE.indexAddr el85 rfl rfl (by omega) (by omega)) rfl ?_
           refine sy_sq ?_
           refine spL rfl rfl (lfA (row := srow s) ag23 (sr_get hs) rfl) rfl ?_
           refine sy_sq ?_
           refine alc rfl zl23 rfl (fun b16 => ?_)
           refine sy_sq ?_
           refine sp rfl (PE.assign rfl) rfl ?_
           refine sy_sq ?_
           refine sto rfl rfl rfl cn23 rfl rfl rfl rfl ?_
           refine sy_sn ?_
           refine sy_nx ?_
           refine sy_seq ?_
           refine sy_draw [0, 0, 0, 6, 14, 31] (.ld 0 (.tk 1 (.tk 2 (.tk 3 (.ld 4 (.tk 5 .done)))))) mixed (by kernel_rfl) ?_
           refine ld rfl rfl (lhA [_, _, _] ag23 rfl rfl rfl) rfl ?_
           refine tk rfl (PE.move rfl) rfl ?_
           refine tk rfl (PE.move rfl) rfl ?_
           refine tk rfl (PE.indexAddr el82 rfl rfl (by omega) (by omega)) rfl ?_
           refine ld rfl rfl (lfA (row := srow s) ag34 (sr_get hs) rfl) rfl ?_
           refine tk rfl (PE.neqAgg [s.stock, s.short, s.dry] [s.stock, s.short, s.dry] (eqB_ok 10000 23 true 3 eqf23) eqg23 rfl rfl rfl rfl) rfl ?_
           refine sy_dn ?_
           refine sy_nx ?_
           refine sy_cond rfl (fun hc4 => ?_) (fun hc4 => ?_)
           ·
            exact absurd hc4 (by simp)
           ·
            refine sy_skip ?_
            refine sy_bn ?_
            refine sy_nx ?_
            refine sy_tx' [0, 1] rfl ?_
            refine sy_sq ?_
            refine sp rfl (PE.add rfl rfl (by omega)) rfl ?_
            refine sy_sq ?_
            refine sp rfl (PE.move rfl) rfl ?_
            refine sy_sn ?_
            refine sy_nx ?_
            exact sy_next ⟨k + 1, by omega⟩ (by dsimp only; omega) (by repeat' first | exact Sub.nil | apply Sub.cons | rfl | (simp [lk]; omega)) (fun w h => h.del b16)
          ·
           try simp only [decide_eq_true_eq, decide_eq_false_iff_not, Bool.and_eq_true, Bool.or_eq_true, Bool.not_eq_true', Int.not_le, Int.not_lt] at hc3
           
           refine sy_exit ?_
           refine sy_tx ?_
           refine sy_tx ?_
           refine sy_bx ?_
           refine sy_nx ?_
           refine sy_seq ?_
           refine sy_tx' [0, 1, 2, 3, 4, 5, 6, 7, 8, 9, 10, 11, 12, 13, 14, 15, 16] rfl ?_
           refine sy_sq ?_
           refine sp rfl (PE.move rfl) rfl ?_
           refine sy_sq ?_
           refine sp rfl (PE.move rfl) rfl ?_
           refine sy_sq ?_
           refine clV rfl cal38 rfl rfl (c_Eq_int rs rs (some ⟨bd, 0, none⟩) a1 cd c1 hl1 hl1 _ _) ?_
           refine sy_sq ?_
           refine sp rfl (PE.move rfl) rfl ?_
           refine sy_sq ?_
           refine sy_case (t := 83) rfl (fun g83 => ?_) (fun g83 => ?_)
           ·
            refine spG rfl rfl rfl rfl (PE.move rfl) rfl ?_
            refine sy_sq ?_
            refine spG rfl rfl rfl rfl (PE.move rfl) rfl ?_
            refine sy_sq ?_
            refine clVG rfl rfl rfl rfl cal53 rfl rfl (c_Eq_bool bs bs (some ⟨be, 0, none⟩) a2 ce c2 hl2 hl2 _ _) ?_
            refine sy_sq ?_
            refine sp rfl (PE.pick rfl rfl rfl) rfl ?_
            refine sy_sq ?_
            refine sp rfl (PE.move rfl) rfl ?_
            refine sy_sq ?_
            refine sy_case (t := 88) rfl (fun g88 => ?_) (fun g88 => ?_)
            ·
             refine spLG rfl rfl rfl rfl rfl (lhA [_, _, _, _, _, _, _, _, _, _, _] ag26 rfl rfl rfl) rfl ?_
             refine sy_sq ?_
             refine spLG rfl rfl rfl rfl rfl (lhA [_, _, _, _, _, _, _, _, _, _, _] ag26 rfl rfl rfl) rfl ?_
             refine sy_sq ?_
             refine clVG rfl rfl rfl rfl cal28 rfl rfl (c_same t t _ a co c (by omega) (by omega) _ _) ?_
             refine sy_sq ?_
             refine sp rfl (PE.pick rfl rfl rfl) rfl ?_
             refine sy_sq ?_
             refine sp rfl (PE.move rfl) rfl ?_
             refine sy_sq ?_
             refine sy_case (t := 93) rfl (fun g93 => ?_) (fun g93 => ?_)
             ·
              refine clVG rfl rfl rfl rfl cal16 rfl rfl (c_awake _ _) ?_
              refine sy_sq ?_
              refine sp rfl (PE.pick rfl rfl rfl) rfl ?_
              refine sy_sq ?_
              refine sp rfl (PE.assign rfl) rfl ?_
              refine sy_sn ?_
              refine sy_nx ?_
              refine sy_ret ?_
              exact sy_return (vs := [_]) rfl (.cons (RV.tmp rfl) .nil) rfl ⟨rfl, rfl, rfl⟩ (fun _ h => by repeat first | exact h | replace h := St.tail h | replace h := St.ftail h | replace h := St.drop h)
             ·
              exact absurd g93 (by first | (simp; done) | (simp_all; done))
            ·
             exact absurd g88 (by first | (simp; done) | (simp_all; done))
           ·
            exact absurd g83 (by first | (simp; done) | (simp_all; done))
end Go.Proofs.Ytaldphhdkmchhaa
