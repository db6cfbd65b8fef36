/- Walks of the functions of the program: what each returns and leaves in memory, under the conditions that its theorem names. -/
import Derived.Test.YtaldphhdkmchhaaTy
import Derived.Test.YtaldphhdkmchhaaMa
import Derived.Test.YtaldphhdkmchhaaWk8
namespace Go.Proofs.Ytaldphhdkmchhaa
set_option linter.unusedSimpArgs false
set_option linter.unusedVariables false
open Go
theorem ag33 : aggN Try.prog 33 = some 5 := by kernel_rfl
theorem cal93 : cal Try.prog 93 = true := by kernel_rfl
theorem cn33 : cellN Try.prog 33 = some 5 := by kernel_rfl
theorem el27 : elN Try.prog 27 = some 5 := by kernel_rfl
theorem fo33_0 : fOff Try.prog 33 0 = some 0 := by kernel_rfl
theorem fo33_1 : fOff Try.prog 33 1 = some 3 := by kernel_rfl
theorem fo33_2 : fOff Try.prog 33 2 = some 4 := by kernel_rfl
theorem isl27 : isSl Try.prog 27 = true := by kernel_rfl
theorem c_Feeds (t : Twn) (hl : t.rats.length ≤ 9223372036854775807) (tb : List Rw) (a : Option Addr) (c : Nat) (hl2 : tb.length ≤ 9223372036854775807) (ba oa ca : Nat) (H : Heap) (R : Facts) [hR : MemRows (some ⟨ba, oa, none⟩) 2 (rrows t.rats) R] [hR2 : MemRows a 5 (trows tb) R] :
    FnV Try.prog 25 [t.v (t.sl (some ⟨ba, oa, none⟩) ca), .slice a tb.length c] H R (.tuple #[.int .i64 (feedR t tb).1, .int .i64 (feedR t tb).2]) := by
  refine fnM_of Try.func25 rfl Try.ntmps25 rfl ?_
  refine sy_seq ?_
  refine sy_tx' [0, 1, 2] rfl ?_
  refine sy_sq ?_
  refine bx rfl rfl rfl (fun b2 => ?_)
  refine sy_sq ?_
  refine sp rfl (PE.assign rfl) rfl ?_
  refine sy_sq ?_
  refine sp rfl (PE.assign rfl) rfl ?_
  refine sy_sn ?_
  refine sy_nx ?_
  refine sy_scope ?_
  refine sy_seq ?_
  refine sy_tx' [0, 1, 2, 3, 4, 5, 6, 7] rfl ?_
  refine sy_sq ?_
  refine spL rfl rfl (lhA [_, _, _, _, _, _, _, _, _, _, _] ag26 rfl rfl rfl) rfl ?_
  refine sy_sq ?_
  refine cl rfl cal89 rfl rfl (c_opened t hl ba oa ca _ _) ?_
  rintro _ _ _ (⟨hck, rfl, rfl, rfl⟩ | ⟨hck, bw, m, bt, rfl, rfl, rfl⟩)
  ·
   refine sy_sq ?_
   refine sp rfl (PE.move rfl) rfl ?_
   refine sy_sq ?_
   refine sp rfl (PE.extract rfl rfl) rfl ?_
   refine sy_sq ?_
   refine sp rfl (PE.extract rfl rfl) rfl ?_
   refine sy_sq ?_
   refine alc rfl zl138 rfl (fun b6 => ?_)
   refine sy_sq ?_
   refine sto rfl rfl rfl cn138 rfl rfl rfl rfl ?_
   refine sy_sq ?_
   refine sp rfl (PE.assign rfl) rfl ?_
   refine sy_sn ?_
   refine sy_nx ?_
   refine sy_seq ?_
   refine sy_block ?_
   refine sy_seq ?_
   refine sy_tx' [0, 1, 2] rfl ?_
   refine sy_sq ?_
   refine sp rfl (PE.move rfl) rfl ?_
   refine sy_sq ?_
   refine sp rfl (PE.neq rfl rfl) rfl ?_
   refine sy_sq ?_
   refine sp rfl (PE.assign rfl) rfl ?_
   refine sy_sn ?_
   refine sy_nx ?_
   refine sy_condT (congrArg (fun b => some (Value.bool b)) (decide_eq_true hck)) ?_
   refine sy_seq ?_
   refine sy_tx' [0, 1, 2] rfl ?_
   refine sy_sq ?_
   refine sp rfl (PE.move rfl) rfl ?_
   refine sy_sq ?_
   refine sp rfl (PE.assign rfl) rfl ?_
   refine sy_sq ?_
   refine sp rfl (PE.assign rfl) rfl ?_
   refine sy_sn ?_
   refine sy_nx ?_
   refine sy_ret ?_
   refine sy_br ?_
   refine sy_tr ?_
   refine sy_scr ?_
   have hres : feedR t tb = (0, t.check) := by simp [feedR, hck]
   exact sy_returnM [] (vs := [_, _]) (v := .tuple #[.int .i64 (feedR t tb).1, .int .i64 (feedR t tb).2]) (fun _ h => h) rfl (.cons (RV.tmp rfl) (.cons (RV.tmp rfl) .nil)) (by rw [hres]; rfl) ⟨rfl, rfl, rfl⟩ (fun _ h => by repeat first | exact h | replace h := St.tail h | replace h := St.ftail h | replace h := St.drop h)
  ·
   refine sy_sq ?_
   have ht := (ok_of_check hck).1
   have t1 := ht.holds
   have t2 := ht.patience
   have t3 := ht.run
   refine sp rfl (PE.move rfl) rfl ?_
   refine sy_sq ?_
   refine sp rfl (PE.extract rfl rfl) rfl ?_
   refine sy_sq ?_
   refine sp rfl (PE.extract rfl rfl) rfl ?_
   refine sy_sq ?_
   refine alc rfl zl138 rfl (fun b6 => ?_)
   refine sy_sq ?_
   refine sto rfl rfl rfl cn138 rfl rfl rfl rfl ?_
   refine sy_sq ?_
   refine sp rfl (PE.assign rfl) rfl ?_
   refine sy_sn ?_
   refine sy_nx ?_
   refine sy_seq ?_
   refine sy_block ?_
   refine sy_seq ?_
   refine sy_tx' [0, 1, 2] rfl ?_
   refine sy_sq ?_
   refine sp rfl (PE.move rfl) rfl ?_
   refine sy_sq ?_
   refine sp rfl (PE.neq rfl rfl) rfl ?_
   refine sy_sq ?_
   refine sp rfl (PE.assign rfl) rfl ?_
   refine sy_sn ?_
   refine sy_nx ?_
   refine sy_condF (rfl) ?_
   refine sy_seq ?_
   refine sy_tx' [0, 1, 2, 3] rfl ?_
   refine sy_sq ?_
   refine sp rfl (PE.move rfl) rfl ?_
   refine sy_sq ?_
   refine sp rfl (PE.lenSl isl27 rfl) rfl ?_
   refine sy_sq ?_
   refine sp rfl (PE.gtr rfl rfl) rfl ?_
   refine sy_sq ?_
   refine sp rfl (PE.assign rfl) rfl ?_
   refine sy_sn ?_
   refine sy_nx ?_
   refine sy_cond rfl (fun hc1 => ?_) (fun hc1 => ?_)
   ·
    have hlen : 496 < tb.length := by simp only [decide_eq_true_eq] at hc1; omega
    have hres : feedR t tb = (0, 2) := by simp [feedR, hck, hlen]
    refine sy_seq ?_
    refine sy_tx' [0, 1] rfl ?_
    refine sy_sq ?_
    refine sp rfl (PE.assign rfl) rfl ?_
    refine sy_sq ?_
    refine sp rfl (PE.assign rfl) rfl ?_
    refine sy_sn ?_
    refine sy_nx ?_
    refine sy_ret ?_
    refine sy_br ?_
    refine sy_tr ?_
    refine sy_scr ?_
    first
      | exact sy_returnM [] (vs := [_, _]) (v := .tuple #[.int .i64 (feedR t tb).1, .int .i64 (feedR t tb).2]) (fun _ h => h) rfl (.cons (RV.tmp rfl) (.cons (RV.tmp rfl) .nil)) (by rw [hres]; rfl) ⟨rfl, rfl, rfl⟩ (fun _ h => by repeat first | exact h | replace h := St.tail h | replace h := St.ftail h | replace h := St.drop h)
      | exact sy_returnM [bd0] (vs := [_, _]) (v := .tuple #[.int .i64 (feedR t tb).1, .int .i64 (feedR t tb).2]) (fun _ h => h.pull bd0) rfl (.cons (RV.tmp rfl) (.cons (RV.tmp rfl) .nil)) (by rw [hres]; rfl) ⟨rfl, rfl, rfl⟩ (fun _ h => by repeat first | exact h | replace h := St.tail h | replace h := St.ftail h | replace h := St.drop h)
   ·
    have hlen : tb.length ≤ 496 := by simp only [decide_eq_false_iff_not] at hc1; omega
    refine sy_skip ?_
    refine sy_bn ?_
    refine sy_nx ?_
    refine sy_seq ?_
    refine sy_seq ?_
    refine sy_tx' [0, 1] rfl ?_
    refine sy_sq ?_
    refine spL rfl rfl (lhA [_, _, _, _, _, _, _, _, _, _, _] ag26 rfl rfl rfl) rfl ?_
    refine sy_sq ?_
    refine cl rfl cal90 rfl rfl (c_states t (t.sl (some ⟨ba, oa, none⟩) ca) _ _) ?_
    rintro _ _ _ ⟨b31, rfl, rfl, rfl⟩
    refine sy_sn ?_
    refine sy_nx ?_
    refine sy_block ?_
    refine sy_range rfl cal127 (fun c0 bl0 bd0 hcp0 hca0 hcb0 hck0 => ?_)
    refine ⟨fun st pend T R' => st = .ready ∧ pend = none ∧ T = (bd0, .deferred (some [])) :: (b6, cel 138 [.pointer (some ⟨bw, 0, none⟩)]) :: (bw, cel 153 (rcs t (t.sl (some ⟨ba, oa, none⟩) ca) bt (nevY t) (.slice none 0 0) m)) :: (m, mapO true []) :: (b2, cel 26 (twl t (t.sl (some ⟨ba, oa, none⟩) ca))) :: H ∧ R' = RowsA (some ⟨b31, 0, none⟩) 11 [twl t (t.sl (some ⟨ba, oa, none⟩) ca)] :: RowsA (some ⟨bt, 0, none⟩) 11 [twl t (t.sl (some ⟨ba, oa, none⟩) ca)] :: R,
      Fn.mono (c_states1 t ht (t.sl (some ⟨ba, oa, none⟩) ca) b31 bl0 (fun k H' R' => H' = (bl0, lob c0 .ready none) :: (bd0, .deferred (some [])) :: (b6, cel 138 [.pointer (some ⟨bw, 0, none⟩)]) :: (bw, cel 153 (rcs t (t.sl (some ⟨ba, oa, none⟩) ca) bt (((sts t).take k).foldl (fun y s => y.set s.ix (-1)) (List.replicate 496 (0 : Int))) (.slice none 0 0) m)) :: (m, mapO true []) :: (b2, cel 26 (twl t (t.sl (some ⟨ba, oa, none⟩) ca))) :: H ∧ R' = RowsA (some ⟨b31, 0, none⟩) 11 [twl t (t.sl (some ⟨ba, oa, none⟩) ca)] :: RowsA (some ⟨bt, 0, none⟩) 11 [twl t (t.sl (some ⟨ba, oa, none⟩) ca)] :: R) (fun _ _ => False)
        (fun k H' R' h => by rw [h.2]; simp) (fun k s H' R' hk hI => ?_) _ _ ⟨rfl, rfl⟩) (fun v H' R' h => ?_), ?_⟩
    rotate_left
    · rcases h with ⟨rfl, rfl⟩ | h
      · rw [List.take_of_length_le (by rw [sts_len]; exact Nat.le_refl _)]
        exact ⟨.ready, none, _, by simp, .refl _, rfl, rfl, rfl, rfl⟩
      · exact h.elim
    rotate_left
    ·
     obtain ⟨rfl, rfl⟩ := hI
     have hs := sts_right ht (List.mem_of_getElem? hk)
     have hix := ix_lt ht hs
     have q1 := right_iff.1 hs
     have e : ((sts t).take (k + 1)).foldl (fun y s => y.set s.ix (-1)) (List.replicate 496 (0 : Int)) = (((sts t).take k).foldl (fun y s => y.set s.ix (-1)) (List.replicate 496 (0 : Int))).set s.ix (-1) := by rw [List.take_add_one, hk, Option.toList_some, List.foldl_append]; rfl
     rw [e]
     have hyl : (((sts t).take k).foldl (fun y s => y.set s.ix (-1)) (List.replicate 496 (0 : Int))).length = 496 := by rw [setY_len, List.length_replicate]
     generalize ((sts t).take k).foldl (fun y s => y.set s.ix (-1)) (List.replicate 496 (0 : Int)) = y at *
     refine yd_of hcp0 hca0 hcb0 hck0 rfl ?_
     refine sy_tx' [0, 1] rfl ?_
     refine sy_sq ?_
     refine alc rfl zl23 rfl (fun b8 => ?_)
     refine sy_sq ?_
     refine sto rfl rfl rfl cn23 rfl rfl rfl rfl ?_
     refine sy_sn ?_
     refine sy_beginRound ?_
     refine sy_block ?_
     refine sy_draw [0, 0, 2, 0, 8, 0, 32, 1, 129, 391, 927, 2047, 4095] (.ld 0 (.tk 1 (.ld 2 (.tk 3 (.ld 4 (.tk 5 (.ld 6 (.tk 7 (.tk 8 (.tk 9 (.tk 10 (.tk 11 (.big 12 .done))))))))))))) mixed (by kernel_rfl) ?_
     refine ld rfl rfl (lh sc138 rfl rfl) rfl ?_
     refine tk rfl (PE.fieldAddr fo23_0 rfl) rfl ?_
     refine ld rfl rfl (lh sc3 rfl rfl) rfl ?_
     refine tk rfl (PE.fieldAddr fo23_1 rfl) rfl ?_
     refine ld rfl rfl (lh sc3 rfl rfl) rfl ?_
     refine tk rfl (PE.fieldAddr fo23_2 rfl) rfl ?_
     refine ld rfl rfl (lh sc3 rfl rfl) rfl ?_
     refine tk rfl (PE.nilCheck rfl) rfl ?_
     refine tk rfl (PE.fieldAddr fo153_2 rfl) rfl ?_
     refine tk rfl (PE.indexArr ar150 rfl rfl (by omega) (by omega)) rfl ?_
     refine tk rfl (PE.indexArr ar145 rfl rfl (by omega) (by omega)) rfl ?_
     refine tk rfl (PE.indexArr ar144 rfl rfl (by omega) (by omega)) rfl ?_
     refine sy_bg ?_
     refine stoE rfl rfl rfl cn3 rfl rfl rfl (rc_put (-1) (i := s.ix) (by omega) (by unfold Sta.ix; omega)) (by rw [rc_len hyl]; show _ + 1 ≤ 510; omega) ?_
     refine bg (fun w hs => ⟨trivial, trivial, trivial, trivial, trivial⟩) ?_
     refine sy_dn ?_
     refine sy_bn ?_
     exact sy_roundOn (.inl ⟨rfl, rfl, rfl⟩) (fun _ h => by repeat first | exact h | replace h := St.tail h | replace h := St.ftail h | replace h := St.drop h)
    ·
     rintro _ _ _ _ ⟨rfl, rfl, rfl, rfl⟩
     refine sy_jn ?_
     refine sy_bn ?_
     refine sy_nx ?_
     refine sy_seq ?_
     refine sy_tx' [0] rfl ?_
     refine sy_sq ?_
     refine sp rfl (PE.assign rfl) rfl ?_
     refine sy_sn ?_
     refine sy_nx ?_
     refine sy_seq ?_
     refine sy_seq ?_
     refine sy_tx' [0, 1, 2] rfl ?_
     refine sy_sq ?_
     refine sp rfl (PE.move rfl) rfl ?_
     refine sy_sq ?_
     refine sp rfl (PE.lenSl isl27 rfl) rfl ?_
     refine sy_sq ?_
     refine sp rfl (PE.move rfl) rfl ?_
     refine sy_sn ?_
     refine sy_nx ?_
     refine sy_block ?_
     have hny : (nevY t).length = 496 := by rw [nevY, setY_len, List.length_replicate]
     refine sy_loop (ι := {x : Nat × Bool × List Int // x.1 ≤ tb.length ∧ x.2.2.length = 496 ∧ feedScan t tb false (nevY t) = feedScan t (tb.drop x.1) x.2.1 x.2.2}) (fun x => ⟨[(1, .slice a tb.length c), (2, .pointer (some ⟨b2, 0, none⟩)), (6, .pointer (some ⟨b6, 0, none⟩)), (9, .bool x.1.2.1), (45, .slice a tb.length c), (46, .int .i64 tb.length), (47, .int .i64 x.1.1)], (bd0, .deferred (some [])) :: (b6, cel 138 [.pointer (some ⟨bw, 0, none⟩)]) :: (bw, cel 153 (rcs t (t.sl (some ⟨ba, oa, none⟩) ca) bt (x.1.2.2) (.slice none 0 0) m)) :: (m, mapO true []) :: (b2, cel 26 (twl t (t.sl (some ⟨ba, oa, none⟩) ca))) :: H, RowsA (some ⟨b31, 0, none⟩) 11 [twl t (t.sl (some ⟨ba, oa, none⟩) ca)] :: RowsA (some ⟨bt, 0, none⟩) 11 [twl t (t.sl (some ⟨ba, oa, none⟩) ca)] :: R⟩) (fun x => tb.length - x.1.1) ⟨(0, false, nevY t), by omega, hny, rfl⟩ ?_ (fun x => ?_)
     ·
      exact sy_at (by repeat' first | exact Sub.nil | apply Sub.cons | rfl | (simp [lk]; omega)) (fun _ h => h)
     ·
      obtain ⟨⟨k, tw, y⟩, hk, hyl, hsc⟩ := x
      dsimp only at hk hyl hsc ⊢
      refine sy_seq ?_
      refine sy_tx' [0] rfl ?_
      refine sy_sq ?_
      refine sp rfl (PE.lss rfl rfl) rfl ?_
      refine sy_sn ?_
      refine sy_nx ?_
      refine sy_seq ?_
      refine sy_cond rfl (fun hc2 => ?_) (fun hc2 => ?_)
      ·
       simp only [decide_eq_true_eq, decide_eq_false_iff_not, Bool.and_eq_true, Bool.or_eq_true, Bool.not_eq_true', Int.not_le, Int.not_lt] at hc2
       obtain ⟨x, hx⟩ : ∃ x, tb[k]? = some x := ⟨_, List.getElem?_eq_getElem (by omega)⟩
       rw [drop_get hx] at hsc
       refine sy_addr (a := a) (sz := 5) (rows := trows tb) (by intro h0; simp [trows] at h0; simp [h0] at hx) (fun bx ox he => ?_)
       subst he
       refine sy_skip ?_
       refine sy_nx ?_
       refine sy_seq ?_
       refine sy_block ?_
       refine sy_seq ?_
       refine sy_tx' [0, 1, 2, 3] rfl ?_
       refine sy_sq ?_
       refine sp rfl (PE.indexAddr el27 rfl rfl (by omega) (by omega)) rfl ?_
       refine sy_sq ?_
       refine spL rfl rfl (lfA ag33 (row := trow x) (by simp [trows, hx]) rfl) rfl ?_
       refine sy_sq ?_
       refine alc rfl zl33 rfl (fun b11 => ?_)
       refine sy_sq ?_
       refine sto rfl rfl rfl cn33 rfl rfl rfl rfl ?_
       refine sy_sn ?_
       refine sy_nx ?_
       refine sy_seq ?_
       refine sy_tx' [0, 1, 2, 3] rfl ?_
       refine sy_sq ?_
       refine sp rfl (PE.fieldAddr fo33_0 rfl) rfl ?_
       refine sy_sq ?_
       refine spL rfl rfl (lhA [_, _, _] ag23 rfl rfl rfl) rfl ?_
       refine sy_sq ?_
       refine alc rfl zl23 rfl (fun b12 => ?_)
       refine sy_sq ?_
       refine sto rfl rfl rfl cn23 rfl rfl rfl rfl ?_
       refine sy_sn ?_
       refine sy_nx ?_
       refine sy_block ?_
       refine sy_seq ?_
       refine sy_tx' [0, 1, 2, 3, 4, 5, 6, 7, 8, 9, 10] rfl ?_
       refine sy_sq ?_
       refine spL rfl rfl (lhA [_, _, _, _, _, _, _, _, _, _, _] ag26 rfl rfl rfl) rfl ?_
       refine sy_sq ?_
       refine spL rfl rfl (lhA [_, _, _] ag23 rfl rfl rfl) rfl ?_
       refine sy_sq ?_
       refine clV rfl cal91 rfl rfl (c_right t x.st _ _ _) ?_
       refine sy_sq ?_
       refine sp rfl (PE.not rfl) rfl ?_
       refine sy_sq ?_
       refine sp rfl (PE.move rfl) rfl ?_
       refine sy_sq ?_
       refine sy_case (t := 81) rfl (fun g81 => ?_) (fun g81 => ?_)
       ·
        have hr : x.st.right t = false := by rw [← Bool.not_eq_true']; exact g81
        have hres : feedR t tb = (0, 3) := feedR_err hck hlen (by rw [hsc]; unfold feedScan; rw [hr]; rfl)
        refine spN rfl rfl rfl rfl rfl rfl rfl rfl ?_
        refine sy_sq ?_
        refine spN rfl rfl rfl rfl rfl rfl rfl rfl ?_
        refine sy_sq ?_
        refine spN rfl rfl rfl rfl rfl rfl rfl rfl ?_
        refine sy_sq ?_
        refine spN rfl rfl rfl rfl rfl rfl rfl rfl ?_
        refine sy_sq ?_
        refine sp rfl (PE.pick rfl rfl rfl) rfl ?_
        refine sy_sq ?_
        refine sp rfl (PE.assign rfl) rfl ?_
        refine sy_sn ?_
        refine sy_nx ?_
        refine sy_condT rfl ?_
        refine sy_seq ?_
        refine sy_tx' [0, 1] rfl ?_
        refine sy_sq ?_
        refine sp rfl (PE.assign rfl) rfl ?_
        refine sy_sq ?_
        refine sp rfl (PE.assign rfl) rfl ?_
        refine sy_sn ?_
        refine sy_nx ?_
        refine sy_ret ?_
        refine sy_br ?_
        refine sy_br ?_
        refine sy_tr ?_
        refine sy_tr ?_
        refine sy_br ?_
        refine sy_tr ?_
        refine sy_scr ?_
        first
          | exact sy_returnM [] (vs := [_, _]) (v := .tuple #[.int .i64 (feedR t tb).1, .int .i64 (feedR t tb).2]) (fun _ h => h) rfl (.cons (RV.tmp rfl) (.cons (RV.tmp rfl) .nil)) (by rw [hres]; rfl) ⟨rfl, rfl, rfl⟩ (fun _ h => by repeat first | exact h | replace h := St.tail h | replace h := St.ftail h | replace h := St.drop h)
          | exact sy_returnM [bd0] (vs := [_, _]) (v := .tuple #[.int .i64 (feedR t tb).1, .int .i64 (feedR t tb).2]) (fun _ h => h.pull bd0) rfl (.cons (RV.tmp rfl) (.cons (RV.tmp rfl) .nil)) (by rw [hres]; rfl) ⟨rfl, rfl, rfl⟩ (fun _ h => by repeat first | exact h | replace h := St.tail h | replace h := St.ftail h | replace h := St.drop h)
       ·
        have hr : x.st.right t = true := by rw [← Bool.not_eq_false']; exact g81
        have hix := ix_lt ht hr
        have q1 := right_iff.1 hr
        refine spG rfl rfl rfl rfl (PE.fieldAddr fo33_1 rfl) rfl ?_
        refine sy_sq ?_
        refine spLG rfl rfl rfl rfl rfl (lh sc3 rfl rfl) rfl ?_
        refine sy_sq ?_
        refine clVG rfl rfl rfl rfl cal92 rfl rfl (c_in _ _ _ _ _) ?_
        refine sy_sq ?_
        refine spG rfl rfl rfl rfl (PE.not rfl) rfl ?_
        refine sy_sq ?_
        refine sp rfl (PE.pick rfl rfl rfl) rfl ?_
        refine sy_sq ?_
        refine sp rfl (PE.assign rfl) rfl ?_
        refine sy_sn ?_
        refine sy_nx ?_
        refine sy_cond rfl (fun hc3 => ?_) (fun hc3 => ?_)
        ·
         have hib : inb x.lasts 0 1000000 = false := by rw [← Bool.not_eq_true']; exact hc3
         have hres : feedR t tb = (0, 3) := feedR_err hck hlen (by rw [hsc]; unfold feedScan; rw [hr, hib]; rfl)
         refine sy_seq ?_
         refine sy_tx' [0, 1] rfl ?_
         refine sy_sq ?_
         refine sp rfl (PE.assign rfl) rfl ?_
         refine sy_sq ?_
         refine sp rfl (PE.assign rfl) rfl ?_
         refine sy_sn ?_
         refine sy_nx ?_
         refine sy_ret ?_
         refine sy_br ?_
         refine sy_br ?_
         refine sy_tr ?_
         refine sy_tr ?_
         refine sy_br ?_
         refine sy_tr ?_
         refine sy_scr ?_
         first
           | exact sy_returnM [] (vs := [_, _]) (v := .tuple #[.int .i64 (feedR t tb).1, .int .i64 (feedR t tb).2]) (fun _ h => h) rfl (.cons (RV.tmp rfl) (.cons (RV.tmp rfl) .nil)) (by rw [hres]; rfl) ⟨rfl, rfl, rfl⟩ (fun _ h => by repeat first | exact h | replace h := St.tail h | replace h := St.ftail h | replace h := St.drop h)
           | exact sy_returnM [bd0] (vs := [_, _]) (v := .tuple #[.int .i64 (feedR t tb).1, .int .i64 (feedR t tb).2]) (fun _ h => h.pull bd0) rfl (.cons (RV.tmp rfl) (.cons (RV.tmp rfl) .nil)) (by rw [hres]; rfl) ⟨rfl, rfl, rfl⟩ (fun _ h => by repeat first | exact h | replace h := St.tail h | replace h := St.ftail h | replace h := St.drop h)
        ·
         have hib : inb x.lasts 0 1000000 = true := by rw [← Bool.not_eq_false']; exact hc3
         refine sy_seq ?_
         refine sy_tx' [0, 1, 2, 3, 4, 5] rfl ?_
         refine sy_sq ?_
         refine spL rfl rfl (lhA [_, _, _, _, _, _, _, _, _, _, _] ag26 rfl rfl rfl) rfl ?_
         refine sy_sq ?_
         refine sp rfl (PE.fieldAddr fo33_2 rfl) rfl ?_
         refine sy_sq ?_
         refine spL rfl rfl (lh sc3 rfl rfl) rfl ?_
         refine sy_sq ?_
         refine clV rfl cal93 rfl rfl (c_ration t x.ration _ _ hl _ _) ?_
         refine sy_sq ?_
         refine sp rfl (PE.not rfl) rfl ?_
         refine sy_sq ?_
         refine sp rfl (PE.assign rfl) rfl ?_
         refine sy_sn ?_
         refine sy_nx ?_
         refine sy_cond rfl (fun hc4 => ?_) (fun hc4 => ?_)
         ·
          have hnr := rat_none (t := t) (r := x.ration) (by rw [← Bool.not_eq_true']; exact hc4)
          have hres : feedR t tb = (0, 1) := feedR_err hck hlen (by rw [hsc]; unfold feedScan; rw [hr, hib, hnr]; rfl)
          refine sy_seq ?_
          refine sy_tx' [0, 1] rfl ?_
          refine sy_sq ?_
          refine sp rfl (PE.assign rfl) rfl ?_
          refine sy_sq ?_
          refine sp rfl (PE.assign rfl) rfl ?_
          refine sy_sn ?_
          refine sy_nx ?_
          refine sy_ret ?_
          refine sy_br ?_
          refine sy_br ?_
          refine sy_tr ?_
          refine sy_tr ?_
          refine sy_br ?_
          refine sy_tr ?_
          refine sy_scr ?_
          first
            | exact sy_returnM [] (vs := [_, _]) (v := .tuple #[.int .i64 (feedR t tb).1, .int .i64 (feedR t tb).2]) (fun _ h => h) rfl (.cons (RV.tmp rfl) (.cons (RV.tmp rfl) .nil)) (by rw [hres]; rfl) ⟨rfl, rfl, rfl⟩ (fun _ h => by repeat first | exact h | replace h := St.tail h | replace h := St.ftail h | replace h := St.drop h)
            | exact sy_returnM [bd0] (vs := [_, _]) (v := .tuple #[.int .i64 (feedR t tb).1, .int .i64 (feedR t tb).2]) (fun _ h => h.pull bd0) rfl (.cons (RV.tmp rfl) (.cons (RV.tmp rfl) .nil)) (by rw [hres]; rfl) ⟨rfl, rfl, rfl⟩ (fun _ h => by repeat first | exact h | replace h := St.tail h | replace h := St.ftail h | replace h := St.drop h)
         ·
          obtain ⟨hr0, q, hq⟩ := rat_in (t := t) (r := x.ration) (by rw [← Bool.not_eq_false']; exact hc4)
          have hrq := rat_some hr0 hq
          refine sy_seq ?_
          refine sy_tx' [0, 1, 2, 3, 4, 5, 6] rfl ?_
          refine sy_sq ?_
          refine spL rfl rfl (lhA [_, _, _, _, _, _, _, _, _, _, _] ag26 rfl rfl rfl) rfl ?_
          refine sy_sq ?_
          refine spL rfl rfl (lhA [_, _, _] ag23 rfl rfl rfl) rfl ?_
          refine sy_sq ?_
          refine sp rfl (PE.fieldAddr fo33_2 rfl) rfl ?_
          refine sy_sq ?_
          refine spL rfl rfl (lh sc3 rfl rfl) rfl ?_
          refine sy_sq ?_
          refine clV rfl cal94 rfl rfl (c_allowed t x.st x.ration q ba oa ca hr0 hq _ _) ?_
          refine sy_sq ?_
          refine sp rfl (PE.not rfl) rfl ?_
          refine sy_sq ?_
          refine sp rfl (PE.assign rfl) rfl ?_
          refine sy_sn ?_
          refine sy_nx ?_
          refine sy_cond rfl (fun hc5 => ?_) (fun hc5 => ?_)
          ·
           have hcan : t.can x.st q = false := by rw [← Bool.not_eq_true']; exact hc5
           have hres : feedR t tb = (0, 9) := feedR_err hck hlen (by rw [hsc]; unfold feedScan; rw [hr, hib, hrq]; simp [hcan])
           refine sy_seq ?_
           refine sy_tx' [0, 1] rfl ?_
           refine sy_sq ?_
           refine sp rfl (PE.assign rfl) rfl ?_
           refine sy_sq ?_
           refine sp rfl (PE.assign rfl) rfl ?_
           refine sy_sn ?_
           refine sy_nx ?_
           refine sy_ret ?_
           refine sy_br ?_
           refine sy_br ?_
           refine sy_tr ?_
           refine sy_tr ?_
           refine sy_br ?_
           refine sy_tr ?_
           refine sy_scr ?_
           first
             | exact sy_returnM [] (vs := [_, _]) (v := .tuple #[.int .i64 (feedR t tb).1, .int .i64 (feedR t tb).2]) (fun _ h => h) rfl (.cons (RV.tmp rfl) (.cons (RV.tmp rfl) .nil)) (by rw [hres]; rfl) ⟨rfl, rfl, rfl⟩ (fun _ h => by repeat first | exact h | replace h := St.tail h | replace h := St.ftail h | replace h := St.drop h)
             | exact sy_returnM [bd0] (vs := [_, _]) (v := .tuple #[.int .i64 (feedR t tb).1, .int .i64 (feedR t tb).2]) (fun _ h => h.pull bd0) rfl (.cons (RV.tmp rfl) (.cons (RV.tmp rfl) .nil)) (by rw [hres]; rfl) ⟨rfl, rfl, rfl⟩ (fun _ h => by repeat first | exact h | replace h := St.tail h | replace h := St.ftail h | replace h := St.drop h)
          ·
           have hcan : t.can x.st q = true := by rw [← Bool.not_eq_false']; exact hc5
           refine sy_seq ?_
           refine sy_draw [0, 1, 3, 7, 15, 3, 63, 127, 255, 511] (.tk 0 (.tk 1 (.ld 2 (.tk 3 (.tk 4 (.ld 5 (.big 6 (.tk 7 (.tk 8 (.tk 9 .done)))))))))) mixed (by kernel_rfl) ?_
           refine tk rfl (PE.move rfl) rfl ?_
           refine tk rfl (PE.move rfl) rfl ?_
           refine sy_case (t := 54) rfl (fun g54 => ?_) (fun g54 => ?_)
           ·
            subst g54
            have hst : feedScan t tb false (nevY t) = feedScan t (tb.drop (k + 1)) true (y.set x.st.ix x.lasts) := by rw [hsc, feedScan, hr, hib, hrq]; simp [hcan]
            refine ldN rfl rfl rfl rfl rfl rfl rfl rfl ?_
            refine tkN rfl rfl rfl rfl rfl rfl rfl rfl ?_
            refine tkN rfl rfl rfl rfl rfl rfl rfl rfl ?_
            refine ldN rfl rfl rfl rfl rfl rfl rfl rfl ?_
            refine sy_bg ?_
            refine spN rfl rfl rfl rfl rfl rfl rfl rfl ?_
            refine bg (fun w hs => ⟨trivial, trivial, trivial⟩) ?_
            refine tkN rfl rfl rfl rfl rfl rfl rfl rfl ?_
            refine tk rfl (PE.pick rfl rfl rfl) rfl ?_
            refine tk rfl (PE.assign rfl) rfl ?_
            refine sy_dn ?_
            refine sy_nx ?_
            refine sy_draw [0, 0, 2, 0, 8, 0, 32, 0, 128, 1, 513, 1543, 3615, 8191, 16383] (.ld 0 (.tk 1 (.ld 2 (.tk 3 (.ld 4 (.tk 5 (.ld 6 (.tk 7 (.ld 8 (.tk 9 (.tk 10 (.tk 11 (.tk 12 (.tk 13 (.big 14 .done))))))))))))))) mixed (by kernel_rfl) ?_
            refine ld rfl rfl (lh sc138 rfl rfl) rfl ?_
            refine tk rfl (PE.fieldAddr fo23_0 rfl) rfl ?_
            refine ld rfl rfl (lh sc3 rfl rfl) rfl ?_
            refine tk rfl (PE.fieldAddr fo23_1 rfl) rfl ?_
            refine ld rfl rfl (lh sc3 rfl rfl) rfl ?_
            refine tk rfl (PE.fieldAddr fo23_2 rfl) rfl ?_
            refine ld rfl rfl (lh sc3 rfl rfl) rfl ?_
            refine tk rfl (PE.fieldAddr fo33_1 rfl) rfl ?_
            refine ld rfl rfl (lh sc3 rfl rfl) rfl ?_
            refine tk rfl (PE.nilCheck rfl) rfl ?_
            refine tk rfl (PE.fieldAddr fo153_2 rfl) rfl ?_
            refine tk rfl (PE.indexArr ar150 rfl rfl (by omega) (by omega)) rfl ?_
            refine tk rfl (PE.indexArr ar145 rfl rfl (by omega) (by omega)) rfl ?_
            refine tk rfl (PE.indexArr ar144 rfl rfl (by omega) (by omega)) rfl ?_
            refine sy_bg ?_
            refine stoE rfl rfl rfl cn3 rfl rfl rfl (rc_put x.lasts (i := x.st.ix) (by omega) (by unfold Sta.ix; omega)) (by rw [rc_len hyl]; show _ + 1 ≤ 510; omega) ?_
            refine bg (fun w hs => ⟨trivial, trivial, trivial, trivial, trivial, trivial⟩) ?_
            refine sy_dn ?_
            refine sy_bn ?_
            refine sy_bn ?_
            refine sy_nx ?_
            refine sy_tx' [0, 1] rfl ?_
            refine sy_sq ?_
            refine sp rfl (PE.add rfl rfl (by omega)) rfl ?_
            refine sy_sq ?_
            refine sp rfl (PE.move rfl) rfl ?_
            refine sy_sn ?_
            refine sy_nx ?_
            exact sy_next ⟨(k + 1, _, y.set x.st.ix x.lasts), by omega, by simpa using hyl, hst⟩ (by dsimp only; omega) (by repeat' first | exact Sub.nil | apply Sub.cons | rfl | (simp [lk]; omega)) (fun _ h => by repeat first | exact h | replace h := St.tail h | replace h := St.ftail h | replace h := St.drop h)
           ·
            subst g54
            have hst : feedScan t tb false (nevY t) = feedScan t (tb.drop (k + 1)) (decide (lat y x.st ≠ -1)) (y.set x.st.ix x.lasts) := by rw [hsc, feedScan, hr, hib, hrq]; simp [hcan]
            refine ldG rfl rfl rfl rfl rfl (lh sc138 rfl rfl) rfl ?_
            refine tkG rfl rfl rfl rfl (PE.nilCheck rfl) rfl ?_
            refine tkG rfl rfl rfl rfl (PE.fieldAddr fo153_2 rfl) rfl ?_
            refine ldG rfl rfl rfl rfl rfl (lhA [_, _, _] ag23 rfl rfl rfl) rfl ?_
            refine sy_bg ?_
            refine clVG rfl rfl rfl rfl cal95 rfl rfl (c_of t ht x.st hr ba oa ca bt bw m y (.slice none 0 0) hyl _ _) ?_
            refine bg (fun w hs => ⟨trivial, trivial, trivial⟩) ?_
            refine tkG rfl rfl rfl rfl (PE.neq rfl rfl) rfl ?_
            refine tk rfl (PE.pick rfl rfl rfl) rfl ?_
            refine tk rfl (PE.assign rfl) rfl ?_
            refine sy_dn ?_
            refine sy_nx ?_
            refine sy_draw [0, 0, 2, 0, 8, 0, 32, 0, 128, 1, 513, 1543, 3615, 8191, 16383] (.ld 0 (.tk 1 (.ld 2 (.tk 3 (.ld 4 (.tk 5 (.ld 6 (.tk 7 (.ld 8 (.tk 9 (.tk 10 (.tk 11 (.tk 12 (.tk 13 (.big 14 .done))))))))))))))) mixed (by kernel_rfl) ?_
            refine ld rfl rfl (lh sc138 rfl rfl) rfl ?_
            refine tk rfl (PE.fieldAddr fo23_0 rfl) rfl ?_
            refine ld rfl rfl (lh sc3 rfl rfl) rfl ?_
            refine tk rfl (PE.fieldAddr fo23_1 rfl) rfl ?_
            refine ld rfl rfl (lh sc3 rfl rfl) rfl ?_
            refine tk rfl (PE.fieldAddr fo23_2 rfl) rfl ?_
            refine ld rfl rfl (lh sc3 rfl rfl) rfl ?_
            refine tk rfl (PE.fieldAddr fo33_1 rfl) rfl ?_
            refine ld rfl rfl (lh sc3 rfl rfl) rfl ?_
            refine tk rfl (PE.nilCheck rfl) rfl ?_
            refine tk rfl (PE.fieldAddr fo153_2 rfl) rfl ?_
            refine tk rfl (PE.indexArr ar150 rfl rfl (by omega) (by omega)) rfl ?_
            refine tk rfl (PE.indexArr ar145 rfl rfl (by omega) (by omega)) rfl ?_
            refine tk rfl (PE.indexArr ar144 rfl rfl (by omega) (by omega)) rfl ?_
            refine sy_bg ?_
            refine stoE rfl rfl rfl cn3 rfl rfl rfl (rc_put x.lasts (i := x.st.ix) (by omega) (by unfold Sta.ix; omega)) (by rw [rc_len hyl]; show _ + 1 ≤ 510; omega) ?_
            refine bg (fun w hs => ⟨trivial, trivial, trivial, trivial, trivial, trivial⟩) ?_
            refine sy_dn ?_
            refine sy_bn ?_
            refine sy_bn ?_
            refine sy_nx ?_
            refine sy_tx' [0, 1] rfl ?_
            refine sy_sq ?_
            refine sp rfl (PE.add rfl rfl (by omega)) rfl ?_
            refine sy_sq ?_
            refine sp rfl (PE.move rfl) rfl ?_
            refine sy_sn ?_
            refine sy_nx ?_
            exact sy_next ⟨(k + 1, _, y.set x.st.ix x.lasts), by omega, by simpa using hyl, hst⟩ (by dsimp only; omega) (by repeat' first | exact Sub.nil | apply Sub.cons | rfl | (simp [lk]; omega)) (fun _ h => by repeat first | exact h | replace h := St.tail h | replace h := St.ftail h | replace h := St.drop h)
      ·
       simp only [decide_eq_true_eq, decide_eq_false_iff_not, Bool.and_eq_true, Bool.or_eq_true, Bool.not_eq_true', Int.not_le, Int.not_lt] at hc2
       obtain rfl : k = tb.length := by omega
       rw [List.drop_length] at hsc
       have hsc2 : feedScan t tb false (nevY t) = .ok (tw, y) := hsc
       have hok := feedScan_ok tb _ _ _ hsc2
       refine sy_exit ?_
       refine sy_tx ?_
       refine sy_tx ?_
       refine sy_bx ?_
       refine sy_nx ?_
       refine sy_seq ?_
       refine sy_seq ?_
       refine sy_tx' [0] rfl ?_
       refine sy_sq ?_
       refine sp rfl (PE.move rfl) rfl ?_
       refine sy_sn ?_
       refine sy_nx ?_
       refine sy_cond rfl (fun hc6 => ?_) (fun hc6 => ?_)
       ·
        subst hc6
        have hres : feedR t tb = (0, 5) := feedR_ok hck hlen hsc2
        refine sy_seq ?_
        refine sy_tx' [0, 1] rfl ?_
        refine sy_sq ?_
        refine sp rfl (PE.assign rfl) rfl ?_
        refine sy_sq ?_
        refine sp rfl (PE.assign rfl) rfl ?_
        refine sy_sn ?_
        refine sy_nx ?_
        refine sy_ret ?_
        refine sy_tr ?_
        refine sy_scr ?_
        first
          | exact sy_returnM [] (vs := [_, _]) (v := .tuple #[.int .i64 (feedR t tb).1, .int .i64 (feedR t tb).2]) (fun _ h => h) rfl (.cons (RV.tmp rfl) (.cons (RV.tmp rfl) .nil)) (by rw [hres]; rfl) ⟨rfl, rfl, rfl⟩ (fun _ h => by repeat first | exact h | replace h := St.tail h | replace h := St.ftail h | replace h := St.drop h)
          | exact sy_returnM [bd0] (vs := [_, _]) (v := .tuple #[.int .i64 (feedR t tb).1, .int .i64 (feedR t tb).2]) (fun _ h => h.pull bd0) rfl (.cons (RV.tmp rfl) (.cons (RV.tmp rfl) .nil)) (by rw [hres]; rfl) ⟨rfl, rfl, rfl⟩ (fun _ h => by repeat first | exact h | replace h := St.tail h | replace h := St.ftail h | replace h := St.drop h)
       ·
        subst hc6
        refine sy_skip ?_
        refine sy_nx ?_
        refine sy_seq ?_
        refine sy_tx' [0] rfl ?_
        refine sy_sq ?_
        refine sp rfl (PE.assign rfl) rfl ?_
        refine sy_sn ?_
        refine sy_nx ?_
        refine sy_seq ?_
        refine sy_label ?_
        refine sy_nx ?_
        refine sy_seq ?_
        refine sy_seq ?_
        refine sy_tx' [0, 1, 2] rfl ?_
        refine sy_sq ?_
        refine sp rfl (PE.move rfl) rfl ?_
        refine sy_sq ?_
        refine sp rfl (PE.lenSl isl27 rfl) rfl ?_
        refine sy_sq ?_
        refine sp rfl (PE.move rfl) rfl ?_
        refine sy_sn ?_
        refine sy_nx ?_
        refine sy_block ?_
        refine sy_loop (ι := {k : Nat // k ≤ tb.length ∧ ∀ i x, i < k → tb[i]? = some x → tabKeeps t y x = true}) (fun k => ⟨[(2, .pointer (some ⟨b2, 0, none⟩)), (6, .pointer (some ⟨b6, 0, none⟩)), (13, .bool true), (102, .slice a tb.length c), (103, .int .i64 tb.length), (104, .int .i64 k.1)], (bd0, .deferred (some [])) :: (b6, cel 138 [.pointer (some ⟨bw, 0, none⟩)]) :: (bw, cel 153 (rcs t (t.sl (some ⟨ba, oa, none⟩) ca) bt (y) (.slice none 0 0) m)) :: (m, mapO true []) :: (b2, cel 26 (twl t (t.sl (some ⟨ba, oa, none⟩) ca))) :: H, RowsA (some ⟨b31, 0, none⟩) 11 [twl t (t.sl (some ⟨ba, oa, none⟩) ca)] :: RowsA (some ⟨bt, 0, none⟩) 11 [twl t (t.sl (some ⟨ba, oa, none⟩) ca)] :: R⟩) (fun k => tb.length - k.1) ⟨0, by omega, by omega⟩ ?_ (fun k => ?_)
        ·
         exact sy_at (by repeat' first | exact Sub.nil | apply Sub.cons | rfl | (simp [lk]; omega)) (fun _ h => h)
        ·
         obtain ⟨k, hk, hkp⟩ := k
         dsimp only at hk hkp ⊢
         refine sy_seq ?_
         refine sy_tx' [0] rfl ?_
         refine sy_sq ?_
         refine sp rfl (PE.lss rfl rfl) rfl ?_
         refine sy_sn ?_
         refine sy_nx ?_
         refine sy_seq ?_
         refine sy_cond rfl (fun hc7 => ?_) (fun hc7 => ?_)
         ·
          simp only [decide_eq_true_eq, decide_eq_false_iff_not, Bool.and_eq_true, Bool.or_eq_true, Bool.not_eq_true', Int.not_le, Int.not_lt] at hc7
          obtain ⟨x, hx⟩ : ∃ x, tb[k]? = some x := ⟨_, List.getElem?_eq_getElem (by omega)⟩
          obtain ⟨hr, hib, q, hrq, hcan⟩ := hok x (List.mem_of_getElem? hx)
          obtain ⟨hr0, hq⟩ := rat_iff.1 hrq
          have htk : tabKeeps t y x = t.keeps y x.st q x.lasts := by unfold tabKeeps; rw [hrq]
          refine sy_addr (a := a) (sz := 5) (rows := trows tb) (by intro h0; simp [trows] at h0; simp [h0] at hx) (fun bx ox he => ?_)
          subst he
          refine sy_skip ?_
          refine sy_nx ?_
          refine sy_seq ?_
          refine sy_block ?_
          refine sy_seq ?_
          refine sy_tx' [0, 1, 2, 3] rfl ?_
          refine sy_sq ?_
          refine sp rfl (PE.indexAddr el27 rfl rfl (by omega) (by omega)) rfl ?_
          refine sy_sq ?_
          refine spL rfl rfl (lfA ag33 (row := trow x) (by simp [trows, hx]) rfl) rfl ?_
          refine sy_sq ?_
          refine alc rfl zl33 rfl (fun b15 => ?_)
          refine sy_sq ?_
          refine sto rfl rfl rfl cn33 rfl rfl rfl rfl ?_
          refine sy_sn ?_
          refine sy_nx ?_
          refine sy_seq ?_
          refine sy_tx' [0, 1, 2, 3, 4, 5, 6, 7, 8] rfl ?_
          refine sy_sq ?_
          refine spL rfl rfl (lh sc138 rfl rfl) rfl ?_
          refine sy_sq ?_
          refine sp rfl (PE.fieldAddr fo33_0 rfl) rfl ?_
          refine sy_sq ?_
          refine spL rfl rfl (lhA [_, _, _] ag23 rfl rfl rfl) rfl ?_
          refine sy_sq ?_
          refine sp rfl (PE.fieldAddr fo33_2 rfl) rfl ?_
          refine sy_sq ?_
          refine spL rfl rfl (lh sc3 rfl rfl) rfl ?_
          refine sy_sq ?_
          refine sp rfl (PE.fieldAddr fo33_1 rfl) rfl ?_
          refine sy_sq ?_
          refine spL rfl rfl (lh sc3 rfl rfl) rfl ?_
          refine sy_sq ?_
          refine clV rfl cal96 rfl rfl (c_keeps t ht x.st hr x.ration q hr0 hq x.lasts hib ba oa ca bt bw m y (.slice none 0 0) hyl _ _) ?_
          refine sy_sq ?_
          refine sp rfl (PE.assign rfl) rfl ?_
          refine sy_sn ?_
          refine sy_nx ?_
          refine sy_seq ?_
          refine sy_tx' [0, 1] rfl ?_
          refine sy_sq ?_
          refine sp rfl (PE.move rfl) rfl ?_
          refine sy_sq ?_
          refine sp rfl (PE.not rfl) rfl ?_
          refine sy_sn ?_
          refine sy_nx ?_
          refine sy_cond rfl (fun hc8 => ?_) (fun hc8 => ?_)
          ·
           have hkf : tabKeeps t y x = false := by rw [htk, ← Bool.not_eq_true']; exact hc8
           have hall : tb.all (tabKeeps t y) = false := by rw [List.all_eq_false]; exact ⟨x, List.mem_of_getElem? hx, by simp [hkf]⟩
           have hres : feedR t tb = (0, 8) := by rw [feedR_ok hck hlen hsc2]; unfold feedEnd; rw [hall]; rfl
           refine sy_exit ?_
           refine sy_bxn (by decide) ?_
           refine sy_tx ?_
           refine sy_tx ?_
           refine sy_bx ?_
           refine sy_nx ?_
           refine sy_seq ?_
           refine sy_draw [0, 1, 3, 0, 8, 31, 63] (.ld 0 (.tk 1 (.tk 2 (.tk 3 (.ld 4 (.big 5 (.tk 6 .done))))))) mixed (by kernel_rfl) ?_
           refine ld rfl rfl (lh sc138 rfl rfl) rfl ?_
           refine tk rfl (PE.nilCheck rfl) rfl ?_
           refine tk rfl (PE.fieldAddr fo153_2 rfl) rfl ?_
           refine tk rfl (PE.fieldAddr fo26_0 rfl) rfl ?_
           refine ld rfl rfl (lhA [_, _, _] ag23 rfl rfl rfl) rfl ?_
           refine sy_bg ?_
           refine clV rfl cal95 rfl rfl (c_of t ht t.now ht.now ba oa ca bt bw m y (.slice none 0 0) hyl _ _) ?_
           refine bg (fun w hs => ⟨trivial, trivial, trivial⟩) ?_
           refine tk rfl (PE.assign rfl) rfl ?_
           refine sy_dn ?_
           refine sy_nx ?_
           refine sy_block ?_
           refine sy_seq ?_
           refine sy_tx' [0, 1, 2] rfl ?_
           refine sy_sq ?_
           refine sp rfl (PE.move rfl) rfl ?_
           refine sy_sq ?_
           refine sp rfl (PE.not rfl) rfl ?_
           refine sy_sq ?_
           refine sp rfl (PE.assign rfl) rfl ?_
           refine sy_sn ?_
           refine sy_nx ?_
           refine sy_condT (congrArg (fun b => some (Value.bool b)) hc8) ?_
           refine sy_seq ?_
           refine sy_tx' [0, 1] rfl ?_
           refine sy_sq ?_
           refine sp rfl (PE.assign rfl) rfl ?_
           refine sy_sq ?_
           refine sp rfl (PE.assign rfl) rfl ?_
           refine sy_sn ?_
           refine sy_nx ?_
           refine sy_ret ?_
           refine sy_br ?_
           refine sy_scr ?_
           first
             | exact sy_returnM [] (vs := [_, _]) (v := .tuple #[.int .i64 (feedR t tb).1, .int .i64 (feedR t tb).2]) (fun _ h => h) rfl (.cons (RV.tmp rfl) (.cons (RV.tmp rfl) .nil)) (by rw [hres]; rfl) ⟨rfl, rfl, rfl⟩ (fun _ h => by repeat first | exact h | replace h := St.tail h | replace h := St.ftail h | replace h := St.drop h)
             | exact sy_returnM [bd0] (vs := [_, _]) (v := .tuple #[.int .i64 (feedR t tb).1, .int .i64 (feedR t tb).2]) (fun _ h => h.pull bd0) rfl (.cons (RV.tmp rfl) (.cons (RV.tmp rfl) .nil)) (by rw [hres]; rfl) ⟨rfl, rfl, rfl⟩ (fun _ h => by repeat first | exact h | replace h := St.tail h | replace h := St.ftail h | replace h := St.drop h)
          ·
           have hkt : tabKeeps t y x = true := by rw [htk, ← Bool.not_eq_false']; exact hc8
           refine sy_skip ?_
           refine sy_bn ?_
           refine sy_nx ?_
           refine sy_tx' [0, 1] rfl ?_
           refine sy_sq ?_
           refine sp rfl (PE.add rfl rfl (by omega)) rfl ?_
           refine sy_sq ?_
           refine sp rfl (PE.move rfl) rfl ?_
           refine sy_sn ?_
           refine sy_nx ?_
           exact sy_next ⟨k + 1, by omega, fun i z hi hz => by
             rcases Nat.lt_or_ge i k with h1 | h1
             · exact hkp i z h1 hz
             · obtain rfl : i = k := by omega
               rw [hx] at hz; cases hz; exact hkt⟩ (by dsimp only; omega) (by rw [← htk, hkt]; exact (by repeat' first | exact Sub.nil | apply Sub.cons | rfl | (simp [lk]; omega))) (fun _ h => by repeat first | exact h | replace h := St.tail h | replace h := St.ftail h | replace h := St.drop h)
         ·
          simp only [decide_eq_true_eq, decide_eq_false_iff_not, Bool.and_eq_true, Bool.or_eq_true, Bool.not_eq_true', Int.not_le, Int.not_lt] at hc7
          obtain rfl : k = tb.length := by omega
          have hall : tb.all (tabKeeps t y) = true := List.all_eq_true.2 fun x hx => by
            obtain ⟨i, hi⟩ := List.getElem?_of_mem hx
            exact hkp i x (List.getElem?_eq_some_iff.1 hi).1 hi
          have hfe : feedEnd t tb false y = bif decide (lat y t.now = -1) then (0, 6) else (lat y t.now, 0) := by unfold feedEnd; rw [hall]; rfl
          refine sy_exit ?_
          refine sy_tx ?_
          refine sy_tx ?_
          refine sy_bx ?_
          refine sy_nx ?_
          refine sy_seq ?_
          refine sy_draw [0, 1, 3, 0, 8, 31, 63] (.ld 0 (.tk 1 (.tk 2 (.tk 3 (.ld 4 (.big 5 (.tk 6 .done))))))) mixed (by kernel_rfl) ?_
          refine ld rfl rfl (lh sc138 rfl rfl) rfl ?_
          refine tk rfl (PE.nilCheck rfl) rfl ?_
          refine tk rfl (PE.fieldAddr fo153_2 rfl) rfl ?_
          refine tk rfl (PE.fieldAddr fo26_0 rfl) rfl ?_
          refine ld rfl rfl (lhA [_, _, _] ag23 rfl rfl rfl) rfl ?_
          refine sy_bg ?_
          refine clV rfl cal95 rfl rfl (c_of t ht t.now ht.now ba oa ca bt bw m y (.slice none 0 0) hyl _ _) ?_
          refine bg (fun w hs => ⟨trivial, trivial, trivial⟩) ?_
          refine tk rfl (PE.assign rfl) rfl ?_
          refine sy_dn ?_
          refine sy_nx ?_
          refine sy_block ?_
          refine sy_seq ?_
          refine sy_tx' [0, 1, 2] rfl ?_
          refine sy_sq ?_
          refine sp rfl (PE.move rfl) rfl ?_
          refine sy_sq ?_
          refine sp rfl (PE.not rfl) rfl ?_
          refine sy_sq ?_
          refine sp rfl (PE.assign rfl) rfl ?_
          refine sy_sn ?_
          refine sy_nx ?_
          refine sy_condF (rfl) ?_
          refine sy_seq ?_
          refine sy_tx' [0, 1, 2] rfl ?_
          refine sy_sq ?_
          refine sp rfl (PE.move rfl) rfl ?_
          refine sy_sq ?_
          refine sp rfl (PE.eql rfl rfl) rfl ?_
          refine sy_sq ?_
          refine sp rfl (PE.assign rfl) rfl ?_
          refine sy_sn ?_
          refine sy_nx ?_
          refine sy_cond rfl (fun hc10 => ?_) (fun hc10 => ?_)
          ·
           have hres : feedR t tb = (0, 6) := by rw [feedR_ok hck hlen hsc2, hfe, hc10]; rfl
           refine sy_seq ?_
           refine sy_tx' [0, 1] rfl ?_
           refine sy_sq ?_
           refine sp rfl (PE.assign rfl) rfl ?_
           refine sy_sq ?_
           refine sp rfl (PE.assign rfl) rfl ?_
           refine sy_sn ?_
           refine sy_nx ?_
           refine sy_ret ?_
           refine sy_br ?_
           refine sy_scr ?_
           first
             | exact sy_returnM [] (vs := [_, _]) (v := .tuple #[.int .i64 (feedR t tb).1, .int .i64 (feedR t tb).2]) (fun _ h => h) rfl (.cons (RV.tmp rfl) (.cons (RV.tmp rfl) .nil)) (by rw [hres]; rfl) ⟨rfl, rfl, rfl⟩ (fun _ h => by repeat first | exact h | replace h := St.tail h | replace h := St.ftail h | replace h := St.drop h)
             | exact sy_returnM [bd0] (vs := [_, _]) (v := .tuple #[.int .i64 (feedR t tb).1, .int .i64 (feedR t tb).2]) (fun _ h => h.pull bd0) rfl (.cons (RV.tmp rfl) (.cons (RV.tmp rfl) .nil)) (by rw [hres]; rfl) ⟨rfl, rfl, rfl⟩ (fun _ h => by repeat first | exact h | replace h := St.tail h | replace h := St.ftail h | replace h := St.drop h)
          ·
           have hres : feedR t tb = (lat y t.now, 0) := by rw [feedR_ok hck hlen hsc2, hfe, hc10]; rfl
           refine sy_seq ?_
           refine sy_tx' [0, 1, 2] rfl ?_
           refine sy_sq ?_
           refine sp rfl (PE.move rfl) rfl ?_
           refine sy_sq ?_
           refine sp rfl (PE.assign rfl) rfl ?_
           refine sy_sq ?_
           refine sp rfl (PE.assign rfl) rfl ?_
           refine sy_sn ?_
           refine sy_nx ?_
           refine sy_ret ?_
           refine sy_br ?_
           refine sy_scr ?_
           first
             | exact sy_returnM [] (vs := [_, _]) (v := .tuple #[.int .i64 (feedR t tb).1, .int .i64 (feedR t tb).2]) (fun _ h => h) rfl (.cons (RV.tmp rfl) (.cons (RV.tmp rfl) .nil)) (by rw [hres]; rfl) ⟨rfl, rfl, rfl⟩ (fun _ h => by repeat first | exact h | replace h := St.tail h | replace h := St.ftail h | replace h := St.drop h)
             | exact sy_returnM [bd0] (vs := [_, _]) (v := .tuple #[.int .i64 (feedR t tb).1, .int .i64 (feedR t tb).2]) (fun _ h => h.pull bd0) rfl (.cons (RV.tmp rfl) (.cons (RV.tmp rfl) .nil)) (by rw [hres]; rfl) ⟨rfl, rfl, rfl⟩ (fun _ h => by repeat first | exact h | replace h := St.tail h | replace h := St.ftail h | replace h := St.drop h)
end Go.Proofs.Ytaldphhdkmchhaa
