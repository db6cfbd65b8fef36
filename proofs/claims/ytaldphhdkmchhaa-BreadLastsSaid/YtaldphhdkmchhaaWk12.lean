/- Walks of the functions of the program: what each returns and leaves in memory, under the conditions that its theorem names. -/
import Derived.Test.YtaldphhdkmchhaaTy
import Derived.Test.YtaldphhdkmchhaaMa
import Derived.Test.YtaldphhdkmchhaaWk11
import Derived.Test.YtaldphhdkmchhaaMh
namespace Go.Proofs.Ytaldphhdkmchhaa
set_option linter.unusedSimpArgs false
set_option linter.unusedVariables false
open Go
theorem fairR_eq {s : Int} {ws sh : List Int} {j : Nat} (h : askE s ws = 0 → (shIt ws j (shInit s ws)).g = false) : fairR s ws sh j = bif decide (askE s ws ≠ 0) then (false, askE s ws) else bif decide (sharesE ws sh ≠ 0) then (false, sharesE ws sh) else (refFair s ws sh, 0) := by
  unfold fairR
  by_cases h0 : askE s ws = 0
  · by_cases h1 : sharesE ws sh = 0
    · have hg := h h0
      obtain ⟨_, hf⟩ := share_fair h0 hg
      have hl := (shIt_ok j _ (shInit_ok h0).1).len
      have hl2 : sh.length = ws.length := by
        by_cases h2 : sh.length = ws.length
        · exact h2
        · unfold sharesE at h1; simp [h2] at h1
      have e : decide ((shIt ws j (shInit s ws)).o = sh) = refFair s ws sh := by
        cases hr : refFair s ws sh with
        | true => simp [fair_uniq hl hl2 hf hr]
        | false =>
          have : (shIt ws j (shInit s ws)).o ≠ sh := fun e => by rw [e, hr] at hf; cases hf
          simp [this]
      simp [h0, h1, e]
    · simp [h0, h1]
  · simp [h0]
theorem sharesE_ok {ws sh : List Int} (h : sharesE ws sh = 0) : sh.length = ws.length ∧ ∀ n ∈ sh, 0 ≤ n ∧ n ≤ 1000 := by
  unfold sharesE at h
  cases h1 : decide (sh.length ≠ ws.length) <;> rw [h1] at h
  rotate_left
  · cases h
  cases h2 : sh.all fun n => inb n 0 1000 <;> rw [h2] at h
  · cases h
  exact ⟨by simpa using h1, fun n hn => by simpa using List.all_eq_true.1 h2 n hn⟩

theorem c_BreadShares (s : Int) (ws sh : List Int) (a a2 : Option Addr) (c c2 : Nat) (hl : ws.length ≤ 9223372036854775807) (hl2 : sh.length ≤ 9223372036854775807) (H : Heap) (R : Facts) [hR : MemRows a 1 (irows ws) R] [hR2 : MemRows a2 1 (irows sh) R] :
    Fn Try.prog 5 [.int .i64 s, .slice a ws.length c, .slice a2 sh.length c2] H R (fun v H' R' => v = .bool true ∧ H' = H ∧ R' = R) := by
  refine fn_of Try.func5 rfl Try.ntmps5 rfl ?_
  refine sy_seq ?_
  refine sy_tx' [0] rfl ?_
  refine sy_sq ?_
  refine sp rfl (PE.assign rfl) rfl ?_
  refine sy_sn ?_
  refine sy_nx ?_
  refine sy_seq ?_
  refine sy_seq ?_
  refine sy_tx' [0, 1, 2, 3, 4, 5, 6, 7] rfl ?_
  refine sy_sq ?_
  refine sp rfl (PE.move rfl) rfl ?_
  refine sy_sq ?_
  refine sp rfl (PE.lenSl isl42 rfl) rfl ?_
  refine sy_sq ?_
  refine sp rfl (PE.gtr rfl rfl) rfl ?_
  refine sy_sq ?_
  refine sp rfl (PE.move rfl) rfl ?_
  refine sy_sq ?_
  refine sy_case (t := 19) rfl (fun g19 => ?_) (fun g19 => ?_)
  ·
    refine spN rfl rfl rfl rfl rfl rfl rfl rfl ?_
    refine sy_sq ?_
    refine spN rfl rfl rfl rfl rfl rfl rfl rfl ?_
    refine sy_sq ?_
    refine spN rfl rfl rfl rfl rfl rfl rfl rfl ?_
    refine sy_sq ?_
    refine sp rfl (PE.pick rfl rfl rfl) rfl ?_
    refine sy_sn ?_
    refine sy_nx ?_
    refine sy_condT rfl ?_
    refine sy_seq ?_
    refine sy_tx' [0, 1] rfl ?_
    refine sy_sq ?_
    refine clV rfl cal16 rfl rfl (c_awake _ _) ?_
    refine sy_sq ?_
    refine sp rfl (PE.assign rfl) rfl ?_
    refine sy_sn ?_
    refine sy_nx ?_
    refine sy_ret ?_
    refine sy_tr ?_
    exact sy_return (vs := [_]) rfl (.cons (RV.tmp rfl) .nil) rfl ⟨rfl, rfl, rfl⟩ (fun _ h => by repeat first | exact h | replace h := St.tail h | replace h := St.ftail h | replace h := St.drop h)
  ·
    simp only [decide_eq_true_eq, decide_eq_false_iff_not, Bool.and_eq_true, Bool.or_eq_true, Bool.not_eq_true', Int.not_le, Int.not_lt] at g19
    refine spG rfl rfl rfl rfl (PE.move rfl) rfl ?_
    refine sy_sq ?_
    refine spG rfl rfl rfl rfl (PE.lenSl isl42 rfl) rfl ?_
    refine sy_sq ?_
    refine spG rfl rfl rfl rfl (PE.gtr rfl rfl) rfl ?_
    refine sy_sq ?_
    refine sp rfl (PE.pick rfl rfl rfl) rfl ?_
    refine sy_sn ?_
    refine sy_nx ?_
    refine sy_cond rfl (fun hc0 => ?_) (fun hc0 => ?_)
    ·
      refine sy_seq ?_
      refine sy_tx' [0, 1] rfl ?_
      refine sy_sq ?_
      refine clV rfl cal16 rfl rfl (c_awake _ _) ?_
      refine sy_sq ?_
      refine sp rfl (PE.assign rfl) rfl ?_
      refine sy_sn ?_
      refine sy_nx ?_
      refine sy_ret ?_
      refine sy_tr ?_
      exact sy_return (vs := [_]) rfl (.cons (RV.tmp rfl) .nil) rfl ⟨rfl, rfl, rfl⟩ (fun _ h => by repeat first | exact h | replace h := St.tail h | replace h := St.ftail h | replace h := St.drop h)
    ·
      simp only [decide_eq_true_eq, decide_eq_false_iff_not, Bool.and_eq_true, Bool.or_eq_true, Bool.not_eq_true', Int.not_le, Int.not_lt] at hc0
      refine sy_skip ?_
      refine sy_nx ?_
      refine sy_seq ?_
      refine sy_tx' [0, 1, 2, 3, 4, 5] rfl ?_
      refine sy_sq ?_
      refine sp rfl (PE.move rfl) rfl ?_
      refine sy_sq ?_
      refine cl rfl cal32 rfl rfl (c_dup_int ws a c (by omega) _ _) ?_
      rintro _ _ _ ⟨o1, rfl, ⟨x1, y1, he1⟩, rfl, rfl⟩
      obtain ⟨a3, c3, ho1, hf1⟩ := o1.freeze
      rw [ho1]
      refine Sy.heap (fun w h => hf1 h) ?_
      rw [show (irows ws).length = ws.length from List.length_map _]
      refine sy_sq ?_
      refine sp rfl (PE.move rfl) rfl ?_
      refine sy_sq ?_
      refine cl rfl cal32 rfl rfl (c_dup_int sh a2 c2 (by omega) _ _) ?_
      rintro _ _ _ ⟨o2, rfl, ⟨x2, y2, he2⟩, rfl, rfl⟩
      obtain ⟨a4, c4, ho2, hf2⟩ := o2.freeze
      rw [ho2]
      refine Sy.heap (fun w h => hf2 h) ?_
      rw [show (irows sh).length = sh.length from List.length_map _]
      refine sy_sq ?_
      refine sp rfl (PE.assign rfl) rfl ?_
      refine sy_sq ?_
      refine sp rfl (PE.assign rfl) rfl ?_
      refine sy_sn ?_
      refine sy_nx ?_
      refine sy_seq ?_
      refine sy_tx' [0, 1, 2, 3] rfl ?_
      refine sy_sq ?_
      refine sp rfl (PE.move rfl) rfl ?_
      refine sy_sq ?_
      refine sp rfl (PE.move rfl) rfl ?_
      refine sy_sq ?_
      refine clV rfl cal33 rfl rfl (c_rAsked s ws a c hl _ _) ?_
      refine sy_sq ?_
      refine sp rfl (PE.assign rfl) rfl ?_
      refine sy_sn ?_
      refine sy_nx ?_
      refine sy_seq ?_
      refine sy_tx' [0, 1] rfl ?_
      refine sy_sq ?_
      refine sp rfl (PE.move rfl) rfl ?_
      refine sy_sq ?_
      refine sp rfl (PE.assign rfl) rfl ?_
      refine sy_sn ?_
      refine sy_nx ?_
      refine sy_seq ?_
      refine sy_tx' [0] rfl ?_
      refine sy_sq ?_
      refine sp rfl (PE.assign rfl) rfl ?_
      refine sy_sn ?_
      refine sy_nx ?_
      refine sy_seq ?_
      refine sy_seq ?_
      refine sy_tx' [0, 1] rfl ?_
      refine sy_sq ?_
      refine sp rfl (PE.move rfl) rfl ?_
      refine sy_sq ?_
      refine sp rfl (PE.eql rfl rfl) rfl ?_
      refine sy_sn ?_
      refine sy_nx ?_
      refine sy_cond rfl (fun hc1 => ?_) (fun hc1 => ?_)
      ·
        have hck : askE s ws = 0 := by simpa using hc1
        obtain ⟨hi1, hi2, hi3, hi4⟩ := shInit_ok hck
        refine sy_seq ?_
        refine sy_tx' [0, 1, 2, 3] rfl ?_
        refine sy_sq ?_
        refine sp rfl (PE.move rfl) rfl ?_
        refine sy_sq ?_
        refine sp rfl (PE.move rfl) rfl ?_
        refine sy_sq ?_
        refine clV rfl cal34 rfl rfl (c_rShares ws sh a a2 c c2 hl hl2 _ _) ?_
        refine sy_sq ?_
        refine sp rfl (PE.assign rfl) rfl ?_
        refine sy_sn ?_
        refine sy_nx ?_
        refine sy_seq ?_
        refine sy_tx' [0, 1] rfl ?_
        refine sy_sq ?_
        refine sp rfl (PE.move rfl) rfl ?_
        refine sy_sq ?_
        refine sp rfl (PE.eql rfl rfl) rfl ?_
        refine sy_sn ?_
        refine sy_nx ?_
        refine sy_cond rfl (fun hc2 => ?_) (fun hc2 => ?_)
        ·
          have hse : sharesE ws sh = 0 := by simpa using hc2
          obtain ⟨hse1, hse2⟩ := sharesE_ok hse
          refine sy_tx' [0, 1, 2, 3, 4] rfl ?_
          refine sy_sq ?_
          refine sp rfl (PE.move rfl) rfl ?_
          refine sy_sq ?_
          refine sp rfl (PE.move rfl) rfl ?_
          refine sy_sq ?_
          refine sp rfl (PE.move rfl) rfl ?_
          refine sy_sq ?_
          refine clV rfl cal35 rfl rfl (c_rFair s ws sh a a2 c c2 hse1 (by omega) hse2 _ _) ?_
          refine sy_sq ?_
          refine sp rfl (PE.assign rfl) rfl ?_
          refine sy_sn ?_
          refine sy_nx ?_
          refine sy_seq ?_
          refine sy_tx' [0, 1, 2, 3, 4, 5, 6, 7] rfl ?_
          refine sy_sq ?_
          refine sp rfl (PE.move rfl) rfl ?_
          refine sy_sq ?_
          refine sp rfl (PE.move rfl) rfl ?_
          refine sy_sq ?_
          refine cl rfl cal36 rfl rfl (c_Share s ws a3 c3 hl _ _) ?_
          rintro _ _ _ ⟨h, rfl⟩
          obtain ⟨_, j, bo, hg, hv, rfl⟩ := h.resolve_left (fun h => h.1 hck)
          have hlo : (shIt ws j (shInit s ws)).o.length = ws.length := (shIt_ok j _ hi1).len
          have hsf := share_fair hck hg
          have hsk := sharesE_ok hsf.1
          refine Sy.heap (fun w h => St.intRows h) ?_
          generalize (shIt ws j (shInit s ws)).o = out at *
          rw [← hlo] at hv
          subst hv
          refine sy_sq ?_
          refine sp rfl (PE.move rfl) rfl ?_
          refine sy_sq ?_
          refine sp rfl (PE.extract rfl rfl) rfl ?_
          refine sy_sq ?_
          refine sp rfl (PE.extract rfl rfl) rfl ?_
          refine sy_sq ?_
          refine sp rfl (PE.assign rfl) rfl ?_
          refine sy_sq ?_
          refine sp rfl (PE.assign rfl) rfl ?_
          refine sy_sn ?_
          refine sy_nx ?_
          refine sy_seq ?_
          refine sy_tx' [0, 1, 2, 3, 4, 5, 6, 7, 8] rfl ?_
          refine sy_sq ?_
          refine sp rfl (PE.move rfl) rfl ?_
          refine sy_sq ?_
          refine sp rfl (PE.move rfl) rfl ?_
          refine sy_sq ?_
          refine sp rfl (PE.move rfl) rfl ?_
          refine sy_sq ?_
          refine cl rfl cal37 rfl rfl (c_Fair s ws sh a3 a4 c3 c4 hl hl2 _ _) ?_
          rintro _ _ _ ⟨⟨j2, hj2, rfl⟩, rfl, rfl⟩
          have e : fairR s ws sh j2 = (refFair s ws sh, 0) := by rw [fairR_eq hj2]; simp [hck, hse]
          rw [e]
          refine sy_sq ?_
          refine sp rfl (PE.move rfl) rfl ?_
          refine sy_sq ?_
          refine sp rfl (PE.extract rfl rfl) rfl ?_
          refine sy_sq ?_
          refine sp rfl (PE.extract rfl rfl) rfl ?_
          refine sy_sq ?_
          refine sp rfl (PE.assign rfl) rfl ?_
          refine sy_sq ?_
          refine sp rfl (PE.assign rfl) rfl ?_
          refine sy_sn ?_
          refine sy_nx ?_
          refine sy_seq ?_
          refine sy_seq ?_
          refine sy_tx' [0, 1, 2, 3, 4, 5, 6, 7, 8, 9, 10, 11, 12, 13, 14, 15, 16, 17, 18, 19, 20, 21, 22, 23, 24] rfl ?_
          refine sy_sq ?_
          refine sp rfl (PE.move rfl) rfl ?_
          refine sy_sq ?_
          refine sp rfl (PE.move rfl) rfl ?_
          refine sy_sq ?_
          refine sp rfl (PE.neq rfl rfl) rfl ?_
          refine sy_sq ?_
          refine sp rfl (PE.move rfl) rfl ?_
          refine sy_sq ?_
          refine sy_case (t := 60) rfl (fun g60 => ?_) (fun g60 => ?_)
          ·
            exact absurd g60 (by first | (simp; done) | (simp [hck]; done) | (simp [hse]; done))
          ·
            refine spG rfl rfl rfl rfl (PE.move rfl) rfl ?_
            refine sy_sq ?_
            refine spG rfl rfl rfl rfl (PE.move rfl) rfl ?_
            refine sy_sq ?_
            refine spG rfl rfl rfl rfl (PE.neq rfl rfl) rfl ?_
            refine sy_sq ?_
            refine sp rfl (PE.pick rfl rfl rfl) rfl ?_
            refine sy_sq ?_
            refine sp rfl (PE.move rfl) rfl ?_
            refine sy_sq ?_
            refine sy_case (t := 65) rfl (fun g65 => ?_) (fun g65 => ?_)
            ·
              exact absurd g65 (by first | (simp; done) | (simp [hck]; done) | (simp [hse]; done))
            ·
              refine spG rfl rfl rfl rfl (PE.move rfl) rfl ?_
              refine sy_sq ?_
              refine spG rfl rfl rfl rfl (PE.move rfl) rfl ?_
              refine sy_sq ?_
              refine spG rfl rfl rfl rfl (PE.neqBool ub4 rfl rfl) rfl ?_
              refine sy_sq ?_
              refine sp rfl (PE.pick rfl rfl rfl) rfl ?_
              refine sy_sq ?_
              refine sp rfl (PE.move rfl) rfl ?_
              refine sy_sq ?_
              refine sy_case (t := 70) rfl (fun g70 => ?_) (fun g70 => ?_)
              ·
                exact absurd g70 (by first | (simp; done) | (simp [hck]; done) | (simp [hse]; done))
              ·
                refine spG rfl rfl rfl rfl (PE.move rfl) rfl ?_
                refine sy_sq ?_
                refine spG rfl rfl rfl rfl (PE.move rfl) rfl ?_
                refine sy_sq ?_
                refine clVG rfl rfl rfl rfl cal38 rfl rfl (c_Eq_int ws ws a3 a c3 c hl hl _ _) ?_
                refine sy_sq ?_
                refine spG rfl rfl rfl rfl (PE.not rfl) rfl ?_
                refine sy_sq ?_
                refine sp rfl (PE.pick rfl rfl rfl) rfl ?_
                refine sy_sq ?_
                refine sp rfl (PE.move rfl) rfl ?_
                refine sy_sq ?_
                refine sy_case (t := 76) rfl (fun g76 => ?_) (fun g76 => ?_)
                ·
                  exact absurd g76 (by first | (simp; done) | (simp [hck]; done) | (simp [hse]; done))
                ·
                  refine spG rfl rfl rfl rfl (PE.move rfl) rfl ?_
                  refine sy_sq ?_
                  refine spG rfl rfl rfl rfl (PE.move rfl) rfl ?_
                  refine sy_sq ?_
                  refine clVG rfl rfl rfl rfl cal38 rfl rfl (c_Eq_int sh sh a4 a2 c4 c2 hl2 hl2 _ _) ?_
                  refine sy_sq ?_
                  refine spG rfl rfl rfl rfl (PE.not rfl) rfl ?_
                  refine sy_sq ?_
                  refine sp rfl (PE.pick rfl rfl rfl) rfl ?_
                  refine sy_sn ?_
                  refine sy_nx ?_
                  refine sy_cond rfl (fun hc3 => ?_) (fun hc3 => ?_)
                  ·
                    exact absurd hc3 (by simp)
                  ·
                    refine sy_skip ?_
                    refine sy_nx ?_
                    refine sy_seq ?_
                    refine sy_seq ?_
                    refine sy_tx' [0, 1] rfl ?_
                    refine sy_sq ?_
                    refine sp rfl (PE.move rfl) rfl ?_
                    refine sy_sq ?_
                    refine sp rfl (PE.neq rfl rfl) rfl ?_
                    refine sy_sn ?_
                    refine sy_nx ?_
                    refine sy_condF (congrArg (fun b => some (Value.bool b)) (decide_eq_false (by simp [hck]))) ?_
                    refine sy_skip ?_
                    refine sy_nx ?_
                    refine sy_seq ?_
                    refine sy_tx' [0, 1, 2, 3, 4, 5, 6, 7, 8, 9, 10, 11, 12, 13] rfl ?_
                    refine sy_sq ?_
                    refine sp rfl (PE.move rfl) rfl ?_
                    refine sy_sq ?_
                    refine sp rfl (PE.move rfl) rfl ?_
                    refine sy_sq ?_
                    refine clV rfl cal34 rfl rfl (c_rShares ws out a (some ⟨bo, 0, none⟩) c _ hl (by omega) _ _) ?_
                    refine sy_sq ?_
                    refine sp rfl (PE.eql rfl rfl) rfl ?_
                    refine sy_sq ?_
                    refine sp rfl (PE.move rfl) rfl ?_
                    refine sy_sq ?_
                    refine sy_case (t := 94) rfl (fun g94 => ?_) (fun g94 => ?_)
                    ·
                      refine spG rfl rfl rfl rfl (PE.move rfl) rfl ?_
                      refine sy_sq ?_
                      refine spG rfl rfl rfl rfl (PE.move rfl) rfl ?_
                      refine sy_sq ?_
                      refine spG rfl rfl rfl rfl (PE.move rfl) rfl ?_
                      refine sy_sq ?_
                      refine clVG rfl rfl rfl rfl cal35 rfl rfl (c_rFair s ws out a (some ⟨bo, 0, none⟩) c _ hlo (by omega) hsk.2 _ _) ?_
                      refine sy_sq ?_
                      refine sp rfl (PE.pick rfl rfl rfl) rfl ?_
                      refine sy_sq ?_
                      refine sp rfl (PE.move rfl) rfl ?_
                      refine sy_sq ?_
                      refine sy_case (t := 100) rfl (fun g100 => ?_) (fun g100 => ?_)
                      ·
                        refine clVG rfl rfl rfl rfl cal16 rfl rfl (c_awake _ _) ?_
                        refine sy_sq ?_
                        refine sp rfl (PE.pick rfl rfl rfl) rfl ?_
                        refine sy_sq ?_
                        refine sp rfl (PE.assign rfl) rfl ?_
                        refine sy_sn ?_
                        refine sy_nx ?_
                        refine sy_ret ?_
                        exact sy_return (vs := [_]) rfl (.cons (RV.tmp rfl) .nil) rfl ⟨rfl, rfl, rfl⟩ (fun _ h => by repeat first | exact h | replace h := St.tail h | replace h := St.ftail h | replace h := St.drop h)
                      ·
                        exact absurd g100 (by simp [hsf.2])
                    ·
                      exact absurd g94 (by simp [hsf.1])
        ·
          have hse : sharesE ws sh ≠ 0 := by simpa using hc2
          refine sy_skip ?_
          refine sy_nx ?_
          refine sy_seq ?_
          refine sy_tx' [0, 1, 2, 3, 4, 5, 6, 7] rfl ?_
          refine sy_sq ?_
          refine sp rfl (PE.move rfl) rfl ?_
          refine sy_sq ?_
          refine sp rfl (PE.move rfl) rfl ?_
          refine sy_sq ?_
          refine cl rfl cal36 rfl rfl (c_Share s ws a3 c3 hl _ _) ?_
          rintro _ _ _ ⟨h, rfl⟩
          obtain ⟨_, j, bo, hg, hv, rfl⟩ := h.resolve_left (fun h => h.1 hck)
          have hlo : (shIt ws j (shInit s ws)).o.length = ws.length := (shIt_ok j _ hi1).len
          have hsf := share_fair hck hg
          have hsk := sharesE_ok hsf.1
          refine Sy.heap (fun w h => St.intRows h) ?_
          generalize (shIt ws j (shInit s ws)).o = out at *
          rw [← hlo] at hv
          subst hv
          refine sy_sq ?_
          refine sp rfl (PE.move rfl) rfl ?_
          refine sy_sq ?_
          refine sp rfl (PE.extract rfl rfl) rfl ?_
          refine sy_sq ?_
          refine sp rfl (PE.extract rfl rfl) rfl ?_
          refine sy_sq ?_
          refine sp rfl (PE.assign rfl) rfl ?_
          refine sy_sq ?_
          refine sp rfl (PE.assign rfl) rfl ?_
          refine sy_sn ?_
          refine sy_nx ?_
          refine sy_seq ?_
          refine sy_tx' [0, 1, 2, 3, 4, 5, 6, 7, 8] rfl ?_
          refine sy_sq ?_
          refine sp rfl (PE.move rfl) rfl ?_
          refine sy_sq ?_
          refine sp rfl (PE.move rfl) rfl ?_
          refine sy_sq ?_
          refine sp rfl (PE.move rfl) rfl ?_
          refine sy_sq ?_
          refine cl rfl cal37 rfl rfl (c_Fair s ws sh a3 a4 c3 c4 hl hl2 _ _) ?_
          rintro _ _ _ ⟨⟨j2, hj2, rfl⟩, rfl, rfl⟩
          have e : fairR s ws sh j2 = (false, sharesE ws sh) := by rw [fairR_eq hj2]; simp [hck, hse]
          rw [e]
          refine sy_sq ?_
          refine sp rfl (PE.move rfl) rfl ?_
          refine sy_sq ?_
          refine sp rfl (PE.extract rfl rfl) rfl ?_
          refine sy_sq ?_
          refine sp rfl (PE.extract rfl rfl) rfl ?_
          refine sy_sq ?_
          refine sp rfl (PE.assign rfl) rfl ?_
          refine sy_sq ?_
          refine sp rfl (PE.assign rfl) rfl ?_
          refine sy_sn ?_
          refine sy_nx ?_
          refine sy_seq ?_
          refine sy_seq ?_
          refine sy_tx' [0, 1, 2, 3, 4, 5, 6, 7, 8, 9, 10, 11, 12, 13, 14, 15, 16, 17, 18, 19, 20, 21, 22, 23, 24] rfl ?_
          refine sy_sq ?_
          refine sp rfl (PE.move rfl) rfl ?_
          refine sy_sq ?_
          refine sp rfl (PE.move rfl) rfl ?_
          refine sy_sq ?_
          refine sp rfl (PE.neq rfl rfl) rfl ?_
          refine sy_sq ?_
          refine sp rfl (PE.move rfl) rfl ?_
          refine sy_sq ?_
          refine sy_case (t := 60) rfl (fun g60 => ?_) (fun g60 => ?_)
          ·
            exact absurd g60 (by first | (simp; done) | (simp [hck]; done) | (simp [hse]; done))
          ·
            refine spG rfl rfl rfl rfl (PE.move rfl) rfl ?_
            refine sy_sq ?_
            refine spG rfl rfl rfl rfl (PE.move rfl) rfl ?_
            refine sy_sq ?_
            refine spG rfl rfl rfl rfl (PE.neq rfl rfl) rfl ?_
            refine sy_sq ?_
            refine sp rfl (PE.pick rfl rfl rfl) rfl ?_
            refine sy_sq ?_
            refine sp rfl (PE.move rfl) rfl ?_
            refine sy_sq ?_
            refine sy_case (t := 65) rfl (fun g65 => ?_) (fun g65 => ?_)
            ·
              exact absurd g65 (by first | (simp; done) | (simp [hck]; done) | (simp [hse]; done))
            ·
              refine spG rfl rfl rfl rfl (PE.move rfl) rfl ?_
              refine sy_sq ?_
              refine spG rfl rfl rfl rfl (PE.move rfl) rfl ?_
              refine sy_sq ?_
              refine spG rfl rfl rfl rfl (PE.neqBool ub4 rfl rfl) rfl ?_
              refine sy_sq ?_
              refine sp rfl (PE.pick rfl rfl rfl) rfl ?_
              refine sy_sq ?_
              refine sp rfl (PE.move rfl) rfl ?_
              refine sy_sq ?_
              refine sy_case (t := 70) rfl (fun g70 => ?_) (fun g70 => ?_)
              ·
                exact absurd g70 (by first | (simp; done) | (simp [hck]; done) | (simp [hse]; done))
              ·
                refine spG rfl rfl rfl rfl (PE.move rfl) rfl ?_
                refine sy_sq ?_
                refine spG rfl rfl rfl rfl (PE.move rfl) rfl ?_
                refine sy_sq ?_
                refine clVG rfl rfl rfl rfl cal38 rfl rfl (c_Eq_int ws ws a3 a c3 c hl hl _ _) ?_
                refine sy_sq ?_
                refine spG rfl rfl rfl rfl (PE.not rfl) rfl ?_
                refine sy_sq ?_
                refine sp rfl (PE.pick rfl rfl rfl) rfl ?_
                refine sy_sq ?_
                refine sp rfl (PE.move rfl) rfl ?_
                refine sy_sq ?_
                refine sy_case (t := 76) rfl (fun g76 => ?_) (fun g76 => ?_)
                ·
                  exact absurd g76 (by first | (simp; done) | (simp [hck]; done) | (simp [hse]; done))
                ·
                  refine spG rfl rfl rfl rfl (PE.move rfl) rfl ?_
                  refine sy_sq ?_
                  refine spG rfl rfl rfl rfl (PE.move rfl) rfl ?_
                  refine sy_sq ?_
                  refine clVG rfl rfl rfl rfl cal38 rfl rfl (c_Eq_int sh sh a4 a2 c4 c2 hl2 hl2 _ _) ?_
                  refine sy_sq ?_
                  refine spG rfl rfl rfl rfl (PE.not rfl) rfl ?_
                  refine sy_sq ?_
                  refine sp rfl (PE.pick rfl rfl rfl) rfl ?_
                  refine sy_sn ?_
                  refine sy_nx ?_
                  refine sy_cond rfl (fun hc3 => ?_) (fun hc3 => ?_)
                  ·
                    exact absurd hc3 (by simp)
                  ·
                    refine sy_skip ?_
                    refine sy_nx ?_
                    refine sy_seq ?_
                    refine sy_seq ?_
                    refine sy_tx' [0, 1] rfl ?_
                    refine sy_sq ?_
                    refine sp rfl (PE.move rfl) rfl ?_
                    refine sy_sq ?_
                    refine sp rfl (PE.neq rfl rfl) rfl ?_
                    refine sy_sn ?_
                    refine sy_nx ?_
                    refine sy_condF (congrArg (fun b => some (Value.bool b)) (decide_eq_false (by simp [hck]))) ?_
                    refine sy_skip ?_
                    refine sy_nx ?_
                    refine sy_seq ?_
                    refine sy_tx' [0, 1, 2, 3, 4, 5, 6, 7, 8, 9, 10, 11, 12, 13] rfl ?_
                    refine sy_sq ?_
                    refine sp rfl (PE.move rfl) rfl ?_
                    refine sy_sq ?_
                    refine sp rfl (PE.move rfl) rfl ?_
                    refine sy_sq ?_
                    refine clV rfl cal34 rfl rfl (c_rShares ws out a (some ⟨bo, 0, none⟩) c _ hl (by omega) _ _) ?_
                    refine sy_sq ?_
                    refine sp rfl (PE.eql rfl rfl) rfl ?_
                    refine sy_sq ?_
                    refine sp rfl (PE.move rfl) rfl ?_
                    refine sy_sq ?_
                    refine sy_case (t := 94) rfl (fun g94 => ?_) (fun g94 => ?_)
                    ·
                      refine spG rfl rfl rfl rfl (PE.move rfl) rfl ?_
                      refine sy_sq ?_
                      refine spG rfl rfl rfl rfl (PE.move rfl) rfl ?_
                      refine sy_sq ?_
                      refine spG rfl rfl rfl rfl (PE.move rfl) rfl ?_
                      refine sy_sq ?_
                      refine clVG rfl rfl rfl rfl cal35 rfl rfl (c_rFair s ws out a (some ⟨bo, 0, none⟩) c _ hlo (by omega) hsk.2 _ _) ?_
                      refine sy_sq ?_
                      refine sp rfl (PE.pick rfl rfl rfl) rfl ?_
                      refine sy_sq ?_
                      refine sp rfl (PE.move rfl) rfl ?_
                      refine sy_sq ?_
                      refine sy_case (t := 100) rfl (fun g100 => ?_) (fun g100 => ?_)
                      ·
                        refine clVG rfl rfl rfl rfl cal16 rfl rfl (c_awake _ _) ?_
                        refine sy_sq ?_
                        refine sp rfl (PE.pick rfl rfl rfl) rfl ?_
                        refine sy_sq ?_
                        refine sp rfl (PE.assign rfl) rfl ?_
                        refine sy_sn ?_
                        refine sy_nx ?_
                        refine sy_ret ?_
                        exact sy_return (vs := [_]) rfl (.cons (RV.tmp rfl) .nil) rfl ⟨rfl, rfl, rfl⟩ (fun _ h => by repeat first | exact h | replace h := St.tail h | replace h := St.ftail h | replace h := St.drop h)
                      ·
                        exact absurd g100 (by simp [hsf.2])
                    ·
                      exact absurd g94 (by simp [hsf.1])
      ·
        have hck : askE s ws ≠ 0 := by simpa using hc1
        refine sy_skip ?_
        refine sy_nx ?_
        refine sy_seq ?_
        refine sy_tx' [0, 1, 2, 3, 4, 5, 6, 7] rfl ?_
        refine sy_sq ?_
        refine sp rfl (PE.move rfl) rfl ?_
        refine sy_sq ?_
        refine sp rfl (PE.move rfl) rfl ?_
        refine sy_sq ?_
        refine cl rfl cal36 rfl rfl (c_Share s ws a3 c3 hl _ _) ?_
        rintro _ _ _ ⟨h, rfl⟩
        obtain ⟨_, rfl, rfl⟩ := h.resolve_right (fun h => hck h.1)
        refine sy_sq ?_
        refine sp rfl (PE.move rfl) rfl ?_
        refine sy_sq ?_
        refine sp rfl (PE.extract rfl rfl) rfl ?_
        refine sy_sq ?_
        refine sp rfl (PE.extract rfl rfl) rfl ?_
        refine sy_sq ?_
        refine sp rfl (PE.assign rfl) rfl ?_
        refine sy_sq ?_
        refine sp rfl (PE.assign rfl) rfl ?_
        refine sy_sn ?_
        refine sy_nx ?_
        refine sy_seq ?_
        refine sy_tx' [0, 1, 2, 3, 4, 5, 6, 7, 8] rfl ?_
        refine sy_sq ?_
        refine sp rfl (PE.move rfl) rfl ?_
        refine sy_sq ?_
        refine sp rfl (PE.move rfl) rfl ?_
        refine sy_sq ?_
        refine sp rfl (PE.move rfl) rfl ?_
        refine sy_sq ?_
        refine cl rfl cal37 rfl rfl (c_Fair s ws sh a3 a4 c3 c4 hl hl2 _ _) ?_
        rintro _ _ _ ⟨⟨j2, hj2, rfl⟩, rfl, rfl⟩
        have e : fairR s ws sh j2 = (false, askE s ws) := by rw [fairR_eq hj2]; simp [hck]
        rw [e]
        refine sy_sq ?_
        refine sp rfl (PE.move rfl) rfl ?_
        refine sy_sq ?_
        refine sp rfl (PE.extract rfl rfl) rfl ?_
        refine sy_sq ?_
        refine sp rfl (PE.extract rfl rfl) rfl ?_
        refine sy_sq ?_
        refine sp rfl (PE.assign rfl) rfl ?_
        refine sy_sq ?_
        refine sp rfl (PE.assign rfl) rfl ?_
        refine sy_sn ?_
        refine sy_nx ?_
        refine sy_seq ?_
        refine sy_seq ?_
        refine sy_tx' [0, 1, 2, 3, 4, 5, 6, 7, 8, 9, 10, 11, 12, 13, 14, 15, 16, 17, 18, 19, 20, 21, 22, 23, 24] rfl ?_
        refine sy_sq ?_
        refine sp rfl (PE.move rfl) rfl ?_
        refine sy_sq ?_
        refine sp rfl (PE.move rfl) rfl ?_
        refine sy_sq ?_
        refine sp rfl (PE.neq rfl rfl) rfl ?_
        refine sy_sq ?_
        refine sp rfl (PE.move rfl) rfl ?_
        refine sy_sq ?_
        refine sy_case (t := 60) rfl (fun g60 => ?_) (fun g60 => ?_)
        ·
          exact absurd g60 (by first | (simp; done) | (simp [hck]; done) | (simp [hse]; done))
        ·
          refine spG rfl rfl rfl rfl (PE.move rfl) rfl ?_
          refine sy_sq ?_
          refine spG rfl rfl rfl rfl (PE.move rfl) rfl ?_
          refine sy_sq ?_
          refine spG rfl rfl rfl rfl (PE.neq rfl rfl) rfl ?_
          refine sy_sq ?_
          refine sp rfl (PE.pick rfl rfl rfl) rfl ?_
          refine sy_sq ?_
          refine sp rfl (PE.move rfl) rfl ?_
          refine sy_sq ?_
          refine sy_case (t := 65) rfl (fun g65 => ?_) (fun g65 => ?_)
          ·
            exact absurd g65 (by first | (simp; done) | (simp [hck]; done) | (simp [hse]; done))
          ·
            refine spG rfl rfl rfl rfl (PE.move rfl) rfl ?_
            refine sy_sq ?_
            refine spG rfl rfl rfl rfl (PE.move rfl) rfl ?_
            refine sy_sq ?_
            refine spG rfl rfl rfl rfl (PE.neqBool ub4 rfl rfl) rfl ?_
            refine sy_sq ?_
            refine sp rfl (PE.pick rfl rfl rfl) rfl ?_
            refine sy_sq ?_
            refine sp rfl (PE.move rfl) rfl ?_
            refine sy_sq ?_
            refine sy_case (t := 70) rfl (fun g70 => ?_) (fun g70 => ?_)
            ·
              exact absurd g70 (by first | (simp; done) | (simp [hck]; done) | (simp [hse]; done))
            ·
              refine spG rfl rfl rfl rfl (PE.move rfl) rfl ?_
              refine sy_sq ?_
              refine spG rfl rfl rfl rfl (PE.move rfl) rfl ?_
              refine sy_sq ?_
              refine clVG rfl rfl rfl rfl cal38 rfl rfl (c_Eq_int ws ws a3 a c3 c hl hl _ _) ?_
              refine sy_sq ?_
              refine spG rfl rfl rfl rfl (PE.not rfl) rfl ?_
              refine sy_sq ?_
              refine sp rfl (PE.pick rfl rfl rfl) rfl ?_
              refine sy_sq ?_
              refine sp rfl (PE.move rfl) rfl ?_
              refine sy_sq ?_
              refine sy_case (t := 76) rfl (fun g76 => ?_) (fun g76 => ?_)
              ·
                exact absurd g76 (by first | (simp; done) | (simp [hck]; done) | (simp [hse]; done))
              ·
                refine spG rfl rfl rfl rfl (PE.move rfl) rfl ?_
                refine sy_sq ?_
                refine spG rfl rfl rfl rfl (PE.move rfl) rfl ?_
                refine sy_sq ?_
                refine clVG rfl rfl rfl rfl cal38 rfl rfl (c_Eq_int sh sh a4 a2 c4 c2 hl2 hl2 _ _) ?_
                refine sy_sq ?_
                refine spG rfl rfl rfl rfl (PE.not rfl) rfl ?_
                refine sy_sq ?_
                refine sp rfl (PE.pick rfl rfl rfl) rfl ?_
                refine sy_sn ?_
                refine sy_nx ?_
                refine sy_cond rfl (fun hc3 => ?_) (fun hc3 => ?_)
                ·
                  exact absurd hc3 (by simp)
                ·
                  refine sy_skip ?_
                  refine sy_nx ?_
                  refine sy_seq ?_
                  refine sy_seq ?_
                  refine sy_tx' [0, 1] rfl ?_
                  refine sy_sq ?_
                  refine sp rfl (PE.move rfl) rfl ?_
                  refine sy_sq ?_
                  refine sp rfl (PE.neq rfl rfl) rfl ?_
                  refine sy_sn ?_
                  refine sy_nx ?_
                  refine sy_condT (congrArg (fun b => some (Value.bool b)) (decide_eq_true hck)) ?_
                  refine sy_seq ?_
                  refine sy_tx' [0, 1, 2, 3, 4, 5, 6] rfl ?_
                  refine sy_sq ?_
                  refine sp rfl (PE.move rfl) rfl ?_
                  refine sy_sq ?_
                  refine sp rfl (PE.lenSl isl42 rfl) rfl ?_
                  refine sy_sq ?_
                  refine sp rfl (PE.eql rfl rfl) rfl ?_
                  refine sy_sq ?_
                  refine sp rfl (PE.move rfl) rfl ?_
                  refine sy_sq ?_
                  refine sy_case (t := 87) rfl (fun g87 => ?_) (fun g87 => ?_)
                  ·
                    refine clVG rfl rfl rfl rfl cal16 rfl rfl (c_awake _ _) ?_
                    refine sy_sq ?_
                    refine sp rfl (PE.pick rfl rfl rfl) rfl ?_
                    refine sy_sq ?_
                    refine sp rfl (PE.assign rfl) rfl ?_
                    refine sy_sn ?_
                    refine sy_nx ?_
                    refine sy_ret ?_
                    refine sy_tr ?_
                    exact sy_return (vs := [_]) rfl (.cons (RV.tmp rfl) .nil) rfl ⟨rfl, rfl, rfl⟩ (fun _ h => by repeat first | exact h | replace h := St.tail h | replace h := St.ftail h | replace h := St.drop h)
                  ·
                    exact absurd g87 (by simp)
end Go.Proofs.Ytaldphhdkmchhaa
