/- Walks of the functions of the program: what each returns and leaves in memory, under the conditions that its theorem names. -/
import Derived.Test.YtaldphhdkmchhaaTy
import Derived.Test.YtaldphhdkmchhaaMa
import Derived.Test.YtaldphhdkmchhaaWk21
import Derived.Test.YtaldphhdkmchhaaEngX
namespace Go.Proofs.Ytaldphhdkmchhaa
set_option linter.unusedSimpArgs false
set_option linter.unusedVariables false
open Go
theorem ag173 : aggN Try.prog 173 = some 4 := by kernel_rfl
theorem ap101 : apT Try.prog 101 = some (173, 4, 32) := by kernel_rfl
theorem cal110 : cal Try.prog 110 = true := by kernel_rfl
theorem cal112 : cal Try.prog 112 = true := by kernel_rfl
theorem cal113 : cal Try.prog 113 = true := by kernel_rfl
theorem cal57 : cal Try.prog 57 = true := by kernel_rfl
theorem cal58 : cal Try.prog 58 = true := by kernel_rfl
theorem cal59 : cal Try.prog 59 = true := by kernel_rfl
theorem cal60 : cal Try.prog 60 = true := by kernel_rfl
theorem cal61 : cal Try.prog 61 = true := by kernel_rfl
theorem cal62 : cal Try.prog 62 = true := by kernel_rfl
theorem cal71 : cal Try.prog 71 = true := by kernel_rfl
theorem cn173 : cellN Try.prog 173 = some 4 := by kernel_rfl
theorem el101 : elN Try.prog 101 = some 4 := by kernel_rfl
theorem eqf34 : eqB Try.prog 10000 34 = some (true, 3) := by kernel_rfl
theorem eqg34 : Try.prog.eqGuardType Try.prog.depth 34 = false := by kernel_rfl
theorem fo173_0 : fOff Try.prog 173 0 = some 0 := by kernel_rfl
theorem fo173_1 : fOff Try.prog 173 1 = some 3 := by kernel_rfl
theorem isl101 : isSl Try.prog 101 = true := by kernel_rfl
theorem pl173 : placeL Try.prog 173 = some [(0, 3), (3, 1)] := by kernel_rfl
theorem sl101 : slE Try.prog 101 = some (173, 4) := by kernel_rfl
theorem zl173 : zeroL Try.prog 173 = some ([.int .i64 0, .int .i64 0, .int .i64 0, .int .i64 0]) := by kernel_rfl
def zst : Sta := ⟨0, 0, 0⟩
def ztw : Twn := ⟨zst, 0, 0, 0, 0, 0, 0, 0, []⟩
/-- The state after a year, and the error. -/
def nxtR (t : Twn) (s : Sta) (r : Int) (bad : Bool) : Sta × Int := match t.rat r with
  | none => (zst, 1)
  | some q => bif !(t.can s q) then (zst, 9) else bif bad && !(decide (s.dry < t.run)) then (zst, 7) else (t.next s q bad, 0)
def nextP (t : Twn) (s : Sta) (r : Int) (bad : Bool) : Sta × Int := bif decide (t.check ≠ 0) then (zst, t.check) else bif !(s.right t) then (zst, 3) else nxtR t s r bad
def allP (t : Twn) (s : Sta) : List Int × Int := bif decide (t.check ≠ 0) then ([], t.check) else bif !(s.right t) then ([], 3) else (canU t s, 0)
def yearP (t : Twn) (r : Int) (bad : Bool) : Twn × Int := bif decide (t.check ≠ 0) then (ztw, t.check) else bif decide ((nxtR t t.now r bad).2 ≠ 0) then (ztw, (nxtR t t.now r bad).2) else ({ t with now := (nxtR t t.now r bad).1 }, 0)
theorem nxt_none {t : Twn} {s : Sta} {r : Int} {bad : Bool} (h : t.rat r = none) : nxtR t s r bad = (zst, 1) := by unfold nxtR; rw [h]
theorem nxt_full {t : Twn} {s : Sta} {r : Int} {q : Rn} {bad : Bool} (h : t.rat r = some q) (hc : t.can s q = false) : nxtR t s r bad = (zst, 9) := by unfold nxtR; rw [h]; simp [hc]
theorem nxt_clash {t : Twn} {s : Sta} {r : Int} {q : Rn} {bad : Bool} (h : t.rat r = some q) (hc : t.can s q = true) (hb : (bad && !(decide (s.dry < t.run))) = true) : nxtR t s r bad = (zst, 7) := by unfold nxtR; rw [h]; simp only; rw [hc, hb]; rfl
theorem nxt_ok {t : Twn} {s : Sta} {r : Int} {q : Rn} {bad : Bool} (h : t.rat r = some q) (hc : t.can s q = true) (hb : (bad && !(decide (s.dry < t.run))) = false) : nxtR t s r bad = (t.next s q bad, 0) := by unfold nxtR; rw [h]; simp only; rw [hc, hb]; rfl
theorem nxt_sold {t : Twn} {s : Sta} {r : Int} {bad : Bool} (h : soldE t s r ≠ 0) : nxtR t s r bad = (zst, soldE t s r) := by
  unfold soldE at h ⊢
  cases hr : t.rat r with
  | none => rw [nxt_none hr]
  | some q =>
    rw [hr] at h
    cases hc : t.can s q with
    | true => simp [hc] at h
    | false => rw [nxt_full hr hc]; simp [hc]
theorem sold_ok {t : Twn} {s : Sta} {r : Int} (h : soldE t s r = 0) : ∃ q, t.rat r = some q ∧ t.can s q = true := by
  unfold soldE at h
  cases hr : t.rat r with
  | none => rw [hr] at h; cases h
  | some q =>
    rw [hr] at h
    cases hc : t.can s q with
    | true => exact ⟨q, rfl, hc⟩
    | false => simp [hc] at h
theorem nxt_right {t : Twn} (ht : t.ok) {s : Sta} (hs : s.right t = true) {r : Int} {bad : Bool} (h : (nxtR t s r bad).2 = 0) : (nxtR t s r bad).1.right t = true := by
  unfold nxtR at h ⊢
  cases hr : t.rat r with
  | none => rw [hr] at h; cases h
  | some q =>
    rw [hr] at h
    simp only at h ⊢
    cases hc : t.can s q with
    | false => rw [hc] at h; cases h
    | true =>
      rw [hc] at h
      cases hb : (bad && !(decide (s.dry < t.run))) with
      | true => rw [hb] at h; cases h
      | false =>
        refine next_right ht hs (List.mem_of_getElem? (rat_iff.1 hr).2) hc (fun hbad => ?_)
        subst hbad
        simpa using hb

theorem c_year (t : Twn) (ht : t.ok) (s : Sta) (hs : s.right t = true) (r : Int) (bad : Bool) (ba oa ca : Nat) (bt bw m : Nat) (y : List Int) (fs : Value) (H : Heap) (R : Facts) [hR : MemRows (some ⟨ba, oa, none⟩) 2 (rrows t.rats) R] [hT : MemRows (some ⟨bt, 0, none⟩) 11 [twl t (t.sl (some ⟨ba, oa, none⟩) ca)] R] [hW : Mem1 bw (cel 153 (rcs t (t.sl (some ⟨ba, oa, none⟩) ca) bt y fs m)) H] :
    FnV Try.prog 110 [.pointer (some ⟨bw, 0, none⟩), s.v, .int .i64 r, .bool bad] H R (.tuple #[(nxtR t s r bad).1.v, .int .i64 (nxtR t s r bad).2]) := by
  refine fn_of Try.func110 rfl Try.ntmps110 rfl ?_
  refine sy_seq ?_
  refine sy_tx' [0, 1, 2] rfl ?_
  refine sy_sq ?_
  refine bx rfl rfl rfl (fun b5 => ?_)
  refine sy_sq ?_
  refine alc rfl zl23 rfl (fun b8 => ?_)
  refine sy_sq ?_
  refine sp rfl (PE.assign rfl) rfl ?_
  refine sy_sn ?_
  refine sy_nx ?_
  refine sy_seq ?_
  refine sy_tx' [0, 1, 2, 3, 4, 5] rfl ?_
  refine sy_sq ?_
  refine sp rfl (PE.move rfl) rfl ?_
  refine sy_sq ?_
  refine sp rfl (PE.nilCheck rfl) rfl ?_
  refine sy_sq ?_
  refine sp rfl (PE.fieldAddr fo153_0 rfl) rfl ?_
  refine sy_sq ?_
  refine spL rfl rfl (lhA [_, _, _, _, _, _, _, _, _, _, _] ag26 rfl rfl rfl) rfl ?_
  refine sy_sq ?_
  refine sp rfl (PE.makeFunc rfl rfl) rfl ?_
  refine sy_sq ?_
  refine sp rfl (PE.assign rfl) rfl ?_
  refine sy_sn ?_
  refine sy_nx ?_
  refine sy_seq ?_
  refine sy_block ?_
  refine sy_seq ?_
  refine sy_tx' [0, 1, 2, 3, 4] rfl ?_
  refine sy_sq ?_
  refine sp rfl (PE.move rfl) rfl ?_
  refine sy_sq ?_
  refine sp rfl (PE.move rfl) rfl ?_
  refine sy_sq ?_
  refine clFV rfl rfl (cal93) rfl rfl (c_ration t r _ _ (by have := ht.many; omega) _ _) ?_
  refine sy_sq ?_
  refine sp rfl (PE.not rfl) rfl ?_
  refine sy_sq ?_
  refine sp rfl (PE.assign rfl) rfl ?_
  refine sy_sn ?_
  refine sy_nx ?_
  refine sy_cond rfl (fun hc0 => ?_) (fun hc0 => ?_)
  ·
   have hres := nxt_none (s := s) (bad := bad) (rat_off hc0)
   refine sy_seq ?_
   refine sy_tx' [0, 1, 2] rfl ?_
   refine sy_sq ?_
   refine sp rfl (PE.build (out := [_, _, _]) pl23 zl23 rfl rfl) rfl ?_
   refine sy_sq ?_
   refine sto rfl rfl rfl cn23 rfl rfl rfl rfl ?_
   refine sy_sq ?_
   refine sp rfl (PE.assign rfl) rfl ?_
   refine sy_sn ?_
   refine sy_nx ?_
   refine sy_ret ?_
   refine sy_br ?_
   refine sy_tr ?_
   exact sy_return (vs := [_, _]) rfl (.cons (RV.cell rfl (lhA [_, _, _] ag23 rfl rfl rfl)) (.cons (RV.tmp rfl) .nil)) (by rw [hres]; rfl) ⟨rfl, rfl, rfl⟩ (fun _ h => by repeat first | exact h | replace h := St.tail h | replace h := St.ftail h | replace h := St.drop h)
  ·
   obtain ⟨h0, q, hq⟩ := rat_on hc0
   have hrt := rat_iff.2 ⟨h0, hq⟩
   refine sy_seq ?_
   refine sy_draw [0, 1, 3, 7, 0, 0, 63, 127, 255] (.tk 0 (.tk 1 (.tk 2 (.ld 3 (.ld 4 (.tk 5 (.big 6 (.tk 7 (.tk 8 .done))))))))) mixed (by kernel_rfl) ?_
   refine tk rfl (PE.move rfl) rfl ?_
   refine tk rfl (PE.nilCheck rfl) rfl ?_
   refine tk rfl (PE.fieldAddr fo153_0 rfl) rfl ?_
   refine ld rfl rfl (lhA [_, _, _, _, _, _, _, _, _, _, _] ag26 rfl rfl rfl) rfl ?_
   refine ld rfl rfl (lhA [_, _, _] ag23 rfl rfl rfl) rfl ?_
   refine tk rfl (PE.move rfl) rfl ?_
   refine sy_bg ?_
   refine clV rfl cal94 rfl rfl (c_allowed t s r q ba oa ca h0 hq _ _) ?_
   refine bg (fun w hs => ⟨trivial, trivial, trivial⟩) ?_
   refine tk rfl (PE.not rfl) rfl ?_
   refine tk rfl (PE.assign rfl) rfl ?_
   refine sy_dn ?_
   refine sy_nx ?_
   refine sy_cond rfl (fun hc1 => ?_) (fun hc1 => ?_)
   ·
    have hcan : t.can s q = false := by simpa using hc1
    have hres := nxt_full (s := s) (bad := bad) hrt hcan
    refine sy_seq ?_
    refine sy_tx' [0, 1, 2] rfl ?_
    refine sy_sq ?_
    refine sp rfl (PE.build (out := [_, _, _]) pl23 zl23 rfl rfl) rfl ?_
    refine sy_sq ?_
    refine sto rfl rfl rfl cn23 rfl rfl rfl rfl ?_
    refine sy_sq ?_
    refine sp rfl (PE.assign rfl) rfl ?_
    refine sy_sn ?_
    refine sy_nx ?_
    refine sy_ret ?_
    refine sy_br ?_
    refine sy_tr ?_
    exact sy_return (vs := [_, _]) rfl (.cons (RV.cell rfl (lhA [_, _, _] ag23 rfl rfl rfl)) (.cons (RV.tmp rfl) .nil)) (by rw [hres]; rfl) ⟨rfl, rfl, rfl⟩ (fun _ h => by repeat first | exact h | replace h := St.tail h | replace h := St.ftail h | replace h := St.drop h)
   ·
    have hcan : t.can s q = true := by simpa using hc1
    refine sy_seq ?_
    refine sy_draw [0, 1, 3, 7, 15, 31, 63, 3, 255, 511, 1023, 2047] (.tk 0 (.tk 1 (.tk 2 (.tk 3 (.tk 4 (.tk 5 (.ld 6 (.ld 7 (.big 8 (.tk 9 (.tk 10 (.tk 11 .done)))))))))))) mixed (by kernel_rfl) ?_
    refine tk rfl (PE.move rfl) rfl ?_
    refine tk rfl (PE.move rfl) rfl ?_
    refine sy_case (t := 34) rfl (fun g34 => ?_) (fun g34 => ?_)
    ·
     subst g34
     refine tkG rfl rfl rfl rfl (PE.move rfl) rfl ?_
     refine tkG rfl rfl rfl rfl (PE.nilCheck rfl) rfl ?_
     refine tkG rfl rfl rfl rfl (PE.fieldAddr fo153_1 rfl) rfl ?_
     refine tkG rfl rfl rfl rfl (PE.fieldAddr fo148_0 rfl) rfl ?_
     refine ldG rfl rfl rfl rfl rfl (lh sc146 rfl rfl) rfl ?_
     refine ldG rfl rfl rfl rfl rfl (lhA [_, _, _] ag23 rfl rfl rfl) rfl ?_
     refine sy_bg ?_
     refine clFVG rfl rfl rfl rfl rfl (cal126) rfl rfl (c_may t s ba oa ca bt _ _) ?_
     refine bg (fun w hs => ⟨trivial, trivial, trivial⟩) ?_
     refine tkG rfl rfl rfl rfl (PE.not rfl) rfl ?_
     refine tk rfl (PE.pick rfl rfl rfl) rfl ?_
     refine tk rfl (PE.assign rfl) rfl ?_
     refine sy_dn ?_
     refine sy_nx ?_
     refine sy_cond rfl (fun hc2 => ?_) (fun hc2 => ?_)
     ·
      have hres := nxt_clash (bad := true) hrt hcan (by rw [Bool.true_and]; exact hc2)
      refine sy_seq ?_
      refine sy_tx' [0, 1, 2] rfl ?_
      refine sy_sq ?_
      refine sp rfl (PE.build (out := [_, _, _]) pl23 zl23 rfl rfl) rfl ?_
      refine sy_sq ?_
      refine sto rfl rfl rfl cn23 rfl rfl rfl rfl ?_
      refine sy_sq ?_
      refine sp rfl (PE.assign rfl) rfl ?_
      refine sy_sn ?_
      refine sy_nx ?_
      refine sy_ret ?_
      refine sy_br ?_
      refine sy_tr ?_
      exact sy_return (vs := [_, _]) rfl (.cons (RV.cell rfl (lhA [_, _, _] ag23 rfl rfl rfl)) (.cons (RV.tmp rfl) .nil)) (by rw [hres]; rfl) ⟨rfl, rfl, rfl⟩ (fun _ h => by repeat first | exact h | replace h := St.tail h | replace h := St.ftail h | replace h := St.drop h)
     ·
      have hres := nxt_ok (bad := true) hrt hcan (by rw [Bool.true_and]; exact hc2)
      refine sy_skip ?_
      refine sy_bn ?_
      refine sy_nx ?_
      refine sy_seq ?_
      refine sy_draw [0, 1, 3, 7, 0, 0, 0, 127, 255, 511] (.tk 0 (.tk 1 (.tk 2 (.ld 3 (.ld 4 (.tk 5 (.tk 6 (.big 7 (.big 8 (.tk 9 .done)))))))))) mixed (by kernel_rfl) ?_
      refine tk rfl (PE.move rfl) rfl ?_
      refine tk rfl (PE.nilCheck rfl) rfl ?_
      refine tk rfl (PE.fieldAddr fo153_0 rfl) rfl ?_
      refine ld rfl rfl (lhA [_, _, _, _, _, _, _, _, _, _, _] ag26 rfl rfl rfl) rfl ?_
      refine ld rfl rfl (lhA [_, _, _] ag23 rfl rfl rfl) rfl ?_
      refine tk rfl (PE.move rfl) rfl ?_
      refine tk rfl (PE.move rfl) rfl ?_
      refine sy_bg ?_
      refine clV rfl cal102 rfl rfl (c_next t ht s hs r q _ ba oa ca h0 hq (can_le hcan) _ _) ?_
      refine bg (fun w hs => ⟨trivial, trivial, trivial⟩) ?_
      refine sy_bg ?_
      refine sto rfl rfl rfl cn23 rfl rfl rfl rfl ?_
      refine bg (fun w hs => trivial) ?_
      refine tk rfl (PE.assign rfl) rfl ?_
      refine sy_dn ?_
      refine sy_nx ?_
      refine sy_ret ?_
      exact sy_return (vs := [_, _]) rfl (.cons (RV.cell rfl (lhA [_, _, _] ag23 rfl rfl rfl)) (.cons (RV.tmp rfl) .nil)) (by rw [hres]; rfl) ⟨rfl, rfl, rfl⟩ (fun _ h => by repeat first | exact h | replace h := St.tail h | replace h := St.ftail h | replace h := St.drop h)
    ·
     subst g34
     have hres := nxt_ok (bad := false) hrt hcan rfl
     refine tkN rfl rfl rfl rfl rfl rfl rfl rfl ?_
     refine tkN rfl rfl rfl rfl rfl rfl rfl rfl ?_
     refine tkN rfl rfl rfl rfl rfl rfl rfl rfl ?_
     refine tkN rfl rfl rfl rfl rfl rfl rfl rfl ?_
     refine ldN rfl rfl rfl rfl rfl rfl rfl rfl ?_
     refine ldN rfl rfl rfl rfl rfl rfl rfl rfl ?_
     refine sy_bg ?_
     refine spN rfl rfl rfl rfl rfl rfl rfl rfl ?_
     refine bg (fun w hs => ⟨trivial, trivial, trivial⟩) ?_
     refine tkN rfl rfl rfl rfl rfl rfl rfl rfl ?_
     refine tk rfl (PE.pick rfl rfl rfl) rfl ?_
     refine tk rfl (PE.assign rfl) rfl ?_
     refine sy_dn ?_
     refine sy_nx ?_
     refine sy_condF rfl ?_
     refine sy_skip ?_
     refine sy_bn ?_
     refine sy_nx ?_
     refine sy_seq ?_
     refine sy_draw [0, 1, 3, 7, 0, 0, 0, 127, 255, 511] (.tk 0 (.tk 1 (.tk 2 (.ld 3 (.ld 4 (.tk 5 (.tk 6 (.big 7 (.big 8 (.tk 9 .done)))))))))) mixed (by kernel_rfl) ?_
     refine tk rfl (PE.move rfl) rfl ?_
     refine tk rfl (PE.nilCheck rfl) rfl ?_
     refine tk rfl (PE.fieldAddr fo153_0 rfl) rfl ?_
     refine ld rfl rfl (lhA [_, _, _, _, _, _, _, _, _, _, _] ag26 rfl rfl rfl) rfl ?_
     refine ld rfl rfl (lhA [_, _, _] ag23 rfl rfl rfl) rfl ?_
     refine tk rfl (PE.move rfl) rfl ?_
     refine tk rfl (PE.move rfl) rfl ?_
     refine sy_bg ?_
     refine clV rfl cal102 rfl rfl (c_next t ht s hs r q _ ba oa ca h0 hq (can_le hcan) _ _) ?_
     refine bg (fun w hs => ⟨trivial, trivial, trivial⟩) ?_
     refine sy_bg ?_
     refine sto rfl rfl rfl cn23 rfl rfl rfl rfl ?_
     refine bg (fun w hs => trivial) ?_
     refine tk rfl (PE.assign rfl) rfl ?_
     refine sy_dn ?_
     refine sy_nx ?_
     refine sy_ret ?_
     exact sy_return (vs := [_, _]) rfl (.cons (RV.cell rfl (lhA [_, _, _] ag23 rfl rfl rfl)) (.cons (RV.tmp rfl) .nil)) (by rw [hres]; rfl) ⟨rfl, rfl, rfl⟩ (fun _ h => by repeat first | exact h | replace h := St.tail h | replace h := St.ftail h | replace h := St.drop h)

theorem c_Next (t : Twn) (s : Sta) (r : Int) (bad : Bool) (hl : t.rats.length ≤ 9223372036854775807) (ba oa ca : Nat) (H : Heap) (R : Facts) [hR : MemRows (some ⟨ba, oa, none⟩) 2 (rrows t.rats) R] :
    FnV Try.prog 66 [t.v (t.sl (some ⟨ba, oa, none⟩) ca), s.v, .int .i64 r, .bool bad] H R (.tuple #[(nextP t s r bad).1.v, .int .i64 (nextP t s r bad).2]) := by
  refine fn_of Try.func66 rfl Try.ntmps66 rfl ?_
  refine sy_seq ?_
  refine sy_tx' [0, 1, 2, 3] rfl ?_
  refine sy_sq ?_
  refine bx rfl rfl rfl (fun b4 => ?_)
  refine sy_sq ?_
  refine bx rfl rfl rfl (fun b5 => ?_)
  refine sy_sq ?_
  refine alc rfl zl23 rfl (fun b8 => ?_)
  refine sy_sq ?_
  refine sp rfl (PE.assign rfl) rfl ?_
  refine sy_sn ?_
  refine sy_nx ?_
  refine sy_seq ?_
  refine sy_tx' [0, 1, 2, 3, 4, 5, 6, 7] rfl ?_
  refine sy_sq ?_
  refine spL rfl rfl (lhA [_, _, _, _, _, _, _, _, _, _, _] ag26 rfl rfl rfl) rfl ?_
  refine sy_sq ?_
  refine spL rfl rfl (lhA [_, _, _] ag23 rfl rfl rfl) rfl ?_
  refine sy_sq ?_
  refine cl rfl cal107 rfl rfl (c_state t s hl ba oa ca _ _) ?_
  rintro _ _ _ (⟨hck, rfl, rfl, rfl⟩ | ⟨hck, hrt, rfl, rfl, rfl⟩ | ⟨hck, hrt, bw, m, bt, rfl, rfl, rfl⟩)
  ·
   refine sy_sq ?_
   refine sp rfl (PE.move rfl) rfl ?_
   refine sy_sq ?_
   refine sp rfl (PE.extract rfl rfl) rfl ?_
   refine sy_sq ?_
   refine sp rfl (PE.extract rfl rfl) rfl ?_
   refine sy_sq ?_
   refine sp rfl (PE.assign rfl) rfl ?_
   refine sy_sq ?_
   refine sp rfl (PE.assign rfl) rfl ?_
   refine sy_sn ?_
   refine sy_nx ?_
   refine sy_seq ?_
   refine sy_seq ?_
   refine sy_tx' [0, 1] rfl ?_
   refine sy_sq ?_
   refine sp rfl (PE.move rfl) rfl ?_
   refine sy_sq ?_
   refine sp rfl (PE.neq rfl rfl) rfl ?_
   refine sy_sn ?_
   refine sy_nx ?_
   refine sy_condT (congrArg (fun b => some (Value.bool b)) (decide_eq_true hck)) ?_
   refine sy_seq ?_
   refine sy_tx' [0, 1, 2, 3] rfl ?_
   refine sy_sq ?_
   refine sp rfl (PE.build (out := [_, _, _]) pl23 zl23 rfl rfl) rfl ?_
   refine sy_sq ?_
   refine sp rfl (PE.move rfl) rfl ?_
   refine sy_sq ?_
   refine sto rfl rfl rfl cn23 rfl rfl rfl rfl ?_
   refine sy_sq ?_
   refine sp rfl (PE.assign rfl) rfl ?_
   refine sy_sn ?_
   refine sy_nx ?_
   refine sy_ret ?_
   refine sy_tr ?_
   exact sy_return (vs := [_, _]) rfl (.cons (RV.cell rfl (lhA [_, _, _] ag23 rfl rfl rfl)) (.cons (RV.tmp rfl) .nil)) (by rw [show nextP t s r bad = (zst, t.check) from by simp [nextP, hck]]; rfl) ⟨rfl, rfl, rfl⟩ (fun _ h => by repeat first | exact h | replace h := St.tail h | replace h := St.ftail h | replace h := St.drop h)
  ·
   refine sy_sq ?_
   refine sp rfl (PE.move rfl) rfl ?_
   refine sy_sq ?_
   refine sp rfl (PE.extract rfl rfl) rfl ?_
   refine sy_sq ?_
   refine sp rfl (PE.extract rfl rfl) rfl ?_
   refine sy_sq ?_
   refine sp rfl (PE.assign rfl) rfl ?_
   refine sy_sq ?_
   refine sp rfl (PE.assign rfl) rfl ?_
   refine sy_sn ?_
   refine sy_nx ?_
   refine sy_seq ?_
   refine sy_seq ?_
   refine sy_tx' [0, 1] rfl ?_
   refine sy_sq ?_
   refine sp rfl (PE.move rfl) rfl ?_
   refine sy_sq ?_
   refine sp rfl (PE.neq rfl rfl) rfl ?_
   refine sy_sn ?_
   refine sy_nx ?_
   refine sy_condT (rfl) ?_
   refine sy_seq ?_
   refine sy_tx' [0, 1, 2, 3] rfl ?_
   refine sy_sq ?_
   refine sp rfl (PE.build (out := [_, _, _]) pl23 zl23 rfl rfl) rfl ?_
   refine sy_sq ?_
   refine sp rfl (PE.move rfl) rfl ?_
   refine sy_sq ?_
   refine sto rfl rfl rfl cn23 rfl rfl rfl rfl ?_
   refine sy_sq ?_
   refine sp rfl (PE.assign rfl) rfl ?_
   refine sy_sn ?_
   refine sy_nx ?_
   refine sy_ret ?_
   refine sy_tr ?_
   exact sy_return (vs := [_, _]) rfl (.cons (RV.cell rfl (lhA [_, _, _] ag23 rfl rfl rfl)) (.cons (RV.tmp rfl) .nil)) (by rw [show nextP t s r bad = (zst, 3) from by simp [nextP, hck, hrt]]; rfl) ⟨rfl, rfl, rfl⟩ (fun _ h => by repeat first | exact h | replace h := St.tail h | replace h := St.ftail h | replace h := St.drop h)
  ·
   refine sy_sq ?_
   refine sp rfl (PE.move rfl) rfl ?_
   refine sy_sq ?_
   refine sp rfl (PE.extract rfl rfl) rfl ?_
   refine sy_sq ?_
   refine sp rfl (PE.extract rfl rfl) rfl ?_
   refine sy_sq ?_
   refine sp rfl (PE.assign rfl) rfl ?_
   refine sy_sq ?_
   refine sp rfl (PE.assign rfl) rfl ?_
   refine sy_sn ?_
   refine sy_nx ?_
   refine sy_seq ?_
   refine sy_seq ?_
   refine sy_tx' [0, 1] rfl ?_
   refine sy_sq ?_
   refine sp rfl (PE.move rfl) rfl ?_
   refine sy_sq ?_
   refine sp rfl (PE.neq rfl rfl) rfl ?_
   refine sy_sn ?_
   refine sy_nx ?_
   refine sy_condF (rfl) ?_
   refine sy_skip ?_
   refine sy_nx ?_
   refine sy_seq ?_
   refine sy_tx' [0, 1, 2, 3, 4, 5, 6, 7, 8] rfl ?_
   refine sy_sq ?_
   have hok := (ok_of_check hck).1
   refine sp rfl (PE.move rfl) rfl ?_
   refine sy_sq ?_
   refine spL rfl rfl (lhA [_, _, _] ag23 rfl rfl rfl) rfl ?_
   refine sy_sq ?_
   refine sp rfl (PE.move rfl) rfl ?_
   refine sy_sq ?_
   refine sp rfl (PE.move rfl) rfl ?_
   refine sy_sq ?_
   refine clV rfl cal110 rfl rfl (c_year t hok s hrt r bad ba oa ca bt bw m _ _ _ _) ?_
   refine sy_sq ?_
   refine sp rfl (PE.extract rfl rfl) rfl ?_
   refine sy_sq ?_
   refine sp rfl (PE.extract rfl rfl) rfl ?_
   refine sy_sq ?_
   refine sto rfl rfl rfl cn23 rfl rfl rfl rfl ?_
   refine sy_sq ?_
   refine sp rfl (PE.assign rfl) rfl ?_
   refine sy_sn ?_
   refine sy_nx ?_
   refine sy_ret ?_
   exact sy_return (vs := [_, _]) rfl (.cons (RV.cell rfl (lhA [_, _, _] ag23 rfl rfl rfl)) (.cons (RV.tmp rfl) .nil)) (by rw [show nextP t s r bad = nxtR t s r bad from by simp [nextP, hck, hrt]]; rfl) ⟨rfl, rfl, rfl⟩ (fun w h => (((((h.del b8).del b4).del b5).del bw).del m).ftail)

theorem c_Allowed (t : Twn) (s : Sta) (hl : t.rats.length ≤ 9223372036854775807) (ba oa ca : Nat) (H : Heap) (R : Facts) [hR : MemRows (some ⟨ba, oa, none⟩) 2 (rrows t.rats) R] :
    Fn Try.prog 65 [t.v (t.sl (some ⟨ba, oa, none⟩) ca), s.v] H R (fun v H' R' => ∃ o : OSl 3 1 (irows (allP t s).1), v = .tuple #[o.fs, .int .i64 (allP t s).2] ∧ H' = o.G ++ H ∧ R' = R) := by
  refine fn_of Try.func65 rfl Try.ntmps65 rfl ?_
  refine sy_seq ?_
  refine sy_tx' [0, 1, 2, 3] rfl ?_
  refine sy_sq ?_
  refine bx rfl rfl rfl (fun b2 => ?_)
  refine sy_sq ?_
  refine bx rfl rfl rfl (fun b3 => ?_)
  refine sy_sq ?_
  refine sp rfl (PE.assign rfl) rfl ?_
  refine sy_sq ?_
  refine sp rfl (PE.assign rfl) rfl ?_
  refine sy_sn ?_
  refine sy_nx ?_
  refine sy_seq ?_
  refine sy_tx' [0, 1, 2, 3, 4, 5, 6, 7] rfl ?_
  refine sy_sq ?_
  refine spL rfl rfl (lhA [_, _, _, _, _, _, _, _, _, _, _] ag26 rfl rfl rfl) rfl ?_
  refine sy_sq ?_
  refine spL rfl rfl (lhA [_, _, _] ag23 rfl rfl rfl) rfl ?_
  refine sy_sq ?_
  refine cl rfl cal107 rfl rfl (c_state t s hl ba oa ca _ _) ?_
  rintro _ _ _ (⟨hck, rfl, rfl, rfl⟩ | ⟨hck, hrt, rfl, rfl, rfl⟩ | ⟨hck, hrt, bw, m, bt, rfl, rfl, rfl⟩)
  ·
   refine sy_sq ?_
   refine sp rfl (PE.move rfl) rfl ?_
   refine sy_sq ?_
   refine sp rfl (PE.extract rfl rfl) rfl ?_
   refine sy_sq ?_
   refine sp rfl (PE.extract rfl rfl) rfl ?_
   refine sy_sq ?_
   refine sp rfl (PE.assign rfl) rfl ?_
   refine sy_sq ?_
   refine sp rfl (PE.assign rfl) rfl ?_
   refine sy_sn ?_
   refine sy_nx ?_
   refine sy_seq ?_
   refine sy_seq ?_
   refine sy_tx' [0, 1] rfl ?_
   refine sy_sq ?_
   refine sp rfl (PE.move rfl) rfl ?_
   refine sy_sq ?_
   refine sp rfl (PE.neq rfl rfl) rfl ?_
   refine sy_sn ?_
   refine sy_nx ?_
   refine sy_condT (congrArg (fun b => some (Value.bool b)) (decide_eq_true hck)) ?_
   refine sy_seq ?_
   refine sy_tx' [0, 1, 2] rfl ?_
   refine sy_sq ?_
   have e : allP t s = ([], t.check) := by simp [allP, hck]
   refine sp rfl (PE.move rfl) rfl ?_
   refine sy_sq ?_
   refine sp rfl (PE.assign rfl) rfl ?_
   refine sy_sq ?_
   refine sp rfl (PE.assign rfl) rfl ?_
   refine sy_sn ?_
   refine sy_nx ?_
   refine sy_ret ?_
   refine sy_tr ?_
   rw [e]
   exact sy_return (vs := [_, _]) rfl (.cons (RV.tmp rfl) (.cons (RV.tmp rfl) .nil)) rfl ⟨OSl.nil _ _, rfl, rfl, rfl⟩ (fun _ h => by repeat first | exact h | replace h := St.tail h | replace h := St.ftail h | replace h := St.drop h)
  ·
   refine sy_sq ?_
   refine sp rfl (PE.move rfl) rfl ?_
   refine sy_sq ?_
   refine sp rfl (PE.extract rfl rfl) rfl ?_
   refine sy_sq ?_
   refine sp rfl (PE.extract rfl rfl) rfl ?_
   refine sy_sq ?_
   refine sp rfl (PE.assign rfl) rfl ?_
   refine sy_sq ?_
   refine sp rfl (PE.assign rfl) rfl ?_
   refine sy_sn ?_
   refine sy_nx ?_
   refine sy_seq ?_
   refine sy_seq ?_
   refine sy_tx' [0, 1] rfl ?_
   refine sy_sq ?_
   refine sp rfl (PE.move rfl) rfl ?_
   refine sy_sq ?_
   refine sp rfl (PE.neq rfl rfl) rfl ?_
   refine sy_sn ?_
   refine sy_nx ?_
   refine sy_condT (rfl) ?_
   refine sy_seq ?_
   refine sy_tx' [0, 1, 2] rfl ?_
   refine sy_sq ?_
   have e : allP t s = ([], 3) := by simp [allP, hck, hrt]
   refine sp rfl (PE.move rfl) rfl ?_
   refine sy_sq ?_
   refine sp rfl (PE.assign rfl) rfl ?_
   refine sy_sq ?_
   refine sp rfl (PE.assign rfl) rfl ?_
   refine sy_sn ?_
   refine sy_nx ?_
   refine sy_ret ?_
   refine sy_tr ?_
   rw [e]
   exact sy_return (vs := [_, _]) rfl (.cons (RV.tmp rfl) (.cons (RV.tmp rfl) .nil)) rfl ⟨OSl.nil _ _, rfl, rfl, rfl⟩ (fun _ h => by repeat first | exact h | replace h := St.tail h | replace h := St.ftail h | replace h := St.drop h)
  ·
   refine sy_sq ?_
   refine sp rfl (PE.move rfl) rfl ?_
   refine sy_sq ?_
   refine sp rfl (PE.extract rfl rfl) rfl ?_
   refine sy_sq ?_
   refine sp rfl (PE.extract rfl rfl) rfl ?_
   refine sy_sq ?_
   refine sp rfl (PE.assign rfl) rfl ?_
   refine sy_sq ?_
   refine sp rfl (PE.assign rfl) rfl ?_
   refine sy_sn ?_
   refine sy_nx ?_
   refine sy_seq ?_
   refine sy_seq ?_
   refine sy_tx' [0, 1] rfl ?_
   refine sy_sq ?_
   refine sp rfl (PE.move rfl) rfl ?_
   refine sy_sq ?_
   refine sp rfl (PE.neq rfl rfl) rfl ?_
   refine sy_sn ?_
   refine sy_nx ?_
   refine sy_condF (rfl) ?_
   refine sy_skip ?_
   refine sy_nx ?_
   refine sy_seq ?_
   refine sy_tx' [0] rfl ?_
   refine sy_sq ?_
   have hok := (ok_of_check hck).1
   have e : allP t s = (canU t s, 0) := by simp [allP, hck, hrt]
   refine sp rfl (PE.assign rfl) rfl ?_
   refine sy_sn ?_
   refine sy_nx ?_
   refine sy_seq ?_
   refine sy_seq ?_
   refine sy_tx' [0, 1, 2, 3, 4, 5, 6] rfl ?_
   refine sy_sq ?_
   refine sp rfl (PE.move rfl) rfl ?_
   refine sy_sq ?_
   refine sp rfl (PE.nilCheck rfl) rfl ?_
   refine sy_sq ?_
   refine sp rfl (PE.fieldAddr fo153_0 rfl) rfl ?_
   refine sy_sq ?_
   refine sp rfl (PE.fieldAddr fo26_8 rfl) rfl ?_
   refine sy_sq ?_
   refine spL rfl rfl (lh sc24 rfl rfl) rfl ?_
   refine sy_sq ?_
   refine sp rfl (PE.lenSl isl24 rfl) rfl ?_
   refine sy_sq ?_
   refine sp rfl (PE.move rfl) rfl ?_
   refine sy_sn ?_
   refine sy_nx ?_
   refine sy_block ?_
   have hlen := hok.many
   refine sy_loop (ι := (k : {k : Nat // k ≤ t.rats.length}) × OSl 3 1 (irows (pickU (t.can s) t.rats k.1))) (fun x => ⟨[(3, .pointer (some ⟨b3, 0, none⟩)), (6, .pointer (some ⟨bw, 0, none⟩)), (8, x.2.fs), (23, t.sl (some ⟨ba, oa, none⟩) ca), (24, .int .i64 t.rats.length), (25, .int .i64 x.1.1)], x.2.G ++ (bw, cel 153 (rcs t (t.sl (some ⟨ba, oa, none⟩) ca) bt (List.replicate 496 0) (.slice none 0 0) m)) :: (m, mapO true []) :: (b3, cel 23 [.int .i64 s.stock, .int .i64 s.short, .int .i64 s.dry]) :: (b2, cel 26 (twl t (t.sl (some ⟨ba, oa, none⟩) ca))) :: H, RowsA (some ⟨bt, 0, none⟩) 11 [twl t (t.sl (some ⟨ba, oa, none⟩) ca)] :: R⟩) (fun x => t.rats.length - x.1.1) ⟨⟨0, by omega⟩, OSl.nil _ _⟩ ?_ (fun x => ?_)
   ·
    exact sy_at (by repeat' first | exact Sub.nil | apply Sub.cons | rfl | (simp [lk]; omega)) (fun _ h => h)
   ·
    obtain ⟨⟨k, hk⟩, o'⟩ := x
    dsimp only at o' ⊢
    refine sy_seq ?_
    refine sy_tx' [0] rfl ?_
    refine sy_sq ?_
    refine sp rfl (PE.lss rfl rfl) rfl ?_
    refine sy_sn ?_
    refine sy_nx ?_
    refine sy_seq ?_
    refine sy_cond rfl (fun hc1 => ?_) (fun hc1 => ?_)
    ·
     try simp only [decide_eq_true_eq, decide_eq_false_iff_not, Bool.and_eq_true, Bool.or_eq_true, Bool.not_eq_true', Int.not_le, Int.not_lt] at hc1
     obtain ⟨q, hq⟩ : ∃ q, t.rats[k]? = some q := ⟨_, List.getElem?_eq_getElem (by omega)⟩
     refine sy_skip ?_
     refine sy_nx ?_
     refine sy_seq ?_
     refine sy_block ?_
     refine sy_seq ?_
     refine sy_tx' [0, 1] rfl ?_
     refine sy_sq ?_
     refine sp rfl (PE.move rfl) rfl ?_
     refine sy_sq ?_
     refine sp rfl (PE.assign rfl) rfl ?_
     refine sy_sn ?_
     refine sy_nx ?_
     refine sy_seq ?_
     refine sy_draw [0, 1, 3, 7, 0, 0, 63] (.tk 0 (.tk 1 (.tk 2 (.ld 3 (.ld 4 (.tk 5 (.big 6 .done))))))) mixed (by kernel_rfl) ?_
     refine tk rfl (PE.move rfl) rfl ?_
     refine tk rfl (PE.nilCheck rfl) rfl ?_
     refine tk rfl (PE.fieldAddr fo153_0 rfl) rfl ?_
     refine ld rfl rfl (lhA [_, _, _, _, _, _, _, _, _, _, _] ag26 rfl rfl rfl) rfl ?_
     refine ld rfl rfl (lhA [_, _, _] ag23 rfl rfl rfl) rfl ?_
     refine tk rfl (PE.move rfl) rfl ?_
     refine sy_bg ?_
     refine clV rfl cal94 rfl rfl (c_allowed t s k q ba oa ca (by omega) (by simpa using hq) _ _) ?_
     refine bg (fun w hs => ⟨trivial, trivial, trivial⟩) ?_
     refine sy_dn ?_
     refine sy_nx ?_
     refine sy_cond rfl (fun hc2 => ?_) (fun hc2 => ?_)
     ·
      have e2 := pickU_succ (p := t.can s) hq
      rw [hc2, cond_true] at e2
      refine sy_tx' [0, 1, 2, 3, 4] rfl ?_
      refine sy_sq ?_
      refine sp rfl (PE.move rfl) rfl ?_
      refine sy_sq ?_
      refine sp rfl (PE.move rfl) rfl ?_
      refine sy_sq ?_
      refine bsl (out := [_]) rfl sl42 zl3 rfl rfl rfl rfl rfl rfl (fun b37 => ?_)
      refine sy_sq ?_
      refine apO (o') rfl ap42 rfl rfl (rowsH (row := [.int .i64 k]) rfl) rfl rfl ((by have := pickU_len (t.can s) t.rats k; simp only [irows, List.length_map, List.length_singleton]; omega)) rfl (fun o38 => ?_)
      refine sy_sq ?_
      refine sp rfl (PE.assign rfl) rfl ?_
      refine sy_sn ?_
      refine sy_bn ?_
      refine sy_nx ?_
      refine sy_tx' [0, 1] rfl ?_
      refine sy_sq ?_
      refine sp rfl (PE.add rfl rfl (by omega)) rfl ?_
      refine sy_sq ?_
      refine sp rfl (PE.move rfl) rfl ?_
      refine sy_sn ?_
      refine sy_nx ?_
      first
        | exact sy_next ⟨⟨k + 1, by omega⟩, o38.cast (by rw [e2]; simp [irows])⟩ (by dsimp only; omega) (by repeat' first | exact Sub.nil | apply Sub.cons | rfl | (simp [lk]; omega)) (fun w h => h.del b37)
        | exact sy_next ⟨⟨k + 1, by omega⟩, o'.cast (by rw [e2])⟩ (by dsimp only; omega) (by repeat' first | exact Sub.nil | apply Sub.cons | rfl | (simp [lk]; omega)) (fun w h => h)
     ·
      have e2 := pickU_succ (p := t.can s) hq
      rw [hc2, cond_false] at e2
      refine sy_skip ?_
      refine sy_bn ?_
      refine sy_nx ?_
      refine sy_tx' [0, 1] rfl ?_
      refine sy_sq ?_
      refine sp rfl (PE.add rfl rfl (by omega)) rfl ?_
      refine sy_sq ?_
      refine sp rfl (PE.move rfl) rfl ?_
      refine sy_sn ?_
      refine sy_nx ?_
      first
        | exact sy_next ⟨⟨k + 1, by omega⟩, o38.cast (by rw [e2]; simp [irows])⟩ (by dsimp only; omega) (by repeat' first | exact Sub.nil | apply Sub.cons | rfl | (simp [lk]; omega)) (fun w h => h.del b37)
        | exact sy_next ⟨⟨k + 1, by omega⟩, o'.cast (by rw [e2])⟩ (by dsimp only; omega) (by repeat' first | exact Sub.nil | apply Sub.cons | rfl | (simp [lk]; omega)) (fun w h => h)
    ·
     try simp only [decide_eq_true_eq, decide_eq_false_iff_not, Bool.and_eq_true, Bool.or_eq_true, Bool.not_eq_true', Int.not_le, Int.not_lt] at hc1
     obtain rfl : k = t.rats.length := by omega
     refine sy_exit ?_
     refine sy_tx ?_
     refine sy_tx ?_
     refine sy_bx ?_
     refine sy_nx ?_
     refine sy_seq ?_
     refine sy_tx' [0, 1, 2] rfl ?_
     refine sy_sq ?_
     refine sp rfl (PE.move rfl) rfl ?_
     refine sy_sq ?_
     refine sp rfl (PE.assign rfl) rfl ?_
     refine sy_sq ?_
     refine sp rfl (PE.assign rfl) rfl ?_
     refine sy_sn ?_
     refine sy_nx ?_
     refine sy_ret ?_
     rw [e]
     exact sy_return (vs := [_, _]) rfl (.cons (RV.tmp rfl) (.cons (RV.tmp rfl) .nil)) rfl ⟨o', rfl, rfl, rfl⟩ (fun w h => ((((h.del bw).del m).del b3).del b2).ftail)

theorem c_clone_rat (xs : List Rn) (a : Option Addr) (c : Nat) (hl : xs.length ≤ 1000000) (H : Heap) (R : Facts) [hR : MemRows a 2 (rrows xs) R] :
    Fn Try.prog 112 [.slice a xs.length c] H R (fun v H' R' => ∃ o : OSl 91 2 (rrows xs), v = o.fs ∧ H' = o.G ++ H ∧ R' = R ∧ (a.isSome = true → o.here)) := by
  refine fn_of Try.func112 rfl Try.ntmps112 rfl ?_
  refine sy_seq ?_
  refine sy_tx' [0] rfl ?_
  refine sy_sq ?_
  refine sp rfl (PE.assign rfl) rfl ?_
  refine sy_sn ?_
  refine sy_nx ?_
  refine sy_seq ?_
  refine sy_seq ?_
  refine sy_tx' [0, 1] rfl ?_
  refine sy_sq ?_
  refine sp rfl (PE.move rfl) rfl ?_
  refine sy_sq ?_
  refine sp rfl (PE.eqlNil isl24 rfl rfl) rfl ?_
  refine sy_sn ?_
  refine sy_nx ?_
  refine sy_cond rfl (fun hc0 => ?_) (fun hc0 => ?_)
  ·
   refine Sy.pre (fun w h => rows_nil (h.now hR.mem) hc0) (fun hnil => ?_)
   obtain rfl : xs = [] := by simpa [rrows] using hnil
   refine sy_seq ?_
   refine sy_tx' [0] rfl ?_
   refine sy_sq ?_
   refine sp rfl (PE.assign rfl) rfl ?_
   refine sy_sn ?_
   refine sy_nx ?_
   refine sy_ret ?_
   refine sy_tr ?_
   first
     | exact sy_return (vs := [_]) rfl (.cons (RV.tmp rfl) .nil) rfl ⟨o2.cast (by simp), rfl, rfl, rfl, fun _ => ho2⟩ (fun _ h => h)
     | exact sy_return (vs := [_]) rfl (.cons (RV.tmp rfl) .nil) rfl ⟨OSl.nil _ _, rfl, rfl, rfl, fun h => by cases a <;> simp_all⟩ (fun _ h => h)
  ·
   refine sy_skip ?_
   refine sy_nx ?_
   refine sy_seq ?_
   refine sy_tx' [0, 1, 2, 3] rfl ?_
   refine sy_sq ?_
   refine bsl0 rfl sl24 rfl (fun o5 ho5 => ?_)
   refine sy_sq ?_
   refine sp rfl (PE.move rfl) rfl ?_
   refine sy_sq ?_
   refine apOh (news := rrows xs) o5 rfl ap24 rfl rfl (rowsF) (by simp [rrows]) (by simp [onecells, rrows, rrow, Value.oneCell']) ⟨by simp [rrows]; omega, by simp [rrows]; omega⟩ rfl ho5 (fun o2 ho2 => ?_)
   refine sy_sq ?_
   refine sp rfl (PE.assign rfl) rfl ?_
   refine sy_sn ?_
   refine sy_nx ?_
   refine sy_ret ?_
   first
     | exact sy_return (vs := [_]) rfl (.cons (RV.tmp rfl) .nil) rfl ⟨o2.cast (by simp), rfl, rfl, rfl, fun _ => ho2⟩ (fun _ h => h)
     | exact sy_return (vs := [_]) rfl (.cons (RV.tmp rfl) .nil) rfl ⟨OSl.nil _ _, rfl, rfl, rfl, fun h => by cases a <;> simp_all⟩ (fun _ h => h)

theorem c_Year (t : Twn) (r : Int) (bad : Bool) (hl : t.rats.length ≤ 1000000) (ba oa ca : Nat) (H : Heap) (R : Facts) [hR : MemRows (some ⟨ba, oa, none⟩) 2 (rrows t.rats) R] :
    Fn Try.prog 55 [t.v (t.sl (some ⟨ba, oa, none⟩) ca), .int .i64 r, .bool bad] H R (fun v H' R' => R' = R ∧ (((yearP t r bad).1.rats = [] ∧ v = .tuple #[(yearP t r bad).1.v ((yearP t r bad).1.sl none 0), .int .i64 (yearP t r bad).2] ∧ H' = H) ∨
      ∃ b cap junk, v = .tuple #[(yearP t r bad).1.v ((yearP t r bad).1.sl (some ⟨b, 0, none⟩) cap), .int .i64 (yearP t r bad).2] ∧ H' = (b, cel 91 ((rrows (yearP t r bad).1.rats).flatten ++ junk)) :: H)) := by
  refine fn_of Try.func55 rfl Try.ntmps55 rfl ?_
  refine sy_seq ?_
  refine sy_tx' [0, 1, 2] rfl ?_
  refine sy_sq ?_
  refine bx rfl rfl rfl (fun b3 => ?_)
  refine sy_sq ?_
  refine alc rfl zl26 rfl (fun b6 => ?_)
  refine sy_sq ?_
  refine sp rfl (PE.assign rfl) rfl ?_
  refine sy_sn ?_
  refine sy_nx ?_
  refine sy_seq ?_
  refine sy_tx' [0, 1, 2, 3, 4, 5, 6] rfl ?_
  refine sy_sq ?_
  refine spL rfl rfl (lhA [_, _, _, _, _, _, _, _, _, _, _] ag26 rfl rfl rfl) rfl ?_
  refine sy_sq ?_
  refine cl rfl cal89 rfl rfl (c_opened t (by omega) ba oa ca _ _) ?_
  rintro _ _ _ (⟨hck, rfl, rfl, rfl⟩ | ⟨hck, bw, m, bt, rfl, rfl, rfl⟩)
  ·
   refine sy_sq ?_
   refine sp rfl (PE.move rfl) rfl ?_
   refine sy_sq ?_
   refine sp rfl (PE.extract rfl rfl) rfl ?_
   refine sy_sq ?_
   refine sp rfl (PE.extract rfl rfl) rfl ?_
   refine sy_sq ?_
   refine sp rfl (PE.assign rfl) rfl ?_
   refine sy_sq ?_
   refine sp rfl (PE.assign rfl) rfl ?_
   refine sy_sn ?_
   refine sy_nx ?_
   refine sy_seq ?_
   refine sy_seq ?_
   refine sy_tx' [0, 1] rfl ?_
   refine sy_sq ?_
   refine sp rfl (PE.move rfl) rfl ?_
   refine sy_sq ?_
   refine sp rfl (PE.neq rfl rfl) rfl ?_
   refine sy_sn ?_
   refine sy_nx ?_
   refine sy_condT (congrArg (fun b => some (Value.bool b)) (decide_eq_true hck)) ?_
   refine sy_seq ?_
   refine sy_tx' [0, 1, 2, 3] rfl ?_
   refine sy_sq ?_
   have e : yearP t r bad = (ztw, t.check) := by simp [yearP, hck]
   refine sp rfl (PE.build (out := [_, _, _, _, _, _, _, _, _, _, _]) pl26 zl26 rfl rfl) rfl ?_
   refine sy_sq ?_
   refine sp rfl (PE.move rfl) rfl ?_
   refine sy_sq ?_
   refine sto rfl rfl rfl cn26 rfl rfl rfl rfl ?_
   refine sy_sq ?_
   refine sp rfl (PE.assign rfl) rfl ?_
   refine sy_sn ?_
   refine sy_nx ?_
   refine sy_ret ?_
   refine sy_tr ?_
   rw [e]
   exact sy_return (vs := [_, _]) rfl (.cons (RV.cell rfl (lhA [_, _, _, _, _, _, _, _, _, _, _] ag26 rfl rfl rfl)) (.cons (RV.tmp rfl) .nil)) rfl ⟨rfl, .inl ⟨rfl, rfl, rfl⟩⟩ (fun _ h => by repeat first | exact h | replace h := St.tail h | replace h := St.ftail h | replace h := St.drop h)
  ·
   refine sy_sq ?_
   refine sp rfl (PE.move rfl) rfl ?_
   refine sy_sq ?_
   refine sp rfl (PE.extract rfl rfl) rfl ?_
   refine sy_sq ?_
   refine sp rfl (PE.extract rfl rfl) rfl ?_
   refine sy_sq ?_
   refine sp rfl (PE.assign rfl) rfl ?_
   refine sy_sq ?_
   refine sp rfl (PE.assign rfl) rfl ?_
   refine sy_sn ?_
   refine sy_nx ?_
   refine sy_seq ?_
   refine sy_seq ?_
   refine sy_tx' [0, 1] rfl ?_
   refine sy_sq ?_
   refine sp rfl (PE.move rfl) rfl ?_
   refine sy_sq ?_
   refine sp rfl (PE.neq rfl rfl) rfl ?_
   refine sy_sn ?_
   refine sy_nx ?_
   refine sy_condF (rfl) ?_
   refine sy_skip ?_
   refine sy_nx ?_
   refine sy_seq ?_
   refine sy_tx' [0, 1, 2, 3, 4, 5, 6, 7, 8, 9, 10, 11] rfl ?_
   refine sy_sq ?_
   have hok := (ok_of_check hck).1
   refine sp rfl (PE.move rfl) rfl ?_
   refine sy_sq ?_
   refine sp rfl (PE.fieldAddr fo26_0 rfl) rfl ?_
   refine sy_sq ?_
   refine spL rfl rfl (lhA [_, _, _] ag23 rfl rfl rfl) rfl ?_
   refine sy_sq ?_
   refine sp rfl (PE.move rfl) rfl ?_
   refine sy_sq ?_
   refine sp rfl (PE.move rfl) rfl ?_
   refine sy_sq ?_
   refine cl rfl cal110 rfl rfl (c_year t hok t.now hok.now r bad ba oa ca bt bw m _ _ _ _) ?_
   rintro _ _ _ ⟨rfl, rfl, rfl⟩
   refine sy_sq ?_
   refine sp rfl (PE.move rfl) rfl ?_
   refine sy_sq ?_
   refine sp rfl (PE.extract rfl rfl) rfl ?_
   refine sy_sq ?_
   refine sp rfl (PE.extract rfl rfl) rfl ?_
   refine sy_sq ?_
   refine alc rfl zl23 rfl (fun b10 => ?_)
   refine sy_sq ?_
   refine sto rfl rfl rfl cn23 rfl rfl rfl rfl ?_
   refine sy_sq ?_
   refine sp rfl (PE.assign rfl) rfl ?_
   refine sy_sn ?_
   refine sy_nx ?_
   refine sy_seq ?_
   refine sy_seq ?_
   refine sy_tx' [0, 1] rfl ?_
   refine sy_sq ?_
   refine sp rfl (PE.move rfl) rfl ?_
   refine sy_sq ?_
   refine sp rfl (PE.neq rfl rfl) rfl ?_
   refine sy_sn ?_
   refine sy_nx ?_
   refine sy_cond rfl (fun hc1 => ?_) (fun hc1 => ?_)
   ·
    try simp only [decide_eq_true_eq, decide_eq_false_iff_not, Bool.and_eq_true, Bool.or_eq_true, Bool.not_eq_true', Int.not_le, Int.not_lt] at hc1
    have e : yearP t r bad = (ztw, (nxtR t t.now r bad).2) := by simp [yearP, hck, hc1]
    rw [e]
    refine sy_seq ?_
    refine sy_tx' [0, 1, 2, 3] rfl ?_
    refine sy_sq ?_
    refine sp rfl (PE.build (out := [_, _, _, _, _, _, _, _, _, _, _]) pl26 zl26 rfl rfl) rfl ?_
    refine sy_sq ?_
    refine sp rfl (PE.move rfl) rfl ?_
    refine sy_sq ?_
    refine sto rfl rfl rfl cn26 rfl rfl rfl rfl ?_
    refine sy_sq ?_
    refine sp rfl (PE.assign rfl) rfl ?_
    refine sy_sn ?_
    refine sy_nx ?_
    refine sy_ret ?_
    refine sy_tr ?_
    first
      | exact sy_return (vs := [_, _]) rfl (.cons (RV.cell rfl (lhA [_, _, _, _, _, _, _, _, _, _, _] ag26 rfl rfl rfl)) (.cons (RV.tmp rfl) .nil)) rfl ⟨rfl, .inl ⟨rfl, rfl, rfl⟩⟩ (fun w h => ((((((h.del b10).del b6).del b3).del bw).del m)).ftail)
      | exact sy_return (vs := [_, _]) rfl (.cons (RV.cell rfl (lhA [_, _, _, _, _, _, _, _, _, _, _] ag26 rfl rfl rfl)) (.cons (RV.tmp rfl) .nil)) rfl ⟨rfl, .inr ⟨bc, cc, jc, rfl, rfl⟩⟩ (fun w h => (((((((h.del b10).del b11).del b6).del b3).del bw).del m)).ftail)
   ·
    try simp only [decide_eq_true_eq, decide_eq_false_iff_not, Bool.and_eq_true, Bool.or_eq_true, Bool.not_eq_true', Int.not_le, Int.not_lt] at hc1
    have e : yearP t r bad = ({ t with now := (nxtR t t.now r bad).1 }, 0) := by simp [yearP, hck, hc1]
    rw [e]
    refine sy_skip ?_
    refine sy_nx ?_
    refine sy_seq ?_
    refine sy_tx' [0, 1, 2] rfl ?_
    refine sy_sq ?_
    refine spL rfl rfl (lhA [_, _, _, _, _, _, _, _, _, _, _] ag26 rfl rfl rfl) rfl ?_
    refine sy_sq ?_
    refine alc rfl zl26 rfl (fun b11 => ?_)
    refine sy_sq ?_
    refine sto rfl rfl rfl cn26 rfl rfl rfl rfl ?_
    refine sy_sn ?_
    refine sy_nx ?_
    refine sy_seq ?_
    refine sy_draw [0, 0, 2, 6, 1, 31, 63, 127] (.ld 0 (.tk 1 (.ld 2 (.tk 4 (.big 3 (.big 5 (.tk 6 (.big 7 .done)))))))) mixed (by kernel_rfl) ?_
    refine ld rfl rfl (lhA [_, _, _] ag23 rfl rfl rfl) rfl ?_
    refine tk rfl (PE.fieldAddr fo26_8 rfl) rfl ?_
    refine ld rfl rfl (lh sc24 rfl rfl) rfl ?_
    refine tk rfl (PE.fieldAddr fo26_0 rfl) rfl ?_
    refine sy_bg ?_
    refine cl rfl cal112 rfl rfl (c_clone_rat t.rats _ ca hl _ _) ?_
    rintro _ _ _ ⟨oc, rfl, rfl, rfl, hoc⟩
    obtain ⟨bc, cc, jc, hc1, hc2⟩ := oc.own (hoc rfl)
    rw [hc1, hc2, show (rrows t.rats).length = t.rats.length from List.length_map _]
    refine bg (fun w hs => ⟨trivial, (lhA [_, _, _] ag23 rfl rfl rfl) w hs, trivial⟩) ?_
    refine sy_bg ?_
    refine sto rfl rfl rfl cn23 rfl rfl rfl rfl ?_
    refine bg (fun w hs => ⟨trivial, trivial⟩) ?_
    refine tk rfl (PE.fieldAddr fo26_8 rfl) rfl ?_
    refine sy_bg ?_
    refine sto rfl rfl rfl cn24 rfl rfl rfl rfl ?_
    refine bg (fun w hs => trivial) ?_
    refine sy_dn ?_
    refine sy_nx ?_
    refine sy_seq ?_
    refine sy_tx' [0, 1, 2] rfl ?_
    refine sy_sq ?_
    refine spL rfl rfl (lhA [_, _, _, _, _, _, _, _, _, _, _] ag26 rfl rfl rfl) rfl ?_
    refine sy_sq ?_
    refine sto rfl rfl rfl cn26 rfl rfl rfl rfl ?_
    refine sy_sq ?_
    refine sp rfl (PE.assign rfl) rfl ?_
    refine sy_sn ?_
    refine sy_nx ?_
    refine sy_ret ?_
    first
      | exact sy_return (vs := [_, _]) rfl (.cons (RV.cell rfl (lhA [_, _, _, _, _, _, _, _, _, _, _] ag26 rfl rfl rfl)) (.cons (RV.tmp rfl) .nil)) rfl ⟨rfl, .inl ⟨rfl, rfl, rfl⟩⟩ (fun w h => ((((((h.del b10).del b6).del b3).del bw).del m)).ftail)
      | exact sy_return (vs := [_, _]) rfl (.cons (RV.cell rfl (lhA [_, _, _, _, _, _, _, _, _, _, _] ag26 rfl rfl rfl)) (.cons (RV.tmp rfl) .nil)) rfl ⟨rfl, .inr ⟨bc, cc, jc, rfl, rfl⟩⟩ (fun w h => (((((((h.del b10).del b11).del b6).del b3).del bw).del m)).ftail)

theorem c_rNext (t : Twn) (ht : t.ok) (s : Sta) (hs : s.right t = true) (r : Int) (bad : Bool) (ba oa ca : Nat) (H : Heap) (R : Facts) [hR : MemRows (some ⟨ba, oa, none⟩) 2 (rrows t.rats) R] :
    FnV Try.prog 64 [t.v (t.sl (some ⟨ba, oa, none⟩) ca), s.v, .int .i64 r, .bool bad] H R (.tuple #[(nxtR t s r bad).1.v, .int .i64 (nxtR t s r bad).2]) := by
  refine fn_of Try.func64 rfl Try.ntmps64 rfl ?_
  refine sy_seq ?_
  refine sy_tx' [0, 1, 2, 3] rfl ?_
  refine sy_sq ?_
  refine bx rfl rfl rfl (fun b4 => ?_)
  refine sy_sq ?_
  refine bx rfl rfl rfl (fun b5 => ?_)
  refine sy_sq ?_
  refine alc rfl zl34 rfl (fun b8 => ?_)
  refine sy_sq ?_
  refine sp rfl (PE.assign rfl) rfl ?_
  refine sy_sn ?_
  refine sy_nx ?_
  refine sy_seq ?_
  refine sy_seq ?_
  refine sy_tx' [0, 1, 2, 3, 4] rfl ?_
  refine sy_sq ?_
  refine spL rfl rfl (lhA [_, _, _, _, _, _, _, _, _, _, _] ag37 rfl rfl rfl) rfl ?_
  refine sy_sq ?_
  refine spL rfl rfl (lhA [_, _, _] ag34 rfl rfl rfl) rfl ?_
  refine sy_sq ?_
  refine sp rfl (PE.move rfl) rfl ?_
  refine sy_sq ?_
  refine clV rfl cal87 rfl rfl (c_rSold t s r ba oa ca (by have := ht.many; omega) _ _) ?_
  refine sy_sq ?_
  refine sp rfl (PE.assign rfl) rfl ?_
  refine sy_sn ?_
  refine sy_nx ?_
  refine sy_seq ?_
  refine sy_tx' [0, 1] rfl ?_
  refine sy_sq ?_
  refine sp rfl (PE.move rfl) rfl ?_
  refine sy_sq ?_
  refine sp rfl (PE.neq rfl rfl) rfl ?_
  refine sy_sn ?_
  refine sy_nx ?_
  refine sy_cond rfl (fun hc0 => ?_) (fun hc0 => ?_)
  ·
   try simp only [decide_eq_true_eq, decide_eq_false_iff_not, Bool.and_eq_true, Bool.or_eq_true, Bool.not_eq_true', Int.not_le, Int.not_lt] at hc0
   have hres := nxt_sold (bad := bad) hc0
   refine sy_seq ?_
   refine sy_tx' [0, 1, 2, 3] rfl ?_
   refine sy_sq ?_
   refine sp rfl (PE.build (out := [_, _, _]) pl34 zl34 rfl rfl) rfl ?_
   refine sy_sq ?_
   refine sp rfl (PE.move rfl) rfl ?_
   refine sy_sq ?_
   refine sto rfl rfl rfl cn34 rfl rfl rfl rfl ?_
   refine sy_sq ?_
   refine sp rfl (PE.assign rfl) rfl ?_
   refine sy_sn ?_
   refine sy_nx ?_
   refine sy_ret ?_
   refine sy_tr ?_
   exact sy_return (vs := [_, _]) rfl (.cons (RV.cell rfl (lhA [_, _, _] ag34 rfl rfl rfl)) (.cons (RV.tmp rfl) .nil)) (by rw [hres]; rfl) ⟨rfl, rfl, rfl⟩ (fun _ h => by repeat first | exact h | replace h := St.tail h | replace h := St.ftail h | replace h := St.drop h)
  ·
   try simp only [decide_eq_true_eq, decide_eq_false_iff_not, Bool.and_eq_true, Bool.or_eq_true, Bool.not_eq_true', Int.not_le, Int.not_lt] at hc0
   obtain ⟨q, hrt, hcan⟩ := sold_ok (by simpa using hc0)
   obtain ⟨h0, hq⟩ := rat_iff.1 hrt
   refine sy_skip ?_
   refine sy_nx ?_
   refine sy_seq ?_
   refine sy_seq ?_
   refine sy_tx' [0, 1, 2, 3, 4, 5, 6, 7] rfl ?_
   refine sy_sq ?_
   refine sp rfl (PE.move rfl) rfl ?_
   refine sy_sq ?_
   refine sp rfl (PE.move rfl) rfl ?_
   refine sy_sq ?_
   refine sy_case (t := 20) rfl (fun g20 => ?_) (fun g20 => ?_)
   ·
    subst g20
    refine spG rfl rfl rfl rfl (PE.fieldAddr fo34_2 rfl) rfl ?_
    refine sy_sq ?_
    refine spLG rfl rfl rfl rfl rfl (lh sc3 rfl rfl) rfl ?_
    refine sy_sq ?_
    refine spG rfl rfl rfl rfl (PE.fieldAddr fo37_4 rfl) rfl ?_
    refine sy_sq ?_
    refine spLG rfl rfl rfl rfl rfl (lh sc3 rfl rfl) rfl ?_
    refine sy_sq ?_
    refine spG rfl rfl rfl rfl (PE.geq rfl rfl) rfl ?_
    refine sy_sq ?_
    refine sp rfl (PE.pick rfl rfl rfl) rfl ?_
    refine sy_sn ?_
    refine sy_nx ?_
    refine sy_cond rfl (fun hc1 => ?_) (fun hc1 => ?_)
    ·
     try simp only [decide_eq_true_eq, decide_eq_false_iff_not, Bool.and_eq_true, Bool.or_eq_true, Bool.not_eq_true', Int.not_le, Int.not_lt] at hc1
     have hres := nxt_clash (bad := true) hrt hcan (by rw [decide_eq_false (by omega)]; rfl)
     refine sy_seq ?_
     refine sy_tx' [0, 1, 2] rfl ?_
     refine sy_sq ?_
     refine sp rfl (PE.build (out := [_, _, _]) pl34 zl34 rfl rfl) rfl ?_
     refine sy_sq ?_
     refine sto rfl rfl rfl cn34 rfl rfl rfl rfl ?_
     refine sy_sq ?_
     refine sp rfl (PE.assign rfl) rfl ?_
     refine sy_sn ?_
     refine sy_nx ?_
     refine sy_ret ?_
     refine sy_tr ?_
     exact sy_return (vs := [_, _]) rfl (.cons (RV.cell rfl (lhA [_, _, _] ag34 rfl rfl rfl)) (.cons (RV.tmp rfl) .nil)) (by rw [hres]; rfl) ⟨rfl, rfl, rfl⟩ (fun _ h => by repeat first | exact h | replace h := St.tail h | replace h := St.ftail h | replace h := St.drop h)
    ·
     try simp only [decide_eq_true_eq, decide_eq_false_iff_not, Bool.and_eq_true, Bool.or_eq_true, Bool.not_eq_true', Int.not_le, Int.not_lt] at hc1
     have hres := nxt_ok (bad := true) hrt hcan (by rw [decide_eq_true (by omega)]; rfl)
     refine sy_skip ?_
     refine sy_nx ?_
     refine sy_seq ?_
     refine sy_tx' [0, 1, 2, 3, 4, 5, 6] rfl ?_
     refine sy_sq ?_
     refine spL rfl rfl (lhA [_, _, _, _, _, _, _, _, _, _, _] ag37 rfl rfl rfl) rfl ?_
     refine sy_sq ?_
     refine spL rfl rfl (lhA [_, _, _] ag34 rfl rfl rfl) rfl ?_
     refine sy_sq ?_
     refine sp rfl (PE.move rfl) rfl ?_
     refine sy_sq ?_
     refine sp rfl (PE.move rfl) rfl ?_
     refine sy_sq ?_
     refine clV rfl cal100 rfl rfl (c_rAfter t ht s hs r q _ ba oa ca h0 hq (can_le hcan) _ _) ?_
     refine sy_sq ?_
     refine sto rfl rfl rfl cn34 rfl rfl rfl rfl ?_
     refine sy_sq ?_
     refine sp rfl (PE.assign rfl) rfl ?_
     refine sy_sn ?_
     refine sy_nx ?_
     refine sy_ret ?_
     exact sy_return (vs := [_, _]) rfl (.cons (RV.cell rfl (lhA [_, _, _] ag34 rfl rfl rfl)) (.cons (RV.tmp rfl) .nil)) (by rw [hres]; rfl) ⟨rfl, rfl, rfl⟩ (fun _ h => by repeat first | exact h | replace h := St.tail h | replace h := St.ftail h | replace h := St.drop h)
   ·
    subst g20
    have hres := nxt_ok (bad := false) hrt hcan rfl
    refine spN rfl rfl rfl rfl rfl rfl rfl rfl ?_
    refine sy_sq ?_
    refine spN rfl rfl rfl rfl rfl rfl rfl rfl ?_
    refine sy_sq ?_
    refine spN rfl rfl rfl rfl rfl rfl rfl rfl ?_
    refine sy_sq ?_
    refine spN rfl rfl rfl rfl rfl rfl rfl rfl ?_
    refine sy_sq ?_
    refine spN rfl rfl rfl rfl rfl rfl rfl rfl ?_
    refine sy_sq ?_
    refine sp rfl (PE.pick rfl rfl rfl) rfl ?_
    refine sy_sn ?_
    refine sy_nx ?_
    refine sy_condF rfl ?_
    refine sy_skip ?_
    refine sy_nx ?_
    refine sy_seq ?_
    refine sy_tx' [0, 1, 2, 3, 4, 5, 6] rfl ?_
    refine sy_sq ?_
    refine spL rfl rfl (lhA [_, _, _, _, _, _, _, _, _, _, _] ag37 rfl rfl rfl) rfl ?_
    refine sy_sq ?_
    refine spL rfl rfl (lhA [_, _, _] ag34 rfl rfl rfl) rfl ?_
    refine sy_sq ?_
    refine sp rfl (PE.move rfl) rfl ?_
    refine sy_sq ?_
    refine sp rfl (PE.move rfl) rfl ?_
    refine sy_sq ?_
    refine clV rfl cal100 rfl rfl (c_rAfter t ht s hs r q _ ba oa ca h0 hq (can_le hcan) _ _) ?_
    refine sy_sq ?_
    refine sto rfl rfl rfl cn34 rfl rfl rfl rfl ?_
    refine sy_sq ?_
    refine sp rfl (PE.assign rfl) rfl ?_
    refine sy_sn ?_
    refine sy_nx ?_
    refine sy_ret ?_
    exact sy_return (vs := [_, _]) rfl (.cons (RV.cell rfl (lhA [_, _, _] ag34 rfl rfl rfl)) (.cons (RV.tmp rfl) .nil)) (by rw [hres]; rfl) ⟨rfl, rfl, rfl⟩ (fun _ h => by repeat first | exact h | replace h := St.tail h | replace h := St.ftail h | replace h := St.drop h)
end Go.Proofs.Ytaldphhdkmchhaa
