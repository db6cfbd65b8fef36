/- Walks of the functions of the program: what each returns and leaves in memory, under the conditions that its theorem names. -/
import Derived.Test.YtaldphhdkmchhaaTy
import Derived.Test.YtaldphhdkmchhaaMa
import Derived.Test.YtaldphhdkmchhaaWk6
import Derived.Test.YtaldphhdkmchhaaMe
namespace Go.Proofs.Ytaldphhdkmchhaa
set_option linter.unusedSimpArgs false
set_option linter.unusedVariables false
open Go
theorem ap27 : apT Try.prog 27 = some (33, 5, 40) := by kernel_rfl
theorem cn138 : cellN Try.prog 138 = some 1 := by kernel_rfl
theorem cn27 : cellN Try.prog 27 = some 1 := by kernel_rfl
theorem cn39 : cellN Try.prog 39 = some 1 := by kernel_rfl
theorem eqg23 : Try.prog.eqGuardType Try.prog.depth 23 = false := by kernel_rfl
theorem pl33 : placeL Try.prog 33 = some [(0, 3), (3, 1), (4, 1)] := by kernel_rfl
theorem sc27 : scal Try.prog 27 = true := by kernel_rfl
theorem sc39 : scal Try.prog 39 = true := by kernel_rfl
theorem sl27 : slE Try.prog 27 = some (33, 5) := by kernel_rfl
theorem zl138 : zeroL Try.prog 138 = some ([.pointer none]) := by kernel_rfl
theorem zl27 : zeroL Try.prog 27 = some ([.slice none 0 0]) := by kernel_rfl
theorem zl33 : zeroL Try.prog 33 = some ([.int .i64 0, .int .i64 0, .int .i64 0, .int .i64 0, .int .i64 0]) := by kernel_rfl
theorem zl39 : zeroL Try.prog 39 = some ([.int .i64 0]) := by kernel_rfl
def trow (x : Rw) : List Value := [.int .i64 x.st.stock, .int .i64 x.st.short, .int .i64 x.st.dry, .int .i64 x.lasts, .int .i64 x.ration]
def trows (l : List Rw) : List (List Value) := l.map trow

theorem c_Table (t : Twn) (hl : t.rats.length ≤ 9223372036854775807) (ba oa ca : Nat) (H : Heap) (R : Facts) [hR : MemRows (some ⟨ba, oa, none⟩) 2 (rrows t.rats) R] :
    Fn Try.prog 26 [t.v (t.sl (some ⟨ba, oa, none⟩) ca)] H R (fun v H' R' => ((t.check ≠ 0 ∧ v = .tuple #[.slice none 0 0, .int .i64 t.check] ∧ H' = H) ∨
      (t.check = 0 ∧ ∃ σ, Solv t σ ∧ ((lat σ.y t.now = -1 ∧ v = .tuple #[.slice none 0 0, .int .i64 6] ∧ H' = H) ∨ (lat σ.y t.now ≠ -1 ∧ ∃ o : OSl 33 5 (trows (tab t σ.y)), v = .tuple #[o.fs, .int .i64 0] ∧ H' = o.G ++ H)))) ∧ R' = R) := by
  refine fnM_of Try.func26 rfl Try.ntmps26 rfl ?_
  refine sy_seq ?_
  refine sy_tx' [0, 1, 2] rfl ?_
  refine sy_sq ?_
  refine bx rfl rfl rfl (fun b1 => ?_)
  refine sy_sq ?_
  refine sp rfl (PE.assign rfl) rfl ?_
  refine sy_sq ?_
  refine sp rfl (PE.assign rfl) rfl ?_
  refine sy_sn ?_
  refine sy_nx ?_
  refine sy_seq ?_
  refine sy_tx' [0, 1, 2, 3, 4, 5, 6, 7] rfl ?_
  refine sy_sq ?_
  refine spL rfl rfl (lhA [_, _, _, _, _, _, _, _, _, _, _] ag26 rfl rfl rfl) rfl ?_
  refine sy_sq ?_
  refine cl rfl cal97 rfl rfl (c_solved t hl ba oa ca _ _) ?_
  rintro _ _ _ (⟨hck, rfl, rfl, rfl⟩ | ⟨hck, bw, m, bt, σ, o, hσ, rfl, rfl, rfl⟩)
  ·
   refine sy_sq ?_
   refine sp rfl (PE.move rfl) rfl ?_
   refine sy_sq ?_
   refine sp rfl (PE.extract rfl rfl) rfl ?_
   refine sy_sq ?_
   refine sp rfl (PE.extract rfl rfl) rfl ?_
   refine sy_sq ?_
   refine alc rfl zl138 rfl (fun b4 => ?_)
   refine sy_sq ?_
   refine sto rfl rfl rfl cn138 rfl rfl rfl rfl ?_
   refine sy_sq ?_
   refine sp rfl (PE.assign rfl) rfl ?_
   refine sy_sn ?_
   refine sy_nx ?_
   refine sy_seq ?_
   refine sy_seq ?_
   refine sy_tx' [0, 1] rfl ?_
   refine sy_sq ?_
   refine sp rfl (PE.move rfl) rfl ?_
   refine sy_sq ?_
   refine sp rfl (PE.neq rfl rfl) rfl ?_
   refine sy_sn ?_
   refine sy_nx ?_
   refine sy_condT (congrArg (fun b => some (Value.bool b)) (decide_eq_true hck)) ?_
   refine sy_seq ?_
   refine sy_tx' [0, 1, 2] rfl ?_
   refine sy_sq ?_
   refine sp rfl (PE.move rfl) rfl ?_
   refine sy_sq ?_
   refine sp rfl (PE.assign rfl) rfl ?_
   refine sy_sq ?_
   refine sp rfl (PE.assign rfl) rfl ?_
   refine sy_sn ?_
   refine sy_nx ?_
   refine sy_ret ?_
   refine sy_tr ?_
   exact sy_returnM [] (fun _ h => h) rfl (.cons (RV.tmp rfl) (.cons (RV.tmp rfl) .nil)) rfl ⟨.inl ⟨hck, rfl, rfl⟩, rfl⟩ (fun _ h => by repeat first | exact h | replace h := St.tail h | replace h := St.ftail h | replace h := St.drop h)
  ·
   refine sy_sq ?_
   have hok := (ok_of_check hck).1
   have hsl := solv_ok hok hσ
   refine sp rfl (PE.move rfl) rfl ?_
   refine sy_sq ?_
   refine sp rfl (PE.extract rfl rfl) rfl ?_
   refine sy_sq ?_
   refine sp rfl (PE.extract rfl rfl) rfl ?_
   refine sy_sq ?_
   refine alc rfl zl138 rfl (fun b4 => ?_)
   refine sy_sq ?_
   refine sto rfl rfl rfl cn138 rfl rfl rfl rfl ?_
   refine sy_sq ?_
   refine sp rfl (PE.assign rfl) rfl ?_
   refine sy_sn ?_
   refine sy_nx ?_
   refine sy_seq ?_
   refine sy_seq ?_
   refine sy_tx' [0, 1] rfl ?_
   refine sy_sq ?_
   refine sp rfl (PE.move rfl) rfl ?_
   refine sy_sq ?_
   refine sp rfl (PE.neq rfl rfl) rfl ?_
   refine sy_sn ?_
   refine sy_nx ?_
   refine sy_condF (rfl) ?_
   refine sy_skip ?_
   refine sy_nx ?_
   refine sy_seq ?_
   refine sy_seq ?_
   refine sy_draw [0, 1, 3, 0, 8, 31, 63] (.ld 0 (.tk 1 (.tk 2 (.tk 3 (.ld 4 (.big 5 (.tk 6 .done))))))) mixed (by kernel_rfl) ?_
   refine ld rfl rfl (lh sc138 rfl rfl) rfl ?_
   refine tk rfl (PE.nilCheck rfl) rfl ?_
   refine tk rfl (PE.fieldAddr fo153_2 rfl) rfl ?_
   refine tk rfl (PE.fieldAddr fo26_0 rfl) rfl ?_
   refine ld rfl rfl (lhA [_, _, _] ag23 rfl rfl rfl) rfl ?_
   refine sy_bg ?_
   refine clV rfl cal95 rfl rfl (c_of t hok t.now hok.now ba oa ca bt bw m σ.y o.fs hsl _ _) ?_
   refine bg (fun w hs => ⟨trivial, trivial, trivial⟩) ?_
   refine tk rfl (PE.eql rfl rfl) rfl ?_
   refine sy_dn ?_
   refine sy_nx ?_
   refine sy_cond rfl (fun hc1 => ?_) (fun hc1 => ?_)
   ·
    simp only [decide_eq_true_eq] at hc1
    refine sy_seq ?_
    refine sy_tx' [0, 1] rfl ?_
    refine sy_sq ?_
    refine sp rfl (PE.assign rfl) rfl ?_
    refine sy_sq ?_
    refine sp rfl (PE.assign rfl) rfl ?_
    refine sy_sn ?_
    refine sy_nx ?_
    refine sy_ret ?_
    refine sy_tr ?_
    first
      | exact sy_returnM [] (fun _ h => h) rfl (.cons (RV.tmp rfl) (.cons (RV.tmp rfl) .nil)) rfl ⟨.inr ⟨hck, σ, hσ, .inl ⟨hc1, rfl, rfl⟩⟩, rfl⟩ (fun _ h => by repeat first | exact h | replace h := St.tail h | replace h := St.ftail h | replace h := St.drop h)
      | exact sy_returnM [bd0] (fun _ h => h) rfl (.cons (RV.tmp rfl) (.cons (RV.tmp rfl) .nil)) rfl ⟨.inr ⟨hck, σ, hσ, .inr ⟨hc1, o', rfl, rfl⟩⟩, rfl⟩ (fun w h => ((((h.tail.tail.del b1).del bw).del m).ftail.ftail).dropMid)
   ·
    simp only [decide_eq_false_iff_not] at hc1
    refine sy_skip ?_
    refine sy_nx ?_
    refine sy_seq ?_
    refine sy_tx' [0] rfl ?_
    refine sy_sq ?_
    refine alc rfl zl27 rfl (fun b6 => ?_)
    refine sy_sn ?_
    refine sy_nx ?_
    refine sy_seq ?_
    refine sy_seq ?_
    refine sy_tx' [0, 1] rfl ?_
    refine sy_sq ?_
    refine spL rfl rfl (lhA [_, _, _, _, _, _, _, _, _, _, _] ag26 rfl rfl rfl) rfl ?_
    refine sy_sq ?_
    refine cl rfl cal90 rfl rfl (c_states t (t.sl (some ⟨ba, oa, none⟩) ca) _ _) ?_
    rintro _ _ _ ⟨b26, rfl, rfl, rfl⟩
    refine sy_pull b1 ?_
    refine sy_pull b4 ?_
    refine sy_pull b6 ?_
    refine sy_sn ?_
    refine sy_nx ?_
    refine sy_block ?_
    refine sy_range rfl cal127 (fun c0 bl0 bd0 hcp0 hca0 hcb0 hck0 => ?_)
    refine ⟨fun st pend T R' => st = .ready ∧ pend = none ∧ ∃ o' : OSl 33 5 (trows (tab t σ.y)), T = (bd0, .deferred (some [])) :: (b6, cel 27 [o'.fs]) :: (b4, cel 138 [.pointer (some ⟨bw, 0, none⟩)]) :: (o'.G ++ (b1, cel 26 (twl t (t.sl (some ⟨ba, oa, none⟩) ca))) :: (o.G ++ (bw, cel 153 (rcs t (t.sl (some ⟨ba, oa, none⟩) ca) bt (σ.y) o.fs m)) :: (m, mapO true (kvOf σ.fl)) :: H)) ∧ R' = RowsA (some ⟨b26, 0, none⟩) 11 [twl t (t.sl (some ⟨ba, oa, none⟩) ca)] :: RowsA (some ⟨bt, 0, none⟩) 11 [twl t (t.sl (some ⟨ba, oa, none⟩) ca)] :: R,
      Fn.mono (c_states1 t hok (t.sl (some ⟨ba, oa, none⟩) ca) b26 bl0 (fun k H' R' => ∃ o' : OSl 33 5 (trows (((sts t).take k).filterMap (tabRow t σ.y))), H' = (bl0, lob c0 .ready none) :: (bd0, .deferred (some [])) :: (b6, cel 27 [o'.fs]) :: (b4, cel 138 [.pointer (some ⟨bw, 0, none⟩)]) :: (o'.G ++ (b1, cel 26 (twl t (t.sl (some ⟨ba, oa, none⟩) ca))) :: (o.G ++ (bw, cel 153 (rcs t (t.sl (some ⟨ba, oa, none⟩) ca) bt (σ.y) o.fs m)) :: (m, mapO true (kvOf σ.fl)) :: H)) ∧ R' = RowsA (some ⟨b26, 0, none⟩) 11 [twl t (t.sl (some ⟨ba, oa, none⟩) ca)] :: RowsA (some ⟨bt, 0, none⟩) 11 [twl t (t.sl (some ⟨ba, oa, none⟩) ca)] :: R) (fun _ _ => False)
        (fun k H' R' h => by obtain ⟨_, _, h⟩ := h; rw [h]; simp) (fun k s H' R' hk hI => ?_) _ _ ⟨OSl.nil _ _, rfl, rfl⟩) (fun v H' R' h => ?_), ?_⟩
    rotate_left
    · rw [List.take_of_length_le (show (sts t).length ≤ t.nst by rw [sts_len]; exact Nat.le_refl _)] at h
      rcases h with ⟨o', rfl, rfl⟩ | h
      · exact ⟨.ready, none, _, by simp, .refl _, rfl, rfl, o', rfl, rfl⟩
      · exact h.elim
    rotate_left
    ·
     have hs := sts_right hok (List.mem_of_getElem? hk)
     have hrg := solv_range hok hσ hs
     have e : (((sts t).take (k + 1)).filterMap (tabRow t σ.y)) = (((sts t).take k).filterMap (tabRow t σ.y)) ++ (tabRow t σ.y s).toList := by rw [List.take_add_one, hk, List.filterMap_append]; cases h : tabRow t σ.y s <;> simp [h]
     rw [e]
     have hkl : k < (sts t).length := (List.getElem?_eq_some_iff.1 hk).1
     rw [sts_len] at hkl
     have hkn := nst_le hok
     have htl : (((sts t).take k).filterMap (tabRow t σ.y)).length ≤ k := Nat.le_trans (List.length_filterMap_le _ _) (by simp; omega)
     clear e
     generalize (((sts t).take k).filterMap (tabRow t σ.y)) = τ at *
     obtain ⟨o', rfl, rfl⟩ := hI
     refine yd_of hcp0 hca0 hcb0 hck0 rfl ?_
     refine sy_tx' [0, 1] rfl ?_
     refine sy_sq ?_
     refine alc rfl zl23 rfl (fun b7 => ?_)
     refine sy_sq ?_
     refine sto rfl rfl rfl cn23 rfl rfl rfl rfl ?_
     refine sy_sn ?_
     refine sy_beginRound ?_
     refine sy_block ?_
     refine sy_seq ?_
     refine sy_draw [0, 1, 3, 0, 15, 31] (.ld 0 (.tk 1 (.tk 2 (.ld 3 (.big 4 (.tk 5 .done)))))) mixed (by kernel_rfl) ?_
     refine ld rfl rfl (lh sc138 rfl rfl) rfl ?_
     refine tk rfl (PE.nilCheck rfl) rfl ?_
     refine tk rfl (PE.fieldAddr fo153_2 rfl) rfl ?_
     refine ld rfl rfl (lhA [_, _, _] ag23 rfl rfl rfl) rfl ?_
     refine sy_bg ?_
     refine clV rfl cal95 rfl rfl (c_of t hok s hs ba oa ca bt bw m σ.y o.fs hsl _ _) ?_
     refine bg (fun w hs => ⟨trivial, trivial, trivial⟩) ?_
     refine tk rfl (PE.assign rfl) rfl ?_
     refine sy_dn ?_
     refine sy_nx ?_
     refine sy_seq ?_
     refine sy_tx' [0, 1, 2, 3] rfl ?_
     refine sy_sq ?_
     refine sp rfl (PE.fieldAddr fo26_8 rfl) rfl ?_
     refine sy_sq ?_
     refine spL rfl rfl (lh sc24 rfl rfl) rfl ?_
     refine sy_sq ?_
     refine sp rfl (PE.lenSl isl24 rfl) rfl ?_
     refine sy_sq ?_
     refine sp rfl (PE.move rfl) rfl ?_
     refine sy_sn ?_
     refine sy_nx ?_
     refine sy_block ?_
     have hlen := hok.many
     refine sy_loop (ι := {k : Nat // k ≤ t.rats.length ∧ ∀ i q, i < k → t.rats[i]? = some q → lat σ.y s = -1 ∨ t.keeps σ.y s q (lat σ.y s) = false}) (fun k2 => ⟨[(4, .pointer (some ⟨b4, 0, none⟩)), (6, .pointer (some ⟨b6, 0, none⟩)), (7, .pointer (some ⟨b7, 0, none⟩)), (8, .int .i64 (lat σ.y s)), (35, .int .i64 t.rats.length), (36, .int .i64 k2.1)], (b7, cel 23 [.int .i64 s.stock, .int .i64 s.short, .int .i64 s.dry]) :: (bl0, lob c0 .busy none) :: (bd0, .deferred (some [])) :: (b6, cel 27 [o'.fs]) :: (b4, cel 138 [.pointer (some ⟨bw, 0, none⟩)]) :: (o'.G ++ (b1, cel 26 (twl t (t.sl (some ⟨ba, oa, none⟩) ca))) :: (o.G ++ (bw, cel 153 (rcs t (t.sl (some ⟨ba, oa, none⟩) ca) bt (σ.y) o.fs m)) :: (m, mapO true (kvOf σ.fl)) :: H)), RowsA (some ⟨b26, 0, none⟩) 11 [twl t (t.sl (some ⟨ba, oa, none⟩) ca)] :: RowsA (some ⟨bt, 0, none⟩) 11 [twl t (t.sl (some ⟨ba, oa, none⟩) ca)] :: R⟩) (fun k2 => t.rats.length - k2.1) ⟨0, by omega, by omega⟩ ?_ (fun k2 => ?_)
     ·
      exact sy_at (by repeat' first | exact Sub.nil | apply Sub.cons | rfl | (simp [lk]; omega)) (fun _ h => h)
     ·
      obtain ⟨k2, hk1, hk2⟩ := k2
      dsimp only
      refine sy_seq ?_
      refine sy_tx' [0] rfl ?_
      refine sy_sq ?_
      refine sp rfl (PE.lss rfl rfl) rfl ?_
      refine sy_sn ?_
      refine sy_nx ?_
      refine sy_seq ?_
      refine sy_cond rfl (fun hc2 => ?_) (fun hc2 => ?_)
      ·
       simp only [decide_eq_true_eq, decide_eq_false_iff_not, Bool.and_eq_true, Bool.or_eq_true, Bool.not_eq_true', Int.not_le, Int.not_lt] at hc2
       obtain ⟨q, hq⟩ : ∃ q, t.rats[k2]? = some q := ⟨_, List.getElem?_eq_getElem (by omega)⟩
       refine sy_skip ?_
       refine sy_nx ?_
       refine sy_seq ?_
       refine sy_block ?_
       refine sy_seq ?_
       refine sy_tx' [0, 1] rfl ?_
       refine sy_sq ?_
       refine sp rfl (PE.move rfl) rfl ?_
       refine sy_sq ?_
       refine sp rfl (PE.assign rfl) rfl ?_
       refine sy_sn ?_
       refine sy_nx ?_
       refine sy_seq ?_
       refine sy_tx' [0, 1, 2, 3, 4, 5, 6, 7, 8] rfl ?_
       refine sy_sq ?_
       refine sp rfl (PE.move rfl) rfl ?_
       refine sy_sq ?_
       refine sp rfl (PE.neq rfl rfl) rfl ?_
       refine sy_sq ?_
       refine sp rfl (PE.move rfl) rfl ?_
       refine sy_sq ?_
       refine sy_case (t := 41) rfl (fun g41 => ?_) (fun g41 => ?_)
       ·
        simp only [decide_eq_true_eq] at g41
        refine spLG rfl rfl rfl rfl rfl (lh sc138 rfl rfl) rfl ?_
        refine sy_sq ?_
        refine spLG rfl rfl rfl rfl rfl (lhA [_, _, _] ag23 rfl rfl rfl) rfl ?_
        refine sy_sq ?_
        refine spG rfl rfl rfl rfl (PE.move rfl) rfl ?_
        refine sy_sq ?_
        refine spG rfl rfl rfl rfl (PE.move rfl) rfl ?_
        refine sy_sq ?_
        refine clVG rfl rfl rfl rfl cal96 rfl rfl (c_keeps t hok s hs k2 q (by omega) (by simpa using hq) (lat σ.y s) (by omega) ba oa ca bt bw m σ.y o.fs hsl _ _) ?_
        refine sy_sq ?_
        refine sp rfl (PE.pick rfl rfl rfl) rfl ?_
        refine sy_sn ?_
        refine sy_nx ?_
        refine sy_cond rfl (fun hc3 => ?_) (fun hc3 => ?_)
        ·
         have hst := tabRow_hit g41 hq (fun i q h h2 => (hk2 i q h h2).resolve_left g41) hc3
         refine sy_seq ?_
         refine sy_tx' [0, 1, 2, 3, 4, 5, 6, 7] rfl ?_
         refine sy_sq ?_
         refine spL rfl rfl (lh sc27 rfl rfl) rfl ?_
         refine sy_sq ?_
         refine spL rfl rfl (lhA [_, _, _] ag23 rfl rfl rfl) rfl ?_
         refine sy_sq ?_
         refine sp rfl (PE.move rfl) rfl ?_
         refine sy_sq ?_
         refine sp rfl (PE.move rfl) rfl ?_
         refine sy_sq ?_
         refine sp rfl (PE.build (out := [_, _, _, _, _]) pl33 zl33 rfl rfl) rfl ?_
         refine sy_sq ?_
         refine bsl (out := [_, _, _, _, _]) rfl sl27 zl33 rfl rfl rfl rfl rfl rfl (fun b53 => ?_)
         refine sy_sq ?_
         refine apO (o') rfl ap27 rfl rfl (rowsH (row := trow ⟨s, lat σ.y s, k2⟩) rfl) rfl rfl ((by simp only [trows, List.length_map, List.length_singleton]; omega)) rfl (fun o54 => ?_)
         refine sy_sq ?_
         refine stoE (l' := [o54.fs]) rfl rfl rfl cn27 rfl (by rw [o54.cells.1]; first | done | rfl) (by rw [o54.cells.1]; simp [o54.cells.2]) (by rw [o54.cells.1]; first | done | rfl) (by rw [o54.cells.1]; first | done | exact Nat.le_refl _) ?_
         refine sy_sn ?_
         refine sy_nx ?_
         refine sy_exit ?_
         refine sy_bxn (by decide) ?_
         refine sy_tx ?_
         refine sy_tx ?_
         refine sy_bx ?_
         refine sy_bn ?_
         first
           | exact sy_roundOn (.inl ⟨rfl, o54.cast (by rw [hst]; simp [trows, trow]), rfl, rfl⟩) (fun _ h => by repeat first | exact h | replace h := St.tail h | replace h := St.ftail h | replace h := St.drop h)
           | exact sy_roundOn (.inl ⟨rfl, o'.cast (by rw [hst]; simp), rfl, rfl⟩) (fun _ h => by repeat first | exact h | replace h := St.tail h | replace h := St.ftail h | replace h := St.drop h)
        ·
         have hno : lat σ.y s = -1 ∨ t.keeps σ.y s q (lat σ.y s) = false := .inr hc3
         refine sy_skip ?_
         refine sy_bn ?_
         refine sy_nx ?_
         refine sy_tx' [0, 1] rfl ?_
         refine sy_sq ?_
         refine sp rfl (PE.add rfl rfl (by omega)) rfl ?_
         refine sy_sq ?_
         refine sp rfl (PE.move rfl) rfl ?_
         refine sy_sn ?_
         refine sy_nx ?_
         exact sy_next ⟨k2 + 1, by omega, fun i q' hi hq' => by
           rcases Nat.lt_or_ge i k2 with h1 | h1
           · exact hk2 i q' h1 hq'
           · obtain rfl : i = k2 := by omega
             rw [hq] at hq'; cases hq'; exact hno⟩ (by dsimp only; omega) (by repeat' first | exact Sub.nil | apply Sub.cons | rfl | (simp [lk]; omega)) (fun _ h => h)
       ·
        simp only [decide_eq_false_iff_not, Decidable.not_not] at g41
        have hno : lat σ.y s = -1 ∨ t.keeps σ.y s q (lat σ.y s) = false := .inl g41
        refine spN rfl rfl rfl rfl rfl rfl rfl rfl ?_
        refine sy_sq ?_
        refine spN rfl rfl rfl rfl rfl rfl rfl rfl ?_
        refine sy_sq ?_
        refine spN rfl rfl rfl rfl rfl rfl rfl rfl ?_
        refine sy_sq ?_
        refine spN rfl rfl rfl rfl rfl rfl rfl rfl ?_
        refine sy_sq ?_
        refine spN rfl rfl rfl rfl rfl rfl rfl rfl ?_
        refine sy_sq ?_
        refine sp rfl (PE.pick rfl rfl rfl) rfl ?_
        refine sy_sn ?_
        refine sy_nx ?_
        refine sy_condF rfl ?_
        refine sy_skip ?_
        refine sy_bn ?_
        refine sy_nx ?_
        refine sy_tx' [0, 1] rfl ?_
        refine sy_sq ?_
        refine sp rfl (PE.add rfl rfl (by omega)) rfl ?_
        refine sy_sq ?_
        refine sp rfl (PE.move rfl) rfl ?_
        refine sy_sn ?_
        refine sy_nx ?_
        exact sy_next ⟨k2 + 1, by omega, fun i q' hi hq' => by
          rcases Nat.lt_or_ge i k2 with h1 | h1
          · exact hk2 i q' h1 hq'
          · obtain rfl : i = k2 := by omega
            rw [hq] at hq'; cases hq'; exact hno⟩ (by dsimp only; omega) (by repeat' first | exact Sub.nil | apply Sub.cons | rfl | (simp [lk]; omega)) (fun _ h => h)
      ·
       simp only [decide_eq_true_eq, decide_eq_false_iff_not, Bool.and_eq_true, Bool.or_eq_true, Bool.not_eq_true', Int.not_le, Int.not_lt] at hc2
       obtain rfl : k2 = t.rats.length := by omega
       have hst := tabRow_miss hk2
       refine sy_exit ?_
       refine sy_tx ?_
       refine sy_tx ?_
       refine sy_bx ?_
       refine sy_bn ?_
       first
         | exact sy_roundOn (.inl ⟨rfl, o54.cast (by rw [hst]; simp [trows, trow]), rfl, rfl⟩) (fun _ h => by repeat first | exact h | replace h := St.tail h | replace h := St.ftail h | replace h := St.drop h)
         | exact sy_roundOn (.inl ⟨rfl, o'.cast (by rw [hst]; simp), rfl, rfl⟩) (fun _ h => by repeat first | exact h | replace h := St.tail h | replace h := St.ftail h | replace h := St.drop h)
    ·
     rintro _ _ _ _ ⟨rfl, rfl, o', rfl, rfl⟩
     refine sy_jn ?_
     refine sy_bn ?_
     refine sy_nx ?_
     refine sy_seq ?_
     refine sy_tx' [0, 1, 2] rfl ?_
     refine sy_sq ?_
     refine spL rfl rfl (lh sc27 rfl rfl) rfl ?_
     refine sy_sq ?_
     refine sp rfl (PE.assign rfl) rfl ?_
     refine sy_sq ?_
     refine sp rfl (PE.assign rfl) rfl ?_
     refine sy_sn ?_
     refine sy_nx ?_
     refine sy_ret ?_
     first
       | exact sy_returnM [] (fun _ h => h) rfl (.cons (RV.tmp rfl) (.cons (RV.tmp rfl) .nil)) rfl ⟨.inr ⟨hck, σ, hσ, .inl ⟨hc1, rfl, rfl⟩⟩, rfl⟩ (fun _ h => by repeat first | exact h | replace h := St.tail h | replace h := St.ftail h | replace h := St.drop h)
       | exact sy_returnM [bd0] (fun _ h => h) rfl (.cons (RV.tmp rfl) (.cons (RV.tmp rfl) .nil)) rfl ⟨.inr ⟨hck, σ, hσ, .inr ⟨hc1, o', rfl, rfl⟩⟩, rfl⟩ (fun w h => ((((h.tail.tail.del b1).del bw).del m).ftail.ftail).dropMid)

/-- The state that Needs looks for. -/
def needP (t : Twn) (y : List Int) (bads : Int) (s : Sta) : Bool := (decide (s.short = t.now.short) && decide (s.dry = t.now.dry)) && decide (bads ≤ lat y s)
def needV (t : Twn) (y : List Int) (bads : Int) : Value := match (sts t).find? (needP t y bads) with
  | some s => .tuple #[.int .i64 s.stock, .int .i64 0]
  | none => .tuple #[.int .i64 0, .int .i64 6]
theorem find_at {α : Type} {p : α → Bool} : ∀ {l : List α} {k : Nat} {x : α}, l[k]? = some x → (∀ i z, i < k → l[i]? = some z → p z = false) → p x = true → l.find? p = some x
  | [], _, _, h, _, _ => by simp at h
  | a :: l, 0, x, h, _, hp => by
    simp only [List.getElem?_cons_zero, Option.some.injEq] at h
    subst h; simp [hp]
  | a :: l, k + 1, x, h, hn, hp => by
    have h0 := hn 0 a (by omega) rfl
    rw [List.find?_cons, h0]
    exact find_at (l := l) (k := k) (by simpa using h) (fun i z hi hz => hn (i + 1) z (by omega) (by simpa using hz)) hp

theorem c_Needs (t : Twn) (hl : t.rats.length ≤ 9223372036854775807) (bads : Int) (ba oa ca : Nat) (H : Heap) (R : Facts) [hR : MemRows (some ⟨ba, oa, none⟩) 2 (rrows t.rats) R] :
    Fn Try.prog 45 [t.v (t.sl (some ⟨ba, oa, none⟩) ca), .int .i64 bads] H R (fun v H' R' => ((t.check ≠ 0 ∧ v = .tuple #[.int .i64 0, .int .i64 t.check]) ∨
      (t.check = 0 ∧ inb bads 0 1000000 = false ∧ v = .tuple #[.int .i64 0, .int .i64 3]) ∨ (t.check = 0 ∧ inb bads 0 1000000 = true ∧ ∃ σ, Solv t σ ∧ v = needV t σ.y bads)) ∧ H' = H ∧ R' = R) := by
  refine fnM_of Try.func45 rfl Try.ntmps45 rfl ?_
  refine sy_seq ?_
  refine sy_tx' [0, 1, 2, 3] rfl ?_
  refine sy_sq ?_
  refine bx rfl rfl rfl (fun b2 => ?_)
  refine sy_sq ?_
  refine bx rfl rfl rfl (fun b3 => ?_)
  refine sy_sq ?_
  refine alc rfl zl3 rfl (fun b4 => ?_)
  refine sy_sq ?_
  refine alc rfl zl39 rfl (fun b5 => ?_)
  refine sy_sn ?_
  refine sy_nx ?_
  refine sy_seq ?_
  refine sy_tx' [0, 1, 2, 3, 4, 5, 6, 7] rfl ?_
  refine sy_sq ?_
  refine spL rfl rfl (lhA [_, _, _, _, _, _, _, _, _, _, _] ag26 rfl rfl rfl) rfl ?_
  refine sy_sq ?_
  refine cl rfl cal89 rfl rfl (c_opened t hl ba oa ca _ _) ?_
  rintro _ _ _ (⟨hck, rfl, rfl, rfl⟩ | ⟨hck, bw, m, bt, rfl, rfl, rfl⟩)
  ·
   refine sy_sq ?_
   refine sp rfl (PE.move rfl) rfl ?_
   refine sy_sq ?_
   refine sp rfl (PE.extract rfl rfl) rfl ?_
   refine sy_sq ?_
   refine sp rfl (PE.extract rfl rfl) rfl ?_
   refine sy_sq ?_
   refine alc rfl zl138 rfl (fun b6 => ?_)
   refine sy_sq ?_
   refine sto rfl rfl rfl cn138 rfl rfl rfl rfl ?_
   refine sy_sq ?_
   refine sp rfl (PE.assign rfl) rfl ?_
   refine sy_sn ?_
   refine sy_nx ?_
   refine sy_seq ?_
   refine sy_block ?_
   refine sy_seq ?_
   refine sy_tx' [0, 1, 2] rfl ?_
   refine sy_sq ?_
   refine sp rfl (PE.move rfl) rfl ?_
   refine sy_sq ?_
   refine sp rfl (PE.neq rfl rfl) rfl ?_
   refine sy_sq ?_
   refine sp rfl (PE.assign rfl) rfl ?_
   refine sy_sn ?_
   refine sy_nx ?_
   refine sy_condT (congrArg (fun b => some (Value.bool b)) (decide_eq_true hck)) ?_
   refine sy_seq ?_
   refine sy_tx' [0, 1, 2] rfl ?_
   refine sy_sq ?_
   refine sp rfl (PE.move rfl) rfl ?_
   refine sy_sq ?_
   refine sto rfl rfl rfl cn3 rfl rfl rfl rfl ?_
   refine sy_sq ?_
   refine sto rfl rfl rfl cn39 rfl rfl rfl rfl ?_
   refine sy_sn ?_
   refine sy_nx ?_
   refine sy_ret ?_
   refine sy_br ?_
   refine sy_tr ?_
   exact sy_returnM [] (fun _ h => h) rfl (.cons (RV.cell rfl (lh sc3 rfl rfl)) (.cons (RV.cell rfl (lh sc39 rfl rfl)) .nil)) rfl ⟨.inl ⟨hck, rfl⟩, rfl, rfl⟩ (fun _ h => by repeat first | exact h | replace h := St.tail h | replace h := St.ftail h | replace h := St.drop h)
  ·
   refine sy_sq ?_
   have hok := (ok_of_check hck).1
   refine sp rfl (PE.move rfl) rfl ?_
   refine sy_sq ?_
   refine sp rfl (PE.extract rfl rfl) rfl ?_
   refine sy_sq ?_
   refine sp rfl (PE.extract rfl rfl) rfl ?_
   refine sy_sq ?_
   refine alc rfl zl138 rfl (fun b6 => ?_)
   refine sy_sq ?_
   refine sto rfl rfl rfl cn138 rfl rfl rfl rfl ?_
   refine sy_sq ?_
   refine sp rfl (PE.assign rfl) rfl ?_
   refine sy_sn ?_
   refine sy_nx ?_
   refine sy_seq ?_
   refine sy_block ?_
   refine sy_seq ?_
   refine sy_tx' [0, 1, 2] rfl ?_
   refine sy_sq ?_
   refine sp rfl (PE.move rfl) rfl ?_
   refine sy_sq ?_
   refine sp rfl (PE.neq rfl rfl) rfl ?_
   refine sy_sq ?_
   refine sp rfl (PE.assign rfl) rfl ?_
   refine sy_sn ?_
   refine sy_nx ?_
   refine sy_condF (rfl) ?_
   refine sy_seq ?_
   refine sy_tx' [0, 1, 2, 3] rfl ?_
   refine sy_sq ?_
   refine spL rfl rfl (lh sc3 rfl rfl) rfl ?_
   refine sy_sq ?_
   refine clV rfl cal92 rfl rfl (c_in _ _ _ _ _) ?_
   refine sy_sq ?_
   refine sp rfl (PE.not rfl) rfl ?_
   refine sy_sq ?_
   refine sp rfl (PE.assign rfl) rfl ?_
   refine sy_sn ?_
   refine sy_nx ?_
   refine sy_cond rfl (fun hc1 => ?_) (fun hc1 => ?_)
   ·
    have hib : inb bads 0 1000000 = false := by rw [← Bool.not_eq_true']; exact hc1
    refine sy_seq ?_
    refine sy_tx' [0, 1] rfl ?_
    refine sy_sq ?_
    refine sto rfl rfl rfl cn3 rfl rfl rfl rfl ?_
    refine sy_sq ?_
    refine sto rfl rfl rfl cn39 rfl rfl rfl rfl ?_
    refine sy_sn ?_
    refine sy_nx ?_
    refine sy_ret ?_
    refine sy_br ?_
    refine sy_tr ?_
    first
      | exact sy_returnM [] (fun _ h => h) rfl (.cons (RV.cell rfl (lh sc3 rfl rfl)) (.cons (RV.cell rfl (lh sc39 rfl rfl)) .nil)) rfl ⟨.inr (.inl ⟨hck, hib, rfl⟩), rfl, rfl⟩ (fun w h => (((((((h.del b3).del b4).del b5).del b6).del b2).del bw).del m).ftail)
      | exact sy_returnM [bd0] (fun _ h => h) rfl (.cons (RV.cell rfl (lh sc3 rfl rfl)) (.cons (RV.cell rfl (lh sc39 rfl rfl)) .nil)) (v := needV t σ.y bads) (by unfold needV; rw [hno]; rfl) ⟨.inr (.inr ⟨hck, hib, σ, hσ, rfl⟩), rfl, rfl⟩ (fun w h => (((((((h.del b3).del b4).del b5).del b6).del b2).del bw).del m).ftail.ftail.drop)
   ·
    have hib : inb bads 0 1000000 = true := by rw [← Bool.not_eq_false']; exact hc1
    have hbd := hib
    simp only [inb, Bool.and_eq_true, decide_eq_true_eq] at hbd
    refine sy_skip ?_
    refine sy_bn ?_
    refine sy_nx ?_
    refine sy_seq ?_
    refine sy_tx' [0, 1] rfl ?_
    refine sy_sq ?_
    refine spL rfl rfl (lh sc138 rfl rfl) rfl ?_
    refine sy_sq ?_
    refine sy_pull m ?_
    refine sy_pull bw ?_
    refine cl rfl cal108 rfl rfl (c_solve t hok ba oa ca bt bw m _ _) ?_
    rintro v _ _ ⟨σ, o, hσ, rfl, rfl⟩
    have hsl := solv_ok hok hσ
    refine sy_sn ?_
    refine sy_nx ?_
    refine sy_seq ?_
    refine sy_seq ?_
    refine sy_tx' [0, 1] rfl ?_
    refine sy_sq ?_
    refine spL rfl rfl (lhA [_, _, _, _, _, _, _, _, _, _, _] ag26 rfl rfl rfl) rfl ?_
    refine sy_sq ?_
    refine cl rfl cal90 rfl rfl (c_states t (t.sl (some ⟨ba, oa, none⟩) ca) _ _) ?_
    rintro _ _ _ ⟨b26, rfl, rfl, rfl⟩
    refine sy_pull b2 ?_
    refine sy_pull b6 ?_
    refine sy_pull b5 ?_
    refine sy_pull b4 ?_
    refine sy_pull b3 ?_
    refine sy_sn ?_
    refine sy_nx ?_
    refine sy_block ?_
    refine sy_range rfl cal127 (fun c0 bl0 bd0 hcp0 hca0 hcb0 hck0 => ?_)
    refine ⟨fun st pend T R' => (st = .ready ∧ pend = none ∧ (sts t).find? (needP t σ.y bads) = none ∧ T = (bd0, .deferred (some [])) :: (b3, cel 3 [.int .i64 bads]) :: (b4, cel 3 [.int .i64 0]) :: (b5, cel 39 [.int .i64 0]) :: (b6, cel 138 [.pointer (some ⟨bw, 0, none⟩)]) :: (b2, cel 26 (twl t (t.sl (some ⟨ba, oa, none⟩) ca))) :: (o.G ++ (bw, cel 153 (rcs t (t.sl (some ⟨ba, oa, none⟩) ca) bt (σ.y) o.fs m)) :: (m, mapO true (kvOf σ.fl)) :: H) ∧ R' = RowsA (some ⟨b26, 0, none⟩) 11 [twl t (t.sl (some ⟨ba, oa, none⟩) ca)] :: RowsA (some ⟨bt, 0, none⟩) 11 [twl t (t.sl (some ⟨ba, oa, none⟩) ca)] :: R) ∨
        (st = .done ∧ pend = some .ret ∧ ∃ s, (sts t).find? (needP t σ.y bads) = some s ∧ T = (bd0, .deferred (some [])) :: (b3, cel 3 [.int .i64 bads]) :: (b4, cel 3 [.int .i64 s.stock]) :: (b5, cel 39 [.int .i64 0]) :: (b6, cel 138 [.pointer (some ⟨bw, 0, none⟩)]) :: (b2, cel 26 (twl t (t.sl (some ⟨ba, oa, none⟩) ca))) :: (o.G ++ (bw, cel 153 (rcs t (t.sl (some ⟨ba, oa, none⟩) ca) bt (σ.y) o.fs m)) :: (m, mapO true (kvOf σ.fl)) :: H) ∧ R' = RowsA (some ⟨b26, 0, none⟩) 11 [twl t (t.sl (some ⟨ba, oa, none⟩) ca)] :: RowsA (some ⟨bt, 0, none⟩) 11 [twl t (t.sl (some ⟨ba, oa, none⟩) ca)] :: R),
      Fn.mono (c_states1 t hok (t.sl (some ⟨ba, oa, none⟩) ca) b26 bl0 (fun k H' R' => (∀ i s, i < k → (sts t)[i]? = some s → needP t σ.y bads s = false) ∧ H' = (bl0, lob c0 .ready none) :: (bd0, .deferred (some [])) :: (b3, cel 3 [.int .i64 bads]) :: (b4, cel 3 [.int .i64 0]) :: (b5, cel 39 [.int .i64 0]) :: (b6, cel 138 [.pointer (some ⟨bw, 0, none⟩)]) :: (b2, cel 26 (twl t (t.sl (some ⟨ba, oa, none⟩) ca))) :: (o.G ++ (bw, cel 153 (rcs t (t.sl (some ⟨ba, oa, none⟩) ca) bt (σ.y) o.fs m)) :: (m, mapO true (kvOf σ.fl)) :: H) ∧ R' = RowsA (some ⟨b26, 0, none⟩) 11 [twl t (t.sl (some ⟨ba, oa, none⟩) ca)] :: RowsA (some ⟨bt, 0, none⟩) 11 [twl t (t.sl (some ⟨ba, oa, none⟩) ca)] :: R)
        (fun H' R' => ∃ s, (sts t).find? (needP t σ.y bads) = some s ∧ H' = (bl0, lob c0 .done (some .ret)) :: (bd0, .deferred (some [])) :: (b3, cel 3 [.int .i64 bads]) :: (b4, cel 3 [.int .i64 s.stock]) :: (b5, cel 39 [.int .i64 0]) :: (b6, cel 138 [.pointer (some ⟨bw, 0, none⟩)]) :: (b2, cel 26 (twl t (t.sl (some ⟨ba, oa, none⟩) ca))) :: (o.G ++ (bw, cel 153 (rcs t (t.sl (some ⟨ba, oa, none⟩) ca) bt (σ.y) o.fs m)) :: (m, mapO true (kvOf σ.fl)) :: H) ∧ R' = RowsA (some ⟨b26, 0, none⟩) 11 [twl t (t.sl (some ⟨ba, oa, none⟩) ca)] :: RowsA (some ⟨bt, 0, none⟩) 11 [twl t (t.sl (some ⟨ba, oa, none⟩) ca)] :: R)
        (fun k H' R' h => by obtain ⟨_, _, h⟩ := h; rw [h]; simp) (fun k s H' R' hk hI => ?_) _ _ ⟨by omega, rfl, rfl⟩) (fun v H' R' h => ?_), ?_⟩
    rotate_left
    · rcases h with ⟨hn, rfl, rfl⟩ | ⟨s, hs, rfl, rfl⟩
      · refine ⟨.ready, none, _, by simp, .refl _, .inl ⟨rfl, rfl, ?_, rfl, rfl⟩⟩
        rw [List.find?_eq_none]
        intro s hs
        obtain ⟨i, hi⟩ := List.getElem?_of_mem hs
        have := (List.getElem?_eq_some_iff.1 hi).1
        rw [sts_len] at this
        simp [hn i s this hi]
      · exact ⟨.done, some .ret, _, by simp, .refl _, .inr ⟨rfl, rfl, s, hs, rfl, rfl⟩⟩
    rotate_left
    ·
     have hs := sts_right hok (List.mem_of_getElem? hk)
     obtain ⟨hno, rfl, rfl⟩ := hI
     refine yd_of hcp0 hca0 hcb0 hck0 rfl ?_
     refine sy_tx' [0, 1] rfl ?_
     refine sy_sq ?_
     refine alc rfl zl23 rfl (fun b8 => ?_)
     refine sy_sq ?_
     refine sto rfl rfl rfl cn23 rfl rfl rfl rfl ?_
     refine sy_sn ?_
     refine sy_beginRound ?_
     refine sy_block ?_
     refine sy_seq ?_
     refine sy_tx' [0, 1, 2, 3, 4, 5, 6, 7, 8, 9, 10] rfl ?_
     refine sy_sq ?_
     refine sp rfl (PE.fieldAddr fo23_0 rfl) rfl ?_
     refine sy_sq ?_
     refine spL rfl rfl (lh sc3 rfl rfl) rfl ?_
     refine sy_sq ?_
     refine sp rfl (PE.fieldAddr fo26_0 rfl) rfl ?_
     refine sy_sq ?_
     refine sp rfl (PE.fieldAddr fo23_1 rfl) rfl ?_
     refine sy_sq ?_
     refine spL rfl rfl (lh sc3 rfl rfl) rfl ?_
     refine sy_sq ?_
     refine sp rfl (PE.fieldAddr fo26_0 rfl) rfl ?_
     refine sy_sq ?_
     refine sp rfl (PE.fieldAddr fo23_2 rfl) rfl ?_
     refine sy_sq ?_
     refine spL rfl rfl (lh sc3 rfl rfl) rfl ?_
     refine sy_sq ?_
     refine sp rfl (PE.build (out := [_, _, _]) pl23 zl23 rfl rfl) rfl ?_
     refine sy_sq ?_
     refine alc rfl zl23 rfl (fun b9 => ?_)
     refine sy_sq ?_
     refine sto rfl rfl rfl cn23 rfl rfl rfl rfl ?_
     refine sy_sn ?_
     refine sy_nx ?_
     refine sy_seq ?_
     refine sy_draw [0, 0, 3, 7, 15, 31, 63, 15, 255, 15, 1023, 2047] (.ld 0 (.ld 1 (.tk 2 (.tk 3 (.ld 4 (.tk 5 (.tk 6 (.ld 7 (.ld 9 (.big 8 (.tk 10 (.tk 11 .done)))))))))))) mixed (by kernel_rfl) ?_
     refine ld rfl rfl (lhA [_, _, _] ag23 rfl rfl rfl) rfl ?_
     refine ld rfl rfl (lhA [_, _, _] ag23 rfl rfl rfl) rfl ?_
     refine tk rfl (PE.eqlAgg [s.stock, s.short, s.dry] [s.stock, t.now.short, t.now.dry] (eqB_ok 10000 23 true 3 eqf23) eqg23 rfl rfl rfl rfl) rfl ?_
     refine tk rfl (PE.move rfl) rfl ?_
     refine sy_case (t := 40) rfl (fun g40 => ?_) (fun g40 => ?_)
     ·
      have hst : (decide (s.short = t.now.short) && decide (s.dry = t.now.dry)) = true := by simpa using g40
      refine ldG rfl rfl rfl rfl rfl (lh sc138 rfl rfl) rfl ?_
      refine tkG rfl rfl rfl rfl (PE.nilCheck rfl) rfl ?_
      refine tkG rfl rfl rfl rfl (PE.fieldAddr fo153_2 rfl) rfl ?_
      refine ldG rfl rfl rfl rfl rfl (lhA [_, _, _] ag23 rfl rfl rfl) rfl ?_
      refine ldG rfl rfl rfl rfl rfl (lh sc3 rfl rfl) rfl ?_
      refine sy_bg ?_
      refine clVG rfl rfl rfl rfl cal95 rfl rfl (c_of t hok s hs ba oa ca bt bw m σ.y o.fs hsl _ _) ?_
      refine bg (fun w hs => ⟨(lh sc3 rfl rfl) w hs, trivial, trivial, trivial, trivial, trivial⟩) ?_
      refine tkG rfl rfl rfl rfl (PE.geq rfl rfl) rfl ?_
      refine tk rfl (PE.pick rfl rfl rfl) rfl ?_
      refine sy_dn ?_
      refine sy_nx ?_
      refine sy_cond rfl (fun hc2 => ?_) (fun hc2 => ?_)
      ·
       have hp : needP t σ.y bads s = true := by unfold needP; rw [hst]; exact hc2
       refine sy_seq ?_
       refine sy_tx' [0, 1, 2, 3] rfl ?_
       refine sy_sq ?_
       refine sp rfl (PE.fieldAddr fo23_0 rfl) rfl ?_
       refine sy_sq ?_
       refine spL rfl rfl (lh sc3 rfl rfl) rfl ?_
       refine sy_sq ?_
       refine sto rfl rfl rfl cn3 rfl rfl rfl rfl ?_
       refine sy_sq ?_
       refine sto rfl rfl rfl cn39 rfl rfl rfl rfl ?_
       refine sy_sn ?_
       refine sy_nx ?_
       refine sy_ret ?_
       refine sy_br ?_
       exact sy_roundRet (.inr ⟨rfl, s, find_at hk hno hp, rfl, rfl⟩) (fun _ h => by repeat first | exact h | replace h := St.tail h | replace h := St.ftail h | replace h := St.drop h)
      ·
       have hnp : needP t σ.y bads s = false := by unfold needP; rw [hst]; exact hc2
       refine sy_skip ?_
       refine sy_bn ?_
       exact sy_roundOn (.inl ⟨rfl, fun i z hi hz => by
         rcases Nat.lt_or_ge i k with h1 | h1
         · exact hno i z h1 hz
         · obtain rfl : i = k := by omega
           rw [hk] at hz; cases hz; exact hnp, rfl, rfl⟩) (fun _ h => by repeat first | exact h | replace h := St.tail h | replace h := St.ftail h | replace h := St.drop h)
     ·
      have hst : (decide (s.short = t.now.short) && decide (s.dry = t.now.dry)) = false := by simpa using g40
      have hnp : needP t σ.y bads s = false := by unfold needP; rw [hst]; rfl
      refine ldN rfl rfl rfl rfl rfl rfl rfl rfl ?_
      refine tkN rfl rfl rfl rfl rfl rfl rfl rfl ?_
      refine tkN rfl rfl rfl rfl rfl rfl rfl rfl ?_
      refine ldN rfl rfl rfl rfl rfl rfl rfl rfl ?_
      refine ldN rfl rfl rfl rfl rfl rfl rfl rfl ?_
      refine sy_bg ?_
      refine spN rfl rfl rfl rfl rfl rfl rfl rfl ?_
      refine bg (fun w hs => ⟨((fun _ _ => True.intro)) w hs, trivial, trivial, trivial, trivial, trivial⟩) ?_
      refine tkN rfl rfl rfl rfl rfl rfl rfl rfl ?_
      refine tk rfl (PE.pick rfl rfl rfl) rfl ?_
      refine sy_dn ?_
      refine sy_nx ?_
      refine sy_condF rfl ?_
      refine sy_skip ?_
      refine sy_bn ?_
      exact sy_roundOn (.inl ⟨rfl, fun i z hi hz => by
        rcases Nat.lt_or_ge i k with h1 | h1
        · exact hno i z h1 hz
        · obtain rfl : i = k := by omega
          rw [hk] at hz; cases hz; exact hnp, rfl, rfl⟩) (fun _ h => by repeat first | exact h | replace h := St.tail h | replace h := St.ftail h | replace h := St.drop h)
    rintro _ _ _ _ (⟨rfl, rfl, hno, rfl, rfl⟩ | ⟨rfl, rfl, s, hfs, rfl, rfl⟩)
    ·
     refine sy_jn ?_
     refine sy_bn ?_
     refine sy_nx ?_
     refine sy_seq ?_
     refine sy_tx' [0, 1] rfl ?_
     refine sy_sq ?_
     refine sto rfl rfl rfl cn3 rfl rfl rfl rfl ?_
     refine sy_sq ?_
     refine sto rfl rfl rfl cn39 rfl rfl rfl rfl ?_
     refine sy_sn ?_
     refine sy_nx ?_
     refine sy_ret ?_
     first
       | exact sy_returnM [] (fun _ h => h) rfl (.cons (RV.cell rfl (lh sc3 rfl rfl)) (.cons (RV.cell rfl (lh sc39 rfl rfl)) .nil)) rfl ⟨.inr (.inl ⟨hck, hib, rfl⟩), rfl, rfl⟩ (fun w h => (((((((h.del b3).del b4).del b5).del b6).del b2).del bw).del m).ftail)
       | exact sy_returnM [bd0] (fun _ h => h) rfl (.cons (RV.cell rfl (lh sc3 rfl rfl)) (.cons (RV.cell rfl (lh sc39 rfl rfl)) .nil)) (v := needV t σ.y bads) (by unfold needV; rw [hno]; rfl) ⟨.inr (.inr ⟨hck, hib, σ, hσ, rfl⟩), rfl, rfl⟩ (fun w h => (((((((h.del b3).del b4).del b5).del b6).del b2).del bw).del m).ftail.ftail.drop)
    ·
     refine sy_jc ?_
     refine sy_ret ?_
     refine sy_br ?_
     refine sy_tr ?_
     exact sy_returnM [bd0] (fun _ h => h) rfl (.cons (RV.cell rfl (lh sc3 rfl rfl)) (.cons (RV.cell rfl (lh sc39 rfl rfl)) .nil)) (v := needV t σ.y bads) (by unfold needV; rw [hfs]; rfl) ⟨.inr (.inr ⟨hck, hib, σ, hσ, rfl⟩), rfl, rfl⟩ (fun w h => (((((((h.del b3).del b4).del b5).del b6).del b2).del bw).del m).ftail.ftail.drop)
end Go.Proofs.Ytaldphhdkmchhaa
