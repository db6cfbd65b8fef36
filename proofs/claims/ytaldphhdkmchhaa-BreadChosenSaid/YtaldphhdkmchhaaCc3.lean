/- Walks of the functions of the program, and the laws that join them: what the last theorem of this claim needs, in order. -/
import Derived.Test.YtaldphhdkmchhaaCc2
namespace Go.Proofs.Ytaldphhdkmchhaa
set_option linter.unusedSimpArgs false
set_option linter.unusedVariables false
open Go
theorem ap27 : apT Try.prog 27 = some (33, 5, 40) := by kernel_rfl
theorem cn138 : cellN Try.prog 138 = some 1 := by kernel_rfl
theorem cn27 : cellN Try.prog 27 = some 1 := by kernel_rfl
theorem cn39 : cellN Try.prog 39 = some 1 := by kernel_rfl
theorem eqg23 : Try.prog.eqGuardType Try.prog.depth 23 = false := by kernel_rfl
theorem pl33 : placeL Try.prog 33 = some [(0, 3), (3, 1), (4, 1)] := by kernel_rfl
theorem sc27 : scal Try.prog 27 = true := by kernel_rfl
theorem sc39 : scal Try.prog 39 = true := by kernel_rfl
theorem sl27 : slE Try.prog 27 = some (33, 5) := by kernel_rfl
theorem zl138 : zeroL Try.prog 138 = some ([.pointer none]) := by kernel_rfl
theorem zl27 : zeroL Try.prog 27 = some ([.slice none 0 0]) := by kernel_rfl
theorem zl33 : zeroL Try.prog 33 = some ([.int .i64 0, .int .i64 0, .int .i64 0, .int .i64 0, .int .i64 0]) := by kernel_rfl
theorem zl39 : zeroL Try.prog 39 = some ([.int .i64 0]) := by kernel_rfl
def trow (x : Rw) : List Value := [.int .i64 x.st.stock, .int .i64 x.st.short, .int .i64 x.st.dry, .int .i64 x.lasts, .int .i64 x.ration]
def trows (l : List Rw) : List (List Value) := l.map trow
theorem c_Table (t : Twn) (hl : t.rats.length ≤ 9223372036854775807) (ba oa ca : Nat) (H : Heap) (R : Facts) [hR : MemRows (some ⟨ba, oa, none⟩) 2 (rrows t.rats) R] :
    Fn Try.prog 26 [t.v (t.sl (some ⟨ba, oa, none⟩) ca)] H R (fun v H' R' => ((t.check ≠ 0 ∧ v = .tuple #[.slice none 0 0, .int .i64 t.check] ∧ H' = H) ∨
      (t.check = 0 ∧ ∃ σ, Solv t σ ∧ ((lat σ.y t.now = -1 ∧ v = .tuple #[.slice none 0 0, .int .i64 6] ∧ H' = H) ∨ (lat σ.y t.now ≠ -1 ∧ ∃ o : OSl 33 5 (trows (tab t σ.y)), v = .tuple #[o.fs, .int .i64 0] ∧ H' = o.G ++ H)))) ∧ R' = R) := by
 refine fnM_of Try.func26 rfl Try.ntmps26 rfl ?_
 refine sy_seq ?_
 refine sy_tx' [0, 1, 2] rfl ?_
 refine bx rfl rfl rfl (fun b1 => ?_)
 refine sp rfl (PE.assign rfl) rfl ?_
 refine sp rfl (PE.assign rfl) rfl ?_
 refine sy_seq ?_
 refine sy_tx' [0, 1, 2, 3, 4, 5, 6, 7] rfl ?_
 refine spL rfl rfl (lhA [_, _, _, _, _, _, _, _, _, _, _] ag26 rfl rfl rfl) rfl ?_
 refine cl rfl cal97 rfl rfl (c_solved t hl ba oa ca _ _) ?_
 rintro _ _ _ (⟨hck, rfl, rfl, rfl⟩ | ⟨hck, bw, m, bt, σ, o, hσ, rfl, rfl, rfl⟩)
 refine sp rfl (PE.move rfl) rfl ?_
 refine sp rfl (PE.extract rfl rfl) rfl ?_
 refine sp rfl (PE.extract rfl rfl) rfl ?_
 refine alc rfl zl138 rfl (fun b4 => ?_)
 refine sto rfl rfl rfl cn138 rfl rfl rfl rfl ?_
 refine sp rfl (PE.assign rfl) rfl ?_
 refine sy_seq ?_
 refine sy_seq ?_
 refine sy_tx' [0, 1] rfl ?_
 refine sp rfl (PE.move rfl) rfl ?_
 refine sp rfl (PE.neq rfl rfl) rfl ?_
 refine sy_condT (congrArg (fun b => some (Value.bool b)) (decide_eq_true hck)) ?_
 refine sy_seq ?_
 refine sy_tx' [0, 1, 2] rfl ?_
 refine sp rfl (PE.move rfl) rfl ?_
 refine sp rfl (PE.assign rfl) rfl ?_
 refine sp rfl (PE.assign rfl) rfl ?_
 refine sy_ret ?_
 exact sy_returnM [] (fun _ h => h) rfl (.cons (RV.tmp rfl) (.cons (RV.tmp rfl) .nil)) rfl ⟨.inl ⟨hck, rfl, rfl⟩, rfl⟩ drp
 ·
  have hok := (ok_of_check hck).1
  have hsl := solv_ok hok hσ
  refine sp rfl (PE.move rfl) rfl ?_
  refine sp rfl (PE.extract rfl rfl) rfl ?_
  refine sp rfl (PE.extract rfl rfl) rfl ?_
  refine alc rfl zl138 rfl (fun b4 => ?_)
  refine sto rfl rfl rfl cn138 rfl rfl rfl rfl ?_
  refine sp rfl (PE.assign rfl) rfl ?_
  refine sy_seq ?_
  refine sy_seq ?_
  refine sy_tx' [0, 1] rfl ?_
  refine sp rfl (PE.move rfl) rfl ?_
  refine sp rfl (PE.neq rfl rfl) rfl ?_
  refine sy_condF (rfl) ?_
  refine sy_skip ?_
  refine sy_seq ?_
  refine sy_seq ?_
  refine sy_draw [0, 1, 3, 0, 8, 31, 63] (.ld 0 (.tk 1 (.tk 2 (.tk 3 (.ld 4 (.big 5 (.tk 6 .done))))))) mixed (by kernel_rfl) ?_
  refine ld rfl rfl (lh sc138 rfl rfl) rfl ?_
  refine tk rfl (PE.nilCheck rfl) rfl ?_
  refine tk rfl (PE.fieldAddr fo153_2 rfl) rfl ?_
  refine tk rfl (PE.fieldAddr fo26_0 rfl) rfl ?_
  refine ld rfl rfl (lhA [_, _, _] ag23 rfl rfl rfl) rfl ?_
  refine clV rfl cal95 rfl rfl (c_of t hok t.now hok.now ba oa ca bt bw m σ.y o.fs hsl _ _) ?_
  refine bg (fun w hs => ⟨trivial, trivial, trivial⟩) ?_
  refine tk rfl (PE.eql rfl rfl) rfl ?_
  refine sy_cond rfl (fun hc1 => ?_) (fun hc1 => ?_)
  simp only [decide_eq_true_eq] at hc1
  refine sy_seq ?_
  refine sy_tx' [0, 1] rfl ?_
  refine sp rfl (PE.assign rfl) rfl ?_
  refine sp rfl (PE.assign rfl) rfl ?_
  refine sy_ret ?_
  first
    | exact sy_returnM [] (fun _ h => h) rfl (.cons (RV.tmp rfl) (.cons (RV.tmp rfl) .nil)) rfl ⟨.inr ⟨hck, σ, hσ, .inl ⟨hc1, rfl, rfl⟩⟩, rfl⟩ drp
    | exact sy_returnM [bd0] (fun _ h => h) rfl (.cons (RV.tmp rfl) (.cons (RV.tmp rfl) .nil)) rfl ⟨.inr ⟨hck, σ, hσ, .inr ⟨hc1, o', rfl, rfl⟩⟩, rfl⟩ (fun w h => ((((h.tail.tail.del b1).del bw).del m).ftail.ftail).dropMid)
  ·
   simp only [decide_eq_false_iff_not] at hc1
   refine sy_skip ?_
   refine sy_seq ?_
   refine sy_tx' [0] rfl ?_
   refine alc rfl zl27 rfl (fun b6 => ?_)
   refine sy_seq ?_
   refine sy_seq ?_
   refine sy_tx' [0, 1] rfl ?_
   refine spL rfl rfl (lhA [_, _, _, _, _, _, _, _, _, _, _] ag26 rfl rfl rfl) rfl ?_
   refine cl rfl cal90 rfl rfl (c_states t (t.sl (some ⟨ba, oa, none⟩) ca) _ _) ?_
   rintro _ _ _ ⟨b26, rfl, rfl, rfl⟩
   refine sy_pull b1 ?_
   refine sy_pull b4 ?_
   refine sy_pull b6 ?_
   refine sy_block ?_
   refine sy_range rfl cal127 (fun c0 bl0 bd0 hcp0 hca0 hcb0 hck0 => ?_)
   refine ⟨fun st pend T R' => st = .ready ∧ pend = none ∧ ∃ o' : OSl 33 5 (trows (tab t σ.y)), T = (bd0, .deferred (some [])) :: (b6, cel 27 [o'.fs]) :: (b4, cel 138 [.pointer (some ⟨bw, 0, none⟩)]) :: (o'.G ++ (b1, cel 26 (twl t (t.sl (some ⟨ba, oa, none⟩) ca))) :: (o.G ++ (bw, cel 153 (rcs t (t.sl (some ⟨ba, oa, none⟩) ca) bt (σ.y) o.fs m)) :: (m, mapO true (kvOf σ.fl)) :: H)) ∧ R' = RowsA (some ⟨b26, 0, none⟩) 11 [twl t (t.sl (some ⟨ba, oa, none⟩) ca)] :: RowsA (some ⟨bt, 0, none⟩) 11 [twl t (t.sl (some ⟨ba, oa, none⟩) ca)] :: R,
     Fn.mono (c_states1 t hok (t.sl (some ⟨ba, oa, none⟩) ca) b26 bl0 (fun k H' R' => ∃ o' : OSl 33 5 (trows (((sts t).take k).filterMap (tabRow t σ.y))), H' = (bl0, lob c0 .ready none) :: (bd0, .deferred (some [])) :: (b6, cel 27 [o'.fs]) :: (b4, cel 138 [.pointer (some ⟨bw, 0, none⟩)]) :: (o'.G ++ (b1, cel 26 (twl t (t.sl (some ⟨ba, oa, none⟩) ca))) :: (o.G ++ (bw, cel 153 (rcs t (t.sl (some ⟨ba, oa, none⟩) ca) bt (σ.y) o.fs m)) :: (m, mapO true (kvOf σ.fl)) :: H)) ∧ R' = RowsA (some ⟨b26, 0, none⟩) 11 [twl t (t.sl (some ⟨ba, oa, none⟩) ca)] :: RowsA (some ⟨bt, 0, none⟩) 11 [twl t (t.sl (some ⟨ba, oa, none⟩) ca)] :: R) (fun _ _ => False)
       (fun k H' R' h => by obtain ⟨_, _, h⟩ := h; rw [h]; simp) (fun k s H' R' hk hI => ?_) _ _ ⟨OSl.nil _ _, rfl, rfl⟩) (fun v H' R' h => ?_), ?_⟩
   rotate_left
   · rw [List.take_of_length_le (show (sts t).length ≤ t.nst by rw [sts_len]; exact Nat.le_refl _)] at h
     rcases h with ⟨o', rfl, rfl⟩ | h
     · exact ⟨.ready, none, _, by simp, .refl _, rfl, rfl, o', rfl, rfl⟩
     · exact h.elim
   rotate_left
   have hs := sts_right hok (List.mem_of_getElem? hk)
   have hrg := solv_range hok hσ hs
   have e : (((sts t).take (k + 1)).filterMap (tabRow t σ.y)) = (((sts t).take k).filterMap (tabRow t σ.y)) ++ (tabRow t σ.y s).toList := by rw [List.take_add_one, hk, List.filterMap_append]; cases h : tabRow t σ.y s <;> simp [h]
   rw [e]
   have hkl : k < (sts t).length := (List.getElem?_eq_some_iff.1 hk).1
   rw [sts_len] at hkl
   have hkn := nst_le hok
   have htl : (((sts t).take k).filterMap (tabRow t σ.y)).length ≤ k := Nat.le_trans (List.length_filterMap_le _ _) (by simp; omega)
   clear e
   generalize (((sts t).take k).filterMap (tabRow t σ.y)) = τ at *
   obtain ⟨o', rfl, rfl⟩ := hI
   refine yd_of hcp0 hca0 hcb0 hck0 rfl ?_
   refine sy_tx' [0, 1] rfl ?_
   refine alc rfl zl23 rfl (fun b7 => ?_)
   refine sto rfl rfl rfl cn23 rfl rfl rfl rfl ?_
   refine sy_beginRound ?_
   refine sy_block ?_
   refine sy_seq ?_
   refine sy_draw [0, 1, 3, 0, 15, 31] (.ld 0 (.tk 1 (.tk 2 (.ld 3 (.big 4 (.tk 5 .done)))))) mixed (by kernel_rfl) ?_
   refine ld rfl rfl (lh sc138 rfl rfl) rfl ?_
   refine tk rfl (PE.nilCheck rfl) rfl ?_
   refine tk rfl (PE.fieldAddr fo153_2 rfl) rfl ?_
   refine ld rfl rfl (lhA [_, _, _] ag23 rfl rfl rfl) rfl ?_
   refine clV rfl cal95 rfl rfl (c_of t hok s hs ba oa ca bt bw m σ.y o.fs hsl _ _) ?_
   refine bg (fun w hs => ⟨trivial, trivial, trivial⟩) ?_
   refine tk rfl (PE.assign rfl) rfl ?_
   refine sy_seq ?_
   refine sy_tx' [0, 1, 2, 3] rfl ?_
   refine sp rfl (PE.fieldAddr fo26_8 rfl) rfl ?_
   refine spL rfl rfl (lh sc24 rfl rfl) rfl ?_
   refine sp rfl (PE.lenSl isl24 rfl) rfl ?_
   refine sp rfl (PE.move rfl) rfl ?_
   refine sy_block ?_
   have hlen := hok.many
   refine sy_loop (ι := {k : Nat // k ≤ t.rats.length ∧ ∀ i q, i < k → t.rats[i]? = some q → lat σ.y s = -1 ∨ t.keeps σ.y s q (lat σ.y s) = false}) (fun k2 => ⟨[(4, .pointer (some ⟨b4, 0, none⟩)), (6, .pointer (some ⟨b6, 0, none⟩)), (7, .pointer (some ⟨b7, 0, none⟩)), (8, .int .i64 (lat σ.y s)), (35, .int .i64 t.rats.length), (36, .int .i64 k2.1)], (b7, cel 23 [.int .i64 s.stock, .int .i64 s.short, .int .i64 s.dry]) :: (bl0, lob c0 .busy none) :: (bd0, .deferred (some [])) :: (b6, cel 27 [o'.fs]) :: (b4, cel 138 [.pointer (some ⟨bw, 0, none⟩)]) :: (o'.G ++ (b1, cel 26 (twl t (t.sl (some ⟨ba, oa, none⟩) ca))) :: (o.G ++ (bw, cel 153 (rcs t (t.sl (some ⟨ba, oa, none⟩) ca) bt (σ.y) o.fs m)) :: (m, mapO true (kvOf σ.fl)) :: H)), RowsA (some ⟨b26, 0, none⟩) 11 [twl t (t.sl (some ⟨ba, oa, none⟩) ca)] :: RowsA (some ⟨bt, 0, none⟩) 11 [twl t (t.sl (some ⟨ba, oa, none⟩) ca)] :: R⟩) (fun k2 => t.rats.length - k2.1) ⟨0, by omega, by omega⟩ ?_ (fun k2 => ?_)
   exact sy_at (by repeat' first | exact Sub.nil | apply Sub.cons | rfl | (simp [lk]; omega)) (fun _ h => h)
   obtain ⟨k2, hk1, hk2⟩ := k2
   dsimp only
   refine sy_seq ?_
   refine sy_tx' [0] rfl ?_
   refine sp rfl (PE.lss rfl rfl) rfl ?_
   refine sy_seq ?_
   refine sy_cond rfl (fun hc2 => ?_) (fun hc2 => ?_)
   simp only [decide_eq_true_eq, decide_eq_false_iff_not, Bool.and_eq_true, Bool.or_eq_true, Bool.not_eq_true', Int.not_le, Int.not_lt] at hc2
   obtain ⟨q, hq⟩ : ∃ q, t.rats[k2]? = some q := ⟨_, List.getElem?_eq_getElem (by omega)⟩
   refine sy_skip ?_
   refine sy_seq ?_
   refine sy_block ?_
   refine sy_seq ?_
   refine sy_tx' [0, 1] rfl ?_
   refine sp rfl (PE.move rfl) rfl ?_
   refine sp rfl (PE.assign rfl) rfl ?_
   refine sy_seq ?_
   refine sy_tx' [0, 1, 2, 3, 4, 5, 6, 7, 8] rfl ?_
   refine sp rfl (PE.move rfl) rfl ?_
   refine sp rfl (PE.neq rfl rfl) rfl ?_
   refine sp rfl (PE.move rfl) rfl ?_
   refine sy_case (t := 41) rfl (fun g41 => ?_) (fun g41 => ?_)
   simp only [decide_eq_true_eq] at g41
   refine spLG rfl rfl rfl rfl rfl (lh sc138 rfl rfl) rfl ?_
   refine spLG rfl rfl rfl rfl rfl (lhA [_, _, _] ag23 rfl rfl rfl) rfl ?_
   refine spG rfl rfl rfl rfl (PE.move rfl) rfl ?_
   refine spG rfl rfl rfl rfl (PE.move rfl) rfl ?_
   refine clVG rfl rfl rfl rfl cal96 rfl rfl (c_keeps t hok s hs k2 q (by omega) (by simpa using hq) (lat σ.y s) (by omega) ba oa ca bt bw m σ.y o.fs hsl _ _) ?_
   refine sp rfl (PE.pick rfl rfl rfl) rfl ?_
   refine sy_cond rfl (fun hc3 => ?_) (fun hc3 => ?_)
   have hst := tabRow_hit g41 hq (fun i q h h2 => (hk2 i q h h2).resolve_left g41) hc3
   refine sy_seq ?_
   refine sy_tx' [0, 1, 2, 3, 4, 5, 6, 7] rfl ?_
   refine spL rfl rfl (lh sc27 rfl rfl) rfl ?_
   refine spL rfl rfl (lhA [_, _, _] ag23 rfl rfl rfl) rfl ?_
   refine sp rfl (PE.move rfl) rfl ?_
   refine sp rfl (PE.move rfl) rfl ?_
   refine sp rfl (PE.build (out := [_, _, _, _, _]) pl33 zl33 rfl rfl) rfl ?_
   refine bsl (out := [_, _, _, _, _]) rfl sl27 zl33 rfl rfl rfl rfl rfl rfl (fun b53 => ?_)
   refine apO (o') rfl ap27 rfl rfl (rowsH (row := trow ⟨s, lat σ.y s, k2⟩) rfl) rfl rfl ((by simp only [trows, List.length_map, List.length_singleton]; omega)) rfl (fun o54 => ?_)
   refine stoE (l' := [o54.fs]) rfl rfl rfl cn27 rfl (by rw [o54.cells.1]; first | done | rfl) (by rw [o54.cells.1]; simp [o54.cells.2]) (by rw [o54.cells.1]; first | done | rfl) (by rw [o54.cells.1]; first | done | exact Nat.le_refl _) ?_
   refine sy_exit ?_
   refine sy_bxn (by decide) ?_
   repeat refine sy_tx ?_
   refine sy_bx ?_
   first
     | exact sy_roundOn (.inl ⟨rfl, o54.cast (by rw [hst]; simp [trows, trow]), rfl, rfl⟩) (fun _ h => by repeat first | exact h | replace h := St.tail h | replace h := St.ftail h | replace h := St.drop h)
     | exact sy_roundOn (.inl ⟨rfl, o'.cast (by rw [hst]; simp), rfl, rfl⟩) (fun _ h => by repeat first | exact h | replace h := St.tail h | replace h := St.ftail h | replace h := St.drop h)
   have hno : lat σ.y s = -1 ∨ t.keeps σ.y s q (lat σ.y s) = false := .inr hc3
   refine sy_skip ?_
   refine sy_tx' [0, 1] rfl ?_
   refine sp rfl (PE.add rfl rfl (by omega)) rfl ?_
   refine sp rfl (PE.move rfl) rfl ?_
   exact sy_next ⟨k2 + 1, by omega, fun i q' hi hq' => by
     rcases Nat.lt_or_ge i k2 with h1 | h1
     · exact hk2 i q' h1 hq'
     · obtain rfl : i = k2 := by omega
       rw [hq] at hq'; cases hq'; exact hno⟩ (by dsimp only; omega) (by repeat' first | exact Sub.nil | apply Sub.cons | rfl | (simp [lk]; omega)) (fun _ h => h)
   simp only [decide_eq_false_iff_not, Decidable.not_not] at g41
   have hno : lat σ.y s = -1 ∨ t.keeps σ.y s q (lat σ.y s) = false := .inl g41
   repeat refine spN rfl rfl rfl rfl rfl rfl rfl rfl ?_
   refine sp rfl (PE.pick rfl rfl rfl) rfl ?_
   refine sy_condF rfl ?_
   refine sy_skip ?_
   refine sy_tx' [0, 1] rfl ?_
   refine sp rfl (PE.add rfl rfl (by omega)) rfl ?_
   refine sp rfl (PE.move rfl) rfl ?_
   exact sy_next ⟨k2 + 1, by omega, fun i q' hi hq' => by
     rcases Nat.lt_or_ge i k2 with h1 | h1
     · exact hk2 i q' h1 hq'
     · obtain rfl : i = k2 := by omega
       rw [hq] at hq'; cases hq'; exact hno⟩ (by dsimp only; omega) (by repeat' first | exact Sub.nil | apply Sub.cons | rfl | (simp [lk]; omega)) (fun _ h => h)
   simp only [decide_eq_true_eq, decide_eq_false_iff_not, Bool.and_eq_true, Bool.or_eq_true, Bool.not_eq_true', Int.not_le, Int.not_lt] at hc2
   obtain rfl : k2 = t.rats.length := by omega
   have hst := tabRow_miss hk2
   refine sy_exit ?_
   repeat refine sy_tx ?_
   refine sy_bx ?_
   first
     | exact sy_roundOn (.inl ⟨rfl, o54.cast (by rw [hst]; simp [trows, trow]), rfl, rfl⟩) (fun _ h => by repeat first | exact h | replace h := St.tail h | replace h := St.ftail h | replace h := St.drop h)
     | exact sy_roundOn (.inl ⟨rfl, o'.cast (by rw [hst]; simp), rfl, rfl⟩) (fun _ h => by repeat first | exact h | replace h := St.tail h | replace h := St.ftail h | replace h := St.drop h)
   rintro _ _ _ _ ⟨rfl, rfl, o', rfl, rfl⟩
   refine sy_jn ?_
   refine sy_seq ?_
   refine sy_tx' [0, 1, 2] rfl ?_
   refine spL rfl rfl (lh sc27 rfl rfl) rfl ?_
   refine sp rfl (PE.assign rfl) rfl ?_
   refine sp rfl (PE.assign rfl) rfl ?_
   refine sy_ret ?_
   first
     | exact sy_returnM [] (fun _ h => h) rfl (.cons (RV.tmp rfl) (.cons (RV.tmp rfl) .nil)) rfl ⟨.inr ⟨hck, σ, hσ, .inl ⟨hc1, rfl, rfl⟩⟩, rfl⟩ drp
     | exact sy_returnM [bd0] (fun _ h => h) rfl (.cons (RV.tmp rfl) (.cons (RV.tmp rfl) .nil)) rfl ⟨.inr ⟨hck, σ, hσ, .inr ⟨hc1, o', rfl, rfl⟩⟩, rfl⟩ (fun w h => ((((h.tail.tail.del b1).del bw).del m).ftail.ftail).dropMid)
def needP (t : Twn) (y : List Int) (bads : Int) (s : Sta) : Bool := (decide (s.short = t.now.short) && decide (s.dry = t.now.dry)) && decide (bads ≤ lat y s)
def needV (t : Twn) (y : List Int) (bads : Int) : Value := match (sts t).find? (needP t y bads) with
  | some s => .tuple #[.int .i64 s.stock, .int .i64 0]
  | none => .tuple #[.int .i64 0, .int .i64 6]
theorem find_at {α : Type} {p : α → Bool} : ∀ {l : List α} {k : Nat} {x : α}, l[k]? = some x → (∀ i z, i < k → l[i]? = some z → p z = false) → p x = true → l.find? p = some x
  | [], _, _, h, _, _ => by simp at h
  | a :: l, 0, x, h, _, hp => by
    simp only [List.getElem?_cons_zero, Option.some.injEq] at h
    subst h; simp [hp]
  | a :: l, k + 1, x, h, hn, hp => by
    have h0 := hn 0 a (by omega) rfl
    rw [List.find?_cons, h0]
    exact find_at (l := l) (k := k) (by simpa using h) (fun i z hi hz => hn (i + 1) z (by omega) (by simpa using hz)) hp
theorem c_Needs (t : Twn) (hl : t.rats.length ≤ 9223372036854775807) (bads : Int) (ba oa ca : Nat) (H : Heap) (R : Facts) [hR : MemRows (some ⟨ba, oa, none⟩) 2 (rrows t.rats) R] :
    Fn Try.prog 45 [t.v (t.sl (some ⟨ba, oa, none⟩) ca), .int .i64 bads] H R (fun v H' R' => ((t.check ≠ 0 ∧ v = .tuple #[.int .i64 0, .int .i64 t.check]) ∨
      (t.check = 0 ∧ inb bads 0 1000000 = false ∧ v = .tuple #[.int .i64 0, .int .i64 3]) ∨ (t.check = 0 ∧ inb bads 0 1000000 = true ∧ ∃ σ, Solv t σ ∧ v = needV t σ.y bads)) ∧ H' = H ∧ R' = R) := by
 refine fnM_of Try.func45 rfl Try.ntmps45 rfl ?_
 refine sy_seq ?_
 refine sy_tx' [0, 1, 2, 3] rfl ?_
 refine bx rfl rfl rfl (fun b2 => ?_)
 refine bx rfl rfl rfl (fun b3 => ?_)
 refine alc rfl zl3 rfl (fun b4 => ?_)
 refine alc rfl zl39 rfl (fun b5 => ?_)
 refine sy_seq ?_
 refine sy_tx' [0, 1, 2, 3, 4, 5, 6, 7] rfl ?_
 refine spL rfl rfl (lhA [_, _, _, _, _, _, _, _, _, _, _] ag26 rfl rfl rfl) rfl ?_
 refine cl rfl cal89 rfl rfl (c_opened t hl ba oa ca _ _) ?_
 rintro _ _ _ (⟨hck, rfl, rfl, rfl⟩ | ⟨hck, bw, m, bt, rfl, rfl, rfl⟩)
 refine sp rfl (PE.move rfl) rfl ?_
 refine sp rfl (PE.extract rfl rfl) rfl ?_
 refine sp rfl (PE.extract rfl rfl) rfl ?_
 refine alc rfl zl138 rfl (fun b6 => ?_)
 refine sto rfl rfl rfl cn138 rfl rfl rfl rfl ?_
 refine sp rfl (PE.assign rfl) rfl ?_
 refine sy_seq ?_
 refine sy_block ?_
 refine sy_seq ?_
 refine sy_tx' [0, 1, 2] rfl ?_
 refine sp rfl (PE.move rfl) rfl ?_
 refine sp rfl (PE.neq rfl rfl) rfl ?_
 refine sp rfl (PE.assign rfl) rfl ?_
 refine sy_condT (congrArg (fun b => some (Value.bool b)) (decide_eq_true hck)) ?_
 refine sy_seq ?_
 refine sy_tx' [0, 1, 2] rfl ?_
 refine sp rfl (PE.move rfl) rfl ?_
 refine sto rfl rfl rfl cn3 rfl rfl rfl rfl ?_
 refine sto rfl rfl rfl cn39 rfl rfl rfl rfl ?_
 refine sy_ret ?_
 exact sy_returnM [] (fun _ h => h) rfl (.cons (RV.cell rfl (lh sc3 rfl rfl)) (.cons (RV.cell rfl (lh sc39 rfl rfl)) .nil)) rfl ⟨.inl ⟨hck, rfl⟩, rfl, rfl⟩ drp
 ·
  have hok := (ok_of_check hck).1
  refine sp rfl (PE.move rfl) rfl ?_
  refine sp rfl (PE.extract rfl rfl) rfl ?_
  refine sp rfl (PE.extract rfl rfl) rfl ?_
  refine alc rfl zl138 rfl (fun b6 => ?_)
  refine sto rfl rfl rfl cn138 rfl rfl rfl rfl ?_
  refine sp rfl (PE.assign rfl) rfl ?_
  refine sy_seq ?_
  refine sy_block ?_
  refine sy_seq ?_
  refine sy_tx' [0, 1, 2] rfl ?_
  refine sp rfl (PE.move rfl) rfl ?_
  refine sp rfl (PE.neq rfl rfl) rfl ?_
  refine sp rfl (PE.assign rfl) rfl ?_
  refine sy_condF (rfl) ?_
  refine sy_seq ?_
  refine sy_tx' [0, 1, 2, 3] rfl ?_
  refine spL rfl rfl (lh sc3 rfl rfl) rfl ?_
  refine clV rfl cal92 rfl rfl (c_in _ _ _ _ _) ?_
  refine sp rfl (PE.not rfl) rfl ?_
  refine sp rfl (PE.assign rfl) rfl ?_
  refine sy_cond rfl (fun hc1 => ?_) (fun hc1 => ?_)
  have hib : inb bads 0 1000000 = false := by rw [← Bool.not_eq_true']; exact hc1
  refine sy_seq ?_
  refine sy_tx' [0, 1] rfl ?_
  refine sto rfl rfl rfl cn3 rfl rfl rfl rfl ?_
  refine sto rfl rfl rfl cn39 rfl rfl rfl rfl ?_
  refine sy_ret ?_
  first
    | exact sy_returnM [] (fun _ h => h) rfl (.cons (RV.cell rfl (lh sc3 rfl rfl)) (.cons (RV.cell rfl (lh sc39 rfl rfl)) .nil)) rfl ⟨.inr (.inl ⟨hck, hib, rfl⟩), rfl, rfl⟩ (fun w h => (((((((h.del b3).del b4).del b5).del b6).del b2).del bw).del m).ftail)
    | exact sy_returnM [bd0] (fun _ h => h) rfl (.cons (RV.cell rfl (lh sc3 rfl rfl)) (.cons (RV.cell rfl (lh sc39 rfl rfl)) .nil)) (v := needV t σ.y bads) (by unfold needV; rw [hno]; rfl) ⟨.inr (.inr ⟨hck, hib, σ, hσ, rfl⟩), rfl, rfl⟩ (fun w h => (((((((h.del b3).del b4).del b5).del b6).del b2).del bw).del m).ftail.ftail.drop)
  ·
   have hib : inb bads 0 1000000 = true := by rw [← Bool.not_eq_false']; exact hc1
   have hbd := hib
   simp only [inb, Bool.and_eq_true, decide_eq_true_eq] at hbd
   refine sy_skip ?_
   refine sy_seq ?_
   refine sy_tx' [0, 1] rfl ?_
   refine spL rfl rfl (lh sc138 rfl rfl) rfl ?_
   refine sy_pull m ?_
   refine sy_pull bw ?_
   refine cl rfl cal108 rfl rfl (c_solve t hok ba oa ca bt bw m _ _) ?_
   rintro v _ _ ⟨σ, o, hσ, rfl, rfl⟩
   have hsl := solv_ok hok hσ
   refine sy_seq ?_
   refine sy_seq ?_
   refine sy_tx' [0, 1] rfl ?_
   refine spL rfl rfl (lhA [_, _, _, _, _, _, _, _, _, _, _] ag26 rfl rfl rfl) rfl ?_
   refine cl rfl cal90 rfl rfl (c_states t (t.sl (some ⟨ba, oa, none⟩) ca) _ _) ?_
   rintro _ _ _ ⟨b26, rfl, rfl, rfl⟩
   refine sy_pull b2 ?_
   refine sy_pull b6 ?_
   refine sy_pull b5 ?_
   refine sy_pull b4 ?_
   refine sy_pull b3 ?_
   refine sy_block ?_
   refine sy_range rfl cal127 (fun c0 bl0 bd0 hcp0 hca0 hcb0 hck0 => ?_)
   refine ⟨fun st pend T R' => (st = .ready ∧ pend = none ∧ (sts t).find? (needP t σ.y bads) = none ∧ T = (bd0, .deferred (some [])) :: (b3, cel 3 [.int .i64 bads]) :: (b4, cel 3 [.int .i64 0]) :: (b5, cel 39 [.int .i64 0]) :: (b6, cel 138 [.pointer (some ⟨bw, 0, none⟩)]) :: (b2, cel 26 (twl t (t.sl (some ⟨ba, oa, none⟩) ca))) :: (o.G ++ (bw, cel 153 (rcs t (t.sl (some ⟨ba, oa, none⟩) ca) bt (σ.y) o.fs m)) :: (m, mapO true (kvOf σ.fl)) :: H) ∧ R' = RowsA (some ⟨b26, 0, none⟩) 11 [twl t (t.sl (some ⟨ba, oa, none⟩) ca)] :: RowsA (some ⟨bt, 0, none⟩) 11 [twl t (t.sl (some ⟨ba, oa, none⟩) ca)] :: R) ∨
       (st = .done ∧ pend = some .ret ∧ ∃ s, (sts t).find? (needP t σ.y bads) = some s ∧ T = (bd0, .deferred (some [])) :: (b3, cel 3 [.int .i64 bads]) :: (b4, cel 3 [.int .i64 s.stock]) :: (b5, cel 39 [.int .i64 0]) :: (b6, cel 138 [.pointer (some ⟨bw, 0, none⟩)]) :: (b2, cel 26 (twl t (t.sl (some ⟨ba, oa, none⟩) ca))) :: (o.G ++ (bw, cel 153 (rcs t (t.sl (some ⟨ba, oa, none⟩) ca) bt (σ.y) o.fs m)) :: (m, mapO true (kvOf σ.fl)) :: H) ∧ R' = RowsA (some ⟨b26, 0, none⟩) 11 [twl t (t.sl (some ⟨ba, oa, none⟩) ca)] :: RowsA (some ⟨bt, 0, none⟩) 11 [twl t (t.sl (some ⟨ba, oa, none⟩) ca)] :: R),
     Fn.mono (c_states1 t hok (t.sl (some ⟨ba, oa, none⟩) ca) b26 bl0 (fun k H' R' => (∀ i s, i < k → (sts t)[i]? = some s → needP t σ.y bads s = false) ∧ H' = (bl0, lob c0 .ready none) :: (bd0, .deferred (some [])) :: (b3, cel 3 [.int .i64 bads]) :: (b4, cel 3 [.int .i64 0]) :: (b5, cel 39 [.int .i64 0]) :: (b6, cel 138 [.pointer (some ⟨bw, 0, none⟩)]) :: (b2, cel 26 (twl t (t.sl (some ⟨ba, oa, none⟩) ca))) :: (o.G ++ (bw, cel 153 (rcs t (t.sl (some ⟨ba, oa, none⟩) ca) bt (σ.y) o.fs m)) :: (m, mapO true (kvOf σ.fl)) :: H) ∧ R' = RowsA (some ⟨b26, 0, none⟩) 11 [twl t (t.sl (some ⟨ba, oa, none⟩) ca)] :: RowsA (some ⟨bt, 0, none⟩) 11 [twl t (t.sl (some ⟨ba, oa, none⟩) ca)] :: R)
       (fun H' R' => ∃ s, (sts t).find? (needP t σ.y bads) = some s ∧ H' = (bl0, lob c0 .done (some .ret)) :: (bd0, .deferred (some [])) :: (b3, cel 3 [.int .i64 bads]) :: (b4, cel 3 [.int .i64 s.stock]) :: (b5, cel 39 [.int .i64 0]) :: (b6, cel 138 [.pointer (some ⟨bw, 0, none⟩)]) :: (b2, cel 26 (twl t (t.sl (some ⟨ba, oa, none⟩) ca))) :: (o.G ++ (bw, cel 153 (rcs t (t.sl (some ⟨ba, oa, none⟩) ca) bt (σ.y) o.fs m)) :: (m, mapO true (kvOf σ.fl)) :: H) ∧ R' = RowsA (some ⟨b26, 0, none⟩) 11 [twl t (t.sl (some ⟨ba, oa, none⟩) ca)] :: RowsA (some ⟨bt, 0, none⟩) 11 [twl t (t.sl (some ⟨ba, oa, none⟩) ca)] :: R)
       (fun k H' R' h => by obtain ⟨_, _, h⟩ := h; rw [h]; simp) (fun k s H' R' hk hI => ?_) _ _ ⟨by omega, rfl, rfl⟩) (fun v H' R' h => ?_), ?_⟩
   rotate_left
   · rcases h with ⟨hn, rfl, rfl⟩ | ⟨s, hs, rfl, rfl⟩
     · refine ⟨.ready, none, _, by simp, .refl _, .inl ⟨rfl, rfl, ?_, rfl, rfl⟩⟩
       rw [List.find?_eq_none]
       intro s hs
       obtain ⟨i, hi⟩ := List.getElem?_of_mem hs
       have := (List.getElem?_eq_some_iff.1 hi).1
       rw [sts_len] at this
       simp [hn i s this hi]
     · exact ⟨.done, some .ret, _, by simp, .refl _, .inr ⟨rfl, rfl, s, hs, rfl, rfl⟩⟩
   rotate_left
   have hs := sts_right hok (List.mem_of_getElem? hk)
   obtain ⟨hno, rfl, rfl⟩ := hI
   refine yd_of hcp0 hca0 hcb0 hck0 rfl ?_
   refine sy_tx' [0, 1] rfl ?_
   refine alc rfl zl23 rfl (fun b8 => ?_)
   refine sto rfl rfl rfl cn23 rfl rfl rfl rfl ?_
   refine sy_beginRound ?_
   refine sy_block ?_
   refine sy_seq ?_
   refine sy_tx' [0, 1, 2, 3, 4, 5, 6, 7, 8, 9, 10] rfl ?_
   refine sp rfl (PE.fieldAddr fo23_0 rfl) rfl ?_
   refine spL rfl rfl (lh sc3 rfl rfl) rfl ?_
   refine sp rfl (PE.fieldAddr fo26_0 rfl) rfl ?_
   refine sp rfl (PE.fieldAddr fo23_1 rfl) rfl ?_
   refine spL rfl rfl (lh sc3 rfl rfl) rfl ?_
   refine sp rfl (PE.fieldAddr fo26_0 rfl) rfl ?_
   refine sp rfl (PE.fieldAddr fo23_2 rfl) rfl ?_
   refine spL rfl rfl (lh sc3 rfl rfl) rfl ?_
   refine sp rfl (PE.build (out := [_, _, _]) pl23 zl23 rfl rfl) rfl ?_
   refine alc rfl zl23 rfl (fun b9 => ?_)
   refine sto rfl rfl rfl cn23 rfl rfl rfl rfl ?_
   refine sy_seq ?_
   refine sy_draw [0, 0, 3, 7, 15, 31, 63, 15, 255, 15, 1023, 2047] (.ld 0 (.ld 1 (.tk 2 (.tk 3 (.ld 4 (.tk 5 (.tk 6 (.ld 7 (.ld 9 (.big 8 (.tk 10 (.tk 11 .done)))))))))))) mixed (by kernel_rfl) ?_
   refine ld rfl rfl (lhA [_, _, _] ag23 rfl rfl rfl) rfl ?_
   refine ld rfl rfl (lhA [_, _, _] ag23 rfl rfl rfl) rfl ?_
   refine tk rfl (PE.eqlAgg [s.stock, s.short, s.dry] [s.stock, t.now.short, t.now.dry] (eqB_ok 10000 23 true 3 eqf23) eqg23 rfl rfl rfl rfl) rfl ?_
   refine tk rfl (PE.move rfl) rfl ?_
   refine sy_case (t := 40) rfl (fun g40 => ?_) (fun g40 => ?_)
   have hst : (decide (s.short = t.now.short) && decide (s.dry = t.now.dry)) = true := by simpa using g40
   refine ldG rfl rfl rfl rfl rfl (lh sc138 rfl rfl) rfl ?_
   refine tkG rfl rfl rfl rfl (PE.nilCheck rfl) rfl ?_
   refine tkG rfl rfl rfl rfl (PE.fieldAddr fo153_2 rfl) rfl ?_
   refine ldG rfl rfl rfl rfl rfl (lhA [_, _, _] ag23 rfl rfl rfl) rfl ?_
   refine ldG rfl rfl rfl rfl rfl (lh sc3 rfl rfl) rfl ?_
   refine clVG rfl rfl rfl rfl cal95 rfl rfl (c_of t hok s hs ba oa ca bt bw m σ.y o.fs hsl _ _) ?_
   refine bg (fun w hs => ⟨(lh sc3 rfl rfl) w hs, trivial, trivial, trivial, trivial, trivial⟩) ?_
   refine tkG rfl rfl rfl rfl (PE.geq rfl rfl) rfl ?_
   refine tk rfl (PE.pick rfl rfl rfl) rfl ?_
   refine sy_cond rfl (fun hc2 => ?_) (fun hc2 => ?_)
   have hp : needP t σ.y bads s = true := by unfold needP; rw [hst]; exact hc2
   refine sy_seq ?_
   refine sy_tx' [0, 1, 2, 3] rfl ?_
   refine sp rfl (PE.fieldAddr fo23_0 rfl) rfl ?_
   refine spL rfl rfl (lh sc3 rfl rfl) rfl ?_
   refine sto rfl rfl rfl cn3 rfl rfl rfl rfl ?_
   refine sto rfl rfl rfl cn39 rfl rfl rfl rfl ?_
   refine sy_ret ?_
   exact sy_roundRet (.inr ⟨rfl, s, find_at hk hno hp, rfl, rfl⟩) (fun _ h => by repeat first | exact h | replace h := St.tail h | replace h := St.ftail h | replace h := St.drop h)
   have hnp : needP t σ.y bads s = false := by unfold needP; rw [hst]; exact hc2
   refine sy_skip ?_
   exact sy_roundOn (.inl ⟨rfl, fun i z hi hz => by
     rcases Nat.lt_or_ge i k with h1 | h1
     · exact hno i z h1 hz
     · obtain rfl : i = k := by omega
       rw [hk] at hz; cases hz; exact hnp, rfl, rfl⟩) drp
   have hst : (decide (s.short = t.now.short) && decide (s.dry = t.now.dry)) = false := by simpa using g40
   have hnp : needP t σ.y bads s = false := by unfold needP; rw [hst]; rfl
   refine ldN rfl rfl rfl rfl rfl rfl rfl rfl ?_
   repeat refine tkN rfl rfl rfl rfl rfl rfl rfl rfl ?_
   repeat refine ldN rfl rfl rfl rfl rfl rfl rfl rfl ?_
   refine spN rfl rfl rfl rfl rfl rfl rfl rfl ?_
   refine bg (fun w hs => ⟨((fun _ _ => True.intro)) w hs, trivial, trivial, trivial, trivial, trivial⟩) ?_
   refine tkN rfl rfl rfl rfl rfl rfl rfl rfl ?_
   refine tk rfl (PE.pick rfl rfl rfl) rfl ?_
   refine sy_condF rfl ?_
   refine sy_skip ?_
   exact sy_roundOn (.inl ⟨rfl, fun i z hi hz => by
     rcases Nat.lt_or_ge i k with h1 | h1
     · exact hno i z h1 hz
     · obtain rfl : i = k := by omega
       rw [hk] at hz; cases hz; exact hnp, rfl, rfl⟩) drp
   rintro _ _ _ _ (⟨rfl, rfl, hno, rfl, rfl⟩ | ⟨rfl, rfl, s, hfs, rfl, rfl⟩)
   refine sy_jn ?_
   refine sy_seq ?_
   refine sy_tx' [0, 1] rfl ?_
   refine sto rfl rfl rfl cn3 rfl rfl rfl rfl ?_
   refine sto rfl rfl rfl cn39 rfl rfl rfl rfl ?_
   refine sy_ret ?_
   first
     | exact sy_returnM [] (fun _ h => h) rfl (.cons (RV.cell rfl (lh sc3 rfl rfl)) (.cons (RV.cell rfl (lh sc39 rfl rfl)) .nil)) rfl ⟨.inr (.inl ⟨hck, hib, rfl⟩), rfl, rfl⟩ (fun w h => (((((((h.del b3).del b4).del b5).del b6).del b2).del bw).del m).ftail)
     | exact sy_returnM [bd0] (fun _ h => h) rfl (.cons (RV.cell rfl (lh sc3 rfl rfl)) (.cons (RV.cell rfl (lh sc39 rfl rfl)) .nil)) (v := needV t σ.y bads) (by unfold needV; rw [hno]; rfl) ⟨.inr (.inr ⟨hck, hib, σ, hσ, rfl⟩), rfl, rfl⟩ (fun w h => (((((((h.del b3).del b4).del b5).del b6).del b2).del bw).del m).ftail.ftail.drop)
   refine sy_jc ?_
   refine sy_ret ?_
   exact sy_returnM [bd0] (fun _ h => h) rfl (.cons (RV.cell rfl (lh sc3 rfl rfl)) (.cons (RV.cell rfl (lh sc39 rfl rfl)) .nil)) (v := needV t σ.y bads) (by unfold needV; rw [hfs]; rfl) ⟨.inr (.inr ⟨hck, hib, σ, hσ, rfl⟩), rfl, rfl⟩ (fun w h => (((((((h.del b3).del b4).del b5).del b6).del b2).del bw).del m).ftail.ftail.drop)
end Go.Proofs.Ytaldphhdkmchhaa
namespace Go.Proofs.Ytaldphhdkmchhaa
set_option linter.unusedSimpArgs false
set_option linter.unusedVariables false
open Go
theorem cal101 : cal Try.prog 101 = true := by kernel_rfl
theorem cn159 : cellN Try.prog 159 = some 1 := by kernel_rfl
theorem cn160 : cellN Try.prog 160 = some 1 := by kernel_rfl
theorem eqf162 : eqB Try.prog 10000 162 = some (true, 4) := by kernel_rfl
theorem mke159 : mapKE Try.prog 159 = some (162, 3) := by kernel_rfl
theorem noa162 : noArr Try.prog 10000 162 = true := by kernel_rfl
theorem pl162 : placeL Try.prog 162 = some [(0, 3), (3, 1)] := by kernel_rfl
theorem sc159 : scal Try.prog 159 = true := by kernel_rfl
theorem sc160 : scal Try.prog 160 = true := by kernel_rfl
theorem zl159 : zeroL Try.prog 159 = some ([.map none]) := by kernel_rfl
theorem zl160 : zeroL Try.prog 160 = some ([.nilFunc]) := by kernel_rfl
theorem zl162 : zeroL Try.prog 162 = some ([.int .i64 0, .int .i64 0, .int .i64 0, .int .i64 0]) := by kernel_rfl
theorem zv3 : zvl Try.prog 3 = some (.int .i64 0) := by kernel_rfl
def KVok (t : Twn) (kv : KV) : Prop := (∀ e ∈ kv, e.1.length = 4) ∧ ∀ (s : Sta) (n : Nat) (v : Value), kv.get [s.stock, s.short, s.dry, n] = some v → v = .int .i64 (ef t n s)
theorem KVok.nil (t : Twn) : KVok t [] := ⟨by simp, by intro s n v h; simp [KV.get] at h⟩
theorem KVok.put {t : Twn} {kv : KV} (h : KVok t kv) (s : Sta) (n : Nat) : KVok t (kv.put [s.stock, s.short, s.dry, n] (.int .i64 (ef t n s))) := by
  refine ⟨fun e he => ?_, fun u k v hv => ?_⟩
  · rcases KV.put_mem he with rfl | he
    · rfl
    · exact h.1 e he
  · rw [KV.get_put] at hv
    by_cases hk : ([s.stock, s.short, s.dry, (n : Int)] : List Int) = [u.stock, u.short, u.dry, (k : Int)]
    · simp only [hk, decide_true, cond_true, Option.some.injEq] at hv
      subst hv
      simp only [List.cons.injEq, Int.natCast_inj, and_true] at hk
      obtain ⟨a, b, c⟩ := s
      obtain ⟨a', b', c'⟩ := u
      simp only at hk
      obtain ⟨rfl, rfl, rfl, rfl⟩ := hk
      rfl
    · simp only [hk, decide_false, cond_false] at hv
      exact h.2 u k v hv
def clo (c8 c2 c9 c6 : Nat) : Value := .func (.func 101) #[] #[.pointer (some ⟨c8, 0, none⟩), .pointer (some ⟨c2, 0, none⟩), .pointer (some ⟨c9, 0, none⟩), .pointer (some ⟨c6, 0, none⟩)]
def SumC (t : Twn) (ba oa ca bt bw m m2 c8 c2 c9 c6 n : Nat) : Prop := ∀ (kv : KV) (s : Sta) (H : Heap) (R : Facts) [hR : MemRows (some ⟨ba, oa, none⟩) 2 (rrows t.rats) R] [hT : MemRows (some ⟨bt, 0, none⟩) 11 [twl t (t.sl (some ⟨ba, oa, none⟩) ca)] R] [h8 : Mem1 c8 (cel 159 [.map (some m2)]) H] [h2 : Mem1 c2 (cel 26 (twl t (t.sl (some ⟨ba, oa, none⟩) ca))) H]
    [h9 : Mem1 c9 (cel 160 [clo c8 c2 c9 c6]) H] [h6 : Mem1 c6 (cel 138 [.pointer (some ⟨bw, 0, none⟩)]) H] [hW : Mem1 bw (cel 153 (rcs t (t.sl (some ⟨ba, oa, none⟩) ca) bt (List.replicate 496 0) (.slice none 0 0) m)) H],
    KVok t kv → s.right t = true → Fn Try.prog 101 [s.v, .int .i64 n, .pointer (some ⟨c8, 0, none⟩), .pointer (some ⟨c2, 0, none⟩), .pointer (some ⟨c9, 0, none⟩), .pointer (some ⟨c6, 0, none⟩)] ((m2, mapO true kv) :: H) R
      (fun v H' R' => ∃ kv', KVok t kv' ∧ v = .int .i64 (ef t n s) ∧ H' = (m2, mapO true kv') :: H ∧ R' = R)
theorem c_sum_step (t : Twn) (ht : t.ok) (ba oa ca bt bw m m2 c8 c2 c9 c6 n : Nat) (hn : n ≤ 11) (ih : SumC t ba oa ca bt bw m m2 c8 c2 c9 c6 n) :
    SumC t ba oa ca bt bw m m2 c8 c2 c9 c6 (n + 1) := by
 intro kv s H R hR hT h8 h2 h9 h6 hW hkv hs
 refine fn_of Try.func101 rfl Try.ntmps101 rfl ?_
 refine sy_seq ?_
 refine sy_tx' [0, 1] rfl ?_
 refine bx rfl rfl rfl (fun b6 => ?_)
 refine sp rfl (PE.assign rfl) rfl ?_
 refine sy_seq ?_
 refine sy_seq ?_
 refine sy_tx' [0, 1] rfl ?_
 refine sp rfl (PE.move rfl) rfl ?_
 refine sp rfl (PE.eql rfl rfl) rfl ?_
 refine sy_condF (congrArg (fun b => some (Value.bool b)) (decide_eq_false (by omega))) ?_
 refine sy_skip ?_
 refine sy_seq ?_
 refine sy_seq ?_
 refine sy_tx' [0, 1, 2, 3, 4, 5, 6, 7, 8, 9] rfl ?_
 refine spL rfl rfl (lh sc159 rfl rfl) rfl ?_
 refine spL rfl rfl (lhA [_, _, _] ag23 rfl rfl rfl) rfl ?_
 refine sp rfl (PE.move rfl) rfl ?_
 refine sp rfl (PE.build (out := [_, _, _, _]) pl162 zl162 rfl rfl) rfl ?_
 refine spK rfl rfl rfl (lk_held kv [s.stock, s.short, s.dry, (n + 1 : Nat)] mke159 (KeyT.of eqf162 noa162) (run_zv zv3) rfl hkv.1 true) rfl ?_
 refine sp rfl (PE.move rfl) rfl ?_
 refine sp rfl (PE.extract rfl rfl) rfl ?_
 refine sp rfl (PE.extract rfl rfl) rfl ?_
 refine sp rfl (PE.assign rfl) rfl ?_
 refine sp rfl (PE.assign rfl) rfl ?_
 refine sy_seq ?_
 refine sy_tx' [0] rfl ?_
 refine sp rfl (PE.move rfl) rfl ?_
 refine sy_cond rfl (fun hc1 => ?_) (fun hc1 => ?_)
 obtain ⟨u, hu⟩ := Option.isSome_iff_exists.1 hc1
 have hu2 := hkv.2 s (n + 1) u hu
 refine sy_seq ?_
 refine sy_tx' [0, 1] rfl ?_
 refine sp rfl (PE.move rfl) rfl ?_
 refine sp rfl (PE.assign rfl) rfl ?_
 refine sy_ret ?_
 first
   | exact sy_return (vs := [_]) (v := .int .i64 (ef t (n + 1) s)) rfl (.cons (RV.tmp rfl) .nil) (by show (kv.get _).getD _ = _; rw [hu]; exact hu2) ⟨kv, hkv, rfl, rfl, rfl⟩ (fun w h => h.del b6)
   | exact sy_return (vs := [_]) rfl (.cons (RV.tmp rfl) .nil) rfl ⟨_, hkv.put s (n + 1), rfl, rfl, rfl⟩ (fun w h => h.del b6)
 refine sy_skip ?_
 refine sy_seq ?_
 refine sy_tx' [0] rfl ?_
 refine sp rfl (PE.assign rfl) rfl ?_
 refine sy_seq ?_
 refine sy_seq ?_
 refine sy_tx' [0, 1, 2, 3] rfl ?_
 refine sp rfl (PE.fieldAddr fo26_8 rfl) rfl ?_
 refine spL rfl rfl (lh sc24 rfl rfl) rfl ?_
 refine sp rfl (PE.lenSl isl24 rfl) rfl ?_
 refine sp rfl (PE.move rfl) rfl ?_
 refine sy_block ?_
 have hlen := ht.many
 have hbd := ef_bd ht n
 refine sy_loop (ι := {x : Nat × KV // x.1 ≤ t.rats.length ∧ KVok t x.2}) (fun x => ⟨[(1, .int .i64 (n + 1 : Nat)), (2, .pointer (some ⟨c8, 0, none⟩)), (3, .pointer (some ⟨c2, 0, none⟩)), (4, .pointer (some ⟨c9, 0, none⟩)), (5, .pointer (some ⟨c6, 0, none⟩)), (6, .pointer (some ⟨b6, 0, none⟩)), (11, .int .i64 ((fun k => (t.rats.take k).foldl (efQ t (ef t n) s) (-1)) x.1.1)), (28, t.sl (some ⟨ba, oa, none⟩) ca), (29, .int .i64 t.rats.length), (30, .int .i64 x.1.1)],
   (m2, mapO true x.1.2) :: (b6, cel 23 [.int .i64 s.stock, .int .i64 s.short, .int .i64 s.dry]) :: H, R⟩) (fun x => t.rats.length - x.1.1) ⟨(0, kv), by omega, hkv⟩ ?_ (fun x => ?_)
 exact sy_at (by repeat' first | exact Sub.nil | apply Sub.cons | rfl | (simp [lk]; omega)) (fun w h => h.pull m2)
 obtain ⟨⟨k, kv⟩, hk, hkv⟩ := x
 dsimp only at hk hkv ⊢
 refine sy_seq ?_
 refine sy_tx' [0] rfl ?_
 refine sp rfl (PE.lss rfl rfl) rfl ?_
 refine sy_seq ?_
 refine sy_cond rfl (fun hc2 => ?_) (fun hc2 => ?_)
 simp only [decide_eq_true_eq, decide_eq_false_iff_not, Bool.and_eq_true, Bool.or_eq_true, Bool.not_eq_true', Int.not_le, Int.not_lt] at hc2
 obtain ⟨q, hq⟩ : ∃ q, t.rats[k]? = some q := ⟨_, List.getElem?_eq_getElem (by omega)⟩
 have hqm := List.mem_of_getElem? hq
 have e : (t.rats.take (k + 1)).foldl (efQ t (ef t n) s) (-1) = efQ t (ef t n) s ((t.rats.take k).foldl (efQ t (ef t n) s) (-1)) q := by rw [List.take_add_one, hq, Option.toList_some, List.foldl_append]; rfl
 have hbb := efQ_bd (t := t) (g := ef t n) (B := n * 3000) (by omega) hbd s (t.rats.take k) (fun q hq => ht.rats q (List.mem_of_mem_take hq)) (-1) (by omega) (by omega)
 have hq1 := ht.rats q hqm
 have hmul := mul_bd hq1.1 hq1.2.1 hq1.2.2.1 hq1.2.2.2
 generalize (t.rats.take k).foldl (efQ t (ef t n) s) (-1) = best at e hbb ⊢
 refine sy_skip ?_
 refine sy_seq ?_
 refine sy_block ?_
 refine sy_seq ?_
 refine sy_tx' [0, 1, 2, 3, 4, 5] rfl ?_
 refine sp rfl (PE.move rfl) rfl ?_
 refine sp rfl (PE.indexAddr el24 rfl rfl (by omega) (by omega)) rfl ?_
 refine spL rfl rfl (lfA ag91 (row := rrow q) (rr_get hq) rfl) rfl ?_
 refine alc rfl zl91 rfl (fun b13 => ?_)
 refine sp rfl (PE.assign rfl) rfl ?_
 refine sto rfl rfl rfl cn91 rfl rfl rfl rfl ?_
 refine sy_seq ?_
 refine sy_seq ?_
 refine sy_tx' [0, 1, 2, 3, 4] rfl ?_
 refine spL rfl rfl (lhA [_, _, _, _, _, _, _, _, _, _, _] ag26 rfl rfl rfl) rfl ?_
 refine spL rfl rfl (lhA [_, _, _] ag23 rfl rfl rfl) rfl ?_
 refine sp rfl (PE.move rfl) rfl ?_
 refine clV rfl cal94 rfl rfl (c_allowed t s k q ba oa ca (by omega) (by simpa using hq) _ _) ?_
 refine sp rfl (PE.not rfl) rfl ?_
 refine sy_cond rfl (fun hc3 => ?_) (fun hc3 => ?_)
 have hcan : t.can s q = false := by rw [← Bool.not_eq_true']; exact hc3
 have hst : efQ t (ef t n) s best q = best := by simp [efQ, hcan]
 refine sy_exit ?_
 refine sy_tx ?_
 refine sy_bx ?_
 refine sy_tx' [0, 1] rfl ?_
 refine sp rfl (PE.add rfl rfl (by omega)) rfl ?_
 refine sp rfl (PE.move rfl) rfl ?_
 exact sy_next ⟨(k + 1, kv), by omega, hkv⟩ (by dsimp only; omega) (by dsimp only; rw [e, hst]; exact (by repeat' first | exact Sub.nil | apply Sub.cons | rfl | (simp [lk]; omega))) (fun w h => by first | exact h.del b13 | exact (h.del b13).ftail)
 have hcan : t.can s q = true := by rw [← Bool.not_eq_false']; exact hc3
 have hcan2 : q.sacks ≤ s.stock := by simp [Twn.can] at hcan; exact hcan.1
 refine sy_skip ?_
 refine sy_seq ?_
 refine sy_draw [0, 0, 0, 0, 14, 0, 32, 127, 255] (.ld 0 (.ld 1 (.ld 2 (.tk 3 (.tk 5 (.tk 6 (.big 4 (.big 7 (.tk 8 .done))))))))) mixed (by kernel_rfl) ?_
 refine ld rfl rfl (lh sc160 rfl rfl) rfl ?_
 refine ld rfl rfl (lhA [_, _, _, _, _, _, _, _, _, _, _] ag26 rfl rfl rfl) rfl ?_
 refine ld rfl rfl (lhA [_, _, _] ag23 rfl rfl rfl) rfl ?_
 refine tk rfl (PE.move rfl) rfl ?_
 refine tk rfl (PE.move rfl) rfl ?_
 refine tk rfl (PE.sub rfl rfl (by omega)) rfl ?_
 refine clV rfl cal102 rfl rfl (c_next t ht s hs k q false ba oa ca (by omega) (by simpa using hq) hcan2 _ _) ?_
 refine bg (fun w hs => ⟨trivial, trivial, (lh sc160 rfl rfl) w hs, trivial⟩) ?_
 rw [show ((n + 1 : Nat) : Int) - 1 = n from by omega]
 refine sy_pull m2 ?_
 refine clF rfl rfl (cal101) rfl rfl (ih kv _ _ _ hkv (next_right ht hs hqm hcan (by simp))) ?_
 rintro v _ _ ⟨kv, hkv, rfl, rfl, rfl⟩
 refine bg (fun w hs => ⟨trivial, trivial⟩) ?_
 refine tk rfl (PE.assign rfl) rfl ?_
 refine sy_seq ?_
 refine sy_seq ?_
 refine sy_draw [0, 1, 3, 7, 15, 0, 63] (.ld 0 (.tk 1 (.tk 2 (.tk 3 (.ld 4 (.ld 5 (.big 6 .done))))))) mixed (by kernel_rfl) ?_
 refine ld rfl rfl (lh sc138 rfl rfl) rfl ?_
 refine tk rfl (PE.nilCheck rfl) rfl ?_
 refine tk rfl (PE.fieldAddr fo153_1 rfl) rfl ?_
 refine tk rfl (PE.fieldAddr fo148_0 rfl) rfl ?_
 refine ld rfl rfl (lh sc146 rfl rfl) rfl ?_
 refine ld rfl rfl (lhA [_, _, _] ag23 rfl rfl rfl) rfl ?_
 refine clFV rfl rfl (cal126) rfl rfl (c_may t s ba oa ca bt _ _) ?_
 refine bg (fun w hs => ⟨trivial, trivial, trivial, trivial⟩) ?_
 refine sy_cond rfl (fun hc4 => ?_) (fun hc4 => ?_)
 have hw : worstOf t (ef t n) s q = min (ef t n (t.next s q false)) (ef t n (t.next s q true)) := by unfold worstOf; rw [hc4]; rfl
 refine sy_draw [0, 0, 0, 0, 0, 28, 0, 64, 254, 510, 1023, 2047] (.tk 0 (.ld 1 (.ld 2 (.ld 3 (.tk 4 (.tk 6 (.tk 7 (.big 5 (.big 8 (.big 9 (.big 10 (.tk 11 .done)))))))))))) mixed (by kernel_rfl) ?_
 refine tk rfl (PE.move rfl) rfl ?_
 refine ld rfl rfl (lh sc160 rfl rfl) rfl ?_
 refine ld rfl rfl (lhA [_, _, _, _, _, _, _, _, _, _, _] ag26 rfl rfl rfl) rfl ?_
 refine ld rfl rfl (lhA [_, _, _] ag23 rfl rfl rfl) rfl ?_
 refine tk rfl (PE.move rfl) rfl ?_
 refine tk rfl (PE.move rfl) rfl ?_
 refine tk rfl (PE.sub rfl rfl (by omega)) rfl ?_
 refine clV rfl cal102 rfl rfl (c_next t ht s hs k q true ba oa ca (by omega) (by simpa using hq) hcan2 _ _) ?_
 refine bg (fun w hs => ⟨trivial, trivial, (lh sc160 rfl rfl) w hs, trivial⟩) ?_
 rw [show ((n + 1 : Nat) : Int) - 1 = n from by omega]
 refine sy_pull m2 ?_
 refine clF rfl rfl (cal101) rfl rfl (ih kv _ _ _ hkv (next_right ht hs hqm hcan (fun _ => by simpa using hc4))) ?_
 rintro v _ _ ⟨kv, hkv, rfl, rfl, rfl⟩
 refine bg (fun w hs => ⟨trivial, trivial⟩) ?_
 refine bsl (out := [_]) rfl sl42 zl3 rfl rfl rfl rfl rfl rfl (fun b64 => ?_)
 refine bg (fun w hs => trivial) ?_
 refine Sy.heap (fun w h => St.rows (sz := 1) (rows := [[.int .i64 _]]) (rest := []) h (by simp)) ?_
 refine clV rfl cal103 rfl rfl (c_least1 _ _ _ _ _ _) ?_
 refine bg (fun w hs => trivial) ?_
 refine tk rfl (PE.assign rfl) rfl ?_
 refine sy_seq ?_
 refine sy_tx' [0, 1] rfl ?_
 refine sp rfl (PE.move rfl) rfl ?_
 refine sp rfl (PE.neq rfl rfl) rfl ?_
 refine sy_cond rfl (fun hc5 => ?_) (fun hc5 => ?_)
 have hne : worstOf t (ef t n) s q ≠ -1 := by rw [hw]; simpa using hc5
 have hst : efQ t (ef t n) s best q = max best (worstOf t (ef t n) s q + q.sacks * q.price) := by simp [efQ, hcan, hne]
 rw [hw] at hst
 have hwb := worst_bd (t := t) hbd s q
 rw [hw] at hwb
 refine sy_tx' [0, 1, 2, 3, 4, 5, 6, 7, 8, 9] rfl ?_
 refine sp rfl (PE.move rfl) rfl ?_
 refine sp rfl (PE.move rfl) rfl ?_
 refine sp rfl (PE.fieldAddr fo91_0 rfl) rfl ?_
 refine spL rfl rfl (lh sc3 rfl rfl) rfl ?_
 refine sp rfl (PE.fieldAddr fo91_1 rfl) rfl ?_
 refine spL rfl rfl (lh sc3 rfl rfl) rfl ?_
 refine sp rfl (PE.mul rfl rfl (by omega)) rfl ?_
 refine sp rfl (PE.add rfl rfl (by omega)) rfl ?_
 refine sp rfl (PE.max rfl rfl) rfl ?_
 refine sp rfl (PE.assign rfl) rfl ?_
 refine sy_tx' [0, 1] rfl ?_
 refine sp rfl (PE.add rfl rfl (by omega)) rfl ?_
 refine sp rfl (PE.move rfl) rfl ?_
 exact sy_next ⟨(k + 1, kv), by omega, hkv⟩ (by dsimp only; omega) (by dsimp only; rw [e, hst]; exact (by repeat' first | exact Sub.nil | apply Sub.cons | rfl | (simp [lk]; omega))) (fun w h => by first | exact h.del b13 | exact (h.del b13).ftail)
 have hne : worstOf t (ef t n) s q = -1 := by rw [hw]; simpa using hc5
 have hst : efQ t (ef t n) s best q = best := by simp [efQ, hcan, hne]
 refine sy_skip ?_
 refine sy_tx' [0, 1] rfl ?_
 refine sp rfl (PE.add rfl rfl (by omega)) rfl ?_
 refine sp rfl (PE.move rfl) rfl ?_
 exact sy_next ⟨(k + 1, kv), by omega, hkv⟩ (by dsimp only; omega) (by dsimp only; rw [e, hst]; exact (by repeat' first | exact Sub.nil | apply Sub.cons | rfl | (simp [lk]; omega))) (fun w h => by first | exact h.del b13 | exact (h.del b13).ftail)
 have hw : worstOf t (ef t n) s q = ef t n (t.next s q false) := by unfold worstOf; rw [hc4]; rfl
 refine sy_skip ?_
 refine sy_seq ?_
 refine sy_tx' [0, 1] rfl ?_
 refine sp rfl (PE.move rfl) rfl ?_
 refine sp rfl (PE.neq rfl rfl) rfl ?_
 refine sy_cond rfl (fun hc5 => ?_) (fun hc5 => ?_)
 have hne : worstOf t (ef t n) s q ≠ -1 := by rw [hw]; simpa using hc5
 have hst : efQ t (ef t n) s best q = max best (worstOf t (ef t n) s q + q.sacks * q.price) := by simp [efQ, hcan, hne]
 rw [hw] at hst
 have hwb := worst_bd (t := t) hbd s q
 rw [hw] at hwb
 refine sy_tx' [0, 1, 2, 3, 4, 5, 6, 7, 8, 9] rfl ?_
 refine sp rfl (PE.move rfl) rfl ?_
 refine sp rfl (PE.move rfl) rfl ?_
 refine sp rfl (PE.fieldAddr fo91_0 rfl) rfl ?_
 refine spL rfl rfl (lh sc3 rfl rfl) rfl ?_
 refine sp rfl (PE.fieldAddr fo91_1 rfl) rfl ?_
 refine spL rfl rfl (lh sc3 rfl rfl) rfl ?_
 refine sp rfl (PE.mul rfl rfl (by omega)) rfl ?_
 refine sp rfl (PE.add rfl rfl (by omega)) rfl ?_
 refine sp rfl (PE.max rfl rfl) rfl ?_
 refine sp rfl (PE.assign rfl) rfl ?_
 refine sy_tx' [0, 1] rfl ?_
 refine sp rfl (PE.add rfl rfl (by omega)) rfl ?_
 refine sp rfl (PE.move rfl) rfl ?_
 exact sy_next ⟨(k + 1, kv), by omega, hkv⟩ (by dsimp only; omega) (by dsimp only; rw [e, hst]; exact (by repeat' first | exact Sub.nil | apply Sub.cons | rfl | (simp [lk]; omega))) (fun w h => by first | exact h.del b13 | exact (h.del b13).ftail)
 have hne : worstOf t (ef t n) s q = -1 := by rw [hw]; simpa using hc5
 have hst : efQ t (ef t n) s best q = best := by simp [efQ, hcan, hne]
 refine sy_skip ?_
 refine sy_tx' [0, 1] rfl ?_
 refine sp rfl (PE.add rfl rfl (by omega)) rfl ?_
 refine sp rfl (PE.move rfl) rfl ?_
 exact sy_next ⟨(k + 1, kv), by omega, hkv⟩ (by dsimp only; omega) (by dsimp only; rw [e, hst]; exact (by repeat' first | exact Sub.nil | apply Sub.cons | rfl | (simp [lk]; omega))) (fun w h => by first | exact h.del b13 | exact (h.del b13).ftail)
 simp only [decide_eq_true_eq, decide_eq_false_iff_not, Bool.and_eq_true, Bool.or_eq_true, Bool.not_eq_true', Int.not_le, Int.not_lt] at hc2
 obtain rfl : k = t.rats.length := by omega
 rw [show (t.rats.take t.rats.length).foldl (efQ t (ef t n) s) (-1) = ef t (n + 1) s from by rw [List.take_length]; rfl]
 refine sy_exit ?_
 repeat refine sy_tx ?_
 refine sy_bx ?_
 refine sy_seq ?_
 refine sy_tx' [0, 1, 2, 3, 4, 5] rfl ?_
 refine spL rfl rfl (lh sc159 rfl rfl) rfl ?_
 refine spL rfl rfl (lhA [_, _, _] ag23 rfl rfl rfl) rfl ?_
 refine sp rfl (PE.move rfl) rfl ?_
 refine sp rfl (PE.build (out := [_, _, _, _]) pl162 zl162 rfl rfl) rfl ?_
 refine sp rfl (PE.move rfl) rfl ?_
 refine mpu kv [s.stock, s.short, s.dry, (n + 1 : Nat)] rfl mke159 (KeyT.of eqf162 noa162) rfl rfl rfl rfl hkv.1 ?_
 refine sy_seq ?_
 refine sy_tx' [0, 1] rfl ?_
 refine sp rfl (PE.move rfl) rfl ?_
 refine sp rfl (PE.assign rfl) rfl ?_
 refine sy_ret ?_
 first
   | exact sy_return (vs := [_]) (v := .int .i64 (ef t (n + 1) s)) rfl (.cons (RV.tmp rfl) .nil) (by show (kv.get _).getD _ = _; rw [hu]; exact hu2) ⟨kv, hkv, rfl, rfl, rfl⟩ (fun w h => h.del b6)
   | exact sy_return (vs := [_]) rfl (.cons (RV.tmp rfl) .nil) rfl ⟨_, hkv.put s (n + 1), rfl, rfl, rfl⟩ (fun w h => h.del b6)
theorem c_sum_zero (t : Twn) (ba oa ca bt bw m m2 c8 c2 c9 c6 : Nat) :
    SumC t ba oa ca bt bw m m2 c8 c2 c9 c6 0 := by
 intro kv s H R hR hT h8 h2 h9 h6 hW hkv hs
 refine fn_of Try.func101 rfl Try.ntmps101 rfl ?_
 refine sy_seq ?_
 refine sy_tx' [0, 1] rfl ?_
 refine bx rfl rfl rfl (fun b6 => ?_)
 refine sp rfl (PE.assign rfl) rfl ?_
 refine sy_seq ?_
 refine sy_seq ?_
 refine sy_tx' [0, 1] rfl ?_
 refine sp rfl (PE.move rfl) rfl ?_
 refine sp rfl (PE.eql rfl rfl) rfl ?_
 refine sy_condT (rfl) ?_
 refine sy_seq ?_
 refine sy_tx' [0] rfl ?_
 refine sp rfl (PE.assign rfl) rfl ?_
 refine sy_ret ?_
 exact sy_return (vs := [_]) rfl (.cons (RV.tmp rfl) .nil) rfl ⟨_, hkv, rfl, rfl, rfl⟩ (fun w h => h.del b6)
theorem c_sum (t : Twn) (ht : t.ok) (ba oa ca bt bw m m2 c8 c2 c9 c6 : Nat) : ∀ n : Nat, n ≤ 12 → SumC t ba oa ca bt bw m m2 c8 c2 c9 c6 n
  | 0, _ => c_sum_zero t ba oa ca bt bw m m2 c8 c2 c9 c6
  | n + 1, h => c_sum_step t ht ba oa ca bt bw m m2 c8 c2 c9 c6 n (by omega) (c_sum t ht ba oa ca bt bw m m2 c8 c2 c9 c6 n (by omega))
def earnV (t : Twn) (years : Int) : Value := bif decide (ef t years.toNat t.now = -1) then .tuple #[.int .i64 0, .int .i64 6] else .tuple #[.int .i64 (ef t years.toNat t.now), .int .i64 0]
theorem c_Earns (t : Twn) (hl : t.rats.length ≤ 9223372036854775807) (years : Int) (ba oa ca : Nat) (H : Heap) (R : Facts) [hR : MemRows (some ⟨ba, oa, none⟩) 2 (rrows t.rats) R] :
    Fn Try.prog 31 [t.v (t.sl (some ⟨ba, oa, none⟩) ca), .int .i64 years] H R (fun v H' R' => ((t.check ≠ 0 ∧ v = .tuple #[.int .i64 0, .int .i64 t.check]) ∨
      (t.check = 0 ∧ inb years 0 12 = false ∧ v = .tuple #[.int .i64 0, .int .i64 3]) ∨ (t.check = 0 ∧ inb years 0 12 = true ∧ v = earnV t years)) ∧ H' = H ∧ R' = R) := by
 refine fn_of Try.func31 rfl Try.ntmps31 rfl ?_
 refine sy_seq ?_
 refine sy_tx' [0, 1, 2] rfl ?_
 refine bx rfl rfl rfl (fun b2 => ?_)
 refine sp rfl (PE.assign rfl) rfl ?_
 refine sp rfl (PE.assign rfl) rfl ?_
 refine sy_seq ?_
 refine sy_tx' [0, 1, 2, 3, 4, 5, 6, 7] rfl ?_
 refine spL rfl rfl (lhA [_, _, _, _, _, _, _, _, _, _, _] ag26 rfl rfl rfl) rfl ?_
 refine cl rfl cal89 rfl rfl (c_opened t hl ba oa ca _ _) ?_
 rintro _ _ _ (⟨hck, rfl, rfl, rfl⟩ | ⟨hck, bw, m, bt, rfl, rfl, rfl⟩)
 refine sp rfl (PE.move rfl) rfl ?_
 refine sp rfl (PE.extract rfl rfl) rfl ?_
 refine sp rfl (PE.extract rfl rfl) rfl ?_
 refine alc rfl zl138 rfl (fun b6 => ?_)
 refine sto rfl rfl rfl cn138 rfl rfl rfl rfl ?_
 refine sp rfl (PE.assign rfl) rfl ?_
 refine sy_seq ?_
 refine sy_block ?_
 refine sy_seq ?_
 refine sy_tx' [0, 1, 2] rfl ?_
 refine sp rfl (PE.move rfl) rfl ?_
 refine sp rfl (PE.neq rfl rfl) rfl ?_
 refine sp rfl (PE.assign rfl) rfl ?_
 refine sy_condT (congrArg (fun b => some (Value.bool b)) (decide_eq_true hck)) ?_
 refine sy_seq ?_
 refine sy_tx' [0, 1, 2] rfl ?_
 refine sp rfl (PE.move rfl) rfl ?_
 refine sp rfl (PE.assign rfl) rfl ?_
 refine sp rfl (PE.assign rfl) rfl ?_
 refine sy_ret ?_
 exact sy_return (vs := [_, _]) rfl (.cons (RV.tmp rfl) (.cons (RV.tmp rfl) .nil)) rfl ⟨.inl ⟨hck, rfl⟩, rfl, rfl⟩ drp
 have hok := (ok_of_check hck).1
 refine sp rfl (PE.move rfl) rfl ?_
 refine sp rfl (PE.extract rfl rfl) rfl ?_
 refine sp rfl (PE.extract rfl rfl) rfl ?_
 refine alc rfl zl138 rfl (fun b6 => ?_)
 refine sto rfl rfl rfl cn138 rfl rfl rfl rfl ?_
 refine sp rfl (PE.assign rfl) rfl ?_
 refine sy_seq ?_
 refine sy_block ?_
 refine sy_seq ?_
 refine sy_tx' [0, 1, 2] rfl ?_
 refine sp rfl (PE.move rfl) rfl ?_
 refine sp rfl (PE.neq rfl rfl) rfl ?_
 refine sp rfl (PE.assign rfl) rfl ?_
 refine sy_condF (rfl) ?_
 refine sy_seq ?_
 refine sy_tx' [0, 1, 2, 3] rfl ?_
 refine sp rfl (PE.move rfl) rfl ?_
 refine clV rfl cal92 rfl rfl (c_in _ _ _ _ _) ?_
 refine sp rfl (PE.not rfl) rfl ?_
 refine sp rfl (PE.assign rfl) rfl ?_
 refine sy_cond rfl (fun hc1 => ?_) (fun hc1 => ?_)
 have hib : inb years 0 12 = false := by rw [← Bool.not_eq_true']; exact hc1
 refine sy_seq ?_
 refine sy_tx' [0, 1] rfl ?_
 refine sp rfl (PE.assign rfl) rfl ?_
 refine sp rfl (PE.assign rfl) rfl ?_
 refine sy_ret ?_
 first
   | exact sy_return (vs := [_, _]) rfl (.cons (RV.tmp rfl) (.cons (RV.tmp rfl) .nil)) rfl ⟨.inr (.inl ⟨hck, hib, rfl⟩), rfl, rfl⟩ drp
   | exact sy_return (vs := [_, _]) (v := earnV t n) rfl (.cons (RV.tmp rfl) (.cons (RV.tmp rfl) .nil)) (by rw [he]; rfl) ⟨.inr (.inr ⟨hck, hib, rfl⟩), rfl, rfl⟩ drp
 have hib : inb years 0 12 = true := by rw [← Bool.not_eq_false']; exact hc1
 have hbd := hib
 simp only [inb, Bool.and_eq_true, decide_eq_true_eq] at hbd
 obtain ⟨n, rfl⟩ : ∃ n : Nat, years = n := ⟨years.toNat, by omega⟩
 refine sy_skip ?_
 refine sy_seq ?_
 refine sy_tx' [0, 1, 2] rfl ?_
 refine mkm rfl rfl true (fun m2 => ?_)
 refine alc rfl zl159 rfl (fun b8 => ?_)
 refine sto rfl rfl rfl cn159 rfl rfl rfl rfl ?_
 refine sy_seq ?_
 refine sy_tx' [0] rfl ?_
 refine alc rfl zl160 rfl (fun b9 => ?_)
 refine sy_seq ?_
 refine sy_tx' [0, 1] rfl ?_
 refine sp rfl (PE.makeFunc rfl rfl) rfl ?_
 refine sto rfl rfl rfl cn160 rfl rfl rfl rfl ?_
 refine sy_seq ?_
 refine sy_tx' [0, 1, 2, 3, 4, 5] rfl ?_
 refine spL rfl rfl (lh sc160 rfl rfl) rfl ?_
 refine sp rfl (PE.fieldAddr fo26_0 rfl) rfl ?_
 refine spL rfl rfl (lhA [_, _, _] ag23 rfl rfl rfl) rfl ?_
 refine sp rfl (PE.move rfl) rfl ?_
 refine sy_pull m2 ?_
 refine clF rfl rfl (cal101) rfl rfl (c_sum t hok ba oa ca bt bw m m2 b8 b2 b9 b6 n (by omega) [] t.now _ _ (KVok.nil t) hok.now) ?_
 rintro v _ _ ⟨kv, hkv, rfl, rfl, rfl⟩
 refine sp rfl (PE.assign rfl) rfl ?_
 refine sy_seq ?_
 refine sy_seq ?_
 refine sy_tx' [0, 1] rfl ?_
 refine sp rfl (PE.move rfl) rfl ?_
 refine sp rfl (PE.eql rfl rfl) rfl ?_
 refine sy_cond rfl (fun hc2 => ?_) (fun hc2 => ?_)
 have he : earnV t n = .tuple #[.int .i64 0, .int .i64 6] := by unfold earnV; rw [Int.toNat_natCast, hc2]; rfl
 refine sy_seq ?_
 refine sy_tx' [0, 1] rfl ?_
 refine sp rfl (PE.assign rfl) rfl ?_
 refine sp rfl (PE.assign rfl) rfl ?_
 refine sy_ret ?_
 first
   | exact sy_return (vs := [_, _]) rfl (.cons (RV.tmp rfl) (.cons (RV.tmp rfl) .nil)) rfl ⟨.inr (.inl ⟨hck, hib, rfl⟩), rfl, rfl⟩ drp
   | exact sy_return (vs := [_, _]) (v := earnV t n) rfl (.cons (RV.tmp rfl) (.cons (RV.tmp rfl) .nil)) (by rw [he]; rfl) ⟨.inr (.inr ⟨hck, hib, rfl⟩), rfl, rfl⟩ drp
 have he : earnV t n = .tuple #[.int .i64 (ef t n t.now), .int .i64 0] := by unfold earnV; rw [Int.toNat_natCast, hc2]; rfl
 refine sy_skip ?_
 refine sy_seq ?_
 refine sy_tx' [0, 1, 2] rfl ?_
 refine sp rfl (PE.move rfl) rfl ?_
 refine sp rfl (PE.assign rfl) rfl ?_
 refine sp rfl (PE.assign rfl) rfl ?_
 refine sy_ret ?_
 first
   | exact sy_return (vs := [_, _]) rfl (.cons (RV.tmp rfl) (.cons (RV.tmp rfl) .nil)) rfl ⟨.inr (.inl ⟨hck, hib, rfl⟩), rfl, rfl⟩ drp
   | exact sy_return (vs := [_, _]) (v := earnV t n) rfl (.cons (RV.tmp rfl) (.cons (RV.tmp rfl) .nil)) (by rw [he]; rfl) ⟨.inr (.inr ⟨hck, hib, rfl⟩), rfl, rfl⟩ drp
end Go.Proofs.Ytaldphhdkmchhaa
namespace Go.Proofs.Ytaldphhdkmchhaa
set_option linter.unusedSimpArgs false
set_option linter.unusedVariables false
open Go
theorem ag33 : aggN Try.prog 33 = some 5 := by kernel_rfl
theorem cal93 : cal Try.prog 93 = true := by kernel_rfl
theorem cn33 : cellN Try.prog 33 = some 5 := by kernel_rfl
theorem el27 : elN Try.prog 27 = some 5 := by kernel_rfl
theorem fo33_0 : fOff Try.prog 33 0 = some 0 := by kernel_rfl
theorem fo33_1 : fOff Try.prog 33 1 = some 3 := by kernel_rfl
theorem fo33_2 : fOff Try.prog 33 2 = some 4 := by kernel_rfl
theorem isl27 : isSl Try.prog 27 = true := by kernel_rfl
theorem c_Feeds (t : Twn) (hl : t.rats.length ≤ 9223372036854775807) (tb : List Rw) (a : Option Addr) (c : Nat) (hl2 : tb.length ≤ 9223372036854775807) (ba oa ca : Nat) (H : Heap) (R : Facts) [hR : MemRows (some ⟨ba, oa, none⟩) 2 (rrows t.rats) R] [hR2 : MemRows a 5 (trows tb) R] :
    FnV Try.prog 25 [t.v (t.sl (some ⟨ba, oa, none⟩) ca), .slice a tb.length c] H R (.tuple #[.int .i64 (feedR t tb).1, .int .i64 (feedR t tb).2]) := by
 refine fnM_of Try.func25 rfl Try.ntmps25 rfl ?_
 refine sy_seq ?_
 refine sy_tx' [0, 1, 2] rfl ?_
 refine bx rfl rfl rfl (fun b2 => ?_)
 refine sp rfl (PE.assign rfl) rfl ?_
 refine sp rfl (PE.assign rfl) rfl ?_
 refine sy_scope ?_
 refine sy_seq ?_
 refine sy_tx' [0, 1, 2, 3, 4, 5, 6, 7] rfl ?_
 refine spL rfl rfl (lhA [_, _, _, _, _, _, _, _, _, _, _] ag26 rfl rfl rfl) rfl ?_
 refine cl rfl cal89 rfl rfl (c_opened t hl ba oa ca _ _) ?_
 rintro _ _ _ (⟨hck, rfl, rfl, rfl⟩ | ⟨hck, bw, m, bt, rfl, rfl, rfl⟩)
 refine sp rfl (PE.move rfl) rfl ?_
 refine sp rfl (PE.extract rfl rfl) rfl ?_
 refine sp rfl (PE.extract rfl rfl) rfl ?_
 refine alc rfl zl138 rfl (fun b6 => ?_)
 refine sto rfl rfl rfl cn138 rfl rfl rfl rfl ?_
 refine sp rfl (PE.assign rfl) rfl ?_
 refine sy_seq ?_
 refine sy_block ?_
 refine sy_seq ?_
 refine sy_tx' [0, 1, 2] rfl ?_
 refine sp rfl (PE.move rfl) rfl ?_
 refine sp rfl (PE.neq rfl rfl) rfl ?_
 refine sp rfl (PE.assign rfl) rfl ?_
 refine sy_condT (congrArg (fun b => some (Value.bool b)) (decide_eq_true hck)) ?_
 refine sy_seq ?_
 refine sy_tx' [0, 1, 2] rfl ?_
 refine sp rfl (PE.move rfl) rfl ?_
 refine sp rfl (PE.assign rfl) rfl ?_
 refine sp rfl (PE.assign rfl) rfl ?_
 refine sy_ret ?_
 have hres : feedR t tb = (0, t.check) := by simp [feedR, hck]
 exact sy_returnM [] (vs := [_, _]) (v := .tuple #[.int .i64 (feedR t tb).1, .int .i64 (feedR t tb).2]) (fun _ h => h) rfl (.cons (RV.tmp rfl) (.cons (RV.tmp rfl) .nil)) (by rw [hres]; rfl) ⟨rfl, rfl, rfl⟩ drp
 ·
  have ht := (ok_of_check hck).1
  have t1 := ht.holds
  have t2 := ht.patience
  have t3 := ht.run
  refine sp rfl (PE.move rfl) rfl ?_
  refine sp rfl (PE.extract rfl rfl) rfl ?_
  refine sp rfl (PE.extract rfl rfl) rfl ?_
  refine alc rfl zl138 rfl (fun b6 => ?_)
  refine sto rfl rfl rfl cn138 rfl rfl rfl rfl ?_
  refine sp rfl (PE.assign rfl) rfl ?_
  refine sy_seq ?_
  refine sy_block ?_
  refine sy_seq ?_
  refine sy_tx' [0, 1, 2] rfl ?_
  refine sp rfl (PE.move rfl) rfl ?_
  refine sp rfl (PE.neq rfl rfl) rfl ?_
  refine sp rfl (PE.assign rfl) rfl ?_
  refine sy_condF (rfl) ?_
  refine sy_seq ?_
  refine sy_tx' [0, 1, 2, 3] rfl ?_
  refine sp rfl (PE.move rfl) rfl ?_
  refine sp rfl (PE.lenSl isl27 rfl) rfl ?_
  refine sp rfl (PE.gtr rfl rfl) rfl ?_
  refine sp rfl (PE.assign rfl) rfl ?_
  refine sy_cond rfl (fun hc1 => ?_) (fun hc1 => ?_)
  have hlen : 496 < tb.length := by simp only [decide_eq_true_eq] at hc1; omega
  have hres : feedR t tb = (0, 2) := by simp [feedR, hck, hlen]
  refine sy_seq ?_
  refine sy_tx' [0, 1] rfl ?_
  refine sp rfl (PE.assign rfl) rfl ?_
  refine sp rfl (PE.assign rfl) rfl ?_
  refine sy_ret ?_
  first
    | exact sy_returnM [] (vs := [_, _]) (v := .tuple #[.int .i64 (feedR t tb).1, .int .i64 (feedR t tb).2]) (fun _ h => h) rfl (.cons (RV.tmp rfl) (.cons (RV.tmp rfl) .nil)) (by rw [hres]; rfl) ⟨rfl, rfl, rfl⟩ drp
    | exact sy_returnM [bd0] (vs := [_, _]) (v := .tuple #[.int .i64 (feedR t tb).1, .int .i64 (feedR t tb).2]) (fun _ h => h.pull bd0) rfl (.cons (RV.tmp rfl) (.cons (RV.tmp rfl) .nil)) (by rw [hres]; rfl) ⟨rfl, rfl, rfl⟩ drp
  ·
   have hlen : tb.length ≤ 496 := by simp only [decide_eq_false_iff_not] at hc1; omega
   refine sy_skip ?_
   refine sy_seq ?_
   refine sy_seq ?_
   refine sy_tx' [0, 1] rfl ?_
   refine spL rfl rfl (lhA [_, _, _, _, _, _, _, _, _, _, _] ag26 rfl rfl rfl) rfl ?_
   refine cl rfl cal90 rfl rfl (c_states t (t.sl (some ⟨ba, oa, none⟩) ca) _ _) ?_
   rintro _ _ _ ⟨b31, rfl, rfl, rfl⟩
   refine sy_block ?_
   refine sy_range rfl cal127 (fun c0 bl0 bd0 hcp0 hca0 hcb0 hck0 => ?_)
   refine ⟨fun st pend T R' => st = .ready ∧ pend = none ∧ T = (bd0, .deferred (some [])) :: (b6, cel 138 [.pointer (some ⟨bw, 0, none⟩)]) :: (bw, cel 153 (rcs t (t.sl (some ⟨ba, oa, none⟩) ca) bt (nevY t) (.slice none 0 0) m)) :: (m, mapO true []) :: (b2, cel 26 (twl t (t.sl (some ⟨ba, oa, none⟩) ca))) :: H ∧ R' = RowsA (some ⟨b31, 0, none⟩) 11 [twl t (t.sl (some ⟨ba, oa, none⟩) ca)] :: RowsA (some ⟨bt, 0, none⟩) 11 [twl t (t.sl (some ⟨ba, oa, none⟩) ca)] :: R,
     Fn.mono (c_states1 t ht (t.sl (some ⟨ba, oa, none⟩) ca) b31 bl0 (fun k H' R' => H' = (bl0, lob c0 .ready none) :: (bd0, .deferred (some [])) :: (b6, cel 138 [.pointer (some ⟨bw, 0, none⟩)]) :: (bw, cel 153 (rcs t (t.sl (some ⟨ba, oa, none⟩) ca) bt (((sts t).take k).foldl (fun y s => y.set s.ix (-1)) (List.replicate 496 (0 : Int))) (.slice none 0 0) m)) :: (m, mapO true []) :: (b2, cel 26 (twl t (t.sl (some ⟨ba, oa, none⟩) ca))) :: H ∧ R' = RowsA (some ⟨b31, 0, none⟩) 11 [twl t (t.sl (some ⟨ba, oa, none⟩) ca)] :: RowsA (some ⟨bt, 0, none⟩) 11 [twl t (t.sl (some ⟨ba, oa, none⟩) ca)] :: R) (fun _ _ => False)
       (fun k H' R' h => by rw [h.2]; simp) (fun k s H' R' hk hI => ?_) _ _ ⟨rfl, rfl⟩) (fun v H' R' h => ?_), ?_⟩
   rotate_left
   · rcases h with ⟨rfl, rfl⟩ | h
     · rw [List.take_of_length_le (by rw [sts_len]; exact Nat.le_refl _)]
       exact ⟨.ready, none, _, by simp, .refl _, rfl, rfl, rfl, rfl⟩
     · exact h.elim
   rotate_left
   obtain ⟨rfl, rfl⟩ := hI
   have hs := sts_right ht (List.mem_of_getElem? hk)
   have hix := ix_lt ht hs
   have q1 := right_iff.1 hs
   have e : ((sts t).take (k + 1)).foldl (fun y s => y.set s.ix (-1)) (List.replicate 496 (0 : Int)) = (((sts t).take k).foldl (fun y s => y.set s.ix (-1)) (List.replicate 496 (0 : Int))).set s.ix (-1) := by rw [List.take_add_one, hk, Option.toList_some, List.foldl_append]; rfl
   rw [e]
   have hyl : (((sts t).take k).foldl (fun y s => y.set s.ix (-1)) (List.replicate 496 (0 : Int))).length = 496 := by rw [setY_len, List.length_replicate]
   generalize ((sts t).take k).foldl (fun y s => y.set s.ix (-1)) (List.replicate 496 (0 : Int)) = y at *
   refine yd_of hcp0 hca0 hcb0 hck0 rfl ?_
   refine sy_tx' [0, 1] rfl ?_
   refine alc rfl zl23 rfl (fun b8 => ?_)
   refine sto rfl rfl rfl cn23 rfl rfl rfl rfl ?_
   refine sy_beginRound ?_
   refine sy_block ?_
   refine sy_draw [0, 0, 2, 0, 8, 0, 32, 1, 129, 391, 927, 2047, 4095] (.ld 0 (.tk 1 (.ld 2 (.tk 3 (.ld 4 (.tk 5 (.ld 6 (.tk 7 (.tk 8 (.tk 9 (.tk 10 (.tk 11 (.big 12 .done))))))))))))) mixed (by kernel_rfl) ?_
   refine ld rfl rfl (lh sc138 rfl rfl) rfl ?_
   refine tk rfl (PE.fieldAddr fo23_0 rfl) rfl ?_
   refine ld rfl rfl (lh sc3 rfl rfl) rfl ?_
   refine tk rfl (PE.fieldAddr fo23_1 rfl) rfl ?_
   refine ld rfl rfl (lh sc3 rfl rfl) rfl ?_
   refine tk rfl (PE.fieldAddr fo23_2 rfl) rfl ?_
   refine ld rfl rfl (lh sc3 rfl rfl) rfl ?_
   refine tk rfl (PE.nilCheck rfl) rfl ?_
   refine tk rfl (PE.fieldAddr fo153_2 rfl) rfl ?_
   refine tk rfl (PE.indexArr ar150 rfl rfl (by omega) (by omega)) rfl ?_
   refine tk rfl (PE.indexArr ar145 rfl rfl (by omega) (by omega)) rfl ?_
   refine tk rfl (PE.indexArr ar144 rfl rfl (by omega) (by omega)) rfl ?_
   refine stoE rfl rfl rfl cn3 rfl rfl rfl (rc_put (-1) (i := s.ix) (by omega) (by unfold Sta.ix; omega)) (by rw [rc_len hyl]; show _ + 1 ≤ 510; omega) ?_
   refine bg (fun w hs => ⟨trivial, trivial, trivial, trivial, trivial⟩) ?_
   exact sy_roundOn (.inl ⟨rfl, rfl, rfl⟩) (fun _ h => by repeat first | exact h | replace h := St.tail h | replace h := St.ftail h | replace h := St.drop h)
   rintro _ _ _ _ ⟨rfl, rfl, rfl, rfl⟩
   refine sy_jn ?_
   refine sy_seq ?_
   refine sy_tx' [0] rfl ?_
   refine sp rfl (PE.assign rfl) rfl ?_
   refine sy_seq ?_
   refine sy_seq ?_
   refine sy_tx' [0, 1, 2] rfl ?_
   refine sp rfl (PE.move rfl) rfl ?_
   refine sp rfl (PE.lenSl isl27 rfl) rfl ?_
   refine sp rfl (PE.move rfl) rfl ?_
   refine sy_block ?_
   have hny : (nevY t).length = 496 := by rw [nevY, setY_len, List.length_replicate]
   refine sy_loop (ι := {x : Nat × Bool × List Int // x.1 ≤ tb.length ∧ x.2.2.length = 496 ∧ feedScan t tb false (nevY t) = feedScan t (tb.drop x.1) x.2.1 x.2.2}) (fun x => ⟨[(1, .slice a tb.length c), (2, .pointer (some ⟨b2, 0, none⟩)), (6, .pointer (some ⟨b6, 0, none⟩)), (9, .bool x.1.2.1), (45, .slice a tb.length c), (46, .int .i64 tb.length), (47, .int .i64 x.1.1)], (bd0, .deferred (some [])) :: (b6, cel 138 [.pointer (some ⟨bw, 0, none⟩)]) :: (bw, cel 153 (rcs t (t.sl (some ⟨ba, oa, none⟩) ca) bt (x.1.2.2) (.slice none 0 0) m)) :: (m, mapO true []) :: (b2, cel 26 (twl t (t.sl (some ⟨ba, oa, none⟩) ca))) :: H, RowsA (some ⟨b31, 0, none⟩) 11 [twl t (t.sl (some ⟨ba, oa, none⟩) ca)] :: RowsA (some ⟨bt, 0, none⟩) 11 [twl t (t.sl (some ⟨ba, oa, none⟩) ca)] :: R⟩) (fun x => tb.length - x.1.1) ⟨(0, false, nevY t), by omega, hny, rfl⟩ ?_ (fun x => ?_)
   exact sy_at (by repeat' first | exact Sub.nil | apply Sub.cons | rfl | (simp [lk]; omega)) (fun _ h => h)
   obtain ⟨⟨k, tw, y⟩, hk, hyl, hsc⟩ := x
   dsimp only at hk hyl hsc ⊢
   refine sy_seq ?_
   refine sy_tx' [0] rfl ?_
   refine sp rfl (PE.lss rfl rfl) rfl ?_
   refine sy_seq ?_
   refine sy_cond rfl (fun hc2 => ?_) (fun hc2 => ?_)
   simp only [decide_eq_true_eq, decide_eq_false_iff_not, Bool.and_eq_true, Bool.or_eq_true, Bool.not_eq_true', Int.not_le, Int.not_lt] at hc2
   obtain ⟨x, hx⟩ : ∃ x, tb[k]? = some x := ⟨_, List.getElem?_eq_getElem (by omega)⟩
   rw [drop_get hx] at hsc
   refine sy_addr (a := a) (sz := 5) (rows := trows tb) (by intro h0; simp [trows] at h0; simp [h0] at hx) (fun bx ox he => ?_)
   subst he
   refine sy_skip ?_
   refine sy_seq ?_
   refine sy_block ?_
   refine sy_seq ?_
   refine sy_tx' [0, 1, 2, 3] rfl ?_
   refine sp rfl (PE.indexAddr el27 rfl rfl (by omega) (by omega)) rfl ?_
   refine spL rfl rfl (lfA ag33 (row := trow x) (by simp [trows, hx]) rfl) rfl ?_
   refine alc rfl zl33 rfl (fun b11 => ?_)
   refine sto rfl rfl rfl cn33 rfl rfl rfl rfl ?_
   refine sy_seq ?_
   refine sy_tx' [0, 1, 2, 3] rfl ?_
   refine sp rfl (PE.fieldAddr fo33_0 rfl) rfl ?_
   refine spL rfl rfl (lhA [_, _, _] ag23 rfl rfl rfl) rfl ?_
   refine alc rfl zl23 rfl (fun b12 => ?_)
   refine sto rfl rfl rfl cn23 rfl rfl rfl rfl ?_
   refine sy_block ?_
   refine sy_seq ?_
   refine sy_tx' [0, 1, 2, 3, 4, 5, 6, 7, 8, 9, 10] rfl ?_
   refine spL rfl rfl (lhA [_, _, _, _, _, _, _, _, _, _, _] ag26 rfl rfl rfl) rfl ?_
   refine spL rfl rfl (lhA [_, _, _] ag23 rfl rfl rfl) rfl ?_
   refine clV rfl cal91 rfl rfl (c_right t x.st _ _ _) ?_
   refine sp rfl (PE.not rfl) rfl ?_
   refine sp rfl (PE.move rfl) rfl ?_
   refine sy_case (t := 81) rfl (fun g81 => ?_) (fun g81 => ?_)
   have hr : x.st.right t = false := by rw [← Bool.not_eq_true']; exact g81
   have hres : feedR t tb = (0, 3) := feedR_err hck hlen (by rw [hsc]; unfold feedScan; rw [hr]; rfl)
   repeat refine spN rfl rfl rfl rfl rfl rfl rfl rfl ?_
   refine sp rfl (PE.pick rfl rfl rfl) rfl ?_
   refine sp rfl (PE.assign rfl) rfl ?_
   refine sy_condT rfl ?_
   refine sy_seq ?_
   refine sy_tx' [0, 1] rfl ?_
   refine sp rfl (PE.assign rfl) rfl ?_
   refine sp rfl (PE.assign rfl) rfl ?_
   refine sy_ret ?_
   first
     | exact sy_returnM [] (vs := [_, _]) (v := .tuple #[.int .i64 (feedR t tb).1, .int .i64 (feedR t tb).2]) (fun _ h => h) rfl (.cons (RV.tmp rfl) (.cons (RV.tmp rfl) .nil)) (by rw [hres]; rfl) ⟨rfl, rfl, rfl⟩ drp
     | exact sy_returnM [bd0] (vs := [_, _]) (v := .tuple #[.int .i64 (feedR t tb).1, .int .i64 (feedR t tb).2]) (fun _ h => h.pull bd0) rfl (.cons (RV.tmp rfl) (.cons (RV.tmp rfl) .nil)) (by rw [hres]; rfl) ⟨rfl, rfl, rfl⟩ drp
   have hr : x.st.right t = true := by rw [← Bool.not_eq_false']; exact g81
   have hix := ix_lt ht hr
   have q1 := right_iff.1 hr
   refine spG rfl rfl rfl rfl (PE.fieldAddr fo33_1 rfl) rfl ?_
   refine spLG rfl rfl rfl rfl rfl (lh sc3 rfl rfl) rfl ?_
   refine clVG rfl rfl rfl rfl cal92 rfl rfl (c_in _ _ _ _ _) ?_
   refine spG rfl rfl rfl rfl (PE.not rfl) rfl ?_
   refine sp rfl (PE.pick rfl rfl rfl) rfl ?_
   refine sp rfl (PE.assign rfl) rfl ?_
   refine sy_cond rfl (fun hc3 => ?_) (fun hc3 => ?_)
   have hib : inb x.lasts 0 1000000 = false := by rw [← Bool.not_eq_true']; exact hc3
   have hres : feedR t tb = (0, 3) := feedR_err hck hlen (by rw [hsc]; unfold feedScan; rw [hr, hib]; rfl)
   refine sy_seq ?_
   refine sy_tx' [0, 1] rfl ?_
   refine sp rfl (PE.assign rfl) rfl ?_
   refine sp rfl (PE.assign rfl) rfl ?_
   refine sy_ret ?_
   first
     | exact sy_returnM [] (vs := [_, _]) (v := .tuple #[.int .i64 (feedR t tb).1, .int .i64 (feedR t tb).2]) (fun _ h => h) rfl (.cons (RV.tmp rfl) (.cons (RV.tmp rfl) .nil)) (by rw [hres]; rfl) ⟨rfl, rfl, rfl⟩ drp
     | exact sy_returnM [bd0] (vs := [_, _]) (v := .tuple #[.int .i64 (feedR t tb).1, .int .i64 (feedR t tb).2]) (fun _ h => h.pull bd0) rfl (.cons (RV.tmp rfl) (.cons (RV.tmp rfl) .nil)) (by rw [hres]; rfl) ⟨rfl, rfl, rfl⟩ drp
   have hib : inb x.lasts 0 1000000 = true := by rw [← Bool.not_eq_false']; exact hc3
   refine sy_seq ?_
   refine sy_tx' [0, 1, 2, 3, 4, 5] rfl ?_
   refine spL rfl rfl (lhA [_, _, _, _, _, _, _, _, _, _, _] ag26 rfl rfl rfl) rfl ?_
   refine sp rfl (PE.fieldAddr fo33_2 rfl) rfl ?_
   refine spL rfl rfl (lh sc3 rfl rfl) rfl ?_
   refine clV rfl cal93 rfl rfl (c_ration t x.ration _ _ hl _ _) ?_
   refine sp rfl (PE.not rfl) rfl ?_
   refine sp rfl (PE.assign rfl) rfl ?_
   refine sy_cond rfl (fun hc4 => ?_) (fun hc4 => ?_)
   have hnr := rat_none (t := t) (r := x.ration) (by rw [← Bool.not_eq_true']; exact hc4)
   have hres : feedR t tb = (0, 1) := feedR_err hck hlen (by rw [hsc]; unfold feedScan; rw [hr, hib, hnr]; rfl)
   refine sy_seq ?_
   refine sy_tx' [0, 1] rfl ?_
   refine sp rfl (PE.assign rfl) rfl ?_
   refine sp rfl (PE.assign rfl) rfl ?_
   refine sy_ret ?_
   first
     | exact sy_returnM [] (vs := [_, _]) (v := .tuple #[.int .i64 (feedR t tb).1, .int .i64 (feedR t tb).2]) (fun _ h => h) rfl (.cons (RV.tmp rfl) (.cons (RV.tmp rfl) .nil)) (by rw [hres]; rfl) ⟨rfl, rfl, rfl⟩ drp
     | exact sy_returnM [bd0] (vs := [_, _]) (v := .tuple #[.int .i64 (feedR t tb).1, .int .i64 (feedR t tb).2]) (fun _ h => h.pull bd0) rfl (.cons (RV.tmp rfl) (.cons (RV.tmp rfl) .nil)) (by rw [hres]; rfl) ⟨rfl, rfl, rfl⟩ drp
   obtain ⟨hr0, q, hq⟩ := rat_in (t := t) (r := x.ration) (by rw [← Bool.not_eq_false']; exact hc4)
   have hrq := rat_some hr0 hq
   refine sy_seq ?_
   refine sy_tx' [0, 1, 2, 3, 4, 5, 6] rfl ?_
   refine spL rfl rfl (lhA [_, _, _, _, _, _, _, _, _, _, _] ag26 rfl rfl rfl) rfl ?_
   refine spL rfl rfl (lhA [_, _, _] ag23 rfl rfl rfl) rfl ?_
   refine sp rfl (PE.fieldAddr fo33_2 rfl) rfl ?_
   refine spL rfl rfl (lh sc3 rfl rfl) rfl ?_
   refine clV rfl cal94 rfl rfl (c_allowed t x.st x.ration q ba oa ca hr0 hq _ _) ?_
   refine sp rfl (PE.not rfl) rfl ?_
   refine sp rfl (PE.assign rfl) rfl ?_
   refine sy_cond rfl (fun hc5 => ?_) (fun hc5 => ?_)
   have hcan : t.can x.st q = false := by rw [← Bool.not_eq_true']; exact hc5
   have hres : feedR t tb = (0, 9) := feedR_err hck hlen (by rw [hsc]; unfold feedScan; rw [hr, hib, hrq]; simp [hcan])
   refine sy_seq ?_
   refine sy_tx' [0, 1] rfl ?_
   refine sp rfl (PE.assign rfl) rfl ?_
   refine sp rfl (PE.assign rfl) rfl ?_
   refine sy_ret ?_
   first
     | exact sy_returnM [] (vs := [_, _]) (v := .tuple #[.int .i64 (feedR t tb).1, .int .i64 (feedR t tb).2]) (fun _ h => h) rfl (.cons (RV.tmp rfl) (.cons (RV.tmp rfl) .nil)) (by rw [hres]; rfl) ⟨rfl, rfl, rfl⟩ drp
     | exact sy_returnM [bd0] (vs := [_, _]) (v := .tuple #[.int .i64 (feedR t tb).1, .int .i64 (feedR t tb).2]) (fun _ h => h.pull bd0) rfl (.cons (RV.tmp rfl) (.cons (RV.tmp rfl) .nil)) (by rw [hres]; rfl) ⟨rfl, rfl, rfl⟩ drp
   have hcan : t.can x.st q = true := by rw [← Bool.not_eq_false']; exact hc5
   refine sy_seq ?_
   refine sy_draw [0, 1, 3, 7, 15, 3, 63, 127, 255, 511] (.tk 0 (.tk 1 (.ld 2 (.tk 3 (.tk 4 (.ld 5 (.big 6 (.tk 7 (.tk 8 (.tk 9 .done)))))))))) mixed (by kernel_rfl) ?_
   refine tk rfl (PE.move rfl) rfl ?_
   refine tk rfl (PE.move rfl) rfl ?_
   refine sy_case (t := 54) rfl (fun g54 => ?_) (fun g54 => ?_)
   subst g54
   have hst : feedScan t tb false (nevY t) = feedScan t (tb.drop (k + 1)) true (y.set x.st.ix x.lasts) := by rw [hsc, feedScan, hr, hib, hrq]; simp [hcan]
   refine ldN rfl rfl rfl rfl rfl rfl rfl rfl ?_
   repeat refine tkN rfl rfl rfl rfl rfl rfl rfl rfl ?_
   refine ldN rfl rfl rfl rfl rfl rfl rfl rfl ?_
   refine spN rfl rfl rfl rfl rfl rfl rfl rfl ?_
   refine bg (fun w hs => ⟨trivial, trivial, trivial⟩) ?_
   refine tkN rfl rfl rfl rfl rfl rfl rfl rfl ?_
   refine tk rfl (PE.pick rfl rfl rfl) rfl ?_
   refine tk rfl (PE.assign rfl) rfl ?_
   refine sy_draw [0, 0, 2, 0, 8, 0, 32, 0, 128, 1, 513, 1543, 3615, 8191, 16383] (.ld 0 (.tk 1 (.ld 2 (.tk 3 (.ld 4 (.tk 5 (.ld 6 (.tk 7 (.ld 8 (.tk 9 (.tk 10 (.tk 11 (.tk 12 (.tk 13 (.big 14 .done))))))))))))))) mixed (by kernel_rfl) ?_
   refine ld rfl rfl (lh sc138 rfl rfl) rfl ?_
   refine tk rfl (PE.fieldAddr fo23_0 rfl) rfl ?_
   refine ld rfl rfl (lh sc3 rfl rfl) rfl ?_
   refine tk rfl (PE.fieldAddr fo23_1 rfl) rfl ?_
   refine ld rfl rfl (lh sc3 rfl rfl) rfl ?_
   refine tk rfl (PE.fieldAddr fo23_2 rfl) rfl ?_
   refine ld rfl rfl (lh sc3 rfl rfl) rfl ?_
   refine tk rfl (PE.fieldAddr fo33_1 rfl) rfl ?_
   refine ld rfl rfl (lh sc3 rfl rfl) rfl ?_
   refine tk rfl (PE.nilCheck rfl) rfl ?_
   refine tk rfl (PE.fieldAddr fo153_2 rfl) rfl ?_
   refine tk rfl (PE.indexArr ar150 rfl rfl (by omega) (by omega)) rfl ?_
   refine tk rfl (PE.indexArr ar145 rfl rfl (by omega) (by omega)) rfl ?_
   refine tk rfl (PE.indexArr ar144 rfl rfl (by omega) (by omega)) rfl ?_
   refine stoE rfl rfl rfl cn3 rfl rfl rfl (rc_put x.lasts (i := x.st.ix) (by omega) (by unfold Sta.ix; omega)) (by rw [rc_len hyl]; show _ + 1 ≤ 510; omega) ?_
   refine bg (fun w hs => ⟨trivial, trivial, trivial, trivial, trivial, trivial⟩) ?_
   refine sy_tx' [0, 1] rfl ?_
   refine sp rfl (PE.add rfl rfl (by omega)) rfl ?_
   refine sp rfl (PE.move rfl) rfl ?_
   exact sy_next ⟨(k + 1, _, y.set x.st.ix x.lasts), by omega, by simpa using hyl, hst⟩ (by dsimp only; omega) (by repeat' first | exact Sub.nil | apply Sub.cons | rfl | (simp [lk]; omega)) drp
   subst g54
   have hst : feedScan t tb false (nevY t) = feedScan t (tb.drop (k + 1)) (decide (lat y x.st ≠ -1)) (y.set x.st.ix x.lasts) := by rw [hsc, feedScan, hr, hib, hrq]; simp [hcan]
   refine ldG rfl rfl rfl rfl rfl (lh sc138 rfl rfl) rfl ?_
   refine tkG rfl rfl rfl rfl (PE.nilCheck rfl) rfl ?_
   refine tkG rfl rfl rfl rfl (PE.fieldAddr fo153_2 rfl) rfl ?_
   refine ldG rfl rfl rfl rfl rfl (lhA [_, _, _] ag23 rfl rfl rfl) rfl ?_
   refine clVG rfl rfl rfl rfl cal95 rfl rfl (c_of t ht x.st hr ba oa ca bt bw m y (.slice none 0 0) hyl _ _) ?_
   refine bg (fun w hs => ⟨trivial, trivial, trivial⟩) ?_
   refine tkG rfl rfl rfl rfl (PE.neq rfl rfl) rfl ?_
   refine tk rfl (PE.pick rfl rfl rfl) rfl ?_
   refine tk rfl (PE.assign rfl) rfl ?_
   refine sy_draw [0, 0, 2, 0, 8, 0, 32, 0, 128, 1, 513, 1543, 3615, 8191, 16383] (.ld 0 (.tk 1 (.ld 2 (.tk 3 (.ld 4 (.tk 5 (.ld 6 (.tk 7 (.ld 8 (.tk 9 (.tk 10 (.tk 11 (.tk 12 (.tk 13 (.big 14 .done))))))))))))))) mixed (by kernel_rfl) ?_
   refine ld rfl rfl (lh sc138 rfl rfl) rfl ?_
   refine tk rfl (PE.fieldAddr fo23_0 rfl) rfl ?_
   refine ld rfl rfl (lh sc3 rfl rfl) rfl ?_
   refine tk rfl (PE.fieldAddr fo23_1 rfl) rfl ?_
   refine ld rfl rfl (lh sc3 rfl rfl) rfl ?_
   refine tk rfl (PE.fieldAddr fo23_2 rfl) rfl ?_
   refine ld rfl rfl (lh sc3 rfl rfl) rfl ?_
   refine tk rfl (PE.fieldAddr fo33_1 rfl) rfl ?_
   refine ld rfl rfl (lh sc3 rfl rfl) rfl ?_
   refine tk rfl (PE.nilCheck rfl) rfl ?_
   refine tk rfl (PE.fieldAddr fo153_2 rfl) rfl ?_
   refine tk rfl (PE.indexArr ar150 rfl rfl (by omega) (by omega)) rfl ?_
   refine tk rfl (PE.indexArr ar145 rfl rfl (by omega) (by omega)) rfl ?_
   refine tk rfl (PE.indexArr ar144 rfl rfl (by omega) (by omega)) rfl ?_
   refine stoE rfl rfl rfl cn3 rfl rfl rfl (rc_put x.lasts (i := x.st.ix) (by omega) (by unfold Sta.ix; omega)) (by rw [rc_len hyl]; show _ + 1 ≤ 510; omega) ?_
   refine bg (fun w hs => ⟨trivial, trivial, trivial, trivial, trivial, trivial⟩) ?_
   refine sy_tx' [0, 1] rfl ?_
   refine sp rfl (PE.add rfl rfl (by omega)) rfl ?_
   refine sp rfl (PE.move rfl) rfl ?_
   exact sy_next ⟨(k + 1, _, y.set x.st.ix x.lasts), by omega, by simpa using hyl, hst⟩ (by dsimp only; omega) (by repeat' first | exact Sub.nil | apply Sub.cons | rfl | (simp [lk]; omega)) drp
   simp only [decide_eq_true_eq, decide_eq_false_iff_not, Bool.and_eq_true, Bool.or_eq_true, Bool.not_eq_true', Int.not_le, Int.not_lt] at hc2
   obtain rfl : k = tb.length := by omega
   rw [List.drop_length] at hsc
   have hsc2 : feedScan t tb false (nevY t) = .ok (tw, y) := hsc
   have hok := feedScan_ok tb _ _ _ hsc2
   refine sy_exit ?_
   repeat refine sy_tx ?_
   refine sy_bx ?_
   refine sy_seq ?_
   refine sy_seq ?_
   refine sy_tx' [0] rfl ?_
   refine sp rfl (PE.move rfl) rfl ?_
   refine sy_cond rfl (fun hc6 => ?_) (fun hc6 => ?_)
   subst hc6
   have hres : feedR t tb = (0, 5) := feedR_ok hck hlen hsc2
   refine sy_seq ?_
   refine sy_tx' [0, 1] rfl ?_
   refine sp rfl (PE.assign rfl) rfl ?_
   refine sp rfl (PE.assign rfl) rfl ?_
   refine sy_ret ?_
   first
     | exact sy_returnM [] (vs := [_, _]) (v := .tuple #[.int .i64 (feedR t tb).1, .int .i64 (feedR t tb).2]) (fun _ h => h) rfl (.cons (RV.tmp rfl) (.cons (RV.tmp rfl) .nil)) (by rw [hres]; rfl) ⟨rfl, rfl, rfl⟩ drp
     | exact sy_returnM [bd0] (vs := [_, _]) (v := .tuple #[.int .i64 (feedR t tb).1, .int .i64 (feedR t tb).2]) (fun _ h => h.pull bd0) rfl (.cons (RV.tmp rfl) (.cons (RV.tmp rfl) .nil)) (by rw [hres]; rfl) ⟨rfl, rfl, rfl⟩ drp
   subst hc6
   refine sy_skip ?_
   refine sy_seq ?_
   refine sy_tx' [0] rfl ?_
   refine sp rfl (PE.assign rfl) rfl ?_
   refine sy_seq ?_
   refine sy_label ?_
   refine sy_seq ?_
   refine sy_seq ?_
   refine sy_tx' [0, 1, 2] rfl ?_
   refine sp rfl (PE.move rfl) rfl ?_
   refine sp rfl (PE.lenSl isl27 rfl) rfl ?_
   refine sp rfl (PE.move rfl) rfl ?_
   refine sy_block ?_
   refine sy_loop (ι := {k : Nat // k ≤ tb.length ∧ ∀ i x, i < k → tb[i]? = some x → tabKeeps t y x = true}) (fun k => ⟨[(2, .pointer (some ⟨b2, 0, none⟩)), (6, .pointer (some ⟨b6, 0, none⟩)), (13, .bool true), (102, .slice a tb.length c), (103, .int .i64 tb.length), (104, .int .i64 k.1)], (bd0, .deferred (some [])) :: (b6, cel 138 [.pointer (some ⟨bw, 0, none⟩)]) :: (bw, cel 153 (rcs t (t.sl (some ⟨ba, oa, none⟩) ca) bt (y) (.slice none 0 0) m)) :: (m, mapO true []) :: (b2, cel 26 (twl t (t.sl (some ⟨ba, oa, none⟩) ca))) :: H, RowsA (some ⟨b31, 0, none⟩) 11 [twl t (t.sl (some ⟨ba, oa, none⟩) ca)] :: RowsA (some ⟨bt, 0, none⟩) 11 [twl t (t.sl (some ⟨ba, oa, none⟩) ca)] :: R⟩) (fun k => tb.length - k.1) ⟨0, by omega, by omega⟩ ?_ (fun k => ?_)
   exact sy_at (by repeat' first | exact Sub.nil | apply Sub.cons | rfl | (simp [lk]; omega)) (fun _ h => h)
   obtain ⟨k, hk, hkp⟩ := k
   dsimp only at hk hkp ⊢
   refine sy_seq ?_
   refine sy_tx' [0] rfl ?_
   refine sp rfl (PE.lss rfl rfl) rfl ?_
   refine sy_seq ?_
   refine sy_cond rfl (fun hc7 => ?_) (fun hc7 => ?_)
   simp only [decide_eq_true_eq, decide_eq_false_iff_not, Bool.and_eq_true, Bool.or_eq_true, Bool.not_eq_true', Int.not_le, Int.not_lt] at hc7
   obtain ⟨x, hx⟩ : ∃ x, tb[k]? = some x := ⟨_, List.getElem?_eq_getElem (by omega)⟩
   obtain ⟨hr, hib, q, hrq, hcan⟩ := hok x (List.mem_of_getElem? hx)
   obtain ⟨hr0, hq⟩ := rat_iff.1 hrq
   have htk : tabKeeps t y x = t.keeps y x.st q x.lasts := by unfold tabKeeps; rw [hrq]
   refine sy_addr (a := a) (sz := 5) (rows := trows tb) (by intro h0; simp [trows] at h0; simp [h0] at hx) (fun bx ox he => ?_)
   subst he
   refine sy_skip ?_
   refine sy_seq ?_
   refine sy_block ?_
   refine sy_seq ?_
   refine sy_tx' [0, 1, 2, 3] rfl ?_
   refine sp rfl (PE.indexAddr el27 rfl rfl (by omega) (by omega)) rfl ?_
   refine spL rfl rfl (lfA ag33 (row := trow x) (by simp [trows, hx]) rfl) rfl ?_
   refine alc rfl zl33 rfl (fun b15 => ?_)
   refine sto rfl rfl rfl cn33 rfl rfl rfl rfl ?_
   refine sy_seq ?_
   refine sy_tx' [0, 1, 2, 3, 4, 5, 6, 7, 8] rfl ?_
   refine spL rfl rfl (lh sc138 rfl rfl) rfl ?_
   refine sp rfl (PE.fieldAddr fo33_0 rfl) rfl ?_
   refine spL rfl rfl (lhA [_, _, _] ag23 rfl rfl rfl) rfl ?_
   refine sp rfl (PE.fieldAddr fo33_2 rfl) rfl ?_
   refine spL rfl rfl (lh sc3 rfl rfl) rfl ?_
   refine sp rfl (PE.fieldAddr fo33_1 rfl) rfl ?_
   refine spL rfl rfl (lh sc3 rfl rfl) rfl ?_
   refine clV rfl cal96 rfl rfl (c_keeps t ht x.st hr x.ration q hr0 hq x.lasts hib ba oa ca bt bw m y (.slice none 0 0) hyl _ _) ?_
   refine sp rfl (PE.assign rfl) rfl ?_
   refine sy_seq ?_
   refine sy_tx' [0, 1] rfl ?_
   refine sp rfl (PE.move rfl) rfl ?_
   refine sp rfl (PE.not rfl) rfl ?_
   refine sy_cond rfl (fun hc8 => ?_) (fun hc8 => ?_)
   have hkf : tabKeeps t y x = false := by rw [htk, ← Bool.not_eq_true']; exact hc8
   have hall : tb.all (tabKeeps t y) = false := by rw [List.all_eq_false]; exact ⟨x, List.mem_of_getElem? hx, by simp [hkf]⟩
   have hres : feedR t tb = (0, 8) := by rw [feedR_ok hck hlen hsc2]; unfold feedEnd; rw [hall]; rfl
   refine sy_exit ?_
   refine sy_bxn (by decide) ?_
   repeat refine sy_tx ?_
   refine sy_bx ?_
   refine sy_seq ?_
   refine sy_draw [0, 1, 3, 0, 8, 31, 63] (.ld 0 (.tk 1 (.tk 2 (.tk 3 (.ld 4 (.big 5 (.tk 6 .done))))))) mixed (by kernel_rfl) ?_
   refine ld rfl rfl (lh sc138 rfl rfl) rfl ?_
   refine tk rfl (PE.nilCheck rfl) rfl ?_
   refine tk rfl (PE.fieldAddr fo153_2 rfl) rfl ?_
   refine tk rfl (PE.fieldAddr fo26_0 rfl) rfl ?_
   refine ld rfl rfl (lhA [_, _, _] ag23 rfl rfl rfl) rfl ?_
   refine clV rfl cal95 rfl rfl (c_of t ht t.now ht.now ba oa ca bt bw m y (.slice none 0 0) hyl _ _) ?_
   refine bg (fun w hs => ⟨trivial, trivial, trivial⟩) ?_
   refine tk rfl (PE.assign rfl) rfl ?_
   refine sy_block ?_
   refine sy_seq ?_
   refine sy_tx' [0, 1, 2] rfl ?_
   refine sp rfl (PE.move rfl) rfl ?_
   refine sp rfl (PE.not rfl) rfl ?_
   refine sp rfl (PE.assign rfl) rfl ?_
   refine sy_condT (congrArg (fun b => some (Value.bool b)) hc8) ?_
   refine sy_seq ?_
   refine sy_tx' [0, 1] rfl ?_
   refine sp rfl (PE.assign rfl) rfl ?_
   refine sp rfl (PE.assign rfl) rfl ?_
   refine sy_ret ?_
   first
     | exact sy_returnM [] (vs := [_, _]) (v := .tuple #[.int .i64 (feedR t tb).1, .int .i64 (feedR t tb).2]) (fun _ h => h) rfl (.cons (RV.tmp rfl) (.cons (RV.tmp rfl) .nil)) (by rw [hres]; rfl) ⟨rfl, rfl, rfl⟩ drp
     | exact sy_returnM [bd0] (vs := [_, _]) (v := .tuple #[.int .i64 (feedR t tb).1, .int .i64 (feedR t tb).2]) (fun _ h => h.pull bd0) rfl (.cons (RV.tmp rfl) (.cons (RV.tmp rfl) .nil)) (by rw [hres]; rfl) ⟨rfl, rfl, rfl⟩ drp
   have hkt : tabKeeps t y x = true := by rw [htk, ← Bool.not_eq_false']; exact hc8
   refine sy_skip ?_
   refine sy_tx' [0, 1] rfl ?_
   refine sp rfl (PE.add rfl rfl (by omega)) rfl ?_
   refine sp rfl (PE.move rfl) rfl ?_
   exact sy_next ⟨k + 1, by omega, fun i z hi hz => by
     rcases Nat.lt_or_ge i k with h1 | h1
     · exact hkp i z h1 hz
     · obtain rfl : i = k := by omega
       rw [hx] at hz; cases hz; exact hkt⟩ (by dsimp only; omega) (by rw [← htk, hkt]; exact (by repeat' first | exact Sub.nil | apply Sub.cons | rfl | (simp [lk]; omega))) drp
   simp only [decide_eq_true_eq, decide_eq_false_iff_not, Bool.and_eq_true, Bool.or_eq_true, Bool.not_eq_true', Int.not_le, Int.not_lt] at hc7
   obtain rfl : k = tb.length := by omega
   have hall : tb.all (tabKeeps t y) = true := List.all_eq_true.2 fun x hx => by
     obtain ⟨i, hi⟩ := List.getElem?_of_mem hx
     exact hkp i x (List.getElem?_eq_some_iff.1 hi).1 hi
   have hfe : feedEnd t tb false y = bif decide (lat y t.now = -1) then (0, 6) else (lat y t.now, 0) := by unfold feedEnd; rw [hall]; rfl
   refine sy_exit ?_
   repeat refine sy_tx ?_
   refine sy_bx ?_
   refine sy_seq ?_
   refine sy_draw [0, 1, 3, 0, 8, 31, 63] (.ld 0 (.tk 1 (.tk 2 (.tk 3 (.ld 4 (.big 5 (.tk 6 .done))))))) mixed (by kernel_rfl) ?_
   refine ld rfl rfl (lh sc138 rfl rfl) rfl ?_
   refine tk rfl (PE.nilCheck rfl) rfl ?_
   refine tk rfl (PE.fieldAddr fo153_2 rfl) rfl ?_
   refine tk rfl (PE.fieldAddr fo26_0 rfl) rfl ?_
   refine ld rfl rfl (lhA [_, _, _] ag23 rfl rfl rfl) rfl ?_
   refine clV rfl cal95 rfl rfl (c_of t ht t.now ht.now ba oa ca bt bw m y (.slice none 0 0) hyl _ _) ?_
   refine bg (fun w hs => ⟨trivial, trivial, trivial⟩) ?_
   refine tk rfl (PE.assign rfl) rfl ?_
   refine sy_block ?_
   refine sy_seq ?_
   refine sy_tx' [0, 1, 2] rfl ?_
   refine sp rfl (PE.move rfl) rfl ?_
   refine sp rfl (PE.not rfl) rfl ?_
   refine sp rfl (PE.assign rfl) rfl ?_
   refine sy_condF (rfl) ?_
   refine sy_seq ?_
   refine sy_tx' [0, 1, 2] rfl ?_
   refine sp rfl (PE.move rfl) rfl ?_
   refine sp rfl (PE.eql rfl rfl) rfl ?_
   refine sp rfl (PE.assign rfl) rfl ?_
   refine sy_cond rfl (fun hc10 => ?_) (fun hc10 => ?_)
   have hres : feedR t tb = (0, 6) := by rw [feedR_ok hck hlen hsc2, hfe, hc10]; rfl
   refine sy_seq ?_
   refine sy_tx' [0, 1] rfl ?_
   refine sp rfl (PE.assign rfl) rfl ?_
   refine sp rfl (PE.assign rfl) rfl ?_
   refine sy_ret ?_
   first
     | exact sy_returnM [] (vs := [_, _]) (v := .tuple #[.int .i64 (feedR t tb).1, .int .i64 (feedR t tb).2]) (fun _ h => h) rfl (.cons (RV.tmp rfl) (.cons (RV.tmp rfl) .nil)) (by rw [hres]; rfl) ⟨rfl, rfl, rfl⟩ drp
     | exact sy_returnM [bd0] (vs := [_, _]) (v := .tuple #[.int .i64 (feedR t tb).1, .int .i64 (feedR t tb).2]) (fun _ h => h.pull bd0) rfl (.cons (RV.tmp rfl) (.cons (RV.tmp rfl) .nil)) (by rw [hres]; rfl) ⟨rfl, rfl, rfl⟩ drp
   have hres : feedR t tb = (lat y t.now, 0) := by rw [feedR_ok hck hlen hsc2, hfe, hc10]; rfl
   refine sy_seq ?_
   refine sy_tx' [0, 1, 2] rfl ?_
   refine sp rfl (PE.move rfl) rfl ?_
   refine sp rfl (PE.assign rfl) rfl ?_
   refine sp rfl (PE.assign rfl) rfl ?_
   refine sy_ret ?_
   first
     | exact sy_returnM [] (vs := [_, _]) (v := .tuple #[.int .i64 (feedR t tb).1, .int .i64 (feedR t tb).2]) (fun _ h => h) rfl (.cons (RV.tmp rfl) (.cons (RV.tmp rfl) .nil)) (by rw [hres]; rfl) ⟨rfl, rfl, rfl⟩ drp
     | exact sy_returnM [bd0] (vs := [_, _]) (v := .tuple #[.int .i64 (feedR t tb).1, .int .i64 (feedR t tb).2]) (fun _ h => h.pull bd0) rfl (.cons (RV.tmp rfl) (.cons (RV.tmp rfl) .nil)) (by rw [hres]; rfl) ⟨rfl, rfl, rfl⟩ drp
end Go.Proofs.Ytaldphhdkmchhaa
namespace Go.Proofs.Ytaldphhdkmchhaa
set_option linter.unusedSimpArgs false
set_option linter.unusedVariables false
def Clo (t : Twn) (n : Nat) (B X : Sta → Prop) : Prop :=
  ∀ u, X u → u.right t = true ∧ ∃ q ∈ t.rats, t.can u q = true ∧ X (t.next u q false) ∧ (n = 0 ∨ ¬ u.dry < t.run ∨ B (t.next u q true))
def Srv (t : Twn) : Nat → Sta → Prop
  | 0 => fun s => ∃ X, Clo t 0 (fun _ => True) X ∧ X s
  | n + 1 => fun s => ∃ X, Clo t (n + 1) (Srv t n) X ∧ X s
def Bf (t : Twn) : Nat → Sta → Prop
  | 0 => fun _ => True
  | n + 1 => Srv t n
theorem srv_iff {t : Twn} {n : Nat} {s : Sta} : Srv t n s ↔ ∃ X, Clo t n (Bf t n) X ∧ X s := by cases n <;> rfl
theorem srv_max {t : Twn} {n : Nat} {X : Sta → Prop} (h : Clo t n (Bf t n) X) {s : Sta} (hs : X s) : Srv t n s := srv_iff.2 ⟨X, h, hs⟩
theorem srv_clo (t : Twn) (n : Nat) : Clo t n (Bf t n) (Srv t n) := fun u hu => by
  obtain ⟨X, hX, hu⟩ := srv_iff.1 hu
  obtain ⟨h1, q, hq, hc, hg, hb⟩ := hX u hu
  exact ⟨h1, q, hq, hc, srv_max hX hg, hb⟩
theorem srv_right {t : Twn} {n : Nat} {s : Sta} (h : Srv t n s) : s.right t = true := (srv_clo t n s h).1
theorem srv_anti {t : Twn} : ∀ {n : Nat} {s : Sta}, Srv t (n + 1) s → Srv t n s
  | 0, s, h => srv_max (X := Srv t 1) (fun u hu => by
      obtain ⟨h1, q, hq, hc, hg, _⟩ := srv_clo t 1 u hu
      exact ⟨h1, q, hq, hc, hg, .inl rfl⟩) h
  | n + 1, s, h => srv_max (X := Srv t (n + 2)) (fun u hu => by
      obtain ⟨h1, q, hq, hc, hg, hb⟩ := srv_clo t (n + 2) u hu
      refine ⟨h1, q, hq, hc, hg, ?_⟩
      rcases hb with hb | hb | hb
      · omega
      · exact .inr (.inl hb)
      · exact .inr (.inr (srv_anti (n := n) hb))) h
theorem srv_le {t : Twn} {s : Sta} {m : Nat} : ∀ {n : Nat}, m ≤ n → Srv t n s → Srv t m s
  | 0, h, hs => by obtain rfl : m = 0 := by omega
                   exact hs
  | n + 1, h, hs => by
    rcases Nat.lt_or_ge m (n + 1) with h1 | h1
    · exact srv_le (n := n) (by omega) (srv_anti hs)
    · obtain rfl : m = n + 1 := by omega
      exact hs
def Pn (t : Twn) (n : Nat) (s : Sta) (v : Int) : Prop := (v = 1000000 ∧ ∀ j < n, Srv t j s) ∨ ∃ k : Nat, k < n ∧ v = k - 1 ∧ ¬ Srv t k s ∧ ∀ j < k, Srv t j s
def Mid (t : Twn) (n : Nat) (s : Sta) (v : Int) : Prop := (v = 1000000 ∧ ∀ j < n, Srv t j s) ∨ ∃ k : Nat, k < n + 1 ∧ v = k - 1 ∧ ¬ Srv t k s ∧ ∀ j < k, Srv t j s
theorem keeps_of {t : Twn} (ht : t.ok) {n : Nat} (hn : n ≤ 496) {y : List Int} (hm : ∀ s ∈ sts t, Mid t n s (lat y s)) {s : Sta} (hs : Srv t n s) : (t.rats.any fun q => t.keeps y s q n) = true := by
  obtain ⟨h1, q, hq, hc, hg, hb⟩ := srv_clo t n s hs
  refine List.any_eq_true.2 ⟨q, hq, ?_⟩
  unfold Twn.keeps
  have hg1 : (n : Int) ≤ lat y (t.next s q false) := by
    rcases hm _ (right_sts (srv_right hg)) with ⟨h, _⟩ | ⟨k, hk, h, hno, _⟩
    · omega
    · exact absurd (srv_le (by omega) hg) hno
  have hne : ¬ (n : Int) = 1000000 := by omega
  simp only [hc, hg1, decide_true, Bool.true_and, hne, decide_false, cond_false]
  rcases hb with hb | hb | hb
  · simp [hb]
  · simp [hb]
  · cases n with
    | zero => simp
    | succ m =>
      have hb' : Srv t m (t.next s q true) := hb
      have : ((m + 1 : Nat) : Int) - 1 ≤ lat y (t.next s q true) := by
        rcases hm _ (right_sts (srv_right hb')) with ⟨h, _⟩ | ⟨k, hk, h, hno, _⟩
        · omega
        · rcases Nat.lt_or_ge m k with h2 | h2
          · omega
          · exact absurd (srv_le h2 hb') hno
      have h9 : (m : Int) ≤ lat y (t.next s q true) := by omega
      simp [h9]
theorem step_mid {t : Twn} (ht : t.ok) {n : Nat} (hn : n ≤ 496) {σ : Sv} (hy : σ.y.length = 496) (hm : ∀ s ∈ sts t, Mid t n s (lat σ.y s)) {u : Sta} (hu : u ∈ sts t) : ∀ s ∈ sts t, Mid t n s (lat (σ.step t n u).y s) := by
  intro s hs
  unfold Sv.step
  cases hc : ever σ.y u && !(t.rats.any fun q => t.keeps σ.y u q n) with
  | false => exact hm s hs
  | true =>
    simp only [Bool.and_eq_true, Bool.not_eq_true'] at hc
    simp only [cond_true]
    by_cases he : u.ix = s.ix
    · have := ix_inj ht (sts_right ht hu) (sts_right ht hs) he
      subst this
      rw [lat_set_self (by rw [hy]; exact ix_lt ht (sts_right ht hs))]
      refine .inr ⟨n, by omega, rfl, fun h => ?_, ?_⟩
      · rw [keeps_of ht hn hm h] at hc; cases hc.2
      · have h1 : lat σ.y u = 1000000 := by simpa [ever] using hc.1
        rcases hm u hs with ⟨_, h⟩ | ⟨k, hk, h, _⟩
        · exact h
        · omega
    · rw [lat_set_ne he]; exact hm s hs
theorem fold_mid {t : Twn} (ht : t.ok) {n : Nat} (hn : n ≤ 496) : ∀ (l : List Sta) (σ : Sv), σ.y.length = 496 → (∀ s ∈ l, s ∈ sts t) → (∀ s ∈ sts t, Mid t n s (lat σ.y s)) → ∀ s ∈ sts t, Mid t n s (lat (l.foldl (Sv.step t n) σ).y s)
  | [], _, _, _, h => h
  | u :: l, σ, hy, hl, h => fold_mid ht hn l _ (by rw [step_len]; exact hy) (fun s hs => hl s (by simp [hs])) (step_mid ht hn hy h (hl u (by simp)))
theorem passes_mid {t : Twn} (ht : t.ok) {n : Nat} (hn : n ≤ 496) : ∀ (j : Nat) (σ : Sv), σ.y.length = 496 → (∀ s ∈ sts t, Mid t n s (lat σ.y s)) → ∀ s ∈ sts t, Mid t n s (lat (passes t n j σ).y s)
  | 0, _, _, h => h
  | j + 1, σ, hy, h => fold_mid ht hn (sts t) _ (by rw [passes_len]; exact hy) (fun _ h => h) (passes_mid ht hn j σ hy h)
theorem fold_fix {t : Twn} (ht : t.ok) {n : Int} (hn : n ≤ 1000000) : ∀ (l : List Sta) (σ : Sv), σ.y.length = 496 → (∀ s ∈ l, s ∈ sts t) → l.foldl (Sv.step t n) σ = σ → ∀ s ∈ l, σ.step t n s = σ
  | [], _, _, _, _, _, h => by cases h
  | u :: l, σ, hy, hl, h, s, hs => by
    rw [List.foldl_cons] at h
    have hu : σ.step t n u = σ := by
      rcases step_cnt ht hn hy (hl u (by simp)) with h1 | ⟨h1, _⟩
      · exact h1
      · obtain ⟨h2, _⟩ := fold_cnt ht hn l (σ.step t n u) (by rw [step_len]; exact hy) (fun s hs => hl s (by simp [hs]))
        rw [h] at h2
        rcases h2 with h2 | h2
        · rw [← h2] at h1; omega
        · omega
    rw [hu] at h
    rcases List.mem_cons.1 hs with rfl | hs
    · exact hu
    · exact fold_fix ht hn l σ hy (fun s hs => hl s (by simp [hs])) h s hs
theorem fix_any {t : Twn} (ht : t.ok) {n : Int} (hn : n ≤ 1000000) {σ : Sv} (hy : σ.y.length = 496) (h : pass t n σ = σ) {s : Sta} (hs : s ∈ sts t) (he : lat σ.y s = 1000000) : ∃ q ∈ t.rats, t.keeps σ.y s q n = true := by
  have h1 := fold_fix ht hn (sts t) σ hy (fun _ h => h) h s hs
  cases hc : t.rats.any fun q => t.keeps σ.y s q n with
  | true => exact List.any_eq_true.1 hc
  | false =>
    exfalso
    unfold Sv.step at h1
    have he' : ever σ.y s = true := by simp [ever, he]
    rw [he', hc] at h1
    have h2 := congrArg (fun σ => σ.fl.length) h1
    simp at h2
theorem mid_fix {t : Twn} (ht : t.ok) {n : Nat} (hn : n ≤ 496) {σ : Sv} (hy : σ.y.length = 496) (hm : ∀ s ∈ sts t, Mid t n s (lat σ.y s)) (hf : pass t n σ = σ) : ∀ s ∈ sts t, Pn t (n + 1) s (lat σ.y s) := by
  intro s hs
  rcases hm s hs with ⟨h1, h2⟩ | h
  · refine .inl ⟨h1, fun j hj => ?_⟩
    rcases Nat.lt_or_ge j n with h3 | h3
    · exact h2 j h3
    obtain rfl : j = n := by omega
    refine srv_max (X := fun s => s ∈ sts t ∧ lat σ.y s = 1000000) (fun u ⟨hu, hue⟩ => ?_) ⟨hs, h1⟩
    obtain ⟨q, hq, hk⟩ := fix_any ht (by omega) hy hf hu hue
    have hur := sts_right ht hu
    unfold Twn.keeps at hk
    simp only [Bool.and_eq_true, Bool.or_eq_true, decide_eq_true_eq, Bool.not_eq_true', decide_eq_false_iff_not] at hk
    obtain ⟨⟨hc, hg⟩, hb⟩ := hk
    have hgr := right_sts (next_right (bad := false) ht hur hq hc (by simp))
    refine ⟨hur, q, hq, hc, ⟨hgr, ?_⟩, ?_⟩
    · rcases hm _ hgr with ⟨h, _⟩ | ⟨k, hk, h, _⟩
      · exact h
      · omega
    · by_cases hd : u.dry < t.run
      · cases j with
        | zero => exact .inl rfl
        | succ m =>
          right; right
          show Srv t m _
          have hbr := right_sts (next_right (bad := true) ht hur hq hc (fun _ => hd))
          have hb2 : (m : Int) ≤ lat σ.y (t.next u q true) := by
            rcases hb with (hb | hb) | hb
            · omega
            · exact absurd hd hb
            · rw [show decide (((m + 1 : Nat) : Int) = 1000000) = false from by simp; omega, cond_false] at hb
              omega
          rcases hm _ hbr with ⟨_, h⟩ | ⟨k, hk, h, _, h2⟩
          · exact h m (by omega)
          · exact h2 m (by omega)
      · exact .inr (.inl hd)
  · exact .inr h
theorem rd_spec {t : Twn} (ht : t.ok) {n : Nat} {σ : Sv} (h : Rd t n σ) : ∀ s ∈ sts t, Pn t n s (lat σ.y s) := by
  induction h with
  | zero => exact fun s hs => .inl ⟨everY_ever ht hs, fun j hj => by omega⟩
  | next j h h1 h2 ih =>
    rename_i m σ
    obtain ⟨hy, hc, _⟩ := rd_ok ht h
    refine mid_fix ht (by omega) (by rw [passes_len]; exact hy) (passes_mid ht (by omega) j σ hy (fun s hs => ?_)) h1
    rcases ih s hs with h | ⟨k, hk, h⟩
    · exact .inl h
    · exact .inr ⟨k, by omega, h⟩
def LS (t : Twn) (s : Sta) (v : Int) : Prop := (v = 1000000 ∧ ∀ n, Srv t n s) ∨ ∃ k : Nat, k ≤ 496 ∧ v = k - 1 ∧ ¬ Srv t k s ∧ ∀ j < k, Srv t j s
theorem LS.uniq {t : Twn} {s : Sta} {v v' : Int} (h : LS t s v) (h' : LS t s v') : v = v' := by
  rcases h with ⟨rfl, h⟩ | ⟨k, _, rfl, hn, hl⟩ <;> rcases h' with ⟨rfl, h'⟩ | ⟨k', _, rfl, hn', hl'⟩
  · rfl
  · exact absurd (h k') hn'
  · exact absurd (h' k) hn
  · rcases Nat.lt_trichotomy k k' with h | h | h
    · exact absurd (hl' k h) hn
    · rw [h]
    · exact absurd (hl k' h) hn'
theorem solv_spec {t : Twn} (ht : t.ok) {σ : Sv} (h : Solv t σ) {s : Sta} (hs : s.right t = true) : LS t s (lat σ.y s) := by
  obtain ⟨n, hr, hf⟩ := h
  obtain ⟨hy, hc, _⟩ := rd_ok ht hr
  have hp := rd_spec ht hr
  have hp1 := mid_fix ht (n := n) (by omega) hy (fun s hs => by
    rcases hp s hs with h | ⟨k, hk, h⟩
    · exact .inl h
    · exact .inr ⟨k, by omega, h⟩) hf
  have hX : ∀ m, ∀ u, (u ∈ sts t ∧ lat σ.y u = 1000000) → Srv t m u := by
    have hclo : ∀ m, (∀ u, (u ∈ sts t ∧ lat σ.y u = 1000000) → Bf t m u) → Clo t m (Bf t m) (fun u => u ∈ sts t ∧ lat σ.y u = 1000000) := by
      intro m hB u ⟨hu, hue⟩
      obtain ⟨q, hq, hk⟩ := fix_any ht (by omega) hy hf hu hue
      have hur := sts_right ht hu
      unfold Twn.keeps at hk
      simp only [Bool.and_eq_true, Bool.or_eq_true, decide_eq_true_eq, Bool.not_eq_true', decide_eq_false_iff_not] at hk
      obtain ⟨⟨hc', hg⟩, hb⟩ := hk
      have hgr := right_sts (next_right (bad := false) ht hur hq hc' (by simp))
      refine ⟨hur, q, hq, hc', ⟨hgr, ?_⟩, ?_⟩
      · rcases hp _ hgr with ⟨h, _⟩ | ⟨k, hk, h, _⟩
        · exact h
        · omega
      · by_cases hd : u.dry < t.run
        · right; right
          have hbr := right_sts (next_right (bad := true) ht hur hq hc' (fun _ => hd))
          refine hB _ ⟨hbr, ?_⟩
          rcases hp _ hbr with ⟨h, _⟩ | ⟨k, hk, h, _⟩
          · exact h
          · exfalso
            rcases hb with (hb | hb) | hb
            · omega
            · exact hb hd
            · rw [show decide ((n : Int) = 1000000) = false from by simp; omega, cond_false] at hb
              omega
        · exact .inr (.inl hd)
    intro m
    induction m with
    | zero => exact fun u hu => srv_max (hclo 0 (fun _ _ => trivial)) hu
    | succ m ih => exact fun u hu => srv_max (hclo (m + 1) (fun u hu => ih u hu)) hu
  rcases hp s (right_sts hs) with ⟨h, _⟩ | ⟨k, hk, h⟩
  · exact .inl ⟨h, fun m => hX m s ⟨right_sts hs, h⟩⟩
  · exact .inr ⟨k, by omega, h⟩
def LSA (t : Twn) (y : List Int) : Prop := ∀ s, s.right t = true → LS t s (lat y s)
theorem ls_ge {t : Twn} {y : List Int} (hl : LSA t y) {s : Sta} (hs : s.right t = true) {n : Nat} (hn : n ≤ 1000000) : (n : Int) ≤ lat y s ↔ Srv t n s := by
  rcases hl s hs with ⟨h, h2⟩ | ⟨k, hk, h, hno, h2⟩
  · exact ⟨fun _ => h2 n, fun _ => by omega⟩
  · constructor
    · intro h3; exact h2 n (by omega)
    · intro h3
      rcases Nat.lt_or_ge n k with h4 | h4
      · omega
      · exact absurd (srv_le h4 h3) hno
theorem ls_range {t : Twn} {y : List Int} (hl : LSA t y) {s : Sta} (hs : s.right t = true) : lat y s = 1000000 ∨ (-1 ≤ lat y s ∧ lat y s ≤ 495) := by
  rcases hl s hs with ⟨h, h2⟩ | ⟨k, hk, h, hno, h2⟩
  · exact .inl h
  · exact .inr (by omega)
theorem ls_ever {t : Twn} {y : List Int} (hl : LSA t y) {s : Sta} (hs : s.right t = true) {n : Nat} (hn : 496 ≤ n) (h : Srv t n s) : lat y s = 1000000 := by
  rcases hl s hs with ⟨h1, _⟩ | ⟨k, hk, _, hno, _⟩
  · exact h1
  · exact absurd (srv_le (by omega) h) hno
theorem ls_keeps {t : Twn} {y : List Int} (hl : LSA t y) {s : Sta} (hs : s.right t = true) (h0 : lat y s ≠ -1) : ∃ q ∈ t.rats, t.keeps y s q (lat y s) = true := by
  rcases hl s hs with ⟨h, h2⟩ | ⟨k, hk, h, hno, h2⟩
  · obtain ⟨_, q, hq, hc, hg, hb⟩ := srv_clo t 497 s (h2 497)
    refine ⟨q, hq, ?_⟩
    have e1 := ls_ever hl (srv_right hg) (by omega) hg
    unfold Twn.keeps
    rw [h, hc, e1]
    rcases hb with hb | hb | hb
    · omega
    · simp [hb]
    · have e2 := ls_ever hl (srv_right hb) (n := 496) (by omega) hb
      rw [e2]; simp
  · obtain ⟨m, rfl⟩ : ∃ m, k = m + 1 := ⟨k - 1, by omega⟩
    obtain ⟨_, q, hq, hc, hg, hb⟩ := srv_clo t m s (h2 m (by omega))
    refine ⟨q, hq, ?_⟩
    have e1 := (ls_ge hl (srv_right hg) (n := m) (by omega)).2 hg
    unfold Twn.keeps
    rw [h, hc, show ((m + 1 : Nat) : Int) - 1 = m from by omega]
    have hne : ¬ (m : Int) = 1000000 := by omega
    simp only [e1, decide_true, Bool.true_and, hne, decide_false, cond_false]
    rcases hb with hb | hb | hb
    · simp [hb]
    · simp [hb]
    · cases m with
      | zero => simp
      | succ m =>
        have hb' : Srv t m (t.next s q true) := hb
        have e2 := (ls_ge hl (srv_right hb') (n := m) (by omega)).2 hb'
        simp [e2]
end Go.Proofs.Ytaldphhdkmchhaa
namespace Go.Proofs.Ytaldphhdkmchhaa
set_option linter.unusedSimpArgs false
set_option linter.unusedVariables false
theorem staAt_inj {t : Twn} {i j : Nat} (h : staAt t i = staAt t j) : i = j := by
  unfold staAt at h
  simp only [Sta.mk.injEq, Int.natCast_inj] at h
  obtain ⟨h1, h2, h3⟩ := h
  have e1 : i / (t.run.toNat + 1) = j / (t.run.toNat + 1) := by
    rw [← Nat.div_add_mod (i / (t.run.toNat + 1)) (t.patience.toNat + 1), ← Nat.div_add_mod (j / (t.run.toNat + 1)) (t.patience.toNat + 1), h1, h2]
  rw [← Nat.div_add_mod i (t.run.toNat + 1), ← Nat.div_add_mod j (t.run.toNat + 1), e1, h3]
theorem sts_nodup (t : Twn) : (sts t).Nodup := by
  unfold sts List.Nodup
  rw [List.pairwise_map]
  exact List.Pairwise.imp (fun h e => h (staAt_inj e)) List.nodup_range
def Same (t : Twn) (y y' : List Int) : Prop := ∀ s, s.right t = true → lat y s = lat y' s
theorem keeps_congr {t : Twn} (ht : t.ok) {y y' : List Int} (h : Same t y y') {s : Sta} (hs : s.right t = true) {q : Rn} (hq : q ∈ t.rats) (n : Int) : t.keeps y s q n = t.keeps y' s q n := by
  unfold Twn.keeps
  cases hc : t.can s q with
  | false => rfl
  | true =>
    rw [h _ (next_right (bad := false) ht hs hq hc (by simp))]
    by_cases hd : s.dry < t.run
    · rw [h _ (next_right (bad := true) ht hs hq hc (fun _ => hd))]
    · simp [hd]
theorem tabRow_some {t : Twn} {y : List Int} {s : Sta} {x : Rw} (h : tabRow t y s = some x) : x.st = s ∧ x.lasts = lat y s ∧ lat y s ≠ -1 ∧ ∃ q, t.rat x.ration = some q ∧ q ∈ t.rats ∧ t.keeps y s q (lat y s) = true := by
  unfold tabRow at h
  cases hc : decide (lat y s = -1) with
  | true => rw [hc] at h; cases h
  | false =>
    rw [hc, cond_false] at h
    obtain ⟨k, hk, rfl⟩ := Option.map_eq_some_iff.1 h
    obtain ⟨hlt, hp, _⟩ := List.findIdx?_eq_some_iff_getElem.1 hk
    refine ⟨rfl, rfl, by simpa using hc, t.rats[k], rat_some (Int.natCast_nonneg k) (by simp [hlt]), List.getElem_mem hlt, hp⟩
theorem tabRow_no {t : Twn} {y : List Int} (hl : LSA t y) {s : Sta} (hs : s.right t = true) (h : tabRow t y s = none) : lat y s = -1 := by
  by_cases h0 : lat y s = -1
  · exact h0
  · exfalso
    obtain ⟨q, hq, hk⟩ := ls_keeps hl hs h0
    unfold tabRow at h
    simp only [h0, decide_false, cond_false, Option.map_eq_none_iff] at h
    have := List.findIdx?_eq_none_iff.1 h q hq
    rw [hk] at this; cases this
theorem scan_tab {t : Twn} (ht : t.ok) {y : List Int} (hl : LSA t y) : ∀ (l : List Sta) (y' : List Int), l.Nodup → (∀ s ∈ l, s.right t = true) → y'.length = 496 → (∀ s ∈ l, lat y' s = -1) →
    ∃ y'', feedScan t (l.filterMap (tabRow t y)) false y' = .ok (false, y'') ∧ y''.length = 496 ∧ (∀ s, s.right t = true → s ∉ l → lat y'' s = lat y' s) ∧ ∀ s ∈ l, lat y'' s = lat y s
  | [], y', _, _, hy, _ => ⟨y', rfl, hy, fun _ _ _ => rfl, fun _ h => by cases h⟩
  | s :: l, y', hd, hr, hy, hm => by
    rw [List.nodup_cons] at hd
    have hsr := hr s (by simp)
    cases hrow : tabRow t y s with
    | none =>
      rw [List.filterMap_cons_none hrow]
      obtain ⟨y'', h1, h2, h3, h4⟩ := scan_tab ht hl l y' hd.2 (fun s h => hr s (by simp [h])) hy (fun s h => hm s (by simp [h]))
      refine ⟨y'', h1, h2, fun u hu hn => h3 u hu (fun h => hn (by simp [h])), fun u hu => ?_⟩
      rcases List.mem_cons.1 hu with rfl | hu
      · rw [h3 u hsr hd.1, hm u (by simp), tabRow_no hl hsr hrow]
      · exact h4 u hu
    | some x =>
      obtain ⟨e1, e2, e3, q, hq, hqm, hk⟩ := tabRow_some hrow
      rw [List.filterMap_cons_some hrow]
      have hcan : t.can s q = true := by unfold Twn.keeps at hk; simp only [Bool.and_eq_true] at hk; exact hk.1.1
      have hrg := ls_range hl hsr
      have hib : inb x.lasts 0 1000000 = true := by rw [e2]; simp only [inb, Bool.and_eq_true, decide_eq_true_eq]; omega
      have hix := ix_lt ht hsr
      obtain ⟨y'', h1, h2, h3, h4⟩ := scan_tab ht hl l (y'.set s.ix (lat y s)) hd.2 (fun s h => hr s (by simp [h])) (by simpa using hy) (fun u h => by
        rw [lat_set_ne (fun e => by have := ix_inj ht hsr (hr u (by simp [h])) e; subst this; exact hd.1 h)]
        exact hm u (by simp [h]))
      refine ⟨y'', ?_, h2, fun u hu hn => ?_, fun u hu => ?_⟩
      · unfold feedScan
        rw [e1, hsr, hib, hq]
        simp only [Bool.not_true, Bool.or_self, cond_false, hcan, e2, hm s (by simp), ne_eq, not_true_eq_false, decide_false]
        exact h1
      · rw [h3 u hu (fun h => hn (by simp [h])), lat_set_ne (fun e => by have := ix_inj ht hsr hu e; subst this; exact hn (by simp))]
      · rcases List.mem_cons.1 hu with rfl | hu
        · rw [h3 u hsr hd.1, lat_set_self (by rw [hy]; exact hix)]
        · exact h4 u hu
theorem nev_get {t : Twn} (ht : t.ok) (v : Int) : ∀ (l : List Sta) (y : List Int), y.length = 496 → (∀ s ∈ l, s ∈ sts t) → ∀ s ∈ sts t, (s ∈ l ∨ lat y s = v) → lat (l.foldl (fun y s => y.set s.ix v) y) s = v
  | [], _, _, _, _, _, h => by rcases h with h | h; cases h; exact h
  | u :: l, y, hy, hl, s, hs, h => by
    rw [List.foldl_cons]
    refine nev_get ht v l _ (by simpa using hy) (fun s hs => hl s (by simp [hs])) s hs ?_
    by_cases he : u.ix = s.ix
    · right
      have := ix_inj ht (sts_right ht (hl u (by simp))) (sts_right ht hs) he
      subst this
      exact lat_set_self (by rw [hy]; exact ix_lt ht (sts_right ht hs))
    · rcases h with h | h
      · rcases List.mem_cons.1 h with rfl | h
        · exact absurd rfl he
        · exact .inl h
      · right; rw [lat_set_ne he]; exact h
theorem nevY_get {t : Twn} (ht : t.ok) {s : Sta} (hs : s ∈ sts t) : lat (nevY t) s = -1 := nev_get ht (-1) (sts t) _ List.length_replicate (fun _ h => h) s hs (.inl hs)
theorem nevY_len (t : Twn) : (nevY t).length = 496 := by rw [nevY, setY_len, List.length_replicate]
theorem feed_tab {t : Twn} (h0 : t.check = 0) {y : List Int} (hl : LSA t y) (hn : lat y t.now ≠ -1) : feedR t (tab t y) = (lat y t.now, 0) := by
  have ht := (ok_of_check h0).1
  obtain ⟨y'', h1, h2, _, h4⟩ := scan_tab ht hl (sts t) (nevY t) (sts_nodup t) (fun s hs => sts_right ht hs) (nevY_len t) (fun s hs => nevY_get ht hs)
  have hlen : (tab t y).length ≤ 496 := Nat.le_trans (List.length_filterMap_le _ _) (by rw [sts_len]; exact nst_le ht)
  have hsame : Same t y y'' := fun s hs => (h4 s (right_sts hs)).symm
  rw [feedR_ok h0 hlen h1]
  have hall : (tab t y).all (tabKeeps t y'') = true := by
    refine List.all_eq_true.2 fun x hx => ?_
    obtain ⟨s, hs, hrow⟩ := List.mem_filterMap.1 hx
    obtain ⟨e1, e2, e3, q, hq, hqm, hk⟩ := tabRow_some hrow
    unfold tabKeeps
    rw [hq]
    show t.keeps y'' x.st q x.lasts = true
    rw [e1, e2, ← keeps_congr ht hsame (sts_right ht hs) hqm]
    exact hk
  unfold feedEnd
  rw [hall, ← hsame t.now ht.now]
  simp [hn]
def earlier (l : List (Sta × Int)) (s : Sta) (m : Int) : Bool := l.any fun p => decide (p.1 = s) && decide (p.2 ≤ m)
def fateOk (t : Twn) (pre : List (Sta × Int)) (p : Sta × Int) : Bool :=
  t.rats.all fun q => !(t.can p.1 q) || (earlier pre (t.next p.1 q false) p.2 || (decide (p.1.dry < t.run) && earlier pre (t.next p.1 q true) (p.2 - 1)))
def fatesOk (t : Twn) : List (Sta × Int) → List (Sta × Int) → Bool
  | _, [] => true
  | pre, p :: l => fateOk t pre p && fatesOk t (pre ++ [p]) l
theorem fate_sound {t : Twn} {pre : List (Sta × Int)} (hpre : ∀ p ∈ pre, 0 ≤ p.2 ∧ ∀ n : Nat, p.2 ≤ n → ¬ Srv t n p.1) {p : Sta × Int} (hp : fateOk t pre p = true) {n : Nat} (hn : p.2 ≤ n) : ¬ Srv t n p.1 := by
  intro h
  obtain ⟨_, q, hq, hc, hg, hb⟩ := srv_clo t n _ h
  have h1 := List.all_eq_true.1 hp q hq
  simp only [hc, Bool.not_true, Bool.false_or, Bool.or_eq_true, Bool.and_eq_true, decide_eq_true_eq] at h1
  rcases h1 with h1 | ⟨hd, h1⟩
  · obtain ⟨e, he, hee⟩ := List.any_eq_true.1 h1
    simp only [Bool.and_eq_true, decide_eq_true_eq] at hee
    have := (hpre e he).2 n (by omega)
    rw [hee.1] at this
    exact this hg
  · obtain ⟨e, he, hee⟩ := List.any_eq_true.1 h1
    simp only [Bool.and_eq_true, decide_eq_true_eq] at hee
    have h2 := hpre e he
    cases n with
    | zero => have := h2.1; omega
    | succ m =>
      rcases hb with hb | hb | hb
      · omega
      · exact hb hd
      · have := h2.2 m (by omega)
        rw [hee.1] at this
        exact this hb
theorem fates_sound {t : Twn} : ∀ (l pre : List (Sta × Int)), (∀ p ∈ pre, 0 ≤ p.2 ∧ ∀ n : Nat, p.2 ≤ n → ¬ Srv t n p.1) → (∀ p ∈ l, 0 ≤ p.2) → fatesOk t pre l = true → ∀ p ∈ l, ∀ n : Nat, p.2 ≤ n → ¬ Srv t n p.1
  | [], _, _, _, _, _, h => by cases h
  | a :: l, pre, hpre, h0, h, p, hp => by
    unfold fatesOk at h
    simp only [Bool.and_eq_true] at h
    have ha : ∀ n : Nat, a.2 ≤ n → ¬ Srv t n a.1 := fun n hn => fate_sound hpre h.1 hn
    rcases List.mem_cons.1 hp with rfl | hp
    · exact ha
    · exact fates_sound l (pre ++ [a]) (fun e he => by
        rcases List.mem_append.1 he with he | he
        · exact hpre e he
        · obtain rfl := List.mem_singleton.1 he
          exact ⟨h0 e (by simp), ha⟩) (fun e he => h0 e (by simp [he])) h.2 p hp
def mill : Twn := ⟨⟨8, 0, 0⟩, 12, 4, 1, 2, 6, 0, 0, [⟨4, 10⟩, ⟨2, 16⟩]⟩
def millYs : List Int := [-1, -1, -1, -1, -1, -1, -1, -1, -1, -1, -1, -1, 0, 0, 1, -1, -1, -1, 0, 0, 1, -1, -1, -1, 0, 0, 1, 0, 0, 1, 0, 0, 1, 0, 0, 1, 1, 2, 3, 1, 2, 3, 1, 2, 3, 1, 2, 3, 3, 4, 5, 1, 2, 3, 3, 4, 5, 1, 2, 3, 3, 4, 5, 3, 4, 5, 3, 4, 5, 3, 4, 5, 5, 5, 5, 5, 5, 5]
def millFl : List (Sta × Int) := [(⟨0, 0, 0⟩, 0), (⟨0, 0, 1⟩, 0), (⟨0, 0, 2⟩, 0), (⟨0, 1, 0⟩, 0), (⟨0, 1, 1⟩, 0), (⟨0, 1, 2⟩, 0), (⟨1, 0, 0⟩, 0), (⟨1, 0, 1⟩, 0), (⟨1, 0, 2⟩, 0), (⟨1, 1, 0⟩, 0), (⟨1, 1, 1⟩, 0), (⟨1, 1, 2⟩, 0), (⟨2, 1, 0⟩, 0), (⟨2, 1, 1⟩, 0), (⟨2, 1, 2⟩, 0), (⟨3, 1, 0⟩, 0), (⟨3, 1, 1⟩, 0), (⟨3, 1, 2⟩, 0), (⟨2, 0, 0⟩, 1), (⟨2, 0, 1⟩, 1), (⟨3, 0, 0⟩, 1), (⟨3, 0, 1⟩, 1), (⟨4, 0, 0⟩, 1), (⟨4, 0, 1⟩, 1), (⟨4, 1, 0⟩, 1), (⟨4, 1, 1⟩, 1), (⟨5, 0, 0⟩, 1), (⟨5, 0, 1⟩, 1), (⟨5, 1, 0⟩, 1), (⟨5, 1, 1⟩, 1), (⟨6, 0, 0⟩, 2), (⟨6, 1, 0⟩, 2), (⟨7, 0, 0⟩, 2), (⟨7, 1, 0⟩, 2), (⟨8, 1, 0⟩, 2), (⟨9, 1, 0⟩, 2), (⟨2, 0, 2⟩, 2), (⟨3, 0, 2⟩, 2), (⟨4, 0, 2⟩, 2), (⟨4, 1, 2⟩, 2), (⟨5, 0, 2⟩, 2), (⟨5, 1, 2⟩, 2), (⟨6, 0, 1⟩, 3), (⟨6, 1, 1⟩, 3), (⟨7, 0, 1⟩, 3), (⟨7, 1, 1⟩, 3), (⟨8, 1, 1⟩, 3), (⟨9, 1, 1⟩, 3), (⟨8, 0, 0⟩, 4), (⟨9, 0, 0⟩, 4), (⟨10, 0, 0⟩, 4), (⟨10, 1, 0⟩, 4), (⟨11, 0, 0⟩, 4), (⟨11, 1, 0⟩, 4), (⟨6, 0, 2⟩, 4), (⟨6, 1, 2⟩, 4), (⟨7, 0, 2⟩, 4), (⟨7, 1, 2⟩, 4), (⟨8, 1, 2⟩, 4), (⟨9, 1, 2⟩, 4), (⟨8, 0, 1⟩, 5), (⟨9, 0, 1⟩, 5), (⟨10, 0, 1⟩, 5), (⟨10, 1, 1⟩, 5), (⟨11, 0, 1⟩, 5), (⟨11, 1, 1⟩, 5), (⟨12, 0, 0⟩, 6), (⟨12, 1, 0⟩, 6), (⟨12, 1, 1⟩, 6), (⟨12, 1, 2⟩, 6), (⟨8, 0, 2⟩, 6), (⟨9, 0, 2⟩, 6), (⟨10, 0, 2⟩, 6), (⟨10, 1, 2⟩, 6), (⟨11, 0, 2⟩, 6), (⟨11, 1, 2⟩, 6), (⟨12, 0, 1⟩, 6), (⟨12, 0, 2⟩, 6)]
def millL (s : Sta) : Int := millYs.getD ((s.stock.toNat * 2 + s.short.toNat) * 3 + s.dry.toNat) 0
def millLow : Bool := (sts mill).all fun s => (List.range 6).all fun n => !(decide ((n : Int) ≤ millL s)) || mill.rats.any fun q =>
  mill.can s q && decide ((n : Int) ≤ millL (mill.next s q false)) && (decide (n = 0) || !(decide (s.dry < mill.run)) || decide ((n : Int) - 1 ≤ millL (mill.next s q true)))
theorem mill_check : mill.check = 0 := by decide +kernel
theorem mill_low : millLow = true := by decide +kernel
theorem mill_high : fatesOk mill [] millFl = true := by decide +kernel
theorem mill_pos : (millFl.all fun p => decide (0 ≤ p.2)) = true := by decide +kernel
theorem mill_all : ((sts mill).all fun s => millFl.contains (s, millL s + 1) && decide (-1 ≤ millL s) && decide (millL s ≤ 5)) = true := by decide +kernel
theorem mill_ok : mill.ok := (ok_of_check mill_check).1
theorem mill_srv : ∀ n : Nat, n ≤ 5 → ∀ s, s.right mill = true → (n : Int) ≤ millL s → Srv mill n s := by
  intro n
  induction n with
  | zero =>
    intro _ s hs hl
    refine srv_max (X := fun s => s.right mill = true ∧ ((0 : Nat) : Int) ≤ millL s) (fun u ⟨hu, hul⟩ => ?_) ⟨hs, hl⟩
    have h := List.all_eq_true.1 (List.all_eq_true.1 mill_low u (right_sts hu)) 0 (by simp)
    simp only [hul, decide_true, Bool.not_true, Bool.false_or] at h
    obtain ⟨q, hq, h⟩ := List.any_eq_true.1 h
    simp only [Bool.and_eq_true, decide_eq_true_eq] at h
    exact ⟨hu, q, hq, h.1.1, ⟨next_right (bad := false) mill_ok hu hq h.1.1 (by simp), h.1.2⟩, .inl rfl⟩
  | succ n ih =>
    intro hn s hs hl
    refine srv_max (X := fun s => s.right mill = true ∧ ((n + 1 : Nat) : Int) ≤ millL s) (fun u ⟨hu, hul⟩ => ?_) ⟨hs, hl⟩
    have h := List.all_eq_true.1 (List.all_eq_true.1 mill_low u (right_sts hu)) (n + 1) (by simp; omega)
    simp only [hul, decide_true, Bool.not_true, Bool.false_or] at h
    obtain ⟨q, hq, h⟩ := List.any_eq_true.1 h
    simp only [Bool.and_eq_true, Bool.or_eq_true, decide_eq_true_eq, Bool.not_eq_true', decide_eq_false_iff_not] at h
    refine ⟨hu, q, hq, h.1.1, ⟨next_right (bad := false) mill_ok hu hq h.1.1 (by simp), h.1.2⟩, ?_⟩
    by_cases hd : u.dry < mill.run
    · refine .inr (.inr (ih (by omega) _ (next_right (bad := true) mill_ok hu hq h.1.1 (fun _ => hd)) ?_))
      rcases h.2 with (h | h) | h
      · omega
      · exact absurd hd h
      · omega
    · exact .inr (.inl hd)
theorem mill_ls {s : Sta} (hs : s.right mill = true) : LS mill s (millL s) := by
  have h := List.all_eq_true.1 mill_all s (right_sts hs)
  simp only [Bool.and_eq_true, decide_eq_true_eq] at h
  refine .inr ⟨(millL s + 1).toNat, by omega, by omega, ?_, fun j hj => mill_srv j (by omega) s hs (by omega)⟩
  have hm := List.contains_iff_mem.1 h.1.1
  exact fates_sound millFl [] (fun _ h => by cases h) (fun p hp => by simpa using List.all_eq_true.1 mill_pos p hp) mill_high _ hm _ (by simp only; omega)
theorem mill_lat {σ : Sv} (h : Solv mill σ) {s : Sta} (hs : s.right mill = true) : lat σ.y s = millL s := (solv_spec mill_ok h hs).uniq (mill_ls hs)
def millY : List Int := (sts mill).foldl (fun y s => y.set s.ix (millL s)) (List.replicate 496 0)
theorem millY_all : ((sts mill).all fun s => decide (lat millY s = millL s)) = true := by decide +kernel
theorem mill_same {σ : Sv} (h : Solv mill σ) : Same mill σ.y millY := fun s hs => (mill_lat h hs).trans (Eq.symm (by simpa using List.all_eq_true.1 millY_all s (right_sts hs)))
theorem find_congr {α : Type} {p q : α → Bool} : ∀ {l : List α}, (∀ x ∈ l, p x = q x) → l.find? p = l.find? q
  | [], _ => rfl
  | a :: l, h => by rw [List.find?_cons, List.find?_cons, h a (by simp), find_congr fun x hx => h x (by simp [hx])]
theorem solv_lsa {t : Twn} (ht : t.ok) {σ : Sv} (h : Solv t σ) : LSA t σ.y := fun _ hs => solv_spec ht h hs
end Go.Proofs.Ytaldphhdkmchhaa
namespace Go.Proofs.Ytaldphhdkmchhaa
set_option linter.unusedSimpArgs false
set_option linter.unusedVariables false
open Go
theorem cal25 : cal Try.prog 25 = true := by kernel_rfl
theorem cal26 : cal Try.prog 26 = true := by kernel_rfl
theorem cal31 : cal Try.prog 31 = true := by kernel_rfl
theorem cal36 : cal Try.prog 36 = true := by kernel_rfl
theorem cal42 : cal Try.prog 42 = true := by kernel_rfl
theorem cal44 : cal Try.prog 44 = true := by kernel_rfl
theorem cal45 : cal Try.prog 45 = true := by kernel_rfl
theorem cal80 : cal Try.prog 80 = true := by kernel_rfl
theorem cal81 : cal Try.prog 81 = true := by kernel_rfl
theorem cn26 : cellN Try.prog 26 = some 11 := by kernel_rfl
theorem pl26 : placeL Try.prog 26 = some [(0, 3), (3, 1), (4, 1), (5, 1), (6, 1), (7, 1), (8, 1), (9, 1), (10, 1)] := by kernel_rfl
theorem pl91 : placeL Try.prog 91 = some [(0, 1), (1, 1)] := by kernel_rfl
theorem sl24 : slE Try.prog 24 = some (91, 2) := by kernel_rfl
theorem zl26 : zeroL Try.prog 26 = some ([.int .i64 0, .int .i64 0, .int .i64 0, .int .i64 0, .int .i64 0, .int .i64 0, .int .i64 0, .int .i64 0, .int .i64 0, .int .i64 0, .slice none 0 0]) := by kernel_rfl
theorem pickU_congr {p p' : Rn → Bool} {l : List Rn} (h : ∀ q ∈ l, p q = p' q) (k : Nat) : pickU p l k = pickU p' l k := by
  unfold pickU
  congr 1
  refine List.filter_congr fun i _ => ?_
  cases hq : l[i]? with
  | none => rfl
  | some q => exact h q (List.mem_of_getElem? hq)
theorem mill_pick {σ : Sv} (h : Solv mill σ) : pickU (fun q => mill.keeps σ.y mill.now q (lat σ.y mill.now)) mill.rats mill.rats.length = [1] := by
  have e : lat σ.y mill.now = 3 := (mill_lat h mill_ok.now).trans (by decide)
  rw [e, pickU_congr (p' := fun q => mill.keeps millY mill.now q 3) fun q hq => keeps_congr mill_ok (mill_same h) mill_ok.now hq 3]
  decide +kernel
theorem mill_need {σ : Sv} (h : Solv mill σ) : needV mill σ.y 4 = .tuple #[.int .i64 12, .int .i64 0] := by
  have e : (sts mill).find? (needP mill σ.y 4) = some ⟨12, 0, 0⟩ := by
    rw [find_congr (q := needP mill millY 4) fun s hs => by unfold needP; rw [mill_same h s (sts_right mill_ok hs)]]
    decide +kernel
  unfold needV; rw [e]
theorem mill_earn : earnV mill 3 = .tuple #[.int .i64 104, .int .i64 0] := by
  have e : ef mill (3 : Int).toNat mill.now = 104 := by decide +kernel
  unfold earnV; rw [e]; rfl
theorem mill_share {j : Nat} (h : (shIt [2, 7, 5] j (shInit 11 [2, 7, 5])).g = false) : (shIt [2, 7, 5] j (shInit 11 [2, 7, 5])).o = [2, 5, 4] := by
  rw [shIt_uniq h (k := 6) (by decide +kernel)]
  decide +kernel
theorem mill_lasts {σ : Sv} (h : Solv mill σ) : lat σ.y mill.now = 3 := (mill_lat h mill_ok.now).trans (by decide)
theorem mill_feed {σ : Sv} (h : Solv mill σ) : feedR mill (tab mill σ.y) = (3, 0) := by
  have e := mill_lasts h
  rw [feed_tab mill_check (solv_lsa mill_ok h) (by rw [e]; decide), e]
theorem tab_len {t : Twn} (ht : t.ok) (y : List Int) : (tab t y).length ≤ 496 := Nat.le_trans (List.length_filterMap_le _ _) (by rw [sts_len]; exact nst_le ht)
theorem c_Mill (H : Heap) (R : Facts) :
    Fn Try.prog 80 [] H R (fun v H' R' => ∃ b, v = mill.v (.slice (some ⟨b, 0, none⟩) 2 2) ∧ H' = H ∧ R' = RowsA (some ⟨b, 0, none⟩) 2 (rrows mill.rats) :: R) := by
 refine fn_of Try.func80 rfl Try.ntmps80 rfl ?_
 refine sy_seq ?_
 refine sy_tx' [0] rfl ?_
 refine alc rfl zl26 rfl (fun b0 => ?_)
 refine sy_seq ?_
 refine sy_tx' [0, 1, 2, 3, 4, 5] rfl ?_
 refine sp rfl (PE.build (out := [_, _, _]) pl23 zl23 rfl rfl) rfl ?_
 refine sp rfl (PE.build (out := [_, _]) pl91 zl91 rfl rfl) rfl ?_
 refine sp rfl (PE.build (out := [_, _]) pl91 zl91 rfl rfl) rfl ?_
 refine bsl (out := [_, _, _, _]) rfl sl24 zl91 rfl rfl rfl rfl rfl rfl (fun b4 => ?_)
 refine sp rfl (PE.build (out := [_, _, _, _, _, _, _, _, _, _, _]) pl26 zl26 rfl rfl) rfl ?_
 refine sto rfl rfl rfl cn26 rfl rfl rfl rfl ?_
 refine sy_ret ?_
 exact sy_return (vs := [_]) rfl (.cons (RV.cell rfl (lhA [_, _, _, _, _, _, _, _, _, _, _] ag26 rfl rfl rfl)) .nil) rfl ⟨b4, rfl, rfl, rfl⟩ (fun w h => (St.rows (sz := 2) (rows := rrows mill.rats) (rest := []) h (by decide)).tail)
theorem c_awake (H : Heap) (R : Facts) :
    FnV Try.prog 16 [] H R (.bool true) := by
 refine fn_of Try.func16 rfl Try.ntmps16 rfl ?_
 refine sy_seq ?_
 refine sy_tx' [0] rfl ?_
 refine sp rfl (PE.assign rfl) rfl ?_
 refine sy_seq ?_
 refine sy_tx' [0, 1, 2] rfl ?_
 refine cl rfl cal80 rfl rfl (c_Mill _ _) ?_
 rintro _ _ _ ⟨bm, rfl, rfl, rfl⟩
 refine alc rfl zl26 rfl (fun b1 => ?_)
 refine sto rfl rfl rfl cn26 rfl rfl rfl rfl ?_
 refine sy_seq ?_
 refine sy_tx' [0, 1, 2, 3, 4, 5, 6] rfl ?_
 refine spL rfl rfl (lhA [_, _, _, _, _, _, _, _, _, _, _] ag26 rfl rfl rfl) rfl ?_
 refine cl rfl cal42 rfl rfl (c_Lasts mill (by decide) bm 0 2 _ _) ?_
 rintro _ _ _ ⟨h, rfl, rfl⟩
 obtain ⟨_, σ1, hσ1, rfl⟩ := h.resolve_left (fun h => h.1 mill_check)
 rw [mill_lasts hσ1]
 refine sp rfl (PE.move rfl) rfl ?_
 refine sp rfl (PE.extract rfl rfl) rfl ?_
 refine sp rfl (PE.extract rfl rfl) rfl ?_
 refine sp rfl (PE.assign rfl) rfl ?_
 refine sp rfl (PE.assign rfl) rfl ?_
 refine sy_seq ?_
 refine sy_tx' [0, 1, 2, 3, 4, 5, 6] rfl ?_
 refine spL rfl rfl (lhA [_, _, _, _, _, _, _, _, _, _, _] ag26 rfl rfl rfl) rfl ?_
 refine cl rfl cal44 rfl rfl (c_Choose mill (by decide) bm 0 2 _ _) ?_
 rintro _ _ _ ⟨h, rfl⟩
 obtain ⟨_, σ2, hσ2, h⟩ := h.resolve_left (fun h => h.1 mill_check)
 obtain ⟨_, o, rfl, rfl⟩ := h.resolve_left (fun h => by have := h.1; rw [mill_lasts hσ2] at this; cases this)
 obtain ⟨ax, cx, ho, hfr⟩ := o.freeze
 rw [ho]
 refine Sy.heap (fun w h => hfr h) ?_
 rw [mill_pick hσ2]
 refine sp rfl (PE.move rfl) rfl ?_
 refine sp rfl (PE.extract rfl rfl) rfl ?_
 refine sp rfl (PE.extract rfl rfl) rfl ?_
 refine sp rfl (PE.assign rfl) rfl ?_
 refine sp rfl (PE.assign rfl) rfl ?_
 refine sy_seq ?_
 refine sy_tx' [0, 1, 2, 3, 4, 5, 6] rfl ?_
 refine spL rfl rfl (lhA [_, _, _, _, _, _, _, _, _, _, _] ag26 rfl rfl rfl) rfl ?_
 refine cl rfl cal45 rfl rfl (c_Needs mill (by decide) 4 bm 0 2 _ _) ?_
 rintro _ _ _ ⟨h, rfl, rfl⟩
 obtain ⟨_, _, σ3, hσ3, rfl⟩ := (h.resolve_left (fun h => h.1 mill_check)).resolve_left (fun h => by have := h.2.1; revert this; decide)
 rw [mill_need hσ3]
 refine sp rfl (PE.move rfl) rfl ?_
 refine sp rfl (PE.extract rfl rfl) rfl ?_
 refine sp rfl (PE.extract rfl rfl) rfl ?_
 refine sp rfl (PE.assign rfl) rfl ?_
 refine sp rfl (PE.assign rfl) rfl ?_
 refine sy_seq ?_
 refine sy_tx' [0, 1, 2, 3, 4, 5, 6] rfl ?_
 refine spL rfl rfl (lhA [_, _, _, _, _, _, _, _, _, _, _] ag26 rfl rfl rfl) rfl ?_
 refine cl rfl cal31 rfl rfl (c_Earns mill (by decide) 3 bm 0 2 _ _) ?_
 rintro _ _ _ ⟨h, rfl, rfl⟩
 obtain ⟨_, _, rfl⟩ := (h.resolve_left (fun h => h.1 mill_check)).resolve_left (fun h => by have := h.2.1; revert this; decide)
 rw [mill_earn]
 refine sp rfl (PE.move rfl) rfl ?_
 refine sp rfl (PE.extract rfl rfl) rfl ?_
 refine sp rfl (PE.extract rfl rfl) rfl ?_
 refine sp rfl (PE.assign rfl) rfl ?_
 refine sp rfl (PE.assign rfl) rfl ?_
 refine sy_seq ?_
 refine sy_tx' [0, 1, 2, 3, 4, 5, 6] rfl ?_
 refine bsl (out := [_, _, _]) rfl sl42 zl3 rfl rfl rfl rfl rfl rfl (fun b38 => ?_)
 refine Sy.heap (fun w h => St.intRows (l := [2, 7, 5]) h) ?_
 refine cl rfl cal36 rfl rfl (c_Share 11 [2, 7, 5] (some ⟨b38, 0, none⟩) 3 (by decide) _ _) ?_
 rintro _ _ _ ⟨h, rfl⟩
 obtain ⟨_, j, bs, hg, rfl, rfl⟩ := h.resolve_left (fun h => h.1 (by decide))
 rw [mill_share hg]
 refine Sy.heap (fun w h => St.intRows (l := [2, 5, 4]) h) ?_
 refine sp rfl (PE.move rfl) rfl ?_
 refine sp rfl (PE.extract rfl rfl) rfl ?_
 refine sp rfl (PE.extract rfl rfl) rfl ?_
 refine sp rfl (PE.assign rfl) rfl ?_
 refine sp rfl (PE.assign rfl) rfl ?_
 refine sy_seq ?_
 refine sy_tx' [0, 1, 2, 3, 4, 5, 6] rfl ?_
 refine spL rfl rfl (lhA [_, _, _, _, _, _, _, _, _, _, _] ag26 rfl rfl rfl) rfl ?_
 refine cl rfl cal26 rfl rfl (c_Table mill (by decide) bm 0 2 _ _) ?_
 rintro _ _ _ ⟨h, rfl⟩
 obtain ⟨_, σ4, hσ4, h⟩ := h.resolve_left (fun h => h.1 mill_check)
 obtain ⟨_, o, rfl, rfl⟩ := h.resolve_left (fun h => by have := h.1; rw [mill_lasts hσ4] at this; cases this)
 obtain ⟨at', ct, ho, hfr⟩ := o.freeze
 rw [ho, show (trows (tab mill σ4.y)).length = (tab mill σ4.y).length from List.length_map _]
 refine Sy.heap (fun w h => hfr h) ?_
 have htl := tab_len mill_ok σ4.y
 refine sp rfl (PE.move rfl) rfl ?_
 refine sp rfl (PE.extract rfl rfl) rfl ?_
 refine sp rfl (PE.extract rfl rfl) rfl ?_
 refine sp rfl (PE.assign rfl) rfl ?_
 refine sp rfl (PE.assign rfl) rfl ?_
 refine sy_seq ?_
 refine sy_tx' [0, 1, 2, 3, 4, 5, 6, 7] rfl ?_
 refine spL rfl rfl (lhA [_, _, _, _, _, _, _, _, _, _, _] ag26 rfl rfl rfl) rfl ?_
 refine sp rfl (PE.move rfl) rfl ?_
 refine cl rfl cal25 rfl rfl (c_Feeds mill (by decide) (tab mill σ4.y) at' ct (by omega) bm 0 2 _ _) ?_
 rintro _ _ _ ⟨rfl, rfl, rfl⟩
 rw [mill_feed hσ4]
 refine sp rfl (PE.move rfl) rfl ?_
 refine sp rfl (PE.extract rfl rfl) rfl ?_
 refine sp rfl (PE.extract rfl rfl) rfl ?_
 refine sp rfl (PE.assign rfl) rfl ?_
 refine sp rfl (PE.assign rfl) rfl ?_
 refine sy_seq ?_
 refine sy_tx' [0, 1, 2, 3, 4, 5, 6, 7, 8, 9, 10, 11, 12, 13, 14, 15, 16, 17, 18, 19, 20, 21, 22, 23, 24, 25, 26, 27, 28, 29, 30, 31, 32, 33, 34, 35, 36, 37, 38, 39, 40, 41, 42, 43, 44, 45, 46, 47, 48, 49, 50, 51, 52] rfl ?_
 refine sp rfl (PE.move rfl) rfl ?_
 refine sp rfl (PE.eql rfl rfl) rfl ?_
 refine sp rfl (PE.move rfl) rfl ?_
 refine spG rfl rfl rfl rfl (PE.move rfl) rfl ?_
 refine spG rfl rfl rfl rfl (PE.eql rfl rfl) rfl ?_
 refine sp rfl (PE.pick rfl rfl rfl) rfl ?_
 refine sp rfl (PE.move rfl) rfl ?_
 refine spG rfl rfl rfl rfl (PE.move rfl) rfl ?_
 refine spG rfl rfl rfl rfl (PE.eql rfl rfl) rfl ?_
 refine sp rfl (PE.pick rfl rfl rfl) rfl ?_
 refine sp rfl (PE.move rfl) rfl ?_
 refine spG rfl rfl rfl rfl (PE.move rfl) rfl ?_
 refine spG rfl rfl rfl rfl (PE.eql rfl rfl) rfl ?_
 refine sp rfl (PE.pick rfl rfl rfl) rfl ?_
 refine sp rfl (PE.move rfl) rfl ?_
 refine spG rfl rfl rfl rfl (PE.move rfl) rfl ?_
 refine spG rfl rfl rfl rfl (PE.eql rfl rfl) rfl ?_
 refine sp rfl (PE.pick rfl rfl rfl) rfl ?_
 refine sp rfl (PE.move rfl) rfl ?_
 refine spG rfl rfl rfl rfl (PE.move rfl) rfl ?_
 refine spG rfl rfl rfl rfl (PE.eql rfl rfl) rfl ?_
 refine sp rfl (PE.pick rfl rfl rfl) rfl ?_
 refine sp rfl (PE.move rfl) rfl ?_
 refine spG rfl rfl rfl rfl (PE.move rfl) rfl ?_
 refine spG rfl rfl rfl rfl (PE.eql rfl rfl) rfl ?_
 refine sp rfl (PE.pick rfl rfl rfl) rfl ?_
 refine sp rfl (PE.move rfl) rfl ?_
 refine spG rfl rfl rfl rfl (PE.move rfl) rfl ?_
 refine spG rfl rfl rfl rfl (PE.eql rfl rfl) rfl ?_
 refine sp rfl (PE.pick rfl rfl rfl) rfl ?_
 refine sp rfl (PE.move rfl) rfl ?_
 refine spG rfl rfl rfl rfl (PE.move rfl) rfl ?_
 refine bslG (out := [_]) rfl rfl rfl rfl sl42 zl3 rfl rfl rfl rfl rfl rfl (fun b85 => ?_)
 refine Sy.heap (fun w h => St.intRows (l := [1]) h) ?_
 refine clVG rfl rfl rfl rfl cal81 rfl rfl (c_eq_int [1] [1] ax (some ⟨b85, 0, none⟩) cx 1 (by decide) (by decide) _ _) ?_
 refine sp rfl (PE.pick rfl rfl rfl) rfl ?_
 refine sp rfl (PE.move rfl) rfl ?_
 refine spG rfl rfl rfl rfl (PE.move rfl) rfl ?_
 refine spG rfl rfl rfl rfl (PE.eql rfl rfl) rfl ?_
 refine sp rfl (PE.pick rfl rfl rfl) rfl ?_
 refine sp rfl (PE.move rfl) rfl ?_
 refine spG rfl rfl rfl rfl (PE.move rfl) rfl ?_
 refine spG rfl rfl rfl rfl (PE.eql rfl rfl) rfl ?_
 refine sp rfl (PE.pick rfl rfl rfl) rfl ?_
 refine sp rfl (PE.move rfl) rfl ?_
 refine spG rfl rfl rfl rfl (PE.move rfl) rfl ?_
 refine bslG (out := [_, _, _]) rfl rfl rfl rfl sl42 zl3 rfl rfl rfl rfl rfl rfl (fun b98 => ?_)
 refine Sy.heap (fun w h => St.intRows (l := [2, 5, 4]) h) ?_
 refine clVG rfl rfl rfl rfl cal81 rfl rfl (c_eq_int [2, 5, 4] [2, 5, 4] (some ⟨bs, 0, none⟩) (some ⟨b98, 0, none⟩) 3 3 (by decide) (by decide) _ _) ?_
 refine sp rfl (PE.pick rfl rfl rfl) rfl ?_
 refine sp rfl (PE.move rfl) rfl ?_
 refine spG rfl rfl rfl rfl (PE.move rfl) rfl ?_
 refine spG rfl rfl rfl rfl (PE.eql rfl rfl) rfl ?_
 refine sp rfl (PE.pick rfl rfl rfl) rfl ?_
 refine sp rfl (PE.assign rfl) rfl ?_
 refine sy_ret ?_
 exact sy_return (vs := [_]) rfl (.cons (RV.tmp rfl) .nil) rfl ⟨rfl, rfl, rfl⟩ drp
end Go.Proofs.Ytaldphhdkmchhaa
namespace Go.Proofs.Ytaldphhdkmchhaa
set_option linter.unusedSimpArgs false
set_option linter.unusedVariables false
open Go
theorem cal16 : cal Try.prog 16 = true := by kernel_rfl
theorem ub4 : Try.prog.underlying 4 = some .bool := by kernel_rfl
end Go.Proofs.Ytaldphhdkmchhaa
namespace Go.Proofs.Ytaldphhdkmchhaa
set_option linter.unusedSimpArgs false
set_option linter.unusedVariables false
def ixr (t : Twn) (s : Sta) : Nat := (s.stock.toNat * (t.patience.toNat + 1) + s.short.toNat) * (t.run.toNat + 1) + s.dry.toNat
theorem ixr_get {t : Twn} {s : Sta} (h : s.right t = true) : (sts t)[ixr t s]? = some s ∧ ixr t s < t.nst := by
  have h1 := right_iff.1 h
  have h2 := nst_lt (t := t) (a := s.stock.toNat) (b := s.short.toNat) (c := s.dry.toNat) (by omega) (by omega) (by omega)
  refine ⟨?_, h2⟩
  rw [ixr, sts_get h2, staAt_of (by omega) (by omega)]
  obtain ⟨a, b, c⟩ := s
  simp only at h1 ⊢
  rw [Int.toNat_of_nonneg h1.1.1, Int.toNat_of_nonneg h1.2.1.1, Int.toNat_of_nonneg h1.2.2.1]
theorem ixr_lt {t : Twn} {s : Sta} (h : s.right t = true) : ixr t s < t.nst := (ixr_get h).2
theorem ixr_inj {t : Twn} {s u : Sta} (hs : s.right t = true) (hu : u.right t = true) (h : ixr t s = ixr t u) : s = u := by
  have h1 := (ixr_get hs).1
  rw [h, (ixr_get hu).1] at h1
  cases h1; rfl
theorem pickU_at {p : Rn → Bool} {l : List Rn} : ∀ (m : Nat), m ≤ l.length → (pickU p l m).length = ((l.take m).filter p).length ∧
    ∀ (k : Nat) (r : Int), (pickU p l m)[k]? = some r → ∃ q, 0 ≤ r ∧ l[r.toNat]? = some q ∧ p q = true ∧ ((l.take m).filter p)[k]? = some q
  | 0, _ => ⟨by simp [pickU], fun k r h => by simp [pickU] at h⟩
  | m + 1, hm => by
    obtain ⟨h1, h2⟩ := pickU_at (p := p) (l := l) m (by omega)
    obtain ⟨q, hq⟩ : ∃ q, l[m]? = some q := ⟨_, List.getElem?_eq_getElem (by omega)⟩
    rw [pickU_succ hq, List.take_add_one, hq, Option.toList_some, List.filter_append]
    cases hp : p q with
    | false => simp only [cond_false, List.filter_cons, hp, Bool.false_eq_true, if_false, List.filter_nil, List.append_nil]; exact ⟨h1, h2⟩
    | true =>
      simp only [cond_true, List.filter_cons, hp, if_true, List.filter_nil]
      refine ⟨by simp [h1], fun k r h => ?_⟩
      rcases Nat.lt_or_ge k (pickU p l m).length with h3 | h3
      · rw [List.getElem?_append_left h3] at h
        obtain ⟨q', a, b, c, d⟩ := h2 k r h
        exact ⟨q', a, b, c, by rw [List.getElem?_append_left (by omega)]; exact d⟩
      · rw [List.getElem?_append_right h3] at h
        have hk : k - (pickU p l m).length = 0 := by
          rcases Nat.eq_zero_or_pos (k - (pickU p l m).length) with h4 | h4
          · exact h4
          · rw [List.getElem?_eq_none (by simp; omega)] at h; cases h
        rw [hk] at h
        simp only [List.getElem?_cons_zero, Option.some.injEq] at h
        subst h
        refine ⟨q, by omega, by simpa using hq, hp, ?_⟩
        rw [List.getElem?_append_right (by omega), ← h1, hk]; rfl
theorem can_le {t : Twn} {s : Sta} {q : Rn} (h : t.can s q = true) : q.sacks ≤ s.stock := by
  simp only [Twn.can, Bool.and_eq_true, decide_eq_true_eq] at h; exact h.1
def bo (l : List Bool) (i : Nat) : Bool := l.getD i false
def io (l : List Int) (i : Nat) : Int := l.getD i 0
theorem io_set {l : List Int} {i j : Nat} {x : Int} (h : i < l.length) : io (l.set i x) j = bif decide (i = j) then x else io l j := by
  unfold io
  simp only [List.getD, List.getElem?_set]
  by_cases e : i = j
  · subst e; simp [h]
  · simp [e]
structure Rel (t : Twn) (la y : List Int) : Prop where
  len : la.length = t.nst
  ylen : y.length = 496
  at_ : ∀ u, u.right t = true → io la (ixr t u) = lat y u
theorem Rel.set {t : Twn} (ht : t.ok) {la y : List Int} (h : Rel t la y) {s : Sta} (hs : s.right t = true) (v : Int) : Rel t (la.set (ixr t s) v) (y.set s.ix v) where
  len := by rw [List.length_set]; exact h.len
  ylen := by rw [List.length_set]; exact h.ylen
  at_ := fun u hu => by
    rw [io_set (by rw [h.len]; exact ixr_lt hs)]
    by_cases e : ixr t s = ixr t u
    · obtain rfl := ixr_inj hs hu e
      simp only [decide_true, cond_true]
      rw [lat_set_self (by rw [h.ylen]; exact ix_lt ht hs)]
    · simp only [e, decide_false, cond_false]
      rw [lat_set_ne (fun e2 => e (by rw [ix_inj ht hs hu e2])), h.at_ u hu]
def mkY (g : Sta → Int) : List Int := (List.range 496).map fun (i : Nat) => g ⟨(i / 16 : Nat), (i % 16 / 4 : Nat), (i % 4 : Nat)⟩
theorem mkY_lat {t : Twn} (ht : t.ok) (g : Sta → Int) {s : Sta} (h : s.right t = true) : lat (mkY g) s = g s := by
  have h1 := right_iff.1 h
  have h2 := ht.patience
  have h3 := ht.run
  have h4 := ix_lt ht h
  unfold lat mkY
  simp only [List.getD, List.getElem?_map, List.getElem?_range h4, Option.map_some, Option.getD_some]
  congr 1
  obtain ⟨a, b, c⟩ := s
  simp only [Sta.ix, Sta.mk.injEq] at *
  omega
def PL (t : Twn) (n : Nat) (s : Sta) (v : Int) : Prop := (v = (n : Int) - 1 ∧ ∀ j < n, Srv t j s) ∨ ∃ k : Nat, k < n ∧ v = k - 1 ∧ ¬ Srv t k s ∧ ∀ j < k, Srv t j s
theorem PL.ls {t : Twn} {n : Nat} {s : Sta} {v : Int} (hn : n ≤ 496) (h : PL t (n + 1) s v) (hs : ¬ Srv t n s) : LS t s v := by
  rcases h with ⟨_, h2⟩ | ⟨k, hk, h⟩
  · exact absurd (h2 n (by omega)) hs
  · exact .inr ⟨k, by omega, h⟩
def SolR (t : Twn) (la : List Int) : Prop := la.length = t.nst ∧ ∀ s, s.right t = true → LS t s (io la (ixr t s))
theorem Rel.same {t : Twn} {la y y' : List Int} (h : Rel t la y) (hy : LSA t y) (hy' : LSA t y') (hl : y'.length = 496) : Rel t la y' := ⟨h.len, hl, fun u hu => (h.at_ u hu).trans (LS.uniq (hy u hu) (hy' u hu))⟩
theorem PL.end_ {t : Twn} {n : Nat} {s : Sta} {v : Int} (h : PL t (n + 1) s v) (h0 : 0 < n) (hn : n ≤ 497) (hs : ¬ Bf t n s) : LS t s v := by
  obtain ⟨m, rfl⟩ : ∃ m, n = m + 1 := ⟨n - 1, by omega⟩
  have hs : ¬ Srv t m s := hs
  rcases h with ⟨_, h2⟩ | ⟨k, hk, h1, h2, h3⟩
  · exact absurd (h2 m (by omega)) hs
  · rcases Nat.lt_or_ge m k with h | h
    · exact absurd (h3 m h) hs
    · exact .inr ⟨k, by omega, h1, h2, h3⟩
end Go.Proofs.Ytaldphhdkmchhaa
namespace Go.Proofs.Ytaldphhdkmchhaa
set_option linter.unusedSimpArgs false
set_option linter.unusedVariables false
open Go
theorem mul_b {a b A B : Int} (h1 : 0 ≤ a) (h2 : a ≤ A) (h3 : 0 ≤ b) (h4 : b ≤ B) : 0 ≤ a * b ∧ a * b ≤ A * B := by
  have h5 := Int.mul_nonneg h1 h3
  have h6 := Int.mul_le_mul h2 h4 h3 (by omega)
  omega
def srow (s : Sta) : List Value := [.int .i64 s.stock, .int .i64 s.short, .int .i64 s.dry]
def srows (l : List Sta) : List (List Value) := l.map srow
end Go.Proofs.Ytaldphhdkmchhaa
namespace Go.Proofs.Ytaldphhdkmchhaa
set_option linter.unusedSimpArgs false
set_option linter.unusedVariables false
open Go
theorem ap24 : apT Try.prog 24 = some (91, 2, 16) := by kernel_rfl
theorem cn24 : cellN Try.prog 24 = some 1 := by kernel_rfl
end Go.Proofs.Ytaldphhdkmchhaa
namespace Go.Proofs.Ytaldphhdkmchhaa
set_option linter.unusedSimpArgs false
set_option linter.unusedVariables false
open Go
theorem ap80 : apT Try.prog 80 = some (4, 1, 1) := by kernel_rfl
theorem el80 : elN Try.prog 80 = some 1 := by kernel_rfl
theorem sc4 : scal Try.prog 4 = true := by kernel_rfl
theorem sl80 : slE Try.prog 80 = some (4, 1) := by kernel_rfl
theorem zl4 : zeroL Try.prog 4 = some ([.bool false]) := by kernel_rfl
def brow (b : Bool) : List Value := [.bool b]
def brows (l : List Bool) : List (List Value) := l.map brow
theorem br_get {l : List Bool} {k : Nat} {x : Bool} (h : l[k]? = some x) : (brows l)[k]? = some [.bool x] := by simp [brows, brow, h]
end Go.Proofs.Ytaldphhdkmchhaa
namespace Go.Proofs.Ytaldphhdkmchhaa
set_option linter.unusedSimpArgs false
set_option linter.unusedVariables false
noncomputable def LV (t : Twn) (s : Sta) : Int := Classical.epsilon fun v : Int => LS t s v
theorem LS.lv {t : Twn} {s : Sta} {v : Int} (h : LS t s v) : v = LV t s := LS.uniq h (Classical.epsilon_spec (p := fun v => LS t s v) ⟨v, h⟩)
noncomputable def LY (t : Twn) : List Int := mkY (LV t)
theorem LY_len (t : Twn) : (LY t).length = 496 := by simp [LY, mkY]
theorem LSA.same {t : Twn} (ht : t.ok) {y : List Int} (h : LSA t y) : Same t y (LY t) := fun s hs => (h s hs).lv.trans (mkY_lat ht (LV t) hs).symm
theorem LSA.ly {t : Twn} (ht : t.ok) {y : List Int} (h : LSA t y) : LSA t (LY t) := fun s hs => by rw [← h.same ht s hs]; exact h s hs
theorem SolR.ly {t : Twn} (ht : t.ok) {la : List Int} (h : SolR t la) : Rel t la (LY t) ∧ LSA t (LY t) := by
  have e : ∀ u, u.right t = true → io la (ixr t u) = lat (LY t) u := fun u hu => (h.2 u hu).lv.trans (mkY_lat ht (LV t) hu).symm
  exact ⟨⟨h.1, LY_len t, e⟩, fun s hs => by rw [← e s hs]; exact h.2 s hs⟩
attribute [irreducible] LY
noncomputable def fromP (t : Twn) (s : Sta) : Int × Int := bif decide (t.check ≠ 0) then (0, t.check) else bif !(s.right t) then (0, 3) else (lat (LY t) s, 0)
noncomputable def choP (t : Twn) : List Int × Int := bif decide (t.check ≠ 0) then ([], t.check) else bif decide (lat (LY t) t.now = -1) then ([], 6) else
  (pickU (fun q => t.keeps (LY t) t.now q (lat (LY t) t.now)) t.rats t.rats.length, 0)
theorem cho_P {t : Twn} {σ : Sv} (h : t.check = 0) (hσ : Solv t σ) (hn : lat σ.y t.now ≠ -1) : choP t = (pickU (fun q => t.keeps σ.y t.now q (lat σ.y t.now)) t.rats t.rats.length, 0) := by
  have hok := (ok_of_check h).1
  have hs := (solv_lsa hok hσ).same hok
  unfold choP
  rw [← hs _ hok.now, pickU_congr (p' := fun q => t.keeps (LY t) t.now q (lat σ.y t.now)) (p := fun q => t.keeps σ.y t.now q (lat σ.y t.now)) (fun q hq => keeps_congr hok hs hok.now hq _)]
  simp [h, hn]
theorem cho_P0 {t : Twn} {σ : Sv} (h : t.check = 0) (hσ : Solv t σ) (hn : lat σ.y t.now = -1) : choP t = ([], 6) := by
  have hok := (ok_of_check h).1
  have hs := (solv_lsa hok hσ).same hok
  unfold choP
  rw [← hs _ hok.now]
  simp [h, hn]
end Go.Proofs.Ytaldphhdkmchhaa
namespace Go.Proofs.Ytaldphhdkmchhaa
set_option linter.unusedSimpArgs false
set_option linter.unusedVariables false
open Go
theorem cal107 : cal Try.prog 107 = true := by kernel_rfl
theorem rat_off {t : Twn} {r : Int} (h : (!(decide (0 ≤ r) && decide (r ≤ (t.rats.length : Int) - 1))) = true) : t.rat r = none := rat_none (by rw [← Bool.not_eq_true']; exact h)
theorem rat_on {t : Twn} {r : Int} (h : (!(decide (0 ≤ r) && decide (r ≤ (t.rats.length : Int) - 1))) = false) : 0 ≤ r ∧ ∃ q, t.rats[r.toNat]? = some q := rat_in (by rw [← Bool.not_eq_false']; exact h)
def StQ (t : Twn) (s : Sta) (sl : Value) (H : Heap) (R : Facts) : Value → Heap → Facts → Prop := fun v H' R' =>
  (t.check ≠ 0 ∧ v = .tuple #[.pointer none, .int .i64 t.check] ∧ H' = H ∧ R' = R) ∨
  (t.check = 0 ∧ s.right t = false ∧ v = .tuple #[.pointer none, .int .i64 3] ∧ H' = H ∧ R' = R) ∨
  (t.check = 0 ∧ s.right t = true ∧ ∃ bw m bt, v = .tuple #[.pointer (some ⟨bw, 0, none⟩), .int .i64 0] ∧ H' = (bw, cel 153 (rcs t sl bt (List.replicate 496 0) (.slice none 0 0) m)) :: (m, mapO true []) :: H ∧ R' = RowsA (some ⟨bt, 0, none⟩) 11 [twl t sl] :: R)
theorem c_state (t : Twn) (s : Sta) (hl : t.rats.length ≤ 9223372036854775807) (ba oa ca : Nat) (H : Heap) (R : Facts) [hR : MemRows (some ⟨ba, oa, none⟩) 2 (rrows t.rats) R] :
    Fn Try.prog 107 [t.v (t.sl (some ⟨ba, oa, none⟩) ca), s.v] H R (StQ t s (t.sl (some ⟨ba, oa, none⟩) ca) H R) := by
 refine fn_of Try.func107 rfl Try.ntmps107 rfl ?_
 refine sy_seq ?_
 refine sy_tx' [0, 1, 2, 3] rfl ?_
 refine bx rfl rfl rfl (fun b2 => ?_)
 refine bx rfl rfl rfl (fun b3 => ?_)
 refine sp rfl (PE.assign rfl) rfl ?_
 refine sp rfl (PE.assign rfl) rfl ?_
 refine sy_seq ?_
 refine sy_tx' [0, 1, 2, 3, 4, 5, 6] rfl ?_
 refine spL rfl rfl (lhA [_, _, _, _, _, _, _, _, _, _, _] ag26 rfl rfl rfl) rfl ?_
 refine cl rfl cal89 rfl rfl (c_opened t hl ba oa ca _ _) ?_
 rintro _ _ _ (⟨hck, rfl, rfl, rfl⟩ | ⟨hck, bw, m, bt, rfl, rfl, rfl⟩)
 refine sp rfl (PE.move rfl) rfl ?_
 refine sp rfl (PE.extract rfl rfl) rfl ?_
 refine sp rfl (PE.extract rfl rfl) rfl ?_
 refine sp rfl (PE.assign rfl) rfl ?_
 refine sp rfl (PE.assign rfl) rfl ?_
 refine sy_seq ?_
 refine sy_block ?_
 refine sy_seq ?_
 refine sy_tx' [0, 1, 2] rfl ?_
 refine sp rfl (PE.move rfl) rfl ?_
 refine sp rfl (PE.neq rfl rfl) rfl ?_
 refine sp rfl (PE.assign rfl) rfl ?_
 refine sy_condT (congrArg (fun b => some (Value.bool b)) (decide_eq_true hck)) ?_
 refine sy_seq ?_
 refine sy_tx' [0, 1, 2] rfl ?_
 refine sp rfl (PE.move rfl) rfl ?_
 refine sp rfl (PE.assign rfl) rfl ?_
 refine sp rfl (PE.assign rfl) rfl ?_
 refine sy_ret ?_
 exact sy_return (vs := [_, _]) rfl (.cons (RV.tmp rfl) (.cons (RV.tmp rfl) .nil)) rfl (.inl ⟨hck, rfl, rfl, rfl⟩) drp
 refine sp rfl (PE.move rfl) rfl ?_
 refine sp rfl (PE.extract rfl rfl) rfl ?_
 refine sp rfl (PE.extract rfl rfl) rfl ?_
 refine sp rfl (PE.assign rfl) rfl ?_
 refine sp rfl (PE.assign rfl) rfl ?_
 refine sy_seq ?_
 refine sy_block ?_
 refine sy_seq ?_
 refine sy_tx' [0, 1, 2] rfl ?_
 refine sp rfl (PE.move rfl) rfl ?_
 refine sp rfl (PE.neq rfl rfl) rfl ?_
 refine sp rfl (PE.assign rfl) rfl ?_
 refine sy_condF (rfl) ?_
 refine sy_seq ?_
 refine sy_tx' [0, 1, 2, 3, 4] rfl ?_
 refine spL rfl rfl (lhA [_, _, _, _, _, _, _, _, _, _, _] ag26 rfl rfl rfl) rfl ?_
 refine spL rfl rfl (lhA [_, _, _] ag23 rfl rfl rfl) rfl ?_
 refine clV rfl cal91 rfl rfl (c_right t s _ _ _) ?_
 refine sp rfl (PE.not rfl) rfl ?_
 refine sp rfl (PE.assign rfl) rfl ?_
 refine sy_cond rfl (fun hc1 => ?_) (fun hc1 => ?_)
 have hrt : s.right t = false := by rw [← Bool.not_eq_true']; exact hc1
 refine sy_seq ?_
 refine sy_tx' [0, 1] rfl ?_
 refine sp rfl (PE.assign rfl) rfl ?_
 refine sp rfl (PE.assign rfl) rfl ?_
 refine sy_ret ?_
 first
   | exact sy_return (vs := [_, _]) rfl (.cons (RV.tmp rfl) (.cons (RV.tmp rfl) .nil)) rfl (.inr (.inl ⟨hck, hrt, rfl, rfl, rfl⟩)) (fun w h => ((((h.del b2).del b3).del bw).del m).ftail)
   | exact sy_return (vs := [_, _]) rfl (.cons (RV.tmp rfl) (.cons (RV.tmp rfl) .nil)) rfl (.inr (.inr ⟨hck, hrt, bw, m, bt, rfl, rfl, rfl⟩)) (fun w h => (h.del b2).del b3)
 have hrt : s.right t = true := by rw [← Bool.not_eq_false']; exact hc1
 refine sy_skip ?_
 refine sy_seq ?_
 refine sy_tx' [0, 1, 2] rfl ?_
 refine sp rfl (PE.move rfl) rfl ?_
 refine sp rfl (PE.assign rfl) rfl ?_
 refine sp rfl (PE.assign rfl) rfl ?_
 refine sy_ret ?_
 first
   | exact sy_return (vs := [_, _]) rfl (.cons (RV.tmp rfl) (.cons (RV.tmp rfl) .nil)) rfl (.inr (.inl ⟨hck, hrt, rfl, rfl, rfl⟩)) (fun w h => ((((h.del b2).del b3).del bw).del m).ftail)
   | exact sy_return (vs := [_, _]) rfl (.cons (RV.tmp rfl) (.cons (RV.tmp rfl) .nil)) rfl (.inr (.inr ⟨hck, hrt, bw, m, bt, rfl, rfl, rfl⟩)) (fun w h => (h.del b2).del b3)
theorem c_From (t : Twn) (s : Sta) (hl : t.rats.length ≤ 9223372036854775807) (ba oa ca : Nat) (H : Heap) (R : Facts) [hR : MemRows (some ⟨ba, oa, none⟩) 2 (rrows t.rats) R] :
    FnV Try.prog 43 [t.v (t.sl (some ⟨ba, oa, none⟩) ca), s.v] H R (.tuple #[.int .i64 (fromP t s).1, .int .i64 (fromP t s).2]) := by
 refine fn_of Try.func43 rfl Try.ntmps43 rfl ?_
 refine sy_seq ?_
 refine sy_tx' [0, 1, 2, 3] rfl ?_
 refine bx rfl rfl rfl (fun b2 => ?_)
 refine bx rfl rfl rfl (fun b3 => ?_)
 refine sp rfl (PE.assign rfl) rfl ?_
 refine sp rfl (PE.assign rfl) rfl ?_
 refine sy_seq ?_
 refine sy_seq ?_
 refine sy_tx' [0, 1, 2, 3, 4, 5, 6, 7] rfl ?_
 refine spL rfl rfl (lhA [_, _, _, _, _, _, _, _, _, _, _] ag26 rfl rfl rfl) rfl ?_
 refine spL rfl rfl (lhA [_, _, _] ag23 rfl rfl rfl) rfl ?_
 refine cl rfl cal107 rfl rfl (c_state t s hl ba oa ca _ _) ?_
 rintro _ _ _ (⟨hck, rfl, rfl, rfl⟩ | ⟨hck, hrt, rfl, rfl, rfl⟩ | ⟨hck, hrt, bw0, m0, bt0, rfl, rfl, rfl⟩)
 refine sp rfl (PE.move rfl) rfl ?_
 refine sp rfl (PE.extract rfl rfl) rfl ?_
 refine sp rfl (PE.extract rfl rfl) rfl ?_
 refine sp rfl (PE.assign rfl) rfl ?_
 refine sp rfl (PE.assign rfl) rfl ?_
 refine sy_seq ?_
 refine sy_tx' [0, 1] rfl ?_
 refine sp rfl (PE.move rfl) rfl ?_
 refine sp rfl (PE.neq rfl rfl) rfl ?_
 refine sy_condT (congrArg (fun b => some (Value.bool b)) (decide_eq_true hck)) ?_
 refine sy_seq ?_
 refine sy_tx' [0, 1, 2] rfl ?_
 refine sp rfl (PE.move rfl) rfl ?_
 refine sp rfl (PE.assign rfl) rfl ?_
 refine sp rfl (PE.assign rfl) rfl ?_
 refine sy_ret ?_
 exact sy_return (vs := [_, _]) rfl (.cons (RV.tmp rfl) (.cons (RV.tmp rfl) .nil)) (by rw [show fromP t s = (0, t.check) from by simp [fromP, hck]]; rfl) ⟨rfl, rfl, rfl⟩ drp
 refine sp rfl (PE.move rfl) rfl ?_
 refine sp rfl (PE.extract rfl rfl) rfl ?_
 refine sp rfl (PE.extract rfl rfl) rfl ?_
 refine sp rfl (PE.assign rfl) rfl ?_
 refine sp rfl (PE.assign rfl) rfl ?_
 refine sy_seq ?_
 refine sy_tx' [0, 1] rfl ?_
 refine sp rfl (PE.move rfl) rfl ?_
 refine sp rfl (PE.neq rfl rfl) rfl ?_
 refine sy_condT (rfl) ?_
 refine sy_seq ?_
 refine sy_tx' [0, 1, 2] rfl ?_
 refine sp rfl (PE.move rfl) rfl ?_
 refine sp rfl (PE.assign rfl) rfl ?_
 refine sp rfl (PE.assign rfl) rfl ?_
 refine sy_ret ?_
 exact sy_return (vs := [_, _]) rfl (.cons (RV.tmp rfl) (.cons (RV.tmp rfl) .nil)) (by rw [show fromP t s = (0, 3) from by simp [fromP, hck, hrt]]; rfl) ⟨rfl, rfl, rfl⟩ drp
 refine sp rfl (PE.move rfl) rfl ?_
 refine sp rfl (PE.extract rfl rfl) rfl ?_
 refine sp rfl (PE.extract rfl rfl) rfl ?_
 refine sp rfl (PE.assign rfl) rfl ?_
 refine sp rfl (PE.assign rfl) rfl ?_
 refine sy_seq ?_
 refine sy_tx' [0, 1] rfl ?_
 refine sp rfl (PE.move rfl) rfl ?_
 refine sp rfl (PE.neq rfl rfl) rfl ?_
 refine sy_condF (rfl) ?_
 refine sy_skip ?_
 refine sy_seq ?_
 refine sy_tx' [0, 1, 2, 3, 4, 5, 6] rfl ?_
 refine Sy.heap (fun w h => ((h.del bw0).del m0).ftail) ?_
 refine spL rfl rfl (lhA [_, _, _, _, _, _, _, _, _, _, _] ag26 rfl rfl rfl) rfl ?_
 refine cl rfl cal97 rfl rfl (c_solved t hl ba oa ca _ _) ?_
 rintro _ _ _ (⟨hck2, _, _, _⟩ | ⟨hck2, bw, m, bt, σ, o, hσ, rfl, rfl, rfl⟩)
 · exact absurd hck hck2
 have hok := (ok_of_check hck).1
 have hlv := (solv_lsa hok hσ).same hok s hrt
 refine sp rfl (PE.move rfl) rfl ?_
 refine sp rfl (PE.extract rfl rfl) rfl ?_
 refine sp rfl (PE.extract rfl rfl) rfl ?_
 refine sp rfl (PE.assign rfl) rfl ?_
 refine sp rfl (PE.assign rfl) rfl ?_
 refine sy_seq ?_
 refine sy_draw [0, 1, 3, 0, 15, 0, 31, 127] (.tk 0 (.tk 1 (.tk 2 (.ld 3 (.tk 5 (.big 4 (.tk 6 (.tk 7 .done)))))))) mixed (by kernel_rfl) ?_
 refine tk rfl (PE.move rfl) rfl ?_
 refine tk rfl (PE.nilCheck rfl) rfl ?_
 refine tk rfl (PE.fieldAddr fo153_2 rfl) rfl ?_
 refine ld rfl rfl (lhA [_, _, _] ag23 rfl rfl rfl) rfl ?_
 refine tk rfl (PE.move rfl) rfl ?_
 refine clV rfl cal95 rfl rfl (c_of t hok s hrt ba oa ca bt bw m σ.y o.fs (solv_ok hok hσ) _ _) ?_
 refine bg (fun w hs => ⟨trivial, trivial⟩) ?_
 refine tk rfl (PE.assign rfl) rfl ?_
 refine tk rfl (PE.assign rfl) rfl ?_
 refine sy_ret ?_
 exact sy_return (vs := [_, _]) rfl (.cons (RV.tmp rfl) (.cons (RV.tmp rfl) .nil)) (by rw [show fromP t s = (lat σ.y s, 0) from by simp [fromP, hck, hrt, hlv]]; rfl) ⟨rfl, rfl, rfl⟩ (fun w h => (((((h.del b2).del b3).del bw).del m).ftail).drop)
theorem c_Choose2 (t : Twn) (hl : t.rats.length ≤ 9223372036854775807) (ba oa ca : Nat) (H : Heap) (R : Facts) [hR : MemRows (some ⟨ba, oa, none⟩) 2 (rrows t.rats) R] : Fn Try.prog 44 [t.v (t.sl (some ⟨ba, oa, none⟩) ca)] H R (fun v H' R' => ∃ o : OSl 3 1 (irows (choP t).1), v = .tuple #[o.fs, .int .i64 (choP t).2] ∧ H' = o.G ++ H ∧ R' = R) := by
  refine Fn.mono (c_Choose t hl ba oa ca H R) ?_
  rintro v H' R' ⟨⟨hck, rfl, rfl⟩ | ⟨hck, σ, hσ, ⟨h1, rfl, rfl⟩ | ⟨h1, o, rfl, rfl⟩⟩, rfl⟩
  · have e : choP t = ([], t.check) := by simp [choP, hck]
    rw [e]; exact ⟨OSl.nil _ _, rfl, rfl, rfl⟩
  · rw [cho_P0 hck hσ h1]; exact ⟨OSl.nil _ _, rfl, rfl, rfl⟩
  · rw [cho_P hck hσ h1]; exact ⟨o, rfl, rfl, rfl⟩
end Go.Proofs.Ytaldphhdkmchhaa
namespace Go.Proofs.Ytaldphhdkmchhaa
set_option linter.unusedSimpArgs false
set_option linter.unusedVariables false
open Go
theorem cal43 : cal Try.prog 43 = true := by kernel_rfl
end Go.Proofs.Ytaldphhdkmchhaa
namespace Go.Proofs.Ytaldphhdkmchhaa
set_option linter.unusedSimpArgs false
set_option linter.unusedVariables false
def minStep (s : Sta) (o : Option Int) (p : Sta × Int) : Option Int := bif decide (p.1 = s) then some (match o with | none => p.2 | some n => min n p.2) else o
def minB (l : List (Sta × Int)) (s : Sta) : Option Int := l.foldl (minStep s) none
def leO (o : Option Int) (m : Int) : Bool := match o with | none => false | some n => decide (n ≤ m)
theorem minB_snoc (l : List (Sta × Int)) (p : Sta × Int) (s : Sta) : minB (l ++ [p]) s = minStep s (minB l s) p := by simp [minB]
theorem fold_min (s : Sta) (m : Int) : ∀ (l : List (Sta × Int)) (o : Option Int), leO (l.foldl (minStep s) o) m = (leO o m || earlier l s m)
  | [], o => by simp [earlier]
  | p :: l, o => by
    rw [List.foldl_cons, fold_min s m l]
    unfold earlier
    rw [List.any_cons, ← Bool.or_assoc]
    congr 1
    unfold minStep
    cases h : decide (p.1 = s) with
    | false => simp
    | true =>
      cases o with
      | none => simp [leO]
      | some n =>
        simp only [cond_true, leO, Bool.true_and]
        rw [Bool.eq_iff_iff]
        simp
        omega
theorem earlier_min (l : List (Sta × Int)) (s : Sta) (m : Int) : earlier l s m = leO (minB l s) m := by
  have := fold_min s m l none
  simpa [minB, leO] using this.symm
theorem fates_snoc (t : Twn) : ∀ (l pre : List (Sta × Int)) (p : Sta × Int), fatesOk t pre (l ++ [p]) = (fatesOk t pre l && fateOk t (pre ++ l) p)
  | [], pre, p => by simp [fatesOk]
  | x :: l, pre, p => by
    rw [List.cons_append, fatesOk, fatesOk, fates_snoc t l, Bool.and_assoc, List.append_assoc]; rfl
structure FlOk (t : Twn) (σ : Sv) : Prop where
  len : σ.y.length = 496
  ok : fatesOk t [] σ.fl = true
  rg : ∀ p ∈ σ.fl, p.1.right t = true ∧ 0 ≤ p.2 ∧ p.2 ≤ 1000000
  at_ : ∀ s, s.right t = true → minB σ.fl s = bif ever σ.y s then none else some (lat σ.y s + 1)
theorem FlOk.step {t : Twn} (ht : t.ok) {n : Nat} (hn : n ≤ 496) {σ : Sv} (h : FlOk t σ) {u : Sta} (hu : u.right t = true) : FlOk t (σ.step t n u) := by
  cases hc : ever σ.y u && !(t.rats.any fun q => t.keeps σ.y u q n) with
  | false => have e : σ.step t n u = σ := by unfold Sv.step; rw [hc]; rfl
             rw [e]; exact h
  | true =>
    have e : σ.step t n u = ⟨σ.y.set u.ix (n - 1), σ.fl ++ [(u, (n : Int))]⟩ := by unfold Sv.step; rw [hc]; rfl
    rw [e]
    simp only [Bool.and_eq_true, Bool.not_eq_true', List.any_eq_false] at hc
    obtain ⟨hev, hno⟩ := hc
    have hui := ix_lt ht hu
    refine ⟨by simp [h.len], ?_, ?_, ?_⟩
    · rw [fates_snoc, h.ok, Bool.true_and, List.nil_append]
      refine List.all_eq_true.2 fun q hq => ?_
      cases hcan : t.can u q with
      | false => rfl
      | true =>
        have hk := hno q hq
        have hg := next_right ht hu hq hcan (bad := false) (by simp)
        have key : ∀ (s : Sta) (m : Int), s.right t = true → m ≤ 496 → ¬ m ≤ lat σ.y s → earlier σ.fl s m = true := fun s m hs hm h1 => by
          rw [earlier_min, h.at_ s hs]
          have he : ever σ.y s = false := by unfold ever; rw [decide_eq_false]; omega
          rw [he]
          simp only [cond_false, leO, decide_eq_true_eq]
          omega
        simp only [Bool.not_true, Bool.false_or]
        by_cases h1 : (n : Int) ≤ lat σ.y (t.next u q false)
        · simp only [Twn.keeps, hcan, h1, decide_true, Bool.and_true, Bool.true_and, Bool.or_eq_true, decide_eq_true_eq, Bool.not_eq_true', decide_eq_false_iff_not, not_or, Decidable.not_not] at hk
          obtain ⟨⟨h2, h3⟩, h4⟩ := hk
          rw [decide_eq_false (show ¬ (n : Int) = 1000000 by omega)] at h4
          rw [decide_eq_true h3, key _ (n - 1) (next_right ht hu hq hcan (fun _ => h3)) (by omega) h4]
          simp
        · rw [key _ n hg (by omega) h1]; rfl
    · intro p hp
      rcases List.mem_append.1 hp with hp | hp
      · exact h.rg p hp
      · simp only [List.mem_singleton] at hp; subst hp; exact ⟨hu, by omega, by dsimp only; omega⟩
    · intro s hs
      rw [minB_snoc, h.at_ s hs]
      unfold minStep
      by_cases e2 : u = s
      · subst e2
        rw [hev]
        have : ever (σ.y.set u.ix ((n : Int) - 1)) u = false := by unfold ever; rw [lat_set_self (by rw [h.len]; exact hui), decide_eq_false]; omega
        simp only [decide_true, cond_true, this, cond_false, lat_set_self (y := σ.y) (v := (n : Int) - 1) (by rw [h.len]; exact hui)]
        congr 1; omega
      · have hix : u.ix ≠ s.ix := fun e3 => e2 (ix_inj ht hu hs e3)
        simp only [e2, decide_false, cond_false, ever, lat_set_ne hix]
theorem FlOk.fold {t : Twn} (ht : t.ok) {n : Nat} (hn : n ≤ 496) : ∀ (l : List Sta) (σ : Sv), (∀ s ∈ l, s ∈ sts t) → FlOk t σ → FlOk t (l.foldl (Sv.step t n) σ)
  | [], _, _, h => h
  | s :: l, σ, hl, h => FlOk.fold ht hn l _ (fun u hu => hl u (by simp [hu])) (h.step ht hn (sts_right ht (hl s (by simp))))
theorem FlOk.passes {t : Twn} (ht : t.ok) {n : Nat} (hn : n ≤ 496) : ∀ (j : Nat) (σ : Sv), FlOk t σ → FlOk t (passes t n j σ)
  | 0, _, h => h
  | j + 1, σ, h => FlOk.fold ht hn (sts t) _ (fun _ h => h) (FlOk.passes ht hn j σ h)
end Go.Proofs.Ytaldphhdkmchhaa
namespace Go.Proofs.Ytaldphhdkmchhaa
set_option linter.unusedSimpArgs false
set_option linter.unusedVariables false
open Go
theorem rows_nil {a : Option Addr} {sz : Nat} {rows : List (List Value)} {w : World} (h : RowsA a sz rows w) (ha : a.isNone = true) : rows = [] := by
  false_or_by_contra
  rename_i h0
  obtain ⟨b, off, e⟩ := rows_addr h h0
  rw [e] at ha; cases ha
end Go.Proofs.Ytaldphhdkmchhaa
namespace Go.Proofs.Ytaldphhdkmchhaa
set_option linter.unusedSimpArgs false
set_option linter.unusedVariables false
open Go
section pe
variable {P : Program} {L : Slots} {d : Option Tmp} {ty : TypeId} {pos : String} {af : Array Edge} {g : Option (Nat × Bool)}
theorem arN_und {P : Program} {T m n : Nat} (h : arN P T = some (m, n)) : ∃ e i, P.underlying T = some (.array m e) ∧ P.info? e = some i ∧ i.size = n := by
  unfold arN at h
  split at h
  · rename_i k e hu
    rw [Option.map_eq_some_iff] at h
    obtain ⟨i, hi, he⟩ := h
    cases he
    exact ⟨e, i, hu, hi, rfl⟩
  · cases h
theorem PE.slArr {T m n b off : Nat} {x : Operand} (hT : arN P T = some (m, n)) (hx : ev L x = some (.pointer (some ⟨b, off, none⟩))) :
    PE P L ⟨d, .slice T x none none none, ty, pos, af, g⟩ (.slice (some ⟨b, off, none⟩) m m) := fun ρ hρ w => by
  obtain ⟨e, i, hu, hi, rfl⟩ := arN_und hT
  have ha : (⟨b, off, none⟩ : Addr).add (0 * i.size) = ⟨b, off, none⟩ := by rw [addr_add]; simp
  simp only [execOp, hρ _ _ hx, Option.map_none, Instr.sliceAt, Sem.run_bind, run_underlying hu, Result.andThen, Instr.sureAddr, Sem.run_pure, Instr.sliceBounds, sizeOf, typeInfo, program, hi, Sem.run]
  rw [ha]
  by_cases h : m = 0 <;> simp [h]
end pe
section steps
variable {P : Program} {r : Option Nat} {ops : Array Oper} {n : Nat} {L : Slots} {D : List Deferred} {H : Heap} {R : Facts} {K : Act → World → Prop}
  {i d : Nat} {ty : TypeId} {pos : String} {af : Array Edge}
theorem slE_und {P : Program} {T e s : Nat} (h : slE P T = some (e, s)) : ∃ i, P.underlying T = some (.slice e) ∧ P.info? e = some i ∧ i.size = s := by
  unfold slE at h
  split at h
  · rename_i e' hu
    rw [Option.map_eq_some_iff] at h
    obtain ⟨i, hi, he⟩ := h
    cases he
    exact ⟨i, hu, hi, rfl⟩
  · cases h
theorem run_store0 {P : Program} {b e : Nat} {l vs : List Value} (h1 : vs.all (·.oneCell') = true) (hb : vs.length ≤ l.length) {w : World} (h : w.heap[b]? = some (cel e l)) :
    (storeCells ⟨b, 0, none⟩ vs).run P w = .ok () { w with heap := w.heap.setIfInBounds b (cel e (spl l 0 vs)) } := by
  have := run_storeCells_at (P := P) b 0 e vs 0 l.toArray w h (by simpa using hb) (fun x hx => List.all_eq_true.1 h1 x hx)
  rw [setRow_cells h] at this
  simpa [spl] using this
theorem cpy {T T2 e s : Nat} {x y : Operand} {b bs os dl dc sl sc e2 : Nat} {l : List Value} (cs : List Value) {H' : Heap}
    (ho : ops[i]? = some ⟨some d, .call { callee := .builtin .copy, args := #[x, y], argTypes := #[T, T2] }, ty, pos, af, none⟩) (hT : slE P T = some (e, s))
    (hx : ev L x = some (.slice (some ⟨b, 0, none⟩) dl dc)) (hy : ev L y = some (.slice (some ⟨bs, os, none⟩) sl sc)) (hn : cs.length = Nat.min sl dl * s)
    (hsrc : ∀ w, St H R w → ∀ j v, cs[j]? = some v → w.cell? ⟨bs, os + j, none⟩ = some v) (h1 : cs.all (·.oneCell') = true) (hb : cs.length ≤ l.length) (hd : Nat.blt d n = true)
    [m : Mem1 b (cel e2 l) H] [rp : Rep [(b, cel e2 l)] [(b, cel e2 (spl l 0 cs))] H H']
    (h : Sy n ((d, .int .i64 (Nat.min sl dl : Nat)) :: L) D H' R K) : Sy n L D H R (stp P r ops i K) := fun a w ha hD hs => by
  obtain ⟨ie, hu, hi, rfl⟩ := slE_und hT
  have hl := run_loadCells_list (P := P) w ⟨bs, os, none⟩ cs (fun j v hj => by rw [addr_add]; exact hsrc w hs j v hj)
  have hst := run_store0 (P := P) (e := e2) h1 hb (hs.held _ m.mem)
  refine stp_value ho (wanted_none _ rfl _) (v := .int .i64 (Nat.min sl dl : Nat)) (w' := { w with heap := w.heap.setIfInBounds b (cel e2 (spl l 0 cs)) }) ?_
    (h _ _ (ha.put (by simpa using hd) _) hD (hs.rep (F := [(b, cel e2 l)]) (F' := [(b, cel e2 (spl l 0 cs))]) fun T hT => St.set hT))
  simp only [execOp, resolve, invoke, builtin, Sem.run_bind, Sem.run_pure, Result.andThen, List.map_toArray, List.map_cons, List.map_nil, ha.reads _ _ hx, ha.reads _ _ hy]
  have e1 : (Builtin.copy_ #[T, T2] ty #[.slice (some ⟨b, 0, none⟩) dl dc, .slice (some ⟨bs, os, none⟩) sl sc]).run P w = .ok (goInt (Nat.min sl dl : Nat)) { w with heap := w.heap.setIfInBounds b (cel e2 (spl l 0 cs)) } := by
    simp [Builtin.copy_, run_underlying hu, Builtin.lenOf, Builtin.firstCells, sizeOf, typeInfo, hi, ← hn, hl, hst]
  rw [e1]
  rfl
end steps
end Go.Proofs.Ytaldphhdkmchhaa
namespace Go.Proofs.Ytaldphhdkmchhaa
set_option linter.unusedSimpArgs false
set_option linter.unusedVariables false
open Go
theorem cal110 : cal Try.prog 110 = true := by kernel_rfl
theorem cal112 : cal Try.prog 112 = true := by kernel_rfl
def zst : Sta := ⟨0, 0, 0⟩
def ztw : Twn := ⟨zst, 0, 0, 0, 0, 0, 0, 0, []⟩
def nxtR (t : Twn) (s : Sta) (r : Int) (bad : Bool) : Sta × Int := match t.rat r with
  | none => (zst, 1)
  | some q => bif !(t.can s q) then (zst, 9) else bif bad && !(decide (s.dry < t.run)) then (zst, 7) else (t.next s q bad, 0)
def yearP (t : Twn) (r : Int) (bad : Bool) : Twn × Int := bif decide (t.check ≠ 0) then (ztw, t.check) else bif decide ((nxtR t t.now r bad).2 ≠ 0) then (ztw, (nxtR t t.now r bad).2) else ({ t with now := (nxtR t t.now r bad).1 }, 0)
theorem nxt_none {t : Twn} {s : Sta} {r : Int} {bad : Bool} (h : t.rat r = none) : nxtR t s r bad = (zst, 1) := by unfold nxtR; rw [h]
theorem nxt_full {t : Twn} {s : Sta} {r : Int} {q : Rn} {bad : Bool} (h : t.rat r = some q) (hc : t.can s q = false) : nxtR t s r bad = (zst, 9) := by unfold nxtR; rw [h]; simp [hc]
theorem nxt_clash {t : Twn} {s : Sta} {r : Int} {q : Rn} {bad : Bool} (h : t.rat r = some q) (hc : t.can s q = true) (hb : (bad && !(decide (s.dry < t.run))) = true) : nxtR t s r bad = (zst, 7) := by unfold nxtR; rw [h]; simp only; rw [hc, hb]; rfl
theorem nxt_ok {t : Twn} {s : Sta} {r : Int} {q : Rn} {bad : Bool} (h : t.rat r = some q) (hc : t.can s q = true) (hb : (bad && !(decide (s.dry < t.run))) = false) : nxtR t s r bad = (t.next s q bad, 0) := by unfold nxtR; rw [h]; simp only; rw [hc, hb]; rfl
theorem nxt_right {t : Twn} (ht : t.ok) {s : Sta} (hs : s.right t = true) {r : Int} {bad : Bool} (h : (nxtR t s r bad).2 = 0) : (nxtR t s r bad).1.right t = true := by
  unfold nxtR at h ⊢
  cases hr : t.rat r with
  | none => rw [hr] at h; cases h
  | some q =>
    rw [hr] at h
    simp only at h ⊢
    cases hc : t.can s q with
    | false => rw [hc] at h; cases h
    | true =>
      rw [hc] at h
      cases hb : (bad && !(decide (s.dry < t.run))) with
      | true => rw [hb] at h; cases h
      | false =>
        refine next_right ht hs (List.mem_of_getElem? (rat_iff.1 hr).2) hc (fun hbad => ?_)
        subst hbad
        simpa using hb
theorem c_year (t : Twn) (ht : t.ok) (s : Sta) (hs : s.right t = true) (r : Int) (bad : Bool) (ba oa ca : Nat) (bt bw m : Nat) (y : List Int) (fs : Value) (H : Heap) (R : Facts) [hR : MemRows (some ⟨ba, oa, none⟩) 2 (rrows t.rats) R] [hT : MemRows (some ⟨bt, 0, none⟩) 11 [twl t (t.sl (some ⟨ba, oa, none⟩) ca)] R] [hW : Mem1 bw (cel 153 (rcs t (t.sl (some ⟨ba, oa, none⟩) ca) bt y fs m)) H] :
    FnV Try.prog 110 [.pointer (some ⟨bw, 0, none⟩), s.v, .int .i64 r, .bool bad] H R (.tuple #[(nxtR t s r bad).1.v, .int .i64 (nxtR t s r bad).2]) := by
 refine fn_of Try.func110 rfl Try.ntmps110 rfl ?_
 refine sy_seq ?_
 refine sy_tx' [0, 1, 2] rfl ?_
 refine bx rfl rfl rfl (fun b5 => ?_)
 refine alc rfl zl23 rfl (fun b8 => ?_)
 refine sp rfl (PE.assign rfl) rfl ?_
 refine sy_seq ?_
 refine sy_tx' [0, 1, 2, 3, 4, 5] rfl ?_
 refine sp rfl (PE.move rfl) rfl ?_
 refine sp rfl (PE.nilCheck rfl) rfl ?_
 refine sp rfl (PE.fieldAddr fo153_0 rfl) rfl ?_
 refine spL rfl rfl (lhA [_, _, _, _, _, _, _, _, _, _, _] ag26 rfl rfl rfl) rfl ?_
 refine sp rfl (PE.makeFunc rfl rfl) rfl ?_
 refine sp rfl (PE.assign rfl) rfl ?_
 refine sy_seq ?_
 refine sy_block ?_
 refine sy_seq ?_
 refine sy_tx' [0, 1, 2, 3, 4] rfl ?_
 refine sp rfl (PE.move rfl) rfl ?_
 refine sp rfl (PE.move rfl) rfl ?_
 refine clFV rfl rfl (cal93) rfl rfl (c_ration t r _ _ (by have := ht.many; omega) _ _) ?_
 refine sp rfl (PE.not rfl) rfl ?_
 refine sp rfl (PE.assign rfl) rfl ?_
 refine sy_cond rfl (fun hc0 => ?_) (fun hc0 => ?_)
 have hres := nxt_none (s := s) (bad := bad) (rat_off hc0)
 refine sy_seq ?_
 refine sy_tx' [0, 1, 2] rfl ?_
 refine sp rfl (PE.build (out := [_, _, _]) pl23 zl23 rfl rfl) rfl ?_
 refine sto rfl rfl rfl cn23 rfl rfl rfl rfl ?_
 refine sp rfl (PE.assign rfl) rfl ?_
 refine sy_ret ?_
 exact sy_return (vs := [_, _]) rfl (.cons (RV.cell rfl (lhA [_, _, _] ag23 rfl rfl rfl)) (.cons (RV.tmp rfl) .nil)) (by rw [hres]; rfl) ⟨rfl, rfl, rfl⟩ drp
 obtain ⟨h0, q, hq⟩ := rat_on hc0
 have hrt := rat_iff.2 ⟨h0, hq⟩
 refine sy_seq ?_
 refine sy_draw [0, 1, 3, 7, 0, 0, 63, 127, 255] (.tk 0 (.tk 1 (.tk 2 (.ld 3 (.ld 4 (.tk 5 (.big 6 (.tk 7 (.tk 8 .done))))))))) mixed (by kernel_rfl) ?_
 refine tk rfl (PE.move rfl) rfl ?_
 refine tk rfl (PE.nilCheck rfl) rfl ?_
 refine tk rfl (PE.fieldAddr fo153_0 rfl) rfl ?_
 refine ld rfl rfl (lhA [_, _, _, _, _, _, _, _, _, _, _] ag26 rfl rfl rfl) rfl ?_
 refine ld rfl rfl (lhA [_, _, _] ag23 rfl rfl rfl) rfl ?_
 refine tk rfl (PE.move rfl) rfl ?_
 refine clV rfl cal94 rfl rfl (c_allowed t s r q ba oa ca h0 hq _ _) ?_
 refine bg (fun w hs => ⟨trivial, trivial, trivial⟩) ?_
 refine tk rfl (PE.not rfl) rfl ?_
 refine tk rfl (PE.assign rfl) rfl ?_
 refine sy_cond rfl (fun hc1 => ?_) (fun hc1 => ?_)
 have hcan : t.can s q = false := by simpa using hc1
 have hres := nxt_full (s := s) (bad := bad) hrt hcan
 refine sy_seq ?_
 refine sy_tx' [0, 1, 2] rfl ?_
 refine sp rfl (PE.build (out := [_, _, _]) pl23 zl23 rfl rfl) rfl ?_
 refine sto rfl rfl rfl cn23 rfl rfl rfl rfl ?_
 refine sp rfl (PE.assign rfl) rfl ?_
 refine sy_ret ?_
 exact sy_return (vs := [_, _]) rfl (.cons (RV.cell rfl (lhA [_, _, _] ag23 rfl rfl rfl)) (.cons (RV.tmp rfl) .nil)) (by rw [hres]; rfl) ⟨rfl, rfl, rfl⟩ drp
 have hcan : t.can s q = true := by simpa using hc1
 refine sy_seq ?_
 refine sy_draw [0, 1, 3, 7, 15, 31, 63, 3, 255, 511, 1023, 2047] (.tk 0 (.tk 1 (.tk 2 (.tk 3 (.tk 4 (.tk 5 (.ld 6 (.ld 7 (.big 8 (.tk 9 (.tk 10 (.tk 11 .done)))))))))))) mixed (by kernel_rfl) ?_
 refine tk rfl (PE.move rfl) rfl ?_
 refine tk rfl (PE.move rfl) rfl ?_
 refine sy_case (t := 34) rfl (fun g34 => ?_) (fun g34 => ?_)
 subst g34
 refine tkG rfl rfl rfl rfl (PE.move rfl) rfl ?_
 refine tkG rfl rfl rfl rfl (PE.nilCheck rfl) rfl ?_
 refine tkG rfl rfl rfl rfl (PE.fieldAddr fo153_1 rfl) rfl ?_
 refine tkG rfl rfl rfl rfl (PE.fieldAddr fo148_0 rfl) rfl ?_
 refine ldG rfl rfl rfl rfl rfl (lh sc146 rfl rfl) rfl ?_
 refine ldG rfl rfl rfl rfl rfl (lhA [_, _, _] ag23 rfl rfl rfl) rfl ?_
 refine clFVG rfl rfl rfl rfl rfl (cal126) rfl rfl (c_may t s ba oa ca bt _ _) ?_
 refine bg (fun w hs => ⟨trivial, trivial, trivial⟩) ?_
 refine tkG rfl rfl rfl rfl (PE.not rfl) rfl ?_
 refine tk rfl (PE.pick rfl rfl rfl) rfl ?_
 refine tk rfl (PE.assign rfl) rfl ?_
 refine sy_cond rfl (fun hc2 => ?_) (fun hc2 => ?_)
 have hres := nxt_clash (bad := true) hrt hcan (by rw [Bool.true_and]; exact hc2)
 refine sy_seq ?_
 refine sy_tx' [0, 1, 2] rfl ?_
 refine sp rfl (PE.build (out := [_, _, _]) pl23 zl23 rfl rfl) rfl ?_
 refine sto rfl rfl rfl cn23 rfl rfl rfl rfl ?_
 refine sp rfl (PE.assign rfl) rfl ?_
 refine sy_ret ?_
 exact sy_return (vs := [_, _]) rfl (.cons (RV.cell rfl (lhA [_, _, _] ag23 rfl rfl rfl)) (.cons (RV.tmp rfl) .nil)) (by rw [hres]; rfl) ⟨rfl, rfl, rfl⟩ drp
 have hres := nxt_ok (bad := true) hrt hcan (by rw [Bool.true_and]; exact hc2)
 refine sy_skip ?_
 refine sy_seq ?_
 refine sy_draw [0, 1, 3, 7, 0, 0, 0, 127, 255, 511] (.tk 0 (.tk 1 (.tk 2 (.ld 3 (.ld 4 (.tk 5 (.tk 6 (.big 7 (.big 8 (.tk 9 .done)))))))))) mixed (by kernel_rfl) ?_
 refine tk rfl (PE.move rfl) rfl ?_
 refine tk rfl (PE.nilCheck rfl) rfl ?_
 refine tk rfl (PE.fieldAddr fo153_0 rfl) rfl ?_
 refine ld rfl rfl (lhA [_, _, _, _, _, _, _, _, _, _, _] ag26 rfl rfl rfl) rfl ?_
 refine ld rfl rfl (lhA [_, _, _] ag23 rfl rfl rfl) rfl ?_
 refine tk rfl (PE.move rfl) rfl ?_
 refine tk rfl (PE.move rfl) rfl ?_
 refine clV rfl cal102 rfl rfl (c_next t ht s hs r q _ ba oa ca h0 hq (can_le hcan) _ _) ?_
 refine bg (fun w hs => ⟨trivial, trivial, trivial⟩) ?_
 refine sto rfl rfl rfl cn23 rfl rfl rfl rfl ?_
 refine bg (fun w hs => trivial) ?_
 refine tk rfl (PE.assign rfl) rfl ?_
 refine sy_ret ?_
 exact sy_return (vs := [_, _]) rfl (.cons (RV.cell rfl (lhA [_, _, _] ag23 rfl rfl rfl)) (.cons (RV.tmp rfl) .nil)) (by rw [hres]; rfl) ⟨rfl, rfl, rfl⟩ drp
 subst g34
 have hres := nxt_ok (bad := false) hrt hcan rfl
 repeat refine tkN rfl rfl rfl rfl rfl rfl rfl rfl ?_
 repeat refine ldN rfl rfl rfl rfl rfl rfl rfl rfl ?_
 refine spN rfl rfl rfl rfl rfl rfl rfl rfl ?_
 refine bg (fun w hs => ⟨trivial, trivial, trivial⟩) ?_
 refine tkN rfl rfl rfl rfl rfl rfl rfl rfl ?_
 refine tk rfl (PE.pick rfl rfl rfl) rfl ?_
 refine tk rfl (PE.assign rfl) rfl ?_
 refine sy_condF rfl ?_
 refine sy_skip ?_
 refine sy_seq ?_
 refine sy_draw [0, 1, 3, 7, 0, 0, 0, 127, 255, 511] (.tk 0 (.tk 1 (.tk 2 (.ld 3 (.ld 4 (.tk 5 (.tk 6 (.big 7 (.big 8 (.tk 9 .done)))))))))) mixed (by kernel_rfl) ?_
 refine tk rfl (PE.move rfl) rfl ?_
 refine tk rfl (PE.nilCheck rfl) rfl ?_
 refine tk rfl (PE.fieldAddr fo153_0 rfl) rfl ?_
 refine ld rfl rfl (lhA [_, _, _, _, _, _, _, _, _, _, _] ag26 rfl rfl rfl) rfl ?_
 refine ld rfl rfl (lhA [_, _, _] ag23 rfl rfl rfl) rfl ?_
 refine tk rfl (PE.move rfl) rfl ?_
 refine tk rfl (PE.move rfl) rfl ?_
 refine clV rfl cal102 rfl rfl (c_next t ht s hs r q _ ba oa ca h0 hq (can_le hcan) _ _) ?_
 refine bg (fun w hs => ⟨trivial, trivial, trivial⟩) ?_
 refine sto rfl rfl rfl cn23 rfl rfl rfl rfl ?_
 refine bg (fun w hs => trivial) ?_
 refine tk rfl (PE.assign rfl) rfl ?_
 refine sy_ret ?_
 exact sy_return (vs := [_, _]) rfl (.cons (RV.cell rfl (lhA [_, _, _] ag23 rfl rfl rfl)) (.cons (RV.tmp rfl) .nil)) (by rw [hres]; rfl) ⟨rfl, rfl, rfl⟩ drp
theorem c_clone_rat (xs : List Rn) (a : Option Addr) (c : Nat) (hl : xs.length ≤ 1000000) (H : Heap) (R : Facts) [hR : MemRows a 2 (rrows xs) R] :
    Fn Try.prog 112 [.slice a xs.length c] H R (fun v H' R' => ∃ o : OSl 91 2 (rrows xs), v = o.fs ∧ H' = o.G ++ H ∧ R' = R ∧ (a.isSome = true → o.here)) := by
 refine fn_of Try.func112 rfl Try.ntmps112 rfl ?_
 refine sy_seq ?_
 refine sy_tx' [0] rfl ?_
 refine sp rfl (PE.assign rfl) rfl ?_
 refine sy_seq ?_
 refine sy_seq ?_
 refine sy_tx' [0, 1] rfl ?_
 refine sp rfl (PE.move rfl) rfl ?_
 refine sp rfl (PE.eqlNil isl24 rfl rfl) rfl ?_
 refine sy_cond rfl (fun hc0 => ?_) (fun hc0 => ?_)
 refine Sy.pre (fun w h => rows_nil (h.now hR.mem) hc0) (fun hnil => ?_)
 obtain rfl : xs = [] := by simpa [rrows] using hnil
 refine sy_seq ?_
 refine sy_tx' [0] rfl ?_
 refine sp rfl (PE.assign rfl) rfl ?_
 refine sy_ret ?_
 first
   | exact sy_return (vs := [_]) rfl (.cons (RV.tmp rfl) .nil) rfl ⟨o2.cast (by simp), rfl, rfl, rfl, fun _ => ho2⟩ (fun _ h => h)
   | exact sy_return (vs := [_]) rfl (.cons (RV.tmp rfl) .nil) rfl ⟨OSl.nil _ _, rfl, rfl, rfl, fun h => by cases a <;> simp_all⟩ (fun _ h => h)
 refine sy_skip ?_
 refine sy_seq ?_
 refine sy_tx' [0, 1, 2, 3] rfl ?_
 refine bsl0 rfl sl24 rfl (fun o5 ho5 => ?_)
 refine sp rfl (PE.move rfl) rfl ?_
 refine apOh (news := rrows xs) o5 rfl ap24 rfl rfl (rowsF) (by simp [rrows]) (by simp [onecells, rrows, rrow, Value.oneCell']) ⟨by simp [rrows]; omega, by simp [rrows]; omega⟩ rfl ho5 (fun o2 ho2 => ?_)
 refine sp rfl (PE.assign rfl) rfl ?_
 refine sy_ret ?_
 first
   | exact sy_return (vs := [_]) rfl (.cons (RV.tmp rfl) .nil) rfl ⟨o2.cast (by simp), rfl, rfl, rfl, fun _ => ho2⟩ (fun _ h => h)
   | exact sy_return (vs := [_]) rfl (.cons (RV.tmp rfl) .nil) rfl ⟨OSl.nil _ _, rfl, rfl, rfl, fun h => by cases a <;> simp_all⟩ (fun _ h => h)
theorem c_Year (t : Twn) (r : Int) (bad : Bool) (hl : t.rats.length ≤ 1000000) (ba oa ca : Nat) (H : Heap) (R : Facts) [hR : MemRows (some ⟨ba, oa, none⟩) 2 (rrows t.rats) R] :
    Fn Try.prog 55 [t.v (t.sl (some ⟨ba, oa, none⟩) ca), .int .i64 r, .bool bad] H R (fun v H' R' => R' = R ∧ (((yearP t r bad).1.rats = [] ∧ v = .tuple #[(yearP t r bad).1.v ((yearP t r bad).1.sl none 0), .int .i64 (yearP t r bad).2] ∧ H' = H) ∨
      ∃ b cap junk, v = .tuple #[(yearP t r bad).1.v ((yearP t r bad).1.sl (some ⟨b, 0, none⟩) cap), .int .i64 (yearP t r bad).2] ∧ H' = (b, cel 91 ((rrows (yearP t r bad).1.rats).flatten ++ junk)) :: H)) := by
 refine fn_of Try.func55 rfl Try.ntmps55 rfl ?_
 refine sy_seq ?_
 refine sy_tx' [0, 1, 2] rfl ?_
 refine bx rfl rfl rfl (fun b3 => ?_)
 refine alc rfl zl26 rfl (fun b6 => ?_)
 refine sp rfl (PE.assign rfl) rfl ?_
 refine sy_seq ?_
 refine sy_tx' [0, 1, 2, 3, 4, 5, 6] rfl ?_
 refine spL rfl rfl (lhA [_, _, _, _, _, _, _, _, _, _, _] ag26 rfl rfl rfl) rfl ?_
 refine cl rfl cal89 rfl rfl (c_opened t (by omega) ba oa ca _ _) ?_
 rintro _ _ _ (⟨hck, rfl, rfl, rfl⟩ | ⟨hck, bw, m, bt, rfl, rfl, rfl⟩)
 refine sp rfl (PE.move rfl) rfl ?_
 refine sp rfl (PE.extract rfl rfl) rfl ?_
 refine sp rfl (PE.extract rfl rfl) rfl ?_
 refine sp rfl (PE.assign rfl) rfl ?_
 refine sp rfl (PE.assign rfl) rfl ?_
 refine sy_seq ?_
 refine sy_seq ?_
 refine sy_tx' [0, 1] rfl ?_
 refine sp rfl (PE.move rfl) rfl ?_
 refine sp rfl (PE.neq rfl rfl) rfl ?_
 refine sy_condT (congrArg (fun b => some (Value.bool b)) (decide_eq_true hck)) ?_
 refine sy_seq ?_
 refine sy_tx' [0, 1, 2, 3] rfl ?_
 have e : yearP t r bad = (ztw, t.check) := by simp [yearP, hck]
 refine sp rfl (PE.build (out := [_, _, _, _, _, _, _, _, _, _, _]) pl26 zl26 rfl rfl) rfl ?_
 refine sp rfl (PE.move rfl) rfl ?_
 refine sto rfl rfl rfl cn26 rfl rfl rfl rfl ?_
 refine sp rfl (PE.assign rfl) rfl ?_
 refine sy_ret ?_
 rw [e]
 exact sy_return (vs := [_, _]) rfl (.cons (RV.cell rfl (lhA [_, _, _, _, _, _, _, _, _, _, _] ag26 rfl rfl rfl)) (.cons (RV.tmp rfl) .nil)) rfl ⟨rfl, .inl ⟨rfl, rfl, rfl⟩⟩ drp
 refine sp rfl (PE.move rfl) rfl ?_
 refine sp rfl (PE.extract rfl rfl) rfl ?_
 refine sp rfl (PE.extract rfl rfl) rfl ?_
 refine sp rfl (PE.assign rfl) rfl ?_
 refine sp rfl (PE.assign rfl) rfl ?_
 refine sy_seq ?_
 refine sy_seq ?_
 refine sy_tx' [0, 1] rfl ?_
 refine sp rfl (PE.move rfl) rfl ?_
 refine sp rfl (PE.neq rfl rfl) rfl ?_
 refine sy_condF (rfl) ?_
 refine sy_skip ?_
 refine sy_seq ?_
 refine sy_tx' [0, 1, 2, 3, 4, 5, 6, 7, 8, 9, 10, 11] rfl ?_
 have hok := (ok_of_check hck).1
 refine sp rfl (PE.move rfl) rfl ?_
 refine sp rfl (PE.fieldAddr fo26_0 rfl) rfl ?_
 refine spL rfl rfl (lhA [_, _, _] ag23 rfl rfl rfl) rfl ?_
 refine sp rfl (PE.move rfl) rfl ?_
 refine sp rfl (PE.move rfl) rfl ?_
 refine cl rfl cal110 rfl rfl (c_year t hok t.now hok.now r bad ba oa ca bt bw m _ _ _ _) ?_
 rintro _ _ _ ⟨rfl, rfl, rfl⟩
 refine sp rfl (PE.move rfl) rfl ?_
 refine sp rfl (PE.extract rfl rfl) rfl ?_
 refine sp rfl (PE.extract rfl rfl) rfl ?_
 refine alc rfl zl23 rfl (fun b10 => ?_)
 refine sto rfl rfl rfl cn23 rfl rfl rfl rfl ?_
 refine sp rfl (PE.assign rfl) rfl ?_
 refine sy_seq ?_
 refine sy_seq ?_
 refine sy_tx' [0, 1] rfl ?_
 refine sp rfl (PE.move rfl) rfl ?_
 refine sp rfl (PE.neq rfl rfl) rfl ?_
 refine sy_cond rfl (fun hc1 => ?_) (fun hc1 => ?_)
 try simp only [decide_eq_true_eq, decide_eq_false_iff_not, Bool.and_eq_true, Bool.or_eq_true, Bool.not_eq_true', Int.not_le, Int.not_lt] at hc1
 have e : yearP t r bad = (ztw, (nxtR t t.now r bad).2) := by simp [yearP, hck, hc1]
 rw [e]
 refine sy_seq ?_
 refine sy_tx' [0, 1, 2, 3] rfl ?_
 refine sp rfl (PE.build (out := [_, _, _, _, _, _, _, _, _, _, _]) pl26 zl26 rfl rfl) rfl ?_
 refine sp rfl (PE.move rfl) rfl ?_
 refine sto rfl rfl rfl cn26 rfl rfl rfl rfl ?_
 refine sp rfl (PE.assign rfl) rfl ?_
 refine sy_ret ?_
 first
   | exact sy_return (vs := [_, _]) rfl (.cons (RV.cell rfl (lhA [_, _, _, _, _, _, _, _, _, _, _] ag26 rfl rfl rfl)) (.cons (RV.tmp rfl) .nil)) rfl ⟨rfl, .inl ⟨rfl, rfl, rfl⟩⟩ (fun w h => ((((((h.del b10).del b6).del b3).del bw).del m)).ftail)
   | exact sy_return (vs := [_, _]) rfl (.cons (RV.cell rfl (lhA [_, _, _, _, _, _, _, _, _, _, _] ag26 rfl rfl rfl)) (.cons (RV.tmp rfl) .nil)) rfl ⟨rfl, .inr ⟨bc, cc, jc, rfl, rfl⟩⟩ (fun w h => (((((((h.del b10).del b11).del b6).del b3).del bw).del m)).ftail)
 try simp only [decide_eq_true_eq, decide_eq_false_iff_not, Bool.and_eq_true, Bool.or_eq_true, Bool.not_eq_true', Int.not_le, Int.not_lt] at hc1
 have e : yearP t r bad = ({ t with now := (nxtR t t.now r bad).1 }, 0) := by simp [yearP, hck, hc1]
 rw [e]
 refine sy_skip ?_
 refine sy_seq ?_
 refine sy_tx' [0, 1, 2] rfl ?_
 refine spL rfl rfl (lhA [_, _, _, _, _, _, _, _, _, _, _] ag26 rfl rfl rfl) rfl ?_
 refine alc rfl zl26 rfl (fun b11 => ?_)
 refine sto rfl rfl rfl cn26 rfl rfl rfl rfl ?_
 refine sy_seq ?_
 refine sy_draw [0, 0, 2, 6, 1, 31, 63, 127] (.ld 0 (.tk 1 (.ld 2 (.tk 4 (.big 3 (.big 5 (.tk 6 (.big 7 .done)))))))) mixed (by kernel_rfl) ?_
 refine ld rfl rfl (lhA [_, _, _] ag23 rfl rfl rfl) rfl ?_
 refine tk rfl (PE.fieldAddr fo26_8 rfl) rfl ?_
 refine ld rfl rfl (lh sc24 rfl rfl) rfl ?_
 refine tk rfl (PE.fieldAddr fo26_0 rfl) rfl ?_
 refine cl rfl cal112 rfl rfl (c_clone_rat t.rats _ ca hl _ _) ?_
 rintro _ _ _ ⟨oc, rfl, rfl, rfl, hoc⟩
 obtain ⟨bc, cc, jc, hc1, hc2⟩ := oc.own (hoc rfl)
 rw [hc1, hc2, show (rrows t.rats).length = t.rats.length from List.length_map _]
 refine bg (fun w hs => ⟨trivial, (lhA [_, _, _] ag23 rfl rfl rfl) w hs, trivial⟩) ?_
 refine sto rfl rfl rfl cn23 rfl rfl rfl rfl ?_
 refine bg (fun w hs => ⟨trivial, trivial⟩) ?_
 refine tk rfl (PE.fieldAddr fo26_8 rfl) rfl ?_
 refine sto rfl rfl rfl cn24 rfl rfl rfl rfl ?_
 refine bg (fun w hs => trivial) ?_
 refine sy_seq ?_
 refine sy_tx' [0, 1, 2] rfl ?_
 refine spL rfl rfl (lhA [_, _, _, _, _, _, _, _, _, _, _] ag26 rfl rfl rfl) rfl ?_
 refine sto rfl rfl rfl cn26 rfl rfl rfl rfl ?_
 refine sp rfl (PE.assign rfl) rfl ?_
 refine sy_ret ?_
 first
   | exact sy_return (vs := [_, _]) rfl (.cons (RV.cell rfl (lhA [_, _, _, _, _, _, _, _, _, _, _] ag26 rfl rfl rfl)) (.cons (RV.tmp rfl) .nil)) rfl ⟨rfl, .inl ⟨rfl, rfl, rfl⟩⟩ (fun w h => ((((((h.del b10).del b6).del b3).del bw).del m)).ftail)
   | exact sy_return (vs := [_, _]) rfl (.cons (RV.cell rfl (lhA [_, _, _, _, _, _, _, _, _, _, _] ag26 rfl rfl rfl)) (.cons (RV.tmp rfl) .nil)) rfl ⟨rfl, .inr ⟨bc, cc, jc, rfl, rfl⟩⟩ (fun w h => (((((((h.del b10).del b11).del b6).del b3).del bw).del m)).ftail)
end Go.Proofs.Ytaldphhdkmchhaa
namespace Go.Proofs.Ytaldphhdkmchhaa
set_option linter.unusedSimpArgs false
set_option linter.unusedVariables false
open Go
theorem cal55 : cal Try.prog 55 = true := by kernel_rfl
end Go.Proofs.Ytaldphhdkmchhaa
namespace Go.Proofs.Ytaldphhdkmchhaa
set_option linter.unusedSimpArgs false
set_option linter.unusedVariables false
open Go
theorem ap85 : apT Try.prog 85 = some (23, 3, 24) := by kernel_rfl
theorem ar170 : arN Try.prog 170 = some (12, 3) := by kernel_rfl
theorem isl80 : isSl Try.prog 80 = true := by kernel_rfl
theorem sl85 : slE Try.prog 85 = some (23, 3) := by kernel_rfl
theorem zl170 : zeroL Try.prog 170 = some ([.int .i64 0, .int .i64 0, .int .i64 0, .int .i64 0, .int .i64 0, .int .i64 0, .int .i64 0, .int .i64 0, .int .i64 0, .int .i64 0, .int .i64 0, .int .i64 0, .int .i64 0, .int .i64 0, .int .i64 0, .int .i64 0, .int .i64 0, .int .i64 0, .int .i64 0, .int .i64 0, .int .i64 0, .int .i64 0, .int .i64 0, .int .i64 0, .int .i64 0, .int .i64 0, .int .i64 0, .int .i64 0, .int .i64 0, .int .i64 0, .int .i64 0, .int .i64 0, .int .i64 0, .int .i64 0, .int .i64 0, .int .i64 0]) := by kernel_rfl
def glue (ss : List Sta) (p : List Sta × Int) : List Sta × Int := bif decide (p.2 ≠ 0) then ([], p.2) else (ss ++ p.1, 0)
def playS (t : Twn) : Sta → List (Int × Bool) → List Sta × Int
  | _, [] => ([], 0)
  | s, (r, b) :: l => bif decide ((nxtR t s r b).2 ≠ 0) then ([], (nxtR t s r b).2) else glue [(nxtR t s r b).1] (playS t (nxtR t s r b).1 l)
def playP (t : Twn) (rs : List Int) (bs : List Bool) : List Sta × Int := bif decide (t.check ≠ 0) then ([], t.check) else bif decide (rs.length ≠ bs.length) then ([], 2) else bif decide (12 < rs.length) then ([], 2) else playS t t.now (rs.zip bs)
theorem play_err {t : Twn} : ∀ {l : List (Int × Bool)} {s : Sta}, (playS t s l).2 ≠ 0 → (playS t s l).1 = []
  | [], s, h => rfl
  | (r, b) :: l, s, h => by
    unfold playS at h ⊢
    cases hc : decide ((nxtR t s r b).2 ≠ 0) with
    | true => rfl
    | false =>
      rw [hc] at h
      simp only [cond_false, glue] at h ⊢
      cases hd : decide ((playS t (nxtR t s r b).1 l).2 ≠ 0) with
      | true => rfl
      | false => rw [hd] at h; exact absurd rfl h
theorem glue_nil {t : Twn} (l : List (Int × Bool)) (s : Sta) : glue [] (playS t s l) = playS t s l := by
  unfold glue
  by_cases h : (playS t s l).2 = 0
  · simp [h]; rw [← h]
  · simp only [ne_eq, h, not_false_eq_true, decide_true, cond_true]; rw [← play_err h]
theorem glue_step {t : Twn} {ss : List Sta} {s : Sta} {r : Int} {b : Bool} {l : List (Int × Bool)} (h : (nxtR t s r b).2 = 0) : glue ss (playS t s ((r, b) :: l)) = glue (ss ++ [(nxtR t s r b).1]) (playS t (nxtR t s r b).1 l) := by
  rw [playS, decide_eq_false (by simp [h]), cond_false]
  unfold glue
  cases hd : decide ((playS t (nxtR t s r b).1 l).2 ≠ 0) with
  | true => simp only [cond_true]; rw [hd]; rfl
  | false => simp
theorem glue_bad {t : Twn} {ss : List Sta} {s : Sta} {r : Int} {b : Bool} {l : List (Int × Bool)} (h : (nxtR t s r b).2 ≠ 0) : glue ss (playS t s ((r, b) :: l)) = ([], (nxtR t s r b).2) := by
  rw [playS, decide_eq_true h, cond_true]
  unfold glue
  rw [decide_eq_true h]; rfl
theorem zip_drop {rs : List Int} {bs : List Bool} {k : Nat} {r : Int} {b : Bool} (hr : rs[k]? = some r) (hb : bs[k]? = some b) : (rs.zip bs).drop k = (r, b) :: (rs.zip bs).drop (k + 1) := drop_get (by rw [List.getElem?_zip_eq_some]; exact ⟨hr, hb⟩)
theorem zip_end {rs : List Int} {bs : List Bool} {k : Nat} (h : rs.length ≤ k) : (rs.zip bs).drop k = [] := List.drop_eq_nil_of_le (by rw [List.length_zip]; omega)
theorem play_hit {t : Twn} {rs : List Int} {bs : List Bool} (h0 : t.check = 0) (h1 : rs.length = bs.length) (h2 : rs.length ≤ 12) : playP t rs bs = playS t t.now (rs.zip bs) := by
  unfold playP; rw [decide_eq_false (show ¬ 12 < rs.length by omega)]; simp [h0, h1]
theorem play_many {t : Twn} {rs : List Int} {bs : List Bool} (h0 : t.check = 0) (h1 : rs.length ≠ bs.length ∨ 12 < rs.length) : playP t rs bs = ([], 2) := by
  unfold playP
  by_cases h : rs.length = bs.length
  · rw [decide_eq_true (show 12 < rs.length by omega)]; simp [h0]
  · simp [h0, h]
theorem sr_three (l : List Sta) : ∀ q ∈ srows l, q.length = 3 := fun q hq => by obtain ⟨x, _, rfl⟩ := List.mem_map.1 hq; rfl
theorem sr_len (l : List Sta) : (srows l).flatten.length = l.length * 3 := by rw [flat_len (sr_three l)]; simp [srows]
theorem sr_snoc (l : List Sta) (s : Sta) : (srows (l ++ [s])).flatten = (srows l).flatten ++ srow s := by simp [srows]
theorem spl_played {ss : List Sta} {s : Sta} {k : Nat} (hk : ss.length = k) (h : k < 12) : spl ((srows ss).flatten ++ List.replicate (36 - 3 * k) (Value.int .i64 0)) (0 + (k : Int).toNat * 3) (srow s) = (srows (ss ++ [s])).flatten ++ List.replicate (36 - 3 * (k + 1)) (.int .i64 0) := by
  have e1 : 0 + (k : Int).toNat * 3 = (srows ss).flatten.length := by rw [sr_len, hk]; simp
  unfold spl
  rw [e1, List.take_left, sr_snoc, ← List.drop_drop, List.drop_left, List.drop_replicate]
  rw [show 36 - 3 * k - (srow s).length = 36 - 3 * (k + 1) from by show 36 - 3 * k - 3 = _; omega]
theorem St.stas {b e : Nat} {l : List Sta} {junk : List Value} {H : Heap} {R : Facts} {w : World} (h : St ((b, cel e ((srows l).flatten ++ junk)) :: H) R w) : St H (RowsA (some ⟨b, 0, none⟩) 3 (srows l) :: R) w := St.rows h (sr_three l)
theorem St.norows3 {sz : Nat} {H : Heap} {R : Facts} {w : World} (h : St H R w) : St H (RowsA none sz [] :: R) w := St.also h (fun _ _ i row hi => by simp at hi)
theorem sr_one (l : List Sta) : (srows l).flatten.all (·.oneCell') = true := List.all_eq_true.2 fun v hv => by
  obtain ⟨q, hq, h⟩ := List.mem_flatten.1 hv
  obtain ⟨x, _, rfl⟩ := List.mem_map.1 hq
  simp only [srow, List.mem_cons, List.not_mem_nil, or_false] at h
  rcases h with rfl | rfl | rfl <;> rfl
theorem c_Play (t : Twn) (hl : t.rats.length ≤ 9223372036854775807) (rs : List Int) (bs : List Bool) (a a2 : Option Addr) (c c2 : Nat) (hl1 : rs.length ≤ 9223372036854775807) (hl2 : bs.length ≤ 9223372036854775807) (ba oa ca : Nat) (H : Heap) (R : Facts) [hR : MemRows (some ⟨ba, oa, none⟩) 2 (rrows t.rats) R] [hR1 : MemRows a 1 (irows rs) R] [hR2 : MemRows a2 1 (brows bs) R] :
    Fn Try.prog 52 [t.v (t.sl (some ⟨ba, oa, none⟩) ca), .slice a rs.length c, .slice a2 bs.length c2] H R (fun v H' R' => ∃ a' c', v = .tuple #[.slice a' (playP t rs bs).1.length c', .int .i64 (playP t rs bs).2] ∧ H' = H ∧ R' = RowsA a' 3 (srows (playP t rs bs).1) :: R) := by
 refine fn_of Try.func52 rfl Try.ntmps52 rfl ?_
 refine sy_seq ?_
 refine sy_tx' [0, 1, 2] rfl ?_
 refine bx rfl rfl rfl (fun b3 => ?_)
 refine sp rfl (PE.assign rfl) rfl ?_
 refine sp rfl (PE.assign rfl) rfl ?_
 refine sy_seq ?_
 refine sy_tx' [0, 1, 2, 3, 4, 5, 6] rfl ?_
 refine spL rfl rfl (lhA [_, _, _, _, _, _, _, _, _, _, _] ag26 rfl rfl rfl) rfl ?_
 refine cl rfl cal89 rfl rfl (c_opened t hl ba oa ca _ _) ?_
 rintro _ _ _ (⟨hck, rfl, rfl, rfl⟩ | ⟨hck, bw, m, bt, rfl, rfl, rfl⟩)
 refine sp rfl (PE.move rfl) rfl ?_
 refine sp rfl (PE.extract rfl rfl) rfl ?_
 refine sp rfl (PE.extract rfl rfl) rfl ?_
 refine sp rfl (PE.assign rfl) rfl ?_
 refine sp rfl (PE.assign rfl) rfl ?_
 refine sy_seq ?_
 refine sy_block ?_
 refine sy_seq ?_
 refine sy_tx' [0, 1, 2] rfl ?_
 refine sp rfl (PE.move rfl) rfl ?_
 refine sp rfl (PE.neq rfl rfl) rfl ?_
 refine sp rfl (PE.assign rfl) rfl ?_
 refine sy_condT (congrArg (fun b => some (Value.bool b)) (decide_eq_true hck)) ?_
 refine sy_seq ?_
 refine sy_tx' [0, 1, 2] rfl ?_
 have e : playP t rs bs = ([], t.check) := by simp [playP, hck]
 refine sp rfl (PE.move rfl) rfl ?_
 refine sp rfl (PE.assign rfl) rfl ?_
 refine sp rfl (PE.assign rfl) rfl ?_
 refine sy_ret ?_
 rw [e]
 exact sy_return (vs := [_, _]) rfl (.cons (RV.tmp rfl) (.cons (RV.tmp rfl) .nil)) rfl ⟨none, 0, rfl, rfl, rfl⟩ (fun w h => St.norows3 (h.del b3))
 refine sp rfl (PE.move rfl) rfl ?_
 refine sp rfl (PE.extract rfl rfl) rfl ?_
 refine sp rfl (PE.extract rfl rfl) rfl ?_
 refine sp rfl (PE.assign rfl) rfl ?_
 refine sp rfl (PE.assign rfl) rfl ?_
 refine sy_seq ?_
 refine sy_block ?_
 refine sy_seq ?_
 refine sy_tx' [0, 1, 2] rfl ?_
 refine sp rfl (PE.move rfl) rfl ?_
 refine sp rfl (PE.neq rfl rfl) rfl ?_
 refine sp rfl (PE.assign rfl) rfl ?_
 refine sy_condF (rfl) ?_
 refine sy_seq ?_
 refine sy_tx' [0, 1, 2, 3, 4, 5, 6, 7, 8, 9, 10] rfl ?_
 have hok := (ok_of_check hck).1
 refine sp rfl (PE.move rfl) rfl ?_
 refine sp rfl (PE.lenSl isl42 rfl) rfl ?_
 refine sp rfl (PE.move rfl) rfl ?_
 refine sp rfl (PE.lenSl isl80 rfl) rfl ?_
 refine sp rfl (PE.neq rfl rfl) rfl ?_
 refine sp rfl (PE.move rfl) rfl ?_
 refine sy_case (t := 30) rfl (fun g30 => ?_) (fun g30 => ?_)
 try simp only [decide_eq_true_eq, decide_eq_false_iff_not, Bool.and_eq_true, Bool.or_eq_true, Bool.not_eq_true', Int.not_le, Int.not_lt] at g30
 have e := play_many hck (rs := rs) (bs := bs) (.inl (by omega))
 repeat refine spN rfl rfl rfl rfl rfl rfl rfl rfl ?_
 refine sp rfl (PE.pick rfl rfl rfl) rfl ?_
 refine sp rfl (PE.assign rfl) rfl ?_
 refine sy_condT rfl ?_
 refine sy_seq ?_
 refine sy_tx' [0, 1] rfl ?_
 refine sp rfl (PE.assign rfl) rfl ?_
 refine sp rfl (PE.assign rfl) rfl ?_
 refine sy_ret ?_
 first
   | (rw [e2]; exact sy_return (vs := [_, _]) rfl (.cons (RV.tmp rfl) (.cons (RV.tmp rfl) .nil)) rfl ⟨some ⟨b64, 0, none⟩, ss.length, rfl, rfl, rfl⟩ (fun w h => ((((h.del b11).del b10).del bw).del m).del b3 |> fun h => St.sub h))
   | (rw [e2]; exact sy_return (vs := [_, _]) rfl (.cons (RV.tmp rfl) (.cons (RV.tmp rfl) .nil)) rfl ⟨none, 0, rfl, rfl, rfl⟩ (fun w h => St.norows3 ((((((h.del b11).del b10).del bw).del m).del b3).ftail)))
   | (rw [e]; exact sy_return (vs := [_, _]) rfl (.cons (RV.tmp rfl) (.cons (RV.tmp rfl) .nil)) rfl ⟨none, 0, rfl, rfl, rfl⟩ (fun w h => St.norows3 ((((h.del bw).del m).del b3).ftail)))
 try simp only [decide_eq_true_eq, decide_eq_false_iff_not, Bool.and_eq_true, Bool.or_eq_true, Bool.not_eq_true', Int.not_le, Int.not_lt] at g30
 refine spG rfl rfl rfl rfl (PE.move rfl) rfl ?_
 refine spG rfl rfl rfl rfl (PE.lenSl isl42 rfl) rfl ?_
 refine spG rfl rfl rfl rfl (PE.gtr rfl rfl) rfl ?_
 refine sp rfl (PE.pick rfl rfl rfl) rfl ?_
 refine sp rfl (PE.assign rfl) rfl ?_
 refine sy_cond rfl (fun hc1 => ?_) (fun hc1 => ?_)
 try simp only [decide_eq_true_eq, decide_eq_false_iff_not, Bool.and_eq_true, Bool.or_eq_true, Bool.not_eq_true', Int.not_le, Int.not_lt] at hc1
 have e := play_many hck (rs := rs) (bs := bs) (.inr (by omega))
 refine sy_seq ?_
 refine sy_tx' [0, 1] rfl ?_
 refine sp rfl (PE.assign rfl) rfl ?_
 refine sp rfl (PE.assign rfl) rfl ?_
 refine sy_ret ?_
 first
   | (rw [e2]; exact sy_return (vs := [_, _]) rfl (.cons (RV.tmp rfl) (.cons (RV.tmp rfl) .nil)) rfl ⟨some ⟨b64, 0, none⟩, ss.length, rfl, rfl, rfl⟩ (fun w h => ((((h.del b11).del b10).del bw).del m).del b3 |> fun h => St.sub h))
   | (rw [e2]; exact sy_return (vs := [_, _]) rfl (.cons (RV.tmp rfl) (.cons (RV.tmp rfl) .nil)) rfl ⟨none, 0, rfl, rfl, rfl⟩ (fun w h => St.norows3 ((((((h.del b11).del b10).del bw).del m).del b3).ftail)))
   | (rw [e]; exact sy_return (vs := [_, _]) rfl (.cons (RV.tmp rfl) (.cons (RV.tmp rfl) .nil)) rfl ⟨none, 0, rfl, rfl, rfl⟩ (fun w h => St.norows3 ((((h.del bw).del m).del b3).ftail)))
 try simp only [decide_eq_true_eq, decide_eq_false_iff_not, Bool.and_eq_true, Bool.or_eq_true, Bool.not_eq_true', Int.not_le, Int.not_lt] at hc1
 have e := play_hit hck (rs := rs) (bs := bs) (by omega) (by omega)
 refine sy_skip ?_
 refine sy_seq ?_
 refine sy_tx' [0] rfl ?_
 refine alc rfl zl170 rfl (fun b10 => ?_)
 refine sy_seq ?_
 refine sy_tx' [0, 1, 2, 3] rfl ?_
 refine sp rfl (PE.fieldAddr fo26_0 rfl) rfl ?_
 refine spL rfl rfl (lhA [_, _, _] ag23 rfl rfl rfl) rfl ?_
 refine alc rfl zl23 rfl (fun b11 => ?_)
 refine sto rfl rfl rfl cn23 rfl rfl rfl rfl ?_
 refine sy_seq ?_
 refine sy_seq ?_
 refine sy_tx' [0, 1, 2] rfl ?_
 refine sp rfl (PE.move rfl) rfl ?_
 refine sp rfl (PE.lenSl isl42 rfl) rfl ?_
 refine sp rfl (PE.move rfl) rfl ?_
 refine sy_block ?_
 refine sy_loop (ι := {x : Nat × List Sta × Sta // x.1 ≤ rs.length ∧ x.2.1.length = x.1 ∧ x.2.2.right t = true ∧ playS t t.now (rs.zip bs) = glue x.2.1 (playS t x.2.2 ((rs.zip bs).drop x.1))}) (fun x => ⟨[(1, .slice a rs.length c), (2, .slice a2 bs.length c2), (8, .pointer (some ⟨bw, 0, none⟩)), (10, .pointer (some ⟨b10, 0, none⟩)), (11, .pointer (some ⟨b11, 0, none⟩)), (37, .slice a rs.length c), (38, .int .i64 rs.length), (39, .int .i64 x.1.1)], (b11, cel 23 [.int .i64 x.1.2.2.stock, .int .i64 x.1.2.2.short, .int .i64 x.1.2.2.dry]) :: (b10, cel 170 ((srows x.1.2.1).flatten ++ List.replicate (36 - 3 * x.1.1) (Value.int .i64 0))) :: (bw, cel 153 (rcs t (t.sl (some ⟨ba, oa, none⟩) ca) bt (List.replicate 496 0) (.slice none 0 0) m)) :: (m, mapO true []) :: (b3, cel 26 (twl t (t.sl (some ⟨ba, oa, none⟩) ca))) :: H, RowsA (some ⟨bt, 0, none⟩) 11 [twl t (t.sl (some ⟨ba, oa, none⟩) ca)] :: R⟩) (fun x => rs.length - x.1.1) ⟨(0, [], t.now), by omega, rfl, hok.now, (glue_nil _ _).symm⟩ ?_ (fun x => ?_)
 exact sy_at (by repeat' first | exact Sub.nil | apply Sub.cons | rfl | (simp [lk]; omega)) (fun _ h => h)
 obtain ⟨⟨k, ss, s⟩, hk, hsl, hsr, hpl⟩ := x
 dsimp only at hk hsl hsr hpl ⊢
 have ht := hok
 refine sy_seq ?_
 refine sy_tx' [0] rfl ?_
 refine sp rfl (PE.lss rfl rfl) rfl ?_
 refine sy_seq ?_
 refine sy_cond rfl (fun hc2 => ?_) (fun hc2 => ?_)
 try simp only [decide_eq_true_eq, decide_eq_false_iff_not, Bool.and_eq_true, Bool.or_eq_true, Bool.not_eq_true', Int.not_le, Int.not_lt] at hc2
 obtain ⟨r, hr⟩ : ∃ r, rs[k]? = some r := ⟨_, List.getElem?_eq_getElem (by omega)⟩
 obtain ⟨b, hb⟩ : ∃ b, bs[k]? = some b := ⟨_, List.getElem?_eq_getElem (by omega)⟩
 rw [zip_drop hr hb] at hpl
 refine sy_addr (a := a) (sz := 1) (rows := irows rs) (by intro h0; simp [irows] at h0; simp [h0] at hr) (fun br or_ he => ?_)
 subst he
 refine sy_addr (a := a2) (sz := 1) (rows := brows bs) (by intro h0; simp [brows] at h0; simp [h0] at hb) (fun bb ob he => ?_)
 subst he
 refine sy_skip ?_
 refine sy_seq ?_
 refine sy_block ?_
 refine sy_seq ?_
 refine sy_tx' [0, 1, 2, 3, 4] rfl ?_
 refine sp rfl (PE.move rfl) rfl ?_
 refine sp rfl (PE.indexAddr el42 rfl rfl (by omega) (by omega)) rfl ?_
 refine spL rfl rfl (lf0 (x := .int .i64 r) sc3 (by simp [irows, hr]; rfl) rfl) rfl ?_
 refine sp rfl (PE.assign rfl) rfl ?_
 refine sp rfl (PE.assign rfl) rfl ?_
 refine sy_seq ?_
 refine sy_seq ?_
 refine sy_draw [0, 0, 0, 0, 0, 24, 56, 127, 255, 511, 511, 1023, 4095] (.tk 0 (.ld 1 (.tk 2 (.tk 3 (.tk 4 (.tk 5 (.ld 6 (.big 7 (.tk 8 (.tk 9 (.tk 10 (.big 11 (.tk 12 .done))))))))))))) mixed (by kernel_rfl) ?_
 refine tk rfl (PE.move rfl) rfl ?_
 refine ld rfl rfl (lhA [_, _, _] ag23 rfl rfl rfl) rfl ?_
 refine tk rfl (PE.move rfl) rfl ?_
 refine tk rfl (PE.move rfl) rfl ?_
 refine tk rfl (PE.move rfl) rfl ?_
 refine tk rfl (PE.indexAddr el80 rfl rfl (by omega) (by omega)) rfl ?_
 refine ld rfl rfl (lf0 (x := .bool b) sc4 (br_get hb) rfl) rfl ?_
 refine cl rfl cal110 rfl rfl (c_year t hok s hsr r b ba oa ca bt bw m _ _ _ _) ?_
 rintro _ _ _ ⟨rfl, rfl, rfl⟩
 refine bg (fun w hs => ⟨trivial, trivial, trivial⟩) ?_
 refine tk rfl (PE.move rfl) rfl ?_
 refine tk rfl (PE.extract rfl rfl) rfl ?_
 refine tk rfl (PE.extract rfl rfl) rfl ?_
 refine sto rfl rfl rfl cn23 rfl rfl rfl rfl ?_
 refine bg (fun w hs => trivial) ?_
 refine tk rfl (PE.assign rfl) rfl ?_
 refine sy_seq ?_
 refine sy_tx' [0, 1] rfl ?_
 refine sp rfl (PE.move rfl) rfl ?_
 refine sp rfl (PE.neq rfl rfl) rfl ?_
 refine sy_cond rfl (fun hc3 => ?_) (fun hc3 => ?_)
 try simp only [decide_eq_true_eq, decide_eq_false_iff_not, Bool.and_eq_true, Bool.or_eq_true, Bool.not_eq_true', Int.not_le, Int.not_lt] at hc3
 have e2 : playP t rs bs = ([], (nxtR t s r b).2) := by rw [e, hpl, glue_bad hc3]
 refine sy_seq ?_
 refine sy_tx' [0, 1, 2] rfl ?_
 refine sp rfl (PE.move rfl) rfl ?_
 refine sp rfl (PE.assign rfl) rfl ?_
 refine sp rfl (PE.assign rfl) rfl ?_
 refine sy_ret ?_
 first
   | (rw [e2]; exact sy_return (vs := [_, _]) rfl (.cons (RV.tmp rfl) (.cons (RV.tmp rfl) .nil)) rfl ⟨some ⟨b64, 0, none⟩, ss.length, rfl, rfl, rfl⟩ (fun w h => ((((h.del b11).del b10).del bw).del m).del b3 |> fun h => St.sub h))
   | (rw [e2]; exact sy_return (vs := [_, _]) rfl (.cons (RV.tmp rfl) (.cons (RV.tmp rfl) .nil)) rfl ⟨none, 0, rfl, rfl, rfl⟩ (fun w h => St.norows3 ((((((h.del b11).del b10).del bw).del m).del b3).ftail)))
   | (rw [e]; exact sy_return (vs := [_, _]) rfl (.cons (RV.tmp rfl) (.cons (RV.tmp rfl) .nil)) rfl ⟨none, 0, rfl, rfl, rfl⟩ (fun w h => St.norows3 ((((h.del bw).del m).del b3).ftail)))
 try simp only [decide_eq_true_eq, decide_eq_false_iff_not, Bool.and_eq_true, Bool.or_eq_true, Bool.not_eq_true', Int.not_le, Int.not_lt] at hc3
 refine sy_skip ?_
 refine sy_tx' [0, 1, 2, 3] rfl ?_
 refine sp rfl (PE.move rfl) rfl ?_
 refine spL rfl rfl (lhA [_, _, _] ag23 rfl rfl rfl) rfl ?_
 refine sp rfl (PE.indexArr ar170 rfl rfl (by omega) (by omega)) rfl ?_
 refine stoE (l' := (srows (ss ++ [(nxtR t s r b).1])).flatten ++ List.replicate (36 - 3 * (k + 1)) (Value.int .i64 0)) rfl rfl rfl cn23 rfl rfl rfl (spl_played hsl (by omega)) (by rw [List.length_append, sr_len, hsl, List.length_replicate]; show 0 + ((k : Nat) : Int).toNat * 3 + 3 ≤ _; omega) ?_
 refine sy_tx' [0, 1] rfl ?_
 refine sp rfl (PE.add rfl rfl (by omega)) rfl ?_
 refine sp rfl (PE.move rfl) rfl ?_
 exact sy_next ⟨(k + 1, ss ++ [(nxtR t s r b).1], (nxtR t s r b).1), by omega, by simp [hsl], nxt_right ht hsr (Decidable.not_not.1 hc3), by rw [hpl, glue_step (Decidable.not_not.1 hc3)]⟩ (by dsimp only; omega) (by repeat' first | exact Sub.nil | apply Sub.cons | rfl | (simp [lk]; omega)) (fun _ h => h)
 try simp only [decide_eq_true_eq, decide_eq_false_iff_not, Bool.and_eq_true, Bool.or_eq_true, Bool.not_eq_true', Int.not_le, Int.not_lt] at hc2
 obtain rfl : k = rs.length := by omega
 rw [zip_end (Nat.le_refl _)] at hpl
 have e2 : playP t rs bs = (ss, 0) := by rw [e, hpl]; simp [glue, playS]
 refine sy_exit ?_
 repeat refine sy_tx ?_
 refine sy_bx ?_
 refine sy_seq ?_
 refine sy_tx' [0, 1, 2, 3] rfl ?_
 refine sp rfl (PE.move rfl) rfl ?_
 refine sp rfl (PE.lenSl isl42 rfl) rfl ?_
 refine mkS rfl ap85 zl23 rfl rfl (Nat.le_refl _) ⟨by omega, by omega⟩ rfl (fun b64 => ?_)
 refine sp rfl (PE.assign rfl) rfl ?_
 refine sy_seq ?_
 refine sy_tx' [0, 1, 2] rfl ?_
 refine sp rfl (PE.move rfl) rfl ?_
 refine sp rfl (PE.slArr ar170 rfl) rfl ?_
 refine cpy ((srows ss).flatten) rfl sl85 rfl rfl (by rw [sr_len, hsl]; show _ = min 12 rs.length * 3; rw [Nat.min_eq_right (by omega)]) (fun w hs j v hj => ?_) (sr_one ss) (by rw [sr_len, hsl, ← flat_repl, flat_len (sz := 3) (fun q hq => by rw [(List.mem_replicate.1 hq).2]; rfl)]; simp) rfl ?_
 · have hb := hs.held (b10, _) (Mem1.mem (b := b10))
   rw [Nat.zero_add, cell_of hb, List.getElem?_toArray, List.getElem?_append_left (List.getElem?_eq_some_iff.1 hj).1]
   exact hj
 rw [show spl (repl rs.length [Value.int .i64 0, .int .i64 0, .int .i64 0]) 0 (srows ss).flatten = (srows ss).flatten ++ [] from by
   unfold spl
   rw [List.take_zero, List.nil_append, List.drop_eq_nil_of_le]
   rw [sr_len, hsl, ← flat_repl, flat_len (sz := 3) (fun q hq => by rw [(List.mem_replicate.1 hq).2]; rfl)]; simp]
 refine sy_pull b64 ?_
 refine Sy.heap (fun w h => St.stas h) ?_
 rw [← hsl]
 refine sy_seq ?_
 refine sy_tx' [0, 1, 2] rfl ?_
 refine sp rfl (PE.move rfl) rfl ?_
 refine sp rfl (PE.assign rfl) rfl ?_
 refine sp rfl (PE.assign rfl) rfl ?_
 refine sy_ret ?_
 first
   | (rw [e2]; exact sy_return (vs := [_, _]) rfl (.cons (RV.tmp rfl) (.cons (RV.tmp rfl) .nil)) rfl ⟨some ⟨b64, 0, none⟩, ss.length, rfl, rfl, rfl⟩ (fun w h => ((((h.del b11).del b10).del bw).del m).del b3 |> fun h => St.sub h))
   | (rw [e2]; exact sy_return (vs := [_, _]) rfl (.cons (RV.tmp rfl) (.cons (RV.tmp rfl) .nil)) rfl ⟨none, 0, rfl, rfl, rfl⟩ (fun w h => St.norows3 ((((((h.del b11).del b10).del bw).del m).del b3).ftail)))
   | (rw [e]; exact sy_return (vs := [_, _]) rfl (.cons (RV.tmp rfl) (.cons (RV.tmp rfl) .nil)) rfl ⟨none, 0, rfl, rfl, rfl⟩ (fun w h => St.norows3 ((((h.del bw).del m).del b3).ftail)))
end Go.Proofs.Ytaldphhdkmchhaa
namespace Go.Proofs.Ytaldphhdkmchhaa
set_option linter.unusedSimpArgs false
set_option linter.unusedVariables false
open Go
theorem cal52 : cal Try.prog 52 = true := by kernel_rfl
theorem el85 : elN Try.prog 85 = some 3 := by kernel_rfl
theorem isl85 : isSl Try.prog 85 = true := by kernel_rfl
end Go.Proofs.Ytaldphhdkmchhaa
