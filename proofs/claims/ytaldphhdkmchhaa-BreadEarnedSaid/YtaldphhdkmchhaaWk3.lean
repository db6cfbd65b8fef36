/- Walks of the functions of the program: what each returns and leaves in memory, under the conditions that its theorem names. -/
import Derived.Test.YtaldphhdkmchhaaTy
import Derived.Test.YtaldphhdkmchhaaMa
import Derived.Test.YtaldphhdkmchhaaWk2
namespace Go.Proofs.Ytaldphhdkmchhaa
set_option linter.unusedSimpArgs false
set_option linter.unusedVariables false
open Go
theorem ar144 : arN Try.prog 144 = some (4, 1) := by kernel_rfl
theorem ar145 : arN Try.prog 145 = some (4, 4) := by kernel_rfl
theorem ar150 : arN Try.prog 150 = some (31, 16) := by kernel_rfl
theorem cal102 : cal Try.prog 102 = true := by kernel_rfl
theorem cal126 : cal Try.prog 126 = true := by kernel_rfl
theorem cal67 : cal Try.prog 67 = true := by kernel_rfl
theorem cal94 : cal Try.prog 94 = true := by kernel_rfl
theorem cal95 : cal Try.prog 95 = true := by kernel_rfl
theorem cal96 : cal Try.prog 96 = true := by kernel_rfl
theorem fo148_0 : fOff Try.prog 148 0 = some 0 := by kernel_rfl
theorem fo153_0 : fOff Try.prog 153 0 = some 0 := by kernel_rfl
theorem fo153_1 : fOff Try.prog 153 1 = some 11 := by kernel_rfl
theorem fo153_2 : fOff Try.prog 153 2 = some 12 := by kernel_rfl
theorem pl148 : placeL Try.prog 148 = some [(0, 1)] := by kernel_rfl
theorem pl153 : placeL Try.prog 153 = some [(0, 11), (11, 1), (12, 496), (508, 1), (509, 1)] := by kernel_rfl
theorem sc146 : scal Try.prog 146 = true := by kernel_rfl
theorem zl148 : zeroL Try.prog 148 = some ([.nilFunc]) := by kernel_rfl
theorem zl153 : zeroL Try.prog 153 = some (List.replicate 10 (.int .i64 0) ++ [.slice none 0 0] ++ [.nilFunc] ++ List.replicate 496 (.int .i64 0) ++ [.slice none 0 0] ++ [.map none]) := by kernel_rfl
abbrev fvv (bt : Nat) : Value := .func (.func 126) #[] #[.pointer (some ⟨bt, 0, none⟩)]
/-- The cells of a rule. -/
def rcs (t : Twn) (sl : Value) (bt : Nat) (y : List Int) (fs : Value) (m : Nat) : List Value := twl t sl ++ fvv bt :: (ints y ++ [fs, .map (some m)])
theorem ints_get {y : List Int} {i : Nat} {x : Int} (h : y[i]? = some x) : (ints y)[i]? = some (.int .i64 x) := by simp [ints, h]
theorem ints_length (y : List Int) : (ints y).length = y.length := by simp [ints]
theorem ints_set (y : List Int) (i : Nat) (x : Int) : ints (y.set i x) = (ints y).set i (.int .i64 x) := by simp [ints, List.map_set]
theorem rc_cell {t : Twn} {sl : Value} {bt m i k : Nat} {y : List Int} {fs : Value} {x : Int} (h : y[i]? = some x) (e : k = 12 + i) : (rcs t sl bt y fs m)[k]? = some (.int .i64 x) := by
  subst e
  have hi : i < y.length := (List.getElem?_eq_some_iff.1 h).1
  show (([_, _, _, _, _, _, _, _, _, _, _, _] ++ (ints y ++ [fs, .map (some m)]) : List Value))[12 + i]? = _
  rw [List.getElem?_append_right (by simp)]
  simp only [List.length_cons, List.length_nil, Nat.zero_add, Nat.add_sub_cancel_left]
  rw [List.getElem?_append_left (by rw [ints_length]; exact hi)]
  exact ints_get h
theorem rc_len {t : Twn} {sl : Value} {bt m : Nat} {y : List Int} {fs : Value} (hy : y.length = 496) : (rcs t sl bt y fs m).length = 510 := by
  simp [rcs, ints_length, hy]
theorem rc_tail {t : Twn} {sl : Value} {bt m : Nat} {y : List Int} {fs : Value} (hy : y.length = 496) : (rcs t sl bt y fs m).drop 508 = [fs, .map (some m)] := by
  show (([_, _, _, _, _, _, _, _, _, _, _, _] ++ (ints y ++ [fs, .map (some m)]) : List Value)).drop 508 = _
  rw [← List.append_assoc, List.drop_left' (by simp [ints_length, hy])]
theorem rc_fates {t : Twn} {sl : Value} {bt m : Nat} {y : List Int} {fs : Value} (hy : y.length = 496) : (rcs t sl bt y fs m)[508]? = some fs := by
  have := congrArg (fun l : List Value => l[0]?) (rc_tail (t := t) (sl := sl) (bt := bt) (m := m) (fs := fs) hy)
  simpa [List.getElem?_drop] using this
theorem rc_bads {t : Twn} {sl : Value} {bt m : Nat} {y : List Int} {fs : Value} (hy : y.length = 496) : (rcs t sl bt y fs m)[509]? = some (.map (some m)) := by
  have := congrArg (fun l : List Value => l[1]?) (rc_tail (t := t) (sl := sl) (bt := bt) (m := m) (fs := fs) hy)
  simpa [List.getElem?_drop] using this
theorem spl_set {l : List Value} {k : Nat} {v : Value} (h : k < l.length) : spl l k [v] = l.set k v := by
  simp only [spl, List.length_singleton, List.append_assoc, List.singleton_append]
  rw [List.set_eq_take_append_cons_drop, if_pos h]
theorem rc_put {t : Twn} {sl : Value} {bt m i k : Nat} {y : List Int} {fs : Value} (x : Int) (hi : i < y.length) (e : k = 12 + i) : spl (rcs t sl bt y fs m) k [.int .i64 x] = rcs t sl bt (y.set i x) fs m := by
  subst e
  rw [spl_set (by simp [rcs, ints_length]; omega)]
  show (([_, _, _, _, _, _, _, _, _, _, _, _] ++ (ints y ++ [fs, .map (some m)]) : List Value)).set (12 + i) _ = [_, _, _, _, _, _, _, _, _, _, _, _] ++ (ints (y.set i x) ++ [fs, .map (some m)])
  rw [List.set_append_right _ _ (by simp)]
  simp only [List.length_cons, List.length_nil, Nat.zero_add, Nat.add_sub_cancel_left]
  rw [List.set_append_left _ _ (by rw [ints_length]; exact hi), ints_set]
theorem rc_putf {t : Twn} {sl : Value} {bt m : Nat} {y : List Int} {fs : Value} (fs' : Value) (hy : y.length = 496) : spl (rcs t sl bt y fs m) 508 [fs'] = rcs t sl bt y fs' m := by
  rw [spl_set (by rw [rc_len hy]; omega)]
  show (([_, _, _, _, _, _, _, _, _, _, _, _] ++ (ints y ++ [fs, .map (some m)]) : List Value)).set 508 _ = [_, _, _, _, _, _, _, _, _, _, _, _] ++ (ints y ++ [fs', .map (some m)])
  rw [List.set_append_right _ _ (by simp)]
  simp only [List.length_cons, List.length_nil, Nat.zero_add]
  rw [List.set_append_right _ _ (by rw [ints_length]; omega), ints_length, hy]
  rfl

theorem c_may (t : Twn) (s : Sta) (ba oa ca : Nat) (bt : Nat) (H : Heap) (R : Facts) [hT : MemRows (some ⟨bt, 0, none⟩) 11 [twl t (t.sl (some ⟨ba, oa, none⟩) ca)] R] :
    FnV Try.prog 126 [s.v, .pointer (some ⟨bt, 0, none⟩)] H R (.bool (decide (s.dry < t.run))) := by
  refine fn_of Try.func126 rfl Try.ntmps126 rfl ?_
  refine sy_seq ?_
  refine sy_tx' [0, 1] rfl ?_
  refine sy_sq ?_
  refine bx rfl rfl rfl (fun b2 => ?_)
  refine sy_sq ?_
  refine sp rfl (PE.assign rfl) rfl ?_
  refine sy_sn ?_
  refine sy_nx ?_
  refine sy_seq ?_
  refine sy_tx' [0, 1, 2, 3, 4, 5] rfl ?_
  refine sy_sq ?_
  refine sp rfl (PE.fieldAddr fo23_2 rfl) rfl ?_
  refine sy_sq ?_
  refine spL rfl rfl (lh sc3 rfl rfl) rfl ?_
  refine sy_sq ?_
  refine sp rfl (PE.fieldAddr fo26_4 rfl) rfl ?_
  refine sy_sq ?_
  refine spL rfl rfl (lfB (sz := 11) sc3 rfl) rfl ?_
  refine sy_sq ?_
  refine sp rfl (PE.lss rfl rfl) rfl ?_
  refine sy_sq ?_
  refine sp rfl (PE.assign rfl) rfl ?_
  refine sy_sn ?_
  refine sy_nx ?_
  refine sy_ret ?_
  exact sy_return (vs := [_]) rfl (.cons (RV.tmp rfl) .nil) rfl ⟨rfl, rfl, rfl⟩ (fun _ h => by repeat first | exact h | replace h := St.tail h | replace h := St.ftail h | replace h := St.drop h)

theorem c_opened (t : Twn) (hl : t.rats.length ≤ 9223372036854775807) (ba oa ca : Nat) (H : Heap) (R : Facts) [hR : MemRows (some ⟨ba, oa, none⟩) 2 (rrows t.rats) R] :
    Fn Try.prog 89 [t.v (t.sl (some ⟨ba, oa, none⟩) ca)] H R (fun v H' R' => (t.check ≠ 0 ∧ v = .tuple #[.pointer none, .int .i64 t.check] ∧ H' = H ∧ R' = R) ∨
      (t.check = 0 ∧ ∃ bw m bt, v = .tuple #[.pointer (some ⟨bw, 0, none⟩), .int .i64 0] ∧ H' = (bw, cel 153 (rcs t (t.sl (some ⟨ba, oa, none⟩) ca) bt (List.replicate 496 0) (.slice none 0 0) m)) :: (m, mapO true []) :: H ∧ R' = RowsA (some ⟨bt, 0, none⟩) 11 [twl t (t.sl (some ⟨ba, oa, none⟩) ca)] :: R)) := by
  refine fn_of Try.func89 rfl Try.ntmps89 rfl ?_
  refine sy_seq ?_
  refine sy_tx' [0, 1, 2] rfl ?_
  refine sy_sq ?_
  refine bx rfl rfl rfl (fun b1 => ?_)
  refine sy_sq ?_
  refine sp rfl (PE.assign rfl) rfl ?_
  refine sy_sq ?_
  refine sp rfl (PE.assign rfl) rfl ?_
  refine sy_sn ?_
  refine sy_nx ?_
  refine sy_seq ?_
  refine sy_seq ?_
  refine sy_tx' [0, 1, 2] rfl ?_
  refine sy_sq ?_
  refine spL rfl rfl (lhA [_, _, _, _, _, _, _, _, _, _, _] ag26 rfl rfl rfl) rfl ?_
  refine sy_sq ?_
  refine clV rfl cal67 rfl rfl (c_Check t _ _ hl _ _) ?_
  refine sy_sq ?_
  refine sp rfl (PE.assign rfl) rfl ?_
  refine sy_sn ?_
  refine sy_nx ?_
  refine sy_seq ?_
  refine sy_tx' [0, 1] rfl ?_
  refine sy_sq ?_
  refine sp rfl (PE.move rfl) rfl ?_
  refine sy_sq ?_
  refine sp rfl (PE.neq rfl rfl) rfl ?_
  refine sy_sn ?_
  refine sy_nx ?_
  refine sy_cond rfl (fun hc0 => ?_) (fun hc0 => ?_)
  ·
   simp only [decide_eq_true_eq, decide_eq_false_iff_not, Bool.and_eq_true, Bool.or_eq_true, Bool.not_eq_true', Int.not_le, Int.not_lt] at hc0
   refine sy_seq ?_
   refine sy_tx' [0, 1, 2] rfl ?_
   refine sy_sq ?_
   refine sp rfl (PE.move rfl) rfl ?_
   refine sy_sq ?_
   refine sp rfl (PE.assign rfl) rfl ?_
   refine sy_sq ?_
   refine sp rfl (PE.assign rfl) rfl ?_
   refine sy_sn ?_
   refine sy_nx ?_
   refine sy_ret ?_
   refine sy_tr ?_
   first
     | exact sy_return (vs := [_, _]) rfl (.cons (RV.tmp rfl) (.cons (RV.tmp rfl) .nil)) rfl (.inl ⟨by simpa using hc0, rfl, rfl, rfl⟩) (fun _ h => h.tail)
     | exact sy_return (vs := [_, _]) rfl (.cons (RV.tmp rfl) (.cons (RV.tmp rfl) .nil)) rfl (.inr ⟨by simpa using hc0, _, _, _, rfl, rfl, rfl⟩) (fun w h => St.rows (sz := 11) (rows := [twl t (t.sl (some ⟨ba, oa, none⟩) ca)]) (rest := []) (h.perm (List.perm_middle (l₁ := [_, _]))) (by simp))
  ·
   simp only [bne_self_eq_false, decide_eq_true_eq, decide_eq_false_iff_not, Bool.and_eq_true, Bool.or_eq_true, Bool.not_eq_true', Int.not_le, Int.not_lt] at hc0
   refine sy_skip ?_
   refine sy_nx ?_
   refine sy_seq ?_
   refine sy_tx' [0, 1, 2, 3, 4, 5, 6] rfl ?_
   refine sy_sq ?_
   refine spL rfl rfl (lhA [_, _, _, _, _, _, _, _, _, _, _] ag26 rfl rfl rfl) rfl ?_
   refine sy_sq ?_
   refine sp rfl (PE.makeFunc rfl rfl) rfl ?_
   refine sy_sq ?_
   refine sp rfl (PE.build (out := [_]) pl148 zl148 rfl rfl) rfl ?_
   refine sy_sq ?_
   refine mkm rfl rfl true (fun m => ?_)
   refine sy_sq ?_
   refine sp rfl (PE.build (out := rcs t (t.sl (some ⟨ba, oa, none⟩) ca) b1 (List.replicate 496 0) (.slice none 0 0) m) pl153 zl153 rfl (by kernel_rfl)) rfl ?_
   refine sy_sq ?_
   refine bx rfl rfl rfl (fun b16 => ?_)
   refine sy_sq ?_
   refine sp rfl (PE.assign rfl) rfl ?_
   refine sy_sn ?_
   refine sy_nx ?_
   refine sy_seq ?_
   refine sy_tx' [0, 1, 2] rfl ?_
   refine sy_sq ?_
   refine sp rfl (PE.move rfl) rfl ?_
   refine sy_sq ?_
   refine sp rfl (PE.assign rfl) rfl ?_
   refine sy_sq ?_
   refine sp rfl (PE.assign rfl) rfl ?_
   refine sy_sn ?_
   refine sy_nx ?_
   refine sy_ret ?_
   first
     | exact sy_return (vs := [_, _]) rfl (.cons (RV.tmp rfl) (.cons (RV.tmp rfl) .nil)) rfl (.inl ⟨by simpa using hc0, rfl, rfl, rfl⟩) (fun _ h => h.tail)
     | exact sy_return (vs := [_, _]) rfl (.cons (RV.tmp rfl) (.cons (RV.tmp rfl) .nil)) rfl (.inr ⟨by simpa using hc0, _, _, _, rfl, rfl, rfl⟩) (fun w h => St.rows (sz := 11) (rows := [twl t (t.sl (some ⟨ba, oa, none⟩) ca)]) (rest := []) (h.perm (List.perm_middle (l₁ := [_, _]))) (by simp))

theorem c_of (t : Twn) (ht : t.ok) (s : Sta) (hs : s.right t = true) (ba oa ca : Nat) (bt bw m : Nat) (y : List Int) (fs : Value) (hy : y.length = 496) (H : Heap) (R : Facts) [hW : Mem1 bw (cel 153 (rcs t (t.sl (some ⟨ba, oa, none⟩) ca) bt y fs m)) H] :
    FnV Try.prog 95 [.pointer (some ⟨bw, 12, none⟩), s.v] H R (.int .i64 (lat y s)) := by
  refine fn_of Try.func95 rfl Try.ntmps95 rfl ?_
  refine sy_seq ?_
  refine sy_tx' [0, 1] rfl ?_
  refine sy_sq ?_
  refine bx rfl rfl rfl (fun b3 => ?_)
  refine sy_sq ?_
  refine sp rfl (PE.assign rfl) rfl ?_
  refine sy_sn ?_
  refine sy_nx ?_
  refine sy_seq ?_
  refine sy_draw [0, 0, 2, 0, 8, 0, 32, 1, 135, 415, 1023, 2047, 4095] (.tk 0 (.tk 1 (.ld 2 (.tk 3 (.ld 4 (.tk 5 (.ld 6 (.tk 7 (.tk 8 (.tk 9 (.tk 10 (.ld 11 (.tk 12 .done))))))))))))) mixed (by kernel_rfl) ?_
  refine tk rfl (PE.move rfl) rfl ?_
  refine tk rfl (PE.fieldAddr fo23_0 rfl) rfl ?_
  refine ld rfl rfl (lh sc3 rfl rfl) rfl ?_
  refine tk rfl (PE.fieldAddr fo23_1 rfl) rfl ?_
  refine ld rfl rfl (lh sc3 rfl rfl) rfl ?_
  refine tk rfl (PE.fieldAddr fo23_2 rfl) rfl ?_
  refine ld rfl rfl (lh sc3 rfl rfl) rfl ?_
  refine tk rfl (PE.nilCheck rfl) rfl ?_
  refine tk rfl (PE.indexArr ar150 rfl rfl (by have h1 := right_iff.1 hs; have h2 := ht.holds; have h3 := ht.patience; have h4 := ht.run; omega) (by have h1 := right_iff.1 hs; have h2 := ht.holds; have h3 := ht.patience; have h4 := ht.run; omega)) rfl ?_
  refine tk rfl (PE.indexArr ar145 rfl rfl (by have h1 := right_iff.1 hs; have h2 := ht.holds; have h3 := ht.patience; have h4 := ht.run; omega) (by have h1 := right_iff.1 hs; have h2 := ht.holds; have h3 := ht.patience; have h4 := ht.run; omega)) rfl ?_
  refine tk rfl (PE.indexArr ar144 rfl rfl (by have h1 := right_iff.1 hs; have h2 := ht.holds; have h3 := ht.patience; have h4 := ht.run; omega) (by have h1 := right_iff.1 hs; have h2 := ht.holds; have h3 := ht.patience; have h4 := ht.run; omega)) rfl ?_
  refine ld rfl rfl (lh sc3 rfl (rc_cell (lat_get (s := s) (by have := ix_lt ht hs; omega)) (by unfold Sta.ix; omega))) rfl ?_
  refine tk rfl (PE.assign rfl) rfl ?_
  refine sy_dn ?_
  refine sy_nx ?_
  refine sy_ret ?_
  exact sy_return (vs := [_]) rfl (.cons (RV.tmp rfl) .nil) rfl ⟨rfl, rfl, rfl⟩ (fun _ h => by repeat first | exact h | replace h := St.tail h | replace h := St.ftail h | replace h := St.drop h)

theorem c_keeps (t : Twn) (ht : t.ok) (s : Sta) (hs : s.right t = true) (r : Int) (q : Rn) (h0 : 0 ≤ r) (hq : t.rats[r.toNat]? = some q) (bads : Int) (hb : 0 ≤ bads ∧ bads ≤ 1000000) (ba oa ca : Nat) (bt bw m : Nat) (y : List Int) (fs : Value) (hy : y.length = 496) (H : Heap) (R : Facts) [hR : MemRows (some ⟨ba, oa, none⟩) 2 (rrows t.rats) R] [hT : MemRows (some ⟨bt, 0, none⟩) 11 [twl t (t.sl (some ⟨ba, oa, none⟩) ca)] R] [hW : Mem1 bw (cel 153 (rcs t (t.sl (some ⟨ba, oa, none⟩) ca) bt y fs m)) H] :
    FnV Try.prog 96 [.pointer (some ⟨bw, 0, none⟩), s.v, .int .i64 r, .int .i64 bads] H R (.bool (t.keeps y s q bads)) := by
  refine fn_of Try.func96 rfl Try.ntmps96 rfl ?_
  refine sy_seq ?_
  refine sy_tx' [0, 1] rfl ?_
  refine sy_sq ?_
  refine bx rfl rfl rfl (fun b5 => ?_)
  refine sy_sq ?_
  refine sp rfl (PE.assign rfl) rfl ?_
  refine sy_sn ?_
  refine sy_nx ?_
  refine sy_seq ?_
  refine sy_seq ?_
  refine sy_draw [0, 1, 3, 7, 0, 0, 63, 127, 255, 511, 1023, 2047, 511, 4607, 12799, 29183, 511, 511, 258559, 524287, 511, 2097151, 4194303] (.tk 0 (.tk 1 (.tk 2 (.ld 3 (.ld 4 (.tk 5 (.big 6 (.tk 7 (.tk 8 (.tk 9 (.tk 10 (.tk 11 (.tk 12 (.tk 13 (.tk 14 (.ld 15 (.ld 16 (.tk 17 (.tk 20 (.big 18 (.big 19 (.tk 21 (.tk 22 .done))))))))))))))))))))))) mixed (by kernel_rfl) ?_
  refine tk rfl (PE.move rfl) rfl ?_
  refine tk rfl (PE.nilCheck rfl) rfl ?_
  refine tk rfl (PE.fieldAddr fo153_0 rfl) rfl ?_
  refine ld rfl rfl (lhA [_, _, _, _, _, _, _, _, _, _, _] ag26 rfl rfl rfl) rfl ?_
  refine ld rfl rfl (lhA [_, _, _] ag23 rfl rfl rfl) rfl ?_
  refine tk rfl (PE.move rfl) rfl ?_
  refine sy_bg ?_
  refine clV rfl cal94 rfl rfl (c_allowed t s r q ba oa ca h0 hq _ _) ?_
  refine bg (fun w hs => ⟨trivial, trivial, trivial⟩) ?_
  refine tk rfl (PE.not rfl) rfl ?_
  refine tk rfl (PE.move rfl) rfl ?_
  refine sy_case (t := 18) rfl (fun g18 => ?_) (fun g18 => ?_)
  ·
   simp only [Bool.not_eq_true'] at g18
   refine tkN rfl rfl rfl rfl rfl rfl rfl rfl ?_
   refine tkN rfl rfl rfl rfl rfl rfl rfl rfl ?_
   refine tkN rfl rfl rfl rfl rfl rfl rfl rfl ?_
   refine tkN rfl rfl rfl rfl rfl rfl rfl rfl ?_
   refine tkN rfl rfl rfl rfl rfl rfl rfl rfl ?_
   refine tkN rfl rfl rfl rfl rfl rfl rfl rfl ?_
   refine ldN rfl rfl rfl rfl rfl rfl rfl rfl ?_
   refine ldN rfl rfl rfl rfl rfl rfl rfl rfl ?_
   refine tkN rfl rfl rfl rfl rfl rfl rfl rfl ?_
   refine tkN rfl rfl rfl rfl rfl rfl rfl rfl ?_
   refine sy_bg ?_
   refine spN rfl rfl rfl rfl rfl rfl rfl rfl ?_
   refine bg (fun w hs => ⟨trivial, trivial, trivial⟩) ?_
   refine sy_bg ?_
   refine spN rfl rfl rfl rfl rfl rfl rfl rfl ?_
   refine bg (fun w hs => trivial) ?_
   refine tkN rfl rfl rfl rfl rfl rfl rfl rfl ?_
   refine tk rfl (PE.pick rfl rfl rfl) rfl ?_
   refine sy_dn ?_
   refine sy_nx ?_
   refine sy_condT rfl ?_
   refine sy_seq ?_
   refine sy_tx' [0] rfl ?_
   refine sy_sq ?_
   refine sp rfl (PE.assign rfl) rfl ?_
   refine sy_sn ?_
   refine sy_nx ?_
   refine sy_ret ?_
   refine sy_tr ?_
   exact sy_return (vs := [_]) rfl (.cons (RV.tmp rfl) .nil) rfl ⟨by
       first
         | (simp [retV, Twn.keeps, g18]; done)
         | (simp [retV, Twn.keeps, g18.2]; omega)
         | (simp [retV, Twn.keeps, g18.2, g39, g49, hc1]; try omega)
         | (simp [retV, Twn.keeps, g18.2, g39, hc1]; try omega)
         | (simp [retV, Twn.keeps, g18.2, g39]; try omega), rfl, rfl⟩ (fun _ h => by repeat first | exact h | replace h := St.tail h | replace h := St.ftail h | replace h := St.drop h)
  ·
   simp only [Bool.not_eq_false'] at g18
   replace g18 := And.intro (show q.sacks ≤ s.stock ∧ True by simp [Twn.can] at g18; exact ⟨g18.1, trivial⟩) g18
   refine tkG rfl rfl rfl rfl (PE.move rfl) rfl ?_
   refine tkG rfl rfl rfl rfl (PE.nilCheck rfl) rfl ?_
   refine tkG rfl rfl rfl rfl (PE.fieldAddr fo153_2 rfl) rfl ?_
   refine tkG rfl rfl rfl rfl (PE.move rfl) rfl ?_
   refine tkG rfl rfl rfl rfl (PE.nilCheck rfl) rfl ?_
   refine tkG rfl rfl rfl rfl (PE.fieldAddr fo153_0 rfl) rfl ?_
   refine ldG rfl rfl rfl rfl rfl (lhA [_, _, _, _, _, _, _, _, _, _, _] ag26 rfl rfl rfl) rfl ?_
   refine ldG rfl rfl rfl rfl rfl (lhA [_, _, _] ag23 rfl rfl rfl) rfl ?_
   refine tkG rfl rfl rfl rfl (PE.move rfl) rfl ?_
   refine tkG rfl rfl rfl rfl (PE.move rfl) rfl ?_
   refine sy_bg ?_
   refine clVG rfl rfl rfl rfl cal102 rfl rfl (c_next t ht s hs r q false ba oa ca h0 hq g18.1.1 _ _) ?_
   refine bg (fun w hs => ⟨trivial, trivial, trivial⟩) ?_
   refine sy_bg ?_
   refine clVG rfl rfl rfl rfl cal95 rfl rfl (c_of t ht _ (next_right ht hs (List.mem_of_getElem? hq) g18.2 (by simp)) ba oa ca bt bw m y fs hy _ _) ?_
   refine bg (fun w hs => trivial) ?_
   refine tkG rfl rfl rfl rfl (PE.lss rfl rfl) rfl ?_
   refine tk rfl (PE.pick rfl rfl rfl) rfl ?_
   refine sy_dn ?_
   refine sy_nx ?_
   refine sy_cond rfl (fun hc0 => ?_) (fun hc0 => ?_)
   ·
    simp only [decide_eq_true_eq] at hc0
    refine sy_seq ?_
    refine sy_tx' [0] rfl ?_
    refine sy_sq ?_
    refine sp rfl (PE.assign rfl) rfl ?_
    refine sy_sn ?_
    refine sy_nx ?_
    refine sy_ret ?_
    refine sy_tr ?_
    exact sy_return (vs := [_]) rfl (.cons (RV.tmp rfl) .nil) rfl ⟨by
        first
          | (simp [retV, Twn.keeps, g18]; done)
          | (simp [retV, Twn.keeps, g18.2]; omega)
          | (simp [retV, Twn.keeps, g18.2, g39, g49, hc1]; try omega)
          | (simp [retV, Twn.keeps, g18.2, g39, hc1]; try omega)
          | (simp [retV, Twn.keeps, g18.2, g39]; try omega), rfl, rfl⟩ (fun _ h => by repeat first | exact h | replace h := St.tail h | replace h := St.ftail h | replace h := St.drop h)
   ·
    simp only [decide_eq_false_iff_not, Int.not_lt] at hc0
    refine sy_skip ?_
    refine sy_nx ?_
    refine sy_seq ?_
    refine sy_tx' [0, 1, 2] rfl ?_
    refine sy_sq ?_
    refine sp rfl (PE.move rfl) rfl ?_
    refine sy_sq ?_
    refine sp rfl (PE.sub rfl rfl (by omega)) rfl ?_
    refine sy_sq ?_
    refine sp rfl (PE.assign rfl) rfl ?_
    refine sy_sn ?_
    refine sy_nx ?_
    refine sy_seq ?_
    refine sy_seq ?_
    refine sy_tx' [0, 1] rfl ?_
    refine sy_sq ?_
    refine sp rfl (PE.move rfl) rfl ?_
    refine sy_sq ?_
    refine sp rfl (PE.eql rfl rfl) rfl ?_
    refine sy_sn ?_
    refine sy_nx ?_
    refine sy_cond rfl (fun hc1 => ?_) (fun hc1 => ?_)
    ·
     simp only [decide_eq_true_eq] at hc1
     refine sy_tx' [0] rfl ?_
     refine sy_sq ?_
     refine sp rfl (PE.assign rfl) rfl ?_
     refine sy_sn ?_
     refine sy_nx ?_
     refine sy_seq ?_
     refine sy_draw [0, 1, 3, 7, 15, 31, 63, 127, 7, 511, 1023, 2047, 4095, 8191, 16383, 32767, 8191, 73727, 204799, 466943, 8191, 8191, 4136959, 8388607, 8191, 33554431, 67108863, 134217727] (.tk 0 (.tk 1 (.tk 2 (.tk 3 (.tk 4 (.tk 5 (.tk 6 (.ld 7 (.ld 8 (.big 9 (.tk 10 (.tk 11 (.tk 12 (.tk 13 (.tk 14 (.tk 15 (.tk 16 (.tk 17 (.tk 18 (.ld 19 (.ld 20 (.tk 21 (.tk 24 (.big 22 (.big 23 (.tk 25 (.tk 26 (.tk 27 .done)))))))))))))))))))))))))))) mixed (by kernel_rfl) ?_
     refine tk rfl (PE.move rfl) rfl ?_
     refine tk rfl (PE.eql rfl rfl) rfl ?_
     refine tk rfl (PE.move rfl) rfl ?_
     refine sy_case (t := 39) rfl (fun g39 => ?_) (fun g39 => ?_)
     ·
      simp only [decide_eq_true_eq] at g39
      refine tkN rfl rfl rfl rfl rfl rfl rfl rfl ?_
      refine tkN rfl rfl rfl rfl rfl rfl rfl rfl ?_
      refine tkN rfl rfl rfl rfl rfl rfl rfl rfl ?_
      refine tkN rfl rfl rfl rfl rfl rfl rfl rfl ?_
      refine ldN rfl rfl rfl rfl rfl rfl rfl rfl ?_
      refine ldN rfl rfl rfl rfl rfl rfl rfl rfl ?_
      refine sy_bg ?_
      refine spN rfl rfl rfl rfl rfl rfl rfl rfl ?_
      refine bg (fun w hs => ⟨trivial, trivial, trivial⟩) ?_
      refine tkN rfl rfl rfl rfl rfl rfl rfl rfl ?_
      refine tk rfl (PE.pick rfl rfl rfl) rfl ?_
      refine tk rfl (PE.move rfl) rfl ?_
      refine tkN rfl rfl rfl rfl rfl rfl rfl rfl ?_
      refine tkN rfl rfl rfl rfl rfl rfl rfl rfl ?_
      refine tkN rfl rfl rfl rfl rfl rfl rfl rfl ?_
      refine tkN rfl rfl rfl rfl rfl rfl rfl rfl ?_
      refine tkN rfl rfl rfl rfl rfl rfl rfl rfl ?_
      refine tkN rfl rfl rfl rfl rfl rfl rfl rfl ?_
      refine ldN rfl rfl rfl rfl rfl rfl rfl rfl ?_
      refine ldN rfl rfl rfl rfl rfl rfl rfl rfl ?_
      refine tkN rfl rfl rfl rfl rfl rfl rfl rfl ?_
      refine tkN rfl rfl rfl rfl rfl rfl rfl rfl ?_
      refine sy_bg ?_
      refine spN rfl rfl rfl rfl rfl rfl rfl rfl ?_
      refine bg (fun w hs => ⟨trivial, trivial, trivial⟩) ?_
      refine sy_bg ?_
      refine spN rfl rfl rfl rfl rfl rfl rfl rfl ?_
      refine bg (fun w hs => trivial) ?_
      refine tkN rfl rfl rfl rfl rfl rfl rfl rfl ?_
      refine tk rfl (PE.pick rfl rfl rfl) rfl ?_
      refine tk rfl (PE.assign rfl) rfl ?_
      refine sy_dn ?_
      refine sy_nx ?_
      refine sy_ret ?_
      exact sy_return (vs := [_]) rfl (.cons (RV.tmp rfl) .nil) rfl ⟨by
          first
            | (simp [retV, Twn.keeps, g18]; done)
            | (simp [retV, Twn.keeps, g18.2]; omega)
            | (simp [retV, Twn.keeps, g18.2, g39, g49, hc1]; try omega)
            | (simp [retV, Twn.keeps, g18.2, g39, hc1]; try omega)
            | (simp [retV, Twn.keeps, g18.2, g39]; try omega), rfl, rfl⟩ (fun _ h => by repeat first | exact h | replace h := St.tail h | replace h := St.ftail h | replace h := St.drop h)
     ·
      simp only [decide_eq_false_iff_not] at g39
      refine tkG rfl rfl rfl rfl (PE.move rfl) rfl ?_
      refine tkG rfl rfl rfl rfl (PE.nilCheck rfl) rfl ?_
      refine tkG rfl rfl rfl rfl (PE.fieldAddr fo153_1 rfl) rfl ?_
      refine tkG rfl rfl rfl rfl (PE.fieldAddr fo148_0 rfl) rfl ?_
      refine ldG rfl rfl rfl rfl rfl (lh sc146 rfl rfl) rfl ?_
      refine ldG rfl rfl rfl rfl rfl (lhA [_, _, _] ag23 rfl rfl rfl) rfl ?_
      refine sy_bg ?_
      refine clFVG rfl rfl rfl rfl rfl (cal126) rfl rfl (c_may t s ba oa ca bt _ _) ?_
      refine bg (fun w hs => ⟨trivial, trivial, trivial⟩) ?_
      refine tkG rfl rfl rfl rfl (PE.not rfl) rfl ?_
      refine tk rfl (PE.pick rfl rfl rfl) rfl ?_
      refine tk rfl (PE.move rfl) rfl ?_
      refine sy_case (t := 49) rfl (fun g49 => ?_) (fun g49 => ?_)
      ·
       simp only [Bool.not_eq_true', decide_eq_false_iff_not] at g49
       refine tkN rfl rfl rfl rfl rfl rfl rfl rfl ?_
       refine tkN rfl rfl rfl rfl rfl rfl rfl rfl ?_
       refine tkN rfl rfl rfl rfl rfl rfl rfl rfl ?_
       refine tkN rfl rfl rfl rfl rfl rfl rfl rfl ?_
       refine tkN rfl rfl rfl rfl rfl rfl rfl rfl ?_
       refine tkN rfl rfl rfl rfl rfl rfl rfl rfl ?_
       refine ldN rfl rfl rfl rfl rfl rfl rfl rfl ?_
       refine ldN rfl rfl rfl rfl rfl rfl rfl rfl ?_
       refine tkN rfl rfl rfl rfl rfl rfl rfl rfl ?_
       refine tkN rfl rfl rfl rfl rfl rfl rfl rfl ?_
       refine sy_bg ?_
       refine spN rfl rfl rfl rfl rfl rfl rfl rfl ?_
       refine bg (fun w hs => ⟨trivial, trivial, trivial⟩) ?_
       refine sy_bg ?_
       refine spN rfl rfl rfl rfl rfl rfl rfl rfl ?_
       refine bg (fun w hs => trivial) ?_
       refine tkN rfl rfl rfl rfl rfl rfl rfl rfl ?_
       refine tk rfl (PE.pick rfl rfl rfl) rfl ?_
       refine tk rfl (PE.assign rfl) rfl ?_
       refine sy_dn ?_
       refine sy_nx ?_
       refine sy_ret ?_
       exact sy_return (vs := [_]) rfl (.cons (RV.tmp rfl) .nil) rfl ⟨by
           first
             | (simp [retV, Twn.keeps, g18]; done)
             | (simp [retV, Twn.keeps, g18.2]; omega)
             | (simp [retV, Twn.keeps, g18.2, g39, g49, hc1]; try omega)
             | (simp [retV, Twn.keeps, g18.2, g39, hc1]; try omega)
             | (simp [retV, Twn.keeps, g18.2, g39]; try omega), rfl, rfl⟩ (fun _ h => by repeat first | exact h | replace h := St.tail h | replace h := St.ftail h | replace h := St.drop h)
      ·
       simp only [Bool.not_eq_false', decide_eq_true_eq] at g49
       refine tkG rfl rfl rfl rfl (PE.move rfl) rfl ?_
       refine tkG rfl rfl rfl rfl (PE.nilCheck rfl) rfl ?_
       refine tkG rfl rfl rfl rfl (PE.fieldAddr fo153_2 rfl) rfl ?_
       refine tkG rfl rfl rfl rfl (PE.move rfl) rfl ?_
       refine tkG rfl rfl rfl rfl (PE.nilCheck rfl) rfl ?_
       refine tkG rfl rfl rfl rfl (PE.fieldAddr fo153_0 rfl) rfl ?_
       refine ldG rfl rfl rfl rfl rfl (lhA [_, _, _, _, _, _, _, _, _, _, _] ag26 rfl rfl rfl) rfl ?_
       refine ldG rfl rfl rfl rfl rfl (lhA [_, _, _] ag23 rfl rfl rfl) rfl ?_
       refine tkG rfl rfl rfl rfl (PE.move rfl) rfl ?_
       refine tkG rfl rfl rfl rfl (PE.move rfl) rfl ?_
       refine sy_bg ?_
       refine clVG rfl rfl rfl rfl cal102 rfl rfl (c_next t ht s hs r q true ba oa ca h0 hq g18.1.1 _ _) ?_
       refine bg (fun w hs => ⟨trivial, trivial, trivial⟩) ?_
       refine sy_bg ?_
       refine clVG rfl rfl rfl rfl cal95 rfl rfl (c_of t ht _ (next_right ht hs (List.mem_of_getElem? hq) g18.2 (fun _ => g49)) ba oa ca bt bw m y fs hy _ _) ?_
       refine bg (fun w hs => trivial) ?_
       refine tkG rfl rfl rfl rfl (PE.geq rfl rfl) rfl ?_
       refine tk rfl (PE.pick rfl rfl rfl) rfl ?_
       refine tk rfl (PE.assign rfl) rfl ?_
       refine sy_dn ?_
       refine sy_nx ?_
       refine sy_ret ?_
       exact sy_return (vs := [_]) rfl (.cons (RV.tmp rfl) .nil) rfl ⟨by
           first
             | (simp [retV, Twn.keeps, g18]; done)
             | (simp [retV, Twn.keeps, g18.2]; omega)
             | (simp [retV, Twn.keeps, g18.2, g39, g49, hc1]; try omega)
             | (simp [retV, Twn.keeps, g18.2, g39, hc1]; try omega)
             | (simp [retV, Twn.keeps, g18.2, g39]; try omega), rfl, rfl⟩ (fun _ h => by repeat first | exact h | replace h := St.tail h | replace h := St.ftail h | replace h := St.drop h)
    ·
     simp only [decide_eq_false_iff_not] at hc1
     refine sy_skip ?_
     refine sy_nx ?_
     refine sy_seq ?_
     refine sy_draw [0, 1, 3, 7, 15, 31, 63, 127, 7, 511, 1023, 2047, 4095, 8191, 16383, 32767, 8191, 73727, 204799, 466943, 8191, 8191, 4136959, 8388607, 8191, 33554431, 67108863, 134217727] (.tk 0 (.tk 1 (.tk 2 (.tk 3 (.tk 4 (.tk 5 (.tk 6 (.ld 7 (.ld 8 (.big 9 (.tk 10 (.tk 11 (.tk 12 (.tk 13 (.tk 14 (.tk 15 (.tk 16 (.tk 17 (.tk 18 (.ld 19 (.ld 20 (.tk 21 (.tk 24 (.big 22 (.big 23 (.tk 25 (.tk 26 (.tk 27 .done)))))))))))))))))))))))))))) mixed (by kernel_rfl) ?_
     refine tk rfl (PE.move rfl) rfl ?_
     refine tk rfl (PE.eql rfl rfl) rfl ?_
     refine tk rfl (PE.move rfl) rfl ?_
     refine sy_case (t := 39) rfl (fun g39 => ?_) (fun g39 => ?_)
     ·
      simp only [decide_eq_true_eq] at g39
      refine tkN rfl rfl rfl rfl rfl rfl rfl rfl ?_
      refine tkN rfl rfl rfl rfl rfl rfl rfl rfl ?_
      refine tkN rfl rfl rfl rfl rfl rfl rfl rfl ?_
      refine tkN rfl rfl rfl rfl rfl rfl rfl rfl ?_
      refine ldN rfl rfl rfl rfl rfl rfl rfl rfl ?_
      refine ldN rfl rfl rfl rfl rfl rfl rfl rfl ?_
      refine sy_bg ?_
      refine spN rfl rfl rfl rfl rfl rfl rfl rfl ?_
      refine bg (fun w hs => ⟨trivial, trivial, trivial⟩) ?_
      refine tkN rfl rfl rfl rfl rfl rfl rfl rfl ?_
      refine tk rfl (PE.pick rfl rfl rfl) rfl ?_
      refine tk rfl (PE.move rfl) rfl ?_
      refine tkN rfl rfl rfl rfl rfl rfl rfl rfl ?_
      refine tkN rfl rfl rfl rfl rfl rfl rfl rfl ?_
      refine tkN rfl rfl rfl rfl rfl rfl rfl rfl ?_
      refine tkN rfl rfl rfl rfl rfl rfl rfl rfl ?_
      refine tkN rfl rfl rfl rfl rfl rfl rfl rfl ?_
      refine tkN rfl rfl rfl rfl rfl rfl rfl rfl ?_
      refine ldN rfl rfl rfl rfl rfl rfl rfl rfl ?_
      refine ldN rfl rfl rfl rfl rfl rfl rfl rfl ?_
      refine tkN rfl rfl rfl rfl rfl rfl rfl rfl ?_
      refine tkN rfl rfl rfl rfl rfl rfl rfl rfl ?_
      refine sy_bg ?_
      refine spN rfl rfl rfl rfl rfl rfl rfl rfl ?_
      refine bg (fun w hs => ⟨trivial, trivial, trivial⟩) ?_
      refine sy_bg ?_
      refine spN rfl rfl rfl rfl rfl rfl rfl rfl ?_
      refine bg (fun w hs => trivial) ?_
      refine tkN rfl rfl rfl rfl rfl rfl rfl rfl ?_
      refine tk rfl (PE.pick rfl rfl rfl) rfl ?_
      refine tk rfl (PE.assign rfl) rfl ?_
      refine sy_dn ?_
      refine sy_nx ?_
      refine sy_ret ?_
      exact sy_return (vs := [_]) rfl (.cons (RV.tmp rfl) .nil) rfl ⟨by
          first
            | (simp [retV, Twn.keeps, g18]; done)
            | (simp [retV, Twn.keeps, g18.2]; omega)
            | (simp [retV, Twn.keeps, g18.2, g39, g49, hc1]; try omega)
            | (simp [retV, Twn.keeps, g18.2, g39, hc1]; try omega)
            | (simp [retV, Twn.keeps, g18.2, g39]; try omega), rfl, rfl⟩ (fun _ h => by repeat first | exact h | replace h := St.tail h | replace h := St.ftail h | replace h := St.drop h)
     ·
      simp only [decide_eq_false_iff_not] at g39
      refine tkG rfl rfl rfl rfl (PE.move rfl) rfl ?_
      refine tkG rfl rfl rfl rfl (PE.nilCheck rfl) rfl ?_
      refine tkG rfl rfl rfl rfl (PE.fieldAddr fo153_1 rfl) rfl ?_
      refine tkG rfl rfl rfl rfl (PE.fieldAddr fo148_0 rfl) rfl ?_
      refine ldG rfl rfl rfl rfl rfl (lh sc146 rfl rfl) rfl ?_
      refine ldG rfl rfl rfl rfl rfl (lhA [_, _, _] ag23 rfl rfl rfl) rfl ?_
      refine sy_bg ?_
      refine clFVG rfl rfl rfl rfl rfl (cal126) rfl rfl (c_may t s ba oa ca bt _ _) ?_
      refine bg (fun w hs => ⟨trivial, trivial, trivial⟩) ?_
      refine tkG rfl rfl rfl rfl (PE.not rfl) rfl ?_
      refine tk rfl (PE.pick rfl rfl rfl) rfl ?_
      refine tk rfl (PE.move rfl) rfl ?_
      refine sy_case (t := 49) rfl (fun g49 => ?_) (fun g49 => ?_)
      ·
       simp only [Bool.not_eq_true', decide_eq_false_iff_not] at g49
       refine tkN rfl rfl rfl rfl rfl rfl rfl rfl ?_
       refine tkN rfl rfl rfl rfl rfl rfl rfl rfl ?_
       refine tkN rfl rfl rfl rfl rfl rfl rfl rfl ?_
       refine tkN rfl rfl rfl rfl rfl rfl rfl rfl ?_
       refine tkN rfl rfl rfl rfl rfl rfl rfl rfl ?_
       refine tkN rfl rfl rfl rfl rfl rfl rfl rfl ?_
       refine ldN rfl rfl rfl rfl rfl rfl rfl rfl ?_
       refine ldN rfl rfl rfl rfl rfl rfl rfl rfl ?_
       refine tkN rfl rfl rfl rfl rfl rfl rfl rfl ?_
       refine tkN rfl rfl rfl rfl rfl rfl rfl rfl ?_
       refine sy_bg ?_
       refine spN rfl rfl rfl rfl rfl rfl rfl rfl ?_
       refine bg (fun w hs => ⟨trivial, trivial, trivial⟩) ?_
       refine sy_bg ?_
       refine spN rfl rfl rfl rfl rfl rfl rfl rfl ?_
       refine bg (fun w hs => trivial) ?_
       refine tkN rfl rfl rfl rfl rfl rfl rfl rfl ?_
       refine tk rfl (PE.pick rfl rfl rfl) rfl ?_
       refine tk rfl (PE.assign rfl) rfl ?_
       refine sy_dn ?_
       refine sy_nx ?_
       refine sy_ret ?_
       exact sy_return (vs := [_]) rfl (.cons (RV.tmp rfl) .nil) rfl ⟨by
           first
             | (simp [retV, Twn.keeps, g18]; done)
             | (simp [retV, Twn.keeps, g18.2]; omega)
             | (simp [retV, Twn.keeps, g18.2, g39, g49, hc1]; try omega)
             | (simp [retV, Twn.keeps, g18.2, g39, hc1]; try omega)
             | (simp [retV, Twn.keeps, g18.2, g39]; try omega), rfl, rfl⟩ (fun _ h => by repeat first | exact h | replace h := St.tail h | replace h := St.ftail h | replace h := St.drop h)
      ·
       simp only [Bool.not_eq_false', decide_eq_true_eq] at g49
       refine tkG rfl rfl rfl rfl (PE.move rfl) rfl ?_
       refine tkG rfl rfl rfl rfl (PE.nilCheck rfl) rfl ?_
       refine tkG rfl rfl rfl rfl (PE.fieldAddr fo153_2 rfl) rfl ?_
       refine tkG rfl rfl rfl rfl (PE.move rfl) rfl ?_
       refine tkG rfl rfl rfl rfl (PE.nilCheck rfl) rfl ?_
       refine tkG rfl rfl rfl rfl (PE.fieldAddr fo153_0 rfl) rfl ?_
       refine ldG rfl rfl rfl rfl rfl (lhA [_, _, _, _, _, _, _, _, _, _, _] ag26 rfl rfl rfl) rfl ?_
       refine ldG rfl rfl rfl rfl rfl (lhA [_, _, _] ag23 rfl rfl rfl) rfl ?_
       refine tkG rfl rfl rfl rfl (PE.move rfl) rfl ?_
       refine tkG rfl rfl rfl rfl (PE.move rfl) rfl ?_
       refine sy_bg ?_
       refine clVG rfl rfl rfl rfl cal102 rfl rfl (c_next t ht s hs r q true ba oa ca h0 hq g18.1.1 _ _) ?_
       refine bg (fun w hs => ⟨trivial, trivial, trivial⟩) ?_
       refine sy_bg ?_
       refine clVG rfl rfl rfl rfl cal95 rfl rfl (c_of t ht _ (next_right ht hs (List.mem_of_getElem? hq) g18.2 (fun _ => g49)) ba oa ca bt bw m y fs hy _ _) ?_
       refine bg (fun w hs => trivial) ?_
       refine tkG rfl rfl rfl rfl (PE.geq rfl rfl) rfl ?_
       refine tk rfl (PE.pick rfl rfl rfl) rfl ?_
       refine tk rfl (PE.assign rfl) rfl ?_
       refine sy_dn ?_
       refine sy_nx ?_
       refine sy_ret ?_
       exact sy_return (vs := [_]) rfl (.cons (RV.tmp rfl) .nil) rfl ⟨by
           first
             | (simp [retV, Twn.keeps, g18]; done)
             | (simp [retV, Twn.keeps, g18.2]; omega)
             | (simp [retV, Twn.keeps, g18.2, g39, g49, hc1]; try omega)
             | (simp [retV, Twn.keeps, g18.2, g39, hc1]; try omega)
             | (simp [retV, Twn.keeps, g18.2, g39]; try omega), rfl, rfl⟩ (fun _ h => by repeat first | exact h | replace h := St.tail h | replace h := St.ftail h | replace h := St.drop h)

theorem c_any (t : Twn) (ht : t.ok) (s : Sta) (hs : s.right t = true) (bads : Int) (hb : 0 ≤ bads ∧ bads ≤ 1000000) (ba oa ca : Nat) (bt bw m : Nat) (y : List Int) (fs : Value) (hy : y.length = 496) (H : Heap) (R : Facts) [hR : MemRows (some ⟨ba, oa, none⟩) 2 (rrows t.rats) R] [hT : MemRows (some ⟨bt, 0, none⟩) 11 [twl t (t.sl (some ⟨ba, oa, none⟩) ca)] R] [hW : Mem1 bw (cel 153 (rcs t (t.sl (some ⟨ba, oa, none⟩) ca) bt y fs m)) H] :
    FnV Try.prog 132 [.pointer (some ⟨bw, 0, none⟩), s.v, .int .i64 bads] H R (.bool (t.rats.any fun q => t.keeps y s q bads)) := by
  refine fn_of Try.func132 rfl Try.ntmps132 rfl ?_
  refine sy_seq ?_
  refine sy_tx' [0, 1] rfl ?_
  refine sy_sq ?_
  refine bx rfl rfl rfl (fun b4 => ?_)
  refine sy_sq ?_
  refine sp rfl (PE.assign rfl) rfl ?_
  refine sy_sn ?_
  refine sy_nx ?_
  refine sy_seq ?_
  refine sy_seq ?_
  refine sy_tx' [0, 1, 2, 3, 4, 5, 6] rfl ?_
  refine sy_sq ?_
  refine sp rfl (PE.move rfl) rfl ?_
  refine sy_sq ?_
  refine sp rfl (PE.nilCheck rfl) rfl ?_
  refine sy_sq ?_
  refine sp rfl (PE.fieldAddr fo153_0 rfl) rfl ?_
  refine sy_sq ?_
  refine sp rfl (PE.fieldAddr fo26_8 rfl) rfl ?_
  refine sy_sq ?_
  refine spL rfl rfl (lh sc24 rfl rfl) rfl ?_
  refine sy_sq ?_
  refine sp rfl (PE.lenSl isl24 rfl) rfl ?_
  refine sy_sq ?_
  refine sp rfl (PE.move rfl) rfl ?_
  refine sy_sn ?_
  refine sy_nx ?_
  refine sy_block ?_
  have hlen := ht.many
  refine sy_loop (ι := {k : Nat // k ≤ t.rats.length ∧ ∀ i q, i < k → t.rats[i]? = some q → t.keeps y s q bads = false}) (fun k => ⟨[(0, .pointer (some ⟨bw, 0, none⟩)), (2, .int .i64 bads), (4, .pointer (some ⟨b4, 0, none⟩)), (13, .int .i64 t.rats.length), (14, .int .i64 k.1)], (b4, cel 23 [.int .i64 s.stock, .int .i64 s.short, .int .i64 s.dry]) :: H, R⟩) (fun k => t.rats.length - k.1) ⟨0, by omega, by omega⟩ ?_ (fun k => ?_)
  ·
   exact sy_at (by repeat' first | exact Sub.nil | apply Sub.cons | rfl | (simp [lk]; omega)) (fun _ h => h)
  ·
   obtain ⟨k, hk1, hk2⟩ := k
   dsimp only
   refine sy_seq ?_
   refine sy_tx' [0] rfl ?_
   refine sy_sq ?_
   refine sp rfl (PE.lss rfl rfl) rfl ?_
   refine sy_sn ?_
   refine sy_nx ?_
   refine sy_seq ?_
   refine sy_cond rfl (fun hc0 => ?_) (fun hc0 => ?_)
   ·
    simp only [decide_eq_true_eq, decide_eq_false_iff_not, Bool.and_eq_true, Bool.or_eq_true, Bool.not_eq_true', Int.not_le, Int.not_lt] at hc0
    obtain ⟨q, hq⟩ : ∃ q, t.rats[k]? = some q := ⟨_, List.getElem?_eq_getElem (by omega)⟩
    refine sy_skip ?_
    refine sy_nx ?_
    refine sy_seq ?_
    refine sy_block ?_
    refine sy_seq ?_
    refine sy_tx' [0, 1] rfl ?_
    refine sy_sq ?_
    refine sp rfl (PE.move rfl) rfl ?_
    refine sy_sq ?_
    refine sp rfl (PE.assign rfl) rfl ?_
    refine sy_sn ?_
    refine sy_nx ?_
    refine sy_seq ?_
    refine sy_tx' [0, 1, 2, 3, 4] rfl ?_
    refine sy_sq ?_
    refine sp rfl (PE.move rfl) rfl ?_
    refine sy_sq ?_
    refine spL rfl rfl (lhA [_, _, _] ag23 rfl rfl rfl) rfl ?_
    refine sy_sq ?_
    refine sp rfl (PE.move rfl) rfl ?_
    refine sy_sq ?_
    refine sp rfl (PE.move rfl) rfl ?_
    refine sy_sq ?_
    refine clV rfl cal96 rfl rfl (c_keeps t ht s hs k q (by omega) (by simpa using hq) bads hb ba oa ca bt bw m y fs hy _ _) ?_
    refine sy_sn ?_
    refine sy_nx ?_
    refine sy_cond rfl (fun hc1 => ?_) (fun hc1 => ?_)
    ·
     refine sy_seq ?_
     refine sy_tx' [0] rfl ?_
     refine sy_sq ?_
     refine sp rfl (PE.assign rfl) rfl ?_
     refine sy_sn ?_
     refine sy_nx ?_
     refine sy_ret ?_
     refine sy_br ?_
     refine sy_tr ?_
     refine sy_tr ?_
     refine sy_br ?_
     refine sy_tr ?_
     exact sy_return (vs := [_]) rfl (.cons (RV.tmp rfl) .nil) rfl ⟨by
         first
           | (have e : (t.rats.any fun q => t.keeps y s q bads) = true := List.any_eq_true.2 ⟨q, List.mem_of_getElem? hq, hc1⟩
              rw [e]; rfl)
           | (have e : (t.rats.any fun q => t.keeps y s q bads) = false := List.any_eq_false.2 fun q hq => by
               obtain ⟨i, hi⟩ := List.getElem?_of_mem hq
               simp [hk2 i q (List.getElem?_eq_some_iff.1 hi).1 hi]
              rw [e]; rfl), rfl, rfl⟩ (fun _ h => by repeat first | exact h | replace h := St.tail h | replace h := St.ftail h | replace h := St.drop h)
    ·
     refine sy_skip ?_
     refine sy_bn ?_
     refine sy_nx ?_
     refine sy_tx' [0, 1] rfl ?_
     refine sy_sq ?_
     refine sp rfl (PE.add rfl rfl (by omega)) rfl ?_
     refine sy_sq ?_
     refine sp rfl (PE.move rfl) rfl ?_
     refine sy_sn ?_
     refine sy_nx ?_
     exact sy_next ⟨k + 1, by omega, fun i q' hi hq' => by
       rcases Nat.lt_or_ge i k with h1 | h1
       · exact hk2 i q' h1 hq'
       · obtain rfl : i = k := by omega
         rw [hq] at hq'; cases hq'; exact hc1⟩ (by dsimp only; omega) (by repeat' first | exact Sub.nil | apply Sub.cons | rfl | (simp [lk]; omega)) (fun _ h => h)
   ·
    simp only [decide_eq_true_eq, decide_eq_false_iff_not, Bool.and_eq_true, Bool.or_eq_true, Bool.not_eq_true', Int.not_le, Int.not_lt] at hc0
    obtain rfl : k = t.rats.length := by omega
    refine sy_exit ?_
    refine sy_tx ?_
    refine sy_tx ?_
    refine sy_bx ?_
    refine sy_nx ?_
    refine sy_seq ?_
    refine sy_tx' [0] rfl ?_
    refine sy_sq ?_
    refine sp rfl (PE.assign rfl) rfl ?_
    refine sy_sn ?_
    refine sy_nx ?_
    refine sy_ret ?_
    exact sy_return (vs := [_]) rfl (.cons (RV.tmp rfl) .nil) rfl ⟨by
        first
          | (have e : (t.rats.any fun q => t.keeps y s q bads) = true := List.any_eq_true.2 ⟨q, List.mem_of_getElem? hq, hc1⟩
             rw [e]; rfl)
          | (have e : (t.rats.any fun q => t.keeps y s q bads) = false := List.any_eq_false.2 fun q hq => by
              obtain ⟨i, hi⟩ := List.getElem?_of_mem hq
              simp [hk2 i q (List.getElem?_eq_some_iff.1 hi).1 hi]
             rw [e]; rfl), rfl, rfl⟩ (fun _ h => by repeat first | exact h | replace h := St.tail h | replace h := St.ftail h | replace h := St.drop h)

theorem c_states (t : Twn) (sl : Value) (H : Heap) (R : Facts) :
    Fn Try.prog 90 [t.v sl] H R (fun v H' R' => ∃ b, v = .func (.func 127) #[] #[.pointer (some ⟨b, 0, none⟩)] ∧ H' = H ∧ R' = RowsA (some ⟨b, 0, none⟩) 11 [twl t sl] :: R) := by
  refine fn_of Try.func90 rfl Try.ntmps90 rfl ?_
  refine sy_seq ?_
  refine sy_tx' [0, 1] rfl ?_
  refine sy_sq ?_
  refine bx rfl rfl rfl (fun b1 => ?_)
  refine sy_sq ?_
  refine sp rfl (PE.assign rfl) rfl ?_
  refine sy_sn ?_
  refine sy_nx ?_
  refine sy_seq ?_
  refine sy_tx' [0, 1] rfl ?_
  refine sy_sq ?_
  refine sp rfl (PE.makeFunc rfl rfl) rfl ?_
  refine sy_sq ?_
  refine sp rfl (PE.assign rfl) rfl ?_
  refine sy_sn ?_
  refine sy_nx ?_
  refine sy_ret ?_
  exact sy_return (vs := [_]) rfl (.cons (RV.tmp rfl) .nil) rfl ⟨_, rfl, rfl, rfl⟩ (fun w h => St.rows (sz := 11) (rows := [twl t sl]) (rest := []) h (by simp))

theorem c_states1 (t : Twn) (ht : t.ok) (sl : Value) (b l : Nat) (I : Nat → Heap → Facts → Prop) (E : Heap → Facts → Prop) (hI : ∀ k H R, I k H R → RowsA (some ⟨b, 0, none⟩) 11 [twl t sl] ∈ R)
    (hy : ∀ k s H R, (sts t)[k]? = some s → I k H R → Yd Try.prog l [s.v] H R (fun v H' R' => (v = .bool true ∧ I (k + 1) H' R') ∨ (v = .bool false ∧ E H' R'))) (H : Heap) (R : Facts) (h0 : I 0 H R) :
    Fn Try.prog 127 [yv l, .pointer (some ⟨b, 0, none⟩)] H R (fun _ H' R' => I t.nst H' R' ∨ E H' R') := by
  have t1 := ht.holds
  have t2 := ht.patience
  have t3 := ht.run
  haveI : MemRows (some ⟨b, 0, none⟩) 11 [twl t sl] R := ⟨hI _ _ _ h0⟩
  refine fn_of Try.func127 rfl Try.ntmps127 rfl ?_
  refine sy_seq ?_
  refine sy_tx' [0, 1, 2, 3] rfl ?_
  refine sy_sq ?_
  refine sp rfl (PE.fieldAddr fo26_1 rfl) rfl ?_
  refine sy_sq ?_
  refine spL rfl rfl (lfB (sz := 11) sc3 rfl) rfl ?_
  refine sy_sq ?_
  refine sp rfl (PE.add rfl rfl (by omega)) rfl ?_
  refine sy_sq ?_
  refine sp rfl (PE.move rfl) rfl ?_
  refine sy_sn ?_
  refine sy_nx ?_
  refine sy_block ?_
  refine sy_loop (ι := {x : Nat × Heap × Facts // x.1 ≤ t.holds.toNat + 1 ∧ I (x.1 * (t.patience.toNat + 1) * (t.run.toNat + 1)) x.2.1 x.2.2}) (fun x => ⟨[(0, yv l), (1, .pointer (some ⟨b, 0, none⟩)), (8, .int .i64 (t.holds + 1)), (9, .int .i64 x.1.1)], x.1.2.1, x.1.2.2⟩) (fun x => t.holds.toNat + 1 - x.1.1) ⟨(0, H, R), by omega, by simpa using h0⟩ ?_ (fun x => ?_)
  ·
   exact sy_at (by repeat' first | exact Sub.nil | apply Sub.cons | rfl | (simp [lk]; omega)) (fun _ h => h)
  ·
   obtain ⟨⟨k0, H0, R0⟩, hk0, hI0⟩ := x
   dsimp only at hk0 hI0 ⊢
   haveI : MemRows (some ⟨b, 0, none⟩) 11 [twl t sl] R0 := ⟨hI _ _ _ hI0⟩
   refine sy_seq ?_
   refine sy_tx' [0] rfl ?_
   refine sy_sq ?_
   refine sp rfl (PE.lss rfl rfl) rfl ?_
   refine sy_sn ?_
   refine sy_nx ?_
   refine sy_seq ?_
   refine sy_cond rfl (fun hc0 => ?_) (fun hc0 => ?_)
   ·
    simp only [decide_eq_true_eq, decide_eq_false_iff_not, Bool.and_eq_true, Bool.or_eq_true, Bool.not_eq_true', Int.not_le, Int.not_lt] at hc0
    refine sy_skip ?_
    refine sy_nx ?_
    refine sy_seq ?_
    refine sy_block ?_
    refine sy_seq ?_
    refine sy_tx' [0, 1] rfl ?_
    refine sy_sq ?_
    refine sp rfl (PE.move rfl) rfl ?_
    refine sy_sq ?_
    refine sp rfl (PE.assign rfl) rfl ?_
    refine sy_sn ?_
    refine sy_nx ?_
    refine sy_seq ?_
    refine sy_tx' [0, 1, 2, 3] rfl ?_
    refine sy_sq ?_
    refine sp rfl (PE.fieldAddr fo26_3 rfl) rfl ?_
    refine sy_sq ?_
    refine spL rfl rfl (lfB (sz := 11) sc3 rfl) rfl ?_
    refine sy_sq ?_
    refine sp rfl (PE.add rfl rfl (by omega)) rfl ?_
    refine sy_sq ?_
    refine sp rfl (PE.move rfl) rfl ?_
    refine sy_sn ?_
    refine sy_nx ?_
    refine sy_block ?_
    refine sy_loop (ι := {x : Nat × Heap × Facts // x.1 ≤ t.patience.toNat + 1 ∧ I ((k0 * (t.patience.toNat + 1) + x.1) * (t.run.toNat + 1)) x.2.1 x.2.2}) (fun x => ⟨[(0, yv l), (1, .pointer (some ⟨b, 0, none⟩)), (8, .int .i64 (t.holds + 1)), (9, .int .i64 k0), (3, .int .i64 k0), (14, .int .i64 (t.patience + 1)), (15, .int .i64 x.1.1)], x.1.2.1, x.1.2.2⟩) (fun x => t.patience.toNat + 1 - x.1.1) ⟨(0, H0, R0), by omega, by simpa using hI0⟩ ?_ (fun x => ?_)
    ·
     exact sy_at (by repeat' first | exact Sub.nil | apply Sub.cons | rfl | (simp [lk]; omega)) (fun _ h => h)
    ·
     obtain ⟨⟨k1, H1, R1⟩, hk1, hI1⟩ := x
     dsimp only at hk1 hI1 ⊢
     haveI : MemRows (some ⟨b, 0, none⟩) 11 [twl t sl] R1 := ⟨hI _ _ _ hI1⟩
     refine sy_seq ?_
     refine sy_tx' [0] rfl ?_
     refine sy_sq ?_
     refine sp rfl (PE.lss rfl rfl) rfl ?_
     refine sy_sn ?_
     refine sy_nx ?_
     refine sy_seq ?_
     refine sy_cond rfl (fun hc1 => ?_) (fun hc1 => ?_)
     ·
      simp only [decide_eq_true_eq, decide_eq_false_iff_not, Bool.and_eq_true, Bool.or_eq_true, Bool.not_eq_true', Int.not_le, Int.not_lt] at hc1
      refine sy_skip ?_
      refine sy_nx ?_
      refine sy_seq ?_
      refine sy_block ?_
      refine sy_seq ?_
      refine sy_tx' [0, 1] rfl ?_
      refine sy_sq ?_
      refine sp rfl (PE.move rfl) rfl ?_
      refine sy_sq ?_
      refine sp rfl (PE.assign rfl) rfl ?_
      refine sy_sn ?_
      refine sy_nx ?_
      refine sy_seq ?_
      refine sy_tx' [0, 1, 2, 3] rfl ?_
      refine sy_sq ?_
      refine sp rfl (PE.fieldAddr fo26_4 rfl) rfl ?_
      refine sy_sq ?_
      refine spL rfl rfl (lfB (sz := 11) sc3 rfl) rfl ?_
      refine sy_sq ?_
      refine sp rfl (PE.add rfl rfl (by omega)) rfl ?_
      refine sy_sq ?_
      refine sp rfl (PE.move rfl) rfl ?_
      refine sy_sn ?_
      refine sy_nx ?_
      refine sy_block ?_
      refine sy_loop (ι := {x : Nat × Heap × Facts // x.1 ≤ t.run.toNat + 1 ∧ I ((k0 * (t.patience.toNat + 1) + k1) * (t.run.toNat + 1) + x.1) x.2.1 x.2.2}) (fun x => ⟨[(0, yv l), (1, .pointer (some ⟨b, 0, none⟩)), (8, .int .i64 (t.holds + 1)), (9, .int .i64 k0), (3, .int .i64 k0), (14, .int .i64 (t.patience + 1)), (15, .int .i64 k1), (4, .int .i64 k1), (20, .int .i64 (t.run + 1)), (21, .int .i64 x.1.1)], x.1.2.1, x.1.2.2⟩) (fun x => t.run.toNat + 1 - x.1.1) ⟨(0, H1, R1), by omega, by simpa using hI1⟩ ?_ (fun x => ?_)
      ·
       exact sy_at (by repeat' first | exact Sub.nil | apply Sub.cons | rfl | (simp [lk]; omega)) (fun _ h => h)
      ·
       obtain ⟨⟨k2, H2, R2⟩, hk2, hI2⟩ := x
       dsimp only at hk2 hI2 ⊢
       refine sy_seq ?_
       refine sy_tx' [0] rfl ?_
       refine sy_sq ?_
       refine sp rfl (PE.lss rfl rfl) rfl ?_
       refine sy_sn ?_
       refine sy_nx ?_
       refine sy_seq ?_
       refine sy_cond rfl (fun hc2 => ?_) (fun hc2 => ?_)
       ·
        simp only [decide_eq_true_eq, decide_eq_false_iff_not, Bool.and_eq_true, Bool.or_eq_true, Bool.not_eq_true', Int.not_le, Int.not_lt] at hc2
        refine sy_skip ?_
        refine sy_nx ?_
        refine sy_seq ?_
        refine sy_block ?_
        refine sy_seq ?_
        refine sy_tx' [0, 1] rfl ?_
        refine sy_sq ?_
        refine sp rfl (PE.move rfl) rfl ?_
        refine sy_sq ?_
        refine sp rfl (PE.assign rfl) rfl ?_
        refine sy_sn ?_
        refine sy_nx ?_
        refine sy_seq ?_
        refine sy_tx' [0, 1, 2, 3, 4, 5, 6] rfl ?_
        refine sy_sq ?_
        refine sp rfl (PE.move rfl) rfl ?_
        refine sy_sq ?_
        refine sp rfl (PE.move rfl) rfl ?_
        refine sy_sq ?_
        refine sp rfl (PE.move rfl) rfl ?_
        refine sy_sq ?_
        refine sp rfl (PE.move rfl) rfl ?_
        refine sy_sq ?_
        refine sp rfl (PE.build (out := [_, _, _]) pl23 zl23 rfl rfl) rfl ?_
        refine sy_sq ?_
        refine clY rfl rfl rfl rfl (hy _ ⟨k0, k1, k2⟩ _ _ (by rw [sts_get (nst_lt (by omega) (by omega) (by omega)), staAt_of (by omega) (by omega)]) hI2) ?_
        rintro v H3 R3 (⟨rfl, hI3⟩ | ⟨rfl, hE3⟩)
        ·
         refine sy_sq ?_
         refine sp rfl (PE.not rfl) rfl ?_
         refine sy_sn ?_
         refine sy_nx ?_
         refine sy_condF rfl ?_
         refine sy_skip ?_
         refine sy_bn ?_
         refine sy_nx ?_
         refine sy_tx' [0, 1] rfl ?_
         refine sy_sq ?_
         refine sp rfl (PE.add rfl rfl (by omega)) rfl ?_
         refine sy_sq ?_
         refine sp rfl (PE.move rfl) rfl ?_
         refine sy_sn ?_
         refine sy_nx ?_
         first | cases hc3 | exact sy_next ⟨(k2 + 1, H3, R3), by omega, hI3⟩ (by dsimp only; omega) (by repeat' first | exact Sub.nil | apply Sub.cons | rfl | (simp [lk]; omega)) (fun _ h => h)
        ·
         refine sy_sq ?_
         refine sp rfl (PE.not rfl) rfl ?_
         refine sy_sn ?_
         refine sy_nx ?_
         refine sy_condT rfl ?_
         refine sy_ret ?_
         refine sy_br ?_
         refine sy_tr ?_
         refine sy_tr ?_
         refine sy_br ?_
         refine sy_br ?_
         refine sy_tr ?_
         refine sy_tr ?_
         refine sy_br ?_
         refine sy_br ?_
         refine sy_tr ?_
         refine sy_tr ?_
         refine sy_br ?_
         first | cases hc3 | exact sy_return (vs := []) rfl .nil rfl (.inr hE3) (fun _ h => h)
       ·
        simp only [decide_eq_true_eq, decide_eq_false_iff_not, Bool.and_eq_true, Bool.or_eq_true, Bool.not_eq_true', Int.not_le, Int.not_lt] at hc2
        obtain rfl : k2 = t.run.toNat + 1 := by omega
        refine sy_exit ?_
        refine sy_tx ?_
        refine sy_tx ?_
        refine sy_bx ?_
        refine sy_bn ?_
        refine sy_nx ?_
        refine sy_tx' [0, 1] rfl ?_
        refine sy_sq ?_
        refine sp rfl (PE.add rfl rfl (by omega)) rfl ?_
        refine sy_sq ?_
        refine sp rfl (PE.move rfl) rfl ?_
        refine sy_sn ?_
        refine sy_nx ?_
        exact sy_next ⟨(k1 + 1, H2, R2), by omega, by rw [show k0 * (t.patience.toNat + 1) + (k1 + 1) = (k0 * (t.patience.toNat + 1) + k1) + 1 from rfl, Nat.succ_mul]; exact hI2⟩ (by dsimp only; omega) (by repeat' first | exact Sub.nil | apply Sub.cons | rfl | (simp [lk]; omega)) (fun _ h => h)
     ·
      simp only [decide_eq_true_eq, decide_eq_false_iff_not, Bool.and_eq_true, Bool.or_eq_true, Bool.not_eq_true', Int.not_le, Int.not_lt] at hc1
      obtain rfl : k1 = t.patience.toNat + 1 := by omega
      refine sy_exit ?_
      refine sy_tx ?_
      refine sy_tx ?_
      refine sy_bx ?_
      refine sy_bn ?_
      refine sy_nx ?_
      refine sy_tx' [0, 1] rfl ?_
      refine sy_sq ?_
      refine sp rfl (PE.add rfl rfl (by omega)) rfl ?_
      refine sy_sq ?_
      refine sp rfl (PE.move rfl) rfl ?_
      refine sy_sn ?_
      refine sy_nx ?_
      exact sy_next ⟨(k0 + 1, H1, R1), by omega, by rw [Nat.succ_mul]; exact hI1⟩ (by dsimp only; omega) (by repeat' first | exact Sub.nil | apply Sub.cons | rfl | (simp [lk]; omega)) (fun _ h => h)
   ·
    simp only [decide_eq_true_eq, decide_eq_false_iff_not, Bool.and_eq_true, Bool.or_eq_true, Bool.not_eq_true', Int.not_le, Int.not_lt] at hc0
    obtain rfl : k0 = t.holds.toNat + 1 := by omega
    refine sy_exit ?_
    refine sy_tx ?_
    refine sy_tx ?_
    refine sy_bx ?_
    exact sy_fall (vs := []) rfl .nil rfl (.inl hI0) (fun _ h => h)
end Go.Proofs.Ytaldphhdkmchhaa
