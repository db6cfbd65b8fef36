/- Walks of the functions of the program: what each returns and leaves in memory, under the conditions that its theorem names. -/
import Derived.Test.YtaldphhdkmchhaaTy
import Derived.Test.YtaldphhdkmchhaaMa
import Derived.Test.YtaldphhdkmchhaaWk3
import Derived.Test.YtaldphhdkmchhaaMb
namespace Go.Proofs.Ytaldphhdkmchhaa
set_option linter.unusedSimpArgs false
set_option linter.unusedVariables false
open Go
theorem ag150 : aggN Try.prog 150 = some 496 := by kernel_rfl
theorem ap96 : apT Try.prog 96 = some (99, 4, 32) := by kernel_rfl
theorem cal127 : cal Try.prog 127 = true := by kernel_rfl
theorem cal132 : cal Try.prog 132 = true := by kernel_rfl
theorem cal90 : cal Try.prog 90 = true := by kernel_rfl
theorem cn150 : cellN Try.prog 150 = some 496 := by kernel_rfl
theorem cn96 : cellN Try.prog 96 = some 1 := by kernel_rfl
theorem eqf150 : eqB Try.prog 10000 150 = some (true, 496) := by kernel_rfl
theorem eqf23 : eqB Try.prog 10000 23 = some (true, 3) := by kernel_rfl
theorem eqg150 : Try.prog.eqGuardType Try.prog.depth 150 = false := by kernel_rfl
theorem fo153_3 : fOff Try.prog 153 3 = some 508 := by kernel_rfl
theorem fo153_4 : fOff Try.prog 153 4 = some 509 := by kernel_rfl
theorem mke151 : mapKE Try.prog 151 = some (23, 3) := by kernel_rfl
theorem noa23 : noArr Try.prog 10000 23 = true := by kernel_rfl
theorem pl99 : placeL Try.prog 99 = some [(0, 3), (3, 1)] := by kernel_rfl
theorem sc138 : scal Try.prog 138 = true := by kernel_rfl
theorem sc151 : scal Try.prog 151 = true := by kernel_rfl
theorem sc96 : scal Try.prog 96 = true := by kernel_rfl
theorem sl96 : slE Try.prog 96 = some (99, 4) := by kernel_rfl
theorem zl150 : zeroL Try.prog 150 = some (List.replicate 496 (.int .i64 0)) := by kernel_rfl
theorem zl99 : zeroL Try.prog 99 = some ([.int .i64 0, .int .i64 0, .int .i64 0, .int .i64 0]) := by kernel_rfl
def frow (p : Sta × Int) : List Value := [.int .i64 p.1.stock, .int .i64 p.1.short, .int .i64 p.1.dry, .int .i64 p.2]
def frows (l : List (Sta × Int)) : List (List Value) := l.map frow
def kvOf (l : List (Sta × Int)) : KV := l.foldl (fun kv p => kv.put [p.1.stock, p.1.short, p.1.dry] (.int .i64 p.2)) []
theorem kv_len : ∀ (l : List (Sta × Int)) (kv : KV), (∀ e ∈ kv, e.1.length = 3) → ∀ e ∈ l.foldl (fun (kv : KV) p => kv.put [p.1.stock, p.1.short, p.1.dry] (.int .i64 p.2)) kv, e.1.length = 3
  | [], _, h => h
  | p :: l, kv, h => by
    refine kv_len l _ ?_
    clear l
    induction kv with
    | nil => intro e he; simp only [KV.put, List.mem_singleton] at he; subst he; rfl
    | cons a kv ih =>
      intro e he
      obtain ⟨k', v'⟩ := a
      replace he : e ∈ bif decide (k' = [p.1.stock, p.1.short, p.1.dry]) then ([p.1.stock, p.1.short, p.1.dry], Value.int .i64 p.2) :: kv else (k', v') :: KV.put kv [p.1.stock, p.1.short, p.1.dry] (.int .i64 p.2) := he
      cases hc : decide (k' = [p.1.stock, p.1.short, p.1.dry]) <;> rw [hc] at he
      · rcases List.mem_cons.1 he with rfl | he
        · exact h _ (by simp)
        · exact ih (fun e he => h e (by simp [he])) e he
      · rcases List.mem_cons.1 he with rfl | he
        · rfl
        · exact h _ (by simp [he])
theorem kvOf_len (l : List (Sta × Int)) : ∀ e ∈ kvOf l, e.1.length = 3 := kv_len l [] (by simp)
theorem zl150i : zeroL Try.prog 150 = some (ints (List.replicate 496 0)) := by rw [zl150, ints, List.map_replicate]
structure SvI (t : Twn) where
  n : Nat
  σ : Sv
  ms : List Nat
  b3 : Nat
  o : OSl 99 4 (frows σ.fl)
  h : Rd t n σ
structure SvJ (t : Twn) (n : Nat) (σ : Sv) where
  j : Nat
  ms : List Nat
  b5 : Nat
  bf : List Int
  bl : bf.length = 496
  o : OSl 99 4 (frows (passes t n j σ).fl)
  h : (bf = List.replicate 496 0 ∧ j = 0) ∨ ∃ i, j = i + 1 ∧ bf = (passes t n i σ).y

theorem c_solve (t : Twn) (ht : t.ok) (ba oa ca : Nat) (bt bw m : Nat) (H : Heap) (R : Facts) [hR : MemRows (some ⟨ba, oa, none⟩) 2 (rrows t.rats) R] [hT : MemRows (some ⟨bt, 0, none⟩) 11 [twl t (t.sl (some ⟨ba, oa, none⟩) ca)] R] :
    Fn Try.prog 108 [.pointer (some ⟨bw, 0, none⟩)] ((bw, cel 153 (rcs t (t.sl (some ⟨ba, oa, none⟩) ca) bt (List.replicate 496 0) (.slice none 0 0) m)) :: (m, mapO true []) :: H) R
      (fun _ H' R' => ∃ (σ : Sv) (o : OSl 99 4 (frows σ.fl)), Solv t σ ∧ H' = o.G ++ (bw, cel 153 (rcs t (t.sl (some ⟨ba, oa, none⟩) ca) bt (σ.y) o.fs m)) :: (m, mapO true (kvOf σ.fl)) :: H ∧ R' = R) := by
  refine fnM_of Try.func108 rfl Try.ntmps108 rfl ?_
  refine sy_seq ?_
  refine sy_tx' [0] rfl ?_
  refine sy_sq ?_
  refine bx rfl rfl rfl (fun b1 => ?_)
  refine sy_sn ?_
  refine sy_nx ?_
  refine sy_seq ?_
  refine sy_seq ?_
  refine sy_tx' [0, 1, 2, 3, 4] rfl ?_
  refine sy_sq ?_
  refine spL rfl rfl (lh sc138 rfl rfl) rfl ?_
  refine sy_sq ?_
  refine sp rfl (PE.nilCheck rfl) rfl ?_
  refine sy_sq ?_
  refine sp rfl (PE.fieldAddr fo153_0 rfl) rfl ?_
  refine sy_sq ?_
  refine spL rfl rfl (lhA [_, _, _, _, _, _, _, _, _, _, _] ag26 rfl rfl rfl) rfl ?_
  refine sy_sq ?_
  refine cl rfl cal90 rfl rfl (c_states t (t.sl (some ⟨ba, oa, none⟩) ca) _ _) ?_
  rintro _ _ _ ⟨b11, rfl, rfl, rfl⟩
  refine sy_sn ?_
  refine sy_nx ?_
  refine sy_block ?_
  refine sy_range rfl cal127 (fun c0 bl0 bd0 hcp0 hca0 hcb0 hck0 => ?_)
  refine ⟨fun st pend T R' => st = .ready ∧ pend = none ∧ T = (bd0, .deferred (some [])) :: (b1, cel 138 [.pointer (some ⟨bw, 0, none⟩)]) :: (bw, cel 153 (rcs t (t.sl (some ⟨ba, oa, none⟩) ca) bt (everY t) (.slice none 0 0) m)) :: (m, mapO true []) :: H ∧ R' = RowsA (some ⟨b11, 0, none⟩) 11 [twl t (t.sl (some ⟨ba, oa, none⟩) ca)] :: R,
    Fn.mono (c_states1 t ht (t.sl (some ⟨ba, oa, none⟩) ca) b11 bl0 (fun k H' R' => H' = (bl0, lob c0 .ready none) :: (bd0, .deferred (some [])) :: (b1, cel 138 [.pointer (some ⟨bw, 0, none⟩)]) :: (bw, cel 153 (rcs t (t.sl (some ⟨ba, oa, none⟩) ca) bt (((sts t).take k).foldl (fun y s => y.set s.ix 1000000) (List.replicate 496 (0 : Int))) (.slice none 0 0) m)) :: (m, mapO true []) :: H ∧ R' = RowsA (some ⟨b11, 0, none⟩) 11 [twl t (t.sl (some ⟨ba, oa, none⟩) ca)] :: R) (fun _ _ => False)
      (fun k H' R' h => by rw [h.2]; simp) (fun k s H' R' hk hI => ?_) _ _ ⟨rfl, rfl⟩) (fun v H' R' h => ?_), ?_⟩
  rotate_left
  · rcases h with ⟨rfl, rfl⟩ | h
    · rw [List.take_of_length_le (by rw [sts_len]; exact Nat.le_refl _)]
      exact ⟨.ready, none, _, by simp, .refl _, rfl, rfl, rfl, rfl⟩
    · exact h.elim
  rotate_left
  ·
   obtain ⟨rfl, rfl⟩ := hI
   have hs := sts_right ht (List.mem_of_getElem? hk)
   have hix := ix_lt ht hs
   have q1 := right_iff.1 hs
   have t1 := ht.holds
   have t2 := ht.patience
   have t3 := ht.run
   have e : ((sts t).take (k + 1)).foldl (fun y s => y.set s.ix 1000000) (List.replicate 496 (0 : Int)) = (((sts t).take k).foldl (fun y s => y.set s.ix 1000000) (List.replicate 496 (0 : Int))).set s.ix 1000000 := by rw [List.take_add_one, hk, Option.toList_some, List.foldl_append]; rfl
   rw [e]
   have hyl : (((sts t).take k).foldl (fun y s => y.set s.ix 1000000) (List.replicate 496 (0 : Int))).length = 496 := by rw [everY_len, List.length_replicate]
   generalize ((sts t).take k).foldl (fun y s => y.set s.ix 1000000) (List.replicate 496 (0 : Int)) = y at *
   refine yd_of hcp0 hca0 hcb0 hck0 rfl ?_
   refine sy_tx' [0, 1] rfl ?_
   refine sy_sq ?_
   refine alc rfl zl23 rfl (fun b2 => ?_)
   refine sy_sq ?_
   refine sto rfl rfl rfl cn23 rfl rfl rfl rfl ?_
   refine sy_sn ?_
   refine sy_beginRound ?_
   refine sy_block ?_
   refine sy_draw [0, 0, 2, 0, 8, 0, 32, 1, 129, 391, 927, 2047, 4095] (.ld 0 (.tk 1 (.ld 2 (.tk 3 (.ld 4 (.tk 5 (.ld 6 (.tk 7 (.tk 8 (.tk 9 (.tk 10 (.tk 11 (.big 12 .done))))))))))))) mixed (by kernel_rfl) ?_
   refine ld rfl rfl (lh sc138 rfl rfl) rfl ?_
   refine tk rfl (PE.fieldAddr fo23_0 rfl) rfl ?_
   refine ld rfl rfl (lh sc3 rfl rfl) rfl ?_
   refine tk rfl (PE.fieldAddr fo23_1 rfl) rfl ?_
   refine ld rfl rfl (lh sc3 rfl rfl) rfl ?_
   refine tk rfl (PE.fieldAddr fo23_2 rfl) rfl ?_
   refine ld rfl rfl (lh sc3 rfl rfl) rfl ?_
   refine tk rfl (PE.nilCheck rfl) rfl ?_
   refine tk rfl (PE.fieldAddr fo153_2 rfl) rfl ?_
   refine tk rfl (PE.indexArr ar150 rfl rfl (by omega) (by omega)) rfl ?_
   refine tk rfl (PE.indexArr ar145 rfl rfl (by omega) (by omega)) rfl ?_
   refine tk rfl (PE.indexArr ar144 rfl rfl (by omega) (by omega)) rfl ?_
   refine sy_bg ?_
   refine stoE rfl rfl rfl cn3 rfl rfl rfl (rc_put 1000000 (i := s.ix) (by omega) (by unfold Sta.ix; omega)) (by rw [rc_len hyl]; show _ + 1 ≤ 510; omega) ?_
   refine bg (fun w hs => ⟨trivial, trivial, trivial, trivial, trivial⟩) ?_
   refine sy_dn ?_
   refine sy_bn ?_
   exact sy_roundOn (.inl ⟨rfl, rfl, rfl⟩) (fun _ h => by repeat first | exact h | replace h := St.tail h | replace h := St.ftail h | replace h := St.drop h)
  ·
   rintro _ _ _ _ ⟨rfl, rfl, rfl, rfl⟩
   refine sy_jn ?_
   refine sy_bn ?_
   refine sy_nx ?_
   refine sy_seq ?_
   refine sy_tx' [0, 1] rfl ?_
   refine sy_sq ?_
   refine alc rfl zl3 rfl (fun b3 => ?_)
   refine sy_sq ?_
   refine sto rfl rfl rfl cn3 rfl rfl rfl rfl ?_
   refine sy_sn ?_
   refine sy_nx ?_
   refine sy_block ?_
   refine sy_loopD (ι := SvI t) (fun x => ⟨[(1, .pointer (some ⟨b1, 0, none⟩)), (3, .pointer (some ⟨x.b3, 0, none⟩))], mks x.ms, mkh x.ms ++ (x.b3, cel 3 [.int .i64 x.n]) :: (b1, cel 138 [.pointer (some ⟨bw, 0, none⟩)]) :: (x.o.G ++ (bw, cel 153 (rcs t (t.sl (some ⟨ba, oa, none⟩) ca) bt (x.σ.y) x.o.fs m)) :: (m, mapO true (kvOf x.σ.fl)) :: H), R⟩) (fun x => cntE t x.σ.y) ⟨0, ⟨everY t, []⟩, [bd0], b3, OSl.nil _ _, .zero⟩ ?_ (fun x => ?_)
   ·
    exact sy_atD (by repeat' first | exact Sub.nil | apply Sub.cons | rfl | (simp [lk]; omega)) rfl (fun w h => (h.perm (.swap _ _ _)).ftail)
   ·
    obtain ⟨n, σ, ms, b3, o, hrd⟩ := x
    dsimp only
    obtain ⟨hyl, hcn, hfl⟩ := rd_ok ht hrd
    have hn6 : (n : Int) ≤ 1000000 := by omega
    refine sy_seq ?_
    refine sy_block ?_
    refine sy_seq ?_
    refine sy_tx' [0, 1, 2, 3, 4, 5] rfl ?_
    refine sy_sq ?_
    refine spL rfl rfl (lh sc138 rfl rfl) rfl ?_
    refine sy_sq ?_
    refine sp rfl (PE.nilCheck rfl) rfl ?_
    refine sy_sq ?_
    refine sp rfl (PE.fieldAddr fo153_2 rfl) rfl ?_
    refine sy_sq ?_
    refine spL rfl rfl (lhA (ints σ.y) ag150 rfl rfl (by rw [ints_length]; exact hyl)) rfl ?_
    refine sy_sq ?_
    refine alc rfl zl150 rfl (fun b4 => ?_)
    refine sy_sq ?_
    refine stoA rfl rfl rfl cn150 rfl (by rw [ints_length]; exact hyl) List.length_replicate (ints_one _) ?_
    refine sy_sn ?_
    refine sy_nx ?_
    refine sy_seq ?_
    refine sy_seq ?_
    refine sy_tx' [0, 1, 2] rfl ?_
    refine sy_sq ?_
    refine sp rfl (PE.zero (l := ints (List.replicate 496 0)) (.inr (by rw [ar150]; rfl)) zl150i) rfl ?_
    refine sy_sq ?_
    refine alc rfl zl150 rfl (fun b5 => ?_)
    refine sy_sq ?_
    refine stoA rfl rfl rfl cn150 rfl (by rw [ints_length, List.length_replicate]) List.length_replicate (ints_one _) ?_
    refine sy_sn ?_
    refine sy_nx ?_
    refine sy_block ?_
    refine sy_loopD (ι := SvJ t n σ) (fun x => ⟨[(1, .pointer (some ⟨b1, 0, none⟩)), (3, .pointer (some ⟨b3, 0, none⟩)), (4, .pointer (some ⟨b4, 0, none⟩)), (5, .pointer (some ⟨x.b5, 0, none⟩))], mks x.ms, mkh x.ms ++ (x.b5, cel 150 (ints x.bf)) :: (b4, cel 150 (ints σ.y)) :: (b3, cel 3 [.int .i64 n]) :: (b1, cel 138 [.pointer (some ⟨bw, 0, none⟩)]) :: (x.o.G ++ (bw, cel 153 (rcs t (t.sl (some ⟨ba, oa, none⟩) ca) bt ((passes t n x.j σ).y) x.o.fs m)) :: (m, mapO true (kvOf ((passes t n x.j σ)).fl)) :: H), R⟩)
      (fun x => 2 * cntE t (passes t n x.j σ).y + if x.bf = (passes t n x.j σ).y then 0 else 1) ⟨0, ms, b5, List.replicate 496 0, List.length_replicate, o, .inl ⟨rfl, rfl⟩⟩ ?_ (fun x => ?_)
    ·
     exact sy_atD (by repeat' first | exact Sub.nil | apply Sub.cons | rfl | (simp [lk]; omega)) rfl (fun w h => h.perm (perm_swap3 [_, _] _ _))
    ·
     obtain ⟨j, ms, b5, bf, hbl, o, hbf⟩ := x
     dsimp only
     have hyj : (passes t n j σ).y.length = 496 := by rw [passes_len]; exact hyl
     obtain ⟨hpc, hpf⟩ := passes_cnt (n := (n : Int)) ht hn6 j σ hyl
     refine sy_seq ?_
     refine sy_seq ?_
     refine sy_draw [0, 0, 2, 6, 14, 31] (.ld 0 (.ld 1 (.tk 2 (.tk 3 (.ld 4 (.tk 5 .done)))))) mixed (by kernel_rfl) ?_
     refine ld rfl rfl (lhA (rest := []) (ints bf) ag150 rfl (by simp) (by rw [ints_length]; exact hbl)) rfl ?_
     refine ld rfl rfl (lh sc138 rfl rfl) rfl ?_
     refine tk rfl (PE.nilCheck rfl) rfl ?_
     refine tk rfl (PE.fieldAddr fo153_2 rfl) rfl ?_
     refine ld rfl rfl (lhA (ints (passes t n j σ).y) ag150 rfl rfl (by rw [ints_length]; exact hyj)) rfl ?_
     refine tk rfl (PE.neqAgg bf (passes t n j σ).y (eqB_ok 10000 150 true 496 eqf150) eqg150 rfl rfl hbl hyj) rfl ?_
     refine sy_dn ?_
     refine sy_nx ?_
     refine sy_cond rfl (fun hc0 => ?_) (fun hc0 => ?_)
     ·
      have hne : bf ≠ (passes t n j σ).y := by simpa using hc0
      refine sy_skip ?_
      refine sy_nx ?_
      refine sy_seq ?_
      refine sy_block ?_
      refine sy_seq ?_
      refine sy_tx' [0, 1, 2, 3, 4] rfl ?_
      refine sy_sq ?_
      refine spL rfl rfl (lh sc138 rfl rfl) rfl ?_
      refine sy_sq ?_
      refine sp rfl (PE.nilCheck rfl) rfl ?_
      refine sy_sq ?_
      refine sp rfl (PE.fieldAddr fo153_2 rfl) rfl ?_
      refine sy_sq ?_
      refine spL rfl rfl (lhA (ints (passes t n j σ).y) ag150 rfl rfl (by rw [ints_length]; exact hyj)) rfl ?_
      refine sy_sq ?_
      refine stoA rfl rfl rfl cn150 rfl (by rw [ints_length]; exact hyj) (by rw [ints_length]; exact hbl) (ints_one _) ?_
      refine sy_sn ?_
      refine sy_nx ?_
      refine sy_seq ?_
      refine sy_tx' [0, 1, 2, 3, 4] rfl ?_
      refine sy_sq ?_
      refine spL rfl rfl (lh sc138 rfl rfl) rfl ?_
      refine sy_sq ?_
      refine sp rfl (PE.nilCheck rfl) rfl ?_
      refine sy_sq ?_
      refine sp rfl (PE.fieldAddr fo153_0 rfl) rfl ?_
      refine sy_sq ?_
      refine spL rfl rfl (lhA [_, _, _, _, _, _, _, _, _, _, _] ag26 rfl rfl rfl) rfl ?_
      refine sy_sq ?_
      refine cl rfl cal90 rfl rfl (c_states t (t.sl (some ⟨ba, oa, none⟩) ca) _ _) ?_
      rintro _ _ _ ⟨b46, rfl, rfl, rfl⟩
      refine sy_sn ?_
      refine sy_nx ?_
      refine sy_block ?_
      refine sy_range rfl cal127 (fun c1 bl1 bd1 hcp1 hca1 hcb1 hck1 => ?_)
      refine ⟨fun st pend T R' => st = .ready ∧ pend = none ∧ ∃ o' : OSl 99 4 (frows (pass t n (passes t n j σ)).fl), T = (bd1, .deferred (some [])) :: (mkh ms ++ (b5, cel 150 (ints (passes t n j σ).y)) :: (b4, cel 150 (ints σ.y)) :: (b3, cel 3 [.int .i64 n]) :: (b1, cel 138 [.pointer (some ⟨bw, 0, none⟩)]) :: (o'.G ++ (bw, cel 153 (rcs t (t.sl (some ⟨ba, oa, none⟩) ca) bt ((pass t n (passes t n j σ)).y) o'.fs m)) :: (m, mapO true (kvOf ((pass t n (passes t n j σ))).fl)) :: H)) ∧ R' = RowsA (some ⟨b46, 0, none⟩) 11 [twl t (t.sl (some ⟨ba, oa, none⟩) ca)] :: R,
        Fn.mono (c_states1 t ht (t.sl (some ⟨ba, oa, none⟩) ca) b46 bl1 (fun k H' R' => ∃ o' : OSl 99 4 (frows (((sts t).take k).foldl (Sv.step t n) (passes t n j σ)).fl), H' = (bl1, lob c1 .ready none) :: (bd1, .deferred (some [])) :: (mkh ms ++ (b5, cel 150 (ints (passes t n j σ).y)) :: (b4, cel 150 (ints σ.y)) :: (b3, cel 3 [.int .i64 n]) :: (b1, cel 138 [.pointer (some ⟨bw, 0, none⟩)]) :: (o'.G ++ (bw, cel 153 (rcs t (t.sl (some ⟨ba, oa, none⟩) ca) bt ((((sts t).take k).foldl (Sv.step t n) (passes t n j σ)).y) o'.fs m)) :: (m, mapO true (kvOf ((((sts t).take k).foldl (Sv.step t n) (passes t n j σ))).fl)) :: H)) ∧ R' = RowsA (some ⟨b46, 0, none⟩) 11 [twl t (t.sl (some ⟨ba, oa, none⟩) ca)] :: R) (fun _ _ => False)
          (fun k H' R' h => by obtain ⟨_, _, h⟩ := h; rw [h]; simp) (fun k s H' R' hk hI => ?_) _ _ ⟨o, rfl, rfl⟩) (fun v H' R' h => ?_), ?_⟩
      rotate_left
      · rw [List.take_of_length_le (show (sts t).length ≤ t.nst by rw [sts_len]; exact Nat.le_refl _)] at h
        rcases h with ⟨o', rfl, rfl⟩ | h
        · exact ⟨.ready, none, _, by simp, .refl _, rfl, rfl, o', rfl, rfl⟩
        · exact h.elim
      rotate_left
      ·
       have hs := sts_right ht (List.mem_of_getElem? hk)
       have hix := ix_lt ht hs
       have q1 := right_iff.1 hs
       have t1 := ht.holds
       have t2 := ht.patience
       have t3 := ht.run
       have e : ((sts t).take (k + 1)).foldl (Sv.step t n) (passes t n j σ) = (((sts t).take k).foldl (Sv.step t n) (passes t n j σ)).step t n s := by rw [List.take_add_one, hk, Option.toList_some, List.foldl_append]; rfl
       rw [e]
       obtain ⟨_, hkf⟩ := fold_cnt (n := (n : Int)) ht hn6 ((sts t).take k) (passes t n j σ) hyj (fun s h => List.mem_of_mem_take h)
       have hyk : (((sts t).take k).foldl (Sv.step t n) (passes t n j σ)).y.length = 496 := by rw [fold_len]; exact hyj
       clear e
       generalize ((sts t).take k).foldl (Sv.step t n) (passes t n j σ) = υ at *
       obtain ⟨o, rfl, rfl⟩ := hI
       refine yd_of hcp1 hca1 hcb1 hck1 rfl ?_
       refine sy_tx' [0, 1] rfl ?_
       refine sy_sq ?_
       refine alc rfl zl23 rfl (fun b6 => ?_)
       refine sy_sq ?_
       refine sto rfl rfl rfl cn23 rfl rfl rfl rfl ?_
       refine sy_sn ?_
       refine sy_beginRound ?_
       refine sy_block ?_
       refine sy_seq ?_
       refine sy_draw [0, 1, 3, 0, 15, 31, 63, 127, 127, 127, 1023, 2047, 4095] (.ld 0 (.tk 1 (.tk 2 (.ld 3 (.big 4 (.tk 5 (.tk 6 (.ld 7 (.ld 8 (.ld 9 (.big 10 (.tk 11 (.tk 12 .done))))))))))))) mixed (by kernel_rfl) ?_
       refine ld rfl rfl (lh sc138 rfl rfl) rfl ?_
       refine tk rfl (PE.nilCheck rfl) rfl ?_
       refine tk rfl (PE.fieldAddr fo153_2 rfl) rfl ?_
       refine ld rfl rfl (lhA [_, _, _] ag23 rfl rfl rfl) rfl ?_
       refine sy_bg ?_
       refine clV rfl cal95 rfl rfl (c_of t ht s hs ba oa ca bt bw m υ.y o.fs hyk _ _) ?_
       refine bg (fun w hs => ⟨trivial, trivial, trivial⟩) ?_
       refine tk rfl (PE.eql rfl rfl) rfl ?_
       refine tk rfl (PE.move rfl) rfl ?_
       refine sy_case (t := 54) rfl (fun g54 => ?_) (fun g54 => ?_)
       ·
        refine ldG rfl rfl rfl rfl rfl (lh sc138 rfl rfl) rfl ?_
        refine ldG rfl rfl rfl rfl rfl (lhA [_, _, _] ag23 rfl rfl rfl) rfl ?_
        refine ldG rfl rfl rfl rfl rfl (lh sc3 rfl rfl) rfl ?_
        refine sy_bg ?_
        refine clVG rfl rfl rfl rfl cal132 rfl rfl (c_any t ht s hs n (by omega) ba oa ca bt bw m υ.y o.fs hyk _ _) ?_
        refine bg (fun w hs => ⟨trivial, trivial, trivial, trivial⟩) ?_
        refine tkG rfl rfl rfl rfl (PE.not rfl) rfl ?_
        refine tk rfl (PE.pick rfl rfl rfl) rfl ?_
        refine sy_dn ?_
        refine sy_nx ?_
        refine sy_cond rfl (fun hc1 => ?_) (fun hc1 => ?_)
        ·
         have e : υ.step t n s = ⟨υ.y.set s.ix (n - 1), υ.fl ++ [(s, (n : Int))]⟩ := by simp [Sv.step, ever, g54, hc1]
         rw [e]
         refine sy_seq ?_
         refine sy_draw [0, 0, 2, 0, 8, 0, 32, 0, 128, 1, 513, 1543, 3615, 8191, 16383] (.ld 0 (.tk 1 (.ld 2 (.tk 3 (.ld 4 (.tk 5 (.ld 6 (.ld 7 (.tk 8 (.tk 9 (.tk 10 (.tk 11 (.tk 12 (.tk 13 (.big 14 .done))))))))))))))) mixed (by kernel_rfl) ?_
         refine ld rfl rfl (lh sc138 rfl rfl) rfl ?_
         refine tk rfl (PE.fieldAddr fo23_0 rfl) rfl ?_
         refine ld rfl rfl (lh sc3 rfl rfl) rfl ?_
         refine tk rfl (PE.fieldAddr fo23_1 rfl) rfl ?_
         refine ld rfl rfl (lh sc3 rfl rfl) rfl ?_
         refine tk rfl (PE.fieldAddr fo23_2 rfl) rfl ?_
         refine ld rfl rfl (lh sc3 rfl rfl) rfl ?_
         refine ld rfl rfl (lh sc3 rfl rfl) rfl ?_
         refine tk rfl (PE.sub rfl rfl (by omega)) rfl ?_
         refine tk rfl (PE.nilCheck rfl) rfl ?_
         refine tk rfl (PE.fieldAddr fo153_2 rfl) rfl ?_
         refine tk rfl (PE.indexArr ar150 rfl rfl (by omega) (by omega)) rfl ?_
         refine tk rfl (PE.indexArr ar145 rfl rfl (by omega) (by omega)) rfl ?_
         refine tk rfl (PE.indexArr ar144 rfl rfl (by omega) (by omega)) rfl ?_
         refine sy_bg ?_
         refine stoE rfl rfl rfl cn3 rfl rfl rfl (rc_put _ (i := s.ix) (by omega) (by unfold Sta.ix; omega)) (by rw [rc_len hyk]; show _ + 1 ≤ 510; omega) ?_
         refine bg (fun w hs => ⟨trivial, trivial, trivial, trivial, trivial, trivial⟩) ?_
         refine sy_dn ?_
         refine sy_nx ?_
         refine sy_seq ?_
         refine sy_draw [0, 0, 2, 6, 14, 0, 0, 96, 224, 510, 1023, 2047, 4095] (.ld 0 (.ld 1 (.tk 2 (.tk 3 (.ld 4 (.ld 5 (.ld 6 (.tk 7 (.big 8 (.big 9 (.tk 10 (.tk 11 (.big 12 .done))))))))))))) mixed (by kernel_rfl) ?_
         refine ld rfl rfl (lh sc138 rfl rfl) rfl ?_
         refine ld rfl rfl (lh sc138 rfl rfl) rfl ?_
         refine tk rfl (PE.nilCheck rfl) rfl ?_
         refine tk rfl (PE.fieldAddr fo153_3 rfl) rfl ?_
         refine ld rfl rfl (lh sc96 rfl (rc_fates (by simpa using hyk))) rfl ?_
         refine ld rfl rfl (lhA [_, _, _] ag23 rfl rfl rfl) rfl ?_
         refine ld rfl rfl (lh sc3 rfl rfl) rfl ?_
         refine tk rfl (PE.build (out := [_, _, _, _]) pl99 zl99 rfl rfl) rfl ?_
         refine sy_bg ?_
         refine bsl (out := [_, _, _, _]) rfl sl96 zl99 rfl rfl rfl rfl rfl rfl (fun b83 => ?_)
         refine bg (fun w hs => ⟨trivial, trivial, (lh sc96 rfl (rc_fates (by simpa using hyk))) w hs, (lh sc138 rfl rfl) w hs, (lh sc138 rfl rfl) w hs, trivial⟩) ?_
         refine sy_bg ?_
         refine apO (o) rfl ap96 rfl rfl (rowsH (row := frow (s, (n : Int))) rfl) rfl rfl (⟨by simp only [frows, List.length_map, List.length_singleton]; omega, by simp only [frows, List.length_map, List.length_singleton]; omega⟩) rfl (fun o84 => ?_)
         refine bg (fun w hs => ⟨trivial, trivial, (lh sc138 rfl rfl) w hs, trivial⟩) ?_
         refine tk rfl (PE.nilCheck rfl) rfl ?_
         refine tk rfl (PE.fieldAddr fo153_3 rfl) rfl ?_
         refine sy_bg ?_
         refine stoE (l' := rcs t (t.sl (some ⟨ba, oa, none⟩) ca) bt (υ.y.set s.ix (n - 1)) o84.fs m) rfl rfl rfl cn96 rfl (by rw [o84.cells.1]; first | done | rfl) (by rw [o84.cells.1]; simp [o84.cells.2]) (by rw [o84.cells.1]; exact rc_putf _ (by simpa using hyk)) (by rw [o84.cells.1, rc_len (by simpa using hyk)]; show 508 + 1 ≤ 510; omega) ?_
         refine bg (fun w hs => ⟨trivial, trivial⟩) ?_
         refine sy_dn ?_
         refine sy_nx ?_
         refine sy_draw [0, 1, 3, 7, 0, 0, 63] (.ld 0 (.tk 1 (.tk 2 (.ld 3 (.ld 4 (.ld 5 (.big 6 .done))))))) mixed (by kernel_rfl) ?_
         refine ld rfl rfl (lh sc138 rfl rfl) rfl ?_
         refine tk rfl (PE.nilCheck rfl) rfl ?_
         refine tk rfl (PE.fieldAddr fo153_4 rfl) rfl ?_
         refine ld rfl rfl (lh sc151 rfl (rc_bads (by simpa using hyk))) rfl ?_
         refine ld rfl rfl (lhA [_, _, _] ag23 rfl rfl rfl) rfl ?_
         refine ld rfl rfl (lh sc3 rfl rfl) rfl ?_
         refine sy_bg ?_
         refine mpu (kvOf υ.fl) [s.stock, s.short, s.dry] rfl mke151 (KeyT.of eqf23 noa23) rfl rfl rfl rfl (kvOf_len _) ?_
         refine bg (fun w hs => ⟨trivial, trivial, trivial, trivial, trivial⟩) ?_
         refine sy_dn ?_
         refine sy_bn ?_
         first
           | exact sy_roundOn (.inl ⟨rfl, o, rfl, rfl⟩) (fun _ h => by repeat first | exact h | replace h := St.tail h | replace h := St.ftail h | replace h := St.drop h)
           | exact sy_roundOn (.inl ⟨rfl, o84.cast (by simp [frows, frow]), rfl, rfl⟩) (fun w h => by
               have e2 : kvOf (υ.fl ++ [(s, (n : Int))]) = (kvOf υ.fl).put [s.stock, s.short, s.dry] (.int .i64 n) := by simp only [kvOf, List.foldl_append, List.foldl_cons, List.foldl_nil]
               simp only [e2]
               repeat first | exact h | replace h := St.tail h)
        ·
         have e : υ.step t n s = υ := by simp [Sv.step, hc1]
         rw [e]
         refine sy_skip ?_
         refine sy_bn ?_
         first
           | exact sy_roundOn (.inl ⟨rfl, o, rfl, rfl⟩) (fun _ h => by repeat first | exact h | replace h := St.tail h | replace h := St.ftail h | replace h := St.drop h)
           | exact sy_roundOn (.inl ⟨rfl, o84.cast (by simp [frows, frow]), rfl, rfl⟩) (fun w h => by
               have e2 : kvOf (υ.fl ++ [(s, (n : Int))]) = (kvOf υ.fl).put [s.stock, s.short, s.dry] (.int .i64 n) := by simp only [kvOf, List.foldl_append, List.foldl_cons, List.foldl_nil]
               simp only [e2]
               repeat first | exact h | replace h := St.tail h)
       ·
        have e : υ.step t n s = υ := by simp [Sv.step, ever, g54]
        rw [e]
        refine ldN rfl rfl rfl rfl rfl rfl rfl rfl ?_
        refine ldN rfl rfl rfl rfl rfl rfl rfl rfl ?_
        refine ldN rfl rfl rfl rfl rfl rfl rfl rfl ?_
        refine sy_bg ?_
        refine spN rfl rfl rfl rfl rfl rfl rfl rfl ?_
        refine bg (fun w hs => ⟨trivial, trivial, trivial, trivial⟩) ?_
        refine tkN rfl rfl rfl rfl rfl rfl rfl rfl ?_
        refine tk rfl (PE.pick rfl rfl rfl) rfl ?_
        refine sy_dn ?_
        refine sy_nx ?_
        refine sy_condF rfl ?_
        refine sy_skip ?_
        refine sy_bn ?_
        first
          | exact sy_roundOn (.inl ⟨rfl, o, rfl, rfl⟩) (fun _ h => by repeat first | exact h | replace h := St.tail h | replace h := St.ftail h | replace h := St.drop h)
          | exact sy_roundOn (.inl ⟨rfl, o84.cast (by simp [frows, frow]), rfl, rfl⟩) (fun w h => by
              have e2 : kvOf (υ.fl ++ [(s, (n : Int))]) = (kvOf υ.fl).put [s.stock, s.short, s.dry] (.int .i64 n) := by simp only [kvOf, List.foldl_append, List.foldl_cons, List.foldl_nil]
              simp only [e2]
              repeat first | exact h | replace h := St.tail h)
      ·
       rintro _ _ _ _ ⟨rfl, rfl, o', rfl, rfl⟩
       refine sy_jn ?_
       refine sy_bn ?_
       refine sy_bn ?_
       refine sy_nx ?_
       refine sy_seq ?_
       refine sy_tx' [0] rfl ?_
       refine sy_sq ?_
       refine spL rfl rfl (lhA (rest := []) (ints (passes t n j σ).y) ag150 rfl (by simp) (by rw [ints_length]; exact hyj)) rfl ?_
       refine sy_sn ?_
       refine sy_nx ?_
       refine sy_tx' [0, 1] rfl ?_
       refine sy_sq ?_
       refine alc rfl zl150 rfl (fun b5 => ?_)
       refine sy_sq ?_
       refine stoA rfl rfl rfl cn150 rfl (by rw [ints_length]; exact hyj) List.length_replicate (ints_one _) ?_
       refine sy_sn ?_
       refine sy_nx ?_
       exact sy_nextD ⟨j + 1, bd1 :: ms, _, (passes t n j σ).y, hyj, o', .inr ⟨j, rfl, rfl⟩⟩ (by
         dsimp only
         rw [if_neg hne]
         by_cases he : (passes t n j σ).y = (passes t n (j + 1) σ).y
         · rw [if_pos he, ← he]; omega
         · rw [if_neg he]
           have := pass_less (σ := passes t n j σ) ht hn6 hyj (Ne.symm he)
           show 2 * cntE t (pass t n (passes t n j σ)).y + 1 < _
           omega) (by repeat' first | exact Sub.nil | apply Sub.cons | rfl | (simp [lk]; omega)) rfl (fun w h => (St.tail (h.perm (perm_mid [_] (mkh (bd1 :: ms)) [_] _))).ftail)
     ·
      have hbe : bf = (passes t n j σ).y := by simpa using hc0
      have hfix : pass t n (passes t n j σ) = passes t n j σ := by
        rcases hbf with ⟨hb1, rfl⟩ | ⟨i, rfl, hb1⟩
        · exact pass_zero (fun s => by rw [← hbe, hb1]; exact ever_zero s)
        · have e := pass_same (σ := passes t n i σ) ht hn6 (by rw [passes_len]; exact hyl) (by rw [← hb1, hbe]; rfl)
          show pass t n (pass t n (passes t n i σ)) = pass t n (passes t n i σ)
          rw [e]; exact e
      refine sy_exit ?_
      refine sy_tx ?_
      refine sy_tx ?_
      refine sy_bx ?_
      refine sy_nx ?_
      refine sy_seq ?_
      refine sy_draw [0, 0, 2, 6, 14, 31] (.ld 0 (.ld 1 (.tk 2 (.tk 3 (.ld 4 (.tk 5 .done)))))) mixed (by kernel_rfl) ?_
      refine ld rfl rfl (lhA (rest := []) (ints σ.y) ag150 rfl (by simp) (by rw [ints_length]; exact hyl)) rfl ?_
      refine ld rfl rfl (lh sc138 rfl rfl) rfl ?_
      refine tk rfl (PE.nilCheck rfl) rfl ?_
      refine tk rfl (PE.fieldAddr fo153_2 rfl) rfl ?_
      refine ld rfl rfl (lhA (ints (passes t n j σ).y) ag150 rfl rfl (by rw [ints_length]; exact hyj)) rfl ?_
      refine tk rfl (PE.eqlAgg σ.y (passes t n j σ).y (eqB_ok 10000 150 true 496 eqf150) eqg150 rfl rfl hyl hyj) rfl ?_
      refine sy_dn ?_
      refine sy_nx ?_
      refine sy_cond rfl (fun hc2 => ?_) (fun hc2 => ?_)
      ·
       have hsame := passes_same (n := (n : Int)) (j := j) ht hn6 hyl (by simpa using hc2 : σ.y = _).symm
       refine sy_ret ?_
       refine sy_br ?_
       refine sy_tr ?_
       refine sy_tr ?_
       refine sy_br ?_
       exact sy_returnM ms (fun _ h => h) rfl .nil rfl ⟨passes t n j σ, o, ⟨n, by rw [hsame]; exact hrd, hfix⟩, rfl, rfl⟩ (fun _ h => by repeat first | exact h | replace h := St.tail h | replace h := St.ftail h | replace h := St.drop h)
      ·
       have hdiff : passes t n j σ ≠ σ := fun e => by rw [e] at hc2; simp at hc2
       refine sy_skip ?_
       refine sy_bn ?_
       refine sy_nx ?_
       refine sy_seq ?_
       refine sy_seq ?_
       refine sy_tx' [0] rfl ?_
       refine sy_sq ?_
       refine spL rfl rfl (lh sc3 rfl rfl) rfl ?_
       refine sy_sn ?_
       refine sy_nx ?_
       refine sy_tx' [0, 1] rfl ?_
       refine sy_sq ?_
       refine alc rfl zl3 rfl (fun b3 => ?_)
       refine sy_sq ?_
       refine sto rfl rfl rfl cn3 rfl rfl rfl rfl ?_
       refine sy_sn ?_
       refine sy_nx ?_
       refine sy_tx' [0, 1, 2] rfl ?_
       refine sy_sq ?_
       refine spL rfl rfl (lh sc3 rfl rfl) rfl ?_
       refine sy_sq ?_
       refine sp rfl (PE.add rfl rfl (by omega)) rfl ?_
       refine sy_sq ?_
       refine sto rfl rfl rfl cn3 rfl rfl rfl rfl ?_
       refine sy_sn ?_
       refine sy_nx ?_
       exact sy_nextD ⟨n + 1, passes t n j σ, ms, _, o, .next j hrd hfix hdiff⟩ (by
         rcases hpc with h | h
         · exact absurd h hdiff
         · exact h) (by repeat' first | exact Sub.nil | apply Sub.cons | rfl | (simp [lk]; omega)) rfl (fun w h => St.drop (G := [_, _, _]) (h.perm (perm_mid [_] _ [_, _, _] _)))
end Go.Proofs.Ytaldphhdkmchhaa
