/- Walks of the functions of the program, and the laws that join them: what the last theorem of this claim needs, in order. -/
import Derived.Test.YtelegnmfhjfbaaaWd6
namespace Go.Proofs.Ytelegnmfhjfbaaa
set_option linter.unusedSimpArgs false
set_option linter.unusedVariables false
open Go
theorem cal66 : cal Try.prog 66 = true := by kernel_rfl
structure Wok (b : Barn) (W : List WE) : Prop where
  ok : ∀ z ∈ wls W, stErr b z = 0
  len : 1 ≤ W.length ∧ W.length ≤ 2000
theorem Wok.one {b : Barn} {W : List WE} (h : Wok b W) {x : WE} (hx : x ∈ W) : x.l.length = b.bins.length ∧ (0 ≤ x.d ∧ x.d ≤ 20000) ∧ ∀ k < b.bins.length, badL b k (na x.l k) = false := stErr_zero (h.ok _ (wls_mem hx))
theorem Wok.put {b : Barn} {A C : List WE} {x y : WE} (h : Wok b (A ++ x :: C)) (hy : stErr b (y.l, y.d) = 0) : Wok b (A ++ y :: C) := by
  refine ⟨fun z hz => ?_, by have := h.len; simp only [List.length_append, List.length_cons] at this ⊢; exact this⟩
  rw [wls_app] at hz
  rcases List.mem_append.1 hz with hz | hz
  · exact h.ok z (by rw [wls_app]; exact List.mem_append_left _ hz)
  · rcases List.mem_cons.1 (show z ∈ (y.l, y.d) :: wls C from hz) with rfl | hz
    · exact hy
    · exact h.ok z (by rw [wls_app]; exact List.mem_append_right _ (show z ∈ (x.l, x.d) :: wls C from List.mem_cons_of_mem _ hz))
theorem Wok.del {b : Barn} {W : List WE} (h : Wok b W) {i : Nat} (hi : i < W.length) (h2 : 1 < W.length) : Wok b (W.eraseIdx i) := by
  refine ⟨fun z hz => ?_, by rw [List.length_eraseIdx_of_lt hi]; have := h.len; omega⟩
  obtain ⟨x, hx, rfl⟩ := List.mem_map.1 hz
  exact h.ok _ (wls_mem (List.mem_of_mem_eraseIdx hx))
theorem st_set {b : Barn} {x : WE} (h : stErr b (x.l, x.d) = 0) {k : Nat} (hk : k < b.bins.length) (hv : na x.l k ≠ 1000000) {v : Int} (h2 : 0 ≤ v ∧ v ≤ 10) : stErr b (x.l.set k v, x.d) = 0 := by
  obtain ⟨h3, h4, h5⟩ := stErr_zero h
  dsimp only at h3 h4 h5
  refine stErr_ok (by dsimp only; rw [List.length_set]; exact h3) (by simp [inB]; omega) fun j hj => ?_
  dsimp only
  rw [na_set (by omega)]
  by_cases e : k = j
  · subst e
    rw [if_pos rfl]
    have h6 := badL_ok (h5 k hk)
    have h7 : b.worst (b.bins.getD k hb0) ≠ 0 := fun h0 => hv (h6.1 h0)
    unfold badL
    rw [decide_eq_false h7, cond_false]
    have : inB v 0 10 = true := by simp [inB]; omega
    rw [this]; rfl
  · rw [if_neg e]; exact h5 j hj
theorem st_days {b : Barn} {l : List Int} {d d' : Int} (h : stErr b (l, d) = 0) (hd : 0 ≤ d' ∧ d' ≤ 20000) : stErr b (l, d') = 0 := by
  obtain ⟨h3, _, h5⟩ := stErr_zero h
  exact stErr_ok h3 (by simp [inB]; omega) h5
theorem wob_back {A C : List WO} {x : WO} {s o : Nat × Obj} {T : Heap} : (s :: o :: x.blk :: (wob A ++ (wob C ++ T))).Perm (o :: (wob (A ++ x :: C) ++ (s :: T))) := by
  refine (List.Perm.swap _ _ _).trans (List.Perm.cons _ ?_)
  have e : wob (A ++ x :: C) ++ (s :: T) = wob A ++ (x.blk :: (wob C ++ (s :: T))) := by rw [wob_app, List.append_assoc]; rfl
  rw [e]
  refine List.Perm.trans ?_ (List.perm_middle (l₁ := wob A)).symm
  refine (List.Perm.swap _ _ _).trans (List.Perm.cons _ ?_)
  refine (List.perm_middle (l₁ := wob A)).symm.trans (List.Perm.append_left _ ?_)
  exact (List.perm_middle (l₁ := wob C)).symm
theorem wob_back2 {A C : List WO} {x : WO} {s : Nat × Obj} {T : Heap} : (s :: x.blk :: (wob A ++ (wob C ++ T))).Perm (wob (A ++ x :: C) ++ (s :: T)) := by
  have e : wob (A ++ x :: C) ++ (s :: T) = wob A ++ (x.blk :: (wob C ++ (s :: T))) := by rw [wob_app, List.append_assoc]; rfl
  rw [e]
  refine List.Perm.trans ?_ (List.perm_middle (l₁ := wob A)).symm
  refine (List.Perm.swap _ _ _).trans (List.Perm.cons _ ?_)
  refine (List.perm_middle (l₁ := wob A)).symm.trans (List.Perm.append_left _ ?_)
  exact (List.perm_middle (l₁ := wob C)).symm
theorem wob_open {A C : List WO} {x : WO} {T : Heap} : (wob (A ++ x :: C) ++ T).Perm (x.blk :: (wob A ++ (wob C ++ T))) := by
  rw [wob_app, List.append_assoc]
  exact List.perm_middle
theorem wos_same {A C : List WO} {x y : WO} (h1 : x.b = y.b) (h2 : x.cap = y.cap) (h3 : x.l.length = y.l.length) (h4 : x.d = y.d) : werows (wos (A ++ x :: C)) = werows (wos (A ++ y :: C)) := by
  rw [wos_app, wos_app, werows_app, werows_app]
  congr 1
  show werow x.we :: werows (wos C) = werow y.we :: werows (wos C)
  congr 1
  unfold werow WO.we
  dsimp only
  rw [h1, h2, h3, h4]
theorem perm_snoc {G : Heap} {l : List WO} {x : WO} {T : Heap} : (x.blk :: (G ++ (wob l ++ T))).Perm (G ++ (wob (l ++ [x]) ++ T)) := by
  refine (List.perm_middle (l₁ := G)).symm.trans (List.Perm.append_left _ ?_)
  rw [wob_app, List.append_assoc]
  exact (List.perm_middle (l₁ := wob l)).symm
theorem St.wfin {A C : List WO} {x : WO} {s : Nat × Obj} {bo : Nat} {jo : List Value} {T : Heap} {R : Facts} {w : World} (h : St (s :: (bo, cel 93 ((werows (wos (A ++ x :: C))).flatten ++ jo)) :: x.blk :: (wob A ++ (wob C ++ T))) R w) :
    St (s :: T) (InW (wos (A ++ x :: C)) :: RowsA (some ⟨bo, 0, none⟩) 2 (werows (wos (A ++ x :: C))) :: R) w :=
  St.wobs (St.rows (sz := 2) (rows := werows (wos (A ++ x :: C))) (rest := jo) (h.perm wob_back) (we_two _))
theorem c_ShowsK (b : Barn) (ab : Option Addr) (cb : Nat) (hl : b.bins.length ≤ 9223372036854775807) (hr : b.rise.length = 6) (hck : b.check = 0) (W : List WE) (aw : Option Addr) (cw : Nat) (hwl : W.length ≤ 1000000) (hwx : ∀ x ∈ W, x.l.length ≤ 1000000) (H : Heap) (R : Facts) [hB : MemRows ab 4 (brows b.bins) R] [hW : MemRows aw 2 (werows W) R] [hN : MemF (InW W) R] : FnV Try.prog 61 [b.v (b.sl ab cb), .slice aw W.length cw] H R (.tuple #[.int .i64 (shwV b (wls W)).1, .int .i64 (shwV b (wls W)).2]) := by
  rw [← shwE_ok hck]; exact c_Shows b ab cb hl hr W aw cw hwl hwx H R
set_option maxHeartbeats 2000000 in
theorem c_HeatWalled (l1 : List Int) (a1 : Option Addr) (c1 : Nat) (hl1 : l1.length ≤ 9223372036854775807) (l2 : List Int) (a2 : Option Addr) (c2 : Nat) (hl2 : l2.length ≤ 9223372036854775807) (H : Heap) (R : Facts) [hG1 : MemRows a1 1 (urows l1) R] [hG2 : MemRows a2 1 (urows l2) R] :
    Fn Try.prog 12 [.slice a1 l1.length c1, .slice a2 l2.length c2] H R (fun v H' R' => v = .bool true ∧ H' = H ∧ R' = R) := by
 refine fn_of Try.func12 rfl Try.ntmps12 rfl ?_
 refine sy_seq ?_
 refine sy_tx' [0] rfl ?_
 refine sp rfl (PE.assign rfl) rfl ?_
 refine sy_seq ?_
 refine sy_tx' [0, 1, 2, 3, 4, 5, 6, 7] rfl ?_
 refine sp rfl (PE.move rfl) rfl ?_
 refine cl rfl cal45 rfl rfl (c_Fill l1 a1 c1 hl1 _ _) ?_
 rintro _ _ R1 ⟨bs, ms, hms, rfl, rfl, hR1⟩
 obtain rfl := hR1.symm
 clear hR1
 refine cl rfl cal44 rfl rfl (c_Made l1 a1 c1 bs hl1 0 ms (by omega) hms 3 2 (by omega) (by omega) _ _) ?_
 rintro _ _ R1 ⟨b, ab, cb, tqb, mxb, hmd, rfl, htqb, hmxb, rfl, hR1⟩
 obtain rfl := hR1.symm
 clear hR1
 have hok := hmd.ok
 have hck := hmd.check
 have hr := hok.len
 have hmn := hok.many
 have hnb := hmd.nb
 have hgn := hok.gangs
 have hng := hmd.ng
 have hl : b.bins.length ≤ 9223372036854775807 := by omega
 refine sp rfl (PE.move rfl) rfl ?_
 refine cl rfl cal45 rfl rfl (c_Fill l2 a2 c2 hl2 _ _) ?_
 rintro _ _ R1 ⟨bt, mt, hmt, rfl, rfl, hR1⟩
 obtain rfl := hR1.symm
 clear hR1
 refine alc rfl zl25 rfl (fun b5 => ?_)
 refine stoE (l' := btl b (b.sl ab cb)) rfl rfl rfl cn25 rfl rfl rfl rfl (Nat.le_of_ble_eq_true rfl) ?_
 refine sp rfl (PE.assign rfl) rfl ?_
 refine sy_seq ?_
 refine sy_tx' [0, 1, 2, 3, 4, 5, 6] rfl ?_
 obtain ⟨x0, hx⟩ : ∃ x, b.bins[0]? = some x := ⟨_, List.getElem?_eq_getElem (by omega)⟩
 refine sy_addr (a := ab) (sz := 4) (rows := brows b.bins) (by intro h0; simp [brows] at h0; simp [h0] at hx) (fun ba oa he => ?_)
 subst he
 clear hx
 refine spL rfl rfl (lhA (btl b (b.sl (some ⟨ba, oa, none⟩) cb)) ag25 rfl rfl rfl) rfl ?_
 refine cl rfl cal35 rfl rfl (c_LongestX b (some ⟨ba, oa, none⟩) cb hl hr hck _ _) ?_
 rintro _ _ _ ⟨⟨m, hm, rfl⟩, rfl, rfl⟩
 have hmr := kpt_nn hm
 refine sp rfl (PE.move rfl) rfl ?_
 refine sp rfl (PE.extract rfl rfl) rfl ?_
 refine sp rfl (PE.extract rfl rfl) rfl ?_
 refine sp rfl (PE.assign rfl) rfl ?_
 refine sp rfl (PE.assign rfl) rfl ?_
 refine sy_seq ?_
 refine sy_tx' [0, 1, 2, 3, 4, 5, 6] rfl ?_
 obtain ⟨w, hw, hwm⟩ : ∃ w, WWant b w m ∧ ((m = 1000000 ∧ w = 6) ∨ (m ≠ 1000000 ∧ w = 0)) := by
   by_cases h : m = 1000000
   · exact ⟨6, ⟨.inr ⟨hck, hm, .inl ⟨h, rfl⟩⟩⟩, .inl ⟨h, rfl⟩⟩
   · exact ⟨0, ⟨.inr ⟨hck, hm, .inr ⟨h, rfl⟩⟩⟩, .inr ⟨h, rfl⟩⟩
 refine spL rfl rfl (lhA (btl b (b.sl (some ⟨ba, oa, none⟩) cb)) ag25 rfl rfl rfl) rfl ?_
 refine cl rfl cal60 rfl rfl (c_WallX b (some ⟨ba, oa, none⟩) cb hl hr hw _ _) ?_
 rintro _ _ R1 ⟨L, al, cz, hL1, hL2, rfl, rfl, hR1⟩
 obtain rfl := hR1.symm
 clear hR1
 have hn14 := (b.dsk.nst_le (b.dsk_ok hok)).2
 have hLz : w = 0 → (∀ z ∈ wls L, stErr b z = 0) ∧ 1 ≤ L.length := fun h0 => by
   obtain ⟨hsv, _⟩ := hL2 h0
   have h1 := wlErr_zero (shw_zero (W := wls L) (by rw [hsv])).1
   rw [wls_len] at h1
   exact ⟨h1.2, h1.1.1⟩
 have hLb : L.length ≤ 14641 ∧ (w = 0 → 1 ≤ L.length) := by
   by_cases h0 : w = 0
   · have h1 := hL2 h0; have h2 := hLz h0; exact ⟨by omega, fun _ => h2.2⟩
   · rw [hL1 h0]; exact ⟨by decide, fun h => absurd h h0⟩
 refine sp rfl (PE.move rfl) rfl ?_
 refine sp rfl (PE.extract rfl rfl) rfl ?_
 refine sp rfl (PE.extract rfl rfl) rfl ?_
 refine sp rfl (PE.assign rfl) rfl ?_
 refine sp rfl (PE.assign rfl) rfl ?_
 refine sy_seq ?_
 refine sy_seq ?_
 refine sy_cut (ι := Unit) (fun _ => ⟨[(5, .pointer (some ⟨b5, 0, none⟩)), (6, .pointer (some ⟨bt, 0, none⟩)), (7, .int .i64 m), (9, .slice al L.length cz), (10, .int .i64 w), (67, .bool false)], (bt, cel 144 [.slice a2 l2.length c2, .int .i64 (0), .int .u32 (mt)]) :: (b5, cel 25 (btl b (b.sl (some ⟨ba, oa, none⟩) cb))) :: (bs, cel 144 [.slice a1 l1.length c1, .int .i64 (tqb), .int .u32 (mxb)]) :: H, RowsA al 2 (werows L) :: InW L :: RowsA (some ⟨ba, oa, none⟩) 4 (brows b.bins) :: R⟩) ?_ ?_
 refine sy_tx' [0, 1, 2, 3, 4, 5, 6, 7, 8, 9, 10, 11, 12, 13, 14, 15, 16, 17, 18, 19, 20, 21, 22, 23, 24, 25, 26, 27, 28, 29, 30] rfl ?_
 refine sp rfl (PE.move rfl) rfl ?_
 refine sp rfl (PE.neq rfl rfl) rfl ?_
 refine sp rfl (PE.move rfl) rfl ?_
 refine sy_case (t := 39) rfl (fun g39 => ?_) (fun g39 => ?_)
 exact absurd g39 (by simp)
 refine spG rfl rfl rfl rfl (PE.move rfl) rfl ?_
 refine spG rfl rfl rfl rfl (PE.eql rfl rfl) rfl ?_
 refine spG rfl rfl rfl rfl (PE.move rfl) rfl ?_
 refine spG rfl rfl rfl rfl (PE.neq rfl rfl) rfl ?_
 refine spG rfl rfl rfl rfl (PE.neqBool ub4 rfl rfl) rfl ?_
 refine sp rfl (PE.pick rfl rfl rfl) rfl ?_
 refine sp rfl (PE.move rfl) rfl ?_
 refine sy_case (t := 46) rfl (fun g46 => ?_) (fun g46 => ?_)
 exact absurd g46 (by rw [show decide (w = 0) = decide (m ≠ 1000000) from decide_eq_decide.2 (by omega)]; simp)
 refine spG rfl rfl rfl rfl (PE.move rfl) rfl ?_
 refine spG rfl rfl rfl rfl (PE.neq rfl rfl) rfl ?_
 refine spG rfl rfl rfl rfl (PE.move rfl) rfl ?_
 refine sy_case (t := 49) rfl (fun g49 => ?_) (fun g49 => ?_)
 refine spG rfl rfl rfl rfl (PE.move rfl) rfl ?_
 refine spG rfl rfl rfl rfl (PE.neq rfl rfl) rfl ?_
 refine spG rfl rfl rfl rfl (PE.pick rfl rfl rfl) rfl ?_
 refine sp rfl (PE.pick rfl rfl rfl) rfl ?_
 refine sp rfl (PE.move rfl) rfl ?_
 refine sy_case (t := 54) rfl (fun g54 => ?_) (fun g54 => ?_)
 have d1 := of_decide_eq_true g49
 have d2 := of_decide_eq_true g54
 omega
 refine spG rfl rfl rfl rfl (PE.move rfl) rfl ?_
 refine spG rfl rfl rfl rfl (PE.lenSl isl91 rfl) rfl ?_
 refine spG rfl rfl rfl rfl (PE.gtr rfl rfl) rfl ?_
 refine sp rfl (PE.pick rfl rfl rfl) rfl ?_
 refine sp rfl (PE.move rfl) rfl ?_
 refine sy_case (t := 59) rfl (fun g59 => ?_) (fun g59 => ?_)
 simp only [decide_eq_true_eq] at g59; omega
 refine spG rfl rfl rfl rfl (PE.move rfl) rfl ?_
 refine spG rfl rfl rfl rfl (PE.eql rfl rfl) rfl ?_
 refine spG rfl rfl rfl rfl (PE.move rfl) rfl ?_
 refine sy_case (t := 62) rfl (fun g62 => ?_) (fun g62 => ?_)
 have hw1 := of_decide_eq_true g62
 have hle1 := hLb.2 hw1
 refine spG rfl rfl rfl rfl (PE.move rfl) rfl ?_
 refine spG rfl rfl rfl rfl (PE.lenSl isl91 rfl) rfl ?_
 refine spG rfl rfl rfl rfl (PE.eql rfl rfl) rfl ?_
 refine spG rfl rfl rfl rfl (PE.pick rfl rfl rfl) rfl ?_
 refine sp rfl (PE.pick rfl rfl rfl) rfl ?_
 try rw [show decide ((L.length : Int) = 0) = false from decide_eq_false (by omega)]
 exact sy_cutEnd () (by repeat' first | exact Sub.nil | apply Sub.cons | rfl | (simp [lk]; omega)) (fun w h => h.pull bt)
 repeat refine spN rfl rfl rfl rfl rfl rfl rfl rfl ?_
 refine spG rfl rfl rfl rfl (PE.pick rfl rfl rfl) rfl ?_
 refine sp rfl (PE.pick rfl rfl rfl) rfl ?_
 try rw [show decide ((L.length : Int) = 0) = false from decide_eq_false (by omega)]
 exact sy_cutEnd () (by repeat' first | exact Sub.nil | apply Sub.cons | rfl | (simp [lk]; omega)) (fun w h => h.pull bt)
 repeat refine spN rfl rfl rfl rfl rfl rfl rfl rfl ?_
 refine spG rfl rfl rfl rfl (PE.pick rfl rfl rfl) rfl ?_
 refine sp rfl (PE.pick rfl rfl rfl) rfl ?_
 refine sp rfl (PE.move rfl) rfl ?_
 refine spG rfl rfl rfl rfl (PE.move rfl) rfl ?_
 refine spG rfl rfl rfl rfl (PE.lenSl isl91 rfl) rfl ?_
 refine spG rfl rfl rfl rfl (PE.gtr rfl rfl) rfl ?_
 refine sp rfl (PE.pick rfl rfl rfl) rfl ?_
 refine sp rfl (PE.move rfl) rfl ?_
 refine sy_case (t := 59) rfl (fun g59 => ?_) (fun g59 => ?_)
 simp only [decide_eq_true_eq] at g59; omega
 refine spG rfl rfl rfl rfl (PE.move rfl) rfl ?_
 refine spG rfl rfl rfl rfl (PE.eql rfl rfl) rfl ?_
 refine spG rfl rfl rfl rfl (PE.move rfl) rfl ?_
 refine sy_case (t := 62) rfl (fun g62 => ?_) (fun g62 => ?_)
 have hw1 := of_decide_eq_true g62
 have hle1 := hLb.2 hw1
 refine spG rfl rfl rfl rfl (PE.move rfl) rfl ?_
 refine spG rfl rfl rfl rfl (PE.lenSl isl91 rfl) rfl ?_
 refine spG rfl rfl rfl rfl (PE.eql rfl rfl) rfl ?_
 refine spG rfl rfl rfl rfl (PE.pick rfl rfl rfl) rfl ?_
 refine sp rfl (PE.pick rfl rfl rfl) rfl ?_
 try rw [show decide ((L.length : Int) = 0) = false from decide_eq_false (by omega)]
 exact sy_cutEnd () (by repeat' first | exact Sub.nil | apply Sub.cons | rfl | (simp [lk]; omega)) (fun w h => h.pull bt)
 repeat refine spN rfl rfl rfl rfl rfl rfl rfl rfl ?_
 refine spG rfl rfl rfl rfl (PE.pick rfl rfl rfl) rfl ?_
 refine sp rfl (PE.pick rfl rfl rfl) rfl ?_
 try rw [show decide ((L.length : Int) = 0) = false from decide_eq_false (by omega)]
 exact sy_cutEnd () (by repeat' first | exact Sub.nil | apply Sub.cons | rfl | (simp [lk]; omega)) (fun w h => h.pull bt)
 rintro ⟨⟩
 refine sy_cond rfl (fun hc0 => ?_) (fun hc0 => ?_)
 exact absurd hc0 (by simp)
 refine sy_skip ?_
 refine sy_seq ?_
 refine sy_seq ?_
 refine sy_tx' [0, 1, 2] rfl ?_
 refine sp rfl (PE.move rfl) rfl ?_
 refine sp rfl (PE.lenSl isl91 rfl) rfl ?_
 refine sp rfl (PE.gtr rfl rfl) rfl ?_
 refine sy_cond rfl (fun hc1 => ?_) (fun hc1 => ?_)
 refine sy_seq ?_
 refine sy_tx' [0, 1] rfl ?_
 refine clV rfl cal18 rfl rfl (c_awake _ _) ?_
 refine sp rfl (PE.assign rfl) rfl ?_
 refine sy_ret ?_
 exact sy_return (vs := [_]) rfl (.cons (RV.tmp rfl) .nil) rfl ⟨rfl, rfl, rfl⟩ (fun w h => (((h.del b5).del bt).del bs).facts (fun g hg => by simp [hg]))
 try simp only [decide_eq_true_eq, decide_eq_false_iff_not, Bool.and_eq_true, Bool.or_eq_true, Bool.not_eq_true', Int.not_le, Int.not_lt] at hc1
 refine sy_skip ?_
 refine sy_seq ?_
 refine sy_seq ?_
 refine sy_tx' [0, 1] rfl ?_
 refine sp rfl (PE.move rfl) rfl ?_
 refine sp rfl (PE.neq rfl rfl) rfl ?_
 refine sy_join (ι := {y : List WE × Option Addr × Nat × Int × Int // (Wok b y.1 ∧ ∀ x ∈ y.1, x.d ≤ 14641) ∧ (0 ≤ y.2.2.2.1 ∧ y.2.2.2.1 ≤ 1) ∧ (0 ≤ y.2.2.2.2 ∧ y.2.2.2.2 ≤ 4294967295)}) (fun y => ⟨[(5, .pointer (some ⟨b5, 0, none⟩)), (6, .pointer (some ⟨bt, 0, none⟩)), (7, .int .i64 m), (9, .slice y.1.2.1 y.1.1.length y.1.2.2.1)], (bt, cel 144 [.slice a2 l2.length c2, .int .i64 (y.1.2.2.2.1), .int .u32 (y.1.2.2.2.2)]) :: (b5, cel 25 (btl b (b.sl (some ⟨ba, oa, none⟩) cb))) :: (bs, cel 144 [.slice a1 l1.length c1, .int .i64 (tqb), .int .u32 (mxb)]) :: H, RowsA y.1.2.1 2 (werows y.1.1) :: InW y.1.1 :: RowsA (some ⟨ba, oa, none⟩) 4 (brows b.bins) :: R⟩) ?_ ?_
 refine sy_cond rfl (fun hc2 => ?_) (fun hc2 => ?_)
 try simp only [decide_eq_true_eq, decide_eq_false_iff_not, Bool.and_eq_true, Bool.or_eq_true, Bool.not_eq_true', Int.not_le, Int.not_lt] at hc2
 refine sy_seq ?_
 refine sy_tx' [0, 1, 2, 3, 4] rfl ?_
 refine sp rfl (PE.move rfl) rfl ?_
 refine sy_pull bt ?_
 refine cl rfl cal63 rfl rfl (c_Below l2 a2 c2 bt hl2 _ _ (by omega) (by assumption) (9) _ _) ?_
 rintro _ _ R1 ⟨x75, m75, hx75, rfl, hm75, rfl, hR1⟩
 obtain rfl := hR1.symm
 clear hR1
 refine sp rfl (PE.build (out := [.slice none 0 0, .int .i64 x75]) pl93 zl93 rfl rfl) rfl ?_
 refine alc rfl zl93 rfl (fun b11 => ?_)
 refine stoE (l' := [.slice none 0 0, .int .i64 x75]) rfl rfl rfl cn93 rfl rfl rfl rfl (Nat.le_of_ble_eq_true rfl) ?_
 refine sy_seq ?_
 refine sy_seq ?_
 refine sy_tx' [0, 1, 2, 3] rfl ?_
 refine sp rfl (PE.fieldAddr fo25_3 rfl) rfl ?_
 refine spL rfl rfl (lh sc23 rfl rfl) rfl ?_
 refine sp rfl (PE.lenSl isl23 rfl) rfl ?_
 refine sp rfl (PE.move rfl) rfl ?_
 refine sy_block ?_
 refine sy_loop (ι := (k : {k : Nat // k ≤ b.bins.length}) × OSl 3 1 (irows ((bgL b).take k.1))) (fun y => ⟨[(5, .pointer (some ⟨b5, 0, none⟩)), (6, .pointer (some ⟨bt, 0, none⟩)), (7, .int .i64 m), (11, .pointer (some ⟨b11, 0, none⟩)), (78, b.sl (some ⟨ba, oa, none⟩) cb), (79, .int .i64 b.bins.length), (80, .int .i64 y.1.1)], (b11, cel 93 [y.2.fs, .int .i64 x75]) :: (y.2.G ++ (bt, cel 144 [.slice a2 l2.length c2, .int .i64 ((0 + 1)), .int .u32 (m75)]) :: (b5, cel 25 (btl b (b.sl (some ⟨ba, oa, none⟩) cb))) :: (bs, cel 144 [.slice a1 l1.length c1, .int .i64 (tqb), .int .u32 (mxb)]) :: H), RowsA (some ⟨ba, oa, none⟩) 4 (brows b.bins) :: R⟩) (fun y => b.bins.length - y.1.1) ⟨⟨0, Nat.zero_le _⟩, OSl.nil _ _⟩ ?_ (fun y => ?_)
 exact sy_at (by repeat' first | exact Sub.nil | apply Sub.cons | rfl | (simp [lk]; omega)) (fun w h => (h.pull b11).facts (fun g hg => by simp [hg]))
 obtain ⟨⟨k, hk⟩, o⟩ := y
 dsimp only at hk o ⊢
 refine sy_seq ?_
 refine sy_tx' [0] rfl ?_
 refine sp rfl (PE.lss rfl rfl) rfl ?_
 refine sy_seq ?_
 refine sy_cond rfl (fun hc3 => ?_) (fun hc3 => ?_)
 try simp only [decide_eq_true_eq, decide_eq_false_iff_not, Bool.and_eq_true, Bool.or_eq_true, Bool.not_eq_true', Int.not_le, Int.not_lt] at hc3
 obtain ⟨x, hx⟩ : ∃ x, b.bins[k]? = some x := ⟨_, List.getElem?_eq_getElem (by omega)⟩
 have hg : (bgL b)[k]? = some (b.days x x.warm) := by unfold bgL; rw [List.getElem?_map, hx]; rfl
 refine sy_skip ?_
 refine sy_seq ?_
 refine sy_block ?_
 refine sy_seq ?_
 refine sy_tx' [0, 1] rfl ?_
 refine sp rfl (PE.move rfl) rfl ?_
 refine sp rfl (PE.assign rfl) rfl ?_
 refine sy_seq ?_
 refine sy_tx' [0, 1, 2, 3, 4, 5, 6, 7] rfl ?_
 refine spL rfl rfl (lhA (btl b (b.sl (some ⟨ba, oa, none⟩) cb)) ag25 rfl rfl rfl) rfl ?_
 refine sp rfl (PE.move rfl) rfl ?_
 refine clV rfl cal51 rfl rfl (c_LeftK b (some ⟨ba, oa, none⟩) cb hl hr hck hx _ _) ?_
 refine sp rfl (PE.move rfl) rfl ?_
 refine sp rfl (PE.extract rfl rfl) rfl ?_
 refine sp rfl (PE.extract rfl rfl) rfl ?_
 refine sp rfl (PE.assign rfl) rfl ?_
 refine sp rfl (PE.assign rfl) rfl ?_
 refine sy_seq ?_
 refine sy_seq ?_
 refine sy_tx' [0, 1] rfl ?_
 refine sp rfl (PE.move rfl) rfl ?_
 refine sp rfl (PE.neq rfl rfl) rfl ?_
 refine sy_cond rfl (fun hc4 => ?_) (fun hc4 => ?_)
 exact absurd hc4 (by simp)
 refine sy_skip ?_
 refine sy_tx' [0, 1, 2, 3, 4, 5, 6] rfl ?_
 refine sp rfl (PE.fieldAddr fo93_0 rfl) rfl ?_
 refine spL rfl rfl (lh sc40 rfl rfl) rfl ?_
 refine sp rfl (PE.move rfl) rfl ?_
 refine bsl (out := [_]) rfl sl40 zl3 rfl rfl rfl rfl rfl rfl (fun b94 => ?_)
 refine apO (o) rfl ap40 rfl rfl (rowsH (row := [.int .i64 (b.days x x.warm)]) rfl) rfl rfl ((by rw [irows_len, List.length_take, bgL_len]; simp only [List.length_singleton]; omega)) rfl (fun o95 => ?_)
 refine sp rfl (PE.fieldAddr fo93_0 rfl) rfl ?_
 refine stoE (l' := [o95.fs, .int .i64 x75]) rfl rfl rfl cn40 rfl (by rw [o95.cells.1]; first | done | rfl) (by rw [o95.cells.1]; simp [o95.cells.2]) (by rw [o95.cells.1]; first | done | rfl) (by rw [o95.cells.1]; first | done | exact Nat.le_of_ble_eq_true rfl) ?_
 refine sy_tx' [0, 1] rfl ?_
 refine sp rfl (PE.add rfl rfl (by omega)) rfl ?_
 refine sp rfl (PE.move rfl) rfl ?_
 exact sy_next ⟨⟨k + 1, by omega⟩, o95.cast (by rw [take_snoc hg]; simp [irows])⟩ (by dsimp only; omega) (by repeat' first | exact Sub.nil | apply Sub.cons | rfl | (simp [lk]; omega)) (fun w h => h.del b94)
 try simp only [decide_eq_true_eq, decide_eq_false_iff_not, Bool.and_eq_true, Bool.or_eq_true, Bool.not_eq_true', Int.not_le, Int.not_lt] at hc3
 obtain rfl : k = b.bins.length := by omega
 obtain ⟨a9, c9, he, hf⟩ := o.freeze
 rw [show (irows ((bgL b).take b.bins.length)).length = (bgL b).length by rw [irows_len, List.length_take, bgL_len, Nat.min_self]] at he
 rw [he]
 refine Sy.heap (H' := (b11, cel 93 [.slice a9 (bgL b).length c9, .int .i64 x75]) :: (bt, cel 144 [.slice a2 l2.length c2, .int .i64 ((0 + 1)), .int .u32 (m75)]) :: (b5, cel 25 (btl b (b.sl (some ⟨ba, oa, none⟩) cb))) :: (bs, cel 144 [.slice a1 l1.length c1, .int .i64 (tqb), .int .u32 (mxb)]) :: H) (R' := RowsA a9 1 (irows (bgL b)) :: RowsA (some ⟨ba, oa, none⟩) 4 (brows b.bins) :: R) (fun w h => by
   have h2 := hf (h.perm (List.perm_middle (l₁ := o.G) (a := _)).symm)
   rw [show (bgL b).take b.bins.length = bgL b from List.take_of_length_le (by rw [bgL_len]; exact Nat.le_refl _)] at h2
   exact h2) ?_
 clear he hf
 have hone : Wok b [⟨a9, c9, bgL b, x75⟩] := ⟨fun z hz => by
   obtain rfl := List.mem_singleton.1 (show z ∈ [(bgL b, x75)] from hz)
   refine stErr_ok (bgL_len b) (by simp [inB]; omega) fun j hj => ?_
   obtain ⟨x, hx⟩ : ∃ x, b.bins[j]? = some x := ⟨_, List.getElem?_eq_getElem hj⟩
   have hxm := List.mem_of_getElem? hx
   have hbg : na (bgL b) j = b.days x x.warm := na_at (show (bgL b)[j]? = some _ by unfold bgL; rw [List.getElem?_map, hx]; rfl)
   dsimp only
   rw [hbg]
   unfold badL
   rw [bin_getD hx]
   by_cases h0 : b.worst x = 0
   · rw [decide_eq_true h0, days_ever h0]; rfl
   · have := days_fin hok hxm h0 (hok.bins x hxm).2.1.1
     rw [decide_eq_false h0, cond_false]
     have : inB (b.days x x.warm) 0 10 = true := by simp [inB]; omega
     rw [this]; rfl, by simp, by simp⟩
 refine sy_exit ?_
 repeat refine sy_tx ?_
 refine sy_bx ?_
 refine sy_tx' [0, 1, 2] rfl ?_
 refine spL rfl rfl (lhA [.slice a9 (bgL b).length c9, .int .i64 x75] ag93 rfl rfl rfl) rfl ?_
 refine bsl (out := [_, _]) rfl sl91 zl93 rfl rfl rfl rfl rfl rfl (fun b99 => ?_)
 refine sp rfl (PE.assign rfl) rfl ?_
 refine Sy.heap (fun w h => St.inwSnoc (l := []) ⟨a9, c9, bgL b, x75⟩ (St.inw0 (St.rows (sz := 2) (rows := werows [⟨a9, c9, bgL b, x75⟩]) (rest := []) (h.pull b99) (we_two _)))) ?_
 exact sy_jend ⟨([⟨a9, c9, bgL b, x75⟩], some ⟨b99, 0, none⟩, 1, 0 + 1, m75), ⟨hone, fun x hx => by obtain rfl := List.mem_singleton.1 hx; show x75 ≤ 14641; omega⟩, by first | omega | (dsimp only; omega), by assumption⟩ (by repeat' first | exact Sub.nil | apply Sub.cons | rfl | (simp [lk]; omega)) (fun w h => (h.del b11).facts (fun g hg => by simp only [List.mem_cons] at hg ⊢; rcases hg with hg | hg | hg | hg <;> simp [hg]))
 try simp only [decide_eq_true_eq, decide_eq_false_iff_not, Bool.and_eq_true, Bool.or_eq_true, Bool.not_eq_true', Int.not_le, Int.not_lt] at hc2
 have hw0 : w = 0 := by omega
 obtain ⟨hz1, hz2⟩ := hLz hw0
 obtain ⟨_, hz3, hz4, hz5⟩ := hL2 hw0
 refine sy_skip ?_
 exact sy_jend ⟨(L, al, cz, 0, mt), ⟨⟨hz1, by first | omega | (dsimp only; omega)⟩, fun x hx => by have := hz5 x hx; omega⟩, by first | omega | (dsimp only; omega), by assumption⟩ (by repeat' first | exact Sub.nil | apply Sub.cons | rfl | (simp [lk]; omega)) (fun w h => (h.pull bt).facts (fun g hg => by simp only [List.mem_cons] at hg ⊢; rcases hg with hg | hg | hg | hg <;> simp [hg]))
 rintro ⟨⟨L2, aL, cL, tq9, mx9⟩, ⟨hwk, hwd⟩, htq9, hmx9⟩
 dsimp only at hwk hwd htq9 hmx9 ⊢
 have hwl := hwk.len
 refine sy_addr (a := aL) (sz := 2) (rows := werows L2) (by intro h0; have := congrArg List.length h0; rw [werows_len] at this; simp only [List.length_nil] at this; omega) (fun bl ol he => ?_)
 subst he
 refine sy_seq ?_
 refine sy_seq ?_
 refine sy_tx' [0] rfl ?_
 refine sp rfl (PE.move rfl) rfl ?_
 refine sy_block ?_
 refine sy_loop (ι := {y : Nat × Int × Int // y.1 ≤ 4 ∧ (0 ≤ y.2.1 ∧ y.2.1 ≤ 10 + 10 * y.1) ∧ (0 ≤ y.2.2 ∧ y.2.2 ≤ 4294967295)}) (fun y => ⟨[(5, .pointer (some ⟨b5, 0, none⟩)), (6, .pointer (some ⟨bt, 0, none⟩)), (7, .int .i64 m), (9, .slice (some ⟨bl, ol, none⟩) L2.length cL), (100, .int .i64 y.1.1)], (bt, cel 144 [.slice a2 l2.length c2, .int .i64 (y.1.2.1), .int .u32 (y.1.2.2)]) :: (b5, cel 25 (btl b (b.sl (some ⟨ba, oa, none⟩) cb))) :: (bs, cel 144 [.slice a1 l1.length c1, .int .i64 (tqb), .int .u32 (mxb)]) :: H, RowsA (some ⟨bl, ol, none⟩) 2 (werows L2) :: InW L2 :: RowsA (some ⟨ba, oa, none⟩) 4 (brows b.bins) :: R⟩) (fun y => 4 - y.1.1) ⟨(0, tq9, mx9), by dsimp only; omega, by dsimp only; omega, by assumption⟩ ?_ (fun y => ?_)
 exact sy_at (by repeat' first | exact Sub.nil | apply Sub.cons | rfl | (simp [lk]; omega)) (fun _ h => h)
 obtain ⟨⟨i, tq, mx⟩, hi, htq, hmx⟩ := y
 dsimp only at hi htq hmx ⊢
 refine sy_seq ?_
 refine sy_tx' [0] rfl ?_
 refine sp rfl (PE.lss rfl rfl) rfl ?_
 refine sy_seq ?_
 refine sy_cond rfl (fun hc5 => ?_) (fun hc5 => ?_)
 try simp only [decide_eq_true_eq, decide_eq_false_iff_not, Bool.and_eq_true, Bool.or_eq_true, Bool.not_eq_true', Int.not_le, Int.not_lt] at hc5
 refine sy_skip ?_
 refine sy_seq ?_
 refine sy_block ?_
 refine sy_seq ?_
 refine sy_tx' [0, 1, 2, 3] rfl ?_
 refine sp rfl (PE.move rfl) rfl ?_
 refine sp rfl (PE.lenSl isl91 rfl) rfl ?_
 refine mkS rfl ap91 zl93 rfl rfl (Nat.zero_le _) ⟨by omega, by omega⟩ rfl (fun b104 => ?_)
 refine sp rfl (PE.assign rfl) rfl ?_
 refine sy_seq ?_
 refine sy_seq ?_
 refine sy_tx' [0, 1, 2] rfl ?_
 refine sp rfl (PE.move rfl) rfl ?_
 refine sp rfl (PE.lenSl isl91 rfl) rfl ?_
 refine sp rfl (PE.move rfl) rfl ?_
 refine sy_block ?_
 obtain ⟨o0, ho0, hG0⟩ : ∃ o : OSl 93 2 (werows (wos [])), o.fs = .slice (some ⟨b104, 0, none⟩) 0 L2.length ∧ o.G = [(b104, cel 93 (repl L2.length [Value.slice none 0 0, .int .i64 0]))] := ⟨⟨_, _, we_two _, .inr ⟨b104, L2.length, repl L2.length [Value.slice none 0 0, .int .i64 0], rfl, rfl, by rw [← flat_repl, flat_len (sz := 2) (fun r hr => by rw [(List.mem_replicate.1 hr).2]; rfl), List.length_replicate]; simp [werows, wos], Nat.zero_le _, by omega⟩⟩, rfl, rfl⟩
 rw [← ho0]
 refine Sy.heap (H' := o0.G ++ (wob [] ++ (bt, cel 144 [.slice a2 l2.length c2, .int .i64 (tq), .int .u32 (mx)]) :: (b5, cel 25 (btl b (b.sl (some ⟨ba, oa, none⟩) cb))) :: (bs, cel 144 [.slice a1 l1.length c1, .int .i64 (tqb), .int .u32 (mxb)]) :: H)) (fun w h => by rw [hG0]; exact h) ?_
 refine sy_loop (ι := (y : {y : Nat × List WO // y.1 ≤ L2.length ∧ wls (wos y.2) = (wls L2).take y.1}) × OSl 93 2 (werows (wos y.1.2))) (fun y => ⟨[(5, .pointer (some ⟨b5, 0, none⟩)), (6, .pointer (some ⟨bt, 0, none⟩)), (7, .int .i64 m), (9, .slice (some ⟨bl, ol, none⟩) L2.length cL), (100, .int .i64 i), (15, y.2.fs), (105, .slice (some ⟨bl, ol, none⟩) L2.length cL), (106, .int .i64 L2.length), (107, .int .i64 y.1.1.1)], y.2.G ++ (wob y.1.1.2 ++ (bt, cel 144 [.slice a2 l2.length c2, .int .i64 (tq), .int .u32 (mx)]) :: (b5, cel 25 (btl b (b.sl (some ⟨ba, oa, none⟩) cb))) :: (bs, cel 144 [.slice a1 l1.length c1, .int .i64 (tqb), .int .u32 (mxb)]) :: H), RowsA (some ⟨bl, ol, none⟩) 2 (werows L2) :: InW L2 :: RowsA (some ⟨ba, oa, none⟩) 4 (brows b.bins) :: R⟩) (fun y => L2.length - y.1.1.1) ⟨⟨(0, []), Nat.zero_le _, rfl⟩, o0⟩ ?_ (fun y => ?_)
 exact sy_at (by repeat' first | exact Sub.nil | apply Sub.cons | rfl | (simp [lk]; omega)) (fun _ h => h)
 obtain ⟨⟨⟨j, M⟩, hj, hM⟩, o⟩ := y
 dsimp only at hj hM o ⊢
 have hMl : M.length = j := by have := congrArg List.length hM; rw [wls_len, wos_len, List.length_take, wls_len] at this; omega
 refine sy_seq ?_
 refine sy_tx' [0] rfl ?_
 refine sp rfl (PE.lss rfl rfl) rfl ?_
 refine sy_seq ?_
 refine sy_cond rfl (fun hc6 => ?_) (fun hc6 => ?_)
 try simp only [decide_eq_true_eq, decide_eq_false_iff_not, Bool.and_eq_true, Bool.or_eq_true, Bool.not_eq_true', Int.not_le, Int.not_lt] at hc6
 obtain ⟨x, hx⟩ : ∃ x, L2[j]? = some x := ⟨_, List.getElem?_eq_getElem (by omega)⟩
 have hxm := List.mem_of_getElem? hx
 obtain ⟨hxl, hxd, _⟩ := hwk.one hxm
 refine Sy.heap (fun w h => St.inwAt (x := x) h hxm) ?_
 refine sy_skip ?_
 refine sy_seq ?_
 refine sy_block ?_
 refine sy_seq ?_
 refine sy_tx' [0, 1, 2, 3] rfl ?_
 refine sp rfl (PE.indexAddr el91 rfl rfl (by omega) (by omega)) rfl ?_
 refine spL rfl rfl (lfA ag93 (row := werow x) (we_get hx) rfl) rfl ?_
 refine alc rfl zl93 rfl (fun b17 => ?_)
 refine stoE (l' := werow x) rfl rfl rfl cn93 rfl rfl rfl rfl (Nat.le_of_ble_eq_true rfl) ?_
 refine sy_draw [0, 0, 2, 6, 0, 16, 62, 126, 255, 511] (.tk 0 (.tk 1 (.ld 2 (.tk 4 (.ld 5 (.big 3 (.tk 6 (.big 7 (.big 8 (.tk 9 .done)))))))))) mixed (by kernel_rfl) ?_
 refine tk rfl (PE.move rfl) rfl ?_
 refine tk rfl (PE.fieldAddr fo93_0 rfl) rfl ?_
 refine ld rfl rfl (lh sc40 rfl rfl) rfl ?_
 refine tk rfl (PE.fieldAddr fo93_1 rfl) rfl ?_
 refine ld rfl rfl (lh sc3 rfl rfl) rfl ?_
 refine cl rfl cal57 rfl rfl (c_dup_int x.l x.a x.c (by omega) _ _) ?_
 rintro _ _ _ ⟨od, rfl, hod, rfl, rfl⟩
 obtain ⟨xn, hnl, hnd, hnf, hnG⟩ := OSl.wo x.l x.d od hod
 rw [hnf]
 refine Sy.heap (fun w h => by rw [hnG] at h; exact h) ?_
 refine bg (fun w hs => ⟨(lh sc3 rfl rfl) w hs, trivial, trivial⟩) ?_
 refine tk rfl (PE.build (out := [_, _]) pl93 zl93 rfl rfl) rfl ?_
 refine bsl (out := [_, _]) rfl sl91 zl93 rfl rfl rfl rfl rfl rfl (fun b118 => ?_)
 refine bg (fun w hs => ⟨trivial, trivial⟩) ?_
 refine apO (o) rfl ap91 rfl rfl (rowsH (row := [.slice (some ⟨xn.b, 0, none⟩) xn.l.length xn.cap, .int .i64 x.d]) rfl) rfl rfl ((by rw [werows_len, wos_len]; simp only [List.length_singleton]; omega)) rfl (fun o119 => ?_)
 refine bg (fun w hs => trivial) ?_
 refine tk rfl (PE.assign rfl) rfl ?_
 refine sy_tx' [0, 1] rfl ?_
 refine sp rfl (PE.add rfl rfl (by omega)) rfl ?_
 refine sp rfl (PE.move rfl) rfl ?_
 exact sy_next ⟨⟨(j + 1, M ++ [xn]), by dsimp only; omega, by dsimp only; rw [wos_app, wls_app, hM, take_snoc (wls_get hx)]; show _ ++ [(xn.l, xn.d)] = _; rw [hnl, hnd]⟩, o119.cast (by rw [wos_app, werows_app, ← hnd]; rfl)⟩ (by dsimp only; omega) (by repeat' first | exact Sub.nil | apply Sub.cons | rfl | (simp [lk]; omega)) (fun w h => ((((h.del b118).del b17)).perm perm_snoc).ftail)
 try simp only [decide_eq_true_eq, decide_eq_false_iff_not, Bool.and_eq_true, Bool.or_eq_true, Bool.not_eq_true', Int.not_le, Int.not_lt] at hc6
 obtain rfl : j = L2.length := by omega
 rw [List.take_of_length_le (by rw [wls_len]; exact Nat.le_refl _)] at hM
 obtain ⟨bo, co, jo, hof, hoG, hoj, hoc, hom⟩ := o.is.resolve_left (fun h => by have := congrArg List.length h.1; rw [werows_len, wos_len] at this; simp only [List.length_nil] at this; omega)
 rw [werows_len, wos_len] at hof hoj hoc
 rw [hof]
 refine Sy.heap (H' := (bo, cel 93 ((werows (wos M)).flatten ++ jo)) :: (wob M ++ (bt, cel 144 [.slice a2 l2.length c2, .int .i64 (tq), .int .u32 (mx)]) :: (b5, cel 25 (btl b (b.sl (some ⟨ba, oa, none⟩) cb))) :: (bs, cel 144 [.slice a1 l1.length c1, .int .i64 (tqb), .int .u32 (mxb)]) :: H)) (fun w h => by rw [hoG] at h; exact h) ?_
 have hwM : Wok b (wos M) := ⟨by rw [hM]; exact hwk.ok, by rw [wos_len]; omega⟩
 have hdM : ∀ x ∈ wos M, x.d ≤ 14641 := fun x hx => by
   have h1 := wls_mem hx
   rw [hM] at h1
   obtain ⟨y, hy, e⟩ := List.mem_map.1 h1
   have h2 := hwd y hy
   have h3 : y.d = x.d := congrArg Prod.snd e
   omega
 refine sy_exit ?_
 repeat refine sy_tx ?_
 refine sy_bx ?_
 refine sy_seq ?_
 refine sy_tx' [0, 1, 2, 3, 4] rfl ?_
 refine sp rfl (PE.move rfl) rfl ?_
 refine sp rfl (PE.move rfl) rfl ?_
 refine sp rfl (PE.lenSl isl91 rfl) rfl ?_
 refine sy_pull bt ?_
 refine cl rfl cal63 rfl rfl (c_Below l2 a2 c2 bt hl2 _ _ (by omega) (by assumption) ((M.length : Int)) _ _) ?_
 rintro _ _ R1 ⟨x124, m124, hx124, rfl, hm124, rfl, hR1⟩
 obtain rfl := hR1.symm
 clear hR1
 obtain ⟨i0, rfl⟩ : ∃ n : Nat, x124 = n := ⟨x124.toNat, by omega⟩
 obtain ⟨A, xo, C, rfl, rfl⟩ := cut_at (xs := M) (i := i0) (by omega)
 refine sp rfl (PE.assign rfl) rfl ?_
 refine sy_seq ?_
 refine sy_seq ?_
 refine sy_tx' [0, 1, 2, 3, 4, 5] rfl ?_
 refine sp rfl (PE.move rfl) rfl ?_
 refine sp rfl (PE.fieldAddr fo25_3 rfl) rfl ?_
 refine spL rfl rfl (lh sc23 rfl rfl) rfl ?_
 refine sp rfl (PE.lenSl isl23 rfl) rfl ?_
 refine sy_pull bt ?_
 refine cl rfl cal63 rfl rfl (c_Below l2 a2 c2 bt hl2 _ _ (by omega) (by assumption) ((b.bins.length : Int)) _ _) ?_
 rintro _ _ R1 ⟨x129, m129, hx129, rfl, hm129, rfl, hR1⟩
 obtain rfl := hR1.symm
 clear hR1
 obtain ⟨k0, rfl⟩ : ∃ n : Nat, x129 = n := ⟨x129.toNat, by omega⟩
 have hxo : (wos (A ++ xo :: C))[A.length]? = some xo.we := by rw [wos_app, List.getElem?_append_right (by rw [wos_len]; exact Nat.le_refl _), wos_len, Nat.sub_self]; rfl
 have hxom := List.mem_of_getElem? hxo
 obtain ⟨hol, hod, hob⟩ := hwM.one hxom
 have hosz := hwM.ok _ (wls_mem hxom)
 have hodd := hdM _ hxom
 have hAl : (A ++ xo :: C).length = A.length + C.length + 1 := by simp; omega
 replace hol : xo.l.length = b.bins.length := hol
 replace hodd : xo.d ≤ 14641 := hodd
 replace hod : 0 ≤ xo.d ∧ xo.d ≤ 20000 := hod
 have hv0 := badL_ok (hob k0 (by omega))
 have hv : na xo.l k0 = 1000000 ∨ 0 ≤ na xo.l k0 ∧ na xo.l k0 ≤ 10 := by
   by_cases h0 : b.worst (b.bins.getD k0 hb0) = 0
   · exact .inl (hv0.1 h0)
   · exact .inr (hv0.2 h0)
 refine sp rfl (PE.assign rfl) rfl ?_
 refine sy_seq ?_
 refine sy_draw [0, 0, 3, 7, 15, 31, 0, 64, 192, 511, 1023, 2047, 2047, 8191, 16383, 32767, 2047, 131071, 262143, 524287, 1048575, 2097151, 4194303, 8388607, 16777215] (.tk 0 (.tk 1 (.tk 2 (.tk 3 (.ld 4 (.tk 5 (.tk 6 (.ld 7 (.tk 8 (.tk 9 (.tk 10 (.tk 11 (.tk 12 (.tk 13 (.tk 14 (.ld 15 (.tk 16 (.tk 17 (.ld 18 (.tk 19 (.tk 20 (.tk 21 (.tk 22 (.big 23 (.tk 24 .done))))))))))))))))))))))))) mixed (by kernel_rfl) ?_
 refine Sy.heap (H' := (bt, cel 144 [.slice a2 l2.length c2, .int .i64 ((tq + 1 + 1)), .int .u32 (m129)]) :: (bo, cel 93 ((werows (wos (A ++ xo :: C))).flatten ++ jo)) :: (xo.b, cel 3 (ints xo.l ++ xo.junk)) :: (wob A ++ (wob C ++ ((b5, cel 25 (btl b (b.sl (some ⟨ba, oa, none⟩) cb))) :: (bs, cel 144 [.slice a1 l1.length c1, .int .i64 (tqb), .int .u32 (mxb)]) :: H)))) (fun w h => h.perm (List.Perm.cons _ (List.Perm.cons _ wob_open))) ?_
 refine tk rfl (PE.move rfl) rfl ?_
 refine tk rfl (PE.move rfl) rfl ?_
 refine tk rfl (PE.indexAddr el91 rfl rfl (by omega) (by omega)) rfl ?_
 refine tk rfl (PE.fieldAddr fo93_0 rfl) rfl ?_
 refine ld rfl rfl (lh sc40 rfl (we_getJ (v := .slice (some ⟨xo.b, 0, none⟩) xo.l.length xo.cap) (j := 0) hxo rfl (by omega) (by show 0 + ((A.length : Nat) : Int).toNat * 2 = _; omega))) rfl ?_
 refine tk rfl (PE.lenSl isl40 rfl) rfl ?_
 refine tk rfl (PE.fieldAddr fo25_3 rfl) rfl ?_
 refine ld rfl rfl (lh sc23 rfl rfl) rfl ?_
 refine tk rfl (PE.lenSl isl23 rfl) rfl ?_
 refine tk rfl (PE.eql rfl rfl) rfl ?_
 refine tk rfl (PE.move rfl) rfl ?_
 refine sy_case (t := 140) rfl (fun g140 => ?_) (fun g140 => ?_)
 refine tkG rfl rfl rfl rfl (PE.move rfl) rfl ?_
 refine tkG rfl rfl rfl rfl (PE.move rfl) rfl ?_
 refine tkG rfl rfl rfl rfl (PE.indexAddr el91 rfl rfl (by omega) (by omega)) rfl ?_
 refine tkG rfl rfl rfl rfl (PE.fieldAddr fo93_0 rfl) rfl ?_
 refine ldG rfl rfl rfl rfl rfl (lh sc40 rfl (we_getJ (v := .slice (some ⟨xo.b, 0, none⟩) xo.l.length xo.cap) (j := 0) hxo rfl (by omega) (by show 0 + ((A.length : Nat) : Int).toNat * 2 = _; omega))) rfl ?_
 refine tkG rfl rfl rfl rfl (PE.move rfl) rfl ?_
 refine tkG rfl rfl rfl rfl (PE.indexAddr el40 rfl rfl (by omega) (by omega)) rfl ?_
 refine ldG rfl rfl rfl rfl rfl (lh sc3 rfl (get_junk (na_get (l := xo.l) (k := k0) (by omega)) (by show 0 + ((k0 : Nat) : Int).toNat * 1 = k0; omega))) rfl ?_
 refine tkG rfl rfl rfl rfl (PE.neq rfl rfl) rfl ?_
 refine tk rfl (PE.pick rfl rfl rfl) rfl ?_
 refine tk rfl (PE.move rfl) rfl ?_
 refine sy_case (t := 151) rfl (fun g151 => ?_) (fun g151 => ?_)
 have hve : na xo.l k0 ≠ 1000000 := of_decide_eq_true g151
 refine tkG rfl rfl rfl rfl (PE.move rfl) rfl ?_
 refine clG rfl rfl rfl rfl cal64 rfl rfl (c_Rare l2 a2 c2 bt hl2 _ _ (by omega) (by assumption) (2) _ _) ?_
 rintro _ _ R1 ⟨x153, m153, rfl, hm153, rfl, hR1⟩
 obtain rfl := hR1.symm
 clear hR1
 refine bg (fun w hs => ⟨trivial, trivial, trivial, trivial, trivial⟩) ?_
 refine tk rfl (PE.pick rfl rfl rfl) rfl ?_
 refine sy_join (ι := {y : List WE × Option Addr × Nat × Int × Int // Wok b y.1 ∧ (0 ≤ y.2.2.2.1 ∧ y.2.2.2.1 ≤ 10 + 10 * (i + 1)) ∧ (0 ≤ y.2.2.2.2 ∧ y.2.2.2.2 ≤ 4294967295)}) (fun y => ⟨[(5, .pointer (some ⟨b5, 0, none⟩)), (6, .pointer (some ⟨bt, 0, none⟩)), (7, .int .i64 m), (9, .slice (some ⟨bl, ol, none⟩) L2.length cL), (100, .int .i64 i), (15, .slice y.1.2.1 y.1.1.length y.1.2.2.1)], (bt, cel 144 [.slice a2 l2.length c2, .int .i64 (y.1.2.2.2.1), .int .u32 (y.1.2.2.2.2)]) :: (b5, cel 25 (btl b (b.sl (some ⟨ba, oa, none⟩) cb))) :: (bs, cel 144 [.slice a1 l1.length c1, .int .i64 (tqb), .int .u32 (mxb)]) :: H, RowsA y.1.2.1 2 (werows y.1.1) :: InW y.1.1 :: RowsA (some ⟨bl, ol, none⟩) 2 (werows L2) :: InW L2 :: RowsA (some ⟨ba, oa, none⟩) 4 (brows b.bins) :: R⟩) ?_ ?_
 refine sy_cond rfl (fun hc7 => ?_) (fun hc7 => ?_)
 refine sy_draw [0, 0, 3, 7, 15, 0, 0, 0, 192, 448, 960, 0, 4032, 8128, 0, 16384, 65472, 131008, 262080, 524287, 1048575] (.tk 0 (.tk 1 (.tk 2 (.tk 3 (.ld 4 (.tk 5 (.tk 6 (.tk 7 (.tk 8 (.tk 9 (.ld 10 (.tk 11 (.tk 12 (.ld 13 (.tk 14 (.big 15 (.tk 16 (.tk 17 (.tk 18 (.tk 19 (.big 20 .done))))))))))))))))))))) mixed (by kernel_rfl) ?_
 refine tk rfl (PE.move rfl) rfl ?_
 refine tk rfl (PE.move rfl) rfl ?_
 refine tk rfl (PE.indexAddr el91 rfl rfl (by omega) (by omega)) rfl ?_
 refine tk rfl (PE.fieldAddr fo93_0 rfl) rfl ?_
 refine ld rfl rfl (lh sc40 rfl (we_getJ (v := .slice (some ⟨xo.b, 0, none⟩) xo.l.length xo.cap) (j := 0) hxo rfl (by omega) (by show 0 + ((A.length : Nat) : Int).toNat * 2 = _; omega))) rfl ?_
 refine tk rfl (PE.move rfl) rfl ?_
 refine tk rfl (PE.move rfl) rfl ?_
 refine tk rfl (PE.move rfl) rfl ?_
 refine tk rfl (PE.indexAddr el91 rfl rfl (by omega) (by omega)) rfl ?_
 refine tk rfl (PE.fieldAddr fo93_0 rfl) rfl ?_
 refine ld rfl rfl (lh sc40 rfl (we_getJ (v := .slice (some ⟨xo.b, 0, none⟩) xo.l.length xo.cap) (j := 0) hxo rfl (by omega) (by show 0 + ((A.length : Nat) : Int).toNat * 2 = _; omega))) rfl ?_
 refine tk rfl (PE.move rfl) rfl ?_
 refine tk rfl (PE.indexAddr el40 rfl rfl (by omega) (by omega)) rfl ?_
 refine ld rfl rfl (lh sc3 rfl (get_junk (na_get (l := xo.l) (k := k0) (by omega)) (by show 0 + ((k0 : Nat) : Int).toNat * 1 = k0; omega))) rfl ?_
 refine tk rfl (PE.move rfl) rfl ?_
 refine cl rfl cal65 rfl rfl (c_Among l2 a2 c2 bt hl2 _ _ (by omega) (by assumption) (-1) (1) (by omega) _ _) ?_
 rintro _ _ R1 ⟨x170, m170, hx170, rfl, hm170, rfl, hR1⟩
 obtain rfl := hR1.symm
 clear hR1
 refine bg (fun w hs => ⟨(lh sc3 rfl (get_junk (na_get (l := xo.l) (k := k0) (by omega)) (by show 0 + ((k0 : Nat) : Int).toNat * 1 = k0; omega))) w hs, (lh sc40 rfl (we_getJ (v := .slice (some ⟨xo.b, 0, none⟩) xo.l.length xo.cap) (j := 0) hxo rfl (by omega) (by show 0 + ((A.length : Nat) : Int).toNat * 2 = _; omega))) w hs, (lh sc40 rfl (we_getJ (v := .slice (some ⟨xo.b, 0, none⟩) xo.l.length xo.cap) (j := 0) hxo rfl (by omega) (by show 0 + ((A.length : Nat) : Int).toNat * 2 = _; omega))) w hs, trivial⟩) ?_
 refine tk rfl (PE.add rfl rfl (by omega)) rfl ?_
 refine tk rfl (PE.min rfl rfl) rfl ?_
 refine tk rfl (PE.max rfl rfl) rfl ?_
 refine tk rfl (PE.indexAddr el40 rfl rfl (by omega) (by omega)) rfl ?_
 refine stoE (l' := ints (xo.l.set k0 (max 0 (min 10 (na xo.l k0 + x170)))) ++ xo.junk) rfl rfl rfl cn3 rfl rfl rfl (spl_junk (l := xo.l) (k := k0) (by omega) (by show 0 + ((k0 : Nat) : Int).toNat * 1 = k0; omega)) (by rw [List.length_append, ints_length]; show 0 + ((k0 : Nat) : Int).toNat * 1 + 1 ≤ _; omega) ?_
 refine bg (fun w hs => ⟨trivial, trivial, trivial, trivial⟩) ?_
 have hlen7 : (wos (A ++ { xo with l := xo.l.set k0 (max 0 (min 10 (na xo.l k0 + x170))) } :: C)).length = (A ++ xo :: C).length := by simp [wos_len]
 refine Sy.heap (fun w h => St.wfin (A := A) (C := C) (x := { xo with l := xo.l.set k0 (max 0 (min 10 (na xo.l k0 + x170))) }) (jo := jo) (bo := bo) (T := ((b5, cel 25 (btl b (b.sl (some ⟨ba, oa, none⟩) cb))) :: (bs, cel 144 [.slice a1 l1.length c1, .int .i64 (tqb), .int .u32 (mxb)]) :: H)) (by rw [← wos_same (C := C) (A := A) (x := xo) (y := { xo with l := xo.l.set k0 (max 0 (min 10 (na xo.l k0 + x170))) }) rfl rfl (List.length_set ..).symm rfl]; exact h)) ?_
 first | (exact sy_jend ⟨(wos (A ++ { xo with l := xo.l.set k0 (max 0 (min 10 (na xo.l k0 + x170))) } :: C), some ⟨bo, 0, none⟩, co, tq + 1 + 1 + 1 + 1, m170), by rw [wos_app]; exact Wok.put (A := wos A) (C := wos C) (x := xo.we) (y := ({ xo with l := xo.l.set k0 (max 0 (min 10 (na xo.l k0 + x170))) } : WO).we) (by have := hwM; rwa [wos_app] at this) (st_set hosz (by omega) hve ⟨by omega, by omega⟩), by first | omega | (dsimp only; omega), by assumption⟩ (by dsimp only; rw [hlen7]; exact (by repeat' first | exact Sub.nil | apply Sub.cons | rfl | (simp [lk]; omega))) (fun w h => h.facts (fun g hg => by simp only [List.mem_cons] at hg ⊢; rcases hg with hg | hg | hg | hg | hg | hg <;> simp [hg])))
 refine sy_seq ?_
 refine sy_tx' [0, 1] rfl ?_
 refine sp rfl (PE.move rfl) rfl ?_
 refine cl rfl cal64 rfl rfl (c_Rare l2 a2 c2 bt hl2 _ _ (by omega) (by assumption) (2) _ _) ?_
 rintro _ _ R1 ⟨x176, m176, rfl, hm176, rfl, hR1⟩
 obtain rfl := hR1.symm
 clear hR1
 refine sy_cond rfl (fun hc8 => ?_) (fun hc8 => ?_)
 refine sy_draw [0, 0, 0, 0, 12, 28, 60, 0, 128, 508, 1020, 2047, 4095, 8191] (.tk 0 (.tk 1 (.tk 2 (.tk 3 (.tk 4 (.tk 5 (.ld 6 (.tk 7 (.big 8 (.tk 9 (.tk 10 (.tk 11 (.tk 12 (.big 13 .done)))))))))))))) mixed (by kernel_rfl) ?_
 refine tk rfl (PE.move rfl) rfl ?_
 refine tk rfl (PE.move rfl) rfl ?_
 refine tk rfl (PE.move rfl) rfl ?_
 refine tk rfl (PE.move rfl) rfl ?_
 refine tk rfl (PE.indexAddr el91 rfl rfl (by omega) (by omega)) rfl ?_
 refine tk rfl (PE.fieldAddr fo93_1 rfl) rfl ?_
 refine ld rfl rfl (lh sc3 rfl (we_getJ (v := .int .i64 xo.d) (j := 1) hxo rfl (by omega) (by show 0 + ((A.length : Nat) : Int).toNat * 2 + 1 = _; omega))) rfl ?_
 refine tk rfl (PE.move rfl) rfl ?_
 refine cl rfl cal65 rfl rfl (c_Among l2 a2 c2 bt hl2 _ _ (by omega) (by assumption) (-2) (2) (by omega) _ _) ?_
 rintro _ _ R1 ⟨x185, m185, hx185, rfl, hm185, rfl, hR1⟩
 obtain rfl := hR1.symm
 clear hR1
 refine bg (fun w hs => ⟨(lh sc3 rfl (we_getJ (v := .int .i64 xo.d) (j := 1) hxo rfl (by omega) (by show 0 + ((A.length : Nat) : Int).toNat * 2 + 1 = _; omega))) w hs, trivial⟩) ?_
 refine tk rfl (PE.add rfl rfl (by omega)) rfl ?_
 refine tk rfl (PE.max rfl rfl) rfl ?_
 refine tk rfl (PE.indexAddr el91 rfl rfl (by omega) (by omega)) rfl ?_
 refine tk rfl (PE.fieldAddr fo93_1 rfl) rfl ?_
 refine stoE (l' := (werows (wos (A ++ { xo with d := max 0 (xo.d + x185) } :: C))).flatten ++ jo) rfl rfl rfl cn3 rfl rfl rfl (by rw [wos_app, wos_app]; exact we_putd (A := wos A) (C := wos C) (x := xo.we) (max 0 (xo.d + x185)) (by rw [wos_len]; show 0 + ((A.length : Nat) : Int).toNat * 2 + 1 = _; omega)) (by rw [List.length_append, we_flat, wos_len]; show 0 + ((A.length : Nat) : Int).toNat * 2 + 1 + 1 ≤ _; omega) ?_
 refine bg (fun w hs => ⟨trivial, trivial⟩) ?_
 have hlen7 : (wos (A ++ { xo with d := max 0 (xo.d + x185) } :: C)).length = (A ++ xo :: C).length := by simp [wos_len]
 refine Sy.heap (fun w h => St.wfin (A := A) (C := C) (x := { xo with d := max 0 (xo.d + x185) }) (jo := jo) (bo := bo) (T := ((b5, cel 25 (btl b (b.sl (some ⟨ba, oa, none⟩) cb))) :: (bs, cel 144 [.slice a1 l1.length c1, .int .i64 (tqb), .int .u32 (mxb)]) :: H)) h) ?_
 first | (exact sy_jend ⟨(wos (A ++ { xo with d := max 0 (xo.d + x185) } :: C), some ⟨bo, 0, none⟩, co, tq + 1 + 1 + 1 + 1, m185), by rw [wos_app]; exact Wok.put (A := wos A) (C := wos C) (x := xo.we) (y := ({ xo with d := max 0 (xo.d + x185) } : WO).we) (by have := hwM; rwa [wos_app] at this) (st_days (d' := max 0 (xo.d + x185)) hosz ⟨by omega, by omega⟩), by first | omega | (dsimp only; omega), by assumption⟩ (by dsimp only; rw [hlen7]; exact (by repeat' first | exact Sub.nil | apply Sub.cons | rfl | (simp [lk]; omega))) (fun w h => h.facts (fun g hg => by simp only [List.mem_cons] at hg ⊢; rcases hg with hg | hg | hg | hg | hg | hg <;> simp [hg]))) | (exact sy_jend ⟨(wos (A ++ { xo with d := max 0 (xo.d + x185) } :: C), some ⟨bo, 0, none⟩, co, tq + 1 + 1 + 1 + 1 + 1, m185), by rw [wos_app]; exact Wok.put (A := wos A) (C := wos C) (x := xo.we) (y := ({ xo with d := max 0 (xo.d + x185) } : WO).we) (by have := hwM; rwa [wos_app] at this) (st_days (d' := max 0 (xo.d + x185)) hosz ⟨by omega, by omega⟩), by first | omega | (dsimp only; omega), by assumption⟩ (by dsimp only; rw [hlen7]; exact (by repeat' first | exact Sub.nil | apply Sub.cons | rfl | (simp [lk]; omega))) (fun w h => h.facts (fun g hg => by simp only [List.mem_cons] at hg ⊢; rcases hg with hg | hg | hg | hg | hg | hg <;> simp [hg])))
 refine sy_seq ?_
 refine sy_tx' [0, 1, 2] rfl ?_
 refine sp rfl (PE.move rfl) rfl ?_
 refine sp rfl (PE.lenSl isl91 rfl) rfl ?_
 refine sp rfl (PE.gtr rfl rfl) rfl ?_
 refine sy_cond rfl (fun hc9 => ?_) (fun hc9 => ?_)
 try simp only [decide_eq_true_eq, decide_eq_false_iff_not, Bool.and_eq_true, Bool.or_eq_true, Bool.not_eq_true', Int.not_le, Int.not_lt] at hc9
 refine sy_tx' [0, 1, 2, 3, 4, 5] rfl ?_
 refine sp rfl (PE.move rfl) rfl ?_
 refine sp rfl (PE.move rfl) rfl ?_
 refine sp rfl (PE.move rfl) rfl ?_
 refine sp rfl (PE.add rfl rfl (by omega)) rfl ?_
 rw [show ((A.length : Nat) : Int) + 1 = ((A.length + 1 : Nat) : Int) by omega, show (A ++ xo :: C).length = (wos (A ++ xo :: C)).length from (wos_len _).symm]
 refine sy_pull bo ?_
 refine cl rfl cal66 rfl rfl (c_DeleteW (wos (A ++ xo :: C)) bo co jo (by have := hwM.len; omega) (by rw [wos_len]; exact hoj) (by rw [wos_len]; exact hoc) hom A.length (by rw [wos_len]; omega) _ _) ?_
 rintro _ _ R1 ⟨ad, cd, rfl, rfl, hR1⟩
 obtain rfl := hR1.symm
 clear hR1
 refine sp rfl (PE.assign rfl) rfl ?_
 refine Sy.heap (fun w h => St.wobs (l := (A ++ xo :: C)) (h.perm wob_back2)) ?_
 refine Sy.heap (fun w h => St.inwPart (l := wos (A ++ xo :: C)) h ((wos (A ++ xo :: C)).eraseIdx A.length) (fun x hx => List.mem_of_mem_eraseIdx hx)) ?_
 first | (exact sy_jend ⟨((wos (A ++ xo :: C)).eraseIdx A.length, ad, cd, tq + 1 + 1 + 1, m176), hwM.del (by rw [wos_len]; omega) (by rw [wos_len]; omega), by first | omega | (dsimp only; omega), by assumption⟩ (by repeat' first | exact Sub.nil | apply Sub.cons | rfl | (simp [lk]; omega)) (fun w h => h.facts (fun g hg => by simp only [List.mem_cons] at hg ⊢; rcases hg with hg | hg | hg | hg | hg | hg <;> simp [hg]))) | (exact sy_jend ⟨((wos (A ++ xo :: C)).eraseIdx A.length, ad, cd, tq + 1 + 1 + 1 + 1, m176), hwM.del (by rw [wos_len]; omega) (by rw [wos_len]; omega), by first | omega | (dsimp only; omega), by assumption⟩ (by repeat' first | exact Sub.nil | apply Sub.cons | rfl | (simp [lk]; omega)) (fun w h => h.facts (fun g hg => by simp only [List.mem_cons] at hg ⊢; rcases hg with hg | hg | hg | hg | hg | hg <;> simp [hg])))
 try simp only [decide_eq_true_eq, decide_eq_false_iff_not, Bool.and_eq_true, Bool.or_eq_true, Bool.not_eq_true', Int.not_le, Int.not_lt] at hc9
 refine sy_skip ?_
 have hlen7 : (wos (A ++ xo :: C)).length = (A ++ xo :: C).length := by simp [wos_len]
 refine Sy.heap (fun w h => St.wfin (A := A) (C := C) (x := xo) (jo := jo) (bo := bo) (T := ((b5, cel 25 (btl b (b.sl (some ⟨ba, oa, none⟩) cb))) :: (bs, cel 144 [.slice a1 l1.length c1, .int .i64 (tqb), .int .u32 (mxb)]) :: H)) h) ?_
 first | (exact sy_jend ⟨(wos (A ++ xo :: C), some ⟨bo, 0, none⟩, co, tq + 1 + 1 + 1, m176), by rw [wos_app]; exact Wok.put (A := wos A) (C := wos C) (x := xo.we) (y := (xo : WO).we) (by have := hwM; rwa [wos_app] at this) hosz, by first | omega | (dsimp only; omega), by assumption⟩ (by dsimp only; rw [hlen7]; exact (by repeat' first | exact Sub.nil | apply Sub.cons | rfl | (simp [lk]; omega))) (fun w h => h.facts (fun g hg => by simp only [List.mem_cons] at hg ⊢; rcases hg with hg | hg | hg | hg | hg | hg <;> simp [hg]))) | (exact sy_jend ⟨(wos (A ++ xo :: C), some ⟨bo, 0, none⟩, co, tq + 1 + 1 + 1 + 1, m176), by rw [wos_app]; exact Wok.put (A := wos A) (C := wos C) (x := xo.we) (y := (xo : WO).we) (by have := hwM; rwa [wos_app] at this) hosz, by first | omega | (dsimp only; omega), by assumption⟩ (by dsimp only; rw [hlen7]; exact (by repeat' first | exact Sub.nil | apply Sub.cons | rfl | (simp [lk]; omega))) (fun w h => h.facts (fun g hg => by simp only [List.mem_cons] at hg ⊢; rcases hg with hg | hg | hg | hg | hg | hg <;> simp [hg])))
 rintro ⟨⟨M2, aM, cM, tq7, mx7⟩, hM2, htq7, hmx7⟩
 dsimp only at hM2 htq7 hmx7 ⊢
 have hM2l := hM2.len
 refine sy_seq ?_
 refine sy_tx' [0, 1, 2, 3, 4, 5, 6, 7] rfl ?_
 refine spL rfl rfl (lhA (btl b (b.sl (some ⟨ba, oa, none⟩) cb)) ag25 rfl rfl rfl) rfl ?_
 refine sp rfl (PE.move rfl) rfl ?_
 refine clV rfl cal61 rfl rfl (c_ShowsK b (some ⟨ba, oa, none⟩) cb hl hr hck M2 aM cM (by omega) (fun x hx => by have := (hM2.one hx).1; omega) _ _) ?_
 refine sp rfl (PE.move rfl) rfl ?_
 refine sp rfl (PE.extract rfl rfl) rfl ?_
 refine sp rfl (PE.extract rfl rfl) rfl ?_
 refine sp rfl (PE.assign rfl) rfl ?_
 refine sp rfl (PE.assign rfl) rfl ?_
 refine sy_seq ?_
 refine sy_tx' [0, 1, 2, 3, 4, 5, 6, 7, 8, 9, 10, 11, 12, 13, 14, 15, 16, 17, 18] rfl ?_
 have hsd := fun h => wall_sound (W := wls M2) hok h hm
 have hst2 := shw_two (W := wls M2) (wlErr_ok (by rw [wls_len]; simp [inB]; omega) hM2.ok)
 refine sp rfl (PE.move rfl) rfl ?_
 refine sp rfl (PE.eql rfl rfl) rfl ?_
 refine sp rfl (PE.move rfl) rfl ?_
 refine sy_case (t := 206) rfl (fun g206 => ?_) (fun g206 => ?_)
 try simp only [decide_eq_true_eq, decide_eq_false_iff_not, Bool.and_eq_true, Bool.or_eq_true, Bool.not_eq_true', Int.not_le, Int.not_lt] at g206
 obtain ⟨hs1, hs2⟩ := hsd g206
 refine spG rfl rfl rfl rfl (PE.move rfl) rfl ?_
 refine spG rfl rfl rfl rfl (PE.eql rfl rfl) rfl ?_
 refine spG rfl rfl rfl rfl (PE.move rfl) rfl ?_
 refine sy_case (t := 209) rfl (fun g209 => ?_) (fun g209 => ?_)
 exact absurd (of_decide_eq_true g209) hs1
 refine spG rfl rfl rfl rfl (PE.move rfl) rfl ?_
 refine spG rfl rfl rfl rfl (PE.move rfl) rfl ?_
 refine spG rfl rfl rfl rfl (PE.lss rfl rfl) rfl ?_
 refine spG rfl rfl rfl rfl (PE.pick rfl rfl rfl) rfl ?_
 refine sp rfl (PE.pick rfl rfl rfl) rfl ?_
 refine sp rfl (PE.move rfl) rfl ?_
 refine sy_case (t := 215) rfl (fun g215 => ?_) (fun g215 => ?_)
 simp only [decide_eq_true_eq] at g215; omega
 refine spG rfl rfl rfl rfl (PE.move rfl) rfl ?_
 refine spG rfl rfl rfl rfl (PE.neq rfl rfl) rfl ?_
 refine spG rfl rfl rfl rfl (PE.move rfl) rfl ?_
 refine sy_case (t := 218) rfl (fun g218 => ?_) (fun g218 => ?_)
 refine spG rfl rfl rfl rfl (PE.move rfl) rfl ?_
 refine spG rfl rfl rfl rfl (PE.neq rfl rfl) rfl ?_
 refine spG rfl rfl rfl rfl (PE.pick rfl rfl rfl) rfl ?_
 refine sp rfl (PE.pick rfl rfl rfl) rfl ?_
 refine sy_cond rfl (fun hc10 => ?_) (fun hc10 => ?_)
 exfalso
 have d1 := of_decide_eq_true g218
 have d2 := of_decide_eq_true hc10
 rcases hst2 with h | h
 · exact d1 h
 · exact d2 h
 refine sy_skip ?_
 refine sy_tx' [0, 1] rfl ?_
 refine sp rfl (PE.add rfl rfl (by omega)) rfl ?_
 refine sp rfl (PE.move rfl) rfl ?_
 exact sy_next ⟨(i + 1, tq7, mx7), by dsimp only; omega, by dsimp only; push_cast; omega, by assumption⟩ (by dsimp only; omega) (by repeat' first | exact Sub.nil | apply Sub.cons | rfl | (simp [lk]; omega)) (fun w h => h.ftail.ftail)
 repeat refine spN rfl rfl rfl rfl rfl rfl rfl rfl ?_
 refine spG rfl rfl rfl rfl (PE.pick rfl rfl rfl) rfl ?_
 refine sp rfl (PE.pick rfl rfl rfl) rfl ?_
 refine sy_condF rfl ?_
 refine sy_skip ?_
 refine sy_tx' [0, 1] rfl ?_
 refine sp rfl (PE.add rfl rfl (by omega)) rfl ?_
 refine sp rfl (PE.move rfl) rfl ?_
 exact sy_next ⟨(i + 1, tq7, mx7), by dsimp only; omega, by dsimp only; push_cast; omega, by assumption⟩ (by dsimp only; omega) (by repeat' first | exact Sub.nil | apply Sub.cons | rfl | (simp [lk]; omega)) (fun w h => h.ftail.ftail)
 repeat refine spN rfl rfl rfl rfl rfl rfl rfl rfl ?_
 repeat refine spU rfl rfl rfl rfl rfl rfl rfl ?_
 refine spN rfl rfl rfl rfl rfl rfl rfl rfl ?_
 refine sp rfl (PE.pick rfl rfl rfl) rfl ?_
 refine sp rfl (PE.move rfl) rfl ?_
 refine spG rfl rfl rfl rfl (PE.move rfl) rfl ?_
 refine spG rfl rfl rfl rfl (PE.neq rfl rfl) rfl ?_
 refine spG rfl rfl rfl rfl (PE.move rfl) rfl ?_
 refine sy_case (t := 218) rfl (fun g218 => ?_) (fun g218 => ?_)
 refine spG rfl rfl rfl rfl (PE.move rfl) rfl ?_
 refine spG rfl rfl rfl rfl (PE.neq rfl rfl) rfl ?_
 refine spG rfl rfl rfl rfl (PE.pick rfl rfl rfl) rfl ?_
 refine sp rfl (PE.pick rfl rfl rfl) rfl ?_
 refine sy_cond rfl (fun hc10 => ?_) (fun hc10 => ?_)
 exfalso
 have d1 := of_decide_eq_true g218
 have d2 := of_decide_eq_true hc10
 rcases hst2 with h | h
 · exact d1 h
 · exact d2 h
 refine sy_skip ?_
 refine sy_tx' [0, 1] rfl ?_
 refine sp rfl (PE.add rfl rfl (by omega)) rfl ?_
 refine sp rfl (PE.move rfl) rfl ?_
 exact sy_next ⟨(i + 1, tq7, mx7), by dsimp only; omega, by dsimp only; push_cast; omega, by assumption⟩ (by dsimp only; omega) (by repeat' first | exact Sub.nil | apply Sub.cons | rfl | (simp [lk]; omega)) (fun w h => h.ftail.ftail)
 repeat refine spN rfl rfl rfl rfl rfl rfl rfl rfl ?_
 refine spG rfl rfl rfl rfl (PE.pick rfl rfl rfl) rfl ?_
 refine sp rfl (PE.pick rfl rfl rfl) rfl ?_
 refine sy_condF rfl ?_
 refine sy_skip ?_
 refine sy_tx' [0, 1] rfl ?_
 refine sp rfl (PE.add rfl rfl (by omega)) rfl ?_
 refine sp rfl (PE.move rfl) rfl ?_
 exact sy_next ⟨(i + 1, tq7, mx7), by dsimp only; omega, by dsimp only; push_cast; omega, by assumption⟩ (by dsimp only; omega) (by repeat' first | exact Sub.nil | apply Sub.cons | rfl | (simp [lk]; omega)) (fun w h => h.ftail.ftail)
 refine tkN rfl rfl rfl rfl rfl rfl rfl rfl ?_
 refine spN rfl rfl rfl rfl rfl rfl rfl rfl ?_
 refine bg (fun w hs => ⟨trivial, trivial, trivial, trivial, trivial⟩) ?_
 refine tk rfl (PE.pick rfl rfl rfl) rfl ?_
 refine sy_join (ι := {y : List WE × Option Addr × Nat × Int × Int // Wok b y.1 ∧ (0 ≤ y.2.2.2.1 ∧ y.2.2.2.1 ≤ 10 + 10 * (i + 1)) ∧ (0 ≤ y.2.2.2.2 ∧ y.2.2.2.2 ≤ 4294967295)}) (fun y => ⟨[(5, .pointer (some ⟨b5, 0, none⟩)), (6, .pointer (some ⟨bt, 0, none⟩)), (7, .int .i64 m), (9, .slice (some ⟨bl, ol, none⟩) L2.length cL), (100, .int .i64 i), (15, .slice y.1.2.1 y.1.1.length y.1.2.2.1)], (bt, cel 144 [.slice a2 l2.length c2, .int .i64 (y.1.2.2.2.1), .int .u32 (y.1.2.2.2.2)]) :: (b5, cel 25 (btl b (b.sl (some ⟨ba, oa, none⟩) cb))) :: (bs, cel 144 [.slice a1 l1.length c1, .int .i64 (tqb), .int .u32 (mxb)]) :: H, RowsA y.1.2.1 2 (werows y.1.1) :: InW y.1.1 :: RowsA (some ⟨bl, ol, none⟩) 2 (werows L2) :: InW L2 :: RowsA (some ⟨ba, oa, none⟩) 4 (brows b.bins) :: R⟩) ?_ ?_
 refine sy_condF rfl ?_
 refine sy_seq ?_
 refine sy_tx' [0, 1] rfl ?_
 refine sp rfl (PE.move rfl) rfl ?_
 refine cl rfl cal64 rfl rfl (c_Rare l2 a2 c2 bt hl2 _ _ (by omega) (by assumption) (2) _ _) ?_
 rintro _ _ R1 ⟨x176, m176, rfl, hm176, rfl, hR1⟩
 obtain rfl := hR1.symm
 clear hR1
 refine sy_cond rfl (fun hc8 => ?_) (fun hc8 => ?_)
 refine sy_draw [0, 0, 0, 0, 12, 28, 60, 0, 128, 508, 1020, 2047, 4095, 8191] (.tk 0 (.tk 1 (.tk 2 (.tk 3 (.tk 4 (.tk 5 (.ld 6 (.tk 7 (.big 8 (.tk 9 (.tk 10 (.tk 11 (.tk 12 (.big 13 .done)))))))))))))) mixed (by kernel_rfl) ?_
 refine tk rfl (PE.move rfl) rfl ?_
 refine tk rfl (PE.move rfl) rfl ?_
 refine tk rfl (PE.move rfl) rfl ?_
 refine tk rfl (PE.move rfl) rfl ?_
 refine tk rfl (PE.indexAddr el91 rfl rfl (by omega) (by omega)) rfl ?_
 refine tk rfl (PE.fieldAddr fo93_1 rfl) rfl ?_
 refine ld rfl rfl (lh sc3 rfl (we_getJ (v := .int .i64 xo.d) (j := 1) hxo rfl (by omega) (by show 0 + ((A.length : Nat) : Int).toNat * 2 + 1 = _; omega))) rfl ?_
 refine tk rfl (PE.move rfl) rfl ?_
 refine cl rfl cal65 rfl rfl (c_Among l2 a2 c2 bt hl2 _ _ (by omega) (by assumption) (-2) (2) (by omega) _ _) ?_
 rintro _ _ R1 ⟨x185, m185, hx185, rfl, hm185, rfl, hR1⟩
 obtain rfl := hR1.symm
 clear hR1
 refine bg (fun w hs => ⟨(lh sc3 rfl (we_getJ (v := .int .i64 xo.d) (j := 1) hxo rfl (by omega) (by show 0 + ((A.length : Nat) : Int).toNat * 2 + 1 = _; omega))) w hs, trivial⟩) ?_
 refine tk rfl (PE.add rfl rfl (by omega)) rfl ?_
 refine tk rfl (PE.max rfl rfl) rfl ?_
 refine tk rfl (PE.indexAddr el91 rfl rfl (by omega) (by omega)) rfl ?_
 refine tk rfl (PE.fieldAddr fo93_1 rfl) rfl ?_
 refine stoE (l' := (werows (wos (A ++ { xo with d := max 0 (xo.d + x185) } :: C))).flatten ++ jo) rfl rfl rfl cn3 rfl rfl rfl (by rw [wos_app, wos_app]; exact we_putd (A := wos A) (C := wos C) (x := xo.we) (max 0 (xo.d + x185)) (by rw [wos_len]; show 0 + ((A.length : Nat) : Int).toNat * 2 + 1 = _; omega)) (by rw [List.length_append, we_flat, wos_len]; show 0 + ((A.length : Nat) : Int).toNat * 2 + 1 + 1 ≤ _; omega) ?_
 refine bg (fun w hs => ⟨trivial, trivial⟩) ?_
 have hlen7 : (wos (A ++ { xo with d := max 0 (xo.d + x185) } :: C)).length = (A ++ xo :: C).length := by simp [wos_len]
 refine Sy.heap (fun w h => St.wfin (A := A) (C := C) (x := { xo with d := max 0 (xo.d + x185) }) (jo := jo) (bo := bo) (T := ((b5, cel 25 (btl b (b.sl (some ⟨ba, oa, none⟩) cb))) :: (bs, cel 144 [.slice a1 l1.length c1, .int .i64 (tqb), .int .u32 (mxb)]) :: H)) h) ?_
 first | (exact sy_jend ⟨(wos (A ++ { xo with d := max 0 (xo.d + x185) } :: C), some ⟨bo, 0, none⟩, co, tq + 1 + 1 + 1 + 1, m185), by rw [wos_app]; exact Wok.put (A := wos A) (C := wos C) (x := xo.we) (y := ({ xo with d := max 0 (xo.d + x185) } : WO).we) (by have := hwM; rwa [wos_app] at this) (st_days (d' := max 0 (xo.d + x185)) hosz ⟨by omega, by omega⟩), by first | omega | (dsimp only; omega), by assumption⟩ (by dsimp only; rw [hlen7]; exact (by repeat' first | exact Sub.nil | apply Sub.cons | rfl | (simp [lk]; omega))) (fun w h => h.facts (fun g hg => by simp only [List.mem_cons] at hg ⊢; rcases hg with hg | hg | hg | hg | hg | hg <;> simp [hg]))) | (exact sy_jend ⟨(wos (A ++ { xo with d := max 0 (xo.d + x185) } :: C), some ⟨bo, 0, none⟩, co, tq + 1 + 1 + 1 + 1 + 1, m185), by rw [wos_app]; exact Wok.put (A := wos A) (C := wos C) (x := xo.we) (y := ({ xo with d := max 0 (xo.d + x185) } : WO).we) (by have := hwM; rwa [wos_app] at this) (st_days (d' := max 0 (xo.d + x185)) hosz ⟨by omega, by omega⟩), by first | omega | (dsimp only; omega), by assumption⟩ (by dsimp only; rw [hlen7]; exact (by repeat' first | exact Sub.nil | apply Sub.cons | rfl | (simp [lk]; omega))) (fun w h => h.facts (fun g hg => by simp only [List.mem_cons] at hg ⊢; rcases hg with hg | hg | hg | hg | hg | hg <;> simp [hg])))
 refine sy_seq ?_
 refine sy_tx' [0, 1, 2] rfl ?_
 refine sp rfl (PE.move rfl) rfl ?_
 refine sp rfl (PE.lenSl isl91 rfl) rfl ?_
 refine sp rfl (PE.gtr rfl rfl) rfl ?_
 refine sy_cond rfl (fun hc9 => ?_) (fun hc9 => ?_)
 try simp only [decide_eq_true_eq, decide_eq_false_iff_not, Bool.and_eq_true, Bool.or_eq_true, Bool.not_eq_true', Int.not_le, Int.not_lt] at hc9
 refine sy_tx' [0, 1, 2, 3, 4, 5] rfl ?_
 refine sp rfl (PE.move rfl) rfl ?_
 refine sp rfl (PE.move rfl) rfl ?_
 refine sp rfl (PE.move rfl) rfl ?_
 refine sp rfl (PE.add rfl rfl (by omega)) rfl ?_
 rw [show ((A.length : Nat) : Int) + 1 = ((A.length + 1 : Nat) : Int) by omega, show (A ++ xo :: C).length = (wos (A ++ xo :: C)).length from (wos_len _).symm]
 refine sy_pull bo ?_
 refine cl rfl cal66 rfl rfl (c_DeleteW (wos (A ++ xo :: C)) bo co jo (by have := hwM.len; omega) (by rw [wos_len]; exact hoj) (by rw [wos_len]; exact hoc) hom A.length (by rw [wos_len]; omega) _ _) ?_
 rintro _ _ R1 ⟨ad, cd, rfl, rfl, hR1⟩
 obtain rfl := hR1.symm
 clear hR1
 refine sp rfl (PE.assign rfl) rfl ?_
 refine Sy.heap (fun w h => St.wobs (l := (A ++ xo :: C)) (h.perm wob_back2)) ?_
 refine Sy.heap (fun w h => St.inwPart (l := wos (A ++ xo :: C)) h ((wos (A ++ xo :: C)).eraseIdx A.length) (fun x hx => List.mem_of_mem_eraseIdx hx)) ?_
 first | (exact sy_jend ⟨((wos (A ++ xo :: C)).eraseIdx A.length, ad, cd, tq + 1 + 1 + 1, m176), hwM.del (by rw [wos_len]; omega) (by rw [wos_len]; omega), by first | omega | (dsimp only; omega), by assumption⟩ (by repeat' first | exact Sub.nil | apply Sub.cons | rfl | (simp [lk]; omega)) (fun w h => h.facts (fun g hg => by simp only [List.mem_cons] at hg ⊢; rcases hg with hg | hg | hg | hg | hg | hg <;> simp [hg]))) | (exact sy_jend ⟨((wos (A ++ xo :: C)).eraseIdx A.length, ad, cd, tq + 1 + 1 + 1 + 1, m176), hwM.del (by rw [wos_len]; omega) (by rw [wos_len]; omega), by first | omega | (dsimp only; omega), by assumption⟩ (by repeat' first | exact Sub.nil | apply Sub.cons | rfl | (simp [lk]; omega)) (fun w h => h.facts (fun g hg => by simp only [List.mem_cons] at hg ⊢; rcases hg with hg | hg | hg | hg | hg | hg <;> simp [hg])))
 try simp only [decide_eq_true_eq, decide_eq_false_iff_not, Bool.and_eq_true, Bool.or_eq_true, Bool.not_eq_true', Int.not_le, Int.not_lt] at hc9
 refine sy_skip ?_
 have hlen7 : (wos (A ++ xo :: C)).length = (A ++ xo :: C).length := by simp [wos_len]
 refine Sy.heap (fun w h => St.wfin (A := A) (C := C) (x := xo) (jo := jo) (bo := bo) (T := ((b5, cel 25 (btl b (b.sl (some ⟨ba, oa, none⟩) cb))) :: (bs, cel 144 [.slice a1 l1.length c1, .int .i64 (tqb), .int .u32 (mxb)]) :: H)) h) ?_
 first | (exact sy_jend ⟨(wos (A ++ xo :: C), some ⟨bo, 0, none⟩, co, tq + 1 + 1 + 1, m176), by rw [wos_app]; exact Wok.put (A := wos A) (C := wos C) (x := xo.we) (y := (xo : WO).we) (by have := hwM; rwa [wos_app] at this) hosz, by first | omega | (dsimp only; omega), by assumption⟩ (by dsimp only; rw [hlen7]; exact (by repeat' first | exact Sub.nil | apply Sub.cons | rfl | (simp [lk]; omega))) (fun w h => h.facts (fun g hg => by simp only [List.mem_cons] at hg ⊢; rcases hg with hg | hg | hg | hg | hg | hg <;> simp [hg]))) | (exact sy_jend ⟨(wos (A ++ xo :: C), some ⟨bo, 0, none⟩, co, tq + 1 + 1 + 1 + 1, m176), by rw [wos_app]; exact Wok.put (A := wos A) (C := wos C) (x := xo.we) (y := (xo : WO).we) (by have := hwM; rwa [wos_app] at this) hosz, by first | omega | (dsimp only; omega), by assumption⟩ (by dsimp only; rw [hlen7]; exact (by repeat' first | exact Sub.nil | apply Sub.cons | rfl | (simp [lk]; omega))) (fun w h => h.facts (fun g hg => by simp only [List.mem_cons] at hg ⊢; rcases hg with hg | hg | hg | hg | hg | hg <;> simp [hg])))
 rintro ⟨⟨M2, aM, cM, tq7, mx7⟩, hM2, htq7, hmx7⟩
 dsimp only at hM2 htq7 hmx7 ⊢
 have hM2l := hM2.len
 refine sy_seq ?_
 refine sy_tx' [0, 1, 2, 3, 4, 5, 6, 7] rfl ?_
 refine spL rfl rfl (lhA (btl b (b.sl (some ⟨ba, oa, none⟩) cb)) ag25 rfl rfl rfl) rfl ?_
 refine sp rfl (PE.move rfl) rfl ?_
 refine clV rfl cal61 rfl rfl (c_ShowsK b (some ⟨ba, oa, none⟩) cb hl hr hck M2 aM cM (by omega) (fun x hx => by have := (hM2.one hx).1; omega) _ _) ?_
 refine sp rfl (PE.move rfl) rfl ?_
 refine sp rfl (PE.extract rfl rfl) rfl ?_
 refine sp rfl (PE.extract rfl rfl) rfl ?_
 refine sp rfl (PE.assign rfl) rfl ?_
 refine sp rfl (PE.assign rfl) rfl ?_
 refine sy_seq ?_
 refine sy_tx' [0, 1, 2, 3, 4, 5, 6, 7, 8, 9, 10, 11, 12, 13, 14, 15, 16, 17, 18] rfl ?_
 have hsd := fun h => wall_sound (W := wls M2) hok h hm
 have hst2 := shw_two (W := wls M2) (wlErr_ok (by rw [wls_len]; simp [inB]; omega) hM2.ok)
 refine sp rfl (PE.move rfl) rfl ?_
 refine sp rfl (PE.eql rfl rfl) rfl ?_
 refine sp rfl (PE.move rfl) rfl ?_
 refine sy_case (t := 206) rfl (fun g206 => ?_) (fun g206 => ?_)
 try simp only [decide_eq_true_eq, decide_eq_false_iff_not, Bool.and_eq_true, Bool.or_eq_true, Bool.not_eq_true', Int.not_le, Int.not_lt] at g206
 obtain ⟨hs1, hs2⟩ := hsd g206
 refine spG rfl rfl rfl rfl (PE.move rfl) rfl ?_
 refine spG rfl rfl rfl rfl (PE.eql rfl rfl) rfl ?_
 refine spG rfl rfl rfl rfl (PE.move rfl) rfl ?_
 refine sy_case (t := 209) rfl (fun g209 => ?_) (fun g209 => ?_)
 exact absurd (of_decide_eq_true g209) hs1
 refine spG rfl rfl rfl rfl (PE.move rfl) rfl ?_
 refine spG rfl rfl rfl rfl (PE.move rfl) rfl ?_
 refine spG rfl rfl rfl rfl (PE.lss rfl rfl) rfl ?_
 refine spG rfl rfl rfl rfl (PE.pick rfl rfl rfl) rfl ?_
 refine sp rfl (PE.pick rfl rfl rfl) rfl ?_
 refine sp rfl (PE.move rfl) rfl ?_
 refine sy_case (t := 215) rfl (fun g215 => ?_) (fun g215 => ?_)
 simp only [decide_eq_true_eq] at g215; omega
 refine spG rfl rfl rfl rfl (PE.move rfl) rfl ?_
 refine spG rfl rfl rfl rfl (PE.neq rfl rfl) rfl ?_
 refine spG rfl rfl rfl rfl (PE.move rfl) rfl ?_
 refine sy_case (t := 218) rfl (fun g218 => ?_) (fun g218 => ?_)
 refine spG rfl rfl rfl rfl (PE.move rfl) rfl ?_
 refine spG rfl rfl rfl rfl (PE.neq rfl rfl) rfl ?_
 refine spG rfl rfl rfl rfl (PE.pick rfl rfl rfl) rfl ?_
 refine sp rfl (PE.pick rfl rfl rfl) rfl ?_
 refine sy_cond rfl (fun hc10 => ?_) (fun hc10 => ?_)
 exfalso
 have d1 := of_decide_eq_true g218
 have d2 := of_decide_eq_true hc10
 rcases hst2 with h | h
 · exact d1 h
 · exact d2 h
 refine sy_skip ?_
 refine sy_tx' [0, 1] rfl ?_
 refine sp rfl (PE.add rfl rfl (by omega)) rfl ?_
 refine sp rfl (PE.move rfl) rfl ?_
 exact sy_next ⟨(i + 1, tq7, mx7), by dsimp only; omega, by dsimp only; push_cast; omega, by assumption⟩ (by dsimp only; omega) (by repeat' first | exact Sub.nil | apply Sub.cons | rfl | (simp [lk]; omega)) (fun w h => h.ftail.ftail)
 repeat refine spN rfl rfl rfl rfl rfl rfl rfl rfl ?_
 refine spG rfl rfl rfl rfl (PE.pick rfl rfl rfl) rfl ?_
 refine sp rfl (PE.pick rfl rfl rfl) rfl ?_
 refine sy_condF rfl ?_
 refine sy_skip ?_
 refine sy_tx' [0, 1] rfl ?_
 refine sp rfl (PE.add rfl rfl (by omega)) rfl ?_
 refine sp rfl (PE.move rfl) rfl ?_
 exact sy_next ⟨(i + 1, tq7, mx7), by dsimp only; omega, by dsimp only; push_cast; omega, by assumption⟩ (by dsimp only; omega) (by repeat' first | exact Sub.nil | apply Sub.cons | rfl | (simp [lk]; omega)) (fun w h => h.ftail.ftail)
 repeat refine spN rfl rfl rfl rfl rfl rfl rfl rfl ?_
 repeat refine spU rfl rfl rfl rfl rfl rfl rfl ?_
 refine spN rfl rfl rfl rfl rfl rfl rfl rfl ?_
 refine sp rfl (PE.pick rfl rfl rfl) rfl ?_
 refine sp rfl (PE.move rfl) rfl ?_
 refine spG rfl rfl rfl rfl (PE.move rfl) rfl ?_
 refine spG rfl rfl rfl rfl (PE.neq rfl rfl) rfl ?_
 refine spG rfl rfl rfl rfl (PE.move rfl) rfl ?_
 refine sy_case (t := 218) rfl (fun g218 => ?_) (fun g218 => ?_)
 refine spG rfl rfl rfl rfl (PE.move rfl) rfl ?_
 refine spG rfl rfl rfl rfl (PE.neq rfl rfl) rfl ?_
 refine spG rfl rfl rfl rfl (PE.pick rfl rfl rfl) rfl ?_
 refine sp rfl (PE.pick rfl rfl rfl) rfl ?_
 refine sy_cond rfl (fun hc10 => ?_) (fun hc10 => ?_)
 exfalso
 have d1 := of_decide_eq_true g218
 have d2 := of_decide_eq_true hc10
 rcases hst2 with h | h
 · exact d1 h
 · exact d2 h
 refine sy_skip ?_
 refine sy_tx' [0, 1] rfl ?_
 refine sp rfl (PE.add rfl rfl (by omega)) rfl ?_
 refine sp rfl (PE.move rfl) rfl ?_
 exact sy_next ⟨(i + 1, tq7, mx7), by dsimp only; omega, by dsimp only; push_cast; omega, by assumption⟩ (by dsimp only; omega) (by repeat' first | exact Sub.nil | apply Sub.cons | rfl | (simp [lk]; omega)) (fun w h => h.ftail.ftail)
 repeat refine spN rfl rfl rfl rfl rfl rfl rfl rfl ?_
 refine spG rfl rfl rfl rfl (PE.pick rfl rfl rfl) rfl ?_
 refine sp rfl (PE.pick rfl rfl rfl) rfl ?_
 refine sy_condF rfl ?_
 refine sy_skip ?_
 refine sy_tx' [0, 1] rfl ?_
 refine sp rfl (PE.add rfl rfl (by omega)) rfl ?_
 refine sp rfl (PE.move rfl) rfl ?_
 exact sy_next ⟨(i + 1, tq7, mx7), by dsimp only; omega, by dsimp only; push_cast; omega, by assumption⟩ (by dsimp only; omega) (by repeat' first | exact Sub.nil | apply Sub.cons | rfl | (simp [lk]; omega)) (fun w h => h.ftail.ftail)
 simp only [decide_eq_false_iff_not] at g140; omega
 try simp only [decide_eq_true_eq, decide_eq_false_iff_not, Bool.and_eq_true, Bool.or_eq_true, Bool.not_eq_true', Int.not_le, Int.not_lt] at hc5
 refine sy_exit ?_
 repeat refine sy_tx ?_
 refine sy_bx ?_
 refine sy_seq ?_
 refine sy_tx' [0, 1] rfl ?_
 refine clV rfl cal18 rfl rfl (c_awake _ _) ?_
 refine sp rfl (PE.assign rfl) rfl ?_
 refine sy_ret ?_
 exact sy_return (vs := [_]) rfl (.cons (RV.tmp rfl) .nil) rfl ⟨rfl, rfl, rfl⟩ (fun w h => (((h.del bt).del b5).del bs).facts (fun g hg => by simp [hg]))
end Go.Proofs.Ytelegnmfhjfbaaa
