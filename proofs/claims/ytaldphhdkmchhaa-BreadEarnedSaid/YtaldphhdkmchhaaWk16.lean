/- Walks of the functions of the program: what each returns and leaves in memory, under the conditions that its theorem names. -/
import Derived.Test.YtaldphhdkmchhaaTy
import Derived.Test.YtaldphhdkmchhaaMa
import Derived.Test.YtaldphhdkmchhaaWk14
namespace Go.Proofs.Ytaldphhdkmchhaa
set_option linter.unusedSimpArgs false
set_option linter.unusedVariables false
open Go
theorem ap80 : apT Try.prog 80 = some (4, 1, 1) := by kernel_rfl
theorem cal100 : cal Try.prog 100 = true := by kernel_rfl
theorem cal17 : cal Try.prog 17 = true := by kernel_rfl
theorem cal19 : cal Try.prog 19 = true := by kernel_rfl
theorem cal20 : cal Try.prog 20 = true := by kernel_rfl
theorem cal28 : cal Try.prog 28 = true := by kernel_rfl
theorem cal29 : cal Try.prog 29 = true := by kernel_rfl
theorem cal30 : cal Try.prog 30 = true := by kernel_rfl
theorem cal63 : cal Try.prog 63 = true := by kernel_rfl
theorem cal84 : cal Try.prog 84 = true := by kernel_rfl
theorem cal85 : cal Try.prog 85 = true := by kernel_rfl
theorem cal86 : cal Try.prog 86 = true := by kernel_rfl
theorem cn4 : cellN Try.prog 4 = some 1 := by kernel_rfl
theorem el80 : elN Try.prog 80 = some 1 := by kernel_rfl
theorem el82 : elN Try.prog 82 = some 3 := by kernel_rfl
theorem isl82 : isSl Try.prog 82 = true := by kernel_rfl
theorem sc4 : scal Try.prog 4 = true := by kernel_rfl
theorem sl80 : slE Try.prog 80 = some (4, 1) := by kernel_rfl
theorem zl4 : zeroL Try.prog 4 = some ([.bool false]) := by kernel_rfl
abbrev bools (l : List Bool) : List Value := l.map Value.bool
def brow (b : Bool) : List Value := [.bool b]
def brows (l : List Bool) : List (List Value) := l.map brow
theorem brows_flat : ∀ (l : List Bool), (brows l).flatten = bools l
  | [] => rfl
  | b :: l => by rw [brows, List.map_cons, List.flatten_cons, show (List.map brow l) = brows l from rfl, brows_flat l]; rfl
theorem br_get {l : List Bool} {k : Nat} {x : Bool} (h : l[k]? = some x) : (brows l)[k]? = some [.bool x] := by simp [brows, brow, h]
theorem bl_at {l : List Bool} {jn : List Value} {i k : Nat} {x : Bool} (h : l[i]? = some x) (e : k = i) : (bools l ++ jn)[k]? = some (.bool x) := by
  subst e
  have hi : k < l.length := (List.getElem?_eq_some_iff.1 h).1
  rw [List.getElem?_append_left (by simpa [bools] using hi)]; simp [bools, h]
theorem spl_b {l : List Bool} {jn : List Value} {i k : Nat} {x : Bool} (h : i < l.length) (e : k = i) : spl (bools l ++ jn) k [.bool x] = bools (l.set i x) ++ jn := by
  subst e
  rw [spl_set (by simp [bools]; omega), List.set_append_left _ _ (by simpa [bools] using h)]; simp [bools, List.map_set]
theorem bool_len (l : List Bool) (jn : List Value) : (bools l ++ jn).length = l.length + jn.length := by simp [bools]
theorem St.boolRows {b e : Nat} {l : List Bool} {jn : List Value} {H : Heap} {R : Facts} {w : World} (h : St ((b, cel e (bools l ++ jn)) :: H) R w) : St H (RowsA (some ⟨b, 0, none⟩) 1 (brows l) :: R) w := by
  rw [← brows_flat] at h; exact St.rows h (by intro r hr; obtain ⟨x, _, rfl⟩ := List.mem_map.1 hr; rfl)
theorem rep_b (n : Nat) : repl n [.bool false] = bools (List.replicate n false) ++ [] := by rw [repl1, bools, List.map_replicate, List.append_nil]

theorem c_rFed (t : Twn) (ht : t.ok) (s : Sta) (hs : s.right t = true) (nw bf : List Bool) (jn : List Value) (n : Int) (hnl : nw.length = t.nst) (hbl : bf.length = t.nst) (ba oa ca : Nat) (bn cn bb ob cb : Nat) (H : Heap) (R : Facts) [hR : MemRows (some ⟨ba, oa, none⟩) 2 (rrows t.rats) R] [hM : Mem1 bn (cel 4 (bools nw ++ jn)) H] [hB : MemRows (some ⟨bb, ob, none⟩) 1 (brows bf) R] :
    FnV Try.prog 86 [t.v (t.sl (some ⟨ba, oa, none⟩) ca), s.v, .slice (some ⟨bn, 0, none⟩) t.nst cn, .slice (some ⟨bb, ob, none⟩) t.nst cb, .int .i64 n] H R (.bool (fedB t nw bf n s)) := by
  refine fn_of Try.func86 rfl Try.ntmps86 rfl ?_
  refine sy_seq ?_
  refine sy_tx' [0, 1, 2] rfl ?_
  refine sy_sq ?_
  refine bx rfl rfl rfl (fun b5 => ?_)
  refine sy_sq ?_
  refine bx rfl rfl rfl (fun b6 => ?_)
  refine sy_sq ?_
  refine sp rfl (PE.assign rfl) rfl ?_
  refine sy_sn ?_
  refine sy_nx ?_
  refine sy_seq ?_
  refine sy_tx' [0, 1, 2, 3] rfl ?_
  refine sy_sq ?_
  refine spL rfl rfl (lhA [_, _, _, _, _, _, _, _, _, _, _] ag37 rfl rfl rfl) rfl ?_
  refine sy_sq ?_
  refine spL rfl rfl (lhA [_, _, _] ag34 rfl rfl rfl) rfl ?_
  refine sy_sq ?_
  refine cl rfl cal63 rfl rfl (c_rAllowed t ht s ba oa ca _ _) ?_
  rintro _ _ R1 ⟨oL, rfl, rfl, hR1⟩
  obtain rfl := hR1.symm
  obtain ⟨aL, cL, hoL, hfL⟩ := oL.freeze
  rw [hoL]
  refine Sy.heap (fun w h => hfL h) ?_
  rw [show (irows (canU t s)).length = (canL t s).length from by rw [irows, List.length_map, canU_len]]
  refine sy_sq ?_
  refine sp rfl (PE.assign rfl) rfl ?_
  refine sy_sn ?_
  refine sy_nx ?_
  refine sy_seq ?_
  refine sy_seq ?_
  refine sy_tx' [0] rfl ?_
  refine sy_sq ?_
  refine sp rfl (PE.assign rfl) rfl ?_
  refine sy_sn ?_
  refine sy_nx ?_
  refine sy_block ?_
  have hcl4 : (canL t s).length ≤ 4 := by have := canU_len t s; have := canU_le t s; have := ht.many; omega
  refine sy_loop (ι := {k : Nat // k ≤ (canL t s).length ∧ ∀ j q, j < k → (canL t s)[j]? = some q → fedP t nw bf n s q = false}) (fun k => ⟨[(2, .slice (some ⟨bn, 0, none⟩) t.nst cn), (3, .slice (some ⟨bb, ob, none⟩) t.nst cb), (4, .int .i64 n), (5, .pointer (some ⟨b5, 0, none⟩)), (6, .pointer (some ⟨b6, 0, none⟩)), (11, .slice aL (canL t s).length cL), (12, .int .i64 k.1)],
    (b6, cel 34 [.int .i64 s.stock, .int .i64 s.short, .int .i64 s.dry]) :: (b5, cel 37 (twl t (t.sl (some ⟨ba, oa, none⟩) ca))) :: H, RowsA aL 1 (irows (canU t s)) :: R⟩) (fun k => (canL t s).length - k.1) ⟨0, by omega, by omega⟩ ?_ (fun k => ?_)
  ·
   exact sy_at (by repeat' first | exact Sub.nil | apply Sub.cons | rfl | (simp [lk]; omega)) (fun _ h => h)
  ·
   obtain ⟨k, hk, hno⟩ := k
   dsimp only
   refine sy_seq ?_
   refine sy_seq ?_
   refine sy_tx' [0, 1, 2, 3] rfl ?_
   refine sy_sq ?_
   refine sp rfl (PE.move rfl) rfl ?_
   refine sy_sq ?_
   refine sp rfl (PE.move rfl) rfl ?_
   refine sy_sq ?_
   refine sp rfl (PE.lenSl isl42 rfl) rfl ?_
   refine sy_sq ?_
   refine sp rfl (PE.lss rfl rfl) rfl ?_
   refine sy_sn ?_
   refine sy_nx ?_
   refine sy_cond rfl (fun hc0 => ?_) (fun hc0 => ?_)
   ·
    try simp only [decide_eq_true_eq, decide_eq_false_iff_not, Bool.and_eq_true, Bool.or_eq_true, Bool.not_eq_true', Int.not_le, Int.not_lt] at hc0
    obtain ⟨rr, hrr⟩ : ∃ rr, (canU t s)[k]? = some rr := ⟨_, List.getElem?_eq_getElem (by rw [canU_len]; omega)⟩
    obtain ⟨q, hr0, hq, hcan, hcl⟩ := canU_get hrr
    have hqm := List.mem_of_getElem? hq
    have hng := next_right ht hs hqm hcan (bad := false) (by simp)
    have hrl := nthq hr0 hq
    have hnst := nst_le ht
    refine sy_addr (a := aL) (sz := 1) (rows := irows (canU t s)) (by intro h0; simp [irows] at h0; simp [h0] at hrr) (fun bL fL he => ?_)
    subst he
    refine sy_skip ?_
    refine sy_nx ?_
    refine sy_seq ?_
    refine sy_block ?_
    refine sy_seq ?_
    refine sy_draw [0, 0, 0, 0, 0, 0, 48, 112, 252, 510, 1023, 2047, 4095] (.tk 0 (.ld 1 (.ld 2 (.ld 3 (.tk 4 (.tk 5 (.tk 6 (.ld 7 (.big 8 (.big 9 (.tk 10 (.ld 11 (.tk 12 .done))))))))))))) mixed (by kernel_rfl) ?_
    refine tk rfl (PE.move rfl) rfl ?_
    refine ld rfl rfl (lhA [_, _, _, _, _, _, _, _, _, _, _] ag37 rfl rfl rfl) rfl ?_
    refine ld rfl rfl (lhA [_, _, _, _, _, _, _, _, _, _, _] ag37 rfl rfl rfl) rfl ?_
    refine ld rfl rfl (lhA [_, _, _] ag34 rfl rfl rfl) rfl ?_
    refine tk rfl (PE.move rfl) rfl ?_
    refine tk rfl (PE.move rfl) rfl ?_
    refine tk rfl (PE.indexAddr el42 rfl rfl (by omega) (by omega)) rfl ?_
    refine ld rfl rfl (lf0 (x := .int .i64 rr) sc3 (by simp [irows, hrr]; rfl) rfl) rfl ?_
    refine sy_bg ?_
    refine clV rfl cal100 rfl rfl (c_rAfter t ht s hs rr q false ba oa ca hr0 hq (can_le hcan) _ _) ?_
    refine bg (fun w hs => ⟨trivial, trivial, trivial, (lhA [_, _, _, _, _, _, _, _, _, _, _] ag37 rfl rfl rfl) w hs, trivial⟩) ?_
    refine sy_bg ?_
    refine clV rfl cal84 rfl rfl (c_rIndex t ht _ hng _ _ _) ?_
    refine bg (fun w hs => ⟨trivial, trivial⟩) ?_
    refine tk rfl (PE.indexAddr el80 rfl rfl (by have := ixr_lt hng; omega) (by have := ixr_lt hng; omega)) rfl ?_
    refine ld rfl rfl (lh (v := .bool (bo nw (ixr t (t.next s q false)))) sc4 rfl (bl_at (bo_get (by have := ixr_lt hng; omega)) (by omega))) rfl ?_
    refine tk rfl (PE.assign rfl) rfl ?_
    refine sy_dn ?_
    refine sy_nx ?_
    refine sy_seq ?_
    refine sy_draw [0, 1, 3, 7, 15, 31, 63, 31, 159, 511, 1023, 2047, 4095, 4095, 4095, 4095, 4095, 4095, 200703, 462847, 1036287, 2093055, 4194303, 8388607, 16777215, 33554431] (.tk 0 (.tk 1 (.tk 2 (.tk 3 (.tk 4 (.tk 5 (.ld 6 (.tk 7 (.ld 8 (.tk 9 (.tk 10 (.tk 11 (.tk 12 (.ld 13 (.ld 14 (.ld 15 (.tk 16 (.tk 17 (.tk 18 (.ld 19 (.big 20 (.big 21 (.tk 22 (.ld 23 (.tk 24 (.tk 25 .done)))))))))))))))))))))))))) mixed (by kernel_rfl) ?_
    refine tk rfl (PE.move rfl) rfl ?_
    refine tk rfl (PE.move rfl) rfl ?_
    refine sy_case (t := 36) rfl (fun g36 => ?_) (fun g36 => ?_)
    ·
     refine tkG rfl rfl rfl rfl (PE.move rfl) rfl ?_
     refine tkG rfl rfl rfl rfl (PE.eql rfl rfl) rfl ?_
     refine tkG rfl rfl rfl rfl (PE.move rfl) rfl ?_
     refine sy_case (t := 39) rfl (fun g39 => ?_) (fun g39 => ?_)
     ·
      try simp only [decide_eq_true_eq, decide_eq_false_iff_not, Bool.and_eq_true, Bool.or_eq_true, Bool.not_eq_true', Int.not_le, Int.not_lt] at g39
      have hp : fedP t nw bf n s q = true := by unfold fedP; rw [g36, decide_eq_true g39]; rfl
      refine tkN rfl rfl rfl rfl rfl rfl rfl rfl ?_
      refine ldN rfl rfl rfl rfl rfl rfl rfl rfl ?_
      refine tkN rfl rfl rfl rfl rfl rfl rfl rfl ?_
      refine ldN rfl rfl rfl rfl rfl rfl rfl rfl ?_
      refine tkN rfl rfl rfl rfl rfl rfl rfl rfl ?_
      refine tkG rfl rfl rfl rfl (PE.pick rfl rfl rfl) rfl ?_
      refine tkG rfl rfl rfl rfl (PE.move rfl) rfl ?_
      refine tkN rfl rfl rfl rfl rfl rfl rfl rfl ?_
      refine ldN rfl rfl rfl rfl rfl rfl rfl rfl ?_
      refine ldN rfl rfl rfl rfl rfl rfl rfl rfl ?_
      refine ldN rfl rfl rfl rfl rfl rfl rfl rfl ?_
      refine tkN rfl rfl rfl rfl rfl rfl rfl rfl ?_
      refine tkN rfl rfl rfl rfl rfl rfl rfl rfl ?_
      refine tkN rfl rfl rfl rfl rfl rfl rfl rfl ?_
      refine ldN rfl rfl rfl rfl rfl rfl rfl rfl ?_
      refine sy_bg ?_
      refine spN rfl rfl rfl rfl rfl rfl rfl rfl ?_
      refine bg (fun w hs => ⟨trivial, trivial, trivial, ((fun _ _ => True.intro)) w hs, trivial, trivial, trivial⟩) ?_
      refine sy_bg ?_
      refine spN rfl rfl rfl rfl rfl rfl rfl rfl ?_
      refine bg (fun w hs => ⟨trivial, trivial⟩) ?_
      refine tkN rfl rfl rfl rfl rfl rfl rfl rfl ?_
      refine ldN rfl rfl rfl rfl rfl rfl rfl rfl ?_
      refine tkG rfl rfl rfl rfl (PE.pick rfl rfl rfl) rfl ?_
      refine tk rfl (PE.pick rfl rfl rfl) rfl ?_
      refine sy_dn ?_
      refine sy_nx ?_
      refine sy_condT rfl ?_
      refine sy_seq ?_
      refine sy_tx' [0] rfl ?_
      refine sy_sq ?_
      refine sp rfl (PE.assign rfl) rfl ?_
      refine sy_sn ?_
      refine sy_nx ?_
      refine sy_ret ?_
      refine sy_br ?_
      refine sy_tr ?_
      refine sy_tr ?_
      refine sy_br ?_
      refine sy_tr ?_
      exact sy_return (vs := [_]) rfl (.cons (RV.tmp rfl) .nil) rfl ⟨congrArg Value.bool (by
          first
            | exact hres.symm
            | exact (List.any_eq_true.2 ⟨q, List.mem_of_getElem? hcl, hp⟩).symm
            | exact (List.any_eq_true.2 ⟨q, List.mem_of_getElem? hcl, hp.trans hc1⟩).symm), rfl, rfl⟩ (fun _ h => by repeat first | exact h | replace h := St.tail h | replace h := St.ftail h | replace h := St.drop h)
     ·
      try simp only [decide_eq_true_eq, decide_eq_false_iff_not, Bool.and_eq_true, Bool.or_eq_true, Bool.not_eq_true', Int.not_le, Int.not_lt] at g39
      
      refine tkG rfl rfl rfl rfl (PE.fieldAddr fo34_2 rfl) rfl ?_
      refine ldG rfl rfl rfl rfl rfl (lh sc3 rfl rfl) rfl ?_
      refine tkG rfl rfl rfl rfl (PE.fieldAddr fo37_4 rfl) rfl ?_
      refine ldG rfl rfl rfl rfl rfl (lh sc3 rfl rfl) rfl ?_
      refine tkG rfl rfl rfl rfl (PE.geq rfl rfl) rfl ?_
      refine tkG rfl rfl rfl rfl (PE.pick rfl rfl rfl) rfl ?_
      refine tkG rfl rfl rfl rfl (PE.move rfl) rfl ?_
      refine sy_case (t := 46) rfl (fun g46 => ?_) (fun g46 => ?_)
      ·
       try simp only [decide_eq_true_eq, decide_eq_false_iff_not, Bool.and_eq_true, Bool.or_eq_true, Bool.not_eq_true', Int.not_le, Int.not_lt] at g46
       have hp : fedP t nw bf n s q = true := by unfold fedP; rw [g36, decide_eq_false g39, decide_eq_false (show ¬ s.dry < t.run by omega)]; rfl
       refine tkN rfl rfl rfl rfl rfl rfl rfl rfl ?_
       refine ldN rfl rfl rfl rfl rfl rfl rfl rfl ?_
       refine ldN rfl rfl rfl rfl rfl rfl rfl rfl ?_
       refine ldN rfl rfl rfl rfl rfl rfl rfl rfl ?_
       refine tkN rfl rfl rfl rfl rfl rfl rfl rfl ?_
       refine tkN rfl rfl rfl rfl rfl rfl rfl rfl ?_
       refine tkN rfl rfl rfl rfl rfl rfl rfl rfl ?_
       refine ldN rfl rfl rfl rfl rfl rfl rfl rfl ?_
       refine sy_bg ?_
       refine spN rfl rfl rfl rfl rfl rfl rfl rfl ?_
       refine bg (fun w hs => ⟨trivial, trivial, trivial, ((fun _ _ => True.intro)) w hs, trivial, trivial, trivial⟩) ?_
       refine sy_bg ?_
       refine spN rfl rfl rfl rfl rfl rfl rfl rfl ?_
       refine bg (fun w hs => ⟨trivial, trivial⟩) ?_
       refine tkN rfl rfl rfl rfl rfl rfl rfl rfl ?_
       refine ldN rfl rfl rfl rfl rfl rfl rfl rfl ?_
       refine tkG rfl rfl rfl rfl (PE.pick rfl rfl rfl) rfl ?_
       refine tk rfl (PE.pick rfl rfl rfl) rfl ?_
       refine sy_dn ?_
       refine sy_nx ?_
       refine sy_condT rfl ?_
       refine sy_seq ?_
       refine sy_tx' [0] rfl ?_
       refine sy_sq ?_
       refine sp rfl (PE.assign rfl) rfl ?_
       refine sy_sn ?_
       refine sy_nx ?_
       refine sy_ret ?_
       refine sy_br ?_
       refine sy_tr ?_
       refine sy_tr ?_
       refine sy_br ?_
       refine sy_tr ?_
       exact sy_return (vs := [_]) rfl (.cons (RV.tmp rfl) .nil) rfl ⟨congrArg Value.bool (by
           first
             | exact hres.symm
             | exact (List.any_eq_true.2 ⟨q, List.mem_of_getElem? hcl, hp⟩).symm
             | exact (List.any_eq_true.2 ⟨q, List.mem_of_getElem? hcl, hp.trans hc1⟩).symm), rfl, rfl⟩ (fun _ h => by repeat first | exact h | replace h := St.tail h | replace h := St.ftail h | replace h := St.drop h)
      ·
       try simp only [decide_eq_true_eq, decide_eq_false_iff_not, Bool.and_eq_true, Bool.or_eq_true, Bool.not_eq_true', Int.not_le, Int.not_lt] at g46
       have hnb := next_right ht hs hqm hcan (bad := true) (fun _ => by omega)
       have hp : fedP t nw bf n s q = bo bf (ixr t (t.next s q true)) := by unfold fedP; rw [g36, decide_eq_false g39, decide_eq_true (show s.dry < t.run by omega)]; rfl
       refine tkG rfl rfl rfl rfl (PE.move rfl) rfl ?_
       refine ldG rfl rfl rfl rfl rfl (lhA [_, _, _, _, _, _, _, _, _, _, _] ag37 rfl rfl rfl) rfl ?_
       refine ldG rfl rfl rfl rfl rfl (lhA [_, _, _, _, _, _, _, _, _, _, _] ag37 rfl rfl rfl) rfl ?_
       refine ldG rfl rfl rfl rfl rfl (lhA [_, _, _] ag34 rfl rfl rfl) rfl ?_
       refine tkG rfl rfl rfl rfl (PE.move rfl) rfl ?_
       refine tkG rfl rfl rfl rfl (PE.move rfl) rfl ?_
       refine tkG rfl rfl rfl rfl (PE.indexAddr el42 rfl rfl (by omega) (by omega)) rfl ?_
       refine ldG rfl rfl rfl rfl rfl (lf0 (x := .int .i64 rr) sc3 (by simp [irows, hrr]; rfl) rfl) rfl ?_
       refine sy_bg ?_
       refine clVG rfl rfl rfl rfl cal100 rfl rfl (c_rAfter t ht s hs rr q true ba oa ca hr0 hq (can_le hcan) _ _) ?_
       refine bg (fun w hs => ⟨trivial, trivial, trivial, (lhA [_, _, _, _, _, _, _, _, _, _, _] ag37 rfl rfl rfl) w hs, trivial, trivial, trivial⟩) ?_
       refine sy_bg ?_
       refine clVG rfl rfl rfl rfl cal84 rfl rfl (c_rIndex t ht _ hnb _ _ _) ?_
       refine bg (fun w hs => ⟨trivial, trivial⟩) ?_
       refine tkG rfl rfl rfl rfl (PE.indexAddr el80 rfl rfl (by have := ixr_lt hnb; omega) (by have := ixr_lt hnb; omega)) rfl ?_
       refine ldG rfl rfl rfl rfl rfl (lf0 (x := .bool (bo bf (ixr t (t.next s q true)))) sc4 (br_get (bo_get (by have := ixr_lt hnb; omega))) rfl) rfl ?_
       refine tkG rfl rfl rfl rfl (PE.pick rfl rfl rfl) rfl ?_
       refine tk rfl (PE.pick rfl rfl rfl) rfl ?_
       refine sy_dn ?_
       refine sy_nx ?_
       refine sy_cond rfl (fun hc1 => ?_) (fun hc1 => ?_)
       ·
        refine sy_seq ?_
        refine sy_tx' [0] rfl ?_
        refine sy_sq ?_
        refine sp rfl (PE.assign rfl) rfl ?_
        refine sy_sn ?_
        refine sy_nx ?_
        refine sy_ret ?_
        refine sy_br ?_
        refine sy_tr ?_
        refine sy_tr ?_
        refine sy_br ?_
        refine sy_tr ?_
        exact sy_return (vs := [_]) rfl (.cons (RV.tmp rfl) .nil) rfl ⟨congrArg Value.bool (by
            first
              | exact hres.symm
              | exact (List.any_eq_true.2 ⟨q, List.mem_of_getElem? hcl, hp⟩).symm
              | exact (List.any_eq_true.2 ⟨q, List.mem_of_getElem? hcl, hp.trans hc1⟩).symm), rfl, rfl⟩ (fun _ h => by repeat first | exact h | replace h := St.tail h | replace h := St.ftail h | replace h := St.drop h)
       ·
        refine sy_skip ?_
        refine sy_bn ?_
        refine sy_nx ?_
        refine sy_tx' [0, 1, 2] rfl ?_
        refine sy_sq ?_
        refine sp rfl (PE.move rfl) rfl ?_
        refine sy_sq ?_
        refine sp rfl (PE.add rfl rfl (by omega)) rfl ?_
        refine sy_sq ?_
        refine sp rfl (PE.assign rfl) rfl ?_
        refine sy_sn ?_
        refine sy_nx ?_
        exact sy_next ⟨k + 1, by omega, fun j q' hj hq' => by
          rcases Nat.lt_or_ge j k with h1 | h1
          · exact hno j q' h1 hq'
          · obtain rfl : j = k := by omega
            rw [hcl] at hq'; cases hq'; first | exact hp | exact hp.trans hc1⟩ (by dsimp only; omega) (by repeat' first | exact Sub.nil | apply Sub.cons | rfl | (simp [lk]; omega)) (fun _ h => h)
    ·
     have hp : fedP t nw bf n s q = false := by unfold fedP; rw [g36]; rfl
     refine tkN rfl rfl rfl rfl rfl rfl rfl rfl ?_
     refine tkN rfl rfl rfl rfl rfl rfl rfl rfl ?_
     refine tkN rfl rfl rfl rfl rfl rfl rfl rfl ?_
     refine tkU rfl rfl rfl rfl rfl rfl rfl ?_
     refine ldU rfl rfl rfl rfl rfl rfl rfl ?_
     refine tkU rfl rfl rfl rfl rfl rfl rfl ?_
     refine ldU rfl rfl rfl rfl rfl rfl rfl ?_
     refine tkU rfl rfl rfl rfl rfl rfl rfl ?_
     refine tkN rfl rfl rfl rfl rfl rfl rfl rfl ?_
     refine tkN rfl rfl rfl rfl rfl rfl rfl rfl ?_
     refine tkU rfl rfl rfl rfl rfl rfl rfl ?_
     refine ldU rfl rfl rfl rfl rfl rfl rfl ?_
     refine ldU rfl rfl rfl rfl rfl rfl rfl ?_
     refine ldU rfl rfl rfl rfl rfl rfl rfl ?_
     refine tkU rfl rfl rfl rfl rfl rfl rfl ?_
     refine tkU rfl rfl rfl rfl rfl rfl rfl ?_
     refine tkU rfl rfl rfl rfl rfl rfl rfl ?_
     refine ldU rfl rfl rfl rfl rfl rfl rfl ?_
     refine sy_bg ?_
     refine spU rfl rfl rfl rfl rfl rfl rfl ?_
     refine bg (fun w hs => ⟨trivial, trivial, trivial, ((fun _ _ => True.intro)) w hs, trivial, trivial, trivial⟩) ?_
     refine sy_bg ?_
     refine spU rfl rfl rfl rfl rfl rfl rfl ?_
     refine bg (fun w hs => ⟨trivial, trivial⟩) ?_
     refine tkU rfl rfl rfl rfl rfl rfl rfl ?_
     refine ldU rfl rfl rfl rfl rfl rfl rfl ?_
     refine tkN rfl rfl rfl rfl rfl rfl rfl rfl ?_
     refine tk rfl (PE.pick rfl rfl rfl) rfl ?_
     refine sy_dn ?_
     refine sy_nx ?_
     refine sy_condF rfl ?_
     refine sy_skip ?_
     refine sy_bn ?_
     refine sy_nx ?_
     refine sy_tx' [0, 1, 2] rfl ?_
     refine sy_sq ?_
     refine sp rfl (PE.move rfl) rfl ?_
     refine sy_sq ?_
     refine sp rfl (PE.add rfl rfl (by omega)) rfl ?_
     refine sy_sq ?_
     refine sp rfl (PE.assign rfl) rfl ?_
     refine sy_sn ?_
     refine sy_nx ?_
     exact sy_next ⟨k + 1, by omega, fun j q' hj hq' => by
       rcases Nat.lt_or_ge j k with h1 | h1
       · exact hno j q' h1 hq'
       · obtain rfl : j = k := by omega
         rw [hcl] at hq'; cases hq'; first | exact hp | exact hp.trans hc1⟩ (by dsimp only; omega) (by repeat' first | exact Sub.nil | apply Sub.cons | rfl | (simp [lk]; omega)) (fun _ h => h)
   ·
    try simp only [decide_eq_true_eq, decide_eq_false_iff_not, Bool.and_eq_true, Bool.or_eq_true, Bool.not_eq_true', Int.not_le, Int.not_lt] at hc0
    obtain rfl : k = (canL t s).length := by omega
    have hres : fedB t nw bf n s = false := List.any_eq_false.2 fun q hq => by
      obtain ⟨j, hj⟩ := List.getElem?_of_mem hq
      rw [hno j q (List.getElem?_eq_some_iff.1 hj).1 hj]; simp
    refine sy_exit ?_
    refine sy_tx ?_
    refine sy_tx ?_
    refine sy_bx ?_
    refine sy_nx ?_
    refine sy_seq ?_
    refine sy_tx' [0] rfl ?_
    refine sy_sq ?_
    refine sp rfl (PE.assign rfl) rfl ?_
    refine sy_sn ?_
    refine sy_nx ?_
    refine sy_ret ?_
    exact sy_return (vs := [_]) rfl (.cons (RV.tmp rfl) .nil) rfl ⟨congrArg Value.bool (by
        first
          | exact hres.symm
          | exact (List.any_eq_true.2 ⟨q, List.mem_of_getElem? hcl, hp⟩).symm
          | exact (List.any_eq_true.2 ⟨q, List.mem_of_getElem? hcl, hp.trans hc1⟩).symm), rfl, rfl⟩ (fun _ h => by repeat first | exact h | replace h := St.tail h | replace h := St.ftail h | replace h := St.drop h)

theorem c_rSolved (t : Twn) (ht : t.ok) (ba oa ca : Nat) (H : Heap) (R : Facts) [hR : MemRows (some ⟨ba, oa, none⟩) 2 (rrows t.rats) R] :
    Fn Try.prog 22 [t.v (t.sl (some ⟨ba, oa, none⟩) ca)] H R (fun v H' R' => ∃ b la, SolR t la ∧ v = .slice (some ⟨b, 0, none⟩) t.nst t.nst ∧ H' = (b, cel 3 (ints la)) :: H ∧ R' = R) := by
  have hnst := nst_le ht
  refine fn_of Try.func22 rfl Try.ntmps22 rfl ?_
  refine sy_seq ?_
  refine sy_tx' [0, 1] rfl ?_
  refine sy_sq ?_
  refine bx rfl rfl rfl (fun b1 => ?_)
  refine sy_sq ?_
  refine sp rfl (PE.assign rfl) rfl ?_
  refine sy_sn ?_
  refine sy_nx ?_
  refine sy_seq ?_
  refine sy_tx' [0, 1, 2] rfl ?_
  refine sy_sq ?_
  refine spL rfl rfl (lhA [_, _, _, _, _, _, _, _, _, _, _] ag37 rfl rfl rfl) rfl ?_
  refine sy_sq ?_
  refine cl rfl cal85 rfl rfl (c_rStates t ht _ _ _) ?_
  rintro _ _ R1 ⟨oS, rfl, rfl, hR1⟩
  obtain rfl := hR1.symm
  obtain ⟨aS, cS, hoS, hfS⟩ := oS.freeze
  rw [hoS]
  refine Sy.heap (fun w h => hfS h) ?_
  rw [show (srows (sts t)).length = t.nst from by rw [srows, List.length_map, sts_len]]
  refine sy_sq ?_
  refine sp rfl (PE.assign rfl) rfl ?_
  refine sy_sn ?_
  refine sy_nx ?_
  refine sy_seq ?_
  refine sy_tx' [0, 1, 2, 3] rfl ?_
  refine sy_sq ?_
  refine sp rfl (PE.move rfl) rfl ?_
  refine sy_sq ?_
  refine sp rfl (PE.lenSl isl82 rfl) rfl ?_
  refine sy_sq ?_
  refine mkS rfl ap42 zl3 rfl rfl (Nat.le_refl _) ⟨by omega, by omega⟩ rfl (fun b18 => ?_)
  rw [repl0]
  refine sy_sq ?_
  refine sp rfl (PE.assign rfl) rfl ?_
  refine sy_sn ?_
  refine sy_nx ?_
  refine sy_seq ?_
  refine sy_tx' [0, 1, 2, 3] rfl ?_
  refine sy_sq ?_
  refine sp rfl (PE.move rfl) rfl ?_
  refine sy_sq ?_
  refine sp rfl (PE.lenSl isl82 rfl) rfl ?_
  refine sy_sq ?_
  refine mkS rfl ap80 zl4 rfl rfl (Nat.le_refl _) ⟨by omega, by omega⟩ rfl (fun b21 => ?_)
  rw [rep_b]
  refine sy_sq ?_
  refine sp rfl (PE.assign rfl) rfl ?_
  refine sy_sn ?_
  refine sy_nx ?_
  refine sy_seq ?_
  refine sy_seq ?_
  refine sy_tx' [0] rfl ?_
  refine sy_sq ?_
  refine sp rfl (PE.assign rfl) rfl ?_
  refine sy_sn ?_
  refine sy_nx ?_
  refine sy_block ?_
  refine sy_loop (ι := {x : Nat × List Bool × List Int // x.1 ≤ t.nst ∧ x.2.1.length = t.nst ∧ x.2.2.length = t.nst ∧ ∀ j, j < x.1 → bo x.2.1 j = true ∧ io x.2.2 j = -1}) (fun x => ⟨[(1, .pointer (some ⟨b1, 0, none⟩)), (3, .slice aS t.nst cS), (4, .slice (some ⟨b18, 0, none⟩) t.nst t.nst), (5, .slice (some ⟨b21, 0, none⟩) t.nst t.nst), (6, .int .i64 x.1.1)], (b21, cel 4 (bools x.1.2.1 ++ [])) :: (b18, cel 3 (ints (x.1.2.2))) :: (b1, cel 37 (twl t (t.sl (some ⟨ba, oa, none⟩) ca))) :: H, RowsA aS 3 (srows (sts t)) :: R⟩) (fun x => t.nst - x.1.1) ⟨(0, List.replicate t.nst false, List.replicate t.nst 0), by omega, by simp, by simp, by omega⟩ ?_ (fun x => ?_)
  ·
   exact sy_at (by repeat' first | exact Sub.nil | apply Sub.cons | rfl | (simp [lk]; omega)) (fun _ h => h)
  ·
   obtain ⟨⟨i, bf, la⟩, hi, hbl, hll, hin⟩ := x
   dsimp only at hi hbl hll hin ⊢
   refine sy_seq ?_
   refine sy_seq ?_
   refine sy_tx' [0, 1, 2, 3] rfl ?_
   refine sy_sq ?_
   refine sp rfl (PE.move rfl) rfl ?_
   refine sy_sq ?_
   refine sp rfl (PE.move rfl) rfl ?_
   refine sy_sq ?_
   refine sp rfl (PE.lenSl isl82 rfl) rfl ?_
   refine sy_sq ?_
   refine sp rfl (PE.lss rfl rfl) rfl ?_
   refine sy_sn ?_
   refine sy_nx ?_
   refine sy_cond rfl (fun hc0 => ?_) (fun hc0 => ?_)
   ·
    try simp only [decide_eq_true_eq, decide_eq_false_iff_not, Bool.and_eq_true, Bool.or_eq_true, Bool.not_eq_true', Int.not_le, Int.not_lt] at hc0
    refine sy_skip ?_
    refine sy_nx ?_
    refine sy_seq ?_
    refine sy_block ?_
    refine sy_seq ?_
    refine sy_tx' [0, 1, 2, 3] rfl ?_
    refine sy_sq ?_
    refine sp rfl (PE.move rfl) rfl ?_
    refine sy_sq ?_
    refine sp rfl (PE.move rfl) rfl ?_
    refine sy_sq ?_
    refine sp rfl (PE.indexAddr el80 rfl rfl (by omega) (by omega)) rfl ?_
    refine sy_sq ?_
    refine stoE (l' := bools (bf.set i true) ++ []) rfl rfl rfl cn4 rfl rfl rfl (spl_b (i := i) (by omega) (by omega)) (by rw [bool_len]; show 0 + ((i : Nat) : Int).toNat * 1 + 1 ≤ _; omega) ?_
    refine sy_sn ?_
    refine sy_nx ?_
    refine sy_tx' [0, 1, 2, 3] rfl ?_
    refine sy_sq ?_
    refine sp rfl (PE.move rfl) rfl ?_
    refine sy_sq ?_
    refine sp rfl (PE.move rfl) rfl ?_
    refine sy_sq ?_
    refine sp rfl (PE.indexAddr el42 rfl rfl (by omega) (by omega)) rfl ?_
    refine sy_sq ?_
    refine stoE (l' := ints (la.set i (-1))) rfl rfl rfl cn3 rfl rfl rfl (spl_i (i := i) (by omega) (by omega)) (by rw [ints_length]; show 0 + ((i : Nat) : Int).toNat * 1 + 1 ≤ _; omega) ?_
    refine sy_sn ?_
    refine sy_bn ?_
    refine sy_nx ?_
    refine sy_tx' [0, 1, 2] rfl ?_
    refine sy_sq ?_
    refine sp rfl (PE.move rfl) rfl ?_
    refine sy_sq ?_
    refine sp rfl (PE.add rfl rfl (by omega)) rfl ?_
    refine sy_sq ?_
    refine sp rfl (PE.assign rfl) rfl ?_
    refine sy_sn ?_
    refine sy_nx ?_
    exact sy_next ⟨(i + 1, bf.set i true, la.set i (-1)), by omega, by simp [hbl], by simp [hll], fun j hj => by
      rw [bo_set (by omega), io_set (by omega)]
      by_cases e : i = j
      · simp [e]
      · simp only [e, decide_false, cond_false]; exact hin j (by dsimp only at hj; omega)⟩ (by dsimp only; omega) (by repeat' first | exact Sub.nil | apply Sub.cons | rfl | (simp [lk]; omega)) (fun _ h => h)
   ·
    try simp only [decide_eq_true_eq, decide_eq_false_iff_not, Bool.and_eq_true, Bool.or_eq_true, Bool.not_eq_true', Int.not_le, Int.not_lt] at hc0
    obtain rfl : i = t.nst := by omega
    refine sy_exit ?_
    refine sy_tx ?_
    refine sy_tx ?_
    refine sy_bx ?_
    refine sy_nx ?_
    refine sy_seq ?_
    refine sy_tx' [0] rfl ?_
    refine sy_sq ?_
    refine sp rfl (PE.assign rfl) rfl ?_
    refine sy_sn ?_
    refine sy_nx ?_
    refine sy_block ?_
    refine Sy.heap (fun w h => St.boolRows h) ?_
    refine sy_loop (ι := {x : Nat × (Nat × Nat × Nat) × List Bool × List Int // x.2.2.1.length = t.nst ∧ x.2.2.2.length = t.nst ∧ (∀ s, s.right t = true → (bo x.2.2.1 (ixr t s) = true ↔ Bf t x.1 s)) ∧ (∀ s, s.right t = true → PL t x.1 s (io x.2.2.2 (ixr t s))) ∧ (x.1 = 0 ∨ x.1 + x.2.2.1.count true ≤ t.nst + 1)}) (fun x => ⟨[(1, .pointer (some ⟨b1, 0, none⟩)), (3, .slice aS t.nst cS), (4, .slice (some ⟨b18, 0, none⟩) t.nst t.nst), (5, .slice (some ⟨x.1.2.1.1, x.1.2.1.2.1, none⟩) t.nst x.1.2.1.2.2), (7, .int .i64 x.1.1)], (b18, cel 3 (ints (x.1.2.2.2))) :: (b1, cel 37 (twl t (t.sl (some ⟨ba, oa, none⟩) ca))) :: H, RowsA (some ⟨x.1.2.1.1, x.1.2.1.2.1, none⟩) 1 (brows x.1.2.2.1) :: RowsA aS 3 (srows (sts t)) :: R⟩) (fun x => t.nst + 2 - x.1.1) ⟨(0, (b21, 0, t.nst), bf, la), hbl, hll, fun s hs => ⟨fun _ => trivial, fun _ => (hin _ (ixr_lt hs)).1⟩, fun s hs => .inl ⟨(hin _ (ixr_lt hs)).2, by omega⟩, .inl rfl⟩ ?_ (fun x => ?_)
    ·
     exact sy_at (by repeat' first | exact Sub.nil | apply Sub.cons | rfl | (simp [lk]; omega)) (fun _ h => h)
    ·
     clear hin hbl hll hi hc0
     obtain ⟨⟨n, ⟨bb, ob, cb⟩, bf, la⟩, hbl, hll, hbf, hpl, hcn⟩ := x
     dsimp only at hbl hll hbf hpl hcn ⊢
     have hcl := List.count_le_length (a := true) (l := bf)
     refine sy_seq ?_
     refine sy_block ?_
     refine sy_seq ?_
     refine sy_tx' [0, 1, 2, 3] rfl ?_
     refine sy_sq ?_
     refine bsl0 rfl sl80 rfl (fun o36 ho36 => ?_)
     refine sy_sq ?_
     refine sp rfl (PE.move rfl) rfl ?_
     refine sy_sq ?_
     refine apOh (news := brows bf) o36 rfl ap80 rfl rfl (rowsF) (by simp [brows, hbl]) (by simp [onecells, brows, brow, Value.oneCell']) ⟨by simp [brows]; omega, by simp [brows]; omega⟩ rfl ho36 (fun oN hoN => ?_)
     obtain ⟨bn, cN, jn, hN1, hN2⟩ := oN.own hoN
     rw [hN1, hN2, List.nil_append, brows_flat, show (brows bf).length = t.nst from by simp [brows, hbl]]
     refine sy_sq ?_
     refine sp rfl (PE.assign rfl) rfl ?_
     refine sy_sn ?_
     refine sy_nx ?_
     refine sy_seq ?_
     refine sy_seq ?_
     refine sy_tx' [0] rfl ?_
     refine sy_sq ?_
     refine sp rfl (PE.assign rfl) rfl ?_
     refine sy_sn ?_
     refine sy_nx ?_
     refine sy_block ?_
     refine sy_loop (ι := {x : List Bool × Bool // x.1.length = t.nst ∧ (∀ s, s.right t = true → bo x.1 (ixr t s) = true → bo bf (ixr t s) = true) ∧ (∀ s, Srv t n s → bo x.1 (ixr t s) = true) ∧ (x.2 = false → ∀ s, s.right t = true → bo x.1 (ixr t s) = true → fedB t x.1 bf n s = true)}) (fun x => ⟨[(1, .pointer (some ⟨b1, 0, none⟩)), (3, .slice aS t.nst cS), (4, .slice (some ⟨b18, 0, none⟩) t.nst t.nst), (5, .slice (some ⟨bb, ob, none⟩) t.nst cb), (7, .int .i64 n), (8, .slice (some ⟨bn, 0, none⟩) t.nst cN), (9, .bool x.1.2)], (bn, cel 4 (bools (x.1.1) ++ jn)) :: (b18, cel 3 (ints (la))) :: (b1, cel 37 (twl t (t.sl (some ⟨ba, oa, none⟩) ca))) :: H, RowsA (some ⟨bb, ob, none⟩) 1 (brows bf) :: RowsA aS 3 (srows (sts t)) :: R⟩) (fun x => 2 * x.1.1.count true + if x.1.2 = true then 1 else 0) ⟨(bf, true), hbl, fun _ _ h => h, fun s h => (hbf s (srv_right h)).2 (by cases n with | zero => exact trivial | succ n => exact srv_anti h), by simp⟩ ?_ (fun x => ?_)
     ·
      exact sy_at (by repeat' first | exact Sub.nil | apply Sub.cons | rfl | (simp [lk]; omega)) (fun _ h => h)
     ·
      obtain ⟨⟨nw, ch⟩, hnl, hsub, hsrv, hfix⟩ := x
      dsimp only at hnl hsub hsrv hfix ⊢
      refine sy_seq ?_
      refine sy_seq ?_
      refine sy_tx' [0] rfl ?_
      refine sy_sq ?_
      refine sp rfl (PE.move rfl) rfl ?_
      refine sy_sn ?_
      refine sy_nx ?_
      refine sy_cond rfl (fun hc1 => ?_) (fun hc1 => ?_)
      ·
       subst hc1
       refine sy_skip ?_
       refine sy_nx ?_
       refine sy_block ?_
       refine sy_seq ?_
       refine sy_tx' [0] rfl ?_
       refine sy_sq ?_
       refine sp rfl (PE.assign rfl) rfl ?_
       refine sy_sn ?_
       refine sy_nx ?_
       refine sy_seq ?_
       refine sy_tx' [0] rfl ?_
       refine sy_sq ?_
       refine sp rfl (PE.assign rfl) rfl ?_
       refine sy_sn ?_
       refine sy_nx ?_
       refine sy_block ?_
       refine sy_loop (ι := {x : Nat × List Bool × Bool // x.1 ≤ t.nst ∧ (x.2.1.length = t.nst ∧ (∀ s, s.right t = true → bo x.2.1 (ixr t s) = true → bo bf (ixr t s) = true) ∧ (∀ s, Srv t n s → bo x.2.1 (ixr t s) = true)) ∧ (x.2.2 = false → x.2.1 = nw ∧ ∀ s, s.right t = true → ixr t s < x.1 → bo nw (ixr t s) = true → fedB t nw bf n s = true) ∧ (x.2.2 = true → x.2.1.count true < nw.count true)}) (fun x => ⟨[(1, .pointer (some ⟨b1, 0, none⟩)), (3, .slice aS t.nst cS), (4, .slice (some ⟨b18, 0, none⟩) t.nst t.nst), (5, .slice (some ⟨bb, ob, none⟩) t.nst cb), (7, .int .i64 n), (8, .slice (some ⟨bn, 0, none⟩) t.nst cN), (9, .bool x.1.2.2), (10, .int .i64 x.1.1)], (bn, cel 4 (bools (x.1.2.1) ++ jn)) :: (b18, cel 3 (ints (la))) :: (b1, cel 37 (twl t (t.sl (some ⟨ba, oa, none⟩) ca))) :: H, RowsA (some ⟨bb, ob, none⟩) 1 (brows bf) :: RowsA aS 3 (srows (sts t)) :: R⟩) (fun x => t.nst - x.1.1) ⟨(0, nw, false), by omega, ⟨hnl, hsub, hsrv⟩, fun _ => ⟨rfl, by omega⟩, by simp⟩ ?_ (fun x => ?_)
       ·
        exact sy_at (by repeat' first | exact Sub.nil | apply Sub.cons | rfl | (simp [lk]; omega)) (fun _ h => h)
       ·
        obtain ⟨⟨i, nx, cg⟩, hi, ⟨hxl, hxs, hxv⟩, hx0, hx1⟩ := x
        dsimp only at hi hxl hxs hxv hx0 hx1 ⊢
        refine sy_seq ?_
        refine sy_seq ?_
        refine sy_tx' [0, 1, 2, 3] rfl ?_
        refine sy_sq ?_
        refine sp rfl (PE.move rfl) rfl ?_
        refine sy_sq ?_
        refine sp rfl (PE.move rfl) rfl ?_
        refine sy_sq ?_
        refine sp rfl (PE.lenSl isl82 rfl) rfl ?_
        refine sy_sq ?_
        refine sp rfl (PE.lss rfl rfl) rfl ?_
        refine sy_sn ?_
        refine sy_nx ?_
        refine sy_cond rfl (fun hc2 => ?_) (fun hc2 => ?_)
        ·
         try simp only [decide_eq_true_eq, decide_eq_false_iff_not, Bool.and_eq_true, Bool.or_eq_true, Bool.not_eq_true', Int.not_le, Int.not_lt] at hc2
         obtain ⟨s, hsi⟩ : ∃ s, (sts t)[i]? = some s := ⟨_, List.getElem?_eq_getElem (by rw [sts_len]; omega)⟩
         have hs := sts_right ht (List.mem_of_getElem? hsi)
         have hix := ixr_at hsi hs
         have hnx := bo_get (l := nx) (i := i) (by omega)
         refine sy_addr (a := aS) (sz := 3) (rows := srows (sts t)) (by intro h0; simp [srows] at h0; simp [h0] at hsi) (fun bS fS he => ?_)
         subst he
         refine sy_skip ?_
         refine sy_nx ?_
         refine sy_seq ?_
         refine sy_block ?_
         refine sy_seq ?_
         refine sy_draw [0, 0, 3, 7, 15, 31, 31, 31, 223, 479, 31, 31, 31, 8191, 16383, 32767] (.tk 0 (.tk 1 (.tk 2 (.ld 3 (.tk 4 (.ld 5 (.tk 6 (.tk 7 (.tk 8 (.ld 9 (.tk 10 (.tk 11 (.tk 12 (.big 13 (.tk 14 (.tk 15 .done)))))))))))))))) mixed (by kernel_rfl) ?_
         refine tk rfl (PE.move rfl) rfl ?_
         refine tk rfl (PE.move rfl) rfl ?_
         refine tk rfl (PE.indexAddr el80 rfl rfl (by omega) (by omega)) rfl ?_
         refine ld rfl rfl (lh (v := .bool (bo nx i)) sc4 rfl (bl_at hnx (by omega))) rfl ?_
         refine tk rfl (PE.move rfl) rfl ?_
         refine sy_case (t := 50) rfl (fun g50 => ?_) (fun g50 => ?_)
         ·
          refine ldG rfl rfl rfl rfl rfl (lhA [_, _, _, _, _, _, _, _, _, _, _] ag37 rfl rfl rfl) rfl ?_
          refine tkG rfl rfl rfl rfl (PE.move rfl) rfl ?_
          refine tkG rfl rfl rfl rfl (PE.move rfl) rfl ?_
          refine tkG rfl rfl rfl rfl (PE.indexAddr el82 rfl rfl (by omega) (by omega)) rfl ?_
          refine ldG rfl rfl rfl rfl rfl (lfA (row := srow s) ag34 (sr_get hsi) rfl) rfl ?_
          refine tkG rfl rfl rfl rfl (PE.move rfl) rfl ?_
          refine tkG rfl rfl rfl rfl (PE.move rfl) rfl ?_
          refine tkG rfl rfl rfl rfl (PE.move rfl) rfl ?_
          refine sy_bg ?_
          refine clVG rfl rfl rfl rfl cal86 rfl rfl (c_rFed t ht s hs nx bf jn n hxl hbl ba oa ca bn cN bb ob cb _ _) ?_
          refine bg (fun w hs => ⟨trivial, trivial, trivial, trivial⟩) ?_
          refine tkG rfl rfl rfl rfl (PE.not rfl) rfl ?_
          refine tk rfl (PE.pick rfl rfl rfl) rfl ?_
          refine sy_dn ?_
          refine sy_nx ?_
          refine sy_cond rfl (fun hc3 => ?_) (fun hc3 => ?_)
          ·
           try simp only [decide_eq_true_eq, decide_eq_false_iff_not, Bool.and_eq_true, Bool.or_eq_true, Bool.not_eq_true', Int.not_le, Int.not_lt] at hc3
           replace hc3 : fedB t nx bf n s = false := by simpa using hc3
           refine sy_seq ?_
           refine sy_tx' [0, 1, 2, 3] rfl ?_
           refine sy_sq ?_
           refine sp rfl (PE.move rfl) rfl ?_
           refine sy_sq ?_
           refine sp rfl (PE.move rfl) rfl ?_
           refine sy_sq ?_
           refine sp rfl (PE.indexAddr el80 rfl rfl (by omega) (by omega)) rfl ?_
           refine sy_sq ?_
           refine stoE (l' := bools (nx.set i false) ++ jn) rfl rfl rfl cn4 rfl rfl rfl (spl_b (i := i) (by omega) (by omega)) (by rw [bool_len]; show 0 + ((i : Nat) : Int).toNat * 1 + 1 ≤ _; omega) ?_
           refine sy_sn ?_
           refine sy_nx ?_
           refine sy_tx' [0] rfl ?_
           refine sy_sq ?_
           refine sp rfl (PE.assign rfl) rfl ?_
           refine sy_sn ?_
           refine sy_bn ?_
           refine sy_nx ?_
           refine sy_tx' [0, 1, 2] rfl ?_
           refine sy_sq ?_
           refine sp rfl (PE.move rfl) rfl ?_
           refine sy_sq ?_
           refine sp rfl (PE.add rfl rfl (by omega)) rfl ?_
           refine sy_sq ?_
           refine sp rfl (PE.assign rfl) rfl ?_
           refine sy_sn ?_
           refine sy_nx ?_
           first
             | exact sy_next ⟨(i + 1, nx.set i false, true), by omega, ⟨by simp [hxl], fun u hu h => by
                 rw [bo_set (by omega)] at h
                 by_cases e : i = ixr t u
                 · simp [e] at h
                 · simp only [e, decide_false, cond_false] at h; exact hxs u hu h, fun u h => by
                 rw [bo_set (by omega)]
                 by_cases e : i = ixr t u
                 · obtain rfl := ixr_inj hs (srv_right h) (hix.trans e)
                   rw [fed_srv ht (fun s hs h => (hbf s hs).2 h) hxv h] at hc3; cases hc3
                 · simp only [e, decide_false, cond_false]; exact hxv u h⟩, by simp, fun _ => by
                 have h1 := cnt_set (l := nx) (i := i) (by omega) g50
                 cases cg with
                 | true => have := hx1 rfl; dsimp only; omega
                 | false => rw [(hx0 rfl).1] at h1 ⊢; dsimp only; omega⟩ (by dsimp only; omega) (by repeat' first | exact Sub.nil | apply Sub.cons | rfl | (simp [lk]; omega)) (fun _ h => h)
             | exact sy_next ⟨(i + 1, nx, cg), by omega, ⟨hxl, hxs, hxv⟩, fun h => ⟨(hx0 h).1, fun u hu h2 h3 => by
                 rcases Nat.lt_or_ge (ixr t u) i with h4 | h4
                 · exact (hx0 h).2 u hu h4 h3
                 · obtain rfl := ixr_inj hs hu (by dsimp only at h2; omega)
                   first
                     | (rw [← (hx0 h).1]; exact hc3)
                     | (rw [← (hx0 h).1, hix, g50] at h3; cases h3)⟩, hx1⟩ (by dsimp only; omega) (by repeat' first | exact Sub.nil | apply Sub.cons | rfl | (simp [lk]; omega)) (fun _ h => h)
          ·
           try simp only [decide_eq_true_eq, decide_eq_false_iff_not, Bool.and_eq_true, Bool.or_eq_true, Bool.not_eq_true', Int.not_le, Int.not_lt] at hc3
           replace hc3 : fedB t nx bf n s = true := by simpa using hc3
           refine sy_skip ?_
           refine sy_bn ?_
           refine sy_nx ?_
           refine sy_tx' [0, 1, 2] rfl ?_
           refine sy_sq ?_
           refine sp rfl (PE.move rfl) rfl ?_
           refine sy_sq ?_
           refine sp rfl (PE.add rfl rfl (by omega)) rfl ?_
           refine sy_sq ?_
           refine sp rfl (PE.assign rfl) rfl ?_
           refine sy_sn ?_
           refine sy_nx ?_
           first
             | exact sy_next ⟨(i + 1, nx.set i false, true), by omega, ⟨by simp [hxl], fun u hu h => by
                 rw [bo_set (by omega)] at h
                 by_cases e : i = ixr t u
                 · simp [e] at h
                 · simp only [e, decide_false, cond_false] at h; exact hxs u hu h, fun u h => by
                 rw [bo_set (by omega)]
                 by_cases e : i = ixr t u
                 · obtain rfl := ixr_inj hs (srv_right h) (hix.trans e)
                   rw [fed_srv ht (fun s hs h => (hbf s hs).2 h) hxv h] at hc3; cases hc3
                 · simp only [e, decide_false, cond_false]; exact hxv u h⟩, by simp, fun _ => by
                 have h1 := cnt_set (l := nx) (i := i) (by omega) g50
                 cases cg with
                 | true => have := hx1 rfl; dsimp only; omega
                 | false => rw [(hx0 rfl).1] at h1 ⊢; dsimp only; omega⟩ (by dsimp only; omega) (by repeat' first | exact Sub.nil | apply Sub.cons | rfl | (simp [lk]; omega)) (fun _ h => h)
             | exact sy_next ⟨(i + 1, nx, cg), by omega, ⟨hxl, hxs, hxv⟩, fun h => ⟨(hx0 h).1, fun u hu h2 h3 => by
                 rcases Nat.lt_or_ge (ixr t u) i with h4 | h4
                 · exact (hx0 h).2 u hu h4 h3
                 · obtain rfl := ixr_inj hs hu (by dsimp only at h2; omega)
                   first
                     | (rw [← (hx0 h).1]; exact hc3)
                     | (rw [← (hx0 h).1, hix, g50] at h3; cases h3)⟩, hx1⟩ (by dsimp only; omega) (by repeat' first | exact Sub.nil | apply Sub.cons | rfl | (simp [lk]; omega)) (fun _ h => h)
         ·
          refine ldN rfl rfl rfl rfl rfl rfl rfl rfl ?_
          refine tkN rfl rfl rfl rfl rfl rfl rfl rfl ?_
          refine tkN rfl rfl rfl rfl rfl rfl rfl rfl ?_
          refine tkN rfl rfl rfl rfl rfl rfl rfl rfl ?_
          refine ldN rfl rfl rfl rfl rfl rfl rfl rfl ?_
          refine tkN rfl rfl rfl rfl rfl rfl rfl rfl ?_
          refine tkN rfl rfl rfl rfl rfl rfl rfl rfl ?_
          refine tkN rfl rfl rfl rfl rfl rfl rfl rfl ?_
          refine sy_bg ?_
          refine spN rfl rfl rfl rfl rfl rfl rfl rfl ?_
          refine bg (fun w hs => ⟨trivial, trivial, trivial, trivial⟩) ?_
          refine tkN rfl rfl rfl rfl rfl rfl rfl rfl ?_
          refine tk rfl (PE.pick rfl rfl rfl) rfl ?_
          refine sy_dn ?_
          refine sy_nx ?_
          refine sy_condF rfl ?_
          refine sy_skip ?_
          refine sy_bn ?_
          refine sy_nx ?_
          refine sy_tx' [0, 1, 2] rfl ?_
          refine sy_sq ?_
          refine sp rfl (PE.move rfl) rfl ?_
          refine sy_sq ?_
          refine sp rfl (PE.add rfl rfl (by omega)) rfl ?_
          refine sy_sq ?_
          refine sp rfl (PE.assign rfl) rfl ?_
          refine sy_sn ?_
          refine sy_nx ?_
          first
            | exact sy_next ⟨(i + 1, nx.set i false, true), by omega, ⟨by simp [hxl], fun u hu h => by
                rw [bo_set (by omega)] at h
                by_cases e : i = ixr t u
                · simp [e] at h
                · simp only [e, decide_false, cond_false] at h; exact hxs u hu h, fun u h => by
                rw [bo_set (by omega)]
                by_cases e : i = ixr t u
                · obtain rfl := ixr_inj hs (srv_right h) (hix.trans e)
                  rw [fed_srv ht (fun s hs h => (hbf s hs).2 h) hxv h] at hc3; cases hc3
                · simp only [e, decide_false, cond_false]; exact hxv u h⟩, by simp, fun _ => by
                have h1 := cnt_set (l := nx) (i := i) (by omega) g50
                cases cg with
                | true => have := hx1 rfl; dsimp only; omega
                | false => rw [(hx0 rfl).1] at h1 ⊢; dsimp only; omega⟩ (by dsimp only; omega) (by repeat' first | exact Sub.nil | apply Sub.cons | rfl | (simp [lk]; omega)) (fun _ h => h)
            | exact sy_next ⟨(i + 1, nx, cg), by omega, ⟨hxl, hxs, hxv⟩, fun h => ⟨(hx0 h).1, fun u hu h2 h3 => by
                rcases Nat.lt_or_ge (ixr t u) i with h4 | h4
                · exact (hx0 h).2 u hu h4 h3
                · obtain rfl := ixr_inj hs hu (by dsimp only at h2; omega)
                  first
                    | (rw [← (hx0 h).1]; exact hc3)
                    | (rw [← (hx0 h).1, hix, g50] at h3; cases h3)⟩, hx1⟩ (by dsimp only; omega) (by repeat' first | exact Sub.nil | apply Sub.cons | rfl | (simp [lk]; omega)) (fun _ h => h)
        ·
         try simp only [decide_eq_true_eq, decide_eq_false_iff_not, Bool.and_eq_true, Bool.or_eq_true, Bool.not_eq_true', Int.not_le, Int.not_lt] at hc2
         obtain rfl : i = t.nst := by omega
         refine sy_exit ?_
         refine sy_tx ?_
         refine sy_tx ?_
         refine sy_bx ?_
         refine sy_bn ?_
         refine sy_nx ?_
         exact sy_next ⟨(nx, cg), hxl, hxs, hxv, fun h u hu h2 => by
           dsimp only at h h2 ⊢
           rw [(hx0 h).1] at h2 ⊢
           exact (hx0 h).2 u hu (ixr_lt hu) h2⟩ (by
             dsimp only
             cases cg with
             | true => have := hx1 rfl; simp; omega
             | false => have e := congrArg (List.count true) (hx0 rfl).1; rw [e]; simp) (by repeat' first | exact Sub.nil | apply Sub.cons | rfl | (simp [lk]; omega)) (fun _ h => h)
      ·
       subst hc1
       have hnow : ∀ s, s.right t = true → (bo nw (ixr t s) = true ↔ Srv t n s) := fun s hs => ⟨fed_clo ht (fun s hs h => (hbf s hs).1 h) (hfix rfl) hs, hsrv s⟩
       refine sy_exit ?_
       refine sy_tx ?_
       refine sy_tx ?_
       refine sy_bx ?_
       refine sy_nx ?_
       refine sy_seq ?_
       refine sy_tx' [0, 1, 2] rfl ?_
       refine sy_sq ?_
       refine sp rfl (PE.move rfl) rfl ?_
       refine sy_sq ?_
       refine sp rfl (PE.gtr rfl rfl) rfl ?_
       refine sy_sq ?_
       refine sp rfl (PE.assign rfl) rfl ?_
       refine sy_sn ?_
       refine sy_nx ?_
       refine sy_seq ?_
       refine sy_seq ?_
       refine sy_tx' [0] rfl ?_
       refine sy_sq ?_
       refine sp rfl (PE.assign rfl) rfl ?_
       refine sy_sn ?_
       refine sy_nx ?_
       refine sy_block ?_
       refine sy_loop (ι := {x : Nat × List Int × Bool // x.1 ≤ t.nst ∧ x.2.1.length = t.nst ∧ (∀ s, s.right t = true → ixr t s < x.1 → PL t (n + 1) s (io x.2.1 (ixr t s))) ∧ (∀ s, s.right t = true → x.1 ≤ ixr t s → PL t n s (io x.2.1 (ixr t s))) ∧ (x.2.2 = true ↔ 0 < n ∧ ∀ j, j < x.1 → bo nw j = bo bf j)}) (fun x => ⟨[(1, .pointer (some ⟨b1, 0, none⟩)), (3, .slice aS t.nst cS), (4, .slice (some ⟨b18, 0, none⟩) t.nst t.nst), (5, .slice (some ⟨bb, ob, none⟩) t.nst cb), (7, .int .i64 n), (8, .slice (some ⟨bn, 0, none⟩) t.nst cN), (11, .bool x.1.2.2), (12, .int .i64 x.1.1)], (bn, cel 4 (bools (nw) ++ jn)) :: (b18, cel 3 (ints (x.1.2.1))) :: (b1, cel 37 (twl t (t.sl (some ⟨ba, oa, none⟩) ca))) :: H, RowsA (some ⟨bb, ob, none⟩) 1 (brows bf) :: RowsA aS 3 (srows (sts t)) :: R⟩) (fun x => t.nst - x.1.1) ⟨(0, la, decide ((0 : Int) < n)), by omega, hll, by omega, fun s hs _ => hpl s hs, by simp⟩ ?_ (fun x => ?_)
       ·
        exact sy_at (by repeat' first | exact Sub.nil | apply Sub.cons | rfl | (simp [lk]; omega)) (fun _ h => h)
       ·
        obtain ⟨⟨i, la, sm⟩, hi, hll, hpl1, hpl0, hsm⟩ := x
        dsimp only at hi hll hpl1 hpl0 hsm ⊢
        refine sy_seq ?_
        refine sy_seq ?_
        refine sy_tx' [0, 1, 2, 3] rfl ?_
        refine sy_sq ?_
        refine sp rfl (PE.move rfl) rfl ?_
        refine sy_sq ?_
        refine sp rfl (PE.move rfl) rfl ?_
        refine sy_sq ?_
        refine sp rfl (PE.lenSl isl82 rfl) rfl ?_
        refine sy_sq ?_
        refine sp rfl (PE.lss rfl rfl) rfl ?_
        refine sy_sn ?_
        refine sy_nx ?_
        refine sy_cond rfl (fun hc4 => ?_) (fun hc4 => ?_)
        ·
         try simp only [decide_eq_true_eq, decide_eq_false_iff_not, Bool.and_eq_true, Bool.or_eq_true, Bool.not_eq_true', Int.not_le, Int.not_lt] at hc4
         obtain ⟨s, hsi⟩ : ∃ s, (sts t)[i]? = some s := ⟨_, List.getElem?_eq_getElem (by rw [sts_len]; omega)⟩
         have hs := sts_right ht (List.mem_of_getElem? hsi)
         have hix := ixr_at hsi hs
         have hnx := bo_get (l := nw) (i := i) (by omega)
         have hbx := bo_get (l := bf) (i := i) (by omega)
         refine sy_skip ?_
         refine sy_nx ?_
         refine sy_seq ?_
         refine sy_block ?_
         refine sy_seq ?_
         refine sy_draw [0, 1, 3, 3, 15, 31, 3, 3, 195, 451, 1023, 2047, 4095] (.tk 0 (.tk 1 (.tk 2 (.tk 3 (.tk 4 (.ld 5 (.tk 6 (.tk 7 (.tk 8 (.ld 9 (.tk 10 (.tk 11 (.tk 12 .done))))))))))))) mixed (by kernel_rfl) ?_
         refine tk rfl (PE.move rfl) rfl ?_
         refine tk rfl (PE.move rfl) rfl ?_
         refine sy_case (t := 74) rfl (fun g74 => ?_) (fun g74 => ?_)
         ·
          subst g74
          refine tkG rfl rfl rfl rfl (PE.move rfl) rfl ?_
          refine tkG rfl rfl rfl rfl (PE.move rfl) rfl ?_
          refine tkG rfl rfl rfl rfl (PE.indexAddr el80 rfl rfl (by omega) (by omega)) rfl ?_
          refine ldG rfl rfl rfl rfl rfl (lh (v := .bool (bo nw i)) sc4 rfl (bl_at hnx (by omega))) rfl ?_
          refine tkG rfl rfl rfl rfl (PE.move rfl) rfl ?_
          refine tkG rfl rfl rfl rfl (PE.move rfl) rfl ?_
          refine tkG rfl rfl rfl rfl (PE.indexAddr el80 rfl rfl (by omega) (by omega)) rfl ?_
          refine ldG rfl rfl rfl rfl rfl (lf0 (x := .bool (bo bf i)) sc4 (br_get hbx) rfl) rfl ?_
          refine tkG rfl rfl rfl rfl (PE.eqlBool ub4 rfl rfl) rfl ?_
          refine tk rfl (PE.pick rfl rfl rfl) rfl ?_
          refine tk rfl (PE.assign rfl) rfl ?_
          refine sy_dn ?_
          refine sy_nx ?_
          refine sy_seq ?_
          refine sy_tx' [0, 1, 2, 3] rfl ?_
          refine sy_sq ?_
          refine sp rfl (PE.move rfl) rfl ?_
          refine sy_sq ?_
          refine sp rfl (PE.move rfl) rfl ?_
          refine sy_sq ?_
          refine sp rfl (PE.indexAddr el80 rfl rfl (by omega) (by omega)) rfl ?_
          refine sy_sq ?_
          refine spL rfl rfl (lh (v := .bool (bo nw i)) sc4 rfl (bl_at hnx (by omega))) rfl ?_
          refine sy_sn ?_
          refine sy_nx ?_
          refine sy_cond rfl (fun hc5 => ?_) (fun hc5 => ?_)
          ·
           try simp only [decide_eq_true_eq, decide_eq_false_iff_not, Bool.and_eq_true, Bool.or_eq_true, Bool.not_eq_true', Int.not_le, Int.not_lt] at hc5
           have hsv := (hnow s hs).1 (by rw [hix]; exact hc5)
           refine sy_tx' [0, 1, 2, 3, 4] rfl ?_
           refine sy_sq ?_
           refine sp rfl (PE.move rfl) rfl ?_
           refine sy_sq ?_
           refine sp rfl (PE.move rfl) rfl ?_
           refine sy_sq ?_
           refine sp rfl (PE.move rfl) rfl ?_
           refine sy_sq ?_
           refine sp rfl (PE.indexAddr el42 rfl rfl (by omega) (by omega)) rfl ?_
           refine sy_sq ?_
           refine stoE (l' := ints (la.set i n)) rfl rfl rfl cn3 rfl rfl rfl (spl_i (i := i) (by omega) (by omega)) (by rw [ints_length]; show 0 + ((i : Nat) : Int).toNat * 1 + 1 ≤ _; omega) ?_
           refine sy_sn ?_
           refine sy_bn ?_
           refine sy_nx ?_
           refine sy_tx' [0, 1, 2] rfl ?_
           refine sy_sq ?_
           refine sp rfl (PE.move rfl) rfl ?_
           refine sy_sq ?_
           refine sp rfl (PE.add rfl rfl (by omega)) rfl ?_
           refine sy_sq ?_
           refine sp rfl (PE.assign rfl) rfl ?_
           refine sy_sn ?_
           refine sy_nx ?_
           first
             | exact sy_next ⟨(i + 1, la.set i n, bo nw i == bo bf i), by omega, by simp [hll], fun u hu h => by
                 rw [io_set (by omega)]
                 by_cases e : i = ixr t u
                 · obtain rfl := ixr_inj hs hu (hix.trans e)
                   simp only [e, decide_true, cond_true]; exact (hpl0 s hs (by omega)).yes hsv
                 · simp only [e, decide_false, cond_false]; exact hpl1 u hu (by dsimp only at h; omega), fun u hu h => by
                 rw [io_set (by omega)]
                 have e : ¬ i = ixr t u := by dsimp only at h; omega
                 simp only [e, decide_false, cond_false]; exact hpl0 u hu (by dsimp only at h; omega), by rw [all_succ, beq_iff_eq]; exact ⟨fun h => ⟨(hsm.1 rfl).1, (hsm.1 rfl).2, h⟩, fun h => h.2.2⟩⟩ (by dsimp only; omega) (by repeat' first | exact Sub.nil | apply Sub.cons | rfl | (simp [lk]; omega)) (fun _ h => h)
             | exact sy_next ⟨(i + 1, la, bo nw i == bo bf i), by omega, hll, fun u hu h => by
                 rcases Nat.lt_or_ge (ixr t u) i with h4 | h4
                 · exact hpl1 u hu h4
                 · obtain rfl := ixr_inj hs hu (by dsimp only at h; omega)
                   exact (hpl0 s hs (by omega)).no hsv, fun u hu h => hpl0 u hu (by dsimp only at h; omega), by rw [all_succ, beq_iff_eq]; exact ⟨fun h => ⟨(hsm.1 rfl).1, (hsm.1 rfl).2, h⟩, fun h => h.2.2⟩⟩ (by dsimp only; omega) (by repeat' first | exact Sub.nil | apply Sub.cons | rfl | (simp [lk]; omega)) (fun _ h => h)
             | exact sy_next ⟨(i + 1, la.set i n, false), by omega, by simp [hll], fun u hu h => by
                 rw [io_set (by omega)]
                 by_cases e : i = ixr t u
                 · obtain rfl := ixr_inj hs hu (hix.trans e)
                   simp only [e, decide_true, cond_true]; exact (hpl0 s hs (by omega)).yes hsv
                 · simp only [e, decide_false, cond_false]; exact hpl1 u hu (by dsimp only at h; omega), fun u hu h => by
                 rw [io_set (by omega)]
                 have e : ¬ i = ixr t u := by dsimp only at h; omega
                 simp only [e, decide_false, cond_false]; exact hpl0 u hu (by dsimp only at h; omega), by rw [all_succ]; exact ⟨fun h => (by cases h), fun h => hsm.2 ⟨h.1, h.2.1⟩⟩⟩ (by dsimp only; omega) (by repeat' first | exact Sub.nil | apply Sub.cons | rfl | (simp [lk]; omega)) (fun _ h => h)
             | exact sy_next ⟨(i + 1, la, false), by omega, hll, fun u hu h => by
                 rcases Nat.lt_or_ge (ixr t u) i with h4 | h4
                 · exact hpl1 u hu h4
                 · obtain rfl := ixr_inj hs hu (by dsimp only at h; omega)
                   exact (hpl0 s hs (by omega)).no hsv, fun u hu h => hpl0 u hu (by dsimp only at h; omega), by rw [all_succ]; exact ⟨fun h => (by cases h), fun h => hsm.2 ⟨h.1, h.2.1⟩⟩⟩ (by dsimp only; omega) (by repeat' first | exact Sub.nil | apply Sub.cons | rfl | (simp [lk]; omega)) (fun _ h => h)
          ·
           try simp only [decide_eq_true_eq, decide_eq_false_iff_not, Bool.and_eq_true, Bool.or_eq_true, Bool.not_eq_true', Int.not_le, Int.not_lt] at hc5
           have hsv : ¬ Srv t n s := fun h => by rw [← hnow s hs, hix, hc5] at h; cases h
           refine sy_skip ?_
           refine sy_bn ?_
           refine sy_nx ?_
           refine sy_tx' [0, 1, 2] rfl ?_
           refine sy_sq ?_
           refine sp rfl (PE.move rfl) rfl ?_
           refine sy_sq ?_
           refine sp rfl (PE.add rfl rfl (by omega)) rfl ?_
           refine sy_sq ?_
           refine sp rfl (PE.assign rfl) rfl ?_
           refine sy_sn ?_
           refine sy_nx ?_
           first
             | exact sy_next ⟨(i + 1, la.set i n, bo nw i == bo bf i), by omega, by simp [hll], fun u hu h => by
                 rw [io_set (by omega)]
                 by_cases e : i = ixr t u
                 · obtain rfl := ixr_inj hs hu (hix.trans e)
                   simp only [e, decide_true, cond_true]; exact (hpl0 s hs (by omega)).yes hsv
                 · simp only [e, decide_false, cond_false]; exact hpl1 u hu (by dsimp only at h; omega), fun u hu h => by
                 rw [io_set (by omega)]
                 have e : ¬ i = ixr t u := by dsimp only at h; omega
                 simp only [e, decide_false, cond_false]; exact hpl0 u hu (by dsimp only at h; omega), by rw [all_succ, beq_iff_eq]; exact ⟨fun h => ⟨(hsm.1 rfl).1, (hsm.1 rfl).2, h⟩, fun h => h.2.2⟩⟩ (by dsimp only; omega) (by repeat' first | exact Sub.nil | apply Sub.cons | rfl | (simp [lk]; omega)) (fun _ h => h)
             | exact sy_next ⟨(i + 1, la, bo nw i == bo bf i), by omega, hll, fun u hu h => by
                 rcases Nat.lt_or_ge (ixr t u) i with h4 | h4
                 · exact hpl1 u hu h4
                 · obtain rfl := ixr_inj hs hu (by dsimp only at h; omega)
                   exact (hpl0 s hs (by omega)).no hsv, fun u hu h => hpl0 u hu (by dsimp only at h; omega), by rw [all_succ, beq_iff_eq]; exact ⟨fun h => ⟨(hsm.1 rfl).1, (hsm.1 rfl).2, h⟩, fun h => h.2.2⟩⟩ (by dsimp only; omega) (by repeat' first | exact Sub.nil | apply Sub.cons | rfl | (simp [lk]; omega)) (fun _ h => h)
             | exact sy_next ⟨(i + 1, la.set i n, false), by omega, by simp [hll], fun u hu h => by
                 rw [io_set (by omega)]
                 by_cases e : i = ixr t u
                 · obtain rfl := ixr_inj hs hu (hix.trans e)
                   simp only [e, decide_true, cond_true]; exact (hpl0 s hs (by omega)).yes hsv
                 · simp only [e, decide_false, cond_false]; exact hpl1 u hu (by dsimp only at h; omega), fun u hu h => by
                 rw [io_set (by omega)]
                 have e : ¬ i = ixr t u := by dsimp only at h; omega
                 simp only [e, decide_false, cond_false]; exact hpl0 u hu (by dsimp only at h; omega), by rw [all_succ]; exact ⟨fun h => (by cases h), fun h => hsm.2 ⟨h.1, h.2.1⟩⟩⟩ (by dsimp only; omega) (by repeat' first | exact Sub.nil | apply Sub.cons | rfl | (simp [lk]; omega)) (fun _ h => h)
             | exact sy_next ⟨(i + 1, la, false), by omega, hll, fun u hu h => by
                 rcases Nat.lt_or_ge (ixr t u) i with h4 | h4
                 · exact hpl1 u hu h4
                 · obtain rfl := ixr_inj hs hu (by dsimp only at h; omega)
                   exact (hpl0 s hs (by omega)).no hsv, fun u hu h => hpl0 u hu (by dsimp only at h; omega), by rw [all_succ]; exact ⟨fun h => (by cases h), fun h => hsm.2 ⟨h.1, h.2.1⟩⟩⟩ (by dsimp only; omega) (by repeat' first | exact Sub.nil | apply Sub.cons | rfl | (simp [lk]; omega)) (fun _ h => h)
         ·
          subst g74
          refine tkN rfl rfl rfl rfl rfl rfl rfl rfl ?_
          refine tkN rfl rfl rfl rfl rfl rfl rfl rfl ?_
          refine tkN rfl rfl rfl rfl rfl rfl rfl rfl ?_
          refine ldN rfl rfl rfl rfl rfl rfl rfl rfl ?_
          refine tkN rfl rfl rfl rfl rfl rfl rfl rfl ?_
          refine tkN rfl rfl rfl rfl rfl rfl rfl rfl ?_
          refine tkN rfl rfl rfl rfl rfl rfl rfl rfl ?_
          refine ldN rfl rfl rfl rfl rfl rfl rfl rfl ?_
          refine tkN rfl rfl rfl rfl rfl rfl rfl rfl ?_
          refine tk rfl (PE.pick rfl rfl rfl) rfl ?_
          refine tk rfl (PE.assign rfl) rfl ?_
          refine sy_dn ?_
          refine sy_nx ?_
          refine sy_seq ?_
          refine sy_tx' [0, 1, 2, 3] rfl ?_
          refine sy_sq ?_
          refine sp rfl (PE.move rfl) rfl ?_
          refine sy_sq ?_
          refine sp rfl (PE.move rfl) rfl ?_
          refine sy_sq ?_
          refine sp rfl (PE.indexAddr el80 rfl rfl (by omega) (by omega)) rfl ?_
          refine sy_sq ?_
          refine spL rfl rfl (lh (v := .bool (bo nw i)) sc4 rfl (bl_at hnx (by omega))) rfl ?_
          refine sy_sn ?_
          refine sy_nx ?_
          refine sy_cond rfl (fun hc5 => ?_) (fun hc5 => ?_)
          ·
           try simp only [decide_eq_true_eq, decide_eq_false_iff_not, Bool.and_eq_true, Bool.or_eq_true, Bool.not_eq_true', Int.not_le, Int.not_lt] at hc5
           have hsv := (hnow s hs).1 (by rw [hix]; exact hc5)
           refine sy_tx' [0, 1, 2, 3, 4] rfl ?_
           refine sy_sq ?_
           refine sp rfl (PE.move rfl) rfl ?_
           refine sy_sq ?_
           refine sp rfl (PE.move rfl) rfl ?_
           refine sy_sq ?_
           refine sp rfl (PE.move rfl) rfl ?_
           refine sy_sq ?_
           refine sp rfl (PE.indexAddr el42 rfl rfl (by omega) (by omega)) rfl ?_
           refine sy_sq ?_
           refine stoE (l' := ints (la.set i n)) rfl rfl rfl cn3 rfl rfl rfl (spl_i (i := i) (by omega) (by omega)) (by rw [ints_length]; show 0 + ((i : Nat) : Int).toNat * 1 + 1 ≤ _; omega) ?_
           refine sy_sn ?_
           refine sy_bn ?_
           refine sy_nx ?_
           refine sy_tx' [0, 1, 2] rfl ?_
           refine sy_sq ?_
           refine sp rfl (PE.move rfl) rfl ?_
           refine sy_sq ?_
           refine sp rfl (PE.add rfl rfl (by omega)) rfl ?_
           refine sy_sq ?_
           refine sp rfl (PE.assign rfl) rfl ?_
           refine sy_sn ?_
           refine sy_nx ?_
           first
             | exact sy_next ⟨(i + 1, la.set i n, bo nw i == bo bf i), by omega, by simp [hll], fun u hu h => by
                 rw [io_set (by omega)]
                 by_cases e : i = ixr t u
                 · obtain rfl := ixr_inj hs hu (hix.trans e)
                   simp only [e, decide_true, cond_true]; exact (hpl0 s hs (by omega)).yes hsv
                 · simp only [e, decide_false, cond_false]; exact hpl1 u hu (by dsimp only at h; omega), fun u hu h => by
                 rw [io_set (by omega)]
                 have e : ¬ i = ixr t u := by dsimp only at h; omega
                 simp only [e, decide_false, cond_false]; exact hpl0 u hu (by dsimp only at h; omega), by rw [all_succ, beq_iff_eq]; exact ⟨fun h => ⟨(hsm.1 rfl).1, (hsm.1 rfl).2, h⟩, fun h => h.2.2⟩⟩ (by dsimp only; omega) (by repeat' first | exact Sub.nil | apply Sub.cons | rfl | (simp [lk]; omega)) (fun _ h => h)
             | exact sy_next ⟨(i + 1, la, bo nw i == bo bf i), by omega, hll, fun u hu h => by
                 rcases Nat.lt_or_ge (ixr t u) i with h4 | h4
                 · exact hpl1 u hu h4
                 · obtain rfl := ixr_inj hs hu (by dsimp only at h; omega)
                   exact (hpl0 s hs (by omega)).no hsv, fun u hu h => hpl0 u hu (by dsimp only at h; omega), by rw [all_succ, beq_iff_eq]; exact ⟨fun h => ⟨(hsm.1 rfl).1, (hsm.1 rfl).2, h⟩, fun h => h.2.2⟩⟩ (by dsimp only; omega) (by repeat' first | exact Sub.nil | apply Sub.cons | rfl | (simp [lk]; omega)) (fun _ h => h)
             | exact sy_next ⟨(i + 1, la.set i n, false), by omega, by simp [hll], fun u hu h => by
                 rw [io_set (by omega)]
                 by_cases e : i = ixr t u
                 · obtain rfl := ixr_inj hs hu (hix.trans e)
                   simp only [e, decide_true, cond_true]; exact (hpl0 s hs (by omega)).yes hsv
                 · simp only [e, decide_false, cond_false]; exact hpl1 u hu (by dsimp only at h; omega), fun u hu h => by
                 rw [io_set (by omega)]
                 have e : ¬ i = ixr t u := by dsimp only at h; omega
                 simp only [e, decide_false, cond_false]; exact hpl0 u hu (by dsimp only at h; omega), by rw [all_succ]; exact ⟨fun h => (by cases h), fun h => hsm.2 ⟨h.1, h.2.1⟩⟩⟩ (by dsimp only; omega) (by repeat' first | exact Sub.nil | apply Sub.cons | rfl | (simp [lk]; omega)) (fun _ h => h)
             | exact sy_next ⟨(i + 1, la, false), by omega, hll, fun u hu h => by
                 rcases Nat.lt_or_ge (ixr t u) i with h4 | h4
                 · exact hpl1 u hu h4
                 · obtain rfl := ixr_inj hs hu (by dsimp only at h; omega)
                   exact (hpl0 s hs (by omega)).no hsv, fun u hu h => hpl0 u hu (by dsimp only at h; omega), by rw [all_succ]; exact ⟨fun h => (by cases h), fun h => hsm.2 ⟨h.1, h.2.1⟩⟩⟩ (by dsimp only; omega) (by repeat' first | exact Sub.nil | apply Sub.cons | rfl | (simp [lk]; omega)) (fun _ h => h)
          ·
           try simp only [decide_eq_true_eq, decide_eq_false_iff_not, Bool.and_eq_true, Bool.or_eq_true, Bool.not_eq_true', Int.not_le, Int.not_lt] at hc5
           have hsv : ¬ Srv t n s := fun h => by rw [← hnow s hs, hix, hc5] at h; cases h
           refine sy_skip ?_
           refine sy_bn ?_
           refine sy_nx ?_
           refine sy_tx' [0, 1, 2] rfl ?_
           refine sy_sq ?_
           refine sp rfl (PE.move rfl) rfl ?_
           refine sy_sq ?_
           refine sp rfl (PE.add rfl rfl (by omega)) rfl ?_
           refine sy_sq ?_
           refine sp rfl (PE.assign rfl) rfl ?_
           refine sy_sn ?_
           refine sy_nx ?_
           first
             | exact sy_next ⟨(i + 1, la.set i n, bo nw i == bo bf i), by omega, by simp [hll], fun u hu h => by
                 rw [io_set (by omega)]
                 by_cases e : i = ixr t u
                 · obtain rfl := ixr_inj hs hu (hix.trans e)
                   simp only [e, decide_true, cond_true]; exact (hpl0 s hs (by omega)).yes hsv
                 · simp only [e, decide_false, cond_false]; exact hpl1 u hu (by dsimp only at h; omega), fun u hu h => by
                 rw [io_set (by omega)]
                 have e : ¬ i = ixr t u := by dsimp only at h; omega
                 simp only [e, decide_false, cond_false]; exact hpl0 u hu (by dsimp only at h; omega), by rw [all_succ, beq_iff_eq]; exact ⟨fun h => ⟨(hsm.1 rfl).1, (hsm.1 rfl).2, h⟩, fun h => h.2.2⟩⟩ (by dsimp only; omega) (by repeat' first | exact Sub.nil | apply Sub.cons | rfl | (simp [lk]; omega)) (fun _ h => h)
             | exact sy_next ⟨(i + 1, la, bo nw i == bo bf i), by omega, hll, fun u hu h => by
                 rcases Nat.lt_or_ge (ixr t u) i with h4 | h4
                 · exact hpl1 u hu h4
                 · obtain rfl := ixr_inj hs hu (by dsimp only at h; omega)
                   exact (hpl0 s hs (by omega)).no hsv, fun u hu h => hpl0 u hu (by dsimp only at h; omega), by rw [all_succ, beq_iff_eq]; exact ⟨fun h => ⟨(hsm.1 rfl).1, (hsm.1 rfl).2, h⟩, fun h => h.2.2⟩⟩ (by dsimp only; omega) (by repeat' first | exact Sub.nil | apply Sub.cons | rfl | (simp [lk]; omega)) (fun _ h => h)
             | exact sy_next ⟨(i + 1, la.set i n, false), by omega, by simp [hll], fun u hu h => by
                 rw [io_set (by omega)]
                 by_cases e : i = ixr t u
                 · obtain rfl := ixr_inj hs hu (hix.trans e)
                   simp only [e, decide_true, cond_true]; exact (hpl0 s hs (by omega)).yes hsv
                 · simp only [e, decide_false, cond_false]; exact hpl1 u hu (by dsimp only at h; omega), fun u hu h => by
                 rw [io_set (by omega)]
                 have e : ¬ i = ixr t u := by dsimp only at h; omega
                 simp only [e, decide_false, cond_false]; exact hpl0 u hu (by dsimp only at h; omega), by rw [all_succ]; exact ⟨fun h => (by cases h), fun h => hsm.2 ⟨h.1, h.2.1⟩⟩⟩ (by dsimp only; omega) (by repeat' first | exact Sub.nil | apply Sub.cons | rfl | (simp [lk]; omega)) (fun _ h => h)
             | exact sy_next ⟨(i + 1, la, false), by omega, hll, fun u hu h => by
                 rcases Nat.lt_or_ge (ixr t u) i with h4 | h4
                 · exact hpl1 u hu h4
                 · obtain rfl := ixr_inj hs hu (by dsimp only at h; omega)
                   exact (hpl0 s hs (by omega)).no hsv, fun u hu h => hpl0 u hu (by dsimp only at h; omega), by rw [all_succ]; exact ⟨fun h => (by cases h), fun h => hsm.2 ⟨h.1, h.2.1⟩⟩⟩ (by dsimp only; omega) (by repeat' first | exact Sub.nil | apply Sub.cons | rfl | (simp [lk]; omega)) (fun _ h => h)
        ·
         try simp only [decide_eq_true_eq, decide_eq_false_iff_not, Bool.and_eq_true, Bool.or_eq_true, Bool.not_eq_true', Int.not_le, Int.not_lt] at hc4
         obtain rfl : i = t.nst := by omega
         refine sy_exit ?_
         refine sy_tx ?_
         refine sy_tx ?_
         refine sy_bx ?_
         refine sy_nx ?_
         refine sy_seq ?_
         refine sy_seq ?_
         refine sy_tx' [0] rfl ?_
         refine sy_sq ?_
         refine sp rfl (PE.move rfl) rfl ?_
         refine sy_sn ?_
         refine sy_nx ?_
         refine sy_cond rfl (fun hc6 => ?_) (fun hc6 => ?_)
         ·
          subst hc6
          obtain ⟨hn0, hsame⟩ := hsm.1 rfl
          refine sy_seq ?_
          refine sy_seq ?_
          refine sy_tx' [0] rfl ?_
          refine sy_sq ?_
          refine sp rfl (PE.assign rfl) rfl ?_
          refine sy_sn ?_
          refine sy_nx ?_
          refine sy_block ?_
          have hbs : ∀ s, s.right t = true → (Bf t n s ↔ Srv t n s) := fun s hs => by rw [← hbf s hs, ← hnow s hs, hsame _ (ixr_lt hs)]
          refine sy_loop (ι := {x : Nat × List Int // x.1 ≤ t.nst ∧ x.2.length = t.nst ∧ (∀ s, s.right t = true → ixr t s < x.1 → LS t s (io x.2 (ixr t s))) ∧ (∀ s, s.right t = true → x.1 ≤ ixr t s → PL t (n + 1) s (io x.2 (ixr t s)))}) (fun x => ⟨[(1, .pointer (some ⟨b1, 0, none⟩)), (3, .slice aS t.nst cS), (4, .slice (some ⟨b18, 0, none⟩) t.nst t.nst), (8, .slice (some ⟨bn, 0, none⟩) t.nst cN), (13, .int .i64 x.1.1)], (bn, cel 4 (bools (nw) ++ jn)) :: (b18, cel 3 (ints (x.1.2))) :: (b1, cel 37 (twl t (t.sl (some ⟨ba, oa, none⟩) ca))) :: H, RowsA (some ⟨bb, ob, none⟩) 1 (brows bf) :: RowsA aS 3 (srows (sts t)) :: R⟩) (fun x => t.nst - x.1.1) ⟨(0, la), by omega, hll, by omega, fun s hs _ => hpl1 s hs (ixr_lt hs)⟩ ?_ (fun x => ?_)
          ·
           exact sy_at (by repeat' first | exact Sub.nil | apply Sub.cons | rfl | (simp [lk]; omega)) (fun _ h => h)
          ·
           obtain ⟨⟨i, la⟩, hi, hll, hls, hpl1⟩ := x
           dsimp only at hi hll hls hpl1 ⊢
           refine sy_seq ?_
           refine sy_seq ?_
           refine sy_tx' [0, 1, 2, 3] rfl ?_
           refine sy_sq ?_
           refine sp rfl (PE.move rfl) rfl ?_
           refine sy_sq ?_
           refine sp rfl (PE.move rfl) rfl ?_
           refine sy_sq ?_
           refine sp rfl (PE.lenSl isl82 rfl) rfl ?_
           refine sy_sq ?_
           refine sp rfl (PE.lss rfl rfl) rfl ?_
           refine sy_sn ?_
           refine sy_nx ?_
           refine sy_cond rfl (fun hc7 => ?_) (fun hc7 => ?_)
           ·
            try simp only [decide_eq_true_eq, decide_eq_false_iff_not, Bool.and_eq_true, Bool.or_eq_true, Bool.not_eq_true', Int.not_le, Int.not_lt] at hc7
            obtain ⟨s, hsi⟩ : ∃ s, (sts t)[i]? = some s := ⟨_, List.getElem?_eq_getElem (by rw [sts_len]; omega)⟩
            have hs := sts_right ht (List.mem_of_getElem? hsi)
            have hix := ixr_at hsi hs
            have hnx := bo_get (l := nw) (i := i) (by omega)
            refine sy_skip ?_
            refine sy_nx ?_
            refine sy_seq ?_
            refine sy_block ?_
            refine sy_seq ?_
            refine sy_tx' [0, 1, 2, 3] rfl ?_
            refine sy_sq ?_
            refine sp rfl (PE.move rfl) rfl ?_
            refine sy_sq ?_
            refine sp rfl (PE.move rfl) rfl ?_
            refine sy_sq ?_
            refine sp rfl (PE.indexAddr el80 rfl rfl (by omega) (by omega)) rfl ?_
            refine sy_sq ?_
            refine spL rfl rfl (lh (v := .bool (bo nw i)) sc4 rfl (bl_at hnx (by omega))) rfl ?_
            refine sy_sn ?_
            refine sy_nx ?_
            refine sy_cond rfl (fun hc8 => ?_) (fun hc8 => ?_)
            ·
             try simp only [decide_eq_true_eq, decide_eq_false_iff_not, Bool.and_eq_true, Bool.or_eq_true, Bool.not_eq_true', Int.not_le, Int.not_lt] at hc8
             have hsv := (hnow s hs).1 (by rw [hix]; exact hc8)
             have hlast : LS t s 1000000 := .inl ⟨rfl, fun m => by
               rcases Nat.le_total n m with h | h
               · exact srv_same hn0 (fun u hb => (hbs u (bf_right hn0 hb)).1 hb) m h hsv
               · exact srv_le h hsv⟩
             refine sy_tx' [0, 1, 2, 3] rfl ?_
             refine sy_sq ?_
             refine sp rfl (PE.move rfl) rfl ?_
             refine sy_sq ?_
             refine sp rfl (PE.move rfl) rfl ?_
             refine sy_sq ?_
             refine sp rfl (PE.indexAddr el42 rfl rfl (by omega) (by omega)) rfl ?_
             refine sy_sq ?_
             refine stoE (l' := ints (la.set i 1000000)) rfl rfl rfl cn3 rfl rfl rfl (spl_i (i := i) (by omega) (by omega)) (by rw [ints_length]; show 0 + ((i : Nat) : Int).toNat * 1 + 1 ≤ _; omega) ?_
             refine sy_sn ?_
             refine sy_bn ?_
             refine sy_nx ?_
             refine sy_tx' [0, 1, 2] rfl ?_
             refine sy_sq ?_
             refine sp rfl (PE.move rfl) rfl ?_
             refine sy_sq ?_
             refine sp rfl (PE.add rfl rfl (by omega)) rfl ?_
             refine sy_sq ?_
             refine sp rfl (PE.assign rfl) rfl ?_
             refine sy_sn ?_
             refine sy_nx ?_
             first
               | exact sy_next ⟨(i + 1, la.set i 1000000), by omega, by simp [hll], fun u hu h => by
                   rw [io_set (by omega)]
                   by_cases e : i = ixr t u
                   · obtain rfl := ixr_inj hs hu (hix.trans e)
                     simp only [e, decide_true, cond_true]; exact hlast
                   · simp only [e, decide_false, cond_false]; exact hls u hu (by dsimp only at h; omega), fun u hu h => by
                   rw [io_set (by omega)]
                   have e : ¬ i = ixr t u := by dsimp only at h; omega
                   simp only [e, decide_false, cond_false]; exact hpl1 u hu (by dsimp only at h; omega)⟩ (by dsimp only; omega) (by repeat' first | exact Sub.nil | apply Sub.cons | rfl | (simp [lk]; omega)) (fun _ h => h)
               | exact sy_next ⟨(i + 1, la), by omega, hll, fun u hu h => by
                   rcases Nat.lt_or_ge (ixr t u) i with h4 | h4
                   · exact hls u hu h4
                   · obtain rfl := ixr_inj hs hu (by dsimp only at h; omega)
                     exact hlast, fun u hu h => hpl1 u hu (by dsimp only at h; omega)⟩ (by dsimp only; omega) (by repeat' first | exact Sub.nil | apply Sub.cons | rfl | (simp [lk]; omega)) (fun _ h => h)
            ·
             try simp only [decide_eq_true_eq, decide_eq_false_iff_not, Bool.and_eq_true, Bool.or_eq_true, Bool.not_eq_true', Int.not_le, Int.not_lt] at hc8
             have hsv : ¬ Srv t n s := fun h => by rw [← hnow s hs, hix, hc8] at h; cases h
             have hlast := (hpl1 s hs (by omega)).end_ hn0 (by omega) (fun h => hsv ((hbs s hs).1 h))
             refine sy_skip ?_
             refine sy_bn ?_
             refine sy_nx ?_
             refine sy_tx' [0, 1, 2] rfl ?_
             refine sy_sq ?_
             refine sp rfl (PE.move rfl) rfl ?_
             refine sy_sq ?_
             refine sp rfl (PE.add rfl rfl (by omega)) rfl ?_
             refine sy_sq ?_
             refine sp rfl (PE.assign rfl) rfl ?_
             refine sy_sn ?_
             refine sy_nx ?_
             first
               | exact sy_next ⟨(i + 1, la.set i 1000000), by omega, by simp [hll], fun u hu h => by
                   rw [io_set (by omega)]
                   by_cases e : i = ixr t u
                   · obtain rfl := ixr_inj hs hu (hix.trans e)
                     simp only [e, decide_true, cond_true]; exact hlast
                   · simp only [e, decide_false, cond_false]; exact hls u hu (by dsimp only at h; omega), fun u hu h => by
                   rw [io_set (by omega)]
                   have e : ¬ i = ixr t u := by dsimp only at h; omega
                   simp only [e, decide_false, cond_false]; exact hpl1 u hu (by dsimp only at h; omega)⟩ (by dsimp only; omega) (by repeat' first | exact Sub.nil | apply Sub.cons | rfl | (simp [lk]; omega)) (fun _ h => h)
               | exact sy_next ⟨(i + 1, la), by omega, hll, fun u hu h => by
                   rcases Nat.lt_or_ge (ixr t u) i with h4 | h4
                   · exact hls u hu h4
                   · obtain rfl := ixr_inj hs hu (by dsimp only at h; omega)
                     exact hlast, fun u hu h => hpl1 u hu (by dsimp only at h; omega)⟩ (by dsimp only; omega) (by repeat' first | exact Sub.nil | apply Sub.cons | rfl | (simp [lk]; omega)) (fun _ h => h)
           ·
            try simp only [decide_eq_true_eq, decide_eq_false_iff_not, Bool.and_eq_true, Bool.or_eq_true, Bool.not_eq_true', Int.not_le, Int.not_lt] at hc7
            obtain rfl : i = t.nst := by omega
            refine sy_exit ?_
            refine sy_tx ?_
            refine sy_tx ?_
            refine sy_bx ?_
            refine sy_nx ?_
            refine sy_seq ?_
            refine sy_tx' [0, 1] rfl ?_
            refine sy_sq ?_
            refine sp rfl (PE.move rfl) rfl ?_
            refine sy_sq ?_
            refine sp rfl (PE.assign rfl) rfl ?_
            refine sy_sn ?_
            refine sy_nx ?_
            refine sy_ret ?_
            refine sy_tr ?_
            refine sy_br ?_
            refine sy_tr ?_
            refine sy_tr ?_
            refine sy_br ?_
            exact sy_return (vs := [_]) rfl (.cons (RV.tmp rfl) .nil) rfl ⟨b18, la, ⟨hll, fun s hs => hls s hs (ixr_lt hs)⟩, rfl, rfl, rfl⟩ (fun w h => ((h.del bn).del b1 : St _ _ _).ftail.ftail)
         ·
          subst hc6
          refine sy_skip ?_
          refine sy_nx ?_
          refine sy_tx' [0, 1] rfl ?_
          refine sy_sq ?_
          refine sp rfl (PE.move rfl) rfl ?_
          refine sy_sq ?_
          refine sp rfl (PE.assign rfl) rfl ?_
          refine sy_sn ?_
          refine sy_bn ?_
          refine sy_nx ?_
          refine sy_tx' [0, 1, 2] rfl ?_
          refine sy_sq ?_
          refine sp rfl (PE.move rfl) rfl ?_
          refine sy_sq ?_
          refine sp rfl (PE.add rfl rfl (by omega)) rfl ?_
          refine sy_sq ?_
          refine sp rfl (PE.assign rfl) rfl ?_
          refine sy_sn ?_
          refine sy_nx ?_
          have hcnt := cnt_lt (a := nw) (b := bf) (by omega) (fun i hi h => by
            obtain ⟨s, hsi⟩ : ∃ s, (sts t)[i]? = some s := ⟨_, List.getElem?_eq_getElem (by rw [sts_len]; omega)⟩
            have hs := sts_right ht (List.mem_of_getElem? hsi)
            have hix := ixr_at hsi hs
            rw [← hix]; exact hsub s hs (by rw [hix]; exact h))
          refine Sy.heap (fun w h => St.boolRows h) ?_
          exact sy_next ⟨(n + 1, (bn, 0, cN), nw, la), hnl, hll, fun s hs => hnow s hs, fun s hs => hpl1 s hs (ixr_lt hs), .inr (by
            dsimp only
            rcases hcn with h0 | h0
            · omega
            · rcases Nat.eq_zero_or_pos n with h1 | h1
              · omega
              · have : ∃ i, i < nw.length ∧ bo nw i ≠ bo bf i := by
                  false_or_by_contra
                  rename_i hno
                  have := hsm.2 ⟨h1, fun j hj => by
                    false_or_by_contra
                    exact hno ⟨j, by omega, by assumption⟩⟩
                  cases this
                have := hcnt.2 this
                omega)⟩ (by dsimp only; omega) (by repeat' first | exact Sub.nil | apply Sub.cons | rfl | (simp [lk]; omega)) (fun _ h => St.sub h)
end Go.Proofs.Ytaldphhdkmchhaa
