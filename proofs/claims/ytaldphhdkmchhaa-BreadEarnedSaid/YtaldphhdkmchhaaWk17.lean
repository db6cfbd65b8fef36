/- Walks of the functions of the program: what each returns and leaves in memory, under the conditions that its theorem names. -/
import Derived.Test.YtaldphhdkmchhaaTy
import Derived.Test.YtaldphhdkmchhaaMa
import Derived.Test.YtaldphhdkmchhaaWk16
import Derived.Test.YtaldphhdkmchhaaMj
namespace Go.Proofs.Ytaldphhdkmchhaa
set_option linter.unusedSimpArgs false
set_option linter.unusedVariables false
open Go
theorem cal107 : cal Try.prog 107 = true := by kernel_rfl
theorem cal21 : cal Try.prog 21 = true := by kernel_rfl
theorem cal88 : cal Try.prog 88 = true := by kernel_rfl
theorem rel_row {t : Twn} {la y : List Int} (h : Rel t la y) {u : Sta} (hu : u.right t = true) : (irows la)[((ixr t u : Nat) : Int).toNat]? = some [.int .i64 (lat y u)] := by
  rw [Int.toNat_natCast, irows, List.getElem?_map, io_get (l := la) (i := ixr t u) (by rw [h.len]; exact ixr_lt hu), h.at_ u hu]; rfl

theorem c_rLasts (t : Twn) (ht : t.ok) (s : Sta) (hs : s.right t = true) (sl : Value) (la y : List Int) (hrel : Rel t la y) (bl ol cl : Nat) (H : Heap) (R : Facts) [hL : MemRows (some ⟨bl, ol, none⟩) 1 (irows la) R] :
    FnV Try.prog 21 [t.v sl, .slice (some ⟨bl, ol, none⟩) t.nst cl, s.v] H R (.int .i64 (lat y s)) := by
  have hx := ixr_lt hs
  refine fn_of Try.func21 rfl Try.ntmps21 rfl ?_
  refine sy_seq ?_
  refine sy_tx' [0, 1, 2] rfl ?_
  refine sy_sq ?_
  refine bx rfl rfl rfl (fun b3 => ?_)
  refine sy_sq ?_
  refine bx rfl rfl rfl (fun b5 => ?_)
  refine sy_sq ?_
  refine sp rfl (PE.assign rfl) rfl ?_
  refine sy_sn ?_
  refine sy_nx ?_
  refine sy_seq ?_
  refine sy_tx' [0, 1, 2, 3, 4, 5, 6] rfl ?_
  refine sy_sq ?_
  refine sp rfl (PE.move rfl) rfl ?_
  refine sy_sq ?_
  refine spL rfl rfl (lhA [_, _, _, _, _, _, _, _, _, _, _] ag37 rfl rfl rfl) rfl ?_
  refine sy_sq ?_
  refine spL rfl rfl (lhA [_, _, _] ag34 rfl rfl rfl) rfl ?_
  refine sy_sq ?_
  refine clV rfl cal84 rfl rfl (c_rIndex t ht s hs _ _ _) ?_
  refine sy_sq ?_
  refine sp rfl (PE.indexAddr el42 rfl rfl (by omega) (by omega)) rfl ?_
  refine sy_sq ?_
  refine spL rfl rfl (lf0 (x := .int .i64 (lat y (s))) sc3 (rel_row hrel hs) rfl) rfl ?_
  refine sy_sq ?_
  refine sp rfl (PE.assign rfl) rfl ?_
  refine sy_sn ?_
  refine sy_nx ?_
  refine sy_ret ?_
  exact sy_return (vs := [_]) rfl (.cons (RV.tmp rfl) .nil) rfl ⟨rfl, rfl, rfl⟩ (fun _ h => by repeat first | exact h | replace h := St.tail h | replace h := St.ftail h | replace h := St.drop h)

theorem keepsEq {t : Twn} (ht : t.ok) {y : List Int} {s : Sta} {q : Rn} {n : Int} (hcan : t.can s q = true) (hn : n ≤ 1000000) : t.keeps y s q n =
    (decide (n ≤ lat y (t.next s q false)) && (decide (n = 0) || (!decide (s.dry < t.run) || (decide (n ≤ lat y (t.next s q true)) || (decide (n < 1000000) && decide (n - 1 ≤ lat y (t.next s q true))))))) := by
  unfold Twn.keeps
  rw [hcan, Bool.true_and, Bool.or_assoc]
  congr 3
  by_cases h : n = 1000000
  · simp [h]
  · simp only [h, decide_false, cond_false]
    have h2 : n < 1000000 := by omega
    simp only [h2, decide_true, Bool.true_and]
    rw [Bool.eq_iff_iff]
    simp
    omega

theorem c_rKeeps (t : Twn) (ht : t.ok) (s : Sta) (hs : s.right t = true) (r : Int) (q : Rn) (h0 : 0 ≤ r) (hq : t.rats[r.toNat]? = some q) (bads : Int) (hb : 0 ≤ bads ∧ bads ≤ 1000000) (ba oa ca : Nat) (la y : List Int) (hrel : Rel t la y) (bl ol cl : Nat) (H : Heap) (R : Facts) [hR : MemRows (some ⟨ba, oa, none⟩) 2 (rrows t.rats) R] [hL : MemRows (some ⟨bl, ol, none⟩) 1 (irows la) R] :
    FnV Try.prog 88 [t.v (t.sl (some ⟨ba, oa, none⟩) ca), .slice (some ⟨bl, ol, none⟩) t.nst cl, s.v, .int .i64 r, .int .i64 bads] H R (.bool (t.keeps y s q bads)) := by
  have hqm := List.mem_of_getElem? hq
  refine fn_of Try.func88 rfl Try.ntmps88 rfl ?_
  refine sy_seq ?_
  refine sy_tx' [0, 1, 2] rfl ?_
  refine sy_sq ?_
  refine bx rfl rfl rfl (fun b5 => ?_)
  refine sy_sq ?_
  refine bx rfl rfl rfl (fun b7 => ?_)
  refine sy_sq ?_
  refine sp rfl (PE.assign rfl) rfl ?_
  refine sy_sn ?_
  refine sy_nx ?_
  refine sy_seq ?_
  refine sy_seq ?_
  refine sy_draw [0, 0, 0, 7, 15, 31, 63, 63, 63, 63, 63, 1855, 4031, 8191, 16383, 63, 65535, 131071] (.ld 0 (.ld 1 (.tk 2 (.big 3 (.tk 4 (.tk 5 (.tk 6 (.ld 7 (.ld 8 (.ld 9 (.tk 10 (.tk 15 (.big 11 (.big 12 (.tk 13 (.ld 14 (.tk 16 (.tk 17 .done)))))))))))))))))) mixed (by kernel_rfl) ?_
  refine ld rfl rfl (lhA [_, _, _, _, _, _, _, _, _, _, _] ag37 rfl rfl rfl) rfl ?_
  refine ld rfl rfl (lhA [_, _, _] ag34 rfl rfl rfl) rfl ?_
  refine tk rfl (PE.move rfl) rfl ?_
  refine sy_bg ?_
  refine clV rfl cal118 rfl rfl (c_rCan t s r q ba oa ca h0 hq _ _) ?_
  refine bg (fun w hs => ⟨trivial, trivial, trivial⟩) ?_
  refine tk rfl (PE.not rfl) rfl ?_
  refine tk rfl (PE.move rfl) rfl ?_
  refine sy_case (t := 17) rfl (fun g17 => ?_) (fun g17 => ?_)
  ·
   have hcan : t.can s q = false := by simpa using g17
   refine tkN rfl rfl rfl rfl rfl rfl rfl rfl ?_
   refine ldN rfl rfl rfl rfl rfl rfl rfl rfl ?_
   refine ldN rfl rfl rfl rfl rfl rfl rfl rfl ?_
   refine ldN rfl rfl rfl rfl rfl rfl rfl rfl ?_
   refine tkN rfl rfl rfl rfl rfl rfl rfl rfl ?_
   refine tkN rfl rfl rfl rfl rfl rfl rfl rfl ?_
   refine sy_bg ?_
   refine spN rfl rfl rfl rfl rfl rfl rfl rfl ?_
   refine bg (fun w hs => ⟨trivial, trivial, ((fun _ _ => True.intro)) w hs, trivial⟩) ?_
   refine sy_bg ?_
   refine spN rfl rfl rfl rfl rfl rfl rfl rfl ?_
   refine bg (fun w hs => ⟨trivial, trivial⟩) ?_
   refine tkN rfl rfl rfl rfl rfl rfl rfl rfl ?_
   refine ldN rfl rfl rfl rfl rfl rfl rfl rfl ?_
   refine tkN rfl rfl rfl rfl rfl rfl rfl rfl ?_
   refine tk rfl (PE.pick rfl rfl rfl) rfl ?_
   refine sy_dn ?_
   refine sy_nx ?_
   refine sy_condT rfl ?_
   refine sy_seq ?_
   refine sy_tx' [0] rfl ?_
   refine sy_sq ?_
   refine sp rfl (PE.assign rfl) rfl ?_
   refine sy_sn ?_
   refine sy_nx ?_
   refine sy_ret ?_
   refine sy_tr ?_
   exact sy_return (vs := [_]) rfl (.cons (RV.tmp rfl) .nil) rfl ⟨congrArg Value.bool (by
       first
         | (simp [Twn.keeps, hcan]; done)
         | (simp [Twn.keeps, hcan]; omega)
         | (rw [keepsEq ht hcan hb.2]; simp_all; done)
         | (rw [keepsEq ht hcan hb.2]; simp_all; omega)), rfl, rfl⟩ (fun _ h => by repeat first | exact h | replace h := St.tail h | replace h := St.ftail h | replace h := St.drop h)
  ·
   have hcan : t.can s q = true := by simpa using g17
   have hng := next_right ht hs hqm hcan (bad := false) (by simp)
   refine tkG rfl rfl rfl rfl (PE.move rfl) rfl ?_
   refine ldG rfl rfl rfl rfl rfl (lhA [_, _, _, _, _, _, _, _, _, _, _] ag37 rfl rfl rfl) rfl ?_
   refine ldG rfl rfl rfl rfl rfl (lhA [_, _, _, _, _, _, _, _, _, _, _] ag37 rfl rfl rfl) rfl ?_
   refine ldG rfl rfl rfl rfl rfl (lhA [_, _, _] ag34 rfl rfl rfl) rfl ?_
   refine tkG rfl rfl rfl rfl (PE.move rfl) rfl ?_
   refine tkG rfl rfl rfl rfl (PE.move rfl) rfl ?_
   refine sy_bg ?_
   refine clVG rfl rfl rfl rfl cal100 rfl rfl (c_rAfter t ht s hs r q false ba oa ca h0 hq (can_le hcan) _ _) ?_
   refine bg (fun w hs => ⟨trivial, trivial, (lhA [_, _, _, _, _, _, _, _, _, _, _] ag37 rfl rfl rfl) w hs, trivial⟩) ?_
   refine sy_bg ?_
   refine clVG rfl rfl rfl rfl cal84 rfl rfl (c_rIndex t ht _ hng _ _ _) ?_
   refine bg (fun w hs => ⟨trivial, trivial⟩) ?_
   refine tkG rfl rfl rfl rfl (PE.indexAddr el42 rfl rfl (by have := ixr_lt hng; omega) (by have := ixr_lt hng; omega)) rfl ?_
   refine ldG rfl rfl rfl rfl rfl (lf0 (x := .int .i64 (lat y (t.next s q false))) sc3 (rel_row hrel hng) rfl) rfl ?_
   refine tkG rfl rfl rfl rfl (PE.lss rfl rfl) rfl ?_
   refine tk rfl (PE.pick rfl rfl rfl) rfl ?_
   refine sy_dn ?_
   refine sy_nx ?_
   refine sy_cond rfl (fun hc0 => ?_) (fun hc0 => ?_)
   ·
    try simp only [decide_eq_true_eq, decide_eq_false_iff_not, Bool.and_eq_true, Bool.or_eq_true, Bool.not_eq_true', Int.not_le, Int.not_lt] at hc0
    
    refine sy_seq ?_
    refine sy_tx' [0] rfl ?_
    refine sy_sq ?_
    refine sp rfl (PE.assign rfl) rfl ?_
    refine sy_sn ?_
    refine sy_nx ?_
    refine sy_ret ?_
    refine sy_tr ?_
    exact sy_return (vs := [_]) rfl (.cons (RV.tmp rfl) .nil) rfl ⟨congrArg Value.bool (by
        first
          | (simp [Twn.keeps, hcan]; done)
          | (simp [Twn.keeps, hcan]; omega)
          | (rw [keepsEq ht hcan hb.2]; simp_all; done)
          | (rw [keepsEq ht hcan hb.2]; simp_all; omega)), rfl, rfl⟩ (fun _ h => by repeat first | exact h | replace h := St.tail h | replace h := St.ftail h | replace h := St.drop h)
   ·
    try simp only [decide_eq_true_eq, decide_eq_false_iff_not, Bool.and_eq_true, Bool.or_eq_true, Bool.not_eq_true', Int.not_le, Int.not_lt] at hc0
    
    refine sy_skip ?_
    refine sy_nx ?_
    refine sy_seq ?_
    refine sy_seq ?_
    refine sy_tx' [0, 1, 2, 3, 4, 5, 6, 7, 8] rfl ?_
    refine sy_sq ?_
    refine sp rfl (PE.move rfl) rfl ?_
    refine sy_sq ?_
    refine sp rfl (PE.eql rfl rfl) rfl ?_
    refine sy_sq ?_
    refine sp rfl (PE.move rfl) rfl ?_
    refine sy_sq ?_
    refine sy_case (t := 32) rfl (fun g32 => ?_) (fun g32 => ?_)
    ·
     try simp only [decide_eq_true_eq, decide_eq_false_iff_not, Bool.and_eq_true, Bool.or_eq_true, Bool.not_eq_true', Int.not_le, Int.not_lt] at g32
     
     refine spN rfl rfl rfl rfl rfl rfl rfl rfl ?_
     refine sy_sq ?_
     refine spN rfl rfl rfl rfl rfl rfl rfl rfl ?_
     refine sy_sq ?_
     refine spN rfl rfl rfl rfl rfl rfl rfl rfl ?_
     refine sy_sq ?_
     refine spN rfl rfl rfl rfl rfl rfl rfl rfl ?_
     refine sy_sq ?_
     refine spN rfl rfl rfl rfl rfl rfl rfl rfl ?_
     refine sy_sq ?_
     refine sp rfl (PE.pick rfl rfl rfl) rfl ?_
     refine sy_sn ?_
     refine sy_nx ?_
     refine sy_condT rfl ?_
     refine sy_seq ?_
     refine sy_tx' [0] rfl ?_
     refine sy_sq ?_
     refine sp rfl (PE.assign rfl) rfl ?_
     refine sy_sn ?_
     refine sy_nx ?_
     refine sy_ret ?_
     refine sy_tr ?_
     exact sy_return (vs := [_]) rfl (.cons (RV.tmp rfl) .nil) rfl ⟨congrArg Value.bool (by
         first
           | (simp [Twn.keeps, hcan]; done)
           | (simp [Twn.keeps, hcan]; omega)
           | (rw [keepsEq ht hcan hb.2]; simp_all; done)
           | (rw [keepsEq ht hcan hb.2]; simp_all; omega)), rfl, rfl⟩ (fun _ h => by repeat first | exact h | replace h := St.tail h | replace h := St.ftail h | replace h := St.drop h)
    ·
     try simp only [decide_eq_true_eq, decide_eq_false_iff_not, Bool.and_eq_true, Bool.or_eq_true, Bool.not_eq_true', Int.not_le, Int.not_lt] at g32
     
     refine spG rfl rfl rfl rfl (PE.fieldAddr fo34_2 rfl) rfl ?_
     refine sy_sq ?_
     refine spLG rfl rfl rfl rfl rfl (lh sc3 rfl rfl) rfl ?_
     refine sy_sq ?_
     refine spG rfl rfl rfl rfl (PE.fieldAddr fo37_4 rfl) rfl ?_
     refine sy_sq ?_
     refine spLG rfl rfl rfl rfl rfl (lh sc3 rfl rfl) rfl ?_
     refine sy_sq ?_
     refine spG rfl rfl rfl rfl (PE.geq rfl rfl) rfl ?_
     refine sy_sq ?_
     refine sp rfl (PE.pick rfl rfl rfl) rfl ?_
     refine sy_sn ?_
     refine sy_nx ?_
     refine sy_cond rfl (fun hc1 => ?_) (fun hc1 => ?_)
     ·
      try simp only [decide_eq_true_eq, decide_eq_false_iff_not, Bool.and_eq_true, Bool.or_eq_true, Bool.not_eq_true', Int.not_le, Int.not_lt] at hc1
      
      refine sy_seq ?_
      refine sy_tx' [0] rfl ?_
      refine sy_sq ?_
      refine sp rfl (PE.assign rfl) rfl ?_
      refine sy_sn ?_
      refine sy_nx ?_
      refine sy_ret ?_
      refine sy_tr ?_
      exact sy_return (vs := [_]) rfl (.cons (RV.tmp rfl) .nil) rfl ⟨congrArg Value.bool (by
          first
            | (simp [Twn.keeps, hcan]; done)
            | (simp [Twn.keeps, hcan]; omega)
            | (rw [keepsEq ht hcan hb.2]; simp_all; done)
            | (rw [keepsEq ht hcan hb.2]; simp_all; omega)), rfl, rfl⟩ (fun _ h => by repeat first | exact h | replace h := St.tail h | replace h := St.ftail h | replace h := St.drop h)
     ·
      try simp only [decide_eq_true_eq, decide_eq_false_iff_not, Bool.and_eq_true, Bool.or_eq_true, Bool.not_eq_true', Int.not_le, Int.not_lt] at hc1
      have hnb := next_right ht hs hqm hcan (bad := true) (fun _ => by omega)
      refine sy_skip ?_
      refine sy_nx ?_
      refine sy_seq ?_
      refine sy_draw [0, 0, 0, 0, 0, 28, 62, 127, 255, 511] (.tk 0 (.ld 1 (.ld 2 (.ld 3 (.tk 4 (.big 5 (.big 6 (.tk 7 (.ld 8 (.tk 9 .done)))))))))) mixed (by kernel_rfl) ?_
      refine tk rfl (PE.move rfl) rfl ?_
      refine ld rfl rfl (lhA [_, _, _, _, _, _, _, _, _, _, _] ag37 rfl rfl rfl) rfl ?_
      refine ld rfl rfl (lhA [_, _, _, _, _, _, _, _, _, _, _] ag37 rfl rfl rfl) rfl ?_
      refine ld rfl rfl (lhA [_, _, _] ag34 rfl rfl rfl) rfl ?_
      refine tk rfl (PE.move rfl) rfl ?_
      refine sy_bg ?_
      refine clV rfl cal100 rfl rfl (c_rAfter t ht s hs r q true ba oa ca h0 hq (can_le hcan) _ _) ?_
      refine bg (fun w hs => ⟨trivial, trivial, (lhA [_, _, _, _, _, _, _, _, _, _, _] ag37 rfl rfl rfl) w hs, trivial⟩) ?_
      refine sy_bg ?_
      refine clV rfl cal84 rfl rfl (c_rIndex t ht _ hnb _ _ _) ?_
      refine bg (fun w hs => ⟨trivial, trivial⟩) ?_
      refine tk rfl (PE.indexAddr el42 rfl rfl (by have := ixr_lt hnb; omega) (by have := ixr_lt hnb; omega)) rfl ?_
      refine ld rfl rfl (lf0 (x := .int .i64 (lat y (t.next s q true))) sc3 (rel_row hrel hnb) rfl) rfl ?_
      refine tk rfl (PE.assign rfl) rfl ?_
      refine sy_dn ?_
      refine sy_nx ?_
      refine sy_seq ?_
      refine sy_tx' [0, 1, 2, 3, 4, 5, 6, 7, 8, 9, 10, 11, 12, 13] rfl ?_
      refine sy_sq ?_
      refine sp rfl (PE.move rfl) rfl ?_
      refine sy_sq ?_
      refine sp rfl (PE.move rfl) rfl ?_
      refine sy_sq ?_
      refine sp rfl (PE.geq rfl rfl) rfl ?_
      refine sy_sq ?_
      refine sp rfl (PE.move rfl) rfl ?_
      refine sy_sq ?_
      refine sy_case (t := 51) rfl (fun g51 => ?_) (fun g51 => ?_)
      ·
       try simp only [decide_eq_true_eq, decide_eq_false_iff_not, Bool.and_eq_true, Bool.or_eq_true, Bool.not_eq_true', Int.not_le, Int.not_lt] at g51
       refine spN rfl rfl rfl rfl rfl rfl rfl rfl ?_
       refine sy_sq ?_
       refine spN rfl rfl rfl rfl rfl rfl rfl rfl ?_
       refine sy_sq ?_
       refine spN rfl rfl rfl rfl rfl rfl rfl rfl ?_
       refine sy_sq ?_
       refine spU rfl rfl rfl rfl rfl rfl rfl ?_
       refine sy_sq ?_
       refine spU rfl rfl rfl rfl rfl rfl rfl ?_
       refine sy_sq ?_
       refine spU rfl rfl rfl rfl rfl rfl rfl ?_
       refine sy_sq ?_
       refine spU rfl rfl rfl rfl rfl rfl rfl ?_
       refine sy_sq ?_
       refine spN rfl rfl rfl rfl rfl rfl rfl rfl ?_
       refine sy_sq ?_
       refine sp rfl (PE.pick rfl rfl rfl) rfl ?_
       refine sy_sq ?_
       refine sp rfl (PE.assign rfl) rfl ?_
       refine sy_sn ?_
       refine sy_nx ?_
       refine sy_ret ?_
       exact sy_return (vs := [_]) rfl (.cons (RV.tmp rfl) .nil) rfl ⟨congrArg Value.bool (by
           first
             | (simp [Twn.keeps, hcan]; done)
             | (simp [Twn.keeps, hcan]; omega)
             | (rw [keepsEq ht hcan hb.2]; simp_all; done)
             | (rw [keepsEq ht hcan hb.2]; simp_all; omega)), rfl, rfl⟩ (fun _ h => by repeat first | exact h | replace h := St.tail h | replace h := St.ftail h | replace h := St.drop h)
      ·
       try simp only [decide_eq_true_eq, decide_eq_false_iff_not, Bool.and_eq_true, Bool.or_eq_true, Bool.not_eq_true', Int.not_le, Int.not_lt] at g51
       refine spG rfl rfl rfl rfl (PE.move rfl) rfl ?_
       refine sy_sq ?_
       refine spG rfl rfl rfl rfl (PE.lss rfl rfl) rfl ?_
       refine sy_sq ?_
       refine spG rfl rfl rfl rfl (PE.move rfl) rfl ?_
       refine sy_sq ?_
       refine sy_case (t := 54) rfl (fun g54 => ?_) (fun g54 => ?_)
       ·
        try simp only [decide_eq_true_eq, decide_eq_false_iff_not, Bool.and_eq_true, Bool.or_eq_true, Bool.not_eq_true', Int.not_le, Int.not_lt] at g54
        refine spG rfl rfl rfl rfl (PE.move rfl) rfl ?_
        refine sy_sq ?_
        refine spG rfl rfl rfl rfl (PE.move rfl) rfl ?_
        refine sy_sq ?_
        refine spG rfl rfl rfl rfl (PE.sub rfl rfl (by omega)) rfl ?_
        refine sy_sq ?_
        refine spG rfl rfl rfl rfl (PE.geq rfl rfl) rfl ?_
        refine sy_sq ?_
        refine spG rfl rfl rfl rfl (PE.pick rfl rfl rfl) rfl ?_
        refine sy_sq ?_
        refine sp rfl (PE.pick rfl rfl rfl) rfl ?_
        refine sy_sq ?_
        refine sp rfl (PE.assign rfl) rfl ?_
        refine sy_sn ?_
        refine sy_nx ?_
        refine sy_ret ?_
        exact sy_return (vs := [_]) rfl (.cons (RV.tmp rfl) .nil) rfl ⟨congrArg Value.bool (by
            first
              | (simp [Twn.keeps, hcan]; done)
              | (simp [Twn.keeps, hcan]; omega)
              | (rw [keepsEq ht hcan hb.2]; simp_all; done)
              | (rw [keepsEq ht hcan hb.2]; simp_all; omega)), rfl, rfl⟩ (fun _ h => by repeat first | exact h | replace h := St.tail h | replace h := St.ftail h | replace h := St.drop h)
       ·
        try simp only [decide_eq_true_eq, decide_eq_false_iff_not, Bool.and_eq_true, Bool.or_eq_true, Bool.not_eq_true', Int.not_le, Int.not_lt] at g54
        refine spN rfl rfl rfl rfl rfl rfl rfl rfl ?_
        refine sy_sq ?_
        refine spN rfl rfl rfl rfl rfl rfl rfl rfl ?_
        refine sy_sq ?_
        refine spN rfl rfl rfl rfl rfl rfl rfl rfl ?_
        refine sy_sq ?_
        refine spN rfl rfl rfl rfl rfl rfl rfl rfl ?_
        refine sy_sq ?_
        refine spG rfl rfl rfl rfl (PE.pick rfl rfl rfl) rfl ?_
        refine sy_sq ?_
        refine sp rfl (PE.pick rfl rfl rfl) rfl ?_
        refine sy_sq ?_
        refine sp rfl (PE.assign rfl) rfl ?_
        refine sy_sn ?_
        refine sy_nx ?_
        refine sy_ret ?_
        exact sy_return (vs := [_]) rfl (.cons (RV.tmp rfl) .nil) rfl ⟨congrArg Value.bool (by
            first
              | (simp [Twn.keeps, hcan]; done)
              | (simp [Twn.keeps, hcan]; omega)
              | (rw [keepsEq ht hcan hb.2]; simp_all; done)
              | (rw [keepsEq ht hcan hb.2]; simp_all; omega)), rfl, rfl⟩ (fun _ h => by repeat first | exact h | replace h := St.tail h | replace h := St.ftail h | replace h := St.drop h)

theorem c_rChoose (t : Twn) (ht : t.ok) (ba oa ca : Nat) (la y : List Int) (hrel : Rel t la y) (bl ol cl : Nat) (hb0 : 0 ≤ lat y t.now ∧ lat y t.now ≤ 1000000) (H : Heap) (R : Facts) [hR : MemRows (some ⟨ba, oa, none⟩) 2 (rrows t.rats) R] [hL : MemRows (some ⟨bl, ol, none⟩) 1 (irows la) R] :
    Fn Try.prog 40 [t.v (t.sl (some ⟨ba, oa, none⟩) ca), .slice (some ⟨bl, ol, none⟩) t.nst cl] H R (fun v H' R' => ∃ o : OSl 3 1 (irows (pickU (fun q => t.keeps y t.now q (lat y t.now)) t.rats t.rats.length)), v = o.fs ∧ H' = o.G ++ H ∧ R' = R) := by
  have hlen := ht.many
  refine fn_of Try.func40 rfl Try.ntmps40 rfl ?_
  refine sy_seq ?_
  refine sy_tx' [0, 1] rfl ?_
  refine sy_sq ?_
  refine bx rfl rfl rfl (fun b2 => ?_)
  refine sy_sq ?_
  refine sp rfl (PE.assign rfl) rfl ?_
  refine sy_sn ?_
  refine sy_nx ?_
  refine sy_seq ?_
  refine sy_tx' [0] rfl ?_
  refine sy_sq ?_
  refine sp rfl (PE.assign rfl) rfl ?_
  refine sy_sn ?_
  refine sy_nx ?_
  refine sy_seq ?_
  refine sy_seq ?_
  refine sy_tx' [0] rfl ?_
  refine sy_sq ?_
  refine sp rfl (PE.assign rfl) rfl ?_
  refine sy_sn ?_
  refine sy_nx ?_
  refine sy_block ?_
  refine sy_loop (ι := (k : {k : Nat // k ≤ t.rats.length}) × OSl 3 1 (irows (pickU (fun q => t.keeps y t.now q (lat y t.now)) t.rats k.1))) (fun x => ⟨[(1, .slice (some ⟨bl, ol, none⟩) t.nst cl), (2, .pointer (some ⟨b2, 0, none⟩)), (5, x.2.fs), (6, .int .i64 x.1.1)], x.2.G ++ (b2, cel 37 (twl t (t.sl (some ⟨ba, oa, none⟩) ca))) :: H, R⟩) (fun x => t.rats.length - x.1.1) ⟨⟨0, by omega⟩, OSl.nil _ _⟩ ?_ (fun x => ?_)
  ·
   exact sy_at (by repeat' first | exact Sub.nil | apply Sub.cons | rfl | (simp [lk]; omega)) (fun _ h => h)
  ·
   obtain ⟨⟨k, hk⟩, o'⟩ := x
   dsimp only at o' ⊢
   refine sy_seq ?_
   refine sy_seq ?_
   refine sy_tx' [0, 1, 2, 3, 4] rfl ?_
   refine sy_sq ?_
   refine sp rfl (PE.move rfl) rfl ?_
   refine sy_sq ?_
   refine sp rfl (PE.fieldAddr fo37_8 rfl) rfl ?_
   refine sy_sq ?_
   refine spL rfl rfl (lh sc35 rfl rfl) rfl ?_
   refine sy_sq ?_
   refine sp rfl (PE.lenSl isl35 rfl) rfl ?_
   refine sy_sq ?_
   refine sp rfl (PE.lss rfl rfl) rfl ?_
   refine sy_sn ?_
   refine sy_nx ?_
   refine sy_cond rfl (fun hc0 => ?_) (fun hc0 => ?_)
   ·
    try simp only [decide_eq_true_eq, decide_eq_false_iff_not, Bool.and_eq_true, Bool.or_eq_true, Bool.not_eq_true', Int.not_le, Int.not_lt] at hc0
    obtain ⟨q, hq⟩ : ∃ q, t.rats[k]? = some q := ⟨_, List.getElem?_eq_getElem (by omega)⟩
    refine sy_skip ?_
    refine sy_nx ?_
    refine sy_seq ?_
    refine sy_block ?_
    refine sy_seq ?_
    refine sy_draw [0, 0, 0, 4, 0, 0, 0, 0, 128, 480, 1023] (.ld 0 (.tk 1 (.tk 2 (.ld 3 (.tk 4 (.ld 5 (.tk 6 (.tk 7 (.ld 8 (.big 9 (.big 10 .done))))))))))) mixed (by kernel_rfl) ?_
    refine ld rfl rfl (lhA [_, _, _, _, _, _, _, _, _, _, _] ag37 rfl rfl rfl) rfl ?_
    refine tk rfl (PE.move rfl) rfl ?_
    refine tk rfl (PE.fieldAddr fo37_0 rfl) rfl ?_
    refine ld rfl rfl (lhA [_, _, _] ag34 rfl rfl rfl) rfl ?_
    refine tk rfl (PE.move rfl) rfl ?_
    refine ld rfl rfl (lhA [_, _, _, _, _, _, _, _, _, _, _] ag37 rfl rfl rfl) rfl ?_
    refine tk rfl (PE.move rfl) rfl ?_
    refine tk rfl (PE.fieldAddr fo37_0 rfl) rfl ?_
    refine ld rfl rfl (lhA [_, _, _] ag34 rfl rfl rfl) rfl ?_
    refine sy_bg ?_
    refine clV rfl cal21 rfl rfl (c_rLasts t ht t.now ht.now _ la y hrel bl ol cl _ _) ?_
    refine bg (fun w hs => ⟨trivial, trivial, (lhA [_, _, _] ag34 rfl rfl rfl) w hs, (lhA [_, _, _, _, _, _, _, _, _, _, _] ag37 rfl rfl rfl) w hs, trivial⟩) ?_
    refine sy_bg ?_
    refine clV rfl cal88 rfl rfl (c_rKeeps t ht t.now ht.now k q (by omega) (by simpa using hq) (lat y t.now) hb0 ba oa ca la y hrel bl ol cl _ _) ?_
    refine bg (fun w hs => ⟨trivial, trivial, trivial⟩) ?_
    refine sy_dn ?_
    refine sy_nx ?_
    refine sy_cond rfl (fun hc1 => ?_) (fun hc1 => ?_)
    ·
     have e := pickU_succ (p := fun q => t.keeps y t.now q (lat y t.now)) hq
     rw [hc1, cond_true] at e
     refine sy_tx' [0, 1, 2, 3, 4] rfl ?_
     refine sy_sq ?_
     refine sp rfl (PE.move rfl) rfl ?_
     refine sy_sq ?_
     refine sp rfl (PE.move rfl) rfl ?_
     refine sy_sq ?_
     refine bsl (out := [_]) rfl sl42 zl3 rfl rfl rfl rfl rfl rfl (fun b27 => ?_)
     refine sy_sq ?_
     refine apO (o') rfl ap42 rfl rfl (rowsH (row := [.int .i64 k]) rfl) rfl rfl ((by have := pickU_len (fun q => t.keeps y t.now q (lat y t.now)) t.rats k; simp only [irows, List.length_map, List.length_singleton]; omega)) rfl (fun o28 => ?_)
     refine sy_sq ?_
     refine sp rfl (PE.assign rfl) rfl ?_
     refine sy_sn ?_
     refine sy_bn ?_
     refine sy_nx ?_
     refine sy_tx' [0, 1, 2] rfl ?_
     refine sy_sq ?_
     refine sp rfl (PE.move rfl) rfl ?_
     refine sy_sq ?_
     refine sp rfl (PE.add rfl rfl (by omega)) rfl ?_
     refine sy_sq ?_
     refine sp rfl (PE.assign rfl) rfl ?_
     refine sy_sn ?_
     refine sy_nx ?_
     first
       | exact sy_next ⟨⟨k + 1, by omega⟩, o28.cast (by rw [e]; simp [irows])⟩ (by dsimp only; omega) (by repeat' first | exact Sub.nil | apply Sub.cons | rfl | (simp [lk]; omega)) (fun w h => h.del b27)
       | exact sy_next ⟨⟨k + 1, by omega⟩, o'.cast (by rw [e])⟩ (by dsimp only; omega) (by repeat' first | exact Sub.nil | apply Sub.cons | rfl | (simp [lk]; omega)) (fun w h => h)
    ·
     have e := pickU_succ (p := fun q => t.keeps y t.now q (lat y t.now)) hq
     rw [hc1, cond_false] at e
     refine sy_skip ?_
     refine sy_bn ?_
     refine sy_nx ?_
     refine sy_tx' [0, 1, 2] rfl ?_
     refine sy_sq ?_
     refine sp rfl (PE.move rfl) rfl ?_
     refine sy_sq ?_
     refine sp rfl (PE.add rfl rfl (by omega)) rfl ?_
     refine sy_sq ?_
     refine sp rfl (PE.assign rfl) rfl ?_
     refine sy_sn ?_
     refine sy_nx ?_
     first
       | exact sy_next ⟨⟨k + 1, by omega⟩, o28.cast (by rw [e]; simp [irows])⟩ (by dsimp only; omega) (by repeat' first | exact Sub.nil | apply Sub.cons | rfl | (simp [lk]; omega)) (fun w h => h.del b27)
       | exact sy_next ⟨⟨k + 1, by omega⟩, o'.cast (by rw [e])⟩ (by dsimp only; omega) (by repeat' first | exact Sub.nil | apply Sub.cons | rfl | (simp [lk]; omega)) (fun w h => h)
   ·
    try simp only [decide_eq_true_eq, decide_eq_false_iff_not, Bool.and_eq_true, Bool.or_eq_true, Bool.not_eq_true', Int.not_le, Int.not_lt] at hc0
    obtain rfl : k = t.rats.length := by omega
    refine sy_exit ?_
    refine sy_tx ?_
    refine sy_tx ?_
    refine sy_bx ?_
    refine sy_nx ?_
    refine sy_seq ?_
    refine sy_tx' [0, 1] rfl ?_
    refine sy_sq ?_
    refine sp rfl (PE.move rfl) rfl ?_
    refine sy_sq ?_
    refine sp rfl (PE.assign rfl) rfl ?_
    refine sy_sn ?_
    refine sy_nx ?_
    refine sy_ret ?_
    exact sy_return (vs := [_]) rfl (.cons (RV.tmp rfl) .nil) rfl ⟨o', rfl, rfl, rfl⟩ (fun w h => h.del b2)

theorem c_rNeeds (t : Twn) (ht : t.ok) (bads : Int) (sl : Value) (la y : List Int) (hrel : Rel t la y) (bl ol cl : Nat) (H : Heap) (R : Facts) [hL : MemRows (some ⟨bl, ol, none⟩) 1 (irows la) R] :
    FnV Try.prog 41 [t.v sl, .slice (some ⟨bl, ol, none⟩) t.nst cl, .int .i64 bads] H R (.tuple #[.int .i64 ((needO t y bads).getD 0), .bool (needO t y bads).isSome]) := by
  have h1 := ht.holds
  have hn := right_iff.1 ht.now
  refine fn_of Try.func41 rfl Try.ntmps41 rfl ?_
  refine sy_seq ?_
  refine sy_tx' [0, 1, 2] rfl ?_
  refine sy_sq ?_
  refine bx rfl rfl rfl (fun b3 => ?_)
  refine sy_sq ?_
  refine sp rfl (PE.assign rfl) rfl ?_
  refine sy_sq ?_
  refine sp rfl (PE.assign rfl) rfl ?_
  refine sy_sn ?_
  refine sy_nx ?_
  refine sy_seq ?_
  refine sy_seq ?_
  refine sy_tx' [0] rfl ?_
  refine sy_sq ?_
  refine sp rfl (PE.assign rfl) rfl ?_
  refine sy_sn ?_
  refine sy_nx ?_
  refine sy_block ?_
  refine sy_loop (ι := {k : Nat // k ≤ t.holds.toNat + 1 ∧ ∀ j : Nat, j < k → ¬ bads ≤ lat y ⟨j, t.now.short, t.now.dry⟩}) (fun k => ⟨[(1, .slice (some ⟨bl, ol, none⟩) t.nst cl), (2, .int .i64 bads), (3, .pointer (some ⟨b3, 0, none⟩)), (8, .int .i64 k.1)], (b3, cel 37 (twl t sl)) :: H, R⟩) (fun k => t.holds.toNat + 1 - k.1) ⟨0, by omega, by omega⟩ ?_ (fun k => ?_)
  ·
   exact sy_at (by repeat' first | exact Sub.nil | apply Sub.cons | rfl | (simp [lk]; omega)) (fun _ h => h)
  ·
   obtain ⟨k, hk, hno⟩ := k
   dsimp only
   refine sy_seq ?_
   refine sy_seq ?_
   refine sy_tx' [0, 1, 2, 3] rfl ?_
   refine sy_sq ?_
   refine sp rfl (PE.move rfl) rfl ?_
   refine sy_sq ?_
   refine sp rfl (PE.fieldAddr fo37_1 rfl) rfl ?_
   refine sy_sq ?_
   refine spL rfl rfl (lh sc3 rfl rfl) rfl ?_
   refine sy_sq ?_
   refine sp rfl (PE.leq rfl rfl) rfl ?_
   refine sy_sn ?_
   refine sy_nx ?_
   refine sy_cond rfl (fun hc0 => ?_) (fun hc0 => ?_)
   ·
    try simp only [decide_eq_true_eq, decide_eq_false_iff_not, Bool.and_eq_true, Bool.or_eq_true, Bool.not_eq_true', Int.not_le, Int.not_lt] at hc0
    have hs : Sta.right t ⟨k, t.now.short, t.now.dry⟩ = true := right_iff.2 ⟨⟨by simp, hc0⟩, hn.2⟩
    refine sy_skip ?_
    refine sy_nx ?_
    refine sy_seq ?_
    refine sy_block ?_
    refine sy_seq ?_
    refine sy_tx' [0, 1, 2, 3, 4, 5, 6, 7, 8, 9, 10, 11, 12] rfl ?_
    refine sy_sq ?_
    refine spL rfl rfl (lhA [_, _, _, _, _, _, _, _, _, _, _] ag37 rfl rfl rfl) rfl ?_
    refine sy_sq ?_
    refine sp rfl (PE.move rfl) rfl ?_
    refine sy_sq ?_
    refine sp rfl (PE.move rfl) rfl ?_
    refine sy_sq ?_
    refine sp rfl (PE.fieldAddr fo37_0 rfl) rfl ?_
    refine sy_sq ?_
    refine sp rfl (PE.fieldAddr fo34_1 rfl) rfl ?_
    refine sy_sq ?_
    refine spL rfl rfl (lh sc3 rfl rfl) rfl ?_
    refine sy_sq ?_
    refine sp rfl (PE.fieldAddr fo37_0 rfl) rfl ?_
    refine sy_sq ?_
    refine sp rfl (PE.fieldAddr fo34_2 rfl) rfl ?_
    refine sy_sq ?_
    refine spL rfl rfl (lh sc3 rfl rfl) rfl ?_
    refine sy_sq ?_
    refine sp rfl (PE.build (out := [_, _, _]) pl34 zl34 rfl rfl) rfl ?_
    refine sy_sq ?_
    refine clV rfl cal21 rfl rfl (c_rLasts t ht ⟨k, t.now.short, t.now.dry⟩ hs _ la y hrel bl ol cl _ _) ?_
    refine sy_sq ?_
    refine sp rfl (PE.move rfl) rfl ?_
    refine sy_sq ?_
    refine sp rfl (PE.geq rfl rfl) rfl ?_
    refine sy_sn ?_
    refine sy_nx ?_
    refine sy_cond rfl (fun hc1 => ?_) (fun hc1 => ?_)
    ·
     try simp only [decide_eq_true_eq, decide_eq_false_iff_not, Bool.and_eq_true, Bool.or_eq_true, Bool.not_eq_true', Int.not_le, Int.not_lt] at hc1
     have hres := need_hit ht hc0 hc1 hno
     refine sy_seq ?_
     refine sy_tx' [0, 1, 2] rfl ?_
     refine sy_sq ?_
     refine sp rfl (PE.move rfl) rfl ?_
     refine sy_sq ?_
     refine sp rfl (PE.assign rfl) rfl ?_
     refine sy_sq ?_
     refine sp rfl (PE.assign rfl) rfl ?_
     refine sy_sn ?_
     refine sy_nx ?_
     refine sy_ret ?_
     refine sy_br ?_
     refine sy_tr ?_
     refine sy_tr ?_
     refine sy_br ?_
     refine sy_tr ?_
     exact sy_return (vs := [_, _]) rfl (.cons (RV.tmp rfl) (.cons (RV.tmp rfl) .nil)) (by rw [hres]; rfl) ⟨rfl, rfl, rfl⟩ (fun _ h => by repeat first | exact h | replace h := St.tail h | replace h := St.ftail h | replace h := St.drop h)
    ·
     try simp only [decide_eq_true_eq, decide_eq_false_iff_not, Bool.and_eq_true, Bool.or_eq_true, Bool.not_eq_true', Int.not_le, Int.not_lt] at hc1
     
     refine sy_skip ?_
     refine sy_bn ?_
     refine sy_nx ?_
     refine sy_tx' [0, 1, 2] rfl ?_
     refine sy_sq ?_
     refine sp rfl (PE.move rfl) rfl ?_
     refine sy_sq ?_
     refine sp rfl (PE.add rfl rfl (by omega)) rfl ?_
     refine sy_sq ?_
     refine sp rfl (PE.assign rfl) rfl ?_
     refine sy_sn ?_
     refine sy_nx ?_
     exact sy_next ⟨k + 1, by omega, fun j hj => by
       rcases Nat.lt_or_ge j k with h1 | h1
       · exact hno j h1
       · obtain rfl : j = k := by omega
         omega⟩ (by dsimp only; omega) (by repeat' first | exact Sub.nil | apply Sub.cons | rfl | (simp [lk]; omega)) (fun _ h => h)
   ·
    try simp only [decide_eq_true_eq, decide_eq_false_iff_not, Bool.and_eq_true, Bool.or_eq_true, Bool.not_eq_true', Int.not_le, Int.not_lt] at hc0
    have hres := need_miss ht (y := y) (bads := bads) (fun j hj => hno j (by omega))
    refine sy_exit ?_
    refine sy_tx ?_
    refine sy_tx ?_
    refine sy_bx ?_
    refine sy_nx ?_
    refine sy_seq ?_
    refine sy_tx' [0, 1] rfl ?_
    refine sy_sq ?_
    refine sp rfl (PE.assign rfl) rfl ?_
    refine sy_sq ?_
    refine sp rfl (PE.assign rfl) rfl ?_
    refine sy_sn ?_
    refine sy_nx ?_
    refine sy_ret ?_
    exact sy_return (vs := [_, _]) rfl (.cons (RV.tmp rfl) (.cons (RV.tmp rfl) .nil)) (by rw [hres]; rfl) ⟨rfl, rfl, rfl⟩ (fun _ h => by repeat first | exact h | replace h := St.tail h | replace h := St.ftail h | replace h := St.drop h)

theorem rat_off {t : Twn} {r : Int} (h : (!(decide (0 ≤ r) && decide (r ≤ (t.rats.length : Int) - 1))) = true) : t.rat r = none := rat_none (by rw [← Bool.not_eq_true']; exact h)
theorem rat_on {t : Twn} {r : Int} (h : (!(decide (0 ≤ r) && decide (r ≤ (t.rats.length : Int) - 1))) = false) : 0 ≤ r ∧ ∃ q, t.rats[r.toNat]? = some q := rat_in (by rw [← Bool.not_eq_false']; exact h)
def soldE (t : Twn) (s : Sta) (r : Int) : Int := match t.rat r with
  | none => 1
  | some q => bif t.can s q then 0 else 9

theorem c_rSold (t : Twn) (s : Sta) (r : Int) (ba oa ca : Nat) (hl : t.rats.length ≤ 1000000) (H : Heap) (R : Facts) [hR : MemRows (some ⟨ba, oa, none⟩) 2 (rrows t.rats) R] :
    FnV Try.prog 87 [t.v (t.sl (some ⟨ba, oa, none⟩) ca), s.v, .int .i64 r] H R (.int .i64 (soldE t s r)) := by
  refine fn_of Try.func87 rfl Try.ntmps87 rfl ?_
  refine sy_seq ?_
  refine sy_tx' [0, 1, 2] rfl ?_
  refine sy_sq ?_
  refine bx rfl rfl rfl (fun b3 => ?_)
  refine sy_sq ?_
  refine bx rfl rfl rfl (fun b4 => ?_)
  refine sy_sq ?_
  refine sp rfl (PE.assign rfl) rfl ?_
  refine sy_sn ?_
  refine sy_nx ?_
  refine sy_seq ?_
  refine sy_seq ?_
  refine sy_tx' [0, 1, 2, 3, 4, 5] rfl ?_
  refine sy_sq ?_
  refine sp rfl (PE.move rfl) rfl ?_
  refine sy_sq ?_
  refine sp rfl (PE.fieldAddr fo37_8 rfl) rfl ?_
  refine sy_sq ?_
  refine spL rfl rfl (lh sc35 rfl rfl) rfl ?_
  refine sy_sq ?_
  refine sp rfl (PE.lenSl isl35 rfl) rfl ?_
  refine sy_sq ?_
  refine sp rfl (PE.sub rfl rfl (by omega)) rfl ?_
  refine sy_sq ?_
  refine clV rfl cal83 rfl rfl (c_off _ _ _ _ _) ?_
  refine sy_sn ?_
  refine sy_nx ?_
  refine sy_cond rfl (fun hc0 => ?_) (fun hc0 => ?_)
  ·
   have hres : soldE t s r = 1 := by unfold soldE; rw [rat_off hc0]
   refine sy_seq ?_
   refine sy_tx' [0] rfl ?_
   refine sy_sq ?_
   refine sp rfl (PE.assign rfl) rfl ?_
   refine sy_sn ?_
   refine sy_nx ?_
   refine sy_ret ?_
   refine sy_tr ?_
   exact sy_return (vs := [_]) rfl (.cons (RV.tmp rfl) .nil) rfl ⟨congrArg (Value.int .i64) hres.symm, rfl, rfl⟩ (fun _ h => by repeat first | exact h | replace h := St.tail h | replace h := St.ftail h | replace h := St.drop h)
  ·
   obtain ⟨h0, q, hq⟩ := rat_on hc0
   have hrt := rat_iff.2 ⟨h0, hq⟩
   refine sy_skip ?_
   refine sy_nx ?_
   refine sy_seq ?_
   refine sy_seq ?_
   refine sy_tx' [0, 1, 2, 3, 4] rfl ?_
   refine sy_sq ?_
   refine spL rfl rfl (lhA [_, _, _, _, _, _, _, _, _, _, _] ag37 rfl rfl rfl) rfl ?_
   refine sy_sq ?_
   refine spL rfl rfl (lhA [_, _, _] ag34 rfl rfl rfl) rfl ?_
   refine sy_sq ?_
   refine sp rfl (PE.move rfl) rfl ?_
   refine sy_sq ?_
   refine clV rfl cal118 rfl rfl (c_rCan t s r q ba oa ca h0 hq _ _) ?_
   refine sy_sq ?_
   refine sp rfl (PE.not rfl) rfl ?_
   refine sy_sn ?_
   refine sy_nx ?_
   refine sy_cond rfl (fun hc1 => ?_) (fun hc1 => ?_)
   ·
    have hres : soldE t s r = 9 := by unfold soldE; rw [hrt]; simp at hc1; simp [hc1]
    refine sy_seq ?_
    refine sy_tx' [0] rfl ?_
    refine sy_sq ?_
    refine sp rfl (PE.assign rfl) rfl ?_
    refine sy_sn ?_
    refine sy_nx ?_
    refine sy_ret ?_
    refine sy_tr ?_
    exact sy_return (vs := [_]) rfl (.cons (RV.tmp rfl) .nil) rfl ⟨congrArg (Value.int .i64) hres.symm, rfl, rfl⟩ (fun _ h => by repeat first | exact h | replace h := St.tail h | replace h := St.ftail h | replace h := St.drop h)
   ·
    have hres : soldE t s r = 0 := by unfold soldE; rw [hrt]; simp at hc1; simp [hc1]
    refine sy_skip ?_
    refine sy_nx ?_
    refine sy_seq ?_
    refine sy_tx' [0] rfl ?_
    refine sy_sq ?_
    refine sp rfl (PE.assign rfl) rfl ?_
    refine sy_sn ?_
    refine sy_nx ?_
    refine sy_ret ?_
    exact sy_return (vs := [_]) rfl (.cons (RV.tmp rfl) .nil) rfl ⟨congrArg (Value.int .i64) hres.symm, rfl, rfl⟩ (fun _ h => by repeat first | exact h | replace h := St.tail h | replace h := St.ftail h | replace h := St.drop h)

def StQ (t : Twn) (s : Sta) (sl : Value) (H : Heap) (R : Facts) : Value → Heap → Facts → Prop := fun v H' R' =>
  (t.check ≠ 0 ∧ v = .tuple #[.pointer none, .int .i64 t.check] ∧ H' = H ∧ R' = R) ∨
  (t.check = 0 ∧ s.right t = false ∧ v = .tuple #[.pointer none, .int .i64 3] ∧ H' = H ∧ R' = R) ∨
  (t.check = 0 ∧ s.right t = true ∧ ∃ bw m bt, v = .tuple #[.pointer (some ⟨bw, 0, none⟩), .int .i64 0] ∧ H' = (bw, cel 153 (rcs t sl bt (List.replicate 496 0) (.slice none 0 0) m)) :: (m, mapO true []) :: H ∧ R' = RowsA (some ⟨bt, 0, none⟩) 11 [twl t sl] :: R)

theorem c_state (t : Twn) (s : Sta) (hl : t.rats.length ≤ 9223372036854775807) (ba oa ca : Nat) (H : Heap) (R : Facts) [hR : MemRows (some ⟨ba, oa, none⟩) 2 (rrows t.rats) R] :
    Fn Try.prog 107 [t.v (t.sl (some ⟨ba, oa, none⟩) ca), s.v] H R (StQ t s (t.sl (some ⟨ba, oa, none⟩) ca) H R) := by
  refine fn_of Try.func107 rfl Try.ntmps107 rfl ?_
  refine sy_seq ?_
  refine sy_tx' [0, 1, 2, 3] rfl ?_
  refine sy_sq ?_
  refine bx rfl rfl rfl (fun b2 => ?_)
  refine sy_sq ?_
  refine bx rfl rfl rfl (fun b3 => ?_)
  refine sy_sq ?_
  refine sp rfl (PE.assign rfl) rfl ?_
  refine sy_sq ?_
  refine sp rfl (PE.assign rfl) rfl ?_
  refine sy_sn ?_
  refine sy_nx ?_
  refine sy_seq ?_
  refine sy_tx' [0, 1, 2, 3, 4, 5, 6] rfl ?_
  refine sy_sq ?_
  refine spL rfl rfl (lhA [_, _, _, _, _, _, _, _, _, _, _] ag26 rfl rfl rfl) rfl ?_
  refine sy_sq ?_
  refine cl rfl cal89 rfl rfl (c_opened t hl ba oa ca _ _) ?_
  rintro _ _ _ (⟨hck, rfl, rfl, rfl⟩ | ⟨hck, bw, m, bt, rfl, rfl, rfl⟩)
  ·
   refine sy_sq ?_
   refine sp rfl (PE.move rfl) rfl ?_
   refine sy_sq ?_
   refine sp rfl (PE.extract rfl rfl) rfl ?_
   refine sy_sq ?_
   refine sp rfl (PE.extract rfl rfl) rfl ?_
   refine sy_sq ?_
   refine sp rfl (PE.assign rfl) rfl ?_
   refine sy_sq ?_
   refine sp rfl (PE.assign rfl) rfl ?_
   refine sy_sn ?_
   refine sy_nx ?_
   refine sy_seq ?_
   refine sy_block ?_
   refine sy_seq ?_
   refine sy_tx' [0, 1, 2] rfl ?_
   refine sy_sq ?_
   refine sp rfl (PE.move rfl) rfl ?_
   refine sy_sq ?_
   refine sp rfl (PE.neq rfl rfl) rfl ?_
   refine sy_sq ?_
   refine sp rfl (PE.assign rfl) rfl ?_
   refine sy_sn ?_
   refine sy_nx ?_
   refine sy_condT (congrArg (fun b => some (Value.bool b)) (decide_eq_true hck)) ?_
   refine sy_seq ?_
   refine sy_tx' [0, 1, 2] rfl ?_
   refine sy_sq ?_
   refine sp rfl (PE.move rfl) rfl ?_
   refine sy_sq ?_
   refine sp rfl (PE.assign rfl) rfl ?_
   refine sy_sq ?_
   refine sp rfl (PE.assign rfl) rfl ?_
   refine sy_sn ?_
   refine sy_nx ?_
   refine sy_ret ?_
   refine sy_br ?_
   refine sy_tr ?_
   exact sy_return (vs := [_, _]) rfl (.cons (RV.tmp rfl) (.cons (RV.tmp rfl) .nil)) rfl (.inl ⟨hck, rfl, rfl, rfl⟩) (fun _ h => by repeat first | exact h | replace h := St.tail h | replace h := St.ftail h | replace h := St.drop h)
  ·
   refine sy_sq ?_
   refine sp rfl (PE.move rfl) rfl ?_
   refine sy_sq ?_
   refine sp rfl (PE.extract rfl rfl) rfl ?_
   refine sy_sq ?_
   refine sp rfl (PE.extract rfl rfl) rfl ?_
   refine sy_sq ?_
   refine sp rfl (PE.assign rfl) rfl ?_
   refine sy_sq ?_
   refine sp rfl (PE.assign rfl) rfl ?_
   refine sy_sn ?_
   refine sy_nx ?_
   refine sy_seq ?_
   refine sy_block ?_
   refine sy_seq ?_
   refine sy_tx' [0, 1, 2] rfl ?_
   refine sy_sq ?_
   refine sp rfl (PE.move rfl) rfl ?_
   refine sy_sq ?_
   refine sp rfl (PE.neq rfl rfl) rfl ?_
   refine sy_sq ?_
   refine sp rfl (PE.assign rfl) rfl ?_
   refine sy_sn ?_
   refine sy_nx ?_
   refine sy_condF (rfl) ?_
   refine sy_seq ?_
   refine sy_tx' [0, 1, 2, 3, 4] rfl ?_
   refine sy_sq ?_
   refine spL rfl rfl (lhA [_, _, _, _, _, _, _, _, _, _, _] ag26 rfl rfl rfl) rfl ?_
   refine sy_sq ?_
   refine spL rfl rfl (lhA [_, _, _] ag23 rfl rfl rfl) rfl ?_
   refine sy_sq ?_
   refine clV rfl cal91 rfl rfl (c_right t s _ _ _) ?_
   refine sy_sq ?_
   refine sp rfl (PE.not rfl) rfl ?_
   refine sy_sq ?_
   refine sp rfl (PE.assign rfl) rfl ?_
   refine sy_sn ?_
   refine sy_nx ?_
   refine sy_cond rfl (fun hc1 => ?_) (fun hc1 => ?_)
   ·
    have hrt : s.right t = false := by rw [← Bool.not_eq_true']; exact hc1
    refine sy_seq ?_
    refine sy_tx' [0, 1] rfl ?_
    refine sy_sq ?_
    refine sp rfl (PE.assign rfl) rfl ?_
    refine sy_sq ?_
    refine sp rfl (PE.assign rfl) rfl ?_
    refine sy_sn ?_
    refine sy_nx ?_
    refine sy_ret ?_
    refine sy_br ?_
    refine sy_tr ?_
    first
      | exact sy_return (vs := [_, _]) rfl (.cons (RV.tmp rfl) (.cons (RV.tmp rfl) .nil)) rfl (.inr (.inl ⟨hck, hrt, rfl, rfl, rfl⟩)) (fun w h => ((((h.del b2).del b3).del bw).del m).ftail)
      | exact sy_return (vs := [_, _]) rfl (.cons (RV.tmp rfl) (.cons (RV.tmp rfl) .nil)) rfl (.inr (.inr ⟨hck, hrt, bw, m, bt, rfl, rfl, rfl⟩)) (fun w h => (h.del b2).del b3)
   ·
    have hrt : s.right t = true := by rw [← Bool.not_eq_false']; exact hc1
    refine sy_skip ?_
    refine sy_bn ?_
    refine sy_nx ?_
    refine sy_seq ?_
    refine sy_tx' [0, 1, 2] rfl ?_
    refine sy_sq ?_
    refine sp rfl (PE.move rfl) rfl ?_
    refine sy_sq ?_
    refine sp rfl (PE.assign rfl) rfl ?_
    refine sy_sq ?_
    refine sp rfl (PE.assign rfl) rfl ?_
    refine sy_sn ?_
    refine sy_nx ?_
    refine sy_ret ?_
    first
      | exact sy_return (vs := [_, _]) rfl (.cons (RV.tmp rfl) (.cons (RV.tmp rfl) .nil)) rfl (.inr (.inl ⟨hck, hrt, rfl, rfl, rfl⟩)) (fun w h => ((((h.del b2).del b3).del bw).del m).ftail)
      | exact sy_return (vs := [_, _]) rfl (.cons (RV.tmp rfl) (.cons (RV.tmp rfl) .nil)) rfl (.inr (.inr ⟨hck, hrt, bw, m, bt, rfl, rfl, rfl⟩)) (fun w h => (h.del b2).del b3)

theorem c_From (t : Twn) (s : Sta) (hl : t.rats.length ≤ 9223372036854775807) (ba oa ca : Nat) (H : Heap) (R : Facts) [hR : MemRows (some ⟨ba, oa, none⟩) 2 (rrows t.rats) R] :
    FnV Try.prog 43 [t.v (t.sl (some ⟨ba, oa, none⟩) ca), s.v] H R (.tuple #[.int .i64 (fromP t s).1, .int .i64 (fromP t s).2]) := by
  refine fn_of Try.func43 rfl Try.ntmps43 rfl ?_
  refine sy_seq ?_
  refine sy_tx' [0, 1, 2, 3] rfl ?_
  refine sy_sq ?_
  refine bx rfl rfl rfl (fun b2 => ?_)
  refine sy_sq ?_
  refine bx rfl rfl rfl (fun b3 => ?_)
  refine sy_sq ?_
  refine sp rfl (PE.assign rfl) rfl ?_
  refine sy_sq ?_
  refine sp rfl (PE.assign rfl) rfl ?_
  refine sy_sn ?_
  refine sy_nx ?_
  refine sy_seq ?_
  refine sy_seq ?_
  refine sy_tx' [0, 1, 2, 3, 4, 5, 6, 7] rfl ?_
  refine sy_sq ?_
  refine spL rfl rfl (lhA [_, _, _, _, _, _, _, _, _, _, _] ag26 rfl rfl rfl) rfl ?_
  refine sy_sq ?_
  refine spL rfl rfl (lhA [_, _, _] ag23 rfl rfl rfl) rfl ?_
  refine sy_sq ?_
  refine cl rfl cal107 rfl rfl (c_state t s hl ba oa ca _ _) ?_
  rintro _ _ _ (⟨hck, rfl, rfl, rfl⟩ | ⟨hck, hrt, rfl, rfl, rfl⟩ | ⟨hck, hrt, bw0, m0, bt0, rfl, rfl, rfl⟩)
  ·
   refine sy_sq ?_
   refine sp rfl (PE.move rfl) rfl ?_
   refine sy_sq ?_
   refine sp rfl (PE.extract rfl rfl) rfl ?_
   refine sy_sq ?_
   refine sp rfl (PE.extract rfl rfl) rfl ?_
   refine sy_sq ?_
   refine sp rfl (PE.assign rfl) rfl ?_
   refine sy_sq ?_
   refine sp rfl (PE.assign rfl) rfl ?_
   refine sy_sn ?_
   refine sy_nx ?_
   refine sy_seq ?_
   refine sy_tx' [0, 1] rfl ?_
   refine sy_sq ?_
   refine sp rfl (PE.move rfl) rfl ?_
   refine sy_sq ?_
   refine sp rfl (PE.neq rfl rfl) rfl ?_
   refine sy_sn ?_
   refine sy_nx ?_
   refine sy_condT (congrArg (fun b => some (Value.bool b)) (decide_eq_true hck)) ?_
   refine sy_seq ?_
   refine sy_tx' [0, 1, 2] rfl ?_
   refine sy_sq ?_
   refine sp rfl (PE.move rfl) rfl ?_
   refine sy_sq ?_
   refine sp rfl (PE.assign rfl) rfl ?_
   refine sy_sq ?_
   refine sp rfl (PE.assign rfl) rfl ?_
   refine sy_sn ?_
   refine sy_nx ?_
   refine sy_ret ?_
   refine sy_tr ?_
   exact sy_return (vs := [_, _]) rfl (.cons (RV.tmp rfl) (.cons (RV.tmp rfl) .nil)) (by rw [show fromP t s = (0, t.check) from by simp [fromP, hck]]; rfl) ⟨rfl, rfl, rfl⟩ (fun _ h => by repeat first | exact h | replace h := St.tail h | replace h := St.ftail h | replace h := St.drop h)
  ·
   refine sy_sq ?_
   refine sp rfl (PE.move rfl) rfl ?_
   refine sy_sq ?_
   refine sp rfl (PE.extract rfl rfl) rfl ?_
   refine sy_sq ?_
   refine sp rfl (PE.extract rfl rfl) rfl ?_
   refine sy_sq ?_
   refine sp rfl (PE.assign rfl) rfl ?_
   refine sy_sq ?_
   refine sp rfl (PE.assign rfl) rfl ?_
   refine sy_sn ?_
   refine sy_nx ?_
   refine sy_seq ?_
   refine sy_tx' [0, 1] rfl ?_
   refine sy_sq ?_
   refine sp rfl (PE.move rfl) rfl ?_
   refine sy_sq ?_
   refine sp rfl (PE.neq rfl rfl) rfl ?_
   refine sy_sn ?_
   refine sy_nx ?_
   refine sy_condT (rfl) ?_
   refine sy_seq ?_
   refine sy_tx' [0, 1, 2] rfl ?_
   refine sy_sq ?_
   refine sp rfl (PE.move rfl) rfl ?_
   refine sy_sq ?_
   refine sp rfl (PE.assign rfl) rfl ?_
   refine sy_sq ?_
   refine sp rfl (PE.assign rfl) rfl ?_
   refine sy_sn ?_
   refine sy_nx ?_
   refine sy_ret ?_
   refine sy_tr ?_
   exact sy_return (vs := [_, _]) rfl (.cons (RV.tmp rfl) (.cons (RV.tmp rfl) .nil)) (by rw [show fromP t s = (0, 3) from by simp [fromP, hck, hrt]]; rfl) ⟨rfl, rfl, rfl⟩ (fun _ h => by repeat first | exact h | replace h := St.tail h | replace h := St.ftail h | replace h := St.drop h)
  ·
   refine sy_sq ?_
   refine sp rfl (PE.move rfl) rfl ?_
   refine sy_sq ?_
   refine sp rfl (PE.extract rfl rfl) rfl ?_
   refine sy_sq ?_
   refine sp rfl (PE.extract rfl rfl) rfl ?_
   refine sy_sq ?_
   refine sp rfl (PE.assign rfl) rfl ?_
   refine sy_sq ?_
   refine sp rfl (PE.assign rfl) rfl ?_
   refine sy_sn ?_
   refine sy_nx ?_
   refine sy_seq ?_
   refine sy_tx' [0, 1] rfl ?_
   refine sy_sq ?_
   refine sp rfl (PE.move rfl) rfl ?_
   refine sy_sq ?_
   refine sp rfl (PE.neq rfl rfl) rfl ?_
   refine sy_sn ?_
   refine sy_nx ?_
   refine sy_condF (rfl) ?_
   refine sy_skip ?_
   refine sy_nx ?_
   refine sy_seq ?_
   refine sy_tx' [0, 1, 2, 3, 4, 5, 6] rfl ?_
   refine sy_sq ?_
   refine Sy.heap (fun w h => ((h.del bw0).del m0).ftail) ?_
   refine spL rfl rfl (lhA [_, _, _, _, _, _, _, _, _, _, _] ag26 rfl rfl rfl) rfl ?_
   refine sy_sq ?_
   refine cl rfl cal97 rfl rfl (c_solved t hl ba oa ca _ _) ?_
   rintro _ _ _ (⟨hck2, _, _, _⟩ | ⟨hck2, bw, m, bt, σ, o, hσ, rfl, rfl, rfl⟩)
   · exact absurd hck hck2
   have hok := (ok_of_check hck).1
   have hlv := (solv_lsa hok hσ).same hok s hrt
   refine sy_sq ?_
   refine sp rfl (PE.move rfl) rfl ?_
   refine sy_sq ?_
   refine sp rfl (PE.extract rfl rfl) rfl ?_
   refine sy_sq ?_
   refine sp rfl (PE.extract rfl rfl) rfl ?_
   refine sy_sq ?_
   refine sp rfl (PE.assign rfl) rfl ?_
   refine sy_sq ?_
   refine sp rfl (PE.assign rfl) rfl ?_
   refine sy_sn ?_
   refine sy_nx ?_
   refine sy_seq ?_
   refine sy_draw [0, 1, 3, 0, 15, 0, 31, 127] (.tk 0 (.tk 1 (.tk 2 (.ld 3 (.tk 5 (.big 4 (.tk 6 (.tk 7 .done)))))))) mixed (by kernel_rfl) ?_
   refine tk rfl (PE.move rfl) rfl ?_
   refine tk rfl (PE.nilCheck rfl) rfl ?_
   refine tk rfl (PE.fieldAddr fo153_2 rfl) rfl ?_
   refine ld rfl rfl (lhA [_, _, _] ag23 rfl rfl rfl) rfl ?_
   refine tk rfl (PE.move rfl) rfl ?_
   refine sy_bg ?_
   refine clV rfl cal95 rfl rfl (c_of t hok s hrt ba oa ca bt bw m σ.y o.fs (solv_ok hok hσ) _ _) ?_
   refine bg (fun w hs => ⟨trivial, trivial⟩) ?_
   refine tk rfl (PE.assign rfl) rfl ?_
   refine tk rfl (PE.assign rfl) rfl ?_
   refine sy_dn ?_
   refine sy_nx ?_
   refine sy_ret ?_
   exact sy_return (vs := [_, _]) rfl (.cons (RV.tmp rfl) (.cons (RV.tmp rfl) .nil)) (by rw [show fromP t s = (lat σ.y s, 0) from by simp [fromP, hck, hrt, hlv]]; rfl) ⟨rfl, rfl, rfl⟩ (fun w h => (((((h.del b2).del b3).del bw).del m).ftail).drop)

def wideB (t : Twn) : Bool := decide ((7 : Int) < t.rats.length) || (decide (t.check = 0) && decide (200 < (t.holds + 1) * (t.patience + 1) * (t.run + 1)))
theorem wideB_no {t : Twn} (h : wideB t = false) : t.rats.length ≤ 7 := by
  unfold wideB at h
  simp at h
  omega

theorem c_wide (t : Twn) (a : Option Addr) (c : Nat) (hl : t.rats.length ≤ 9223372036854775807) (H : Heap) (R : Facts) [hR : MemRows a 2 (rrows t.rats) R] :
    FnV Try.prog 15 [t.v (t.sl a c)] H R (.bool (wideB t)) := by
  refine fn_of Try.func15 rfl Try.ntmps15 rfl ?_
  refine sy_seq ?_
  refine sy_tx' [0, 1] rfl ?_
  refine sy_sq ?_
  refine bx rfl rfl rfl (fun b1 => ?_)
  refine sy_sq ?_
  refine sp rfl (PE.assign rfl) rfl ?_
  refine sy_sn ?_
  refine sy_nx ?_
  refine sy_seq ?_
  refine sy_tx' [0, 1, 2, 3, 4, 5, 6, 7, 8, 9, 10, 11, 12, 13, 14, 15, 16, 17, 18, 19, 20, 21, 22] rfl ?_
  refine sy_sq ?_
  refine spL rfl rfl (lhA [_, _, _, _, _, _, _, _, _, _, _] ag26 rfl rfl rfl) rfl ?_
  refine sy_sq ?_
  refine clV rfl cal29 rfl rfl (c_great t a c hl _ _) ?_
  refine sy_sq ?_
  refine sp rfl (PE.move rfl) rfl ?_
  refine sy_sq ?_
  refine sy_case (t := 5) rfl (fun g5 => ?_) (fun g5 => ?_)
  ·
   refine spN rfl rfl rfl rfl rfl rfl rfl rfl ?_
   refine sy_sq ?_
   refine spN rfl rfl rfl rfl rfl rfl rfl rfl ?_
   refine sy_sq ?_
   refine spN rfl rfl rfl rfl rfl rfl rfl rfl ?_
   refine sy_sq ?_
   refine spN rfl rfl rfl rfl rfl rfl rfl rfl ?_
   refine sy_sq ?_
   refine spN rfl rfl rfl rfl rfl rfl rfl rfl ?_
   refine sy_sq ?_
   refine spU rfl rfl rfl rfl rfl rfl rfl ?_
   refine sy_sq ?_
   refine spU rfl rfl rfl rfl rfl rfl rfl ?_
   refine sy_sq ?_
   refine spU rfl rfl rfl rfl rfl rfl rfl ?_
   refine sy_sq ?_
   refine spU rfl rfl rfl rfl rfl rfl rfl ?_
   refine sy_sq ?_
   refine spU rfl rfl rfl rfl rfl rfl rfl ?_
   refine sy_sq ?_
   refine spU rfl rfl rfl rfl rfl rfl rfl ?_
   refine sy_sq ?_
   refine spU rfl rfl rfl rfl rfl rfl rfl ?_
   refine sy_sq ?_
   refine spU rfl rfl rfl rfl rfl rfl rfl ?_
   refine sy_sq ?_
   refine spU rfl rfl rfl rfl rfl rfl rfl ?_
   refine sy_sq ?_
   refine spU rfl rfl rfl rfl rfl rfl rfl ?_
   refine sy_sq ?_
   refine spU rfl rfl rfl rfl rfl rfl rfl ?_
   refine sy_sq ?_
   refine spU rfl rfl rfl rfl rfl rfl rfl ?_
   refine sy_sq ?_
   refine spN rfl rfl rfl rfl rfl rfl rfl rfl ?_
   refine sy_sq ?_
   refine sp rfl (PE.pick rfl rfl rfl) rfl ?_
   refine sy_sq ?_
   refine sp rfl (PE.assign rfl) rfl ?_
   refine sy_sn ?_
   refine sy_nx ?_
   refine sy_ret ?_
   exact sy_return (vs := [_]) rfl (.cons (RV.tmp rfl) .nil) rfl ⟨congrArg Value.bool (by
       unfold wideB
       first
         | (rw [g5]; rfl)
         | (rw [decide_eq_false (show ¬ (7 : Int) < t.rats.length by omega), decide_eq_true g10]; rfl)
         | (rw [decide_eq_false (show ¬ (7 : Int) < t.rats.length by omega), decide_eq_false g10]; rfl)), rfl, rfl⟩ (fun _ h => by repeat first | exact h | replace h := St.tail h | replace h := St.ftail h | replace h := St.drop h)
  ·
   try simp only [decide_eq_true_eq, decide_eq_false_iff_not, Bool.and_eq_true, Bool.or_eq_true, Bool.not_eq_true', Int.not_le, Int.not_lt] at g5
   
   refine spLG rfl rfl rfl rfl rfl (lhA [_, _, _, _, _, _, _, _, _, _, _] ag26 rfl rfl rfl) rfl ?_
   refine sy_sq ?_
   refine clG rfl rfl rfl rfl cal19 rfl rfl (c_theirs t a c (by omega) _ _) ?_
   rintro _ _ _ ⟨ax, cx, rfl, rfl, rfl⟩
   refine sy_sq ?_
   refine clVG rfl rfl rfl rfl cal20 rfl rfl (c_rCheck t ax cx (by omega) _ _) ?_
   refine sy_sq ?_
   refine spG rfl rfl rfl rfl (PE.eql rfl rfl) rfl ?_
   refine sy_sq ?_
   refine spG rfl rfl rfl rfl (PE.move rfl) rfl ?_
   refine sy_sq ?_
   refine sy_case (t := 10) rfl (fun g10 => ?_) (fun g10 => ?_)
   ·
    try simp only [decide_eq_true_eq, decide_eq_false_iff_not, Bool.and_eq_true, Bool.or_eq_true, Bool.not_eq_true', Int.not_le, Int.not_lt] at g10
    have hok := (ok_of_check g10).1
    have h1 := hok.holds
    have h4 := hok.run
    have h5 := hok.patience
    have m1 := mul_b (a := t.holds + 1) (b := t.patience + 1) (A := 31) (B := 4) (by omega) (by omega) (by omega) (by omega)
    have m2 := mul_b (a := (t.holds + 1) * (t.patience + 1)) (b := t.run + 1) (A := 124) (B := 4) (by omega) (by omega) (by omega) (by omega)
    refine spG rfl rfl rfl rfl (PE.fieldAddr fo26_1 rfl) rfl ?_
    refine sy_sq ?_
    refine spLG rfl rfl rfl rfl rfl (lh sc3 rfl rfl) rfl ?_
    refine sy_sq ?_
    refine spG rfl rfl rfl rfl (PE.add rfl rfl (by omega)) rfl ?_
    refine sy_sq ?_
    refine spG rfl rfl rfl rfl (PE.fieldAddr fo26_3 rfl) rfl ?_
    refine sy_sq ?_
    refine spLG rfl rfl rfl rfl rfl (lh sc3 rfl rfl) rfl ?_
    refine sy_sq ?_
    refine spG rfl rfl rfl rfl (PE.add rfl rfl (by omega)) rfl ?_
    refine sy_sq ?_
    refine spG rfl rfl rfl rfl (PE.mul rfl rfl (by omega)) rfl ?_
    refine sy_sq ?_
    refine spG rfl rfl rfl rfl (PE.fieldAddr fo26_4 rfl) rfl ?_
    refine sy_sq ?_
    refine spLG rfl rfl rfl rfl rfl (lh sc3 rfl rfl) rfl ?_
    refine sy_sq ?_
    refine spG rfl rfl rfl rfl (PE.add rfl rfl (by omega)) rfl ?_
    refine sy_sq ?_
    refine spG rfl rfl rfl rfl (PE.mul rfl rfl (by omega)) rfl ?_
    refine sy_sq ?_
    refine spG rfl rfl rfl rfl (PE.gtr rfl rfl) rfl ?_
    refine sy_sq ?_
    refine spG rfl rfl rfl rfl (PE.pick rfl rfl rfl) rfl ?_
    refine sy_sq ?_
    refine sp rfl (PE.pick rfl rfl rfl) rfl ?_
    refine sy_sq ?_
    refine sp rfl (PE.assign rfl) rfl ?_
    refine sy_sn ?_
    refine sy_nx ?_
    refine sy_ret ?_
    exact sy_return (vs := [_]) rfl (.cons (RV.tmp rfl) .nil) rfl ⟨congrArg Value.bool (by
        unfold wideB
        first
          | (rw [g5]; rfl)
          | (rw [decide_eq_false (show ¬ (7 : Int) < t.rats.length by omega), decide_eq_true g10]; rfl)
          | (rw [decide_eq_false (show ¬ (7 : Int) < t.rats.length by omega), decide_eq_false g10]; rfl)), rfl, rfl⟩ (fun _ h => by repeat first | exact h | replace h := St.tail h | replace h := St.ftail h | replace h := St.drop h)
   ·
    try simp only [decide_eq_true_eq, decide_eq_false_iff_not, Bool.and_eq_true, Bool.or_eq_true, Bool.not_eq_true', Int.not_le, Int.not_lt] at g10
    
    refine spN rfl rfl rfl rfl rfl rfl rfl rfl ?_
    refine sy_sq ?_
    refine spN rfl rfl rfl rfl rfl rfl rfl rfl ?_
    refine sy_sq ?_
    refine spN rfl rfl rfl rfl rfl rfl rfl rfl ?_
    refine sy_sq ?_
    refine spN rfl rfl rfl rfl rfl rfl rfl rfl ?_
    refine sy_sq ?_
    refine spN rfl rfl rfl rfl rfl rfl rfl rfl ?_
    refine sy_sq ?_
    refine spN rfl rfl rfl rfl rfl rfl rfl rfl ?_
    refine sy_sq ?_
    refine spN rfl rfl rfl rfl rfl rfl rfl rfl ?_
    refine sy_sq ?_
    refine spN rfl rfl rfl rfl rfl rfl rfl rfl ?_
    refine sy_sq ?_
    refine spN rfl rfl rfl rfl rfl rfl rfl rfl ?_
    refine sy_sq ?_
    refine spN rfl rfl rfl rfl rfl rfl rfl rfl ?_
    refine sy_sq ?_
    refine spN rfl rfl rfl rfl rfl rfl rfl rfl ?_
    refine sy_sq ?_
    refine spN rfl rfl rfl rfl rfl rfl rfl rfl ?_
    refine sy_sq ?_
    refine spG rfl rfl rfl rfl (PE.pick rfl rfl rfl) rfl ?_
    refine sy_sq ?_
    refine sp rfl (PE.pick rfl rfl rfl) rfl ?_
    refine sy_sq ?_
    refine sp rfl (PE.assign rfl) rfl ?_
    refine sy_sn ?_
    refine sy_nx ?_
    refine sy_ret ?_
    exact sy_return (vs := [_]) rfl (.cons (RV.tmp rfl) .nil) rfl ⟨congrArg Value.bool (by
        unfold wideB
        first
          | (rw [g5]; rfl)
          | (rw [decide_eq_false (show ¬ (7 : Int) < t.rats.length by omega), decide_eq_true g10]; rfl)
          | (rw [decide_eq_false (show ¬ (7 : Int) < t.rats.length by omega), decide_eq_false g10]; rfl)), rfl, rfl⟩ (fun _ h => by repeat first | exact h | replace h := St.tail h | replace h := St.ftail h | replace h := St.drop h)

theorem c_Choose2 (t : Twn) (hl : t.rats.length ≤ 9223372036854775807) (ba oa ca : Nat) (H : Heap) (R : Facts) [hR : MemRows (some ⟨ba, oa, none⟩) 2 (rrows t.rats) R] : Fn Try.prog 44 [t.v (t.sl (some ⟨ba, oa, none⟩) ca)] H R (fun v H' R' => ∃ o : OSl 3 1 (irows (choP t).1), v = .tuple #[o.fs, .int .i64 (choP t).2] ∧ H' = o.G ++ H ∧ R' = R) := by
  refine Fn.mono (c_Choose t hl ba oa ca H R) ?_
  rintro v H' R' ⟨⟨hck, rfl, rfl⟩ | ⟨hck, σ, hσ, ⟨h1, rfl, rfl⟩ | ⟨h1, o, rfl, rfl⟩⟩, rfl⟩
  · have e : choP t = ([], t.check) := by simp [choP, hck]
    rw [e]; exact ⟨OSl.nil _ _, rfl, rfl, rfl⟩
  · rw [cho_P0 hck hσ h1]; exact ⟨OSl.nil _ _, rfl, rfl, rfl⟩
  · rw [cho_P hck hσ h1]; exact ⟨o, rfl, rfl, rfl⟩
end Go.Proofs.Ytaldphhdkmchhaa
