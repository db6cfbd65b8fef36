/- Walks of the functions of the program, and the laws that join them: what the last theorem of this claim needs, in order. -/
import Derived.Test.Ythhdgeibokecjaabf3
namespace Go.Proofs.Ythhdgeibokecjaa.Bd
set_option linter.unusedSimpArgs false
set_option linter.unusedVariables false
open Go
theorem Z4Y (t : Twn) (s : Sta) (r : Int) (q : Rn) (ba oa ca : Nat) (h0 : 0 ≤ r) (hq : t.rats[r.toNat]? = some q) (H : Za) (R : Z8) [hR : MemRows (some ⟨ba, oa, none⟩) 2 (Zx t.rats) R] :
    FnV Try.prog 38 [t.v (t.sl (some ⟨ba, oa, none⟩) ca), s.v, .int .i64 r] H R (.bool (t.can s q)) := by
 have hr := Z9D h0 hq
 refine Zv Try.func38 rfl Try.ntmps38 rfl ?_
 refine sqt 3 rfl (bx rfl rfl rfl (fun b3 => bx rfl rfl rfl (fun b4 => pur 1 rfl (Z0 (Z0 ?_)))))
 refine Z9 [0, 1, 3, 7, 7, 23, 55, 127, 255, 511, 1023, 2047, 1023, 8191, 16383, 32767, 1023, 66559, 262143, 524287] (tks 0 5 (.ld 5 (tks 6 5 (.ld 11 (tks 12 3 (.ld 15 (.tk 16 (.ld 17 (.tk 18 (.tk 19 .done)))))))))) Zw (by kernel_rfl) ?_
 refine Zi 3 rfl ?_
 refine Z0b 9 rfl ?_ ?_ <;> intro g9
 exact absurd g9 (by first | (simp; omega) | omega)
 refine Zi 1 rfl ?_
 refine tkG rfl rfl rfl rfl (PE.fA ZJ rfl) rfl ?_
 refine ldG rfl rfl rfl rfl rfl (lh Z0Z rfl rfl) rfl ?_
 refine tkG rfl rfl rfl rfl (PE.lenSl Z2L rfl) rfl ?_
 refine Zi 3 rfl ?_
 refine Z0b 16 rfl ?_ ?_ <;> intro g16
 exact absurd g16 (by first | (simp; omega) | omega)
 refine tkG rfl rfl rfl rfl (PE.fA ZJ rfl) rfl ?_
 refine ldG rfl rfl rfl rfl rfl (lh Z0Z rfl rfl) rfl (Zi 1 rfl ?_)
 refine tkG rfl rfl rfl rfl (PE.indexAddr Z4E rfl rfl (by omega) (by omega)) rfl ?_
 refine tkG rfl rfl rfl rfl (PE.fA Z0p rfl) rfl ?_
 refine ldG rfl rfl rfl rfl rfl (lf sc3 (ZR hq) rfl) rfl ?_
 refine tkG rfl rfl rfl rfl (PE.fA Z07 rfl) rfl ?_
 refine ldG rfl rfl rfl rfl rfl (lh sc3 rfl rfl) rfl (Zi 2 rfl ?_)
 refine Z4 rfl ?_ ?_ <;> intro hc0
 simp only [cS] at hc0
 refine sqt 1 rfl (pur 1 rfl (Z3 ?_))
 exact rtA rfl rfl rfl ⟨by simp_all [ZF, Twn.can] <;> omega, rfl, rfl⟩ drp
 simp only [cS] at hc0
 refine Z2 (Z0 ?_)
 refine Z9 [0, 1, 0, 7, 15, 31, 0, 64, 255, 511, 1023, 2047, 1023, 5119, 16383, 32767, 65535] (.tk 0 (.ld 1 (tks 2 3 (.ld 5 (.tk 6 (.ld 7 (tks 8 3 (.ld 11 (.tk 12 (.ld 13 (tks 14 3 .done))))))))))) Zw (by kernel_rfl) ?_
 refine tk rfl (PE.fA ZJ rfl) rfl (ld rfl rfl (lh Z0Z rfl rfl) rfl (Zi 1 rfl (tk rfl (PE.indexAddr Z4E rfl rfl (by omega) (by omega)) rfl (tk rfl (PE.fA Z0p rfl) rfl (ld rfl rfl (lf sc3 (ZR hq) rfl) rfl (tk rfl (PE.fA Z12 rfl) rfl (ld rfl rfl (lh sc3 rfl rfl) rfl (Zi 2 rfl ?_))))))))
 refine Z0b 36 rfl ?_ ?_ <;> intro g36
 simp only [cS] at g36
 refine Zi 1 rfl ?_
 refine ldN rfl rfl rfl rfl rfl rfl rfl rfl ?_
 refine Zi 1 rfl ?_
 refine ldN rfl rfl rfl rfl rfl rfl rfl rfl ?_
 refine Zi 3 rfl (Z3 ?_)
 exact rtA rfl rfl rfl ⟨by simp_all [ZF, Twn.can] <;> omega, rfl, rfl⟩ drp
 simp only [cS] at g36
 refine tkG rfl rfl rfl rfl (PE.fA ZT rfl) rfl ?_
 refine ldG rfl rfl rfl rfl rfl (lh sc3 rfl rfl) rfl ?_
 refine tkG rfl rfl rfl rfl (PE.fA Z2q rfl) rfl ?_
 refine ldG rfl rfl rfl rfl rfl (lh sc3 rfl rfl) rfl (Zi 3 rfl (Z3 ?_))
 exact rtA rfl rfl rfl ⟨by simp_all [ZF, Twn.can] <;> omega, rfl, rfl⟩ drp
theorem Z3t (t : Twn) (ht : t.ok) (s : Sta) (hs : s.right t = true) (r : Int) (q : Rn) (bad : Bool) (ba oa ca : Nat) (h0 : 0 ≤ r) (hq : t.rats[r.toNat]? = some q) (hc : q.sacks ≤ s.stock) (H : Za) (R : Z8) [hR : MemRows (some ⟨ba, oa, none⟩) 2 (Zx t.rats) R] :
    FnV Try.prog 39 [t.v (t.sl (some ⟨ba, oa, none⟩) ca), s.v, .int .i64 r, .bool bad] H R (t.next s q bad).v := by
 have hr := Z9D h0 hq
 have hq1 := ht.rats q (List.mem_of_getElem? hq)
 have hs1 := right_iff.1 hs
 have h1 := ht.holds
 have h2 := ht.good
 have h3 := ht.bad
 have h4 := ht.run
 have h5 := ht.patience
 have h6 := Z6N (x := s.stock - q.sacks) (r := t.rot) (by omega) (by omega) ht.rot.1 ht.rot.2
 refine Zv Try.func39 rfl Try.ntmps39 rfl ?_
 refine sqt 3 rfl (bx rfl rfl rfl (fun b4 => bx rfl rfl rfl (fun b5 => alc rfl Z37 rfl (fun b8 => Z0 ?_))))
 refine Z9 [0, 1, 0, 4, 0, 28, 60, 124, 255, 511] (.tk 0 (.ld 1 (.tk 2 (.ld 3 (tks 4 3 (.ld 7 (.tk 8 (.tk 9 .done)))))))) Zw (by kernel_rfl) ?_
 refine tk rfl (PE.fA Z07 rfl) rfl (ld rfl rfl (lh sc3 rfl rfl) rfl (tk rfl (PE.fA ZJ rfl) rfl (ld rfl rfl (lh Z0Z rfl rfl) rfl (Zi 1 rfl (tk rfl (PE.indexAddr Z4E rfl rfl (by omega) (by omega)) rfl (tk rfl (PE.fA Z0p rfl) rfl (ld rfl rfl (lf sc3 (ZR hq) rfl) rfl (tk rfl (PE.sub rfl rfl (by omega)) rfl (Zi 1 rfl (sqt 8 rfl (pur 2 rfl (sp rfl (PE.fA Z5n rfl) rfl (spL rfl rfl (lh sc3 rfl rfl) rfl (sp rfl (PE.mul rfl rfl (by omega)) rfl (sp rfl (PE.quo rfl rfl (by omega)) rfl ?_)))))))))))))))
 refine sp rfl (PE.sub rfl rfl (by omega)) rfl (pur 1 rfl (Z0 (Z0 ?_)))
 refine Z9 [0, 1, 0, 4, 0, 28, 60, 124, 255, 0, 512, 2047, 4095, 8191] (.tk 0 (.ld 1 (.tk 2 (.ld 3 (tks 4 3 (.ld 7 (.tk 8 (.tk 9 (.ld 10 (tks 11 3 .done)))))))))) Zw (by kernel_rfl) ?_
 refine tk rfl (PE.fA Z07 rfl) rfl (ld rfl rfl (lh sc3 rfl rfl) rfl (tk rfl (PE.fA ZJ rfl) rfl (ld rfl rfl (lh Z0Z rfl rfl) rfl (Zi 1 rfl (tk rfl (PE.indexAddr Z4E rfl rfl (by omega) (by omega)) rfl (tk rfl (PE.fA Z0p rfl) rfl (ld rfl rfl (lf sc3 (ZR hq) rfl) rfl (tk rfl (PE.sub rfl rfl (by omega)) rfl (tk rfl (PE.fA Z5n rfl) rfl (ld rfl rfl (lh sc3 rfl rfl) rfl (tk rfl (PE.mul rfl rfl (by omega)) rfl (tk rfl (PE.rem rfl rfl (by omega)) rfl (Zi 1 rfl ?_)))))))))))))
 refine Z4 rfl ?_ ?_ <;> intro hc0
 simp only [cS] at hc0
 have hl : s.stock - q.sacks - (s.stock - q.sacks) * t.rot / 10 - 1 = Z0t t s q := by unfold Z0t; omega
 refine sqr 3 rfl (pur 1 rfl (sp rfl (PE.sub rfl rfl (by omega)) rfl (pur 1 rfl (sqt 3 rfl ?_))))
 rw [hl]
 have hlb : 0 ≤ Z0t t s q ∧ Z0t t s q ≤ 30 := by rw [← hl]; omega
 refine sp rfl (PE.build (out := [_, _, _]) Z8q Z37 rfl rfl) rfl (alc rfl Z37 rfl (fun b10 => ?_))
 refine sto rfl rfl rfl Z2n rfl rfl rfl rfl ?_
 refine Z0 (sqt 9 rfl (sp rfl (PE.fA Z11 rfl) rfl (spL rfl rfl (lh sc3 rfl rfl) rfl (pur 1 rfl (sp rfl (PE.fA Z3f rfl) rfl (spL rfl rfl (lh sc3 rfl rfl) rfl (sp rfl (PE.add rfl rfl (by omega)) rfl (sp rfl (PE.min rfl rfl) rfl (sp rfl (PE.fA Z07 rfl) rfl ?_)))))))))
 refine sto rfl rfl rfl cn3 rfl rfl rfl rfl ?_
 refine sqt 1 rfl (pur 1 rfl ?_)
 refine Z4 rfl ?_ ?_ <;> intro hc1
 subst hc1
 refine Z9 [0, 1, 0, 0, 8, 28, 63, 0, 128, 384, 127, 1151, 4095, 8191] (.tk 0 (.ld 1 (.tk 2 (.tk 3 (.ld 4 (tks 5 3 (.ld 8 (.tk 9 (.tk 10 (.big 11 (.tk 12 (.big 13 .done)))))))))))) Zw (by kernel_rfl) ?_
 refine tk rfl (PE.fA Z11 rfl) rfl (ld rfl rfl (lh sc3 rfl rfl) rfl (Zi 1 rfl (tk rfl (PE.fA Z3h rfl) rfl (ld rfl rfl (lh sc3 rfl rfl) rfl (tk rfl (PE.add rfl rfl (by omega)) rfl (tk rfl (PE.min rfl rfl) rfl (tk rfl (PE.fA Z0i rfl) rfl (ld rfl rfl (lh sc3 rfl rfl) rfl (tk rfl (PE.add rfl rfl (by omega)) rfl (tk rfl (PE.fA Z07 rfl) rfl ?_))))))))))
 refine sto rfl rfl rfl cn3 rfl rfl rfl rfl ?_
 refine bg (fun w hs => ⟨(lh sc3 rfl rfl) w hs, trivial, trivial, trivial⟩) ?_
 refine tk rfl (PE.fA Z0i rfl) rfl ?_
 refine sto rfl rfl rfl cn3 rfl rfl rfl rfl ?_
 refine bgT (Z0 (Z0 ?_))
 refine Z9 [0, 1, 0, 7, 15, 31, 0, 64, 255] (.tk 0 (.ld 1 (tks 2 3 (.ld 5 (.tk 6 (.ld 7 (.tk 8 .done))))))) Zw (by kernel_rfl) ?_
 refine tk rfl (PE.fA ZJ rfl) rfl (ld rfl rfl (lh Z0Z rfl rfl) rfl (Zi 1 rfl (tk rfl (PE.indexAddr Z4E rfl rfl (by omega) (by omega)) rfl (tk rfl (PE.fA Z0p rfl) rfl (ld rfl rfl (lf sc3 (ZR hq) rfl) rfl (tk rfl (PE.fA Z12 rfl) rfl (ld rfl rfl (lh sc3 rfl rfl) rfl (Zi 1 rfl ?_))))))))
 refine Z4 rfl ?_ ?_ <;> intro hc2
 refine sqr 5 rfl (sp rfl (PE.fA ZT rfl) rfl (spL rfl rfl (lh sc3 rfl rfl) rfl (sp rfl (PE.add rfl rfl (by omega)) rfl (sp rfl (PE.fA ZT rfl) rfl ?_))))
 refine sto rfl rfl rfl cn3 rfl rfl rfl rfl ?_
 refine sqt 2 rfl (spL rfl rfl (lhA [_, _, _] ZG rfl rfl rfl) rfl ?_)
 refine sto rfl rfl rfl Z2n rfl rfl rfl rfl ?_
 refine Z3 ?_
 exact Z5 (vs := [_]) rfl (.cons (RV.cell rfl (lhA [_, _, _] ZG rfl rfl rfl)) .nil) rfl ⟨by simp only [ZF, Twn.next, hc2, cond_true, cond_false], rfl, rfl⟩ drp
 refine Z2 (sqt 2 rfl (spL rfl rfl (lhA [_, _, _] ZG rfl rfl rfl) rfl ?_))
 refine sto rfl rfl rfl Z2n rfl rfl rfl rfl ?_
 refine Z3 ?_
 exact Z5 (vs := [_]) rfl (.cons (RV.cell rfl (lhA [_, _, _] ZG rfl rfl rfl)) .nil) rfl ⟨by simp only [ZF, Twn.next, hc2, cond_true, cond_false], rfl, rfl⟩ drp
 subst hc1
 refine Z2 (Z0 (Z0 ?_))
 refine Z9 [0, 1, 0, 7, 15, 31, 0, 64, 255] (.tk 0 (.ld 1 (tks 2 3 (.ld 5 (.tk 6 (.ld 7 (.tk 8 .done))))))) Zw (by kernel_rfl) ?_
 refine tk rfl (PE.fA ZJ rfl) rfl (ld rfl rfl (lh Z0Z rfl rfl) rfl (Zi 1 rfl (tk rfl (PE.indexAddr Z4E rfl rfl (by omega) (by omega)) rfl (tk rfl (PE.fA Z0p rfl) rfl (ld rfl rfl (lf sc3 (ZR hq) rfl) rfl (tk rfl (PE.fA Z12 rfl) rfl (ld rfl rfl (lh sc3 rfl rfl) rfl (Zi 1 rfl ?_))))))))
 refine Z4 rfl ?_ ?_ <;> intro hc2
 refine sqr 5 rfl (sp rfl (PE.fA ZT rfl) rfl (spL rfl rfl (lh sc3 rfl rfl) rfl (sp rfl (PE.add rfl rfl (by omega)) rfl (sp rfl (PE.fA ZT rfl) rfl ?_))))
 refine sto rfl rfl rfl cn3 rfl rfl rfl rfl ?_
 refine sqt 2 rfl (spL rfl rfl (lhA [_, _, _] ZG rfl rfl rfl) rfl ?_)
 refine sto rfl rfl rfl Z2n rfl rfl rfl rfl ?_
 refine Z3 ?_
 exact Z5 (vs := [_]) rfl (.cons (RV.cell rfl (lhA [_, _, _] ZG rfl rfl rfl)) .nil) rfl ⟨by simp only [ZF, Twn.next, hc2, cond_true, cond_false], rfl, rfl⟩ drp
 refine Z2 (sqt 2 rfl (spL rfl rfl (lhA [_, _, _] ZG rfl rfl rfl) rfl ?_))
 refine sto rfl rfl rfl Z2n rfl rfl rfl rfl ?_
 refine Z3 ?_
 exact Z5 (vs := [_]) rfl (.cons (RV.cell rfl (lhA [_, _, _] ZG rfl rfl rfl)) .nil) rfl ⟨by simp only [ZF, Twn.next, hc2, cond_true, cond_false], rfl, rfl⟩ drp
 simp only [cS] at hc0
 have hl : s.stock - q.sacks - (s.stock - q.sacks) * t.rot / 10 = Z0t t s q := by unfold Z0t; omega
 refine Z2 (sqt 3 rfl ?_)
 rw [hl]
 have hlb : 0 ≤ Z0t t s q ∧ Z0t t s q ≤ 30 := by rw [← hl]; omega
 refine sp rfl (PE.build (out := [_, _, _]) Z8q Z37 rfl rfl) rfl (alc rfl Z37 rfl (fun b10 => ?_))
 refine sto rfl rfl rfl Z2n rfl rfl rfl rfl ?_
 refine Z0 (sqt 9 rfl (sp rfl (PE.fA Z11 rfl) rfl (spL rfl rfl (lh sc3 rfl rfl) rfl (pur 1 rfl (sp rfl (PE.fA Z3f rfl) rfl (spL rfl rfl (lh sc3 rfl rfl) rfl (sp rfl (PE.add rfl rfl (by omega)) rfl (sp rfl (PE.min rfl rfl) rfl (sp rfl (PE.fA Z07 rfl) rfl ?_)))))))))
 refine sto rfl rfl rfl cn3 rfl rfl rfl rfl ?_
 refine sqt 1 rfl (pur 1 rfl ?_)
 refine Z4 rfl ?_ ?_ <;> intro hc1
 subst hc1
 refine Z9 [0, 1, 0, 0, 8, 28, 63, 0, 128, 384, 127, 1151, 4095, 8191] (.tk 0 (.ld 1 (.tk 2 (.tk 3 (.ld 4 (tks 5 3 (.ld 8 (.tk 9 (.tk 10 (.big 11 (.tk 12 (.big 13 .done)))))))))))) Zw (by kernel_rfl) ?_
 refine tk rfl (PE.fA Z11 rfl) rfl (ld rfl rfl (lh sc3 rfl rfl) rfl (Zi 1 rfl (tk rfl (PE.fA Z3h rfl) rfl (ld rfl rfl (lh sc3 rfl rfl) rfl (tk rfl (PE.add rfl rfl (by omega)) rfl (tk rfl (PE.min rfl rfl) rfl (tk rfl (PE.fA Z0i rfl) rfl (ld rfl rfl (lh sc3 rfl rfl) rfl (tk rfl (PE.add rfl rfl (by omega)) rfl (tk rfl (PE.fA Z07 rfl) rfl ?_))))))))))
 refine sto rfl rfl rfl cn3 rfl rfl rfl rfl ?_
 refine bg (fun w hs => ⟨(lh sc3 rfl rfl) w hs, trivial, trivial, trivial⟩) ?_
 refine tk rfl (PE.fA Z0i rfl) rfl ?_
 refine sto rfl rfl rfl cn3 rfl rfl rfl rfl ?_
 refine bgT (Z0 (Z0 ?_))
 refine Z9 [0, 1, 0, 7, 15, 31, 0, 64, 255] (.tk 0 (.ld 1 (tks 2 3 (.ld 5 (.tk 6 (.ld 7 (.tk 8 .done))))))) Zw (by kernel_rfl) ?_
 refine tk rfl (PE.fA ZJ rfl) rfl (ld rfl rfl (lh Z0Z rfl rfl) rfl (Zi 1 rfl (tk rfl (PE.indexAddr Z4E rfl rfl (by omega) (by omega)) rfl (tk rfl (PE.fA Z0p rfl) rfl (ld rfl rfl (lf sc3 (ZR hq) rfl) rfl (tk rfl (PE.fA Z12 rfl) rfl (ld rfl rfl (lh sc3 rfl rfl) rfl (Zi 1 rfl ?_))))))))
 refine Z4 rfl ?_ ?_ <;> intro hc2
 refine sqr 5 rfl (sp rfl (PE.fA ZT rfl) rfl (spL rfl rfl (lh sc3 rfl rfl) rfl (sp rfl (PE.add rfl rfl (by omega)) rfl (sp rfl (PE.fA ZT rfl) rfl ?_))))
 refine sto rfl rfl rfl cn3 rfl rfl rfl rfl ?_
 refine sqt 2 rfl (spL rfl rfl (lhA [_, _, _] ZG rfl rfl rfl) rfl ?_)
 refine sto rfl rfl rfl Z2n rfl rfl rfl rfl ?_
 refine Z3 ?_
 exact Z5 (vs := [_]) rfl (.cons (RV.cell rfl (lhA [_, _, _] ZG rfl rfl rfl)) .nil) rfl ⟨by simp only [ZF, Twn.next, hc2, cond_true, cond_false], rfl, rfl⟩ drp
 refine Z2 (sqt 2 rfl (spL rfl rfl (lhA [_, _, _] ZG rfl rfl rfl) rfl ?_))
 refine sto rfl rfl rfl Z2n rfl rfl rfl rfl ?_
 refine Z3 ?_
 exact Z5 (vs := [_]) rfl (.cons (RV.cell rfl (lhA [_, _, _] ZG rfl rfl rfl)) .nil) rfl ⟨by simp only [ZF, Twn.next, hc2, cond_true, cond_false], rfl, rfl⟩ drp
 subst hc1
 refine Z2 (Z0 (Z0 ?_))
 refine Z9 [0, 1, 0, 7, 15, 31, 0, 64, 255] (.tk 0 (.ld 1 (tks 2 3 (.ld 5 (.tk 6 (.ld 7 (.tk 8 .done))))))) Zw (by kernel_rfl) ?_
 refine tk rfl (PE.fA ZJ rfl) rfl (ld rfl rfl (lh Z0Z rfl rfl) rfl (Zi 1 rfl (tk rfl (PE.indexAddr Z4E rfl rfl (by omega) (by omega)) rfl (tk rfl (PE.fA Z0p rfl) rfl (ld rfl rfl (lf sc3 (ZR hq) rfl) rfl (tk rfl (PE.fA Z12 rfl) rfl (ld rfl rfl (lh sc3 rfl rfl) rfl (Zi 1 rfl ?_))))))))
 refine Z4 rfl ?_ ?_ <;> intro hc2
 refine sqr 5 rfl (sp rfl (PE.fA ZT rfl) rfl (spL rfl rfl (lh sc3 rfl rfl) rfl (sp rfl (PE.add rfl rfl (by omega)) rfl (sp rfl (PE.fA ZT rfl) rfl ?_))))
 refine sto rfl rfl rfl cn3 rfl rfl rfl rfl ?_
 refine sqt 2 rfl (spL rfl rfl (lhA [_, _, _] ZG rfl rfl rfl) rfl ?_)
 refine sto rfl rfl rfl Z2n rfl rfl rfl rfl ?_
 refine Z3 ?_
 exact Z5 (vs := [_]) rfl (.cons (RV.cell rfl (lhA [_, _, _] ZG rfl rfl rfl)) .nil) rfl ⟨by simp only [ZF, Twn.next, hc2, cond_true, cond_false], rfl, rfl⟩ drp
 refine Z2 (sqt 2 rfl (spL rfl rfl (lhA [_, _, _] ZG rfl rfl rfl) rfl ?_))
 refine sto rfl rfl rfl Z2n rfl rfl rfl rfl ?_
 refine Z3 ?_
 exact Z5 (vs := [_]) rfl (.cons (RV.cell rfl (lhA [_, _, _] ZG rfl rfl rfl)) .nil) rfl ⟨by simp only [ZF, Twn.next, hc2, cond_true, cond_false], rfl, rfl⟩ drp
def lkT (tb : List Rw) (s : Sta) : Option Int := (tb.find? fun x => decide (x.st = s)).map (·.lasts)
theorem Z7Y (x : Rw) (l : List Rw) (s : Sta) : lkT (x :: l) s = bif decide (x.st = s) then some x.lasts else lkT l s := by
  unfold lkT
  rw [List.find?_cons]
  cases decide (x.st = s) <;> rfl
theorem Z3m {l : List Rw} {s : Sta} (h : s ∉ l.map (·.st)) : lkT l s = none := by
  unfold lkT
  rw [List.find?_eq_none.2 fun x hx => by
    simp only [decide_eq_true_eq]
    intro e; exact h (List.mem_map.2 ⟨x, hx, e⟩)]
  rfl
theorem Z3G {l : List Rw} {s : Sta} {n : Int} (h : lkT l s = some n) : ∃ x ∈ l, x.st = s ∧ x.lasts = n := by
  unfold lkT at h
  obtain ⟨x, hx, rfl⟩ := Option.map_eq_some_iff.1 h
  exact ⟨x, List.mem_of_find?_eq_some hx, by simpa using List.find?_some hx, rfl⟩
theorem Z7u {l : List Rw} {x : Rw} {s : Sta} (h : x.st ∉ l.map (·.st)) : lkT (l ++ [x]) s = bif decide (x.st = s) then some x.lasts else lkT l s := by
  by_cases e : x.st = s
  · subst e
    have h1 := Z3m h
    unfold lkT at h1 ⊢
    rw [List.find?_append, Option.map_eq_none_iff.1 h1]
    simp
  · unfold lkT
    rw [List.find?_append]
    simp [e]
theorem Z9q {tb : List Rw} {k : Nat} {x : Rw} (hn : (tb.map (·.st)).Nodup) (hx : tb[k]? = some x) : x.st ∉ (tb.take k).map (·.st) := by
  have e : tb = tb.take k ++ x :: tb.drop (k + 1) := by
    conv => lhs; rw [← List.take_append_drop k tb]
    rw [Z3j hx]
  rw [e, List.map_append, List.map_cons] at hn
  intro hm
  exact (List.nodup_append.1 hn).2.2 _ hm _ (by simp) rfl
theorem Z7j {tb : List Rw} {k : Nat} {x : Rw} (hn : (tb.map (·.st)).Nodup) (hx : tb[k]? = some x) (s : Sta) : lkT (tb.take (k + 1)) s = bif decide (x.st = s) then some x.lasts else lkT (tb.take k) s := by
  rw [List.take_add_one, hx]; exact Z7u (Z9q hn hx)
structure TbOk (t : Twn) (tb : List Rw) : Prop where
  len : tb.length ≤ 496
  rg : ∀ x ∈ tb, x.st.right t = true ∧ (0 ≤ x.lasts ∧ x.lasts ≤ 1000000) ∧ ∃ q, t.rat x.ration = some q ∧ t.can x.st q = true
  nd : (tb.map (·.st)).Nodup
def Z3S (o : Option Int) (p : Int → Bool) : Bool := match o with | some g => p g | none => false
def Z3I (t : Twn) (f : Sta → Option Int) (x : Rw) : Bool := match t.rat x.ration with
  | some q => Z3S (f (t.next x.st q false)) (fun g => decide (x.lasts ≤ g)) && (decide (x.lasts = 0) || !decide (x.st.dry < t.run) || Z3S (f (t.next x.st q true)) (fun b => decide (x.lasts ≤ b) || (!decide (x.lasts = 1000000) && decide (x.lasts - 1 ≤ b))))
  | none => false
def hB (t : Twn) (tb : List Rw) : Bool := tb.all (Z3I t (lkT tb))
def hM (t : Twn) (tb : List Rw) (s : Sta) : Int := bif hB t tb then (lkT tb s).getD (-1) else -1
theorem Z64 {t : Twn} (ht : t.ok) : ∀ (l : List Rw) (y' : List Int), (l.map (·.st)).Nodup → (∀ x ∈ l, x.st.right t = true ∧ (0 ≤ x.lasts ∧ x.lasts ≤ 1000000) ∧ ∃ q, t.rat x.ration = some q ∧ t.can x.st q = true) → y'.length = 496 → (∀ x ∈ l, lat y' x.st = -1) →
    ∃ y'', Zn t l false y' = .ok (false, y'') ∧ ∀ s, s.right t = true → lat y'' s = (lkT l s).getD (lat y' s)
  | [], y', _, _, _, _ => ⟨y', rfl, fun _ _ => rfl⟩
  | x :: l, y', hd, hr, hy, hm => by
    rw [List.map_cons, List.nodup_cons] at hd
    obtain ⟨hxr, hxl, q, hq, hcan⟩ := hr x (by simp)
    have hix := Z1w ht hxr
    obtain ⟨y'', h1, h2⟩ := Z64 ht l (y'.set x.st.ix x.lasts) hd.2 (fun u h => hr u (by simp [h])) (by simpa using hy) (fun u h => by
      rw [ZH (fun e => by
        have e2 := Z13 ht hxr (hr u (by simp [h])).1 e
        exact hd.1 (List.mem_map.2 ⟨u, h, e2.symm⟩))]
      exact hm u (by simp [h]))
    refine ⟨y'', ?_, fun s hs => ?_⟩
    · unfold Zn
      have hib : inb x.lasts 0 1000000 = true := by simp only [inb, Bool.and_eq_true, decide_eq_true_eq]; exact hxl
      rw [hxr, hib, hq]
      simp only [Bool.not_true, Bool.or_self, cond_false, hcan, hm x (by simp), ne_eq, not_true_eq_false, decide_false]
      exact h1
    · rw [h2 s hs, Z7Y]
      by_cases e : x.st = s
      · subst e
        rw [Z3m hd.1, decide_eq_true rfl, ZE (by rw [hy]; exact hix)]
        rfl
      · rw [decide_eq_false e, cond_false, ZH (fun e2 => e (Z13 ht hxr hs e2))]
theorem Z2X {t : Twn} (ht : t.ok) {f : Sta → Option Int} {y : List Int} (hf : ∀ s, s.right t = true → lat y s = (f s).getD (-1)) {x : Rw} (hx : x.st.right t = true ∧ (0 ≤ x.lasts ∧ x.lasts ≤ 1000000) ∧ ∃ q, t.rat x.ration = some q ∧ t.can x.st q = true) : ZX t y x = Z3I t f x := by
  obtain ⟨hxr, hxl, q, hq, hcan⟩ := hx
  have hqm : q ∈ t.rats := List.mem_of_getElem? (rat_iff.1 hq).2
  unfold ZX Z3I Twn.keeps
  simp only [hq]
  rw [hcan, Bool.true_and, hf _ (Zs (bad := false) ht hxr hqm hcan (by simp))]
  have e1 : decide (x.lasts ≤ (f (t.next x.st q false)).getD (-1)) = Z3S (f (t.next x.st q false)) (fun g => decide (x.lasts ≤ g)) := by
    cases f (t.next x.st q false) with
    | none => simp [Z3S]; omega
    | some g => rfl
  rw [e1]
  congr 1
  by_cases h0 : x.lasts = 0
  · simp [h0]
  by_cases hd : x.st.dry < t.run
  · rw [hf _ (Zs (bad := true) ht hxr hqm hcan (fun _ => hd)), decide_eq_false h0, decide_eq_true hd]
    simp only [Bool.not_true, Bool.false_or]
    cases f (t.next x.st q true) with
    | none =>
      by_cases h9 : x.lasts = 1000000
      · simp [Z3S, h9]
      · simp [Z3S, h9]; omega
    | some b =>
      by_cases h9 : x.lasts = 1000000
      · simp [Z3S, h9]
      · simp only [Z3S, h9, decide_false, cond_false, Bool.not_false, Bool.true_and, Option.getD_some]
        rw [Bool.eq_iff_iff]; simp; omega
  · simp [hd]
theorem Z9Y {t : Twn} (h0 : t.check = 0) {tb : List Rw} (h : TbOk t tb) : Zu t tb = bif !(hB t tb) then ((0 : Int), (8 : Int)) else match lkT tb t.now with | none => ((0 : Int), (6 : Int)) | some n => (n, 0) := by
  have ht := (Zk h0).1
  obtain ⟨y, h1, h2⟩ := Z64 ht tb (Z4q t) h.nd h.rg (Z5d t) (fun x hx => Z3v ht (Zz (h.rg x hx).1))
  have h3 : ∀ s, s.right t = true → lat y s = (lkT tb s).getD (-1) := fun s hs => by rw [h2 s hs, Z3v ht (Zz hs)]
  rw [Z19 h0 h.len h1]
  have h4 : tb.all (ZX t y) = tb.all (Z3I t (lkT tb)) := by
    rw [Bool.eq_iff_iff, List.all_eq_true, List.all_eq_true]
    exact ⟨fun a x hx => by rw [← Z2X ht h3 (h.rg x hx)]; exact a x hx, fun a x hx => by rw [Z2X ht h3 (h.rg x hx)]; exact a x hx⟩
  unfold Z1l hB
  rw [h4, h3 _ ht.now]
  cases tb.all (Z3I t (lkT tb)) with
  | false => rfl
  | true => cases hk : lkT tb t.now with
    | none => simp
    | some n =>
      obtain ⟨x, hx, _, e⟩ := Z3G hk
      have := (h.rg x hx).2.1
      have hn : ¬ n = -1 := by omega
      simp [hn]
theorem Z6g {t : Twn} {tb : List Rw} (h : TbOk t tb) (hk : hB t tb = true) (m : Nat) (B : Sta → Prop) (hBf : ∀ s n, lkT tb s = some n → (m : Int) - 1 ≤ n → m ≠ 0 → B s) : Clo t m B (fun s => ∃ n, lkT tb s = some n ∧ (m : Int) ≤ n) := by
  rintro u ⟨n, hn, hmn⟩
  obtain ⟨x, hx, hxs, hxl⟩ := Z3G hn
  obtain ⟨hxr, hx0, q, hq, hcan⟩ := h.rg x hx
  have hr := List.all_eq_true.1 hk x hx
  unfold Z3I at hr
  simp only [hq, Bool.and_eq_true, Bool.or_eq_true] at hr
  obtain ⟨hg, hb⟩ := hr
  subst hxs
  subst hxl
  refine ⟨hxr, q, List.mem_of_getElem? (rat_iff.1 hq).2, hcan, ?_, ?_⟩
  · cases hf : lkT tb (t.next x.st q false) with
    | none => rw [hf] at hg; cases hg
    | some g => rw [hf] at hg; simp only [Z3S, decide_eq_true_eq] at hg; exact ⟨g, hf, by omega⟩
  · rcases hb with (hb | hb) | hb
    · left; simp only [decide_eq_true_eq] at hb; omega
    · right; left; simpa using hb
    · by_cases hm0 : m = 0
      · exact .inl hm0
      · right; right
        cases hf : lkT tb (t.next x.st q true) with
        | none => rw [hf] at hb; cases hb
        | some b => rw [hf] at hb; simp [Z3S] at hb; exact hBf _ b hf (by omega) hm0
theorem Z42 {t : Twn} {tb : List Rw} (h : TbOk t tb) (hk : hB t tb = true) : ∀ (m : Nat) (s : Sta), (∃ n, lkT tb s = some n ∧ (m : Int) ≤ n) → Srv t m s
  | 0, s, hs => Z0A (Z6g h hk 0 _ (fun _ _ _ _ h => absurd rfl h)) hs
  | m + 1, s, hs => Z0A (Z6g h hk (m + 1) (Srv t m) (fun s n hn hle _ => Z42 h hk m s ⟨n, hn, by omega⟩)) hs
theorem Z9F {t : Twn} {tb : List Rw} (h : TbOk t tb) (hk : hB t tb = true) (hl : LSA t (LY t)) {s : Sta} {n : Int} (hn : lkT tb s = some n) : n ≤ lat (LY t) s := by
  obtain ⟨x, hx, rfl, rfl⟩ := Z3G hn
  obtain ⟨hxr, hx0, _⟩ := h.rg x hx
  obtain ⟨m, hm⟩ : ∃ m : Nat, x.lasts = m := ⟨x.lasts.toNat, by omega⟩
  rw [hm]
  exact (Z7H hl hxr (by omega)).2 (Z42 h hk m _ ⟨_, hn, by omega⟩)
theorem Z7J {t : Twn} (h0 : t.check = 0) {tb : List Rw} (h : TbOk t tb) (hl : LSA t (LY t)) : hM t tb t.now ≤ lat (LY t) t.now ∧ ((Zu t tb).2 = 0 ∧ hB t tb = true ∧ 0 ≤ hM t tb t.now ∧ (Zu t tb).1 = hM t tb t.now ∨ (Zu t tb).2 = 8 ∧ hB t tb = false ∧ hM t tb t.now = -1 ∨ (Zu t tb).2 = 6 ∧ hB t tb = true ∧ hM t tb t.now = -1) := by
  have ht := (Zk h0).1
  have hg := Z2j hl ht.now
  rw [Z9Y h0 h]
  unfold hM
  cases hb : hB t tb with
  | false => simp; omega
  | true =>
    cases hk : lkT tb t.now with
    | none => simp; omega
    | some n =>
      have h1 := Z9F h hb hl hk
      obtain ⟨x, hx, _, e⟩ := Z3G hk
      have := (h.rg x hx).2.1
      simp; omega
theorem Z8l (t : Twn) (y : List Int) : ∀ l : List Sta, l.Nodup → ((l.filterMap (ZS t y)).map (·.st)).Nodup ∧ ∀ u ∈ (l.filterMap (ZS t y)).map (·.st), u ∈ l
  | [], _ => ⟨by simp, by simp⟩
  | s :: l, hd => by
    rw [List.nodup_cons] at hd
    obtain ⟨a, b⟩ := Z8l t y l hd.2
    cases hrow : ZS t y s with
    | none => rw [List.filterMap_cons_none hrow]; exact ⟨a, fun u hu => by simp [b u hu]⟩
    | some x =>
      obtain ⟨e1, _⟩ := Z0L hrow
      rw [List.filterMap_cons_some hrow, List.map_cons, List.nodup_cons, e1]
      refine ⟨⟨fun h => hd.1 (b s h), a⟩, fun u hu => ?_⟩
      rcases List.mem_cons.1 hu with rfl | hu
      · simp
      · simp [b u hu]
theorem Z85 {t : Twn} (ht : t.ok) {y : List Int} (hl : LSA t y) : TbOk t (tab t y) := by
  refine ⟨Nat.le_trans (List.length_filterMap_le _ _) (by rw [Z0B]; exact Z3W ht), fun x hx => ?_, (Z8l t y _ (Z41 t)).1⟩
  obtain ⟨s, hs, hrow⟩ := List.mem_filterMap.1 hx
  obtain ⟨e1, e2, e3, q, hq, hqm, hk⟩ := Z0L hrow
  have hsr := Zh ht hs
  have hrg := Z2j hl hsr
  refine ⟨by rw [e1]; exact hsr, by rw [e2]; omega, q, hq, ?_⟩
  unfold Twn.keeps at hk
  simp only [Bool.and_eq_true] at hk
  rw [e1]; exact hk.1.1
theorem Z9H (t : Twn) : TbOk t [] := ⟨by simp, by simp, by simp⟩
theorem Z7v {t : Twn} (h0 : t.check = 0) (hl : LSA t (LY t)) (hn : lat (LY t) t.now ≠ -1) : hB t (tab t (LY t)) = true ∧ hM t (tab t (LY t)) t.now = lat (LY t) t.now := by
  have h1 := Z3L h0 hl hn
  have h2 := Z9Y h0 (Z85 (Zk h0).1 hl)
  rw [h1] at h2
  unfold hM
  cases hb : hB t (tab t (LY t)) with
  | false => rw [hb] at h2; simp at h2
  | true =>
    rw [hb] at h2
    cases hk : lkT (tab t (LY t)) t.now with
    | none => rw [hk] at h2; simp at h2
    | some n => rw [hk] at h2; simp at h2; simp [h2]
theorem Z7q {α : Type} {l : List α} {k : Nat} {x : α} (h : l[k]? = some x) : l.set k x = l := by
  obtain ⟨h1, rfl⟩ := List.getElem?_eq_some_iff.1 h; exact List.set_getElem_self h1
theorem TbOk.put {t : Twn} {tb : List Rw} (h : TbOk t tb) {k : Nat} {x : Rw} (hx : tb[k]? = some x) {v : Int} (hv : 0 ≤ v ∧ v ≤ 1000000) : TbOk t (tb.set k { x with lasts := v }) := by
  refine ⟨by rw [List.length_set]; exact h.len, fun z hz => ?_, ?_⟩
  · rcases List.mem_or_eq_of_mem_set hz with hz | rfl
    · exact h.rg z hz
    · obtain ⟨a, _, c⟩ := h.rg x (List.mem_of_getElem? hx); exact ⟨a, hv, c⟩
  · rw [List.map_set]
    rw [show (tb.map (·.st)).set k ({ x with lasts := v } : Rw).st = tb.map (·.st) from Z7q (by simp [hx])]; exact h.nd
theorem TbOk.erase {t : Twn} {tb : List Rw} (h : TbOk t tb) (k : Nat) : TbOk t (tb.eraseIdx k) :=
  ⟨Nat.le_trans (List.Sublist.length_le (List.eraseIdx_sublist ..)) h.len, fun x hx => h.rg x (List.mem_of_mem_eraseIdx hx), List.Nodup.sublist (List.Sublist.map _ (List.eraseIdx_sublist ..)) h.nd⟩
structure FtOk (t : Twn) (l : List Fat) (B : Int) : Prop where
  len : l.length ≤ 496
  rg : ∀ p ∈ l, p.1.right t = true ∧ 0 ≤ p.2 ∧ p.2 ≤ B
def dM (t : Twn) (l : List Fat) (s : Sta) : Int := bif Zq t [] l then (Z1f l s).getD (-1) else -1
theorem Z83 {t : Twn} {l : List Fat} {B : Int} (h : FtOk t l B) (hB : B ≤ 1000000) : (l.all fun p => p.1.right t && inb p.2 0 1000000) = true := List.all_eq_true.2 fun p hp => by
  obtain ⟨a, b, c⟩ := h.rg p hp
  rw [a, Bool.true_and]; simp only [inb, Bool.and_eq_true, decide_eq_true_eq]; omega
theorem Z7g {l : List Fat} {s : Sta} {m : Int} (h : Z1f l s = some m) : ∃ p ∈ l, p.1 = s ∧ p.2 ≤ m := by
  have h1 := ZK l s m
  rw [h] at h1
  have h2 : Zd l s m = true := by rw [h1]; simp [leO]
  obtain ⟨p, hp, h3⟩ := List.any_eq_true.1 h2
  simp only [Bool.and_eq_true, decide_eq_true_eq] at h3
  exact ⟨p, hp, h3⟩
theorem Z7i {t : Twn} (h0 : t.check = 0) {l : List Fat} {B : Int} (h : FtOk t l B) (hB : B ≤ 1000000) (hl : LSA t (LY t)) : (0 ≤ dM t l t.now → lat (LY t) t.now < dM t l t.now) ∧ ((stR t l).2 = 0 ∧ Zq t [] l = true ∧ 0 ≤ dM t l t.now ∧ (stR t l).1 = dM t l t.now ∨ (stR t l).2 = 8 ∧ Zq t [] l = false ∧ dM t l t.now = -1 ∨ (stR t l).2 = 6 ∧ Zq t [] l = true ∧ dM t l t.now = -1) := by
  have ht := (Zk h0).1
  have ha := Z83 h hB
  unfold dM
  cases hf : Zq t [] l with
  | false => rw [Z2e h0 h.len ha hf]; simp
  | true =>
    rw [Z6s h0 h.len ha hf]
    cases hm : Z1f l t.now with
    | none => simp
    | some m =>
      obtain ⟨p, hp, e, hpm⟩ := Z7g hm
      have hp2 := h.rg p hp
      have hs := Z1s l [] (fun p h => by cases h) (fun p hp => (h.rg p hp).2.1) hf p hp
      obtain ⟨k, hk⟩ : ∃ k : Nat, m = k := ⟨m.toNat, by omega⟩
      have hlt : lat (LY t) t.now < m := by
        by_cases hk2 : p.2 ≤ 1000000
        · obtain ⟨j, hj⟩ : ∃ j : Nat, p.2 = j := ⟨p.2.toNat, by omega⟩
          have h5 := hs j (by omega)
          rw [e] at h5
          have h6 : ¬ (j : Int) ≤ lat (LY t) t.now := fun h7 => h5 ((Z7H hl ht.now (by omega)).1 h7)
          omega
        · omega
      simp; omega
theorem Z7D {t : Twn} (h0 : t.check = 0) {l : List Fat} {B : Int} (h : FtOk t l B) (hB : B ≤ 1000000) (hs : stR t l = (lat (LY t) t.now + 1, 0)) : Zq t [] l = true ∧ dM t l t.now = lat (LY t) t.now + 1 := by
  have ha := Z83 h hB
  unfold dM
  cases hf : Zq t [] l with
  | false => rw [Z2e h0 h.len ha hf] at hs; simp at hs
  | true =>
    rw [Z6s h0 h.len ha hf] at hs
    cases hm : Z1f l t.now with
    | none => rw [hm] at hs; simp at hs
    | some m => rw [hm] at hs; simp at hs; simp [hs]
theorem FtOk.put {t : Twn} {l : List Fat} {B : Int} (h : FtOk t l B) {k : Nat} {x : Fat} (hx : l[k]? = some x) {v C : Int} (hBC : B ≤ C) (hv : 0 ≤ v ∧ v ≤ C) : FtOk t (l.set k (x.1, v)) C := by
  refine ⟨by rw [List.length_set]; exact h.len, fun z hz => ?_⟩
  rcases List.mem_or_eq_of_mem_set hz with hz | rfl
  · obtain ⟨a, b, c⟩ := h.rg z hz; exact ⟨a, b, by omega⟩
  · exact ⟨(h.rg x (List.mem_of_getElem? hx)).1, hv⟩
theorem FtOk.mono {t : Twn} {l : List Fat} {B C : Int} (h : FtOk t l B) (hBC : B ≤ C) : FtOk t l C := ⟨h.len, fun z hz => by obtain ⟨a, b, c⟩ := h.rg z hz; exact ⟨a, b, by omega⟩⟩
theorem FtOk.erase {t : Twn} {l : List Fat} {B : Int} (h : FtOk t l B) (k : Nat) : FtOk t (l.eraseIdx k) B :=
  ⟨Nat.le_trans (List.Sublist.length_le (List.eraseIdx_sublist ..)) h.len, fun x hx => h.rg x (List.mem_of_mem_eraseIdx hx)⟩
theorem Z8T {t : Twn} {n : Nat} (hn : n ≤ 496) {σ : Sv} (h : ∀ p ∈ σ.fl, p.2 ≤ 496) (u : Sta) : ∀ p ∈ (σ.step t n u).fl, p.2 ≤ 496 := by
  unfold Sv.step
  cases Z1W σ.y u && !(t.rats.any fun q => t.keeps σ.y u q n) with
  | false => exact h
  | true =>
    intro p hp
    rcases List.mem_append.1 hp with hp | hp
    · exact h p hp
    · simp only [List.mem_singleton] at hp; subst hp; dsimp only; omega
theorem Z6G {t : Twn} {n : Nat} (hn : n ≤ 496) : ∀ (l : List Sta) (σ : Sv), (∀ p ∈ σ.fl, p.2 ≤ 496) → ∀ p ∈ (l.foldl (Sv.step t n) σ).fl, p.2 ≤ 496
  | [], _, h => h
  | s :: l, σ, h => Z6G hn l _ (Z8T hn h s)
theorem Z3V {t : Twn} {n : Nat} (hn : n ≤ 496) : ∀ (j : Nat) (σ : Sv), (∀ p ∈ σ.fl, p.2 ≤ 496) → ∀ p ∈ (passes t n j σ).fl, p.2 ≤ 496
  | 0, _, h => h
  | j + 1, σ, h => Z6G hn (sts t) _ (Z3V hn j σ h)
theorem Z5u {t : Twn} (ht : t.ok) {σ : Sv} (h : Z3a t σ) : ∀ p ∈ σ.fl, p.2 ≤ 496 := by
  obtain ⟨n, h, h9⟩ := h
  clear h9
  induction h with
  | zero => simp
  | next j h _ _ ih => exact Z3V (by have := (Z2P ht h).2.1; omega) j _ ih
theorem Z1v (o : Option Int) : (o.map (Value.int .i64)).getD (.int .i64 0) = .int .i64 (o.getD 0) := by cases o <;> rfl
theorem Z1z (o : Option Int) : (o.map (Value.int .i64)).isSome = o.isSome := by cases o <;> rfl
theorem Z9U {kv : KV} {tb : List Rw} {k : Nat} {x : Rw} (hn : (tb.map (·.st)).Nodup) (hx : tb[k]? = some x) (hkv : ∀ s : Sta, kv.get [s.stock, s.short, s.dry] = (lkT (tb.take k) s).map (Value.int .i64)) : ∀ s : Sta, (kv.put [x.st.stock, x.st.short, x.st.dry] (.int .i64 x.lasts)).get [s.stock, s.short, s.dry] = (lkT (tb.take (k + 1)) s).map (Value.int .i64) := fun s => by
  rw [KV.get_put, hkv s, Z7j hn hx, Z8n]
  cases decide ([x.st.stock, x.st.short, x.st.dry] = [s.stock, s.short, s.dry]) <;> rfl
theorem Z6T {A B C : List Value} {n : Nat} (h : n = A.length) : spl (A ++ B) n C = A ++ (C ++ B.drop C.length) := by
  subst h
  unfold spl
  rw [List.take_left, List.drop_append]
  simp
theorem Z54 (rows : List (List Value)) (i : Nat) : rows.flatten = (rows.take i).flatten ++ (rows.drop i).flatten := by rw [← List.flatten_append, List.take_append_drop]
theorem Z3b {sz : Nat} {rows : List (List Value)} (hs : ∀ r ∈ rows, r.length = sz) {junk : List Value} {i : Nat} (hi : i < rows.length) : spl (rows.flatten ++ junk) (i * sz) (rows.drop (i + 1)).flatten = (rows.eraseIdx i).flatten ++ (rows.flatten ++ junk).drop ((rows.length - 1) * sz) := by
  have h1 : (rows.take i).flatten.length = i * sz := by rw [Z0h fun r hr => hs r (List.mem_of_mem_take hr), List.length_take, Nat.min_eq_left (by omega)]
  unfold spl
  have e1 : ((rows.flatten ++ junk).take (i * sz) : List Value) = (rows.take i).flatten := by
    rw [Z54 rows i, List.append_assoc, ← h1, List.take_left]
  have e2 : i * sz + (rows.drop (i + 1)).flatten.length = (rows.length - 1) * sz := by
    rw [Z0h fun r hr => hs r (List.mem_of_mem_drop hr), List.length_drop, ← Nat.add_mul]
    congr 1; omega
  rw [e1, e2, List.eraseIdx_eq_take_drop_succ, List.flatten_append]
theorem Z60 {sz : Nat} {rows : List (List Value)} (hs : ∀ r ∈ rows, r.length = sz) {junk : List Value} {i j : Nat} {v : Value} (hi : i ≤ rows.length) (h : ((rows.drop i).flatten)[j]? = some v) : (rows.flatten ++ junk)[i * sz + j]? = some v := by
  have h1 : (rows.take i).flatten.length = i * sz := by rw [Z0h fun r hr => hs r (List.mem_of_mem_take hr), List.length_take, Nat.min_eq_left hi]
  have hj := (List.getElem?_eq_some_iff.1 h).1
  rw [Z54 rows i, List.append_assoc, List.getElem?_append_right (by omega), show i * sz + j - (rows.take i).flatten.length = j by omega, List.getElem?_append_left hj]
  exact h
theorem Z6Q {rows : List (List Value)} {sz : Nat} (hs : ∀ r ∈ rows, r.length = sz) {junk : List Value} {k j i : Nat} {row : List Value} (hk : rows[k]? = some row) (hj : j < sz) (v : Value) (e : i = k * sz + j) : spl (rows.flatten ++ junk) i [v] = (rows.set k (row.set j v)).flatten ++ junk := by
  subst e
  have hlt := (List.getElem?_eq_some_iff.1 hk).1
  have h1 : (rows.take k).flatten.length = k * sz := by rw [Z0h fun r hr => hs r (List.mem_of_mem_take hr), List.length_take, Nat.min_eq_left (by omega)]
  have hrl := hs row (List.mem_of_getElem? hk)
  have e1 : rows = rows.take k ++ row :: rows.drop (k + 1) := by
    conv => lhs; rw [← List.take_append_drop k rows]
    rw [Z3j hk]
  have e2 : rows.set k (row.set j v) = rows.take k ++ row.set j v :: rows.drop (k + 1) := by
    rw [List.set_eq_take_append_cons_drop, if_pos hlt]
  have e3 : row = row.take j ++ row[j]'(by omega) :: row.drop (j + 1) := by
    conv => lhs; rw [← List.take_append_drop j row]
    rw [List.drop_eq_getElem_cons]
  have e4 : row.set j v = row.take j ++ v :: row.drop (j + 1) := by rw [List.set_eq_take_append_cons_drop, if_pos (by omega)]
  have e5 : rows.flatten ++ junk = ((rows.take k).flatten ++ row.take j) ++ ([row[j]'(by omega)] ++ (row.drop (j + 1) ++ ((rows.drop (k + 1)).flatten ++ junk))) := by
    conv => lhs; rw [e1, List.flatten_append, List.flatten_cons]
    simp only [List.append_assoc, List.singleton_append]
    congr 1
    conv => lhs; rw [e3]
    rw [List.append_assoc]; rfl
  rw [e5, e2, List.flatten_append, List.flatten_cons, e4]
  have h2 : ((rows.take k).flatten ++ row.take j).length = k * sz + j := by rw [List.length_append, h1, List.length_take, Nat.min_eq_left (by omega)]
  unfold spl
  rw [← h2, List.take_left, List.drop_append]
  simp
theorem Z8v {tb : List Rw} {k : Nat} {x : Rw} (hx : tb[k]? = some x) (v : Int) : (Zg tb).set k ((Z5T x).set 3 (.int .i64 v)) = Zg (tb.set k { x with lasts := v }) := by
  unfold Zg; rw [List.map_set]; rfl
theorem Z8w {l : List Fat} {k : Nat} {x : Fat} (hx : l[k]? = some x) (v : Int) : (Ze l).set k ((Z2O x).set 3 (.int .i64 v)) = Ze (l.set k (x.1, v)) := by
  unfold Ze; rw [List.map_set]; rfl
theorem ZC (l : List Rw) : (Zg l).length = l.length := List.length_map _
theorem ZB (l : List Fat) : (Ze l).length = l.length := List.length_map _
theorem Z0c (l : List Rw) : ∀ r ∈ Zg l, r.length = 5 := fun r hr => by obtain ⟨x, _, rfl⟩ := List.mem_map.1 hr; rfl
theorem Z09 (l : List Fat) : ∀ r ∈ Ze l, r.length = 4 := fun r hr => by obtain ⟨x, _, rfl⟩ := List.mem_map.1 hr; rfl
theorem Z0Q (l : List Rw) : (Zg l).flatten.length = l.length * 5 := by rw [Z0h (Z0c l), ZC]
theorem Z0P (l : List Fat) : (Ze l).flatten.length = l.length * 4 := by rw [Z0h (Z09 l), ZB]
theorem Z3x (l : List Rw) (i : Nat) : (Zg l).drop i = Zg (l.drop i) := by unfold Zg; rw [List.map_drop]
theorem Z3y (l : List Fat) (i : Nat) : (Ze l).drop i = Ze (l.drop i) := by unfold Ze; rw [List.map_drop]
theorem Z7P (l : List Rw) (i : Nat) : (Zg l).eraseIdx i = Zg (l.eraseIdx i) := by
  unfold Zg
  rw [List.eraseIdx_eq_take_drop_succ, List.eraseIdx_eq_take_drop_succ, List.map_append, List.map_take, List.map_drop]
theorem Z7M (l : List Fat) (i : Nat) : (Ze l).eraseIdx i = Ze (l.eraseIdx i) := by
  unfold Ze
  rw [List.eraseIdx_eq_take_drop_succ, List.eraseIdx_eq_take_drop_succ, List.map_append, List.map_take, List.map_drop]
theorem Z8K (l : List Rw) : (Zg l).flatten.all (·.oneCell') = true := List.all_eq_true.2 fun v hv => by
  obtain ⟨r, hr, h2⟩ := List.mem_flatten.1 hv
  obtain ⟨x, _, rfl⟩ := List.mem_map.1 hr
  simp only [Z5T, List.mem_cons, List.not_mem_nil, or_false] at h2
  rcases h2 with rfl | rfl | rfl | rfl | rfl <;> rfl
theorem Z8C (l : List Fat) : (Ze l).flatten.all (·.oneCell') = true := List.all_eq_true.2 fun v hv => by
  obtain ⟨r, hr, h2⟩ := List.mem_flatten.1 hv
  obtain ⟨x, _, rfl⟩ := List.mem_map.1 hr
  simp only [Z2O, List.mem_cons, List.not_mem_nil, or_false] at h2
  rcases h2 with rfl | rfl | rfl | rfl <;> rfl
theorem Z7W (t : Twn) (hl : t.rats.length ≤ 9223372036854775807) (ba oa ca : Nat) (H : Za) (R : Z8) [hR : MemRows (some ⟨ba, oa, none⟩) 2 (Zx t.rats) R] :
    Fn Try.prog 9 [t.v (t.sl (some ⟨ba, oa, none⟩) ca)] H R (fun v H' R' => ∃ (l : List Fat) (o : OSl 51 4 (Ze l)), v = .tuple #[o.fs, .int .i64 (Z5S t)] ∧ H' = o.G ++ H ∧ R' = R ∧ l.length ≤ 496 ∧ (Z5S t ≠ 0 → l = []) ∧ (Z5S t = 0 → t.check = 0 ∧ LSA t (LY t) ∧ lat (LY t) t.now ≠ 1000000 ∧ stR t l = (lat (LY t) t.now + 1, 0)) ∧ ∀ p ∈ l, p.1.right t = true ∧ 0 ≤ p.2 ∧ p.2 ≤ 496) := by
  refine Zv Try.func9 rfl Try.ntmps9 rfl ?_
  refine Z0 ?_
  refine Z6 [0, 1, 2] rfl ?_
  refine bx rfl rfl rfl (fun b1 => ?_)
  refine sp rfl (PE.assign rfl) rfl ?_
  refine sp rfl (PE.assign rfl) rfl ?_
  refine Z0 ?_
  refine Z6 [0, 1, 2, 3, 4, 5, 6] rfl ?_
  refine spL rfl rfl (lhA [_, _, _, _, _, _, _, _, _, _, _] ZZ rfl rfl rfl) rfl ?_
  refine cl rfl Z7G rfl rfl (Z2o t hl ba oa ca _ _) ?_
  rintro _ _ _ (⟨hck, rfl, rfl, rfl⟩ | ⟨hck, bw, m, bt, σ, o, hσ, rfl, rfl, rfl⟩)
  ·
   refine sp rfl (PE.move rfl) rfl ?_
   refine sp rfl (PE.extract rfl rfl) rfl ?_
   refine sp rfl (PE.extract rfl rfl) rfl ?_
   refine sp rfl (PE.assign rfl) rfl ?_
   refine sp rfl (PE.assign rfl) rfl ?_
   refine Z0 ?_
   refine Z0 ?_
   refine Z6 [0, 1] rfl ?_
   refine sp rfl (PE.move rfl) rfl ?_
   refine sp rfl (PE.neq rfl rfl) rfl ?_
   refine Zp (congrArg (fun b => some (Value.bool b)) (decide_eq_true hck)) ?_
   refine Z0 ?_
   refine Z6 [0, 1, 2] rfl ?_
   refine sp rfl (PE.move rfl) rfl ?_
   refine sp rfl (PE.assign rfl) rfl ?_
   refine sp rfl (PE.assign rfl) rfl ?_
   refine Z3 ?_
   have hfe : Z5S t = t.check := by simp [Z5S, hck]
   exact Z5 (vs := [_, _]) rfl (.cons (RV.tmp rfl) (.cons (RV.tmp rfl) .nil)) (by rw [hfe]; rfl) ⟨[], OSl.nil _ _, rfl, rfl, rfl, by simp, fun _ => rfl, fun h => absurd (hfe ▸ h) hck, by simp⟩ (fun _ h => by repeat first | exact h | replace h := St.tail h | replace h := St.ftail h | replace h := St.drop h)
  ·
   have hok := (Zk hck).1
   have hsl := Z1Y hok hσ
   obtain ⟨hfl, hfn⟩ := Z4D hok hσ
   have hlsa := Z0N hok hσ
   have hev := (Z7Z σ.fl t.now).trans (Z7z hok hσ hok.now)
   refine sp rfl (PE.move rfl) rfl ?_
   refine sp rfl (PE.extract rfl rfl) rfl ?_
   refine sp rfl (PE.extract rfl rfl) rfl ?_
   refine sp rfl (PE.assign rfl) rfl ?_
   refine sp rfl (PE.assign rfl) rfl ?_
   refine Z0 ?_
   refine Z0 ?_
   refine Z6 [0, 1] rfl ?_
   refine sp rfl (PE.move rfl) rfl ?_
   refine sp rfl (PE.neq rfl rfl) rfl ?_
   refine Zo (rfl) ?_
   refine Z2 ?_
   refine Z0 ?_
   refine Z0 ?_
   refine Z9 [0, 1, 3, 7, 0, 16, 63, 127, 255, 255, 511, 2047] (.tk 0 (.tk 1 (.tk 2 (.ld 3 (.tk 4 (.ld 5 (.ld 6 (.tk 7 (.tk 8 (.tk 9 (.tk 10 (.tk 11 .done)))))))))))) Zw (by kernel_rfl) ?_
   refine tk rfl (PE.move rfl) rfl ?_
   refine tk rfl (PE.nilCheck rfl) rfl ?_
   refine tk rfl (PE.fieldAddr Z43 rfl) rfl ?_
   refine ld rfl rfl (lh Z7b rfl (Z2B hsl)) rfl ?_
   refine tk rfl (PE.fieldAddr Z0d rfl) rfl ?_
   refine ld rfl rfl (lhA [_, _, _] ZG rfl rfl rfl) rfl ?_
   refine ldK rfl rfl rfl (Z0s (Z24 σ.fl) [t.now.stock, t.now.short, t.now.dry] Z1x (KeyT.of Z1g Z1p) (Z15 zv3) rfl (Z58 _) true) rfl ?_
   rw [hev]
   refine tk rfl (PE.move rfl) rfl ?_
   refine tk rfl (PE.extract rfl rfl) rfl ?_
   refine tk rfl (PE.extract rfl rfl) rfl ?_
   refine tk rfl (PE.assign rfl) rfl ?_
   refine tk rfl (PE.assign rfl) rfl ?_
   refine Z0 ?_
   refine Z6 [0, 1] rfl ?_
   refine sp rfl (PE.move rfl) rfl ?_
   refine sp rfl (PE.not rfl) rfl ?_
   refine Z4 rfl (fun hc1 => ?_) (fun hc1 => ?_)
   ·
    have hlv : lat (LY t) t.now = 1000000 := by simpa using hc1
    have hfe : Z5S t = 6 := by simp [Z5S, hck, hlv]
    refine Z0 ?_
    refine Z6 [0, 1] rfl ?_
    refine sp rfl (PE.assign rfl) rfl ?_
    refine sp rfl (PE.assign rfl) rfl ?_
    refine Z3 ?_
    first
      | exact Z5 (vs := [_, _]) rfl (.cons (RV.tmp rfl) (.cons (RV.tmp rfl) .nil)) (by rw [hfe]; rfl) ⟨[], OSl.nil _ _, rfl, rfl, rfl, by simp, fun _ => rfl, (fun h => by rw [hfe] at h; cases h), by simp⟩ (fun w h => (((((h.del b1).del bw).del m).ftail).drop))
      | exact Z5 (vs := [_, _]) rfl (.cons (RV.tmp rfl) (.cons (RV.tmp rfl) .nil)) (by rw [hfe]; rfl) ⟨σ.fl, oc, rfl, rfl, rfl, hfn, fun h => absurd hfe h, fun _ => ⟨hck, hlsa.ly hok, hlv, hst⟩, fun p hp => ⟨(hfl.rg p hp).1, (hfl.rg p hp).2.1, Z5u hok hσ p hp⟩⟩ (fun w h => (((h.del b1).del bw).del m).ftail.ftail)
   ·
    have hlv : lat (LY t) t.now ≠ 1000000 := by simpa using hc1
    have hfe : Z5S t = 0 := by simp [Z5S, hck, hlv]
    have hst := Zau hck hσ (by rw [hlsa.same hok _ hok.now]; exact hlv)
    rw [hlsa.same hok _ hok.now] at hst
    refine Z2 ?_
    refine Z0 ?_
    refine Z6 [0, 1, 2, 3, 4, 5, 6] rfl ?_
    obtain ⟨a', c', ho, hf⟩ := o.freeze
    rw [ho]
    refine Sy.heap (fun w h => hf h) ?_
    rw [show (Ze σ.fl).length = σ.fl.length from List.length_map _]
    refine sp rfl (PE.move rfl) rfl ?_
    refine sp rfl (PE.nilCheck rfl) rfl ?_
    refine sp rfl (PE.fieldAddr Z71 rfl) rfl ?_
    refine spL rfl rfl (lh Zaz rfl (Z3l hsl)) rfl ?_
    refine cl rfl Z9r rfl rfl (Z27 σ.fl a' c' (by omega) _ _) ?_
    rintro _ _ _ ⟨oc, rfl, rfl, rfl⟩
    refine sp rfl (PE.assign rfl) rfl ?_
    refine sp rfl (PE.assign rfl) rfl ?_
    refine Z3 ?_
    first
      | exact Z5 (vs := [_, _]) rfl (.cons (RV.tmp rfl) (.cons (RV.tmp rfl) .nil)) (by rw [hfe]; rfl) ⟨[], OSl.nil _ _, rfl, rfl, rfl, by simp, fun _ => rfl, (fun h => by rw [hfe] at h; cases h), by simp⟩ (fun w h => (((((h.del b1).del bw).del m).ftail).drop))
      | exact Z5 (vs := [_, _]) rfl (.cons (RV.tmp rfl) (.cons (RV.tmp rfl) .nil)) (by rw [hfe]; rfl) ⟨σ.fl, oc, rfl, rfl, rfl, hfn, fun h => absurd hfe h, fun _ => ⟨hck, hlsa.ly hok, hlv, hst⟩, fun p hp => ⟨(hfl.rg p hp).1, (hfl.rg p hp).2.1, Z5u hok hσ p hp⟩⟩ (fun w h => (((h.del b1).del bw).del m).ftail.ftail)
theorem Z59 (t : Twn) (s : Sta) (sl : Value) (H : Za) (R : Z8) :
    FnV Try.prog 37 [t.v sl, s.v] H R (.bool (s.right t)) := by
  refine Zv Try.func37 rfl Try.ntmps37 rfl ?_
  refine Z0 ?_
  refine Z6 [0, 1, 2] rfl ?_
  refine bx rfl rfl rfl (fun b2 => ?_)
  refine bx rfl rfl rfl (fun b3 => ?_)
  refine sp rfl (PE.assign rfl) rfl ?_
  refine Z0 ?_
  refine Z6 [0, 1, 2, 3, 4, 5, 6, 7, 8, 9, 10, 11, 12, 13, 14, 15, 16, 17, 18, 19, 20, 21, 22, 23, 24, 25, 26, 27, 28, 29, 30, 31, 32, 33, 34] rfl ?_
  refine sp rfl (PE.fieldAddr Z07 rfl) rfl ?_
  refine spL rfl rfl (lh sc3 rfl rfl) rfl ?_
  refine sp rfl (PE.geq rfl rfl) rfl ?_
  refine sp rfl (PE.move rfl) rfl ?_
  refine Z1 (t := 8) rfl (fun g8 => ?_) (fun g8 => ?_)
  ·
   refine spG rfl rfl rfl rfl (PE.fieldAddr Z07 rfl) rfl ?_
   refine Z0K rfl rfl rfl rfl rfl (lh sc3 rfl rfl) rfl ?_
   refine spG rfl rfl rfl rfl (PE.fieldAddr Z11 rfl) rfl ?_
   refine Z0K rfl rfl rfl rfl rfl (lh sc3 rfl rfl) rfl ?_
   refine spG rfl rfl rfl rfl (PE.leq rfl rfl) rfl ?_
   refine sp rfl (PE.pick rfl rfl rfl) rfl ?_
   refine sp rfl (PE.move rfl) rfl ?_
   refine Z1 (t := 15) rfl (fun g15 => ?_) (fun g15 => ?_)
   ·
    refine spG rfl rfl rfl rfl (PE.fieldAddr ZT rfl) rfl ?_
    refine Z0K rfl rfl rfl rfl rfl (lh sc3 rfl rfl) rfl ?_
    refine spG rfl rfl rfl rfl (PE.geq rfl rfl) rfl ?_
    refine sp rfl (PE.pick rfl rfl rfl) rfl ?_
    refine sp rfl (PE.move rfl) rfl ?_
    refine Z1 (t := 20) rfl (fun g20 => ?_) (fun g20 => ?_)
    ·
     refine spG rfl rfl rfl rfl (PE.fieldAddr ZT rfl) rfl ?_
     refine Z0K rfl rfl rfl rfl rfl (lh sc3 rfl rfl) rfl ?_
     refine spG rfl rfl rfl rfl (PE.fieldAddr Z2q rfl) rfl ?_
     refine Z0K rfl rfl rfl rfl rfl (lh sc3 rfl rfl) rfl ?_
     refine spG rfl rfl rfl rfl (PE.leq rfl rfl) rfl ?_
     refine sp rfl (PE.pick rfl rfl rfl) rfl ?_
     refine sp rfl (PE.move rfl) rfl ?_
     refine Z1 (t := 27) rfl (fun g27 => ?_) (fun g27 => ?_)
     ·
      refine spG rfl rfl rfl rfl (PE.fieldAddr Z0i rfl) rfl ?_
      refine Z0K rfl rfl rfl rfl rfl (lh sc3 rfl rfl) rfl ?_
      refine spG rfl rfl rfl rfl (PE.geq rfl rfl) rfl ?_
      refine sp rfl (PE.pick rfl rfl rfl) rfl ?_
      refine sp rfl (PE.move rfl) rfl ?_
      refine Z1 (t := 32) rfl (fun g32 => ?_) (fun g32 => ?_)
      ·
       refine spG rfl rfl rfl rfl (PE.fieldAddr Z0i rfl) rfl ?_
       refine Z0K rfl rfl rfl rfl rfl (lh sc3 rfl rfl) rfl ?_
       refine spG rfl rfl rfl rfl (PE.fieldAddr Z2a rfl) rfl ?_
       refine Z0K rfl rfl rfl rfl rfl (lh sc3 rfl rfl) rfl ?_
       refine spG rfl rfl rfl rfl (PE.leq rfl rfl) rfl ?_
       refine sp rfl (PE.pick rfl rfl rfl) rfl ?_
       refine sp rfl (PE.assign rfl) rfl ?_
       refine Z3 ?_
       exact Z5 (vs := [_]) rfl (.cons (RV.tmp rfl) .nil) rfl ⟨by simp_all [ZF, Sta.right] <;> omega, rfl, rfl⟩ drp
      ·
       refine spN rfl rfl rfl rfl rfl rfl rfl rfl ?_
       refine spN rfl rfl rfl rfl rfl rfl rfl rfl ?_
       refine spN rfl rfl rfl rfl rfl rfl rfl rfl ?_
       refine spN rfl rfl rfl rfl rfl rfl rfl rfl ?_
       refine spN rfl rfl rfl rfl rfl rfl rfl rfl ?_
       refine sp rfl (PE.pick rfl rfl rfl) rfl ?_
       refine sp rfl (PE.assign rfl) rfl ?_
       refine Z3 ?_
       exact Z5 (vs := [_]) rfl (.cons (RV.tmp rfl) .nil) rfl ⟨by simp_all [ZF, Sta.right] <;> omega, rfl, rfl⟩ drp
     ·
      refine spN rfl rfl rfl rfl rfl rfl rfl rfl ?_
      refine spN rfl rfl rfl rfl rfl rfl rfl rfl ?_
      refine spN rfl rfl rfl rfl rfl rfl rfl rfl ?_
      refine sp rfl (PE.pick rfl rfl rfl) rfl ?_
      refine sp rfl (PE.move rfl) rfl ?_
      refine spN rfl rfl rfl rfl rfl rfl rfl rfl ?_
      refine spN rfl rfl rfl rfl rfl rfl rfl rfl ?_
      refine spN rfl rfl rfl rfl rfl rfl rfl rfl ?_
      refine spN rfl rfl rfl rfl rfl rfl rfl rfl ?_
      refine spN rfl rfl rfl rfl rfl rfl rfl rfl ?_
      refine sp rfl (PE.pick rfl rfl rfl) rfl ?_
      refine sp rfl (PE.assign rfl) rfl ?_
      refine Z3 ?_
      exact Z5 (vs := [_]) rfl (.cons (RV.tmp rfl) .nil) rfl ⟨by simp_all [ZF, Sta.right] <;> omega, rfl, rfl⟩ drp
    ·
     refine spN rfl rfl rfl rfl rfl rfl rfl rfl ?_
     refine spN rfl rfl rfl rfl rfl rfl rfl rfl ?_
     refine spN rfl rfl rfl rfl rfl rfl rfl rfl ?_
     refine spN rfl rfl rfl rfl rfl rfl rfl rfl ?_
     refine spN rfl rfl rfl rfl rfl rfl rfl rfl ?_
     refine sp rfl (PE.pick rfl rfl rfl) rfl ?_
     refine sp rfl (PE.move rfl) rfl ?_
     refine spN rfl rfl rfl rfl rfl rfl rfl rfl ?_
     refine spN rfl rfl rfl rfl rfl rfl rfl rfl ?_
     refine spN rfl rfl rfl rfl rfl rfl rfl rfl ?_
     refine sp rfl (PE.pick rfl rfl rfl) rfl ?_
     refine sp rfl (PE.move rfl) rfl ?_
     refine spN rfl rfl rfl rfl rfl rfl rfl rfl ?_
     refine spN rfl rfl rfl rfl rfl rfl rfl rfl ?_
     refine spN rfl rfl rfl rfl rfl rfl rfl rfl ?_
     refine spN rfl rfl rfl rfl rfl rfl rfl rfl ?_
     refine spN rfl rfl rfl rfl rfl rfl rfl rfl ?_
     refine sp rfl (PE.pick rfl rfl rfl) rfl ?_
     refine sp rfl (PE.assign rfl) rfl ?_
     refine Z3 ?_
     exact Z5 (vs := [_]) rfl (.cons (RV.tmp rfl) .nil) rfl ⟨by simp_all [ZF, Sta.right] <;> omega, rfl, rfl⟩ drp
   ·
    refine spN rfl rfl rfl rfl rfl rfl rfl rfl ?_
    refine spN rfl rfl rfl rfl rfl rfl rfl rfl ?_
    refine spN rfl rfl rfl rfl rfl rfl rfl rfl ?_
    refine sp rfl (PE.pick rfl rfl rfl) rfl ?_
    refine sp rfl (PE.move rfl) rfl ?_
    refine spN rfl rfl rfl rfl rfl rfl rfl rfl ?_
    refine spN rfl rfl rfl rfl rfl rfl rfl rfl ?_
    refine spN rfl rfl rfl rfl rfl rfl rfl rfl ?_
    refine spN rfl rfl rfl rfl rfl rfl rfl rfl ?_
    refine spN rfl rfl rfl rfl rfl rfl rfl rfl ?_
    refine sp rfl (PE.pick rfl rfl rfl) rfl ?_
    refine sp rfl (PE.move rfl) rfl ?_
    refine spN rfl rfl rfl rfl rfl rfl rfl rfl ?_
    refine spN rfl rfl rfl rfl rfl rfl rfl rfl ?_
    refine spN rfl rfl rfl rfl rfl rfl rfl rfl ?_
    refine sp rfl (PE.pick rfl rfl rfl) rfl ?_
    refine sp rfl (PE.move rfl) rfl ?_
    refine spN rfl rfl rfl rfl rfl rfl rfl rfl ?_
    refine spN rfl rfl rfl rfl rfl rfl rfl rfl ?_
    refine spN rfl rfl rfl rfl rfl rfl rfl rfl ?_
    refine spN rfl rfl rfl rfl rfl rfl rfl rfl ?_
    refine spN rfl rfl rfl rfl rfl rfl rfl rfl ?_
    refine sp rfl (PE.pick rfl rfl rfl) rfl ?_
    refine sp rfl (PE.assign rfl) rfl ?_
    refine Z3 ?_
    exact Z5 (vs := [_]) rfl (.cons (RV.tmp rfl) .nil) rfl ⟨by simp_all [ZF, Sta.right] <;> omega, rfl, rfl⟩ drp
  ·
   refine spN rfl rfl rfl rfl rfl rfl rfl rfl ?_
   refine spN rfl rfl rfl rfl rfl rfl rfl rfl ?_
   refine spN rfl rfl rfl rfl rfl rfl rfl rfl ?_
   refine spN rfl rfl rfl rfl rfl rfl rfl rfl ?_
   refine spN rfl rfl rfl rfl rfl rfl rfl rfl ?_
   refine sp rfl (PE.pick rfl rfl rfl) rfl ?_
   refine sp rfl (PE.move rfl) rfl ?_
   refine spN rfl rfl rfl rfl rfl rfl rfl rfl ?_
   refine spN rfl rfl rfl rfl rfl rfl rfl rfl ?_
   refine spN rfl rfl rfl rfl rfl rfl rfl rfl ?_
   refine sp rfl (PE.pick rfl rfl rfl) rfl ?_
   refine sp rfl (PE.move rfl) rfl ?_
   refine spN rfl rfl rfl rfl rfl rfl rfl rfl ?_
   refine spN rfl rfl rfl rfl rfl rfl rfl rfl ?_
   refine spN rfl rfl rfl rfl rfl rfl rfl rfl ?_
   refine spN rfl rfl rfl rfl rfl rfl rfl rfl ?_
   refine spN rfl rfl rfl rfl rfl rfl rfl rfl ?_
   refine sp rfl (PE.pick rfl rfl rfl) rfl ?_
   refine sp rfl (PE.move rfl) rfl ?_
   refine spN rfl rfl rfl rfl rfl rfl rfl rfl ?_
   refine spN rfl rfl rfl rfl rfl rfl rfl rfl ?_
   refine spN rfl rfl rfl rfl rfl rfl rfl rfl ?_
   refine sp rfl (PE.pick rfl rfl rfl) rfl ?_
   refine sp rfl (PE.move rfl) rfl ?_
   refine spN rfl rfl rfl rfl rfl rfl rfl rfl ?_
   refine spN rfl rfl rfl rfl rfl rfl rfl rfl ?_
   refine spN rfl rfl rfl rfl rfl rfl rfl rfl ?_
   refine spN rfl rfl rfl rfl rfl rfl rfl rfl ?_
   refine spN rfl rfl rfl rfl rfl rfl rfl rfl ?_
   refine sp rfl (PE.pick rfl rfl rfl) rfl ?_
   refine sp rfl (PE.assign rfl) rfl ?_
   refine Z3 ?_
   exact Z5 (vs := [_]) rfl (.cons (RV.tmp rfl) .nil) rfl ⟨by simp_all [ZF, Sta.right] <;> omega, rfl, rfl⟩ drp
theorem Z4F (xs : List Rw) (a : Option Addr) (c : Nat) (hl : xs.length ≤ 1000000) (H : Za) (R : Z8) [hR : MemRows a 5 (Zg xs) R] :
    Fn Try.prog 15 [.slice a xs.length c] H R (fun v H' R' => ∃ o : OSl 48 5 (Zg xs), v = o.fs ∧ H' = o.G ++ H ∧ R' = R) := by
  refine Zv Try.func15 rfl Try.ntmps15 rfl ?_
  refine Z0 ?_
  refine Z6 [0] rfl ?_
  refine sp rfl (PE.assign rfl) rfl ?_
  refine Z0 ?_
  refine Z0 ?_
  refine Z6 [0, 1] rfl ?_
  refine sp rfl (PE.move rfl) rfl ?_
  refine sp rfl (PE.eqlNil Z1h rfl rfl) rfl ?_
  refine Z4 rfl (fun hc0 => ?_) (fun hc0 => ?_)
  ·
   refine Sy.pre (fun w h => Z5l (h.now hR.mem) hc0) (fun hnil => ?_)
   obtain rfl : xs = [] := by simpa [Zg] using hnil
   refine Z0 ?_
   refine Z6 [0] rfl ?_
   refine sp rfl (PE.assign rfl) rfl ?_
   refine Z3 ?_
   first
     | exact Z5 (vs := [_]) rfl (.cons (RV.tmp rfl) .nil) rfl ⟨o2.cast (by simp), rfl, rfl, rfl⟩ (fun _ h => h)
     | exact Z5 (vs := [_]) rfl (.cons (RV.tmp rfl) .nil) rfl ⟨OSl.nil _ _, rfl, rfl, rfl⟩ (fun _ h => h)
  ·
   refine Z2 ?_
   refine Z0 ?_
   refine Z6 [0, 1, 2, 3] rfl ?_
   refine Zai rfl Z8c rfl (fun o5 ho5 => ?_)
   refine sp rfl (PE.move rfl) rfl ?_
   refine Zbg (news := Zg xs) o5 rfl Zbf rfl rfl (Z9A) (by simp [Zg]) (by simp [Z1c, Zg, Z5T, Value.oneCell', Value.oneCell']) ⟨by simp [Zg]; omega, by simp [Zg]; omega⟩ rfl ho5 (fun o2 ho2 => ?_)
   refine sp rfl (PE.assign rfl) rfl ?_
   refine Z3 ?_
   first
     | exact Z5 (vs := [_]) rfl (.cons (RV.tmp rfl) .nil) rfl ⟨o2.cast (by simp), rfl, rfl, rfl⟩ (fun _ h => h)
     | exact Z5 (vs := [_]) rfl (.cons (RV.tmp rfl) .nil) rfl ⟨OSl.nil _ _, rfl, rfl, rfl⟩ (fun _ h => h)
theorem Z4g (l : List Rw) (o : OSl 48 5 (Zg l)) (hl : l.length ≤ 1000000) (i : Nat) (hi : i < l.length) (H : Za) (R : Z8) :
    Fn Try.prog 20 [o.fs, .int .i64 i, .int .i64 ((i + 1 : Nat) : Int)] (o.G ++ H) R (fun v H' R' => ∃ a c', v = .slice a (l.eraseIdx i).length c' ∧ H' = H ∧ R' = RowsA a 5 (Zg (l.eraseIdx i)) :: R) := by
  have hgl9 : (Zg l).length = l.length := ZC l
  obtain ⟨b, cap, junk, hfs, hG, hj, hcap, hmx⟩ := o.is.resolve_left (fun h => by have := congrArg List.length h.1; rw [hgl9] at this; simp only [List.length_nil] at this; omega)
  rw [hgl9] at hfs hcap hj
  rw [hfs, hG]
  refine Zv Try.func20 rfl Try.ntmps20 rfl ?_
  refine Z0 ?_
  refine Z6 [0] rfl ?_
  refine Sy.heap (H' := (b, cel 48 ((Zg l).flatten ++ junk)) :: H) (fun w h => h) ?_
  refine sp rfl (PE.assign rfl) rfl ?_
  refine Z0 ?_
  refine Z6 [0, 1, 2, 3, 4, 5] rfl ?_
  refine sp rfl (PE.move rfl) rfl ?_
  refine sp rfl (PE.move rfl) rfl ?_
  refine sp rfl (PE.move rfl) rfl ?_
  refine sp rfl (PE.move rfl) rfl ?_
  refine sp rfl (PE.lenSl Z1h rfl) rfl ?_
  refine sp rfl (PE.slLHM Z8c rfl rfl rfl rfl (by omega) (by omega) (by omega)) rfl ?_
  refine Z0 ?_
  refine Z0 ?_
  refine Z6 [0, 1, 2] rfl ?_
  refine sp rfl (PE.move rfl) rfl ?_
  refine sp rfl (PE.move rfl) rfl ?_
  refine sp rfl (PE.eql rfl rfl) rfl ?_
  refine Z4 rfl (fun hc0 => ?_) (fun hc0 => ?_)
  ·
   exact absurd hc0 (by simp; omega)
  ·
   refine Z2 ?_
   refine Z0 ?_
   refine Z6 [0, 1, 2] rfl ?_
   refine sp rfl (PE.move rfl) rfl ?_
   refine sp rfl (PE.lenSl Z1h rfl) rfl ?_
   refine sp rfl (PE.assign rfl) rfl ?_
   refine Z0 ?_
   refine Z9 [0, 0, 3, 0, 0, 24, 63, 127] (.tk 0 (.tk 1 (.tk 2 (.tk 3 (.tk 4 (.tk 5 (.big 6 (.tk 7 .done)))))))) Zw (by kernel_rfl) ?_
   refine tk rfl (PE.move rfl) rfl ?_
   refine tk rfl (PE.move rfl) rfl ?_
   refine tk rfl (PE.slHi Z8c rfl rfl (by omega)) rfl ?_
   refine tk rfl (PE.move rfl) rfl ?_
   refine tk rfl (PE.move rfl) rfl ?_
   refine tk rfl (PE.slLoA Z8c rfl rfl (by omega)) rfl ?_
   obtain ⟨ax, hax, hsrc⟩ : ∃ ax : Addr, (if cap = i + 1 then some (⟨b, 0, none⟩ : Addr) else (some (⟨b, 0, none⟩ : Addr)).map (·.add ((i + 1) * 5))) = some ax ∧ ∀ j v, (((Zg l).drop (i + 1)).flatten)[j]? = some v → ax.add j = ⟨b, (i + 1) * 5 + j, none⟩ := by
     by_cases h9 : cap = i + 1
     · refine ⟨_, if_pos h9, fun j v hj => ?_⟩
       have := (List.getElem?_eq_some_iff.1 hj).1
       rw [Z3x, Z0Q, List.length_drop] at this; omega
     · exact ⟨_, if_neg h9, fun j v hj => by show ((⟨b, 0, none⟩ : Addr).add ((i + 1) * 5)).add j = _; rw [ZW, ZW]; simp⟩
   rw [hax]
   refine apI (((Zg l).drop (i + 1)).flatten) rfl Z8c rfl rfl (by rw [Z3x, Z0Q, List.length_drop]) (fun w hs j v hj => by rw [hsrc j v hj, Z1A (hs.held (b, cel 48 ((Zg l).flatten ++ junk)) (by simp))]; simpa using Z60 (junk := junk) (Z0c l) (by rw [ZC]; omega) hj) (by rw [Z3x]; exact Z8K _) (by omega) (by rw [Z3x, Z0Q, List.length_drop, List.length_append, Z0Q]; omega) rfl ?_
   rw [Z3b (Z0c l) (by rw [ZC]; exact hi), ZC, Z7P, show i + (l.length - (i + 1)) = l.length - 1 from by omega]
   obtain ⟨jk, hjk⟩ : ∃ jk, jk = ((Zg l).flatten ++ junk).drop ((l.length - 1) * 5) := ⟨_, rfl⟩
   rw [← hjk]
   have hel : (l.eraseIdx i).length = l.length - 1 := List.length_eraseIdx_of_lt hi
   refine bg (fun w hs => trivial) ?_
   refine tk rfl (PE.assign rfl) rfl ?_
   refine Z0 ?_
   refine Z6 [0, 1, 2, 3, 4, 5] rfl ?_
   refine sp rfl (PE.move rfl) rfl ?_
   refine sp rfl (PE.move rfl) rfl ?_
   refine sp rfl (PE.lenSl Z1h rfl) rfl ?_
   refine sp rfl (PE.move rfl) rfl ?_
   refine sp rfl (PE.slLH Z8c rfl rfl rfl (by omega) (by omega) (by omega)) rfl ?_
   refine Zbe rfl rfl Z8c Z8Y rfl rfl rfl (by rw [hjk, List.length_append, Z0Q, List.length_drop, List.length_append, Z0Q]; omega) ?_
   rw [Z6T (by rw [Z0Q, hel]; omega)]
   obtain ⟨jk2, hjk2⟩ : ∃ jk2, jk2 = (Z1K (l.length - (l.length - 1)) [Value.int .i64 0, Value.int .i64 0, Value.int .i64 0, Value.int .i64 0, Value.int .i64 0] ++ jk.drop (Z1K (l.length - (l.length - 1)) [Value.int .i64 0, Value.int .i64 0, Value.int .i64 0, Value.int .i64 0, Value.int .i64 0]).length) := ⟨_, rfl⟩
   rw [← hjk2]
   refine Z0 ?_
   refine Z6 [0, 1] rfl ?_
   refine sp rfl (PE.move rfl) rfl ?_
   refine sp rfl (PE.assign rfl) rfl ?_
   refine Z3 ?_
   refine Sy.heap (fun w h => St.rows (sz := 5) (rows := Zg (l.eraseIdx i)) (rest := jk2) h (Z0c _)) ?_
   rw [← hel]
   exact Z5 (vs := [_]) rfl (.cons (RV.tmp rfl) .nil) rfl ⟨_, cap, rfl, rfl, rfl⟩ drp
theorem Z3F (l : List Fat) (o : OSl 51 4 (Ze l)) (hl : l.length ≤ 1000000) (i : Nat) (hi : i < l.length) (H : Za) (R : Z8) :
    Fn Try.prog 21 [o.fs, .int .i64 i, .int .i64 ((i + 1 : Nat) : Int)] (o.G ++ H) R (fun v H' R' => ∃ a c', v = .slice a (l.eraseIdx i).length c' ∧ H' = H ∧ R' = RowsA a 4 (Ze (l.eraseIdx i)) :: R) := by
  have hgl9 : (Ze l).length = l.length := ZB l
  obtain ⟨b, cap, junk, hfs, hG, hj, hcap, hmx⟩ := o.is.resolve_left (fun h => by have := congrArg List.length h.1; rw [hgl9] at this; simp only [List.length_nil] at this; omega)
  rw [hgl9] at hfs hcap hj
  rw [hfs, hG]
  refine Zv Try.func21 rfl Try.ntmps21 rfl ?_
  refine Z0 ?_
  refine Z6 [0] rfl ?_
  refine Sy.heap (H' := (b, cel 51 ((Ze l).flatten ++ junk)) :: H) (fun w h => h) ?_
  refine sp rfl (PE.assign rfl) rfl ?_
  refine Z0 ?_
  refine Z6 [0, 1, 2, 3, 4, 5] rfl ?_
  refine sp rfl (PE.move rfl) rfl ?_
  refine sp rfl (PE.move rfl) rfl ?_
  refine sp rfl (PE.move rfl) rfl ?_
  refine sp rfl (PE.move rfl) rfl ?_
  refine sp rfl (PE.lenSl Z1u rfl) rfl ?_
  refine sp rfl (PE.slLHM Z8o rfl rfl rfl rfl (by omega) (by omega) (by omega)) rfl ?_
  refine Z0 ?_
  refine Z0 ?_
  refine Z6 [0, 1, 2] rfl ?_
  refine sp rfl (PE.move rfl) rfl ?_
  refine sp rfl (PE.move rfl) rfl ?_
  refine sp rfl (PE.eql rfl rfl) rfl ?_
  refine Z4 rfl (fun hc0 => ?_) (fun hc0 => ?_)
  ·
   exact absurd hc0 (by simp; omega)
  ·
   refine Z2 ?_
   refine Z0 ?_
   refine Z6 [0, 1, 2] rfl ?_
   refine sp rfl (PE.move rfl) rfl ?_
   refine sp rfl (PE.lenSl Z1u rfl) rfl ?_
   refine sp rfl (PE.assign rfl) rfl ?_
   refine Z0 ?_
   refine Z9 [0, 0, 3, 0, 0, 24, 63, 127] (.tk 0 (.tk 1 (.tk 2 (.tk 3 (.tk 4 (.tk 5 (.big 6 (.tk 7 .done)))))))) Zw (by kernel_rfl) ?_
   refine tk rfl (PE.move rfl) rfl ?_
   refine tk rfl (PE.move rfl) rfl ?_
   refine tk rfl (PE.slHi Z8o rfl rfl (by omega)) rfl ?_
   refine tk rfl (PE.move rfl) rfl ?_
   refine tk rfl (PE.move rfl) rfl ?_
   refine tk rfl (PE.slLoA Z8o rfl rfl (by omega)) rfl ?_
   obtain ⟨ax, hax, hsrc⟩ : ∃ ax : Addr, (if cap = i + 1 then some (⟨b, 0, none⟩ : Addr) else (some (⟨b, 0, none⟩ : Addr)).map (·.add ((i + 1) * 4))) = some ax ∧ ∀ j v, (((Ze l).drop (i + 1)).flatten)[j]? = some v → ax.add j = ⟨b, (i + 1) * 4 + j, none⟩ := by
     by_cases h9 : cap = i + 1
     · refine ⟨_, if_pos h9, fun j v hj => ?_⟩
       have := (List.getElem?_eq_some_iff.1 hj).1
       rw [Z3y, Z0P, List.length_drop] at this; omega
     · exact ⟨_, if_neg h9, fun j v hj => by show ((⟨b, 0, none⟩ : Addr).add ((i + 1) * 4)).add j = _; rw [ZW, ZW]; simp⟩
   rw [hax]
   refine apI (((Ze l).drop (i + 1)).flatten) rfl Z8o rfl rfl (by rw [Z3y, Z0P, List.length_drop]) (fun w hs j v hj => by rw [hsrc j v hj, Z1A (hs.held (b, cel 51 ((Ze l).flatten ++ junk)) (by simp))]; simpa using Z60 (junk := junk) (Z09 l) (by rw [ZB]; omega) hj) (by rw [Z3y]; exact Z8C _) (by omega) (by rw [Z3y, Z0P, List.length_drop, List.length_append, Z0P]; omega) rfl ?_
   rw [Z3b (Z09 l) (by rw [ZB]; exact hi), ZB, Z7M, show i + (l.length - (i + 1)) = l.length - 1 from by omega]
   obtain ⟨jk, hjk⟩ : ∃ jk, jk = ((Ze l).flatten ++ junk).drop ((l.length - 1) * 4) := ⟨_, rfl⟩
   rw [← hjk]
   have hel : (l.eraseIdx i).length = l.length - 1 := List.length_eraseIdx_of_lt hi
   refine bg (fun w hs => trivial) ?_
   refine tk rfl (PE.assign rfl) rfl ?_
   refine Z0 ?_
   refine Z6 [0, 1, 2, 3, 4, 5] rfl ?_
   refine sp rfl (PE.move rfl) rfl ?_
   refine sp rfl (PE.move rfl) rfl ?_
   refine sp rfl (PE.lenSl Z1u rfl) rfl ?_
   refine sp rfl (PE.move rfl) rfl ?_
   refine sp rfl (PE.slLH Z8o rfl rfl rfl (by omega) (by omega) (by omega)) rfl ?_
   refine Zbe rfl rfl Z8o Z9u rfl rfl rfl (by rw [hjk, List.length_append, Z0P, List.length_drop, List.length_append, Z0P]; omega) ?_
   rw [Z6T (by rw [Z0P, hel]; omega)]
   obtain ⟨jk2, hjk2⟩ : ∃ jk2, jk2 = (Z1K (l.length - (l.length - 1)) [Value.int .i64 0, Value.int .i64 0, Value.int .i64 0, Value.int .i64 0] ++ jk.drop (Z1K (l.length - (l.length - 1)) [Value.int .i64 0, Value.int .i64 0, Value.int .i64 0, Value.int .i64 0]).length) := ⟨_, rfl⟩
   rw [← hjk2]
   refine Z0 ?_
   refine Z6 [0, 1] rfl ?_
   refine sp rfl (PE.move rfl) rfl ?_
   refine sp rfl (PE.assign rfl) rfl ?_
   refine Z3 ?_
   refine Sy.heap (fun w h => St.rows (sz := 4) (rows := Ze (l.eraseIdx i)) (rest := jk2) h (Z09 _)) ?_
   rw [← hel]
   exact Z5 (vs := [_]) rfl (.cons (RV.tmp rfl) .nil) rfl ⟨_, cap, rfl, rfl, rfl⟩ drp
theorem Z9L : cal Try.prog 37 = true := by kernel_rfl
theorem Z9J : cal Try.prog 38 = true := by kernel_rfl
theorem Z7o : cal Try.prog 39 = true := by kernel_rfl
theorem Za0 : cal Try.prog 43 = true := by kernel_rfl
theorem Zbx : Z0E Try.prog 90 = some 1 := by kernel_rfl
theorem Zbp : Z08 Try.prog 90 = some ([.map none]) := by kernel_rfl
def hV (t : Twn) (tb : List Rw) (s : Sta) : Value := .tuple #[.bool (hB t tb), .int .i64 (hM t tb s)]
def dV (t : Twn) (l : List Fat) (s : Sta) : Value := .tuple #[.bool (Zq t [] l), .int .i64 (dM t l s)]
theorem Z4T {t : Twn} {tb : List Rw} {s : Sta} (h : hB t tb = false) : hV t tb s = .tuple #[.bool false, .int .i64 (-1)] := by unfold hV hM; rw [h]; rfl
theorem Z2J {t : Twn} {tb : List Rw} {s : Sta} (h : hB t tb = true) : hV t tb s = .tuple #[.bool true, .int .i64 ((lkT tb s).getD (-1))] := by unfold hV hM; rw [h]; rfl
theorem Z7e {t : Twn} {l : List Fat} {s : Sta} (h : Zq t [] l = false) : dV t l s = .tuple #[.bool false, .int .i64 (-1)] := by unfold dV dM; rw [h]; rfl
theorem Z4V {t : Twn} {l : List Fat} {s : Sta} (h : Zq t [] l = true) : dV t l s = .tuple #[.bool true, .int .i64 ((Z1f l s).getD (-1))] := by unfold dV dM; rw [h]; rfl
theorem Z8U {t : Twn} {f : Sta → Option Int} {x : Rw} {q : Rn} (h : t.rat x.ration = some q) : Z3I t f x = (Z3S (f (t.next x.st q false)) (fun g => decide (x.lasts ≤ g)) && (decide (x.lasts = 0) || !decide (x.st.dry < t.run) || Z3S (f (t.next x.st q true)) (fun b => decide (x.lasts ≤ b) || (!decide (x.lasts = 1000000) && decide (x.lasts - 1 ≤ b))))) := by unfold Z3I; simp only [h]
theorem Z5W {t : Twn} {tb : List Rw} {x : Rw} (hx : x ∈ tb) (h : Z3I t (lkT tb) x = false) : hB t tb = false := List.all_eq_false.2 ⟨x, hx, by rw [h]; simp⟩
set_option maxHeartbeats 1000000 in
theorem Z6c (t : Twn) (hok : t.ok) (tb : List Rw) (hT : TbOk t tb) (a : Option Addr) (c : Nat) (s : Sta) (hl : t.rats.length ≤ 9223372036854775807) (ba oa ca : Nat) (H : Za) (R : Z8) [hR : MemRows (some ⟨ba, oa, none⟩) 2 (Zx t.rats) R] [hR2 : MemRows a 5 (Zg tb) R] :
    FnV Try.prog 11 [t.v (t.sl (some ⟨ba, oa, none⟩) ca), .slice a tb.length c, s.v] H R (hV t tb s) := by
  refine Zv Try.func11 rfl Try.ntmps11 rfl ?_
  refine Z0 ?_
  refine Z6 [0, 1, 2, 3] rfl ?_
  refine bx rfl rfl rfl (fun b3 => ?_)
  refine bx rfl rfl rfl (fun b5 => ?_)
  refine sp rfl (PE.assign rfl) rfl ?_
  refine sp rfl (PE.assign rfl) rfl ?_
  refine Z0 ?_
  refine Z6 [0, 1] rfl ?_
  refine mkm rfl rfl true (fun m21 => ?_)
  refine sp rfl (PE.assign rfl) rfl ?_
  refine Z0 ?_
  refine Z0 ?_
  refine Z6 [0, 1, 2] rfl ?_
  refine sp rfl (PE.move rfl) rfl ?_
  refine sp rfl (PE.lenSl Z1h rfl) rfl ?_
  refine sp rfl (PE.move rfl) rfl ?_
  refine Z7 ?_
  have hlen := hT.len
  refine Zy (ι := {x : Nat × KV // x.1 ≤ tb.length ∧ (∀ e ∈ x.2, e.1.length = 3) ∧ ∀ s : Sta, (x.2).get [s.stock, s.short, s.dry] = (lkT (tb.take x.1) s).map (Value.int .i64)}) (fun x => ⟨[(1, .slice a tb.length c), (3, .pointer (some ⟨b3, 0, none⟩)), (5, .pointer (some ⟨b5, 0, none⟩)), (8, .map (some m21)), (22, .slice a tb.length c), (23, .int .i64 tb.length), (24, .int .i64 x.1.1)], (m21, Z0o true x.1.2) :: (b5, cel 24 [.int .i64 s.stock, .int .i64 s.short, .int .i64 s.dry]) :: (b3, cel 27 (twl t (t.sl (some ⟨ba, oa, none⟩) ca))) :: H, R⟩) (fun x => tb.length - x.1.1) ⟨(0, []), by omega, by simp, fun s => rfl⟩ ?_ (fun x => ?_)
  ·
   exact Z4l (by repeat' first | exact Sub.nil | apply Sub.cons | rfl | (simp [lk]; omega)) (fun _ h => h)
  ·
   obtain ⟨⟨k, kv⟩, hk, hkl, hkv⟩ := x
   dsimp only at hk hkl hkv ⊢
   refine Z0 ?_
   refine Z6 [0] rfl ?_
   refine sp rfl (PE.lss rfl rfl) rfl ?_
   refine Z0 ?_
   refine Z4 rfl (fun hc0 => ?_) (fun hc0 => ?_)
   ·
    try simp only [decide_eq_true_eq, decide_eq_false_iff_not, Bool.and_eq_true, Bool.or_eq_true, Bool.not_eq_true', Int.not_le, Int.not_lt] at hc0
    obtain ⟨x, hx⟩ : ∃ x, tb[k]? = some x := ⟨_, List.getElem?_eq_getElem (by omega)⟩
    obtain ⟨hxr, hxl, q, hrq, hcan⟩ := hT.rg x (List.mem_of_getElem? hx)
    obtain ⟨hr0, hq⟩ := rat_iff.1 hrq
    have hno : lkT (tb.take k) x.st = none := Z3m (Z9q hT.nd hx)
    have hkn := Z9U hT.nd hx hkv
    refine Z00 (a := a) (sz := 5) (rows := Zg tb) (by intro h0; simp [Zg] at h0; simp [h0] at hx) (fun bf of he => ?_)
    subst he
    refine Z2 ?_
    refine Z0 ?_
    refine Z7 ?_
    refine Z0 ?_
    refine Z6 [0, 1, 2, 3] rfl ?_
    refine sp rfl (PE.indexAddr Z9l rfl rfl (by omega) (by omega)) rfl ?_
    refine spL rfl rfl (lfA (row := Z5T x) Zab (Z5p hx) rfl) rfl ?_
    refine alc rfl Z8Y rfl (fun b10 => ?_)
    refine sto rfl rfl rfl Zad rfl rfl rfl rfl ?_
    refine Z0 ?_
    refine Z0 ?_
    refine Z6 [0, 1, 2, 3, 4, 5, 6, 7, 8] rfl ?_
    refine sp rfl (PE.move rfl) rfl ?_
    refine sp rfl (PE.fieldAddr Z1U rfl) rfl ?_
    refine spL rfl rfl (lhA [_, _, _] ZG rfl rfl rfl) rfl ?_
    refine spK rfl rfl rfl (Z0s kv [(x.st).stock, (x.st).short, (x.st).dry] Z1x (KeyT.of Z1g Z1p) (Z15 zv3) rfl hkl true) rfl ?_
    rw [hkv x.st, Z1v, Z1z, hno]
    refine sp rfl (PE.move rfl) rfl ?_
    refine sp rfl (PE.extract rfl rfl) rfl ?_
    refine sp rfl (PE.extract rfl rfl) rfl ?_
    refine sp rfl (PE.assign rfl) rfl ?_
    refine sp rfl (PE.assign rfl) rfl ?_
    refine Z0 ?_
    refine Z6 [0, 1, 2, 3, 4, 5, 6, 7, 8, 9, 10, 11, 12, 13, 14, 15, 16, 17, 18, 19, 20, 21, 22, 23, 24, 25, 26] rfl ?_
    refine sp rfl (PE.move rfl) rfl ?_
    refine sp rfl (PE.move rfl) rfl ?_
    refine Z1 (t := 36) rfl (fun g36 => ?_) (fun g36 => ?_)
    ·
     exact absurd g36 (by first | (simp; done) | (rw [decide_eq_false (by omega)]; simp; done) | (simp; omega) | (simp_all; done))
    ·
     refine Z0K rfl rfl rfl rfl rfl (lhA (twl t (t.sl (some ⟨ba, oa, none⟩) ca)) ZZ rfl rfl rfl) rfl ?_
     refine spG rfl rfl rfl rfl (PE.fieldAddr Z1U rfl) rfl ?_
     refine Z0K rfl rfl rfl rfl rfl (lhA [_, _, _] ZG rfl rfl rfl) rfl ?_
     refine clG rfl rfl rfl rfl Z9L rfl rfl (Z59 t x.st _ _ _) ?_
     rintro _ _ _ ⟨rfl, rfl, rfl⟩
     rw [hxr]
     refine spG rfl rfl rfl rfl (PE.not rfl) rfl ?_
     refine sp rfl (PE.pick rfl rfl rfl) rfl ?_
     refine sp rfl (PE.move rfl) rfl ?_
     refine Z1 (t := 43) rfl (fun g43 => ?_) (fun g43 => ?_)
     ·
      exact absurd g43 (by first | (simp; done) | (rw [decide_eq_false (by omega)]; simp; done) | (simp; omega) | (simp_all; done))
     ·
      refine spG rfl rfl rfl rfl (PE.fieldAddr Z0w rfl) rfl ?_
      refine Z0K rfl rfl rfl rfl rfl (lh sc3 rfl rfl) rfl ?_
      refine spG rfl rfl rfl rfl (PE.lss rfl rfl) rfl ?_
      refine sp rfl (PE.pick rfl rfl rfl) rfl ?_
      refine sp rfl (PE.move rfl) rfl ?_
      refine Z1 (t := 48) rfl (fun g48 => ?_) (fun g48 => ?_)
      ·
       exact absurd g48 (by first | (simp; done) | (rw [decide_eq_false (by omega)]; simp; done) | (simp; omega) | (simp_all; done))
      ·
       refine spG rfl rfl rfl rfl (PE.fieldAddr Z0w rfl) rfl ?_
       refine Z0K rfl rfl rfl rfl rfl (lh sc3 rfl rfl) rfl ?_
       refine spG rfl rfl rfl rfl (PE.gtr rfl rfl) rfl ?_
       refine sp rfl (PE.pick rfl rfl rfl) rfl ?_
       refine sp rfl (PE.move rfl) rfl ?_
       refine Z1 (t := 53) rfl (fun g53 => ?_) (fun g53 => ?_)
       ·
        exact absurd g53 (by first | (simp; done) | (rw [decide_eq_false (by omega)]; simp; done) | (simp; omega) | (simp_all; done))
       ·
        refine Z0K rfl rfl rfl rfl rfl (lhA (twl t (t.sl (some ⟨ba, oa, none⟩) ca)) ZZ rfl rfl rfl) rfl ?_
        refine spG rfl rfl rfl rfl (PE.fieldAddr Z1U rfl) rfl ?_
        refine Z0K rfl rfl rfl rfl rfl (lhA [_, _, _] ZG rfl rfl rfl) rfl ?_
        refine spG rfl rfl rfl rfl (PE.fieldAddr Z39 rfl) rfl ?_
        refine Z0K rfl rfl rfl rfl rfl (lh sc3 rfl rfl) rfl ?_
        refine clG rfl rfl rfl rfl Z9J rfl rfl (Z4Y t x.st x.ration q ba oa ca hr0 hq _ _) ?_
        rintro _ _ _ ⟨rfl, rfl, rfl⟩
        rw [hcan]
        refine spG rfl rfl rfl rfl (PE.not rfl) rfl ?_
        refine sp rfl (PE.pick rfl rfl rfl) rfl ?_
        refine Z4 rfl (fun hc1 => ?_) (fun hc1 => ?_)
        ·
         exact absurd hc1 (by first | (simp; done) | (rw [decide_eq_false (by omega)]; simp; done) | (simp; omega) | (simp_all; done))
        ·
         refine Z2 ?_
         refine Z6 [0, 1, 2, 3, 4, 5] rfl ?_
         refine sp rfl (PE.move rfl) rfl ?_
         refine sp rfl (PE.fieldAddr Z1U rfl) rfl ?_
         refine spL rfl rfl (lhA [_, _, _] ZG rfl rfl rfl) rfl ?_
         refine sp rfl (PE.fieldAddr Z0w rfl) rfl ?_
         refine spL rfl rfl (lh sc3 rfl rfl) rfl ?_
         refine mpu kv [x.st.stock, x.st.short, x.st.dry] rfl Z1x (KeyT.of Z1g Z1p) rfl rfl rfl rfl hkl ?_
         refine Z6 [0, 1] rfl ?_
         refine sp rfl (PE.add rfl rfl (by omega)) rfl ?_
         refine sp rfl (PE.move rfl) rfl ?_
         exact Zc ⟨(k + 1, _), by omega, fun e he => (KV.put_mem he).elim (fun h => by rw [h]; rfl) (hkl e), hkn⟩ (by dsimp only; omega) (by repeat' first | exact Sub.nil | apply Sub.cons | rfl | (simp [lk]; omega)) (fun w h => h.del b10)
   ·
    try simp only [decide_eq_true_eq, decide_eq_false_iff_not, Bool.and_eq_true, Bool.or_eq_true, Bool.not_eq_true', Int.not_le, Int.not_lt] at hc0
    obtain rfl : k = tb.length := by omega
    rw [List.take_length] at hkv
    refine Zm ?_
    refine Zt ?_
    refine Zt ?_
    refine ZU ?_
    refine Z0 ?_
    refine Z0 ?_
    refine Z6 [0, 1, 2] rfl ?_
    refine sp rfl (PE.move rfl) rfl ?_
    refine sp rfl (PE.lenSl Z1h rfl) rfl ?_
    refine sp rfl (PE.move rfl) rfl ?_
    refine Z7 ?_
    refine Zy (ι := {k : Nat // k ≤ tb.length ∧ ∀ i x, i < k → tb[i]? = some x → Z3I t (lkT tb) x = true}) (fun k => ⟨[(3, .pointer (some ⟨b3, 0, none⟩)), (5, .pointer (some ⟨b5, 0, none⟩)), (8, .map (some m21)), (68, .slice a tb.length c), (69, .int .i64 tb.length), (70, .int .i64 k.1)], (m21, Z0o true kv) :: (b5, cel 24 [.int .i64 s.stock, .int .i64 s.short, .int .i64 s.dry]) :: (b3, cel 27 (twl t (t.sl (some ⟨ba, oa, none⟩) ca))) :: H, R⟩) (fun k => tb.length - k.1) ⟨0, by omega, by omega⟩ ?_ (fun k => ?_)
    ·
     exact Z4l (by repeat' first | exact Sub.nil | apply Sub.cons | rfl | (simp [lk]; omega)) (fun _ h => h)
    ·
     obtain ⟨k, hk, hall⟩ := k
     dsimp only at hk hall ⊢
     refine Z0 ?_
     refine Z6 [0] rfl ?_
     refine sp rfl (PE.lss rfl rfl) rfl ?_
     refine Z0 ?_
     refine Z4 rfl (fun hc2 => ?_) (fun hc2 => ?_)
     ·
      try simp only [decide_eq_true_eq, decide_eq_false_iff_not, Bool.and_eq_true, Bool.or_eq_true, Bool.not_eq_true', Int.not_le, Int.not_lt] at hc2
      obtain ⟨x, hx⟩ : ∃ x, tb[k]? = some x := ⟨_, List.getElem?_eq_getElem (by omega)⟩
      obtain ⟨hxr, hxl, q, hrq, hcan⟩ := hT.rg x (List.mem_of_getElem? hx)
      obtain ⟨hr0, hq⟩ := rat_iff.1 hrq
      have hrk := Z8U (f := lkT tb) hrq
      refine Z00 (a := a) (sz := 5) (rows := Zg tb) (by intro h0; simp [Zg] at h0; simp [h0] at hx) (fun bf of he => ?_)
      subst he
      refine Z2 ?_
      refine Z0 ?_
      refine Z7 ?_
      refine Z0 ?_
      refine Z6 [0, 1, 2, 3] rfl ?_
      refine sp rfl (PE.indexAddr Z9l rfl rfl (by omega) (by omega)) rfl ?_
      refine spL rfl rfl (lfA (row := Z5T x) Zab (Z5p hx) rfl) rfl ?_
      refine alc rfl Z8Y rfl (fun b14 => ?_)
      refine sto rfl rfl rfl Zad rfl rfl rfl rfl ?_
      refine Z0 ?_
      refine Z6 [0, 1, 2, 3, 4, 5, 6, 7, 8, 9, 10, 11, 12] rfl ?_
      refine sp rfl (PE.move rfl) rfl ?_
      refine spL rfl rfl (lhA (twl t (t.sl (some ⟨ba, oa, none⟩) ca)) ZZ rfl rfl rfl) rfl ?_
      refine sp rfl (PE.fieldAddr Z1U rfl) rfl ?_
      refine spL rfl rfl (lhA [_, _, _] ZG rfl rfl rfl) rfl ?_
      refine sp rfl (PE.fieldAddr Z39 rfl) rfl ?_
      refine spL rfl rfl (lh sc3 rfl rfl) rfl ?_
      refine clV rfl Z7o rfl rfl (Z3t t hok x.st hxr x.ration q false ba oa ca hr0 hq (Z36 hcan) _ _) ?_
      refine spK rfl rfl rfl (Z0s kv [(t.next x.st q false).stock, (t.next x.st q false).short, (t.next x.st q false).dry] Z1x (KeyT.of Z1g Z1p) (Z15 zv3) rfl hkl true) rfl ?_
      rw [hkv (t.next x.st q false), Z1v, Z1z]
      obtain ⟨og, hog⟩ : ∃ o, o = lkT tb (t.next x.st q false) := ⟨_, rfl⟩
      rw [← hog] at hrk ⊢
      refine sp rfl (PE.move rfl) rfl ?_
      refine sp rfl (PE.extract rfl rfl) rfl ?_
      refine sp rfl (PE.extract rfl rfl) rfl ?_
      refine sp rfl (PE.assign rfl) rfl ?_
      refine sp rfl (PE.assign rfl) rfl ?_
      refine Z0 ?_
      refine Z0 ?_
      refine Z6 [0, 1, 2, 3, 4, 5, 6, 7] rfl ?_
      refine sp rfl (PE.move rfl) rfl ?_
      refine sp rfl (PE.not rfl) rfl ?_
      refine sp rfl (PE.move rfl) rfl ?_
      refine Z1 (t := 87) rfl (fun g87 => ?_) (fun g87 => ?_)
      ·
       have hrf : Z3I t (lkT tb) x = false := by rw [hrk]; cases og with
         | none => rfl
         | some g => simp at g87
       have hbf := Z5W (List.mem_of_getElem? hx) hrf
       refine spN rfl rfl rfl rfl rfl rfl rfl rfl ?_
       refine spN rfl rfl rfl rfl rfl rfl rfl rfl ?_
       refine spN rfl rfl rfl rfl rfl rfl rfl rfl ?_
       refine spN rfl rfl rfl rfl rfl rfl rfl rfl ?_
       refine sp rfl (PE.pick rfl rfl rfl) rfl ?_
       refine Zp rfl ?_
       refine Z0 ?_
       refine Z6 [0, 1] rfl ?_
       refine sp rfl (PE.assign rfl) rfl ?_
       refine sp rfl (PE.assign rfl) rfl ?_
       refine Z3 ?_
       first
         | exact Z5 (vs := [_, _]) rfl (.cons (RV.tmp rfl) (.cons (RV.tmp rfl) .nil)) (by rw [Z2J hbt, hn]; rfl) ⟨rfl, rfl, rfl⟩ drp
         | exact Z5 (vs := [_, _]) rfl (.cons (RV.tmp rfl) (.cons (RV.tmp rfl) .nil)) (by rw [Z4T hbf]; rfl) ⟨rfl, rfl, rfl⟩ drp
      ·
       obtain ⟨g, rfl⟩ : ∃ g, og = some g := Option.isSome_iff_exists.1 (by simpa using g87)
       rw [Option.getD_some]
       refine spG rfl rfl rfl rfl (PE.move rfl) rfl ?_
       refine spG rfl rfl rfl rfl (PE.fieldAddr Z0w rfl) rfl ?_
       refine Z0K rfl rfl rfl rfl rfl (lh sc3 rfl rfl) rfl ?_
       refine spG rfl rfl rfl rfl (PE.lss rfl rfl) rfl ?_
       refine sp rfl (PE.pick rfl rfl rfl) rfl ?_
       refine Z4 rfl (fun hc3 => ?_) (fun hc3 => ?_)
       ·
        have hrf : Z3I t (lkT tb) x = false := by rw [hrk]; rw [show Z3S (some g) (fun g => decide (x.lasts ≤ g)) = false from decide_eq_false (by simp at hc3; omega)]; rfl
        have hbf := Z5W (List.mem_of_getElem? hx) hrf
        refine Z0 ?_
        refine Z6 [0, 1] rfl ?_
        refine sp rfl (PE.assign rfl) rfl ?_
        refine sp rfl (PE.assign rfl) rfl ?_
        refine Z3 ?_
        first
          | exact Z5 (vs := [_, _]) rfl (.cons (RV.tmp rfl) (.cons (RV.tmp rfl) .nil)) (by rw [Z2J hbt, hn]; rfl) ⟨rfl, rfl, rfl⟩ drp
          | exact Z5 (vs := [_, _]) rfl (.cons (RV.tmp rfl) (.cons (RV.tmp rfl) .nil)) (by rw [Z4T hbf]; rfl) ⟨rfl, rfl, rfl⟩ drp
       ·
        have hgy : Z3S (some g) (fun g => decide (x.lasts ≤ g)) = true := decide_eq_true (by simp at hc3; omega)
        rw [hgy, Bool.true_and] at hrk
        refine Z2 ?_
        refine Z0 ?_
        refine Z0 ?_
        refine Z6 [0, 1, 2, 3, 4, 5, 6, 7, 8, 9, 10] rfl ?_
        refine sp rfl (PE.fieldAddr Z0w rfl) rfl ?_
        refine spL rfl rfl (lh sc3 rfl rfl) rfl ?_
        refine sp rfl (PE.eql rfl rfl) rfl ?_
        refine sp rfl (PE.move rfl) rfl ?_
        refine Z1 (t := 96) rfl (fun g96 => ?_) (fun g96 => ?_)
        ·
         have hrt : Z3I t (lkT tb) x = true := by rw [hrk, decide_eq_true (show x.lasts = 0 by simpa using g96)]; rfl
         refine spN rfl rfl rfl rfl rfl rfl rfl rfl ?_
         refine spN rfl rfl rfl rfl rfl rfl rfl rfl ?_
         refine spN rfl rfl rfl rfl rfl rfl rfl rfl ?_
         refine spN rfl rfl rfl rfl rfl rfl rfl rfl ?_
         refine spN rfl rfl rfl rfl rfl rfl rfl rfl ?_
         refine spN rfl rfl rfl rfl rfl rfl rfl rfl ?_
         refine sp rfl (PE.pick rfl rfl rfl) rfl ?_
         refine Zp rfl ?_
         refine Zm ?_
         refine Zt ?_
         refine ZU ?_
         refine Z6 [0, 1] rfl ?_
         refine sp rfl (PE.add rfl rfl (by omega)) rfl ?_
         refine sp rfl (PE.move rfl) rfl ?_
         exact Zc ⟨k + 1, by omega, fun i y hi hy => by
           rcases Nat.lt_or_ge i k with h1 | h1
           · exact hall i y h1 hy
           · obtain rfl : i = k := by omega
             rw [hx] at hy; cases hy; exact hrt⟩ (by dsimp only; omega) (by repeat' first | exact Sub.nil | apply Sub.cons | rfl | (simp [lk]; omega)) (fun w h => h.del b14)
        ·
         rw [decide_eq_false (show ¬ x.lasts = 0 by simpa using g96), Bool.false_or] at hrk
         refine spG rfl rfl rfl rfl (PE.fieldAddr Z1U rfl) rfl ?_
         refine spG rfl rfl rfl rfl (PE.fieldAddr Z0i rfl) rfl ?_
         refine Z0K rfl rfl rfl rfl rfl (lh sc3 rfl rfl) rfl ?_
         refine spG rfl rfl rfl rfl (PE.fieldAddr Z2a rfl) rfl ?_
         refine Z0K rfl rfl rfl rfl rfl (lh sc3 rfl rfl) rfl ?_
         refine spG rfl rfl rfl rfl (PE.geq rfl rfl) rfl ?_
         refine sp rfl (PE.pick rfl rfl rfl) rfl ?_
         refine Z4 rfl (fun hc4 => ?_) (fun hc4 => ?_)
         ·
          have hrt : Z3I t (lkT tb) x = true := by rw [hrk, decide_eq_false (show ¬ x.st.dry < t.run by simp at hc4; omega)]; rfl
          refine Zm ?_
          refine Zt ?_
          refine ZU ?_
          refine Z6 [0, 1] rfl ?_
          refine sp rfl (PE.add rfl rfl (by omega)) rfl ?_
          refine sp rfl (PE.move rfl) rfl ?_
          exact Zc ⟨k + 1, by omega, fun i y hi hy => by
            rcases Nat.lt_or_ge i k with h1 | h1
            · exact hall i y h1 hy
            · obtain rfl : i = k := by omega
              rw [hx] at hy; cases hy; exact hrt⟩ (by dsimp only; omega) (by repeat' first | exact Sub.nil | apply Sub.cons | rfl | (simp [lk]; omega)) (fun w h => h.del b14)
         ·
          have hdr : x.st.dry < t.run := by simp at hc4; omega
          rw [decide_eq_true hdr, Bool.not_true, Bool.false_or] at hrk
          refine Z2 ?_
          refine Z0 ?_
          refine Z6 [0, 1, 2, 3, 4, 5, 6, 7, 8, 9, 10, 11, 12] rfl ?_
          refine sp rfl (PE.move rfl) rfl ?_
          refine spL rfl rfl (lhA (twl t (t.sl (some ⟨ba, oa, none⟩) ca)) ZZ rfl rfl rfl) rfl ?_
          refine sp rfl (PE.fieldAddr Z1U rfl) rfl ?_
          refine spL rfl rfl (lhA [_, _, _] ZG rfl rfl rfl) rfl ?_
          refine sp rfl (PE.fieldAddr Z39 rfl) rfl ?_
          refine spL rfl rfl (lh sc3 rfl rfl) rfl ?_
          refine clV rfl Z7o rfl rfl (Z3t t hok x.st hxr x.ration q true ba oa ca hr0 hq (Z36 hcan) _ _) ?_
          refine spK rfl rfl rfl (Z0s kv [(t.next x.st q true).stock, (t.next x.st q true).short, (t.next x.st q true).dry] Z1x (KeyT.of Z1g Z1p) (Z15 zv3) rfl hkl true) rfl ?_
          rw [hkv (t.next x.st q true), Z1v, Z1z]
          obtain ⟨ob, hob⟩ : ∃ o, o = lkT tb (t.next x.st q true) := ⟨_, rfl⟩
          rw [← hob] at hrk ⊢
          refine sp rfl (PE.move rfl) rfl ?_
          refine sp rfl (PE.extract rfl rfl) rfl ?_
          refine sp rfl (PE.extract rfl rfl) rfl ?_
          refine sp rfl (PE.assign rfl) rfl ?_
          refine sp rfl (PE.assign rfl) rfl ?_
          refine Z0 ?_
          refine Z6 [0, 1, 2, 3, 4, 5, 6, 7, 8, 9, 10, 11, 12, 13, 14, 15, 16, 17, 18, 19] rfl ?_
          refine sp rfl (PE.move rfl) rfl ?_
          refine sp rfl (PE.not rfl) rfl ?_
          refine sp rfl (PE.move rfl) rfl ?_
          refine Z1 (t := 117) rfl (fun g117 => ?_) (fun g117 => ?_)
          ·
           have hrf : Z3I t (lkT tb) x = false := by rw [hrk]; cases ob with
             | none => rfl
             | some g => simp at g117
           have hbf := Z5W (List.mem_of_getElem? hx) hrf
           refine spN rfl rfl rfl rfl rfl rfl rfl rfl ?_
           refine spN rfl rfl rfl rfl rfl rfl rfl rfl ?_
           refine spN rfl rfl rfl rfl rfl rfl rfl rfl ?_
           refine spN rfl rfl rfl rfl rfl rfl rfl rfl ?_
           refine spN rfl rfl rfl rfl rfl rfl rfl rfl ?_
           refine spU rfl rfl rfl rfl rfl rfl rfl ?_
           refine spU rfl rfl rfl rfl rfl rfl rfl ?_
           refine spU rfl rfl rfl rfl rfl rfl rfl ?_
           refine spU rfl rfl rfl rfl rfl rfl rfl ?_
           refine spU rfl rfl rfl rfl rfl rfl rfl ?_
           refine spU rfl rfl rfl rfl rfl rfl rfl ?_
           refine spU rfl rfl rfl rfl rfl rfl rfl ?_
           refine spU rfl rfl rfl rfl rfl rfl rfl ?_
           refine spU rfl rfl rfl rfl rfl rfl rfl ?_
           refine spU rfl rfl rfl rfl rfl rfl rfl ?_
           refine spN rfl rfl rfl rfl rfl rfl rfl rfl ?_
           refine sp rfl (PE.pick rfl rfl rfl) rfl ?_
           refine Zp rfl ?_
           refine Z0 ?_
           refine Z6 [0, 1] rfl ?_
           refine sp rfl (PE.assign rfl) rfl ?_
           refine sp rfl (PE.assign rfl) rfl ?_
           refine Z3 ?_
           first
             | exact Z5 (vs := [_, _]) rfl (.cons (RV.tmp rfl) (.cons (RV.tmp rfl) .nil)) (by rw [Z2J hbt, hn]; rfl) ⟨rfl, rfl, rfl⟩ drp
             | exact Z5 (vs := [_, _]) rfl (.cons (RV.tmp rfl) (.cons (RV.tmp rfl) .nil)) (by rw [Z4T hbf]; rfl) ⟨rfl, rfl, rfl⟩ drp
          ·
           obtain ⟨b, rfl⟩ : ∃ b, ob = some b := Option.isSome_iff_exists.1 (by simpa using g117)
           rw [Option.getD_some]
           refine spG rfl rfl rfl rfl (PE.move rfl) rfl ?_
           refine spG rfl rfl rfl rfl (PE.fieldAddr Z0w rfl) rfl ?_
           refine Z0K rfl rfl rfl rfl rfl (lh sc3 rfl rfl) rfl ?_
           refine spG rfl rfl rfl rfl (PE.lss rfl rfl) rfl ?_
           refine spG rfl rfl rfl rfl (PE.move rfl) rfl ?_
           refine Z1 (t := 122) rfl (fun g122 => ?_) (fun g122 => ?_)
           ·
            refine spG rfl rfl rfl rfl (PE.fieldAddr Z0w rfl) rfl ?_
            refine Z0K rfl rfl rfl rfl rfl (lh sc3 rfl rfl) rfl ?_
            refine spG rfl rfl rfl rfl (PE.eql rfl rfl) rfl ?_
            refine spG rfl rfl rfl rfl (PE.move rfl) rfl ?_
            refine Z1 (t := 126) rfl (fun g126 => ?_) (fun g126 => ?_)
            ·
             have hrf : Z3I t (lkT tb) x = false := by rw [hrk]; simp at g122 g126; simp [Z3S, g126]; omega
             have hbf := Z5W (List.mem_of_getElem? hx) hrf
             refine spN rfl rfl rfl rfl rfl rfl rfl rfl ?_
             refine spN rfl rfl rfl rfl rfl rfl rfl rfl ?_
             refine spN rfl rfl rfl rfl rfl rfl rfl rfl ?_
             refine spN rfl rfl rfl rfl rfl rfl rfl rfl ?_
             refine spN rfl rfl rfl rfl rfl rfl rfl rfl ?_
             refine spG rfl rfl rfl rfl (PE.pick rfl rfl rfl) rfl ?_
             refine spG rfl rfl rfl rfl (PE.pick rfl rfl rfl) rfl ?_
             refine sp rfl (PE.pick rfl rfl rfl) rfl ?_
             refine Zp rfl ?_
             refine Z0 ?_
             refine Z6 [0, 1] rfl ?_
             refine sp rfl (PE.assign rfl) rfl ?_
             refine sp rfl (PE.assign rfl) rfl ?_
             refine Z3 ?_
             first
               | exact Z5 (vs := [_, _]) rfl (.cons (RV.tmp rfl) (.cons (RV.tmp rfl) .nil)) (by rw [Z2J hbt, hn]; rfl) ⟨rfl, rfl, rfl⟩ drp
               | exact Z5 (vs := [_, _]) rfl (.cons (RV.tmp rfl) (.cons (RV.tmp rfl) .nil)) (by rw [Z4T hbf]; rfl) ⟨rfl, rfl, rfl⟩ drp
            ·
             refine spG rfl rfl rfl rfl (PE.move rfl) rfl ?_
             refine spG rfl rfl rfl rfl (PE.fieldAddr Z0w rfl) rfl ?_
             refine Z0K rfl rfl rfl rfl rfl (lh sc3 rfl rfl) rfl ?_
             refine spG rfl rfl rfl rfl (PE.sub rfl rfl (by omega)) rfl ?_
             refine spG rfl rfl rfl rfl (PE.lss rfl rfl) rfl ?_
             refine spG rfl rfl rfl rfl (PE.pick rfl rfl rfl) rfl ?_
             refine spG rfl rfl rfl rfl (PE.pick rfl rfl rfl) rfl ?_
             refine sp rfl (PE.pick rfl rfl rfl) rfl ?_
             refine Z4 rfl (fun hc5 => ?_) (fun hc5 => ?_)
             ·
              have hrf : Z3I t (lkT tb) x = false := by rw [hrk]; simp at g122 g126 hc5; simp [Z3S, g126]; omega
              have hbf := Z5W (List.mem_of_getElem? hx) hrf
              refine Z0 ?_
              refine Z6 [0, 1] rfl ?_
              refine sp rfl (PE.assign rfl) rfl ?_
              refine sp rfl (PE.assign rfl) rfl ?_
              refine Z3 ?_
              first
                | exact Z5 (vs := [_, _]) rfl (.cons (RV.tmp rfl) (.cons (RV.tmp rfl) .nil)) (by rw [Z2J hbt, hn]; rfl) ⟨rfl, rfl, rfl⟩ drp
                | exact Z5 (vs := [_, _]) rfl (.cons (RV.tmp rfl) (.cons (RV.tmp rfl) .nil)) (by rw [Z4T hbf]; rfl) ⟨rfl, rfl, rfl⟩ drp
             ·
              have hrt : Z3I t (lkT tb) x = true := by rw [hrk]; simp at g122 g126 hc5; simp [Z3S, g126]; omega
              refine Z2 ?_
              refine Z6 [0, 1] rfl ?_
              refine sp rfl (PE.add rfl rfl (by omega)) rfl ?_
              refine sp rfl (PE.move rfl) rfl ?_
              exact Zc ⟨k + 1, by omega, fun i y hi hy => by
                rcases Nat.lt_or_ge i k with h1 | h1
                · exact hall i y h1 hy
                · obtain rfl : i = k := by omega
                  rw [hx] at hy; cases hy; exact hrt⟩ (by dsimp only; omega) (by repeat' first | exact Sub.nil | apply Sub.cons | rfl | (simp [lk]; omega)) (fun w h => h.del b14)
           ·
            have hrt : Z3I t (lkT tb) x = true := by rw [hrk]; simp at g122; simp [Z3S, g122]
            refine spN rfl rfl rfl rfl rfl rfl rfl rfl ?_
            refine spN rfl rfl rfl rfl rfl rfl rfl rfl ?_
            refine spN rfl rfl rfl rfl rfl rfl rfl rfl ?_
            refine spN rfl rfl rfl rfl rfl rfl rfl rfl ?_
            refine spU rfl rfl rfl rfl rfl rfl rfl ?_
            refine spU rfl rfl rfl rfl rfl rfl rfl ?_
            refine spU rfl rfl rfl rfl rfl rfl rfl ?_
            refine spU rfl rfl rfl rfl rfl rfl rfl ?_
            refine spU rfl rfl rfl rfl rfl rfl rfl ?_
            refine spN rfl rfl rfl rfl rfl rfl rfl rfl ?_
            refine spG rfl rfl rfl rfl (PE.pick rfl rfl rfl) rfl ?_
            refine sp rfl (PE.pick rfl rfl rfl) rfl ?_
            refine Zo rfl ?_
            refine Z2 ?_
            refine Z6 [0, 1] rfl ?_
            refine sp rfl (PE.add rfl rfl (by omega)) rfl ?_
            refine sp rfl (PE.move rfl) rfl ?_
            exact Zc ⟨k + 1, by omega, fun i y hi hy => by
              rcases Nat.lt_or_ge i k with h1 | h1
              · exact hall i y h1 hy
              · obtain rfl : i = k := by omega
                rw [hx] at hy; cases hy; exact hrt⟩ (by dsimp only; omega) (by repeat' first | exact Sub.nil | apply Sub.cons | rfl | (simp [lk]; omega)) (fun w h => h.del b14)
     ·
      try simp only [decide_eq_true_eq, decide_eq_false_iff_not, Bool.and_eq_true, Bool.or_eq_true, Bool.not_eq_true', Int.not_le, Int.not_lt] at hc2
      obtain rfl : k = tb.length := by omega
      have hbt : hB t tb = true := List.all_eq_true.2 fun x hx => by
        obtain ⟨i, hi⟩ := List.getElem?_of_mem hx
        exact hall i x (List.getElem?_eq_some_iff.1 hi).1 hi
      refine Zm ?_
      refine Zt ?_
      refine Zt ?_
      refine ZU ?_
      refine Z0 ?_
      refine Z0 ?_
      refine Z6 [0, 1, 2, 3, 4, 5, 6, 7] rfl ?_
      refine sp rfl (PE.move rfl) rfl ?_
      refine spL rfl rfl (lhA [_, _, _] ZG rfl rfl rfl) rfl ?_
      refine spK rfl rfl rfl (Z0s kv [(s).stock, (s).short, (s).dry] Z1x (KeyT.of Z1g Z1p) (Z15 zv3) rfl hkl true) rfl ?_
      rw [hkv s, Z1v, Z1z]
      refine sp rfl (PE.move rfl) rfl ?_
      refine sp rfl (PE.extract rfl rfl) rfl ?_
      refine sp rfl (PE.extract rfl rfl) rfl ?_
      refine sp rfl (PE.assign rfl) rfl ?_
      refine sp rfl (PE.assign rfl) rfl ?_
      refine Z0 ?_
      refine Z6 [0] rfl ?_
      refine sp rfl (PE.move rfl) rfl ?_
      refine Z4 rfl (fun hc6 => ?_) (fun hc6 => ?_)
      ·
       obtain ⟨n, hn⟩ : ∃ n, lkT tb s = some n := Option.isSome_iff_exists.1 (by simpa using hc6)
       rw [hn]
       refine Z0 ?_
       refine Z6 [0, 1, 2] rfl ?_
       refine sp rfl (PE.move rfl) rfl ?_
       refine sp rfl (PE.assign rfl) rfl ?_
       refine sp rfl (PE.assign rfl) rfl ?_
       refine Z3 ?_
       first
         | exact Z5 (vs := [_, _]) rfl (.cons (RV.tmp rfl) (.cons (RV.tmp rfl) .nil)) (by rw [Z2J hbt, hn]; rfl) ⟨rfl, rfl, rfl⟩ drp
         | exact Z5 (vs := [_, _]) rfl (.cons (RV.tmp rfl) (.cons (RV.tmp rfl) .nil)) (by rw [Z4T hbf]; rfl) ⟨rfl, rfl, rfl⟩ drp
      ·
       have hn : lkT tb s = none := by simpa using hc6
       refine Z2 ?_
       refine Z0 ?_
       refine Z6 [0, 1] rfl ?_
       refine sp rfl (PE.assign rfl) rfl ?_
       refine sp rfl (PE.assign rfl) rfl ?_
       refine Z3 ?_
       first
         | exact Z5 (vs := [_, _]) rfl (.cons (RV.tmp rfl) (.cons (RV.tmp rfl) .nil)) (by rw [Z2J hbt, hn]; rfl) ⟨rfl, rfl, rfl⟩ drp
         | exact Z5 (vs := [_, _]) rfl (.cons (RV.tmp rfl) (.cons (RV.tmp rfl) .nil)) (by rw [Z4T hbf]; rfl) ⟨rfl, rfl, rfl⟩ drp
theorem Z6y (s : Sta) (n : Int) (l : List Fat) (kv : KV) (hkl : ∀ e ∈ kv, e.1.length = 3) (hkv : ∀ s : Sta, kv.get [s.stock, s.short, s.dry] = (Z1f l s).map (Value.int .i64)) (b8 m : Nat) (H : Za) (R : Z8) [h8 : Mem1 b8 (cel 90 [.map (some m)]) H] [hM : Mem1 m (Z0o true kv) H] :
    FnV Try.prog 43 [s.v, .int .i64 n, .pointer (some ⟨b8, 0, none⟩)] H R (.bool (Zd l s n)) := by
  refine Zv Try.func43 rfl Try.ntmps43 rfl ?_
  refine Z0 ?_
  refine Z6 [0, 1] rfl ?_
  refine bx rfl rfl rfl (fun b3 => ?_)
  refine sp rfl (PE.assign rfl) rfl ?_
  refine Z0 ?_
  refine Z6 [0, 1, 2, 3, 4, 5, 6, 7] rfl ?_
  refine spL rfl rfl (lh Z7b rfl rfl) rfl ?_
  refine spL rfl rfl (lhA [_, _, _] ZG rfl rfl rfl) rfl ?_
  refine spK rfl rfl rfl (Z0s kv [(s).stock, (s).short, (s).dry] Z1x (KeyT.of Z1g Z1p) (Z15 zv3) rfl hkl true) rfl ?_
  rw [hkv s, Z1v, Z1z]
  refine sp rfl (PE.move rfl) rfl ?_
  refine sp rfl (PE.extract rfl rfl) rfl ?_
  refine sp rfl (PE.extract rfl rfl) rfl ?_
  refine sp rfl (PE.assign rfl) rfl ?_
  refine sp rfl (PE.assign rfl) rfl ?_
  refine Z0 ?_
  refine Z6 [0, 1, 2, 3, 4, 5, 6] rfl ?_
  refine sp rfl (PE.move rfl) rfl ?_
  refine sp rfl (PE.move rfl) rfl ?_
  refine Z1 (t := 15) rfl (fun g15 => ?_) (fun g15 => ?_)
  ·
   obtain ⟨v, hv⟩ : ∃ v, Z1f l s = some v := Option.isSome_iff_exists.1 (by simpa using g15)
   rw [hv]
   refine spG rfl rfl rfl rfl (PE.move rfl) rfl ?_
   refine spG rfl rfl rfl rfl (PE.move rfl) rfl ?_
   refine spG rfl rfl rfl rfl (PE.leq rfl rfl) rfl ?_
   refine sp rfl (PE.pick rfl rfl rfl) rfl ?_
   refine sp rfl (PE.assign rfl) rfl ?_
   refine Z3 ?_
   exact Z5 (vs := [_]) rfl (.cons (RV.tmp rfl) .nil) rfl ⟨by rw [ZK, hv]; rfl, rfl, rfl⟩ drp
  ·
   have hv : Z1f l s = none := by simpa using g15
   rw [hv]
   refine spN rfl rfl rfl rfl rfl rfl rfl rfl ?_
   refine spN rfl rfl rfl rfl rfl rfl rfl rfl ?_
   refine spN rfl rfl rfl rfl rfl rfl rfl rfl ?_
   refine sp rfl (PE.pick rfl rfl rfl) rfl ?_
   refine sp rfl (PE.assign rfl) rfl ?_
   refine Z3 ?_
   exact Z5 (vs := [_]) rfl (.cons (RV.tmp rfl) .nil) rfl ⟨by rw [ZK, hv]; rfl, rfl, rfl⟩ drp
set_option maxHeartbeats 1000000 in
theorem Z4W (t : Twn) (hok : t.ok) (l : List Fat) (B : Int) (hF : FtOk t l B) (hB : B ≤ 1000000) (a : Option Addr) (c : Nat) (s : Sta) (hl : t.rats.length ≤ 9223372036854775807) (ba oa ca : Nat) (H : Za) (R : Z8) [hR : MemRows (some ⟨ba, oa, none⟩) 2 (Zx t.rats) R] [hR2 : MemRows a 4 (Ze l) R] :
    FnV Try.prog 13 [t.v (t.sl (some ⟨ba, oa, none⟩) ca), .slice a l.length c, s.v] H R (dV t l s) := by
  refine Zv Try.func13 rfl Try.ntmps13 rfl ?_
  refine Z0 ?_
  refine Z6 [0, 1, 2, 3] rfl ?_
  refine bx rfl rfl rfl (fun b3 => ?_)
  refine bx rfl rfl rfl (fun b5 => ?_)
  refine sp rfl (PE.assign rfl) rfl ?_
  refine sp rfl (PE.assign rfl) rfl ?_
  refine Z0 ?_
  refine Z6 [0, 1, 2] rfl ?_
  refine mkm rfl rfl true (fun m17 => ?_)
  refine alc rfl Zbp rfl (fun b8 => ?_)
  refine sto rfl rfl rfl Zbx rfl rfl rfl rfl ?_
  refine Z0 ?_
  refine Z6 [0, 1] rfl ?_
  refine sp rfl (PE.makeFunc rfl rfl) rfl ?_
  refine sp rfl (PE.assign rfl) rfl ?_
  refine Z0 ?_
  refine Z0 ?_
  refine Z6 [0, 1, 2] rfl ?_
  refine sp rfl (PE.move rfl) rfl ?_
  refine sp rfl (PE.lenSl Z1u rfl) rfl ?_
  refine sp rfl (PE.move rfl) rfl ?_
  refine Z7 ?_
  have hlen := hF.len
  refine Zy (ι := {x : Nat × KV // x.1 ≤ l.length ∧ ((∀ e ∈ x.2, e.1.length = 3) ∧ ∀ s : Sta, (x.2).get [s.stock, s.short, s.dry] = (Z1f (l.take x.1) s).map (Value.int .i64)) ∧ Zq t [] (l.take x.1) = true}) (fun x => ⟨[(3, .pointer (some ⟨b3, 0, none⟩)), (5, .pointer (some ⟨b5, 0, none⟩)), (8, .pointer (some ⟨b8, 0, none⟩)), (9, .func (.func 43) #[] #[.pointer (some ⟨b8, 0, none⟩)]), (19, .slice a l.length c), (20, .int .i64 l.length), (21, .int .i64 x.1.1)], (b8, cel 90 [.map (some m17)]) :: (m17, Z0o true (x.1.2)) :: (b5, cel 24 [.int .i64 s.stock, .int .i64 s.short, .int .i64 s.dry]) :: (b3, cel 27 (twl t (t.sl (some ⟨ba, oa, none⟩) ca))) :: H, R⟩) (fun x => l.length - x.1.1) ⟨(0, []), by omega, ⟨by simp, fun s => rfl⟩, rfl⟩ ?_ (fun x => ?_)
  ·
   exact Z4l (by repeat' first | exact Sub.nil | apply Sub.cons | rfl | (simp [lk]; omega)) (fun _ h => h)
  ·
   obtain ⟨⟨k, kv⟩, hk, ⟨hkl, hkv⟩, hfo⟩ := x
   dsimp only at hk hkl hkv hfo ⊢
   refine Z0 ?_
   refine Z6 [0] rfl ?_
   refine sp rfl (PE.lss rfl rfl) rfl ?_
   refine Z0 ?_
   refine Z4 rfl (fun hc0 => ?_) (fun hc0 => ?_)
   ·
    try simp only [decide_eq_true_eq, decide_eq_false_iff_not, Bool.and_eq_true, Bool.or_eq_true, Bool.not_eq_true', Int.not_le, Int.not_lt] at hc0
    obtain ⟨x, hx⟩ : ∃ x, l[k]? = some x := ⟨_, List.getElem?_eq_getElem (by omega)⟩
    obtain ⟨hxr, hx0, hx1⟩ := hF.rg x (List.mem_of_getElem? hx)
    refine Z00 (a := a) (sz := 4) (rows := Ze l) (by intro h0; simp [Ze] at h0; simp [h0] at hx) (fun bf of he => ?_)
    subst he
    refine Z2 ?_
    refine Z0 ?_
    refine Z7 ?_
    refine Z0 ?_
    refine Z6 [0, 1, 2, 3] rfl ?_
    refine sp rfl (PE.indexAddr Z9R rfl rfl (by omega) (by omega)) rfl ?_
    refine spL rfl rfl (lfA (row := Z2O x) Za9 (Z50 hx) rfl) rfl ?_
    refine alc rfl Z9u rfl (fun b11 => ?_)
    refine sto rfl rfl rfl Zbk rfl rfl rfl rfl ?_
    refine Z0 ?_
    refine Z0 ?_
    refine Z6 [0, 1, 2, 3, 4, 5, 6, 7, 8, 9, 10, 11, 12, 13, 14] rfl ?_
    refine spL rfl rfl (lhA (twl t (t.sl (some ⟨ba, oa, none⟩) ca)) ZZ rfl rfl rfl) rfl ?_
    refine sp rfl (PE.fieldAddr Z0v rfl) rfl ?_
    refine spL rfl rfl (lhA [_, _, _] ZG rfl rfl rfl) rfl ?_
    refine cl rfl Z9L rfl rfl (Z59 t x.1 _ _ _) ?_
    rintro _ _ R1 ⟨rfl, rfl, hR1⟩
    obtain rfl := hR1.symm
    clear hR1
    rw [hxr]
    refine sp rfl (PE.not rfl) rfl ?_
    refine sp rfl (PE.move rfl) rfl ?_
    refine Z1 (t := 30) rfl (fun g30 => ?_) (fun g30 => ?_)
    ·
     exact absurd g30 (by first | (simp; done) | (rw [decide_eq_false (by omega)]; simp; done) | (simp; omega) | (simp_all; done))
    ·
     refine spG rfl rfl rfl rfl (PE.fieldAddr Z0y rfl) rfl ?_
     refine Z0K rfl rfl rfl rfl rfl (lh sc3 rfl rfl) rfl ?_
     refine spG rfl rfl rfl rfl (PE.lss rfl rfl) rfl ?_
     refine sp rfl (PE.pick rfl rfl rfl) rfl ?_
     refine sp rfl (PE.move rfl) rfl ?_
     refine Z1 (t := 35) rfl (fun g35 => ?_) (fun g35 => ?_)
     ·
      exact absurd g35 (by first | (simp; done) | (rw [decide_eq_false (by omega)]; simp; done) | (simp; omega) | (simp_all; done))
     ·
      refine spG rfl rfl rfl rfl (PE.fieldAddr Z0y rfl) rfl ?_
      refine Z0K rfl rfl rfl rfl rfl (lh sc3 rfl rfl) rfl ?_
      refine spG rfl rfl rfl rfl (PE.gtr rfl rfl) rfl ?_
      refine sp rfl (PE.pick rfl rfl rfl) rfl ?_
      refine Z4 rfl (fun hc1 => ?_) (fun hc1 => ?_)
      ·
       exact absurd hc1 (by first | (simp; done) | (rw [decide_eq_false (by omega)]; simp; done) | (simp; omega) | (simp_all; done))
      ·
       refine Z2 ?_
       refine Z0 ?_
       refine Z0 ?_
       refine Z6 [0, 1, 2, 3] rfl ?_
       refine sp rfl (PE.fieldAddr ZJ rfl) rfl ?_
       refine spL rfl rfl (lh Z0Z rfl rfl) rfl ?_
       refine sp rfl (PE.lenSl Z2L rfl) rfl ?_
       refine sp rfl (PE.move rfl) rfl ?_
       refine Z7 ?_
       have hmany := hok.many
       refine Zy (ι := {j : Nat // j ≤ t.rats.length ∧ ∀ i q, i < j → t.rats[i]? = some q → (!(t.can x.1 q) || (Zd (l.take k) (t.next x.1 q false) x.2 || (decide (x.1.dry < t.run) && Zd (l.take k) (t.next x.1 q true) (x.2 - 1)))) = true}) (fun j => ⟨[(3, .pointer (some ⟨b3, 0, none⟩)), (5, .pointer (some ⟨b5, 0, none⟩)), (8, .pointer (some ⟨b8, 0, none⟩)), (9, .func (.func 43) #[] #[.pointer (some ⟨b8, 0, none⟩)]), (19, .slice (some ⟨bf, of, none⟩) l.length c), (20, .int .i64 l.length), (21, .int .i64 k), (11, .pointer (some ⟨b11, 0, none⟩)), (42, .int .i64 t.rats.length), (43, .int .i64 j.1)], (b11, cel 51 (Z2O x)) :: (b8, cel 90 [.map (some m17)]) :: (m17, Z0o true (kv)) :: (b5, cel 24 [.int .i64 s.stock, .int .i64 s.short, .int .i64 s.dry]) :: (b3, cel 27 (twl t (t.sl (some ⟨ba, oa, none⟩) ca))) :: H, R⟩) (fun j => t.rats.length - j.1) ⟨0, by omega, by omega⟩ ?_ (fun j => ?_)
       ·
        exact Z4l (by repeat' first | exact Sub.nil | apply Sub.cons | rfl | (simp [lk]; omega)) (fun _ h => h)
       ·
        obtain ⟨j, hj, hno⟩ := j
        dsimp only at hj hno ⊢
        refine Z0 ?_
        refine Z6 [0] rfl ?_
        refine sp rfl (PE.lss rfl rfl) rfl ?_
        refine Z0 ?_
        refine Z4 rfl (fun hc2 => ?_) (fun hc2 => ?_)
        ·
         try simp only [decide_eq_true_eq, decide_eq_false_iff_not, Bool.and_eq_true, Bool.or_eq_true, Bool.not_eq_true', Int.not_le, Int.not_lt] at hc2
         obtain ⟨q, hq⟩ : ∃ q, t.rats[j]? = some q := ⟨_, List.getElem?_eq_getElem (by omega)⟩
         have hqm := List.mem_of_getElem? hq
         refine Z2 ?_
         refine Z0 ?_
         refine Z7 ?_
         refine Z0 ?_
         refine Z6 [0, 1] rfl ?_
         refine sp rfl (PE.move rfl) rfl ?_
         refine sp rfl (PE.assign rfl) rfl ?_
         refine Z0 ?_
         refine Z9 [0, 0, 2, 0, 15, 31, 63, 63, 63, 319, 63, 1983, 63, 4159, 16383, 32767, 65535, 131071, 262143, 524287, 1048575, 262143, 2359295, 8388607, 16777215, 33554431, 33554431, 33554431, 167772159, 33554431, 1040187391, 33554431, 2181038079, 6476005375, 17179869183, 34359738367, 68719476735, 137438953471] (.ld 0 (.tk 1 (.ld 2 (.tk 3 (.big 4 (.tk 5 (.tk 6 (.ld 7 (.tk 8 (.ld 9 (.tk 10 (.tk 12 (.ld 13 (.big 11 (.big 14 (.tk 15 (.tk 16 (.tk 17 (.tk 18 (.tk 19 (.ld 20 (.tk 21 (.ld 22 (.tk 23 (.tk 24 (.tk 25 (.ld 26 (.tk 27 (.ld 28 (.tk 29 (.tk 31 (.ld 32 (.tk 33 (.big 30 (.big 34 (.tk 35 (.tk 36 (.tk 37 .done)))))))))))))))))))))))))))))))))))))) Zw (by kernel_rfl) ?_
         refine ld rfl rfl (lhA (twl t (t.sl (some ⟨ba, oa, none⟩) ca)) ZZ rfl rfl rfl) rfl ?_
         refine tk rfl (PE.fieldAddr Z0v rfl) rfl ?_
         refine ld rfl rfl (lhA [_, _, _] ZG rfl rfl rfl) rfl ?_
         refine tk rfl (PE.move rfl) rfl ?_
         refine clV rfl Z9J rfl rfl (Z4Y t x.1 j q ba oa ca (by omega) (by simpa using hq) _ _) ?_
         refine bg (fun w hs => ⟨trivial, trivial, trivial⟩) ?_
         refine tk rfl (PE.move rfl) rfl ?_
         refine Z1 (t := 51) rfl (fun g51 => ?_) (fun g51 => ?_)
         ·
          have hcan : t.can x.1 q = true := by simpa using g51
          refine tkG rfl rfl rfl rfl (PE.move rfl) rfl ?_
          refine ldG rfl rfl rfl rfl rfl (lhA (twl t (t.sl (some ⟨ba, oa, none⟩) ca)) ZZ rfl rfl rfl) rfl ?_
          refine tkG rfl rfl rfl rfl (PE.fieldAddr Z0v rfl) rfl ?_
          refine ldG rfl rfl rfl rfl rfl (lhA [_, _, _] ZG rfl rfl rfl) rfl ?_
          refine tkG rfl rfl rfl rfl (PE.move rfl) rfl ?_
          refine tkG rfl rfl rfl rfl (PE.fieldAddr Z0y rfl) rfl ?_
          refine ldG rfl rfl rfl rfl rfl (lh sc3 rfl rfl) rfl ?_
          refine Z1X rfl rfl rfl rfl Z7o rfl rfl (Z3t t hok x.1 hxr j q false ba oa ca (by omega) (by simpa using hq) (Z36 hcan) _ _) ?_
          refine bg (fun w hs => ⟨(lh sc3 rfl rfl) w hs, trivial, trivial, trivial⟩) ?_
          refine Z7p rfl rfl rfl rfl rfl (Za0) rfl rfl (Z6y (t.next x.1 q false) (x.2) (l.take k) kv hkl hkv b8 m17 _ _) ?_
          refine bg (fun w hs => ⟨trivial, trivial⟩) ?_
          refine tkG rfl rfl rfl rfl (PE.not rfl) rfl ?_
          refine tk rfl (PE.pick rfl rfl rfl) rfl ?_
          refine tk rfl (PE.move rfl) rfl ?_
          refine Z1 (t := 63) rfl (fun g63 => ?_) (fun g63 => ?_)
          ·
           have hg : Zd (l.take k) (t.next x.1 q false) x.2 = false := by simpa using g63
           refine tkG rfl rfl rfl rfl (PE.fieldAddr Z0v rfl) rfl ?_
           refine tkG rfl rfl rfl rfl (PE.fieldAddr Z0i rfl) rfl ?_
           refine ldG rfl rfl rfl rfl rfl (lh sc3 rfl rfl) rfl ?_
           refine tkG rfl rfl rfl rfl (PE.fieldAddr Z2a rfl) rfl ?_
           refine ldG rfl rfl rfl rfl rfl (lh sc3 rfl rfl) rfl ?_
           refine tkG rfl rfl rfl rfl (PE.geq rfl rfl) rfl ?_
           refine tkG rfl rfl rfl rfl (PE.move rfl) rfl ?_
           refine Z1 (t := 70) rfl (fun g70 => ?_) (fun g70 => ?_)
           ·
            have hdry : decide (x.1.dry < t.run) = false := by simpa using g70
            have hbad : (!(t.can x.1 q) || (Zd (l.take k) (t.next x.1 q false) x.2 || (decide (x.1.dry < t.run) && Zd (l.take k) (t.next x.1 q true) (x.2 - 1)))) = false := by rw [hcan, hg, hdry]; rfl
            have hbf := Z0g (pre := []) hx (List.all_eq_false.2 ⟨q, hqm, by rw [List.nil_append, hbad]; simp⟩)
            refine tkN rfl rfl rfl rfl rfl rfl rfl rfl ?_
            refine ldN rfl rfl rfl rfl rfl rfl rfl rfl ?_
            refine tkN rfl rfl rfl rfl rfl rfl rfl rfl ?_
            refine ldN rfl rfl rfl rfl rfl rfl rfl rfl ?_
            refine tkN rfl rfl rfl rfl rfl rfl rfl rfl ?_
            refine tkN rfl rfl rfl rfl rfl rfl rfl rfl ?_
            refine ldN rfl rfl rfl rfl rfl rfl rfl rfl ?_
            refine tkN rfl rfl rfl rfl rfl rfl rfl rfl ?_
            refine spN rfl rfl rfl rfl rfl rfl rfl rfl ?_
            refine bg (fun w hs => ⟨((fun _ _ => True.intro)) w hs, trivial, trivial, trivial, trivial, trivial⟩) ?_
            refine spN rfl rfl rfl rfl rfl rfl rfl rfl ?_
            refine bg (fun w hs => ⟨trivial, trivial⟩) ?_
            refine tkN rfl rfl rfl rfl rfl rfl rfl rfl ?_
            refine tkG rfl rfl rfl rfl (PE.pick rfl rfl rfl) rfl ?_
            refine tk rfl (PE.pick rfl rfl rfl) rfl ?_
            refine Zp rfl ?_
            refine Z0 ?_
            refine Z6 [0, 1] rfl ?_
            refine sp rfl (PE.assign rfl) rfl ?_
            refine sp rfl (PE.assign rfl) rfl ?_
            refine Z3 ?_
            first
              | exact Z5 (vs := [_, _]) rfl (.cons (RV.tmp rfl) (.cons (RV.tmp rfl) .nil)) (by rw [Z4V hfo, hn]; rfl) ⟨rfl, rfl, rfl⟩ drp
              | exact Z5 (vs := [_, _]) rfl (.cons (RV.tmp rfl) (.cons (RV.tmp rfl) .nil)) (by rw [Z7e hbf]; rfl) ⟨rfl, rfl, rfl⟩ drp
           ·
            have hdry : decide (x.1.dry < t.run) = true := by simpa using g70
            refine tkG rfl rfl rfl rfl (PE.move rfl) rfl ?_
            refine ldG rfl rfl rfl rfl rfl (lhA (twl t (t.sl (some ⟨ba, oa, none⟩) ca)) ZZ rfl rfl rfl) rfl ?_
            refine tkG rfl rfl rfl rfl (PE.fieldAddr Z0v rfl) rfl ?_
            refine ldG rfl rfl rfl rfl rfl (lhA [_, _, _] ZG rfl rfl rfl) rfl ?_
            refine tkG rfl rfl rfl rfl (PE.move rfl) rfl ?_
            refine tkG rfl rfl rfl rfl (PE.fieldAddr Z0y rfl) rfl ?_
            refine ldG rfl rfl rfl rfl rfl (lh sc3 rfl rfl) rfl ?_
            refine tkG rfl rfl rfl rfl (PE.sub rfl rfl (by omega)) rfl ?_
            refine Z1X rfl rfl rfl rfl Z7o rfl rfl (Z3t t hok x.1 hxr j q true ba oa ca (by omega) (by simpa using hq) (Z36 hcan) _ _) ?_
            refine bg (fun w hs => ⟨(lh sc3 rfl rfl) w hs, trivial, trivial, trivial, trivial, trivial⟩) ?_
            refine Z7p rfl rfl rfl rfl rfl (Za0) rfl rfl (Z6y (t.next x.1 q true) (x.2 - 1) (l.take k) kv hkl hkv b8 m17 _ _) ?_
            refine bg (fun w hs => ⟨trivial, trivial⟩) ?_
            refine tkG rfl rfl rfl rfl (PE.not rfl) rfl ?_
            refine tkG rfl rfl rfl rfl (PE.pick rfl rfl rfl) rfl ?_
            refine tk rfl (PE.pick rfl rfl rfl) rfl ?_
            refine Z4 rfl (fun hc3 => ?_) (fun hc3 => ?_)
            ·
             have hbad : (!(t.can x.1 q) || (Zd (l.take k) (t.next x.1 q false) x.2 || (decide (x.1.dry < t.run) && Zd (l.take k) (t.next x.1 q true) (x.2 - 1)))) = false := by rw [hcan, hg, show Zd (l.take k) (t.next x.1 q true) (x.2 - 1) = false by simpa using hc3]; simp
             have hbf := Z0g (pre := []) hx (List.all_eq_false.2 ⟨q, hqm, by rw [List.nil_append, hbad]; simp⟩)
             refine Z0 ?_
             refine Z6 [0, 1] rfl ?_
             refine sp rfl (PE.assign rfl) rfl ?_
             refine sp rfl (PE.assign rfl) rfl ?_
             refine Z3 ?_
             first
               | exact Z5 (vs := [_, _]) rfl (.cons (RV.tmp rfl) (.cons (RV.tmp rfl) .nil)) (by rw [Z4V hfo, hn]; rfl) ⟨rfl, rfl, rfl⟩ drp
               | exact Z5 (vs := [_, _]) rfl (.cons (RV.tmp rfl) (.cons (RV.tmp rfl) .nil)) (by rw [Z7e hbf]; rfl) ⟨rfl, rfl, rfl⟩ drp
            ·
             have hyes : (!(t.can x.1 q) || (Zd (l.take k) (t.next x.1 q false) x.2 || (decide (x.1.dry < t.run) && Zd (l.take k) (t.next x.1 q true) (x.2 - 1)))) = true := by rw [show Zd (l.take k) (t.next x.1 q true) (x.2 - 1) = true by simpa using hc3, hdry]; simp
             refine Z2 ?_
             refine Z6 [0, 1] rfl ?_
             refine sp rfl (PE.add rfl rfl (by omega)) rfl ?_
             refine sp rfl (PE.move rfl) rfl ?_
             exact Zc ⟨j + 1, by omega, fun i q' hi hq' => by
               rcases Nat.lt_or_ge i j with h1 | h1
               · exact hno i q' h1 hq'
               · obtain rfl : i = j := by omega
                 rw [hq] at hq'; cases hq'; exact hyes⟩ (by dsimp only; omega) (by repeat' first | exact Sub.nil | apply Sub.cons | rfl | (simp [lk]; omega)) (fun _ h => h)
          ·
           have hyes : (!(t.can x.1 q) || (Zd (l.take k) (t.next x.1 q false) x.2 || (decide (x.1.dry < t.run) && Zd (l.take k) (t.next x.1 q true) (x.2 - 1)))) = true := by rw [show Zd (l.take k) (t.next x.1 q false) x.2 = true by simpa using g63]; simp
           refine tkN rfl rfl rfl rfl rfl rfl rfl rfl ?_
           refine tkN rfl rfl rfl rfl rfl rfl rfl rfl ?_
           refine ldN rfl rfl rfl rfl rfl rfl rfl rfl ?_
           refine tkN rfl rfl rfl rfl rfl rfl rfl rfl ?_
           refine ldN rfl rfl rfl rfl rfl rfl rfl rfl ?_
           refine tkN rfl rfl rfl rfl rfl rfl rfl rfl ?_
           refine tkN rfl rfl rfl rfl rfl rfl rfl rfl ?_
           refine tkU rfl rfl rfl rfl rfl rfl rfl ?_
           refine ldU rfl rfl rfl rfl rfl rfl rfl ?_
           refine tkU rfl rfl rfl rfl rfl rfl rfl ?_
           refine ldU rfl rfl rfl rfl rfl rfl rfl ?_
           refine tkU rfl rfl rfl rfl rfl rfl rfl ?_
           refine tkU rfl rfl rfl rfl rfl rfl rfl ?_
           refine ldU rfl rfl rfl rfl rfl rfl rfl ?_
           refine tkU rfl rfl rfl rfl rfl rfl rfl ?_
           refine spU rfl rfl rfl rfl rfl rfl rfl ?_
           refine bg (fun w hs => ⟨((fun _ _ => True.intro)) w hs, trivial, trivial, trivial, trivial, trivial⟩) ?_
           refine spU rfl rfl rfl rfl rfl rfl rfl ?_
           refine bg (fun w hs => ⟨trivial, trivial⟩) ?_
           refine tkU rfl rfl rfl rfl rfl rfl rfl ?_
           refine tkN rfl rfl rfl rfl rfl rfl rfl rfl ?_
           refine tk rfl (PE.pick rfl rfl rfl) rfl ?_
           refine Zo rfl ?_
           refine Z2 ?_
           refine Z6 [0, 1] rfl ?_
           refine sp rfl (PE.add rfl rfl (by omega)) rfl ?_
           refine sp rfl (PE.move rfl) rfl ?_
           exact Zc ⟨j + 1, by omega, fun i q' hi hq' => by
             rcases Nat.lt_or_ge i j with h1 | h1
             · exact hno i q' h1 hq'
             · obtain rfl : i = j := by omega
               rw [hq] at hq'; cases hq'; exact hyes⟩ (by dsimp only; omega) (by repeat' first | exact Sub.nil | apply Sub.cons | rfl | (simp [lk]; omega)) (fun _ h => h)
         ·
          have hyes : (!(t.can x.1 q) || (Zd (l.take k) (t.next x.1 q false) x.2 || (decide (x.1.dry < t.run) && Zd (l.take k) (t.next x.1 q true) (x.2 - 1)))) = true := by rw [show t.can x.1 q = false by simpa using g51]; rfl
          refine tkN rfl rfl rfl rfl rfl rfl rfl rfl ?_
          refine ldN rfl rfl rfl rfl rfl rfl rfl rfl ?_
          refine tkN rfl rfl rfl rfl rfl rfl rfl rfl ?_
          refine ldN rfl rfl rfl rfl rfl rfl rfl rfl ?_
          refine tkN rfl rfl rfl rfl rfl rfl rfl rfl ?_
          refine tkN rfl rfl rfl rfl rfl rfl rfl rfl ?_
          refine ldN rfl rfl rfl rfl rfl rfl rfl rfl ?_
          refine spN rfl rfl rfl rfl rfl rfl rfl rfl ?_
          refine bg (fun w hs => ⟨((fun _ _ => True.intro)) w hs, trivial, trivial, trivial⟩) ?_
          refine spN rfl rfl rfl rfl rfl rfl rfl rfl ?_
          refine bg (fun w hs => ⟨trivial, trivial⟩) ?_
          refine tkN rfl rfl rfl rfl rfl rfl rfl rfl ?_
          refine tk rfl (PE.pick rfl rfl rfl) rfl ?_
          refine tk rfl (PE.move rfl) rfl ?_
          refine tkN rfl rfl rfl rfl rfl rfl rfl rfl ?_
          refine tkN rfl rfl rfl rfl rfl rfl rfl rfl ?_
          refine ldN rfl rfl rfl rfl rfl rfl rfl rfl ?_
          refine tkN rfl rfl rfl rfl rfl rfl rfl rfl ?_
          refine ldN rfl rfl rfl rfl rfl rfl rfl rfl ?_
          refine tkN rfl rfl rfl rfl rfl rfl rfl rfl ?_
          refine tkN rfl rfl rfl rfl rfl rfl rfl rfl ?_
          refine tkU rfl rfl rfl rfl rfl rfl rfl ?_
          refine ldU rfl rfl rfl rfl rfl rfl rfl ?_
          refine tkU rfl rfl rfl rfl rfl rfl rfl ?_
          refine ldU rfl rfl rfl rfl rfl rfl rfl ?_
          refine tkU rfl rfl rfl rfl rfl rfl rfl ?_
          refine tkU rfl rfl rfl rfl rfl rfl rfl ?_
          refine ldU rfl rfl rfl rfl rfl rfl rfl ?_
          refine tkU rfl rfl rfl rfl rfl rfl rfl ?_
          refine spU rfl rfl rfl rfl rfl rfl rfl ?_
          refine bg (fun w hs => ⟨((fun _ _ => True.intro)) w hs, trivial, trivial, trivial, trivial, trivial⟩) ?_
          refine spU rfl rfl rfl rfl rfl rfl rfl ?_
          refine bg (fun w hs => ⟨trivial, trivial⟩) ?_
          refine tkU rfl rfl rfl rfl rfl rfl rfl ?_
          refine tkN rfl rfl rfl rfl rfl rfl rfl rfl ?_
          refine tk rfl (PE.pick rfl rfl rfl) rfl ?_
          refine Zo rfl ?_
          refine Z2 ?_
          refine Z6 [0, 1] rfl ?_
          refine sp rfl (PE.add rfl rfl (by omega)) rfl ?_
          refine sp rfl (PE.move rfl) rfl ?_
          exact Zc ⟨j + 1, by omega, fun i q' hi hq' => by
            rcases Nat.lt_or_ge i j with h1 | h1
            · exact hno i q' h1 hq'
            · obtain rfl : i = j := by omega
              rw [hq] at hq'; cases hq'; exact hyes⟩ (by dsimp only; omega) (by repeat' first | exact Sub.nil | apply Sub.cons | rfl | (simp [lk]; omega)) (fun _ h => h)
        ·
         try simp only [decide_eq_true_eq, decide_eq_false_iff_not, Bool.and_eq_true, Bool.or_eq_true, Bool.not_eq_true', Int.not_le, Int.not_lt] at hc2
         obtain rfl : j = t.rats.length := by omega
         have hfx : Z2I t (l.take k) x = true := List.all_eq_true.2 fun q hq => by
           obtain ⟨i, hi⟩ := List.getElem?_of_mem hq
           exact hno i q (List.getElem?_eq_some_iff.1 hi).1 hi
         refine Zm ?_
         refine Zt ?_
         refine Zt ?_
         refine ZU ?_
         refine Z0 ?_
         refine Z6 [0, 1, 2, 3, 4, 5, 6, 7, 8] rfl ?_
         refine spL rfl rfl (lh Z7b rfl rfl) rfl ?_
         refine sp rfl (PE.fieldAddr Z0v rfl) rfl ?_
         refine spL rfl rfl (lhA [_, _, _] ZG rfl rfl rfl) rfl ?_
         refine spK rfl rfl rfl (Z0s kv [(x.1).stock, (x.1).short, (x.1).dry] Z1x (KeyT.of Z1g Z1p) (Z15 zv3) rfl hkl true) rfl ?_
         rw [hkv x.1, Z1v, Z1z]
         obtain ⟨om, hom⟩ : ∃ o, o = Z1f (l.take k) x.1 := ⟨_, rfl⟩
         have hem := ZK (l.take k) x.1 x.2
         rw [← hom] at hem ⊢
         refine sp rfl (PE.move rfl) rfl ?_
         refine sp rfl (PE.extract rfl rfl) rfl ?_
         refine sp rfl (PE.extract rfl rfl) rfl ?_
         refine sp rfl (PE.assign rfl) rfl ?_
         refine sp rfl (PE.assign rfl) rfl ?_
         refine Z0 ?_
         refine Z6 [0, 1, 2, 3, 4, 5, 6, 7] rfl ?_
         refine sp rfl (PE.move rfl) rfl ?_
         refine sp rfl (PE.not rfl) rfl ?_
         refine sp rfl (PE.move rfl) rfl ?_
         refine Z1 (t := 94) rfl (fun g94 => ?_) (fun g94 => ?_)
         ·
          have hd : Zd (l.take k) x.1 x.2 = false := by rw [hem]; cases om with
            | none => rfl
            | some v => simp at g94
          have hkn := Z6B hkv hd
          refine spN rfl rfl rfl rfl rfl rfl rfl rfl ?_
          refine spN rfl rfl rfl rfl rfl rfl rfl rfl ?_
          refine spN rfl rfl rfl rfl rfl rfl rfl rfl ?_
          refine spN rfl rfl rfl rfl rfl rfl rfl rfl ?_
          refine sp rfl (PE.pick rfl rfl rfl) rfl ?_
          refine Zp rfl ?_
          refine Z6 [0, 1, 2, 3, 4, 5] rfl ?_
          refine spL rfl rfl (lh Z7b rfl rfl) rfl ?_
          refine sp rfl (PE.fieldAddr Z0v rfl) rfl ?_
          refine spL rfl rfl (lhA [_, _, _] ZG rfl rfl rfl) rfl ?_
          refine sp rfl (PE.fieldAddr Z0y rfl) rfl ?_
          refine spL rfl rfl (lh sc3 rfl rfl) rfl ?_
          refine mpu kv [x.1.stock, x.1.short, x.1.dry] rfl Z1x (KeyT.of Z1g Z1p) rfl rfl rfl rfl hkl ?_
          refine Z6 [0, 1] rfl ?_
          refine sp rfl (PE.add rfl rfl (by omega)) rfl ?_
          refine sp rfl (PE.move rfl) rfl ?_
          first
            | exact Zc ⟨(k + 1, _), by omega, ⟨fun e he => (KV.put_mem he).elim (fun h => by rw [h]; rfl) (hkl e), by dsimp only; rw [Z03 hx]; exact hkn⟩, ZO hx hfo hfx⟩ (by dsimp only; omega) (by repeat' first | exact Sub.nil | apply Sub.cons | rfl | (simp [lk]; omega)) (fun w h => h.del b11)
            | exact Zc ⟨(k + 1, kv), by omega, ⟨hkl, by dsimp only; rw [Z03 hx]; exact hkn⟩, ZO hx hfo hfx⟩ (by dsimp only; omega) (by repeat' first | exact Sub.nil | apply Sub.cons | rfl | (simp [lk]; omega)) (fun w h => h.del b11)
         ·
          obtain ⟨v, rfl⟩ : ∃ v, om = some v := Option.isSome_iff_exists.1 (by simpa using g94)
          rw [Option.getD_some]
          refine spG rfl rfl rfl rfl (PE.fieldAddr Z0y rfl) rfl ?_
          refine Z0K rfl rfl rfl rfl rfl (lh sc3 rfl rfl) rfl ?_
          refine spG rfl rfl rfl rfl (PE.move rfl) rfl ?_
          refine spG rfl rfl rfl rfl (PE.lss rfl rfl) rfl ?_
          refine sp rfl (PE.pick rfl rfl rfl) rfl ?_
          refine Z4 rfl (fun hc4 => ?_) (fun hc4 => ?_)
          ·
           have hd : Zd (l.take k) x.1 x.2 = false := by rw [hem]; simp at hc4; simp [leO]; omega
           have hkn := Z6B hkv hd
           refine Z6 [0, 1, 2, 3, 4, 5] rfl ?_
           refine spL rfl rfl (lh Z7b rfl rfl) rfl ?_
           refine sp rfl (PE.fieldAddr Z0v rfl) rfl ?_
           refine spL rfl rfl (lhA [_, _, _] ZG rfl rfl rfl) rfl ?_
           refine sp rfl (PE.fieldAddr Z0y rfl) rfl ?_
           refine spL rfl rfl (lh sc3 rfl rfl) rfl ?_
           refine mpu kv [x.1.stock, x.1.short, x.1.dry] rfl Z1x (KeyT.of Z1g Z1p) rfl rfl rfl rfl hkl ?_
           refine Z6 [0, 1] rfl ?_
           refine sp rfl (PE.add rfl rfl (by omega)) rfl ?_
           refine sp rfl (PE.move rfl) rfl ?_
           first
             | exact Zc ⟨(k + 1, _), by omega, ⟨fun e he => (KV.put_mem he).elim (fun h => by rw [h]; rfl) (hkl e), by dsimp only; rw [Z03 hx]; exact hkn⟩, ZO hx hfo hfx⟩ (by dsimp only; omega) (by repeat' first | exact Sub.nil | apply Sub.cons | rfl | (simp [lk]; omega)) (fun w h => h.del b11)
             | exact Zc ⟨(k + 1, kv), by omega, ⟨hkl, by dsimp only; rw [Z03 hx]; exact hkn⟩, ZO hx hfo hfx⟩ (by dsimp only; omega) (by repeat' first | exact Sub.nil | apply Sub.cons | rfl | (simp [lk]; omega)) (fun w h => h.del b11)
          ·
           have hd : Zd (l.take k) x.1 x.2 = true := by rw [hem]; simp at hc4; simp [leO]; omega
           have hkn := Z6b hkv hd
           refine Z2 ?_
           refine Z6 [0, 1] rfl ?_
           refine sp rfl (PE.add rfl rfl (by omega)) rfl ?_
           refine sp rfl (PE.move rfl) rfl ?_
           first
             | exact Zc ⟨(k + 1, _), by omega, ⟨fun e he => (KV.put_mem he).elim (fun h => by rw [h]; rfl) (hkl e), by dsimp only; rw [Z03 hx]; exact hkn⟩, ZO hx hfo hfx⟩ (by dsimp only; omega) (by repeat' first | exact Sub.nil | apply Sub.cons | rfl | (simp [lk]; omega)) (fun w h => h.del b11)
             | exact Zc ⟨(k + 1, kv), by omega, ⟨hkl, by dsimp only; rw [Z03 hx]; exact hkn⟩, ZO hx hfo hfx⟩ (by dsimp only; omega) (by repeat' first | exact Sub.nil | apply Sub.cons | rfl | (simp [lk]; omega)) (fun w h => h.del b11)
   ·
    try simp only [decide_eq_true_eq, decide_eq_false_iff_not, Bool.and_eq_true, Bool.or_eq_true, Bool.not_eq_true', Int.not_le, Int.not_lt] at hc0
    obtain rfl : k = l.length := by omega
    rw [List.take_length] at hkv hfo
    refine Zm ?_
    refine Zt ?_
    refine Zt ?_
    refine ZU ?_
    refine Z0 ?_
    refine Z0 ?_
    refine Z6 [0, 1, 2, 3, 4, 5, 6, 7] rfl ?_
    refine spL rfl rfl (lh Z7b rfl rfl) rfl ?_
    refine spL rfl rfl (lhA [_, _, _] ZG rfl rfl rfl) rfl ?_
    refine spK rfl rfl rfl (Z0s kv [(s).stock, (s).short, (s).dry] Z1x (KeyT.of Z1g Z1p) (Z15 zv3) rfl hkl true) rfl ?_
    rw [hkv s, Z1v, Z1z]
    refine sp rfl (PE.move rfl) rfl ?_
    refine sp rfl (PE.extract rfl rfl) rfl ?_
    refine sp rfl (PE.extract rfl rfl) rfl ?_
    refine sp rfl (PE.assign rfl) rfl ?_
    refine sp rfl (PE.assign rfl) rfl ?_
    refine Z0 ?_
    refine Z6 [0] rfl ?_
    refine sp rfl (PE.move rfl) rfl ?_
    refine Z4 rfl (fun hc5 => ?_) (fun hc5 => ?_)
    ·
     obtain ⟨n, hn⟩ : ∃ n, Z1f l s = some n := Option.isSome_iff_exists.1 (by simpa using hc5)
     rw [hn]
     refine Z0 ?_
     refine Z6 [0, 1, 2] rfl ?_
     refine sp rfl (PE.move rfl) rfl ?_
     refine sp rfl (PE.assign rfl) rfl ?_
     refine sp rfl (PE.assign rfl) rfl ?_
     refine Z3 ?_
     first
       | exact Z5 (vs := [_, _]) rfl (.cons (RV.tmp rfl) (.cons (RV.tmp rfl) .nil)) (by rw [Z4V hfo, hn]; rfl) ⟨rfl, rfl, rfl⟩ drp
       | exact Z5 (vs := [_, _]) rfl (.cons (RV.tmp rfl) (.cons (RV.tmp rfl) .nil)) (by rw [Z7e hbf]; rfl) ⟨rfl, rfl, rfl⟩ drp
    ·
     have hn : Z1f l s = none := by simpa using hc5
     refine Z2 ?_
     refine Z0 ?_
     refine Z6 [0, 1] rfl ?_
     refine sp rfl (PE.assign rfl) rfl ?_
     refine sp rfl (PE.assign rfl) rfl ?_
     refine Z3 ?_
     first
       | exact Z5 (vs := [_, _]) rfl (.cons (RV.tmp rfl) (.cons (RV.tmp rfl) .nil)) (by rw [Z4V hfo, hn]; rfl) ⟨rfl, rfl, rfl⟩ drp
       | exact Z5 (vs := [_, _]) rfl (.cons (RV.tmp rfl) (.cons (RV.tmp rfl) .nil)) (by rw [Z7e hbf]; rfl) ⟨rfl, rfl, rfl⟩ drp
end Go.Proofs.Ythhdgeibokecjaa.Bd
