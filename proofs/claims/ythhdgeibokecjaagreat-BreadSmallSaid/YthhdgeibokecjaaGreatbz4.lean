/- Walks of the functions of the program, and the laws that join them: what the last theorem of this claim needs, in order. -/
import Derived.Test.YthhdgeibokecjaaGreatbz3
namespace Go.Proofs.YthhdgeibokecjaaGreat.Bd
set_option linter.unusedSimpArgs false
set_option linter.unusedVariables false
open Go
theorem Zel : Z5Y Tryz.prog 142 = some 2 := by kernel_rfl
theorem Z0w : Z5Y Tryz.prog 93 = some 3 := by kernel_rfl
theorem Z0c : Z5Y Tryz.prog 96 = some 11 := by kernel_rfl
theorem ZbR : apT Tryz.prog 111 = some (93, 3, 24) := by kernel_rfl
theorem Zah : cal Tryz.prog 45 = true := by kernel_rfl
theorem Zc6 : cal Tryz.prog 84 = true := by kernel_rfl
theorem Zez : Z1c Tryz.prog 142 = some 2 := by kernel_rfl
theorem Z4R : Z1c Tryz.prog 93 = some 3 := by kernel_rfl
theorem Z6O : elN Tryz.prog 94 = some 2 := by kernel_rfl
theorem Z1g : Z1n Tryz.prog 142 0 = some 0 := by kernel_rfl
theorem Z4g : Z1n Tryz.prog 142 1 = some 1 := by kernel_rfl
theorem Z3I : Z1n Tryz.prog 93 0 = some 0 := by kernel_rfl
theorem Z27 : Z1n Tryz.prog 93 1 = some 1 := by kernel_rfl
theorem Z2V : Z1n Tryz.prog 93 2 = some 2 := by kernel_rfl
theorem Z1G : Z1n Tryz.prog 96 0 = some 0 := by kernel_rfl
theorem Z3F : Z1n Tryz.prog 96 1 = some 3 := by kernel_rfl
theorem Z4X : Z1n Tryz.prog 96 2 = some 4 := by kernel_rfl
theorem Z6a : Z1n Tryz.prog 96 3 = some 5 := by kernel_rfl
theorem Z36 : Z1n Tryz.prog 96 4 = some 6 := by kernel_rfl
theorem Z8N : Z1n Tryz.prog 96 5 = some 7 := by kernel_rfl
theorem Z9Q : Z1n Tryz.prog 96 6 = some 8 := by kernel_rfl
theorem ZbB : Z1n Tryz.prog 96 7 = some 9 := by kernel_rfl
theorem Z0u : Z1n Tryz.prog 96 8 = some 10 := by kernel_rfl
theorem Z8k : Z6N Tryz.prog 94 = true := by kernel_rfl
theorem ZcN : Z1q Tryz.prog 93 = some [(0, 1), (1, 1), (2, 1)] := by kernel_rfl
theorem Z4q : Z47 Tryz.prog 94 = true := by kernel_rfl
theorem Zcj : slE Tryz.prog 111 = some (93, 3) := by kernel_rfl
theorem Zdh : Z0n Tryz.prog 142 = some ([.int .i64 0, .int .i64 0]) := by kernel_rfl
theorem Z6C : Z0n Tryz.prog 93 = some ([.int .i64 0, .int .i64 0, .int .i64 0]) := by kernel_rfl
theorem Z3c (t : Twn) (s : Sta) (sl : Value) (H : Zj) (R : Z9) :
    FnV Tryz.prog 45 [t.v sl, s.v] H R (.bool (s.right t)) := by
 refine Zq Tryz.func45 rfl Tryz.ntmps45 rfl ?_
 refine sqt 3 rfl (bx rfl rfl rfl (fun b2 => bx rfl rfl rfl (fun b3 => pur 1 rfl (sqt 23 rfl (sp rfl (PE.fA Z3I rfl) rfl (spL rfl rfl (lh sc3 rfl rfl) rfl (sp rfl (PE.fA Z3F rfl) rfl (spL rfl rfl (lh sc3 rfl rfl) rfl ?_))))))))
 refine clV rfl Z1R rfl rfl (Z1S _ _ _ _ _) ?_
 refine pur 2 rfl ?_
 refine ZE 11 rfl ?_ ?_ <;> intro g11
 refine spG rfl rfl rfl rfl (PE.fA Z27 rfl) rfl ?_
 refine Z03 rfl rfl rfl rfl rfl (lh sc3 rfl rfl) rfl ?_
 refine spG rfl rfl rfl rfl (PE.fA Z6a rfl) rfl ?_
 refine Z03 rfl rfl rfl rfl rfl (lh sc3 rfl rfl) rfl ?_
 refine Z0k rfl rfl rfl rfl Z1R rfl rfl (Z1S _ _ _ _ _) ?_
 refine pur 3 rfl ?_
 refine ZE 19 rfl ?_ ?_ <;> intro g19
 refine spG rfl rfl rfl rfl (PE.fA Z2V rfl) rfl ?_
 refine Z03 rfl rfl rfl rfl rfl (lh sc3 rfl rfl) rfl ?_
 refine spG rfl rfl rfl rfl (PE.fA Z36 rfl) rfl ?_
 refine Z03 rfl rfl rfl rfl rfl (lh sc3 rfl rfl) rfl ?_
 refine Z0k rfl rfl rfl rfl Z1R rfl rfl (Z1S _ _ _ _ _) ?_
 refine pur 3 rfl (Z4 ?_)
 exact rtA rfl rfl rfl ⟨by simp_all only [ZL, Sta.right, Bool.not_not, Bool.not_eq_true', Bool.not_eq_false', Bool.true_and, Bool.false_and, cond_true, cond_false], rfl, rfl⟩ drp
 refine pur 8 rfl (Z4 ?_)
 exact rtA rfl rfl rfl ⟨by simp_all only [ZL, Sta.right, Bool.not_not, Bool.not_eq_true', Bool.not_eq_false', Bool.true_and, Bool.false_and, cond_true, cond_false], rfl, rfl⟩ drp
 refine pur 16 rfl (Z4 ?_)
 exact rtA rfl rfl rfl ⟨by simp_all only [ZL, Sta.right, Bool.not_not, Bool.not_eq_true', Bool.not_eq_false', Bool.true_and, Bool.false_and, cond_true, cond_false], rfl, rfl⟩ drp
theorem Z1X (t : Twn) (a : Option Addr) (c : Nat) (hl : t.rats.length ≤ 9223372036854775807) (H : Zj) (R : Z9) [hR : MemRows a 2 (Zf t.rats) R] :
    FnV Tryz.prog 44 [t.v (t.sl a c)] H R (.int .i64 t.check) := by
 refine Zq Tryz.func44 rfl Tryz.ntmps44 rfl ?_
 refine sqt 2 rfl (bx rfl rfl rfl (fun b1 => pur 1 rfl (Z0 (sqt 4 rfl (sp rfl (PE.fA Z0u rfl) rfl (spL rfl rfl (lh Z4q rfl rfl) rfl (sp rfl (PE.lenSl Z8k rfl) rfl ?_)))))))
 refine clV rfl Z1R rfl rfl (Z1S _ _ _ _ _) ?_
 refine Z5 rfl ?_ ?_ <;> intro hc0
 refine sqt 1 rfl (pur 1 rfl (Z4 ?_))
 exact rtA rfl rfl rfl ⟨congrArg (Value.int .i64) (by first | exact hres.symm | (rw [hck1, hbad]; rfl) | simp_all only [Twn.check, inb, List.all_cons, List.all_nil, Bool.and_true, cond_true, cond_false, Bool.not_true, Bool.not_false, Bool.not_eq_true', Bool.not_eq_false', Bool.and_self, Bool.false_and, Bool.and_false, Bool.true_and]), rfl, rfl⟩ drp
 refine Z3 (Z0 (sqt 40 rfl (sp rfl (PE.fA Z3F rfl) rfl (spL rfl rfl (lh sc3 rfl rfl) rfl ?_))))
 refine clV rfl Z1R rfl rfl (Z1S _ _ _ _ _) ?_
 refine pur 1 rfl ?_
 refine ZE 12 rfl ?_ ?_ <;> intro g12
 refine pur 36 rfl ?_
 refine Zm rfl ?_
 refine sqt 1 rfl (pur 1 rfl (Z4 ?_))
 exact rtA rfl rfl rfl ⟨congrArg (Value.int .i64) (by first | exact hres.symm | (rw [hck1, hbad]; rfl) | simp_all only [Twn.check, inb, List.all_cons, List.all_nil, Bool.and_true, cond_true, cond_false, Bool.not_true, Bool.not_false, Bool.not_eq_true', Bool.not_eq_false', Bool.and_self, Bool.false_and, Bool.and_false, Bool.true_and]), rfl, rfl⟩ drp
 refine spG rfl rfl rfl rfl (PE.fA Z4X rfl) rfl ?_
 refine Z03 rfl rfl rfl rfl rfl (lh sc3 rfl rfl) rfl ?_
 refine Z0k rfl rfl rfl rfl Z1R rfl rfl (Z1S _ _ _ _ _) ?_
 refine pur 2 rfl ?_
 refine ZE 17 rfl ?_ ?_ <;> intro g17
 refine pur 31 rfl ?_
 refine Zm rfl ?_
 refine sqt 1 rfl (pur 1 rfl (Z4 ?_))
 exact rtA rfl rfl rfl ⟨congrArg (Value.int .i64) (by first | exact hres.symm | (rw [hck1, hbad]; rfl) | simp_all only [Twn.check, inb, List.all_cons, List.all_nil, Bool.and_true, cond_true, cond_false, Bool.not_true, Bool.not_false, Bool.not_eq_true', Bool.not_eq_false', Bool.and_self, Bool.false_and, Bool.and_false, Bool.true_and]), rfl, rfl⟩ drp
 refine spG rfl rfl rfl rfl (PE.fA Z8N rfl) rfl ?_
 refine Z03 rfl rfl rfl rfl rfl (lh sc3 rfl rfl) rfl ?_
 refine Z0k rfl rfl rfl rfl Z1R rfl rfl (Z1S _ _ _ _ _) ?_
 refine pur 2 rfl ?_
 refine ZE 22 rfl ?_ ?_ <;> intro g22
 refine pur 26 rfl ?_
 refine Zm rfl ?_
 refine sqt 1 rfl (pur 1 rfl (Z4 ?_))
 exact rtA rfl rfl rfl ⟨congrArg (Value.int .i64) (by first | exact hres.symm | (rw [hck1, hbad]; rfl) | simp_all only [Twn.check, inb, List.all_cons, List.all_nil, Bool.and_true, cond_true, cond_false, Bool.not_true, Bool.not_false, Bool.not_eq_true', Bool.not_eq_false', Bool.and_self, Bool.false_and, Bool.and_false, Bool.true_and]), rfl, rfl⟩ drp
 refine spG rfl rfl rfl rfl (PE.fA Z9Q rfl) rfl ?_
 refine Z03 rfl rfl rfl rfl rfl (lh sc3 rfl rfl) rfl ?_
 refine Z0k rfl rfl rfl rfl Z1R rfl rfl (Z1S _ _ _ _ _) ?_
 refine pur 2 rfl ?_
 refine ZE 27 rfl ?_ ?_ <;> intro g27
 refine pur 21 rfl ?_
 refine Zm rfl ?_
 refine sqt 1 rfl (pur 1 rfl (Z4 ?_))
 exact rtA rfl rfl rfl ⟨congrArg (Value.int .i64) (by first | exact hres.symm | (rw [hck1, hbad]; rfl) | simp_all only [Twn.check, inb, List.all_cons, List.all_nil, Bool.and_true, cond_true, cond_false, Bool.not_true, Bool.not_false, Bool.not_eq_true', Bool.not_eq_false', Bool.and_self, Bool.false_and, Bool.and_false, Bool.true_and]), rfl, rfl⟩ drp
 refine spG rfl rfl rfl rfl (PE.fA Z6a rfl) rfl ?_
 refine Z03 rfl rfl rfl rfl rfl (lh sc3 rfl rfl) rfl ?_
 refine Z0k rfl rfl rfl rfl Z1R rfl rfl (Z1S _ _ _ _ _) ?_
 refine pur 2 rfl ?_
 refine ZE 32 rfl ?_ ?_ <;> intro g32
 refine pur 16 rfl ?_
 refine Zm rfl ?_
 refine sqt 1 rfl (pur 1 rfl (Z4 ?_))
 exact rtA rfl rfl rfl ⟨congrArg (Value.int .i64) (by first | exact hres.symm | (rw [hck1, hbad]; rfl) | simp_all only [Twn.check, inb, List.all_cons, List.all_nil, Bool.and_true, cond_true, cond_false, Bool.not_true, Bool.not_false, Bool.not_eq_true', Bool.not_eq_false', Bool.and_self, Bool.false_and, Bool.and_false, Bool.true_and]), rfl, rfl⟩ drp
 refine spG rfl rfl rfl rfl (PE.fA Z36 rfl) rfl ?_
 refine Z03 rfl rfl rfl rfl rfl (lh sc3 rfl rfl) rfl ?_
 refine Z0k rfl rfl rfl rfl Z1R rfl rfl (Z1S _ _ _ _ _) ?_
 refine pur 2 rfl ?_
 refine ZE 37 rfl ?_ ?_ <;> intro g37
 refine pur 11 rfl ?_
 refine Zm rfl ?_
 refine sqt 1 rfl (pur 1 rfl (Z4 ?_))
 exact rtA rfl rfl rfl ⟨congrArg (Value.int .i64) (by first | exact hres.symm | (rw [hck1, hbad]; rfl) | simp_all only [Twn.check, inb, List.all_cons, List.all_nil, Bool.and_true, cond_true, cond_false, Bool.not_true, Bool.not_false, Bool.not_eq_true', Bool.not_eq_false', Bool.and_self, Bool.false_and, Bool.and_false, Bool.true_and]), rfl, rfl⟩ drp
 refine spG rfl rfl rfl rfl (PE.fA ZbB rfl) rfl ?_
 refine Z03 rfl rfl rfl rfl rfl (lh sc3 rfl rfl) rfl ?_
 refine Z0k rfl rfl rfl rfl Z1R rfl rfl (Z1S _ _ _ _ _) ?_
 refine pur 2 rfl ?_
 refine ZE 42 rfl ?_ ?_ <;> intro g42
 refine pur 6 rfl ?_
 refine Zm rfl ?_
 refine sqt 1 rfl (pur 1 rfl (Z4 ?_))
 exact rtA rfl rfl rfl ⟨congrArg (Value.int .i64) (by first | exact hres.symm | (rw [hck1, hbad]; rfl) | simp_all only [Twn.check, inb, List.all_cons, List.all_nil, Bool.and_true, cond_true, cond_false, Bool.not_true, Bool.not_false, Bool.not_eq_true', Bool.not_eq_false', Bool.and_self, Bool.false_and, Bool.and_false, Bool.true_and]), rfl, rfl⟩ drp
 refine Z03 rfl rfl rfl rfl rfl (lhA [_, _, _, _, _, _, _, _, _, _, _] Z0c rfl rfl rfl) rfl ?_
 refine spG rfl rfl rfl rfl (PE.fA Z1G rfl) rfl ?_
 refine Z03 rfl rfl rfl rfl rfl (lhA [_, _, _] Z0w rfl rfl rfl) rfl ?_
 refine Z0k rfl rfl rfl rfl Zah rfl rfl (Z3c t t.now _ _ _) ?_
 refine pur 2 rfl ?_
 refine Z5 rfl ?_ ?_ <;> intro hc1
 refine sqt 1 rfl (pur 1 rfl (Z4 ?_))
 exact rtA rfl rfl rfl ⟨congrArg (Value.int .i64) (by first | exact hres.symm | (rw [hck1, hbad]; rfl) | simp_all only [Twn.check, inb, List.all_cons, List.all_nil, Bool.and_true, cond_true, cond_false, Bool.not_true, Bool.not_false, Bool.not_eq_true', Bool.not_eq_false', Bool.and_self, Bool.false_and, Bool.and_false, Bool.true_and]), rfl, rfl⟩ drp
 refine Z3 (Z0 (sqt 1 rfl (pur 1 rfl (Z7 ?_))))
 have hlen : 1 ≤ t.rats.length := by
   simp only [inb, decide_eq_true_eq, decide_eq_false_iff_not, Bool.and_eq_true, Bool.or_eq_true, Bool.not_eq_true', Int.not_le, Int.not_lt, Bool.not_eq_false'] at hc0
   omega
 have hck1 : t.check = bif !(t.rats.all fun q => inb q.sacks 0 30 && inb q.price 0 100) then 3 else bif decide (t.good < t.bad) then 4 else bif (List.range t.rats.length).any (Z1w t.rats) then 4 else 0 := by simp_all only [Twn.check, inb, List.all_cons, List.all_nil, Bool.and_true, cond_true, cond_false, Bool.not_true, Bool.not_false, Bool.not_eq_true', Bool.not_eq_false', Bool.and_self, Bool.false_and, Bool.and_false, Bool.true_and]
 refine Zn (ι := {k : Nat // k ≤ t.rats.length ∧ ∀ i q, i < k → t.rats[i]? = some q → (inb q.sacks 0 30 && inb q.price 0 100) = true}) (fun k => ⟨[(1, .pointer (some ⟨b1, 0, none⟩)), (3, .int .i64 k.1)], (b1, cel 96 (twl t (t.sl a c))) :: H, R⟩) (fun k => t.rats.length - k.1) ⟨0, by omega, by omega⟩ ?_ (fun k => ?_)
 exact Z06 (fun w h => by repeat first | exact h | replace h := St.ftail h)
 obtain ⟨k, hk2, hn⟩ := k
 dsimp only
 refine Z0 (sqt 5 rfl (pur 1 rfl (sp rfl (PE.fA Z0u rfl) rfl (spL rfl rfl (lh Z4q rfl rfl) rfl (sp rfl (PE.lenSl Z8k rfl) rfl (pur 1 rfl ?_))))))
 refine Z5 rfl ?_ ?_ <;> intro hc2 <;> try simp only [cS] at hc2
 obtain ⟨x, hx⟩ : ∃ x, t.rats[k]? = some x := ⟨_, List.getElem?_eq_getElem (by omega)⟩
 refine Zw (a := a) (sz := 2) (rows := Zf t.rats) (by intro h0; simp [Zf] at h0; simp [h0] at hx) (fun b off he => ?_)
 subst he
 refine Z3 (Z0 (Z7 (sqt 16 rfl (sp rfl (PE.fA Z0u rfl) rfl (spL rfl rfl (lh Z4q rfl rfl) rfl (pur 1 rfl (sp rfl (PE.indexAddr Z6O rfl rfl (by omega) (by omega)) rfl (sp rfl (PE.fA Z1g rfl) rfl (spL rfl rfl (lf0 (x := .int .i64 x.sacks) sc3 (Z01 hx) rfl) rfl ?_)))))))))
 refine clV rfl Z1R rfl rfl (Z1S _ _ _ _ _) ?_
 refine pur 1 rfl ?_
 refine ZE 63 rfl ?_ ?_ <;> intro g63
 have hbad : (t.rats.all fun q => inb q.sacks 0 30 && inb q.price 0 100) = false := by
   rw [List.all_eq_false]; refine ⟨x, List.mem_of_getElem? hx, ?_⟩; rw [Bool.not_eq_true'] at g63; rw [show inb x.sacks 0 30 = false from g63]; simp
 refine pur 8 rfl ?_
 refine Zm rfl ?_
 refine sqt 1 rfl (pur 1 rfl (Z4 ?_))
 exact rtA rfl rfl rfl ⟨congrArg (Value.int .i64) (by first | exact hres.symm | (rw [hck1, hbad]; rfl) | simp_all only [Twn.check, inb, List.all_cons, List.all_nil, Bool.and_true, cond_true, cond_false, Bool.not_true, Bool.not_false, Bool.not_eq_true', Bool.not_eq_false', Bool.and_self, Bool.false_and, Bool.and_false, Bool.true_and]), rfl, rfl⟩ drp
 replace g63 : inb x.sacks 0 30 = true := by rw [← Bool.not_eq_false']; exact g63
 refine spG rfl rfl rfl rfl (PE.fA Z0u rfl) rfl ?_
 refine Z03 rfl rfl rfl rfl rfl (lh Z4q rfl rfl) rfl (pur 1 rfl ?_)
 refine spG rfl rfl rfl rfl (PE.indexAddr Z6O rfl rfl (by omega) (by omega)) rfl ?_
 refine spG rfl rfl rfl rfl (PE.fA Z4g rfl) rfl ?_
 refine Z03 rfl rfl rfl rfl rfl (lf (x := .int .i64 x.price) sc3 (Z01 hx) rfl) rfl ?_
 refine Z0k rfl rfl rfl rfl Z1R rfl rfl (Z1S _ _ _ _ _) ?_
 refine pur 1 rfl ?_
 refine Z5 rfl ?_ ?_ <;> intro hc3
 have hbad : (t.rats.all fun q => inb q.sacks 0 30 && inb q.price 0 100) = false := by
   rw [List.all_eq_false]; refine ⟨x, List.mem_of_getElem? hx, ?_⟩; rw [Bool.not_eq_true'] at hc3; rw [show inb x.price 0 100 = false from hc3]; simp
 refine sqt 1 rfl (pur 1 rfl (Z4 ?_))
 exact rtA rfl rfl rfl ⟨congrArg (Value.int .i64) (by first | exact hres.symm | (rw [hck1, hbad]; rfl) | simp_all only [Twn.check, inb, List.all_cons, List.all_nil, Bool.and_true, cond_true, cond_false, Bool.not_true, Bool.not_false, Bool.not_eq_true', Bool.not_eq_false', Bool.and_self, Bool.false_and, Bool.and_false, Bool.true_and]), rfl, rfl⟩ drp
 replace hc3 : inb x.price 0 100 = true := by rw [← Bool.not_eq_false']; exact hc3
 refine Z3 (sqr 3 rfl (pur 1 rfl (sp rfl (PE.add rfl rfl (by omega)) rfl (pur 1 rfl ?_))))
 exact Zb ⟨k + 1, by omega, fun i q' hi hq' => by
   rcases Nat.lt_or_ge i k with h1 | h1
   · exact hn i q' h1 hq'
   · obtain rfl : i = k := by omega
     rw [hx] at hq'; cases hq'; rw [g63, hc3]; rfl⟩ (by dsimp only; omega) (by repeat' first | exact Sub.nil | apply Sub.cons | rfl | (simp [lk]; omega)) idH
 obtain rfl : k = t.rats.length := by omega
 refine Zk (Zl (Zl (ZH (Z0 (sqt 5 rfl (sp rfl (PE.fA Z9Q rfl) rfl (spL rfl rfl (lh sc3 rfl rfl) rfl (sp rfl (PE.fA Z8N rfl) rfl (spL rfl rfl (lh sc3 rfl rfl) rfl (pur 1 rfl ?_))))))))))
 refine Z5 rfl ?_ ?_ <;> intro hc4 <;> try simp only [cS] at hc4
 have hres : t.check = 4 := by rw [hck1, dT hc4]; rw [show (t.rats.all fun q => inb q.sacks 0 30 && inb q.price 0 100) = true from List.all_eq_true.2 fun q hq => by
     obtain ⟨i, hi⟩ := List.getElem?_of_mem hq
     exact hn i q (List.getElem?_eq_some_iff.1 hi).1 hi]; rfl
 refine sqt 1 rfl (pur 1 rfl (Z4 ?_))
 exact rtA rfl rfl rfl ⟨congrArg (Value.int .i64) (by first | exact hres.symm | (rw [hck1, hbad]; rfl) | simp_all only [Twn.check, inb, List.all_cons, List.all_nil, Bool.and_true, cond_true, cond_false, Bool.not_true, Bool.not_false, Bool.not_eq_true', Bool.not_eq_false', Bool.and_self, Bool.false_and, Bool.and_false, Bool.true_and]), rfl, rfl⟩ drp
 refine Z3 (Z0 (sqt 1 rfl (pur 1 rfl (Z7 ?_))))
 have hall : (t.rats.all fun q => inb q.sacks 0 30 && inb q.price 0 100) = true := List.all_eq_true.2 fun q hq => by
   obtain ⟨i, hi⟩ := List.getElem?_of_mem hq
   exact hn i q (List.getElem?_eq_some_iff.1 hi).1 hi
 have hck : t.check = bif (List.range t.rats.length).any (Z1w t.rats) then 4 else 0 := by rw [hck1, hall, dF (by omega)]; rfl
 refine Zn (ι := {k : Nat // 1 ≤ k ∧ k ≤ t.rats.length ∧ ∀ i, i < k - 1 → Z1w t.rats i = false}) (fun k => ⟨[(1, .pointer (some ⟨b1, 0, none⟩)), (4, .int .i64 k.1)], (b1, cel 96 (twl t (t.sl a c))) :: H, R⟩) (fun k => t.rats.length - k.1) ⟨1, by simp; omega⟩ ?_ (fun k => ?_)
 exact Z06 idH
 obtain ⟨k, hk1, hk2, hn⟩ := k
 dsimp only
 refine Z0 (sqt 5 rfl (pur 1 rfl (sp rfl (PE.fA Z0u rfl) rfl (spL rfl rfl (lh Z4q rfl rfl) rfl (sp rfl (PE.lenSl Z8k rfl) rfl (pur 1 rfl ?_))))))
 refine Z5 rfl ?_ ?_ <;> intro hc5 <;> try simp only [cS] at hc5
 obtain ⟨x, hx⟩ : ∃ x, t.rats[k - 1]? = some x := ⟨_, List.getElem?_eq_getElem (by omega)⟩
 obtain ⟨y, hy⟩ : ∃ y, t.rats[k]? = some y := ⟨_, List.getElem?_eq_getElem (by omega)⟩
 have e1 : ((k : Int) - 1).toNat = k - 1 := by omega
 have hba : Z1w t.rats (k - 1) = (decide (x.sacks ≤ y.sacks) || decide (y.price ≤ x.price)) := by unfold Z1w; rw [hx, show k - 1 + 1 = k from by omega, hy]
 refine Zw (a := a) (sz := 2) (rows := Zf t.rats) (by intro h0; simp [Zf] at h0; simp [h0] at hx) (fun b off he => ?_)
 subst he
 refine Z3 (Z0 (Z7 (Z0 ?_)))
 refine Ze [0, 1, 0, 7, 15, 31, 0, 64, 0, 256, 960, 1984, 4032, 8191, 16383, 32767, 65535, 32767, 262143, 524287, 1048575, 32767, 2129919, 32767, 8421375, 31490047, 65044479, 132153343, 268435455, 536870911] (.tk 0 (.ld 1 (tks 2 3 (.ld 5 (.tk 6 (.ld 7 (tks 8 4 (.ld 12 (tks 13 3 (.ld 16 (tks 17 3 (.ld 20 (.tk 21 (.ld 22 (tks 23 4 (.ld 27 (.tk 28 (.tk 29 .done)))))))))))))))))) Zy (by kernel_rfl) ?_
 refine tk rfl (PE.fA Z0u rfl) rfl (ld rfl rfl (lh Z4q rfl rfl) rfl (ZD 1 rfl (tk rfl (PE.indexAddr Z6O rfl rfl (by omega) (by omega)) rfl (tk rfl (PE.fA Z1g rfl) rfl (ld rfl rfl (lf0 (x := .int .i64 y.sacks) sc3 (Z01 hy) rfl) rfl (tk rfl (PE.fA Z0u rfl) rfl (ld rfl rfl (lh Z4q rfl rfl) rfl (ZD 1 rfl (tk rfl (PE.sub rfl rfl (by omega)) rfl (tk rfl (PE.indexAddr Z6O rfl rfl (by omega) (by omega)) rfl (tk rfl (PE.fA Z1g rfl) rfl (ld rfl rfl (lf0 (x := .int .i64 x.sacks) sc3 (by rw [e1]; exact Z01 hx) rfl) rfl (ZD 2 rfl ?_)))))))))))))
 refine ZE 98 rfl ?_ ?_ <;> intro g98
 have hbad : Z1w t.rats (k - 1) = true := by rw [hba, g98]; rfl
 have hres : t.check = 4 := by rw [hck, Z0D (by omega) hbad]; rfl
 refine ZD 1 rfl ?_
 refine ldN rfl rfl rfl rfl rfl rfl rfl rfl ?_
 refine ZD 3 rfl ?_
 refine ldN rfl rfl rfl rfl rfl rfl rfl rfl ?_
 refine ZD 1 rfl ?_
 refine ldN rfl rfl rfl rfl rfl rfl rfl rfl ?_
 refine ZD 4 rfl ?_
 refine ldN rfl rfl rfl rfl rfl rfl rfl rfl ?_
 refine ZD 2 rfl ?_
 refine Zm rfl ?_
 refine sqt 1 rfl (pur 1 rfl (Z4 ?_))
 exact rtA rfl rfl rfl ⟨congrArg (Value.int .i64) (by first | exact hres.symm | (rw [hck1, hbad]; rfl) | simp_all only [Twn.check, inb, List.all_cons, List.all_nil, Bool.and_true, cond_true, cond_false, Bool.not_true, Bool.not_false, Bool.not_eq_true', Bool.not_eq_false', Bool.and_self, Bool.false_and, Bool.and_false, Bool.true_and]), rfl, rfl⟩ drp
 refine tkG rfl rfl rfl rfl (PE.fA Z0u rfl) rfl ?_
 refine ldG rfl rfl rfl rfl rfl (lh Z4q rfl rfl) rfl (ZD 1 rfl ?_)
 refine tkG rfl rfl rfl rfl (PE.indexAddr Z6O rfl rfl (by omega) (by omega)) rfl ?_
 refine tkG rfl rfl rfl rfl (PE.fA Z4g rfl) rfl ?_
 refine ldG rfl rfl rfl rfl rfl (lf (x := .int .i64 y.price) sc3 (Z01 hy) rfl) rfl ?_
 refine tkG rfl rfl rfl rfl (PE.fA Z0u rfl) rfl ?_
 refine ldG rfl rfl rfl rfl rfl (lh Z4q rfl rfl) rfl (ZD 1 rfl ?_)
 refine tkG rfl rfl rfl rfl (PE.sub rfl rfl (by omega)) rfl ?_
 refine tkG rfl rfl rfl rfl (PE.indexAddr Z6O rfl rfl (by omega) (by omega)) rfl ?_
 refine tkG rfl rfl rfl rfl (PE.fA Z4g rfl) rfl ?_
 refine ldG rfl rfl rfl rfl rfl (lf (x := .int .i64 x.price) sc3 (by rw [e1]; exact Z01 hx) rfl) rfl (ZD 2 rfl ?_)
 refine Z5 rfl ?_ ?_ <;> intro hc6
 have hbad : Z1w t.rats (k - 1) = true := by rw [hba, g98]; exact hc6
 have hres : t.check = 4 := by rw [hck, Z0D (by omega) hbad]; rfl
 refine sqt 1 rfl (pur 1 rfl (Z4 ?_))
 exact rtA rfl rfl rfl ⟨congrArg (Value.int .i64) (by first | exact hres.symm | (rw [hck1, hbad]; rfl) | simp_all only [Twn.check, inb, List.all_cons, List.all_nil, Bool.and_true, cond_true, cond_false, Bool.not_true, Bool.not_false, Bool.not_eq_true', Bool.not_eq_false', Bool.and_self, Bool.false_and, Bool.and_false, Bool.true_and]), rfl, rfl⟩ drp
 refine Z3 (sqr 3 rfl (pur 1 rfl (sp rfl (PE.add rfl rfl (by omega)) rfl (pur 1 rfl ?_))))
 exact Zb ⟨k + 1, by omega, by omega, fun i hi => by
   rcases Nat.lt_or_ge i (k - 1) with h1 | h1
   · exact hn i h1
   · obtain rfl : i = k - 1 := by omega
     rw [hba, g98]; exact hc6⟩ (by dsimp only; omega) (by repeat' first | exact Sub.nil | apply Sub.cons | rfl | (simp [lk]; omega)) idH
 obtain rfl : k = t.rats.length := by omega
 have hres : t.check = 0 := by rw [hck, Z29 hn]; rfl
 refine Zk (Zl (Zl (ZH (sqt 1 rfl (pur 1 rfl (Z4 ?_))))))
 exact rtA rfl rfl rfl ⟨congrArg (Value.int .i64) (by first | exact hres.symm | (rw [hck1, hbad]; rfl) | simp_all only [Twn.check, inb, List.all_cons, List.all_nil, Bool.and_true, cond_true, cond_false, Bool.not_true, Bool.not_false, Bool.not_eq_true', Bool.not_eq_false', Bool.and_self, Bool.false_and, Bool.and_false, Bool.true_and]), rfl, rfl⟩ drp
theorem Z9R (t : Twn) (s : Sta) (r : Int) (q : Rn) (b off c : Nat) (h0 : 0 ≤ r) (hq : t.rats[r.toNat]? = some q) (H : Zj) (R : Z9) [hR : MemRows (some ⟨b, off, none⟩) 2 (Zf t.rats) R] :
    FnV Tryz.prog 84 [t.v (t.sl (some ⟨b, off, none⟩) c), s.v, .int .i64 r] H R (.bool (t.can s q)) := by
 have hr := ZbM h0 hq
 refine Zq Tryz.func84 rfl Tryz.ntmps84 rfl ?_
 refine sqt 3 rfl (bx rfl rfl rfl (fun b3 => bx rfl rfl rfl (fun b4 => pur 1 rfl (sqt 7 rfl (sp rfl (PE.fA Z0u rfl) rfl (spL rfl rfl (lh Z4q rfl rfl) rfl (pur 1 rfl (sp rfl (PE.indexAddr Z6O rfl rfl (by omega) (by omega)) rfl (spL rfl rfl (lfA (row := Z2z q) Zel (Z01 hq) rfl) rfl (alc rfl Zdh rfl (fun b7 => ?_)))))))))))
 refine sto rfl rfl rfl Zez rfl rfl rfl rfl ?_
 refine Z0 (sqt 5 rfl (sp rfl (PE.fA Z1g rfl) rfl (spL rfl rfl (lh sc3 rfl rfl) rfl (sp rfl (PE.fA Z3I rfl) rfl (spL rfl rfl (lh sc3 rfl rfl) rfl (pur 1 rfl ?_))))))
 refine Z5 rfl ?_ ?_ <;> intro hc0 <;> try simp only [cS] at hc0
 refine sqt 1 rfl (pur 1 rfl (Z4 ?_))
 exact rtA rfl rfl rfl ⟨by simp_all [ZL, Twn.can] <;> omega, rfl, rfl⟩ drp
 refine Z3 (sqt 13 rfl (sp rfl (PE.fA Z1g rfl) rfl (spL rfl rfl (lh sc3 rfl rfl) rfl (sp rfl (PE.fA Z4X rfl) rfl (spL rfl rfl (lh sc3 rfl rfl) rfl (pur 2 rfl ?_))))))
 refine ZE 23 rfl ?_ ?_ <;> intro g23
 try simp only [cS] at g23
 refine pur 7 rfl (Z4 ?_)
 exact rtA rfl rfl rfl ⟨by simp_all [ZL, Twn.can] <;> omega, rfl, rfl⟩ drp
 try simp only [cS] at g23
 refine spG rfl rfl rfl rfl (PE.fA Z27 rfl) rfl ?_
 refine Z03 rfl rfl rfl rfl rfl (lh sc3 rfl rfl) rfl ?_
 refine spG rfl rfl rfl rfl (PE.fA Z6a rfl) rfl ?_
 refine Z03 rfl rfl rfl rfl rfl (lh sc3 rfl rfl) rfl (pur 3 rfl (Z4 ?_))
 exact rtA rfl rfl rfl ⟨by simp_all [ZL, Twn.can] <;> omega, rfl, rfl⟩ drp
theorem Z2s (t : Twn) (ht : t.ok) (s : Sta) (ba oa ca : Nat) (H : Zj) (R : Z9) [hR : MemRows (some ⟨ba, oa, none⟩) 2 (Zf t.rats) R] :
    Fn Tryz.prog 46 [t.v (t.sl (some ⟨ba, oa, none⟩) ca), s.v] H R (fun v H' R' => ∃ o : OSl 3 1 (Zh (Z4P t s)), v = o.fs ∧ H' = o.G ++ H ∧ R' = R) := by
 have hlen := ht.many
 refine Zq Tryz.func46 rfl Tryz.ntmps46 rfl ?_
 refine sqt 3 rfl (bx rfl rfl rfl (fun b2 => bx rfl rfl rfl (fun b3 => pur 1 rfl (sqt 1 rfl (pur 1 rfl (Z0 (sqt 1 rfl (pur 1 rfl (Z7 ?_)))))))))
 refine Zn (ι := (k : {k : Nat // k ≤ t.rats.length}) × OSl 3 1 (Zh (Z10 (t.can s) t.rats k.1))) (fun x => ⟨[(2, .pointer (some ⟨b2, 0, none⟩)), (3, .pointer (some ⟨b3, 0, none⟩)), (5, x.2.fs), (6, .int .i64 x.1.1)], x.2.G ++ (b3, cel 93 [.int .i64 s.stock, .int .i64 s.short, .int .i64 s.dry]) :: (b2, cel 96 (twl t (t.sl (some ⟨ba, oa, none⟩) ca))) :: H, R⟩) (fun x => t.rats.length - x.1.1) ⟨⟨0, by omega⟩, OSl.nil _ _⟩ ?_ (fun x => ?_)
 exact Z06 idH
 obtain ⟨⟨k, hk⟩, o'⟩ := x
 dsimp only at o' ⊢
 refine Z0 (sqt 5 rfl (pur 1 rfl (sp rfl (PE.fA Z0u rfl) rfl (spL rfl rfl (lh Z4q rfl rfl) rfl (sp rfl (PE.lenSl Z8k rfl) rfl (pur 1 rfl ?_))))))
 refine Z5 rfl ?_ ?_ <;> intro hc0 <;> try simp only [cS] at hc0
 obtain ⟨q, hq⟩ : ∃ q, t.rats[k]? = some q := ⟨_, List.getElem?_eq_getElem (by omega)⟩
 refine Z3 (Z0 (Z7 (sqt 4 rfl (spL rfl rfl (lhA [_, _, _, _, _, _, _, _, _, _, _] Z0c rfl rfl rfl) rfl (spL rfl rfl (lhA [_, _, _] Z0w rfl rfl rfl) rfl (pur 1 rfl ?_))))))
 refine clV rfl Zc6 rfl rfl (Z9R t s k q ba oa ca (by omega) (by simpa using hq) _ _) ?_
 refine Z5 rfl ?_ ?_ <;> intro hc1
 have e := Z0F (p := t.can s) hq
 rw [hc1, cond_true] at e
 refine sqr 5 rfl (pur 2 rfl ?_)
 refine bsl (out := [_]) rfl Z46 zl3 rfl rfl rfl rfl rfl rfl (fun b20 => ?_)
 refine apO (o') rfl Z2T rfl rfl (Z3e (row := [.int .i64 k]) rfl) rfl rfl ((by have := Z1M (t.can s) t.rats k; simp only [Zh, List.length_map, List.length_singleton]; omega)) rfl (fun o21 => ?_)
 refine pur 1 rfl (sqr 3 rfl (pur 1 rfl (sp rfl (PE.add rfl rfl (by omega)) rfl (pur 1 rfl ?_))))
 first
   | exact Z0v ⟨⟨k + 1, by omega⟩, o21.cast (by rw [e]; simp [Zh])⟩ (by dsimp only; omega) (fun w h => h.del b20)
   | exact Z0v ⟨⟨k + 1, by omega⟩, o'.cast (by rw [e])⟩ (by dsimp only; omega) idH
 have e := Z0F (p := t.can s) hq
 rw [hc1, cond_false] at e
 refine Z3 (sqr 3 rfl (pur 1 rfl (sp rfl (PE.add rfl rfl (by omega)) rfl (pur 1 rfl ?_))))
 first
   | exact Z0v ⟨⟨k + 1, by omega⟩, o21.cast (by rw [e]; simp [Zh])⟩ (by dsimp only; omega) (fun w h => h.del b20)
   | exact Z0v ⟨⟨k + 1, by omega⟩, o'.cast (by rw [e])⟩ (by dsimp only; omega) idH
 obtain rfl : k = t.rats.length := by omega
 refine Zk (Zl (Zl (ZH (sqt 2 rfl (pur 2 rfl (Z4 ?_))))))
 exact rtA rfl rfl rfl ⟨o', rfl, rfl, rfl⟩ (fun w h => (h.del b3).del b2)
theorem Zcw {x k : Int} (h1 : x ≤ 10 * k) (h2 : k = 0 ∨ 10 * (k - 1) < x) (h0 : 0 ≤ x) : k = (x + 9) / 10 := by omega
theorem Z99 {a b A B : Int} (h1 : 0 ≤ a) (h2 : a ≤ A) (h3 : 0 ≤ b) (h4 : b ≤ B) : 0 ≤ a * b ∧ a * b ≤ A * B := by
  have h5 := Int.mul_nonneg h1 h3
  have h6 := Int.mul_le_mul h2 h4 h3 (by omega)
  omega
def Z67 (s : Sta) : List Value := [.int .i64 s.stock, .int .i64 s.short, .int .i64 s.dry]
def ZP (l : List Sta) : List (List Value) := l.map Z67
theorem Z4v {l : List Sta} {k : Nat} {s : Sta} (h : l[k]? = some s) : (ZP l)[k]? = some (Z67 s) := by simp [ZP, h]
theorem Z19 (t : Twn) (ht : t.ok) (s : Sta) (hs : s.right t = true) (r : Int) (q : Rn) (bad : Bool) (ba oa ca : Nat) (h0 : 0 ≤ r) (hq : t.rats[r.toNat]? = some q) (hc : q.sacks ≤ s.stock) (H : Zj) (R : Z9) [hR : MemRows (some ⟨ba, oa, none⟩) 2 (Zf t.rats) R] :
    FnV Tryz.prog 86 [t.v (t.sl (some ⟨ba, oa, none⟩) ca), s.v, .int .i64 r, .bool bad] H R (t.next s q bad).v := by
 have hr := ZbM h0 hq
 have hq1 := ht.rats q (List.mem_of_getElem? hq)
 have hs1 := right_iff.1 hs
 have h1 := ht.holds
 have h2 := ht.good
 have h3 := ht.bad
 have h4 := ht.run
 have h5 := ht.patience
 have h6 := Z9d (x := s.stock - q.sacks) (r := t.rot) (by omega) (by omega) ht.rot.1 ht.rot.2
 refine Zq Tryz.func86 rfl Tryz.ntmps86 rfl ?_
 refine sqt 3 rfl (bx rfl rfl rfl (fun b4 => bx rfl rfl rfl (fun b5 => alc rfl Z6C rfl (fun b8 => Z0 ?_))))
 refine Ze [0, 1, 0, 4, 0, 28, 60, 124, 255, 511] (.tk 0 (.ld 1 (.tk 2 (.ld 3 (tks 4 3 (.ld 7 (.tk 8 (.tk 9 .done)))))))) Zy (by kernel_rfl) ?_
 refine tk rfl (PE.fA Z3I rfl) rfl (ld rfl rfl (lh sc3 rfl rfl) rfl (tk rfl (PE.fA Z0u rfl) rfl (ld rfl rfl (lh Z4q rfl rfl) rfl (ZD 1 rfl (tk rfl (PE.indexAddr Z6O rfl rfl (by omega) (by omega)) rfl (tk rfl (PE.fA Z1g rfl) rfl (ld rfl rfl (lf0 (x := .int .i64 q.sacks) sc3 (Z01 hq) rfl) rfl (tk rfl (PE.sub rfl rfl (by omega)) rfl (ZD 1 rfl (sqt 1 rfl (pur 1 rfl (Z0 (Z7 ?_)))))))))))))
 refine Zn (ι := {k : Nat // k = 0 ∨ 10 * ((k : Int) - 1) < (s.stock - q.sacks) * t.rot}) (fun k => ⟨[(2, .int .i64 r), (3, .bool bad), (4, .pointer (some ⟨b4, 0, none⟩)), (5, .pointer (some ⟨b5, 0, none⟩)), (8, .pointer (some ⟨b8, 0, none⟩)), (9, .int .i64 (s.stock - q.sacks)), (10, .int .i64 k.1)], (b8, cel 93 [.int .i64 0, .int .i64 0, .int .i64 0]) :: (b5, cel 93 [.int .i64 s.stock, .int .i64 s.short, .int .i64 s.dry]) :: (b4, cel 96 (twl t (t.sl (some ⟨ba, oa, none⟩) ca))) :: H, R⟩) (fun k => 16 - k.1) ⟨0, .inl rfl⟩ ?_ (fun k => ?_)
 exact Z06 idH
 obtain ⟨k, hk⟩ := k
 dsimp only
 refine Z0 (sqt 7 rfl (pur 1 rfl (sp rfl (PE.mul rfl rfl (by omega)) rfl (pur 1 rfl (sp rfl (PE.fA ZbB rfl) rfl (spL rfl rfl (lh sc3 rfl rfl) rfl (sp rfl (PE.mul rfl rfl (by omega)) rfl (pur 1 rfl ?_))))))))
 refine Z5 rfl ?_ ?_ <;> intro hc0 <;> try simp only [cS] at hc0
 refine Z3 (Z7 (sqr 3 rfl (pur 1 rfl (sp rfl (PE.add rfl rfl (by omega)) rfl (pur 1 rfl ?_)))))
 exact Z0l ⟨k + 1, by omega⟩ idH
 have hlost := Zcw (x := (s.stock - q.sacks) * t.rot) (k := k) hc0 (by omega) h6.1
 refine Zk (Zl (Zl (ZH (sqt 9 rfl (pur 2 rfl (sp rfl (PE.sub rfl rfl (by omega)) rfl (sp rfl (PE.fA Z8N rfl) rfl (spL rfl rfl (lh sc3 rfl rfl) rfl (sp rfl (PE.add rfl rfl (by omega)) rfl (sp rfl (PE.build (out := [_, _, _]) ZcN Z6C rfl rfl) rfl (alc rfl Z6C rfl (fun b11 => ?_))))))))))))
 refine sto rfl rfl rfl Z4R rfl rfl rfl rfl ?_
 refine Z0 (sqt 1 rfl (pur 1 rfl ?_))
 refine Z5 rfl ?_ ?_ <;> intro hc1
 subst hc1
 refine sqr 11 rfl (pur 2 rfl (sp rfl (PE.sub rfl rfl (by omega)) rfl (sp rfl (PE.fA Z9Q rfl) rfl (spL rfl rfl (lh sc3 rfl rfl) rfl (sp rfl (PE.add rfl rfl (by omega)) rfl (sp rfl (PE.fA Z2V rfl) rfl (spL rfl rfl (lh sc3 rfl rfl) rfl (sp rfl (PE.add rfl rfl (by omega)) rfl (sp rfl (PE.build (out := [_, _, _]) ZcN Z6C rfl rfl) rfl ?_)))))))))
 refine sto rfl rfl rfl Z4R rfl rfl rfl rfl ?_
 refine Z0 (sqt 5 rfl (sp rfl (PE.fA Z3I rfl) rfl (spL rfl rfl (lh sc3 rfl rfl) rfl (sp rfl (PE.fA Z3F rfl) rfl (spL rfl rfl (lh sc3 rfl rfl) rfl (pur 1 rfl ?_))))))
 refine Z5 rfl ?_ ?_ <;> intro hc2 <;> try simp only [cS] at hc2
 refine sqr 4 rfl (sp rfl (PE.fA Z3F rfl) rfl (spL rfl rfl (lh sc3 rfl rfl) rfl (sp rfl (PE.fA Z3I rfl) rfl ?_)))
 refine sto rfl rfl rfl cn3 rfl rfl rfl rfl ?_
 refine Z0 (Z0 ?_)
 refine Ze [0, 1, 0, 7, 15, 31, 0, 64, 255] (.tk 0 (.ld 1 (tks 2 3 (.ld 5 (.tk 6 (.ld 7 (.tk 8 .done))))))) Zy (by kernel_rfl) ?_
 refine tk rfl (PE.fA Z0u rfl) rfl (ld rfl rfl (lh Z4q rfl rfl) rfl (ZD 1 rfl (tk rfl (PE.indexAddr Z6O rfl rfl (by omega) (by omega)) rfl (tk rfl (PE.fA Z1g rfl) rfl (ld rfl rfl (lf0 (x := .int .i64 q.sacks) sc3 (Z01 hq) rfl) rfl (tk rfl (PE.fA Z4X rfl) rfl (ld rfl rfl (lh sc3 rfl rfl) rfl (ZD 1 rfl ?_))))))))
 refine Z5 rfl ?_ ?_ <;> intro hc3 <;> try simp only [cS] at hc3
 refine sqr 5 rfl (sp rfl (PE.fA Z27 rfl) rfl (spL rfl rfl (lh sc3 rfl rfl) rfl (sp rfl (PE.add rfl rfl (by omega)) rfl (sp rfl (PE.fA Z27 rfl) rfl ?_))))
 refine sto rfl rfl rfl cn3 rfl rfl rfl rfl ?_
 refine sqt 2 rfl (spL rfl rfl (lhA [_, _, _] Z0w rfl rfl rfl) rfl ?_)
 refine sto rfl rfl rfl Z4R rfl rfl rfl rfl ?_
 refine Z4 ?_
 exact Z2 (vs := [_]) rfl (.cons (RV.cell rfl (lhA [_, _, _] Z0w rfl rfl rfl)) .nil) rfl ⟨by
     simp only [ZL, Twn.next, Z1t, cond_true, cond_false, Value.agg.injEq]
     rw [← hlost]
     first | rw [dT hc3] | rw [dF (by omega)]
     simp only [cond_true, cond_false]
     congr 3 <;> (congr 1; try omega), rfl, rfl⟩ drp
 refine Z3 (sqt 2 rfl (spL rfl rfl (lhA [_, _, _] Z0w rfl rfl rfl) rfl ?_))
 refine sto rfl rfl rfl Z4R rfl rfl rfl rfl ?_
 refine Z4 ?_
 exact Z2 (vs := [_]) rfl (.cons (RV.cell rfl (lhA [_, _, _] Z0w rfl rfl rfl)) .nil) rfl ⟨by
     simp only [ZL, Twn.next, Z1t, cond_true, cond_false, Value.agg.injEq]
     rw [← hlost]
     first | rw [dT hc3] | rw [dF (by omega)]
     simp only [cond_true, cond_false]
     congr 3 <;> (congr 1; try omega), rfl, rfl⟩ drp
 refine Z3 (Z0 (Z0 ?_))
 refine Ze [0, 1, 0, 7, 15, 31, 0, 64, 255] (.tk 0 (.ld 1 (tks 2 3 (.ld 5 (.tk 6 (.ld 7 (.tk 8 .done))))))) Zy (by kernel_rfl) ?_
 refine tk rfl (PE.fA Z0u rfl) rfl (ld rfl rfl (lh Z4q rfl rfl) rfl (ZD 1 rfl (tk rfl (PE.indexAddr Z6O rfl rfl (by omega) (by omega)) rfl (tk rfl (PE.fA Z1g rfl) rfl (ld rfl rfl (lf0 (x := .int .i64 q.sacks) sc3 (Z01 hq) rfl) rfl (tk rfl (PE.fA Z4X rfl) rfl (ld rfl rfl (lh sc3 rfl rfl) rfl (ZD 1 rfl ?_))))))))
 refine Z5 rfl ?_ ?_ <;> intro hc3 <;> try simp only [cS] at hc3
 refine sqr 5 rfl (sp rfl (PE.fA Z27 rfl) rfl (spL rfl rfl (lh sc3 rfl rfl) rfl (sp rfl (PE.add rfl rfl (by omega)) rfl (sp rfl (PE.fA Z27 rfl) rfl ?_))))
 refine sto rfl rfl rfl cn3 rfl rfl rfl rfl ?_
 refine sqt 2 rfl (spL rfl rfl (lhA [_, _, _] Z0w rfl rfl rfl) rfl ?_)
 refine sto rfl rfl rfl Z4R rfl rfl rfl rfl ?_
 refine Z4 ?_
 exact Z2 (vs := [_]) rfl (.cons (RV.cell rfl (lhA [_, _, _] Z0w rfl rfl rfl)) .nil) rfl ⟨by
     simp only [ZL, Twn.next, Z1t, cond_true, cond_false, Value.agg.injEq]
     rw [← hlost]
     first | rw [dT hc3] | rw [dF (by omega)]
     simp only [cond_true, cond_false]
     congr 3 <;> (congr 1; try omega), rfl, rfl⟩ drp
 refine Z3 (sqt 2 rfl (spL rfl rfl (lhA [_, _, _] Z0w rfl rfl rfl) rfl ?_))
 refine sto rfl rfl rfl Z4R rfl rfl rfl rfl ?_
 refine Z4 ?_
 exact Z2 (vs := [_]) rfl (.cons (RV.cell rfl (lhA [_, _, _] Z0w rfl rfl rfl)) .nil) rfl ⟨by
     simp only [ZL, Twn.next, Z1t, cond_true, cond_false, Value.agg.injEq]
     rw [← hlost]
     first | rw [dT hc3] | rw [dF (by omega)]
     simp only [cond_true, cond_false]
     congr 3 <;> (congr 1; try omega), rfl, rfl⟩ drp
 subst hc1
 refine Z3 (Z0 (sqt 5 rfl (sp rfl (PE.fA Z3I rfl) rfl (spL rfl rfl (lh sc3 rfl rfl) rfl (sp rfl (PE.fA Z3F rfl) rfl (spL rfl rfl (lh sc3 rfl rfl) rfl (pur 1 rfl ?_)))))))
 refine Z5 rfl ?_ ?_ <;> intro hc2 <;> try simp only [cS] at hc2
 refine sqr 4 rfl (sp rfl (PE.fA Z3F rfl) rfl (spL rfl rfl (lh sc3 rfl rfl) rfl (sp rfl (PE.fA Z3I rfl) rfl ?_)))
 refine sto rfl rfl rfl cn3 rfl rfl rfl rfl ?_
 refine Z0 (Z0 ?_)
 refine Ze [0, 1, 0, 7, 15, 31, 0, 64, 255] (.tk 0 (.ld 1 (tks 2 3 (.ld 5 (.tk 6 (.ld 7 (.tk 8 .done))))))) Zy (by kernel_rfl) ?_
 refine tk rfl (PE.fA Z0u rfl) rfl (ld rfl rfl (lh Z4q rfl rfl) rfl (ZD 1 rfl (tk rfl (PE.indexAddr Z6O rfl rfl (by omega) (by omega)) rfl (tk rfl (PE.fA Z1g rfl) rfl (ld rfl rfl (lf0 (x := .int .i64 q.sacks) sc3 (Z01 hq) rfl) rfl (tk rfl (PE.fA Z4X rfl) rfl (ld rfl rfl (lh sc3 rfl rfl) rfl (ZD 1 rfl ?_))))))))
 refine Z5 rfl ?_ ?_ <;> intro hc3 <;> try simp only [cS] at hc3
 refine sqr 5 rfl (sp rfl (PE.fA Z27 rfl) rfl (spL rfl rfl (lh sc3 rfl rfl) rfl (sp rfl (PE.add rfl rfl (by omega)) rfl (sp rfl (PE.fA Z27 rfl) rfl ?_))))
 refine sto rfl rfl rfl cn3 rfl rfl rfl rfl ?_
 refine sqt 2 rfl (spL rfl rfl (lhA [_, _, _] Z0w rfl rfl rfl) rfl ?_)
 refine sto rfl rfl rfl Z4R rfl rfl rfl rfl ?_
 refine Z4 ?_
 exact Z2 (vs := [_]) rfl (.cons (RV.cell rfl (lhA [_, _, _] Z0w rfl rfl rfl)) .nil) rfl ⟨by
     simp only [ZL, Twn.next, Z1t, cond_true, cond_false, Value.agg.injEq]
     rw [← hlost]
     first | rw [dT hc3] | rw [dF (by omega)]
     simp only [cond_true, cond_false]
     congr 3 <;> (congr 1; try omega), rfl, rfl⟩ drp
 refine Z3 (sqt 2 rfl (spL rfl rfl (lhA [_, _, _] Z0w rfl rfl rfl) rfl ?_))
 refine sto rfl rfl rfl Z4R rfl rfl rfl rfl ?_
 refine Z4 ?_
 exact Z2 (vs := [_]) rfl (.cons (RV.cell rfl (lhA [_, _, _] Z0w rfl rfl rfl)) .nil) rfl ⟨by
     simp only [ZL, Twn.next, Z1t, cond_true, cond_false, Value.agg.injEq]
     rw [← hlost]
     first | rw [dT hc3] | rw [dF (by omega)]
     simp only [cond_true, cond_false]
     congr 3 <;> (congr 1; try omega), rfl, rfl⟩ drp
 refine Z3 (Z0 (Z0 ?_))
 refine Ze [0, 1, 0, 7, 15, 31, 0, 64, 255] (.tk 0 (.ld 1 (tks 2 3 (.ld 5 (.tk 6 (.ld 7 (.tk 8 .done))))))) Zy (by kernel_rfl) ?_
 refine tk rfl (PE.fA Z0u rfl) rfl (ld rfl rfl (lh Z4q rfl rfl) rfl (ZD 1 rfl (tk rfl (PE.indexAddr Z6O rfl rfl (by omega) (by omega)) rfl (tk rfl (PE.fA Z1g rfl) rfl (ld rfl rfl (lf0 (x := .int .i64 q.sacks) sc3 (Z01 hq) rfl) rfl (tk rfl (PE.fA Z4X rfl) rfl (ld rfl rfl (lh sc3 rfl rfl) rfl (ZD 1 rfl ?_))))))))
 refine Z5 rfl ?_ ?_ <;> intro hc3 <;> try simp only [cS] at hc3
 refine sqr 5 rfl (sp rfl (PE.fA Z27 rfl) rfl (spL rfl rfl (lh sc3 rfl rfl) rfl (sp rfl (PE.add rfl rfl (by omega)) rfl (sp rfl (PE.fA Z27 rfl) rfl ?_))))
 refine sto rfl rfl rfl cn3 rfl rfl rfl rfl ?_
 refine sqt 2 rfl (spL rfl rfl (lhA [_, _, _] Z0w rfl rfl rfl) rfl ?_)
 refine sto rfl rfl rfl Z4R rfl rfl rfl rfl ?_
 refine Z4 ?_
 exact Z2 (vs := [_]) rfl (.cons (RV.cell rfl (lhA [_, _, _] Z0w rfl rfl rfl)) .nil) rfl ⟨by
     simp only [ZL, Twn.next, Z1t, cond_true, cond_false, Value.agg.injEq]
     rw [← hlost]
     first | rw [dT hc3] | rw [dF (by omega)]
     simp only [cond_true, cond_false]
     congr 3 <;> (congr 1; try omega), rfl, rfl⟩ drp
 refine Z3 (sqt 2 rfl (spL rfl rfl (lhA [_, _, _] Z0w rfl rfl rfl) rfl ?_))
 refine sto rfl rfl rfl Z4R rfl rfl rfl rfl ?_
 refine Z4 ?_
 exact Z2 (vs := [_]) rfl (.cons (RV.cell rfl (lhA [_, _, _] Z0w rfl rfl rfl)) .nil) rfl ⟨by
     simp only [ZL, Twn.next, Z1t, cond_true, cond_false, Value.agg.injEq]
     rw [← hlost]
     first | rw [dT hc3] | rw [dF (by omega)]
     simp only [cond_true, cond_false]
     congr 3 <;> (congr 1; try omega), rfl, rfl⟩ drp
theorem Z0O (t : Twn) (ht : t.ok) (s : Sta) (hs : s.right t = true) (sl : Value) (H : Zj) (R : Z9) :
    FnV Tryz.prog 97 [t.v sl, s.v] H R (.int .i64 (ixr t s)) := by
 have hs1 := right_iff.1 hs
 have h1 := ht.holds
 have h4 := ht.run
 have h5 := ht.patience
 have m1 := Z99 (a := s.stock) (b := t.patience + 1) (A := 30) (B := 4) (by omega) (by omega) (by omega) (by omega)
 have m2 := Z99 (a := s.stock * (t.patience + 1) + s.short) (b := t.run + 1) (A := 123) (B := 4) (by omega) (by omega) (by omega) (by omega)
 refine Zq Tryz.func97 rfl Tryz.ntmps97 rfl ?_
 refine sqt 3 rfl (bx rfl rfl rfl (fun b2 => bx rfl rfl rfl (fun b3 => pur 1 rfl (sqt 17 rfl (sp rfl (PE.fA Z3I rfl) rfl (spL rfl rfl (lh sc3 rfl rfl) rfl (sp rfl (PE.fA Z6a rfl) rfl (spL rfl rfl (lh sc3 rfl rfl) rfl (sp rfl (PE.add rfl rfl (by omega)) rfl (sp rfl (PE.mul rfl rfl (by omega)) rfl (sp rfl (PE.fA Z27 rfl) rfl (spL rfl rfl (lh sc3 rfl rfl) rfl (sp rfl (PE.add rfl rfl (by omega)) rfl (sp rfl (PE.fA Z36 rfl) rfl (spL rfl rfl (lh sc3 rfl rfl) rfl ?_)))))))))))))))
 refine sp rfl (PE.add rfl rfl (by omega)) rfl (sp rfl (PE.mul rfl rfl (by omega)) rfl (sp rfl (PE.fA Z2V rfl) rfl (spL rfl rfl (lh sc3 rfl rfl) rfl (sp rfl (PE.add rfl rfl (by omega)) rfl (pur 1 rfl (Z4 ?_))))))
 exact rtA rfl rfl rfl ⟨congrArg (Value.int .i64) (ZcB ht hs).symm, rfl, rfl⟩ drp
theorem ZaV {t : Twn} {a b c : Nat} (ha : a ≤ t.holds.toNat) (hb : b ≤ t.patience.toNat) (hc : c ≤ t.run.toNat) :
    (sts t).take ((a * (t.patience.toNat + 1) + b) * (t.run.toNat + 1) + (c + 1)) = (sts t).take ((a * (t.patience.toNat + 1) + b) * (t.run.toNat + 1) + c) ++ [⟨a, b, c⟩] := by
  rw [← Nat.add_assoc, List.take_add_one, Z5t (Z6f ha hb hc), Z41 hb hc]; rfl
theorem Zc9 {t : Twn} : (sts t).take ((t.holds.toNat + 1) * (t.patience.toNat + 1) * (t.run.toNat + 1)) = sts t := List.take_of_length_le (by rw [Z0s]; exact Nat.le_refl _)
theorem Z4t (t : Twn) (ht : t.ok) (sl : Value) (H : Zj) (R : Z9) :
    Fn Tryz.prog 95 [t.v sl] H R (fun v H' R' => ∃ o : OSl 93 3 (ZP (sts t)), v = o.fs ∧ H' = o.G ++ H ∧ R' = R) := by
 have h1 := ht.holds
 have h2 := ht.patience
 have h3 := ht.run
 refine Zq Tryz.func95 rfl Tryz.ntmps95 rfl ?_
 refine sqt 2 rfl (bx rfl rfl rfl (fun b1 => pur 1 rfl (sqt 1 rfl (pur 1 rfl (Z0 (sqt 1 rfl (pur 1 rfl (Z7 ?_))))))))
 refine Zn (ι := (k : {k : Nat // k ≤ t.holds.toNat + 1}) × OSl 93 3 (ZP ((sts t).take (k.1 * (t.patience.toNat + 1) * (t.run.toNat + 1))))) (fun x => ⟨[(1, .pointer (some ⟨b1, 0, none⟩)), (3, x.2.fs), (4, .int .i64 x.1.1)], x.2.G ++ (b1, cel 96 (twl t sl)) :: H, R⟩) (fun x => t.holds.toNat + 1 - x.1.1) ⟨⟨0, by omega⟩, (OSl.nil _ _).cast (by simp [ZP])⟩ ?_ (fun x => ?_)
 exact Z06 idH
 obtain ⟨⟨a, ha⟩, o0⟩ := x
 dsimp only at o0 ⊢
 refine Z0 (sqt 4 rfl (pur 1 rfl (sp rfl (PE.fA Z3F rfl) rfl (spL rfl rfl (lh sc3 rfl rfl) rfl (pur 1 rfl ?_)))))
 refine Z5 rfl ?_ ?_ <;> intro hc0 <;> try simp only [cS] at hc0
 refine Z3 (Z0 (Z7 (sqt 1 rfl (pur 1 rfl (Z7 ?_)))))
 refine Zn (ι := (k : {k : Nat // k ≤ t.patience.toNat + 1}) × OSl 93 3 (ZP ((sts t).take ((a * (t.patience.toNat + 1) + k.1) * (t.run.toNat + 1))))) (fun x => ⟨[(1, .pointer (some ⟨b1, 0, none⟩)), (3, x.2.fs), (4, .int .i64 a), (5, .int .i64 x.1.1)], x.2.G ++ (b1, cel 96 (twl t sl)) :: H, R⟩) (fun x => t.patience.toNat + 1 - x.1.1) ⟨⟨0, by omega⟩, o0.cast rfl⟩ ?_ (fun x => ?_)
 exact Z06 idH
 obtain ⟨⟨b, hb⟩, o1⟩ := x
 dsimp only at o1 ⊢
 refine Z0 (sqt 4 rfl (pur 1 rfl (sp rfl (PE.fA Z6a rfl) rfl (spL rfl rfl (lh sc3 rfl rfl) rfl (pur 1 rfl ?_)))))
 refine Z5 rfl ?_ ?_ <;> intro hc1 <;> try simp only [cS] at hc1
 refine Z3 (Z0 (Z7 (sqt 1 rfl (pur 1 rfl (Z7 ?_)))))
 refine Zn (ι := (k : {k : Nat // k ≤ t.run.toNat + 1}) × OSl 93 3 (ZP ((sts t).take ((a * (t.patience.toNat + 1) + b) * (t.run.toNat + 1) + k.1)))) (fun x => ⟨[(1, .pointer (some ⟨b1, 0, none⟩)), (3, x.2.fs), (4, .int .i64 a), (5, .int .i64 b), (6, .int .i64 x.1.1)], x.2.G ++ (b1, cel 96 (twl t sl)) :: H, R⟩) (fun x => t.run.toNat + 1 - x.1.1) ⟨⟨0, by omega⟩, o1.cast rfl⟩ ?_ (fun x => ?_)
 exact Z06 idH
 obtain ⟨⟨c, hc⟩, o2⟩ := x
 dsimp only at o2 ⊢
 refine Z0 (sqt 4 rfl (pur 1 rfl (sp rfl (PE.fA Z36 rfl) rfl (spL rfl rfl (lh sc3 rfl rfl) rfl (pur 1 rfl ?_)))))
 refine Z5 rfl ?_ ?_ <;> intro hc2 <;> try simp only [cS] at hc2
 refine Z3 (Z0 (Z7 (sqr 8 rfl (pur 4 rfl (sp rfl (PE.build (out := [_, _, _]) ZcN Z6C rfl rfl) rfl ?_)))))
 refine bsl (out := [_, _, _]) rfl Zcj Z6C rfl rfl rfl rfl rfl rfl (fun b30 => ?_)
 refine apO (o2) rfl ZbR rfl rfl (Z3e (row := Z67 ⟨a, b, c⟩) rfl) rfl rfl ((by have := Z3g ht; have := Z6f (t := t) (a := a) (b := b) (c := c) (by omega) (by omega) (by omega); simp only [ZP, List.length_map, List.length_take, List.length_singleton]; omega)) rfl (fun o31 => ?_)
 refine pur 1 rfl (sqr 3 rfl (pur 1 rfl (sp rfl (PE.add rfl rfl (by omega)) rfl (pur 1 rfl ?_))))
 exact Z0l ⟨⟨c + 1, by omega⟩, o31.cast (by rw [ZaV (by omega) (by omega) (by omega)]; simp [ZP])⟩ (fun w h => h.del b30)
 obtain rfl : c = t.run.toNat + 1 := by omega
 refine Zk (Zl (Zl (ZH (sqr 3 rfl (pur 1 rfl (sp rfl (PE.add rfl rfl (by omega)) rfl (pur 1 rfl ?_)))))))
 exact Z0l ⟨⟨b + 1, by omega⟩, o2.cast (by rw [show a * (t.patience.toNat + 1) + (b + 1) = (a * (t.patience.toNat + 1) + b) + 1 from rfl, Nat.succ_mul])⟩ idH
 obtain rfl : b = t.patience.toNat + 1 := by omega
 refine Zk (Zl (Zl (ZH (sqr 3 rfl (pur 1 rfl (sp rfl (PE.add rfl rfl (by omega)) rfl (pur 1 rfl ?_)))))))
 exact Z0l ⟨⟨a + 1, by omega⟩, o1.cast (by rw [Nat.succ_mul])⟩ idH
 obtain rfl : a = t.holds.toNat + 1 := by omega
 refine Zk (Zl (Zl (ZH (sqt 2 rfl (pur 2 rfl (Z4 ?_))))))
 exact rtA rfl rfl rfl ⟨o0.cast (by rw [Zc9]), rfl, rfl, rfl⟩ (fun w h => h.del b1)
theorem Zek : apT Tryz.prog 25 = some (44, 2, 16) := by kernel_rfl
theorem ZfH : apT Tryz.prog 94 = some (142, 2, 16) := by kernel_rfl
theorem Zd4 : cal Tryz.prog 110 = true := by kernel_rfl
theorem ZeR : cal Tryz.prog 83 = true := by kernel_rfl
theorem Zdx : cal Tryz.prog 93 = true := by kernel_rfl
theorem Zcn : Z1c Tryz.prog 25 = some 1 := by kernel_rfl
theorem ZfK : Z1c Tryz.prog 94 = some 1 := by kernel_rfl
theorem ZU : Z1c Tryz.prog 96 = some 11 := by kernel_rfl
theorem ZfR : Z1q Tryz.prog 96 = some [(0, 3), (3, 1), (4, 1), (5, 1), (6, 1), (7, 1), (8, 1), (9, 1), (10, 1)] := by kernel_rfl
theorem ZfE : slE Tryz.prog 94 = some (142, 2) := by kernel_rfl
theorem Z0m : Z0n Tryz.prog 96 = some ([.int .i64 0, .int .i64 0, .int .i64 0, .int .i64 0, .int .i64 0, .int .i64 0, .int .i64 0, .int .i64 0, .int .i64 0, .int .i64 0, .slice none 0 0]) := by kernel_rfl
theorem Z4B {l : List Int} {i k : Nat} {v : Int} (h : i < l.length) (e : k = i) : spl (ZT l) k [.int .i64 v] = ZT (l.set i v) := by
  subst e; rw [Z4j (by rw [Zp]; exact h), Z5A]
theorem Z6V {l : List Int} {i k : Nat} {v : Int} (h : l[i]? = some v) (e : k = i) : (ZT l)[k]? = some (.int .i64 v) := by subst e; exact Z86 h
theorem Z81 (t : Twn) (g : Sta → Int) (s : Sta) : ∀ (l : List Rn) (b : Int), l.foldl (efQ t g s) b = (l.filter (t.can s)).foldl (efQ t g s) b
  | [], _ => rfl
  | q :: l, b => by
    rw [List.foldl_cons, Z81 t g s l, List.filter_cons]
    cases h : t.can s q with
    | true => simp
    | false => simp [efQ, h]
theorem ZbY (t : Twn) (n : Nat) (s : Sta) : ef t (n + 1) s = (Z2G t s).foldl (efQ t (ef t n) s) (-1) := Z81 t (ef t n) s t.rats (-1)
theorem ZcL {α β : Type} {f : β → α → β} {b : β} {l : List α} {k : Nat} {x : α} (h : l[k]? = some x) : (l.take (k + 1)).foldl f b = f ((l.take k).foldl f b) x := by
  rw [List.take_add_one, h, List.foldl_append]; rfl
theorem Zck {n i : Nat} {v : Int} (h : i < n) : (List.replicate n v)[i]? = some v := by simp [h]
theorem Z9x (xs : List Rn) (a : Option Addr) (c : Nat) (hl : xs.length ≤ 1000000) (H : Zj) (R : Z9) [hR : MemRows a 2 (Zf xs) R] :
    Fn Tryz.prog 83 [.slice a xs.length c] H R (fun v H' R' => ∃ o : OSl 44 2 (Zf xs), v = o.fs ∧ o.here ∧ H' = o.G ++ H ∧ R' = R) := by
 refine Zq Tryz.func83 rfl Tryz.ntmps83 rfl ?_
 refine sqt 1 rfl (pur 1 rfl (sqt 6 rfl (pur 1 rfl (sp rfl (PE.lenSl Z2f rfl) rfl ?_))))
 refine mkO rfl Zek Z6P rfl rfl ⟨by omega, by omega⟩ rfl (fun o ho => ?_)
 refine pur 1 rfl ?_
 refine Zbg (news := Zf xs) o rfl Zek rfl rfl (Z6F) (by simp [Zf]) (by simp [Z0C, Zf, Z2z, Value.oneCell']) ⟨by simp [Zf]; omega, by simp [Zf]; omega⟩ rfl ho (fun o2 ho2 => ?_)
 refine pur 1 rfl (Z4 ?_)
 exact rtA rfl rfl rfl ⟨o2.cast (by simp), rfl, ho2, rfl, rfl⟩ idH
theorem Z7Q (xs ys : List Rn) (a a2 : Option Addr) (c c2 : Nat) (hl : xs.length ≤ 9223372036854775807) (hl2 : ys.length ≤ 9223372036854775807) (H : Zj) (R : Z9) [hR : MemRows a 2 (Zf xs) R] [hR2 : MemRows a2 2 (Zf ys) R] :
    FnV Tryz.prog 93 [.slice a xs.length c, .slice a2 ys.length c2] H R (.bool (decide (xs = ys))) := by
 refine Zq Tryz.func93 rfl Tryz.ntmps93 rfl ?_
 refine sqt 1 rfl (pur 1 rfl (sqt 4 rfl (pur 2 rfl ?_)))
 refine clV rfl Zd4 rfl rfl (Zbd xs ys a a2 c c2 hl hl2 _ _) ?_
 refine pur 1 rfl (Z4 ?_)
 exact rtA rfl rfl rfl ⟨rfl, rfl, rfl⟩ drp
theorem Z0Q (t : Twn) (a : Option Addr) (c : Nat) (hl : t.rats.length ≤ 1000000) (H : Zj) (R : Z9) [hR : MemRows a 2 (Zf t.rats) R] :
    Fn Tryz.prog 42 [t.v (t.sl a c)] H R (fun v H' R' => ∃ b c', v = t.v (t.sl (some ⟨b, 0, none⟩) c') ∧ H' = H ∧ R' = RowsA (some ⟨b, 0, none⟩) 2 (Zf t.rats) :: R) := by
 refine Zq Tryz.func42 rfl Tryz.ntmps42 rfl ?_
 refine sqt 2 rfl (bx rfl rfl rfl (fun b1 => alc rfl Z04 rfl (fun b2 => sqt 5 rfl (sp rfl (PE.fA ZY rfl) rfl (spL rfl rfl (lh Z23 rfl rfl) rfl ?_)))))
 refine cl rfl ZeR rfl rfl (Z9x t.rats a c hl _ _) ?_
 rintro _ _ _ ⟨o, rfl, ⟨bo, co, hbo⟩, rfl, rfl⟩
 obtain ⟨ao, c2, ho, hf⟩ := o.freeze
 rw [hbo] at ho
 cases ho
 rw [hbo]
 refine Sy.heap (fun w h => hf h) ?_
 rw [show (Zf t.rats).length = t.rats.length from List.length_map _]
 refine sp rfl (PE.fA ZY rfl) rfl ?_
 refine sto rfl rfl rfl Zcn rfl rfl rfl rfl ?_
 refine sqt 2 rfl (spL rfl rfl (lhA [_, _, _, _, _, _, _, _, _, _, _] Zd rfl rfl rfl) rfl ?_)
 refine sto rfl rfl rfl ZO rfl rfl rfl rfl ?_
 refine Z4 ?_
 exact Z2 (vs := [_]) rfl (.cons (RV.cell rfl (lhA [_, _, _, _, _, _, _, _, _, _, _] Zd rfl rfl rfl)) .nil) rfl ⟨bo, co, rfl, rfl, rfl⟩ (fun w h => (h.del b2).del b1)
theorem Z5B (t : Twn) (a : Option Addr) (c : Nat) (hl : t.rats.length ≤ 9223372036854775807) (H : Zj) (R : Z9) :
    FnV Tryz.prog 41 [t.v (t.sl a c)] H R (.bool (decide ((7 : Int) < t.rats.length))) := by
 refine Zq Tryz.func41 rfl Tryz.ntmps41 rfl ?_
 refine sqt 2 rfl (bx rfl rfl rfl (fun b1 => pur 1 rfl (sqt 5 rfl (sp rfl (PE.fA ZY rfl) rfl (spL rfl rfl (lh Z23 rfl rfl) rfl (sp rfl (PE.lenSl Z2f rfl) rfl (pur 2 rfl (Z4 ?_))))))))
 exact rtA rfl rfl rfl ⟨rfl, rfl, rfl⟩ drp
theorem Za (t : Twn) (a : Option Addr) (c : Nat) (hl : t.rats.length ≤ 1000000) (H : Zj) (R : Z9) [hR : MemRows a 2 (Zf t.rats) R] :
    Fn Tryz.prog 43 [t.v (t.sl a c)] H R (fun v H' R' => ∃ a' c', v = t.v (t.sl a' c') ∧ H' = H ∧ R' = RowsA a' 2 (Zf t.rats) :: R) := by
 refine Zq Tryz.func43 rfl Tryz.ntmps43 rfl ?_
 refine sqt 2 rfl (bx rfl rfl rfl (fun b1 => alc rfl Z0m rfl (fun b2 => sqt 19 rfl (sp rfl (PE.fA Z0a rfl) rfl (spL rfl rfl (lhA [_, _, _] ZF rfl rfl rfl) rfl (sp rfl (PE.fA Z1N rfl) rfl (spL rfl rfl (lh sc3 rfl rfl) rfl (sp rfl (PE.fA Z3H rfl) rfl (spL rfl rfl (lh sc3 rfl rfl) rfl (sp rfl (PE.fA Z22 rfl) rfl (spL rfl rfl (lh sc3 rfl rfl) rfl (sp rfl (PE.fA Z25 rfl) rfl (spL rfl rfl (lh sc3 rfl rfl) rfl (sp rfl (PE.fA Z2Y rfl) rfl (spL rfl rfl (lh sc3 rfl rfl) rfl ?_)))))))))))))))
 refine sp rfl (PE.fA Z3p rfl) rfl (spL rfl rfl (lh sc3 rfl rfl) rfl (sp rfl (PE.fA Z3P rfl) rfl (spL rfl rfl (lh sc3 rfl rfl) rfl (sp rfl (PE.build (out := twl t (.slice none 0 0)) ZfR Z0m rfl (by kernel_rfl)) rfl (alc rfl Z0m rfl (fun b3 => ?_))))))
 refine sto rfl rfl rfl ZU rfl rfl rfl rfl ?_
 refine Z0 (sqt 4 rfl (sp rfl (PE.fA ZY rfl) rfl (spL rfl rfl (lh Z23 rfl rfl) rfl (sp rfl (PE.lenSl Z2f rfl) rfl (pur 1 rfl (Z7 ?_))))))
 refine Zn (ι := (k : {k : Nat // k ≤ t.rats.length}) × OSl 142 2 (Zf (t.rats.take k.1))) (fun x => ⟨[(2, .pointer (some ⟨b2, 0, none⟩)), (3, .pointer (some ⟨b3, 0, none⟩)), (24, t.sl a c), (25, .int .i64 t.rats.length), (26, .int .i64 x.1.1)], x.2.G ++ (b3, cel 96 (twl t x.2.fs)) :: (b2, cel 96 [.int .i64 0, .int .i64 0, .int .i64 0, .int .i64 0, .int .i64 0, .int .i64 0, .int .i64 0, .int .i64 0, .int .i64 0, .int .i64 0, .slice none 0 0]) :: (b1, cel 27 (twl t (t.sl a c))) :: H, R⟩) (fun x => t.rats.length - x.1.1) ⟨⟨0, by omega⟩, (OSl.nil _ _).cast (by simp [Zf])⟩ ?_ (fun x => ?_)
 exact Z06 idH
 obtain ⟨⟨k, hk⟩, o'⟩ := x
 dsimp only at o' ⊢
 refine sqt 1 rfl (pur 1 rfl (Z0 ?_))
 refine Z5 rfl ?_ ?_ <;> intro hc0 <;> try simp only [cS] at hc0
 obtain ⟨x, hx⟩ : ∃ x, t.rats[k]? = some x := ⟨_, List.getElem?_eq_getElem (by omega)⟩
 refine Zw (a := a) (sz := 2) (rows := Zf t.rats) (by intro h0; simp [Zf] at h0; simp [h0] at hx) (fun b off he => ?_)
 subst he
 refine Z3 (Z0 (Z7 (sqt 4 rfl (sp rfl (PE.indexAddr Z8K rfl rfl (by omega) (by omega)) rfl (spL rfl rfl (lfA (row := Z2z x) Z5j (Z01 hx) rfl) rfl (alc rfl Z6P rfl (fun b5 => ?_)))))))
 refine sto rfl rfl rfl ZcO rfl rfl rfl rfl ?_
 refine sqr 7 rfl (sp rfl (PE.fA Z0u rfl) rfl (spL rfl rfl (lh Z4q rfl rfl) rfl (spL rfl rfl (lhA [_, _] Z5j rfl rfl rfl) rfl ?_)))
 refine bsl (out := [_, _]) rfl ZfE Zdh rfl rfl rfl rfl rfl rfl (fun b33 => ?_)
 refine apO (o') rfl ZfH rfl rfl (Z3e (row := Z2z x) rfl) rfl rfl ((by simp only [Zf, List.length_map, List.length_take, List.length_singleton]; omega)) rfl (fun o34 => ?_)
 refine sp rfl (PE.fA Z0u rfl) rfl ?_
 refine Z2R (l' := twl t o34.fs) rfl rfl rfl ZfK rfl (by rw [o34.cells.1]; first | done | rfl) (by rw [o34.cells.1]; simp [o34.cells.2]) (by rw [o34.cells.1]; first | done | rfl) (by rw [o34.cells.1]; first | done | exact Nat.le_refl _) ?_
 refine sqr 2 rfl (sp rfl (PE.add rfl rfl (by omega)) rfl (pur 1 rfl ?_))
 exact Z0l ⟨⟨k + 1, by omega⟩, o34.cast (by rw [List.take_add_one, hx]; simp [Zf])⟩ (fun w h => (h.del b33).del b5)
 obtain rfl : k = t.rats.length := by omega
 obtain ⟨a', c', he, hf⟩ := (o'.cast (by rw [List.take_length]) : OSl _ 2 (Zf t.rats)).freeze
 rw [show o'.fs = _ from he]
 refine Sy.heap (fun w h => hf h) ?_
 rw [show (Zf t.rats).length = t.rats.length from List.length_map _]
 refine Zk (Zl (Zl (ZH (sqt 2 rfl (spL rfl rfl (lhA [_, _, _, _, _, _, _, _, _, _, _] Z0c rfl rfl rfl) rfl ?_)))))
 refine sto rfl rfl rfl ZU rfl rfl rfl rfl ?_
 refine Z4 ?_
 exact Z2 (vs := [_]) rfl (.cons (RV.cell rfl (lhA [_, _, _, _, _, _, _, _, _, _, _] Z0c rfl rfl rfl)) .nil) rfl ⟨a', c', rfl, rfl, rfl⟩ (fun w h => ((h.del b3).del b2).del b1)
theorem Z14 (t u : Twn) : decide (t = u) = (decide (t.rats = u.rats) && decide ([t.now.stock, t.now.short, t.now.dry] = [u.now.stock, u.now.short, u.now.dry]) && decide (t.holds = u.holds) && decide (t.need = u.need) && decide (t.patience = u.patience) && decide (t.run = u.run) && decide (t.good = u.good) && decide (t.bad = u.bad) && decide (t.rot = u.rot)) := by
  obtain ⟨⟨a, b, c⟩, d, e, f, g, h, i, j, k⟩ := t
  obtain ⟨⟨a', b', c'⟩, d', e', f', g', h', i', j', k'⟩ := u
  rw [Bool.eq_iff_iff]
  simp only [Twn.mk.injEq, Sta.mk.injEq, decide_eq_true_eq, Bool.and_eq_true, List.cons.injEq, and_true]
  constructor
  · rintro ⟨⟨h1, h2, h3⟩, h4, h5, h6, h7, h8, h9, h10, h11⟩; exact ⟨⟨⟨⟨⟨⟨⟨⟨h11, h1, h2, h3⟩, h4⟩, h5⟩, h6⟩, h7⟩, h8⟩, h9⟩, h10⟩
  · rintro ⟨⟨⟨⟨⟨⟨⟨⟨h11, h1, h2, h3⟩, h4⟩, h5⟩, h6⟩, h7⟩, h8⟩, h9⟩, h10⟩; exact ⟨⟨h1, h2, h3⟩, h4, h5, h6, h7, h8, h9, h10, h11⟩
theorem Z38 (t u : Twn) (a a2 : Option Addr) (c c2 : Nat) (hl : t.rats.length ≤ 9223372036854775807) (hl2 : u.rats.length ≤ 9223372036854775807) (H : Zj) (R : Z9) [hR : MemRows a 2 (Zf t.rats) R] [hR2 : MemRows a2 2 (Zf u.rats) R] :
    FnV Tryz.prog 52 [t.v (t.sl a c), u.v (u.sl a2 c2)] H R (.bool (decide (t = u))) := by
 refine Zq Tryz.func52 rfl Tryz.ntmps52 rfl ?_
 refine sqt 3 rfl (bx rfl rfl rfl (fun b2 => bx rfl rfl rfl (fun b3 => pur 1 rfl (Z0 ?_))))
 refine Ze [0, 0, 0, 0, 13, 31] (.ld 0 (.ld 1 (.any (.alt 2 (.big 3 (.big 4 (.big 5 .done))) (.alt 3 (.big 2 (.big 4 (.big 5 .done))) .stop))))) Zy (by kernel_rfl) ?_
 refine ld rfl rfl (lhA [_, _, _, _, _, _, _, _, _, _, _] Zd rfl rfl rfl) rfl (ld rfl rfl (lhA [_, _, _, _, _, _, _, _, _, _, _] Zd rfl rfl rfl) rfl ?_)
 refine Z8 ?_ ?_
 refine alc rfl Z04 rfl (fun b5 => ?_)
 refine bg (fun w hs => ⟨(lhA [_, _, _, _, _, _, _, _, _, _, _] Zd rfl rfl rfl) w hs, (lhA [_, _, _, _, _, _, _, _, _, _, _] Zd rfl rfl rfl) w hs, trivial⟩) ?_
 refine alc rfl Z04 rfl (fun b6 => ?_)
 refine bg (fun w hs => ⟨(lhA [_, _, _, _, _, _, _, _, _, _, _] Zd rfl rfl rfl) w hs, (lhA [_, _, _, _, _, _, _, _, _, _, _] Zd rfl rfl rfl) w hs, trivial⟩) ?_
 refine sto rfl rfl rfl ZO rfl rfl rfl rfl ?_
 refine bg (fun w hs => ⟨(lhA [_, _, _, _, _, _, _, _, _, _, _] Zd rfl rfl rfl) w hs, trivial, trivial⟩) ?_
 refine sto rfl rfl rfl ZO rfl rfl rfl rfl ?_
 refine bgT (sqt 4 rfl (sp rfl (PE.fA ZY rfl) rfl ?_))
 refine sto rfl rfl rfl Zcn rfl rfl rfl rfl ?_
 refine sp rfl (PE.fA ZY rfl) rfl ?_
 refine sto rfl rfl rfl Zcn rfl rfl rfl rfl ?_
 refine sqt 62 rfl (sp rfl (PE.fA ZY rfl) rfl (spL rfl rfl (lh Z23 rfl rfl) rfl (sp rfl (PE.fA ZY rfl) rfl (spL rfl rfl (lh Z23 rfl rfl) rfl ?_))))
 refine clV rfl Zdx rfl rfl (Z7Q t.rats u.rats a a2 c c2 hl hl2 _ _) ?_
 refine pur 1 rfl ?_
 refine ZE 16 rfl ?_ ?_ <;> intro g16
 refine spG rfl rfl rfl rfl (PE.fA Z0a rfl) rfl ?_
 refine Z03 rfl rfl rfl rfl rfl (lhA [_, _, _] ZF rfl rfl rfl) rfl ?_
 refine spG rfl rfl rfl rfl (PE.fA Z0a rfl) rfl ?_
 refine Z03 rfl rfl rfl rfl rfl (lhA [_, _, _] ZF rfl rfl rfl) rfl ?_
 refine spG rfl rfl rfl rfl (PE.eqlAgg [t.now.stock, t.now.short, t.now.dry] [u.now.stock, u.now.short, u.now.dry] (Z13 10000 24 true 3 Z3S) Z8o rfl rfl rfl rfl) rfl ?_
 refine pur 2 rfl ?_
 refine ZE 23 rfl ?_ ?_ <;> intro g23
 refine spG rfl rfl rfl rfl (PE.fA Z1N rfl) rfl ?_
 refine Z03 rfl rfl rfl rfl rfl (lh sc3 rfl rfl) rfl ?_
 refine spG rfl rfl rfl rfl (PE.fA Z1N rfl) rfl ?_
 refine Z03 rfl rfl rfl rfl rfl (lh sc3 rfl rfl) rfl (pur 3 rfl ?_)
 refine ZE 30 rfl ?_ ?_ <;> intro g30
 refine spG rfl rfl rfl rfl (PE.fA Z3H rfl) rfl ?_
 refine Z03 rfl rfl rfl rfl rfl (lh sc3 rfl rfl) rfl ?_
 refine spG rfl rfl rfl rfl (PE.fA Z3H rfl) rfl ?_
 refine Z03 rfl rfl rfl rfl rfl (lh sc3 rfl rfl) rfl (pur 3 rfl ?_)
 refine ZE 37 rfl ?_ ?_ <;> intro g37
 refine spG rfl rfl rfl rfl (PE.fA Z22 rfl) rfl ?_
 refine Z03 rfl rfl rfl rfl rfl (lh sc3 rfl rfl) rfl ?_
 refine spG rfl rfl rfl rfl (PE.fA Z22 rfl) rfl ?_
 refine Z03 rfl rfl rfl rfl rfl (lh sc3 rfl rfl) rfl (pur 3 rfl ?_)
 refine ZE 44 rfl ?_ ?_ <;> intro g44
 refine spG rfl rfl rfl rfl (PE.fA Z25 rfl) rfl ?_
 refine Z03 rfl rfl rfl rfl rfl (lh sc3 rfl rfl) rfl ?_
 refine spG rfl rfl rfl rfl (PE.fA Z25 rfl) rfl ?_
 refine Z03 rfl rfl rfl rfl rfl (lh sc3 rfl rfl) rfl (pur 3 rfl ?_)
 refine ZE 51 rfl ?_ ?_ <;> intro g51
 refine spG rfl rfl rfl rfl (PE.fA Z2Y rfl) rfl ?_
 refine Z03 rfl rfl rfl rfl rfl (lh sc3 rfl rfl) rfl ?_
 refine spG rfl rfl rfl rfl (PE.fA Z2Y rfl) rfl ?_
 refine Z03 rfl rfl rfl rfl rfl (lh sc3 rfl rfl) rfl (pur 3 rfl ?_)
 refine ZE 58 rfl ?_ ?_ <;> intro g58
 refine spG rfl rfl rfl rfl (PE.fA Z3p rfl) rfl ?_
 refine Z03 rfl rfl rfl rfl rfl (lh sc3 rfl rfl) rfl ?_
 refine spG rfl rfl rfl rfl (PE.fA Z3p rfl) rfl ?_
 refine Z03 rfl rfl rfl rfl rfl (lh sc3 rfl rfl) rfl (pur 3 rfl ?_)
 refine ZE 65 rfl ?_ ?_ <;> intro g65
 refine spG rfl rfl rfl rfl (PE.fA Z3P rfl) rfl ?_
 refine Z03 rfl rfl rfl rfl rfl (lh sc3 rfl rfl) rfl ?_
 refine spG rfl rfl rfl rfl (PE.fA Z3P rfl) rfl ?_
 refine Z03 rfl rfl rfl rfl rfl (lh sc3 rfl rfl) rfl (pur 3 rfl (Z4 ?_))
 exact rtA rfl rfl rfl ⟨by rw [Z14]; simp_all only [ZL, Bool.true_and, Bool.false_and, Bool.and_false, Bool.and_true, cond_true, cond_false], rfl, rfl⟩ drp
 refine pur 7 rfl (Z4 ?_)
 exact rtA rfl rfl rfl ⟨by rw [Z14]; simp_all only [ZL, Bool.true_and, Bool.false_and, Bool.and_false, Bool.and_true, cond_true, cond_false], rfl, rfl⟩ drp
 refine pur 14 rfl (Z4 ?_)
 exact rtA rfl rfl rfl ⟨by rw [Z14]; simp_all only [ZL, Bool.true_and, Bool.false_and, Bool.and_false, Bool.and_true, cond_true, cond_false], rfl, rfl⟩ drp
 refine pur 21 rfl (Z4 ?_)
 exact rtA rfl rfl rfl ⟨by rw [Z14]; simp_all only [ZL, Bool.true_and, Bool.false_and, Bool.and_false, Bool.and_true, cond_true, cond_false], rfl, rfl⟩ drp
 refine pur 28 rfl (Z4 ?_)
 exact rtA rfl rfl rfl ⟨by rw [Z14]; simp_all only [ZL, Bool.true_and, Bool.false_and, Bool.and_false, Bool.and_true, cond_true, cond_false], rfl, rfl⟩ drp
 refine pur 35 rfl (Z4 ?_)
 exact rtA rfl rfl rfl ⟨by rw [Z14]; simp_all only [ZL, Bool.true_and, Bool.false_and, Bool.and_false, Bool.and_true, cond_true, cond_false], rfl, rfl⟩ drp
 refine pur 42 rfl (Z4 ?_)
 exact rtA rfl rfl rfl ⟨by rw [Z14]; simp_all only [ZL, Bool.true_and, Bool.false_and, Bool.and_false, Bool.and_true, cond_true, cond_false], rfl, rfl⟩ drp
 refine pur 49 rfl (Z4 ?_)
 exact rtA rfl rfl rfl ⟨by rw [Z14]; simp_all only [ZL, Bool.true_and, Bool.false_and, Bool.and_false, Bool.and_true, cond_true, cond_false], rfl, rfl⟩ drp
 refine pur 56 rfl (Z4 ?_)
 exact rtA rfl rfl rfl ⟨by rw [Z14]; simp_all only [ZL, Bool.true_and, Bool.false_and, Bool.and_false, Bool.and_true, cond_true, cond_false], rfl, rfl⟩ drp
 refine Z8 ?_ ?_
 refine alc rfl Z04 rfl (fun b6 => ?_)
 refine bg (fun w hs => ⟨(lhA [_, _, _, _, _, _, _, _, _, _, _] Zd rfl rfl rfl) w hs, (lhA [_, _, _, _, _, _, _, _, _, _, _] Zd rfl rfl rfl) w hs, trivial⟩) ?_
 refine alc rfl Z04 rfl (fun b5 => ?_)
 refine bg (fun w hs => ⟨(lhA [_, _, _, _, _, _, _, _, _, _, _] Zd rfl rfl rfl) w hs, (lhA [_, _, _, _, _, _, _, _, _, _, _] Zd rfl rfl rfl) w hs, trivial⟩) ?_
 refine sto rfl rfl rfl ZO rfl rfl rfl rfl ?_
 refine bg (fun w hs => ⟨(lhA [_, _, _, _, _, _, _, _, _, _, _] Zd rfl rfl rfl) w hs, trivial, trivial⟩) ?_
 refine sto rfl rfl rfl ZO rfl rfl rfl rfl ?_
 refine bgT (sqt 4 rfl (sp rfl (PE.fA ZY rfl) rfl ?_))
 refine sto rfl rfl rfl Zcn rfl rfl rfl rfl ?_
 refine sp rfl (PE.fA ZY rfl) rfl ?_
 refine sto rfl rfl rfl Zcn rfl rfl rfl rfl ?_
 refine sqt 62 rfl (sp rfl (PE.fA ZY rfl) rfl (spL rfl rfl (lh Z23 rfl rfl) rfl (sp rfl (PE.fA ZY rfl) rfl (spL rfl rfl (lh Z23 rfl rfl) rfl ?_))))
 refine clV rfl Zdx rfl rfl (Z7Q t.rats u.rats a a2 c c2 hl hl2 _ _) ?_
 refine pur 1 rfl ?_
 refine ZE 16 rfl ?_ ?_ <;> intro g16
 refine spG rfl rfl rfl rfl (PE.fA Z0a rfl) rfl ?_
 refine Z03 rfl rfl rfl rfl rfl (lhA [_, _, _] ZF rfl rfl rfl) rfl ?_
 refine spG rfl rfl rfl rfl (PE.fA Z0a rfl) rfl ?_
 refine Z03 rfl rfl rfl rfl rfl (lhA [_, _, _] ZF rfl rfl rfl) rfl ?_
 refine spG rfl rfl rfl rfl (PE.eqlAgg [t.now.stock, t.now.short, t.now.dry] [u.now.stock, u.now.short, u.now.dry] (Z13 10000 24 true 3 Z3S) Z8o rfl rfl rfl rfl) rfl ?_
 refine pur 2 rfl ?_
 refine ZE 23 rfl ?_ ?_ <;> intro g23
 refine spG rfl rfl rfl rfl (PE.fA Z1N rfl) rfl ?_
 refine Z03 rfl rfl rfl rfl rfl (lh sc3 rfl rfl) rfl ?_
 refine spG rfl rfl rfl rfl (PE.fA Z1N rfl) rfl ?_
 refine Z03 rfl rfl rfl rfl rfl (lh sc3 rfl rfl) rfl (pur 3 rfl ?_)
 refine ZE 30 rfl ?_ ?_ <;> intro g30
 refine spG rfl rfl rfl rfl (PE.fA Z3H rfl) rfl ?_
 refine Z03 rfl rfl rfl rfl rfl (lh sc3 rfl rfl) rfl ?_
 refine spG rfl rfl rfl rfl (PE.fA Z3H rfl) rfl ?_
 refine Z03 rfl rfl rfl rfl rfl (lh sc3 rfl rfl) rfl (pur 3 rfl ?_)
 refine ZE 37 rfl ?_ ?_ <;> intro g37
 refine spG rfl rfl rfl rfl (PE.fA Z22 rfl) rfl ?_
 refine Z03 rfl rfl rfl rfl rfl (lh sc3 rfl rfl) rfl ?_
 refine spG rfl rfl rfl rfl (PE.fA Z22 rfl) rfl ?_
 refine Z03 rfl rfl rfl rfl rfl (lh sc3 rfl rfl) rfl (pur 3 rfl ?_)
 refine ZE 44 rfl ?_ ?_ <;> intro g44
 refine spG rfl rfl rfl rfl (PE.fA Z25 rfl) rfl ?_
 refine Z03 rfl rfl rfl rfl rfl (lh sc3 rfl rfl) rfl ?_
 refine spG rfl rfl rfl rfl (PE.fA Z25 rfl) rfl ?_
 refine Z03 rfl rfl rfl rfl rfl (lh sc3 rfl rfl) rfl (pur 3 rfl ?_)
 refine ZE 51 rfl ?_ ?_ <;> intro g51
 refine spG rfl rfl rfl rfl (PE.fA Z2Y rfl) rfl ?_
 refine Z03 rfl rfl rfl rfl rfl (lh sc3 rfl rfl) rfl ?_
 refine spG rfl rfl rfl rfl (PE.fA Z2Y rfl) rfl ?_
 refine Z03 rfl rfl rfl rfl rfl (lh sc3 rfl rfl) rfl (pur 3 rfl ?_)
 refine ZE 58 rfl ?_ ?_ <;> intro g58
 refine spG rfl rfl rfl rfl (PE.fA Z3p rfl) rfl ?_
 refine Z03 rfl rfl rfl rfl rfl (lh sc3 rfl rfl) rfl ?_
 refine spG rfl rfl rfl rfl (PE.fA Z3p rfl) rfl ?_
 refine Z03 rfl rfl rfl rfl rfl (lh sc3 rfl rfl) rfl (pur 3 rfl ?_)
 refine ZE 65 rfl ?_ ?_ <;> intro g65
 refine spG rfl rfl rfl rfl (PE.fA Z3P rfl) rfl ?_
 refine Z03 rfl rfl rfl rfl rfl (lh sc3 rfl rfl) rfl ?_
 refine spG rfl rfl rfl rfl (PE.fA Z3P rfl) rfl ?_
 refine Z03 rfl rfl rfl rfl rfl (lh sc3 rfl rfl) rfl (pur 3 rfl (Z4 ?_))
 exact rtA rfl rfl rfl ⟨by rw [Z14]; simp_all only [ZL, Bool.true_and, Bool.false_and, Bool.and_false, Bool.and_true, cond_true, cond_false], rfl, rfl⟩ drp
 refine pur 7 rfl (Z4 ?_)
 exact rtA rfl rfl rfl ⟨by rw [Z14]; simp_all only [ZL, Bool.true_and, Bool.false_and, Bool.and_false, Bool.and_true, cond_true, cond_false], rfl, rfl⟩ drp
 refine pur 14 rfl (Z4 ?_)
 exact rtA rfl rfl rfl ⟨by rw [Z14]; simp_all only [ZL, Bool.true_and, Bool.false_and, Bool.and_false, Bool.and_true, cond_true, cond_false], rfl, rfl⟩ drp
 refine pur 21 rfl (Z4 ?_)
 exact rtA rfl rfl rfl ⟨by rw [Z14]; simp_all only [ZL, Bool.true_and, Bool.false_and, Bool.and_false, Bool.and_true, cond_true, cond_false], rfl, rfl⟩ drp
 refine pur 28 rfl (Z4 ?_)
 exact rtA rfl rfl rfl ⟨by rw [Z14]; simp_all only [ZL, Bool.true_and, Bool.false_and, Bool.and_false, Bool.and_true, cond_true, cond_false], rfl, rfl⟩ drp
 refine pur 35 rfl (Z4 ?_)
 exact rtA rfl rfl rfl ⟨by rw [Z14]; simp_all only [ZL, Bool.true_and, Bool.false_and, Bool.and_false, Bool.and_true, cond_true, cond_false], rfl, rfl⟩ drp
 refine pur 42 rfl (Z4 ?_)
 exact rtA rfl rfl rfl ⟨by rw [Z14]; simp_all only [ZL, Bool.true_and, Bool.false_and, Bool.and_false, Bool.and_true, cond_true, cond_false], rfl, rfl⟩ drp
 refine pur 49 rfl (Z4 ?_)
 exact rtA rfl rfl rfl ⟨by rw [Z14]; simp_all only [ZL, Bool.true_and, Bool.false_and, Bool.and_false, Bool.and_true, cond_true, cond_false], rfl, rfl⟩ drp
 refine pur 56 rfl (Z4 ?_)
 exact rtA rfl rfl rfl ⟨by rw [Z14]; simp_all only [ZL, Bool.true_and, Bool.false_and, Bool.and_false, Bool.and_true, cond_true, cond_false], rfl, rfl⟩ drp
 exact Zc
theorem Zax : cal Tryz.prog 41 = true := by kernel_rfl
theorem Z0R : cal Tryz.prog 42 = true := by kernel_rfl
theorem ZA : cal Tryz.prog 43 = true := by kernel_rfl
theorem Z7h : cal Tryz.prog 44 = true := by kernel_rfl
theorem ZaE : cal Tryz.prog 46 = true := by kernel_rfl
theorem Z5i : cal Tryz.prog 52 = true := by kernel_rfl
theorem ZeD : cal Tryz.prog 70 = true := by kernel_rfl
theorem Z4M : cal Tryz.prog 86 = true := by kernel_rfl
theorem ZcI : cal Tryz.prog 95 = true := by kernel_rfl
theorem Z3Q : cal Tryz.prog 97 = true := by kernel_rfl
theorem Z8e : elN Tryz.prog 111 = some 3 := by kernel_rfl
theorem Z2o : Z6N Tryz.prog 111 = true := by kernel_rfl
theorem ZaO (t : Twn) (ht : t.ok) (years : Nat) (hy : years ≤ 12) (ba oa ca : Nat) (H : Zj) (R : Z9) [hR : MemRows (some ⟨ba, oa, none⟩) 2 (Zf t.rats) R] :
    FnV Tryz.prog 70 [t.v (t.sl (some ⟨ba, oa, none⟩) ca), .int .i64 years] H R (.int .i64 (ef t years t.now)) := by
  have hnst := Z3g ht
  refine Zq Tryz.func70 rfl Tryz.ntmps70 rfl ?_
  refine Z0 ?_
  refine Z1 [0, 1] rfl ?_
  refine bx rfl rfl rfl (fun b2 => ?_)
  refine sp rfl (PE.assign rfl) rfl ?_
  refine Z0 ?_
  refine Z1 [0, 1, 2] rfl ?_
  refine spL rfl rfl (lhA [_, _, _, _, _, _, _, _, _, _, _] Z0c rfl rfl rfl) rfl ?_
  refine cl rfl ZcI rfl rfl (Z4t t ht _ _ _) ?_
  rintro _ _ R1 ⟨oS, rfl, rfl, hR1⟩
  obtain rfl := hR1.symm
  obtain ⟨aS, cS, hoS, hfS⟩ := oS.freeze
  rw [hoS]
  refine Sy.heap (fun w h => hfS h) ?_
  rw [show (ZP (sts t)).length = t.nst from by rw [ZP, List.length_map, Z0s]]
  refine sp rfl (PE.assign rfl) rfl ?_
  refine Z0 ?_
  refine Z1 [0, 1, 2, 3] rfl ?_
  refine sp rfl (PE.move rfl) rfl ?_
  refine sp rfl (PE.lenSl Z2o rfl) rfl ?_
  refine mkS rfl Z2T zl3 rfl rfl (Nat.le_refl _) ⟨by omega, by omega⟩ rfl (fun b17 => ?_)
  rw [Z1k]
  refine sp rfl (PE.assign rfl) rfl ?_
  refine Z0 ?_
  refine Z0 ?_
  refine Z1 [0] rfl ?_
  refine sp rfl (PE.assign rfl) rfl ?_
  refine Z7 ?_
  refine Zn (ι := {x : Nat × Nat × List Int // x.1 ≤ years ∧ x.2.2.length = t.nst ∧ ∀ u, u.right t = true → x.2.2[ixr t u]? = some (ef t x.1 u)}) (fun x => ⟨[(1, .int .i64 years), (2, .pointer (some ⟨b2, 0, none⟩)), (5, .slice aS t.nst cS), (6, .slice (some ⟨x.1.2.1, 0, none⟩) t.nst t.nst), (7, .int .i64 x.1.1)], (x.1.2.1, cel 3 (ZT x.1.2.2)) :: (b2, cel 96 (twl t (t.sl (some ⟨ba, oa, none⟩) ca))) :: H, RowsA aS 3 (ZP (sts t)) :: R⟩) (fun x => years - x.1.1) ⟨(0, b17, List.replicate t.nst 0), by omega, by simp, fun u hu => Zck (ZR hu)⟩ ?_ (fun x => ?_)
  ·
   exact Z0i (by repeat' first | exact Sub.nil | apply Sub.cons | rfl | (simp [lk]; omega)) (fun _ h => h)
  ·
   obtain ⟨⟨n, bw, was⟩, hn, hwl, hwas⟩ := x
   dsimp only at hn hwl hwas ⊢
   refine Z0 ?_
   refine Z0 ?_
   refine Z1 [0, 1, 2] rfl ?_
   refine sp rfl (PE.move rfl) rfl ?_
   refine sp rfl (PE.move rfl) rfl ?_
   refine sp rfl (PE.lss rfl rfl) rfl ?_
   refine Z5 rfl (fun hc0 => ?_) (fun hc0 => ?_)
   ·
    try simp only [decide_eq_true_eq, decide_eq_false_iff_not, Bool.and_eq_true, Bool.or_eq_true, Bool.not_eq_true', Int.not_le, Int.not_lt] at hc0
    refine Z3 ?_
    refine Z0 ?_
    refine Z7 ?_
    refine Z0 ?_
    refine Z1 [0, 1, 2, 3] rfl ?_
    refine sp rfl (PE.move rfl) rfl ?_
    refine sp rfl (PE.lenSl Z2o rfl) rfl ?_
    refine mkS rfl Z2T zl3 rfl rfl (Nat.le_refl _) ⟨by omega, by omega⟩ rfl (fun b25 => ?_)
    rw [Z1k]
    refine sp rfl (PE.assign rfl) rfl ?_
    refine Z0 ?_
    refine Z0 ?_
    refine Z1 [0] rfl ?_
    refine sp rfl (PE.assign rfl) rfl ?_
    refine Z7 ?_
    refine Zn (ι := {x : Nat × List Int // x.1 ≤ t.nst ∧ x.2.length = t.nst ∧ ∀ u, u.right t = true → ixr t u < x.1 → x.2[ixr t u]? = some (ef t (n + 1) u)}) (fun x => ⟨[(1, .int .i64 years), (2, .pointer (some ⟨b2, 0, none⟩)), (5, .slice aS t.nst cS), (6, .slice (some ⟨bw, 0, none⟩) t.nst t.nst), (7, .int .i64 n), (8, .slice (some ⟨b25, 0, none⟩) t.nst t.nst), (9, .int .i64 x.1.1)], (b25, cel 3 (ZT (x.1.2))) :: (bw, cel 3 (ZT was)) :: (b2, cel 96 (twl t (t.sl (some ⟨ba, oa, none⟩) ca))) :: H, RowsA aS 3 (ZP (sts t)) :: R⟩) (fun x => t.nst - x.1.1) ⟨(0, List.replicate t.nst 0), by omega, by simp, fun u hu h => by simp at h⟩ ?_ (fun x => ?_)
    ·
     exact Z0i (by repeat' first | exact Sub.nil | apply Sub.cons | rfl | (simp [lk]; omega)) (fun _ h => h)
    ·
     obtain ⟨⟨i, nw⟩, hi, hnl, hnw⟩ := x
     dsimp only at hi hnl hnw ⊢
     refine Z0 ?_
     refine Z0 ?_
     refine Z1 [0, 1, 2, 3] rfl ?_
     refine sp rfl (PE.move rfl) rfl ?_
     refine sp rfl (PE.move rfl) rfl ?_
     refine sp rfl (PE.lenSl Z2o rfl) rfl ?_
     refine sp rfl (PE.lss rfl rfl) rfl ?_
     refine Z5 rfl (fun hc1 => ?_) (fun hc1 => ?_)
     ·
      try simp only [decide_eq_true_eq, decide_eq_false_iff_not, Bool.and_eq_true, Bool.or_eq_true, Bool.not_eq_true', Int.not_le, Int.not_lt] at hc1
      obtain ⟨s, hsi⟩ : ∃ s, (sts t)[i]? = some s := ⟨_, List.getElem?_eq_getElem (by rw [Z0s]; omega)⟩
      have hs := Zv ht (List.mem_of_getElem? hsi)
      have hix := Z59 hsi hs
      refine Zw (a := aS) (sz := 3) (rows := ZP (sts t)) (by intro h0; simp [ZP] at h0; simp [h0] at hsi) (fun bS fS he => ?_)
      subst he
      refine Z3 ?_
      refine Z0 ?_
      refine Z7 ?_
      refine Z0 ?_
      refine Z1 [0, 1, 2, 3] rfl ?_
      refine sp rfl (PE.move rfl) rfl ?_
      refine sp rfl (PE.move rfl) rfl ?_
      refine sp rfl (PE.indexAddr Z0N rfl rfl (by omega) (by omega)) rfl ?_
      refine Z2R (l' := ZT (nw.set i (-1))) rfl rfl rfl cn3 rfl rfl rfl (Z4B (by omega) (by omega : 0 + ((i : Nat) : Int).toNat * 1 = i)) (by rw [Zp]; show 0 + ((i : Nat) : Int).toNat * 1 + 1 ≤ _; omega) ?_
      refine Z0 ?_
      refine Ze [0, 0, 0, 6, 14, 31, 63] (.ld 0 (.tk 1 (.tk 2 (.tk 3 (.ld 4 (.big 5 (.tk 6 .done))))))) Zy (by kernel_rfl) ?_
      refine ld rfl rfl (lhA [_, _, _, _, _, _, _, _, _, _, _] Z0c rfl rfl rfl) rfl ?_
      refine tk rfl (PE.move rfl) rfl ?_
      refine tk rfl (PE.move rfl) rfl ?_
      refine tk rfl (PE.indexAddr Z8e rfl rfl (by omega) (by omega)) rfl ?_
      refine ld rfl rfl (lfA (row := Z67 s) Z0w (Z4v hsi) rfl) rfl ?_
      refine cl rfl ZaE rfl rfl (Z2s t ht s ba oa ca _ _) ?_
      rintro _ _ R1 ⟨oL, rfl, rfl, hR1⟩
      obtain rfl := hR1.symm
      obtain ⟨aL, cL, hoL, hfL⟩ := oL.freeze
      rw [hoL]
      refine Sy.heap (fun w h => hfL h) ?_
      rw [show (Zh (Z4P t s)).length = (Z2G t s).length from by rw [Zh, List.length_map, Z1m]]
      refine bg (fun w hs => ⟨trivial, trivial, trivial⟩) ?_
      refine tk rfl (PE.assign rfl) rfl ?_
      refine Z0 ?_
      refine Z1 [0] rfl ?_
      refine sp rfl (PE.assign rfl) rfl ?_
      refine Z7 ?_
      refine Zn (ι := {k : Nat // k ≤ (Z2G t s).length}) (fun k => ⟨[(1, .int .i64 years), (2, .pointer (some ⟨b2, 0, none⟩)), (5, .slice (some ⟨bS, fS, none⟩) t.nst cS), (6, .slice (some ⟨bw, 0, none⟩) t.nst t.nst), (7, .int .i64 n), (8, .slice (some ⟨b25, 0, none⟩) t.nst t.nst), (9, .int .i64 i), (10, .slice aL (Z2G t s).length cL), (11, .int .i64 k.1)], (b25, cel 3 (ZT (nw.set i (((Z2G t s).take k.1).foldl (efQ t (ef t n) s) (-1))))) :: (bw, cel 3 (ZT was)) :: (b2, cel 96 (twl t (t.sl (some ⟨ba, oa, none⟩) ca))) :: H, RowsA aL 1 (Zh (Z4P t s)) :: RowsA (some ⟨bS, fS, none⟩) 3 (ZP (sts t)) :: R⟩) (fun k => (Z2G t s).length - k.1) ⟨0, by omega⟩ ?_ (fun k => ?_)
      ·
       exact Z0i (by repeat' first | exact Sub.nil | apply Sub.cons | rfl | (simp [lk]; omega)) (fun _ h => h)
      ·
       obtain ⟨k, hk⟩ := k
       dsimp only
       refine Z0 ?_
       refine Z0 ?_
       refine Z1 [0, 1, 2, 3] rfl ?_
       refine sp rfl (PE.move rfl) rfl ?_
       refine sp rfl (PE.move rfl) rfl ?_
       refine sp rfl (PE.lenSl Z0p rfl) rfl ?_
       refine sp rfl (PE.lss rfl rfl) rfl ?_
       refine Z5 rfl (fun hc2 => ?_) (fun hc2 => ?_)
       ·
        try simp only [decide_eq_true_eq, decide_eq_false_iff_not, Bool.and_eq_true, Bool.or_eq_true, Bool.not_eq_true', Int.not_le, Int.not_lt] at hc2
        obtain ⟨rr, hrr⟩ : ∃ rr, (Z4P t s)[k]? = some rr := ⟨_, List.getElem?_eq_getElem (by rw [Z1m]; omega)⟩
        obtain ⟨q, hr0, hq, hcan, hcl⟩ := Z5z hrr
        have hqm := List.mem_of_getElem? hq
        have hng := ZB ht hs hqm hcan (bad := false) (by simp)
        have hef := Z7P (t := t) (g := ef t n) (B := n * 3000) (by omega) (Za6 ht n) s ((Z2G t s).take k) (fun q h => ht.rats q (Z9M (List.mem_of_mem_take h)).1) (-1) (by omega) (by omega)
        have hpr := Z9V (ht.rats q hqm).1 (ht.rats q hqm).2.1 (ht.rats q hqm).2.2.1 (ht.rats q hqm).2.2.2
        have hwb := Z3W (t := t) (Za6 ht n) s q
        have hrl := ZbM hr0 hq
        have hcl4 : (Z2G t s).length ≤ 4 := by have := Z1m t s; have := Z65 t s; have := ht.many; omega
        have hfs := ZcL (f := efQ t (ef t n) s) (b := -1) hcl
        generalize hv : List.foldl (efQ t (ef t n) s) (-1) ((Z2G t s).take k) = v at *
        refine Zw (a := aL) (sz := 1) (rows := Zh (Z4P t s)) (by intro h0; simp [Zh] at h0; simp [h0] at hrr) (fun bL fL he => ?_)
        subst he
        refine Z3 ?_
        refine Z0 ?_
        refine Z7 ?_
        refine Z0 ?_
        refine Ze [0, 0, 0, 0, 0, 24, 56, 0, 0, 384, 896, 2044, 4094, 8191, 16383, 32767] (.tk 0 (.ld 1 (.ld 2 (.tk 3 (.tk 4 (.tk 5 (.ld 6 (.tk 7 (.tk 8 (.tk 9 (.ld 10 (.big 11 (.big 12 (.tk 13 (.ld 14 (.tk 15 .done)))))))))))))))) Zy (by kernel_rfl) ?_
        refine tk rfl (PE.move rfl) rfl ?_
        refine ld rfl rfl (lhA [_, _, _, _, _, _, _, _, _, _, _] Z0c rfl rfl rfl) rfl ?_
        refine ld rfl rfl (lhA [_, _, _, _, _, _, _, _, _, _, _] Z0c rfl rfl rfl) rfl ?_
        refine tk rfl (PE.move rfl) rfl ?_
        refine tk rfl (PE.move rfl) rfl ?_
        refine tk rfl (PE.indexAddr Z8e rfl rfl (by omega) (by omega)) rfl ?_
        refine ld rfl rfl (lfA (row := Z67 s) Z0w (Z4v hsi) rfl) rfl ?_
        refine tk rfl (PE.move rfl) rfl ?_
        refine tk rfl (PE.move rfl) rfl ?_
        refine tk rfl (PE.indexAddr Z0N rfl rfl (by omega) (by omega)) rfl ?_
        refine ld rfl rfl (lf0 (x := .int .i64 rr) sc3 (by simp [Zh, hrr]; rfl) rfl) rfl ?_
        refine clV rfl Z4M rfl rfl (Z19 t ht s hs rr q false ba oa ca hr0 hq (Z1z hcan) _ _) ?_
        refine bg (fun w hs => ⟨trivial, trivial, trivial, (lhA [_, _, _, _, _, _, _, _, _, _, _] Z0c rfl rfl rfl) w hs, trivial⟩) ?_
        refine clV rfl Z3Q rfl rfl (Z0O t ht _ hng _ _ _) ?_
        refine bg (fun w hs => ⟨trivial, trivial⟩) ?_
        refine tk rfl (PE.indexAddr Z0N rfl rfl (by have := ZR hng; omega) (by have := ZR hng; omega)) rfl ?_
        refine ld rfl rfl (lh (v := .int .i64 (ef t n (t.next s q false))) sc3 rfl (by simp [ZT, hwas _ hng])) rfl ?_
        refine tk rfl (PE.assign rfl) rfl ?_
        refine Z0 ?_
        refine Z0 ?_
        refine Ze [0, 0, 3, 7, 15, 0, 32, 127] (.tk 0 (.tk 1 (.tk 2 (.tk 3 (.ld 4 (.tk 5 (.ld 6 (.tk 7 .done)))))))) Zy (by kernel_rfl) ?_
        refine tk rfl (PE.move rfl) rfl ?_
        refine tk rfl (PE.move rfl) rfl ?_
        refine tk rfl (PE.indexAddr Z8e rfl rfl (by omega) (by omega)) rfl ?_
        refine tk rfl (PE.fieldAddr Z2V rfl) rfl ?_
        refine ld rfl rfl (lf (x := .int .i64 s.dry) sc3 (Z4v hsi) rfl) rfl ?_
        refine tk rfl (PE.fieldAddr Z36 rfl) rfl ?_
        refine ld rfl rfl (lh sc3 rfl rfl) rfl ?_
        refine tk rfl (PE.lss rfl rfl) rfl ?_
        refine Z5 rfl (fun hc3 => ?_) (fun hc3 => ?_)
        ·
         try simp only [decide_eq_true_eq, decide_eq_false_iff_not, Bool.and_eq_true, Bool.or_eq_true, Bool.not_eq_true', Int.not_le, Int.not_lt] at hc3
         have hnb := ZB ht hs hqm hcan (bad := true) (fun _ => hc3)
         have hwo : Z02 t (ef t n) s q = min (ef t n (t.next s q false)) (ef t n (t.next s q true)) := by unfold Z02; rw [decide_eq_true hc3]; rfl
         refine Ze [0, 0, 0, 0, 0, 0, 48, 112, 0, 0, 768, 1792, 4088, 8188, 16382, 32766, 65535, 131071] (.tk 0 (.tk 1 (.ld 2 (.ld 3 (.tk 4 (.tk 5 (.tk 6 (.ld 7 (.tk 8 (.tk 9 (.tk 10 (.ld 11 (.big 12 (.big 13 (.tk 14 (.ld 15 (.tk 16 (.tk 17 .done)))))))))))))))))) Zy (by kernel_rfl) ?_
         refine tk rfl (PE.move rfl) rfl ?_
         refine tk rfl (PE.move rfl) rfl ?_
         refine ld rfl rfl (lhA [_, _, _, _, _, _, _, _, _, _, _] Z0c rfl rfl rfl) rfl ?_
         refine ld rfl rfl (lhA [_, _, _, _, _, _, _, _, _, _, _] Z0c rfl rfl rfl) rfl ?_
         refine tk rfl (PE.move rfl) rfl ?_
         refine tk rfl (PE.move rfl) rfl ?_
         refine tk rfl (PE.indexAddr Z8e rfl rfl (by omega) (by omega)) rfl ?_
         refine ld rfl rfl (lfA (row := Z67 s) Z0w (Z4v hsi) rfl) rfl ?_
         refine tk rfl (PE.move rfl) rfl ?_
         refine tk rfl (PE.move rfl) rfl ?_
         refine tk rfl (PE.indexAddr Z0N rfl rfl (by omega) (by omega)) rfl ?_
         refine ld rfl rfl (lf0 (x := .int .i64 rr) sc3 (by simp [Zh, hrr]; rfl) rfl) rfl ?_
         refine clV rfl Z4M rfl rfl (Z19 t ht s hs rr q true ba oa ca hr0 hq (Z1z hcan) _ _) ?_
         refine bg (fun w hs => ⟨trivial, trivial, trivial, (lhA [_, _, _, _, _, _, _, _, _, _, _] Z0c rfl rfl rfl) w hs, trivial⟩) ?_
         refine clV rfl Z3Q rfl rfl (Z0O t ht _ hnb _ _ _) ?_
         refine bg (fun w hs => ⟨trivial, trivial⟩) ?_
         refine tk rfl (PE.indexAddr Z0N rfl rfl (by have := ZR hnb; omega) (by have := ZR hnb; omega)) rfl ?_
         refine ld rfl rfl (lh (v := .int .i64 (ef t n (t.next s q true))) sc3 rfl (by simp [ZT, hwas _ hnb])) rfl ?_
         refine tk rfl (PE.min rfl rfl) rfl ?_
         refine tk rfl (PE.assign rfl) rfl ?_
         refine Z0 ?_
         refine Z1 [0, 1] rfl ?_
         rw [← hwo]
         refine sp rfl (PE.move rfl) rfl ?_
         refine sp rfl (PE.geq rfl rfl) rfl ?_
         refine Z5 rfl (fun hc4 => ?_) (fun hc4 => ?_)
         ·
          try simp only [decide_eq_true_eq, decide_eq_false_iff_not, Bool.and_eq_true, Bool.or_eq_true, Bool.not_eq_true', Int.not_le, Int.not_lt] at hc4
          have hfq : efQ t (ef t n) s v q = max v (Z02 t (ef t n) s q + q.sacks * q.price) := by unfold efQ; rw [hcan, decide_eq_false (by omega)]; rfl
          refine Ze [0, 0, 0, 0, 12, 28, 0, 0, 128, 0, 0, 1536, 3584, 8064, 16256, 32640, 0, 65536, 0, 0, 786432, 1835008, 4128768, 8323072, 16711680, 33554304, 67108800, 134217724, 268435455, 536870911] (.tk 0 (.tk 1 (.tk 2 (.tk 3 (.tk 4 (.ld 5 (.tk 6 (.tk 7 (.ld 8 (.tk 9 (.tk 10 (.tk 11 (.ld 12 (.tk 13 (.tk 14 (.ld 15 (.tk 16 (.ld 17 (.tk 18 (.tk 19 (.tk 20 (.ld 21 (.tk 22 (.tk 23 (.ld 24 (.tk 25 (.tk 26 (.tk 27 (.tk 28 (.big 29 .done)))))))))))))))))))))))))))))) Zy (by kernel_rfl) ?_
          refine tk rfl (PE.move rfl) rfl ?_
          refine tk rfl (PE.move rfl) rfl ?_
          refine tk rfl (PE.move rfl) rfl ?_
          refine tk rfl (PE.move rfl) rfl ?_
          refine tk rfl (PE.indexAddr Z0N rfl rfl (by omega) (by omega)) rfl ?_
          refine ld rfl rfl (lh (v := .int .i64 v) sc3 rfl (Z6V (i := i) (List.getElem?_set_self (by omega)) (by omega))) rfl ?_
          refine tk rfl (PE.move rfl) rfl ?_
          refine tk rfl (PE.fieldAddr Z0u rfl) rfl ?_
          refine ld rfl rfl (lh Z4q rfl rfl) rfl ?_
          refine tk rfl (PE.move rfl) rfl ?_
          refine tk rfl (PE.move rfl) rfl ?_
          refine tk rfl (PE.indexAddr Z0N rfl rfl (by omega) (by omega)) rfl ?_
          refine ld rfl rfl (lf0 (x := .int .i64 rr) sc3 (by simp [Zh, hrr]; rfl) rfl) rfl ?_
          refine tk rfl (PE.indexAddr Z6O rfl rfl (by omega) (by omega)) rfl ?_
          refine tk rfl (PE.fieldAddr Z1g rfl) rfl ?_
          refine ld rfl rfl (lf0 (x := .int .i64 q.sacks) sc3 (Z01 hq) rfl) rfl ?_
          refine tk rfl (PE.fieldAddr Z0u rfl) rfl ?_
          refine ld rfl rfl (lh Z4q rfl rfl) rfl ?_
          refine tk rfl (PE.move rfl) rfl ?_
          refine tk rfl (PE.move rfl) rfl ?_
          refine tk rfl (PE.indexAddr Z0N rfl rfl (by omega) (by omega)) rfl ?_
          refine ld rfl rfl (lf0 (x := .int .i64 rr) sc3 (by simp [Zh, hrr]; rfl) rfl) rfl ?_
          refine tk rfl (PE.indexAddr Z6O rfl rfl (by omega) (by omega)) rfl ?_
          refine tk rfl (PE.fieldAddr Z4g rfl) rfl ?_
          refine ld rfl rfl (lf (x := .int .i64 q.price) sc3 (Z01 hq) rfl) rfl ?_
          refine tk rfl (PE.mul rfl rfl (by omega)) rfl ?_
          refine tk rfl (PE.add rfl rfl (by omega)) rfl ?_
          refine tk rfl (PE.max rfl rfl) rfl ?_
          refine tk rfl (PE.indexAddr Z0N rfl rfl (by omega) (by omega)) rfl ?_
          refine Z2R (l' := ZT ((nw.set i v).set i (max v (Z02 t (ef t n) s q + q.sacks * q.price)))) rfl rfl rfl cn3 rfl rfl rfl (Z4B (by rw [List.length_set]; omega) (by omega : 0 + ((i : Nat) : Int).toNat * 1 = i)) (by rw [Zp]; rw [List.length_set]; show 0 + ((i : Nat) : Int).toNat * 1 + 1 ≤ _; omega) ?_
          rw [List.set_set, ← hfq]
          refine bg (fun w hs => ⟨trivial, trivial, trivial, trivial, trivial, trivial, trivial, trivial⟩) ?_
          refine Z1 [0, 1, 2] rfl ?_
          refine sp rfl (PE.move rfl) rfl ?_
          refine sp rfl (PE.add rfl rfl (by omega)) rfl ?_
          refine sp rfl (PE.assign rfl) rfl ?_
          first
            | exact Zb ⟨k + 1, by omega⟩ (by dsimp only; omega) (by repeat' first | exact Sub.nil | apply Sub.cons | rfl | (simp [lk]; omega)) (by dsimp only; rw [hfs, hfq]; exact drp)
            | exact Zb ⟨k + 1, by omega⟩ (by dsimp only; omega) (by repeat' first | exact Sub.nil | apply Sub.cons | rfl | (simp [lk]; omega)) (by dsimp only; rw [hfs]; exact drp)
         ·
          try simp only [decide_eq_true_eq, decide_eq_false_iff_not, Bool.and_eq_true, Bool.or_eq_true, Bool.not_eq_true', Int.not_le, Int.not_lt] at hc4
          have hfq : efQ t (ef t n) s v q = v := by unfold efQ; rw [hcan, decide_eq_true (by omega)]; rfl
          refine Z3 ?_
          refine Z1 [0, 1, 2] rfl ?_
          refine sp rfl (PE.move rfl) rfl ?_
          refine sp rfl (PE.add rfl rfl (by omega)) rfl ?_
          refine sp rfl (PE.assign rfl) rfl ?_
          first
            | exact Zb ⟨k + 1, by omega⟩ (by dsimp only; omega) (by repeat' first | exact Sub.nil | apply Sub.cons | rfl | (simp [lk]; omega)) (by dsimp only; rw [hfs, hfq]; exact drp)
            | exact Zb ⟨k + 1, by omega⟩ (by dsimp only; omega) (by repeat' first | exact Sub.nil | apply Sub.cons | rfl | (simp [lk]; omega)) (by dsimp only; rw [hfs]; exact drp)
        ·
         try simp only [decide_eq_true_eq, decide_eq_false_iff_not, Bool.and_eq_true, Bool.or_eq_true, Bool.not_eq_true', Int.not_le, Int.not_lt] at hc3
         have hwo : Z02 t (ef t n) s q = ef t n (t.next s q false) := by unfold Z02; rw [decide_eq_false (by omega)]; rfl
         refine Z3 ?_
         refine Z0 ?_
         refine Z1 [0, 1] rfl ?_
         rw [← hwo]
         refine sp rfl (PE.move rfl) rfl ?_
         refine sp rfl (PE.geq rfl rfl) rfl ?_
         refine Z5 rfl (fun hc4 => ?_) (fun hc4 => ?_)
         ·
          try simp only [decide_eq_true_eq, decide_eq_false_iff_not, Bool.and_eq_true, Bool.or_eq_true, Bool.not_eq_true', Int.not_le, Int.not_lt] at hc4
          have hfq : efQ t (ef t n) s v q = max v (Z02 t (ef t n) s q + q.sacks * q.price) := by unfold efQ; rw [hcan, decide_eq_false (by omega)]; rfl
          refine Ze [0, 0, 0, 0, 12, 28, 0, 0, 128, 0, 0, 1536, 3584, 8064, 16256, 32640, 0, 65536, 0, 0, 786432, 1835008, 4128768, 8323072, 16711680, 33554304, 67108800, 134217724, 268435455, 536870911] (.tk 0 (.tk 1 (.tk 2 (.tk 3 (.tk 4 (.ld 5 (.tk 6 (.tk 7 (.ld 8 (.tk 9 (.tk 10 (.tk 11 (.ld 12 (.tk 13 (.tk 14 (.ld 15 (.tk 16 (.ld 17 (.tk 18 (.tk 19 (.tk 20 (.ld 21 (.tk 22 (.tk 23 (.ld 24 (.tk 25 (.tk 26 (.tk 27 (.tk 28 (.big 29 .done)))))))))))))))))))))))))))))) Zy (by kernel_rfl) ?_
          refine tk rfl (PE.move rfl) rfl ?_
          refine tk rfl (PE.move rfl) rfl ?_
          refine tk rfl (PE.move rfl) rfl ?_
          refine tk rfl (PE.move rfl) rfl ?_
          refine tk rfl (PE.indexAddr Z0N rfl rfl (by omega) (by omega)) rfl ?_
          refine ld rfl rfl (lh (v := .int .i64 v) sc3 rfl (Z6V (i := i) (List.getElem?_set_self (by omega)) (by omega))) rfl ?_
          refine tk rfl (PE.move rfl) rfl ?_
          refine tk rfl (PE.fieldAddr Z0u rfl) rfl ?_
          refine ld rfl rfl (lh Z4q rfl rfl) rfl ?_
          refine tk rfl (PE.move rfl) rfl ?_
          refine tk rfl (PE.move rfl) rfl ?_
          refine tk rfl (PE.indexAddr Z0N rfl rfl (by omega) (by omega)) rfl ?_
          refine ld rfl rfl (lf0 (x := .int .i64 rr) sc3 (by simp [Zh, hrr]; rfl) rfl) rfl ?_
          refine tk rfl (PE.indexAddr Z6O rfl rfl (by omega) (by omega)) rfl ?_
          refine tk rfl (PE.fieldAddr Z1g rfl) rfl ?_
          refine ld rfl rfl (lf0 (x := .int .i64 q.sacks) sc3 (Z01 hq) rfl) rfl ?_
          refine tk rfl (PE.fieldAddr Z0u rfl) rfl ?_
          refine ld rfl rfl (lh Z4q rfl rfl) rfl ?_
          refine tk rfl (PE.move rfl) rfl ?_
          refine tk rfl (PE.move rfl) rfl ?_
          refine tk rfl (PE.indexAddr Z0N rfl rfl (by omega) (by omega)) rfl ?_
          refine ld rfl rfl (lf0 (x := .int .i64 rr) sc3 (by simp [Zh, hrr]; rfl) rfl) rfl ?_
          refine tk rfl (PE.indexAddr Z6O rfl rfl (by omega) (by omega)) rfl ?_
          refine tk rfl (PE.fieldAddr Z4g rfl) rfl ?_
          refine ld rfl rfl (lf (x := .int .i64 q.price) sc3 (Z01 hq) rfl) rfl ?_
          refine tk rfl (PE.mul rfl rfl (by omega)) rfl ?_
          refine tk rfl (PE.add rfl rfl (by omega)) rfl ?_
          refine tk rfl (PE.max rfl rfl) rfl ?_
          refine tk rfl (PE.indexAddr Z0N rfl rfl (by omega) (by omega)) rfl ?_
          refine Z2R (l' := ZT ((nw.set i v).set i (max v (Z02 t (ef t n) s q + q.sacks * q.price)))) rfl rfl rfl cn3 rfl rfl rfl (Z4B (by rw [List.length_set]; omega) (by omega : 0 + ((i : Nat) : Int).toNat * 1 = i)) (by rw [Zp]; rw [List.length_set]; show 0 + ((i : Nat) : Int).toNat * 1 + 1 ≤ _; omega) ?_
          rw [List.set_set, ← hfq]
          refine bg (fun w hs => ⟨trivial, trivial, trivial, trivial, trivial, trivial, trivial, trivial⟩) ?_
          refine Z1 [0, 1, 2] rfl ?_
          refine sp rfl (PE.move rfl) rfl ?_
          refine sp rfl (PE.add rfl rfl (by omega)) rfl ?_
          refine sp rfl (PE.assign rfl) rfl ?_
          first
            | exact Zb ⟨k + 1, by omega⟩ (by dsimp only; omega) (by repeat' first | exact Sub.nil | apply Sub.cons | rfl | (simp [lk]; omega)) (by dsimp only; rw [hfs, hfq]; exact drp)
            | exact Zb ⟨k + 1, by omega⟩ (by dsimp only; omega) (by repeat' first | exact Sub.nil | apply Sub.cons | rfl | (simp [lk]; omega)) (by dsimp only; rw [hfs]; exact drp)
         ·
          try simp only [decide_eq_true_eq, decide_eq_false_iff_not, Bool.and_eq_true, Bool.or_eq_true, Bool.not_eq_true', Int.not_le, Int.not_lt] at hc4
          have hfq : efQ t (ef t n) s v q = v := by unfold efQ; rw [hcan, decide_eq_true (by omega)]; rfl
          refine Z3 ?_
          refine Z1 [0, 1, 2] rfl ?_
          refine sp rfl (PE.move rfl) rfl ?_
          refine sp rfl (PE.add rfl rfl (by omega)) rfl ?_
          refine sp rfl (PE.assign rfl) rfl ?_
          first
            | exact Zb ⟨k + 1, by omega⟩ (by dsimp only; omega) (by repeat' first | exact Sub.nil | apply Sub.cons | rfl | (simp [lk]; omega)) (by dsimp only; rw [hfs, hfq]; exact drp)
            | exact Zb ⟨k + 1, by omega⟩ (by dsimp only; omega) (by repeat' first | exact Sub.nil | apply Sub.cons | rfl | (simp [lk]; omega)) (by dsimp only; rw [hfs]; exact drp)
       ·
        try simp only [decide_eq_true_eq, decide_eq_false_iff_not, Bool.and_eq_true, Bool.or_eq_true, Bool.not_eq_true', Int.not_le, Int.not_lt] at hc2
        obtain rfl : k = (Z2G t s).length := by omega
        rw [List.take_length, ← ZbY]
        refine Zk ?_
        refine Zl ?_
        refine Zl ?_
        refine ZH ?_
        refine Z1 [0, 1, 2] rfl ?_
        refine sp rfl (PE.move rfl) rfl ?_
        refine sp rfl (PE.add rfl rfl (by omega)) rfl ?_
        refine sp rfl (PE.assign rfl) rfl ?_
        exact Zb ⟨(i + 1, nw.set i (ef t (n + 1) s)), by omega, by simp [hnl], fun u hu h => by
          rcases Nat.lt_or_ge (ixr t u) i with h1 | h1
          · rw [List.getElem?_set_ne (by omega)]; exact hnw u hu h1
          · obtain rfl := ZS hs hu (by dsimp only at h; omega)
            rw [hix, List.getElem?_set_self (by omega)]⟩ (by dsimp only; omega) (by repeat' first | exact Sub.nil | apply Sub.cons | rfl | (simp [lk]; omega)) (fun w h => h.ftail)
     ·
      try simp only [decide_eq_true_eq, decide_eq_false_iff_not, Bool.and_eq_true, Bool.or_eq_true, Bool.not_eq_true', Int.not_le, Int.not_lt] at hc1
      obtain rfl : i = t.nst := by omega
      refine Zk ?_
      refine Zl ?_
      refine Zl ?_
      refine ZH ?_
      refine Z1 [0, 1] rfl ?_
      refine sp rfl (PE.move rfl) rfl ?_
      refine sp rfl (PE.assign rfl) rfl ?_
      refine Z1 [0, 1, 2] rfl ?_
      refine sp rfl (PE.move rfl) rfl ?_
      refine sp rfl (PE.add rfl rfl (by omega)) rfl ?_
      refine sp rfl (PE.assign rfl) rfl ?_
      exact Zb ⟨(n + 1, b25, nw), by omega, hnl, fun u hu => hnw u hu (ZR hu)⟩ (by dsimp only; omega) (by repeat' first | exact Sub.nil | apply Sub.cons | rfl | (simp [lk]; omega)) (fun w h => h.del bw)
   ·
    try simp only [decide_eq_true_eq, decide_eq_false_iff_not, Bool.and_eq_true, Bool.or_eq_true, Bool.not_eq_true', Int.not_le, Int.not_lt] at hc0
    obtain rfl : n = years := by omega
    refine Zk ?_
    refine Zl ?_
    refine Zl ?_
    refine ZH ?_
    refine Z0 ?_
    refine Z1 [0, 1, 2, 3, 4, 5, 6, 7] rfl ?_
    refine sp rfl (PE.move rfl) rfl ?_
    refine spL rfl rfl (lhA [_, _, _, _, _, _, _, _, _, _, _] Z0c rfl rfl rfl) rfl ?_
    refine sp rfl (PE.fieldAddr Z1G rfl) rfl ?_
    refine spL rfl rfl (lhA [_, _, _] Z0w rfl rfl rfl) rfl ?_
    refine clV rfl Z3Q rfl rfl (Z0O t ht t.now ht.now _ _ _) ?_
    refine sp rfl (PE.indexAddr Z0N rfl rfl (by have := ZR ht.now; omega) (by have := ZR ht.now; omega)) rfl ?_
    refine spL rfl rfl (lh (v := .int .i64 (ef t n t.now)) sc3 rfl (by simp [ZT, hwas _ ht.now])) rfl ?_
    refine sp rfl (PE.assign rfl) rfl ?_
    refine Z4 ?_
    exact Z2 (vs := [_]) rfl (.cons (RV.tmp rfl) .nil) rfl ⟨rfl, rfl, rfl⟩ drp
def Z2i (t : Twn) (years : Int) : Int × Int := bif decide (t.check ≠ 0) then (0, t.check) else bif !(inb years 0 12) then (0, 3) else bif decide (ef t years.toNat t.now < 0) then (0, 6) else (ef t years.toNat t.now, 0)
theorem Zdi {t : Twn} {years : Int} {v : Value} (h : (t.check ≠ 0 ∧ v = .tuple #[.int .i64 0, .int .i64 t.check]) ∨ (t.check = 0 ∧ inb years 0 12 = false ∧ v = .tuple #[.int .i64 0, .int .i64 3]) ∨ (t.check = 0 ∧ inb years 0 12 = true ∧ v = Z3T t years)) :
    v = .tuple #[.int .i64 (Z2i t years).1, .int .i64 (Z2i t years).2] := by
  rcases h with ⟨h, rfl⟩ | ⟨h, h2, rfl⟩ | ⟨h, h2, rfl⟩
  · simp [Z2i, h]
  · unfold Z2i; rw [h2]; simp [h]
  · have hb := (Za6 (Zi h).1 years.toNat t.now).1
    unfold Z2i Z3T
    rw [h2]
    by_cases h3 : ef t years.toNat t.now = -1
    · simp [h, h3]
    · simp [h, h3]
      rw [decide_eq_false (by omega)]
      simp
theorem Z6H (t : Twn) (a : Option Addr) (c : Nat) (hl : t.rats.length ≤ 9223372036854775807) (years : Int) (H : Zj) (R : Z9) [hR : MemRows a 2 (Zf t.rats) R] :
    Fn Tryz.prog 22 [t.v (t.sl a c), .int .i64 years] H R (fun v H' R' => v = .bool true ∧ H' = H ∧ R' = R) := by
  refine Zq Tryz.func22 rfl Tryz.ntmps22 rfl ?_
  refine Z0 ?_
  refine Z1 [0, 1] rfl ?_
  refine bx rfl rfl rfl (fun b2 => ?_)
  refine sp rfl (PE.assign rfl) rfl ?_
  refine Z0 ?_
  refine Z0 ?_
  refine Z1 [0, 1] rfl ?_
  refine spL rfl rfl (lhA [_, _, _, _, _, _, _, _, _, _, _] Zd rfl rfl rfl) rfl ?_
  refine clV rfl Zax rfl rfl (Z5B t a c (by omega) _ _) ?_
  refine Z5 rfl (fun hc0 => ?_) (fun hc0 => ?_)
  ·
   try simp only [decide_eq_true_eq, decide_eq_false_iff_not, Bool.and_eq_true, Bool.or_eq_true, Bool.not_eq_true', Int.not_le, Int.not_lt] at hc0
   refine Z0 ?_
   refine Z1 [0, 1] rfl ?_
   refine clV rfl Z1f rfl rfl (Z00 _ _) ?_
   refine sp rfl (PE.assign rfl) rfl ?_
   refine Z4 ?_
   exact Z2 (vs := [_]) rfl (.cons (RV.tmp rfl) .nil) rfl ⟨rfl, rfl, rfl⟩ drp
  ·
   try simp only [decide_eq_true_eq, decide_eq_false_iff_not, Bool.and_eq_true, Bool.or_eq_true, Bool.not_eq_true', Int.not_le, Int.not_lt] at hc0
   refine Z3 ?_
   refine Z0 ?_
   refine Z2q (ι := (Nat × Nat × Option Addr × Nat) × Nat × Nat) (fun z => ⟨[(1, .int .i64 years), (2, .pointer (some ⟨b2, 0, none⟩)), (5, .pointer (some ⟨z.2.1, 0, none⟩)), (6, .pointer (some ⟨z.2.2, 0, none⟩))],
     (z.2.1, cel 27 (twl t (t.sl (some ⟨z.1.1, 0, none⟩) z.1.2.1))) :: (z.2.2, cel 96 (twl t (t.sl z.1.2.2.1 z.1.2.2.2))) :: (b2, cel 27 (twl t (t.sl a c))) :: H, RowsA z.1.2.2.1 2 (Zf t.rats) :: RowsA (some ⟨z.1.1, 0, none⟩) 2 (Zf t.rats) :: R⟩) ?_ ?_
   ·
    refine Ze [0, 1, 0, 7, 0, 0, 63, 127] (.ld 0 (.ld 2 (.any (.alt 1 (.any (.alt 3 (.any (.alt 4 (.big 5 (.big 6 (.big 7 .done))) (.alt 5 (.big 4 (.big 6 (.big 7 .done))) .stop))) (.alt 4 (.any (.alt 3 (.big 5 (.big 6 (.big 7 .done))) (.alt 5 (.big 3 (.big 6 (.big 7 .done))) .stop))) (.alt 5 (.any (.alt 3 (.big 4 (.big 6 (.big 7 .done))) (.alt 4 (.big 3 (.big 6 (.big 7 .done))) .stop))) .stop)))) (.alt 4 (.any (.alt 1 (.any (.alt 3 (.big 5 (.big 6 (.big 7 .done))) (.alt 5 (.big 3 (.big 6 (.big 7 .done))) .stop))) (.alt 5 (.big 1 (.big 3 (.big 6 (.big 7 .done)))) .stop))) (.alt 5 (.any (.alt 1 (.any (.alt 3 (.big 4 (.big 6 (.big 7 .done))) (.alt 4 (.big 3 (.big 6 (.big 7 .done))) .stop))) (.alt 4 (.big 1 (.big 3 (.big 6 (.big 7 .done)))) .stop))) .stop)))))) Zy (by kernel_rfl) ?_
    refine ld rfl rfl (lhA [_, _, _, _, _, _, _, _, _, _, _] Zd rfl rfl rfl) rfl ?_
    refine ld rfl rfl (lhA [_, _, _, _, _, _, _, _, _, _, _] Zd rfl rfl rfl) rfl ?_
    refine Z8 ?_ ?_
    ·
     refine cl rfl Z0R rfl rfl (Z0Q t a c (by omega) _ _) ?_
     rintro _ _ _ ⟨bo, co, rfl, rfl, rfl⟩
     refine bg (fun w hs => ⟨(lhA [_, _, _, _, _, _, _, _, _, _, _] Zd rfl rfl rfl) w hs, trivial, trivial⟩) ?_
     refine Z8 ?_ ?_
     ·
      refine cl rfl ZA rfl rfl (Za t a c (by omega) _ _) ?_
      rintro _ _ _ ⟨ax, cx, rfl, rfl, rfl⟩
      refine bg (fun w hs => ⟨trivial, trivial⟩) ?_
      refine Z8 ?_ ?_
      ·
       refine alc rfl Z04 rfl (fun b5 => ?_)
       refine bg (fun w hs => trivial) ?_
       refine alc rfl Z0m rfl (fun b6 => ?_)
       refine bg (fun w hs => trivial) ?_
       refine sto rfl rfl rfl ZO rfl rfl rfl rfl ?_
       refine bg (fun w hs => trivial) ?_
       refine sto rfl rfl rfl ZU rfl rfl rfl rfl ?_
       refine bg (fun w hs => trivial) ?_
       exact Z6 ((bo, co, ax, cx), b5, b6) (by repeat' first | exact Sub.nil | apply Sub.cons | rfl | (simp [lk]; omega)) (fun _ h => St.sub (((h.pull b2).pull b6).pull b5))
      refine Z8 ?_ ?_
      ·
       refine alc rfl Z0m rfl (fun b6 => ?_)
       refine bg (fun w hs => trivial) ?_
       refine alc rfl Z04 rfl (fun b5 => ?_)
       refine bg (fun w hs => trivial) ?_
       refine sto rfl rfl rfl ZO rfl rfl rfl rfl ?_
       refine bg (fun w hs => trivial) ?_
       refine sto rfl rfl rfl ZU rfl rfl rfl rfl ?_
       refine bg (fun w hs => trivial) ?_
       exact Z6 ((bo, co, ax, cx), b5, b6) (by repeat' first | exact Sub.nil | apply Sub.cons | rfl | (simp [lk]; omega)) (fun _ h => St.sub (((h.pull b2).pull b6).pull b5))
      exact Zc
     refine Z8 ?_ ?_
     ·
      refine alc rfl Z04 rfl (fun b5 => ?_)
      refine bg (fun w hs => ⟨(lhA [_, _, _, _, _, _, _, _, _, _, _] Zd rfl rfl rfl) w hs, trivial⟩) ?_
      refine Z8 ?_ ?_
      ·
       refine cl rfl ZA rfl rfl (Za t a c (by omega) _ _) ?_
       rintro _ _ _ ⟨ax, cx, rfl, rfl, rfl⟩
       refine bg (fun w hs => ⟨trivial, trivial⟩) ?_
       refine alc rfl Z0m rfl (fun b6 => ?_)
       refine bg (fun w hs => trivial) ?_
       refine sto rfl rfl rfl ZO rfl rfl rfl rfl ?_
       refine bg (fun w hs => trivial) ?_
       refine sto rfl rfl rfl ZU rfl rfl rfl rfl ?_
       refine bg (fun w hs => trivial) ?_
       exact Z6 ((bo, co, ax, cx), b5, b6) (by repeat' first | exact Sub.nil | apply Sub.cons | rfl | (simp [lk]; omega)) (fun _ h => St.sub (((h.pull b2).pull b6).pull b5))
      refine Z8 ?_ ?_
      ·
       refine alc rfl Z0m rfl (fun b6 => ?_)
       refine bg (fun w hs => ⟨(lhA [_, _, _, _, _, _, _, _, _, _, _] Zd rfl rfl rfl) w hs, trivial⟩) ?_
       refine cl rfl ZA rfl rfl (Za t a c (by omega) _ _) ?_
       rintro _ _ _ ⟨ax, cx, rfl, rfl, rfl⟩
       refine bg (fun w hs => ⟨trivial, trivial⟩) ?_
       refine sto rfl rfl rfl ZO rfl rfl rfl rfl ?_
       refine bg (fun w hs => trivial) ?_
       refine sto rfl rfl rfl ZU rfl rfl rfl rfl ?_
       refine bg (fun w hs => trivial) ?_
       exact Z6 ((bo, co, ax, cx), b5, b6) (by repeat' first | exact Sub.nil | apply Sub.cons | rfl | (simp [lk]; omega)) (fun _ h => St.sub (((h.pull b2).pull b6).pull b5))
      exact Zc
     refine Z8 ?_ ?_
     ·
      refine alc rfl Z0m rfl (fun b6 => ?_)
      refine bg (fun w hs => ⟨(lhA [_, _, _, _, _, _, _, _, _, _, _] Zd rfl rfl rfl) w hs, trivial⟩) ?_
      refine Z8 ?_ ?_
      ·
       refine cl rfl ZA rfl rfl (Za t a c (by omega) _ _) ?_
       rintro _ _ _ ⟨ax, cx, rfl, rfl, rfl⟩
       refine bg (fun w hs => ⟨trivial, trivial⟩) ?_
       refine alc rfl Z04 rfl (fun b5 => ?_)
       refine bg (fun w hs => trivial) ?_
       refine sto rfl rfl rfl ZO rfl rfl rfl rfl ?_
       refine bg (fun w hs => trivial) ?_
       refine sto rfl rfl rfl ZU rfl rfl rfl rfl ?_
       refine bg (fun w hs => trivial) ?_
       exact Z6 ((bo, co, ax, cx), b5, b6) (by repeat' first | exact Sub.nil | apply Sub.cons | rfl | (simp [lk]; omega)) (fun _ h => St.sub (((h.pull b2).pull b6).pull b5))
      refine Z8 ?_ ?_
      ·
       refine alc rfl Z04 rfl (fun b5 => ?_)
       refine bg (fun w hs => ⟨(lhA [_, _, _, _, _, _, _, _, _, _, _] Zd rfl rfl rfl) w hs, trivial⟩) ?_
       refine cl rfl ZA rfl rfl (Za t a c (by omega) _ _) ?_
       rintro _ _ _ ⟨ax, cx, rfl, rfl, rfl⟩
       refine bg (fun w hs => ⟨trivial, trivial⟩) ?_
       refine sto rfl rfl rfl ZO rfl rfl rfl rfl ?_
       refine bg (fun w hs => trivial) ?_
       refine sto rfl rfl rfl ZU rfl rfl rfl rfl ?_
       refine bg (fun w hs => trivial) ?_
       exact Z6 ((bo, co, ax, cx), b5, b6) (by repeat' first | exact Sub.nil | apply Sub.cons | rfl | (simp [lk]; omega)) (fun _ h => St.sub (((h.pull b2).pull b6).pull b5))
      exact Zc
     exact Zc
    refine Z8 ?_ ?_
    ·
     refine alc rfl Z04 rfl (fun b5 => ?_)
     refine bg (fun w hs => ⟨(lhA [_, _, _, _, _, _, _, _, _, _, _] Zd rfl rfl rfl) w hs, (lhA [_, _, _, _, _, _, _, _, _, _, _] Zd rfl rfl rfl) w hs, trivial⟩) ?_
     refine Z8 ?_ ?_
     ·
      refine cl rfl Z0R rfl rfl (Z0Q t a c (by omega) _ _) ?_
      rintro _ _ _ ⟨bo, co, rfl, rfl, rfl⟩
      refine bg (fun w hs => ⟨(lhA [_, _, _, _, _, _, _, _, _, _, _] Zd rfl rfl rfl) w hs, trivial, trivial⟩) ?_
      refine Z8 ?_ ?_
      ·
       refine cl rfl ZA rfl rfl (Za t a c (by omega) _ _) ?_
       rintro _ _ _ ⟨ax, cx, rfl, rfl, rfl⟩
       refine bg (fun w hs => ⟨trivial, trivial⟩) ?_
       refine alc rfl Z0m rfl (fun b6 => ?_)
       refine bg (fun w hs => trivial) ?_
       refine sto rfl rfl rfl ZO rfl rfl rfl rfl ?_
       refine bg (fun w hs => trivial) ?_
       refine sto rfl rfl rfl ZU rfl rfl rfl rfl ?_
       refine bg (fun w hs => trivial) ?_
       exact Z6 ((bo, co, ax, cx), b5, b6) (by repeat' first | exact Sub.nil | apply Sub.cons | rfl | (simp [lk]; omega)) (fun _ h => St.sub (((h.pull b2).pull b6).pull b5))
      refine Z8 ?_ ?_
      ·
       refine alc rfl Z0m rfl (fun b6 => ?_)
       refine bg (fun w hs => ⟨(lhA [_, _, _, _, _, _, _, _, _, _, _] Zd rfl rfl rfl) w hs, trivial⟩) ?_
       refine cl rfl ZA rfl rfl (Za t a c (by omega) _ _) ?_
       rintro _ _ _ ⟨ax, cx, rfl, rfl, rfl⟩
       refine bg (fun w hs => ⟨trivial, trivial⟩) ?_
       refine sto rfl rfl rfl ZO rfl rfl rfl rfl ?_
       refine bg (fun w hs => trivial) ?_
       refine sto rfl rfl rfl ZU rfl rfl rfl rfl ?_
       refine bg (fun w hs => trivial) ?_
       exact Z6 ((bo, co, ax, cx), b5, b6) (by repeat' first | exact Sub.nil | apply Sub.cons | rfl | (simp [lk]; omega)) (fun _ h => St.sub (((h.pull b2).pull b6).pull b5))
      exact Zc
     refine Z8 ?_ ?_
     ·
      refine alc rfl Z0m rfl (fun b6 => ?_)
      refine bg (fun w hs => ⟨(lhA [_, _, _, _, _, _, _, _, _, _, _] Zd rfl rfl rfl) w hs, (lhA [_, _, _, _, _, _, _, _, _, _, _] Zd rfl rfl rfl) w hs, trivial⟩) ?_
      refine cl rfl Z0R rfl rfl (Z0Q t a c (by omega) _ _) ?_
      rintro _ _ _ ⟨bo, co, rfl, rfl, rfl⟩
      refine bg (fun w hs => ⟨(lhA [_, _, _, _, _, _, _, _, _, _, _] Zd rfl rfl rfl) w hs, trivial, trivial⟩) ?_
      refine cl rfl ZA rfl rfl (Za t a c (by omega) _ _) ?_
      rintro _ _ _ ⟨ax, cx, rfl, rfl, rfl⟩
      refine bg (fun w hs => ⟨trivial, trivial⟩) ?_
      refine sto rfl rfl rfl ZO rfl rfl rfl rfl ?_
      refine bg (fun w hs => trivial) ?_
      refine sto rfl rfl rfl ZU rfl rfl rfl rfl ?_
      refine bg (fun w hs => trivial) ?_
      exact Z6 ((bo, co, ax, cx), b5, b6) (by repeat' first | exact Sub.nil | apply Sub.cons | rfl | (simp [lk]; omega)) (fun _ h => St.sub (((h.pull b2).pull b6).pull b5))
     exact Zc
    refine Z8 ?_ ?_
    ·
     refine alc rfl Z0m rfl (fun b6 => ?_)
     refine bg (fun w hs => ⟨(lhA [_, _, _, _, _, _, _, _, _, _, _] Zd rfl rfl rfl) w hs, (lhA [_, _, _, _, _, _, _, _, _, _, _] Zd rfl rfl rfl) w hs, trivial⟩) ?_
     refine Z8 ?_ ?_
     ·
      refine cl rfl Z0R rfl rfl (Z0Q t a c (by omega) _ _) ?_
      rintro _ _ _ ⟨bo, co, rfl, rfl, rfl⟩
      refine bg (fun w hs => ⟨(lhA [_, _, _, _, _, _, _, _, _, _, _] Zd rfl rfl rfl) w hs, trivial, trivial⟩) ?_
      refine Z8 ?_ ?_
      ·
       refine cl rfl ZA rfl rfl (Za t a c (by omega) _ _) ?_
       rintro _ _ _ ⟨ax, cx, rfl, rfl, rfl⟩
       refine bg (fun w hs => ⟨trivial, trivial⟩) ?_
       refine alc rfl Z04 rfl (fun b5 => ?_)
       refine bg (fun w hs => trivial) ?_
       refine sto rfl rfl rfl ZO rfl rfl rfl rfl ?_
       refine bg (fun w hs => trivial) ?_
       refine sto rfl rfl rfl ZU rfl rfl rfl rfl ?_
       refine bg (fun w hs => trivial) ?_
       exact Z6 ((bo, co, ax, cx), b5, b6) (by repeat' first | exact Sub.nil | apply Sub.cons | rfl | (simp [lk]; omega)) (fun _ h => St.sub (((h.pull b2).pull b6).pull b5))
      refine Z8 ?_ ?_
      ·
       refine alc rfl Z04 rfl (fun b5 => ?_)
       refine bg (fun w hs => ⟨(lhA [_, _, _, _, _, _, _, _, _, _, _] Zd rfl rfl rfl) w hs, trivial⟩) ?_
       refine cl rfl ZA rfl rfl (Za t a c (by omega) _ _) ?_
       rintro _ _ _ ⟨ax, cx, rfl, rfl, rfl⟩
       refine bg (fun w hs => ⟨trivial, trivial⟩) ?_
       refine sto rfl rfl rfl ZO rfl rfl rfl rfl ?_
       refine bg (fun w hs => trivial) ?_
       refine sto rfl rfl rfl ZU rfl rfl rfl rfl ?_
       refine bg (fun w hs => trivial) ?_
       exact Z6 ((bo, co, ax, cx), b5, b6) (by repeat' first | exact Sub.nil | apply Sub.cons | rfl | (simp [lk]; omega)) (fun _ h => St.sub (((h.pull b2).pull b6).pull b5))
      exact Zc
     refine Z8 ?_ ?_
     ·
      refine alc rfl Z04 rfl (fun b5 => ?_)
      refine bg (fun w hs => ⟨(lhA [_, _, _, _, _, _, _, _, _, _, _] Zd rfl rfl rfl) w hs, (lhA [_, _, _, _, _, _, _, _, _, _, _] Zd rfl rfl rfl) w hs, trivial⟩) ?_
      refine cl rfl Z0R rfl rfl (Z0Q t a c (by omega) _ _) ?_
      rintro _ _ _ ⟨bo, co, rfl, rfl, rfl⟩
      refine bg (fun w hs => ⟨(lhA [_, _, _, _, _, _, _, _, _, _, _] Zd rfl rfl rfl) w hs, trivial, trivial⟩) ?_
      refine cl rfl ZA rfl rfl (Za t a c (by omega) _ _) ?_
      rintro _ _ _ ⟨ax, cx, rfl, rfl, rfl⟩
      refine bg (fun w hs => ⟨trivial, trivial⟩) ?_
      refine sto rfl rfl rfl ZO rfl rfl rfl rfl ?_
      refine bg (fun w hs => trivial) ?_
      refine sto rfl rfl rfl ZU rfl rfl rfl rfl ?_
      refine bg (fun w hs => trivial) ?_
      exact Z6 ((bo, co, ax, cx), b5, b6) (by repeat' first | exact Sub.nil | apply Sub.cons | rfl | (simp [lk]; omega)) (fun _ h => St.sub (((h.pull b2).pull b6).pull b5))
     exact Zc
    exact Zc
   ·
    rintro ⟨⟨bo, co, ax, cx⟩, b5, b6⟩
    dsimp only
    refine Z0 ?_
    refine Z1 [0, 1, 2] rfl ?_
    refine spL rfl rfl (lhA [_, _, _, _, _, _, _, _, _, _, _] Z0c rfl rfl rfl) rfl ?_
    refine clV rfl Z7h rfl rfl (Z1X t ax cx (by omega) _ _) ?_
    refine sp rfl (PE.assign rfl) rfl ?_
    refine Z0 ?_
    refine Z1 [0] rfl ?_
    refine sp rfl (PE.assign rfl) rfl ?_
    refine Z0 ?_
    refine Z0 ?_
    refine Z1 [0, 1] rfl ?_
    refine sp rfl (PE.move rfl) rfl ?_
    refine sp rfl (PE.eql rfl rfl) rfl ?_
    refine Z0I (ι := Unit) (fun _ => ⟨[(1, .int .i64 years), (2, .pointer (some ⟨b2, 0, none⟩)), (5, .pointer (some ⟨b5, 0, none⟩)), (7, .int .i64 (Z2i t years).2), (8, .int .i64 (Z2i t years).1)], (b5, cel 27 (twl t (t.sl (some ⟨bo, 0, none⟩) co))) :: (b6, cel 96 (twl t (t.sl ax cx))) :: (b2, cel 27 (twl t (t.sl a c))) :: H, RowsA ax 2 (Zf t.rats) :: RowsA (some ⟨bo, 0, none⟩) 2 (Zf t.rats) :: R⟩) ?_ ?_
    ·
     refine Z5 rfl (fun hc1 => ?_) (fun hc1 => ?_)
     ·
      try simp only [decide_eq_true_eq, decide_eq_false_iff_not, Bool.and_eq_true, Bool.or_eq_true, Bool.not_eq_true', Int.not_le, Int.not_lt] at hc1
      have hck : t.check = 0 := hc1
      have hok := (Zi hck).1
      refine Z0 ?_
      refine Z1 [0] rfl ?_
      refine sp rfl (PE.assign rfl) rfl ?_
      refine Z0 ?_
      refine Z1 [0, 1, 2, 3, 4, 5] rfl ?_
      refine sp rfl (PE.move rfl) rfl ?_
      refine sp rfl (PE.geq rfl rfl) rfl ?_
      refine sp rfl (PE.move rfl) rfl ?_
      refine Zg (t := 24) rfl (fun g24 => ?_) (fun g24 => ?_)
      ·
       try simp only [decide_eq_true_eq, decide_eq_false_iff_not, Bool.and_eq_true, Bool.or_eq_true, Bool.not_eq_true', Int.not_le, Int.not_lt] at g24
       refine spG rfl rfl rfl rfl (PE.move rfl) rfl ?_
       refine spG rfl rfl rfl rfl (PE.leq rfl rfl) rfl ?_
       refine sp rfl (PE.pick rfl rfl rfl) rfl ?_
       refine Z5 rfl (fun hc2 => ?_) (fun hc2 => ?_)
       ·
        try simp only [decide_eq_true_eq, decide_eq_false_iff_not, Bool.and_eq_true, Bool.or_eq_true, Bool.not_eq_true', Int.not_le, Int.not_lt] at hc2
        have hy : 0 ≤ years ∧ years ≤ 12 := by simp_all
        have hib : inb years 0 12 = true := by simp only [inb, Bool.and_eq_true, decide_eq_true_eq]; omega
        refine Zw (a := ax) (sz := 2) (rows := Zf t.rats) (by have := hok.many; intro h0; simp [Zf] at h0; simp [h0] at this) (fun bx ox he => ?_)
        subst he
        rw [show Value.int .i64 years = .int .i64 (years.toNat : Nat) from by congr 1; omega]
        refine Z0 ?_
        refine Z1 [0] rfl ?_
        refine sp rfl (PE.assign rfl) rfl ?_
        refine Z0 ?_
        refine Z1 [0, 1, 2, 3] rfl ?_
        refine spL rfl rfl (lhA [_, _, _, _, _, _, _, _, _, _, _] Z0c rfl rfl rfl) rfl ?_
        refine sp rfl (PE.move rfl) rfl ?_
        refine cl rfl ZeD rfl rfl (ZaO t hok years.toNat (by omega) bx ox cx _ _) ?_
        rintro _ _ _ ⟨rfl, rfl, rfl⟩
        rw [show Value.int .i64 ((years.toNat : Nat) : Int) = .int .i64 years from by congr 1; omega]
        refine sp rfl (PE.assign rfl) rfl ?_
        refine Z0 ?_
        refine Z1 [0, 1] rfl ?_
        refine sp rfl (PE.move rfl) rfl ?_
        refine sp rfl (PE.lss rfl rfl) rfl ?_
        refine Z5 rfl (fun hc3 => ?_) (fun hc3 => ?_)
        ·
         try simp only [decide_eq_true_eq, decide_eq_false_iff_not, Bool.and_eq_true, Bool.or_eq_true, Bool.not_eq_true', Int.not_le, Int.not_lt] at hc3
         
         refine Z1 [0, 1] rfl ?_
         refine sp rfl (PE.assign rfl) rfl ?_
         refine sp rfl (PE.assign rfl) rfl ?_
         rw [show Z2i t years = (0, 6) from by unfold Z2i; rw [hib, hck, decide_eq_true hc3]; try rfl]
         exact ZG () (by repeat' first | exact Sub.nil | apply Sub.cons | rfl | (simp [lk]; omega)) (fun _ h => h)
        ·
         try simp only [decide_eq_true_eq, decide_eq_false_iff_not, Bool.and_eq_true, Bool.or_eq_true, Bool.not_eq_true', Int.not_le, Int.not_lt] at hc3
         
         refine Z3 ?_
         rw [show Z2i t years = (ef t years.toNat t.now, 0) from by unfold Z2i; rw [hib, hck, decide_eq_false (show ¬ ef t years.toNat t.now < 0 by omega)]; try rfl]
         exact ZG () (by repeat' first | exact Sub.nil | apply Sub.cons | rfl | (simp [lk]; omega)) (fun _ h => h)
       ·
        try simp only [decide_eq_true_eq, decide_eq_false_iff_not, Bool.and_eq_true, Bool.or_eq_true, Bool.not_eq_true', Int.not_le, Int.not_lt] at hc2
        have hib : inb years 0 12 = false := by simp only [inb]; simp_all; try omega
        refine Z3 ?_
        rw [show Z2i t years = (0, 3) from by unfold Z2i; rw [hib, hck]; try rfl]
        exact ZG () (by repeat' first | exact Sub.nil | apply Sub.cons | rfl | (simp [lk]; omega)) (fun _ h => h)
      ·
       try simp only [decide_eq_true_eq, decide_eq_false_iff_not, Bool.and_eq_true, Bool.or_eq_true, Bool.not_eq_true', Int.not_le, Int.not_lt] at g24
       refine spN rfl rfl rfl rfl rfl rfl rfl rfl ?_
       refine spN rfl rfl rfl rfl rfl rfl rfl rfl ?_
       refine sp rfl (PE.pick rfl rfl rfl) rfl ?_
       refine Zz rfl ?_
       refine Z3 ?_
       have hib : inb years 0 12 = false := by rw [inb, decide_eq_false (by omega)]; rfl
       rw [show Z2i t years = (0, 3) from by unfold Z2i; rw [hib, hck]; try rfl]
       exact ZG () (by repeat' first | exact Sub.nil | apply Sub.cons | rfl | (simp [lk]; omega)) (fun _ h => h)
     ·
      try simp only [decide_eq_true_eq, decide_eq_false_iff_not, Bool.and_eq_true, Bool.or_eq_true, Bool.not_eq_true', Int.not_le, Int.not_lt] at hc1
      have hck : t.check ≠ 0 := hc1
      refine Z3 ?_
      rw [show Z2i t years = (0, t.check) from by unfold Z2i; rw [decide_eq_true hck]; try rfl]
      exact ZG () (by repeat' first | exact Sub.nil | apply Sub.cons | rfl | (simp [lk]; omega)) (fun _ h => h)
    ·
     rintro ⟨⟩
     dsimp only
     refine Z0 ?_
     refine Z1 [0, 1, 2, 3, 4, 5, 6, 7] rfl ?_
     refine spL rfl rfl (lhA [_, _, _, _, _, _, _, _, _, _, _] Zd rfl rfl rfl) rfl ?_
     refine sp rfl (PE.move rfl) rfl ?_
     refine cl rfl ZcZ rfl rfl (Z9U t (by omega) years bo 0 co _ _) ?_
     rintro _ _ _ ⟨h, rfl, rfl⟩
     rw [Zdi h]
     refine sp rfl (PE.move rfl) rfl ?_
     refine sp rfl (PE.extract rfl rfl) rfl ?_
     refine sp rfl (PE.extract rfl rfl) rfl ?_
     refine sp rfl (PE.assign rfl) rfl ?_
     refine sp rfl (PE.assign rfl) rfl ?_
     refine Z0 ?_
     refine Z1 [0, 1, 2, 3, 4, 5, 6, 7, 8, 9, 10, 11, 12, 13, 14, 15, 16] rfl ?_
     refine sp rfl (PE.move rfl) rfl ?_
     refine sp rfl (PE.move rfl) rfl ?_
     refine sp rfl (PE.eql rfl rfl) rfl ?_
     refine sp rfl (PE.move rfl) rfl ?_
     refine Zg (t := 42) rfl (fun g42 => ?_) (fun g42 => ?_)
     ·
      refine spG rfl rfl rfl rfl (PE.move rfl) rfl ?_
      refine spG rfl rfl rfl rfl (PE.move rfl) rfl ?_
      refine spG rfl rfl rfl rfl (PE.eql rfl rfl) rfl ?_
      refine sp rfl (PE.pick rfl rfl rfl) rfl ?_
      refine sp rfl (PE.move rfl) rfl ?_
      refine Zg (t := 47) rfl (fun g47 => ?_) (fun g47 => ?_)
      ·
       refine Z03 rfl rfl rfl rfl rfl (lhA [_, _, _, _, _, _, _, _, _, _, _] Zd rfl rfl rfl) rfl ?_
       refine Z03 rfl rfl rfl rfl rfl (lhA [_, _, _, _, _, _, _, _, _, _, _] Zd rfl rfl rfl) rfl ?_
       refine Z0k rfl rfl rfl rfl Z5i rfl rfl (Z38 t t _ a co c (by omega) (by omega) _ _) ?_
       refine sp rfl (PE.pick rfl rfl rfl) rfl ?_
       refine sp rfl (PE.move rfl) rfl ?_
       refine Zg (t := 52) rfl (fun g52 => ?_) (fun g52 => ?_)
       ·
        refine Z0k rfl rfl rfl rfl Z1f rfl rfl (Z00 _ _) ?_
        refine sp rfl (PE.pick rfl rfl rfl) rfl ?_
        refine sp rfl (PE.assign rfl) rfl ?_
        refine Z4 ?_
        exact Z2 (vs := [_]) rfl (.cons (RV.tmp rfl) .nil) rfl ⟨rfl, rfl, rfl⟩ drp
       ·
        exact absurd g52 (by first | (simp; done) | (simp_all; done))
      ·
       exact absurd g47 (by first | (simp; done) | (simp_all; done))
     ·
      exact absurd g42 (by first | (simp; done) | (simp_all; done))
theorem Z57 : apT Tryz.prog 47 = some (4, 1, 1) := by kernel_rfl
theorem Zf3 : cal Tryz.prog 96 = true := by kernel_rfl
theorem cn4 : Z1c Tryz.prog 4 = some 1 := by kernel_rfl
theorem Z7E : elN Tryz.prog 47 = some 1 := by kernel_rfl
theorem sc4 : Z47 Tryz.prog 4 = true := by kernel_rfl
theorem Zfd : slE Tryz.prog 47 = some (4, 1) := by kernel_rfl
theorem zl4 : Z0n Tryz.prog 4 = some ([.bool false]) := by kernel_rfl
abbrev Z1u (l : List Bool) : List Value := l.map Value.bool
def Zdz (b : Bool) : List Value := [.bool b]
def ZM (l : List Bool) : List (List Value) := l.map Zdz
theorem Z3B : ∀ (l : List Bool), (ZM l).flatten = Z1u l
  | [] => rfl
  | b :: l => by rw [ZM, List.map_cons, List.flatten_cons, show (List.map Zdz l) = ZM l from rfl, Z3B l]; rfl
theorem Z4d {l : List Bool} {k : Nat} {x : Bool} (h : l[k]? = some x) : (ZM l)[k]? = some [.bool x] := by simp [ZM, Zdz, h]
theorem Z8u {l : List Bool} {jn : List Value} {i k : Nat} {x : Bool} (h : l[i]? = some x) (e : k = i) : (Z1u l ++ jn)[k]? = some (.bool x) := by
  subst e
  have hi : k < l.length := (List.getElem?_eq_some_iff.1 h).1
  rw [List.getElem?_append_left (by simpa [Z1u] using hi)]; simp [Z1u, h]
theorem ZdR {l : List Bool} {jn : List Value} {i k : Nat} {x : Bool} (h : i < l.length) (e : k = i) : spl (Z1u l ++ jn) k [.bool x] = Z1u (l.set i x) ++ jn := by
  subst e
  rw [Z4j (by simp [Z1u]; omega), List.set_append_left _ _ (by simpa [Z1u] using h)]; simp [Z1u, List.map_set]
theorem Z7o (l : List Bool) (jn : List Value) : (Z1u l ++ jn).length = l.length + jn.length := by simp [Z1u]
theorem St.boolRows {b e : Nat} {l : List Bool} {jn : List Value} {H : Zj} {R : Z9} {w : World} (h : St ((b, cel e (Z1u l ++ jn)) :: H) R w) : St H (RowsA (some ⟨b, 0, none⟩) 1 (ZM l) :: R) w := by
  rw [← Z3B] at h; exact St.rows h (by intro r hr; obtain ⟨x, _, rfl⟩ := List.mem_map.1 hr; rfl)
theorem Z2p (n : Nat) : Z2b n [.bool false] = Z1u (List.replicate n false) ++ [] := by rw [ZdS, Z1u, List.map_replicate, List.append_nil]
theorem Ze7 (t : Twn) (ht : t.ok) (s : Sta) (hs : s.right t = true) (nw bf : List Bool) (jn : List Value) (n : Int) (hnl : nw.length = t.nst) (hbl : bf.length = t.nst) (ba oa ca : Nat) (bn cn bb ob cb : Nat) (H : Zj) (R : Z9) [hR : MemRows (some ⟨ba, oa, none⟩) 2 (Zf t.rats) R] [hM : Mem1 bn (cel 4 (Z1u nw ++ jn)) H] [hB : MemRows (some ⟨bb, ob, none⟩) 1 (ZM bf) R] :
    FnV Tryz.prog 96 [t.v (t.sl (some ⟨ba, oa, none⟩) ca), s.v, .slice (some ⟨bn, 0, none⟩) t.nst cn, .slice (some ⟨bb, ob, none⟩) t.nst cb, .int .i64 n] H R (.bool (Zby t nw bf n s)) := by
  refine Zq Tryz.func96 rfl Tryz.ntmps96 rfl ?_
  refine Z0 ?_
  refine Z1 [0, 1, 2] rfl ?_
  refine bx rfl rfl rfl (fun b5 => ?_)
  refine bx rfl rfl rfl (fun b6 => ?_)
  refine sp rfl (PE.assign rfl) rfl ?_
  refine Z0 ?_
  refine Z1 [0, 1, 2, 3] rfl ?_
  refine spL rfl rfl (lhA [_, _, _, _, _, _, _, _, _, _, _] Z0c rfl rfl rfl) rfl ?_
  refine spL rfl rfl (lhA [_, _, _] Z0w rfl rfl rfl) rfl ?_
  refine cl rfl ZaE rfl rfl (Z2s t ht s ba oa ca _ _) ?_
  rintro _ _ R1 ⟨oL, rfl, rfl, hR1⟩
  obtain rfl := hR1.symm
  obtain ⟨aL, cL, hoL, hfL⟩ := oL.freeze
  rw [hoL]
  refine Sy.heap (fun w h => hfL h) ?_
  rw [show (Zh (Z4P t s)).length = (Z2G t s).length from by rw [Zh, List.length_map, Z1m]]
  refine sp rfl (PE.assign rfl) rfl ?_
  refine Z0 ?_
  refine Z0 ?_
  refine Z1 [0] rfl ?_
  refine sp rfl (PE.assign rfl) rfl ?_
  refine Z7 ?_
  have hcl4 : (Z2G t s).length ≤ 4 := by have := Z1m t s; have := Z65 t s; have := ht.many; omega
  refine Zn (ι := {k : Nat // k ≤ (Z2G t s).length ∧ ∀ j q, j < k → (Z2G t s)[j]? = some q → Z8L t nw bf n s q = false}) (fun k => ⟨[(2, .slice (some ⟨bn, 0, none⟩) t.nst cn), (3, .slice (some ⟨bb, ob, none⟩) t.nst cb), (4, .int .i64 n), (5, .pointer (some ⟨b5, 0, none⟩)), (6, .pointer (some ⟨b6, 0, none⟩)), (11, .slice aL (Z2G t s).length cL), (12, .int .i64 k.1)],
    (b6, cel 93 [.int .i64 s.stock, .int .i64 s.short, .int .i64 s.dry]) :: (b5, cel 96 (twl t (t.sl (some ⟨ba, oa, none⟩) ca))) :: H, RowsA aL 1 (Zh (Z4P t s)) :: R⟩) (fun k => (Z2G t s).length - k.1) ⟨0, by omega, by omega⟩ ?_ (fun k => ?_)
  ·
   exact Z0i (by repeat' first | exact Sub.nil | apply Sub.cons | rfl | (simp [lk]; omega)) (fun _ h => h)
  ·
   obtain ⟨k, hk, hno⟩ := k
   dsimp only
   refine Z0 ?_
   refine Z0 ?_
   refine Z1 [0, 1, 2, 3] rfl ?_
   refine sp rfl (PE.move rfl) rfl ?_
   refine sp rfl (PE.move rfl) rfl ?_
   refine sp rfl (PE.lenSl Z0p rfl) rfl ?_
   refine sp rfl (PE.lss rfl rfl) rfl ?_
   refine Z5 rfl (fun hc0 => ?_) (fun hc0 => ?_)
   ·
    try simp only [decide_eq_true_eq, decide_eq_false_iff_not, Bool.and_eq_true, Bool.or_eq_true, Bool.not_eq_true', Int.not_le, Int.not_lt] at hc0
    obtain ⟨rr, hrr⟩ : ∃ rr, (Z4P t s)[k]? = some rr := ⟨_, List.getElem?_eq_getElem (by rw [Z1m]; omega)⟩
    obtain ⟨q, hr0, hq, hcan, hcl⟩ := Z5z hrr
    have hqm := List.mem_of_getElem? hq
    have hng := ZB ht hs hqm hcan (bad := false) (by simp)
    have hrl := ZbM hr0 hq
    have hnst := Z3g ht
    refine Zw (a := aL) (sz := 1) (rows := Zh (Z4P t s)) (by intro h0; simp [Zh] at h0; simp [h0] at hrr) (fun bL fL he => ?_)
    subst he
    refine Z3 ?_
    refine Z0 ?_
    refine Z7 ?_
    refine Z0 ?_
    refine Ze [0, 0, 0, 0, 0, 0, 48, 112, 252, 510, 1023, 2047, 4095] (.tk 0 (.ld 1 (.ld 2 (.ld 3 (.tk 4 (.tk 5 (.tk 6 (.ld 7 (.big 8 (.big 9 (.tk 10 (.ld 11 (.tk 12 .done))))))))))))) Zy (by kernel_rfl) ?_
    refine tk rfl (PE.move rfl) rfl ?_
    refine ld rfl rfl (lhA [_, _, _, _, _, _, _, _, _, _, _] Z0c rfl rfl rfl) rfl ?_
    refine ld rfl rfl (lhA [_, _, _, _, _, _, _, _, _, _, _] Z0c rfl rfl rfl) rfl ?_
    refine ld rfl rfl (lhA [_, _, _] Z0w rfl rfl rfl) rfl ?_
    refine tk rfl (PE.move rfl) rfl ?_
    refine tk rfl (PE.move rfl) rfl ?_
    refine tk rfl (PE.indexAddr Z0N rfl rfl (by omega) (by omega)) rfl ?_
    refine ld rfl rfl (lf0 (x := .int .i64 rr) sc3 (by simp [Zh, hrr]; rfl) rfl) rfl ?_
    refine clV rfl Z4M rfl rfl (Z19 t ht s hs rr q false ba oa ca hr0 hq (Z1z hcan) _ _) ?_
    refine bg (fun w hs => ⟨trivial, trivial, trivial, (lhA [_, _, _, _, _, _, _, _, _, _, _] Z0c rfl rfl rfl) w hs, trivial⟩) ?_
    refine clV rfl Z3Q rfl rfl (Z0O t ht _ hng _ _ _) ?_
    refine bg (fun w hs => ⟨trivial, trivial⟩) ?_
    refine tk rfl (PE.indexAddr Z7E rfl rfl (by have := ZR hng; omega) (by have := ZR hng; omega)) rfl ?_
    refine ld rfl rfl (lh (v := .bool (bo nw (ixr t (t.next s q false)))) sc4 rfl (Z8u (Z5f (by have := ZR hng; omega)) (by omega))) rfl ?_
    refine tk rfl (PE.assign rfl) rfl ?_
    refine Z0 ?_
    refine Ze [0, 1, 3, 7, 15, 31, 63, 31, 159, 511, 1023, 2047, 4095, 4095, 4095, 4095, 4095, 4095, 200703, 462847, 1036287, 2093055, 4194303, 8388607, 16777215, 33554431] (.tk 0 (.tk 1 (.tk 2 (.tk 3 (.tk 4 (.tk 5 (.ld 6 (.tk 7 (.ld 8 (.tk 9 (.tk 10 (.tk 11 (.tk 12 (.ld 13 (.ld 14 (.ld 15 (.tk 16 (.tk 17 (.tk 18 (.ld 19 (.big 20 (.big 21 (.tk 22 (.ld 23 (.tk 24 (.tk 25 .done)))))))))))))))))))))))))) Zy (by kernel_rfl) ?_
    refine tk rfl (PE.move rfl) rfl ?_
    refine tk rfl (PE.move rfl) rfl ?_
    refine Zg (t := 36) rfl (fun g36 => ?_) (fun g36 => ?_)
    ·
     refine tkG rfl rfl rfl rfl (PE.move rfl) rfl ?_
     refine tkG rfl rfl rfl rfl (PE.eql rfl rfl) rfl ?_
     refine tkG rfl rfl rfl rfl (PE.move rfl) rfl ?_
     refine Zg (t := 39) rfl (fun g39 => ?_) (fun g39 => ?_)
     ·
      try simp only [decide_eq_true_eq, decide_eq_false_iff_not, Bool.and_eq_true, Bool.or_eq_true, Bool.not_eq_true', Int.not_le, Int.not_lt] at g39
      have hp : Z8L t nw bf n s q = true := by unfold Z8L; rw [g36, decide_eq_true g39]; rfl
      refine tkN rfl rfl rfl rfl rfl rfl rfl rfl ?_
      refine ldN rfl rfl rfl rfl rfl rfl rfl rfl ?_
      refine tkN rfl rfl rfl rfl rfl rfl rfl rfl ?_
      refine ldN rfl rfl rfl rfl rfl rfl rfl rfl ?_
      refine tkN rfl rfl rfl rfl rfl rfl rfl rfl ?_
      refine tkG rfl rfl rfl rfl (PE.pick rfl rfl rfl) rfl ?_
      refine tkG rfl rfl rfl rfl (PE.move rfl) rfl ?_
      refine tkN rfl rfl rfl rfl rfl rfl rfl rfl ?_
      refine ldN rfl rfl rfl rfl rfl rfl rfl rfl ?_
      refine ldN rfl rfl rfl rfl rfl rfl rfl rfl ?_
      refine ldN rfl rfl rfl rfl rfl rfl rfl rfl ?_
      refine tkN rfl rfl rfl rfl rfl rfl rfl rfl ?_
      refine tkN rfl rfl rfl rfl rfl rfl rfl rfl ?_
      refine tkN rfl rfl rfl rfl rfl rfl rfl rfl ?_
      refine ldN rfl rfl rfl rfl rfl rfl rfl rfl ?_
      refine spN rfl rfl rfl rfl rfl rfl rfl rfl ?_
      refine bg (fun w hs => ⟨trivial, trivial, trivial, ((fun _ _ => True.intro)) w hs, trivial, trivial, trivial⟩) ?_
      refine spN rfl rfl rfl rfl rfl rfl rfl rfl ?_
      refine bg (fun w hs => ⟨trivial, trivial⟩) ?_
      refine tkN rfl rfl rfl rfl rfl rfl rfl rfl ?_
      refine ldN rfl rfl rfl rfl rfl rfl rfl rfl ?_
      refine tkG rfl rfl rfl rfl (PE.pick rfl rfl rfl) rfl ?_
      refine tk rfl (PE.pick rfl rfl rfl) rfl ?_
      refine Zm rfl ?_
      refine Z0 ?_
      refine Z1 [0] rfl ?_
      refine sp rfl (PE.assign rfl) rfl ?_
      refine Z4 ?_
      exact Z2 (vs := [_]) rfl (.cons (RV.tmp rfl) .nil) rfl ⟨congrArg Value.bool (by
          first
            | exact hres.symm
            | exact (List.any_eq_true.2 ⟨q, List.mem_of_getElem? hcl, hp⟩).symm
            | exact (List.any_eq_true.2 ⟨q, List.mem_of_getElem? hcl, hp.trans hc1⟩).symm), rfl, rfl⟩ drp
     ·
      try simp only [decide_eq_true_eq, decide_eq_false_iff_not, Bool.and_eq_true, Bool.or_eq_true, Bool.not_eq_true', Int.not_le, Int.not_lt] at g39
      
      refine tkG rfl rfl rfl rfl (PE.fieldAddr Z2V rfl) rfl ?_
      refine ldG rfl rfl rfl rfl rfl (lh sc3 rfl rfl) rfl ?_
      refine tkG rfl rfl rfl rfl (PE.fieldAddr Z36 rfl) rfl ?_
      refine ldG rfl rfl rfl rfl rfl (lh sc3 rfl rfl) rfl ?_
      refine tkG rfl rfl rfl rfl (PE.geq rfl rfl) rfl ?_
      refine tkG rfl rfl rfl rfl (PE.pick rfl rfl rfl) rfl ?_
      refine tkG rfl rfl rfl rfl (PE.move rfl) rfl ?_
      refine Zg (t := 46) rfl (fun g46 => ?_) (fun g46 => ?_)
      ·
       try simp only [decide_eq_true_eq, decide_eq_false_iff_not, Bool.and_eq_true, Bool.or_eq_true, Bool.not_eq_true', Int.not_le, Int.not_lt] at g46
       have hp : Z8L t nw bf n s q = true := by unfold Z8L; rw [g36, decide_eq_false g39, decide_eq_false (show ¬ s.dry < t.run by omega)]; rfl
       refine tkN rfl rfl rfl rfl rfl rfl rfl rfl ?_
       refine ldN rfl rfl rfl rfl rfl rfl rfl rfl ?_
       refine ldN rfl rfl rfl rfl rfl rfl rfl rfl ?_
       refine ldN rfl rfl rfl rfl rfl rfl rfl rfl ?_
       refine tkN rfl rfl rfl rfl rfl rfl rfl rfl ?_
       refine tkN rfl rfl rfl rfl rfl rfl rfl rfl ?_
       refine tkN rfl rfl rfl rfl rfl rfl rfl rfl ?_
       refine ldN rfl rfl rfl rfl rfl rfl rfl rfl ?_
       refine spN rfl rfl rfl rfl rfl rfl rfl rfl ?_
       refine bg (fun w hs => ⟨trivial, trivial, trivial, ((fun _ _ => True.intro)) w hs, trivial, trivial, trivial⟩) ?_
       refine spN rfl rfl rfl rfl rfl rfl rfl rfl ?_
       refine bg (fun w hs => ⟨trivial, trivial⟩) ?_
       refine tkN rfl rfl rfl rfl rfl rfl rfl rfl ?_
       refine ldN rfl rfl rfl rfl rfl rfl rfl rfl ?_
       refine tkG rfl rfl rfl rfl (PE.pick rfl rfl rfl) rfl ?_
       refine tk rfl (PE.pick rfl rfl rfl) rfl ?_
       refine Zm rfl ?_
       refine Z0 ?_
       refine Z1 [0] rfl ?_
       refine sp rfl (PE.assign rfl) rfl ?_
       refine Z4 ?_
       exact Z2 (vs := [_]) rfl (.cons (RV.tmp rfl) .nil) rfl ⟨congrArg Value.bool (by
           first
             | exact hres.symm
             | exact (List.any_eq_true.2 ⟨q, List.mem_of_getElem? hcl, hp⟩).symm
             | exact (List.any_eq_true.2 ⟨q, List.mem_of_getElem? hcl, hp.trans hc1⟩).symm), rfl, rfl⟩ drp
      ·
       try simp only [decide_eq_true_eq, decide_eq_false_iff_not, Bool.and_eq_true, Bool.or_eq_true, Bool.not_eq_true', Int.not_le, Int.not_lt] at g46
       have hnb := ZB ht hs hqm hcan (bad := true) (fun _ => by omega)
       have hp : Z8L t nw bf n s q = bo bf (ixr t (t.next s q true)) := by unfold Z8L; rw [g36, decide_eq_false g39, decide_eq_true (show s.dry < t.run by omega)]; rfl
       refine tkG rfl rfl rfl rfl (PE.move rfl) rfl ?_
       refine ldG rfl rfl rfl rfl rfl (lhA [_, _, _, _, _, _, _, _, _, _, _] Z0c rfl rfl rfl) rfl ?_
       refine ldG rfl rfl rfl rfl rfl (lhA [_, _, _, _, _, _, _, _, _, _, _] Z0c rfl rfl rfl) rfl ?_
       refine ldG rfl rfl rfl rfl rfl (lhA [_, _, _] Z0w rfl rfl rfl) rfl ?_
       refine tkG rfl rfl rfl rfl (PE.move rfl) rfl ?_
       refine tkG rfl rfl rfl rfl (PE.move rfl) rfl ?_
       refine tkG rfl rfl rfl rfl (PE.indexAddr Z0N rfl rfl (by omega) (by omega)) rfl ?_
       refine ldG rfl rfl rfl rfl rfl (lf0 (x := .int .i64 rr) sc3 (by simp [Zh, hrr]; rfl) rfl) rfl ?_
       refine Z0k rfl rfl rfl rfl Z4M rfl rfl (Z19 t ht s hs rr q true ba oa ca hr0 hq (Z1z hcan) _ _) ?_
       refine bg (fun w hs => ⟨trivial, trivial, trivial, (lhA [_, _, _, _, _, _, _, _, _, _, _] Z0c rfl rfl rfl) w hs, trivial, trivial, trivial⟩) ?_
       refine Z0k rfl rfl rfl rfl Z3Q rfl rfl (Z0O t ht _ hnb _ _ _) ?_
       refine bg (fun w hs => ⟨trivial, trivial⟩) ?_
       refine tkG rfl rfl rfl rfl (PE.indexAddr Z7E rfl rfl (by have := ZR hnb; omega) (by have := ZR hnb; omega)) rfl ?_
       refine ldG rfl rfl rfl rfl rfl (lf0 (x := .bool (bo bf (ixr t (t.next s q true)))) sc4 (Z4d (Z5f (by have := ZR hnb; omega))) rfl) rfl ?_
       refine tkG rfl rfl rfl rfl (PE.pick rfl rfl rfl) rfl ?_
       refine tk rfl (PE.pick rfl rfl rfl) rfl ?_
       refine Z5 rfl (fun hc1 => ?_) (fun hc1 => ?_)
       ·
        refine Z0 ?_
        refine Z1 [0] rfl ?_
        refine sp rfl (PE.assign rfl) rfl ?_
        refine Z4 ?_
        exact Z2 (vs := [_]) rfl (.cons (RV.tmp rfl) .nil) rfl ⟨congrArg Value.bool (by
            first
              | exact hres.symm
              | exact (List.any_eq_true.2 ⟨q, List.mem_of_getElem? hcl, hp⟩).symm
              | exact (List.any_eq_true.2 ⟨q, List.mem_of_getElem? hcl, hp.trans hc1⟩).symm), rfl, rfl⟩ drp
       ·
        refine Z3 ?_
        refine Z1 [0, 1, 2] rfl ?_
        refine sp rfl (PE.move rfl) rfl ?_
        refine sp rfl (PE.add rfl rfl (by omega)) rfl ?_
        refine sp rfl (PE.assign rfl) rfl ?_
        exact Zb ⟨k + 1, by omega, fun j q' hj hq' => by
          rcases Nat.lt_or_ge j k with h1 | h1
          · exact hno j q' h1 hq'
          · obtain rfl : j = k := by omega
            rw [hcl] at hq'; cases hq'; first | exact hp | exact hp.trans hc1⟩ (by dsimp only; omega) (by repeat' first | exact Sub.nil | apply Sub.cons | rfl | (simp [lk]; omega)) (fun _ h => h)
    ·
     have hp : Z8L t nw bf n s q = false := by unfold Z8L; rw [g36]; rfl
     refine tkN rfl rfl rfl rfl rfl rfl rfl rfl ?_
     refine tkN rfl rfl rfl rfl rfl rfl rfl rfl ?_
     refine tkN rfl rfl rfl rfl rfl rfl rfl rfl ?_
     refine tkU rfl rfl rfl rfl rfl rfl rfl ?_
     refine ldU rfl rfl rfl rfl rfl rfl rfl ?_
     refine tkU rfl rfl rfl rfl rfl rfl rfl ?_
     refine ldU rfl rfl rfl rfl rfl rfl rfl ?_
     refine tkU rfl rfl rfl rfl rfl rfl rfl ?_
     refine tkN rfl rfl rfl rfl rfl rfl rfl rfl ?_
     refine tkN rfl rfl rfl rfl rfl rfl rfl rfl ?_
     refine tkU rfl rfl rfl rfl rfl rfl rfl ?_
     refine ldU rfl rfl rfl rfl rfl rfl rfl ?_
     refine ldU rfl rfl rfl rfl rfl rfl rfl ?_
     refine ldU rfl rfl rfl rfl rfl rfl rfl ?_
     refine tkU rfl rfl rfl rfl rfl rfl rfl ?_
     refine tkU rfl rfl rfl rfl rfl rfl rfl ?_
     refine tkU rfl rfl rfl rfl rfl rfl rfl ?_
     refine ldU rfl rfl rfl rfl rfl rfl rfl ?_
     refine spU rfl rfl rfl rfl rfl rfl rfl ?_
     refine bg (fun w hs => ⟨trivial, trivial, trivial, ((fun _ _ => True.intro)) w hs, trivial, trivial, trivial⟩) ?_
     refine spU rfl rfl rfl rfl rfl rfl rfl ?_
     refine bg (fun w hs => ⟨trivial, trivial⟩) ?_
     refine tkU rfl rfl rfl rfl rfl rfl rfl ?_
     refine ldU rfl rfl rfl rfl rfl rfl rfl ?_
     refine tkN rfl rfl rfl rfl rfl rfl rfl rfl ?_
     refine tk rfl (PE.pick rfl rfl rfl) rfl ?_
     refine Zz rfl ?_
     refine Z3 ?_
     refine Z1 [0, 1, 2] rfl ?_
     refine sp rfl (PE.move rfl) rfl ?_
     refine sp rfl (PE.add rfl rfl (by omega)) rfl ?_
     refine sp rfl (PE.assign rfl) rfl ?_
     exact Zb ⟨k + 1, by omega, fun j q' hj hq' => by
       rcases Nat.lt_or_ge j k with h1 | h1
       · exact hno j q' h1 hq'
       · obtain rfl : j = k := by omega
         rw [hcl] at hq'; cases hq'; first | exact hp | exact hp.trans hc1⟩ (by dsimp only; omega) (by repeat' first | exact Sub.nil | apply Sub.cons | rfl | (simp [lk]; omega)) (fun _ h => h)
   ·
    try simp only [decide_eq_true_eq, decide_eq_false_iff_not, Bool.and_eq_true, Bool.or_eq_true, Bool.not_eq_true', Int.not_le, Int.not_lt] at hc0
    obtain rfl : k = (Z2G t s).length := by omega
    have hres : Zby t nw bf n s = false := List.any_eq_false.2 fun q hq => by
      obtain ⟨j, hj⟩ := List.getElem?_of_mem hq
      rw [hno j q (List.getElem?_eq_some_iff.1 hj).1 hj]; simp
    refine Zk ?_
    refine Zl ?_
    refine Zl ?_
    refine ZH ?_
    refine Z0 ?_
    refine Z1 [0] rfl ?_
    refine sp rfl (PE.assign rfl) rfl ?_
    refine Z4 ?_
    exact Z2 (vs := [_]) rfl (.cons (RV.tmp rfl) .nil) rfl ⟨congrArg Value.bool (by
        first
          | exact hres.symm
          | exact (List.any_eq_true.2 ⟨q, List.mem_of_getElem? hcl, hp⟩).symm
          | exact (List.any_eq_true.2 ⟨q, List.mem_of_getElem? hcl, hp.trans hc1⟩).symm), rfl, rfl⟩ drp
theorem Z4D (t : Twn) (ht : t.ok) (ba oa ca : Nat) (H : Zj) (R : Z9) [hR : MemRows (some ⟨ba, oa, none⟩) 2 (Zf t.rats) R] :
    Fn Tryz.prog 58 [t.v (t.sl (some ⟨ba, oa, none⟩) ca)] H R (fun v H' R' => ∃ b la, SolR t la ∧ v = .slice (some ⟨b, 0, none⟩) t.nst t.nst ∧ H' = (b, cel 3 (ZT la)) :: H ∧ R' = R) := by
  have hnst := Z3g ht
  refine Zq Tryz.func58 rfl Tryz.ntmps58 rfl ?_
  refine Z0 ?_
  refine Z1 [0, 1] rfl ?_
  refine bx rfl rfl rfl (fun b1 => ?_)
  refine sp rfl (PE.assign rfl) rfl ?_
  refine Z0 ?_
  refine Z1 [0, 1, 2] rfl ?_
  refine spL rfl rfl (lhA [_, _, _, _, _, _, _, _, _, _, _] Z0c rfl rfl rfl) rfl ?_
  refine cl rfl ZcI rfl rfl (Z4t t ht _ _ _) ?_
  rintro _ _ R1 ⟨oS, rfl, rfl, hR1⟩
  obtain rfl := hR1.symm
  obtain ⟨aS, cS, hoS, hfS⟩ := oS.freeze
  rw [hoS]
  refine Sy.heap (fun w h => hfS h) ?_
  rw [show (ZP (sts t)).length = t.nst from by rw [ZP, List.length_map, Z0s]]
  refine sp rfl (PE.assign rfl) rfl ?_
  refine Z0 ?_
  refine Z1 [0, 1, 2, 3] rfl ?_
  refine sp rfl (PE.move rfl) rfl ?_
  refine sp rfl (PE.lenSl Z2o rfl) rfl ?_
  refine mkS rfl Z2T zl3 rfl rfl (Nat.le_refl _) ⟨by omega, by omega⟩ rfl (fun b18 => ?_)
  rw [Z1k]
  refine sp rfl (PE.assign rfl) rfl ?_
  refine Z0 ?_
  refine Z1 [0, 1, 2, 3] rfl ?_
  refine sp rfl (PE.move rfl) rfl ?_
  refine sp rfl (PE.lenSl Z2o rfl) rfl ?_
  refine mkS rfl Z57 zl4 rfl rfl (Nat.le_refl _) ⟨by omega, by omega⟩ rfl (fun b21 => ?_)
  rw [Z2p]
  refine sp rfl (PE.assign rfl) rfl ?_
  refine Z0 ?_
  refine Z0 ?_
  refine Z1 [0] rfl ?_
  refine sp rfl (PE.assign rfl) rfl ?_
  refine Z7 ?_
  refine Zn (ι := {x : Nat × List Bool × List Int // x.1 ≤ t.nst ∧ x.2.1.length = t.nst ∧ x.2.2.length = t.nst ∧ ∀ j, j < x.1 → bo x.2.1 j = true ∧ io x.2.2 j = -1}) (fun x => ⟨[(1, .pointer (some ⟨b1, 0, none⟩)), (3, .slice aS t.nst cS), (4, .slice (some ⟨b18, 0, none⟩) t.nst t.nst), (5, .slice (some ⟨b21, 0, none⟩) t.nst t.nst), (6, .int .i64 x.1.1)], (b21, cel 4 (Z1u x.1.2.1 ++ [])) :: (b18, cel 3 (ZT (x.1.2.2))) :: (b1, cel 96 (twl t (t.sl (some ⟨ba, oa, none⟩) ca))) :: H, RowsA aS 3 (ZP (sts t)) :: R⟩) (fun x => t.nst - x.1.1) ⟨(0, List.replicate t.nst false, List.replicate t.nst 0), by omega, by simp, by simp, by omega⟩ ?_ (fun x => ?_)
  ·
   exact Z0i (by repeat' first | exact Sub.nil | apply Sub.cons | rfl | (simp [lk]; omega)) (fun _ h => h)
  ·
   obtain ⟨⟨i, bf, la⟩, hi, hbl, hll, hin⟩ := x
   dsimp only at hi hbl hll hin ⊢
   refine Z0 ?_
   refine Z0 ?_
   refine Z1 [0, 1, 2, 3] rfl ?_
   refine sp rfl (PE.move rfl) rfl ?_
   refine sp rfl (PE.move rfl) rfl ?_
   refine sp rfl (PE.lenSl Z2o rfl) rfl ?_
   refine sp rfl (PE.lss rfl rfl) rfl ?_
   refine Z5 rfl (fun hc0 => ?_) (fun hc0 => ?_)
   ·
    try simp only [decide_eq_true_eq, decide_eq_false_iff_not, Bool.and_eq_true, Bool.or_eq_true, Bool.not_eq_true', Int.not_le, Int.not_lt] at hc0
    refine Z3 ?_
    refine Z0 ?_
    refine Z7 ?_
    refine Z0 ?_
    refine Z1 [0, 1, 2, 3] rfl ?_
    refine sp rfl (PE.move rfl) rfl ?_
    refine sp rfl (PE.move rfl) rfl ?_
    refine sp rfl (PE.indexAddr Z7E rfl rfl (by omega) (by omega)) rfl ?_
    refine Z2R (l' := Z1u (bf.set i true) ++ []) rfl rfl rfl cn4 rfl rfl rfl (ZdR (i := i) (by omega) (by omega)) (by rw [Z7o]; show 0 + ((i : Nat) : Int).toNat * 1 + 1 ≤ _; omega) ?_
    refine Z1 [0, 1, 2, 3] rfl ?_
    refine sp rfl (PE.move rfl) rfl ?_
    refine sp rfl (PE.move rfl) rfl ?_
    refine sp rfl (PE.indexAddr Z0N rfl rfl (by omega) (by omega)) rfl ?_
    refine Z2R (l' := ZT (la.set i (-1))) rfl rfl rfl cn3 rfl rfl rfl (Z4B (i := i) (by omega) (by omega)) (by rw [Zp]; show 0 + ((i : Nat) : Int).toNat * 1 + 1 ≤ _; omega) ?_
    refine Z1 [0, 1, 2] rfl ?_
    refine sp rfl (PE.move rfl) rfl ?_
    refine sp rfl (PE.add rfl rfl (by omega)) rfl ?_
    refine sp rfl (PE.assign rfl) rfl ?_
    exact Zb ⟨(i + 1, bf.set i true, la.set i (-1)), by omega, by simp [hbl], by simp [hll], fun j hj => by
      rw [Z4H (by omega), Z0z (by omega)]
      by_cases e : i = j
      · simp [e]
      · simp only [e, decide_false, cond_false]; exact hin j (by dsimp only at hj; omega)⟩ (by dsimp only; omega) (by repeat' first | exact Sub.nil | apply Sub.cons | rfl | (simp [lk]; omega)) (fun _ h => h)
   ·
    try simp only [decide_eq_true_eq, decide_eq_false_iff_not, Bool.and_eq_true, Bool.or_eq_true, Bool.not_eq_true', Int.not_le, Int.not_lt] at hc0
    obtain rfl : i = t.nst := by omega
    refine Zk ?_
    refine Zl ?_
    refine Zl ?_
    refine ZH ?_
    refine Z0 ?_
    refine Z1 [0] rfl ?_
    refine sp rfl (PE.assign rfl) rfl ?_
    refine Z7 ?_
    refine Sy.heap (fun w h => St.boolRows h) ?_
    refine Zn (ι := {x : Nat × (Nat × Nat × Nat) × List Bool × List Int // x.2.2.1.length = t.nst ∧ x.2.2.2.length = t.nst ∧ (∀ s, s.right t = true → (bo x.2.2.1 (ixr t s) = true ↔ Bf t x.1 s)) ∧ (∀ s, s.right t = true → PL t x.1 s (io x.2.2.2 (ixr t s))) ∧ (x.1 = 0 ∨ x.1 + x.2.2.1.count true ≤ t.nst + 1)}) (fun x => ⟨[(1, .pointer (some ⟨b1, 0, none⟩)), (3, .slice aS t.nst cS), (4, .slice (some ⟨b18, 0, none⟩) t.nst t.nst), (5, .slice (some ⟨x.1.2.1.1, x.1.2.1.2.1, none⟩) t.nst x.1.2.1.2.2), (7, .int .i64 x.1.1)], (b18, cel 3 (ZT (x.1.2.2.2))) :: (b1, cel 96 (twl t (t.sl (some ⟨ba, oa, none⟩) ca))) :: H, RowsA (some ⟨x.1.2.1.1, x.1.2.1.2.1, none⟩) 1 (ZM x.1.2.2.1) :: RowsA aS 3 (ZP (sts t)) :: R⟩) (fun x => t.nst + 2 - x.1.1) ⟨(0, (b21, 0, t.nst), bf, la), hbl, hll, fun s hs => ⟨fun _ => trivial, fun _ => (hin _ (ZR hs)).1⟩, fun s hs => .inl ⟨(hin _ (ZR hs)).2, by omega⟩, .inl rfl⟩ ?_ (fun x => ?_)
    ·
     exact Z0i (by repeat' first | exact Sub.nil | apply Sub.cons | rfl | (simp [lk]; omega)) (fun _ h => h)
    ·
     clear hin hbl hll hi hc0
     obtain ⟨⟨n, ⟨bb, ob, cb⟩, bf, la⟩, hbl, hll, hbf, hpl, hcn⟩ := x
     dsimp only at hbl hll hbf hpl hcn ⊢
     have hcl := List.count_le_length (a := true) (l := bf)
     refine Z0 ?_
     refine Z7 ?_
     refine Z0 ?_
     refine Z1 [0, 1, 2, 3] rfl ?_
     refine Zdg rfl Zfd rfl (fun o36 ho36 => ?_)
     refine sp rfl (PE.move rfl) rfl ?_
     refine Zbg (news := ZM bf) o36 rfl Z57 rfl rfl (Z6F) (by simp [ZM, hbl]) (by simp [Z0C, ZM, Zdz, Value.oneCell']) ⟨by simp [ZM]; omega, by simp [ZM]; omega⟩ rfl ho36 (fun oN hoN => ?_)
     obtain ⟨bn, cN, jn, hN1, hN2⟩ := oN.own hoN
     rw [hN1, hN2, List.nil_append, Z3B, show (ZM bf).length = t.nst from by simp [ZM, hbl]]
     refine sp rfl (PE.assign rfl) rfl ?_
     refine Z0 ?_
     refine Z0 ?_
     refine Z1 [0] rfl ?_
     refine sp rfl (PE.assign rfl) rfl ?_
     refine Z7 ?_
     refine Zn (ι := {x : List Bool × Bool // x.1.length = t.nst ∧ (∀ s, s.right t = true → bo x.1 (ixr t s) = true → bo bf (ixr t s) = true) ∧ (∀ s, Srv t n s → bo x.1 (ixr t s) = true) ∧ (x.2 = false → ∀ s, s.right t = true → bo x.1 (ixr t s) = true → Zby t x.1 bf n s = true)}) (fun x => ⟨[(1, .pointer (some ⟨b1, 0, none⟩)), (3, .slice aS t.nst cS), (4, .slice (some ⟨b18, 0, none⟩) t.nst t.nst), (5, .slice (some ⟨bb, ob, none⟩) t.nst cb), (7, .int .i64 n), (8, .slice (some ⟨bn, 0, none⟩) t.nst cN), (9, .bool x.1.2)], (bn, cel 4 (Z1u (x.1.1) ++ jn)) :: (b18, cel 3 (ZT (la))) :: (b1, cel 96 (twl t (t.sl (some ⟨ba, oa, none⟩) ca))) :: H, RowsA (some ⟨bb, ob, none⟩) 1 (ZM bf) :: RowsA aS 3 (ZP (sts t)) :: R⟩) (fun x => 2 * x.1.1.count true + if x.1.2 = true then 1 else 0) ⟨(bf, true), hbl, fun _ _ h => h, fun s h => (hbf s (Z0y h)).2 (by cases n with | zero => exact trivial | succ n => exact Z5C h), by simp⟩ ?_ (fun x => ?_)
     ·
      exact Z0i (by repeat' first | exact Sub.nil | apply Sub.cons | rfl | (simp [lk]; omega)) (fun _ h => h)
     ·
      obtain ⟨⟨nw, ch⟩, hnl, hsub, hsrv, hfix⟩ := x
      dsimp only at hnl hsub hsrv hfix ⊢
      refine Z0 ?_
      refine Z0 ?_
      refine Z1 [0] rfl ?_
      refine sp rfl (PE.move rfl) rfl ?_
      refine Z5 rfl (fun hc1 => ?_) (fun hc1 => ?_)
      ·
       subst hc1
       refine Z3 ?_
       refine Z7 ?_
       refine Z0 ?_
       refine Z1 [0] rfl ?_
       refine sp rfl (PE.assign rfl) rfl ?_
       refine Z0 ?_
       refine Z1 [0] rfl ?_
       refine sp rfl (PE.assign rfl) rfl ?_
       refine Z7 ?_
       refine Zn (ι := {x : Nat × List Bool × Bool // x.1 ≤ t.nst ∧ (x.2.1.length = t.nst ∧ (∀ s, s.right t = true → bo x.2.1 (ixr t s) = true → bo bf (ixr t s) = true) ∧ (∀ s, Srv t n s → bo x.2.1 (ixr t s) = true)) ∧ (x.2.2 = false → x.2.1 = nw ∧ ∀ s, s.right t = true → ixr t s < x.1 → bo nw (ixr t s) = true → Zby t nw bf n s = true) ∧ (x.2.2 = true → x.2.1.count true < nw.count true)}) (fun x => ⟨[(1, .pointer (some ⟨b1, 0, none⟩)), (3, .slice aS t.nst cS), (4, .slice (some ⟨b18, 0, none⟩) t.nst t.nst), (5, .slice (some ⟨bb, ob, none⟩) t.nst cb), (7, .int .i64 n), (8, .slice (some ⟨bn, 0, none⟩) t.nst cN), (9, .bool x.1.2.2), (10, .int .i64 x.1.1)], (bn, cel 4 (Z1u (x.1.2.1) ++ jn)) :: (b18, cel 3 (ZT (la))) :: (b1, cel 96 (twl t (t.sl (some ⟨ba, oa, none⟩) ca))) :: H, RowsA (some ⟨bb, ob, none⟩) 1 (ZM bf) :: RowsA aS 3 (ZP (sts t)) :: R⟩) (fun x => t.nst - x.1.1) ⟨(0, nw, false), by omega, ⟨hnl, hsub, hsrv⟩, fun _ => ⟨rfl, by omega⟩, by simp⟩ ?_ (fun x => ?_)
       ·
        exact Z0i (by repeat' first | exact Sub.nil | apply Sub.cons | rfl | (simp [lk]; omega)) (fun _ h => h)
       ·
        obtain ⟨⟨i, nx, cg⟩, hi, ⟨hxl, hxs, hxv⟩, hx0, hx1⟩ := x
        dsimp only at hi hxl hxs hxv hx0 hx1 ⊢
        refine Z0 ?_
        refine Z0 ?_
        refine Z1 [0, 1, 2, 3] rfl ?_
        refine sp rfl (PE.move rfl) rfl ?_
        refine sp rfl (PE.move rfl) rfl ?_
        refine sp rfl (PE.lenSl Z2o rfl) rfl ?_
        refine sp rfl (PE.lss rfl rfl) rfl ?_
        refine Z5 rfl (fun hc2 => ?_) (fun hc2 => ?_)
        ·
         try simp only [decide_eq_true_eq, decide_eq_false_iff_not, Bool.and_eq_true, Bool.or_eq_true, Bool.not_eq_true', Int.not_le, Int.not_lt] at hc2
         obtain ⟨s, hsi⟩ : ∃ s, (sts t)[i]? = some s := ⟨_, List.getElem?_eq_getElem (by rw [Z0s]; omega)⟩
         have hs := Zv ht (List.mem_of_getElem? hsi)
         have hix := Z59 hsi hs
         have hnx := Z5f (l := nx) (i := i) (by omega)
         refine Zw (a := aS) (sz := 3) (rows := ZP (sts t)) (by intro h0; simp [ZP] at h0; simp [h0] at hsi) (fun bS fS he => ?_)
         subst he
         refine Z3 ?_
         refine Z0 ?_
         refine Z7 ?_
         refine Z0 ?_
         refine Ze [0, 0, 3, 7, 15, 31, 31, 31, 223, 479, 31, 31, 31, 8191, 16383, 32767] (.tk 0 (.tk 1 (.tk 2 (.ld 3 (.tk 4 (.ld 5 (.tk 6 (.tk 7 (.tk 8 (.ld 9 (.tk 10 (.tk 11 (.tk 12 (.big 13 (.tk 14 (.tk 15 .done)))))))))))))))) Zy (by kernel_rfl) ?_
         refine tk rfl (PE.move rfl) rfl ?_
         refine tk rfl (PE.move rfl) rfl ?_
         refine tk rfl (PE.indexAddr Z7E rfl rfl (by omega) (by omega)) rfl ?_
         refine ld rfl rfl (lh (v := .bool (bo nx i)) sc4 rfl (Z8u hnx (by omega))) rfl ?_
         refine tk rfl (PE.move rfl) rfl ?_
         refine Zg (t := 50) rfl (fun g50 => ?_) (fun g50 => ?_)
         ·
          refine ldG rfl rfl rfl rfl rfl (lhA [_, _, _, _, _, _, _, _, _, _, _] Z0c rfl rfl rfl) rfl ?_
          refine tkG rfl rfl rfl rfl (PE.move rfl) rfl ?_
          refine tkG rfl rfl rfl rfl (PE.move rfl) rfl ?_
          refine tkG rfl rfl rfl rfl (PE.indexAddr Z8e rfl rfl (by omega) (by omega)) rfl ?_
          refine ldG rfl rfl rfl rfl rfl (lfA (row := Z67 s) Z0w (Z4v hsi) rfl) rfl ?_
          refine tkG rfl rfl rfl rfl (PE.move rfl) rfl ?_
          refine tkG rfl rfl rfl rfl (PE.move rfl) rfl ?_
          refine tkG rfl rfl rfl rfl (PE.move rfl) rfl ?_
          refine Z0k rfl rfl rfl rfl Zf3 rfl rfl (Ze7 t ht s hs nx bf jn n hxl hbl ba oa ca bn cN bb ob cb _ _) ?_
          refine bg (fun w hs => ⟨trivial, trivial, trivial, trivial⟩) ?_
          refine tkG rfl rfl rfl rfl (PE.not rfl) rfl ?_
          refine tk rfl (PE.pick rfl rfl rfl) rfl ?_
          refine Z5 rfl (fun hc3 => ?_) (fun hc3 => ?_)
          ·
           try simp only [decide_eq_true_eq, decide_eq_false_iff_not, Bool.and_eq_true, Bool.or_eq_true, Bool.not_eq_true', Int.not_le, Int.not_lt] at hc3
           replace hc3 : Zby t nx bf n s = false := by simpa using hc3
           refine Z0 ?_
           refine Z1 [0, 1, 2, 3] rfl ?_
           refine sp rfl (PE.move rfl) rfl ?_
           refine sp rfl (PE.move rfl) rfl ?_
           refine sp rfl (PE.indexAddr Z7E rfl rfl (by omega) (by omega)) rfl ?_
           refine Z2R (l' := Z1u (nx.set i false) ++ jn) rfl rfl rfl cn4 rfl rfl rfl (ZdR (i := i) (by omega) (by omega)) (by rw [Z7o]; show 0 + ((i : Nat) : Int).toNat * 1 + 1 ≤ _; omega) ?_
           refine Z1 [0] rfl ?_
           refine sp rfl (PE.assign rfl) rfl ?_
           refine Z1 [0, 1, 2] rfl ?_
           refine sp rfl (PE.move rfl) rfl ?_
           refine sp rfl (PE.add rfl rfl (by omega)) rfl ?_
           refine sp rfl (PE.assign rfl) rfl ?_
           first
             | exact Zb ⟨(i + 1, nx.set i false, true), by omega, ⟨by simp [hxl], fun u hu h => by
                 rw [Z4H (by omega)] at h
                 by_cases e : i = ixr t u
                 · simp [e] at h
                 · simp only [e, decide_false, cond_false] at h; exact hxs u hu h, fun u h => by
                 rw [Z4H (by omega)]
                 by_cases e : i = ixr t u
                 · obtain rfl := ZS hs (Z0y h) (hix.trans e)
                   rw [Z6T ht (fun s hs h => (hbf s hs).2 h) hxv h] at hc3; cases hc3
                 · simp only [e, decide_false, cond_false]; exact hxv u h⟩, by simp, fun _ => by
                 have h1 := Z6U (l := nx) (i := i) (by omega) g50
                 cases cg with
                 | true => have := hx1 rfl; dsimp only; omega
                 | false => rw [(hx0 rfl).1] at h1 ⊢; dsimp only; omega⟩ (by dsimp only; omega) (by repeat' first | exact Sub.nil | apply Sub.cons | rfl | (simp [lk]; omega)) (fun _ h => h)
             | exact Zb ⟨(i + 1, nx, cg), by omega, ⟨hxl, hxs, hxv⟩, fun h => ⟨(hx0 h).1, fun u hu h2 h3 => by
                 rcases Nat.lt_or_ge (ixr t u) i with h4 | h4
                 · exact (hx0 h).2 u hu h4 h3
                 · obtain rfl := ZS hs hu (by dsimp only at h2; omega)
                   first
                     | (rw [← (hx0 h).1]; exact hc3)
                     | (rw [← (hx0 h).1, hix, g50] at h3; cases h3)⟩, hx1⟩ (by dsimp only; omega) (by repeat' first | exact Sub.nil | apply Sub.cons | rfl | (simp [lk]; omega)) (fun _ h => h)
          ·
           try simp only [decide_eq_true_eq, decide_eq_false_iff_not, Bool.and_eq_true, Bool.or_eq_true, Bool.not_eq_true', Int.not_le, Int.not_lt] at hc3
           replace hc3 : Zby t nx bf n s = true := by simpa using hc3
           refine Z3 ?_
           refine Z1 [0, 1, 2] rfl ?_
           refine sp rfl (PE.move rfl) rfl ?_
           refine sp rfl (PE.add rfl rfl (by omega)) rfl ?_
           refine sp rfl (PE.assign rfl) rfl ?_
           first
             | exact Zb ⟨(i + 1, nx.set i false, true), by omega, ⟨by simp [hxl], fun u hu h => by
                 rw [Z4H (by omega)] at h
                 by_cases e : i = ixr t u
                 · simp [e] at h
                 · simp only [e, decide_false, cond_false] at h; exact hxs u hu h, fun u h => by
                 rw [Z4H (by omega)]
                 by_cases e : i = ixr t u
                 · obtain rfl := ZS hs (Z0y h) (hix.trans e)
                   rw [Z6T ht (fun s hs h => (hbf s hs).2 h) hxv h] at hc3; cases hc3
                 · simp only [e, decide_false, cond_false]; exact hxv u h⟩, by simp, fun _ => by
                 have h1 := Z6U (l := nx) (i := i) (by omega) g50
                 cases cg with
                 | true => have := hx1 rfl; dsimp only; omega
                 | false => rw [(hx0 rfl).1] at h1 ⊢; dsimp only; omega⟩ (by dsimp only; omega) (by repeat' first | exact Sub.nil | apply Sub.cons | rfl | (simp [lk]; omega)) (fun _ h => h)
             | exact Zb ⟨(i + 1, nx, cg), by omega, ⟨hxl, hxs, hxv⟩, fun h => ⟨(hx0 h).1, fun u hu h2 h3 => by
                 rcases Nat.lt_or_ge (ixr t u) i with h4 | h4
                 · exact (hx0 h).2 u hu h4 h3
                 · obtain rfl := ZS hs hu (by dsimp only at h2; omega)
                   first
                     | (rw [← (hx0 h).1]; exact hc3)
                     | (rw [← (hx0 h).1, hix, g50] at h3; cases h3)⟩, hx1⟩ (by dsimp only; omega) (by repeat' first | exact Sub.nil | apply Sub.cons | rfl | (simp [lk]; omega)) (fun _ h => h)
         ·
          refine ldN rfl rfl rfl rfl rfl rfl rfl rfl ?_
          refine tkN rfl rfl rfl rfl rfl rfl rfl rfl ?_
          refine tkN rfl rfl rfl rfl rfl rfl rfl rfl ?_
          refine tkN rfl rfl rfl rfl rfl rfl rfl rfl ?_
          refine ldN rfl rfl rfl rfl rfl rfl rfl rfl ?_
          refine tkN rfl rfl rfl rfl rfl rfl rfl rfl ?_
          refine tkN rfl rfl rfl rfl rfl rfl rfl rfl ?_
          refine tkN rfl rfl rfl rfl rfl rfl rfl rfl ?_
          refine spN rfl rfl rfl rfl rfl rfl rfl rfl ?_
          refine bg (fun w hs => ⟨trivial, trivial, trivial, trivial⟩) ?_
          refine tkN rfl rfl rfl rfl rfl rfl rfl rfl ?_
          refine tk rfl (PE.pick rfl rfl rfl) rfl ?_
          refine Zz rfl ?_
          refine Z3 ?_
          refine Z1 [0, 1, 2] rfl ?_
          refine sp rfl (PE.move rfl) rfl ?_
          refine sp rfl (PE.add rfl rfl (by omega)) rfl ?_
          refine sp rfl (PE.assign rfl) rfl ?_
          first
            | exact Zb ⟨(i + 1, nx.set i false, true), by omega, ⟨by simp [hxl], fun u hu h => by
                rw [Z4H (by omega)] at h
                by_cases e : i = ixr t u
                · simp [e] at h
                · simp only [e, decide_false, cond_false] at h; exact hxs u hu h, fun u h => by
                rw [Z4H (by omega)]
                by_cases e : i = ixr t u
                · obtain rfl := ZS hs (Z0y h) (hix.trans e)
                  rw [Z6T ht (fun s hs h => (hbf s hs).2 h) hxv h] at hc3; cases hc3
                · simp only [e, decide_false, cond_false]; exact hxv u h⟩, by simp, fun _ => by
                have h1 := Z6U (l := nx) (i := i) (by omega) g50
                cases cg with
                | true => have := hx1 rfl; dsimp only; omega
                | false => rw [(hx0 rfl).1] at h1 ⊢; dsimp only; omega⟩ (by dsimp only; omega) (by repeat' first | exact Sub.nil | apply Sub.cons | rfl | (simp [lk]; omega)) (fun _ h => h)
            | exact Zb ⟨(i + 1, nx, cg), by omega, ⟨hxl, hxs, hxv⟩, fun h => ⟨(hx0 h).1, fun u hu h2 h3 => by
                rcases Nat.lt_or_ge (ixr t u) i with h4 | h4
                · exact (hx0 h).2 u hu h4 h3
                · obtain rfl := ZS hs hu (by dsimp only at h2; omega)
                  first
                    | (rw [← (hx0 h).1]; exact hc3)
                    | (rw [← (hx0 h).1, hix, g50] at h3; cases h3)⟩, hx1⟩ (by dsimp only; omega) (by repeat' first | exact Sub.nil | apply Sub.cons | rfl | (simp [lk]; omega)) (fun _ h => h)
        ·
         try simp only [decide_eq_true_eq, decide_eq_false_iff_not, Bool.and_eq_true, Bool.or_eq_true, Bool.not_eq_true', Int.not_le, Int.not_lt] at hc2
         obtain rfl : i = t.nst := by omega
         refine Zk ?_
         refine Zl ?_
         refine Zl ?_
         refine ZH ?_
         exact Zb ⟨(nx, cg), hxl, hxs, hxv, fun h u hu h2 => by
           dsimp only at h h2 ⊢
           rw [(hx0 h).1] at h2 ⊢
           exact (hx0 h).2 u hu (ZR hu) h2⟩ (by
             dsimp only
             cases cg with
             | true => have := hx1 rfl; simp; omega
             | false => have e := congrArg (List.count true) (hx0 rfl).1; rw [e]; simp) (by repeat' first | exact Sub.nil | apply Sub.cons | rfl | (simp [lk]; omega)) (fun _ h => h)
      ·
       subst hc1
       have hnow : ∀ s, s.right t = true → (bo nw (ixr t s) = true ↔ Srv t n s) := fun s hs => ⟨Zcv ht (fun s hs h => (hbf s hs).1 h) (hfix rfl) hs, hsrv s⟩
       refine Zk ?_
       refine Zl ?_
       refine Zl ?_
       refine ZH ?_
       refine Z0 ?_
       refine Z1 [0, 1, 2] rfl ?_
       refine sp rfl (PE.move rfl) rfl ?_
       refine sp rfl (PE.gtr rfl rfl) rfl ?_
       refine sp rfl (PE.assign rfl) rfl ?_
       refine Z0 ?_
       refine Z0 ?_
       refine Z1 [0] rfl ?_
       refine sp rfl (PE.assign rfl) rfl ?_
       refine Z7 ?_
       refine Zn (ι := {x : Nat × List Int × Bool // x.1 ≤ t.nst ∧ x.2.1.length = t.nst ∧ (∀ s, s.right t = true → ixr t s < x.1 → PL t (n + 1) s (io x.2.1 (ixr t s))) ∧ (∀ s, s.right t = true → x.1 ≤ ixr t s → PL t n s (io x.2.1 (ixr t s))) ∧ (x.2.2 = true ↔ 0 < n ∧ ∀ j, j < x.1 → bo nw j = bo bf j)}) (fun x => ⟨[(1, .pointer (some ⟨b1, 0, none⟩)), (3, .slice aS t.nst cS), (4, .slice (some ⟨b18, 0, none⟩) t.nst t.nst), (5, .slice (some ⟨bb, ob, none⟩) t.nst cb), (7, .int .i64 n), (8, .slice (some ⟨bn, 0, none⟩) t.nst cN), (11, .bool x.1.2.2), (12, .int .i64 x.1.1)], (bn, cel 4 (Z1u (nw) ++ jn)) :: (b18, cel 3 (ZT (x.1.2.1))) :: (b1, cel 96 (twl t (t.sl (some ⟨ba, oa, none⟩) ca))) :: H, RowsA (some ⟨bb, ob, none⟩) 1 (ZM bf) :: RowsA aS 3 (ZP (sts t)) :: R⟩) (fun x => t.nst - x.1.1) ⟨(0, la, decide ((0 : Int) < n)), by omega, hll, by omega, fun s hs _ => hpl s hs, by simp⟩ ?_ (fun x => ?_)
       ·
        exact Z0i (by repeat' first | exact Sub.nil | apply Sub.cons | rfl | (simp [lk]; omega)) (fun _ h => h)
       ·
        obtain ⟨⟨i, la, sm⟩, hi, hll, hpl1, hpl0, hsm⟩ := x
        dsimp only at hi hll hpl1 hpl0 hsm ⊢
        refine Z0 ?_
        refine Z0 ?_
        refine Z1 [0, 1, 2, 3] rfl ?_
        refine sp rfl (PE.move rfl) rfl ?_
        refine sp rfl (PE.move rfl) rfl ?_
        refine sp rfl (PE.lenSl Z2o rfl) rfl ?_
        refine sp rfl (PE.lss rfl rfl) rfl ?_
        refine Z5 rfl (fun hc4 => ?_) (fun hc4 => ?_)
        ·
         try simp only [decide_eq_true_eq, decide_eq_false_iff_not, Bool.and_eq_true, Bool.or_eq_true, Bool.not_eq_true', Int.not_le, Int.not_lt] at hc4
         obtain ⟨s, hsi⟩ : ∃ s, (sts t)[i]? = some s := ⟨_, List.getElem?_eq_getElem (by rw [Z0s]; omega)⟩
         have hs := Zv ht (List.mem_of_getElem? hsi)
         have hix := Z59 hsi hs
         have hnx := Z5f (l := nw) (i := i) (by omega)
         have hbx := Z5f (l := bf) (i := i) (by omega)
         refine Z3 ?_
         refine Z0 ?_
         refine Z7 ?_
         refine Z0 ?_
         refine Ze [0, 1, 3, 3, 15, 31, 3, 3, 195, 451, 1023, 2047, 4095] (.tk 0 (.tk 1 (.tk 2 (.tk 3 (.tk 4 (.ld 5 (.tk 6 (.tk 7 (.tk 8 (.ld 9 (.tk 10 (.tk 11 (.tk 12 .done))))))))))))) Zy (by kernel_rfl) ?_
         refine tk rfl (PE.move rfl) rfl ?_
         refine tk rfl (PE.move rfl) rfl ?_
         refine Zg (t := 74) rfl (fun g74 => ?_) (fun g74 => ?_)
         ·
          subst g74
          refine tkG rfl rfl rfl rfl (PE.move rfl) rfl ?_
          refine tkG rfl rfl rfl rfl (PE.move rfl) rfl ?_
          refine tkG rfl rfl rfl rfl (PE.indexAddr Z7E rfl rfl (by omega) (by omega)) rfl ?_
          refine ldG rfl rfl rfl rfl rfl (lh (v := .bool (bo nw i)) sc4 rfl (Z8u hnx (by omega))) rfl ?_
          refine tkG rfl rfl rfl rfl (PE.move rfl) rfl ?_
          refine tkG rfl rfl rfl rfl (PE.move rfl) rfl ?_
          refine tkG rfl rfl rfl rfl (PE.indexAddr Z7E rfl rfl (by omega) (by omega)) rfl ?_
          refine ldG rfl rfl rfl rfl rfl (lf0 (x := .bool (bo bf i)) sc4 (Z4d hbx) rfl) rfl ?_
          refine tkG rfl rfl rfl rfl (PE.eqlBool ub4 rfl rfl) rfl ?_
          refine tk rfl (PE.pick rfl rfl rfl) rfl ?_
          refine tk rfl (PE.assign rfl) rfl ?_
          refine Z0 ?_
          refine Z1 [0, 1, 2, 3] rfl ?_
          refine sp rfl (PE.move rfl) rfl ?_
          refine sp rfl (PE.move rfl) rfl ?_
          refine sp rfl (PE.indexAddr Z7E rfl rfl (by omega) (by omega)) rfl ?_
          refine spL rfl rfl (lh (v := .bool (bo nw i)) sc4 rfl (Z8u hnx (by omega))) rfl ?_
          refine Z5 rfl (fun hc5 => ?_) (fun hc5 => ?_)
          ·
           try simp only [decide_eq_true_eq, decide_eq_false_iff_not, Bool.and_eq_true, Bool.or_eq_true, Bool.not_eq_true', Int.not_le, Int.not_lt] at hc5
           have hsv := (hnow s hs).1 (by rw [hix]; exact hc5)
           refine Z1 [0, 1, 2, 3, 4] rfl ?_
           refine sp rfl (PE.move rfl) rfl ?_
           refine sp rfl (PE.move rfl) rfl ?_
           refine sp rfl (PE.move rfl) rfl ?_
           refine sp rfl (PE.indexAddr Z0N rfl rfl (by omega) (by omega)) rfl ?_
           refine Z2R (l' := ZT (la.set i n)) rfl rfl rfl cn3 rfl rfl rfl (Z4B (i := i) (by omega) (by omega)) (by rw [Zp]; show 0 + ((i : Nat) : Int).toNat * 1 + 1 ≤ _; omega) ?_
           refine Z1 [0, 1, 2] rfl ?_
           refine sp rfl (PE.move rfl) rfl ?_
           refine sp rfl (PE.add rfl rfl (by omega)) rfl ?_
           refine sp rfl (PE.assign rfl) rfl ?_
           first
             | exact Zb ⟨(i + 1, la.set i n, bo nw i == bo bf i), by omega, by simp [hll], fun u hu h => by
                 rw [Z0z (by omega)]
                 by_cases e : i = ixr t u
                 · obtain rfl := ZS hs hu (hix.trans e)
                   simp only [e, decide_true, cond_true]; exact (hpl0 s hs (by omega)).yes hsv
                 · simp only [e, decide_false, cond_false]; exact hpl1 u hu (by dsimp only at h; omega), fun u hu h => by
                 rw [Z0z (by omega)]
                 have e : ¬ i = ixr t u := by dsimp only at h; omega
                 simp only [e, decide_false, cond_false]; exact hpl0 u hu (by dsimp only at h; omega), by rw [Z0b, beq_iff_eq]; exact ⟨fun h => ⟨(hsm.1 rfl).1, (hsm.1 rfl).2, h⟩, fun h => h.2.2⟩⟩ (by dsimp only; omega) (by repeat' first | exact Sub.nil | apply Sub.cons | rfl | (simp [lk]; omega)) (fun _ h => h)
             | exact Zb ⟨(i + 1, la, bo nw i == bo bf i), by omega, hll, fun u hu h => by
                 rcases Nat.lt_or_ge (ixr t u) i with h4 | h4
                 · exact hpl1 u hu h4
                 · obtain rfl := ZS hs hu (by dsimp only at h; omega)
                   exact (hpl0 s hs (by omega)).no hsv, fun u hu h => hpl0 u hu (by dsimp only at h; omega), by rw [Z0b, beq_iff_eq]; exact ⟨fun h => ⟨(hsm.1 rfl).1, (hsm.1 rfl).2, h⟩, fun h => h.2.2⟩⟩ (by dsimp only; omega) (by repeat' first | exact Sub.nil | apply Sub.cons | rfl | (simp [lk]; omega)) (fun _ h => h)
             | exact Zb ⟨(i + 1, la.set i n, false), by omega, by simp [hll], fun u hu h => by
                 rw [Z0z (by omega)]
                 by_cases e : i = ixr t u
                 · obtain rfl := ZS hs hu (hix.trans e)
                   simp only [e, decide_true, cond_true]; exact (hpl0 s hs (by omega)).yes hsv
                 · simp only [e, decide_false, cond_false]; exact hpl1 u hu (by dsimp only at h; omega), fun u hu h => by
                 rw [Z0z (by omega)]
                 have e : ¬ i = ixr t u := by dsimp only at h; omega
                 simp only [e, decide_false, cond_false]; exact hpl0 u hu (by dsimp only at h; omega), by rw [Z0b]; exact ⟨fun h => (by cases h), fun h => hsm.2 ⟨h.1, h.2.1⟩⟩⟩ (by dsimp only; omega) (by repeat' first | exact Sub.nil | apply Sub.cons | rfl | (simp [lk]; omega)) (fun _ h => h)
             | exact Zb ⟨(i + 1, la, false), by omega, hll, fun u hu h => by
                 rcases Nat.lt_or_ge (ixr t u) i with h4 | h4
                 · exact hpl1 u hu h4
                 · obtain rfl := ZS hs hu (by dsimp only at h; omega)
                   exact (hpl0 s hs (by omega)).no hsv, fun u hu h => hpl0 u hu (by dsimp only at h; omega), by rw [Z0b]; exact ⟨fun h => (by cases h), fun h => hsm.2 ⟨h.1, h.2.1⟩⟩⟩ (by dsimp only; omega) (by repeat' first | exact Sub.nil | apply Sub.cons | rfl | (simp [lk]; omega)) (fun _ h => h)
          ·
           try simp only [decide_eq_true_eq, decide_eq_false_iff_not, Bool.and_eq_true, Bool.or_eq_true, Bool.not_eq_true', Int.not_le, Int.not_lt] at hc5
           have hsv : ¬ Srv t n s := fun h => by rw [← hnow s hs, hix, hc5] at h; cases h
           refine Z3 ?_
           refine Z1 [0, 1, 2] rfl ?_
           refine sp rfl (PE.move rfl) rfl ?_
           refine sp rfl (PE.add rfl rfl (by omega)) rfl ?_
           refine sp rfl (PE.assign rfl) rfl ?_
           first
             | exact Zb ⟨(i + 1, la.set i n, bo nw i == bo bf i), by omega, by simp [hll], fun u hu h => by
                 rw [Z0z (by omega)]
                 by_cases e : i = ixr t u
                 · obtain rfl := ZS hs hu (hix.trans e)
                   simp only [e, decide_true, cond_true]; exact (hpl0 s hs (by omega)).yes hsv
                 · simp only [e, decide_false, cond_false]; exact hpl1 u hu (by dsimp only at h; omega), fun u hu h => by
                 rw [Z0z (by omega)]
                 have e : ¬ i = ixr t u := by dsimp only at h; omega
                 simp only [e, decide_false, cond_false]; exact hpl0 u hu (by dsimp only at h; omega), by rw [Z0b, beq_iff_eq]; exact ⟨fun h => ⟨(hsm.1 rfl).1, (hsm.1 rfl).2, h⟩, fun h => h.2.2⟩⟩ (by dsimp only; omega) (by repeat' first | exact Sub.nil | apply Sub.cons | rfl | (simp [lk]; omega)) (fun _ h => h)
             | exact Zb ⟨(i + 1, la, bo nw i == bo bf i), by omega, hll, fun u hu h => by
                 rcases Nat.lt_or_ge (ixr t u) i with h4 | h4
                 · exact hpl1 u hu h4
                 · obtain rfl := ZS hs hu (by dsimp only at h; omega)
                   exact (hpl0 s hs (by omega)).no hsv, fun u hu h => hpl0 u hu (by dsimp only at h; omega), by rw [Z0b, beq_iff_eq]; exact ⟨fun h => ⟨(hsm.1 rfl).1, (hsm.1 rfl).2, h⟩, fun h => h.2.2⟩⟩ (by dsimp only; omega) (by repeat' first | exact Sub.nil | apply Sub.cons | rfl | (simp [lk]; omega)) (fun _ h => h)
             | exact Zb ⟨(i + 1, la.set i n, false), by omega, by simp [hll], fun u hu h => by
                 rw [Z0z (by omega)]
                 by_cases e : i = ixr t u
                 · obtain rfl := ZS hs hu (hix.trans e)
                   simp only [e, decide_true, cond_true]; exact (hpl0 s hs (by omega)).yes hsv
                 · simp only [e, decide_false, cond_false]; exact hpl1 u hu (by dsimp only at h; omega), fun u hu h => by
                 rw [Z0z (by omega)]
                 have e : ¬ i = ixr t u := by dsimp only at h; omega
                 simp only [e, decide_false, cond_false]; exact hpl0 u hu (by dsimp only at h; omega), by rw [Z0b]; exact ⟨fun h => (by cases h), fun h => hsm.2 ⟨h.1, h.2.1⟩⟩⟩ (by dsimp only; omega) (by repeat' first | exact Sub.nil | apply Sub.cons | rfl | (simp [lk]; omega)) (fun _ h => h)
             | exact Zb ⟨(i + 1, la, false), by omega, hll, fun u hu h => by
                 rcases Nat.lt_or_ge (ixr t u) i with h4 | h4
                 · exact hpl1 u hu h4
                 · obtain rfl := ZS hs hu (by dsimp only at h; omega)
                   exact (hpl0 s hs (by omega)).no hsv, fun u hu h => hpl0 u hu (by dsimp only at h; omega), by rw [Z0b]; exact ⟨fun h => (by cases h), fun h => hsm.2 ⟨h.1, h.2.1⟩⟩⟩ (by dsimp only; omega) (by repeat' first | exact Sub.nil | apply Sub.cons | rfl | (simp [lk]; omega)) (fun _ h => h)
         ·
          subst g74
          refine tkN rfl rfl rfl rfl rfl rfl rfl rfl ?_
          refine tkN rfl rfl rfl rfl rfl rfl rfl rfl ?_
          refine tkN rfl rfl rfl rfl rfl rfl rfl rfl ?_
          refine ldN rfl rfl rfl rfl rfl rfl rfl rfl ?_
          refine tkN rfl rfl rfl rfl rfl rfl rfl rfl ?_
          refine tkN rfl rfl rfl rfl rfl rfl rfl rfl ?_
          refine tkN rfl rfl rfl rfl rfl rfl rfl rfl ?_
          refine ldN rfl rfl rfl rfl rfl rfl rfl rfl ?_
          refine tkN rfl rfl rfl rfl rfl rfl rfl rfl ?_
          refine tk rfl (PE.pick rfl rfl rfl) rfl ?_
          refine tk rfl (PE.assign rfl) rfl ?_
          refine Z0 ?_
          refine Z1 [0, 1, 2, 3] rfl ?_
          refine sp rfl (PE.move rfl) rfl ?_
          refine sp rfl (PE.move rfl) rfl ?_
          refine sp rfl (PE.indexAddr Z7E rfl rfl (by omega) (by omega)) rfl ?_
          refine spL rfl rfl (lh (v := .bool (bo nw i)) sc4 rfl (Z8u hnx (by omega))) rfl ?_
          refine Z5 rfl (fun hc5 => ?_) (fun hc5 => ?_)
          ·
           try simp only [decide_eq_true_eq, decide_eq_false_iff_not, Bool.and_eq_true, Bool.or_eq_true, Bool.not_eq_true', Int.not_le, Int.not_lt] at hc5
           have hsv := (hnow s hs).1 (by rw [hix]; exact hc5)
           refine Z1 [0, 1, 2, 3, 4] rfl ?_
           refine sp rfl (PE.move rfl) rfl ?_
           refine sp rfl (PE.move rfl) rfl ?_
           refine sp rfl (PE.move rfl) rfl ?_
           refine sp rfl (PE.indexAddr Z0N rfl rfl (by omega) (by omega)) rfl ?_
           refine Z2R (l' := ZT (la.set i n)) rfl rfl rfl cn3 rfl rfl rfl (Z4B (i := i) (by omega) (by omega)) (by rw [Zp]; show 0 + ((i : Nat) : Int).toNat * 1 + 1 ≤ _; omega) ?_
           refine Z1 [0, 1, 2] rfl ?_
           refine sp rfl (PE.move rfl) rfl ?_
           refine sp rfl (PE.add rfl rfl (by omega)) rfl ?_
           refine sp rfl (PE.assign rfl) rfl ?_
           first
             | exact Zb ⟨(i + 1, la.set i n, bo nw i == bo bf i), by omega, by simp [hll], fun u hu h => by
                 rw [Z0z (by omega)]
                 by_cases e : i = ixr t u
                 · obtain rfl := ZS hs hu (hix.trans e)
                   simp only [e, decide_true, cond_true]; exact (hpl0 s hs (by omega)).yes hsv
                 · simp only [e, decide_false, cond_false]; exact hpl1 u hu (by dsimp only at h; omega), fun u hu h => by
                 rw [Z0z (by omega)]
                 have e : ¬ i = ixr t u := by dsimp only at h; omega
                 simp only [e, decide_false, cond_false]; exact hpl0 u hu (by dsimp only at h; omega), by rw [Z0b, beq_iff_eq]; exact ⟨fun h => ⟨(hsm.1 rfl).1, (hsm.1 rfl).2, h⟩, fun h => h.2.2⟩⟩ (by dsimp only; omega) (by repeat' first | exact Sub.nil | apply Sub.cons | rfl | (simp [lk]; omega)) (fun _ h => h)
             | exact Zb ⟨(i + 1, la, bo nw i == bo bf i), by omega, hll, fun u hu h => by
                 rcases Nat.lt_or_ge (ixr t u) i with h4 | h4
                 · exact hpl1 u hu h4
                 · obtain rfl := ZS hs hu (by dsimp only at h; omega)
                   exact (hpl0 s hs (by omega)).no hsv, fun u hu h => hpl0 u hu (by dsimp only at h; omega), by rw [Z0b, beq_iff_eq]; exact ⟨fun h => ⟨(hsm.1 rfl).1, (hsm.1 rfl).2, h⟩, fun h => h.2.2⟩⟩ (by dsimp only; omega) (by repeat' first | exact Sub.nil | apply Sub.cons | rfl | (simp [lk]; omega)) (fun _ h => h)
             | exact Zb ⟨(i + 1, la.set i n, false), by omega, by simp [hll], fun u hu h => by
                 rw [Z0z (by omega)]
                 by_cases e : i = ixr t u
                 · obtain rfl := ZS hs hu (hix.trans e)
                   simp only [e, decide_true, cond_true]; exact (hpl0 s hs (by omega)).yes hsv
                 · simp only [e, decide_false, cond_false]; exact hpl1 u hu (by dsimp only at h; omega), fun u hu h => by
                 rw [Z0z (by omega)]
                 have e : ¬ i = ixr t u := by dsimp only at h; omega
                 simp only [e, decide_false, cond_false]; exact hpl0 u hu (by dsimp only at h; omega), by rw [Z0b]; exact ⟨fun h => (by cases h), fun h => hsm.2 ⟨h.1, h.2.1⟩⟩⟩ (by dsimp only; omega) (by repeat' first | exact Sub.nil | apply Sub.cons | rfl | (simp [lk]; omega)) (fun _ h => h)
             | exact Zb ⟨(i + 1, la, false), by omega, hll, fun u hu h => by
                 rcases Nat.lt_or_ge (ixr t u) i with h4 | h4
                 · exact hpl1 u hu h4
                 · obtain rfl := ZS hs hu (by dsimp only at h; omega)
                   exact (hpl0 s hs (by omega)).no hsv, fun u hu h => hpl0 u hu (by dsimp only at h; omega), by rw [Z0b]; exact ⟨fun h => (by cases h), fun h => hsm.2 ⟨h.1, h.2.1⟩⟩⟩ (by dsimp only; omega) (by repeat' first | exact Sub.nil | apply Sub.cons | rfl | (simp [lk]; omega)) (fun _ h => h)
          ·
           try simp only [decide_eq_true_eq, decide_eq_false_iff_not, Bool.and_eq_true, Bool.or_eq_true, Bool.not_eq_true', Int.not_le, Int.not_lt] at hc5
           have hsv : ¬ Srv t n s := fun h => by rw [← hnow s hs, hix, hc5] at h; cases h
           refine Z3 ?_
           refine Z1 [0, 1, 2] rfl ?_
           refine sp rfl (PE.move rfl) rfl ?_
           refine sp rfl (PE.add rfl rfl (by omega)) rfl ?_
           refine sp rfl (PE.assign rfl) rfl ?_
           first
             | exact Zb ⟨(i + 1, la.set i n, bo nw i == bo bf i), by omega, by simp [hll], fun u hu h => by
                 rw [Z0z (by omega)]
                 by_cases e : i = ixr t u
                 · obtain rfl := ZS hs hu (hix.trans e)
                   simp only [e, decide_true, cond_true]; exact (hpl0 s hs (by omega)).yes hsv
                 · simp only [e, decide_false, cond_false]; exact hpl1 u hu (by dsimp only at h; omega), fun u hu h => by
                 rw [Z0z (by omega)]
                 have e : ¬ i = ixr t u := by dsimp only at h; omega
                 simp only [e, decide_false, cond_false]; exact hpl0 u hu (by dsimp only at h; omega), by rw [Z0b, beq_iff_eq]; exact ⟨fun h => ⟨(hsm.1 rfl).1, (hsm.1 rfl).2, h⟩, fun h => h.2.2⟩⟩ (by dsimp only; omega) (by repeat' first | exact Sub.nil | apply Sub.cons | rfl | (simp [lk]; omega)) (fun _ h => h)
             | exact Zb ⟨(i + 1, la, bo nw i == bo bf i), by omega, hll, fun u hu h => by
                 rcases Nat.lt_or_ge (ixr t u) i with h4 | h4
                 · exact hpl1 u hu h4
                 · obtain rfl := ZS hs hu (by dsimp only at h; omega)
                   exact (hpl0 s hs (by omega)).no hsv, fun u hu h => hpl0 u hu (by dsimp only at h; omega), by rw [Z0b, beq_iff_eq]; exact ⟨fun h => ⟨(hsm.1 rfl).1, (hsm.1 rfl).2, h⟩, fun h => h.2.2⟩⟩ (by dsimp only; omega) (by repeat' first | exact Sub.nil | apply Sub.cons | rfl | (simp [lk]; omega)) (fun _ h => h)
             | exact Zb ⟨(i + 1, la.set i n, false), by omega, by simp [hll], fun u hu h => by
                 rw [Z0z (by omega)]
                 by_cases e : i = ixr t u
                 · obtain rfl := ZS hs hu (hix.trans e)
                   simp only [e, decide_true, cond_true]; exact (hpl0 s hs (by omega)).yes hsv
                 · simp only [e, decide_false, cond_false]; exact hpl1 u hu (by dsimp only at h; omega), fun u hu h => by
                 rw [Z0z (by omega)]
                 have e : ¬ i = ixr t u := by dsimp only at h; omega
                 simp only [e, decide_false, cond_false]; exact hpl0 u hu (by dsimp only at h; omega), by rw [Z0b]; exact ⟨fun h => (by cases h), fun h => hsm.2 ⟨h.1, h.2.1⟩⟩⟩ (by dsimp only; omega) (by repeat' first | exact Sub.nil | apply Sub.cons | rfl | (simp [lk]; omega)) (fun _ h => h)
             | exact Zb ⟨(i + 1, la, false), by omega, hll, fun u hu h => by
                 rcases Nat.lt_or_ge (ixr t u) i with h4 | h4
                 · exact hpl1 u hu h4
                 · obtain rfl := ZS hs hu (by dsimp only at h; omega)
                   exact (hpl0 s hs (by omega)).no hsv, fun u hu h => hpl0 u hu (by dsimp only at h; omega), by rw [Z0b]; exact ⟨fun h => (by cases h), fun h => hsm.2 ⟨h.1, h.2.1⟩⟩⟩ (by dsimp only; omega) (by repeat' first | exact Sub.nil | apply Sub.cons | rfl | (simp [lk]; omega)) (fun _ h => h)
        ·
         try simp only [decide_eq_true_eq, decide_eq_false_iff_not, Bool.and_eq_true, Bool.or_eq_true, Bool.not_eq_true', Int.not_le, Int.not_lt] at hc4
         obtain rfl : i = t.nst := by omega
         refine Zk ?_
         refine Zl ?_
         refine Zl ?_
         refine ZH ?_
         refine Z0 ?_
         refine Z0 ?_
         refine Z1 [0] rfl ?_
         refine sp rfl (PE.move rfl) rfl ?_
         refine Z5 rfl (fun hc6 => ?_) (fun hc6 => ?_)
         ·
          subst hc6
          obtain ⟨hn0, hsame⟩ := hsm.1 rfl
          refine Z0 ?_
          refine Z0 ?_
          refine Z1 [0] rfl ?_
          refine sp rfl (PE.assign rfl) rfl ?_
          refine Z7 ?_
          have hbs : ∀ s, s.right t = true → (Bf t n s ↔ Srv t n s) := fun s hs => by rw [← hbf s hs, ← hnow s hs, hsame _ (ZR hs)]
          refine Zn (ι := {x : Nat × List Int // x.1 ≤ t.nst ∧ x.2.length = t.nst ∧ (∀ s, s.right t = true → ixr t s < x.1 → LS t s (io x.2 (ixr t s))) ∧ (∀ s, s.right t = true → x.1 ≤ ixr t s → PL t (n + 1) s (io x.2 (ixr t s)))}) (fun x => ⟨[(1, .pointer (some ⟨b1, 0, none⟩)), (3, .slice aS t.nst cS), (4, .slice (some ⟨b18, 0, none⟩) t.nst t.nst), (8, .slice (some ⟨bn, 0, none⟩) t.nst cN), (13, .int .i64 x.1.1)], (bn, cel 4 (Z1u (nw) ++ jn)) :: (b18, cel 3 (ZT (x.1.2))) :: (b1, cel 96 (twl t (t.sl (some ⟨ba, oa, none⟩) ca))) :: H, RowsA (some ⟨bb, ob, none⟩) 1 (ZM bf) :: RowsA aS 3 (ZP (sts t)) :: R⟩) (fun x => t.nst - x.1.1) ⟨(0, la), by omega, hll, by omega, fun s hs _ => hpl1 s hs (ZR hs)⟩ ?_ (fun x => ?_)
          ·
           exact Z0i (by repeat' first | exact Sub.nil | apply Sub.cons | rfl | (simp [lk]; omega)) (fun _ h => h)
          ·
           obtain ⟨⟨i, la⟩, hi, hll, hls, hpl1⟩ := x
           dsimp only at hi hll hls hpl1 ⊢
           refine Z0 ?_
           refine Z0 ?_
           refine Z1 [0, 1, 2, 3] rfl ?_
           refine sp rfl (PE.move rfl) rfl ?_
           refine sp rfl (PE.move rfl) rfl ?_
           refine sp rfl (PE.lenSl Z2o rfl) rfl ?_
           refine sp rfl (PE.lss rfl rfl) rfl ?_
           refine Z5 rfl (fun hc7 => ?_) (fun hc7 => ?_)
           ·
            try simp only [decide_eq_true_eq, decide_eq_false_iff_not, Bool.and_eq_true, Bool.or_eq_true, Bool.not_eq_true', Int.not_le, Int.not_lt] at hc7
            obtain ⟨s, hsi⟩ : ∃ s, (sts t)[i]? = some s := ⟨_, List.getElem?_eq_getElem (by rw [Z0s]; omega)⟩
            have hs := Zv ht (List.mem_of_getElem? hsi)
            have hix := Z59 hsi hs
            have hnx := Z5f (l := nw) (i := i) (by omega)
            refine Z3 ?_
            refine Z0 ?_
            refine Z7 ?_
            refine Z0 ?_
            refine Z1 [0, 1, 2, 3] rfl ?_
            refine sp rfl (PE.move rfl) rfl ?_
            refine sp rfl (PE.move rfl) rfl ?_
            refine sp rfl (PE.indexAddr Z7E rfl rfl (by omega) (by omega)) rfl ?_
            refine spL rfl rfl (lh (v := .bool (bo nw i)) sc4 rfl (Z8u hnx (by omega))) rfl ?_
            refine Z5 rfl (fun hc8 => ?_) (fun hc8 => ?_)
            ·
             try simp only [decide_eq_true_eq, decide_eq_false_iff_not, Bool.and_eq_true, Bool.or_eq_true, Bool.not_eq_true', Int.not_le, Int.not_lt] at hc8
             have hsv := (hnow s hs).1 (by rw [hix]; exact hc8)
             have hlast : LS t s 1000000 := .inl ⟨rfl, fun m => by
               rcases Nat.le_total n m with h | h
               · exact Z8c hn0 (fun u hb => (hbs u (ZaN hn0 hb)).1 hb) m h hsv
               · exact Z4o h hsv⟩
             refine Z1 [0, 1, 2, 3] rfl ?_
             refine sp rfl (PE.move rfl) rfl ?_
             refine sp rfl (PE.move rfl) rfl ?_
             refine sp rfl (PE.indexAddr Z0N rfl rfl (by omega) (by omega)) rfl ?_
             refine Z2R (l' := ZT (la.set i 1000000)) rfl rfl rfl cn3 rfl rfl rfl (Z4B (i := i) (by omega) (by omega)) (by rw [Zp]; show 0 + ((i : Nat) : Int).toNat * 1 + 1 ≤ _; omega) ?_
             refine Z1 [0, 1, 2] rfl ?_
             refine sp rfl (PE.move rfl) rfl ?_
             refine sp rfl (PE.add rfl rfl (by omega)) rfl ?_
             refine sp rfl (PE.assign rfl) rfl ?_
             first
               | exact Zb ⟨(i + 1, la.set i 1000000), by omega, by simp [hll], fun u hu h => by
                   rw [Z0z (by omega)]
                   by_cases e : i = ixr t u
                   · obtain rfl := ZS hs hu (hix.trans e)
                     simp only [e, decide_true, cond_true]; exact hlast
                   · simp only [e, decide_false, cond_false]; exact hls u hu (by dsimp only at h; omega), fun u hu h => by
                   rw [Z0z (by omega)]
                   have e : ¬ i = ixr t u := by dsimp only at h; omega
                   simp only [e, decide_false, cond_false]; exact hpl1 u hu (by dsimp only at h; omega)⟩ (by dsimp only; omega) (by repeat' first | exact Sub.nil | apply Sub.cons | rfl | (simp [lk]; omega)) (fun _ h => h)
               | exact Zb ⟨(i + 1, la), by omega, hll, fun u hu h => by
                   rcases Nat.lt_or_ge (ixr t u) i with h4 | h4
                   · exact hls u hu h4
                   · obtain rfl := ZS hs hu (by dsimp only at h; omega)
                     exact hlast, fun u hu h => hpl1 u hu (by dsimp only at h; omega)⟩ (by dsimp only; omega) (by repeat' first | exact Sub.nil | apply Sub.cons | rfl | (simp [lk]; omega)) (fun _ h => h)
            ·
             try simp only [decide_eq_true_eq, decide_eq_false_iff_not, Bool.and_eq_true, Bool.or_eq_true, Bool.not_eq_true', Int.not_le, Int.not_lt] at hc8
             have hsv : ¬ Srv t n s := fun h => by rw [← hnow s hs, hix, hc8] at h; cases h
             have hlast := (hpl1 s hs (by omega)).end_ hn0 (by omega) (fun h => hsv ((hbs s hs).1 h))
             refine Z3 ?_
             refine Z1 [0, 1, 2] rfl ?_
             refine sp rfl (PE.move rfl) rfl ?_
             refine sp rfl (PE.add rfl rfl (by omega)) rfl ?_
             refine sp rfl (PE.assign rfl) rfl ?_
             first
               | exact Zb ⟨(i + 1, la.set i 1000000), by omega, by simp [hll], fun u hu h => by
                   rw [Z0z (by omega)]
                   by_cases e : i = ixr t u
                   · obtain rfl := ZS hs hu (hix.trans e)
                     simp only [e, decide_true, cond_true]; exact hlast
                   · simp only [e, decide_false, cond_false]; exact hls u hu (by dsimp only at h; omega), fun u hu h => by
                   rw [Z0z (by omega)]
                   have e : ¬ i = ixr t u := by dsimp only at h; omega
                   simp only [e, decide_false, cond_false]; exact hpl1 u hu (by dsimp only at h; omega)⟩ (by dsimp only; omega) (by repeat' first | exact Sub.nil | apply Sub.cons | rfl | (simp [lk]; omega)) (fun _ h => h)
               | exact Zb ⟨(i + 1, la), by omega, hll, fun u hu h => by
                   rcases Nat.lt_or_ge (ixr t u) i with h4 | h4
                   · exact hls u hu h4
                   · obtain rfl := ZS hs hu (by dsimp only at h; omega)
                     exact hlast, fun u hu h => hpl1 u hu (by dsimp only at h; omega)⟩ (by dsimp only; omega) (by repeat' first | exact Sub.nil | apply Sub.cons | rfl | (simp [lk]; omega)) (fun _ h => h)
           ·
            try simp only [decide_eq_true_eq, decide_eq_false_iff_not, Bool.and_eq_true, Bool.or_eq_true, Bool.not_eq_true', Int.not_le, Int.not_lt] at hc7
            obtain rfl : i = t.nst := by omega
            refine Zk ?_
            refine Zl ?_
            refine Zl ?_
            refine ZH ?_
            refine Z0 ?_
            refine Z1 [0, 1] rfl ?_
            refine sp rfl (PE.move rfl) rfl ?_
            refine sp rfl (PE.assign rfl) rfl ?_
            refine Z4 ?_
            exact Z2 (vs := [_]) rfl (.cons (RV.tmp rfl) .nil) rfl ⟨b18, la, ⟨hll, fun s hs => hls s hs (ZR hs)⟩, rfl, rfl, rfl⟩ (fun w h => ((h.del bn).del b1 : St _ _ _).ftail.ftail)
         ·
          subst hc6
          refine Z3 ?_
          refine Z1 [0, 1] rfl ?_
          refine sp rfl (PE.move rfl) rfl ?_
          refine sp rfl (PE.assign rfl) rfl ?_
          refine Z1 [0, 1, 2] rfl ?_
          refine sp rfl (PE.move rfl) rfl ?_
          refine sp rfl (PE.add rfl rfl (by omega)) rfl ?_
          refine sp rfl (PE.assign rfl) rfl ?_
          have hcnt := ZcX (a := nw) (b := bf) (by omega) (fun i hi h => by
            obtain ⟨s, hsi⟩ : ∃ s, (sts t)[i]? = some s := ⟨_, List.getElem?_eq_getElem (by rw [Z0s]; omega)⟩
            have hs := Zv ht (List.mem_of_getElem? hsi)
            have hix := Z59 hsi hs
            rw [← hix]; exact hsub s hs (by rw [hix]; exact h))
          refine Sy.heap (fun w h => St.boolRows h) ?_
          exact Zb ⟨(n + 1, (bn, 0, cN), nw, la), hnl, hll, fun s hs => hnow s hs, fun s hs => hpl1 s hs (ZR hs), .inr (by
            dsimp only
            rcases hcn with h0 | h0
            · omega
            · rcases Nat.eq_zero_or_pos n with h1 | h1
              · omega
              · have : ∃ i, i < nw.length ∧ bo nw i ≠ bo bf i := by
                  false_or_by_contra
                  rename_i hno
                  have := hsm.2 ⟨h1, fun j hj => by
                    false_or_by_contra
                    exact hno ⟨j, by omega, by assumption⟩⟩
                  cases this
                have := hcnt.2 this
                omega)⟩ (by dsimp only; omega) (by repeat' first | exact Sub.nil | apply Sub.cons | rfl | (simp [lk]; omega)) (fun _ h => St.sub h)
end Go.Proofs.YthhdgeibokecjaaGreat.Bd
namespace Go.Proofs.YthhdgeibokecjaaGreat.Bd
set_option linter.unusedSimpArgs false
set_option linter.unusedVariables false
noncomputable def LV (t : Twn) (s : Sta) : Int := Classical.epsilon fun v : Int => LS t s v
theorem LS.lv {t : Twn} {s : Sta} {v : Int} (h : LS t s v) : v = LV t s := LS.uniq h (Classical.epsilon_spec (p := fun v => LS t s v) ⟨v, h⟩)
noncomputable def LY (t : Twn) : List Int := mkY (LV t)
theorem Zdp (t : Twn) : (LY t).length = 496 := by simp [LY, mkY]
theorem LSA.same {t : Twn} (ht : t.ok) {y : List Int} (h : LSA t y) : ZcV t y (LY t) := fun s hs => (h s hs).lv.trans (Z9W ht (LV t) hs).symm
theorem LSA.ly {t : Twn} (ht : t.ok) {y : List Int} (h : LSA t y) : LSA t (LY t) := fun s hs => by rw [← h.same ht s hs]; exact h s hs
theorem SolR.ly {t : Twn} (ht : t.ok) {la : List Int} (h : SolR t la) : Rel t la (LY t) ∧ LSA t (LY t) := by
  have e : ∀ u, u.right t = true → io la (ixr t u) = lat (LY t) u := fun u hu => (h.2 u hu).lv.trans (Z9W ht (LV t) hu).symm
  exact ⟨⟨h.1, Zdp t, e⟩, fun s hs => by rw [← e s hs]; exact h.2 s hs⟩
attribute [irreducible] LY
noncomputable def Z0Z (t : Twn) : Int × Int := bif decide (t.check ≠ 0) then (0, t.check) else (lat (LY t) t.now, 0)
noncomputable def Z1l (t : Twn) (s : Sta) : Int × Int := bif decide (t.check ≠ 0) then (0, t.check) else bif !(s.right t) then (0, 3) else (lat (LY t) s, 0)
noncomputable def Z2C (t : Twn) : List Int × Int := bif decide (t.check ≠ 0) then ([], t.check) else bif decide (lat (LY t) t.now = -1) then ([], 6) else
  (Z10 (fun q => t.keeps (LY t) t.now q (lat (LY t) t.now)) t.rats t.rats.length, 0)
def Z5L (t : Twn) (y : List Int) (bads : Int) : Option Int := ((sts t).find? (Z1v t y bads)).map (·.stock)
noncomputable def Z4O (t : Twn) (bads : Int) : Int × Int := bif decide (t.check ≠ 0) then (0, t.check) else bif !(inb bads 0 1000000) then (0, 3) else match Z5L t (LY t) bads with
  | some k => (k, 0)
  | none => (0, 6)
theorem Zde {t : Twn} {v : Value} (h : (t.check ≠ 0 ∧ v = .tuple #[.int .i64 0, .int .i64 t.check]) ∨ (t.check = 0 ∧ ∃ σ, Z3w t σ ∧ v = .tuple #[.int .i64 (lat σ.y t.now), .int .i64 0])) :
    v = .tuple #[.int .i64 (Z0Z t).1, .int .i64 (Z0Z t).2] := by
  rcases h with ⟨h, rfl⟩ | ⟨h, σ, hσ, rfl⟩
  · simp [Z0Z, h]
  · have hok := (Zi h).1
    rw [(Z0P hok hσ).same hok _ hok.now]
    simp [Z0Z, h]
theorem Zdj {t : Twn} {bads : Int} {v : Value} (h : (t.check ≠ 0 ∧ v = .tuple #[.int .i64 0, .int .i64 t.check]) ∨ (t.check = 0 ∧ inb bads 0 1000000 = false ∧ v = .tuple #[.int .i64 0, .int .i64 3]) ∨ (t.check = 0 ∧ inb bads 0 1000000 = true ∧ ∃ σ, Z3w t σ ∧ v = Z33 t σ.y bads)) :
    v = .tuple #[.int .i64 (Z4O t bads).1, .int .i64 (Z4O t bads).2] := by
  rcases h with ⟨h, rfl⟩ | ⟨h, h2, rfl⟩ | ⟨h, h2, σ, hσ, rfl⟩
  · simp [Z4O, h]
  · unfold Z4O; rw [h2]; simp [h]
  · have hok := (Zi h).1
    have e : Z33 t σ.y bads = Z33 t (LY t) bads := by
      unfold Z33
      rw [Z3u (q := Z1v t (LY t) bads) (fun s hs => by unfold Z1v; rw [(Z0P hok hσ).same hok _ (Zv hok hs)])]
    rw [e]
    unfold Z4O Z33 Z5L
    rw [h2]
    cases (sts t).find? (Z1v t (LY t) bads) <;> simp [h]
theorem Zfe {t : Twn} {σ : Sv} (h : t.check = 0) (hσ : Z3w t σ) (hn : lat σ.y t.now ≠ -1) : Z2C t = (Z10 (fun q => t.keeps σ.y t.now q (lat σ.y t.now)) t.rats t.rats.length, 0) := by
  have hok := (Zi h).1
  have hs := (Z0P hok hσ).same hok
  unfold Z2C
  rw [← hs _ hok.now, Z4w (p' := fun q => t.keeps (LY t) t.now q (lat σ.y t.now)) (p := fun q => t.keeps σ.y t.now q (lat σ.y t.now)) (fun q hq => Z1U hok hs hok.now hq _)]
  simp [h, hn]
theorem Zdy {t : Twn} {σ : Sv} (h : t.check = 0) (hσ : Z3w t σ) (hn : lat σ.y t.now = -1) : Z2C t = ([], 6) := by
  have hok := (Zi h).1
  have hs := (Z0P hok hσ).same hok
  unfold Z2C
  rw [← hs _ hok.now]
  simp [h, hn]
theorem Zaz {t : Twn} (ht : t.ok) {y : List Int} {bads : Int} {k : Nat} (hk : (k : Int) ≤ t.holds) (h : bads ≤ lat y ⟨k, t.now.short, t.now.dry⟩) (hno : ∀ j : Nat, j < k → ¬ bads ≤ lat y ⟨j, t.now.short, t.now.dry⟩) : Z5L t y bads = some k := by
  have hn := right_iff.1 ht.now
  have hs : Sta.right t ⟨k, t.now.short, t.now.dry⟩ = true := right_iff.2 ⟨⟨by simp, hk⟩, hn.2⟩
  obtain ⟨h1, _⟩ := Z4b hs
  unfold Z5L
  rw [Z7e h1 (fun i z hi hz => ?_) (by simp [Z1v, h])]
  · rfl
  · have hz2 := Zv ht (List.mem_of_getElem? hz)
    have hzi := Z59 hz hz2
    have hzr := right_iff.1 hz2
    cases hp : Z1v t y bads z with
    | false => rfl
    | true =>
      simp only [Z1v, Bool.and_eq_true, decide_eq_true_eq] at hp
      exfalso
      obtain ⟨a, b, c⟩ := z
      simp only at hp hzr
      obtain ⟨⟨rfl, rfl⟩, hp⟩ := hp
      have e : a = (a.toNat : Int) := by omega
      rw [e] at hp
      refine hno a.toNat ?_ hp
      unfold ixr at hzi hi
      simp only at hzi hi
      rw [← hzi] at hi
      rcases Nat.lt_or_ge a.toNat k with h5 | h5
      · exact h5
      · exfalso
        have : (((k : Int).toNat * (t.patience.toNat + 1) + t.now.short.toNat) * (t.run.toNat + 1) + t.now.dry.toNat) ≤ ((a.toNat * (t.patience.toNat + 1) + t.now.short.toNat) * (t.run.toNat + 1) + t.now.dry.toNat) :=
          Nat.add_le_add_right (Nat.mul_le_mul_right _ (Nat.add_le_add_right (Nat.mul_le_mul_right _ (by simpa using h5)) _)) _
        omega
theorem Z90 {t : Twn} (ht : t.ok) {y : List Int} {bads : Int} (hno : ∀ j : Nat, (j : Int) ≤ t.holds → ¬ bads ≤ lat y ⟨j, t.now.short, t.now.dry⟩) : Z5L t y bads = none := by
  unfold Z5L
  rw [Option.map_eq_none_iff, List.find?_eq_none]
  intro z hz hp
  have hzr := right_iff.1 (Zv ht hz)
  simp only [Z1v, Bool.and_eq_true, decide_eq_true_eq] at hp
  obtain ⟨a, b, c⟩ := z
  simp only at hp hzr
  obtain ⟨⟨rfl, rfl⟩, hp⟩ := hp
  have e : a = (a.toNat : Int) := by omega
  rw [e] at hp
  exact hno a.toNat (by omega) hp
end Go.Proofs.YthhdgeibokecjaaGreat.Bd
