/- Walks of the functions of the program, and the laws that join them: what the last theorem of this claim needs, in order. -/
import Derived.Test.YtjoajfdnlomapaaGreatPt2
namespace Go.Proofs.YtjoajfdnlomapaaGreat.Lo
set_option linter.unusedSimpArgs false
set_option linter.unusedVariables false
open Go
theorem Z46 : Z0Z Tryz.prog 52 = some 7 := by kernel_rfl
theorem Z5M : cal Tryz.prog 162 = true := by kernel_rfl
theorem ZcP : cal Tryz.prog 77 = true := by kernel_rfl
theorem Zaa : cal Tryz.prog 78 = true := by kernel_rfl
theorem Zep : cal Tryz.prog 82 = true := by kernel_rfl
theorem ZgQ : cal Tryz.prog 83 = true := by kernel_rfl
theorem ZeV : cal Tryz.prog 85 = true := by kernel_rfl
theorem Zgw : cal Tryz.prog 86 = true := by kernel_rfl
theorem Zci : cal Tryz.prog 87 = true := by kernel_rfl
theorem ZgF : cal Tryz.prog 88 = true := by kernel_rfl
theorem ZbA : cal Tryz.prog 89 = true := by kernel_rfl
theorem ZgR : cal Tryz.prog 90 = true := by kernel_rfl
theorem Zhf : cal Tryz.prog 91 = true := by kernel_rfl
theorem Zeb : cal Tryz.prog 92 = true := by kernel_rfl
theorem ZgY : cal Tryz.prog 93 = true := by kernel_rfl
theorem Zg7 : cal Tryz.prog 94 = true := by kernel_rfl
theorem ZgL : cal Tryz.prog 95 = true := by kernel_rfl
theorem Zen : cal Tryz.prog 96 = true := by kernel_rfl
theorem Zgr : cal Tryz.prog 97 = true := by kernel_rfl
theorem Zh1 : cal Tryz.prog 98 = true := by kernel_rfl
theorem ZgB : cal Tryz.prog 99 = true := by kernel_rfl
theorem ZcB : ZN Tryz.prog 112 = some 1 := by kernel_rfl
theorem Z52 : ZF Tryz.prog 113 0 = some 0 := by kernel_rfl
theorem Z3z : ZF Tryz.prog 113 1 = some 1 := by kernel_rfl
theorem Z99 : ZF Tryz.prog 52 2 = some 2 := by kernel_rfl
theorem Z5z : ZF Tryz.prog 52 3 = some 3 := by kernel_rfl
theorem Z3s : ZF Tryz.prog 52 5 = some 5 := by kernel_rfl
theorem Z5Z : ZF Tryz.prog 52 6 = some 6 := by kernel_rfl
theorem ZaP : ZF Tryz.prog 59 0 = some 0 := by kernel_rfl
theorem Z4y : ZF Tryz.prog 59 1 = some 1 := by kernel_rfl
theorem Z38 : ZF Tryz.prog 86 0 = some 0 := by kernel_rfl
theorem Z4u : ZF Tryz.prog 86 1 = some 1 := by kernel_rfl
theorem Z0G : Z07 Tryz.prog 47 = true := by kernel_rfl
theorem Zd5 : Z07 Tryz.prog 49 = true := by kernel_rfl
theorem ZfX : Z07 Tryz.prog 50 = true := by kernel_rfl
theorem Zb7 : Zy Tryz.prog 112 = some ([.nilFunc]) := by kernel_rfl
theorem Z7H (l : Ldg) (a1 a2 a3 a4 a5 : Option Addr) (k1 k2 k3 k4 k5 : Nat) (hN : l.loans.length ≤ 1000000) (hfo : -1000000 ≤ l.folk ∧ l.folk ≤ 1000000) (hye : -1000000 ≤ l.years ∧ l.years ≤ 1000000) (x : Ln) (b1 : Nat) (H : Z7) (R : Z5) [hB : Mem1 b1 (cel 52 (lgl l a1 a2 a3 a4 a5 k1 k2 k3 k4 k5)) H] :
    FnV Tryz.prog 91 [.agg (ZS x).toArray, .pointer (some ⟨b1, 0, none⟩)] H R (.bool (l.farmer x.who && l.year x.year)) := by
 refine Z8 Tryz.func91 rfl Tryz.ntmps91 rfl ?_
 refine sqt 2 rfl (bx rfl rfl rfl (fun b2 => pur 1 rfl (sqt 11 rfl (spL rfl rfl (lhA (lgl l a1 a2 a3 a4 a5 k1 k2 k3 k4 k5) Z46 rfl rfl rfl) rfl (sp rfl (PE.fA Z52 rfl) rfl (spL rfl rfl (lh sc3 rfl rfl) rfl ?_))))))
 refine clV rfl Zeb rfl rfl (Z5P l a1 a2 a3 a4 a5 k1 k2 k3 k4 k5 x.who hN hfo hye _ _) ?_
 refine pur 1 rfl ?_
 refine Zk 8 rfl ?_ ?_ <;> intro g8
 refine Z0f rfl rfl rfl rfl rfl (lhA (lgl l a1 a2 a3 a4 a5 k1 k2 k3 k4 k5) Z46 rfl rfl rfl) rfl ?_
 refine spG rfl rfl rfl rfl (PE.fA Z3z rfl) rfl ?_
 refine Z0f rfl rfl rfl rfl rfl (lh sc3 rfl rfl) rfl ?_
 refine Z3e rfl rfl rfl rfl Zaa rfl rfl (Z6b l a1 a2 a3 a4 a5 k1 k2 k3 k4 k5 x.year hN hfo hye _ _) ?_
 refine pur 2 rfl (Z4 ?_)
 exact rtA rfl rfl rfl ⟨by simp_all [ZA], rfl, rfl⟩ drp
 refine pur 6 rfl (Z4 ?_)
 exact rtA rfl rfl rfl ⟨by simp_all [ZA], rfl, rfl⟩ drp
theorem Z7K (l : Ldg) (a1 a2 a3 a4 a5 : Option Addr) (k1 k2 k3 k4 k5 : Nat) (hN : l.loans.length ≤ 1000000) (hfo : -1000000 ≤ l.folk ∧ l.folk ≤ 1000000) (hye : -1000000 ≤ l.years ∧ l.years ≤ 1000000) (x : Ln) (b1 : Nat) (H : Z7) (R : Z5) [hB : Mem1 b1 (cel 52 (lgl l a1 a2 a3 a4 a5 k1 k2 k3 k4 k5)) H] :
    FnV Tryz.prog 93 [.agg (ZS x).toArray, .pointer (some ⟨b1, 0, none⟩)] H R (.bool (l.farmer x.who && l.year x.year)) := by
 refine Z8 Tryz.func93 rfl Tryz.ntmps93 rfl ?_
 refine sqt 2 rfl (bx rfl rfl rfl (fun b2 => pur 1 rfl (sqt 11 rfl (spL rfl rfl (lhA (lgl l a1 a2 a3 a4 a5 k1 k2 k3 k4 k5) Z46 rfl rfl rfl) rfl (sp rfl (PE.fA ZaP rfl) rfl (spL rfl rfl (lh sc3 rfl rfl) rfl ?_))))))
 refine clV rfl Zeb rfl rfl (Z5P l a1 a2 a3 a4 a5 k1 k2 k3 k4 k5 x.who hN hfo hye _ _) ?_
 refine pur 1 rfl ?_
 refine Zk 8 rfl ?_ ?_ <;> intro g8
 refine Z0f rfl rfl rfl rfl rfl (lhA (lgl l a1 a2 a3 a4 a5 k1 k2 k3 k4 k5) Z46 rfl rfl rfl) rfl ?_
 refine spG rfl rfl rfl rfl (PE.fA Z4y rfl) rfl ?_
 refine Z0f rfl rfl rfl rfl rfl (lh sc3 rfl rfl) rfl ?_
 refine Z3e rfl rfl rfl rfl Zaa rfl rfl (Z6b l a1 a2 a3 a4 a5 k1 k2 k3 k4 k5 x.year hN hfo hye _ _) ?_
 refine pur 2 rfl (Z4 ?_)
 exact rtA rfl rfl rfl ⟨by simp_all [ZA], rfl, rfl⟩ drp
 refine pur 6 rfl (Z4 ?_)
 exact rtA rfl rfl rfl ⟨by simp_all [ZA], rfl, rfl⟩ drp
theorem Z8D (l : Ldg) (a1 a2 a3 a4 a5 : Option Addr) (k1 k2 k3 k4 k5 : Nat) (hN : l.loans.length ≤ 1000000) (hfo : -1000000 ≤ l.folk ∧ l.folk ≤ 1000000) (hye : -1000000 ≤ l.years ∧ l.years ≤ 1000000) (x : Pm) (b3 : Nat) (H : Z7) (R : Z5) [hB : Mem1 b3 (cel 112 [.func (.func 77) #[(l.v a1 a2 a3 a4 a5 k1 k2 k3 k4 k5)] #[]]) H] :
    FnV Tryz.prog 94 [.agg (pmrow x).toArray, .pointer (some ⟨b3, 0, none⟩)] H R (.bool (l.person x.fr && l.person x.to)) := by
 refine Z8 Tryz.func94 rfl Tryz.ntmps94 rfl ?_
 refine sqt 2 rfl (bx rfl rfl rfl (fun b2 => pur 1 rfl (sqt 11 rfl (spL rfl rfl (lh Z4l rfl rfl) rfl (sp rfl (PE.fA Z38 rfl) rfl (spL rfl rfl (lh sc3 rfl rfl) rfl ?_))))))
 refine Z1x rfl rfl (ZcP) rfl rfl (Z3B l a1 a2 a3 a4 a5 k1 k2 k3 k4 k5 x.fr hN hfo hye _ _) ?_
 refine pur 1 rfl ?_
 refine Zk 8 rfl ?_ ?_ <;> intro g8
 refine Z0f rfl rfl rfl rfl rfl (lh Z4l rfl rfl) rfl ?_
 refine spG rfl rfl rfl rfl (PE.fA Z4u rfl) rfl ?_
 refine Z0f rfl rfl rfl rfl rfl (lh sc3 rfl rfl) rfl ?_
 refine Zbt rfl rfl rfl rfl rfl (ZcP) rfl rfl (Z3B l a1 a2 a3 a4 a5 k1 k2 k3 k4 k5 x.to hN hfo hye _ _) ?_
 refine pur 2 rfl (Z4 ?_)
 exact rtA rfl rfl rfl ⟨by simp_all [ZA], rfl, rfl⟩ drp
 refine pur 6 rfl (Z4 ?_)
 exact rtA rfl rfl rfl ⟨by simp_all [ZA], rfl, rfl⟩ drp
theorem Z84 (x : Pm) (H : Z7) (R : Z5) :
    FnV Tryz.prog 95 [.agg (pmrow x).toArray] H R (.bool (decide (x.fr ≠ x.to))) := by
 refine Z8 Tryz.func95 rfl Tryz.ntmps95 rfl ?_
 refine sqt 2 rfl (bx rfl rfl rfl (fun b1 => pur 1 rfl (sqt 6 rfl (sp rfl (PE.fA Z38 rfl) rfl (spL rfl rfl (lh sc3 rfl rfl) rfl (sp rfl (PE.fA Z4u rfl) rfl (spL rfl rfl (lh sc3 rfl rfl) rfl (pur 2 rfl (Z4 ?_)))))))))
 exact rtA rfl rfl rfl ⟨rfl, rfl, rfl⟩ drp
theorem Z8k (n : Int) (H : Z7) (R : Z5) :
    FnV Tryz.prog 162 [.int .i64 n] H R (.bool false) := by
 refine Z8 Tryz.func162 rfl Tryz.ntmps162 rfl ?_
 refine sqt 1 rfl (pur 1 rfl (sqt 4 rfl (pur 4 rfl (Z4 ?_))))
 exact rtA rfl rfl rfl ⟨by simp [ZA], rfl, rfl⟩ drp
theorem Z7P (x y : Int) (H : Z7) (R : Z5) :
    FnV Tryz.prog 99 [.int .i64 x, .int .i64 y] H R (.int .i64 (ZcM x y)) := by
 refine Z8 Tryz.func99 rfl Tryz.ntmps99 rfl ?_
 refine sqt 1 rfl (pur 1 rfl (sqt 3 rfl (pur 1 rfl ?_)))
 refine clV rfl Z5M rfl rfl (Z8k x _ _) ?_
 refine pur 1 rfl (sqt 3 rfl (pur 1 rfl ?_))
 refine clV rfl Z5M rfl rfl (Z8k y _ _) ?_
 refine pur 1 rfl (Z0 (sqt 1 rfl (pur 1 rfl ?_)))
 refine Z1 rfl ?_ ?_ <;> intro hc0
 exact absurd hc0 (by first | (simp; done) | (simp_all; done))
 refine Z3 (Z0 (sqt 1 rfl (pur 1 rfl ?_)))
 refine Z1 rfl ?_ ?_ <;> intro hc2
 exact absurd hc2 (by first | (simp; done) | (simp_all; done))
 refine Z3 (Z0 (sqt 3 rfl (pur 3 rfl ?_)))
 refine Z1 rfl ?_ ?_ <;> intro hc3
 refine sqt 1 rfl (pur 1 rfl (Z4 ?_))
 exact rtA rfl rfl rfl ⟨by simp only [ZA]; unfold ZcM; first | (rw [hc3, hc4]; rfl) | (rw [hc3]; rfl), rfl, rfl⟩ drp
 refine Z3 (Z0 (sqt 3 rfl (pur 3 rfl ?_)))
 refine Z1 rfl ?_ ?_ <;> intro hc4
 refine sqt 1 rfl (pur 1 rfl (Z4 ?_))
 exact rtA rfl rfl rfl ⟨by simp only [ZA]; unfold ZcM; first | (rw [hc3, hc4]; rfl) | (rw [hc3]; rfl), rfl, rfl⟩ drp
 refine Z3 (sqt 1 rfl (pur 1 rfl (Z4 ?_)))
 exact rtA rfl rfl rfl ⟨by simp only [ZA]; unfold ZcM; first | (rw [hc3, hc4]; rfl) | (rw [hc3]; rfl), rfl, rfl⟩ drp
theorem Z8R (x y : Ln) (H : Z7) (R : Z5) :
    FnV Tryz.prog 98 [.agg (ZS x).toArray, .agg (ZS y).toArray] H R (.int .i64 (ZcM x.year y.year)) := by
 refine Z8 Tryz.func98 rfl Tryz.ntmps98 rfl ?_
 refine sqt 3 rfl (bx rfl rfl rfl (fun b2 => bx rfl rfl rfl (fun b3 => pur 1 rfl (sqt 6 rfl (sp rfl (PE.fA Z4y rfl) rfl (spL rfl rfl (lh sc3 rfl rfl) rfl (sp rfl (PE.fA Z4y rfl) rfl (spL rfl rfl (lh sc3 rfl rfl) rfl ?_))))))))
 refine clV rfl ZgB rfl rfl (Z7P _ _ _ _) ?_
 refine pur 1 rfl (Z4 ?_)
 exact rtA rfl rfl rfl ⟨rfl, rfl, rfl⟩ drp
theorem Z7S (xs : List Ln) (a : Option Addr) (c : Nat) (hl : xs.length ≤ 1000000) (H : Z7) (R : Z5) [hR : MemRows a 3 (lnrows xs) R] :
    FnV Tryz.prog 97 [.slice a xs.length c, .func (.func 98) #[] #[]] H R (.bool (Z4P xs)) := by
 refine Z8 Tryz.func97 rfl Tryz.ntmps97 rfl ?_
 refine sqt 1 rfl (pur 1 rfl (Z0 (sqt 4 rfl (pur 1 rfl (sp rfl (PE.lenSl Z7p rfl) rfl (sp rfl (PE.sub rfl rfl (by omega)) rfl (pur 1 rfl (Z2 ?_))))))))
 refine Zb (ι := {k : Nat // k ≤ xs.length ∧ ∀ i, k ≤ i + 1 → i + 1 < xs.length → Z9C xs i = false}) (fun k => ⟨[(0, .slice a xs.length c), (1, .func (.func 98) #[] #[]), (5, .int .i64 ((k.1 : Int) - 1))], H, R⟩) (fun k => k.1) ⟨xs.length, by omega, fun i h1 h2 => by omega⟩ ?_ (fun k => ?_)
 exact Zf idH
 obtain ⟨k, hk, hn⟩ := k
 dsimp only at hk hn ⊢
 refine Z0 (sqt 2 rfl (pur 2 rfl ?_))
 refine Z1 rfl ?_ ?_ <;> intro hc0 <;> try simp only [cS] at hc0
 obtain ⟨k, rfl⟩ : ∃ j, k = j + 2 := ⟨k - 2, by omega⟩
 obtain ⟨y, hy⟩ : ∃ y, xs[k + 1]? = some y := ⟨_, List.getElem?_eq_getElem (by omega)⟩
 obtain ⟨x, hx⟩ : ∃ x, xs[k]? = some x := ⟨_, List.getElem?_eq_getElem (by omega)⟩
 rw [show (((k + 2 : Nat) : Int) - 1) = (k + 1 : Nat) from by omega]
 refine Zg (a := a) (sz := 3) (rows := lnrows xs) (by intro h0; simp [lnrows] at h0; simp [h0] at hx) (fun b off he => ?_)
 subst he
 refine Z3 (Z0 (Z2 (Z0 ?_)))
 refine Zc [0, 0, 0, 6, 14, 0, 0, 64, 224, 480, 1023, 2047] (tks 0 4 (.ld 4 (tks 5 4 (.ld 9 (.big 10 (.tk 11 .done)))))) Zo (by kernel_rfl) ?_
 refine Zd 3 rfl (tk rfl (PE.indexAddr ZfW rfl rfl (by omega) (by omega)) rfl (ld rfl rfl (lfA ZcY (row := ZS y) (Z1U hy) rfl) rfl (Zd 2 rfl (tk rfl (PE.sub rfl rfl (by omega)) rfl (tk rfl (PE.indexAddr ZfW rfl rfl (by omega) (by omega)) rfl (ld rfl rfl (lfA ZcY (row := ZS x) (by rw [show (((k + 1 : Nat) : Int) - 1).toNat = k from by omega]; exact Z1U hx) rfl) rfl ?_))))))
 refine Z1x rfl rfl (Zh1) rfl rfl (Z8R y x _ _) ?_
 refine bgT (Zd 1 rfl ?_)
 refine Z1 rfl ?_ ?_ <;> intro hc1 <;> try simp only [cS] at hc1
 have hlt : y.year < x.year := by unfold ZcM at hc1; by_cases h : y.year < x.year; exact h; by_cases h2 : x.year < y.year <;> simp [h, h2] at hc1
 have hbn := Za6 hx hy hlt
 refine sqt 1 rfl (pur 1 rfl (Z4 ?_))
 exact rtA rfl rfl rfl ⟨by simp only [ZA]; rw [hbn], rfl, rfl⟩ drp
 have hge : ¬ y.year < x.year := fun h => by unfold ZcM at hc1; simp [h] at hc1
 refine Z3 (sqr 3 rfl (pur 1 rfl (sp rfl (PE.sub rfl rfl (by omega)) rfl (pur 1 rfl ?_))))
 refine Zr ⟨k + 1, by omega, fun i h1 h2 => ?_⟩ (by dsimp only; omega) idH
 rcases Nat.lt_or_ge k i with h3 | h3
 · exact hn i (by omega) h2
 · obtain rfl : i = k := by omega
   unfold Z9C
   rw [hx, hy]
   exact dF hge
 have hbn := Zc9 (l := xs) (fun i hi => hn i (by omega) hi)
 refine Z9 (Za (Za (Zl (sqt 1 rfl (pur 1 rfl (Z4 ?_))))))
 exact rtA rfl rfl rfl ⟨by simp only [ZA]; rw [hbn], rfl, rfl⟩ drp
set_option maxHeartbeats 1000000 in
theorem Z1l (l : Ldg) (a1 a2 a3 a4 a5 : Option Addr) (k1 k2 k3 k4 k5 : Nat) (hB : l.bad.length ≤ 1000000) (hF : l.forg.length ≤ 1000000) (hN : l.loans.length ≤ 1000000) (hP : l.pays.length ≤ 1000000) (hQ : l.proms.length ≤ 1000000) (H : Z7) (R : Z5) [hR1 : MemRows a1 1 (irows l.bad) R] [hR2 : MemRows a2 1 (irows l.forg) R] [hR3 : MemRows a3 3 (lnrows l.loans) R] [hR4 : MemRows a4 3 (lnrows l.pays) R] [hR5 : MemRows a5 3 (pmrows l.proms) R] :
    FnV Tryz.prog 41 [(l.v a1 a2 a3 a4 a5 k1 k2 k3 k4 k5)] H R (.int .i64 l.check) := by
 refine Z8 Tryz.func41 rfl Tryz.ntmps41 rfl ?_
 refine sqt 2 rfl (bx rfl rfl rfl (fun b1 => pur 1 rfl (sqt 4 rfl (spL rfl rfl (lhA (lgl l a1 a2 a3 a4 a5 k1 k2 k3 k4 k5) Z46 rfl rfl rfl) rfl (sp rfl (PE.makeFunc rfl rfl) rfl (alc rfl Zb7 rfl (fun b3 => ?_)))))))
 refine sto rfl rfl rfl ZcB rfl rfl rfl rfl ?_
 refine Z0 (Z2 (sqt 29 rfl (sp rfl (PE.fA Z5C rfl) rfl (spL rfl rfl (lh sc3 rfl rfl) rfl ?_))))
 refine clV rfl Z3L rfl rfl (Z2P _ _ _ _ _) ?_
 refine pur 2 rfl ?_
 refine Zk 11 rfl ?_ ?_ <;> intro g11
 refine pur 24 rfl ?_
 refine ZD rfl ?_
 refine sqt 1 rfl (pur 1 rfl (Z4 ?_))
 exact rtA rfl rfl rfl ⟨congrArg (Value.int .i64) (by simp_all only [ZA, Ldg.check, cond_true, cond_false, Bool.not_true, Bool.not_false, Bool.not_eq_true', Bool.not_eq_false', Bool.true_or, Bool.or_true, Bool.false_or, Bool.or_false]), rfl, rfl⟩ drp
 refine spG rfl rfl rfl rfl (PE.fA Z5Q rfl) rfl ?_
 refine Z0f rfl rfl rfl rfl rfl (lh sc3 rfl rfl) rfl ?_
 refine Z3e rfl rfl rfl rfl Z3L rfl rfl (Z2P _ _ _ _ _) ?_
 refine pur 3 rfl ?_
 refine Zk 17 rfl ?_ ?_ <;> intro g17
 refine pur 18 rfl ?_
 refine ZD rfl ?_
 refine sqt 1 rfl (pur 1 rfl (Z4 ?_))
 exact rtA rfl rfl rfl ⟨congrArg (Value.int .i64) (by simp_all only [ZA, Ldg.check, cond_true, cond_false, Bool.not_true, Bool.not_false, Bool.not_eq_true', Bool.not_eq_false', Bool.true_or, Bool.or_true, Bool.false_or, Bool.or_false]), rfl, rfl⟩ drp
 refine spG rfl rfl rfl rfl (PE.fA Z10 rfl) rfl ?_
 refine Z0f rfl rfl rfl rfl rfl (lh Z7U rfl rfl) rfl ?_
 refine spG rfl rfl rfl rfl (PE.lenSl Z9L rfl) rfl ?_
 refine pur 3 rfl ?_
 refine Zk 23 rfl ?_ ?_ <;> intro g23
 refine pur 12 rfl ?_
 refine ZD rfl ?_
 refine sqt 1 rfl (pur 1 rfl (Z4 ?_))
 exact rtA rfl rfl rfl ⟨congrArg (Value.int .i64) (by simp_all only [ZA, Ldg.check, cond_true, cond_false, Bool.not_true, Bool.not_false, Bool.not_eq_true', Bool.not_eq_false', Bool.true_or, Bool.or_true, Bool.false_or, Bool.or_false]), rfl, rfl⟩ drp
 refine spG rfl rfl rfl rfl (PE.fA Z3s rfl) rfl ?_
 refine Z0f rfl rfl rfl rfl rfl (lh Zd5 rfl rfl) rfl ?_
 refine spG rfl rfl rfl rfl (PE.lenSl Z7p rfl) rfl ?_
 refine pur 3 rfl ?_
 refine Zk 29 rfl ?_ ?_ <;> intro g29
 refine pur 6 rfl ?_
 refine ZD rfl ?_
 refine sqt 1 rfl (pur 1 rfl (Z4 ?_))
 exact rtA rfl rfl rfl ⟨congrArg (Value.int .i64) (by simp_all only [ZA, Ldg.check, cond_true, cond_false, Bool.not_true, Bool.not_false, Bool.not_eq_true', Bool.not_eq_false', Bool.true_or, Bool.or_true, Bool.false_or, Bool.or_false]), rfl, rfl⟩ drp
 refine spG rfl rfl rfl rfl (PE.fA Z5Z rfl) rfl ?_
 refine Z0f rfl rfl rfl rfl rfl (lh ZfX rfl rfl) rfl ?_
 refine spG rfl rfl rfl rfl (PE.lenSl Z6t rfl) rfl ?_
 refine pur 3 rfl ?_
 refine Z1 rfl ?_ ?_ <;> intro hc0
 refine sqt 1 rfl (pur 1 rfl (Z4 ?_))
 exact rtA rfl rfl rfl ⟨congrArg (Value.int .i64) (by simp_all only [ZA, Ldg.check, cond_true, cond_false, Bool.not_true, Bool.not_false, Bool.not_eq_true', Bool.not_eq_false', Bool.true_or, Bool.or_true, Bool.false_or, Bool.or_false]), rfl, rfl⟩ drp
 have hbd : (1 ≤ l.folk ∧ l.folk ≤ 7) ∧ 1 ≤ l.years ∧ l.years ≤ 9 := by
   simp_all [inL]
 have hfo : -1000000 ≤ l.folk ∧ l.folk ≤ 1000000 := by omega
 have hye : -1000000 ≤ l.years ∧ l.years ≤ 1000000 := by omega
 refine sqt 17 rfl (sp rfl (PE.fA Z10 rfl) rfl (spL rfl rfl (lh Z7U rfl rfl) rfl ?_))
 refine clV rfl Zep rfl rfl (Z2a l.loans a3 k3 83 [] [] (fun x => buL x.bu) ZgQ (by omega) _ _ (fun _ _ x _ => Z4L x _ _)) ?_
 refine pur 2 rfl ?_
 refine Zk 40 rfl ?_ ?_ <;> intro g40
 refine pur 12 rfl ?_
 refine ZD rfl ?_
 refine sqt 1 rfl (pur 1 rfl (Z4 ?_))
 exact rtA rfl rfl rfl ⟨congrArg (Value.int .i64) (by simp_all only [ZA, Ldg.check, cond_true, cond_false, Bool.not_true, Bool.not_false, Bool.not_eq_true', Bool.not_eq_false', Bool.true_or, Bool.or_true, Bool.false_or, Bool.or_false]), rfl, rfl⟩ drp
 refine spG rfl rfl rfl rfl (PE.fA Z3s rfl) rfl ?_
 refine Z0f rfl rfl rfl rfl rfl (lh Zd5 rfl rfl) rfl ?_
 refine Z3e rfl rfl rfl rfl ZeV rfl rfl (Z2Y l.pays a4 k4 86 [] [] (fun x => buL x.bu) Zgw (by omega) _ _ (fun _ _ x _ => Z4r x _ _)) ?_
 refine pur 3 rfl ?_
 refine Zk 46 rfl ?_ ?_ <;> intro g46
 refine pur 6 rfl ?_
 refine ZD rfl ?_
 refine sqt 1 rfl (pur 1 rfl (Z4 ?_))
 exact rtA rfl rfl rfl ⟨congrArg (Value.int .i64) (by simp_all only [ZA, Ldg.check, cond_true, cond_false, Bool.not_true, Bool.not_false, Bool.not_eq_true', Bool.not_eq_false', Bool.true_or, Bool.or_true, Bool.false_or, Bool.or_false]), rfl, rfl⟩ drp
 refine spG rfl rfl rfl rfl (PE.fA Z5Z rfl) rfl ?_
 refine Z0f rfl rfl rfl rfl rfl (lh ZfX rfl rfl) rfl ?_
 refine Z3e rfl rfl rfl rfl Zci rfl rfl (Z0U l.proms a5 k5 88 [] [] (fun x => buL x.bu) ZgF (by omega) _ _ (fun _ _ x _ => Z8o x _ _)) ?_
 refine pur 3 rfl ?_
 refine Z1 rfl ?_ ?_ <;> intro hc1
 refine sqt 1 rfl (pur 1 rfl (Z4 ?_))
 exact rtA rfl rfl rfl ⟨congrArg (Value.int .i64) (by simp_all only [ZA, Ldg.check, cond_true, cond_false, Bool.not_true, Bool.not_false, Bool.not_eq_true', Bool.not_eq_false', Bool.true_or, Bool.or_true, Bool.false_or, Bool.or_false]), rfl, rfl⟩ drp
 refine sqt 15 rfl (sp rfl (PE.fA Z99 rfl) rfl (spL rfl rfl (lh Z0G rfl rfl) rfl (spL rfl rfl (lhA (lgl l a1 a2 a3 a4 a5 k1 k2 k3 k4 k5) Z46 rfl rfl rfl) rfl (sp rfl (PE.makeFunc rfl rfl) rfl ?_))))
 refine clV rfl ZbA rfl rfl (Z06 l.bad a1 k1 78 [(l.v a1 a2 a3 a4 a5 k1 k2 k3 k4 k5)] [] l.year Zaa (by omega) _ _ (fun _ x _ => Z6b l a1 a2 a3 a4 a5 k1 k2 k3 k4 k5 x (by omega) hfo hye _ _)) ?_
 refine pur 2 rfl ?_
 refine Zk 59 rfl ?_ ?_ <;> intro g59
 refine pur 8 rfl ?_
 refine ZD rfl ?_
 refine sqt 1 rfl (pur 1 rfl (Z4 ?_))
 exact rtA rfl rfl rfl ⟨congrArg (Value.int .i64) (by simp_all only [ZA, Ldg.check, cond_true, cond_false, Bool.not_true, Bool.not_false, Bool.not_eq_true', Bool.not_eq_false', Bool.true_or, Bool.or_true, Bool.false_or, Bool.or_false]), rfl, rfl⟩ drp
 refine spG rfl rfl rfl rfl (PE.fA Z5z rfl) rfl ?_
 refine Z0f rfl rfl rfl rfl rfl (lh Z0G rfl rfl) rfl (Z0f rfl rfl rfl rfl rfl (lhA (lgl l a1 a2 a3 a4 a5 k1 k2 k3 k4 k5) Z46 rfl rfl rfl) rfl ?_)
 refine spG rfl rfl rfl rfl (PE.makeFunc rfl rfl) rfl ?_
 refine Z3e rfl rfl rfl rfl ZbA rfl rfl (Z06 l.forg a2 k2 90 [(l.v a1 a2 a3 a4 a5 k1 k2 k3 k4 k5)] [] l.loan ZgR (by omega) _ _ (fun _ x _ => Ze6 l a1 a2 a3 a4 a5 k1 k2 k3 k4 k5 x (by omega) hfo hye _ _)) ?_
 refine pur 3 rfl ?_
 refine Z1 rfl ?_ ?_ <;> intro hc2
 refine sqt 1 rfl (pur 1 rfl (Z4 ?_))
 exact rtA rfl rfl rfl ⟨congrArg (Value.int .i64) (by simp_all only [ZA, Ldg.check, cond_true, cond_false, Bool.not_true, Bool.not_false, Bool.not_eq_true', Bool.not_eq_false', Bool.true_or, Bool.or_true, Bool.false_or, Bool.or_false]), rfl, rfl⟩ drp
 refine sqt 13 rfl (sp rfl (PE.fA Z10 rfl) rfl (spL rfl rfl (lh Z7U rfl rfl) rfl (sp rfl (PE.makeFunc rfl rfl) rfl ?_)))
 refine clV rfl Zep rfl rfl (Z2a l.loans a3 k3 91 [] [_] (fun x => l.farmer x.who && l.year x.year) Zhf (by omega) _ _ (fun _ _ x _ => Z7H l a1 a2 a3 a4 a5 k1 k2 k3 k4 k5 (by omega) hfo hye x b1 _ _)) ?_
 refine pur 2 rfl ?_
 refine Zk 73 rfl ?_ ?_ <;> intro g73
 refine pur 7 rfl ?_
 refine ZD rfl ?_
 refine sqt 1 rfl (pur 1 rfl (Z4 ?_))
 exact rtA rfl rfl rfl ⟨congrArg (Value.int .i64) (by simp_all only [ZA, Ldg.check, cond_true, cond_false, Bool.not_true, Bool.not_false, Bool.not_eq_true', Bool.not_eq_false', Bool.true_or, Bool.or_true, Bool.false_or, Bool.or_false]), rfl, rfl⟩ drp
 refine spG rfl rfl rfl rfl (PE.fA Z3s rfl) rfl ?_
 refine Z0f rfl rfl rfl rfl rfl (lh Zd5 rfl rfl) rfl ?_
 refine spG rfl rfl rfl rfl (PE.makeFunc rfl rfl) rfl ?_
 refine Z3e rfl rfl rfl rfl ZeV rfl rfl (Z2Y l.pays a4 k4 93 [] [_] (fun x => l.farmer x.who && l.year x.year) ZgY (by omega) _ _ (fun _ _ x _ => Z7K l a1 a2 a3 a4 a5 k1 k2 k3 k4 k5 (by omega) hfo hye x b1 _ _)) ?_
 refine pur 3 rfl ?_
 refine Z1 rfl ?_ ?_ <;> intro hc3
 refine sqt 1 rfl (pur 1 rfl (Z4 ?_))
 exact rtA rfl rfl rfl ⟨congrArg (Value.int .i64) (by simp_all only [ZA, Ldg.check, cond_true, cond_false, Bool.not_true, Bool.not_false, Bool.not_eq_true', Bool.not_eq_false', Bool.true_or, Bool.or_true, Bool.false_or, Bool.or_false]), rfl, rfl⟩ drp
 refine sqt 6 rfl (sp rfl (PE.fA Z5Z rfl) rfl (spL rfl rfl (lh ZfX rfl rfl) rfl (sp rfl (PE.makeFunc rfl rfl) rfl ?_)))
 refine clV rfl Zci rfl rfl (Z0U l.proms a5 k5 94 [] [_] (fun x => l.person x.fr && l.person x.to) Zg7 (by omega) _ _ (fun _ _ x _ => Z8D l a1 a2 a3 a4 a5 k1 k2 k3 k4 k5 (by omega) hfo hye x b3 _ _)) ?_
 refine pur 2 rfl ?_
 refine Z1 rfl ?_ ?_ <;> intro hc4
 refine sqt 1 rfl (pur 1 rfl (Z4 ?_))
 exact rtA rfl rfl rfl ⟨congrArg (Value.int .i64) (by simp_all only [ZA, Ldg.check, cond_true, cond_false, Bool.not_true, Bool.not_false, Bool.not_eq_true', Bool.not_eq_false', Bool.true_or, Bool.or_true, Bool.false_or, Bool.or_false]), rfl, rfl⟩ drp
 refine sqt 5 rfl (sp rfl (PE.fA Z5Z rfl) rfl (spL rfl rfl (lh ZfX rfl rfl) rfl ?_))
 refine clV rfl Zci rfl rfl (Z0U l.proms a5 k5 95 [] [] (fun x => decide (x.fr ≠ x.to)) ZgL (by omega) _ _ (fun _ _ x _ => Z84 x _ _)) ?_
 refine pur 2 rfl ?_
 refine Z1 rfl ?_ ?_ <;> intro hc5
 refine sqt 1 rfl (pur 1 rfl (Z4 ?_))
 exact rtA rfl rfl rfl ⟨congrArg (Value.int .i64) (by simp_all only [ZA, Ldg.check, cond_true, cond_false, Bool.not_true, Bool.not_false, Bool.not_eq_true', Bool.not_eq_false', Bool.true_or, Bool.or_true, Bool.false_or, Bool.or_false]), rfl, rfl⟩ drp
 refine sqt 17 rfl (sp rfl (PE.fA Z99 rfl) rfl (spL rfl rfl (lh Z0G rfl rfl) rfl ?_))
 refine clV rfl Zen rfl rfl (Z6m l.bad a1 k1 (by omega) _ _) ?_
 refine pur 2 rfl ?_
 refine Zk 96 rfl ?_ ?_ <;> intro g96
 refine pur 12 rfl ?_
 refine ZD rfl ?_
 refine sqt 1 rfl (pur 1 rfl (Z4 ?_))
 exact rtA rfl rfl rfl ⟨congrArg (Value.int .i64) (by simp_all only [ZA, Ldg.check, cond_true, cond_false, Bool.not_true, Bool.not_false, Bool.not_eq_true', Bool.not_eq_false', Bool.true_or, Bool.or_true, Bool.false_or, Bool.or_false]), rfl, rfl⟩ drp
 refine spG rfl rfl rfl rfl (PE.fA Z5z rfl) rfl ?_
 refine Z0f rfl rfl rfl rfl rfl (lh Z0G rfl rfl) rfl ?_
 refine Z3e rfl rfl rfl rfl Zen rfl rfl (Z6m l.forg a2 k2 (by omega) _ _) ?_
 refine pur 3 rfl ?_
 refine Zk 102 rfl ?_ ?_ <;> intro g102
 refine pur 6 rfl ?_
 refine ZD rfl ?_
 refine sqt 1 rfl (pur 1 rfl (Z4 ?_))
 exact rtA rfl rfl rfl ⟨congrArg (Value.int .i64) (by simp_all only [ZA, Ldg.check, cond_true, cond_false, Bool.not_true, Bool.not_false, Bool.not_eq_true', Bool.not_eq_false', Bool.true_or, Bool.or_true, Bool.false_or, Bool.or_false]), rfl, rfl⟩ drp
 refine spG rfl rfl rfl rfl (PE.fA Z3s rfl) rfl ?_
 refine Z0f rfl rfl rfl rfl rfl (lh Zd5 rfl rfl) rfl ?_
 refine Z3e rfl rfl rfl rfl Zgr rfl rfl (Z7S l.pays a4 k4 (by omega) _ _) ?_
 refine pur 3 rfl ?_
 refine Z1 rfl ?_ ?_ <;> intro hc6
 refine sqt 1 rfl (pur 1 rfl (Z4 ?_))
 exact rtA rfl rfl rfl ⟨congrArg (Value.int .i64) (by simp_all only [ZA, Ldg.check, cond_true, cond_false, Bool.not_true, Bool.not_false, Bool.not_eq_true', Bool.not_eq_false', Bool.true_or, Bool.or_true, Bool.false_or, Bool.or_false]), rfl, rfl⟩ drp
 refine Z3 (sqt 1 rfl (pur 1 rfl (Z4 ?_)))
 exact rtA rfl rfl rfl ⟨congrArg (Value.int .i64) (by simp_all only [ZA, Ldg.check, cond_true, cond_false, Bool.not_true, Bool.not_false, Bool.not_eq_true', Bool.not_eq_false', Bool.true_or, Bool.or_true, Bool.false_or, Bool.or_false]), rfl, rfl⟩ drp
theorem Z9j : cal Tryz.prog 22 = true := by kernel_rfl
theorem ZgG : cal Tryz.prog 41 = true := by kernel_rfl
theorem ZcQ : cal Tryz.prog 55 = true := by kernel_rfl
theorem ZgK : ZJ Tryz.prog 175 = some [(0, 7), (7, 10)] := by kernel_rfl
theorem Zhr : Zy Tryz.prog 175 = some ([.int .i64 0, .int .i64 0, .slice none 0 0, .slice none 0 0, .slice none 0 0, .slice none 0 0, .slice none 0 0, .int .i64 0, .int .i64 0, .int .i64 0, .int .i64 0, .int .i64 0, .int .i64 0, .int .i64 0, .int .i64 0, .int .i64 0, .int .i64 0]) := by kernel_rfl
theorem Z1r (xs : List Int) (a : Option Addr) (c : Nat) (v : Int) (hl : xs.length ≤ 9223372036854775807) (H : Z7) (R : Z5) [hR : MemRows a 1 (irows xs) R] :
    FnV Tryz.prog 55 [.slice a xs.length c, .int .i64 v] H R (.int .i64 (match xs.findIdx? (fun x => decide (v = x)) with | some k => (k : Int) | none => -1)) := by
 refine Z8 Tryz.func55 rfl Tryz.ntmps55 rfl ?_
 refine sqt 1 rfl (pur 1 rfl (Z0 (sqt 3 rfl (pur 1 rfl (sp rfl (PE.lenSl Z0i rfl) rfl (pur 1 rfl (Z2 ?_)))))))
 refine Zb (ι := {k : Nat // k ≤ xs.length ∧ ∀ x ∈ xs.take k, decide (v = x) = false}) (fun k => ⟨[(0, .slice a xs.length c), (1, .int .i64 v), (7, .int .i64 xs.length), (8, .int .i64 k.1)], H, R⟩) (fun k => xs.length - k.1) ⟨0, by simp⟩ ?_ (fun k => ?_)
 exact Zf idH
 obtain ⟨k, hk, hn⟩ := k
 dsimp only
 refine sqt 1 rfl (pur 1 rfl (Z0 ?_))
 refine Z1 rfl ?_ ?_ <;> intro hc0
 simp only [cS] at hc0
 obtain ⟨x, hx⟩ : ∃ x, xs[k]? = some x := ⟨_, List.getElem?_eq_getElem (by omega)⟩
 refine Zg (a := a) (sz := 1) (rows := irows xs) (by cases xs <;> simp_all [irows]) (fun b off he => ?_)
 subst he
 refine Z3 (Z0 (Z2 (sqt 2 rfl (pur 2 rfl (sqt 6 rfl (pur 3 rfl (sp rfl (PE.indexAddr ZM rfl rfl (by omega) (by omega)) rfl (spL rfl rfl (lf0 sc3 (by simp [irows, hx]; rfl) rfl) rfl (pur 1 rfl ?_)))))))))
 refine Z1 rfl ?_ ?_ <;> intro hc1
 refine sqt 2 rfl (pur 2 rfl (Z4 ?_))
 first | (exact rtA rfl rfl rfl ⟨by rw [Zm hx hn hc1]; rfl, rfl, rfl⟩ idH) | (exact rtA rfl rfl rfl ⟨by rw [Zi (by simpa using hn)]; rfl, rfl, rfl⟩ idH)
 refine Z3 (sqr 2 rfl (sp rfl (PE.add rfl rfl (by omega)) rfl (pur 1 rfl ?_)))
 exact Z6 ⟨k + 1, by omega, ZB hx hn hc1⟩ idH
 simp only [cS] at hc0
 obtain rfl : k = xs.length := by omega
 refine Z9 (Za (Za (Zl (sqt 1 rfl (pur 1 rfl (Z4 ?_))))))
 first | (exact rtA rfl rfl rfl ⟨by rw [Zm hx hn hc1]; rfl, rfl, rfl⟩ idH) | (exact rtA rfl rfl rfl ⟨by rw [Zi (by simpa using hn)]; rfl, rfl, rfl⟩ idH)
theorem c_contains_int (xs : List Int) (a : Option Addr) (c : Nat) (v : Int) (hl : xs.length ≤ 9223372036854775807) (H : Z7) (R : Z5) [hR : MemRows a 1 (irows xs) R] :
    FnV Tryz.prog 22 [.slice a xs.length c, .int .i64 v] H R (.bool (xs.any fun x => decide (v = x))) := by
 refine Z8 Tryz.func22 rfl Tryz.ntmps22 rfl ?_
 refine sqt 1 rfl (pur 1 rfl (sqt 5 rfl (pur 2 rfl ?_)))
 refine clV rfl ZcQ rfl rfl (Z1r xs a c v hl _ _) ?_
 refine pur 2 rfl (Z4 ?_)
 exact rtA rfl rfl rfl ⟨by simp only [ZA]; exact ZT _ _, rfl, rfl⟩ drp
theorem Z5j (l : Ldg) (a1 a2 a3 a4 a5 : Option Addr) (k1 k2 k3 k4 k5 : Nat) (hl : l.ok) (i : Nat) (hi : i < l.loans.length) (H : Z7) (R : Z5) [hR2 : MemRows a2 1 (irows l.forg) R] [hR3 : MemRows a3 3 (lnrows l.loans) R] :
    FnV Tryz.prog 81 [(l.v a1 a2 a3 a4 a5 k1 k2 k3 k4 k5), .int .i64 i] H R (.int .i64 (l.asked i)) := by
 have h1 := hl.nl
 have h2 : l.forg.length ≤ 1000000 := Z7G hl
 have hcon : (l.forg.any fun x => decide ((i : Int) = x)) = l.forg.contains (i : Int) := by rw [Bool.eq_iff_iff]; simp
 refine Z8 Tryz.func81 rfl Tryz.ntmps81 rfl ?_
 refine sqt 2 rfl (bx rfl rfl rfl (fun b2 => pur 1 rfl (Z0 (sqt 4 rfl (sp rfl (PE.fA Z5z rfl) rfl (spL rfl rfl (lh Z0G rfl rfl) rfl (pur 1 rfl ?_)))))))
 refine cl rfl Z9j rfl rfl (c_contains_int l.forg a2 k2 (i : Int) (by omega) _ _) ?_
 rintro _ _ R1 ⟨rfl, rfl, hR1⟩
 obtain rfl := hR1.symm
 clear hR1
 rw [hcon]
 refine Z1 rfl ?_ ?_ <;> intro hc0 <;> try simp only [cS] at hc0
 have hv : l.asked i = 0 := by unfold Ldg.asked; rw [hc0]; rfl
 refine sqt 1 rfl (pur 1 rfl (Z4 ?_))
 exact rtA rfl rfl rfl ⟨by rw [hv]; rfl, rfl, rfl⟩ drp
 obtain ⟨x, hx⟩ : ∃ x, l.loans[i]? = some x := ⟨_, List.getElem?_eq_getElem hi⟩
 have hxb := (hl.loans x (List.mem_of_getElem? hx)).1
 have hv : l.asked i = x.bu + (x.bu + 9) / 10 := by unfold Ldg.asked; rw [hc0, hx]; rfl
 refine Zg (a := a3) (sz := 3) (rows := lnrows l.loans) (by intro h0; simp [lnrows] at h0; simp [h0] at hx) (fun bf of he => ?_)
 subst he
 refine Z3 (sqt 7 rfl (sp rfl (PE.fA Z10 rfl) rfl (spL rfl rfl (lh Z7U rfl rfl) rfl (pur 1 rfl (sp rfl (PE.indexAddr Zc5 rfl rfl (by omega) (by omega)) rfl (sp rfl (PE.fA Z8g rfl) rfl (spL rfl rfl (lf (x := .int .i64 x.bu) sc3 (Z1U hx) rfl) rfl (pur 1 rfl (sqt 6 rfl (pur 2 rfl (sp rfl (PE.add rfl rfl (by omega)) rfl (sp rfl (PE.quo rfl rfl (by omega)) rfl (sp rfl (PE.add rfl rfl (by omega)) rfl (pur 1 rfl (Z4 ?_)))))))))))))))
 exact rtA rfl rfl rfl ⟨by rw [hv]; rfl, rfl, rfl⟩ drp
theorem Zam (n m : Int) (a : Option Addr) (c : Nat) (H : Z7) (R : Z5) [hR : MemRows a 1 [[.int .i64 m]] R] :
    FnV Tryz.prog 59 [.int .i64 n, .slice a 1 c] H R (.int .i64 (min n m)) := by
 refine Z8 Tryz.func59 rfl Tryz.ntmps59 rfl ?_
 refine sqt 1 rfl (pur 1 rfl (Z0 (sqt 3 rfl (pur 1 rfl (sp rfl (PE.lenSl Z0i rfl) rfl (pur 1 rfl (Z2 ?_)))))))
 refine Zg (a := a) (sz := 1) (rows := [[.int .i64 m]]) (by simp) (fun b off he => ?_)
 subst he
 refine Zb (ι := {k : Nat // k ≤ 1}) (fun k => ⟨[(0, .int .i64 (bif k.1 == 0 then n else min n m)), (7, .slice (some ⟨b, off, none⟩) 1 c), (8, .int .i64 1), (9, .int .i64 k.1)], H, R⟩) (fun k => 1 - k.1) ⟨0, by omega⟩ ?_ (fun k => ?_)
 exact Zf idH
 obtain ⟨k, hk⟩ := k
 dsimp only
 refine sqt 1 rfl (pur 1 rfl (Z0 ?_))
 refine Z1 rfl ?_ ?_ <;> intro hc0
 simp only [cS] at hc0
 obtain rfl : k = 0 := by omega
 refine Z3 (Z0 (Z2 (sqt 3 rfl (sp rfl (PE.indexAddr ZM rfl rfl (by omega) (by omega)) rfl (spL rfl rfl (lf0 sc3 (row := [.int .i64 m]) rfl rfl) rfl (pur 1 rfl (sqr 4 rfl (pur 2 rfl (sp rfl (PE.min rfl rfl) rfl (pur 1 rfl (sqr 2 rfl (sp rfl (PE.add rfl rfl (by omega)) rfl (pur 1 rfl ?_)))))))))))))
 exact Zr ⟨1, by omega⟩ (by simp) idH
 try simp only [cS] at hc0
 refine Z9 (Za (Za (Zl (sqt 2 rfl (pur 2 rfl (Z4 ?_))))))
 obtain rfl : k = 1 := by omega
 exact rtA rfl rfl rfl ⟨rfl, rfl, rfl⟩ drp
theorem Z1A (l : Ldg) (a1 a2 a3 a4 a5 : Option Addr) (k1 k2 k3 k4 k5 : Nat) (hB : l.bad.length ≤ 1000000) (hF : l.forg.length ≤ 1000000) (hN : l.loans.length ≤ 1000000) (hP : l.pays.length ≤ 1000000) (hQ : l.proms.length ≤ 1000000) (H : Z7) (R : Z5) [hR1 : MemRows a1 1 (irows l.bad) R] [hR2 : MemRows a2 1 (irows l.forg) R] [hR3 : MemRows a3 3 (lnrows l.loans) R] [hR4 : MemRows a4 3 (lnrows l.pays) R] [hR5 : MemRows a5 3 (pmrows l.proms) R] :
    Fn Tryz.prog 44 [(l.v a1 a2 a3 a4 a5 k1 k2 k3 k4 k5)] H R (fun v H' R' => ((l.check ≠ 0 ∧ v = .tuple #[.pointer none, .int .i64 l.check] ∧ H' = H) ∨ (l.check = 0 ∧ ∃ b, v = .tuple #[.pointer (some ⟨b, 0, none⟩), .int .i64 0] ∧ H' = (b, cel 175 ((lgl l a1 a2 a3 a4 a5 k1 k2 k3 k4 k5) ++ Zh (List.replicate 10 0))) :: H)) ∧ R' = R) := by
 refine Z8 Tryz.func44 rfl Tryz.ntmps44 rfl ?_
 refine sqt 3 rfl (bx rfl rfl rfl (fun b1 => pur 2 rfl (Z0 (sqt 3 rfl (spL rfl rfl (lhA (lgl l a1 a2 a3 a4 a5 k1 k2 k3 k4 k5) Z46 rfl rfl rfl) rfl ?_)))))
 refine clV rfl ZgG rfl rfl (Z1l l a1 a2 a3 a4 a5 k1 k2 k3 k4 k5 hB hF hN hP hQ _ _) ?_
 refine pur 1 rfl (sqt 2 rfl (pur 2 rfl ?_))
 refine Z1 rfl ?_ ?_ <;> intro hc0 <;> try simp only [cS] at hc0
 have hck : l.check ≠ 0 := by simpa using hc0
 refine sqt 3 rfl (pur 3 rfl (Z4 ?_))
 first
   | exact rtB rfl rfl rfl rfl ⟨.inl ⟨hck, rfl, rfl⟩, rfl⟩ drp
   | exact rtB rfl rfl rfl rfl ⟨.inr ⟨hck, b12, rfl, rfl⟩, rfl⟩ (fun w h => h.del b1)
 have hck : l.check = 0 := by simpa using hc0
 refine Z3 (sqt 5 rfl (spL rfl rfl (lhA (lgl l a1 a2 a3 a4 a5 k1 k2 k3 k4 k5) Z46 rfl rfl rfl) rfl (sp rfl (PE.build (out := ((lgl l a1 a2 a3 a4 a5 k1 k2 k3 k4 k5) ++ Zh (List.replicate 10 0))) ZgK Zhr rfl (by kernel_rfl)) rfl (bx rfl rfl rfl (fun b12 => pur 2 rfl (Z4 ?_))))))
 first
   | exact rtB rfl rfl rfl rfl ⟨.inl ⟨hck, rfl, rfl⟩, rfl⟩ drp
   | exact rtB rfl rfl rfl rfl ⟨.inr ⟨hck, b12, rfl, rfl⟩, rfl⟩ (fun w h => h.del b1)
theorem Zgo : ZN Tryz.prog 113 = some 3 := by kernel_rfl
theorem ZbM : ZF Tryz.prog 119 0 = some 0 := by kernel_rfl
theorem Z0W : ZF Tryz.prog 175 0 = some 0 := by kernel_rfl
theorem Z0P : Z07 Tryz.prog 114 = true := by kernel_rfl
theorem Z6J : Zy Tryz.prog 113 = some ([.int .i64 0, .int .i64 0, .int .i64 0]) := by kernel_rfl
section Zgy
variable {P : Program} {ops : Array Oper} {n : Nat} {L : Zj} {D : List Deferred} {H : Z7} {R : Z5} {K : Act → World → Prop}
  {i d : Nat} {ty : TypeId} {pos : String} {af : Array Edge}
theorem Zgy {l : Nat} {c : Operand} {xs : List Operand} {vs : List Value} {ts : Array TypeId} {Q : Value → Z7 → Z5 → Prop} {j t : Nat} {bb : Bool} {oj : Oper}
    (ho : ops[i]? = some ⟨some d, .call { callee := .value c, args := xs.toArray, argTypes := ts }, ty, pos, af, some (j, bb)⟩) (hj : ops[j]? = some oj) (ht : oj.dst = some t) (hg : lk L t = some (.bool bb)) (hcv : ev L c = some (yv l)) (hd : Nat.blt d n = true) (hx : evs L xs = some vs)
    (hc : Yd P l vs H R Q) (h : ∀ v H' R', Q v H' R' → Sy n ((d, v) :: L) D H' R' K) : Sy n L D H R (stp P none ops i K) := fun a w ha hD hs => by
  obtain ⟨f, tm, asg, bo, h1, h2⟩ := hc w hs
  have hw : Region.wanted ⟨some d, .call { callee := .value c, args := xs.toArray, argTypes := ts }, ty, pos, af, some (j, bb)⟩ (yielded ops a.tmps) = true := by simp [Region.wanted, ZG ha hj ht hg]
  unfold stp
  rw [ho]
  simp only [hw, if_true, Oper.wpIn, Z14, ZZ (Z2c ha.reads hcv hx h1) (by simp), Oper.uponIn]
  refine ⟨fun _ _ => Z2q _ _, by simp [Z2C], RoundIn.mono h2 fun e w' he => ?_⟩
  obtain ⟨v, H', R', q, rfl, hs'⟩ := he
  exact h v H' R' q _ _ (ha.put (by simpa using hd) v) hD hs'
end Zgy
def qL (l : Ldg) (p : Nat → Bool) (y i : Nat) : Bool := (match l.loans[i]? with | some x => decide (x.year = y) | none => false) && p i
def Z6M (l : Ldg) (p : Nat → Bool) (y i : Nat) : Nat := ((List.range y).flatMap (yrL l p)).length + ((List.range i).filter (qL l p y)).length
theorem Zaf (l : Ldg) (p : Nat → Bool) (y i : Nat) : Z6M l p y (i + 1) = Z6M l p y i + bif qL l p y i then 1 else 0 := by
  unfold Z6M
  rw [List.range_succ, List.filter_append, List.length_append]
  cases h : qL l p y i with
  | false => simp [h]
  | true => simp [h]; omega
theorem Za8 (l : Ldg) (p : Nat → Bool) (y : Nat) : Z6M l p y l.loans.length = Z6M l p (y + 1) 0 := by
  unfold Z6M
  rw [List.range_succ, List.flatMap_append, List.length_append]
  simp only [List.flatMap_cons, List.flatMap_nil, List.append_nil, List.range_zero, List.filter_nil, List.length_nil, Nat.add_zero]
  rfl
theorem Zb4 (l : Ldg) (p : Nat → Bool) : Z6M l p l.years.toNat 0 = (Z2m l p).length := by unfold Z6M Z2m; simp
theorem Zdh {l : Ldg} {p : Nat → Bool} {y i : Nat} (hy : y < l.years.toNat) (hi : i < l.loans.length) (hq : qL l p y i = true) : (Z2m l p)[Z6M l p y i]? = some i := by
  have e1 : List.range l.years.toNat = List.range y ++ y :: (List.range l.years.toNat).drop (y + 1) := by
    have := List.drop_eq_getElem_cons (l := List.range l.years.toNat) (i := y) (by simpa using hy)
    conv => lhs; rw [← List.take_append_drop y (List.range l.years.toNat)]
    rw [this, List.take_range]
    simp [Nat.min_eq_left (Nat.le_of_lt hy)]
  have e2 : List.range l.loans.length = List.range i ++ i :: (List.range l.loans.length).drop (i + 1) := by
    have := List.drop_eq_getElem_cons (l := List.range l.loans.length) (i := i) (by simpa using hi)
    conv => lhs; rw [← List.take_append_drop i (List.range l.loans.length)]
    rw [this, List.take_range]
    simp [Nat.min_eq_left (Nat.le_of_lt hi)]
  have e3 : yrL l p y = (List.range i).filter (qL l p y) ++ i :: ((List.range l.loans.length).drop (i + 1)).filter (qL l p y) := by
    show (List.range l.loans.length).filter (qL l p y) = _
    conv => lhs; rw [e2]
    rw [List.filter_append, List.filter_cons_of_pos hq]
  unfold Z2m
  rw [e1, List.flatMap_append, List.flatMap_cons, e3]
  unfold Z6M
  rw [List.getElem?_append_right (by omega), Nat.add_sub_cancel_left, List.append_assoc, List.getElem?_append_right (by omega), Nat.sub_self]
  rfl
theorem Z77 (bd g : Nat) (fst cap : List Value) (H : Z7) (R : Z5) :
    Fn Tryz.prog 80 [.pointer (some ⟨bd, 0, none⟩), .agg #[.func (.func g) fst.toArray cap.toArray]] H R (fun v H' R' => ∃ b2 b3, v = .func (.func 154) #[] #[.pointer (some ⟨b2, 0, none⟩), .pointer (some ⟨b3, 0, none⟩)] ∧ H' = H ∧ R' = RowsA (some ⟨b3, 0, none⟩) 1 [[.func (.func g) fst.toArray cap.toArray]] :: RowsA (some ⟨b2, 0, none⟩) 1 [[.pointer (some ⟨bd, 0, none⟩)]] :: R) := by
 refine Z8 Tryz.func80 rfl Tryz.ntmps80 rfl ?_
 refine sqt 3 rfl (bx rfl rfl rfl (fun b2 => bx rfl rfl rfl (fun b3 => pur 1 rfl (sqt 2 rfl (sp rfl (PE.makeFunc rfl rfl) rfl (pur 1 rfl (Z4 ?_)))))))
 exact rtA rfl rfl rfl ⟨b2, b3, rfl, rfl, rfl⟩ (fun w h => St.rows (sz := 1) (rows := [[.func (.func g) fst.toArray cap.toArray]]) (rest := []) (St.rows (sz := 1) (rows := [[.pointer (some ⟨bd, 0, none⟩)]]) (rest := []) (h.pull b2) (by simp)) (by simp))
theorem Z5I (l : Ldg) (a1 a2 a3 a4 a5 : Option Addr) (k1 k2 k3 k4 k5 : Nat) (hl : l.ok) (bd b2 b3 lk g : Nat) (fst cap : List Value) (p : Nat → Bool) (hg : cal Tryz.prog g = true) (I : Nat → Z7 → Z5 → Prop) (E : Z7 → Z5 → Prop)
    (hI : ∀ k H R, I k H R → (∃ bk, (bd, cel 175 ((lgl l a1 a2 a3 a4 a5 k1 k2 k3 k4 k5) ++ Zh (bk))) ∈ H) ∧ RowsA (some ⟨b2, 0, none⟩) 1 [[.pointer (some ⟨bd, 0, none⟩)]] ∈ R ∧ RowsA (some ⟨b3, 0, none⟩) 1 [[.func (.func g) fst.toArray cap.toArray]] ∈ R ∧ RowsA a3 3 (lnrows l.loans) ∈ R)
    (hp : ∀ k H R i, i < l.loans.length → I k H R → FnV Tryz.prog g (fst ++ [.int .i64 (i : Nat)] ++ cap) H R (.bool (p i)))
    (hy : ∀ k i H R, (Z2m l p)[k]? = some i → I k H R → Yd Tryz.prog lk [.int .i64 (i : Nat)] H R (fun v H' R' => (v = .bool true ∧ I (k + 1) H' R') ∨ (v = .bool false ∧ E H' R'))) (H : Z7) (R : Z5) (h0 : I 0 H R) :
    Fn Tryz.prog 154 [yv lk, .pointer (some ⟨b2, 0, none⟩), .pointer (some ⟨b3, 0, none⟩)] H R (fun _ H' R' => I (Z2m l p).length H' R' ∨ E H' R') := by
 have hnl := hl.nl
 have hyr := hl.years
 obtain ⟨⟨bk, hm⟩, hf2, hf3, hfl⟩ := hI _ _ _ h0
 haveI : Mem1 bd (cel 175 ((lgl l a1 a2 a3 a4 a5 k1 k2 k3 k4 k5) ++ Zh (bk))) H := ⟨hm⟩
 haveI : MemRows (some ⟨b2, 0, none⟩) 1 [[.pointer (some ⟨bd, 0, none⟩)]] R := ⟨hf2⟩
 haveI : MemRows (some ⟨b3, 0, none⟩) 1 [[.func (.func g) fst.toArray cap.toArray]] R := ⟨hf3⟩
 haveI : MemRows a3 3 (lnrows l.loans) R := ⟨hfl⟩
 refine Z8 Tryz.func154 rfl Tryz.ntmps154 rfl ?_
 refine sqt 6 rfl (spL rfl rfl (lfB (sz := 1) Z0P rfl) rfl (sp rfl (PE.nilCheck rfl) rfl (sp rfl (PE.fA Z0W rfl) rfl (sp rfl (PE.fA Z5Q rfl) rfl (spL rfl rfl (lh sc3 rfl rfl) rfl (pur 1 rfl (Z2 ?_)))))))
 refine Zb (ι := {x : Nat × Z7 × Z5 // (x.1 : Int) ≤ l.years ∧ I (Z6M l p x.1 0) x.2.1 x.2.2}) (fun x => ⟨[(0, yv lk), (1, .pointer (some ⟨b2, 0, none⟩)), (2, .pointer (some ⟨b3, 0, none⟩)), (11, .int .i64 l.years), (12, .int .i64 x.1.1)], x.1.2.1, x.1.2.2⟩) (fun x => l.years.toNat - x.1.1) ⟨(0, H, R), by have := hl.years; simp; omega, by simpa [Z6M] using h0⟩ ?_ (fun x => ?_)
 exact Zf idH
 obtain ⟨⟨y, H0, R0⟩, hy0, hI0⟩ := x
 dsimp only at hy0 hI0 ⊢
 obtain ⟨⟨bk, hm⟩, hf2, hf3, hfl⟩ := hI _ _ _ hI0
 haveI : Mem1 bd (cel 175 ((lgl l a1 a2 a3 a4 a5 k1 k2 k3 k4 k5) ++ Zh (bk))) H0 := ⟨hm⟩
 haveI : MemRows (some ⟨b2, 0, none⟩) 1 [[.pointer (some ⟨bd, 0, none⟩)]] R0 := ⟨hf2⟩
 haveI : MemRows (some ⟨b3, 0, none⟩) 1 [[.func (.func g) fst.toArray cap.toArray]] R0 := ⟨hf3⟩
 haveI : MemRows a3 3 (lnrows l.loans) R0 := ⟨hfl⟩
 refine sqt 1 rfl (pur 1 rfl (Z0 ?_))
 refine Z1 rfl ?_ ?_ <;> intro hc0 <;> try simp only [cS] at hc0
 refine Z3 (Z0 (Z2 (sqt 2 rfl (pur 2 rfl (sqt 7 rfl (spL rfl rfl (lfB (sz := 1) Z0P rfl) rfl (sp rfl (PE.nilCheck rfl) rfl (sp rfl (PE.fA Z0W rfl) rfl (sp rfl (PE.fA Z10 rfl) rfl (spL rfl rfl (lh Z7U rfl rfl) rfl (sp rfl (PE.lenSl Z9L rfl) rfl (pur 1 rfl (Z2 ?_)))))))))))))
 refine Zb (ι := {x : Nat × Z7 × Z5 // x.1 ≤ l.loans.length ∧ I (Z6M l p y x.1) x.2.1 x.2.2}) (fun x => ⟨[(0, yv lk), (1, .pointer (some ⟨b2, 0, none⟩)), (2, .pointer (some ⟨b3, 0, none⟩)), (11, .int .i64 l.years), (12, .int .i64 y), (4, .int .i64 y), (19, .slice a3 l.loans.length k3), (20, .int .i64 l.loans.length), (21, .int .i64 x.1.1)], x.1.2.1, x.1.2.2⟩) (fun x => l.loans.length - x.1.1) ⟨(0, H0, R0), Nat.zero_le _, hI0⟩ ?_ (fun x => ?_)
 exact Zf idH
 obtain ⟨⟨i, H1, R1⟩, hi1, hI1⟩ := x
 dsimp only at hi1 hI1 ⊢
 obtain ⟨⟨bk, hm⟩, hf2, hf3, hfl⟩ := hI _ _ _ hI1
 haveI : Mem1 bd (cel 175 ((lgl l a1 a2 a3 a4 a5 k1 k2 k3 k4 k5) ++ Zh (bk))) H1 := ⟨hm⟩
 haveI : MemRows (some ⟨b2, 0, none⟩) 1 [[.pointer (some ⟨bd, 0, none⟩)]] R1 := ⟨hf2⟩
 haveI : MemRows (some ⟨b3, 0, none⟩) 1 [[.func (.func g) fst.toArray cap.toArray]] R1 := ⟨hf3⟩
 haveI : MemRows a3 3 (lnrows l.loans) R1 := ⟨hfl⟩
 refine sqt 1 rfl (pur 1 rfl (Z0 ?_))
 refine Z1 rfl ?_ ?_ <;> intro hc1 <;> try simp only [cS] at hc1
 obtain ⟨x, hx⟩ : ∃ x, l.loans[i]? = some x := ⟨_, List.getElem?_eq_getElem (by omega)⟩
 have hq : qL l p y i = (decide (x.year = y) && p i) := by unfold qL; rw [hx]
 have hps := Zaf l p y i
 refine Zg (a := a3) (sz := 3) (rows := lnrows l.loans) (by intro h0; simp [lnrows] at h0; simp [h0] at hx) (fun bf of he => ?_)
 subst he
 refine Z3 (Z0 (Z2 (sqt 6 rfl (pur 1 rfl (sp rfl (PE.indexAddr Zc5 rfl rfl (by omega) (by omega)) rfl (spL rfl rfl (lfA ZbV (row := ZS x) (Z1U hx) rfl) rfl (alc rfl Z6J rfl (fun b6 => pur 1 rfl ?_))))))))
 refine sto rfl rfl rfl Zgo rfl rfl rfl rfl ?_
 refine sqt 16 rfl (sp rfl (PE.fA Z3z rfl) rfl (spL rfl rfl (lh sc3 rfl rfl) rfl ?_))
 refine Sy.heap (fun w h => h.tail) ?_
 refine pur 3 rfl ?_
 refine Zk 30 rfl ?_ ?_ <;> intro g30
 refine spG rfl rfl rfl rfl (PE.fA ZbM rfl) rfl ?_
 refine Z0f rfl rfl rfl rfl rfl (lfB (sz := 1) Z4l rfl) rfl (pur 1 rfl ?_)
 refine Zbt rfl rfl rfl rfl rfl (hg) rfl rfl (hp _ _ _ i (by omega) hI1) ?_
 refine pur 2 rfl ?_
 refine Zk 36 rfl ?_ ?_ <;> intro g36
 have hqt : qL l p y i = true := by rw [hq, g30, g36]; rfl
 refine pur 2 rfl ?_
 refine Zgy rfl rfl rfl rfl rfl rfl rfl (hy _ i _ _ (Zdh (by omega) (by omega) hqt) hI1) ?_
 rintro v H3 R3 (⟨rfl, hI3⟩ | ⟨rfl, hE3⟩)
 refine pur 2 rfl ?_
 refine ZC rfl ?_
 refine Z3 (sqr 2 rfl (sp rfl (PE.add rfl rfl (by omega)) rfl (pur 1 rfl ?_)))
 first
   | cases hc2
   | exact Zr ⟨(i + 1, H3, R3), by omega, by dsimp only; rw [hps, hqt]; exact hI3⟩ (by dsimp only; omega) idH
   | exact Zr ⟨(i + 1, H1, R1), by omega, by dsimp only; rw [hps, hqf]; exact hI1⟩ (by dsimp only; omega) idH
 refine pur 2 rfl ?_
 refine ZD rfl ?_
 refine Z4 ?_
 first | cases hc2 | exact Zu (vs := []) rfl .nil rfl (.inr hE3) idH
 have hqf : qL l p y i = false := by rw [hq, g36]; simp
 refine pur 5 rfl ?_
 refine ZC rfl ?_
 refine Z3 (sqr 2 rfl (sp rfl (PE.add rfl rfl (by omega)) rfl (pur 1 rfl ?_)))
 first
   | cases hc2
   | exact Zr ⟨(i + 1, H3, R3), by omega, by dsimp only; rw [hps, hqt]; exact hI3⟩ (by dsimp only; omega) idH
   | exact Zr ⟨(i + 1, H1, R1), by omega, by dsimp only; rw [hps, hqf]; exact hI1⟩ (by dsimp only; omega) idH
 have hqf : qL l p y i = false := by rw [hq, g30]; rfl
 refine pur 11 rfl ?_
 refine ZC rfl ?_
 refine Z3 (sqr 2 rfl (sp rfl (PE.add rfl rfl (by omega)) rfl (pur 1 rfl ?_)))
 first
   | cases hc2
   | exact Zr ⟨(i + 1, H3, R3), by omega, by dsimp only; rw [hps, hqt]; exact hI3⟩ (by dsimp only; omega) idH
   | exact Zr ⟨(i + 1, H1, R1), by omega, by dsimp only; rw [hps, hqf]; exact hI1⟩ (by dsimp only; omega) idH
 obtain rfl : i = l.loans.length := by omega
 rw [Za8] at hI1
 refine Z9 (Za (Za (Zl (sqr 2 rfl (sp rfl (PE.add rfl rfl (by omega)) rfl (pur 1 rfl ?_))))))
 exact Z6 ⟨(y + 1, H1, R1), by dsimp only; omega, hI1⟩ idH
 obtain rfl : y = l.years.toNat := by omega
 rw [Zb4] at hI0
 refine Z9 (Za (Za (Zl ?_)))
 exact Z0l (vs := []) rfl .nil rfl (.inl hI0) idH
theorem Zcp (l : Ldg) (a1 a2 a3 a4 a5 : Option Addr) (k1 k2 k3 k4 k5 : Nat) (hl : l.ok) (i : Nat) (hi : i < l.loans.length) (bd b2 b3 : Nat) (p : Ln) (bk : List Int) (H : Z7) (R : Z5) [m2 : Mem1 b2 (cel 114 [.pointer (some ⟨bd, 0, none⟩)]) H] [m3 : Mem1 b3 (cel 59 (ZS p)) H] [md : Mem1 bd (cel 175 ((lgl l a1 a2 a3 a4 a5 k1 k2 k3 k4 k5) ++ Zh (bk))) H] [hR3 : MemRows a3 3 (lnrows l.loans) R] :
    FnV Tryz.prog 103 [.int .i64 (i : Nat), .pointer (some ⟨b2, 0, none⟩), .pointer (some ⟨b3, 0, none⟩)] H R (.bool (match l.loans[i]? with | some x => decide (x.who = p.who) && decide (x.year ≤ p.year) | none => false)) := by
 refine Z8 Tryz.func103 rfl Tryz.ntmps103 rfl ?_
 refine sqt 1 rfl ?_
 have hnl := hl.nl
 obtain ⟨x, hx⟩ : ∃ x, l.loans[i]? = some x := ⟨_, List.getElem?_eq_getElem hi⟩
 refine Zg (a := a3) (sz := 3) (rows := lnrows l.loans) (by intro h0; simp [lnrows] at h0; simp [h0] at hx) (fun bf of he => ?_)
 subst he
 rw [hx]
 refine pur 1 rfl (Z0 ?_)
 refine Zc [0, 1, 3, 7, 15, 0, 63, 127, 255, 0, 512, 2047, 4095, 8191, 16383, 32767, 65535, 131071, 8191, 524287, 1048575, 2097151, 8191, 4202495, 16777215, 33554431, 67108863] (.ld 0 (tks 1 3 (.ld 4 (tks 5 3 (.ld 8 (.tk 9 (.ld 10 (.tk 11 (.tk 12 (.ld 13 (tks 14 3 (.ld 17 (tks 18 3 (.ld 21 (.tk 22 (.ld 23 (tks 24 3 .done))))))))))))))))) Zo (by kernel_rfl) ?_
 refine ld rfl rfl (lh Z0P rfl rfl) rfl (tk rfl (PE.nilCheck rfl) rfl (tk rfl (PE.fA Z0W rfl) rfl (tk rfl (PE.fA Z10 rfl) rfl (ld rfl rfl (lh Z7U rfl rfl) rfl (Zd 1 rfl (tk rfl (PE.indexAddr Zc5 rfl rfl (by omega) (by omega)) rfl (tk rfl (PE.fA Z52 rfl) rfl (ld rfl rfl (lf (x := .int .i64 x.who) sc3 (Z1U hx) rfl) rfl (tk rfl (PE.fA ZaP rfl) rfl (ld rfl rfl (lh sc3 rfl rfl) rfl (Zd 2 rfl ?_)))))))))))
 refine Zk 17 rfl ?_ ?_ <;> intro g17
 refine ldG rfl rfl rfl rfl rfl (lh Z0P rfl rfl) rfl ?_
 refine tkG rfl rfl rfl rfl (PE.nilCheck rfl) rfl ?_
 refine tkG rfl rfl rfl rfl (PE.fA Z0W rfl) rfl ?_
 refine tkG rfl rfl rfl rfl (PE.fA Z10 rfl) rfl ?_
 refine ldG rfl rfl rfl rfl rfl (lh Z7U rfl rfl) rfl (Zd 1 rfl ?_)
 refine tkG rfl rfl rfl rfl (PE.indexAddr Zc5 rfl rfl (by omega) (by omega)) rfl ?_
 refine tkG rfl rfl rfl rfl (PE.fA Z3z rfl) rfl ?_
 refine ldG rfl rfl rfl rfl rfl (lf (x := .int .i64 x.year) sc3 (Z1U hx) rfl) rfl ?_
 refine tkG rfl rfl rfl rfl (PE.fA Z4y rfl) rfl ?_
 refine ldG rfl rfl rfl rfl rfl (lh sc3 rfl rfl) rfl (Zd 3 rfl (Z4 ?_))
 exact rtA rfl rfl rfl ⟨by simp_all [ZA], rfl, rfl⟩ drp
 refine ldN rfl rfl rfl rfl rfl rfl rfl rfl ?_
 refine Zd 3 rfl ?_
 refine ldN rfl rfl rfl rfl rfl rfl rfl rfl ?_
 refine Zd 3 rfl ?_
 refine ldN rfl rfl rfl rfl rfl rfl rfl rfl ?_
 refine Zd 1 rfl ?_
 refine ldN rfl rfl rfl rfl rfl rfl rfl rfl ?_
 refine Zd 3 rfl (Z4 ?_)
 exact rtA rfl rfl rfl ⟨by simp_all [ZA], rfl, rfl⟩ drp
theorem ZfG : Z0Z Tryz.prog 189 = some 2 := by kernel_rfl
theorem Zi9 : apT Tryz.prog 60 = some (189, 2, 16) := by kernel_rfl
theorem Zak : arN Tryz.prog 173 = some (10, 1) := by kernel_rfl
theorem Zfw : cal Tryz.prog 103 = true := by kernel_rfl
theorem ZaD : cal Tryz.prog 154 = true := by kernel_rfl
theorem Zgs : cal Tryz.prog 46 = true := by kernel_rfl
theorem Z7m : cal Tryz.prog 59 = true := by kernel_rfl
theorem Zdu : cal Tryz.prog 80 = true := by kernel_rfl
theorem Zcj : cal Tryz.prog 81 = true := by kernel_rfl
theorem Za2 : ZN Tryz.prog 189 = some 2 := by kernel_rfl
theorem cn3 : ZN Tryz.prog 3 = some 1 := by kernel_rfl
theorem Zii : ZN Tryz.prog 59 = some 3 := by kernel_rfl
theorem Zin : ZN Tryz.prog 60 = some 1 := by kernel_rfl
theorem Zef : eqB Tryz.prog 10000 189 = some (true, 2) := by kernel_rfl
theorem Zej : Tryz.prog.eqGuardType Tryz.prog.depth 189 = false := by kernel_rfl
theorem Z3T : ZF Tryz.prog 175 1 = some 7 := by kernel_rfl
theorem Z7V : ZF Tryz.prog 189 1 = some 1 := by kernel_rfl
theorem Zdb : ZJ Tryz.prog 119 = some [(0, 1)] := by kernel_rfl
theorem Z7J : ZJ Tryz.prog 189 = some [(0, 1), (1, 1)] := by kernel_rfl
theorem Zhz : Z07 Tryz.prog 60 = true := by kernel_rfl
theorem Z2r : slE Tryz.prog 47 = some (3, 1) := by kernel_rfl
theorem Zia : slE Tryz.prog 60 = some (189, 2) := by kernel_rfl
theorem ZdC : Zy Tryz.prog 119 = some ([.nilFunc]) := by kernel_rfl
theorem Z3g : Zy Tryz.prog 189 = some ([.int .i64 0, .int .i64 0]) := by kernel_rfl
theorem zl3 : Zy Tryz.prog 3 = some ([.int .i64 0]) := by kernel_rfl
theorem ZeA : Zy Tryz.prog 59 = some ([.int .i64 0, .int .i64 0, .int .i64 0]) := by kernel_rfl
theorem Zi8 : Zy Tryz.prog 60 = some ([.slice none 0 0]) := by kernel_rfl
def bkC (l : Ldg) (p : Ln) (i : Nat) : Bool := match l.loans[i]? with | some x => decide (x.who = p.who) && decide (x.year ≤ p.year) | none => false
def bkS (l : Ldg) (p : Ln) (bk : List Int) (k : Nat) : List Int × Int := ((Z2m l (bkC l p)).take k).foldl (bkI l) (bk, p.bu)
theorem ZaJ {f : Nat → List Nat} {n : Nat} (h : ∀ y, (f y).length ≤ n) : ∀ ys : List Nat, (ys.flatMap f).length ≤ ys.length * n
  | [] => by simp
  | y :: ys => by
    have ih := ZaJ h ys
    have h1 := h y
    rw [List.flatMap_cons, List.length_append, List.length_cons, Nat.succ_mul]; omega
theorem Z7R {l : Ldg} (h : l.ok) (p : Nat → Bool) : (Z2m l p).length ≤ 90 := by
  have h1 := ZaJ (f := yrL l p) (n := 10) (fun y => by
    unfold yrL
    refine Nat.le_trans (List.length_filter_le _ _) ?_
    rw [List.length_range]; exact h.nl) (List.range l.years.toNat)
  have := h.years
  rw [List.length_range] at h1
  unfold Z2m
  omega
theorem Zc4 (a : List Int) (i : Nat) : a.set i (na0 a i) = a := by
  apply List.ext_getElem?
  intro j
  rw [List.getElem?_set]
  by_cases h : i = j
  · subst h
    by_cases hl : i < a.length
    · simp [hl, na0]
    · simp [hl]
  · simp [h]
theorem ZeO {l : Ldg} {s : List Int × Int} {i : Nat} (h : min s.2 (l.asked i - na0 s.1 i) = 0) : bkI l s i = s := by
  obtain ⟨a, b⟩ := s
  unfold bkI
  rw [h]
  simp only [Int.add_zero, Int.sub_zero]
  rw [Zc4]
theorem Z5T {l : Ldg} {p : Ln} {bk : List Int} {k i : Nat} (h : (Z2m l (bkC l p))[k]? = some i) : bkS l p bk (k + 1) = bkI l (bkS l p bk k) i := by
  unfold bkS
  rw [List.take_add_one, h, List.foldl_append]; rfl
theorem Zbm (l : Ldg) (p : Ln) (bk : List Int) : bkS l p bk (Z2m l (bkC l p)).length = bkP l bk p := by
  unfold bkS
  rw [List.take_length]; rfl
theorem ZaL {l : Ldg} (h : l.ok) {p : Ln} {bk : List Int} (hb : BkOk l bk) (hp : 0 ≤ p.bu) : ∀ k, BkOk l (bkS l p bk k).1 ∧ 0 ≤ (bkS l p bk k).2 ∧ (bkS l p bk k).2 ≤ p.bu
  | 0 => ⟨hb, hp, Int.le_refl _⟩
  | k + 1 => by
    have ih := ZaL h hb hp k
    cases hx : (Z2m l (bkC l p))[k]? with
    | none =>
      have e : bkS l p bk (k + 1) = bkS l p bk k := by unfold bkS; rw [List.take_add_one, hx]; simp
      rw [e]; exact ih
    | some i =>
      rw [Z5T hx]
      have hi := ((Z2B h).1 (List.mem_of_getElem? hx)).1
      have hn := h.nl
      have hbd := ih.1.bd i
      obtain ⟨h1, h2⟩ := ZaR (i := i) ih.1 ih.2.1 (by omega)
      refine ⟨h1, h2, ?_⟩
      simp only [bkI]; omega
theorem Z2d {A : List Value} {bk : List Int} {i n : Nat} (hn : n = A.length + i) (hi : i < bk.length) : (A ++ Zh bk)[n]? = some (.int .i64 (na0 bk i)) := by
  subst hn
  rw [List.getElem?_append_right (by omega), Nat.add_sub_cancel_left]
  simp [Zh, na0, hi]
theorem Zf0 {A : List Value} {bk : List Int} {i n : Nat} (v : Value) (hn : n = A.length + i) (hi : i < bk.length) : n + [v].length ≤ (A ++ Zh bk).length := by
  subst hn
  rw [List.length_append, List.length_map, List.length_singleton]; omega
theorem Zdr {A : List Value} {bk : List Int} {i n : Nat} {v : Int} (hn : n = A.length + i) (hi : i < bk.length) : spl (A ++ Zh bk) n [.int .i64 v] = A ++ Zh (bk.set i v) := by
  subst hn
  unfold spl
  rw [List.take_length_add_append, List.append_assoc, List.append_assoc]
  congr 1
  rw [show A.length + i + [Value.int .i64 v].length = A.length + (i + 1) from by simp; omega, List.drop_length_add_append]
  apply List.ext_getElem?
  intro j
  simp only [Zh, List.map_set]
  rw [List.set_eq_take_append_cons_drop, if_pos (by simpa using hi)]
  simp
def ZcU (l : Ldg) (y : Int) : List Ln := l.pays.filter fun p => decide (p.year ≤ y)
theorem Z1R (n m : Int) (b : Nat) (H : Z7) (R : Z5) {T : Z7} [pl : Pull b (cel 3 [.int .i64 m]) H T] : FnV Tryz.prog 59 [.int .i64 n, .slice (some ⟨b, 0, none⟩) 1 1] H R (.int .i64 (min n m)) :=
  FnV.lend (pl := pl) (sz := 1) (rows := [[.int .i64 m]]) (junk := []) (by simp) (fun B => Zam n m (some ⟨b, 0, none⟩) 1 T _)
theorem ZfE (l : Ldg) (a1 a2 a3 a4 a5 : Option Addr) (k1 k2 k3 k4 k5 : Nat) (hl : l.ok) (bd : Nat) (p : Ln) (hp : 0 ≤ p.bu ∧ p.bu ≤ 1000000) (bk : List Int) (hb : BkOk l bk) (H : Z7) (R : Z5) [hR2 : MemRows a2 1 (irows l.forg) R] [hR3 : MemRows a3 3 (lnrows l.loans) R] :
    Fn Tryz.prog 46 [.pointer (some ⟨bd, 0, none⟩), .agg (ZS p).toArray] ((bd, cel 175 ((lgl l a1 a2 a3 a4 a5 k1 k2 k3 k4 k5) ++ Zh (bk))) :: H) R (fun v H' R' => ∃ (rows : List (List Value)) (o : OSl 189 2 rows), v = .tuple #[o.fs, .int .i64 (bkP l bk p).2] ∧ H' = o.G ++ (bd, cel 175 ((lgl l a1 a2 a3 a4 a5 k1 k2 k3 k4 k5) ++ Zh ((bkP l bk p).1))) :: H ∧ R' = R) := by
 refine Z4f Tryz.func46 rfl Tryz.ntmps46 rfl ?_
 refine sqt 4 rfl (bx rfl rfl rfl (fun b2 => bx rfl rfl rfl (fun b3 => pur 2 rfl (sqt 1 rfl (alc rfl Zi8 rfl (fun b6 => sqt 4 rfl (sp rfl (PE.fA Zaw rfl) rfl (spL rfl rfl (lh sc3 rfl rfl) rfl (alc rfl zl3 rfl (fun b7 => ?_))))))))))
 refine sto rfl rfl rfl cn3 rfl rfl rfl rfl ?_
 refine Z0 (sqt 4 rfl (spL rfl rfl (lh Z0P rfl rfl) rfl (sp rfl (PE.makeFunc rfl rfl) rfl (sp rfl (PE.build (out := [_]) Zdb ZdC rfl rfl) rfl ?_))))
 refine cl rfl Zdu rfl rfl (Z77 bd 103 [] [.pointer (some ⟨b2, 0, none⟩), .pointer (some ⟨b3, 0, none⟩)] _ _) ?_
 rintro _ _ _ ⟨q2, q3, rfl, rfl, rfl⟩
 refine Z2 ?_
 refine Z1G rfl ZaD (fun c0 bl0 bd0 hcp0 hca0 hcb0 hck0 => ?_)
 refine ⟨fun st pend T R' => st = .ready ∧ pend = none ∧ ∃ (rows : List (List Value)) (o : OSl 189 2 rows), T = (bd0, .deferred (some [])) :: (b7, cel 3 [.int .i64 (bkP l bk p).2]) :: (b6, cel 60 [o.fs]) :: (b3, cel 59 (ZS p)) :: (b2, cel 114 [.pointer (some ⟨bd, 0, none⟩)]) :: (o.G ++ (bd, cel 175 ((lgl l a1 a2 a3 a4 a5 k1 k2 k3 k4 k5) ++ Zh ((bkP l bk p).1))) :: H) ∧ R' = RowsA (some ⟨q3, 0, none⟩) 1 [[.func (.func 103) #[] #[.pointer (some ⟨b2, 0, none⟩), .pointer (some ⟨b3, 0, none⟩)]]] :: RowsA (some ⟨q2, 0, none⟩) 1 [[.pointer (some ⟨bd, 0, none⟩)]] :: R,
   Fn.mono (Z5I l a1 a2 a3 a4 a5 k1 k2 k3 k4 k5 hl bd q2 q3 bl0 103 [] [.pointer (some ⟨b2, 0, none⟩), .pointer (some ⟨b3, 0, none⟩)] (bkC l p) Zfw (fun k H' R' => ∃ (rows : List (List Value)) (o : OSl 189 2 rows), rows.length ≤ k ∧ H' = (bl0, lob c0 .ready none) :: (bd0, .deferred (some [])) :: (b7, cel 3 [.int .i64 (bkS l p bk k).2]) :: (b6, cel 60 [o.fs]) :: (b3, cel 59 (ZS p)) :: (b2, cel 114 [.pointer (some ⟨bd, 0, none⟩)]) :: (o.G ++ (bd, cel 175 ((lgl l a1 a2 a3 a4 a5 k1 k2 k3 k4 k5) ++ Zh ((bkS l p bk k).1))) :: H) ∧ R' = RowsA (some ⟨q3, 0, none⟩) 1 [[.func (.func 103) #[] #[.pointer (some ⟨b2, 0, none⟩), .pointer (some ⟨b3, 0, none⟩)]]] :: RowsA (some ⟨q2, 0, none⟩) 1 [[.pointer (some ⟨bd, 0, none⟩)]] :: R) (fun _ _ => False)
     (fun k H' R' h => by obtain ⟨rows, o, _, rfl, rfl⟩ := h; exact ⟨⟨(bkS l p bk k).1, by simp⟩, by simp, by simp, List.mem_cons_of_mem _ (List.mem_cons_of_mem _ hR3.mem)⟩)
     (fun k H' R' i hi h => by obtain ⟨rows, o, _, rfl, rfl⟩ := h; exact Zcp l a1 a2 a3 a4 a5 k1 k2 k3 k4 k5 hl i hi bd b2 b3 p _ _ _)
     (fun k i H' R' hk hI => ?_) _ _ ⟨[], OSl.nil _ _, Nat.zero_le _, rfl, rfl⟩) (fun v H' R' h => ?_), ?_⟩
 rotate_left
 · rcases h with ⟨rows, o, _, rfl, rfl⟩ | h
   · rw [Zbm]
     exact ⟨.ready, none, _, by simp, .refl _, rfl, rfl, rows, o, rfl, rfl⟩
   · exact h.elim
 rotate_left
 obtain ⟨rows, o, hrl, rfl, rfl⟩ := hI
 have hi := ((Z2B hl).1 (List.mem_of_getElem? hk)).1
 have hnl := hl.nl
 obtain ⟨hsb, hs0, hs1⟩ := ZaL hl hb hp.1 k
 have ha := Z2t hl i
 have hbd := hsb.bd i
 have hil : i < (bkS l p bk k).1.length := by rw [hsb.len]; omega
 have hst : bkS l p bk (k + 1) = bkI l (bkS l p bk k) i := Z5T hk
 have hkl := (List.getElem?_eq_some_iff.1 hk).1
 have hoc := Z7R hl (bkC l p)
 rw [hst]
 clear hst
 generalize bkS l p bk k = s at *
 obtain ⟨m, hm⟩ : ∃ m, m = min s.2 (l.asked i - na0 s.1 i) := ⟨_, rfl⟩
 refine Z8N hcp0 hca0 hcb0 hck0 rfl ?_
 refine sqr 1 rfl (pur 1 rfl ?_)
 refine ZX ?_
 refine Z2 (Z0 ?_)
 refine Z8e (ι := Nat) (fun b9 => ⟨[(8, .int .i64 (i : Int)), (2, .pointer (some ⟨b2, 0, none⟩)), (6, .pointer (some ⟨b6, 0, none⟩)), (7, .pointer (some ⟨b7, 0, none⟩)), (9, .pointer (some ⟨b9, 0, none⟩))], (b9, cel 189 [.int .i64 (i : Int), .int .i64 m]) :: (bl0, lob c0 .busy none) :: (bd0, .deferred (some [])) :: (b7, cel 3 [.int .i64 s.2]) :: (b6, cel 60 [o.fs]) :: (b3, cel 59 (ZS p)) :: (b2, cel 114 [.pointer (some ⟨bd, 0, none⟩)]) :: (o.G ++ (bd, cel 175 ((lgl l a1 a2 a3 a4 a5 k1 k2 k3 k4 k5) ++ Zh (s.1))) :: H), RowsA (some ⟨q3, 0, none⟩) 1 [[.func (.func 103) #[] #[.pointer (some ⟨b2, 0, none⟩), .pointer (some ⟨b3, 0, none⟩)]]] :: RowsA (some ⟨q2, 0, none⟩) 1 [[.pointer (some ⟨bd, 0, none⟩)]] :: R⟩) ?_ ?_
 refine Zc [0, 0, 0, 4, 12, 28, 0, 124, 0, 0, 256, 1280, 3840, 7936, 16380, 32764, 65534, 131071, 0, 524287] (.tk 0 (.ld 1 (.ld 2 (.tk 3 (.tk 4 (.ld 5 (.tk 6 (.ld 8 (tks 9 4 (.ld 13 (.any (.alt 7 (.tk 14 (.any (.alt 15 (.any (.alt 16 (.tk 17 (.big 18 (.big 19 .done))) (.alt 18 (.big 16 (.tk 17 (.big 19 .done))) .stop))) (.alt 18 (.big 15 (.big 16 (.tk 17 (.big 19 .done)))) .stop)))) (.alt 18 (.big 7 (.tk 14 (.big 15 (.big 16 (.tk 17 (.big 19 .done)))))) .stop))))))))))))) Zo (by kernel_rfl) ?_
 refine Zd 1 rfl (ld rfl rfl (lh sc3 rfl rfl) rfl (ld rfl rfl (lh Z0P rfl rfl) rfl (tk rfl (PE.nilCheck rfl) rfl (tk rfl (PE.fA Z0W rfl) rfl (ld rfl rfl (lhA (lgl l a1 a2 a3 a4 a5 k1 k2 k3 k4 k5) Z46 rfl rfl rfl) rfl (Zd 1 rfl (ld rfl rfl (lh Z0P rfl rfl) rfl (Zd 1 rfl (tk rfl (PE.nilCheck rfl) rfl (tk rfl (PE.fA Z3T rfl) rfl (tk rfl (PE.indexArr Zak rfl rfl (by omega) (by omega)) rfl (ld rfl rfl (lh sc3 rfl (Z2d (by show _ = 7 + i; omega) hil)) rfl ?_))))))))))))
 refine Zx ?_ ?_
 refine clV rfl Zcj rfl rfl (Z5j l a1 a2 a3 a4 a5 k1 k2 k3 k4 k5 hl i hi _ _) ?_
 refine bg (fun w hs => ⟨(lh sc3 rfl (Z2d (by show _ = 7 + i; omega) hil)) w hs, (lh Z0P rfl rfl) w hs, trivial, trivial, (lh sc3 rfl rfl) w hs, trivial⟩) ?_
 refine tk rfl (PE.sub rfl rfl (by omega)) rfl ?_
 refine Zx ?_ ?_
 refine bsl (out := [_]) rfl Z2r zl3 rfl rfl rfl rfl rfl rfl (fun b32 => ?_)
 refine bg (fun w hs => ⟨trivial, trivial, (lh sc3 rfl rfl) w hs, trivial⟩) ?_
 refine Zx ?_ ?_
 refine cl rfl Z7m rfl rfl (Z1R _ _ b32 _ _) ?_
 rintro _ _ _ ⟨rfl, rfl, rfl⟩
 rw [← hm]
 refine bgT (tk rfl (PE.build (out := [_, _]) Z7J Z3g rfl rfl) rfl (alc rfl Z3g rfl (fun b9 => bgT ?_)))
 refine sto rfl rfl rfl Za2 rfl rfl rfl rfl ?_
 refine bgT ?_
 exact Zq b9 (fun w h => (h.del b32).pull b9)
 refine Zx ?_ ?_
 refine alc rfl Z3g rfl (fun b9 => ?_)
 refine bg (fun w hs => ⟨(lh sc3 rfl rfl) w hs, trivial⟩) ?_
 refine cl rfl Z7m rfl rfl (Z1R _ _ b32 _ _) ?_
 rintro _ _ _ ⟨rfl, rfl, rfl⟩
 rw [← hm]
 refine bgT (tk rfl (PE.build (out := [_, _]) Z7J Z3g rfl rfl) rfl ?_)
 refine sto rfl rfl rfl Za2 rfl rfl rfl rfl ?_
 refine bgT ?_
 exact Zq b9 (fun w h => (h.del b32).pull b9)
 exact ZO
 refine Zx ?_ ?_
 refine alc rfl Z3g rfl (fun b9 => ?_)
 refine bg (fun w hs => ⟨(lh sc3 rfl (Z2d (by show _ = 7 + i; omega) hil)) w hs, (lh Z0P rfl rfl) w hs, (lh sc3 rfl rfl) w hs, trivial⟩) ?_
 refine bsl (out := [_]) rfl Z2r zl3 rfl rfl rfl rfl rfl rfl (fun b32 => ?_)
 refine bg (fun w hs => ⟨trivial, trivial, (lh sc3 rfl rfl) w hs, trivial⟩) ?_
 refine cl rfl Z7m rfl rfl (Z1R _ _ b32 _ _) ?_
 rintro _ _ _ ⟨rfl, rfl, rfl⟩
 rw [← hm]
 refine bgT (tk rfl (PE.build (out := [_, _]) Z7J Z3g rfl rfl) rfl ?_)
 refine sto rfl rfl rfl Za2 rfl rfl rfl rfl ?_
 refine bgT ?_
 exact Zq b9 (fun w h => (h.del b32).pull b9)
 exact ZO
 refine Zx ?_ ?_
 refine alc rfl Z3g rfl (fun b9 => ?_)
 refine bg (fun w hs => ⟨(lh sc3 rfl (Z2d (by show _ = 7 + i; omega) hil)) w hs, (lh Z0P rfl rfl) w hs, (lhA (lgl l a1 a2 a3 a4 a5 k1 k2 k3 k4 k5) Z46 rfl rfl rfl) w hs, (lh Z0P rfl rfl) w hs, (lh sc3 rfl rfl) w hs, trivial⟩) ?_
 refine clV rfl Zcj rfl rfl (Z5j l a1 a2 a3 a4 a5 k1 k2 k3 k4 k5 hl i hi _ _) ?_
 refine bg (fun w hs => ⟨(lh sc3 rfl (Z2d (by show _ = 7 + i; omega) hil)) w hs, (lh Z0P rfl rfl) w hs, trivial, trivial, (lh sc3 rfl rfl) w hs, trivial⟩) ?_
 refine tk rfl (PE.sub rfl rfl (by omega)) rfl ?_
 refine bsl (out := [_]) rfl Z2r zl3 rfl rfl rfl rfl rfl rfl (fun b32 => ?_)
 refine bg (fun w hs => ⟨trivial, trivial, (lh sc3 rfl rfl) w hs, trivial⟩) ?_
 refine cl rfl Z7m rfl rfl (Z1R _ _ b32 _ _) ?_
 rintro _ _ _ ⟨rfl, rfl, rfl⟩
 rw [← hm]
 refine bgT (tk rfl (PE.build (out := [_, _]) Z7J Z3g rfl rfl) rfl ?_)
 refine sto rfl rfl rfl Za2 rfl rfl rfl rfl ?_
 refine bgT ?_
 exact Zq b9 (fun w h => (h.del b32).pull b9)
 exact ZO
 intro b9
 dsimp only
 refine Z0 (sqt 4 rfl (spL rfl rfl (lhA [_, _] ZfG rfl rfl rfl) rfl (pur 1 rfl (sp rfl (PE.build (out := [_, _]) Z7J Z3g rfl rfl) rfl (sp rfl (PE.eqlAgg [(i : Int), m] [(i : Int), 0] (Z1B 10000 189 true 2 Zef) Zej rfl rfl rfl rfl) rfl ?_)))))
 refine Z1 rfl ?_ ?_ <;> intro hc0
 try simp only [cS] at hc0
 have hm0 : m = 0 := by simpa using hc0
 refine Z9 (Za (Zl ?_))
 rw [ZeO (by rw [← hm]; exact hm0)]
 exact Zn (.inl ⟨rfl, rows, o, by omega, rfl, rfl⟩) (fun w h => h.del b9)
 refine Z3 (sqt 5 rfl (spL rfl rfl (lh Zhz rfl rfl) rfl (spL rfl rfl (lhA [_, _] ZfG rfl rfl rfl) rfl ?_)))
 refine bsl (out := [_, _]) rfl Zia Z3g rfl rfl rfl rfl rfl rfl (fun b41 => ?_)
 refine apO (o) rfl Zi9 rfl rfl (Z1e (row := [.int .i64 (i : Int), .int .i64 m]) rfl) rfl rfl ((by simp only [List.length_singleton]; omega)) rfl (fun o42 => ?_)
 refine Z01 (l' := [o42.fs]) rfl rfl rfl Zin rfl (by rw [o42.cells.1]; first | done | rfl) (by rw [o42.cells.1]; simp [o42.cells.2]) (by rw [o42.cells.1]; first | done | rfl) (by rw [o42.cells.1]; first | done | exact Nat.le_refl _) ?_
 refine Z0 ?_
 refine Zc [0, 0, 1, 5, 15, 31, 0, 64, 255, 1, 513, 2047, 4095] (.ld 0 (tks 1 4 (.ld 5 (.tk 6 (.ld 7 (tks 8 4 (.big 12 .done))))))) Zo (by kernel_rfl) ?_
 refine ld rfl rfl (lh Z0P rfl rfl) rfl (Zd 1 rfl (tk rfl (PE.nilCheck rfl) rfl (tk rfl (PE.fA Z3T rfl) rfl (tk rfl (PE.indexArr Zak rfl rfl (by omega) (by omega)) rfl (ld rfl rfl (lh sc3 rfl (Z2d (by show _ = 7 + i; omega) hil)) rfl (tk rfl (PE.fA Z7V rfl) rfl (ld rfl rfl (lh sc3 rfl rfl) rfl (tk rfl (PE.add rfl rfl (by omega)) rfl (tk rfl (PE.nilCheck rfl) rfl (tk rfl (PE.fA Z3T rfl) rfl (tk rfl (PE.indexArr Zak rfl rfl (by omega) (by omega)) rfl ?_)))))))))))
 refine Z01 (l' := (lgl l a1 a2 a3 a4 a5 k1 k2 k3 k4 k5) ++ Zh (s.1.set i (na0 s.1 i + m))) rfl rfl rfl cn3 rfl rfl rfl (Zdr (by show _ = 7 + i; omega) hil) (Zf0 _ (by show _ = 7 + i; omega) hil) ?_
 refine bgT (sqr 5 rfl (spL rfl rfl (lh sc3 rfl rfl) rfl (sp rfl (PE.fA Z7V rfl) rfl (spL rfl rfl (lh sc3 rfl rfl) rfl (sp rfl (PE.sub rfl rfl (by omega)) rfl ?_)))))
 refine sto rfl rfl rfl cn3 rfl rfl rfl rfl ?_
 rw [show bkI l s i = (s.1.set i (na0 s.1 i + m), s.2 - m) from by rw [hm]; rfl]
 exact Zn (.inl ⟨rfl, _, o42, by rw [List.length_append]; simp only [List.length_singleton]; omega, rfl, rfl⟩) (fun w h => (h.del b41).del b9)
 rintro _ _ _ _ ⟨rfl, rfl, rows, o, rfl, rfl⟩
 refine Z8q ?_
 refine Z0 ?_
 refine Zc [0, 0, 1, 7] (.ld 0 (.ld 1 (.tk 2 (.tk 3 .done)))) Zo (by kernel_rfl) ?_
 refine ld rfl rfl (lh Zhz rfl rfl) rfl (ld rfl rfl (lh sc3 rfl rfl) rfl (Zd 2 rfl (Z4 ?_)))
 exact Z0g [bd0] idH rfl (.cons (RV.tmp rfl) (.cons (RV.tmp rfl) .nil)) rfl ⟨rows, o, rfl, rfl, rfl⟩ (fun w h => ((((h.del b7).del b6).del b3).del b2).ftail.ftail)
theorem ZbJ (l : Ldg) (a1 a2 a3 a4 a5 : Option Addr) (k1 k2 k3 k4 k5 : Nat) (hl : l.ok) (bd : Nat) (y : Int) (bk : List Int) (hb : BkOk l bk) (H : Z7) (R : Z5) [hR2 : MemRows a2 1 (irows l.forg) R] [hR3 : MemRows a3 3 (lnrows l.loans) R] [hR4 : MemRows a4 3 (lnrows l.pays) R] :
    Fn Tryz.prog 79 [.pointer (some ⟨bd, 0, none⟩), .int .i64 y] ((bd, cel 175 ((lgl l a1 a2 a3 a4 a5 k1 k2 k3 k4 k5) ++ Zh (bk))) :: H) R (fun v H' R' => BkOk l (bkA l bk (ZcU l y)) ∧ H' = (bd, cel 175 ((lgl l a1 a2 a3 a4 a5 k1 k2 k3 k4 k5) ++ Zh ((bkA l bk (ZcU l y))))) :: H ∧ R' = R) := by
 refine Z8 Tryz.func79 rfl Tryz.ntmps79 rfl ?_
 refine sqt 7 rfl (pur 1 rfl (sp rfl (PE.nilCheck rfl) rfl (sp rfl (PE.fA Z0W rfl) rfl (sp rfl (PE.fA Z3s rfl) rfl (spL rfl rfl (lh Zd5 rfl rfl) rfl (sp rfl (PE.lenSl Z7p rfl) rfl (pur 1 rfl (Z2 ?_))))))))
 refine Zb (ι := {k : Nat // k ≤ l.pays.length}) (fun k => ⟨[(0, .pointer (some ⟨bd, 0, none⟩)), (1, .int .i64 y), (10, .slice a4 l.pays.length k4), (11, .int .i64 l.pays.length), (12, .int .i64 k.1)], (bd, cel 175 ((lgl l a1 a2 a3 a4 a5 k1 k2 k3 k4 k5) ++ Zh ((bkA l bk ((l.pays.take k.1).filter fun p => decide (p.year ≤ y)))))) :: H, R⟩) (fun k => l.pays.length - k.1) ⟨0, by omega⟩ ?_ (fun k => ?_)
 exact Zf idH
 obtain ⟨k, hk⟩ := k
 dsimp only at hk ⊢
 have hnp := hl.np
 refine sqt 1 rfl (pur 1 rfl (Z0 ?_))
 refine Z1 rfl ?_ ?_ <;> intro hc0 <;> try simp only [cS] at hc0
 obtain ⟨x, hx⟩ : ∃ x, l.pays[k]? = some x := ⟨_, List.getElem?_eq_getElem (by omega)⟩
 have hxb := (hl.pays x (List.mem_of_getElem? hx)).1
 have hkb : BkOk l (bkA l bk ((l.pays.take k).filter fun p => decide (p.year ≤ y))) := Z7s hl _ hb (fun q hq => by have := (hl.pays q (List.mem_of_mem_take (List.mem_filter.1 hq).1)).1; omega)
 refine Zg (a := a4) (sz := 3) (rows := lnrows l.pays) (by intro h0; simp [lnrows] at h0; simp [h0] at hx) (fun b off he => ?_)
 subst he
 have htk : l.pays.take (k + 1) = l.pays.take k ++ [x] := by rw [List.take_add_one, hx]; rfl
 refine Z3 (Z0 (Z2 (sqt 4 rfl (sp rfl (PE.indexAddr ZfW rfl rfl (by omega) (by omega)) rfl (spL rfl rfl (lfA ZcY (row := ZS x) (Z1U hx) rfl) rfl (alc rfl ZeA rfl (fun b5 => ?_)))))))
 refine sto rfl rfl rfl Zii rfl rfl rfl rfl ?_
 refine sqt 4 rfl (sp rfl (PE.fA Z4y rfl) rfl (spL rfl rfl (lh sc3 rfl rfl) rfl (pur 2 rfl ?_)))
 refine Z1 rfl ?_ ?_ <;> intro hc1 <;> try simp only [cS] at hc1
 refine sqr 3 rfl (pur 1 rfl (spL rfl rfl (lhA [_, _, _] ZcY rfl rfl rfl) rfl ?_))
 refine Z0K bd ?_
 refine cl rfl Zgs rfl rfl (ZfE l a1 a2 a3 (some ⟨b, off, none⟩) a5 k1 k2 k3 k4 k5 hl bd x (by omega) _ hkb _ _) ?_
 rintro _ _ _ ⟨rows, o, rfl, rfl, rfl⟩
 refine Sy.heap (fun w h => St.drop h) ?_
 have hst : bkA l bk ((l.pays.take (k + 1)).filter fun p => decide (p.year ≤ y)) = (bkP l (bkA l bk ((l.pays.take k).filter fun p => decide (p.year ≤ y))) x).1 := by rw [htk, List.filter_append]; unfold bkA; rw [List.foldl_append]; simp [hc1]
 refine sqr 2 rfl (sp rfl (PE.add rfl rfl (by omega)) rfl (pur 1 rfl ?_))
 exact Z6 ⟨k + 1, by omega⟩ (fun w h => by dsimp only; rw [hst]; exact h.del b5)
 have hst : (l.pays.take (k + 1)).filter (fun p => decide (p.year ≤ y)) = (l.pays.take k).filter (fun p => decide (p.year ≤ y)) := by rw [htk, List.filter_append]; simp; omega
 refine Z3 (sqr 2 rfl (sp rfl (PE.add rfl rfl (by omega)) rfl (pur 1 rfl ?_)))
 exact Z6 ⟨k + 1, by omega⟩ (fun w h => by dsimp only; rw [hst]; exact h.del b5)
 obtain rfl : k = l.pays.length := by omega
 rw [List.take_length]
 refine Z9 (Za (Za (Zl ?_)))
 exact Z0l (vs := []) rfl .nil rfl ⟨Z7s hl _ hb (fun q hq => by have := (hl.pays q (List.mem_filter.1 hq).1).1; omega), rfl, rfl⟩ idH
theorem Zhv : Z0Z Tryz.prog 119 = some 1 := by kernel_rfl
theorem Zht : cal Tryz.prog 38 = true := by kernel_rfl
theorem Zgj : cal Tryz.prog 39 = true := by kernel_rfl
theorem Zh7 : cal Tryz.prog 40 = true := by kernel_rfl
theorem Zg8 : cal Tryz.prog 44 = true := by kernel_rfl
theorem Zh6 : cal Tryz.prog 79 = true := by kernel_rfl
theorem ZhN : slE Tryz.prog 49 = some (59, 3) := by kernel_rfl
def Z64 (l : Ldg) (who : Int) (i : Nat) : Bool := match l.loans[i]? with | some x => decide (x.who = who) | none => false
theorem Zbo (l : Ldg) (who : Int) (ps : List Ln) : ZcL l who ps = lfO l (bkA l (List.replicate 10 0) ps) (Z2m l (Z64 l who)) := rfl
def lfS (l : Ldg) (bk : List Int) (who : Int) (k : Nat) : Int := lfO l bk ((Z2m l (Z64 l who)).take k)
theorem Zan {l : Ldg} {bk : List Int} {who : Int} {k i : Nat} (h : (Z2m l (Z64 l who))[k]? = some i) : lfS l bk who (k + 1) = lfS l bk who k + (l.asked i - na0 bk i) := by
  unfold lfS lfO
  rw [List.take_add_one, h, List.map_append, List.sum_append]; simp
theorem Zb5 (l : Ldg) (bk : List Int) (who : Int) : lfS l bk who (Z2m l (Z64 l who)).length = lfO l bk (Z2m l (Z64 l who)) := by unfold lfS; rw [List.take_length]
theorem Zao {l : Ldg} (h : l.ok) {bk : List Int} (hb : BkOk l bk) : ∀ o : List Nat, 0 ≤ lfO l bk o ∧ lfO l bk o ≤ 550 * o.length
  | [] => by simp [lfO]
  | i :: o => by
    have ih := Zao h hb o
    have h1 := Z2t h i
    have h2 := hb.bd i
    have e : lfO l bk (i :: o) = (l.asked i - na0 bk i) + lfO l bk o := by unfold lfO; rw [List.map_cons, List.sum_cons]
    rw [e, List.length_cons]; omega
theorem ZeX {l : Ldg} (h : l.ok) {bk : List Int} (hb : BkOk l bk) (who : Int) (k : Nat) : 0 ≤ lfS l bk who k ∧ lfS l bk who k ≤ 49500 := by
  have h1 := Zao h hb ((Z2m l (Z64 l who)).take k)
  have h2 := Z7R h (Z64 l who)
  have h3 : ((Z2m l (Z64 l who)).take k).length ≤ 90 := by rw [List.length_take]; omega
  unfold lfS; omega
theorem Zg6 {l : Ldg} (h : l.ok) : l.bad.length ≤ 1000000 ∧ l.forg.length ≤ 1000000 ∧ l.loans.length ≤ 1000000 ∧ l.pays.length ≤ 1000000 ∧ l.proms.length ≤ 1000000 := by
  have h1 := h.nl; have h2 := h.np; have h3 := h.nq; have h4 := Z7G h; have h6 := h.years
  refine ⟨?_, h4, by omega, by omega, by omega⟩
  by_cases h0 : l.bad = []
  · rw [h0]; simp
  · have := Z5c l.bad 0 _ h.rbad h.bad h0
    omega
theorem ZbP (l : Ldg) (a1 a2 a3 a4 a5 : Option Addr) (k1 k2 k3 k4 k5 : Nat) (hl : l.ok) (who : Int) (i : Nat) (hi : i < l.loans.length) (q1 q2 : Nat) (H : Z7) (R : Z5) [m1 : Mem1 q1 (cel 52 (lgl l a1 a2 a3 a4 a5 k1 k2 k3 k4 k5)) H] [m2 : Mem1 q2 (cel 3 [.int .i64 who]) H] [hR3 : MemRows a3 3 (lnrows l.loans) R] :
    FnV Tryz.prog 40 [.int .i64 (i : Nat), .pointer (some ⟨q1, 0, none⟩), .pointer (some ⟨q2, 0, none⟩)] H R (.bool (Z64 l who i)) := by
 refine Z8 Tryz.func40 rfl Tryz.ntmps40 rfl ?_
 refine sqt 1 rfl (pur 1 rfl (Z0 ?_))
 refine Zc [0, 1, 0, 7, 15, 31, 0, 127, 255] (.tk 0 (.ld 1 (tks 2 3 (.ld 5 (.ld 6 (.tk 7 (.tk 8 .done))))))) Zo (by kernel_rfl) ?_
 have hnl := hl.nl
 obtain ⟨x, hx⟩ : ∃ x, l.loans[i]? = some x := ⟨_, List.getElem?_eq_getElem hi⟩
 refine Zg (a := a3) (sz := 3) (rows := lnrows l.loans) (by intro h0; simp [lnrows] at h0; simp [h0] at hx) (fun bf of he => ?_)
 subst he
 have hwc : Z64 l who i = decide (x.who = who) := by unfold Z64; rw [hx]
 rw [hwc]
 refine tk rfl (PE.fA Z10 rfl) rfl (ld rfl rfl (lh Z7U rfl rfl) rfl (Zd 1 rfl (tk rfl (PE.indexAddr Zc5 rfl rfl (by omega) (by omega)) rfl (tk rfl (PE.fA Z52 rfl) rfl (ld rfl rfl (lf (x := .int .i64 x.who) sc3 (Z1U hx) rfl) rfl (ld rfl rfl (lh sc3 rfl rfl) rfl (Zd 2 rfl (Z4 ?_))))))))
 exact rtA rfl rfl rfl ⟨rfl, rfl, rfl⟩ drp
theorem Zdn (l : Ldg) (a1 a2 a3 a4 a5 : Option Addr) (k1 k2 k3 k4 k5 : Nat) (hl : l.ok) (bd q1 q2 : Nat) (who y : Int) (bk : List Int) (hb : BkOk l bk) (hy : ∀ x ∈ l.loans, x.year ≤ y) (H : Z7) (R : Z5) [m1 : Mem1 q1 (cel 52 (lgl l a1 a2 a3 a4 a5 k1 k2 k3 k4 k5)) H] [m2 : Mem1 q2 (cel 3 [.int .i64 who]) H] [hR2 : MemRows a2 1 (irows l.forg) R] [hR3 : MemRows a3 3 (lnrows l.loans) R] :
    Fn Tryz.prog 39 [.pointer (some ⟨bd, 0, none⟩), .int .i64 y, .agg #[.func (.func 40) #[] #[.pointer (some ⟨q1, 0, none⟩), .pointer (some ⟨q2, 0, none⟩)]]] ((bd, cel 175 ((lgl l a1 a2 a3 a4 a5 k1 k2 k3 k4 k5) ++ Zh (bk))) :: H) R (fun v H' R' => v = .int .i64 (lfO l bk (Z2m l (Z64 l who))) ∧ H' = (bd, cel 175 ((lgl l a1 a2 a3 a4 a5 k1 k2 k3 k4 k5) ++ Zh (bk))) :: H ∧ R' = R) := by
 refine Z4f Tryz.func39 rfl Tryz.ntmps39 rfl ?_
 refine sqt 4 rfl (bx rfl rfl rfl (fun b3 => bx rfl rfl rfl (fun b4 => bx rfl rfl rfl (fun b5 => pur 1 rfl (sqt 2 rfl (alc rfl zl3 rfl (fun b7 => ?_)))))))
 refine sto rfl rfl rfl cn3 rfl rfl rfl rfl ?_
 refine Z0 (sqt 3 rfl (spL rfl rfl (lh Z0P rfl rfl) rfl (spL rfl rfl (lhA [_] Zhv rfl rfl rfl) rfl ?_)))
 refine cl rfl Zdu rfl rfl (Z77 bd 40 [] [.pointer (some ⟨q1, 0, none⟩), .pointer (some ⟨q2, 0, none⟩)] _ _) ?_
 rintro _ _ _ ⟨qd, q3, rfl, rfl, rfl⟩
 refine Z2 ?_
 refine Z1G rfl ZaD (fun c0 bl0 bd0 hcp0 hca0 hcb0 hck0 => ?_)
 refine ⟨fun st pend T R' => st = .ready ∧ pend = none ∧ T = (bd0, .deferred (some [])) :: (b7, cel 3 [.int .i64 (lfO l bk (Z2m l (Z64 l who)))]) :: (b5, cel 119 [.func (.func 40) #[] #[.pointer (some ⟨q1, 0, none⟩), .pointer (some ⟨q2, 0, none⟩)]]) :: (b4, cel 3 [.int .i64 y]) :: (b3, cel 114 [.pointer (some ⟨bd, 0, none⟩)]) :: (bd, cel 175 ((lgl l a1 a2 a3 a4 a5 k1 k2 k3 k4 k5) ++ Zh (bk))) :: H ∧ R' = RowsA (some ⟨q3, 0, none⟩) 1 [[.func (.func 40) #[] #[.pointer (some ⟨q1, 0, none⟩), .pointer (some ⟨q2, 0, none⟩)]]] :: RowsA (some ⟨qd, 0, none⟩) 1 [[.pointer (some ⟨bd, 0, none⟩)]] :: R,
   Fn.mono (Z5I l a1 a2 a3 a4 a5 k1 k2 k3 k4 k5 hl bd qd q3 bl0 40 [] [.pointer (some ⟨q1, 0, none⟩), .pointer (some ⟨q2, 0, none⟩)] (Z64 l who) Zh7 (fun k H' R' => H' = (bl0, lob c0 .ready none) :: (bd0, .deferred (some [])) :: (b7, cel 3 [.int .i64 (lfS l bk who k)]) :: (b5, cel 119 [.func (.func 40) #[] #[.pointer (some ⟨q1, 0, none⟩), .pointer (some ⟨q2, 0, none⟩)]]) :: (b4, cel 3 [.int .i64 y]) :: (b3, cel 114 [.pointer (some ⟨bd, 0, none⟩)]) :: (bd, cel 175 ((lgl l a1 a2 a3 a4 a5 k1 k2 k3 k4 k5) ++ Zh (bk))) :: H ∧ R' = RowsA (some ⟨q3, 0, none⟩) 1 [[.func (.func 40) #[] #[.pointer (some ⟨q1, 0, none⟩), .pointer (some ⟨q2, 0, none⟩)]]] :: RowsA (some ⟨qd, 0, none⟩) 1 [[.pointer (some ⟨bd, 0, none⟩)]] :: R) (fun _ _ => False)
     (fun k H' R' h => by obtain ⟨rfl, rfl⟩ := h; exact ⟨⟨bk, by simp⟩, by simp, by simp, List.mem_cons_of_mem _ (List.mem_cons_of_mem _ hR3.mem)⟩)
     (fun k H' R' i hi h => by obtain ⟨rfl, rfl⟩ := h; exact ZbP l a1 a2 a3 a4 a5 k1 k2 k3 k4 k5 hl who i hi q1 q2 _ _)
     (fun k i H' R' hk hI => ?_) _ _ ⟨rfl, rfl⟩) (fun v H' R' h => ?_), ?_⟩
 rotate_left
 · rcases h with ⟨rfl, rfl⟩ | h
   · rw [Zb5]
     exact ⟨.ready, none, _, by simp, .refl _, rfl, rfl, rfl, rfl⟩
   · exact h.elim
 rotate_left
 obtain ⟨rfl, rfl⟩ := hI
 have hi := ((Z2B hl).1 (List.mem_of_getElem? hk)).1
 have hnl := hl.nl
 have ha := Z2t hl i
 have hbd := hb.bd i
 have hil : i < bk.length := by rw [hb.len]; omega
 have hsb := ZeX hl hb who k
 rw [Zan hk]
 generalize lfS l bk who k = s at *
 refine Z8N hcp0 hca0 hcb0 hck0 rfl ?_
 refine sqr 1 rfl (pur 1 rfl ?_)
 refine ZX ?_
 refine Z2 (Z0 ?_)
 refine Zc [0, 1, 3, 7, 15, 0, 63, 127, 255, 0, 1023] (.ld 0 (tks 1 3 (.ld 4 (tks 5 3 (.ld 8 (.ld 9 (.tk 10 .done))))))) Zo (by kernel_rfl) ?_
 have hnl := hl.nl
 obtain ⟨x, hx⟩ : ∃ x, l.loans[i]? = some x := ⟨_, List.getElem?_eq_getElem hi⟩
 refine Zg (a := a3) (sz := 3) (rows := lnrows l.loans) (by intro h0; simp [lnrows] at h0; simp [h0] at hx) (fun bf of he => ?_)
 subst he
 refine ld rfl rfl (lh Z0P rfl rfl) rfl (tk rfl (PE.nilCheck rfl) rfl (tk rfl (PE.fA Z0W rfl) rfl (tk rfl (PE.fA Z10 rfl) rfl (ld rfl rfl (lh Z7U rfl rfl) rfl (Zd 1 rfl (tk rfl (PE.indexAddr Zc5 rfl rfl (by omega) (by omega)) rfl (tk rfl (PE.fA Z3z rfl) rfl (ld rfl rfl (lf (x := .int .i64 x.year) sc3 (Z1U hx) rfl) rfl (ld rfl rfl (lh sc3 rfl rfl) rfl (Zd 1 rfl ?_))))))))))
 refine Z1 rfl ?_ ?_ <;> intro hc0
 refine Zc [0, 0, 2, 6, 14, 0, 62, 0, 0, 128, 640, 1920, 3968, 8190, 16383, 32767] (.ld 0 (.ld 1 (.tk 2 (.tk 3 (.ld 4 (.tk 5 (.ld 7 (tks 8 4 (.ld 12 (.big 6 (.tk 13 (.tk 14 (.big 15 .done))))))))))))) Zo (by kernel_rfl) ?_
 refine ld rfl rfl (lh sc3 rfl rfl) rfl (ld rfl rfl (lh Z0P rfl rfl) rfl (tk rfl (PE.nilCheck rfl) rfl (tk rfl (PE.fA Z0W rfl) rfl (ld rfl rfl (lhA (lgl l a1 a2 (some ⟨bf, of, none⟩) a4 a5 k1 k2 k3 k4 k5) Z46 rfl rfl rfl) rfl (Zd 1 rfl (ld rfl rfl (lh Z0P rfl rfl) rfl (Zd 1 rfl (tk rfl (PE.nilCheck rfl) rfl (tk rfl (PE.fA Z3T rfl) rfl (tk rfl (PE.indexArr Zak rfl rfl (by omega) (by omega)) rfl (ld rfl rfl (lh sc3 rfl (Z2d (by show _ = 7 + i; omega) hil)) rfl ?_)))))))))))
 refine clV rfl Zcj rfl rfl (Z5j l a1 a2 (some ⟨bf, of, none⟩) a4 a5 k1 k2 k3 k4 k5 hl i hi _ _) ?_
 refine bg (fun w hs => ⟨(lh sc3 rfl (Z2d (by show _ = 7 + i; omega) hil)) w hs, (lh Z0P rfl rfl) w hs, trivial, trivial, (lh sc3 rfl rfl) w hs, trivial⟩) ?_
 refine tk rfl (PE.sub rfl rfl (by omega)) rfl (tk rfl (PE.add rfl rfl (by omega)) rfl ?_)
 refine sto rfl rfl rfl cn3 rfl rfl rfl rfl ?_
 refine bgT ?_
 exact Zn (.inl ⟨rfl, rfl, rfl⟩) idH
 exact absurd hc0 (by rw [dT (hy x (List.mem_of_getElem? hx))]; simp)
 rintro _ _ _ _ ⟨rfl, rfl, rfl, rfl⟩
 refine Z8q ?_
 refine sqt 2 rfl (spL rfl rfl (lh sc3 rfl rfl) rfl (pur 1 rfl (Z4 ?_)))
 exact Z0g [bd0] idH rfl (.cons (RV.tmp rfl) .nil) rfl ⟨rfl, rfl, rfl⟩ (fun w h => ((((h.del b7).del b5).del b4).del b3).ftail.ftail)
theorem ZbL (l : Ldg) (a1 a2 a3 a4 a5 : Option Addr) (k1 k2 k3 k4 k5 : Nat) (hl : l.ok) (who y : Int) (hw : l.person who = true) (hyr : l.year y = true) (H : Z7) (R : Z5) [hR1 : MemRows a1 1 (irows l.bad) R] [hR2 : MemRows a2 1 (irows l.forg) R] [hR3 : MemRows a3 3 (lnrows l.loans) R] [hR4 : MemRows a4 3 (lnrows l.pays) R] [hR5 : MemRows a5 3 (pmrows l.proms) R] :
    Fn Tryz.prog 38 [(l.v a1 a2 a3 a4 a5 k1 k2 k3 k4 k5), .int .i64 who, .int .i64 y] H R (fun v H' R' => ∃ bd, v = .tuple #[.pointer (some ⟨bd, 0, none⟩), .int .i64 0] ∧ BkOk l (bkA l (List.replicate 10 0) (ZcU l y)) ∧ H' = (bd, cel 175 ((lgl l a1 a2 a3 a4 a5 k1 k2 k3 k4 k5) ++ Zh ((bkA l (List.replicate 10 0) (ZcU l y))))) :: H ∧ R' = R) := by
 obtain ⟨hB, hF, hN, hP, hQ⟩ := Zg6 hl
 have hfo : -1000000 ≤ l.folk ∧ l.folk ≤ 1000000 := by have := hl.folk; omega
 have hye : -1000000 ≤ l.years ∧ l.years ≤ 1000000 := by have := hl.years; omega
 refine Z8 Tryz.func38 rfl Tryz.ntmps38 rfl ?_
 refine sqt 3 rfl (bx rfl rfl rfl (fun b3 => pur 2 rfl (sqt 7 rfl (spL rfl rfl (lhA (lgl l a1 a2 a3 a4 a5 k1 k2 k3 k4 k5) Z46 rfl rfl rfl) rfl ?_))))
 refine cl rfl Zg8 rfl rfl (Z1A l a1 a2 a3 a4 a5 k1 k2 k3 k4 k5 hB hF hN hP hQ _ _) ?_
 rintro _ _ R1 ⟨hq, hR1⟩
 obtain rfl := hR1.symm
 clear hR1
 obtain ⟨_, bd, rfl, rfl⟩ := hq.resolve_left (fun h => h.1 (Z8H hl))
 refine pur 5 rfl (Z0 (sqt 2 rfl (pur 2 rfl ?_)))
 refine Z1 rfl ?_ ?_ <;> intro hc0
 exact absurd hc0 (by simp)
 refine Z3 (Z0 (sqt 10 rfl (spL rfl rfl (lhA (lgl l a1 a2 a3 a4 a5 k1 k2 k3 k4 k5) Z46 rfl rfl rfl) rfl (pur 1 rfl ?_))))
 refine cl rfl ZcP rfl rfl (Z3B l a1 a2 a3 a4 a5 k1 k2 k3 k4 k5 who hN hfo hye _ _) ?_
 rintro _ _ R1 ⟨rfl, rfl, hR1⟩
 obtain rfl := hR1.symm
 clear hR1
 rw [hw]
 refine pur 2 rfl ?_
 refine Zk 22 rfl ?_ ?_ <;> intro g22
 exact absurd g22 (by simp)
 refine Z0f rfl rfl rfl rfl rfl (lhA (lgl l a1 a2 a3 a4 a5 k1 k2 k3 k4 k5) Z46 rfl rfl rfl) rfl (pur 1 rfl ?_)
 refine clG rfl rfl rfl rfl Zaa rfl rfl (Z6b l a1 a2 a3 a4 a5 k1 k2 k3 k4 k5 y hN hfo hye _ _) ?_
 rintro _ _ R1 ⟨rfl, rfl, hR1⟩
 obtain rfl := hR1.symm
 clear hR1
 rw [hyr]
 refine pur 2 rfl ?_
 refine Z1 rfl ?_ ?_ <;> intro hc1
 exact absurd hc1 (by simp)
 refine Z3 (sqt 3 rfl (pur 2 rfl ?_))
 refine cl rfl Zh6 rfl rfl (ZbJ l a1 a2 a3 a4 a5 k1 k2 k3 k4 k5 hl bd y _ (Zc2 hl) _ _) ?_
 rintro _ _ R1 ⟨hbk, rfl, hR1⟩
 obtain rfl := hR1.symm
 clear hR1
 refine sqt 3 rfl (pur 3 rfl (Z4 ?_))
 exact rtB rfl rfl rfl rfl ⟨bd, rfl, hbk, rfl, rfl⟩ (fun w h => h.del b3)
theorem c_Owes (l : Ldg) (a1 a2 a3 a4 a5 : Option Addr) (k1 k2 k3 k4 k5 : Nat) (hl : l.ok) (who y : Int) (hw : l.person who = true) (hyr : l.year y = true) (hy : ∀ x ∈ l.loans, x.year ≤ y) (H : Z7) (R : Z5) [hR1 : MemRows a1 1 (irows l.bad) R] [hR2 : MemRows a2 1 (irows l.forg) R] [hR3 : MemRows a3 3 (lnrows l.loans) R] [hR4 : MemRows a4 3 (lnrows l.pays) R] [hR5 : MemRows a5 3 (pmrows l.proms) R] :
    FnV Tryz.prog 14 [(l.v a1 a2 a3 a4 a5 k1 k2 k3 k4 k5), .int .i64 who, .int .i64 y] H R (.tuple #[.int .i64 (ZcL l who (ZcU l y)), .int .i64 0]) := by
 refine Z8 Tryz.func14 rfl Tryz.ntmps14 rfl ?_
 refine sqt 4 rfl (bx rfl rfl rfl (fun b3 => bx rfl rfl rfl (fun b4 => pur 2 rfl (sqt 9 rfl (spL rfl rfl (lhA (lgl l a1 a2 a3 a4 a5 k1 k2 k3 k4 k5) Z46 rfl rfl rfl) rfl (spL rfl rfl (lh sc3 rfl rfl) rfl (pur 1 rfl ?_)))))))
 refine cl rfl Zht rfl rfl (ZbL l a1 a2 a3 a4 a5 k1 k2 k3 k4 k5 hl who y hw hyr _ _) ?_
 rintro _ _ R1 ⟨bd, rfl, hbk, rfl, hR1⟩
 obtain rfl := hR1.symm
 clear hR1
 refine pur 5 rfl (Z0 (sqt 2 rfl (pur 2 rfl ?_)))
 refine Z1 rfl ?_ ?_ <;> intro hc0
 exact absurd hc0 (by simp)
 refine Z3 (sqt 7 rfl (pur 2 rfl (sp rfl (PE.makeFunc rfl rfl) rfl (sp rfl (PE.build (out := [_]) Zdb ZdC rfl rfl) rfl ?_))))
 refine cl rfl Zgj rfl rfl (Zdn l a1 a2 a3 a4 a5 k1 k2 k3 k4 k5 hl bd b3 b4 who y _ hbk hy _ _) ?_
 rintro _ _ R1 ⟨rfl, rfl, hR1⟩
 obtain rfl := hR1.symm
 clear hR1
 rw [← Zbo]
 refine pur 2 rfl (Z4 ?_)
 exact rtB rfl rfl rfl rfl ⟨rfl, rfl, rfl⟩ (fun w h => ((h.del bd).del b4).del b3)
theorem Z5F : apT Tryz.prog 47 = some (3, 1, 8) := by kernel_rfl
theorem Zij : apT Tryz.prog 50 = some (86, 3, 24) := by kernel_rfl
theorem ZhD : ZN Tryz.prog 52 = some 7 := by kernel_rfl
theorem ZhY : ZJ Tryz.prog 52 = some [(0, 1), (1, 1), (2, 1), (3, 1), (4, 1), (5, 1), (6, 1)] := by kernel_rfl
theorem ZhU : slE Tryz.prog 48 = some (113, 3) := by kernel_rfl
theorem Zgt : slE Tryz.prog 50 = some (86, 3) := by kernel_rfl
theorem ZgU : Zy Tryz.prog 52 = some ([.int .i64 0, .int .i64 0, .slice none 0 0, .slice none 0 0, .slice none 0 0, .slice none 0 0, .slice none 0 0]) := by kernel_rfl
theorem Z47 : ∀ {l : List Ln} {p : Ln}, Z4P l = true → (∀ x ∈ l, x.year ≤ p.year) → Z4P (l ++ [p]) = true
  | [], _, _, _ => rfl
  | [x], p, _, h => by simp [Z4P, h x (by simp)]
  | x :: y :: l, p, h, hx => by
    simp only [Z4P, Bool.and_eq_true] at h
    have ih := Z47 (l := y :: l) (p := p) h.2 (fun z hz => hx z (List.mem_cons_of_mem _ hz))
    show (decide (x.year ≤ y.year) && Z4P (y :: (l ++ [p]))) = true
    rw [h.1]; exact ih
end Go.Proofs.YtjoajfdnlomapaaGreat.Lo
namespace Go.Proofs.YtjoajfdnlomapaaGreat
set_option linter.unusedSimpArgs false
set_option linter.unusedVariables false
open Go
section pe
variable {P : Program} {L : Zj} {d : Option Tmp} {ty : TypeId} {pos : String} {af : Array Edge} {g : Option (Nat × Bool)}
theorem PE.andNotN {T U : TypeId} {x y : Operand} {m n : Nat} (hx : ev L x = some (.int .i64 (m : Int))) (hy : ev L y = some (.int .i64 (n : Int))) (hm : m ≤ 9223372036854775807) (hn : n ≤ 9223372036854775807) :
    PE P L ⟨d, .binOp .andNot T x y U, ty, pos, af, g⟩ (.int .i64 ((m &&& (18446744073709551615 - n) : Nat) : Int)) := by
  refine PE.bits (by simp) hx hy (fun w => ?_)
  show Result.ok (Value.int .i64 (IntKind.i64.wrap ((BitVec.ofInt 64 (m : Int) &&& ~~~ BitVec.ofInt 64 (n : Int)).toNat : Int))) w = _
  have : m &&& (18446744073709551615 - n) ≤ m := Nat.and_le_left
  rw [BitVec.toNat_and, BitVec.toNat_not, Z0j hm, Z0j hn, show 2 ^ 64 - 1 - n = 18446744073709551615 - n from rfl, ZI (by omega) (by omega)]
theorem PE.shr1 {T U : TypeId} {x y : Operand} {m : Int} {q : IntKind} (hx : ev L x = some (.int .u64 m)) (hy : ev L y = some (.int q 1)) (h0 : 0 ≤ m) :
    PE P L ⟨d, .binOp .shr T x y U, ty, pos, af, g⟩ (.int .u64 (m / 2)) := fun ρ hρ w => by
  have hg : ∀ w, (eqGuard .shr T x y (.int .u64 m) (.int q 1)).run P w = .ok () w := fun w => rfl
  have hbo : binOp .shr T (.int .u64 m) (.int q 1) = Op.shift .shr .u64 m q 1 := by simp [binOp]
  have hs : ∀ w, (Op.shift .shr .u64 m q 1).run P w = .ok (.int .u64 (m / 2)) w := fun w => by
    unfold Op.shift
    rw [if_neg (by omega)]
    show Result.ok (Value.int .u64 (m.fdiv (2 ^ (Min.min ((1 : Int).toNat) (IntKind.u64.bits))))) w = _
    have e : Min.min ((1 : Int).toNat) (IntKind.u64.bits) = 1 := rfl
    rw [e, Int.fdiv_eq_ediv_of_nonneg _ (by decide)]; rfl
  simp only [execOp, hρ _ _ hx, hρ _ _ hy, Sem.run_bind, hg, hbo, hs, Result.andThen, Sem.run_pure]
end pe
abbrev Z20 (l : List Bool) : List Value := l.map Value.bool
theorem Z4A {P : Program} {e : Nat} (hs : Z07 P e = true) (l : List Bool) (off : Nat) (hl : off < l.length) (w : World) : (part e (Z20 l).toArray off).run P w = .ok (.bool l[off]) w := by
  unfold part
  simp only [Sem.run_bind, Z0t hs, Result.andThen]
  simp [hl, Sem.run_pure]
theorem Z3v {P : Program} {d e : Nat} (hu : P.underlying e = some .bool) (xs ys : List Bool) : ∀ (is : List Nat), (∀ i ∈ is, i < xs.length ∧ i < ys.length) → ∀ w,
    (Op.eqItems (d + 1) e 1 (Z20 xs).toArray (Z20 ys).toArray is).run P w = .ok (decide (∀ i ∈ is, xs[i]? = ys[i]?)) w
  | [], _, w => by simp [Op.eqItems, Sem.run_pure]
  | i :: is, hi, w => by
    obtain ⟨h1, h2⟩ := hi i (by simp)
    have hs : Z07 P e = true := by simp [Z07, hu]
    have p1 := Z4A hs xs i h1 w
    have p2 := Z4A hs ys i h2 w
    have p3 : (Op.equalIn (d + 1) e (.bool xs[i]) (.bool ys[i])).run P w = .ok (xs[i] == ys[i]) w := by
      rw [Op.equalIn]
      simp only [Sem.run_bind, run_underlying hu, Result.andThen, Sem.run_pure]
    simp only [Op.eqItems, Sem.run_bind, Nat.mul_one, p1, p2, p3, Result.andThen]
    by_cases hc : xs[i] = ys[i]
    · rw [if_neg (by simp [hc]), Z3v hu xs ys is (fun j hj => hi j (by simp [hj])) w]
      congr 1
      exact decide_eq_decide.2 ⟨fun h j hj => by
        rcases List.mem_cons.1 hj with rfl | hj
        · rw [List.getElem?_eq_getElem h1, List.getElem?_eq_getElem h2, hc]
        · exact h j hj, fun h j hj => h j (by simp [hj])⟩
    · rw [if_pos (by simp [hc])]
      simp only [Sem.run_pure]
      congr 1
      exact (decide_eq_false fun h => hc (by
        have := h i (by simp)
        rw [List.getElem?_eq_getElem h1, List.getElem?_eq_getElem h2] at this
        exact Option.some.inj this)).symm
section pb
variable {P : Program} {L : Zj} {d : Option Tmp} {ty : TypeId} {pos : String} {af : Array Edge} {g : Option (Nat × Bool)}
theorem PE.eqlBools {T U n e : Nat} {x y : Operand} (xs ys : List Bool) (hA : arE P T = some (n, e)) (hN : arN P T = some (n, 1)) (hu : P.underlying e = some .bool) (hg : P.eqGuardType P.depth T = false) (hx : ev L x = some (.agg (Z20 xs).toArray)) (hy : ev L y = some (.agg (Z20 ys).toArray)) (lx : xs.length = n) (ly : ys.length = n) :
    PE P L ⟨d, .binOp .eql T x y U, ty, pos, af, g⟩ (.bool (decide (xs = ys))) := fun ρ hρ w => by
  have hb : binOp .eql T (.agg (Z20 xs).toArray) (.agg (Z20 ys).toArray) = (do pure (.bool (← Op.equal T (.agg (Z20 xs).toArray) (.agg (Z20 ys).toArray)))) := rfl
  have he : (Op.equal T (.agg (Z20 xs).toArray) (.agg (Z20 ys).toArray)).run P w = .ok (decide (xs = ys)) w := by
    obtain ⟨e', i, h1, h2, h3⟩ := Z7Y hN
    have he' : e' = e := by
      unfold arE at hA
      rw [h1] at hA
      simp only [Option.some.injEq, Prod.mk.injEq] at hA
      exact hA.2
    subst he'
    have hc : P.cellsOf e' = 1 := by simp [Program.cellsOf, h2, h3]
    show (Op.equalIn (9998 + 1 + 1) T (.agg (Z20 xs).toArray) (.agg (Z20 ys).toArray)).run P w = _
    rw [run_equalIn_array (w := w) (9998 + 1) _ _ h1 h2, hc, Z3v hu xs ys (List.range n) (fun j hj => by have := List.mem_range.1 hj; omega) w]
    congr 1
    exact decide_eq_decide.2 ⟨fun h => List.ext_getElem? fun j => by
      rcases Nat.lt_or_ge j n with hj | hj
      · exact h j (List.mem_range.2 hj)
      · rw [List.getElem?_eq_none (by omega), List.getElem?_eq_none (by omega)], fun h j _ => by rw [h]⟩
  simp only [execOp, hρ _ _ hx, hρ _ _ hy, Sem.run_bind, Z0k hg, hb, he, Result.andThen, Sem.run_pure]
end pb
theorem Z0B {m n : Nat} (hm : m ≤ 9223372036854775807) (hn : n ≤ 9223372036854775807) : (m &&& (18446744073709551615 - n) = 0) ↔ (m &&& n = m) := by
  have hb : ∀ i, (18446744073709551615 - n).testBit i = (decide (i < 64) && !(n.testBit i)) := fun i => by
    rw [show 18446744073709551615 - n = 2 ^ 64 - (n + 1) from by omega]
    exact Nat.testBit_two_pow_sub_succ (by omega) i
  constructor
  · intro h
    refine Nat.eq_of_testBit_eq fun i => ?_
    have h1 : (m &&& (18446744073709551615 - n)).testBit i = false := by rw [h]; simp
    rw [Nat.testBit_and, hb] at h1
    rw [Nat.testBit_and]
    by_cases hi : i < 64
    · simp only [hi, decide_true, Bool.true_and] at h1
      cases h2 : m.testBit i <;> simp_all
    · have : m.testBit i = false := Nat.testBit_lt_two_pow (Nat.lt_of_lt_of_le (show m < 2 ^ 64 by omega) (Nat.pow_le_pow_right (by decide) (by omega)))
      rw [this]; rfl
  · intro h
    refine Nat.eq_of_testBit_eq fun i => ?_
    rw [Nat.testBit_and, hb, Nat.zero_testBit]
    have h1 : (m &&& n).testBit i = m.testBit i := by rw [h]
    rw [Nat.testBit_and] at h1
    cases h2 : m.testBit i <;> simp_all
theorem Z2A {P : Program} {H : Z7} {R : Z5} {T KT E s m : Nat} {b : Bool} (l : KV) (k : List Int) {zv v : Value} (hT : Z1k P T = some (KT, E)) (hK : KeyT P b KT s) (hz : ∀ w, (zeroValue E).run P w = .ok zv w) (hk : k.length = s) (hl : ∀ e ∈ l, e.1.length = s)
    [mm : Mem1 m (ZU b l) H] (hv : (l.get k).getD zv = v) : ∀ w, St H R w → Lkp P T (.map (some m)) (mkv b k) false v w := fun w hs => by
  have := Z5r (R := R) (m := m) l k hT hK hz hk hl false w hs
  rw [cond_false, hv] at this
  exact this
theorem Z2s {P : Program} {H : Z7} {R : Z5} {T KT E s m : Nat} {b : Bool} (l : KV) (k : List Int) {zv v : Value} (hT : Z1k P T = some (KT, E)) (hK : KeyT P b KT s) (hz : ∀ w, (zeroValue E).run P w = .ok zv w) (hk : k.length = s) (hl : ∀ e ∈ l, e.1.length = s)
    (hm : ∀ w, St H R w → w.heap[m]? = some (ZU b l)) (hv : (l.get k).getD zv = v) : ∀ w, St H R w → Lkp P T (.map (some m)) (mkv b k) false v w := fun w hs => by
  have := Zbz l k hT hK hz hk hl hm false w hs
  rw [cond_false, hv] at this
  exact this
def Zc6 (l : KV) (k : List Int) (v : Value) (j : Nat) : Prop := l[j]? = some (k, v) ∧ ∀ u, l.put k u = l.set j (k, u)
theorem Z8T {P : Program} {T KT E s m : Nat} {b : Bool} {l : KV} {k : List Int} {zv : Value} (hT : Z1k P T = some (KT, E)) (hK : KeyT P b KT s) (hz : ∀ w, (zeroValue E).run P w = .ok zv w) (hk : k.length = s) (hl : ∀ e ∈ l, e.1.length = s) {w : World} (h : w.heap[m]? = some (ZU b l)) :
    ∃ j : Nat, Zc6 (l.put k ((l.get k).getD zv)) k ((l.get k).getD zv) j ∧
      (Instr.mapEntry T (.map (some m)) (mkv b k)).run P w = .ok (.tuple #[(l.get k).getD zv, .int .i64 j]) { w with heap := w.heap.setIfInBounds m (ZU b (l.put k ((l.get k).getD zv))) } := by
  unfold Z1k at hT
  split at hT <;> cases hT
  rename_i hu
  have h1 := Z0x (P := P) h
  have h2 := hK.ck false k hk w
  have h3 := Z0I hK k hk l hl w
  have h4 : ∀ o, (setObj m o).run P w = .ok () { w with heap := w.heap.setIfInBounds m o } := fun o => Z22 h
  unfold Instr.mapEntry
  simp only [Sem.run_bind, run_underlying hu, Result.andThen, h1, ZU, h2, h3]
  have hg := Z3O (k := k) (l := l)
  cases hf : l.findIdx? fun e => decide (e.1 = k) with
  | none =>
    rw [hf] at hg
    simp only [Option.map_none] at hg
    rw [← hg]
    simp only [Option.map_none, Option.getD_none, hz, Result.andThen, h4, Sem.run_bind]
    refine ⟨l.length, ⟨by rw [Z1y hf]; simp, fun u => ?_⟩, ?_⟩
    · have hf2 : (l ++ [(k, zv)]).findIdx? (fun e => decide (e.1 = k)) = some l.length := by
        rw [List.findIdx?_append, hf]; simp
      rw [Z1y hf]
      exact (Z1K hf2).1
    · rw [Z1y hf, Z33]
      simp [Sem.run_pure, goInt]
  | some j =>
    obtain ⟨h5, h6⟩ := Z1K (v := (l.getD j default).2) hf
    have hjk : (l[j]).1 = k := by
      have := (List.findIdx?_eq_some_iff_getElem.1 hf).2.1
      simpa using this
    rw [hf] at hg
    simp only [Option.map_some] at hg
    rw [← hg]
    have e0 := Z1F b l 0 j l[j] (List.getElem?_eq_getElem h6)
    have h7 : ((((Z19 b 0 l).toArray[j]?).map (·.key)).getD (mkv b k)) = mkv b k := by
      simp [e0, hjk]
    have hv : (l.getD j default).2 = (l[j]).2 := by simp [List.getD_eq_getElem?_getD, h6]
    have hself : l.set j (k, (l.getD j default).2) = l := by
      rw [hv, ← hjk]
      exact List.set_getElem_self h6
    simp only [Option.map_some, Option.getD_some, Sem.run_bind, h7, Z4B, Result.andThen, h4, Sem.run_pure]
    refine ⟨j, ⟨by rw [h5, hself, List.getElem?_eq_getElem h6, hv, ← hjk], fun u => ?_⟩, ?_⟩
    · rw [h5, hself]; exact (Z1K hf).1
    · have hm : ((Z19 b 0 l).toArray.modify j fun e => { e with key := mkv b k }) = (Z19 b 0 l).toArray := by
        apply Array.ext'
        rw [Array.toList_modify]
        refine List.ext_getElem? fun i => ?_
        rw [List.getElem?_modify]
        by_cases hij : j = i
        · subst hij
          simp only [if_true]
          rw [e0]; simp [hjk]
        · simp [hij]
      rw [hm, h5, hself]
      simp [e0, goInt]
section ops
variable {P : Program} {r : Option Nat} {ops : Array Oper} {n : Nat} {L : Zj} {D : List Deferred} {H : Z7} {R : Z5} {K : Act → World → Prop}
  {i d : Nat} {ty : TypeId} {pos : String} {af : Array Edge}
theorem mpE {T KT E s m : Nat} {x y : Operand} {b : Bool} (l : KV) (k : List Int) {zv v0 : Value} {H' : Z7} (ho : ops[i]? = some ⟨some d, .mapEntry T x y, ty, pos, af, none⟩)
    (hT : Z1k P T = some (KT, E)) (hK : KeyT P b KT s) (hz : ∀ w, (zeroValue E).run P w = .ok zv w) (hx : ev L x = some (.map (some m))) (hy : ev L y = some (mkv b k)) (hk : k.length = s) (hl : ∀ e ∈ l, e.1.length = s)
    (hv : (l.get k).getD zv = v0) (hd : Nat.blt d n = true) [mm : Mem1 m (ZU b l) H] [rp : Rep [(m, ZU b l)] [(m, ZU b (l.put k v0))] H H']
    (h : ∀ j : Nat, Zc6 (l.put k v0) k v0 j → Sy n ((d, .tuple #[v0, .int .i64 j]) :: L) D H' R K) : Sy n L D H R (stp P r ops i K) := fun a w ha hD hs => by
  subst hv
  obtain ⟨j, hj, h1⟩ := Z8T (P := P) hT hK hz hk hl (hs.held _ mm.mem)
  refine Zs ho (Ze _ rfl _) (w' := { w with heap := w.heap.setIfInBounds m (ZU b (l.put k ((l.get k).getD zv))) }) ?_ (h j hj _ _ (ha.put (by simpa using hd) _) hD (hs.rep (F := [(m, ZU b l)]) (F' := [(m, ZU b (l.put k ((l.get k).getD zv)))]) fun T hT => St.set hT))
  simp only [execOp, ha.reads _ _ hx, ha.reads _ _ hy, Sem.run_bind, h1, Result.andThen, Sem.run_pure]
theorem mpT {T m j : Nat} {x y z : Operand} {b : Bool} (l : KV) (k : List Int) {v0 v : Value} {H' : Z7} (ho : ops[i]? = some ⟨none, .entryStore T x y z, ty, pos, af, none⟩)
    (hx : ev L x = some (.map (some m))) (hy : ev L y = some (.int .i64 (j : Nat))) (hz : ev L z = some v) (he : Zc6 l k v0 j) [mm : Mem1 m (ZU b l) H] [rp : Rep [(m, ZU b l)] [(m, ZU b (l.put k v))] H H']
    (h : Sy n L D H' R K) : Sy n L D H R (stp P r ops i K) := fun a w ha hD hs => by
  have hh := hs.held _ mm.mem
  have h1 := Z0x (P := P) hh
  have h4 : ∀ o, (setObj m o).run P w = .ok () { w with heap := w.heap.setIfInBounds m o } := fun o => Z22 hh
  have hjl := (List.getElem?_eq_some_iff.1 he.1).1
  have e0 := Z1F b l 0 j (k, v0) he.1
  have hf : (Z19 b 0 l).toArray.findIdx? (fun e => (e.born : Int) == (j : Int)) = some j := by
    rw [List.findIdx?_toArray, List.findIdx?_eq_some_iff_getElem]
    have hlen := Z5y b l 0
    refine ⟨by omega, ?_, fun q hq => ?_⟩
    · have := List.getElem?_eq_some_iff.1 e0
      obtain ⟨h5, h6⟩ := this
      rw [h6]; simp
    · have e1 := Z1F b l 0 q l[q] (List.getElem?_eq_getElem (by omega))
      obtain ⟨h5, h6⟩ := List.getElem?_eq_some_iff.1 e1
      rw [h6]; simp; omega
  have h2 : (Instr.entryStore T (.map (some m)) (.int .i64 (j : Nat)) v).run P w = .ok () { w with heap := w.heap.setIfInBounds m (ZU b (l.put k v)) } := by
    unfold Instr.entryStore
    simp only [Sem.run_bind, Result.andThen, h1, ZU, asInt, asIntOf, Sem.run_pure, hf, h4]
    have hm : ((Z19 b 0 l).toArray.modify j fun e => { e with val := v }) = ((Z19 b 0 l).modify j fun e => { e with key := mkv b k, val := v }).toArray := by
      apply Array.ext'
      simp only [Array.toList_modify]
      refine List.ext_getElem? fun q => ?_
      rw [List.getElem?_modify, List.getElem?_modify]
      by_cases hq : j = q
      · subst hq
        simp only [if_true]
        rw [e0]; rfl
      · simp [hq]
    rw [he.2 v, Z3V, hm, List.length_set]
  refine Z1D ho (Ze _ rfl _) (w' := { w with heap := w.heap.setIfInBounds m (ZU b (l.put k v)) }) ?_ (h _ _ (ha.putNone undef) hD (hs.rep (F := [(m, ZU b l)]) (F' := [(m, ZU b (l.put k v))]) fun T hT => St.set hT))
  simp only [execOp, ha.reads _ _ hx, ha.reads _ _ hy, ha.reads _ _ hz, Sem.run_bind, h2, Result.andThen, Sem.run_pure]
end ops
end Go.Proofs.YtjoajfdnlomapaaGreat
namespace Go.Proofs.YtjoajfdnlomapaaGreat.Lo
set_option linter.unusedSimpArgs false
set_option linter.unusedVariables false
open Go
theorem ZaZ : cal Tryz.prog 119 = true := by kernel_rfl
theorem ZeT : cal Tryz.prog 120 = true := by kernel_rfl
theorem ZdH : cal Tryz.prog 121 = true := by kernel_rfl
theorem Zee : cal Tryz.prog 122 = true := by kernel_rfl
theorem Zdx : cal Tryz.prog 184 = true := by kernel_rfl
theorem Ze7 : cal Tryz.prog 185 = true := by kernel_rfl
theorem ZeP : cal Tryz.prog 212 = true := by kernel_rfl
theorem Zfn : cal Tryz.prog 56 = true := by kernel_rfl
theorem ZbT : cal Tryz.prog 57 = true := by kernel_rfl
theorem ZhX : elN Tryz.prog 77 = some 1 := by kernel_rfl
theorem Zcs : elN Tryz.prog 78 = some 1 := by kernel_rfl
theorem ZcI : Z1W Tryz.prog 77 = true := by kernel_rfl
theorem Z5d : Z1W Tryz.prog 78 = true := by kernel_rfl
theorem Zgk : Z07 Tryz.prog 182 = true := by kernel_rfl
theorem Zd4 : Z07 Tryz.prog 78 = true := by kernel_rfl
def nn (l : List Int) (k : Nat) : Int := l.getD k 0
theorem Z3a {l : List Int} {i j : Nat} {v : Int} (h : i < l.length) : nn (l.set i v) j = bif i == j then v else nn l j := by
  unfold nn
  rw [List.getD_eq_getElem?_getD, List.getD_eq_getElem?_getD, List.getElem?_set]
  by_cases e : i = j
  · subst e; rw [if_pos rfl, if_pos h]; simp
  · rw [if_neg e, show (i == j) = false from by simpa using e]; rfl
theorem Z4C {l : List Int} {i j : Nat} {v : Int} (h : i < l.length) : nn (l.set i v) j = if i = j then v else nn l j := by
  rw [Z3a h]
  by_cases e : i = j
  · subst e; simp
  · rw [if_neg e, show (i == j) = false from by simpa using e]; rfl
theorem nn_get {l : List Int} {k : Nat} (h : k < l.length) : l[k]? = some (nn l k) := by unfold nn; simp [h]
theorem Z5E {l m : List Int} (h : l.length = m.length) (he : ∀ k, k < l.length → nn l k = nn m k) : l = m := by
  refine List.ext_getElem? fun k => ?_
  rcases Nat.lt_or_ge k l.length with h1 | h1
  · rw [nn_get h1, nn_get (by omega), he k h1]
  · rw [List.getElem?_eq_none h1, List.getElem?_eq_none (by omega)]
theorem _root_.Go.Proofs.YtjoajfdnlomapaaGreat.OSl.freezeC {e sz : Nat} {rows : List (List Value)} (o : OSl e sz rows) : ∃ a c, o.fs = .slice a rows.length c ∧ rows.length ≤ c ∧ ∀ {H : Z7} {R : Z5} {w : World}, St (o.G ++ H) R w → St H (RowsA a sz rows :: R) w := by
  obtain ⟨fs, G, hl, his⟩ := o
  rcases his with ⟨rfl, rfl, rfl⟩ | ⟨b, cap, junk, rfl, rfl, _, hc, _⟩
  · exact ⟨none, 0, rfl, Nat.le_refl _, fun {H R w} h => (St.also (H := H) (R := R) h (f := RowsA none sz []) (fun w' _ => fun i row hi => by simp at hi))⟩
  · exact ⟨_, cap, rfl, hc, fun {H R w} h => St.rows (rest := junk) h hl⟩
theorem Z6n {p q s vs : List Value} (h : q.length = vs.length) : spl (p ++ (q ++ s)) p.length vs = p ++ (vs ++ s) := by
  unfold spl
  rw [List.take_left, show p.length + vs.length = (p ++ q).length by simp [h], ← List.append_assoc p q s, List.drop_left, List.append_assoc]
theorem Z7n {α : Type} {xs : List α} {i : Nat} (hi : i < xs.length) : ∃ A y B, xs = A ++ y :: B ∧ i = A.length := ⟨xs.take i, xs[i], xs.drop (i + 1), by rw [← List.drop_eq_getElem_cons hi, List.take_append_drop], by rw [List.length_take]; omega⟩
theorem irows_flat' (l : List Int) : (irows l).flatten = Zh l := Z18 l
theorem Z4H (l : List Int) : ∀ r ∈ irows l, r.length = 1 := fun r hr => by obtain ⟨z, _, rfl⟩ := List.mem_map.1 hr; rfl
theorem ints_length (l : List Int) : (Zh l).length = l.length := by simp [Zh]
theorem nn_at {xs : List Int} {k : Nat} (h : k < xs.length) : nn xs k = xs[k] := by unfold nn; rw [List.getD_eq_getElem?_getD, List.getElem?_eq_getElem h]; rfl
theorem int_at {xs : List Int} {junk : List Value} {k : Nat} (h : k < xs.length) : (Zh xs ++ junk)[0 + ((k : Nat) : Int).toNat * 1]? = some (.int .i64 (nn xs k)) := by
  rw [show 0 + ((k : Nat) : Int).toNat * 1 = k by omega, List.getElem?_append_left (by rw [ints_length]; exact h), nn_at h]
  simp [Zh, h]
theorem spl_int {xs : List Int} {junk : List Value} {k : Nat} (h : k < xs.length) (v : Int) : spl (Zh xs ++ junk) (0 + ((k : Nat) : Int).toNat * 1) [.int .i64 v] = Zh (xs.set k v) ++ junk := by
  rw [show 0 + ((k : Nat) : Int).toNat * 1 = k by omega]
  obtain ⟨A, y, B, rfl, rfl⟩ := Z7n h
  have h1 := Z6n (p := Zh A) (q := [.int .i64 y]) (s := Zh B ++ junk) (vs := [.int .i64 v]) rfl
  rw [show (Zh A).length = A.length by simp [Zh]] at h1
  rw [show Zh (A ++ y :: B) ++ junk = Zh A ++ ([.int .i64 y] ++ (Zh B ++ junk)) by simp [Zh], h1]
  simp [Zh]
structure PL where
  a : Option Addr
  c : Nat
  l : List Int
def plrow (x : PL) : List Value := [.slice x.a x.l.length x.c]
def plrows (l : List PL) : List (List Value) := l.map plrow
def Inn (l : List PL) (w : World) : Prop := ∀ x ∈ l, RowsA x.a 1 (irows x.l) w
def lls (l : List PL) : List (List Int) := l.map (·.l)
theorem Z0u (l : List PL) : (plrows l).length = l.length := List.length_map _
theorem pl_get {l : List PL} {k : Nat} {x : PL} (h : l[k]? = some x) : (plrows l)[k]? = some (plrow x) := by simp [plrows, h]
theorem Zbv {l : List PL} {k : Nat} {x : PL} (h : l[k]? = some x) : (lls l)[k]? = some x.l := by simp [lls, h]
theorem Z7I (l : List PL) : (lls l).length = l.length := List.length_map _
theorem St.inn {H : Z7} {R : Z5} {w : World} {l : List PL} {x : PL} [m : MemF (Inn l) R] (h : St H R w) (hx : x ∈ l) : St H (RowsA x.a 1 (irows x.l) :: R) w :=
  h.also fun _ hw => hw _ m.mem x hx
theorem irows_len (l : List Int) : (irows l).length = l.length := List.length_map _
def Z9t (ns : List Int) : List (List Int) := List.replicate (ns.length + 1) 0 :: ns.map fun z => z :: List.replicate ns.length 0
structure Dbt (dl : List PL) (ns : List Int) : Prop where
  eq : lls dl = Z9t ns
  len : 1 ≤ ns.length ∧ ns.length ≤ 6
  bd : ∀ z ∈ ns, 0 ≤ z ∧ z ≤ 500
def gE (ns : List Int) (i j : Nat) : Int := if j = 0 then (if i = 0 then 0 else nn ns (i - 1)) else 0
theorem Dbt.dlen {dl : List PL} {ns : List Int} (h : Dbt dl ns) : dl.length = ns.length + 1 := by
  have := congrArg List.length h.eq
  rw [Z7I] at this
  rw [this]; simp [Z9t]
theorem Dbt.row {dl : List PL} {ns : List Int} (h : Dbt dl ns) {i : Nat} {x : PL} (hx : dl[i]? = some x) : x.l.length = ns.length + 1 ∧ ∀ j, j ≤ ns.length → x.l[j]? = some (gE ns i j) := by
  have h1 := Zbv hx
  rw [h.eq] at h1
  unfold Z9t at h1
  match i, h1 with
  | 0, h1 =>
    simp only [List.getElem?_cons_zero, Option.some.injEq] at h1
    rw [← h1]
    refine ⟨List.length_replicate, fun j hj => ?_⟩
    rw [List.getElem?_replicate, if_pos (by omega)]
    unfold gE; split <;> rfl
  | i + 1, h1 =>
    rw [List.getElem?_cons_succ, List.getElem?_map] at h1
    obtain ⟨z, hz, h2⟩ := Option.map_eq_some_iff.1 h1
    rw [← h2]
    refine ⟨by simp, fun j hj => ?_⟩
    match j, hj with
    | 0, _ =>
      have : nn ns i = z := by unfold nn; rw [List.getD_eq_getElem?_getD, hz]; rfl
      show some z = _
      unfold gE
      rw [if_pos rfl, if_neg (by omega), Nat.add_sub_cancel, this]
    | j + 1, hj =>
      rw [List.getElem?_cons_succ, List.getElem?_replicate, if_pos (by omega)]
      unfold gE; rw [if_neg (by omega)]
theorem Dbt.nb {dl : List PL} {ns : List Int} (h : Dbt dl ns) (k : Nat) : 0 ≤ nn ns k ∧ nn ns k ≤ 500 := by
  rcases Nat.lt_or_ge k ns.length with h1 | h1
  · exact h.bd _ (List.mem_of_getElem? (nn_get h1))
  · unfold nn; rw [List.getD_eq_getElem?_getD, List.getElem?_eq_none h1]; decide
theorem Dbt.gb {dl : List PL} {ns : List Int} (h : Dbt dl ns) (i j : Nat) : 0 ≤ gE ns i j ∧ gE ns i j ≤ 500 := by
  have := h.nb (i - 1)
  unfold gE
  split
  · split <;> omega
  · omega
def netP (ns : List Int) (m : Nat) : List Int := (ns.take m).sum :: (List.range ns.length).map fun q => if q < m then - nn ns q else 0
theorem netP_len (ns : List Int) (m : Nat) : (netP ns m).length = ns.length + 1 := by simp [netP]
theorem netP_0 (ns : List Int) (m : Nat) : nn (netP ns m) 0 = (ns.take m).sum := rfl
theorem Z3w (ns : List Int) (m : Nat) {q : Nat} (h : q < ns.length) : nn (netP ns m) (q + 1) = if q < m then - nn ns q else 0 := by
  unfold nn netP
  rw [List.getD_eq_getElem?_getD, List.getElem?_cons_succ, List.getElem?_map, List.getElem?_range h]; rfl
theorem Z3X {ns : List Int} {k : Nat} (h : k < ns.length) : (ns.take (k + 1)).sum = (ns.take k).sum + nn ns k := by
  rw [List.take_add_one, nn_get h]; simp
theorem Z75 {ns : List Int} (hb : ∀ z ∈ ns, 0 ≤ z ∧ z ≤ 500) : ∀ k, 0 ≤ (ns.take k).sum ∧ (ns.take k).sum ≤ 500 * (k : Nat)
  | 0 => by simp
  | k + 1 => by
    have ih := Z75 hb k
    rcases Nat.lt_or_ge k ns.length with h | h
    · rw [Z3X h]
      have := hb _ (List.mem_of_getElem? (nn_get h)); omega
    · rw [List.take_of_length_le (by omega), ← List.take_of_length_le (i := k) h]; omega
theorem Z5v {dl : List PL} {ns : List Int} (h : Dbt dl ns) {m k : Nat} (hm : m ≤ ns.length) (hk : k ≤ ns.length) : -3000 ≤ nn (netP ns m) k ∧ nn (netP ns m) k ≤ 3000 := by
  have hl := h.len
  match k, hk with
  | 0, _ => rw [netP_0]; have := Z75 h.bd m; omega
  | k + 1, hk =>
    rw [Z3w ns m (by omega)]
    have := h.nb k
    split <;> omega
def mI (i j : Nat) : Nat := if i = 0 then 0 else if j = 0 then i - 1 else i
theorem Z9R {dl : List PL} {ns : List Int} (h : Dbt dl ns) {i j : Nat} (hi : i ≤ ns.length) (hj : j ≤ ns.length) : ((netP ns (mI i j)).set j (nn (netP ns (mI i j)) j + gE ns i j)).set i (nn ((netP ns (mI i j)).set j (nn (netP ns (mI i j)) j + gE ns i j)) i - gE ns i j) = netP ns (mI i (j + 1)) := by
  have hl := h.len
  have e1 : (netP ns (mI i j)).length = ns.length + 1 := netP_len _ _
  refine Z5E (by rw [List.length_set, List.length_set, netP_len, netP_len]) fun k hk => ?_
  rw [List.length_set, List.length_set, netP_len] at hk
  rw [Z4C (by rw [List.length_set]; omega), Z4C (by omega), Z4C (by omega)]
  by_cases h0 : i = 0 ∨ j ≠ 0
  · have e2 : gE ns i j = 0 := by unfold gE; split; rw [if_pos (by omega)]; rfl
    have e3 : mI i (j + 1) = mI i j := by unfold mI; split; rfl; rw [if_neg (by omega), if_neg (by omega)]
    rw [e2, e3]
    by_cases h1 : i = k
    · subst h1
      rw [if_pos rfl]
      by_cases h2 : j = i
      · subst h2; rw [if_pos rfl]; omega
      · rw [if_neg h2]; omega
    · rw [if_neg h1]
      by_cases h2 : j = k
      · subst h2; rw [if_pos rfl]; omega
      · rw [if_neg h2]
  · obtain ⟨q, rfl⟩ : ∃ q, i = q + 1 := ⟨i - 1, by omega⟩
    obtain rfl : j = 0 := by omega
    have e2 : gE ns (q + 1) 0 = nn ns q := by unfold gE; rw [if_pos rfl, if_neg (by omega), Nat.add_sub_cancel]
    have e3 : mI (q + 1) (0 + 1) = q + 1 := by unfold mI; rw [if_neg (by omega), if_neg (by omega)]
    have e4 : mI (q + 1) 0 = q := by unfold mI; rw [if_neg (by omega), if_pos rfl, Nat.add_sub_cancel]
    rw [e2, e3, e4]
    match k, hk with
    | 0, _ => rw [if_neg (by omega), if_pos rfl, netP_0, netP_0, Z3X (by omega)]
    | r + 1, hk =>
      have n1 := Z3w ns q (q := q) (by omega)
      have n2 := Z3w ns q (q := r) (by omega)
      have n3 := Z3w ns (q + 1) (q := r) (by omega)
      rw [n3]
      by_cases h4 : q = r
      · subst h4
        rw [if_pos rfl, if_neg (by omega), n1, if_neg (by omega), if_pos (by omega)]; omega
      · rw [if_neg (by omega), if_neg (by omega), n2]
        by_cases h5 : r < q
        · rw [if_pos h5, if_pos (by omega)]
        · rw [if_neg h5, if_neg (by omega)]
theorem Z9X (xs : List PL) (a : Option Addr) (c g : Nat) (fst cap : List Value) (p : PL → Bool) (hg : cal Tryz.prog g = true) (hl : xs.length ≤ 9223372036854775807) (H : Z7) (R : Z5) [hR : MemRows a 1 (plrows xs) R] (hp : ∀ x, x ∈ xs → FnV Tryz.prog g (fst ++ [.slice x.a x.l.length x.c] ++ cap) H R (.bool (p x))) :
    FnV Tryz.prog 212 [.slice a xs.length c, .func (.func g) fst.toArray cap.toArray] H R (.int .i64 (match xs.findIdx? p with | some k => (k : Int) | none => -1)) := by
 refine Z8 Tryz.func212 rfl Tryz.ntmps212 rfl ?_
 refine sqt 1 rfl (pur 1 rfl (Z0 (sqt 3 rfl (pur 1 rfl (sp rfl (PE.lenSl ZcI rfl) rfl (pur 1 rfl (Z2 ?_)))))))
 refine Zb (ι := {k : Nat // k ≤ xs.length ∧ ∀ x ∈ xs.take k, p x = false}) (fun k => ⟨[(0, .slice a xs.length c), (1, .func (.func g) fst.toArray cap.toArray), (7, .int .i64 xs.length), (8, .int .i64 k.1)], H, R⟩) (fun k => xs.length - k.1) ⟨0, by simp⟩ ?_ (fun k => ?_)
 exact Zf idH
 obtain ⟨k, hk, hn⟩ := k
 dsimp only
 refine sqt 1 rfl (pur 1 rfl (Z0 ?_))
 refine Z1 rfl ?_ ?_ <;> intro hc0
 simp only [cS] at hc0
 obtain ⟨x, hx⟩ : ∃ x, xs[k]? = some x := ⟨_, List.getElem?_eq_getElem (by omega)⟩
 have hxm := List.mem_of_getElem? hx
 refine Zg (a := a) (sz := 1) (rows := plrows xs) (by cases xs <;> simp_all [plrows]) (fun b off he => ?_)
 subst he
 refine Z3 (Z0 (Z2 (sqt 2 rfl (pur 2 rfl (sqt 6 rfl (pur 3 rfl (sp rfl (PE.indexAddr ZhX rfl rfl (by omega) (by omega)) rfl (spL rfl rfl (lf0 Z0G (pl_get hx) rfl) rfl ?_))))))))
 refine Z1x rfl rfl (hg) rfl rfl (hp x hxm) ?_
 refine Z1 rfl ?_ ?_ <;> intro hc1
 refine sqt 2 rfl (pur 2 rfl (Z4 ?_))
 first | (exact rtA rfl rfl rfl ⟨by rw [Zm hx hn hc1]; rfl, rfl, rfl⟩ idH) | (exact rtA rfl rfl rfl ⟨by rw [Zi (by simpa using hn)]; rfl, rfl, rfl⟩ idH)
 refine Z3 (sqr 2 rfl (sp rfl (PE.add rfl rfl (by omega)) rfl (pur 1 rfl ?_)))
 exact Z6 ⟨k + 1, by omega, ZB hx hn hc1⟩ idH
 simp only [cS] at hc0
 obtain rfl : k = xs.length := by omega
 refine Z9 (Za (Za (Zl (sqt 1 rfl (pur 1 rfl (Z4 ?_))))))
 first | (exact rtA rfl rfl rfl ⟨by rw [Zm hx hn hc1]; rfl, rfl, rfl⟩ idH) | (exact rtA rfl rfl rfl ⟨by rw [Zi (by simpa using hn)]; rfl, rfl, rfl⟩ idH)
theorem Z9s (xs : List PL) (a : Option Addr) (c g : Nat) (fst cap : List Value) (p : PL → Bool) (hg : cal Tryz.prog g = true) (hl : xs.length ≤ 9223372036854775807) (H : Z7) (R : Z5) [hR : MemRows a 1 (plrows xs) R] (hp : ∀ x, x ∈ xs → FnV Tryz.prog g (fst ++ [.slice x.a x.l.length x.c] ++ cap) H R (.bool (p x))) :
    FnV Tryz.prog 184 [.slice a xs.length c, .func (.func g) fst.toArray cap.toArray] H R (.bool (xs.any p)) := by
 refine Z8 Tryz.func184 rfl Tryz.ntmps184 rfl ?_
 refine sqt 1 rfl (pur 1 rfl (sqt 5 rfl (pur 2 rfl ?_)))
 refine clV rfl ZeP rfl rfl (Z9X xs a c g fst cap p hg hl _ _ hp) ?_
 refine pur 2 rfl (Z4 ?_)
 exact rtA rfl rfl rfl ⟨by simp only [ZA]; exact ZT _ _, rfl, rfl⟩ drp
theorem Zag (x : PL) (g bf : Nat) (fst cap : List Value) (p : Bool) (hg : cal Tryz.prog g = true) (H : Z7) (R : Z5) [hM : Mem1 bf (cel 182 [.func (.func g) fst.toArray cap.toArray]) H] (hp : FnV Tryz.prog g (fst ++ [.slice x.a x.l.length x.c] ++ cap) H R (.bool p)) :
    FnV Tryz.prog 185 [.slice x.a x.l.length x.c, .pointer (some ⟨bf, 0, none⟩)] H R (.bool !p) := by
 refine Z8 Tryz.func185 rfl Tryz.ntmps185 rfl ?_
 refine sqt 1 rfl (pur 1 rfl (sqt 5 rfl (spL rfl rfl (lh Zgk rfl rfl) rfl (pur 1 rfl ?_))))
 refine Z1x rfl rfl (hg) rfl rfl (hp) ?_
 refine pur 2 rfl (Z4 ?_)
 exact rtA rfl rfl rfl ⟨rfl, rfl, rfl⟩ drp
theorem Z3r (xs : List PL) (a : Option Addr) (c g : Nat) (fst cap : List Value) (p : PL → Bool) (hg : cal Tryz.prog g = true) (hl : xs.length ≤ 9223372036854775807) (H : Z7) (R : Z5) [hR : MemRows a 1 (plrows xs) R] (hp : ∀ b x, x ∈ xs → FnV Tryz.prog g (fst ++ [.slice x.a x.l.length x.c] ++ cap) ((b, cel 182 [.func (.func g) fst.toArray cap.toArray]) :: H) R (.bool (p x))) :
    FnV Tryz.prog 119 [.slice a xs.length c, .func (.func g) fst.toArray cap.toArray] H R (.bool (xs.all p)) := by
 refine Z8 Tryz.func119 rfl Tryz.ntmps119 rfl ?_
 refine sqt 2 rfl (bx rfl rfl rfl (fun b3 => pur 1 rfl (sqt 5 rfl (pur 1 rfl (sp rfl (PE.makeFunc rfl rfl) rfl ?_)))))
 refine clV rfl Zdx rfl rfl (Z9s xs a c 185 [] [_] (fun x => !p x) Ze7 hl _ _ (hp := fun x hx => Zag x g _ fst cap (p x) hg _ _ (hp := hp _ x hx))) ?_
 refine pur 2 rfl (Z4 ?_)
 exact rtA rfl rfl rfl ⟨by simp only [ZA]; rw [Zw], rfl, rfl⟩ drp
theorem Zh8 (dl : List PL) (ad : Option Addr) (cd : Nat) (ns : List Int) (hd : Dbt dl ns) (x : PL) (hx : x ∈ dl) (b1 : Nat) (H : Z7) (R : Z5) [hB : Mem1 b1 (cel 78 [.slice ad dl.length cd]) H] :
    FnV Tryz.prog 120 [.slice x.a x.l.length x.c, .pointer (some ⟨b1, 0, none⟩)] H R (.bool true) := by
 refine Z8 Tryz.func120 rfl Tryz.ntmps120 rfl ?_
 refine sqt 1 rfl (pur 1 rfl (sqt 6 rfl (pur 1 rfl (sp rfl (PE.lenSl Z0i rfl) rfl (spL rfl rfl (lh Zd4 rfl rfl) rfl (sp rfl (PE.lenSl Z5d rfl) rfl (pur 2 rfl (Z4 ?_))))))))
 exact rtA rfl rfl rfl ⟨by simp only [ZA]; obtain ⟨k, hk⟩ := List.getElem?_of_mem hx; rw [dT (by rw [(hd.row hk).1, hd.dlen])], rfl, rfl⟩ drp
theorem Zfl (z : Int) (hz : 0 ≤ z ∧ z ≤ 500) (H : Z7) (R : Z5) :
    FnV Tryz.prog 122 [.int .i64 z] H R (.bool true) := by
 refine Z8 Tryz.func122 rfl Tryz.ntmps122 rfl ?_
 refine sqt 1 rfl (pur 1 rfl (sqt 3 rfl (pur 1 rfl ?_)))
 refine cl rfl Z3L rfl rfl (Z2P z 0 1000000 _ _) ?_
 rintro _ _ R1 ⟨rfl, rfl, hR1⟩
 obtain rfl := hR1.symm
 clear hR1
 rw [show inL z 0 1000000 = true by simp [inL]; omega]
 refine pur 1 rfl (Z4 ?_)
 exact rtA rfl rfl rfl ⟨rfl, rfl, rfl⟩ drp
theorem Zh0 (dl : List PL) (ad : Option Addr) (cd : Nat) (ns : List Int) (hd : Dbt dl ns) (x : PL) (hx : x ∈ dl) (H : Z7) (R : Z5) [hP : MemRows ad 1 (plrows dl) R] [hI : MemF (Inn dl) R] :
    FnV Tryz.prog 121 [.slice x.a x.l.length x.c] H R (.bool true) := by
 refine Z8 Tryz.func121 rfl Tryz.ntmps121 rfl ?_
 refine sqt 1 rfl (pur 1 rfl (sqt 3 rfl ?_))
 obtain ⟨k, hk⟩ := List.getElem?_of_mem hx
 obtain ⟨hr1, hr2⟩ := hd.row hk
 have hln := hd.len
 refine Sy.heap (fun w h => St.inn (x := x) h hx) ?_
 refine pur 1 rfl ?_
 refine cl rfl ZbA rfl rfl (Z06 x.l x.a x.c 122 [] [] (fun _ => true) Zee (by omega) _ _ (fun _ y hy => Zfl y (by obtain ⟨j, hj⟩ := List.getElem?_of_mem hy; have hjl := (List.getElem?_eq_some_iff.1 hj).1; have := hr2 j (by omega); rw [hj] at this; cases this; exact hd.gb k j) _ _)) ?_
 rintro _ _ R1 ⟨rfl, rfl, hR1⟩
 obtain rfl := hR1.symm
 clear hR1
 rw [show (x.l.all fun _ => true) = true by simp]
 refine pur 1 rfl (Z4 ?_)
 exact rtA rfl rfl rfl ⟨rfl, rfl, rfl⟩ (fun w h => h.ftail)
theorem Z5O (dl : List PL) (ad : Option Addr) (cd : Nat) (ns : List Int) (hd : Dbt dl ns) (H : Z7) (R : Z5) [hP : MemRows ad 1 (plrows dl) R] [hI : MemF (Inn dl) R] :
    FnV Tryz.prog 56 [.slice ad dl.length cd] H R (.int .i64 0) := by
 have hdl := hd.dlen
 have hln := hd.len
 refine Z8 Tryz.func56 rfl Tryz.ntmps56 rfl ?_
 refine sqt 2 rfl (bx rfl rfl rfl (fun b1 => pur 1 rfl (Z0 (Z2 (sqt 11 rfl (spL rfl rfl (lh Zd4 rfl rfl) rfl (sp rfl (PE.lenSl Z5d rfl) rfl ?_)))))))
 refine cl rfl Z3L rfl rfl (Z2P _ 1 7 _ _) ?_
 rintro _ _ R1 ⟨rfl, rfl, hR1⟩
 obtain rfl := hR1.symm
 clear hR1
 rw [show inL (dl.length : Int) 1 7 = true by simp [inL]; omega]
 refine pur 2 rfl ?_
 refine Zk 9 rfl ?_ ?_ <;> intro g9
 exact absurd g9 (by simp)
 refine Z0f rfl rfl rfl rfl rfl (lh Zd4 rfl rfl) rfl ?_
 refine spG rfl rfl rfl rfl (PE.makeFunc rfl rfl) rfl ?_
 refine clG rfl rfl rfl rfl ZaZ rfl rfl (Z3r dl ad cd 120 [] [_] (fun _ => true) ZeT (by omega) _ _ (fun _ x hx => Zh8 dl ad cd ns hd x hx b1 _ _)) ?_
 rintro _ _ R1 ⟨rfl, rfl, hR1⟩
 obtain rfl := hR1.symm
 clear hR1
 rw [show (dl.all fun _ => true) = true by simp]
 refine pur 3 rfl ?_
 refine Z1 rfl ?_ ?_ <;> intro hc0
 exact absurd hc0 (by simp)
 refine sqt 4 rfl (spL rfl rfl (lh Zd4 rfl rfl) rfl ?_)
 refine cl rfl ZaZ rfl rfl (Z3r dl ad cd 121 [] [] (fun _ => true) ZdH (by omega) _ _ (fun _ x hx => Zh0 dl ad cd ns hd x hx _ _)) ?_
 rintro _ _ R1 ⟨rfl, rfl, hR1⟩
 obtain rfl := hR1.symm
 clear hR1
 rw [show (dl.all fun _ => true) = true by simp]
 refine pur 2 rfl ?_
 refine Z1 rfl ?_ ?_ <;> intro hc1
 exact absurd hc1 (by simp)
 refine Z3 (Z0 (sqt 3 rfl (spL rfl rfl (lh Zd4 rfl rfl) rfl (sp rfl (PE.lenSl Z5d rfl) rfl (pur 1 rfl (Z2 ?_))))))
 refine Zb (ι := {k : Nat // k ≤ dl.length}) (fun k => ⟨[(1, .pointer (some ⟨b1, 0, none⟩)), (20, .int .i64 dl.length), (21, .int .i64 k.1)], (b1, cel 78 [.slice ad dl.length cd]) :: H, R⟩) (fun k => dl.length - k.1) ⟨0, Nat.zero_le _⟩ ?_ (fun k => ?_)
 exact Zf idH
 obtain ⟨k, hk⟩ := k
 dsimp only at hk ⊢
 refine sqt 1 rfl (pur 1 rfl (Z0 ?_))
 refine Z1 rfl ?_ ?_ <;> intro hc2
 try simp only [cS] at hc2
 obtain ⟨x, hx⟩ : ∃ x, dl[k]? = some x := ⟨_, List.getElem?_eq_getElem (by omega)⟩
 have hxm := List.mem_of_getElem? hx
 obtain ⟨hr1, hr2⟩ := hd.row hx
 have hv := hr2 k (by omega)
 have hg0 : gE ns k k = 0 := by unfold gE; split <;> rfl
 rw [hg0] at hv
 refine Zg (a := ad) (sz := 1) (rows := plrows dl) (ne0 (by rw [Z0u]; omega)) (fun ba oa he => ?_)
 subst he
 refine Sy.heap (fun w h => St.inn (x := x) h hxm) ?_
 refine Zg (a := x.a) (sz := 1) (rows := irows x.l) (ne0 (by rw [irows_len]; omega)) (fun bx ox he => ?_)
 refine Z3 (Z0 (Z2 (sqt 2 rfl (pur 2 rfl (sqt 8 rfl (spL rfl rfl (lh Zd4 rfl rfl) rfl (pur 1 rfl (sp rfl (PE.indexAddr Zcs rfl rfl (by omega) (by omega)) rfl (spL rfl rfl (lf0 Z0G (pl_get hx) rfl) rfl (pur 1 rfl ?_))))))))))
 rw [he]
 refine sp rfl (PE.indexAddr ZM rfl rfl (by omega) (by omega)) rfl (spL rfl rfl (lf0 (row := [.int .i64 0]) sc3 (ir_get hv) rfl) rfl (pur 1 rfl ?_))
 refine Z1 rfl ?_ ?_ <;> intro hc3
 exact absurd hc3 (by simp)
 refine Z3 (sqr 2 rfl (sp rfl (PE.add rfl rfl (by omega)) rfl (pur 1 rfl ?_)))
 exact Z6 ⟨k + 1, by omega⟩ (fun w h => h.ftail)
 refine Z9 (Za (Za (Zl (sqt 1 rfl (pur 1 rfl (Z4 ?_))))))
 exact rtA rfl rfl rfl ⟨rfl, rfl, rfl⟩ (fun w h => St.sub (h.del b1))
theorem Z76 (dl : List PL) (ad : Option Addr) (cd : Nat) (ns : List Int) (hd : Dbt dl ns) (H : Z7) (R : Z5) [hP : MemRows ad 1 (plrows dl) R] [hI : MemF (Inn dl) R] :
    Fn Tryz.prog 57 [.slice ad dl.length cd] H R (fun v H' R' => ∃ b, v = .slice (some ⟨b, 0, none⟩) dl.length dl.length ∧ H' = (b, cel 3 (Zh (netP ns ns.length) ++ [])) :: H ∧ R' = R) := by
 have hdl := hd.dlen
 have hln := hd.len
 refine Z8 Tryz.func57 rfl Tryz.ntmps57 rfl ?_
 refine sqt 1 rfl (pur 1 rfl (sqt 4 rfl (pur 1 rfl (sp rfl (PE.lenSl Z5d rfl) rfl ?_))))
 refine mkS rfl Z5F zl3 rfl rfl (Nat.le_refl _) ⟨by omega, by omega⟩ rfl (fun b10 => ?_)
 rw [Z8w, show List.replicate dl.length (0 : Int) = netP ns 0 from Z5E (by rw [List.length_replicate, netP_len, hdl]) (fun k hk => by
   rw [List.length_replicate] at hk
   have e : nn (List.replicate dl.length 0) k = 0 := by unfold nn; rw [List.getD_eq_getElem?_getD, List.getElem?_replicate]; split <;> rfl
   rw [e]
   match k, hk with
   | 0, _ => rfl
   | k + 1, hk => rw [Z3w ns 0 (by omega), if_neg (by omega)])]
 refine Sy.heap (H' := (b10, cel 3 (Zh (netP ns (0)) ++ [])) :: H) (fun w h => by rw [List.append_nil]; exact h) ?_
 refine pur 1 rfl (Z0 (sqt 3 rfl (pur 1 rfl (sp rfl (PE.lenSl Z5d rfl) rfl (pur 1 rfl (Z2 ?_))))))
 refine Zb (ι := {k : Nat // k ≤ dl.length}) (fun k => ⟨[(3, .slice (some ⟨b10, 0, none⟩) dl.length dl.length), (11, .slice ad dl.length cd), (12, .int .i64 dl.length), (13, .int .i64 k.1)], (b10, cel 3 (Zh (netP ns (k.1 - 1)) ++ [])) :: H, R⟩) (fun k => dl.length - k.1) ⟨0, Nat.zero_le _⟩ ?_ (fun k => ?_)
 exact Zf idH
 obtain ⟨i, hi⟩ := k
 dsimp only at hi ⊢
 refine sqt 1 rfl (pur 1 rfl (Z0 ?_))
 refine Z1 rfl ?_ ?_ <;> intro hc0 <;> try simp only [cS] at hc0
 obtain ⟨x, hx⟩ : ∃ x, dl[i]? = some x := ⟨_, List.getElem?_eq_getElem (by omega)⟩
 have hxm := List.mem_of_getElem? hx
 obtain ⟨hr1, hr2⟩ := hd.row hx
 refine Zg (a := ad) (sz := 1) (rows := plrows dl) (ne0 (by rw [Z0u]; omega)) (fun ba oa he => ?_)
 subst he
 refine Sy.heap (fun w h => St.inn (x := x) h hxm) ?_
 refine Z3 (Z0 (Z2 (sqt 5 rfl (pur 1 rfl (sp rfl (PE.indexAddr Zcs rfl rfl (by omega) (by omega)) rfl (spL rfl rfl (lf0 Z0G (pl_get hx) rfl) rfl (pur 2 rfl (sqt 3 rfl (pur 1 rfl (sp rfl (PE.lenSl Z0i rfl) rfl (pur 1 rfl (Z2 ?_))))))))))))
 refine Zb (ι := {j : Nat // j ≤ x.l.length}) (fun j => ⟨[(3, .slice (some ⟨b10, 0, none⟩) dl.length dl.length), (4, .int .i64 (i : Nat)), (11, .slice (some ⟨ba, oa, none⟩) dl.length cd), (12, .int .i64 dl.length), (13, .int .i64 (i : Nat)), (18, .slice x.a x.l.length x.c), (19, .int .i64 x.l.length), (20, .int .i64 j.1)], (b10, cel 3 (Zh (netP ns (mI i j.1)) ++ [])) :: H, RowsA x.a 1 (irows x.l) :: R⟩) (fun j => x.l.length - j.1) ⟨0, Nat.zero_le _⟩ ?_ (fun j => ?_)
 rw [show i - 1 = mI i 0 by unfold mI; split <;> simp_all]
 exact Zf idH
 obtain ⟨j, hj⟩ := j
 dsimp only at hj ⊢
 refine sqt 1 rfl (pur 1 rfl (Z0 ?_))
 refine Z1 rfl ?_ ?_ <;> intro hc1 <;> try simp only [cS] at hc1
 have hv := hr2 j (by omega)
 have hgb := hd.gb i j
 have hmi : mI i j ≤ ns.length := by unfold mI; split; omega; split <;> omega
 have hb1 := Z5v hd (m := mI i j) (k := j) hmi (by omega)
 have hNl : (netP ns (mI i j)).length = ns.length + 1 := netP_len _ _
 have hb2 : -4000 ≤ nn ((netP ns (mI i j)).set j (nn (netP ns (mI i j)) j + gE ns i j)) i ∧ nn ((netP ns (mI i j)).set j (nn (netP ns (mI i j)) j + gE ns i j)) i ≤ 4000 := by
   rw [Z4C (by omega)]
   have := Z5v hd (m := mI i j) (k := i) hmi (by omega)
   split <;> omega
 refine Zg (a := x.a) (sz := 1) (rows := irows x.l) (ne0 (by rw [irows_len]; omega)) (fun bx ox he => ?_)
 rw [he]
 refine Z3 (Z0 (Z2 (sqt 5 rfl (pur 1 rfl (sp rfl (PE.indexAddr ZM rfl rfl (by omega) (by omega)) rfl (spL rfl rfl (lf0 (row := [.int .i64 (gE ns i j)]) sc3 (ir_get hv) rfl) rfl (pur 2 rfl (sqt 8 rfl (pur 2 rfl (sp rfl (PE.indexAddr ZM rfl rfl (by omega) (by omega)) rfl (spL rfl rfl (lh sc3 rfl (int_at (by omega))) rfl (pur 1 rfl (sp rfl (PE.add rfl rfl (by omega)) rfl (sp rfl (PE.indexAddr ZM rfl rfl (by omega) (by omega)) rfl ?_))))))))))))))
 refine Z01 (l' := Zh ((netP ns (mI i j)).set j (nn (netP ns (mI i j)) j + gE ns i j)) ++ []) rfl rfl rfl cn3 rfl rfl rfl (spl_int (show j < (netP ns (mI i j)).length by omega) _) (by rw [List.length_append, ints_length]; show 0 + ((j : Nat) : Int).toNat * 1 + 1 ≤ _; have := (show j < (netP ns (mI i j)).length by omega); omega) ?_
 refine sqr 8 rfl (pur 2 rfl (sp rfl (PE.indexAddr ZM rfl rfl (by omega) (by omega)) rfl (spL rfl rfl (lh sc3 rfl (int_at (by rw [List.length_set]; omega))) rfl (pur 1 rfl (sp rfl (PE.sub rfl rfl (by omega)) rfl (sp rfl (PE.indexAddr ZM rfl rfl (by omega) (by omega)) rfl ?_))))))
 refine Z01 (l' := Zh (((netP ns (mI i j)).set j (nn (netP ns (mI i j)) j + gE ns i j)).set i (nn ((netP ns (mI i j)).set j (nn (netP ns (mI i j)) j + gE ns i j)) i - gE ns i j)) ++ []) rfl rfl rfl cn3 rfl rfl rfl (spl_int (show i < ((netP ns (mI i j)).set j (nn (netP ns (mI i j)) j + gE ns i j)).length by rw [List.length_set]; omega) _) (by rw [List.length_append, ints_length]; show 0 + ((i : Nat) : Int).toNat * 1 + 1 ≤ _; have := (show i < ((netP ns (mI i j)).set j (nn (netP ns (mI i j)) j + gE ns i j)).length by rw [List.length_set]; omega); omega) ?_
 rw [Z9R hd (by omega) (by omega)]
 refine sqr 2 rfl (sp rfl (PE.add rfl rfl (by omega)) rfl (pur 1 rfl ?_))
 exact Z6 ⟨j + 1, by omega⟩ (fun w h => by first | exact h | (rw [he] at h; exact h) | (rw [← he] at h; exact h))
 obtain rfl : j = x.l.length := by omega
 rw [show mI i x.l.length = i + 1 - 1 by unfold mI; split; omega; rw [if_neg (by omega)]; omega]
 refine Z9 (Za (Za (Zl (sqr 2 rfl (sp rfl (PE.add rfl rfl (by omega)) rfl (pur 1 rfl ?_))))))
 exact Z6 ⟨i + 1, by omega⟩ (fun w h => h.ftail)
 obtain rfl : i = dl.length := by omega
 rw [show dl.length - 1 = ns.length by omega]
 refine Z9 (Za (Za (Zl (sqt 2 rfl (pur 2 rfl (Z4 ?_))))))
 exact rtA rfl rfl rfl ⟨b10, rfl, rfl, rfl⟩ idH
theorem c_DNet (dl : List PL) (ad : Option Addr) (cd : Nat) (ns : List Int) (hd : Dbt dl ns) (H : Z7) (R : Z5) [hP : MemRows ad 1 (plrows dl) R] [hI : MemF (Inn dl) R] :
    Fn Tryz.prog 23 [.slice ad dl.length cd] H R (fun v H' R' => ∃ b, v = .tuple #[.slice (some ⟨b, 0, none⟩) dl.length dl.length, .int .i64 0] ∧ H' = H ∧ R' = RowsA (some ⟨b, 0, none⟩) 1 (irows (netP ns ns.length)) :: R) := by
 refine Z8 Tryz.func23 rfl Tryz.ntmps23 rfl ?_
 refine sqt 2 rfl (pur 2 rfl (Z0 (sqt 3 rfl (pur 1 rfl ?_))))
 refine clV rfl Zfn rfl rfl (Z5O dl ad cd ns hd _ _) ?_
 refine pur 1 rfl (sqt 2 rfl (pur 2 rfl ?_))
 refine Z1 rfl ?_ ?_ <;> intro hc0
 exact absurd hc0 (by simp)
 refine Z3 (sqt 4 rfl (pur 1 rfl ?_))
 refine cl rfl ZbT rfl rfl (Z76 dl ad cd ns hd _ _) ?_
 rintro _ _ R1 ⟨b, rfl, rfl, hR1⟩
 obtain rfl := hR1.symm
 clear hR1
 refine Sy.heap (fun w h => St.rows (sz := 1) (rows := irows (netP ns ns.length)) (rest := []) (by rw [irows_flat']; exact h) (Z4H _)) ?_
 refine pur 2 rfl (Z4 ?_)
 exact rtB rfl rfl rfl rfl ⟨b, rfl, rfl, rfl⟩ idH
theorem Z60 : cal Tryz.prog 105 = true := by kernel_rfl
theorem Z66 : cal Tryz.prog 173 = true := by kernel_rfl
theorem ZdE : cal Tryz.prog 186 = true := by kernel_rfl
theorem Zfq : cal Tryz.prog 213 = true := by kernel_rfl
theorem ZaG : eqB Tryz.prog 10000 3 = some (false, 1) := by kernel_rfl
theorem Z6X : Z6S Tryz.prog 167 = some .u64 := by kernel_rfl
theorem ik3 : Z6S Tryz.prog 3 = some .i64 := by kernel_rfl
theorem ik5 : Z6S Tryz.prog 5 = some .u8 := by kernel_rfl
theorem Z9Y : Z9x Tryz.prog 9 = true := by kernel_rfl
theorem Z2j : Z1k Tryz.prog 220 = some (3, 3) := by kernel_rfl
theorem ZaO : Z2U Tryz.prog 10000 3 = true := by kernel_rfl
theorem Z9q : (Tryz.prog.underlying 247).isSome = true := by kernel_rfl
theorem us3 : (Tryz.prog.underlying 3).isSome = true := by kernel_rfl
theorem us5 : (Tryz.prog.underlying 5).isSome = true := by kernel_rfl
theorem zv3 : zvl Tryz.prog 3 = some (.int .i64 0) := by kernel_rfl
section pn
variable {P : Program} {L : Zj} {d : Option Tmp} {ty : TypeId} {pos : String} {af : Array Edge} {g : Option (Nat × Bool)}
theorem PE.andNeg {T U : TypeId} {x y : Operand} {m : Nat} {k : Int} (hx : ev L x = some (.int .i64 (m : Int))) (hy : ev L y = some (.int .i64 k)) (hk : k = 0 - (m : Int)) (h0 : 0 < m) (hm : m ≤ 9223372036854775807) :
    PE P L ⟨d, .binOp .and T x y U, ty, pos, af, g⟩ (.int .i64 ((m &&& (18446744073709551616 - m) : Nat) : Int)) := by
  subst hk
  refine PE.bits (by simp) hx hy (fun w => ?_)
  show Result.ok (Value.int .i64 (IntKind.i64.wrap ((BitVec.ofInt 64 (m : Int) &&& BitVec.ofInt 64 (0 - (m : Int))).toNat : Int))) w = _
  have : m &&& (18446744073709551616 - m) ≤ m := Nat.and_le_left
  have e : (BitVec.ofInt 64 (0 - (m : Int))).toNat = 18446744073709551616 - m := by
    rw [BitVec.toNat_ofInt]; omega
  rw [BitVec.toNat_and, Z0j hm, e, ZI (by omega) (by omega)]
end pn
def Z3J (n s : Nat) : List Nat := (List.range n).filter fun k => s.testBit k
def il (l : List Nat) : List Int := l.map fun (k : Nat) => (k : Int)
theorem Z4G (k s : Nat) : Z3J (k + 1) s = Z3J k s ++ (bif s.testBit k then [k] else []) := by
  unfold Z3J
  rw [List.range_succ, List.filter_append]
  cases h : s.testBit k <;> simp [h]
theorem Za1 (n s : Nat) : (Z3J n s).length ≤ n := by unfold Z3J; exact Nat.le_trans (List.length_filter_le _ _) (by simp)
theorem Z35 {s K : Nat} (h : s < 2 ^ K) : ∀ j, Z3J (K + j) s = Z3J K s
  | 0 => rfl
  | j + 1 => by
    rw [show K + (j + 1) = (K + j) + 1 from rfl, Z4G, Z35 h j, Nat.testBit_lt_two_pow (Nat.lt_of_lt_of_le h (Nat.pow_le_pow_right (by decide) (by omega)))]
    exact List.append_nil _
theorem Z8z {s K n : Nat} (h : s < 2 ^ K) (h' : s < 2 ^ n) : Z3J K s = Z3J n s := by
  rcases Nat.le_total K n with h1 | h1
  · obtain ⟨j, rfl⟩ : ∃ j, n = K + j := ⟨n - K, by omega⟩
    exact (Z35 h j).symm
  · obtain ⟨j, rfl⟩ : ∃ j, K = n + j := ⟨K - n, by omega⟩
    exact Z35 h' j
def ZhL (s : Nat) : Nat := s &&& (18446744073709551616 - s)
def ZhT (s : Nat) : Bool := Nat.beq s 0 || (List.range 7).any fun i => Nat.beq (ZhL s) (2 ^ i) && s.testBit i && Nat.beq (s &&& (18446744073709551615 - 2 ^ i)) (s - 2 ^ i) && (List.range 7).all fun x => (s - 2 ^ i).testBit x == (s.testBit x && !(Nat.beq x i))
theorem Zab : ((List.range 128).all ZhT) = true := by kernel_rfl
theorem Za9 {s : Nat} (h0 : 0 < s) (h : s < 128) : ∃ i, i < 7 ∧ ZhL s = 2 ^ i ∧ s.testBit i = true ∧ (s &&& (18446744073709551615 - 2 ^ i)) = s - 2 ^ i ∧ ∀ x, x < 7 → (s - 2 ^ i).testBit x = (s.testBit x && decide (x ≠ i)) := by
  have h1 := List.all_eq_true.1 Zab s (List.mem_range.2 h)
  unfold ZhT at h1
  rw [show Nat.beq s 0 = false from by cases s; omega; rfl, Bool.false_or, List.any_eq_true] at h1
  obtain ⟨i, hi, h2⟩ := h1
  simp only [Bool.and_eq_true, List.all_eq_true] at h2
  refine ⟨i, List.mem_range.1 hi, Nat.eq_of_beq_eq_true h2.1.1.1, h2.1.1.2, Nat.eq_of_beq_eq_true h2.1.2, fun x hx => ?_⟩
  have := h2.2 x (List.mem_range.2 hx)
  rw [beq_iff_eq] at this
  rw [this]
  congr 1
  by_cases e : x = i
  · subst e; simp
  · have : Nat.beq x i = false := by
      cases hb : Nat.beq x i with
      | false => rfl
      | true => exact absurd (Nat.eq_of_beq_eq_true hb) e
    rw [this]; simp [e]
def Zi3 (a : Nat) : Bool := (List.range 128).all fun p => Nat.beq p 0 || !(Nat.beq (p &&& a) p) || !(Nat.beq (a &&& (18446744073709551615 - p)) a)
theorem Zal : ((List.range 128).all Zi3) = true := by kernel_rfl
theorem ZbS {a p : Nat} (ha : a < 128) (h0 : 0 < p) (hs : p &&& a = p) : a &&& (18446744073709551615 - p) ≠ a := by
  have hp : p < 128 := by have : p &&& a ≤ a := Nat.and_le_right; omega
  have h1 := List.all_eq_true.1 (List.all_eq_true.1 Zal a (List.mem_range.2 ha)) p (List.mem_range.2 hp)
  intro e
  have e1 : Nat.beq p 0 = false := by cases p; omega; rfl
  have e2 : Nat.beq (p &&& a) p = true := by rw [hs]; exact Nat.beq_refl p
  have e3 : Nat.beq (a &&& (18446744073709551615 - p)) a = true := by rw [e]; exact Nat.beq_refl a
  rw [e1, e2, e3] at h1; cases h1
theorem sub_zero {a p : Nat} (ha : a < 128) (hs : p &&& a = p) : (a &&& (18446744073709551615 - p) = 0) ↔ p = a := by
  have hp : p ≤ a := by have : p &&& a ≤ a := Nat.and_le_right; omega
  rw [Z0B (by omega) (by omega), Nat.and_comm, hs]
def smD (k : Nat) (f : Nat → Int) : Int := ((List.range k).map f).sum
theorem ZR (k : Nat) (f : Nat → Int) : smD (k + 1) f = smD k f + f k := by simp [smD, List.range_succ, List.sum_append]
theorem Z7w {f g : Nat → Int} {h : Nat} {z : Int} : ∀ {k : Nat}, h < k → (∀ x, x < k → x ≠ h → f x = g x) → f h = g h + z → smD k f = smD k g + z
  | 0, hk, _, _ => by omega
  | k + 1, hk, h1, h2 => by
    rw [ZR, ZR]
    by_cases e : h = k
    · subst e
      have : smD h f = smD h g := by
        unfold smD
        congr 1
        exact List.map_congr_left fun x hx => h1 x (by have := List.mem_range.1 hx; omega) (by have := List.mem_range.1 hx; omega)
      rw [this]; omega
    · rw [Z7w (f := f) (g := g) (z := z) (k := k) (by omega) (fun x hx hne => h1 x (by omega) hne) h2, h1 k (by omega) (fun e2 => e e2.symm)]; omega
theorem Z4K {f : Nat → Int} : ∀ {k : Nat}, (∀ x, x < k → 0 ≤ f x) → 0 ≤ smD k f ∧ ∀ x, x < k → 0 < f x → 0 < smD k f
  | 0, _ => ⟨Int.le_refl _, fun x hx => by omega⟩
  | k + 1, h => by
    have ih := Z4K (f := f) (k := k) (fun x hx => h x (by omega))
    have hk := h k (by omega)
    rw [ZR]
    refine ⟨by omega, fun x hx hp => ?_⟩
    by_cases e : x = k
    · subst e; omega
    · have := ih.2 x (by omega) hp; omega
theorem Z4x (f : Nat → Int) : ∀ k, smD (k + 1) f = f 0 + smD k (fun q => f (q + 1))
  | 0 => by simp [smD]
  | k + 1 => by rw [ZR, Z4x f k, ZR]; omega
theorem Z7a (f g : Nat → Int) : ∀ k, smD k (fun q => f q - g q) = smD k f - smD k g
  | 0 => rfl
  | k + 1 => by rw [ZR, ZR, ZR, Z7a f g k]; omega
theorem Z5k (f : Nat → Int) : ∀ k, smD k (fun q => - f q) = - smD k f
  | 0 => rfl
  | k + 1 => by rw [ZR, ZR, Z5k f k]; omega
theorem Z0T {k : Nat} {f g : Nat → Int} (h : ∀ x, x < k → f x = g x) : smD k f = smD k g := by
  unfold smD
  congr 1
  exact List.map_congr_left fun x hx => h x (List.mem_range.1 hx)
def Z2g (N : List Int) (s : Nat) : Int := smD 7 fun i => if s.testBit i = true then nn N i else 0
theorem Z8A {N : List Int} {s i : Nat} (hi : i < 7) (hb : s.testBit i = true) (hx : ∀ x, x < 7 → (s - 2 ^ i).testBit x = (s.testBit x && decide (x ≠ i))) : Z2g N s = Z2g N (s - 2 ^ i) + nn N i := by
  unfold Z2g
  refine Z7w hi (fun x h1 h2 => ?_) ?_
  · rw [hx x h1, decide_eq_true h2, Bool.and_true]
  · rw [if_pos hb, hx i hi]; simp
def Z4Q (N : List Int) : Nat → Nat
  | 0 => 0
  | k + 1 => bif decide (nn N k ≠ 0) then Z4Q N k ||| 2 ^ k else Z4Q N k
theorem Z5H (N : List Int) : ∀ k x, (Z4Q N k).testBit x = (decide (x < k) && decide (nn N x ≠ 0))
  | 0, x => by simp [Z4Q]
  | k + 1, x => by
    have ih := Z5H N k x
    unfold Z4Q
    by_cases h : nn N k = 0
    · rw [decide_eq_false (by simpa using h), cond_false, ih]
      by_cases hx : x < k
      · rw [decide_eq_true hx, decide_eq_true (show x < k + 1 by omega)]
      · rw [decide_eq_false hx]
        by_cases hx2 : x = k
        · subst hx2; simp [h]
        · rw [decide_eq_false (show ¬ x < k + 1 by omega)]
    · rw [decide_eq_true h, cond_true, Nat.testBit_or, ih, Nat.testBit_two_pow]
      by_cases hx2 : k = x
      · subst hx2; simp [h]
      · rw [decide_eq_false hx2, Bool.or_false]
        by_cases hx : x < k
        · rw [decide_eq_true hx, decide_eq_true (show x < k + 1 by omega)]
        · rw [decide_eq_false hx, decide_eq_false (show ¬ x < k + 1 by omega)]
theorem Z3H (N : List Int) : ∀ k, Z4Q N k < 2 ^ k
  | 0 => by show 0 < 1; decide
  | k + 1 => by
    have ih := Z3H N k
    unfold Z4Q
    have h2 : 2 ^ (k + 1) = 2 ^ k * 2 := Nat.pow_succ ..
    cases decide (nn N k ≠ 0) with
    | false => simp only [cond_false]; omega
    | true =>
      simp only [cond_true]
      exact Nat.or_lt_two_pow (by omega) (Nat.pow_lt_pow_right (by decide) (by omega))
def Z05 (ns : List Int) : Nat := Z4Q (netP ns ns.length) (ns.length + 1)
theorem Z23 {ns : List Int} (h1 : 1 ≤ ns.length ∧ ns.length ≤ 6) (hb : ∀ z ∈ ns, 0 ≤ z ∧ z ≤ 500) (k : Nat) : 0 ≤ nn ns k ∧ nn ns k ≤ 500 := by
  rcases Nat.lt_or_ge k ns.length with h2 | h2
  · exact hb _ (List.mem_of_getElem? (nn_get h2))
  · unfold nn; rw [List.getD_eq_getElem?_getD, List.getElem?_eq_none h2]; decide
theorem Z1O {ns : List Int} (h1 : 1 ≤ ns.length ∧ ns.length ≤ 6) (hb : ∀ z ∈ ns, 0 ≤ z ∧ z ≤ 500) (q : Nat) : nn (netP ns ns.length) (q + 1) = - nn ns q := by
  rcases Nat.lt_or_ge q ns.length with h2 | h2
  · rw [Z3w ns _ h2, if_pos h2]
  · have e1 : nn ns q = 0 := by unfold nn; rw [List.getD_eq_getElem?_getD, List.getElem?_eq_none h2]; rfl
    rw [e1]
    unfold nn; rw [List.getD_eq_getElem?_getD, List.getElem?_eq_none (by rw [netP_len]; omega)]; rfl
theorem Z8n {ns : List Int} (h1 : 1 ≤ ns.length ∧ ns.length ≤ 6) (hb : ∀ z ∈ ns, 0 ≤ z ∧ z ≤ 500) : ∀ k, (ns.take k).sum = smD k (nn ns)
  | 0 => rfl
  | k + 1 => by
    rw [ZR, ← Z8n h1 hb k]
    rcases Nat.lt_or_ge k ns.length with h | h
    · exact Z3X h
    · have e1 : nn ns k = 0 := by unfold nn; rw [List.getD_eq_getElem?_getD, List.getElem?_eq_none h]; rfl
      rw [e1, List.take_of_length_le (by omega), List.take_of_length_le h]; omega
theorem Z6r {ns : List Int} (h1 : 1 ≤ ns.length ∧ ns.length ≤ 6) (hb : ∀ z ∈ ns, 0 ≤ z ∧ z ≤ 500) : nn (netP ns ns.length) 0 = smD 6 (nn ns) := by
  rw [netP_0, List.take_length, ← Z8n h1 hb 6, List.take_of_length_le h1.2]
theorem Z5s {ns : List Int} (h1 : 1 ≤ ns.length ∧ ns.length ≤ 6) (hb : ∀ z ∈ ns, 0 ≤ z ∧ z ≤ 500) : Z05 ns < 128 := Nat.lt_of_lt_of_le (Z3H _ _) (Nat.pow_le_pow_right (n := 2) (by decide) (show ns.length + 1 ≤ 7 by omega))
theorem Z0d {ns : List Int} (h1 : 1 ≤ ns.length ∧ ns.length ≤ 6) (hb : ∀ z ∈ ns, 0 ≤ z ∧ z ≤ 500) (x : Nat) : (Z05 ns).testBit x = true ↔ nn (netP ns ns.length) x ≠ 0 := by
  unfold Z05
  rw [Z5H, Bool.and_eq_true, decide_eq_true_eq, decide_eq_true_eq]
  constructor
  · exact fun h => h.2
  · intro h
    refine ⟨?_, h⟩
    false_or_by_contra
    apply h
    unfold nn; rw [List.getD_eq_getElem?_getD, List.getElem?_eq_none (by rw [netP_len]; omega)]; rfl
theorem Z3G {ns : List Int} (h1 : 1 ≤ ns.length ∧ ns.length ≤ 6) (hb : ∀ z ∈ ns, 0 ≤ z ∧ z ≤ 500) (s : Nat) : Z2g (netP ns ns.length) s = smD 6 fun q => (if s.testBit 0 = true then nn ns q else 0) - (if s.testBit (q + 1) = true then nn ns q else 0) := by
  unfold Z2g
  rw [Z4x]
  have e1 : (smD 6 fun q => if s.testBit (q + 1) = true then nn (netP ns ns.length) (q + 1) else 0) = - smD 6 fun q => if s.testBit (q + 1) = true then nn ns q else 0 := by
    rw [← Z5k]
    refine Z0T fun x _ => ?_
    rw [Z1O h1 hb]
    split <;> omega
  rw [e1, Z7a]
  by_cases h : s.testBit 0 = true
  · have a1 : (smD 6 fun q => if s.testBit 0 = true then nn ns q else 0) = smD 6 (nn ns) := Z0T fun x _ => if_pos h
    rw [a1, if_pos h, Z6r h1 hb]; omega
  · have a1 : (smD 6 fun q => if s.testBit 0 = true then nn ns q else 0) = 0 := (Z0T (g := fun _ => 0) fun x _ => if_neg h).trans rfl
    rw [a1, if_neg h]; omega
theorem Z4i {ns : List Int} (h1 : 1 ≤ ns.length ∧ ns.length ≤ 6) (hb : ∀ z ∈ ns, 0 ≤ z ∧ z ≤ 500) (h0 : Z05 ns ≠ 0) : Z2g (netP ns ns.length) (Z05 ns) = 0 := by
  have hb0 : (Z05 ns).testBit 0 = true := by
    rw [Z0d h1 hb, Z6r h1 hb]
    intro h2
    apply h0
    refine Nat.eq_of_testBit_eq fun x => ?_
    rw [Nat.zero_testBit]
    cases hx : (Z05 ns).testBit x with
    | false => rfl
    | true =>
      exfalso
      have h3 := (Z0d h1 hb x).1 hx
      match x, h3 with
      | 0, h3 => exact h3 (by rw [Z6r h1 hb]; exact h2)
      | q + 1, h3 =>
        rw [Z1O h1 hb] at h3
        have h4 := Z23 h1 hb q
        have h5 : q < 6 := by
          false_or_by_contra
          apply h3
          unfold nn; rw [List.getD_eq_getElem?_getD, List.getElem?_eq_none (by omega)]; rfl
        have := (Z4K (f := nn ns) (k := 6) (fun y _ => (Z23 h1 hb y).1)).2 q h5 (by omega)
        omega
  rw [Z3G h1 hb]
  have : (smD 6 fun q => (if (Z05 ns).testBit 0 = true then nn ns q else 0) - (if (Z05 ns).testBit (q + 1) = true then nn ns q else 0)) = smD 6 fun _ => 0 := Z0T fun q _ => by
    rw [if_pos hb0]
    by_cases h : (Z05 ns).testBit (q + 1) = true
    · rw [if_pos h]; omega
    · rw [if_neg h]
      rw [Z0d h1 hb, Z1O h1 hb] at h
      omega
  rw [this]; rfl
theorem Zbr {ns : List Int} (h1 : 1 ≤ ns.length ∧ ns.length ≤ 6) (hb : ∀ z ∈ ns, 0 ≤ z ∧ z ≤ 500) {s : Nat} (h0 : 0 < s) (hs : s &&& Z05 ns = s) (hne : s ≠ Z05 ns) : Z2g (netP ns ns.length) s ≠ 0 := by
  have hsub : ∀ x, s.testBit x = true → (Z05 ns).testBit x = true := fun x hx => by
    rw [← hs, Nat.testBit_and, Bool.and_eq_true] at hx; exact hx.2
  have hlt : s < 2 ^ 7 := by have := Z5s h1 hb; have : s &&& Z05 ns ≤ Z05 ns := Nat.and_le_right; omega
  have hbig : ∀ t, t < 128 → ∀ x, 7 ≤ x → t.testBit x = false := fun t ht x hx => Nat.testBit_lt_two_pow (Nat.lt_of_lt_of_le (show t < 2 ^ 7 from ht) (Nat.pow_le_pow_right (by decide) hx))
  rw [Z3G h1 hb]
  by_cases hz : s.testBit 0 = true
  · -- somebody of all is not in it
    obtain ⟨x, hx1, hx2⟩ : ∃ x, (Z05 ns).testBit x = true ∧ s.testBit x = false := by
      false_or_by_contra
      rename_i hc
      apply hne
      refine Nat.eq_of_testBit_eq fun x => ?_
      cases h2 : (Z05 ns).testBit x with
      | false =>
        cases h3 : s.testBit x with
        | false => rfl
        | true => rw [hsub x h3] at h2; cases h2
      | true =>
        cases h3 : s.testBit x with
        | true => rfl
        | false => exact absurd ⟨x, h2, h3⟩ hc
    match x, hx1, hx2 with
    | 0, _, hx2 => rw [hz] at hx2; cases hx2
    | q + 1, hx1, hx2 =>
      have hq : q < 6 := by
        false_or_by_contra
        have := hbig _ (Z5s h1 hb) (q + 1) (by omega)
        rw [this] at hx1; cases hx1
      have h3 := (Z0d h1 hb (q + 1)).1 hx1
      rw [Z1O h1 hb] at h3
      have h4 := Z23 h1 hb q
      have := (Z4K (f := fun q => (if s.testBit 0 = true then nn ns q else 0) - (if s.testBit (q + 1) = true then nn ns q else 0)) (k := 6) (fun y _ => by
        have := Z23 h1 hb y
        (try dsimp only); rw [if_pos hz]; split <;> omega)).2 q hq (by (try dsimp only); rw [if_pos hz, if_neg (by rw [hx2]; decide)]; omega)
      omega
  · obtain ⟨x, hx⟩ : ∃ x, s.testBit x = true := Nat.exists_testBit_of_ne_zero (by omega)
    match x, hx with
    | 0, hx => exact absurd hx hz
    | q + 1, hx =>
      have hq : q < 6 := by
        false_or_by_contra
        have := hbig s hlt (q + 1) (by omega)
        rw [this] at hx; cases hx
      have h3 := (Z0d h1 hb (q + 1)).1 (hsub _ hx)
      rw [Z1O h1 hb] at h3
      have h4 := Z23 h1 hb q
      have := (Z4K (f := fun q => - ((if s.testBit 0 = true then nn ns q else 0) - (if s.testBit (q + 1) = true then nn ns q else 0))) (k := 6) (fun y _ => by
        have := Z23 h1 hb y
        (try dsimp only); rw [if_neg hz]; split <;> omega)).2 q hq (by (try dsimp only); rw [if_neg hz, if_pos hx]; omega)
      rw [Z5k] at this
      omega
theorem Zbe {ns : List Int} (h1 : 1 ≤ ns.length ∧ ns.length ≤ 6) (hb : ∀ z ∈ ns, 0 ≤ z ∧ z ≤ 500) (s : Nat) : -3000 ≤ Z2g (netP ns ns.length) s ∧ Z2g (netP ns ns.length) s ≤ 3000 := by
  rw [Z3G h1 hb]
  have : ∀ k, -(500 * (k : Nat) : Int) ≤ (smD k fun q => (if s.testBit 0 = true then nn ns q else 0) - (if s.testBit (q + 1) = true then nn ns q else 0)) ∧ (smD k fun q => (if s.testBit 0 = true then nn ns q else 0) - (if s.testBit (q + 1) = true then nn ns q else 0)) ≤ 500 * (k : Nat) := fun k => by
    induction k with
    | zero => simp [smD]
    | succ k ih =>
      rw [ZR]
      have := Z23 h1 hb k
      have e : ((if s.testBit 0 = true then nn ns k else 0) - (if s.testBit (k + 1) = true then nn ns k else 0) : Int) ≤ 500 ∧ -500 ≤ ((if s.testBit 0 = true then nn ns k else 0) - (if s.testBit (k + 1) = true then nn ns k else 0) : Int) := by
        split <;> split <;> omega
      omega
  have := this 6
  omega
structure KvI (kv : KV) (g : Nat → Option Int) : Prop where
  one : ∀ e ∈ kv, e.1.length = 1
  at_ : ∀ s : Nat, kv.get [(s : Int)] = (g s).map fun z => .int .i64 z
theorem KvI.nil : KvI [] (fun _ => none) := ⟨fun e he => (by cases he), fun s => rfl⟩
theorem KvI.put {kv : KV} {g : Nat → Option Int} (h : KvI kv g) (s : Nat) (z : Int) : KvI (kv.put [(s : Int)] (.int .i64 z)) (fun x => if x = s then some z else g x) := ⟨fun e he => by
  rcases KV.put_mem he with h1 | h1
  · rw [h1]; rfl
  · exact h.one e h1, fun x => by
  rw [KV.get_put]
  by_cases e : x = s
  · subst e; rw [if_pos rfl]; simp
  · rw [if_neg e, h.at_, decide_eq_false (by simp; omega)]; rfl⟩
theorem KvI.of {kv : KV} {g g' : Nat → Option Int} (h : KvI kv g) (e : ∀ s, g s = g' s) : KvI kv g' := ⟨h.one, fun s => by rw [h.at_, e]⟩
theorem Zif {H : Z7} {R : Z5} {kv : KV} {gv : Nat → Option Int} {m : Nat} (h : KvI kv gv) (s : Nat) [mm : Mem1 m (ZU false kv) H] : ∀ w, St H R w → Lkp Tryz.prog 220 (.map (some m)) (mkv false [(s : Int)]) false (.int .i64 ((gv s).getD 0)) w := fun w hw => by
  have h1 := Z5r (b := false) (m := m) (H := H) (R := R) kv [(s : Int)] Z2j (KeyT.of ZaG ZaO) (Z0Q zv3) rfl h.one false w hw
  rw [h.at_] at h1
  cases hg : gv s with
  | none => rw [hg] at h1; exact h1
  | some z => rw [hg] at h1; exact h1
theorem Zhw {H : Z7} {R : Z5} {kv : KV} {gv : Nat → Option Int} {m : Nat} (h : KvI kv gv) (s : Nat) [mm : Mem1 m (ZU false kv) H] : ∀ w, St H R w → Lkp Tryz.prog 220 (.map (some m)) (mkv false [(s : Int)]) true (.tuple #[.int .i64 ((gv s).getD 0), .bool (gv s).isSome]) w := fun w hw => by
  have h1 := Z5r (b := false) (m := m) (H := H) (R := R) kv [(s : Int)] Z2j (KeyT.of ZaG ZaO) (Z0Q zv3) rfl h.one true w hw
  rw [h.at_] at h1
  cases hg : gv s with
  | none => rw [hg] at h1; exact h1
  | some z => rw [hg] at h1; exact h1
theorem ZbR (s : Nat) (hs : s < 2 ^ 7) (H : Z7) (R : Z5) :
    Fn Tryz.prog 123 [.int .i64 s] H R (fun v H' R' => ∃ o : OSl 3 1 (irows (il (Z3J 7 s))), v = o.fs ∧ H' = o.G ++ H ∧ R' = R) := by
 refine Z8 Tryz.func123 rfl Tryz.ntmps123 rfl ?_
 refine sqt 1 rfl (pur 1 rfl (sqt 1 rfl (pur 1 rfl (Z0 (sqt 1 rfl (pur 1 rfl (Z2 ?_)))))))
 refine Zb (ι := (k : {k : Nat // k ≤ 7}) × OSl 3 1 (irows (il (Z3J k.1 s)))) (fun x => ⟨[(0, .int .i64 s), (3, x.2.fs), (4, .int .i64 x.1.1)], x.2.G ++ H, R⟩) (fun x => 7 - x.1.1) ⟨⟨0, by omega⟩, OSl.nil _ _⟩ ?_ (fun x => ?_)
 exact Zf idH
 obtain ⟨⟨k, hk⟩, o⟩ := x
 dsimp only at hk o ⊢
 have eb := Z4G k s
 refine Z0 (sqt 4 rfl (pur 2 rfl (sp rfl (PE.shrN (m := s) (n := k) rfl rfl (by omega)) rfl (pur 1 rfl ?_))))
 refine Z1 rfl ?_ ?_ <;> intro hc0 <;> try simp only [cS] at hc0
 have hk4 : k < 7 := by
   rcases Nat.lt_or_ge k 7 with h1 | h1
   · exact h1
   · obtain rfl : k = 7 := by omega
     have : s >>> 7 = 0 := by rw [Nat.shiftRight_eq_div_pow]; exact Nat.div_eq_of_lt hs
     omega
 refine Z3 (Z0 (Z2 (sqt 5 rfl (pur 2 rfl (sp rfl (PE.shrN (m := s) (n := k) rfl rfl (by omega)) rfl (sp rfl (PE.andN (m := s >>> k) (n := 1) rfl rfl rfl (Nat.le_trans (Nat.shiftRight_le _ _) (by omega)) (by decide)) rfl (pur 1 rfl ?_)))))))
 refine Z1 rfl ?_ ?_ <;> intro hc1
 rw [Z8f] at hc1
 rw [hc1, cond_true] at eb
 refine sqr 5 rfl (pur 2 rfl ?_)
 refine bsl (out := [_]) rfl Z2r zl3 rfl rfl rfl rfl rfl rfl (fun b18 => ?_)
 refine apO (o) rfl Z5F rfl rfl (Z1e (row := [.int .i64 k]) rfl) rfl rfl ((by have := Za1 k s; simp only [irows, il, List.length_map, List.length_singleton]; omega)) rfl (fun o19 => ?_)
 refine pur 1 rfl (sqr 3 rfl (pur 1 rfl (sp rfl (PE.add rfl rfl (by omega)) rfl (pur 1 rfl ?_))))
 exact Z6 ⟨⟨k + 1, by omega⟩, o19.cast (by rw [eb]; simp [irows, il])⟩ (fun w h => h.del b18)
 rw [Z8f] at hc1
 rw [hc1, cond_false, List.append_nil] at eb
 refine Z3 (sqr 3 rfl (pur 1 rfl (sp rfl (PE.add rfl rfl (by omega)) rfl (pur 1 rfl ?_))))
 exact Z6 ⟨⟨k + 1, by omega⟩, o.cast (by rw [eb])⟩ idH
 have hz : s < 2 ^ k := by
   rcases Nat.lt_or_ge s (2 ^ k) with h1 | h1
   · exact h1
   · have : 1 ≤ s >>> k := by rw [Nat.shiftRight_eq_div_pow]; exact (Nat.one_le_div_iff (Nat.two_pow_pos k)).2 h1
     omega
 refine Z9 (Za (Za (Zl (sqt 2 rfl (pur 2 rfl (Z4 ?_))))))
 exact rtA rfl rfl rfl ⟨o.cast (by rw [Z8z hz hs]), rfl, rfl, rfl⟩ idH
theorem ZdO (a : Option Addr) (n c : Nat) (hn : n ≤ 1) (H : Z7) (R : Z5) :
    FnV Tryz.prog 213 [.slice a n c, .int .i64 0, .int .i64 n, .func (.func 125) #[] #[]] H R (.tuple #[]) := by
 refine Z8 Tryz.func213 rfl Tryz.ntmps213 rfl ?_
 refine sqt 3 rfl (pur 1 rfl (sp rfl (PE.add rfl rfl (by omega)) rfl (pur 1 rfl (Z2 ?_))))
 refine Zb (ι := Unit) (fun _ => ⟨[(2, .int .i64 n), (8, .int .i64 1)], H, R⟩) (fun x => 0) () ?_ (fun x => ?_)
 exact Zf idH
 refine Z0 (sqt 3 rfl (pur 3 rfl ?_))
 refine Z1 rfl ?_ ?_ <;> intro hc0
 exact absurd hc0 (by simp; omega)
 refine Z9 (Za (Za (Zl ?_)))
 exact Z0l (vs := []) rfl .nil rfl ⟨rfl, rfl, rfl⟩ idH
theorem ZeE (a : Option Addr) (n c : Nat) (hn : n ≤ 1) (z : Int) (H : Z7) (R : Z5) :
    FnV Tryz.prog 186 [.slice a n c, .int .i64 0, .int .i64 n, .int .i64 z, .func (.func 125) #[] #[]] H R (.tuple #[]) := by
 refine Z8 Tryz.func186 rfl Tryz.ntmps186 rfl ?_
 refine sqt 1 rfl (pur 1 rfl (sqt 1 rfl (pur 1 rfl (Z2 ?_))))
 refine Zb (ι := Unit) (fun _ => ⟨[(0, .slice a n c), (1, .int .i64 0), (2, .int .i64 n), (4, .func (.func 125) #[] #[])], H, R⟩) (fun x => 0) () ?_ (fun x => ?_)
 exact Zf idH
 refine Z2 (sqt 4 rfl (pur 2 rfl (sp rfl (PE.sub rfl rfl (by omega)) rfl (pur 1 rfl (Z0 (sqt 2 rfl (pur 2 rfl ?_)))))))
 refine Z1 rfl ?_ ?_ <;> intro hc0
 refine sqt 5 rfl (pur 4 rfl ?_)
 refine clV rfl Zfq rfl rfl (ZdO a n c hn _ _) ?_
 refine Z4 ?_
 exact Zu (vs := []) rfl .nil rfl ⟨rfl, rfl, rfl⟩ idH
 simp only [decide_eq_false_iff_not] at hc0
 omega
theorem Z4S (k : Nat) (hk : k ≤ 12) (H : Z7) (R : Z5) :
    Fn Tryz.prog 173 [.int .u64 k] H R (fun v H' R' => ∃ z : Int, v = .int .i64 z ∧ H' = H ∧ R' = R) := by
 refine Z8 Tryz.func173 rfl Tryz.ntmps173 rfl ?_
 refine sqt 1 rfl (pur 1 rfl (Z0 (sqt 2 rfl (pur 1 rfl (sp rfl (PE.geq  rfl rfl) rfl ?_)))))
 refine Z1 rfl ?_ ?_ <;> intro hc0
 simp only [decide_eq_true_eq] at hc0
 omega
 refine Z3 (Z0 (sqt 2 rfl (pur 1 rfl (sp rfl (PE.geq  rfl rfl) rfl ?_))))
 refine Z1 rfl ?_ ?_ <;> intro hc1
 simp only [decide_eq_true_eq] at hc1
 omega
 refine Z3 (Z0 (sqt 2 rfl (pur 1 rfl (sp rfl (PE.geq  rfl rfl) rfl ?_))))
 refine Z1 rfl ?_ ?_ <;> intro hc2
 simp only [decide_eq_true_eq] at hc2
 omega
 refine Z3 (sqt 7 rfl (pur 2 rfl ?_))
 refine sp rfl ((PE.convert Z9q ik5 rfl).to (by rw [Z24 (by omega) (by omega)])) rfl ?_
 refine spE rfl (PE.indexS (m := 256) Z9Y rfl rfl (by kernel_rfl) (by omega)) rfl ?_
 rintro _ ⟨u22, rfl, hu22⟩
 refine sp rfl (PE.conv64 us5 ik3 rfl (by omega)) rfl (sp rfl (PE.add rfl rfl (by omega)) rfl (pur 1 rfl (Z4 ?_)))
 exact rtA rfl rfl rfl ⟨_, rfl, rfl, rfl⟩ idH
theorem ZcR (k : Nat) (hk : k ≤ 12) (H : Z7) (R : Z5) :
    Fn Tryz.prog 105 [.int .u64 k] H R (fun v H' R' => ∃ z : Int, v = .int .i64 z ∧ H' = H ∧ R' = R) := by
 refine Z8 Tryz.func105 rfl Tryz.ntmps105 rfl ?_
 refine sqt 1 rfl (pur 1 rfl (Z0 ?_))
 refine ZC rfl ?_
 refine Z3 (sqt 3 rfl (pur 1 rfl ?_))
 refine cl rfl Z66 rfl rfl (Z4S k hk _ _) ?_
 rintro _ _ R1 ⟨z, rfl, rfl, hR1⟩
 obtain rfl := hR1.symm
 clear hR1
 refine pur 1 rfl (Z4 ?_)
 exact rtA rfl rfl rfl ⟨_, rfl, rfl, rfl⟩ idH
theorem Zbc (a : Option Addr) (n c : Nat) (hn : n ≤ 1) (H : Z7) (R : Z5) :
    FnV Tryz.prog 124 [.slice a n c, .func (.func 125) #[] #[]] H R (.tuple #[]) := by
 refine Z8 Tryz.func124 rfl Tryz.ntmps124 rfl ?_
 refine sqt 3 rfl (pur 1 rfl (sp rfl (PE.lenSl ZcI rfl) rfl (pur 1 rfl (sqr 7 rfl (pur 3 rfl ?_)))))
 refine sp rfl ((PE.convert us3 Z6X rfl).to (by rw [Z0J (by omega) (by omega)])) rfl ?_
 refine cl rfl Z60 rfl rfl (ZcR n (by omega) _ _) ?_
 rintro _ _ R1 ⟨z, rfl, rfl, hR1⟩
 obtain rfl := hR1.symm
 clear hR1
 refine pur 1 rfl ?_
 refine clV rfl ZdE rfl rfl (ZeE a n c hn z _ _) ?_
 exact Z0l (vs := []) rfl .nil rfl ⟨rfl, rfl, rfl⟩ idH
theorem Zi1 : apT Tryz.prog 77 = some (47, 1, 24) := by kernel_rfl
theorem ZeI : cal Tryz.prog 123 = true := by kernel_rfl
theorem ZdX : cal Tryz.prog 124 = true := by kernel_rfl
theorem Zil : slE Tryz.prog 77 = some (47, 1) := by kernel_rfl
theorem ZfU : Zy Tryz.prog 47 = some ([.slice none 0 0]) := by kernel_rfl
def ZcV (ns : List Int) : List (List Int) := if Z05 ns = 0 then [] else [il (Z3J 7 (Z05 ns))]
theorem Zdc {N : List Int} {k : Nat} (h : nn N k ≠ 0) : Z4Q N k ||| 1 * 2 ^ k = Z4Q N (k + 1) := by rw [Nat.one_mul]; unfold Z4Q; rw [decide_eq_true h]; cases k <;> rfl
theorem Zfx {N : List Int} {k : Nat} (h : ¬ nn N k ≠ 0) : Z4Q N (k + 1) = Z4Q N k := by
  show (bif decide (nn N k ≠ 0) then _ else _) = _
  rw [decide_eq_false h]; rfl
theorem Zbb {i j : Nat} (h : ((2 ^ i : Nat) : Int) = ((1 * 2 ^ j : Nat) : Int)) : i = j := by
  rw [Nat.one_mul] at h
  have h1 : 2 ^ i = 2 ^ j := by omega
  have h2 : (2 ^ i).testBit i = true := by rw [Nat.testBit_two_pow]; simp
  rw [h1, Nat.testBit_two_pow, decide_eq_true_eq] at h2
  exact h2.symm
def gS (N : List Int) (k : Nat) (s : Nat) : Option Int := if s < k then some (Z2g N s) else none
def gS2 (N : List Int) (k i j : Nat) (s : Nat) : Option Int := if s = k then some (Z2g N (k - 2 ^ i) + (if i < j then nn N i else 0)) else if s < k then some (Z2g N s) else none
def gM (A : Nat) (b : Bool) (s : Nat) : Option Int := if s = 0 then some 0 else bif decide (s = A) && b then some 1 else none
def gB (A : Nat) (b : Bool) (s : Nat) : Option Int := bif decide (1 ≤ s) && (decide (s = A) && b) then some (A : Int) else none
theorem ZhE {A : Nat} {b : Bool} (h : 0 < A) : gM A b A = bif b then some 1 else none := by unfold gM; rw [if_neg (by omega), decide_eq_true rfl]; rfl
theorem ZhC {A s : Nat} {b : Bool} (h0 : s ≠ 0) (hA : s ≠ A) : gM A b s = none := by unfold gM; rw [if_neg h0, decide_eq_false hA]; rfl
theorem ZgI {A : Nat} {b : Bool} (h : 0 < A) : gB A b A = bif b then some (A : Int) else none := by unfold gB; rw [decide_eq_true (show 1 ≤ A from h), decide_eq_true rfl]; rfl
theorem Ze0 {A : Nat} {b : Bool} (h : 0 < A) (s : Nat) : (if s = A then some (0 + 1 : Int) else gM A b s) = gM A true s := by
  by_cases e : s = A
  · subst e; rw [if_pos rfl, ZhE h]; rfl
  · rw [if_neg e]; unfold gM; rw [decide_eq_false e]; rfl
theorem Zdz {A : Nat} {b : Bool} (h : 0 < A) (s : Nat) : (if s = A then some (A : Int) else gB A b s) = gB A true s := by
  by_cases e : s = A
  · subst e; rw [if_pos rfl, ZgI h]; rfl
  · rw [if_neg e]; unfold gB; rw [decide_eq_false e]; rfl
theorem Zah (A s : Nat) : (if s = 0 then some (0 : Int) else none) = gM A (decide (A < 1)) s := by
  unfold gM
  by_cases e : s = 0
  · rw [if_pos e, if_pos e]
  · rw [if_neg e, if_neg e]
    by_cases h : s = A
    · rw [decide_eq_false (show ¬ A < 1 by omega), Bool.and_false]; rfl
    · rw [decide_eq_false h]; rfl
theorem Z9D (A s : Nat) : none = gB A (decide (A < 1)) s := by
  unfold gB
  by_cases h : 1 ≤ s ∧ s = A
  · rw [decide_eq_false (show ¬ A < 1 by omega), Bool.and_false, Bool.and_false]; rfl
  · by_cases h1 : 1 ≤ s
    · rw [decide_eq_false (show ¬ s = A from fun e => h ⟨h1, e⟩), Bool.false_and, Bool.and_false]; rfl
    · rw [decide_eq_false h1]; rfl
theorem Zed (N : List Int) : Z2g N 0 = 0 := by
  unfold Z2g
  have : (smD 7 fun i => if (0 : Nat).testBit i = true then nn N i else 0) = smD 7 fun _ => 0 := Z0T fun x _ => by rw [Nat.zero_testBit]; rfl
  rw [this]; rfl
theorem Z79 (w : World) : Inn [] w := fun x hx => by cases hx
theorem ZbD {H : Z7} {R : Z5} {kv : KV} {gv : Nat → Option Int} {m : Nat} {z : Int} (h : KvI kv gv) (s : Nat) (hz : (gv s).getD 0 = z) [mm : Mem1 m (ZU false kv) H] : ∀ w, St H R w → Lkp Tryz.prog 220 (.map (some m)) (mkv false [(s : Int)]) false (.int .i64 z) w := fun w hw => by
  have h1 := Zif h s (m := m) (H := H) (R := R) w hw
  rw [hz] at h1; exact h1
theorem Zgp {H : Z7} {R : Z5} {kv : KV} {gv : Nat → Option Int} {m : Nat} {z : Int} {b : Bool} (h : KvI kv gv) (s : Nat) (hz : (gv s).getD 0 = z) (hb : (gv s).isSome = b) [mm : Mem1 m (ZU false kv) H] : ∀ w, St H R w → Lkp Tryz.prog 220 (.map (some m)) (mkv false [(s : Int)]) true (.tuple #[.int .i64 z, .bool b]) w := fun w hw => by
  have h1 := Zhw h s (m := m) (H := H) (R := R) w hw
  rw [hz, hb] at h1; exact h1
set_option maxHeartbeats 800000 in
theorem Z9F (dl : List PL) (ad : Option Addr) (cd : Nat) (ns : List Int) (hd : Dbt dl ns) (H : Z7) (R : Z5) [hP : MemRows ad 1 (plrows dl) R] [hI : MemF (Inn dl) R] :
    Fn Tryz.prog 58 [.slice ad dl.length cd] H R (fun v H' R' => ∃ (gl : List PL) (a : Option Addr) (c : Nat), (lls gl = ZcV ns ∧ ∀ y ∈ gl, y.l.length ≤ y.c) ∧ v = .slice a gl.length c ∧ H' = H ∧ R' = RowsA a 1 (plrows gl) :: Inn gl :: R) := by
 have hdl := hd.dlen
 have hln := hd.len
 refine Z8 Tryz.func58 rfl Tryz.ntmps58 rfl ?_
 refine sqt 1 rfl (pur 1 rfl (sqt 3 rfl (pur 1 rfl ?_)))
 refine cl rfl ZbT rfl rfl (Z76 dl ad cd ns hd _ _) ?_
 rintro _ _ R1 ⟨bn, rfl, rfl, hR1⟩
 obtain rfl := hR1.symm
 clear hR1
 refine Sy.heap (fun w h => St.rows (sz := 1) (rows := irows (netP ns ns.length)) (rest := []) (by rw [irows_flat']; exact h) (Z4H _)) ?_
 obtain ⟨N, hN⟩ : ∃ N, N = netP ns ns.length := ⟨_, rfl⟩
 obtain ⟨A, hA⟩ : ∃ A, A = Z05 ns := ⟨_, rfl⟩
 have hNl : N.length = dl.length := by rw [hN, netP_len, hdl]
 have hA7 : A < 128 := by rw [hA]; exact Z5s hln hd.bd
 have hA2 : Z4Q N dl.length = A := by rw [hA, hN, hdl]; rfl
 have hAl : A < 2 ^ dl.length := by rw [← hA2]; exact Z3H _ _
 have hNb : ∀ k, k < dl.length → -3000 ≤ nn N k ∧ nn N k ≤ 3000 := fun k hk => by rw [hN]; exact Z5v hd (Nat.le_refl _) (by omega)
 have hSb : ∀ s, -3000 ≤ Z2g N s ∧ Z2g N s ≤ 3000 := fun s => by rw [hN]; exact Zbe hln hd.bd s
 have hSz : A ≠ 0 → Z2g N A = 0 := fun h => by rw [hN, hA]; exact Z4i hln hd.bd (by rw [← hA]; exact h)
 have hSn : ∀ s, 0 < s → s &&& A = s → s ≠ A → Z2g N s ≠ 0 := fun s h1 h2 h3 => by rw [hN]; rw [hA] at h2 h3; exact Zbr hln hd.bd h1 h2 h3
 rw [← hN]
 refine pur 1 rfl (sqt 1 rfl (pur 1 rfl (Z0 (sqt 3 rfl (pur 1 rfl (sp rfl (PE.lenSl Z0i rfl) rfl (pur 1 rfl (Z2 ?_))))))))
 refine Zb (ι := {k : Nat // k ≤ dl.length}) (fun k => ⟨[(3, .slice (some ⟨bn, 0, none⟩) dl.length dl.length), (4, .int .i64 (Z4Q N k.1 : Nat)), (22, .slice (some ⟨bn, 0, none⟩) dl.length dl.length), (23, .int .i64 dl.length), (24, .int .i64 k.1)], H, RowsA (some ⟨bn, 0, none⟩) 1 (irows N) :: R⟩) (fun k => dl.length - k.1) ⟨0, Nat.zero_le _⟩ ?_ (fun k => ?_)
 exact Zf idH
 obtain ⟨k, hk⟩ := k
 dsimp only at hk ⊢
 refine sqt 1 rfl (pur 1 rfl (Z0 ?_))
 refine Z1 rfl ?_ ?_ <;> intro hc0 <;> try simp only [cS] at hc0
 have hk6 : 2 ^ k ≤ 2 ^ 6 := Nat.pow_le_pow_right (by decide) (by omega)
 have hak := Z3H N k
 refine Z3 (Z0 (Z2 (sqt 5 rfl (pur 1 rfl (sp rfl (PE.indexAddr ZM rfl rfl (by omega) (by omega)) rfl (spL rfl rfl (lf0 (row := [.int .i64 (nn N k)]) sc3 (ir_get (nn_get (by omega))) rfl) rfl (pur 2 rfl (sqt 2 rfl (pur 2 rfl ?_)))))))))
 refine Z1 rfl ?_ ?_ <;> intro hc1
 try simp only [cS] at hc1
 refine sqr 5 rfl (pur 2 rfl (sp rfl (PE.shlN (m := 1) (n := k) rfl rfl rfl (by omega) (by omega)) rfl (sp rfl (PE.orN (m := Z4Q N k) (n := 1 * 2 ^ k) rfl rfl (by omega) (by omega)) rfl ?_)))
 rw [Zdc hc1]
 refine pur 1 rfl (sqr 2 rfl (sp rfl (PE.add rfl rfl (by omega)) rfl (pur 1 rfl ?_)))
 exact Z6 ⟨k + 1, by omega⟩ idH
 refine Z3 (sqr 2 rfl (sp rfl (PE.add rfl rfl (by omega)) rfl (pur 1 rfl ?_)))
 exact Z0s ⟨k + 1, by omega⟩ (by dsimp only; omega) (by rw [Zfx (by simpa using hc1)]; exact (by repeat' first | exact Sub.nil | apply Sub.cons | rfl | (simp [lk]; omega))) idH
 obtain rfl : k = dl.length := by omega
 rw [hA2]
 refine Z9 (Za (Za (Zl (sqt 4 rfl ?_))))
 refine mkm rfl rfl false (fun m36 => ?_)
 refine mpi [] [((0 : Nat) : Int)] (v := .int .i64 0) rfl Z2j (KeyT.of ZaG ZaO) rfl rfl rfl rfl (by simp) ?_
 refine pur 2 rfl (Z0 (sqt 1 rfl (pur 1 rfl (Z2 ?_))))
 refine Zb (ι := {x : Nat × KV // (1 ≤ x.1 ∧ x.1 ≤ A + 1) ∧ KvI x.2 (gS N x.1)}) (fun x => ⟨[(3, .slice (some ⟨bn, 0, none⟩) dl.length dl.length), (4, .int .i64 (A : Nat)), (7, .map (some m36)), (8, .int .i64 x.1.1)], (m36, ZU false x.1.2) :: H, RowsA (some ⟨bn, 0, none⟩) 1 (irows N) :: R⟩) (fun x => A + 1 - x.1.1) ⟨(1, _), by dsimp only; omega, (KvI.nil.put 0 0).of (fun s => by unfold gS; by_cases e : s = 0; subst e; rw [if_pos rfl, if_pos (by omega), Zed]; rw [if_neg e, if_neg (by omega)])⟩ ?_ (fun x => ?_)
 exact Zf idH
 obtain ⟨⟨k, kv⟩, hk, hkv⟩ := x
 dsimp only at hk hkv ⊢
 refine Z0 (sqt 3 rfl (pur 3 rfl ?_))
 refine Z1 rfl ?_ ?_ <;> intro hc2 <;> try simp only [cS] at hc2
 obtain ⟨i, hi7, hlow, hbit, hdrop, hbits⟩ := Za9 (s := k) (by omega) (by omega)
 have hi6 : 2 ^ i ≤ 2 ^ 6 := Nat.pow_le_pow_right (by decide) (by omega)
 have hip : 0 < 2 ^ i := Nat.two_pow_pos i
 have hik : 2 ^ i ≤ k := Nat.ge_two_pow_of_testBit hbit
 have hil : i < dl.length := by
   rcases Nat.lt_or_ge i dl.length with h1 | h1
   · exact h1
   · have := Nat.pow_le_pow_right (n := 2) (by decide) h1; omega
 have hib := hNb i hil
 have hsb := hSb (k - 2 ^ i)
 have hsum := Z8A (N := N) hi7 hbit hbits
 refine Z3 (Z0 (Z2 (sqt 5 rfl (pur 2 rfl ?_))))
 refine sp rfl ((PE.negW rfl).to (by rw [ZI (by omega) (by omega)])) rfl ?_
 refine sp rfl (PE.andNeg (m := k) rfl rfl (by omega) (by omega) (by omega)) rfl ?_
 rw [show k &&& (18446744073709551616 - k) = 2 ^ i from hlow]
 refine pur 1 rfl (sqt 8 rfl (pur 5 rfl (sp rfl (PE.andNotN (m := k) (n := 2 ^ i) rfl rfl (by omega) (by omega)) rfl ?_)))
 rw [hdrop]
 refine spK rfl rfl rfl ((ZbD (z := Z2g N (k - 2 ^ i)) hkv (k - 2 ^ i) (by unfold gS; rw [if_pos (by omega)]; rfl))) rfl ?_
 refine mpu kv [((k : Nat) : Int)] (v := .int .i64 (Z2g N (k - 2 ^ i))) rfl Z2j (KeyT.of ZaG ZaO) rfl rfl rfl rfl hkv.one ?_
 refine sqt 3 rfl (pur 1 rfl (sp rfl (PE.lenSl Z0i rfl) rfl (pur 1 rfl (Z2 ?_))))
 refine Zb (ι := {x : Nat × KV // x.1 ≤ dl.length ∧ KvI x.2 (gS2 N k i x.1)}) (fun x => ⟨[(3, .slice (some ⟨bn, 0, none⟩) dl.length dl.length), (4, .int .i64 (A : Nat)), (7, .map (some m36)), (8, .int .i64 (k : Nat)), (9, .int .i64 (2 ^ i : Nat)), (54, .slice (some ⟨bn, 0, none⟩) dl.length dl.length), (55, .int .i64 dl.length), (56, .int .i64 x.1.1)], (m36, ZU false x.1.2) :: H, RowsA (some ⟨bn, 0, none⟩) 1 (irows N) :: R⟩) (fun x => dl.length - x.1.1) ⟨(0, _), Nat.zero_le _, (hkv.put k (Z2g N (k - 2 ^ i))).of (fun s => by unfold gS2 gS; by_cases e : s = k; subst e; rw [if_pos rfl, if_pos rfl, if_neg (by omega), Int.add_zero]; rw [if_neg e, if_neg e])⟩ ?_ (fun x => ?_)
 exact Zf idH
 obtain ⟨⟨j, kw⟩, hj, hkw⟩ := x
 dsimp only at hj hkw ⊢
 refine sqt 1 rfl (pur 1 rfl (Z0 ?_))
 refine Z1 rfl ?_ ?_ <;> intro hc3 <;> try simp only [cS] at hc3
 have hj6 : 2 ^ j ≤ 2 ^ 6 := Nat.pow_le_pow_right (by decide) (by omega)
 have hjb := hNb j (by omega)
 refine Z3 (Z0 (Z2 (sqt 5 rfl (pur 1 rfl (sp rfl (PE.indexAddr ZM rfl rfl (by omega) (by omega)) rfl (spL rfl rfl (lf0 (row := [.int .i64 (nn N j)]) sc3 (ir_get (nn_get (by omega))) rfl) rfl (pur 2 rfl (sqt 4 rfl (pur 2 rfl (sp rfl (PE.shlN (m := 1) (n := j) rfl rfl rfl (by omega) (by omega)) rfl (pur 1 rfl ?_)))))))))))
 refine Z1 rfl ?_ ?_ <;> intro hc4 <;> try simp only [cS] at hc4
 obtain rfl := Zbb hc4
 refine sqr 6 rfl (pur 2 rfl ?_)
 refine spK rfl rfl rfl ((ZbD (z := Z2g N (k - 2 ^ i)) hkw k (by unfold gS2; rw [if_pos rfl, if_neg (by omega), Int.add_zero]; rfl))) rfl ?_
 refine pur 1 rfl (sp rfl (PE.add rfl rfl (by omega)) rfl ?_)
 refine mpu kw [((k : Nat) : Int)] (v := .int .i64 (Z2g N (k - 2 ^ i) + nn N i)) rfl Z2j (KeyT.of ZaG ZaO) rfl rfl rfl rfl hkw.one ?_
 refine sqr 2 rfl (sp rfl (PE.add rfl rfl (by omega)) rfl (pur 1 rfl ?_))
 exact Z6 ⟨(i + 1, _), by dsimp only; omega, (hkw.put k (Z2g N (k - 2 ^ i) + nn N i)).of (fun s => by unfold gS2; by_cases e : s = k; subst e; rw [if_pos rfl, if_pos rfl, if_pos (by omega)]; rw [if_neg e, if_neg e, if_neg e])⟩ idH
 have hne : i ≠ j := fun e => hc4 (by rw [e, Nat.one_mul])
 refine Z3 (sqr 2 rfl (sp rfl (PE.add rfl rfl (by omega)) rfl (pur 1 rfl ?_)))
 exact Z6 ⟨(j + 1, kw), by dsimp only; omega, hkw.of (fun s => by unfold gS2; by_cases e : s = k; subst e; rw [if_pos rfl, if_pos rfl]; (by_cases h : i < j; rw [if_pos h, if_pos (by omega)]; rw [if_neg h, if_neg (by omega)]); rw [if_neg e, if_neg e])⟩ idH
 obtain rfl : j = dl.length := by omega
 refine Z9 (Za (Za (Zl (sqr 3 rfl (pur 1 rfl (sp rfl (PE.add rfl rfl (by omega)) rfl (pur 1 rfl ?_)))))))
 exact Z6 ⟨(k + 1, kw), by dsimp only; omega, hkw.of (fun s => by unfold gS2 gS; by_cases e : s = k; subst e; rw [if_pos rfl, if_pos hil, if_pos (by omega), hsum]; rw [if_neg e]; (by_cases h : s < k; rw [if_pos h, if_pos (by omega)]; rw [if_neg h, if_neg (by omega)]))⟩ idH
 obtain rfl : k = A + 1 := by omega
 have hkS := hkv
 refine Z9 (Za (Za (Zl (sqt 6 rfl ?_))))
 refine mkm rfl rfl false (fun m71 => ?_)
 refine mpi [] [((0 : Nat) : Int)] (v := .int .i64 0) rfl Z2j (KeyT.of ZaG ZaO) rfl rfl rfl rfl (by simp) ?_
 refine pur 1 rfl ?_
 refine mkm rfl rfl false (fun m73 => ?_)
 refine pur 2 rfl (Z0 (sqt 1 rfl (pur 1 rfl (Z2 ?_))))
 refine Zb (ι := {x : Nat × KV × KV // (1 ≤ x.1 ∧ x.1 ≤ A + 1) ∧ KvI x.2.1 (gM A (decide (A < x.1))) ∧ KvI x.2.2 (gB A (decide (A < x.1)))}) (fun x => ⟨[(3, .slice (some ⟨bn, 0, none⟩) dl.length dl.length), (4, .int .i64 (A : Nat)), (7, .map (some m36)), (12, .map (some m71)), (13, .map (some m73)), (14, .int .i64 x.1.1)], (m73, ZU false x.1.2.2) :: (m71, ZU false x.1.2.1) :: (m36, ZU false kv) :: H, RowsA (some ⟨bn, 0, none⟩) 1 (irows N) :: R⟩) (fun x => A + 1 - x.1.1) ⟨(1, _, []), by dsimp only; omega, (KvI.nil.put 0 0).of (Zah A), KvI.nil.of (Z9D A)⟩ ?_ (fun x => ?_)
 exact Zf idH
 obtain ⟨⟨k, kM, kB⟩, hk, hM, hB⟩ := x
 dsimp only at hk hM hB ⊢
 have hsb := hSb k
 refine Z0 (sqt 3 rfl (pur 3 rfl ?_))
 refine Z1 rfl ?_ ?_ <;> intro hc5 <;> try simp only [cS] at hc5
 refine Z3 (Z0 (Z2 (Z0 (sqt 10 rfl (pur 2 rfl (sp rfl (PE.andNotN (m := k) (n := A) rfl rfl (by omega) (by omega)) rfl (pur 2 rfl ?_)))))))
 refine Zk 83 rfl ?_ ?_ <;> intro g83
 have hne : k ≠ A := fun e => by
   rw [e, (sub_zero hA7 (Nat.and_self A)).2 rfl] at g83; simp at g83
 refine pur 5 rfl ?_
 refine ZD rfl ?_
 refine Z9 (Za (Zl (sqr 3 rfl (pur 1 rfl (sp rfl (PE.add rfl rfl (by omega)) rfl (pur 1 rfl ?_))))))
 exact Z6 ⟨(k + 1, kM, kB), by dsimp only; omega, hM.of (fun s => by dsimp only; rw [show decide (A < k + 1) = decide (A < k) from decide_eq_decide.2 (by omega)]), hB.of (fun s => by dsimp only; rw [show decide (A < k + 1) = decide (A < k) from decide_eq_decide.2 (by omega)])⟩ idH
 refine pur 2 rfl ?_
 refine Zhq rfl rfl rfl rfl rfl rfl ((ZbD (z := Z2g N k) hkS k (by unfold gS; rw [if_pos (by omega)]; rfl))) rfl ?_
 refine pur 2 rfl ?_
 refine Z1 rfl ?_ ?_ <;> intro hc6
 try simp only [cS] at hc6
 have hne : k ≠ A := fun e => hc6 (by rw [e]; exact hSz (by omega))
 refine Z9 (Za (Zl (sqr 3 rfl (pur 1 rfl (sp rfl (PE.add rfl rfl (by omega)) rfl (pur 1 rfl ?_))))))
 exact Z6 ⟨(k + 1, kM, kB), by dsimp only; omega, hM.of (fun s => by dsimp only; rw [show decide (A < k + 1) = decide (A < k) from decide_eq_decide.2 (by omega)]), hB.of (fun s => by dsimp only; rw [show decide (A < k + 1) = decide (A < k) from decide_eq_decide.2 (by omega)])⟩ idH
 have hc6' : Z2g N k = 0 := by simpa using hc6
 have hg83 : k &&& (18446744073709551615 - A) = 0 := by simp at g83; omega
 have hks := (Z0B (by omega) (by omega)).1 hg83
 have hkA : k = A := by
   false_or_by_contra
   rename_i h
   exact hSn k (by omega) hks h hc6'
 subst hkA
 have hA0 : 0 < k := by omega
 refine Z3 (sqt 2 rfl (pur 2 rfl (Z2 ?_)))
 refine Zb (ι := {x : Nat × KV × KV // x.1 &&& k = x.1 ∧ KvI x.2.1 (gM k (decide (x.1 < k))) ∧ KvI x.2.2 (gB k (decide (x.1 < k)))}) (fun x => ⟨[(3, .slice (some ⟨bn, 0, none⟩) dl.length dl.length), (4, .int .i64 (k : Nat)), (7, .map (some m36)), (12, .map (some m71)), (13, .map (some m73)), (14, .int .i64 (k : Nat)), (15, .int .i64 x.1.1)], (m73, ZU false x.1.2.2) :: (m71, ZU false x.1.2.1) :: (m36, ZU false kv) :: H, RowsA (some ⟨bn, 0, none⟩) 1 (irows N) :: R⟩) (fun x => x.1.1) ⟨(k, kM, kB), Nat.and_self k, hM.of (fun s => rfl), hB.of (fun s => rfl)⟩ ?_ (fun x => ?_)
 exact Zf idH
 obtain ⟨⟨p, kM, kB⟩, hp, hM, hB⟩ := x
 dsimp only at hp hM hB ⊢
 have hpk : p ≤ k := by have : p &&& k ≤ k := Nat.and_le_right; omega
 refine Z0 (sqt 2 rfl (pur 2 rfl ?_))
 refine Z1 rfl ?_ ?_ <;> intro hc7 <;> try simp only [cS] at hc7
 obtain ⟨q, hq⟩ : ∃ q, q = k &&& (18446744073709551615 - p) := ⟨_, rfl⟩
 have hqz : q = 0 ↔ p = k := by rw [hq]; exact sub_zero hA7 hp
 have hqk : q ≠ k := by rw [hq]; exact ZbS hA7 (by omega) hp
 refine Z3 (Z0 (Z2 (sqt 10 rfl (pur 3 rfl (sp rfl (PE.andNotN (m := k) (n := p) rfl rfl (by omega) (by omega)) rfl ?_)))))
 rw [← hq]
 refine spK rfl rfl rfl ((Zgp (z := 0) (b := decide (p = k)) hM q (by by_cases e : q = 0; rw [e]; rfl; rw [ZhC e hqk]; rfl) (by by_cases e : q = 0; rw [dT (hqz.1 e), e]; rfl; rw [ZhC e hqk, dF (fun h => e (hqz.2 h))]; rfl))) rfl ?_
 refine pur 5 rfl (sqt 15 rfl (pur 2 rfl ?_))
 refine Zk 105 rfl ?_ ?_ <;> intro g105
 try simp only [cS] at g105
 subst g105
 refine pur 2 rfl ?_
 refine Zhq rfl rfl rfl rfl rfl rfl ((ZbD (z := 0) hkS _ (by unfold gS; rw [if_pos (by omega)]; exact hSz (by omega)))) rfl ?_
 refine pur 3 rfl ?_
 refine Zk 111 rfl ?_ ?_ <;> intro g111
 refine pur 1 rfl ?_
 refine spG rfl rfl rfl rfl (PE.add rfl rfl (by omega)) rfl ?_
 refine pur 2 rfl ?_
 refine Zhq rfl rfl rfl rfl rfl rfl ((ZbD (z := 0) hM _ (by rw [ZhE (by omega), dF (by omega)]; rfl))) rfl ?_
 refine pur 2 rfl ?_
 refine Z1 rfl ?_ ?_ <;> intro hc8
 refine sqr 9 rfl (pur 5 rfl (sp rfl (PE.add rfl rfl (by omega)) rfl (pur 1 rfl ?_)))
 refine mpu kM [((p : Nat) : Int)] (v := .int .i64 (0 + 1)) rfl Z2j (KeyT.of ZaG ZaO) rfl rfl rfl rfl hM.one ?_
 refine mpu kB [((p : Nat) : Int)] (v := .int .i64 ((p : Nat))) rfl Z2j (KeyT.of ZaG ZaO) rfl rfl rfl rfl hB.one ?_
 refine sqr 5 rfl (pur 1 rfl (sp rfl (PE.sub rfl rfl (by omega)) rfl ?_))
 rw [show (p : Int) - 1 = ((p - 1 : Nat) : Int) from by omega]
 refine pur 1 rfl (sp rfl (PE.andN (m := p - 1) (n := p) rfl rfl rfl (by omega) (by omega)) rfl (pur 1 rfl ?_))
 have hp9 : (p - 1) &&& p ≤ p - 1 := Nat.and_le_left
 exact Z6 ⟨((p - 1) &&& p, _, _), by dsimp only; rw [Nat.and_assoc, Nat.and_self], (hM.put p (0 + 1)).of (fun s => by dsimp only; rw [Ze0 hA0, dT (by omega)]), (hB.put p (p : Nat)).of (fun s => by dsimp only; rw [Zdz hA0, dT (by omega)])⟩ idH
 exact absurd hc8 (by simp)
 exact absurd g111 (by simp)
 try simp only [cS] at g105
 refine pur 13 rfl ?_
 refine ZC rfl ?_
 refine Z3 (sqr 5 rfl (pur 1 rfl (sp rfl (PE.sub rfl rfl (by omega)) rfl ?_)))
 rw [show (p : Int) - 1 = ((p - 1 : Nat) : Int) from by omega]
 refine pur 1 rfl (sp rfl (PE.andN (m := p - 1) (n := k) rfl rfl rfl (by omega) (by omega)) rfl (pur 1 rfl ?_))
 have hp9 : (p - 1) &&& k ≤ p - 1 := Nat.and_le_left
 exact Z6 ⟨((p - 1) &&& k, kM, kB), by dsimp only; rw [Nat.and_assoc, Nat.and_self], hM.of (fun s => by dsimp only; rw [show decide ((p - 1) &&& k < k) = decide (p < k) from decide_eq_decide.2 (by omega)]), hB.of (fun s => by dsimp only; rw [show decide ((p - 1) &&& k < k) = decide (p < k) from decide_eq_decide.2 (by omega)])⟩ idH
 obtain rfl : p = 0 := by omega
 refine Z9 (Za (Za (Zl (sqr 3 rfl (pur 1 rfl (sp rfl (PE.add rfl rfl (by omega)) rfl (pur 1 rfl ?_)))))))
 exact Z6 ⟨(k + 1, kM, kB), by dsimp only; omega, hM.of (fun s => by dsimp only; rw [dT hA0, dT (by omega)]), hB.of (fun s => by dsimp only; rw [dT hA0, dT (by omega)])⟩ idH
 obtain rfl : k = A + 1 := by omega
 refine Z9 (Za (Za (Zl (sqt 1 rfl (pur 1 rfl (Z0 (sqt 2 rfl (pur 2 rfl (Z2 ?_)))))))))
 refine Zb (ι := (x : {x : Nat × List PL // (x.1 = A ∧ x.2 = []) ∨ (x.1 = 0 ∧ 0 < A ∧ ∃ y : PL, x.2 = [y] ∧ y.l = il (Z3J 7 A) ∧ y.l.length ≤ y.c)}) × OSl 47 1 (plrows x.1.2)) (fun x => ⟨[(13, .map (some m73)), (18, x.2.fs), (19, .int .i64 x.1.1.1)], x.2.G ++ ((m73, ZU false kB) :: (m71, ZU false kM) :: (m36, ZU false kv) :: H), Inn x.1.1.2 :: RowsA (some ⟨bn, 0, none⟩) 1 (irows N) :: R⟩) (fun x => x.1.1.1) ⟨⟨(A, []), .inl ⟨rfl, rfl⟩⟩, OSl.nil _ _⟩ ?_ (fun x => ?_)
 exact Zf (fun w h => St.also h (f := Inn []) (fun w9 _ => Z79 w9))
 obtain ⟨⟨⟨k, gl⟩, hgl⟩, o⟩ := x
 dsimp only at hgl o ⊢
 refine Z0 (sqt 2 rfl (pur 2 rfl ?_))
 refine Z1 rfl ?_ ?_ <;> intro hc9 <;> try simp only [cS] at hc9
 obtain ⟨rfl, rfl⟩ := hgl.resolve_right (by omega)
 refine Z3 (Z0 (Z2 (sqr 8 rfl (pur 3 rfl ?_))))
 refine spK rfl rfl rfl ((ZbD (z := (k : Int)) hB k (by rw [ZgI (by omega), dT (by omega)]; rfl))) rfl ?_
 refine cl rfl ZeI rfl rfl (ZbR k hA7 _ _) ?_
 rintro _ _ R1 ⟨o8, rfl, rfl, hR1⟩
 obtain rfl := hR1.symm
 clear hR1
 obtain ⟨al, cl8, he8, hc8, hf8⟩ := o8.freezeC
 rw [irows_len] at hc8
 rw [he8, irows_len]
 refine Sy.heap (fun w h => hf8 h) ?_
 refine bsl (out := [_]) rfl Zil ZfU rfl rfl rfl rfl rfl rfl (fun b139 => ?_)
 refine apO (o) rfl Zi1 rfl rfl (Z1e (row := plrow ⟨al, cl8, il (Z3J 7 k)⟩) rfl) rfl rfl ((by rw [Z0u]; simp only [List.length_singleton, List.length_nil]; omega)) rfl (fun o140 => ?_)
 refine pur 1 rfl (sqr 6 rfl (pur 3 rfl ?_))
 refine spK rfl rfl rfl ((ZbD (z := (k : Int)) hB k (by rw [ZgI (by omega), dT (by omega)]; rfl))) rfl ?_
 refine sp rfl (PE.andNotN (m := k) (n := k) rfl rfl (by omega) (by omega)) rfl ?_
 rw [(sub_zero hA7 (Nat.and_self k)).2 rfl]
 refine pur 1 rfl ?_
 exact Z6 ⟨⟨(0, [⟨al, cl8, il (Z3J 7 k)⟩]), .inr ⟨rfl, by omega, _, rfl, rfl, hc8⟩⟩, o140.cast rfl⟩ (fun w h => St.sub (St.also (h.del b139) (f := Inn [⟨al, cl8, il (Z3J 7 k)⟩]) (fun w9 hw y hy => by rw [List.mem_singleton.1 hy]; exact hw (RowsA al 1 (irows (il (Z3J 7 k)))) (by simp))))
 have hgr : lls gl = ZcV ns ∧ ∀ y ∈ gl, y.l.length ≤ y.c := by
   unfold ZcV
   rw [← hA]
   rcases hgl with ⟨h1, h2⟩ | ⟨h1, h2, y, h3, h4, h5⟩
   · rw [if_pos (by omega), h2]; exact ⟨rfl, fun y hy => by cases hy⟩
   · rw [if_neg (by omega), h3, ← h4]; exact ⟨rfl, fun z hz => by rw [List.mem_singleton.1 hz]; exact h5⟩
 have hgn : gl.length ≤ 1 := by
   rcases hgl with ⟨h1, h2⟩ | ⟨h1, h2, y, h3, h4, h5⟩
   · rw [h2]; exact Nat.zero_le _
   · rw [h3]; exact Nat.le_refl _
 obtain ⟨ag, cg, heg, hfg⟩ := o.freeze
 rw [heg, Z0u]
 refine Sy.heap (fun w h => hfg h) ?_
 refine Z9 (Za (Za (Zl (sqt 2 rfl (pur 1 rfl ?_)))))
 refine clV rfl ZdX rfl rfl (Zbc ag gl.length cg hgn _ _) ?_
 refine sqt 2 rfl (pur 2 rfl (Z4 ?_))
 exact rtA rfl rfl rfl ⟨gl, ag, cg, hgr, rfl, rfl, rfl⟩ (fun w h => St.sub (((h.del m73).del m71).del m36))
end Go.Proofs.YtjoajfdnlomapaaGreat.Lo
