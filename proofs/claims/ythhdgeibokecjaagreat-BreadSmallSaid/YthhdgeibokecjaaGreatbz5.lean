/- Walks of the functions of the program, and the laws that join them: what the last theorem of this claim needs, in order. -/
import Derived.Test.YthhdgeibokecjaaGreatbz4
namespace Go.Proofs.YthhdgeibokecjaaGreat.Bd
set_option linter.unusedSimpArgs false
set_option linter.unusedVariables false
open Go
theorem Z8A : cal Tryz.prog 59 = true := by kernel_rfl
theorem ZbQ : cal Tryz.prog 87 = true := by kernel_rfl
theorem Ze6 : cal Tryz.prog 98 = true := by kernel_rfl
theorem Z5X {t : Twn} {la y : List Int} (h : Rel t la y) {u : Sta} (hu : u.right t = true) : (Zh la)[((ixr t u : Nat) : Int).toNat]? = some [.int .i64 (lat y u)] := by
  rw [Int.toNat_natCast, Zh, List.getElem?_map, Zbt (l := la) (i := ixr t u) (by rw [h.len]; exact ZR hu), h.at_ u hu]; rfl
theorem Z2r (t : Twn) (ht : t.ok) (s : Sta) (hs : s.right t = true) (sl : Value) (la y : List Int) (hrel : Rel t la y) (bl ol cl : Nat) (H : Zj) (R : Z9) [hL : MemRows (some ⟨bl, ol, none⟩) 1 (Zh la) R] :
    FnV Tryz.prog 59 [t.v sl, .slice (some ⟨bl, ol, none⟩) t.nst cl, s.v] H R (.int .i64 (lat y s)) := by
 have hx := ZR hs
 refine Zq Tryz.func59 rfl Tryz.ntmps59 rfl ?_
 refine sqt 3 rfl (bx rfl rfl rfl (fun b3 => bx rfl rfl rfl (fun b5 => pur 1 rfl (sqt 7 rfl (pur 1 rfl (spL rfl rfl (lhA [_, _, _, _, _, _, _, _, _, _, _] Z0c rfl rfl rfl) rfl (spL rfl rfl (lhA [_, _, _] Z0w rfl rfl rfl) rfl ?_)))))))
 refine clV rfl Z3Q rfl rfl (Z0O t ht s hs _ _ _) ?_
 refine sp rfl (PE.indexAddr Z0N rfl rfl (by omega) (by omega)) rfl (spL rfl rfl (lf0 (x := .int .i64 (lat y (s))) sc3 (Z5X hrel hs) rfl) rfl (pur 1 rfl (Z4 ?_)))
 exact rtA rfl rfl rfl ⟨rfl, rfl, rfl⟩ drp
theorem Z11 {t : Twn} (ht : t.ok) {y : List Int} {s : Sta} {q : Rn} {n : Int} (hcan : t.can s q = true) (hn : n ≤ 1000000) : t.keeps y s q n =
    (decide (n ≤ lat y (t.next s q false)) && (decide (n = 0) || (!decide (s.dry < t.run) || (decide (n ≤ lat y (t.next s q true)) || (decide (n < 1000000) && decide (n - 1 ≤ lat y (t.next s q true))))))) := by
  unfold Twn.keeps
  rw [hcan, Bool.true_and, Bool.or_assoc]
  congr 3
  by_cases h : n = 1000000
  · simp [h]
  · simp only [h, decide_false, cond_false]
    have h2 : n < 1000000 := by omega
    simp only [h2, decide_true, Bool.true_and]
    rw [Bool.eq_iff_iff]
    simp
    omega
theorem Z7S (t : Twn) (ht : t.ok) (s : Sta) (hs : s.right t = true) (r : Int) (q : Rn) (h0 : 0 ≤ r) (hq : t.rats[r.toNat]? = some q) (bads : Int) (hb : 0 ≤ bads ∧ bads ≤ 1000000) (ba oa ca : Nat) (la y : List Int) (hrel : Rel t la y) (bl ol cl : Nat) (H : Zj) (R : Z9) [hR : MemRows (some ⟨ba, oa, none⟩) 2 (Zf t.rats) R] [hL : MemRows (some ⟨bl, ol, none⟩) 1 (Zh la) R] :
    FnV Tryz.prog 98 [t.v (t.sl (some ⟨ba, oa, none⟩) ca), .slice (some ⟨bl, ol, none⟩) t.nst cl, s.v, .int .i64 r, .int .i64 bads] H R (.bool (t.keeps y s q bads)) := by
 have hqm := List.mem_of_getElem? hq
 refine Zq Tryz.func98 rfl Tryz.ntmps98 rfl ?_
 refine sqt 3 rfl (bx rfl rfl rfl (fun b5 => bx rfl rfl rfl (fun b7 => pur 1 rfl (Z0 (Z0 ?_)))))
 refine Ze [0, 0, 0, 7, 15, 31, 63, 63, 63, 63, 63, 1855, 4031, 8191, 16383, 63, 65535, 131071] (.ld 0 (.ld 1 (.tk 2 (.big 3 (tks 4 3 (.ld 7 (.ld 8 (.ld 9 (.tk 10 (.tk 15 (.big 11 (.big 12 (.tk 13 (.ld 14 (.tk 16 (.tk 17 .done)))))))))))))))) Zy (by kernel_rfl) ?_
 refine ld rfl rfl (lhA [_, _, _, _, _, _, _, _, _, _, _] Z0c rfl rfl rfl) rfl (ld rfl rfl (lhA [_, _, _] Z0w rfl rfl rfl) rfl (ZD 1 rfl ?_))
 refine clV rfl Zc6 rfl rfl (Z9R t s r q ba oa ca h0 hq _ _) ?_
 refine bgT (ZD 2 rfl ?_)
 refine ZE 17 rfl ?_ ?_ <;> intro g17
 have hcan : t.can s q = false := by simpa using g17
 refine ZD 1 rfl ?_
 repeat refine ldN rfl rfl rfl rfl rfl rfl rfl rfl ?_
 refine ZD 2 rfl ?_
 refine spN rfl rfl rfl rfl rfl rfl rfl rfl ?_
 refine bg (fun w hs => ⟨trivial, trivial, ((fun _ _ => True.intro)) w hs, trivial⟩) ?_
 refine spN rfl rfl rfl rfl rfl rfl rfl rfl ?_
 refine bgT (ZD 1 rfl ?_)
 refine ldN rfl rfl rfl rfl rfl rfl rfl rfl ?_
 refine ZD 2 rfl ?_
 refine Zm rfl ?_
 refine sqt 1 rfl (pur 1 rfl (Z4 ?_))
 exact rtA rfl rfl rfl ⟨congrArg Value.bool (by
     first
       | (simp [Twn.keeps, hcan]; done)
       | (simp [Twn.keeps, hcan]; omega)
       | (rw [Z11 ht hcan hb.2]; simp_all; done)
       | (rw [Z11 ht hcan hb.2]; simp_all; omega)), rfl, rfl⟩ drp
 have hcan : t.can s q = true := by simpa using g17
 have hng := ZB ht hs hqm hcan (bad := false) (by simp)
 refine ZD 1 rfl (ldG rfl rfl rfl rfl rfl (lhA [_, _, _, _, _, _, _, _, _, _, _] Z0c rfl rfl rfl) rfl (ldG rfl rfl rfl rfl rfl (lhA [_, _, _, _, _, _, _, _, _, _, _] Z0c rfl rfl rfl) rfl (ldG rfl rfl rfl rfl rfl (lhA [_, _, _] Z0w rfl rfl rfl) rfl (ZD 2 rfl ?_))))
 refine Z0k rfl rfl rfl rfl Z4M rfl rfl (Z19 t ht s hs r q false ba oa ca h0 hq (Z1z hcan) _ _) ?_
 refine bg (fun w hs => ⟨trivial, trivial, (lhA [_, _, _, _, _, _, _, _, _, _, _] Z0c rfl rfl rfl) w hs, trivial⟩) ?_
 refine Z0k rfl rfl rfl rfl Z3Q rfl rfl (Z0O t ht _ hng _ _ _) ?_
 refine bgT ?_
 refine tkG rfl rfl rfl rfl (PE.indexAddr Z0N rfl rfl (by have := ZR hng; omega) (by have := ZR hng; omega)) rfl ?_
 refine ldG rfl rfl rfl rfl rfl (lf0 (x := .int .i64 (lat y (t.next s q false))) sc3 (Z5X hrel hng) rfl) rfl (ZD 2 rfl ?_)
 refine Z5 rfl ?_ ?_ <;> intro hc0 <;> try simp only [cS] at hc0
 refine sqt 1 rfl (pur 1 rfl (Z4 ?_))
 exact rtA rfl rfl rfl ⟨congrArg Value.bool (by
     first
       | (simp [Twn.keeps, hcan]; done)
       | (simp [Twn.keeps, hcan]; omega)
       | (rw [Z11 ht hcan hb.2]; simp_all; done)
       | (rw [Z11 ht hcan hb.2]; simp_all; omega)), rfl, rfl⟩ drp
 refine Z3 (Z0 (sqt 9 rfl (pur 3 rfl ?_)))
 refine ZE 32 rfl ?_ ?_ <;> intro g32
 try simp only [cS] at g32
 refine pur 6 rfl ?_
 refine Zm rfl ?_
 refine sqt 1 rfl (pur 1 rfl (Z4 ?_))
 exact rtA rfl rfl rfl ⟨congrArg Value.bool (by
     first
       | (simp [Twn.keeps, hcan]; done)
       | (simp [Twn.keeps, hcan]; omega)
       | (rw [Z11 ht hcan hb.2]; simp_all; done)
       | (rw [Z11 ht hcan hb.2]; simp_all; omega)), rfl, rfl⟩ drp
 try simp only [cS] at g32
 refine spG rfl rfl rfl rfl (PE.fA Z2V rfl) rfl ?_
 refine Z03 rfl rfl rfl rfl rfl (lh sc3 rfl rfl) rfl ?_
 refine spG rfl rfl rfl rfl (PE.fA Z36 rfl) rfl ?_
 refine Z03 rfl rfl rfl rfl rfl (lh sc3 rfl rfl) rfl (pur 2 rfl ?_)
 refine Z5 rfl ?_ ?_ <;> intro hc1 <;> try simp only [cS] at hc1
 refine sqt 1 rfl (pur 1 rfl (Z4 ?_))
 exact rtA rfl rfl rfl ⟨congrArg Value.bool (by
     first
       | (simp [Twn.keeps, hcan]; done)
       | (simp [Twn.keeps, hcan]; omega)
       | (rw [Z11 ht hcan hb.2]; simp_all; done)
       | (rw [Z11 ht hcan hb.2]; simp_all; omega)), rfl, rfl⟩ drp
 have hnb := ZB ht hs hqm hcan (bad := true) (fun _ => by omega)
 refine Z3 (Z0 ?_)
 refine Ze [0, 0, 0, 0, 0, 28, 62, 127, 255, 511] (.tk 0 (.ld 1 (.ld 2 (.ld 3 (.tk 4 (.big 5 (.big 6 (.tk 7 (.ld 8 (.tk 9 .done)))))))))) Zy (by kernel_rfl) ?_
 refine ZD 1 rfl (ld rfl rfl (lhA [_, _, _, _, _, _, _, _, _, _, _] Z0c rfl rfl rfl) rfl (ld rfl rfl (lhA [_, _, _, _, _, _, _, _, _, _, _] Z0c rfl rfl rfl) rfl (ld rfl rfl (lhA [_, _, _] Z0w rfl rfl rfl) rfl (ZD 1 rfl ?_))))
 refine clV rfl Z4M rfl rfl (Z19 t ht s hs r q true ba oa ca h0 hq (Z1z hcan) _ _) ?_
 refine bg (fun w hs => ⟨trivial, trivial, (lhA [_, _, _, _, _, _, _, _, _, _, _] Z0c rfl rfl rfl) w hs, trivial⟩) ?_
 refine clV rfl Z3Q rfl rfl (Z0O t ht _ hnb _ _ _) ?_
 refine bgT (tk rfl (PE.indexAddr Z0N rfl rfl (by have := ZR hnb; omega) (by have := ZR hnb; omega)) rfl (ld rfl rfl (lf0 (x := .int .i64 (lat y (t.next s q true))) sc3 (Z5X hrel hnb) rfl) rfl (ZD 1 rfl (sqt 14 rfl (pur 4 rfl ?_)))))
 refine ZE 51 rfl ?_ ?_ <;> intro g51
 try simp only [cS] at g51
 refine pur 3 rfl ?_
 repeat refine spU rfl rfl rfl rfl rfl rfl rfl ?_
 refine pur 3 rfl (Z4 ?_)
 exact rtA rfl rfl rfl ⟨congrArg Value.bool (by
     first
       | (simp [Twn.keeps, hcan]; done)
       | (simp [Twn.keeps, hcan]; omega)
       | (rw [Z11 ht hcan hb.2]; simp_all; done)
       | (rw [Z11 ht hcan hb.2]; simp_all; omega)), rfl, rfl⟩ drp
 try simp only [cS] at g51
 refine pur 3 rfl ?_
 refine ZE 54 rfl ?_ ?_ <;> intro g54
 try simp only [cS] at g54
 refine pur 2 rfl ?_
 refine spG rfl rfl rfl rfl (PE.sub rfl rfl (by omega)) rfl ?_
 refine pur 4 rfl (Z4 ?_)
 exact rtA rfl rfl rfl ⟨congrArg Value.bool (by
     first
       | (simp [Twn.keeps, hcan]; done)
       | (simp [Twn.keeps, hcan]; omega)
       | (rw [Z11 ht hcan hb.2]; simp_all; done)
       | (rw [Z11 ht hcan hb.2]; simp_all; omega)), rfl, rfl⟩ drp
 try simp only [cS] at g54
 refine pur 7 rfl (Z4 ?_)
 exact rtA rfl rfl rfl ⟨congrArg Value.bool (by
     first
       | (simp [Twn.keeps, hcan]; done)
       | (simp [Twn.keeps, hcan]; omega)
       | (rw [Z11 ht hcan hb.2]; simp_all; done)
       | (rw [Z11 ht hcan hb.2]; simp_all; omega)), rfl, rfl⟩ drp
theorem Za3 (t : Twn) (ht : t.ok) (ba oa ca : Nat) (la y : List Int) (hrel : Rel t la y) (bl ol cl : Nat) (hb0 : 0 ≤ lat y t.now ∧ lat y t.now ≤ 1000000) (H : Zj) (R : Z9) [hR : MemRows (some ⟨ba, oa, none⟩) 2 (Zf t.rats) R] [hL : MemRows (some ⟨bl, ol, none⟩) 1 (Zh la) R] :
    Fn Tryz.prog 60 [t.v (t.sl (some ⟨ba, oa, none⟩) ca), .slice (some ⟨bl, ol, none⟩) t.nst cl] H R (fun v H' R' => ∃ o : OSl 3 1 (Zh (Z10 (fun q => t.keeps y t.now q (lat y t.now)) t.rats t.rats.length)), v = o.fs ∧ H' = o.G ++ H ∧ R' = R) := by
 have hlen := ht.many
 refine Zq Tryz.func60 rfl Tryz.ntmps60 rfl ?_
 refine sqt 2 rfl (bx rfl rfl rfl (fun b2 => pur 1 rfl (sqt 1 rfl (pur 1 rfl (Z0 (sqt 1 rfl (pur 1 rfl (Z7 ?_))))))))
 refine Zn (ι := (k : {k : Nat // k ≤ t.rats.length}) × OSl 3 1 (Zh (Z10 (fun q => t.keeps y t.now q (lat y t.now)) t.rats k.1))) (fun x => ⟨[(1, .slice (some ⟨bl, ol, none⟩) t.nst cl), (2, .pointer (some ⟨b2, 0, none⟩)), (5, x.2.fs), (6, .int .i64 x.1.1)], x.2.G ++ (b2, cel 96 (twl t (t.sl (some ⟨ba, oa, none⟩) ca))) :: H, R⟩) (fun x => t.rats.length - x.1.1) ⟨⟨0, by omega⟩, OSl.nil _ _⟩ ?_ (fun x => ?_)
 exact Z06 idH
 obtain ⟨⟨k, hk⟩, o'⟩ := x
 dsimp only at o' ⊢
 refine Z0 (sqt 5 rfl (pur 1 rfl (sp rfl (PE.fA Z0u rfl) rfl (spL rfl rfl (lh Z4q rfl rfl) rfl (sp rfl (PE.lenSl Z8k rfl) rfl (pur 1 rfl ?_))))))
 refine Z5 rfl ?_ ?_ <;> intro hc0 <;> try simp only [cS] at hc0
 obtain ⟨q, hq⟩ : ∃ q, t.rats[k]? = some q := ⟨_, List.getElem?_eq_getElem (by omega)⟩
 refine Z3 (Z0 (Z7 (Z0 ?_)))
 refine Ze [0, 0, 0, 4, 0, 0, 0, 0, 128, 480, 1023] (.ld 0 (.tk 1 (.tk 2 (.ld 3 (.tk 4 (.ld 5 (.tk 6 (.tk 7 (.ld 8 (.big 9 (.big 10 .done))))))))))) Zy (by kernel_rfl) ?_
 refine ld rfl rfl (lhA [_, _, _, _, _, _, _, _, _, _, _] Z0c rfl rfl rfl) rfl (ZD 1 rfl (tk rfl (PE.fA Z1G rfl) rfl (ld rfl rfl (lhA [_, _, _] Z0w rfl rfl rfl) rfl (ZD 1 rfl (ld rfl rfl (lhA [_, _, _, _, _, _, _, _, _, _, _] Z0c rfl rfl rfl) rfl (ZD 1 rfl (tk rfl (PE.fA Z1G rfl) rfl (ld rfl rfl (lhA [_, _, _] Z0w rfl rfl rfl) rfl ?_))))))))
 refine clV rfl Z8A rfl rfl (Z2r t ht t.now ht.now _ la y hrel bl ol cl _ _) ?_
 refine bg (fun w hs => ⟨trivial, trivial, (lhA [_, _, _] Z0w rfl rfl rfl) w hs, (lhA [_, _, _, _, _, _, _, _, _, _, _] Z0c rfl rfl rfl) w hs, trivial⟩) ?_
 refine clV rfl Ze6 rfl rfl (Z7S t ht t.now ht.now k q (by omega) (by simpa using hq) (lat y t.now) hb0 ba oa ca la y hrel bl ol cl _ _) ?_
 refine bgT ?_
 refine Z5 rfl ?_ ?_ <;> intro hc1
 have e := Z0F (p := fun q => t.keeps y t.now q (lat y t.now)) hq
 rw [hc1, cond_true] at e
 refine sqr 5 rfl (pur 2 rfl ?_)
 refine bsl (out := [_]) rfl Z46 zl3 rfl rfl rfl rfl rfl rfl (fun b27 => ?_)
 refine apO (o') rfl Z2T rfl rfl (Z3e (row := [.int .i64 k]) rfl) rfl rfl ((by have := Z1M (fun q => t.keeps y t.now q (lat y t.now)) t.rats k; simp only [Zh, List.length_map, List.length_singleton]; omega)) rfl (fun o28 => ?_)
 refine pur 1 rfl (sqr 3 rfl (pur 1 rfl (sp rfl (PE.add rfl rfl (by omega)) rfl (pur 1 rfl ?_))))
 first
   | exact Z0v ⟨⟨k + 1, by omega⟩, o28.cast (by rw [e]; simp [Zh])⟩ (by dsimp only; omega) (fun w h => h.del b27)
   | exact Z0v ⟨⟨k + 1, by omega⟩, o'.cast (by rw [e])⟩ (by dsimp only; omega) idH
 have e := Z0F (p := fun q => t.keeps y t.now q (lat y t.now)) hq
 rw [hc1, cond_false] at e
 refine Z3 (sqr 3 rfl (pur 1 rfl (sp rfl (PE.add rfl rfl (by omega)) rfl (pur 1 rfl ?_))))
 first
   | exact Z0v ⟨⟨k + 1, by omega⟩, o28.cast (by rw [e]; simp [Zh])⟩ (by dsimp only; omega) (fun w h => h.del b27)
   | exact Z0v ⟨⟨k + 1, by omega⟩, o'.cast (by rw [e])⟩ (by dsimp only; omega) idH
 obtain rfl : k = t.rats.length := by omega
 refine Zk (Zl (Zl (ZH (sqt 2 rfl (pur 2 rfl (Z4 ?_))))))
 exact rtA rfl rfl rfl ⟨o', rfl, rfl, rfl⟩ (fun w h => h.del b2)
theorem Zba (t : Twn) (ht : t.ok) (bads : Int) (sl : Value) (la y : List Int) (hrel : Rel t la y) (bl ol cl : Nat) (H : Zj) (R : Z9) [hL : MemRows (some ⟨bl, ol, none⟩) 1 (Zh la) R] :
    FnV Tryz.prog 61 [t.v sl, .slice (some ⟨bl, ol, none⟩) t.nst cl, .int .i64 bads] H R (.tuple #[.int .i64 ((Z5L t y bads).getD 0), .bool (Z5L t y bads).isSome]) := by
 have h1 := ht.holds
 have hn := right_iff.1 ht.now
 refine Zq Tryz.func61 rfl Tryz.ntmps61 rfl ?_
 refine sqt 3 rfl (bx rfl rfl rfl (fun b3 => pur 2 rfl (Z0 (sqt 1 rfl (pur 1 rfl (Z7 ?_))))))
 refine Zn (ι := {k : Nat // k ≤ t.holds.toNat + 1 ∧ ∀ j : Nat, j < k → ¬ bads ≤ lat y ⟨j, t.now.short, t.now.dry⟩}) (fun k => ⟨[(1, .slice (some ⟨bl, ol, none⟩) t.nst cl), (2, .int .i64 bads), (3, .pointer (some ⟨b3, 0, none⟩)), (8, .int .i64 k.1)], (b3, cel 96 (twl t sl)) :: H, R⟩) (fun k => t.holds.toNat + 1 - k.1) ⟨0, by omega, by omega⟩ ?_ (fun k => ?_)
 exact Z06 idH
 obtain ⟨k, hk, hno⟩ := k
 dsimp only
 refine Z0 (sqt 4 rfl (pur 1 rfl (sp rfl (PE.fA Z3F rfl) rfl (spL rfl rfl (lh sc3 rfl rfl) rfl (pur 1 rfl ?_)))))
 refine Z5 rfl ?_ ?_ <;> intro hc0 <;> try simp only [cS] at hc0
 have hs : Sta.right t ⟨k, t.now.short, t.now.dry⟩ = true := right_iff.2 ⟨⟨by simp, hc0⟩, hn.2⟩
 refine Z3 (Z0 (Z7 (sqt 13 rfl (spL rfl rfl (lhA [_, _, _, _, _, _, _, _, _, _, _] Z0c rfl rfl rfl) rfl (pur 2 rfl (sp rfl (PE.fA Z1G rfl) rfl (sp rfl (PE.fA Z27 rfl) rfl (spL rfl rfl (lh sc3 rfl rfl) rfl (sp rfl (PE.fA Z1G rfl) rfl (sp rfl (PE.fA Z2V rfl) rfl (spL rfl rfl (lh sc3 rfl rfl) rfl (sp rfl (PE.build (out := [_, _, _]) ZcN Z6C rfl rfl) rfl ?_))))))))))))
 refine clV rfl Z8A rfl rfl (Z2r t ht ⟨k, t.now.short, t.now.dry⟩ hs _ la y hrel bl ol cl _ _) ?_
 refine pur 2 rfl ?_
 refine Z5 rfl ?_ ?_ <;> intro hc1 <;> try simp only [cS] at hc1
 have hres := Zaz ht hc0 hc1 hno
 refine sqt 3 rfl (pur 3 rfl (Z4 ?_))
 exact Z2 (vs := [_, _]) rfl (.cons (RV.tmp rfl) (.cons (RV.tmp rfl) .nil)) (by rw [hres]; rfl) ⟨rfl, rfl, rfl⟩ drp
 refine Z3 (sqr 3 rfl (pur 1 rfl (sp rfl (PE.add rfl rfl (by omega)) rfl (pur 1 rfl ?_))))
 exact Zb ⟨k + 1, by omega, fun j hj => by
   rcases Nat.lt_or_ge j k with h1 | h1
   · exact hno j h1
   · obtain rfl : j = k := by omega
     omega⟩ (by dsimp only; omega) (by repeat' first | exact Sub.nil | apply Sub.cons | rfl | (simp [lk]; omega)) idH
 have hres := Z90 ht (y := y) (bads := bads) (fun j hj => hno j (by omega))
 refine Zk (Zl (Zl (ZH (sqt 2 rfl (pur 2 rfl (Z4 ?_))))))
 exact Z2 (vs := [_, _]) rfl (.cons (RV.tmp rfl) (.cons (RV.tmp rfl) .nil)) (by rw [hres]; rfl) ⟨rfl, rfl, rfl⟩ drp
theorem Z94 {t : Twn} {r : Int} (h : (!(decide (0 ≤ r) && decide (r ≤ (t.rats.length : Int) - 1))) = true) : t.rat r = none := Z7C (by rw [← Bool.not_eq_true']; exact h)
theorem Zbs {t : Twn} {r : Int} (h : (!(decide (0 ≤ r) && decide (r ≤ (t.rats.length : Int) - 1))) = false) : 0 ≤ r ∧ ∃ q, t.rats[r.toNat]? = some q := ZbL (by rw [← Bool.not_eq_false']; exact h)
def Z2g (t : Twn) (s : Sta) (r : Int) : Int := match t.rat r with
  | none => 1
  | some q => bif t.can s q then 0 else 9
theorem Z9k (t : Twn) (s : Sta) (r : Int) (ba oa ca : Nat) (hl : t.rats.length ≤ 1000000) (H : Zj) (R : Z9) [hR : MemRows (some ⟨ba, oa, none⟩) 2 (Zf t.rats) R] :
    FnV Tryz.prog 85 [t.v (t.sl (some ⟨ba, oa, none⟩) ca), s.v, .int .i64 r] H R (.int .i64 (Z2g t s r)) := by
 refine Zq Tryz.func85 rfl Tryz.ntmps85 rfl ?_
 refine sqt 3 rfl (bx rfl rfl rfl (fun b3 => bx rfl rfl rfl (fun b4 => pur 1 rfl (Z0 (sqt 6 rfl (pur 1 rfl (sp rfl (PE.fA Z0u rfl) rfl (spL rfl rfl (lh Z4q rfl rfl) rfl (sp rfl (PE.lenSl Z8k rfl) rfl (sp rfl (PE.sub rfl rfl (by omega)) rfl ?_))))))))))
 refine clV rfl Z1R rfl rfl (Z1S _ _ _ _ _) ?_
 refine Z5 rfl ?_ ?_ <;> intro hc0
 have hres : Z2g t s r = 1 := by unfold Z2g; rw [Z94 hc0]
 refine sqt 1 rfl (pur 1 rfl (Z4 ?_))
 exact rtA rfl rfl rfl ⟨congrArg (Value.int .i64) hres.symm, rfl, rfl⟩ drp
 obtain ⟨h0, q, hq⟩ := Zbs hc0
 have hrt := rat_iff.2 ⟨h0, hq⟩
 refine Z3 (Z0 (sqt 5 rfl (spL rfl rfl (lhA [_, _, _, _, _, _, _, _, _, _, _] Z0c rfl rfl rfl) rfl (spL rfl rfl (lhA [_, _, _] Z0w rfl rfl rfl) rfl (pur 1 rfl ?_)))))
 refine clV rfl Zc6 rfl rfl (Z9R t s r q ba oa ca h0 hq _ _) ?_
 refine pur 1 rfl ?_
 refine Z5 rfl ?_ ?_ <;> intro hc1
 have hres : Z2g t s r = 9 := by unfold Z2g; rw [hrt]; simp at hc1; simp [hc1]
 refine sqt 1 rfl (pur 1 rfl (Z4 ?_))
 exact rtA rfl rfl rfl ⟨congrArg (Value.int .i64) hres.symm, rfl, rfl⟩ drp
 have hres : Z2g t s r = 0 := by unfold Z2g; rw [hrt]; simp at hc1; simp [hc1]
 refine Z3 (sqt 1 rfl (pur 1 rfl (Z4 ?_)))
 exact rtA rfl rfl rfl ⟨congrArg (Value.int .i64) hres.symm, rfl, rfl⟩ drp
def StQ (t : Twn) (s : Sta) (sl : Value) (H : Zj) (R : Z9) : Value → Zj → Z9 → Prop := fun v H' R' =>
  (t.check ≠ 0 ∧ v = .tuple #[.pointer none, .int .i64 t.check] ∧ H' = H ∧ R' = R) ∨
  (t.check = 0 ∧ s.right t = false ∧ v = .tuple #[.pointer none, .int .i64 3] ∧ H' = H ∧ R' = R) ∨
  (t.check = 0 ∧ s.right t = true ∧ ∃ bw m bt, v = .tuple #[.pointer (some ⟨bw, 0, none⟩), .int .i64 0] ∧ H' = (bw, cel 62 (rcs t sl bt (List.replicate 496 0) (.slice none 0 0) m)) :: (m, Z1j true []) :: H ∧ R' = RowsA (some ⟨bt, 0, none⟩) 11 [twl t sl] :: R)
theorem Z77 (t : Twn) (s : Sta) (hl : t.rats.length ≤ 9223372036854775807) (ba oa ca : Nat) (H : Zj) (R : Z9) [hR : MemRows (some ⟨ba, oa, none⟩) 2 (Zf t.rats) R] :
    Fn Tryz.prog 87 [t.v (t.sl (some ⟨ba, oa, none⟩) ca), s.v] H R (StQ t s (t.sl (some ⟨ba, oa, none⟩) ca) H R) := by
 refine Zq Tryz.func87 rfl Tryz.ntmps87 rfl ?_
 refine sqt 4 rfl (bx rfl rfl rfl (fun b2 => bx rfl rfl rfl (fun b3 => pur 2 rfl (sqt 7 rfl (spL rfl rfl (lhA [_, _, _, _, _, _, _, _, _, _, _] Zd rfl rfl rfl) rfl ?_)))))
 refine cl rfl Z5w rfl rfl (Z1A t hl ba oa ca _ _) ?_
 rintro _ _ _ (⟨hck, rfl, rfl, rfl⟩ | ⟨hck, bw, m, bt, rfl, rfl, rfl⟩)
 refine pur 5 rfl (Z0 (Z7 (sqt 3 rfl (pur 3 rfl ?_))))
 refine Zm (congrArg (fun b => some (Value.bool b)) (dT hck)) ?_
 refine sqt 3 rfl (pur 3 rfl (Z4 ?_))
 exact rtB rfl rfl rfl rfl (.inl ⟨hck, rfl, rfl, rfl⟩) drp
 refine pur 5 rfl (Z0 (Z7 (sqt 3 rfl (pur 3 rfl ?_))))
 refine Zz (rfl) ?_
 refine sqt 5 rfl (spL rfl rfl (lhA [_, _, _, _, _, _, _, _, _, _, _] Zd rfl rfl rfl) rfl (spL rfl rfl (lhA [_, _, _] ZF rfl rfl rfl) rfl ?_))
 refine clV rfl ZaF rfl rfl (Z5F t s _ _ _) ?_
 refine pur 2 rfl ?_
 refine Z5 rfl ?_ ?_ <;> intro hc1
 have hrt : s.right t = false := by rw [← Bool.not_eq_true']; exact hc1
 refine sqt 2 rfl (pur 2 rfl (Z4 ?_))
 first
   | exact rtB rfl rfl rfl rfl (.inr (.inl ⟨hck, hrt, rfl, rfl, rfl⟩)) (fun w h => ((((h.del b2).del b3).del bw).del m).ftail)
   | exact rtB rfl rfl rfl rfl (.inr (.inr ⟨hck, hrt, bw, m, bt, rfl, rfl, rfl⟩)) (fun w h => (h.del b2).del b3)
 have hrt : s.right t = true := by rw [← Bool.not_eq_false']; exact hc1
 refine Z3 (sqt 3 rfl (pur 3 rfl (Z4 ?_)))
 first
   | exact rtB rfl rfl rfl rfl (.inr (.inl ⟨hck, hrt, rfl, rfl, rfl⟩)) (fun w h => ((((h.del b2).del b3).del bw).del m).ftail)
   | exact rtB rfl rfl rfl rfl (.inr (.inr ⟨hck, hrt, bw, m, bt, rfl, rfl, rfl⟩)) (fun w h => (h.del b2).del b3)
theorem Zd0 (t : Twn) (s : Sta) (hl : t.rats.length ≤ 9223372036854775807) (ba oa ca : Nat) (H : Zj) (R : Z9) [hR : MemRows (some ⟨ba, oa, none⟩) 2 (Zf t.rats) R] :
    FnV Tryz.prog 62 [t.v (t.sl (some ⟨ba, oa, none⟩) ca), s.v] H R (.tuple #[.int .i64 (Z1l t s).1, .int .i64 (Z1l t s).2]) := by
 refine Zq Tryz.func62 rfl Tryz.ntmps62 rfl ?_
 refine sqt 4 rfl (bx rfl rfl rfl (fun b2 => bx rfl rfl rfl (fun b3 => pur 2 rfl (Z0 (sqt 8 rfl (spL rfl rfl (lhA [_, _, _, _, _, _, _, _, _, _, _] Zd rfl rfl rfl) rfl (spL rfl rfl (lhA [_, _, _] ZF rfl rfl rfl) rfl ?_)))))))
 refine cl rfl ZbQ rfl rfl (Z77 t s hl ba oa ca _ _) ?_
 rintro _ _ _ (⟨hck, rfl, rfl, rfl⟩ | ⟨hck, hrt, rfl, rfl, rfl⟩ | ⟨hck, hrt, bw0, m0, bt0, rfl, rfl, rfl⟩)
 refine pur 5 rfl (sqt 2 rfl (pur 2 rfl ?_))
 refine Zm (congrArg (fun b => some (Value.bool b)) (dT hck)) ?_
 refine sqt 3 rfl (pur 3 rfl (Z4 ?_))
 exact Z2 (vs := [_, _]) rfl (.cons (RV.tmp rfl) (.cons (RV.tmp rfl) .nil)) (by rw [show Z1l t s = (0, t.check) from by simp [Z1l, hck]]; rfl) ⟨rfl, rfl, rfl⟩ drp
 refine pur 5 rfl (sqt 2 rfl (pur 2 rfl ?_))
 refine Zm (rfl) ?_
 refine sqt 3 rfl (pur 3 rfl (Z4 ?_))
 exact Z2 (vs := [_, _]) rfl (.cons (RV.tmp rfl) (.cons (RV.tmp rfl) .nil)) (by rw [show Z1l t s = (0, 3) from by simp [Z1l, hck, hrt]]; rfl) ⟨rfl, rfl, rfl⟩ drp
 refine pur 5 rfl (sqt 2 rfl (pur 2 rfl ?_))
 refine Zz (rfl) ?_
 refine Z3 (sqt 7 rfl ?_)
 refine Sy.heap (fun w h => ((h.del bw0).del m0).ftail) ?_
 refine spL rfl rfl (lhA [_, _, _, _, _, _, _, _, _, _, _] Zd rfl rfl rfl) rfl ?_
 refine cl rfl Z6A rfl rfl (Z2w t hl ba oa ca _ _) ?_
 rintro _ _ _ (⟨hck2, _, _, _⟩ | ⟨hck2, bw, m, bt, σ, o, hσ, rfl, rfl, rfl⟩)
 · exact absurd hck hck2
 have hok := (Zi hck).1
 have hlv := (Z0P hok hσ).same hok s hrt
 refine pur 5 rfl (Z0 ?_)
 refine Ze [0, 1, 3, 0, 15, 0, 31, 127] (tks 0 3 (.ld 3 (.tk 5 (.big 4 (.tk 6 (.tk 7 .done)))))) Zy (by kernel_rfl) ?_
 refine ZD 1 rfl (tk rfl (PE.nilCheck rfl) rfl (tk rfl (PE.fA Z0G rfl) rfl (ld rfl rfl (lhA [_, _, _] ZF rfl rfl rfl) rfl (ZD 1 rfl ?_))))
 refine clV rfl Z3t rfl rfl (Z8C t hok s hrt ba oa ca bt bw m σ.y o.fs (Z2l hok hσ) _ _) ?_
 refine bgT (ZD 2 rfl (Z4 ?_))
 exact Z2 (vs := [_, _]) rfl (.cons (RV.tmp rfl) (.cons (RV.tmp rfl) .nil)) (by rw [show Z1l t s = (lat σ.y s, 0) from by simp [Z1l, hck, hrt, hlv]]; rfl) ⟨rfl, rfl, rfl⟩ (fun w h => (((((h.del b2).del b3).del bw).del m).ftail).drop)
def Z8B (t : Twn) : Bool := decide ((7 : Int) < t.rats.length) || (decide (t.check = 0) && decide (200 < (t.holds + 1) * (t.patience + 1) * (t.run + 1)))
theorem Z5y {t : Twn} (h : Z8B t = false) : t.rats.length ≤ 7 := by
  unfold Z8B at h
  simp at h
  omega
theorem Z9F (t : Twn) (a : Option Addr) (c : Nat) (hl : t.rats.length ≤ 9223372036854775807) (H : Zj) (R : Z9) [hR : MemRows a 2 (Zf t.rats) R] :
    FnV Tryz.prog 57 [t.v (t.sl a c)] H R (.bool (Z8B t)) := by
 refine Zq Tryz.func57 rfl Tryz.ntmps57 rfl ?_
 refine sqt 2 rfl (bx rfl rfl rfl (fun b1 => pur 1 rfl (sqt 23 rfl (spL rfl rfl (lhA [_, _, _, _, _, _, _, _, _, _, _] Zd rfl rfl rfl) rfl ?_))))
 refine clV rfl Zax rfl rfl (Z5B t a c hl _ _) ?_
 refine pur 1 rfl ?_
 refine ZE 5 rfl ?_ ?_ <;> intro g5
 refine pur 5 rfl ?_
 repeat refine spU rfl rfl rfl rfl rfl rfl rfl ?_
 refine pur 3 rfl (Z4 ?_)
 exact rtA rfl rfl rfl ⟨congrArg Value.bool (by
     unfold Z8B
     first
       | (rw [g5]; rfl)
       | (rw [dF (show ¬ (7 : Int) < t.rats.length by omega), decide_eq_true g10]; rfl)
       | (rw [dF (show ¬ (7 : Int) < t.rats.length by omega), decide_eq_false g10]; rfl)), rfl, rfl⟩ drp
 try simp only [cS] at g5
 refine Z03 rfl rfl rfl rfl rfl (lhA [_, _, _, _, _, _, _, _, _, _, _] Zd rfl rfl rfl) rfl ?_
 refine clG rfl rfl rfl rfl ZA rfl rfl (Za t a c (by omega) _ _) ?_
 rintro _ _ _ ⟨ax, cx, rfl, rfl, rfl⟩
 refine Z0k rfl rfl rfl rfl Z7h rfl rfl (Z1X t ax cx (by omega) _ _) ?_
 refine pur 2 rfl ?_
 refine ZE 10 rfl ?_ ?_ <;> intro g10
 try simp only [cS] at g10
 have hok := (Zi g10).1
 have h1 := hok.holds
 have h4 := hok.run
 have h5 := hok.patience
 have m1 := Z99 (a := t.holds + 1) (b := t.patience + 1) (A := 31) (B := 4) (by omega) (by omega) (by omega) (by omega)
 have m2 := Z99 (a := (t.holds + 1) * (t.patience + 1)) (b := t.run + 1) (A := 124) (B := 4) (by omega) (by omega) (by omega) (by omega)
 refine spG rfl rfl rfl rfl (PE.fA Z1N rfl) rfl ?_
 refine Z03 rfl rfl rfl rfl rfl (lh sc3 rfl rfl) rfl ?_
 refine spG rfl rfl rfl rfl (PE.add rfl rfl (by omega)) rfl ?_
 refine spG rfl rfl rfl rfl (PE.fA Z22 rfl) rfl ?_
 refine Z03 rfl rfl rfl rfl rfl (lh sc3 rfl rfl) rfl ?_
 refine spG rfl rfl rfl rfl (PE.add rfl rfl (by omega)) rfl ?_
 refine spG rfl rfl rfl rfl (PE.mul rfl rfl (by omega)) rfl ?_
 refine spG rfl rfl rfl rfl (PE.fA Z25 rfl) rfl ?_
 refine Z03 rfl rfl rfl rfl rfl (lh sc3 rfl rfl) rfl ?_
 refine spG rfl rfl rfl rfl (PE.add rfl rfl (by omega)) rfl ?_
 refine spG rfl rfl rfl rfl (PE.mul rfl rfl (by omega)) rfl ?_
 refine pur 4 rfl (Z4 ?_)
 exact rtA rfl rfl rfl ⟨congrArg Value.bool (by
     unfold Z8B
     first
       | (rw [g5]; rfl)
       | (rw [dF (show ¬ (7 : Int) < t.rats.length by omega), decide_eq_true g10]; rfl)
       | (rw [dF (show ¬ (7 : Int) < t.rats.length by omega), decide_eq_false g10]; rfl)), rfl, rfl⟩ drp
 try simp only [cS] at g10
 refine pur 15 rfl (Z4 ?_)
 exact rtA rfl rfl rfl ⟨congrArg Value.bool (by
     unfold Z8B
     first
       | (rw [g5]; rfl)
       | (rw [dF (show ¬ (7 : Int) < t.rats.length by omega), decide_eq_true g10]; rfl)
       | (rw [dF (show ¬ (7 : Int) < t.rats.length by omega), decide_eq_false g10]; rfl)), rfl, rfl⟩ drp
theorem Z9l (t : Twn) (hl : t.rats.length ≤ 9223372036854775807) (ba oa ca : Nat) (H : Zj) (R : Z9) [hR : MemRows (some ⟨ba, oa, none⟩) 2 (Zf t.rats) R] : Fn Tryz.prog 31 [t.v (t.sl (some ⟨ba, oa, none⟩) ca)] H R (fun v H' R' => ∃ o : OSl 3 1 (Zh (Z2C t).1), v = .tuple #[o.fs, .int .i64 (Z2C t).2] ∧ H' = o.G ++ H ∧ R' = R) := by
  refine Fn.mono (Z87 t hl ba oa ca H R) ?_
  rintro v H' R' ⟨⟨hck, rfl, rfl⟩ | ⟨hck, σ, hσ, ⟨h1, rfl, rfl⟩ | ⟨h1, o, rfl, rfl⟩⟩, rfl⟩
  · have e : Z2C t = ([], t.check) := by simp [Z2C, hck]
    rw [e]; exact ⟨OSl.nil _ _, rfl, rfl, rfl⟩
  · rw [Zdy hck hσ h1]; exact ⟨OSl.nil _ _, rfl, rfl, rfl⟩
  · rw [Zfe hck hσ h1]; exact ⟨o, rfl, rfl, rfl⟩
theorem Zcm : cal Tryz.prog 57 = true := by kernel_rfl
theorem Zc4 : cal Tryz.prog 58 = true := by kernel_rfl
theorem ZeK : cal Tryz.prog 60 = true := by kernel_rfl
theorem Zey : cal Tryz.prog 61 = true := by kernel_rfl
theorem Zfk : cal Tryz.prog 62 = true := by kernel_rfl
theorem St.norows {sz : Nat} {H : Zj} {R : Z9} {w : World} (h : St H R w) : St H (RowsA none sz [] :: R) w := St.also h (fun _ _ i row hi => by simp at hi)
theorem Zcd {t : Twn} (h : t.check = 0) (hn : lat (LY t) t.now ≠ -1) : Z2C t = (Z10 (fun q => t.keeps (LY t) t.now q (lat (LY t) t.now)) t.rats t.rats.length, 0) := by simp [Z2C, h, hn]
theorem Zb7 {t : Twn} (h : t.check = 0) (hn : lat (LY t) t.now = -1) : Z2C t = ([], 6) := by simp [Z2C, h, hn]
theorem Zco (t : Twn) : (Z2C t).1.length ≤ t.rats.length := by
  unfold Z2C
  cases decide (t.check ≠ 0) with
  | true => simp
  | false => cases decide (lat (LY t) t.now = -1) with
    | true => simp
    | false => exact Z1M _ _ _
theorem Z6D (t : Twn) (a : Option Addr) (c : Nat) (hl : t.rats.length ≤ 9223372036854775807) (s : Sta) (bads : Int) (H : Zj) (R : Z9) [hR : MemRows a 2 (Zf t.rats) R] :
    Fn Tryz.prog 19 [t.v (t.sl a c), s.v, .int .i64 bads] H R (fun v H' R' => v = .bool true ∧ H' = H ∧ R' = R) := by
  refine Zq Tryz.func19 rfl Tryz.ntmps19 rfl ?_
  refine Z0 ?_
  refine Z1 [0, 1, 2] rfl ?_
  refine bx rfl rfl rfl (fun b3 => ?_)
  refine bx rfl rfl rfl (fun b4 => ?_)
  refine sp rfl (PE.assign rfl) rfl ?_
  refine Z0 ?_
  refine Z0 ?_
  refine Z1 [0, 1] rfl ?_
  refine spL rfl rfl (lhA [_, _, _, _, _, _, _, _, _, _, _] Zd rfl rfl rfl) rfl ?_
  refine clV rfl Zcm rfl rfl (Z9F t a c (by omega) _ _) ?_
  refine Z5 rfl (fun hc0 => ?_) (fun hc0 => ?_)
  ·
   try simp only [decide_eq_true_eq, decide_eq_false_iff_not, Bool.and_eq_true, Bool.or_eq_true, Bool.not_eq_true', Int.not_le, Int.not_lt] at hc0
   refine Z0 ?_
   refine Z1 [0, 1] rfl ?_
   refine clV rfl Z1f rfl rfl (Z00 _ _) ?_
   refine sp rfl (PE.assign rfl) rfl ?_
   refine Z4 ?_
   exact Z2 (vs := [_]) rfl (.cons (RV.tmp rfl) .nil) rfl ⟨rfl, rfl, rfl⟩ drp
  ·
   have h7 := Z5y hc0
   have hcl := Zco t
   refine Z3 ?_
   refine Z0 ?_
   refine Z2q (ι := (Nat × Nat × Option Addr × Nat) × Nat × Nat) (fun z => ⟨[(2, .int .i64 bads), (3, .pointer (some ⟨b3, 0, none⟩)), (4, .pointer (some ⟨b4, 0, none⟩)), (7, .pointer (some ⟨z.2.1, 0, none⟩)), (8, .pointer (some ⟨z.2.2, 0, none⟩))],
     (z.2.1, cel 27 (twl t (t.sl (some ⟨z.1.1, 0, none⟩) z.1.2.1))) :: (z.2.2, cel 96 (twl t (t.sl z.1.2.2.1 z.1.2.2.2))) :: (b4, cel 24 [.int .i64 s.stock, .int .i64 s.short, .int .i64 s.dry]) :: (b3, cel 27 (twl t (t.sl a c))) :: H, RowsA z.1.2.2.1 2 (Zf t.rats) :: RowsA (some ⟨z.1.1, 0, none⟩) 2 (Zf t.rats) :: R⟩) ?_ ?_
   ·
    refine Ze [0, 1, 0, 7, 0, 0, 63, 127] (.ld 0 (.ld 2 (.any (.alt 1 (.any (.alt 3 (.any (.alt 4 (.big 5 (.big 6 (.big 7 .done))) (.alt 5 (.big 4 (.big 6 (.big 7 .done))) .stop))) (.alt 4 (.any (.alt 3 (.big 5 (.big 6 (.big 7 .done))) (.alt 5 (.big 3 (.big 6 (.big 7 .done))) .stop))) (.alt 5 (.any (.alt 3 (.big 4 (.big 6 (.big 7 .done))) (.alt 4 (.big 3 (.big 6 (.big 7 .done))) .stop))) .stop)))) (.alt 4 (.any (.alt 1 (.any (.alt 3 (.big 5 (.big 6 (.big 7 .done))) (.alt 5 (.big 3 (.big 6 (.big 7 .done))) .stop))) (.alt 5 (.big 1 (.big 3 (.big 6 (.big 7 .done)))) .stop))) (.alt 5 (.any (.alt 1 (.any (.alt 3 (.big 4 (.big 6 (.big 7 .done))) (.alt 4 (.big 3 (.big 6 (.big 7 .done))) .stop))) (.alt 4 (.big 1 (.big 3 (.big 6 (.big 7 .done)))) .stop))) .stop)))))) Zy (by kernel_rfl) ?_
    refine ld rfl rfl (lhA [_, _, _, _, _, _, _, _, _, _, _] Zd rfl rfl rfl) rfl ?_
    refine ld rfl rfl (lhA [_, _, _, _, _, _, _, _, _, _, _] Zd rfl rfl rfl) rfl ?_
    refine Z8 ?_ ?_
    ·
     refine cl rfl Z0R rfl rfl (Z0Q t a c (by omega) _ _) ?_
     rintro _ _ _ ⟨bo, co, rfl, rfl, rfl⟩
     refine bg (fun w hs => ⟨(lhA [_, _, _, _, _, _, _, _, _, _, _] Zd rfl rfl rfl) w hs, trivial, trivial⟩) ?_
     refine Z8 ?_ ?_
     ·
      refine cl rfl ZA rfl rfl (Za t a c (by omega) _ _) ?_
      rintro _ _ _ ⟨ax, cx, rfl, rfl, rfl⟩
      refine bg (fun w hs => ⟨trivial, trivial⟩) ?_
      refine Z8 ?_ ?_
      ·
       refine alc rfl Z04 rfl (fun b7 => ?_)
       refine bg (fun w hs => trivial) ?_
       refine alc rfl Z0m rfl (fun b8 => ?_)
       refine bg (fun w hs => trivial) ?_
       refine sto rfl rfl rfl ZO rfl rfl rfl rfl ?_
       refine bg (fun w hs => trivial) ?_
       refine sto rfl rfl rfl ZU rfl rfl rfl rfl ?_
       refine bg (fun w hs => trivial) ?_
       exact Z6 ((bo, co, ax, cx), b7, b8) (by repeat' first | exact Sub.nil | apply Sub.cons | rfl | (simp [lk]; omega)) (fun _ h => St.sub ((((h.pull b3).pull b4).pull b8).pull b7))
      refine Z8 ?_ ?_
      ·
       refine alc rfl Z0m rfl (fun b8 => ?_)
       refine bg (fun w hs => trivial) ?_
       refine alc rfl Z04 rfl (fun b7 => ?_)
       refine bg (fun w hs => trivial) ?_
       refine sto rfl rfl rfl ZO rfl rfl rfl rfl ?_
       refine bg (fun w hs => trivial) ?_
       refine sto rfl rfl rfl ZU rfl rfl rfl rfl ?_
       refine bg (fun w hs => trivial) ?_
       exact Z6 ((bo, co, ax, cx), b7, b8) (by repeat' first | exact Sub.nil | apply Sub.cons | rfl | (simp [lk]; omega)) (fun _ h => St.sub ((((h.pull b3).pull b4).pull b8).pull b7))
      exact Zc
     refine Z8 ?_ ?_
     ·
      refine alc rfl Z04 rfl (fun b7 => ?_)
      refine bg (fun w hs => ⟨(lhA [_, _, _, _, _, _, _, _, _, _, _] Zd rfl rfl rfl) w hs, trivial⟩) ?_
      refine Z8 ?_ ?_
      ·
       refine cl rfl ZA rfl rfl (Za t a c (by omega) _ _) ?_
       rintro _ _ _ ⟨ax, cx, rfl, rfl, rfl⟩
       refine bg (fun w hs => ⟨trivial, trivial⟩) ?_
       refine alc rfl Z0m rfl (fun b8 => ?_)
       refine bg (fun w hs => trivial) ?_
       refine sto rfl rfl rfl ZO rfl rfl rfl rfl ?_
       refine bg (fun w hs => trivial) ?_
       refine sto rfl rfl rfl ZU rfl rfl rfl rfl ?_
       refine bg (fun w hs => trivial) ?_
       exact Z6 ((bo, co, ax, cx), b7, b8) (by repeat' first | exact Sub.nil | apply Sub.cons | rfl | (simp [lk]; omega)) (fun _ h => St.sub ((((h.pull b3).pull b4).pull b8).pull b7))
      refine Z8 ?_ ?_
      ·
       refine alc rfl Z0m rfl (fun b8 => ?_)
       refine bg (fun w hs => ⟨(lhA [_, _, _, _, _, _, _, _, _, _, _] Zd rfl rfl rfl) w hs, trivial⟩) ?_
       refine cl rfl ZA rfl rfl (Za t a c (by omega) _ _) ?_
       rintro _ _ _ ⟨ax, cx, rfl, rfl, rfl⟩
       refine bg (fun w hs => ⟨trivial, trivial⟩) ?_
       refine sto rfl rfl rfl ZO rfl rfl rfl rfl ?_
       refine bg (fun w hs => trivial) ?_
       refine sto rfl rfl rfl ZU rfl rfl rfl rfl ?_
       refine bg (fun w hs => trivial) ?_
       exact Z6 ((bo, co, ax, cx), b7, b8) (by repeat' first | exact Sub.nil | apply Sub.cons | rfl | (simp [lk]; omega)) (fun _ h => St.sub ((((h.pull b3).pull b4).pull b8).pull b7))
      exact Zc
     refine Z8 ?_ ?_
     ·
      refine alc rfl Z0m rfl (fun b8 => ?_)
      refine bg (fun w hs => ⟨(lhA [_, _, _, _, _, _, _, _, _, _, _] Zd rfl rfl rfl) w hs, trivial⟩) ?_
      refine Z8 ?_ ?_
      ·
       refine cl rfl ZA rfl rfl (Za t a c (by omega) _ _) ?_
       rintro _ _ _ ⟨ax, cx, rfl, rfl, rfl⟩
       refine bg (fun w hs => ⟨trivial, trivial⟩) ?_
       refine alc rfl Z04 rfl (fun b7 => ?_)
       refine bg (fun w hs => trivial) ?_
       refine sto rfl rfl rfl ZO rfl rfl rfl rfl ?_
       refine bg (fun w hs => trivial) ?_
       refine sto rfl rfl rfl ZU rfl rfl rfl rfl ?_
       refine bg (fun w hs => trivial) ?_
       exact Z6 ((bo, co, ax, cx), b7, b8) (by repeat' first | exact Sub.nil | apply Sub.cons | rfl | (simp [lk]; omega)) (fun _ h => St.sub ((((h.pull b3).pull b4).pull b8).pull b7))
      refine Z8 ?_ ?_
      ·
       refine alc rfl Z04 rfl (fun b7 => ?_)
       refine bg (fun w hs => ⟨(lhA [_, _, _, _, _, _, _, _, _, _, _] Zd rfl rfl rfl) w hs, trivial⟩) ?_
       refine cl rfl ZA rfl rfl (Za t a c (by omega) _ _) ?_
       rintro _ _ _ ⟨ax, cx, rfl, rfl, rfl⟩
       refine bg (fun w hs => ⟨trivial, trivial⟩) ?_
       refine sto rfl rfl rfl ZO rfl rfl rfl rfl ?_
       refine bg (fun w hs => trivial) ?_
       refine sto rfl rfl rfl ZU rfl rfl rfl rfl ?_
       refine bg (fun w hs => trivial) ?_
       exact Z6 ((bo, co, ax, cx), b7, b8) (by repeat' first | exact Sub.nil | apply Sub.cons | rfl | (simp [lk]; omega)) (fun _ h => St.sub ((((h.pull b3).pull b4).pull b8).pull b7))
      exact Zc
     exact Zc
    refine Z8 ?_ ?_
    ·
     refine alc rfl Z04 rfl (fun b7 => ?_)
     refine bg (fun w hs => ⟨(lhA [_, _, _, _, _, _, _, _, _, _, _] Zd rfl rfl rfl) w hs, (lhA [_, _, _, _, _, _, _, _, _, _, _] Zd rfl rfl rfl) w hs, trivial⟩) ?_
     refine Z8 ?_ ?_
     ·
      refine cl rfl Z0R rfl rfl (Z0Q t a c (by omega) _ _) ?_
      rintro _ _ _ ⟨bo, co, rfl, rfl, rfl⟩
      refine bg (fun w hs => ⟨(lhA [_, _, _, _, _, _, _, _, _, _, _] Zd rfl rfl rfl) w hs, trivial, trivial⟩) ?_
      refine Z8 ?_ ?_
      ·
       refine cl rfl ZA rfl rfl (Za t a c (by omega) _ _) ?_
       rintro _ _ _ ⟨ax, cx, rfl, rfl, rfl⟩
       refine bg (fun w hs => ⟨trivial, trivial⟩) ?_
       refine alc rfl Z0m rfl (fun b8 => ?_)
       refine bg (fun w hs => trivial) ?_
       refine sto rfl rfl rfl ZO rfl rfl rfl rfl ?_
       refine bg (fun w hs => trivial) ?_
       refine sto rfl rfl rfl ZU rfl rfl rfl rfl ?_
       refine bg (fun w hs => trivial) ?_
       exact Z6 ((bo, co, ax, cx), b7, b8) (by repeat' first | exact Sub.nil | apply Sub.cons | rfl | (simp [lk]; omega)) (fun _ h => St.sub ((((h.pull b3).pull b4).pull b8).pull b7))
      refine Z8 ?_ ?_
      ·
       refine alc rfl Z0m rfl (fun b8 => ?_)
       refine bg (fun w hs => ⟨(lhA [_, _, _, _, _, _, _, _, _, _, _] Zd rfl rfl rfl) w hs, trivial⟩) ?_
       refine cl rfl ZA rfl rfl (Za t a c (by omega) _ _) ?_
       rintro _ _ _ ⟨ax, cx, rfl, rfl, rfl⟩
       refine bg (fun w hs => ⟨trivial, trivial⟩) ?_
       refine sto rfl rfl rfl ZO rfl rfl rfl rfl ?_
       refine bg (fun w hs => trivial) ?_
       refine sto rfl rfl rfl ZU rfl rfl rfl rfl ?_
       refine bg (fun w hs => trivial) ?_
       exact Z6 ((bo, co, ax, cx), b7, b8) (by repeat' first | exact Sub.nil | apply Sub.cons | rfl | (simp [lk]; omega)) (fun _ h => St.sub ((((h.pull b3).pull b4).pull b8).pull b7))
      exact Zc
     refine Z8 ?_ ?_
     ·
      refine alc rfl Z0m rfl (fun b8 => ?_)
      refine bg (fun w hs => ⟨(lhA [_, _, _, _, _, _, _, _, _, _, _] Zd rfl rfl rfl) w hs, (lhA [_, _, _, _, _, _, _, _, _, _, _] Zd rfl rfl rfl) w hs, trivial⟩) ?_
      refine cl rfl Z0R rfl rfl (Z0Q t a c (by omega) _ _) ?_
      rintro _ _ _ ⟨bo, co, rfl, rfl, rfl⟩
      refine bg (fun w hs => ⟨(lhA [_, _, _, _, _, _, _, _, _, _, _] Zd rfl rfl rfl) w hs, trivial, trivial⟩) ?_
      refine cl rfl ZA rfl rfl (Za t a c (by omega) _ _) ?_
      rintro _ _ _ ⟨ax, cx, rfl, rfl, rfl⟩
      refine bg (fun w hs => ⟨trivial, trivial⟩) ?_
      refine sto rfl rfl rfl ZO rfl rfl rfl rfl ?_
      refine bg (fun w hs => trivial) ?_
      refine sto rfl rfl rfl ZU rfl rfl rfl rfl ?_
      refine bg (fun w hs => trivial) ?_
      exact Z6 ((bo, co, ax, cx), b7, b8) (by repeat' first | exact Sub.nil | apply Sub.cons | rfl | (simp [lk]; omega)) (fun _ h => St.sub ((((h.pull b3).pull b4).pull b8).pull b7))
     exact Zc
    refine Z8 ?_ ?_
    ·
     refine alc rfl Z0m rfl (fun b8 => ?_)
     refine bg (fun w hs => ⟨(lhA [_, _, _, _, _, _, _, _, _, _, _] Zd rfl rfl rfl) w hs, (lhA [_, _, _, _, _, _, _, _, _, _, _] Zd rfl rfl rfl) w hs, trivial⟩) ?_
     refine Z8 ?_ ?_
     ·
      refine cl rfl Z0R rfl rfl (Z0Q t a c (by omega) _ _) ?_
      rintro _ _ _ ⟨bo, co, rfl, rfl, rfl⟩
      refine bg (fun w hs => ⟨(lhA [_, _, _, _, _, _, _, _, _, _, _] Zd rfl rfl rfl) w hs, trivial, trivial⟩) ?_
      refine Z8 ?_ ?_
      ·
       refine cl rfl ZA rfl rfl (Za t a c (by omega) _ _) ?_
       rintro _ _ _ ⟨ax, cx, rfl, rfl, rfl⟩
       refine bg (fun w hs => ⟨trivial, trivial⟩) ?_
       refine alc rfl Z04 rfl (fun b7 => ?_)
       refine bg (fun w hs => trivial) ?_
       refine sto rfl rfl rfl ZO rfl rfl rfl rfl ?_
       refine bg (fun w hs => trivial) ?_
       refine sto rfl rfl rfl ZU rfl rfl rfl rfl ?_
       refine bg (fun w hs => trivial) ?_
       exact Z6 ((bo, co, ax, cx), b7, b8) (by repeat' first | exact Sub.nil | apply Sub.cons | rfl | (simp [lk]; omega)) (fun _ h => St.sub ((((h.pull b3).pull b4).pull b8).pull b7))
      refine Z8 ?_ ?_
      ·
       refine alc rfl Z04 rfl (fun b7 => ?_)
       refine bg (fun w hs => ⟨(lhA [_, _, _, _, _, _, _, _, _, _, _] Zd rfl rfl rfl) w hs, trivial⟩) ?_
       refine cl rfl ZA rfl rfl (Za t a c (by omega) _ _) ?_
       rintro _ _ _ ⟨ax, cx, rfl, rfl, rfl⟩
       refine bg (fun w hs => ⟨trivial, trivial⟩) ?_
       refine sto rfl rfl rfl ZO rfl rfl rfl rfl ?_
       refine bg (fun w hs => trivial) ?_
       refine sto rfl rfl rfl ZU rfl rfl rfl rfl ?_
       refine bg (fun w hs => trivial) ?_
       exact Z6 ((bo, co, ax, cx), b7, b8) (by repeat' first | exact Sub.nil | apply Sub.cons | rfl | (simp [lk]; omega)) (fun _ h => St.sub ((((h.pull b3).pull b4).pull b8).pull b7))
      exact Zc
     refine Z8 ?_ ?_
     ·
      refine alc rfl Z04 rfl (fun b7 => ?_)
      refine bg (fun w hs => ⟨(lhA [_, _, _, _, _, _, _, _, _, _, _] Zd rfl rfl rfl) w hs, (lhA [_, _, _, _, _, _, _, _, _, _, _] Zd rfl rfl rfl) w hs, trivial⟩) ?_
      refine cl rfl Z0R rfl rfl (Z0Q t a c (by omega) _ _) ?_
      rintro _ _ _ ⟨bo, co, rfl, rfl, rfl⟩
      refine bg (fun w hs => ⟨(lhA [_, _, _, _, _, _, _, _, _, _, _] Zd rfl rfl rfl) w hs, trivial, trivial⟩) ?_
      refine cl rfl ZA rfl rfl (Za t a c (by omega) _ _) ?_
      rintro _ _ _ ⟨ax, cx, rfl, rfl, rfl⟩
      refine bg (fun w hs => ⟨trivial, trivial⟩) ?_
      refine sto rfl rfl rfl ZO rfl rfl rfl rfl ?_
      refine bg (fun w hs => trivial) ?_
      refine sto rfl rfl rfl ZU rfl rfl rfl rfl ?_
      refine bg (fun w hs => trivial) ?_
      exact Z6 ((bo, co, ax, cx), b7, b8) (by repeat' first | exact Sub.nil | apply Sub.cons | rfl | (simp [lk]; omega)) (fun _ h => St.sub ((((h.pull b3).pull b4).pull b8).pull b7))
     exact Zc
    exact Zc
   ·
    rintro ⟨⟨bo, co, ax, cx⟩, b7, b8⟩
    dsimp only
    refine Z0 ?_
    refine Z1 [0, 1, 2] rfl ?_
    refine spL rfl rfl (lhA [_, _, _, _, _, _, _, _, _, _, _] Z0c rfl rfl rfl) rfl ?_
    refine clV rfl Z7h rfl rfl (Z1X t ax cx (by omega) _ _) ?_
    refine sp rfl (PE.assign rfl) rfl ?_
    refine Z0 ?_
    refine Z1 [0, 1, 2, 3, 4, 5] rfl ?_
    refine sp rfl (PE.move rfl) rfl ?_
    refine sp rfl (PE.move rfl) rfl ?_
    refine sp rfl (PE.move rfl) rfl ?_
    refine sp rfl (PE.assign rfl) rfl ?_
    refine sp rfl (PE.assign rfl) rfl ?_
    refine sp rfl (PE.assign rfl) rfl ?_
    refine Z0 ?_
    refine Z1 [0, 1, 2] rfl ?_
    refine sp rfl (PE.assign rfl) rfl ?_
    refine sp rfl (PE.assign rfl) rfl ?_
    refine sp rfl (PE.assign rfl) rfl ?_
    refine Z0 ?_
    refine Z1 [0] rfl ?_
    refine sp rfl (PE.assign rfl) rfl ?_
    refine Z0 ?_
    refine Z0 ?_
    refine Z1 [0, 1] rfl ?_
    refine sp rfl (PE.move rfl) rfl ?_
    refine sp rfl (PE.eql rfl rfl) rfl ?_
    refine Z0I (ι := Option Addr × Nat) (fun z => ⟨[(2, .int .i64 bads), (3, .pointer (some ⟨b3, 0, none⟩)), (4, .pointer (some ⟨b4, 0, none⟩)), (7, .pointer (some ⟨b7, 0, none⟩)), (8, .pointer (some ⟨b8, 0, none⟩)), (9, .int .i64 t.check), (10, .int .i64 ((Z1l t s).2)), (11, .int .i64 ((Z2C t).2)), (12, .int .i64 ((Z4O t bads).2)), (13, .int .i64 ((Z0Z t).1)), (14, .int .i64 ((Z1l t s).1)), (15, .int .i64 ((Z4O t bads).1)), (16, .slice z.1 (Z2C t).1.length z.2)], (b7, cel 27 (twl t (t.sl (some ⟨bo, 0, none⟩) co))) :: (b8, cel 96 (twl t (t.sl ax cx))) :: (b4, cel 24 [.int .i64 s.stock, .int .i64 s.short, .int .i64 s.dry]) :: (b3, cel 27 (twl t (t.sl a c))) :: H, RowsA z.1 1 (Zh (Z2C t).1) :: RowsA ax 2 (Zf t.rats) :: RowsA (some ⟨bo, 0, none⟩) 2 (Zf t.rats) :: R⟩) ?_ ?_
    ·
     refine Z5 rfl (fun hc1 => ?_) (fun hc1 => ?_)
     ·
      try simp only [decide_eq_true_eq, decide_eq_false_iff_not, Bool.and_eq_true, Bool.or_eq_true, Bool.not_eq_true', Int.not_le, Int.not_lt] at hc1
      have hck : t.check = 0 := hc1
      have hok := (Zi hck).1
      refine Zw (a := ax) (sz := 2) (rows := Zf t.rats) (by have := hok.many; intro h0; simp [Zf] at h0; simp [h0] at this) (fun bx ox he => ?_)
      subst he
      refine Z0 ?_
      refine Z1 [0, 1, 2] rfl ?_
      refine spL rfl rfl (lhA [_, _, _, _, _, _, _, _, _, _, _] Z0c rfl rfl rfl) rfl ?_
      refine cl rfl Zc4 rfl rfl (Z4D t hok bx ox cx _ _) ?_
      rintro _ _ _ ⟨bla, la, hsol, rfl, rfl, rfl⟩
      obtain ⟨hrel, hlsa⟩ := hsol.ly hok
      have hrg := Z2U hlsa hok.now
      refine Sy.heap (fun w h => St.intRows h) ?_
      refine sp rfl (PE.assign rfl) rfl ?_
      refine Z0 ?_
      refine Z1 [0, 1, 2, 3, 4, 5] rfl ?_
      refine spL rfl rfl (lhA [_, _, _, _, _, _, _, _, _, _, _] Z0c rfl rfl rfl) rfl ?_
      refine sp rfl (PE.move rfl) rfl ?_
      refine sp rfl (PE.fieldAddr Z1G rfl) rfl ?_
      refine spL rfl rfl (lhA [_, _, _] Z0w rfl rfl rfl) rfl ?_
      refine clV rfl Z8A rfl rfl (Z2r t hok t.now hok.now _ la (LY t) hrel bla 0 t.nst _ _) ?_
      refine sp rfl (PE.assign rfl) rfl ?_
      refine Z0 ?_
      refine Z0 ?_
      refine Z1 [0] rfl ?_
      refine sp rfl (PE.assign rfl) rfl ?_
      refine Z0 ?_
      refine Z1 [0, 1, 2] rfl ?_
      refine spL rfl rfl (lhA [_, _, _, _, _, _, _, _, _, _, _] Z0c rfl rfl rfl) rfl ?_
      refine spL rfl rfl (lhA [_, _, _] ZF rfl rfl rfl) rfl ?_
      refine clV rfl Zah rfl rfl (Z3c t s _ _ _) ?_
      refine Z0I (ι := Unit) (fun _ => ⟨[(2, .int .i64 bads), (3, .pointer (some ⟨b3, 0, none⟩)), (4, .pointer (some ⟨b4, 0, none⟩)), (7, .pointer (some ⟨b7, 0, none⟩)), (8, .pointer (some ⟨b8, 0, none⟩)), (9, .int .i64 t.check), (10, .int .i64 ((Z1l t s).2)), (11, .int .i64 (t.check)), (12, .int .i64 (t.check)), (13, .int .i64 (lat (LY t) t.now)), (14, .int .i64 ((Z1l t s).1)), (15, .int .i64 (0)), (16, .slice none 0 0), (17, .slice (some ⟨bla, 0, none⟩) t.nst t.nst)], (b7, cel 27 (twl t (t.sl (some ⟨bo, 0, none⟩) co))) :: (b8, cel 96 (twl t (t.sl (some ⟨bx, ox, none⟩) cx))) :: (b4, cel 24 [.int .i64 s.stock, .int .i64 s.short, .int .i64 s.dry]) :: (b3, cel 27 (twl t (t.sl a c))) :: H, RowsA (some ⟨bla, 0, none⟩) 1 (Zh la) :: RowsA (some ⟨bx, ox, none⟩) 2 (Zf t.rats) :: RowsA (some ⟨bo, 0, none⟩) 2 (Zf t.rats) :: R⟩) ?_ ?_
      ·
       refine Z5 rfl (fun hc2 => ?_) (fun hc2 => ?_)
       ·
        refine Z1 [0, 1, 2, 3, 4, 5] rfl ?_
        refine spL rfl rfl (lhA [_, _, _, _, _, _, _, _, _, _, _] Z0c rfl rfl rfl) rfl ?_
        refine sp rfl (PE.move rfl) rfl ?_
        refine spL rfl rfl (lhA [_, _, _] ZF rfl rfl rfl) rfl ?_
        refine clV rfl Z8A rfl rfl (Z2r t hok s hc2 _ la (LY t) hrel bla 0 t.nst _ _) ?_
        refine sp rfl (PE.assign rfl) rfl ?_
        refine sp rfl (PE.assign rfl) rfl ?_
        rw [show Z1l t s = (lat (LY t) s, 0) from by simp [Z1l, hck, hc2]]
        exact ZG () (by repeat' first | exact Sub.nil | apply Sub.cons | rfl | (simp [lk]; omega)) (fun _ h => h)
       ·
        refine Z3 ?_
        rw [show Z1l t s = (0, 3) from by simp [Z1l, hck, hc2]]
        exact ZG () (by repeat' first | exact Sub.nil | apply Sub.cons | rfl | (simp [lk]; omega)) (fun _ h => h)
      ·
       rintro ⟨⟩
       dsimp only
       refine Z0 ?_
       refine Z0 ?_
       refine Z1 [0] rfl ?_
       refine sp rfl (PE.assign rfl) rfl ?_
       refine Z0 ?_
       refine Z1 [0, 1] rfl ?_
       refine sp rfl (PE.move rfl) rfl ?_
       refine sp rfl (PE.geq rfl rfl) rfl ?_
       refine Z0I (ι := Option Addr × Nat) (fun z => ⟨[(2, .int .i64 bads), (3, .pointer (some ⟨b3, 0, none⟩)), (4, .pointer (some ⟨b4, 0, none⟩)), (7, .pointer (some ⟨b7, 0, none⟩)), (8, .pointer (some ⟨b8, 0, none⟩)), (9, .int .i64 t.check), (10, .int .i64 ((Z1l t s).2)), (11, .int .i64 ((Z2C t).2)), (12, .int .i64 (t.check)), (13, .int .i64 (lat (LY t) t.now)), (14, .int .i64 ((Z1l t s).1)), (15, .int .i64 (0)), (16, .slice z.1 (Z2C t).1.length z.2), (17, .slice (some ⟨bla, 0, none⟩) t.nst t.nst)], (b7, cel 27 (twl t (t.sl (some ⟨bo, 0, none⟩) co))) :: (b8, cel 96 (twl t (t.sl (some ⟨bx, ox, none⟩) cx))) :: (b4, cel 24 [.int .i64 s.stock, .int .i64 s.short, .int .i64 s.dry]) :: (b3, cel 27 (twl t (t.sl a c))) :: H, RowsA z.1 1 (Zh (Z2C t).1) :: RowsA (some ⟨bla, 0, none⟩) 1 (Zh la) :: RowsA (some ⟨bx, ox, none⟩) 2 (Zf t.rats) :: RowsA (some ⟨bo, 0, none⟩) 2 (Zf t.rats) :: R⟩) ?_ ?_
       ·
        refine Z5 rfl (fun hc3 => ?_) (fun hc3 => ?_)
        ·
         try simp only [decide_eq_true_eq, decide_eq_false_iff_not, Bool.and_eq_true, Bool.or_eq_true, Bool.not_eq_true', Int.not_le, Int.not_lt] at hc3
         
         refine Z1 [0, 1, 2, 3, 4] rfl ?_
         refine spL rfl rfl (lhA [_, _, _, _, _, _, _, _, _, _, _] Z0c rfl rfl rfl) rfl ?_
         refine sp rfl (PE.move rfl) rfl ?_
         refine cl rfl ZeK rfl rfl (Za3 t hok bx ox cx la (LY t) hrel bla 0 t.nst (by omega) _ _) ?_
         rintro _ _ _ ⟨oc, rfl, rfl, rfl⟩
         obtain ⟨ac, cc, hoc, hfc⟩ := oc.freeze
         rw [hoc]
         refine Sy.heap (fun w h => hfc h) ?_
         rw [show (Zh (Z10 (fun q => t.keeps (LY t) t.now q (lat (LY t) t.now)) t.rats t.rats.length)).length = (Z10 (fun q => t.keeps (LY t) t.now q (lat (LY t) t.now)) t.rats t.rats.length).length from List.length_map _]
         refine sp rfl (PE.assign rfl) rfl ?_
         refine sp rfl (PE.assign rfl) rfl ?_
         rw [Zcd hck (by omega)]
         exact ZG (ac, cc) (by repeat' first | exact Sub.nil | apply Sub.cons | rfl | (simp [lk]; omega)) (fun _ h => h)
        ·
         try simp only [decide_eq_true_eq, decide_eq_false_iff_not, Bool.and_eq_true, Bool.or_eq_true, Bool.not_eq_true', Int.not_le, Int.not_lt] at hc3
         
         refine Z3 ?_
         rw [Zb7 hck (by omega)]
         exact ZG (none, 0) (by repeat' first | exact Sub.nil | apply Sub.cons | rfl | (simp [lk]; omega)) (fun _ h => St.norows h)
       ·
        rintro ⟨ac, cc⟩
        dsimp only
        refine Z0 ?_
        refine Z1 [0] rfl ?_
        refine sp rfl (PE.assign rfl) rfl ?_
        refine Z0 ?_
        refine Z1 [0, 1, 2, 3, 4, 5] rfl ?_
        refine sp rfl (PE.move rfl) rfl ?_
        refine sp rfl (PE.geq rfl rfl) rfl ?_
        refine sp rfl (PE.move rfl) rfl ?_
        refine Zg (t := 62) rfl (fun g62 => ?_) (fun g62 => ?_)
        ·
         try simp only [decide_eq_true_eq, decide_eq_false_iff_not, Bool.and_eq_true, Bool.or_eq_true, Bool.not_eq_true', Int.not_le, Int.not_lt] at g62
         refine spG rfl rfl rfl rfl (PE.move rfl) rfl ?_
         refine spG rfl rfl rfl rfl (PE.leq rfl rfl) rfl ?_
         refine sp rfl (PE.pick rfl rfl rfl) rfl ?_
         refine Z0I (ι := Unit) (fun _ => ⟨[(2, .int .i64 bads), (3, .pointer (some ⟨b3, 0, none⟩)), (4, .pointer (some ⟨b4, 0, none⟩)), (7, .pointer (some ⟨b7, 0, none⟩)), (8, .pointer (some ⟨b8, 0, none⟩)), (9, .int .i64 t.check), (10, .int .i64 ((Z1l t s).2)), (11, .int .i64 ((Z2C t).2)), (12, .int .i64 ((Z4O t bads).2)), (13, .int .i64 (lat (LY t) t.now)), (14, .int .i64 ((Z1l t s).1)), (15, .int .i64 ((Z4O t bads).1)), (16, .slice ac (Z2C t).1.length cc)], (b7, cel 27 (twl t (t.sl (some ⟨bo, 0, none⟩) co))) :: (b8, cel 96 (twl t (t.sl (some ⟨bx, ox, none⟩) cx))) :: (b4, cel 24 [.int .i64 s.stock, .int .i64 s.short, .int .i64 s.dry]) :: (b3, cel 27 (twl t (t.sl a c))) :: H, RowsA ac 1 (Zh (Z2C t).1) :: RowsA (some ⟨bx, ox, none⟩) 2 (Zf t.rats) :: RowsA (some ⟨bo, 0, none⟩) 2 (Zf t.rats) :: R⟩) ?_ ?_
         ·
          refine Z5 rfl (fun hc4 => ?_) (fun hc4 => ?_)
          ·
           try simp only [decide_eq_true_eq, decide_eq_false_iff_not, Bool.and_eq_true, Bool.or_eq_true, Bool.not_eq_true', Int.not_le, Int.not_lt] at hc4
           have hib : inb bads 0 1000000 = true := by simp only [inb]; simp_all
           refine Z0 ?_
           refine Z1 [0] rfl ?_
           refine sp rfl (PE.assign rfl) rfl ?_
           refine Z0 ?_
           refine Z1 [0, 1, 2, 3, 4, 5, 6, 7, 8] rfl ?_
           refine spL rfl rfl (lhA [_, _, _, _, _, _, _, _, _, _, _] Z0c rfl rfl rfl) rfl ?_
           refine sp rfl (PE.move rfl) rfl ?_
           refine sp rfl (PE.move rfl) rfl ?_
           refine clV rfl Zey rfl rfl (Zba t hok bads _ la (LY t) hrel bla 0 t.nst _ _) ?_
           refine sp rfl (PE.move rfl) rfl ?_
           refine sp rfl (PE.extract rfl rfl) rfl ?_
           refine sp rfl (PE.extract rfl rfl) rfl ?_
           refine sp rfl (PE.assign rfl) rfl ?_
           refine sp rfl (PE.assign rfl) rfl ?_
           refine Z0 ?_
           refine Z1 [0] rfl ?_
           refine sp rfl (PE.move rfl) rfl ?_
           refine Z5 rfl (fun hc5 => ?_) (fun hc5 => ?_)
           ·
            obtain ⟨k, hk⟩ := Option.isSome_iff_exists.1 hc5
            rw [hk]
            refine Z1 [0] rfl ?_
            refine sp rfl (PE.assign rfl) rfl ?_
            rw [show Z4O t bads = (k, 0) from by unfold Z4O; rw [hib, hk]; simp [hck]]
            exact ZG () (by repeat' first | exact Sub.nil | apply Sub.cons | rfl | (simp [lk]; omega)) (fun _ h => St.sub h)
           ·
            have hk : Z5L t (LY t) bads = none := by simpa using hc5
            rw [hk]
            refine Z1 [0] rfl ?_
            refine sp rfl (PE.assign rfl) rfl ?_
            rw [show Z4O t bads = (0, 6) from by unfold Z4O; rw [hib, hk]; simp [hck]]
            exact ZG () (by repeat' first | exact Sub.nil | apply Sub.cons | rfl | (simp [lk]; omega)) (fun _ h => St.sub h)
          ·
           try simp only [decide_eq_true_eq, decide_eq_false_iff_not, Bool.and_eq_true, Bool.or_eq_true, Bool.not_eq_true', Int.not_le, Int.not_lt] at hc4
           
           refine Z3 ?_
           have hib : inb bads 0 1000000 = false := by rw [← Bool.not_eq_true]; simp only [inb, Bool.and_eq_true, decide_eq_true_eq]; omega
           rw [show Z4O t bads = (0, 3) from by unfold Z4O; rw [hib]; simp [hck]]
           exact ZG () (by repeat' first | exact Sub.nil | apply Sub.cons | rfl | (simp [lk]; omega)) (fun _ h => St.sub h)
         ·
          rintro ⟨⟩
          dsimp only
          rw [show Z0Z t = (lat (LY t) t.now, 0) from by simp [Z0Z, hck]]
          exact ZG (ac, cc) (by repeat' first | exact Sub.nil | apply Sub.cons | rfl | (simp [lk]; omega)) (fun _ h => h)
        ·
         try simp only [decide_eq_true_eq, decide_eq_false_iff_not, Bool.and_eq_true, Bool.or_eq_true, Bool.not_eq_true', Int.not_le, Int.not_lt] at g62
         refine spN rfl rfl rfl rfl rfl rfl rfl rfl ?_
         refine spN rfl rfl rfl rfl rfl rfl rfl rfl ?_
         refine sp rfl (PE.pick rfl rfl rfl) rfl ?_
         refine Z0I (ι := Unit) (fun _ => ⟨[(2, .int .i64 bads), (3, .pointer (some ⟨b3, 0, none⟩)), (4, .pointer (some ⟨b4, 0, none⟩)), (7, .pointer (some ⟨b7, 0, none⟩)), (8, .pointer (some ⟨b8, 0, none⟩)), (9, .int .i64 t.check), (10, .int .i64 ((Z1l t s).2)), (11, .int .i64 ((Z2C t).2)), (12, .int .i64 ((Z4O t bads).2)), (13, .int .i64 (lat (LY t) t.now)), (14, .int .i64 ((Z1l t s).1)), (15, .int .i64 ((Z4O t bads).1)), (16, .slice ac (Z2C t).1.length cc)], (b7, cel 27 (twl t (t.sl (some ⟨bo, 0, none⟩) co))) :: (b8, cel 96 (twl t (t.sl (some ⟨bx, ox, none⟩) cx))) :: (b4, cel 24 [.int .i64 s.stock, .int .i64 s.short, .int .i64 s.dry]) :: (b3, cel 27 (twl t (t.sl a c))) :: H, RowsA ac 1 (Zh (Z2C t).1) :: RowsA (some ⟨bx, ox, none⟩) 2 (Zf t.rats) :: RowsA (some ⟨bo, 0, none⟩) 2 (Zf t.rats) :: R⟩) ?_ ?_
         ·
          refine Zz rfl ?_
          refine Z3 ?_
          have hib : inb bads 0 1000000 = false := by rw [← Bool.not_eq_true]; simp only [inb, Bool.and_eq_true, decide_eq_true_eq]; omega
          rw [show Z4O t bads = (0, 3) from by unfold Z4O; rw [hib]; simp [hck]]
          exact ZG () (by repeat' first | exact Sub.nil | apply Sub.cons | rfl | (simp [lk]; omega)) (fun _ h => St.sub h)
         ·
          rintro ⟨⟩
          dsimp only
          rw [show Z0Z t = (lat (LY t) t.now, 0) from by simp [Z0Z, hck]]
          exact ZG (ac, cc) (by repeat' first | exact Sub.nil | apply Sub.cons | rfl | (simp [lk]; omega)) (fun _ h => h)
     ·
      try simp only [decide_eq_true_eq, decide_eq_false_iff_not, Bool.and_eq_true, Bool.or_eq_true, Bool.not_eq_true', Int.not_le, Int.not_lt] at hc1
      have hck : t.check ≠ 0 := hc1
      refine Z3 ?_
      rw [show Z1l t s = (0, t.check) from by simp [Z1l, hck], show Z2C t = ([], t.check) from by simp [Z2C, hck], show Z4O t bads = (0, t.check) from by simp [Z4O, hck], show Z0Z t = (0, t.check) from by simp [Z0Z, hck]]
      exact ZG (none, 0) (by repeat' first | exact Sub.nil | apply Sub.cons | rfl | (simp [lk]; omega)) (fun _ h => St.norows h)
    ·
     rintro ⟨ac, cc⟩
     dsimp only
     refine Z0 ?_
     refine Z1 [0, 1, 2, 3, 4, 5, 6] rfl ?_
     refine spL rfl rfl (lhA [_, _, _, _, _, _, _, _, _, _, _] Zd rfl rfl rfl) rfl ?_
     refine cl rfl Zdv rfl rfl (Z9c t (by omega) bo 0 co _ _) ?_
     rintro _ _ _ ⟨h, rfl, rfl⟩
     rw [Zde h]
     refine sp rfl (PE.move rfl) rfl ?_
     refine sp rfl (PE.extract rfl rfl) rfl ?_
     refine sp rfl (PE.extract rfl rfl) rfl ?_
     refine sp rfl (PE.assign rfl) rfl ?_
     refine sp rfl (PE.assign rfl) rfl ?_
     refine Z0 ?_
     refine Z1 [0, 1, 2, 3, 4, 5, 6, 7] rfl ?_
     refine spL rfl rfl (lhA [_, _, _, _, _, _, _, _, _, _, _] Zd rfl rfl rfl) rfl ?_
     refine spL rfl rfl (lhA [_, _, _] ZF rfl rfl rfl) rfl ?_
     refine clV rfl Zfk rfl rfl (Zd0 t s (by omega) bo 0 co _ _) ?_
     refine sp rfl (PE.move rfl) rfl ?_
     refine sp rfl (PE.extract rfl rfl) rfl ?_
     refine sp rfl (PE.extract rfl rfl) rfl ?_
     refine sp rfl (PE.assign rfl) rfl ?_
     refine sp rfl (PE.assign rfl) rfl ?_
     refine Z0 ?_
     refine Z1 [0, 1, 2, 3, 4, 5, 6] rfl ?_
     refine spL rfl rfl (lhA [_, _, _, _, _, _, _, _, _, _, _] Zd rfl rfl rfl) rfl ?_
     refine cl rfl ZdF rfl rfl (Z9l t (by omega) bo 0 co _ _) ?_
     rintro _ _ _ ⟨oc, rfl, rfl, rfl⟩
     obtain ⟨ad, cd, hoc, hfc⟩ := oc.freeze
     rw [hoc]
     refine Sy.heap (fun w h => hfc h) ?_
     rw [show (Zh (Z2C t).1).length = (Z2C t).1.length from List.length_map _]
     refine sp rfl (PE.move rfl) rfl ?_
     refine sp rfl (PE.extract rfl rfl) rfl ?_
     refine sp rfl (PE.extract rfl rfl) rfl ?_
     refine sp rfl (PE.assign rfl) rfl ?_
     refine sp rfl (PE.assign rfl) rfl ?_
     refine Z0 ?_
     refine Z1 [0, 1, 2, 3, 4, 5, 6, 7] rfl ?_
     refine spL rfl rfl (lhA [_, _, _, _, _, _, _, _, _, _, _] Zd rfl rfl rfl) rfl ?_
     refine sp rfl (PE.move rfl) rfl ?_
     refine cl rfl Zdr rfl rfl (Za0 t (by omega) bads bo 0 co _ _) ?_
     rintro _ _ _ ⟨h, rfl, rfl⟩
     rw [Zdj h]
     refine sp rfl (PE.move rfl) rfl ?_
     refine sp rfl (PE.extract rfl rfl) rfl ?_
     refine sp rfl (PE.extract rfl rfl) rfl ?_
     refine sp rfl (PE.assign rfl) rfl ?_
     refine sp rfl (PE.assign rfl) rfl ?_
     refine Z0 ?_
     refine Z1 [0, 1, 2, 3, 4, 5, 6, 7, 8, 9, 10, 11, 12, 13, 14, 15, 16, 17, 18, 19, 20, 21, 22, 23, 24, 25, 26, 27, 28, 29, 30, 31, 32, 33, 34, 35, 36, 37, 38, 39, 40, 41, 42, 43, 44, 45, 46] rfl ?_
     have hls : (Z0Z t).2 = t.check := by by_cases h : t.check = 0 <;> simp [Z0Z, h]
     rw [hls]
     refine sp rfl (PE.move rfl) rfl ?_
     refine sp rfl (PE.move rfl) rfl ?_
     refine sp rfl (PE.eql rfl rfl) rfl ?_
     refine sp rfl (PE.move rfl) rfl ?_
     refine Zg (t := 99) rfl (fun g99 => ?_) (fun g99 => ?_)
     ·
      refine spG rfl rfl rfl rfl (PE.move rfl) rfl ?_
      refine spG rfl rfl rfl rfl (PE.move rfl) rfl ?_
      refine spG rfl rfl rfl rfl (PE.eql rfl rfl) rfl ?_
      refine sp rfl (PE.pick rfl rfl rfl) rfl ?_
      refine sp rfl (PE.move rfl) rfl ?_
      refine Zg (t := 104) rfl (fun g104 => ?_) (fun g104 => ?_)
      ·
       refine spG rfl rfl rfl rfl (PE.move rfl) rfl ?_
       refine spG rfl rfl rfl rfl (PE.move rfl) rfl ?_
       refine spG rfl rfl rfl rfl (PE.eql rfl rfl) rfl ?_
       refine sp rfl (PE.pick rfl rfl rfl) rfl ?_
       refine sp rfl (PE.move rfl) rfl ?_
       refine Zg (t := 109) rfl (fun g109 => ?_) (fun g109 => ?_)
       ·
        refine spG rfl rfl rfl rfl (PE.move rfl) rfl ?_
        refine spG rfl rfl rfl rfl (PE.move rfl) rfl ?_
        refine spG rfl rfl rfl rfl (PE.eql rfl rfl) rfl ?_
        refine sp rfl (PE.pick rfl rfl rfl) rfl ?_
        refine sp rfl (PE.move rfl) rfl ?_
        refine Zg (t := 114) rfl (fun g114 => ?_) (fun g114 => ?_)
        ·
         refine spG rfl rfl rfl rfl (PE.move rfl) rfl ?_
         refine spG rfl rfl rfl rfl (PE.move rfl) rfl ?_
         refine spG rfl rfl rfl rfl (PE.eql rfl rfl) rfl ?_
         refine sp rfl (PE.pick rfl rfl rfl) rfl ?_
         refine sp rfl (PE.move rfl) rfl ?_
         refine Zg (t := 119) rfl (fun g119 => ?_) (fun g119 => ?_)
         ·
          refine spG rfl rfl rfl rfl (PE.move rfl) rfl ?_
          refine spG rfl rfl rfl rfl (PE.move rfl) rfl ?_
          refine spG rfl rfl rfl rfl (PE.eql rfl rfl) rfl ?_
          refine sp rfl (PE.pick rfl rfl rfl) rfl ?_
          refine sp rfl (PE.move rfl) rfl ?_
          refine Zg (t := 124) rfl (fun g124 => ?_) (fun g124 => ?_)
          ·
           refine spG rfl rfl rfl rfl (PE.move rfl) rfl ?_
           refine spG rfl rfl rfl rfl (PE.move rfl) rfl ?_
           refine Z0k rfl rfl rfl rfl Z4N rfl rfl (Z1a (Z2C t).1 (Z2C t).1 ad ac cd cc (by omega) (by omega) _ _) ?_
           refine sp rfl (PE.pick rfl rfl rfl) rfl ?_
           refine sp rfl (PE.move rfl) rfl ?_
           refine Zg (t := 129) rfl (fun g129 => ?_) (fun g129 => ?_)
           ·
            refine spG rfl rfl rfl rfl (PE.move rfl) rfl ?_
            refine spG rfl rfl rfl rfl (PE.move rfl) rfl ?_
            refine spG rfl rfl rfl rfl (PE.eql rfl rfl) rfl ?_
            refine sp rfl (PE.pick rfl rfl rfl) rfl ?_
            refine sp rfl (PE.move rfl) rfl ?_
            refine Zg (t := 134) rfl (fun g134 => ?_) (fun g134 => ?_)
            ·
             refine Z03 rfl rfl rfl rfl rfl (lhA [_, _, _, _, _, _, _, _, _, _, _] Zd rfl rfl rfl) rfl ?_
             refine Z03 rfl rfl rfl rfl rfl (lhA [_, _, _, _, _, _, _, _, _, _, _] Zd rfl rfl rfl) rfl ?_
             refine Z0k rfl rfl rfl rfl Z5i rfl rfl (Z38 t t _ a co c (by omega) (by omega) _ _) ?_
             refine sp rfl (PE.pick rfl rfl rfl) rfl ?_
             refine sp rfl (PE.move rfl) rfl ?_
             refine Zg (t := 139) rfl (fun g139 => ?_) (fun g139 => ?_)
             ·
              refine Z0k rfl rfl rfl rfl Z1f rfl rfl (Z00 _ _) ?_
              refine sp rfl (PE.pick rfl rfl rfl) rfl ?_
              refine sp rfl (PE.assign rfl) rfl ?_
              refine Z4 ?_
              exact Z2 (vs := [_]) rfl (.cons (RV.tmp rfl) .nil) rfl ⟨rfl, rfl, rfl⟩ drp
             ·
              exact absurd g139 (by first | (simp; done) | (simp_all; done))
            ·
             exact absurd g134 (by first | (simp; done) | (simp_all; done))
           ·
            exact absurd g129 (by first | (simp; done) | (simp_all; done))
          ·
           exact absurd g124 (by first | (simp; done) | (simp_all; done))
         ·
          exact absurd g119 (by first | (simp; done) | (simp_all; done))
        ·
         exact absurd g114 (by first | (simp; done) | (simp_all; done))
       ·
        exact absurd g109 (by first | (simp; done) | (simp_all; done))
      ·
       exact absurd g104 (by first | (simp; done) | (simp_all; done))
     ·
      exact absurd g99 (by first | (simp; done) | (simp_all; done))
theorem ZeF : Z5Y Tryz.prog 157 = some 5 := by kernel_rfl
theorem Zfo : apT Tryz.prog 124 = some (157, 5, 40) := by kernel_rfl
theorem Zdw : cal Tryz.prog 85 = true := by kernel_rfl
theorem Zf6 : cal Tryz.prog 99 = true := by kernel_rfl
theorem Zf4 : Z1c Tryz.prog 157 = some 5 := by kernel_rfl
theorem ZaW : elN Tryz.prog 124 = some 5 := by kernel_rfl
theorem ZeP : eqB Tryz.prog 10000 38 = some (true, 5) := by kernel_rfl
theorem ZeM : Tryz.prog.eqGuardType Tryz.prog.depth 38 = false := by kernel_rfl
theorem Z3C : Z1n Tryz.prog 157 0 = some 0 := by kernel_rfl
theorem Z5H : Z1n Tryz.prog 157 1 = some 3 := by kernel_rfl
theorem Zap : Z1n Tryz.prog 157 2 = some 4 := by kernel_rfl
theorem Z9t : Z6N Tryz.prog 124 = true := by kernel_rfl
theorem ZeI : Z1q Tryz.prog 157 = some [(0, 3), (3, 1), (4, 1)] := by kernel_rfl
theorem ZeA : slE Tryz.prog 124 = some (157, 5) := by kernel_rfl
theorem ZbX : Z0n Tryz.prog 157 = some ([.int .i64 0, .int .i64 0, .int .i64 0, .int .i64 0, .int .i64 0]) := by kernel_rfl
theorem Z0q (xs : List Rw) (a : Option Addr) (c : Nat) (hl : xs.length ≤ 1000000) (H : Zj) (R : Z9) [hR : MemRows a 5 (Zt xs) R] :
    Fn Tryz.prog 7 [.slice a xs.length c] H R (fun v H' R' => ∃ o : OSl 38 5 (Zt xs), v = o.fs ∧ o.here ∧ H' = o.G ++ H ∧ R' = R) := by
  refine Zq Tryz.func7 rfl Tryz.ntmps7 rfl ?_
  refine Z0 ?_
  refine Z1 [0] rfl ?_
  refine sp rfl (PE.assign rfl) rfl ?_
  refine Z0 ?_
  refine Z1 [0, 1, 2, 3, 4, 5] rfl ?_
  refine sp rfl (PE.move rfl) rfl ?_
  refine sp rfl (PE.lenSl Z3R rfl) rfl ?_
  refine mkO rfl Z51 Z48 rfl rfl ⟨by omega, by omega⟩ rfl (fun o ho => ?_)
  refine sp rfl (PE.move rfl) rfl ?_
  refine Zbg (news := Zt xs) o rfl Z51 rfl rfl (Z6F) (by simp [Zt]) (by simp [Z0C, Zt, Z5S, Value.oneCell']) ⟨by simp [Zt]; omega, by simp [Zt]; omega⟩ rfl ho (fun o2 ho2 => ?_)
  refine sp rfl (PE.assign rfl) rfl ?_
  refine Z4 ?_
  exact Z2 (vs := [_]) rfl (.cons (RV.tmp rfl) .nil) rfl ⟨o2.cast (by simp), rfl, ho2, rfl, rfl⟩ (fun _ h => h)
theorem ZaI (xs ys : List Rw) (a a2 : Option Addr) (c c2 : Nat) (hl : xs.length ≤ 9223372036854775807) (hl2 : ys.length ≤ 9223372036854775807) (H : Zj) (R : Z9) [hR : MemRows a 5 (Zt xs) R] [hR2 : MemRows a2 5 (Zt ys) R] :
    FnV Tryz.prog 99 [.slice a xs.length c, .slice a2 ys.length c2] H R (.bool (decide (xs = ys))) := by
  refine Zq Tryz.func99 rfl Tryz.ntmps99 rfl ?_
  refine Z0 ?_
  refine Z1 [0] rfl ?_
  refine sp rfl (PE.assign rfl) rfl ?_
  refine Z0 ?_
  refine Z0 ?_
  refine Z1 [0, 1, 2, 3, 4] rfl ?_
  refine sp rfl (PE.move rfl) rfl ?_
  refine sp rfl (PE.lenSl Z3R rfl) rfl ?_
  refine sp rfl (PE.move rfl) rfl ?_
  refine sp rfl (PE.lenSl Z3R rfl) rfl ?_
  refine sp rfl (PE.neq rfl rfl) rfl ?_
  refine Z5 rfl (fun hc0 => ?_) (fun hc0 => ?_)
  ·
   have hne : xs ≠ ys := fun e => by subst e; simp at hc0
   refine Z0 ?_
   refine Z1 [0] rfl ?_
   refine sp rfl (PE.assign rfl) rfl ?_
   refine Z4 ?_
   exact Z2 (vs := [_]) rfl (.cons (RV.tmp rfl) .nil) rfl ⟨by first | (simp only [ZL]; rw [decide_eq_true heq]; done) | (simp only [ZL]; rw [decide_eq_false hne]), rfl, rfl⟩ (fun _ h => h)
  ·
   have hle : xs.length = ys.length := by simp only [decide_eq_true_eq, decide_eq_false_iff_not, Bool.and_eq_true, Bool.or_eq_true, Bool.not_eq_true', Int.not_le, Int.not_lt] at hc0; omega
   refine Z3 ?_
   refine Z0 ?_
   refine Z0 ?_
   refine Z1 [0, 1, 2] rfl ?_
   refine sp rfl (PE.move rfl) rfl ?_
   refine sp rfl (PE.lenSl Z3R rfl) rfl ?_
   refine sp rfl (PE.move rfl) rfl ?_
   refine Z7 ?_
   refine Zn (ι := {k : Nat // k ≤ xs.length ∧ xs.take k = ys.take k}) (fun k => ⟨[(0, .slice a xs.length c), (1, .slice a2 ys.length c2), (12, .int .i64 xs.length), (13, .int .i64 k.1)], H, R⟩) (fun k => xs.length - k.1) ⟨0, by simp⟩ ?_ (fun k => ?_)
   ·
    exact Z0i (by repeat' first | exact Sub.nil | apply Sub.cons | rfl | (simp [lk]; omega)) (fun _ h => h)
   ·
    obtain ⟨k, hk, hn⟩ := k
    dsimp only
    refine Z0 ?_
    refine Z1 [0] rfl ?_
    refine sp rfl (PE.lss rfl rfl) rfl ?_
    refine Z0 ?_
    refine Z5 rfl (fun hc1 => ?_) (fun hc1 => ?_)
    ·
     simp only [decide_eq_true_eq, decide_eq_false_iff_not, Bool.and_eq_true, Bool.or_eq_true, Bool.not_eq_true', Int.not_le, Int.not_lt] at hc1
     obtain ⟨x, hx⟩ : ∃ x, xs[k]? = some x := ⟨_, List.getElem?_eq_getElem (by omega)⟩
     obtain ⟨z, hz⟩ : ∃ z, ys[k]? = some z := ⟨_, List.getElem?_eq_getElem (by omega)⟩
     refine Zw (a := a) (sz := 5) (rows := Zt xs) (by intro h0; simp [Zt] at h0; simp [h0] at hx) (fun b off he => ?_)
     subst he
     refine Zw (a := a2) (sz := 5) (rows := Zt ys) (by intro h0; simp [Zt] at h0; simp [h0] at hz) (fun b2 off2 he => ?_)
     subst he
     refine Z3 ?_
     refine Z0 ?_
     refine Z7 ?_
     refine Z0 ?_
     refine Z1 [0, 1] rfl ?_
     refine sp rfl (PE.move rfl) rfl ?_
     refine sp rfl (PE.assign rfl) rfl ?_
     refine Z0 ?_
     refine Ze [0, 0, 3, 7, 0, 0, 48, 112, 255] (.tk 0 (.tk 1 (.tk 2 (.ld 3 (.tk 4 (.tk 5 (.tk 6 (.ld 7 (.tk 8 .done))))))))) Zy (by kernel_rfl) ?_
     refine tk rfl (PE.move rfl) rfl ?_
     refine tk rfl (PE.move rfl) rfl ?_
     refine tk rfl (PE.indexAddr Zbq rfl rfl (by omega) (by omega)) rfl ?_
     refine ld rfl rfl (lfA Ze3 (row := Z5S x) (by simp [Zt, hx]) rfl) rfl ?_
     refine tk rfl (PE.move rfl) rfl ?_
     refine tk rfl (PE.move rfl) rfl ?_
     refine tk rfl (PE.indexAddr Zbq rfl rfl (by omega) (by omega)) rfl ?_
     refine ld rfl rfl (lfA Ze3 (row := Z5S z) (by simp [Zt, hz]) rfl) rfl ?_
     refine tk rfl (PE.neqAgg [x.st.stock, x.st.short, x.st.dry, x.lasts, x.ration] [z.st.stock, z.st.short, z.st.dry, z.lasts, z.ration] (Z13 10000 38 true 5 ZeP) ZeM rfl rfl rfl rfl) rfl ?_
     refine Z5 rfl (fun hc2 => ?_) (fun hc2 => ?_)
     ·
      have hne : xs ≠ ys := fun e => by subst e; rw [hx] at hz; cases hz; simp at hc2
      refine Z0 ?_
      refine Z1 [0] rfl ?_
      refine sp rfl (PE.assign rfl) rfl ?_
      refine Z4 ?_
      exact Z2 (vs := [_]) rfl (.cons (RV.tmp rfl) .nil) rfl ⟨by first | (simp only [ZL]; rw [decide_eq_true heq]; done) | (simp only [ZL]; rw [decide_eq_false hne]), rfl, rfl⟩ (fun _ h => h)
     ·
      have hxz : x = z := by obtain ⟨⟨x1, x2, x3⟩, x4, x5⟩ := x; obtain ⟨⟨z1, z2, z3⟩, z4, z5⟩ := z; simpa [and_assoc] using hc2
      refine Z3 ?_
      refine Z1 [0, 1] rfl ?_
      refine sp rfl (PE.add rfl rfl (by omega)) rfl ?_
      refine sp rfl (PE.move rfl) rfl ?_
      exact Zb ⟨k + 1, by omega, by rw [List.take_add_one, List.take_add_one, hn, hx, hz, hxz]⟩ (by dsimp only; omega) (by repeat' first | exact Sub.nil | apply Sub.cons | rfl | (simp [lk]; omega)) (fun _ h => h)
    ·
     simp only [decide_eq_true_eq, decide_eq_false_iff_not, Bool.and_eq_true, Bool.or_eq_true, Bool.not_eq_true', Int.not_le, Int.not_lt] at hc1
     obtain rfl : k = xs.length := by omega
     have heq : xs = ys := by
       rw [List.take_length] at hn
       exact hn.trans (by rw [hle]; exact List.take_length)
     refine Zk ?_
     refine Zl ?_
     refine Zl ?_
     refine ZH ?_
     refine Z0 ?_
     refine Z1 [0] rfl ?_
     refine sp rfl (PE.assign rfl) rfl ?_
     refine Z4 ?_
     exact Z2 (vs := [_]) rfl (.cons (RV.tmp rfl) .nil) rfl ⟨by first | (simp only [ZL]; rw [decide_eq_true heq]; done) | (simp only [ZL]; rw [decide_eq_false hne]), rfl, rfl⟩ (fun _ h => h)
theorem Zb1 (xs ys : List Rw) (a a2 : Option Addr) (c c2 : Nat) (hl : xs.length ≤ 9223372036854775807) (hl2 : ys.length ≤ 9223372036854775807) (H : Zj) (R : Z9) [hR : MemRows a 5 (Zt xs) R] [hR2 : MemRows a2 5 (Zt ys) R] :
    FnV Tryz.prog 65 [.slice a xs.length c, .slice a2 ys.length c2] H R (.bool (decide (xs = ys))) := by
  refine Zq Tryz.func65 rfl Tryz.ntmps65 rfl ?_
  refine Z0 ?_
  refine Z1 [0] rfl ?_
  refine sp rfl (PE.assign rfl) rfl ?_
  refine Z0 ?_
  refine Z1 [0, 1, 2, 3] rfl ?_
  refine sp rfl (PE.move rfl) rfl ?_
  refine sp rfl (PE.move rfl) rfl ?_
  refine clV rfl Zf6 rfl rfl (ZaI xs ys a a2 c c2 hl hl2 _ _) ?_
  refine sp rfl (PE.assign rfl) rfl ?_
  refine Z4 ?_
  exact Z2 (vs := [_]) rfl (.cons (RV.tmp rfl) .nil) rfl ⟨rfl, rfl, rfl⟩ drp
theorem Z6b {l : List Rw} {k : Nat} {x : Rw} (h : l[k]? = some x) : (Zt l)[k]? = some (Z5S x) := by simp [Zt, h]
theorem Z1d {t : Twn} {x : Rw} {l : List Rw} {tw : Bool} {y : List Int} (h : (x.st.right t && inb x.lasts 0 1000000) = false) : feedScan t (x :: l) tw y = .error 3 := by
  unfold feedScan
  rw [← Bool.not_and, h]; rfl
theorem Z93 {t : Twn} {x : Rw} {l : List Rw} {tw : Bool} {y : List Int} (h : (x.st.right t && inb x.lasts 0 1000000) = true) (h2 : Z2g t x.st x.ration ≠ 0) : feedScan t (x :: l) tw y = .error (Z2g t x.st x.ration) := by
  unfold feedScan
  rw [← Bool.not_and, h]
  unfold Z2g at h2 ⊢
  cases h3 : t.rat x.ration with
  | none => rfl
  | some q =>
    rw [h3] at h2
    cases h4 : t.can x.st q with
    | true => simp [h4] at h2
    | false => simp [h4]
theorem Zag {t : Twn} {x : Rw} {l : List Rw} {tw : Bool} {y : List Int} (h : (x.st.right t && inb x.lasts 0 1000000) = true) (h2 : Z2g t x.st x.ration = 0) : feedScan t (x :: l) tw y = feedScan t l (tw || decide (lat y x.st ≠ -1)) (y.set x.st.ix x.lasts) := by
  rw [feedScan.eq_def]
  simp only
  rw [← Bool.not_and, h]
  unfold Z2g at h2
  cases h3 : t.rat x.ration with
  | none => rw [h3] at h2; cases h2
  | some q =>
    rw [h3] at h2
    cases h4 : t.can x.st q with
    | true => simp [h4]
    | false => simp [h4] at h2
theorem Z7r (t : Twn) (hck : t.check = 0) (tb : List Rw) (a : Option Addr) (c : Nat) (hl2 : tb.length ≤ 9223372036854775807) (ba oa ca : Nat) (H : Zj) (R : Z9) [hR : MemRows (some ⟨ba, oa, none⟩) 2 (Zf t.rats) R] [hR2 : MemRows a 5 (Zt tb) R] :
    FnV Tryz.prog 63 [t.v (t.sl (some ⟨ba, oa, none⟩) ca), .slice a tb.length c] H R (.tuple #[.int .i64 (ZJ t tb).1, .int .i64 (ZJ t tb).2]) := by
  have ht := (Zi hck).1
  have hnst := Z3g ht
  refine Zq Tryz.func63 rfl Tryz.ntmps63 rfl ?_
  refine Z0 ?_
  refine Z1 [0, 1, 2] rfl ?_
  refine bx rfl rfl rfl (fun b2 => ?_)
  refine sp rfl (PE.assign rfl) rfl ?_
  refine sp rfl (PE.assign rfl) rfl ?_
  refine Z0 ?_
  refine Z0 ?_
  refine Z1 [0, 1, 2] rfl ?_
  refine sp rfl (PE.move rfl) rfl ?_
  refine sp rfl (PE.lenSl Z9t rfl) rfl ?_
  refine sp rfl (PE.gtr rfl rfl) rfl ?_
  refine Z5 rfl (fun hc0 => ?_) (fun hc0 => ?_)
  ·
   try simp only [decide_eq_true_eq, decide_eq_false_iff_not, Bool.and_eq_true, Bool.or_eq_true, Bool.not_eq_true', Int.not_le, Int.not_lt] at hc0
   have hres : ZJ t tb = (0, 2) := by unfold ZJ; rw [decide_eq_true (show 496 < tb.length by omega)]; simp [hck]
   refine Z0 ?_
   refine Z1 [0, 1] rfl ?_
   refine sp rfl (PE.assign rfl) rfl ?_
   refine sp rfl (PE.assign rfl) rfl ?_
   refine Z4 ?_
   first
     | exact Z2 (vs := [_, _]) rfl (.cons (RV.tmp rfl) (.cons (RV.tmp rfl) .nil)) (by rw [hres]; rfl) ⟨rfl, rfl, rfl⟩ drp
     | exact Z2 (vs := [_, _]) rfl (.cons (RV.tmp rfl) (.cons (RV.tmp rfl) .nil)) (by rw [Z0g hck (by omega) (hscan.trans (Z1d hbad))]; rfl) ⟨rfl, rfl, rfl⟩ drp
  ·
   try simp only [decide_eq_true_eq, decide_eq_false_iff_not, Bool.and_eq_true, Bool.or_eq_true, Bool.not_eq_true', Int.not_le, Int.not_lt] at hc0
   
   refine Z3 ?_
   refine Z0 ?_
   refine Z1 [0, 1, 2, 3, 4] rfl ?_
   refine spL rfl rfl (lhA [_, _, _, _, _, _, _, _, _, _, _] Z0c rfl rfl rfl) rfl ?_
   refine cl rfl ZcI rfl rfl (Z4t t ht _ _ _) ?_
   rintro _ _ R1 ⟨oS, rfl, rfl, hR1⟩
   obtain rfl := hR1.symm
   obtain ⟨aS, cS, hoS, hfS⟩ := oS.freeze
   rw [hoS]
   refine Sy.heap (fun w h => (hfS h).ftail) ?_
   rw [show (ZP (sts t)).length = t.nst from by rw [ZP, List.length_map, Z0s]]
   refine sp rfl (PE.lenSl Z2o rfl) rfl ?_
   refine mkS rfl Z2T zl3 rfl rfl (Nat.le_refl _) ⟨by omega, by omega⟩ rfl (fun b20 => ?_)
   rw [Z1k]
   refine sp rfl (PE.assign rfl) rfl ?_
   refine Z0 ?_
   refine Z0 ?_
   refine Z1 [0] rfl ?_
   refine sp rfl (PE.assign rfl) rfl ?_
   refine Z7 ?_
   refine Zn (ι := {x : Nat × List Int // x.1 ≤ t.nst ∧ x.2.length = t.nst ∧ ∀ j, j < x.1 → io x.2 j = -1}) (fun x => ⟨[(1, .slice a tb.length c), (2, .pointer (some ⟨b2, 0, none⟩)), (6, .slice (some ⟨b20, 0, none⟩) t.nst t.nst), (7, .int .i64 x.1.1)], (b20, cel 3 (ZT (x.1.2))) :: (b2, cel 96 (twl t (t.sl (some ⟨ba, oa, none⟩) ca))) :: H, R⟩) (fun x => t.nst - x.1.1) ⟨(0, List.replicate t.nst 0), by omega, by simp, by omega⟩ ?_ (fun x => ?_)
   ·
    exact Z0i (by repeat' first | exact Sub.nil | apply Sub.cons | rfl | (simp [lk]; omega)) (fun _ h => h)
   ·
    obtain ⟨⟨i, la⟩, hi, hll, hin⟩ := x
    dsimp only at hi hll hin ⊢
    refine Z0 ?_
    refine Z0 ?_
    refine Z1 [0, 1, 2, 3] rfl ?_
    refine sp rfl (PE.move rfl) rfl ?_
    refine sp rfl (PE.move rfl) rfl ?_
    refine sp rfl (PE.lenSl Z0p rfl) rfl ?_
    refine sp rfl (PE.lss rfl rfl) rfl ?_
    refine Z5 rfl (fun hc1 => ?_) (fun hc1 => ?_)
    ·
     try simp only [decide_eq_true_eq, decide_eq_false_iff_not, Bool.and_eq_true, Bool.or_eq_true, Bool.not_eq_true', Int.not_le, Int.not_lt] at hc1
     refine Z3 ?_
     refine Z0 ?_
     refine Z7 ?_
     refine Z1 [0, 1, 2, 3] rfl ?_
     refine sp rfl (PE.move rfl) rfl ?_
     refine sp rfl (PE.move rfl) rfl ?_
     refine sp rfl (PE.indexAddr Z0N rfl rfl (by omega) (by omega)) rfl ?_
     refine Z2R (l' := ZT (la.set i (-1))) rfl rfl rfl cn3 rfl rfl rfl (Z4B (i := i) (by omega) (by omega)) (by rw [Zp]; show 0 + ((i : Nat) : Int).toNat * 1 + 1 ≤ _; omega) ?_
     refine Z1 [0, 1, 2] rfl ?_
     refine sp rfl (PE.move rfl) rfl ?_
     refine sp rfl (PE.add rfl rfl (by omega)) rfl ?_
     refine sp rfl (PE.assign rfl) rfl ?_
     exact Zb ⟨(i + 1, la.set i (-1)), by omega, by simp [hll], fun j hj => by
       rw [Z0z (by omega)]
       by_cases e : i = j
       · simp [e]
       · simp only [e, decide_false, cond_false]; exact hin j (by dsimp only at hj; omega)⟩ (by dsimp only; omega) (by repeat' first | exact Sub.nil | apply Sub.cons | rfl | (simp [lk]; omega)) (fun _ h => h)
    ·
     try simp only [decide_eq_true_eq, decide_eq_false_iff_not, Bool.and_eq_true, Bool.or_eq_true, Bool.not_eq_true', Int.not_le, Int.not_lt] at hc1
     obtain rfl : i = t.nst := by omega
     refine Zk ?_
     refine Zl ?_
     refine Zl ?_
     refine ZH ?_
     refine Z0 ?_
     refine Z1 [0] rfl ?_
     refine sp rfl (PE.assign rfl) rfl ?_
     refine Z0 ?_
     refine Z0 ?_
     refine Z1 [0] rfl ?_
     refine sp rfl (PE.assign rfl) rfl ?_
     refine Z7 ?_
     refine Zn (ι := {x : Nat × List Int × List Int × Bool // x.1 ≤ tb.length ∧ Rel t x.2.1 x.2.2.1 ∧ (∀ u, u.right t = true → -1 ≤ lat x.2.2.1 u) ∧ feedScan t tb false (Z6w t) = feedScan t (tb.drop x.1) x.2.2.2 x.2.2.1}) (fun x => ⟨[(1, .slice a tb.length c), (2, .pointer (some ⟨b2, 0, none⟩)), (6, .slice (some ⟨b20, 0, none⟩) t.nst t.nst), (8, .bool x.1.2.2.2), (9, .int .i64 x.1.1)], (b20, cel 3 (ZT (x.1.2.1))) :: (b2, cel 96 (twl t (t.sl (some ⟨ba, oa, none⟩) ca))) :: H, R⟩) (fun x => tb.length - x.1.1) ⟨(0, la, Z6w t, false), by omega, ⟨hll, Z7A t, fun u hu => by rw [hin _ (ZR hu), Z5u ht (ZW hu)]⟩, fun u hu => by rw [Z5u ht (ZW hu)]; omega, rfl⟩ ?_ (fun x => ?_)
     ·
      exact Z0i (by repeat' first | exact Sub.nil | apply Sub.cons | rfl | (simp [lk]; omega)) (fun _ h => h)
     ·
      obtain ⟨⟨k, lb, y, tw⟩, hk, hrel, hge, hscan⟩ := x
      dsimp only at hk hrel hge hscan ⊢
      refine Z0 ?_
      refine Z0 ?_
      refine Z1 [0, 1, 2, 3] rfl ?_
      refine sp rfl (PE.move rfl) rfl ?_
      refine sp rfl (PE.move rfl) rfl ?_
      refine sp rfl (PE.lenSl Z9t rfl) rfl ?_
      refine sp rfl (PE.lss rfl rfl) rfl ?_
      refine Z5 rfl (fun hc2 => ?_) (fun hc2 => ?_)
      ·
       try simp only [decide_eq_true_eq, decide_eq_false_iff_not, Bool.and_eq_true, Bool.or_eq_true, Bool.not_eq_true', Int.not_le, Int.not_lt] at hc2
       obtain ⟨x, hx⟩ : ∃ x, tb[k]? = some x := ⟨_, List.getElem?_eq_getElem (by omega)⟩
       have hxm := List.mem_of_getElem? hx
       refine Zw (a := a) (sz := 5) (rows := Zt tb) (by intro h0; simp [Zt] at h0; simp [h0] at hx) (fun bb ob he => ?_)
       subst he
       rw [Z40 hx] at hscan
       refine Z3 ?_
       refine Z0 ?_
       refine Z7 ?_
       refine Z0 ?_
       refine Z1 [0, 1, 2, 3, 4, 5] rfl ?_
       refine sp rfl (PE.move rfl) rfl ?_
       refine sp rfl (PE.move rfl) rfl ?_
       refine sp rfl (PE.indexAddr ZaW rfl rfl (by omega) (by omega)) rfl ?_
       refine spL rfl rfl (lfA (row := Z5S x) ZeF (Z6b hx) rfl) rfl ?_
       refine alc rfl ZbX rfl (fun b10 => ?_)
       refine sto rfl rfl rfl Zf4 rfl rfl rfl rfl ?_
       refine Z0 ?_
       refine Z0 ?_
       refine Z1 [0, 1, 2, 3, 4, 5, 6, 7, 8, 9] rfl ?_
       refine spL rfl rfl (lhA [_, _, _, _, _, _, _, _, _, _, _] Z0c rfl rfl rfl) rfl ?_
       refine sp rfl (PE.fieldAddr Z3C rfl) rfl ?_
       refine spL rfl rfl (lhA [_, _, _] Z0w rfl rfl rfl) rfl ?_
       refine clV rfl Zah rfl rfl (Z3c t x.st _ _ _) ?_
       refine sp rfl (PE.not rfl) rfl ?_
       refine sp rfl (PE.move rfl) rfl ?_
       refine Zg (t := 45) rfl (fun g45 => ?_) (fun g45 => ?_)
       ·
        have hbad : (x.st.right t && inb x.lasts 0 1000000) = false := by rw [show x.st.right t = false from by simpa using g45]; rfl
        refine spN rfl rfl rfl rfl rfl rfl rfl rfl ?_
        refine spN rfl rfl rfl rfl rfl rfl rfl rfl ?_
        refine spN rfl rfl rfl rfl rfl rfl rfl rfl ?_
        refine sp rfl (PE.pick rfl rfl rfl) rfl ?_
        refine Zm rfl ?_
        refine Z0 ?_
        refine Z1 [0, 1] rfl ?_
        refine sp rfl (PE.assign rfl) rfl ?_
        refine sp rfl (PE.assign rfl) rfl ?_
        refine Z4 ?_
        first
          | exact Z2 (vs := [_, _]) rfl (.cons (RV.tmp rfl) (.cons (RV.tmp rfl) .nil)) (by rw [hres]; rfl) ⟨rfl, rfl, rfl⟩ drp
          | exact Z2 (vs := [_, _]) rfl (.cons (RV.tmp rfl) (.cons (RV.tmp rfl) .nil)) (by rw [Z0g hck (by omega) (hscan.trans (Z1d hbad))]; rfl) ⟨rfl, rfl, rfl⟩ drp
       ·
        have hxr : x.st.right t = true := by simpa using g45
        refine spG rfl rfl rfl rfl (PE.fieldAddr Z5H rfl) rfl ?_
        refine Z03 rfl rfl rfl rfl rfl (lh sc3 rfl rfl) rfl ?_
        refine Z0k rfl rfl rfl rfl Z1R rfl rfl (Z1S _ _ _ _ _) ?_
        refine sp rfl (PE.pick rfl rfl rfl) rfl ?_
        refine Z5 rfl (fun hc3 => ?_) (fun hc3 => ?_)
        ·
         have hbad : (x.st.right t && inb x.lasts 0 1000000) = false := by rw [hxr, show inb x.lasts 0 1000000 = false from by rw [← Bool.not_eq_true']; exact hc3]; rfl
         refine Z0 ?_
         refine Z1 [0, 1] rfl ?_
         refine sp rfl (PE.assign rfl) rfl ?_
         refine sp rfl (PE.assign rfl) rfl ?_
         refine Z4 ?_
         first
           | exact Z2 (vs := [_, _]) rfl (.cons (RV.tmp rfl) (.cons (RV.tmp rfl) .nil)) (by rw [hres]; rfl) ⟨rfl, rfl, rfl⟩ drp
           | exact Z2 (vs := [_, _]) rfl (.cons (RV.tmp rfl) (.cons (RV.tmp rfl) .nil)) (by rw [Z0g hck (by omega) (hscan.trans (Z1d hbad))]; rfl) ⟨rfl, rfl, rfl⟩ drp
        ·
         have hib : inb x.lasts 0 1000000 = true := by rw [← Bool.not_eq_false']; exact hc3
         have hgood : (x.st.right t && inb x.lasts 0 1000000) = true := by rw [hxr, hib]; rfl
         simp only [inb, Bool.and_eq_true, decide_eq_true_eq] at hib
         refine Z3 ?_
         refine Z0 ?_
         refine Z0 ?_
         refine Z1 [0, 1, 2, 3, 4, 5, 6] rfl ?_
         refine spL rfl rfl (lhA [_, _, _, _, _, _, _, _, _, _, _] Z0c rfl rfl rfl) rfl ?_
         refine sp rfl (PE.fieldAddr Z3C rfl) rfl ?_
         refine spL rfl rfl (lhA [_, _, _] Z0w rfl rfl rfl) rfl ?_
         refine sp rfl (PE.fieldAddr Zap rfl) rfl ?_
         refine spL rfl rfl (lh sc3 rfl rfl) rfl ?_
         refine clV rfl Zdw rfl rfl (Z9k t x.st x.ration ba oa ca (by have := ht.many; omega) _ _) ?_
         refine sp rfl (PE.assign rfl) rfl ?_
         refine Z0 ?_
         refine Z1 [0, 1] rfl ?_
         refine sp rfl (PE.move rfl) rfl ?_
         refine sp rfl (PE.neq rfl rfl) rfl ?_
         refine Z5 rfl (fun hc4 => ?_) (fun hc4 => ?_)
         ·
          try simp only [decide_eq_true_eq, decide_eq_false_iff_not, Bool.and_eq_true, Bool.or_eq_true, Bool.not_eq_true', Int.not_le, Int.not_lt] at hc4
          have hres := Z0g hck (by omega) (hscan.trans (Z93 hgood hc4))
          refine Z0 ?_
          refine Z1 [0, 1, 2] rfl ?_
          refine sp rfl (PE.move rfl) rfl ?_
          refine sp rfl (PE.assign rfl) rfl ?_
          refine sp rfl (PE.assign rfl) rfl ?_
          refine Z4 ?_
          first
            | exact Z2 (vs := [_, _]) rfl (.cons (RV.tmp rfl) (.cons (RV.tmp rfl) .nil)) (by rw [hres]; rfl) ⟨rfl, rfl, rfl⟩ drp
            | exact Z2 (vs := [_, _]) rfl (.cons (RV.tmp rfl) (.cons (RV.tmp rfl) .nil)) (by rw [Z0g hck (by omega) (hscan.trans (Z1d hbad))]; rfl) ⟨rfl, rfl, rfl⟩ drp
         ·
          try simp only [decide_eq_true_eq, decide_eq_false_iff_not, Bool.and_eq_true, Bool.or_eq_true, Bool.not_eq_true', Int.not_le, Int.not_lt] at hc4
          
          refine Z3 ?_
          refine Z0 ?_
          refine Z0 ?_
          refine Z1 [0, 1, 2, 3, 4, 5, 6, 7] rfl ?_
          refine sp rfl (PE.move rfl) rfl ?_
          refine spL rfl rfl (lhA [_, _, _, _, _, _, _, _, _, _, _] Z0c rfl rfl rfl) rfl ?_
          refine sp rfl (PE.fieldAddr Z3C rfl) rfl ?_
          refine spL rfl rfl (lhA [_, _, _] Z0w rfl rfl rfl) rfl ?_
          refine clV rfl Z3Q rfl rfl (Z0O t ht x.st hxr _ _ _) ?_
          refine sp rfl (PE.indexAddr Z0N rfl rfl (by omega) (by have := ZR hxr; omega)) rfl ?_
          refine spL rfl rfl (lh (v := .int .i64 (lat y x.st)) sc3 rfl (Z6V (i := ixr t x.st) (by rw [← hrel.at_ _ hxr]; exact Zbt (by rw [hrel.len]; exact ZR hxr)) (by omega))) rfl ?_
          refine sp rfl (PE.geq rfl rfl) rfl ?_
          refine Z5 rfl (fun hc5 => ?_) (fun hc5 => ?_)
          ·
           try simp only [decide_eq_true_eq, decide_eq_false_iff_not, Bool.and_eq_true, Bool.or_eq_true, Bool.not_eq_true', Int.not_le, Int.not_lt] at hc5
           have htw : (tw || decide (lat y x.st ≠ -1)) = true := by rw [decide_eq_true (show lat y x.st ≠ -1 by omega)]; simp
           refine Z1 [0] rfl ?_
           refine sp rfl (PE.assign rfl) rfl ?_
           refine Ze [0, 0, 0, 4, 14, 0, 32, 127, 255] (.tk 0 (.ld 1 (.tk 2 (.ld 3 (.tk 5 (.ld 6 (.big 4 (.tk 7 (.big 8 .done))))))))) Zy (by kernel_rfl) ?_
           refine tk rfl (PE.move rfl) rfl ?_
           refine ld rfl rfl (lhA [_, _, _, _, _, _, _, _, _, _, _] Z0c rfl rfl rfl) rfl ?_
           refine tk rfl (PE.fieldAddr Z3C rfl) rfl ?_
           refine ld rfl rfl (lhA [_, _, _] Z0w rfl rfl rfl) rfl ?_
           refine tk rfl (PE.fieldAddr Z5H rfl) rfl ?_
           refine ld rfl rfl (lh sc3 rfl rfl) rfl ?_
           refine clV rfl Z3Q rfl rfl (Z0O t ht x.st hxr _ _ _) ?_
           refine bg (fun w hs => ⟨(lh sc3 rfl rfl) w hs, trivial, trivial, trivial⟩) ?_
           refine tk rfl (PE.indexAddr Z0N rfl rfl (by omega) (by have := ZR hxr; omega)) rfl ?_
           refine Z2R (l' := ZT (lb.set (ixr t x.st) x.lasts)) rfl rfl rfl cn3 rfl rfl rfl (Z4B (i := ixr t x.st) (by rw [hrel.len]; exact ZR hxr) (by omega)) (by rw [Zp, hrel.len]; have := ZR hxr; show 0 + ((ixr t x.st : Nat) : Int).toNat * 1 + 1 ≤ _; omega) ?_
           refine bg (fun w hs => ⟨trivial, trivial⟩) ?_
           refine Z1 [0, 1, 2] rfl ?_
           refine sp rfl (PE.move rfl) rfl ?_
           refine sp rfl (PE.add rfl rfl (by omega)) rfl ?_
           refine sp rfl (PE.assign rfl) rfl ?_
           have hs2 := hscan.trans (Zag hgood (by omega))
           rw [htw] at hs2
           exact Zb ⟨(k + 1, _, _, _), by omega, hrel.set ht hxr x.lasts, fun u hu => by
             by_cases e : x.st.ix = u.ix
             · obtain rfl := Z2n ht hxr hu e
               dsimp only; rw [ZX (by rw [hrel.ylen]; exact Z2A ht hxr)]; omega
             · dsimp only; rw [Z0h e]; exact hge u hu, hs2⟩ (by dsimp only; omega) (by repeat' first | exact Sub.nil | apply Sub.cons | rfl | (simp [lk]; omega)) (fun w h => h.del b10)
          ·
           try simp only [decide_eq_true_eq, decide_eq_false_iff_not, Bool.and_eq_true, Bool.or_eq_true, Bool.not_eq_true', Int.not_le, Int.not_lt] at hc5
           have htw : (tw || decide (lat y x.st ≠ -1)) = tw := by rw [decide_eq_false (show ¬ lat y x.st ≠ -1 by have := hge _ hxr; omega)]; simp
           refine Z3 ?_
           refine Ze [0, 0, 0, 4, 14, 0, 32, 127, 255] (.tk 0 (.ld 1 (.tk 2 (.ld 3 (.tk 5 (.ld 6 (.big 4 (.tk 7 (.big 8 .done))))))))) Zy (by kernel_rfl) ?_
           refine tk rfl (PE.move rfl) rfl ?_
           refine ld rfl rfl (lhA [_, _, _, _, _, _, _, _, _, _, _] Z0c rfl rfl rfl) rfl ?_
           refine tk rfl (PE.fieldAddr Z3C rfl) rfl ?_
           refine ld rfl rfl (lhA [_, _, _] Z0w rfl rfl rfl) rfl ?_
           refine tk rfl (PE.fieldAddr Z5H rfl) rfl ?_
           refine ld rfl rfl (lh sc3 rfl rfl) rfl ?_
           refine clV rfl Z3Q rfl rfl (Z0O t ht x.st hxr _ _ _) ?_
           refine bg (fun w hs => ⟨(lh sc3 rfl rfl) w hs, trivial, trivial, trivial⟩) ?_
           refine tk rfl (PE.indexAddr Z0N rfl rfl (by omega) (by have := ZR hxr; omega)) rfl ?_
           refine Z2R (l' := ZT (lb.set (ixr t x.st) x.lasts)) rfl rfl rfl cn3 rfl rfl rfl (Z4B (i := ixr t x.st) (by rw [hrel.len]; exact ZR hxr) (by omega)) (by rw [Zp, hrel.len]; have := ZR hxr; show 0 + ((ixr t x.st : Nat) : Int).toNat * 1 + 1 ≤ _; omega) ?_
           refine bg (fun w hs => ⟨trivial, trivial⟩) ?_
           refine Z1 [0, 1, 2] rfl ?_
           refine sp rfl (PE.move rfl) rfl ?_
           refine sp rfl (PE.add rfl rfl (by omega)) rfl ?_
           refine sp rfl (PE.assign rfl) rfl ?_
           have hs2 := hscan.trans (Zag hgood (by omega))
           rw [htw] at hs2
           exact Zb ⟨(k + 1, _, _, _), by omega, hrel.set ht hxr x.lasts, fun u hu => by
             by_cases e : x.st.ix = u.ix
             · obtain rfl := Z2n ht hxr hu e
               dsimp only; rw [ZX (by rw [hrel.ylen]; exact Z2A ht hxr)]; omega
             · dsimp only; rw [Z0h e]; exact hge u hu, hs2⟩ (by dsimp only; omega) (by repeat' first | exact Sub.nil | apply Sub.cons | rfl | (simp [lk]; omega)) (fun w h => h.del b10)
      ·
       try simp only [decide_eq_true_eq, decide_eq_false_iff_not, Bool.and_eq_true, Bool.or_eq_true, Bool.not_eq_true', Int.not_le, Int.not_lt] at hc2
       obtain rfl : k = tb.length := by omega
       rw [List.drop_length] at hscan
       have hfr := Z2v hck (by omega) hscan
       have hall := Z2F tb _ _ _ hscan
       refine Zk ?_
       refine Zl ?_
       refine Zl ?_
       refine ZH ?_
       refine Z0 ?_
       refine Z0 ?_
       refine Z1 [0] rfl ?_
       refine sp rfl (PE.move rfl) rfl ?_
       refine Z5 rfl (fun hc6 => ?_) (fun hc6 => ?_)
       ·
        try simp only [decide_eq_true_eq, decide_eq_false_iff_not, Bool.and_eq_true, Bool.or_eq_true, Bool.not_eq_true', Int.not_le, Int.not_lt] at hc6
        have hres : ZJ t tb = (0, 5) := by rw [hfr, hc6]; rfl
        refine Z0 ?_
        refine Z1 [0, 1] rfl ?_
        refine sp rfl (PE.assign rfl) rfl ?_
        refine sp rfl (PE.assign rfl) rfl ?_
        refine Z4 ?_
        first
          | exact Z2 (vs := [_, _]) rfl (.cons (RV.tmp rfl) (.cons (RV.tmp rfl) .nil)) (by rw [hres]; rfl) ⟨rfl, rfl, rfl⟩ drp
          | exact Z2 (vs := [_, _]) rfl (.cons (RV.tmp rfl) (.cons (RV.tmp rfl) .nil)) (by rw [Z0g hck (by omega) (hscan.trans (Z1d hbad))]; rfl) ⟨rfl, rfl, rfl⟩ drp
       ·
        rw [hc6] at hfr
        refine Sy.heap (fun w h => St.intRows h) ?_
        refine Z3 ?_
        refine Z0 ?_
        refine Z0 ?_
        refine Z1 [0] rfl ?_
        refine sp rfl (PE.assign rfl) rfl ?_
        refine Z7 ?_
        refine Zn (ι := {k : Nat // k ≤ tb.length ∧ ∀ x ∈ tb.take k, Z0j t y x = true}) (fun k => ⟨[(1, .slice a tb.length c), (2, .pointer (some ⟨b2, 0, none⟩)), (6, .slice (some ⟨b20, 0, none⟩) t.nst t.nst), (12, .int .i64 k.1)], (b2, cel 96 (twl t (t.sl (some ⟨ba, oa, none⟩) ca))) :: H, RowsA (some ⟨b20, 0, none⟩) 1 (Zh lb) :: R⟩) (fun k => tb.length - k.1) ⟨0, by omega, by simp⟩ ?_ (fun k => ?_)
        ·
         exact Z0i (by repeat' first | exact Sub.nil | apply Sub.cons | rfl | (simp [lk]; omega)) (fun _ h => h)
        ·
         obtain ⟨k, hk, hke⟩ := k
         dsimp only
         refine Z0 ?_
         refine Z0 ?_
         refine Z1 [0, 1, 2, 3] rfl ?_
         refine sp rfl (PE.move rfl) rfl ?_
         refine sp rfl (PE.move rfl) rfl ?_
         refine sp rfl (PE.lenSl Z9t rfl) rfl ?_
         refine sp rfl (PE.lss rfl rfl) rfl ?_
         refine Z5 rfl (fun hc7 => ?_) (fun hc7 => ?_)
         ·
          try simp only [decide_eq_true_eq, decide_eq_false_iff_not, Bool.and_eq_true, Bool.or_eq_true, Bool.not_eq_true', Int.not_le, Int.not_lt] at hc7
          obtain ⟨x, hx⟩ : ∃ x, tb[k]? = some x := ⟨_, List.getElem?_eq_getElem (by omega)⟩
          have hxm := List.mem_of_getElem? hx
          refine Zw (a := a) (sz := 5) (rows := Zt tb) (by intro h0; simp [Zt] at h0; simp [h0] at hx) (fun bb ob he => ?_)
          subst he
          obtain ⟨hxr, hxl, q, hrt, hcan⟩ := hall x hxm
          obtain ⟨h0, hq⟩ := rat_iff.1 hrt
          have htk : Z0j t y x = t.keeps y x.st q x.lasts := by unfold Z0j; rw [hrt]
          refine Z3 ?_
          refine Z0 ?_
          refine Z7 ?_
          refine Z0 ?_
          refine Ze [0, 0, 0, 0, 12, 28, 60, 0, 0, 384, 896, 1920, 0, 0, 12288, 28672, 61440, 131071, 262143] (.ld 0 (.tk 1 (.tk 2 (.tk 3 (.tk 4 (.tk 5 (.ld 6 (.tk 7 (.tk 8 (.tk 9 (.tk 10 (.ld 11 (.tk 12 (.tk 13 (.tk 14 (.tk 15 (.ld 16 (.big 17 (.tk 18 .done))))))))))))))))))) Zy (by kernel_rfl) ?_
          refine ld rfl rfl (lhA [_, _, _, _, _, _, _, _, _, _, _] Z0c rfl rfl rfl) rfl ?_
          refine tk rfl (PE.move rfl) rfl ?_
          refine tk rfl (PE.move rfl) rfl ?_
          refine tk rfl (PE.move rfl) rfl ?_
          refine tk rfl (PE.indexAddr ZaW rfl rfl (by omega) (by omega)) rfl ?_
          refine tk rfl (PE.fieldAddr Z3C rfl) rfl ?_
          refine ld rfl rfl (Zfn (j := 0) (row := Z5S x) [_, _, _] Z0w (Z6b hx) rfl rfl) rfl ?_
          refine tk rfl (PE.move rfl) rfl ?_
          refine tk rfl (PE.move rfl) rfl ?_
          refine tk rfl (PE.indexAddr ZaW rfl rfl (by omega) (by omega)) rfl ?_
          refine tk rfl (PE.fieldAddr Zap rfl) rfl ?_
          refine ld rfl rfl (lf (x := .int .i64 x.ration) sc3 (Z6b hx) rfl) rfl ?_
          refine tk rfl (PE.move rfl) rfl ?_
          refine tk rfl (PE.move rfl) rfl ?_
          refine tk rfl (PE.indexAddr ZaW rfl rfl (by omega) (by omega)) rfl ?_
          refine tk rfl (PE.fieldAddr Z5H rfl) rfl ?_
          refine ld rfl rfl (lf (x := .int .i64 x.lasts) sc3 (Z6b hx) rfl) rfl ?_
          refine clV rfl Ze6 rfl rfl (Z7S t ht x.st hxr x.ration q h0 hq x.lasts hxl ba oa ca lb y hrel b20 0 t.nst _ _) ?_
          refine bg (fun w hs => ⟨trivial, trivial, trivial, trivial, trivial⟩) ?_
          refine tk rfl (PE.not rfl) rfl ?_
          refine Z5 rfl (fun hc8 => ?_) (fun hc8 => ?_)
          ·
           have hres : ZJ t tb = (0, 8) := by
             rw [hfr]; unfold Z2d
             rw [show tb.all (Z0j t y) = false from List.all_eq_false.2 ⟨x, hxm, by rw [htk]; simpa using hc8⟩]; rfl
           refine Z0 ?_
           refine Z1 [0, 1] rfl ?_
           refine sp rfl (PE.assign rfl) rfl ?_
           refine sp rfl (PE.assign rfl) rfl ?_
           refine Z4 ?_
           first
             | exact Z2 (vs := [_, _]) rfl (.cons (RV.tmp rfl) (.cons (RV.tmp rfl) .nil)) (by rw [hres]; rfl) ⟨rfl, rfl, rfl⟩ drp
             | exact Z2 (vs := [_, _]) rfl (.cons (RV.tmp rfl) (.cons (RV.tmp rfl) .nil)) (by rw [Z0g hck (by omega) (hscan.trans (Z1d hbad))]; rfl) ⟨rfl, rfl, rfl⟩ drp
          ·
           have hkp : Z0j t y x = true := by rw [htk]; simpa using hc8
           refine Z3 ?_
           refine Z1 [0, 1, 2] rfl ?_
           refine sp rfl (PE.move rfl) rfl ?_
           refine sp rfl (PE.add rfl rfl (by omega)) rfl ?_
           refine sp rfl (PE.assign rfl) rfl ?_
           exact Zb ⟨k + 1, by omega, fun z hz => by
             rw [List.take_add_one, hx] at hz
             rcases List.mem_append.1 hz with h | h
             · exact hke z h
             · simp only [Option.toList_some, List.mem_singleton] at h; subst h; exact hkp⟩ (by dsimp only; omega) (by repeat' first | exact Sub.nil | apply Sub.cons | rfl | (simp [lk]; omega)) (fun _ h => h)
         ·
          try simp only [decide_eq_true_eq, decide_eq_false_iff_not, Bool.and_eq_true, Bool.or_eq_true, Bool.not_eq_true', Int.not_le, Int.not_lt] at hc7
          obtain rfl : k = tb.length := by omega
          rw [List.take_length] at hke
          have hfe : ZJ t tb = bif decide (lat y t.now = -1) then (0, 6) else (lat y t.now, 0) := by rw [hfr]; unfold Z2d; rw [List.all_eq_true.2 hke]; rfl
          refine Zk ?_
          refine Zl ?_
          refine Zl ?_
          refine ZH ?_
          refine Z0 ?_
          refine Z0 ?_
          refine Z1 [0, 1, 2, 3, 4, 5, 6, 7] rfl ?_
          refine sp rfl (PE.move rfl) rfl ?_
          refine spL rfl rfl (lhA [_, _, _, _, _, _, _, _, _, _, _] Z0c rfl rfl rfl) rfl ?_
          refine sp rfl (PE.fieldAddr Z1G rfl) rfl ?_
          refine spL rfl rfl (lhA [_, _, _] Z0w rfl rfl rfl) rfl ?_
          refine clV rfl Z3Q rfl rfl (Z0O t ht t.now ht.now _ _ _) ?_
          refine sp rfl (PE.indexAddr Z0N rfl rfl (by omega) (by have := ZR ht.now; omega)) rfl ?_
          refine spL rfl rfl (lf0 (x := .int .i64 (lat y t.now)) sc3 (Z5X hrel ht.now) rfl) rfl ?_
          refine sp rfl (PE.assign rfl) rfl ?_
          refine Z0 ?_
          refine Z1 [0, 1] rfl ?_
          refine sp rfl (PE.move rfl) rfl ?_
          refine sp rfl (PE.geq rfl rfl) rfl ?_
          refine Z5 rfl (fun hc9 => ?_) (fun hc9 => ?_)
          ·
           try simp only [decide_eq_true_eq, decide_eq_false_iff_not, Bool.and_eq_true, Bool.or_eq_true, Bool.not_eq_true', Int.not_le, Int.not_lt] at hc9
           have hres : ZJ t tb = (lat y t.now, 0) := by rw [hfe, decide_eq_false (by omega)]; rfl
           refine Z0 ?_
           refine Z1 [0, 1, 2] rfl ?_
           refine sp rfl (PE.move rfl) rfl ?_
           refine sp rfl (PE.assign rfl) rfl ?_
           refine sp rfl (PE.assign rfl) rfl ?_
           refine Z4 ?_
           first
             | exact Z2 (vs := [_, _]) rfl (.cons (RV.tmp rfl) (.cons (RV.tmp rfl) .nil)) (by rw [hres]; rfl) ⟨rfl, rfl, rfl⟩ drp
             | exact Z2 (vs := [_, _]) rfl (.cons (RV.tmp rfl) (.cons (RV.tmp rfl) .nil)) (by rw [Z0g hck (by omega) (hscan.trans (Z1d hbad))]; rfl) ⟨rfl, rfl, rfl⟩ drp
          ·
           try simp only [decide_eq_true_eq, decide_eq_false_iff_not, Bool.and_eq_true, Bool.or_eq_true, Bool.not_eq_true', Int.not_le, Int.not_lt] at hc9
           have hres : ZJ t tb = (0, 6) := by rw [hfe, decide_eq_true (by have := hge _ ht.now; omega)]; rfl
           refine Z3 ?_
           refine Z0 ?_
           refine Z1 [0, 1] rfl ?_
           refine sp rfl (PE.assign rfl) rfl ?_
           refine sp rfl (PE.assign rfl) rfl ?_
           refine Z4 ?_
           first
             | exact Z2 (vs := [_, _]) rfl (.cons (RV.tmp rfl) (.cons (RV.tmp rfl) .nil)) (by rw [hres]; rfl) ⟨rfl, rfl, rfl⟩ drp
             | exact Z2 (vs := [_, _]) rfl (.cons (RV.tmp rfl) (.cons (RV.tmp rfl) .nil)) (by rw [Z0g hck (by omega) (hscan.trans (Z1d hbad))]; rfl) ⟨rfl, rfl, rfl⟩ drp
theorem ZbD (tb : List Rw) (a : Option Addr) (c : Nat) (hl : tb.length ≤ 1000000) (H : Zj) (R : Z9) [hR : MemRows a 5 (Zt tb) R] :
    Fn Tryz.prog 64 [.slice a tb.length c] H R (fun v H' R' => ∃ a' c', v = .slice a' tb.length c' ∧ H' = H ∧ R' = RowsA a' 5 (Zt tb) :: R) := by
  refine Zq Tryz.func64 rfl Tryz.ntmps64 rfl ?_
  refine Z0 ?_
  refine Z1 [0] rfl ?_
  refine sp rfl (PE.assign rfl) rfl ?_
  refine Z0 ?_
  refine Z1 [0] rfl ?_
  refine sp rfl (PE.assign rfl) rfl ?_
  refine Z0 ?_
  refine Z0 ?_
  refine Z1 [0, 1, 2] rfl ?_
  refine sp rfl (PE.move rfl) rfl ?_
  refine sp rfl (PE.lenSl Z3R rfl) rfl ?_
  refine sp rfl (PE.move rfl) rfl ?_
  refine Z7 ?_
  refine Zn (ι := (k : {k : Nat // k ≤ tb.length}) × OSl 157 5 (Zt (tb.take k.1))) (fun x => ⟨[(3, x.2.fs), (6, .slice a tb.length c), (7, .int .i64 tb.length), (8, .int .i64 x.1.1)], x.2.G ++ H, R⟩) (fun x => tb.length - x.1.1) ⟨⟨0, by omega⟩, (OSl.nil _ _).cast (by simp [Zt])⟩ ?_ (fun x => ?_)
  ·
   exact Z0i (by repeat' first | exact Sub.nil | apply Sub.cons | rfl | (simp [lk]; omega)) (fun _ h => h)
  ·
   obtain ⟨⟨k, hk⟩, o'⟩ := x
   dsimp only at o' ⊢
   refine Z0 ?_
   refine Z1 [0] rfl ?_
   refine sp rfl (PE.lss rfl rfl) rfl ?_
   refine Z0 ?_
   refine Z5 rfl (fun hc0 => ?_) (fun hc0 => ?_)
   ·
    try simp only [decide_eq_true_eq, decide_eq_false_iff_not, Bool.and_eq_true, Bool.or_eq_true, Bool.not_eq_true', Int.not_le, Int.not_lt] at hc0
    obtain ⟨x, hx⟩ : ∃ x, tb[k]? = some x := ⟨_, List.getElem?_eq_getElem (by omega)⟩
    refine Zw (a := a) (sz := 5) (rows := Zt tb) (by intro h0; simp [Zt] at h0; simp [h0] at hx) (fun b off he => ?_)
    subst he
    refine Z3 ?_
    refine Z0 ?_
    refine Z7 ?_
    refine Z0 ?_
    refine Z1 [0, 1, 2, 3] rfl ?_
    refine sp rfl (PE.indexAddr Zbq rfl rfl (by omega) (by omega)) rfl ?_
    refine spL rfl rfl (lfA (row := Z5S x) Ze3 (Z6b hx) rfl) rfl ?_
    refine alc rfl Z48 rfl (fun b5 => ?_)
    refine sto rfl rfl rfl Zfi rfl rfl rfl rfl ?_
    refine Z1 [0, 1, 2, 3, 4, 5, 6, 7, 8, 9, 10] rfl ?_
    refine sp rfl (PE.move rfl) rfl ?_
    refine sp rfl (PE.fieldAddr Z7y rfl) rfl ?_
    refine spL rfl rfl (lhA [_, _, _] ZF rfl rfl rfl) rfl ?_
    refine sp rfl (PE.fieldAddr Z4Y rfl) rfl ?_
    refine spL rfl rfl (lh sc3 rfl rfl) rfl ?_
    refine sp rfl (PE.fieldAddr Z6x rfl) rfl ?_
    refine spL rfl rfl (lh sc3 rfl rfl) rfl ?_
    refine sp rfl (PE.build (out := [_, _, _, _, _]) ZeI ZbX rfl rfl) rfl ?_
    refine bsl (out := [_, _, _, _, _]) rfl ZeA ZbX rfl rfl rfl rfl rfl rfl (fun b20 => ?_)
    refine apO (o') rfl Zfo rfl rfl (Z3e (row := Z5S x) rfl) rfl rfl ((by simp only [Zt, List.length_map, List.length_take, List.length_singleton]; omega)) rfl (fun o21 => ?_)
    refine sp rfl (PE.assign rfl) rfl ?_
    refine Z1 [0, 1] rfl ?_
    refine sp rfl (PE.add rfl rfl (by omega)) rfl ?_
    refine sp rfl (PE.move rfl) rfl ?_
    exact Zb ⟨⟨k + 1, by omega⟩, o21.cast (by rw [List.take_add_one, hx]; simp [Zt])⟩ (by dsimp only; omega) (by repeat' first | exact Sub.nil | apply Sub.cons | rfl | (simp [lk]; omega)) (fun w h => (h.del b20).del b5)
   ·
    try simp only [decide_eq_true_eq, decide_eq_false_iff_not, Bool.and_eq_true, Bool.or_eq_true, Bool.not_eq_true', Int.not_le, Int.not_lt] at hc0
    obtain rfl : k = tb.length := by omega
    obtain ⟨a', c', he, hf⟩ := (o'.cast (by rw [List.take_length]) : OSl _ 5 (Zt tb)).freeze
    rw [show o'.fs = _ from he]
    refine Sy.heap (fun w h => hf h) ?_
    rw [show (Zt tb).length = tb.length from List.length_map _]
    refine Zk ?_
    refine Zl ?_
    refine Zl ?_
    refine ZH ?_
    refine Z0 ?_
    refine Z1 [0, 1] rfl ?_
    refine sp rfl (PE.move rfl) rfl ?_
    refine sp rfl (PE.assign rfl) rfl ?_
    refine Z4 ?_
    exact Z2 (vs := [_]) rfl (.cons (RV.tmp rfl) .nil) rfl ⟨a', c', rfl, rfl, rfl⟩ (fun _ h => h)
theorem ZdN : cal Tryz.prog 63 = true := by kernel_rfl
theorem Ze1 : cal Tryz.prog 64 = true := by kernel_rfl
theorem Zer : cal Tryz.prog 65 = true := by kernel_rfl
theorem Z8I : cal Tryz.prog 7 = true := by kernel_rfl
noncomputable def Z3z (t : Twn) : List Rw × Int := bif decide (t.check ≠ 0) then ([], t.check) else bif decide (lat (LY t) t.now = -1) then ([], 6) else (tab t (LY t), 0)
theorem Z2X {α : Type} {p q : α → Bool} : ∀ {l : List α}, (∀ x ∈ l, p x = q x) → l.findIdx? p = l.findIdx? q
  | [], _ => rfl
  | a :: l, h => by rw [List.findIdx?_cons, List.findIdx?_cons, h a (by simp), Z2X (l := l) (fun x hx => h x (by simp [hx]))]
theorem Z69 {t : Twn} (ht : t.ok) {y y' : List Int} (h : ZcV t y y') {s : Sta} (hs : s.right t = true) : Z0M t y s = Z0M t y' s := by
  unfold Z0M
  rw [← h s hs, Z2X (fun q hq => Z1U ht h hs hq _)]
theorem Z26 {α β : Type} {f g : α → Option β} : ∀ {l : List α}, (∀ x ∈ l, f x = g x) → l.filterMap f = l.filterMap g
  | [], _ => rfl
  | a :: l, h => by simp only [List.filterMap_cons, h a (by simp), Z26 (l := l) (fun x hx => h x (by simp [hx]))]
theorem Z6e {t : Twn} (ht : t.ok) {y y' : List Int} (h : ZcV t y y') : tab t y = tab t y' := Z26 fun s hs => Z69 ht h (Zv ht hs)
theorem Z79 {t : Twn} (h : t.check = 0) (hn : lat (LY t) t.now ≠ -1) : Z3z t = (tab t (LY t), 0) := by simp [Z3z, h, hn]
theorem Z5M {t : Twn} (h : t.check = 0) (hn : lat (LY t) t.now = -1) : Z3z t = ([], 6) := by simp [Z3z, h, hn]
theorem Z9h {t : Twn} (h : (Z3z t).2 ≠ 0) : (Z3z t).1 = [] := by
  unfold Z3z at h ⊢
  cases h1 : decide (t.check ≠ 0) with
  | true => rfl
  | false =>
    rw [h1] at h
    cases h2 : decide (lat (LY t) t.now = -1) with
    | true => rfl
    | false => rw [h2] at h; exact absurd rfl h
theorem Z9S {t : Twn} (h : (Z3z t).2 = 0) : t.check = 0 ∧ lat (LY t) t.now ≠ -1 ∧ Z3z t = (tab t (LY t), 0) := by
  by_cases h1 : t.check = 0
  · by_cases h2 : lat (LY t) t.now = -1
    · rw [Z5M h1 h2] at h; cases h
    · exact ⟨h1, h2, Z79 h1 h2⟩
  · exfalso; simp [Z3z, h1] at h
theorem Z83 (t : Twn) (hl : t.rats.length ≤ 9223372036854775807) (ba oa ca : Nat) (H : Zj) (R : Z9) [hR : MemRows (some ⟨ba, oa, none⟩) 2 (Zf t.rats) R] : Fn Tryz.prog 5 [t.v (t.sl (some ⟨ba, oa, none⟩) ca)] H R (fun v H' R' => ∃ o : OSl 38 5 (Zt (Z3z t).1), v = .tuple #[o.fs, .int .i64 (Z3z t).2] ∧ H' = o.G ++ H ∧ R' = R ∧ (t.check = 0 → LSA t (LY t))) := by
  refine Fn.mono (Z6Y t hl ba oa ca H R) ?_
  rintro v H' R' ⟨⟨hck, rfl, rfl⟩ | ⟨hck, σ, hσ, ⟨h1, rfl, rfl⟩ | ⟨h1, o, rfl, rfl⟩⟩, rfl⟩
  · have e : Z3z t = ([], t.check) := by simp [Z3z, hck]
    rw [e]; exact ⟨OSl.nil _ _, rfl, rfl, rfl, fun h => absurd h hck⟩
  · have hok := (Zi hck).1
    have hl := Z0P hok hσ
    rw [Z5M hck (by rw [← hl.same hok _ hok.now]; exact h1)]; exact ⟨OSl.nil _ _, rfl, rfl, rfl, fun _ => hl.ly hok⟩
  · have hok := (Zi hck).1
    have hl := Z0P hok hσ
    rw [Z79 hck (by rw [← hl.same hok _ hok.now]; exact h1), ← Z6e hok (hl.same hok)]; exact ⟨o, rfl, rfl, rfl, fun _ => hl.ly hok⟩
theorem Z5N (t : Twn) (a : Option Addr) (c : Nat) (hl : t.rats.length ≤ 9223372036854775807) (tb : List Rw) (a2 : Option Addr) (c2 : Nat) (hl2 : tb.length ≤ 9223372036854775807) (H : Zj) (R : Z9) [hR : MemRows a 2 (Zf t.rats) R] [hR2 : MemRows a2 5 (Zt tb) R] :
    Fn Tryz.prog 20 [t.v (t.sl a c), .slice a2 tb.length c2] H R (fun v H' R' => v = .bool true ∧ H' = H ∧ R' = R) := by
  refine Zq Tryz.func20 rfl Tryz.ntmps20 rfl ?_
  refine Z0 ?_
  refine Z1 [0, 1] rfl ?_
  refine bx rfl rfl rfl (fun b2 => ?_)
  refine sp rfl (PE.assign rfl) rfl ?_
  refine Z0 ?_
  refine Z0 ?_
  refine Z1 [0, 1, 2, 3, 4, 5, 6] rfl ?_
  refine spL rfl rfl (lhA [_, _, _, _, _, _, _, _, _, _, _] Zd rfl rfl rfl) rfl ?_
  refine clV rfl Zcm rfl rfl (Z9F t a c (by omega) _ _) ?_
  refine sp rfl (PE.move rfl) rfl ?_
  refine Zg (t := 19) rfl (fun g19 => ?_) (fun g19 => ?_)
  ·
   refine spN rfl rfl rfl rfl rfl rfl rfl rfl ?_
   refine spN rfl rfl rfl rfl rfl rfl rfl rfl ?_
   refine spN rfl rfl rfl rfl rfl rfl rfl rfl ?_
   refine sp rfl (PE.pick rfl rfl rfl) rfl ?_
   refine Zm rfl ?_
   refine Z0 ?_
   refine Z1 [0, 1] rfl ?_
   refine clV rfl Z1f rfl rfl (Z00 _ _) ?_
   refine sp rfl (PE.assign rfl) rfl ?_
   refine Z4 ?_
   exact Z2 (vs := [_]) rfl (.cons (RV.tmp rfl) .nil) rfl ⟨rfl, rfl, rfl⟩ drp
  ·
   have h7 := Z5y g19
   refine spG rfl rfl rfl rfl (PE.move rfl) rfl ?_
   refine spG rfl rfl rfl rfl (PE.lenSl Z3R rfl) rfl ?_
   refine spG rfl rfl rfl rfl (PE.gtr rfl rfl) rfl ?_
   refine sp rfl (PE.pick rfl rfl rfl) rfl ?_
   refine Z5 rfl (fun hc0 => ?_) (fun hc0 => ?_)
   ·
    refine Z0 ?_
    refine Z1 [0, 1] rfl ?_
    refine clV rfl Z1f rfl rfl (Z00 _ _) ?_
    refine sp rfl (PE.assign rfl) rfl ?_
    refine Z4 ?_
    exact Z2 (vs := [_]) rfl (.cons (RV.tmp rfl) .nil) rfl ⟨rfl, rfl, rfl⟩ drp
   ·
    try simp only [decide_eq_true_eq, decide_eq_false_iff_not, Bool.and_eq_true, Bool.or_eq_true, Bool.not_eq_true', Int.not_le, Int.not_lt] at hc0
    
    refine Z3 ?_
    refine Z0 ?_
    refine Z2q (ι := (Nat × Nat × Option Addr × Nat) × (Nat × Nat) × Nat × Nat) (fun z => ⟨[(1, .slice a2 tb.length c2), (2, .pointer (some ⟨b2, 0, none⟩)), (5, .pointer (some ⟨z.2.2.1, 0, none⟩)), (6, .slice (some ⟨z.2.1.1, 0, none⟩) tb.length z.2.1.2), (7, .pointer (some ⟨z.2.2.2, 0, none⟩))],
      (z.2.2.1, cel 27 (twl t (t.sl (some ⟨z.1.1, 0, none⟩) z.1.2.1))) :: (z.2.2.2, cel 96 (twl t (t.sl z.1.2.2.1 z.1.2.2.2))) :: (b2, cel 27 (twl t (t.sl a c))) :: H, RowsA z.1.2.2.1 2 (Zf t.rats) :: RowsA (some ⟨z.1.1, 0, none⟩) 2 (Zf t.rats) :: RowsA (some ⟨z.2.1.1, 0, none⟩) 5 (Zt tb) :: R⟩) ?_ ?_
    ·
     refine Ze [0, 1, 0, 7, 0, 31, 0, 0, 255, 511, 1023] (.ld 0 (.tk 2 (.ld 4 (.any (.alt 1 (.any (.alt 3 (.any (.alt 5 (.any (.alt 6 (.big 7 (.big 8 (.tk 9 (.big 10 .done)))) (.alt 7 (.big 6 (.big 8 (.tk 9 (.big 10 .done)))) .stop))) (.alt 6 (.any (.alt 5 (.big 7 (.big 8 (.tk 9 (.big 10 .done)))) (.alt 7 (.big 5 (.big 8 (.tk 9 (.big 10 .done)))) .stop))) (.alt 7 (.any (.alt 5 (.big 6 (.big 8 (.tk 9 (.big 10 .done)))) (.alt 6 (.big 5 (.big 8 (.tk 9 (.big 10 .done)))) .stop))) .stop)))) (.alt 6 (.any (.alt 3 (.any (.alt 5 (.big 7 (.big 8 (.tk 9 (.big 10 .done)))) (.alt 7 (.big 5 (.big 8 (.tk 9 (.big 10 .done)))) .stop))) (.alt 7 (.big 3 (.big 5 (.big 8 (.tk 9 (.big 10 .done))))) .stop))) (.alt 7 (.any (.alt 3 (.any (.alt 5 (.big 6 (.big 8 (.tk 9 (.big 10 .done)))) (.alt 6 (.big 5 (.big 8 (.tk 9 (.big 10 .done)))) .stop))) (.alt 6 (.big 3 (.big 5 (.big 8 (.tk 9 (.big 10 .done))))) .stop))) .stop)))) (.alt 6 (.any (.alt 1 (.any (.alt 3 (.any (.alt 5 (.big 7 (.big 8 (.tk 9 (.big 10 .done)))) (.alt 7 (.big 5 (.big 8 (.tk 9 (.big 10 .done)))) .stop))) (.alt 7 (.big 3 (.big 5 (.big 8 (.tk 9 (.big 10 .done))))) .stop))) (.alt 7 (.big 1 (.big 3 (.big 5 (.big 8 (.tk 9 (.big 10 .done)))))) .stop))) (.alt 7 (.any (.alt 1 (.any (.alt 3 (.any (.alt 5 (.big 6 (.big 8 (.tk 9 (.big 10 .done)))) (.alt 6 (.big 5 (.big 8 (.tk 9 (.big 10 .done)))) .stop))) (.alt 6 (.big 3 (.big 5 (.big 8 (.tk 9 (.big 10 .done))))) .stop))) (.alt 6 (.big 1 (.big 3 (.big 5 (.big 8 (.tk 9 (.big 10 .done)))))) .stop))) .stop))))))) Zy (by kernel_rfl) ?_
     refine ld rfl rfl (lhA [_, _, _, _, _, _, _, _, _, _, _] Zd rfl rfl rfl) rfl ?_
     refine tk rfl (PE.move rfl) rfl ?_
     refine ld rfl rfl (lhA [_, _, _, _, _, _, _, _, _, _, _] Zd rfl rfl rfl) rfl ?_
     refine Z8 ?_ ?_
     ·
      refine cl rfl Z0R rfl rfl (Z0Q t a c (by omega) _ _) ?_
      rintro _ _ _ ⟨bo, co, rfl, rfl, rfl⟩
      refine bg (fun w hs => ⟨(lhA [_, _, _, _, _, _, _, _, _, _, _] Zd rfl rfl rfl) w hs, trivial, trivial⟩) ?_
      refine Z8 ?_ ?_
      ·
       refine cl rfl Z8I rfl rfl (Z0q tb a2 c2 (by omega) _ _) ?_
       rintro _ _ _ ⟨o, rfl, ⟨bd, cd, hbd⟩, rfl, rfl⟩
       obtain ⟨ad, c3, ho, hf⟩ := o.freeze
       rw [hbd] at ho
       cases ho
       rw [hbd]
       refine Sy.heap (fun w h => hf h) ?_
       rw [show (Zt tb).length = tb.length from List.length_map _]
       refine bg (fun w hs => ⟨(lhA [_, _, _, _, _, _, _, _, _, _, _] Zd rfl rfl rfl) w hs, trivial⟩) ?_
       refine Z8 ?_ ?_
       ·
        refine cl rfl ZA rfl rfl (Za t a c (by omega) _ _) ?_
        rintro _ _ _ ⟨ax, cx, rfl, rfl, rfl⟩
        refine bg (fun w hs => ⟨trivial, trivial⟩) ?_
        refine Z8 ?_ ?_
        ·
         refine alc rfl Z04 rfl (fun b5 => ?_)
         refine bg (fun w hs => trivial) ?_
         refine alc rfl Z0m rfl (fun b7 => ?_)
         refine bg (fun w hs => trivial) ?_
         refine sto rfl rfl rfl ZO rfl rfl rfl rfl ?_
         refine bg (fun w hs => trivial) ?_
         refine tk rfl (PE.assign rfl) rfl ?_
         refine sto rfl rfl rfl ZU rfl rfl rfl rfl ?_
         refine bg (fun w hs => trivial) ?_
         exact Z6 ((bo, co, ax, cx), (bd, cd), b5, b7) (by repeat' first | exact Sub.nil | apply Sub.cons | rfl | (simp [lk]; omega)) (fun _ h => St.sub (((h.pull b2).pull b7).pull b5))
        refine Z8 ?_ ?_
        ·
         refine alc rfl Z0m rfl (fun b7 => ?_)
         refine bg (fun w hs => trivial) ?_
         refine alc rfl Z04 rfl (fun b5 => ?_)
         refine bg (fun w hs => trivial) ?_
         refine sto rfl rfl rfl ZO rfl rfl rfl rfl ?_
         refine bg (fun w hs => trivial) ?_
         refine tk rfl (PE.assign rfl) rfl ?_
         refine sto rfl rfl rfl ZU rfl rfl rfl rfl ?_
         refine bg (fun w hs => trivial) ?_
         exact Z6 ((bo, co, ax, cx), (bd, cd), b5, b7) (by repeat' first | exact Sub.nil | apply Sub.cons | rfl | (simp [lk]; omega)) (fun _ h => St.sub (((h.pull b2).pull b7).pull b5))
        exact Zc
       refine Z8 ?_ ?_
       ·
        refine alc rfl Z04 rfl (fun b5 => ?_)
        refine bg (fun w hs => ⟨(lhA [_, _, _, _, _, _, _, _, _, _, _] Zd rfl rfl rfl) w hs, trivial⟩) ?_
        refine Z8 ?_ ?_
        ·
         refine cl rfl ZA rfl rfl (Za t a c (by omega) _ _) ?_
         rintro _ _ _ ⟨ax, cx, rfl, rfl, rfl⟩
         refine bg (fun w hs => ⟨trivial, trivial⟩) ?_
         refine alc rfl Z0m rfl (fun b7 => ?_)
         refine bg (fun w hs => trivial) ?_
         refine sto rfl rfl rfl ZO rfl rfl rfl rfl ?_
         refine bg (fun w hs => trivial) ?_
         refine tk rfl (PE.assign rfl) rfl ?_
         refine sto rfl rfl rfl ZU rfl rfl rfl rfl ?_
         refine bg (fun w hs => trivial) ?_
         exact Z6 ((bo, co, ax, cx), (bd, cd), b5, b7) (by repeat' first | exact Sub.nil | apply Sub.cons | rfl | (simp [lk]; omega)) (fun _ h => St.sub (((h.pull b2).pull b7).pull b5))
        refine Z8 ?_ ?_
        ·
         refine alc rfl Z0m rfl (fun b7 => ?_)
         refine bg (fun w hs => ⟨(lhA [_, _, _, _, _, _, _, _, _, _, _] Zd rfl rfl rfl) w hs, trivial⟩) ?_
         refine cl rfl ZA rfl rfl (Za t a c (by omega) _ _) ?_
         rintro _ _ _ ⟨ax, cx, rfl, rfl, rfl⟩
         refine bg (fun w hs => ⟨trivial, trivial⟩) ?_
         refine sto rfl rfl rfl ZO rfl rfl rfl rfl ?_
         refine bg (fun w hs => trivial) ?_
         refine tk rfl (PE.assign rfl) rfl ?_
         refine sto rfl rfl rfl ZU rfl rfl rfl rfl ?_
         refine bg (fun w hs => trivial) ?_
         exact Z6 ((bo, co, ax, cx), (bd, cd), b5, b7) (by repeat' first | exact Sub.nil | apply Sub.cons | rfl | (simp [lk]; omega)) (fun _ h => St.sub (((h.pull b2).pull b7).pull b5))
        exact Zc
       refine Z8 ?_ ?_
       ·
        refine alc rfl Z0m rfl (fun b7 => ?_)
        refine bg (fun w hs => ⟨(lhA [_, _, _, _, _, _, _, _, _, _, _] Zd rfl rfl rfl) w hs, trivial⟩) ?_
        refine Z8 ?_ ?_
        ·
         refine cl rfl ZA rfl rfl (Za t a c (by omega) _ _) ?_
         rintro _ _ _ ⟨ax, cx, rfl, rfl, rfl⟩
         refine bg (fun w hs => ⟨trivial, trivial⟩) ?_
         refine alc rfl Z04 rfl (fun b5 => ?_)
         refine bg (fun w hs => trivial) ?_
         refine sto rfl rfl rfl ZO rfl rfl rfl rfl ?_
         refine bg (fun w hs => trivial) ?_
         refine tk rfl (PE.assign rfl) rfl ?_
         refine sto rfl rfl rfl ZU rfl rfl rfl rfl ?_
         refine bg (fun w hs => trivial) ?_
         exact Z6 ((bo, co, ax, cx), (bd, cd), b5, b7) (by repeat' first | exact Sub.nil | apply Sub.cons | rfl | (simp [lk]; omega)) (fun _ h => St.sub (((h.pull b2).pull b7).pull b5))
        refine Z8 ?_ ?_
        ·
         refine alc rfl Z04 rfl (fun b5 => ?_)
         refine bg (fun w hs => ⟨(lhA [_, _, _, _, _, _, _, _, _, _, _] Zd rfl rfl rfl) w hs, trivial⟩) ?_
         refine cl rfl ZA rfl rfl (Za t a c (by omega) _ _) ?_
         rintro _ _ _ ⟨ax, cx, rfl, rfl, rfl⟩
         refine bg (fun w hs => ⟨trivial, trivial⟩) ?_
         refine sto rfl rfl rfl ZO rfl rfl rfl rfl ?_
         refine bg (fun w hs => trivial) ?_
         refine tk rfl (PE.assign rfl) rfl ?_
         refine sto rfl rfl rfl ZU rfl rfl rfl rfl ?_
         refine bg (fun w hs => trivial) ?_
         exact Z6 ((bo, co, ax, cx), (bd, cd), b5, b7) (by repeat' first | exact Sub.nil | apply Sub.cons | rfl | (simp [lk]; omega)) (fun _ h => St.sub (((h.pull b2).pull b7).pull b5))
        exact Zc
       exact Zc
      refine Z8 ?_ ?_
      ·
       refine alc rfl Z04 rfl (fun b5 => ?_)
       refine bg (fun w hs => ⟨(lhA [_, _, _, _, _, _, _, _, _, _, _] Zd rfl rfl rfl) w hs, trivial⟩) ?_
       refine Z8 ?_ ?_
       ·
        refine cl rfl Z8I rfl rfl (Z0q tb a2 c2 (by omega) _ _) ?_
        rintro _ _ _ ⟨o, rfl, ⟨bd, cd, hbd⟩, rfl, rfl⟩
        obtain ⟨ad, c3, ho, hf⟩ := o.freeze
        rw [hbd] at ho
        cases ho
        rw [hbd]
        refine Sy.heap (fun w h => hf h) ?_
        rw [show (Zt tb).length = tb.length from List.length_map _]
        refine bg (fun w hs => ⟨(lhA [_, _, _, _, _, _, _, _, _, _, _] Zd rfl rfl rfl) w hs, trivial⟩) ?_
        refine Z8 ?_ ?_
        ·
         refine cl rfl ZA rfl rfl (Za t a c (by omega) _ _) ?_
         rintro _ _ _ ⟨ax, cx, rfl, rfl, rfl⟩
         refine bg (fun w hs => ⟨trivial, trivial⟩) ?_
         refine alc rfl Z0m rfl (fun b7 => ?_)
         refine bg (fun w hs => trivial) ?_
         refine sto rfl rfl rfl ZO rfl rfl rfl rfl ?_
         refine bg (fun w hs => trivial) ?_
         refine tk rfl (PE.assign rfl) rfl ?_
         refine sto rfl rfl rfl ZU rfl rfl rfl rfl ?_
         refine bg (fun w hs => trivial) ?_
         exact Z6 ((bo, co, ax, cx), (bd, cd), b5, b7) (by repeat' first | exact Sub.nil | apply Sub.cons | rfl | (simp [lk]; omega)) (fun _ h => St.sub (((h.pull b2).pull b7).pull b5))
        refine Z8 ?_ ?_
        ·
         refine alc rfl Z0m rfl (fun b7 => ?_)
         refine bg (fun w hs => ⟨(lhA [_, _, _, _, _, _, _, _, _, _, _] Zd rfl rfl rfl) w hs, trivial⟩) ?_
         refine cl rfl ZA rfl rfl (Za t a c (by omega) _ _) ?_
         rintro _ _ _ ⟨ax, cx, rfl, rfl, rfl⟩
         refine bg (fun w hs => ⟨trivial, trivial⟩) ?_
         refine sto rfl rfl rfl ZO rfl rfl rfl rfl ?_
         refine bg (fun w hs => trivial) ?_
         refine tk rfl (PE.assign rfl) rfl ?_
         refine sto rfl rfl rfl ZU rfl rfl rfl rfl ?_
         refine bg (fun w hs => trivial) ?_
         exact Z6 ((bo, co, ax, cx), (bd, cd), b5, b7) (by repeat' first | exact Sub.nil | apply Sub.cons | rfl | (simp [lk]; omega)) (fun _ h => St.sub (((h.pull b2).pull b7).pull b5))
        exact Zc
       refine Z8 ?_ ?_
       ·
        refine alc rfl Z0m rfl (fun b7 => ?_)
        refine bg (fun w hs => ⟨(lhA [_, _, _, _, _, _, _, _, _, _, _] Zd rfl rfl rfl) w hs, trivial⟩) ?_
        refine cl rfl Z8I rfl rfl (Z0q tb a2 c2 (by omega) _ _) ?_
        rintro _ _ _ ⟨o, rfl, ⟨bd, cd, hbd⟩, rfl, rfl⟩
        obtain ⟨ad, c3, ho, hf⟩ := o.freeze
        rw [hbd] at ho
        cases ho
        rw [hbd]
        refine Sy.heap (fun w h => hf h) ?_
        rw [show (Zt tb).length = tb.length from List.length_map _]
        refine bg (fun w hs => ⟨(lhA [_, _, _, _, _, _, _, _, _, _, _] Zd rfl rfl rfl) w hs, trivial⟩) ?_
        refine cl rfl ZA rfl rfl (Za t a c (by omega) _ _) ?_
        rintro _ _ _ ⟨ax, cx, rfl, rfl, rfl⟩
        refine bg (fun w hs => ⟨trivial, trivial⟩) ?_
        refine sto rfl rfl rfl ZO rfl rfl rfl rfl ?_
        refine bg (fun w hs => trivial) ?_
        refine tk rfl (PE.assign rfl) rfl ?_
        refine sto rfl rfl rfl ZU rfl rfl rfl rfl ?_
        refine bg (fun w hs => trivial) ?_
        exact Z6 ((bo, co, ax, cx), (bd, cd), b5, b7) (by repeat' first | exact Sub.nil | apply Sub.cons | rfl | (simp [lk]; omega)) (fun _ h => St.sub (((h.pull b2).pull b7).pull b5))
       exact Zc
      refine Z8 ?_ ?_
      ·
       refine alc rfl Z0m rfl (fun b7 => ?_)
       refine bg (fun w hs => ⟨(lhA [_, _, _, _, _, _, _, _, _, _, _] Zd rfl rfl rfl) w hs, trivial⟩) ?_
       refine Z8 ?_ ?_
       ·
        refine cl rfl Z8I rfl rfl (Z0q tb a2 c2 (by omega) _ _) ?_
        rintro _ _ _ ⟨o, rfl, ⟨bd, cd, hbd⟩, rfl, rfl⟩
        obtain ⟨ad, c3, ho, hf⟩ := o.freeze
        rw [hbd] at ho
        cases ho
        rw [hbd]
        refine Sy.heap (fun w h => hf h) ?_
        rw [show (Zt tb).length = tb.length from List.length_map _]
        refine bg (fun w hs => ⟨(lhA [_, _, _, _, _, _, _, _, _, _, _] Zd rfl rfl rfl) w hs, trivial⟩) ?_
        refine Z8 ?_ ?_
        ·
         refine cl rfl ZA rfl rfl (Za t a c (by omega) _ _) ?_
         rintro _ _ _ ⟨ax, cx, rfl, rfl, rfl⟩
         refine bg (fun w hs => ⟨trivial, trivial⟩) ?_
         refine alc rfl Z04 rfl (fun b5 => ?_)
         refine bg (fun w hs => trivial) ?_
         refine sto rfl rfl rfl ZO rfl rfl rfl rfl ?_
         refine bg (fun w hs => trivial) ?_
         refine tk rfl (PE.assign rfl) rfl ?_
         refine sto rfl rfl rfl ZU rfl rfl rfl rfl ?_
         refine bg (fun w hs => trivial) ?_
         exact Z6 ((bo, co, ax, cx), (bd, cd), b5, b7) (by repeat' first | exact Sub.nil | apply Sub.cons | rfl | (simp [lk]; omega)) (fun _ h => St.sub (((h.pull b2).pull b7).pull b5))
        refine Z8 ?_ ?_
        ·
         refine alc rfl Z04 rfl (fun b5 => ?_)
         refine bg (fun w hs => ⟨(lhA [_, _, _, _, _, _, _, _, _, _, _] Zd rfl rfl rfl) w hs, trivial⟩) ?_
         refine cl rfl ZA rfl rfl (Za t a c (by omega) _ _) ?_
         rintro _ _ _ ⟨ax, cx, rfl, rfl, rfl⟩
         refine bg (fun w hs => ⟨trivial, trivial⟩) ?_
         refine sto rfl rfl rfl ZO rfl rfl rfl rfl ?_
         refine bg (fun w hs => trivial) ?_
         refine tk rfl (PE.assign rfl) rfl ?_
         refine sto rfl rfl rfl ZU rfl rfl rfl rfl ?_
         refine bg (fun w hs => trivial) ?_
         exact Z6 ((bo, co, ax, cx), (bd, cd), b5, b7) (by repeat' first | exact Sub.nil | apply Sub.cons | rfl | (simp [lk]; omega)) (fun _ h => St.sub (((h.pull b2).pull b7).pull b5))
        exact Zc
       refine Z8 ?_ ?_
       ·
        refine alc rfl Z04 rfl (fun b5 => ?_)
        refine bg (fun w hs => ⟨(lhA [_, _, _, _, _, _, _, _, _, _, _] Zd rfl rfl rfl) w hs, trivial⟩) ?_
        refine cl rfl Z8I rfl rfl (Z0q tb a2 c2 (by omega) _ _) ?_
        rintro _ _ _ ⟨o, rfl, ⟨bd, cd, hbd⟩, rfl, rfl⟩
        obtain ⟨ad, c3, ho, hf⟩ := o.freeze
        rw [hbd] at ho
        cases ho
        rw [hbd]
        refine Sy.heap (fun w h => hf h) ?_
        rw [show (Zt tb).length = tb.length from List.length_map _]
        refine bg (fun w hs => ⟨(lhA [_, _, _, _, _, _, _, _, _, _, _] Zd rfl rfl rfl) w hs, trivial⟩) ?_
        refine cl rfl ZA rfl rfl (Za t a c (by omega) _ _) ?_
        rintro _ _ _ ⟨ax, cx, rfl, rfl, rfl⟩
        refine bg (fun w hs => ⟨trivial, trivial⟩) ?_
        refine sto rfl rfl rfl ZO rfl rfl rfl rfl ?_
        refine bg (fun w hs => trivial) ?_
        refine tk rfl (PE.assign rfl) rfl ?_
        refine sto rfl rfl rfl ZU rfl rfl rfl rfl ?_
        refine bg (fun w hs => trivial) ?_
        exact Z6 ((bo, co, ax, cx), (bd, cd), b5, b7) (by repeat' first | exact Sub.nil | apply Sub.cons | rfl | (simp [lk]; omega)) (fun _ h => St.sub (((h.pull b2).pull b7).pull b5))
       exact Zc
      exact Zc
     refine Z8 ?_ ?_
     ·
      refine alc rfl Z04 rfl (fun b5 => ?_)
      refine bg (fun w hs => ⟨(lhA [_, _, _, _, _, _, _, _, _, _, _] Zd rfl rfl rfl) w hs, (lhA [_, _, _, _, _, _, _, _, _, _, _] Zd rfl rfl rfl) w hs, trivial⟩) ?_
      refine Z8 ?_ ?_
      ·
       refine cl rfl Z0R rfl rfl (Z0Q t a c (by omega) _ _) ?_
       rintro _ _ _ ⟨bo, co, rfl, rfl, rfl⟩
       refine bg (fun w hs => ⟨(lhA [_, _, _, _, _, _, _, _, _, _, _] Zd rfl rfl rfl) w hs, trivial, trivial⟩) ?_
       refine Z8 ?_ ?_
       ·
        refine cl rfl Z8I rfl rfl (Z0q tb a2 c2 (by omega) _ _) ?_
        rintro _ _ _ ⟨o, rfl, ⟨bd, cd, hbd⟩, rfl, rfl⟩
        obtain ⟨ad, c3, ho, hf⟩ := o.freeze
        rw [hbd] at ho
        cases ho
        rw [hbd]
        refine Sy.heap (fun w h => hf h) ?_
        rw [show (Zt tb).length = tb.length from List.length_map _]
        refine bg (fun w hs => ⟨(lhA [_, _, _, _, _, _, _, _, _, _, _] Zd rfl rfl rfl) w hs, trivial⟩) ?_
        refine Z8 ?_ ?_
        ·
         refine cl rfl ZA rfl rfl (Za t a c (by omega) _ _) ?_
         rintro _ _ _ ⟨ax, cx, rfl, rfl, rfl⟩
         refine bg (fun w hs => ⟨trivial, trivial⟩) ?_
         refine alc rfl Z0m rfl (fun b7 => ?_)
         refine bg (fun w hs => trivial) ?_
         refine sto rfl rfl rfl ZO rfl rfl rfl rfl ?_
         refine bg (fun w hs => trivial) ?_
         refine tk rfl (PE.assign rfl) rfl ?_
         refine sto rfl rfl rfl ZU rfl rfl rfl rfl ?_
         refine bg (fun w hs => trivial) ?_
         exact Z6 ((bo, co, ax, cx), (bd, cd), b5, b7) (by repeat' first | exact Sub.nil | apply Sub.cons | rfl | (simp [lk]; omega)) (fun _ h => St.sub (((h.pull b2).pull b7).pull b5))
        refine Z8 ?_ ?_
        ·
         refine alc rfl Z0m rfl (fun b7 => ?_)
         refine bg (fun w hs => ⟨(lhA [_, _, _, _, _, _, _, _, _, _, _] Zd rfl rfl rfl) w hs, trivial⟩) ?_
         refine cl rfl ZA rfl rfl (Za t a c (by omega) _ _) ?_
         rintro _ _ _ ⟨ax, cx, rfl, rfl, rfl⟩
         refine bg (fun w hs => ⟨trivial, trivial⟩) ?_
         refine sto rfl rfl rfl ZO rfl rfl rfl rfl ?_
         refine bg (fun w hs => trivial) ?_
         refine tk rfl (PE.assign rfl) rfl ?_
         refine sto rfl rfl rfl ZU rfl rfl rfl rfl ?_
         refine bg (fun w hs => trivial) ?_
         exact Z6 ((bo, co, ax, cx), (bd, cd), b5, b7) (by repeat' first | exact Sub.nil | apply Sub.cons | rfl | (simp [lk]; omega)) (fun _ h => St.sub (((h.pull b2).pull b7).pull b5))
        exact Zc
       refine Z8 ?_ ?_
       ·
        refine alc rfl Z0m rfl (fun b7 => ?_)
        refine bg (fun w hs => ⟨(lhA [_, _, _, _, _, _, _, _, _, _, _] Zd rfl rfl rfl) w hs, trivial⟩) ?_
        refine cl rfl Z8I rfl rfl (Z0q tb a2 c2 (by omega) _ _) ?_
        rintro _ _ _ ⟨o, rfl, ⟨bd, cd, hbd⟩, rfl, rfl⟩
        obtain ⟨ad, c3, ho, hf⟩ := o.freeze
        rw [hbd] at ho
        cases ho
        rw [hbd]
        refine Sy.heap (fun w h => hf h) ?_
        rw [show (Zt tb).length = tb.length from List.length_map _]
        refine bg (fun w hs => ⟨(lhA [_, _, _, _, _, _, _, _, _, _, _] Zd rfl rfl rfl) w hs, trivial⟩) ?_
        refine cl rfl ZA rfl rfl (Za t a c (by omega) _ _) ?_
        rintro _ _ _ ⟨ax, cx, rfl, rfl, rfl⟩
        refine bg (fun w hs => ⟨trivial, trivial⟩) ?_
        refine sto rfl rfl rfl ZO rfl rfl rfl rfl ?_
        refine bg (fun w hs => trivial) ?_
        refine tk rfl (PE.assign rfl) rfl ?_
        refine sto rfl rfl rfl ZU rfl rfl rfl rfl ?_
        refine bg (fun w hs => trivial) ?_
        exact Z6 ((bo, co, ax, cx), (bd, cd), b5, b7) (by repeat' first | exact Sub.nil | apply Sub.cons | rfl | (simp [lk]; omega)) (fun _ h => St.sub (((h.pull b2).pull b7).pull b5))
       exact Zc
      refine Z8 ?_ ?_
      ·
       refine alc rfl Z0m rfl (fun b7 => ?_)
       refine bg (fun w hs => ⟨(lhA [_, _, _, _, _, _, _, _, _, _, _] Zd rfl rfl rfl) w hs, (lhA [_, _, _, _, _, _, _, _, _, _, _] Zd rfl rfl rfl) w hs, trivial⟩) ?_
       refine cl rfl Z0R rfl rfl (Z0Q t a c (by omega) _ _) ?_
       rintro _ _ _ ⟨bo, co, rfl, rfl, rfl⟩
       refine bg (fun w hs => ⟨(lhA [_, _, _, _, _, _, _, _, _, _, _] Zd rfl rfl rfl) w hs, trivial, trivial⟩) ?_
       refine cl rfl Z8I rfl rfl (Z0q tb a2 c2 (by omega) _ _) ?_
       rintro _ _ _ ⟨o, rfl, ⟨bd, cd, hbd⟩, rfl, rfl⟩
       obtain ⟨ad, c3, ho, hf⟩ := o.freeze
       rw [hbd] at ho
       cases ho
       rw [hbd]
       refine Sy.heap (fun w h => hf h) ?_
       rw [show (Zt tb).length = tb.length from List.length_map _]
       refine bg (fun w hs => ⟨(lhA [_, _, _, _, _, _, _, _, _, _, _] Zd rfl rfl rfl) w hs, trivial⟩) ?_
       refine cl rfl ZA rfl rfl (Za t a c (by omega) _ _) ?_
       rintro _ _ _ ⟨ax, cx, rfl, rfl, rfl⟩
       refine bg (fun w hs => ⟨trivial, trivial⟩) ?_
       refine sto rfl rfl rfl ZO rfl rfl rfl rfl ?_
       refine bg (fun w hs => trivial) ?_
       refine tk rfl (PE.assign rfl) rfl ?_
       refine sto rfl rfl rfl ZU rfl rfl rfl rfl ?_
       refine bg (fun w hs => trivial) ?_
       exact Z6 ((bo, co, ax, cx), (bd, cd), b5, b7) (by repeat' first | exact Sub.nil | apply Sub.cons | rfl | (simp [lk]; omega)) (fun _ h => St.sub (((h.pull b2).pull b7).pull b5))
      exact Zc
     refine Z8 ?_ ?_
     ·
      refine alc rfl Z0m rfl (fun b7 => ?_)
      refine bg (fun w hs => ⟨(lhA [_, _, _, _, _, _, _, _, _, _, _] Zd rfl rfl rfl) w hs, (lhA [_, _, _, _, _, _, _, _, _, _, _] Zd rfl rfl rfl) w hs, trivial⟩) ?_
      refine Z8 ?_ ?_
      ·
       refine cl rfl Z0R rfl rfl (Z0Q t a c (by omega) _ _) ?_
       rintro _ _ _ ⟨bo, co, rfl, rfl, rfl⟩
       refine bg (fun w hs => ⟨(lhA [_, _, _, _, _, _, _, _, _, _, _] Zd rfl rfl rfl) w hs, trivial, trivial⟩) ?_
       refine Z8 ?_ ?_
       ·
        refine cl rfl Z8I rfl rfl (Z0q tb a2 c2 (by omega) _ _) ?_
        rintro _ _ _ ⟨o, rfl, ⟨bd, cd, hbd⟩, rfl, rfl⟩
        obtain ⟨ad, c3, ho, hf⟩ := o.freeze
        rw [hbd] at ho
        cases ho
        rw [hbd]
        refine Sy.heap (fun w h => hf h) ?_
        rw [show (Zt tb).length = tb.length from List.length_map _]
        refine bg (fun w hs => ⟨(lhA [_, _, _, _, _, _, _, _, _, _, _] Zd rfl rfl rfl) w hs, trivial⟩) ?_
        refine Z8 ?_ ?_
        ·
         refine cl rfl ZA rfl rfl (Za t a c (by omega) _ _) ?_
         rintro _ _ _ ⟨ax, cx, rfl, rfl, rfl⟩
         refine bg (fun w hs => ⟨trivial, trivial⟩) ?_
         refine alc rfl Z04 rfl (fun b5 => ?_)
         refine bg (fun w hs => trivial) ?_
         refine sto rfl rfl rfl ZO rfl rfl rfl rfl ?_
         refine bg (fun w hs => trivial) ?_
         refine tk rfl (PE.assign rfl) rfl ?_
         refine sto rfl rfl rfl ZU rfl rfl rfl rfl ?_
         refine bg (fun w hs => trivial) ?_
         exact Z6 ((bo, co, ax, cx), (bd, cd), b5, b7) (by repeat' first | exact Sub.nil | apply Sub.cons | rfl | (simp [lk]; omega)) (fun _ h => St.sub (((h.pull b2).pull b7).pull b5))
        refine Z8 ?_ ?_
        ·
         refine alc rfl Z04 rfl (fun b5 => ?_)
         refine bg (fun w hs => ⟨(lhA [_, _, _, _, _, _, _, _, _, _, _] Zd rfl rfl rfl) w hs, trivial⟩) ?_
         refine cl rfl ZA rfl rfl (Za t a c (by omega) _ _) ?_
         rintro _ _ _ ⟨ax, cx, rfl, rfl, rfl⟩
         refine bg (fun w hs => ⟨trivial, trivial⟩) ?_
         refine sto rfl rfl rfl ZO rfl rfl rfl rfl ?_
         refine bg (fun w hs => trivial) ?_
         refine tk rfl (PE.assign rfl) rfl ?_
         refine sto rfl rfl rfl ZU rfl rfl rfl rfl ?_
         refine bg (fun w hs => trivial) ?_
         exact Z6 ((bo, co, ax, cx), (bd, cd), b5, b7) (by repeat' first | exact Sub.nil | apply Sub.cons | rfl | (simp [lk]; omega)) (fun _ h => St.sub (((h.pull b2).pull b7).pull b5))
        exact Zc
       refine Z8 ?_ ?_
       ·
        refine alc rfl Z04 rfl (fun b5 => ?_)
        refine bg (fun w hs => ⟨(lhA [_, _, _, _, _, _, _, _, _, _, _] Zd rfl rfl rfl) w hs, trivial⟩) ?_
        refine cl rfl Z8I rfl rfl (Z0q tb a2 c2 (by omega) _ _) ?_
        rintro _ _ _ ⟨o, rfl, ⟨bd, cd, hbd⟩, rfl, rfl⟩
        obtain ⟨ad, c3, ho, hf⟩ := o.freeze
        rw [hbd] at ho
        cases ho
        rw [hbd]
        refine Sy.heap (fun w h => hf h) ?_
        rw [show (Zt tb).length = tb.length from List.length_map _]
        refine bg (fun w hs => ⟨(lhA [_, _, _, _, _, _, _, _, _, _, _] Zd rfl rfl rfl) w hs, trivial⟩) ?_
        refine cl rfl ZA rfl rfl (Za t a c (by omega) _ _) ?_
        rintro _ _ _ ⟨ax, cx, rfl, rfl, rfl⟩
        refine bg (fun w hs => ⟨trivial, trivial⟩) ?_
        refine sto rfl rfl rfl ZO rfl rfl rfl rfl ?_
        refine bg (fun w hs => trivial) ?_
        refine tk rfl (PE.assign rfl) rfl ?_
        refine sto rfl rfl rfl ZU rfl rfl rfl rfl ?_
        refine bg (fun w hs => trivial) ?_
        exact Z6 ((bo, co, ax, cx), (bd, cd), b5, b7) (by repeat' first | exact Sub.nil | apply Sub.cons | rfl | (simp [lk]; omega)) (fun _ h => St.sub (((h.pull b2).pull b7).pull b5))
       exact Zc
      refine Z8 ?_ ?_
      ·
       refine alc rfl Z04 rfl (fun b5 => ?_)
       refine bg (fun w hs => ⟨(lhA [_, _, _, _, _, _, _, _, _, _, _] Zd rfl rfl rfl) w hs, (lhA [_, _, _, _, _, _, _, _, _, _, _] Zd rfl rfl rfl) w hs, trivial⟩) ?_
       refine cl rfl Z0R rfl rfl (Z0Q t a c (by omega) _ _) ?_
       rintro _ _ _ ⟨bo, co, rfl, rfl, rfl⟩
       refine bg (fun w hs => ⟨(lhA [_, _, _, _, _, _, _, _, _, _, _] Zd rfl rfl rfl) w hs, trivial, trivial⟩) ?_
       refine cl rfl Z8I rfl rfl (Z0q tb a2 c2 (by omega) _ _) ?_
       rintro _ _ _ ⟨o, rfl, ⟨bd, cd, hbd⟩, rfl, rfl⟩
       obtain ⟨ad, c3, ho, hf⟩ := o.freeze
       rw [hbd] at ho
       cases ho
       rw [hbd]
       refine Sy.heap (fun w h => hf h) ?_
       rw [show (Zt tb).length = tb.length from List.length_map _]
       refine bg (fun w hs => ⟨(lhA [_, _, _, _, _, _, _, _, _, _, _] Zd rfl rfl rfl) w hs, trivial⟩) ?_
       refine cl rfl ZA rfl rfl (Za t a c (by omega) _ _) ?_
       rintro _ _ _ ⟨ax, cx, rfl, rfl, rfl⟩
       refine bg (fun w hs => ⟨trivial, trivial⟩) ?_
       refine sto rfl rfl rfl ZO rfl rfl rfl rfl ?_
       refine bg (fun w hs => trivial) ?_
       refine tk rfl (PE.assign rfl) rfl ?_
       refine sto rfl rfl rfl ZU rfl rfl rfl rfl ?_
       refine bg (fun w hs => trivial) ?_
       exact Z6 ((bo, co, ax, cx), (bd, cd), b5, b7) (by repeat' first | exact Sub.nil | apply Sub.cons | rfl | (simp [lk]; omega)) (fun _ h => St.sub (((h.pull b2).pull b7).pull b5))
      exact Zc
     exact Zc
    ·
     rintro ⟨⟨bo, co, ax, cx⟩, ⟨bd, cd⟩, b5, b7⟩
     dsimp only
     refine Z0 ?_
     refine Z1 [0, 1, 2] rfl ?_
     refine spL rfl rfl (lhA [_, _, _, _, _, _, _, _, _, _, _] Z0c rfl rfl rfl) rfl ?_
     refine clV rfl Z7h rfl rfl (Z1X t ax cx (by omega) _ _) ?_
     refine sp rfl (PE.assign rfl) rfl ?_
     refine Z0 ?_
     refine Z1 [0, 1] rfl ?_
     refine sp rfl (PE.move rfl) rfl ?_
     refine sp rfl (PE.assign rfl) rfl ?_
     refine Z0 ?_
     refine Z1 [0, 1] rfl ?_
     refine sp rfl (PE.assign rfl) rfl ?_
     refine sp rfl (PE.assign rfl) rfl ?_
     refine Z0 ?_
     refine Z0 ?_
     refine Z1 [0, 1] rfl ?_
     refine sp rfl (PE.move rfl) rfl ?_
     refine sp rfl (PE.eql rfl rfl) rfl ?_
     refine Z0I (ι := Unit) (fun _ => ⟨[(1, .slice a2 tb.length c2), (2, .pointer (some ⟨b2, 0, none⟩)), (5, .pointer (some ⟨b5, 0, none⟩)), (6, .slice (some ⟨bd, 0, none⟩) tb.length cd), (7, .pointer (some ⟨b7, 0, none⟩)), (8, .int .i64 ((ZJ t tb).2)), (9, .int .i64 ((Z3z t).2)), (10, .int .i64 ((Z0Z t).1)), (11, .int .i64 ((ZJ t tb).1))], (b5, cel 27 (twl t (t.sl (some ⟨bo, 0, none⟩) co))) :: (b7, cel 96 (twl t (t.sl ax cx))) :: (b2, cel 27 (twl t (t.sl a c))) :: H, RowsA ax 2 (Zf t.rats) :: RowsA (some ⟨bo, 0, none⟩) 2 (Zf t.rats) :: RowsA (some ⟨bd, 0, none⟩) 5 (Zt tb) :: R⟩) ?_ ?_
     ·
      refine Z5 rfl (fun hc1 => ?_) (fun hc1 => ?_)
      ·
       try simp only [decide_eq_true_eq, decide_eq_false_iff_not, Bool.and_eq_true, Bool.or_eq_true, Bool.not_eq_true', Int.not_le, Int.not_lt] at hc1
       have hck : t.check = 0 := hc1
       have hok := (Zi hck).1
       refine Zw (a := ax) (sz := 2) (rows := Zf t.rats) (by have := hok.many; intro h0; simp [Zf] at h0; simp [h0] at this) (fun bx ox he => ?_)
       subst he
       refine Z0 ?_
       refine Z0 ?_
       refine Ze [0, 0, 2, 0, 8, 31, 63] (.ld 0 (.ld 1 (.tk 3 (.ld 4 (.big 2 (.big 5 (.tk 6 .done))))))) Zy (by kernel_rfl) ?_
       refine ld rfl rfl (lhA [_, _, _, _, _, _, _, _, _, _, _] Z0c rfl rfl rfl) rfl ?_
       refine ld rfl rfl (lhA [_, _, _, _, _, _, _, _, _, _, _] Z0c rfl rfl rfl) rfl ?_
       refine tk rfl (PE.fieldAddr Z1G rfl) rfl ?_
       refine ld rfl rfl (lhA [_, _, _] Z0w rfl rfl rfl) rfl ?_
       refine cl rfl Zc4 rfl rfl (Z4D t hok bx ox cx _ _) ?_
       rintro _ _ _ ⟨bla, la, hsol, rfl, rfl, rfl⟩
       obtain ⟨hrel, hlsa⟩ := hsol.ly hok
       have hrg := Z2U hlsa hok.now
       refine Sy.heap (fun w h => St.intRows h) ?_
       refine bg (fun w hs => ⟨(lhA [_, _, _] Z0w rfl rfl rfl) w hs, trivial, (lhA [_, _, _, _, _, _, _, _, _, _, _] Z0c rfl rfl rfl) w hs, trivial⟩) ?_
       refine cl rfl Z8A rfl rfl (Z2r t hok t.now hok.now _ la (LY t) hrel bla 0 t.nst _ _) ?_
       rintro _ _ _ ⟨rfl, rfl, rfl⟩
       have hlp : Z0Z t = (lat (LY t) t.now, 0) := by simp [Z0Z, hck]
       refine bg (fun w hs => ⟨trivial, trivial, trivial⟩) ?_
       refine tk rfl (PE.assign rfl) rfl ?_
       refine Z0 ?_
       refine Z1 [0, 1] rfl ?_
       refine sp rfl (PE.move rfl) rfl ?_
       refine sp rfl (PE.lss rfl rfl) rfl ?_
       refine Z0I (ι := Unit) (fun _ => ⟨[(1, .slice a2 tb.length c2), (2, .pointer (some ⟨b2, 0, none⟩)), (5, .pointer (some ⟨b5, 0, none⟩)), (6, .slice (some ⟨bd, 0, none⟩) tb.length cd), (7, .pointer (some ⟨b7, 0, none⟩)), (8, .int .i64 (t.check)), (9, .int .i64 ((Z3z t).2)), (10, .int .i64 ((Z0Z t).1)), (11, .int .i64 (0))], (b5, cel 27 (twl t (t.sl (some ⟨bo, 0, none⟩) co))) :: (b7, cel 96 (twl t (t.sl (some ⟨bx, ox, none⟩) cx))) :: (b2, cel 27 (twl t (t.sl a c))) :: H, RowsA (some ⟨bx, ox, none⟩) 2 (Zf t.rats) :: RowsA (some ⟨bo, 0, none⟩) 2 (Zf t.rats) :: RowsA (some ⟨bd, 0, none⟩) 5 (Zt tb) :: R⟩) ?_ ?_
       ·
        refine Z5 rfl (fun hc2 => ?_) (fun hc2 => ?_)
        ·
         try simp only [decide_eq_true_eq, decide_eq_false_iff_not, Bool.and_eq_true, Bool.or_eq_true, Bool.not_eq_true', Int.not_le, Int.not_lt] at hc2
         
         refine Z1 [0] rfl ?_
         refine sp rfl (PE.assign rfl) rfl ?_
         rw [Z5M hck (by omega), hlp]
         exact ZG () (by repeat' first | exact Sub.nil | apply Sub.cons | rfl | (simp [lk]; omega)) (fun _ h => St.sub h)
        ·
         try simp only [decide_eq_true_eq, decide_eq_false_iff_not, Bool.and_eq_true, Bool.or_eq_true, Bool.not_eq_true', Int.not_le, Int.not_lt] at hc2
         
         refine Z3 ?_
         rw [Z79 hck (by omega), hlp, hck]
         exact ZG () (by repeat' first | exact Sub.nil | apply Sub.cons | rfl | (simp [lk]; omega)) (fun _ h => St.sub h)
       ·
        rintro ⟨⟩
        dsimp only
        refine Ze [0, 0, 2, 7, 15, 31, 31, 63, 255] (.ld 0 (.tk 1 (.big 2 (.big 3 (.tk 4 (.tk 5 (.tk 6 (.tk 7 (.tk 8 .done))))))))) Zy (by kernel_rfl) ?_
        refine ld rfl rfl (lhA [_, _, _, _, _, _, _, _, _, _, _] Z0c rfl rfl rfl) rfl ?_
        refine tk rfl (PE.move rfl) rfl ?_
        refine cl rfl Ze1 rfl rfl (ZbD tb a2 c2 (by omega) _ _) ?_
        rintro _ _ _ ⟨ar, cr, rfl, rfl, rfl⟩
        refine bg (fun w hs => ⟨(lhA [_, _, _, _, _, _, _, _, _, _, _] Z0c rfl rfl rfl) w hs, trivial⟩) ?_
        refine clV rfl ZdN rfl rfl (Z7r t hck tb ar cr (by omega) bx ox cx _ _) ?_
        refine bg (fun w hs => ⟨trivial, trivial⟩) ?_
        refine tk rfl (PE.move rfl) rfl ?_
        refine tk rfl (PE.extract rfl rfl) rfl ?_
        refine tk rfl (PE.extract rfl rfl) rfl ?_
        refine tk rfl (PE.assign rfl) rfl ?_
        refine tk rfl (PE.assign rfl) rfl ?_
        exact ZG () (by repeat' first | exact Sub.nil | apply Sub.cons | rfl | (simp [lk]; omega)) (fun _ h => St.sub h)
      ·
       try simp only [decide_eq_true_eq, decide_eq_false_iff_not, Bool.and_eq_true, Bool.or_eq_true, Bool.not_eq_true', Int.not_le, Int.not_lt] at hc1
       have hck : t.check ≠ 0 := hc1
       refine Z3 ?_
       rw [show ZJ t tb = (0, t.check) from by simp [ZJ, hck], show Z3z t = ([], t.check) from by simp [Z3z, hck], show Z0Z t = (0, t.check) from by simp [Z0Z, hck]]
       exact ZG () (by repeat' first | exact Sub.nil | apply Sub.cons | rfl | (simp [lk]; omega)) (fun _ h => h)
     ·
      rintro ⟨⟩
      dsimp only
      refine Z0 ?_
      refine Z1 [0, 1, 2, 3, 4, 5, 6, 7] rfl ?_
      refine spL rfl rfl (lhA [_, _, _, _, _, _, _, _, _, _, _] Zd rfl rfl rfl) rfl ?_
      refine sp rfl (PE.move rfl) rfl ?_
      refine clV rfl ZdT rfl rfl (Zar t (by omega) tb (some ⟨bd, 0, none⟩) cd (by omega) bo 0 co _ _) ?_
      refine sp rfl (PE.move rfl) rfl ?_
      refine sp rfl (PE.extract rfl rfl) rfl ?_
      refine sp rfl (PE.extract rfl rfl) rfl ?_
      refine sp rfl (PE.assign rfl) rfl ?_
      refine sp rfl (PE.assign rfl) rfl ?_
      refine Z0 ?_
      refine Z1 [0, 1, 2, 3, 4, 5, 6] rfl ?_
      refine spL rfl rfl (lhA [_, _, _, _, _, _, _, _, _, _, _] Zd rfl rfl rfl) rfl ?_
      refine cl rfl Zee rfl rfl (Z83 t (by omega) bo 0 co _ _) ?_
      rintro _ _ _ ⟨ot, rfl, rfl, rfl, hly⟩
      obtain ⟨at_, ct, hot, hft⟩ := ot.freeze
      rw [hot]
      refine Sy.heap (fun w h => hft h) ?_
      rw [show (Zt (Z3z t).1).length = (Z3z t).1.length from List.length_map _]
      refine sp rfl (PE.move rfl) rfl ?_
      refine sp rfl (PE.extract rfl rfl) rfl ?_
      refine sp rfl (PE.extract rfl rfl) rfl ?_
      refine sp rfl (PE.assign rfl) rfl ?_
      refine sp rfl (PE.assign rfl) rfl ?_
      refine Z0 ?_
      refine Z0 ?_
      refine Z1 [0, 1, 2, 3, 4, 5, 6, 7, 8, 9, 10, 11, 12, 13, 14, 15, 16, 17, 18, 19, 20, 21, 22, 23, 24] rfl ?_
      refine sp rfl (PE.move rfl) rfl ?_
      refine sp rfl (PE.move rfl) rfl ?_
      refine sp rfl (PE.neq rfl rfl) rfl ?_
      refine sp rfl (PE.move rfl) rfl ?_
      refine Zg (t := 65) rfl (fun g65 => ?_) (fun g65 => ?_)
      ·
       exact absurd g65 (by first | (simp; done) | (simp_all; done))
      ·
       refine spG rfl rfl rfl rfl (PE.move rfl) rfl ?_
       refine spG rfl rfl rfl rfl (PE.move rfl) rfl ?_
       refine spG rfl rfl rfl rfl (PE.neq rfl rfl) rfl ?_
       refine sp rfl (PE.pick rfl rfl rfl) rfl ?_
       refine sp rfl (PE.move rfl) rfl ?_
       refine Zg (t := 70) rfl (fun g70 => ?_) (fun g70 => ?_)
       ·
        exact absurd g70 (by first | (simp; done) | (simp_all; done))
       ·
        refine spG rfl rfl rfl rfl (PE.move rfl) rfl ?_
        refine spG rfl rfl rfl rfl (PE.move rfl) rfl ?_
        refine spG rfl rfl rfl rfl (PE.neq rfl rfl) rfl ?_
        refine sp rfl (PE.pick rfl rfl rfl) rfl ?_
        refine sp rfl (PE.move rfl) rfl ?_
        refine Zg (t := 75) rfl (fun g75 => ?_) (fun g75 => ?_)
        ·
         exact absurd g75 (by first | (simp; done) | (simp_all; done))
        ·
         refine spG rfl rfl rfl rfl (PE.move rfl) rfl ?_
         refine spG rfl rfl rfl rfl (PE.move rfl) rfl ?_
         refine Z0k rfl rfl rfl rfl Zer rfl rfl (Zb1 tb tb (some ⟨bd, 0, none⟩) a2 cd c2 (by omega) (by omega) _ _) ?_
         refine spG rfl rfl rfl rfl (PE.not rfl) rfl ?_
         refine sp rfl (PE.pick rfl rfl rfl) rfl ?_
         refine sp rfl (PE.move rfl) rfl ?_
         refine Zg (t := 81) rfl (fun g81 => ?_) (fun g81 => ?_)
         ·
          exact absurd g81 (by first | (simp; done) | (simp_all; done))
         ·
          refine Z03 rfl rfl rfl rfl rfl (lhA [_, _, _, _, _, _, _, _, _, _, _] Zd rfl rfl rfl) rfl ?_
          refine Z03 rfl rfl rfl rfl rfl (lhA [_, _, _, _, _, _, _, _, _, _, _] Zd rfl rfl rfl) rfl ?_
          refine Z0k rfl rfl rfl rfl Z5i rfl rfl (Z38 t t _ a co c (by omega) (by omega) _ _) ?_
          refine spG rfl rfl rfl rfl (PE.not rfl) rfl ?_
          refine sp rfl (PE.pick rfl rfl rfl) rfl ?_
          refine Z5 rfl (fun hc3 => ?_) (fun hc3 => ?_)
          ·
           exact absurd hc3 (by simp)
          ·
           refine Z3 ?_
           refine Z0 ?_
           refine Z0 ?_
           refine Z1 [0, 1] rfl ?_
           refine sp rfl (PE.move rfl) rfl ?_
           refine sp rfl (PE.neq rfl rfl) rfl ?_
           refine Z5 rfl (fun hc4 => ?_) (fun hc4 => ?_)
           ·
            try simp only [decide_eq_true_eq, decide_eq_false_iff_not, Bool.and_eq_true, Bool.or_eq_true, Bool.not_eq_true', Int.not_le, Int.not_lt] at hc4
            have hnil := Z9h hc4
            rw [hnil]
            refine Z0 ?_
            refine Z1 [0, 1, 2, 3, 4, 5, 6] rfl ?_
            refine sp rfl (PE.move rfl) rfl ?_
            refine sp rfl (PE.lenSl Z3R rfl) rfl ?_
            refine sp rfl (PE.eql rfl rfl) rfl ?_
            refine sp rfl (PE.move rfl) rfl ?_
            refine Zg (t := 92) rfl (fun g92 => ?_) (fun g92 => ?_)
            ·
             refine Z0k rfl rfl rfl rfl Z1f rfl rfl (Z00 _ _) ?_
             refine sp rfl (PE.pick rfl rfl rfl) rfl ?_
             refine sp rfl (PE.assign rfl) rfl ?_
             refine Z4 ?_
             exact Z2 (vs := [_]) rfl (.cons (RV.tmp rfl) .nil) rfl ⟨rfl, rfl, rfl⟩ drp
            ·
             exact absurd g92 (by first | (simp; done) | (simp_all; done))
           ·
            try simp only [decide_eq_true_eq, decide_eq_false_iff_not, Bool.and_eq_true, Bool.or_eq_true, Bool.not_eq_true', Int.not_le, Int.not_lt] at hc4
            obtain ⟨hck, hn, htp⟩ := Z9S (by simpa using hc4)
            have hok := (Zi hck).1
            have htl := Z4f hok (LY t)
            have hft2 := Z89 hck (hly hck) hn
            have hlp : Z0Z t = (lat (LY t) t.now, 0) := by simp [Z0Z, hck]
            rw [htp, hlp]
            dsimp only
            refine Zw (a := ax) (sz := 2) (rows := Zf t.rats) (by have := hok.many; intro h0; simp [Zf] at h0; simp [h0] at this) (fun bx ox he => ?_)
            subst he
            refine Z3 ?_
            refine Z0 ?_
            refine Ze [0, 0, 2, 7, 15, 31, 31, 63, 255] (.ld 0 (.tk 1 (.big 2 (.big 3 (.tk 4 (.tk 5 (.tk 6 (.tk 7 (.tk 8 .done))))))))) Zy (by kernel_rfl) ?_
            refine ld rfl rfl (lhA [_, _, _, _, _, _, _, _, _, _, _] Z0c rfl rfl rfl) rfl ?_
            refine tk rfl (PE.move rfl) rfl ?_
            refine cl rfl Ze1 rfl rfl (ZbD (tab t (LY t)) at_ ct (by omega) _ _) ?_
            rintro _ _ _ ⟨ar, cr, rfl, rfl, rfl⟩
            refine bg (fun w hs => ⟨(lhA [_, _, _, _, _, _, _, _, _, _, _] Z0c rfl rfl rfl) w hs, trivial⟩) ?_
            refine cl rfl ZdN rfl rfl (Z7r t hck (tab t (LY t)) ar cr (by omega) bx ox cx _ _) ?_
            rintro _ _ _ ⟨rfl, rfl, rfl⟩
            rw [hft2]
            refine bg (fun w hs => ⟨trivial, trivial⟩) ?_
            refine tk rfl (PE.move rfl) rfl ?_
            refine tk rfl (PE.extract rfl rfl) rfl ?_
            refine tk rfl (PE.extract rfl rfl) rfl ?_
            refine tk rfl (PE.assign rfl) rfl ?_
            refine tk rfl (PE.assign rfl) rfl ?_
            refine Z0 ?_
            refine Z1 [0, 1, 2, 3, 4, 5, 6, 7, 8, 9, 10] rfl ?_
            refine sp rfl (PE.move rfl) rfl ?_
            refine sp rfl (PE.eql rfl rfl) rfl ?_
            refine sp rfl (PE.move rfl) rfl ?_
            refine Zg (t := 104) rfl (fun g104 => ?_) (fun g104 => ?_)
            ·
             refine spG rfl rfl rfl rfl (PE.move rfl) rfl ?_
             refine spG rfl rfl rfl rfl (PE.move rfl) rfl ?_
             refine spG rfl rfl rfl rfl (PE.eql rfl rfl) rfl ?_
             refine sp rfl (PE.pick rfl rfl rfl) rfl ?_
             refine sp rfl (PE.move rfl) rfl ?_
             refine Zg (t := 109) rfl (fun g109 => ?_) (fun g109 => ?_)
             ·
              refine Z0k rfl rfl rfl rfl Z1f rfl rfl (Z00 _ _) ?_
              refine sp rfl (PE.pick rfl rfl rfl) rfl ?_
              refine sp rfl (PE.assign rfl) rfl ?_
              refine Z4 ?_
              exact Z2 (vs := [_]) rfl (.cons (RV.tmp rfl) .nil) rfl ⟨rfl, rfl, rfl⟩ drp
             ·
              exact absurd g109 (by first | (simp; done) | (simp_all; done))
            ·
             exact absurd g104 (by first | (simp; done) | (simp_all; done))
end Go.Proofs.YthhdgeibokecjaaGreat.Bd
namespace Go.Proofs.YthhdgeibokecjaaGreat.Bd
set_option linter.unusedSimpArgs false
set_option linter.unusedVariables false
def Z12 (s : Sta) (o : Option Int) (p : Sta × Int) : Option Int := bif decide (p.1 = s) then some (match o with | none => p.2 | some n => min n p.2) else o
def Z3d (l : List (Sta × Int)) (s : Sta) : Option Int := l.foldl (Z12 s) none
def leO (o : Option Int) (m : Int) : Bool := match o with | none => false | some n => decide (n ≤ m)
theorem Z3a (l : List (Sta × Int)) (p : Sta × Int) (s : Sta) : Z3d (l ++ [p]) s = Z12 s (Z3d l s) p := by simp [Z3d]
theorem Z7k (s : Sta) (m : Int) : ∀ (l : List (Sta × Int)) (o : Option Int), leO (l.foldl (Z12 s) o) m = (leO o m || Zs l s m)
  | [], o => by simp [Zs]
  | p :: l, o => by
    rw [List.foldl_cons, Z7k s m l]
    unfold Zs
    rw [List.any_cons, ← Bool.or_assoc]
    congr 1
    unfold Z12
    cases h : decide (p.1 = s) with
    | false => simp
    | true =>
      cases o with
      | none => simp [leO]
      | some n =>
        simp only [cond_true, leO, Bool.true_and]
        rw [Bool.eq_iff_iff]
        simp
        omega
theorem Z15 (l : List (Sta × Int)) (s : Sta) (m : Int) : Zs l s m = leO (Z3d l s) m := by
  have := Z7k s m l none
  simpa [Z3d, leO] using this.symm
theorem Z3x (t : Twn) : ∀ (l pre : List (Sta × Int)) (p : Sta × Int), Z0e t pre (l ++ [p]) = (Z0e t pre l && Z30 t (pre ++ l) p)
  | [], pre, p => by simp [Z0e]
  | x :: l, pre, p => by
    rw [List.cons_append, Z0e, Z0e, Z3x t l, Bool.and_assoc, List.append_assoc]; rfl
theorem Z08 {t : Twn} : ∀ {l pre : List (Sta × Int)} {k : Nat} {x : Sta × Int}, l[k]? = some x → Z30 t (pre ++ l.take k) x = false → Z0e t pre l = false
  | [], _, _, _, h, _ => by simp at h
  | a :: l, pre, 0, x, h, hb => by
    simp only [List.getElem?_cons_zero, Option.some.injEq] at h
    subst h
    rw [Z0e]
    rw [List.take_zero, List.append_nil] at hb
    rw [hb]; rfl
  | a :: l, pre, k + 1, x, h, hb => by
    rw [Z0e, Z08 (l := l) (pre := pre ++ [a]) (k := k) (by simpa using h) (by simpa using hb)]
    simp
def stR (t : Twn) (l : List (Sta × Int)) : Int × Int :=
  bif decide (t.check ≠ 0) then (0, t.check) else bif decide (496 < l.length) then (0, 2) else bif !(l.all fun p => p.1.right t && inb p.2 0 1000000) then (0, 3) else bif !(Z0e t [] l) then (0, 8) else match Z3d l t.now with
  | none => (0, 6)
  | some n => (n, 0)
structure FlOk (t : Twn) (σ : Sv) : Prop where
  len : σ.y.length = 496
  ok : Z0e t [] σ.fl = true
  rg : ∀ p ∈ σ.fl, p.1.right t = true ∧ 0 ≤ p.2 ∧ p.2 ≤ 1000000
  at_ : ∀ s, s.right t = true → Z3d σ.fl s = bif Z3b σ.y s then none else some (lat σ.y s + 1)
theorem FlOk.step {t : Twn} (ht : t.ok) {n : Nat} (hn : n ≤ 496) {σ : Sv} (h : FlOk t σ) {u : Sta} (hu : u.right t = true) : FlOk t (σ.step t n u) := by
  cases hc : Z3b σ.y u && !(t.rats.any fun q => t.keeps σ.y u q n) with
  | false => have e : σ.step t n u = σ := by unfold Sv.step; rw [hc]; rfl
             rw [e]; exact h
  | true =>
    have e : σ.step t n u = ⟨σ.y.set u.ix (n - 1), σ.fl ++ [(u, (n : Int))]⟩ := by unfold Sv.step; rw [hc]; rfl
    rw [e]
    simp only [Bool.and_eq_true, Bool.not_eq_true', List.any_eq_false] at hc
    obtain ⟨hev, hno⟩ := hc
    have hui := Z2A ht hu
    refine ⟨by simp [h.len], ?_, ?_, ?_⟩
    · rw [Z3x, h.ok, Bool.true_and, List.nil_append]
      refine List.all_eq_true.2 fun q hq => ?_
      cases hcan : t.can u q with
      | false => rfl
      | true =>
        have hk := hno q hq
        have hg := ZB ht hu hq hcan (bad := false) (by simp)
        have key : ∀ (s : Sta) (m : Int), s.right t = true → m ≤ 496 → ¬ m ≤ lat σ.y s → Zs σ.fl s m = true := fun s m hs hm h1 => by
          rw [Z15, h.at_ s hs]
          have he : Z3b σ.y s = false := by unfold Z3b; rw [decide_eq_false]; omega
          rw [he]
          simp only [cond_false, leO, decide_eq_true_eq]
          omega
        simp only [Bool.not_true, Bool.false_or]
        by_cases h1 : (n : Int) ≤ lat σ.y (t.next u q false)
        · simp only [Twn.keeps, hcan, h1, decide_true, Bool.and_true, Bool.true_and, Bool.or_eq_true, decide_eq_true_eq, Bool.not_eq_true', decide_eq_false_iff_not, not_or, Decidable.not_not] at hk
          obtain ⟨⟨h2, h3⟩, h4⟩ := hk
          rw [decide_eq_false (show ¬ (n : Int) = 1000000 by omega)] at h4
          rw [decide_eq_true h3, key _ (n - 1) (ZB ht hu hq hcan (fun _ => h3)) (by omega) h4]
          simp
        · rw [key _ n hg (by omega) h1]; rfl
    · intro p hp
      rcases List.mem_append.1 hp with hp | hp
      · exact h.rg p hp
      · simp only [List.mem_singleton] at hp; subst hp; exact ⟨hu, by omega, by dsimp only; omega⟩
    · intro s hs
      rw [Z3a, h.at_ s hs]
      unfold Z12
      by_cases e2 : u = s
      · subst e2
        rw [hev]
        have : Z3b (σ.y.set u.ix ((n : Int) - 1)) u = false := by unfold Z3b; rw [ZX (by rw [h.len]; exact hui), decide_eq_false]; omega
        simp only [decide_true, cond_true, this, cond_false, ZX (y := σ.y) (v := (n : Int) - 1) (by rw [h.len]; exact hui)]
        congr 1; omega
      · have hix : u.ix ≠ s.ix := fun e3 => e2 (Z2n ht hu hs e3)
        simp only [e2, decide_false, cond_false, Z3b, Z0h hix]
theorem FlOk.fold {t : Twn} (ht : t.ok) {n : Nat} (hn : n ≤ 496) : ∀ (l : List Sta) (σ : Sv), (∀ s ∈ l, s ∈ sts t) → FlOk t σ → FlOk t (l.foldl (Sv.step t n) σ)
  | [], _, _, h => h
  | s :: l, σ, hl, h => FlOk.fold ht hn l _ (fun u hu => hl u (by simp [hu])) (h.step ht hn (Zv ht (hl s (by simp))))
theorem FlOk.passes {t : Twn} (ht : t.ok) {n : Nat} (hn : n ≤ 496) : ∀ (j : Nat) (σ : Sv), FlOk t σ → FlOk t (passes t n j σ)
  | 0, _, h => h
  | j + 1, σ, h => FlOk.fold ht hn (sts t) _ (fun _ h => h) (FlOk.passes ht hn j σ h)
theorem ZeB {t : Twn} (ht : t.ok) {n : Nat} {σ : Sv} (h : Rd t n σ) : FlOk t σ := by
  induction h with
  | zero => exact ⟨(Z5q ht .zero).1, rfl, by simp, fun s hs => by
      have : Z3b (Z8i t) s = true := by unfold Z3b; rw [Z3A ht (ZW hs)]; rfl
      rw [this]; rfl⟩
  | next j h _ _ ih => exact ih.passes ht (by have := (Z5q ht h).2.1; omega) j _
theorem Z4h {t : Twn} (ht : t.ok) {σ : Sv} (h : Z3w t σ) : FlOk t σ ∧ σ.fl.length ≤ 496 := by
  obtain ⟨n, h, _⟩ := h
  exact ⟨ZeB ht h, by have := (Z5q ht h).2.2; omega⟩
theorem Zd2 {t : Twn} (h0 : t.check = 0) {σ : Sv} (h : Z3w t σ) (hn : lat σ.y t.now ≠ 1000000) : stR t σ.fl = (lat σ.y t.now + 1, 0) := by
  have hok := (Zi h0).1
  obtain ⟨hf, hl⟩ := Z4h hok h
  have h1 : (σ.fl.all fun p => p.1.right t && inb p.2 0 1000000) = true := List.all_eq_true.2 fun p hp => by
    obtain ⟨a, b, c⟩ := hf.rg p hp
    rw [a, Bool.true_and]; simp only [inb, Bool.and_eq_true, decide_eq_true_eq]; exact ⟨b, c⟩
  unfold stR
  rw [h1, hf.ok, hf.at_ _ hok.now, decide_eq_false (show ¬ 496 < σ.fl.length by omega)]
  simp [h0, Z3b, hn]
noncomputable def Z3f (t : Twn) : Int := bif decide (t.check ≠ 0) then t.check else bif decide (lat (LY t) t.now = 1000000) then 6 else 0
end Go.Proofs.YthhdgeibokecjaaGreat.Bd
