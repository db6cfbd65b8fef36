/- Walks of the functions of the program, and the laws that join them: what the last theorem of this claim needs, in order. -/
import Derived.Test.YthhdgeibokecjaaGreatbz7
namespace Go.Proofs.YthhdgeibokecjaaGreat.Bd
set_option linter.unusedSimpArgs false
set_option linter.unusedVariables false
open Go
theorem Z70 : cal Tryz.prog 10 = true := by kernel_rfl
theorem Z3N : cal Tryz.prog 9 = true := by kernel_rfl
theorem ZfW : elN Tryz.prog 45 = some 1 := by kernel_rfl
theorem ZfP : Z47 Tryz.prog 42 = true := by kernel_rfl
theorem ZfL : slE Tryz.prog 45 = some (42, 1) := by kernel_rfl
theorem ZfF : Z0n Tryz.prog 42 = some ([.pointer none]) := by kernel_rfl
theorem Z1D (l : List Rw) : (Zt l).length = l.length := List.length_map _
theorem Z1C (l : List Fat) : (Zo l).length = l.length := List.length_map _
theorem Z05 (l : List Rw) : ∀ r ∈ Zt l, r.length = 5 := fun r hr => by obtain ⟨x, _, rfl⟩ := List.mem_map.1 hr; rfl
theorem ZQ (l : List Fat) : ∀ r ∈ Zo l, r.length = 4 := fun r hr => by obtain ⟨x, _, rfl⟩ := List.mem_map.1 hr; rfl
theorem Zbn {e sz : Nat} {rows : List (List Value)} (o : OSl e sz rows) : ∃ a c, o.fs = .slice a rows.length c := by
  rcases o.is with ⟨h, h2, _⟩ | ⟨b, cap, _, h2, _⟩
  · exact ⟨none, 0, by rw [h2, h]; rfl⟩
  · exact ⟨_, _, h2⟩
theorem ZfC (x0 x1 x2 : Rw) (xs : List Rw) : (Zt (x0 :: x1 :: x2 :: xs)).length = xs.length + 3 := by rw [Z1D]; rfl
theorem ZfX (x0 x1 x2 : Fat) (xs : List Fat) : (Zo (x0 :: x1 :: x2 :: xs)).length = xs.length + 3 := by rw [Z1C]; rfl
theorem Zd1 {i : Nat} (h : i < 25) : i = 0 ∨ i = 1 ∨ i = 2 ∨ i = 3 ∨ i = 4 ∨ i = 5 ∨ i = 6 ∨ i = 7 ∨ i = 8 ∨ i = 9 ∨ i = 10 ∨ i = 11 ∨ i = 12 ∨ i = 13 ∨ i = 14 ∨ i = 15 ∨ i = 16 ∨ i = 17 ∨ i = 18 ∨ i = 19 ∨ i = 20 ∨ i = 21 ∨ i = 22 ∨ i = 23 ∨ i = 24 := by omega
theorem Za4 {l : List Fat} {junk : List Value} {k i : Nat} (z : Fat) (hk : k < l.length) (e : i = k * 4) : spl ((Zo l).flatten ++ junk) i (Z2j z) = (Zo (l.set k z)).flatten ++ junk := by
  subst e
  have h1 : (Zo (l.take k)).flatten.length = k * 4 := by rw [Z09 (ZQ _), Z1C, List.length_take, Nat.min_eq_left (by omega)]
  have e1 : (Zo l).flatten ++ junk = (Zo (l.take k)).flatten ++ (Z2j l[k] ++ ((Zo (l.drop (k + 1))).flatten ++ junk)) := by
    have : l = l.take k ++ l[k] :: l.drop (k + 1) := by
      conv => lhs; rw [← List.take_append_drop k l]
      rw [List.drop_eq_getElem_cons]
    conv => lhs; rw [this]
    simp only [Zo, List.map_append, List.map_cons, List.flatten_append, List.flatten_cons, List.append_assoc]
  have e2 : (Zo (l.set k z)).flatten ++ junk = (Zo (l.take k)).flatten ++ (Z2j z ++ ((Zo (l.drop (k + 1))).flatten ++ junk)) := by
    rw [List.set_eq_take_append_cons_drop, if_pos hk]
    simp only [Zo, List.map_append, List.map_cons, List.flatten_append, List.flatten_cons, List.append_assoc]
  rw [e1, e2]
  unfold spl
  rw [← h1, List.take_left, List.drop_append]
  simp [Z2j]
theorem Z8Z {l : List Fat} {junk : List Value} {k : Nat} {z : Fat} (hk : l[k]? = some z) : ∃ rest, ((Zo l).flatten ++ junk).drop (k * 4) = Z2j z ++ rest := by
  have hlt := (List.getElem?_eq_some_iff.1 hk).1
  have h1 : (Zo (l.take k)).flatten.length = k * 4 := by rw [Z09 (ZQ _), Z1C, List.length_take, Nat.min_eq_left (by omega)]
  have : l = l.take k ++ z :: l.drop (k + 1) := by
    conv => lhs; rw [← List.take_append_drop k l]
    rw [Z40 hk]
  have e1 : (Zo l).flatten ++ junk = (Zo (l.take k)).flatten ++ (Z2j z ++ ((Zo (l.drop (k + 1))).flatten ++ junk)) := by
    conv => lhs; rw [this]
    simp only [Zo, List.map_append, List.map_cons, List.flatten_append, List.flatten_cons, List.append_assoc]
  exact ⟨_, by rw [e1, ← h1, List.drop_left]⟩
theorem Z0t (m m2 bm b1 b2 b3 b4 : Nat) (hm : m ≤ 497) (hm2 : m2 ≤ 20) (H : Zj) (R : Z9) [hR : MemRows (some ⟨bm, 0, none⟩) 2 (Zf mill.rats) R] [h1 : MemRows (some ⟨b1, 0, none⟩) 1 (Zh (List.replicate m2 0)) R] [h2 : MemRows (some ⟨b2, 0, none⟩) 1 (ZM (List.replicate m2 false)) R] [h3 : MemRows (some ⟨b3, 0, none⟩) 5 (Zt (List.replicate m ⟨⟨0, 0, 0⟩, 0, 0⟩)) R] [h4 : MemRows (some ⟨b4, 0, none⟩) 4 (Zo (List.replicate m (⟨0, 0, 0⟩, 0))) R] :
    Fn Tryz.prog 9 [mill.v (.slice (some ⟨bm, 0, none⟩) 2 2), mill.now.v, .int .i64 0, .bool true, .slice (some ⟨b1, 0, none⟩) m2 m2, .slice (some ⟨b2, 0, none⟩) m2 m2, .int .i64 m, .slice (some ⟨b3, 0, none⟩) m m, .slice (some ⟨b4, 0, none⟩) m m] H R (fun v H' R' => v = .bool true ∧ H' = H ∧ R' = R) := by
  have e1 : (List.replicate m2 (0 : Int)).length = m2 := List.length_replicate
  have e2 : (List.replicate m2 false).length = m2 := List.length_replicate
  have e3 : (List.replicate m (⟨⟨0, 0, 0⟩, 0, 0⟩ : Rw)).length = m := List.length_replicate
  have e4 : (List.replicate m ((⟨0, 0, 0⟩, 0) : Fat)).length = m := List.length_replicate
  have hc := Z5Q mill (some ⟨bm, 0, none⟩) 2 (by decide) mill.now 0 true (List.replicate m2 0) (some ⟨b1, 0, none⟩) m2 (by omega) (List.replicate m2 false) (some ⟨b2, 0, none⟩) m2 (by omega) m (List.replicate m ⟨⟨0, 0, 0⟩, 0, 0⟩) (some ⟨b3, 0, none⟩) m (by omega) (List.replicate m (⟨0, 0, 0⟩, 0)) (some ⟨b4, 0, none⟩) m (by omega) H R
  rw [e1, e2, e3, e4] at hc
  exact hc
set_option maxHeartbeats 4000000 in
theorem c_BreadSmall (H : Zj) (R : Z9) :
    Fn Tryz.prog 3 [] H R (fun v H' R' => v = .bool true ∧ H' = H ∧ R' = R) := by
  refine Zq Tryz.func3 rfl Tryz.ntmps3 rfl ?_
  refine Z0 ?_
  refine Z1 [0] rfl ?_
  refine sp rfl (PE.assign rfl) rfl ?_
  refine Z0 ?_
  refine Z0 ?_
  refine Z1 [0, 1, 2] rfl ?_
  refine bsl (out := [_, _, _, _, _, _, _, _, _, _, _, _, _, _, _, _, _, _, _]) rfl Z46 zl3 rfl rfl rfl rfl rfl rfl (fun b29 => ?_)
  refine Sy.heap (fun w h => St.intRows (l := ZcP) h) ?_
  refine sp rfl (PE.lenSl Z0p rfl) rfl ?_
  refine sp rfl (PE.move rfl) rfl ?_
  refine Z7 ?_
  refine Zn (ι := {k : Nat // k ≤ 19}) (fun y => ⟨[(29, .slice (some ⟨b29, 0, none⟩) 19 19), (30, .int .i64 19), (31, .int .i64 y.1)], H, RowsA (some ⟨b29, 0, none⟩) 1 (Zh ZcP) :: R⟩) (fun y => 19 - y.1) ⟨0, Nat.zero_le _⟩ ?_ (fun y => ?_)
  ·
   exact Z0i (by repeat' first | exact Sub.nil | apply Sub.cons | rfl | (simp [lk]; omega)) (fun _ h => h)
  ·
   obtain ⟨k, hk⟩ := y
   dsimp only at hk ⊢
   refine Z0 ?_
   refine Z1 [0] rfl ?_
   refine sp rfl (PE.lss rfl rfl) rfl ?_
   refine Z0 ?_
   refine Z5 rfl (fun hc0 => ?_) (fun hc0 => ?_)
   ·
    try simp only [decide_eq_true_eq, decide_eq_false_iff_not, Bool.and_eq_true, Bool.or_eq_true, Bool.not_eq_true', Int.not_le, Int.not_lt] at hc0
    obtain ⟨v, hv⟩ : ∃ v, ZcP[k]? = some v := ⟨_, List.getElem?_eq_getElem (show k < 19 by omega)⟩
    refine Z3 ?_
    refine Z0 ?_
    refine Z7 ?_
    refine Z0 ?_
    refine Z1 [0, 1, 2] rfl ?_
    refine sp rfl (PE.indexAddr Z0N rfl rfl (by omega) (by omega)) rfl ?_
    refine spL rfl rfl (lf0 sc3 (Z9s hv) rfl) rfl ?_
    refine sp rfl (PE.assign rfl) rfl ?_
    refine Z0 ?_
    refine Z1 [0] rfl ?_
    refine sp rfl (PE.move rfl) rfl ?_
    refine Z7 ?_
    refine Zn (ι := {i : Nat // i ≤ 25}) (fun y => ⟨[(29, .slice (some ⟨b29, 0, none⟩) 19 19), (30, .int .i64 19), (31, .int .i64 k), (2, .int .i64 v), (35, .int .i64 y.1)], H, RowsA (some ⟨b29, 0, none⟩) 1 (Zh ZcP) :: R⟩) (fun y => 25 - y.1) ⟨0, Nat.zero_le _⟩ ?_ (fun y => ?_)
    ·
     exact Z0i (by repeat' first | exact Sub.nil | apply Sub.cons | rfl | (simp [lk]; omega)) (fun _ h => h)
    ·
     obtain ⟨i, hi⟩ := y
     dsimp only at hi ⊢
     refine Z0 ?_
     refine Z1 [0] rfl ?_
     refine sp rfl (PE.lss rfl rfl) rfl ?_
     refine Z0 ?_
     refine Z5 rfl (fun hc1 => ?_) (fun hc1 => ?_)
     ·
      try simp only [decide_eq_true_eq, decide_eq_false_iff_not, Bool.and_eq_true, Bool.or_eq_true, Bool.not_eq_true', Int.not_le, Int.not_lt] at hc1
      
      refine Z3 ?_
      refine Z0 ?_
      refine Z7 ?_
      refine Z0 ?_
      refine Z1 [0, 1] rfl ?_
      refine sp rfl (PE.move rfl) rfl ?_
      refine sp rfl (PE.assign rfl) rfl ?_
      refine Z0 ?_
      refine Z1 [0, 1, 2] rfl ?_
      refine cl rfl ZeC rfl rfl (ZcA _ _) ?_
      rintro _ _ _ ⟨bm, rfl, rfl, rfl⟩
      refine alc rfl Z04 rfl (fun b4 => ?_)
      refine Z2R (l' := twl mill (.slice (some ⟨bm, 0, none⟩) 2 2)) rfl rfl rfl ZO rfl rfl rfl rfl (Nat.le_of_ble_eq_true rfl) ?_
      refine Z0 ?_
      refine Z1 [0, 1, 2, 3, 4, 5, 6] rfl ?_
      refine spL rfl rfl (lhA (twl mill (.slice (some ⟨bm, 0, none⟩) 2 2)) Zd rfl rfl rfl) rfl ?_
      refine cl rfl Zee rfl rfl (Z7g bm _ _) ?_
      rintro _ _ _ ⟨_, ⟨oT, rfl, rfl⟩, rfl, rfl⟩
      obtain ⟨aT, cT, he, hf⟩ := oT.freeze
      rw [he]
      refine Sy.heap (fun w h => hf (h.pullG oT.G)) ?_
      clear he hf
      rw [Z1D]
      refine sp rfl (PE.move rfl) rfl ?_
      refine sp rfl (PE.extract rfl rfl) rfl ?_
      refine sp rfl (PE.extract rfl rfl) rfl ?_
      refine sp rfl (PE.assign rfl) rfl ?_
      refine sp rfl (PE.assign rfl) rfl ?_
      refine Z0 ?_
      refine Z1 [0, 1, 2, 3, 4, 5, 6] rfl ?_
      refine spL rfl rfl (lhA (twl mill (.slice (some ⟨bm, 0, none⟩) 2 2)) Zd rfl rfl rfl) rfl ?_
      refine cl rfl ZeU rfl rfl (Z73 bm _ _) ?_
      rintro _ _ _ ⟨_, ⟨fl, oF, e9, ⟨hf3, hf4⟩, rfl, rfl⟩, rfl, rfl⟩
      obtain ⟨aF, cF, he, hf⟩ := oF.freeze
      rw [he]
      refine Sy.heap (fun w h => hf (h.pullG oF.G)) ?_
      clear he hf
      rw [Z1C]
      refine sp rfl (PE.move rfl) rfl ?_
      refine sp rfl (PE.extract rfl rfl) rfl ?_
      refine sp rfl (PE.extract rfl rfl) rfl ?_
      refine sp rfl (PE.assign rfl) rfl ?_
      refine sp rfl (PE.assign rfl) rfl ?_
      refine Z0 ?_
      refine Z1 [0, 1, 2, 3, 4, 5] rfl ?_
      refine sp rfl (PE.move rfl) rfl ?_
      refine cl rfl Z8I rfl rfl (Z0q (tab mill Z4s) aT cT (by have := Z4f mill_ok Z4s; omega) _ _) ?_
      rintro _ _ _ ⟨oX, rfl, ⟨bt, ct, hX⟩, rfl, rfl⟩
      refine sp rfl (PE.move rfl) rfl ?_
      refine cl rfl Z8J rfl rfl (Z07 fl aF cF (by omega) _ _) ?_
      rintro _ _ _ ⟨oY, rfl, ⟨bf, cf, hY⟩, rfl, rfl⟩
      refine sp rfl (PE.assign rfl) rfl ?_
      refine sp rfl (PE.assign rfl) rfl ?_
      refine Z0 ?_
      refine Z0 ?_
      refine Z1 [0, 1, 2, 3, 4, 5, 6, 7] rfl ?_
      obtain ⟨b8, c8, jt, hx1, hx2, _⟩ := oX.is.resolve_left (fun h => by rw [h.2.1] at hX; cases hX)
      obtain ⟨b9, c9, jf, hy1, hy2, _⟩ := oY.is.resolve_left (fun h => by rw [h.2.1] at hY; cases hY)
      rw [hx1] at hX
      rw [hy1] at hY
      cases hX
      cases hY
      rw [hx1, hx2, hy1, hy2]
      clear hx1 hx2 hy1 hy2
      obtain ⟨x0, x1, x2, xs, hxs⟩ := Z7J Zas
      obtain ⟨g0, g1, g2, gs, rfl⟩ := Z7J hf3
      have hxl := Z4f mill_ok Z4s
      rw [hxs] at hxl ⊢
      rw [ZfC, ZfX]
      simp only [List.length_cons] at hxl hf4
      refine Sy.heap (H' := (bf, cel 41 ((Zo (g0 :: g1 :: g2 :: gs)).flatten ++ jf)) :: (bt, cel 38 ((Zt (x0 :: x1 :: x2 :: xs)).flatten ++ jt)) :: (bm, cel 44 [.int .i64 4, .int .i64 10, .int .i64 2, .int .i64 16]) :: (b4, cel 27 (twl mill (.slice (some ⟨bm, 0, none⟩) 2 2))) :: H) (fun w h => h) ?_
      refine Sy.heap (H' := (bt, cel 38 ((Zt (x0 :: x1 :: x2 :: xs)).flatten ++ jt)) :: (bf, cel 41 ((Zo (g0 :: g1 :: g2 :: gs)).flatten ++ jf)) :: (bm, cel 44 [.int .i64 4, .int .i64 10, .int .i64 2, .int .i64 16]) :: (b4, cel 27 (twl mill (.slice (some ⟨bm, 0, none⟩) 2 2))) :: H) (R' := RowsA (some ⟨b29, 0, none⟩) 1 (Zh ZcP) :: R) (fun w h => St.sub ((((h.pull b4).pull bm).pull bf).pull bt)) ?_
      refine sp rfl (PE.move rfl) rfl ?_
      refine sp rfl (PE.lenSl Z3R rfl) rfl ?_
      refine sp rfl (PE.lss rfl rfl) rfl ?_
      refine sp rfl (PE.move rfl) rfl ?_
      refine Zg (t := 56) rfl (fun g56 => ?_) (fun g56 => ?_)
      ·
       exact absurd g56 (by simp; omega)
      ·
       refine spG rfl rfl rfl rfl (PE.move rfl) rfl ?_
       refine spG rfl rfl rfl rfl (PE.lenSl Z2Q rfl) rfl ?_
       refine spG rfl rfl rfl rfl (PE.lss rfl rfl) rfl ?_
       refine sp rfl (PE.pick rfl rfl rfl) rfl ?_
       refine Z5 rfl (fun hc2 => ?_) (fun hc2 => ?_)
       ·
        exact absurd hc2 (by simp; omega)
       ·
        refine Z3 ?_
        refine Z0 ?_
        refine Z1 [0, 1, 2, 3, 4, 5, 6, 7, 8] rfl ?_
        refine sp rfl (PE.build (out := [_, _, _]) Z7z Z2M rfl rfl) rfl ?_
        refine bsl (out := [_, _, _]) rfl Z46 zl3 rfl rfl rfl rfl rfl rfl (fun b62 => ?_)
        refine alc rfl Z2M rfl (fun b9 => ?_)
        refine alc rfl zl3 rfl (fun b10 => ?_)
        refine alc rfl zl3 rfl (fun b12 => ?_)
        refine sto rfl rfl rfl Z2O rfl rfl rfl rfl ?_
        refine sto rfl rfl rfl cn3 rfl rfl rfl rfl ?_
        refine sp rfl (PE.assign rfl) rfl ?_
        refine sto rfl rfl rfl cn3 rfl rfl rfl rfl ?_
        refine Z0 ?_
        refine Ze [0, 1, 0, 4, 0, 16, 0, 0, 0, 0, 0, 0, 0, 0, 8192, 24576, 57344, 0, 131072, 393216, 917504, 0, 0, 0, 0, 16777216, 0, 67108864, 0, 268435456, 805306368, 0, 2147483648, 6442450944, 0, 17179869184, 51539607552, 120259084288, 0, 274877906944, 824633720832, 0, 2199023255552, 6597069766656, 15393162788864, 0, 35184372088832, 105553116266496, 246290604621824, 562949953421311, 1125899906842623] (.tk 0 (.tk 1 (.tk 2 (.tk 3 (.tk 4 (.tk 5 (.tk 6 (.tk 7 (.tk 8 (.tk 9 (.tk 10 (.tk 11 (.tk 12 (.tk 13 (.ld 14 (.tk 15 (.tk 16 (.tk 17 (.ld 18 (.tk 19 (.tk 20 (.tk 21 (.tk 22 (.tk 23 (.tk 24 (.tk 25 (.tk 26 (.tk 27 (.tk 28 (.tk 29 (.tk 30 (.tk 31 (.tk 32 (.tk 33 (.tk 34 (.tk 35 (.tk 36 (.tk 37 (.tk 38 (.tk 39 (.tk 40 (.tk 41 (.tk 42 (.tk 43 (.tk 44 (.tk 45 (.tk 46 (.tk 47 (.tk 48 (.big 49 (.tk 50 .done))))))))))))))))))))))))))))))))))))))))))))))))))) Zy (by kernel_rfl) ?_
        refine tk rfl (PE.fieldAddr Z0a rfl) rfl ?_
        refine tk rfl (PE.fieldAddr Z1B rfl) rfl ?_
        refine tk rfl (PE.fieldAddr Z0a rfl) rfl ?_
        refine tk rfl (PE.fieldAddr Z1h rfl) rfl ?_
        refine tk rfl (PE.fieldAddr Z0a rfl) rfl ?_
        refine tk rfl (PE.fieldAddr Z1I rfl) rfl ?_
        refine tk rfl (PE.fieldAddr Z1N rfl) rfl ?_
        refine tk rfl (PE.fieldAddr Z3H rfl) rfl ?_
        refine tk rfl (PE.fieldAddr Z22 rfl) rfl ?_
        refine tk rfl (PE.fieldAddr Z25 rfl) rfl ?_
        refine tk rfl (PE.fieldAddr Z2Y rfl) rfl ?_
        refine tk rfl (PE.fieldAddr Z3p rfl) rfl ?_
        refine tk rfl (PE.fieldAddr Z3P rfl) rfl ?_
        refine tk rfl (PE.fieldAddr ZY rfl) rfl ?_
        refine ld rfl rfl (lh Z23 rfl rfl) rfl ?_
        refine tk rfl (PE.indexAddr Z8K rfl rfl (by decide) (by decide)) rfl ?_
        refine tk rfl (PE.fieldAddr Z2Z rfl) rfl ?_
        refine tk rfl (PE.fieldAddr ZY rfl) rfl ?_
        refine ld rfl rfl (lh Z23 rfl rfl) rfl ?_
        refine tk rfl (PE.indexAddr Z8K rfl rfl (by decide) (by decide)) rfl ?_
        refine tk rfl (PE.fieldAddr Z5c rfl) rfl ?_
        refine tk rfl (PE.fieldAddr Z1B rfl) rfl ?_
        refine tk rfl (PE.fieldAddr Z1h rfl) rfl ?_
        refine tk rfl (PE.fieldAddr Z1I rfl) rfl ?_
        refine tk rfl (PE.move rfl) rfl ?_
        refine tk rfl (PE.indexAddr Z0N rfl rfl (by decide) (by decide)) rfl ?_
        refine tk rfl (PE.move rfl) rfl ?_
        refine tk rfl (PE.indexAddr Z0N rfl rfl (by decide) (by decide)) rfl ?_
        refine tk rfl (PE.move rfl) rfl ?_
        refine tk rfl (PE.indexAddr Zbq rfl rfl (by omega) (by omega)) rfl ?_
        refine tk rfl (PE.fieldAddr Z4Y rfl) rfl ?_
        refine tk rfl (PE.move rfl) rfl ?_
        refine tk rfl (PE.indexAddr Zbq rfl rfl (by omega) (by omega)) rfl ?_
        refine tk rfl (PE.fieldAddr Z6x rfl) rfl ?_
        refine tk rfl (PE.move rfl) rfl ?_
        refine tk rfl (PE.indexAddr Zbq rfl rfl (by omega) (by omega)) rfl ?_
        refine tk rfl (PE.fieldAddr Z7y rfl) rfl ?_
        refine tk rfl (PE.fieldAddr Z1I rfl) rfl ?_
        refine tk rfl (PE.move rfl) rfl ?_
        refine tk rfl (PE.indexAddr Z8H rfl rfl (by omega) (by omega)) rfl ?_
        refine tk rfl (PE.fieldAddr Z4a rfl) rfl ?_
        refine tk rfl (PE.move rfl) rfl ?_
        refine tk rfl (PE.indexAddr Z8H rfl rfl (by omega) (by omega)) rfl ?_
        refine tk rfl (PE.fieldAddr Z2E rfl) rfl ?_
        refine tk rfl (PE.fieldAddr Z1B rfl) rfl ?_
        refine tk rfl (PE.move rfl) rfl ?_
        refine tk rfl (PE.indexAddr Z8H rfl rfl (by omega) (by omega)) rfl ?_
        refine tk rfl (PE.fieldAddr Z2E rfl) rfl ?_
        refine tk rfl (PE.fieldAddr Z1h rfl) rfl ?_
        refine bsl (vs := [(0, .pointer (some ⟨b4, 0, none⟩)), (1, .pointer (some ⟨b4, 1, none⟩)), (2, .pointer (some ⟨b4, 2, none⟩)), (3, .pointer (some ⟨b4, 3, none⟩)), (4, .pointer (some ⟨b4, 4, none⟩)), (5, .pointer (some ⟨b4, 5, none⟩)), (6, .pointer (some ⟨b4, 6, none⟩)), (7, .pointer (some ⟨b4, 7, none⟩)), (8, .pointer (some ⟨b4, 8, none⟩)), (9, .pointer (some ⟨b4, 9, none⟩)), (10, .pointer (some ⟨bm, 0, none⟩)), (11, .pointer (some ⟨bm, 3, none⟩)), (12, .pointer (some ⟨b9, 0, none⟩)), (13, .pointer (some ⟨b9, 1, none⟩)), (14, .pointer (some ⟨b9, 2, none⟩)), (15, .pointer (some ⟨b10, 0, none⟩)), (16, .pointer (some ⟨b62, 0, none⟩)), (17, .pointer (some ⟨b62, 2, none⟩)), (18, .pointer (some ⟨b12, 0, none⟩)), (19, .pointer (some ⟨bt, 8, none⟩)), (20, .pointer (some ⟨bt, 14, none⟩)), (21, .pointer (some ⟨bt, 2, none⟩)), (22, .pointer (some ⟨bf, 11, none⟩)), (23, .pointer (some ⟨bf, 4, none⟩)), (24, .pointer (some ⟨bf, 1, none⟩))]) (out := [.pointer (some ⟨b4, 0, none⟩), .pointer (some ⟨b4, 1, none⟩), .pointer (some ⟨b4, 2, none⟩), .pointer (some ⟨b4, 3, none⟩), .pointer (some ⟨b4, 4, none⟩), .pointer (some ⟨b4, 5, none⟩), .pointer (some ⟨b4, 6, none⟩), .pointer (some ⟨b4, 7, none⟩), .pointer (some ⟨b4, 8, none⟩), .pointer (some ⟨b4, 9, none⟩), .pointer (some ⟨bm, 0, none⟩), .pointer (some ⟨bm, 3, none⟩), .pointer (some ⟨b9, 0, none⟩), .pointer (some ⟨b9, 1, none⟩), .pointer (some ⟨b9, 2, none⟩), .pointer (some ⟨b10, 0, none⟩), .pointer (some ⟨b62, 0, none⟩), .pointer (some ⟨b62, 2, none⟩), .pointer (some ⟨b12, 0, none⟩), .pointer (some ⟨bt, 8, none⟩), .pointer (some ⟨bt, 14, none⟩), .pointer (some ⟨bt, 2, none⟩), .pointer (some ⟨bf, 11, none⟩), .pointer (some ⟨bf, 4, none⟩), .pointer (some ⟨bf, 1, none⟩)]) rfl ZfL ZfF rfl rfl rfl rfl (by kernel_rfl) rfl (fun b112 => ?_)
        refine bg (fun w hs => ⟨trivial, trivial, trivial⟩) ?_
        refine tk rfl (PE.assign rfl) rfl ?_
        refine Z0 ?_
        refine Z2q (ι := Sm25) (fun y => ⟨[(29, .slice (some ⟨b29, 0, none⟩) 19 19), (30, .int .i64 19), (31, .int .i64 k), (2, .int .i64 v), (35, .int .i64 i), (4, .pointer (some ⟨b4, 0, none⟩)), (5, .slice (some ⟨bt, 0, none⟩) (xs.length + 3) ct), (7, .slice (some ⟨bf, 0, none⟩) (gs.length + 3) cf), (9, .pointer (some ⟨b9, 0, none⟩)), (10, .pointer (some ⟨b10, 0, none⟩)), (11, .slice (some ⟨b62, 0, none⟩) 3 3), (12, .pointer (some ⟨b12, 0, none⟩))], (b12, cel 3 [.int .i64 y.bd]) :: (b10, cel 3 [.int .i64 y.ra]) :: (b9, cel 24 [.int .i64 y.s0, .int .i64 y.s1, .int .i64 y.s2]) :: (b62, cel 3 (ZT [y.p0, 0, y.p2])) :: (bt, cel 38 ((Zt (Sm25.tr y x0 x1 x2 xs)).flatten ++ jt)) :: (bf, cel 41 ((Zo (Sm25.fr y g0 g1 g2 gs)).flatten ++ jf)) :: (bm, cel 44 ((Zf (Sm25.tw y).rats).flatten ++ [])) :: (b4, cel 27 (twl (Sm25.tw y) (.slice (some ⟨bm, 0, none⟩) 2 2))) :: H, RowsA (some ⟨b29, 0, none⟩) 1 (Zh ZcP) :: R⟩) ?_ ?_
        ·
         refine Z1 [0, 1, 2, 3, 4, 5, 6] rfl ?_
         refine sp rfl (PE.move rfl) rfl ?_
         refine sp rfl (PE.move rfl) rfl ?_
         rcases Zd1 (show i < 25 by omega) with rfl | rfl | rfl | rfl | rfl | rfl | rfl | rfl | rfl | rfl | rfl | rfl | rfl | rfl | rfl | rfl | rfl | rfl | rfl | rfl | rfl | rfl | rfl | rfl | rfl <;> refine sp rfl (PE.indexAddr ZfW rfl rfl (by omega) (by omega)) rfl ?_ <;> refine spL rfl rfl (lh ZfP rfl rfl) rfl ?_ <;> refine sp rfl (PE.move rfl) rfl ?_ <;> refine sp rfl (PE.nilCheck rfl) rfl ?_ <;> refine sto rfl rfl rfl cn3 rfl rfl rfl rfl ?_
         exact Z6 ⟨v, 0, 0, 12, 4, 1, 2, 6, 0, 0, 4, 16, 6, 1, 1, 0, 1, 1, 2, x1.lasts, x2.ration, x0.st.dry, g2.2, g1.1.stock, g0.1.short⟩ (by repeat' first | exact Sub.nil | apply Sub.cons | rfl | (simp [lk]; omega)) (fun w h => St.tail h)
         exact Z6 ⟨8, v, 0, 12, 4, 1, 2, 6, 0, 0, 4, 16, 6, 1, 1, 0, 1, 1, 2, x1.lasts, x2.ration, x0.st.dry, g2.2, g1.1.stock, g0.1.short⟩ (by repeat' first | exact Sub.nil | apply Sub.cons | rfl | (simp [lk]; omega)) (fun w h => St.tail h)
         exact Z6 ⟨8, 0, v, 12, 4, 1, 2, 6, 0, 0, 4, 16, 6, 1, 1, 0, 1, 1, 2, x1.lasts, x2.ration, x0.st.dry, g2.2, g1.1.stock, g0.1.short⟩ (by repeat' first | exact Sub.nil | apply Sub.cons | rfl | (simp [lk]; omega)) (fun w h => St.tail h)
         exact Z6 ⟨8, 0, 0, v, 4, 1, 2, 6, 0, 0, 4, 16, 6, 1, 1, 0, 1, 1, 2, x1.lasts, x2.ration, x0.st.dry, g2.2, g1.1.stock, g0.1.short⟩ (by repeat' first | exact Sub.nil | apply Sub.cons | rfl | (simp [lk]; omega)) (fun w h => St.tail h)
         exact Z6 ⟨8, 0, 0, 12, v, 1, 2, 6, 0, 0, 4, 16, 6, 1, 1, 0, 1, 1, 2, x1.lasts, x2.ration, x0.st.dry, g2.2, g1.1.stock, g0.1.short⟩ (by repeat' first | exact Sub.nil | apply Sub.cons | rfl | (simp [lk]; omega)) (fun w h => St.tail h)
         exact Z6 ⟨8, 0, 0, 12, 4, v, 2, 6, 0, 0, 4, 16, 6, 1, 1, 0, 1, 1, 2, x1.lasts, x2.ration, x0.st.dry, g2.2, g1.1.stock, g0.1.short⟩ (by repeat' first | exact Sub.nil | apply Sub.cons | rfl | (simp [lk]; omega)) (fun w h => St.tail h)
         exact Z6 ⟨8, 0, 0, 12, 4, 1, v, 6, 0, 0, 4, 16, 6, 1, 1, 0, 1, 1, 2, x1.lasts, x2.ration, x0.st.dry, g2.2, g1.1.stock, g0.1.short⟩ (by repeat' first | exact Sub.nil | apply Sub.cons | rfl | (simp [lk]; omega)) (fun w h => St.tail h)
         exact Z6 ⟨8, 0, 0, 12, 4, 1, 2, v, 0, 0, 4, 16, 6, 1, 1, 0, 1, 1, 2, x1.lasts, x2.ration, x0.st.dry, g2.2, g1.1.stock, g0.1.short⟩ (by repeat' first | exact Sub.nil | apply Sub.cons | rfl | (simp [lk]; omega)) (fun w h => St.tail h)
         exact Z6 ⟨8, 0, 0, 12, 4, 1, 2, 6, v, 0, 4, 16, 6, 1, 1, 0, 1, 1, 2, x1.lasts, x2.ration, x0.st.dry, g2.2, g1.1.stock, g0.1.short⟩ (by repeat' first | exact Sub.nil | apply Sub.cons | rfl | (simp [lk]; omega)) (fun w h => St.tail h)
         exact Z6 ⟨8, 0, 0, 12, 4, 1, 2, 6, 0, v, 4, 16, 6, 1, 1, 0, 1, 1, 2, x1.lasts, x2.ration, x0.st.dry, g2.2, g1.1.stock, g0.1.short⟩ (by repeat' first | exact Sub.nil | apply Sub.cons | rfl | (simp [lk]; omega)) (fun w h => St.tail h)
         exact Z6 ⟨8, 0, 0, 12, 4, 1, 2, 6, 0, 0, v, 16, 6, 1, 1, 0, 1, 1, 2, x1.lasts, x2.ration, x0.st.dry, g2.2, g1.1.stock, g0.1.short⟩ (by repeat' first | exact Sub.nil | apply Sub.cons | rfl | (simp [lk]; omega)) (fun w h => St.tail h)
         exact Z6 ⟨8, 0, 0, 12, 4, 1, 2, 6, 0, 0, 4, v, 6, 1, 1, 0, 1, 1, 2, x1.lasts, x2.ration, x0.st.dry, g2.2, g1.1.stock, g0.1.short⟩ (by repeat' first | exact Sub.nil | apply Sub.cons | rfl | (simp [lk]; omega)) (fun w h => St.tail h)
         exact Z6 ⟨8, 0, 0, 12, 4, 1, 2, 6, 0, 0, 4, 16, v, 1, 1, 0, 1, 1, 2, x1.lasts, x2.ration, x0.st.dry, g2.2, g1.1.stock, g0.1.short⟩ (by repeat' first | exact Sub.nil | apply Sub.cons | rfl | (simp [lk]; omega)) (fun w h => St.tail h)
         exact Z6 ⟨8, 0, 0, 12, 4, 1, 2, 6, 0, 0, 4, 16, 6, v, 1, 0, 1, 1, 2, x1.lasts, x2.ration, x0.st.dry, g2.2, g1.1.stock, g0.1.short⟩ (by repeat' first | exact Sub.nil | apply Sub.cons | rfl | (simp [lk]; omega)) (fun w h => St.tail h)
         exact Z6 ⟨8, 0, 0, 12, 4, 1, 2, 6, 0, 0, 4, 16, 6, 1, v, 0, 1, 1, 2, x1.lasts, x2.ration, x0.st.dry, g2.2, g1.1.stock, g0.1.short⟩ (by repeat' first | exact Sub.nil | apply Sub.cons | rfl | (simp [lk]; omega)) (fun w h => St.tail h)
         exact Z6 ⟨8, 0, 0, 12, 4, 1, 2, 6, 0, 0, 4, 16, 6, 1, 1, v, 1, 1, 2, x1.lasts, x2.ration, x0.st.dry, g2.2, g1.1.stock, g0.1.short⟩ (by repeat' first | exact Sub.nil | apply Sub.cons | rfl | (simp [lk]; omega)) (fun w h => St.tail h)
         exact Z6 ⟨8, 0, 0, 12, 4, 1, 2, 6, 0, 0, 4, 16, 6, 1, 1, 0, v, 1, 2, x1.lasts, x2.ration, x0.st.dry, g2.2, g1.1.stock, g0.1.short⟩ (by repeat' first | exact Sub.nil | apply Sub.cons | rfl | (simp [lk]; omega)) (fun w h => St.tail h)
         exact Z6 ⟨8, 0, 0, 12, 4, 1, 2, 6, 0, 0, 4, 16, 6, 1, 1, 0, 1, v, 2, x1.lasts, x2.ration, x0.st.dry, g2.2, g1.1.stock, g0.1.short⟩ (by repeat' first | exact Sub.nil | apply Sub.cons | rfl | (simp [lk]; omega)) (fun w h => St.tail h)
         exact Z6 ⟨8, 0, 0, 12, 4, 1, 2, 6, 0, 0, 4, 16, 6, 1, 1, 0, 1, 1, v, x1.lasts, x2.ration, x0.st.dry, g2.2, g1.1.stock, g0.1.short⟩ (by repeat' first | exact Sub.nil | apply Sub.cons | rfl | (simp [lk]; omega)) (fun w h => St.tail h)
         exact Z6 ⟨8, 0, 0, 12, 4, 1, 2, 6, 0, 0, 4, 16, 6, 1, 1, 0, 1, 1, 2, v, x2.ration, x0.st.dry, g2.2, g1.1.stock, g0.1.short⟩ (by repeat' first | exact Sub.nil | apply Sub.cons | rfl | (simp [lk]; omega)) (fun w h => St.tail h)
         exact Z6 ⟨8, 0, 0, 12, 4, 1, 2, 6, 0, 0, 4, 16, 6, 1, 1, 0, 1, 1, 2, x1.lasts, v, x0.st.dry, g2.2, g1.1.stock, g0.1.short⟩ (by repeat' first | exact Sub.nil | apply Sub.cons | rfl | (simp [lk]; omega)) (fun w h => St.tail h)
         exact Z6 ⟨8, 0, 0, 12, 4, 1, 2, 6, 0, 0, 4, 16, 6, 1, 1, 0, 1, 1, 2, x1.lasts, x2.ration, v, g2.2, g1.1.stock, g0.1.short⟩ (by repeat' first | exact Sub.nil | apply Sub.cons | rfl | (simp [lk]; omega)) (fun w h => St.tail h)
         exact Z6 ⟨8, 0, 0, 12, 4, 1, 2, 6, 0, 0, 4, 16, 6, 1, 1, 0, 1, 1, 2, x1.lasts, x2.ration, x0.st.dry, v, g1.1.stock, g0.1.short⟩ (by repeat' first | exact Sub.nil | apply Sub.cons | rfl | (simp [lk]; omega)) (fun w h => St.tail h)
         exact Z6 ⟨8, 0, 0, 12, 4, 1, 2, 6, 0, 0, 4, 16, 6, 1, 1, 0, 1, 1, 2, x1.lasts, x2.ration, x0.st.dry, g2.2, v, g0.1.short⟩ (by repeat' first | exact Sub.nil | apply Sub.cons | rfl | (simp [lk]; omega)) (fun w h => St.tail h)
         exact Z6 ⟨8, 0, 0, 12, 4, 1, 2, 6, 0, 0, 4, 16, 6, 1, 1, 0, 1, 1, 2, x1.lasts, x2.ration, x0.st.dry, g2.2, g1.1.stock, v⟩ (by repeat' first | exact Sub.nil | apply Sub.cons | rfl | (simp [lk]; omega)) (fun w h => St.tail h)
        ·
         rintro y
         dsimp only
         refine Sy.heap (fun w h => St.rows (sz := 2) (rows := Zf (Sm25.tw y).rats) (rest := []) (h.pull bm) (Z6G _)) ?_
         refine Sy.heap (fun w h => St.intRows (l := [y.p0, 0, y.p2]) (h.pull b62)) ?_
         refine Sy.heap (fun w h => St.rows (sz := 5) (rows := Zt (Sm25.tr y x0 x1 x2 xs)) (rest := jt) (h.pull bt) (Z05 _)) ?_
         refine Sy.heap (fun w h => St.rows (sz := 4) (rows := Zo (Sm25.fr y g0 g1 g2 gs)) (rest := jf) (h.pull bf) (ZQ _)) ?_
         refine Z0 ?_
         refine Z1 [0, 1, 2, 3, 4, 5, 6, 7, 8, 9, 10, 11, 12] rfl ?_
         refine spL rfl rfl (lhA (twl (Sm25.tw y) (.slice (some ⟨bm, 0, none⟩) 2 2)) Zd rfl rfl rfl) rfl ?_
         refine spL rfl rfl (lhA [_, _, _] ZF rfl rfl rfl) rfl ?_
         refine spL rfl rfl (lh sc3 rfl rfl) rfl ?_
         refine sp rfl (PE.move rfl) rfl ?_
         refine sp rfl (PE.remW rfl rfl (by decide)) rfl ?_
         refine sp rfl (PE.eql rfl rfl) rfl ?_
         refine sp rfl (PE.move rfl) rfl ?_
         refine bsl (out := [_, _, _]) rfl Zfd zl4 rfl rfl rfl rfl rfl rfl (fun b126 => ?_)
         refine spL rfl rfl (lh sc3 rfl rfl) rfl ?_
         refine sp rfl (PE.move rfl) rfl ?_
         refine sp rfl (PE.move rfl) rfl ?_
         refine Sy.heap (fun w h => St.boolRows (l := [true, true, false]) (jn := []) (h.pull b126)) ?_
         refine cl rfl Z3N rfl rfl (Z5Q (Sm25.tw y) (some ⟨bm, 0, none⟩) 2 (Nat.le_of_ble_eq_true rfl) ⟨y.s0, y.s1, y.s2⟩ y.ra (decide (Int.tmod v 2 = 0)) [y.p0, 0, y.p2] (some ⟨b62, 0, none⟩) 3 (Nat.le_of_ble_eq_true rfl) [true, true, false] (some ⟨b126, 0, none⟩) 3 (by decide) y.bd (Sm25.tr y x0 x1 x2 xs) (some ⟨bt, 0, none⟩) ct (by show xs.length + 1 + 1 + 1 ≤ _; omega) (Sm25.fr y g0 g1 g2 gs) (some ⟨bf, 0, none⟩) cf (by show gs.length + 1 + 1 + 1 ≤ _; omega) _ _) ?_
         rintro _ _ R1 ⟨rfl, rfl, hR1⟩
         obtain rfl := hR1.symm
         clear hR1
         refine sp rfl (PE.not rfl) rfl ?_
         refine Z5 rfl (fun hc3 => ?_) (fun hc3 => ?_)
         ·
          exact absurd hc3 (by simp)
         ·
          refine Z3 ?_
          refine Z1 [0, 1] rfl ?_
          refine sp rfl (PE.add rfl rfl (by omega)) rfl ?_
          refine sp rfl (PE.move rfl) rfl ?_
          exact Zb ⟨i + 1, by omega⟩ (by dsimp only; omega) (by repeat' first | exact Sub.nil | apply Sub.cons | rfl | (simp [lk]; omega)) (fun w h => St.sub ((((h.del b12).del b10).del b9).del b4))
     ·
      try simp only [decide_eq_true_eq, decide_eq_false_iff_not, Bool.and_eq_true, Bool.or_eq_true, Bool.not_eq_true', Int.not_le, Int.not_lt] at hc1
      
      refine Zk ?_
      refine Zl ?_
      refine Zl ?_
      refine ZH ?_
      refine Z1 [0, 1] rfl ?_
      refine sp rfl (PE.add rfl rfl (by omega)) rfl ?_
      refine sp rfl (PE.move rfl) rfl ?_
      exact Zb ⟨k + 1, by omega⟩ (by dsimp only; omega) (by repeat' first | exact Sub.nil | apply Sub.cons | rfl | (simp [lk]; omega)) (fun _ h => h)
   ·
    try simp only [decide_eq_true_eq, decide_eq_false_iff_not, Bool.and_eq_true, Bool.or_eq_true, Bool.not_eq_true', Int.not_le, Int.not_lt] at hc0
    
    refine Zk ?_
    refine Zl ?_
    refine Zl ?_
    refine ZH ?_
    refine Z0 ?_
    refine Z0 ?_
    refine Z1 [0] rfl ?_
    refine sp rfl (PE.move rfl) rfl ?_
    refine Z7 ?_
    refine Zn (ι := {n : Nat // n ≤ 40}) (fun y => ⟨[(134, .int .i64 y.1)], H, R⟩) (fun y => 40 - y.1) ⟨0, Nat.zero_le _⟩ ?_ (fun y => ?_)
    ·
     exact Z0i (by repeat' first | exact Sub.nil | apply Sub.cons | rfl | (simp [lk]; omega)) (fun w h => h.ftail)
    ·
     obtain ⟨n, hn⟩ := y
     dsimp only at hn ⊢
     refine Z0 ?_
     refine Z1 [0] rfl ?_
     refine sp rfl (PE.lss rfl rfl) rfl ?_
     refine Z0 ?_
     refine Z5 rfl (fun hc4 => ?_) (fun hc4 => ?_)
     ·
      try simp only [decide_eq_true_eq, decide_eq_false_iff_not, Bool.and_eq_true, Bool.or_eq_true, Bool.not_eq_true', Int.not_le, Int.not_lt] at hc4
      
      refine Z3 ?_
      refine Z0 ?_
      refine Z7 ?_
      refine Z0 ?_
      refine Z1 [0, 1] rfl ?_
      refine sp rfl (PE.move rfl) rfl ?_
      refine sp rfl (PE.assign rfl) rfl ?_
      refine Z0 ?_
      refine Z1 [0, 1, 2, 3, 4, 5, 6, 7, 8, 9, 10, 11, 12, 13, 14, 15, 16, 17] rfl ?_
      refine sp rfl (PE.move rfl) rfl ?_
      refine sp rfl (PE.rem rfl rfl (by omega)) rfl ?_
      refine sp rfl (PE.move rfl) rfl ?_
      refine sp rfl (PE.rem rfl rfl (by omega)) rfl ?_
      refine sp rfl (PE.move rfl) rfl ?_
      refine sp rfl (PE.rem rfl rfl (by omega)) rfl ?_
      refine sp rfl (PE.move rfl) rfl ?_
      refine sp rfl (PE.quo rfl rfl (by omega)) rfl ?_
      refine sp rfl (PE.rem rfl rfl (by omega)) rfl ?_
      refine sp rfl (PE.move rfl) rfl ?_
      refine sp rfl (PE.rem rfl rfl (by omega)) rfl ?_
      refine sp rfl (PE.move rfl) rfl ?_
      refine sp rfl (PE.rem rfl rfl (by omega)) rfl ?_
      refine sp rfl (PE.move rfl) rfl ?_
      refine sp rfl (PE.rem rfl rfl (by omega)) rfl ?_
      refine sp rfl (PE.build (out := twl (ZfU n) (.slice none 0 0)) ZdU Z04 rfl (by kernel_rfl)) rfl ?_
      refine alc rfl Z04 rfl (fun b15 => ?_)
      refine Z2R (l' := [.int .i64 0, .int .i64 0, .int .i64 0, .int .i64 ((n : Int) % 9), .int .i64 ((n : Int) % 4), .int .i64 ((n : Int) % 3), .int .i64 ((n : Int) / 3 % 3), .int .i64 ((n : Int) % 6), .int .i64 ((n : Int) % 2), .int .i64 ((n : Int) % 6), .slice none 0 0]) rfl rfl rfl ZO rfl rfl rfl rfl (Nat.le_of_ble_eq_true rfl) ?_
      refine Z0 ?_
      refine Ze [0, 0, 2, 6, 15, 0, 0, 64, 192, 480, 0, 1024, 0, 4096, 12288, 31744, 65535, 131071, 262143] (.tk 0 (.tk 1 (.ld 2 (.tk 3 (.tk 4 (.tk 5 (.tk 6 (.ld 7 (.tk 8 (.tk 9 (.tk 10 (.tk 11 (.tk 12 (.ld 13 (.tk 14 (.tk 15 (.tk 16 (.tk 17 (.big 18 .done))))))))))))))))))) Zy (by kernel_rfl) ?_
      refine tk rfl (PE.move rfl) rfl ?_
      refine tk rfl (PE.fieldAddr Z1N rfl) rfl ?_
      refine ld rfl rfl (lh sc3 rfl rfl) rfl ?_
      refine tk rfl (PE.add rfl rfl (by omega)) rfl ?_
      refine tk rfl (PE.rem rfl rfl (by omega)) rfl ?_
      refine tk rfl (PE.move rfl) rfl ?_
      refine tk rfl (PE.fieldAddr Z22 rfl) rfl ?_
      refine ld rfl rfl (lh sc3 rfl rfl) rfl ?_
      refine tk rfl (PE.add rfl rfl (by omega)) rfl ?_
      refine tk rfl (PE.rem rfl rfl (by omega)) rfl ?_
      refine tk rfl (PE.move rfl) rfl ?_
      refine tk rfl (PE.quo rfl rfl (by omega)) rfl ?_
      refine tk rfl (PE.fieldAddr Z25 rfl) rfl ?_
      refine ld rfl rfl (lh sc3 rfl rfl) rfl ?_
      refine tk rfl (PE.add rfl rfl (by omega)) rfl ?_
      refine tk rfl (PE.rem rfl rfl (by omega)) rfl ?_
      refine tk rfl (PE.build (out := [_, _, _]) Z7z Z2M rfl rfl) rfl ?_
      refine tk rfl (PE.fieldAddr Z0a rfl) rfl ?_
      refine Z2R (l' := twl (Zc1 n []) (.slice none 0 0)) rfl rfl rfl Z2O rfl rfl rfl rfl (Nat.le_of_ble_eq_true rfl) ?_
      refine bg (fun w hs => ⟨trivial, trivial, trivial, trivial⟩) ?_
      refine Z0 ?_
      refine Z0 ?_
      refine Z1 [0, 1, 2] rfl ?_
      refine sp rfl (PE.move rfl) rfl ?_
      refine sp rfl (PE.rem rfl rfl (by omega)) rfl ?_
      refine sp rfl (PE.move rfl) rfl ?_
      refine Z7 ?_
      refine Zn (ι := (x : {i : Nat // i ≤ n % 5}) × OSl 44 2 (Zf (smL n x.1))) (fun x => ⟨[(14, .int .i64 n), (15, .pointer (some ⟨b15, 0, none⟩)), (134, .int .i64 n), (172, .int .i64 ((n : Int) % 5)), (173, .int .i64 x.1.1)], x.2.G ++ ((b15, cel 27 (twl (Zc1 n []) x.2.fs)) :: H), R⟩) (fun x => 5 - x.1.1) ⟨⟨0, Nat.zero_le _⟩, OSl.nil _ _⟩ ?_ (fun x => ?_)
      ·
       exact Z0i (by repeat' first | exact Sub.nil | apply Sub.cons | rfl | (simp [lk]; omega)) (fun _ h => h)
      ·
       obtain ⟨⟨i, hi⟩, o⟩ := x
       dsimp only at hi o ⊢
       refine Z0 ?_
       refine Z1 [0] rfl ?_
       refine sp rfl (PE.lss rfl rfl) rfl ?_
       refine Z0 ?_
       refine Z5 rfl (fun hc5 => ?_) (fun hc5 => ?_)
       ·
        try simp only [decide_eq_true_eq, decide_eq_false_iff_not, Bool.and_eq_true, Bool.or_eq_true, Bool.not_eq_true', Int.not_le, Int.not_lt] at hc5
        
        refine Z3 ?_
        refine Z0 ?_
        refine Z7 ?_
        refine Z0 ?_
        refine Z1 [0, 1] rfl ?_
        refine sp rfl (PE.move rfl) rfl ?_
        refine sp rfl (PE.assign rfl) rfl ?_
        refine Z1 [0, 1, 2, 3, 4, 5, 6, 7, 8, 9, 10, 11, 12, 13, 14, 15, 16] rfl ?_
        refine sp rfl (PE.fieldAddr ZY rfl) rfl ?_
        refine spL rfl rfl (lh Z23 rfl rfl) rfl ?_
        refine sp rfl (PE.move rfl) rfl ?_
        refine sp rfl (PE.rem rfl rfl (by omega)) rfl ?_
        refine sp rfl (PE.add rfl rfl (by omega)) rfl ?_
        refine sp rfl (PE.move rfl) rfl ?_
        refine sp rfl (PE.sub rfl rfl (by omega)) rfl ?_
        refine sp rfl (PE.move rfl) rfl ?_
        refine sp rfl (PE.mul rfl rfl (by omega)) rfl ?_
        refine sp rfl (PE.move rfl) rfl ?_
        refine sp rfl (PE.rem rfl rfl (by omega)) rfl ?_
        refine sp rfl (PE.add rfl rfl (by omega)) rfl ?_
        refine sp rfl (PE.build (out := [_, _]) Ze4 Z6P rfl rfl) rfl ?_
        refine bsl (out := [_, _]) rfl ZcU Z6P rfl rfl rfl rfl rfl rfl (fun b189 => ?_)
        refine apO (o) rfl Zek rfl rfl (Z3e (row := Z2z (smR n i)) rfl) rfl rfl ((by rw [show (Zf (smL n i)).length = i from by simp [Zf, Z8V]]; simp only [List.length_singleton]; omega)) rfl (fun o190 => ?_)
        refine sp rfl (PE.fieldAddr ZY rfl) rfl ?_
        refine Z2R (l' := twl (Zc1 n []) o190.fs) rfl rfl rfl Zcn rfl (by rw [o190.cells.1]; first | done | rfl) (by rw [o190.cells.1]; simp [o190.cells.2]) (by rw [o190.cells.1]; first | done | rfl) (by rw [o190.cells.1]; first | done | exact Nat.le_refl _) ?_
        refine Z1 [0, 1] rfl ?_
        refine sp rfl (PE.add rfl rfl (by omega)) rfl ?_
        refine sp rfl (PE.move rfl) rfl ?_
        exact Zb ⟨⟨i + 1, by omega⟩, o190.cast (by rw [ZaQ]; simp [Zf])⟩ (by dsimp only; omega) (by repeat' first | exact Sub.nil | apply Sub.cons | rfl | (simp [lk]; omega)) (fun w h => h.del b189)
       ·
        try simp only [decide_eq_true_eq, decide_eq_false_iff_not, Bool.and_eq_true, Bool.or_eq_true, Bool.not_eq_true', Int.not_le, Int.not_lt] at hc5
        obtain ⟨ab, cb, he, hf⟩ := o.freeze
        rw [he]
        refine Sy.heap (fun w h => hf h) ?_
        clear he hf
        rw [show (Zf (smL n i)).length = (smL n i).length from List.length_map _]
        obtain ⟨V, hV⟩ : ∃ V, Zc1 n (smL n i) = V := ⟨_, rfl⟩
        have hVl : V.rats.length ≤ 5 := by rw [← hV]; show (smL n i).length ≤ 5; rw [Z8V]; omega
        refine Sy.heap (H' := (b15, cel 27 (twl (Zc1 n (smL n i)) ((Zc1 n (smL n i)).sl ab cb))) :: H) (R' := RowsA ab 2 (Zf (Zc1 n (smL n i)).rats) :: R) (fun w h => h) ?_
        rw [hV]
        refine Zk ?_
        refine Zl ?_
        refine Zl ?_
        refine ZH ?_
        refine Z0 ?_
        refine Z1 [0, 1, 2, 3, 4, 5, 6] rfl ?_
        refine spL rfl rfl (lhA (twl V (V.sl ab cb)) Zd rfl rfl rfl) rfl ?_
        refine cl rfl Zee rfl rfl (ZaM V ab cb (by omega) _ _) ?_
        rintro _ _ R1 ⟨oT, rfl, rfl, hR1⟩
        obtain rfl := hR1.symm
        clear hR1
        obtain ⟨T0, hT0⟩ : ∃ T0, T0 = (Z3z V).1 := ⟨_, rfl⟩
        have hTl : T0.length ≤ 496 := by rw [hT0]; exact Zb5 V
        revert oT
        rw [← hT0]
        intro oT
        refine sp rfl (PE.move rfl) rfl ?_
        refine sp rfl (PE.extract rfl rfl) rfl ?_
        refine sp rfl (PE.extract rfl rfl) rfl ?_
        refine sp rfl (PE.assign rfl) rfl ?_
        refine sp rfl (PE.assign rfl) rfl ?_
        refine Z0 ?_
        refine Z1 [0, 1, 2, 3, 4, 5, 6] rfl ?_
        refine spL rfl rfl (lhA (twl V (V.sl ab cb)) Zd rfl rfl rfl) rfl ?_
        refine cl rfl ZeU rfl rfl (Zb2 V ab cb (by omega) _ _) ?_
        rintro _ _ R1 ⟨fl, oF, e9, hFl, rfl, rfl, hR1⟩
        obtain rfl := hR1.symm
        clear hR1
        obtain ⟨q1, q2, hq9⟩ := Zbn oT
        rw [Z1D] at hq9
        obtain ⟨r1, r2, hr9⟩ := Zbn oF
        rw [Z1C] at hr9
        refine sp rfl (PE.move rfl) rfl ?_
        refine sp rfl (PE.extract rfl rfl) rfl ?_
        refine sp rfl (PE.extract rfl rfl) rfl ?_
        refine sp rfl (PE.assign rfl) rfl ?_
        refine sp rfl (PE.assign rfl) rfl ?_
        refine Z0 ?_
        refine Z0 ?_
        refine Z2q (ι := {c : Bool // c = true → 1 < T0.length}) (fun y => ⟨[(14, .int .i64 n), (15, .pointer (some ⟨b15, 0, none⟩)), (134, .int .i64 n), (17, oT.fs), (19, oF.fs), (210, .bool y.1)], oF.G ++ (oT.G ++ (b15, cel 27 (twl V (V.sl ab cb))) :: H), RowsA ab 2 (Zf V.rats) :: R⟩) ?_ ?_
        ·
         refine Z1 [0, 1, 2, 3, 4, 5, 6, 7] rfl ?_
         refine sp rfl (PE.move rfl) rfl ?_
         refine sp rfl (PE.rem rfl rfl (by omega)) rfl ?_
         refine sp rfl (PE.eql rfl rfl) rfl ?_
         refine sp rfl (PE.move rfl) rfl ?_
         refine Zg (t := 206) rfl (fun g206 => ?_) (fun g206 => ?_)
         ·
          refine spG rfl rfl rfl rfl (PE.move rfl) rfl ?_
          refine spG rfl rfl rfl rfl (PE.lenSl Z3R (show _ = some (Value.slice q1 T0.length q2) from congrArg some hq9)) rfl ?_
          refine spG rfl rfl rfl rfl (PE.gtr rfl rfl) rfl ?_
          refine sp rfl (PE.pick rfl rfl rfl) rfl ?_
          refine Z6 ⟨_, ?_⟩ (by repeat' first | exact Sub.nil | apply Sub.cons | rfl | (simp [lk]; omega)) (fun _ h => h)
          intro h
          first
            | (have h2 : decide ((1 : Int) < (T0.length : Int)) = true := h
               have := of_decide_eq_true h2; omega)
            | cases h
         ·
          refine spN rfl rfl rfl rfl rfl rfl rfl rfl ?_
          refine spN rfl rfl rfl rfl rfl rfl rfl rfl ?_
          refine spN rfl rfl rfl rfl rfl rfl rfl rfl ?_
          refine sp rfl (PE.pick rfl rfl rfl) rfl ?_
          refine Z6 ⟨_, ?_⟩ (by repeat' first | exact Sub.nil | apply Sub.cons | rfl | (simp [lk]; omega)) (fun _ h => h)
          intro h
          first
            | (have h2 : decide ((1 : Int) < (T0.length : Int)) = true := h
               have := of_decide_eq_true h2; omega)
            | cases h
        ·
         rintro ⟨c7, k7⟩
         dsimp only
         refine Z0I (ι := {z : List Rw × Option Addr × Nat // z.1.length ≤ 1000}) (fun z => ⟨[(14, .int .i64 n), (15, .pointer (some ⟨b15, 0, none⟩)), (134, .int .i64 n), (17, .slice z.1.2.1 z.1.1.length z.1.2.2), (19, oF.fs)], oF.G ++ ((b15, cel 27 (twl V (V.sl ab cb))) :: H), RowsA z.1.2.1 5 (Zt z.1.1) :: RowsA ab 2 (Zf V.rats) :: R⟩) ?_ ?_
         ·
          refine Z5 rfl (fun hc6 => ?_) (fun hc6 => ?_)
          ·
           try simp only [decide_eq_true_eq, decide_eq_false_iff_not, Bool.and_eq_true, Bool.or_eq_true, Bool.not_eq_true', Int.not_le, Int.not_lt] at hc6
           have hpp := k7 hc6
           obtain ⟨bT, cT, jT, hfs, hG, hj, hc9, hm9⟩ := oT.is.resolve_left (fun h => by have := congrArg List.length h.1; rw [Z1D] at this; simp only [List.length_nil] at this; omega)
           obtain ⟨r0, rs, rfl⟩ : ∃ r0 rs, T0 = r0 :: rs := by
             cases T0 with
             | nil => simp at hpp
             | cons a b => exact ⟨a, b, rfl⟩
           rw [hfs, hG]
           have hfv := Z05 (r0 :: rs)
           simp only [Zt, List.map_cons, List.length_cons] at hj hc9 hfv hpp hTl
           refine Sy.heap (H' := (bT, cel 38 ((Z5S r0 :: Zt rs).flatten ++ jT)) :: (oF.G ++ ((b15, cel 27 (twl V (V.sl ab cb))) :: H))) (fun w h => h.pullG [(bT, cel 38 ((Zt (r0 :: rs)).flatten ++ jT))]) ?_
           rw [show (Zt (r0 :: rs)).length = (Zt rs).length + 1 from rfl]
           refine Ze [0, 1, 0, 4, 0, 16, 0, 64, 252, 508, 1023, 2047] (.tk 0 (.tk 1 (.tk 2 (.ld 3 (.tk 4 (.tk 5 (.tk 6 (.tk 7 (.tk 8 (.big 9 (.big 10 (.tk 11 .done)))))))))))) Zy (by kernel_rfl) ?_
           refine tk rfl (PE.move rfl) rfl ?_
           refine tk rfl (PE.slLoA (l := 1) ZeS rfl rfl (by omega)) rfl ?_
           rw [if_neg (by rw [Z1D] at *; simp at hpp hc9; omega), Option.map_some, Z0Y, show 0 + 1 * 5 = 5 from rfl, show (Zt rs).length + 1 - 1 = (Zt rs).length from by omega]
           refine tk rfl (PE.fieldAddr Z0a rfl) rfl ?_
           refine ld rfl rfl (lhA [_, _, _] ZF rfl rfl rfl) rfl ?_
           refine tk rfl (PE.move rfl) rfl ?_
           refine tk rfl (PE.rem rfl rfl (by omega)) rfl ?_
           refine tk rfl (PE.move rfl) rfl ?_
           refine tk rfl (PE.rem rfl rfl (by omega)) rfl ?_
           refine tk rfl (PE.build (out := [_, _, _, _, _]) ZfA Z48 rfl rfl) rfl ?_
           refine bsl (out := [_, _, _, _, _]) rfl ZeS Z48 rfl rfl rfl rfl rfl rfl (fun b220 => ?_)
           refine bg (fun w hs => ⟨trivial, trivial⟩) ?_
           refine Zet (r0 := Z5S r0) (rs := Zt rs) (news := [Z5S ⟨V.now, (n : Int) % 4, (n : Int) % 2⟩]) (junk := jT) (b := bT) rfl Z51 rfl rfl (Z3e (row := Z5S ⟨V.now, (n : Int) % 4, (n : Int) % 2⟩) rfl) rfl (by simp) (by exact hfv) (by rw [Z1D]; simpa using hj) (by rw [Z1D]; simpa using hc9) (by rw [Z1D]; simp only [List.length_singleton]; omega) rfl (fun a33 c33 => ?_)
           rw [show Zt rs ++ [Z5S ⟨V.now, (n : Int) % 4, (n : Int) % 2⟩] = Zt (rs ++ [⟨V.now, (n : Int) % 4, (n : Int) % 2⟩]) from by simp [Zt], Z1D]
           refine bg (fun w hs => trivial) ?_
           refine tk rfl (PE.assign rfl) rfl ?_
           first
             | exact ZG ⟨(rs ++ [⟨V.now, (n : Int) % 4, (n : Int) % 2⟩], a33, c33), by dsimp only; rw [List.length_append]; simp only [List.length_singleton]; omega⟩ (by repeat' first | exact Sub.nil | apply Sub.cons | rfl | (simp [lk]; omega)) (fun w h => h.del b220)
             | exact ZG ⟨(T0, a33, c33), by dsimp only; omega⟩ (by repeat' first | exact Sub.nil | apply Sub.cons | rfl | (simp [lk]; omega)) (fun _ h => h)
          ·
           try simp only [decide_eq_true_eq, decide_eq_false_iff_not, Bool.and_eq_true, Bool.or_eq_true, Bool.not_eq_true', Int.not_le, Int.not_lt] at hc6
           obtain ⟨a33, c33, he, hf⟩ := oT.freeze
           rw [he]
           refine Sy.heap (fun w h => hf (h.pullG oT.G)) ?_
           clear he hf
           rw [Z1D]
           refine Z3 ?_
           first
             | exact ZG ⟨(rs ++ [⟨V.now, (n : Int) % 4, (n : Int) % 2⟩], a33, c33), by dsimp only; rw [List.length_append]; simp only [List.length_singleton]; omega⟩ (by repeat' first | exact Sub.nil | apply Sub.cons | rfl | (simp [lk]; omega)) (fun w h => h.del b220)
             | exact ZG ⟨(T0, a33, c33), by dsimp only; omega⟩ (by repeat' first | exact Sub.nil | apply Sub.cons | rfl | (simp [lk]; omega)) (fun _ h => h)
         ·
          rintro ⟨⟨T1, a1, c1⟩, hT1⟩
          dsimp only at hT1 ⊢
          refine Z0 ?_
          refine Z0 ?_
          refine Z2q (ι := {c : Bool // c = true → 1 < fl.length}) (fun y => ⟨[(14, .int .i64 n), (15, .pointer (some ⟨b15, 0, none⟩)), (134, .int .i64 n), (17, .slice a1 T1.length c1), (19, oF.fs), (229, .bool y.1)], oF.G ++ ((b15, cel 27 (twl V (V.sl ab cb))) :: H), RowsA a1 5 (Zt T1) :: RowsA ab 2 (Zf V.rats) :: R⟩) ?_ ?_
          ·
           refine Z1 [0, 1, 2, 3, 4, 5, 6, 7] rfl ?_
           refine sp rfl (PE.move rfl) rfl ?_
           refine sp rfl (PE.rem rfl rfl (by omega)) rfl ?_
           refine sp rfl (PE.eql rfl rfl) rfl ?_
           refine sp rfl (PE.move rfl) rfl ?_
           refine Zg (t := 225) rfl (fun g225 => ?_) (fun g225 => ?_)
           ·
            refine spG rfl rfl rfl rfl (PE.move rfl) rfl ?_
            refine spG rfl rfl rfl rfl (PE.lenSl Z2Q (show _ = some (Value.slice r1 fl.length r2) from congrArg some hr9)) rfl ?_
            refine spG rfl rfl rfl rfl (PE.gtr rfl rfl) rfl ?_
            refine sp rfl (PE.pick rfl rfl rfl) rfl ?_
            refine Z6 ⟨_, ?_⟩ (by repeat' first | exact Sub.nil | apply Sub.cons | rfl | (simp [lk]; omega)) (fun _ h => h)
            intro h
            first
              | (have h2 : decide ((1 : Int) < (fl.length : Int)) = true := h
                 have := of_decide_eq_true h2; omega)
              | cases h
           ·
            refine spN rfl rfl rfl rfl rfl rfl rfl rfl ?_
            refine spN rfl rfl rfl rfl rfl rfl rfl rfl ?_
            refine spN rfl rfl rfl rfl rfl rfl rfl rfl ?_
            refine sp rfl (PE.pick rfl rfl rfl) rfl ?_
            refine Z6 ⟨_, ?_⟩ (by repeat' first | exact Sub.nil | apply Sub.cons | rfl | (simp [lk]; omega)) (fun _ h => h)
            intro h
            first
              | (have h2 : decide ((1 : Int) < (fl.length : Int)) = true := h
                 have := of_decide_eq_true h2; omega)
              | cases h
          ·
           rintro ⟨c8, k8⟩
           dsimp only
           refine Z0I (ι := {z : List Fat × Option Addr × Nat // z.1.length ≤ 1000}) (fun z => ⟨[(14, .int .i64 n), (15, .pointer (some ⟨b15, 0, none⟩)), (134, .int .i64 n), (17, .slice a1 T1.length c1), (19, .slice z.1.2.1 z.1.1.length z.1.2.2)], (b15, cel 27 (twl V (V.sl ab cb))) :: H, RowsA z.1.2.1 4 (Zo z.1.1) :: RowsA a1 5 (Zt T1) :: RowsA ab 2 (Zf V.rats) :: R⟩) ?_ ?_
           ·
            refine Z5 rfl (fun hc7 => ?_) (fun hc7 => ?_)
            ·
             try simp only [decide_eq_true_eq, decide_eq_false_iff_not, Bool.and_eq_true, Bool.or_eq_true, Bool.not_eq_true', Int.not_le, Int.not_lt] at hc7
             have hpp := k8 hc7
             obtain ⟨bF, cF, jF, hfs, hG, hj, hc9, hm9⟩ := oF.is.resolve_left (fun h => by have := congrArg List.length h.1; rw [Z1C] at this; simp only [List.length_nil] at this; omega)
             rw [Z1C] at hfs hj hc9
             rw [hfs, hG]
             refine Sy.heap (H' := (bF, cel 41 ((Zo fl).flatten ++ jF)) :: (b15, cel 27 (twl V (V.sl ab cb))) :: H) (fun w h => h) ?_
             obtain ⟨z0, hz0⟩ : ∃ z, fl[0]? = some z := ⟨_, List.getElem?_eq_getElem (by omega)⟩
             obtain ⟨z1, hz1⟩ : ∃ z, fl[fl.length - 1]? = some z := ⟨_, List.getElem?_eq_getElem (by omega)⟩
             obtain ⟨rest0, hr0⟩ := Z8Z (junk := jF) hz0
             obtain ⟨rest1, hr1⟩ := Z8Z (junk := jF) hz1
             have hcl : ((fl.length : Nat) : Int) - 1 = ((fl.length - 1 : Nat) : Int) := by omega
             refine Ze [0, 0, 0, 4, 12, 0, 0, 64, 192, 480, 992, 0, 2048, 6144, 16353, 32737, 65535, 131071] (.tk 0 (.tk 1 (.tk 2 (.tk 3 (.tk 4 (.tk 5 (.tk 6 (.tk 7 (.tk 8 (.tk 9 (.ld 10 (.tk 11 (.tk 12 (.ld 13 (.tk 14 (.big 15 (.tk 16 (.big 17 .done)))))))))))))))))) Zy (by kernel_rfl) ?_
             refine tk rfl (PE.move rfl) rfl ?_
             refine tk rfl (PE.move rfl) rfl ?_
             refine tk rfl (PE.move rfl) rfl ?_
             refine tk rfl (PE.lenSl Z2Q rfl) rfl ?_
             refine tk rfl (PE.sub rfl rfl (by omega)) rfl ?_
             rw [hcl]
             refine tk rfl (PE.move rfl) rfl ?_
             refine tk rfl (PE.move rfl) rfl ?_
             refine tk rfl (PE.lenSl Z2Q rfl) rfl ?_
             refine tk rfl (PE.sub rfl rfl (by omega)) rfl ?_
             refine tk rfl (PE.indexAddr Z8H rfl rfl (by omega) (by omega)) rfl ?_
             refine ld rfl rfl (lhA (Z2j z1) ZbI rfl (rest := rest1) (by first | rw [show 0 + ((fl.length - 1 : Nat) : Int).toNat * 4 = (fl.length - 1) * 4 by omega] | rw [show 0 + ((fl.length : Int) - 1).toNat * 4 = (fl.length - 1) * 4 by omega]; exact hr1) rfl) rfl ?_
             refine tk rfl (PE.move rfl) rfl ?_
             refine tk rfl (PE.indexAddr Z8H rfl rfl (by omega) (by omega)) rfl ?_
             refine ld rfl rfl (lhA (Z2j z0) ZbI rfl (rest := rest0) (by exact hr0) rfl) rfl ?_
             refine tk rfl (PE.indexAddr Z8H rfl rfl (by omega) (by omega)) rfl ?_
             refine Z2R (l' := (Zo (fl.set 0 z1)).flatten ++ jF) rfl rfl rfl Zec rfl rfl rfl (Za4 z1 (by omega) rfl) (by rw [List.length_append, Z09 (ZQ _), Z1C]; show 0 + 0 + 4 ≤ _; omega) ?_
             refine bg (fun w hs => ⟨trivial, trivial, trivial⟩) ?_
             refine tk rfl (PE.indexAddr Z8H rfl rfl (by omega) (by omega)) rfl ?_
             refine Z2R (l' := (Zo ((fl.set 0 z1).set (fl.length - 1) z0)).flatten ++ jF) rfl rfl rfl Zec rfl rfl rfl (Za4 z0 (by rw [List.length_set]; omega) (by omega)) (by rw [List.length_append, Z09 (ZQ _), Z1C, List.length_set]; first | (show 0 + ((fl.length - 1 : Nat) : Int).toNat * 4 + 4 ≤ _; omega) | (show 0 + ((fl.length : Int) - 1).toNat * 4 + 4 ≤ _; omega)) ?_
             refine bg (fun w hs => trivial) ?_
             first
               | exact ZG ⟨(fl, a2, c2), by dsimp only; omega⟩ (by repeat' first | exact Sub.nil | apply Sub.cons | rfl | (simp [lk]; omega)) (fun _ h => h)
               | (refine Sy.heap (fun w h => St.rows (sz := 4) (rows := Zo ((fl.set 0 z1).set (fl.length - 1) z0)) (rest := jF) h (ZQ _)) ?_
                  have e35 : fl.length = ((fl.set 0 z1).set (fl.length - 1) z0).length := by simp
                  conv => enter [2]; rw [e35]
                  exact ZG ⟨((fl.set 0 z1).set (fl.length - 1) z0, some ⟨bF, 0, none⟩, cF), by dsimp only; rw [← e35]; omega⟩ (by repeat' first | exact Sub.nil | apply Sub.cons | rfl | (simp [lk]; omega)) (fun _ h => h))
            ·
             try simp only [decide_eq_true_eq, decide_eq_false_iff_not, Bool.and_eq_true, Bool.or_eq_true, Bool.not_eq_true', Int.not_le, Int.not_lt] at hc7
             obtain ⟨a2, c2, he, hf⟩ := oF.freeze
             rw [he]
             refine Sy.heap (fun w h => hf h) ?_
             clear he hf
             rw [Z1C]
             refine Z3 ?_
             first
               | exact ZG ⟨(fl, a2, c2), by dsimp only; omega⟩ (by repeat' first | exact Sub.nil | apply Sub.cons | rfl | (simp [lk]; omega)) (fun _ h => h)
               | (refine Sy.heap (fun w h => St.rows (sz := 4) (rows := Zo ((fl.set 0 z1).set (fl.length - 1) z0)) (rest := jF) h (ZQ _)) ?_
                  have e35 : fl.length = ((fl.set 0 z1).set (fl.length - 1) z0).length := by simp
                  conv => enter [2]; rw [e35]
                  exact ZG ⟨((fl.set 0 z1).set (fl.length - 1) z0, some ⟨bF, 0, none⟩, cF), by dsimp only; rw [← e35]; omega⟩ (by repeat' first | exact Sub.nil | apply Sub.cons | rfl | (simp [lk]; omega)) (fun _ h => h))
           ·
            rintro ⟨⟨F1, a2, c2⟩, hF1⟩
            dsimp only at hF1 ⊢
            refine Z0 ?_
            refine Z1 [0, 1, 2, 3, 4, 5, 6, 7, 8, 9, 10, 11, 12, 13, 14, 15, 16, 17, 18, 19, 20, 21, 22, 23, 24, 25, 26, 27, 28, 29, 30, 31, 32, 33] rfl ?_
            refine spL rfl rfl (lhA (twl V (V.sl ab cb)) Zd rfl rfl rfl) rfl ?_
            refine sp rfl (PE.move rfl) rfl ?_
            refine sp rfl (PE.rem rfl rfl (by omega)) rfl ?_
            refine sp rfl (PE.move rfl) rfl ?_
            refine sp rfl (PE.rem rfl rfl (by omega)) rfl ?_
            refine sp rfl (PE.move rfl) rfl ?_
            refine sp rfl (PE.rem rfl rfl (by omega)) rfl ?_
            refine sp rfl (PE.build (out := [_, _, _]) Z7z Z2M rfl rfl) rfl ?_
            refine sp rfl (PE.move rfl) rfl ?_
            refine sp rfl (PE.rem rfl rfl (by omega)) rfl ?_
            refine sp rfl (PE.move rfl) rfl ?_
            refine sp rfl (PE.rem rfl rfl (by omega)) rfl ?_
            refine sp rfl (PE.eql rfl rfl) rfl ?_
            refine sp rfl (PE.move rfl) rfl ?_
            refine sp rfl (PE.rem rfl rfl (by omega)) rfl ?_
            refine sp rfl (PE.move rfl) rfl ?_
            refine sp rfl (PE.rem rfl rfl (by omega)) rfl ?_
            refine bsl (out := [_, _, _]) rfl Z46 zl3 rfl rfl rfl rfl rfl rfl (fun b263 => ?_)
            refine sp rfl (PE.move rfl) rfl ?_
            refine sp rfl (PE.rem rfl rfl (by omega)) rfl ?_
            refine sp rfl (PE.eql rfl rfl) rfl ?_
            refine sp rfl (PE.move rfl) rfl ?_
            refine sp rfl (PE.rem rfl rfl (by omega)) rfl ?_
            refine sp rfl (PE.eql rfl rfl) rfl ?_
            refine sp rfl (PE.move rfl) rfl ?_
            refine sp rfl (PE.rem rfl rfl (by omega)) rfl ?_
            refine sp rfl (PE.eql rfl rfl) rfl ?_
            refine bsl (out := [_, _, _]) rfl Zfd zl4 rfl rfl rfl rfl rfl rfl (fun b273 => ?_)
            refine sp rfl (PE.move rfl) rfl ?_
            refine sp rfl (PE.rem rfl rfl (by omega)) rfl ?_
            refine sp rfl (PE.move rfl) rfl ?_
            refine sp rfl (PE.move rfl) rfl ?_
            refine Sy.heap (fun w h => St.intRows (l := [(n : Int) % 2, (n : Int) % 3, 0]) (h.pull b263)) ?_
            refine Sy.heap (fun w h => St.boolRows (l := [decide ((n : Int) % 3 = 0), decide ((n : Int) % 4 = 0), decide ((n : Int) % 5 = 0)]) (jn := []) (h.pull b273)) ?_
            refine cl rfl Z3N rfl rfl (Z5Q V ab cb (by omega) ⟨(n : Int) % 7, (n : Int) % 2, (n : Int) % 3⟩ ((n : Int) % 5) (decide ((n : Int) % 2 = 1)) [(n : Int) % 2, (n : Int) % 3, 0] (some ⟨b263, 0, none⟩) 3 (Nat.le_of_ble_eq_true rfl) [decide ((n : Int) % 3 = 0), decide ((n : Int) % 4 = 0), decide ((n : Int) % 5 = 0)] (some ⟨b273, 0, none⟩) 3 (Nat.le_of_ble_eq_true rfl) ((n : Int) % 13) T1 a1 c1 (by omega) F1 a2 c2 (by omega) _ _) ?_
            rintro _ _ R1 ⟨rfl, rfl, hR1⟩
            obtain rfl := hR1.symm
            clear hR1
            refine sp rfl (PE.not rfl) rfl ?_
            refine Z5 rfl (fun hc8 => ?_) (fun hc8 => ?_)
            ·
             exact absurd hc8 (by simp)
            ·
             refine Z3 ?_
             refine Z1 [0, 1] rfl ?_
             refine sp rfl (PE.add rfl rfl (by omega)) rfl ?_
             refine sp rfl (PE.move rfl) rfl ?_
             exact Zb ⟨n + 1, by omega⟩ (by dsimp only; omega) (by repeat' first | exact Sub.nil | apply Sub.cons | rfl | (simp [lk]; omega)) (fun w h => St.sub (h.del b15))
     ·
      try simp only [decide_eq_true_eq, decide_eq_false_iff_not, Bool.and_eq_true, Bool.or_eq_true, Bool.not_eq_true', Int.not_le, Int.not_lt] at hc4
      
      refine Zk ?_
      refine Zl ?_
      refine Zl ?_
      refine ZH ?_
      refine Z0 ?_
      refine Z0 ?_
      refine Z1 [0, 1, 2] rfl ?_
      refine bsl (out := [_, _, _, _, _, _, _]) rfl Z46 zl3 rfl rfl rfl rfl rfl rfl (fun b281 => ?_)
      refine Sy.heap (fun w h => St.intRows (l := ([0, 1, 12, 13, 495, 496, 497] : List Int)) h) ?_
      refine sp rfl (PE.lenSl Z0p rfl) rfl ?_
      refine sp rfl (PE.move rfl) rfl ?_
      refine Z7 ?_
      refine Zn (ι := {k : Nat // k ≤ 7}) (fun y => ⟨[(281, .slice (some ⟨b281, 0, none⟩) 7 7), (282, .int .i64 7), (283, .int .i64 y.1)], H, RowsA (some ⟨b281, 0, none⟩) 1 (Zh ([0, 1, 12, 13, 495, 496, 497] : List Int)) :: R⟩) (fun y => 7 - y.1) ⟨0, Nat.zero_le _⟩ ?_ (fun y => ?_)
      ·
       exact Z0i (by repeat' first | exact Sub.nil | apply Sub.cons | rfl | (simp [lk]; omega)) (fun _ h => h)
      ·
       obtain ⟨k, hk⟩ := y
       dsimp only at hk ⊢
       refine Z0 ?_
       refine Z1 [0] rfl ?_
       refine sp rfl (PE.lss rfl rfl) rfl ?_
       refine Z0 ?_
       refine Z5 rfl (fun hc9 => ?_) (fun hc9 => ?_)
       ·
        try simp only [decide_eq_true_eq, decide_eq_false_iff_not, Bool.and_eq_true, Bool.or_eq_true, Bool.not_eq_true', Int.not_le, Int.not_lt] at hc9
        obtain ⟨v, hv⟩ : ∃ v, ([0, 1, 12, 13, 495, 496, 497] : List Int)[k]? = some v := ⟨_, List.getElem?_eq_getElem (show k < 7 by omega)⟩
        obtain ⟨m, rfl, hm⟩ : ∃ m : Nat, v = m ∧ m ≤ 497 := by
          have := List.mem_of_getElem? hv
          simp only [List.mem_cons, List.not_mem_nil, or_false] at this
          exact ⟨v.toNat, by omega, by omega⟩
        obtain ⟨m2, hm2⟩ : ∃ m2, m2 = min m 20 := ⟨_, rfl⟩
        have hmin : min ((m : Nat) : Int) 20 = ((m2 : Nat) : Int) := by omega
        refine Z3 ?_
        refine Z0 ?_
        refine Z7 ?_
        refine Z0 ?_
        refine Z1 [0, 1, 2] rfl ?_
        refine sp rfl (PE.indexAddr Z0N rfl rfl (by omega) (by omega)) rfl ?_
        refine spL rfl rfl (lf0 sc3 (Z9s hv) rfl) rfl ?_
        refine sp rfl (PE.assign rfl) rfl ?_
        refine Z0 ?_
        refine Z1 [0, 1, 2] rfl ?_
        refine cl rfl ZeC rfl rfl (ZbE _ _) ?_
        rintro _ H1 _ ⟨bm, rfl, hH1, rfl⟩
        obtain rfl := hH1.symm
        clear hH1
        refine alc rfl Z04 rfl (fun b23 => ?_)
        refine Z2R (l' := twl mill (.slice (some ⟨bm, 0, none⟩) 2 2)) rfl rfl rfl ZO rfl rfl rfl rfl (Nat.le_of_ble_eq_true rfl) ?_
        refine Z0 ?_
        refine Z2q (ι := Unit) (fun _ => ⟨[(281, .slice (some ⟨b281, 0, none⟩) 7 7), (282, .int .i64 7), (283, .int .i64 k), (303, .bool false)], (b23, cel 27 (twl mill (.slice (some ⟨bm, 0, none⟩) 2 2))) :: H, RowsA (some ⟨b281, 0, none⟩) 1 (Zh ([0, 1, 12, 13, 495, 496, 497] : List Int)) :: R⟩) ?_ ?_
        ·
         refine Ze [0, 0, 2, 0, 8, 24, 0, 64, 192, 0, 0, 1024, 0, 4096, 16383, 32767] (.ld 0 (.tk 1 (.ld 2 (.tk 3 (.tk 4 (.tk 6 (.tk 7 (.tk 9 (.tk 10 (.tk 12 (.any (.alt 5 (.any (.alt 8 (.any (.alt 11 (.big 13 (.big 14 (.tk 15 .done))) (.alt 13 (.big 11 (.big 14 (.tk 15 .done))) .stop))) (.alt 11 (.any (.alt 8 (.big 13 (.big 14 (.tk 15 .done))) (.alt 13 (.big 8 (.big 14 (.tk 15 .done))) .stop))) (.alt 13 (.any (.alt 8 (.big 11 (.big 14 (.tk 15 .done))) (.alt 11 (.big 8 (.big 14 (.tk 15 .done))) .stop))) .stop)))) (.alt 8 (.any (.alt 5 (.any (.alt 11 (.big 13 (.big 14 (.tk 15 .done))) (.alt 13 (.big 11 (.big 14 (.tk 15 .done))) .stop))) (.alt 11 (.any (.alt 5 (.big 13 (.big 14 (.tk 15 .done))) (.alt 13 (.big 5 (.big 14 (.tk 15 .done))) .stop))) (.alt 13 (.any (.alt 5 (.big 11 (.big 14 (.tk 15 .done))) (.alt 11 (.big 5 (.big 14 (.tk 15 .done))) .stop))) .stop)))) (.alt 11 (.any (.alt 5 (.any (.alt 8 (.big 13 (.big 14 (.tk 15 .done))) (.alt 13 (.big 8 (.big 14 (.tk 15 .done))) .stop))) (.alt 8 (.any (.alt 5 (.big 13 (.big 14 (.tk 15 .done))) (.alt 13 (.big 5 (.big 14 (.tk 15 .done))) .stop))) (.alt 13 (.any (.alt 5 (.big 8 (.big 14 (.tk 15 .done))) (.alt 8 (.big 5 (.big 14 (.tk 15 .done))) .stop))) .stop)))) (.alt 13 (.any (.alt 5 (.any (.alt 8 (.big 11 (.big 14 (.tk 15 .done))) (.alt 11 (.big 8 (.big 14 (.tk 15 .done))) .stop))) (.alt 8 (.any (.alt 5 (.big 11 (.big 14 (.tk 15 .done))) (.alt 11 (.big 5 (.big 14 (.tk 15 .done))) .stop))) (.alt 11 (.any (.alt 5 (.big 8 (.big 14 (.tk 15 .done))) (.alt 8 (.big 5 (.big 14 (.tk 15 .done))) .stop))) .stop)))) .stop))))))))))))))) Zy (by kernel_rfl) ?_
         refine ld rfl rfl (lhA (twl mill (.slice (some ⟨bm, 0, none⟩) 2 2)) Zd rfl rfl rfl) rfl ?_
         refine tk rfl (PE.fieldAddr Z0a rfl) rfl ?_
         refine ld rfl rfl (lhA [_, _, _] ZF rfl rfl rfl) rfl ?_
         refine tk rfl (PE.move rfl) rfl ?_
         refine tk rfl (PE.min rfl rfl) rfl ?_
         refine tk rfl (PE.move rfl) rfl ?_
         refine tk rfl (PE.min rfl rfl) rfl ?_
         refine tk rfl (PE.move rfl) rfl ?_
         refine tk rfl (PE.move rfl) rfl ?_
         refine tk rfl (PE.move rfl) rfl ?_
         refine Z8 ?_ ?_
         ·
          try rw [hmin]
          refine mkS rfl Z2T zl3 rfl rfl (Nat.le_refl _) ⟨by omega, by omega⟩ rfl (fun b293 => ?_)
          rw [Z1k]
          refine Sy.heap (fun w h => St.intRows (l := List.replicate m2 0) h) ?_
          refine bg (fun w hs => ⟨(lhA [_, _, _] ZF rfl rfl rfl) w hs, (lhA (twl mill (.slice (some ⟨bm, 0, none⟩) 2 2)) Zd rfl rfl rfl) w hs, trivial⟩) ?_
          refine Z8 ?_ ?_
          ·
           try rw [hmin]
           refine mkS rfl Z57 zl4 rfl rfl (Nat.le_refl _) ⟨by omega, by omega⟩ rfl (fun b296 => ?_)
           rw [Z2p]
           refine Sy.heap (fun w h => St.boolRows (l := List.replicate m2 false) (jn := []) h) ?_
           refine bg (fun w hs => ⟨(lhA [_, _, _] ZF rfl rfl rfl) w hs, (lhA (twl mill (.slice (some ⟨bm, 0, none⟩) 2 2)) Zd rfl rfl rfl) w hs, trivial⟩) ?_
           refine Z8 ?_ ?_
           ·
            refine mkS rfl Z51 Z48 rfl rfl (Nat.le_refl _) ⟨by omega, by omega⟩ rfl (fun b299 => ?_)
            rw [Z0J]
            refine Sy.heap (fun w h => St.rows (sz := 5) (rows := Zt (List.replicate m ⟨⟨0, 0, 0⟩, 0, 0⟩)) (rest := []) (by rw [List.append_nil]; exact h) (Z05 _)) ?_
            refine bg (fun w hs => ⟨(lhA [_, _, _] ZF rfl rfl rfl) w hs, (lhA (twl mill (.slice (some ⟨bm, 0, none⟩) 2 2)) Zd rfl rfl rfl) w hs, trivial⟩) ?_
            refine mkS rfl Z4T Z4S rfl rfl (Nat.le_refl _) ⟨by omega, by omega⟩ rfl (fun b301 => ?_)
            rw [Z0H]
            refine Sy.heap (fun w h => St.rows (sz := 4) (rows := Zo (List.replicate m (⟨0, 0, 0⟩, 0))) (rest := []) (by rw [List.append_nil]; exact h) (ZQ _)) ?_
            refine bg (fun w hs => ⟨(lhA [_, _, _] ZF rfl rfl rfl) w hs, (lhA (twl mill (.slice (some ⟨bm, 0, none⟩) 2 2)) Zd rfl rfl rfl) w hs, trivial⟩) ?_
            refine cl rfl Z3N rfl rfl (Z0t m m2 bm b293 b296 b299 b301 hm (by omega) _ _) ?_
            rintro _ _ R1 ⟨rfl, rfl, hR1⟩
            obtain rfl := hR1.symm
            clear hR1
            refine bg (fun w hs => ⟨trivial, trivial, trivial⟩) ?_
            refine tk rfl (PE.not rfl) rfl ?_
            exact Z6 () (by repeat' first | exact Sub.nil | apply Sub.cons | rfl | (simp [lk]; omega)) (fun w h => St.sub h)
           refine Z8 ?_ ?_
           ·
            refine mkS rfl Z4T Z4S rfl rfl (Nat.le_refl _) ⟨by omega, by omega⟩ rfl (fun b301 => ?_)
            rw [Z0H]
            refine Sy.heap (fun w h => St.rows (sz := 4) (rows := Zo (List.replicate m (⟨0, 0, 0⟩, 0))) (rest := []) (by rw [List.append_nil]; exact h) (ZQ _)) ?_
            refine bg (fun w hs => ⟨(lhA [_, _, _] ZF rfl rfl rfl) w hs, (lhA (twl mill (.slice (some ⟨bm, 0, none⟩) 2 2)) Zd rfl rfl rfl) w hs, trivial⟩) ?_
            refine mkS rfl Z51 Z48 rfl rfl (Nat.le_refl _) ⟨by omega, by omega⟩ rfl (fun b299 => ?_)
            rw [Z0J]
            refine Sy.heap (fun w h => St.rows (sz := 5) (rows := Zt (List.replicate m ⟨⟨0, 0, 0⟩, 0, 0⟩)) (rest := []) (by rw [List.append_nil]; exact h) (Z05 _)) ?_
            refine bg (fun w hs => ⟨(lhA [_, _, _] ZF rfl rfl rfl) w hs, (lhA (twl mill (.slice (some ⟨bm, 0, none⟩) 2 2)) Zd rfl rfl rfl) w hs, trivial⟩) ?_
            refine cl rfl Z3N rfl rfl (Z0t m m2 bm b293 b296 b299 b301 hm (by omega) _ _) ?_
            rintro _ _ R1 ⟨rfl, rfl, hR1⟩
            obtain rfl := hR1.symm
            clear hR1
            refine bg (fun w hs => ⟨trivial, trivial, trivial⟩) ?_
            refine tk rfl (PE.not rfl) rfl ?_
            exact Z6 () (by repeat' first | exact Sub.nil | apply Sub.cons | rfl | (simp [lk]; omega)) (fun w h => St.sub h)
           exact Zc
          refine Z8 ?_ ?_
          ·
           refine mkS rfl Z51 Z48 rfl rfl (Nat.le_refl _) ⟨by omega, by omega⟩ rfl (fun b299 => ?_)
           rw [Z0J]
           refine Sy.heap (fun w h => St.rows (sz := 5) (rows := Zt (List.replicate m ⟨⟨0, 0, 0⟩, 0, 0⟩)) (rest := []) (by rw [List.append_nil]; exact h) (Z05 _)) ?_
           refine bg (fun w hs => ⟨(lhA [_, _, _] ZF rfl rfl rfl) w hs, (lhA (twl mill (.slice (some ⟨bm, 0, none⟩) 2 2)) Zd rfl rfl rfl) w hs, trivial⟩) ?_
           refine Z8 ?_ ?_
           ·
            try rw [hmin]
            refine mkS rfl Z57 zl4 rfl rfl (Nat.le_refl _) ⟨by omega, by omega⟩ rfl (fun b296 => ?_)
            rw [Z2p]
            refine Sy.heap (fun w h => St.boolRows (l := List.replicate m2 false) (jn := []) h) ?_
            refine bg (fun w hs => ⟨(lhA [_, _, _] ZF rfl rfl rfl) w hs, (lhA (twl mill (.slice (some ⟨bm, 0, none⟩) 2 2)) Zd rfl rfl rfl) w hs, trivial⟩) ?_
            refine mkS rfl Z4T Z4S rfl rfl (Nat.le_refl _) ⟨by omega, by omega⟩ rfl (fun b301 => ?_)
            rw [Z0H]
            refine Sy.heap (fun w h => St.rows (sz := 4) (rows := Zo (List.replicate m (⟨0, 0, 0⟩, 0))) (rest := []) (by rw [List.append_nil]; exact h) (ZQ _)) ?_
            refine bg (fun w hs => ⟨(lhA [_, _, _] ZF rfl rfl rfl) w hs, (lhA (twl mill (.slice (some ⟨bm, 0, none⟩) 2 2)) Zd rfl rfl rfl) w hs, trivial⟩) ?_
            refine cl rfl Z3N rfl rfl (Z0t m m2 bm b293 b296 b299 b301 hm (by omega) _ _) ?_
            rintro _ _ R1 ⟨rfl, rfl, hR1⟩
            obtain rfl := hR1.symm
            clear hR1
            refine bg (fun w hs => ⟨trivial, trivial, trivial⟩) ?_
            refine tk rfl (PE.not rfl) rfl ?_
            exact Z6 () (by repeat' first | exact Sub.nil | apply Sub.cons | rfl | (simp [lk]; omega)) (fun w h => St.sub h)
           refine Z8 ?_ ?_
           ·
            refine mkS rfl Z4T Z4S rfl rfl (Nat.le_refl _) ⟨by omega, by omega⟩ rfl (fun b301 => ?_)
            rw [Z0H]
            refine Sy.heap (fun w h => St.rows (sz := 4) (rows := Zo (List.replicate m (⟨0, 0, 0⟩, 0))) (rest := []) (by rw [List.append_nil]; exact h) (ZQ _)) ?_
            refine bg (fun w hs => ⟨(lhA [_, _, _] ZF rfl rfl rfl) w hs, (lhA (twl mill (.slice (some ⟨bm, 0, none⟩) 2 2)) Zd rfl rfl rfl) w hs, trivial⟩) ?_
            try rw [hmin]
            refine mkS rfl Z57 zl4 rfl rfl (Nat.le_refl _) ⟨by omega, by omega⟩ rfl (fun b296 => ?_)
            rw [Z2p]
            refine Sy.heap (fun w h => St.boolRows (l := List.replicate m2 false) (jn := []) h) ?_
            refine bg (fun w hs => ⟨(lhA [_, _, _] ZF rfl rfl rfl) w hs, (lhA (twl mill (.slice (some ⟨bm, 0, none⟩) 2 2)) Zd rfl rfl rfl) w hs, trivial⟩) ?_
            refine cl rfl Z3N rfl rfl (Z0t m m2 bm b293 b296 b299 b301 hm (by omega) _ _) ?_
            rintro _ _ R1 ⟨rfl, rfl, hR1⟩
            obtain rfl := hR1.symm
            clear hR1
            refine bg (fun w hs => ⟨trivial, trivial, trivial⟩) ?_
            refine tk rfl (PE.not rfl) rfl ?_
            exact Z6 () (by repeat' first | exact Sub.nil | apply Sub.cons | rfl | (simp [lk]; omega)) (fun w h => St.sub h)
           exact Zc
          refine Z8 ?_ ?_
          ·
           refine mkS rfl Z4T Z4S rfl rfl (Nat.le_refl _) ⟨by omega, by omega⟩ rfl (fun b301 => ?_)
           rw [Z0H]
           refine Sy.heap (fun w h => St.rows (sz := 4) (rows := Zo (List.replicate m (⟨0, 0, 0⟩, 0))) (rest := []) (by rw [List.append_nil]; exact h) (ZQ _)) ?_
           refine bg (fun w hs => ⟨(lhA [_, _, _] ZF rfl rfl rfl) w hs, (lhA (twl mill (.slice (some ⟨bm, 0, none⟩) 2 2)) Zd rfl rfl rfl) w hs, trivial⟩) ?_
           refine Z8 ?_ ?_
           ·
            try rw [hmin]
            refine mkS rfl Z57 zl4 rfl rfl (Nat.le_refl _) ⟨by omega, by omega⟩ rfl (fun b296 => ?_)
            rw [Z2p]
            refine Sy.heap (fun w h => St.boolRows (l := List.replicate m2 false) (jn := []) h) ?_
            refine bg (fun w hs => ⟨(lhA [_, _, _] ZF rfl rfl rfl) w hs, (lhA (twl mill (.slice (some ⟨bm, 0, none⟩) 2 2)) Zd rfl rfl rfl) w hs, trivial⟩) ?_
            refine mkS rfl Z51 Z48 rfl rfl (Nat.le_refl _) ⟨by omega, by omega⟩ rfl (fun b299 => ?_)
            rw [Z0J]
            refine Sy.heap (fun w h => St.rows (sz := 5) (rows := Zt (List.replicate m ⟨⟨0, 0, 0⟩, 0, 0⟩)) (rest := []) (by rw [List.append_nil]; exact h) (Z05 _)) ?_
            refine bg (fun w hs => ⟨(lhA [_, _, _] ZF rfl rfl rfl) w hs, (lhA (twl mill (.slice (some ⟨bm, 0, none⟩) 2 2)) Zd rfl rfl rfl) w hs, trivial⟩) ?_
            refine cl rfl Z3N rfl rfl (Z0t m m2 bm b293 b296 b299 b301 hm (by omega) _ _) ?_
            rintro _ _ R1 ⟨rfl, rfl, hR1⟩
            obtain rfl := hR1.symm
            clear hR1
            refine bg (fun w hs => ⟨trivial, trivial, trivial⟩) ?_
            refine tk rfl (PE.not rfl) rfl ?_
            exact Z6 () (by repeat' first | exact Sub.nil | apply Sub.cons | rfl | (simp [lk]; omega)) (fun w h => St.sub h)
           refine Z8 ?_ ?_
           ·
            refine mkS rfl Z51 Z48 rfl rfl (Nat.le_refl _) ⟨by omega, by omega⟩ rfl (fun b299 => ?_)
            rw [Z0J]
            refine Sy.heap (fun w h => St.rows (sz := 5) (rows := Zt (List.replicate m ⟨⟨0, 0, 0⟩, 0, 0⟩)) (rest := []) (by rw [List.append_nil]; exact h) (Z05 _)) ?_
            refine bg (fun w hs => ⟨(lhA [_, _, _] ZF rfl rfl rfl) w hs, (lhA (twl mill (.slice (some ⟨bm, 0, none⟩) 2 2)) Zd rfl rfl rfl) w hs, trivial⟩) ?_
            try rw [hmin]
            refine mkS rfl Z57 zl4 rfl rfl (Nat.le_refl _) ⟨by omega, by omega⟩ rfl (fun b296 => ?_)
            rw [Z2p]
            refine Sy.heap (fun w h => St.boolRows (l := List.replicate m2 false) (jn := []) h) ?_
            refine bg (fun w hs => ⟨(lhA [_, _, _] ZF rfl rfl rfl) w hs, (lhA (twl mill (.slice (some ⟨bm, 0, none⟩) 2 2)) Zd rfl rfl rfl) w hs, trivial⟩) ?_
            refine cl rfl Z3N rfl rfl (Z0t m m2 bm b293 b296 b299 b301 hm (by omega) _ _) ?_
            rintro _ _ R1 ⟨rfl, rfl, hR1⟩
            obtain rfl := hR1.symm
            clear hR1
            refine bg (fun w hs => ⟨trivial, trivial, trivial⟩) ?_
            refine tk rfl (PE.not rfl) rfl ?_
            exact Z6 () (by repeat' first | exact Sub.nil | apply Sub.cons | rfl | (simp [lk]; omega)) (fun w h => St.sub h)
           exact Zc
          exact Zc
         refine Z8 ?_ ?_
         ·
          try rw [hmin]
          refine mkS rfl Z57 zl4 rfl rfl (Nat.le_refl _) ⟨by omega, by omega⟩ rfl (fun b296 => ?_)
          rw [Z2p]
          refine Sy.heap (fun w h => St.boolRows (l := List.replicate m2 false) (jn := []) h) ?_
          refine bg (fun w hs => ⟨(lhA [_, _, _] ZF rfl rfl rfl) w hs, (lhA (twl mill (.slice (some ⟨bm, 0, none⟩) 2 2)) Zd rfl rfl rfl) w hs, trivial⟩) ?_
          refine Z8 ?_ ?_
          ·
           try rw [hmin]
           refine mkS rfl Z2T zl3 rfl rfl (Nat.le_refl _) ⟨by omega, by omega⟩ rfl (fun b293 => ?_)
           rw [Z1k]
           refine Sy.heap (fun w h => St.intRows (l := List.replicate m2 0) h) ?_
           refine bg (fun w hs => ⟨(lhA [_, _, _] ZF rfl rfl rfl) w hs, (lhA (twl mill (.slice (some ⟨bm, 0, none⟩) 2 2)) Zd rfl rfl rfl) w hs, trivial⟩) ?_
           refine Z8 ?_ ?_
           ·
            refine mkS rfl Z51 Z48 rfl rfl (Nat.le_refl _) ⟨by omega, by omega⟩ rfl (fun b299 => ?_)
            rw [Z0J]
            refine Sy.heap (fun w h => St.rows (sz := 5) (rows := Zt (List.replicate m ⟨⟨0, 0, 0⟩, 0, 0⟩)) (rest := []) (by rw [List.append_nil]; exact h) (Z05 _)) ?_
            refine bg (fun w hs => ⟨(lhA [_, _, _] ZF rfl rfl rfl) w hs, (lhA (twl mill (.slice (some ⟨bm, 0, none⟩) 2 2)) Zd rfl rfl rfl) w hs, trivial⟩) ?_
            refine mkS rfl Z4T Z4S rfl rfl (Nat.le_refl _) ⟨by omega, by omega⟩ rfl (fun b301 => ?_)
            rw [Z0H]
            refine Sy.heap (fun w h => St.rows (sz := 4) (rows := Zo (List.replicate m (⟨0, 0, 0⟩, 0))) (rest := []) (by rw [List.append_nil]; exact h) (ZQ _)) ?_
            refine bg (fun w hs => ⟨(lhA [_, _, _] ZF rfl rfl rfl) w hs, (lhA (twl mill (.slice (some ⟨bm, 0, none⟩) 2 2)) Zd rfl rfl rfl) w hs, trivial⟩) ?_
            refine cl rfl Z3N rfl rfl (Z0t m m2 bm b293 b296 b299 b301 hm (by omega) _ _) ?_
            rintro _ _ R1 ⟨rfl, rfl, hR1⟩
            obtain rfl := hR1.symm
            clear hR1
            refine bg (fun w hs => ⟨trivial, trivial, trivial⟩) ?_
            refine tk rfl (PE.not rfl) rfl ?_
            exact Z6 () (by repeat' first | exact Sub.nil | apply Sub.cons | rfl | (simp [lk]; omega)) (fun w h => St.sub h)
           refine Z8 ?_ ?_
           ·
            refine mkS rfl Z4T Z4S rfl rfl (Nat.le_refl _) ⟨by omega, by omega⟩ rfl (fun b301 => ?_)
            rw [Z0H]
            refine Sy.heap (fun w h => St.rows (sz := 4) (rows := Zo (List.replicate m (⟨0, 0, 0⟩, 0))) (rest := []) (by rw [List.append_nil]; exact h) (ZQ _)) ?_
            refine bg (fun w hs => ⟨(lhA [_, _, _] ZF rfl rfl rfl) w hs, (lhA (twl mill (.slice (some ⟨bm, 0, none⟩) 2 2)) Zd rfl rfl rfl) w hs, trivial⟩) ?_
            refine mkS rfl Z51 Z48 rfl rfl (Nat.le_refl _) ⟨by omega, by omega⟩ rfl (fun b299 => ?_)
            rw [Z0J]
            refine Sy.heap (fun w h => St.rows (sz := 5) (rows := Zt (List.replicate m ⟨⟨0, 0, 0⟩, 0, 0⟩)) (rest := []) (by rw [List.append_nil]; exact h) (Z05 _)) ?_
            refine bg (fun w hs => ⟨(lhA [_, _, _] ZF rfl rfl rfl) w hs, (lhA (twl mill (.slice (some ⟨bm, 0, none⟩) 2 2)) Zd rfl rfl rfl) w hs, trivial⟩) ?_
            refine cl rfl Z3N rfl rfl (Z0t m m2 bm b293 b296 b299 b301 hm (by omega) _ _) ?_
            rintro _ _ R1 ⟨rfl, rfl, hR1⟩
            obtain rfl := hR1.symm
            clear hR1
            refine bg (fun w hs => ⟨trivial, trivial, trivial⟩) ?_
            refine tk rfl (PE.not rfl) rfl ?_
            exact Z6 () (by repeat' first | exact Sub.nil | apply Sub.cons | rfl | (simp [lk]; omega)) (fun w h => St.sub h)
           exact Zc
          refine Z8 ?_ ?_
          ·
           refine mkS rfl Z51 Z48 rfl rfl (Nat.le_refl _) ⟨by omega, by omega⟩ rfl (fun b299 => ?_)
           rw [Z0J]
           refine Sy.heap (fun w h => St.rows (sz := 5) (rows := Zt (List.replicate m ⟨⟨0, 0, 0⟩, 0, 0⟩)) (rest := []) (by rw [List.append_nil]; exact h) (Z05 _)) ?_
           refine bg (fun w hs => ⟨(lhA [_, _, _] ZF rfl rfl rfl) w hs, (lhA (twl mill (.slice (some ⟨bm, 0, none⟩) 2 2)) Zd rfl rfl rfl) w hs, trivial⟩) ?_
           refine Z8 ?_ ?_
           ·
            try rw [hmin]
            refine mkS rfl Z2T zl3 rfl rfl (Nat.le_refl _) ⟨by omega, by omega⟩ rfl (fun b293 => ?_)
            rw [Z1k]
            refine Sy.heap (fun w h => St.intRows (l := List.replicate m2 0) h) ?_
            refine bg (fun w hs => ⟨(lhA [_, _, _] ZF rfl rfl rfl) w hs, (lhA (twl mill (.slice (some ⟨bm, 0, none⟩) 2 2)) Zd rfl rfl rfl) w hs, trivial⟩) ?_
            refine mkS rfl Z4T Z4S rfl rfl (Nat.le_refl _) ⟨by omega, by omega⟩ rfl (fun b301 => ?_)
            rw [Z0H]
            refine Sy.heap (fun w h => St.rows (sz := 4) (rows := Zo (List.replicate m (⟨0, 0, 0⟩, 0))) (rest := []) (by rw [List.append_nil]; exact h) (ZQ _)) ?_
            refine bg (fun w hs => ⟨(lhA [_, _, _] ZF rfl rfl rfl) w hs, (lhA (twl mill (.slice (some ⟨bm, 0, none⟩) 2 2)) Zd rfl rfl rfl) w hs, trivial⟩) ?_
            refine cl rfl Z3N rfl rfl (Z0t m m2 bm b293 b296 b299 b301 hm (by omega) _ _) ?_
            rintro _ _ R1 ⟨rfl, rfl, hR1⟩
            obtain rfl := hR1.symm
            clear hR1
            refine bg (fun w hs => ⟨trivial, trivial, trivial⟩) ?_
            refine tk rfl (PE.not rfl) rfl ?_
            exact Z6 () (by repeat' first | exact Sub.nil | apply Sub.cons | rfl | (simp [lk]; omega)) (fun w h => St.sub h)
           refine Z8 ?_ ?_
           ·
            refine mkS rfl Z4T Z4S rfl rfl (Nat.le_refl _) ⟨by omega, by omega⟩ rfl (fun b301 => ?_)
            rw [Z0H]
            refine Sy.heap (fun w h => St.rows (sz := 4) (rows := Zo (List.replicate m (⟨0, 0, 0⟩, 0))) (rest := []) (by rw [List.append_nil]; exact h) (ZQ _)) ?_
            refine bg (fun w hs => ⟨(lhA [_, _, _] ZF rfl rfl rfl) w hs, (lhA (twl mill (.slice (some ⟨bm, 0, none⟩) 2 2)) Zd rfl rfl rfl) w hs, trivial⟩) ?_
            try rw [hmin]
            refine mkS rfl Z2T zl3 rfl rfl (Nat.le_refl _) ⟨by omega, by omega⟩ rfl (fun b293 => ?_)
            rw [Z1k]
            refine Sy.heap (fun w h => St.intRows (l := List.replicate m2 0) h) ?_
            refine bg (fun w hs => ⟨(lhA [_, _, _] ZF rfl rfl rfl) w hs, (lhA (twl mill (.slice (some ⟨bm, 0, none⟩) 2 2)) Zd rfl rfl rfl) w hs, trivial⟩) ?_
            refine cl rfl Z3N rfl rfl (Z0t m m2 bm b293 b296 b299 b301 hm (by omega) _ _) ?_
            rintro _ _ R1 ⟨rfl, rfl, hR1⟩
            obtain rfl := hR1.symm
            clear hR1
            refine bg (fun w hs => ⟨trivial, trivial, trivial⟩) ?_
            refine tk rfl (PE.not rfl) rfl ?_
            exact Z6 () (by repeat' first | exact Sub.nil | apply Sub.cons | rfl | (simp [lk]; omega)) (fun w h => St.sub h)
           exact Zc
          refine Z8 ?_ ?_
          ·
           refine mkS rfl Z4T Z4S rfl rfl (Nat.le_refl _) ⟨by omega, by omega⟩ rfl (fun b301 => ?_)
           rw [Z0H]
           refine Sy.heap (fun w h => St.rows (sz := 4) (rows := Zo (List.replicate m (⟨0, 0, 0⟩, 0))) (rest := []) (by rw [List.append_nil]; exact h) (ZQ _)) ?_
           refine bg (fun w hs => ⟨(lhA [_, _, _] ZF rfl rfl rfl) w hs, (lhA (twl mill (.slice (some ⟨bm, 0, none⟩) 2 2)) Zd rfl rfl rfl) w hs, trivial⟩) ?_
           refine Z8 ?_ ?_
           ·
            try rw [hmin]
            refine mkS rfl Z2T zl3 rfl rfl (Nat.le_refl _) ⟨by omega, by omega⟩ rfl (fun b293 => ?_)
            rw [Z1k]
            refine Sy.heap (fun w h => St.intRows (l := List.replicate m2 0) h) ?_
            refine bg (fun w hs => ⟨(lhA [_, _, _] ZF rfl rfl rfl) w hs, (lhA (twl mill (.slice (some ⟨bm, 0, none⟩) 2 2)) Zd rfl rfl rfl) w hs, trivial⟩) ?_
            refine mkS rfl Z51 Z48 rfl rfl (Nat.le_refl _) ⟨by omega, by omega⟩ rfl (fun b299 => ?_)
            rw [Z0J]
            refine Sy.heap (fun w h => St.rows (sz := 5) (rows := Zt (List.replicate m ⟨⟨0, 0, 0⟩, 0, 0⟩)) (rest := []) (by rw [List.append_nil]; exact h) (Z05 _)) ?_
            refine bg (fun w hs => ⟨(lhA [_, _, _] ZF rfl rfl rfl) w hs, (lhA (twl mill (.slice (some ⟨bm, 0, none⟩) 2 2)) Zd rfl rfl rfl) w hs, trivial⟩) ?_
            refine cl rfl Z3N rfl rfl (Z0t m m2 bm b293 b296 b299 b301 hm (by omega) _ _) ?_
            rintro _ _ R1 ⟨rfl, rfl, hR1⟩
            obtain rfl := hR1.symm
            clear hR1
            refine bg (fun w hs => ⟨trivial, trivial, trivial⟩) ?_
            refine tk rfl (PE.not rfl) rfl ?_
            exact Z6 () (by repeat' first | exact Sub.nil | apply Sub.cons | rfl | (simp [lk]; omega)) (fun w h => St.sub h)
           refine Z8 ?_ ?_
           ·
            refine mkS rfl Z51 Z48 rfl rfl (Nat.le_refl _) ⟨by omega, by omega⟩ rfl (fun b299 => ?_)
            rw [Z0J]
            refine Sy.heap (fun w h => St.rows (sz := 5) (rows := Zt (List.replicate m ⟨⟨0, 0, 0⟩, 0, 0⟩)) (rest := []) (by rw [List.append_nil]; exact h) (Z05 _)) ?_
            refine bg (fun w hs => ⟨(lhA [_, _, _] ZF rfl rfl rfl) w hs, (lhA (twl mill (.slice (some ⟨bm, 0, none⟩) 2 2)) Zd rfl rfl rfl) w hs, trivial⟩) ?_
            try rw [hmin]
            refine mkS rfl Z2T zl3 rfl rfl (Nat.le_refl _) ⟨by omega, by omega⟩ rfl (fun b293 => ?_)
            rw [Z1k]
            refine Sy.heap (fun w h => St.intRows (l := List.replicate m2 0) h) ?_
            refine bg (fun w hs => ⟨(lhA [_, _, _] ZF rfl rfl rfl) w hs, (lhA (twl mill (.slice (some ⟨bm, 0, none⟩) 2 2)) Zd rfl rfl rfl) w hs, trivial⟩) ?_
            refine cl rfl Z3N rfl rfl (Z0t m m2 bm b293 b296 b299 b301 hm (by omega) _ _) ?_
            rintro _ _ R1 ⟨rfl, rfl, hR1⟩
            obtain rfl := hR1.symm
            clear hR1
            refine bg (fun w hs => ⟨trivial, trivial, trivial⟩) ?_
            refine tk rfl (PE.not rfl) rfl ?_
            exact Z6 () (by repeat' first | exact Sub.nil | apply Sub.cons | rfl | (simp [lk]; omega)) (fun w h => St.sub h)
           exact Zc
          exact Zc
         refine Z8 ?_ ?_
         ·
          refine mkS rfl Z51 Z48 rfl rfl (Nat.le_refl _) ⟨by omega, by omega⟩ rfl (fun b299 => ?_)
          rw [Z0J]
          refine Sy.heap (fun w h => St.rows (sz := 5) (rows := Zt (List.replicate m ⟨⟨0, 0, 0⟩, 0, 0⟩)) (rest := []) (by rw [List.append_nil]; exact h) (Z05 _)) ?_
          refine bg (fun w hs => ⟨(lhA [_, _, _] ZF rfl rfl rfl) w hs, (lhA (twl mill (.slice (some ⟨bm, 0, none⟩) 2 2)) Zd rfl rfl rfl) w hs, trivial⟩) ?_
          refine Z8 ?_ ?_
          ·
           try rw [hmin]
           refine mkS rfl Z2T zl3 rfl rfl (Nat.le_refl _) ⟨by omega, by omega⟩ rfl (fun b293 => ?_)
           rw [Z1k]
           refine Sy.heap (fun w h => St.intRows (l := List.replicate m2 0) h) ?_
           refine bg (fun w hs => ⟨(lhA [_, _, _] ZF rfl rfl rfl) w hs, (lhA (twl mill (.slice (some ⟨bm, 0, none⟩) 2 2)) Zd rfl rfl rfl) w hs, trivial⟩) ?_
           refine Z8 ?_ ?_
           ·
            try rw [hmin]
            refine mkS rfl Z57 zl4 rfl rfl (Nat.le_refl _) ⟨by omega, by omega⟩ rfl (fun b296 => ?_)
            rw [Z2p]
            refine Sy.heap (fun w h => St.boolRows (l := List.replicate m2 false) (jn := []) h) ?_
            refine bg (fun w hs => ⟨(lhA [_, _, _] ZF rfl rfl rfl) w hs, (lhA (twl mill (.slice (some ⟨bm, 0, none⟩) 2 2)) Zd rfl rfl rfl) w hs, trivial⟩) ?_
            refine mkS rfl Z4T Z4S rfl rfl (Nat.le_refl _) ⟨by omega, by omega⟩ rfl (fun b301 => ?_)
            rw [Z0H]
            refine Sy.heap (fun w h => St.rows (sz := 4) (rows := Zo (List.replicate m (⟨0, 0, 0⟩, 0))) (rest := []) (by rw [List.append_nil]; exact h) (ZQ _)) ?_
            refine bg (fun w hs => ⟨(lhA [_, _, _] ZF rfl rfl rfl) w hs, (lhA (twl mill (.slice (some ⟨bm, 0, none⟩) 2 2)) Zd rfl rfl rfl) w hs, trivial⟩) ?_
            refine cl rfl Z3N rfl rfl (Z0t m m2 bm b293 b296 b299 b301 hm (by omega) _ _) ?_
            rintro _ _ R1 ⟨rfl, rfl, hR1⟩
            obtain rfl := hR1.symm
            clear hR1
            refine bg (fun w hs => ⟨trivial, trivial, trivial⟩) ?_
            refine tk rfl (PE.not rfl) rfl ?_
            exact Z6 () (by repeat' first | exact Sub.nil | apply Sub.cons | rfl | (simp [lk]; omega)) (fun w h => St.sub h)
           refine Z8 ?_ ?_
           ·
            refine mkS rfl Z4T Z4S rfl rfl (Nat.le_refl _) ⟨by omega, by omega⟩ rfl (fun b301 => ?_)
            rw [Z0H]
            refine Sy.heap (fun w h => St.rows (sz := 4) (rows := Zo (List.replicate m (⟨0, 0, 0⟩, 0))) (rest := []) (by rw [List.append_nil]; exact h) (ZQ _)) ?_
            refine bg (fun w hs => ⟨(lhA [_, _, _] ZF rfl rfl rfl) w hs, (lhA (twl mill (.slice (some ⟨bm, 0, none⟩) 2 2)) Zd rfl rfl rfl) w hs, trivial⟩) ?_
            try rw [hmin]
            refine mkS rfl Z57 zl4 rfl rfl (Nat.le_refl _) ⟨by omega, by omega⟩ rfl (fun b296 => ?_)
            rw [Z2p]
            refine Sy.heap (fun w h => St.boolRows (l := List.replicate m2 false) (jn := []) h) ?_
            refine bg (fun w hs => ⟨(lhA [_, _, _] ZF rfl rfl rfl) w hs, (lhA (twl mill (.slice (some ⟨bm, 0, none⟩) 2 2)) Zd rfl rfl rfl) w hs, trivial⟩) ?_
            refine cl rfl Z3N rfl rfl (Z0t m m2 bm b293 b296 b299 b301 hm (by omega) _ _) ?_
            rintro _ _ R1 ⟨rfl, rfl, hR1⟩
            obtain rfl := hR1.symm
            clear hR1
            refine bg (fun w hs => ⟨trivial, trivial, trivial⟩) ?_
            refine tk rfl (PE.not rfl) rfl ?_
            exact Z6 () (by repeat' first | exact Sub.nil | apply Sub.cons | rfl | (simp [lk]; omega)) (fun w h => St.sub h)
           exact Zc
          refine Z8 ?_ ?_
          ·
           try rw [hmin]
           refine mkS rfl Z57 zl4 rfl rfl (Nat.le_refl _) ⟨by omega, by omega⟩ rfl (fun b296 => ?_)
           rw [Z2p]
           refine Sy.heap (fun w h => St.boolRows (l := List.replicate m2 false) (jn := []) h) ?_
           refine bg (fun w hs => ⟨(lhA [_, _, _] ZF rfl rfl rfl) w hs, (lhA (twl mill (.slice (some ⟨bm, 0, none⟩) 2 2)) Zd rfl rfl rfl) w hs, trivial⟩) ?_
           refine Z8 ?_ ?_
           ·
            try rw [hmin]
            refine mkS rfl Z2T zl3 rfl rfl (Nat.le_refl _) ⟨by omega, by omega⟩ rfl (fun b293 => ?_)
            rw [Z1k]
            refine Sy.heap (fun w h => St.intRows (l := List.replicate m2 0) h) ?_
            refine bg (fun w hs => ⟨(lhA [_, _, _] ZF rfl rfl rfl) w hs, (lhA (twl mill (.slice (some ⟨bm, 0, none⟩) 2 2)) Zd rfl rfl rfl) w hs, trivial⟩) ?_
            refine mkS rfl Z4T Z4S rfl rfl (Nat.le_refl _) ⟨by omega, by omega⟩ rfl (fun b301 => ?_)
            rw [Z0H]
            refine Sy.heap (fun w h => St.rows (sz := 4) (rows := Zo (List.replicate m (⟨0, 0, 0⟩, 0))) (rest := []) (by rw [List.append_nil]; exact h) (ZQ _)) ?_
            refine bg (fun w hs => ⟨(lhA [_, _, _] ZF rfl rfl rfl) w hs, (lhA (twl mill (.slice (some ⟨bm, 0, none⟩) 2 2)) Zd rfl rfl rfl) w hs, trivial⟩) ?_
            refine cl rfl Z3N rfl rfl (Z0t m m2 bm b293 b296 b299 b301 hm (by omega) _ _) ?_
            rintro _ _ R1 ⟨rfl, rfl, hR1⟩
            obtain rfl := hR1.symm
            clear hR1
            refine bg (fun w hs => ⟨trivial, trivial, trivial⟩) ?_
            refine tk rfl (PE.not rfl) rfl ?_
            exact Z6 () (by repeat' first | exact Sub.nil | apply Sub.cons | rfl | (simp [lk]; omega)) (fun w h => St.sub h)
           refine Z8 ?_ ?_
           ·
            refine mkS rfl Z4T Z4S rfl rfl (Nat.le_refl _) ⟨by omega, by omega⟩ rfl (fun b301 => ?_)
            rw [Z0H]
            refine Sy.heap (fun w h => St.rows (sz := 4) (rows := Zo (List.replicate m (⟨0, 0, 0⟩, 0))) (rest := []) (by rw [List.append_nil]; exact h) (ZQ _)) ?_
            refine bg (fun w hs => ⟨(lhA [_, _, _] ZF rfl rfl rfl) w hs, (lhA (twl mill (.slice (some ⟨bm, 0, none⟩) 2 2)) Zd rfl rfl rfl) w hs, trivial⟩) ?_
            try rw [hmin]
            refine mkS rfl Z2T zl3 rfl rfl (Nat.le_refl _) ⟨by omega, by omega⟩ rfl (fun b293 => ?_)
            rw [Z1k]
            refine Sy.heap (fun w h => St.intRows (l := List.replicate m2 0) h) ?_
            refine bg (fun w hs => ⟨(lhA [_, _, _] ZF rfl rfl rfl) w hs, (lhA (twl mill (.slice (some ⟨bm, 0, none⟩) 2 2)) Zd rfl rfl rfl) w hs, trivial⟩) ?_
            refine cl rfl Z3N rfl rfl (Z0t m m2 bm b293 b296 b299 b301 hm (by omega) _ _) ?_
            rintro _ _ R1 ⟨rfl, rfl, hR1⟩
            obtain rfl := hR1.symm
            clear hR1
            refine bg (fun w hs => ⟨trivial, trivial, trivial⟩) ?_
            refine tk rfl (PE.not rfl) rfl ?_
            exact Z6 () (by repeat' first | exact Sub.nil | apply Sub.cons | rfl | (simp [lk]; omega)) (fun w h => St.sub h)
           exact Zc
          refine Z8 ?_ ?_
          ·
           refine mkS rfl Z4T Z4S rfl rfl (Nat.le_refl _) ⟨by omega, by omega⟩ rfl (fun b301 => ?_)
           rw [Z0H]
           refine Sy.heap (fun w h => St.rows (sz := 4) (rows := Zo (List.replicate m (⟨0, 0, 0⟩, 0))) (rest := []) (by rw [List.append_nil]; exact h) (ZQ _)) ?_
           refine bg (fun w hs => ⟨(lhA [_, _, _] ZF rfl rfl rfl) w hs, (lhA (twl mill (.slice (some ⟨bm, 0, none⟩) 2 2)) Zd rfl rfl rfl) w hs, trivial⟩) ?_
           refine Z8 ?_ ?_
           ·
            try rw [hmin]
            refine mkS rfl Z2T zl3 rfl rfl (Nat.le_refl _) ⟨by omega, by omega⟩ rfl (fun b293 => ?_)
            rw [Z1k]
            refine Sy.heap (fun w h => St.intRows (l := List.replicate m2 0) h) ?_
            refine bg (fun w hs => ⟨(lhA [_, _, _] ZF rfl rfl rfl) w hs, (lhA (twl mill (.slice (some ⟨bm, 0, none⟩) 2 2)) Zd rfl rfl rfl) w hs, trivial⟩) ?_
            try rw [hmin]
            refine mkS rfl Z57 zl4 rfl rfl (Nat.le_refl _) ⟨by omega, by omega⟩ rfl (fun b296 => ?_)
            rw [Z2p]
            refine Sy.heap (fun w h => St.boolRows (l := List.replicate m2 false) (jn := []) h) ?_
            refine bg (fun w hs => ⟨(lhA [_, _, _] ZF rfl rfl rfl) w hs, (lhA (twl mill (.slice (some ⟨bm, 0, none⟩) 2 2)) Zd rfl rfl rfl) w hs, trivial⟩) ?_
            refine cl rfl Z3N rfl rfl (Z0t m m2 bm b293 b296 b299 b301 hm (by omega) _ _) ?_
            rintro _ _ R1 ⟨rfl, rfl, hR1⟩
            obtain rfl := hR1.symm
            clear hR1
            refine bg (fun w hs => ⟨trivial, trivial, trivial⟩) ?_
            refine tk rfl (PE.not rfl) rfl ?_
            exact Z6 () (by repeat' first | exact Sub.nil | apply Sub.cons | rfl | (simp [lk]; omega)) (fun w h => St.sub h)
           refine Z8 ?_ ?_
           ·
            try rw [hmin]
            refine mkS rfl Z57 zl4 rfl rfl (Nat.le_refl _) ⟨by omega, by omega⟩ rfl (fun b296 => ?_)
            rw [Z2p]
            refine Sy.heap (fun w h => St.boolRows (l := List.replicate m2 false) (jn := []) h) ?_
            refine bg (fun w hs => ⟨(lhA [_, _, _] ZF rfl rfl rfl) w hs, (lhA (twl mill (.slice (some ⟨bm, 0, none⟩) 2 2)) Zd rfl rfl rfl) w hs, trivial⟩) ?_
            try rw [hmin]
            refine mkS rfl Z2T zl3 rfl rfl (Nat.le_refl _) ⟨by omega, by omega⟩ rfl (fun b293 => ?_)
            rw [Z1k]
            refine Sy.heap (fun w h => St.intRows (l := List.replicate m2 0) h) ?_
            refine bg (fun w hs => ⟨(lhA [_, _, _] ZF rfl rfl rfl) w hs, (lhA (twl mill (.slice (some ⟨bm, 0, none⟩) 2 2)) Zd rfl rfl rfl) w hs, trivial⟩) ?_
            refine cl rfl Z3N rfl rfl (Z0t m m2 bm b293 b296 b299 b301 hm (by omega) _ _) ?_
            rintro _ _ R1 ⟨rfl, rfl, hR1⟩
            obtain rfl := hR1.symm
            clear hR1
            refine bg (fun w hs => ⟨trivial, trivial, trivial⟩) ?_
            refine tk rfl (PE.not rfl) rfl ?_
            exact Z6 () (by repeat' first | exact Sub.nil | apply Sub.cons | rfl | (simp [lk]; omega)) (fun w h => St.sub h)
           exact Zc
          exact Zc
         refine Z8 ?_ ?_
         ·
          refine mkS rfl Z4T Z4S rfl rfl (Nat.le_refl _) ⟨by omega, by omega⟩ rfl (fun b301 => ?_)
          rw [Z0H]
          refine Sy.heap (fun w h => St.rows (sz := 4) (rows := Zo (List.replicate m (⟨0, 0, 0⟩, 0))) (rest := []) (by rw [List.append_nil]; exact h) (ZQ _)) ?_
          refine bg (fun w hs => ⟨(lhA [_, _, _] ZF rfl rfl rfl) w hs, (lhA (twl mill (.slice (some ⟨bm, 0, none⟩) 2 2)) Zd rfl rfl rfl) w hs, trivial⟩) ?_
          refine Z8 ?_ ?_
          ·
           try rw [hmin]
           refine mkS rfl Z2T zl3 rfl rfl (Nat.le_refl _) ⟨by omega, by omega⟩ rfl (fun b293 => ?_)
           rw [Z1k]
           refine Sy.heap (fun w h => St.intRows (l := List.replicate m2 0) h) ?_
           refine bg (fun w hs => ⟨(lhA [_, _, _] ZF rfl rfl rfl) w hs, (lhA (twl mill (.slice (some ⟨bm, 0, none⟩) 2 2)) Zd rfl rfl rfl) w hs, trivial⟩) ?_
           refine Z8 ?_ ?_
           ·
            try rw [hmin]
            refine mkS rfl Z57 zl4 rfl rfl (Nat.le_refl _) ⟨by omega, by omega⟩ rfl (fun b296 => ?_)
            rw [Z2p]
            refine Sy.heap (fun w h => St.boolRows (l := List.replicate m2 false) (jn := []) h) ?_
            refine bg (fun w hs => ⟨(lhA [_, _, _] ZF rfl rfl rfl) w hs, (lhA (twl mill (.slice (some ⟨bm, 0, none⟩) 2 2)) Zd rfl rfl rfl) w hs, trivial⟩) ?_
            refine mkS rfl Z51 Z48 rfl rfl (Nat.le_refl _) ⟨by omega, by omega⟩ rfl (fun b299 => ?_)
            rw [Z0J]
            refine Sy.heap (fun w h => St.rows (sz := 5) (rows := Zt (List.replicate m ⟨⟨0, 0, 0⟩, 0, 0⟩)) (rest := []) (by rw [List.append_nil]; exact h) (Z05 _)) ?_
            refine bg (fun w hs => ⟨(lhA [_, _, _] ZF rfl rfl rfl) w hs, (lhA (twl mill (.slice (some ⟨bm, 0, none⟩) 2 2)) Zd rfl rfl rfl) w hs, trivial⟩) ?_
            refine cl rfl Z3N rfl rfl (Z0t m m2 bm b293 b296 b299 b301 hm (by omega) _ _) ?_
            rintro _ _ R1 ⟨rfl, rfl, hR1⟩
            obtain rfl := hR1.symm
            clear hR1
            refine bg (fun w hs => ⟨trivial, trivial, trivial⟩) ?_
            refine tk rfl (PE.not rfl) rfl ?_
            exact Z6 () (by repeat' first | exact Sub.nil | apply Sub.cons | rfl | (simp [lk]; omega)) (fun w h => St.sub h)
           refine Z8 ?_ ?_
           ·
            refine mkS rfl Z51 Z48 rfl rfl (Nat.le_refl _) ⟨by omega, by omega⟩ rfl (fun b299 => ?_)
            rw [Z0J]
            refine Sy.heap (fun w h => St.rows (sz := 5) (rows := Zt (List.replicate m ⟨⟨0, 0, 0⟩, 0, 0⟩)) (rest := []) (by rw [List.append_nil]; exact h) (Z05 _)) ?_
            refine bg (fun w hs => ⟨(lhA [_, _, _] ZF rfl rfl rfl) w hs, (lhA (twl mill (.slice (some ⟨bm, 0, none⟩) 2 2)) Zd rfl rfl rfl) w hs, trivial⟩) ?_
            try rw [hmin]
            refine mkS rfl Z57 zl4 rfl rfl (Nat.le_refl _) ⟨by omega, by omega⟩ rfl (fun b296 => ?_)
            rw [Z2p]
            refine Sy.heap (fun w h => St.boolRows (l := List.replicate m2 false) (jn := []) h) ?_
            refine bg (fun w hs => ⟨(lhA [_, _, _] ZF rfl rfl rfl) w hs, (lhA (twl mill (.slice (some ⟨bm, 0, none⟩) 2 2)) Zd rfl rfl rfl) w hs, trivial⟩) ?_
            refine cl rfl Z3N rfl rfl (Z0t m m2 bm b293 b296 b299 b301 hm (by omega) _ _) ?_
            rintro _ _ R1 ⟨rfl, rfl, hR1⟩
            obtain rfl := hR1.symm
            clear hR1
            refine bg (fun w hs => ⟨trivial, trivial, trivial⟩) ?_
            refine tk rfl (PE.not rfl) rfl ?_
            exact Z6 () (by repeat' first | exact Sub.nil | apply Sub.cons | rfl | (simp [lk]; omega)) (fun w h => St.sub h)
           exact Zc
          refine Z8 ?_ ?_
          ·
           try rw [hmin]
           refine mkS rfl Z57 zl4 rfl rfl (Nat.le_refl _) ⟨by omega, by omega⟩ rfl (fun b296 => ?_)
           rw [Z2p]
           refine Sy.heap (fun w h => St.boolRows (l := List.replicate m2 false) (jn := []) h) ?_
           refine bg (fun w hs => ⟨(lhA [_, _, _] ZF rfl rfl rfl) w hs, (lhA (twl mill (.slice (some ⟨bm, 0, none⟩) 2 2)) Zd rfl rfl rfl) w hs, trivial⟩) ?_
           refine Z8 ?_ ?_
           ·
            try rw [hmin]
            refine mkS rfl Z2T zl3 rfl rfl (Nat.le_refl _) ⟨by omega, by omega⟩ rfl (fun b293 => ?_)
            rw [Z1k]
            refine Sy.heap (fun w h => St.intRows (l := List.replicate m2 0) h) ?_
            refine bg (fun w hs => ⟨(lhA [_, _, _] ZF rfl rfl rfl) w hs, (lhA (twl mill (.slice (some ⟨bm, 0, none⟩) 2 2)) Zd rfl rfl rfl) w hs, trivial⟩) ?_
            refine mkS rfl Z51 Z48 rfl rfl (Nat.le_refl _) ⟨by omega, by omega⟩ rfl (fun b299 => ?_)
            rw [Z0J]
            refine Sy.heap (fun w h => St.rows (sz := 5) (rows := Zt (List.replicate m ⟨⟨0, 0, 0⟩, 0, 0⟩)) (rest := []) (by rw [List.append_nil]; exact h) (Z05 _)) ?_
            refine bg (fun w hs => ⟨(lhA [_, _, _] ZF rfl rfl rfl) w hs, (lhA (twl mill (.slice (some ⟨bm, 0, none⟩) 2 2)) Zd rfl rfl rfl) w hs, trivial⟩) ?_
            refine cl rfl Z3N rfl rfl (Z0t m m2 bm b293 b296 b299 b301 hm (by omega) _ _) ?_
            rintro _ _ R1 ⟨rfl, rfl, hR1⟩
            obtain rfl := hR1.symm
            clear hR1
            refine bg (fun w hs => ⟨trivial, trivial, trivial⟩) ?_
            refine tk rfl (PE.not rfl) rfl ?_
            exact Z6 () (by repeat' first | exact Sub.nil | apply Sub.cons | rfl | (simp [lk]; omega)) (fun w h => St.sub h)
           refine Z8 ?_ ?_
           ·
            refine mkS rfl Z51 Z48 rfl rfl (Nat.le_refl _) ⟨by omega, by omega⟩ rfl (fun b299 => ?_)
            rw [Z0J]
            refine Sy.heap (fun w h => St.rows (sz := 5) (rows := Zt (List.replicate m ⟨⟨0, 0, 0⟩, 0, 0⟩)) (rest := []) (by rw [List.append_nil]; exact h) (Z05 _)) ?_
            refine bg (fun w hs => ⟨(lhA [_, _, _] ZF rfl rfl rfl) w hs, (lhA (twl mill (.slice (some ⟨bm, 0, none⟩) 2 2)) Zd rfl rfl rfl) w hs, trivial⟩) ?_
            try rw [hmin]
            refine mkS rfl Z2T zl3 rfl rfl (Nat.le_refl _) ⟨by omega, by omega⟩ rfl (fun b293 => ?_)
            rw [Z1k]
            refine Sy.heap (fun w h => St.intRows (l := List.replicate m2 0) h) ?_
            refine bg (fun w hs => ⟨(lhA [_, _, _] ZF rfl rfl rfl) w hs, (lhA (twl mill (.slice (some ⟨bm, 0, none⟩) 2 2)) Zd rfl rfl rfl) w hs, trivial⟩) ?_
            refine cl rfl Z3N rfl rfl (Z0t m m2 bm b293 b296 b299 b301 hm (by omega) _ _) ?_
            rintro _ _ R1 ⟨rfl, rfl, hR1⟩
            obtain rfl := hR1.symm
            clear hR1
            refine bg (fun w hs => ⟨trivial, trivial, trivial⟩) ?_
            refine tk rfl (PE.not rfl) rfl ?_
            exact Z6 () (by repeat' first | exact Sub.nil | apply Sub.cons | rfl | (simp [lk]; omega)) (fun w h => St.sub h)
           exact Zc
          refine Z8 ?_ ?_
          ·
           refine mkS rfl Z51 Z48 rfl rfl (Nat.le_refl _) ⟨by omega, by omega⟩ rfl (fun b299 => ?_)
           rw [Z0J]
           refine Sy.heap (fun w h => St.rows (sz := 5) (rows := Zt (List.replicate m ⟨⟨0, 0, 0⟩, 0, 0⟩)) (rest := []) (by rw [List.append_nil]; exact h) (Z05 _)) ?_
           refine bg (fun w hs => ⟨(lhA [_, _, _] ZF rfl rfl rfl) w hs, (lhA (twl mill (.slice (some ⟨bm, 0, none⟩) 2 2)) Zd rfl rfl rfl) w hs, trivial⟩) ?_
           refine Z8 ?_ ?_
           ·
            try rw [hmin]
            refine mkS rfl Z2T zl3 rfl rfl (Nat.le_refl _) ⟨by omega, by omega⟩ rfl (fun b293 => ?_)
            rw [Z1k]
            refine Sy.heap (fun w h => St.intRows (l := List.replicate m2 0) h) ?_
            refine bg (fun w hs => ⟨(lhA [_, _, _] ZF rfl rfl rfl) w hs, (lhA (twl mill (.slice (some ⟨bm, 0, none⟩) 2 2)) Zd rfl rfl rfl) w hs, trivial⟩) ?_
            try rw [hmin]
            refine mkS rfl Z57 zl4 rfl rfl (Nat.le_refl _) ⟨by omega, by omega⟩ rfl (fun b296 => ?_)
            rw [Z2p]
            refine Sy.heap (fun w h => St.boolRows (l := List.replicate m2 false) (jn := []) h) ?_
            refine bg (fun w hs => ⟨(lhA [_, _, _] ZF rfl rfl rfl) w hs, (lhA (twl mill (.slice (some ⟨bm, 0, none⟩) 2 2)) Zd rfl rfl rfl) w hs, trivial⟩) ?_
            refine cl rfl Z3N rfl rfl (Z0t m m2 bm b293 b296 b299 b301 hm (by omega) _ _) ?_
            rintro _ _ R1 ⟨rfl, rfl, hR1⟩
            obtain rfl := hR1.symm
            clear hR1
            refine bg (fun w hs => ⟨trivial, trivial, trivial⟩) ?_
            refine tk rfl (PE.not rfl) rfl ?_
            exact Z6 () (by repeat' first | exact Sub.nil | apply Sub.cons | rfl | (simp [lk]; omega)) (fun w h => St.sub h)
           refine Z8 ?_ ?_
           ·
            try rw [hmin]
            refine mkS rfl Z57 zl4 rfl rfl (Nat.le_refl _) ⟨by omega, by omega⟩ rfl (fun b296 => ?_)
            rw [Z2p]
            refine Sy.heap (fun w h => St.boolRows (l := List.replicate m2 false) (jn := []) h) ?_
            refine bg (fun w hs => ⟨(lhA [_, _, _] ZF rfl rfl rfl) w hs, (lhA (twl mill (.slice (some ⟨bm, 0, none⟩) 2 2)) Zd rfl rfl rfl) w hs, trivial⟩) ?_
            try rw [hmin]
            refine mkS rfl Z2T zl3 rfl rfl (Nat.le_refl _) ⟨by omega, by omega⟩ rfl (fun b293 => ?_)
            rw [Z1k]
            refine Sy.heap (fun w h => St.intRows (l := List.replicate m2 0) h) ?_
            refine bg (fun w hs => ⟨(lhA [_, _, _] ZF rfl rfl rfl) w hs, (lhA (twl mill (.slice (some ⟨bm, 0, none⟩) 2 2)) Zd rfl rfl rfl) w hs, trivial⟩) ?_
            refine cl rfl Z3N rfl rfl (Z0t m m2 bm b293 b296 b299 b301 hm (by omega) _ _) ?_
            rintro _ _ R1 ⟨rfl, rfl, hR1⟩
            obtain rfl := hR1.symm
            clear hR1
            refine bg (fun w hs => ⟨trivial, trivial, trivial⟩) ?_
            refine tk rfl (PE.not rfl) rfl ?_
            exact Z6 () (by repeat' first | exact Sub.nil | apply Sub.cons | rfl | (simp [lk]; omega)) (fun w h => St.sub h)
           exact Zc
          exact Zc
         exact Zc
        ·
         rintro ⟨⟩
         dsimp only
         refine Z5 rfl (fun hc10 => ?_) (fun hc10 => ?_)
         ·
          exact absurd hc10 (by simp)
         ·
          refine Z3 ?_
          refine Z1 [0, 1] rfl ?_
          refine sp rfl (PE.add rfl rfl (by omega)) rfl ?_
          refine sp rfl (PE.move rfl) rfl ?_
          exact Zb ⟨k + 1, by omega⟩ (by dsimp only; omega) (by repeat' first | exact Sub.nil | apply Sub.cons | rfl | (simp [lk]; omega)) (fun w h => St.sub (h.del b23))
       ·
        try simp only [decide_eq_true_eq, decide_eq_false_iff_not, Bool.and_eq_true, Bool.or_eq_true, Bool.not_eq_true', Int.not_le, Int.not_lt] at hc9
        
        refine Zk ?_
        refine Zl ?_
        refine Zl ?_
        refine ZH ?_
        refine Z0 ?_
        refine Z0 ?_
        refine Z1 [0, 1, 2] rfl ?_
        refine bsl (out := [_, _, _, _, _, _, _, _, _, _, _, _, _]) rfl Z46 zl3 rfl rfl rfl rfl rfl rfl (fun b305 => ?_)
        refine Sy.heap (fun w h => St.intRows (l := ([-9223372036854775808, -1, 0, 1, 2, 9, 10, 11, 14, 15, 1000, 1001, 9223372036854775807] : List Int)) h) ?_
        refine sp rfl (PE.lenSl Z0p rfl) rfl ?_
        refine sp rfl (PE.move rfl) rfl ?_
        refine Z7 ?_
        refine Zn (ι := {k : Nat // k ≤ 13}) (fun y => ⟨[(305, .slice (some ⟨b305, 0, none⟩) 13 13), (306, .int .i64 13), (307, .int .i64 y.1)], H, RowsA (some ⟨b305, 0, none⟩) 1 (Zh ([-9223372036854775808, -1, 0, 1, 2, 9, 10, 11, 14, 15, 1000, 1001, 9223372036854775807] : List Int)) :: R⟩) (fun y => 13 - y.1) ⟨0, Nat.zero_le _⟩ ?_ (fun y => ?_)
        ·
         exact Z0i (by repeat' first | exact Sub.nil | apply Sub.cons | rfl | (simp [lk]; omega)) (fun w h => St.sub h)
        ·
         obtain ⟨k, hk⟩ := y
         dsimp only at hk ⊢
         refine Z0 ?_
         refine Z1 [0] rfl ?_
         refine sp rfl (PE.lss rfl rfl) rfl ?_
         refine Z0 ?_
         refine Z5 rfl (fun hc11 => ?_) (fun hc11 => ?_)
         ·
          try simp only [decide_eq_true_eq, decide_eq_false_iff_not, Bool.and_eq_true, Bool.or_eq_true, Bool.not_eq_true', Int.not_le, Int.not_lt] at hc11
          obtain ⟨v, hv⟩ : ∃ v, ([-9223372036854775808, -1, 0, 1, 2, 9, 10, 11, 14, 15, 1000, 1001, 9223372036854775807] : List Int)[k]? = some v := ⟨_, List.getElem?_eq_getElem (show k < 13 by omega)⟩
          refine Z3 ?_
          refine Z0 ?_
          refine Z7 ?_
          refine Z0 ?_
          refine Z1 [0, 1, 2] rfl ?_
          refine sp rfl (PE.indexAddr Z0N rfl rfl (by omega) (by omega)) rfl ?_
          refine spL rfl rfl (lf0 sc3 (Z9s hv) rfl) rfl ?_
          refine sp rfl (PE.assign rfl) rfl ?_
          refine Z0 ?_
          refine Z1 [0, 1, 2, 3, 4, 5, 6, 7, 8, 9, 10, 11, 12, 13, 14, 15, 16, 17, 18, 19, 20, 21, 22, 23, 24, 25] rfl ?_
          refine sp rfl (PE.move rfl) rfl ?_
          refine bsl (out := [_, _, _]) rfl Z46 zl3 rfl rfl rfl rfl rfl rfl (fun b312 => ?_)
          refine bsl (out := [_, _, _]) rfl Z46 zl3 rfl rfl rfl rfl rfl rfl (fun b313 => ?_)
          refine Sy.heap (fun w h => St.intRows (l := [2, 7, 5]) (h.pull b312)) ?_
          refine Sy.heap (fun w h => St.intRows (l := [2, 4, 4]) (h.pull b313)) ?_
          refine cl rfl Z70 rfl rfl (Z0A (v) [2, 7, 5] [2, 4, 4] (some ⟨b312, 0, none⟩) (some ⟨b313, 0, none⟩) 3 3 (Nat.le_of_ble_eq_true rfl) (Nat.le_of_ble_eq_true rfl) _ _) ?_
          rintro _ _ R1 ⟨rfl, rfl, hR1⟩
          obtain rfl := hR1.symm
          clear hR1
          refine sp rfl (PE.not rfl) rfl ?_
          refine sp rfl (PE.move rfl) rfl ?_
          refine Zg (t := 316) rfl (fun g316 => ?_) (fun g316 => ?_)
          ·
           exact absurd g316 (by simp)
          ·
           refine spG rfl rfl rfl rfl (PE.move rfl) rfl ?_
           refine ZbA (out := [_, _, _]) rfl rfl rfl rfl Z46 zl3 rfl rfl rfl rfl rfl rfl (fun b318 => ?_)
           refine ZbA (out := [_, _, _]) rfl rfl rfl rfl Z46 zl3 rfl rfl rfl rfl rfl rfl (fun b319 => ?_)
           refine Sy.heap (fun w h => St.intRows (l := [2, v, 5]) (h.pull b318)) ?_
           refine Sy.heap (fun w h => St.intRows (l := [2, 4, 4]) (h.pull b319)) ?_
           refine clG rfl rfl rfl rfl Z70 rfl rfl (Z0A (10) [2, v, 5] [2, 4, 4] (some ⟨b318, 0, none⟩) (some ⟨b319, 0, none⟩) 3 3 (Nat.le_of_ble_eq_true rfl) (Nat.le_of_ble_eq_true rfl) _ _) ?_
           rintro _ _ R1 ⟨rfl, rfl, hR1⟩
           obtain rfl := hR1.symm
           clear hR1
           refine spG rfl rfl rfl rfl (PE.not rfl) rfl ?_
           refine sp rfl (PE.pick rfl rfl rfl) rfl ?_
           refine sp rfl (PE.move rfl) rfl ?_
           refine Zg (t := 323) rfl (fun g323 => ?_) (fun g323 => ?_)
           ·
            exact absurd g323 (by simp)
           ·
            refine ZbA (out := [_, _, _]) rfl rfl rfl rfl Z46 zl3 rfl rfl rfl rfl rfl rfl (fun b324 => ?_)
            refine spG rfl rfl rfl rfl (PE.move rfl) rfl ?_
            refine ZbA (out := [_, _, _]) rfl rfl rfl rfl Z46 zl3 rfl rfl rfl rfl rfl rfl (fun b326 => ?_)
            refine Sy.heap (fun w h => St.intRows (l := [2, 7, 5]) (h.pull b324)) ?_
            refine Sy.heap (fun w h => St.intRows (l := [2, 4, v]) (h.pull b326)) ?_
            refine clG rfl rfl rfl rfl Z70 rfl rfl (Z0A (10) [2, 7, 5] [2, 4, v] (some ⟨b324, 0, none⟩) (some ⟨b326, 0, none⟩) 3 3 (Nat.le_of_ble_eq_true rfl) (Nat.le_of_ble_eq_true rfl) _ _) ?_
            rintro _ _ R1 ⟨rfl, rfl, hR1⟩
            obtain rfl := hR1.symm
            clear hR1
            refine spG rfl rfl rfl rfl (PE.not rfl) rfl ?_
            refine sp rfl (PE.pick rfl rfl rfl) rfl ?_
            refine sp rfl (PE.move rfl) rfl ?_
            refine Zg (t := 330) rfl (fun g330 => ?_) (fun g330 => ?_)
            ·
             exact absurd g330 (by simp)
            ·
             refine ZbA (out := [_, _, _]) rfl rfl rfl rfl Z46 zl3 rfl rfl rfl rfl rfl rfl (fun b331 => ?_)
             refine spG rfl rfl rfl rfl (PE.move rfl) rfl ?_
             refine ZbA (out := [_, _, _]) rfl rfl rfl rfl Z46 zl3 rfl rfl rfl rfl rfl rfl (fun b333 => ?_)
             refine Sy.heap (fun w h => St.intRows (l := [2, 7, 5]) (h.pull b331)) ?_
             refine Sy.heap (fun w h => St.intRows (l := [2, v, 4]) (h.pull b333)) ?_
             refine clG rfl rfl rfl rfl Z70 rfl rfl (Z0A (11) [2, 7, 5] [2, v, 4] (some ⟨b331, 0, none⟩) (some ⟨b333, 0, none⟩) 3 3 (Nat.le_of_ble_eq_true rfl) (Nat.le_of_ble_eq_true rfl) _ _) ?_
             rintro _ _ R1 ⟨rfl, rfl, hR1⟩
             obtain rfl := hR1.symm
             clear hR1
             refine spG rfl rfl rfl rfl (PE.not rfl) rfl ?_
             refine sp rfl (PE.pick rfl rfl rfl) rfl ?_
             refine Z5 rfl (fun hc12 => ?_) (fun hc12 => ?_)
             ·
              exact absurd hc12 (by simp)
             ·
              refine Z3 ?_
              refine Z1 [0, 1] rfl ?_
              refine sp rfl (PE.add rfl rfl (by omega)) rfl ?_
              refine sp rfl (PE.move rfl) rfl ?_
              exact Zb ⟨k + 1, by omega⟩ (by dsimp only; omega) (by repeat' first | exact Sub.nil | apply Sub.cons | rfl | (simp [lk]; omega)) (fun w h => St.sub h)
         ·
          try simp only [decide_eq_true_eq, decide_eq_false_iff_not, Bool.and_eq_true, Bool.or_eq_true, Bool.not_eq_true', Int.not_le, Int.not_lt] at hc11
          
          refine Zk ?_
          refine Zl ?_
          refine Zl ?_
          refine ZH ?_
          refine Z0 ?_
          refine Z0 ?_
          refine Z1 [0] rfl ?_
          refine sp rfl (PE.move rfl) rfl ?_
          refine Z7 ?_
          refine Zn (ι := {n : Nat // n ≤ 11}) (fun y => ⟨[(338, .int .i64 y.1)], H, R⟩) (fun y => 11 - y.1) ⟨0, Nat.zero_le _⟩ ?_ (fun y => ?_)
          ·
           exact Z0i (by repeat' first | exact Sub.nil | apply Sub.cons | rfl | (simp [lk]; omega)) (fun w h => St.sub h)
          ·
           obtain ⟨n, hn⟩ := y
           dsimp only at hn ⊢
           refine Z0 ?_
           refine Z1 [0] rfl ?_
           refine sp rfl (PE.lss rfl rfl) rfl ?_
           refine Z0 ?_
           refine Z5 rfl (fun hc13 => ?_) (fun hc13 => ?_)
           ·
            try simp only [decide_eq_true_eq, decide_eq_false_iff_not, Bool.and_eq_true, Bool.or_eq_true, Bool.not_eq_true', Int.not_le, Int.not_lt] at hc13
            
            refine Z3 ?_
            refine Z0 ?_
            refine Z7 ?_
            refine Z0 ?_
            refine Z1 [0, 1] rfl ?_
            refine sp rfl (PE.move rfl) rfl ?_
            refine sp rfl (PE.assign rfl) rfl ?_
            refine Z0 ?_
            refine Z1 [0, 1, 2] rfl ?_
            refine sp rfl (PE.move rfl) rfl ?_
            refine mkS rfl Z2T zl3 rfl rfl (Nat.le_refl _) ⟨by omega, by omega⟩ rfl (fun b342 => ?_)
            rw [Z1k]
            refine sp rfl (PE.assign rfl) rfl ?_
            refine Z0 ?_
            refine Z0 ?_
            refine Z1 [0, 1, 2] rfl ?_
            refine sp rfl (PE.move rfl) rfl ?_
            refine sp rfl (PE.lenSl Z0p rfl) rfl ?_
            refine sp rfl (PE.move rfl) rfl ?_
            refine Z7 ?_
            refine Zn (ι := {x : Nat × List Int // x.1 ≤ n ∧ x.2.length = n}) (fun x => ⟨[(26, .int .i64 n), (27, .slice (some ⟨b342, 0, none⟩) n n), (338, .int .i64 n), (344, .int .i64 n), (345, .int .i64 x.1.1)], (b342, cel 3 (ZT x.1.2)) :: H, R⟩) (fun x => n - x.1.1) ⟨(0, List.replicate n 0), Nat.zero_le _, List.length_replicate⟩ ?_ (fun x => ?_)
            ·
             exact Z0i (by repeat' first | exact Sub.nil | apply Sub.cons | rfl | (simp [lk]; omega)) (fun _ h => h)
            ·
             obtain ⟨⟨i, l⟩, hi, hl⟩ := x
             dsimp only at hi hl ⊢
             refine Z0 ?_
             refine Z1 [0] rfl ?_
             refine sp rfl (PE.lss rfl rfl) rfl ?_
             refine Z0 ?_
             refine Z5 rfl (fun hc14 => ?_) (fun hc14 => ?_)
             ·
              try simp only [decide_eq_true_eq, decide_eq_false_iff_not, Bool.and_eq_true, Bool.or_eq_true, Bool.not_eq_true', Int.not_le, Int.not_lt] at hc14
              have hmb := Z99 (a := (i : Int)) (b := (n : Int)) (A := 11) (B := 11) (by omega) (by omega) (by omega) (by omega)
              refine Z3 ?_
              refine Z0 ?_
              refine Z7 ?_
              refine Z0 ?_
              refine Z1 [0, 1] rfl ?_
              refine sp rfl (PE.move rfl) rfl ?_
              refine sp rfl (PE.assign rfl) rfl ?_
              refine Z1 [0, 1, 2, 3, 4, 5, 6, 7] rfl ?_
              refine sp rfl (PE.move rfl) rfl ?_
              refine sp rfl (PE.move rfl) rfl ?_
              refine sp rfl (PE.move rfl) rfl ?_
              refine sp rfl (PE.move rfl) rfl ?_
              refine sp rfl (PE.mul rfl rfl (by omega)) rfl ?_
              refine sp rfl (PE.rem rfl rfl (by omega)) rfl ?_
              refine sp rfl (PE.indexAddr Z0N rfl rfl (by omega) (by omega)) rfl ?_
              refine Z2R (l' := ZT (l.set i ((i : Int) * n % 5))) rfl rfl rfl cn3 rfl rfl rfl (Z4B (by omega) (by omega)) (by rw [Zp]; show 0 + ((i : Nat) : Int).toNat * 1 + 1 ≤ _; omega) ?_
              refine Z1 [0, 1] rfl ?_
              refine sp rfl (PE.add rfl rfl (by omega)) rfl ?_
              refine sp rfl (PE.move rfl) rfl ?_
              exact Zb ⟨(i + 1, l.set i ((i : Int) * n % 5)), by omega, by simp [hl]⟩ (by dsimp only; omega) (by repeat' first | exact Sub.nil | apply Sub.cons | rfl | (simp [lk]; omega)) (fun _ h => h)
             ·
              try simp only [decide_eq_true_eq, decide_eq_false_iff_not, Bool.and_eq_true, Bool.or_eq_true, Bool.not_eq_true', Int.not_le, Int.not_lt] at hc14
              refine Sy.heap (fun w h => St.intRows (l := l) (h.pull b342)) ?_
              have hc := fun (s : Int) (sh : List Int) (a2 : Option Addr) (c2 : Nat) hl2 => Z0A s l sh (some ⟨b342, 0, none⟩) a2 n c2 (by omega) hl2
              rw [hl] at hc
              have hcs := fun (s : Int) (H : Zj) (R : Z9) [hR : MemRows (some ⟨b342, 0, none⟩) 1 (Zh l) R] => Z0A s l l (some ⟨b342, 0, none⟩) (some ⟨b342, 0, none⟩) n n (by omega) (by omega) H R
              rw [hl] at hcs
              refine Zk ?_
              refine Zl ?_
              refine Zl ?_
              refine ZH ?_
              refine Z0 ?_
              refine Z1 [0, 1, 2, 3, 4, 5, 6, 7, 8, 9, 10, 11, 12, 13, 14, 15, 16, 17, 18, 19, 20] rfl ?_
              refine sp rfl (PE.move rfl) rfl ?_
              refine sp rfl (PE.mul rfl rfl (by omega)) rfl ?_
              refine sp rfl (PE.move rfl) rfl ?_
              refine sp rfl (PE.move rfl) rfl ?_
              refine cl rfl Z70 rfl rfl (hcs (2 * (n : Int)) _ _) ?_
              rintro _ _ R1 ⟨rfl, rfl, hR1⟩
              obtain rfl := hR1.symm
              clear hR1
              refine sp rfl (PE.not rfl) rfl ?_
              refine sp rfl (PE.move rfl) rfl ?_
              refine Zg (t := 362) rfl (fun g362 => ?_) (fun g362 => ?_)
              ·
               exact absurd g362 (by simp)
              ·
               refine spG rfl rfl rfl rfl (PE.move rfl) rfl ?_
               refine spG rfl rfl rfl rfl (PE.move rfl) rfl ?_
               refine spG rfl rfl rfl rfl (PE.move rfl) rfl ?_
               refine Zfy rfl rfl rfl rfl Z2T zl3 rfl rfl (Nat.le_refl _) ⟨by omega, by omega⟩ rfl (fun b366 => ?_)
               rw [Z1k]
               refine Sy.heap (fun w h => St.intRows (l := List.replicate n 0) (h.pull b366)) ?_
               have hc2 := hc n (List.replicate n 0) (some ⟨b366, 0, none⟩) n (by rw [List.length_replicate]; omega)
               rw [List.length_replicate] at hc2
               refine clG rfl rfl rfl rfl Z70 rfl rfl (hc2 _ _) ?_
               rintro _ _ R1 ⟨rfl, rfl, hR1⟩
               obtain rfl := hR1.symm
               clear hR1
               refine spG rfl rfl rfl rfl (PE.not rfl) rfl ?_
               refine sp rfl (PE.pick rfl rfl rfl) rfl ?_
               refine sp rfl (PE.move rfl) rfl ?_
               refine Zg (t := 370) rfl (fun g370 => ?_) (fun g370 => ?_)
               ·
                exact absurd g370 (by simp)
               ·
                refine spG rfl rfl rfl rfl (PE.move rfl) rfl ?_
                refine spG rfl rfl rfl rfl (PE.move rfl) rfl ?_
                refine Zfy (l := 8) (c := 8) rfl rfl rfl rfl Z2T zl3 rfl rfl (Nat.le_refl _) ⟨by omega, by omega⟩ rfl (fun b373 => ?_)
                rw [Z1k]
                refine Sy.heap (fun w h => St.intRows (l := List.replicate 8 0) (h.pull b373)) ?_
                refine clG rfl rfl rfl rfl Z70 rfl rfl (hc n (List.replicate 8 0) (some ⟨b373, 0, none⟩) 8 (by decide) _ _) ?_
                rintro _ _ R1 ⟨rfl, rfl, hR1⟩
                obtain rfl := hR1.symm
                clear hR1
                refine spG rfl rfl rfl rfl (PE.not rfl) rfl ?_
                refine sp rfl (PE.pick rfl rfl rfl) rfl ?_
                refine Z5 rfl (fun hc15 => ?_) (fun hc15 => ?_)
                ·
                 exact absurd hc15 (by simp)
                ·
                 refine Z3 ?_
                 refine Z1 [0, 1] rfl ?_
                 refine sp rfl (PE.add rfl rfl (by omega)) rfl ?_
                 refine sp rfl (PE.move rfl) rfl ?_
                 exact Zb ⟨n + 1, by omega⟩ (by dsimp only; omega) (by repeat' first | exact Sub.nil | apply Sub.cons | rfl | (simp [lk]; omega)) (fun w h => St.sub h)
           ·
            try simp only [decide_eq_true_eq, decide_eq_false_iff_not, Bool.and_eq_true, Bool.or_eq_true, Bool.not_eq_true', Int.not_le, Int.not_lt] at hc13
            
            refine Zk ?_
            refine Zl ?_
            refine Zl ?_
            refine ZH ?_
            refine Z0 ?_
            refine Z1 [0, 1] rfl ?_
            refine cl rfl Z1f rfl rfl (Z00 _ _) ?_
            rintro _ _ R1 ⟨rfl, rfl, hR1⟩
            obtain rfl := hR1.symm
            clear hR1
            refine sp rfl (PE.assign rfl) rfl ?_
            refine Z4 ?_
            exact Z2 (vs := [_]) rfl (.cons (RV.tmp rfl) .nil) rfl ⟨rfl, rfl, rfl⟩ drp
end Go.Proofs.YthhdgeibokecjaaGreat.Bd
