/- Walks of the functions of the program, and the laws that join them: what the last theorem of this claim needs, in order. -/
import Derived.Test.YthbjpnmclokinaaGreatxa5
namespace Go.Proofs.YthbjpnmclokinaaGreat
set_option linter.unusedSimpArgs false
set_option linter.unusedVariables false
open Go
theorem Zcr : cal Tryz.prog 11 = true := by kernel_rfl
theorem Zdj : cal Tryz.prog 129 = true := by kernel_rfl
theorem Zbw : cal Tryz.prog 132 = true := by kernel_rfl
theorem Zc1 : cal Tryz.prog 133 = true := by kernel_rfl
theorem Zc8 : cal Tryz.prog 14 = true := by kernel_rfl
theorem Zcg : cal Tryz.prog 160 = true := by kernel_rfl
theorem Zbv : cal Tryz.prog 169 = true := by kernel_rfl
theorem Zce : cal Tryz.prog 23 = true := by kernel_rfl
theorem ZdI : cal Tryz.prog 54 = true := by kernel_rfl
theorem ZaY : cal Tryz.prog 55 = true := by kernel_rfl
theorem Zee : cal Tryz.prog 56 = true := by kernel_rfl
theorem Zc7 : cal Tryz.prog 58 = true := by kernel_rfl
theorem ZbU : cal Tryz.prog 59 = true := by kernel_rfl
theorem ZbO : cal Tryz.prog 64 = true := by kernel_rfl
theorem Zcf : cal Tryz.prog 66 = true := by kernel_rfl
theorem ZdZ : Z6w Tryz.prog 172 = some .u64 := by kernel_rfl
theorem ik5 : Z6w Tryz.prog 5 = some .u8 := by kernel_rfl
theorem Zeb : Zab Tryz.prog 9 = true := by kernel_rfl
theorem Ze9 : (Tryz.prog.underlying 193).isSome = true := by kernel_rfl
def nn (l : List Int) (k : Nat) : Int := l.getD k 0
theorem Z9D {l : List Int} {i j : Nat} {v : Int} (h : i < l.length) : nn (l.set i v) j = bif i == j then v else nn l j := by
  unfold nn
  rw [List.getD_eq_getElem?_getD, List.getD_eq_getElem?_getD, List.getElem?_set]
  by_cases e : i = j
  · subst e; rw [if_pos rfl, if_pos h]; simp
  · rw [if_neg e, show (i == j) = false from by simpa using e]; rfl
structure InsI (l xs : List Int) (i j : Nat) : Prop where
  perm : xs.Perm l
  le : j ≤ i
  at_ : ∀ p q, p < q → q ≤ i → q ≠ j → nn xs p ≤ nn xs q
structure SrtI (l xs : List Int) (i : Nat) : Prop where
  perm : xs.Perm l
  at_ : ∀ p q, p < q → q < i → nn xs p ≤ nn xs q
theorem SrtI.start (l : List Int) : SrtI l l 1 := ⟨.refl _, fun p q h1 h2 => by omega⟩
theorem SrtI.ins {l xs : List Int} {i : Nat} (h : SrtI l xs i) : InsI l xs i i := ⟨h.perm, Nat.le_refl _, fun p q h1 h2 h3 => h.at_ p q h1 (by omega)⟩
theorem InsI.done {l xs : List Int} {i j : Nat} (h : InsI l xs i j) (hj : j = 0 ∨ nn xs (j - 1) ≤ nn xs j) : SrtI l xs (i + 1) := ⟨h.perm, fun p q h1 h2 => by
  by_cases hq : q = j
  · subst hq
    have h3 : nn xs (q - 1) ≤ nn xs q := hj.resolve_left (by omega)
    by_cases hp : p = q - 1
    · subst hp; exact h3
    · have := h.at_ p (q - 1) (by omega) (by omega) (by omega); omega
  · exact h.at_ p q h1 (by omega) hq⟩
theorem Zae {xs : List Int} {k : Nat} (h : k < xs.length) : nn xs k = xs[k] := by unfold nn; rw [List.getD_eq_getElem?_getD, List.getElem?_eq_getElem h]; rfl
theorem InsI.swap {l xs : List Int} {i j : Nat} (h : InsI l xs i j) (hj : 0 < j) (hi : i < xs.length) (hlt : nn xs j < nn xs (j - 1)) : InsI l ((xs.set j (nn xs (j - 1))).set (j - 1) (nn xs j)) i (j - 1) := by
  have hle := h.le
  have hv : ∀ q, nn ((xs.set j (nn xs (j - 1))).set (j - 1) (nn xs j)) q = if q = j - 1 then nn xs j else if q = j then nn xs (j - 1) else nn xs q := fun q => by
    rw [Z9D (by rw [List.length_set]; omega), Z9D (by omega)]
    by_cases h1 : q = j - 1
    · subst h1; simp
    · have e1 : (j - 1 == q) = false := by simp; omega
      rw [e1, if_neg h1]
      by_cases h2 : q = j
      · subst h2; simp
      · have e2 : (j == q) = false := by simp; omega
        rw [e2, if_neg h2]; rfl
  refine ⟨?_, by omega, fun p q h1 h2 h3 => ?_⟩
  · have e := @List.set_set_perm Int xs j (j - 1) (by omega) (by omega)
    rw [Zae (k := j - 1) (by omega), Zae (k := j) (by omega)]
    exact e.trans h.perm
  · rw [hv p, hv q]
    have A := h.at_ p q h1 h2
    have B := h.at_ p (j - 1)
    have C := h.at_ j q
    have E := h.at_ (j - 1) q
    rw [if_neg h3]
    by_cases hq : q = j
    · rw [if_pos hq]
      split
      · omega
      · rw [if_neg (by omega)]; exact B (by omega) (by omega) (by omega)
    · rw [if_neg hq]
      split
      · exact C (by omega) h2 hq
      · split
        · exact E (by omega) h2 hq
        · exact A hq
theorem Z5d {xs : List Int} {junk : List Value} {k : Nat} (h : k < xs.length) : (Zg xs ++ junk)[0 + ((k : Nat) : Int).toNat * 1]? = some (.int .i64 (nn xs k)) := by
  rw [show 0 + ((k : Nat) : Int).toNat * 1 = k by omega, List.getElem?_append_left (by rw [Zb]; exact h), Zae h]
  simp [Zg, h]
theorem Zd3 (x y : Int) (H : Z9) (R : Z5) :
    FnV Tryz.prog 159 [.int .i64 x, .int .i64 y] H R (.bool (decide (x < y))) := by
 refine Zf Tryz.func159 rfl Tryz.ntmps159 rfl ?_
 refine sqt 1 rfl (pur 1 rfl (sqt 13 rfl (pur 1 rfl ?_)))
 refine clV rfl Zdm rfl rfl (Zat x _ _) ?_
 refine pur 11 rfl (Z6 ?_)
 exact rtA rfl rfl rfl ⟨rfl, rfl, rfl⟩ drp
theorem ZcY (l : List Int) (b cap : Nat) (junk : List Value) (hl : l.length ≤ 12) (H : Z9) (R : Z5) :
    Fn Tryz.prog 160 [.slice (some ⟨b, 0, none⟩) l.length cap, .int .i64 0, .int .i64 l.length] ((b, cel 3 (Zg l ++ junk)) :: H) R (fun v H' R' => ∃ ys, SrtI l ys l.length ∧ v = .tuple #[] ∧ H' = (b, cel 3 (Zg ys ++ junk)) :: H ∧ R' = R) := by
 refine Zf Tryz.func160 rfl Tryz.ntmps160 rfl ?_
 refine sqt 3 rfl (pur 1 rfl (sp rfl (PE.add rfl rfl (by omega)) rfl (pur 1 rfl (Z3 ?_))))
 refine Zd (ι := {x : Nat × List Int // 1 ≤ x.1 ∧ x.1 ≤ 13 ∧ SrtI l x.2 x.1}) (fun x => ⟨[(0, .slice (some ⟨b, 0, none⟩) l.length cap), (1, .int .i64 0), (2, .int .i64 l.length), (6, .int .i64 x.1.1)], (b, cel 3 (Zg x.1.2 ++ junk)) :: H, R⟩) (fun x => l.length - x.1.1) ⟨(1, l), by omega, by omega, SrtI.start l⟩ ?_ (fun x => ?_)
 exact Zj idH
 ·
  obtain ⟨⟨i, xs⟩, hi1, hi2, hs⟩ := x
  dsimp only at hi1 hi2 hs ⊢
  have hxl := hs.perm.length_eq
  refine Z0 (sqt 3 rfl (pur 3 rfl ?_))
  refine Z1 rfl ?_ ?_ <;> intro hc0 <;> try simp only [cS] at hc0
  ·
   refine Z2 (Z0 (Z3 (sqt 2 rfl (pur 2 rfl (Z3 ?_)))))
   refine Zd (ι := {x : Nat × List Int // InsI l x.2 i x.1}) (fun x => ⟨[(0, .slice (some ⟨b, 0, none⟩) l.length cap), (1, .int .i64 0), (2, .int .i64 l.length), (6, .int .i64 i), (7, .int .i64 x.1.1)], (b, cel 3 (Zg x.1.2 ++ junk)) :: H, R⟩) (fun x => x.1.1) ⟨(i, xs), hs.ins⟩ ?_ (fun x => ?_)
   exact Zj idH
   ·
    obtain ⟨⟨j, ys⟩, hy⟩ := x
    dsimp only at hy ⊢
    have hyl := hy.perm.length_eq
    have hyj := hy.le
    refine Z0 (Z0 ?_)
    refine Ze [0, 0, 3, 7, 15, 15, 63, 127, 15, 15, 527, 1807, 3855, 8191, 16383] (tks 0 7 (.ld 7 (tks 8 4 (.ld 12 (.big 13 (.tk 14 .done)))))) Zu (by kernel_rfl) ?_
    refine Zp 4 rfl ?_
    refine Zv 19 rfl ?_ ?_ <;> intro g19
    ·
     try simp only [cS] at g19
     refine Zp 2 rfl ?_
     refine tkG rfl rfl rfl rfl (PE.indexAddr Z1l rfl rfl (by omega) (by omega)) rfl ?_
     refine ldG rfl rfl rfl rfl rfl (lh sc3 rfl (Z5d (by omega))) rfl (Zp 2 rfl ?_)
     refine tkG rfl rfl rfl rfl (PE.sub rfl rfl (by omega)) rfl ?_
     rw [show (j : Int) - 1 = ((j - 1 : Nat) : Int) from by omega]
     refine tkG rfl rfl rfl rfl (PE.indexAddr Z1l rfl rfl (by omega) (by omega)) rfl ?_
     refine ldG rfl rfl rfl rfl rfl (lh sc3 rfl (Z5d (by omega))) rfl ?_
     refine Z8t rfl rfl rfl rfl Zc0 rfl rfl (Zd3 _ _ _ _) ?_
     refine bgT (Zp 1 rfl ?_)
     refine Z1 rfl ?_ ?_ <;> intro hc1 <;> try simp only [cS] at hc1
     ·
      refine Z2 (Z0 (Z3 ?_))
      refine Ze [0, 0, 0, 0, 8, 0, 0, 64, 224, 480, 0, 0, 3072, 7168, 16355, 32739, 65535, 131071] (tks 0 9 (.ld 9 (tks 10 3 (.ld 13 (.tk 14 (.big 15 (.tk 16 (.big 17 .done)))))))) Zu (by kernel_rfl) ?_
      refine Zp 4 rfl (tk rfl (PE.sub rfl rfl (by omega)) rfl (Zp 2 rfl (tk rfl (PE.sub rfl rfl (by omega)) rfl ?_)))
      rw [show (j : Int) - 1 = ((j - 1 : Nat) : Int) from by omega]
      refine tk rfl (PE.indexAddr Z1l rfl rfl (by omega) (by omega)) rfl (ld rfl rfl (lh sc3 rfl (Z5d (by omega))) rfl (Zp 2 rfl (tk rfl (PE.indexAddr Z1l rfl rfl (by omega) (by omega)) rfl (ld rfl rfl (lh sc3 rfl (Z5d (by omega))) rfl (tk rfl (PE.indexAddr Z1l rfl rfl (by omega) (by omega)) rfl ?_)))))
      refine ZN (l' := Zg ((ys).set j (nn ys (j - 1))) ++ junk) rfl rfl rfl cn3 rfl rfl rfl (Z3I (show j < ys.length by omega) _) (by rw [List.length_append, Zb]; show 0 + ((j : Nat) : Int).toNat * 1 + 1 ≤ _; have := (show j < ys.length by omega); omega) ?_
      refine bgT (tk rfl (PE.indexAddr Z1l rfl rfl (by omega) (by omega)) rfl ?_)
      refine ZN (l' := Zg ((ys.set j (nn ys (j - 1))).set (j - 1) (nn ys j)) ++ junk) rfl rfl rfl cn3 rfl rfl rfl (Z3I (show j - 1 < (ys.set j (nn ys (j - 1))).length by rw [List.length_set]; omega) _) (by rw [List.length_append, Zb]; show 0 + (((j - 1) : Nat) : Int).toNat * 1 + 1 ≤ _; have := (show j - 1 < (ys.set j (nn ys (j - 1))).length by rw [List.length_set]; omega); omega) ?_
      refine bgT (sqr 3 rfl (pur 1 rfl (sp rfl (PE.sub rfl rfl (by omega)) rfl (pur 1 rfl ?_))))
      rw [show (j : Int) - 1 = ((j - 1 : Nat) : Int) from by omega]
      exact Z7 ⟨(j - 1, (ys.set j (nn ys (j - 1))).set (j - 1) (nn ys j)), hy.swap (by omega) (by omega) (by omega)⟩ idH
     have hfd := hy.done (.inr (by omega))
     refine Z8 (Za (Za (Zk (sqr 3 rfl (pur 1 rfl (sp rfl (PE.add rfl rfl (by omega)) rfl (pur 1 rfl ?_)))))))
     exact Z7 ⟨(i + 1, ys), by omega, by omega, hfd⟩ idH
    try simp only [cS] at g19
    have hfd := hy.done (.inl (by omega))
    refine Zp 3 rfl ?_
    refine ldN rfl rfl rfl rfl rfl rfl rfl rfl ?_
    refine Zp 4 rfl ?_
    refine ldN rfl rfl rfl rfl rfl rfl rfl rfl ?_
    refine spN rfl rfl rfl rfl rfl rfl rfl rfl ?_
    refine bgT (Zp 1 rfl ?_)
    refine Zx rfl ?_
    refine Z8 (Za (Za (Zk (sqr 3 rfl (pur 1 rfl (sp rfl (PE.add rfl rfl (by omega)) rfl (pur 1 rfl ?_)))))))
    exact Z7 ⟨(i + 1, ys), by omega, by omega, hfd⟩ idH
  have hfin : SrtI l xs l.length := ⟨hs.perm, fun p q h1 h2 => hs.at_ p q h1 (by omega)⟩
  refine Z8 (Za (Za (Zk ?_)))
  exact Z1X (vs := []) rfl .nil rfl ⟨xs, hfin, rfl, rfl, rfl⟩ idH
theorem Zdo (H : Z9) (R : Z5) :
    FnV Tryz.prog 160 [.slice none 0 0, .int .i64 0, .int .i64 (([] : List Int).length : Nat)] H R (.tuple #[]) := by
 refine Zf Tryz.func160 rfl Tryz.ntmps160 rfl ?_
 refine sqt 3 rfl (pur 1 rfl (sp rfl (PE.add rfl rfl (by omega)) rfl (pur 1 rfl (Z3 ?_))))
 refine Zd (ι := Unit) (fun _ => ⟨[(2, .int .i64 (([] : List Int).length : Nat)), (6, .int .i64 1)], H, R⟩) (fun x => 0) () ?_ (fun x => ?_)
 exact Zj idH
 refine Z0 (sqt 3 rfl (pur 3 rfl ?_))
 refine Z1 rfl ?_ ?_ <;> intro hc0
 exact absurd hc0 (by simp)
 refine Z8 (Za (Za (Zk ?_)))
 exact Z1X (vs := []) rfl .nil rfl ⟨rfl, rfl, rfl⟩ idH
theorem ZdQ (l : List Int) (o : OSl 3 1 (Z4 l)) (hl : l.length ≤ 12) (H : Z9) (R : Z5) : Fn Tryz.prog 160 [o.fs, .int .i64 0, .int .i64 l.length] (o.G ++ H) R (fun v H' R' => ∃ ys, ∃ o' : OSl 3 1 (Z4 ys), SrtI l ys l.length ∧ o'.fs = o.fs ∧ v = .tuple #[] ∧ H' = o'.G ++ H ∧ R' = R) := by
  have hir : (Z4 l).length = l.length := List.length_map _
  rcases o.is with ⟨h1, h2, h3⟩ | ⟨b, cap, junk, h2, h3, hj, hc, hm⟩
  · have hx : l = [] := List.map_eq_nil_iff.1 h1
    subst hx
    rw [h2, h3]
    exact Fn.mono (Zdo H R) (by rintro v H' R' ⟨rfl, rfl, rfl⟩; exact ⟨[], OSl.nil _ _, ⟨.refl _, fun p q h4 h5 => by simp at h5⟩, rfl, rfl, rfl, rfl⟩)
  · rw [hir] at h2 hj hc
    rw [h2, h3, ZU]
    exact Fn.mono (ZcY l b cap junk hl H R) (by
      rintro v H' R' ⟨ys, hs, rfl, rfl, rfl⟩
      have hyl := hs.perm.length_eq
      have hyi : (Z4 ys).length = l.length := by rw [List.length_map, hyl]
      exact ⟨ys, ⟨.slice (some ⟨b, 0, none⟩) (Z4 ys).length cap, [(b, cel 3 ((Z4 ys).flatten ++ junk))], Z5K _, .inr ⟨b, cap, junk, rfl, rfl, by rw [hyi]; exact hj, by rw [hyi]; exact hc, hm⟩⟩, hs, congrArg (fun q => Value.slice (some ⟨b, 0, none⟩) q cap) hyi, rfl, congrArg (fun q => (b, cel 3 (q ++ junk)) :: H) (ZU ys).symm, rfl⟩)
theorem ZdW (l : List Int) (o : OSl 3 1 (Z4 l)) (hl : l.length ≤ 12) (z : Int) (H : Z9) (R : Z5) :
    Fn Tryz.prog 132 [o.fs, .int .i64 0, .int .i64 l.length, .int .i64 z] (o.G ++ H) R (fun v H' R' => ∃ ys, ∃ o' : OSl 3 1 (Z4 ys), SrtI l ys l.length ∧ o'.fs = o.fs ∧ v = .tuple #[] ∧ H' = o'.G ++ H ∧ R' = R) := by
 refine Zf Tryz.func132 rfl Tryz.ntmps132 rfl ?_
 refine sqt 1 rfl (pur 1 rfl (sqt 1 rfl (pur 1 rfl (Z3 ?_))))
 refine Zd (ι := Unit) (fun _ => ⟨[(0, o.fs), (1, .int .i64 0), (2, .int .i64 l.length)], o.G ++ H, R⟩) (fun x => 0) () ?_ (fun x => ?_)
 exact Zj idH
 refine Z3 (sqt 4 rfl (pur 2 rfl (sp rfl (PE.sub rfl rfl (by omega)) rfl (pur 1 rfl (Z0 (sqt 2 rfl (pur 2 rfl ?_)))))))
 refine Z1 rfl ?_ ?_ <;> intro hc0
 refine sqt 4 rfl (pur 3 rfl ?_)
 refine cl rfl Zcg rfl rfl (ZdQ l o hl _ _) ?_
 rintro _ _ R1 ⟨ys, o', hs, hof, rfl, rfl, hR1⟩
 obtain rfl := hR1.symm
 clear hR1
 refine Z6 ?_
 exact Zm (vs := []) rfl .nil rfl ⟨ys, o', hs, hof, rfl, rfl, rfl⟩ idH
 simp only [decide_eq_false_iff_not] at hc0
 omega
theorem Zao (k : Nat) (hk : k ≤ 12) (H : Z9) (R : Z5) :
    Fn Tryz.prog 169 [.int .u64 k] H R (fun v H' R' => ∃ z : Int, v = .int .i64 z ∧ H' = H ∧ R' = R) := by
 refine Zf Tryz.func169 rfl Tryz.ntmps169 rfl ?_
 refine sqt 1 rfl (pur 1 rfl (Z0 (sqt 2 rfl (pur 1 rfl (sp rfl (PE.geq  rfl rfl) rfl ?_)))))
 refine Z1 rfl ?_ ?_ <;> intro hc0
 simp only [decide_eq_true_eq] at hc0
 omega
 refine Z2 (Z0 (sqt 2 rfl (pur 1 rfl (sp rfl (PE.geq  rfl rfl) rfl ?_))))
 refine Z1 rfl ?_ ?_ <;> intro hc1
 simp only [decide_eq_true_eq] at hc1
 omega
 refine Z2 (Z0 (sqt 2 rfl (pur 1 rfl (sp rfl (PE.geq  rfl rfl) rfl ?_))))
 refine Z1 rfl ?_ ?_ <;> intro hc2
 simp only [decide_eq_true_eq] at hc2
 omega
 refine Z2 (sqt 7 rfl (pur 2 rfl ?_))
 refine sp rfl ((PE.convert Ze9 ik5 rfl).to (by rw [Z69 (by omega) (by omega)])) rfl ?_
 refine spE rfl (PE.indexS (m := 256) Zeb rfl rfl (by kernel_rfl) (by omega)) rfl ?_
 rintro _ ⟨u22, rfl, hu22⟩
 refine sp rfl (PE.conv64 us5 ik3 rfl (by omega)) rfl (sp rfl (PE.add rfl rfl (by omega)) rfl (pur 1 rfl (Z6 ?_)))
 exact rtA rfl rfl rfl ⟨_, rfl, rfl, rfl⟩ idH
theorem Zdx (k : Nat) (hk : k ≤ 12) (H : Z9) (R : Z5) :
    Fn Tryz.prog 133 [.int .u64 k] H R (fun v H' R' => ∃ z : Int, v = .int .i64 z ∧ H' = H ∧ R' = R) := by
 refine Zf Tryz.func133 rfl Tryz.ntmps133 rfl ?_
 refine sqt 1 rfl (pur 1 rfl (Z0 ?_))
 refine Zx rfl ?_
 refine Z2 (sqt 3 rfl (pur 1 rfl ?_))
 refine cl rfl Zbv rfl rfl (Zao k hk _ _) ?_
 rintro _ _ R1 ⟨z, rfl, rfl, hR1⟩
 obtain rfl := hR1.symm
 clear hR1
 refine pur 1 rfl (Z6 ?_)
 exact rtA rfl rfl rfl ⟨_, rfl, rfl, rfl⟩ idH
theorem Z9W (l : List Int) (o : OSl 3 1 (Z4 l)) (hl : l.length ≤ 12) (H : Z9) (R : Z5) :
    Fn Tryz.prog 64 [o.fs] (o.G ++ H) R (fun v H' R' => ∃ ys, ∃ o' : OSl 3 1 (Z4 ys), SrtI l ys l.length ∧ o'.fs = o.fs ∧ v = .tuple #[] ∧ H' = o'.G ++ H ∧ R' = R) := by
 obtain ⟨a, c, he, hcc, _⟩ := o.freezeC
 rw [show (Z4 l).length = l.length from List.length_map _] at he hcc
 refine Zf Tryz.func64 rfl Tryz.ntmps64 rfl ?_
 refine sqt 3 rfl (pur 1 rfl (sp rfl (PE.lenSl Zy (congrArg some he)) rfl (pur 1 rfl (sqr 6 rfl (pur 3 rfl ?_)))))
 refine sp rfl ((PE.convert us3 ZdZ rfl).to (by rw [Z4M (by omega) (by omega)])) rfl ?_
 refine cl rfl Zc1 rfl rfl (Zdx l.length hl _ _) ?_
 rintro _ _ R1 ⟨z, rfl, rfl, hR1⟩
 obtain rfl := hR1.symm
 clear hR1
 refine cl rfl Zbw rfl rfl (ZdW l o hl z _ _) ?_
 rintro _ _ R1 ⟨ys, o', hs, hof, rfl, rfl, hR1⟩
 obtain rfl := hR1.symm
 clear hR1
 exact Z1X (vs := []) rfl .nil rfl ⟨ys, o', hs, hof, rfl, rfl, rfl⟩ idH
theorem Z4t (xs : List Int) (a : Option Addr) (c : Nat) (hl : xs.length ≤ 1000000) (H : Z9) (R : Z5) [hR : MemRows a 1 (Z4 xs) R] :
    Fn Tryz.prog 14 [.slice a xs.length c] H R (fun v H' R' => ∃ o : OSl 3 1 (Z4 xs), v = o.fs ∧ o.here ∧ H' = o.G ++ H ∧ R' = R) := by
 refine Zf Tryz.func14 rfl Tryz.ntmps14 rfl ?_
 refine sqt 1 rfl (pur 1 rfl (sqt 6 rfl (pur 1 rfl (sp rfl (PE.lenSl Zy rfl) rfl ?_))))
 refine mkO rfl Z2t zl3 rfl rfl ⟨by omega, by omega⟩ rfl (fun o ho => ?_)
 refine pur 1 rfl ?_
 refine Zey (news := Z4 xs) o rfl Z2t rfl rfl (Z9k) (by simp [Z4]) (by simp [Z09, Z4, Value.oneCell']) ⟨by simp [Z4]; omega, by simp [Z4]; omega⟩ rfl ho (fun o2 ho2 => ?_)
 refine pur 1 rfl (Z6 ?_)
 exact rtA rfl rfl rfl ⟨o2.cast (by simp), rfl, ho2, rfl, rfl⟩ idH
theorem Z8a {gs : List Gp} {cl : Nat → Nat} {m n : Nat} {ks : List Int} (hk : ∀ k ∈ ks, 0 ≤ k ∧ k < (n : Int)) : (!(ks.any fun k => decide (na (Z5B gs cl m n) k.toNat < 100))) = decide (lvp gs cl m 20 &&& msk ks = 0) := by
  have key : ∀ k ∈ ks, (na (Z5B gs cl m n) k.toNat < 100 ↔ (lvp gs cl m 20).testBit k.toNat = true) := fun k hx => by
    have h1 := hk k hx
    rw [Zb1 (by omega)]
    constructor
    · intro h2
      cases hb : (lvp gs cl m 20).testBit k.toNat with
      | true => rfl
      | false => rw [Z4X hb] at h2; omega
    · intro h2
      obtain ⟨t, h3, h4, _⟩ := Z4h h2
      omega
  rw [Bool.eq_iff_iff, Bool.not_eq_true', List.any_eq_false, decide_eq_true_eq, and_zero]
  constructor
  · intro h1 j hj
    cases hb : (msk ks).testBit j with
    | false => rfl
    | true =>
      have h2 := (Zr (fun k hx => (hk k hx).1) j).1 hb
      exact absurd (decide_eq_true ((key _ h2).2 (by rw [Int.toNat_natCast]; exact hj))) (h1 _ h2)
  · intro h1 k hx h2
    have h3 := (key k hx).1 (of_decide_eq_true h2)
    have h4 := (Zr (fun k hx => (hk k hx).1) k.toNat).2 (by rw [show ((k.toNat : Nat) : Int) = k by have := hk k hx; omega]; exact hx)
    rw [h1 _ h3] at h4; cases h4
theorem Z3m {a : Option Addr} {sz : Nat} {rows : List (List Value)} {w : World} (h : RowsA a sz rows w) (l cap : Nat) (hc : rows.length ≤ cap) : RowsA (if cap = l then a else a.map (·.add (l * sz))) sz (rows.drop l) w := by
  by_cases e : rows.length ≤ l
  · rw [List.drop_eq_nil_of_le e]
    exact fun i row hi => by cases hi
  · rw [if_neg (by omega)]
    obtain ⟨r0, h0⟩ : ∃ r0, rows[0]? = some r0 := ⟨_, List.getElem?_eq_getElem (by omega)⟩
    obtain ⟨_, b, off, rfl, _⟩ := h 0 r0 h0
    simp only [Option.map_some, Addr.add]
    have h9 := Z6Z h l
    split
    · rename_i e0
      rw [e0, Nat.add_zero] at h9; exact h9
    · exact h9
structure Drw (p : List Nat) (sp d : Nat) (L : List (List Int)) : Prop where
  perm : L.flatten.Perm ((inl p).take d)
  wk : ∀ l ∈ L, Z84 l = true ∧ l.length ≤ sp
theorem Drw.start (p : List Nat) (sp : Nat) : Drw p sp 0 [] := ⟨.refl _, fun l hl => by cases hl⟩
theorem ZbA (l : List Int) (k : Nat) : nn l k = na l k := rfl
theorem Drw.more {p : List Nat} {sp d m n : Nat} {L : List (List Int)} {ys : List Int} (h : Drw p sp d L) (hp : Ord p n) (hs : SrtI (((inl p).drop d).take m) ys (((inl p).drop d).take m).length) (hm : m ≤ sp) : Drw p sp (d + m) (L ++ [ys]) := by
  have hpl := hs.perm.length_eq
  have hml : (((inl p).drop d).take m).length ≤ m := by rw [List.length_take]; omega
  refine ⟨?_, fun l hl => ?_⟩
  · rw [List.flatten_append, List.take_add, List.flatten_singleton]
    exact List.Perm.append h.perm hs.perm
  · rcases List.mem_append.1 hl with h1 | h1
    · exact h.wk l h1
    · rw [List.mem_singleton.1 h1]
      have hnd : ys.Nodup := hs.perm.nodup_iff.2 ((((List.nodup_iff_pairwise_ne.2 (by
        unfold inl
        rw [List.pairwise_map]
        exact (List.nodup_iff_pairwise_ne.1 hp.nd).imp fun h1 h2 => h1 (by omega))) : (inl p).Nodup).sublist (List.drop_sublist _ _)).sublist (List.take_sublist _ _))
      refine ⟨Z7f fun i hi => ?_, by omega⟩
      have h2 := hs.at_ i (i + 1) (by omega) (by omega)
      rw [ZbA, ZbA] at h2
      have h3 : na ys i ≠ na ys (i + 1) := by
        have h4 := List.pairwise_iff_getElem.1 (List.nodup_iff_pairwise_ne.1 hnd) i (i + 1) (by omega) hi (by omega)
        rw [Z3e (List.getElem?_eq_getElem (show i < ys.length by omega)), Z3e (List.getElem?_eq_getElem hi)]
        exact h4
      omega
theorem Drw.rng {p : List Nat} {sp d n : Nat} {L : List (List Int)} (h : Drw p sp d L) (hp : Ord p n) : (∀ x ∈ L.flatten, 0 ≤ x ∧ x < (n : Int)) ∧ L.flatten.Nodup := by
  refine ⟨fun x hx => ?_, h.perm.nodup_iff.2 (((List.nodup_iff_pairwise_ne.2 (by
    unfold inl
    rw [List.pairwise_map]
    exact (List.nodup_iff_pairwise_ne.1 hp.nd).imp fun h1 h2 => h1 (by omega))) : (inl p).Nodup).sublist (List.take_sublist _ _))⟩
  obtain ⟨j, hj, rfl⟩ := List.mem_map.1 (List.mem_of_mem_take (h.perm.mem_iff.1 hx))
  have := hp.lt j hj
  omega
theorem Drw.pl {p : List Nat} {sp d n : Nat} {L : List (List Int)} (h : Drw p sp d L) (hp : Ord p n) : plE n (sp : Int) L = 0 := plE_zero.2 fun l hl => by
  have hr := (h.rng hp).1
  have h1 : (!(l.all fun k => inB k 0 ((n : Int) - 1))) = false := by
    rw [Bool.not_eq_false', List.all_eq_true]
    intro x hx
    have := hr x (List.mem_flatten.2 ⟨l, hl, hx⟩)
    simp [inB]; omega
  rw [Z6Q h1 (h.wk l hl).1, decide_eq_false (by have := (h.wk l hl).2; omega)]; rfl
theorem Z8j {h : Hse} (hk : h.ok) {fr to_ : List Int} {sp d : Nat} {p : List Nat} {pl : List PL} (hb : h.botE fr to_ = 0) (hsp : sp ≤ 10) (hd : Drw p sp d (lls pl)) (hp : Ord p h.gaps.length) (hl : pl.length ≤ 4) :
    h.svR fr to_ (sp : Int) (lls pl) = (decide (lvp h.gaps (clP pl) (msk fr) 20 &&& msk to_ = 0), 0) ∧ (lvp h.gaps (clP pl) (msk fr) 20 &&& msk to_ = 0 → ∃ k, Pl h.gaps (msk to_) sp (msk fr) 0 k ∧ k ≤ (lls pl).flatten.length) := by
  have hr := hd.rng hp
  have hll := Z27 pl
  obtain ⟨q1, q2, q3, q4, q5, q6⟩ := Z0r (Z18 hb)
  have hb7 := hk.bins
  have hfr : ∀ x ∈ fr, 0 ≤ x ∧ x < h.bins := fun x hx => ((Z05 (Z18 hb).el).1 x hx)
  have h1 : h.svE fr to_ (sp : Int) (lls pl) = 0 := by
    rw [Z9Y (Z4I hb hsp) (by omega) (hd.pl hp)]
    exact Z3U hr.1 hr.2
  obtain ⟨h2, h3⟩ := ZaG hk (to_ := to_) hfr (pl := pl) (by omega)
  have h4 : h.svB fr to_ (lls pl) = decide (lvp h.gaps (clP pl) (msk fr) 20 &&& msk to_ = 0) := by rw [Bool.eq_iff_iff, h3, decide_eq_true_eq]
  refine ⟨by rw [Z9B h1, h4], fun h5 => ?_⟩
  have h6 := h2.1 (h3.2 h5)
  obtain ⟨g1, g2⟩ := Z8f (gs := h.gaps) (sp := sp) (L := lls pl) (c := 0) (fun l hl x hx => hr.1 x (List.mem_flatten.2 ⟨l, hl, hx⟩)) (fun l hl => (hd.wk l hl).2) hr.2 (fun x _ => Nat.zero_testBit _)
  obtain ⟨n, h7, h8⟩ := Z9F (Z2W (Z18 hb)).w (Z2W (Z18 hb)).s g1 h6
  exact ⟨n, h8, by omega⟩
theorem ZcC (h : Hse) (ag as_ : Option Addr) (cg cs : Nat) (hok : h.ok) (fr to_ : List Int) (af at_ : Option Addr) (cf ct : Nat) (hlf : fr.length ≤ 1000000) (hlt : to_.length ≤ 1000000) (hfc : fr.length ≤ cf) (htc : to_.length ≤ ct) (hb : h.botE fr to_ = 0) (spd : Nat) (hsp : spd ≤ 10) (H : Z9) (R : Z5) [hG : MemRows ag 2 (Zl h.gaps) R] [hS : MemRows as_ 3 (Zq h.sights) R] [hF : MemRows af 1 (Z4 fr) R] [hT : MemRows at_ 1 (Z4 to_) R] : Fn Tryz.prog 22 [h.v (h.sg ag cg) (h.ss as_ cs), .slice af fr.length cf, .slice at_ to_.length ct, .int .i64 (spd : Int)] H R (fun v H' R' => (∃ n e : Int, (e = 0 ∨ e = 6) ∧ (∀ k, Pl h.gaps (msk to_) spd (msk fr) 0 k → e = 0 ∧ n ≤ k) ∧ v = .tuple #[.int .i64 n, .int .i64 e]) ∧ H' = H ∧ R' = R) := fun w hw => by
  refine CallsIn.mono (Z5P h ag as_ cg cs (by have := hok.gl; omega) (by have := hok.sl; omega) fr to_ af at_ cf ct hlf hlt hfc htc (spd : Int) H R w hw) ?_
  rintro e' w' ⟨u, H', R', ⟨rfl, hq⟩, he, hs'⟩
  obtain ⟨rfl, hq⟩ := hq
  have hrz := Z4I hb hsp
  rw [hrz, Int.toNat_natCast] at hq
  rcases hq with ⟨h1, _⟩ | ⟨_, h1, rfl⟩ | ⟨_, n, h2, h3, rfl⟩
  · exact absurd rfl h1
  · exact ⟨_, _, R', ⟨⟨0, 6, .inr rfl, fun k hk => absurd hk (h1 k), rfl⟩, rfl, rfl⟩, he, hs'⟩
  · exact ⟨_, _, R', ⟨⟨n, 0, .inl rfl, fun k hk => ⟨rfl, by have := h3.2 k hk; omega⟩, rfl⟩, rfl, rfl⟩, he, hs'⟩
theorem Z8P (ws : List Int) (aw : Option Addr) (cw n bw : Nat) (hn : ws.length = n) (x : Int) (hx : 0 ≤ x ∧ x < n) (H : Z9) (R : Z5) [hW : MemRows aw 1 (Z4 ws) R] [hM : Mem1 bw (cel 26 [.slice aw n cw]) H] :
    FnV Tryz.prog 129 [.int .i64 x, .pointer (some ⟨bw, 0, none⟩)] H R (.bool (decide (na ws x.toNat < 100))) := by
 refine Zf Tryz.func129 rfl Tryz.ntmps129 rfl ?_
 refine sqt 1 rfl ?_
 obtain ⟨u, rfl⟩ : ∃ u : Nat, x = u := ⟨x.toNat, by omega⟩
 have hu := Z0A (l := ws) (k := u) (by omega)
 rw [Int.toNat_natCast]
 refine pur 1 rfl (sqt 6 rfl (spL rfl rfl (lh Z2p rfl rfl) rfl (pur 1 rfl ?_)))
 refine Zo (a := aw) (sz := 1) (rows := Z4 ws) (ne0 (by rw [irl]; omega)) (fun ba oa he => ?_)
 subst he
 refine sp rfl (PE.indexAddr Z1l rfl rfl (by omega) (by omega)) rfl (spL rfl rfl (lf0 sc3 (Z0u hu) rfl) rfl (pur 2 rfl (Z6 ?_)))
 exact rtA rfl rfl rfl ⟨rfl, rfl, rfl⟩ drp
theorem Z6I (ws ks : List Int) (aw ak : Option Addr) (cw ck n : Nat) (hn : ws.length = n) (hk : ∀ x ∈ ks, 0 ≤ x ∧ x < (n : Int)) (hkl : ks.length ≤ 1000000) (H : Z9) (R : Z5) [hW : MemRows aw 1 (Z4 ws) R] [hK : MemRows ak 1 (Z4 ks) R] :
    FnV Tryz.prog 58 [.slice aw n cw, .slice ak ks.length ck] H R (.bool (!(ks.any fun k => decide (na ws k.toNat < 100)))) := by
 refine Zf Tryz.func58 rfl Tryz.ntmps58 rfl ?_
 refine sqt 2 rfl (bx rfl rfl rfl (fun b2 => pur 1 rfl (sqt 5 rfl (pur 1 rfl (sp rfl (PE.makeFunc rfl rfl) rfl ?_)))))
 refine clV rfl Z9o rfl rfl (Z1Q ks ak ck 129 [] [_] (fun k => decide (na ws k.toNat < 100)) Zdj (by omega) _ _ (fun x hx => Z8P ws aw cw n b2 hn x (hk x hx) _ _)) ?_
 refine pur 2 rfl (Z6 ?_)
 exact rtA rfl rfl rfl ⟨rfl, rfl, rfl⟩ (fun w h9 => h9.del b2)
set_option maxHeartbeats 1000000 in
theorem Z4d (l0 : List Int) (a0 : Option Addr) (c0 : Nat) (hl0 : l0.length ≤ 9223372036854775807) (l1 : List Int) (a1 : Option Addr) (c1 : Nat) (hl1 : l1.length ≤ 9223372036854775807) (l2 : List Int) (a2 : Option Addr) (c2 : Nat) (hl2 : l2.length ≤ 9223372036854775807) (n3 : Int) (hn3 : 0 ≤ n3 ∧ n3 ≤ 255) (H : Z9) (R : Z5) [hG0 : MemRows a0 1 (Z29 l0) R] [hG1 : MemRows a1 1 (Z29 l1) R] [hG2 : MemRows a2 1 (Z29 l2) R] :
    Fn Tryz.prog 8 [.slice a0 l0.length c0, .slice a1 l1.length c1, .slice a2 l2.length c2, .int .u8 n3] H R (fun v H' R' => v = .bool true ∧ H' = H ∧ R' = R) := by
 refine Zf Tryz.func8 rfl Tryz.ntmps8 rfl ?_
 refine sqt 1 rfl (pur 1 rfl (sqt 9 rfl (pur 1 rfl ?_)))
 refine cl rfl ZaY rfl rfl (Z89 l0 a0 c0 hl0 _ _) ?_
 rintro _ _ R1 ⟨bk, mk, hmk, rfl, rfl, hR1⟩
 obtain rfl := hR1.symm
 clear hR1
 refine cl rfl ZdI rfl rfl (Zdl l0 a0 c0 bk hl0 0 mk (by omega) hmk 6 8 (by omega) (by omega) _ _) ?_
 rintro _ _ R1 ⟨h, p, ag, ar, cg, cr, tqb, mxb, hmd, hcg, hcr, rfl, htqb, hmxb, rfl, hR1⟩
 obtain rfl := hR1.symm
 clear hR1
 have hok := hmd.ok (by omega) (by omega)
 have hck := hse_ok.2 hok
 have hbn := hok.bins
 have hgl := hok.gl
 have hsl := hok.sl
 have hnb := hmd.bins
 have hng := hmd.gl
 have hss := hmd.none
 obtain ⟨B, hB⟩ : ∃ B : Nat, h.bins = B := ⟨h.bins.toNat, by omega⟩
 have hBt : h.bins.toNat = B := by omega
 have hfb := Z0B p h.bins.toNat
 have hfr := Z7h p (show 0 ≤ h.bins by omega)
 have hfe := Z4O p (show 0 ≤ h.bins by omega)
 have hm7 : msk (Z0f p h.bins.toNat) < 2 ^ 7 := ZZ fun x hx => by have := hfr x hx; omega
 refine pur 3 rfl (alc rfl Zbq rfl (fun b9 => ?_))
 refine ZN (l' := htl h (h.sg ag cg) (h.ss none 0)) rfl rfl rfl Zdu rfl rfl rfl rfl (nl rfl) ?_
 refine pur 1 rfl (Z0 ?_)
 refine Ze [0, 1, 0, 7, 15, 31, 31, 63, 255] (.tk 0 (.ld 2 (.big 1 (.big 3 (tks 4 5 .done))))) Zu (by kernel_rfl) ?_
 refine Zp 1 rfl (ld rfl rfl (lhA (htl h (h.sg ag cg) (h.ss none 0)) Z0N rfl rfl rfl) rfl ?_)
 refine cl rfl ZaY rfl rfl (Z89 l1 a1 c1 hl1 _ _) ?_
 rintro _ _ R1 ⟨bq, mq, hmq, rfl, rfl, hR1⟩
 obtain rfl := hR1.symm
 clear hR1
 refine bg (fun w hs => ⟨(lhA (htl h (h.sg ag cg) (h.ss none 0)) Z0N rfl rfl rfl) w hs, trivial⟩) ?_
 refine ZB bq ?_
 refine cl rfl Zee rfl rfl (Ze0 l1 a1 c1 bq hl1 0 mq (by omega) hmq h ag none cg 0 hok _ _) ?_
 rintro _ _ R1 ⟨d, af, ak, cf, ck, tqd, mxd, hcf, hck9, rfl, htqd, hmxd, rfl, hR1⟩
 obtain rfl := hR1.symm
 clear hR1
 obtain ⟨fr, hfr9⟩ : ∃ fr, fr = Z0f (fun j => decide (d j = 0)) h.bins.toNat := ⟨_, rfl⟩
 obtain ⟨to_, hto9⟩ : ∃ to_, to_ = Z0f (fun j => decide (d j = 1)) h.bins.toNat := ⟨_, rfl⟩
 rw [← hfr9, ← hto9]
 rw [← hfr9] at hcf
 rw [← hto9] at hck9
 have hfl : fr.length ≤ 7 := by rw [hfr9]; have := Z0B (fun j => decide (d j = 0)) h.bins.toNat; omega
 have htl9 : to_.length ≤ 7 := by rw [hto9]; have := Z0B (fun j => decide (d j = 1)) h.bins.toNat; omega
 have hfe9 : ZL h.bins fr = 0 := by rw [hfr9]; exact Z4O _ (by omega)
 have hte9 : ZL h.bins to_ = 0 := by rw [hto9]; exact Z4O _ (by omega)
 have hap : ∀ x ∈ fr, x ∉ to_ := by rw [hfr9, hto9]; exact Z7z
 have hbot := Zch hok hfe9 hte9 hap
 have htw := Z2W (Z18 hbot)
 refine bgT (Zp 5 rfl (sqt 3 rfl (pur 1 rfl ?_)))
 refine cl rfl ZaY rfl rfl (Z89 l2 a2 c2 hl2 _ _) ?_
 rintro _ _ R1 ⟨bt, mt, hmt, rfl, rfl, hR1⟩
 obtain rfl := hR1.symm
 clear hR1
 refine pur 1 rfl (sqt 4 rfl (pur 1 rfl (sp rfl (PE.conv64 us5 ik3 rfl (by omega)) rfl (sp rfl (PE.rem rfl rfl (by omega)) rfl (pur 1 rfl (sqt 10 rfl ?_))))))
 obtain ⟨spd, hsp⟩ : ∃ spd : Nat, n3 % 4 = spd := ⟨(n3 % 4).toNat, by have := Int.emod_nonneg n3 (show (4 : Int) ≠ 0 by decide); omega⟩
 have hsp3 : spd ≤ 3 := by have := Int.emod_lt_of_pos n3 (show (0 : Int) < 4 by decide); omega
 rw [hsp]
 have hfrr : ∀ x ∈ fr, 0 ≤ x ∧ x < h.bins := (Z05 hfe9).1
 have htor : ∀ x ∈ to_, 0 ≤ x ∧ x < (h.bins.toNat : Int) := fun x hx => by have := (Z05 hte9).1 x hx; omega
 refine spL rfl rfl (lhA (htl h (h.sg ag cg) (h.ss none 0)) Z0N rfl rfl rfl) rfl (pur 3 rfl ?_)
 refine cl rfl ZcX rfl rfl (ZcC h ag none cg 0 hok fr to_ af ak cf ck (by omega) (by omega) hcf hck9 hbot spd (by omega) _ _) ?_
 rintro _ _ R1 ⟨⟨nf, ef, hef, hfew, rfl⟩, rfl, hR1⟩
 obtain rfl := hR1.symm
 clear hR1
 refine pur 5 rfl (Z0 (sqt 6 rfl (pur 3 rfl ?_)))
 refine Zv 51 rfl ?_ ?_ <;> intro g51
 refine pur 3 rfl ?_
 refine Z1 rfl ?_ ?_ <;> intro hc0
 rcases hef with rfl | rfl <;> first | (focus (simp at hc0; done)) | (focus (simp at g51; done)) | (focus (simp_all; done))
 refine Z2 (Z0 (sqt 1 rfl (pur 1 rfl (Z3 ?_))))
 refine Zd (ι := {x : Nat × Int × Int // x.1 ≤ 6 ∧ (0 ≤ x.2.1 ∧ x.2.1 ≤ 20 * x.1) ∧ (0 ≤ x.2.2 ∧ x.2.2 ≤ 4294967295)}) (fun x => ⟨[(9, .pointer (some ⟨b9, 0, none⟩)), (11, .slice af fr.length cf), (12, .slice ak to_.length ck), (13, .pointer (some ⟨bt, 0, none⟩)), (14, .int .i64 spd), (15, .int .i64 nf), (16, .int .i64 ef), (55, .int .i64 (x.1.1 : Int))], (bt, cel 165 [.slice a2 l2.length c2, .int .i64 (x.1.2.1), .int .u32 (x.1.2.2)]) :: (bq, cel 165 [.slice a1 l1.length c1, .int .i64 (tqd), .int .u32 (mxd)]) :: (b9, cel 25 (htl h ((h).sg ag cg) ((h).ss none 0))) :: (bk, cel 165 [.slice a0 l0.length c0, .int .i64 (tqb), .int .u32 (mxb)]) :: H, RowsA ak 1 (Z4 to_) :: RowsA af 1 (Z4 fr) :: RowsA none 3 (Zq h.sights) :: RowsA ar 1 (Z4 (Z0f p h.bins.toNat)) :: RowsA ag 2 (Zl h.gaps) :: R⟩) (fun x => 6 - x.1.1) ⟨(0, 0, mt), by dsimp only; omega, by dsimp only; omega, by assumption⟩ ?_ (fun x => ?_)
 exact Zj idH
 obtain ⟨⟨x, tq2, mx2⟩, hx6, htq2, hmx2⟩ := x
 dsimp only at hx6 htq2 hmx2 ⊢
 refine sqt 1 rfl (pur 1 rfl (Z0 ?_))
 refine Z1 rfl ?_ ?_ <;> intro hc1 <;> try simp only [cS] at hc1
 refine Z2 (Z0 (Z3 (sqt 1 rfl (pur 1 rfl (sqt 6 rfl (pur 1 rfl (sp rfl (PE.fA Z00 rfl) rfl (spL rfl rfl (lh Z46 rfl rfl) rfl ?_))))))))
 refine ZB bt ?_
 refine sp rfl (PE.lenSl Z3h rfl) rfl ?_
 refine cl rfl Zcf rfl rfl (Z4u l2 a2 c2 bt hl2 _ _ (by omega) (by assumption) h.gaps.length (by omega) _ _) ?_
 rintro _ _ R1 ⟨q, osh, tq3, mx3, hq, rfl, htq3, hmx3, rfl, hR1⟩
 obtain rfl := hR1.symm
 clear hR1
 have hql := hq.len
 obtain ⟨ao, co, he, hco, hzz⟩ := (osh.cast (show _ = Z4 (inl q) from rfl)).freezeC
 rw [irl, Z1e] at hco
 rw [show osh.fs = _ from he, irl, Z1e]
 refine Sy.heap (H' := _) (fun w h9 => hzz (h9.perm (List.perm_middle (l₁ := osh.G) (a := _)).symm)) ?_
 clear he hzz
 refine pur 1 rfl (Z0 (sqt 3 rfl (pur 1 rfl ?_)))
 refine ZB bt ?_
 refine cl rfl Z2S rfl rfl (Z0p l2 a2 c2 bt hl2 _ _ (by omega) (by assumption) 5 _ _) ?_
 rintro _ _ R1 ⟨x63, m63, hx63, rfl, hm63, rfl, hR1⟩
 obtain rfl := hR1.symm
 obtain ⟨dn, rfl⟩ : ∃ d : Nat, x63 = d := ⟨x63.toNat, by omega⟩
 refine pur 1 rfl (Z3 ?_)
 skip
 refine Sy.heap (fun w h9 => St.inn0 h9) ?_
 refine Zd (ι := (y : {y : (Nat × Nat × List PL) × (Option Addr × Nat) × Int × Int // y.1.1 ≤ dn ∧ y.1.2.2.length = y.1.1 ∧ y.1.2.1 ≤ q.length ∧ Drw q spd y.1.2.1 (lls y.1.2.2) ∧ (∀ w, RowsA ao 1 (Z4 (inl q)) w → RowsA y.2.1.1 1 (Z4 ((inl q).drop y.1.2.1)) w) ∧ q.length - y.1.2.1 ≤ y.2.1.2 ∧ (0 ≤ y.2.2.1 ∧ y.2.2.1 ≤ 20 * x + 9 + y.1.1) ∧ (0 ≤ y.2.2.2 ∧ y.2.2.2 ≤ 4294967295)}) × OSl 26 1 (Zw y.1.1.2.2)) (fun y => ⟨[(9, .pointer (some ⟨b9, 0, none⟩)), (11, .slice af fr.length cf), (12, .slice ak to_.length ck), (13, .pointer (some ⟨bt, 0, none⟩)), (14, .int .i64 spd), (15, .int .i64 nf), (16, .int .i64 ef), (17, y.2.fs), (18, .slice y.1.1.2.1.1 (q.length - y.1.1.1.2.1) y.1.1.2.1.2), (55, .int .i64 (x : Int)), (63, .int .i64 (dn : Int)), (64, .int .i64 (y.1.1.1.1 : Int))], (bt, cel 165 [.slice a2 l2.length c2, .int .i64 (y.1.1.2.2.1), .int .u32 (y.1.1.2.2.2)]) :: (y.2.G ++ ((bq, cel 165 [.slice a1 l1.length c1, .int .i64 (tqd), .int .u32 (mxd)]) :: (b9, cel 25 (htl h ((h).sg ag cg) ((h).ss none 0))) :: (bk, cel 165 [.slice a0 l0.length c0, .int .i64 (tqb), .int .u32 (mxb)]) :: H)), Inn y.1.1.1.2.2 :: RowsA ao 1 (Z4 (inl q)) :: RowsA ak 1 (Z4 to_) :: RowsA af 1 (Z4 fr) :: RowsA none 3 (Zq h.sights) :: RowsA ar 1 (Z4 (Z0f p h.bins.toNat)) :: RowsA ag 2 (Zl h.gaps) :: R⟩) (fun y => dn - y.1.1.1.1) ⟨⟨((0, 0, []), (ao, co), tq3 + 1, m63), by dsimp only; omega, rfl, by dsimp only; omega, Drw.start q spd, fun w h9 => h9, by dsimp only; omega, by dsimp only; omega, by assumption⟩, OSl.nil _ _⟩ ?_ (fun y => ?_)
 exact Zbf (by simp only [Nat.sub_zero]; exact (by repeat' first | exact Sub.nil | apply Sub.cons | rfl | (simp [lk]; omega))) (fun w h9 => h9)
 obtain ⟨⟨⟨⟨k, d, pl⟩, ⟨ad, cd⟩, tq4, mx4⟩, hk, hpl, hd, hdr, hrow, hcd, htq4, hmx4⟩, o⟩ := y
 dsimp only at hk hpl hd hdr hrow hcd htq4 hmx4 o ⊢
 refine sqt 1 rfl (pur 1 rfl (Z0 ?_))
 refine Z1 rfl ?_ ?_ <;> intro hc2 <;> try simp only [cS] at hc2
 refine Z2 (Z0 (Z3 (sqt 8 rfl (pur 2 rfl (sp rfl (PE.add rfl rfl (by omega)) rfl ?_)))))
 refine cl rfl Z2S rfl rfl (Z0p l2 a2 c2 bt hl2 _ _ (by omega) (by assumption) ((spd : Int) + 1) _ _) ?_
 rintro _ _ R1 ⟨x69, m69, hx69, rfl, hm69, rfl, hR1⟩
 obtain rfl := hR1.symm
 obtain ⟨sm, rfl⟩ : ∃ d : Nat, x69 = d := ⟨x69.toNat, by omega⟩
 obtain ⟨many, hmany⟩ : ∃ m, m = min sm (q.length - d) := ⟨_, rfl⟩
 refine pur 1 rfl (sp rfl (PE.lenSl Zy rfl) rfl ?_)
 skip
 refine sp rfl (PE.min rfl rfl) rfl (pur 1 rfl (sqt 5 rfl ?_))
 rw [show min (sm : Int) ((q.length - d : Nat) : Int) = (many : Int) by omega]
 have hmt : ((inl q).drop d).length = q.length - d := by rw [List.length_drop, Z1e]
 have hmt2 : (((inl q).drop d).take many).length = many := by rw [List.length_take, hmt]; omega
 refine Sy.heap (fun w h9 => h9.also (f := RowsA ad 1 (Z4 ((inl q).drop d))) fun w' hg => hrow w' (hg _ (by simp))) ?_
 refine Sy.heap (fun w h9 => (Z1q ((inl q).drop d) many ▸ St.rowsTake (a := ad) (sz := 1) (rows := Z4 ((inl q).drop d)) h9 many)) ?_
 refine pur 2 rfl (sp rfl (PE.slHi (h := many) Z02 rfl rfl (by omega)) rfl ?_)
 rw [show (Value.slice ad many cd) = .slice ad (((inl q).drop d).take many).length cd by rw [hmt2]]
 refine cl rfl Zc8 rfl rfl (Z4t (((inl q).drop d).take many) ad cd (by omega) _ _) ?_
 rintro _ _ R1 ⟨od, rfl, _, rfl, hR1⟩
 obtain rfl := hR1.symm
 clear hR1
 refine pur 1 rfl (sqt 4 rfl (pur 2 rfl (sp rfl (PE.slLoA (l := many) Z02 rfl rfl (by omega)) rfl (pur 1 rfl (sqt 2 rfl (pur 1 rfl ?_))))))
 refine cl rfl ZbO rfl rfl (Z9W (((inl q).drop d).take many) od (by omega) _ _) ?_
 rintro _ _ R1 ⟨ys, od2, hsr, hof, rfl, rfl, hR1⟩
 obtain rfl := hR1.symm
 clear hR1
 rw [← hof]
 have hyl := hsr.perm.length_eq
 rw [hmt2] at hyl
 obtain ⟨al, c7, he, hf⟩ := od2.freeze
 rw [he, irl]
 refine Sy.heap (fun w h => hf h) ?_
 clear he hf
 refine sqr 5 rfl (pur 2 rfl ?_)
 refine bsl (out := [_]) rfl Zbt Z9h rfl rfl rfl rfl rfl rfl (fun b84 => ?_)
 refine apO (o) rfl Zed rfl rfl (Z0w (row := Z4A ⟨al, c7, ys⟩) rfl) rfl rfl ((by rw [Zt]; simp only [List.length_singleton]; omega)) rfl (fun o85 => ?_)
 refine pur 1 rfl (sqr 2 rfl (sp rfl (PE.add rfl rfl (by omega)) rfl (pur 1 rfl ?_)))
 rw [show q.length - d - many = q.length - (d + many) from Nat.sub_sub _ _ _]
 exact ZG ⟨⟨((k + 1, d + many, pl ++ [⟨al, c7, ys⟩]), (if cd = many then ad else ad.map (·.add (many * 1)), cd - many), tq4 + 1, m69), by dsimp only; omega, by dsimp only; rw [List.length_append, hpl]; rfl, by dsimp only; omega, by dsimp only; rw [Z1Y]; exact hdr.more hq hsr (by omega), fun w h9 => by
   have h8 := Z3m (hrow w h9) many cd (by rw [irl, hmt]; omega)
   rw [show (Z4 ((inl q).drop d)).drop many = Z4 ((inl q).drop (d + many)) by unfold Z4; rw [← List.map_drop, List.drop_drop]] at h8
   exact h8, by dsimp only; omega, by dsimp only; omega, by assumption⟩, o85.cast (Z0k pl ⟨al, c7, ys⟩)⟩ (by dsimp only; omega) (by repeat' first | exact Sub.nil | apply Sub.cons | rfl | (simp [lk]; omega)) (fun w h9 => (St.innSnoc (l := pl) ⟨al, c7, ys⟩ ((h9.del b84).pull bt)).facts SubF.sub)
 refine Z8 (Za (Za (Zk (sqt 11 rfl ?_))))
 obtain rfl : k = dn := by omega
 obtain ⟨ap, cp, he, hcp, hf⟩ := o.freezeC
 rw [Zt] at hcp
 rw [he, Zt]
 refine Sy.heap (H' := _) (fun w h => hf (h.perm (List.perm_middle (l₁ := o.G) (a := _)).symm)) ?_
 clear he hf
 obtain ⟨hrs, hrp⟩ := Z8j hok hbot (show spd ≤ 10 by omega) hdr hq (by omega)
 have hfl9 : (lls pl).flatten.length ≤ 8 := by have := hdr.perm.length_eq; rw [List.length_take, Z1e] at this; omega
 have hrg := (hdr.rng hq).1
 refine spL rfl rfl (lhA (htl h (h.sg ag cg) (h.ss none 0)) Z0N rfl rfl rfl) rfl (pur 4 rfl ?_)
 refine cl rfl Zce rfl rfl (Z7s h ag none cg 0 (by omega) (by omega) fr to_ af ak cf ck (by omega) (by omega) hcf hck9 (spd : Int) pl ap cp (by omega) (by omega) _ _) ?_
 rintro _ _ R1 ⟨rfl, rfl, hR1⟩
 obtain rfl := hR1.symm
 clear hR1
 rw [hrs]
 dsimp only
 refine pur 5 rfl (sqt 26 rfl (pur 3 rfl ?_))
 refine Zv 98 rfl ?_ ?_ <;> intro g98
 exact absurd g98 (by simp)
 refine pur 1 rfl (Z2K rfl rfl rfl rfl rfl (lhA (htl h (h.sg ag cg) (h.ss none 0)) Z0N rfl rfl rfl) rfl (pur 2 rfl ?_))
 refine clG rfl rfl rfl rfl ZbU rfl rfl (Z5E h ag none cg 0 hok fr af cf (by omega) (fun x hx => (hfrr x hx).1) pl ap cp (by omega) (by omega) (fun x hx => (hrg x hx).1) _ _) ?_
 rintro _ _ R1 ⟨aw, cw, rfl, rfl, hR1⟩
 obtain rfl := hR1.symm
 clear hR1
 refine pur 1 rfl ?_
 refine Z8t rfl rfl rfl rfl Zc7 rfl rfl (Z6I (Z5B h.gaps (clP pl) (msk fr) h.bins.toNat) to_ aw ak cw ck h.bins.toNat (Z3P _ _ _ _) htor (by omega) _ _) ?_
 rw [Z8a htor]
 refine spG rfl rfl rfl rfl (PE.neqBool ub4 rfl rfl) rfl ?_
 refine pur 2 rfl ?_
 refine Zv 108 rfl ?_ ?_ <;> intro g108
 exact absurd g108 (by simp)
 refine pur 2 rfl ?_
 refine Zv 110 rfl ?_ ?_ <;> intro g110
 obtain ⟨kf, hkf1, hkf2⟩ := hrp (of_decide_eq_true g110)
 obtain ⟨rfl, hnf⟩ := hfew kf hkf1
 refine pur 3 rfl ?_
 refine Zv 113 rfl ?_ ?_ <;> intro g113
 exact absurd g113 (by simp)
 refine pur 1 rfl ?_
 refine clG rfl rfl rfl rfl Z4U rfl rfl (Z11 pl ap cp (by omega) (by omega) _ _) ?_
 rintro _ _ R1 ⟨oc, rfl, rfl, hR1⟩
 obtain rfl := hR1.symm
 clear hR1
 obtain ⟨ac, cc, heo, hcc, hfz⟩ := oc.freezeC
 rw [irl] at hcc
 rw [heo, irl]
 refine Sy.heap (fun w h => hfz h) ?_
 clear hfz heo
 refine spG rfl rfl rfl rfl (PE.lenSl Zy rfl) rfl ?_
 refine pur 5 rfl ?_
 refine Z1 rfl ?_ ?_ <;> intro hc3
 first | (focus (have h8 := of_decide_eq_true hc3; omega)) | (focus (simp at hc3; done)) | (focus (simp at hc3; omega)) | (focus (rw [g110] at hc3; simp at hc3; done))
 refine Z2 (sqr 2 rfl (sp rfl (PE.add rfl rfl (by omega)) rfl (pur 1 rfl ?_)))
 exact Z7 ⟨(x + 1, tq4, mx4), by dsimp only; omega, by dsimp only; omega, by assumption⟩ (fun w h9 => (h9.pull bt).facts (fun g hg => by simp only [List.mem_cons] at hg ⊢; rcases hg with h8 | h8 | h8 | h8 | h8 | h8 <;> simp [h8]))
 refine pur 3 rfl ?_
 repeat refine spU rfl rfl rfl rfl rfl rfl rfl ?_
 refine pur 3 rfl ?_
 refine Zx rfl ?_
 refine Z2 (sqr 2 rfl (sp rfl (PE.add rfl rfl (by omega)) rfl (pur 1 rfl ?_)))
 exact Z7 ⟨(x + 1, tq4, mx4), by dsimp only; omega, by dsimp only; omega, by assumption⟩ (fun w h9 => (h9.pull bt).facts (fun g hg => by simp only [List.mem_cons] at hg ⊢; rcases hg with h8 | h8 | h8 | h8 | h8 | h8 <;> simp [h8]))
 refine Z8 (Za (Za (Zk (sqt 2 rfl ?_))))
 refine clV rfl Zcr rfl rfl (Z6F _ _) ?_
 refine pur 1 rfl (Z6 ?_)
 exact rtA rfl rfl rfl ⟨rfl, rfl, rfl⟩ (fun w h9 => ((((h9.del bt).del bq).del b9).del bk).sub)
 refine pur 3 rfl ?_
 refine Zx rfl ?_
 refine Z2 (Z0 (sqt 1 rfl (pur 1 rfl (Z3 ?_))))
 refine Zd (ι := {x : Nat × Int × Int // x.1 ≤ 6 ∧ (0 ≤ x.2.1 ∧ x.2.1 ≤ 20 * x.1) ∧ (0 ≤ x.2.2 ∧ x.2.2 ≤ 4294967295)}) (fun x => ⟨[(9, .pointer (some ⟨b9, 0, none⟩)), (11, .slice af fr.length cf), (12, .slice ak to_.length ck), (13, .pointer (some ⟨bt, 0, none⟩)), (14, .int .i64 spd), (15, .int .i64 nf), (16, .int .i64 ef), (55, .int .i64 (x.1.1 : Int))], (bt, cel 165 [.slice a2 l2.length c2, .int .i64 (x.1.2.1), .int .u32 (x.1.2.2)]) :: (bq, cel 165 [.slice a1 l1.length c1, .int .i64 (tqd), .int .u32 (mxd)]) :: (b9, cel 25 (htl h ((h).sg ag cg) ((h).ss none 0))) :: (bk, cel 165 [.slice a0 l0.length c0, .int .i64 (tqb), .int .u32 (mxb)]) :: H, RowsA ak 1 (Z4 to_) :: RowsA af 1 (Z4 fr) :: RowsA none 3 (Zq h.sights) :: RowsA ar 1 (Z4 (Z0f p h.bins.toNat)) :: RowsA ag 2 (Zl h.gaps) :: R⟩) (fun x => 6 - x.1.1) ⟨(0, 0, mt), by dsimp only; omega, by dsimp only; omega, by assumption⟩ ?_ (fun x => ?_)
 exact Zj idH
 obtain ⟨⟨x, tq2, mx2⟩, hx6, htq2, hmx2⟩ := x
 dsimp only at hx6 htq2 hmx2 ⊢
 refine sqt 1 rfl (pur 1 rfl (Z0 ?_))
 refine Z1 rfl ?_ ?_ <;> intro hc1 <;> try simp only [cS] at hc1
 refine Z2 (Z0 (Z3 (sqt 1 rfl (pur 1 rfl (sqt 6 rfl (pur 1 rfl (sp rfl (PE.fA Z00 rfl) rfl (spL rfl rfl (lh Z46 rfl rfl) rfl ?_))))))))
 refine ZB bt ?_
 refine sp rfl (PE.lenSl Z3h rfl) rfl ?_
 refine cl rfl Zcf rfl rfl (Z4u l2 a2 c2 bt hl2 _ _ (by omega) (by assumption) h.gaps.length (by omega) _ _) ?_
 rintro _ _ R1 ⟨q, osh, tq3, mx3, hq, rfl, htq3, hmx3, rfl, hR1⟩
 obtain rfl := hR1.symm
 clear hR1
 have hql := hq.len
 obtain ⟨ao, co, he, hco, hzz⟩ := (osh.cast (show _ = Z4 (inl q) from rfl)).freezeC
 rw [irl, Z1e] at hco
 rw [show osh.fs = _ from he, irl, Z1e]
 refine Sy.heap (H' := _) (fun w h9 => hzz (h9.perm (List.perm_middle (l₁ := osh.G) (a := _)).symm)) ?_
 clear he hzz
 refine pur 1 rfl (Z0 (sqt 3 rfl (pur 1 rfl ?_)))
 refine ZB bt ?_
 refine cl rfl Z2S rfl rfl (Z0p l2 a2 c2 bt hl2 _ _ (by omega) (by assumption) 5 _ _) ?_
 rintro _ _ R1 ⟨x63, m63, hx63, rfl, hm63, rfl, hR1⟩
 obtain rfl := hR1.symm
 obtain ⟨dn, rfl⟩ : ∃ d : Nat, x63 = d := ⟨x63.toNat, by omega⟩
 refine pur 1 rfl (Z3 ?_)
 skip
 refine Sy.heap (fun w h9 => St.inn0 h9) ?_
 refine Zd (ι := (y : {y : (Nat × Nat × List PL) × (Option Addr × Nat) × Int × Int // y.1.1 ≤ dn ∧ y.1.2.2.length = y.1.1 ∧ y.1.2.1 ≤ q.length ∧ Drw q spd y.1.2.1 (lls y.1.2.2) ∧ (∀ w, RowsA ao 1 (Z4 (inl q)) w → RowsA y.2.1.1 1 (Z4 ((inl q).drop y.1.2.1)) w) ∧ q.length - y.1.2.1 ≤ y.2.1.2 ∧ (0 ≤ y.2.2.1 ∧ y.2.2.1 ≤ 20 * x + 9 + y.1.1) ∧ (0 ≤ y.2.2.2 ∧ y.2.2.2 ≤ 4294967295)}) × OSl 26 1 (Zw y.1.1.2.2)) (fun y => ⟨[(9, .pointer (some ⟨b9, 0, none⟩)), (11, .slice af fr.length cf), (12, .slice ak to_.length ck), (13, .pointer (some ⟨bt, 0, none⟩)), (14, .int .i64 spd), (15, .int .i64 nf), (16, .int .i64 ef), (17, y.2.fs), (18, .slice y.1.1.2.1.1 (q.length - y.1.1.1.2.1) y.1.1.2.1.2), (55, .int .i64 (x : Int)), (63, .int .i64 (dn : Int)), (64, .int .i64 (y.1.1.1.1 : Int))], (bt, cel 165 [.slice a2 l2.length c2, .int .i64 (y.1.1.2.2.1), .int .u32 (y.1.1.2.2.2)]) :: (y.2.G ++ ((bq, cel 165 [.slice a1 l1.length c1, .int .i64 (tqd), .int .u32 (mxd)]) :: (b9, cel 25 (htl h ((h).sg ag cg) ((h).ss none 0))) :: (bk, cel 165 [.slice a0 l0.length c0, .int .i64 (tqb), .int .u32 (mxb)]) :: H)), Inn y.1.1.1.2.2 :: RowsA ao 1 (Z4 (inl q)) :: RowsA ak 1 (Z4 to_) :: RowsA af 1 (Z4 fr) :: RowsA none 3 (Zq h.sights) :: RowsA ar 1 (Z4 (Z0f p h.bins.toNat)) :: RowsA ag 2 (Zl h.gaps) :: R⟩) (fun y => dn - y.1.1.1.1) ⟨⟨((0, 0, []), (ao, co), tq3 + 1, m63), by dsimp only; omega, rfl, by dsimp only; omega, Drw.start q spd, fun w h9 => h9, by dsimp only; omega, by dsimp only; omega, by assumption⟩, OSl.nil _ _⟩ ?_ (fun y => ?_)
 exact Zbf (by simp only [Nat.sub_zero]; exact (by repeat' first | exact Sub.nil | apply Sub.cons | rfl | (simp [lk]; omega))) (fun w h9 => h9)
 obtain ⟨⟨⟨⟨k, d, pl⟩, ⟨ad, cd⟩, tq4, mx4⟩, hk, hpl, hd, hdr, hrow, hcd, htq4, hmx4⟩, o⟩ := y
 dsimp only at hk hpl hd hdr hrow hcd htq4 hmx4 o ⊢
 refine sqt 1 rfl (pur 1 rfl (Z0 ?_))
 refine Z1 rfl ?_ ?_ <;> intro hc2 <;> try simp only [cS] at hc2
 refine Z2 (Z0 (Z3 (sqt 8 rfl (pur 2 rfl (sp rfl (PE.add rfl rfl (by omega)) rfl ?_)))))
 refine cl rfl Z2S rfl rfl (Z0p l2 a2 c2 bt hl2 _ _ (by omega) (by assumption) ((spd : Int) + 1) _ _) ?_
 rintro _ _ R1 ⟨x69, m69, hx69, rfl, hm69, rfl, hR1⟩
 obtain rfl := hR1.symm
 obtain ⟨sm, rfl⟩ : ∃ d : Nat, x69 = d := ⟨x69.toNat, by omega⟩
 obtain ⟨many, hmany⟩ : ∃ m, m = min sm (q.length - d) := ⟨_, rfl⟩
 refine pur 1 rfl (sp rfl (PE.lenSl Zy rfl) rfl ?_)
 skip
 refine sp rfl (PE.min rfl rfl) rfl (pur 1 rfl (sqt 5 rfl ?_))
 rw [show min (sm : Int) ((q.length - d : Nat) : Int) = (many : Int) by omega]
 have hmt : ((inl q).drop d).length = q.length - d := by rw [List.length_drop, Z1e]
 have hmt2 : (((inl q).drop d).take many).length = many := by rw [List.length_take, hmt]; omega
 refine Sy.heap (fun w h9 => h9.also (f := RowsA ad 1 (Z4 ((inl q).drop d))) fun w' hg => hrow w' (hg _ (by simp))) ?_
 refine Sy.heap (fun w h9 => (Z1q ((inl q).drop d) many ▸ St.rowsTake (a := ad) (sz := 1) (rows := Z4 ((inl q).drop d)) h9 many)) ?_
 refine pur 2 rfl (sp rfl (PE.slHi (h := many) Z02 rfl rfl (by omega)) rfl ?_)
 rw [show (Value.slice ad many cd) = .slice ad (((inl q).drop d).take many).length cd by rw [hmt2]]
 refine cl rfl Zc8 rfl rfl (Z4t (((inl q).drop d).take many) ad cd (by omega) _ _) ?_
 rintro _ _ R1 ⟨od, rfl, _, rfl, hR1⟩
 obtain rfl := hR1.symm
 clear hR1
 refine pur 1 rfl (sqt 4 rfl (pur 2 rfl (sp rfl (PE.slLoA (l := many) Z02 rfl rfl (by omega)) rfl (pur 1 rfl (sqt 2 rfl (pur 1 rfl ?_))))))
 refine cl rfl ZbO rfl rfl (Z9W (((inl q).drop d).take many) od (by omega) _ _) ?_
 rintro _ _ R1 ⟨ys, od2, hsr, hof, rfl, rfl, hR1⟩
 obtain rfl := hR1.symm
 clear hR1
 rw [← hof]
 have hyl := hsr.perm.length_eq
 rw [hmt2] at hyl
 obtain ⟨al, c7, he, hf⟩ := od2.freeze
 rw [he, irl]
 refine Sy.heap (fun w h => hf h) ?_
 clear he hf
 refine sqr 5 rfl (pur 2 rfl ?_)
 refine bsl (out := [_]) rfl Zbt Z9h rfl rfl rfl rfl rfl rfl (fun b84 => ?_)
 refine apO (o) rfl Zed rfl rfl (Z0w (row := Z4A ⟨al, c7, ys⟩) rfl) rfl rfl ((by rw [Zt]; simp only [List.length_singleton]; omega)) rfl (fun o85 => ?_)
 refine pur 1 rfl (sqr 2 rfl (sp rfl (PE.add rfl rfl (by omega)) rfl (pur 1 rfl ?_)))
 rw [show q.length - d - many = q.length - (d + many) from Nat.sub_sub _ _ _]
 exact ZG ⟨⟨((k + 1, d + many, pl ++ [⟨al, c7, ys⟩]), (if cd = many then ad else ad.map (·.add (many * 1)), cd - many), tq4 + 1, m69), by dsimp only; omega, by dsimp only; rw [List.length_append, hpl]; rfl, by dsimp only; omega, by dsimp only; rw [Z1Y]; exact hdr.more hq hsr (by omega), fun w h9 => by
   have h8 := Z3m (hrow w h9) many cd (by rw [irl, hmt]; omega)
   rw [show (Z4 ((inl q).drop d)).drop many = Z4 ((inl q).drop (d + many)) by unfold Z4; rw [← List.map_drop, List.drop_drop]] at h8
   exact h8, by dsimp only; omega, by dsimp only; omega, by assumption⟩, o85.cast (Z0k pl ⟨al, c7, ys⟩)⟩ (by dsimp only; omega) (by repeat' first | exact Sub.nil | apply Sub.cons | rfl | (simp [lk]; omega)) (fun w h9 => (St.innSnoc (l := pl) ⟨al, c7, ys⟩ ((h9.del b84).pull bt)).facts SubF.sub)
 refine Z8 (Za (Za (Zk (sqt 11 rfl ?_))))
 obtain rfl : k = dn := by omega
 obtain ⟨ap, cp, he, hcp, hf⟩ := o.freezeC
 rw [Zt] at hcp
 rw [he, Zt]
 refine Sy.heap (H' := _) (fun w h => hf (h.perm (List.perm_middle (l₁ := o.G) (a := _)).symm)) ?_
 clear he hf
 obtain ⟨hrs, hrp⟩ := Z8j hok hbot (show spd ≤ 10 by omega) hdr hq (by omega)
 have hfl9 : (lls pl).flatten.length ≤ 8 := by have := hdr.perm.length_eq; rw [List.length_take, Z1e] at this; omega
 have hrg := (hdr.rng hq).1
 refine spL rfl rfl (lhA (htl h (h.sg ag cg) (h.ss none 0)) Z0N rfl rfl rfl) rfl (pur 4 rfl ?_)
 refine cl rfl Zce rfl rfl (Z7s h ag none cg 0 (by omega) (by omega) fr to_ af ak cf ck (by omega) (by omega) hcf hck9 (spd : Int) pl ap cp (by omega) (by omega) _ _) ?_
 rintro _ _ R1 ⟨rfl, rfl, hR1⟩
 obtain rfl := hR1.symm
 clear hR1
 rw [hrs]
 dsimp only
 refine pur 5 rfl (sqt 26 rfl (pur 3 rfl ?_))
 refine Zv 98 rfl ?_ ?_ <;> intro g98
 exact absurd g98 (by simp)
 refine pur 1 rfl (Z2K rfl rfl rfl rfl rfl (lhA (htl h (h.sg ag cg) (h.ss none 0)) Z0N rfl rfl rfl) rfl (pur 2 rfl ?_))
 refine clG rfl rfl rfl rfl ZbU rfl rfl (Z5E h ag none cg 0 hok fr af cf (by omega) (fun x hx => (hfrr x hx).1) pl ap cp (by omega) (by omega) (fun x hx => (hrg x hx).1) _ _) ?_
 rintro _ _ R1 ⟨aw, cw, rfl, rfl, hR1⟩
 obtain rfl := hR1.symm
 clear hR1
 refine pur 1 rfl ?_
 refine Z8t rfl rfl rfl rfl Zc7 rfl rfl (Z6I (Z5B h.gaps (clP pl) (msk fr) h.bins.toNat) to_ aw ak cw ck h.bins.toNat (Z3P _ _ _ _) htor (by omega) _ _) ?_
 rw [Z8a htor]
 refine spG rfl rfl rfl rfl (PE.neqBool ub4 rfl rfl) rfl ?_
 refine pur 2 rfl ?_
 refine Zv 108 rfl ?_ ?_ <;> intro g108
 exact absurd g108 (by simp)
 refine pur 2 rfl ?_
 refine Zv 110 rfl ?_ ?_ <;> intro g110
 obtain ⟨kf, hkf1, hkf2⟩ := hrp (of_decide_eq_true g110)
 obtain ⟨rfl, hnf⟩ := hfew kf hkf1
 refine pur 3 rfl ?_
 refine Zv 113 rfl ?_ ?_ <;> intro g113
 exact absurd g113 (by simp)
 refine pur 1 rfl ?_
 refine clG rfl rfl rfl rfl Z4U rfl rfl (Z11 pl ap cp (by omega) (by omega) _ _) ?_
 rintro _ _ R1 ⟨oc, rfl, rfl, hR1⟩
 obtain rfl := hR1.symm
 clear hR1
 obtain ⟨ac, cc, heo, hcc, hfz⟩ := oc.freezeC
 rw [irl] at hcc
 rw [heo, irl]
 refine Sy.heap (fun w h => hfz h) ?_
 clear hfz heo
 refine spG rfl rfl rfl rfl (PE.lenSl Zy rfl) rfl ?_
 refine pur 5 rfl ?_
 refine Z1 rfl ?_ ?_ <;> intro hc3
 first | (focus (have h8 := of_decide_eq_true hc3; omega)) | (focus (simp at hc3; done)) | (focus (simp at hc3; omega)) | (focus (rw [g110] at hc3; simp at hc3; done))
 refine Z2 (sqr 2 rfl (sp rfl (PE.add rfl rfl (by omega)) rfl (pur 1 rfl ?_)))
 exact Z7 ⟨(x + 1, tq4, mx4), by dsimp only; omega, by dsimp only; omega, by assumption⟩ (fun w h9 => (h9.pull bt).facts (fun g hg => by simp only [List.mem_cons] at hg ⊢; rcases hg with h8 | h8 | h8 | h8 | h8 | h8 <;> simp [h8]))
 refine pur 3 rfl ?_
 repeat refine spU rfl rfl rfl rfl rfl rfl rfl ?_
 refine pur 3 rfl ?_
 refine Zx rfl ?_
 refine Z2 (sqr 2 rfl (sp rfl (PE.add rfl rfl (by omega)) rfl (pur 1 rfl ?_)))
 exact Z7 ⟨(x + 1, tq4, mx4), by dsimp only; omega, by dsimp only; omega, by assumption⟩ (fun w h9 => (h9.pull bt).facts (fun g hg => by simp only [List.mem_cons] at hg ⊢; rcases hg with h8 | h8 | h8 | h8 | h8 | h8 <;> simp [h8]))
 refine Z8 (Za (Za (Zk (sqt 2 rfl ?_))))
 refine clV rfl Zcr rfl rfl (Z6F _ _) ?_
 refine pur 1 rfl (Z6 ?_)
 exact rtA rfl rfl rfl ⟨rfl, rfl, rfl⟩ (fun w h9 => ((((h9.del bt).del bq).del b9).del bk).sub)
end Go.Proofs.YthbjpnmclokinaaGreat
