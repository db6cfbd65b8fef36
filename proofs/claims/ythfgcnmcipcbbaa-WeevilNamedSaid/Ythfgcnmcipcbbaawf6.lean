/- Walks of the functions of the program, and the laws that join them: what the last theorem of this claim needs, in order. -/
import Derived.Test.Ythfgcnmcipcbbaawf5
namespace Go.Proofs.Ythfgcnmcipcbbaa
set_option linter.unusedSimpArgs false
set_option linter.unusedVariables false
open Go
theorem Z9N : cal Try.prog 29 = true := by kernel_rfl
theorem Z7r : cal Try.prog 30 = true := by kernel_rfl
theorem Zaw {P Q : Nat → Prop} (h : ∀ n, P n ↔ Q n) {n : Nat} (hp : Lst P n) : Lst Q n := ⟨(h n).1 hp.1, fun k hk => hp.2 k ((h k).2 hk)⟩
theorem Z9w (h : Hse) (ag as_ : Option Addr) (cg cs : Nat) (hok : h.ok) (fr to_ : List Int) (af at_ : Option Addr) (cf ct : Nat) (hlf : fr.length ≤ 1000000) (hlt : to_.length ≤ 1000000) (hfc : fr.length ≤ cf) (htc : to_.length ≤ ct) (hb : h.botE fr to_ = 0) (spd : Nat) (hsp : spd ≤ 10) (sp : Int) (hsp9 : sp = (spd : Int)) (P : Nat → Prop) (hP : ∀ n, Pl h.gaps (msk to_) spd (msk fr) 0 n ↔ P n) (H : Z7) (R : Z5) [hG : MemRows ag 2 (Zg h.gaps) R] [hS : MemRows as_ 3 (Zf h.sights) R] [hF : MemRows af 1 (Z3 fr) R] [hT : MemRows at_ 1 (Z3 to_) R] : Fn Try.prog 25 [h.v (h.sg ag cg) (h.ss as_ cs), .slice af fr.length cf, .slice at_ to_.length ct, .int .i64 sp] H R (fun v H' R' => (∃ n e : Nat, (((∀ k, ¬ P k) ∧ n = 0 ∧ e = 6) ∨ (Lst P n ∧ e = 0)) ∧ v = .tuple #[.int .i64 (n : Int), .int .i64 (e : Int)]) ∧ H' = H ∧ R' = R) := fun w hw => by
  subst hsp9
  refine CallsIn.mono (Z5n h ag as_ cg cs (by have := hok.gl; omega) (by have := hok.sl; omega) fr to_ af at_ cf ct hlf hlt hfc htc (spd : Int) H R w hw) ?_
  rintro e' w' ⟨u, H', R', ⟨rfl, rfl, hq⟩, he, hs'⟩
  have hrz := Z79 hb hsp
  rw [hrz, Int.toNat_natCast] at hq
  rcases hq with ⟨h1, _⟩ | ⟨_, h2, rfl⟩ | ⟨_, n, _, h3, rfl⟩
  · exact absurd rfl h1
  · exact ⟨_, _, R', ⟨⟨0, 6, .inl ⟨fun k hk => h2 k ((hP k).2 hk), rfl, rfl⟩, rfl⟩, rfl, rfl⟩, he, hs'⟩
  · exact ⟨_, _, R', ⟨⟨n, 0, .inr ⟨Zaw hP h3, rfl⟩, rfl⟩, rfl, rfl⟩, he, hs'⟩
theorem Z8J {P : Nat → Prop} {n e n' e' : Nat} (h : ((∀ k, ¬ P k) ∧ n = 0 ∧ e = 6) ∨ (Lst P n ∧ e = 0)) (h' : ((∀ k, ¬ P k) ∧ n' = 0 ∧ e' = 6) ∨ (Lst P n' ∧ e' = 0)) : n = n' ∧ e = e' := by
  rcases h with ⟨h1, h2, h3⟩ | ⟨h1, h2⟩ <;> rcases h' with ⟨h4, h5, h6⟩ | ⟨h4, h5⟩
  · omega
  · exact absurd h4.1 (h1 _)
  · exact absurd h1.1 (h4 _)
  · exact ⟨h1.unique h4, by omega⟩
set_option maxHeartbeats 1000000 in
theorem Z3J (l0 : List Int) (a0 : Option Addr) (c0 : Nat) (hl0 : l0.length ≤ 9223372036854775807) (l1 : List Int) (a1 : Option Addr) (c1 : Nat) (hl1 : l1.length ≤ 9223372036854775807) (l2 : List Int) (a2 : Option Addr) (c2 : Nat) (hl2 : l2.length ≤ 9223372036854775807) (H : Z7) (R : Z5) [hG0 : MemRows a0 1 (Z1H l0) R] [hG1 : MemRows a1 1 (Z1H l1) R] [hG2 : MemRows a2 1 (Z1H l2) R] :
    Fn Try.prog 7 [.slice a0 l0.length c0, .slice a1 l1.length c1, .slice a2 l2.length c2] H R (fun v H' R' => v = .bool true ∧ H' = H ∧ R' = R) := by
 refine Zi Try.func7 rfl Try.ntmps7 rfl ?_
 refine sqt 1 rfl (pur 1 rfl (sqt 9 rfl (pur 1 rfl ?_)))
 refine cl rfl Z8m rfl rfl (Z5r l0 a0 c0 hl0 _ _) ?_
 rintro _ _ R1 ⟨bk, mk, hmk, rfl, rfl, hR1⟩
 obtain rfl := hR1.symm
 clear hR1
 refine cl rfl Zeg rfl rfl (ZbJ l0 a0 c0 bk hl0 0 mk (by omega) hmk 6 8 (by omega) (by omega) _ _) ?_
 rintro _ _ R1 ⟨h, p, ag, ar, cg, cr, tqb, mxb, hmd, hcg, hcr, rfl, htqb, hmxb, rfl, hR1⟩
 obtain rfl := hR1.symm
 clear hR1
 have hok := hmd.ok (by omega) (by omega)
 have hck := hse_ok.2 hok
 have hbn := hok.bins
 have hgl := hok.gl
 have hsl := hok.sl
 have hnb := hmd.bins
 have hng := hmd.gl
 have hss := hmd.none
 obtain ⟨B, hB⟩ : ∃ B : Nat, h.bins = B := ⟨h.bins.toNat, by omega⟩
 have hBt : h.bins.toNat = B := by omega
 have hfb := Z0B p h.bins.toNat
 have hfr := Z40 p (show 0 ≤ h.bins by omega)
 have hfe := Z4J p (show 0 ≤ h.bins by omega)
 have hm7 : msk (Z0k p h.bins.toNat) < 2 ^ 7 := Z0p fun x hx => by have := hfr x hx; omega
 refine pur 3 rfl (alc rfl Z87 rfl (fun b7 => ?_))
 refine ZD (l' := htl h (h.sg ag cg) (h.ss none 0)) rfl rfl rfl Z9p rfl rfl rfl rfl (nl rfl) ?_
 refine pur 1 rfl (Z0 ?_)
 refine Zc [0, 1, 0, 0, 15, 31] (.tk 0 (.ld 2 (.tk 3 (.big 1 (.big 4 (.big 5 .done)))))) Zr (by kernel_rfl) ?_
 refine Zp 1 rfl (ld rfl rfl (lhA (htl h (h.sg ag cg) (h.ss none 0)) Z0h rfl rfl rfl) rfl (Zp 1 rfl ?_))
 refine cl rfl Z8m rfl rfl (Z5r l1 a1 c1 hl1 _ _) ?_
 rintro _ _ R1 ⟨bq, mq, hmq, rfl, rfl, hR1⟩
 obtain rfl := hR1.symm
 clear hR1
 refine bg (fun w hs => ⟨(lhA (htl h (h.sg ag cg) (h.ss none 0)) Z0h rfl rfl rfl) w hs, trivial⟩) ?_
 refine Zs bq ?_
 refine cl rfl ZcL rfl rfl (Z9Y l1 a1 c1 bq hl1 0 mq (by omega) hmq h ag cg hok hss (Z0k p h.bins.toNat) ar cr (by omega) hfr 6 (by omega) _ _) ?_
 rintro _ _ R1 ⟨ss, o, tqc, mxc, htr, hsn, rfl, htqc, hmxc, rfl, hR1⟩
 obtain rfl := hR1.symm
 clear hR1
 obtain ⟨aS, cSg, he, hcS, hzz⟩ := o.freezeC
 rw [Z06] at hcS
 rw [he, Z06]
 refine Sy.heap (H' := _) (fun w h9 => hzz (h9.perm (List.perm_middle (l₁ := o.G) (a := _)).symm)) ?_
 clear he hzz
 obtain ⟨q, hq⟩ : ∃ q : Hse, q = ⟨h.bins, h.gaps, ss⟩ := ⟨_, rfl⟩
 obtain ⟨fr, hfq⟩ : ∃ fr, fr = Z0k p h.bins.toNat := ⟨_, rfl⟩
 rw [show Hse.v ⟨h.bins, h.gaps, ss⟩ (h.sg ag cg) (.slice aS ss.length cSg) = q.v (q.sg ag cg) (q.ss aS cSg) from by rw [hq]; rfl, show Zf ss = Zf q.sights from by rw [hq], show RowsA ag 2 (Zg h.gaps) = RowsA ag 2 (Zg q.gaps) from by rw [hq], ← hfq]
 rw [← hfq] at hfr hfe hm7 hcr hfb htr
 have hokq : q.ok := by rw [hq]; exact Z7Y hok (by omega) htr.ok
 have hqgl := hokq.gl
 have hqsl := hokq.sl
 have hqb : q.bins = h.bins := by rw [hq]
 have hqg : q.gaps = h.gaps := by rw [hq]
 have hqs : (q.sights.length : Int) ≤ 6 := by rw [hq]; exact hsn
 have hqf : fr = Z0k p q.bins.toNat := by rw [hqb]; exact hfq
 have htq : Tru q fr q.sights := by rw [hq]; exact ⟨htr.ok, htr.ex⟩
 have hfrq : ∀ x ∈ fr, 0 ≤ x ∧ x < q.bins := by rw [hqb]; exact hfr
 have hfrl : fr.length ≤ 7 := by omega
 have hqbn := hokq.bins
 have haq : q.agr q.sights = true := htq.agr hokq hfrq
 refine bgT ?_
 refine ZD (l' := htl q (q.sg ag cg) (q.ss aS cSg)) rfl rfl rfl Z9p rfl rfl rfl rfl (nl rfl) ?_
 refine bgT (Z0 ?_)
 refine Zc [0, 1, 0, 7, 15, 31, 31, 63, 255] (.tk 0 (.ld 2 (.big 1 (.big 3 (tks 4 5 .done))))) Zr (by kernel_rfl) ?_
 refine Zp 1 rfl (ld rfl rfl (lhA (htl q (q.sg ag cg) (q.ss aS cSg)) Z0h rfl rfl rfl) rfl ?_)
 refine cl rfl Z8m rfl rfl (Z5r l1 a1 c1 hl1 _ _) ?_
 rintro _ _ R1 ⟨br, mr, hmr, rfl, rfl, hR1⟩
 obtain rfl := hR1.symm
 clear hR1
 refine bg (fun w hs => ⟨(lhA (htl q (q.sg ag cg) (q.ss aS cSg)) Z0h rfl rfl rfl) w hs, trivial⟩) ?_
 refine Zs br ?_
 refine cl rfl Zd6 rfl rfl (ZdO l1 a1 c1 br hl1 0 mr (by omega) hmr q ag aS cg cSg hokq _ _) ?_
 rintro _ _ R1 ⟨d, af, ak, cf, ck, tqd, mxd, hcf, hck9, rfl, htqd, hmxd, rfl, hR1⟩
 obtain rfl := hR1.symm
 clear hR1
 obtain ⟨fm, hfr9⟩ : ∃ fm, fm = Z0k (fun j => decide (d j = 0)) q.bins.toNat := ⟨_, rfl⟩
 obtain ⟨to_, hto9⟩ : ∃ to_, to_ = Z0k (fun j => decide (d j = 1)) q.bins.toNat := ⟨_, rfl⟩
 rw [← hfr9, ← hto9]
 rw [← hfr9] at hcf
 rw [← hto9] at hck9
 have hfl : fm.length ≤ 7 := by rw [hfr9]; have := Z0B (fun j => decide (d j = 0)) q.bins.toNat; omega
 have htl9 : to_.length ≤ 7 := by rw [hto9]; have := Z0B (fun j => decide (d j = 1)) q.bins.toNat; omega
 have hfe9 : ZT q.bins fm = 0 := by rw [hfr9]; exact Z4J _ (by omega)
 have hte9 : ZT q.bins to_ = 0 := by rw [hto9]; exact Z4J _ (by omega)
 have hap : ∀ x ∈ fm, x ∉ to_ := by rw [hfr9, hto9]; exact Z7k
 have hbot := Z9a hokq hfe9 hte9 hap
 have htw := Z3G (Z2b hbot)
 have hfmr : ∀ x ∈ fm, 0 ≤ x ∧ x < q.bins := by rw [hfr9]; exact Z40 _ (by omega)
 have htor : ∀ x ∈ to_, 0 ≤ x ∧ x < q.bins := by rw [hto9]; exact Z40 _ (by omega)
 have hfmn : fm.Nodup := by rw [hfr9]; exact Z24 _ _
 have hton : to_.Nodup := by rw [hto9]; exact Z24 _ _
 refine bgT (Zp 5 rfl (sqt 3 rfl (pur 1 rfl ?_)))
 refine cl rfl Z8m rfl rfl (Z5r l2 a2 c2 hl2 _ _) ?_
 rintro _ _ R1 ⟨bs, ms, hms, rfl, rfl, hR1⟩
 obtain rfl := hR1.symm
 clear hR1
 refine pur 1 rfl (sqt 6 rfl (pur 1 rfl (sp rfl (PE.fA Z04 rfl) rfl (spL rfl rfl (lh (v := .int .i64 ((q.bins.toNat : Nat) : Int)) sc3 rfl (by show some (Value.int IntKind.i64 q.bins) = some (Value.int IntKind.i64 ((q.bins.toNat : Nat) : Int)); rw [show ((q.bins.toNat : Nat) : Int) = q.bins by omega])) rfl ?_))))
 refine Zs bs ?_
 refine cl rfl Z9N rfl rfl (Z3c l2 a2 c2 bs hl2 _ _ (by omega) (by assumption) q.bins.toNat (by omega) _ _) ?_
 rintro _ _ R1 ⟨pb, oshb, tqhb, mxhb, hpb, rfl, htqhb, hmxhb, rfl, hR1⟩
 obtain rfl := hR1.symm
 clear hR1
 have hpbl := hpb.len
 obtain ⟨apb, cpb, he, hcpb, hzz⟩ := (oshb.cast (show _ = Z3 (inl pb) from rfl)).freezeC
 rw [irl, ZS] at hcpb
 rw [show oshb.fs = _ from he, irl, ZS]
 refine Sy.heap (H' := _) (fun w h9 => hzz (h9.perm (List.perm_middle (l₁ := oshb.G) (a := _)).symm)) ?_
 clear he hzz
 refine alc rfl Z9c rfl (fun b12 => ?_)
 refine ZD (l' := [.slice apb pb.length cpb]) rfl rfl rfl Zbb rfl rfl rfl rfl (nl rfl) ?_
 refine sqt 2 rfl ?_
 have hppl : pb.length = q.bins.toNat := hpbl
 refine Sy.heap (fun w h9 => St.rows (sz := 1) (rows := [[.slice apb pb.length cpb]]) (rest := []) (h9.pull b12) (by simp)) ?_
 refine sp rfl (PE.makeFunc rfl rfl) rfl (pur 1 rfl (sqt 4 rfl (spL rfl rfl (lhA (htl q (q.sg ag cg) (q.ss aS cSg)) Z0h rfl rfl rfl) rfl ?_)))
 refine cl rfl ZcS rfl rfl (ZcV q ag aS cg cSg (by omega) (by omega) _ _) ?_
 rintro _ _ R1 ⟨og, os, rfl, rfl, hR1⟩
 obtain rfl := hR1.symm
 clear hR1
 refine alc rfl Z87 rfl (fun b14 => ?_)
 refine ZD (l' := htl q og.fs os.fs) rfl rfl rfl Z9p rfl rfl (by show (htl _ og.fs os.fs).all (·.oneCell') = true; simp only [htl, List.all_cons, List.all_nil, og.cells.2, os.cells.2, Bool.and_true]; rfl) rfl (nl rfl) ?_
 refine Z0 (sqt 7 rfl (pur 1 rfl (sp rfl (PE.fA ZO rfl) rfl (spL rfl rfl (lh Z3j rfl rfl) rfl (sp rfl (PE.lenSl Z3h rfl) rfl ?_)))))
 refine Zs bs ?_
 refine cl rfl Z9N rfl rfl (Z3c l2 a2 c2 bs hl2 _ _ (by omega) (by assumption) q.gaps.length (by omega) _ _) ?_
 rintro _ _ R1 ⟨pg, oshg, tqhg, mxhg, hpg, rfl, htqhg, hmxhg, rfl, hR1⟩
 obtain rfl := hR1.symm
 clear hR1
 have hpgl := hpg.len
 obtain ⟨apg, cpg, he, hcpg, hzz⟩ := (oshg.cast (show _ = Z3 (inl pg) from rfl)).freezeC
 rw [irl, ZS] at hcpg
 rw [show oshg.fs = _ from he, irl, ZS]
 refine Sy.heap (H' := _) (fun w h9 => hzz (h9.perm (List.perm_middle (l₁ := oshg.G) (a := _)).symm)) ?_
 clear he hzz
 refine sp rfl (PE.lenSl Zx rfl) rfl (pur 1 rfl (Z4 ?_))
 refine Zh (ι := (y : {y : Nat × List Gp // y.1 ≤ pg.length ∧ RnG pb pg q.gaps y.1 y.2}) × OSl 46 2 (Zg y.1.2)) (fun y => ⟨[(11, .pointer (some ⟨bs, 0, none⟩)), (7, .pointer (some ⟨b7, 0, none⟩)), (9, .slice af fm.length cf), (10, .slice ak to_.length ck), (12, .pointer (some ⟨b12, 0, none⟩)), (13, .func (.func 30) #[] #[.pointer (some ⟨b12, 0, none⟩)]), (14, .pointer (some ⟨b14, 0, none⟩)), (66, .slice apg pg.length cpg), (67, .int .i64 pg.length), (68, .int .i64 y.1.1.1)], y.2.G ++ ((bs, cel 72 [.slice a2 l2.length c2, .int .i64 (tqhg), .int .u32 (mxhg)]) :: (os.G ++ ((b14, cel 26 (htl ⟨q.bins, y.1.1.2, q.sights⟩ y.2.fs os.fs)) :: (br, cel 72 [.slice a1 l1.length c1, .int .i64 (tqd), .int .u32 (mxd)]) :: (bq, cel 72 [.slice a1 l1.length c1, .int .i64 (tqc), .int .u32 (mxc)]) :: (b7, cel 26 (htl q (q.sg ag cg) (q.ss aS cSg))) :: (bk, cel 72 [.slice a0 l0.length c0, .int .i64 (tqb), .int .u32 (mxb)]) :: H))), RowsA apg 1 (Z3 (inl pg)) :: RowsA (some ⟨b12, 0, none⟩) 1 [[.slice apb pb.length cpb]] :: RowsA apb 1 (Z3 (inl pb)) :: RowsA ak 1 (Z3 to_) :: RowsA af 1 (Z3 fm) :: RowsA aS 3 (Zf q.sights) :: RowsA none 3 (Zf h.sights) :: RowsA ar 1 (Z3 fr) :: RowsA ag 2 (Zg q.gaps) :: R⟩) (fun y => pg.length - y.1.1.1) ⟨⟨(0, q.gaps), Nat.zero_le _, ⟨rfl, fun j hj => absurd hj (Nat.not_lt_zero _)⟩⟩, og⟩ ?_ (fun y => ?_)
 exact Zo (fun w h9 => h9.perm ((List.Perm.cons _ ((Zd [_] os.G _).trans ((List.Perm.append_left os.G (Zd [_] og.G _)).trans (Zd os.G og.G _)))).trans (Zd [_] og.G _)))
 ·
  obtain ⟨⟨⟨i, G⟩, hi, hrn⟩, o⟩ := y
  dsimp only at hi hrn o ⊢
  refine sqt 1 rfl (pur 1 rfl (Z0 ?_))
  refine Z1 rfl ?_ ?_ <;> intro hc0 <;> try simp only [cS] at hc0
  obtain ⟨k, hk⟩ : ∃ k, pg[i]? = some k := ⟨_, List.getElem?_eq_getElem (by omega)⟩
  have hkl := (hpg.bij.lt i k hk).2
  obtain ⟨gg, hgg⟩ : ∃ g, q.gaps[i]? = some g := ⟨_, List.getElem?_eq_getElem (by omega)⟩
  have hgo := hokq.gaps gg (List.mem_of_getElem? hgg)
  have hst := hrn.step hpg hgg hk
  have hrl := hrn.len
  refine Zj (a := apg) (sz := 1) (rows := Z3 (inl pg)) (by intro h0; have := congrArg List.length h0; rw [irl] at this; simp only [List.length_nil] at this; rw [ZS] at this; omega) (fun bpg bpgo hebpg => ?_)
  subst hebpg
  refine Zj (a := apb) (sz := 1) (rows := Z3 (inl pb)) (by intro h0; have := congrArg List.length h0; rw [irl] at this; simp only [List.length_nil] at this; rw [ZS] at this; omega) (fun bpb bpbo hebpb => ?_)
  subst hebpb
  refine Zj (a := ag) (sz := 2) (rows := Zg q.gaps) (ne0 (by rw [ZP]; omega)) (fun ba bao he => ?_)
  subst he
  obtain ⟨bo, cap9, junk, hfs, hG, hj, hcap, hmx⟩ := o.is.resolve_left (fun h9 => by have := congrArg List.length h9.1; rw [ZP] at this; simp only [List.length_nil] at this; omega)
  rw [ZP, hrn.len] at hfs hj hcap
  rw [hfs, hG]
  refine Sy.heap (H' := (bo, cel 46 ((Zg G).flatten ++ junk)) :: (bs, cel 72 [.slice a2 l2.length c2, .int .i64 (tqhg), .int .u32 (mxhg)]) :: (os.G ++ ((b14, cel 26 (htl ⟨q.bins, G, q.sights⟩ (.slice (some ⟨bo, 0, none⟩) q.gaps.length cap9) os.fs)) :: (br, cel 72 [.slice a1 l1.length c1, .int .i64 (tqd), .int .u32 (mxd)]) :: (bq, cel 72 [.slice a1 l1.length c1, .int .i64 (tqc), .int .u32 (mxc)]) :: (b7, cel 26 (htl q (q.sg (some ⟨ba, bao, none⟩) cg) (q.ss aS cSg))) :: (bk, cel 72 [.slice a0 l0.length c0, .int .i64 (tqb), .int .u32 (mxb)]) :: H))) (fun w h9 => h9) ?_
  refine Z2 (Z0 (Z4 (sqt 5 rfl (pur 1 rfl (sp rfl (PE.indexAddr Z15 rfl rfl (by omega) (by omega)) rfl (spL rfl rfl (lf0 sc3 (ZF (Z3X hk)) rfl) rfl (pur 2 rfl ?_)))))))
  refine Zc [0, 1, 0, 0, 0, 16, 0, 112, 240, 496, 1016, 2040, 0, 0, 8192, 0, 57344, 122880, 253952, 520192, 1044480, 2097144, 4194303, 8388607] (.tk 0 (.ld 1 (.tk 2 (.ld 3 (.tk 4 (.ld 5 (tks 6 3 (.ld 9 (.tk 10 (.ld 11 (.ld 12 (.tk 13 (.ld 14 (tks 15 3 (.ld 18 (.tk 19 (.ld 20 (.tk 21 (.tk 22 (.big 23 .done)))))))))))))))))))) Zr (by kernel_rfl) ?_
  refine tk rfl (PE.fA ZO rfl) rfl (ld rfl rfl (lh Z3j rfl rfl) rfl (Zp 1 rfl (ld rfl rfl (lfB (sz := 1) Z29 rfl) rfl (tk rfl (PE.fA ZO rfl) rfl (ld rfl rfl (lh Z3j rfl rfl) rfl (Zp 1 rfl (tk rfl (PE.indexAddr Z6e rfl rfl (by omega) (by omega)) rfl (tk rfl (PE.fA ZB rfl) rfl (ld rfl rfl (lf (j := 1) sc3 (Z18 hgg) rfl) rfl (tk rfl (PE.indexAddr Z15 rfl rfl (by omega) (by omega)) rfl (ld rfl rfl (lf0 sc3 (ZF (ZM (l := inl pb) (k := gg.b.toNat) (by rw [ZS]; omega))) rfl) rfl (ld rfl rfl (lfB (sz := 1) Z29 rfl) rfl (tk rfl (PE.fA ZO rfl) rfl (ld rfl rfl (lh Z3j rfl rfl) rfl (Zp 1 rfl ?_)))))))))))))))
  refine tk rfl (PE.indexAddr Z6e rfl rfl (by omega) (by omega)) rfl (tk rfl (PE.fA ZN rfl) rfl (ld rfl rfl (lf0 sc3 (Z18 hgg) rfl) rfl (tk rfl (PE.indexAddr Z15 rfl rfl (by omega) (by omega)) rfl (ld rfl rfl (lf0 sc3 (ZF (ZM (l := inl pb) (k := gg.a.toNat) (by rw [ZS]; omega))) rfl) rfl (tk rfl (PE.build (out := Z1u (imG pb gg)) Z71 Z36 rfl rfl) rfl (tk rfl (PE.indexAddr Z6e rfl rfl (by omega) (by omega)) rfl ?_))))))
  refine ZD (l' := (Zg (G.set k (imG pb gg))).flatten ++ junk) rfl rfl rfl Z8o rfl rfl rfl (Zcc (by omega) (by show 0 + ((k : Nat) : Int).toNat * 2 = k * 2; omega)) (by rw [List.length_append, Z9T]; show 0 + ((k : Nat) : Int).toNat * 2 + 2 ≤ _; omega) ?_
  refine bgT (sqr 2 rfl (sp rfl (PE.add rfl rfl (by omega)) rfl (pur 1 rfl ?_)))
  exact Z8 ⟨⟨(i + 1, G.set k (imG pb gg)), by dsimp only; omega, hst⟩, Z9i bo cap9 q.gaps.length junk (Z7g _) (by rw [ZP, hst.len]) (by rw [ZP, hst.len]; exact hj) (by rw [ZP, hst.len]; exact hcap) hmx⟩ idH
  ·
   obtain rfl : i = q.gaps.length := by omega
   have hrnG := hrn
   obtain ⟨aG, cG, he, hcG, hzz⟩ := o.freezeC
   rw [ZP, hrn.len] at hcG
   rw [he, ZP, hrn.len]
   refine Sy.heap (fun w h9 => hzz h9) ?_
   clear he hzz
   refine Z9 (Za (Za (Zn (Z0 (sqt 7 rfl (pur 1 rfl (sp rfl (PE.fA ZU rfl) rfl (spL rfl rfl (lh Z3q rfl rfl) rfl (sp rfl (PE.lenSl Z6c rfl) rfl ?_)))))))))
   refine Zs bs ?_
   refine cl rfl Z9N rfl rfl (Z3c l2 a2 c2 bs hl2 _ _ (by omega) (by assumption) q.sights.length (by omega) _ _) ?_
   rintro _ _ R1 ⟨ps, oshs, tqhs, mxhs, hps, rfl, htqhs, hmxhs, rfl, hR1⟩
   obtain rfl := hR1.symm
   clear hR1
   have hpsl := hps.len
   obtain ⟨aps, cps, he, hcps, hzz⟩ := (oshs.cast (show _ = Z3 (inl ps) from rfl)).freezeC
   rw [irl, ZS] at hcps
   rw [show oshs.fs = _ from he, irl, ZS]
   refine Sy.heap (H' := _) (fun w h9 => hzz (h9.perm (List.perm_middle (l₁ := oshs.G) (a := _)).symm)) ?_
   clear he hzz
   refine sp rfl (PE.lenSl Zx rfl) rfl (pur 1 rfl (Z4 ?_))
   refine Zh (ι := (y : {y : Nat × List Sgt // y.1 ≤ ps.length ∧ RnS pb ps q.sights y.1 y.2}) × OSl 38 3 (Zf y.1.2)) (fun y => ⟨[(7, .pointer (some ⟨b7, 0, none⟩)), (9, .slice af fm.length cf), (10, .slice ak to_.length ck), (12, .pointer (some ⟨b12, 0, none⟩)), (13, .func (.func 30) #[] #[.pointer (some ⟨b12, 0, none⟩)]), (14, .pointer (some ⟨b14, 0, none⟩)), (101, .slice aps ps.length cps), (102, .int .i64 ps.length), (103, .int .i64 y.1.1.1)], y.2.G ++ ((bs, cel 72 [.slice a2 l2.length c2, .int .i64 (tqhs), .int .u32 (mxhs)]) :: ((b14, cel 26 (htl ⟨q.bins, G, y.1.1.2⟩ (.slice aG q.gaps.length cG) y.2.fs)) :: (br, cel 72 [.slice a1 l1.length c1, .int .i64 (tqd), .int .u32 (mxd)]) :: (bq, cel 72 [.slice a1 l1.length c1, .int .i64 (tqc), .int .u32 (mxc)]) :: (b7, cel 26 (htl q (q.sg ag cg) (q.ss aS cSg))) :: (bk, cel 72 [.slice a0 l0.length c0, .int .i64 (tqb), .int .u32 (mxb)]) :: H)), RowsA aps 1 (Z3 (inl ps)) :: RowsA aG 2 (Zg G) :: RowsA (some ⟨b12, 0, none⟩) 1 [[.slice apb pb.length cpb]] :: RowsA apb 1 (Z3 (inl pb)) :: RowsA ak 1 (Z3 to_) :: RowsA af 1 (Z3 fm) :: RowsA aS 3 (Zf q.sights) :: RowsA none 3 (Zf h.sights) :: RowsA ar 1 (Z3 fr) :: RowsA ag 2 (Zg q.gaps) :: R⟩) (fun y => ps.length - y.1.1.1) ⟨⟨(0, q.sights), Nat.zero_le _, ⟨rfl, fun j hj => absurd hj (Nat.not_lt_zero _)⟩⟩, os⟩ ?_ (fun y => ?_)
   exact Zo (fun w h9 => (h9.perm (Zd [_] os.G _)).facts (fun g hg => by simp only [List.mem_cons] at hg ⊢; rcases hg with h8 | h8 | h8 | h8 | h8 | h8 | h8 | h8 | h8 | h8 | h8 <;> simp [h8]))
   ·
    obtain ⟨⟨⟨i, Sx⟩, hi2, hrn⟩, o⟩ := y
    dsimp only at hi2 hrn o ⊢
    refine sqt 1 rfl (pur 1 rfl (Z0 ?_))
    refine Z1 rfl ?_ ?_ <;> intro hc1 <;> try simp only [cS] at hc1
    obtain ⟨k, hk⟩ : ∃ k, ps[i]? = some k := ⟨_, List.getElem?_eq_getElem (by omega)⟩
    have hkl := (hps.bij.lt i k hk).2
    obtain ⟨x, hxx⟩ : ∃ x, q.sights[i]? = some x := ⟨_, List.getElem?_eq_getElem (by omega)⟩
    have hxo := hokq.sights x (List.mem_of_getElem? hxx)
    have hst := hrn.step hps hxx hk
    have hrl := hrn.len
    refine Zj (a := aps) (sz := 1) (rows := Z3 (inl ps)) (by intro h0; have := congrArg List.length h0; rw [irl] at this; simp only [List.length_nil] at this; rw [ZS] at this; omega) (fun bps bpso hebps => ?_)
    subst hebps
    refine Zj (a := apb) (sz := 1) (rows := Z3 (inl pb)) (by intro h0; have := congrArg List.length h0; rw [irl] at this; simp only [List.length_nil] at this; rw [ZS] at this; omega) (fun bpb bpbo hebpb => ?_)
    subst hebpb
    refine Zj (a := aS) (sz := 3) (rows := Zf q.sights) (ne0 (by rw [Z06]; omega)) (fun ba bao he => ?_)
    subst he
    obtain ⟨bo, cap9, junk, hfs, hG, hj, hcap, hmx⟩ := o.is.resolve_left (fun h9 => by have := congrArg List.length h9.1; rw [Z06] at this; simp only [List.length_nil] at this; omega)
    rw [Z06, hrn.len] at hfs hj hcap
    rw [hfs, hG]
    refine Sy.heap (H' := (bo, cel 38 ((Zf Sx).flatten ++ junk)) :: (bs, cel 72 [.slice a2 l2.length c2, .int .i64 (tqhs), .int .u32 (mxhs)]) :: ((b14, cel 26 (htl ⟨q.bins, G, Sx⟩ (.slice aG q.gaps.length cG) (.slice (some ⟨bo, 0, none⟩) q.sights.length cap9))) :: (br, cel 72 [.slice a1 l1.length c1, .int .i64 (tqd), .int .u32 (mxd)]) :: (bq, cel 72 [.slice a1 l1.length c1, .int .i64 (tqc), .int .u32 (mxc)]) :: (b7, cel 26 (htl q (q.sg ag cg) (q.ss (some ⟨ba, bao, none⟩) cSg))) :: (bk, cel 72 [.slice a0 l0.length c0, .int .i64 (tqb), .int .u32 (mxb)]) :: H)) (fun w h9 => h9) ?_
    have hsx1 : (Sx.set k x)[k]? = some x := List.getElem?_set_self (by omega)
    refine Z2 (Z0 (Z4 (sqt 5 rfl (pur 1 rfl (sp rfl (PE.indexAddr Z15 rfl rfl (by omega) (by omega)) rfl (spL rfl rfl (lf0 sc3 (ZF (Z3X hk)) rfl) rfl (pur 2 rfl (Z0 ?_))))))))
    refine Zc [0, 1, 0, 0, 8, 0, 56, 120, 255, 511] (.tk 0 (.ld 1 (.tk 2 (.tk 3 (.ld 4 (.tk 5 (.tk 6 (.ld 7 (.tk 8 (.big 9 .done)))))))))) Zr (by kernel_rfl) ?_
    refine tk rfl (PE.fA ZU rfl) rfl (ld rfl rfl (lh Z3q rfl rfl) rfl (Zp 1 rfl (tk rfl (PE.fA ZU rfl) rfl (ld rfl rfl (lh Z3q rfl rfl) rfl (Zp 1 rfl (tk rfl (PE.indexAddr Zb9 rfl rfl (by omega) (by omega)) rfl (ld rfl rfl (lfA Z9R (row := Z2q x) (Z78 hxx) rfl) rfl (tk rfl (PE.indexAddr Zb9 rfl rfl (by omega) (by omega)) rfl ?_))))))))
    refine ZD (l' := (Zf (Sx.set k x)).flatten ++ junk) rfl rfl rfl ZcG rfl rfl rfl (Zbp (by omega) (by show 0 + ((k : Nat) : Int).toNat * 3 = k * 3; omega)) (by rw [List.length_append, Z5d]; show 0 + ((k : Nat) : Int).toNat * 3 + 3 ≤ _; omega) ?_
    refine bgT ?_
    refine Zc [0, 1, 0, 0, 0, 16, 0, 112, 240, 496, 1016, 2040, 4095, 8191, 16383] (.tk 0 (.ld 1 (.tk 2 (.ld 3 (.tk 4 (.ld 5 (tks 6 3 (.ld 9 (.tk 10 (.ld 11 (.tk 12 (.tk 13 (.big 14 .done))))))))))))) Zr (by kernel_rfl) ?_
    refine tk rfl (PE.fA ZU rfl) rfl (ld rfl rfl (lh Z3q rfl rfl) rfl (Zp 1 rfl (ld rfl rfl (lfB (sz := 1) Z29 rfl) rfl (tk rfl (PE.fA ZU rfl) rfl (ld rfl rfl (lh Z3q rfl rfl) rfl (Zp 1 rfl (tk rfl (PE.indexAddr Zb9 rfl rfl (by omega) (by omega)) rfl (tk rfl (PE.fA Z2e rfl) rfl (ld rfl rfl (lf (j := 1) sc3 (Z78 hxx) rfl) rfl (tk rfl (PE.indexAddr Z15 rfl rfl (by omega) (by omega)) rfl (ld rfl rfl (lf0 sc3 (ZF (ZM (l := inl pb) (k := x.bin.toNat) (by rw [ZS]; omega))) rfl) rfl (tk rfl (PE.indexAddr Zb9 rfl rfl (by omega) (by omega)) rfl (tk rfl (PE.fA Z2e rfl) rfl ?_)))))))))))))
    refine ZD (l' := (Zf (Sx.set k (imS pb x))).flatten ++ junk) rfl rfl rfl cn3 rfl rfl rfl (by rw [show ((Value.int IntKind.i64 (na (inl pb) x.bin.toNat)).cells.toList) = [Value.int IntKind.i64 (na (inl pb) x.bin.toNat)] from rfl, Zc0 _ hsx1 (by show 0 + ((k : Nat) : Int).toNat * 3 + 1 = k * 3 + 1; omega), List.set_set]; rfl) (by rw [List.length_append, Z5d, List.length_set]; show 0 + ((k : Nat) : Int).toNat * 3 + 1 + 1 ≤ _; omega) ?_
    refine bgT (sqr 2 rfl (sp rfl (PE.add rfl rfl (by omega)) rfl (pur 1 rfl ?_)))
    exact Z8 ⟨⟨(i + 1, Sx.set k (imS pb x)), by dsimp only; omega, hst⟩, Z9i bo cap9 q.sights.length junk (Z4e _) (by rw [Z06, hst.len]) (by rw [Z06, hst.len]; exact hj) (by rw [Z06, hst.len]; exact hcap) hmx⟩ idH
    ·
     obtain rfl : i = q.sights.length := by omega
     obtain ⟨aT, cT, he, hcT, hzz⟩ := o.freezeC
     rw [Z06, hrn.len] at hcT
     rw [he, Z06, hrn.len]
     refine Sy.heap (fun w h9 => hzz h9) ?_
     clear he hzz
     obtain ⟨t, ht⟩ : ∃ t : Hse, t = ⟨q.bins, G, Sx⟩ := ⟨_, rfl⟩
     have hR : Rnm q t pb pg ps := by rw [ht]; exact ⟨rfl, hpb, hpg, hps, hrnG, hrn⟩
     rw [show htl ⟨q.bins, G, Sx⟩ (.slice aG q.gaps.length cG) (.slice aT q.sights.length cT) = htl t (t.sg aG cG) (t.ss aT cT) from by rw [ht]; unfold Hse.sg Hse.ss; dsimp only; rw [hrnG.len, hrn.len], show Zf Sx = Zf t.sights from by rw [ht], show Zg G = Zg t.gaps from by rw [ht]]
     have hokt := hR.ok hokq
     have htgl := hokt.gl
     have htsl := hokt.sl
     have htbn := hokt.bins
     have htb := hR.bins
     have hagt := hR.agr hokq haq
     have hfmt := hR.inr hfmr
     have hbott := Z9a hokt (hR.ls hfmr hfmn) (hR.ls htor hton) (hR.apart hfmr htor hap)
     have hifm := hR.lst hokq hfmr
     have hito := hR.lst hokq htor
     have hrfl : (rnm pb fm).length ≤ 7 := by unfold rnm; rw [List.length_map]; omega
     have hrtl : (rnm pb to_).length ≤ 7 := by unfold rnm; rw [List.length_map]; omega
     clear ht
     refine Z9 (Za (Za (Zn (sqt 8 rfl (spL rfl rfl (lhA (htl q (q.sg ag cg) (q.ss aS cSg)) Z0h rfl rfl rfl) rfl (pur 1 rfl ?_))))))
     refine cl rfl Z9J rfl rfl (Z5l q ag aS cg cSg hokq fm af cf hfe9 (by omega) hcf _ _) ?_
     rintro _ _ R1 ⟨aw, cw, rfl, rfl, hR1⟩
     obtain rfl := hR1.symm
     clear hR1
     have hWl := Z1Q hokq fm
     refine pur 5 rfl (Z0 ?_)
     refine Zc [0, 0, 0, 6, 15, 31, 63, 63, 127, 511] (.ld 0 (.tk 1 (.tk 2 (.big 3 (.big 4 (tks 5 5 .done)))))) Zr (by kernel_rfl) ?_
     refine ld rfl rfl (lhA (htl t (t.sg aG cG) (t.ss aT cT)) Z0h rfl rfl rfl) rfl (Zp 2 rfl ?_)
     refine clF rfl rfl (Z7r) rfl rfl (Z2N pb apb cpb b12 fm af cf (by omega) (by rw [hppl]; intro x hx; have := hfmr x hx; omega) (by omega) _ _) ?_
     rintro _ _ R1 ⟨a142, c142, hc142, rfl, rfl, hR1⟩
     obtain rfl := hR1.symm
     clear hR1
     refine bg (fun w hs => ⟨(lhA (htl t (t.sg aG cG) (t.ss aT cT)) Z0h rfl rfl rfl) w hs, trivial⟩) ?_
     refine cl rfl Z9J rfl rfl (Z5l t aG aT cG cT hokt (rnm pb fm) a142 c142 (hR.ls hfmr hfmn) (by omega) hc142 _ _) ?_
     rintro _ _ R1 ⟨av, cv, rfl, rfl, hR1⟩
     obtain rfl := hR1.symm
     clear hR1
     have hVl := Z1Q hokt (rnm pb fm)
     refine bgT (Zp 5 rfl (Z0 (sqt 20 rfl (pur 3 rfl ?_))))
     refine Zv 148 rfl ?_ ?_ <;> intro g148
     exact absurd g148 (by simp)
     ·
      refine pur 4 rfl ?_
      refine Zv 152 rfl ?_ ?_ <;> intro g152
      exact absurd g152 (by simp)
      ·
       refine pur 1 rfl ?_
       refine spG rfl rfl rfl rfl (PE.lenSl Zx rfl) rfl ?_
       refine spG rfl rfl rfl rfl (PE.fA Z04 rfl) rfl ?_
       refine Z37 rfl rfl rfl rfl rfl (lh (v := .int .i64 q.bins) sc3 rfl rfl) rfl (pur 3 rfl ?_)
       refine Zv 159 rfl ?_ ?_ <;> intro g159
       exact absurd g159 (by simp; omega)
       ·
        refine pur 1 rfl ?_
        refine spG rfl rfl rfl rfl (PE.lenSl Zx rfl) rfl ?_
        refine spG rfl rfl rfl rfl (PE.fA Z04 rfl) rfl ?_
        refine Z37 rfl rfl rfl rfl rfl (lh (v := .int .i64 q.bins) sc3 rfl rfl) rfl (pur 2 rfl ?_)
        refine Z1 rfl ?_ ?_ <;> intro hc2
        exact absurd hc2 (by simp; omega)
        ·
         refine Z2 (Z0 (sqt 3 rfl (spL rfl rfl (lfB (sz := 1) Z29 rfl) rfl (sp rfl (PE.lenSl Zx rfl) rfl (pur 1 rfl (Z4 ?_))))))
         refine Zh (ι := {b : Nat // b ≤ pb.length}) (fun b => ⟨[(7, .pointer (some ⟨b7, 0, none⟩)), (9, .slice af fm.length cf), (10, .slice ak to_.length ck), (12, .pointer (some ⟨b12, 0, none⟩)), (13, .func (.func 30) #[] #[.pointer (some ⟨b12, 0, none⟩)]), (14, .pointer (some ⟨b14, 0, none⟩)), (19, .slice aw q.bins.toNat cw), (21, .slice av t.bins.toNat cv), (166, .slice apb pb.length cpb), (167, .int .i64 pb.length), (168, .int .i64 b.1)], (b14, cel 26 (htl t (t.sg aG cG) (t.ss aT cT))) :: (bs, cel 72 [.slice a2 l2.length c2, .int .i64 (tqhs), .int .u32 (mxhs)]) :: (br, cel 72 [.slice a1 l1.length c1, .int .i64 (tqd), .int .u32 (mxd)]) :: (bq, cel 72 [.slice a1 l1.length c1, .int .i64 (tqc), .int .u32 (mxc)]) :: (b7, cel 26 (htl q (q.sg ag cg) (q.ss aS cSg))) :: (bk, cel 72 [.slice a0 l0.length c0, .int .i64 (tqb), .int .u32 (mxb)]) :: H, RowsA av 1 (Z3 (t.weeksV (rnm pb fm))) :: RowsA a142 1 (Z3 (rnm pb fm)) :: RowsA aw 1 (Z3 (q.weeksV fm)) :: RowsA aT 3 (Zf t.sights) :: RowsA aG 2 (Zg t.gaps) :: RowsA (some ⟨b12, 0, none⟩) 1 [[.slice apb pb.length cpb]] :: RowsA apb 1 (Z3 (inl pb)) :: RowsA ak 1 (Z3 to_) :: RowsA af 1 (Z3 fm) :: RowsA aS 3 (Zf q.sights) :: RowsA none 3 (Zf h.sights) :: RowsA ar 1 (Z3 fr) :: RowsA ag 2 (Zg q.gaps) :: R⟩) (fun b => pb.length - b.1) ⟨0, Nat.zero_le _⟩ ?_ (fun b => ?_)
         ·
          exact Zo (fun w h9 => (h9.perm (List.Perm.swap _ _ _)).facts (fun g hg => by simp only [List.mem_cons] at hg ⊢; rcases hg with h8 | h8 | h8 | h8 | h8 | h8 | h8 | h8 | h8 | h8 | h8 | h8 | h8 | h8 <;> simp [h8]))
         obtain ⟨b, hb⟩ := b
         dsimp only at hb ⊢
         refine sqt 1 rfl (pur 1 rfl (Z0 ?_))
         refine Z1 rfl ?_ ?_ <;> intro hc3 <;> try simp only [cS] at hc3
         obtain ⟨k, hk⟩ : ∃ k, pb[b]? = some k := ⟨_, List.getElem?_eq_getElem (by omega)⟩
         have hbk := hpb.bij.lt b k hk
         have hwv := hR.weeks hokq hfmr hk
         refine Zj (a := apb) (sz := 1) (rows := Z3 (inl pb)) (by intro h0; have := congrArg List.length h0; rw [irl] at this; simp only [List.length_nil] at this; rw [ZS] at this; omega) (fun bpb bpbo hebpb => ?_)
         subst hebpb
         refine Zj (a := aw) (sz := 1) (rows := Z3 (q.weeksV fm)) (ne0 (by rw [irl]; omega)) (fun bw bwo hebw => ?_)
         subst hebw
         refine Zj (a := av) (sz := 1) (rows := Z3 (t.weeksV (rnm pb fm))) (ne0 (by rw [irl]; omega)) (fun bv bvo hebv => ?_)
         subst hebv
         refine Z2 (Z0 (Z4 (sqt 5 rfl (pur 1 rfl (sp rfl (PE.indexAddr Z15 rfl rfl (by omega) (by omega)) rfl (spL rfl rfl (lf0 sc3 (ZF (Z3X hk)) rfl) rfl (pur 2 rfl (Z0 ?_))))))))
         refine Zc [0, 0, 3, 7, 0, 0, 48, 112, 255] (tks 0 3 (.ld 3 (tks 4 3 (.ld 7 (.tk 8 .done))))) Zr (by kernel_rfl) ?_
         refine Zp 2 rfl (tk rfl (PE.indexAddr Z15 rfl rfl (by omega) (by omega)) rfl (ld rfl rfl (lf0 sc3 (ZF (ZM (l := q.weeksV fm) (k := b) (by omega))) rfl) rfl (Zp 2 rfl (tk rfl (PE.indexAddr Z15 rfl rfl (by omega) (by omega)) rfl (ld rfl rfl (lf0 sc3 (ZF (ZM (l := t.weeksV (rnm pb fm)) (k := k) (by omega))) rfl) rfl (Zp 1 rfl ?_))))))
         refine Z1 rfl ?_ ?_ <;> intro hc4
         rw [hwv] at hc4; exact absurd hc4 (by simp)
         refine Z2 (sqr 2 rfl (sp rfl (PE.add rfl rfl (by omega)) rfl (pur 1 rfl ?_)))
         exact Z8 ⟨b + 1, by omega⟩ idH
         refine Z9 (Za (Za (Zn (sqt 7 rfl (spL rfl rfl (lhA (htl q (q.sg ag cg) (q.ss aS cSg)) Z0h rfl rfl rfl) rfl ?_)))))
         refine cl rfl ZaH rfl rfl (Z2X q ag aS cg cSg (by omega) (by omega) _ _) ?_
         rintro _ _ R1 ⟨ao1, co1, hco19, rfl, rfl, hR1⟩
         obtain rfl := hR1.symm
         clear hR1
         obtain ⟨few, hfew, horg⟩ := Z9l hokq haq
         rw [hfew]
         refine pur 5 rfl (sqt 7 rfl (spL rfl rfl (lhA (htl t (t.sg aG cG) (t.ss aT cT)) Z0h rfl rfl rfl) rfl ?_))
         refine cl rfl ZaH rfl rfl (Z2X t aG aT cG cT (by omega) (by omega) _ _) ?_
         rintro _ _ R1 ⟨ao2, co2, hco29, rfl, rfl, hR1⟩
         obtain rfl := hR1.symm
         clear hR1
         obtain ⟨now, hnow, horn⟩ := Z9l hokt hagt
         rw [hnow]
         have hfn : few.length = now.length := hR.org hokq horg horn
         refine pur 5 rfl (sqt 9 rfl (spL rfl rfl (lhA (htl q (q.sg ag cg) (q.ss aS cSg)) Z0h rfl rfl rfl) rfl (pur 2 rfl ?_)))
         refine cl rfl Zad rfl rfl (Z9C q ag aS cg cSg hokq fm to_ af ak cf ck (by omega) (by omega) hcf hck9 hbot _ _) ?_
         rintro _ _ R1 ⟨X, ac, cc, hcut, hshut, hcc, rfl, rfl, hR1⟩
         obtain rfl := hR1.symm
         clear hR1
         refine pur 5 rfl (Z0 ?_)
         refine Zc [0, 0, 0, 6, 0, 0, 62, 127, 255, 511, 511, 1023, 4095] (.ld 0 (.tk 1 (.tk 2 (.tk 4 (.tk 5 (.big 3 (.big 6 (.big 7 (tks 8 5 .done))))))))) Zr (by kernel_rfl) ?_
         refine ld rfl rfl (lhA (htl t (t.sg aG cG) (t.ss aT cT)) Z0h rfl rfl rfl) rfl (Zp 4 rfl ?_)
         refine clF rfl rfl (Z7r) rfl rfl (Z2N pb apb cpb b12 fm af cf (by omega) (by rw [hppl]; intro x hx; have := hfmr x hx; omega) (by omega) _ _) ?_
         rintro _ _ R1 ⟨a204, c204, hc204, rfl, rfl, hR1⟩
         obtain rfl := hR1.symm
         clear hR1
         refine bg (fun w hs => ⟨(lhA (htl t (t.sg aG cG) (t.ss aT cT)) Z0h rfl rfl rfl) w hs, trivial⟩) ?_
         refine clF rfl rfl (Z7r) rfl rfl (Z2N pb apb cpb b12 to_ ak ck (by omega) (by rw [hppl]; intro x hx; have := htor x hx; omega) (by omega) _ _) ?_
         rintro _ _ R1 ⟨a207, c207, hc207, rfl, rfl, hR1⟩
         obtain rfl := hR1.symm
         clear hR1
         refine bg (fun w hs => ⟨(lhA (htl t (t.sg aG cG) (t.ss aT cT)) Z0h rfl rfl rfl) w hs, trivial⟩) ?_
         refine cl rfl Zad rfl rfl (Z9C t aG aT cG cT hokt (rnm pb fm) (rnm pb to_) a204 a207 c204 c207 (by omega) (by omega) hc204 hc207 hbott _ _) ?_
         rintro _ _ R1 ⟨X2, ac2, cc2, hcut2, hshut2, hcc2, rfl, rfl, hR1⟩
         obtain rfl := hR1.symm
         clear hR1
         have hce := (hR.sim hokq).cut hifm hito hcut hcut2
         refine bgT (Zp 5 rfl (sqt 9 rfl ?_))
         have hpi : ∀ k, Pl q.gaps (msk to_) 1 (msk fm) 0 k ↔ Pl t.gaps (msk (rnm pb to_)) 1 (msk (rnm pb fm)) 0 k := fun k => (hR.sim hokq).plan hifm hito
         refine spL rfl rfl (lhA (htl q (q.sg ag cg) (q.ss aS cSg)) Z0h rfl rfl rfl) rfl (pur 2 rfl ?_)
         refine cl rfl Z9V rfl rfl (Z9w q ag aS cg cSg hokq fm to_ af ak cf ck (by omega) (by omega) hcf hck9 hbot 1 (by omega) 1 rfl (Pl q.gaps (msk to_) 1 (msk fm) 0) (fun n => Iff.rfl) _ _) ?_
         rintro _ _ R1 ⟨⟨n1, e1, hn1, rfl⟩, rfl, hR1⟩
         obtain rfl := hR1.symm
         clear hR1
         refine pur 5 rfl (Z0 ?_)
         refine Zc [0, 0, 0, 6, 0, 0, 62, 127, 255, 511, 511, 1023, 4095] (.ld 0 (.tk 1 (.tk 2 (.tk 4 (.tk 5 (.big 3 (.big 6 (.big 7 (tks 8 5 .done))))))))) Zr (by kernel_rfl) ?_
         refine ld rfl rfl (lhA (htl t (t.sg aG cG) (t.ss aT cT)) Z0h rfl rfl rfl) rfl (Zp 4 rfl ?_)
         refine clF rfl rfl (Z7r) rfl rfl (Z2N pb apb cpb b12 fm af cf (by omega) (by rw [hppl]; intro x hx; have := hfmr x hx; omega) (by omega) _ _) ?_
         rintro _ _ R1 ⟨a222, c222, hc222, rfl, rfl, hR1⟩
         obtain rfl := hR1.symm
         clear hR1
         refine bg (fun w hs => ⟨(lhA (htl t (t.sg aG cG) (t.ss aT cT)) Z0h rfl rfl rfl) w hs, trivial⟩) ?_
         refine clF rfl rfl (Z7r) rfl rfl (Z2N pb apb cpb b12 to_ ak ck (by omega) (by rw [hppl]; intro x hx; have := htor x hx; omega) (by omega) _ _) ?_
         rintro _ _ R1 ⟨a225, c225, hc225, rfl, rfl, hR1⟩
         obtain rfl := hR1.symm
         clear hR1
         refine bg (fun w hs => ⟨(lhA (htl t (t.sg aG cG) (t.ss aT cT)) Z0h rfl rfl rfl) w hs, trivial⟩) ?_
         refine cl rfl Z9V rfl rfl (Z9w t aG aT cG cT hokt (rnm pb fm) (rnm pb to_) a222 a225 c222 c225 (by omega) (by omega) hc222 hc225 hbott 1 (by omega) 1 rfl (Pl q.gaps (msk to_) 1 (msk fm) 0) (fun n => (hpi n).symm) _ _) ?_
         rintro _ _ R1 ⟨⟨n2, e2, hn2, rfl⟩, rfl, hR1⟩
         obtain rfl := hR1.symm
         clear hR1
         obtain ⟨rfl, rfl⟩ := Z8J hn1 hn2
         refine bgT (Zp 5 rfl (sqt 42 rfl (pur 3 rfl ?_)))
         refine Zv 231 rfl ?_ ?_ <;> intro g231
         refine pur 4 rfl ?_
         refine Zv 235 rfl ?_ ?_ <;> intro g235
         refine pur 4 rfl ?_
         refine Zv 239 rfl ?_ ?_ <;> intro g239
         refine pur 4 rfl ?_
         refine Zv 243 rfl ?_ ?_ <;> intro g243
         refine pur 5 rfl ?_
         refine Zv 248 rfl ?_ ?_ <;> intro g248
         refine pur 1 rfl ?_
         refine spG rfl rfl rfl rfl (PE.lenSl Zx rfl) rfl ?_
         refine pur 1 rfl ?_
         refine spG rfl rfl rfl rfl (PE.lenSl Zx rfl) rfl ?_
         refine pur 3 rfl ?_
         refine Zv 255 rfl ?_ ?_ <;> intro g255
         refine pur 1 rfl ?_
         refine spG rfl rfl rfl rfl (PE.lenSl Zx rfl) rfl ?_
         refine pur 1 rfl ?_
         refine spG rfl rfl rfl rfl (PE.lenSl Zx rfl) rfl ?_
         refine pur 3 rfl ?_
         refine Zv 262 rfl ?_ ?_ <;> intro g262
         refine pur 5 rfl ?_
         refine Zv 267 rfl ?_ ?_ <;> intro g267
         refine Z9b rfl rfl rfl rfl ZdT rfl rfl (Zae _ _) ?_
         refine pur 2 rfl (Z6 ?_)
         exact rtA rfl rfl rfl ⟨rfl, rfl, rfl⟩ (fun w h9 => ((((((h9.del b14).del bs).del br).del bq).del b7).del bk).sub)
         exact absurd g267 (by simp)
         simp only [decide_eq_false_iff_not] at g262; omega
         simp only [decide_eq_false_iff_not] at g255; omega
         exact absurd g248 (by simp)
         exact absurd g243 (by simp)
         exact absurd g239 (by simp)
         exact absurd g235 (by simp)
         exact absurd g231 (by simp)
end Go.Proofs.Ythfgcnmcipcbbaa
