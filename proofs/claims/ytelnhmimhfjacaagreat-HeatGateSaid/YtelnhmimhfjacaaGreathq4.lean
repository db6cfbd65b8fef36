/- Walks of the functions of the program, and the laws that join them: what the last theorem of this claim needs, in order. -/
import Derived.Test.YtelnhmimhfjacaaGreathq3
namespace Go.Proofs.YtelnhmimhfjacaaGreat.Ht
set_option linter.unusedSimpArgs false
set_option linter.unusedVariables false
open Go
theorem Zfw : apT Tryz.prog 91 = some (3, 1, 8) := by kernel_rfl
theorem sc4 : Z1v Tryz.prog 4 = true := by kernel_rfl
theorem Z3r : Z1v Tryz.prog 80 = true := by kernel_rfl
theorem Barn.dsk_ok {b : Barn} (hb : b.ok) : b.dsk.ok where
  n := hb.many
  gangs := hb.gangs
  lasts := b.lasts_sml hb
  most := b.most_sml hb
  le k hk := by
    obtain ⟨x, hx⟩ : ∃ x, b.bins[k]? = some x := ⟨_, List.getElem?_eq_getElem hk⟩
    have h1 : na b.lasts k = _ := Z13 (b.map_get hb _ hx)
    have h2 : na b.most k = _ := Z13 (b.map_get hb _ hx)
    show na b.lasts k ≤ na b.most k
    rw [h1, h2]; omega
  ever k hk := by
    obtain ⟨x, hx⟩ : ∃ x, b.bins[k]? = some x := ⟨_, List.getElem?_eq_getElem hk⟩
    have hm := List.mem_of_getElem? hx
    have h1 : na b.lasts k = _ := Z13 (b.map_get hb _ hx)
    have h2 : na b.most k = _ := Z13 (b.map_get hb _ hx)
    show (na b.lasts k = 1000000 ∨ na b.lasts k ≤ 10) ∧ (na b.most k = 1000000 ∨ na b.most k ≤ 10) ∧ (na b.lasts k = 1000000 ↔ na b.most k = 1000000)
    have r1 := b.days_range hb hm (hb.bins x hm).2.1.1
    have r2 := b.days_range hb hm hb.cool.1
    rw [h1, h2]
    have e : b.days x x.warm = 1000000 ↔ b.days x b.cool = 1000000 := by
      have z : ∀ w, 0 ≤ w → (b.days x w = 1000000 ↔ b.worst x = 0) := fun w hw => by
        constructor
        · intro h
          rcases Classical.em (b.worst x = 0) with h0 | h0
          · exact h0
          · have h9 := b.worst_range hb hm
            have h8 := (hb.bins x hm).1
            unfold Barn.days Z00 at h
            rw [decide_eq_false h0, cond_false] at h
            by_cases h3 : x.mark < w
            · rw [decide_eq_true h3, cond_true] at h; omega
            · rw [decide_eq_false h3, cond_false] at h
              have : (x.mark - w) / b.worst x < 11 := Int.ediv_lt_of_lt_mul (by omega) (by omega)
              omega
        · intro h; unfold Barn.days Z00; rw [h]; rfl
      rw [z _ (hb.bins x hm).2.1.1, z _ hb.cool.1]
    omega
theorem Z8n (l : List Nat) : (il l).length = l.length := by simp [il]
theorem Z3F (bd : Nat) (full : Bool) (H : Z7) (R : Z5) :
    Fn Tryz.prog 85 [.pointer (some ⟨bd, 0, none⟩), .bool full] H R (fun v H' R' => ∃ xb xf, v = .func (.func 103) #[] #[.pointer (some ⟨xb, 0, none⟩), .pointer (some ⟨xf, 0, none⟩)] ∧ H' = H ∧ R' = RowsA (some ⟨xf, 0, none⟩) 1 [[.bool full]] :: RowsA (some ⟨xb, 0, none⟩) 1 [[.pointer (some ⟨bd, 0, none⟩)]] :: R) := by
 refine Z9 Tryz.func85 rfl Tryz.ntmps85 rfl ?_
 refine sqt 3 rfl (bx rfl rfl rfl (fun b2 => bx rfl rfl rfl (fun b3 => pur 1 rfl (sqt 2 rfl (sp rfl (PE.makeFunc rfl rfl) rfl (pur 1 rfl (Z1 ?_)))))))
 refine Sy.heap (fun w h => St.rows (sz := 1) (rows := [[.pointer (some ⟨bd, 0, none⟩)]]) (rest := []) (h.pull b2) (by simp)) ?_
 refine Sy.heap (fun w h => St.rows (sz := 1) (rows := [[.bool full]]) (rest := []) (h.pull b3) (by simp)) ?_
 exact rtA rfl rfl rfl ⟨b2, b3, rfl, rfl, rfl⟩ idH
theorem Z4d (bd : Nat) (H : Z7) (R : Z5) :
    Fn Tryz.prog 57 [.pointer (some ⟨bd, 0, none⟩)] H R (fun v H' R' => ∃ xb, v = .func (.func 84) #[] #[.pointer (some ⟨xb, 0, none⟩)] ∧ H' = H ∧ R' = RowsA (some ⟨xb, 0, none⟩) 1 [[.pointer (some ⟨bd, 0, none⟩)]] :: R) := by
 refine Z9 Tryz.func57 rfl Tryz.ntmps57 rfl ?_
 refine sqt 2 rfl (bx rfl rfl rfl (fun b1 => pur 1 rfl (sqt 2 rfl (sp rfl (PE.makeFunc rfl rfl) rfl (pur 1 rfl (Z1 ?_))))))
 refine Sy.heap (fun w h => St.rows (sz := 1) (rows := [[.pointer (some ⟨bd, 0, none⟩)]]) (rest := []) (h.pull b1) (by simp)) ?_
 exact rtA rfl rfl rfl ⟨b1, rfl, rfl, rfl⟩ idH
theorem Z2M (b : Barn) (hok : b.ok) (ab : Option Addr) (cb bd m : Nat) (full : Bool) (xb xf lp : Nat) (I : Nat → Z7 → Z5 → Prop) (E : Z7 → Z5 → Prop) (hI : ∀ k H R, I k H R → RowsA (some ⟨xb, 0, none⟩) 1 [[.pointer (some ⟨bd, 0, none⟩)]] ∈ R ∧ RowsA (some ⟨xf, 0, none⟩) 1 [[.bool full]] ∈ R ∧ RowsA (some ⟨bd, 0, none⟩) 18 [dcs b (b.sl ab cb) b.lasts b.most m] ∈ R)
    (hy : ∀ k l a c H R, (b.dsk.trs full)[k]? = some l → I k H R → Yd Tryz.prog lp [.slice a l.length c] H (RowsA a 1 (Zn (il l)) :: R) (fun v H' R' => (v = .bool true ∧ I (k + 1) H' R') ∨ (v = .bool false ∧ E H' R'))) (H : Z7) (R : Z5) (h0 : I 0 H R) :
    Fn Tryz.prog 103 [yv lp, .pointer (some ⟨xb, 0, none⟩), .pointer (some ⟨xf, 0, none⟩)] H R (fun _ H' R' => I (b.dsk.trs full).length H' R' ∨ E H' R') := by
 have hmn := hok.many
 have hgg := hok.gangs
 obtain ⟨hF1, hF2, hF3⟩ := hI _ _ _ h0
 haveI : MemRows (some ⟨xb, 0, none⟩) 1 [[.pointer (some ⟨bd, 0, none⟩)]] R := ⟨hF1⟩
 haveI : MemRows (some ⟨xf, 0, none⟩) 1 [[.bool full]] R := ⟨hF2⟩
 haveI : MemRows (some ⟨bd, 0, none⟩) 18 [dcs b (b.sl ab cb) b.lasts b.most m] R := ⟨hF3⟩
 refine Z9 Tryz.func103 rfl Tryz.ntmps103 rfl ?_
 refine Z0 ?_
 refine Z8 [0, 1, 3, 7, 15, 0, 32, 96, 224, 480, 992, 2047, 4095] (.ld 0 (tks 1 3 (.ld 4 (.ld 5 (tks 6 3 (.ld 9 (tks 10 3 .done))))))) Zr (by kernel_rfl) ?_
 refine ld rfl rfl (lfB (sz := 1) Z3r rfl) rfl (tk rfl (PE.nilCheck rfl) rfl (tk rfl (PE.fA Z1y rfl) rfl (tk rfl (PE.fA Z1C rfl) rfl (ld rfl rfl (lfB (sz := 18) sc3 rfl) rfl (ld rfl rfl (lfB (sz := 1) Z3r rfl) rfl (tk rfl (PE.nilCheck rfl) rfl (tk rfl (PE.fA Z1y rfl) rfl (tk rfl (PE.fA Zj rfl) rfl (ld rfl rfl (lfB (sz := 18) Z0b rfl) rfl (tk rfl (PE.lenSl Z0G rfl) rfl (tk rfl (PE.min rfl rfl) rfl (Zg 1 rfl (sqt 8 rfl (spL rfl rfl (lfB (sz := 1) Z3r rfl) rfl (sp rfl (PE.nilCheck rfl) rfl ?_)))))))))))))))
 refine sp rfl (PE.fA Z1y rfl) rfl (sp rfl (PE.fA Zj rfl) rfl (spL rfl rfl (lfB (sz := 18) Z0b rfl) rfl (sp rfl (PE.lenSl Z0G rfl) rfl (sp rfl (PE.shlN (m := 1) (n := b.bins.length) rfl rfl rfl (by omega) (by have := Nat.pow_le_pow_right (show 0 < 2 by decide) hmn.2; omega)) rfl (pur 1 rfl (Z3 ?_))))))
 have h16 : 2 ^ b.bins.length ≤ 16 := Nat.pow_le_pow_right (show 0 < 2 by decide) hmn.2
 refine Ze (ι := {x : Nat × Z7 × Z5 // x.1 ≤ 2 ^ b.bins.length ∧ I (b.dsk.cnt full x.1) x.2.1 x.2.2}) (fun x => ⟨[(0, yv lp), (1, .pointer (some ⟨xb, 0, none⟩)), (2, .pointer (some ⟨xf, 0, none⟩)), (4, .int .i64 b.dsk.g), (26, .int .i64 ((1 * 2 ^ b.bins.length : Nat) : Int)), (27, .int .i64 x.1.1)], x.1.2.1, x.1.2.2⟩) (fun x => 2 ^ b.bins.length - x.1.1) ⟨(0, H, R), Nat.zero_le _, by rw [Dsk.cnt_zero]; exact h0⟩ ?_ (fun x => ?_)
 exact Zl idH
 obtain ⟨⟨i, H0, R0⟩, hi, hI0⟩ := x
 dsimp only at hi hI0 ⊢
 obtain ⟨hF1, hF2, hF3⟩ := hI _ _ _ hI0
 haveI : MemRows (some ⟨xb, 0, none⟩) 1 [[.pointer (some ⟨bd, 0, none⟩)]] R0 := ⟨hF1⟩
 haveI : MemRows (some ⟨xf, 0, none⟩) 1 [[.bool full]] R0 := ⟨hF2⟩
 haveI : MemRows (some ⟨bd, 0, none⟩) 18 [dcs b (b.sl ab cb) b.lasts b.most m] R0 := ⟨hF3⟩
 refine sqt 1 rfl (pur 1 rfl (Z0 ?_))
 refine Z2 rfl ?_ ?_ <;> intro hc0 <;> try simp only [cS] at hc0
 have hi2 : i < 2 ^ b.bins.length := by omega
 refine Z4 (Z0 (Z3 (sqt 2 rfl (pur 2 rfl (sqt 1 rfl (pur 1 rfl (Z0 (sqt 7 rfl (spL rfl rfl (lfB (sz := 1) Z3r rfl) rfl (sp rfl (PE.nilCheck rfl) rfl (sp rfl (PE.fA Z1y rfl) rfl (sp rfl (PE.fA Zj rfl) rfl (spL rfl rfl (lfB (sz := 18) Z0b rfl) rfl (sp rfl (PE.lenSl Z0G rfl) rfl (pur 1 rfl ?_)))))))))))))))
 refine Z3 ?_
 refine Ze (ι := (k : {k : Nat // k ≤ b.bins.length}) × OSl 3 1 (Zn (il (ZF k.1 i)))) (fun x => ⟨[(0, yv lp), (1, .pointer (some ⟨xb, 0, none⟩)), (2, .pointer (some ⟨xf, 0, none⟩)), (4, .int .i64 b.dsk.g), (26, .int .i64 ((1 * 2 ^ b.bins.length : Nat) : Int)), (27, .int .i64 i), (5, .int .i64 i), (6, x.2.fs), (35, .int .i64 b.bins.length), (36, .int .i64 x.1.1)], x.2.G ++ H0, R0⟩) (fun x => b.bins.length - x.1.1) ⟨⟨0, by omega⟩, OSl.nil _ _⟩ ?_ (fun x => ?_)
 exact Zl idH
 obtain ⟨⟨k, hk⟩, o⟩ := x
 dsimp only at hk o ⊢
 refine sqt 1 rfl (pur 1 rfl (Z0 ?_))
 refine Z2 rfl ?_ ?_ <;> intro hc1 <;> try simp only [cS] at hc1
 have eb := Z36 k i
 refine Z4 (Z0 (Z3 (sqt 2 rfl (pur 2 rfl (sqt 5 rfl (pur 2 rfl (sp rfl (PE.shrN (m := i) (n := k) rfl rfl (by omega)) rfl (sp rfl (PE.andN (m := i >>> k) (n := 1) rfl rfl rfl (Nat.le_trans (Nat.shiftRight_le _ _) (by omega)) (by decide)) rfl (pur 1 rfl ?_)))))))))
 refine Z2 rfl ?_ ?_ <;> intro hc2
 rw [Z4s] at hc2
 rw [hc2, cond_true] at eb
 refine sqr 5 rfl (pur 2 rfl ?_)
 refine bsl (out := [_]) rfl Z5A zl3 rfl rfl rfl rfl rfl rfl (fun b46 => ?_)
 refine apO (o) rfl Zfw rfl rfl (Z3g (row := [.int .i64 k]) rfl) rfl rfl ((by have := Z0X k i; simp only [Zn, il, List.length_map, List.length_singleton]; omega)) rfl (fun o47 => ?_)
 refine pur 1 rfl (sqr 2 rfl (sp rfl (PE.add rfl rfl (by omega)) rfl (pur 1 rfl ?_)))
 first
   | exact Zd ⟨⟨k + 1, by omega⟩, o47.cast (by rw [eb]; simp [Zn, il])⟩ (by dsimp only; omega) (fun w h => h.del b46)
   | exact Zd ⟨⟨k + 1, by omega⟩, o.cast (by rw [eb])⟩ (by dsimp only; omega) idH
 rw [Z4s] at hc2
 rw [hc2, cond_false, List.append_nil] at eb
 refine Z4 (sqr 2 rfl (sp rfl (PE.add rfl rfl (by omega)) rfl (pur 1 rfl ?_)))
 first
   | exact Zd ⟨⟨k + 1, by omega⟩, o47.cast (by rw [eb]; simp [Zn, il])⟩ (by dsimp only; omega) (fun w h => h.del b46)
   | exact Zd ⟨⟨k + 1, by omega⟩, o.cast (by rw [eb])⟩ (by dsimp only; omega) idH
 obtain rfl : k = b.bins.length := by omega
 obtain ⟨al, cl, he, hf⟩ := o.freeze
 rw [he]
 refine Sy.heap (fun w h => hf h) ?_
 clear he hf
 rw [show (Zn (il (ZF b.bins.length i))).length = (ZF b.bins.length i).length from by simp [Zn, il]]
 have hbl := Z0X b.bins.length i
 refine Zb (Zc (Zc (ZA (Z0 (sqt 13 rfl (pur 1 rfl (sp rfl (PE.lenSl Z1u rfl) rfl (pur 3 rfl ?_))))))))
 refine Zy 53 rfl ?_ ?_ <;> intro g53
 try simp only [cS] at g53
 have hmy : b.dsk.may full (ZF b.dsk.n i) = false := by unfold Dsk.may; rw [dT (show b.dsk.g < ((ZF b.dsk.n i).length : Int) from g53)]; rfl
 have hcn := b.dsk.cnt_no (full := full) hi2 hmy
 refine pur 2 rfl ?_
 repeat refine spU rfl rfl rfl rfl rfl rfl rfl ?_
 refine pur 2 rfl ?_
 refine Zv rfl ?_
 refine Zb (Zc (ZA (sqr 2 rfl (sp rfl (PE.add rfl rfl (by omega)) rfl (pur 1 rfl ?_)))))
 first | exact Zd ⟨(i + 1, H3, R3), by dsimp only; omega, by dsimp only; rw [hcn]; exact hI3⟩ (by dsimp only; omega) idH | exact Zd ⟨(i + 1, H0, R0), by dsimp only; omega, by dsimp only; rw [hcn]; exact hI0⟩ (by dsimp only; omega) (fun w h => h.ftail)
 try simp only [cS] at g53
 refine Z25 rfl rfl rfl rfl rfl (lfB (sz := 1) sc4 rfl) rfl (pur 1 rfl ?_)
 refine Zy 55 rfl ?_ ?_ <;> intro g55
 refine pur 1 rfl ?_
 refine spG rfl rfl rfl rfl (PE.lenSl Z1u rfl) rfl ?_
 refine pur 4 rfl ?_
 refine Z2 rfl ?_ ?_ <;> intro hc3 <;> try simp only [cS] at hc3
 have hmy : b.dsk.may full (ZF b.dsk.n i) = false := by unfold Dsk.may; rw [dF (show ¬ b.dsk.g < ((ZF b.dsk.n i).length : Int) from Int.not_lt.2 g53), g55, dT (show ((ZF b.dsk.n i).length : Int) < b.dsk.g from hc3)]; rfl
 have hcn := b.dsk.cnt_no (full := full) hi2 hmy
 refine Zb (Zc (ZA (sqr 2 rfl (sp rfl (PE.add rfl rfl (by omega)) rfl (pur 1 rfl ?_)))))
 first | exact Zd ⟨(i + 1, H3, R3), by dsimp only; omega, by dsimp only; rw [hcn]; exact hI3⟩ (by dsimp only; omega) idH | exact Zd ⟨(i + 1, H0, R0), by dsimp only; omega, by dsimp only; rw [hcn]; exact hI0⟩ (by dsimp only; omega) (fun w h => h.ftail)
 have hmy : b.dsk.may full (ZF b.dsk.n i) = true := by unfold Dsk.may; rw [dF (show ¬ b.dsk.g < ((ZF b.dsk.n i).length : Int) from Int.not_lt.2 g53), g55, dF (show ¬ ((ZF b.dsk.n i).length : Int) < b.dsk.g from Int.not_lt.2 hc3)]; rfl
 obtain ⟨hcn, htr⟩ := b.dsk.cnt_yes (full := full) hi2 hmy
 refine Z4 (sqt 4 rfl (pur 2 rfl ?_))
 refine clY rfl rfl rfl rfl (hy _ _ al cl _ _ htr hI0) ?_
 rintro v H3 R3 (⟨rfl, hI3⟩ | ⟨rfl, hE3⟩)
 refine pur 1 rfl ?_
 refine ZD rfl ?_
 refine Z4 (sqr 2 rfl (sp rfl (PE.add rfl rfl (by omega)) rfl (pur 1 rfl ?_)))
 first | exact Zd ⟨(i + 1, H3, R3), by dsimp only; omega, by dsimp only; rw [hcn]; exact hI3⟩ (by dsimp only; omega) idH | exact Zd ⟨(i + 1, H0, R0), by dsimp only; omega, by dsimp only; rw [hcn]; exact hI0⟩ (by dsimp only; omega) (fun w h => h.ftail)
 refine pur 1 rfl ?_
 refine Zv rfl ?_
 refine Z1 ?_
 exact Z6 (vs := []) rfl .nil rfl (.inr hE3) idH
 try simp only [cS] at g55
 have hmy : b.dsk.may full (ZF b.dsk.n i) = true := by unfold Dsk.may; rw [dF (show ¬ b.dsk.g < ((ZF b.dsk.n i).length : Int) from Int.not_lt.2 g53), g55]; rfl
 obtain ⟨hcn, htr⟩ := b.dsk.cnt_yes (full := full) hi2 hmy
 refine pur 6 rfl ?_
 refine ZD rfl ?_
 refine Z4 (sqt 4 rfl (pur 2 rfl ?_))
 refine clY rfl rfl rfl rfl (hy _ _ al cl _ _ htr hI0) ?_
 rintro v H3 R3 (⟨rfl, hI3⟩ | ⟨rfl, hE3⟩)
 refine pur 1 rfl ?_
 refine ZD rfl ?_
 refine Z4 (sqr 2 rfl (sp rfl (PE.add rfl rfl (by omega)) rfl (pur 1 rfl ?_)))
 first | exact Zd ⟨(i + 1, H3, R3), by dsimp only; omega, by dsimp only; rw [hcn]; exact hI3⟩ (by dsimp only; omega) idH | exact Zd ⟨(i + 1, H0, R0), by dsimp only; omega, by dsimp only; rw [hcn]; exact hI0⟩ (by dsimp only; omega) (fun w h => h.ftail)
 refine pur 1 rfl ?_
 refine Zv rfl ?_
 refine Z1 ?_
 exact Z6 (vs := []) rfl .nil rfl (.inr hE3) idH
 obtain rfl : i = 2 ^ b.bins.length := by omega
 have hce : b.dsk.cnt full (2 ^ b.bins.length) = (b.dsk.trs full).length := b.dsk.cnt_end full
 refine Zb (Zc (Zc (ZA ?_)))
 exact Zbc (vs := []) rfl .nil rfl (.inl (hce ▸ hI0)) idH
theorem Z31 (b : Barn) (hok : b.ok) (ab : Option Addr) (cb bd m : Nat) (xb lp : Nat) (I : Nat → Z7 → Z5 → Prop) (E : Z7 → Z5 → Prop) (hI : ∀ k H R, I k H R → RowsA (some ⟨xb, 0, none⟩) 1 [[.pointer (some ⟨bd, 0, none⟩)]] ∈ R ∧ RowsA (some ⟨bd, 0, none⟩) 18 [dcs b (b.sl ab cb) b.lasts b.most m] ∈ R)
    (hy : ∀ k s q o H R, b.dsk.sts[k]? = some s → I k H R → Yd Tryz.prog lp [stv s] ((q, o) :: H) R (fun v H' R' => (v = .bool true ∧ ∃ H2, H' = (q, o) :: H2 ∧ I (k + 1) H2 R') ∨ (v = .bool false ∧ ∃ H2, H' = (q, o) :: H2 ∧ E H2 R'))) (H : Z7) (R : Z5) (h0 : I 0 H R) :
    Fn Tryz.prog 84 [yv lp, .pointer (some ⟨xb, 0, none⟩)] H R (fun _ H' R' => I b.dsk.nst H' R' ∨ E H' R') := by
 have hmn := hok.many
 have hdk := b.dsk_ok hok
 have hl4 := hdk.lasts.len
 have hm4 := hdk.most.len
 obtain ⟨hF1, hF3⟩ := hI _ _ _ h0
 haveI : MemRows (some ⟨xb, 0, none⟩) 1 [[.pointer (some ⟨bd, 0, none⟩)]] R := ⟨hF1⟩
 haveI : MemRows (some ⟨bd, 0, none⟩) 18 [dcs b (b.sl ab cb) b.lasts b.most m] R := ⟨hF3⟩
 refine Z9 Tryz.func84 rfl Tryz.ntmps84 rfl ?_
 refine sqt 3 rfl (sp rfl (PE.zero (.inr (by rw [Z2B]; rfl)) Z4u) rfl (alc rfl Z4u rfl (fun b3 => ?_)))
 refine sto rfl rfl rfl Z4I rfl rfl rfl rfl ?_
 refine Z0 (sqt 7 rfl (spL rfl rfl (lfB (sz := 1) Z3r rfl) rfl (sp rfl (PE.nilCheck rfl) rfl (sp rfl (PE.fA Z1y rfl) rfl (sp rfl (PE.fA Zj rfl) rfl (spL rfl rfl (lfB (sz := 18) Z0b rfl) rfl (sp rfl (PE.lenSl Z0G rfl) rfl (pur 1 rfl (Z3 ?_)))))))))
 refine Ze (ι := {k : Nat // k ≤ b.bins.length}) (fun k => ⟨[(0, yv lp), (1, .pointer (some ⟨xb, 0, none⟩)), (3, .pointer (some ⟨b3, 0, none⟩)), (12, .int .i64 b.bins.length), (13, .int .i64 k.1)], (b3, cel 83 (Za (zst b.dsk k.1))) :: H, R⟩) (fun k => b.bins.length - k.1) ⟨0, by omega⟩ ?_ (fun k => ?_)
 exact Zl idH
 obtain ⟨k, hk⟩ := k
 dsimp only at hk ⊢
 refine sqt 1 rfl (pur 1 rfl (Z0 ?_))
 refine Z2 rfl ?_ ?_ <;> intro hc0 <;> try simp only [cS] at hc0
 refine Z4 (Z0 (Z3 (sqt 2 rfl (pur 2 rfl (sqt 7 rfl (spL rfl rfl (lfB (sz := 1) Z3r rfl) rfl (pur 1 rfl (sp rfl (PE.nilCheck rfl) rfl (sp rfl (PE.fA Z6R rfl) rfl (sp rfl (PE.indexArr Z2B rfl rfl (by omega) (by omega)) rfl (spL rfl rfl (lfB (sz := 18) (x := .int .i64 (na b.most k)) sc3 (Z4r (k := k) hl4 hm4 (by omega) (by show 0 + 13 + ((k : Nat) : Int).toNat * 1 = _; omega))) rfl (pur 1 rfl ?_))))))))))))
 refine Z2 rfl ?_ ?_ <;> intro hc1 <;> try simp only [cS] at hc1
 refine sqr 3 rfl (pur 1 rfl (sp rfl (PE.indexArr Z2B rfl rfl (by omega) (by omega)) rfl ?_))
 refine ZQ (l' := Za (zst b.dsk (k + 1))) rfl rfl rfl cn3 rfl rfl rfl ((Z3H (k := k) (Z1e _ _) (by omega) (by show 0 + ((k : Nat) : Int).toNat * 1 = k; omega)).trans (by rw [ZaT (d := b.dsk) (k := k) (by omega) hc1])) (by rw [ints_length, Z1e]; show 0 + ((k : Nat) : Int).toNat * 1 + 1 ≤ 4; omega) ?_
 refine sqr 2 rfl (sp rfl (PE.add rfl rfl (by omega)) rfl (pur 1 rfl ?_))
 first
   | exact Zd ⟨k + 1, by omega⟩ (by dsimp only; omega) (fun w h => by dsimp only; rw [← ZaI (d := b.dsk) (k := k) hc1]; exact h)
   | exact Zd ⟨k + 1, by omega⟩ (by dsimp only; omega) idH
 refine Z4 (sqr 2 rfl (sp rfl (PE.add rfl rfl (by omega)) rfl (pur 1 rfl ?_)))
 first
   | exact Zd ⟨k + 1, by omega⟩ (by dsimp only; omega) (fun w h => by dsimp only; rw [← ZaI (d := b.dsk) (k := k) hc1]; exact h)
   | exact Zd ⟨k + 1, by omega⟩ (by dsimp only; omega) idH
 obtain rfl : k = b.bins.length := by omega
 rw [show zst b.dsk b.bins.length = b.dsk.sat 0 from Zbm hdk]
 refine Zb (Zc (Zc (ZA (Z3 ?_))))
 refine Ze (ι := {x : Nat × Z7 × Z5 // x.1 < b.dsk.nst ∧ I x.1 x.2.1 x.2.2}) (fun x => ⟨[(0, yv lp), (1, .pointer (some ⟨xb, 0, none⟩)), (3, .pointer (some ⟨b3, 0, none⟩))], (b3, cel 83 (Za (b.dsk.sat x.1.1))) :: x.1.2.1, x.1.2.2⟩) (fun x => b.dsk.nst - x.1.1) ⟨(0, H, R), (b.dsk.nst_le hdk).1, h0⟩ ?_ (fun x => ?_)
 exact Zl idH
 obtain ⟨⟨i, H0, R0⟩, hi, hI0⟩ := x
 dsimp only at hi hI0 ⊢
 have hs := b.dsk.sat_sml hdk i
 refine Z3 (Z0 (sqt 4 rfl (pur 1 rfl (spL rfl rfl (lhI (b.dsk.sat i) Z0J rfl rfl (hs.len)) rfl ?_))))
 refine clY rfl rfl rfl rfl (hy _ _ b3 _ _ _ (b.dsk.sts_get hi) hI0) ?_
 rintro v H3 R3 (⟨rfl, H2, rfl, hI3⟩ | ⟨rfl, H2, rfl, hE3⟩)
 refine pur 1 rfl ?_
 refine ZD rfl ?_
 refine Z4 (sqt 1 rfl (pur 1 rfl (Z0 (Z3 ?_))))
 obtain ⟨hF1, hF3⟩ := hI _ _ _ hI3
 haveI : MemRows (some ⟨xb, 0, none⟩) 1 [[.pointer (some ⟨bd, 0, none⟩)]] R3 := ⟨hF1⟩
 haveI : MemRows (some ⟨bd, 0, none⟩) 18 [dcs b (b.sl ab cb) b.lasts b.most m] R3 := ⟨hF3⟩
 refine Ze (ι := {a : Nat // a ≤ b.bins.length ∧ ∀ j < a, na (b.dsk.sat i) j = na b.most j}) (fun a => ⟨[(0, yv lp), (1, .pointer (some ⟨xb, 0, none⟩)), (3, .pointer (some ⟨b3, 0, none⟩)), (5, .int .i64 a.1)], (b3, cel 83 (Za (rsz (b.dsk.sat i) a.1))) :: H2, R3⟩) (fun a => b.bins.length - a.1) ⟨0, by omega, by omega⟩ ?_ (fun a => ?_)
 exact Zl (fun w h => by dsimp only; rw [Za4 hs.len]; exact h)
 obtain ⟨a, ha, hat⟩ := a
 dsimp only at ha hat ⊢
 refine Z0 (Z0 ?_)
 refine Z8 [0, 0, 2, 6, 14, 30, 62, 127, 255, 511, 1023, 2047, 511, 511, 4607, 20991, 61951, 127487, 262143, 524287] (.tk 0 (.ld 1 (tks 2 3 (.ld 5 (tks 6 5 (.ld 11 (.ld 12 (tks 13 4 (.ld 17 (.tk 18 (.tk 19 .done))))))))))) Zr (by kernel_rfl) ?_
 refine Zg 1 rfl (ld rfl rfl (lfB (sz := 1) Z3r rfl) rfl (tk rfl (PE.nilCheck rfl) rfl (tk rfl (PE.fA Z1y rfl) rfl (tk rfl (PE.fA Zj rfl) rfl (ld rfl rfl (lfB (sz := 18) Z0b rfl) rfl (tk rfl (PE.lenSl Z0G rfl) rfl (Zg 2 rfl ?_)))))))
 refine Zy 38 rfl ?_ ?_ <;> intro g38
 simp only [decide_eq_true_eq] at g38
 have hra : na (rsz (b.dsk.sat i) a) a = na (b.dsk.sat i) a := by rw [Z17 (by omega), dF (Nat.lt_irrefl a)]; rfl
 refine Zg 1 rfl ?_
 refine tkG rfl rfl rfl rfl (PE.indexArr Z2B rfl rfl (by omega) (by omega)) rfl ?_
 refine ldG rfl rfl rfl rfl rfl (lh sc3 rfl (Z4m (k := a) (ZR _ _) (by omega) (by show 0 + ((a : Nat) : Int).toNat * 1 = _; omega))) rfl (ldG rfl rfl rfl rfl rfl (lfB (sz := 1) Z3r rfl) rfl (Zg 1 rfl ?_))
 refine tkG rfl rfl rfl rfl (PE.nilCheck rfl) rfl ?_
 refine tkG rfl rfl rfl rfl (PE.fA Z6R rfl) rfl ?_
 refine tkG rfl rfl rfl rfl (PE.indexArr Z2B rfl rfl (by omega) (by omega)) rfl ?_
 refine ldG rfl rfl rfl rfl rfl (lfB (sz := 18) (x := .int .i64 (na b.most a)) sc3 (Z4r (k := a) hl4 hm4 (by omega) (by show 0 + 13 + ((a : Nat) : Int).toNat * 1 = _; omega))) rfl (Zg 2 rfl ?_)
 refine Z2 rfl ?_ ?_ <;> intro hc3 <;> try simp only [cS] at hc3
 refine Z4 (Z3 (Z0 (sqt 4 rfl (pur 1 rfl (sp rfl (PE.indexArr Z2B rfl rfl (by omega) (by omega)) rfl (spL rfl rfl (lh sc3 rfl (Z4m (k := a) (ZR _ _) (by omega) (by show 0 + ((a : Nat) : Int).toNat * 1 = _; omega))) rfl (pur 1 rfl ?_)))))))
 refine Z2 rfl ?_ ?_ <;> intro hc4 <;> try simp only [cS] at hc4
 have hat2 : ∀ j < a + 1, na (b.dsk.sat i) j = na b.most j := fun j hj => by
   rcases Nat.lt_or_ge j a with h1 | h1
   · exact hat j h1
   · obtain rfl : j = a := by omega
     rw [← hra]; exact hc3
 refine sqr 3 rfl (pur 1 rfl (sp rfl (PE.indexArr Z2B rfl rfl (by omega) (by omega)) rfl ?_))
 refine ZQ (l' := Za (rsz (b.dsk.sat i) (a + 1))) rfl rfl rfl cn3 rfl rfl rfl ((Z3H (k := a) (ZR _ _) (by omega) (by show 0 + ((a : Nat) : Int).toNat * 1 = a; omega)).trans (by rw [ZbG (by omega) (by rw [← hra]; exact hc4)])) (by rw [ints_length, ZR]; show 0 + ((a : Nat) : Int).toNat * 1 + 1 ≤ 4; omega) ?_
 refine sqr 3 rfl (pur 1 rfl (sp rfl (PE.add rfl rfl (by omega)) rfl (pur 1 rfl ?_)))
 exact Zm ⟨a + 1, by omega, hat2⟩ idH
 have hat2 : ∀ j < a + 1, na (b.dsk.sat i) j = na b.most j := fun j hj => by
   rcases Nat.lt_or_ge j a with h1 | h1
   · exact hat j h1
   · obtain rfl : j = a := by omega
     rw [← hra]; exact hc3
 have hev : na (b.dsk.sat i) a = 1000000 := by rw [← hra]; omega
 refine Z4 (sqr 3 rfl (pur 1 rfl (sp rfl (PE.add rfl rfl (by omega)) rfl (pur 1 rfl ?_))))
 exact Zm ⟨a + 1, by omega, hat2⟩ (fun w h => by dsimp only; rw [Z9r hev]; exact h)
 have hne3 : na (b.dsk.sat i) a ≠ na b.most a := by rw [← hra]; exact hc3
 refine Zb (Zc (Zc (ZA (Z0 (sqt 8 rfl (pur 1 rfl (spL rfl rfl (lfB (sz := 1) Z3r rfl) rfl (sp rfl (PE.nilCheck rfl) rfl (sp rfl (PE.fA Z1y rfl) rfl (sp rfl (PE.fA Zj rfl) rfl (spL rfl rfl (lfB (sz := 18) Z0b rfl) rfl (sp rfl (PE.lenSl Z0G rfl) rfl (pur 1 rfl ?_)))))))))))))
 refine Z2 rfl ?_ ?_ <;> intro hc5 <;> try simp only [cS] at hc5
 have hae : a = b.bins.length := by omega
 subst hae
 have hlast := b.dsk.sat_last hdk hi hat
 refine Z1 ?_
 first | exact Z6 (vs := []) rfl .nil rfl (.inr hE3) (fun _ h => h.tail) | exact Z6 (vs := []) rfl .nil rfl (.inl (hlast ▸ hI3)) (fun _ h => h.tail)
 have hne : na (b.dsk.sat i) a ≠ na b.most a := by first | exact hne3 | (exfalso; omega)
 refine Z4 (sqr 6 rfl (pur 1 rfl (sp rfl (PE.indexArr Z2B rfl rfl (by omega) (by omega)) rfl (spL rfl rfl (lh sc3 rfl (Z4m (k := a) (ZR _ _) (by omega) (by show 0 + ((a : Nat) : Int).toNat * 1 = _; omega))) rfl (sp rfl (PE.add rfl rfl (by have := (b.dsk.sat_sml hdk i).at_ a (by omega); rw [Z17 (by omega), dF (Nat.lt_irrefl a)]; simp only [Bool.false_and, cond_false]; omega)) rfl (sp rfl (PE.indexArr Z2B rfl rfl (by omega) (by omega)) rfl ?_))))))
 refine ZQ (l' := Za (b.dsk.sat (i + 1))) rfl rfl rfl cn3 rfl rfl rfl ((Z3H (k := a) (ZR _ _) (by omega) (by show 0 + ((a : Nat) : Int).toNat * 1 = a; omega)).trans (by rw [show na (rsz (b.dsk.sat i) a) a = na (b.dsk.sat i) a by rw [Z17 (by omega), dF (Nat.lt_irrefl a)]; rfl, b.dsk.sat_next hdk (show a < b.dsk.n by show a < b.bins.length; omega) hat hne])) (by rw [ints_length, ZR]; show 0 + ((a : Nat) : Int).toNat * 1 + 1 ≤ 4; omega) ?_
 have hlt : i + 1 < b.dsk.nst := by
   rcases Nat.lt_or_ge (i + 1) b.dsk.nst with h1 | h1
   · exact h1
   · exact absurd (b.dsk.sat_max hdk (show i + 1 = b.dsk.nst by omega) (show a < b.dsk.n by show a < b.bins.length; omega)) hne
 exact Zm ⟨(i + 1, H2, R3), hlt, hI3⟩ idH
 simp only [decide_eq_false_iff_not] at g38
 refine Zg 2 rfl ?_
 repeat refine ldN rfl rfl rfl rfl rfl rfl rfl rfl ?_
 refine Zg 4 rfl ?_
 refine ldN rfl rfl rfl rfl rfl rfl rfl rfl ?_
 refine Zg 2 rfl ?_
 refine ZD rfl ?_
 refine Zb (Zc (Zc (ZA (Z0 (sqt 8 rfl (pur 1 rfl (spL rfl rfl (lfB (sz := 1) Z3r rfl) rfl (sp rfl (PE.nilCheck rfl) rfl (sp rfl (PE.fA Z1y rfl) rfl (sp rfl (PE.fA Zj rfl) rfl (spL rfl rfl (lfB (sz := 18) Z0b rfl) rfl (sp rfl (PE.lenSl Z0G rfl) rfl (pur 1 rfl ?_)))))))))))))
 refine Z2 rfl ?_ ?_ <;> intro hc5 <;> try simp only [cS] at hc5
 have hae : a = b.bins.length := by omega
 subst hae
 have hlast := b.dsk.sat_last hdk hi hat
 refine Z1 ?_
 first | exact Z6 (vs := []) rfl .nil rfl (.inr hE3) (fun _ h => h.tail) | exact Z6 (vs := []) rfl .nil rfl (.inl (hlast ▸ hI3)) (fun _ h => h.tail)
 have hne : na (b.dsk.sat i) a ≠ na b.most a := by first | exact hne3 | (exfalso; omega)
 refine Z4 (sqr 6 rfl (pur 1 rfl (sp rfl (PE.indexArr Z2B rfl rfl (by omega) (by omega)) rfl (spL rfl rfl (lh sc3 rfl (Z4m (k := a) (ZR _ _) (by omega) (by show 0 + ((a : Nat) : Int).toNat * 1 = _; omega))) rfl (sp rfl (PE.add rfl rfl (by have := (b.dsk.sat_sml hdk i).at_ a (by omega); rw [Z17 (by omega), dF (Nat.lt_irrefl a)]; simp only [Bool.false_and, cond_false]; omega)) rfl (sp rfl (PE.indexArr Z2B rfl rfl (by omega) (by omega)) rfl ?_))))))
 refine ZQ (l' := Za (b.dsk.sat (i + 1))) rfl rfl rfl cn3 rfl rfl rfl ((Z3H (k := a) (ZR _ _) (by omega) (by show 0 + ((a : Nat) : Int).toNat * 1 = a; omega)).trans (by rw [show na (rsz (b.dsk.sat i) a) a = na (b.dsk.sat i) a by rw [Z17 (by omega), dF (Nat.lt_irrefl a)]; rfl, b.dsk.sat_next hdk (show a < b.dsk.n by show a < b.bins.length; omega) hat hne])) (by rw [ints_length, ZR]; show 0 + ((a : Nat) : Int).toNat * 1 + 1 ≤ 4; omega) ?_
 have hlt : i + 1 < b.dsk.nst := by
   rcases Nat.lt_or_ge (i + 1) b.dsk.nst with h1 | h1
   · exact h1
   · exact absurd (b.dsk.sat_max hdk (show i + 1 = b.dsk.nst by omega) (show a < b.dsk.n by show a < b.bins.length; omega)) hne
 exact Zm ⟨(i + 1, H2, R3), hlt, hI3⟩ idH
 refine pur 1 rfl ?_
 refine Zv rfl ?_
 refine Z1 ?_
 first | exact Z6 (vs := []) rfl .nil rfl (.inr hE3) (fun _ h => h.tail) | exact Z6 (vs := []) rfl .nil rfl (.inl (hlast ▸ hI3)) (fun _ h => h.tail)
theorem ZbI : apT Tryz.prog 123 = some (83, 4, 32) := by kernel_rfl
theorem ZaD : cal Tryz.prog 103 = true := by kernel_rfl
theorem Zc8 : cal Tryz.prog 57 = true := by kernel_rfl
theorem Zfz : cal Tryz.prog 58 = true := by kernel_rfl
theorem Zb7 : cal Tryz.prog 84 = true := by kernel_rfl
theorem Zcm : cal Tryz.prog 85 = true := by kernel_rfl
theorem ZcQ : cal Tryz.prog 86 = true := by kernel_rfl
theorem Zdm : ZT Tryz.prog 123 = some 1 := by kernel_rfl
theorem cn4 : ZT Tryz.prog 4 = some 1 := by kernel_rfl
theorem ZdM : elN Tryz.prog 123 = some 4 := by kernel_rfl
theorem Z2w : eqB Tryz.prog 10000 83 = some (true, 4) := by kernel_rfl
theorem Z5u : Z0w Tryz.prog 86 3 = some 17 := by kernel_rfl
theorem Z7C : Z7v Tryz.prog 123 = true := by kernel_rfl
theorem Z8H : Z3v Tryz.prog 84 = some (83, 3) := by kernel_rfl
theorem Z2u : Z3w Tryz.prog 10000 83 = true := by kernel_rfl
theorem ZdQ : Z1v Tryz.prog 123 = true := by kernel_rfl
theorem ZbB : Z1v Tryz.prog 84 = true := by kernel_rfl
theorem Zc2 : slE Tryz.prog 123 = some (83, 4) := by kernel_rfl
theorem Zfl : ZE Tryz.prog 123 = some ([.slice none 0 0]) := by kernel_rfl
theorem zl4 : ZE Tryz.prog 4 = some ([.bool false]) := by kernel_rfl
theorem zv3 : zvl Tryz.prog 3 = some (.int .i64 0) := by kernel_rfl
structure KvOk (d : Dsk) (n : Nat) (kv : KV) : Prop where
  len : ∀ e ∈ kv, e.1.length = 4
  get : ∀ s ∈ d.sts, kv.get s = some (.int .i64 (d.lvl n s))
theorem KV.put_len {kv : KV} {k : List Int} {v : Value} {n : Nat} (hk : k.length = n) (h : ∀ e ∈ kv, e.1.length = n) : ∀ e ∈ kv.put k v, e.1.length = n := fun e he => by
  rcases KV.put_mem he with rfl | h1
  · exact hk
  · exact h e h1
def Dsk.hit (d : Dsk) (A : List HSt) (s : HSt) (l : List Nat) : Bool := match d.next s l with
  | some t => A.contains t
  | none => false
theorem ZcB {α : Type} {L : List α} {p : α → Bool} {k : Nat} {x : α} (h : L[k]? = some x) (hp : p x = true) : L.any p = true := List.any_eq_true.2 ⟨x, List.mem_of_getElem? h, hp⟩
theorem ZdH {α : Type} {L : List α} {p : α → Bool} (h : ∀ i x, i < L.length → L[i]? = some x → p x = false) : L.any p = false := List.any_eq_false.2 fun x hx => by
  obtain ⟨i, hi⟩ := List.getElem?_of_mem hx
  simp [h i x (List.getElem?_eq_some_iff.1 hi).1 hi]
theorem Z8L {α : Type} {L : List α} {p : α → Bool} {k : Nat} {x : α} (hk : L[k]? = some x) (hn : ∀ i y, i < k → L[i]? = some y → p y = false) (h : p x = false) : ∀ i y, i < k + 1 → L[i]? = some y → p y = false := fun i y hi hy => by
  rcases Nat.lt_or_ge i k with h1 | h1
  · exact hn i y h1 hy
  · obtain rfl : i = k := by omega
    rw [hk] at hy; cases hy; exact h
theorem Zak (b : Barn) (hok : b.ok) (ab : Option Addr) (cb bd m : Nat) (n : Nat) (hn : n ≤ 100000) (kv : KV) (hkv : KvOk b.dsk n kv) (s : HSt) (hs : s ∈ b.dsk.sts) (H : Z7) (R : Z5) [hD : MemRows (some ⟨bd, 0, none⟩) 18 [dcs b (b.sl ab cb) b.lasts b.most m] R] [hM : Mem1 m (Z0h true kv) H] :
    FnV Tryz.prog 58 [.pointer (some ⟨bd, 0, none⟩), stv s] H R (.bool (b.dsk.helped (b.dsk.alive n) s)) := by
 refine Z92 Tryz.func58 rfl Tryz.ntmps58 rfl ?_
 refine sqt 3 rfl (bx rfl rfl rfl (fun b2 => bx rfl rfl rfl (fun b3 => alc rfl zl4 rfl (fun b4 => Z0 (sqt 2 rfl (spL rfl rfl (lh Z3r rfl rfl) rfl ?_))))))
 refine cl rfl Zcm rfl rfl (Z3F bd true _ _) ?_
 rintro _ _ _ ⟨xb, xf, rfl, rfl, rfl⟩
 have hdk := b.dsk_ok hok
 have hsi := (b.dsk.mem_sts hdk s).1 hs
 have hsm := b.dsk.inS_sml hdk hsi
 have hl4 := hdk.lasts.len
 have hm4 := hdk.most.len
 refine Zo b2 ?_
 refine Zo b3 ?_
 refine Zo b4 ?_
 refine Z3 ?_
 refine Z2K rfl ZaD (fun c0 bl0 bd0 hcp0 hca0 hcb0 hck0 => ?_)
 refine ⟨fun st pend T R' => (st = .ready ∧ pend = none ∧ b.dsk.helped (b.dsk.alive n) s = false ∧ T = (bd0, .deferred (some [])) :: (b4, cel 4 [.bool false]) :: (b3, cel 83 (Za s)) :: (b2, cel 80 [.pointer (some ⟨bd, 0, none⟩)]) :: H ∧ R' = RowsA (some ⟨xf, 0, none⟩) 1 [[.bool true]] :: RowsA (some ⟨xb, 0, none⟩) 1 [[.pointer (some ⟨bd, 0, none⟩)]] :: R) ∨
     (st = .done ∧ pend = some .ret ∧ b.dsk.helped (b.dsk.alive n) s = true ∧ T = (bd0, .deferred (some [])) :: (b4, cel 4 [.bool true]) :: (b3, cel 83 (Za s)) :: (b2, cel 80 [.pointer (some ⟨bd, 0, none⟩)]) :: H ∧ R' = RowsA (some ⟨xf, 0, none⟩) 1 [[.bool true]] :: RowsA (some ⟨xb, 0, none⟩) 1 [[.pointer (some ⟨bd, 0, none⟩)]] :: R),
   Fn.mono (Z2M b hok ab cb bd m true xb xf bl0 (fun k H' R' => (∀ i l, i < k → (b.dsk.trs true)[i]? = some l → b.dsk.hit (b.dsk.alive n) s l = false) ∧ H' = (bl0, lob c0 .ready none) :: (bd0, .deferred (some [])) :: (b4, cel 4 [.bool false]) :: (b3, cel 83 (Za s)) :: (b2, cel 80 [.pointer (some ⟨bd, 0, none⟩)]) :: H ∧ R' = RowsA (some ⟨xf, 0, none⟩) 1 [[.bool true]] :: RowsA (some ⟨xb, 0, none⟩) 1 [[.pointer (some ⟨bd, 0, none⟩)]] :: R)
     (fun H' R' => b.dsk.helped (b.dsk.alive n) s = true ∧ H' = (bl0, lob c0 .done (some .ret)) :: (bd0, .deferred (some [])) :: (b4, cel 4 [.bool true]) :: (b3, cel 83 (Za s)) :: (b2, cel 80 [.pointer (some ⟨bd, 0, none⟩)]) :: H ∧ R' = RowsA (some ⟨xf, 0, none⟩) 1 [[.bool true]] :: RowsA (some ⟨xb, 0, none⟩) 1 [[.pointer (some ⟨bd, 0, none⟩)]] :: R)
     (fun k H' R' h => by obtain ⟨_, _, rfl⟩ := h; exact ⟨by simp, by simp, List.mem_cons_of_mem _ (List.mem_cons_of_mem _ hD.mem)⟩) (fun k l a c H' R' hk hI => ?_) _ _ ⟨fun _ _ h => absurd h (Nat.not_lt_zero _), rfl, rfl⟩) (fun v H' R' h => ?_), ?_⟩
 rotate_left
 · rcases h with ⟨hn, rfl, rfl⟩ | ⟨hh, rfl, rfl⟩
   · exact ⟨.ready, none, _, by simp, .refl _, .inl ⟨rfl, rfl, ZdH hn, rfl, rfl⟩⟩
   · exact ⟨.done, some .ret, _, by simp, .refl _, .inr ⟨rfl, rfl, hh, rfl, rfl⟩⟩
 rotate_left
 have hlt := b.dsk.trs_lt (List.mem_of_getElem? hk)
 have hll : l.length ≤ 1000000 := by
   obtain ⟨i, _, rfl⟩ := List.mem_map.1 (List.mem_filter.1 (List.mem_of_getElem? hk)).1
   have := Z0X b.dsk.n i
   have := hdk.n
   omega
 obtain ⟨hno, rfl, rfl⟩ := hI
 refine Z8m hcp0 hca0 hcb0 hck0 rfl ?_
 refine sqr 1 rfl (pur 1 rfl ?_)
 refine Z09 ?_
 refine Z3 (sqt 10 rfl (spL rfl rfl (lh Z3r rfl rfl) rfl (spL rfl rfl (lhI s Z0J rfl rfl (hsi.len)) rfl (pur 1 rfl ?_))))
 refine cl rfl ZcQ rfl rfl (Zax b hok ab cb bd m s hsm l hlt hll a c _ _) ?_
 rintro _ _ _ ⟨rfl, rfl, rfl⟩
 rcases hnx : b.dsk.next s l with _ | t
 refine pur 3 rfl (alc rfl Z4u rfl (fun b6 => ?_))
 first | (refine Z2l rfl rfl rfl Z4I rfl rfl rfl (Zs _) ?_) | (refine Z2l rfl rfl rfl Z4I rfl (by rw [ints_length]; exact hts.len) rfl (Zs _) ?_)
 refine pur 1 rfl (Z0 ?_)
 refine Z8 [0, 1, 3, 7, 15, 31, 3, 127, 255, 511] (.tk 0 (.tk 1 (.ld 2 (.tk 3 (.tk 4 (.ld 5 (.ld 6 (.ld 7 (.tk 8 (.tk 9 .done)))))))))) Zr (by kernel_rfl) ?_
 have hno2 : b.dsk.hit (b.dsk.alive n) s l = false := by simp only [Dsk.hit, hnx]
 refine Zg 2 rfl ?_
 refine ldN rfl rfl rfl rfl rfl rfl rfl rfl ?_
 refine Zg 2 rfl ?_
 repeat refine ldN rfl rfl rfl rfl rfl rfl rfl rfl ?_
 refine Zg 2 rfl ?_
 refine ZD rfl ?_
 refine Z4 ?_
 exact Zw (.inl ⟨rfl, Z8L hk hno hno2, rfl, rfl⟩) (fun _ h => h.tail.ftail)
 refine pur 2 rfl ?_
 have hts := b.dsk.next_inS hdk hsi hlt hnx
 have htm := (b.dsk.mem_sts hdk t).2 hts
 have hkt := hkv.get t htm
 refine pur 1 rfl (alc rfl Z4u rfl (fun b6 => ?_))
 first | (refine Z2l rfl rfl rfl Z4I rfl rfl rfl (Zs _) ?_) | (refine Z2l rfl rfl rfl Z4I rfl (by rw [ints_length]; exact hts.len) rfl (Zs _) ?_)
 refine pur 1 rfl (Z0 ?_)
 refine Z8 [0, 1, 3, 7, 15, 31, 3, 127, 255, 511] (.tk 0 (.tk 1 (.ld 2 (.tk 3 (.tk 4 (.ld 5 (.ld 6 (.ld 7 (.tk 8 (.tk 9 .done)))))))))) Zr (by kernel_rfl) ?_
 refine Zg 2 rfl (ldG rfl rfl rfl rfl rfl (lh Z3r rfl rfl) rfl ?_)
 refine tkG rfl rfl rfl rfl (PE.nilCheck rfl) rfl ?_
 refine tkG rfl rfl rfl rfl (PE.fA Z5u rfl) rfl ?_
 refine ldG rfl rfl rfl rfl rfl (lfB (sz := 18) ZbB (Z1H hl4 hm4)) rfl (ldG rfl rfl rfl rfl rfl (lhI t Z0J rfl rfl (hts.len)) rfl ?_)
 refine Zg2 rfl rfl rfl rfl rfl rfl (Z5T (b := true) kv t Z8H (KeyT.of Z2w Z2u) (Z4Y zv3) hts.len hkv.len false) rfl ?_
 rw [hkt]
 refine Zg 2 rfl ?_
 refine Z2 rfl ?_ ?_ <;> intro hc0 <;> try simp only [cS] at hc0
 have hyes : b.dsk.hit (b.dsk.alive n) s l = true := by
   rcases b.dsk.lvl_spec htm (n := n) (by omega) with ⟨h1, h2⟩ | ⟨j, h1, h2, h3, h4⟩
   · simp only [Dsk.hit, hnx]; simpa using h2
   · exfalso; have hc : b.dsk.lvl n t = 1000000 := hc0; omega
 refine sqt 1 rfl ?_
 refine sto rfl rfl rfl cn4 rfl rfl rfl rfl ?_
 refine Z1 ?_
 exact Z5O (.inr ⟨rfl, ZcB hk hyes, rfl, rfl⟩) (fun _ h => h.tail.ftail)
 have hno2 : b.dsk.hit (b.dsk.alive n) s l = false := by
   rcases b.dsk.lvl_spec htm (n := n) (by omega) with ⟨h1, h2⟩ | ⟨j, h1, h2, h3, h4⟩
   · exact absurd h1 hc0
   · simp only [Dsk.hit, hnx]
     have : t ∉ b.dsk.alive n := fun h => h4 (b.dsk.alive_le (by omega) h)
     simpa using this
 refine Z4 ?_
 exact Zw (.inl ⟨rfl, Z8L hk hno hno2, rfl, rfl⟩) (fun _ h => h.tail.ftail)
 rintro _ _ _ _ (⟨rfl, rfl, hh, rfl, rfl⟩ | ⟨rfl, rfl, hh, rfl, rfl⟩)
 refine Z8N ?_
 refine sqt 1 rfl ?_
 refine sto rfl rfl rfl cn4 rfl rfl rfl rfl ?_
 refine Z1 ?_
 exact Z0S [bd0] idH rfl (.cons (RV.cell rfl (lh sc4 rfl rfl)) .nil) rfl ⟨by rw [hh]; rfl, rfl, rfl⟩ (fun w h => (((h.del b4).del b3).del b2).ftail.ftail)
 refine Zen ?_
 refine Z1 ?_
 exact Z0S [bd0] idH rfl (.cons (RV.cell rfl (lh sc4 rfl rfl)) .nil) rfl ⟨by rw [hh]; rfl, rfl, rfl⟩ (fun w h => (((h.del b4).del b3).del b2).ftail.ftail)
def ZZ (l : List HSt) : List (List Value) := l.map Za
theorem Z0k (l : List HSt) : (ZZ l).length = l.length := List.length_map _
theorem Z3U {l : List HSt} {k : Nat} {s : HSt} (h : l[k]? = some s) : (ZZ l)[k]? = some (Za s) := by simp [ZZ, h]
theorem ZY {α : Type} {l : List α} {k : Nat} {x : α} (h : l[k]? = some x) : l.take (k + 1) = l.take k ++ [x] := by rw [List.take_add_one, h]; rfl
theorem Z4v (l : List HSt) (x y : HSt) : (l ++ [x]).contains y = (l.contains y || decide (x = y)) := by
  by_cases h : x = y
  · subst h; simp
  · have h' : ¬ y = x := fun e => h e.symm
    simp [h, h']
theorem Zau (b : Barn) (hok : b.ok) (ab : Option Addr) (cb bd m : Nat) (H : Z7) (R : Z5) [hD : MemRows (some ⟨bd, 0, none⟩) 18 [dcs b (b.sl ab cb) b.lasts b.most m] R] :
    Fn Tryz.prog 24 [.pointer (some ⟨bd, 0, none⟩)] ((m, Z0h true []) :: H) R (fun _ H' R' => ∃ n kv, n ≤ 14641 ∧ b.dsk.alive (n + 1) = b.dsk.alive n ∧ KvOk b.dsk n kv ∧ H' = (m, Z0h true kv) :: H ∧ R' = R) := by
 refine Z92 Tryz.func24 rfl Tryz.ntmps24 rfl ?_
 refine sqt 1 rfl (bx rfl rfl rfl (fun b1 => sqt 1 rfl (alc rfl Zfl rfl (fun b2 => Z0 (sqt 2 rfl (spL rfl rfl (lh Z3r rfl rfl) rfl ?_))))))
 refine cl rfl Zc8 rfl rfl (Z4d bd _ _) ?_
 rintro _ _ _ ⟨xb, rfl, rfl, rfl⟩
 have hdk := b.dsk_ok hok
 have hl4 := hdk.lasts.len
 have hm4 := hdk.most.len
 have hnst := b.dsk.nst_le hdk
 have hsl := b.dsk.sts_len
 refine Zo b1 ?_
 refine Zo b2 ?_
 refine Z3 ?_
 refine Z2K rfl Zb7 (fun c0 bl0 bd0 hcp0 hca0 hcb0 hck0 => ?_)
 refine ⟨fun st pend T R' => st = .ready ∧ pend = none ∧ ∃ (o : OSl 83 4 (ZZ b.dsk.sts)) (kv : KV), T = (bd0, .deferred (some [])) :: (b2, cel 123 [o.fs]) :: (b1, cel 80 [.pointer (some ⟨bd, 0, none⟩)]) :: (o.G ++ (m, Z0h true kv) :: H) ∧ R' = RowsA (some ⟨xb, 0, none⟩) 1 [[.pointer (some ⟨bd, 0, none⟩)]] :: R ∧ KvOk b.dsk 0 kv,
   Fn.mono (Z31 b hok ab cb bd m xb bl0 (fun k H' R' => ∃ (o : OSl 83 4 (ZZ (b.dsk.sts.take k))) (kv : KV), H' = (bl0, lob c0 .ready none) :: (bd0, .deferred (some [])) :: (b2, cel 123 [o.fs]) :: (b1, cel 80 [.pointer (some ⟨bd, 0, none⟩)]) :: (o.G ++ (m, Z0h true kv) :: H) ∧ R' = RowsA (some ⟨xb, 0, none⟩) 1 [[.pointer (some ⟨bd, 0, none⟩)]] :: R ∧ (∀ e ∈ kv, e.1.length = 4) ∧ ∀ s ∈ b.dsk.sts.take k, kv.get s = some (.int .i64 1000000)) (fun _ _ => False)
     (fun k H' R' h => by obtain ⟨_, _, _, rfl, _⟩ := h; exact ⟨by simp, List.mem_cons_of_mem _ hD.mem⟩) (fun k s q oo H' R' hk hI => ?_) _ _ ⟨OSl.nil _ _, [], rfl, rfl, by simp, by simp⟩) (fun v H' R' h => ?_), ?_⟩
 rotate_left
 · rcases h with ⟨o, kv, rfl, rfl, h1, h2⟩ | h
   · rw [List.take_of_length_le (by rw [hsl]; exact Nat.le_refl _)] at h2
     exact ⟨.ready, none, _, by simp, .refl _, rfl, rfl, o.cast (by rw [List.take_of_length_le (by rw [hsl]; exact Nat.le_refl _)]), kv, rfl, rfl, h1, h2⟩
   · exact h.elim
 rotate_left
 have hmem := List.mem_of_getElem? hk
 have hsi := (b.dsk.mem_sts hdk s).1 hmem
 have hkl := (List.getElem?_eq_some_iff.1 hk).1
 obtain ⟨s0, s1, s2, s3, rfl⟩ := Z0x hsi.len
 obtain ⟨o, kv, rfl, rfl, hkv1, hkv2⟩ := hI
 refine Z8m hcp0 hca0 hcb0 hck0 rfl ?_
 refine sqr 2 rfl (alc rfl Z4u rfl (fun b3 => ?_))
 refine sto rfl rfl rfl Z4I rfl rfl rfl rfl ?_
 refine Z09 ?_
 refine Z3 (sqt 5 rfl (spL rfl rfl (lh ZdQ rfl rfl) rfl (spL rfl rfl (lhA [_, _, _, _] Z0J rfl rfl rfl) rfl ?_)))
 refine bsl (out := [_, _, _, _]) rfl Zc2 Z4u rfl rfl rfl rfl rfl rfl (fun b16 => ?_)
 refine apO (o) rfl ZbI rfl rfl (Z3g (row := [.int .i64 s0, .int .i64 s1, .int .i64 s2, .int .i64 s3]) rfl) rfl rfl ((by rw [Z0k, List.length_take]; simp only [List.length_singleton]; omega)) rfl (fun o17 => ?_)
 refine ZQ (l' := [o17.fs]) rfl rfl rfl Zdm rfl (by rw [o17.cells.1]; first | done | rfl) (by rw [o17.cells.1]; simp [o17.cells.2]) (by rw [o17.cells.1]; first | done | rfl) (by rw [o17.cells.1]; first | done | exact Nat.le_refl _) ?_
 refine Z8 [0, 1, 3, 7, 0, 31] (.ld 0 (.tk 1 (.tk 2 (.ld 3 (.ld 4 (.big 5 .done)))))) Zr (by kernel_rfl) ?_
 refine ld rfl rfl (lh Z3r rfl rfl) rfl (tk rfl (PE.nilCheck rfl) rfl (tk rfl (PE.fA Z5u rfl) rfl (ld rfl rfl (lfB (sz := 18) ZbB (Z1H hl4 hm4)) rfl (ld rfl rfl (lhA [_, _, _, _] Z0J rfl rfl rfl) rfl ?_))))
 refine mpu kv [s0, s1, s2, s3] rfl Z8H (KeyT.of Z2w Z2u) rfl rfl rfl rfl hkv1 ?_
 refine bgT ?_
 exact Zw (.inl ⟨rfl, _, rfl, o17.cast (by rw [ZY hk]; simp [ZZ]), kv.put [s0, s1, s2, s3] (.int .i64 1000000), rfl, rfl, KV.put_len rfl hkv1, fun s hs => by
   rw [KV.get_put]
   by_cases h : [s0, s1, s2, s3] = s
   · rw [dT h]; rfl
   · rw [dF h, cond_false]
     rw [ZY hk] at hs
     rcases List.mem_append.1 hs with h1 | h1
     · exact hkv2 s h1
     · exact absurd (List.mem_singleton.1 h1).symm h⟩) (fun _ h => (h.del b16).del b3)
 rintro _ _ _ _ ⟨rfl, rfl, o, kv, rfl, rfl, hkv⟩
 refine Z8N ?_
 refine sqt 1 rfl (pur 1 rfl (Z3 ?_))
 refine Ze (ι := (x : {x : Nat × KV // x.1 + (b.dsk.alive x.1).length ≤ b.dsk.nst ∧ KvOk b.dsk x.1 x.2}) × OSl 83 4 (ZZ (b.dsk.alive x.1.1))) (fun x => ⟨[(1, .pointer (some ⟨b1, 0, none⟩)), (2, .pointer (some ⟨b2, 0, none⟩)), (4, .int .i64 x.1.1.1)], (bd0, .deferred (some [])) :: (b2, cel 123 [x.2.fs]) :: (b1, cel 80 [.pointer (some ⟨bd, 0, none⟩)]) :: (x.2.G ++ (m, Z0h true x.1.1.2) :: H), RowsA (some ⟨xb, 0, none⟩) 1 [[.pointer (some ⟨bd, 0, none⟩)]] :: R⟩) (fun x => (b.dsk.alive x.1.1.1).length) ⟨⟨(0, kv), by show 0 + b.dsk.sts.length ≤ _; rw [hsl]; omega, hkv⟩, o⟩ ?_ (fun x => ?_)
 exact Zl idH
 obtain ⟨⟨⟨n, kv⟩, hnl, hkv⟩, o⟩ := x
 dsimp only at hnl hkv o ⊢
 obtain ⟨aa, ca, he, hf⟩ := o.freeze
 rw [he, Z0k]
 refine Sy.heap (H' := (bd0, .deferred (some [])) :: (b2, cel 123 [.slice aa (b.dsk.alive n).length ca]) :: (b1, cel 80 [.pointer (some ⟨bd, 0, none⟩)]) :: (m, Z0h true kv) :: H) (R' := RowsA aa 4 (ZZ (b.dsk.alive n)) :: RowsA (some ⟨xb, 0, none⟩) 1 [[.pointer (some ⟨bd, 0, none⟩)]] :: R) (fun w h => (hf (h.perm (Z0g [_, _, _] o.G _))).perm (by first | exact .refl _ | skip)) ?_
 clear he hf
 have hn5 : n ≤ 100000 := by omega
 refine Z0 (Z3 (sqt 2 rfl (pur 2 rfl (Z0 (sqt 3 rfl (spL rfl rfl (lh ZdQ rfl rfl) rfl (sp rfl (PE.lenSl Z7C rfl) rfl (pur 1 rfl (Z3 ?_)))))))))
 refine Ze (ι := (k : {k : Nat // k ≤ (b.dsk.alive n).length}) × OSl 83 4 (ZZ ((((b.dsk.alive n).take k.1)).filter fun s => !b.dsk.helped (b.dsk.alive n) s)) × OSl 83 4 (ZZ ((((b.dsk.alive n).take k.1)).filter (b.dsk.helped (b.dsk.alive n))))) (fun x => ⟨[(1, .pointer (some ⟨b1, 0, none⟩)), (2, .pointer (some ⟨b2, 0, none⟩)), (4, .int .i64 n), (5, x.2.1.fs), (6, x.2.2.fs), (25, .slice aa (b.dsk.alive n).length ca), (26, .int .i64 (b.dsk.alive n).length), (27, .int .i64 x.1.1)], x.2.1.G ++ (x.2.2.G ++ (bd0, .deferred (some [])) :: (b2, cel 123 [.slice aa (b.dsk.alive n).length ca]) :: (b1, cel 80 [.pointer (some ⟨bd, 0, none⟩)]) :: (m, Z0h true kv) :: H), RowsA aa 4 (ZZ (b.dsk.alive n)) :: RowsA (some ⟨xb, 0, none⟩) 1 [[.pointer (some ⟨bd, 0, none⟩)]] :: R⟩) (fun x => (b.dsk.alive n).length - x.1.1) ⟨⟨0, by omega⟩, OSl.nil _ _, OSl.nil _ _⟩ ?_ (fun x => ?_)
 exact Zl idH
 obtain ⟨⟨k, hk⟩, o5, o6⟩ := x
 dsimp only at hk o5 o6 ⊢
 refine sqt 1 rfl (pur 1 rfl (Z0 ?_))
 refine Z2 rfl ?_ ?_ <;> intro hc0 <;> try simp only [cS] at hc0
 obtain ⟨s, hsk⟩ : ∃ s, (b.dsk.alive n)[k]? = some s := ⟨_, List.getElem?_eq_getElem (by omega)⟩
 have hmem := b.dsk.alive_sts (List.mem_of_getElem? hsk)
 have hsi := (b.dsk.mem_sts hdk s).1 hmem
 obtain ⟨s0, s1, s2, s3, rfl⟩ := Z0x hsi.len
 refine Zp (a := aa) (sz := 4) (rows := ZZ (b.dsk.alive n)) (by intro h0; have := congrArg List.length h0; rw [Z0k] at this; simp at this; simp [this] at hsk) (fun ba oa he => ?_)
 subst he
 have hd1 : ((((b.dsk.alive n).take (k + 1))).filter fun s => !b.dsk.helped (b.dsk.alive n) s) = ((((b.dsk.alive n).take k)).filter fun s => !b.dsk.helped (b.dsk.alive n) s) ++ (bif b.dsk.helped (b.dsk.alive n) [s0, s1, s2, s3] then [] else [[s0, s1, s2, s3]]) := by rw [Z1P hsk]; cases b.dsk.helped (b.dsk.alive n) [s0, s1, s2, s3] <;> rfl
 have hr1 : ((((b.dsk.alive n).take (k + 1))).filter (b.dsk.helped (b.dsk.alive n))) = ((((b.dsk.alive n).take k)).filter (b.dsk.helped (b.dsk.alive n))) ++ (bif b.dsk.helped (b.dsk.alive n) [s0, s1, s2, s3] then [[s0, s1, s2, s3]] else []) := Z1P hsk
 have hl5 : ((((b.dsk.alive n).take k)).filter fun s => !b.dsk.helped (b.dsk.alive n) s).length ≤ 14641 := Nat.le_trans (List.length_filter_le _ _) (by rw [List.length_take]; omega)
 have hl6 : ((((b.dsk.alive n).take k)).filter (b.dsk.helped (b.dsk.alive n))).length ≤ 14641 := Nat.le_trans (List.length_filter_le _ _) (by rw [List.length_take]; omega)
 refine Z4 (Z0 (Z3 (sqt 4 rfl (sp rfl (PE.indexAddr ZdM rfl rfl (by omega) (by omega)) rfl (spL rfl rfl (lfA Z0J (row := [.int .i64 s0, .int .i64 s1, .int .i64 s2, .int .i64 s3]) (Z3U hsk) rfl) rfl (alc rfl Z4u rfl (fun b8 => ?_)))))))
 refine sto rfl rfl rfl Z4I rfl rfl rfl rfl ?_
 refine sqt 3 rfl (spL rfl rfl (lh Z3r rfl rfl) rfl (spL rfl rfl (lhA [_, _, _, _] Z0J rfl rfl rfl) rfl ?_))
 refine clV rfl Zfz rfl rfl (Zak b hok ab cb bd m n hn5 kv hkv [s0, s1, s2, s3] hmem _ _) ?_
 refine Z2 rfl ?_ ?_ <;> intro hc1
 rw [hc1, cond_true, List.append_nil] at hd1
 rw [hc1, cond_true] at hr1
 refine sqr 5 rfl (pur 1 rfl (spL rfl rfl (lhA [_, _, _, _] Z0J rfl rfl rfl) rfl ?_))
 refine bsl (out := [_, _, _, _]) rfl Zc2 Z4u rfl rfl rfl rfl rfl rfl (fun b36 => ?_)
 refine apO (o6) rfl ZbI rfl rfl (Z3g (row := [.int .i64 s0, .int .i64 s1, .int .i64 s2, .int .i64 s3]) rfl) rfl rfl ((by rw [Z0k]; simp only [List.length_singleton]; omega)) rfl (fun o37 => ?_)
 refine pur 1 rfl (sqr 2 rfl (sp rfl (PE.add rfl rfl (by omega)) rfl (pur 1 rfl ?_)))
 first
   | exact Zd ⟨⟨k + 1, by omega⟩, o5.cast (by rw [hd1]), o37.cast (by rw [hr1]; simp [ZZ])⟩ (by dsimp only; omega) (fun w h => (h.del b36).del b8)
   | exact Zd ⟨⟨k + 1, by omega⟩, o41.cast (by rw [hd1]; simp [ZZ]), o6.cast (by rw [hr1])⟩ (by dsimp only; omega) (fun w h => (h.del b40).del b8)
 rw [hc1, cond_false] at hd1
 rw [hc1, cond_false, List.append_nil] at hr1
 refine sqr 5 rfl (pur 1 rfl (spL rfl rfl (lhA [_, _, _, _] Z0J rfl rfl rfl) rfl ?_))
 refine bsl (out := [_, _, _, _]) rfl Zc2 Z4u rfl rfl rfl rfl rfl rfl (fun b40 => ?_)
 refine apO (o5) rfl ZbI rfl rfl (Z3g (row := [.int .i64 s0, .int .i64 s1, .int .i64 s2, .int .i64 s3]) rfl) rfl rfl ((by rw [Z0k]; simp only [List.length_singleton]; omega)) rfl (fun o41 => ?_)
 refine pur 1 rfl (sqr 2 rfl (sp rfl (PE.add rfl rfl (by omega)) rfl (pur 1 rfl ?_)))
 first
   | exact Zd ⟨⟨k + 1, by omega⟩, o5.cast (by rw [hd1]), o37.cast (by rw [hr1]; simp [ZZ])⟩ (by dsimp only; omega) (fun w h => (h.del b36).del b8)
   | exact Zd ⟨⟨k + 1, by omega⟩, o41.cast (by rw [hd1]; simp [ZZ]), o6.cast (by rw [hr1])⟩ (by dsimp only; omega) (fun w h => (h.del b40).del b8)
 obtain rfl : k = (b.dsk.alive n).length := by omega
 obtain ⟨p5, h5f, h5g⟩ : ∃ o : OSl 83 4 (ZZ ((b.dsk.alive n).filter fun s => !b.dsk.helped (b.dsk.alive n) s)), o.fs = o5.fs ∧ o.G = o5.G := ⟨o5.cast (by rw [List.take_length]), rfl, rfl⟩
 obtain ⟨p6, h6f, h6g⟩ : ∃ o : OSl 83 4 (ZZ (b.dsk.alive (n + 1))), o.fs = o6.fs ∧ o.G = o6.G := ⟨o6.cast (by rw [List.take_length]; rfl), rfl, rfl⟩
 rw [← h5f, ← h6f]
 refine Sy.heap (H' := p5.G ++ (p6.G ++ (bd0, .deferred (some [])) :: (b2, cel 123 [.slice aa (b.dsk.alive n).length ca]) :: (b1, cel 80 [.pointer (some ⟨bd, 0, none⟩)]) :: (m, Z0h true kv) :: H)) (fun w h => by rw [h5g, h6g]; exact h) ?_
 clear h5f h5g h6f h6g
 obtain ⟨ad, cd, he, hf⟩ := p5.freeze
 rw [he, Z0k]
 refine Sy.heap (fun w h => hf h) ?_
 clear he hf
 refine Zb (Zc (Zc (ZA (Z0 (sqt 3 rfl (pur 1 rfl (sp rfl (PE.lenSl Z7C rfl) rfl (pur 1 rfl ?_))))))))
 refine Z2 rfl ?_ ?_ <;> intro hc2 <;> try simp only [cS] at hc2
 have hfix := b.dsk.alive_same (n := n) (by omega)
 refine Z1 ?_
 refine Sy.heap (fun w h => (St.drop (G := p6.G) ((h.del b2).del b1)).ftail.ftail.ftail) ?_
 exact Z0S [bd0] idH rfl .nil rfl ⟨n, kv, by omega, hfix, hkv, rfl, rfl⟩ idH
 have hls := b.dsk.alive_less (n := n) (by omega)
 have hdl : ((b.dsk.alive n).filter fun s => !b.dsk.helped (b.dsk.alive n) s).length ≤ 14641 := Nat.le_trans (List.length_filter_le _ _) (by omega)
 refine Z4 (Z0 (sqt 3 rfl (pur 1 rfl (sp rfl (PE.lenSl Z7C rfl) rfl (pur 1 rfl (Z3 ?_))))))
 refine Ze (ι := {x : Nat × KV // x.1 ≤ ((b.dsk.alive n).filter fun s => !b.dsk.helped (b.dsk.alive n) s).length ∧ (∀ e ∈ x.2, e.1.length = 4) ∧ ∀ s ∈ b.dsk.sts, x.2.get s = some (.int .i64 (bif (((b.dsk.alive n).filter fun s => !b.dsk.helped (b.dsk.alive n) s).take x.1).contains s then (n : Int) else b.dsk.lvl n s))}) (fun x => ⟨[(1, .pointer (some ⟨b1, 0, none⟩)), (2, .pointer (some ⟨b2, 0, none⟩)), (4, .int .i64 n), (6, p6.fs), (46, .slice ad ((b.dsk.alive n).filter fun s => !b.dsk.helped (b.dsk.alive n) s).length cd), (47, .int .i64 ((b.dsk.alive n).filter fun s => !b.dsk.helped (b.dsk.alive n) s).length), (48, .int .i64 x.1.1)], p6.G ++ (bd0, .deferred (some [])) :: (b2, cel 123 [.slice aa (b.dsk.alive n).length ca]) :: (b1, cel 80 [.pointer (some ⟨bd, 0, none⟩)]) :: (m, Z0h true x.1.2) :: H, RowsA ad 4 (ZZ ((b.dsk.alive n).filter fun s => !b.dsk.helped (b.dsk.alive n) s)) :: RowsA aa 4 (ZZ (b.dsk.alive n)) :: RowsA (some ⟨xb, 0, none⟩) 1 [[.pointer (some ⟨bd, 0, none⟩)]] :: R⟩) (fun x => ((b.dsk.alive n).filter fun s => !b.dsk.helped (b.dsk.alive n) s).length - x.1.1) ⟨(0, kv), Nat.zero_le _, hkv.len, fun s hs => by rw [hkv.get s hs]; rfl⟩ ?_ (fun x => ?_)
 exact Zl idH
 obtain ⟨⟨k, kv2⟩, hk, hkl, hkg⟩ := x
 dsimp only at hk hkl hkg ⊢
 refine sqt 1 rfl (pur 1 rfl (Z0 ?_))
 refine Z2 rfl ?_ ?_ <;> intro hc3 <;> try simp only [cS] at hc3
 obtain ⟨s, hsk⟩ : ∃ s, ((b.dsk.alive n).filter fun s => !b.dsk.helped (b.dsk.alive n) s)[k]? = some s := ⟨_, List.getElem?_eq_getElem (by omega)⟩
 have hmem := b.dsk.alive_sts (List.mem_filter.1 (List.mem_of_getElem? hsk)).1
 have hsi := (b.dsk.mem_sts hdk s).1 hmem
 obtain ⟨s0, s1, s2, s3, rfl⟩ := Z0x hsi.len
 refine Zp (a := ad) (sz := 4) (rows := ZZ ((b.dsk.alive n).filter fun s => !b.dsk.helped (b.dsk.alive n) s)) (ne0 (by rw [Z0k]; omega)) (fun ba oa he => ?_)
 subst he
 refine Z4 (Z0 (Z3 (sqt 4 rfl (sp rfl (PE.indexAddr ZdM rfl rfl (by omega) (by omega)) rfl (spL rfl rfl (lfA Z0J (row := [.int .i64 s0, .int .i64 s1, .int .i64 s2, .int .i64 s3]) (Z3U hsk) rfl) rfl (alc rfl Z4u rfl (fun b10 => ?_)))))))
 refine sto rfl rfl rfl Z4I rfl rfl rfl rfl ?_
 refine Z8 [0, 1, 3, 7, 0, 0, 63] (.ld 0 (.tk 1 (.tk 2 (.ld 3 (.ld 4 (.tk 5 (.big 6 .done))))))) Zr (by kernel_rfl) ?_
 refine ld rfl rfl (lh Z3r rfl rfl) rfl (tk rfl (PE.nilCheck rfl) rfl (tk rfl (PE.fA Z5u rfl) rfl (ld rfl rfl (lfB (sz := 18) ZbB (Z1H hl4 hm4)) rfl (ld rfl rfl (lhA [_, _, _, _] Z0J rfl rfl rfl) rfl (Zg 1 rfl ?_)))))
 refine mpu kv2 [s0, s1, s2, s3] rfl Z8H (KeyT.of Z2w Z2u) rfl rfl rfl rfl hkl ?_
 refine bgT (sqr 2 rfl (sp rfl (PE.add rfl rfl (by omega)) rfl (pur 1 rfl ?_)))
 exact ZW ⟨(k + 1, kv2.put [s0, s1, s2, s3] (.int .i64 n)), by dsimp only; omega, KV.put_len rfl hkl, fun s hs => by
   dsimp only
   rw [KV.get_put, ZY hsk, Z4v]
   by_cases h : [s0, s1, s2, s3] = s
   · rw [dT h, Bool.or_true]; rfl
   · rw [dF h, Bool.or_false, cond_false]; exact hkg s hs⟩ (by dsimp only; omega) (by repeat' first | exact Sub.nil | apply Sub.cons | rfl | (simp [lk]; omega)) (fun w h => h.del b10)
 obtain rfl : k = ((b.dsk.alive n).filter fun s => !b.dsk.helped (b.dsk.alive n) s).length := by omega
 rw [List.take_length] at hkg
 have hkv2 : KvOk b.dsk (n + 1) kv2 := ⟨hkl, fun s hs => by rw [hkg s hs, b.dsk.lvl_step hs hn5]⟩
 refine Zb (Zc (Zc (ZA (sqr 2 rfl (pur 1 rfl ?_)))))
 refine ZQ (l' := [p6.fs]) rfl rfl rfl Zdm rfl (by rw [p6.cells.1]; first | done | rfl) (by rw [p6.cells.1]; simp [p6.cells.2]) (by rw [p6.cells.1]; first | done | rfl) (by rw [p6.cells.1]; first | done | exact Nat.le_refl _) ?_
 refine sqr 3 rfl (pur 1 rfl (sp rfl (PE.add rfl rfl (by omega)) rfl (pur 1 rfl ?_)))
 exact Zm ⟨⟨(n + 1, kv2), by dsimp only; omega, hkv2⟩, p6⟩ (fun w h => (h.perm (Z0g p6.G [_, _, _] _)).ftail.ftail)
theorem Z8Q : cal Tryz.prog 11 = true := by kernel_rfl
theorem ZdE : cal Tryz.prog 23 = true := by kernel_rfl
theorem ZdF : cal Tryz.prog 24 = true := by kernel_rfl
theorem Barn.state_inS {b : Barn} (hb : b.ok) : b.dsk.inS b.state where
  len := (b.state_sml hb).len
  at_ k hk := by
    obtain ⟨x, hx⟩ : ∃ x, b.bins[k]? = some x := ⟨_, List.getElem?_eq_getElem hk⟩
    have hm := List.mem_of_getElem? hx
    have h1 : na b.state k = _ := Z13 (b.map_get hb _ hx)
    have h2 : na b.most k = _ := Z13 (b.map_get hb _ hx)
    have h3 : na b.lasts k = _ := Z13 (b.map_get hb _ hx)
    have h4 := ((b.dsk_ok hb).ever k hk)
    have r1 := b.days_range hb hm (hb.bins x hm).2.1.1
    have r2 := b.days_range hb hm hb.cool.1
    show (na b.most k = 1000000 ∧ na b.state k = 1000000) ∨ (na b.most k ≠ 1000000 ∧ 0 ≤ na b.state k ∧ na b.state k ≤ na b.most k)
    have h5 : na b.lasts k = 1000000 ↔ na b.most k = 1000000 := h4.2.2
    have z : ∀ w, 0 ≤ w → (b.days x w = 1000000 ↔ b.worst x = 0) := fun w hw => by
      constructor
      · intro h
        rcases Classical.em (b.worst x = 0) with h0 | h0
        · exact h0
        · have h9 := b.worst_range hb hm
          have h8 := (hb.bins x hm).1
          unfold Barn.days Z00 at h
          rw [decide_eq_false h0, cond_false] at h
          by_cases h3 : x.mark < w
          · rw [decide_eq_true h3, cond_true] at h; omega
          · rw [decide_eq_false h3, cond_false] at h
            have : (x.mark - w) / b.worst x < 11 := Int.ediv_lt_of_lt_mul (by omega) (by omega)
            omega
      · intro h; unfold Barn.days Z00; rw [h]; rfl
    have z1 := z _ (hb.bins x hm).2.1.1
    have z2 := z _ hb.cool.1
    rw [h1, h2]
    rw [h3, h2] at h5
    by_cases h0 : b.worst x = 0
    · have := z1.2 h0; have := z2.2 h0; omega
    · have : ¬ b.days x x.warm = 1000000 := fun h => h0 (z1.1 h)
      have : ¬ b.days x b.cool = 1000000 := fun h => h0 (z2.1 h)
      omega
  out k hk hk' := by
    have : (pad (b.bins.map fun x => b.days x x.warm))[k]? = some 0 := Z6J (by rw [List.length_map]; exact hk') hk
    exact Z13 this
theorem Barn.state_sts {b : Barn} (hb : b.ok) : b.state ∈ b.dsk.sts := (b.dsk.mem_sts (b.dsk_ok hb) _).2 (b.state_inS hb)
def ZfB (b : Barn) : Value → Prop := fun v => (b.check ≠ 0 ∧ v = .tuple #[.int .i64 0, .int .i64 b.check]) ∨ (b.check = 0 ∧ ∃ w, Kpt b.dsk b.state w ∧ v = .tuple #[.int .i64 w, .int .i64 0])
def ZcU (b : Barn) : Value → Prop := fun v => (b.check ≠ 0 ∧ v = .tuple #[.int .i64 0, .int .i64 b.check]) ∨ (b.check = 0 ∧ ∃ w, Kpt b.dsk b.state w ∧ v = .tuple #[.int .i64 (bif decide (w = 1000000) then 0 else w), .int .i64 (bif decide (w = 1000000) then 6 else 0)])
def Barn.withG (b : Barn) (g : Int) : Barn := { b with gangs := g }
theorem Barn.withG_ok {b : Barn} (hb : b.ok) {g : Int} (h : 0 ≤ g ∧ g ≤ 4) : (b.withG g).ok := ⟨hb.len, hb.many, hb.cool, h, hb.rise, hb.bins, hb.srt, hb.ord⟩
def Barn.ends (b : Barn) (g : Nat) : Prop := ∃ w, w ≠ 1000000 ∧ Kpt (b.withG g).dsk b.state w
def Z6v (b : Barn) : Value → Prop := fun v => (b.check ≠ 0 ∧ v = .tuple #[.int .i64 0, .int .i64 b.check]) ∨ (b.check = 0 ∧ ((∃ g : Nat, g ≤ b.bins.length ∧ (∀ j < g, b.ends j) ∧ Kpt (b.withG g).dsk b.state 1000000 ∧ v = .tuple #[.int .i64 g, .int .i64 0]) ∨ ((∀ j, j ≤ b.bins.length → b.ends j) ∧ v = .tuple #[.int .i64 0, .int .i64 6])))
theorem Z3p (b : Barn) (ab : Option Addr) (cb : Nat) (hl : b.bins.length ≤ 9223372036854775807) (hr : b.rise.length = 6) (H : Z7) (R : Z5) [hB : MemRows ab 4 (brows b.bins) R] :
    Fn Tryz.prog 11 [b.v (b.sl ab cb)] H R (fun v H' R' => ZfB b v ∧ H' = H ∧ R' = R) := by
 refine Z9 Tryz.func11 rfl Tryz.ntmps11 rfl ?_
 refine sqt 3 rfl (bx rfl rfl rfl (fun b1 => pur 2 rfl (sqt 7 rfl (spL rfl rfl (lhA (btl b (b.sl ab cb)) Zt rfl rfl rfl) rfl ?_))))
 refine cl rfl ZdE rfl rfl (Z2J b ab cb hl hr _ _) ?_
 rintro _ _ _ (⟨hck, rfl, rfl, rfl⟩ | ⟨hck, bd, m, rfl, rfl, rfl⟩)
 refine pur 5 rfl (Z0 (sqt 2 rfl (pur 2 rfl ?_)))
 refine Zv (congrArg (fun b => some (Value.bool b)) (dT hck)) ?_
 refine sqt 3 rfl (pur 3 rfl (Z1 ?_))
 exact rtB rfl rfl rfl rfl ⟨.inl ⟨hck, rfl⟩, rfl, rfl⟩ drp
 have hok := Barn.ok_of hr hck
 have hdk := b.dsk_ok hok
 have hl4 := hdk.lasts.len
 have hm4 := hdk.most.len
 refine pur 5 rfl (Z0 (sqt 2 rfl (pur 2 rfl ?_)))
 refine ZD (rfl) ?_
 refine Z4 (sqt 2 rfl (pur 1 rfl ?_))
 refine cl rfl ZdF rfl rfl (Zau b hok ab cb bd m _ _) ?_
 rintro v _ _ ⟨n, kv, hn, hfx, hkv, rfl, rfl⟩
 have hks := Zaw (b.state_sts hok) hn hfx
 have hkg := hkv.get _ (b.state_sts hok)
 refine Z0 ?_
 refine Z8 [0, 1, 3, 7, 0, 16, 63, 127, 255] (tks 0 3 (.ld 3 (.ld 4 (.big 5 (.ld 6 (.tk 7 (.tk 8 .done))))))) Zr (by kernel_rfl) ?_
 refine Zg 1 rfl (tk rfl (PE.nilCheck rfl) rfl (tk rfl (PE.fA Z5u rfl) rfl (ld rfl rfl (lfB (sz := 18) ZbB (Z1H hl4 hm4)) rfl (ld rfl rfl (lhA (btl b (b.sl ab cb)) Zt rfl rfl rfl) rfl ?_))))
 refine clV rfl Z7P rfl rfl (Z2V b ab cb hok _ _) ?_
 refine bg (fun w hs => ⟨trivial, (lfB (sz := 18) ZbB (Z1H hl4 hm4)) w hs, trivial⟩) ?_
 refine ldK rfl rfl rfl ((Z5T (b := true) kv b.state Z8H (KeyT.of Z2w Z2u) (Z4Y zv3) (b.state_sml hok).len hkv.len false)) rfl ?_
 rw [hkg]
 refine Zg 2 rfl (Z1 ?_)
 exact rtB rfl rfl rfl rfl ⟨.inr ⟨hck, _, hks, rfl⟩, rfl, rfl⟩ (fun w h => ((h.del b1).del m).ftail)
theorem ZbV (b : Barn) (ab : Option Addr) (cb : Nat) (hl : b.bins.length ≤ 9223372036854775807) (hr : b.rise.length = 6) (H : Z7) (R : Z5) [hB : MemRows ab 4 (brows b.bins) R] :
    Fn Tryz.prog 38 [b.v (b.sl ab cb)] H R (fun v H' R' => ZcU b v ∧ H' = H ∧ R' = R) := by
 refine Z9 Tryz.func38 rfl Tryz.ntmps38 rfl ?_
 refine sqt 3 rfl (bx rfl rfl rfl (fun b1 => pur 2 rfl (sqt 7 rfl (spL rfl rfl (lhA (btl b (b.sl ab cb)) Zt rfl rfl rfl) rfl ?_))))
 refine cl rfl Z8Q rfl rfl (Z3p b ab cb hl hr _ _) ?_
 rintro _ _ _ ⟨(⟨hck, rfl⟩ | ⟨hck, w, hw, rfl⟩), rfl, rfl⟩
 refine pur 5 rfl (Z0 (Z3 (sqt 3 rfl (pur 3 rfl ?_))))
 refine Zv (congrArg (fun b => some (Value.bool b)) (dT hck)) ?_
 refine sqt 3 rfl (pur 3 rfl (Z1 ?_))
 exact rtB rfl rfl rfl rfl ⟨.inl ⟨hck, rfl⟩, rfl, rfl⟩ drp
 refine pur 5 rfl (Z0 (Z3 (sqt 3 rfl (pur 3 rfl ?_))))
 refine ZD (rfl) ?_
 refine sqt 3 rfl (pur 3 rfl ?_)
 refine Z2 rfl ?_ ?_ <;> intro hc1 <;> try simp only [cS] at hc1
 refine sqt 2 rfl (pur 2 rfl (Z1 ?_))
 exact rtB rfl rfl rfl rfl ⟨.inr ⟨hck, w, hw, by rw [dT hc1]; rfl⟩, rfl, rfl⟩ drp
 refine Z4 (sqt 3 rfl (pur 3 rfl (Z1 ?_)))
 exact rtB rfl rfl rfl rfl ⟨.inr ⟨hck, w, hw, by rw [dF hc1]; rfl⟩, rfl, rfl⟩ drp
theorem Zby (b : Barn) (ab : Option Addr) (cb : Nat) (hl : b.bins.length ≤ 9223372036854775807) (hr : b.rise.length = 6) (H : Z7) (R : Z5) [hB : MemRows ab 4 (brows b.bins) R] :
    Fn Tryz.prog 39 [b.v (b.sl ab cb)] H R (fun v H' R' => Z6v b v ∧ H' = H ∧ R' = R) := by
 refine Z9 Tryz.func39 rfl Tryz.ntmps39 rfl ?_
 refine sqt 3 rfl (bx rfl rfl rfl (fun b1 => pur 2 rfl (Z0 (sqt 3 rfl (spL rfl rfl (lhA (btl b (b.sl ab cb)) Zt rfl rfl rfl) rfl ?_)))))
 refine clV rfl Zag rfl rfl (Z27 b ab cb hl hr _ _) ?_
 refine pur 1 rfl (sqt 2 rfl (pur 2 rfl ?_))
 refine Z2 rfl ?_ ?_ <;> intro hc0 <;> try simp only [cS] at hc0
 refine sqt 3 rfl (pur 3 rfl (Z1 ?_))
 exact rtB rfl rfl rfl rfl ⟨.inl ⟨hc0, rfl⟩, rfl, rfl⟩ drp
 have hck : b.check = 0 := by omega
 have hok := Barn.ok_of hr hck
 have hdk := b.dsk_ok hok
 have hl4 := hdk.lasts.len
 have hm4 := hdk.most.len
 have hmn := hok.many
 refine Z4 (Z0 (sqt 2 rfl (sp rfl (PE.fA Z1C rfl) rfl ?_)))
 refine sto rfl rfl rfl cn3 rfl rfl rfl rfl ?_
 refine Z3 ?_
 refine Ze (ι := {g : Nat // g ≤ b.bins.length + 1 ∧ ∀ j < g, b.ends j}) (fun g => ⟨[(1, .pointer (some ⟨b1, 0, none⟩))], (b1, cel 37 (btl (b.withG g.1) (b.sl ab cb))) :: H, R⟩) (fun g => b.bins.length + 1 - g.1) ⟨0, Nat.zero_le _, by omega⟩ ?_ (fun g => ?_)
 exact Zl idH
 obtain ⟨g, hg, hge⟩ := g
 dsimp only at hg hge ⊢
 have egg : (b.withG g).gangs = (g : Int) := rfl
 refine Z0 (sqt 6 rfl (sp rfl (PE.fA Z1C rfl) rfl (spL rfl rfl (lh sc3 rfl rfl) rfl (sp rfl (PE.fA Zj rfl) rfl (spL rfl rfl (lh Z0b rfl rfl) rfl (sp rfl (PE.lenSl Z0G rfl) rfl (pur 1 rfl ?_)))))))
 refine Z2 rfl ?_ ?_ <;> intro hc1 <;> try simp only [cS] at hc1
 have hgk : (b.withG g).ok := b.withG_ok hok (by omega)
 refine Z4 (Z0 (Z3 (sqt 3 rfl (spL rfl rfl (lhA (btl (b.withG g) (b.sl ab cb)) Zt rfl rfl rfl) rfl ?_))))
 refine cl rfl Zdj rfl rfl (Z6w (b.withG g) ab cb hgk _ _) ?_
 rintro _ _ _ ⟨bd, m, rfl, rfl, rfl⟩
 refine pur 1 rfl (sqt 2 rfl (pur 1 rfl ?_))
 refine cl rfl ZdF rfl rfl (Zau (b.withG g) hgk ab cb bd m _ _) ?_
 rintro v _ _ ⟨n, kv, hn, hfx, hkv, rfl, rfl⟩
 have hks := Zaw ((b.withG g).state_sts hgk) hn hfx
 have hkg := hkv.get _ ((b.withG g).state_sts hgk)
 refine Z0 ?_
 refine Z8 [0, 1, 3, 7, 0, 16, 63, 127] (tks 0 3 (.ld 3 (.ld 4 (.big 5 (.ld 6 (.tk 7 .done)))))) Zr (by kernel_rfl) ?_
 refine Zg 1 rfl (tk rfl (PE.nilCheck rfl) rfl (tk rfl (PE.fA Z5u rfl) rfl (ld rfl rfl (lfB (sz := 18) ZbB (Z1H (b := b.withG g) hl4 hm4)) rfl (ld rfl rfl (lhA (btl (b.withG g) (b.sl ab cb)) Zt rfl rfl rfl) rfl ?_))))
 refine clV rfl Z7P rfl rfl (Z2V (b.withG g) ab cb hgk _ _) ?_
 refine bg (fun w hs => ⟨trivial, (lfB (sz := 18) ZbB (Z1H (b := b.withG g) hl4 hm4)) w hs, trivial⟩) ?_
 refine ldK rfl rfl rfl ((Z5T (b := true) kv (b.withG g).state Z8H (KeyT.of Z2w Z2u) (Z4Y zv3) (b.state_sml hok).len hkv.len false)) rfl ?_
 rw [hkg]
 refine Zg 1 rfl ?_
 refine Z2 rfl ?_ ?_ <;> intro hc2 <;> try simp only [cS] at hc2
 refine sqt 4 rfl (sp rfl (PE.fA Z1C rfl) rfl (spL rfl rfl (lh sc3 rfl rfl) rfl (pur 2 rfl (Z1 ?_))))
 exact rtB rfl rfl rfl rfl ⟨.inr ⟨hck, .inl ⟨g, by omega, hge, hc2 ▸ hks, rfl⟩⟩, rfl, rfl⟩ (fun w h => ((h.del m).del b1).ftail)
 refine Z4 (sqr 5 rfl (sp rfl (PE.fA Z1C rfl) rfl (spL rfl rfl (lh sc3 rfl rfl) rfl (sp rfl (PE.add rfl rfl (by have : (b.withG g).gangs = g := rfl; omega)) rfl (sp rfl (PE.fA Z1C rfl) rfl ?_)))))
 refine sto rfl rfl rfl cn3 rfl rfl rfl rfl ?_
 exact ZW ⟨g + 1, by omega, fun j hj => by
   rcases Nat.lt_or_ge j g with h1 | h1
   · exact hge j h1
   · obtain rfl : j = g := by omega
     exact ⟨_, hc2, hks⟩⟩ (by dsimp only; omega) (by repeat' first | exact Sub.nil | apply Sub.cons | rfl | (simp [lk]; omega)) (fun w h => (h.del m).ftail)
 obtain rfl : g = b.bins.length + 1 := by omega
 refine Zb (Zc (Zc (ZA (sqt 2 rfl (pur 2 rfl (Z1 ?_))))))
 exact rtB rfl rfl rfl rfl ⟨.inr ⟨hck, .inr ⟨fun j hj => hge j (by omega), rfl⟩⟩, rfl, rfl⟩ (fun w h => h.del b1)
theorem Zfx : cal Tryz.prog 89 = true := by kernel_rfl
theorem ZdZ : elN Tryz.prog 56 = some 1 := by kernel_rfl
theorem Z76 : Z7v Tryz.prog 56 = true := by kernel_rfl
theorem ZeP : Z1v Tryz.prog 91 = true := by kernel_rfl
structure PL where
  a : Option Addr
  c : Nat
  l : List Int
def Z77 (x : PL) : List Value := [.slice x.a x.l.length x.c]
def Zz (l : List PL) : List (List Value) := l.map Z77
def Inn (l : List PL) (w : World) : Prop := ∀ x ∈ l, RowsA x.a 1 (Zn x.l) w
def lls (l : List PL) : List (List Int) := l.map (·.l)
theorem Z2b (l : List PL) : (Zz l).length = l.length := List.length_map _
theorem Z8s {l : List PL} {k : Nat} {x : PL} (h : l[k]? = some x) : (Zz l)[k]? = some (Z77 x) := by simp [Zz, h]
theorem Z4i {l : List PL} {k : Nat} {x : PL} (h : l[k]? = some x) : (lls l)[k]? = some x.l := by simp [lls, h]
theorem lls_len (l : List PL) : (lls l).length = l.length := List.length_map _
theorem St.inn {H : Z7} {R : Z5} {w : World} {l : List PL} {x : PL} [m : MemF (Inn l) R] (h : St H R w) (hx : x ∈ l) : St H (RowsA x.a 1 (Zn x.l) :: R) w :=
  h.also fun _ hw => hw _ m.mem x hx
theorem Z5i {l : List Int} {k : Nat} {x : Int} (h : l[k]? = some x) : (Zn l)[k]? = some [.int .i64 x] := by simp [h]
theorem Zq (l : List Int) : (Zn l).length = l.length := List.length_map _
def Z9H : List Int → Bool
  | x :: y :: l => decide (x < y) && Z9H (y :: l)
  | _ => true
def Z0H (n g : Int) (l : List Int) : Int := bif !(l.all fun k => inB k 0 (n - 1)) then 1 else bif !(Z9H l) then 4 else bif decide (g < (l.length : Int)) then 9 else 0
def Z0j (n g : Int) : List (List Int) → Int
  | [] => 0
  | l :: p => bif decide (Z0H n g l = 0) then Z0j n g p else Z0H n g l
def Z08 (n g : Int) (p : List (List Int)) : Int := bif decide (20000 < p.length) then 2 else Z0j n g p
theorem Z5c {n g : Int} {p : List (List Int)} {k : Nat} {l : List Int} (h : p[k]? = some l) : Z0j n g (p.drop k) = bif decide (Z0H n g l = 0) then Z0j n g (p.drop (k + 1)) else Z0H n g l := by
  rw [show p.drop k = l :: p.drop (k + 1) by rw [List.drop_eq_getElem_cons (List.getElem?_eq_some_iff.1 h).1, (List.getElem?_eq_some_iff.1 h).2]]
  rfl
theorem Z8i : ∀ {l : List Int} {k : Nat} {x y : Int}, l[k]? = some x → l[k + 1]? = some y → y ≤ x → Z9H l = false
  | a :: b :: l, 0, x, y, hx, hy, h => by
    simp only [List.getElem?_cons_zero, Option.some.injEq, Nat.zero_add, List.getElem?_cons_succ] at hx hy
    subst hx; subst hy
    unfold Z9H; rw [decide_eq_false (by omega)]; rfl
  | a :: b :: l, k + 1, x, y, hx, hy, h => by
    unfold Z9H
    rw [Z8i (l := b :: l) (k := k) (by simpa using hx) (by simpa using hy) h, Bool.and_false]
  | [a], 0, x, y, hx, hy, h => by simp at hy
  | [a], k + 1, x, y, hx, hy, h => by simp at hx
  | [], k, x, y, hx, hy, h => by simp at hx
theorem Z46 : ∀ {l : List Int}, (∀ i x y, l[i]? = some x → l[i + 1]? = some y → x < y) → Z9H l = true
  | [], _ => rfl
  | [a], _ => rfl
  | a :: b :: l, h => by
    unfold Z9H
    rw [decide_eq_true (h 0 a b rfl rfl), Bool.true_and]
    exact Z46 fun i x y hx hy => h (i + 1) x y (by simpa using hx) (by simpa using hy)
theorem Z62 (xs : List Int) (a : Option Addr) (c : Nat) (v : Int) (hl : xs.length ≤ 9223372036854775807) (H : Z7) (R : Z5) [hR : MemRows a 1 (Zn xs) R] :
    FnV Tryz.prog 89 [.slice a xs.length c, .int .i64 v] H R (.int .i64 (match xs.findIdx? (fun x => decide (v = x)) with | some k => (k : Int) | none => -1)) := by
 refine Z9 Tryz.func89 rfl Tryz.ntmps89 rfl ?_
 refine sqt 1 rfl (pur 1 rfl (Z0 (sqt 3 rfl (pur 1 rfl (sp rfl (PE.lenSl Z1u rfl) rfl (pur 1 rfl (Z3 ?_)))))))
 refine Ze (ι := {k : Nat // k ≤ xs.length ∧ ∀ x ∈ xs.take k, decide (v = x) = false}) (fun k => ⟨[(0, .slice a xs.length c), (1, .int .i64 v), (7, .int .i64 xs.length), (8, .int .i64 k.1)], H, R⟩) (fun k => xs.length - k.1) ⟨0, by simp⟩ ?_ (fun k => ?_)
 exact Zl idH
 obtain ⟨k, hk, hn⟩ := k
 dsimp only
 refine sqt 1 rfl (pur 1 rfl (Z0 ?_))
 refine Z2 rfl ?_ ?_ <;> intro hc0 <;> try simp only [cS] at hc0
 obtain ⟨x, hx⟩ : ∃ x, xs[k]? = some x := ⟨_, List.getElem?_eq_getElem (by omega)⟩
 refine Zp (a := a) (sz := 1) (rows := Zn xs) (by cases xs <;> simp_all) (fun b off he => ?_)
 subst he
 refine Z4 (Z0 (Z3 (sqt 2 rfl (pur 2 rfl (sqt 6 rfl (pur 3 rfl (sp rfl (PE.indexAddr Z5z rfl rfl (by omega) (by omega)) rfl (spL rfl rfl (lf0 sc3 (Z5i hx) rfl) rfl (pur 1 rfl ?_)))))))))
 refine Z2 rfl ?_ ?_ <;> intro hc1
 refine sqt 2 rfl (pur 2 rfl (Z1 ?_))
 first | (exact rtA rfl rfl rfl ⟨by rw [ZU hx hn hc1]; rfl, rfl, rfl⟩ idH) | (exact rtA rfl rfl rfl ⟨by rw [ZK (by simpa using hn)]; rfl, rfl, rfl⟩ idH)
 refine Z4 (sqr 2 rfl (sp rfl (PE.add rfl rfl (by omega)) rfl (pur 1 rfl ?_)))
 exact Zm ⟨k + 1, by omega, Z0F hx hn hc1⟩ idH
 obtain rfl : k = xs.length := by omega
 refine Zb (Zc (Zc (ZA (sqt 1 rfl (pur 1 rfl (Z1 ?_))))))
 first | (exact rtA rfl rfl rfl ⟨by rw [ZU hx hn hc1]; rfl, rfl, rfl⟩ idH) | (exact rtA rfl rfl rfl ⟨by rw [ZK (by simpa using hn)]; rfl, rfl, rfl⟩ idH)
theorem Z1B (xs : List Int) (a : Option Addr) (c : Nat) (v : Int) (hl : xs.length ≤ 9223372036854775807) (H : Z7) (R : Z5) [hR : MemRows a 1 (Zn xs) R] :
    FnV Tryz.prog 65 [.slice a xs.length c, .int .i64 v] H R (.bool (xs.any fun x => decide (v = x))) := by
 refine Z9 Tryz.func65 rfl Tryz.ntmps65 rfl ?_
 refine sqt 1 rfl (pur 1 rfl (sqt 5 rfl (pur 2 rfl ?_)))
 refine clV rfl Zfx rfl rfl (Z62 xs a c v hl _ _) ?_
 refine pur 2 rfl (Z1 ?_)
 exact rtA rfl rfl rfl ⟨by simp only [ZM]; exact Z1F _ _, rfl, rfl⟩ drp
theorem ZaN (b : Barn) (ab : Option Addr) (cb : Nat) (hl : b.bins.length ≤ 9223372036854775807) (pl : List PL) (ap : Option Addr) (cp : Nat) (hpl : pl.length ≤ 9223372036854775807) (hpi : ∀ x ∈ pl, x.l.length ≤ 9223372036854775807) (H : Z7) (R : Z5) [hP : MemRows ap 1 (Zz pl) R] [hI : MemF (Inn pl) R] :
    FnV Tryz.prog 62 [b.v (b.sl ab cb), .slice ap pl.length cp] H R (.int .i64 (Z08 ((b.bins.length : Int)) b.gangs (lls pl))) := by
 refine Z9 Tryz.func62 rfl Tryz.ntmps62 rfl ?_
 refine sqt 2 rfl (bx rfl rfl rfl (fun b2 => pur 1 rfl (Z0 (sqt 3 rfl (pur 1 rfl (sp rfl (PE.lenSl Z76 rfl) rfl (pur 1 rfl ?_)))))))
 refine Z2 rfl ?_ ?_ <;> intro hc0 <;> try simp only [cS] at hc0
 have e : Z08 ((b.bins.length : Int)) b.gangs (lls pl) = 2 := by unfold Z08; rw [lls_len, dT (by omega)]; rfl
 refine sqt 1 rfl (pur 1 rfl (Z1 ?_))
 exact rtA rfl rfl rfl ⟨by first | (rw [e, e2]; rfl) | (rw [e]; rfl), rfl, rfl⟩ (fun w h => by first | exact St.sub (h.del b2) | skip)
 have e : Z08 ((b.bins.length : Int)) b.gangs (lls pl) = Z0j ((b.bins.length : Int)) b.gangs (lls pl) := by unfold Z08; rw [lls_len, dF (by omega)]; rfl
 refine Z4 (Z0 (sqt 3 rfl (pur 1 rfl (sp rfl (PE.lenSl Z76 rfl) rfl (pur 1 rfl (Z3 ?_))))))
 refine Ze (ι := {k : Nat // k ≤ pl.length ∧ Z0j ((b.bins.length : Int)) b.gangs (lls pl) = Z0j ((b.bins.length : Int)) b.gangs ((lls pl).drop k)}) (fun k => ⟨[(2, .pointer (some ⟨b2, 0, none⟩)), (11, .slice ap pl.length cp), (12, .int .i64 pl.length), (13, .int .i64 k.1)], (b2, cel 37 (btl b (b.sl ab cb))) :: H, R⟩) (fun k => pl.length - k.1) ⟨0, Nat.zero_le _, rfl⟩ ?_ (fun k => ?_)
 exact Zl idH
 obtain ⟨k, hk, hke⟩ := k
 dsimp only at hk hke ⊢
 refine sqt 1 rfl (pur 1 rfl (Z0 ?_))
 refine Z2 rfl ?_ ?_ <;> intro hc1 <;> try simp only [cS] at hc1
 obtain ⟨x, hx⟩ : ∃ x, pl[k]? = some x := ⟨_, List.getElem?_eq_getElem (by omega)⟩
 have hxm := List.mem_of_getElem? hx
 have hxl := hpi x hxm
 rw [Z5c (Z4i hx)] at hke
 refine Zp (a := ap) (sz := 1) (rows := Zz pl) (ne0 (by rw [Z2b]; omega)) (fun ba oa he => ?_)
 subst he
 refine Sy.heap (fun w h => St.inn (x := x) h hxm) ?_
 refine Z4 (Z0 (Z3 (sqt 3 rfl (sp rfl (PE.indexAddr ZdZ rfl rfl (by omega) (by omega)) rfl (spL rfl rfl (lf0 ZeP (Z8s hx) rfl) rfl (pur 1 rfl (Z0 (sqt 5 rfl (pur 1 rfl (spL rfl rfl (lhA (btl b (b.sl ab cb)) Zt rfl rfl rfl) rfl (sp rfl (PE.makeFunc rfl rfl) rfl ?_)))))))))))
 refine clV rfl Zdt rfl rfl (Z0E x.l x.a x.c 66 [b.v (b.sl ab cb)] [] (fun k => inB k 0 (((b.bins.length : Int)) - 1)) ZaV hxl _ _ (fun _ y _ => ZbL b ab cb y hl _ _)) ?_
 refine pur 1 rfl ?_
 refine Z2 rfl ?_ ?_ <;> intro hc2
 have ed : Z0H ((b.bins.length : Int)) b.gangs x.l = 1 := by unfold Z0H; rw [hc2]; rfl
 rw [ed] at hke
 have e2 : Z0j ((b.bins.length : Int)) b.gangs (lls pl) = 1 := hke
 refine sqt 1 rfl (pur 1 rfl (Z1 ?_))
 exact rtA rfl rfl rfl ⟨by first | (rw [e, e2]; rfl) | (rw [e]; rfl), rfl, rfl⟩ (fun w h => by first | exact St.sub (h.del b2) | skip)
 refine Z4 (Z0 (sqt 1 rfl (pur 1 rfl (Z3 ?_))))
 refine Ze (ι := {i : Nat // 1 ≤ i ∧ i ≤ x.l.length + 1 ∧ ∀ j u v, j + 1 < i → x.l[j]? = some u → x.l[j + 1]? = some v → u < v}) (fun i => ⟨[(2, .pointer (some ⟨b2, 0, none⟩)), (11, .slice (some ⟨ba, oa, none⟩) pl.length cp), (12, .int .i64 pl.length), (13, .int .i64 k), (6, .slice x.a x.l.length x.c), (7, .int .i64 i.1)], (b2, cel 37 (btl b (b.sl ab cb))) :: H, RowsA x.a 1 (Zn x.l) :: R⟩) (fun i => x.l.length + 1 - i.1) ⟨1, Nat.le_refl _, by omega, fun j u v hj => by omega⟩ ?_ (fun i => ?_)
 exact Zl idH
 obtain ⟨i, hi1, hi2, his⟩ := i
 dsimp only at hi1 hi2 his ⊢
 refine Z0 (sqt 4 rfl (pur 2 rfl (sp rfl (PE.lenSl Z1u rfl) rfl (pur 1 rfl ?_))))
 refine Z2 rfl ?_ ?_ <;> intro hc3 <;> try simp only [cS] at hc3
 obtain ⟨u, hu⟩ : ∃ u, x.l[i - 1]? = some u := ⟨_, List.getElem?_eq_getElem (by omega)⟩
 obtain ⟨v, hv⟩ : ∃ v, x.l[i]? = some v := ⟨_, List.getElem?_eq_getElem (by omega)⟩
 have hv' : x.l[i - 1 + 1]? = some v := by rw [Nat.sub_add_cancel hi1]; exact hv
 refine Zp (a := x.a) (sz := 1) (rows := Zn x.l) (ne0 (by rw [Zq]; omega)) (fun bx ox he => ?_)
 rw [he]
 refine Z4 (Z0 (Z3 (Z0 ?_)))
 refine Z8 [0, 0, 3, 7, 0, 0, 32, 112, 240, 511] (tks 0 3 (.ld 3 (tks 4 4 (.ld 8 (.tk 9 .done))))) Zr (by kernel_rfl) ?_
 refine Zg 2 rfl (tk rfl (PE.indexAddr Z5z rfl rfl (by omega) (by omega)) rfl (ld rfl rfl (lf0 sc3 (Z5i hv) rfl) rfl (Zg 2 rfl (tk rfl (PE.sub rfl rfl (by omega)) rfl (tk rfl (PE.indexAddr Z5z rfl rfl (by omega) (by omega)) rfl (ld rfl rfl (lf0 (row := [.int .i64 u]) sc3 (by rw [show ((i : Int) - 1).toNat = i - 1 by omega]; exact Z5i hu) rfl) rfl (Zg 1 rfl ?_)))))))
 refine Z2 rfl ?_ ?_ <;> intro hc4 <;> try simp only [cS] at hc4
 have ed : Z0H ((b.bins.length : Int)) b.gangs x.l = 4 := by unfold Z0H; rw [hc2, Z8i hu hv' hc4]; rfl
 rw [ed] at hke
 have e2 : Z0j ((b.bins.length : Int)) b.gangs (lls pl) = 4 := hke
 refine sqt 1 rfl (pur 1 rfl (Z1 ?_))
 exact rtA rfl rfl rfl ⟨by first | (rw [e, e2]; rfl) | (rw [e]; rfl), rfl, rfl⟩ (fun w h => by first | exact St.sub (h.del b2) | skip)
 refine Z4 (sqr 3 rfl (pur 1 rfl (sp rfl (PE.add rfl rfl (by omega)) rfl (pur 1 rfl ?_))))
 exact ZW ⟨i + 1, by omega, by omega, fun j u' v' hj hu' hv2 => by
   rcases Nat.lt_or_ge (j + 1) i with h1 | h1
   · exact his j u' v' h1 hu' hv2
   · obtain rfl : j = i - 1 := by omega
     rw [hu] at hu'; rw [hv'] at hv2; cases hu'; cases hv2; exact hc4⟩ (by dsimp only; omega) (by repeat' first | exact Sub.nil | apply Sub.cons | rfl | (simp [lk]; omega)) idH
 have hsi : Z9H x.l = true := Z46 fun j u v hu hv => his j u v (by have := (List.getElem?_eq_some_iff.1 hv).1; omega) hu hv
 refine Zb (Zc (Zc (ZA (sqt 5 rfl (pur 1 rfl (sp rfl (PE.lenSl Z1u rfl) rfl (sp rfl (PE.fA Z1C rfl) rfl (spL rfl rfl (lh sc3 rfl rfl) rfl (pur 1 rfl ?_)))))))))
 refine Z2 rfl ?_ ?_ <;> intro hc5 <;> try simp only [cS] at hc5
 have ed : Z0H ((b.bins.length : Int)) b.gangs x.l = 9 := by unfold Z0H; rw [hc2, hsi, dT hc5]; rfl
 rw [ed] at hke
 have e2 : Z0j ((b.bins.length : Int)) b.gangs (lls pl) = 9 := hke
 refine sqt 1 rfl (pur 1 rfl (Z1 ?_))
 exact rtA rfl rfl rfl ⟨by first | (rw [e, e2]; rfl) | (rw [e]; rfl), rfl, rfl⟩ (fun w h => by first | exact St.sub (h.del b2) | skip)
 have ed : Z0H ((b.bins.length : Int)) b.gangs x.l = 0 := by unfold Z0H; rw [hc2, hsi, dF (by omega)]; rfl
 rw [ed] at hke
 refine Z4 (sqr 2 rfl (sp rfl (PE.add rfl rfl (by omega)) rfl (pur 1 rfl ?_)))
 exact Zm ⟨k + 1, by omega, hke⟩ (fun w h => h.ftail)
 obtain rfl : k = pl.length := by omega
 rw [show (lls pl).drop pl.length = [] by rw [List.drop_eq_nil_iff, lls_len]; exact Nat.le_refl _] at hke
 have e2 : Z0j ((b.bins.length : Int)) b.gangs (lls pl) = 0 := hke
 refine Zb (Zc (Zc (ZA (sqt 1 rfl (pur 1 rfl (Z1 ?_))))))
 exact rtA rfl rfl rfl ⟨by first | (rw [e, e2]; rfl) | (rw [e]; rfl), rfl, rfl⟩ (fun w h => by first | exact St.sub (h.del b2) | skip)
theorem Z82 : cal Tryz.prog 27 = true := by kernel_rfl
theorem Zbn : cal Tryz.prog 28 = true := by kernel_rfl
theorem Zd7 : cal Tryz.prog 62 = true := by kernel_rfl
theorem Zbz : cal Tryz.prog 63 = true := by kernel_rfl
theorem Zco : cal Tryz.prog 65 = true := by kernel_rfl
def Barn.wd (b : Barn) (x : HBin) (w : Int) (t : Bool) : Int := (bif t then min w b.cool else w) + b.worst x
def Z2P (l : List Int) (k : Int) : Bool := l.any fun y => decide (k = y)
def hb0 : HBin := ⟨0, 0, 0, 0⟩
def Barn.wdAt (b : Barn) (ws l : List Int) (k : Nat) : Int := b.wd (b.bins.getD k hb0) (na ws k) (Z2P l k)
def Barn.hotAt (b : Barn) (ws l : List Int) (k : Nat) : Bool := decide ((b.bins.getD k hb0).mark < b.wdAt ws l k)
def Barn.dayW (b : Barn) (ws l : List Int) : List Int := (List.range b.bins.length).map (b.wdAt ws l)
def Barn.burnsF (b : Barn) : List Int → List (List Int) → Nat → Option (Nat × Nat) × List Int
  | ws, [], _ => (none, ws)
  | ws, l :: p, d => match (List.range b.bins.length).find? (b.hotAt ws l) with
    | some k => (some (d, k), ws)
    | none => b.burnsF (b.dayW ws l) p (d + 1)
def Barn.warms (b : Barn) : List Int := b.bins.map (·.warm)
structure Cool (b : Barn) (ws : List Int) : Prop where
  len : ws.length = b.bins.length
  at_ : ∀ k x, b.bins[k]? = some x → 0 ≤ na ws k ∧ na ws k ≤ x.mark
theorem Barn.dayW_len (b : Barn) (ws l : List Int) : (b.dayW ws l).length = b.bins.length := by simp [Barn.dayW]
theorem Barn.dayW_at {b : Barn} {ws l : List Int} {k : Nat} (hk : k < b.bins.length) : (b.dayW ws l)[k]? = some (b.wdAt ws l k) := by unfold Barn.dayW; rw [List.getElem?_map, List.getElem?_range hk]; rfl
theorem Z01 {b : Barn} {k : Nat} {x : HBin} (hx : b.bins[k]? = some x) : b.bins.getD k hb0 = x := by rw [List.getD_eq_getElem?_getD, hx]; rfl
theorem Barn.wdAt_of {b : Barn} {ws l : List Int} {k : Nat} {x : HBin} (hx : b.bins[k]? = some x) : b.wdAt ws l k = b.wd x (na ws k) (Z2P l k) := by unfold Barn.wdAt; rw [Z01 hx]
theorem Cool.start {b : Barn} (hb : b.ok) : Cool b b.warms where
  len := List.length_map _
  at_ k x hx := by
    have h := (hb.bins x (List.mem_of_getElem? hx)).2.1
    have e : na b.warms k = x.warm := by unfold na Barn.warms; rw [List.getD_eq_getElem?_getD, List.getElem?_map, hx]; rfl
    rw [e]; exact h
theorem Barn.find_no {b : Barn} {ws l : List Int} (h : ∀ k < b.bins.length, b.hotAt ws l k = false) : (List.range b.bins.length).find? (b.hotAt ws l) = none := by
  rw [List.find?_eq_none]; intro k hk; simp [h k (List.mem_range.1 hk)]
theorem Z75 {n k : Nat} {p : Nat → Bool} (hk : k < n) (hp : p k = true) (hn : ∀ j < k, p j = false) : (List.range n).find? p = some k := by
  rw [List.find?_range_eq_some]
  exact ⟨hp, List.mem_range.2 hk, fun j hj => by simp [hn j hj]⟩
theorem Cool.next {b : Barn} (hb : b.ok) {ws l : List Int} (h : Cool b ws) (hn : ∀ k < b.bins.length, b.hotAt ws l k = false) : Cool b (b.dayW ws l) where
  len := b.dayW_len _ _
  at_ k x hx := by
    have hk := (List.getElem?_eq_some_iff.1 hx).1
    have e : na (b.dayW ws l) k = b.wdAt ws l k := Z13 (b.dayW_at hk)
    have h1 := of_decide_eq_false (hn k hk)
    rw [Z01 hx] at h1
    have h2 := h.at_ k x hx
    have h3 := b.worst_range hb (List.mem_of_getElem? hx)
    have h4 := hb.cool
    rw [e]
    refine ⟨?_, by omega⟩
    rw [b.wdAt_of hx]
    unfold Barn.wd
    cases Z2P l k <;> simp only [cond_true, cond_false] <;> omega
theorem Barn.burns_drop {b : Barn} {ws : List Int} {p : List (List Int)} {d : Nat} {l : List Int} (h : p[d]? = some l) : b.burnsF ws (p.drop d) d = match (List.range b.bins.length).find? (b.hotAt ws l) with
    | some k => (some (d, k), ws)
    | none => b.burnsF (b.dayW ws l) (p.drop (d + 1)) (d + 1) := by
  rw [show p.drop d = l :: p.drop (d + 1) by rw [List.drop_eq_getElem_cons (List.getElem?_eq_some_iff.1 h).1, (List.getElem?_eq_some_iff.1 h).2]]
  rfl
theorem Z9E {l : List Int} {junk : List Value} {k i : Nat} {v : Int} (hk : k < l.length) (e : i = k) : spl (Za l ++ junk) i [.int .i64 v] = Za (l.set k v) ++ junk := by
  subst e
  rw [Z3l (by rw [List.length_append, ints_length]; omega), List.set_append_left _ _ (by rw [ints_length]; exact hk), Z24]
theorem Z44 {l : List Int} {junk : List Value} {k i : Nat} {v : Int} (h : l[k]? = some v) (e : i = k) : (Za l ++ junk)[i]? = some (.int .i64 v) := by
  subst e
  rw [List.getElem?_append_left (by rw [ints_length]; exact (List.getElem?_eq_some_iff.1 h).1)]
  exact Z2C h
def ZdL (b : Barn) (p : List (List Int)) (H : Z7) (R : Z5) : Value → Z7 → Z5 → Prop := fun v H' R' => R' = R ∧
  ((∃ ws, ∃ o : OSl 3 1 (Zn ws), b.burnsF b.warms p 0 = (none, ws) ∧ Cool b ws ∧ v = .tuple #[.int .i64 0, .int .i64 0, o.fs, .bool false] ∧ H' = o.G ++ H) ∨
   (∃ (d k : Nat) (ws : List Int) (ws2 : List Int) (o : OSl 3 1 (Zn ws2)), b.burnsF b.warms p 0 = (some (d, k), ws) ∧ d < p.length ∧ k < b.bins.length ∧ v = .tuple #[.int .i64 d, .int .i64 k, o.fs, .bool true] ∧ H' = o.G ++ H))
def Barn.planned (b : Barn) (p : List (List Int)) : Int := bif decide (b.check = 0) then Z08 b.bins.length b.gangs p else b.check
theorem Z1f (b : Barn) (ab : Option Addr) (cb : Nat) (hl : b.bins.length ≤ 9223372036854775807) (hr : b.rise.length = 6) (pl : List PL) (ap : Option Addr) (cp : Nat) (hpl : pl.length ≤ 9223372036854775807) (hpi : ∀ x ∈ pl, x.l.length ≤ 9223372036854775807) (H : Z7) (R : Z5) [hB : MemRows ab 4 (brows b.bins) R] [hP : MemRows ap 1 (Zz pl) R] [hI : MemF (Inn pl) R] :
    FnV Tryz.prog 27 [b.v (b.sl ab cb), .slice ap pl.length cp] H R (.int .i64 (b.planned (lls pl))) := by
 refine Z9 Tryz.func27 rfl Tryz.ntmps27 rfl ?_
 refine sqt 2 rfl (bx rfl rfl rfl (fun b2 => pur 1 rfl (Z0 (sqt 3 rfl (spL rfl rfl (lhA (btl b (b.sl ab cb)) Zt rfl rfl rfl) rfl ?_)))))
 refine clV rfl Zag rfl rfl (Z27 b ab cb hl hr _ _) ?_
 refine pur 1 rfl (sqt 2 rfl (pur 2 rfl ?_))
 refine Z2 rfl ?_ ?_ <;> intro hc0 <;> try simp only [cS] at hc0
 refine sqt 2 rfl (pur 2 rfl (Z1 ?_))
 exact rtA rfl rfl rfl ⟨by unfold Barn.planned; rw [dF hc0]; rfl, rfl, rfl⟩ drp
 have hck : b.check = 0 := by omega
 refine Z4 (sqt 4 rfl (spL rfl rfl (lhA (btl b (b.sl ab cb)) Zt rfl rfl rfl) rfl (pur 1 rfl ?_)))
 refine clV rfl Zd7 rfl rfl (ZaN b ab cb hl pl ap cp hpl hpi _ _) ?_
 refine pur 1 rfl (Z1 ?_)
 exact rtA rfl rfl rfl ⟨by unfold Barn.planned; rw [dT hck]; rfl, rfl, rfl⟩ drp
theorem Z5N (b : Barn) (ab : Option Addr) (cb : Nat) (hok : b.ok) (pl : List PL) (ap : Option Addr) (cp : Nat) (hpl : pl.length ≤ 9223372036854775807) (hpi : ∀ x ∈ pl, x.l.length ≤ 9223372036854775807) (H : Z7) (R : Z5) [hB : MemRows ab 4 (brows b.bins) R] [hP : MemRows ap 1 (Zz pl) R] [hI : MemF (Inn pl) R] :
    Fn Tryz.prog 28 [b.v (b.sl ab cb), .slice ap pl.length cp] H R (ZdL b (lls pl) H R) := by
 have hmn := hok.many
 refine Z9 Tryz.func28 rfl Tryz.ntmps28 rfl ?_
 refine sqt 5 rfl (bx rfl rfl rfl (fun b2 => pur 4 rfl (Za1 (Z0 (sqt 4 rfl (sp rfl (PE.fA Zj rfl) rfl (spL rfl rfl (lh Z0b rfl rfl) rfl (sp rfl (PE.lenSl Z0G rfl) rfl (pur 1 rfl (Z3 ?_))))))))))
 refine Ze (ι := (k : {k : Nat // k ≤ b.bins.length}) × OSl 3 1 (Zn ((b.bins.take k.1).map (·.warm)))) (fun x => ⟨[(1, .slice ap pl.length cp), (2, .pointer (some ⟨b2, 0, none⟩)), (4, .int .i64 0), (5, .int .i64 0), (6, x.2.fs), (7, .bool false), (16, b.sl ab cb), (17, .int .i64 b.bins.length), (18, .int .i64 x.1.1)], x.2.G ++ (b2, cel 37 (btl b (b.sl ab cb))) :: H, R⟩) (fun x => b.bins.length - x.1.1) ⟨⟨0, by omega⟩, OSl.nil _ _⟩ ?_ (fun x => ?_)
 exact Zl idH
 obtain ⟨⟨k, hk⟩, o⟩ := x
 dsimp only at hk o ⊢
 refine sqt 1 rfl (pur 1 rfl (Z0 ?_))
 refine Z2 rfl ?_ ?_ <;> intro hc0 <;> try simp only [cS] at hc0
 obtain ⟨x, hx⟩ : ∃ x, b.bins[k]? = some x := ⟨_, List.getElem?_eq_getElem (by omega)⟩
 refine Zp (a := ab) (sz := 4) (rows := brows b.bins) (by intro h0; simp [brows] at h0; simp [h0] at hx) (fun ba oa he => ?_)
 subst he
 refine Z4 (Z0 (Z3 (sqt 4 rfl (sp rfl (PE.indexAddr Z2i rfl rfl (by omega) (by omega)) rfl (spL rfl rfl (lfA Z9i (row := Z2s x) (br_get hx) rfl) rfl (alc rfl Z79 rfl (fun b9 => ?_)))))))
 refine sto rfl rfl rfl ZcK rfl rfl rfl rfl ?_
 refine sqr 6 rfl (pur 1 rfl (sp rfl (PE.fA Z2U rfl) rfl (spL rfl rfl (lh sc3 rfl rfl) rfl ?_)))
 refine bsl (out := [_]) rfl Z5A zl3 rfl rfl rfl rfl rfl rfl (fun b25 => ?_)
 refine apO (o) rfl Zfw rfl rfl (Z3g (row := [.int .i64 x.warm]) rfl) rfl rfl ((by rw [Zq, List.length_map, List.length_take]; simp only [List.length_singleton]; omega)) rfl (fun o26 => ?_)
 refine pur 1 rfl (sqr 2 rfl (sp rfl (PE.add rfl rfl (by omega)) rfl (pur 1 rfl ?_)))
 exact Zm ⟨⟨k + 1, by omega⟩, o26.cast (by rw [ZY hx, List.map_append]; simp [Zn])⟩ (fun w h => (h.del b25).del b9)
 obtain rfl : k = b.bins.length := by omega
 obtain ⟨p, hpf, hpg⟩ : ∃ o' : OSl 3 1 (Zn b.warms), o'.fs = o.fs ∧ o'.G = o.G := ⟨o.cast (by rw [List.take_length]; rfl), rfl, rfl⟩
 have hwm : b.warms.length = b.bins.length := List.length_map _
 obtain ⟨bw, cap, junk, hfs, hGG, hjk, hcap, hmx⟩ := p.is.resolve_left (fun h => by have := congrArg List.length h.1; rw [Zq] at this; simp only [List.length_nil] at this; omega)
 rw [Zq, hwm] at hfs hjk hcap
 rw [Z0d] at hGG
 rw [← hpf, hfs]
 refine Sy.heap (H' := (bw, cel 3 (Za b.warms ++ junk)) :: (b2, cel 37 (btl b (b.sl ab cb))) :: H) (fun w h => by rw [← hpg, hGG] at h; exact h) ?_
 clear hfs hGG hpf hpg
 refine Zb (Zc (Zc (ZA (Z0 (Zab (Z0 (sqt 3 rfl (pur 1 rfl (sp rfl (PE.lenSl Z76 rfl) rfl (pur 1 rfl (Z3 ?_)))))))))))
 refine Ze (ι := {x : Nat × List Int // x.1 ≤ pl.length ∧ Cool b x.2 ∧ b.burnsF b.warms (lls pl) 0 = b.burnsF x.2 ((lls pl).drop x.1) x.1}) (fun x => ⟨[(1, .slice ap pl.length cp), (2, .pointer (some ⟨b2, 0, none⟩)), (4, .int .i64 0), (5, .int .i64 0), (6, .slice (some ⟨bw, 0, none⟩) b.bins.length cap), (7, .bool false), (28, .slice ap pl.length cp), (29, .int .i64 pl.length), (30, .int .i64 x.1.1)], (bw, cel 3 (Za x.1.2 ++ junk)) :: (b2, cel 37 (btl b (b.sl ab cb))) :: H, R⟩) (fun x => pl.length - x.1.1) ⟨(0, b.warms), Nat.zero_le _, Cool.start hok, rfl⟩ ?_ (fun x => ?_)
 exact Zl idH
 obtain ⟨⟨d, ws⟩, hd, hcw, hbe⟩ := x
 dsimp only at hd hcw hbe ⊢
 have hwl := hcw.len
 refine sqt 1 rfl (pur 1 rfl (Z0 ?_))
 refine Z2 rfl ?_ ?_ <;> intro hc1 <;> try simp only [cS] at hc1
 obtain ⟨x, hx⟩ : ∃ x, pl[d]? = some x := ⟨_, List.getElem?_eq_getElem (by omega)⟩
 have hxm := List.mem_of_getElem? hx
 have hxl := hpi x hxm
 rw [b.burns_drop (Z4i hx)] at hbe
 refine Zp (a := ap) (sz := 1) (rows := Zz pl) (ne0 (by rw [Z2b]; omega)) (fun bp op he => ?_)
 subst he
 refine Sy.heap (fun w h => St.inn (x := x) h hxm) ?_
 have hdl := b.dayW_len ws x.l
 refine Z4 (Z0 (Z3 (sqt 5 rfl (pur 1 rfl (sp rfl (PE.indexAddr ZdZ rfl rfl (by omega) (by omega)) rfl (spL rfl rfl (lf0 ZeP (Z8s hx) rfl) rfl (pur 2 rfl (sqt 4 rfl (sp rfl (PE.fA Zj rfl) rfl (spL rfl rfl (lh Z0b rfl rfl) rfl (sp rfl (PE.lenSl Z0G rfl) rfl (pur 1 rfl (Z3 ?_)))))))))))))
 refine Ze (ι := {k : Nat // k ≤ b.bins.length ∧ ∀ j < k, b.hotAt ws x.l j = false}) (fun k => ⟨[(1, .slice (some ⟨bp, op, none⟩) pl.length cp), (2, .pointer (some ⟨b2, 0, none⟩)), (4, .int .i64 0), (5, .int .i64 0), (6, .slice (some ⟨bw, 0, none⟩) b.bins.length cap), (7, .bool false), (28, .slice (some ⟨bp, op, none⟩) pl.length cp), (29, .int .i64 pl.length), (30, .int .i64 d), (10, .int .i64 d), (11, .slice x.a x.l.length x.c), (36, b.sl ab cb), (37, .int .i64 b.bins.length), (38, .int .i64 k.1)], (bw, cel 3 (Za ((b.dayW ws x.l).take k.1 ++ ws.drop k.1) ++ junk)) :: (b2, cel 37 (btl b (b.sl ab cb))) :: H, RowsA x.a 1 (Zn x.l) :: R⟩) (fun k => b.bins.length - k.1) ⟨0, by omega, by omega⟩ ?_ (fun k => ?_)
 exact Zl idH
 obtain ⟨k, hk, hno⟩ := k
 dsimp only at hk hno ⊢
 have hml : ((b.dayW ws x.l).take k ++ ws.drop k).length = b.bins.length := by rw [Z6y (by omega) (by omega)]; exact hwl
 refine sqt 1 rfl (pur 1 rfl (Z0 ?_))
 refine Z2 rfl ?_ ?_ <;> intro hc2 <;> try simp only [cS] at hc2
 obtain ⟨y, hy⟩ : ∃ y, b.bins[k]? = some y := ⟨_, List.getElem?_eq_getElem (by omega)⟩
 have hym := List.mem_of_getElem? hy
 have hyb := hok.bins y hym
 have hyw := b.worst_range hok hym
 have hyc := hcw.at_ k y hy
 have hcl := hok.cool
 have hmg : ((b.dayW ws x.l).take k ++ ws.drop k)[k]? = some (na ws k) := ZcN (by omega) (Z07 (by omega))
 have hwa := b.wdAt_of (ws := ws) (l := x.l) hy
 refine Zp (a := ab) (sz := 4) (rows := brows b.bins) (by intro h0; simp [brows] at h0; simp [h0] at hy) (fun ba oa he => ?_)
 subst he
 refine Z4 (Z0 (Z3 (sqt 6 rfl (pur 1 rfl (sp rfl (PE.indexAddr Z2i rfl rfl (by omega) (by omega)) rfl (spL rfl rfl (lfA Z9i (row := Z2s y) (br_get hy) rfl) rfl (alc rfl Z79 rfl (fun b13 => pur 1 rfl ?_))))))))
 refine sto rfl rfl rfl ZcK rfl rfl rfl rfl ?_
 refine Z0 ?_
 refine Z8 [0, 0, 0, 6, 14, 0, 0, 96, 0, 0, 992, 2047, 4095] (.ld 0 (tks 1 3 (.ld 4 (.ld 5 (.tk 6 (.tk 8 (.tk 9 (.big 7 (.big 10 (.big 11 (.tk 12 .done))))))))))) Zr (by kernel_rfl) ?_
 refine ld rfl rfl (lhA (btl b (b.sl (some ⟨ba, oa, none⟩) cb)) Zt rfl rfl rfl) rfl (Zg 2 rfl (tk rfl (PE.indexAddr Z5z rfl rfl (by omega) (by omega)) rfl (ld rfl rfl (lh sc3 rfl (Z44 hmg (by show 0 + ((k : Nat) : Int).toNat * 1 = _; omega))) rfl (ld rfl rfl (lhA (btl b (b.sl (some ⟨ba, oa, none⟩) cb)) Zt rfl rfl rfl) rfl (Zg 3 rfl ?_)))))
 refine clV rfl Z9l rfl rfl (Z43 b (some ⟨ba, oa, none⟩) cb k y hy hyb.2.2.2 _ _) ?_
 refine bg (fun w hs => ⟨trivial, (lh sc3 rfl (Z44 hmg (by show 0 + ((k : Nat) : Int).toNat * 1 = _; omega))) w hs, (lhA (btl b (b.sl (some ⟨ba, oa, none⟩) cb)) Zt rfl rfl rfl) w hs, trivial⟩) ?_
 refine clV rfl Zco rfl rfl (Z1B x.l x.a x.c k hxl _ _) ?_
 refine bg (fun w hs => ⟨(lh sc3 rfl (Z44 hmg (by show 0 + ((k : Nat) : Int).toNat * 1 = _; omega))) w hs, (lhA (btl b (b.sl (some ⟨ba, oa, none⟩) cb)) Zt rfl rfl rfl) w hs, trivial⟩) ?_
 refine clV rfl Zbz rfl rfl (Z4h b (some ⟨ba, oa, none⟩) cb (na ws k) (b.worst y) (Z2P x.l k) (by omega) (by omega) (by omega) _ _) ?_
 refine bgT (Zg 1 rfl (Z0 (sqt 4 rfl ?_)))
 rw [show ((bif Z2P x.l k then min (na ws k) b.cool else na ws k) + b.worst y) = b.wdAt ws x.l k from hwa.symm]
 refine pur 1 rfl (sp rfl (PE.fA Z3M rfl) rfl (spL rfl rfl (lh sc3 rfl rfl) rfl (pur 1 rfl ?_)))
 refine Z2 rfl ?_ ?_ <;> intro hc3 <;> try simp only [cS] at hc3
 have hh : b.hotAt ws x.l k = true := by unfold Barn.hotAt; rw [Z01 hy]; exact dT hc3
 rw [Z75 (by omega) hh hno] at hbe
 refine sqt 5 rfl (pur 5 rfl (Zb (Zc (Z81 (by decide) (Zc (Zc (Z81 (by decide) (Z81 (by decide) (Zc (Zc (ZA (sqt 8 rfl (pur 8 rfl (Z1 ?_))))))))))))))
 first
   | exact Z6 (vs := [_, _, _, _]) rfl (.cons (RV.tmp rfl) (.cons (RV.tmp rfl) (.cons (RV.tmp rfl) (.cons (RV.tmp rfl) .nil)))) rfl ⟨rfl, .inl ⟨ws, (⟨.slice (some ⟨bw, 0, none⟩) b.bins.length cap, [(bw, cel 3 (Za ws ++ junk))], by intro r hr; simp only [List.mem_map] at hr; obtain ⟨z, _, rfl⟩ := hr; rfl, .inr ⟨bw, cap, junk, by rw [Zq, hwl], by rw [Z0d], by rw [Zq, hwl]; exact hjk, by rw [Zq, hwl]; exact hcap, hmx⟩⟩ : OSl 3 1 (Zn ws)), e2, hcw, rfl, rfl⟩⟩ (fun w h => h.del b2)
   | exact Z6 (vs := [_, _, _, _]) rfl (.cons (RV.tmp rfl) (.cons (RV.tmp rfl) (.cons (RV.tmp rfl) (.cons (RV.tmp rfl) .nil)))) rfl ⟨rfl, .inr ⟨d, k, ws, ((b.dayW ws x.l).take k ++ ws.drop k), (⟨.slice (some ⟨bw, 0, none⟩) b.bins.length cap, [(bw, cel 3 (Za ((b.dayW ws x.l).take k ++ ws.drop k) ++ junk))], by intro r hr; simp only [List.mem_map] at hr; obtain ⟨z, _, rfl⟩ := hr; rfl, .inr ⟨bw, cap, junk, by rw [Zq, hml], by rw [Z0d], by rw [Zq, hml]; exact hjk, by rw [Zq, hml]; exact hcap, hmx⟩⟩ : OSl 3 1 (Zn ((b.dayW ws x.l).take k ++ ws.drop k))), hbe, by rw [lls_len]; omega, by omega, rfl, rfl⟩⟩ (fun w h => ((h.del b13).del b2).ftail)
 have hh : b.hotAt ws x.l k = false := by unfold Barn.hotAt; rw [Z01 hy]; exact dF (by omega)
 refine Z4 (sqr 5 rfl (pur 3 rfl (sp rfl (PE.indexAddr Z5z rfl rfl (by omega) (by omega)) rfl ?_)))
 refine ZQ (l' := Za ((b.dayW ws x.l).take (k + 1) ++ ws.drop (k + 1)) ++ junk) rfl rfl rfl cn3 rfl rfl rfl ((Z9E (k := k) (by omega) (by show 0 + ((k : Nat) : Int).toNat * 1 = _; omega)).trans (by rw [Z2G (by omega) (b.dayW_at (by omega))])) (by rw [List.length_append, ints_length, hml]; show 0 + ((k : Nat) : Int).toNat * 1 + 1 ≤ _; omega) ?_
 refine sqr 2 rfl (sp rfl (PE.add rfl rfl (by omega)) rfl (pur 1 rfl ?_))
 exact ZW ⟨k + 1, by omega, fun j hj => by
   rcases Nat.lt_or_ge j k with h1 | h1
   · exact hno j h1
   · obtain rfl : j = k := by omega
     exact hh⟩ (by dsimp only; omega) (by repeat' first | exact Sub.nil | apply Sub.cons | rfl | (simp [lk]; omega)) (fun w h => h.del b13)
 obtain rfl : k = b.bins.length := by omega
 rw [show ((b.dayW ws x.l).take b.bins.length ++ ws.drop b.bins.length) = b.dayW ws x.l by rw [List.drop_eq_nil_of_le (by omega), List.append_nil, List.take_of_length_le (by omega)]]
 rw [b.find_no hno] at hbe
 have hcn := hcw.next hok hno
 refine Zb (Zc (Zc (ZA (sqr 2 rfl (sp rfl (PE.add rfl rfl (by omega)) rfl (pur 1 rfl ?_))))))
 exact Zm ⟨(d + 1, b.dayW ws x.l), by dsimp only; omega, hcn, hbe⟩ (fun w h => h.ftail)
 obtain rfl : d = pl.length := by omega
 rw [show (lls pl).drop pl.length = [] by rw [List.drop_eq_nil_iff, lls_len]; exact Nat.le_refl _] at hbe
 have e2 : b.burnsF b.warms (lls pl) 0 = (none, ws) := hbe
 refine Zb (Zc (Zc (ZA (sqt 8 rfl (pur 8 rfl (Z1 ?_))))))
 first
   | exact Z6 (vs := [_, _, _, _]) rfl (.cons (RV.tmp rfl) (.cons (RV.tmp rfl) (.cons (RV.tmp rfl) (.cons (RV.tmp rfl) .nil)))) rfl ⟨rfl, .inl ⟨ws, (⟨.slice (some ⟨bw, 0, none⟩) b.bins.length cap, [(bw, cel 3 (Za ws ++ junk))], by intro r hr; simp only [List.mem_map] at hr; obtain ⟨z, _, rfl⟩ := hr; rfl, .inr ⟨bw, cap, junk, by rw [Zq, hwl], by rw [Z0d], by rw [Zq, hwl]; exact hjk, by rw [Zq, hwl]; exact hcap, hmx⟩⟩ : OSl 3 1 (Zn ws)), e2, hcw, rfl, rfl⟩⟩ (fun w h => h.del b2)
   | exact Z6 (vs := [_, _, _, _]) rfl (.cons (RV.tmp rfl) (.cons (RV.tmp rfl) (.cons (RV.tmp rfl) (.cons (RV.tmp rfl) .nil)))) rfl ⟨rfl, .inr ⟨d, k, ws, ((b.dayW ws x.l).take k ++ ws.drop k), (⟨.slice (some ⟨bw, 0, none⟩) b.bins.length cap, [(bw, cel 3 (Za ((b.dayW ws x.l).take k ++ ws.drop k) ++ junk))], by intro r hr; simp only [List.mem_map] at hr; obtain ⟨z, _, rfl⟩ := hr; rfl, .inr ⟨bw, cap, junk, by rw [Zq, hml], by rw [Z0d], by rw [Zq, hml]; exact hjk, by rw [Zq, hml]; exact hcap, hmx⟩⟩ : OSl 3 1 (Zn ((b.dayW ws x.l).take k ++ ws.drop k))), hbe, by rw [lls_len]; omega, by omega, rfl, rfl⟩⟩ (fun w h => ((h.del b13).del b2).ftail)
def Barn.keepsV (b : Barn) (p : List (List Int)) : Value := bif decide (b.planned p = 0) then .tuple #[.bool (b.burnsF b.warms p 0).1.isNone, .int .i64 0] else .tuple #[.bool false, .int .i64 (b.planned p)]
def Barn.burnsV (b : Barn) (p : List (List Int)) : Value := bif decide (b.planned p = 0) then (match (b.burnsF b.warms p 0).1 with
  | none => .tuple #[.int .i64 0, .int .i64 0, .int .i64 6]
  | some (d, k) => .tuple #[.int .i64 d, .int .i64 k, .int .i64 0]) else .tuple #[.int .i64 0, .int .i64 0, .int .i64 (b.planned p)]
theorem Z0O {b : Barn} (hr : b.rise.length = 6) {p : List (List Int)} (h : b.planned p = 0) : b.check = 0 ∧ b.ok ∧ Z08 b.bins.length b.gangs p = 0 := by
  unfold Barn.planned at h
  by_cases h1 : b.check = 0
  · rw [decide_eq_true h1, cond_true] at h; exact ⟨h1, Barn.ok_of hr h1, h⟩
  · rw [decide_eq_false h1, cond_false] at h; exact absurd h h1
theorem Z8X (b : Barn) (ab : Option Addr) (cb : Nat) (hl : b.bins.length ≤ 9223372036854775807) (hr : b.rise.length = 6) (pl : List PL) (ap : Option Addr) (cp : Nat) (hpl : pl.length ≤ 9223372036854775807) (hpi : ∀ x ∈ pl, x.l.length ≤ 9223372036854775807) (H : Z7) (R : Z5) [hB : MemRows ab 4 (brows b.bins) R] [hP : MemRows ap 1 (Zz pl) R] [hI : MemF (Inn pl) R] :
    FnV Tryz.prog 13 [b.v (b.sl ab cb), .slice ap pl.length cp] H R (b.keepsV (lls pl)) := by
 refine Z9 Tryz.func13 rfl Tryz.ntmps13 rfl ?_
 refine sqt 3 rfl (bx rfl rfl rfl (fun b2 => pur 2 rfl (Z0 (sqt 4 rfl (spL rfl rfl (lhA (btl b (b.sl ab cb)) Zt rfl rfl rfl) rfl (pur 1 rfl ?_))))))
 refine clV rfl Z82 rfl rfl (Z1f b ab cb hl hr pl ap cp hpl hpi _ _) ?_
 refine pur 1 rfl (sqt 2 rfl (pur 2 rfl ?_))
 refine Z2 rfl ?_ ?_ <;> intro hc0 <;> try simp only [cS] at hc0
 refine sqt 3 rfl (pur 3 rfl (Z1 ?_))
 exact rtB rfl rfl rfl rfl ⟨by unfold Barn.keepsV; rw [dF hc0]; rfl, rfl, rfl⟩ drp
 have hpz : b.planned (lls pl) = 0 := by omega
 obtain ⟨hck, hok, hpe⟩ := Z0O hr hpz
 refine Z4 (sqt 12 rfl (spL rfl rfl (lhA (btl b (b.sl ab cb)) Zt rfl rfl rfl) rfl (pur 1 rfl ?_)))
 refine cl rfl Zbn rfl rfl (Z5N b ab cb hok pl ap cp hpl hpi _ _) ?_
 rintro _ _ _ ⟨rfl, (⟨ws, o, hbu, hcw, rfl, rfl⟩ | ⟨d, k, ws, ws2, o, hbu, hd, hk, rfl, rfl⟩)⟩
 refine pur 9 rfl (sqt 4 rfl (pur 4 rfl (Z1 ?_)))
 exact rtB rfl rfl rfl rfl ⟨by unfold Barn.keepsV; rw [dT hpz, hbu]; rfl, rfl, rfl⟩ (fun w h => (St.drop h).del b2)
 refine pur 9 rfl (sqt 4 rfl (pur 4 rfl (Z1 ?_)))
 exact rtB rfl rfl rfl rfl ⟨by unfold Barn.keepsV; rw [dT hpz, hbu]; rfl, rfl, rfl⟩ (fun w h => (St.drop h).del b2)
theorem Zb8 (b : Barn) (ab : Option Addr) (cb : Nat) (hl : b.bins.length ≤ 9223372036854775807) (hr : b.rise.length = 6) (pl : List PL) (ap : Option Addr) (cp : Nat) (hpl : pl.length ≤ 9223372036854775807) (hpi : ∀ x ∈ pl, x.l.length ≤ 9223372036854775807) (H : Z7) (R : Z5) [hB : MemRows ab 4 (brows b.bins) R] [hP : MemRows ap 1 (Zz pl) R] [hI : MemF (Inn pl) R] :
    FnV Tryz.prog 36 [b.v (b.sl ab cb), .slice ap pl.length cp] H R (b.burnsV (lls pl)) := by
 refine Z9 Tryz.func36 rfl Tryz.ntmps36 rfl ?_
 refine sqt 4 rfl (bx rfl rfl rfl (fun b2 => pur 3 rfl (Z0 (sqt 4 rfl (spL rfl rfl (lhA (btl b (b.sl ab cb)) Zt rfl rfl rfl) rfl (pur 1 rfl ?_))))))
 refine clV rfl Z82 rfl rfl (Z1f b ab cb hl hr pl ap cp hpl hpi _ _) ?_
 refine pur 1 rfl (sqt 2 rfl (pur 2 rfl ?_))
 refine Z2 rfl ?_ ?_ <;> intro hc0 <;> try simp only [cS] at hc0
 refine sqt 4 rfl (pur 4 rfl (Z1 ?_))
 exact rtC rfl rfl rfl rfl rfl ⟨by unfold Barn.burnsV; rw [dF hc0]; rfl, rfl, rfl⟩ drp
 have hpz : b.planned (lls pl) = 0 := by omega
 obtain ⟨hck, hok, hpe⟩ := Z0O hr hpz
 refine Z4 (sqt 12 rfl (spL rfl rfl (lhA (btl b (b.sl ab cb)) Zt rfl rfl rfl) rfl (pur 1 rfl ?_)))
 refine cl rfl Zbn rfl rfl (Z5N b ab cb hok pl ap cp hpl hpi _ _) ?_
 rintro _ _ _ ⟨rfl, (⟨ws, o, hbu, hcw, rfl, rfl⟩ | ⟨d, k, ws, ws2, o, hbu, hd, hk, rfl, rfl⟩)⟩
 refine pur 9 rfl (Z0 (sqt 2 rfl (pur 2 rfl ?_)))
 refine Zv rfl ?_
 refine sqt 3 rfl (pur 3 rfl (Z1 ?_))
 exact rtC rfl rfl rfl rfl rfl ⟨by unfold Barn.burnsV; rw [dT hpz, hbu]; rfl, rfl, rfl⟩ (fun w h => (St.drop h).del b2)
 refine pur 9 rfl (Z0 (sqt 2 rfl (pur 2 rfl ?_)))
 refine ZD rfl ?_
 refine Z4 (sqt 5 rfl (pur 5 rfl (Z1 ?_)))
 exact rtC rfl rfl rfl rfl rfl ⟨by unfold Barn.burnsV; rw [dT hpz, hbu]; rfl, rfl, rfl⟩ (fun w h => (St.drop h).del b2)
theorem Z4c : Z1M Tryz.prog 46 = some 2 := by kernel_rfl
theorem ZdS : apT Tryz.prog 35 = some (53, 4, 32) := by kernel_rfl
theorem Zff : cal Tryz.prog 29 = true := by kernel_rfl
theorem Z9I : cal Tryz.prog 32 = true := by kernel_rfl
theorem Zfh : ZT Tryz.prog 35 = some 1 := by kernel_rfl
theorem Z02 : ZT Tryz.prog 37 = some 9 := by kernel_rfl
theorem Z3D : ZT Tryz.prog 46 = some 2 := by kernel_rfl
theorem Z5s : Z0c Tryz.prog 37 = some [(0, 1), (1, 1), (2, 6), (8, 1)] := by kernel_rfl
theorem Z3s : Z0c Tryz.prog 46 = some [(0, 1), (1, 1)] := by kernel_rfl
theorem Ze0 : slE Tryz.prog 35 = some (53, 4) := by kernel_rfl
theorem Z0n : ZE Tryz.prog 37 = some ([.int .i64 0, .int .i64 0, .int .i64 0, .int .i64 0, .int .i64 0, .int .i64 0, .int .i64 0, .int .i64 0, .slice none 0 0]) := by kernel_rfl
theorem Z1t : ZE Tryz.prog 46 = some ([.int .i64 0, .int .i64 0]) := by kernel_rfl
theorem Z0P (l : List HBin) : (brows l).length = l.length := List.length_map _
theorem Z32 (l : List HBin) : ∀ q ∈ brows l, q.length = 4 := fun q hq => by obtain ⟨x, _, rfl⟩ := List.mem_map.1 hq; rfl
theorem br_flat (l : List HBin) : (brows l).flatten.length = l.length * 4 := by rw [Z0t (Z32 l), Z0P]
theorem Zdz (l : List HBin) : (brows l).flatten.all (·.oneCell') = true := by
  rw [List.all_eq_true]
  intro v hv
  obtain ⟨r, hr, hv⟩ := List.mem_flatten.1 hv
  obtain ⟨x, _, rfl⟩ := List.mem_map.1 hr
  simp only [Z2s, List.mem_cons, List.not_mem_nil, or_false] at hv
  rcases hv with rfl | rfl | rfl | rfl <;> rfl
theorem Z5d (n : Nat) : (Z3C n [Value.int .i64 0, .int .i64 0, .int .i64 0, .int .i64 0]).length = n * 4 := by
  rw [← Z3i, Z0t (sz := 4) (fun q hq => by rw [(List.mem_replicate.1 hq).2]; rfl), List.length_replicate]
theorem Zai {l vs : List Value} (h : l.length = vs.length) : spl l 0 vs = vs := by
  unfold spl; rw [List.take_zero, List.nil_append, Nat.zero_add, List.drop_eq_nil_of_le (by omega), List.append_nil]
theorem Z8j {p q s vs : List Value} (h : q.length = vs.length) : spl (p ++ (q ++ s)) p.length vs = p ++ (vs ++ s) := by
  unfold spl
  rw [List.take_left, show p.length + vs.length = (p ++ q).length by simp [h], ← List.append_assoc p q s, List.drop_left, List.append_assoc]
theorem Zal {α : Type} {xs : List α} {i : Nat} (hi : i < xs.length) : ∃ A y B, xs = A ++ y :: B ∧ i = A.length := ⟨xs.take i, xs[i], xs.drop (i + 1), by rw [← List.drop_eq_getElem_cons hi, List.take_append_drop], by rw [List.length_take]; omega⟩
theorem Z19 (A B : List HBin) : brows (A ++ B) = brows A ++ brows B := by simp [brows]
theorem Zbl {l : List HBin} {k i : Nat} {x : HBin} (hx : l[k]? = some x) (v : Int) (e : i = k * 4) : spl (brows l).flatten i [.int .i64 v] = (brows (l.set k { x with warm := v })).flatten := by
  obtain ⟨A, y, B, rfl, rfl⟩ := Zal (List.getElem?_eq_some_iff.1 hx).1
  have : y = x := by simpa using hx
  subst this
  subst e
  rw [List.set_append_right _ _ (Nat.le_refl _), Nat.sub_self, List.set_cons_zero]
  rw [Z19, Z19, List.flatten_append, List.flatten_append, ← br_flat A]
  exact Z8j (p := (brows A).flatten) (q := [.int .i64 y.warm]) (s := [.int .i64 y.mark, .int .i64 y.lo, .int .i64 y.hi] ++ (brows B).flatten) (vs := [.int .i64 v]) rfl
theorem Z2e {l : List HBin} {k i : Nat} {x : HBin} (hx : l[k]? = some x) (u v : Int) (e : i = k * 4 + 2) : spl (brows l).flatten i [.int .i64 u, .int .i64 v] = (brows (l.set k { x with lo := u, hi := v })).flatten := by
  obtain ⟨A, y, B, rfl, rfl⟩ := Zal (List.getElem?_eq_some_iff.1 hx).1
  have : y = x := by simpa using hx
  subst this
  subst e
  rw [List.set_append_right _ _ (Nat.le_refl _), Nat.sub_self, List.set_cons_zero]
  rw [Z19, Z19, List.flatten_append, List.flatten_append, ← br_flat A]
  have := Z8j (p := (brows A).flatten ++ [.int .i64 y.warm, .int .i64 y.mark]) (q := [.int .i64 y.lo, .int .i64 y.hi]) (s := (brows B).flatten) (vs := [.int .i64 u, .int .i64 v]) rfl
  rw [List.length_append] at this
  simpa [brows, Z2s, List.append_assoc] using this
def Barn.withB (b : Barn) (l : List HBin) : Barn := { b with bins := l }
def Zi (l : List HBin) (ws : List Int) : List HBin := List.zipWith (fun (x : HBin) (w : Int) => { x with warm := w }) l ws
def zbarn : Barn := ⟨0, 0, [0, 0, 0, 0, 0, 0], []⟩
def zbv : Value := zbarn.v (.slice none 0 0)
theorem ZX {l : List HBin} {ws : List Int} {k : Nat} {x : HBin} {w : Int} (hx : l[k]? = some x) (hw : ws[k]? = some w) : (Zi l ws)[k]? = some { x with warm := w } := by
  unfold Zi; rw [List.getElem?_zipWith, hx, hw]
theorem Zu {l : List HBin} {ws : List Int} (h : ws.length = l.length) : (Zi l ws).length = l.length := by unfold Zi; rw [List.length_zipWith, h, Nat.min_self]
def Zcx (b : Barn) (p : List (List Int)) (H : Z7) (R : Z5) : Value → Z7 → Z5 → Prop := fun v H' R' => R' = R ∧
  ((b.planned p ≠ 0 ∧ v = .tuple #[zbv, .int .i64 (b.planned p)] ∧ H' = H) ∨
   (b.planned p = 0 ∧ (∃ q ws, b.burnsF b.warms p 0 = (some q, ws)) ∧ v = .tuple #[zbv, .int .i64 8] ∧ H' = H) ∨
   (b.planned p = 0 ∧ ∃ (ws : List Int) (bo : Nat), b.burnsF b.warms p 0 = (none, ws) ∧ Cool b ws ∧ v = .tuple #[(b.withB (Zi b.bins ws)).v ((b.withB (Zi b.bins ws)).sl (some ⟨bo, 0, none⟩) b.bins.length), .int .i64 0] ∧ H' = (bo, cel 53 (brows (Zi b.bins ws)).flatten) :: H))
def sampErr (b : Barn) (n lo hi : Int) : Int := bif decide (b.known n = 0) then
    (bif !(inB lo 0 5) || !(inB hi 0 5) then 3 else bif decide (hi < lo) then 4 else bif decide (min hi (Z3A b n).hi < max lo (Z3A b n).lo) then 7 else 0) else b.known n
def sampB (b : Barn) (n lo hi : Int) : List HBin := b.bins.set n.toNat { Z3A b n with lo := max lo (Z3A b n).lo, hi := min hi (Z3A b n).hi }
def Zfq (b : Barn) (n lo hi : Int) (H : Z7) (R : Z5) : Value → Z7 → Z5 → Prop := fun v H' R' => R' = R ∧
  ((sampErr b n lo hi ≠ 0 ∧ v = .tuple #[zbv, .int .i64 (sampErr b n lo hi)] ∧ H' = H) ∨
   (sampErr b n lo hi = 0 ∧ ∃ bo : Nat, v = .tuple #[(b.withB (sampB b n lo hi)).v ((b.withB (sampB b n lo hi)).sl (some ⟨bo, 0, none⟩) b.bins.length), .int .i64 0] ∧ H' = (bo, cel 53 (brows (sampB b n lo hi)).flatten) :: H))
theorem Z4l (b : Barn) (ab : Option Addr) (cb : Nat) (hmn : b.bins.length ≤ 4) (H : Z7) (R : Z5) [hB : MemRows ab 4 (brows b.bins) R] :
    Fn Tryz.prog 32 [b.v (b.sl ab cb)] H R (fun v H' R' => ∃ bo : Nat, v = b.v (.slice (some ⟨bo, 0, none⟩) b.bins.length b.bins.length) ∧ H' = (bo, cel 53 (brows b.bins).flatten) :: H ∧ R' = R) := by
 refine Z9 Tryz.func32 rfl Tryz.ntmps32 rfl ?_
 refine sqt 2 rfl (bx rfl rfl rfl (fun b1 => alc rfl Z0n rfl (fun b2 => sqt 5 rfl (sp rfl (PE.fA Zj rfl) rfl (spL rfl rfl (lh Z0b rfl rfl) rfl (sp rfl (PE.lenSl Z0G rfl) rfl ?_))))))
 refine mkS rfl ZdS Z79 rfl rfl (Nat.le_refl _) ⟨by omega, by omega⟩ rfl (fun b7 => ?_)
 refine pur 1 rfl (sqt 4 rfl (pur 1 rfl (sp rfl (PE.fA Zj rfl) rfl (spL rfl rfl (lh Z0b rfl rfl) rfl ?_))))
 refine Ze6 (rows := brows b.bins) rfl Ze0 rfl (by rw [Z0P]; rfl) (Z32 _) (by rw [Z0P]; omega) (Zdz _) (by rw [br_flat, Z5d]; omega) rfl ?_
 rw [Zai (by rw [br_flat, Z5d])]
 refine sqt 3 rfl (pur 1 rfl (sp rfl (PE.fA Zj rfl) rfl ?_))
 refine sto rfl rfl rfl Zfh rfl rfl rfl rfl ?_
 refine sqt 2 rfl (spL rfl rfl (lhA (btl b (.slice (some ⟨b7, 0, none⟩) b.bins.length b.bins.length)) Zt rfl rfl rfl) rfl ?_)
 refine sto rfl rfl rfl Z02 rfl rfl rfl rfl ?_
 refine Z1 ?_
 exact Z6 (vs := [_]) rfl (.cons (RV.cell rfl (lhA (btl b (.slice (some ⟨b7, 0, none⟩) b.bins.length b.bins.length)) Zt rfl rfl rfl)) .nil) rfl ⟨b7, rfl, rfl, rfl⟩ (fun w h => (h.del b2).del b1)
theorem Z7T (b : Barn) (ab : Option Addr) (cb : Nat) (hl : b.bins.length ≤ 9223372036854775807) (hr : b.rise.length = 6) (pl : List PL) (ap : Option Addr) (cp : Nat) (hpl : pl.length ≤ 9223372036854775807) (hpi : ∀ x ∈ pl, x.l.length ≤ 9223372036854775807) (H : Z7) (R : Z5) [hB : MemRows ab 4 (brows b.bins) R] [hP : MemRows ap 1 (Zz pl) R] [hI : MemF (Inn pl) R] :
    Fn Tryz.prog 68 [b.v (b.sl ab cb), .slice ap pl.length cp] H R (Zcx b (lls pl) H R) := by
 refine Z9 Tryz.func68 rfl Tryz.ntmps68 rfl ?_
 refine sqt 3 rfl (bx rfl rfl rfl (fun b2 => alc rfl Z0n rfl (fun b4 => pur 1 rfl (Z0 (sqt 4 rfl (spL rfl rfl (lhA (btl b (b.sl ab cb)) Zt rfl rfl rfl) rfl (pur 1 rfl ?_)))))))
 refine clV rfl Z82 rfl rfl (Z1f b ab cb hl hr pl ap cp hpl hpi _ _) ?_
 refine pur 1 rfl (sqt 2 rfl (pur 2 rfl ?_))
 refine Z2 rfl ?_ ?_ <;> intro hc0 <;> try simp only [cS] at hc0
 refine sqt 4 rfl (sp rfl (PE.build (out := btl zbarn (.slice none 0 0)) Z5s Z0n rfl rfl) rfl (pur 1 rfl ?_))
 refine sto rfl rfl rfl Z02 rfl rfl rfl rfl ?_
 refine pur 1 rfl (Z1 ?_)
 exact Z6 (vs := [_, _]) rfl (.cons (RV.cell rfl (lhA [_, _, _, _, _, _, _, _, _] Zt rfl rfl rfl)) (.cons (RV.tmp rfl) .nil)) rfl ⟨rfl, .inl ⟨hc0, rfl, rfl⟩⟩ drp
 have hpz : b.planned (lls pl) = 0 := by omega
 obtain ⟨hck, hok, hpe⟩ := Z0O hr hpz
 have hmn := hok.many
 refine Z4 (sqt 12 rfl (spL rfl rfl (lhA (btl b (b.sl ab cb)) Zt rfl rfl rfl) rfl (pur 1 rfl ?_)))
 refine cl rfl Zbn rfl rfl (Z5N b ab cb hok pl ap cp hpl hpi _ _) ?_
 rintro _ _ R1 ⟨hR1, hQ⟩
 obtain rfl := hR1.symm
 rcases hQ with ⟨ws, o, hbu, hcw, rfl, rfl⟩ | ⟨d, k, ws, ws2, o, hbu, hd, hk, rfl, rfl⟩
 refine pur 9 rfl (Z0 (sqt 1 rfl (pur 1 rfl ?_)))
 refine ZD rfl ?_
 refine Z4 (sqt 4 rfl ?_)
 obtain ⟨aw, cw, he, hf⟩ := o.freeze
 rw [he, Zq, hcw.len]
 refine Sy.heap (fun w h => hf h) ?_
 clear he hf
 have hwl := hcw.len
 refine spL rfl rfl (lhA (btl b (b.sl ab cb)) Zt rfl rfl rfl) rfl ?_
 refine cl rfl Z9I rfl rfl (Z4l b ab cb hmn.2 _ _) ?_
 rintro _ _ _ ⟨bo, rfl, rfl, rfl⟩
 refine alc rfl Z0n rfl (fun b11 => ?_)
 refine sto rfl rfl rfl Z02 rfl rfl rfl rfl ?_
 refine Z0 (sqt 3 rfl ?_)
 refine Sy.heap (H' := (b11, cel 37 (btl b (.slice (some ⟨bo, 0, none⟩) b.bins.length b.bins.length))) :: (bo, cel 53 (brows ((Zi b.bins ws).take 0 ++ b.bins.drop 0)).flatten) :: (b4, cel 37 (btl zbarn (.slice none 0 0))) :: (b2, cel 37 (btl b (b.sl ab cb))) :: H) idH ?_
 refine pur 1 rfl (sp rfl (PE.lenSl Z1u rfl) rfl (pur 1 rfl (Z3 ?_)))
 refine Ze (ι := {k : Nat // k ≤ b.bins.length}) (fun k => ⟨[(2, .pointer (some ⟨b2, 0, none⟩)), (4, .pointer (some ⟨b4, 0, none⟩)), (11, .pointer (some ⟨b11, 0, none⟩)), (33, .slice aw b.bins.length cw), (34, .int .i64 b.bins.length), (35, .int .i64 k.1)], (b11, cel 37 (btl b (.slice (some ⟨bo, 0, none⟩) b.bins.length b.bins.length))) :: (bo, cel 53 (brows ((Zi b.bins ws).take k.1 ++ b.bins.drop k.1)).flatten) :: (b4, cel 37 (btl zbarn (.slice none 0 0))) :: (b2, cel 37 (btl b (b.sl ab cb))) :: H, RowsA aw 1 (Zn ws) :: R⟩) (fun k => b.bins.length - k.1) ⟨0, by omega⟩ ?_ (fun k => ?_)
 exact Zl idH
 obtain ⟨k, hk⟩ := k
 dsimp only at hk ⊢
 refine sqt 1 rfl (pur 1 rfl (Z0 ?_))
 refine Z2 rfl ?_ ?_ <;> intro hc2 <;> try simp only [cS] at hc2
 obtain ⟨x, hx⟩ : ∃ x, b.bins[k]? = some x := ⟨_, List.getElem?_eq_getElem (by omega)⟩
 obtain ⟨v, hv⟩ : ∃ v, ws[k]? = some v := ⟨_, List.getElem?_eq_getElem (by omega)⟩
 have hml : ((Zi b.bins ws).take k ++ b.bins.drop k).length = b.bins.length := by rw [List.length_append, List.length_take, List.length_drop, Zu hwl]; omega
 have hmg : ((Zi b.bins ws).take k ++ b.bins.drop k)[k]? = some x := by
   rw [List.getElem?_append_right (by rw [List.length_take, Zu hwl]; omega), List.length_take, Zu hwl, show k - min k b.bins.length = 0 by omega, List.getElem?_drop]; simpa using hx
 have hms : ((Zi b.bins ws).take k ++ b.bins.drop k).set k { x with warm := v } = ((Zi b.bins ws).take (k + 1) ++ b.bins.drop (k + 1)) := Z2G (by rw [Zu hwl]) (ZX hx hv)
 refine Zp (a := aw) (sz := 1) (rows := Zn ws) (ne0 (by rw [Zq]; omega)) (fun ba oa he => ?_)
 subst he
 refine Z4 (Z0 (Z3 (sqt 5 rfl (pur 1 rfl (sp rfl (PE.indexAddr Z5z rfl rfl (by omega) (by omega)) rfl (spL rfl rfl (lf0 sc3 (Z5i hv) rfl) rfl (pur 2 rfl (sqr 7 rfl (sp rfl (PE.fA Zj rfl) rfl (spL rfl rfl (lh Z0b rfl rfl) rfl (pur 2 rfl (sp rfl (PE.indexAddr Z2i rfl rfl (by omega) (by omega)) rfl (sp rfl (PE.fA Z2U rfl) rfl ?_)))))))))))))
 refine ZQ (l' := (brows ((Zi b.bins ws).take (k + 1) ++ b.bins.drop (k + 1))).flatten) rfl rfl rfl cn3 rfl rfl rfl ((Zbl hmg v (by show 0 + ((k : Nat) : Int).toNat * 4 + 0 = _; omega)).trans (by rw [hms])) (by rw [br_flat, hml]; show 0 + ((k : Nat) : Int).toNat * 4 + 0 + 1 ≤ _; omega) ?_
 refine sqr 2 rfl (sp rfl (PE.add rfl rfl (by omega)) rfl (pur 1 rfl ?_))
 exact Zm ⟨k + 1, by omega⟩ idH
 obtain rfl : k = b.bins.length := by omega
 rw [show ((Zi b.bins ws).take b.bins.length ++ b.bins.drop b.bins.length) = Zi b.bins ws by rw [List.drop_length, List.append_nil, List.take_of_length_le (by rw [Zu hwl]; exact Nat.le_refl _)]]
 refine Zb (Zc (Zc (ZA (sqt 3 rfl (spL rfl rfl (lhA (btl b (.slice (some ⟨bo, 0, none⟩) b.bins.length b.bins.length)) Zt rfl rfl rfl) rfl ?_)))))
 refine sto rfl rfl rfl Z02 rfl rfl rfl rfl ?_
 refine pur 1 rfl (Z1 ?_)
 exact Z6 (vs := [_, _]) rfl (.cons (RV.cell rfl (lhA (btl b (.slice (some ⟨bo, 0, none⟩) b.bins.length b.bins.length)) Zt rfl rfl rfl)) (.cons (RV.tmp rfl) .nil)) rfl ⟨rfl, .inr (.inr ⟨hpz, ws, bo, hbu, hcw, by unfold Barn.sl Barn.withB; dsimp only; rw [Zu hwl]; rfl, rfl⟩)⟩ (fun w h => (((h.del b11).del b4).del b2).ftail)
 refine pur 9 rfl (Z0 (sqt 1 rfl (pur 1 rfl ?_)))
 refine Zv rfl ?_
 refine sqt 3 rfl (sp rfl (PE.build (out := btl zbarn (.slice none 0 0)) Z5s Z0n rfl rfl) rfl ?_)
 refine sto rfl rfl rfl Z02 rfl rfl rfl rfl ?_
 refine pur 1 rfl (Z1 ?_)
 exact Z6 (vs := [_, _]) rfl (.cons (RV.cell rfl (lhA [_, _, _, _, _, _, _, _, _] Zt rfl rfl rfl)) (.cons (RV.tmp rfl) .nil)) rfl ⟨rfl, .inr (.inl ⟨hpz, ⟨_, _, hbu⟩, rfl, rfl⟩)⟩ (fun w h => ((St.drop h).del b4).del b2)
theorem c_Sample (b : Barn) (ab : Option Addr) (cb : Nat) (hl : b.bins.length ≤ 9223372036854775807) (hr : b.rise.length = 6) (n lo hi : Int) (H : Z7) (R : Z5) [hB : MemRows ab 4 (brows b.bins) R] :
    Fn Tryz.prog 14 [b.v (b.sl ab cb), .int .i64 n, spv lo hi] H R (Zfq b n lo hi H R) := by
 refine Z9 Tryz.func14 rfl Tryz.ntmps14 rfl ?_
 refine sqt 4 rfl (bx rfl rfl rfl (fun b3 => bx rfl rfl rfl (fun b5 => alc rfl Z0n rfl (fun b6 => pur 1 rfl (Z0 (sqt 4 rfl (spL rfl rfl (lhA (btl b (b.sl ab cb)) Zt rfl rfl rfl) rfl (pur 1 rfl ?_))))))))
 refine clV rfl Zff rfl rfl (ZbP b ab cb hl hr n _ _) ?_
 refine pur 1 rfl (sqt 2 rfl (pur 2 rfl ?_))
 refine Z2 rfl ?_ ?_ <;> intro hc0 <;> try simp only [cS] at hc0
 have hck : b.known n ≠ 0 := hc0
 have ese : sampErr b n lo hi = b.known n := by unfold sampErr; rw [dF hck]; rfl
 refine sqt 4 rfl (sp rfl (PE.build (out := btl zbarn (.slice none 0 0)) Z5s Z0n rfl rfl) rfl (pur 1 rfl ?_))
 refine sto rfl rfl rfl Z02 rfl rfl rfl rfl ?_
 refine pur 1 rfl (Z1 ?_)
 exact Z6 (vs := [_, _]) rfl (.cons (RV.cell rfl (lhA [_, _, _, _, _, _, _, _, _] Zt rfl rfl rfl)) (.cons (RV.tmp rfl) .nil)) rfl ⟨rfl, .inl ⟨by rw [ese]; exact hck, by rw [ese]; rfl, rfl⟩⟩ drp
 obtain ⟨hck, hin⟩ : b.check = 0 ∧ inB n 0 ((b.bins.length : Int) - 1) = true := by
   by_cases h1 : b.check = 0
   · refine ⟨h1, ?_⟩
     rw [dT h1, cond_true] at hc0
     cases h2 : inB n 0 ((b.bins.length : Int) - 1)
     · rw [h2] at hc0; simp at hc0
     · rfl
   · rw [dF h1, cond_false] at hc0; omega
 simp only [inB, Bool.and_eq_true, decide_eq_true_eq] at hin
 have hok := Barn.ok_of hr hck
 obtain ⟨k, rfl⟩ : ∃ k : Nat, n = k := ⟨n.toNat, by omega⟩
 obtain ⟨x, hx⟩ : ∃ x, b.bins[k]? = some x := ⟨_, List.getElem?_eq_getElem (by omega)⟩
 have hbx := binAt_of hx
 have hkn := Barn.known_ok hck hx
 have hmn := hok.many
 refine Z4 (Z0 ?_)
 refine Z8 [0, 1, 0, 4, 0, 28, 60, 124, 252, 508, 1023, 0, 2048, 0, 8192, 0, 57344, 122880, 253952, 516096, 1046528, 2097151, 0, 8388607] (.tk 0 (.ld 1 (.tk 2 (.ld 3 (tks 4 4 (.ld 8 (.tk 11 (.ld 12 (.tk 13 (.ld 14 (tks 15 4 (.ld 19 (.tk 20 (.any (.alt 9 (.any (.alt 10 (.tk 21 (.big 22 (.big 23 .done))) (.alt 22 (.big 10 (.tk 21 (.big 23 .done))) .stop))) (.alt 22 (.big 9 (.big 10 (.tk 21 (.big 23 .done)))) .stop)))))))))))))))) Zr (by kernel_rfl) ?_
 refine tk rfl (PE.fA ZH rfl) rfl (ld rfl rfl (lh sc3 rfl rfl) rfl (tk rfl (PE.fA Zj rfl) rfl ?_))
 refine Zp (a := ab) (sz := 4) (rows := brows b.bins) (by intro h0; simp [brows] at h0; simp [h0] at hx) (fun ba oa he => ?_)
 subst he
 refine ld rfl rfl (lh Z0b rfl rfl) rfl (Zg 1 rfl (tk rfl (PE.indexAddr Z2i rfl rfl (by omega) (by omega)) rfl (tk rfl (PE.fA ZS rfl) rfl (tk rfl (PE.fA ZH rfl) rfl (ld rfl rfl (lf (j := 2) sc3 (br_get hx) rfl) rfl (tk rfl (PE.fA ZI rfl) rfl (ld rfl rfl (lh sc3 rfl rfl) rfl (tk rfl (PE.fA Zj rfl) rfl (ld rfl rfl (lh Z0b rfl rfl) rfl (Zg 1 rfl (tk rfl (PE.indexAddr Z2i rfl rfl (by omega) (by omega)) rfl (tk rfl (PE.fA ZS rfl) rfl (tk rfl (PE.fA ZI rfl) rfl (ld rfl rfl (lf (j := 3) sc3 (br_get hx) rfl) rfl (tk rfl (PE.min rfl rfl) rfl ?_)))))))))))))))
 refine Zx ?_ ?_
 refine bsl (out := [_]) rfl Z5A zl3 rfl rfl rfl rfl rfl rfl (fun b27 => ?_)
 refine bg (fun w hs => ⟨(lf (j := 3) sc3 (br_get hx) rfl) w hs, (lh Z0b rfl rfl) w hs, (lh sc3 rfl rfl) w hs, trivial, trivial, (lh sc3 rfl rfl) w hs, trivial⟩) ?_
 refine Zx ?_ ?_
 refine Sy.heap (fun w h => St.intRows (l := [x.lo]) (h.pull b27)) ?_
 refine clV rfl Z7D rfl rfl (Z0A lo x.lo (some ⟨b27, 0, none⟩) 1 _ _) ?_
 refine bg (fun w hs => ⟨(lf (j := 3) sc3 (br_get hx) rfl) w hs, (lh Z0b rfl rfl) w hs, (lh sc3 rfl rfl) w hs, trivial, trivial⟩) ?_
 refine tk rfl (PE.build (out := [_, _]) Z3s Z1t rfl rfl) rfl (alc rfl Z1t rfl (fun b9 => ?_))
 refine bg (fun w hs => ⟨(lf (j := 3) sc3 (br_get hx) rfl) w hs, (lh Z0b rfl rfl) w hs, (lh sc3 rfl rfl) w hs, trivial⟩) ?_
 refine sto rfl rfl rfl Z3D rfl rfl rfl rfl ?_
 refine bgT (Z0 (Z3 (sqt 11 rfl (sp rfl (PE.fA ZH rfl) rfl (spL rfl rfl (lh sc3 rfl rfl) rfl ?_)))))
 refine clV rfl Z4O rfl rfl (Z1i _ _ _) ?_
 refine pur 2 rfl ?_
 refine Zy 45 rfl ?_ ?_ <;> intro g45
 have ese : sampErr b k lo hi = 3 := by unfold sampErr; rw [hkn, g45]; rfl
 refine pur 6 rfl ?_
 refine Zv rfl ?_
 refine sqt 3 rfl (sp rfl (PE.build (out := btl zbarn (.slice none 0 0)) Z5s Z0n rfl rfl) rfl ?_)
 refine sto rfl rfl rfl Z02 rfl rfl rfl rfl ?_
 refine pur 1 rfl (Z1 ?_)
 first | exact Z6 (vs := [_, _]) rfl (.cons (RV.cell rfl (lhA (btl b (.slice (some ⟨bo, 0, none⟩) b.bins.length b.bins.length)) Zt rfl rfl rfl)) (.cons (RV.tmp rfl) .nil)) rfl ⟨rfl, .inr ⟨ese, bo, by unfold Barn.sl Barn.withB sampB; dsimp only; rw [List.length_set]; rfl, rfl⟩⟩ (fun w h => (((((h.del b10).del b9).del b6).del b5).del b3).ftail) | exact Z6 (vs := [_, _]) rfl (.cons (RV.cell rfl (lhA [_, _, _, _, _, _, _, _, _] Zt rfl rfl rfl)) (.cons (RV.tmp rfl) .nil)) rfl ⟨rfl, .inl ⟨by rw [ese]; decide, by rw [ese]; rfl, rfl⟩⟩ drp
 refine spG rfl rfl rfl rfl (PE.fA ZI rfl) rfl ?_
 refine Z25 rfl rfl rfl rfl rfl (lh sc3 rfl rfl) rfl ?_
 refine Z5r rfl rfl rfl rfl Z4O rfl rfl (Z1i _ _ _) ?_
 refine pur 3 rfl ?_
 refine Z2 rfl ?_ ?_ <;> intro hc1
 have ese : sampErr b k lo hi = 3 := by unfold sampErr; rw [hkn, g45, hc1]; rfl
 refine sqt 3 rfl (sp rfl (PE.build (out := btl zbarn (.slice none 0 0)) Z5s Z0n rfl rfl) rfl ?_)
 refine sto rfl rfl rfl Z02 rfl rfl rfl rfl ?_
 refine pur 1 rfl (Z1 ?_)
 exact Z6 (vs := [_, _]) rfl (.cons (RV.cell rfl (lhA [_, _, _, _, _, _, _, _, _] Zt rfl rfl rfl)) (.cons (RV.tmp rfl) .nil)) rfl ⟨rfl, .inl ⟨by rw [ese]; decide, by rw [ese]; rfl, rfl⟩⟩ drp
 have h3 : (!(inB lo 0 5) || !(inB hi 0 5)) = false := by rw [g45, hc1]; rfl
 refine sqt 6 rfl (sp rfl (PE.fA ZH rfl) rfl (spL rfl rfl (lh sc3 rfl rfl) rfl (sp rfl (PE.fA ZI rfl) rfl (spL rfl rfl (lh sc3 rfl rfl) rfl (pur 2 rfl ?_)))))
 refine Z2 rfl ?_ ?_ <;> intro hc2 <;> try simp only [cS] at hc2
 have ese : sampErr b k lo hi = 4 := by unfold sampErr; rw [hkn, h3, dT hc2]; rfl
 refine sqt 3 rfl (sp rfl (PE.build (out := btl zbarn (.slice none 0 0)) Z5s Z0n rfl rfl) rfl ?_)
 refine sto rfl rfl rfl Z02 rfl rfl rfl rfl ?_
 refine pur 1 rfl (Z1 ?_)
 exact Z6 (vs := [_, _]) rfl (.cons (RV.cell rfl (lhA [_, _, _, _, _, _, _, _, _] Zt rfl rfl rfl)) (.cons (RV.tmp rfl) .nil)) rfl ⟨rfl, .inl ⟨by rw [ese]; decide, by rw [ese]; rfl, rfl⟩⟩ drp
 have h4 : decide (hi < lo) = false := dF (by omega)
 refine sqt 6 rfl (sp rfl (PE.fA ZH rfl) rfl (spL rfl rfl (lh sc3 rfl rfl) rfl (sp rfl (PE.fA ZI rfl) rfl (spL rfl rfl (lh sc3 rfl rfl) rfl (pur 2 rfl ?_)))))
 refine Z2 rfl ?_ ?_ <;> intro hc3 <;> try simp only [cS] at hc3
 have ese : sampErr b k lo hi = 7 := by unfold sampErr; rw [hkn, h3, h4, hbx, dT hc3]; rfl
 refine sqt 3 rfl (sp rfl (PE.build (out := btl zbarn (.slice none 0 0)) Z5s Z0n rfl rfl) rfl ?_)
 refine sto rfl rfl rfl Z02 rfl rfl rfl rfl ?_
 refine pur 1 rfl (Z1 ?_)
 exact Z6 (vs := [_, _]) rfl (.cons (RV.cell rfl (lhA [_, _, _, _, _, _, _, _, _] Zt rfl rfl rfl)) (.cons (RV.tmp rfl) .nil)) rfl ⟨rfl, .inl ⟨by rw [ese]; decide, by rw [ese]; rfl, rfl⟩⟩ drp
 have ese : sampErr b k lo hi = 0 := by unfold sampErr; rw [hkn, h3, h4, hbx, dF (show ¬ (min hi x.hi < max lo x.lo) from Int.not_lt.2 hc3)]; rfl
 refine Z4 (sqt 4 rfl (spL rfl rfl (lhA (btl b (b.sl (some ⟨ba, oa, none⟩) cb)) Zt rfl rfl rfl) rfl ?_))
 refine cl rfl Z9I rfl rfl (Z4l b (some ⟨ba, oa, none⟩) cb hmn.2 _ _) ?_
 rintro _ _ _ ⟨bo, rfl, rfl, rfl⟩
 refine alc rfl Z0n rfl (fun b10 => ?_)
 refine sto rfl rfl rfl Z02 rfl rfl rfl rfl ?_
 refine sqt 7 rfl (sp rfl (PE.fA Zj rfl) rfl (spL rfl rfl (lh Z0b rfl rfl) rfl (pur 1 rfl (spL rfl rfl (lhA [_, _] Z4c rfl rfl rfl) rfl (sp rfl (PE.indexAddr Z2i rfl rfl (by omega) (by omega)) rfl (sp rfl (PE.fA ZS rfl) rfl ?_))))))
 refine ZQ (l' := (brows (sampB b k lo hi)).flatten) rfl rfl rfl Z3D rfl rfl rfl ((Z2e hx (max lo x.lo) (min hi x.hi) (by show 0 + ((k : Nat) : Int).toNat * 4 + 2 = _; omega)).trans (by unfold sampB; rw [hbx]; rfl)) (by rw [br_flat]; show 0 + ((k : Nat) : Int).toNat * 4 + 2 + 2 ≤ _; omega) ?_
 refine sqt 3 rfl (spL rfl rfl (lhA (btl b (.slice (some ⟨bo, 0, none⟩) b.bins.length b.bins.length)) Zt rfl rfl rfl) rfl ?_)
 refine sto rfl rfl rfl Z02 rfl rfl rfl rfl ?_
 refine pur 1 rfl (Z1 ?_)
 first | exact Z6 (vs := [_, _]) rfl (.cons (RV.cell rfl (lhA (btl b (.slice (some ⟨bo, 0, none⟩) b.bins.length b.bins.length)) Zt rfl rfl rfl)) (.cons (RV.tmp rfl) .nil)) rfl ⟨rfl, .inr ⟨ese, bo, by unfold Barn.sl Barn.withB sampB; dsimp only; rw [List.length_set]; rfl, rfl⟩⟩ (fun w h => (((((h.del b10).del b9).del b6).del b5).del b3).ftail) | exact Z6 (vs := [_, _]) rfl (.cons (RV.cell rfl (lhA [_, _, _, _, _, _, _, _, _] Zt rfl rfl rfl)) (.cons (RV.tmp rfl) .nil)) rfl ⟨rfl, .inl ⟨by rw [ese]; decide, by rw [ese]; rfl, rfl⟩⟩ drp
 refine Zx ?_ ?_
 refine alc rfl Z1t rfl (fun b9 => ?_)
 refine bg (fun w hs => ⟨(lf (j := 3) sc3 (br_get hx) rfl) w hs, (lh Z0b rfl rfl) w hs, (lh sc3 rfl rfl) w hs, (lh sc3 rfl rfl) w hs, trivial⟩) ?_
 refine Sy.heap (fun w h => St.intRows (l := [x.lo]) (h.pull b27)) ?_
 refine clV rfl Z7D rfl rfl (Z0A lo x.lo (some ⟨b27, 0, none⟩) 1 _ _) ?_
 refine bg (fun w hs => ⟨(lf (j := 3) sc3 (br_get hx) rfl) w hs, (lh Z0b rfl rfl) w hs, (lh sc3 rfl rfl) w hs, trivial, trivial⟩) ?_
 refine tk rfl (PE.build (out := [_, _]) Z3s Z1t rfl rfl) rfl ?_
 refine sto rfl rfl rfl Z3D rfl rfl rfl rfl ?_
 refine bgT (Z0 (Z3 (sqt 11 rfl (sp rfl (PE.fA ZH rfl) rfl (spL rfl rfl (lh sc3 rfl rfl) rfl ?_)))))
 refine clV rfl Z4O rfl rfl (Z1i _ _ _) ?_
 refine pur 2 rfl ?_
 refine Zy 45 rfl ?_ ?_ <;> intro g45
 have ese : sampErr b k lo hi = 3 := by unfold sampErr; rw [hkn, g45]; rfl
 refine pur 6 rfl ?_
 refine Zv rfl ?_
 refine sqt 3 rfl (sp rfl (PE.build (out := btl zbarn (.slice none 0 0)) Z5s Z0n rfl rfl) rfl ?_)
 refine sto rfl rfl rfl Z02 rfl rfl rfl rfl ?_
 refine pur 1 rfl (Z1 ?_)
 first | exact Z6 (vs := [_, _]) rfl (.cons (RV.cell rfl (lhA (btl b (.slice (some ⟨bo, 0, none⟩) b.bins.length b.bins.length)) Zt rfl rfl rfl)) (.cons (RV.tmp rfl) .nil)) rfl ⟨rfl, .inr ⟨ese, bo, by unfold Barn.sl Barn.withB sampB; dsimp only; rw [List.length_set]; rfl, rfl⟩⟩ (fun w h => (((((h.del b10).del b9).del b6).del b5).del b3).ftail) | exact Z6 (vs := [_, _]) rfl (.cons (RV.cell rfl (lhA [_, _, _, _, _, _, _, _, _] Zt rfl rfl rfl)) (.cons (RV.tmp rfl) .nil)) rfl ⟨rfl, .inl ⟨by rw [ese]; decide, by rw [ese]; rfl, rfl⟩⟩ drp
 refine spG rfl rfl rfl rfl (PE.fA ZI rfl) rfl ?_
 refine Z25 rfl rfl rfl rfl rfl (lh sc3 rfl rfl) rfl ?_
 refine Z5r rfl rfl rfl rfl Z4O rfl rfl (Z1i _ _ _) ?_
 refine pur 3 rfl ?_
 refine Z2 rfl ?_ ?_ <;> intro hc1
 have ese : sampErr b k lo hi = 3 := by unfold sampErr; rw [hkn, g45, hc1]; rfl
 refine sqt 3 rfl (sp rfl (PE.build (out := btl zbarn (.slice none 0 0)) Z5s Z0n rfl rfl) rfl ?_)
 refine sto rfl rfl rfl Z02 rfl rfl rfl rfl ?_
 refine pur 1 rfl (Z1 ?_)
 exact Z6 (vs := [_, _]) rfl (.cons (RV.cell rfl (lhA [_, _, _, _, _, _, _, _, _] Zt rfl rfl rfl)) (.cons (RV.tmp rfl) .nil)) rfl ⟨rfl, .inl ⟨by rw [ese]; decide, by rw [ese]; rfl, rfl⟩⟩ drp
 have h3 : (!(inB lo 0 5) || !(inB hi 0 5)) = false := by rw [g45, hc1]; rfl
 refine sqt 6 rfl (sp rfl (PE.fA ZH rfl) rfl (spL rfl rfl (lh sc3 rfl rfl) rfl (sp rfl (PE.fA ZI rfl) rfl (spL rfl rfl (lh sc3 rfl rfl) rfl (pur 2 rfl ?_)))))
 refine Z2 rfl ?_ ?_ <;> intro hc2 <;> try simp only [cS] at hc2
 have ese : sampErr b k lo hi = 4 := by unfold sampErr; rw [hkn, h3, dT hc2]; rfl
 refine sqt 3 rfl (sp rfl (PE.build (out := btl zbarn (.slice none 0 0)) Z5s Z0n rfl rfl) rfl ?_)
 refine sto rfl rfl rfl Z02 rfl rfl rfl rfl ?_
 refine pur 1 rfl (Z1 ?_)
 exact Z6 (vs := [_, _]) rfl (.cons (RV.cell rfl (lhA [_, _, _, _, _, _, _, _, _] Zt rfl rfl rfl)) (.cons (RV.tmp rfl) .nil)) rfl ⟨rfl, .inl ⟨by rw [ese]; decide, by rw [ese]; rfl, rfl⟩⟩ drp
 have h4 : decide (hi < lo) = false := dF (by omega)
 refine sqt 6 rfl (sp rfl (PE.fA ZH rfl) rfl (spL rfl rfl (lh sc3 rfl rfl) rfl (sp rfl (PE.fA ZI rfl) rfl (spL rfl rfl (lh sc3 rfl rfl) rfl (pur 2 rfl ?_)))))
 refine Z2 rfl ?_ ?_ <;> intro hc3 <;> try simp only [cS] at hc3
 have ese : sampErr b k lo hi = 7 := by unfold sampErr; rw [hkn, h3, h4, hbx, dT hc3]; rfl
 refine sqt 3 rfl (sp rfl (PE.build (out := btl zbarn (.slice none 0 0)) Z5s Z0n rfl rfl) rfl ?_)
 refine sto rfl rfl rfl Z02 rfl rfl rfl rfl ?_
 refine pur 1 rfl (Z1 ?_)
 exact Z6 (vs := [_, _]) rfl (.cons (RV.cell rfl (lhA [_, _, _, _, _, _, _, _, _] Zt rfl rfl rfl)) (.cons (RV.tmp rfl) .nil)) rfl ⟨rfl, .inl ⟨by rw [ese]; decide, by rw [ese]; rfl, rfl⟩⟩ drp
 have ese : sampErr b k lo hi = 0 := by unfold sampErr; rw [hkn, h3, h4, hbx, dF (show ¬ (min hi x.hi < max lo x.lo) from Int.not_lt.2 hc3)]; rfl
 refine Z4 (sqt 4 rfl (spL rfl rfl (lhA (btl b (b.sl (some ⟨ba, oa, none⟩) cb)) Zt rfl rfl rfl) rfl ?_))
 refine cl rfl Z9I rfl rfl (Z4l b (some ⟨ba, oa, none⟩) cb hmn.2 _ _) ?_
 rintro _ _ _ ⟨bo, rfl, rfl, rfl⟩
 refine alc rfl Z0n rfl (fun b10 => ?_)
 refine sto rfl rfl rfl Z02 rfl rfl rfl rfl ?_
 refine sqt 7 rfl (sp rfl (PE.fA Zj rfl) rfl (spL rfl rfl (lh Z0b rfl rfl) rfl (pur 1 rfl (spL rfl rfl (lhA [_, _] Z4c rfl rfl rfl) rfl (sp rfl (PE.indexAddr Z2i rfl rfl (by omega) (by omega)) rfl (sp rfl (PE.fA ZS rfl) rfl ?_))))))
 refine ZQ (l' := (brows (sampB b k lo hi)).flatten) rfl rfl rfl Z3D rfl rfl rfl ((Z2e hx (max lo x.lo) (min hi x.hi) (by show 0 + ((k : Nat) : Int).toNat * 4 + 2 = _; omega)).trans (by unfold sampB; rw [hbx]; rfl)) (by rw [br_flat]; show 0 + ((k : Nat) : Int).toNat * 4 + 2 + 2 ≤ _; omega) ?_
 refine sqt 3 rfl (spL rfl rfl (lhA (btl b (.slice (some ⟨bo, 0, none⟩) b.bins.length b.bins.length)) Zt rfl rfl rfl) rfl ?_)
 refine sto rfl rfl rfl Z02 rfl rfl rfl rfl ?_
 refine pur 1 rfl (Z1 ?_)
 first | exact Z6 (vs := [_, _]) rfl (.cons (RV.cell rfl (lhA (btl b (.slice (some ⟨bo, 0, none⟩) b.bins.length b.bins.length)) Zt rfl rfl rfl)) (.cons (RV.tmp rfl) .nil)) rfl ⟨rfl, .inr ⟨ese, bo, by unfold Barn.sl Barn.withB sampB; dsimp only; rw [List.length_set]; rfl, rfl⟩⟩ (fun w h => (((((h.del b10).del b9).del b6).del b5).del b3).ftail) | exact Z6 (vs := [_, _]) rfl (.cons (RV.cell rfl (lhA [_, _, _, _, _, _, _, _, _] Zt rfl rfl rfl)) (.cons (RV.tmp rfl) .nil)) rfl ⟨rfl, .inl ⟨by rw [ese]; decide, by rw [ese]; rfl, rfl⟩⟩ drp
 exact ZP
 refine Zx ?_ ?_
 refine alc rfl Z1t rfl (fun b9 => ?_)
 refine bg (fun w hs => ⟨(lf (j := 3) sc3 (br_get hx) rfl) w hs, (lh Z0b rfl rfl) w hs, (lh sc3 rfl rfl) w hs, (lf (j := 2) sc3 (br_get hx) rfl) w hs, (lh Z0b rfl rfl) w hs, (lh sc3 rfl rfl) w hs, trivial⟩) ?_
 refine bsl (out := [_]) rfl Z5A zl3 rfl rfl rfl rfl rfl rfl (fun b27 => ?_)
 refine bg (fun w hs => ⟨(lf (j := 3) sc3 (br_get hx) rfl) w hs, (lh Z0b rfl rfl) w hs, (lh sc3 rfl rfl) w hs, trivial, trivial, (lh sc3 rfl rfl) w hs, trivial⟩) ?_
 refine Sy.heap (fun w h => St.intRows (l := [x.lo]) (h.pull b27)) ?_
 refine clV rfl Z7D rfl rfl (Z0A lo x.lo (some ⟨b27, 0, none⟩) 1 _ _) ?_
 refine bg (fun w hs => ⟨(lf (j := 3) sc3 (br_get hx) rfl) w hs, (lh Z0b rfl rfl) w hs, (lh sc3 rfl rfl) w hs, trivial, trivial⟩) ?_
 refine tk rfl (PE.build (out := [_, _]) Z3s Z1t rfl rfl) rfl ?_
 refine sto rfl rfl rfl Z3D rfl rfl rfl rfl ?_
 refine bgT (Z0 (Z3 (sqt 11 rfl (sp rfl (PE.fA ZH rfl) rfl (spL rfl rfl (lh sc3 rfl rfl) rfl ?_)))))
 refine clV rfl Z4O rfl rfl (Z1i _ _ _) ?_
 refine pur 2 rfl ?_
 refine Zy 45 rfl ?_ ?_ <;> intro g45
 have ese : sampErr b k lo hi = 3 := by unfold sampErr; rw [hkn, g45]; rfl
 refine pur 6 rfl ?_
 refine Zv rfl ?_
 refine sqt 3 rfl (sp rfl (PE.build (out := btl zbarn (.slice none 0 0)) Z5s Z0n rfl rfl) rfl ?_)
 refine sto rfl rfl rfl Z02 rfl rfl rfl rfl ?_
 refine pur 1 rfl (Z1 ?_)
 first | exact Z6 (vs := [_, _]) rfl (.cons (RV.cell rfl (lhA (btl b (.slice (some ⟨bo, 0, none⟩) b.bins.length b.bins.length)) Zt rfl rfl rfl)) (.cons (RV.tmp rfl) .nil)) rfl ⟨rfl, .inr ⟨ese, bo, by unfold Barn.sl Barn.withB sampB; dsimp only; rw [List.length_set]; rfl, rfl⟩⟩ (fun w h => (((((h.del b10).del b9).del b6).del b5).del b3).ftail) | exact Z6 (vs := [_, _]) rfl (.cons (RV.cell rfl (lhA [_, _, _, _, _, _, _, _, _] Zt rfl rfl rfl)) (.cons (RV.tmp rfl) .nil)) rfl ⟨rfl, .inl ⟨by rw [ese]; decide, by rw [ese]; rfl, rfl⟩⟩ drp
 refine spG rfl rfl rfl rfl (PE.fA ZI rfl) rfl ?_
 refine Z25 rfl rfl rfl rfl rfl (lh sc3 rfl rfl) rfl ?_
 refine Z5r rfl rfl rfl rfl Z4O rfl rfl (Z1i _ _ _) ?_
 refine pur 3 rfl ?_
 refine Z2 rfl ?_ ?_ <;> intro hc1
 have ese : sampErr b k lo hi = 3 := by unfold sampErr; rw [hkn, g45, hc1]; rfl
 refine sqt 3 rfl (sp rfl (PE.build (out := btl zbarn (.slice none 0 0)) Z5s Z0n rfl rfl) rfl ?_)
 refine sto rfl rfl rfl Z02 rfl rfl rfl rfl ?_
 refine pur 1 rfl (Z1 ?_)
 exact Z6 (vs := [_, _]) rfl (.cons (RV.cell rfl (lhA [_, _, _, _, _, _, _, _, _] Zt rfl rfl rfl)) (.cons (RV.tmp rfl) .nil)) rfl ⟨rfl, .inl ⟨by rw [ese]; decide, by rw [ese]; rfl, rfl⟩⟩ drp
 have h3 : (!(inB lo 0 5) || !(inB hi 0 5)) = false := by rw [g45, hc1]; rfl
 refine sqt 6 rfl (sp rfl (PE.fA ZH rfl) rfl (spL rfl rfl (lh sc3 rfl rfl) rfl (sp rfl (PE.fA ZI rfl) rfl (spL rfl rfl (lh sc3 rfl rfl) rfl (pur 2 rfl ?_)))))
 refine Z2 rfl ?_ ?_ <;> intro hc2 <;> try simp only [cS] at hc2
 have ese : sampErr b k lo hi = 4 := by unfold sampErr; rw [hkn, h3, dT hc2]; rfl
 refine sqt 3 rfl (sp rfl (PE.build (out := btl zbarn (.slice none 0 0)) Z5s Z0n rfl rfl) rfl ?_)
 refine sto rfl rfl rfl Z02 rfl rfl rfl rfl ?_
 refine pur 1 rfl (Z1 ?_)
 exact Z6 (vs := [_, _]) rfl (.cons (RV.cell rfl (lhA [_, _, _, _, _, _, _, _, _] Zt rfl rfl rfl)) (.cons (RV.tmp rfl) .nil)) rfl ⟨rfl, .inl ⟨by rw [ese]; decide, by rw [ese]; rfl, rfl⟩⟩ drp
 have h4 : decide (hi < lo) = false := dF (by omega)
 refine sqt 6 rfl (sp rfl (PE.fA ZH rfl) rfl (spL rfl rfl (lh sc3 rfl rfl) rfl (sp rfl (PE.fA ZI rfl) rfl (spL rfl rfl (lh sc3 rfl rfl) rfl (pur 2 rfl ?_)))))
 refine Z2 rfl ?_ ?_ <;> intro hc3 <;> try simp only [cS] at hc3
 have ese : sampErr b k lo hi = 7 := by unfold sampErr; rw [hkn, h3, h4, hbx, dT hc3]; rfl
 refine sqt 3 rfl (sp rfl (PE.build (out := btl zbarn (.slice none 0 0)) Z5s Z0n rfl rfl) rfl ?_)
 refine sto rfl rfl rfl Z02 rfl rfl rfl rfl ?_
 refine pur 1 rfl (Z1 ?_)
 exact Z6 (vs := [_, _]) rfl (.cons (RV.cell rfl (lhA [_, _, _, _, _, _, _, _, _] Zt rfl rfl rfl)) (.cons (RV.tmp rfl) .nil)) rfl ⟨rfl, .inl ⟨by rw [ese]; decide, by rw [ese]; rfl, rfl⟩⟩ drp
 have ese : sampErr b k lo hi = 0 := by unfold sampErr; rw [hkn, h3, h4, hbx, dF (show ¬ (min hi x.hi < max lo x.lo) from Int.not_lt.2 hc3)]; rfl
 refine Z4 (sqt 4 rfl (spL rfl rfl (lhA (btl b (b.sl (some ⟨ba, oa, none⟩) cb)) Zt rfl rfl rfl) rfl ?_))
 refine cl rfl Z9I rfl rfl (Z4l b (some ⟨ba, oa, none⟩) cb hmn.2 _ _) ?_
 rintro _ _ _ ⟨bo, rfl, rfl, rfl⟩
 refine alc rfl Z0n rfl (fun b10 => ?_)
 refine sto rfl rfl rfl Z02 rfl rfl rfl rfl ?_
 refine sqt 7 rfl (sp rfl (PE.fA Zj rfl) rfl (spL rfl rfl (lh Z0b rfl rfl) rfl (pur 1 rfl (spL rfl rfl (lhA [_, _] Z4c rfl rfl rfl) rfl (sp rfl (PE.indexAddr Z2i rfl rfl (by omega) (by omega)) rfl (sp rfl (PE.fA ZS rfl) rfl ?_))))))
 refine ZQ (l' := (brows (sampB b k lo hi)).flatten) rfl rfl rfl Z3D rfl rfl rfl ((Z2e hx (max lo x.lo) (min hi x.hi) (by show 0 + ((k : Nat) : Int).toNat * 4 + 2 = _; omega)).trans (by unfold sampB; rw [hbx]; rfl)) (by rw [br_flat]; show 0 + ((k : Nat) : Int).toNat * 4 + 2 + 2 ≤ _; omega) ?_
 refine sqt 3 rfl (spL rfl rfl (lhA (btl b (.slice (some ⟨bo, 0, none⟩) b.bins.length b.bins.length)) Zt rfl rfl rfl) rfl ?_)
 refine sto rfl rfl rfl Z02 rfl rfl rfl rfl ?_
 refine pur 1 rfl (Z1 ?_)
 first | exact Z6 (vs := [_, _]) rfl (.cons (RV.cell rfl (lhA (btl b (.slice (some ⟨bo, 0, none⟩) b.bins.length b.bins.length)) Zt rfl rfl rfl)) (.cons (RV.tmp rfl) .nil)) rfl ⟨rfl, .inr ⟨ese, bo, by unfold Barn.sl Barn.withB sampB; dsimp only; rw [List.length_set]; rfl, rfl⟩⟩ (fun w h => (((((h.del b10).del b9).del b6).del b5).del b3).ftail) | exact Z6 (vs := [_, _]) rfl (.cons (RV.cell rfl (lhA [_, _, _, _, _, _, _, _, _] Zt rfl rfl rfl)) (.cons (RV.tmp rfl) .nil)) rfl ⟨rfl, .inl ⟨by rw [ese]; decide, by rw [ese]; rfl, rfl⟩⟩ drp
 exact ZP
theorem ZfT : apT Tryz.prog 98 = some (46, 2, 16) := by kernel_rfl
theorem Zf4 : eqB Tryz.prog 10000 53 = some (true, 4) := by kernel_rfl
theorem ZeT : Tryz.prog.eqGuardType Tryz.prog.depth 53 = false := by kernel_rfl
theorem ZfN : slE Tryz.prog 98 = some (46, 2) := by kernel_rfl
def wst (c r k : Int) : Int → List (List Int) → Int
  | w, [] => w
  | w, l :: p => wst c r k ((bif Z2P l k then min w c else w) + r) p
theorem Z8k (c r k : Int) : ∀ (p q : List (List Int)) (w : Int), wst c r k w (p ++ q) = wst c r k (wst c r k w p) q
  | [], _, _ => rfl
  | l :: p, q, w => Z8k c r k p q _
theorem Z6M (c r k w : Int) (p : List (List Int)) (l : List Int) : wst c r k w (p ++ [l]) = (bif Z2P l k then min (wst c r k w p) c else wst c r k w p) + r := by rw [Z8k]; rfl
def Z6p (c r s k w : Int) (p : List (List Int)) (n : Nat) : List (Int × Int) := (List.range n).map fun d => (wst c r k w (p.take (d + 1)), wst c s k w (p.take (d + 1)))
def Z7F (x : Int × Int) : List Value := [.int .i64 x.1, .int .i64 x.2]
def Z0a (l : List (Int × Int)) : List (List Value) := l.map Z7F
theorem Z7s (l : List (Int × Int)) : (Z0a l).length = l.length := List.length_map _
def Z0q (b : Barn) (p : List (List Int)) (n : Int) : Int := bif decide (b.planned p = 0) then (bif decide (20 < p.length) then 2 else bif !(inB n 0 ((b.bins.length : Int) - 1)) then 1 else 0) else b.planned p
def ZbX (b : Barn) (p : List (List Int)) (n : Int) : List (Int × Int) := Z6p b.cool (b.least (Z3A b n)) (b.worst (Z3A b n)) n (Z3A b n).warm p p.length
theorem Z8I {c r k : Int} (hc : 0 ≤ c ∧ c ≤ 60) (hr : 0 ≤ r ∧ r ≤ 20) : ∀ (p : List (List Int)) (w : Int), 0 ≤ w → 0 ≤ wst c r k w p ∧ wst c r k w p ≤ w + 20 * p.length
  | [], w, h => ⟨h, by simp [wst]⟩
  | l :: p, w, h => by
    have h0 : 0 ≤ (bif Z2P l k then min w c else w) + r ∧ (bif Z2P l k then min w c else w) + r ≤ w + 20 := by
      cases Z2P l k <;> simp only [cond_true, cond_false] <;> omega
    have := Z8I (k := k) hc hr p _ h0.1
    unfold wst
    rw [List.length_cons]
    push_cast
    omega
theorem Z4Z {c r k : Int} (hr : 0 ≤ r) : ∀ (p : List (List Int)), ∃ A, 0 ≤ A ∧ ((∀ w, wst c r k w p = w + A) ∨ ∃ C, ∀ w, wst c r k w p = min (w + A) C)
  | [] => ⟨0, Int.le_refl _, .inl fun w => by simp [wst]⟩
  | l :: p => by
    obtain ⟨A, hA, h⟩ := Z4Z hr p
    refine ⟨r + A, by omega, ?_⟩
    cases hl : Z2P l k with
    | false =>
      rcases h with h | ⟨C, h⟩
      · exact .inl fun w => by unfold wst; rw [hl, cond_false, h]; omega
      · exact .inr ⟨C, fun w => by unfold wst; rw [hl, cond_false, h]; omega⟩
    | true =>
      rcases h with h | ⟨C, h⟩
      · exact .inr ⟨c + (r + A), fun w => by unfold wst; rw [hl, cond_true, h]; omega⟩
      · exact .inr ⟨min (c + (r + A)) C, fun w => by unfold wst; rw [hl, cond_true, h]; omega⟩
theorem Z9q {c r k : Int} (hr : 0 ≤ r) (p : List (List Int)) (w : Int) : wst c r k w p ≤ wst c r k (wst c r k w p) p := by
  obtain ⟨A, hA, h | ⟨C, h⟩⟩ := Z4Z (c := c) (k := k) hr p
  · rw [h, h]; omega
  · rw [h, h]; omega
theorem Barn.burns_at {b : Barn} : ∀ (p : List (List Int)) (ws ws' : List Int) (d : Nat), b.burnsF ws p d = (none, ws') → ∀ k < b.bins.length, ws.length = b.bins.length → na ws' k = wst b.cool (b.worst (b.bins.getD k hb0)) k (na ws k) p
  | [], ws, ws', d, h, k, hk, hl => by cases h; rfl
  | l :: p, ws, ws', d, h, k, hk, hl => by
    unfold Barn.burnsF at h
    split at h
    · cases h
    · rw [burns_at p _ ws' _ h k hk (b.dayW_len _ _), Z13 (b.dayW_at hk)]; rfl
theorem Barn.burns_cons {b : Barn} (l : List Int) (p : List (List Int)) (ws : List Int) (d : Nat) : b.burnsF ws (l :: p) d = match (List.range b.bins.length).find? (b.hotAt ws l) with
    | some k => (some (d, k), ws)
    | none => b.burnsF (b.dayW ws l) p (d + 1) := rfl
theorem Barn.burns_app {b : Barn} : ∀ (p q : List (List Int)) (ws : List Int) (d : Nat), b.burnsF ws (p ++ q) d = match b.burnsF ws p d with
    | (some x, w) => (some x, w)
    | (none, w) => b.burnsF w q (d + p.length)
  | [], q, ws, d => rfl
  | l :: p, q, ws, d => by
    rw [List.cons_append, b.burns_cons, b.burns_cons]
    cases (List.range b.bins.length).find? (b.hotAt ws l) with
    | some k => rfl
    | none =>
      dsimp only
      rw [burns_app p q _ (d + 1), List.length_cons, show d + 1 + p.length = d + (p.length + 1) by omega]
theorem Barn.burns_day {b : Barn} : ∀ (p : List (List Int)) (ws : List Int) (d e : Nat), (b.burnsF ws p d).2 = (b.burnsF ws p e).2 ∧ ((b.burnsF ws p d).1 = none ↔ (b.burnsF ws p e).1 = none)
  | [], _, _, _ => ⟨rfl, Iff.rfl⟩
  | l :: p, ws, d, e => by
    unfold Barn.burnsF
    cases (List.range b.bins.length).find? (b.hotAt ws l) with
    | some k => exact ⟨rfl, by simp⟩
    | none => exact burns_day p _ (d + 1) (e + 1)
def rep (n : Nat) (p : List (List Int)) : List (List Int) := (List.replicate n p).flatten
theorem Z6j (n : Nat) (p : List (List Int)) : rep (n + 1) p = rep n p ++ p := by
  unfold rep; rw [List.replicate_succ', List.flatten_append, List.flatten_singleton]
theorem Z78 {b : Barn} {ws w : List Int} {p : List (List Int)} {d e : Nat} (h : b.burnsF ws p d = (none, w)) : b.burnsF ws p e = (none, w) := by
  have h1 := b.burns_day p ws d e
  rw [h] at h1
  obtain ⟨h2, h3⟩ := h1
  have h4 := h3.1 rfl
  rw [show b.burnsF ws p e = ((b.burnsF ws p e).1, (b.burnsF ws p e).2) from rfl, h4, ← h2]
theorem Z71 {b : Barn} {ws : List Int} {p : List (List Int)} {d e : Nat} (h : ∃ q w, b.burnsF ws p d = (some q, w)) : ∃ q w, b.burnsF ws p e = (some q, w) := by
  obtain ⟨q, w, h⟩ := h
  cases h2 : (b.burnsF ws p e).1 with
  | none =>
    have h1 := (b.burns_day p ws d e).2.2 h2
    rw [h] at h1; cases h1
  | some q' => exact ⟨q', (b.burnsF ws p e).2, by rw [← h2]⟩
def Barn.goes (b : Barn) (p q : List (List Int)) : Prop := ∀ n, (b.burnsF b.warms (p ++ rep n q) 0).1 = none
def Z04 (b : Barn) (p q : List (List Int)) : Int := bif decide (b.planned p = 0) then (bif decide (Z08 b.bins.length b.gangs q = 0) then (bif decide (q.length = 0) then 6 else 0) else Z08 b.bins.length b.gangs q) else b.planned p
def Zcp (b : Barn) (p q : List (List Int)) : Value → Prop := fun v => (Z04 b p q ≠ 0 ∧ v = .tuple #[.bool false, .int .i64 (Z04 b p q)]) ∨ (Z04 b p q = 0 ∧ ∃ is : Bool, (is = true ↔ b.goes p q) ∧ v = .tuple #[.bool is, .int .i64 0])
theorem Z9C {b : Barn} (hb : b.ok) {ws : List Int} (hc : Cool b ws) : (b.withB (Zi b.bins ws)).ok := by
  have hl := Zu hc.len
  have key : ∀ x ∈ Zi b.bins ws, ∃ y ∈ b.bins, ∃ w, x = { y with warm := w } ∧ 0 ≤ w ∧ w ≤ y.mark := fun x hx => by
    obtain ⟨k, hk⟩ := List.getElem?_of_mem hx
    have hk1 : k < b.bins.length := by rw [← hl]; exact (List.getElem?_eq_some_iff.1 hk).1
    obtain ⟨y, hy⟩ : ∃ y, b.bins[k]? = some y := ⟨_, List.getElem?_eq_getElem hk1⟩
    have hw : ws[k]? = some (na ws k) := Z07 (by rw [hc.len]; exact hk1)
    rw [ZX hy hw] at hk
    cases hk
    exact ⟨y, List.mem_of_getElem? hy, _, rfl, hc.at_ k y hy⟩
  refine ⟨hb.len, by show 1 ≤ (Zi b.bins ws).length ∧ (Zi b.bins ws).length ≤ 4; rw [hl]; exact hb.many, hb.cool, hb.gangs, hb.rise, fun x hx => ?_, hb.srt, fun x hx => ?_⟩
  · obtain ⟨y, hy, w, rfl, h1, h2⟩ := key x hx
    have := hb.bins y hy
    exact ⟨this.1, ⟨h1, h2⟩, this.2.2⟩
  · obtain ⟨y, hy, w, rfl, _⟩ := key x hx
    exact hb.ord y hy
theorem Z2y {b : Barn} (hb : b.ok) (hg : b.gangs ≤ 3) : b.check = 0 := by
  unfold Barn.check
  have h1 : inB b.bins.length 1 4 = true := by have := hb.many; simp [inB]; omega
  have h2 : inB b.cool 0 60 = true := by have := hb.cool; simp [inB]; omega
  have h3 : inB b.gangs 0 3 = true := by have := hb.gangs; simp [inB]; omega
  have h4 : b.rise.all Z1x = true := List.all_eq_true.2 fun n hn => by have := hb.rise n hn; simp [Z1x, inB]; omega
  have h5 : b.bins.all HBin.ok = true := List.all_eq_true.2 fun x hx => by have := hb.bins x hx; simp [HBin.ok, inB]; omega
  have h6 : (b.bins.all fun x => decide (x.lo ≤ x.hi)) = true := List.all_eq_true.2 fun x hx => by simpa using hb.ord x hx
  rw [h1, h2, h3, h4, h5, h6, hb.srt]; rfl
theorem Z1D {b : Barn} (h : b.check = 0) : b.gangs ≤ 3 := by
  unfold Barn.check at h
  simp only [Bool.cond_eq_ite] at h
  split at h <;> try (exact absurd h (by decide))
  split at h <;> try (exact absurd h (by decide))
  rename_i h1 h2
  simp only [Bool.not_eq_true', Bool.not_eq_true, Bool.or_eq_true, not_or, Bool.not_eq_false', Bool.not_eq_false, inB, Bool.and_eq_true, decide_eq_true_eq] at h2
  omega
theorem Z5e {b : Barn} {ws : List Int} (hl : ws.length = b.bins.length) (k : Nat) : ((Zi b.bins ws).getD k hb0).mark = (b.bins.getD k hb0).mark ∧ ((Zi b.bins ws).getD k hb0).hi = (b.bins.getD k hb0).hi := by
  rw [List.getD_eq_getElem?_getD, List.getD_eq_getElem?_getD]
  rcases Nat.lt_or_ge k b.bins.length with h | h
  · obtain ⟨y, hy⟩ : ∃ y, b.bins[k]? = some y := ⟨_, List.getElem?_eq_getElem h⟩
    rw [ZX hy (Z07 (by omega)), hy]; exact ⟨rfl, rfl⟩
  · rw [List.getElem?_eq_none (by rw [Zu hl]; exact h), List.getElem?_eq_none h]; exact ⟨rfl, rfl⟩
theorem Z6t {b : Barn} {ws : List Int} (hl : ws.length = b.bins.length) (us l : List Int) (k : Nat) : (b.withB (Zi b.bins ws)).wdAt us l k = b.wdAt us l k := by
  have h := Z5e (b := b) hl k
  show (bif Z2P l k then min (na us k) b.cool else na us k) + na b.rise ((Zi b.bins ws).getD k hb0).hi.toNat = (bif Z2P l k then min (na us k) b.cool else na us k) + na b.rise (b.bins.getD k hb0).hi.toNat
  rw [h.2]
theorem Z2L {b : Barn} {ws : List Int} (hl : ws.length = b.bins.length) : ∀ (p : List (List Int)) (us : List Int) (d : Nat), (b.withB (Zi b.bins ws)).burnsF us p d = b.burnsF us p d
  | [], _, _ => rfl
  | l :: p, us, d => by
    have e1 : (b.withB (Zi b.bins ws)).bins.length = b.bins.length := Zu hl
    have e2 : (b.withB (Zi b.bins ws)).hotAt us l = b.hotAt us l := by
      funext k
      unfold Barn.hotAt
      rw [Z6t hl]
      show decide (((Zi b.bins ws).getD k hb0).mark < _) = _
      rw [(Z5e (b := b) hl k).1]
    have e3 : (b.withB (Zi b.bins ws)).dayW us l = b.dayW us l := by
      unfold Barn.dayW
      rw [e1]
      refine List.map_congr_left fun k _ => Z6t hl us l k
    unfold Barn.burnsF
    rw [e1, e2, e3]
    cases (List.range b.bins.length).find? (b.hotAt us l) with
    | some k => rfl
    | none => exact Z2L hl p _ _
theorem Z5S {b : Barn} {ws : List Int} (hl : ws.length = b.bins.length) : (b.withB (Zi b.bins ws)).warms = ws := by
  refine List.ext_getElem? fun k => ?_
  show ((Zi b.bins ws).map (·.warm))[k]? = _
  rw [List.getElem?_map]
  rcases Nat.lt_or_ge k b.bins.length with h | h
  · obtain ⟨y, hy⟩ : ∃ y, b.bins[k]? = some y := ⟨_, List.getElem?_eq_getElem h⟩
    have hw : ws[k]? = some (na ws k) := Z07 (by omega)
    rw [ZX hy hw, hw]; rfl
  · rw [List.getElem?_eq_none (by rw [Zu hl]; exact h), List.getElem?_eq_none (by omega)]; rfl
theorem Z47 {b : Barn} (hb : b.ok) (hck : b.check = 0) {ws : List Int} (hc : Cool b ws) {q : List (List Int)} (hq : Z08 b.bins.length b.gangs q = 0) : (b.withB (Zi b.bins ws)).planned q = 0 := by
  unfold Barn.planned
  rw [decide_eq_true (Z2y (Z9C hb hc) (show (b.withB (Zi b.bins ws)).gangs ≤ 3 from Z1D (b := b) hck)), cond_true, show (b.withB (Zi b.bins ws)).bins.length = b.bins.length from Zu hc.len]
  exact hq
theorem Z6Z {b : Barn} {ws us : List Int} (hl : ws.length = b.bins.length) (h : Cool (b.withB (Zi b.bins ws)) us) : Cool b us := by
  refine ⟨by rw [h.len]; exact Zu hl, fun k x hx => ?_⟩
  have hk := (List.getElem?_eq_some_iff.1 hx).1
  exact h.at_ k { x with warm := na ws k } (ZX hx (Z07 (l := ws) (k := k) (by omega)))
theorem Z3k {b : Barn} {ws us : List Int} (hl : ws.length = b.bins.length) (hu : us.length = b.bins.length) : Zi (Zi b.bins ws) us = Zi b.bins us := by
  refine List.ext_getElem? fun k => ?_
  rcases Nat.lt_or_ge k b.bins.length with h | h
  · obtain ⟨y, hy⟩ : ∃ y, b.bins[k]? = some y := ⟨_, List.getElem?_eq_getElem h⟩
    rw [ZX (ZX hy (Z07 (by omega))) (Z07 (k := k) (by omega)), ZX hy (Z07 (by omega))]
  · rw [List.getElem?_eq_none (by rw [Zu (by rw [hu, Zu hl]), Zu hl]; exact h), List.getElem?_eq_none (by rw [Zu hu]; exact h)]
theorem Z7O {l : List HBin} {ws us : List Int} (hl : ws.length = l.length) (hu : us.length = l.length) (h : Zi l us = Zi l ws) : us = ws := by
  refine List.ext_getElem? fun k => ?_
  rcases Nat.lt_or_ge k l.length with h1 | h1
  · obtain ⟨y, hy⟩ : ∃ y, l[k]? = some y := ⟨_, List.getElem?_eq_getElem h1⟩
    have a := ZX hy (Z07 (l := us) (k := k) (by omega))
    have c := ZX hy (Z07 (l := ws) (k := k) (by omega))
    rw [h, c] at a
    rw [Z07 (l := us) (k := k) (by omega), Z07 (l := ws) (k := k) (by omega)]
    have := congrArg (fun o : Option HBin => o.map (·.warm)) a
    simpa using this.symm
  · rw [List.getElem?_eq_none (by omega), List.getElem?_eq_none (by omega)]
def Z7q (b : Barn) (ws : List Int) : Nat := ((List.range b.bins.length).map fun k => (60 - na ws k).toNat).sum
theorem ZaM : ∀ (l : List Nat) (f g : Nat → Nat), (∀ k ∈ l, g k ≤ f k) → (∃ k ∈ l, g k < f k) → (l.map g).sum < (l.map f).sum
  | [], _, _, _, h => by obtain ⟨_, h, _⟩ := h; cases h
  | x :: l, f, g, h, h2 => by
    simp only [List.map_cons, List.sum_cons]
    have hx := h x (by simp)
    obtain ⟨k, hk, hlt⟩ := h2
    rcases List.mem_cons.1 hk with rfl | hk
    · have : (l.map g).sum ≤ (l.map f).sum := by
        clear hlt hx hk
        have h3 : ∀ k ∈ l, g k ≤ f k := fun k hk => h k (by simp [hk])
        clear h
        induction l with
        | nil => simp
        | cons y l ih => simp only [List.map_cons, List.sum_cons]; have := h3 y (by simp); have := ih (fun k hk => h3 k (by simp [hk])); omega
      omega
    · have := ZaM l f g (fun k hk => h k (by simp [hk])) ⟨k, hk, hlt⟩
      omega
theorem Z6l (b : Barn) {ws : List Int} (h : ∀ k < b.bins.length, 0 ≤ na ws k) (hn : b.bins.length ≤ 4) : Z7q b ws ≤ 240 := by
  unfold Z7q
  have : ∀ (l : List Nat), (∀ k ∈ l, k < b.bins.length) → (l.map fun k => (60 - na ws k).toNat).sum ≤ 60 * l.length := by
    intro l
    induction l with
    | nil => intro _; simp
    | cons k l ih =>
      intro hk
      have h1 := h k (hk k (by simp))
      have := ih (fun j hj => hk j (by simp [hj]))
      simp only [List.map_cons, List.sum_cons, List.length_cons]
      omega
  have h2 := this (List.range b.bins.length) (fun k hk => List.mem_range.1 hk)
  rw [List.length_range] at h2
  omega
theorem Z6u (xs ys : List HBin) (a a2 : Option Addr) (c c2 : Nat) (hl : xs.length ≤ 9223372036854775807) (hl2 : ys.length ≤ 9223372036854775807) (H : Z7) (R : Z5) [hR : MemRows a 4 (brows xs) R] [hR2 : MemRows a2 4 (brows ys) R] :
    FnV Tryz.prog 67 [.slice a xs.length c, .slice a2 ys.length c2] H R (.bool (decide (xs = ys))) := by
 refine Z9 Tryz.func67 rfl Tryz.ntmps67 rfl ?_
 refine sqt 1 rfl (pur 1 rfl (Z0 (sqt 5 rfl (pur 1 rfl (sp rfl (PE.lenSl Z0G rfl) rfl (pur 1 rfl (sp rfl (PE.lenSl Z0G rfl) rfl (pur 1 rfl ?_))))))))
 refine Z2 rfl ?_ ?_ <;> intro hc0
 have hne : xs ≠ ys := fun e => by subst e; simp at hc0
 refine sqt 1 rfl (pur 1 rfl (Z1 ?_))
 exact rtA rfl rfl rfl ⟨by first | (simp only [ZM]; rw [dT heq]; done) | (simp only [ZM]; rw [dF hne]), rfl, rfl⟩ idH
 have hle : xs.length = ys.length := by simp only [cS] at hc0; omega
 refine Z4 (Z0 (sqt 3 rfl (pur 1 rfl (sp rfl (PE.lenSl Z0G rfl) rfl (pur 1 rfl (Z3 ?_))))))
 refine Ze (ι := {k : Nat // k ≤ xs.length ∧ xs.take k = ys.take k}) (fun k => ⟨[(0, .slice a xs.length c), (1, .slice a2 ys.length c2), (12, .int .i64 xs.length), (13, .int .i64 k.1)], H, R⟩) (fun k => xs.length - k.1) ⟨0, by simp⟩ ?_ (fun k => ?_)
 exact Zl idH
 obtain ⟨k, hk, hn⟩ := k
 dsimp only
 refine sqt 1 rfl (pur 1 rfl (Z0 ?_))
 refine Z2 rfl ?_ ?_ <;> intro hc1
 simp only [cS] at hc1
 obtain ⟨x, hx⟩ : ∃ x, xs[k]? = some x := ⟨_, List.getElem?_eq_getElem (by omega)⟩
 obtain ⟨z, hz⟩ : ∃ z, ys[k]? = some z := ⟨_, List.getElem?_eq_getElem (by omega)⟩
 refine Zp (a := a) (sz := 4) (rows := brows xs) (by intro h0; simp [brows] at h0; simp [h0] at hx) (fun b off he => ?_)
 subst he
 refine Zp (a := a2) (sz := 4) (rows := brows ys) (by intro h0; simp [brows] at h0; simp [h0] at hz) (fun b2 off2 he => ?_)
 subst he
 refine Z4 (Z0 (Z3 (sqt 2 rfl (pur 2 rfl (Z0 ?_)))))
 refine Z8 [0, 0, 3, 7, 0, 0, 48, 112, 255] (tks 0 3 (.ld 3 (tks 4 3 (.ld 7 (.tk 8 .done))))) Zr (by kernel_rfl) ?_
 refine Zg 2 rfl (tk rfl (PE.indexAddr Z2i rfl rfl (by omega) (by omega)) rfl (ld rfl rfl (lfA Z9i (row := Z2s x) (by simp [brows, hx]) rfl) rfl (Zg 2 rfl (tk rfl (PE.indexAddr Z2i rfl rfl (by omega) (by omega)) rfl (ld rfl rfl (lfA Z9i (row := Z2s z) (by simp [brows, hz]) rfl) rfl (tk rfl (PE.neqAgg [x.warm, x.mark, x.lo, x.hi] [z.warm, z.mark, z.lo, z.hi] (Z0D 10000 53 true 4 Zf4) ZeT rfl rfl rfl rfl) rfl ?_))))))
 refine Z2 rfl ?_ ?_ <;> intro hc2
 have hne : xs ≠ ys := fun e => by subst e; rw [hx] at hz; cases hz; simp at hc2
 refine sqt 1 rfl (pur 1 rfl (Z1 ?_))
 exact rtA rfl rfl rfl ⟨by first | (simp only [ZM]; rw [dT heq]; done) | (simp only [ZM]; rw [dF hne]), rfl, rfl⟩ idH
 have hxz : x = z := by cases x; cases z; simpa using hc2
 refine Z4 (sqr 2 rfl (sp rfl (PE.add rfl rfl (by omega)) rfl (pur 1 rfl ?_)))
 exact Zm ⟨k + 1, by omega, by rw [List.take_add_one, List.take_add_one, hn, hx, hz, hxz]⟩ idH
 simp only [cS] at hc1
 obtain rfl : k = xs.length := by omega
 have heq : xs = ys := by
   rw [List.take_length] at hn
   exact hn.trans (by rw [hle]; exact List.take_length)
 refine Zb (Zc (Zc (ZA (sqt 1 rfl (pur 1 rfl (Z1 ?_))))))
 exact rtA rfl rfl rfl ⟨by first | (simp only [ZM]; rw [dT heq]; done) | (simp only [ZM]; rw [dF hne]), rfl, rfl⟩ idH
theorem Z9v (b : Barn) (ab : Option Addr) (cb : Nat) (hl : b.bins.length ≤ 9223372036854775807) (hr : b.rise.length = 6) (pl : List PL) (ap : Option Addr) (cp : Nat) (hpl : pl.length ≤ 9223372036854775807) (hpi : ∀ x ∈ pl, x.l.length ≤ 9223372036854775807) (n : Int) (H : Z7) (R : Z5) [hB : MemRows ab 4 (brows b.bins) R] [hP : MemRows ap 1 (Zz pl) R] [hI : MemF (Inn pl) R] :
    Fn Tryz.prog 34 [b.v (b.sl ab cb), .slice ap pl.length cp, .int .i64 n] H R (fun v H' R' => ((Z0q b (lls pl) n ≠ 0 ∧ v = .tuple #[.slice none 0 0, .int .i64 (Z0q b (lls pl) n)] ∧ H' = H) ∨
      (Z0q b (lls pl) n = 0 ∧ ∃ o : OSl 46 2 (Z0a (ZbX b (lls pl) n)), v = .tuple #[o.fs, .int .i64 0] ∧ H' = o.G ++ H)) ∧ R' = R) := by
 refine Z9 Tryz.func34 rfl Tryz.ntmps34 rfl ?_
 refine sqt 3 rfl (bx rfl rfl rfl (fun b3 => pur 2 rfl (Z0 (sqt 4 rfl (spL rfl rfl (lhA (btl b (b.sl ab cb)) Zt rfl rfl rfl) rfl (pur 1 rfl ?_))))))
 refine clV rfl Z82 rfl rfl (Z1f b ab cb hl hr pl ap cp hpl hpi _ _) ?_
 refine pur 1 rfl (sqt 2 rfl (pur 2 rfl ?_))
 refine Z2 rfl ?_ ?_ <;> intro hc0 <;> try simp only [cS] at hc0
 have ese : Z0q b (lls pl) n = b.planned (lls pl) := by unfold Z0q; rw [dF hc0]; rfl
 refine sqt 3 rfl (pur 3 rfl (Z1 ?_))
 exact rtB rfl rfl rfl rfl ⟨.inl ⟨by rw [ese]; exact hc0, by rw [ese]; rfl, rfl⟩, rfl⟩ drp
 have hpz : b.planned (lls pl) = 0 := by omega
 obtain ⟨hck, hok, hpe⟩ := Z0O hr hpz
 have hmn := hok.many
 refine Z4 (Z0 (sqt 3 rfl (pur 1 rfl (sp rfl (PE.lenSl Z76 rfl) rfl (pur 1 rfl ?_)))))
 refine Z2 rfl ?_ ?_ <;> intro hc1 <;> try simp only [cS] at hc1
 have ese : Z0q b (lls pl) n = 2 := by unfold Z0q; rw [dT hpz, lls_len, dT (show 20 < pl.length by omega)]; rfl
 refine sqt 2 rfl (pur 2 rfl (Z1 ?_))
 exact rtB rfl rfl rfl rfl ⟨.inl ⟨by rw [ese]; decide, by rw [ese]; rfl, rfl⟩, rfl⟩ drp
 have h20 : decide (20 < pl.length) = false := dF (by omega)
 refine Z4 (Z0 (sqt 4 rfl (spL rfl rfl (lhA (btl b (b.sl ab cb)) Zt rfl rfl rfl) rfl (pur 1 rfl ?_))))
 refine clV rfl ZaV rfl rfl (ZbL b ab cb n hl _ _) ?_
 refine pur 1 rfl ?_
 refine Z2 rfl ?_ ?_ <;> intro hc2
 have ese : Z0q b (lls pl) n = 1 := by unfold Z0q; rw [dT hpz, lls_len, h20, hc2]; rfl
 refine sqt 2 rfl (pur 2 rfl (Z1 ?_))
 exact rtB rfl rfl rfl rfl ⟨.inl ⟨by rw [ese]; decide, by rw [ese]; rfl, rfl⟩, rfl⟩ drp
 have ese : Z0q b (lls pl) n = 0 := by unfold Z0q; rw [dT hpz, lls_len, h20, hc2]; rfl
 rw [Bool.not_eq_false'] at hc2
 simp only [inB, Bool.and_eq_true, decide_eq_true_eq] at hc2
 obtain ⟨k, rfl⟩ : ∃ k : Nat, n = k := ⟨n.toNat, by omega⟩
 obtain ⟨x, hx⟩ : ∃ x, b.bins[k]? = some x := ⟨_, List.getElem?_eq_getElem (by omega)⟩
 have hbx := binAt_of hx
 have hm := List.mem_of_getElem? hx
 have hh := (hok.bins x hm).2
 have hmk := (hok.bins x hm).1
 have hcl := hok.cool
 have hw1 := b.least_range hok hm
 have hw2 := b.worst_range hok hm
 have hin := hh.2.1
 have hlb : ∀ d, 0 ≤ wst b.cool (b.least x) k x.warm ((lls pl).take d) ∧ wst b.cool (b.least x) k x.warm ((lls pl).take d) ≤ 1000 := fun d => by
   have h1 := Z8I (k := k) hcl (show 0 ≤ b.least x ∧ b.least x ≤ 20 by omega) ((lls pl).take d) x.warm hh.1.1
   have h2 : ((lls pl).take d).length ≤ pl.length := by rw [List.length_take, lls_len]; omega
   omega
 have hwb : ∀ d, 0 ≤ wst b.cool (b.worst x) k x.warm ((lls pl).take d) ∧ wst b.cool (b.worst x) k x.warm ((lls pl).take d) ≤ 1000 := fun d => by
   have h1 := Z8I (k := k) hcl (show 0 ≤ b.worst x ∧ b.worst x ≤ 20 by omega) ((lls pl).take d) x.warm hh.1.1
   have h2 : ((lls pl).take d).length ≤ pl.length := by rw [List.length_take, lls_len]; omega
   omega
 refine Z4 (sqt 1 rfl (pur 1 rfl (sqt 7 rfl (sp rfl (PE.fA Zj rfl) rfl (spL rfl rfl (lh Z0b rfl rfl) rfl (pur 1 rfl ?_))))))
 refine Zp (a := ab) (sz := 4) (rows := brows b.bins) (by intro h0; simp [brows] at h0; simp [h0] at hx) (fun ba oa he => ?_)
 subst he
 refine sp rfl (PE.indexAddr Z2i rfl rfl (by omega) (by omega)) rfl (spL rfl rfl (lfA Z9i (row := Z2s x) (br_get hx) rfl) rfl (alc rfl Z79 rfl (fun b10 => ?_)))
 refine sto rfl rfl rfl ZcK rfl rfl rfl rfl ?_
 refine sqt 7 rfl (sp rfl (PE.fA Z2U rfl) rfl (spL rfl rfl (lh sc3 rfl rfl) rfl (sp rfl (PE.fA Z2U rfl) rfl (spL rfl rfl (lh sc3 rfl rfl) rfl (sp rfl (PE.build (out := [_, _]) Z3s Z1t rfl rfl) rfl (alc rfl Z1t rfl (fun b11 => ?_)))))))
 refine sto rfl rfl rfl Z3D rfl rfl rfl rfl ?_
 refine Z0 (sqt 3 rfl ?_)
 refine Sy.heap (H' := (b11, cel 46 [.int .i64 (wst b.cool (b.least x) k x.warm ((lls pl).take 0)), .int .i64 (wst b.cool (b.worst x) k x.warm ((lls pl).take 0))]) :: (b10, cel 53 (Z2s x)) :: (b3, cel 37 (btl b (b.sl (some ⟨ba, oa, none⟩) cb))) :: H) idH ?_
 refine pur 1 rfl (sp rfl (PE.lenSl Z76 rfl) rfl (pur 1 rfl (Z3 ?_)))
 refine Ze (ι := (d : {d : Nat // d ≤ pl.length}) × OSl 46 2 (Z0a (Z6p b.cool (b.least x) (b.worst x) k x.warm (lls pl) d.1))) (fun y => ⟨[(2, .int .i64 k), (3, .pointer (some ⟨b3, 0, none⟩)), (9, y.2.fs), (10, .pointer (some ⟨b10, 0, none⟩)), (11, .pointer (some ⟨b11, 0, none⟩)), (38, .slice ap pl.length cp), (39, .int .i64 pl.length), (40, .int .i64 y.1.1)], y.2.G ++ (b11, cel 46 [.int .i64 (wst b.cool (b.least x) k x.warm ((lls pl).take y.1.1)), .int .i64 (wst b.cool (b.worst x) k x.warm ((lls pl).take y.1.1))]) :: (b10, cel 53 (Z2s x)) :: (b3, cel 37 (btl b (b.sl (some ⟨ba, oa, none⟩) cb))) :: H, R⟩) (fun y => pl.length - y.1.1) ⟨⟨0, by omega⟩, OSl.nil _ _⟩ ?_ (fun y => ?_)
 exact Zl idH
 obtain ⟨⟨d, hd⟩, o⟩ := y
 dsimp only at hd o ⊢
 have hl1 := hlb d
 have hw3 := hwb d
 refine sqt 1 rfl (pur 1 rfl (Z0 ?_))
 refine Z2 rfl ?_ ?_ <;> intro hc3 <;> try simp only [cS] at hc3
 obtain ⟨z, hz⟩ : ∃ z, pl[d]? = some z := ⟨_, List.getElem?_eq_getElem (by omega)⟩
 have hxm := List.mem_of_getElem? hz
 have hzl := hpi z hxm
 have e1 : wst b.cool (b.least x) k x.warm ((lls pl).take (d + 1)) = (bif Z2P z.l k then min (wst b.cool (b.least x) k x.warm ((lls pl).take d)) b.cool else wst b.cool (b.least x) k x.warm ((lls pl).take d)) + b.least x := by rw [ZY (Z4i hz), Z6M]
 have e2 : wst b.cool (b.worst x) k x.warm ((lls pl).take (d + 1)) = (bif Z2P z.l k then min (wst b.cool (b.worst x) k x.warm ((lls pl).take d)) b.cool else wst b.cool (b.worst x) k x.warm ((lls pl).take d)) + b.worst x := by rw [ZY (Z4i hz), Z6M]
 refine Zp (a := ap) (sz := 1) (rows := Zz pl) (ne0 (by rw [Z2b]; omega)) (fun bp op he => ?_)
 subst he
 refine Sy.heap (fun w h => St.inn (x := z) h hxm) ?_
 refine Z4 (Z0 (Z3 (sqt 3 rfl (sp rfl (PE.indexAddr ZdZ rfl rfl (by omega) (by omega)) rfl (spL rfl rfl (lf0 ZeP (Z8s hz) rfl) rfl (pur 1 rfl (sqt 4 rfl (pur 2 rfl ?_))))))))
 refine clV rfl Zco rfl rfl (Z1B z.l z.a z.c k hzl _ _) ?_
 refine pur 1 rfl (Z0 ?_)
 refine Z8 [0, 0, 2, 0, 8, 24, 0, 120, 248, 0, 1023, 0, 0, 4096, 0, 0, 51199, 0, 262143, 524287, 1048575] (.ld 0 (.tk 1 (.ld 2 (.tk 3 (.tk 4 (.ld 5 (.tk 6 (.tk 7 (.ld 8 (.tk 9 (.ld 11 (.tk 12 (.ld 13 (.ld 14 (.tk 15 (.tk 17 (.big 10 (.big 16 (.big 18 (.tk 19 (.big 20 .done))))))))))))))))))))) Zr (by kernel_rfl) ?_
 refine ld rfl rfl (lhA (btl b (b.sl (some ⟨ba, oa, none⟩) cb)) Zt rfl rfl rfl) rfl (tk rfl (PE.fA ZH rfl) rfl (ld rfl rfl (lh sc3 rfl rfl) rfl (tk rfl (PE.fA ZS rfl) rfl (tk rfl (PE.fA ZH rfl) rfl (ld rfl rfl (lh sc3 rfl rfl) rfl (tk rfl (PE.fA Z1X rfl) rfl (tk rfl (PE.indexArr Zaq rfl rfl (by omega) (by omega)) rfl (ld rfl rfl (lh sc3 rfl (by rw [show 0 + 2 + x.lo.toNat * 1 = 2 + x.lo.toNat by omega]; exact Z4E (by omega))) rfl (Zg 1 rfl (ld rfl rfl (lhA (btl b (b.sl (some ⟨ba, oa, none⟩) cb)) Zt rfl rfl rfl) rfl (tk rfl (PE.fA ZI rfl) rfl (ld rfl rfl (lh sc3 rfl rfl) rfl (ld rfl rfl (lhA (btl b (b.sl (some ⟨ba, oa, none⟩) cb)) Zt rfl rfl rfl) rfl (Zg 2 rfl ?_))))))))))))))
 refine clV rfl Zbz rfl rfl (Z4h b (some ⟨ba, oa, none⟩) cb _ (b.least x) (Z2P z.l k) (by omega) (by omega) (by omega) _ _) ?_
 refine bg (fun w hs => ⟨(lhA (btl b (b.sl (some ⟨ba, oa, none⟩) cb)) Zt rfl rfl rfl) w hs, (lh sc3 rfl rfl) w hs, (lhA (btl b (b.sl (some ⟨ba, oa, none⟩) cb)) Zt rfl rfl rfl) w hs, trivial, trivial, trivial, trivial, trivial⟩) ?_
 refine clV rfl Z9l rfl rfl (Z43 b (some ⟨ba, oa, none⟩) cb k x hx hh.2.2 _ _) ?_
 refine bg (fun w hs => ⟨trivial, (lh sc3 rfl rfl) w hs, (lhA (btl b (b.sl (some ⟨ba, oa, none⟩) cb)) Zt rfl rfl rfl) w hs, trivial⟩) ?_
 refine clV rfl Zbz rfl rfl (Z4h b (some ⟨ba, oa, none⟩) cb _ (b.worst x) (Z2P z.l k) (by omega) (by omega) (by omega) _ _) ?_
 refine bgT (tk rfl (PE.build (out := [_, _]) Z3s Z1t rfl rfl) rfl ?_)
 refine sto rfl rfl rfl Z3D rfl rfl rfl rfl ?_
 refine bgT (sqr 5 rfl ?_)
 refine Sy.heap (H' := o.G ++ (b11, cel 46 [.int .i64 (wst b.cool (b.least x) k x.warm ((lls pl).take (d + 1))), .int .i64 (wst b.cool (b.worst x) k x.warm ((lls pl).take (d + 1)))]) :: (b10, cel 53 (Z2s x)) :: (b3, cel 37 (btl b (b.sl (some ⟨ba, oa, none⟩) cb))) :: H) (fun w h => by rw [e1, e2]; exact h) ?_
 refine pur 1 rfl (spL rfl rfl (lhA [_, _] Z4c rfl rfl rfl) rfl ?_)
 refine bsl (out := [_, _]) rfl ZfN Z1t rfl rfl rfl rfl rfl rfl (fun b69 => ?_)
 refine apO (o) rfl ZfT rfl rfl (Z3g (row := Z7F (wst b.cool (b.least x) k x.warm ((lls pl).take (d + 1)), wst b.cool (b.worst x) k x.warm ((lls pl).take (d + 1)))) rfl) rfl rfl ((by rw [Z7s, Z6p, List.length_map, List.length_range]; simp only [List.length_singleton]; omega)) rfl (fun o70 => ?_)
 refine pur 1 rfl (sqr 2 rfl (sp rfl (PE.add rfl rfl (by omega)) rfl (pur 1 rfl ?_)))
 exact Zm ⟨⟨d + 1, by omega⟩, o70.cast (by unfold Z6p; rw [List.range_succ, List.map_append]; simp [Z0a])⟩ (fun w h => (h.del b69).ftail)
 obtain rfl : d = pl.length := by omega
 refine Zb (Zc (Zc (ZA (sqt 3 rfl (pur 3 rfl (Z1 ?_))))))
 exact rtB rfl rfl rfl rfl ⟨.inr ⟨ese, o.cast (by unfold ZbX; rw [hbx, lls_len]), rfl, rfl⟩, rfl⟩ (fun w h => ((h.del b11).del b10).del b3)
theorem ZcG : cal Tryz.prog 67 = true := by kernel_rfl
theorem Zct : cal Tryz.prog 68 = true := by kernel_rfl
theorem ZbD {b : Barn} {p q : List (List Int)} {i : Nat} {ws : List Int} (h : b.burnsF b.warms (p ++ rep i q) 0 = (none, ws)) (h2 : ∃ x w, b.burnsF ws q 0 = (some x, w)) : ¬ b.goes p q := fun hg => by
  have h3 := hg (i + 1)
  rw [Z6j, ← List.append_assoc, b.burns_app, h] at h3
  dsimp only at h3
  obtain ⟨x, w, h4⟩ := Z71 (e := 0 + (p ++ rep i q).length) h2
  rw [h4] at h3; cases h3
theorem Z58 {b : Barn} {p q : List (List Int)} {i : Nat} {ws us : List Int} (h : b.burnsF b.warms (p ++ rep i q) 0 = (none, ws)) (h2 : b.burnsF ws q 0 = (none, us)) : b.burnsF b.warms (p ++ rep (i + 1) q) 0 = (none, us) := by
  rw [Z6j, ← List.append_assoc, b.burns_app, h]
  exact Z78 h2
theorem Z7G {b : Barn} {ws : List Int} {p q : List (List Int)} {d : Nat} (h : (b.burnsF ws (p ++ q) d).1 = none) : (b.burnsF ws p d).1 = none := by
  rw [b.burns_app] at h
  cases h1 : b.burnsF ws p d with
  | mk x w => cases x with
    | none => rfl
    | some x => rw [h1] at h; cases h
theorem Z6C {b : Barn} {p q : List (List Int)} {i : Nat} {ws : List Int} (h : b.burnsF b.warms (p ++ rep i q) 0 = (none, ws)) (h2 : b.burnsF ws q 0 = (none, ws)) : b.goes p q := fun n => by
  have key : ∀ j, b.burnsF b.warms (p ++ rep (i + j) q) 0 = (none, ws) := fun j => by
    induction j with
    | zero => exact h
    | succ j ih => exact Z58 ih h2
  have h3 := key n
  have e : rep (i + n) q = rep n q ++ rep i q := by unfold rep; rw [← List.flatten_append, List.replicate_append_replicate, Nat.add_comm]
  rw [e, ← List.append_assoc] at h3
  exact Z7G (by rw [h3])
theorem Z6V {b : Barn} (hb : b.ok) {ws us : List Int} {q : List (List Int)} (hw : Cool b ws) (h : b.burnsF ws q 0 = (none, us)) : ∀ k < b.bins.length, na us k ≤ wst b.cool (b.worst (b.bins.getD k hb0)) k (na us k) q := fun k hk => by
  rw [b.burns_at q ws us 0 h k hk hw.len]
  obtain ⟨x, hx⟩ : ∃ x, b.bins[k]? = some x := ⟨_, List.getElem?_eq_getElem hk⟩
  have := b.worst_range hb (List.mem_of_getElem? hx)
  rw [Z01 hx]
  exact Z9q (by omega) q _
theorem Z8r {b : Barn} (hb : b.ok) {ws us : List Int} {q : List (List Int)} (hw : Cool b ws) (hu : Cool b us) (hg : ∀ k < b.bins.length, na ws k ≤ wst b.cool (b.worst (b.bins.getD k hb0)) k (na ws k) q) (h : b.burnsF ws q 0 = (none, us)) (hne : us ≠ ws) : Z7q b us < Z7q b ws := by
  have hat := fun k hk => b.burns_at q ws us 0 h k hk hw.len
  unfold Z7q
  refine ZaM _ _ _ (fun k hk => ?_) ?_
  · have hk := List.mem_range.1 hk
    have := hg k hk
    rw [← hat k hk] at this
    omega
  · apply Classical.byContradiction
    intro hno
    apply hne
    refine List.ext_getElem? fun k => ?_
    rcases Nat.lt_or_ge k b.bins.length with h1 | h1
    · rw [Z07 (l := us) (k := k) (by rw [hu.len]; exact h1), Z07 (l := ws) (k := k) (by rw [hw.len]; exact h1)]
      congr 1
      have h2 := hg k h1
      rw [← hat k h1] at h2
      obtain ⟨x, hx⟩ : ∃ x, b.bins[k]? = some x := ⟨_, List.getElem?_eq_getElem h1⟩
      have h3 := hu.at_ k x hx
      have h4 := (hb.bins x (List.mem_of_getElem? hx)).1
      rcases Int.lt_or_le (na ws k) (na us k) with h5 | h5
      · exact absurd ⟨k, List.mem_range.2 h1, by omega⟩ hno
      · omega
    · rw [List.getElem?_eq_none (by rw [hu.len]; exact h1), List.getElem?_eq_none (by rw [hw.len]; exact h1)]
theorem Za3 {b : Barn} {ws us : List Int} (hl : ws.length = b.bins.length) (hu : us.length = b.bins.length) : (b.withB (Zi b.bins ws)).withB (Zi (b.withB (Zi b.bins ws)).bins us) = b.withB (Zi b.bins us) := by
  show ({ b with bins := Zi (Zi b.bins ws) us } : Barn) = { b with bins := Zi b.bins us }
  rw [Z3k hl hu]
theorem Zdr (b : Barn) (ab : Option Addr) (cb : Nat) (hl : b.bins.length ≤ 9223372036854775807) (hr : b.rise.length = 6) (pl : List PL) (ap : Option Addr) (cp : Nat) (hpl : pl.length ≤ 9223372036854775807) (hpi : ∀ x ∈ pl, x.l.length ≤ 9223372036854775807) (ql : List PL) (aq : Option Addr) (cq : Nat) (hql : ql.length ≤ 9223372036854775807) (hqi : ∀ x ∈ ql, x.l.length ≤ 9223372036854775807) (H : Z7) (R : Z5) [hB : MemRows ab 4 (brows b.bins) R] [hP : MemRows ap 1 (Zz pl) R] [hI : MemF (Inn pl) R] [hQ : MemRows aq 1 (Zz ql) R] [hJ : MemF (Inn ql) R] :
    Fn Tryz.prog 40 [b.v (b.sl ab cb), .slice ap pl.length cp, .slice aq ql.length cq] H R (fun v H' R' => Zcp b (lls pl) (lls ql) v ∧ H' = H ∧ R' = R) := by
 refine Z9 Tryz.func40 rfl Tryz.ntmps40 rfl ?_
 refine sqt 3 rfl (bx rfl rfl rfl (fun b3 => pur 2 rfl (Z0 (sqt 4 rfl (spL rfl rfl (lhA (btl b (b.sl ab cb)) Zt rfl rfl rfl) rfl (pur 1 rfl ?_))))))
 refine clV rfl Z82 rfl rfl (Z1f b ab cb hl hr pl ap cp hpl hpi _ _) ?_
 refine pur 1 rfl (sqt 2 rfl (pur 2 rfl ?_))
 refine Z2 rfl ?_ ?_ <;> intro hc0 <;> try simp only [cS] at hc0
 have ese : Z04 b (lls pl) (lls ql) = b.planned (lls pl) := by unfold Z04; rw [dF hc0]; rfl
 refine sqt 3 rfl (pur 3 rfl (Z1 ?_))
 exact rtB rfl rfl rfl rfl ⟨.inl ⟨by rw [ese]; exact hc0, by rw [ese]; rfl⟩, rfl, rfl⟩ drp
 have hpz : b.planned (lls pl) = 0 := by omega
 obtain ⟨hck, hok, hpe⟩ := Z0O hr hpz
 have hmn := hok.many
 refine Z4 (Z0 (sqt 4 rfl (spL rfl rfl (lhA (btl b (b.sl ab cb)) Zt rfl rfl rfl) rfl (pur 1 rfl ?_))))
 refine clV rfl Zd7 rfl rfl (ZaN b ab cb hl ql aq cq hql hqi _ _) ?_
 refine pur 1 rfl (sqt 2 rfl (pur 2 rfl ?_))
 refine Z2 rfl ?_ ?_ <;> intro hc1 <;> try simp only [cS] at hc1
 have ese : Z04 b (lls pl) (lls ql) = Z08 b.bins.length b.gangs (lls ql) := by unfold Z04; rw [dT hpz, dF hc1]; rfl
 refine sqt 3 rfl (pur 3 rfl (Z1 ?_))
 exact rtB rfl rfl rfl rfl ⟨.inl ⟨by rw [ese]; exact hc1, by rw [ese]; rfl⟩, rfl, rfl⟩ drp
 have hqz : Z08 b.bins.length b.gangs (lls ql) = 0 := by omega
 refine Z4 (Z0 (sqt 3 rfl (pur 1 rfl (sp rfl (PE.lenSl Z76 rfl) rfl (pur 1 rfl ?_)))))
 refine Z2 rfl ?_ ?_ <;> intro hc2 <;> try simp only [cS] at hc2
 have ese : Z04 b (lls pl) (lls ql) = 6 := by unfold Z04; rw [dT hpz, dT hqz, lls_len, dT (show ql.length = 0 by omega)]; rfl
 refine sqt 2 rfl (pur 2 rfl (Z1 ?_))
 exact rtB rfl rfl rfl rfl ⟨.inl ⟨by rw [ese]; decide, by rw [ese]; rfl⟩, rfl, rfl⟩ drp
 have ese : Z04 b (lls pl) (lls ql) = 0 := by unfold Z04; rw [dT hpz, dT hqz, lls_len, dF (show ¬ ql.length = 0 by omega)]; rfl
 refine Z4 (sqt 9 rfl (spL rfl rfl (lhA (btl b (b.sl ab cb)) Zt rfl rfl rfl) rfl (pur 1 rfl ?_)))
 refine cl rfl Zct rfl rfl (Z7T b ab cb hl hr pl ap cp hpl hpi _ _) ?_
 rintro _ _ R1 ⟨hR1, hQQ⟩
 obtain rfl := hR1.symm
 rcases hQQ with ⟨hpn, _, _⟩ | ⟨_, hbs, rfl, rfl⟩ | ⟨_, us, bo2, hbn, hcn, rfl, rfl⟩
 exact absurd hpz hpn
 refine pur 3 rfl (alc rfl Z0n rfl (fun b10 => ?_))
 refine sto rfl rfl rfl Z02 rfl rfl rfl rfl ?_
 refine pur 1 rfl (Z0 (sqt 2 rfl (pur 2 rfl ?_)))
 refine Zv (rfl) ?_
 refine sqt 2 rfl (pur 2 rfl (Z1 ?_))
 exact rtB rfl rfl rfl rfl ⟨.inr ⟨ese, _, ⟨fun h => (by cases h), fun h => by have h0 := h 0; obtain ⟨x, w, h1⟩ := hbs; rw [show lls pl ++ rep 0 (lls ql) = lls pl from List.append_nil _, h1] at h0; cases h0⟩, rfl⟩, rfl, rfl⟩ (fun w h => (h.del b10).del b3)
 refine pur 3 rfl (alc rfl Z0n rfl (fun b10 => ?_))
 refine sto rfl rfl rfl Z02 rfl rfl rfl rfl ?_
 refine pur 1 rfl (Z0 (sqt 2 rfl (pur 2 rfl ?_)))
 refine ZD (rfl) ?_
 refine Z4 (Z3 ?_)
 have h00 : b.burnsF b.warms (lls pl ++ rep 0 (lls ql)) 0 = (none, us) := by rw [show lls pl ++ rep 0 (lls ql) = lls pl from List.append_nil _]; exact hbn
 refine Sy.heap (H' := (b10, cel 37 (btl (b.withB (Zi b.bins us)) ((b.withB (Zi b.bins us)).sl (some ⟨bo2, 0, none⟩) b.bins.length))) :: (b3, cel 37 (btl b (b.sl ab cb))) :: H) (R' := RowsA (some ⟨bo2, 0, none⟩) 4 (brows (Zi b.bins us)) :: R) (fun w h => St.rows (sz := 4) (rows := brows (Zi b.bins us)) (rest := []) (by rw [List.append_nil]; exact h.pull bo2) (Z32 _)) ?_
 refine Ze (ι := {x : (Nat × List Int) × Nat // Cool b x.1.2 ∧ b.burnsF b.warms (lls pl ++ rep x.1.1 (lls ql)) 0 = (none, x.1.2) ∧ (x.1.1 = 0 ∨ ∀ k < b.bins.length, na x.1.2 k ≤ wst b.cool (b.worst (b.bins.getD k hb0)) k (na x.1.2 k) (lls ql))}) (fun x => ⟨[(2, .slice aq ql.length cq), (3, .pointer (some ⟨b3, 0, none⟩)), (10, .pointer (some ⟨b10, 0, none⟩))], (b10, cel 37 (btl (b.withB (Zi b.bins x.1.1.2)) ((b.withB (Zi b.bins x.1.1.2)).sl (some ⟨x.1.2, 0, none⟩) b.bins.length))) :: (b3, cel 37 (btl b (b.sl ab cb))) :: H, RowsA (some ⟨x.1.2, 0, none⟩) 4 (brows (Zi b.bins x.1.1.2)) :: R⟩) (fun x => if x.1.1.1 = 0 then 1000 else Z7q b x.1.1.2) ⟨((0, us), bo2), hcn, h00, .inl rfl⟩ ?_ (fun x => ?_)
 exact Zl idH
 obtain ⟨⟨⟨i, ws⟩, bo⟩, hcw, hbw, hgr⟩ := x
 dsimp only at hcw hbw hgr ⊢
 have hwl := hcw.len
 have hpw := Z47 hok hck hcw hqz
 have hnl : (b.withB (Zi b.bins ws)).bins.length = b.bins.length := Zu hwl
 have hwm : (b.withB (Zi b.bins ws)).warms = ws := Z5S hwl
 have hwb := Z2L (b := b) hwl (lls ql) ws 0
 haveI : MemRows (some ⟨bo, 0, none⟩) 4 (brows (b.withB (Zi b.bins ws)).bins) (RowsA (some ⟨bo, 0, none⟩) 4 (brows (Zi b.bins ws)) :: R) := inferInstanceAs (MemRows (some ⟨bo, 0, none⟩) 4 (brows (Zi b.bins ws)) (RowsA (some ⟨bo, 0, none⟩) 4 (brows (Zi b.bins ws)) :: R))
 refine Z3 (sqt 9 rfl (spL rfl rfl (lhA (btl (b.withB (Zi b.bins ws)) ((b.withB (Zi b.bins ws)).sl (some ⟨bo, 0, none⟩) b.bins.length)) Zt rfl rfl rfl) rfl (pur 1 rfl ?_)))
 refine cl rfl Zct rfl rfl (Z7T (b.withB (Zi b.bins ws)) (some ⟨bo, 0, none⟩) b.bins.length (by omega) hok.len ql aq cq hql hqi _ _) ?_
 rintro _ _ R1 ⟨hR1, hQQ⟩
 obtain rfl := hR1.symm
 rcases hQQ with ⟨hpn, _, _⟩ | ⟨_, hbs, rfl, rfl⟩ | ⟨_, us, bo2, hbn, hcn, rfl, rfl⟩
 exact absurd hpw hpn
 rw [hwm, hwb] at hbs
 refine pur 3 rfl (alc rfl Z0n rfl (fun b12 => ?_))
 refine sto rfl rfl rfl Z02 rfl rfl rfl rfl ?_
 refine pur 1 rfl (Z0 (sqt 2 rfl (pur 2 rfl ?_)))
 refine Zv (rfl) ?_
 refine sqt 2 rfl (pur 2 rfl (Z1 ?_))
 exact rtB rfl rfl rfl rfl ⟨.inr ⟨ese, _, ⟨fun h => (by cases h), fun h => absurd h (ZbD hbw hbs)⟩, rfl⟩, rfl, rfl⟩ (fun w h => (((h.del b12).del b10).del b3).ftail)
 rw [hwm, hwb] at hbn
 replace hcn := Z6Z hwl hcn
 have hul := hcn.len
 rw [Za3 hwl hul, hnl, show Zi (b.withB (Zi b.bins ws)).bins us = Zi b.bins us from Z3k hwl hul]
 refine Sy.heap (H' := (b10, cel 37 (btl (b.withB (Zi b.bins ws)) ((b.withB (Zi b.bins ws)).sl (some ⟨bo, 0, none⟩) b.bins.length))) :: (b3, cel 37 (btl b (b.sl ab cb))) :: H) (R' := RowsA (some ⟨bo2, 0, none⟩) 4 (brows (Zi b.bins us)) :: RowsA (some ⟨bo, 0, none⟩) 4 (brows (Zi b.bins ws)) :: R) (fun w h => St.rows (sz := 4) (rows := brows (Zi b.bins us)) (rest := []) (by rw [List.append_nil]; exact h.pull bo2) (Z32 _)) ?_
 refine pur 3 rfl (alc rfl Z0n rfl (fun b12 => ?_))
 refine sto rfl rfl rfl Z02 rfl rfl rfl rfl ?_
 refine pur 1 rfl (Z0 (sqt 2 rfl (pur 2 rfl ?_)))
 refine ZD (rfl) ?_
 refine Z4 (Z0 (sqt 5 rfl (sp rfl (PE.fA Zj rfl) rfl (spL rfl rfl (lh Z0b rfl rfl) rfl (sp rfl (PE.fA Zj rfl) rfl (spL rfl rfl (lh Z0b rfl rfl) rfl ?_))))))
 refine clV rfl ZcG rfl rfl (Z6u (Zi b.bins us) (Zi b.bins ws) (some ⟨bo2, 0, none⟩) (some ⟨bo, 0, none⟩) b.bins.length b.bins.length (by rw [Zu hul]; exact hl) (by rw [Zu hwl]; exact hl) _ _) ?_
 refine Z2 rfl ?_ ?_ <;> intro hc5 <;> try simp only [cS] at hc5
 have hue : us = ws := Z7O hwl hul hc5
 subst hue
 refine sqt 2 rfl (pur 2 rfl (Z1 ?_))
 exact rtB rfl rfl rfl rfl ⟨.inr ⟨ese, _, ⟨fun _ => Z6C hbw hbn, fun _ => rfl⟩, rfl⟩, rfl, rfl⟩ (fun w h => (((h.del b12).del b10).del b3).ftail.ftail)
 have hne : us ≠ ws := fun e => hc5 (by rw [e])
 refine Z4 (sqr 2 rfl (spL rfl rfl (lhA (btl (b.withB (Zi b.bins us)) ((b.withB (Zi b.bins us)).sl (some ⟨bo2, 0, none⟩) b.bins.length)) Zt rfl rfl rfl) rfl ?_))
 refine sto rfl rfl rfl Z02 rfl rfl rfl rfl ?_
 refine Zd ⟨((i + 1, us), bo2), hcn, Z58 hbw hbn, .inr (Z6V hok hcw hbn)⟩ ?_ (fun w h => St.sub (h.del b12))
 dsimp only
 rw [if_neg (by omega)]
 rcases hgr with h0 | hgr
 · rw [if_pos h0]
   have := Z6l b (ws := us) (fun k hk => by obtain ⟨y, hy⟩ : ∃ y, b.bins[k]? = some y := ⟨_, List.getElem?_eq_getElem hk⟩; exact (hcn.at_ k y hy).1) hmn.2
   omega
 · have := Z8r hok hcw hcn hgr hbn hne
   split
   · have := Z6l b (ws := us) (fun k hk => by obtain ⟨y, hy⟩ : ∃ y, b.bins[k]? = some y := ⟨_, List.getElem?_eq_getElem hk⟩; exact (hcn.at_ k y hy).1) hmn.2
     omega
   · exact this
def Z0z (l : List Nat) : Nat := l.foldl (fun o k => o ||| (1 * 2 ^ k)) 0
theorem Z8c (l : List Nat) (k : Nat) : Z0z (l ++ [k]) = Z0z l ||| (1 * 2 ^ k) := by unfold Z0z; rw [List.foldl_append]; rfl
theorem Z6i : ∀ (l : List Nat) (o j : Nat), (l.foldl (fun o k => o ||| (1 * 2 ^ k)) o).testBit j = (o.testBit j || decide (j ∈ l))
  | [], o, j => by simp
  | k :: l, o, j => by
    rw [List.foldl_cons, Z6i l, Nat.testBit_or, Nat.one_mul, Nat.testBit_two_pow]
    by_cases h : k = j
    · subst h; simp
    · have h' : ¬ j = k := fun e => h e.symm
      simp [h, h']
theorem Z1Q (l : List Nat) (j : Nat) : (Z0z l).testBit j = decide (j ∈ l) := by unfold Z0z; rw [Z6i]; simp
theorem Z48 {l : List Nat} {m : Nat} (h : ∀ k ∈ l, k < m) : Z0z l < 2 ^ m := by
  apply Nat.lt_pow_two_of_testBit
  intro i hi
  rw [Z1Q]
  have : i ∉ l := fun hm => by have := h i hm; omega
  simpa using this
theorem Z3h {s K : Nat} (h : s < 2 ^ K) : ∀ j, ZF (K + j) s = ZF K s
  | 0 => rfl
  | j + 1 => by
    rw [show K + (j + 1) = (K + j) + 1 from rfl, Z36, Z3h h j, Nat.testBit_lt_two_pow (Nat.lt_of_lt_of_le h (Nat.pow_le_pow_right (by decide) (by omega)))]
    exact List.append_nil _
theorem Z4M {s K n : Nat} (h : s < 2 ^ K) (h' : s < 2 ^ n) : ZF K s = ZF n s := by
  rcases Nat.le_total K n with h1 | h1
  · obtain ⟨j, rfl⟩ : ∃ j, n = K + j := ⟨n - K, by omega⟩
    exact (Z3h h j).symm
  · obtain ⟨j, rfl⟩ : ∃ j, K = n + j := ⟨K - n, by omega⟩
    exact Z3h h' j
theorem Z9a {n i : Nat} : ZF n (Z0z (ZF n i)) = ZF n i := by
  unfold ZF
  refine List.filter_congr fun k hk => ?_
  rw [Z1Q]
  have hk := List.mem_range.1 hk
  have : (k ∈ (List.range n).filter fun k => i.testBit k) ↔ i.testBit k = true := by rw [List.mem_filter, List.mem_range]; simp [hk]
  by_cases h : i.testBit k = true
  · rw [h]; simpa using this.2 h
  · have h2 : i.testBit k = false := by simpa using h
    rw [h2]; simpa using fun hm => h (this.1 hm)
theorem Zcg (l : List Nat) (hl : ∀ k ∈ l, k < 4) (hll : l.length ≤ 1000000) (a : Option Addr) (c : Nat) (H : Z7) (R : Z5) [hL : MemRows a 1 (Zn (il l)) R] :
    FnV Tryz.prog 87 [.slice a l.length c] H R (.int .i64 (Z0z l : Nat)) := by
 refine Z9 Tryz.func87 rfl Tryz.ntmps87 rfl ?_
 refine sqt 1 rfl (pur 1 rfl (sqt 1 rfl (pur 1 rfl (Z0 (sqt 3 rfl (pur 1 rfl (sp rfl (PE.lenSl Z1u rfl) rfl (pur 1 rfl (Z3 ?_)))))))))
 refine Ze (ι := {k : Nat // k ≤ l.length}) (fun k => ⟨[(3, .int .i64 (Z0z (l.take k.1) : Nat)), (6, .slice a l.length c), (7, .int .i64 l.length), (8, .int .i64 k.1)], H, R⟩) (fun k => l.length - k.1) ⟨0, Nat.zero_le _⟩ ?_ (fun k => ?_)
 exact Zl idH
 obtain ⟨k, hk⟩ := k
 dsimp only at hk ⊢
 refine sqt 1 rfl (pur 1 rfl (Z0 ?_))
 refine Z2 rfl ?_ ?_ <;> intro hc0 <;> try simp only [cS] at hc0
 obtain ⟨j, hj⟩ : ∃ j, l[k]? = some j := ⟨_, List.getElem?_eq_getElem (by omega)⟩
 have hj4 := hl j (List.mem_of_getElem? hj)
 have hlt : Z0z (l.take k) < 2 ^ 4 := Z48 fun i hi => hl i (List.mem_of_mem_take hi)
 have hj16 : 2 ^ j ≤ 8 := Nat.le_trans (Nat.pow_le_pow_right (by decide) (show j ≤ 3 by omega)) (by decide)
 refine Zp (a := a) (sz := 1) (rows := Zn (il l)) (by intro h0; have := congrArg List.length h0; rw [Zq, Z8n] at this; simp only [List.length_nil] at this; omega) (fun ba oa he => ?_)
 subst he
 refine Z4 (Z0 (Z3 (sqt 3 rfl (sp rfl (PE.indexAddr Z5z rfl rfl (by omega) (by omega)) rfl (spL rfl rfl (lf0 sc3 (Z5i (x := (j : Int)) (by simp [il, hj])) rfl) rfl (pur 1 rfl (sqr 5 rfl (pur 2 rfl (sp rfl (PE.shlN (m := 1) (n := j) rfl rfl rfl (by omega) (by omega)) rfl (sp rfl (PE.orN (m := Z0z (l.take k)) (n := 1 * 2 ^ j) rfl rfl (by omega) (by omega)) rfl (pur 1 rfl (sqr 2 rfl (sp rfl (PE.add rfl rfl (by omega)) rfl (pur 1 rfl ?_))))))))))))))
 exact ZW ⟨k + 1, by omega⟩ (by dsimp only; omega) (by rw [ZY hj, Z8c]; exact (by repeat' first | exact Sub.nil | apply Sub.cons | rfl | (simp [lk]; omega))) idH
 obtain rfl : k = l.length := by omega
 rw [List.take_length]
 refine Zb (Zc (Zc (ZA (sqt 2 rfl (pur 2 rfl (Z1 ?_))))))
 exact rtA rfl rfl rfl ⟨rfl, rfl, rfl⟩ idH
theorem ZdP (s : Nat) (hs : s < 2 ^ 4) (H : Z7) (R : Z5) :
    Fn Tryz.prog 88 [.int .i64 s] H R (fun v H' R' => ∃ o : OSl 3 1 (Zn (il (ZF 4 s))), v = o.fs ∧ H' = o.G ++ H ∧ R' = R) := by
 refine Z9 Tryz.func88 rfl Tryz.ntmps88 rfl ?_
 refine sqt 1 rfl (pur 1 rfl (sqt 1 rfl (pur 1 rfl (Z0 (sqt 1 rfl (pur 1 rfl (Z3 ?_)))))))
 refine Ze (ι := (k : {k : Nat // k ≤ 4}) × OSl 3 1 (Zn (il (ZF k.1 s)))) (fun x => ⟨[(0, .int .i64 s), (3, x.2.fs), (4, .int .i64 x.1.1)], x.2.G ++ H, R⟩) (fun x => 4 - x.1.1) ⟨⟨0, by omega⟩, OSl.nil _ _⟩ ?_ (fun x => ?_)
 exact Zl idH
 obtain ⟨⟨k, hk⟩, o⟩ := x
 dsimp only at hk o ⊢
 have eb := Z36 k s
 refine Z0 (sqt 4 rfl (pur 2 rfl (sp rfl (PE.shrN (m := s) (n := k) rfl rfl (by omega)) rfl (pur 1 rfl ?_))))
 refine Z2 rfl ?_ ?_ <;> intro hc0 <;> try simp only [cS] at hc0
 have hk4 : k < 4 := by
   rcases Nat.lt_or_ge k 4 with h1 | h1
   · exact h1
   · obtain rfl : k = 4 := by omega
     have : s >>> 4 = 0 := by rw [Nat.shiftRight_eq_div_pow]; exact Nat.div_eq_of_lt hs
     omega
 refine Z4 (Z0 (Z3 (sqt 5 rfl (pur 2 rfl (sp rfl (PE.shrN (m := s) (n := k) rfl rfl (by omega)) rfl (sp rfl (PE.andN (m := s >>> k) (n := 1) rfl rfl rfl (Nat.le_trans (Nat.shiftRight_le _ _) (by omega)) (by decide)) rfl (pur 1 rfl ?_)))))))
 refine Z2 rfl ?_ ?_ <;> intro hc1
 rw [Z4s] at hc1
 rw [hc1, cond_true] at eb
 refine sqr 5 rfl (pur 2 rfl ?_)
 refine bsl (out := [_]) rfl Z5A zl3 rfl rfl rfl rfl rfl rfl (fun b18 => ?_)
 refine apO (o) rfl Zfw rfl rfl (Z3g (row := [.int .i64 k]) rfl) rfl rfl ((by have := Z0X k s; simp only [Zn, il, List.length_map, List.length_singleton]; omega)) rfl (fun o19 => ?_)
 refine pur 1 rfl (sqr 3 rfl (pur 1 rfl (sp rfl (PE.add rfl rfl (by omega)) rfl (pur 1 rfl ?_))))
 first
   | exact Zd ⟨⟨k + 1, by omega⟩, o19.cast (by rw [eb]; simp [Zn, il])⟩ (by dsimp only; omega) (fun w h => h.del b18)
   | exact Zd ⟨⟨k + 1, by omega⟩, o.cast (by rw [eb])⟩ (by dsimp only; omega) idH
 rw [Z4s] at hc1
 rw [hc1, cond_false, List.append_nil] at eb
 refine Z4 (sqr 3 rfl (pur 1 rfl (sp rfl (PE.add rfl rfl (by omega)) rfl (pur 1 rfl ?_))))
 first
   | exact Zd ⟨⟨k + 1, by omega⟩, o19.cast (by rw [eb]; simp [Zn, il])⟩ (by dsimp only; omega) (fun w h => h.del b18)
   | exact Zd ⟨⟨k + 1, by omega⟩, o.cast (by rw [eb])⟩ (by dsimp only; omega) idH
 have hz : s < 2 ^ k := by
   rcases Nat.lt_or_ge s (2 ^ k) with h1 | h1
   · exact h1
   · have : 1 ≤ s >>> k := by rw [Nat.shiftRight_eq_div_pow]; exact (Nat.one_le_div_iff (Nat.two_pow_pos k)).2 h1
     omega
 refine Zb (Zc (Zc (ZA (sqt 2 rfl (pur 2 rfl (Z1 ?_))))))
 exact rtA rfl rfl rfl ⟨o.cast (by rw [Z4M hz hs]), rfl, rfl, rfl⟩ idH
end Go.Proofs.YtelnhmimhfjacaaGreat.Ht
