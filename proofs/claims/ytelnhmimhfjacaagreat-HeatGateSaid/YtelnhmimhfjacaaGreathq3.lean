/- Walks of the functions of the program, and the laws that join them: what the last theorem of this claim needs, in order. -/
import Derived.Test.YtelnhmimhfjacaaGreathq2
namespace Go.Proofs.YtelnhmimhfjacaaGreat.Gt
set_option linter.unusedSimpArgs false
set_option linter.unusedVariables false
open Go
theorem Zdi : arE Tryz.prog 29 = some (4, 3) := by kernel_rfl
theorem Z0s : cal Tryz.prog 17 = true := by kernel_rfl
theorem Z2v : cal Tryz.prog 18 = true := by kernel_rfl
theorem Zbw : cal Tryz.prog 42 = true := by kernel_rfl
theorem ZeR : cal Tryz.prog 43 = true := by kernel_rfl
theorem Zcc : ZT Tryz.prog 29 = some 4 := by kernel_rfl
theorem cn3 : ZT Tryz.prog 3 = some 1 := by kernel_rfl
theorem Zb4 : ZT Tryz.prog 71 = some 1 := by kernel_rfl
theorem Zet : elN Tryz.prog 22 = some 1 := by kernel_rfl
theorem ZfD : eqB Tryz.prog 10000 3 = some (false, 1) := by kernel_rfl
theorem Z1O : Z0w Tryz.prog 73 0 = some 0 := by kernel_rfl
theorem Z0B : Z0w Tryz.prog 73 1 = some 1 := by kernel_rfl
theorem ZG : Z0w Tryz.prog 73 2 = some 2 := by kernel_rfl
theorem ik3 : Zat Tryz.prog 3 = some .i64 := by kernel_rfl
theorem ZdD : Zat Tryz.prog 71 = some .u32 := by kernel_rfl
theorem Z4k : Z7v Tryz.prog 22 = true := by kernel_rfl
theorem ZfU : Z0c Tryz.prog 43 = some [(0, 1), (1, 4)] := by kernel_rfl
theorem Zf6 : Z0c Tryz.prog 73 = some [(0, 1), (1, 1), (2, 1)] := by kernel_rfl
theorem Z9j : Z1v Tryz.prog 22 = true := by kernel_rfl
theorem sc5 : Z1v Tryz.prog 5 = true := by kernel_rfl
theorem Z34 : Z1v Tryz.prog 71 = true := by kernel_rfl
theorem us3 : (Tryz.prog.underlying 3).isSome = true := by kernel_rfl
theorem us5 : (Tryz.prog.underlying 5).isSome = true := by kernel_rfl
theorem Z9N : (Tryz.prog.underlying 71).isSome = true := by kernel_rfl
theorem Zca : ZE Tryz.prog 29 = some ([.int .i64 0, .int .i64 0, .int .i64 0, .int .i64 0]) := by kernel_rfl
theorem Zft : ZE Tryz.prog 73 = some ([.slice none 0 0, .int .i64 0, .int .u32 0]) := by kernel_rfl
def urow (x : Int) : List Value := [.int .u8 x]
def urows (l : List Int) : List (List Value) := l.map urow
theorem c_Fill (g : List Int) (ag : Option Addr) (cg : Nat) (hgl : g.length ≤ 9223372036854775807) (H : Z7) (R : Z5) :
    Fn Tryz.prog 5 [.slice ag g.length cg] H R (fun v H' R' => ∃ bk, ∃ mx : Int, (0 ≤ mx ∧ mx ≤ 4294967295) ∧ v = .pointer (some ⟨bk, 0, none⟩) ∧ H' = (bk, cel 73 [.slice ag g.length cg, .int .i64 (0), .int .u32 (mx)]) :: H ∧ R' = R) := by
 refine Z9 Tryz.func5 rfl Tryz.ntmps5 rfl ?_
 refine sqt 1 rfl (pur 1 rfl (sqt 8 rfl (pur 2 rfl (sp rfl (PE.lenSl Z4k rfl) rfl ?_))))
 refine spE rfl (PE.convU us3 ZdD rfl) rfl ?_
 rintro _ ⟨u6, rfl, hu6⟩
 refine spE rfl (PE.xorU rfl rfl) rfl ?_
 rintro _ ⟨u7, rfl, hu7⟩
 refine sp rfl (PE.build (out := [_, _, _]) Zf6 Zft rfl rfl) rfl (bx rfl rfl rfl (fun b9 => pur 1 rfl (Z1 ?_)))
 exact rtA rfl rfl rfl ⟨b9, u7, hu7, rfl, rfl, rfl⟩ idH
theorem Z3m (g : List Int) (ag : Option Addr) (cg bk : Nat) (hgl : g.length ≤ 9223372036854775807) (tq mx : Int) (htq : 0 ≤ tq ∧ tq ≤ 1000000000) (hmx : 0 ≤ mx ∧ mx ≤ 4294967295) (H : Z7) (R : Z5) [hG : MemRows ag 1 (urows g) R] :
    Fn Tryz.prog 42 [.pointer (some ⟨bk, 0, none⟩)] ((bk, cel 73 [.slice ag g.length cg, .int .i64 (tq), .int .u32 (mx)]) :: H) R (fun v H' R' => ∃ x m' : Int, (0 ≤ x ∧ x ≤ 65535) ∧ v = .int .i64 x ∧ (0 ≤ m' ∧ m' ≤ 4294967295) ∧ H' = (bk, cel 73 [.slice ag g.length cg, .int .i64 (tq + 1), .int .u32 (m')]) :: H ∧ R' = R) := by
 refine Z9 Tryz.func42 rfl Tryz.ntmps42 rfl ?_
 refine sqt 1 rfl (pur 1 rfl (Z0 (sqt 6 rfl (pur 1 rfl (sp rfl (PE.nilCheck rfl) rfl (sp rfl (PE.fA Z1O rfl) rfl (spL rfl rfl (lh Z9j rfl rfl) rfl (sp rfl (PE.lenSl Z4k rfl) rfl (pur 1 rfl (sqt 2 rfl (pur 2 rfl ?_)))))))))))
 refine Z2 rfl ?_ ?_ <;> intro hc0 <;> try simp only [cS] at hc0
 obtain ⟨y, hy⟩ : ∃ y, g[(tq % g.length).toNat]? = some y := ⟨_, List.getElem?_eq_getElem (by have := Int.emod_lt_of_pos tq hc0; have := Int.emod_nonneg tq (show (g.length : Int) ≠ 0 by omega); omega)⟩
 refine Zp (a := ag) (sz := 1) (rows := urows g) (by intro h0; simp [urows] at h0; simp [h0] at hy) (fun bgr ogr he => ?_)
 subst he
 refine Z8 [0, 0, 2, 6, 14, 0, 32, 96, 224, 0, 512, 1536, 3584, 0, 15872, 32736, 65504, 131040, 262142, 524286, 1048575, 2097151, 4194303] (tks 0 4 (.ld 4 (tks 5 3 (.ld 8 (tks 9 3 (.ld 12 (tks 13 3 (.ld 16 (tks 17 5 (.big 22 .done)))))))))) Zr (by kernel_rfl) ?_
 refine Zg 2 rfl (tk rfl (PE.nilCheck rfl) rfl (tk rfl (PE.fA ZG rfl) rfl (ld rfl rfl (lh Z34 rfl rfl) rfl (Zg 1 rfl (tk rfl (PE.nilCheck rfl) rfl (tk rfl (PE.fA Z1O rfl) rfl (ld rfl rfl (lh Z9j rfl rfl) rfl (Zg 1 rfl (tk rfl (PE.nilCheck rfl) rfl (tk rfl (PE.fA Z0B rfl) rfl (ld rfl rfl (lh sc3 rfl rfl) rfl (Zg 1 rfl (tk rfl (PE.rem rfl rfl (by omega)) rfl (tk rfl (PE.indexAddr Zet rfl rfl (by exact Int.emod_nonneg tq (by omega)) (by exact Int.emod_lt_of_pos tq hc0)) rfl (ld rfl rfl (lf0 (x := .int .u8 y) sc5 (by simp [urows, urow, hy]; rfl) rfl) rfl ?_)))))))))))))))
 refine tkE rfl (PE.convU us5 ZdD rfl) rfl ?_
 rintro _ ⟨u28, rfl, hu28⟩
 refine tkE rfl (PE.xorU rfl rfl) rfl ?_
 rintro _ ⟨u29, rfl, hu29⟩
 refine tkE rfl (PE.mulU rfl rfl) rfl ?_
 rintro _ ⟨u30, rfl, hu30⟩
 refine tk rfl (PE.nilCheck rfl) rfl (tk rfl (PE.fA ZG rfl) rfl ?_)
 refine sto rfl rfl rfl Zb4 rfl rfl rfl rfl ?_
 refine bgT (sqt 8 rfl (pur 1 rfl (sp rfl (PE.nilCheck rfl) rfl (sp rfl (PE.fA Z0B rfl) rfl (spL rfl rfl (lh sc3 rfl rfl) rfl (sp rfl (PE.add rfl rfl (by omega)) rfl (sp rfl (PE.nilCheck rfl) rfl (sp rfl (PE.fA Z0B rfl) rfl ?_))))))))
 refine sto rfl rfl rfl cn3 rfl rfl rfl rfl ?_
 refine Z0 (Z0 ?_)
 refine Z8 [0, 1, 3, 7, 0, 16, 48, 112, 240, 511] (tks 0 3 (.ld 3 (tks 4 3 (.ld 7 (.tk 8 (.tk 9 .done)))))) Zr (by kernel_rfl) ?_
 refine Zg 1 rfl (tk rfl (PE.nilCheck rfl) rfl (tk rfl (PE.fA Z0B rfl) rfl (ld rfl rfl (lh sc3 rfl rfl) rfl (Zg 1 rfl (tk rfl (PE.nilCheck rfl) rfl (tk rfl (PE.fA Z1O rfl) rfl (ld rfl rfl (lh Z9j rfl rfl) rfl (tk rfl (PE.lenSl Z4k rfl) rfl (Zg 1 rfl ?_)))))))))
 refine Z2 rfl ?_ ?_ <;> intro hc1 <;> try simp only [cS] at hc1
 refine sqr 10 rfl (pur 2 rfl (sp rfl (PE.nilCheck rfl) rfl (sp rfl (PE.fA ZG rfl) rfl (spL rfl rfl (lh Z34 rfl rfl) rfl ?_))))
 refine spE rfl (PE.mulU rfl rfl) rfl ?_
 rintro _ ⟨u55, rfl, hu55⟩
 refine spE rfl (PE.addU rfl rfl) rfl ?_
 rintro _ ⟨u56, rfl, hu56⟩
 refine sp rfl (PE.nilCheck rfl) rfl (sp rfl (PE.fA ZG rfl) rfl ?_)
 refine sto rfl rfl rfl Zb4 rfl rfl rfl rfl ?_
 refine Z0 ?_
 refine Z8 [0, 1, 3, 7, 0, 16, 48, 112, 240, 511, 1023, 2047, 4095, 8191] (tks 0 3 (.ld 3 (tks 4 3 (.ld 7 (tks 8 6 .done))))) Zr (by kernel_rfl) ?_
 refine Zg 1 rfl (tk rfl (PE.nilCheck rfl) rfl (tk rfl (PE.fA ZG rfl) rfl (ld rfl rfl (lh Z34 rfl rfl) rfl (Zg 1 rfl (tk rfl (PE.nilCheck rfl) rfl (tk rfl (PE.fA ZG rfl) rfl (ld rfl rfl (lh Z34 rfl rfl) rfl ?_)))))))
 refine tkE rfl (PE.shrU rfl rfl (by decide) (by omega) (by omega)) rfl ?_
 rintro _ ⟨u67, rfl, hu67⟩
 refine tkE rfl (PE.xorU rfl rfl) rfl ?_
 rintro _ ⟨u68, rfl, hu68⟩
 refine tkE rfl (PE.shrU rfl rfl (by decide) (by omega) (by omega)) rfl ?_
 rintro _ ⟨u69, rfl, hu69⟩
 refine tkE rfl (PE.andU rfl rfl (by decide) (by decide)) rfl ?_
 rintro _ ⟨u70, rfl, hu70⟩
 refine tk rfl (PE.conv64 Z9N ik3 rfl (by omega)) rfl (Zg 1 rfl (Z1 ?_))
 first
   | exact rtA rfl rfl rfl ⟨u70, _, hu70, rfl, hu56, rfl, rfl⟩ idH
   | exact rtA rfl rfl rfl ⟨u70, _, hu70, rfl, hu30, rfl, rfl⟩ idH
   | exact rtA rfl rfl rfl ⟨u70, _, hu70, rfl, hmx, rfl, rfl⟩ idH
 refine Z4 (Z0 ?_)
 refine Z8 [0, 1, 3, 7, 0, 16, 48, 112, 240, 511, 1023, 2047, 4095, 8191] (tks 0 3 (.ld 3 (tks 4 3 (.ld 7 (tks 8 6 .done))))) Zr (by kernel_rfl) ?_
 refine Zg 1 rfl (tk rfl (PE.nilCheck rfl) rfl (tk rfl (PE.fA ZG rfl) rfl (ld rfl rfl (lh Z34 rfl rfl) rfl (Zg 1 rfl (tk rfl (PE.nilCheck rfl) rfl (tk rfl (PE.fA ZG rfl) rfl (ld rfl rfl (lh Z34 rfl rfl) rfl ?_)))))))
 refine tkE rfl (PE.shrU rfl rfl (by decide) (by omega) (by omega)) rfl ?_
 rintro _ ⟨u67, rfl, hu67⟩
 refine tkE rfl (PE.xorU rfl rfl) rfl ?_
 rintro _ ⟨u68, rfl, hu68⟩
 refine tkE rfl (PE.shrU rfl rfl (by decide) (by omega) (by omega)) rfl ?_
 rintro _ ⟨u69, rfl, hu69⟩
 refine tkE rfl (PE.andU rfl rfl (by decide) (by decide)) rfl ?_
 rintro _ ⟨u70, rfl, hu70⟩
 refine tk rfl (PE.conv64 Z9N ik3 rfl (by omega)) rfl (Zg 1 rfl (Z1 ?_))
 first
   | exact rtA rfl rfl rfl ⟨u70, _, hu70, rfl, hu56, rfl, rfl⟩ idH
   | exact rtA rfl rfl rfl ⟨u70, _, hu70, rfl, hu30, rfl, rfl⟩ idH
   | exact rtA rfl rfl rfl ⟨u70, _, hu70, rfl, hmx, rfl, rfl⟩ idH
 refine Z4 (sqt 8 rfl (pur 1 rfl (sp rfl (PE.nilCheck rfl) rfl (sp rfl (PE.fA Z0B rfl) rfl (spL rfl rfl (lh sc3 rfl rfl) rfl (sp rfl (PE.add rfl rfl (by omega)) rfl (sp rfl (PE.nilCheck rfl) rfl (sp rfl (PE.fA Z0B rfl) rfl ?_))))))))
 refine sto rfl rfl rfl cn3 rfl rfl rfl rfl ?_
 refine Z0 (Z0 ?_)
 refine Z8 [0, 1, 3, 7, 0, 16, 48, 112, 240, 511] (tks 0 3 (.ld 3 (tks 4 3 (.ld 7 (.tk 8 (.tk 9 .done)))))) Zr (by kernel_rfl) ?_
 refine Zg 1 rfl (tk rfl (PE.nilCheck rfl) rfl (tk rfl (PE.fA Z0B rfl) rfl (ld rfl rfl (lh sc3 rfl rfl) rfl (Zg 1 rfl (tk rfl (PE.nilCheck rfl) rfl (tk rfl (PE.fA Z1O rfl) rfl (ld rfl rfl (lh Z9j rfl rfl) rfl (tk rfl (PE.lenSl Z4k rfl) rfl (Zg 1 rfl ?_)))))))))
 refine Z2 rfl ?_ ?_ <;> intro hc1 <;> try simp only [cS] at hc1
 refine sqr 10 rfl (pur 2 rfl (sp rfl (PE.nilCheck rfl) rfl (sp rfl (PE.fA ZG rfl) rfl (spL rfl rfl (lh Z34 rfl rfl) rfl ?_))))
 refine spE rfl (PE.mulU rfl rfl) rfl ?_
 rintro _ ⟨u55, rfl, hu55⟩
 refine spE rfl (PE.addU rfl rfl) rfl ?_
 rintro _ ⟨u56, rfl, hu56⟩
 refine sp rfl (PE.nilCheck rfl) rfl (sp rfl (PE.fA ZG rfl) rfl ?_)
 refine sto rfl rfl rfl Zb4 rfl rfl rfl rfl ?_
 refine Z0 ?_
 refine Z8 [0, 1, 3, 7, 0, 16, 48, 112, 240, 511, 1023, 2047, 4095, 8191] (tks 0 3 (.ld 3 (tks 4 3 (.ld 7 (tks 8 6 .done))))) Zr (by kernel_rfl) ?_
 refine Zg 1 rfl (tk rfl (PE.nilCheck rfl) rfl (tk rfl (PE.fA ZG rfl) rfl (ld rfl rfl (lh Z34 rfl rfl) rfl (Zg 1 rfl (tk rfl (PE.nilCheck rfl) rfl (tk rfl (PE.fA ZG rfl) rfl (ld rfl rfl (lh Z34 rfl rfl) rfl ?_)))))))
 refine tkE rfl (PE.shrU rfl rfl (by decide) (by omega) (by omega)) rfl ?_
 rintro _ ⟨u67, rfl, hu67⟩
 refine tkE rfl (PE.xorU rfl rfl) rfl ?_
 rintro _ ⟨u68, rfl, hu68⟩
 refine tkE rfl (PE.shrU rfl rfl (by decide) (by omega) (by omega)) rfl ?_
 rintro _ ⟨u69, rfl, hu69⟩
 refine tkE rfl (PE.andU rfl rfl (by decide) (by decide)) rfl ?_
 rintro _ ⟨u70, rfl, hu70⟩
 refine tk rfl (PE.conv64 Z9N ik3 rfl (by omega)) rfl (Zg 1 rfl (Z1 ?_))
 first
   | exact rtA rfl rfl rfl ⟨u70, _, hu70, rfl, hu56, rfl, rfl⟩ idH
   | exact rtA rfl rfl rfl ⟨u70, _, hu70, rfl, hu30, rfl, rfl⟩ idH
   | exact rtA rfl rfl rfl ⟨u70, _, hu70, rfl, hmx, rfl, rfl⟩ idH
 refine Z4 (Z0 ?_)
 refine Z8 [0, 1, 3, 7, 0, 16, 48, 112, 240, 511, 1023, 2047, 4095, 8191] (tks 0 3 (.ld 3 (tks 4 3 (.ld 7 (tks 8 6 .done))))) Zr (by kernel_rfl) ?_
 refine Zg 1 rfl (tk rfl (PE.nilCheck rfl) rfl (tk rfl (PE.fA ZG rfl) rfl (ld rfl rfl (lh Z34 rfl rfl) rfl (Zg 1 rfl (tk rfl (PE.nilCheck rfl) rfl (tk rfl (PE.fA ZG rfl) rfl (ld rfl rfl (lh Z34 rfl rfl) rfl ?_)))))))
 refine tkE rfl (PE.shrU rfl rfl (by decide) (by omega) (by omega)) rfl ?_
 rintro _ ⟨u67, rfl, hu67⟩
 refine tkE rfl (PE.xorU rfl rfl) rfl ?_
 rintro _ ⟨u68, rfl, hu68⟩
 refine tkE rfl (PE.shrU rfl rfl (by decide) (by omega) (by omega)) rfl ?_
 rintro _ ⟨u69, rfl, hu69⟩
 refine tkE rfl (PE.andU rfl rfl (by decide) (by decide)) rfl ?_
 rintro _ ⟨u70, rfl, hu70⟩
 refine tk rfl (PE.conv64 Z9N ik3 rfl (by omega)) rfl (Zg 1 rfl (Z1 ?_))
 first
   | exact rtA rfl rfl rfl ⟨u70, _, hu70, rfl, hu56, rfl, rfl⟩ idH
   | exact rtA rfl rfl rfl ⟨u70, _, hu70, rfl, hu30, rfl, rfl⟩ idH
   | exact rtA rfl rfl rfl ⟨u70, _, hu70, rfl, hmx, rfl, rfl⟩ idH
theorem ZC (g : List Int) (ag : Option Addr) (cg bk : Nat) (hgl : g.length ≤ 9223372036854775807) (tq mx : Int) (htq : 0 ≤ tq ∧ tq ≤ 1000000000) (hmx : 0 ≤ mx ∧ mx ≤ 4294967295) (n : Int) (H : Z7) (R : Z5) [hG : MemRows ag 1 (urows g) R] :
    Fn Tryz.prog 17 [.pointer (some ⟨bk, 0, none⟩), .int .i64 n] ((bk, cel 73 [.slice ag g.length cg, .int .i64 (tq), .int .u32 (mx)]) :: H) R (fun v H' R' => ∃ x m' : Int, (0 ≤ x ∧ x < max 1 n) ∧ v = .int .i64 x ∧ (0 ≤ m' ∧ m' ≤ 4294967295) ∧ H' = (bk, cel 73 [.slice ag g.length cg, .int .i64 (tq + 1), .int .u32 (m')]) :: H ∧ R' = R) := by
 refine Z9 Tryz.func17 rfl Tryz.ntmps17 rfl ?_
 refine sqt 1 rfl (pur 1 rfl (sqt 6 rfl (pur 1 rfl ?_)))
 refine cl rfl Zbw rfl rfl (Z3m g ag cg bk hgl tq mx htq hmx _ _) ?_
 rintro _ _ _ ⟨x, m', hx, rfl, hm', rfl, rfl⟩
 refine pur 1 rfl (sp rfl (PE.max rfl rfl) rfl (sp rfl (PE.rem rfl rfl (by omega)) rfl (pur 1 rfl (Z1 ?_))))
 exact rtA rfl rfl rfl ⟨_, m', ⟨Int.emod_nonneg _ (by omega), Int.emod_lt_of_pos _ (by omega)⟩, rfl, hm', rfl, rfl⟩ idH
theorem Z0o (g : List Int) (ag : Option Addr) (cg bk : Nat) (hgl : g.length ≤ 9223372036854775807) (tq mx : Int) (htq : 0 ≤ tq ∧ tq ≤ 1000000000) (hmx : 0 ≤ mx ∧ mx ≤ 4294967295) (lo hi : Int) (hb : -1000000 ≤ lo ∧ lo ≤ 1000000 ∧ -1000000 ≤ hi ∧ hi ≤ 1000000) (H : Z7) (R : Z5) [hG : MemRows ag 1 (urows g) R] :
    Fn Tryz.prog 18 [.pointer (some ⟨bk, 0, none⟩), .int .i64 lo, .int .i64 hi] ((bk, cel 73 [.slice ag g.length cg, .int .i64 (tq), .int .u32 (mx)]) :: H) R (fun v H' R' => ∃ x m' : Int, (lo ≤ x ∧ x < lo + max 1 (hi - lo + 1)) ∧ v = .int .i64 x ∧ (0 ≤ m' ∧ m' ≤ 4294967295) ∧ H' = (bk, cel 73 [.slice ag g.length cg, .int .i64 (tq + 1), .int .u32 (m')]) :: H ∧ R' = R) := by
 refine Z9 Tryz.func18 rfl Tryz.ntmps18 rfl ?_
 refine sqt 1 rfl (pur 1 rfl (sqt 9 rfl (pur 4 rfl (sp rfl (PE.sub rfl rfl (by omega)) rfl (sp rfl (PE.add rfl rfl (by omega)) rfl ?_)))))
 refine cl rfl Z0s rfl rfl (ZC g ag cg bk hgl tq mx htq hmx (hi - lo + 1) _ _) ?_
 rintro _ _ _ ⟨x, m', hx, rfl, hm', rfl, rfl⟩
 refine sp rfl (PE.add rfl rfl (by omega)) rfl (pur 1 rfl (Z1 ?_))
 exact rtA rfl rfl rfl ⟨lo + x, m', ⟨by omega, by omega⟩, rfl, hm', rfl, rfl⟩ idH
theorem ZdI (g : List Int) (ag : Option Addr) (cg bk : Nat) (hgl : g.length ≤ 9223372036854775807) (tq mx : Int) (htq : 0 ≤ tq ∧ tq ≤ 1000000000) (hmx : 0 ≤ mx ∧ mx ≤ 4294967295) (n : Int) (H : Z7) (R : Z5) [hG : MemRows ag 1 (urows g) R] :
    Fn Tryz.prog 43 [.pointer (some ⟨bk, 0, none⟩), .int .i64 n] ((bk, cel 73 [.slice ag g.length cg, .int .i64 (tq), .int .u32 (mx)]) :: H) R (fun v H' R' => ∃ (x : Bool) (m' : Int), v = .bool x ∧ (0 ≤ m' ∧ m' ≤ 4294967295) ∧ H' = (bk, cel 73 [.slice ag g.length cg, .int .i64 (tq + 1), .int .u32 (m')]) :: H ∧ R' = R) := by
 refine Z9 Tryz.func43 rfl Tryz.ntmps43 rfl ?_
 refine sqt 1 rfl (pur 1 rfl (sqt 5 rfl (pur 2 rfl ?_)))
 refine cl rfl Z0s rfl rfl (ZC g ag cg bk hgl tq mx htq hmx n _ _) ?_
 rintro _ _ _ ⟨x, m', hx, rfl, hm', rfl, rfl⟩
 refine pur 2 rfl (Z1 ?_)
 exact rtA rfl rfl rfl ⟨_, m', rfl, hm', rfl, rfl⟩ idH
theorem Z9Q {j k : Nat} (hk : k < 3) (e : j = k) : [Value.int .i64 3, .int .i64 2, .int .i64 1][j]? = some (.int .i64 ((3 - k : Nat) : Int)) := by
  subst e
  revert hk
  rcases j with _ | _ | _ | j <;> intro hk
  · rfl
  · rfl
  · rfl
  · omega
structure MxI (k : Nat) (l : List Int) (left : Int) : Prop where
  len : l.length = 4
  sum : Z1R l + left = 40
  at_ : ∀ j < 4, 0 ≤ nn l j ∧ nn l j ≤ 40
  lo : 0 ≤ left ∧ left ≤ 40
  zero : ∀ j < 4, j + k ≤ 3 → nn l j = 0
theorem MxI.start : MxI 0 [0, 0, 0, 0] 40 := ⟨rfl, rfl, of4 ⟨by decide, by decide, by decide, by decide⟩, by omega, of4 ⟨fun _ => rfl, fun _ => rfl, fun _ => rfl, fun _ => rfl⟩⟩
theorem MxI.more {k : Nat} {l : List Int} {left v : Int} (h : MxI k l left) (hk : k < 3) (hv : 0 ≤ v ∧ v ≤ left) : MxI (k + 1) (l.set (3 - k) v) (left - v) := by
  have hlo := h.lo
  have hz := h.zero (3 - k) (by omega) (by omega)
  have hs := h.sum
  have hset : ∀ j, nn (l.set (3 - k) v) j = bif 3 - k == j then v else nn l j := fun j => Z0Q (by rw [h.len]; omega)
  refine ⟨by simp [h.len], by rw [Z2g h.len (by omega)]; omega, fun j hj => ?_, by omega, fun j hj hjk => ?_⟩
  · rw [hset]
    cases 3 - k == j
    · exact h.at_ j hj
    · simp only [cond_true]; omega
  · rw [hset, show (3 - k == j) = false from by simp; omega]
    exact h.zero j hj (by omega)
theorem MxI.done {l : List Int} {left : Int} (h : MxI 3 l left) : Mxt (l.set 0 left) := by
  have hlo := h.lo
  have hz := h.zero 0 (by omega) (by omega)
  have hs := h.sum
  refine ⟨by simp [h.len], by rw [Z2g h.len (by omega)]; omega, fun j hj => ?_⟩
  rw [Z0Q (by rw [h.len]; omega)]
  cases (0 : Nat) == j
  · exact h.at_ j hj
  · simp only [cond_true]; omega
theorem Zc0 {m : Mix} (hm : Mxt m) {k : Nat} (hk : k < 4) : Mxt ((m.set 0 (nn m k)).set k (nn m 0)) := by
  obtain ⟨a, b, c, d, rfl⟩ := Z0x hm.len
  have hs := hm.sum
  have h4 := Z5q hm.at_
  simp only [Z1R, nn, List.getD_cons_zero, List.getD_cons_succ] at hs h4
  rcases lt4 hk with rfl | rfl | rfl | rfl <;> refine ⟨rfl, ?_, of4 ⟨?_, ?_, ?_, ?_⟩⟩ <;> simp [Z1R, nn] <;> omega
theorem Zbd (g : List Int) (ag : Option Addr) (cg bk : Nat) (hgl : g.length ≤ 9223372036854775807) (tq mx : Int) (htq : 0 ≤ tq ∧ tq ≤ 1000000) (hmx : 0 ≤ mx ∧ mx ≤ 4294967295) (H : Z7) (R : Z5) [hG : MemRows ag 1 (urows g) R] :
    Fn Tryz.prog 19 [.pointer (some ⟨bk, 0, none⟩)] ((bk, cel 73 [.slice ag g.length cg, .int .i64 (tq), .int .u32 (mx)]) :: H) R (fun v H' R' => ∃ (q : Mix) (tq' mx' : Int), Mxt q ∧ v = .agg (Za q).toArray ∧ (tq ≤ tq' ∧ tq' ≤ tq + 10) ∧ (0 ≤ mx' ∧ mx' ≤ 4294967295) ∧ H' = (bk, cel 73 [.slice ag g.length cg, .int .i64 (tq'), .int .u32 (mx')]) :: H ∧ R' = R) := by
 refine Z9 Tryz.func19 rfl Tryz.ntmps19 rfl ?_
 refine sqt 1 rfl (alc rfl Zca rfl (fun b2 => sqt 1 rfl (alc rfl Zca rfl (fun b3 => sqt 1 rfl (pur 1 rfl (Z0 (sqt 3 rfl ?_)))))))
 refine bsl (out := [_, _, _]) rfl Z5A zl3 rfl rfl rfl rfl rfl rfl (fun b8 => ?_)
 refine sp rfl (PE.lenSl Z1u rfl) rfl (pur 1 rfl (Z3 ?_))
 refine Zo bk ?_
 refine Ze (ι := {x : Nat × List Int × Int × Int × Int // x.1 ≤ 3 ∧ MxI x.1 x.2.1 x.2.2.1 ∧ x.2.2.2.1 = tq + 2 * x.1 ∧ (0 ≤ x.2.2.2.2 ∧ x.2.2.2.2 ≤ 4294967295)}) (fun x => ⟨[(0, .pointer (some ⟨bk, 0, none⟩)), (2, .pointer (some ⟨b2, 0, none⟩)), (3, .pointer (some ⟨b3, 0, none⟩)), (4, .int .i64 x.1.2.2.1), (8, .slice (some ⟨b8, 0, none⟩) 3 3), (9, .int .i64 3), (10, .int .i64 x.1.1)], (bk, cel 73 [.slice ag g.length cg, .int .i64 (x.1.2.2.2.1), .int .u32 (x.1.2.2.2.2)]) :: (b8, cel 3 [.int .i64 3, .int .i64 2, .int .i64 1]) :: (b3, cel 29 (Za x.1.2.1)) :: (b2, cel 29 (Za [0, 0, 0, 0])) :: H, R⟩) (fun x => 3 - x.1.1) ⟨(0, [0, 0, 0, 0], 40, tq, mx), by omega, MxI.start, by dsimp only; omega, by assumption⟩ ?_ (fun x => ?_)
 exact Zl idH
 obtain ⟨⟨k, l, left, tq2, mx2⟩, hk, hmi, htq2, hmx2⟩ := x
 dsimp only at hk hmi htq2 hmx2 ⊢
 subst htq2
 have hlo := hmi.lo
 have hml := hmi.len
 refine sqt 1 rfl (pur 1 rfl (Z0 ?_))
 refine Z2 rfl ?_ ?_ <;> intro hc0 <;> try simp only [cS] at hc0
 have hk3 : k < 3 := by omega
 have hk4 : 3 - k < 4 := by omega
 refine Z4 (Z0 (Z3 (sqt 3 rfl (sp rfl (PE.indexAddr Z5z rfl rfl (by omega) (by omega)) rfl (spL rfl rfl (lh sc3 rfl (Z9Q hk3 (by omega))) rfl (pur 1 rfl (sqt 10 rfl (pur 3 rfl ?_))))))))
 refine cl rfl Z0s rfl rfl (ZC g ag cg bk hgl _ _ (by omega) (by assumption) (5) _ _) ?_
 rintro _ _ R1 ⟨x17, m17, hx17, rfl, hm17, rfl, hR1⟩
 obtain rfl := hR1.symm
 refine pur 1 rfl ?_
 refine cl rfl Z0s rfl rfl (ZC g ag cg bk hgl _ _ (by omega) (by assumption) (4) _ _) ?_
 rintro _ _ R1 ⟨x19, m19, hx19, rfl, hm19, rfl, hR1⟩
 obtain rfl := hR1.symm
 have hm20 := Zfm (a := x17) (b := x19) (A := 4) (B := 3) (by omega) (by omega) (by omega) (by omega)
 obtain ⟨v, hv⟩ : ∃ v, v = min left (x17 * x19) := ⟨_, rfl⟩
 refine sp rfl (PE.mul rfl rfl (by omega)) rfl (sp rfl (PE.min rfl rfl) rfl ?_)
 rw [← hv]
 refine sp rfl (PE.indexArr Z2F rfl rfl (by omega) (by omega)) rfl ?_
 refine Zo b3 ?_
 refine ZQ (l' := Za ((l).set (3 - k) (v))) rfl rfl rfl cn3 rfl rfl rfl (Z4q hml hk4 _) (by rw [ints_length, hml]; show 0 + (((3 - k) : Nat) : Int).toNat * 1 + 1 ≤ 4; omega) ?_
 refine sqr 6 rfl (pur 2 rfl (sp rfl (PE.indexArr Z2F rfl rfl (by omega) (by omega)) rfl (spL rfl rfl (lh sc3 rfl (mix_at (by simp [hml]) hk4)) rfl ?_)))
 rw [show nn (l.set (3 - k) v) (3 - k) = v from by rw [Z0Q (by omega)]; simp]
 refine sp rfl (PE.sub rfl rfl (by omega)) rfl (pur 1 rfl (sqr 2 rfl (sp rfl (PE.add rfl rfl (by omega)) rfl (pur 1 rfl ?_))))
 exact Zm ⟨(k + 1, l.set (3 - k) v, left - v, tq + 2 * k + 1 + 1, m19), by omega, hmi.more hk3 (by omega), by dsimp only; omega, by assumption⟩ (fun _ h => St.sub (((h.pull b3).pull b8).pull bk))
 obtain rfl : k = 3 := by omega
 have hq := hmi.done
 refine Zb (Zc (Zc (ZA (sqt 3 rfl (pur 1 rfl (sp rfl (PE.indexArr Z2F rfl rfl (by omega) (by omega)) rfl ?_))))))
 refine Zo b3 ?_
 refine ZQ (l' := Za ((l).set 0 (left))) rfl rfl rfl cn3 rfl rfl rfl (Z4q hml (by decide) _) (by rw [ints_length, hml]; show 0 + ((0 : Nat) : Int).toNat * 1 + 1 ≤ 4; decide) ?_
 refine Z0 (sqt 2 rfl ?_)
 refine Zo bk ?_
 obtain ⟨q, hqe⟩ : ∃ q, q = l.set 0 left := ⟨_, rfl⟩
 rw [← hqe] at hq ⊢
 refine pur 1 rfl ?_
 refine cl rfl ZeR rfl rfl (ZdI g ag cg bk hgl _ _ (by omega) (by assumption) 4 _ _) ?_
 rintro _ _ R1 ⟨x32, m32, rfl, hm32, rfl, hR1⟩
 obtain rfl := hR1.symm
 refine Z2 rfl ?_ ?_ <;> intro hc1 <;> try simp only [cS] at hc1
 refine sqt 4 rfl (pur 1 rfl ?_)
 refine cl rfl Z0s rfl rfl (ZC g ag cg bk hgl _ _ (by omega) (by assumption) (3) _ _) ?_
 rintro _ _ R1 ⟨x34, m34, hx34, rfl, hm34, rfl, hR1⟩
 obtain rfl := hR1.symm
 refine sp rfl (PE.add rfl rfl (by omega)) rfl (pur 1 rfl ?_)
 refine Z8 [0, 0, 2, 6, 0, 16, 62, 126, 255, 511] (tks 0 3 (.ld 3 (.tk 4 (.ld 5 (.tk 6 (.big 7 (.tk 8 (.big 9 .done)))))))) Zr (by kernel_rfl) ?_
 obtain ⟨k, hk⟩ : ∃ k : Nat, 1 + x34 = k := ⟨(1 + x34).toNat, by omega⟩
 rw [hk]
 have hk4 : k < 4 := by omega
 have hq2 := Zc0 hq hk4
 refine Zg 2 rfl (tk rfl (PE.indexArr Z2F rfl rfl (by omega) (by omega)) rfl (ld rfl rfl (lh sc3 rfl (mix_at hq.len hk4)) rfl (tk rfl (PE.indexArr Z2F rfl rfl (by omega) (by omega)) rfl (ld rfl rfl (lh sc3 rfl (mix_at hq.len (k := 0) (by omega))) rfl (tk rfl (PE.indexArr Z2F rfl rfl (by omega) (by omega)) rfl ?_)))))
 refine Zo b3 ?_
 refine ZQ (l' := Za ((q).set 0 (nn q k))) rfl rfl rfl cn3 rfl rfl rfl (Z4q hq.len (by decide) _) (by rw [ints_length, hq.len]; show 0 + ((0 : Nat) : Int).toNat * 1 + 1 ≤ 4; decide) ?_
 refine bgT (tk rfl (PE.indexArr Z2F rfl rfl (by omega) (by omega)) rfl ?_)
 refine ZQ (l' := Za ((q.set 0 (nn q k)).set k (nn q 0))) rfl rfl rfl cn3 rfl rfl rfl (Z4q (show (q.set 0 (nn q k)).length = 4 by simp [hq.len]) hk4 _) (by rw [ints_length, (show (q.set 0 (nn q k)).length = 4 by simp [hq.len])]; show 0 + ((k : Nat) : Int).toNat * 1 + 1 ≤ 4; omega) ?_
 refine bgT (sqt 2 rfl ?_)
 obtain ⟨p, hpe, hp⟩ : ∃ p, p = q ∧ Mxt p := ⟨_, rfl, hq⟩
 first
   | (clear hpe hp p; obtain ⟨p, hpe⟩ : ∃ p, p = (q.set 0 (nn q k)).set k (nn q 0) := ⟨_, rfl⟩; rw [← hpe] at hq2 ⊢; have hp := hq2)
   | rw [← hpe]
 refine spL rfl rfl (lhA (Za (p)) Z3x rfl (rest := []) (by rw [List.append_nil]; rfl) (by rw [ints_length]; exact hp.len)) rfl ?_
 refine Zo b2 ?_
 refine Z2l rfl rfl rfl Zcc rfl (by rw [ints_length]; exact hp.len) rfl (Zs _) ?_
 refine Z1 ?_
 first
   | exact Z6 (vs := [_]) rfl (.cons (RV.cell rfl (lhA (Za (p)) Z3x rfl (rest := []) (by rw [List.append_nil]; rfl) (by rw [ints_length]; exact hp.len))) .nil) rfl ⟨p, tq + 2 * (3 : Nat) + 1 + 1, m34, hp, rfl, by omega, hm34, rfl, rfl⟩ (fun w h => St.sub (((h.del b2).del b3).del b8))
   | exact Z6 (vs := [_]) rfl (.cons (RV.cell rfl (lhA (Za (p)) Z3x rfl (rest := []) (by rw [List.append_nil]; rfl) (by rw [ints_length]; exact hp.len))) .nil) rfl ⟨p, tq + 2 * (3 : Nat) + 1, m32, hp, rfl, by omega, hm32, rfl, rfl⟩ (fun w h => St.sub (((h.del b2).del b3).del b8))
 refine Z4 (sqt 2 rfl ?_)
 obtain ⟨p, hpe, hp⟩ : ∃ p, p = q ∧ Mxt p := ⟨_, rfl, hq⟩
 first
   | (clear hpe hp p; obtain ⟨p, hpe⟩ : ∃ p, p = (q.set 0 (nn q k)).set k (nn q 0) := ⟨_, rfl⟩; rw [← hpe] at hq2 ⊢; have hp := hq2)
   | rw [← hpe]
 refine spL rfl rfl (lhA (Za (p)) Z3x rfl (rest := []) (by rw [List.append_nil]; rfl) (by rw [ints_length]; exact hp.len)) rfl ?_
 refine Zo b2 ?_
 refine Z2l rfl rfl rfl Zcc rfl (by rw [ints_length]; exact hp.len) rfl (Zs _) ?_
 refine Z1 ?_
 first
   | exact Z6 (vs := [_]) rfl (.cons (RV.cell rfl (lhA (Za (p)) Z3x rfl (rest := []) (by rw [List.append_nil]; rfl) (by rw [ints_length]; exact hp.len))) .nil) rfl ⟨p, tq + 2 * (3 : Nat) + 1 + 1, m34, hp, rfl, by omega, hm34, rfl, rfl⟩ (fun w h => St.sub (((h.del b2).del b3).del b8))
   | exact Z6 (vs := [_]) rfl (.cons (RV.cell rfl (lhA (Za (p)) Z3x rfl (rest := []) (by rw [List.append_nil]; rfl) (by rw [ints_length]; exact hp.len))) .nil) rfl ⟨p, tq + 2 * (3 : Nat) + 1, m32, hp, rfl, by omega, hm32, rfl, rfl⟩ (fun w h => St.sub (((h.del b2).del b3).del b8))
theorem Z3J {s : Int} {m : List Int} (hm : m.length = 4) {k : Nat} (hk : k < 4) : (Value.int .i64 s :: Za m)[0 + 1 + ((k : Nat) : Int).toNat * 1]? = some (.int .i64 (nn m k)) := by
  obtain ⟨a, b, c, d, rfl⟩ := Z0x hm
  rcases lt4 hk with rfl | rfl | rfl | rfl <;> rfl
theorem Z3Y {s : Int} {m : List Int} (hm : m.length = 4) {k : Nat} (hk : k < 4) (v : Int) : spl (Value.int .i64 s :: Za m) (0 + 1 + ((k : Nat) : Int).toNat * 1) [.int .i64 v] = Value.int .i64 s :: Za (m.set k v) := by
  obtain ⟨a, b, c, d, rfl⟩ := Z0x hm
  rcases lt4 hk with rfl | rfl | rfl | rfl <;> rfl
theorem Z90 {m : List Int} (hm : m.length = 4) {k : Nat} (hk : k < 4) : mkv false ((m.drop (k * 1)).take 1) = .int .i64 (nn m k) := by
  obtain ⟨a, b, c, d, rfl⟩ := Z0x hm
  rcases lt4 hk with rfl | rfl | rfl | rfl <;> rfl
theorem ZdJ {a : Int} (h : 0 ≤ a ∧ a ≤ 1000000) : IntKind.i64.wrap (a.tdiv 40) = a / 40 := by
  rw [Z5J (by omega) (by omega), Int.tdiv_eq_ediv_of_nonneg h.1]
theorem Z42 {s : Int} {m : List Int} (hm : m.length = 4) : (Value.int .i64 s :: Za m).length = 5 := by rw [List.length_cons, ints_length, hm]
theorem c_Taken (l0 : List Int) (ag : Option Addr) (cg bk : Nat) (hgl : l0.length ≤ 9223372036854775807) (tq mx : Int) (htq : 0 ≤ tq ∧ tq ≤ 1000000) (hmx : 0 ≤ mx ∧ mx ≤ 4294967295) (g : Gat) (hmi : 0 ≤ g.miss ∧ g.miss ≤ 20) (sl : Value) (m : Mix) (hm : Mxt m) (H : Z7) (R : Z5) [hG : MemRows ag 1 (urows l0) R] :
    Fn Tryz.prog 8 [.pointer (some ⟨bk, 0, none⟩), g.v sl, .agg (Za m).toArray] ((bk, cel 73 [.slice ag l0.length cg, .int .i64 (tq), .int .u32 (mx)]) :: H) R (fun v H' R' => ∃ (h : Hnd) (tq' mx' : Int), h.ok ∧ Z72 g.miss h m = true ∧ v = .agg (Z1p h).toArray ∧ (tq ≤ tq' ∧ tq' ≤ tq + 20) ∧ (0 ≤ mx' ∧ mx' ≤ 4294967295) ∧ H' = (bk, cel 73 [.slice ag l0.length cg, .int .i64 (tq'), .int .u32 (mx')]) :: H ∧ R' = R) := by
 refine Z9 Tryz.func8 rfl Tryz.ntmps8 rfl ?_
 refine sqt 3 rfl (bx rfl rfl rfl (fun b4 => bx rfl rfl rfl (fun b5 => alc rfl ZbJ rfl (fun b6 => sqt 3 rfl ?_))))
 refine Zo bk ?_
 refine pur 1 rfl ?_
 refine cl rfl Z2v rfl rfl (Z0o l0 ag cg bk hgl _ _ (by omega) (by assumption) (10) (200) (by first | omega | (dsimp only; omega)) _ _) ?_
 rintro _ _ R1 ⟨x18, m18, hx18, rfl, hm18, rfl, hR1⟩
 obtain rfl := hR1.symm
 refine pur 1 rfl (Z0 (sqt 3 rfl (sp rfl (PE.fA Z4N rfl) rfl (spL rfl rfl (lh sc3 rfl rfl) rfl (pur 1 rfl ?_)))))
 refine ZbS (ι := {x : Int × Int × Int // (10 ≤ x.1 ∧ x.1 ≤ 200) ∧ (g.miss = 0 → ∃ j : Int, x.1 = 40 * j) ∧ (tq ≤ x.2.1 ∧ x.2.1 ≤ tq + 2) ∧ (0 ≤ x.2.2 ∧ x.2.2 ≤ 4294967295)}) (fun x => ⟨[(0, .pointer (some ⟨bk, 0, none⟩)), (4, .pointer (some ⟨b4, 0, none⟩)), (5, .pointer (some ⟨b5, 0, none⟩)), (6, .pointer (some ⟨b6, 0, none⟩)), (7, .int .i64 x.1.1)], (bk, cel 73 [.slice ag l0.length cg, .int .i64 (x.1.2.1), .int .u32 (x.1.2.2)]) :: (b6, cel 43 (Z1p ⟨0, 0, 0, 0, 0⟩)) :: (b5, cel 29 (Za m)) :: (b4, cel 25 (gtl g sl)) :: H, R⟩) ?_ ?_
 refine Z2 rfl ?_ ?_ <;> intro hc0
 refine sqr 4 rfl (pur 1 rfl ?_)
 refine cl rfl Z2v rfl rfl (Z0o l0 ag cg bk hgl _ _ (by omega) (by assumption) (1) (5) (by first | omega | (dsimp only; omega)) _ _) ?_
 rintro _ _ R1 ⟨x23, m23, hx23, rfl, hm23, rfl, hR1⟩
 obtain rfl := hR1.symm
 refine sp rfl (PE.mul rfl rfl (by omega)) rfl (pur 1 rfl ?_)
 exact Z6B ⟨(40 * x23, tq + 1 + 1, m23), by dsimp only; omega, fun _ => ⟨x23, rfl⟩, by dsimp only; omega, by assumption⟩ idH
 refine Z4 ?_
 exact Z6B ⟨(x18, tq + 1, m18), by dsimp only; omega, fun h => absurd h (by simpa using hc0), by dsimp only; omega, by assumption⟩ idH
 rintro ⟨⟨n, tq2, mx2⟩, hn, hn0, htq2, hmx2⟩
 dsimp only at hn hn0 htq2 hmx2 ⊢
 have hng : 0 ≤ n ∧ n ≤ 200 := by omega
 refine sqt 5 rfl (pur 1 rfl ?_)
 refine cl rfl Z0s rfl rfl (ZC l0 ag cg bk hgl _ _ (by omega) (by assumption) (3) _ _) ?_
 rintro _ _ R1 ⟨x26, m26, hx26, rfl, hm26, rfl, hR1⟩
 obtain rfl := hR1.symm
 refine sp rfl (PE.build (out := Z1p ⟨x26, 0, 0, 0, 0⟩) ZfU ZbJ rfl rfl) rfl (alc rfl ZbJ rfl (fun b8 => ?_))
 refine sto rfl rfl rfl Zce rfl rfl rfl rfl ?_
 refine sqt 2 rfl (pur 2 rfl (Z0 (sqt 2 rfl (spL rfl rfl (lhA (Za (m)) Z3x rfl (rest := []) (by rw [List.append_nil]; rfl) (by rw [ints_length]; exact hm.len)) rfl (pur 1 rfl (Z3 ?_))))))
 refine Ze (ι := {k : Nat // k ≤ 4}) (fun k => ⟨[(0, .pointer (some ⟨bk, 0, none⟩)), (4, .pointer (some ⟨b4, 0, none⟩)), (5, .pointer (some ⟨b5, 0, none⟩)), (6, .pointer (some ⟨b6, 0, none⟩)), (7, .int .i64 n), (8, .pointer (some ⟨b8, 0, none⟩)), (9, .int .i64 (Z28 n m k.1).2), (29, .agg (Za m).toArray), (30, .int .i64 k.1)], (b8, cel 43 (.int .i64 x26 :: Za (Z28 n m k.1).1)) :: (bk, cel 73 [.slice ag l0.length cg, .int .i64 (tq2 + 1), .int .u32 (m26)]) :: (b6, cel 43 (Z1p ⟨0, 0, 0, 0, 0⟩)) :: (b5, cel 29 (Za m)) :: (b4, cel 25 (gtl g sl)) :: H, R⟩) (fun k => 4 - k.1) ⟨0, by omega⟩ ?_ (fun k => ?_)
 exact Zl idH
 obtain ⟨k, hk⟩ := k
 dsimp only at hk ⊢
 obtain ⟨t1, t2, t3, t4, t5, t6⟩ := Z5Q hm hng k hk
 refine sqt 1 rfl (pur 1 rfl (Z0 ?_))
 refine Z2 rfl ?_ ?_ <;> intro hc1 <;> try simp only [cS] at hc1
 have hk4 : k < 4 := by omega
 have hbd := Z0W hm hng hk4
 have hg0 : g0 n m k = n * nn m k / 40 := rfl
 refine Z4 (Z0 (Z3 (sqt 4 rfl (pur 1 rfl ?_))))
 refine sp rfl ((PE.indexI (l := m) Zdi (Z0D 10000 3 false 1 ZfD) (fun _ => rfl) rfl rfl hk4 (by rw [hm.len]; omega)).to (by rw [Z90 hm.len hk4])) rfl ?_
 refine pur 2 rfl (sqt 8 rfl (pur 3 rfl (sp rfl (PE.mul rfl rfl (by omega)) rfl ?_)))
 refine sp rfl ((PE.quoW rfl rfl (by omega)).to (by rw [ZdJ (by omega), ← hg0])) rfl ?_
 refine sp rfl (PE.fA Z0R rfl) rfl (sp rfl (PE.indexArr Z2F rfl rfl (by omega) (by omega)) rfl ?_)
 refine ZQ (l' := .int .i64 x26 :: Za (((Z28 n m k).1).set k (g0 n m k))) rfl rfl rfl cn3 rfl rfl rfl (Z3Y t1 hk4 _) (by rw [Z42 t1]; show 0 + 1 + ((k : Nat) : Int).toNat * 1 + 1 ≤ 5; omega) ?_
 refine sqr 7 rfl (pur 2 rfl (sp rfl (PE.fA Z0R rfl) rfl (sp rfl (PE.indexArr Z2F rfl rfl (by omega) (by omega)) rfl (spL rfl rfl (lh sc3 rfl (Z3J (by simp [t1]) hk4)) rfl ?_))))
 rw [show nn ((Z28 n m k).1.set k (g0 n m k)) k = g0 n m k from by rw [Z0Q (by omega)]; simp]
 refine sp rfl (PE.sub rfl rfl (by omega)) rfl (pur 1 rfl (sqr 2 rfl (sp rfl (PE.add rfl rfl (by omega)) rfl (pur 1 rfl ?_))))
 exact Zm ⟨k + 1, by omega⟩ idH
 obtain rfl : k = 4 := by omega
 refine Zb (Zc (Zc (ZA (Z0 (sqt 2 rfl (spL rfl rfl (lhA (Za (m)) Z3x rfl (rest := []) (by rw [List.append_nil]; rfl) (by rw [ints_length]; exact hm.len)) rfl (pur 1 rfl (Z3 ?_))))))))
 refine Ze (ι := {k : Nat // k ≤ 4}) (fun k => ⟨[(0, .pointer (some ⟨bk, 0, none⟩)), (4, .pointer (some ⟨b4, 0, none⟩)), (5, .pointer (some ⟨b5, 0, none⟩)), (6, .pointer (some ⟨b6, 0, none⟩)), (7, .int .i64 n), (8, .pointer (some ⟨b8, 0, none⟩)), (9, .int .i64 (Z0I n m k.1).2), (48, .agg (Za m).toArray), (49, .int .i64 k.1)], (b8, cel 43 (.int .i64 x26 :: Za (Z0I n m k.1).1)) :: (bk, cel 73 [.slice ag l0.length cg, .int .i64 (tq2 + 1), .int .u32 (m26)]) :: (b6, cel 43 (Z1p ⟨0, 0, 0, 0, 0⟩)) :: (b5, cel 29 (Za m)) :: (b4, cel 25 (gtl g sl)) :: H, R⟩) (fun k => 4 - k.1) ⟨0, by omega⟩ ?_ (fun k => ?_)
 exact Zl idH
 obtain ⟨k, hk⟩ := k
 dsimp only at hk ⊢
 have hti := Z69 hm hng k hk
 have t1 := hti.len
 have t2 := hti.lo
 have t3 := hti.sum
 have t4 : (Z0I n m k).2 ≤ 200 := by
   obtain ⟨p0, p1, p2, p3⟩ := Z5q hti.at_
   obtain ⟨q0, q1, q2, q3⟩ := Z5q (fun k hk => Z0W hm hng (k := k) hk)
   have t3 := t3
   unfold Z1R at t3
   simp only [g0] at p0 p1 p2 p3
   omega
 refine sqt 1 rfl (pur 1 rfl (Z0 ?_))
 refine Z2 rfl ?_ ?_ <;> intro hc2 <;> try simp only [cS] at hc2
 have hk4 : k < 4 := by omega
 have hbd := Z0W hm hng hk4
 have hat := hti.at_ k hk4
 have hg0 : g0 n m k = n * nn m k / 40 := rfl
 refine Z4 (Z0 (Z3 (sqt 4 rfl (pur 1 rfl ?_))))
 refine sp rfl ((PE.indexI (l := m) Zdi (Z0D 10000 3 false 1 ZfD) (fun _ => rfl) rfl rfl hk4 (by rw [hm.len]; omega)).to (by rw [Z90 hm.len hk4])) rfl ?_
 refine pur 2 rfl (sqt 9 rfl (pur 3 rfl ?_))
 refine Zy 55 rfl ?_ ?_ <;> intro g55
 refine pur 2 rfl ?_
 refine spG rfl rfl rfl rfl (PE.mul rfl rfl (by omega)) rfl ?_
 refine spG rfl rfl rfl rfl (PE.rem rfl rfl (by omega)) rfl ?_
 refine pur 2 rfl ?_
 refine Z2 rfl ?_ ?_ <;> intro hc3
 have hst : Z0I n m (k + 1) = ((Z0I n m k).1.set k (nn (Z0I n m k).1 k + 1), (Z0I n m k).2 - 1) := by
   show (bif Z6F n m (Z0I n m k) k then _ else _) = _
   rw [show Z6F n m (Z0I n m k) k = true from by simp_all [Z6F]]; rfl
 refine sqt 8 rfl (pur 1 rfl (sp rfl (PE.fA Z0R rfl) rfl (sp rfl (PE.indexArr Z2F rfl rfl (by omega) (by omega)) rfl (spL rfl rfl (lh sc3 rfl (Z3J t1 hk4)) rfl (sp rfl (PE.add rfl rfl (by omega)) rfl (sp rfl (PE.fA Z0R rfl) rfl (sp rfl (PE.indexArr Z2F rfl rfl (by omega) (by omega)) rfl ?_)))))))
 refine ZQ (l' := .int .i64 x26 :: Za (((Z0I n m k).1).set k (nn (Z0I n m k).1 k + 1))) rfl rfl rfl cn3 rfl rfl rfl (Z3Y t1 hk4 _) (by rw [Z42 t1]; show 0 + 1 + ((k : Nat) : Int).toNat * 1 + 1 ≤ 5; omega) ?_
 refine sqr 3 rfl (pur 1 rfl (sp rfl (PE.sub rfl rfl (by omega)) rfl (pur 1 rfl (sqr 2 rfl (sp rfl (PE.add rfl rfl (by omega)) rfl (pur 1 rfl ?_))))))
 exact ZW ⟨k + 1, by omega⟩ (by dsimp only; omega) (by dsimp only; rw [hst]; exact (by repeat' first | exact Sub.nil | apply Sub.cons | rfl | (simp [lk]; omega))) (fun w h => by dsimp only; rw [hst]; exact h)
 have hst : Z0I n m (k + 1) = Z0I n m k := by
   show (bif Z6F n m (Z0I n m k) k then _ else _) = _
   rw [show Z6F n m (Z0I n m k) k = false from by simp_all [Z6F]]; rfl
 refine Z4 (sqr 2 rfl (sp rfl (PE.add rfl rfl (by omega)) rfl (pur 1 rfl ?_)))
 exact ZW ⟨k + 1, by omega⟩ (by dsimp only; omega) (by dsimp only; rw [hst]; exact (by repeat' first | exact Sub.nil | apply Sub.cons | rfl | (simp [lk]; omega))) (fun w h => by dsimp only; rw [hst]; exact h)
 have hst : Z0I n m (k + 1) = Z0I n m k := by
   show (bif Z6F n m (Z0I n m k) k then _ else _) = _
   have h55 : decide (0 < (Z0I n m k).2) = false := by simpa using g55
   rw [show Z6F n m (Z0I n m k) k = false from by unfold Z6F; rw [h55]; rfl]; rfl
 refine pur 6 rfl ?_
 refine ZD rfl ?_
 refine Z4 (sqr 2 rfl (sp rfl (PE.add rfl rfl (by omega)) rfl (pur 1 rfl ?_)))
 exact ZW ⟨k + 1, by omega⟩ (by dsimp only; omega) (by dsimp only; rw [hst]; exact (by repeat' first | exact Sub.nil | apply Sub.cons | rfl | (simp [lk]; omega))) (fun w h => by dsimp only; rw [hst]; exact h)
 obtain rfl : k = 4 := by omega
 obtain ⟨e1, e2, e3⟩ := Z9b hm hng
 refine Zb (Zc (Zc (ZA (sqt 6 rfl ?_))))
 refine Zo bk ?_
 obtain ⟨l, hl⟩ : ∃ l, l = (Z0I n m 4).1 := ⟨_, rfl⟩
 rw [← hl]
 rw [← hl] at e1 e2 e3
 refine pur 1 rfl ?_
 refine cl rfl Z0s rfl rfl (ZC l0 ag cg bk hgl _ _ (by omega) (by assumption) (4) _ _) ?_
 rintro _ _ R1 ⟨x73, m73, hx73, rfl, hm73, rfl, hR1⟩
 obtain rfl := hR1.symm
 refine pur 1 rfl ?_
 refine cl rfl Z0s rfl rfl (ZC l0 ag cg bk hgl _ _ (by omega) (by assumption) (4) _ _) ?_
 rintro _ _ R1 ⟨x75, m75, hx75, rfl, hm75, rfl, hR1⟩
 obtain rfl := hR1.symm
 refine pur 2 rfl (Z0 (Z0 ?_))
 refine Z8 [0, 0, 2, 7, 0, 0, 48, 112, 255, 511] (.tk 0 (.tk 1 (.ld 2 (tks 4 3 (.ld 7 (.big 3 (.tk 8 (.tk 9 .done)))))))) Zr (by kernel_rfl) ?_
 obtain ⟨a, ha⟩ : ∃ a : Nat, x73 = a := ⟨x73.toNat, by omega⟩
 obtain ⟨b, hb⟩ : ∃ b : Nat, x75 = b := ⟨x75.toNat, by omega⟩
 rw [ha, hb]
 have ha4 : a < 4 := by omega
 have hb4 : b < 4 := by omega
 have hea := e3 a ha4
 have heb := e3 b hb4
 have hga : g0 n m a = n * nn m a / 40 := rfl
 have hgb : g0 n m b = n * nn m b / 40 := rfl
 have hba := Z0W hm hng ha4
 have hbb := Z0W hm hng hb4
 refine Zg 1 rfl (tk rfl (PE.fA Z4N rfl) rfl (ld rfl rfl (lh sc3 rfl rfl) rfl (Zg 1 rfl (tk rfl (PE.fA Z0R rfl) rfl (tk rfl (PE.indexArr Z2F rfl rfl (by omega) (by omega)) rfl (ld rfl rfl (lh sc3 rfl (Z3J e1 ha4)) rfl ?_))))))
 refine cl rfl Z0s rfl rfl (ZC l0 ag cg bk hgl _ _ (by omega) (by assumption) (g.miss) _ _) ?_
 rintro _ _ R1 ⟨x79, m79, hx79, rfl, hm79, rfl, hR1⟩
 obtain rfl := hR1.symm
 refine bg (fun w hs => ⟨(lh sc3 rfl (Z3J e1 ha4)) w hs, trivial, trivial⟩) ?_
 refine tk rfl (PE.min rfl rfl) rfl (Zg 1 rfl (sqt 3 rfl ?_))
 obtain ⟨t, ht⟩ : ∃ t, t = min x79 (nn l a) := ⟨_, rfl⟩
 rw [← ht]
 obtain ⟨k1, k2, k3⟩ := ZaE e1 ha4 hb4 t
 refine pur 3 rfl ?_
 refine Z2 rfl ?_ ?_ <;> intro hc4
 have hab : a ≠ b := by intro h; subst h; simp at hc4
 have htk : tkM l a b t = (l.set a (nn l a - t)).set b (nn l b + t) := by unfold tkM; rw [show (a == b) = false by simpa using hab]; rfl
 refine Z8 [0, 0, 0, 0, 12, 28, 0, 124, 0, 0, 768, 1792, 0, 7936, 0, 20477, 53245, 0, 262143, 524287] (tks 0 5 (.ld 5 (tks 6 5 (.ld 11 (tks 12 4 (.tk 17 (.big 16 (.tk 18 (.big 19 .done))))))))) Zr (by kernel_rfl) ?_
 refine Zg 3 rfl (tk rfl (PE.fA Z0R rfl) rfl (tk rfl (PE.indexArr Z2F rfl rfl (by omega) (by omega)) rfl (ld rfl rfl (lh sc3 rfl (Z3J e1 ha4)) rfl (Zg 1 rfl (tk rfl (PE.sub rfl rfl (by omega)) rfl (Zg 1 rfl (tk rfl (PE.fA Z0R rfl) rfl (tk rfl (PE.indexArr Z2F rfl rfl (by omega) (by omega)) rfl (ld rfl rfl (lh sc3 rfl (Z3J e1 hb4)) rfl (Zg 1 rfl (tk rfl (PE.add rfl rfl (by omega)) rfl ?_)))))))))))
 refine Zo b8 ?_
 refine tk rfl (PE.fA Z0R rfl) rfl (tk rfl (PE.indexArr Z2F rfl rfl (by omega) (by omega)) rfl (tk rfl (PE.fA Z0R rfl) rfl ?_))
 refine ZQ (l' := .int .i64 x26 :: Za ((l).set a (nn l a - t))) rfl rfl rfl cn3 rfl rfl rfl (Z3Y e1 ha4 _) (by rw [Z42 e1]; show 0 + 1 + ((a : Nat) : Int).toNat * 1 + 1 ≤ 5; omega) ?_
 refine bgT (tk rfl (PE.indexArr Z2F rfl rfl (by omega) (by omega)) rfl ?_)
 refine ZQ (l' := .int .i64 x26 :: Za ((l.set a (nn l a - t)).set b (nn l b + t))) rfl rfl rfl cn3 rfl rfl rfl (Z3Y (show (l.set a (nn l a - t)).length = 4 by simp [e1]) hb4 _) (by rw [Z42 (show (l.set a (nn l a - t)).length = 4 by simp [e1])]; show 0 + 1 + ((b : Nat) : Int).toNat * 1 + 1 ≤ 5; omega) ?_
 refine bgT (sqt 2 rfl ?_)
 rw [← htk]
 obtain ⟨x0, x1, x2, x3, hx⟩ := Z0x k1
 obtain ⟨hok, hfit⟩ := Z8a (spot := x26) hm hn (by omega) hmi.1 hn0 ha4 hb4 (t := t) (by rw [← hl]; omega) (by rw [← hl]; exact hx)
 rw [hx]
 refine spL rfl rfl (lhA (Z1p ⟨x26, x0, x1, x2, x3⟩) Z9h rfl rfl rfl) rfl ?_
 refine Zo b6 ?_
 refine Z2l rfl rfl rfl Zce rfl rfl rfl rfl ?_
 refine Z1 ?_
 exact Z6 (vs := [_]) rfl (.cons (RV.cell rfl (lhA (Z1p ⟨x26, x0, x1, x2, x3⟩) Z9h rfl rfl rfl)) .nil) rfl ⟨⟨x26, x0, x1, x2, x3⟩, tq2 + 1 + 1 + 1 + 1, m79, hok, hfit, rfl, by omega, by assumption, rfl, rfl⟩ (fun w h => St.sub ((((h.del b6).del b8).del b5).del b4))
 have hab : a = b := by simp at hc4; omega
 have htk : tkM l a b t = l := by unfold tkM; rw [show (a == b) = true by simpa using hab]; rfl
 refine Z4 (sqt 2 rfl ?_)
 rw [← htk]
 obtain ⟨x0, x1, x2, x3, hx⟩ := Z0x k1
 obtain ⟨hok, hfit⟩ := Z8a (spot := x26) hm hn (by omega) hmi.1 hn0 ha4 hb4 (t := t) (by rw [← hl]; omega) (by rw [← hl]; exact hx)
 rw [hx]
 refine spL rfl rfl (lhA (Z1p ⟨x26, x0, x1, x2, x3⟩) Z9h rfl rfl rfl) rfl ?_
 refine Zo b6 ?_
 refine Z2l rfl rfl rfl Zce rfl rfl rfl rfl ?_
 refine Z1 ?_
 exact Z6 (vs := [_]) rfl (.cons (RV.cell rfl (lhA (Z1p ⟨x26, x0, x1, x2, x3⟩) Z9h rfl rfl rfl)) .nil) rfl ⟨⟨x26, x0, x1, x2, x3⟩, tq2 + 1 + 1 + 1 + 1, m79, hok, hfit, rfl, by omega, by assumption, rfl, rfl⟩ (fun w h => St.sub ((((h.del b6).del b8).del b5).del b4))
theorem Zgb : apT Tryz.prog 23 = some (69, 5, 40) := by kernel_rfl
theorem Zfg : apT Tryz.prog 26 = some (43, 5, 40) := by kernel_rfl
theorem ZeA : cal Tryz.prog 19 = true := by kernel_rfl
theorem Zd3 : cal Tryz.prog 8 = true := by kernel_rfl
theorem ZfZ : ZT Tryz.prog 23 = some 1 := by kernel_rfl
theorem ZdV : ZT Tryz.prog 25 = some 3 := by kernel_rfl
theorem Zg3 : ZT Tryz.prog 26 = some 1 := by kernel_rfl
theorem Z5C : ZT Tryz.prog 28 = some 3 := by kernel_rfl
theorem Zga : Z0c Tryz.prog 25 = some [(0, 1), (1, 1), (2, 1)] := by kernel_rfl
theorem Zc3 : Z0c Tryz.prog 28 = some [(0, 1), (1, 1), (2, 1)] := by kernel_rfl
theorem ZfY : Z0c Tryz.prog 69 = some [(0, 1), (1, 1), (2, 1), (3, 1), (4, 1)] := by kernel_rfl
theorem ZfV : slE Tryz.prog 23 = some (69, 5) := by kernel_rfl
theorem Zfv : slE Tryz.prog 26 = some (43, 5) := by kernel_rfl
theorem Zdd : ZE Tryz.prog 25 = some ([.int .i64 0, .int .i64 0, .slice none 0 0]) := by kernel_rfl
theorem Z4H : ZE Tryz.prog 28 = some ([.int .i64 0, .int .i64 0, .slice none 0 0]) := by kernel_rfl
theorem ZfG : ZE Tryz.prog 69 = some ([.int .i64 0, .int .i64 0, .int .i64 0, .int .i64 0, .int .i64 0]) := by kernel_rfl
theorem _root_.Go.Proofs.YtelnhmimhfjacaaGreat.OSl.freezeC {e sz : Nat} {rows : List (List Value)} (o : OSl e sz rows) : ∃ a c, o.fs = .slice a rows.length c ∧ rows.length ≤ c ∧ ∀ {H : Z7} {R : Z5} {w : World}, St (o.G ++ H) R w → St H (RowsA a sz rows :: R) w := by
  obtain ⟨fs, G, hl, his⟩ := o
  rcases his with ⟨rfl, rfl, rfl⟩ | ⟨b, cap, junk, rfl, rfl, _, hc, _⟩
  · exact ⟨none, 0, rfl, Nat.le_refl _, fun {H R w} h => (St.also (H := H) (R := R) h (f := RowsA none sz []) (fun w' _ => fun i row hi => by simp at hi))⟩
  · exact ⟨_, cap, rfl, hc, fun {H R w} h => St.rows (rest := junk) h hl⟩
theorem Z7m {l : List Grd} {x : Grd} (h : ∀ i, Z0T l i = false) (hx : ∀ q ∈ l, x.price ≤ q.price) : ∀ i, Z0T (l ++ [x]) i = false := fun i => by
  rcases Nat.lt_trichotomy (i + 1) l.length with h1 | h1 | h1
  · have := h i
    unfold Z0T at this ⊢
    rw [List.getElem?_append_left (by omega), List.getElem?_append_left (by omega)]; exact this
  · obtain ⟨q, hq⟩ : ∃ q, l[i]? = some q := ⟨_, List.getElem?_eq_getElem (by omega)⟩
    have h2 := hx q (List.mem_of_getElem? hq)
    unfold Z0T
    rw [List.getElem?_append_left (by omega), hq, List.getElem?_append_right (by omega), show i + 1 - l.length = 0 from by omega]
    simp only [List.getElem?_cons_zero]
    rw [decide_eq_false (by omega)]
  · unfold Z0T
    rw [List.getElem?_eq_none (l := l ++ [x]) (i := i + 1) (by simp; omega)]
    split <;> simp_all
structure GrI (l : List Grd) (k : Nat) (pr : Int) : Prop where
  len : l.length = k
  bd : 0 ≤ pr ∧ pr ≤ 100
  q : ∀ q ∈ l, (pr ≤ q.price ∧ q.price ≤ 100) ∧ ∀ k < 4, 0 ≤ nn q.ns k ∧ nn q.ns k ≤ 40
  bad : ∀ i, Z0T l i = false
theorem GrI.more {l : List Grd} {k : Nat} {pr a b c d x : Int} (h : GrI l k pr) (ha : 0 ≤ a ∧ a ≤ 40) (hb : 0 ≤ b ∧ b ≤ 40) (hc : 0 ≤ c ∧ c ≤ 40) (hd : 0 ≤ d ∧ d ≤ 40) (hx : 0 ≤ x ∧ x ≤ pr) : GrI (l ++ [⟨a, b, c, d, pr⟩]) (k + 1) (pr - x) := by
  have hp := h.bd
  refine ⟨by simp [h.len], by omega, fun q hq => ?_, Z7m h.bad (fun q hq => (h.q q hq).1.1)⟩
  rcases List.mem_append.1 hq with hq | hq
  · have := h.q q hq; exact ⟨by omega, this.2⟩
  · simp only [List.mem_singleton] at hq; subst hq; exact ⟨by simp only; omega, of4 ⟨ha, hb, hc, hd⟩⟩
structure MdOk (ng nh : Int) (g : Gat) (c : Crt) (m : Mix) : Prop where
  gok : g.ok
  cok : c.ok
  mix : Mxt m
  err : g.err ≤ 8
  miss : g.miss ≤ 6
  fit : ∀ h ∈ c.hs, Z72 g.miss h m = true
  many : g.grs.length ≤ ng
  more : c.hs.length ≤ nh
  net : 0 ≤ c.full - c.empty ∧ c.full - c.empty < 2000
theorem Zbp (l0 : List Int) (a0 : Option Addr) (c0 bk : Nat) (hgl : l0.length ≤ 9223372036854775807) (tq mx : Int) (htq : 0 ≤ tq ∧ tq ≤ 1000) (hmx : 0 ≤ mx ∧ mx ≤ 4294967295) (ng nh : Int) (hng : 0 ≤ ng ∧ ng ≤ 4) (hnh : 0 ≤ nh ∧ nh ≤ 6) (H : Z7) (R : Z5) [hG : MemRows a0 1 (urows l0) R] :
    Fn Tryz.prog 4 [.pointer (some ⟨bk, 0, none⟩), .int .i64 ng, .int .i64 nh] ((bk, cel 73 [.slice a0 l0.length c0, .int .i64 (tq), .int .u32 (mx)]) :: H) R (fun v H' R' => ∃ (g : Gat) (c : Crt) (m : Mix) (ag : Option Addr) (cg : Nat) (tq' mx' : Int) (o : OSl 43 5 (hrows c.hs)), MdOk ng nh g c m ∧ g.grs.length ≤ cg ∧ v = .tuple #[g.v (g.sl ag cg), c.v o.fs, .agg (Za m).toArray] ∧ (tq ≤ tq' ∧ tq' ≤ tq + 200) ∧ (0 ≤ mx' ∧ mx' ≤ 4294967295) ∧ H' = (bk, cel 73 [.slice a0 l0.length c0, .int .i64 (tq'), .int .u32 (mx')]) :: (o.G ++ H) ∧ R' = RowsA ag 5 (grows g.grs) :: R) := by
 refine Z9 Tryz.func4 rfl Tryz.ntmps4 rfl ?_
 refine sqt 3 rfl (alc rfl Zdd rfl (fun b6 => alc rfl Z4H rfl (fun b7 => alc rfl Zca rfl (fun b8 => sqt 7 rfl ?_))))
 refine Zo bk ?_
 refine pur 1 rfl ?_
 refine cl rfl Z0s rfl rfl (ZC l0 a0 c0 bk hgl _ _ (by omega) (by assumption) (9) _ _) ?_
 rintro _ _ R1 ⟨x15, m15, hx15, rfl, hm15, rfl, hR1⟩
 obtain rfl := hR1.symm
 refine pur 1 rfl ?_
 refine cl rfl Z0s rfl rfl (ZC l0 a0 c0 bk hgl _ _ (by omega) (by assumption) (7) _ _) ?_
 rintro _ _ R1 ⟨x17, m17, hx17, rfl, hm17, rfl, hR1⟩
 obtain rfl := hR1.symm
 refine sp rfl (PE.build (out := gtl ⟨x15, x17, []⟩ (.slice none 0 0)) Zga Zdd rfl rfl) rfl (alc rfl Zdd rfl (fun b9 => ?_))
 refine sto rfl rfl rfl ZdV rfl rfl rfl rfl ?_
 refine sqt 3 rfl ?_
 refine Zo bk ?_
 refine pur 1 rfl ?_
 refine cl rfl Z2v rfl rfl (Z0o l0 a0 c0 bk hgl _ _ (by omega) (by assumption) (1) (100) (by first | omega | (dsimp only; omega)) _ _) ?_
 rintro _ _ R1 ⟨x20, m20, hx20, rfl, hm20, rfl, hR1⟩
 obtain rfl := hR1.symm
 refine pur 1 rfl (Z0 (sqt 5 rfl (pur 2 rfl (sp rfl (PE.add rfl rfl (by omega)) rfl ?_))))
 refine cl rfl Z0s rfl rfl (ZC l0 a0 c0 bk hgl _ _ (by omega) (by assumption) (ng + 1) _ _) ?_
 rintro _ _ R1 ⟨x24, m24, hx24, rfl, hm24, rfl, hR1⟩
 obtain rfl := hR1.symm
 refine pur 1 rfl (Z3 ?_)
 obtain ⟨n24, rfl⟩ : ∃ n : Nat, x24 = n := ⟨x24.toNat, by omega⟩
 refine Ze (ι := (x : {x : Nat × Int × List Grd × Int × Int // x.1 ≤ n24 ∧ GrI x.2.2.1 x.1 x.2.1 ∧ (tq ≤ x.2.2.2.1 ∧ x.2.2.2.1 ≤ tq + 10 + 5 * x.1) ∧ (0 ≤ x.2.2.2.2 ∧ x.2.2.2.2 ≤ 4294967295)}) × OSl 69 5 (grows x.1.2.2.1)) (fun x => ⟨[(0, .pointer (some ⟨bk, 0, none⟩)), (6, .pointer (some ⟨b6, 0, none⟩)), (7, .pointer (some ⟨b7, 0, none⟩)), (8, .pointer (some ⟨b8, 0, none⟩)), (9, .pointer (some ⟨b9, 0, none⟩)), (2, .int .i64 nh), (10, .int .i64 x.1.1.2.1), (24, .int .i64 n24), (25, .int .i64 x.1.1.1)],
   (bk, cel 73 [.slice a0 l0.length c0, .int .i64 (x.1.1.2.2.2.1), .int .u32 (x.1.1.2.2.2.2)]) :: (x.2.G ++ (b9, cel 25 (gtl ⟨x15, x17, x.1.1.2.2.1⟩ x.2.fs)) :: (b8, cel 29 (Za [0, 0, 0, 0])) :: (b7, cel 28 [.int .i64 0, .int .i64 0, .slice none 0 0]) :: (b6, cel 25 [.int .i64 0, .int .i64 0, .slice none 0 0]) :: H), R⟩) (fun x => n24 - x.1.1.1) ⟨⟨(0, x20, [], tq + 1 + 1 + 1 + 1, m24), by omega, ⟨rfl, by dsimp only; omega, by simp, fun i => by simp [Z0T]⟩, by dsimp only; omega, by assumption⟩, OSl.nil _ _⟩ ?_ (fun x => ?_)
 exact Zl idH
 obtain ⟨⟨⟨k, pr, l, tq2, mx2⟩, hk, hri, htq2, hmx2⟩, o'⟩ := x
 dsimp only at hk hri htq2 hmx2 o' ⊢
 have h2 := hri.bd
 have h3 := hri.len
 refine sqt 1 rfl (pur 1 rfl (Z0 ?_))
 refine Z2 rfl ?_ ?_ <;> intro hc0 <;> try simp only [cS] at hc0
 refine Z4 (Z0 (Z3 (Z0 ?_)))
 refine Z8 [0, 1, 0, 4, 0, 28, 0, 124, 0, 508, 0, 2044, 4092, 8191, 16383, 32767] (.tk 0 (.ld 1 (.tk 2 (.tk 4 (.tk 6 (.tk 8 (.tk 10 (.big 3 (.big 5 (.big 7 (.big 9 (.tk 11 (.big 12 (.big 13 (.tk 14 (.big 15 .done)))))))))))))))) Zr (by kernel_rfl) ?_
 refine tk rfl (PE.fA Z5g rfl) rfl (ld rfl rfl (lh Za2 rfl rfl) rfl (Zg 5 rfl ?_))
 refine cl rfl Z2v rfl rfl (Z0o l0 a0 c0 bk hgl _ _ (by omega) (by assumption) (10) (38) (by first | omega | (dsimp only; omega)) _ _) ?_
 rintro _ _ R1 ⟨x30, m30, hx30, rfl, hm30, rfl, hR1⟩
 obtain rfl := hR1.symm
 refine bg (fun w hs => ⟨(lh Za2 rfl rfl) w hs, trivial⟩) ?_
 refine cl rfl Z2v rfl rfl (Z0o l0 a0 c0 bk hgl _ _ (by omega) (by assumption) (1) (14) (by first | omega | (dsimp only; omega)) _ _) ?_
 rintro _ _ R1 ⟨x32, m32, hx32, rfl, hm32, rfl, hR1⟩
 obtain rfl := hR1.symm
 refine bg (fun w hs => ⟨(lh Za2 rfl rfl) w hs, trivial⟩) ?_
 refine cl rfl Z0s rfl rfl (ZC l0 a0 c0 bk hgl _ _ (by omega) (by assumption) (9) _ _) ?_
 rintro _ _ R1 ⟨x34, m34, hx34, rfl, hm34, rfl, hR1⟩
 obtain rfl := hR1.symm
 refine bg (fun w hs => ⟨(lh Za2 rfl rfl) w hs, trivial⟩) ?_
 refine cl rfl Z2v rfl rfl (Z0o l0 a0 c0 bk hgl _ _ (by omega) (by assumption) (1) (14) (by first | omega | (dsimp only; omega)) _ _) ?_
 rintro _ _ R1 ⟨x36, m36, hx36, rfl, hm36, rfl, hR1⟩
 obtain rfl := hR1.symm
 refine bg (fun w hs => ⟨(lh Za2 rfl rfl) w hs, trivial⟩) ?_
 refine tk rfl (PE.build (out := Z4t ⟨x30, x32, x34, x36, pr⟩) ZfY ZfG rfl rfl) rfl ?_
 refine bsl (out := [_, _, _, _, _]) rfl ZfV ZfG rfl rfl rfl rfl rfl rfl (fun b39 => ?_)
 refine bg (fun w hs => ⟨(lh Za2 rfl rfl) w hs, trivial⟩) ?_
 refine apO (o') rfl Zgb rfl rfl (Z3g (row := Z4t ⟨x30, x32, x34, x36, pr⟩) rfl) rfl rfl ((by simp only [grows, List.length_map, List.length_singleton]; omega)) rfl (fun o40 => ?_)
 refine bgT (tk rfl (PE.fA Z5g rfl) rfl ?_)
 refine ZQ (l' := gtl ⟨x15, x17, l ++ [⟨x30, x32, x34, x36, pr⟩]⟩ o40.fs) rfl rfl rfl ZfZ rfl (by rw [o40.cells.1]; first | done | rfl) (by rw [o40.cells.1]; simp [o40.cells.2]) (by rw [o40.cells.1]; first | done | rfl) (by rw [o40.cells.1]; first | done | exact Nat.le_refl _) ?_
 refine bgT (sqr 7 rfl ?_)
 refine Zo bk ?_
 refine pur 3 rfl (sp rfl (PE.add rfl rfl (by omega)) rfl ?_)
 refine cl rfl Z0s rfl rfl (ZC l0 a0 c0 bk hgl _ _ (by omega) (by assumption) (pr + 1) _ _) ?_
 rintro _ _ R1 ⟨x46, m46, hx46, rfl, hm46, rfl, hR1⟩
 obtain rfl := hR1.symm
 refine sp rfl (PE.sub rfl rfl (by omega)) rfl (pur 1 rfl (sqr 2 rfl (sp rfl (PE.add rfl rfl (by omega)) rfl (pur 1 rfl ?_))))
 exact Zm ⟨⟨(k + 1, pr - x46, l ++ [⟨x30, x32, x34, x36, pr⟩], tq2 + 1 + 1 + 1 + 1 + 1, m46), by omega, hri.more (x := x46) (by omega) (by omega) (by omega) (by omega) (by omega), by dsimp only; omega, by assumption⟩, o40.cast (by simp [grows])⟩ (fun w h => (h.del b39).perm (by first | exact .refl _ | exact List.Perm.cons _ (.refl _)))
 obtain rfl : k = n24 := by omega
 obtain ⟨ag, cg, he, hcg, hf⟩ := o'.freezeC
 rw [he]
 refine Zo bk ?_
 refine Sy.heap (H' := _) (fun w h => hf (h.perm (List.perm_middle (l₁ := o'.G) (a := _)).symm)) ?_
 rw [show (grows l).length = l.length from List.length_map _]
 rw [show (grows l).length = l.length from List.length_map _] at hcg
 have hgo : Gat.ok ⟨x15, x17, l⟩ := ⟨by simp only; omega, by simp only; omega, by simp only; omega, fun q hq => by have := hri.q q hq; exact ⟨by omega, this.2⟩, hri.bad⟩
 clear he hf
 refine Zb (Zc (Zc (ZA (sqt 4 rfl (pur 1 rfl ?_)))))
 refine cl rfl ZeA rfl rfl (Zbd l0 a0 c0 bk hgl _ _ (by omega) (by assumption) _ _) ?_
 rintro _ _ R1 ⟨q, tq5, mx5, hq, rfl, htq5, hmx5, rfl, hR1⟩
 obtain rfl := hR1.symm
 refine alc rfl Zca rfl (fun b11 => ?_)
 refine Z2l rfl rfl rfl Zcc rfl (by rw [ints_length]; exact hq.len) rfl (Zs _) ?_
 refine sqt 3 rfl ?_
 refine Zo bk ?_
 refine pur 1 rfl ?_
 refine cl rfl Z0s rfl rfl (ZC l0 a0 c0 bk hgl _ _ (by omega) (by assumption) (900) _ _) ?_
 rintro _ _ R1 ⟨x52, m52, hx52, rfl, hm52, rfl, hR1⟩
 obtain rfl := hR1.symm
 refine pur 1 rfl (sqt 8 rfl (pur 2 rfl ?_))
 refine cl rfl Z0s rfl rfl (ZC l0 a0 c0 bk hgl _ _ (by omega) (by assumption) (2000) _ _) ?_
 rintro _ _ R1 ⟨x55, m55, hx55, rfl, hm55, rfl, hR1⟩
 obtain rfl := hR1.symm
 refine sp rfl (PE.add rfl rfl (by omega)) rfl (pur 1 rfl (sp rfl (PE.build (out := ctl ⟨x52 + x55, x52, []⟩ (.slice none 0 0)) Zc3 Z4H rfl rfl) rfl (alc rfl Z4H rfl (fun b13 => ?_))))
 refine sto rfl rfl rfl Z5C rfl rfl rfl rfl ?_
 refine Z0 (sqt 5 rfl ?_)
 refine Zo bk ?_
 refine pur 2 rfl (sp rfl (PE.add rfl rfl (by omega)) rfl ?_)
 refine cl rfl Z0s rfl rfl (ZC l0 a0 c0 bk hgl _ _ (by omega) (by assumption) (nh + 1) _ _) ?_
 rintro _ _ R1 ⟨x62, m62, hx62, rfl, hm62, rfl, hR1⟩
 obtain rfl := hR1.symm
 refine pur 1 rfl (Z3 ?_)
 obtain ⟨n62, rfl⟩ : ∃ n : Nat, x62 = n := ⟨x62.toNat, by omega⟩
 refine Ze (ι := (x : {x : Nat × List Hnd × Int × Int // x.1 ≤ n62 ∧ (x.2.1.length = x.1 ∧ ∀ h ∈ x.2.1, h.ok ∧ Z72 x17 h q = true) ∧ (tq ≤ x.2.2.1 ∧ x.2.2.1 ≤ tq + 60 + 20 * x.1) ∧ (0 ≤ x.2.2.2 ∧ x.2.2.2 ≤ 4294967295)}) × OSl 43 5 (hrows x.1.2.1)) (fun x => ⟨[(0, .pointer (some ⟨bk, 0, none⟩)), (6, .pointer (some ⟨b6, 0, none⟩)), (7, .pointer (some ⟨b7, 0, none⟩)), (8, .pointer (some ⟨b8, 0, none⟩)), (9, .pointer (some ⟨b9, 0, none⟩)), (11, .pointer (some ⟨b11, 0, none⟩)), (13, .pointer (some ⟨b13, 0, none⟩)), (62, .int .i64 n62), (63, .int .i64 x.1.1.1)],
   (bk, cel 73 [.slice a0 l0.length c0, .int .i64 (x.1.1.2.2.1), .int .u32 (x.1.1.2.2.2)]) :: (x.2.G ++ (b13, cel 28 (ctl ⟨x52 + x55, x52, x.1.1.2.1⟩ x.2.fs)) :: (b11, cel 29 (Za q)) :: (b9, cel 25 (gtl ⟨x15, x17, l⟩ (.slice ag l.length cg))) :: (b8, cel 29 (Za [0, 0, 0, 0])) :: (b7, cel 28 [.int .i64 0, .int .i64 0, .slice none 0 0]) :: (b6, cel 25 [.int .i64 0, .int .i64 0, .slice none 0 0]) :: H), RowsA ag 5 (grows l) :: R⟩) (fun x => n62 - x.1.1.1) ⟨⟨(0, [], tq5 + 1 + 1 + 1, m62), by omega, ⟨rfl, by simp⟩, by dsimp only; omega, by assumption⟩, OSl.nil _ _⟩ ?_ (fun x => ?_)
 exact Zl idH
 obtain ⟨⟨⟨k, hds, tq3, mx3⟩, hk1, ⟨hkl, hkh⟩, htq3, hmx3⟩, o'⟩ := x
 dsimp only at hk1 hkl hkh htq3 hmx3 o' ⊢
 refine sqt 1 rfl (pur 1 rfl (Z0 ?_))
 refine Z2 rfl ?_ ?_ <;> intro hc1 <;> try simp only [cS] at hc1
 refine Z4 (Z0 (Z3 ?_))
 refine Z8 [0, 1, 0, 0, 0, 28, 60, 127, 255, 511] (.tk 0 (.ld 1 (.tk 2 (.ld 3 (.ld 4 (.big 5 (.big 6 (.big 7 (.tk 8 (.big 9 .done)))))))))) Zr (by kernel_rfl) ?_
 refine tk rfl (PE.fA Z0r rfl) rfl (ld rfl rfl (lh Z4K rfl rfl) rfl (Zg 1 rfl (ld rfl rfl (lhA (gtl ⟨x15, x17, l⟩ (.slice ag l.length cg)) Z5Y rfl rfl rfl) rfl (ld rfl rfl (lhA (Za (q)) Z3x rfl (rest := []) (by rw [List.append_nil]; rfl) (by rw [ints_length]; exact hq.len)) rfl ?_))))
 refine cl rfl Zd3 rfl rfl (c_Taken l0 a0 c0 bk hgl _ _ (by omega) (by assumption) ⟨x15, x17, l⟩ (by dsimp only; omega) (.slice ag l.length cg) q hq _ _) ?_
 rintro _ _ R1 ⟨h, tq4, mx4, hho, hhf, rfl, htq4, hmx4, rfl, hR1⟩
 obtain rfl := hR1.symm
 refine bg (fun w hs => ⟨trivial, trivial, (lh Z4K rfl rfl) w hs, trivial⟩) ?_
 refine bsl (out := [_, _, _, _, _]) rfl Zfv ZbJ rfl rfl rfl rfl rfl rfl (fun b71 => ?_)
 refine bg (fun w hs => ⟨(lh Z4K rfl rfl) w hs, trivial⟩) ?_
 refine apO (o') rfl Zfg rfl rfl (Z3g (row := Z1p h) rfl) rfl rfl ((by simp only [hrows, List.length_map, List.length_singleton]; omega)) rfl (fun o72 => ?_)
 refine bgT (tk rfl (PE.fA Z0r rfl) rfl ?_)
 refine ZQ (l' := ctl ⟨x52 + x55, x52, hds ++ [h]⟩ o72.fs) rfl rfl rfl Zg3 rfl (by rw [o72.cells.1]; first | done | rfl) (by rw [o72.cells.1]; simp [o72.cells.2]) (by rw [o72.cells.1]; first | done | rfl) (by rw [o72.cells.1]; first | done | exact Nat.le_refl _) ?_
 refine bgT (sqr 2 rfl ?_)
 refine Zo bk ?_
 refine sp rfl (PE.add rfl rfl (by omega)) rfl (pur 1 rfl ?_)
 exact Zm ⟨⟨(k + 1, hds ++ [h], tq4, mx4), by omega, ⟨by simp [hkl], fun x hx => by rcases List.mem_append.1 hx with hx | hx; exact hkh x hx; obtain rfl := List.mem_singleton.1 hx; exact ⟨hho, hhf⟩⟩, by dsimp only; omega, by assumption⟩, o72.cast (by simp [hrows])⟩ (fun w h => (h.del b71).perm (by first | exact .refl _ | exact List.Perm.cons _ (.refl _)))
 obtain rfl : k = n62 := by omega
 refine Zo bk ?_
 refine Zb (Zc (Zc (ZA (Z0 ?_))))
 refine Z8 [0, 0, 0, 1, 11, 31] (.ld 0 (.ld 1 (.ld 2 (.big 3 (.big 4 (.big 5 .done)))))) Zr (by kernel_rfl) ?_
 refine ld rfl rfl (lhA (gtl ⟨x15, x17, l⟩ (.slice ag l.length cg)) Z5Y rfl rfl rfl) rfl (ld rfl rfl (lhA (ctl ⟨x52 + x55, x52, hds⟩ o'.fs) Z1L rfl rfl rfl) rfl (ld rfl rfl (lhA (Za (q)) Z3x rfl (rest := []) (by rw [List.append_nil]; rfl) (by rw [ints_length]; exact hq.len)) rfl ?_))
 refine sto rfl rfl rfl ZdV rfl rfl rfl rfl ?_
 refine bg (fun w hs => ⟨(lhA (Za (q)) Z3x rfl (rest := []) (by rw [List.append_nil]; rfl) (by rw [ints_length]; exact hq.len)) w hs, (lhA (ctl ⟨x52 + x55, x52, hds⟩ o'.fs) Z1L rfl rfl rfl) w hs, trivial, trivial⟩) ?_
 refine ZQ (l' := ctl ⟨x52 + x55, x52, hds⟩ o'.fs) rfl rfl rfl Z5C rfl rfl (by show (ctl _ o'.fs).all (·.oneCell') = true; simp only [ctl, List.all_cons, List.all_nil, o'.cells.2, Bool.and_true]; rfl) rfl (Nat.le_refl _) ?_
 refine bg (fun w hs => ⟨(lhA (Za (q)) Z3x rfl (rest := []) (by rw [List.append_nil]; rfl) (by rw [ints_length]; exact hq.len)) w hs, trivial, trivial⟩) ?_
 refine Z2l rfl rfl rfl Zcc rfl (by rw [ints_length]; exact hq.len) rfl (Zs _) ?_
 refine bgT (Z1 ?_)
 have hco : Crt.ok ⟨x52 + x55, x52, hds⟩ := ⟨by simp only; omega, by simp only; omega, by simp only; omega, fun h hh => (hkh h hh).1⟩
 exact Z6 (vs := [_, _, _]) rfl (.cons (RV.cell rfl (lhA [_, _, _] Z5Y rfl rfl rfl)) (.cons (RV.cell rfl (lhA [_, _, _] Z1L rfl rfl rfl)) (.cons (RV.cell rfl (lhA (Za (q)) Z3x rfl (rest := []) (by rw [List.append_nil]; rfl) (by rw [ints_length]; exact hq.len))) .nil))) rfl ⟨⟨x15, x17, l⟩, ⟨x52 + x55, x52, hds⟩, q, ag, cg, tq3, mx3, o', ⟨hgo, hco, hq, by simp only; omega, by simp only; omega, fun h hh => (hkh h hh).2, by simp only; omega, by simp only; omega, by simp only; omega⟩, hcg, rfl, by omega, by assumption, rfl, rfl⟩ (fun w h => St.sub ((((((h.del b13).del b11).del b9).del b8).del b7).del b6))
theorem Fn.post {P : Program} {f : FuncId} {args : List Value} {H : Z7} {R : Z5} {Q Q' : Value → Z7 → Z5 → Prop} (h : Fn P f args H R Q) (hq : ∀ v H1 R1, Q v H1 R1 → ∃ H2 R2, Q' v H2 R2 ∧ ∀ w, St H1 R1 w → St H2 R2 w) : Fn P f args H R Q' :=
  fun w hs => CallsIn.mono (h w hs) fun e w' ⟨v, H1, R1, q, he, hs'⟩ => by obtain ⟨H2, R2, q2, hst⟩ := hq _ _ _ q; exact ⟨v, H2, R2, q2, he, hst _ hs'⟩
theorem c_Made (l0 : List Int) (a0 : Option Addr) (c0 bk : Nat) (hgl : l0.length ≤ 9223372036854775807) (tq mx : Int) (htq : 0 ≤ tq ∧ tq ≤ 1000) (hmx : 0 ≤ mx ∧ mx ≤ 4294967295) (ng nh : Int) (hng : 0 ≤ ng ∧ ng ≤ 4) (hnh : 0 ≤ nh ∧ nh ≤ 6) (H : Z7) (R : Z5) [hG : MemRows a0 1 (urows l0) R] :
    Fn Tryz.prog 4 [.pointer (some ⟨bk, 0, none⟩), .int .i64 ng, .int .i64 nh] ((bk, cel 73 [.slice a0 l0.length c0, .int .i64 (tq), .int .u32 (mx)]) :: H) R (fun v H' R' => ∃ (g : Gat) (c : Crt) (m : Mix) (ag : Option Addr) (cg : Nat) (ah : Option Addr) (ch : Nat) (tq' mx' : Int), MdOk ng nh g c m ∧ g.grs.length ≤ cg ∧ v = .tuple #[g.v (g.sl ag cg), c.v (c.sl ah ch), .agg (Za m).toArray] ∧ (tq ≤ tq' ∧ tq' ≤ tq + 200) ∧ (0 ≤ mx' ∧ mx' ≤ 4294967295) ∧ H' = (bk, cel 73 [.slice a0 l0.length c0, .int .i64 (tq'), .int .u32 (mx')]) :: H ∧ R' = RowsA ah 5 (hrows c.hs) :: RowsA ag 5 (grows g.grs) :: R) :=
  Fn.post (Zbp l0 a0 c0 bk hgl tq mx htq hmx ng nh hng hnh H R) (by
    rintro v _ _ ⟨g, c, m, ag, cg, tq', mx', o, h1, h2, rfl, h3, h4, rfl, rfl⟩
    obtain ⟨ah, ch, he, hf⟩ := o.freeze
    exact ⟨_, _, ⟨g, c, m, ag, cg, ah, ch, tq', mx', h1, h2, by rw [he, show (hrows c.hs).length = c.hs.length from List.length_map _]; rfl, h3, h4, rfl, rfl⟩, fun w h => hf (h.perm (List.perm_middle (l₁ := o.G) (a := _)).symm)⟩)
theorem Zbq {ng nh : Int} {g : Gat} {c : Crt} {m : Mix} (h : MdOk ng nh g c m) : Z1J g c = 0 ∧ Z0v g c false = 0 ∧ ∃ b, clo (Z3O g.miss c.hs fun _ => true) = some b ∧ Tight b ∧ ∀ m', Mx b m' ↔ (Mxt m' ∧ ∀ x ∈ c.hs, Z72 g.miss x m' = true) := by
  have h1 := gat_ok.2 h.gok
  have h2 := crt_ok.2 h.cok
  have h0 : Z1J g c = 0 := by simp [Z1J, h1, h2]
  have hmi := h.gok.miss
  have hiff : ∀ m', Mx (Z3O g.miss c.hs fun _ => true) m' ↔ (Mxt m' ∧ ∀ x ∈ c.hs, Z72 g.miss x m' = true) := fun m' => by
    rw [ZbT hmi.1 h.cok.hs]
    constructor
    · rintro ⟨h3, h4⟩
      refine ⟨h3, fun x hx => ?_⟩
      obtain ⟨i, hi⟩ := List.getElem?_of_mem hx
      exact h4 i x hi rfl
    · rintro ⟨h3, h4⟩
      exact ⟨h3, fun i x hx _ => h4 x (List.mem_of_getElem? hx)⟩
  cases hb : clo (Z3O g.miss c.hs fun _ => true) with
  | none => exact absurd ((hiff m).2 ⟨h.mix, h.fit⟩) (Z4C (Z4G _ _ _) hb m)
  | some b =>
    obtain ⟨h3, h4⟩ := Z1V (Z4G _ _ _) hb
    exact ⟨h0, by simp [Z0v, h0, hb], b, rfl, h3, fun m' => (h4 m').trans (hiff m')⟩
def Zbf : Crt := ⟨0, 0, []⟩
def Z4D (c : Crt) (h : Hnd) : Crt × Int := bif decide (c.check ≠ 0) then (Zbf, c.check) else bif decide (c.hs.length = 6) then (Zbf, 9) else bif decide (Crt.check { c with hs := c.hs ++ [h] } ≠ 0) then (Zbf, Crt.check { c with hs := c.hs ++ [h] }) else ({ c with hs := c.hs ++ [h] }, 0)
theorem Z2W (l : List Hnd) : (hrows l).flatten.length = 5 * l.length := by
  rw [Z0t (sz := 5) (Z1d l), hrows, List.length_map]; omega
theorem ZaJ (l : List Hnd) : (hrows l).flatten.all (·.oneCell') = true := by
  rw [List.all_eq_true]
  intro v hv
  obtain ⟨r, hr, hv⟩ := List.mem_flatten.1 hv
  obtain ⟨x, _, rfl⟩ := List.mem_map.1 hr
  simp only [Z1p, List.mem_cons, List.not_mem_nil, or_false] at hv
  rcases hv with rfl | rfl | rfl | rfl | rfl <;> rfl
theorem Z1g (n : Nat) : (Z3C n [Value.int .i64 0, .int .i64 0, .int .i64 0, .int .i64 0, .int .i64 0]).length = 5 * n := by
  rw [← Z3i, Z0t (sz := 5) (fun q hq => by rw [(List.mem_replicate.1 hq).2]; rfl), List.length_replicate]; omega
theorem Z6q (l : List Hnd) (h : Hnd) : spl (spl (Z3C (l.length + 1) [Value.int .i64 0, .int .i64 0, .int .i64 0, .int .i64 0, .int .i64 0]) 0 (hrows l).flatten) (0 + ((l.length : Nat) : Int).toNat * 5) (Z1p h) = (hrows (l ++ [h])).flatten := by
  have h1 := Z2W l
  have h2 := Z1g (l.length + 1)
  rw [show hrows (l ++ [h]) = hrows l ++ [Z1p h] by simp [hrows], List.flatten_append, List.flatten_singleton]
  unfold spl
  rw [List.take_zero, List.nil_append, Nat.zero_add, Nat.zero_add, Int.toNat_natCast, List.take_append_of_le_length (by omega), List.take_of_length_le (by omega), List.drop_append, List.drop_eq_nil_of_le (show (hrows l).flatten.length ≤ l.length * 5 + (Z1p h).length by rw [h1]; omega), List.nil_append, List.drop_drop, List.drop_eq_nil_of_le (by rw [h1, h2]; show 5 * (l.length + 1) ≤ 5 * l.length + (l.length * 5 + 5 - 5 * l.length); omega), List.append_nil]
theorem ZbE {b b' : Box} (hb : Tight b') (h : ∀ m, Mx b' m → Mx b m) {k : Nat} (hk : k < 4) : bl b k ≤ bl b' k ∧ bh b' k ≤ bh b k := by
  have hf := hb.fit k hk
  obtain ⟨m1, h1, e1⟩ := hb.had hk (v := bl b' k) ⟨Int.le_refl _, hf.1⟩
  obtain ⟨m2, h2, e2⟩ := hb.had hk (v := bh b' k) ⟨hf.1, Int.le_refl _⟩
  have h3 := (h m1 h1).at_ k hk
  have h4 := (h m2 h2).at_ k hk
  omega
theorem Zc7 {nh : Int} {g : Gat} {c : Crt} {m : Mix} (hm : MdOk 4 nh g c m) (hn : nh ≤ 5) {h : Hnd} (hh : h.ok) (hf : Z72 g.miss h m = true) : MdOk 4 6 g { c with hs := c.hs ++ [h] } m := by
  have h1 := hm.cok
  have h2 := hm.more
  refine ⟨hm.gok, ⟨by simp; omega, h1.full, h1.empty, fun x hx => ?_⟩, hm.mix, hm.err, hm.miss, fun x hx => ?_, hm.many, by simp; omega, hm.net⟩
  · rcases List.mem_append.1 hx with hx | hx
    · exact h1.hs x hx
    · obtain rfl := List.mem_singleton.1 hx; exact hh
  · rcases List.mem_append.1 hx with hx | hx
    · exact hm.fit x hx
    · obtain rfl := List.mem_singleton.1 hx; exact hf
theorem c_Take (c : Crt) (ah : Option Addr) (ch : Nat) (hlh : c.hs.length ≤ 9223372036854775807) (h : Hnd) (H : Z7) (R : Z5) [hA : MemRows ah 5 (hrows c.hs) R] :
    Fn Tryz.prog 7 [c.v (c.sl ah ch), .agg (Z1p h).toArray] H R (fun v H' R' => ∃ a cd, (Z4D c h).1.hs.length ≤ cd ∧ v = .tuple #[(Z4D c h).1.v ((Z4D c h).1.sl a cd), .int .i64 (Z4D c h).2] ∧ H' = H ∧ R' = RowsA a 5 (hrows (Z4D c h).1.hs) :: R) := by
 refine Z9 Tryz.func7 rfl Tryz.ntmps7 rfl ?_
 refine sqt 4 rfl (bx rfl rfl rfl (fun b2 => bx rfl rfl rfl (fun b3 => alc rfl Z4H rfl (fun b4 => pur 1 rfl (Z0 (sqt 3 rfl (spL rfl rfl (lhA [_, _, _] Z1L rfl rfl rfl) rfl ?_)))))))
 refine clV rfl Z9u rfl rfl (Z0Y c ah ch hlh _ _) ?_
 refine pur 1 rfl (sqt 2 rfl (pur 2 rfl ?_))
 refine Z2 rfl ?_ ?_ <;> intro hc0
 have e : Z4D c h = (Zbf, c.check) := by unfold Z4D; rw [dT (by simpa using hc0)]; rfl
 refine sqt 4 rfl (sp rfl (PE.build (out := [_, _, _]) Zc3 Z4H rfl rfl) rfl (pur 1 rfl ?_))
 refine sto rfl rfl rfl Z5C rfl rfl rfl rfl ?_
 refine pur 1 rfl (Z1 ?_)
 refine Sy.heap (fun w h9 => St.also h9 (f := RowsA none 5 []) (fun w9 _ => fun i row hi => by simp at hi)) ?_
 rw [e]
 exact Z6 (vs := [_, _]) rfl (.cons (RV.cell rfl (lhA [_, _, _] Z1L rfl rfl rfl)) (.cons (RV.tmp rfl) .nil)) rfl ⟨none, 0, Nat.le_refl _, rfl, rfl, (rfl : RowsA none 5 [] :: R = _)⟩ (fun w h => St.sub (((h.del b4).del b3).del b2))
 have h0 : c.check = 0 := by simpa using hc0
 have hco := crt_ok.1 h0
 have hmn := hco.many
 refine Z4 (Z0 (sqt 4 rfl (sp rfl (PE.fA Z0r rfl) rfl (spL rfl rfl (lh Z4K rfl rfl) rfl (sp rfl (PE.lenSl Z6b rfl) rfl (pur 1 rfl ?_))))))
 refine Z2 rfl ?_ ?_ <;> intro hc1 <;> try simp only [cS] at hc1
 have e : Z4D c h = (Zbf, 9) := by unfold Z4D; rw [dF (show ¬ c.check ≠ 0 by omega), dT (show c.hs.length = 6 by omega)]; rfl
 refine sqt 3 rfl (sp rfl (PE.build (out := [_, _, _]) Zc3 Z4H rfl rfl) rfl ?_)
 refine sto rfl rfl rfl Z5C rfl rfl rfl rfl ?_
 refine pur 1 rfl (Z1 ?_)
 refine Sy.heap (fun w h9 => St.also h9 (f := RowsA none 5 []) (fun w9 _ => fun i row hi => by simp at hi)) ?_
 rw [e]
 exact Z6 (vs := [_, _]) rfl (.cons (RV.cell rfl (lhA [_, _, _] Z1L rfl rfl rfl)) (.cons (RV.tmp rfl) .nil)) rfl ⟨none, 0, Nat.le_refl _, rfl, rfl, (rfl : RowsA none 5 [] :: R = _)⟩ (fun w h => St.sub (((h.del b4).del b3).del b2))
 refine Z4 (Z0 ?_)
 refine Z8 [0, 1, 0, 4, 0, 16, 48, 112, 240, 511, 0, 2047] (.tk 0 (.ld 1 (.tk 2 (.ld 3 (.tk 4 (.ld 5 (.tk 6 (.tk 7 (.any (.alt 8 (.tk 9 (.big 10 (.big 11 .done))) (.alt 10 (.big 8 (.tk 9 (.big 11 .done))) .stop))))))))))) Zr (by kernel_rfl) ?_
 refine tk rfl (PE.fA ZaA rfl) rfl (ld rfl rfl (lh sc3 rfl rfl) rfl (tk rfl (PE.fA Zay rfl) rfl (ld rfl rfl (lh sc3 rfl rfl) rfl (tk rfl (PE.fA Z0r rfl) rfl (ld rfl rfl (lh Z4K rfl rfl) rfl (tk rfl (PE.lenSl Z6b rfl) rfl (tk rfl (PE.add rfl rfl (by omega)) rfl ?_)))))))
 refine Zx ?_ ?_
 rw [show ((c.hs.length : Int) + 1) = ((c.hs.length + 1 : Nat) : Int) from by omega]
 refine mkS rfl Zfg ZbJ rfl rfl (Nat.le_refl _) ⟨by omega, by omega⟩ rfl (fun b28 => ?_)
 refine bg (fun w hs => ⟨trivial, (lh sc3 rfl rfl) w hs, (lh sc3 rfl rfl) w hs, trivial⟩) ?_
 refine tk rfl (PE.build (out := [.int .i64 c.full, .int .i64 c.empty, .slice (some ⟨b28, 0, none⟩) (c.hs.length + 1) (c.hs.length + 1)]) Zc3 Z4H rfl rfl) rfl (alc rfl Z4H rfl (fun b7 => ?_))
 refine bg (fun w hs => ⟨(lh sc3 rfl rfl) w hs, (lh sc3 rfl rfl) w hs, trivial⟩) ?_
 refine sto rfl rfl rfl Z5C rfl rfl rfl rfl ?_
 refine bgT (sqt 5 rfl (sp rfl (PE.fA Z0r rfl) rfl (spL rfl rfl (lh Z4K rfl rfl) rfl (sp rfl (PE.fA Z0r rfl) rfl (spL rfl rfl (lh Z4K rfl rfl) rfl ?_)))))
 refine Ze6 (rows := hrows c.hs) rfl Zfv rfl (by rw [show (hrows c.hs).length = c.hs.length from List.length_map _]; rfl) (Z1d _) (by rw [show (hrows c.hs).length = c.hs.length from List.length_map _]; omega) (ZaJ _) (by rw [Z2W, Z1g]; omega) rfl ?_
 refine sqt 8 rfl (sp rfl (PE.fA Z0r rfl) rfl (spL rfl rfl (lh Z4K rfl rfl) rfl (sp rfl (PE.fA Z0r rfl) rfl (spL rfl rfl (lh Z4K rfl rfl) rfl (sp rfl (PE.lenSl Z6b rfl) rfl (spL rfl rfl (lhA [_, _, _, _, _] Z9h rfl rfl rfl) rfl (sp rfl (PE.indexAddr ZdY rfl rfl (by omega) (by omega)) rfl ?_)))))))
 refine ZQ (l' := (hrows (c.hs ++ [h])).flatten) rfl rfl rfl Zce rfl rfl rfl (Z6q _ _) (by unfold spl; simp only [List.length_append, List.length_take, List.length_drop, Z1g, Z2W]; show 0 + ((c.hs.length : Nat) : Int).toNat * 5 + 5 ≤ _; omega) ?_
 refine Z0 (sqt 3 rfl ?_)
 refine Sy.heap (fun w h0 => St.rows (sz := 5) (rows := hrows (c.hs ++ [h])) (rest := []) (by rw [List.append_nil]; exact h0.pull b28) (Z1d _)) ?_
 rw [show c.hs.length + 1 = (c.hs ++ [h]).length from by simp]
 obtain ⟨d, hd⟩ : ∃ d : Crt, d = { c with hs := c.hs ++ [h] } := ⟨_, rfl⟩
 have hdh : c.hs ++ [h] = d.hs := by rw [hd]
 rw [hdh, show c.full = d.full from by rw [hd], show c.empty = d.empty from by rw [hd]]
 refine spL rfl rfl (lhA (ctl d (d.sl (some ⟨b28, 0, none⟩) d.hs.length)) Z1L rfl rfl rfl) rfl ?_
 refine clV rfl Z9u rfl rfl (Z0Y d (some ⟨b28, 0, none⟩) d.hs.length (by rw [← hdh]; simp; omega) _ _) ?_
 refine pur 1 rfl (sqt 2 rfl (pur 2 rfl ?_))
 refine Z2 rfl ?_ ?_ <;> intro hc2
 have e : Z4D c h = (Zbf, d.check) := by unfold Z4D; rw [dF (show ¬ c.check ≠ 0 by omega), dF (show ¬ c.hs.length = 6 by omega), ← hd, dT (by simpa using hc2)]; rfl
 refine sqt 4 rfl (sp rfl (PE.build (out := [_, _, _]) Zc3 Z4H rfl rfl) rfl (pur 1 rfl ?_))
 refine sto rfl rfl rfl Z5C rfl rfl rfl rfl ?_
 refine pur 1 rfl (Z1 ?_)
 refine Sy.heap (fun w h9 => St.also h9.ftail (f := RowsA none 5 []) (fun w9 _ => fun i row hi => by simp at hi)) ?_
 rw [e]
 exact Z6 (vs := [_, _]) rfl (.cons (RV.cell rfl (lhA [_, _, _] Z1L rfl rfl rfl)) (.cons (RV.tmp rfl) .nil)) rfl ⟨none, 0, Nat.le_refl _, rfl, rfl, (rfl : RowsA none 5 [] :: R = _)⟩ (fun w h => St.sub ((((h.del b7).del b4).del b3).del b2))
 have e : Z4D c h = (d, 0) := by unfold Z4D; rw [dF (show ¬ c.check ≠ 0 by omega), dF (show ¬ c.hs.length = 6 by omega), ← hd, dF (by simpa using hc2)]; rfl
 refine Z4 (sqt 3 rfl (spL rfl rfl (lhA (ctl d (d.sl (some ⟨b28, 0, none⟩) d.hs.length)) Z1L rfl rfl rfl) rfl ?_))
 refine sto rfl rfl rfl Z5C rfl rfl rfl rfl ?_
 refine pur 1 rfl (Z1 ?_)
 rw [e]
 exact Z6 (vs := [_, _]) rfl (.cons (RV.cell rfl (lhA [_, _, _] Z1L rfl rfl rfl)) (.cons (RV.tmp rfl) .nil)) rfl ⟨some ⟨b28, 0, none⟩, d.hs.length, Nat.le_refl _, rfl, rfl, (rfl : RowsA (some ⟨b28, 0, none⟩) 5 (hrows d.hs) :: R = _)⟩ (fun w h => St.sub ((((h.del b7).del b4).del b3).del b2))
 refine Zx ?_ ?_
 refine alc rfl Z4H rfl (fun b7 => ?_)
 refine bg (fun w hs => ⟨(lh Z4K rfl rfl) w hs, (lh sc3 rfl rfl) w hs, (lh sc3 rfl rfl) w hs, trivial⟩) ?_
 rw [show ((c.hs.length : Int) + 1) = ((c.hs.length + 1 : Nat) : Int) from by omega]
 refine mkS rfl Zfg ZbJ rfl rfl (Nat.le_refl _) ⟨by omega, by omega⟩ rfl (fun b28 => ?_)
 refine bg (fun w hs => ⟨trivial, (lh sc3 rfl rfl) w hs, (lh sc3 rfl rfl) w hs, trivial⟩) ?_
 refine tk rfl (PE.build (out := [.int .i64 c.full, .int .i64 c.empty, .slice (some ⟨b28, 0, none⟩) (c.hs.length + 1) (c.hs.length + 1)]) Zc3 Z4H rfl rfl) rfl ?_
 refine sto rfl rfl rfl Z5C rfl rfl rfl rfl ?_
 refine bgT (sqt 5 rfl (sp rfl (PE.fA Z0r rfl) rfl (spL rfl rfl (lh Z4K rfl rfl) rfl (sp rfl (PE.fA Z0r rfl) rfl (spL rfl rfl (lh Z4K rfl rfl) rfl ?_)))))
 refine Ze6 (rows := hrows c.hs) rfl Zfv rfl (by rw [show (hrows c.hs).length = c.hs.length from List.length_map _]; rfl) (Z1d _) (by rw [show (hrows c.hs).length = c.hs.length from List.length_map _]; omega) (ZaJ _) (by rw [Z2W, Z1g]; omega) rfl ?_
 refine sqt 8 rfl (sp rfl (PE.fA Z0r rfl) rfl (spL rfl rfl (lh Z4K rfl rfl) rfl (sp rfl (PE.fA Z0r rfl) rfl (spL rfl rfl (lh Z4K rfl rfl) rfl (sp rfl (PE.lenSl Z6b rfl) rfl (spL rfl rfl (lhA [_, _, _, _, _] Z9h rfl rfl rfl) rfl (sp rfl (PE.indexAddr ZdY rfl rfl (by omega) (by omega)) rfl ?_)))))))
 refine ZQ (l' := (hrows (c.hs ++ [h])).flatten) rfl rfl rfl Zce rfl rfl rfl (Z6q _ _) (by unfold spl; simp only [List.length_append, List.length_take, List.length_drop, Z1g, Z2W]; show 0 + ((c.hs.length : Nat) : Int).toNat * 5 + 5 ≤ _; omega) ?_
 refine Z0 (sqt 3 rfl ?_)
 refine Sy.heap (fun w h0 => St.rows (sz := 5) (rows := hrows (c.hs ++ [h])) (rest := []) (by rw [List.append_nil]; exact h0.pull b28) (Z1d _)) ?_
 rw [show c.hs.length + 1 = (c.hs ++ [h]).length from by simp]
 obtain ⟨d, hd⟩ : ∃ d : Crt, d = { c with hs := c.hs ++ [h] } := ⟨_, rfl⟩
 have hdh : c.hs ++ [h] = d.hs := by rw [hd]
 rw [hdh, show c.full = d.full from by rw [hd], show c.empty = d.empty from by rw [hd]]
 refine spL rfl rfl (lhA (ctl d (d.sl (some ⟨b28, 0, none⟩) d.hs.length)) Z1L rfl rfl rfl) rfl ?_
 refine clV rfl Z9u rfl rfl (Z0Y d (some ⟨b28, 0, none⟩) d.hs.length (by rw [← hdh]; simp; omega) _ _) ?_
 refine pur 1 rfl (sqt 2 rfl (pur 2 rfl ?_))
 refine Z2 rfl ?_ ?_ <;> intro hc2
 have e : Z4D c h = (Zbf, d.check) := by unfold Z4D; rw [dF (show ¬ c.check ≠ 0 by omega), dF (show ¬ c.hs.length = 6 by omega), ← hd, dT (by simpa using hc2)]; rfl
 refine sqt 4 rfl (sp rfl (PE.build (out := [_, _, _]) Zc3 Z4H rfl rfl) rfl (pur 1 rfl ?_))
 refine sto rfl rfl rfl Z5C rfl rfl rfl rfl ?_
 refine pur 1 rfl (Z1 ?_)
 refine Sy.heap (fun w h9 => St.also h9.ftail (f := RowsA none 5 []) (fun w9 _ => fun i row hi => by simp at hi)) ?_
 rw [e]
 exact Z6 (vs := [_, _]) rfl (.cons (RV.cell rfl (lhA [_, _, _] Z1L rfl rfl rfl)) (.cons (RV.tmp rfl) .nil)) rfl ⟨none, 0, Nat.le_refl _, rfl, rfl, (rfl : RowsA none 5 [] :: R = _)⟩ (fun w h => St.sub ((((h.del b7).del b4).del b3).del b2))
 have e : Z4D c h = (d, 0) := by unfold Z4D; rw [dF (show ¬ c.check ≠ 0 by omega), dF (show ¬ c.hs.length = 6 by omega), ← hd, dF (by simpa using hc2)]; rfl
 refine Z4 (sqt 3 rfl (spL rfl rfl (lhA (ctl d (d.sl (some ⟨b28, 0, none⟩) d.hs.length)) Z1L rfl rfl rfl) rfl ?_))
 refine sto rfl rfl rfl Z5C rfl rfl rfl rfl ?_
 refine pur 1 rfl (Z1 ?_)
 rw [e]
 exact Z6 (vs := [_, _]) rfl (.cons (RV.cell rfl (lhA [_, _, _] Z1L rfl rfl rfl)) (.cons (RV.tmp rfl) .nil)) rfl ⟨some ⟨b28, 0, none⟩, d.hs.length, Nat.le_refl _, rfl, rfl, (rfl : RowsA (some ⟨b28, 0, none⟩) 5 (hrows d.hs) :: R = _)⟩ (fun w h => St.sub ((((h.del b7).del b4).del b3).del b2))
 exact ZP
theorem bx_lo {b : Box} (hb : b.length = 8) {k : Nat} (hk : k < 4) : (Za b)[0 + ((k : Nat) : Int).toNat * 2 + 0]? = some (.int .i64 (bl b k)) := by
  obtain ⟨a0, a1, a2, a3, a4, a5, a6, a7, rfl⟩ := Z3z hb
  rcases lt4 hk with rfl | rfl | rfl | rfl <;> rfl
theorem bx_hi {b : Box} (hb : b.length = 8) {k : Nat} (hk : k < 4) : (Za b)[0 + ((k : Nat) : Int).toNat * 2 + 1]? = some (.int .i64 (bh b k)) := by
  obtain ⟨a0, a1, a2, a3, a4, a5, a6, a7, rfl⟩ := Z3z hb
  rcases lt4 hk with rfl | rfl | rfl | rfl <;> rfl
structure BndP (g : Gat) (c : Crt) (m : Mix) (b : Box) : Prop where
  told : Z0v g c false = 0
  bnd : Z9y g c = b
  tight : Tight b
  can : Zdu g c = Zbx g.grs b
  mx : ∀ m', Mx b m' ↔ (Mxt m' ∧ ∀ x ∈ c.hs, Z72 g.miss x m' = true)
  at_ : ∀ k < 4, 0 ≤ bl b k ∧ bl b k ≤ nn m k ∧ nn m k ≤ bh b k ∧ bh b k ≤ 40
  wgt : ∀ k < 4, ZfL g c (k : Nat) = .tuple #[spv ((Zbb g c).1 * bl b k / 40) ((Zbb g c).2 * bh b k / 40), .int .i64 0]
theorem md_bnd {ng nh : Int} {g : Gat} {c : Crt} {m : Mix} (h : MdOk ng nh g c m) : ∃ b, BndP g c m b := by
  obtain ⟨h0, h1, b, hb, hbt, hmx⟩ := Zbq h
  have hm := (hmx m).2 ⟨h.mix, h.fit⟩
  refine ⟨b, h1, Z8V h1 hb, hbt, ZaW h1 hb, hmx, fun k hk => ?_, fun k hk => ?_⟩
  · have h2 := hm.at_ k hk
    have h3 := hbt.ok.at_ k hk
    omega
  · have hi : (!(inb (k : Nat) 0 3)) = false := by simp [inb]; omega
    unfold ZfL
    rw [hi, decide_eq_false (show ¬ Z0v g c false ≠ 0 by omega), Z8V h1 hb]; rfl
theorem tak_md {nh : Int} {g : Gat} {c : Crt} {m : Mix} (hm : MdOk 4 nh g c m) (hn : nh ≤ 5) {h : Hnd} (hh : h.ok) (hf : Z72 g.miss h m = true) : ∃ d : Crt, Z4D c h = (d, 0) ∧ MdOk 4 6 g d m ∧ d.hs = c.hs ++ [h] ∧ d.full = c.full ∧ d.empty = c.empty := by
  have hd := Zc7 hm hn hh hf
  have h1 := crt_ok.2 hm.cok
  have h2 := crt_ok.2 hd.cok
  have h3 := hm.more
  exact ⟨_, by unfold Z4D; rw [decide_eq_false (show ¬ c.check ≠ 0 by omega), decide_eq_false (show ¬ c.hs.length = 6 by omega), decide_eq_false (show ¬ Crt.check { c with hs := c.hs ++ [h] } ≠ 0 by omega)]; rfl, hd, rfl, rfl, rfl⟩
structure MoreP (g : Gat) (c d : Crt) (b b' : Box) (l l' : List Int) : Prop where
  at_ : ∀ k < 4, bl b k ≤ bl b' k ∧ bh b' k ≤ bh b k
  can : Zdu g c = l
  can' : Zdu g d = l'
  sub : ∀ x ∈ l', x ∈ l
  few : l.length ≤ g.grs.length + 1
  few' : l'.length ≤ g.grs.length + 1
  net : Zbb g d = Zbb g c
theorem md_more {nh nh' : Int} {g : Gat} {c d : Crt} {m : Mix} {b b' : Box} {h : Hnd} (hb : BndP g c m b) (hb' : BndP g d m b') (hd : d.hs = c.hs ++ [h]) (hf : d.full = c.full) (he : d.empty = c.empty) : ∃ l l', MoreP g c d b b' l l' := by
  have hsub : ∀ m', Mx b' m' → Mx b m' := fun m' h1 => by
    obtain ⟨h2, h3⟩ := (hb'.mx m').1 h1
    exact (hb.mx m').2 ⟨h2, fun x hx => h3 x (by rw [hd]; simp [hx])⟩
  refine ⟨_, _, fun k hk => ZbE hb'.tight hsub hk, hb.can, hb'.can, fun x hx => ?_, Z8v _ _, Z8v _ _, by unfold Zbb; rw [hf, he]⟩
  obtain ⟨m', h1, h2⟩ := (Z7R hb'.tight.ok).1 hx
  exact (Z7R hb.tight.ok).2 ⟨m', hsub m' h1, h2⟩
end Go.Proofs.YtelnhmimhfjacaaGreat.Gt
namespace Go.Proofs.YtelnhmimhfjacaaGreat.Ht
set_option linter.unusedSimpArgs false
set_option linter.unusedVariables false
structure HBin where
  warm : Int
  mark : Int
  lo : Int
  hi : Int
  deriving DecidableEq, Repr
structure Barn where
  cool : Int
  gangs : Int
  rise : List Int
  bins : List HBin
  deriving DecidableEq, Repr
def na (l : List Int) (k : Nat) : Int := l.getD k 0
@[reducible] def inB (n lo hi : Int) : Bool := decide (lo ≤ n) && decide (n ≤ hi)
def HBin.ok (x : HBin) : Bool := inB x.mark 0 60 && inB x.warm 0 x.mark && inB x.lo 0 5 && inB x.hi 0 5
def Z1x (n : Int) : Bool := decide (n = 0) || inB n 6 20
def srt : List Int → Bool
  | x :: y :: l => decide (x ≤ y) && srt (y :: l)
  | _ => true
def Barn.check (b : Barn) : Int :=
  bif !(inB b.bins.length 1 4) then 2 else
  bif !(inB b.cool 0 60) || !(inB b.gangs 0 3) then 3 else
  bif !(b.rise.all Z1x) then 3 else
  bif !(b.bins.all HBin.ok) then 3 else
  bif !(srt b.rise) || !(b.bins.all fun x => decide (x.lo ≤ x.hi)) then 4 else 0
structure Barn.ok (b : Barn) : Prop where
  len : b.rise.length = 6
  many : 1 ≤ b.bins.length ∧ b.bins.length ≤ 4
  cool : 0 ≤ b.cool ∧ b.cool ≤ 60
  gangs : 0 ≤ b.gangs ∧ b.gangs ≤ 4
  rise : ∀ n ∈ b.rise, n = 0 ∨ (6 ≤ n ∧ n ≤ 20)
  bins : ∀ x ∈ b.bins, (0 ≤ x.mark ∧ x.mark ≤ 60) ∧ (0 ≤ x.warm ∧ x.warm ≤ x.mark) ∧ (0 ≤ x.lo ∧ x.lo ≤ 5) ∧ (0 ≤ x.hi ∧ x.hi ≤ 5)
  srt : srt b.rise = true
  ord : ∀ x ∈ b.bins, x.lo ≤ x.hi
theorem Barn.ok_of {b : Barn} (hl : b.rise.length = 6) (h : b.check = 0) : b.ok := by
  unfold Barn.check at h
  simp only [Bool.cond_eq_ite] at h
  split at h <;> try (exact absurd h (by decide))
  split at h <;> try (exact absurd h (by decide))
  split at h <;> try (exact absurd h (by decide))
  split at h <;> try (exact absurd h (by decide))
  split at h <;> try (exact absurd h (by decide))
  rename_i h1 h2 h3 h4 h5
  simp only [Bool.not_eq_true', Bool.not_eq_true, Bool.or_eq_true, not_or, Bool.not_eq_false', Bool.not_eq_false, inB, Bool.and_eq_true, decide_eq_true_eq, List.all_eq_true, Z1x, HBin.ok] at h1 h2 h3 h4 h5
  refine ⟨hl, ⟨by omega, by omega⟩, h2.1, ⟨h2.2.1, by omega⟩, fun n hn => ?_, fun x hx => ?_, h5.1, fun x hx => by simpa using h5.2 x hx⟩
  · have := h3 n hn; simpa [Z1x] using this
  · have := h4 x hx; exact ⟨this.1.1.1, this.1.1.2, this.1.2, this.2⟩
def Barn.worst (b : Barn) (x : HBin) : Int := na b.rise x.hi.toNat
def Barn.least (b : Barn) (x : HBin) : Int := na b.rise x.lo.toNat
def Z00 (rise mark warm : Int) : Int := bif decide (rise = 0) then 1000000 else bif decide (mark < warm) then 0 else (mark - warm) / rise
def Barn.days (b : Barn) (x : HBin) (warm : Int) : Int := Z00 (b.worst x) x.mark warm
def pad (l : List Int) : List Int := l ++ List.replicate (4 - l.length) 0
abbrev HSt := List Int
def Barn.state (b : Barn) : HSt := pad (b.bins.map fun x => b.days x x.warm)
def Barn.lasts (b : Barn) : HSt := pad (b.bins.map fun x => b.days x b.cool)
def Barn.most (b : Barn) : HSt := pad (b.bins.map fun x => max (b.days x x.warm) (b.days x b.cool))
structure Dsk where
  n : Nat
  gangs : Int
  lasts : HSt
  most : HSt
  deriving DecidableEq
def Barn.dsk (b : Barn) : Dsk := ⟨b.bins.length, b.gangs, b.lasts, b.most⟩
def ZF (n set : Nat) : List Nat := (List.range n).filter fun k => set.testBit k
def Dsk.g (d : Dsk) : Int := min d.gangs d.n
def Dsk.may (d : Dsk) (full : Bool) (l : List Nat) : Bool := !(decide (d.g < (l.length : Int)) || (full && decide ((l.length : Int) < d.g)))
def Dsk.trs (d : Dsk) (full : Bool) : List (List Nat) := ((List.range (2 ^ d.n)).map (ZF d.n)).filter (d.may full)
def Dsk.up (d : Dsk) (s : HSt) (k : Nat) : HSt := s.set k (max (na s k) (na d.lasts k))
def dn (s : HSt) : Nat → Option HSt
  | 0 => some s
  | k + 1 => match dn s k with
    | none => none
    | some t => bif decide (na t k = 1000000) then some t else bif decide (na t k - 1 < 0) then none else some (t.set k (na t k - 1))
def Dsk.next (d : Dsk) (s : HSt) (l : List Nat) : Option HSt := dn (l.foldl d.up s) d.n
def Z2h : List Nat → Nat → List Nat
  | [], _ => []
  | z :: zs, i => (i % z) :: Z2h zs (i / z)
def prd : List Nat → Nat
  | [] => 1
  | z :: zs => z * prd zs
def inc : List Nat → List Nat → List Nat
  | z :: zs, x :: xs => bif decide (x + 1 = z) then 0 :: inc zs xs else (x + 1) :: xs
  | _, xs => xs
theorem Z6x : ∀ (zs : List Nat) (i : Nat), (∀ z ∈ zs, 0 < z) → Z2h zs (i + 1) = inc zs (Z2h zs i)
  | [], i, _ => rfl
  | z :: zs, i, h => by
    have hz := h z (by simp)
    unfold inc Z2h
    have hm := Nat.mod_lt i hz
    by_cases hc : i % z + 1 = z
    · have e1 : (i + 1) % z = 0 := by
        have : i + 1 = z * (i / z + 1) := by have := Nat.div_add_mod i z; rw [Nat.mul_add]; omega
        rw [this, Nat.mul_mod_right]
      have e2 : (i + 1) / z = i / z + 1 := by
        have : i + 1 = z * (i / z + 1) := by have := Nat.div_add_mod i z; rw [Nat.mul_add]; omega
        rw [this, Nat.mul_div_cancel_left _ hz]
      rw [e1, e2, Z6x zs _ (fun y hy => h y (by simp [hy]))]
      simp [hc]
    · have e0 : i + 1 = z * (i / z) + (i % z + 1) := by have := Nat.div_add_mod i z; omega
      have hlt : i % z + 1 < z := by omega
      have e1 : (i + 1) % z = i % z + 1 := by
        conv => lhs; rw [e0]
        rw [Nat.mul_add_mod, Nat.mod_eq_of_lt hlt]
      have e2 : (i + 1) / z = i / z := by
        conv => lhs; rw [e0]
        rw [Nat.mul_add_div hz, Nat.div_eq_of_lt hlt]; omega
      rw [e1, e2]
      simp [hc]
theorem Z2H : ∀ (zs : List Nat) (i : Nat), (Z2h zs i).length = zs.length
  | [], _ => rfl
  | _ :: zs, i => by simp [Z2h, Z2H zs]
theorem Z8d : ∀ (zs : List Nat) (i : Nat), (∀ z ∈ zs, 0 < z) → ∀ (k z : Nat), zs[k]? = some z → ∃ x : Nat, (Z2h zs i)[k]? = some x ∧ x < z
  | [], _, _, k, z, h => by simp at h
  | z :: zs, i, h, 0, z', hk => by
    simp only [List.getElem?_cons_zero, Option.some.injEq] at hk
    subst hk
    exact ⟨i % z, rfl, Nat.mod_lt _ (h z (by simp))⟩
  | z :: zs, i, h, k + 1, z', hk => by
    simpa [Z2h] using Z8d zs (i / z) (fun y hy => h y (by simp [hy])) k z' (by simpa using hk)
def Z7u : List Nat → List Nat → Nat
  | z :: zs, x :: xs => x + z * Z7u zs xs
  | _, _ => 0
theorem Z5o : ∀ (zs xs : List Nat), xs.length = zs.length → (∀ (k z x : Nat), zs[k]? = some z → xs[k]? = some x → x < z) → Z2h zs (Z7u zs xs) = xs ∧ Z7u zs xs < prd zs
  | [], [], _, _ => ⟨rfl, by decide⟩
  | [], _ :: _, h, _ => by simp at h
  | _ :: _, [], h, _ => by simp at h
  | z :: zs, x :: xs, hl, h => by
    have hx : x < z := h 0 z x rfl rfl
    obtain ⟨ih, ih2⟩ := Z5o zs xs (by simpa using hl) (fun k z' x' h1 h2 => h (k + 1) z' x' (by simpa using h1) (by simpa using h2))
    have e1 : (x + z * Z7u zs xs) % z = x := by rw [Nat.add_mul_mod_self_left, Nat.mod_eq_of_lt hx]
    have e2 : (x + z * Z7u zs xs) / z = Z7u zs xs := by rw [Nat.add_mul_div_left _ _ (by omega), Nat.div_eq_of_lt hx]; omega
    refine ⟨?_, ?_⟩
    · unfold Z2h Z7u
      rw [e1, e2, ih]
    · unfold Z7u prd
      calc x + z * Z7u zs xs < z + z * Z7u zs xs := by omega
        _ = z * (Z7u zs xs + 1) := by rw [Nat.mul_add]; omega
        _ ≤ z * prd zs := Nat.mul_le_mul_left z ih2
def Dsk.zs (d : Dsk) : List Nat := (d.most.take d.n).map fun m => bif decide (m = 1000000) then 1 else m.toNat + 1
def Ze5 (most : List Int) (xs : List Nat) : HSt := pad (List.zipWith (fun (m : Int) (x : Nat) => bif decide (m = 1000000) then (1000000 : Int) else (x : Int)) most xs)
def Dsk.sat (d : Dsk) (i : Nat) : HSt := Ze5 (d.most.take d.n) (Z2h d.zs i)
def Dsk.nst (d : Dsk) : Nat := prd d.zs
def Dsk.sts (d : Dsk) : List HSt := (List.range d.nst).map d.sat
def Dsk.helped (d : Dsk) (A : List HSt) (s : HSt) : Bool := (d.trs true).any fun l => match d.next s l with
  | some t => A.contains t
  | none => false
def Dsk.alive (d : Dsk) : Nat → List HSt
  | 0 => d.sts
  | n + 1 => (d.alive n).filter (d.helped (d.alive n))
def Dsk.lvl (d : Dsk) : Nat → HSt → Int
  | 0, _ => 1000000
  | n + 1, s => bif decide (d.lvl n s = 1000000) && !((d.alive (n + 1)).contains s) then (n : Int) else d.lvl n s
structure Sml (s : HSt) : Prop where
  len : s.length = 4
  at_ : ∀ k < 4, 0 ≤ na s k ∧ na s k ≤ 1000000
theorem Z2j {s : List Int} {k j : Nat} {v : Int} (hk : k < s.length) : na (s.set k v) j = if k = j then v else na s j := by
  unfold na
  rw [List.getD_eq_getElem?_getD, List.getD_eq_getElem?_getD, List.getElem?_set]
  by_cases h : k = j
  · subst h; rw [if_pos rfl, if_pos rfl, if_pos hk]; rfl
  · rw [if_neg h, if_neg h]
theorem Sml.set {s : HSt} (h : Sml s) {k : Nat} (hk : k < 4) {v : Int} (hv : 0 ≤ v ∧ v ≤ 1000000) : Sml (s.set k v) where
  len := by rw [List.length_set]; exact h.len
  at_ j hj := by rw [Z2j (by rw [h.len]; exact hk)]; split; exact hv; exact h.at_ j hj
theorem Dsk.up_sml {d : Dsk} (hd : Sml d.lasts) {s : HSt} (h : Sml s) {k : Nat} (hk : k < 4) : Sml (d.up s k) := by
  have h1 := hd.at_ k hk
  have h2 := h.at_ k hk
  exact h.set hk (by omega)
theorem Dsk.ups_sml {d : Dsk} (hd : Sml d.lasts) : ∀ {l : List Nat} {s : HSt}, Sml s → (∀ k ∈ l, k < 4) → Sml (l.foldl d.up s)
  | [], _, h, _ => h
  | k :: l, s, h, hl => ups_sml (s := d.up s k) hd (d.up_sml hd h (hl k (by simp))) (fun j hj => hl j (by simp [hj]))
theorem Zap {s : HSt} (h : Sml s) : ∀ {k : Nat} {t : HSt}, k ≤ 4 → dn s k = some t → Sml t
  | 0, t, _, e => by simp only [dn, Option.some.injEq] at e; exact e ▸ h
  | k + 1, t, hk, e => by
    unfold dn at e
    split at e
    · cases e
    · rename_i u hu
      have hm := Zap h (by omega) hu
      have h1 := hm.at_ k (by omega)
      by_cases h2 : na u k = 1000000
      · rw [decide_eq_true h2, cond_true] at e; cases e; exact hm
      · rw [decide_eq_false h2, cond_false] at e
        by_cases h3 : na u k - 1 < 0
        · rw [decide_eq_true h3] at e; cases e
        · rw [decide_eq_false h3, cond_false] at e; cases e
          exact hm.set (by omega) (by omega)
theorem ZbU {s : HSt} {n : Nat} : ∀ {k : Nat}, k ≤ n → dn s k = none → dn s n = none := by
  intro k hk h
  induction n with
  | zero => obtain rfl : k = 0 := by omega
            exact h
  | succ n ih =>
    rcases Nat.lt_or_ge n k with h1 | h1
    · obtain rfl : k = n + 1 := by omega
      exact h
    · unfold dn; rw [ih h1]
theorem Z30 {n set k : Nat} (h : k ∈ ZF n set) : k < n := by
  unfold ZF at h
  exact List.mem_range.1 (List.mem_filter.1 h).1
theorem Z0X (n set : Nat) : (ZF n set).length ≤ n := by
  unfold ZF
  exact Nat.le_trans (List.length_filter_le _ _) (by simp)
theorem Z36 (n set : Nat) : ZF (n + 1) set = ZF n set ++ (bif set.testBit n then [n] else []) := by
  unfold ZF
  rw [List.range_succ, List.filter_append]
  cases h : set.testBit n <;> simp [h]
theorem Dsk.trs_lt {d : Dsk} {full : Bool} {l : List Nat} (h : l ∈ d.trs full) : ∀ k ∈ l, k < d.n := by
  intro k hk
  unfold Dsk.trs at h
  obtain ⟨h1, _⟩ := List.mem_filter.1 h
  obtain ⟨i, _, rfl⟩ := List.mem_map.1 h1
  exact Z30 hk
theorem Z7t {s t : List Int} (hs : s.length = 4) (ht : t.length = 4) (h : ∀ k < 4, na s k = na t k) : s = t := by
  refine List.ext_getElem? fun k => ?_
  rcases Nat.lt_or_ge k 4 with h1 | h1
  · have := h k h1
    unfold na at this
    rw [List.getD_eq_getElem?_getD, List.getD_eq_getElem?_getD, List.getElem?_eq_getElem (by omega), List.getElem?_eq_getElem (by omega)] at this
    rw [List.getElem?_eq_getElem (by omega), List.getElem?_eq_getElem (by omega)]
    simpa using this
  · rw [List.getElem?_eq_none (by omega), List.getElem?_eq_none (by omega)]
structure Dsk.ok (d : Dsk) : Prop where
  n : 1 ≤ d.n ∧ d.n ≤ 4
  gangs : 0 ≤ d.gangs ∧ d.gangs ≤ 4
  lasts : Sml d.lasts
  most : Sml d.most
  le : ∀ k < d.n, na d.lasts k ≤ na d.most k
  ever : ∀ k < d.n, (na d.lasts k = 1000000 ∨ na d.lasts k ≤ 10) ∧ (na d.most k = 1000000 ∨ na d.most k ≤ 10) ∧ (na d.lasts k = 1000000 ↔ na d.most k = 1000000)
theorem Dsk.zs_len {d : Dsk} (hd : d.ok) : d.zs.length = d.n := by
  unfold Dsk.zs; rw [List.length_map, List.length_take, hd.most.len]; have := hd.n; omega
theorem Dsk.zs_get {d : Dsk} (hd : d.ok) {k : Nat} (hk : k < d.n) : d.zs[k]? = some (bif decide (na d.most k = 1000000) then 1 else (na d.most k).toNat + 1) := by
  unfold Dsk.zs
  have h4 := hd.most.len
  have hn := hd.n
  rw [List.getElem?_map, List.getElem?_take, if_pos hk]
  unfold na
  rw [List.getD_eq_getElem?_getD, List.getElem?_eq_getElem (by omega)]
  rfl
theorem Dsk.zs_pos {d : Dsk} : ∀ z ∈ d.zs, 0 < z := by
  intro z hz
  unfold Dsk.zs at hz
  obtain ⟨m, _, rfl⟩ := List.mem_map.1 hz
  cases h : decide (m = 1000000) <;> simp
theorem Dsk.zw_len {d : Dsk} (hd : d.ok) {xs : List Nat} (hx : xs.length = d.n) (f : Int → Nat → Int) : (List.zipWith f (d.most.take d.n) xs).length = d.n := by
  rw [List.length_zipWith, List.length_take, hd.most.len]; have := hd.n; omega
theorem Z20 {l : List Int} (h : l.length ≤ 4) : (pad l).length = 4 := by simp [pad]; omega
theorem Dsk.toSt_at {d : Dsk} (hd : d.ok) {xs : List Nat} (hx : xs.length = d.n) {k : Nat} (hk : k < 4) : na (Ze5 (d.most.take d.n) xs) k = if k < d.n then (bif decide (na d.most k = 1000000) then 1000000 else ((xs.getD k 0 : Nat) : Int)) else 0 := by
  have hl := d.zw_len hd hx (fun (m : Int) (x : Nat) => bif decide (m = 1000000) then (1000000 : Int) else (x : Int))
  have hn := hd.n
  have h4 := hd.most.len
  unfold Ze5 pad
  by_cases h : k < d.n
  · rw [if_pos h]
    unfold na
    rw [List.getD_eq_getElem?_getD, List.getElem?_append_left (by omega), List.getElem?_zipWith, List.getElem?_take, if_pos h, List.getD_eq_getElem?_getD, List.getD_eq_getElem?_getD, List.getElem?_eq_getElem (by omega), List.getElem?_eq_getElem (by omega)]
    rfl
  · rw [if_neg h]
    unfold na
    rw [List.getD_eq_getElem?_getD, List.getElem?_append_right (by omega), List.getElem?_replicate]
    split <;> rfl
theorem Dsk.sat_len {d : Dsk} (hd : d.ok) (i : Nat) : (d.sat i).length = 4 := by
  unfold Dsk.sat Ze5
  exact Z20 (by rw [d.zw_len hd (by rw [Z2H, d.zs_len hd])]; exact hd.n.2)
theorem Dsk.sat_at {d : Dsk} (hd : d.ok) (i : Nat) {k : Nat} (hk : k < 4) : na (d.sat i) k = if k < d.n then (bif decide (na d.most k = 1000000) then 1000000 else (((Z2h d.zs i).getD k 0 : Nat) : Int)) else 0 :=
  d.toSt_at hd (by rw [Z2H, d.zs_len hd]) hk
theorem Dsk.dig_lt {d : Dsk} (hd : d.ok) (i : Nat) {k : Nat} (hk : k < d.n) : (Z2h d.zs i).getD k 0 < (bif decide (na d.most k = 1000000) then 1 else (na d.most k).toNat + 1) := by
  obtain ⟨x, hx, hlt⟩ := Z8d d.zs i d.zs_pos k _ (d.zs_get hd hk)
  rw [List.getD_eq_getElem?_getD, hx]; exact hlt
theorem Dsk.sat_sml {d : Dsk} (hd : d.ok) (i : Nat) : Sml (d.sat i) where
  len := d.sat_len hd i
  at_ k hk := by
    rw [d.sat_at hd i hk]
    split
    · rename_i h
      have := d.dig_lt hd i h
      have h1 := hd.most.at_ k hk
      cases h2 : decide (na d.most k = 1000000) with
      | true => simp
      | false => rw [h2, cond_false] at this; rw [cond_false]; omega
    · simp
theorem Dsk.sat_top {d : Dsk} (hd : d.ok) (i : Nat) {k : Nat} (hk : k < d.n) : na (d.sat i) k = na d.most k ↔ (Z2h d.zs i).getD k 0 + 1 = (bif decide (na d.most k = 1000000) then 1 else (na d.most k).toNat + 1) := by
  have hn := hd.n
  rw [d.sat_at hd i (by omega), if_pos hk]
  have := d.dig_lt hd i hk
  have h1 := hd.most.at_ k (by omega)
  cases h2 : decide (na d.most k = 1000000) with
  | true =>
    rw [h2, cond_true] at this
    rw [cond_true, cond_true]
    have := of_decide_eq_true h2
    constructor <;> intro h <;> omega
  | false =>
    rw [cond_false, cond_false]
    constructor <;> intro h <;> omega
theorem Z5n : ∀ (zs xs : List Nat) (a : Nat), xs.length = zs.length → (∀ j < a, xs.getD j 0 + 1 = zs.getD j 0) → a < xs.length → xs.getD a 0 + 1 ≠ zs.getD a 0 →
    ∀ k, (inc zs xs).getD k 0 = if k < a then 0 else if k = a then xs.getD a 0 + 1 else xs.getD k 0
  | [], [], a, _, _, h, _, k => by simp at h
  | [], _ :: _, _, hl, _, _, _, _ => by simp at hl
  | _ :: _, [], _, hl, _, _, _, _ => by simp at hl
  | z :: zs, x :: xs, 0, hl, h, ha, hne, k => by
    have h0 : x + 1 ≠ z := by simpa using hne
    unfold inc
    rw [decide_eq_false h0, cond_false]
    cases k with
    | zero => simp
    | succ k => simp
  | z :: zs, x :: xs, a + 1, hl, h, ha, hne, k => by
    have h0 : x + 1 = z := by have := h 0 (by omega); simpa using this
    unfold inc
    rw [decide_eq_true h0, cond_true]
    cases k with
    | zero => simp
    | succ k =>
      have ih := Z5n zs xs a (by simpa using hl) (fun j hj => by have := h (j + 1) (by omega); simpa using this) (by simpa using ha) (by simpa using hne) k
      simp only [List.getD_cons_succ] at ih ⊢
      rw [ih]
      by_cases h1 : k < a
      · simp [h1]
      · by_cases h2 : k = a
        · simp [h2]
        · simp [h1, h2]
theorem Z6L : ∀ (zs : List Nat) (i : Nat), i < prd zs → (∀ z ∈ zs, 0 < z) → (∀ j < zs.length, (Z2h zs i).getD j 0 + 1 = zs.getD j 0) → i + 1 = prd zs
  | [], i, h, _, _ => by simp only [prd] at h ⊢; omega
  | z :: zs, i, h, hp, ht => by
    have hz := hp z (by simp)
    have h0 : i % z + 1 = z := by have := ht 0 (by simp); simpa [Z2h] using this
    have hq : i / z < prd zs := Nat.div_lt_of_lt_mul (by simpa [prd] using h)
    have ih := Z6L zs (i / z) hq (fun y hy => hp y (by simp [hy])) (fun j hj => by have := ht (j + 1) (by simp; omega); simpa [Z2h] using this)
    have := Nat.div_add_mod i z
    unfold prd
    rw [← ih, Nat.mul_add]
    omega
def rsz (s : HSt) (a : Nat) : HSt := (List.range 4).map fun j => bif decide (j < a) && !decide (na s j = 1000000) then 0 else na s j
theorem Z17 {s : HSt} {a k : Nat} (hk : k < 4) : na (rsz s a) k = bif decide (k < a) && !decide (na s k = 1000000) then 0 else na s k := by
  unfold na rsz
  rw [List.getD_eq_getElem?_getD, List.getElem?_map, List.getElem?_range hk]
  rfl
theorem ZR (s : HSt) (a : Nat) : (rsz s a).length = 4 := by simp [rsz]
theorem Za4 {s : HSt} (hs : s.length = 4) : rsz s 0 = s := Z7t (ZR s 0) hs fun k hk => by rw [Z17 hk]; simp
theorem Z9r {s : HSt} {a : Nat} (h : na s a = 1000000) : rsz s (a + 1) = rsz s a := Z7t (ZR s _) (ZR s _) fun k hk => by
  rw [Z17 hk, Z17 hk]
  by_cases h1 : k = a
  · subst h1; simp [h]
  · have : decide (k < a + 1) = decide (k < a) := decide_eq_decide.2 (by omega)
    rw [this]
theorem ZbG {s : HSt} {a : Nat} (ha : a < 4) (h : na s a ≠ 1000000) : (rsz s a).set a 0 = rsz s (a + 1) := Z7t (by rw [List.length_set]; exact ZR s _) (ZR s _) fun k hk => by
  rw [Z2j (by rw [ZR]; exact ha), Z17 hk, Z17 hk]
  by_cases h1 : a = k
  · subst h1; simp [h]
  · rw [if_neg h1]
    have : decide (k < a + 1) = decide (k < a) := decide_eq_decide.2 (by omega)
    rw [this]
theorem Z45 {d : Dsk} (hd : d.ok) {k : Nat} (hk : k < d.n) : d.zs.getD k 0 = (bif decide (na d.most k = 1000000) then 1 else (na d.most k).toNat + 1) := by
  rw [List.getD_eq_getElem?_getD, d.zs_get hd hk]; rfl
theorem Dsk.sat_next {d : Dsk} (hd : d.ok) {i a : Nat} (ha : a < d.n) (h : ∀ j < a, na (d.sat i) j = na d.most j) (hne : na (d.sat i) a ≠ na d.most a) :
    (rsz (d.sat i) a).set a (na (d.sat i) a + 1) = d.sat (i + 1) := by
  have hn := hd.n
  refine Z7t (by rw [List.length_set]; exact ZR _ _) (d.sat_len hd _) fun k hk => ?_
  have hdl : (Z2h d.zs i).length = d.zs.length := Z2H _ _
  have hz := d.zs_len hd
  have hi := Z5n d.zs (Z2h d.zs i) a hdl (fun j hj => by rw [Z45 hd (by omega)]; exact (d.sat_top hd i (by omega)).1 (h j hj)) (by omega) (fun e => hne ((d.sat_top hd i ha).2 (by rw [← Z45 hd ha]; exact e))) k
  rw [← Z6x _ _ d.zs_pos] at hi
  have hae : na d.most a ≠ 1000000 := fun e => by
    apply hne
    rw [d.sat_at hd i (by omega), if_pos ha, decide_eq_true e, cond_true, e]
  rw [Z2j (by rw [ZR]; omega), Z17 hk, d.sat_at hd (i + 1) hk]
  by_cases h1 : a = k
  · subst h1
    rw [if_pos rfl, if_pos ha, decide_eq_false hae, cond_false, hi, if_neg (by omega), if_pos rfl, d.sat_at hd i hk, if_pos ha, decide_eq_false hae, cond_false]
    push_cast
    rfl
  · rw [if_neg h1]
    by_cases h2 : k < a
    · rw [decide_eq_true h2, Bool.true_and, if_pos (by omega), hi, if_pos h2, d.sat_at hd i hk, if_pos (show k < d.n by omega)]
      by_cases h3 : na d.most k = 1000000
      · rw [decide_eq_true h3]; rfl
      · have h4 := d.dig_lt hd i (show k < d.n by omega)
        have h5 := hd.most.at_ k hk
        have h6 := hd.ever k (by omega)
        rw [decide_eq_false h3] at h4 ⊢
        simp only [cond_false] at h4 ⊢
        rw [decide_eq_false (by omega)]
        rfl
    · rw [decide_eq_false h2, Bool.false_and, cond_false, d.sat_at hd i hk, hi, if_neg h2, if_neg (show ¬ k = a from fun e => h1 e.symm)]
theorem Dsk.sat_last {d : Dsk} (hd : d.ok) {i : Nat} (hi : i < d.nst) (h : ∀ j < d.n, na (d.sat i) j = na d.most j) : i + 1 = d.nst :=
  Z6L _ _ hi d.zs_pos fun j hj => by
    have hj' : j < d.n := by rw [d.zs_len hd] at hj; exact hj
    rw [Z45 hd hj']; exact (d.sat_top hd i hj').1 (h j hj')
theorem Z6s : ∀ (zs : List Nat) (i : Nat), i + 1 = prd zs → (∀ z ∈ zs, 0 < z) → ∀ j < zs.length, (Z2h zs i).getD j 0 + 1 = zs.getD j 0
  | [], _, _, _, j, hj => by simp at hj
  | z :: zs, i, h, hp, j, hj => by
    have hz := hp z (by simp)
    have hpp : 0 < prd zs := by
      rcases Nat.eq_zero_or_pos (prd zs) with h0 | h0
      · rw [show prd (z :: zs) = z * prd zs from rfl, h0] at h; omega
      · exact h0
    obtain ⟨q, hq⟩ : ∃ q, prd zs = q + 1 := ⟨prd zs - 1, by omega⟩
    have e : i = z * q + (z - 1) := by
      rw [show prd (z :: zs) = z * prd zs from rfl, hq, Nat.mul_add] at h; omega
    have e1 : i % z = z - 1 := by rw [e, Nat.mul_add_mod, Nat.mod_eq_of_lt (by omega)]
    have e2 : i / z = q := by rw [e, Nat.mul_add_div hz, Nat.div_eq_of_lt (by omega)]; omega
    cases j with
    | zero => simp [Z2h, e1]; omega
    | succ j =>
      have := Z6s zs q (by omega) (fun y hy => hp y (by simp [hy])) j (by simpa using hj)
      simpa [Z2h, e2] using this
theorem Dsk.sat_max {d : Dsk} (hd : d.ok) {i k : Nat} (h : i + 1 = d.nst) (hk : k < d.n) : na (d.sat i) k = na d.most k :=
  (d.sat_top hd i hk).2 (by rw [← Z45 hd hk]; exact Z6s _ _ h d.zs_pos k (by rw [d.zs_len hd]; exact hk))
theorem Dsk.sts_get {d : Dsk} {i : Nat} (hi : i < d.nst) : d.sts[i]? = some (d.sat i) := by unfold Dsk.sts; rw [List.getElem?_map, List.getElem?_range hi]; rfl
theorem Dsk.sts_len (d : Dsk) : d.sts.length = d.nst := by simp [Dsk.sts]
theorem ZaQ : ∀ (zs : List Nat) (m : Nat), 0 < m → (∀ z ∈ zs, z ≤ m) → prd zs ≤ m ^ zs.length
  | [], _, _, _ => by simp [prd]
  | z :: zs, m, hm, h => by
    have h1 := h z (by simp)
    have ih := ZaQ zs m hm (fun y hy => h y (by simp [hy]))
    unfold prd
    rw [List.length_cons, Nat.pow_succ, Nat.mul_comm (m ^ _)]
    exact Nat.mul_le_mul h1 ih
theorem Z96 : ∀ (zs : List Nat), (∀ z ∈ zs, 0 < z) → 0 < prd zs
  | [], _ => by simp [prd]
  | z :: zs, h => by unfold prd; exact Nat.mul_pos (h z (by simp)) (Z96 zs fun y hy => h y (by simp [hy]))
theorem Dsk.nst_le {d : Dsk} (hd : d.ok) : 0 < d.nst ∧ d.nst ≤ 14641 := by
  refine ⟨Z96 _ d.zs_pos, ?_⟩
  have h1 := ZaQ d.zs 11 (by decide) (fun z hz => by
    unfold Dsk.zs at hz
    obtain ⟨m, hm, rfl⟩ := List.mem_map.1 hz
    obtain ⟨k, hk⟩ := List.getElem?_of_mem hm
    rw [List.getElem?_take] at hk
    split at hk
    · rename_i hkn
      have h2 := (hd.ever k hkn).2.1
      have e : na d.most k = m := by unfold na; rw [List.getD_eq_getElem?_getD, hk]; rfl
      rw [e] at h2
      cases h3 : decide (m = 1000000) with
      | true => simp
      | false => rw [cond_false]; have := of_decide_eq_false h3; omega
    · cases hk)
  rw [d.zs_len hd] at h1
  have hn := hd.n
  refine Nat.le_trans h1 (Nat.le_trans (Nat.pow_le_pow_right (by decide) hn.2) (by decide))
def zst (d : Dsk) (k : Nat) : HSt := (List.range 4).map fun j => bif decide (j < k) && decide (na d.most j = 1000000) then 1000000 else 0
theorem Z5l {d : Dsk} {k j : Nat} (hj : j < 4) : na (zst d k) j = bif decide (j < k) && decide (na d.most j = 1000000) then 1000000 else 0 := by
  unfold na zst
  rw [List.getD_eq_getElem?_getD, List.getElem?_map, List.getElem?_range hj]
  rfl
theorem Z1e (d : Dsk) (k : Nat) : (zst d k).length = 4 := by simp [zst]
theorem ZaT {d : Dsk} {k : Nat} (hk : k < 4) (h : na d.most k = 1000000) : (zst d k).set k 1000000 = zst d (k + 1) := Z7t (by rw [List.length_set]; exact Z1e _ _) (Z1e _ _) fun j hj => by
  rw [Z2j (by rw [Z1e]; exact hk), Z5l hj, Z5l hj]
  by_cases h1 : k = j
  · subst h1; simp [h]
  · rw [if_neg h1, show decide (j < k + 1) = decide (j < k) from decide_eq_decide.2 (by omega)]
theorem ZaI {d : Dsk} {k : Nat} (h : na d.most k ≠ 1000000) : zst d k = zst d (k + 1) := Z7t (Z1e _ _) (Z1e _ _) fun j hj => by
  rw [Z5l hj, Z5l hj]
  by_cases h1 : k = j
  · subst h1; simp [h]
  · rw [show decide (j < k + 1) = decide (j < k) from decide_eq_decide.2 (by omega)]
theorem Z5f : ∀ (zs : List Nat) (k : Nat), (Z2h zs 0).getD k 0 = 0
  | [], k => by simp [Z2h]
  | z :: zs, 0 => by simp [Z2h]
  | z :: zs, k + 1 => by simpa [Z2h] using Z5f zs k
theorem Zbm {d : Dsk} (hd : d.ok) : zst d d.n = d.sat 0 := Z7t (Z1e _ _) (d.sat_len hd _) fun j hj => by
  rw [Z5l hj, d.sat_at hd 0 hj, Z5f]
  by_cases h : j < d.n
  · rw [if_pos h, decide_eq_true h, Bool.true_and]; cases decide (na d.most j = 1000000) <;> rfl
  · rw [if_neg h, decide_eq_false h, Bool.false_and]; rfl
theorem Z1P {α : Type} {L : List α} {p : α → Bool} {i : Nat} {x : α} (h : L[i]? = some x) : (L.take (i + 1)).filter p = (L.take i).filter p ++ (bif p x then [x] else []) := by
  rw [List.take_add_one, h, Option.toList_some, List.filter_append]
  cases hp : p x <;> simp [hp]
theorem Z6n {α : Type} : ∀ {L : List α} {p : α → Bool} {i : Nat} {x : α}, L[i]? = some x → p x = true → (L.filter p)[((L.take i).filter p).length]? = some x
  | [], _, _, _, h, _ => by simp at h
  | y :: L, p, 0, x, h, hp => by
    simp only [List.getElem?_cons_zero, Option.some.injEq] at h
    subst h
    simp [List.filter_cons, hp]
  | y :: L, p, i + 1, x, h, hp => by
    have ih := Z6n (L := L) (p := p) (i := i) (by simpa using h) hp
    rw [List.take_succ_cons]
    cases hy : p y
    · simpa [List.filter_cons, hy] using ih
    · simpa [List.filter_cons, hy] using ih
def Dsk.cnt (d : Dsk) (full : Bool) (i : Nat) : Nat := ((((List.range (2 ^ d.n)).map (ZF d.n)).take i).filter (d.may full)).length
theorem Dsk.cnt_zero (d : Dsk) (full : Bool) : d.cnt full 0 = 0 := by simp [Dsk.cnt]
theorem Dsk.cnt_end (d : Dsk) (full : Bool) : d.cnt full (2 ^ d.n) = (d.trs full).length := by
  unfold Dsk.cnt Dsk.trs; rw [List.take_of_length_le (by simp)]
theorem Dsk.cnt_get {d : Dsk} {full : Bool} {i : Nat} (hi : i < 2 ^ d.n) : ((List.range (2 ^ d.n)).map (ZF d.n))[i]? = some (ZF d.n i) := by
  rw [List.getElem?_map, List.getElem?_range hi]; rfl
theorem Dsk.cnt_yes {d : Dsk} {full : Bool} {i : Nat} (hi : i < 2 ^ d.n) (h : d.may full (ZF d.n i) = true) : d.cnt full (i + 1) = d.cnt full i + 1 ∧ (d.trs full)[d.cnt full i]? = some (ZF d.n i) := by
  have hg := d.cnt_get (full := full) hi
  refine ⟨?_, Z6n hg h⟩
  unfold Dsk.cnt
  rw [Z1P hg, h, List.length_append]; rfl
theorem Dsk.cnt_no {d : Dsk} {full : Bool} {i : Nat} (hi : i < 2 ^ d.n) (h : d.may full (ZF d.n i) = false) : d.cnt full (i + 1) = d.cnt full i := by
  have hg := d.cnt_get (full := full) hi
  unfold Dsk.cnt
  rw [Z1P hg, h, List.length_append]; rfl
theorem Dsk.up_at {d : Dsk} {s : HSt} (hs : s.length = 4) {j k : Nat} (hj : j < 4) : na (d.up s j) k = if j = k then max (na s k) (na d.lasts k) else na s k := by
  unfold Dsk.up
  rw [Z2j (by omega)]
  by_cases h : j = k
  · subst h; simp
  · rw [if_neg h, if_neg h]
theorem Dsk.up_len {d : Dsk} (s : HSt) (j : Nat) : (d.up s j).length = s.length := by unfold Dsk.up; rw [List.length_set]
theorem Dsk.ups_len {d : Dsk} : ∀ (l : List Nat) (s : HSt), (l.foldl d.up s).length = s.length
  | [], _ => rfl
  | j :: l, s => by rw [List.foldl_cons, ups_len l, d.up_len]
theorem Dsk.ups_at {d : Dsk} : ∀ (l : List Nat) (s : HSt), s.length = 4 → (∀ j ∈ l, j < 4) → ∀ k, na (l.foldl d.up s) k = if k ∈ l then max (na s k) (na d.lasts k) else na s k
  | [], s, _, _, k => by simp
  | j :: l, s, hs, hl, k => by
    rw [List.foldl_cons, ups_at l _ (by rw [d.up_len]; exact hs) (fun i hi => hl i (by simp [hi])), d.up_at hs (hl j (by simp))]
    by_cases h1 : j = k
    · subst h1
      by_cases h2 : j ∈ l
      · simp only [h2, if_true, List.mem_cons, true_or]; omega
      · simp [h2]
    · have h1' : ¬ k = j := fun e => h1 e.symm
      simp [h1, h1']
theorem ZaC {s t : HSt} : ∀ {m : Nat}, dn s m = some t → t.length = s.length := by
  intro m
  induction m generalizing t with
  | zero => intro e; simp only [dn, Option.some.injEq] at e; rw [e]
  | succ m ih =>
    intro e
    unfold dn at e
    split at e
    · cases e
    · rename_i u hu
      have := ih hu
      cases h1 : decide (na u m = 1000000) with
      | true => rw [h1, cond_true] at e; cases e; exact this
      | false =>
        rw [h1, cond_false] at e
        cases h2 : decide (na u m - 1 < 0) with
        | true => rw [h2, cond_true] at e; cases e
        | false => rw [h2, cond_false] at e; cases e; rw [List.length_set]; exact this
theorem ZcA {s t : HSt} (hs : s.length = 4) : ∀ {m : Nat}, m ≤ 4 → dn s m = some t → ∀ k, (k < m → na s k = 1000000 ∨ 1 ≤ na s k) ∧ na t k = if k < m ∧ na s k ≠ 1000000 then na s k - 1 else na s k := by
  intro m
  induction m generalizing t with
  | zero => intro _ e k; simp only [dn, Option.some.injEq] at e; subst e; simp
  | succ m ih =>
    intro hm e k
    unfold dn at e
    split at e
    · cases e
    · rename_i u hu
      obtain ⟨i1, i2⟩ := ih (by omega) hu k
      obtain ⟨_, j2⟩ := ih (by omega) hu m
      have hul := ZaC hu
      rw [if_neg (by omega)] at j2
      by_cases h1 : na u m = 1000000
      · rw [decide_eq_true h1, cond_true] at e; cases e
        by_cases hk : k = m
        · subst hk
          rw [j2] at h1
          refine ⟨fun _ => .inl h1, ?_⟩
          rw [i2, if_neg (by omega), if_neg (by omega)]
        · refine ⟨fun h => i1 (by omega), ?_⟩
          rw [i2]
          by_cases h2 : k < m
          · simp [h2, Nat.lt_succ_of_lt h2]
          · rw [if_neg (by omega), if_neg (by omega)]
      · rw [decide_eq_false h1, cond_false] at e
        by_cases h3 : na u m - 1 < 0
        · rw [decide_eq_true h3] at e; cases e
        · rw [decide_eq_false h3, cond_false] at e; cases e
          rw [Z2j (by omega)]
          by_cases hk : m = k
          · subst hk
            rw [if_pos rfl, j2]
            rw [j2] at h1 h3
            refine ⟨fun _ => .inr (by omega), ?_⟩
            rw [if_pos ⟨by omega, h1⟩]
          · rw [if_neg hk]
            refine ⟨fun h => i1 (by omega), ?_⟩
            rw [i2]
            by_cases h2 : k < m
            · simp [h2, Nat.lt_succ_of_lt h2]
            · rw [if_neg (by omega), if_neg (by omega)]
theorem ZbH {s : HSt} (hs : s.length = 4) : ∀ {m : Nat}, m ≤ 4 → (∀ k < m, na s k = 1000000 ∨ 1 ≤ na s k) → ∃ t, dn s m = some t := by
  intro m
  induction m with
  | zero => intro _ _; exact ⟨s, rfl⟩
  | succ m ih =>
    intro hm h
    obtain ⟨u, hu⟩ := ih (by omega) (fun k hk => h k (by omega))
    obtain ⟨_, j2⟩ := ZcA hs (by omega) hu m
    rw [if_neg (by omega)] at j2
    have hm1 := h m (by omega)
    unfold dn
    rw [hu]
    dsimp only
    rw [j2]
    by_cases h1 : na s m = 1000000
    · rw [decide_eq_true h1]; exact ⟨_, rfl⟩
    · rw [decide_eq_false h1, cond_false, decide_eq_false (by omega)]; exact ⟨_, rfl⟩
def Dsk.mid (d : Dsk) (s : HSt) (l : List Nat) (k : Nat) : Int := if k ∈ l then max (na s k) (na d.lasts k) else na s k
theorem Dsk.next_at {d : Dsk} (hn : d.n ≤ 4) {s t : HSt} (hs : s.length = 4) {l : List Nat} (hl : ∀ k ∈ l, k < d.n) (e : d.next s l = some t) :
    t.length = 4 ∧ ∀ k, (k < d.n → d.mid s l k = 1000000 ∨ 1 ≤ d.mid s l k) ∧ na t k = if k < d.n ∧ d.mid s l k ≠ 1000000 then d.mid s l k - 1 else d.mid s l k := by
  have h4 : ∀ j ∈ l, j < 4 := fun j hj => by have := hl j hj; omega
  have hu := d.ups_len l s
  refine ⟨by rw [ZaC e, hu, hs], fun k => ?_⟩
  have := ZcA (by rw [hu, hs]) hn e k
  rw [d.ups_at l s hs h4 k] at this
  exact this
theorem Dsk.next_some {d : Dsk} (hn : d.n ≤ 4) {s : HSt} (hs : s.length = 4) {l : List Nat} (hl : ∀ k ∈ l, k < d.n) (h : ∀ k < d.n, d.mid s l k = 1000000 ∨ 1 ≤ d.mid s l k) : ∃ t, d.next s l = some t := by
  have h4 : ∀ j ∈ l, j < 4 := fun j hj => by have := hl j hj; omega
  refine ZbH (by rw [d.ups_len, hs]) hn fun k hk => ?_
  rw [d.ups_at l s hs h4 k]
  exact h k hk
structure Dsk.inS (d : Dsk) (s : HSt) : Prop where
  len : s.length = 4
  at_ : ∀ k < d.n, (na d.most k = 1000000 ∧ na s k = 1000000) ∨ (na d.most k ≠ 1000000 ∧ 0 ≤ na s k ∧ na s k ≤ na d.most k)
  out : ∀ k < 4, d.n ≤ k → na s k = 0
theorem Dsk.mem_sts {d : Dsk} (hd : d.ok) (s : HSt) : s ∈ d.sts ↔ d.inS s := by
  have hn := hd.n
  constructor
  · intro h
    obtain ⟨i, _, rfl⟩ := List.mem_map.1 h
    refine ⟨d.sat_len hd i, fun k hk => ?_, fun k hk hk' => ?_⟩
    · rw [d.sat_at hd i (by omega), if_pos hk]
      have h1 := d.dig_lt hd i hk
      have h2 := hd.most.at_ k (by omega)
      by_cases h3 : na d.most k = 1000000
      · rw [decide_eq_true h3]; exact .inl ⟨h3, rfl⟩
      · rw [decide_eq_false h3] at h1 ⊢
        simp only [cond_false] at h1 ⊢
        exact .inr ⟨h3, by omega, by omega⟩
    · rw [d.sat_at hd i hk, if_neg (by omega)]
  · intro h
    have hz := d.zs_len hd
    let xs : List Nat := (List.range d.n).map fun k => if na d.most k = 1000000 then 0 else (na s k).toNat
    have hxl : xs.length = d.n := by simp [xs]
    have hxg : ∀ k < d.n, xs.getD k 0 = if na d.most k = 1000000 then 0 else (na s k).toNat := fun k hk => by
      simp only [xs, List.getD_eq_getElem?_getD, List.getElem?_map, List.getElem?_range hk, Option.map_some, Option.getD_some]
    obtain ⟨h1, h2⟩ := Z5o d.zs xs (by omega) (fun k z x hk hx => by
      have hkn : k < d.n := by rw [← hz]; exact (List.getElem?_eq_some_iff.1 hk).1
      rw [d.zs_get hd hkn] at hk
      cases hk
      have hx2 := hxg k hkn
      rw [List.getD_eq_getElem?_getD, hx, Option.getD_some] at hx2
      rw [hx2]
      rcases h.at_ k hkn with ⟨h3, h4⟩ | ⟨h3, h4⟩
      · rw [if_pos h3, decide_eq_true h3]; simp
      · rw [if_neg h3, decide_eq_false h3, cond_false]; omega)
    refine List.mem_map.2 ⟨Z7u d.zs xs, List.mem_range.2 h2, ?_⟩
    refine Z7t (d.sat_len hd _) h.len fun k hk => ?_
    rw [d.sat_at hd _ hk, h1]
    by_cases hkn : k < d.n
    · rw [if_pos hkn, hxg k hkn]
      rcases h.at_ k hkn with ⟨h3, h4⟩ | ⟨h3, h4⟩
      · rw [decide_eq_true h3, cond_true, h4]
      · rw [decide_eq_false h3, cond_false, if_neg h3]; omega
    · rw [if_neg hkn, h.out k hk (by omega)]
theorem Dsk.inS_sml {d : Dsk} (hd : d.ok) {s : HSt} (h : d.inS s) : Sml s where
  len := h.len
  at_ k hk := by
    rcases Nat.lt_or_ge k d.n with h1 | h1
    · have := h.at_ k h1
      have h2 := hd.most.at_ k hk
      omega
    · rw [h.out k hk h1]; exact ⟨by decide, by decide⟩
theorem Dsk.inS_mid {d : Dsk} (hd : d.ok) {s : HSt} (h : d.inS s) (l : List Nat) {k : Nat} (hk : k < d.n) : (na d.most k = 1000000 ∧ d.mid s l k = 1000000) ∨ (na d.most k ≠ 1000000 ∧ 0 ≤ d.mid s l k ∧ d.mid s l k ≤ na d.most k) := by
  have h1 := h.at_ k hk
  have h2 := hd.le k hk
  have h3 := (hd.ever k hk).2.2
  have h4 := hd.most.at_ k (by have := hd.n; omega)
  have h5 := hd.lasts.at_ k (by have := hd.n; omega)
  unfold Dsk.mid
  by_cases h6 : k ∈ l
  · rw [if_pos h6]; omega
  · rw [if_neg h6]; exact h1
theorem Dsk.next_inS {d : Dsk} (hd : d.ok) {s t : HSt} (h : d.inS s) {l : List Nat} (hl : ∀ k ∈ l, k < d.n) (e : d.next s l = some t) : d.inS t := by
  obtain ⟨h1, h2⟩ := d.next_at hd.n.2 h.len hl e
  refine ⟨h1, fun k hk => ?_, fun k hk hk' => ?_⟩
  · obtain ⟨h3, h4⟩ := h2 k
    have h3 := h3 hk
    rcases d.inS_mid hd h l hk with ⟨h5, h6⟩ | ⟨h5, h6, h7⟩
    · rw [if_neg (by omega)] at h4; exact .inl ⟨h5, by omega⟩
    · have h8 := (hd.ever k hk).2.1
      rw [if_pos ⟨hk, by omega⟩] at h4
      exact .inr ⟨h5, by omega, by omega⟩
  · obtain ⟨_, h4⟩ := h2 k
    rw [if_neg (by omega)] at h4
    rw [h4]
    unfold Dsk.mid
    rw [if_neg (fun h => by have := hl k h; omega)]
    exact h.out k hk hk'
theorem Dsk.helped_iff {d : Dsk} {A : List HSt} {s : HSt} : d.helped A s = true ↔ ∃ l ∈ d.trs true, ∃ t, d.next s l = some t ∧ t ∈ A := by
  unfold Dsk.helped
  rw [List.any_eq_true]
  constructor
  · rintro ⟨l, hl, h⟩
    refine ⟨l, hl, ?_⟩
    cases hn : d.next s l with
    | none => rw [hn] at h; cases h
    | some t => rw [hn] at h; exact ⟨t, rfl, by simpa using h⟩
  · rintro ⟨l, hl, t, hn, ht⟩
    refine ⟨l, hl, ?_⟩
    rw [hn]; simpa using ht
theorem Dsk.alive_succ {d : Dsk} {n : Nat} {s : HSt} : s ∈ d.alive (n + 1) ↔ s ∈ d.alive n ∧ d.helped (d.alive n) s = true := List.mem_filter
theorem Dsk.alive_sts {d : Dsk} : ∀ {n : Nat} {s : HSt}, s ∈ d.alive n → s ∈ d.sts
  | 0, _, h => h
  | _ + 1, _, h => alive_sts (d.alive_succ.1 h).1
theorem Dsk.alive_le {d : Dsk} {s : HSt} {n : Nat} : ∀ {m : Nat}, n ≤ m → s ∈ d.alive m → s ∈ d.alive n
  | 0, h, hs => by obtain rfl : n = 0 := by omega
                   exact hs
  | m + 1, h, hs => by
    rcases Nat.lt_or_ge n (m + 1) with h1 | h1
    · exact alive_le (by omega) (d.alive_succ.1 hs).1
    · obtain rfl : n = m + 1 := by omega
      exact hs
theorem Dsk.alive_fix {d : Dsk} {n : Nat} (h : d.alive (n + 1) = d.alive n) : ∀ m, d.alive (n + m) = d.alive n
  | 0 => rfl
  | m + 1 => by
    have ih := alive_fix h m
    show (d.alive (n + m)).filter (d.helped (d.alive (n + m))) = d.alive n
    rw [ih]; exact h
theorem Dsk.lvl_spec {d : Dsk} {s : HSt} (hs : s ∈ d.sts) : ∀ {n : Nat}, n ≤ 1000000 → (d.lvl n s = 1000000 ∧ s ∈ d.alive n) ∨ ∃ j : Nat, j < n ∧ d.lvl n s = j ∧ s ∈ d.alive j ∧ s ∉ d.alive (j + 1)
  | 0, _ => .inl ⟨rfl, hs⟩
  | n + 1, hn => by
    rcases lvl_spec hs (n := n) (by omega) with ⟨h1, h2⟩ | ⟨j, h1, h2, h3, h4⟩
    · unfold Dsk.lvl
      rw [decide_eq_true h1, Bool.true_and]
      by_cases h : s ∈ d.alive (n + 1)
      · rw [show (d.alive (n + 1)).contains s = true by simpa using h]; exact .inl ⟨h1, h⟩
      · rw [show (d.alive (n + 1)).contains s = false by simpa using h]; exact .inr ⟨n, by omega, rfl, h2, h⟩
    · unfold Dsk.lvl
      rw [decide_eq_false (by omega), Bool.false_and, cond_false]
      exact .inr ⟨j, by omega, h2, h3, h4⟩
def Kpt (d : Dsk) (s : HSt) (v : Int) : Prop := (v = 1000000 ∧ ∀ m, s ∈ d.alive m) ∨ ∃ j : Nat, j ≤ 14641 ∧ v = j ∧ s ∈ d.alive j ∧ s ∉ d.alive (j + 1)
theorem ZO {d : Dsk} {s : HSt} {v w : Int} (h : Kpt d s v) (h' : Kpt d s w) : v = w := by
  rcases h with ⟨rfl, h1⟩ | ⟨j, _, rfl, h1, h2⟩ <;> rcases h' with ⟨rfl, h3⟩ | ⟨i, _, rfl, h3, h4⟩
  · rfl
  · exact absurd (h1 _) h4
  · exact absurd (h3 _) h2
  · rcases Nat.lt_trichotomy i j with h | h | h
    · exact absurd (d.alive_le (by omega) h1) h4
    · rw [h]
    · exact absurd (d.alive_le (by omega) h3) h2
theorem Zaw {d : Dsk} {s : HSt} (hs : s ∈ d.sts) {n : Nat} (hn : n ≤ 14641) (hf : d.alive (n + 1) = d.alive n) : Kpt d s (d.lvl n s) := by
  rcases d.lvl_spec hs (n := n) (by omega) with ⟨h1, h2⟩ | ⟨j, h1, h2, h3, h4⟩
  · refine .inl ⟨h1, fun m => ?_⟩
    rcases Nat.lt_or_ge m n with h | h
    · exact d.alive_le (by omega) h2
    · obtain ⟨k, rfl⟩ : ∃ k, m = n + k := ⟨m - n, by omega⟩
      rw [d.alive_fix hf]; exact h2
  · exact .inr ⟨j, by omega, h2, h3, h4⟩
theorem Dsk.lvl_step {d : Dsk} {s : HSt} (hs : s ∈ d.sts) {n : Nat} (hn : n ≤ 100000) : d.lvl (n + 1) s = bif (((d.alive n).filter fun s => !d.helped (d.alive n) s).contains s) then (n : Int) else d.lvl n s := by
  show (bif decide (d.lvl n s = 1000000) && !((d.alive (n + 1)).contains s) then (n : Int) else d.lvl n s) = _
  congr 1
  have e : (((d.alive n).filter fun s => !d.helped (d.alive n) s).contains s) = true ↔ s ∈ d.alive n ∧ d.helped (d.alive n) s = false := by
    rw [List.contains_iff_mem, List.mem_filter]; simp
  have e2 : (decide (d.lvl n s = 1000000) && !(d.alive (n + 1)).contains s) = true ↔ s ∈ d.alive n ∧ d.helped (d.alive n) s = false := by
    rw [Bool.and_eq_true, decide_eq_true_eq, Bool.not_eq_true', ← Bool.not_eq_true, List.contains_iff_mem, d.alive_succ]
    have h1 : d.lvl n s = 1000000 ↔ s ∈ d.alive n := by
      rcases d.lvl_spec hs (n := n) (by omega) with ⟨h1, h2⟩ | ⟨j, h1, h2, h3, h4⟩
      · exact ⟨fun _ => h2, fun _ => h1⟩
      · exact ⟨fun h => by omega, fun h => absurd (d.alive_le (by omega) h) h4⟩
    rw [h1]
    cases d.helped (d.alive n) s <;> simp
  rw [Bool.eq_iff_iff, e, e2]
theorem Dsk.alive_same {d : Dsk} {n : Nat} (h : ((d.alive n).filter fun s => !d.helped (d.alive n) s).length = 0) : d.alive (n + 1) = d.alive n := by
  have h0 := List.length_eq_zero_iff.1 h
  show (d.alive n).filter (d.helped (d.alive n)) = d.alive n
  rw [List.filter_eq_self]
  intro s hs
  have := List.filter_eq_nil_iff.1 h0 s hs
  simpa using this
theorem Z6K {α : Type} (p : α → Bool) : ∀ (l : List α), (l.filter p).length + (l.filter fun x => !p x).length = l.length
  | [] => rfl
  | x :: l => by
    have ih := Z6K p l
    cases h : p x <;> simp [h] <;> omega
theorem Dsk.alive_less {d : Dsk} {n : Nat} (h : ((d.alive n).filter fun s => !d.helped (d.alive n) s).length ≠ 0) : (d.alive (n + 1)).length < (d.alive n).length := by
  have := Z6K (d.helped (d.alive n)) (d.alive n)
  show ((d.alive n).filter (d.helped (d.alive n))).length < _
  omega
open Go
theorem Z9i : Z1M Tryz.prog 53 = some 4 := by kernel_rfl
theorem Zaq : arN Tryz.prog 34 = some (6, 1) := by kernel_rfl
theorem ZcR : cal Tryz.prog 100 = true := by kernel_rfl
theorem Zdh : cal Tryz.prog 101 = true := by kernel_rfl
theorem ZcZ : cal Tryz.prog 102 = true := by kernel_rfl
theorem Zcy : cal Tryz.prog 106 = true := by kernel_rfl
theorem Zdk : cal Tryz.prog 107 = true := by kernel_rfl
theorem Z4O : cal Tryz.prog 31 = true := by kernel_rfl
theorem Z4j : cal Tryz.prog 60 = true := by kernel_rfl
theorem Zbk : cal Tryz.prog 72 = true := by kernel_rfl
theorem Zdt : cal Tryz.prog 78 = true := by kernel_rfl
theorem ZeV : cal Tryz.prog 79 = true := by kernel_rfl
theorem Zcl : cal Tryz.prog 80 = true := by kernel_rfl
theorem Zf7 : cal Tryz.prog 81 = true := by kernel_rfl
theorem Zev : cal Tryz.prog 82 = true := by kernel_rfl
theorem Zeb : cal Tryz.prog 83 = true := by kernel_rfl
theorem Zb2 : cal Tryz.prog 91 = true := by kernel_rfl
theorem Zf8 : cal Tryz.prog 99 = true := by kernel_rfl
theorem Z2i : elN Tryz.prog 35 = some 4 := by kernel_rfl
theorem Z5z : elN Tryz.prog 91 = some 1 := by kernel_rfl
theorem Z5x : Z0w Tryz.prog 37 0 = some 0 := by kernel_rfl
theorem Z1C : Z0w Tryz.prog 37 1 = some 1 := by kernel_rfl
theorem Z1X : Z0w Tryz.prog 37 2 = some 2 := by kernel_rfl
theorem Zj : Z0w Tryz.prog 37 3 = some 8 := by kernel_rfl
theorem ZH : Z0w Tryz.prog 46 0 = some 0 := by kernel_rfl
theorem ZI : Z0w Tryz.prog 46 1 = some 1 := by kernel_rfl
theorem Z2U : Z0w Tryz.prog 53 0 = some 0 := by kernel_rfl
theorem Z3M : Z0w Tryz.prog 53 1 = some 1 := by kernel_rfl
theorem ZS : Z0w Tryz.prog 53 2 = some 2 := by kernel_rfl
theorem Z0G : Z7v Tryz.prog 35 = true := by kernel_rfl
theorem Z1u : Z7v Tryz.prog 91 = true := by kernel_rfl
theorem ZeW : Z1v Tryz.prog 141 = true := by kernel_rfl
theorem sc3 : Z1v Tryz.prog 3 = true := by kernel_rfl
theorem Z0b : Z1v Tryz.prog 35 = true := by kernel_rfl
theorem Ze1 : Z1v Tryz.prog 96 = true := by kernel_rfl
def Z2s (x : HBin) : List Value := [.int .i64 x.warm, .int .i64 x.mark, .int .i64 x.lo, .int .i64 x.hi]
def brows (l : List HBin) : List (List Value) := l.map Z2s
def btl (b : Barn) (sl : Value) : List Value := [.int .i64 b.cool, .int .i64 b.gangs, .int .i64 (na b.rise 0), .int .i64 (na b.rise 1), .int .i64 (na b.rise 2), .int .i64 (na b.rise 3), .int .i64 (na b.rise 4), .int .i64 (na b.rise 5), sl]
def Barn.v (b : Barn) (sl : Value) : Value := .agg (btl b sl).toArray
def Barn.sl (b : Barn) (a : Option Addr) (c : Nat) : Value := .slice a b.bins.length c
def spv (l h : Int) : Value := .agg #[.int .i64 l, .int .i64 h]
abbrev Zn (l : List Int) : List (List Value) := l.map fun z => [.int .i64 z]
theorem br_get {l : List HBin} {k : Nat} {x : HBin} (h : l[k]? = some x) : (brows l)[k]? = some (Z2s x) := by simp [brows, h]
theorem ints_length (l : List Int) : (Za l).length = l.length := by simp [Za]
theorem Z2C {l : List Int} {k : Nat} {v : Int} (h : l[k]? = some v) : (Za l)[k]? = some (.int .i64 v) := by simp [Za, h]
theorem Zcs {l : List Int} (h : l.length = 6) : l = [na l 0, na l 1, na l 2, na l 3, na l 4, na l 5] := by
  match l, h with
  | [a, b, c, d, e, f], _ => rfl
theorem Z4E {b : Barn} {sl : Value} {k : Nat} (hk : k < 6) : (btl b sl)[2 + k]? = some (.int .i64 (na b.rise k)) := by
  match k, hk with
  | 0, _ => rfl
  | 1, _ => rfl
  | 2, _ => rfl
  | 3, _ => rfl
  | 4, _ => rfl
  | 5, _ => rfl
theorem St.barn {b : Barn} {sl : Value} {bk e : Nat} {H : Z7} {R : Z5} {w : World} (hr : b.rise.length = 6) (hs : St ((bk, cel e (btl b sl)) :: H) R w) :
    St H (RowsA (some ⟨bk, 2, none⟩) 1 (Zn b.rise) :: RowsA (some ⟨bk, 0, none⟩) 9 [btl b sl] :: R) w := by
  have h1 := (St.freeze hs).also (f := RowsA (some ⟨bk, 0, none⟩) 9 [btl b sl]) (fun w' hw => by
    have hb := hw (fun w => w.heap[bk]? = some (cel e (btl b sl))) (by simp)
    exact Z2a (junk := []) (e := e) (by rw [hb]; simp) (by simp [btl]))
  have h2 := h1.also (f := RowsA (some ⟨bk, 2, none⟩) 1 (Zn b.rise)) (fun w' hw => by
    have hb := hw (fun w => w.heap[bk]? = some (cel e (btl b sl))) (by simp)
    intro i row hi
    have hi6 : i < 6 := by
      have := (List.getElem?_eq_some_iff.1 hi).1
      simpa [Zn, hr] using this
    have e1 : row = [.int .i64 (na b.rise i)] := by
      simp only [Zn, List.getElem?_map, Option.map_eq_some_iff] at hi
      obtain ⟨z, hz, rfl⟩ := hi
      simp [na, hz]
    subst e1
    refine ⟨rfl, bk, 2, rfl, fun j x hx => ?_⟩
    match j, hx with
    | 0, hx =>
      rw [Z1l hb, Nat.mul_one, Nat.add_zero]
      simp only [List.getElem?_cons_zero] at hx
      rw [← hx]
      simpa using Z4E hi6)
  exact h2.facts (fun g hg => by
    rcases List.mem_cons.1 hg with h3 | h3
    · simp [h3]
    · rcases List.mem_cons.1 h3 with h4 | h4 <;> simp [h4])
def Z9S (l : List Int) (i : Nat) : Bool := match l[i]?, l[i + 1]? with
  | some x, some y => decide (y < x)
  | _, _ => false
theorem Z65 : ∀ (l : List Int), srt l = !((List.range l.length).any (Z9S l))
  | [] => rfl
  | [x] => rfl
  | x :: y :: l => by
    have ih := Z65 (y :: l)
    unfold srt
    rw [ih]
    rw [show (x :: y :: l).length = (y :: l).length + 1 from rfl, List.range_succ_eq_map (n := (y :: l).length), List.any_cons, List.any_map]
    have e : (Z9S (x :: y :: l)) ∘ Nat.succ = Z9S (y :: l) := by funext i; rfl
    rw [e]
    have e2 : Z9S (x :: y :: l) 0 = decide (y < x) := rfl
    rw [e2]
    by_cases h : x ≤ y
    · simp [h, Int.not_lt.2 h]
    · simp [h, Int.not_le.1 h]
theorem Z8G {l : List Int} {k : Nat} {x y : Int} (hx : l[k]? = some x) (hy : l[k + 1]? = some y) (h : y < x) : srt l = false := by
  rw [Z65, Bool.not_eq_false']
  rw [List.any_eq_true]
  refine ⟨k, List.mem_range.2 (List.getElem?_eq_some_iff.1 hx).1, ?_⟩
  unfold Z9S
  rw [hx, hy]; simpa using h
theorem ZcP {l : List Int} (h : ∀ i, i + 1 < l.length → Z9S l i = false) : srt l = true := by
  rw [Z65, Bool.not_eq_true']
  rw [List.any_eq_false]
  intro i _
  rcases Nat.lt_or_ge (i + 1) l.length with h1 | h1
  · simp [h i h1]
  · unfold Z9S
    rw [List.getElem?_eq_none h1]
    cases l[i]? <;> simp
theorem ZU {α : Type} {xs : List α} {p : α → Bool} {k : Nat} {x : α} (hx : xs[k]? = some x) (hn : ∀ y ∈ xs.take k, p y = false) (h : p x = true) : xs.findIdx? p = some k := by
  induction xs generalizing k with
  | nil => simp at hx
  | cons y ys ih =>
    cases k with
    | zero => simp only [List.getElem?_cons_zero, Option.some.injEq] at hx; subst hx; simp [List.findIdx?_cons, h]
    | succ k =>
      have hy := hn y (by simp)
      have := ih (by simpa using hx) (fun z hz => hn z (by simp [hz]))
      simp [List.findIdx?_cons, hy, this]
theorem ZK {α : Type} {xs : List α} {p : α → Bool} (hn : ∀ y ∈ xs, p y = false) : xs.findIdx? p = none := by
  rw [List.findIdx?_eq_none_iff]; exact hn
theorem Z0F {α : Type} {xs : List α} {p : α → Bool} {k : Nat} {x : α} (hx : xs[k]? = some x) (hn : ∀ y ∈ xs.take k, p y = false) (h : p x = false) : ∀ y ∈ xs.take (k + 1), p y = false := by
  intro y hy
  rw [List.take_add_one, hx] at hy
  rcases List.mem_append.1 hy with h1 | h1
  · exact hn y h1
  · simp only [Option.toList_some, List.mem_singleton] at h1; subst h1; exact h
theorem Z1F {α : Type} (xs : List α) (p : α → Bool) : Value.bool (decide (0 ≤ (match xs.findIdx? p with | some k => (k : Int) | none => -1))) = .bool (xs.any p) := by
  congr 1
  cases h : xs.findIdx? p with
  | none =>
    have := List.findIdx?_eq_none_iff.1 h
    have h2 : xs.any p = false := by simpa using this
    rw [h2]; rfl
  | some k =>
    have h2 : xs.any p = true := by
      rw [← Bool.not_eq_false]; intro h3
      have : xs.findIdx? p = none := List.findIdx?_eq_none_iff.2 (by simpa using h3)
      rw [this] at h; cases h
    rw [h2]; simp
theorem Z0l {α : Type} (xs : List α) (p : α → Bool) : Value.bool (!xs.any fun x => !p x) = .bool (xs.all p) := by
  congr 1
  induction xs with
  | nil => rfl
  | cons x xs ih => simp [← ih]
theorem Z4x (n lo hi : Int) (H : Z7) (R : Z5) :
    FnV Tryz.prog 60 [.int .i64 n, .int .i64 lo, .int .i64 hi] H R (.bool (inB n lo hi)) := by
 refine Z9 Tryz.func60 rfl Tryz.ntmps60 rfl ?_
 refine sqt 1 rfl (pur 1 rfl (sqt 9 rfl (pur 4 rfl ?_)))
 refine Zy 10 rfl ?_ ?_ <;> intro g10
 refine pur 5 rfl (Z1 ?_)
 exact rtA rfl rfl rfl ⟨by simp_all only [ZM, inB, Bool.true_and, Bool.false_and, cond_true, cond_false], rfl, rfl⟩ drp
 refine pur 5 rfl (Z1 ?_)
 exact rtA rfl rfl rfl ⟨by simp_all only [ZM, inB, Bool.true_and, Bool.false_and, cond_true, cond_false], rfl, rfl⟩ drp
theorem Z1i (n : Int) (H : Z7) (R : Z5) :
    FnV Tryz.prog 31 [.int .i64 n] H R (.bool (inB n 0 5)) := by
 refine Z9 Tryz.func31 rfl Tryz.ntmps31 rfl ?_
 refine sqt 1 rfl (pur 1 rfl (sqt 3 rfl (pur 1 rfl ?_)))
 refine clV rfl Z4j rfl rfl (Z4x _ _ _ _ _) ?_
 refine pur 1 rfl (Z1 ?_)
 exact rtA rfl rfl rfl ⟨rfl, rfl, rfl⟩ drp
theorem Z0A (n m : Int) (a : Option Addr) (c : Nat) (H : Z7) (R : Z5) [hR : MemRows a 1 [[.int .i64 m]] R] :
    FnV Tryz.prog 30 [.int .i64 n, .slice a 1 c] H R (.int .i64 (max n m)) := by
 refine Z9 Tryz.func30 rfl Tryz.ntmps30 rfl ?_
 refine sqt 1 rfl (pur 1 rfl (Z0 (sqt 3 rfl (pur 1 rfl (sp rfl (PE.lenSl Z1u rfl) rfl (pur 1 rfl (Z3 ?_)))))))
 refine Zp (a := a) (sz := 1) (rows := [[.int .i64 m]]) (by simp) (fun b off he => ?_)
 subst he
 refine Ze (ι := {k : Nat // k ≤ 1}) (fun k => ⟨[(0, .int .i64 (bif k.1 == 0 then n else max n m)), (7, .slice (some ⟨b, off, none⟩) 1 c), (8, .int .i64 1), (9, .int .i64 k.1)], H, R⟩) (fun k => 1 - k.1) ⟨0, by omega⟩ ?_ (fun k => ?_)
 exact Zl idH
 obtain ⟨k, hk⟩ := k
 dsimp only
 refine sqt 1 rfl (pur 1 rfl (Z0 ?_))
 refine Z2 rfl ?_ ?_ <;> intro hc0
 simp only [cS] at hc0
 obtain rfl : k = 0 := by omega
 refine Z4 (Z0 (Z3 (sqt 3 rfl (sp rfl (PE.indexAddr Z5z rfl rfl (by omega) (by omega)) rfl (spL rfl rfl (lf0 sc3 (row := [.int .i64 m]) rfl rfl) rfl (pur 1 rfl (sqr 4 rfl (pur 2 rfl (sp rfl (PE.max rfl rfl) rfl (pur 1 rfl (sqr 2 rfl (sp rfl (PE.add rfl rfl (by omega)) rfl (pur 1 rfl ?_)))))))))))))
 exact Zd ⟨1, by omega⟩ (by simp) idH
 try simp only [cS] at hc0
 refine Zb (Zc (Zc (ZA (sqt 2 rfl (pur 2 rfl (Z1 ?_))))))
 obtain rfl : k = 1 := by omega
 exact rtA rfl rfl rfl ⟨rfl, rfl, rfl⟩ drp
theorem Z3n (xs : List Int) (a : Option Addr) (c g : Nat) (fst cap : List Value) (p : Int → Bool) (hg : cal Tryz.prog g = true) (hl : xs.length ≤ 9223372036854775807) (H : Z7) (R : Z5) [hR : MemRows a 1 (Zn xs) R] (hp : ∀ x, x ∈ xs → FnV Tryz.prog g (fst ++ [.int .i64 x] ++ cap) H R (.bool (p x))) :
    FnV Tryz.prog 91 [.slice a xs.length c, .func (.func g) fst.toArray cap.toArray] H R (.int .i64 (match xs.findIdx? p with | some k => (k : Int) | none => -1)) := by
 refine Z9 Tryz.func91 rfl Tryz.ntmps91 rfl ?_
 refine sqt 1 rfl (pur 1 rfl (Z0 (sqt 3 rfl (pur 1 rfl (sp rfl (PE.lenSl Z1u rfl) rfl (pur 1 rfl (Z3 ?_)))))))
 refine Ze (ι := {k : Nat // k ≤ xs.length ∧ ∀ x ∈ xs.take k, p x = false}) (fun k => ⟨[(0, .slice a xs.length c), (1, .func (.func g) fst.toArray cap.toArray), (7, .int .i64 xs.length), (8, .int .i64 k.1)], H, R⟩) (fun k => xs.length - k.1) ⟨0, by simp⟩ ?_ (fun k => ?_)
 exact Zl idH
 obtain ⟨k, hk, hn⟩ := k
 dsimp only
 refine sqt 1 rfl (pur 1 rfl (Z0 ?_))
 refine Z2 rfl ?_ ?_ <;> intro hc0
 simp only [cS] at hc0
 obtain ⟨x, hx⟩ : ∃ x, xs[k]? = some x := ⟨_, List.getElem?_eq_getElem (by omega)⟩
 have hxm := List.mem_of_getElem? hx
 refine Zp (a := a) (sz := 1) (rows := Zn xs) (by cases xs <;> simp_all [Zn]) (fun b off he => ?_)
 subst he
 refine Z4 (Z0 (Z3 (sqt 2 rfl (pur 2 rfl (sqt 6 rfl (pur 3 rfl (sp rfl (PE.indexAddr Z5z rfl rfl (by omega) (by omega)) rfl (spL rfl rfl (lf0 sc3 (by simp [Zn, hx]; rfl) rfl) rfl ?_))))))))
 refine Z7w rfl rfl (hg) rfl rfl (hp x hxm) ?_
 refine Z2 rfl ?_ ?_ <;> intro hc1
 refine sqt 2 rfl (pur 2 rfl (Z1 ?_))
 first | (exact rtA rfl rfl rfl ⟨by rw [ZU hx hn hc1]; rfl, rfl, rfl⟩ idH) | (exact rtA rfl rfl rfl ⟨by rw [ZK (by simpa using hn)]; rfl, rfl, rfl⟩ idH)
 refine Z4 (sqr 2 rfl (sp rfl (PE.add rfl rfl (by omega)) rfl (pur 1 rfl ?_)))
 exact Zm ⟨k + 1, by omega, Z0F hx hn hc1⟩ idH
 simp only [cS] at hc0
 obtain rfl : k = xs.length := by omega
 refine Zb (Zc (Zc (ZA (sqt 1 rfl (pur 1 rfl (Z1 ?_))))))
 first | (exact rtA rfl rfl rfl ⟨by rw [ZU hx hn hc1]; rfl, rfl, rfl⟩ idH) | (exact rtA rfl rfl rfl ⟨by rw [ZK (by simpa using hn)]; rfl, rfl, rfl⟩ idH)
theorem Z3f (xs : List Int) (a : Option Addr) (c g : Nat) (fst cap : List Value) (p : Int → Bool) (hg : cal Tryz.prog g = true) (hl : xs.length ≤ 9223372036854775807) (H : Z7) (R : Z5) [hR : MemRows a 1 (Zn xs) R] (hp : ∀ x, x ∈ xs → FnV Tryz.prog g (fst ++ [.int .i64 x] ++ cap) H R (.bool (p x))) :
    FnV Tryz.prog 72 [.slice a xs.length c, .func (.func g) fst.toArray cap.toArray] H R (.bool (xs.any p)) := by
 refine Z9 Tryz.func72 rfl Tryz.ntmps72 rfl ?_
 refine sqt 1 rfl (pur 1 rfl (sqt 5 rfl (pur 2 rfl ?_)))
 refine clV rfl Zb2 rfl rfl (Z3n xs a c g fst cap p hg hl _ _ hp) ?_
 refine pur 2 rfl (Z1 ?_)
 exact rtA rfl rfl rfl ⟨by simp only [ZM]; exact Z1F _ _, rfl, rfl⟩ drp
theorem Z3o (x : Int) (g bf : Nat) (fst cap : List Value) (p : Bool) (hg : cal Tryz.prog g = true) (H : Z7) (R : Z5) [hM : Mem1 bf (cel 96 [.func (.func g) fst.toArray cap.toArray]) H] (hp : FnV Tryz.prog g (fst ++ [.int .i64 x] ++ cap) H R (.bool p)) :
    FnV Tryz.prog 99 [.int .i64 x, .pointer (some ⟨bf, 0, none⟩)] H R (.bool !p) := by
 refine Z9 Tryz.func99 rfl Tryz.ntmps99 rfl ?_
 refine sqt 1 rfl (pur 1 rfl (sqt 5 rfl (spL rfl rfl (lh Ze1 rfl rfl) rfl (pur 1 rfl ?_))))
 refine Z7w rfl rfl (hg) rfl rfl (hp) ?_
 refine pur 2 rfl (Z1 ?_)
 exact rtA rfl rfl rfl ⟨rfl, rfl, rfl⟩ drp
theorem Z0E (xs : List Int) (a : Option Addr) (c g : Nat) (fst cap : List Value) (p : Int → Bool) (hg : cal Tryz.prog g = true) (hl : xs.length ≤ 9223372036854775807) (H : Z7) (R : Z5) [hR : MemRows a 1 (Zn xs) R] (hp : ∀ b x, x ∈ xs → FnV Tryz.prog g (fst ++ [.int .i64 x] ++ cap) ((b, cel 96 [.func (.func g) fst.toArray cap.toArray]) :: H) R (.bool (p x))) :
    FnV Tryz.prog 78 [.slice a xs.length c, .func (.func g) fst.toArray cap.toArray] H R (.bool (xs.all p)) := by
 refine Z9 Tryz.func78 rfl Tryz.ntmps78 rfl ?_
 refine sqt 2 rfl (bx rfl rfl rfl (fun b3 => pur 1 rfl (sqt 5 rfl (pur 1 rfl (sp rfl (PE.makeFunc rfl rfl) rfl ?_)))))
 refine clV rfl Zbk rfl rfl (Z3f xs a c 99 [] [_] (fun x => !p x) Zf8 hl _ _ (hp := fun x hx => Z3o x g _ fst cap (p x) hg _ _ (hp := hp _ x hx))) ?_
 refine pur 2 rfl (Z1 ?_)
 exact rtA rfl rfl rfl ⟨by simp only [ZM]; rw [Z0l], rfl, rfl⟩ drp
theorem Z7S (xs : List HBin) (a : Option Addr) (c g : Nat) (fst cap : List Value) (p : HBin → Bool) (hg : cal Tryz.prog g = true) (hl : xs.length ≤ 9223372036854775807) (H : Z7) (R : Z5) [hR : MemRows a 4 (brows xs) R] (hp : ∀ x, x ∈ xs → FnV Tryz.prog g (fst ++ [.agg (Z2s x).toArray] ++ cap) H R (.bool (p x))) :
    FnV Tryz.prog 106 [.slice a xs.length c, .func (.func g) fst.toArray cap.toArray] H R (.int .i64 (match xs.findIdx? p with | some k => (k : Int) | none => -1)) := by
 refine Z9 Tryz.func106 rfl Tryz.ntmps106 rfl ?_
 refine sqt 1 rfl (pur 1 rfl (Z0 (sqt 3 rfl (pur 1 rfl (sp rfl (PE.lenSl Z0G rfl) rfl (pur 1 rfl (Z3 ?_)))))))
 refine Ze (ι := {k : Nat // k ≤ xs.length ∧ ∀ x ∈ xs.take k, p x = false}) (fun k => ⟨[(0, .slice a xs.length c), (1, .func (.func g) fst.toArray cap.toArray), (7, .int .i64 xs.length), (8, .int .i64 k.1)], H, R⟩) (fun k => xs.length - k.1) ⟨0, by simp⟩ ?_ (fun k => ?_)
 exact Zl idH
 obtain ⟨k, hk, hn⟩ := k
 dsimp only
 refine sqt 1 rfl (pur 1 rfl (Z0 ?_))
 refine Z2 rfl ?_ ?_ <;> intro hc0
 simp only [cS] at hc0
 obtain ⟨x, hx⟩ : ∃ x, xs[k]? = some x := ⟨_, List.getElem?_eq_getElem (by omega)⟩
 have hxm := List.mem_of_getElem? hx
 refine Zp (a := a) (sz := 4) (rows := brows xs) (by cases xs <;> simp_all [brows]) (fun b off he => ?_)
 subst he
 refine Z4 (Z0 (Z3 (sqt 2 rfl (pur 2 rfl (sqt 6 rfl (pur 3 rfl (sp rfl (PE.indexAddr Z2i rfl rfl (by omega) (by omega)) rfl (spL rfl rfl (lfA Z9i (row := Z2s x) (by simp [brows, hx]) rfl) rfl ?_))))))))
 refine Z7w rfl rfl (hg) rfl rfl (hp x hxm) ?_
 refine Z2 rfl ?_ ?_ <;> intro hc1
 refine sqt 2 rfl (pur 2 rfl (Z1 ?_))
 first | (exact rtA rfl rfl rfl ⟨by rw [ZU hx hn hc1]; rfl, rfl, rfl⟩ idH) | (exact rtA rfl rfl rfl ⟨by rw [ZK (by simpa using hn)]; rfl, rfl, rfl⟩ idH)
 refine Z4 (sqr 2 rfl (sp rfl (PE.add rfl rfl (by omega)) rfl (pur 1 rfl ?_)))
 exact Zm ⟨k + 1, by omega, Z0F hx hn hc1⟩ idH
 simp only [cS] at hc0
 obtain rfl : k = xs.length := by omega
 refine Zb (Zc (Zc (ZA (sqt 1 rfl (pur 1 rfl (Z1 ?_))))))
 first | (exact rtA rfl rfl rfl ⟨by rw [ZU hx hn hc1]; rfl, rfl, rfl⟩ idH) | (exact rtA rfl rfl rfl ⟨by rw [ZK (by simpa using hn)]; rfl, rfl, rfl⟩ idH)
theorem Z8y (xs : List HBin) (a : Option Addr) (c g : Nat) (fst cap : List Value) (p : HBin → Bool) (hg : cal Tryz.prog g = true) (hl : xs.length ≤ 9223372036854775807) (H : Z7) (R : Z5) [hR : MemRows a 4 (brows xs) R] (hp : ∀ x, x ∈ xs → FnV Tryz.prog g (fst ++ [.agg (Z2s x).toArray] ++ cap) H R (.bool (p x))) :
    FnV Tryz.prog 100 [.slice a xs.length c, .func (.func g) fst.toArray cap.toArray] H R (.bool (xs.any p)) := by
 refine Z9 Tryz.func100 rfl Tryz.ntmps100 rfl ?_
 refine sqt 1 rfl (pur 1 rfl (sqt 5 rfl (pur 2 rfl ?_)))
 refine clV rfl Zcy rfl rfl (Z7S xs a c g fst cap p hg hl _ _ hp) ?_
 refine pur 2 rfl (Z1 ?_)
 exact rtA rfl rfl rfl ⟨by simp only [ZM]; exact Z1F _ _, rfl, rfl⟩ drp
theorem Z8b (x : HBin) (g bf : Nat) (fst cap : List Value) (p : Bool) (hg : cal Tryz.prog g = true) (H : Z7) (R : Z5) [hM : Mem1 bf (cel 141 [.func (.func g) fst.toArray cap.toArray]) H] (hp : ∀ b, FnV Tryz.prog g (fst ++ [.agg (Z2s x).toArray] ++ cap) ((b, cel 53 (Z2s x)) :: H) R (.bool p)) :
    FnV Tryz.prog 101 [.agg (Z2s x).toArray, .pointer (some ⟨bf, 0, none⟩)] H R (.bool !p) := by
 refine Z9 Tryz.func101 rfl Tryz.ntmps101 rfl ?_
 refine sqt 2 rfl (bx rfl rfl rfl (fun b2 => pur 1 rfl (sqt 5 rfl (spL rfl rfl (lh ZeW rfl rfl) rfl (spL rfl rfl (lhA [_, _, _, _] Z9i rfl rfl rfl) rfl ?_)))))
 refine Z7w rfl rfl (hg) rfl rfl (hp _) ?_
 refine pur 2 rfl (Z1 ?_)
 exact rtA rfl rfl rfl ⟨rfl, rfl, rfl⟩ drp
theorem Z2Z (xs : List HBin) (a : Option Addr) (c g : Nat) (fst cap : List Value) (p : HBin → Bool) (hg : cal Tryz.prog g = true) (hl : xs.length ≤ 9223372036854775807) (H : Z7) (R : Z5) [hR : MemRows a 4 (brows xs) R] (hp : ∀ b b2 x, x ∈ xs → FnV Tryz.prog g (fst ++ [.agg (Z2s x).toArray] ++ cap) ((b2, cel 53 (Z2s x)) :: (b, cel 141 [.func (.func g) fst.toArray cap.toArray]) :: H) R (.bool (p x))) :
    FnV Tryz.prog 80 [.slice a xs.length c, .func (.func g) fst.toArray cap.toArray] H R (.bool (xs.all p)) := by
 refine Z9 Tryz.func80 rfl Tryz.ntmps80 rfl ?_
 refine sqt 2 rfl (bx rfl rfl rfl (fun b3 => pur 1 rfl (sqt 5 rfl (pur 1 rfl (sp rfl (PE.makeFunc rfl rfl) rfl ?_)))))
 refine clV rfl ZcR rfl rfl (Z8y xs a c 101 [] [_] (fun x => !p x) Zdh hl _ _ (hp := fun x hx => Z8b x g _ fst cap (p x) hg _ _ (hp := fun b => hp _ _ x hx))) ?_
 refine pur 2 rfl (Z1 ?_)
 exact rtA rfl rfl rfl ⟨by simp only [ZM]; rw [Z0l], rfl, rfl⟩ drp
theorem Z7Z (n : Int) (H : Z7) (R : Z5) :
    FnV Tryz.prog 79 [.int .i64 n] H R (.bool (Z1x n)) := by
 refine Z9 Tryz.func79 rfl Tryz.ntmps79 rfl ?_
 refine sqt 1 rfl (pur 1 rfl (sqt 7 rfl (pur 3 rfl ?_)))
 refine Zy 5 rfl ?_ ?_ <;> intro g5
 refine pur 4 rfl (Z1 ?_)
 exact rtA rfl rfl rfl ⟨by simp_all only [ZM, Z1x, Bool.true_or, Bool.false_or, cond_true, cond_false], rfl, rfl⟩ drp
 refine pur 1 rfl ?_
 refine Z5r rfl rfl rfl rfl Z4j rfl rfl (Z4x _ _ _ _ _) ?_
 refine pur 2 rfl (Z1 ?_)
 exact rtA rfl rfl rfl ⟨by simp_all only [ZM, Z1x, Bool.true_or, Bool.false_or, cond_true, cond_false], rfl, rfl⟩ drp
theorem Z83 (x : HBin) (H : Z7) (R : Z5) :
    FnV Tryz.prog 81 [.agg (Z2s x).toArray] H R (.bool x.ok) := by
 refine Z9 Tryz.func81 rfl Tryz.ntmps81 rfl ?_
 refine sqt 2 rfl (bx rfl rfl rfl (fun b1 => pur 1 rfl (sqt 23 rfl (sp rfl (PE.fA Z3M rfl) rfl (spL rfl rfl (lh sc3 rfl rfl) rfl ?_)))))
 refine clV rfl Z4j rfl rfl (Z4x _ _ _ _ _) ?_
 refine pur 1 rfl ?_
 refine Zy 6 rfl ?_ ?_ <;> intro g6
 refine spG rfl rfl rfl rfl (PE.fA Z2U rfl) rfl ?_
 refine Z25 rfl rfl rfl rfl rfl (lh sc3 rfl rfl) rfl ?_
 refine spG rfl rfl rfl rfl (PE.fA Z3M rfl) rfl ?_
 refine Z25 rfl rfl rfl rfl rfl (lh sc3 rfl rfl) rfl ?_
 refine Z5r rfl rfl rfl rfl Z4j rfl rfl (Z4x _ _ _ _ _) ?_
 refine pur 2 rfl ?_
 refine Zy 13 rfl ?_ ?_ <;> intro g13
 refine spG rfl rfl rfl rfl (PE.fA ZS rfl) rfl ?_
 refine spG rfl rfl rfl rfl (PE.fA ZH rfl) rfl ?_
 refine Z25 rfl rfl rfl rfl rfl (lh sc3 rfl rfl) rfl ?_
 refine Z5r rfl rfl rfl rfl Z4O rfl rfl (Z1i _ _ _) ?_
 refine pur 2 rfl ?_
 refine Zy 19 rfl ?_ ?_ <;> intro g19
 refine spG rfl rfl rfl rfl (PE.fA ZS rfl) rfl ?_
 refine spG rfl rfl rfl rfl (PE.fA ZI rfl) rfl ?_
 refine Z25 rfl rfl rfl rfl rfl (lh sc3 rfl rfl) rfl ?_
 refine Z5r rfl rfl rfl rfl Z4O rfl rfl (Z1i _ _ _) ?_
 refine pur 2 rfl (Z1 ?_)
 exact rtA rfl rfl rfl ⟨by simp_all only [ZM, HBin.ok, Bool.true_and, Bool.false_and, Bool.and_true, Bool.and_false, cond_true, cond_false], rfl, rfl⟩ drp
 refine pur 6 rfl (Z1 ?_)
 exact rtA rfl rfl rfl ⟨by simp_all only [ZM, HBin.ok, Bool.true_and, Bool.false_and, Bool.and_true, Bool.and_false, cond_true, cond_false], rfl, rfl⟩ drp
 refine pur 12 rfl (Z1 ?_)
 exact rtA rfl rfl rfl ⟨by simp_all only [ZM, HBin.ok, Bool.true_and, Bool.false_and, Bool.and_true, Bool.and_false, cond_true, cond_false], rfl, rfl⟩ drp
 refine pur 19 rfl (Z1 ?_)
 exact rtA rfl rfl rfl ⟨by simp_all only [ZM, HBin.ok, Bool.true_and, Bool.false_and, Bool.and_true, Bool.and_false, cond_true, cond_false], rfl, rfl⟩ drp
theorem Zdn (x : HBin) (H : Z7) (R : Z5) :
    FnV Tryz.prog 83 [.agg (Z2s x).toArray] H R (.bool (decide (x.lo ≤ x.hi))) := by
 refine Z9 Tryz.func83 rfl Tryz.ntmps83 rfl ?_
 refine sqt 2 rfl (bx rfl rfl rfl (fun b1 => pur 1 rfl (sqt 8 rfl (sp rfl (PE.fA ZS rfl) rfl (sp rfl (PE.fA ZH rfl) rfl (spL rfl rfl (lh sc3 rfl rfl) rfl (sp rfl (PE.fA ZS rfl) rfl (sp rfl (PE.fA ZI rfl) rfl (spL rfl rfl (lh sc3 rfl rfl) rfl (pur 2 rfl (Z1 ?_)))))))))))
 exact rtA rfl rfl rfl ⟨rfl, rfl, rfl⟩ drp
theorem Zc6 (n : Int) (H : Z7) (R : Z5) :
    FnV Tryz.prog 107 [.int .i64 n] H R (.bool false) := by
 refine Z9 Tryz.func107 rfl Tryz.ntmps107 rfl ?_
 refine sqt 1 rfl (pur 1 rfl (sqt 4 rfl (pur 4 rfl (Z1 ?_))))
 exact rtA rfl rfl rfl ⟨by simp [ZM], rfl, rfl⟩ drp
theorem Zd9 (x y : Int) (H : Z7) (R : Z5) :
    FnV Tryz.prog 102 [.int .i64 x, .int .i64 y] H R (.bool (decide (x < y))) := by
 refine Z9 Tryz.func102 rfl Tryz.ntmps102 rfl ?_
 refine sqt 1 rfl (pur 1 rfl (sqt 13 rfl (pur 1 rfl ?_)))
 refine clV rfl Zdk rfl rfl (Zc6 x _ _) ?_
 refine pur 11 rfl (Z1 ?_)
 exact rtA rfl rfl rfl ⟨rfl, rfl, rfl⟩ drp
theorem Z7j (xs : List Int) (a : Option Addr) (c : Nat) (hl : xs.length ≤ 9223372036854775807) (H : Z7) (R : Z5) [hR : MemRows a 1 (Zn xs) R] :
    FnV Tryz.prog 82 [.slice a xs.length c] H R (.bool (srt xs)) := by
 refine Z9 Tryz.func82 rfl Tryz.ntmps82 rfl ?_
 refine sqt 1 rfl (pur 1 rfl (Z0 (sqt 4 rfl (pur 1 rfl (sp rfl (PE.lenSl Z1u rfl) rfl (sp rfl (PE.sub rfl rfl (by omega)) rfl (pur 1 rfl (Z3 ?_))))))))
 refine Ze (ι := {k : Nat // k ≤ xs.length ∧ ∀ i, k ≤ i + 1 → i + 1 < xs.length → Z9S xs i = false}) (fun k => ⟨[(0, .slice a xs.length c), (3, .int .i64 ((k.1 : Int) - 1))], H, R⟩) (fun k => k.1) ⟨xs.length, by omega, fun i h1 h2 => by omega⟩ ?_ (fun k => ?_)
 exact Zl idH
 obtain ⟨k, hk, hn⟩ := k
 dsimp only
 refine Z0 (sqt 2 rfl (pur 2 rfl ?_))
 refine Z2 rfl ?_ ?_ <;> intro hc0 <;> try simp only [cS] at hc0
 obtain ⟨k, rfl⟩ : ∃ j, k = j + 2 := ⟨k - 2, by omega⟩
 obtain ⟨y, hy⟩ : ∃ y, xs[k + 1]? = some y := ⟨_, List.getElem?_eq_getElem (by omega)⟩
 obtain ⟨x, hx⟩ : ∃ x, xs[k]? = some x := ⟨_, List.getElem?_eq_getElem (by omega)⟩
 rw [show (((k + 2 : Nat) : Int) - 1) = (k + 1 : Nat) from by omega]
 refine Zp (a := a) (sz := 1) (rows := Zn xs) (by cases xs <;> simp_all) (fun b off he => ?_)
 subst he
 refine Z4 (Z0 (Z3 (Z0 ?_)))
 refine Z8 [0, 0, 3, 7, 0, 0, 32, 112, 240, 511] (tks 0 3 (.ld 3 (tks 4 4 (.ld 8 (.big 9 .done))))) Zr (by kernel_rfl) ?_
 refine Zg 2 rfl (tk rfl (PE.indexAddr Z5z rfl rfl (by omega) (by omega)) rfl (ld rfl rfl (lf0 (x := .int .i64 y) sc3 (by simp [Zn]; exact ⟨y, hy, rfl⟩) rfl) rfl (Zg 2 rfl (tk rfl (PE.sub rfl rfl (by omega)) rfl (tk rfl (PE.indexAddr Z5z rfl rfl (by omega) (by omega)) rfl (ld rfl rfl (lf0 (x := .int .i64 x) sc3 (by rw [show (((k + 1 : Nat) : Int) - 1).toNat = k from by omega]; simp [Zn]; exact ⟨x, hx, rfl⟩) rfl) rfl ?_))))))
 refine clV rfl ZcZ rfl rfl (Zd9 y x _ _) ?_
 refine bgT ?_
 refine Z2 rfl ?_ ?_ <;> intro hc1 <;> try simp only [cS] at hc1
 have hbn := Z8G hx hy hc1
 refine sqt 1 rfl (pur 1 rfl (Z1 ?_))
 exact rtA rfl rfl rfl ⟨by simp only [ZM]; rw [hbn], rfl, rfl⟩ drp
 refine Z4 (sqr 3 rfl (pur 1 rfl (sp rfl (PE.sub rfl rfl (by omega)) rfl (pur 1 rfl ?_))))
 refine ZW ⟨k + 1, by omega, fun i h1 h2 => ?_⟩ (by dsimp only; omega) (by dsimp only; rw [show ((k + 1 : Nat) : Int) - 1 = ((k + 1 : Nat) : Int) - 1 from rfl]; exact (by repeat' first | exact Sub.nil | apply Sub.cons | rfl | (simp [lk]; omega))) idH
 rcases Nat.lt_or_ge k i with h3 | h3
 · exact hn i (by omega) h2
 · obtain rfl : i = k := by omega
   unfold Z9S
   rw [hx, hy]
   simp only [decide_eq_false_iff_not]
   omega
 have hbn := ZcP (l := xs) (fun i hi => hn i (by omega) hi)
 refine Zb (Zc (Zc (ZA (sqt 1 rfl (pur 1 rfl (Z1 ?_))))))
 exact rtA rfl rfl rfl ⟨by simp only [ZM]; rw [hbn], rfl, rfl⟩ drp
theorem Z51 (xs : List Int) (n : Nat) (hn : xs.length = n) (a : Option Addr) (c g : Nat) (fst cap : List Value) (p : Int → Bool) (hg : cal Tryz.prog g = true) (hl : xs.length ≤ 9223372036854775807) (H : Z7) (R : Z5) [hR : MemRows a 1 (Zn xs) R] (hp : ∀ b x, x ∈ xs → FnV Tryz.prog g (fst ++ [.int .i64 x] ++ cap) ((b, cel 96 [.func (.func g) fst.toArray cap.toArray]) :: H) R (.bool (p x))) :
    FnV Tryz.prog 78 [.slice a n c, .func (.func g) fst.toArray cap.toArray] H R (.bool (xs.all p)) := by subst hn; exact Z0E xs a c g fst cap p hg hl H R hp
theorem Z6a (xs : List Int) (n : Nat) (hn : xs.length = n) (a : Option Addr) (c : Nat) (hl : xs.length ≤ 9223372036854775807) (H : Z7) (R : Z5) [hR : MemRows a 1 (Zn xs) R] : FnV Tryz.prog 82 [.slice a n c] H R (.bool (srt xs)) := by subst hn; exact Z7j xs a c hl H R
theorem Z27 (b : Barn) (ab : Option Addr) (cb : Nat) (hl : b.bins.length ≤ 9223372036854775807) (hr : b.rise.length = 6) (H : Z7) (R : Z5) [hB : MemRows ab 4 (brows b.bins) R] :
    FnV Tryz.prog 55 [b.v (b.sl ab cb)] H R (.int .i64 b.check) := by
 refine Z9 Tryz.func55 rfl Tryz.ntmps55 rfl ?_
 refine sqt 2 rfl (bx rfl rfl rfl (fun b1 => ?_))
 refine Sy.heap (fun w h => St.barn (b := b) (sl := b.sl ab cb) hr (h.pull b1)) ?_
 refine pur 1 rfl (Z0 (Z3 (sqt 6 rfl (sp rfl (PE.fA Zj rfl) rfl (spL rfl rfl (lfB (sz := 9) Z0b rfl) rfl (sp rfl (PE.lenSl Z0G rfl) rfl ?_))))))
 refine clV rfl Z4j rfl rfl (Z4x _ _ _ _ _) ?_
 refine pur 2 rfl ?_
 refine Z2 rfl ?_ ?_ <;> intro hc0
 refine sqt 1 rfl (pur 1 rfl (Z1 ?_))
 exact rtA rfl rfl rfl ⟨congrArg (Value.int .i64) (by simp_all only [ZM, Barn.check, cond_true, cond_false, Bool.not_true, Bool.not_false, Bool.not_eq_true', Bool.not_eq_false', Bool.true_or, Bool.or_true, Bool.false_or, Bool.or_false]), rfl, rfl⟩ drp
 refine sqt 11 rfl (sp rfl (PE.fA Z5x rfl) rfl (spL rfl rfl (lfB (sz := 9) sc3 rfl) rfl ?_))
 refine clV rfl Z4j rfl rfl (Z4x _ _ _ _ _) ?_
 refine pur 2 rfl ?_
 refine Zy 14 rfl ?_ ?_ <;> intro g14
 refine pur 6 rfl ?_
 refine Zv rfl ?_
 refine sqt 1 rfl (pur 1 rfl (Z1 ?_))
 exact rtA rfl rfl rfl ⟨congrArg (Value.int .i64) (by simp_all only [ZM, Barn.check, cond_true, cond_false, Bool.not_true, Bool.not_false, Bool.not_eq_true', Bool.not_eq_false', Bool.true_or, Bool.or_true, Bool.false_or, Bool.or_false]), rfl, rfl⟩ drp
 refine spG rfl rfl rfl rfl (PE.fA Z1C rfl) rfl ?_
 refine Z25 rfl rfl rfl rfl rfl (lfB (sz := 9) sc3 rfl) rfl ?_
 refine Z5r rfl rfl rfl rfl Z4j rfl rfl (Z4x _ _ _ _ _) ?_
 refine pur 3 rfl ?_
 refine Z2 rfl ?_ ?_ <;> intro hc1
 refine sqt 1 rfl (pur 1 rfl (Z1 ?_))
 exact rtA rfl rfl rfl ⟨congrArg (Value.int .i64) (by simp_all only [ZM, Barn.check, cond_true, cond_false, Bool.not_true, Bool.not_false, Bool.not_eq_true', Bool.not_eq_false', Bool.true_or, Bool.or_true, Bool.false_or, Bool.or_false]), rfl, rfl⟩ drp
 refine sqt 5 rfl (sp rfl (PE.fA Z1X rfl) rfl (sp rfl (PE.slArr Zaq rfl) rfl ?_))
 refine clV rfl Zdt rfl rfl (Z51 b.rise 6 hr (some ⟨b1, 2, none⟩) 6 79 [] [] Z1x ZeV (by omega) _ _ (fun _ x _ => Z7Z x _ _)) ?_
 refine pur 2 rfl ?_
 refine Z2 rfl ?_ ?_ <;> intro hc2
 refine sqt 1 rfl (pur 1 rfl (Z1 ?_))
 exact rtA rfl rfl rfl ⟨congrArg (Value.int .i64) (by simp_all only [ZM, Barn.check, cond_true, cond_false, Bool.not_true, Bool.not_false, Bool.not_eq_true', Bool.not_eq_false', Bool.true_or, Bool.or_true, Bool.false_or, Bool.or_false]), rfl, rfl⟩ drp
 refine sqt 5 rfl (sp rfl (PE.fA Zj rfl) rfl (spL rfl rfl (lfB (sz := 9) Z0b rfl) rfl ?_))
 refine clV rfl Zcl rfl rfl (Z2Z b.bins ab cb 81 [] [] HBin.ok Zf7 hl _ _ (fun _ _ x _ => Z83 x _ _)) ?_
 refine pur 2 rfl ?_
 refine Z2 rfl ?_ ?_ <;> intro hc3
 refine sqt 1 rfl (pur 1 rfl (Z1 ?_))
 exact rtA rfl rfl rfl ⟨congrArg (Value.int .i64) (by simp_all only [ZM, Barn.check, cond_true, cond_false, Bool.not_true, Bool.not_false, Bool.not_eq_true', Bool.not_eq_false', Bool.true_or, Bool.or_true, Bool.false_or, Bool.or_false]), rfl, rfl⟩ drp
 refine sqt 11 rfl (sp rfl (PE.fA Z1X rfl) rfl (sp rfl (PE.slArr Zaq rfl) rfl ?_))
 refine clV rfl Zev rfl rfl (Z6a b.rise 6 hr (some ⟨b1, 2, none⟩) 6 (by omega) _ _) ?_
 refine pur 2 rfl ?_
 refine Zy 35 rfl ?_ ?_ <;> intro g35
 refine pur 6 rfl ?_
 refine Zv rfl ?_
 refine sqt 1 rfl (pur 1 rfl (Z1 ?_))
 exact rtA rfl rfl rfl ⟨congrArg (Value.int .i64) (by simp_all only [ZM, Barn.check, cond_true, cond_false, Bool.not_true, Bool.not_false, Bool.not_eq_true', Bool.not_eq_false', Bool.true_or, Bool.or_true, Bool.false_or, Bool.or_false]), rfl, rfl⟩ drp
 refine spG rfl rfl rfl rfl (PE.fA Zj rfl) rfl ?_
 refine Z25 rfl rfl rfl rfl rfl (lfB (sz := 9) Z0b rfl) rfl ?_
 refine Z5r rfl rfl rfl rfl Zcl rfl rfl (Z2Z b.bins ab cb 83 [] [] (fun x => decide (x.lo ≤ x.hi)) Zeb hl _ _ (fun _ _ x _ => Zdn x _ _)) ?_
 refine pur 3 rfl ?_
 refine Z2 rfl ?_ ?_ <;> intro hc4
 refine sqt 1 rfl (pur 1 rfl (Z1 ?_))
 exact rtA rfl rfl rfl ⟨congrArg (Value.int .i64) (by simp_all only [ZM, Barn.check, cond_true, cond_false, Bool.not_true, Bool.not_false, Bool.not_eq_true', Bool.not_eq_false', Bool.true_or, Bool.or_true, Bool.false_or, Bool.or_false]), rfl, rfl⟩ drp
 refine Z4 (sqt 1 rfl (pur 1 rfl (Z1 ?_)))
 exact rtA rfl rfl rfl ⟨congrArg (Value.int .i64) (by simp_all only [ZM, Barn.check, cond_true, cond_false, Bool.not_true, Bool.not_false, Bool.not_eq_true', Bool.not_eq_false', Bool.true_or, Bool.or_true, Bool.false_or, Bool.or_false]), rfl, rfl⟩ drp
theorem Zt : Z1M Tryz.prog 37 = some 9 := by kernel_rfl
theorem Zag : cal Tryz.prog 55 = true := by kernel_rfl
theorem Z9l : cal Tryz.prog 64 = true := by kernel_rfl
theorem ZaV : cal Tryz.prog 66 = true := by kernel_rfl
theorem Zav {l : List Int} {k : Nat} (h : k < l.length) : na l k ∈ l := by
  unfold na; rw [List.getD_eq_getElem?_getD, List.getElem?_eq_getElem h]; exact List.getElem_mem h
theorem Z07 {l : List Int} {k : Nat} (h : k < l.length) : l[k]? = some (na l k) := by
  unfold na; rw [List.getD_eq_getElem?_getD, List.getElem?_eq_getElem h]; rfl
theorem Barn.worst_range {b : Barn} (hb : b.ok) {x : HBin} (hx : x ∈ b.bins) : b.worst x = 0 ∨ (6 ≤ b.worst x ∧ b.worst x ≤ 20) := by
  have h1 := (hb.bins x hx).2.2.2
  exact hb.rise _ (Zav (by rw [hb.len]; omega))
theorem Barn.least_range {b : Barn} (hb : b.ok) {x : HBin} (hx : x ∈ b.bins) : b.least x = 0 ∨ (6 ≤ b.least x ∧ b.least x ≤ 20) := by
  have h1 := (hb.bins x hx).2.2.1
  exact hb.rise _ (Zav (by rw [hb.len]; omega))
theorem Barn.days_range {b : Barn} (hb : b.ok) {x : HBin} (hx : x ∈ b.bins) {w : Int} (hw : 0 ≤ w) : b.days x w = 1000000 ∨ (0 ≤ b.days x w ∧ b.days x w ≤ 10) := by
  have h1 := b.worst_range hb hx
  have h2 := (hb.bins x hx).1
  unfold Barn.days Z00
  by_cases h0 : b.worst x = 0
  · rw [h0]; exact .inl rfl
  · rw [decide_eq_false h0, cond_false]
    by_cases h3 : x.mark < w
    · rw [decide_eq_true h3, cond_true]; exact .inr (by omega)
    · rw [decide_eq_false h3, cond_false]
      refine .inr ⟨Int.ediv_nonneg (by omega) (by omega), ?_⟩
      have : (x.mark - w) / b.worst x < 11 := Int.ediv_lt_of_lt_mul (by omega) (by omega)
      omega
theorem Z5M {l : List Int} (h : l.length ≤ 4) : (pad l).length = 4 := by simp [pad]; omega
theorem Zbi {l : List Int} {k : Nat} (h : k < l.length) : (pad l)[k]? = l[k]? := by unfold pad; rw [List.getElem?_append_left h]
theorem Z6J {l : List Int} {k : Nat} (h : l.length ≤ k) (h4 : k < 4) : (pad l)[k]? = some 0 := by
  unfold pad
  rw [List.getElem?_append_right h, List.getElem?_replicate, if_pos (by omega)]
theorem Z24 (y : List Int) (i : Nat) (x : Int) : Za (y.set i x) = (Za y).set i (.int .i64 x) := by simp [Za, List.map_set]
theorem Z3l {l : List Value} {k : Nat} {v : Value} (h : k < l.length) : spl l k [v] = l.set k v := by
  simp only [spl, List.length_singleton, List.append_assoc, List.singleton_append]
  rw [List.set_eq_take_append_cons_drop, if_pos h]
theorem ZbY {l : List Int} (h : l.length < 4) (v : Int) : spl (Za (pad l)) (0 + l.length * 1) [.int .i64 v] = Za (pad (l ++ [v])) := by
  rw [show 0 + l.length * 1 = l.length by omega, Z3l (by rw [ints_length, Z5M (by omega)]; exact h), ← Z24]
  unfold pad
  have e : (4 - l.length) = (4 - (l.length + 1)) + 1 := by omega
  rw [e, List.replicate_succ, List.set_append_right _ _ (Nat.le_refl _), Nat.sub_self, List.set_cons_zero, List.length_append, List.length_singleton, List.append_assoc]
  rfl
def stv (s : HSt) : Value := .agg (Za s).toArray
def dcs (b : Barn) (sl : Value) (lasts most : List Int) (m : Nat) : List Value := btl b sl ++ (Za lasts ++ (Za most ++ [.map (some m)]))
theorem Z3Z {b : Barn} {sl : Value} {y z : List Int} {m : Nat} (hy : y.length = 4) (hz : z.length = 4) : (dcs b sl y z m).length = 18 := by simp [dcs, btl, hy, hz]
theorem Z4T {b : Barn} {sl : Value} {y z : List Int} {m k i : Nat} (hy : y.length = 4) (hk : k < 4) (e : i = 9 + k) : (dcs b sl y z m)[i]? = some (.int .i64 (na y k)) := by
  subst e
  show (([_, _, _, _, _, _, _, _, _] ++ (Za y ++ (Za z ++ [.map (some m)])) : List Value))[9 + k]? = _
  rw [List.getElem?_append_right (by simp)]
  simp only [List.length_cons, List.length_nil, Nat.zero_add, Nat.add_sub_cancel_left]
  rw [List.getElem?_append_left (by rw [ints_length]; omega)]
  exact Z2C (Z07 (by omega))
theorem Z4r {b : Barn} {sl : Value} {y z : List Int} {m k i : Nat} (hy : y.length = 4) (hz : z.length = 4) (hk : k < 4) (e : i = 13 + k) : (dcs b sl y z m)[i]? = some (.int .i64 (na z k)) := by
  subst e
  show (([_, _, _, _, _, _, _, _, _] ++ (Za y ++ (Za z ++ [.map (some m)])) : List Value))[13 + k]? = _
  rw [List.getElem?_append_right (by simp; omega)]
  simp only [List.length_cons, List.length_nil, Nat.zero_add]
  rw [List.getElem?_append_right (by rw [ints_length]; omega), ints_length, hy, show 13 + k - 9 - 4 = k by omega, List.getElem?_append_left (by rw [ints_length]; omega)]
  exact Z2C (Z07 (by omega))
theorem Z1H {b : Barn} {sl : Value} {y z : List Int} {m : Nat} (hy : y.length = 4) (hz : z.length = 4) : (dcs b sl y z m)[17]? = some (.map (some m)) := by
  show (([_, _, _, _, _, _, _, _, _] ++ (Za y ++ (Za z ++ [.map (some m)])) : List Value))[17]? = _
  rw [List.getElem?_append_right (by simp)]
  simp only [List.length_cons, List.length_nil, Nat.zero_add]
  rw [List.getElem?_append_right (by rw [ints_length]; omega), ints_length, hy, List.getElem?_append_right (by rw [ints_length]; omega), ints_length, hz]
  rfl
theorem Z9J {b : Barn} {sl : Value} {y z : List Int} {m k i : Nat} (v : Int) (hy : y.length = 4) (hz : z.length = 4) (hk : k < 4) (e : i = 9 + k) : spl (dcs b sl y z m) i [.int .i64 v] = dcs b sl (y.set k v) z m := by
  subst e
  rw [Z3l (by rw [Z3Z hy hz]; omega)]
  show (([_, _, _, _, _, _, _, _, _] ++ (Za y ++ (Za z ++ [.map (some m)])) : List Value)).set (9 + k) _ = [_, _, _, _, _, _, _, _, _] ++ (Za (y.set k v) ++ (Za z ++ [.map (some m)]))
  rw [List.set_append_right _ _ (by simp)]
  simp only [List.length_cons, List.length_nil, Nat.zero_add, Nat.add_sub_cancel_left]
  rw [List.set_append_left _ _ (by rw [ints_length]; omega), Z24]
theorem Z9D {b : Barn} {sl : Value} {y z : List Int} {m k i : Nat} (v : Int) (hy : y.length = 4) (hz : z.length = 4) (hk : k < 4) (e : i = 13 + k) : spl (dcs b sl y z m) i [.int .i64 v] = dcs b sl y (z.set k v) m := by
  subst e
  rw [Z3l (by rw [Z3Z hy hz]; omega)]
  show (([_, _, _, _, _, _, _, _, _] ++ (Za y ++ (Za z ++ [.map (some m)])) : List Value)).set (13 + k) _ = [_, _, _, _, _, _, _, _, _] ++ (Za y ++ (Za (z.set k v) ++ [.map (some m)]))
  rw [List.set_append_right _ _ (by simp; omega)]
  simp only [List.length_cons, List.length_nil, Nat.zero_add]
  rw [List.set_append_right _ _ (by rw [ints_length]; omega), ints_length, hy, show 13 + k - 9 - 4 = k by omega, List.set_append_left _ _ (by rw [ints_length]; omega), Z24]
theorem Z2G {α : Type} {l l' : List α} {k : Nat} {v : α} (hl : l.length = l'.length) (h : l'[k]? = some v) : (l'.take k ++ l.drop k).set k v = l'.take (k + 1) ++ l.drop (k + 1) := by
  have hk : k < l'.length := (List.getElem?_eq_some_iff.1 h).1
  rw [List.set_append_right _ _ (by rw [List.length_take]; omega), List.length_take, show k - min k l'.length = 0 by omega, List.take_add_one, h, show l.drop k = l[k]'(by omega) :: l.drop (k + 1) from List.drop_eq_getElem_cons (by omega), List.set_cons_zero, List.append_assoc]
  rfl
theorem ZbL (b : Barn) (ab : Option Addr) (cb : Nat) (n : Int) (hl : b.bins.length ≤ 9223372036854775807) (H : Z7) (R : Z5) :
    FnV Tryz.prog 66 [b.v (b.sl ab cb), .int .i64 n] H R (.bool (inB n 0 ((b.bins.length : Int) - 1))) := by
 refine Z9 Tryz.func66 rfl Tryz.ntmps66 rfl ?_
 refine sqt 2 rfl (bx rfl rfl rfl (fun b2 => pur 1 rfl (sqt 7 rfl (pur 1 rfl (sp rfl (PE.fA Zj rfl) rfl (spL rfl rfl (lh Z0b rfl rfl) rfl (sp rfl (PE.lenSl Z0G rfl) rfl (sp rfl (PE.sub rfl rfl (by omega)) rfl ?_))))))))
 refine clV rfl Z4j rfl rfl (Z4x _ _ _ _ _) ?_
 refine pur 1 rfl (Z1 ?_)
 exact rtA rfl rfl rfl ⟨rfl, rfl, rfl⟩ drp
theorem ZbP (b : Barn) (ab : Option Addr) (cb : Nat) (hl : b.bins.length ≤ 9223372036854775807) (hr : b.rise.length = 6) (n : Int) (H : Z7) (R : Z5) [hB : MemRows ab 4 (brows b.bins) R] :
    FnV Tryz.prog 29 [b.v (b.sl ab cb), .int .i64 n] H R (.int .i64 (bif decide (b.check = 0) then (bif inB n 0 ((b.bins.length : Int) - 1) then 0 else 1) else b.check)) := by
 refine Z9 Tryz.func29 rfl Tryz.ntmps29 rfl ?_
 refine sqt 2 rfl (bx rfl rfl rfl (fun b2 => pur 1 rfl (sqt 3 rfl (spL rfl rfl (lhA (btl b (b.sl ab cb)) Zt rfl rfl rfl) rfl (sp rfl (PE.makeFunc rfl rfl) rfl (pur 1 rfl (sqt 3 rfl (spL rfl rfl (lhA (btl b (b.sl ab cb)) Zt rfl rfl rfl) rfl ?_))))))))
 refine clV rfl Zag rfl rfl (Z27 b ab cb hl hr _ _) ?_
 refine pur 1 rfl (Z0 (sqt 8 rfl (pur 3 rfl ?_)))
 refine Zy 13 rfl ?_ ?_ <;> intro g13
 refine pur 2 rfl ?_
 refine ZeC rfl rfl rfl rfl rfl (ZaV) rfl rfl (ZbL b ab cb n hl _ _) ?_
 refine pur 2 rfl ?_
 refine Z2 rfl ?_ ?_ <;> intro hc0
 refine sqr 1 rfl (pur 1 rfl (sqt 2 rfl (pur 2 rfl (Z1 ?_))))
 exact rtA rfl rfl rfl ⟨by simp only [ZM]; first | (rw [Bool.not_eq_true'] at hc0; rw [g13, hc0]; rfl) | (rw [Bool.not_eq_false'] at hc0; rw [g13, hc0, of_decide_eq_true g13]; rfl) | (rw [g13]; rfl), rfl, rfl⟩ drp
 refine Z4 (sqt 2 rfl (pur 2 rfl (Z1 ?_)))
 exact rtA rfl rfl rfl ⟨by simp only [ZM]; first | (rw [Bool.not_eq_true'] at hc0; rw [g13, hc0]; rfl) | (rw [Bool.not_eq_false'] at hc0; rw [g13, hc0, of_decide_eq_true g13]; rfl) | (rw [g13]; rfl), rfl, rfl⟩ drp
 refine pur 5 rfl ?_
 refine ZD rfl ?_
 refine Z4 (sqt 2 rfl (pur 2 rfl (Z1 ?_)))
 exact rtA rfl rfl rfl ⟨by simp only [ZM]; first | (rw [Bool.not_eq_true'] at hc0; rw [g13, hc0]; rfl) | (rw [Bool.not_eq_false'] at hc0; rw [g13, hc0, of_decide_eq_true g13]; rfl) | (rw [g13]; rfl), rfl, rfl⟩ drp
theorem Z43 (b : Barn) (ab : Option Addr) (cb : Nat) (k : Nat) (x : HBin) (hx : b.bins[k]? = some x) (hh : 0 ≤ x.hi ∧ x.hi ≤ 5) (H : Z7) (R : Z5) [hB : MemRows ab 4 (brows b.bins) R] :
    FnV Tryz.prog 64 [b.v (b.sl ab cb), .int .i64 k] H R (.int .i64 (b.worst x)) := by
 have hk := (List.getElem?_eq_some_iff.1 hx).1
 refine Z9 Tryz.func64 rfl Tryz.ntmps64 rfl ?_
 refine sqt 2 rfl (bx rfl rfl rfl (fun b2 => pur 1 rfl (sqt 11 rfl (sp rfl (PE.fA Zj rfl) rfl (spL rfl rfl (lh Z0b rfl rfl) rfl (pur 1 rfl ?_))))))
 refine Zp (a := ab) (sz := 4) (rows := brows b.bins) (by intro h0; simp [brows] at h0; simp [h0] at hx) (fun ba oa he => ?_)
 subst he
 refine sp rfl (PE.indexAddr Z2i rfl rfl (by omega) (by omega)) rfl (sp rfl (PE.fA ZS rfl) rfl (sp rfl (PE.fA ZI rfl) rfl (spL rfl rfl (lf (j := 3) sc3 (br_get hx) rfl) rfl (sp rfl (PE.fA Z1X rfl) rfl (sp rfl (PE.indexArr Zaq rfl rfl (by omega) (by omega)) rfl (spL rfl rfl (lh sc3 rfl (by rw [show 0 + 2 + x.hi.toNat * 1 = 2 + x.hi.toNat by omega]; exact Z4E (by omega))) rfl (pur 1 rfl (Z1 ?_))))))))
 exact rtA rfl rfl rfl ⟨rfl, rfl, rfl⟩ drp
theorem Zaz (b : Barn) (ab : Option Addr) (cb : Nat) (hok : b.ok) (k : Nat) (x : HBin) (hx : b.bins[k]? = some x) (w : Int) (hw : 0 ≤ w ∧ w ≤ 1000000) (H : Z7) (R : Z5) [hB : MemRows ab 4 (brows b.bins) R] :
    FnV Tryz.prog 59 [b.v (b.sl ab cb), .int .i64 k, .int .i64 w] H R (.int .i64 (b.days x w)) := by
 have hk := (List.getElem?_eq_some_iff.1 hx).1
 have hm := List.mem_of_getElem? hx
 have hh := (hok.bins x hm).2.2.2
 have hmk := (hok.bins x hm).1
 have hwr := b.worst_range hok hm
 refine Z9 Tryz.func59 rfl Tryz.ntmps59 rfl ?_
 refine sqt 2 rfl (bx rfl rfl rfl (fun b3 => pur 1 rfl (Z0 (Z3 (sqt 5 rfl (spL rfl rfl (lhA (btl b (b.sl ab cb)) Zt rfl rfl rfl) rfl (pur 1 rfl ?_)))))))
 refine clV rfl Z9l rfl rfl (Z43 b ab cb k x hx hh _ _) ?_
 refine pur 2 rfl ?_
 refine Z2 rfl ?_ ?_ <;> intro hc0 <;> try simp only [cS] at hc0
 refine sqt 1 rfl (pur 1 rfl (Z1 ?_))
 exact rtA rfl rfl rfl ⟨by simp only [ZM, Barn.days, Z00]; first | (rw [dT hc0]; rfl) | (rw [dF hc0, dT hc1]; rfl) | (rw [dF hc0, dF (by omega)]; rfl), rfl, rfl⟩ drp
 refine sqt 9 rfl (pur 1 rfl (sp rfl (PE.fA Zj rfl) rfl (spL rfl rfl (lh Z0b rfl rfl) rfl (pur 1 rfl ?_))))
 refine Zp (a := ab) (sz := 4) (rows := brows b.bins) (by intro h0; simp [brows] at h0; simp [h0] at hx) (fun ba oa he => ?_)
 subst he
 refine sp rfl (PE.indexAddr Z2i rfl rfl (by omega) (by omega)) rfl (sp rfl (PE.fA Z3M rfl) rfl (spL rfl rfl (lf sc3 (br_get hx) rfl) rfl (pur 2 rfl ?_)))
 refine Z2 rfl ?_ ?_ <;> intro hc1 <;> try simp only [cS] at hc1
 refine sqt 1 rfl (pur 1 rfl (Z1 ?_))
 exact rtA rfl rfl rfl ⟨by simp only [ZM, Barn.days, Z00]; first | (rw [dT hc0]; rfl) | (rw [dF hc0, dT hc1]; rfl) | (rw [dF hc0, dF (by omega)]; rfl), rfl, rfl⟩ drp
 refine Z4 (Z0 ?_)
 refine Z8 [0, 1, 0, 7, 15, 31, 0, 127, 0, 0, 768, 2047, 4095] (.tk 0 (.ld 1 (tks 2 3 (.ld 5 (.tk 6 (.tk 7 (.ld 8 (.tk 9 (.big 10 (.tk 11 (.tk 12 .done))))))))))) Zr (by kernel_rfl) ?_
 refine tk rfl (PE.fA Zj rfl) rfl (ld rfl rfl (lh Z0b rfl rfl) rfl (Zg 1 rfl (tk rfl (PE.indexAddr Z2i rfl rfl (by omega) (by omega)) rfl (tk rfl (PE.fA Z3M rfl) rfl (ld rfl rfl (lf sc3 (br_get hx) rfl) rfl (Zg 1 rfl (tk rfl (PE.sub rfl rfl (by omega)) rfl (ld rfl rfl (lhA (btl b (b.sl (some ⟨ba, oa, none⟩) cb)) Zt rfl rfl rfl) rfl (Zg 1 rfl ?_)))))))))
 refine clV rfl Z9l rfl rfl (Z43 b (some ⟨ba, oa, none⟩) cb k x hx hh _ _) ?_
 refine bg (fun w hs => ⟨trivial, (lf sc3 (br_get hx) rfl) w hs, (lh Z0b rfl rfl) w hs, trivial⟩) ?_
 refine tk rfl (PE.quo rfl rfl (by omega)) rfl (Zg 1 rfl (Z1 ?_))
 exact rtA rfl rfl rfl ⟨by simp only [ZM, Barn.days, Z00]; first | (rw [dT hc0]; rfl) | (rw [dF hc0, dT hc1]; rfl) | (rw [dF hc0, dF (by omega)]; rfl), rfl, rfl⟩ drp
def Barn.known (b : Barn) (n : Int) : Int := bif decide (b.check = 0) then (bif inB n 0 ((b.bins.length : Int) - 1) then 0 else 1) else b.check
theorem Barn.known_ok {b : Barn} {k : Nat} {x : HBin} (h : b.check = 0) (hx : b.bins[k]? = some x) : b.known k = 0 := by
  have := (List.getElem?_eq_some_iff.1 hx).1
  unfold Barn.known inB
  rw [decide_eq_true h, decide_eq_true (show (0 : Int) ≤ k by omega), decide_eq_true (show (k : Int) ≤ (b.bins.length : Int) - 1 by omega)]
  rfl
def Z3A (b : Barn) (n : Int) : HBin := b.bins.getD n.toNat ⟨0, 0, 0, 0⟩
theorem binAt_of {b : Barn} {k : Nat} {x : HBin} (hx : b.bins[k]? = some x) : Z3A b k = x := by simp [Z3A, hx]
theorem Z4h (b : Barn) (ab : Option Addr) (cb : Nat) (w r : Int) (t : Bool) (hw : -1000000 ≤ w ∧ w ≤ 1000000) (hr : 0 ≤ r ∧ r ≤ 1000000) (hc : -1000000 ≤ b.cool ∧ b.cool ≤ 1000000) (H : Z7) (R : Z5) :
    FnV Tryz.prog 63 [b.v (b.sl ab cb), .int .i64 w, .int .i64 r, .bool t] H R (.int .i64 ((bif t then min w b.cool else w) + r)) := by
 refine Z9 Tryz.func63 rfl Tryz.ntmps63 rfl ?_
 refine sqt 2 rfl (bx rfl rfl rfl (fun b4 => pur 1 rfl (Z0 (sqt 1 rfl (pur 1 rfl ?_)))))
 refine Z2 rfl ?_ ?_ <;> intro hc0
 subst hc0
 refine sqr 5 rfl (pur 1 rfl (sp rfl (PE.fA Z5x rfl) rfl (spL rfl rfl (lh sc3 rfl rfl) rfl (sp rfl (PE.min rfl rfl) rfl (pur 1 rfl (sqt 4 rfl (pur 2 rfl (sp rfl (PE.add rfl rfl (by omega)) rfl (pur 1 rfl (Z1 ?_))))))))))
 exact rtA rfl rfl rfl ⟨rfl, rfl, rfl⟩ drp
 subst hc0
 refine Z4 (sqt 4 rfl (pur 2 rfl (sp rfl (PE.add rfl rfl (by omega)) rfl (pur 1 rfl (Z1 ?_)))))
 exact rtA rfl rfl rfl ⟨rfl, rfl, rfl⟩ drp
theorem Z0J : Z1M Tryz.prog 83 = some 4 := by kernel_rfl
theorem Z2B : arN Tryz.prog 83 = some (4, 1) := by kernel_rfl
theorem Z7P : cal Tryz.prog 25 = true := by kernel_rfl
theorem Z7D : cal Tryz.prog 30 = true := by kernel_rfl
theorem Zdj : cal Tryz.prog 56 = true := by kernel_rfl
theorem Zck : cal Tryz.prog 59 = true := by kernel_rfl
theorem cn3 : ZT Tryz.prog 3 = some 1 := by kernel_rfl
theorem ZcK : ZT Tryz.prog 53 = some 4 := by kernel_rfl
theorem Z4I : ZT Tryz.prog 83 = some 4 := by kernel_rfl
theorem Z1y : Z0w Tryz.prog 86 0 = some 0 := by kernel_rfl
theorem Z8A : Z0w Tryz.prog 86 1 = some 9 := by kernel_rfl
theorem Z6R : Z0w Tryz.prog 86 2 = some 13 := by kernel_rfl
theorem ZfF : Z0c Tryz.prog 86 = some [(0, 9), (9, 4), (13, 4), (17, 1)] := by kernel_rfl
theorem Z5A : slE Tryz.prog 91 = some (3, 1) := by kernel_rfl
theorem zl3 : ZE Tryz.prog 3 = some ([.int .i64 0]) := by kernel_rfl
theorem Z79 : ZE Tryz.prog 53 = some ([.int .i64 0, .int .i64 0, .int .i64 0, .int .i64 0]) := by kernel_rfl
theorem Z4u : ZE Tryz.prog 83 = some ([.int .i64 0, .int .i64 0, .int .i64 0, .int .i64 0]) := by kernel_rfl
theorem ZfP : ZE Tryz.prog 86 = some ([.int .i64 0, .int .i64 0, .int .i64 0, .int .i64 0, .int .i64 0, .int .i64 0, .int .i64 0, .int .i64 0, .slice none 0 0, .int .i64 0, .int .i64 0, .int .i64 0, .int .i64 0, .int .i64 0, .int .i64 0, .int .i64 0, .int .i64 0, .map none]) := by kernel_rfl
theorem Barn.map_get {b : Barn} (hok : b.ok) (f : HBin → Int) {k : Nat} {x : HBin} (hx : b.bins[k]? = some x) : (pad (b.bins.map f))[k]? = some (f x) := by
  have hk := (List.getElem?_eq_some_iff.1 hx).1
  rw [Zbi (by simpa using hk), List.getElem?_map, hx]; rfl
theorem Barn.map_sml {b : Barn} (hok : b.ok) {f : HBin → Int} (hf : ∀ x ∈ b.bins, 0 ≤ f x ∧ f x ≤ 1000000) : Sml (pad (b.bins.map f)) where
  len := Z5M (by rw [List.length_map]; exact hok.many.2)
  at_ k hk := by
    unfold na
    rw [List.getD_eq_getElem?_getD]
    rcases Nat.lt_or_ge k b.bins.length with h | h
    · obtain ⟨x, hx⟩ : ∃ x, b.bins[k]? = some x := ⟨_, List.getElem?_eq_getElem h⟩
      rw [b.map_get hok f hx]; exact hf x (List.mem_of_getElem? hx)
    · rw [Z6J (by simpa using h) hk]; exact ⟨by decide, by decide⟩
theorem Barn.days_sml {b : Barn} (hb : b.ok) {x : HBin} (hx : x ∈ b.bins) {w : Int} (hw : 0 ≤ w) : 0 ≤ b.days x w ∧ b.days x w ≤ 1000000 := by
  have := b.days_range hb hx hw; omega
theorem Barn.state_sml {b : Barn} (hb : b.ok) : Sml b.state := b.map_sml hb fun x hx => b.days_sml hb hx (hb.bins x hx).2.1.1
theorem Barn.lasts_sml {b : Barn} (hb : b.ok) : Sml b.lasts := b.map_sml hb fun x hx => b.days_sml hb hx hb.cool.1
theorem Barn.most_sml {b : Barn} (hb : b.ok) : Sml b.most := b.map_sml hb fun x hx => by
  have h1 := b.days_sml hb hx (hb.bins x hx).2.1.1
  have h2 := b.days_sml hb hx hb.cool.1
  omega
theorem Z0x {m : List Int} (h : m.length = 4) : ∃ a b c d, m = [a, b, c, d] := by
  match m, h with
  | [a, b, c, d], _ => exact ⟨a, b, c, d, rfl⟩
theorem Z13 {l : List Int} {k : Nat} {v : Int} (h : l[k]? = some v) : na l k = v := by unfold na; rw [List.getD_eq_getElem?_getD, h]; rfl
theorem Z6y {l l' : List Int} {k : Nat} (hl : l.length = l'.length) (hk : k ≤ l.length) : (l'.take k ++ l.drop k).length = l.length := by simp; omega
theorem ZcN {l l' : List Int} {k : Nat} {v : Int} (hl : l.length = l'.length) (h : l[k]? = some v) : (l'.take k ++ l.drop k)[k]? = some v := by
  have hk := (List.getElem?_eq_some_iff.1 h).1
  rw [List.getElem?_append_right (by rw [List.length_take]; omega), List.length_take, show k - min k l'.length = 0 by omega, List.getElem?_drop]
  simpa using h
theorem ZdN {l l' : List Int} {k : Nat} {v : Int} (hl : l.length = l'.length) (h : l'[k]? = some v) : (l'.take (k + 1) ++ l.drop (k + 1))[k]? = some v := by
  have hk := (List.getElem?_eq_some_iff.1 h).1
  rw [List.getElem?_append_left (by rw [List.length_take]; omega), List.getElem?_take, if_pos (by omega)]; exact h
theorem Z8Y {l l' : List Int} {n : Nat} (h : l.length = n) (h' : l'.length = n) : (pad l').take n ++ (pad l).drop n = pad l' := by
  unfold pad
  rw [List.take_append_of_le_length (by omega), List.take_of_length_le (by omega), List.drop_append, List.drop_of_length_le (by omega), h, h', Nat.sub_self]
  rfl
def nxv : Option HSt → Value
  | none => .tuple #[stv [0, 0, 0, 0], .bool false]
  | some t => .tuple #[stv t, .bool true]
abbrev il (l : List Nat) : List Int := l.map fun (n : Nat) => (n : Int)
theorem Z3H {s : List Int} {k i : Nat} {v : Int} (hs : s.length = 4) (hk : k < 4) (e : i = k) : spl (Za s) i [.int .i64 v] = Za (s.set k v) := by
  subst e; rw [Z3l (by rw [ints_length]; omega), Z24]
theorem Z4m {s : List Int} {k i : Nat} (hs : s.length = 4) (hk : k < 4) (e : i = k) : (Za s)[i]? = some (.int .i64 (na s k)) := by
  subst e; exact Z2C (Z07 (by omega))
theorem Z2V (b : Barn) (ab : Option Addr) (cb : Nat) (hok : b.ok) (H : Z7) (R : Z5) [hB : MemRows ab 4 (brows b.bins) R] :
    FnV Tryz.prog 25 [b.v (b.sl ab cb)] H R (stv b.state) := by
 refine Z9 Tryz.func25 rfl Tryz.ntmps25 rfl ?_
 refine sqt 2 rfl (bx rfl rfl rfl (fun b1 => alc rfl Z4u rfl (fun b2 => sqt 1 rfl (alc rfl Z4u rfl (fun b3 => Z0 (sqt 4 rfl (sp rfl (PE.fA Zj rfl) rfl (spL rfl rfl (lh Z0b rfl rfl) rfl (sp rfl (PE.lenSl Z0G rfl) rfl (pur 1 rfl (Z3 ?_)))))))))))
 refine Ze (ι := {k : Nat // k ≤ b.bins.length}) (fun k => ⟨[(1, .pointer (some ⟨b1, 0, none⟩)), (2, .pointer (some ⟨b2, 0, none⟩)), (3, .pointer (some ⟨b3, 0, none⟩)), (7, b.sl ab cb), (8, .int .i64 b.bins.length), (9, .int .i64 k.1)], (b3, cel 83 (Za (pad ((b.bins.take k.1).map fun x => b.days x x.warm)))) :: (b2, cel 83 [.int .i64 0, .int .i64 0, .int .i64 0, .int .i64 0]) :: (b1, cel 37 (btl b (b.sl ab cb))) :: H, R⟩) (fun k => b.bins.length - k.1) ⟨0, by omega⟩ ?_ (fun k => ?_)
 exact Zl idH
 obtain ⟨k, hk⟩ := k
 dsimp only at hk ⊢
 have hmn := hok.many
 refine sqt 1 rfl (pur 1 rfl (Z0 ?_))
 refine Z2 rfl ?_ ?_ <;> intro hc0 <;> try simp only [cS] at hc0
 obtain ⟨x, hx⟩ : ∃ x, b.bins[k]? = some x := ⟨_, List.getElem?_eq_getElem (by omega)⟩
 have hm := List.mem_of_getElem? hx
 have hwm := (hok.bins x hm).2.1
 have hmk := (hok.bins x hm).1
 have hll : ((b.bins.take k).map fun x => b.days x x.warm).length = k := by simp; omega
 refine Zp (a := ab) (sz := 4) (rows := brows b.bins) (by intro h0; simp [brows] at h0; simp [h0] at hx) (fun ba oa he => ?_)
 subst he
 refine Z4 (Z0 (Z3 (sqt 6 rfl (pur 1 rfl (sp rfl (PE.indexAddr Z2i rfl rfl (by omega) (by omega)) rfl (spL rfl rfl (lfA Z9i (row := Z2s x) (br_get hx) rfl) rfl (alc rfl Z79 rfl (fun b5 => pur 1 rfl ?_))))))))
 refine sto rfl rfl rfl ZcK rfl rfl rfl rfl ?_
 refine sqr 8 rfl (pur 1 rfl (spL rfl rfl (lhA (btl b (b.sl (some ⟨ba, oa, none⟩) cb)) Zt rfl rfl rfl) rfl (pur 1 rfl (sp rfl (PE.fA Z2U rfl) rfl (spL rfl rfl (lh sc3 rfl rfl) rfl ?_)))))
 refine clV rfl Zck rfl rfl (Zaz b (some ⟨ba, oa, none⟩) cb hok k x hx x.warm (by omega) _ _) ?_
 refine sp rfl (PE.indexArr Z2B rfl rfl (by omega) (by omega)) rfl ?_
 refine ZQ (l' := Za (pad ((b.bins.take (k + 1)).map fun x => b.days x x.warm))) rfl rfl rfl cn3 rfl rfl rfl (by rw [List.take_add_one, hx, Option.toList_some, List.map_append]; have := ZbY (l := (b.bins.take k).map fun x => b.days x x.warm) (by omega) (b.days x x.warm); rw [hll] at this; exact this) (by rw [ints_length, Z5M (by omega)]; show 0 + ((k : Nat) : Int).toNat * 1 + 1 ≤ 4; omega) ?_
 refine sqr 2 rfl (sp rfl (PE.add rfl rfl (by omega)) rfl (pur 1 rfl ?_))
 exact Zm ⟨k + 1, by omega⟩ (fun w h => h.del b5)
 obtain rfl : k = b.bins.length := by omega
 rw [List.take_length]
 have hsl := (b.state_sml hok).len
 refine Zb (Zc (Zc (ZA (sqt 2 rfl (spL rfl rfl (lhI b.state Z0J rfl rfl (hsl)) rfl ?_)))))
 refine Z2l rfl rfl rfl Z4I rfl (by rw [ints_length]; exact hsl) rfl (Zs _) ?_
 refine Z1 ?_
 exact Z6 (vs := [_]) rfl (.cons (RV.cell rfl (lhI b.state Z0J rfl rfl (hsl))) .nil) rfl ⟨rfl, rfl, rfl⟩ drp
theorem Z6w (b : Barn) (ab : Option Addr) (cb : Nat) (hok : b.ok) (H : Z7) (R : Z5) [hB : MemRows ab 4 (brows b.bins) R] :
    Fn Tryz.prog 56 [b.v (b.sl ab cb)] H R (fun v H' R' => ∃ bd m, v = .pointer (some ⟨bd, 0, none⟩) ∧ H' = (m, Z0h true []) :: H ∧ R' = RowsA (some ⟨bd, 0, none⟩) 18 [dcs b (b.sl ab cb) b.lasts b.most m] :: R) := by
 refine Z9 Tryz.func56 rfl Tryz.ntmps56 rfl ?_
 refine sqt 2 rfl (bx rfl rfl rfl (fun b1 => pur 1 rfl (Z0 ?_)))
 refine Z6S (ι := Nat × Nat) (fun x => ⟨[(1, .pointer (some ⟨b1, 0, none⟩)), (3, .pointer (some ⟨x.1, 0, none⟩))], (x.1, cel 86 (dcs b (b.sl ab cb) [0, 0, 0, 0] b.state x.2)) :: (x.2, Z0h true []) :: (b1, cel 37 (btl b (b.sl ab cb))) :: H, R⟩) ?_ ?_
 refine Z8 [0, 0, 2, 0, 15, 31, 63] (.ld 0 (.ld 1 (.any (.alt 2 (.big 3 (.tk 4 (.big 5 (.tk 6 .done)))) (.alt 3 (.big 2 (.tk 4 (.big 5 (.tk 6 .done)))) .stop))))) Zr (by kernel_rfl) ?_
 refine ld rfl rfl (lhA (btl b (b.sl ab cb)) Zt rfl rfl rfl) rfl (ld rfl rfl (lhA (btl b (b.sl ab cb)) Zt rfl rfl rfl) rfl ?_)
 refine Zx ?_ ?_
 refine clV rfl Z7P rfl rfl (Z2V b ab cb hok _ _) ?_
 refine bg (fun w hs => ⟨trivial, (lhA (btl b (b.sl ab cb)) Zt rfl rfl rfl) w hs, trivial⟩) ?_
 refine mkm rfl rfl true (fun m => ?_)
 refine bg (fun w hs => ⟨(lhA (btl b (b.sl ab cb)) Zt rfl rfl rfl) w hs, trivial⟩) ?_
 obtain ⟨s0, s1, s2, s3, hs4⟩ := Z0x (b.state_sml hok).len
 rw [show stv b.state = .agg #[.int .i64 s0, .int .i64 s1, .int .i64 s2, .int .i64 s3] by rw [hs4]; rfl]
 refine tk rfl (PE.build (out := dcs b (b.sl ab cb) [0, 0, 0, 0] [s0, s1, s2, s3] m) ZfF ZfP rfl rfl) rfl (bx rfl rfl rfl (fun b10 => bgT ?_))
 rw [← hs4]
 refine Zg 1 rfl ?_
 exact Zk (b10, m) idH
 refine Zx ?_ ?_
 refine mkm rfl rfl true (fun m => ?_)
 refine bg (fun w hs => ⟨(lhA (btl b (b.sl ab cb)) Zt rfl rfl rfl) w hs, (lhA (btl b (b.sl ab cb)) Zt rfl rfl rfl) w hs, trivial⟩) ?_
 refine clV rfl Z7P rfl rfl (Z2V b ab cb hok _ _) ?_
 refine bg (fun w hs => ⟨trivial, (lhA (btl b (b.sl ab cb)) Zt rfl rfl rfl) w hs, trivial⟩) ?_
 obtain ⟨s0, s1, s2, s3, hs4⟩ := Z0x (b.state_sml hok).len
 rw [show stv b.state = .agg #[.int .i64 s0, .int .i64 s1, .int .i64 s2, .int .i64 s3] by rw [hs4]; rfl]
 refine tk rfl (PE.build (out := dcs b (b.sl ab cb) [0, 0, 0, 0] [s0, s1, s2, s3] m) ZfF ZfP rfl rfl) rfl (bx rfl rfl rfl (fun b10 => bgT ?_))
 rw [← hs4]
 refine Zg 1 rfl ?_
 exact Zk (b10, m) idH
 exact ZP
 rintro ⟨b10, m⟩
 dsimp only
 refine Z0 (sqt 4 rfl (sp rfl (PE.fA Zj rfl) rfl (spL rfl rfl (lh Z0b rfl rfl) rfl (sp rfl (PE.lenSl Z0G rfl) rfl (pur 1 rfl (Z3 ?_))))))
 have hmn := hok.many
 have hl4 := (b.lasts_sml hok).len
 have hm4 := (b.most_sml hok).len
 have hs4 := (b.state_sml hok).len
 refine Ze (ι := {k : Nat // k ≤ b.bins.length}) (fun k => ⟨[(1, .pointer (some ⟨b1, 0, none⟩)), (3, .pointer (some ⟨b10, 0, none⟩)), (13, .int .i64 b.bins.length), (14, .int .i64 k.1)], (b10, cel 86 (dcs b (b.sl ab cb) (b.lasts.take k.1 ++ ([0, 0, 0, 0] : List Int).drop k.1) (b.most.take k.1 ++ b.state.drop k.1) m)) :: (m, Z0h true []) :: (b1, cel 37 (btl b (b.sl ab cb))) :: H, R⟩) (fun k => b.bins.length - k.1) ⟨0, by omega⟩ ?_ (fun k => ?_)
 exact Zl idH
 obtain ⟨k, hk⟩ := k
 dsimp only at hk ⊢
 refine sqt 1 rfl (pur 1 rfl (Z0 ?_))
 refine Z2 rfl ?_ ?_ <;> intro hc0 <;> try simp only [cS] at hc0
 obtain ⟨x, hx⟩ : ∃ x, b.bins[k]? = some x := ⟨_, List.getElem?_eq_getElem (by omega)⟩
 have hv1 : b.lasts[k]? = some (b.days x b.cool) := b.map_get hok _ hx
 have hv2 : b.most[k]? = some (max (b.days x x.warm) (b.days x b.cool)) := b.map_get hok _ hx
 have hv0 : b.state[k]? = some (b.days x x.warm) := b.map_get hok _ hx
 have hcl := hok.cool
 have y1 : (b.lasts.take k ++ ([0, 0, 0, 0] : List Int).drop k).length = 4 := Z6y (by rw [hl4]; rfl) (by simp; omega)
 have y2 : (b.lasts.take (k + 1) ++ ([0, 0, 0, 0] : List Int).drop (k + 1)).length = 4 := Z6y (by rw [hl4]; rfl) (by simp; omega)
 have z1 : (b.most.take k ++ b.state.drop k).length = 4 := by rw [Z6y (by rw [hm4, hs4]) (by omega)]; exact hs4
 have p1 : ∀ {i : Nat}, i = 9 + k → spl (dcs b (b.sl ab cb) (b.lasts.take k ++ ([0, 0, 0, 0] : List Int).drop k) (b.most.take k ++ b.state.drop k) m) i [.int .i64 (b.days x b.cool)] = dcs b (b.sl ab cb) (b.lasts.take (k + 1) ++ ([0, 0, 0, 0] : List Int).drop (k + 1)) (b.most.take k ++ b.state.drop k) m := fun e => by
   rw [Z9J _ y1 z1 (by omega) e, Z2G (by rw [hl4]; rfl) hv1]
 have p2 : ∀ {i : Nat}, i = 13 + k → spl (dcs b (b.sl ab cb) (b.lasts.take (k + 1) ++ ([0, 0, 0, 0] : List Int).drop (k + 1)) (b.most.take k ++ b.state.drop k) m) i [.int .i64 (max (b.days x x.warm) (b.days x b.cool))] = dcs b (b.sl ab cb) (b.lasts.take (k + 1) ++ ([0, 0, 0, 0] : List Int).drop (k + 1)) (b.most.take (k + 1) ++ b.state.drop (k + 1)) m := fun e => by
   rw [Z9D _ y2 z1 (by omega) e, Z2G (by rw [hm4, hs4]) hv2]
 have q1 : ∀ {i : Nat}, i = 9 + k → (dcs b (b.sl ab cb) (b.lasts.take (k + 1) ++ ([0, 0, 0, 0] : List Int).drop (k + 1)) (b.most.take k ++ b.state.drop k) m)[i]? = some (.int .i64 (b.days x b.cool)) := fun e => by
   rw [Z4T y2 (by omega) e, Z13 (ZdN (by rw [hl4]; rfl) hv1)]
 have q2 : ∀ {i : Nat}, i = 13 + k → (dcs b (b.sl ab cb) (b.lasts.take (k + 1) ++ ([0, 0, 0, 0] : List Int).drop (k + 1)) (b.most.take k ++ b.state.drop k) m)[i]? = some (.int .i64 (b.days x x.warm)) := fun e => by
   rw [Z4r y2 z1 (by omega) e, Z13 (ZcN (by rw [hm4, hs4]) hv0)]
 refine Z4 (Z0 (Z3 (sqt 2 rfl (pur 2 rfl (Z0 ?_)))))
 refine Z8 [0, 0, 0, 0, 0, 16, 60, 1, 129, 511, 1023] (.tk 0 (.tk 1 (.ld 2 (.tk 3 (.tk 4 (.ld 5 (.tk 7 (.tk 8 (.big 6 (.tk 9 (.big 10 .done))))))))))) Zr (by kernel_rfl) ?_
 refine Zg 2 rfl (ld rfl rfl (lhA (btl b (b.sl ab cb)) Zt rfl rfl rfl) rfl (Zg 1 rfl (tk rfl (PE.fA Z5x rfl) rfl (ld rfl rfl (lh sc3 rfl rfl) rfl (tk rfl (PE.nilCheck rfl) rfl (tk rfl (PE.fA Z8A rfl) rfl ?_))))))
 refine clV rfl Zck rfl rfl (Zaz b ab cb hok k x hx b.cool (by omega) _ _) ?_
 refine bgT (tk rfl (PE.indexArr Z2B rfl rfl (by omega) (by omega)) rfl ?_)
 refine ZQ (l' := dcs b (b.sl ab cb) (b.lasts.take (k + 1) ++ ([0, 0, 0, 0] : List Int).drop (k + 1)) (b.most.take k ++ b.state.drop k) m) rfl rfl rfl cn3 rfl rfl rfl (p1 (by show 0 + 9 + ((k : Nat) : Int).toNat * 1 = _; omega)) (by rw [Z3Z y1 z1]; show 0 + 9 + ((k : Nat) : Int).toNat * 1 + 1 ≤ 18; omega) ?_
 refine bgT ?_
 refine Z8 [0, 0, 0, 0, 4, 20, 60, 124, 0, 0, 256, 1280, 3840, 7936, 16128, 32764, 1, 65537, 262143, 524287] (tks 0 7 (.ld 7 (tks 8 5 (.ld 13 (.tk 16 (.tk 17 (.big 14 (.big 15 (.tk 18 (.big 19 .done)))))))))) Zr (by kernel_rfl) ?_
 refine Zg 4 rfl (tk rfl (PE.nilCheck rfl) rfl (tk rfl (PE.fA Z6R rfl) rfl (tk rfl (PE.indexArr Z2B rfl rfl (by omega) (by omega)) rfl (ld rfl rfl (lh sc3 rfl (q2 (by show 0 + 13 + ((k : Nat) : Int).toNat * 1 = _; omega))) rfl (Zg 2 rfl (tk rfl (PE.nilCheck rfl) rfl (tk rfl (PE.fA Z8A rfl) rfl (tk rfl (PE.indexArr Z2B rfl rfl (by omega) (by omega)) rfl (ld rfl rfl (lh sc3 rfl (q1 (by show 0 + 9 + ((k : Nat) : Int).toNat * 1 = _; omega))) rfl (tk rfl (PE.nilCheck rfl) rfl (tk rfl (PE.fA Z6R rfl) rfl ?_)))))))))))
 refine bsl (out := [_]) rfl Z5A zl3 rfl rfl rfl rfl rfl rfl (fun b41 => ?_)
 refine bg (fun w hs => ⟨trivial, (lh sc3 rfl (q2 (by show 0 + 13 + ((k : Nat) : Int).toNat * 1 = _; omega))) w hs, trivial⟩) ?_
 refine Sy.heap (fun w h => St.intRows (l := [b.days x b.cool]) (h.pull b41)) ?_
 refine clV rfl Z7D rfl rfl (Z0A (b.days x x.warm) (b.days x b.cool) (some ⟨b41, 0, none⟩) 1 _ _) ?_
 refine bgT (tk rfl (PE.indexArr Z2B rfl rfl (by omega) (by omega)) rfl ?_)
 refine ZQ (l' := dcs b (b.sl ab cb) (b.lasts.take (k + 1) ++ ([0, 0, 0, 0] : List Int).drop (k + 1)) (b.most.take (k + 1) ++ b.state.drop (k + 1)) m) rfl rfl rfl cn3 rfl rfl rfl (p2 (by show 0 + 13 + ((k : Nat) : Int).toNat * 1 = _; omega)) (by rw [Z3Z y2 z1]; show 0 + 13 + ((k : Nat) : Int).toNat * 1 + 1 ≤ 18; omega) ?_
 refine bgT (sqr 2 rfl (sp rfl (PE.add rfl rfl (by omega)) rfl (pur 1 rfl ?_)))
 exact Zm ⟨k + 1, by omega⟩ (fun w h => h.ftail)
 obtain rfl : k = b.bins.length := by omega
 have e1 : (b.lasts.take b.bins.length ++ ([0, 0, 0, 0] : List Int).drop b.bins.length) = b.lasts := by
   have := Z8Y (l := []) (l' := []) (n := 0) rfl rfl
   have h1 : (pad (b.bins.map fun x => b.days x b.cool)).take b.bins.length ++ (pad (b.bins.map fun _ => (0 : Int))).drop b.bins.length = pad (b.bins.map fun x => b.days x b.cool) := Z8Y (List.length_map _) (List.length_map _)
   have h2 : pad (b.bins.map fun _ => (0 : Int)) = [0, 0, 0, 0] := by
     have : ∀ n, n ≤ 4 → pad (List.replicate n (0 : Int)) = [0, 0, 0, 0] := by decide
     rw [List.map_const']
     exact this _ (by omega)
   rw [h2] at h1
   exact h1
 have e2 : (b.most.take b.bins.length ++ b.state.drop b.bins.length) = b.most := Z8Y (List.length_map _) (List.length_map _)
 rw [e1, e2]
 refine Zb (Zc (Zc (ZA (sqt 2 rfl (pur 2 rfl (Z1 ?_))))))
 refine Sy.heap (fun w h => St.rows (sz := 18) (rows := [dcs b (b.sl ab cb) b.lasts b.most m]) (rest := []) (by simpa using h.pull b10) (by simp [dcs, btl, hl4, hm4])) ?_
 exact rtA rfl rfl rfl ⟨b10, m, rfl, rfl, rfl⟩ (fun w h => h.del b1)
theorem Z2J (b : Barn) (ab : Option Addr) (cb : Nat) (hl : b.bins.length ≤ 9223372036854775807) (hr : b.rise.length = 6) (H : Z7) (R : Z5) [hB : MemRows ab 4 (brows b.bins) R] :
    Fn Tryz.prog 23 [b.v (b.sl ab cb)] H R (fun v H' R' => (b.check ≠ 0 ∧ v = .tuple #[.pointer none, .int .i64 b.check] ∧ H' = H ∧ R' = R) ∨ (b.check = 0 ∧ ∃ bd m, v = .tuple #[.pointer (some ⟨bd, 0, none⟩), .int .i64 0] ∧ H' = (m, Z0h true []) :: H ∧ R' = RowsA (some ⟨bd, 0, none⟩) 18 [dcs b (b.sl ab cb) b.lasts b.most m] :: R)) := by
 refine Z9 Tryz.func23 rfl Tryz.ntmps23 rfl ?_
 refine sqt 3 rfl (bx rfl rfl rfl (fun b1 => pur 2 rfl (Z0 (sqt 3 rfl (spL rfl rfl (lhA (btl b (b.sl ab cb)) Zt rfl rfl rfl) rfl ?_)))))
 refine clV rfl Zag rfl rfl (Z27 b ab cb hl hr _ _) ?_
 refine pur 1 rfl (sqt 2 rfl (pur 2 rfl ?_))
 refine Z2 rfl ?_ ?_ <;> intro hc0 <;> try simp only [cS] at hc0
 refine sqt 3 rfl (pur 3 rfl (Z1 ?_))
 exact rtB rfl rfl rfl rfl (.inl ⟨hc0, rfl, rfl, rfl⟩) drp
 have hck : b.check = 0 := by omega
 have hok := Barn.ok_of hr hck
 refine Z4 (sqt 4 rfl (spL rfl rfl (lhA (btl b (b.sl ab cb)) Zt rfl rfl rfl) rfl ?_))
 refine cl rfl Zdj rfl rfl (Z6w b ab cb hok _ _) ?_
 rintro _ _ _ ⟨bd, m, rfl, rfl, rfl⟩
 refine pur 2 rfl (Z1 ?_)
 exact rtB rfl rfl rfl rfl (.inr ⟨hck, bd, m, rfl, rfl, rfl⟩) (fun w h => h.del b1)
theorem Zax (b : Barn) (hok : b.ok) (ab : Option Addr) (cb bd m : Nat) (s : HSt) (hs : Sml s) (l : List Nat) (hl : ∀ k ∈ l, k < b.bins.length) (hll : l.length ≤ 1000000) (al : Option Addr) (cl : Nat) (H : Z7) (R : Z5) [hD : MemRows (some ⟨bd, 0, none⟩) 18 [dcs b (b.sl ab cb) b.lasts b.most m] R] [hL : MemRows al 1 (Zn (il l)) R] :
    FnV Tryz.prog 86 [.pointer (some ⟨bd, 0, none⟩), stv s, .slice al l.length cl] H R (nxv (b.dsk.next s l)) := by
 refine Z9 Tryz.func86 rfl Tryz.ntmps86 rfl ?_
 refine sqt 3 rfl (bx rfl rfl rfl (fun b4 => alc rfl Z4u rfl (fun b6 => pur 1 rfl (Z0 (sqt 3 rfl (pur 1 rfl (sp rfl (PE.lenSl Z1u rfl) rfl (pur 1 rfl (Z3 ?_)))))))))
 have hmn := hok.many
 have hls := b.lasts_sml hok
 have hl4 := hls.len
 have hm4 := (b.most_sml hok).len
 refine Ze (ι := {k : Nat // k ≤ l.length}) (fun k => ⟨[(0, .pointer (some ⟨bd, 0, none⟩)), (2, .slice al l.length cl), (4, .pointer (some ⟨b4, 0, none⟩)), (6, .pointer (some ⟨b6, 0, none⟩)), (11, .slice al l.length cl), (12, .int .i64 l.length), (13, .int .i64 k.1)], (b4, cel 83 (Za ((l.take k.1).foldl b.dsk.up s))) :: (b6, cel 83 [.int .i64 0, .int .i64 0, .int .i64 0, .int .i64 0]) :: H, R⟩) (fun k => l.length - k.1) ⟨0, by omega⟩ ?_ (fun k => ?_)
 ·
  exact Zl (fun w h => h.perm (.swap _ _ _))
 obtain ⟨k, hk⟩ := k
 dsimp only at hk ⊢
 have hu : Sml ((l.take k).foldl b.dsk.up s) := b.dsk.ups_sml hls hs (fun j hj => by have := hl j (List.mem_of_mem_take hj); omega)
 refine sqt 1 rfl (pur 1 rfl (Z0 ?_))
 refine Z2 rfl ?_ ?_ <;> intro hc0 <;> try simp only [cS] at hc0
 obtain ⟨j, hj⟩ : ∃ j, l[k]? = some j := ⟨_, List.getElem?_eq_getElem (by omega)⟩
 have hjn := hl j (List.mem_of_getElem? hj)
 have hj4 : j < 4 := by omega
 have eu : ((l.take (k + 1)).foldl b.dsk.up s) = b.dsk.up ((l.take k).foldl b.dsk.up s) j := by rw [List.take_add_one, hj, Option.toList_some, List.foldl_append]; rfl
 have hu' := b.dsk.up_sml hls hu hj4
 generalize ((l.take k).foldl b.dsk.up s) = u at hu hu' eu ⊢
 have hju := hu.at_ j hj4
 have hjl := hls.at_ j hj4
 refine Zp (a := al) (sz := 1) (rows := Zn (il l)) (by intro h0; simp [il] at h0; simp [h0] at hj) (fun bl' ol' he => ?_)
 subst he
 refine Z4 (Z0 (Z3 (sqt 3 rfl (sp rfl (PE.indexAddr Z5z rfl rfl (by omega) (by omega)) rfl (spL rfl rfl (lf0 (x := .int .i64 j) sc3 (by simp [Zn, il, hj]; rfl) rfl) rfl (pur 1 rfl ?_))))))
 refine Z8 [0, 0, 2, 6, 0, 0, 16, 80, 240, 496, 1008, 2046, 4095, 8191] (tks 0 3 (.ld 3 (tks 4 5 (.ld 9 (.big 10 (.big 11 (.tk 12 (.big 13 .done)))))))) Zr (by kernel_rfl) ?_
 refine Zg 2 rfl (tk rfl (PE.indexArr Z2B rfl rfl (by omega) (by omega)) rfl (ld rfl rfl (lh sc3 rfl (Z4m hu.len hj4 (by show 0 + ((j : Nat) : Int).toNat * 1 = _; omega))) rfl (Zg 2 rfl (tk rfl (PE.nilCheck rfl) rfl (tk rfl (PE.fA Z8A rfl) rfl (tk rfl (PE.indexArr Z2B rfl rfl (by omega) (by omega)) rfl (ld rfl rfl (lfB (sz := 18) (x := .int .i64 (na b.lasts j)) sc3 (Z4T hl4 hj4 (by show 0 + 9 + ((j : Nat) : Int).toNat * 1 = _; omega))) rfl ?_)))))))
 refine bsl (out := [_]) rfl Z5A zl3 rfl rfl rfl rfl rfl rfl (fun b27 => ?_)
 refine bg (fun w hs => ⟨trivial, (lh sc3 rfl (Z4m hu.len hj4 (by show 0 + ((j : Nat) : Int).toNat * 1 = _; omega))) w hs, trivial⟩) ?_
 refine Sy.heap (fun w h => St.intRows (l := [na b.lasts j]) (h.pull b27)) ?_
 refine clV rfl Z7D rfl rfl (Z0A (na u j) (na b.lasts j) (some ⟨b27, 0, none⟩) 1 _ _) ?_
 refine bgT (tk rfl (PE.indexArr Z2B rfl rfl (by omega) (by omega)) rfl ?_)
 refine ZQ (l' := Za (b.dsk.up u j)) rfl rfl rfl cn3 rfl rfl rfl (Z3H hu.len hj4 (by show 0 + ((j : Nat) : Int).toNat * 1 = _; omega)) (by rw [ints_length, hu.len]; show 0 + ((j : Nat) : Int).toNat * 1 + 1 ≤ 4; omega) ?_
 refine bgT (sqr 2 rfl (sp rfl (PE.add rfl rfl (by omega)) rfl (pur 1 rfl ?_)))
 exact Zm ⟨k + 1, by omega⟩ (fun w h => by dsimp only; rw [eu]; exact h.ftail)
 obtain rfl : k = l.length := by omega
 rw [List.take_length] at hu ⊢
 refine Zb (Zc (Zc (ZA (Z0 (sqt 7 rfl (pur 1 rfl (sp rfl (PE.nilCheck rfl) rfl (sp rfl (PE.fA Z1y rfl) rfl (sp rfl (PE.fA Zj rfl) rfl (spL rfl rfl (lfB (sz := 18) Z0b rfl) rfl (sp rfl (PE.lenSl Z0G rfl) rfl (pur 1 rfl (Z3 ?_)))))))))))))
 obtain ⟨u, hu0⟩ : ∃ u, l.foldl b.dsk.up s = u := ⟨_, rfl⟩
 rw [hu0] at hu ⊢
 refine Ze (ι := {x : Nat × HSt // x.1 ≤ b.bins.length ∧ dn u x.1 = some x.2}) (fun x => ⟨[(0, .pointer (some ⟨bd, 0, none⟩)), (2, .slice al l.length cl), (4, .pointer (some ⟨b4, 0, none⟩)), (6, .pointer (some ⟨b6, 0, none⟩)), (36, .int .i64 b.bins.length), (37, .int .i64 x.1.1)], (b4, cel 83 (Za x.1.2)) :: (b6, cel 83 [.int .i64 0, .int .i64 0, .int .i64 0, .int .i64 0]) :: H, R⟩) (fun x => b.bins.length - x.1.1) ⟨(0, u), by omega, rfl⟩ ?_ (fun x => ?_)
 exact Zl idH
 obtain ⟨⟨k, t⟩, hk, ht⟩ := x
 dsimp only at hk ht ⊢
 have htm := Zap hu (by omega) ht
 refine sqt 1 rfl (pur 1 rfl (Z0 ?_))
 refine Z2 rfl ?_ ?_ <;> intro hc1 <;> try simp only [cS] at hc1
 have hk4 : k < 4 := by omega
 have hkt := htm.at_ k hk4
 refine Z4 (Z0 (Z3 (sqt 2 rfl (pur 2 rfl (Z0 (sqt 4 rfl (pur 1 rfl (sp rfl (PE.indexArr Z2B rfl rfl (by omega) (by omega)) rfl (spL rfl rfl (lh sc3 rfl (Z4m htm.len hk4 (by show 0 + ((k : Nat) : Int).toNat * 1 = _; omega))) rfl (pur 1 rfl ?_))))))))))
 refine Z2 rfl ?_ ?_ <;> intro hc2 <;> try simp only [cS] at hc2
 have hd1 : dn u (k + 1) = some t := by unfold dn; rw [ht]; dsimp only; rw [dT hc2]; rfl
 refine Zb (Zc (ZA (sqr 2 rfl (sp rfl (PE.add rfl rfl (by omega)) rfl (pur 1 rfl ?_)))))
 first | exact Zd ⟨(k + 1, t), by dsimp only; omega, hd1⟩ (by dsimp only; omega) idH | exact Zd ⟨(k + 1, t.set k (na t k - 1)), by dsimp only; omega, hd1⟩ (by dsimp only; omega) idH
 refine Z4 (sqt 6 rfl (pur 1 rfl (sp rfl (PE.indexArr Z2B rfl rfl (by omega) (by omega)) rfl (spL rfl rfl (lh sc3 rfl (Z4m htm.len hk4 (by show 0 + ((k : Nat) : Int).toNat * 1 = _; omega))) rfl (sp rfl (PE.sub rfl rfl (by omega)) rfl (sp rfl (PE.indexArr Z2B rfl rfl (by omega) (by omega)) rfl ?_))))))
 refine ZQ (l' := Za (t.set k (na t k - 1))) rfl rfl rfl cn3 rfl rfl rfl (Z3H htm.len hk4 (by show 0 + ((k : Nat) : Int).toNat * 1 = _; omega)) (by rw [ints_length, htm.len]; show 0 + ((k : Nat) : Int).toNat * 1 + 1 ≤ 4; omega) ?_
 refine sqt 4 rfl (pur 1 rfl (sp rfl (PE.indexArr Z2B rfl rfl (by omega) (by omega)) rfl (spL rfl rfl (lh (v := .int .i64 (na t k - 1)) sc3 rfl (by rw [Z4m (k := k) (by rw [List.length_set]; exact htm.len) hk4 (by show 0 + ((k : Nat) : Int).toNat * 1 = _; omega), Z2j (by rw [htm.len]; exact hk4), if_pos rfl])) rfl (pur 1 rfl ?_))))
 refine Z2 rfl ?_ ?_ <;> intro hc3 <;> try simp only [cS] at hc3
 have hd0 : dn u (k + 1) = none := by unfold dn; rw [ht]; dsimp only; rw [dF hc2, cond_false, dT hc3]; rfl
 have hdn : b.dsk.next s l = none := by unfold Dsk.next; rw [hu0]; exact ZbU (show k + 1 ≤ b.bins.length by omega) hd0
 refine sqt 3 rfl (sp rfl (PE.zero (.inr (by rw [Z2B]; rfl)) Z4u) rfl ?_)
 refine sto rfl rfl rfl Z4I rfl rfl rfl rfl ?_
 refine pur 1 rfl (Z1 ?_)
 first
   | exact Z6 (vs := [_, _]) rfl (.cons (RV.cell rfl (lhA [_, _, _, _] Z0J rfl rfl rfl)) (.cons (RV.tmp rfl) .nil)) rfl ⟨by rw [hdn]; rfl, rfl, rfl⟩ drp
   | exact Z6 (vs := [_, _]) rfl (.cons (RV.cell rfl (lhI t Z0J rfl rfl (htm.len))) (.cons (RV.tmp rfl) .nil)) rfl ⟨by rw [show b.dsk.next s l = some t by unfold Dsk.next; rw [hu0]; exact ht]; rfl, rfl, rfl⟩ drp
 have hd1 : dn u (k + 1) = some (t.set k (na t k - 1)) := by unfold dn; rw [ht]; dsimp only; rw [dF hc2, cond_false, dF (by omega)]; rfl
 refine Z4 (sqr 2 rfl (sp rfl (PE.add rfl rfl (by omega)) rfl (pur 1 rfl ?_)))
 first | exact Zd ⟨(k + 1, t), by dsimp only; omega, hd1⟩ (by dsimp only; omega) idH | exact Zd ⟨(k + 1, t.set k (na t k - 1)), by dsimp only; omega, hd1⟩ (by dsimp only; omega) idH
 obtain rfl : k = b.bins.length := by omega
 refine Zb (Zc (Zc (ZA (sqt 3 rfl (spL rfl rfl (lhI t Z0J rfl rfl (htm.len)) rfl ?_)))))
 refine Z2l rfl rfl rfl Z4I rfl (by rw [ints_length]; exact htm.len) rfl (Zs _) ?_
 refine pur 1 rfl (Z1 ?_)
 first
   | exact Z6 (vs := [_, _]) rfl (.cons (RV.cell rfl (lhA [_, _, _, _] Z0J rfl rfl rfl)) (.cons (RV.tmp rfl) .nil)) rfl ⟨by rw [hdn]; rfl, rfl, rfl⟩ drp
   | exact Z6 (vs := [_, _]) rfl (.cons (RV.cell rfl (lhI t Z0J rfl rfl (htm.len))) (.cons (RV.tmp rfl) .nil)) rfl ⟨by rw [show b.dsk.next s l = some t by unfold Dsk.next; rw [hu0]; exact ht]; rfl, rfl, rfl⟩ drp
end Go.Proofs.YtelnhmimhfjacaaGreat.Ht
