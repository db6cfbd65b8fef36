/- Walks of the functions of the program, and the laws that join them: what the last theorem of this claim needs, in order. -/
import Derived.Test.YtjoajfdnlomapaaGreatPa2
namespace Go.Proofs.YtjoajfdnlomapaaGreat.Gt
set_option linter.unusedSimpArgs false
set_option linter.unusedVariables false
open Go
theorem Zdb : arE Tryz.prog 31 = some (4, 3) := by kernel_rfl
theorem Z0f : cal Tryz.prog 11 = true := by kernel_rfl
theorem Z1L : cal Tryz.prog 29 = true := by kernel_rfl
theorem ZfF : cal Tryz.prog 36 = true := by kernel_rfl
theorem Z9x : cal Tryz.prog 37 = true := by kernel_rfl
theorem cn3 : Zx Tryz.prog 3 = some 1 := by kernel_rfl
theorem ZbJ : Zx Tryz.prog 31 = some 4 := by kernel_rfl
theorem ZfM : Zx Tryz.prog 94 = some 1 := by kernel_rfl
theorem ZgE : elN Tryz.prog 22 = some 1 := by kernel_rfl
theorem Zgi : eqB Tryz.prog 10000 3 = some (false, 1) := by kernel_rfl
theorem Z5t : ZJ Tryz.prog 96 0 = some 0 := by kernel_rfl
theorem Z2F : ZJ Tryz.prog 96 1 = some 1 := by kernel_rfl
theorem Z0h : ZJ Tryz.prog 96 2 = some 2 := by kernel_rfl
theorem ik3 : Z8i Tryz.prog 3 = some .i64 := by kernel_rfl
theorem Zgf : Z8i Tryz.prog 94 = some .u32 := by kernel_rfl
theorem Z9e : Z2X Tryz.prog 22 = true := by kernel_rfl
theorem Zgw : ZB Tryz.prog 38 = some [(0, 1), (1, 4)] := by kernel_rfl
theorem ZgM : ZB Tryz.prog 96 = some [(0, 1), (1, 1), (2, 1)] := by kernel_rfl
theorem Zew : Z0b Tryz.prog 22 = true := by kernel_rfl
theorem sc5 : Z0b Tryz.prog 5 = true := by kernel_rfl
theorem Z81 : Z0b Tryz.prog 94 = true := by kernel_rfl
theorem us3 : (Tryz.prog.underlying 3).isSome = true := by kernel_rfl
theorem us5 : (Tryz.prog.underlying 5).isSome = true := by kernel_rfl
theorem Zet : (Tryz.prog.underlying 94).isSome = true := by kernel_rfl
theorem ZbP : Zs Tryz.prog 31 = some ([.int .i64 0, .int .i64 0, .int .i64 0, .int .i64 0]) := by kernel_rfl
theorem Zgs : Zs Tryz.prog 96 = some ([.slice none 0 0, .int .i64 0, .int .u32 0]) := by kernel_rfl
def urow (x : Int) : List Value := [.int .u8 x]
def urows (l : List Int) : List (List Value) := l.map urow
theorem c_Fill (g : List Int) (ag : Option Addr) (cg : Nat) (hgl : g.length ≤ 9223372036854775807) (H : Z6) (R : Z3) :
    Fn Tryz.prog 5 [.slice ag g.length cg] H R (fun v H' R' => ∃ bk, ∃ mx : Int, (0 ≤ mx ∧ mx ≤ 4294967295) ∧ v = .pointer (some ⟨bk, 0, none⟩) ∧ H' = (bk, cel 96 [.slice ag g.length cg, .int .i64 (0), .int .u32 (mx)]) :: H ∧ R' = R) := by
 refine Z8 Tryz.func5 rfl Tryz.ntmps5 rfl ?_
 refine sqt 1 rfl (pur 1 rfl (sqt 8 rfl (pur 2 rfl (sp rfl (PE.lenSl Z9e rfl) rfl ?_))))
 refine spE rfl (PE.convU us3 Zgf rfl) rfl ?_
 rintro _ ⟨u6, rfl, hu6⟩
 refine spE rfl (PE.xorU rfl rfl) rfl ?_
 rintro _ ⟨u7, rfl, hu7⟩
 refine sp rfl (PE.build (out := [_, _, _]) ZgM Zgs rfl rfl) rfl (bx rfl rfl rfl (fun b9 => pur 1 rfl (Z1 ?_)))
 exact rtA rfl rfl rfl ⟨b9, u7, hu7, rfl, rfl, rfl⟩ idH
theorem Z76 (g : List Int) (ag : Option Addr) (cg bk : Nat) (hgl : g.length ≤ 9223372036854775807) (tq mx : Int) (htq : 0 ≤ tq ∧ tq ≤ 1000000000) (hmx : 0 ≤ mx ∧ mx ≤ 4294967295) (H : Z6) (R : Z3) [hG : MemRows ag 1 (urows g) R] :
    Fn Tryz.prog 36 [.pointer (some ⟨bk, 0, none⟩)] ((bk, cel 96 [.slice ag g.length cg, .int .i64 (tq), .int .u32 (mx)]) :: H) R (fun v H' R' => ∃ x m' : Int, (0 ≤ x ∧ x ≤ 65535) ∧ v = .int .i64 x ∧ (0 ≤ m' ∧ m' ≤ 4294967295) ∧ H' = (bk, cel 96 [.slice ag g.length cg, .int .i64 (tq + 1), .int .u32 (m')]) :: H ∧ R' = R) := by
 refine Z8 Tryz.func36 rfl Tryz.ntmps36 rfl ?_
 refine sqt 1 rfl (pur 1 rfl (Z0 (sqt 6 rfl (pur 1 rfl (sp rfl (PE.nilCheck rfl) rfl (sp rfl (PE.fA Z5t rfl) rfl (spL rfl rfl (lh Zew rfl rfl) rfl (sp rfl (PE.lenSl Z9e rfl) rfl (pur 1 rfl (sqt 2 rfl (pur 2 rfl ?_)))))))))))
 refine Z2 rfl ?_ ?_ <;> intro hc0 <;> try simp only [cS] at hc0
 obtain ⟨y, hy⟩ : ∃ y, g[(tq % g.length).toNat]? = some y := ⟨_, List.getElem?_eq_getElem (by have := Int.emod_lt_of_pos tq hc0; have := Int.emod_nonneg tq (show (g.length : Int) ≠ 0 by omega); omega)⟩
 refine Zl (a := ag) (sz := 1) (rows := urows g) (by intro h0; simp [urows] at h0; simp [h0] at hy) (fun bgr ogr he => ?_)
 subst he
 refine Z9 [0, 0, 2, 6, 14, 0, 32, 96, 224, 0, 512, 1536, 3584, 0, 15872, 32736, 65504, 131040, 262142, 524286, 1048575, 2097151, 4194303] (tks 0 4 (.ld 4 (tks 5 3 (.ld 8 (tks 9 3 (.ld 12 (tks 13 3 (.ld 16 (tks 17 5 (.big 22 .done)))))))))) Zo (by kernel_rfl) ?_
 refine Zf 2 rfl (tk rfl (PE.nilCheck rfl) rfl (tk rfl (PE.fA Z0h rfl) rfl (ld rfl rfl (lh Z81 rfl rfl) rfl (Zf 1 rfl (tk rfl (PE.nilCheck rfl) rfl (tk rfl (PE.fA Z5t rfl) rfl (ld rfl rfl (lh Zew rfl rfl) rfl (Zf 1 rfl (tk rfl (PE.nilCheck rfl) rfl (tk rfl (PE.fA Z2F rfl) rfl (ld rfl rfl (lh sc3 rfl rfl) rfl (Zf 1 rfl (tk rfl (PE.rem rfl rfl (by omega)) rfl (tk rfl (PE.indexAddr ZgE rfl rfl (by exact Int.emod_nonneg tq (by omega)) (by exact Int.emod_lt_of_pos tq hc0)) rfl (ld rfl rfl (lf0 (x := .int .u8 y) sc5 (by simp [urows, urow, hy]; rfl) rfl) rfl ?_)))))))))))))))
 refine tkE rfl (PE.convU us5 Zgf rfl) rfl ?_
 rintro _ ⟨u28, rfl, hu28⟩
 refine tkE rfl (PE.xorU rfl rfl) rfl ?_
 rintro _ ⟨u29, rfl, hu29⟩
 refine tkE rfl (PE.mulU rfl rfl) rfl ?_
 rintro _ ⟨u30, rfl, hu30⟩
 refine tk rfl (PE.nilCheck rfl) rfl (tk rfl (PE.fA Z0h rfl) rfl ?_)
 refine sto rfl rfl rfl ZfM rfl rfl rfl rfl ?_
 refine bgT (sqt 8 rfl (pur 1 rfl (sp rfl (PE.nilCheck rfl) rfl (sp rfl (PE.fA Z2F rfl) rfl (spL rfl rfl (lh sc3 rfl rfl) rfl (sp rfl (PE.add rfl rfl (by omega)) rfl (sp rfl (PE.nilCheck rfl) rfl (sp rfl (PE.fA Z2F rfl) rfl ?_))))))))
 refine sto rfl rfl rfl cn3 rfl rfl rfl rfl ?_
 refine Z0 (Z0 ?_)
 refine Z9 [0, 1, 3, 7, 0, 16, 48, 112, 240, 511] (tks 0 3 (.ld 3 (tks 4 3 (.ld 7 (.tk 8 (.tk 9 .done)))))) Zo (by kernel_rfl) ?_
 refine Zf 1 rfl (tk rfl (PE.nilCheck rfl) rfl (tk rfl (PE.fA Z2F rfl) rfl (ld rfl rfl (lh sc3 rfl rfl) rfl (Zf 1 rfl (tk rfl (PE.nilCheck rfl) rfl (tk rfl (PE.fA Z5t rfl) rfl (ld rfl rfl (lh Zew rfl rfl) rfl (tk rfl (PE.lenSl Z9e rfl) rfl (Zf 1 rfl ?_)))))))))
 refine Z2 rfl ?_ ?_ <;> intro hc1 <;> try simp only [cS] at hc1
 refine sqr 10 rfl (pur 2 rfl (sp rfl (PE.nilCheck rfl) rfl (sp rfl (PE.fA Z0h rfl) rfl (spL rfl rfl (lh Z81 rfl rfl) rfl ?_))))
 refine spE rfl (PE.mulU rfl rfl) rfl ?_
 rintro _ ⟨u55, rfl, hu55⟩
 refine spE rfl (PE.addU rfl rfl) rfl ?_
 rintro _ ⟨u56, rfl, hu56⟩
 refine sp rfl (PE.nilCheck rfl) rfl (sp rfl (PE.fA Z0h rfl) rfl ?_)
 refine sto rfl rfl rfl ZfM rfl rfl rfl rfl ?_
 refine Z0 ?_
 refine Z9 [0, 1, 3, 7, 0, 16, 48, 112, 240, 511, 1023, 2047, 4095, 8191] (tks 0 3 (.ld 3 (tks 4 3 (.ld 7 (tks 8 6 .done))))) Zo (by kernel_rfl) ?_
 refine Zf 1 rfl (tk rfl (PE.nilCheck rfl) rfl (tk rfl (PE.fA Z0h rfl) rfl (ld rfl rfl (lh Z81 rfl rfl) rfl (Zf 1 rfl (tk rfl (PE.nilCheck rfl) rfl (tk rfl (PE.fA Z0h rfl) rfl (ld rfl rfl (lh Z81 rfl rfl) rfl ?_)))))))
 refine tkE rfl (PE.shrU rfl rfl (by decide) (by omega) (by omega)) rfl ?_
 rintro _ ⟨u67, rfl, hu67⟩
 refine tkE rfl (PE.xorU rfl rfl) rfl ?_
 rintro _ ⟨u68, rfl, hu68⟩
 refine tkE rfl (PE.shrU rfl rfl (by decide) (by omega) (by omega)) rfl ?_
 rintro _ ⟨u69, rfl, hu69⟩
 refine tkE rfl (PE.andU rfl rfl (by decide) (by decide)) rfl ?_
 rintro _ ⟨u70, rfl, hu70⟩
 refine tk rfl (PE.conv64 Zet ik3 rfl (by omega)) rfl (Zf 1 rfl (Z1 ?_))
 first
   | exact rtA rfl rfl rfl ⟨u70, _, hu70, rfl, hu56, rfl, rfl⟩ idH
   | exact rtA rfl rfl rfl ⟨u70, _, hu70, rfl, hu30, rfl, rfl⟩ idH
   | exact rtA rfl rfl rfl ⟨u70, _, hu70, rfl, hmx, rfl, rfl⟩ idH
 refine Z5 (Z0 ?_)
 refine Z9 [0, 1, 3, 7, 0, 16, 48, 112, 240, 511, 1023, 2047, 4095, 8191] (tks 0 3 (.ld 3 (tks 4 3 (.ld 7 (tks 8 6 .done))))) Zo (by kernel_rfl) ?_
 refine Zf 1 rfl (tk rfl (PE.nilCheck rfl) rfl (tk rfl (PE.fA Z0h rfl) rfl (ld rfl rfl (lh Z81 rfl rfl) rfl (Zf 1 rfl (tk rfl (PE.nilCheck rfl) rfl (tk rfl (PE.fA Z0h rfl) rfl (ld rfl rfl (lh Z81 rfl rfl) rfl ?_)))))))
 refine tkE rfl (PE.shrU rfl rfl (by decide) (by omega) (by omega)) rfl ?_
 rintro _ ⟨u67, rfl, hu67⟩
 refine tkE rfl (PE.xorU rfl rfl) rfl ?_
 rintro _ ⟨u68, rfl, hu68⟩
 refine tkE rfl (PE.shrU rfl rfl (by decide) (by omega) (by omega)) rfl ?_
 rintro _ ⟨u69, rfl, hu69⟩
 refine tkE rfl (PE.andU rfl rfl (by decide) (by decide)) rfl ?_
 rintro _ ⟨u70, rfl, hu70⟩
 refine tk rfl (PE.conv64 Zet ik3 rfl (by omega)) rfl (Zf 1 rfl (Z1 ?_))
 first
   | exact rtA rfl rfl rfl ⟨u70, _, hu70, rfl, hu56, rfl, rfl⟩ idH
   | exact rtA rfl rfl rfl ⟨u70, _, hu70, rfl, hu30, rfl, rfl⟩ idH
   | exact rtA rfl rfl rfl ⟨u70, _, hu70, rfl, hmx, rfl, rfl⟩ idH
 refine Z5 (sqt 8 rfl (pur 1 rfl (sp rfl (PE.nilCheck rfl) rfl (sp rfl (PE.fA Z2F rfl) rfl (spL rfl rfl (lh sc3 rfl rfl) rfl (sp rfl (PE.add rfl rfl (by omega)) rfl (sp rfl (PE.nilCheck rfl) rfl (sp rfl (PE.fA Z2F rfl) rfl ?_))))))))
 refine sto rfl rfl rfl cn3 rfl rfl rfl rfl ?_
 refine Z0 (Z0 ?_)
 refine Z9 [0, 1, 3, 7, 0, 16, 48, 112, 240, 511] (tks 0 3 (.ld 3 (tks 4 3 (.ld 7 (.tk 8 (.tk 9 .done)))))) Zo (by kernel_rfl) ?_
 refine Zf 1 rfl (tk rfl (PE.nilCheck rfl) rfl (tk rfl (PE.fA Z2F rfl) rfl (ld rfl rfl (lh sc3 rfl rfl) rfl (Zf 1 rfl (tk rfl (PE.nilCheck rfl) rfl (tk rfl (PE.fA Z5t rfl) rfl (ld rfl rfl (lh Zew rfl rfl) rfl (tk rfl (PE.lenSl Z9e rfl) rfl (Zf 1 rfl ?_)))))))))
 refine Z2 rfl ?_ ?_ <;> intro hc1 <;> try simp only [cS] at hc1
 refine sqr 10 rfl (pur 2 rfl (sp rfl (PE.nilCheck rfl) rfl (sp rfl (PE.fA Z0h rfl) rfl (spL rfl rfl (lh Z81 rfl rfl) rfl ?_))))
 refine spE rfl (PE.mulU rfl rfl) rfl ?_
 rintro _ ⟨u55, rfl, hu55⟩
 refine spE rfl (PE.addU rfl rfl) rfl ?_
 rintro _ ⟨u56, rfl, hu56⟩
 refine sp rfl (PE.nilCheck rfl) rfl (sp rfl (PE.fA Z0h rfl) rfl ?_)
 refine sto rfl rfl rfl ZfM rfl rfl rfl rfl ?_
 refine Z0 ?_
 refine Z9 [0, 1, 3, 7, 0, 16, 48, 112, 240, 511, 1023, 2047, 4095, 8191] (tks 0 3 (.ld 3 (tks 4 3 (.ld 7 (tks 8 6 .done))))) Zo (by kernel_rfl) ?_
 refine Zf 1 rfl (tk rfl (PE.nilCheck rfl) rfl (tk rfl (PE.fA Z0h rfl) rfl (ld rfl rfl (lh Z81 rfl rfl) rfl (Zf 1 rfl (tk rfl (PE.nilCheck rfl) rfl (tk rfl (PE.fA Z0h rfl) rfl (ld rfl rfl (lh Z81 rfl rfl) rfl ?_)))))))
 refine tkE rfl (PE.shrU rfl rfl (by decide) (by omega) (by omega)) rfl ?_
 rintro _ ⟨u67, rfl, hu67⟩
 refine tkE rfl (PE.xorU rfl rfl) rfl ?_
 rintro _ ⟨u68, rfl, hu68⟩
 refine tkE rfl (PE.shrU rfl rfl (by decide) (by omega) (by omega)) rfl ?_
 rintro _ ⟨u69, rfl, hu69⟩
 refine tkE rfl (PE.andU rfl rfl (by decide) (by decide)) rfl ?_
 rintro _ ⟨u70, rfl, hu70⟩
 refine tk rfl (PE.conv64 Zet ik3 rfl (by omega)) rfl (Zf 1 rfl (Z1 ?_))
 first
   | exact rtA rfl rfl rfl ⟨u70, _, hu70, rfl, hu56, rfl, rfl⟩ idH
   | exact rtA rfl rfl rfl ⟨u70, _, hu70, rfl, hu30, rfl, rfl⟩ idH
   | exact rtA rfl rfl rfl ⟨u70, _, hu70, rfl, hmx, rfl, rfl⟩ idH
 refine Z5 (Z0 ?_)
 refine Z9 [0, 1, 3, 7, 0, 16, 48, 112, 240, 511, 1023, 2047, 4095, 8191] (tks 0 3 (.ld 3 (tks 4 3 (.ld 7 (tks 8 6 .done))))) Zo (by kernel_rfl) ?_
 refine Zf 1 rfl (tk rfl (PE.nilCheck rfl) rfl (tk rfl (PE.fA Z0h rfl) rfl (ld rfl rfl (lh Z81 rfl rfl) rfl (Zf 1 rfl (tk rfl (PE.nilCheck rfl) rfl (tk rfl (PE.fA Z0h rfl) rfl (ld rfl rfl (lh Z81 rfl rfl) rfl ?_)))))))
 refine tkE rfl (PE.shrU rfl rfl (by decide) (by omega) (by omega)) rfl ?_
 rintro _ ⟨u67, rfl, hu67⟩
 refine tkE rfl (PE.xorU rfl rfl) rfl ?_
 rintro _ ⟨u68, rfl, hu68⟩
 refine tkE rfl (PE.shrU rfl rfl (by decide) (by omega) (by omega)) rfl ?_
 rintro _ ⟨u69, rfl, hu69⟩
 refine tkE rfl (PE.andU rfl rfl (by decide) (by decide)) rfl ?_
 rintro _ ⟨u70, rfl, hu70⟩
 refine tk rfl (PE.conv64 Zet ik3 rfl (by omega)) rfl (Zf 1 rfl (Z1 ?_))
 first
   | exact rtA rfl rfl rfl ⟨u70, _, hu70, rfl, hu56, rfl, rfl⟩ idH
   | exact rtA rfl rfl rfl ⟨u70, _, hu70, rfl, hu30, rfl, rfl⟩ idH
   | exact rtA rfl rfl rfl ⟨u70, _, hu70, rfl, hmx, rfl, rfl⟩ idH
theorem c_Below (g : List Int) (ag : Option Addr) (cg bk : Nat) (hgl : g.length ≤ 9223372036854775807) (tq mx : Int) (htq : 0 ≤ tq ∧ tq ≤ 1000000000) (hmx : 0 ≤ mx ∧ mx ≤ 4294967295) (n : Int) (H : Z6) (R : Z3) [hG : MemRows ag 1 (urows g) R] :
    Fn Tryz.prog 11 [.pointer (some ⟨bk, 0, none⟩), .int .i64 n] ((bk, cel 96 [.slice ag g.length cg, .int .i64 (tq), .int .u32 (mx)]) :: H) R (fun v H' R' => ∃ x m' : Int, (0 ≤ x ∧ x < max 1 n) ∧ v = .int .i64 x ∧ (0 ≤ m' ∧ m' ≤ 4294967295) ∧ H' = (bk, cel 96 [.slice ag g.length cg, .int .i64 (tq + 1), .int .u32 (m')]) :: H ∧ R' = R) := by
 refine Z8 Tryz.func11 rfl Tryz.ntmps11 rfl ?_
 refine sqt 1 rfl (pur 1 rfl (sqt 6 rfl (pur 1 rfl ?_)))
 refine cl rfl ZfF rfl rfl (Z76 g ag cg bk hgl tq mx htq hmx _ _) ?_
 rintro _ _ _ ⟨x, m', hx, rfl, hm', rfl, rfl⟩
 refine pur 1 rfl (sp rfl (PE.max rfl rfl) rfl (sp rfl (PE.rem rfl rfl (by omega)) rfl (pur 1 rfl (Z1 ?_))))
 exact rtA rfl rfl rfl ⟨_, m', ⟨Int.emod_nonneg _ (by omega), Int.emod_lt_of_pos _ (by omega)⟩, rfl, hm', rfl, rfl⟩ idH
theorem c_Among (g : List Int) (ag : Option Addr) (cg bk : Nat) (hgl : g.length ≤ 9223372036854775807) (tq mx : Int) (htq : 0 ≤ tq ∧ tq ≤ 1000000000) (hmx : 0 ≤ mx ∧ mx ≤ 4294967295) (lo hi : Int) (hb : -1000000 ≤ lo ∧ lo ≤ 1000000 ∧ -1000000 ≤ hi ∧ hi ≤ 1000000) (H : Z6) (R : Z3) [hG : MemRows ag 1 (urows g) R] :
    Fn Tryz.prog 29 [.pointer (some ⟨bk, 0, none⟩), .int .i64 lo, .int .i64 hi] ((bk, cel 96 [.slice ag g.length cg, .int .i64 (tq), .int .u32 (mx)]) :: H) R (fun v H' R' => ∃ x m' : Int, (lo ≤ x ∧ x < lo + max 1 (hi - lo + 1)) ∧ v = .int .i64 x ∧ (0 ≤ m' ∧ m' ≤ 4294967295) ∧ H' = (bk, cel 96 [.slice ag g.length cg, .int .i64 (tq + 1), .int .u32 (m')]) :: H ∧ R' = R) := by
 refine Z8 Tryz.func29 rfl Tryz.ntmps29 rfl ?_
 refine sqt 1 rfl (pur 1 rfl (sqt 9 rfl (pur 4 rfl (sp rfl (PE.sub rfl rfl (by omega)) rfl (sp rfl (PE.add rfl rfl (by omega)) rfl ?_)))))
 refine cl rfl Z0f rfl rfl (c_Below g ag cg bk hgl tq mx htq hmx (hi - lo + 1) _ _) ?_
 rintro _ _ _ ⟨x, m', hx, rfl, hm', rfl, rfl⟩
 refine sp rfl (PE.add rfl rfl (by omega)) rfl (pur 1 rfl (Z1 ?_))
 exact rtA rfl rfl rfl ⟨lo + x, m', ⟨by omega, by omega⟩, rfl, hm', rfl, rfl⟩ idH
theorem c_Rare (g : List Int) (ag : Option Addr) (cg bk : Nat) (hgl : g.length ≤ 9223372036854775807) (tq mx : Int) (htq : 0 ≤ tq ∧ tq ≤ 1000000000) (hmx : 0 ≤ mx ∧ mx ≤ 4294967295) (n : Int) (H : Z6) (R : Z3) [hG : MemRows ag 1 (urows g) R] :
    Fn Tryz.prog 37 [.pointer (some ⟨bk, 0, none⟩), .int .i64 n] ((bk, cel 96 [.slice ag g.length cg, .int .i64 (tq), .int .u32 (mx)]) :: H) R (fun v H' R' => ∃ (x : Bool) (m' : Int), v = .bool x ∧ (0 ≤ m' ∧ m' ≤ 4294967295) ∧ H' = (bk, cel 96 [.slice ag g.length cg, .int .i64 (tq + 1), .int .u32 (m')]) :: H ∧ R' = R) := by
 refine Z8 Tryz.func37 rfl Tryz.ntmps37 rfl ?_
 refine sqt 1 rfl (pur 1 rfl (sqt 5 rfl (pur 2 rfl ?_)))
 refine cl rfl Z0f rfl rfl (c_Below g ag cg bk hgl tq mx htq hmx n _ _) ?_
 rintro _ _ _ ⟨x, m', hx, rfl, hm', rfl, rfl⟩
 refine pur 2 rfl (Z1 ?_)
 exact rtA rfl rfl rfl ⟨_, m', rfl, hm', rfl, rfl⟩ idH
theorem Z8z {j k : Nat} (hk : k < 3) (e : j = k) : [Value.int .i64 3, .int .i64 2, .int .i64 1][j]? = some (.int .i64 ((3 - k : Nat) : Int)) := by
  subst e
  revert hk
  rcases j with _ | _ | _ | j <;> intro hk
  · rfl
  · rfl
  · rfl
  · omega
structure MxI (k : Nat) (l : List Int) (left : Int) : Prop where
  len : l.length = 4
  sum : Z1w l + left = 40
  at_ : ∀ j < 4, 0 ≤ nn l j ∧ nn l j ≤ 40
  lo : 0 ≤ left ∧ left ≤ 40
  zero : ∀ j < 4, j + k ≤ 3 → nn l j = 0
theorem MxI.start : MxI 0 [0, 0, 0, 0] 40 := ⟨rfl, rfl, of4 ⟨by decide, by decide, by decide, by decide⟩, by omega, of4 ⟨fun _ => rfl, fun _ => rfl, fun _ => rfl, fun _ => rfl⟩⟩
theorem MxI.more {k : Nat} {l : List Int} {left v : Int} (h : MxI k l left) (hk : k < 3) (hv : 0 ≤ v ∧ v ≤ left) : MxI (k + 1) (l.set (3 - k) v) (left - v) := by
  have hlo := h.lo
  have hz := h.zero (3 - k) (by omega) (by omega)
  have hs := h.sum
  have hset : ∀ j, nn (l.set (3 - k) v) j = bif 3 - k == j then v else nn l j := fun j => Z18 (by rw [h.len]; omega)
  refine ⟨by simp [h.len], by rw [Z1R h.len (by omega)]; omega, fun j hj => ?_, by omega, fun j hj hjk => ?_⟩
  · rw [hset]
    cases 3 - k == j
    · exact h.at_ j hj
    · simp only [cond_true]; omega
  · rw [hset, show (3 - k == j) = false from by simp; omega]
    exact h.zero j hj (by omega)
theorem MxI.done {l : List Int} {left : Int} (h : MxI 3 l left) : Mxt (l.set 0 left) := by
  have hlo := h.lo
  have hz := h.zero 0 (by omega) (by omega)
  have hs := h.sum
  refine ⟨by simp [h.len], by rw [Z1R h.len (by omega)]; omega, fun j hj => ?_⟩
  rw [Z18 (by rw [h.len]; omega)]
  cases (0 : Nat) == j
  · exact h.at_ j hj
  · simp only [cond_true]; omega
theorem Zb2 {m : Mix} (hm : Mxt m) {k : Nat} (hk : k < 4) : Mxt ((m.set 0 (nn m k)).set k (nn m 0)) := by
  obtain ⟨a, b, c, d, rfl⟩ := Z3S hm.len
  have hs := hm.sum
  have h4 := Z4B hm.at_
  simp only [Z1w, nn, List.getD_cons_zero, List.getD_cons_succ] at hs h4
  rcases lt4 hk with rfl | rfl | rfl | rfl <;> refine ⟨rfl, ?_, of4 ⟨?_, ?_, ?_, ?_⟩⟩ <;> simp [Z1w, nn] <;> omega
theorem Zbx (g : List Int) (ag : Option Addr) (cg bk : Nat) (hgl : g.length ≤ 9223372036854775807) (tq mx : Int) (htq : 0 ≤ tq ∧ tq ≤ 1000000) (hmx : 0 ≤ mx ∧ mx ≤ 4294967295) (H : Z6) (R : Z3) [hG : MemRows ag 1 (urows g) R] :
    Fn Tryz.prog 30 [.pointer (some ⟨bk, 0, none⟩)] ((bk, cel 96 [.slice ag g.length cg, .int .i64 (tq), .int .u32 (mx)]) :: H) R (fun v H' R' => ∃ (q : Mix) (tq' mx' : Int), Mxt q ∧ v = .agg (Zd q).toArray ∧ (tq ≤ tq' ∧ tq' ≤ tq + 10) ∧ (0 ≤ mx' ∧ mx' ≤ 4294967295) ∧ H' = (bk, cel 96 [.slice ag g.length cg, .int .i64 (tq'), .int .u32 (mx')]) :: H ∧ R' = R) := by
 refine Z8 Tryz.func30 rfl Tryz.ntmps30 rfl ?_
 refine sqt 1 rfl (alc rfl ZbP rfl (fun b2 => sqt 1 rfl (alc rfl ZbP rfl (fun b3 => sqt 1 rfl (pur 1 rfl (Z0 (sqt 3 rfl ?_)))))))
 refine bsl (out := [_, _, _]) rfl Z4a zl3 rfl rfl rfl rfl rfl rfl (fun b8 => ?_)
 refine sp rfl (PE.lenSl Z2x rfl) rfl (pur 1 rfl (Z4 ?_))
 refine Zq bk ?_
 refine Zc (ι := {x : Nat × List Int × Int × Int × Int // x.1 ≤ 3 ∧ MxI x.1 x.2.1 x.2.2.1 ∧ x.2.2.2.1 = tq + 2 * x.1 ∧ (0 ≤ x.2.2.2.2 ∧ x.2.2.2.2 ≤ 4294967295)}) (fun x => ⟨[(0, .pointer (some ⟨bk, 0, none⟩)), (2, .pointer (some ⟨b2, 0, none⟩)), (3, .pointer (some ⟨b3, 0, none⟩)), (4, .int .i64 x.1.2.2.1), (8, .slice (some ⟨b8, 0, none⟩) 3 3), (9, .int .i64 3), (10, .int .i64 x.1.1)], (bk, cel 96 [.slice ag g.length cg, .int .i64 (x.1.2.2.2.1), .int .u32 (x.1.2.2.2.2)]) :: (b8, cel 3 [.int .i64 3, .int .i64 2, .int .i64 1]) :: (b3, cel 31 (Zd x.1.2.1)) :: (b2, cel 31 (Zd [0, 0, 0, 0])) :: H, R⟩) (fun x => 3 - x.1.1) ⟨(0, [0, 0, 0, 0], 40, tq, mx), by omega, MxI.start, by dsimp only; omega, by assumption⟩ ?_ (fun x => ?_)
 exact Zk idH
 obtain ⟨⟨k, l, left, tq2, mx2⟩, hk, hmi, htq2, hmx2⟩ := x
 dsimp only at hk hmi htq2 hmx2 ⊢
 subst htq2
 have hlo := hmi.lo
 have hml := hmi.len
 refine sqt 1 rfl (pur 1 rfl (Z0 ?_))
 refine Z2 rfl ?_ ?_ <;> intro hc0 <;> try simp only [cS] at hc0
 have hk3 : k < 3 := by omega
 have hk4 : 3 - k < 4 := by omega
 refine Z5 (Z0 (Z4 (sqt 3 rfl (sp rfl (PE.indexAddr Z73 rfl rfl (by omega) (by omega)) rfl (spL rfl rfl (lh sc3 rfl (Z8z hk3 (by omega))) rfl (pur 1 rfl (sqt 10 rfl (pur 3 rfl ?_))))))))
 refine cl rfl Z0f rfl rfl (c_Below g ag cg bk hgl _ _ (by omega) (by assumption) (5) _ _) ?_
 rintro _ _ R1 ⟨x17, m17, hx17, rfl, hm17, rfl, hR1⟩
 obtain rfl := hR1.symm
 refine pur 1 rfl ?_
 refine cl rfl Z0f rfl rfl (c_Below g ag cg bk hgl _ _ (by omega) (by assumption) (4) _ _) ?_
 rintro _ _ R1 ⟨x19, m19, hx19, rfl, hm19, rfl, hR1⟩
 obtain rfl := hR1.symm
 have hm20 := mul_b (a := x17) (b := x19) (A := 4) (B := 3) (by omega) (by omega) (by omega) (by omega)
 obtain ⟨v, hv⟩ : ∃ v, v = min left (x17 * x19) := ⟨_, rfl⟩
 refine sp rfl (PE.mul rfl rfl (by omega)) rfl (sp rfl (PE.min rfl rfl) rfl ?_)
 rw [← hv]
 refine sp rfl (PE.indexArr Z2m rfl rfl (by omega) (by omega)) rfl ?_
 refine Zq b3 ?_
 refine Z02 (l' := Zd ((l).set (3 - k) (v))) rfl rfl rfl cn3 rfl rfl rfl (Z3o hml hk4 _) (by rw [ints_length, hml]; show 0 + (((3 - k) : Nat) : Int).toNat * 1 + 1 ≤ 4; omega) ?_
 refine sqr 6 rfl (pur 2 rfl (sp rfl (PE.indexArr Z2m rfl rfl (by omega) (by omega)) rfl (spL rfl rfl (lh sc3 rfl (mix_at (by simp [hml]) hk4)) rfl ?_)))
 rw [show nn (l.set (3 - k) v) (3 - k) = v from by rw [Z18 (by omega)]; simp]
 refine sp rfl (PE.sub rfl rfl (by omega)) rfl (pur 1 rfl (sqr 2 rfl (sp rfl (PE.add rfl rfl (by omega)) rfl (pur 1 rfl ?_))))
 exact Ze ⟨(k + 1, l.set (3 - k) v, left - v, tq + 2 * k + 1 + 1, m19), by omega, hmi.more hk3 (by omega), by dsimp only; omega, by assumption⟩ (fun _ h => St.sub (((h.pull b3).pull b8).pull bk))
 obtain rfl : k = 3 := by omega
 have hq := hmi.done
 refine Za (Zb (Zb (Zr (sqt 3 rfl (pur 1 rfl (sp rfl (PE.indexArr Z2m rfl rfl (by omega) (by omega)) rfl ?_))))))
 refine Zq b3 ?_
 refine Z02 (l' := Zd ((l).set 0 (left))) rfl rfl rfl cn3 rfl rfl rfl (Z3o hml (by decide) _) (by rw [ints_length, hml]; show 0 + ((0 : Nat) : Int).toNat * 1 + 1 ≤ 4; decide) ?_
 refine Z0 (sqt 2 rfl ?_)
 refine Zq bk ?_
 obtain ⟨q, hqe⟩ : ∃ q, q = l.set 0 left := ⟨_, rfl⟩
 rw [← hqe] at hq ⊢
 refine pur 1 rfl ?_
 refine cl rfl Z9x rfl rfl (c_Rare g ag cg bk hgl _ _ (by omega) (by assumption) 4 _ _) ?_
 rintro _ _ R1 ⟨x32, m32, rfl, hm32, rfl, hR1⟩
 obtain rfl := hR1.symm
 refine Z2 rfl ?_ ?_ <;> intro hc1 <;> try simp only [cS] at hc1
 refine sqt 4 rfl (pur 1 rfl ?_)
 refine cl rfl Z0f rfl rfl (c_Below g ag cg bk hgl _ _ (by omega) (by assumption) (3) _ _) ?_
 rintro _ _ R1 ⟨x34, m34, hx34, rfl, hm34, rfl, hR1⟩
 obtain rfl := hR1.symm
 refine sp rfl (PE.add rfl rfl (by omega)) rfl (pur 1 rfl ?_)
 refine Z9 [0, 0, 2, 6, 0, 16, 62, 126, 255, 511] (tks 0 3 (.ld 3 (.tk 4 (.ld 5 (.tk 6 (.big 7 (.tk 8 (.big 9 .done)))))))) Zo (by kernel_rfl) ?_
 obtain ⟨k, hk⟩ : ∃ k : Nat, 1 + x34 = k := ⟨(1 + x34).toNat, by omega⟩
 rw [hk]
 have hk4 : k < 4 := by omega
 have hq2 := Zb2 hq hk4
 refine Zf 2 rfl (tk rfl (PE.indexArr Z2m rfl rfl (by omega) (by omega)) rfl (ld rfl rfl (lh sc3 rfl (mix_at hq.len hk4)) rfl (tk rfl (PE.indexArr Z2m rfl rfl (by omega) (by omega)) rfl (ld rfl rfl (lh sc3 rfl (mix_at hq.len (k := 0) (by omega))) rfl (tk rfl (PE.indexArr Z2m rfl rfl (by omega) (by omega)) rfl ?_)))))
 refine Zq b3 ?_
 refine Z02 (l' := Zd ((q).set 0 (nn q k))) rfl rfl rfl cn3 rfl rfl rfl (Z3o hq.len (by decide) _) (by rw [ints_length, hq.len]; show 0 + ((0 : Nat) : Int).toNat * 1 + 1 ≤ 4; decide) ?_
 refine bgT (tk rfl (PE.indexArr Z2m rfl rfl (by omega) (by omega)) rfl ?_)
 refine Z02 (l' := Zd ((q.set 0 (nn q k)).set k (nn q 0))) rfl rfl rfl cn3 rfl rfl rfl (Z3o (show (q.set 0 (nn q k)).length = 4 by simp [hq.len]) hk4 _) (by rw [ints_length, (show (q.set 0 (nn q k)).length = 4 by simp [hq.len])]; show 0 + ((k : Nat) : Int).toNat * 1 + 1 ≤ 4; omega) ?_
 refine bgT (sqt 2 rfl ?_)
 obtain ⟨p, hpe, hp⟩ : ∃ p, p = q ∧ Mxt p := ⟨_, rfl, hq⟩
 first
   | (clear hpe hp p; obtain ⟨p, hpe⟩ : ∃ p, p = (q.set 0 (nn q k)).set k (nn q 0) := ⟨_, rfl⟩; rw [← hpe] at hq2 ⊢; have hp := hq2)
   | rw [← hpe]
 refine spL rfl rfl (lhA (Zd (p)) Z35 rfl (rest := []) (by rw [List.append_nil]; rfl) (by rw [ints_length]; exact hp.len)) rfl ?_
 refine Zq b2 ?_
 refine Z48 rfl rfl rfl ZbJ rfl (by rw [ints_length]; exact hp.len) rfl (ZD _) ?_
 refine Z1 ?_
 first
   | exact Z7 (vs := [_]) rfl (.cons (RV.cell rfl (lhA (Zd (p)) Z35 rfl (rest := []) (by rw [List.append_nil]; rfl) (by rw [ints_length]; exact hp.len))) .nil) rfl ⟨p, tq + 2 * (3 : Nat) + 1 + 1, m34, hp, rfl, by omega, hm34, rfl, rfl⟩ (fun w h => St.sub (((h.del b2).del b3).del b8))
   | exact Z7 (vs := [_]) rfl (.cons (RV.cell rfl (lhA (Zd (p)) Z35 rfl (rest := []) (by rw [List.append_nil]; rfl) (by rw [ints_length]; exact hp.len))) .nil) rfl ⟨p, tq + 2 * (3 : Nat) + 1, m32, hp, rfl, by omega, hm32, rfl, rfl⟩ (fun w h => St.sub (((h.del b2).del b3).del b8))
 refine Z5 (sqt 2 rfl ?_)
 obtain ⟨p, hpe, hp⟩ : ∃ p, p = q ∧ Mxt p := ⟨_, rfl, hq⟩
 first
   | (clear hpe hp p; obtain ⟨p, hpe⟩ : ∃ p, p = (q.set 0 (nn q k)).set k (nn q 0) := ⟨_, rfl⟩; rw [← hpe] at hq2 ⊢; have hp := hq2)
   | rw [← hpe]
 refine spL rfl rfl (lhA (Zd (p)) Z35 rfl (rest := []) (by rw [List.append_nil]; rfl) (by rw [ints_length]; exact hp.len)) rfl ?_
 refine Zq b2 ?_
 refine Z48 rfl rfl rfl ZbJ rfl (by rw [ints_length]; exact hp.len) rfl (ZD _) ?_
 refine Z1 ?_
 first
   | exact Z7 (vs := [_]) rfl (.cons (RV.cell rfl (lhA (Zd (p)) Z35 rfl (rest := []) (by rw [List.append_nil]; rfl) (by rw [ints_length]; exact hp.len))) .nil) rfl ⟨p, tq + 2 * (3 : Nat) + 1 + 1, m34, hp, rfl, by omega, hm34, rfl, rfl⟩ (fun w h => St.sub (((h.del b2).del b3).del b8))
   | exact Z7 (vs := [_]) rfl (.cons (RV.cell rfl (lhA (Zd (p)) Z35 rfl (rest := []) (by rw [List.append_nil]; rfl) (by rw [ints_length]; exact hp.len))) .nil) rfl ⟨p, tq + 2 * (3 : Nat) + 1, m32, hp, rfl, by omega, hm32, rfl, rfl⟩ (fun w h => St.sub (((h.del b2).del b3).del b8))
theorem Z3a {s : Int} {m : List Int} (hm : m.length = 4) {k : Nat} (hk : k < 4) : (Value.int .i64 s :: Zd m)[0 + 1 + ((k : Nat) : Int).toNat * 1]? = some (.int .i64 (nn m k)) := by
  obtain ⟨a, b, c, d, rfl⟩ := Z3S hm
  rcases lt4 hk with rfl | rfl | rfl | rfl <;> rfl
theorem Z41 {s : Int} {m : List Int} (hm : m.length = 4) {k : Nat} (hk : k < 4) (v : Int) : spl (Value.int .i64 s :: Zd m) (0 + 1 + ((k : Nat) : Int).toNat * 1) [.int .i64 v] = Value.int .i64 s :: Zd (m.set k v) := by
  obtain ⟨a, b, c, d, rfl⟩ := Z3S hm
  rcases lt4 hk with rfl | rfl | rfl | rfl <;> rfl
theorem Z7C {m : List Int} (hm : m.length = 4) {k : Nat} (hk : k < 4) : mkv false ((m.drop (k * 1)).take 1) = .int .i64 (nn m k) := by
  obtain ⟨a, b, c, d, rfl⟩ := Z3S hm
  rcases lt4 hk with rfl | rfl | rfl | rfl <;> rfl
theorem ZdY {a : Int} (h : 0 ≤ a ∧ a ≤ 1000000) : IntKind.i64.wrap (a.tdiv 40) = a / 40 := by
  rw [Z5c (by omega) (by omega), Int.tdiv_eq_ediv_of_nonneg h.1]
theorem Z3r {s : Int} {m : List Int} (hm : m.length = 4) : (Value.int .i64 s :: Zd m).length = 5 := by rw [List.length_cons, ints_length, hm]
theorem c_Taken (l0 : List Int) (ag : Option Addr) (cg bk : Nat) (hgl : l0.length ≤ 9223372036854775807) (tq mx : Int) (htq : 0 ≤ tq ∧ tq ≤ 1000000) (hmx : 0 ≤ mx ∧ mx ≤ 4294967295) (g : Gat) (hmi : 0 ≤ g.miss ∧ g.miss ≤ 20) (sl : Value) (m : Mix) (hm : Mxt m) (H : Z6) (R : Z3) [hG : MemRows ag 1 (urows l0) R] :
    Fn Tryz.prog 8 [.pointer (some ⟨bk, 0, none⟩), g.v sl, .agg (Zd m).toArray] ((bk, cel 96 [.slice ag l0.length cg, .int .i64 (tq), .int .u32 (mx)]) :: H) R (fun v H' R' => ∃ (h : Hnd) (tq' mx' : Int), h.ok ∧ Z5U g.miss h m = true ∧ v = .agg (Z12 h).toArray ∧ (tq ≤ tq' ∧ tq' ≤ tq + 20) ∧ (0 ≤ mx' ∧ mx' ≤ 4294967295) ∧ H' = (bk, cel 96 [.slice ag l0.length cg, .int .i64 (tq'), .int .u32 (mx')]) :: H ∧ R' = R) := by
 refine Z8 Tryz.func8 rfl Tryz.ntmps8 rfl ?_
 refine sqt 3 rfl (bx rfl rfl rfl (fun b4 => bx rfl rfl rfl (fun b5 => alc rfl ZaT rfl (fun b6 => sqt 3 rfl ?_))))
 refine Zq bk ?_
 refine pur 1 rfl ?_
 refine cl rfl Z1L rfl rfl (c_Among l0 ag cg bk hgl _ _ (by omega) (by assumption) (10) (200) (by first | omega | (dsimp only; omega)) _ _) ?_
 rintro _ _ R1 ⟨x18, m18, hx18, rfl, hm18, rfl, hR1⟩
 obtain rfl := hR1.symm
 refine pur 1 rfl (Z0 (sqt 3 rfl (sp rfl (PE.fA Z4u rfl) rfl (spL rfl rfl (lh sc3 rfl rfl) rfl (pur 1 rfl ?_)))))
 refine Zae (ι := {x : Int × Int × Int // (10 ≤ x.1 ∧ x.1 ≤ 200) ∧ (g.miss = 0 → ∃ j : Int, x.1 = 40 * j) ∧ (tq ≤ x.2.1 ∧ x.2.1 ≤ tq + 2) ∧ (0 ≤ x.2.2 ∧ x.2.2 ≤ 4294967295)}) (fun x => ⟨[(0, .pointer (some ⟨bk, 0, none⟩)), (4, .pointer (some ⟨b4, 0, none⟩)), (5, .pointer (some ⟨b5, 0, none⟩)), (6, .pointer (some ⟨b6, 0, none⟩)), (7, .int .i64 x.1.1)], (bk, cel 96 [.slice ag l0.length cg, .int .i64 (x.1.2.1), .int .u32 (x.1.2.2)]) :: (b6, cel 38 (Z12 ⟨0, 0, 0, 0, 0⟩)) :: (b5, cel 31 (Zd m)) :: (b4, cel 27 (gtl g sl)) :: H, R⟩) ?_ ?_
 refine Z2 rfl ?_ ?_ <;> intro hc0
 refine sqr 4 rfl (pur 1 rfl ?_)
 refine cl rfl Z1L rfl rfl (c_Among l0 ag cg bk hgl _ _ (by omega) (by assumption) (1) (5) (by first | omega | (dsimp only; omega)) _ _) ?_
 rintro _ _ R1 ⟨x23, m23, hx23, rfl, hm23, rfl, hR1⟩
 obtain rfl := hR1.symm
 refine sp rfl (PE.mul rfl rfl (by omega)) rfl (pur 1 rfl ?_)
 exact Z5s ⟨(40 * x23, tq + 1 + 1, m23), by dsimp only; omega, fun _ => ⟨x23, rfl⟩, by dsimp only; omega, by assumption⟩ idH
 refine Z5 ?_
 exact Z5s ⟨(x18, tq + 1, m18), by dsimp only; omega, fun h => absurd h (by simpa using hc0), by dsimp only; omega, by assumption⟩ idH
 rintro ⟨⟨n, tq2, mx2⟩, hn, hn0, htq2, hmx2⟩
 dsimp only at hn hn0 htq2 hmx2 ⊢
 have hng : 0 ≤ n ∧ n ≤ 200 := by omega
 refine sqt 5 rfl (pur 1 rfl ?_)
 refine cl rfl Z0f rfl rfl (c_Below l0 ag cg bk hgl _ _ (by omega) (by assumption) (3) _ _) ?_
 rintro _ _ R1 ⟨x26, m26, hx26, rfl, hm26, rfl, hR1⟩
 obtain rfl := hR1.symm
 refine sp rfl (PE.build (out := Z12 ⟨x26, 0, 0, 0, 0⟩) Zgw ZaT rfl rfl) rfl (alc rfl ZaT rfl (fun b8 => ?_))
 refine sto rfl rfl rfl ZbL rfl rfl rfl rfl ?_
 refine sqt 2 rfl (pur 2 rfl (Z0 (sqt 2 rfl (spL rfl rfl (lhA (Zd (m)) Z35 rfl (rest := []) (by rw [List.append_nil]; rfl) (by rw [ints_length]; exact hm.len)) rfl (pur 1 rfl (Z4 ?_))))))
 refine Zc (ι := {k : Nat // k ≤ 4}) (fun k => ⟨[(0, .pointer (some ⟨bk, 0, none⟩)), (4, .pointer (some ⟨b4, 0, none⟩)), (5, .pointer (some ⟨b5, 0, none⟩)), (6, .pointer (some ⟨b6, 0, none⟩)), (7, .int .i64 n), (8, .pointer (some ⟨b8, 0, none⟩)), (9, .int .i64 (Z1J n m k.1).2), (29, .agg (Zd m).toArray), (30, .int .i64 k.1)], (b8, cel 38 (.int .i64 x26 :: Zd (Z1J n m k.1).1)) :: (bk, cel 96 [.slice ag l0.length cg, .int .i64 (tq2 + 1), .int .u32 (m26)]) :: (b6, cel 38 (Z12 ⟨0, 0, 0, 0, 0⟩)) :: (b5, cel 31 (Zd m)) :: (b4, cel 27 (gtl g sl)) :: H, R⟩) (fun k => 4 - k.1) ⟨0, by omega⟩ ?_ (fun k => ?_)
 exact Zk idH
 obtain ⟨k, hk⟩ := k
 dsimp only at hk ⊢
 obtain ⟨t1, t2, t3, t4, t5, t6⟩ := Z4X hm hng k hk
 refine sqt 1 rfl (pur 1 rfl (Z0 ?_))
 refine Z2 rfl ?_ ?_ <;> intro hc1 <;> try simp only [cS] at hc1
 have hk4 : k < 4 := by omega
 have hbd := Z0I hm hng hk4
 have hg0 : g0 n m k = n * nn m k / 40 := rfl
 refine Z5 (Z0 (Z4 (sqt 4 rfl (pur 1 rfl ?_))))
 refine sp rfl ((PE.indexI (l := m) Zdb (Z0n 10000 3 false 1 Zgi) (fun _ => rfl) rfl rfl hk4 (by rw [hm.len]; omega)).to (by rw [Z7C hm.len hk4])) rfl ?_
 refine pur 2 rfl (sqt 8 rfl (pur 3 rfl (sp rfl (PE.mul rfl rfl (by omega)) rfl ?_)))
 refine sp rfl ((PE.quoW rfl rfl (by omega)).to (by rw [ZdY (by omega), ← hg0])) rfl ?_
 refine sp rfl (PE.fA Z0r rfl) rfl (sp rfl (PE.indexArr Z2m rfl rfl (by omega) (by omega)) rfl ?_)
 refine Z02 (l' := .int .i64 x26 :: Zd (((Z1J n m k).1).set k (g0 n m k))) rfl rfl rfl cn3 rfl rfl rfl (Z41 t1 hk4 _) (by rw [Z3r t1]; show 0 + 1 + ((k : Nat) : Int).toNat * 1 + 1 ≤ 5; omega) ?_
 refine sqr 7 rfl (pur 2 rfl (sp rfl (PE.fA Z0r rfl) rfl (sp rfl (PE.indexArr Z2m rfl rfl (by omega) (by omega)) rfl (spL rfl rfl (lh sc3 rfl (Z3a (by simp [t1]) hk4)) rfl ?_))))
 rw [show nn ((Z1J n m k).1.set k (g0 n m k)) k = g0 n m k from by rw [Z18 (by omega)]; simp]
 refine sp rfl (PE.sub rfl rfl (by omega)) rfl (pur 1 rfl (sqr 2 rfl (sp rfl (PE.add rfl rfl (by omega)) rfl (pur 1 rfl ?_))))
 exact Ze ⟨k + 1, by omega⟩ idH
 obtain rfl : k = 4 := by omega
 refine Za (Zb (Zb (Zr (Z0 (sqt 2 rfl (spL rfl rfl (lhA (Zd (m)) Z35 rfl (rest := []) (by rw [List.append_nil]; rfl) (by rw [ints_length]; exact hm.len)) rfl (pur 1 rfl (Z4 ?_))))))))
 refine Zc (ι := {k : Nat // k ≤ 4}) (fun k => ⟨[(0, .pointer (some ⟨bk, 0, none⟩)), (4, .pointer (some ⟨b4, 0, none⟩)), (5, .pointer (some ⟨b5, 0, none⟩)), (6, .pointer (some ⟨b6, 0, none⟩)), (7, .int .i64 n), (8, .pointer (some ⟨b8, 0, none⟩)), (9, .int .i64 (Z0j n m k.1).2), (48, .agg (Zd m).toArray), (49, .int .i64 k.1)], (b8, cel 38 (.int .i64 x26 :: Zd (Z0j n m k.1).1)) :: (bk, cel 96 [.slice ag l0.length cg, .int .i64 (tq2 + 1), .int .u32 (m26)]) :: (b6, cel 38 (Z12 ⟨0, 0, 0, 0, 0⟩)) :: (b5, cel 31 (Zd m)) :: (b4, cel 27 (gtl g sl)) :: H, R⟩) (fun k => 4 - k.1) ⟨0, by omega⟩ ?_ (fun k => ?_)
 exact Zk idH
 obtain ⟨k, hk⟩ := k
 dsimp only at hk ⊢
 have hti := Z4U hm hng k hk
 have t1 := hti.len
 have t2 := hti.lo
 have t3 := hti.sum
 have t4 : (Z0j n m k).2 ≤ 200 := by
   obtain ⟨p0, p1, p2, p3⟩ := Z4B hti.at_
   obtain ⟨q0, q1, q2, q3⟩ := Z4B (fun k hk => Z0I hm hng (k := k) hk)
   have t3 := t3
   unfold Z1w at t3
   simp only [g0] at p0 p1 p2 p3
   omega
 refine sqt 1 rfl (pur 1 rfl (Z0 ?_))
 refine Z2 rfl ?_ ?_ <;> intro hc2 <;> try simp only [cS] at hc2
 have hk4 : k < 4 := by omega
 have hbd := Z0I hm hng hk4
 have hat := hti.at_ k hk4
 have hg0 : g0 n m k = n * nn m k / 40 := rfl
 refine Z5 (Z0 (Z4 (sqt 4 rfl (pur 1 rfl ?_))))
 refine sp rfl ((PE.indexI (l := m) Zdb (Z0n 10000 3 false 1 Zgi) (fun _ => rfl) rfl rfl hk4 (by rw [hm.len]; omega)).to (by rw [Z7C hm.len hk4])) rfl ?_
 refine pur 2 rfl (sqt 9 rfl (pur 3 rfl ?_))
 refine Zp 55 rfl ?_ ?_ <;> intro g55
 refine pur 2 rfl ?_
 refine spG rfl rfl rfl rfl (PE.mul rfl rfl (by omega)) rfl ?_
 refine spG rfl rfl rfl rfl (PE.rem rfl rfl (by omega)) rfl ?_
 refine pur 2 rfl ?_
 refine Z2 rfl ?_ ?_ <;> intro hc3
 have hst : Z0j n m (k + 1) = ((Z0j n m k).1.set k (nn (Z0j n m k).1 k + 1), (Z0j n m k).2 - 1) := by
   show (bif Z5x n m (Z0j n m k) k then _ else _) = _
   rw [show Z5x n m (Z0j n m k) k = true from by simp_all [Z5x]]; rfl
 refine sqt 8 rfl (pur 1 rfl (sp rfl (PE.fA Z0r rfl) rfl (sp rfl (PE.indexArr Z2m rfl rfl (by omega) (by omega)) rfl (spL rfl rfl (lh sc3 rfl (Z3a t1 hk4)) rfl (sp rfl (PE.add rfl rfl (by omega)) rfl (sp rfl (PE.fA Z0r rfl) rfl (sp rfl (PE.indexArr Z2m rfl rfl (by omega) (by omega)) rfl ?_)))))))
 refine Z02 (l' := .int .i64 x26 :: Zd (((Z0j n m k).1).set k (nn (Z0j n m k).1 k + 1))) rfl rfl rfl cn3 rfl rfl rfl (Z41 t1 hk4 _) (by rw [Z3r t1]; show 0 + 1 + ((k : Nat) : Int).toNat * 1 + 1 ≤ 5; omega) ?_
 refine sqr 3 rfl (pur 1 rfl (sp rfl (PE.sub rfl rfl (by omega)) rfl (pur 1 rfl (sqr 2 rfl (sp rfl (PE.add rfl rfl (by omega)) rfl (pur 1 rfl ?_))))))
 exact ZX ⟨k + 1, by omega⟩ (by dsimp only; omega) (by dsimp only; rw [hst]; exact (by repeat' first | exact Sub.nil | apply Sub.cons | rfl | (simp [lk]; omega))) (fun w h => by dsimp only; rw [hst]; exact h)
 have hst : Z0j n m (k + 1) = Z0j n m k := by
   show (bif Z5x n m (Z0j n m k) k then _ else _) = _
   rw [show Z5x n m (Z0j n m k) k = false from by simp_all [Z5x]]; rfl
 refine Z5 (sqr 2 rfl (sp rfl (PE.add rfl rfl (by omega)) rfl (pur 1 rfl ?_)))
 exact ZX ⟨k + 1, by omega⟩ (by dsimp only; omega) (by dsimp only; rw [hst]; exact (by repeat' first | exact Sub.nil | apply Sub.cons | rfl | (simp [lk]; omega))) (fun w h => by dsimp only; rw [hst]; exact h)
 have hst : Z0j n m (k + 1) = Z0j n m k := by
   show (bif Z5x n m (Z0j n m k) k then _ else _) = _
   have h55 : decide (0 < (Z0j n m k).2) = false := by simpa using g55
   rw [show Z5x n m (Z0j n m k) k = false from by unfold Z5x; rw [h55]; rfl]; rfl
 refine pur 6 rfl ?_
 refine Z01 rfl ?_
 refine Z5 (sqr 2 rfl (sp rfl (PE.add rfl rfl (by omega)) rfl (pur 1 rfl ?_)))
 exact ZX ⟨k + 1, by omega⟩ (by dsimp only; omega) (by dsimp only; rw [hst]; exact (by repeat' first | exact Sub.nil | apply Sub.cons | rfl | (simp [lk]; omega))) (fun w h => by dsimp only; rw [hst]; exact h)
 obtain rfl : k = 4 := by omega
 obtain ⟨e1, e2, e3⟩ := Z7j hm hng
 refine Za (Zb (Zb (Zr (sqt 6 rfl ?_))))
 refine Zq bk ?_
 obtain ⟨l, hl⟩ : ∃ l, l = (Z0j n m 4).1 := ⟨_, rfl⟩
 rw [← hl]
 rw [← hl] at e1 e2 e3
 refine pur 1 rfl ?_
 refine cl rfl Z0f rfl rfl (c_Below l0 ag cg bk hgl _ _ (by omega) (by assumption) (4) _ _) ?_
 rintro _ _ R1 ⟨x73, m73, hx73, rfl, hm73, rfl, hR1⟩
 obtain rfl := hR1.symm
 refine pur 1 rfl ?_
 refine cl rfl Z0f rfl rfl (c_Below l0 ag cg bk hgl _ _ (by omega) (by assumption) (4) _ _) ?_
 rintro _ _ R1 ⟨x75, m75, hx75, rfl, hm75, rfl, hR1⟩
 obtain rfl := hR1.symm
 refine pur 2 rfl (Z0 (Z0 ?_))
 refine Z9 [0, 0, 2, 7, 0, 0, 48, 112, 255, 511] (.tk 0 (.tk 1 (.ld 2 (tks 4 3 (.ld 7 (.big 3 (.tk 8 (.tk 9 .done)))))))) Zo (by kernel_rfl) ?_
 obtain ⟨a, ha⟩ : ∃ a : Nat, x73 = a := ⟨x73.toNat, by omega⟩
 obtain ⟨b, hb⟩ : ∃ b : Nat, x75 = b := ⟨x75.toNat, by omega⟩
 rw [ha, hb]
 have ha4 : a < 4 := by omega
 have hb4 : b < 4 := by omega
 have hea := e3 a ha4
 have heb := e3 b hb4
 have hga : g0 n m a = n * nn m a / 40 := rfl
 have hgb : g0 n m b = n * nn m b / 40 := rfl
 have hba := Z0I hm hng ha4
 have hbb := Z0I hm hng hb4
 refine Zf 1 rfl (tk rfl (PE.fA Z4u rfl) rfl (ld rfl rfl (lh sc3 rfl rfl) rfl (Zf 1 rfl (tk rfl (PE.fA Z0r rfl) rfl (tk rfl (PE.indexArr Z2m rfl rfl (by omega) (by omega)) rfl (ld rfl rfl (lh sc3 rfl (Z3a e1 ha4)) rfl ?_))))))
 refine cl rfl Z0f rfl rfl (c_Below l0 ag cg bk hgl _ _ (by omega) (by assumption) (g.miss) _ _) ?_
 rintro _ _ R1 ⟨x79, m79, hx79, rfl, hm79, rfl, hR1⟩
 obtain rfl := hR1.symm
 refine bg (fun w hs => ⟨(lh sc3 rfl (Z3a e1 ha4)) w hs, trivial, trivial⟩) ?_
 refine tk rfl (PE.min rfl rfl) rfl (Zf 1 rfl (sqt 3 rfl ?_))
 obtain ⟨t, ht⟩ : ∃ t, t = min x79 (nn l a) := ⟨_, rfl⟩
 rw [← ht]
 obtain ⟨k1, k2, k3⟩ := Z9M e1 ha4 hb4 t
 refine pur 3 rfl ?_
 refine Z2 rfl ?_ ?_ <;> intro hc4
 have hab : a ≠ b := by intro h; subst h; simp at hc4
 have htk : tkM l a b t = (l.set a (nn l a - t)).set b (nn l b + t) := by unfold tkM; rw [show (a == b) = false by simpa using hab]; rfl
 refine Z9 [0, 0, 0, 0, 12, 28, 0, 124, 0, 0, 768, 1792, 0, 7936, 0, 20477, 53245, 0, 262143, 524287] (tks 0 5 (.ld 5 (tks 6 5 (.ld 11 (tks 12 4 (.tk 17 (.big 16 (.tk 18 (.big 19 .done))))))))) Zo (by kernel_rfl) ?_
 refine Zf 3 rfl (tk rfl (PE.fA Z0r rfl) rfl (tk rfl (PE.indexArr Z2m rfl rfl (by omega) (by omega)) rfl (ld rfl rfl (lh sc3 rfl (Z3a e1 ha4)) rfl (Zf 1 rfl (tk rfl (PE.sub rfl rfl (by omega)) rfl (Zf 1 rfl (tk rfl (PE.fA Z0r rfl) rfl (tk rfl (PE.indexArr Z2m rfl rfl (by omega) (by omega)) rfl (ld rfl rfl (lh sc3 rfl (Z3a e1 hb4)) rfl (Zf 1 rfl (tk rfl (PE.add rfl rfl (by omega)) rfl ?_)))))))))))
 refine Zq b8 ?_
 refine tk rfl (PE.fA Z0r rfl) rfl (tk rfl (PE.indexArr Z2m rfl rfl (by omega) (by omega)) rfl (tk rfl (PE.fA Z0r rfl) rfl ?_))
 refine Z02 (l' := .int .i64 x26 :: Zd ((l).set a (nn l a - t))) rfl rfl rfl cn3 rfl rfl rfl (Z41 e1 ha4 _) (by rw [Z3r e1]; show 0 + 1 + ((a : Nat) : Int).toNat * 1 + 1 ≤ 5; omega) ?_
 refine bgT (tk rfl (PE.indexArr Z2m rfl rfl (by omega) (by omega)) rfl ?_)
 refine Z02 (l' := .int .i64 x26 :: Zd ((l.set a (nn l a - t)).set b (nn l b + t))) rfl rfl rfl cn3 rfl rfl rfl (Z41 (show (l.set a (nn l a - t)).length = 4 by simp [e1]) hb4 _) (by rw [Z3r (show (l.set a (nn l a - t)).length = 4 by simp [e1])]; show 0 + 1 + ((b : Nat) : Int).toNat * 1 + 1 ≤ 5; omega) ?_
 refine bgT (sqt 2 rfl ?_)
 rw [← htk]
 obtain ⟨x0, x1, x2, x3, hx⟩ := Z3S k1
 obtain ⟨hok, hfit⟩ := Z7q (spot := x26) hm hn (by omega) hmi.1 hn0 ha4 hb4 (t := t) (by rw [← hl]; omega) (by rw [← hl]; exact hx)
 rw [hx]
 refine spL rfl rfl (lhA (Z12 ⟨x26, x0, x1, x2, x3⟩) Z8m rfl rfl rfl) rfl ?_
 refine Zq b6 ?_
 refine Z48 rfl rfl rfl ZbL rfl rfl rfl rfl ?_
 refine Z1 ?_
 exact Z7 (vs := [_]) rfl (.cons (RV.cell rfl (lhA (Z12 ⟨x26, x0, x1, x2, x3⟩) Z8m rfl rfl rfl)) .nil) rfl ⟨⟨x26, x0, x1, x2, x3⟩, tq2 + 1 + 1 + 1 + 1, m79, hok, hfit, rfl, by omega, by assumption, rfl, rfl⟩ (fun w h => St.sub ((((h.del b6).del b8).del b5).del b4))
 have hab : a = b := by simp at hc4; omega
 have htk : tkM l a b t = l := by unfold tkM; rw [show (a == b) = true by simpa using hab]; rfl
 refine Z5 (sqt 2 rfl ?_)
 rw [← htk]
 obtain ⟨x0, x1, x2, x3, hx⟩ := Z3S k1
 obtain ⟨hok, hfit⟩ := Z7q (spot := x26) hm hn (by omega) hmi.1 hn0 ha4 hb4 (t := t) (by rw [← hl]; omega) (by rw [← hl]; exact hx)
 rw [hx]
 refine spL rfl rfl (lhA (Z12 ⟨x26, x0, x1, x2, x3⟩) Z8m rfl rfl rfl) rfl ?_
 refine Zq b6 ?_
 refine Z48 rfl rfl rfl ZbL rfl rfl rfl rfl ?_
 refine Z1 ?_
 exact Z7 (vs := [_]) rfl (.cons (RV.cell rfl (lhA (Z12 ⟨x26, x0, x1, x2, x3⟩) Z8m rfl rfl rfl)) .nil) rfl ⟨⟨x26, x0, x1, x2, x3⟩, tq2 + 1 + 1 + 1 + 1, m79, hok, hfit, rfl, by omega, by assumption, rfl, rfl⟩ (fun w h => St.sub ((((h.del b6).del b8).del b5).del b4))
theorem ZgC : apT Tryz.prog 25 = some (99, 5, 40) := by kernel_rfl
theorem ZfV : apT Tryz.prog 28 = some (38, 5, 40) := by kernel_rfl
theorem Zf7 : cal Tryz.prog 30 = true := by kernel_rfl
theorem ZcH : cal Tryz.prog 8 = true := by kernel_rfl
theorem ZgP : Zx Tryz.prog 25 = some 1 := by kernel_rfl
theorem Zeq : Zx Tryz.prog 27 = some 3 := by kernel_rfl
theorem Zgv : Zx Tryz.prog 28 = some 1 := by kernel_rfl
theorem Z4N : Zx Tryz.prog 30 = some 3 := by kernel_rfl
theorem Zf2 : ZB Tryz.prog 27 = some [(0, 1), (1, 1), (2, 1)] := by kernel_rfl
theorem Z9o : ZB Tryz.prog 30 = some [(0, 1), (1, 1), (2, 1)] := by kernel_rfl
theorem ZgI : ZB Tryz.prog 99 = some [(0, 1), (1, 1), (2, 1), (3, 1), (4, 1)] := by kernel_rfl
theorem ZgF : slE Tryz.prog 25 = some (99, 5) := by kernel_rfl
theorem Zg4 : slE Tryz.prog 28 = some (38, 5) := by kernel_rfl
theorem ZbN : Zs Tryz.prog 27 = some ([.int .i64 0, .int .i64 0, .slice none 0 0]) := by kernel_rfl
theorem Z3u : Zs Tryz.prog 30 = some ([.int .i64 0, .int .i64 0, .slice none 0 0]) := by kernel_rfl
theorem Zgd : Zs Tryz.prog 99 = some ([.int .i64 0, .int .i64 0, .int .i64 0, .int .i64 0, .int .i64 0]) := by kernel_rfl
theorem _root_.Go.Proofs.YtjoajfdnlomapaaGreat.OSl.freezeC {e sz : Nat} {rows : List (List Value)} (o : OSl e sz rows) : ∃ a c, o.fs = .slice a rows.length c ∧ rows.length ≤ c ∧ ∀ {H : Z6} {R : Z3} {w : World}, St (o.G ++ H) R w → St H (RowsA a sz rows :: R) w := by
  obtain ⟨fs, G, hl, his⟩ := o
  rcases his with ⟨rfl, rfl, rfl⟩ | ⟨b, cap, junk, rfl, rfl, _, hc, _⟩
  · exact ⟨none, 0, rfl, Nat.le_refl _, fun {H R w} h => (St.also (H := H) (R := R) h (f := RowsA none sz []) (fun w' _ => fun i row hi => by simp at hi))⟩
  · exact ⟨_, cap, rfl, hc, fun {H R w} h => St.rows (rest := junk) h hl⟩
theorem Z6k {l : List Grd} {x : Grd} (h : ∀ i, Z0o l i = false) (hx : ∀ q ∈ l, x.price ≤ q.price) : ∀ i, Z0o (l ++ [x]) i = false := fun i => by
  rcases Nat.lt_trichotomy (i + 1) l.length with h1 | h1 | h1
  · have := h i
    unfold Z0o at this ⊢
    rw [List.getElem?_append_left (by omega), List.getElem?_append_left (by omega)]; exact this
  · obtain ⟨q, hq⟩ : ∃ q, l[i]? = some q := ⟨_, List.getElem?_eq_getElem (by omega)⟩
    have h2 := hx q (List.mem_of_getElem? hq)
    unfold Z0o
    rw [List.getElem?_append_left (by omega), hq, List.getElem?_append_right (by omega), show i + 1 - l.length = 0 from by omega]
    simp only [List.getElem?_cons_zero]
    rw [decide_eq_false (by omega)]
  · unfold Z0o
    rw [List.getElem?_eq_none (l := l ++ [x]) (i := i + 1) (by simp; omega)]
    split <;> simp_all
structure GrI (l : List Grd) (k : Nat) (pr : Int) : Prop where
  len : l.length = k
  bd : 0 ≤ pr ∧ pr ≤ 100
  q : ∀ q ∈ l, (pr ≤ q.price ∧ q.price ≤ 100) ∧ ∀ k < 4, 0 ≤ nn q.ns k ∧ nn q.ns k ≤ 40
  bad : ∀ i, Z0o l i = false
theorem GrI.more {l : List Grd} {k : Nat} {pr a b c d x : Int} (h : GrI l k pr) (ha : 0 ≤ a ∧ a ≤ 40) (hb : 0 ≤ b ∧ b ≤ 40) (hc : 0 ≤ c ∧ c ≤ 40) (hd : 0 ≤ d ∧ d ≤ 40) (hx : 0 ≤ x ∧ x ≤ pr) : GrI (l ++ [⟨a, b, c, d, pr⟩]) (k + 1) (pr - x) := by
  have hp := h.bd
  refine ⟨by simp [h.len], by omega, fun q hq => ?_, Z6k h.bad (fun q hq => (h.q q hq).1.1)⟩
  rcases List.mem_append.1 hq with hq | hq
  · have := h.q q hq; exact ⟨by omega, this.2⟩
  · simp only [List.mem_singleton] at hq; subst hq; exact ⟨by simp only; omega, of4 ⟨ha, hb, hc, hd⟩⟩
structure MdOk (ng nh : Int) (g : Gat) (c : Crt) (m : Mix) : Prop where
  gok : g.ok
  cok : c.ok
  mix : Mxt m
  err : g.err ≤ 8
  miss : g.miss ≤ 6
  fit : ∀ h ∈ c.hs, Z5U g.miss h m = true
  many : g.grs.length ≤ ng
  more : c.hs.length ≤ nh
  net : 0 ≤ c.full - c.empty ∧ c.full - c.empty < 2000
theorem ZaW (l0 : List Int) (a0 : Option Addr) (c0 bk : Nat) (hgl : l0.length ≤ 9223372036854775807) (tq mx : Int) (htq : 0 ≤ tq ∧ tq ≤ 1000) (hmx : 0 ≤ mx ∧ mx ≤ 4294967295) (ng nh : Int) (hng : 0 ≤ ng ∧ ng ≤ 4) (hnh : 0 ≤ nh ∧ nh ≤ 6) (H : Z6) (R : Z3) [hG : MemRows a0 1 (urows l0) R] :
    Fn Tryz.prog 6 [.pointer (some ⟨bk, 0, none⟩), .int .i64 ng, .int .i64 nh] ((bk, cel 96 [.slice a0 l0.length c0, .int .i64 (tq), .int .u32 (mx)]) :: H) R (fun v H' R' => ∃ (g : Gat) (c : Crt) (m : Mix) (ag : Option Addr) (cg : Nat) (tq' mx' : Int) (o : OSl 38 5 (hrows c.hs)), MdOk ng nh g c m ∧ g.grs.length ≤ cg ∧ v = .tuple #[g.v (g.sl ag cg), c.v o.fs, .agg (Zd m).toArray] ∧ (tq ≤ tq' ∧ tq' ≤ tq + 200) ∧ (0 ≤ mx' ∧ mx' ≤ 4294967295) ∧ H' = (bk, cel 96 [.slice a0 l0.length c0, .int .i64 (tq'), .int .u32 (mx')]) :: (o.G ++ H) ∧ R' = RowsA ag 5 (grows g.grs) :: R) := by
 refine Z8 Tryz.func6 rfl Tryz.ntmps6 rfl ?_
 refine sqt 3 rfl (alc rfl ZbN rfl (fun b6 => alc rfl Z3u rfl (fun b7 => alc rfl ZbP rfl (fun b8 => sqt 7 rfl ?_))))
 refine Zq bk ?_
 refine pur 1 rfl ?_
 refine cl rfl Z0f rfl rfl (c_Below l0 a0 c0 bk hgl _ _ (by omega) (by assumption) (9) _ _) ?_
 rintro _ _ R1 ⟨x15, m15, hx15, rfl, hm15, rfl, hR1⟩
 obtain rfl := hR1.symm
 refine pur 1 rfl ?_
 refine cl rfl Z0f rfl rfl (c_Below l0 a0 c0 bk hgl _ _ (by omega) (by assumption) (7) _ _) ?_
 rintro _ _ R1 ⟨x17, m17, hx17, rfl, hm17, rfl, hR1⟩
 obtain rfl := hR1.symm
 refine sp rfl (PE.build (out := gtl ⟨x15, x17, []⟩ (.slice none 0 0)) Zf2 ZbN rfl rfl) rfl (alc rfl ZbN rfl (fun b9 => ?_))
 refine sto rfl rfl rfl Zeq rfl rfl rfl rfl ?_
 refine sqt 3 rfl ?_
 refine Zq bk ?_
 refine pur 1 rfl ?_
 refine cl rfl Z1L rfl rfl (c_Among l0 a0 c0 bk hgl _ _ (by omega) (by assumption) (1) (100) (by first | omega | (dsimp only; omega)) _ _) ?_
 rintro _ _ R1 ⟨x20, m20, hx20, rfl, hm20, rfl, hR1⟩
 obtain rfl := hR1.symm
 refine pur 1 rfl (Z0 (sqt 5 rfl (pur 2 rfl (sp rfl (PE.add rfl rfl (by omega)) rfl ?_))))
 refine cl rfl Z0f rfl rfl (c_Below l0 a0 c0 bk hgl _ _ (by omega) (by assumption) (ng + 1) _ _) ?_
 rintro _ _ R1 ⟨x24, m24, hx24, rfl, hm24, rfl, hR1⟩
 obtain rfl := hR1.symm
 refine pur 1 rfl (Z4 ?_)
 obtain ⟨n24, rfl⟩ : ∃ n : Nat, x24 = n := ⟨x24.toNat, by omega⟩
 refine Zc (ι := (x : {x : Nat × Int × List Grd × Int × Int // x.1 ≤ n24 ∧ GrI x.2.2.1 x.1 x.2.1 ∧ (tq ≤ x.2.2.2.1 ∧ x.2.2.2.1 ≤ tq + 10 + 5 * x.1) ∧ (0 ≤ x.2.2.2.2 ∧ x.2.2.2.2 ≤ 4294967295)}) × OSl 99 5 (grows x.1.2.2.1)) (fun x => ⟨[(0, .pointer (some ⟨bk, 0, none⟩)), (6, .pointer (some ⟨b6, 0, none⟩)), (7, .pointer (some ⟨b7, 0, none⟩)), (8, .pointer (some ⟨b8, 0, none⟩)), (9, .pointer (some ⟨b9, 0, none⟩)), (2, .int .i64 nh), (10, .int .i64 x.1.1.2.1), (24, .int .i64 n24), (25, .int .i64 x.1.1.1)],
   (bk, cel 96 [.slice a0 l0.length c0, .int .i64 (x.1.1.2.2.2.1), .int .u32 (x.1.1.2.2.2.2)]) :: (x.2.G ++ (b9, cel 27 (gtl ⟨x15, x17, x.1.1.2.2.1⟩ x.2.fs)) :: (b8, cel 31 (Zd [0, 0, 0, 0])) :: (b7, cel 30 [.int .i64 0, .int .i64 0, .slice none 0 0]) :: (b6, cel 27 [.int .i64 0, .int .i64 0, .slice none 0 0]) :: H), R⟩) (fun x => n24 - x.1.1.1) ⟨⟨(0, x20, [], tq + 1 + 1 + 1 + 1, m24), by omega, ⟨rfl, by dsimp only; omega, by simp, fun i => by simp [Z0o]⟩, by dsimp only; omega, by assumption⟩, OSl.nil _ _⟩ ?_ (fun x => ?_)
 exact Zk idH
 obtain ⟨⟨⟨k, pr, l, tq2, mx2⟩, hk, hri, htq2, hmx2⟩, o'⟩ := x
 dsimp only at hk hri htq2 hmx2 o' ⊢
 have h2 := hri.bd
 have h3 := hri.len
 refine sqt 1 rfl (pur 1 rfl (Z0 ?_))
 refine Z2 rfl ?_ ?_ <;> intro hc0 <;> try simp only [cS] at hc0
 refine Z5 (Z0 (Z4 (Z0 ?_)))
 refine Z9 [0, 1, 0, 4, 0, 28, 0, 124, 0, 508, 0, 2044, 4092, 8191, 16383, 32767] (.tk 0 (.ld 1 (.tk 2 (.tk 4 (.tk 6 (.tk 8 (.tk 10 (.big 3 (.big 5 (.big 7 (.big 9 (.tk 11 (.big 12 (.big 13 (.tk 14 (.big 15 .done)))))))))))))))) Zo (by kernel_rfl) ?_
 refine tk rfl (PE.fA Z4K rfl) rfl (ld rfl rfl (lh Z8I rfl rfl) rfl (Zf 5 rfl ?_))
 refine cl rfl Z1L rfl rfl (c_Among l0 a0 c0 bk hgl _ _ (by omega) (by assumption) (10) (38) (by first | omega | (dsimp only; omega)) _ _) ?_
 rintro _ _ R1 ⟨x30, m30, hx30, rfl, hm30, rfl, hR1⟩
 obtain rfl := hR1.symm
 refine bg (fun w hs => ⟨(lh Z8I rfl rfl) w hs, trivial⟩) ?_
 refine cl rfl Z1L rfl rfl (c_Among l0 a0 c0 bk hgl _ _ (by omega) (by assumption) (1) (14) (by first | omega | (dsimp only; omega)) _ _) ?_
 rintro _ _ R1 ⟨x32, m32, hx32, rfl, hm32, rfl, hR1⟩
 obtain rfl := hR1.symm
 refine bg (fun w hs => ⟨(lh Z8I rfl rfl) w hs, trivial⟩) ?_
 refine cl rfl Z0f rfl rfl (c_Below l0 a0 c0 bk hgl _ _ (by omega) (by assumption) (9) _ _) ?_
 rintro _ _ R1 ⟨x34, m34, hx34, rfl, hm34, rfl, hR1⟩
 obtain rfl := hR1.symm
 refine bg (fun w hs => ⟨(lh Z8I rfl rfl) w hs, trivial⟩) ?_
 refine cl rfl Z1L rfl rfl (c_Among l0 a0 c0 bk hgl _ _ (by omega) (by assumption) (1) (14) (by first | omega | (dsimp only; omega)) _ _) ?_
 rintro _ _ R1 ⟨x36, m36, hx36, rfl, hm36, rfl, hR1⟩
 obtain rfl := hR1.symm
 refine bg (fun w hs => ⟨(lh Z8I rfl rfl) w hs, trivial⟩) ?_
 refine tk rfl (PE.build (out := Z3J ⟨x30, x32, x34, x36, pr⟩) ZgI Zgd rfl rfl) rfl ?_
 refine bsl (out := [_, _, _, _, _]) rfl ZgF Zgd rfl rfl rfl rfl rfl rfl (fun b39 => ?_)
 refine bg (fun w hs => ⟨(lh Z8I rfl rfl) w hs, trivial⟩) ?_
 refine apO (o') rfl ZgC rfl rfl (Z3N (row := Z3J ⟨x30, x32, x34, x36, pr⟩) rfl) rfl rfl ((by simp only [grows, List.length_map, List.length_singleton]; omega)) rfl (fun o40 => ?_)
 refine bgT (tk rfl (PE.fA Z4K rfl) rfl ?_)
 refine Z02 (l' := gtl ⟨x15, x17, l ++ [⟨x30, x32, x34, x36, pr⟩]⟩ o40.fs) rfl rfl rfl ZgP rfl (by rw [o40.cells.1]; first | done | rfl) (by rw [o40.cells.1]; simp [o40.cells.2]) (by rw [o40.cells.1]; first | done | rfl) (by rw [o40.cells.1]; first | done | exact Nat.le_refl _) ?_
 refine bgT (sqr 7 rfl ?_)
 refine Zq bk ?_
 refine pur 3 rfl (sp rfl (PE.add rfl rfl (by omega)) rfl ?_)
 refine cl rfl Z0f rfl rfl (c_Below l0 a0 c0 bk hgl _ _ (by omega) (by assumption) (pr + 1) _ _) ?_
 rintro _ _ R1 ⟨x46, m46, hx46, rfl, hm46, rfl, hR1⟩
 obtain rfl := hR1.symm
 refine sp rfl (PE.sub rfl rfl (by omega)) rfl (pur 1 rfl (sqr 2 rfl (sp rfl (PE.add rfl rfl (by omega)) rfl (pur 1 rfl ?_))))
 exact Ze ⟨⟨(k + 1, pr - x46, l ++ [⟨x30, x32, x34, x36, pr⟩], tq2 + 1 + 1 + 1 + 1 + 1, m46), by omega, hri.more (x := x46) (by omega) (by omega) (by omega) (by omega) (by omega), by dsimp only; omega, by assumption⟩, o40.cast (by simp [grows])⟩ (fun w h => (h.del b39).perm (by first | exact .refl _ | exact List.Perm.cons _ (.refl _)))
 obtain rfl : k = n24 := by omega
 obtain ⟨ag, cg, he, hcg, hf⟩ := o'.freezeC
 rw [he]
 refine Zq bk ?_
 refine Sy.heap (H' := _) (fun w h => hf (h.perm (List.perm_middle (l₁ := o'.G) (a := _)).symm)) ?_
 rw [show (grows l).length = l.length from List.length_map _]
 rw [show (grows l).length = l.length from List.length_map _] at hcg
 have hgo : Gat.ok ⟨x15, x17, l⟩ := ⟨by simp only; omega, by simp only; omega, by simp only; omega, fun q hq => by have := hri.q q hq; exact ⟨by omega, this.2⟩, hri.bad⟩
 clear he hf
 refine Za (Zb (Zb (Zr (sqt 4 rfl (pur 1 rfl ?_)))))
 refine cl rfl Zf7 rfl rfl (Zbx l0 a0 c0 bk hgl _ _ (by omega) (by assumption) _ _) ?_
 rintro _ _ R1 ⟨q, tq5, mx5, hq, rfl, htq5, hmx5, rfl, hR1⟩
 obtain rfl := hR1.symm
 refine alc rfl ZbP rfl (fun b11 => ?_)
 refine Z48 rfl rfl rfl ZbJ rfl (by rw [ints_length]; exact hq.len) rfl (ZD _) ?_
 refine sqt 3 rfl ?_
 refine Zq bk ?_
 refine pur 1 rfl ?_
 refine cl rfl Z0f rfl rfl (c_Below l0 a0 c0 bk hgl _ _ (by omega) (by assumption) (900) _ _) ?_
 rintro _ _ R1 ⟨x52, m52, hx52, rfl, hm52, rfl, hR1⟩
 obtain rfl := hR1.symm
 refine pur 1 rfl (sqt 8 rfl (pur 2 rfl ?_))
 refine cl rfl Z0f rfl rfl (c_Below l0 a0 c0 bk hgl _ _ (by omega) (by assumption) (2000) _ _) ?_
 rintro _ _ R1 ⟨x55, m55, hx55, rfl, hm55, rfl, hR1⟩
 obtain rfl := hR1.symm
 refine sp rfl (PE.add rfl rfl (by omega)) rfl (pur 1 rfl (sp rfl (PE.build (out := ctl ⟨x52 + x55, x52, []⟩ (.slice none 0 0)) Z9o Z3u rfl rfl) rfl (alc rfl Z3u rfl (fun b13 => ?_))))
 refine sto rfl rfl rfl Z4N rfl rfl rfl rfl ?_
 refine Z0 (sqt 5 rfl ?_)
 refine Zq bk ?_
 refine pur 2 rfl (sp rfl (PE.add rfl rfl (by omega)) rfl ?_)
 refine cl rfl Z0f rfl rfl (c_Below l0 a0 c0 bk hgl _ _ (by omega) (by assumption) (nh + 1) _ _) ?_
 rintro _ _ R1 ⟨x62, m62, hx62, rfl, hm62, rfl, hR1⟩
 obtain rfl := hR1.symm
 refine pur 1 rfl (Z4 ?_)
 obtain ⟨n62, rfl⟩ : ∃ n : Nat, x62 = n := ⟨x62.toNat, by omega⟩
 refine Zc (ι := (x : {x : Nat × List Hnd × Int × Int // x.1 ≤ n62 ∧ (x.2.1.length = x.1 ∧ ∀ h ∈ x.2.1, h.ok ∧ Z5U x17 h q = true) ∧ (tq ≤ x.2.2.1 ∧ x.2.2.1 ≤ tq + 60 + 20 * x.1) ∧ (0 ≤ x.2.2.2 ∧ x.2.2.2 ≤ 4294967295)}) × OSl 38 5 (hrows x.1.2.1)) (fun x => ⟨[(0, .pointer (some ⟨bk, 0, none⟩)), (6, .pointer (some ⟨b6, 0, none⟩)), (7, .pointer (some ⟨b7, 0, none⟩)), (8, .pointer (some ⟨b8, 0, none⟩)), (9, .pointer (some ⟨b9, 0, none⟩)), (11, .pointer (some ⟨b11, 0, none⟩)), (13, .pointer (some ⟨b13, 0, none⟩)), (62, .int .i64 n62), (63, .int .i64 x.1.1.1)],
   (bk, cel 96 [.slice a0 l0.length c0, .int .i64 (x.1.1.2.2.1), .int .u32 (x.1.1.2.2.2)]) :: (x.2.G ++ (b13, cel 30 (ctl ⟨x52 + x55, x52, x.1.1.2.1⟩ x.2.fs)) :: (b11, cel 31 (Zd q)) :: (b9, cel 27 (gtl ⟨x15, x17, l⟩ (.slice ag l.length cg))) :: (b8, cel 31 (Zd [0, 0, 0, 0])) :: (b7, cel 30 [.int .i64 0, .int .i64 0, .slice none 0 0]) :: (b6, cel 27 [.int .i64 0, .int .i64 0, .slice none 0 0]) :: H), RowsA ag 5 (grows l) :: R⟩) (fun x => n62 - x.1.1.1) ⟨⟨(0, [], tq5 + 1 + 1 + 1, m62), by omega, ⟨rfl, by simp⟩, by dsimp only; omega, by assumption⟩, OSl.nil _ _⟩ ?_ (fun x => ?_)
 exact Zk idH
 obtain ⟨⟨⟨k, hds, tq3, mx3⟩, hk1, ⟨hkl, hkh⟩, htq3, hmx3⟩, o'⟩ := x
 dsimp only at hk1 hkl hkh htq3 hmx3 o' ⊢
 refine sqt 1 rfl (pur 1 rfl (Z0 ?_))
 refine Z2 rfl ?_ ?_ <;> intro hc1 <;> try simp only [cS] at hc1
 refine Z5 (Z0 (Z4 ?_))
 refine Z9 [0, 1, 0, 0, 0, 28, 60, 127, 255, 511] (.tk 0 (.ld 1 (.tk 2 (.ld 3 (.ld 4 (.big 5 (.big 6 (.big 7 (.tk 8 (.big 9 .done)))))))))) Zo (by kernel_rfl) ?_
 refine tk rfl (PE.fA Z06 rfl) rfl (ld rfl rfl (lh Z49 rfl rfl) rfl (Zf 1 rfl (ld rfl rfl (lhA (gtl ⟨x15, x17, l⟩ (.slice ag l.length cg)) Z34 rfl rfl rfl) rfl (ld rfl rfl (lhA (Zd (q)) Z35 rfl (rest := []) (by rw [List.append_nil]; rfl) (by rw [ints_length]; exact hq.len)) rfl ?_))))
 refine cl rfl ZcH rfl rfl (c_Taken l0 a0 c0 bk hgl _ _ (by omega) (by assumption) ⟨x15, x17, l⟩ (by dsimp only; omega) (.slice ag l.length cg) q hq _ _) ?_
 rintro _ _ R1 ⟨h, tq4, mx4, hho, hhf, rfl, htq4, hmx4, rfl, hR1⟩
 obtain rfl := hR1.symm
 refine bg (fun w hs => ⟨trivial, trivial, (lh Z49 rfl rfl) w hs, trivial⟩) ?_
 refine bsl (out := [_, _, _, _, _]) rfl Zg4 ZaT rfl rfl rfl rfl rfl rfl (fun b71 => ?_)
 refine bg (fun w hs => ⟨(lh Z49 rfl rfl) w hs, trivial⟩) ?_
 refine apO (o') rfl ZfV rfl rfl (Z3N (row := Z12 h) rfl) rfl rfl ((by simp only [hrows, List.length_map, List.length_singleton]; omega)) rfl (fun o72 => ?_)
 refine bgT (tk rfl (PE.fA Z06 rfl) rfl ?_)
 refine Z02 (l' := ctl ⟨x52 + x55, x52, hds ++ [h]⟩ o72.fs) rfl rfl rfl Zgv rfl (by rw [o72.cells.1]; first | done | rfl) (by rw [o72.cells.1]; simp [o72.cells.2]) (by rw [o72.cells.1]; first | done | rfl) (by rw [o72.cells.1]; first | done | exact Nat.le_refl _) ?_
 refine bgT (sqr 2 rfl ?_)
 refine Zq bk ?_
 refine sp rfl (PE.add rfl rfl (by omega)) rfl (pur 1 rfl ?_)
 exact Ze ⟨⟨(k + 1, hds ++ [h], tq4, mx4), by omega, ⟨by simp [hkl], fun x hx => by rcases List.mem_append.1 hx with hx | hx; exact hkh x hx; obtain rfl := List.mem_singleton.1 hx; exact ⟨hho, hhf⟩⟩, by dsimp only; omega, by assumption⟩, o72.cast (by simp [hrows])⟩ (fun w h => (h.del b71).perm (by first | exact .refl _ | exact List.Perm.cons _ (.refl _)))
 obtain rfl : k = n62 := by omega
 refine Zq bk ?_
 refine Za (Zb (Zb (Zr (Z0 ?_))))
 refine Z9 [0, 0, 0, 1, 11, 31] (.ld 0 (.ld 1 (.ld 2 (.big 3 (.big 4 (.big 5 .done)))))) Zo (by kernel_rfl) ?_
 refine ld rfl rfl (lhA (gtl ⟨x15, x17, l⟩ (.slice ag l.length cg)) Z34 rfl rfl rfl) rfl (ld rfl rfl (lhA (ctl ⟨x52 + x55, x52, hds⟩ o'.fs) Z0N rfl rfl rfl) rfl (ld rfl rfl (lhA (Zd (q)) Z35 rfl (rest := []) (by rw [List.append_nil]; rfl) (by rw [ints_length]; exact hq.len)) rfl ?_))
 refine sto rfl rfl rfl Zeq rfl rfl rfl rfl ?_
 refine bg (fun w hs => ⟨(lhA (Zd (q)) Z35 rfl (rest := []) (by rw [List.append_nil]; rfl) (by rw [ints_length]; exact hq.len)) w hs, (lhA (ctl ⟨x52 + x55, x52, hds⟩ o'.fs) Z0N rfl rfl rfl) w hs, trivial, trivial⟩) ?_
 refine Z02 (l' := ctl ⟨x52 + x55, x52, hds⟩ o'.fs) rfl rfl rfl Z4N rfl rfl (by show (ctl _ o'.fs).all (·.oneCell') = true; simp only [ctl, List.all_cons, List.all_nil, o'.cells.2, Bool.and_true]; rfl) rfl (Nat.le_refl _) ?_
 refine bg (fun w hs => ⟨(lhA (Zd (q)) Z35 rfl (rest := []) (by rw [List.append_nil]; rfl) (by rw [ints_length]; exact hq.len)) w hs, trivial, trivial⟩) ?_
 refine Z48 rfl rfl rfl ZbJ rfl (by rw [ints_length]; exact hq.len) rfl (ZD _) ?_
 refine bgT (Z1 ?_)
 have hco : Crt.ok ⟨x52 + x55, x52, hds⟩ := ⟨by simp only; omega, by simp only; omega, by simp only; omega, fun h hh => (hkh h hh).1⟩
 exact Z7 (vs := [_, _, _]) rfl (.cons (RV.cell rfl (lhA [_, _, _] Z34 rfl rfl rfl)) (.cons (RV.cell rfl (lhA [_, _, _] Z0N rfl rfl rfl)) (.cons (RV.cell rfl (lhA (Zd (q)) Z35 rfl (rest := []) (by rw [List.append_nil]; rfl) (by rw [ints_length]; exact hq.len))) .nil))) rfl ⟨⟨x15, x17, l⟩, ⟨x52 + x55, x52, hds⟩, q, ag, cg, tq3, mx3, o', ⟨hgo, hco, hq, by simp only; omega, by simp only; omega, fun h hh => (hkh h hh).2, by simp only; omega, by simp only; omega, by simp only; omega⟩, hcg, rfl, by omega, by assumption, rfl, rfl⟩ (fun w h => St.sub ((((((h.del b13).del b11).del b9).del b8).del b7).del b6))
theorem Fn.post {P : Program} {f : FuncId} {args : List Value} {H : Z6} {R : Z3} {Q Q' : Value → Z6 → Z3 → Prop} (h : Fn P f args H R Q) (hq : ∀ v H1 R1, Q v H1 R1 → ∃ H2 R2, Q' v H2 R2 ∧ ∀ w, St H1 R1 w → St H2 R2 w) : Fn P f args H R Q' :=
  fun w hs => CallsIn.mono (h w hs) fun e w' ⟨v, H1, R1, q, he, hs'⟩ => by obtain ⟨H2, R2, q2, hst⟩ := hq _ _ _ q; exact ⟨v, H2, R2, q2, he, hst _ hs'⟩
theorem c_Made (l0 : List Int) (a0 : Option Addr) (c0 bk : Nat) (hgl : l0.length ≤ 9223372036854775807) (tq mx : Int) (htq : 0 ≤ tq ∧ tq ≤ 1000) (hmx : 0 ≤ mx ∧ mx ≤ 4294967295) (ng nh : Int) (hng : 0 ≤ ng ∧ ng ≤ 4) (hnh : 0 ≤ nh ∧ nh ≤ 6) (H : Z6) (R : Z3) [hG : MemRows a0 1 (urows l0) R] :
    Fn Tryz.prog 6 [.pointer (some ⟨bk, 0, none⟩), .int .i64 ng, .int .i64 nh] ((bk, cel 96 [.slice a0 l0.length c0, .int .i64 (tq), .int .u32 (mx)]) :: H) R (fun v H' R' => ∃ (g : Gat) (c : Crt) (m : Mix) (ag : Option Addr) (cg : Nat) (ah : Option Addr) (ch : Nat) (tq' mx' : Int), MdOk ng nh g c m ∧ g.grs.length ≤ cg ∧ v = .tuple #[g.v (g.sl ag cg), c.v (c.sl ah ch), .agg (Zd m).toArray] ∧ (tq ≤ tq' ∧ tq' ≤ tq + 200) ∧ (0 ≤ mx' ∧ mx' ≤ 4294967295) ∧ H' = (bk, cel 96 [.slice a0 l0.length c0, .int .i64 (tq'), .int .u32 (mx')]) :: H ∧ R' = RowsA ah 5 (hrows c.hs) :: RowsA ag 5 (grows g.grs) :: R) :=
  Fn.post (ZaW l0 a0 c0 bk hgl tq mx htq hmx ng nh hng hnh H R) (by
    rintro v _ _ ⟨g, c, m, ag, cg, tq', mx', o, h1, h2, rfl, h3, h4, rfl, rfl⟩
    obtain ⟨ah, ch, he, hf⟩ := o.freeze
    exact ⟨_, _, ⟨g, c, m, ag, cg, ah, ch, tq', mx', h1, h2, by rw [he, show (hrows c.hs).length = c.hs.length from List.length_map _]; rfl, h3, h4, rfl, rfl⟩, fun w h => hf (h.perm (List.perm_middle (l₁ := o.G) (a := _)).symm)⟩)
theorem Z89 {ng nh : Int} {g : Gat} {c : Crt} {m : Mix} (h : MdOk ng nh g c m) : Z0w g c = 0 ∧ ZU g c false = 0 ∧ ∃ b, clo (Z3d g.miss c.hs fun _ => true) = some b ∧ Tight b ∧ ∀ m', Mx b m' ↔ (Mxt m' ∧ ∀ x ∈ c.hs, Z5U g.miss x m' = true) := by
  have h1 := gat_ok.2 h.gok
  have h2 := crt_ok.2 h.cok
  have h0 : Z0w g c = 0 := by simp [Z0w, h1, h2]
  have hmi := h.gok.miss
  have hiff : ∀ m', Mx (Z3d g.miss c.hs fun _ => true) m' ↔ (Mxt m' ∧ ∀ x ∈ c.hs, Z5U g.miss x m' = true) := fun m' => by
    rw [ZaH hmi.1 h.cok.hs]
    constructor
    · rintro ⟨h3, h4⟩
      refine ⟨h3, fun x hx => ?_⟩
      obtain ⟨i, hi⟩ := List.getElem?_of_mem hx
      exact h4 i x hi rfl
    · rintro ⟨h3, h4⟩
      exact ⟨h3, fun i x hx _ => h4 x (List.mem_of_getElem? hx)⟩
  cases hb : clo (Z3d g.miss c.hs fun _ => true) with
  | none => exact absurd ((hiff m).2 ⟨h.mix, h.fit⟩) (Z3Y (Z3X _ _ _) hb m)
  | some b =>
    obtain ⟨h3, h4⟩ := Z1A (Z3X _ _ _) hb
    exact ⟨h0, by simp [ZU, h0, hb], b, rfl, h3, fun m' => (h4 m').trans (hiff m')⟩
theorem md_net {ng nh : Int} {g : Gat} {c : Crt} {m : Mix} (h : MdOk ng nh g c m) : netR g c = .tuple #[spv (netP g c).1 (netP g c).2, .int .i64 0] ∧ (0 ≤ (netP g c).1 ∧ (netP g c).1 ≤ c.full - c.empty) ∧ (c.full - c.empty ≤ (netP g c).2 ∧ (netP g c).2 ≤ 2100) := by
  have h1 := h.net
  have h2 := h.gok.err
  refine ⟨by unfold netR; rw [decide_eq_false (show ¬ Z0w g c ≠ 0 by rw [(Z89 h).1]; decide)]; rfl, ?_, ?_⟩ <;> simp only [netP] <;> omega
theorem wgh_at {n w x a p z : Int} (hn : 0 ≤ n) (hw : n ≤ w ∧ w ≤ x) (ha : 0 ≤ a) (hp : a ≤ p ∧ p ≤ z) : n * a / 40 ≤ w * p / 40 ∧ w * p / 40 ≤ x * z / 40 :=
  ⟨Int.ediv_le_ediv (by omega) (Int.mul_le_mul hw.1 hp.1 ha (by omega)), Int.ediv_le_ediv (by omega) (Int.mul_le_mul hw.2 hp.2 (by omega) (by omega))⟩
def ZaE : Crt := ⟨0, 0, []⟩
def Z3D (c : Crt) (h : Hnd) : Crt × Int := bif decide (c.check ≠ 0) then (ZaE, c.check) else bif decide (c.hs.length = 6) then (ZaE, 9) else bif decide (Crt.check { c with hs := c.hs ++ [h] } ≠ 0) then (ZaE, Crt.check { c with hs := c.hs ++ [h] }) else ({ c with hs := c.hs ++ [h] }, 0)
theorem Z2r (l : List Hnd) : (hrows l).flatten.length = 5 * l.length := by
  rw [ZN (sz := 5) (Z0O l), hrows, List.length_map]; omega
theorem Z9z (l : List Hnd) : (hrows l).flatten.all (·.oneCell') = true := by
  rw [List.all_eq_true]
  intro v hv
  obtain ⟨r, hr, hv⟩ := List.mem_flatten.1 hv
  obtain ⟨x, _, rfl⟩ := List.mem_map.1 hr
  simp only [Z12, List.mem_cons, List.not_mem_nil, or_false] at hv
  rcases hv with rfl | rfl | rfl | rfl | rfl <;> rfl
theorem Z0T (n : Nat) : (Z4b n [Value.int .i64 0, .int .i64 0, .int .i64 0, .int .i64 0, .int .i64 0]).length = 5 * n := by
  rw [← Z4D, ZN (sz := 5) (fun q hq => by rw [(List.mem_replicate.1 hq).2]; rfl), List.length_replicate]; omega
theorem Z5S (l : List Hnd) (h : Hnd) : spl (spl (Z4b (l.length + 1) [Value.int .i64 0, .int .i64 0, .int .i64 0, .int .i64 0, .int .i64 0]) 0 (hrows l).flatten) (0 + ((l.length : Nat) : Int).toNat * 5) (Z12 h) = (hrows (l ++ [h])).flatten := by
  have h1 := Z2r l
  have h2 := Z0T (l.length + 1)
  rw [show hrows (l ++ [h]) = hrows l ++ [Z12 h] by simp [hrows], List.flatten_append, List.flatten_singleton]
  unfold spl
  rw [List.take_zero, List.nil_append, Nat.zero_add, Nat.zero_add, Int.toNat_natCast, List.take_append_of_le_length (by omega), List.take_of_length_le (by omega), List.drop_append, List.drop_eq_nil_of_le (show (hrows l).flatten.length ≤ l.length * 5 + (Z12 h).length by rw [h1]; omega), List.nil_append, List.drop_drop, List.drop_eq_nil_of_le (by rw [h1, h2]; show 5 * (l.length + 1) ≤ 5 * l.length + (l.length * 5 + 5 - 5 * l.length); omega), List.append_nil]
theorem Zb7 {b b' : Box} (hb : Tight b') (h : ∀ m, Mx b' m → Mx b m) {k : Nat} (hk : k < 4) : bl b k ≤ bl b' k ∧ bh b' k ≤ bh b k := by
  have hf := hb.fit k hk
  obtain ⟨m1, h1, e1⟩ := hb.had hk (v := bl b' k) ⟨Int.le_refl _, hf.1⟩
  obtain ⟨m2, h2, e2⟩ := hb.had hk (v := bh b' k) ⟨hf.1, Int.le_refl _⟩
  have h3 := (h m1 h1).at_ k hk
  have h4 := (h m2 h2).at_ k hk
  omega
theorem Zbr {nh : Int} {g : Gat} {c : Crt} {m : Mix} (hm : MdOk 4 nh g c m) (hn : nh ≤ 5) {h : Hnd} (hh : h.ok) (hf : Z5U g.miss h m = true) : MdOk 4 6 g { c with hs := c.hs ++ [h] } m := by
  have h1 := hm.cok
  have h2 := hm.more
  refine ⟨hm.gok, ⟨by simp; omega, h1.full, h1.empty, fun x hx => ?_⟩, hm.mix, hm.err, hm.miss, fun x hx => ?_, hm.many, by simp; omega, hm.net⟩
  · rcases List.mem_append.1 hx with hx | hx
    · exact h1.hs x hx
    · obtain rfl := List.mem_singleton.1 hx; exact hh
  · rcases List.mem_append.1 hx with hx | hx
    · exact hm.fit x hx
    · obtain rfl := List.mem_singleton.1 hx; exact hf
theorem c_Take (c : Crt) (ah : Option Addr) (ch : Nat) (hlh : c.hs.length ≤ 9223372036854775807) (h : Hnd) (H : Z6) (R : Z3) [hA : MemRows ah 5 (hrows c.hs) R] :
    Fn Tryz.prog 7 [c.v (c.sl ah ch), .agg (Z12 h).toArray] H R (fun v H' R' => ∃ a cd, (Z3D c h).1.hs.length ≤ cd ∧ v = .tuple #[(Z3D c h).1.v ((Z3D c h).1.sl a cd), .int .i64 (Z3D c h).2] ∧ H' = H ∧ R' = RowsA a 5 (hrows (Z3D c h).1.hs) :: R) := by
 refine Z8 Tryz.func7 rfl Tryz.ntmps7 rfl ?_
 refine sqt 4 rfl (bx rfl rfl rfl (fun b2 => bx rfl rfl rfl (fun b3 => alc rfl Z3u rfl (fun b4 => pur 1 rfl (Z0 (sqt 3 rfl (spL rfl rfl (lhA [_, _, _] Z0N rfl rfl rfl) rfl ?_)))))))
 refine clV rfl Z9d rfl rfl (Z0F c ah ch hlh _ _) ?_
 refine pur 1 rfl (sqt 2 rfl (pur 2 rfl ?_))
 refine Z2 rfl ?_ ?_ <;> intro hc0
 have e : Z3D c h = (ZaE, c.check) := by unfold Z3D; rw [dT (by simpa using hc0)]; rfl
 refine sqt 4 rfl (sp rfl (PE.build (out := [_, _, _]) Z9o Z3u rfl rfl) rfl (pur 1 rfl ?_))
 refine sto rfl rfl rfl Z4N rfl rfl rfl rfl ?_
 refine pur 1 rfl (Z1 ?_)
 refine Sy.heap (fun w h9 => St.also h9 (f := RowsA none 5 []) (fun w9 _ => fun i row hi => by simp at hi)) ?_
 rw [e]
 exact Z7 (vs := [_, _]) rfl (.cons (RV.cell rfl (lhA [_, _, _] Z0N rfl rfl rfl)) (.cons (RV.tmp rfl) .nil)) rfl ⟨none, 0, Nat.le_refl _, rfl, rfl, (rfl : RowsA none 5 [] :: R = _)⟩ (fun w h => St.sub (((h.del b4).del b3).del b2))
 have h0 : c.check = 0 := by simpa using hc0
 have hco := crt_ok.1 h0
 have hmn := hco.many
 refine Z5 (Z0 (sqt 4 rfl (sp rfl (PE.fA Z06 rfl) rfl (spL rfl rfl (lh Z49 rfl rfl) rfl (sp rfl (PE.lenSl Z55 rfl) rfl (pur 1 rfl ?_))))))
 refine Z2 rfl ?_ ?_ <;> intro hc1 <;> try simp only [cS] at hc1
 have e : Z3D c h = (ZaE, 9) := by unfold Z3D; rw [dF (show ¬ c.check ≠ 0 by omega), dT (show c.hs.length = 6 by omega)]; rfl
 refine sqt 3 rfl (sp rfl (PE.build (out := [_, _, _]) Z9o Z3u rfl rfl) rfl ?_)
 refine sto rfl rfl rfl Z4N rfl rfl rfl rfl ?_
 refine pur 1 rfl (Z1 ?_)
 refine Sy.heap (fun w h9 => St.also h9 (f := RowsA none 5 []) (fun w9 _ => fun i row hi => by simp at hi)) ?_
 rw [e]
 exact Z7 (vs := [_, _]) rfl (.cons (RV.cell rfl (lhA [_, _, _] Z0N rfl rfl rfl)) (.cons (RV.tmp rfl) .nil)) rfl ⟨none, 0, Nat.le_refl _, rfl, rfl, (rfl : RowsA none 5 [] :: R = _)⟩ (fun w h => St.sub (((h.del b4).del b3).del b2))
 refine Z5 (Z0 ?_)
 refine Z9 [0, 1, 0, 4, 0, 16, 48, 112, 240, 511, 0, 2047] (.tk 0 (.ld 1 (.tk 2 (.ld 3 (.tk 4 (.ld 5 (.tk 6 (.tk 7 (.any (.alt 8 (.tk 9 (.big 10 (.big 11 .done))) (.alt 10 (.big 8 (.tk 9 (.big 11 .done))) .stop))))))))))) Zo (by kernel_rfl) ?_
 refine tk rfl (PE.fA Z8g rfl) rfl (ld rfl rfl (lh sc3 rfl rfl) rfl (tk rfl (PE.fA Z7u rfl) rfl (ld rfl rfl (lh sc3 rfl rfl) rfl (tk rfl (PE.fA Z06 rfl) rfl (ld rfl rfl (lh Z49 rfl rfl) rfl (tk rfl (PE.lenSl Z55 rfl) rfl (tk rfl (PE.add rfl rfl (by omega)) rfl ?_)))))))
 refine ZH ?_ ?_
 rw [show ((c.hs.length : Int) + 1) = ((c.hs.length + 1 : Nat) : Int) from by omega]
 refine mkS rfl ZfV ZaT rfl rfl (Nat.le_refl _) ⟨by omega, by omega⟩ rfl (fun b28 => ?_)
 refine bg (fun w hs => ⟨trivial, (lh sc3 rfl rfl) w hs, (lh sc3 rfl rfl) w hs, trivial⟩) ?_
 refine tk rfl (PE.build (out := [.int .i64 c.full, .int .i64 c.empty, .slice (some ⟨b28, 0, none⟩) (c.hs.length + 1) (c.hs.length + 1)]) Z9o Z3u rfl rfl) rfl (alc rfl Z3u rfl (fun b7 => ?_))
 refine bg (fun w hs => ⟨(lh sc3 rfl rfl) w hs, (lh sc3 rfl rfl) w hs, trivial⟩) ?_
 refine sto rfl rfl rfl Z4N rfl rfl rfl rfl ?_
 refine bgT (sqt 5 rfl (sp rfl (PE.fA Z06 rfl) rfl (spL rfl rfl (lh Z49 rfl rfl) rfl (sp rfl (PE.fA Z06 rfl) rfl (spL rfl rfl (lh Z49 rfl rfl) rfl ?_)))))
 refine Zf5 (rows := hrows c.hs) rfl Zg4 rfl (by rw [show (hrows c.hs).length = c.hs.length from List.length_map _]; rfl) (Z0O _) (by rw [show (hrows c.hs).length = c.hs.length from List.length_map _]; omega) (Z9z _) (by rw [Z2r, Z0T]; omega) rfl ?_
 refine sqt 8 rfl (sp rfl (PE.fA Z06 rfl) rfl (spL rfl rfl (lh Z49 rfl rfl) rfl (sp rfl (PE.fA Z06 rfl) rfl (spL rfl rfl (lh Z49 rfl rfl) rfl (sp rfl (PE.lenSl Z55 rfl) rfl (spL rfl rfl (lhA [_, _, _, _, _] Z8m rfl rfl rfl) rfl (sp rfl (PE.indexAddr Zep rfl rfl (by omega) (by omega)) rfl ?_)))))))
 refine Z02 (l' := (hrows (c.hs ++ [h])).flatten) rfl rfl rfl ZbL rfl rfl rfl (Z5S _ _) (by unfold spl; simp only [List.length_append, List.length_take, List.length_drop, Z0T, Z2r]; show 0 + ((c.hs.length : Nat) : Int).toNat * 5 + 5 ≤ _; omega) ?_
 refine Z0 (sqt 3 rfl ?_)
 refine Sy.heap (fun w h0 => St.rows (sz := 5) (rows := hrows (c.hs ++ [h])) (rest := []) (by rw [List.append_nil]; exact h0.pull b28) (Z0O _)) ?_
 rw [show c.hs.length + 1 = (c.hs ++ [h]).length from by simp]
 obtain ⟨d, hd⟩ : ∃ d : Crt, d = { c with hs := c.hs ++ [h] } := ⟨_, rfl⟩
 have hdh : c.hs ++ [h] = d.hs := by rw [hd]
 rw [hdh, show c.full = d.full from by rw [hd], show c.empty = d.empty from by rw [hd]]
 refine spL rfl rfl (lhA (ctl d (d.sl (some ⟨b28, 0, none⟩) d.hs.length)) Z0N rfl rfl rfl) rfl ?_
 refine clV rfl Z9d rfl rfl (Z0F d (some ⟨b28, 0, none⟩) d.hs.length (by rw [← hdh]; simp; omega) _ _) ?_
 refine pur 1 rfl (sqt 2 rfl (pur 2 rfl ?_))
 refine Z2 rfl ?_ ?_ <;> intro hc2
 have e : Z3D c h = (ZaE, d.check) := by unfold Z3D; rw [dF (show ¬ c.check ≠ 0 by omega), dF (show ¬ c.hs.length = 6 by omega), ← hd, dT (by simpa using hc2)]; rfl
 refine sqt 4 rfl (sp rfl (PE.build (out := [_, _, _]) Z9o Z3u rfl rfl) rfl (pur 1 rfl ?_))
 refine sto rfl rfl rfl Z4N rfl rfl rfl rfl ?_
 refine pur 1 rfl (Z1 ?_)
 refine Sy.heap (fun w h9 => St.also h9.ftail (f := RowsA none 5 []) (fun w9 _ => fun i row hi => by simp at hi)) ?_
 rw [e]
 exact Z7 (vs := [_, _]) rfl (.cons (RV.cell rfl (lhA [_, _, _] Z0N rfl rfl rfl)) (.cons (RV.tmp rfl) .nil)) rfl ⟨none, 0, Nat.le_refl _, rfl, rfl, (rfl : RowsA none 5 [] :: R = _)⟩ (fun w h => St.sub ((((h.del b7).del b4).del b3).del b2))
 have e : Z3D c h = (d, 0) := by unfold Z3D; rw [dF (show ¬ c.check ≠ 0 by omega), dF (show ¬ c.hs.length = 6 by omega), ← hd, dF (by simpa using hc2)]; rfl
 refine Z5 (sqt 3 rfl (spL rfl rfl (lhA (ctl d (d.sl (some ⟨b28, 0, none⟩) d.hs.length)) Z0N rfl rfl rfl) rfl ?_))
 refine sto rfl rfl rfl Z4N rfl rfl rfl rfl ?_
 refine pur 1 rfl (Z1 ?_)
 rw [e]
 exact Z7 (vs := [_, _]) rfl (.cons (RV.cell rfl (lhA [_, _, _] Z0N rfl rfl rfl)) (.cons (RV.tmp rfl) .nil)) rfl ⟨some ⟨b28, 0, none⟩, d.hs.length, Nat.le_refl _, rfl, rfl, (rfl : RowsA (some ⟨b28, 0, none⟩) 5 (hrows d.hs) :: R = _)⟩ (fun w h => St.sub ((((h.del b7).del b4).del b3).del b2))
 refine ZH ?_ ?_
 refine alc rfl Z3u rfl (fun b7 => ?_)
 refine bg (fun w hs => ⟨(lh Z49 rfl rfl) w hs, (lh sc3 rfl rfl) w hs, (lh sc3 rfl rfl) w hs, trivial⟩) ?_
 rw [show ((c.hs.length : Int) + 1) = ((c.hs.length + 1 : Nat) : Int) from by omega]
 refine mkS rfl ZfV ZaT rfl rfl (Nat.le_refl _) ⟨by omega, by omega⟩ rfl (fun b28 => ?_)
 refine bg (fun w hs => ⟨trivial, (lh sc3 rfl rfl) w hs, (lh sc3 rfl rfl) w hs, trivial⟩) ?_
 refine tk rfl (PE.build (out := [.int .i64 c.full, .int .i64 c.empty, .slice (some ⟨b28, 0, none⟩) (c.hs.length + 1) (c.hs.length + 1)]) Z9o Z3u rfl rfl) rfl ?_
 refine sto rfl rfl rfl Z4N rfl rfl rfl rfl ?_
 refine bgT (sqt 5 rfl (sp rfl (PE.fA Z06 rfl) rfl (spL rfl rfl (lh Z49 rfl rfl) rfl (sp rfl (PE.fA Z06 rfl) rfl (spL rfl rfl (lh Z49 rfl rfl) rfl ?_)))))
 refine Zf5 (rows := hrows c.hs) rfl Zg4 rfl (by rw [show (hrows c.hs).length = c.hs.length from List.length_map _]; rfl) (Z0O _) (by rw [show (hrows c.hs).length = c.hs.length from List.length_map _]; omega) (Z9z _) (by rw [Z2r, Z0T]; omega) rfl ?_
 refine sqt 8 rfl (sp rfl (PE.fA Z06 rfl) rfl (spL rfl rfl (lh Z49 rfl rfl) rfl (sp rfl (PE.fA Z06 rfl) rfl (spL rfl rfl (lh Z49 rfl rfl) rfl (sp rfl (PE.lenSl Z55 rfl) rfl (spL rfl rfl (lhA [_, _, _, _, _] Z8m rfl rfl rfl) rfl (sp rfl (PE.indexAddr Zep rfl rfl (by omega) (by omega)) rfl ?_)))))))
 refine Z02 (l' := (hrows (c.hs ++ [h])).flatten) rfl rfl rfl ZbL rfl rfl rfl (Z5S _ _) (by unfold spl; simp only [List.length_append, List.length_take, List.length_drop, Z0T, Z2r]; show 0 + ((c.hs.length : Nat) : Int).toNat * 5 + 5 ≤ _; omega) ?_
 refine Z0 (sqt 3 rfl ?_)
 refine Sy.heap (fun w h0 => St.rows (sz := 5) (rows := hrows (c.hs ++ [h])) (rest := []) (by rw [List.append_nil]; exact h0.pull b28) (Z0O _)) ?_
 rw [show c.hs.length + 1 = (c.hs ++ [h]).length from by simp]
 obtain ⟨d, hd⟩ : ∃ d : Crt, d = { c with hs := c.hs ++ [h] } := ⟨_, rfl⟩
 have hdh : c.hs ++ [h] = d.hs := by rw [hd]
 rw [hdh, show c.full = d.full from by rw [hd], show c.empty = d.empty from by rw [hd]]
 refine spL rfl rfl (lhA (ctl d (d.sl (some ⟨b28, 0, none⟩) d.hs.length)) Z0N rfl rfl rfl) rfl ?_
 refine clV rfl Z9d rfl rfl (Z0F d (some ⟨b28, 0, none⟩) d.hs.length (by rw [← hdh]; simp; omega) _ _) ?_
 refine pur 1 rfl (sqt 2 rfl (pur 2 rfl ?_))
 refine Z2 rfl ?_ ?_ <;> intro hc2
 have e : Z3D c h = (ZaE, d.check) := by unfold Z3D; rw [dF (show ¬ c.check ≠ 0 by omega), dF (show ¬ c.hs.length = 6 by omega), ← hd, dT (by simpa using hc2)]; rfl
 refine sqt 4 rfl (sp rfl (PE.build (out := [_, _, _]) Z9o Z3u rfl rfl) rfl (pur 1 rfl ?_))
 refine sto rfl rfl rfl Z4N rfl rfl rfl rfl ?_
 refine pur 1 rfl (Z1 ?_)
 refine Sy.heap (fun w h9 => St.also h9.ftail (f := RowsA none 5 []) (fun w9 _ => fun i row hi => by simp at hi)) ?_
 rw [e]
 exact Z7 (vs := [_, _]) rfl (.cons (RV.cell rfl (lhA [_, _, _] Z0N rfl rfl rfl)) (.cons (RV.tmp rfl) .nil)) rfl ⟨none, 0, Nat.le_refl _, rfl, rfl, (rfl : RowsA none 5 [] :: R = _)⟩ (fun w h => St.sub ((((h.del b7).del b4).del b3).del b2))
 have e : Z3D c h = (d, 0) := by unfold Z3D; rw [dF (show ¬ c.check ≠ 0 by omega), dF (show ¬ c.hs.length = 6 by omega), ← hd, dF (by simpa using hc2)]; rfl
 refine Z5 (sqt 3 rfl (spL rfl rfl (lhA (ctl d (d.sl (some ⟨b28, 0, none⟩) d.hs.length)) Z0N rfl rfl rfl) rfl ?_))
 refine sto rfl rfl rfl Z4N rfl rfl rfl rfl ?_
 refine pur 1 rfl (Z1 ?_)
 rw [e]
 exact Z7 (vs := [_, _]) rfl (.cons (RV.cell rfl (lhA [_, _, _] Z0N rfl rfl rfl)) (.cons (RV.tmp rfl) .nil)) rfl ⟨some ⟨b28, 0, none⟩, d.hs.length, Nat.le_refl _, rfl, rfl, (rfl : RowsA (some ⟨b28, 0, none⟩) 5 (hrows d.hs) :: R = _)⟩ (fun w h => St.sub ((((h.del b7).del b4).del b3).del b2))
 exact ZZ
structure BndP (g : Gat) (c : Crt) (m : Mix) (b : Box) : Prop where
  told : ZU g c false = 0
  bnd : ZbQ g c = b
  tight : Tight b
  can : Zc5 g c = Zbv g.grs b
  mx : ∀ m', Mx b m' ↔ (Mxt m' ∧ ∀ x ∈ c.hs, Z5U g.miss x m' = true)
  at_ : ∀ k < 4, 0 ≤ bl b k ∧ bl b k ≤ nn m k ∧ nn m k ≤ bh b k ∧ bh b k ≤ 40
  wgt : ∀ k < 4, Z90 g c (k : Nat) = .tuple #[spv ((netP g c).1 * bl b k / 40) ((netP g c).2 * bh b k / 40), .int .i64 0]
theorem md_bnd {ng nh : Int} {g : Gat} {c : Crt} {m : Mix} (h : MdOk ng nh g c m) : ∃ b, BndP g c m b := by
  obtain ⟨h0, h1, b, hb, hbt, hmx⟩ := Z89 h
  have hm := (hmx m).2 ⟨h.mix, h.fit⟩
  refine ⟨b, h1, Z3n h1 hb, hbt, ZaK h1 hb, hmx, fun k hk => ?_, fun k hk => ?_⟩
  · have h2 := hm.at_ k hk
    have h3 := hbt.ok.at_ k hk
    omega
  · have hi : (!(inb (k : Nat) 0 3)) = false := by simp [inb]; omega
    unfold Z90
    rw [hi, decide_eq_false (show ¬ ZU g c false ≠ 0 by omega), Z3n h1 hb]; rfl
theorem tak_md {nh : Int} {g : Gat} {c : Crt} {m : Mix} (hm : MdOk 4 nh g c m) (hn : nh ≤ 5) {h : Hnd} (hh : h.ok) (hf : Z5U g.miss h m = true) : ∃ d : Crt, Z3D c h = (d, 0) ∧ MdOk 4 6 g d m ∧ d.hs = c.hs ++ [h] ∧ d.full = c.full ∧ d.empty = c.empty := by
  have hd := Zbr hm hn hh hf
  have h1 := crt_ok.2 hm.cok
  have h2 := crt_ok.2 hd.cok
  have h3 := hm.more
  exact ⟨_, by unfold Z3D; rw [decide_eq_false (show ¬ c.check ≠ 0 by omega), decide_eq_false (show ¬ c.hs.length = 6 by omega), decide_eq_false (show ¬ Crt.check { c with hs := c.hs ++ [h] } ≠ 0 by omega)]; rfl, hd, rfl, rfl, rfl⟩
structure MoreP (g : Gat) (c d : Crt) (b b' : Box) (l l' : List Int) : Prop where
  at_ : ∀ k < 4, bl b k ≤ bl b' k ∧ bh b' k ≤ bh b k
  can : Zc5 g c = l
  can' : Zc5 g d = l'
  sub : ∀ x ∈ l', x ∈ l
  few : l.length ≤ g.grs.length + 1
  few' : l'.length ≤ g.grs.length + 1
  net : netP g d = netP g c
theorem md_more {nh nh' : Int} {g : Gat} {c d : Crt} {m : Mix} {b b' : Box} {h : Hnd} (hb : BndP g c m b) (hb' : BndP g d m b') (hd : d.hs = c.hs ++ [h]) (hf : d.full = c.full) (he : d.empty = c.empty) : ∃ l l', MoreP g c d b b' l l' := by
  have hsub : ∀ m', Mx b' m' → Mx b m' := fun m' h1 => by
    obtain ⟨h2, h3⟩ := (hb'.mx m').1 h1
    exact (hb.mx m').2 ⟨h2, fun x hx => h3 x (by rw [hd]; simp [hx])⟩
  refine ⟨_, _, fun k hk => Zb7 hb'.tight hsub hk, hb.can, hb'.can, fun x hx => ?_, Z6Q _ _, Z6Q _ _, by unfold netP; rw [hf, he]⟩
  obtain ⟨m', h1, h2⟩ := (Z6J hb'.tight.ok).1 hx
  exact (Z6J hb.tight.ok).2 ⟨m', hsub m' h1, h2⟩
end Go.Proofs.YtjoajfdnlomapaaGreat.Gt
namespace Go.Proofs.YtjoajfdnlomapaaGreat.Lo
set_option linter.unusedSimpArgs false
set_option linter.unusedVariables false
structure Ln where
  who : Int
  year : Int
  bu : Int
  deriving DecidableEq
structure Pm where
  fr : Int
  to : Int
  bu : Int
  deriving DecidableEq
structure Ldg where
  folk : Int
  years : Int
  bad : List Int
  forg : List Int
  loans : List Ln
  pays : List Ln
  proms : List Pm
@[reducible] def inL (n lo hi : Int) : Bool := decide (lo ≤ n) && decide (n ≤ hi)
def Ldg.farmer (l : Ldg) (n : Int) : Bool := inL n 1 (l.folk - 1)
def Ldg.person (l : Ldg) (n : Int) : Bool := inL n 0 (l.folk - 1)
def Ldg.year (l : Ldg) (n : Int) : Bool := inL n 0 (l.years - 1)
def Ldg.loan (l : Ldg) (n : Int) : Bool := inL n 0 ((l.loans.length : Int) - 1)
def buL (n : Int) : Bool := inL n 1 500
def Z27 : List Int → Bool
  | x :: y :: l => decide (x < y) && Z27 (y :: l)
  | _ => true
def Z4M : List Ln → Bool
  | x :: y :: l => decide (x.year ≤ y.year) && Z4M (y :: l)
  | _ => true
def Ldg.check (l : Ldg) : Int :=
  bif !(inL l.folk 1 7) || !(inL l.years 1 9) || decide ((10 : Int) < (l.loans.length : Int)) || decide ((12 : Int) < (l.pays.length : Int)) || decide ((12 : Int) < (l.proms.length : Int)) then 2
  else bif !(l.loans.all fun x => buL x.bu) || !(l.pays.all fun x => buL x.bu) || !(l.proms.all fun x => buL x.bu) then 3
  else bif !(l.bad.all l.year) || !(l.forg.all l.loan) then 1
  else bif !(l.loans.all fun x => l.farmer x.who && l.year x.year) || !(l.pays.all fun x => l.farmer x.who && l.year x.year) then 1
  else bif !(l.proms.all fun x => l.person x.fr && l.person x.to) then 1
  else bif !(l.proms.all fun x => decide (x.fr ≠ x.to)) then 5
  else bif !(Z27 l.bad) || !(Z27 l.forg) || !(Z4M l.pays) then 4 else 0
structure Ldg.ok (l : Ldg) : Prop where
  folk : 1 ≤ l.folk ∧ l.folk ≤ 7
  years : 1 ≤ l.years ∧ l.years ≤ 9
  nl : l.loans.length ≤ 10
  np : l.pays.length ≤ 12
  nq : l.proms.length ≤ 12
  loans : ∀ x ∈ l.loans, (1 ≤ x.bu ∧ x.bu ≤ 500) ∧ (1 ≤ x.who ∧ x.who ≤ l.folk - 1) ∧ 0 ≤ x.year ∧ x.year ≤ l.years - 1
  pays : ∀ x ∈ l.pays, (1 ≤ x.bu ∧ x.bu ≤ 500) ∧ (1 ≤ x.who ∧ x.who ≤ l.folk - 1) ∧ 0 ≤ x.year ∧ x.year ≤ l.years - 1
  proms : ∀ x ∈ l.proms, (1 ≤ x.bu ∧ x.bu ≤ 500) ∧ (0 ≤ x.fr ∧ x.fr ≤ l.folk - 1) ∧ (0 ≤ x.to ∧ x.to ≤ l.folk - 1) ∧ x.fr ≠ x.to
  bad : ∀ y ∈ l.bad, 0 ≤ y ∧ y ≤ l.years - 1
  forg : ∀ y ∈ l.forg, 0 ≤ y ∧ y ≤ (l.loans.length : Int) - 1
  rbad : Z27 l.bad = true
  rforg : Z27 l.forg = true
  srt : Z4M l.pays = true
theorem ZdP {l : Ldg} (h : l.check = 0) : l.ok := by
  unfold Ldg.check at h
  cases h1 : (!(inL l.folk 1 7) || !(inL l.years 1 9) || decide ((10 : Int) < (l.loans.length : Int)) || decide ((12 : Int) < (l.pays.length : Int)) || decide ((12 : Int) < (l.proms.length : Int))) <;> rw [h1] at h
  rotate_left
  · cases h
  cases h2 : (!(l.loans.all fun x => buL x.bu) || !(l.pays.all fun x => buL x.bu) || !(l.proms.all fun x => buL x.bu)) <;> rw [h2] at h
  rotate_left
  · cases h
  cases h3 : (!(l.bad.all l.year) || !(l.forg.all l.loan)) <;> rw [h3] at h
  rotate_left
  · cases h
  cases h4 : (!(l.loans.all fun x => l.farmer x.who && l.year x.year) || !(l.pays.all fun x => l.farmer x.who && l.year x.year)) <;> rw [h4] at h
  rotate_left
  · cases h
  cases h5 : !(l.proms.all fun x => l.person x.fr && l.person x.to) <;> rw [h5] at h
  rotate_left
  · cases h
  cases h6 : !(l.proms.all fun x => decide (x.fr ≠ x.to)) <;> rw [h6] at h
  rotate_left
  · cases h
  cases h7 : (!(Z27 l.bad) || !(Z27 l.forg) || !(Z4M l.pays)) <;> rw [h7] at h
  rotate_left
  · cases h
  simp only [Bool.or_eq_false_iff, Bool.not_eq_false', decide_eq_false_iff_not, List.all_eq_true, Bool.and_eq_true, inL, buL, Ldg.farmer, Ldg.person, Ldg.year, Ldg.loan, decide_eq_true_eq] at h1 h2 h3 h4 h5 h6 h7
  exact ⟨h1.1.1.1.1, h1.1.1.1.2, by omega, by omega, by omega, fun x hx => ⟨h2.1.1 x hx, (h4.1 x hx).1, (h4.1 x hx).2⟩, fun x hx => ⟨h2.1.2 x hx, (h4.2 x hx).1, (h4.2 x hx).2⟩, fun x hx => ⟨h2.2 x hx, (h5 x hx).1, (h5 x hx).2, h6 x hx⟩, h3.1, h3.2, h7.1.1, h7.1.2, h7.2⟩
theorem Z1u {l : Ldg} (h : l.ok) : l.check = 0 := by
  have h1 : (!(inL l.folk 1 7) || !(inL l.years 1 9) || decide ((10 : Int) < (l.loans.length : Int)) || decide ((12 : Int) < (l.pays.length : Int)) || decide ((12 : Int) < (l.proms.length : Int))) = false := by
    have := h.folk; have := h.years; have := h.nl; have := h.np; have := h.nq
    simp only [Bool.or_eq_false_iff, Bool.not_eq_false', decide_eq_false_iff_not, Bool.and_eq_true, inL, decide_eq_true_eq]; omega
  have h2 : (!(l.loans.all fun x => buL x.bu) || !(l.pays.all fun x => buL x.bu) || !(l.proms.all fun x => buL x.bu)) = false := by
    simp only [Bool.or_eq_false_iff, Bool.not_eq_false', List.all_eq_true, Bool.and_eq_true, inL, buL, decide_eq_true_eq]
    exact ⟨⟨fun x hx => (h.loans x hx).1, fun x hx => (h.pays x hx).1⟩, fun x hx => (h.proms x hx).1⟩
  have h3 : (!(l.bad.all l.year) || !(l.forg.all l.loan)) = false := by
    simp only [Bool.or_eq_false_iff, Bool.not_eq_false', List.all_eq_true, Bool.and_eq_true, inL, Ldg.year, Ldg.loan, decide_eq_true_eq]
    exact ⟨h.bad, h.forg⟩
  have h4 : (!(l.loans.all fun x => l.farmer x.who && l.year x.year) || !(l.pays.all fun x => l.farmer x.who && l.year x.year)) = false := by
    simp only [Bool.or_eq_false_iff, Bool.not_eq_false', List.all_eq_true, Bool.and_eq_true, inL, Ldg.farmer, Ldg.year, decide_eq_true_eq]
    exact ⟨fun x hx => (h.loans x hx).2, fun x hx => (h.pays x hx).2⟩
  have h5 : (!(l.proms.all fun x => l.person x.fr && l.person x.to)) = false := by
    simp only [Bool.not_eq_false', List.all_eq_true, Bool.and_eq_true, inL, Ldg.person, decide_eq_true_eq]
    exact fun x hx => ⟨(h.proms x hx).2.1, (h.proms x hx).2.2.1⟩
  have h6 : (!(l.proms.all fun x => decide (x.fr ≠ x.to))) = false := by
    simp only [Bool.not_eq_false', List.all_eq_true, decide_eq_true_eq]
    exact fun x hx => (h.proms x hx).2.2.2
  have h7 : (!(Z27 l.bad) || !(Z27 l.forg) || !(Z4M l.pays)) = false := by rw [h.rbad, h.rforg, h.srt]; rfl
  unfold Ldg.check
  rw [h1, h2, h3, h4, h5, h6, h7]; rfl
theorem Z6Z : ∀ (l : List Int) (a : Int), Z27 (a :: l) = true → (∀ y ∈ l, a + 1 ≤ y)
  | [], _, _, _, h => by cases h
  | b :: l, a, h, y, hy => by
    simp only [Z27, Bool.and_eq_true, decide_eq_true_eq] at h
    rcases List.mem_cons.1 hy with rfl | hy
    · omega
    · have := Z6Z l b h.2 y hy; omega
theorem Z5i : ∀ (l : List Int) (lo hi : Int), Z27 l = true → (∀ y ∈ l, lo ≤ y ∧ y ≤ hi) → l ≠ [] → (l.length : Int) ≤ hi - lo + 1
  | [], _, _, _, _, h => absurd rfl h
  | [a], lo, hi, _, hb, _ => by have := hb a (by simp); simp; omega
  | a :: b :: l, lo, hi, h, hb, _ => by
    have h1 := hb a (by simp)
    have hr : Z27 (b :: l) = true := by simp only [Z27, Bool.and_eq_true] at h; exact h.2
    have ih := Z5i (b :: l) (lo + 1) hi hr (fun y hy => by
      have h2 := hb y (by simp [List.mem_cons.1 hy])
      have h3 := Z6Z (b :: l) a h y hy
      omega) (by simp)
    simp only [List.length_cons] at ih ⊢
    omega
theorem Z6K {l : Ldg} (h : l.ok) : l.forg.length ≤ 1000000 := by
  by_cases h0 : l.forg = []
  · rw [h0]; simp
  · have := Z5i l.forg 0 _ h.rforg h.forg h0
    have := h.nl
    omega
def Ldg.asked (l : Ldg) (i : Nat) : Int := bif l.forg.contains (i : Int) then 0 else match l.loans[i]? with
  | some x => x.bu + (x.bu + 9) / 10
  | none => 0
theorem Z2p {l : Ldg} (h : l.ok) (i : Nat) : 0 ≤ l.asked i ∧ l.asked i ≤ 550 := by
  unfold Ldg.asked
  cases l.forg.contains (i : Int) with
  | true => simp
  | false => cases hx : l.loans[i]? with
    | none => simp
    | some x =>
      have := (h.loans x (List.mem_of_getElem? hx)).1
      simp only [cond_false]; omega
def yrL (l : Ldg) (p : Nat → Bool) (y : Nat) : List Nat := (List.range l.loans.length).filter fun i => (match l.loans[i]? with | some x => decide (x.year = y) | none => false) && p i
def Z19 (l : Ldg) (p : Nat → Bool) : List Nat := (List.range l.years.toNat).flatMap (yrL l p)
theorem Z1v {l : Ldg} (h : l.ok) {p : Nat → Bool} {i : Nat} : i ∈ Z19 l p ↔ i < l.loans.length ∧ p i = true := by
  unfold Z19 yrL
  simp only [List.mem_flatMap, List.mem_range, List.mem_filter, Bool.and_eq_true]
  constructor
  · rintro ⟨y, _, hi, _, hp⟩; exact ⟨hi, hp⟩
  · rintro ⟨hi, hp⟩
    obtain ⟨x, hx⟩ : ∃ x, l.loans[i]? = some x := ⟨_, List.getElem?_eq_getElem hi⟩
    have hb := (h.loans x (List.mem_of_getElem? hx)).2.2
    refine ⟨x.year.toNat, by omega, hi, ?_, hp⟩
    rw [hx]; simp only [decide_eq_true_eq]; omega
theorem Z5K {f : Nat → List Nat} (hf : ∀ y, (f y).Nodup) (hd : ∀ a b i, a ≠ b → i ∈ f a → i ∉ f b) : ∀ ys : List Nat, ys.Nodup → (ys.flatMap f).Nodup
  | [], _ => by simp
  | y :: ys, h => by
    rw [List.nodup_cons] at h
    rw [List.flatMap_cons]
    refine List.nodup_append.2 ⟨hf y, Z5K hf hd ys h.2, fun a ha b hb e => ?_⟩
    subst e
    obtain ⟨z, hz, h2⟩ := List.mem_flatMap.1 hb
    exact hd y z a (fun e => h.1 (e ▸ hz)) ha h2
theorem Z38 (l : Ldg) (p : Nat → Bool) : (Z19 l p).Nodup := by
  refine Z5K (fun y => List.Nodup.sublist List.filter_sublist List.nodup_range) (fun a b i hab ha hb => ?_) _ List.nodup_range
  unfold yrL at ha hb
  simp only [List.mem_filter, Bool.and_eq_true] at ha hb
  cases hx : l.loans[i]? with
  | none => rw [hx] at ha; exact absurd ha.2.1 (by simp)
  | some x =>
    rw [hx] at ha hb
    simp only [decide_eq_true_eq] at ha hb
    exact hab (by have h1 := ha.2.1; have h2 := hb.2.1; omega)
def na0 (l : List Int) (i : Nat) : Int := l.getD i 0
def bkI (l : Ldg) (s : List Int × Int) (i : Nat) : List Int × Int := (s.1.set i (na0 s.1 i + min s.2 (l.asked i - na0 s.1 i)), s.2 - min s.2 (l.asked i - na0 s.1 i))
def bkP (l : Ldg) (bk : List Int) (p : Ln) : List Int × Int := (Z19 l fun i => match l.loans[i]? with | some x => decide (x.who = p.who) && decide (x.year ≤ p.year) | none => false).foldl (bkI l) (bk, p.bu)
def bkA (l : Ldg) (bk : List Int) (ps : List Ln) : List Int := ps.foldl (fun bk p => (bkP l bk p).1) bk
def lfO (l : Ldg) (bk : List Int) (o : List Nat) : Int := (o.map fun i => l.asked i - na0 bk i).sum
structure BkOk (l : Ldg) (bk : List Int) : Prop where
  len : bk.length = 10
  bd : ∀ i, 0 ≤ na0 bk i ∧ na0 bk i ≤ l.asked i
theorem Z1K {bk : List Int} {i j : Nat} {v : Int} (hi : i < bk.length) : na0 (bk.set i v) j = bif decide (i = j) then v else na0 bk j := by
  unfold na0
  rw [List.getD_eq_getElem?_getD, List.getElem?_set, List.getD_eq_getElem?_getD]
  by_cases h : i = j
  · subst h; simp [hi]
  · simp [h]
theorem Z9R {l : Ldg} {s : List Int × Int} (h : BkOk l s.1) (hs : 0 ≤ s.2) {i : Nat} (hi : i < 10) : BkOk l (bkI l s i).1 ∧ 0 ≤ (bkI l s i).2 := by
  have hb := h.bd i
  refine ⟨⟨by simp [bkI, h.len], fun j => ?_⟩, by simp only [bkI]; omega⟩
  simp only [bkI]
  rw [Z1K (by rw [h.len]; exact hi)]
  by_cases e : i = j
  · subst e; simp only [decide_true, cond_true]; omega
  · simp only [e, decide_false, cond_false]; exact h.bd j
theorem Z8f {l : Ldg} {bk : List Int} {i : Nat} {v : Int} (hi : i < bk.length) : ∀ {o : List Nat}, i ∉ o → lfO l (bk.set i v) o = lfO l bk o
  | [], _ => rfl
  | j :: o, h => by
    simp only [List.mem_cons, not_or] at h
    unfold lfO
    rw [List.map_cons, List.map_cons, List.sum_cons, List.sum_cons, Z1K hi]
    have ih := Z8f (l := l) (v := v) hi h.2
    unfold lfO at ih
    rw [ih]
    simp [h.1]
theorem Z2Q {l : Ldg} : ∀ (o : List Nat) (s : List Int × Int), o.Nodup → (∀ i ∈ o, i < 10) → BkOk l s.1 → 0 ≤ s.2 →
    BkOk l (o.foldl (bkI l) s).1 ∧ (o.foldl (bkI l) s).2 = max 0 (s.2 - lfO l s.1 o) ∧ lfO l (o.foldl (bkI l) s).1 o = max 0 (lfO l s.1 o - s.2) ∧ (0 ≤ lfO l s.1 o) ∧ ∀ j, j ∉ o → na0 (o.foldl (bkI l) s).1 j = na0 s.1 j
  | [], s, _, _, h, hs => ⟨h, by simp [lfO]; omega, by simp [lfO]; omega, by simp [lfO], fun _ _ => rfl⟩
  | i :: o, s, hd, hl, h, hs => by
    rw [List.nodup_cons] at hd
    have hi := hl i (by simp)
    have hil : i < s.1.length := by rw [h.len]; exact hi
    obtain ⟨h1, h2⟩ := Z9R h hs hi
    obtain ⟨a, b, c, d, e⟩ := Z2Q o (bkI l s i) hd.2 (fun j hj => hl j (by simp [hj])) h1 h2
    have hb := h.bd i
    have hlo : lfO l (bkI l s i).1 o = lfO l s.1 o := Z8f hil hd.1
    have hcons : ∀ bk, lfO l bk (i :: o) = (l.asked i - na0 bk i) + lfO l bk o := fun bk => by unfold lfO; rw [List.map_cons, List.sum_cons]
    have hni := e i hd.1
    have hv : na0 (bkI l s i).1 i = na0 s.1 i + min s.2 (l.asked i - na0 s.1 i) := by simp only [bkI]; rw [Z1K hil]; simp
    rw [hlo] at b c d
    rw [List.foldl_cons, hcons, hcons, hni, hv]
    refine ⟨a, ?_, ?_, by omega, fun j hj => ?_⟩
    · rw [b]; simp only [bkI]; omega
    · rw [c]; simp only [bkI]; omega
    · simp only [List.mem_cons, not_or] at hj
      rw [e j hj.2]
      show na0 (s.1.set i _) j = _
      rw [Z1K hil, decide_eq_false (fun e : i = j => hj.1 e.symm)]; rfl
theorem Z58 {l : Ldg} (h : l.ok) : BkOk l (List.replicate 10 0) := ⟨List.length_replicate, fun i => by
  have := Z2p h i
  have e : na0 (List.replicate 10 0) i = 0 := by unfold na0; rw [List.getD_eq_getElem?_getD, List.getElem?_replicate]; split <;> rfl
  rw [e]; omega⟩
theorem Zd0 {l : Ldg} (h : l.ok) {bk : List Int} (hb : BkOk l bk) {p : Ln} (hp : 0 ≤ p.bu) : BkOk l (bkP l bk p).1 :=
  (Z2Q _ (bk, p.bu) (Z38 _ _) (fun i hi => by have := ((Z1v h).1 hi).1; have := h.nl; omega) hb hp).1
theorem Z4m {l : Ldg} (h : l.ok) : ∀ (ps : List Ln) {bk : List Int}, BkOk l bk → (∀ p ∈ ps, 0 ≤ p.bu) → BkOk l (bkA l bk ps)
  | [], _, hb, _ => hb
  | p :: ps, bk, hb, hp => Z4m h ps (Zd0 h hb (hp p (by simp))) (fun q hq => hp q (by simp [hq]))
def owesL (l : Ldg) (who : Int) (ps : List Ln) : Int := lfO l (bkA l (List.replicate 10 0) ps) (Z19 l fun i => match l.loans[i]? with | some x => decide (x.who = who) | none => false)
theorem Z6p {l : Ldg} {p q : Nat → Bool} (h : ∀ i, i < l.loans.length → p i = q i) : Z19 l p = Z19 l q := by
  unfold Z19
  congr 1
  funext y
  unfold yrL
  refine List.filter_congr fun i hi => ?_
  rw [h i (List.mem_range.1 hi)]
theorem pay_more {l : Ldg} (h : l.ok) {p : Ln} (hp : 0 ≤ p.bu) (hy : p.year = l.years - 1) : owesL l p.who (l.pays ++ [p]) = max 0 (owesL l p.who l.pays - p.bu) ∧ (bkP l (bkA l (List.replicate 10 0) l.pays) p).2 = max 0 (p.bu - owesL l p.who l.pays) ∧ 0 ≤ owesL l p.who l.pays := by
  have hb := Z4m h l.pays (Z58 h) (fun q hq => by have := (h.pays q hq).1; omega)
  have e : (Z19 l fun i => match l.loans[i]? with | some x => decide (x.who = p.who) && decide (x.year ≤ p.year) | none => false) = Z19 l fun i => match l.loans[i]? with | some x => decide (x.who = p.who) | none => false := Z6p fun i hi => by
    obtain ⟨x, hx⟩ : ∃ x, l.loans[i]? = some x := ⟨_, List.getElem?_eq_getElem hi⟩
    have := (h.loans x (List.mem_of_getElem? hx)).2.2
    rw [hx]
    simp only [hy, decide_eq_true (show x.year ≤ l.years - 1 by omega), Bool.and_true]
  obtain ⟨a, b, c, d, _⟩ := Z2Q (Z19 l fun i => match l.loans[i]? with | some x => decide (x.who = p.who) | none => false) (bkA l (List.replicate 10 0) l.pays, p.bu) (Z38 _ _) (fun i hi => by have := ((Z1v h).1 hi).1; have := h.nl; omega) hb hp
  unfold owesL
  refine ⟨?_, ?_, d⟩
  · rw [show bkA l (List.replicate 10 0) (l.pays ++ [p]) = (bkP l (bkA l (List.replicate 10 0) l.pays) p).1 by unfold bkA; rw [List.foldl_append]; rfl]
    unfold bkP
    rw [e]; exact c
  · unfold bkP
    rw [e]; exact b
open Go
theorem Zal : Z0W Tryz.prog 113 = some 3 := by kernel_rfl
theorem Z8h : Z0W Tryz.prog 59 = some 3 := by kernel_rfl
theorem Zg9 : Z0W Tryz.prog 86 = some 3 := by kernel_rfl
theorem Z6L : cal Tryz.prog 143 = true := by kernel_rfl
theorem ZdR : cal Tryz.prog 155 = true := by kernel_rfl
theorem Zdo : cal Tryz.prog 156 = true := by kernel_rfl
theorem Zc2 : cal Tryz.prog 157 = true := by kernel_rfl
theorem Zcd : cal Tryz.prog 158 = true := by kernel_rfl
theorem Zcx : cal Tryz.prog 159 = true := by kernel_rfl
theorem Ze3 : cal Tryz.prog 160 = true := by kernel_rfl
theorem ZcJ : cal Tryz.prog 161 = true := by kernel_rfl
theorem Z6r : cal Tryz.prog 192 = true := by kernel_rfl
theorem Zea : cal Tryz.prog 195 = true := by kernel_rfl
theorem Zcb : cal Tryz.prog 196 = true := by kernel_rfl
theorem Zdd : cal Tryz.prog 197 = true := by kernel_rfl
theorem Z4k : cal Tryz.prog 45 = true := by kernel_rfl
theorem Zbp : cal Tryz.prog 84 = true := by kernel_rfl
theorem Z73 : elN Tryz.prog 47 = some 1 := by kernel_rfl
theorem ZaL : elN Tryz.prog 48 = some 3 := by kernel_rfl
theorem ZbK : elN Tryz.prog 49 = some 3 := by kernel_rfl
theorem ZgJ : elN Tryz.prog 50 = some 3 := by kernel_rfl
theorem Z7O : ZJ Tryz.prog 113 2 = some 2 := by kernel_rfl
theorem Z1Y : ZJ Tryz.prog 52 0 = some 0 := by kernel_rfl
theorem Z1q : ZJ Tryz.prog 52 1 = some 1 := by kernel_rfl
theorem Z04 : ZJ Tryz.prog 52 4 = some 4 := by kernel_rfl
theorem Za9 : ZJ Tryz.prog 59 2 = some 2 := by kernel_rfl
theorem Zcp : ZJ Tryz.prog 86 2 = some 2 := by kernel_rfl
theorem Z2x : Z2X Tryz.prog 47 = true := by kernel_rfl
theorem Z6l : Z2X Tryz.prog 48 = true := by kernel_rfl
theorem Z2V : Z2X Tryz.prog 49 = true := by kernel_rfl
theorem ZaR : Z2X Tryz.prog 50 = true := by kernel_rfl
theorem Z3w : Z0b Tryz.prog 112 = true := by kernel_rfl
theorem ZfN : Z0b Tryz.prog 177 = true := by kernel_rfl
theorem Zfp : Z0b Tryz.prog 179 = true := by kernel_rfl
theorem ZfB : Z0b Tryz.prog 181 = true := by kernel_rfl
theorem sc3 : Z0b Tryz.prog 3 = true := by kernel_rfl
theorem Z40 : Z0b Tryz.prog 48 = true := by kernel_rfl
def lnrow (x : Ln) : List Value := [.int .i64 x.who, .int .i64 x.year, .int .i64 x.bu]
def lnrows (l : List Ln) : List (List Value) := l.map lnrow
def Z1Q (x : Pm) : List Value := [.int .i64 x.fr, .int .i64 x.to, .int .i64 x.bu]
def pmrows (l : List Pm) : List (List Value) := l.map Z1Q
abbrev irows (l : List Int) : List (List Value) := l.map fun z => [.int .i64 z]
def lgl (l : Ldg) (a1 a2 a3 a4 a5 : Option Addr) (k1 k2 k3 k4 k5 : Nat) : List Value := [.int .i64 l.folk, .int .i64 l.years, .slice a1 l.bad.length k1, .slice a2 l.forg.length k2, .slice a3 l.loans.length k3, .slice a4 l.pays.length k4, .slice a5 l.proms.length k5]
def Ldg.v (l : Ldg) (a1 a2 a3 a4 a5 : Option Addr) (k1 k2 k3 k4 k5 : Nat) : Value := .agg (lgl l a1 a2 a3 a4 a5 k1 k2 k3 k4 k5).toArray
theorem Z0U {l : List Ln} {k : Nat} {x : Ln} (h : l[k]? = some x) : (lnrows l)[k]? = some (lnrow x) := by simp [lnrows, h]
theorem Za5 {l : List Int} {k : Nat} {x : Int} (h : l[k]? = some x) : (irows l)[k]? = some [.int .i64 x] := by simp [irows, h]
def Z8k (l : List Int) (i : Nat) : Bool := match l[i]?, l[i + 1]? with
  | some x, some y => decide (y ≤ x)
  | _, _ => false
theorem Z56 : ∀ (l : List Int), Z27 l = !((List.range l.length).any (Z8k l))
  | [] => rfl
  | [x] => rfl
  | x :: y :: l => by
    have ih := Z56 (y :: l)
    unfold Z27
    rw [ih]
    rw [show (x :: y :: l).length = (y :: l).length + 1 from rfl, List.range_succ_eq_map (n := (y :: l).length), List.any_cons, List.any_map]
    have e : (Z8k (x :: y :: l)) ∘ Nat.succ = Z8k (y :: l) := by funext i; rfl
    rw [e]
    have e2 : Z8k (x :: y :: l) 0 = decide (y ≤ x) := rfl
    rw [e2]
    by_cases h : x < y
    · simp [h, Int.not_le.2 h]
    · simp [h, Int.not_lt.1 h]
theorem Zax {l : List Int} {k : Nat} {x y : Int} (hx : l[k]? = some x) (hy : l[k + 1]? = some y) (h : y ≤ x) : Z27 l = false := by
  rw [Z56, Bool.not_eq_false']
  rw [List.any_eq_true]
  refine ⟨k, List.mem_range.2 (List.getElem?_eq_some_iff.1 hx).1, ?_⟩
  unfold Z8k
  rw [hx, hy]; simpa using h
theorem Zcc {l : List Int} (h : ∀ i, i + 1 < l.length → Z8k l i = false) : Z27 l = true := by
  rw [Z56, Bool.not_eq_true']
  rw [List.any_eq_false]
  intro i _
  rcases Nat.lt_or_ge (i + 1) l.length with h1 | h1
  · simp [h i h1]
  · unfold Z8k
    rw [List.getElem?_eq_none h1]
    cases l[i]? <;> simp
def Z8D (l : List Ln) (i : Nat) : Bool := match l[i]?, l[i + 1]? with
  | some x, some y => decide (y.year < x.year)
  | _, _ => false
theorem Z3B : ∀ (l : List Ln), Z4M l = !((List.range l.length).any (Z8D l))
  | [] => rfl
  | [x] => rfl
  | x :: y :: l => by
    have ih := Z3B (y :: l)
    unfold Z4M
    rw [ih]
    rw [show (x :: y :: l).length = (y :: l).length + 1 from rfl, List.range_succ_eq_map (n := (y :: l).length), List.any_cons, List.any_map]
    have e : (Z8D (x :: y :: l)) ∘ Nat.succ = Z8D (y :: l) := by funext i; rfl
    rw [e]
    have e2 : Z8D (x :: y :: l) 0 = decide (y.year < x.year) := rfl
    rw [e2]
    by_cases h : x.year ≤ y.year
    · simp [h, Int.not_lt.2 h]
    · simp [h, Int.not_le.1 h]
theorem Z8y {l : List Ln} {k : Nat} {x y : Ln} (hx : l[k]? = some x) (hy : l[k + 1]? = some y) (h : y.year < x.year) : Z4M l = false := by
  rw [Z3B, Bool.not_eq_false']
  rw [List.any_eq_true]
  refine ⟨k, List.mem_range.2 (List.getElem?_eq_some_iff.1 hx).1, ?_⟩
  unfold Z8D
  rw [hx, hy]; simpa using h
theorem ZaY {l : List Ln} (h : ∀ i, i + 1 < l.length → Z8D l i = false) : Z4M l = true := by
  rw [Z3B, Bool.not_eq_true']
  rw [List.any_eq_false]
  intro i _
  rcases Nat.lt_or_ge (i + 1) l.length with h1 | h1
  · simp [h i h1]
  · unfold Z8D
    rw [List.getElem?_eq_none h1]
    cases l[i]? <;> simp
def Zb8 (x y : Int) : Int := bif decide (x < y) then -1 else bif decide (y < x) then 1 else 0
theorem Zn {α : Type} {xs : List α} {p : α → Bool} {k : Nat} {x : α} (hx : xs[k]? = some x) (hn : ∀ y ∈ xs.take k, p y = false) (h : p x = true) : xs.findIdx? p = some k := by
  induction xs generalizing k with
  | nil => simp at hx
  | cons y ys ih =>
    cases k with
    | zero => simp only [List.getElem?_cons_zero, Option.some.injEq] at hx; subst hx; simp [List.findIdx?_cons, h]
    | succ k =>
      have hy := hn y (by simp)
      have := ih (by simpa using hx) (fun z hz => hn z (by simp [hz]))
      simp [List.findIdx?_cons, hy, this]
theorem Zj {α : Type} {xs : List α} {p : α → Bool} (hn : ∀ y ∈ xs, p y = false) : xs.findIdx? p = none := by
  rw [List.findIdx?_eq_none_iff]; exact hn
theorem ZF {α : Type} {xs : List α} {p : α → Bool} {k : Nat} {x : α} (hx : xs[k]? = some x) (hn : ∀ y ∈ xs.take k, p y = false) (h : p x = false) : ∀ y ∈ xs.take (k + 1), p y = false := by
  intro y hy
  rw [List.take_add_one, hx] at hy
  rcases List.mem_append.1 hy with h1 | h1
  · exact hn y h1
  · simp only [Option.toList_some, List.mem_singleton] at h1; subst h1; exact h
theorem ZY {α : Type} (xs : List α) (p : α → Bool) : Value.bool (decide (0 ≤ (match xs.findIdx? p with | some k => (k : Int) | none => -1))) = .bool (xs.any p) := by
  congr 1
  cases h : xs.findIdx? p with
  | none =>
    have := List.findIdx?_eq_none_iff.1 h
    have h2 : xs.any p = false := by simpa using this
    rw [h2]; rfl
  | some k =>
    have h2 : xs.any p = true := by
      rw [← Bool.not_eq_false]; intro h3
      have : xs.findIdx? p = none := List.findIdx?_eq_none_iff.2 (by simpa using h3)
      rw [this] at h; cases h
    rw [h2]; simp
theorem Zt {α : Type} (xs : List α) (p : α → Bool) : Value.bool (!xs.any fun x => !p x) = .bool (xs.all p) := by
  congr 1
  induction xs with
  | nil => rfl
  | cons x xs ih => simp [← ih]
theorem Z2d (n lo hi : Int) (H : Z6) (R : Z3) :
    FnV Tryz.prog 45 [.int .i64 n, .int .i64 lo, .int .i64 hi] H R (.bool (inL n lo hi)) := by
 refine Z8 Tryz.func45 rfl Tryz.ntmps45 rfl ?_
 refine sqt 1 rfl (pur 1 rfl (sqt 9 rfl (pur 4 rfl ?_)))
 refine Zp 10 rfl ?_ ?_ <;> intro g10
 refine pur 5 rfl (Z1 ?_)
 exact rtA rfl rfl rfl ⟨by simp_all only [Zz, inL, Bool.true_and, Bool.false_and, cond_true, cond_false], rfl, rfl⟩ drp
 refine pur 5 rfl (Z1 ?_)
 exact rtA rfl rfl rfl ⟨by simp_all only [Zz, inL, Bool.true_and, Bool.false_and, cond_true, cond_false], rfl, rfl⟩ drp
theorem Z3z (l : Ldg) (a1 a2 a3 a4 a5 : Option Addr) (k1 k2 k3 k4 k5 : Nat) (n : Int) (hN : l.loans.length ≤ 1000000) (hfo : -1000000 ≤ l.folk ∧ l.folk ≤ 1000000) (hye : -1000000 ≤ l.years ∧ l.years ≤ 1000000) (H : Z6) (R : Z3) :
    FnV Tryz.prog 77 [(l.v a1 a2 a3 a4 a5 k1 k2 k3 k4 k5), .int .i64 n] H R (.bool (l.person n)) := by
 refine Z8 Tryz.func77 rfl Tryz.ntmps77 rfl ?_
 refine sqt 2 rfl (bx rfl rfl rfl (fun b2 => pur 1 rfl (sqt 6 rfl (pur 1 rfl (sp rfl (PE.fA Z1Y rfl) rfl (spL rfl rfl (lh sc3 rfl rfl) rfl (sp rfl (PE.sub rfl rfl (by omega)) rfl ?_)))))))
 refine clV rfl Z4k rfl rfl (Z2d _ _ _ _ _) ?_
 refine pur 1 rfl (Z1 ?_)
 exact rtA rfl rfl rfl ⟨rfl, rfl, rfl⟩ drp
theorem Z5v (l : Ldg) (a1 a2 a3 a4 a5 : Option Addr) (k1 k2 k3 k4 k5 : Nat) (n : Int) (hN : l.loans.length ≤ 1000000) (hfo : -1000000 ≤ l.folk ∧ l.folk ≤ 1000000) (hye : -1000000 ≤ l.years ∧ l.years ≤ 1000000) (H : Z6) (R : Z3) :
    FnV Tryz.prog 92 [(l.v a1 a2 a3 a4 a5 k1 k2 k3 k4 k5), .int .i64 n] H R (.bool (l.farmer n)) := by
 refine Z8 Tryz.func92 rfl Tryz.ntmps92 rfl ?_
 refine sqt 2 rfl (bx rfl rfl rfl (fun b2 => pur 1 rfl (sqt 6 rfl (pur 1 rfl (sp rfl (PE.fA Z1Y rfl) rfl (spL rfl rfl (lh sc3 rfl rfl) rfl (sp rfl (PE.sub rfl rfl (by omega)) rfl ?_)))))))
 refine clV rfl Z4k rfl rfl (Z2d _ _ _ _ _) ?_
 refine pur 1 rfl (Z1 ?_)
 exact rtA rfl rfl rfl ⟨rfl, rfl, rfl⟩ drp
theorem Z5L (l : Ldg) (a1 a2 a3 a4 a5 : Option Addr) (k1 k2 k3 k4 k5 : Nat) (n : Int) (hN : l.loans.length ≤ 1000000) (hfo : -1000000 ≤ l.folk ∧ l.folk ≤ 1000000) (hye : -1000000 ≤ l.years ∧ l.years ≤ 1000000) (H : Z6) (R : Z3) :
    FnV Tryz.prog 78 [(l.v a1 a2 a3 a4 a5 k1 k2 k3 k4 k5), .int .i64 n] H R (.bool (l.year n)) := by
 refine Z8 Tryz.func78 rfl Tryz.ntmps78 rfl ?_
 refine sqt 2 rfl (bx rfl rfl rfl (fun b2 => pur 1 rfl (sqt 6 rfl (pur 1 rfl (sp rfl (PE.fA Z1q rfl) rfl (spL rfl rfl (lh sc3 rfl rfl) rfl (sp rfl (PE.sub rfl rfl (by omega)) rfl ?_)))))))
 refine clV rfl Z4k rfl rfl (Z2d _ _ _ _ _) ?_
 refine pur 1 rfl (Z1 ?_)
 exact rtA rfl rfl rfl ⟨rfl, rfl, rfl⟩ drp
theorem Zca (l : Ldg) (a1 a2 a3 a4 a5 : Option Addr) (k1 k2 k3 k4 k5 : Nat) (n : Int) (hN : l.loans.length ≤ 1000000) (hfo : -1000000 ≤ l.folk ∧ l.folk ≤ 1000000) (hye : -1000000 ≤ l.years ∧ l.years ≤ 1000000) (H : Z6) (R : Z3) :
    FnV Tryz.prog 90 [(l.v a1 a2 a3 a4 a5 k1 k2 k3 k4 k5), .int .i64 n] H R (.bool (l.loan n)) := by
 refine Z8 Tryz.func90 rfl Tryz.ntmps90 rfl ?_
 refine sqt 2 rfl (bx rfl rfl rfl (fun b2 => pur 1 rfl (sqt 7 rfl (pur 1 rfl (sp rfl (PE.fA Z04 rfl) rfl (spL rfl rfl (lh Z40 rfl rfl) rfl (sp rfl (PE.lenSl Z6l rfl) rfl (sp rfl (PE.sub rfl rfl (by omega)) rfl ?_))))))))
 refine clV rfl Z4k rfl rfl (Z2d _ _ _ _ _) ?_
 refine pur 1 rfl (Z1 ?_)
 exact rtA rfl rfl rfl ⟨rfl, rfl, rfl⟩ drp
theorem Z2P (n : Int) (H : Z6) (R : Z3) :
    FnV Tryz.prog 84 [.int .i64 n] H R (.bool (buL n)) := by
 refine Z8 Tryz.func84 rfl Tryz.ntmps84 rfl ?_
 refine sqt 1 rfl (pur 1 rfl (sqt 3 rfl (pur 1 rfl ?_)))
 refine clV rfl Z4k rfl rfl (Z2d _ _ _ _ _) ?_
 refine pur 1 rfl (Z1 ?_)
 exact rtA rfl rfl rfl ⟨rfl, rfl, rfl⟩ drp
theorem Z2M (xs : List Int) (a : Option Addr) (c g : Nat) (fst cap : List Value) (p : Int → Bool) (hg : cal Tryz.prog g = true) (hl : xs.length ≤ 9223372036854775807) (H : Z6) (R : Z3) [hR : MemRows a 1 (irows xs) R] (hp : ∀ x, x ∈ xs → FnV Tryz.prog g (fst ++ [.int .i64 x] ++ cap) H R (.bool (p x))) :
    FnV Tryz.prog 192 [.slice a xs.length c, .func (.func g) fst.toArray cap.toArray] H R (.int .i64 (match xs.findIdx? p with | some k => (k : Int) | none => -1)) := by
 refine Z8 Tryz.func192 rfl Tryz.ntmps192 rfl ?_
 refine sqt 1 rfl (pur 1 rfl (Z0 (sqt 3 rfl (pur 1 rfl (sp rfl (PE.lenSl Z2x rfl) rfl (pur 1 rfl (Z4 ?_)))))))
 refine Zc (ι := {k : Nat // k ≤ xs.length ∧ ∀ x ∈ xs.take k, p x = false}) (fun k => ⟨[(0, .slice a xs.length c), (1, .func (.func g) fst.toArray cap.toArray), (7, .int .i64 xs.length), (8, .int .i64 k.1)], H, R⟩) (fun k => xs.length - k.1) ⟨0, by simp⟩ ?_ (fun k => ?_)
 exact Zk idH
 obtain ⟨k, hk, hn⟩ := k
 dsimp only
 refine sqt 1 rfl (pur 1 rfl (Z0 ?_))
 refine Z2 rfl ?_ ?_ <;> intro hc0
 simp only [cS] at hc0
 obtain ⟨x, hx⟩ : ∃ x, xs[k]? = some x := ⟨_, List.getElem?_eq_getElem (by omega)⟩
 have hxm := List.mem_of_getElem? hx
 refine Zl (a := a) (sz := 1) (rows := irows xs) (by cases xs <;> simp_all [irows]) (fun b off he => ?_)
 subst he
 refine Z5 (Z0 (Z4 (sqt 2 rfl (pur 2 rfl (sqt 6 rfl (pur 3 rfl (sp rfl (PE.indexAddr Z73 rfl rfl (by omega) (by omega)) rfl (spL rfl rfl (lf0 sc3 (by simp [irows, hx]; rfl) rfl) rfl ?_))))))))
 refine Z1M rfl rfl (hg) rfl rfl (hp x hxm) ?_
 refine Z2 rfl ?_ ?_ <;> intro hc1
 refine sqt 2 rfl (pur 2 rfl (Z1 ?_))
 first | (exact rtA rfl rfl rfl ⟨by rw [Zn hx hn hc1]; rfl, rfl, rfl⟩ idH) | (exact rtA rfl rfl rfl ⟨by rw [Zj (by simpa using hn)]; rfl, rfl, rfl⟩ idH)
 refine Z5 (sqr 2 rfl (sp rfl (PE.add rfl rfl (by omega)) rfl (pur 1 rfl ?_)))
 exact Ze ⟨k + 1, by omega, ZF hx hn hc1⟩ idH
 simp only [cS] at hc0
 obtain rfl : k = xs.length := by omega
 refine Za (Zb (Zb (Zr (sqt 1 rfl (pur 1 rfl (Z1 ?_))))))
 first | (exact rtA rfl rfl rfl ⟨by rw [Zn hx hn hc1]; rfl, rfl, rfl⟩ idH) | (exact rtA rfl rfl rfl ⟨by rw [Zj (by simpa using hn)]; rfl, rfl, rfl⟩ idH)
theorem Z2s (xs : List Int) (a : Option Addr) (c g : Nat) (fst cap : List Value) (p : Int → Bool) (hg : cal Tryz.prog g = true) (hl : xs.length ≤ 9223372036854775807) (H : Z6) (R : Z3) [hR : MemRows a 1 (irows xs) R] (hp : ∀ x, x ∈ xs → FnV Tryz.prog g (fst ++ [.int .i64 x] ++ cap) H R (.bool (p x))) :
    FnV Tryz.prog 143 [.slice a xs.length c, .func (.func g) fst.toArray cap.toArray] H R (.bool (xs.any p)) := by
 refine Z8 Tryz.func143 rfl Tryz.ntmps143 rfl ?_
 refine sqt 1 rfl (pur 1 rfl (sqt 5 rfl (pur 2 rfl ?_)))
 refine clV rfl Z6r rfl rfl (Z2M xs a c g fst cap p hg hl _ _ hp) ?_
 refine pur 2 rfl (Z1 ?_)
 exact rtA rfl rfl rfl ⟨by simp only [Zz]; exact ZY _ _, rfl, rfl⟩ drp
theorem Z2L (x : Int) (g bf : Nat) (fst cap : List Value) (p : Bool) (hg : cal Tryz.prog g = true) (H : Z6) (R : Z3) [hM : Mem1 bf (cel 112 [.func (.func g) fst.toArray cap.toArray]) H] (hp : FnV Tryz.prog g (fst ++ [.int .i64 x] ++ cap) H R (.bool p)) :
    FnV Tryz.prog 161 [.int .i64 x, .pointer (some ⟨bf, 0, none⟩)] H R (.bool !p) := by
 refine Z8 Tryz.func161 rfl Tryz.ntmps161 rfl ?_
 refine sqt 1 rfl (pur 1 rfl (sqt 5 rfl (spL rfl rfl (lh Z3w rfl rfl) rfl (pur 1 rfl ?_))))
 refine Z1M rfl rfl (hg) rfl rfl (hp) ?_
 refine pur 2 rfl (Z1 ?_)
 exact rtA rfl rfl rfl ⟨rfl, rfl, rfl⟩ drp
theorem Z0d (xs : List Int) (a : Option Addr) (c g : Nat) (fst cap : List Value) (p : Int → Bool) (hg : cal Tryz.prog g = true) (hl : xs.length ≤ 9223372036854775807) (H : Z6) (R : Z3) [hR : MemRows a 1 (irows xs) R] (hp : ∀ b x, x ∈ xs → FnV Tryz.prog g (fst ++ [.int .i64 x] ++ cap) ((b, cel 112 [.func (.func g) fst.toArray cap.toArray]) :: H) R (.bool (p x))) :
    FnV Tryz.prog 89 [.slice a xs.length c, .func (.func g) fst.toArray cap.toArray] H R (.bool (xs.all p)) := by
 refine Z8 Tryz.func89 rfl Tryz.ntmps89 rfl ?_
 refine sqt 2 rfl (bx rfl rfl rfl (fun b3 => pur 1 rfl (sqt 5 rfl (pur 1 rfl (sp rfl (PE.makeFunc rfl rfl) rfl ?_)))))
 refine clV rfl Z6L rfl rfl (Z2s xs a c 161 [] [_] (fun x => !p x) ZcJ hl _ _ (hp := fun x hx => Z2L x g _ fst cap (p x) hg _ _ (hp := hp _ x hx))) ?_
 refine pur 2 rfl (Z1 ?_)
 exact rtA rfl rfl rfl ⟨by simp only [Zz]; rw [Zt], rfl, rfl⟩ drp
theorem Z6e (xs : List Ln) (a : Option Addr) (c g : Nat) (fst cap : List Value) (p : Ln → Bool) (hg : cal Tryz.prog g = true) (hl : xs.length ≤ 9223372036854775807) (H : Z6) (R : Z3) [hR : MemRows a 3 (lnrows xs) R] (hp : ∀ x, x ∈ xs → FnV Tryz.prog g (fst ++ [.agg (lnrow x).toArray] ++ cap) H R (.bool (p x))) :
    FnV Tryz.prog 195 [.slice a xs.length c, .func (.func g) fst.toArray cap.toArray] H R (.int .i64 (match xs.findIdx? p with | some k => (k : Int) | none => -1)) := by
 refine Z8 Tryz.func195 rfl Tryz.ntmps195 rfl ?_
 refine sqt 1 rfl (pur 1 rfl (Z0 (sqt 3 rfl (pur 1 rfl (sp rfl (PE.lenSl Z6l rfl) rfl (pur 1 rfl (Z4 ?_)))))))
 refine Zc (ι := {k : Nat // k ≤ xs.length ∧ ∀ x ∈ xs.take k, p x = false}) (fun k => ⟨[(0, .slice a xs.length c), (1, .func (.func g) fst.toArray cap.toArray), (7, .int .i64 xs.length), (8, .int .i64 k.1)], H, R⟩) (fun k => xs.length - k.1) ⟨0, by simp⟩ ?_ (fun k => ?_)
 exact Zk idH
 obtain ⟨k, hk, hn⟩ := k
 dsimp only
 refine sqt 1 rfl (pur 1 rfl (Z0 ?_))
 refine Z2 rfl ?_ ?_ <;> intro hc0
 simp only [cS] at hc0
 obtain ⟨x, hx⟩ : ∃ x, xs[k]? = some x := ⟨_, List.getElem?_eq_getElem (by omega)⟩
 have hxm := List.mem_of_getElem? hx
 refine Zl (a := a) (sz := 3) (rows := lnrows xs) (by cases xs <;> simp_all [lnrows]) (fun b off he => ?_)
 subst he
 refine Z5 (Z0 (Z4 (sqt 2 rfl (pur 2 rfl (sqt 6 rfl (pur 3 rfl (sp rfl (PE.indexAddr ZaL rfl rfl (by omega) (by omega)) rfl (spL rfl rfl (lfA Zal (row := lnrow x) (by simp [lnrows, hx]) rfl) rfl ?_))))))))
 refine Z1M rfl rfl (hg) rfl rfl (hp x hxm) ?_
 refine Z2 rfl ?_ ?_ <;> intro hc1
 refine sqt 2 rfl (pur 2 rfl (Z1 ?_))
 first | (exact rtA rfl rfl rfl ⟨by rw [Zn hx hn hc1]; rfl, rfl, rfl⟩ idH) | (exact rtA rfl rfl rfl ⟨by rw [Zj (by simpa using hn)]; rfl, rfl, rfl⟩ idH)
 refine Z5 (sqr 2 rfl (sp rfl (PE.add rfl rfl (by omega)) rfl (pur 1 rfl ?_)))
 exact Ze ⟨k + 1, by omega, ZF hx hn hc1⟩ idH
 simp only [cS] at hc0
 obtain rfl : k = xs.length := by omega
 refine Za (Zb (Zb (Zr (sqt 1 rfl (pur 1 rfl (Z1 ?_))))))
 first | (exact rtA rfl rfl rfl ⟨by rw [Zn hx hn hc1]; rfl, rfl, rfl⟩ idH) | (exact rtA rfl rfl rfl ⟨by rw [Zj (by simpa using hn)]; rfl, rfl, rfl⟩ idH)
theorem Z60 (xs : List Ln) (a : Option Addr) (c g : Nat) (fst cap : List Value) (p : Ln → Bool) (hg : cal Tryz.prog g = true) (hl : xs.length ≤ 9223372036854775807) (H : Z6) (R : Z3) [hR : MemRows a 3 (lnrows xs) R] (hp : ∀ x, x ∈ xs → FnV Tryz.prog g (fst ++ [.agg (lnrow x).toArray] ++ cap) H R (.bool (p x))) :
    FnV Tryz.prog 155 [.slice a xs.length c, .func (.func g) fst.toArray cap.toArray] H R (.bool (xs.any p)) := by
 refine Z8 Tryz.func155 rfl Tryz.ntmps155 rfl ?_
 refine sqt 1 rfl (pur 1 rfl (sqt 5 rfl (pur 2 rfl ?_)))
 refine clV rfl Zea rfl rfl (Z6e xs a c g fst cap p hg hl _ _ hp) ?_
 refine pur 2 rfl (Z1 ?_)
 exact rtA rfl rfl rfl ⟨by simp only [Zz]; exact ZY _ _, rfl, rfl⟩ drp
theorem Z6d (x : Ln) (g bf : Nat) (fst cap : List Value) (p : Bool) (hg : cal Tryz.prog g = true) (H : Z6) (R : Z3) [hM : Mem1 bf (cel 177 [.func (.func g) fst.toArray cap.toArray]) H] (hp : ∀ b, FnV Tryz.prog g (fst ++ [.agg (lnrow x).toArray] ++ cap) ((b, cel 113 (lnrow x)) :: H) R (.bool p)) :
    FnV Tryz.prog 156 [.agg (lnrow x).toArray, .pointer (some ⟨bf, 0, none⟩)] H R (.bool !p) := by
 refine Z8 Tryz.func156 rfl Tryz.ntmps156 rfl ?_
 refine sqt 2 rfl (bx rfl rfl rfl (fun b2 => pur 1 rfl (sqt 5 rfl (spL rfl rfl (lh ZfN rfl rfl) rfl (spL rfl rfl (lhA [_, _, _] Zal rfl rfl rfl) rfl ?_)))))
 refine Z1M rfl rfl (hg) rfl rfl (hp _) ?_
 refine pur 2 rfl (Z1 ?_)
 exact rtA rfl rfl rfl ⟨rfl, rfl, rfl⟩ drp
theorem Z1U (xs : List Ln) (a : Option Addr) (c g : Nat) (fst cap : List Value) (p : Ln → Bool) (hg : cal Tryz.prog g = true) (hl : xs.length ≤ 9223372036854775807) (H : Z6) (R : Z3) [hR : MemRows a 3 (lnrows xs) R] (hp : ∀ b b2 x, x ∈ xs → FnV Tryz.prog g (fst ++ [.agg (lnrow x).toArray] ++ cap) ((b2, cel 113 (lnrow x)) :: (b, cel 177 [.func (.func g) fst.toArray cap.toArray]) :: H) R (.bool (p x))) :
    FnV Tryz.prog 82 [.slice a xs.length c, .func (.func g) fst.toArray cap.toArray] H R (.bool (xs.all p)) := by
 refine Z8 Tryz.func82 rfl Tryz.ntmps82 rfl ?_
 refine sqt 2 rfl (bx rfl rfl rfl (fun b3 => pur 1 rfl (sqt 5 rfl (pur 1 rfl (sp rfl (PE.makeFunc rfl rfl) rfl ?_)))))
 refine clV rfl ZdR rfl rfl (Z60 xs a c 156 [] [_] (fun x => !p x) Zdo hl _ _ (hp := fun x hx => Z6d x g _ fst cap (p x) hg _ _ (hp := fun b => hp _ _ x hx))) ?_
 refine pur 2 rfl (Z1 ?_)
 exact rtA rfl rfl rfl ⟨by simp only [Zz]; rw [Zt], rfl, rfl⟩ drp
theorem Z8c (xs : List Ln) (a : Option Addr) (c g : Nat) (fst cap : List Value) (p : Ln → Bool) (hg : cal Tryz.prog g = true) (hl : xs.length ≤ 9223372036854775807) (H : Z6) (R : Z3) [hR : MemRows a 3 (lnrows xs) R] (hp : ∀ x, x ∈ xs → FnV Tryz.prog g (fst ++ [.agg (lnrow x).toArray] ++ cap) H R (.bool (p x))) :
    FnV Tryz.prog 196 [.slice a xs.length c, .func (.func g) fst.toArray cap.toArray] H R (.int .i64 (match xs.findIdx? p with | some k => (k : Int) | none => -1)) := by
 refine Z8 Tryz.func196 rfl Tryz.ntmps196 rfl ?_
 refine sqt 1 rfl (pur 1 rfl (Z0 (sqt 3 rfl (pur 1 rfl (sp rfl (PE.lenSl Z2V rfl) rfl (pur 1 rfl (Z4 ?_)))))))
 refine Zc (ι := {k : Nat // k ≤ xs.length ∧ ∀ x ∈ xs.take k, p x = false}) (fun k => ⟨[(0, .slice a xs.length c), (1, .func (.func g) fst.toArray cap.toArray), (7, .int .i64 xs.length), (8, .int .i64 k.1)], H, R⟩) (fun k => xs.length - k.1) ⟨0, by simp⟩ ?_ (fun k => ?_)
 exact Zk idH
 obtain ⟨k, hk, hn⟩ := k
 dsimp only
 refine sqt 1 rfl (pur 1 rfl (Z0 ?_))
 refine Z2 rfl ?_ ?_ <;> intro hc0
 simp only [cS] at hc0
 obtain ⟨x, hx⟩ : ∃ x, xs[k]? = some x := ⟨_, List.getElem?_eq_getElem (by omega)⟩
 have hxm := List.mem_of_getElem? hx
 refine Zl (a := a) (sz := 3) (rows := lnrows xs) (by cases xs <;> simp_all [lnrows]) (fun b off he => ?_)
 subst he
 refine Z5 (Z0 (Z4 (sqt 2 rfl (pur 2 rfl (sqt 6 rfl (pur 3 rfl (sp rfl (PE.indexAddr ZbK rfl rfl (by omega) (by omega)) rfl (spL rfl rfl (lfA Z8h (row := lnrow x) (by simp [lnrows, hx]) rfl) rfl ?_))))))))
 refine Z1M rfl rfl (hg) rfl rfl (hp x hxm) ?_
 refine Z2 rfl ?_ ?_ <;> intro hc1
 refine sqt 2 rfl (pur 2 rfl (Z1 ?_))
 first | (exact rtA rfl rfl rfl ⟨by rw [Zn hx hn hc1]; rfl, rfl, rfl⟩ idH) | (exact rtA rfl rfl rfl ⟨by rw [Zj (by simpa using hn)]; rfl, rfl, rfl⟩ idH)
 refine Z5 (sqr 2 rfl (sp rfl (PE.add rfl rfl (by omega)) rfl (pur 1 rfl ?_)))
 exact Ze ⟨k + 1, by omega, ZF hx hn hc1⟩ idH
 simp only [cS] at hc0
 obtain rfl : k = xs.length := by omega
 refine Za (Zb (Zb (Zr (sqt 1 rfl (pur 1 rfl (Z1 ?_))))))
 first | (exact rtA rfl rfl rfl ⟨by rw [Zn hx hn hc1]; rfl, rfl, rfl⟩ idH) | (exact rtA rfl rfl rfl ⟨by rw [Zj (by simpa using hn)]; rfl, rfl, rfl⟩ idH)
theorem Z84 (xs : List Ln) (a : Option Addr) (c g : Nat) (fst cap : List Value) (p : Ln → Bool) (hg : cal Tryz.prog g = true) (hl : xs.length ≤ 9223372036854775807) (H : Z6) (R : Z3) [hR : MemRows a 3 (lnrows xs) R] (hp : ∀ x, x ∈ xs → FnV Tryz.prog g (fst ++ [.agg (lnrow x).toArray] ++ cap) H R (.bool (p x))) :
    FnV Tryz.prog 157 [.slice a xs.length c, .func (.func g) fst.toArray cap.toArray] H R (.bool (xs.any p)) := by
 refine Z8 Tryz.func157 rfl Tryz.ntmps157 rfl ?_
 refine sqt 1 rfl (pur 1 rfl (sqt 5 rfl (pur 2 rfl ?_)))
 refine clV rfl Zcb rfl rfl (Z8c xs a c g fst cap p hg hl _ _ hp) ?_
 refine pur 2 rfl (Z1 ?_)
 exact rtA rfl rfl rfl ⟨by simp only [Zz]; exact ZY _ _, rfl, rfl⟩ drp
theorem Z7Y (x : Ln) (g bf : Nat) (fst cap : List Value) (p : Bool) (hg : cal Tryz.prog g = true) (H : Z6) (R : Z3) [hM : Mem1 bf (cel 179 [.func (.func g) fst.toArray cap.toArray]) H] (hp : ∀ b, FnV Tryz.prog g (fst ++ [.agg (lnrow x).toArray] ++ cap) ((b, cel 59 (lnrow x)) :: H) R (.bool p)) :
    FnV Tryz.prog 158 [.agg (lnrow x).toArray, .pointer (some ⟨bf, 0, none⟩)] H R (.bool !p) := by
 refine Z8 Tryz.func158 rfl Tryz.ntmps158 rfl ?_
 refine sqt 2 rfl (bx rfl rfl rfl (fun b2 => pur 1 rfl (sqt 5 rfl (spL rfl rfl (lh Zfp rfl rfl) rfl (spL rfl rfl (lhA [_, _, _] Z8h rfl rfl rfl) rfl ?_)))))
 refine Z1M rfl rfl (hg) rfl rfl (hp _) ?_
 refine pur 2 rfl (Z1 ?_)
 exact rtA rfl rfl rfl ⟨rfl, rfl, rfl⟩ drp
theorem Z2I (xs : List Ln) (a : Option Addr) (c g : Nat) (fst cap : List Value) (p : Ln → Bool) (hg : cal Tryz.prog g = true) (hl : xs.length ≤ 9223372036854775807) (H : Z6) (R : Z3) [hR : MemRows a 3 (lnrows xs) R] (hp : ∀ b b2 x, x ∈ xs → FnV Tryz.prog g (fst ++ [.agg (lnrow x).toArray] ++ cap) ((b2, cel 59 (lnrow x)) :: (b, cel 179 [.func (.func g) fst.toArray cap.toArray]) :: H) R (.bool (p x))) :
    FnV Tryz.prog 85 [.slice a xs.length c, .func (.func g) fst.toArray cap.toArray] H R (.bool (xs.all p)) := by
 refine Z8 Tryz.func85 rfl Tryz.ntmps85 rfl ?_
 refine sqt 2 rfl (bx rfl rfl rfl (fun b3 => pur 1 rfl (sqt 5 rfl (pur 1 rfl (sp rfl (PE.makeFunc rfl rfl) rfl ?_)))))
 refine clV rfl Zc2 rfl rfl (Z84 xs a c 158 [] [_] (fun x => !p x) Zcd hl _ _ (hp := fun x hx => Z7Y x g _ fst cap (p x) hg _ _ (hp := fun b => hp _ _ x hx))) ?_
 refine pur 2 rfl (Z1 ?_)
 exact rtA rfl rfl rfl ⟨by simp only [Zz]; rw [Zt], rfl, rfl⟩ drp
theorem Z5Y (xs : List Pm) (a : Option Addr) (c g : Nat) (fst cap : List Value) (p : Pm → Bool) (hg : cal Tryz.prog g = true) (hl : xs.length ≤ 9223372036854775807) (H : Z6) (R : Z3) [hR : MemRows a 3 (pmrows xs) R] (hp : ∀ x, x ∈ xs → FnV Tryz.prog g (fst ++ [.agg (Z1Q x).toArray] ++ cap) H R (.bool (p x))) :
    FnV Tryz.prog 197 [.slice a xs.length c, .func (.func g) fst.toArray cap.toArray] H R (.int .i64 (match xs.findIdx? p with | some k => (k : Int) | none => -1)) := by
 refine Z8 Tryz.func197 rfl Tryz.ntmps197 rfl ?_
 refine sqt 1 rfl (pur 1 rfl (Z0 (sqt 3 rfl (pur 1 rfl (sp rfl (PE.lenSl ZaR rfl) rfl (pur 1 rfl (Z4 ?_)))))))
 refine Zc (ι := {k : Nat // k ≤ xs.length ∧ ∀ x ∈ xs.take k, p x = false}) (fun k => ⟨[(0, .slice a xs.length c), (1, .func (.func g) fst.toArray cap.toArray), (7, .int .i64 xs.length), (8, .int .i64 k.1)], H, R⟩) (fun k => xs.length - k.1) ⟨0, by simp⟩ ?_ (fun k => ?_)
 exact Zk idH
 obtain ⟨k, hk, hn⟩ := k
 dsimp only
 refine sqt 1 rfl (pur 1 rfl (Z0 ?_))
 refine Z2 rfl ?_ ?_ <;> intro hc0
 simp only [cS] at hc0
 obtain ⟨x, hx⟩ : ∃ x, xs[k]? = some x := ⟨_, List.getElem?_eq_getElem (by omega)⟩
 have hxm := List.mem_of_getElem? hx
 refine Zl (a := a) (sz := 3) (rows := pmrows xs) (by cases xs <;> simp_all [pmrows]) (fun b off he => ?_)
 subst he
 refine Z5 (Z0 (Z4 (sqt 2 rfl (pur 2 rfl (sqt 6 rfl (pur 3 rfl (sp rfl (PE.indexAddr ZgJ rfl rfl (by omega) (by omega)) rfl (spL rfl rfl (lfA Zg9 (row := Z1Q x) (by simp [pmrows, hx]) rfl) rfl ?_))))))))
 refine Z1M rfl rfl (hg) rfl rfl (hp x hxm) ?_
 refine Z2 rfl ?_ ?_ <;> intro hc1
 refine sqt 2 rfl (pur 2 rfl (Z1 ?_))
 first | (exact rtA rfl rfl rfl ⟨by rw [Zn hx hn hc1]; rfl, rfl, rfl⟩ idH) | (exact rtA rfl rfl rfl ⟨by rw [Zj (by simpa using hn)]; rfl, rfl, rfl⟩ idH)
 refine Z5 (sqr 2 rfl (sp rfl (PE.add rfl rfl (by omega)) rfl (pur 1 rfl ?_)))
 exact Ze ⟨k + 1, by omega, ZF hx hn hc1⟩ idH
 simp only [cS] at hc0
 obtain rfl : k = xs.length := by omega
 refine Za (Zb (Zb (Zr (sqt 1 rfl (pur 1 rfl (Z1 ?_))))))
 first | (exact rtA rfl rfl rfl ⟨by rw [Zn hx hn hc1]; rfl, rfl, rfl⟩ idH) | (exact rtA rfl rfl rfl ⟨by rw [Zj (by simpa using hn)]; rfl, rfl, rfl⟩ idH)
theorem Z6b (xs : List Pm) (a : Option Addr) (c g : Nat) (fst cap : List Value) (p : Pm → Bool) (hg : cal Tryz.prog g = true) (hl : xs.length ≤ 9223372036854775807) (H : Z6) (R : Z3) [hR : MemRows a 3 (pmrows xs) R] (hp : ∀ x, x ∈ xs → FnV Tryz.prog g (fst ++ [.agg (Z1Q x).toArray] ++ cap) H R (.bool (p x))) :
    FnV Tryz.prog 159 [.slice a xs.length c, .func (.func g) fst.toArray cap.toArray] H R (.bool (xs.any p)) := by
 refine Z8 Tryz.func159 rfl Tryz.ntmps159 rfl ?_
 refine sqt 1 rfl (pur 1 rfl (sqt 5 rfl (pur 2 rfl ?_)))
 refine clV rfl Zdd rfl rfl (Z5Y xs a c g fst cap p hg hl _ _ hp) ?_
 refine pur 2 rfl (Z1 ?_)
 exact rtA rfl rfl rfl ⟨by simp only [Zz]; exact ZY _ _, rfl, rfl⟩ drp
theorem Z6q (x : Pm) (g bf : Nat) (fst cap : List Value) (p : Bool) (hg : cal Tryz.prog g = true) (H : Z6) (R : Z3) [hM : Mem1 bf (cel 181 [.func (.func g) fst.toArray cap.toArray]) H] (hp : ∀ b, FnV Tryz.prog g (fst ++ [.agg (Z1Q x).toArray] ++ cap) ((b, cel 86 (Z1Q x)) :: H) R (.bool p)) :
    FnV Tryz.prog 160 [.agg (Z1Q x).toArray, .pointer (some ⟨bf, 0, none⟩)] H R (.bool !p) := by
 refine Z8 Tryz.func160 rfl Tryz.ntmps160 rfl ?_
 refine sqt 2 rfl (bx rfl rfl rfl (fun b2 => pur 1 rfl (sqt 5 rfl (spL rfl rfl (lh ZfB rfl rfl) rfl (spL rfl rfl (lhA [_, _, _] Zg9 rfl rfl rfl) rfl ?_)))))
 refine Z1M rfl rfl (hg) rfl rfl (hp _) ?_
 refine pur 2 rfl (Z1 ?_)
 exact rtA rfl rfl rfl ⟨rfl, rfl, rfl⟩ drp
theorem Z0S (xs : List Pm) (a : Option Addr) (c g : Nat) (fst cap : List Value) (p : Pm → Bool) (hg : cal Tryz.prog g = true) (hl : xs.length ≤ 9223372036854775807) (H : Z6) (R : Z3) [hR : MemRows a 3 (pmrows xs) R] (hp : ∀ b b2 x, x ∈ xs → FnV Tryz.prog g (fst ++ [.agg (Z1Q x).toArray] ++ cap) ((b2, cel 86 (Z1Q x)) :: (b, cel 181 [.func (.func g) fst.toArray cap.toArray]) :: H) R (.bool (p x))) :
    FnV Tryz.prog 87 [.slice a xs.length c, .func (.func g) fst.toArray cap.toArray] H R (.bool (xs.all p)) := by
 refine Z8 Tryz.func87 rfl Tryz.ntmps87 rfl ?_
 refine sqt 2 rfl (bx rfl rfl rfl (fun b3 => pur 1 rfl (sqt 5 rfl (pur 1 rfl (sp rfl (PE.makeFunc rfl rfl) rfl ?_)))))
 refine clV rfl Zcx rfl rfl (Z6b xs a c 160 [] [_] (fun x => !p x) Ze3 hl _ _ (hp := fun x hx => Z6q x g _ fst cap (p x) hg _ _ (hp := fun b => hp _ _ x hx))) ?_
 refine pur 2 rfl (Z1 ?_)
 exact rtA rfl rfl rfl ⟨by simp only [Zz]; rw [Zt], rfl, rfl⟩ drp
theorem Z4g (x : Ln) (H : Z6) (R : Z3) :
    FnV Tryz.prog 83 [.agg (lnrow x).toArray] H R (.bool (buL x.bu)) := by
 refine Z8 Tryz.func83 rfl Tryz.ntmps83 rfl ?_
 refine sqt 2 rfl (bx rfl rfl rfl (fun b1 => pur 1 rfl (sqt 4 rfl (sp rfl (PE.fA Z7O rfl) rfl (spL rfl rfl (lh sc3 rfl rfl) rfl ?_)))))
 refine clV rfl Zbp rfl rfl (Z2P _ _ _) ?_
 refine pur 1 rfl (Z1 ?_)
 exact rtA rfl rfl rfl ⟨rfl, rfl, rfl⟩ drp
theorem Z4t (x : Ln) (H : Z6) (R : Z3) :
    FnV Tryz.prog 86 [.agg (lnrow x).toArray] H R (.bool (buL x.bu)) := by
 refine Z8 Tryz.func86 rfl Tryz.ntmps86 rfl ?_
 refine sqt 2 rfl (bx rfl rfl rfl (fun b1 => pur 1 rfl (sqt 4 rfl (sp rfl (PE.fA Za9 rfl) rfl (spL rfl rfl (lh sc3 rfl rfl) rfl ?_)))))
 refine clV rfl Zbp rfl rfl (Z2P _ _ _) ?_
 refine pur 1 rfl (Z1 ?_)
 exact rtA rfl rfl rfl ⟨rfl, rfl, rfl⟩ drp
theorem Z6X (x : Pm) (H : Z6) (R : Z3) :
    FnV Tryz.prog 88 [.agg (Z1Q x).toArray] H R (.bool (buL x.bu)) := by
 refine Z8 Tryz.func88 rfl Tryz.ntmps88 rfl ?_
 refine sqt 2 rfl (bx rfl rfl rfl (fun b1 => pur 1 rfl (sqt 4 rfl (sp rfl (PE.fA Zcp rfl) rfl (spL rfl rfl (lh sc3 rfl rfl) rfl ?_)))))
 refine clV rfl Zbp rfl rfl (Z2P _ _ _) ?_
 refine pur 1 rfl (Z1 ?_)
 exact rtA rfl rfl rfl ⟨rfl, rfl, rfl⟩ drp
theorem Z5w (xs : List Int) (a : Option Addr) (c : Nat) (hl : xs.length ≤ 1000000) (H : Z6) (R : Z3) [hR : MemRows a 1 (irows xs) R] :
    FnV Tryz.prog 96 [.slice a xs.length c] H R (.bool (Z27 xs)) := by
 refine Z8 Tryz.func96 rfl Tryz.ntmps96 rfl ?_
 refine sqt 1 rfl (pur 1 rfl (Z0 (sqt 1 rfl (pur 1 rfl (Z4 ?_)))))
 refine Zc (ι := {k : Nat // (k = 0 ∨ k < xs.length) ∧ ∀ i, i < k → Z8k xs i = false}) (fun k => ⟨[(0, .slice a xs.length c), (3, .int .i64 ((k.1 + 1 : Nat) : Int))], H, R⟩) (fun k => xs.length - k.1) ⟨0, by omega, by omega⟩ ?_ (fun k => ?_)
 exact Zk idH
 obtain ⟨k, hk, hn⟩ := k
 dsimp only at hk hn ⊢
 refine Z0 (sqt 4 rfl (pur 2 rfl (sp rfl (PE.lenSl Z2x rfl) rfl (pur 1 rfl ?_))))
 refine Z2 rfl ?_ ?_ <;> intro hc0 <;> try simp only [cS] at hc0
 obtain ⟨y, hy⟩ : ∃ y, xs[k + 1]? = some y := ⟨_, List.getElem?_eq_getElem (by omega)⟩
 obtain ⟨x, hx⟩ : ∃ x, xs[k]? = some x := ⟨_, List.getElem?_eq_getElem (by omega)⟩
 refine Zl (a := a) (sz := 1) (rows := irows xs) (by cases xs <;> simp_all) (fun b off he => ?_)
 subst he
 refine Z5 (Z0 (Z4 (Z0 ?_)))
 refine Z9 [0, 0, 3, 7, 0, 0, 32, 112, 240, 511] (tks 0 3 (.ld 3 (tks 4 4 (.ld 8 (.tk 9 .done))))) Zo (by kernel_rfl) ?_
 refine Zf 2 rfl (tk rfl (PE.indexAddr Z73 rfl rfl (by omega) (by omega)) rfl (ld rfl rfl (lf0 sc3 (Za5 hy) rfl) rfl (Zf 2 rfl (tk rfl (PE.sub rfl rfl (by omega)) rfl (tk rfl (PE.indexAddr Z73 rfl rfl (by omega) (by omega)) rfl (ld rfl rfl (lf0 sc3 (by rw [show (((k + 1 : Nat) : Int) - 1).toNat = k from by omega]; exact Za5 hx) rfl) rfl (Zf 1 rfl ?_)))))))
 refine Z2 rfl ?_ ?_ <;> intro hc1 <;> try simp only [cS] at hc1
 have hbn := Zax hx hy hc1
 refine sqt 1 rfl (pur 1 rfl (Z1 ?_))
 exact rtA rfl rfl rfl ⟨by simp only [Zz]; rw [hbn], rfl, rfl⟩ drp
 have hnb : Z8k xs k = false := by unfold Z8k; rw [hx, hy]; exact dF (by omega)
 refine Z5 (sqr 3 rfl (pur 1 rfl (sp rfl (PE.add rfl rfl (by omega)) rfl (pur 1 rfl ?_))))
 exact ZX ⟨k + 1, by omega, fun i hi => by
   rcases Nat.lt_or_ge i k with h | h
   · exact hn i h
   · rw [show i = k by omega]; exact hnb⟩ (by dsimp only; omega) (by repeat' first | exact Sub.nil | apply Sub.cons | rfl | (simp [lk]; omega)) idH
 have hbn := Zcc (l := xs) (fun i hi => hn i (by omega))
 refine Za (Zb (Zb (Zr (sqt 1 rfl (pur 1 rfl (Z1 ?_))))))
 exact rtA rfl rfl rfl ⟨by simp only [Zz]; rw [hbn], rfl, rfl⟩ drp
theorem Z17 : Z0W Tryz.prog 52 = some 7 := by kernel_rfl
theorem Z9X : cal Tryz.prog 162 = true := by kernel_rfl
theorem Zbg : cal Tryz.prog 77 = true := by kernel_rfl
theorem Z8r : cal Tryz.prog 78 = true := by kernel_rfl
theorem Zd2 : cal Tryz.prog 82 = true := by kernel_rfl
theorem Zft : cal Tryz.prog 83 = true := by kernel_rfl
theorem Zc3 : cal Tryz.prog 85 = true := by kernel_rfl
theorem Zfo : cal Tryz.prog 86 = true := by kernel_rfl
theorem ZaS : cal Tryz.prog 87 = true := by kernel_rfl
theorem Zex : cal Tryz.prog 88 = true := by kernel_rfl
theorem Zef : cal Tryz.prog 89 = true := by kernel_rfl
theorem ZfT : cal Tryz.prog 90 = true := by kernel_rfl
theorem ZfA : cal Tryz.prog 91 = true := by kernel_rfl
theorem Zdr : cal Tryz.prog 92 = true := by kernel_rfl
theorem Zfb : cal Tryz.prog 93 = true := by kernel_rfl
theorem Zfx : cal Tryz.prog 94 = true := by kernel_rfl
theorem ZeB : cal Tryz.prog 95 = true := by kernel_rfl
theorem ZdS : cal Tryz.prog 96 = true := by kernel_rfl
theorem ZeQ : cal Tryz.prog 97 = true := by kernel_rfl
theorem Zg1 : cal Tryz.prog 98 = true := by kernel_rfl
theorem Zf6 : cal Tryz.prog 99 = true := by kernel_rfl
theorem Zba : Zx Tryz.prog 112 = some 1 := by kernel_rfl
theorem Z5h : ZJ Tryz.prog 113 0 = some 0 := by kernel_rfl
theorem Z3x : ZJ Tryz.prog 113 1 = some 1 := by kernel_rfl
theorem Z3l : ZJ Tryz.prog 52 2 = some 2 := by kernel_rfl
theorem Z2D : ZJ Tryz.prog 52 3 = some 3 := by kernel_rfl
theorem Z05 : ZJ Tryz.prog 52 5 = some 5 := by kernel_rfl
theorem Z4n : ZJ Tryz.prog 52 6 = some 6 := by kernel_rfl
theorem Za1 : ZJ Tryz.prog 59 0 = some 0 := by kernel_rfl
theorem Z4c : ZJ Tryz.prog 59 1 = some 1 := by kernel_rfl
theorem Za3 : ZJ Tryz.prog 86 0 = some 0 := by kernel_rfl
theorem Za7 : ZJ Tryz.prog 86 1 = some 1 := by kernel_rfl
theorem Z7r : Z0b Tryz.prog 47 = true := by kernel_rfl
theorem Z3K : Z0b Tryz.prog 49 = true := by kernel_rfl
theorem Z9L : Z0b Tryz.prog 50 = true := by kernel_rfl
theorem Zbb : Zs Tryz.prog 112 = some ([.nilFunc]) := by kernel_rfl
theorem Z7e (l : Ldg) (a1 a2 a3 a4 a5 : Option Addr) (k1 k2 k3 k4 k5 : Nat) (hN : l.loans.length ≤ 1000000) (hfo : -1000000 ≤ l.folk ∧ l.folk ≤ 1000000) (hye : -1000000 ≤ l.years ∧ l.years ≤ 1000000) (x : Ln) (b1 : Nat) (H : Z6) (R : Z3) [hB : Mem1 b1 (cel 52 (lgl l a1 a2 a3 a4 a5 k1 k2 k3 k4 k5)) H] :
    FnV Tryz.prog 91 [.agg (lnrow x).toArray, .pointer (some ⟨b1, 0, none⟩)] H R (.bool (l.farmer x.who && l.year x.year)) := by
 refine Z8 Tryz.func91 rfl Tryz.ntmps91 rfl ?_
 refine sqt 2 rfl (bx rfl rfl rfl (fun b2 => pur 1 rfl (sqt 11 rfl (spL rfl rfl (lhA (lgl l a1 a2 a3 a4 a5 k1 k2 k3 k4 k5) Z17 rfl rfl rfl) rfl (sp rfl (PE.fA Z5h rfl) rfl (spL rfl rfl (lh sc3 rfl rfl) rfl ?_))))))
 refine clV rfl Zdr rfl rfl (Z5v l a1 a2 a3 a4 a5 k1 k2 k3 k4 k5 x.who hN hfo hye _ _) ?_
 refine pur 1 rfl ?_
 refine Zp 8 rfl ?_ ?_ <;> intro g8
 refine Z0K rfl rfl rfl rfl rfl (lhA (lgl l a1 a2 a3 a4 a5 k1 k2 k3 k4 k5) Z17 rfl rfl rfl) rfl ?_
 refine spG rfl rfl rfl rfl (PE.fA Z3x rfl) rfl ?_
 refine Z0K rfl rfl rfl rfl rfl (lh sc3 rfl rfl) rfl ?_
 refine Z3c rfl rfl rfl rfl Z8r rfl rfl (Z5L l a1 a2 a3 a4 a5 k1 k2 k3 k4 k5 x.year hN hfo hye _ _) ?_
 refine pur 2 rfl (Z1 ?_)
 exact rtA rfl rfl rfl ⟨by simp_all [Zz], rfl, rfl⟩ drp
 refine pur 6 rfl (Z1 ?_)
 exact rtA rfl rfl rfl ⟨by simp_all [Zz], rfl, rfl⟩ drp
theorem Z78 (l : Ldg) (a1 a2 a3 a4 a5 : Option Addr) (k1 k2 k3 k4 k5 : Nat) (hN : l.loans.length ≤ 1000000) (hfo : -1000000 ≤ l.folk ∧ l.folk ≤ 1000000) (hye : -1000000 ≤ l.years ∧ l.years ≤ 1000000) (x : Ln) (b1 : Nat) (H : Z6) (R : Z3) [hB : Mem1 b1 (cel 52 (lgl l a1 a2 a3 a4 a5 k1 k2 k3 k4 k5)) H] :
    FnV Tryz.prog 93 [.agg (lnrow x).toArray, .pointer (some ⟨b1, 0, none⟩)] H R (.bool (l.farmer x.who && l.year x.year)) := by
 refine Z8 Tryz.func93 rfl Tryz.ntmps93 rfl ?_
 refine sqt 2 rfl (bx rfl rfl rfl (fun b2 => pur 1 rfl (sqt 11 rfl (spL rfl rfl (lhA (lgl l a1 a2 a3 a4 a5 k1 k2 k3 k4 k5) Z17 rfl rfl rfl) rfl (sp rfl (PE.fA Za1 rfl) rfl (spL rfl rfl (lh sc3 rfl rfl) rfl ?_))))))
 refine clV rfl Zdr rfl rfl (Z5v l a1 a2 a3 a4 a5 k1 k2 k3 k4 k5 x.who hN hfo hye _ _) ?_
 refine pur 1 rfl ?_
 refine Zp 8 rfl ?_ ?_ <;> intro g8
 refine Z0K rfl rfl rfl rfl rfl (lhA (lgl l a1 a2 a3 a4 a5 k1 k2 k3 k4 k5) Z17 rfl rfl rfl) rfl ?_
 refine spG rfl rfl rfl rfl (PE.fA Z4c rfl) rfl ?_
 refine Z0K rfl rfl rfl rfl rfl (lh sc3 rfl rfl) rfl ?_
 refine Z3c rfl rfl rfl rfl Z8r rfl rfl (Z5L l a1 a2 a3 a4 a5 k1 k2 k3 k4 k5 x.year hN hfo hye _ _) ?_
 refine pur 2 rfl (Z1 ?_)
 exact rtA rfl rfl rfl ⟨by simp_all [Zz], rfl, rfl⟩ drp
 refine pur 6 rfl (Z1 ?_)
 exact rtA rfl rfl rfl ⟨by simp_all [Zz], rfl, rfl⟩ drp
theorem Z6O (l : Ldg) (a1 a2 a3 a4 a5 : Option Addr) (k1 k2 k3 k4 k5 : Nat) (hN : l.loans.length ≤ 1000000) (hfo : -1000000 ≤ l.folk ∧ l.folk ≤ 1000000) (hye : -1000000 ≤ l.years ∧ l.years ≤ 1000000) (x : Pm) (b3 : Nat) (H : Z6) (R : Z3) [hB : Mem1 b3 (cel 112 [.func (.func 77) #[(l.v a1 a2 a3 a4 a5 k1 k2 k3 k4 k5)] #[]]) H] :
    FnV Tryz.prog 94 [.agg (Z1Q x).toArray, .pointer (some ⟨b3, 0, none⟩)] H R (.bool (l.person x.fr && l.person x.to)) := by
 refine Z8 Tryz.func94 rfl Tryz.ntmps94 rfl ?_
 refine sqt 2 rfl (bx rfl rfl rfl (fun b2 => pur 1 rfl (sqt 11 rfl (spL rfl rfl (lh Z3w rfl rfl) rfl (sp rfl (PE.fA Za3 rfl) rfl (spL rfl rfl (lh sc3 rfl rfl) rfl ?_))))))
 refine Z1M rfl rfl (Zbg) rfl rfl (Z3z l a1 a2 a3 a4 a5 k1 k2 k3 k4 k5 x.fr hN hfo hye _ _) ?_
 refine pur 1 rfl ?_
 refine Zp 8 rfl ?_ ?_ <;> intro g8
 refine Z0K rfl rfl rfl rfl rfl (lh Z3w rfl rfl) rfl ?_
 refine spG rfl rfl rfl rfl (PE.fA Za7 rfl) rfl ?_
 refine Z0K rfl rfl rfl rfl rfl (lh sc3 rfl rfl) rfl ?_
 refine Zb1 rfl rfl rfl rfl rfl (Zbg) rfl rfl (Z3z l a1 a2 a3 a4 a5 k1 k2 k3 k4 k5 x.to hN hfo hye _ _) ?_
 refine pur 2 rfl (Z1 ?_)
 exact rtA rfl rfl rfl ⟨by simp_all [Zz], rfl, rfl⟩ drp
 refine pur 6 rfl (Z1 ?_)
 exact rtA rfl rfl rfl ⟨by simp_all [Zz], rfl, rfl⟩ drp
theorem Z7Q (x : Pm) (H : Z6) (R : Z3) :
    FnV Tryz.prog 95 [.agg (Z1Q x).toArray] H R (.bool (decide (x.fr ≠ x.to))) := by
 refine Z8 Tryz.func95 rfl Tryz.ntmps95 rfl ?_
 refine sqt 2 rfl (bx rfl rfl rfl (fun b1 => pur 1 rfl (sqt 6 rfl (sp rfl (PE.fA Za3 rfl) rfl (spL rfl rfl (lh sc3 rfl rfl) rfl (sp rfl (PE.fA Za7 rfl) rfl (spL rfl rfl (lh sc3 rfl rfl) rfl (pur 2 rfl (Z1 ?_)))))))))
 exact rtA rfl rfl rfl ⟨rfl, rfl, rfl⟩ drp
theorem Z6s (n : Int) (H : Z6) (R : Z3) :
    FnV Tryz.prog 162 [.int .i64 n] H R (.bool false) := by
 refine Z8 Tryz.func162 rfl Tryz.ntmps162 rfl ?_
 refine sqt 1 rfl (pur 1 rfl (sqt 4 rfl (pur 4 rfl (Z1 ?_))))
 exact rtA rfl rfl rfl ⟨by simp [Zz], rfl, rfl⟩ drp
theorem Z6T (x y : Int) (H : Z6) (R : Z3) :
    FnV Tryz.prog 99 [.int .i64 x, .int .i64 y] H R (.int .i64 (Zb8 x y)) := by
 refine Z8 Tryz.func99 rfl Tryz.ntmps99 rfl ?_
 refine sqt 1 rfl (pur 1 rfl (sqt 3 rfl (pur 1 rfl ?_)))
 refine clV rfl Z9X rfl rfl (Z6s x _ _) ?_
 refine pur 1 rfl (sqt 3 rfl (pur 1 rfl ?_))
 refine clV rfl Z9X rfl rfl (Z6s y _ _) ?_
 refine pur 1 rfl (Z0 (sqt 1 rfl (pur 1 rfl ?_)))
 refine Z2 rfl ?_ ?_ <;> intro hc0
 exact absurd hc0 (by first | (simp; done) | (simp_all; done))
 refine Z5 (Z0 (sqt 1 rfl (pur 1 rfl ?_)))
 refine Z2 rfl ?_ ?_ <;> intro hc2
 exact absurd hc2 (by first | (simp; done) | (simp_all; done))
 refine Z5 (Z0 (sqt 3 rfl (pur 3 rfl ?_)))
 refine Z2 rfl ?_ ?_ <;> intro hc3
 refine sqt 1 rfl (pur 1 rfl (Z1 ?_))
 exact rtA rfl rfl rfl ⟨by simp only [Zz]; unfold Zb8; first | (rw [hc3, hc4]; rfl) | (rw [hc3]; rfl), rfl, rfl⟩ drp
 refine Z5 (Z0 (sqt 3 rfl (pur 3 rfl ?_)))
 refine Z2 rfl ?_ ?_ <;> intro hc4
 refine sqt 1 rfl (pur 1 rfl (Z1 ?_))
 exact rtA rfl rfl rfl ⟨by simp only [Zz]; unfold Zb8; first | (rw [hc3, hc4]; rfl) | (rw [hc3]; rfl), rfl, rfl⟩ drp
 refine Z5 (sqt 1 rfl (pur 1 rfl (Z1 ?_)))
 exact rtA rfl rfl rfl ⟨by simp only [Zz]; unfold Zb8; first | (rw [hc3, hc4]; rfl) | (rw [hc3]; rfl), rfl, rfl⟩ drp
theorem Z74 (x y : Ln) (H : Z6) (R : Z3) :
    FnV Tryz.prog 98 [.agg (lnrow x).toArray, .agg (lnrow y).toArray] H R (.int .i64 (Zb8 x.year y.year)) := by
 refine Z8 Tryz.func98 rfl Tryz.ntmps98 rfl ?_
 refine sqt 3 rfl (bx rfl rfl rfl (fun b2 => bx rfl rfl rfl (fun b3 => pur 1 rfl (sqt 6 rfl (sp rfl (PE.fA Z4c rfl) rfl (spL rfl rfl (lh sc3 rfl rfl) rfl (sp rfl (PE.fA Z4c rfl) rfl (spL rfl rfl (lh sc3 rfl rfl) rfl ?_))))))))
 refine clV rfl Zf6 rfl rfl (Z6T _ _ _ _) ?_
 refine pur 1 rfl (Z1 ?_)
 exact rtA rfl rfl rfl ⟨rfl, rfl, rfl⟩ drp
theorem Z8a (xs : List Ln) (a : Option Addr) (c : Nat) (hl : xs.length ≤ 1000000) (H : Z6) (R : Z3) [hR : MemRows a 3 (lnrows xs) R] :
    FnV Tryz.prog 97 [.slice a xs.length c, .func (.func 98) #[] #[]] H R (.bool (Z4M xs)) := by
 refine Z8 Tryz.func97 rfl Tryz.ntmps97 rfl ?_
 refine sqt 1 rfl (pur 1 rfl (Z0 (sqt 4 rfl (pur 1 rfl (sp rfl (PE.lenSl Z2V rfl) rfl (sp rfl (PE.sub rfl rfl (by omega)) rfl (pur 1 rfl (Z4 ?_))))))))
 refine Zc (ι := {k : Nat // k ≤ xs.length ∧ ∀ i, k ≤ i + 1 → i + 1 < xs.length → Z8D xs i = false}) (fun k => ⟨[(0, .slice a xs.length c), (1, .func (.func 98) #[] #[]), (5, .int .i64 ((k.1 : Int) - 1))], H, R⟩) (fun k => k.1) ⟨xs.length, by omega, fun i h1 h2 => by omega⟩ ?_ (fun k => ?_)
 exact Zk idH
 obtain ⟨k, hk, hn⟩ := k
 dsimp only at hk hn ⊢
 refine Z0 (sqt 2 rfl (pur 2 rfl ?_))
 refine Z2 rfl ?_ ?_ <;> intro hc0 <;> try simp only [cS] at hc0
 obtain ⟨k, rfl⟩ : ∃ j, k = j + 2 := ⟨k - 2, by omega⟩
 obtain ⟨y, hy⟩ : ∃ y, xs[k + 1]? = some y := ⟨_, List.getElem?_eq_getElem (by omega)⟩
 obtain ⟨x, hx⟩ : ∃ x, xs[k]? = some x := ⟨_, List.getElem?_eq_getElem (by omega)⟩
 rw [show (((k + 2 : Nat) : Int) - 1) = (k + 1 : Nat) from by omega]
 refine Zl (a := a) (sz := 3) (rows := lnrows xs) (by intro h0; simp [lnrows] at h0; simp [h0] at hx) (fun b off he => ?_)
 subst he
 refine Z5 (Z0 (Z4 (Z0 ?_)))
 refine Z9 [0, 0, 0, 6, 14, 0, 0, 64, 224, 480, 1023, 2047] (tks 0 4 (.ld 4 (tks 5 4 (.ld 9 (.big 10 (.tk 11 .done)))))) Zo (by kernel_rfl) ?_
 refine Zf 3 rfl (tk rfl (PE.indexAddr ZbK rfl rfl (by omega) (by omega)) rfl (ld rfl rfl (lfA Z8h (row := lnrow y) (Z0U hy) rfl) rfl (Zf 2 rfl (tk rfl (PE.sub rfl rfl (by omega)) rfl (tk rfl (PE.indexAddr ZbK rfl rfl (by omega) (by omega)) rfl (ld rfl rfl (lfA Z8h (row := lnrow x) (by rw [show (((k + 1 : Nat) : Int) - 1).toNat = k from by omega]; exact Z0U hx) rfl) rfl ?_))))))
 refine Z1M rfl rfl (Zg1) rfl rfl (Z74 y x _ _) ?_
 refine bgT (Zf 1 rfl ?_)
 refine Z2 rfl ?_ ?_ <;> intro hc1 <;> try simp only [cS] at hc1
 have hlt : y.year < x.year := by unfold Zb8 at hc1; by_cases h : y.year < x.year; exact h; by_cases h2 : x.year < y.year <;> simp [h, h2] at hc1
 have hbn := Z8y hx hy hlt
 refine sqt 1 rfl (pur 1 rfl (Z1 ?_))
 exact rtA rfl rfl rfl ⟨by simp only [Zz]; rw [hbn], rfl, rfl⟩ drp
 have hge : ¬ y.year < x.year := fun h => by unfold Zb8 at hc1; simp [h] at hc1
 refine Z5 (sqr 3 rfl (pur 1 rfl (sp rfl (PE.sub rfl rfl (by omega)) rfl (pur 1 rfl ?_))))
 refine Zi ⟨k + 1, by omega, fun i h1 h2 => ?_⟩ (by dsimp only; omega) idH
 rcases Nat.lt_or_ge k i with h3 | h3
 · exact hn i (by omega) h2
 · obtain rfl : i = k := by omega
   unfold Z8D
   rw [hx, hy]
   exact dF hge
 have hbn := ZaY (l := xs) (fun i hi => hn i (by omega) hi)
 refine Za (Zb (Zb (Zr (sqt 1 rfl (pur 1 rfl (Z1 ?_))))))
 exact rtA rfl rfl rfl ⟨by simp only [Zz]; rw [hbn], rfl, rfl⟩ drp
set_option maxHeartbeats 1000000 in
theorem Z1d (l : Ldg) (a1 a2 a3 a4 a5 : Option Addr) (k1 k2 k3 k4 k5 : Nat) (hB : l.bad.length ≤ 1000000) (hF : l.forg.length ≤ 1000000) (hN : l.loans.length ≤ 1000000) (hP : l.pays.length ≤ 1000000) (hQ : l.proms.length ≤ 1000000) (H : Z6) (R : Z3) [hR1 : MemRows a1 1 (irows l.bad) R] [hR2 : MemRows a2 1 (irows l.forg) R] [hR3 : MemRows a3 3 (lnrows l.loans) R] [hR4 : MemRows a4 3 (lnrows l.pays) R] [hR5 : MemRows a5 3 (pmrows l.proms) R] :
    FnV Tryz.prog 41 [(l.v a1 a2 a3 a4 a5 k1 k2 k3 k4 k5)] H R (.int .i64 l.check) := by
 refine Z8 Tryz.func41 rfl Tryz.ntmps41 rfl ?_
 refine sqt 2 rfl (bx rfl rfl rfl (fun b1 => pur 1 rfl (sqt 4 rfl (spL rfl rfl (lhA (lgl l a1 a2 a3 a4 a5 k1 k2 k3 k4 k5) Z17 rfl rfl rfl) rfl (sp rfl (PE.makeFunc rfl rfl) rfl (alc rfl Zbb rfl (fun b3 => ?_)))))))
 refine sto rfl rfl rfl Zba rfl rfl rfl rfl ?_
 refine Z0 (Z4 (sqt 29 rfl (sp rfl (PE.fA Z1Y rfl) rfl (spL rfl rfl (lh sc3 rfl rfl) rfl ?_))))
 refine clV rfl Z4k rfl rfl (Z2d _ _ _ _ _) ?_
 refine pur 2 rfl ?_
 refine Zp 11 rfl ?_ ?_ <;> intro g11
 refine pur 24 rfl ?_
 refine Zy rfl ?_
 refine sqt 1 rfl (pur 1 rfl (Z1 ?_))
 exact rtA rfl rfl rfl ⟨congrArg (Value.int .i64) (by simp_all only [Zz, Ldg.check, cond_true, cond_false, Bool.not_true, Bool.not_false, Bool.not_eq_true', Bool.not_eq_false', Bool.true_or, Bool.or_true, Bool.false_or, Bool.or_false]), rfl, rfl⟩ drp
 refine spG rfl rfl rfl rfl (PE.fA Z1q rfl) rfl ?_
 refine Z0K rfl rfl rfl rfl rfl (lh sc3 rfl rfl) rfl ?_
 refine Z3c rfl rfl rfl rfl Z4k rfl rfl (Z2d _ _ _ _ _) ?_
 refine pur 3 rfl ?_
 refine Zp 17 rfl ?_ ?_ <;> intro g17
 refine pur 18 rfl ?_
 refine Zy rfl ?_
 refine sqt 1 rfl (pur 1 rfl (Z1 ?_))
 exact rtA rfl rfl rfl ⟨congrArg (Value.int .i64) (by simp_all only [Zz, Ldg.check, cond_true, cond_false, Bool.not_true, Bool.not_false, Bool.not_eq_true', Bool.not_eq_false', Bool.true_or, Bool.or_true, Bool.false_or, Bool.or_false]), rfl, rfl⟩ drp
 refine spG rfl rfl rfl rfl (PE.fA Z04 rfl) rfl ?_
 refine Z0K rfl rfl rfl rfl rfl (lh Z40 rfl rfl) rfl ?_
 refine spG rfl rfl rfl rfl (PE.lenSl Z6l rfl) rfl ?_
 refine pur 3 rfl ?_
 refine Zp 23 rfl ?_ ?_ <;> intro g23
 refine pur 12 rfl ?_
 refine Zy rfl ?_
 refine sqt 1 rfl (pur 1 rfl (Z1 ?_))
 exact rtA rfl rfl rfl ⟨congrArg (Value.int .i64) (by simp_all only [Zz, Ldg.check, cond_true, cond_false, Bool.not_true, Bool.not_false, Bool.not_eq_true', Bool.not_eq_false', Bool.true_or, Bool.or_true, Bool.false_or, Bool.or_false]), rfl, rfl⟩ drp
 refine spG rfl rfl rfl rfl (PE.fA Z05 rfl) rfl ?_
 refine Z0K rfl rfl rfl rfl rfl (lh Z3K rfl rfl) rfl ?_
 refine spG rfl rfl rfl rfl (PE.lenSl Z2V rfl) rfl ?_
 refine pur 3 rfl ?_
 refine Zp 29 rfl ?_ ?_ <;> intro g29
 refine pur 6 rfl ?_
 refine Zy rfl ?_
 refine sqt 1 rfl (pur 1 rfl (Z1 ?_))
 exact rtA rfl rfl rfl ⟨congrArg (Value.int .i64) (by simp_all only [Zz, Ldg.check, cond_true, cond_false, Bool.not_true, Bool.not_false, Bool.not_eq_true', Bool.not_eq_false', Bool.true_or, Bool.or_true, Bool.false_or, Bool.or_false]), rfl, rfl⟩ drp
 refine spG rfl rfl rfl rfl (PE.fA Z4n rfl) rfl ?_
 refine Z0K rfl rfl rfl rfl rfl (lh Z9L rfl rfl) rfl ?_
 refine spG rfl rfl rfl rfl (PE.lenSl ZaR rfl) rfl ?_
 refine pur 3 rfl ?_
 refine Z2 rfl ?_ ?_ <;> intro hc0
 refine sqt 1 rfl (pur 1 rfl (Z1 ?_))
 exact rtA rfl rfl rfl ⟨congrArg (Value.int .i64) (by simp_all only [Zz, Ldg.check, cond_true, cond_false, Bool.not_true, Bool.not_false, Bool.not_eq_true', Bool.not_eq_false', Bool.true_or, Bool.or_true, Bool.false_or, Bool.or_false]), rfl, rfl⟩ drp
 have hbd : (1 ≤ l.folk ∧ l.folk ≤ 7) ∧ 1 ≤ l.years ∧ l.years ≤ 9 := by
   simp_all [inL]
 have hfo : -1000000 ≤ l.folk ∧ l.folk ≤ 1000000 := by omega
 have hye : -1000000 ≤ l.years ∧ l.years ≤ 1000000 := by omega
 refine sqt 17 rfl (sp rfl (PE.fA Z04 rfl) rfl (spL rfl rfl (lh Z40 rfl rfl) rfl ?_))
 refine clV rfl Zd2 rfl rfl (Z1U l.loans a3 k3 83 [] [] (fun x => buL x.bu) Zft (by omega) _ _ (fun _ _ x _ => Z4g x _ _)) ?_
 refine pur 2 rfl ?_
 refine Zp 40 rfl ?_ ?_ <;> intro g40
 refine pur 12 rfl ?_
 refine Zy rfl ?_
 refine sqt 1 rfl (pur 1 rfl (Z1 ?_))
 exact rtA rfl rfl rfl ⟨congrArg (Value.int .i64) (by simp_all only [Zz, Ldg.check, cond_true, cond_false, Bool.not_true, Bool.not_false, Bool.not_eq_true', Bool.not_eq_false', Bool.true_or, Bool.or_true, Bool.false_or, Bool.or_false]), rfl, rfl⟩ drp
 refine spG rfl rfl rfl rfl (PE.fA Z05 rfl) rfl ?_
 refine Z0K rfl rfl rfl rfl rfl (lh Z3K rfl rfl) rfl ?_
 refine Z3c rfl rfl rfl rfl Zc3 rfl rfl (Z2I l.pays a4 k4 86 [] [] (fun x => buL x.bu) Zfo (by omega) _ _ (fun _ _ x _ => Z4t x _ _)) ?_
 refine pur 3 rfl ?_
 refine Zp 46 rfl ?_ ?_ <;> intro g46
 refine pur 6 rfl ?_
 refine Zy rfl ?_
 refine sqt 1 rfl (pur 1 rfl (Z1 ?_))
 exact rtA rfl rfl rfl ⟨congrArg (Value.int .i64) (by simp_all only [Zz, Ldg.check, cond_true, cond_false, Bool.not_true, Bool.not_false, Bool.not_eq_true', Bool.not_eq_false', Bool.true_or, Bool.or_true, Bool.false_or, Bool.or_false]), rfl, rfl⟩ drp
 refine spG rfl rfl rfl rfl (PE.fA Z4n rfl) rfl ?_
 refine Z0K rfl rfl rfl rfl rfl (lh Z9L rfl rfl) rfl ?_
 refine Z3c rfl rfl rfl rfl ZaS rfl rfl (Z0S l.proms a5 k5 88 [] [] (fun x => buL x.bu) Zex (by omega) _ _ (fun _ _ x _ => Z6X x _ _)) ?_
 refine pur 3 rfl ?_
 refine Z2 rfl ?_ ?_ <;> intro hc1
 refine sqt 1 rfl (pur 1 rfl (Z1 ?_))
 exact rtA rfl rfl rfl ⟨congrArg (Value.int .i64) (by simp_all only [Zz, Ldg.check, cond_true, cond_false, Bool.not_true, Bool.not_false, Bool.not_eq_true', Bool.not_eq_false', Bool.true_or, Bool.or_true, Bool.false_or, Bool.or_false]), rfl, rfl⟩ drp
 refine sqt 15 rfl (sp rfl (PE.fA Z3l rfl) rfl (spL rfl rfl (lh Z7r rfl rfl) rfl (spL rfl rfl (lhA (lgl l a1 a2 a3 a4 a5 k1 k2 k3 k4 k5) Z17 rfl rfl rfl) rfl (sp rfl (PE.makeFunc rfl rfl) rfl ?_))))
 refine clV rfl Zef rfl rfl (Z0d l.bad a1 k1 78 [(l.v a1 a2 a3 a4 a5 k1 k2 k3 k4 k5)] [] l.year Z8r (by omega) _ _ (fun _ x _ => Z5L l a1 a2 a3 a4 a5 k1 k2 k3 k4 k5 x (by omega) hfo hye _ _)) ?_
 refine pur 2 rfl ?_
 refine Zp 59 rfl ?_ ?_ <;> intro g59
 refine pur 8 rfl ?_
 refine Zy rfl ?_
 refine sqt 1 rfl (pur 1 rfl (Z1 ?_))
 exact rtA rfl rfl rfl ⟨congrArg (Value.int .i64) (by simp_all only [Zz, Ldg.check, cond_true, cond_false, Bool.not_true, Bool.not_false, Bool.not_eq_true', Bool.not_eq_false', Bool.true_or, Bool.or_true, Bool.false_or, Bool.or_false]), rfl, rfl⟩ drp
 refine spG rfl rfl rfl rfl (PE.fA Z2D rfl) rfl ?_
 refine Z0K rfl rfl rfl rfl rfl (lh Z7r rfl rfl) rfl (Z0K rfl rfl rfl rfl rfl (lhA (lgl l a1 a2 a3 a4 a5 k1 k2 k3 k4 k5) Z17 rfl rfl rfl) rfl ?_)
 refine spG rfl rfl rfl rfl (PE.makeFunc rfl rfl) rfl ?_
 refine Z3c rfl rfl rfl rfl Zef rfl rfl (Z0d l.forg a2 k2 90 [(l.v a1 a2 a3 a4 a5 k1 k2 k3 k4 k5)] [] l.loan ZfT (by omega) _ _ (fun _ x _ => Zca l a1 a2 a3 a4 a5 k1 k2 k3 k4 k5 x (by omega) hfo hye _ _)) ?_
 refine pur 3 rfl ?_
 refine Z2 rfl ?_ ?_ <;> intro hc2
 refine sqt 1 rfl (pur 1 rfl (Z1 ?_))
 exact rtA rfl rfl rfl ⟨congrArg (Value.int .i64) (by simp_all only [Zz, Ldg.check, cond_true, cond_false, Bool.not_true, Bool.not_false, Bool.not_eq_true', Bool.not_eq_false', Bool.true_or, Bool.or_true, Bool.false_or, Bool.or_false]), rfl, rfl⟩ drp
 refine sqt 13 rfl (sp rfl (PE.fA Z04 rfl) rfl (spL rfl rfl (lh Z40 rfl rfl) rfl (sp rfl (PE.makeFunc rfl rfl) rfl ?_)))
 refine clV rfl Zd2 rfl rfl (Z1U l.loans a3 k3 91 [] [_] (fun x => l.farmer x.who && l.year x.year) ZfA (by omega) _ _ (fun _ _ x _ => Z7e l a1 a2 a3 a4 a5 k1 k2 k3 k4 k5 (by omega) hfo hye x b1 _ _)) ?_
 refine pur 2 rfl ?_
 refine Zp 73 rfl ?_ ?_ <;> intro g73
 refine pur 7 rfl ?_
 refine Zy rfl ?_
 refine sqt 1 rfl (pur 1 rfl (Z1 ?_))
 exact rtA rfl rfl rfl ⟨congrArg (Value.int .i64) (by simp_all only [Zz, Ldg.check, cond_true, cond_false, Bool.not_true, Bool.not_false, Bool.not_eq_true', Bool.not_eq_false', Bool.true_or, Bool.or_true, Bool.false_or, Bool.or_false]), rfl, rfl⟩ drp
 refine spG rfl rfl rfl rfl (PE.fA Z05 rfl) rfl ?_
 refine Z0K rfl rfl rfl rfl rfl (lh Z3K rfl rfl) rfl ?_
 refine spG rfl rfl rfl rfl (PE.makeFunc rfl rfl) rfl ?_
 refine Z3c rfl rfl rfl rfl Zc3 rfl rfl (Z2I l.pays a4 k4 93 [] [_] (fun x => l.farmer x.who && l.year x.year) Zfb (by omega) _ _ (fun _ _ x _ => Z78 l a1 a2 a3 a4 a5 k1 k2 k3 k4 k5 (by omega) hfo hye x b1 _ _)) ?_
 refine pur 3 rfl ?_
 refine Z2 rfl ?_ ?_ <;> intro hc3
 refine sqt 1 rfl (pur 1 rfl (Z1 ?_))
 exact rtA rfl rfl rfl ⟨congrArg (Value.int .i64) (by simp_all only [Zz, Ldg.check, cond_true, cond_false, Bool.not_true, Bool.not_false, Bool.not_eq_true', Bool.not_eq_false', Bool.true_or, Bool.or_true, Bool.false_or, Bool.or_false]), rfl, rfl⟩ drp
 refine sqt 6 rfl (sp rfl (PE.fA Z4n rfl) rfl (spL rfl rfl (lh Z9L rfl rfl) rfl (sp rfl (PE.makeFunc rfl rfl) rfl ?_)))
 refine clV rfl ZaS rfl rfl (Z0S l.proms a5 k5 94 [] [_] (fun x => l.person x.fr && l.person x.to) Zfx (by omega) _ _ (fun _ _ x _ => Z6O l a1 a2 a3 a4 a5 k1 k2 k3 k4 k5 (by omega) hfo hye x b3 _ _)) ?_
 refine pur 2 rfl ?_
 refine Z2 rfl ?_ ?_ <;> intro hc4
 refine sqt 1 rfl (pur 1 rfl (Z1 ?_))
 exact rtA rfl rfl rfl ⟨congrArg (Value.int .i64) (by simp_all only [Zz, Ldg.check, cond_true, cond_false, Bool.not_true, Bool.not_false, Bool.not_eq_true', Bool.not_eq_false', Bool.true_or, Bool.or_true, Bool.false_or, Bool.or_false]), rfl, rfl⟩ drp
 refine sqt 5 rfl (sp rfl (PE.fA Z4n rfl) rfl (spL rfl rfl (lh Z9L rfl rfl) rfl ?_))
 refine clV rfl ZaS rfl rfl (Z0S l.proms a5 k5 95 [] [] (fun x => decide (x.fr ≠ x.to)) ZeB (by omega) _ _ (fun _ _ x _ => Z7Q x _ _)) ?_
 refine pur 2 rfl ?_
 refine Z2 rfl ?_ ?_ <;> intro hc5
 refine sqt 1 rfl (pur 1 rfl (Z1 ?_))
 exact rtA rfl rfl rfl ⟨congrArg (Value.int .i64) (by simp_all only [Zz, Ldg.check, cond_true, cond_false, Bool.not_true, Bool.not_false, Bool.not_eq_true', Bool.not_eq_false', Bool.true_or, Bool.or_true, Bool.false_or, Bool.or_false]), rfl, rfl⟩ drp
 refine sqt 17 rfl (sp rfl (PE.fA Z3l rfl) rfl (spL rfl rfl (lh Z7r rfl rfl) rfl ?_))
 refine clV rfl ZdS rfl rfl (Z5w l.bad a1 k1 (by omega) _ _) ?_
 refine pur 2 rfl ?_
 refine Zp 96 rfl ?_ ?_ <;> intro g96
 refine pur 12 rfl ?_
 refine Zy rfl ?_
 refine sqt 1 rfl (pur 1 rfl (Z1 ?_))
 exact rtA rfl rfl rfl ⟨congrArg (Value.int .i64) (by simp_all only [Zz, Ldg.check, cond_true, cond_false, Bool.not_true, Bool.not_false, Bool.not_eq_true', Bool.not_eq_false', Bool.true_or, Bool.or_true, Bool.false_or, Bool.or_false]), rfl, rfl⟩ drp
 refine spG rfl rfl rfl rfl (PE.fA Z2D rfl) rfl ?_
 refine Z0K rfl rfl rfl rfl rfl (lh Z7r rfl rfl) rfl ?_
 refine Z3c rfl rfl rfl rfl ZdS rfl rfl (Z5w l.forg a2 k2 (by omega) _ _) ?_
 refine pur 3 rfl ?_
 refine Zp 102 rfl ?_ ?_ <;> intro g102
 refine pur 6 rfl ?_
 refine Zy rfl ?_
 refine sqt 1 rfl (pur 1 rfl (Z1 ?_))
 exact rtA rfl rfl rfl ⟨congrArg (Value.int .i64) (by simp_all only [Zz, Ldg.check, cond_true, cond_false, Bool.not_true, Bool.not_false, Bool.not_eq_true', Bool.not_eq_false', Bool.true_or, Bool.or_true, Bool.false_or, Bool.or_false]), rfl, rfl⟩ drp
 refine spG rfl rfl rfl rfl (PE.fA Z05 rfl) rfl ?_
 refine Z0K rfl rfl rfl rfl rfl (lh Z3K rfl rfl) rfl ?_
 refine Z3c rfl rfl rfl rfl ZeQ rfl rfl (Z8a l.pays a4 k4 (by omega) _ _) ?_
 refine pur 3 rfl ?_
 refine Z2 rfl ?_ ?_ <;> intro hc6
 refine sqt 1 rfl (pur 1 rfl (Z1 ?_))
 exact rtA rfl rfl rfl ⟨congrArg (Value.int .i64) (by simp_all only [Zz, Ldg.check, cond_true, cond_false, Bool.not_true, Bool.not_false, Bool.not_eq_true', Bool.not_eq_false', Bool.true_or, Bool.or_true, Bool.false_or, Bool.or_false]), rfl, rfl⟩ drp
 refine Z5 (sqt 1 rfl (pur 1 rfl (Z1 ?_)))
 exact rtA rfl rfl rfl ⟨congrArg (Value.int .i64) (by simp_all only [Zz, Ldg.check, cond_true, cond_false, Bool.not_true, Bool.not_false, Bool.not_eq_true', Bool.not_eq_false', Bool.true_or, Bool.or_true, Bool.false_or, Bool.or_false]), rfl, rfl⟩ drp
theorem ZfI : cal Tryz.prog 22 = true := by kernel_rfl
theorem Zbu : cal Tryz.prog 41 = true := by kernel_rfl
theorem Zf8 : cal Tryz.prog 55 = true := by kernel_rfl
theorem Zfe : ZB Tryz.prog 175 = some [(0, 7), (7, 10)] := by kernel_rfl
theorem ZeV : Zs Tryz.prog 175 = some ([.int .i64 0, .int .i64 0, .slice none 0 0, .slice none 0 0, .slice none 0 0, .slice none 0 0, .slice none 0 0, .int .i64 0, .int .i64 0, .int .i64 0, .int .i64 0, .int .i64 0, .int .i64 0, .int .i64 0, .int .i64 0, .int .i64 0, .int .i64 0]) := by kernel_rfl
theorem Z4T (xs : List Int) (a : Option Addr) (c : Nat) (v : Int) (hl : xs.length ≤ 9223372036854775807) (H : Z6) (R : Z3) [hR : MemRows a 1 (irows xs) R] :
    FnV Tryz.prog 55 [.slice a xs.length c, .int .i64 v] H R (.int .i64 (match xs.findIdx? (fun x => decide (v = x)) with | some k => (k : Int) | none => -1)) := by
 refine Z8 Tryz.func55 rfl Tryz.ntmps55 rfl ?_
 refine sqt 1 rfl (pur 1 rfl (Z0 (sqt 3 rfl (pur 1 rfl (sp rfl (PE.lenSl Z2x rfl) rfl (pur 1 rfl (Z4 ?_)))))))
 refine Zc (ι := {k : Nat // k ≤ xs.length ∧ ∀ x ∈ xs.take k, decide (v = x) = false}) (fun k => ⟨[(0, .slice a xs.length c), (1, .int .i64 v), (7, .int .i64 xs.length), (8, .int .i64 k.1)], H, R⟩) (fun k => xs.length - k.1) ⟨0, by simp⟩ ?_ (fun k => ?_)
 exact Zk idH
 obtain ⟨k, hk, hn⟩ := k
 dsimp only
 refine sqt 1 rfl (pur 1 rfl (Z0 ?_))
 refine Z2 rfl ?_ ?_ <;> intro hc0
 simp only [cS] at hc0
 obtain ⟨x, hx⟩ : ∃ x, xs[k]? = some x := ⟨_, List.getElem?_eq_getElem (by omega)⟩
 refine Zl (a := a) (sz := 1) (rows := irows xs) (by cases xs <;> simp_all [irows]) (fun b off he => ?_)
 subst he
 refine Z5 (Z0 (Z4 (sqt 2 rfl (pur 2 rfl (sqt 6 rfl (pur 3 rfl (sp rfl (PE.indexAddr Z73 rfl rfl (by omega) (by omega)) rfl (spL rfl rfl (lf0 sc3 (by simp [irows, hx]; rfl) rfl) rfl (pur 1 rfl ?_)))))))))
 refine Z2 rfl ?_ ?_ <;> intro hc1
 refine sqt 2 rfl (pur 2 rfl (Z1 ?_))
 first | (exact rtA rfl rfl rfl ⟨by rw [Zn hx hn hc1]; rfl, rfl, rfl⟩ idH) | (exact rtA rfl rfl rfl ⟨by rw [Zj (by simpa using hn)]; rfl, rfl, rfl⟩ idH)
 refine Z5 (sqr 2 rfl (sp rfl (PE.add rfl rfl (by omega)) rfl (pur 1 rfl ?_)))
 exact Ze ⟨k + 1, by omega, ZF hx hn hc1⟩ idH
 simp only [cS] at hc0
 obtain rfl : k = xs.length := by omega
 refine Za (Zb (Zb (Zr (sqt 1 rfl (pur 1 rfl (Z1 ?_))))))
 first | (exact rtA rfl rfl rfl ⟨by rw [Zn hx hn hc1]; rfl, rfl, rfl⟩ idH) | (exact rtA rfl rfl rfl ⟨by rw [Zj (by simpa using hn)]; rfl, rfl, rfl⟩ idH)
theorem Z2Y (xs : List Int) (a : Option Addr) (c : Nat) (v : Int) (hl : xs.length ≤ 9223372036854775807) (H : Z6) (R : Z3) [hR : MemRows a 1 (irows xs) R] :
    FnV Tryz.prog 22 [.slice a xs.length c, .int .i64 v] H R (.bool (xs.any fun x => decide (v = x))) := by
 refine Z8 Tryz.func22 rfl Tryz.ntmps22 rfl ?_
 refine sqt 1 rfl (pur 1 rfl (sqt 5 rfl (pur 2 rfl ?_)))
 refine clV rfl Zf8 rfl rfl (Z4T xs a c v hl _ _) ?_
 refine pur 2 rfl (Z1 ?_)
 exact rtA rfl rfl rfl ⟨by simp only [Zz]; exact ZY _ _, rfl, rfl⟩ drp
theorem Z50 (l : Ldg) (a1 a2 a3 a4 a5 : Option Addr) (k1 k2 k3 k4 k5 : Nat) (hl : l.ok) (i : Nat) (hi : i < l.loans.length) (H : Z6) (R : Z3) [hR2 : MemRows a2 1 (irows l.forg) R] [hR3 : MemRows a3 3 (lnrows l.loans) R] :
    FnV Tryz.prog 81 [(l.v a1 a2 a3 a4 a5 k1 k2 k3 k4 k5), .int .i64 i] H R (.int .i64 (l.asked i)) := by
 have h1 := hl.nl
 have h2 : l.forg.length ≤ 1000000 := Z6K hl
 have hcon : (l.forg.any fun x => decide ((i : Int) = x)) = l.forg.contains (i : Int) := by rw [Bool.eq_iff_iff]; simp
 refine Z8 Tryz.func81 rfl Tryz.ntmps81 rfl ?_
 refine sqt 2 rfl (bx rfl rfl rfl (fun b2 => pur 1 rfl (Z0 (sqt 4 rfl (sp rfl (PE.fA Z2D rfl) rfl (spL rfl rfl (lh Z7r rfl rfl) rfl (pur 1 rfl ?_)))))))
 refine cl rfl ZfI rfl rfl (Z2Y l.forg a2 k2 (i : Int) (by omega) _ _) ?_
 rintro _ _ R1 ⟨rfl, rfl, hR1⟩
 obtain rfl := hR1.symm
 clear hR1
 rw [hcon]
 refine Z2 rfl ?_ ?_ <;> intro hc0 <;> try simp only [cS] at hc0
 have hv : l.asked i = 0 := by unfold Ldg.asked; rw [hc0]; rfl
 refine sqt 1 rfl (pur 1 rfl (Z1 ?_))
 exact rtA rfl rfl rfl ⟨by rw [hv]; rfl, rfl, rfl⟩ drp
 obtain ⟨x, hx⟩ : ∃ x, l.loans[i]? = some x := ⟨_, List.getElem?_eq_getElem hi⟩
 have hxb := (hl.loans x (List.mem_of_getElem? hx)).1
 have hv : l.asked i = x.bu + (x.bu + 9) / 10 := by unfold Ldg.asked; rw [hc0, hx]; rfl
 refine Zl (a := a3) (sz := 3) (rows := lnrows l.loans) (by intro h0; simp [lnrows] at h0; simp [h0] at hx) (fun bf of he => ?_)
 subst he
 refine Z5 (sqt 7 rfl (sp rfl (PE.fA Z04 rfl) rfl (spL rfl rfl (lh Z40 rfl rfl) rfl (pur 1 rfl (sp rfl (PE.indexAddr ZaL rfl rfl (by omega) (by omega)) rfl (sp rfl (PE.fA Z7O rfl) rfl (spL rfl rfl (lf (x := .int .i64 x.bu) sc3 (Z0U hx) rfl) rfl (pur 1 rfl (sqt 6 rfl (pur 2 rfl (sp rfl (PE.add rfl rfl (by omega)) rfl (sp rfl (PE.quo rfl rfl (by omega)) rfl (sp rfl (PE.add rfl rfl (by omega)) rfl (pur 1 rfl (Z1 ?_)))))))))))))))
 exact rtA rfl rfl rfl ⟨by rw [hv]; rfl, rfl, rfl⟩ drp
theorem Z99 (n m : Int) (a : Option Addr) (c : Nat) (H : Z6) (R : Z3) [hR : MemRows a 1 [[.int .i64 m]] R] :
    FnV Tryz.prog 59 [.int .i64 n, .slice a 1 c] H R (.int .i64 (min n m)) := by
 refine Z8 Tryz.func59 rfl Tryz.ntmps59 rfl ?_
 refine sqt 1 rfl (pur 1 rfl (Z0 (sqt 3 rfl (pur 1 rfl (sp rfl (PE.lenSl Z2x rfl) rfl (pur 1 rfl (Z4 ?_)))))))
 refine Zl (a := a) (sz := 1) (rows := [[.int .i64 m]]) (by simp) (fun b off he => ?_)
 subst he
 refine Zc (ι := {k : Nat // k ≤ 1}) (fun k => ⟨[(0, .int .i64 (bif k.1 == 0 then n else min n m)), (7, .slice (some ⟨b, off, none⟩) 1 c), (8, .int .i64 1), (9, .int .i64 k.1)], H, R⟩) (fun k => 1 - k.1) ⟨0, by omega⟩ ?_ (fun k => ?_)
 exact Zk idH
 obtain ⟨k, hk⟩ := k
 dsimp only
 refine sqt 1 rfl (pur 1 rfl (Z0 ?_))
 refine Z2 rfl ?_ ?_ <;> intro hc0
 simp only [cS] at hc0
 obtain rfl : k = 0 := by omega
 refine Z5 (Z0 (Z4 (sqt 3 rfl (sp rfl (PE.indexAddr Z73 rfl rfl (by omega) (by omega)) rfl (spL rfl rfl (lf0 sc3 (row := [.int .i64 m]) rfl rfl) rfl (pur 1 rfl (sqr 4 rfl (pur 2 rfl (sp rfl (PE.min rfl rfl) rfl (pur 1 rfl (sqr 2 rfl (sp rfl (PE.add rfl rfl (by omega)) rfl (pur 1 rfl ?_)))))))))))))
 exact Zi ⟨1, by omega⟩ (by simp) idH
 try simp only [cS] at hc0
 refine Za (Zb (Zb (Zr (sqt 2 rfl (pur 2 rfl (Z1 ?_))))))
 obtain rfl : k = 1 := by omega
 exact rtA rfl rfl rfl ⟨rfl, rfl, rfl⟩ drp
theorem Z0y (l : Ldg) (a1 a2 a3 a4 a5 : Option Addr) (k1 k2 k3 k4 k5 : Nat) (hB : l.bad.length ≤ 1000000) (hF : l.forg.length ≤ 1000000) (hN : l.loans.length ≤ 1000000) (hP : l.pays.length ≤ 1000000) (hQ : l.proms.length ≤ 1000000) (H : Z6) (R : Z3) [hR1 : MemRows a1 1 (irows l.bad) R] [hR2 : MemRows a2 1 (irows l.forg) R] [hR3 : MemRows a3 3 (lnrows l.loans) R] [hR4 : MemRows a4 3 (lnrows l.pays) R] [hR5 : MemRows a5 3 (pmrows l.proms) R] :
    Fn Tryz.prog 44 [(l.v a1 a2 a3 a4 a5 k1 k2 k3 k4 k5)] H R (fun v H' R' => ((l.check ≠ 0 ∧ v = .tuple #[.pointer none, .int .i64 l.check] ∧ H' = H) ∨ (l.check = 0 ∧ ∃ b, v = .tuple #[.pointer (some ⟨b, 0, none⟩), .int .i64 0] ∧ H' = (b, cel 175 ((lgl l a1 a2 a3 a4 a5 k1 k2 k3 k4 k5) ++ Zd (List.replicate 10 0))) :: H)) ∧ R' = R) := by
 refine Z8 Tryz.func44 rfl Tryz.ntmps44 rfl ?_
 refine sqt 3 rfl (bx rfl rfl rfl (fun b1 => pur 2 rfl (Z0 (sqt 3 rfl (spL rfl rfl (lhA (lgl l a1 a2 a3 a4 a5 k1 k2 k3 k4 k5) Z17 rfl rfl rfl) rfl ?_)))))
 refine clV rfl Zbu rfl rfl (Z1d l a1 a2 a3 a4 a5 k1 k2 k3 k4 k5 hB hF hN hP hQ _ _) ?_
 refine pur 1 rfl (sqt 2 rfl (pur 2 rfl ?_))
 refine Z2 rfl ?_ ?_ <;> intro hc0 <;> try simp only [cS] at hc0
 have hck : l.check ≠ 0 := by simpa using hc0
 refine sqt 3 rfl (pur 3 rfl (Z1 ?_))
 first
   | exact rtB rfl rfl rfl rfl ⟨.inl ⟨hck, rfl, rfl⟩, rfl⟩ drp
   | exact rtB rfl rfl rfl rfl ⟨.inr ⟨hck, b12, rfl, rfl⟩, rfl⟩ (fun w h => h.del b1)
 have hck : l.check = 0 := by simpa using hc0
 refine Z5 (sqt 5 rfl (spL rfl rfl (lhA (lgl l a1 a2 a3 a4 a5 k1 k2 k3 k4 k5) Z17 rfl rfl rfl) rfl (sp rfl (PE.build (out := ((lgl l a1 a2 a3 a4 a5 k1 k2 k3 k4 k5) ++ Zd (List.replicate 10 0))) Zfe ZeV rfl (by kernel_rfl)) rfl (bx rfl rfl rfl (fun b12 => pur 2 rfl (Z1 ?_))))))
 first
   | exact rtB rfl rfl rfl rfl ⟨.inl ⟨hck, rfl, rfl⟩, rfl⟩ drp
   | exact rtB rfl rfl rfl rfl ⟨.inr ⟨hck, b12, rfl, rfl⟩, rfl⟩ (fun w h => h.del b1)
theorem ZfO : Zx Tryz.prog 113 = some 3 := by kernel_rfl
theorem ZaI : ZJ Tryz.prog 119 0 = some 0 := by kernel_rfl
theorem Z0V : ZJ Tryz.prog 175 0 = some 0 := by kernel_rfl
theorem Z0L : Z0b Tryz.prog 114 = true := by kernel_rfl
theorem Z47 : Zs Tryz.prog 113 = some ([.int .i64 0, .int .i64 0, .int .i64 0]) := by kernel_rfl
section Zfk
variable {P : Program} {ops : Array Oper} {n : Nat} {L : Zh} {D : List Deferred} {H : Z6} {R : Z3} {K : Act → World → Prop}
  {i d : Nat} {ty : TypeId} {pos : String} {af : Array Edge}
theorem Zfk {l : Nat} {c : Operand} {xs : List Operand} {vs : List Value} {ts : Array TypeId} {Q : Value → Z6 → Z3 → Prop} {j t : Nat} {bb : Bool} {oj : Oper}
    (ho : ops[i]? = some ⟨some d, .call { callee := .value c, args := xs.toArray, argTypes := ts }, ty, pos, af, some (j, bb)⟩) (hj : ops[j]? = some oj) (ht : oj.dst = some t) (hg : lk L t = some (.bool bb)) (hcv : ev L c = some (yv l)) (hd : Nat.blt d n = true) (hx : evs L xs = some vs)
    (hc : Yd P l vs H R Q) (h : ∀ v H' R', Q v H' R' → Sy n ((d, v) :: L) D H' R' K) : Sy n L D H R (stp P none ops i K) := fun a w ha hD hs => by
  obtain ⟨f, tm, asg, bo, h1, h2⟩ := hc w hs
  have hw : Region.wanted ⟨some d, .call { callee := .value c, args := xs.toArray, argTypes := ts }, ty, pos, af, some (j, bb)⟩ (yielded ops a.tmps) = true := by simp [Region.wanted, ZE ha hj ht hg]
  unfold stp
  rw [ho]
  simp only [hw, if_true, Oper.wpIn, Z13, ZT (Z25 ha.reads hcv hx h1) (by simp), Oper.uponIn]
  refine ⟨fun _ _ => Z2a _ _, by simp [Z2g], RoundIn.mono h2 fun e w' he => ?_⟩
  obtain ⟨v, H', R', q, rfl, hs'⟩ := he
  exact h v H' R' q _ _ (ha.put (by simpa using hd) v) hD hs'
end Zfk
def qL (l : Ldg) (p : Nat → Bool) (y i : Nat) : Bool := (match l.loans[i]? with | some x => decide (x.year = y) | none => false) && p i
def Z5Z (l : Ldg) (p : Nat → Bool) (y i : Nat) : Nat := ((List.range y).flatMap (yrL l p)).length + ((List.range i).filter (qL l p y)).length
theorem Z8R (l : Ldg) (p : Nat → Bool) (y i : Nat) : Z5Z l p y (i + 1) = Z5Z l p y i + bif qL l p y i then 1 else 0 := by
  unfold Z5Z
  rw [List.range_succ, List.filter_append, List.length_append]
  cases h : qL l p y i with
  | false => simp [h]
  | true => simp [h]; omega
theorem Z8t (l : Ldg) (p : Nat → Bool) (y : Nat) : Z5Z l p y l.loans.length = Z5Z l p (y + 1) 0 := by
  unfold Z5Z
  rw [List.range_succ, List.flatMap_append, List.length_append]
  simp only [List.flatMap_cons, List.flatMap_nil, List.append_nil, List.range_zero, List.filter_nil, List.length_nil, Nat.add_zero]
  rfl
theorem Zbl (l : Ldg) (p : Nat → Bool) : Z5Z l p l.years.toNat 0 = (Z19 l p).length := by unfold Z5Z Z19; simp
theorem Zed {l : Ldg} {p : Nat → Bool} {y i : Nat} (hy : y < l.years.toNat) (hi : i < l.loans.length) (hq : qL l p y i = true) : (Z19 l p)[Z5Z l p y i]? = some i := by
  have e1 : List.range l.years.toNat = List.range y ++ y :: (List.range l.years.toNat).drop (y + 1) := by
    have := List.drop_eq_getElem_cons (l := List.range l.years.toNat) (i := y) (by simpa using hy)
    conv => lhs; rw [← List.take_append_drop y (List.range l.years.toNat)]
    rw [this, List.take_range]
    simp [Nat.min_eq_left (Nat.le_of_lt hy)]
  have e2 : List.range l.loans.length = List.range i ++ i :: (List.range l.loans.length).drop (i + 1) := by
    have := List.drop_eq_getElem_cons (l := List.range l.loans.length) (i := i) (by simpa using hi)
    conv => lhs; rw [← List.take_append_drop i (List.range l.loans.length)]
    rw [this, List.take_range]
    simp [Nat.min_eq_left (Nat.le_of_lt hi)]
  have e3 : yrL l p y = (List.range i).filter (qL l p y) ++ i :: ((List.range l.loans.length).drop (i + 1)).filter (qL l p y) := by
    show (List.range l.loans.length).filter (qL l p y) = _
    conv => lhs; rw [e2]
    rw [List.filter_append, List.filter_cons_of_pos hq]
  unfold Z19
  rw [e1, List.flatMap_append, List.flatMap_cons, e3]
  unfold Z5Z
  rw [List.getElem?_append_right (by omega), Nat.add_sub_cancel_left, List.append_assoc, List.getElem?_append_right (by omega), Nat.sub_self]
  rfl
theorem Z7n (bd g : Nat) (fst cap : List Value) (H : Z6) (R : Z3) :
    Fn Tryz.prog 80 [.pointer (some ⟨bd, 0, none⟩), .agg #[.func (.func g) fst.toArray cap.toArray]] H R (fun v H' R' => ∃ b2 b3, v = .func (.func 154) #[] #[.pointer (some ⟨b2, 0, none⟩), .pointer (some ⟨b3, 0, none⟩)] ∧ H' = H ∧ R' = RowsA (some ⟨b3, 0, none⟩) 1 [[.func (.func g) fst.toArray cap.toArray]] :: RowsA (some ⟨b2, 0, none⟩) 1 [[.pointer (some ⟨bd, 0, none⟩)]] :: R) := by
 refine Z8 Tryz.func80 rfl Tryz.ntmps80 rfl ?_
 refine sqt 3 rfl (bx rfl rfl rfl (fun b2 => bx rfl rfl rfl (fun b3 => pur 1 rfl (sqt 2 rfl (sp rfl (PE.makeFunc rfl rfl) rfl (pur 1 rfl (Z1 ?_)))))))
 exact rtA rfl rfl rfl ⟨b2, b3, rfl, rfl, rfl⟩ (fun w h => St.rows (sz := 1) (rows := [[.func (.func g) fst.toArray cap.toArray]]) (rest := []) (St.rows (sz := 1) (rows := [[.pointer (some ⟨bd, 0, none⟩)]]) (rest := []) (h.pull b2) (by simp)) (by simp))
theorem Z5y (l : Ldg) (a1 a2 a3 a4 a5 : Option Addr) (k1 k2 k3 k4 k5 : Nat) (hl : l.ok) (bd b2 b3 lk g : Nat) (fst cap : List Value) (p : Nat → Bool) (hg : cal Tryz.prog g = true) (I : Nat → Z6 → Z3 → Prop) (E : Z6 → Z3 → Prop)
    (hI : ∀ k H R, I k H R → (∃ bk, (bd, cel 175 ((lgl l a1 a2 a3 a4 a5 k1 k2 k3 k4 k5) ++ Zd (bk))) ∈ H) ∧ RowsA (some ⟨b2, 0, none⟩) 1 [[.pointer (some ⟨bd, 0, none⟩)]] ∈ R ∧ RowsA (some ⟨b3, 0, none⟩) 1 [[.func (.func g) fst.toArray cap.toArray]] ∈ R ∧ RowsA a3 3 (lnrows l.loans) ∈ R)
    (hp : ∀ k H R i, i < l.loans.length → I k H R → FnV Tryz.prog g (fst ++ [.int .i64 (i : Nat)] ++ cap) H R (.bool (p i)))
    (hy : ∀ k i H R, (Z19 l p)[k]? = some i → I k H R → Yd Tryz.prog lk [.int .i64 (i : Nat)] H R (fun v H' R' => (v = .bool true ∧ I (k + 1) H' R') ∨ (v = .bool false ∧ E H' R'))) (H : Z6) (R : Z3) (h0 : I 0 H R) :
    Fn Tryz.prog 154 [yv lk, .pointer (some ⟨b2, 0, none⟩), .pointer (some ⟨b3, 0, none⟩)] H R (fun _ H' R' => I (Z19 l p).length H' R' ∨ E H' R') := by
 have hnl := hl.nl
 have hyr := hl.years
 obtain ⟨⟨bk, hm⟩, hf2, hf3, hfl⟩ := hI _ _ _ h0
 haveI : Mem1 bd (cel 175 ((lgl l a1 a2 a3 a4 a5 k1 k2 k3 k4 k5) ++ Zd (bk))) H := ⟨hm⟩
 haveI : MemRows (some ⟨b2, 0, none⟩) 1 [[.pointer (some ⟨bd, 0, none⟩)]] R := ⟨hf2⟩
 haveI : MemRows (some ⟨b3, 0, none⟩) 1 [[.func (.func g) fst.toArray cap.toArray]] R := ⟨hf3⟩
 haveI : MemRows a3 3 (lnrows l.loans) R := ⟨hfl⟩
 refine Z8 Tryz.func154 rfl Tryz.ntmps154 rfl ?_
 refine sqt 6 rfl (spL rfl rfl (lfB (sz := 1) Z0L rfl) rfl (sp rfl (PE.nilCheck rfl) rfl (sp rfl (PE.fA Z0V rfl) rfl (sp rfl (PE.fA Z1q rfl) rfl (spL rfl rfl (lh sc3 rfl rfl) rfl (pur 1 rfl (Z4 ?_)))))))
 refine Zc (ι := {x : Nat × Z6 × Z3 // (x.1 : Int) ≤ l.years ∧ I (Z5Z l p x.1 0) x.2.1 x.2.2}) (fun x => ⟨[(0, yv lk), (1, .pointer (some ⟨b2, 0, none⟩)), (2, .pointer (some ⟨b3, 0, none⟩)), (11, .int .i64 l.years), (12, .int .i64 x.1.1)], x.1.2.1, x.1.2.2⟩) (fun x => l.years.toNat - x.1.1) ⟨(0, H, R), by have := hl.years; simp; omega, by simpa [Z5Z] using h0⟩ ?_ (fun x => ?_)
 exact Zk idH
 obtain ⟨⟨y, H0, R0⟩, hy0, hI0⟩ := x
 dsimp only at hy0 hI0 ⊢
 obtain ⟨⟨bk, hm⟩, hf2, hf3, hfl⟩ := hI _ _ _ hI0
 haveI : Mem1 bd (cel 175 ((lgl l a1 a2 a3 a4 a5 k1 k2 k3 k4 k5) ++ Zd (bk))) H0 := ⟨hm⟩
 haveI : MemRows (some ⟨b2, 0, none⟩) 1 [[.pointer (some ⟨bd, 0, none⟩)]] R0 := ⟨hf2⟩
 haveI : MemRows (some ⟨b3, 0, none⟩) 1 [[.func (.func g) fst.toArray cap.toArray]] R0 := ⟨hf3⟩
 haveI : MemRows a3 3 (lnrows l.loans) R0 := ⟨hfl⟩
 refine sqt 1 rfl (pur 1 rfl (Z0 ?_))
 refine Z2 rfl ?_ ?_ <;> intro hc0 <;> try simp only [cS] at hc0
 refine Z5 (Z0 (Z4 (sqt 2 rfl (pur 2 rfl (sqt 7 rfl (spL rfl rfl (lfB (sz := 1) Z0L rfl) rfl (sp rfl (PE.nilCheck rfl) rfl (sp rfl (PE.fA Z0V rfl) rfl (sp rfl (PE.fA Z04 rfl) rfl (spL rfl rfl (lh Z40 rfl rfl) rfl (sp rfl (PE.lenSl Z6l rfl) rfl (pur 1 rfl (Z4 ?_)))))))))))))
 refine Zc (ι := {x : Nat × Z6 × Z3 // x.1 ≤ l.loans.length ∧ I (Z5Z l p y x.1) x.2.1 x.2.2}) (fun x => ⟨[(0, yv lk), (1, .pointer (some ⟨b2, 0, none⟩)), (2, .pointer (some ⟨b3, 0, none⟩)), (11, .int .i64 l.years), (12, .int .i64 y), (4, .int .i64 y), (19, .slice a3 l.loans.length k3), (20, .int .i64 l.loans.length), (21, .int .i64 x.1.1)], x.1.2.1, x.1.2.2⟩) (fun x => l.loans.length - x.1.1) ⟨(0, H0, R0), Nat.zero_le _, hI0⟩ ?_ (fun x => ?_)
 exact Zk idH
 obtain ⟨⟨i, H1, R1⟩, hi1, hI1⟩ := x
 dsimp only at hi1 hI1 ⊢
 obtain ⟨⟨bk, hm⟩, hf2, hf3, hfl⟩ := hI _ _ _ hI1
 haveI : Mem1 bd (cel 175 ((lgl l a1 a2 a3 a4 a5 k1 k2 k3 k4 k5) ++ Zd (bk))) H1 := ⟨hm⟩
 haveI : MemRows (some ⟨b2, 0, none⟩) 1 [[.pointer (some ⟨bd, 0, none⟩)]] R1 := ⟨hf2⟩
 haveI : MemRows (some ⟨b3, 0, none⟩) 1 [[.func (.func g) fst.toArray cap.toArray]] R1 := ⟨hf3⟩
 haveI : MemRows a3 3 (lnrows l.loans) R1 := ⟨hfl⟩
 refine sqt 1 rfl (pur 1 rfl (Z0 ?_))
 refine Z2 rfl ?_ ?_ <;> intro hc1 <;> try simp only [cS] at hc1
 obtain ⟨x, hx⟩ : ∃ x, l.loans[i]? = some x := ⟨_, List.getElem?_eq_getElem (by omega)⟩
 have hq : qL l p y i = (decide (x.year = y) && p i) := by unfold qL; rw [hx]
 have hps := Z8R l p y i
 refine Zl (a := a3) (sz := 3) (rows := lnrows l.loans) (by intro h0; simp [lnrows] at h0; simp [h0] at hx) (fun bf of he => ?_)
 subst he
 refine Z5 (Z0 (Z4 (sqt 6 rfl (pur 1 rfl (sp rfl (PE.indexAddr ZaL rfl rfl (by omega) (by omega)) rfl (spL rfl rfl (lfA Zal (row := lnrow x) (Z0U hx) rfl) rfl (alc rfl Z47 rfl (fun b6 => pur 1 rfl ?_))))))))
 refine sto rfl rfl rfl ZfO rfl rfl rfl rfl ?_
 refine sqt 16 rfl (sp rfl (PE.fA Z3x rfl) rfl (spL rfl rfl (lh sc3 rfl rfl) rfl ?_))
 refine Sy.heap (fun w h => h.tail) ?_
 refine pur 3 rfl ?_
 refine Zp 30 rfl ?_ ?_ <;> intro g30
 refine spG rfl rfl rfl rfl (PE.fA ZaI rfl) rfl ?_
 refine Z0K rfl rfl rfl rfl rfl (lfB (sz := 1) Z3w rfl) rfl (pur 1 rfl ?_)
 refine Zb1 rfl rfl rfl rfl rfl (hg) rfl rfl (hp _ _ _ i (by omega) hI1) ?_
 refine pur 2 rfl ?_
 refine Zp 36 rfl ?_ ?_ <;> intro g36
 have hqt : qL l p y i = true := by rw [hq, g30, g36]; rfl
 refine pur 2 rfl ?_
 refine Zfk rfl rfl rfl rfl rfl rfl rfl (hy _ i _ _ (Zed (by omega) (by omega) hqt) hI1) ?_
 rintro v H3 R3 (⟨rfl, hI3⟩ | ⟨rfl, hE3⟩)
 refine pur 2 rfl ?_
 refine Z01 rfl ?_
 refine Z5 (sqr 2 rfl (sp rfl (PE.add rfl rfl (by omega)) rfl (pur 1 rfl ?_)))
 first
   | cases hc2
   | exact Zi ⟨(i + 1, H3, R3), by omega, by dsimp only; rw [hps, hqt]; exact hI3⟩ (by dsimp only; omega) idH
   | exact Zi ⟨(i + 1, H1, R1), by omega, by dsimp only; rw [hps, hqf]; exact hI1⟩ (by dsimp only; omega) idH
 refine pur 2 rfl ?_
 refine Zy rfl ?_
 refine Z1 ?_
 first | cases hc2 | exact Z7 (vs := []) rfl .nil rfl (.inr hE3) idH
 have hqf : qL l p y i = false := by rw [hq, g36]; simp
 refine pur 5 rfl ?_
 refine Z01 rfl ?_
 refine Z5 (sqr 2 rfl (sp rfl (PE.add rfl rfl (by omega)) rfl (pur 1 rfl ?_)))
 first
   | cases hc2
   | exact Zi ⟨(i + 1, H3, R3), by omega, by dsimp only; rw [hps, hqt]; exact hI3⟩ (by dsimp only; omega) idH
   | exact Zi ⟨(i + 1, H1, R1), by omega, by dsimp only; rw [hps, hqf]; exact hI1⟩ (by dsimp only; omega) idH
 have hqf : qL l p y i = false := by rw [hq, g30]; rfl
 refine pur 11 rfl ?_
 refine Z01 rfl ?_
 refine Z5 (sqr 2 rfl (sp rfl (PE.add rfl rfl (by omega)) rfl (pur 1 rfl ?_)))
 first
   | cases hc2
   | exact Zi ⟨(i + 1, H3, R3), by omega, by dsimp only; rw [hps, hqt]; exact hI3⟩ (by dsimp only; omega) idH
   | exact Zi ⟨(i + 1, H1, R1), by omega, by dsimp only; rw [hps, hqf]; exact hI1⟩ (by dsimp only; omega) idH
 obtain rfl : i = l.loans.length := by omega
 rw [Z8t] at hI1
 refine Za (Zb (Zb (Zr (sqr 2 rfl (sp rfl (PE.add rfl rfl (by omega)) rfl (pur 1 rfl ?_))))))
 exact Ze ⟨(y + 1, H1, R1), by dsimp only; omega, hI1⟩ idH
 obtain rfl : y = l.years.toNat := by omega
 rw [Zbl] at hI0
 refine Za (Zb (Zb (Zr ?_)))
 exact Z1P (vs := []) rfl .nil rfl (.inl hI0) idH
theorem ZaO (l : Ldg) (a1 a2 a3 a4 a5 : Option Addr) (k1 k2 k3 k4 k5 : Nat) (hl : l.ok) (i : Nat) (hi : i < l.loans.length) (bd b2 b3 : Nat) (p : Ln) (bk : List Int) (H : Z6) (R : Z3) [m2 : Mem1 b2 (cel 114 [.pointer (some ⟨bd, 0, none⟩)]) H] [m3 : Mem1 b3 (cel 59 (lnrow p)) H] [md : Mem1 bd (cel 175 ((lgl l a1 a2 a3 a4 a5 k1 k2 k3 k4 k5) ++ Zd (bk))) H] [hR3 : MemRows a3 3 (lnrows l.loans) R] :
    FnV Tryz.prog 103 [.int .i64 (i : Nat), .pointer (some ⟨b2, 0, none⟩), .pointer (some ⟨b3, 0, none⟩)] H R (.bool (match l.loans[i]? with | some x => decide (x.who = p.who) && decide (x.year ≤ p.year) | none => false)) := by
 refine Z8 Tryz.func103 rfl Tryz.ntmps103 rfl ?_
 refine sqt 1 rfl ?_
 have hnl := hl.nl
 obtain ⟨x, hx⟩ : ∃ x, l.loans[i]? = some x := ⟨_, List.getElem?_eq_getElem hi⟩
 refine Zl (a := a3) (sz := 3) (rows := lnrows l.loans) (by intro h0; simp [lnrows] at h0; simp [h0] at hx) (fun bf of he => ?_)
 subst he
 rw [hx]
 refine pur 1 rfl (Z0 ?_)
 refine Z9 [0, 1, 3, 7, 15, 0, 63, 127, 255, 0, 512, 2047, 4095, 8191, 16383, 32767, 65535, 131071, 8191, 524287, 1048575, 2097151, 8191, 4202495, 16777215, 33554431, 67108863] (.ld 0 (tks 1 3 (.ld 4 (tks 5 3 (.ld 8 (.tk 9 (.ld 10 (.tk 11 (.tk 12 (.ld 13 (tks 14 3 (.ld 17 (tks 18 3 (.ld 21 (.tk 22 (.ld 23 (tks 24 3 .done))))))))))))))))) Zo (by kernel_rfl) ?_
 refine ld rfl rfl (lh Z0L rfl rfl) rfl (tk rfl (PE.nilCheck rfl) rfl (tk rfl (PE.fA Z0V rfl) rfl (tk rfl (PE.fA Z04 rfl) rfl (ld rfl rfl (lh Z40 rfl rfl) rfl (Zf 1 rfl (tk rfl (PE.indexAddr ZaL rfl rfl (by omega) (by omega)) rfl (tk rfl (PE.fA Z5h rfl) rfl (ld rfl rfl (lf (x := .int .i64 x.who) sc3 (Z0U hx) rfl) rfl (tk rfl (PE.fA Za1 rfl) rfl (ld rfl rfl (lh sc3 rfl rfl) rfl (Zf 2 rfl ?_)))))))))))
 refine Zp 17 rfl ?_ ?_ <;> intro g17
 refine ldG rfl rfl rfl rfl rfl (lh Z0L rfl rfl) rfl ?_
 refine tkG rfl rfl rfl rfl (PE.nilCheck rfl) rfl ?_
 refine tkG rfl rfl rfl rfl (PE.fA Z0V rfl) rfl ?_
 refine tkG rfl rfl rfl rfl (PE.fA Z04 rfl) rfl ?_
 refine ldG rfl rfl rfl rfl rfl (lh Z40 rfl rfl) rfl (Zf 1 rfl ?_)
 refine tkG rfl rfl rfl rfl (PE.indexAddr ZaL rfl rfl (by omega) (by omega)) rfl ?_
 refine tkG rfl rfl rfl rfl (PE.fA Z3x rfl) rfl ?_
 refine ldG rfl rfl rfl rfl rfl (lf (x := .int .i64 x.year) sc3 (Z0U hx) rfl) rfl ?_
 refine tkG rfl rfl rfl rfl (PE.fA Z4c rfl) rfl ?_
 refine ldG rfl rfl rfl rfl rfl (lh sc3 rfl rfl) rfl (Zf 3 rfl (Z1 ?_))
 exact rtA rfl rfl rfl ⟨by simp_all [Zz], rfl, rfl⟩ drp
 refine ldN rfl rfl rfl rfl rfl rfl rfl rfl ?_
 refine Zf 3 rfl ?_
 refine ldN rfl rfl rfl rfl rfl rfl rfl rfl ?_
 refine Zf 3 rfl ?_
 refine ldN rfl rfl rfl rfl rfl rfl rfl rfl ?_
 refine Zf 1 rfl ?_
 refine ldN rfl rfl rfl rfl rfl rfl rfl rfl ?_
 refine Zf 3 rfl (Z1 ?_)
 exact rtA rfl rfl rfl ⟨by simp_all [Zz], rfl, rfl⟩ drp
end Go.Proofs.YtjoajfdnlomapaaGreat.Lo
