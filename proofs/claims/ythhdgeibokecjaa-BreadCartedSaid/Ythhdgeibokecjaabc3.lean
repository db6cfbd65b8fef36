/- Walks of the functions of the program, and the laws that join them: what the last theorem of this claim needs, in order. -/
import Derived.Test.Ythhdgeibokecjaabc2
namespace Go.Proofs.Ythhdgeibokecjaa.Gt
set_option linter.unusedSimpArgs false
set_option linter.unusedVariables false
open Go
theorem Zaz : arE Try.prog 65 = some (4, 3) := by kernel_rfl
theorem ZbQ : cal Try.prog 17 = true := by kernel_rfl
theorem Z1c : cal Try.prog 18 = true := by kernel_rfl
theorem ZQ : cal Try.prog 19 = true := by kernel_rfl
theorem Z99 : cal Try.prog 48 = true := by kernel_rfl
theorem cn3 : ZK Try.prog 3 = some 1 := by kernel_rfl
theorem Z9X : ZK Try.prog 65 = some 4 := by kernel_rfl
theorem Z91 : ZK Try.prog 78 = some 1 := by kernel_rfl
theorem ZcE : elN Try.prog 22 = some 1 := by kernel_rfl
theorem ZcF : eqB Try.prog 10000 3 = some (false, 1) := by kernel_rfl
theorem Z1r : Z00 Try.prog 80 0 = some 0 := by kernel_rfl
theorem Z0d : Z00 Try.prog 80 1 = some 1 := by kernel_rfl
theorem ZA : Z00 Try.prog 80 2 = some 2 := by kernel_rfl
theorem ik3 : Z8k Try.prog 3 = some .i64 := by kernel_rfl
theorem Za9 : Z8k Try.prog 78 = some .u32 := by kernel_rfl
theorem Z3z : Z61 Try.prog 22 = true := by kernel_rfl
theorem Zbx : ZU Try.prog 121 = some [(0, 1), (1, 4)] := by kernel_rfl
theorem Zcv : ZU Try.prog 80 = some [(0, 1), (1, 1), (2, 1)] := by kernel_rfl
theorem Z82 : Z0Z Try.prog 22 = true := by kernel_rfl
theorem sc5 : Z0Z Try.prog 5 = true := by kernel_rfl
theorem Z2t : Z0Z Try.prog 78 = true := by kernel_rfl
theorem us3 : (Try.prog.underlying 3).isSome = true := by kernel_rfl
theorem us5 : (Try.prog.underlying 5).isSome = true := by kernel_rfl
theorem Z7W : (Try.prog.underlying 78).isSome = true := by kernel_rfl
theorem Z9Z : Zy Try.prog 65 = some ([.int .i64 0, .int .i64 0, .int .i64 0, .int .i64 0]) := by kernel_rfl
theorem Zcc : Zy Try.prog 80 = some ([.slice none 0 0, .int .i64 0, .int .u32 0]) := by kernel_rfl
def urow (x : Int) : List Value := [.int .u8 x]
def urows (l : List Int) : List (List Value) := l.map urow
theorem c_Fill (g : List Int) (ag : Option Addr) (cg : Nat) (hgl : g.length ≤ 9223372036854775807) (H : Z7) (R : Z4) :
    Fn Try.prog 6 [.slice ag g.length cg] H R (fun v H' R' => ∃ bk, ∃ mx : Int, (0 ≤ mx ∧ mx ≤ 4294967295) ∧ v = .pointer (some ⟨bk, 0, none⟩) ∧ H' = (bk, cel 80 [.slice ag g.length cg, .int .i64 (0), .int .u32 (mx)]) :: H ∧ R' = R) := by
 refine Zb Try.func6 rfl Try.ntmps6 rfl ?_
 refine sqt 1 rfl (pur 1 rfl (sqt 8 rfl (pur 2 rfl (sp rfl (PE.lenSl Z3z rfl) rfl ?_))))
 refine spE rfl (PE.convU us3 Za9 rfl) rfl ?_
 rintro _ ⟨u6, rfl, hu6⟩
 refine spE rfl (PE.xorU rfl rfl) rfl ?_
 rintro _ ⟨u7, rfl, hu7⟩
 refine sp rfl (PE.build (out := [_, _, _]) Zcv Zcc rfl rfl) rfl (bx rfl rfl rfl (fun b9 => pur 1 rfl (Z1 ?_)))
 exact rtA rfl rfl rfl ⟨b9, u7, hu7, rfl, rfl, rfl⟩ idH
theorem Z2n (g : List Int) (ag : Option Addr) (cg bk : Nat) (hgl : g.length ≤ 9223372036854775807) (tq mx : Int) (htq : 0 ≤ tq ∧ tq ≤ 1000000000) (hmx : 0 ≤ mx ∧ mx ≤ 4294967295) (H : Z7) (R : Z4) [hG : MemRows ag 1 (urows g) R] :
    Fn Try.prog 48 [.pointer (some ⟨bk, 0, none⟩)] ((bk, cel 80 [.slice ag g.length cg, .int .i64 (tq), .int .u32 (mx)]) :: H) R (fun v H' R' => ∃ x m' : Int, (0 ≤ x ∧ x ≤ 65535) ∧ v = .int .i64 x ∧ (0 ≤ m' ∧ m' ≤ 4294967295) ∧ H' = (bk, cel 80 [.slice ag g.length cg, .int .i64 (tq + 1), .int .u32 (m')]) :: H ∧ R' = R) := by
 refine Zb Try.func48 rfl Try.ntmps48 rfl ?_
 refine sqt 1 rfl (pur 1 rfl (Z0 (sqt 6 rfl (pur 1 rfl (sp rfl (PE.nilCheck rfl) rfl (sp rfl (PE.fA Z1r rfl) rfl (spL rfl rfl (lh Z82 rfl rfl) rfl (sp rfl (PE.lenSl Z3z rfl) rfl (pur 1 rfl (sqt 2 rfl (pur 2 rfl ?_)))))))))))
 refine Z2 rfl ?_ ?_ <;> intro hc0 <;> try simp only [cS] at hc0
 obtain ⟨y, hy⟩ : ∃ y, g[(tq % g.length).toNat]? = some y := ⟨_, List.getElem?_eq_getElem (by have := Int.emod_lt_of_pos tq hc0; have := Int.emod_nonneg tq (show (g.length : Int) ≠ 0 by omega); omega)⟩
 refine ZE (a := ag) (sz := 1) (rows := urows g) (by intro h0; simp [urows] at h0; simp [h0] at hy) (fun bgr ogr he => ?_)
 subst he
 refine Z8 [0, 0, 2, 6, 14, 0, 32, 96, 224, 0, 512, 1536, 3584, 0, 15872, 32736, 65504, 131040, 262142, 524286, 1048575, 2097151, 4194303] (tks 0 4 (.ld 4 (tks 5 3 (.ld 8 (tks 9 3 (.ld 12 (tks 13 3 (.ld 16 (tks 17 5 (.big 22 .done)))))))))) Zk (by kernel_rfl) ?_
 refine Za 2 rfl (tk rfl (PE.nilCheck rfl) rfl (tk rfl (PE.fA ZA rfl) rfl (ld rfl rfl (lh Z2t rfl rfl) rfl (Za 1 rfl (tk rfl (PE.nilCheck rfl) rfl (tk rfl (PE.fA Z1r rfl) rfl (ld rfl rfl (lh Z82 rfl rfl) rfl (Za 1 rfl (tk rfl (PE.nilCheck rfl) rfl (tk rfl (PE.fA Z0d rfl) rfl (ld rfl rfl (lh sc3 rfl rfl) rfl (Za 1 rfl (tk rfl (PE.rem rfl rfl (by omega)) rfl (tk rfl (PE.indexAddr ZcE rfl rfl (by exact Int.emod_nonneg tq (by omega)) (by exact Int.emod_lt_of_pos tq hc0)) rfl (ld rfl rfl (lf0 (x := .int .u8 y) sc5 (by simp [urows, urow, hy]; rfl) rfl) rfl ?_)))))))))))))))
 refine tkE rfl (PE.convU us5 Za9 rfl) rfl ?_
 rintro _ ⟨u28, rfl, hu28⟩
 refine tkE rfl (PE.xorU rfl rfl) rfl ?_
 rintro _ ⟨u29, rfl, hu29⟩
 refine tkE rfl (PE.mulU rfl rfl) rfl ?_
 rintro _ ⟨u30, rfl, hu30⟩
 refine tk rfl (PE.nilCheck rfl) rfl (tk rfl (PE.fA ZA rfl) rfl ?_)
 refine sto rfl rfl rfl Z91 rfl rfl rfl rfl ?_
 refine bgT (sqt 8 rfl (pur 1 rfl (sp rfl (PE.nilCheck rfl) rfl (sp rfl (PE.fA Z0d rfl) rfl (spL rfl rfl (lh sc3 rfl rfl) rfl (sp rfl (PE.add rfl rfl (by omega)) rfl (sp rfl (PE.nilCheck rfl) rfl (sp rfl (PE.fA Z0d rfl) rfl ?_))))))))
 refine sto rfl rfl rfl cn3 rfl rfl rfl rfl ?_
 refine Z0 (Z0 ?_)
 refine Z8 [0, 1, 3, 7, 0, 16, 48, 112, 240, 511] (tks 0 3 (.ld 3 (tks 4 3 (.ld 7 (.tk 8 (.tk 9 .done)))))) Zk (by kernel_rfl) ?_
 refine Za 1 rfl (tk rfl (PE.nilCheck rfl) rfl (tk rfl (PE.fA Z0d rfl) rfl (ld rfl rfl (lh sc3 rfl rfl) rfl (Za 1 rfl (tk rfl (PE.nilCheck rfl) rfl (tk rfl (PE.fA Z1r rfl) rfl (ld rfl rfl (lh Z82 rfl rfl) rfl (tk rfl (PE.lenSl Z3z rfl) rfl (Za 1 rfl ?_)))))))))
 refine Z2 rfl ?_ ?_ <;> intro hc1 <;> try simp only [cS] at hc1
 refine sqr 10 rfl (pur 2 rfl (sp rfl (PE.nilCheck rfl) rfl (sp rfl (PE.fA ZA rfl) rfl (spL rfl rfl (lh Z2t rfl rfl) rfl ?_))))
 refine spE rfl (PE.mulU rfl rfl) rfl ?_
 rintro _ ⟨u55, rfl, hu55⟩
 refine spE rfl (PE.addU rfl rfl) rfl ?_
 rintro _ ⟨u56, rfl, hu56⟩
 refine sp rfl (PE.nilCheck rfl) rfl (sp rfl (PE.fA ZA rfl) rfl ?_)
 refine sto rfl rfl rfl Z91 rfl rfl rfl rfl ?_
 refine Z0 ?_
 refine Z8 [0, 1, 3, 7, 0, 16, 48, 112, 240, 511, 1023, 2047, 4095, 8191] (tks 0 3 (.ld 3 (tks 4 3 (.ld 7 (tks 8 6 .done))))) Zk (by kernel_rfl) ?_
 refine Za 1 rfl (tk rfl (PE.nilCheck rfl) rfl (tk rfl (PE.fA ZA rfl) rfl (ld rfl rfl (lh Z2t rfl rfl) rfl (Za 1 rfl (tk rfl (PE.nilCheck rfl) rfl (tk rfl (PE.fA ZA rfl) rfl (ld rfl rfl (lh Z2t rfl rfl) rfl ?_)))))))
 refine tkE rfl (PE.shrU rfl rfl (by decide) (by omega) (by omega)) rfl ?_
 rintro _ ⟨u67, rfl, hu67⟩
 refine tkE rfl (PE.xorU rfl rfl) rfl ?_
 rintro _ ⟨u68, rfl, hu68⟩
 refine tkE rfl (PE.shrU rfl rfl (by decide) (by omega) (by omega)) rfl ?_
 rintro _ ⟨u69, rfl, hu69⟩
 refine tkE rfl (PE.andU rfl rfl (by decide) (by decide)) rfl ?_
 rintro _ ⟨u70, rfl, hu70⟩
 refine tk rfl (PE.conv64 Z7W ik3 rfl (by omega)) rfl (Za 1 rfl (Z1 ?_))
 first
   | exact rtA rfl rfl rfl ⟨u70, _, hu70, rfl, hu56, rfl, rfl⟩ idH
   | exact rtA rfl rfl rfl ⟨u70, _, hu70, rfl, hu30, rfl, rfl⟩ idH
   | exact rtA rfl rfl rfl ⟨u70, _, hu70, rfl, hmx, rfl, rfl⟩ idH
 refine Z5 (Z0 ?_)
 refine Z8 [0, 1, 3, 7, 0, 16, 48, 112, 240, 511, 1023, 2047, 4095, 8191] (tks 0 3 (.ld 3 (tks 4 3 (.ld 7 (tks 8 6 .done))))) Zk (by kernel_rfl) ?_
 refine Za 1 rfl (tk rfl (PE.nilCheck rfl) rfl (tk rfl (PE.fA ZA rfl) rfl (ld rfl rfl (lh Z2t rfl rfl) rfl (Za 1 rfl (tk rfl (PE.nilCheck rfl) rfl (tk rfl (PE.fA ZA rfl) rfl (ld rfl rfl (lh Z2t rfl rfl) rfl ?_)))))))
 refine tkE rfl (PE.shrU rfl rfl (by decide) (by omega) (by omega)) rfl ?_
 rintro _ ⟨u67, rfl, hu67⟩
 refine tkE rfl (PE.xorU rfl rfl) rfl ?_
 rintro _ ⟨u68, rfl, hu68⟩
 refine tkE rfl (PE.shrU rfl rfl (by decide) (by omega) (by omega)) rfl ?_
 rintro _ ⟨u69, rfl, hu69⟩
 refine tkE rfl (PE.andU rfl rfl (by decide) (by decide)) rfl ?_
 rintro _ ⟨u70, rfl, hu70⟩
 refine tk rfl (PE.conv64 Z7W ik3 rfl (by omega)) rfl (Za 1 rfl (Z1 ?_))
 first
   | exact rtA rfl rfl rfl ⟨u70, _, hu70, rfl, hu56, rfl, rfl⟩ idH
   | exact rtA rfl rfl rfl ⟨u70, _, hu70, rfl, hu30, rfl, rfl⟩ idH
   | exact rtA rfl rfl rfl ⟨u70, _, hu70, rfl, hmx, rfl, rfl⟩ idH
 refine Z5 (sqt 8 rfl (pur 1 rfl (sp rfl (PE.nilCheck rfl) rfl (sp rfl (PE.fA Z0d rfl) rfl (spL rfl rfl (lh sc3 rfl rfl) rfl (sp rfl (PE.add rfl rfl (by omega)) rfl (sp rfl (PE.nilCheck rfl) rfl (sp rfl (PE.fA Z0d rfl) rfl ?_))))))))
 refine sto rfl rfl rfl cn3 rfl rfl rfl rfl ?_
 refine Z0 (Z0 ?_)
 refine Z8 [0, 1, 3, 7, 0, 16, 48, 112, 240, 511] (tks 0 3 (.ld 3 (tks 4 3 (.ld 7 (.tk 8 (.tk 9 .done)))))) Zk (by kernel_rfl) ?_
 refine Za 1 rfl (tk rfl (PE.nilCheck rfl) rfl (tk rfl (PE.fA Z0d rfl) rfl (ld rfl rfl (lh sc3 rfl rfl) rfl (Za 1 rfl (tk rfl (PE.nilCheck rfl) rfl (tk rfl (PE.fA Z1r rfl) rfl (ld rfl rfl (lh Z82 rfl rfl) rfl (tk rfl (PE.lenSl Z3z rfl) rfl (Za 1 rfl ?_)))))))))
 refine Z2 rfl ?_ ?_ <;> intro hc1 <;> try simp only [cS] at hc1
 refine sqr 10 rfl (pur 2 rfl (sp rfl (PE.nilCheck rfl) rfl (sp rfl (PE.fA ZA rfl) rfl (spL rfl rfl (lh Z2t rfl rfl) rfl ?_))))
 refine spE rfl (PE.mulU rfl rfl) rfl ?_
 rintro _ ⟨u55, rfl, hu55⟩
 refine spE rfl (PE.addU rfl rfl) rfl ?_
 rintro _ ⟨u56, rfl, hu56⟩
 refine sp rfl (PE.nilCheck rfl) rfl (sp rfl (PE.fA ZA rfl) rfl ?_)
 refine sto rfl rfl rfl Z91 rfl rfl rfl rfl ?_
 refine Z0 ?_
 refine Z8 [0, 1, 3, 7, 0, 16, 48, 112, 240, 511, 1023, 2047, 4095, 8191] (tks 0 3 (.ld 3 (tks 4 3 (.ld 7 (tks 8 6 .done))))) Zk (by kernel_rfl) ?_
 refine Za 1 rfl (tk rfl (PE.nilCheck rfl) rfl (tk rfl (PE.fA ZA rfl) rfl (ld rfl rfl (lh Z2t rfl rfl) rfl (Za 1 rfl (tk rfl (PE.nilCheck rfl) rfl (tk rfl (PE.fA ZA rfl) rfl (ld rfl rfl (lh Z2t rfl rfl) rfl ?_)))))))
 refine tkE rfl (PE.shrU rfl rfl (by decide) (by omega) (by omega)) rfl ?_
 rintro _ ⟨u67, rfl, hu67⟩
 refine tkE rfl (PE.xorU rfl rfl) rfl ?_
 rintro _ ⟨u68, rfl, hu68⟩
 refine tkE rfl (PE.shrU rfl rfl (by decide) (by omega) (by omega)) rfl ?_
 rintro _ ⟨u69, rfl, hu69⟩
 refine tkE rfl (PE.andU rfl rfl (by decide) (by decide)) rfl ?_
 rintro _ ⟨u70, rfl, hu70⟩
 refine tk rfl (PE.conv64 Z7W ik3 rfl (by omega)) rfl (Za 1 rfl (Z1 ?_))
 first
   | exact rtA rfl rfl rfl ⟨u70, _, hu70, rfl, hu56, rfl, rfl⟩ idH
   | exact rtA rfl rfl rfl ⟨u70, _, hu70, rfl, hu30, rfl, rfl⟩ idH
   | exact rtA rfl rfl rfl ⟨u70, _, hu70, rfl, hmx, rfl, rfl⟩ idH
 refine Z5 (Z0 ?_)
 refine Z8 [0, 1, 3, 7, 0, 16, 48, 112, 240, 511, 1023, 2047, 4095, 8191] (tks 0 3 (.ld 3 (tks 4 3 (.ld 7 (tks 8 6 .done))))) Zk (by kernel_rfl) ?_
 refine Za 1 rfl (tk rfl (PE.nilCheck rfl) rfl (tk rfl (PE.fA ZA rfl) rfl (ld rfl rfl (lh Z2t rfl rfl) rfl (Za 1 rfl (tk rfl (PE.nilCheck rfl) rfl (tk rfl (PE.fA ZA rfl) rfl (ld rfl rfl (lh Z2t rfl rfl) rfl ?_)))))))
 refine tkE rfl (PE.shrU rfl rfl (by decide) (by omega) (by omega)) rfl ?_
 rintro _ ⟨u67, rfl, hu67⟩
 refine tkE rfl (PE.xorU rfl rfl) rfl ?_
 rintro _ ⟨u68, rfl, hu68⟩
 refine tkE rfl (PE.shrU rfl rfl (by decide) (by omega) (by omega)) rfl ?_
 rintro _ ⟨u69, rfl, hu69⟩
 refine tkE rfl (PE.andU rfl rfl (by decide) (by decide)) rfl ?_
 rintro _ ⟨u70, rfl, hu70⟩
 refine tk rfl (PE.conv64 Z7W ik3 rfl (by omega)) rfl (Za 1 rfl (Z1 ?_))
 first
   | exact rtA rfl rfl rfl ⟨u70, _, hu70, rfl, hu56, rfl, rfl⟩ idH
   | exact rtA rfl rfl rfl ⟨u70, _, hu70, rfl, hu30, rfl, rfl⟩ idH
   | exact rtA rfl rfl rfl ⟨u70, _, hu70, rfl, hmx, rfl, rfl⟩ idH
theorem Zo (g : List Int) (ag : Option Addr) (cg bk : Nat) (hgl : g.length ≤ 9223372036854775807) (tq mx : Int) (htq : 0 ≤ tq ∧ tq ≤ 1000000000) (hmx : 0 ≤ mx ∧ mx ≤ 4294967295) (n : Int) (H : Z7) (R : Z4) [hG : MemRows ag 1 (urows g) R] :
    Fn Try.prog 19 [.pointer (some ⟨bk, 0, none⟩), .int .i64 n] ((bk, cel 80 [.slice ag g.length cg, .int .i64 (tq), .int .u32 (mx)]) :: H) R (fun v H' R' => ∃ x m' : Int, (0 ≤ x ∧ x < max 1 n) ∧ v = .int .i64 x ∧ (0 ≤ m' ∧ m' ≤ 4294967295) ∧ H' = (bk, cel 80 [.slice ag g.length cg, .int .i64 (tq + 1), .int .u32 (m')]) :: H ∧ R' = R) := by
 refine Zb Try.func19 rfl Try.ntmps19 rfl ?_
 refine sqt 1 rfl (pur 1 rfl (sqt 6 rfl (pur 1 rfl ?_)))
 refine cl rfl Z99 rfl rfl (Z2n g ag cg bk hgl tq mx htq hmx _ _) ?_
 rintro _ _ _ ⟨x, m', hx, rfl, hm', rfl, rfl⟩
 refine pur 1 rfl (sp rfl (PE.max rfl rfl) rfl (sp rfl (PE.rem rfl rfl (by omega)) rfl (pur 1 rfl (Z1 ?_))))
 exact rtA rfl rfl rfl ⟨_, m', ⟨Int.emod_nonneg _ (by omega), Int.emod_lt_of_pos _ (by omega)⟩, rfl, hm', rfl, rfl⟩ idH
theorem ZS (g : List Int) (ag : Option Addr) (cg bk : Nat) (hgl : g.length ≤ 9223372036854775807) (tq mx : Int) (htq : 0 ≤ tq ∧ tq ≤ 1000000000) (hmx : 0 ≤ mx ∧ mx ≤ 4294967295) (lo hi : Int) (hb : -1000000 ≤ lo ∧ lo ≤ 1000000 ∧ -1000000 ≤ hi ∧ hi ≤ 1000000) (H : Z7) (R : Z4) [hG : MemRows ag 1 (urows g) R] :
    Fn Try.prog 18 [.pointer (some ⟨bk, 0, none⟩), .int .i64 lo, .int .i64 hi] ((bk, cel 80 [.slice ag g.length cg, .int .i64 (tq), .int .u32 (mx)]) :: H) R (fun v H' R' => ∃ x m' : Int, (lo ≤ x ∧ x < lo + max 1 (hi - lo + 1)) ∧ v = .int .i64 x ∧ (0 ≤ m' ∧ m' ≤ 4294967295) ∧ H' = (bk, cel 80 [.slice ag g.length cg, .int .i64 (tq + 1), .int .u32 (m')]) :: H ∧ R' = R) := by
 refine Zb Try.func18 rfl Try.ntmps18 rfl ?_
 refine sqt 1 rfl (pur 1 rfl (sqt 9 rfl (pur 4 rfl (sp rfl (PE.sub rfl rfl (by omega)) rfl (sp rfl (PE.add rfl rfl (by omega)) rfl ?_)))))
 refine cl rfl ZQ rfl rfl (Zo g ag cg bk hgl tq mx htq hmx (hi - lo + 1) _ _) ?_
 rintro _ _ _ ⟨x, m', hx, rfl, hm', rfl, rfl⟩
 refine sp rfl (PE.add rfl rfl (by omega)) rfl (pur 1 rfl (Z1 ?_))
 exact rtA rfl rfl rfl ⟨lo + x, m', ⟨by omega, by omega⟩, rfl, hm', rfl, rfl⟩ idH
theorem ZaR (g : List Int) (ag : Option Addr) (cg bk : Nat) (hgl : g.length ≤ 9223372036854775807) (tq mx : Int) (htq : 0 ≤ tq ∧ tq ≤ 1000000000) (hmx : 0 ≤ mx ∧ mx ≤ 4294967295) (n : Int) (H : Z7) (R : Z4) [hG : MemRows ag 1 (urows g) R] :
    Fn Try.prog 17 [.pointer (some ⟨bk, 0, none⟩), .int .i64 n] ((bk, cel 80 [.slice ag g.length cg, .int .i64 (tq), .int .u32 (mx)]) :: H) R (fun v H' R' => ∃ (x : Bool) (m' : Int), v = .bool x ∧ (0 ≤ m' ∧ m' ≤ 4294967295) ∧ H' = (bk, cel 80 [.slice ag g.length cg, .int .i64 (tq + 1), .int .u32 (m')]) :: H ∧ R' = R) := by
 refine Zb Try.func17 rfl Try.ntmps17 rfl ?_
 refine sqt 1 rfl (pur 1 rfl (sqt 5 rfl (pur 2 rfl ?_)))
 refine cl rfl ZQ rfl rfl (Zo g ag cg bk hgl tq mx htq hmx n _ _) ?_
 rintro _ _ _ ⟨x, m', hx, rfl, hm', rfl, rfl⟩
 refine pur 2 rfl (Z1 ?_)
 exact rtA rfl rfl rfl ⟨_, m', rfl, hm', rfl, rfl⟩ idH
theorem Z7K {j k : Nat} (hk : k < 3) (e : j = k) : [Value.int .i64 3, .int .i64 2, .int .i64 1][j]? = some (.int .i64 ((3 - k : Nat) : Int)) := by
  subst e
  revert hk
  rcases j with _ | _ | _ | j <;> intro hk
  · rfl
  · rfl
  · rfl
  · omega
structure MxI (k : Nat) (l : List Int) (left : Int) : Prop where
  len : l.length = 4
  sum : Z1X l + left = 40
  at_ : ∀ j < 4, 0 ≤ nn l j ∧ nn l j ≤ 40
  lo : 0 ≤ left ∧ left ≤ 40
  zero : ∀ j < 4, j + k ≤ 3 → nn l j = 0
theorem MxI.start : MxI 0 [0, 0, 0, 0] 40 := ⟨rfl, rfl, of4 ⟨by decide, by decide, by decide, by decide⟩, by omega, of4 ⟨fun _ => rfl, fun _ => rfl, fun _ => rfl, fun _ => rfl⟩⟩
theorem MxI.more {k : Nat} {l : List Int} {left v : Int} (h : MxI k l left) (hk : k < 3) (hv : 0 ≤ v ∧ v ≤ left) : MxI (k + 1) (l.set (3 - k) v) (left - v) := by
  have hlo := h.lo
  have hz := h.zero (3 - k) (by omega) (by omega)
  have hs := h.sum
  have hset : ∀ j, nn (l.set (3 - k) v) j = bif 3 - k == j then v else nn l j := fun j => Z11 (by rw [h.len]; omega)
  refine ⟨by simp [h.len], by rw [Z1I h.len (by omega)]; omega, fun j hj => ?_, by omega, fun j hj hjk => ?_⟩
  · rw [hset]
    cases 3 - k == j
    · exact h.at_ j hj
    · simp only [cond_true]; omega
  · rw [hset, show (3 - k == j) = false from by simp; omega]
    exact h.zero j hj (by omega)
theorem MxI.done {l : List Int} {left : Int} (h : MxI 3 l left) : Mxt (l.set 0 left) := by
  have hlo := h.lo
  have hz := h.zero 0 (by omega) (by omega)
  have hs := h.sum
  refine ⟨by simp [h.len], by rw [Z1I h.len (by omega)]; omega, fun j hj => ?_⟩
  rw [Z11 (by rw [h.len]; omega)]
  cases (0 : Nat) == j
  · exact h.at_ j hj
  · simp only [cond_true]; omega
theorem Z9x {m : Mix} (hm : Mxt m) {k : Nat} (hk : k < 4) : Mxt ((m.set 0 (nn m k)).set k (nn m 0)) := by
  obtain ⟨a, b, c, d, rfl⟩ := Z3N hm.len
  have hs := hm.sum
  have h4 := Z4h hm.at_
  simp only [Z1X, nn, List.getD_cons_zero, List.getD_cons_succ] at hs h4
  rcases lt4 hk with rfl | rfl | rfl | rfl <;> refine ⟨rfl, ?_, of4 ⟨?_, ?_, ?_, ?_⟩⟩ <;> simp [Z1X, nn] <;> omega
theorem Z9p (g : List Int) (ag : Option Addr) (cg bk : Nat) (hgl : g.length ≤ 9223372036854775807) (tq mx : Int) (htq : 0 ≤ tq ∧ tq ≤ 1000000) (hmx : 0 ≤ mx ∧ mx ≤ 4294967295) (H : Z7) (R : Z4) [hG : MemRows ag 1 (urows g) R] :
    Fn Try.prog 55 [.pointer (some ⟨bk, 0, none⟩)] ((bk, cel 80 [.slice ag g.length cg, .int .i64 (tq), .int .u32 (mx)]) :: H) R (fun v H' R' => ∃ (q : Mix) (tq' mx' : Int), Mxt q ∧ v = .agg (Zc q).toArray ∧ (tq ≤ tq' ∧ tq' ≤ tq + 10) ∧ (0 ≤ mx' ∧ mx' ≤ 4294967295) ∧ H' = (bk, cel 80 [.slice ag g.length cg, .int .i64 (tq'), .int .u32 (mx')]) :: H ∧ R' = R) := by
 refine Zb Try.func55 rfl Try.ntmps55 rfl ?_
 refine sqt 1 rfl (alc rfl Z9Z rfl (fun b2 => sqt 1 rfl (alc rfl Z9Z rfl (fun b3 => sqt 1 rfl (pur 1 rfl (Z0 (sqt 3 rfl ?_)))))))
 refine bsl (out := [_, _, _]) rfl Z2W zl3 rfl rfl rfl rfl rfl rfl (fun b8 => ?_)
 refine sp rfl (PE.lenSl Z1b rfl) rfl (pur 1 rfl (Z3 ?_))
 refine Zf bk ?_
 refine Zj (ι := {x : Nat × List Int × Int × Int × Int // x.1 ≤ 3 ∧ MxI x.1 x.2.1 x.2.2.1 ∧ x.2.2.2.1 = tq + 2 * x.1 ∧ (0 ≤ x.2.2.2.2 ∧ x.2.2.2.2 ≤ 4294967295)}) (fun x => ⟨[(0, .pointer (some ⟨bk, 0, none⟩)), (2, .pointer (some ⟨b2, 0, none⟩)), (3, .pointer (some ⟨b3, 0, none⟩)), (4, .int .i64 x.1.2.2.1), (8, .slice (some ⟨b8, 0, none⟩) 3 3), (9, .int .i64 3), (10, .int .i64 x.1.1)], (bk, cel 80 [.slice ag g.length cg, .int .i64 (x.1.2.2.2.1), .int .u32 (x.1.2.2.2.2)]) :: (b8, cel 3 [.int .i64 3, .int .i64 2, .int .i64 1]) :: (b3, cel 65 (Zc x.1.2.1)) :: (b2, cel 65 (Zc [0, 0, 0, 0])) :: H, R⟩) (fun x => 3 - x.1.1) ⟨(0, [0, 0, 0, 0], 40, tq, mx), by omega, MxI.start, by dsimp only; omega, by assumption⟩ ?_ (fun x => ?_)
 exact Zr idH
 obtain ⟨⟨k, l, left, tq2, mx2⟩, hk, hmi, htq2, hmx2⟩ := x
 dsimp only at hk hmi htq2 hmx2 ⊢
 subst htq2
 have hlo := hmi.lo
 have hml := hmi.len
 refine sqt 1 rfl (pur 1 rfl (Z0 ?_))
 refine Z2 rfl ?_ ?_ <;> intro hc0 <;> try simp only [cS] at hc0
 have hk3 : k < 3 := by omega
 have hk4 : 3 - k < 4 := by omega
 refine Z5 (Z0 (Z3 (sqt 3 rfl (sp rfl (PE.indexAddr Z4i rfl rfl (by omega) (by omega)) rfl (spL rfl rfl (lh sc3 rfl (Z7K hk3 (by omega))) rfl (pur 1 rfl (sqt 10 rfl (pur 3 rfl ?_))))))))
 refine cl rfl ZQ rfl rfl (Zo g ag cg bk hgl _ _ (by omega) (by assumption) (5) _ _) ?_
 rintro _ _ R1 ⟨x17, m17, hx17, rfl, hm17, rfl, hR1⟩
 obtain rfl := hR1.symm
 refine pur 1 rfl ?_
 refine cl rfl ZQ rfl rfl (Zo g ag cg bk hgl _ _ (by omega) (by assumption) (4) _ _) ?_
 rintro _ _ R1 ⟨x19, m19, hx19, rfl, hm19, rfl, hR1⟩
 obtain rfl := hR1.symm
 have hm20 := mul_b (a := x17) (b := x19) (A := 4) (B := 3) (by omega) (by omega) (by omega) (by omega)
 obtain ⟨v, hv⟩ : ∃ v, v = min left (x17 * x19) := ⟨_, rfl⟩
 refine sp rfl (PE.mul rfl rfl (by omega)) rfl (sp rfl (PE.min rfl rfl) rfl ?_)
 rw [← hv]
 refine sp rfl (PE.indexArr Z16 rfl rfl (by omega) (by omega)) rfl ?_
 refine Zf b3 ?_
 refine Z1S (l' := Zc ((l).set (3 - k) (v))) rfl rfl rfl cn3 rfl rfl rfl (Z3H hml hk4 _) (by rw [ints_length, hml]; show 0 + (((3 - k) : Nat) : Int).toNat * 1 + 1 ≤ 4; omega) ?_
 refine sqr 6 rfl (pur 2 rfl (sp rfl (PE.indexArr Z16 rfl rfl (by omega) (by omega)) rfl (spL rfl rfl (lh sc3 rfl (mix_at (by simp [hml]) hk4)) rfl ?_)))
 rw [show nn (l.set (3 - k) v) (3 - k) = v from by rw [Z11 (by omega)]; simp]
 refine sp rfl (PE.sub rfl rfl (by omega)) rfl (pur 1 rfl (sqr 2 rfl (sp rfl (PE.add rfl rfl (by omega)) rfl (pur 1 rfl ?_))))
 exact ZC ⟨(k + 1, l.set (3 - k) v, left - v, tq + 2 * k + 1 + 1, m19), by omega, hmi.more hk3 (by omega), by dsimp only; omega, by assumption⟩ (fun _ h => St.sub (((h.pull b3).pull b8).pull bk))
 obtain rfl : k = 3 := by omega
 have hq := hmi.done
 refine Zg (Zh (Zh (ZJ (sqt 3 rfl (pur 1 rfl (sp rfl (PE.indexArr Z16 rfl rfl (by omega) (by omega)) rfl ?_))))))
 refine Zf b3 ?_
 refine Z1S (l' := Zc ((l).set 0 (left))) rfl rfl rfl cn3 rfl rfl rfl (Z3H hml (by decide) _) (by rw [ints_length, hml]; show 0 + ((0 : Nat) : Int).toNat * 1 + 1 ≤ 4; decide) ?_
 refine Z0 (sqt 2 rfl ?_)
 refine Zf bk ?_
 obtain ⟨q, hqe⟩ : ∃ q, q = l.set 0 left := ⟨_, rfl⟩
 rw [← hqe] at hq ⊢
 refine pur 1 rfl ?_
 refine cl rfl ZbQ rfl rfl (ZaR g ag cg bk hgl _ _ (by omega) (by assumption) 4 _ _) ?_
 rintro _ _ R1 ⟨x32, m32, rfl, hm32, rfl, hR1⟩
 obtain rfl := hR1.symm
 refine Z2 rfl ?_ ?_ <;> intro hc1 <;> try simp only [cS] at hc1
 refine sqt 4 rfl (pur 1 rfl ?_)
 refine cl rfl ZQ rfl rfl (Zo g ag cg bk hgl _ _ (by omega) (by assumption) (3) _ _) ?_
 rintro _ _ R1 ⟨x34, m34, hx34, rfl, hm34, rfl, hR1⟩
 obtain rfl := hR1.symm
 refine sp rfl (PE.add rfl rfl (by omega)) rfl (pur 1 rfl ?_)
 refine Z8 [0, 0, 2, 6, 0, 16, 62, 126, 255, 511] (tks 0 3 (.ld 3 (.tk 4 (.ld 5 (.tk 6 (.big 7 (.tk 8 (.big 9 .done)))))))) Zk (by kernel_rfl) ?_
 obtain ⟨k, hk⟩ : ∃ k : Nat, 1 + x34 = k := ⟨(1 + x34).toNat, by omega⟩
 rw [hk]
 have hk4 : k < 4 := by omega
 have hq2 := Z9x hq hk4
 refine Za 2 rfl (tk rfl (PE.indexArr Z16 rfl rfl (by omega) (by omega)) rfl (ld rfl rfl (lh sc3 rfl (mix_at hq.len hk4)) rfl (tk rfl (PE.indexArr Z16 rfl rfl (by omega) (by omega)) rfl (ld rfl rfl (lh sc3 rfl (mix_at hq.len (k := 0) (by omega))) rfl (tk rfl (PE.indexArr Z16 rfl rfl (by omega) (by omega)) rfl ?_)))))
 refine Zf b3 ?_
 refine Z1S (l' := Zc ((q).set 0 (nn q k))) rfl rfl rfl cn3 rfl rfl rfl (Z3H hq.len (by decide) _) (by rw [ints_length, hq.len]; show 0 + ((0 : Nat) : Int).toNat * 1 + 1 ≤ 4; decide) ?_
 refine bgT (tk rfl (PE.indexArr Z16 rfl rfl (by omega) (by omega)) rfl ?_)
 refine Z1S (l' := Zc ((q.set 0 (nn q k)).set k (nn q 0))) rfl rfl rfl cn3 rfl rfl rfl (Z3H (show (q.set 0 (nn q k)).length = 4 by simp [hq.len]) hk4 _) (by rw [ints_length, (show (q.set 0 (nn q k)).length = 4 by simp [hq.len])]; show 0 + ((k : Nat) : Int).toNat * 1 + 1 ≤ 4; omega) ?_
 refine bgT (sqt 2 rfl ?_)
 obtain ⟨p, hpe, hp⟩ : ∃ p, p = q ∧ Mxt p := ⟨_, rfl, hq⟩
 first
   | (clear hpe hp p; obtain ⟨p, hpe⟩ : ∃ p, p = (q.set 0 (nn q k)).set k (nn q 0) := ⟨_, rfl⟩; rw [← hpe] at hq2 ⊢; have hp := hq2)
   | rw [← hpe]
 refine spL rfl rfl (lhA (Zc (p)) Z4z rfl (rest := []) (by rw [List.append_nil]; rfl) (by rw [ints_length]; exact hp.len)) rfl ?_
 refine Zf b2 ?_
 refine Z2H rfl rfl rfl Z9X rfl (by rw [ints_length]; exact hp.len) rfl (Zq _) ?_
 refine Z1 ?_
 first
   | exact Z6 (vs := [_]) rfl (.cons (RV.cell rfl (lhA (Zc (p)) Z4z rfl (rest := []) (by rw [List.append_nil]; rfl) (by rw [ints_length]; exact hp.len))) .nil) rfl ⟨p, tq + 2 * (3 : Nat) + 1 + 1, m34, hp, rfl, by omega, hm34, rfl, rfl⟩ (fun w h => St.sub (((h.del b2).del b3).del b8))
   | exact Z6 (vs := [_]) rfl (.cons (RV.cell rfl (lhA (Zc (p)) Z4z rfl (rest := []) (by rw [List.append_nil]; rfl) (by rw [ints_length]; exact hp.len))) .nil) rfl ⟨p, tq + 2 * (3 : Nat) + 1, m32, hp, rfl, by omega, hm32, rfl, rfl⟩ (fun w h => St.sub (((h.del b2).del b3).del b8))
 refine Z5 (sqt 2 rfl ?_)
 obtain ⟨p, hpe, hp⟩ : ∃ p, p = q ∧ Mxt p := ⟨_, rfl, hq⟩
 first
   | (clear hpe hp p; obtain ⟨p, hpe⟩ : ∃ p, p = (q.set 0 (nn q k)).set k (nn q 0) := ⟨_, rfl⟩; rw [← hpe] at hq2 ⊢; have hp := hq2)
   | rw [← hpe]
 refine spL rfl rfl (lhA (Zc (p)) Z4z rfl (rest := []) (by rw [List.append_nil]; rfl) (by rw [ints_length]; exact hp.len)) rfl ?_
 refine Zf b2 ?_
 refine Z2H rfl rfl rfl Z9X rfl (by rw [ints_length]; exact hp.len) rfl (Zq _) ?_
 refine Z1 ?_
 first
   | exact Z6 (vs := [_]) rfl (.cons (RV.cell rfl (lhA (Zc (p)) Z4z rfl (rest := []) (by rw [List.append_nil]; rfl) (by rw [ints_length]; exact hp.len))) .nil) rfl ⟨p, tq + 2 * (3 : Nat) + 1 + 1, m34, hp, rfl, by omega, hm34, rfl, rfl⟩ (fun w h => St.sub (((h.del b2).del b3).del b8))
   | exact Z6 (vs := [_]) rfl (.cons (RV.cell rfl (lhA (Zc (p)) Z4z rfl (rest := []) (by rw [List.append_nil]; rfl) (by rw [ints_length]; exact hp.len))) .nil) rfl ⟨p, tq + 2 * (3 : Nat) + 1, m32, hp, rfl, by omega, hm32, rfl, rfl⟩ (fun w h => St.sub (((h.del b2).del b3).del b8))
theorem Z2P {s : Int} {m : List Int} (hm : m.length = 4) {k : Nat} (hk : k < 4) : (Value.int .i64 s :: Zc m)[0 + 1 + ((k : Nat) : Int).toNat * 1]? = some (.int .i64 (nn m k)) := by
  obtain ⟨a, b, c, d, rfl⟩ := Z3N hm
  rcases lt4 hk with rfl | rfl | rfl | rfl <;> rfl
theorem Z3b {s : Int} {m : List Int} (hm : m.length = 4) {k : Nat} (hk : k < 4) (v : Int) : spl (Value.int .i64 s :: Zc m) (0 + 1 + ((k : Nat) : Int).toNat * 1) [.int .i64 v] = Value.int .i64 s :: Zc (m.set k v) := by
  obtain ⟨a, b, c, d, rfl⟩ := Z3N hm
  rcases lt4 hk with rfl | rfl | rfl | rfl <;> rfl
theorem Z74 {m : List Int} (hm : m.length = 4) {k : Nat} (hk : k < 4) : mkv false ((m.drop (k * 1)).take 1) = .int .i64 (nn m k) := by
  obtain ⟨a, b, c, d, rfl⟩ := Z3N hm
  rcases lt4 hk with rfl | rfl | rfl | rfl <;> rfl
theorem tdiv40 {a : Int} (h : 0 ≤ a ∧ a ≤ 1000000) : IntKind.i64.wrap (a.tdiv 40) = a / 40 := by
  rw [Z4w (by omega) (by omega), Int.tdiv_eq_ediv_of_nonneg h.1]
theorem Z3L {s : Int} {m : List Int} (hm : m.length = 4) : (Value.int .i64 s :: Zc m).length = 5 := by rw [List.length_cons, ints_length, hm]
theorem Z9E (l0 : List Int) (ag : Option Addr) (cg bk : Nat) (hgl : l0.length ≤ 9223372036854775807) (tq mx : Int) (htq : 0 ≤ tq ∧ tq ≤ 1000000) (hmx : 0 ≤ mx ∧ mx ≤ 4294967295) (g : Gat) (hmi : 0 ≤ g.miss ∧ g.miss ≤ 20) (sl : Value) (m : Mix) (hm : Mxt m) (H : Z7) (R : Z4) [hG : MemRows ag 1 (urows l0) R] :
    Fn Try.prog 56 [.pointer (some ⟨bk, 0, none⟩), g.v sl, .agg (Zc m).toArray] ((bk, cel 80 [.slice ag l0.length cg, .int .i64 (tq), .int .u32 (mx)]) :: H) R (fun v H' R' => ∃ (h : Hnd) (tq' mx' : Int), h.ok ∧ Z7t g.miss h m = true ∧ v = .agg (Z0K h).toArray ∧ (tq ≤ tq' ∧ tq' ≤ tq + 20) ∧ (0 ≤ mx' ∧ mx' ≤ 4294967295) ∧ H' = (bk, cel 80 [.slice ag l0.length cg, .int .i64 (tq'), .int .u32 (mx')]) :: H ∧ R' = R) := by
 refine Zb Try.func56 rfl Try.ntmps56 rfl ?_
 refine sqt 3 rfl (bx rfl rfl rfl (fun b4 => bx rfl rfl rfl (fun b5 => alc rfl Z68 rfl (fun b6 => sqt 3 rfl ?_))))
 refine Zf bk ?_
 refine pur 1 rfl ?_
 refine cl rfl Z1c rfl rfl (ZS l0 ag cg bk hgl _ _ (by omega) (by assumption) (10) (200) (by first | omega | (dsimp only; omega)) _ _) ?_
 rintro _ _ R1 ⟨x18, m18, hx18, rfl, hm18, rfl, hR1⟩
 obtain rfl := hR1.symm
 refine pur 1 rfl (Z0 (sqt 3 rfl (sp rfl (PE.fA Z3Y rfl) rfl (spL rfl rfl (lh sc3 rfl rfl) rfl (pur 1 rfl ?_)))))
 refine Z9y (ι := {x : Int × Int × Int // (10 ≤ x.1 ∧ x.1 ≤ 200) ∧ (g.miss = 0 → ∃ j : Int, x.1 = 40 * j) ∧ (tq ≤ x.2.1 ∧ x.2.1 ≤ tq + 2) ∧ (0 ≤ x.2.2 ∧ x.2.2 ≤ 4294967295)}) (fun x => ⟨[(0, .pointer (some ⟨bk, 0, none⟩)), (4, .pointer (some ⟨b4, 0, none⟩)), (5, .pointer (some ⟨b5, 0, none⟩)), (6, .pointer (some ⟨b6, 0, none⟩)), (7, .int .i64 x.1.1)], (bk, cel 80 [.slice ag l0.length cg, .int .i64 (x.1.2.1), .int .u32 (x.1.2.2)]) :: (b6, cel 121 (Z0K ⟨0, 0, 0, 0, 0⟩)) :: (b5, cel 65 (Zc m)) :: (b4, cel 61 (gtl g sl)) :: H, R⟩) ?_ ?_
 refine Z2 rfl ?_ ?_ <;> intro hc0
 refine sqr 4 rfl (pur 1 rfl ?_)
 refine cl rfl Z1c rfl rfl (ZS l0 ag cg bk hgl _ _ (by omega) (by assumption) (1) (5) (by first | omega | (dsimp only; omega)) _ _) ?_
 rintro _ _ R1 ⟨x23, m23, hx23, rfl, hm23, rfl, hR1⟩
 obtain rfl := hR1.symm
 refine sp rfl (PE.mul rfl rfl (by omega)) rfl (pur 1 rfl ?_)
 exact Z5a ⟨(40 * x23, tq + 1 + 1, m23), by dsimp only; omega, fun _ => ⟨x23, rfl⟩, by dsimp only; omega, by assumption⟩ idH
 refine Z5 ?_
 exact Z5a ⟨(x18, tq + 1, m18), by dsimp only; omega, fun h => absurd h (by simpa using hc0), by dsimp only; omega, by assumption⟩ idH
 rintro ⟨⟨n, tq2, mx2⟩, hn, hn0, htq2, hmx2⟩
 dsimp only at hn hn0 htq2 hmx2 ⊢
 have hng : 0 ≤ n ∧ n ≤ 200 := by omega
 refine sqt 5 rfl (pur 1 rfl ?_)
 refine cl rfl ZQ rfl rfl (Zo l0 ag cg bk hgl _ _ (by omega) (by assumption) (3) _ _) ?_
 rintro _ _ R1 ⟨x26, m26, hx26, rfl, hm26, rfl, hR1⟩
 obtain rfl := hR1.symm
 refine sp rfl (PE.build (out := Z0K ⟨x26, 0, 0, 0, 0⟩) Zbx Z68 rfl rfl) rfl (alc rfl Z68 rfl (fun b8 => ?_))
 refine sto rfl rfl rfl Z7X rfl rfl rfl rfl ?_
 refine sqt 2 rfl (pur 2 rfl (Z0 (sqt 2 rfl (spL rfl rfl (lhA (Zc (m)) Z4z rfl (rest := []) (by rw [List.append_nil]; rfl) (by rw [ints_length]; exact hm.len)) rfl (pur 1 rfl (Z3 ?_))))))
 refine Zj (ι := {k : Nat // k ≤ 4}) (fun k => ⟨[(0, .pointer (some ⟨bk, 0, none⟩)), (4, .pointer (some ⟨b4, 0, none⟩)), (5, .pointer (some ⟨b5, 0, none⟩)), (6, .pointer (some ⟨b6, 0, none⟩)), (7, .int .i64 n), (8, .pointer (some ⟨b8, 0, none⟩)), (9, .int .i64 (Z1K n m k.1).2), (29, .agg (Zc m).toArray), (30, .int .i64 k.1)], (b8, cel 121 (.int .i64 x26 :: Zc (Z1K n m k.1).1)) :: (bk, cel 80 [.slice ag l0.length cg, .int .i64 (tq2 + 1), .int .u32 (m26)]) :: (b6, cel 121 (Z0K ⟨0, 0, 0, 0, 0⟩)) :: (b5, cel 65 (Zc m)) :: (b4, cel 61 (gtl g sl)) :: H, R⟩) (fun k => 4 - k.1) ⟨0, by omega⟩ ?_ (fun k => ?_)
 exact Zr idH
 obtain ⟨k, hk⟩ := k
 dsimp only at hk ⊢
 obtain ⟨t1, t2, t3, t4, t5, t6⟩ := Z4R hm hng k hk
 refine sqt 1 rfl (pur 1 rfl (Z0 ?_))
 refine Z2 rfl ?_ ?_ <;> intro hc1 <;> try simp only [cS] at hc1
 have hk4 : k < 4 := by omega
 have hbd := Z0H hm hng hk4
 have hg0 : g0 n m k = n * nn m k / 40 := rfl
 refine Z5 (Z0 (Z3 (sqt 4 rfl (pur 1 rfl ?_))))
 refine sp rfl ((PE.indexI (l := m) Zaz (Z0p 10000 3 false 1 ZcF) (fun _ => rfl) rfl rfl hk4 (by rw [hm.len]; omega)).to (by rw [Z74 hm.len hk4])) rfl ?_
 refine pur 2 rfl (sqt 8 rfl (pur 3 rfl (sp rfl (PE.mul rfl rfl (by omega)) rfl ?_)))
 refine sp rfl ((PE.quoW rfl rfl (by omega)).to (by rw [tdiv40 (by omega), ← hg0])) rfl ?_
 refine sp rfl (PE.fA Z06 rfl) rfl (sp rfl (PE.indexArr Z16 rfl rfl (by omega) (by omega)) rfl ?_)
 refine Z1S (l' := .int .i64 x26 :: Zc (((Z1K n m k).1).set k (g0 n m k))) rfl rfl rfl cn3 rfl rfl rfl (Z3b t1 hk4 _) (by rw [Z3L t1]; show 0 + 1 + ((k : Nat) : Int).toNat * 1 + 1 ≤ 5; omega) ?_
 refine sqr 7 rfl (pur 2 rfl (sp rfl (PE.fA Z06 rfl) rfl (sp rfl (PE.indexArr Z16 rfl rfl (by omega) (by omega)) rfl (spL rfl rfl (lh sc3 rfl (Z2P (by simp [t1]) hk4)) rfl ?_))))
 rw [show nn ((Z1K n m k).1.set k (g0 n m k)) k = g0 n m k from by rw [Z11 (by omega)]; simp]
 refine sp rfl (PE.sub rfl rfl (by omega)) rfl (pur 1 rfl (sqr 2 rfl (sp rfl (PE.add rfl rfl (by omega)) rfl (pur 1 rfl ?_))))
 exact ZC ⟨k + 1, by omega⟩ idH
 obtain rfl : k = 4 := by omega
 refine Zg (Zh (Zh (ZJ (Z0 (sqt 2 rfl (spL rfl rfl (lhA (Zc (m)) Z4z rfl (rest := []) (by rw [List.append_nil]; rfl) (by rw [ints_length]; exact hm.len)) rfl (pur 1 rfl (Z3 ?_))))))))
 refine Zj (ι := {k : Nat // k ≤ 4}) (fun k => ⟨[(0, .pointer (some ⟨bk, 0, none⟩)), (4, .pointer (some ⟨b4, 0, none⟩)), (5, .pointer (some ⟨b5, 0, none⟩)), (6, .pointer (some ⟨b6, 0, none⟩)), (7, .int .i64 n), (8, .pointer (some ⟨b8, 0, none⟩)), (9, .int .i64 (Z0i n m k.1).2), (48, .agg (Zc m).toArray), (49, .int .i64 k.1)], (b8, cel 121 (.int .i64 x26 :: Zc (Z0i n m k.1).1)) :: (bk, cel 80 [.slice ag l0.length cg, .int .i64 (tq2 + 1), .int .u32 (m26)]) :: (b6, cel 121 (Z0K ⟨0, 0, 0, 0, 0⟩)) :: (b5, cel 65 (Zc m)) :: (b4, cel 61 (gtl g sl)) :: H, R⟩) (fun k => 4 - k.1) ⟨0, by omega⟩ ?_ (fun k => ?_)
 exact Zr idH
 obtain ⟨k, hk⟩ := k
 dsimp only at hk ⊢
 have hti := Z4l hm hng k hk
 have t1 := hti.len
 have t2 := hti.lo
 have t3 := hti.sum
 have t4 : (Z0i n m k).2 ≤ 200 := by
   obtain ⟨p0, p1, p2, p3⟩ := Z4h hti.at_
   obtain ⟨q0, q1, q2, q3⟩ := Z4h (fun k hk => Z0H hm hng (k := k) hk)
   have t3 := t3
   unfold Z1X at t3
   simp only [g0] at p0 p1 p2 p3
   omega
 refine sqt 1 rfl (pur 1 rfl (Z0 ?_))
 refine Z2 rfl ?_ ?_ <;> intro hc2 <;> try simp only [cS] at hc2
 have hk4 : k < 4 := by omega
 have hbd := Z0H hm hng hk4
 have hat := hti.at_ k hk4
 have hg0 : g0 n m k = n * nn m k / 40 := rfl
 refine Z5 (Z0 (Z3 (sqt 4 rfl (pur 1 rfl ?_))))
 refine sp rfl ((PE.indexI (l := m) Zaz (Z0p 10000 3 false 1 ZcF) (fun _ => rfl) rfl rfl hk4 (by rw [hm.len]; omega)).to (by rw [Z74 hm.len hk4])) rfl ?_
 refine pur 2 rfl (sqt 9 rfl (pur 3 rfl ?_))
 refine ZR 55 rfl ?_ ?_ <;> intro g55
 refine pur 2 rfl ?_
 refine spG rfl rfl rfl rfl (PE.mul rfl rfl (by omega)) rfl ?_
 refine spG rfl rfl rfl rfl (PE.rem rfl rfl (by omega)) rfl ?_
 refine pur 2 rfl ?_
 refine Z2 rfl ?_ ?_ <;> intro hc3
 have hst : Z0i n m (k + 1) = ((Z0i n m k).1.set k (nn (Z0i n m k).1 k + 1), (Z0i n m k).2 - 1) := by
   show (bif Z4Y n m (Z0i n m k) k then _ else _) = _
   rw [show Z4Y n m (Z0i n m k) k = true from by simp_all [Z4Y]]; rfl
 refine sqt 8 rfl (pur 1 rfl (sp rfl (PE.fA Z06 rfl) rfl (sp rfl (PE.indexArr Z16 rfl rfl (by omega) (by omega)) rfl (spL rfl rfl (lh sc3 rfl (Z2P t1 hk4)) rfl (sp rfl (PE.add rfl rfl (by omega)) rfl (sp rfl (PE.fA Z06 rfl) rfl (sp rfl (PE.indexArr Z16 rfl rfl (by omega) (by omega)) rfl ?_)))))))
 refine Z1S (l' := .int .i64 x26 :: Zc (((Z0i n m k).1).set k (nn (Z0i n m k).1 k + 1))) rfl rfl rfl cn3 rfl rfl rfl (Z3b t1 hk4 _) (by rw [Z3L t1]; show 0 + 1 + ((k : Nat) : Int).toNat * 1 + 1 ≤ 5; omega) ?_
 refine sqr 3 rfl (pur 1 rfl (sp rfl (PE.sub rfl rfl (by omega)) rfl (pur 1 rfl (sqr 2 rfl (sp rfl (PE.add rfl rfl (by omega)) rfl (pur 1 rfl ?_))))))
 exact Zt ⟨k + 1, by omega⟩ (by dsimp only; omega) (by dsimp only; rw [hst]; exact (by repeat' first | exact Sub.nil | apply Sub.cons | rfl | (simp [lk]; omega))) (fun w h => by dsimp only; rw [hst]; exact h)
 have hst : Z0i n m (k + 1) = Z0i n m k := by
   show (bif Z4Y n m (Z0i n m k) k then _ else _) = _
   rw [show Z4Y n m (Z0i n m k) k = false from by simp_all [Z4Y]]; rfl
 refine Z5 (sqr 2 rfl (sp rfl (PE.add rfl rfl (by omega)) rfl (pur 1 rfl ?_)))
 exact Zt ⟨k + 1, by omega⟩ (by dsimp only; omega) (by dsimp only; rw [hst]; exact (by repeat' first | exact Sub.nil | apply Sub.cons | rfl | (simp [lk]; omega))) (fun w h => by dsimp only; rw [hst]; exact h)
 have hst : Z0i n m (k + 1) = Z0i n m k := by
   show (bif Z4Y n m (Z0i n m k) k then _ else _) = _
   have h55 : decide (0 < (Z0i n m k).2) = false := by simpa using g55
   rw [show Z4Y n m (Z0i n m k) k = false from by unfold Z4Y; rw [h55]; rfl]; rfl
 refine pur 6 rfl ?_
 refine ZF rfl ?_
 refine Z5 (sqr 2 rfl (sp rfl (PE.add rfl rfl (by omega)) rfl (pur 1 rfl ?_)))
 exact Zt ⟨k + 1, by omega⟩ (by dsimp only; omega) (by dsimp only; rw [hst]; exact (by repeat' first | exact Sub.nil | apply Sub.cons | rfl | (simp [lk]; omega))) (fun w h => by dsimp only; rw [hst]; exact h)
 obtain rfl : k = 4 := by omega
 obtain ⟨e1, e2, e3⟩ := Z7f hm hng
 refine Zg (Zh (Zh (ZJ (sqt 6 rfl ?_))))
 refine Zf bk ?_
 obtain ⟨l, hl⟩ : ∃ l, l = (Z0i n m 4).1 := ⟨_, rfl⟩
 rw [← hl]
 rw [← hl] at e1 e2 e3
 refine pur 1 rfl ?_
 refine cl rfl ZQ rfl rfl (Zo l0 ag cg bk hgl _ _ (by omega) (by assumption) (4) _ _) ?_
 rintro _ _ R1 ⟨x73, m73, hx73, rfl, hm73, rfl, hR1⟩
 obtain rfl := hR1.symm
 refine pur 1 rfl ?_
 refine cl rfl ZQ rfl rfl (Zo l0 ag cg bk hgl _ _ (by omega) (by assumption) (4) _ _) ?_
 rintro _ _ R1 ⟨x75, m75, hx75, rfl, hm75, rfl, hR1⟩
 obtain rfl := hR1.symm
 refine pur 2 rfl (Z0 (Z0 ?_))
 refine Z8 [0, 0, 2, 7, 0, 0, 48, 112, 255, 511] (.tk 0 (.tk 1 (.ld 2 (tks 4 3 (.ld 7 (.big 3 (.tk 8 (.tk 9 .done)))))))) Zk (by kernel_rfl) ?_
 obtain ⟨a, ha⟩ : ∃ a : Nat, x73 = a := ⟨x73.toNat, by omega⟩
 obtain ⟨b, hb⟩ : ∃ b : Nat, x75 = b := ⟨x75.toNat, by omega⟩
 rw [ha, hb]
 have ha4 : a < 4 := by omega
 have hb4 : b < 4 := by omega
 have hea := e3 a ha4
 have heb := e3 b hb4
 have hga : g0 n m a = n * nn m a / 40 := rfl
 have hgb : g0 n m b = n * nn m b / 40 := rfl
 have hba := Z0H hm hng ha4
 have hbb := Z0H hm hng hb4
 refine Za 1 rfl (tk rfl (PE.fA Z3Y rfl) rfl (ld rfl rfl (lh sc3 rfl rfl) rfl (Za 1 rfl (tk rfl (PE.fA Z06 rfl) rfl (tk rfl (PE.indexArr Z16 rfl rfl (by omega) (by omega)) rfl (ld rfl rfl (lh sc3 rfl (Z2P e1 ha4)) rfl ?_))))))
 refine cl rfl ZQ rfl rfl (Zo l0 ag cg bk hgl _ _ (by omega) (by assumption) (g.miss) _ _) ?_
 rintro _ _ R1 ⟨x79, m79, hx79, rfl, hm79, rfl, hR1⟩
 obtain rfl := hR1.symm
 refine bg (fun w hs => ⟨(lh sc3 rfl (Z2P e1 ha4)) w hs, trivial, trivial⟩) ?_
 refine tk rfl (PE.min rfl rfl) rfl (Za 1 rfl (sqt 3 rfl ?_))
 obtain ⟨t, ht⟩ : ∃ t, t = min x79 (nn l a) := ⟨_, rfl⟩
 rw [← ht]
 obtain ⟨k1, k2, k3⟩ := Z8t e1 ha4 hb4 t
 refine pur 3 rfl ?_
 refine Z2 rfl ?_ ?_ <;> intro hc4
 have hab : a ≠ b := by intro h; subst h; simp at hc4
 have htk : tkM l a b t = (l.set a (nn l a - t)).set b (nn l b + t) := by unfold tkM; rw [show (a == b) = false by simpa using hab]; rfl
 refine Z8 [0, 0, 0, 0, 12, 28, 0, 124, 0, 0, 768, 1792, 0, 7936, 0, 20477, 53245, 0, 262143, 524287] (tks 0 5 (.ld 5 (tks 6 5 (.ld 11 (tks 12 4 (.tk 17 (.big 16 (.tk 18 (.big 19 .done))))))))) Zk (by kernel_rfl) ?_
 refine Za 3 rfl (tk rfl (PE.fA Z06 rfl) rfl (tk rfl (PE.indexArr Z16 rfl rfl (by omega) (by omega)) rfl (ld rfl rfl (lh sc3 rfl (Z2P e1 ha4)) rfl (Za 1 rfl (tk rfl (PE.sub rfl rfl (by omega)) rfl (Za 1 rfl (tk rfl (PE.fA Z06 rfl) rfl (tk rfl (PE.indexArr Z16 rfl rfl (by omega) (by omega)) rfl (ld rfl rfl (lh sc3 rfl (Z2P e1 hb4)) rfl (Za 1 rfl (tk rfl (PE.add rfl rfl (by omega)) rfl ?_)))))))))))
 refine Zf b8 ?_
 refine tk rfl (PE.fA Z06 rfl) rfl (tk rfl (PE.indexArr Z16 rfl rfl (by omega) (by omega)) rfl (tk rfl (PE.fA Z06 rfl) rfl ?_))
 refine Z1S (l' := .int .i64 x26 :: Zc ((l).set a (nn l a - t))) rfl rfl rfl cn3 rfl rfl rfl (Z3b e1 ha4 _) (by rw [Z3L e1]; show 0 + 1 + ((a : Nat) : Int).toNat * 1 + 1 ≤ 5; omega) ?_
 refine bgT (tk rfl (PE.indexArr Z16 rfl rfl (by omega) (by omega)) rfl ?_)
 refine Z1S (l' := .int .i64 x26 :: Zc ((l.set a (nn l a - t)).set b (nn l b + t))) rfl rfl rfl cn3 rfl rfl rfl (Z3b (show (l.set a (nn l a - t)).length = 4 by simp [e1]) hb4 _) (by rw [Z3L (show (l.set a (nn l a - t)).length = 4 by simp [e1])]; show 0 + 1 + ((b : Nat) : Int).toNat * 1 + 1 ≤ 5; omega) ?_
 refine bgT (sqt 2 rfl ?_)
 rw [← htk]
 obtain ⟨x0, x1, x2, x3, hx⟩ := Z3N k1
 obtain ⟨hok, hfit⟩ := Z6Z (spot := x26) hm hn (by omega) hmi.1 hn0 ha4 hb4 (t := t) (by rw [← hl]; omega) (by rw [← hl]; exact hx)
 rw [hx]
 refine spL rfl rfl (lhA (Z0K ⟨x26, x0, x1, x2, x3⟩) Z3T rfl rfl rfl) rfl ?_
 refine Zf b6 ?_
 refine Z2H rfl rfl rfl Z7X rfl rfl rfl rfl ?_
 refine Z1 ?_
 exact Z6 (vs := [_]) rfl (.cons (RV.cell rfl (lhA (Z0K ⟨x26, x0, x1, x2, x3⟩) Z3T rfl rfl rfl)) .nil) rfl ⟨⟨x26, x0, x1, x2, x3⟩, tq2 + 1 + 1 + 1 + 1, m79, hok, hfit, rfl, by omega, by assumption, rfl, rfl⟩ (fun w h => St.sub ((((h.del b6).del b8).del b5).del b4))
 have hab : a = b := by simp at hc4; omega
 have htk : tkM l a b t = l := by unfold tkM; rw [show (a == b) = true by simpa using hab]; rfl
 refine Z5 (sqt 2 rfl ?_)
 rw [← htk]
 obtain ⟨x0, x1, x2, x3, hx⟩ := Z3N k1
 obtain ⟨hok, hfit⟩ := Z6Z (spot := x26) hm hn (by omega) hmi.1 hn0 ha4 hb4 (t := t) (by rw [← hl]; omega) (by rw [← hl]; exact hx)
 rw [hx]
 refine spL rfl rfl (lhA (Z0K ⟨x26, x0, x1, x2, x3⟩) Z3T rfl rfl rfl) rfl ?_
 refine Zf b6 ?_
 refine Z2H rfl rfl rfl Z7X rfl rfl rfl rfl ?_
 refine Z1 ?_
 exact Z6 (vs := [_]) rfl (.cons (RV.cell rfl (lhA (Z0K ⟨x26, x0, x1, x2, x3⟩) Z3T rfl rfl rfl)) .nil) rfl ⟨⟨x26, x0, x1, x2, x3⟩, tq2 + 1 + 1 + 1 + 1, m79, hok, hfit, rfl, by omega, by assumption, rfl, rfl⟩ (fun w h => St.sub ((((h.del b6).del b8).del b5).del b4))
theorem Zd9 : apT Try.prog 59 = some (118, 5, 40) := by kernel_rfl
theorem Zdb : apT Try.prog 62 = some (121, 5, 40) := by kernel_rfl
theorem Zcr : cal Try.prog 55 = true := by kernel_rfl
theorem ZcC : cal Try.prog 56 = true := by kernel_rfl
theorem Zdd : ZK Try.prog 59 = some 1 := by kernel_rfl
theorem Zbh : ZK Try.prog 61 = some 3 := by kernel_rfl
theorem ZcZ : ZK Try.prog 62 = some 1 := by kernel_rfl
theorem Zbj : ZK Try.prog 64 = some 3 := by kernel_rfl
theorem ZcD : ZU Try.prog 118 = some [(0, 1), (1, 1), (2, 1), (3, 1), (4, 1)] := by kernel_rfl
theorem Zd2 : ZU Try.prog 61 = some [(0, 1), (1, 1), (2, 1)] := by kernel_rfl
theorem Zde : ZU Try.prog 64 = some [(0, 1), (1, 1), (2, 1)] := by kernel_rfl
theorem Zd8 : slE Try.prog 59 = some (118, 5) := by kernel_rfl
theorem Zdg : slE Try.prog 62 = some (121, 5) := by kernel_rfl
theorem ZaZ : Zy Try.prog 118 = some ([.int .i64 0, .int .i64 0, .int .i64 0, .int .i64 0, .int .i64 0]) := by kernel_rfl
theorem ZaS : Zy Try.prog 61 = some ([.int .i64 0, .int .i64 0, .slice none 0 0]) := by kernel_rfl
theorem Zap : Zy Try.prog 64 = some ([.int .i64 0, .int .i64 0, .slice none 0 0]) := by kernel_rfl
theorem _root_.Go.Proofs.Ythhdgeibokecjaa.OSl.freezeC {e sz : Nat} {rows : List (List Value)} (o : OSl e sz rows) : ∃ a c, o.fs = .slice a rows.length c ∧ rows.length ≤ c ∧ ∀ {H : Z7} {R : Z4} {w : World}, St (o.G ++ H) R w → St H (RowsA a sz rows :: R) w := by
  obtain ⟨fs, G, hl, his⟩ := o
  rcases his with ⟨rfl, rfl, rfl⟩ | ⟨b, cap, junk, rfl, rfl, _, hc, _⟩
  · exact ⟨none, 0, rfl, Nat.le_refl _, fun {H R w} h => (St.also (H := H) (R := R) h (f := RowsA none sz []) (fun w' _ => fun i row hi => by simp at hi))⟩
  · exact ⟨_, cap, rfl, hc, fun {H R w} h => St.rows (rest := junk) h hl⟩
theorem Z5M {l : List Grd} {x : Grd} (h : ∀ i, Z0q l i = false) (hx : ∀ q ∈ l, x.price ≤ q.price) : ∀ i, Z0q (l ++ [x]) i = false := fun i => by
  rcases Nat.lt_trichotomy (i + 1) l.length with h1 | h1 | h1
  · have := h i
    unfold Z0q at this ⊢
    rw [List.getElem?_append_left (by omega), List.getElem?_append_left (by omega)]; exact this
  · obtain ⟨q, hq⟩ : ∃ q, l[i]? = some q := ⟨_, List.getElem?_eq_getElem (by omega)⟩
    have h2 := hx q (List.mem_of_getElem? hq)
    unfold Z0q
    rw [List.getElem?_append_left (by omega), hq, List.getElem?_append_right (by omega), show i + 1 - l.length = 0 from by omega]
    simp only [List.getElem?_cons_zero]
    rw [decide_eq_false (by omega)]
  · unfold Z0q
    rw [List.getElem?_eq_none (l := l ++ [x]) (i := i + 1) (by simp; omega)]
    split <;> simp_all
structure GrI (l : List Grd) (k : Nat) (pr : Int) : Prop where
  len : l.length = k
  bd : 0 ≤ pr ∧ pr ≤ 100
  q : ∀ q ∈ l, (pr ≤ q.price ∧ q.price ≤ 100) ∧ ∀ k < 4, 0 ≤ nn q.ns k ∧ nn q.ns k ≤ 40
  bad : ∀ i, Z0q l i = false
theorem GrI.more {l : List Grd} {k : Nat} {pr a b c d x : Int} (h : GrI l k pr) (ha : 0 ≤ a ∧ a ≤ 40) (hb : 0 ≤ b ∧ b ≤ 40) (hc : 0 ≤ c ∧ c ≤ 40) (hd : 0 ≤ d ∧ d ≤ 40) (hx : 0 ≤ x ∧ x ≤ pr) : GrI (l ++ [⟨a, b, c, d, pr⟩]) (k + 1) (pr - x) := by
  have hp := h.bd
  refine ⟨by simp [h.len], by omega, fun q hq => ?_, Z5M h.bad (fun q hq => (h.q q hq).1.1)⟩
  rcases List.mem_append.1 hq with hq | hq
  · have := h.q q hq; exact ⟨by omega, this.2⟩
  · simp only [List.mem_singleton] at hq; subst hq; exact ⟨by simp only; omega, of4 ⟨ha, hb, hc, hd⟩⟩
structure MdOk (ng nh : Int) (g : Gat) (c : Crt) (m : Mix) : Prop where
  gok : g.ok
  cok : c.ok
  mix : Mxt m
  err : g.err ≤ 8
  miss : g.miss ≤ 6
  fit : ∀ h ∈ c.hs, Z7t g.miss h m = true
  many : g.grs.length ≤ ng
  more : c.hs.length ≤ nh
  net : 0 ≤ c.full - c.empty ∧ c.full - c.empty < 2000
theorem Z9I (l0 : List Int) (a0 : Option Addr) (c0 bk : Nat) (hgl : l0.length ≤ 9223372036854775807) (tq mx : Int) (htq : 0 ≤ tq ∧ tq ≤ 1000) (hmx : 0 ≤ mx ∧ mx ≤ 4294967295) (ng nh : Int) (hng : 0 ≤ ng ∧ ng ≤ 4) (hnh : 0 ≤ nh ∧ nh ≤ 6) (H : Z7) (R : Z4) [hG : MemRows a0 1 (urows l0) R] :
    Fn Try.prog 23 [.pointer (some ⟨bk, 0, none⟩), .int .i64 ng, .int .i64 nh] ((bk, cel 80 [.slice a0 l0.length c0, .int .i64 (tq), .int .u32 (mx)]) :: H) R (fun v H' R' => ∃ (g : Gat) (c : Crt) (m : Mix) (ag : Option Addr) (cg : Nat) (tq' mx' : Int) (o : OSl 121 5 (hrows c.hs)), MdOk ng nh g c m ∧ g.grs.length ≤ cg ∧ v = .tuple #[g.v (g.sl ag cg), c.v o.fs, .agg (Zc m).toArray] ∧ (tq ≤ tq' ∧ tq' ≤ tq + 200) ∧ (0 ≤ mx' ∧ mx' ≤ 4294967295) ∧ H' = (bk, cel 80 [.slice a0 l0.length c0, .int .i64 (tq'), .int .u32 (mx')]) :: (o.G ++ H) ∧ R' = RowsA ag 5 (grows g.grs) :: R) := by
 refine Zb Try.func23 rfl Try.ntmps23 rfl ?_
 refine sqt 3 rfl (alc rfl ZaS rfl (fun b6 => alc rfl Zap rfl (fun b7 => alc rfl Z9Z rfl (fun b8 => sqt 7 rfl ?_))))
 refine Zf bk ?_
 refine pur 1 rfl ?_
 refine cl rfl ZQ rfl rfl (Zo l0 a0 c0 bk hgl _ _ (by omega) (by assumption) (9) _ _) ?_
 rintro _ _ R1 ⟨x15, m15, hx15, rfl, hm15, rfl, hR1⟩
 obtain rfl := hR1.symm
 refine pur 1 rfl ?_
 refine cl rfl ZQ rfl rfl (Zo l0 a0 c0 bk hgl _ _ (by omega) (by assumption) (7) _ _) ?_
 rintro _ _ R1 ⟨x17, m17, hx17, rfl, hm17, rfl, hR1⟩
 obtain rfl := hR1.symm
 refine sp rfl (PE.build (out := gtl ⟨x15, x17, []⟩ (.slice none 0 0)) Zd2 ZaS rfl rfl) rfl (alc rfl ZaS rfl (fun b9 => ?_))
 refine sto rfl rfl rfl Zbh rfl rfl rfl rfl ?_
 refine sqt 3 rfl ?_
 refine Zf bk ?_
 refine pur 1 rfl ?_
 refine cl rfl Z1c rfl rfl (ZS l0 a0 c0 bk hgl _ _ (by omega) (by assumption) (1) (100) (by first | omega | (dsimp only; omega)) _ _) ?_
 rintro _ _ R1 ⟨x20, m20, hx20, rfl, hm20, rfl, hR1⟩
 obtain rfl := hR1.symm
 refine pur 1 rfl (Z0 (sqt 5 rfl (pur 2 rfl (sp rfl (PE.add rfl rfl (by omega)) rfl ?_))))
 refine cl rfl ZQ rfl rfl (Zo l0 a0 c0 bk hgl _ _ (by omega) (by assumption) (ng + 1) _ _) ?_
 rintro _ _ R1 ⟨x24, m24, hx24, rfl, hm24, rfl, hR1⟩
 obtain rfl := hR1.symm
 refine pur 1 rfl (Z3 ?_)
 obtain ⟨n24, rfl⟩ : ∃ n : Nat, x24 = n := ⟨x24.toNat, by omega⟩
 refine Zj (ι := (x : {x : Nat × Int × List Grd × Int × Int // x.1 ≤ n24 ∧ GrI x.2.2.1 x.1 x.2.1 ∧ (tq ≤ x.2.2.2.1 ∧ x.2.2.2.1 ≤ tq + 10 + 5 * x.1) ∧ (0 ≤ x.2.2.2.2 ∧ x.2.2.2.2 ≤ 4294967295)}) × OSl 118 5 (grows x.1.2.2.1)) (fun x => ⟨[(0, .pointer (some ⟨bk, 0, none⟩)), (6, .pointer (some ⟨b6, 0, none⟩)), (7, .pointer (some ⟨b7, 0, none⟩)), (8, .pointer (some ⟨b8, 0, none⟩)), (9, .pointer (some ⟨b9, 0, none⟩)), (2, .int .i64 nh), (10, .int .i64 x.1.1.2.1), (24, .int .i64 n24), (25, .int .i64 x.1.1.1)],
   (bk, cel 80 [.slice a0 l0.length c0, .int .i64 (x.1.1.2.2.2.1), .int .u32 (x.1.1.2.2.2.2)]) :: (x.2.G ++ (b9, cel 61 (gtl ⟨x15, x17, x.1.1.2.2.1⟩ x.2.fs)) :: (b8, cel 65 (Zc [0, 0, 0, 0])) :: (b7, cel 64 [.int .i64 0, .int .i64 0, .slice none 0 0]) :: (b6, cel 61 [.int .i64 0, .int .i64 0, .slice none 0 0]) :: H), R⟩) (fun x => n24 - x.1.1.1) ⟨⟨(0, x20, [], tq + 1 + 1 + 1 + 1, m24), by omega, ⟨rfl, by dsimp only; omega, by simp, fun i => by simp [Z0q]⟩, by dsimp only; omega, by assumption⟩, OSl.nil _ _⟩ ?_ (fun x => ?_)
 exact Zr idH
 obtain ⟨⟨⟨k, pr, l, tq2, mx2⟩, hk, hri, htq2, hmx2⟩, o'⟩ := x
 dsimp only at hk hri htq2 hmx2 o' ⊢
 have h2 := hri.bd
 have h3 := hri.len
 refine sqt 1 rfl (pur 1 rfl (Z0 ?_))
 refine Z2 rfl ?_ ?_ <;> intro hc0 <;> try simp only [cS] at hc0
 refine Z5 (Z0 (Z3 (Z0 ?_)))
 refine Z8 [0, 1, 0, 4, 0, 28, 0, 124, 0, 508, 0, 2044, 4092, 8191, 16383, 32767] (.tk 0 (.ld 1 (.tk 2 (.tk 4 (.tk 6 (.tk 8 (.tk 10 (.big 3 (.big 5 (.big 7 (.big 9 (.tk 11 (.big 12 (.big 13 (.tk 14 (.big 15 .done)))))))))))))))) Zk (by kernel_rfl) ?_
 refine tk rfl (PE.fA Z49 rfl) rfl (ld rfl rfl (lh Z7P rfl rfl) rfl (Za 5 rfl ?_))
 refine cl rfl Z1c rfl rfl (ZS l0 a0 c0 bk hgl _ _ (by omega) (by assumption) (10) (38) (by first | omega | (dsimp only; omega)) _ _) ?_
 rintro _ _ R1 ⟨x30, m30, hx30, rfl, hm30, rfl, hR1⟩
 obtain rfl := hR1.symm
 refine bg (fun w hs => ⟨(lh Z7P rfl rfl) w hs, trivial⟩) ?_
 refine cl rfl Z1c rfl rfl (ZS l0 a0 c0 bk hgl _ _ (by omega) (by assumption) (1) (14) (by first | omega | (dsimp only; omega)) _ _) ?_
 rintro _ _ R1 ⟨x32, m32, hx32, rfl, hm32, rfl, hR1⟩
 obtain rfl := hR1.symm
 refine bg (fun w hs => ⟨(lh Z7P rfl rfl) w hs, trivial⟩) ?_
 refine cl rfl ZQ rfl rfl (Zo l0 a0 c0 bk hgl _ _ (by omega) (by assumption) (9) _ _) ?_
 rintro _ _ R1 ⟨x34, m34, hx34, rfl, hm34, rfl, hR1⟩
 obtain rfl := hR1.symm
 refine bg (fun w hs => ⟨(lh Z7P rfl rfl) w hs, trivial⟩) ?_
 refine cl rfl Z1c rfl rfl (ZS l0 a0 c0 bk hgl _ _ (by omega) (by assumption) (1) (14) (by first | omega | (dsimp only; omega)) _ _) ?_
 rintro _ _ R1 ⟨x36, m36, hx36, rfl, hm36, rfl, hR1⟩
 obtain rfl := hR1.symm
 refine bg (fun w hs => ⟨(lh Z7P rfl rfl) w hs, trivial⟩) ?_
 refine tk rfl (PE.build (out := Z3J ⟨x30, x32, x34, x36, pr⟩) ZcD ZaZ rfl rfl) rfl ?_
 refine bsl (out := [_, _, _, _, _]) rfl Zd8 ZaZ rfl rfl rfl rfl rfl rfl (fun b39 => ?_)
 refine bg (fun w hs => ⟨(lh Z7P rfl rfl) w hs, trivial⟩) ?_
 refine apO (o') rfl Zd9 rfl rfl (Z4L (row := Z3J ⟨x30, x32, x34, x36, pr⟩) rfl) rfl rfl ((by simp only [grows, List.length_map, List.length_singleton]; omega)) rfl (fun o40 => ?_)
 refine bgT (tk rfl (PE.fA Z49 rfl) rfl ?_)
 refine Z1S (l' := gtl ⟨x15, x17, l ++ [⟨x30, x32, x34, x36, pr⟩]⟩ o40.fs) rfl rfl rfl Zdd rfl (by rw [o40.cells.1]; first | done | rfl) (by rw [o40.cells.1]; simp [o40.cells.2]) (by rw [o40.cells.1]; first | done | rfl) (by rw [o40.cells.1]; first | done | exact Nat.le_refl _) ?_
 refine bgT (sqr 7 rfl ?_)
 refine Zf bk ?_
 refine pur 3 rfl (sp rfl (PE.add rfl rfl (by omega)) rfl ?_)
 refine cl rfl ZQ rfl rfl (Zo l0 a0 c0 bk hgl _ _ (by omega) (by assumption) (pr + 1) _ _) ?_
 rintro _ _ R1 ⟨x46, m46, hx46, rfl, hm46, rfl, hR1⟩
 obtain rfl := hR1.symm
 refine sp rfl (PE.sub rfl rfl (by omega)) rfl (pur 1 rfl (sqr 2 rfl (sp rfl (PE.add rfl rfl (by omega)) rfl (pur 1 rfl ?_))))
 exact ZC ⟨⟨(k + 1, pr - x46, l ++ [⟨x30, x32, x34, x36, pr⟩], tq2 + 1 + 1 + 1 + 1 + 1, m46), by omega, hri.more (x := x46) (by omega) (by omega) (by omega) (by omega) (by omega), by dsimp only; omega, by assumption⟩, o40.cast (by simp [grows])⟩ (fun w h => (h.del b39).perm (by first | exact .refl _ | exact List.Perm.cons _ (.refl _)))
 obtain rfl : k = n24 := by omega
 obtain ⟨ag, cg, he, hcg, hf⟩ := o'.freezeC
 rw [he]
 refine Zf bk ?_
 refine Sy.heap (H' := _) (fun w h => hf (h.perm (List.perm_middle (l₁ := o'.G) (a := _)).symm)) ?_
 rw [show (grows l).length = l.length from List.length_map _]
 rw [show (grows l).length = l.length from List.length_map _] at hcg
 have hgo : Gat.ok ⟨x15, x17, l⟩ := ⟨by simp only; omega, by simp only; omega, by simp only; omega, fun q hq => by have := hri.q q hq; exact ⟨by omega, this.2⟩, hri.bad⟩
 clear he hf
 refine Zg (Zh (Zh (ZJ (sqt 4 rfl (pur 1 rfl ?_)))))
 refine cl rfl Zcr rfl rfl (Z9p l0 a0 c0 bk hgl _ _ (by omega) (by assumption) _ _) ?_
 rintro _ _ R1 ⟨q, tq5, mx5, hq, rfl, htq5, hmx5, rfl, hR1⟩
 obtain rfl := hR1.symm
 refine alc rfl Z9Z rfl (fun b11 => ?_)
 refine Z2H rfl rfl rfl Z9X rfl (by rw [ints_length]; exact hq.len) rfl (Zq _) ?_
 refine sqt 3 rfl ?_
 refine Zf bk ?_
 refine pur 1 rfl ?_
 refine cl rfl ZQ rfl rfl (Zo l0 a0 c0 bk hgl _ _ (by omega) (by assumption) (900) _ _) ?_
 rintro _ _ R1 ⟨x52, m52, hx52, rfl, hm52, rfl, hR1⟩
 obtain rfl := hR1.symm
 refine pur 1 rfl (sqt 8 rfl (pur 2 rfl ?_))
 refine cl rfl ZQ rfl rfl (Zo l0 a0 c0 bk hgl _ _ (by omega) (by assumption) (2000) _ _) ?_
 rintro _ _ R1 ⟨x55, m55, hx55, rfl, hm55, rfl, hR1⟩
 obtain rfl := hR1.symm
 refine sp rfl (PE.add rfl rfl (by omega)) rfl (pur 1 rfl (sp rfl (PE.build (out := ctl ⟨x52 + x55, x52, []⟩ (.slice none 0 0)) Zde Zap rfl rfl) rfl (alc rfl Zap rfl (fun b13 => ?_))))
 refine sto rfl rfl rfl Zbj rfl rfl rfl rfl ?_
 refine Z0 (sqt 5 rfl ?_)
 refine Zf bk ?_
 refine pur 2 rfl (sp rfl (PE.add rfl rfl (by omega)) rfl ?_)
 refine cl rfl ZQ rfl rfl (Zo l0 a0 c0 bk hgl _ _ (by omega) (by assumption) (nh + 1) _ _) ?_
 rintro _ _ R1 ⟨x62, m62, hx62, rfl, hm62, rfl, hR1⟩
 obtain rfl := hR1.symm
 refine pur 1 rfl (Z3 ?_)
 obtain ⟨n62, rfl⟩ : ∃ n : Nat, x62 = n := ⟨x62.toNat, by omega⟩
 refine Zj (ι := (x : {x : Nat × List Hnd × Int × Int // x.1 ≤ n62 ∧ (x.2.1.length = x.1 ∧ ∀ h ∈ x.2.1, h.ok ∧ Z7t x17 h q = true) ∧ (tq ≤ x.2.2.1 ∧ x.2.2.1 ≤ tq + 60 + 20 * x.1) ∧ (0 ≤ x.2.2.2 ∧ x.2.2.2 ≤ 4294967295)}) × OSl 121 5 (hrows x.1.2.1)) (fun x => ⟨[(0, .pointer (some ⟨bk, 0, none⟩)), (6, .pointer (some ⟨b6, 0, none⟩)), (7, .pointer (some ⟨b7, 0, none⟩)), (8, .pointer (some ⟨b8, 0, none⟩)), (9, .pointer (some ⟨b9, 0, none⟩)), (11, .pointer (some ⟨b11, 0, none⟩)), (13, .pointer (some ⟨b13, 0, none⟩)), (62, .int .i64 n62), (63, .int .i64 x.1.1.1)],
   (bk, cel 80 [.slice a0 l0.length c0, .int .i64 (x.1.1.2.2.1), .int .u32 (x.1.1.2.2.2)]) :: (x.2.G ++ (b13, cel 64 (ctl ⟨x52 + x55, x52, x.1.1.2.1⟩ x.2.fs)) :: (b11, cel 65 (Zc q)) :: (b9, cel 61 (gtl ⟨x15, x17, l⟩ (.slice ag l.length cg))) :: (b8, cel 65 (Zc [0, 0, 0, 0])) :: (b7, cel 64 [.int .i64 0, .int .i64 0, .slice none 0 0]) :: (b6, cel 61 [.int .i64 0, .int .i64 0, .slice none 0 0]) :: H), RowsA ag 5 (grows l) :: R⟩) (fun x => n62 - x.1.1.1) ⟨⟨(0, [], tq5 + 1 + 1 + 1, m62), by omega, ⟨rfl, by simp⟩, by dsimp only; omega, by assumption⟩, OSl.nil _ _⟩ ?_ (fun x => ?_)
 exact Zr idH
 obtain ⟨⟨⟨k, hds, tq3, mx3⟩, hk1, ⟨hkl, hkh⟩, htq3, hmx3⟩, o'⟩ := x
 dsimp only at hk1 hkl hkh htq3 hmx3 o' ⊢
 refine sqt 1 rfl (pur 1 rfl (Z0 ?_))
 refine Z2 rfl ?_ ?_ <;> intro hc1 <;> try simp only [cS] at hc1
 refine Z5 (Z0 (Z3 ?_))
 refine Z8 [0, 1, 0, 0, 0, 28, 60, 127, 255, 511] (.tk 0 (.ld 1 (.tk 2 (.ld 3 (.ld 4 (.big 5 (.big 6 (.big 7 (.tk 8 (.big 9 .done)))))))))) Zk (by kernel_rfl) ?_
 refine tk rfl (PE.fA Z30 rfl) rfl (ld rfl rfl (lh Z96 rfl rfl) rfl (Za 1 rfl (ld rfl rfl (lhA (gtl ⟨x15, x17, l⟩ (.slice ag l.length cg)) Z5R rfl rfl rfl) rfl (ld rfl rfl (lhA (Zc (q)) Z4z rfl (rest := []) (by rw [List.append_nil]; rfl) (by rw [ints_length]; exact hq.len)) rfl ?_))))
 refine cl rfl ZcC rfl rfl (Z9E l0 a0 c0 bk hgl _ _ (by omega) (by assumption) ⟨x15, x17, l⟩ (by dsimp only; omega) (.slice ag l.length cg) q hq _ _) ?_
 rintro _ _ R1 ⟨h, tq4, mx4, hho, hhf, rfl, htq4, hmx4, rfl, hR1⟩
 obtain rfl := hR1.symm
 refine bg (fun w hs => ⟨trivial, trivial, (lh Z96 rfl rfl) w hs, trivial⟩) ?_
 refine bsl (out := [_, _, _, _, _]) rfl Zdg Z68 rfl rfl rfl rfl rfl rfl (fun b71 => ?_)
 refine bg (fun w hs => ⟨(lh Z96 rfl rfl) w hs, trivial⟩) ?_
 refine apO (o') rfl Zdb rfl rfl (Z4L (row := Z0K h) rfl) rfl rfl ((by simp only [hrows, List.length_map, List.length_singleton]; omega)) rfl (fun o72 => ?_)
 refine bgT (tk rfl (PE.fA Z30 rfl) rfl ?_)
 refine Z1S (l' := ctl ⟨x52 + x55, x52, hds ++ [h]⟩ o72.fs) rfl rfl rfl ZcZ rfl (by rw [o72.cells.1]; first | done | rfl) (by rw [o72.cells.1]; simp [o72.cells.2]) (by rw [o72.cells.1]; first | done | rfl) (by rw [o72.cells.1]; first | done | exact Nat.le_refl _) ?_
 refine bgT (sqr 2 rfl ?_)
 refine Zf bk ?_
 refine sp rfl (PE.add rfl rfl (by omega)) rfl (pur 1 rfl ?_)
 exact ZC ⟨⟨(k + 1, hds ++ [h], tq4, mx4), by omega, ⟨by simp [hkl], fun x hx => by rcases List.mem_append.1 hx with hx | hx; exact hkh x hx; obtain rfl := List.mem_singleton.1 hx; exact ⟨hho, hhf⟩⟩, by dsimp only; omega, by assumption⟩, o72.cast (by simp [hrows])⟩ (fun w h => (h.del b71).perm (by first | exact .refl _ | exact List.Perm.cons _ (.refl _)))
 obtain rfl : k = n62 := by omega
 refine Zf bk ?_
 refine Zg (Zh (Zh (ZJ (Z0 ?_))))
 refine Z8 [0, 0, 0, 1, 11, 31] (.ld 0 (.ld 1 (.ld 2 (.big 3 (.big 4 (.big 5 .done)))))) Zk (by kernel_rfl) ?_
 refine ld rfl rfl (lhA (gtl ⟨x15, x17, l⟩ (.slice ag l.length cg)) Z5R rfl rfl rfl) rfl (ld rfl rfl (lhA (ctl ⟨x52 + x55, x52, hds⟩ o'.fs) Z5D rfl rfl rfl) rfl (ld rfl rfl (lhA (Zc (q)) Z4z rfl (rest := []) (by rw [List.append_nil]; rfl) (by rw [ints_length]; exact hq.len)) rfl ?_))
 refine sto rfl rfl rfl Zbh rfl rfl rfl rfl ?_
 refine bg (fun w hs => ⟨(lhA (Zc (q)) Z4z rfl (rest := []) (by rw [List.append_nil]; rfl) (by rw [ints_length]; exact hq.len)) w hs, (lhA (ctl ⟨x52 + x55, x52, hds⟩ o'.fs) Z5D rfl rfl rfl) w hs, trivial, trivial⟩) ?_
 refine Z1S (l' := ctl ⟨x52 + x55, x52, hds⟩ o'.fs) rfl rfl rfl Zbj rfl rfl (by show (ctl _ o'.fs).all (·.oneCell') = true; simp only [ctl, List.all_cons, List.all_nil, o'.cells.2, Bool.and_true]; rfl) rfl (Nat.le_refl _) ?_
 refine bg (fun w hs => ⟨(lhA (Zc (q)) Z4z rfl (rest := []) (by rw [List.append_nil]; rfl) (by rw [ints_length]; exact hq.len)) w hs, trivial, trivial⟩) ?_
 refine Z2H rfl rfl rfl Z9X rfl (by rw [ints_length]; exact hq.len) rfl (Zq _) ?_
 refine bgT (Z1 ?_)
 have hco : Crt.ok ⟨x52 + x55, x52, hds⟩ := ⟨by simp only; omega, by simp only; omega, by simp only; omega, fun h hh => (hkh h hh).1⟩
 exact Z6 (vs := [_, _, _]) rfl (.cons (RV.cell rfl (lhA [_, _, _] Z5R rfl rfl rfl)) (.cons (RV.cell rfl (lhA [_, _, _] Z5D rfl rfl rfl)) (.cons (RV.cell rfl (lhA (Zc (q)) Z4z rfl (rest := []) (by rw [List.append_nil]; rfl) (by rw [ints_length]; exact hq.len))) .nil))) rfl ⟨⟨x15, x17, l⟩, ⟨x52 + x55, x52, hds⟩, q, ag, cg, tq3, mx3, o', ⟨hgo, hco, hq, by simp only; omega, by simp only; omega, fun h hh => (hkh h hh).2, by simp only; omega, by simp only; omega, by simp only; omega⟩, hcg, rfl, by omega, by assumption, rfl, rfl⟩ (fun w h => St.sub ((((((h.del b13).del b11).del b9).del b8).del b7).del b6))
theorem Fn.post {P : Program} {f : FuncId} {args : List Value} {H : Z7} {R : Z4} {Q Q' : Value → Z7 → Z4 → Prop} (h : Fn P f args H R Q) (hq : ∀ v H1 R1, Q v H1 R1 → ∃ H2 R2, Q' v H2 R2 ∧ ∀ w, St H1 R1 w → St H2 R2 w) : Fn P f args H R Q' :=
  fun w hs => CallsIn.mono (h w hs) fun e w' ⟨v, H1, R1, q, he, hs'⟩ => by obtain ⟨H2, R2, q2, hst⟩ := hq _ _ _ q; exact ⟨v, H2, R2, q2, he, hst _ hs'⟩
theorem c_Made (l0 : List Int) (a0 : Option Addr) (c0 bk : Nat) (hgl : l0.length ≤ 9223372036854775807) (tq mx : Int) (htq : 0 ≤ tq ∧ tq ≤ 1000) (hmx : 0 ≤ mx ∧ mx ≤ 4294967295) (ng nh : Int) (hng : 0 ≤ ng ∧ ng ≤ 4) (hnh : 0 ≤ nh ∧ nh ≤ 6) (H : Z7) (R : Z4) [hG : MemRows a0 1 (urows l0) R] :
    Fn Try.prog 23 [.pointer (some ⟨bk, 0, none⟩), .int .i64 ng, .int .i64 nh] ((bk, cel 80 [.slice a0 l0.length c0, .int .i64 (tq), .int .u32 (mx)]) :: H) R (fun v H' R' => ∃ (g : Gat) (c : Crt) (m : Mix) (ag : Option Addr) (cg : Nat) (ah : Option Addr) (ch : Nat) (tq' mx' : Int), MdOk ng nh g c m ∧ g.grs.length ≤ cg ∧ v = .tuple #[g.v (g.sl ag cg), c.v (c.sl ah ch), .agg (Zc m).toArray] ∧ (tq ≤ tq' ∧ tq' ≤ tq + 200) ∧ (0 ≤ mx' ∧ mx' ≤ 4294967295) ∧ H' = (bk, cel 80 [.slice a0 l0.length c0, .int .i64 (tq'), .int .u32 (mx')]) :: H ∧ R' = RowsA ah 5 (hrows c.hs) :: RowsA ag 5 (grows g.grs) :: R) :=
  Fn.post (Z9I l0 a0 c0 bk hgl tq mx htq hmx ng nh hng hnh H R) (by
    rintro v _ _ ⟨g, c, m, ag, cg, tq', mx', o, h1, h2, rfl, h3, h4, rfl, rfl⟩
    obtain ⟨ah, ch, he, hf⟩ := o.freeze
    exact ⟨_, _, ⟨g, c, m, ag, cg, ah, ch, tq', mx', h1, h2, by rw [he, show (hrows c.hs).length = c.hs.length from List.length_map _]; rfl, h3, h4, rfl, rfl⟩, fun w h => hf (h.perm (List.perm_middle (l₁ := o.G) (a := _)).symm)⟩)
theorem Z7r {ng nh : Int} {g : Gat} {c : Crt} {m : Mix} (h : MdOk ng nh g c m) : Z0z g c = 0 ∧ Z09 g c false = 0 ∧ ∃ b, clo (Z3M g.miss c.hs fun _ => true) = some b ∧ Tight b ∧ ∀ m', Mx b m' ↔ (Mxt m' ∧ ∀ x ∈ c.hs, Z7t g.miss x m' = true) := by
  have h1 := gat_ok.2 h.gok
  have h2 := crt_ok.2 h.cok
  have h0 : Z0z g c = 0 := by simp [Z0z, h1, h2]
  have hmi := h.gok.miss
  have hiff : ∀ m', Mx (Z3M g.miss c.hs fun _ => true) m' ↔ (Mxt m' ∧ ∀ x ∈ c.hs, Z7t g.miss x m' = true) := fun m' => by
    rw [Z9f hmi.1 h.cok.hs]
    constructor
    · rintro ⟨h3, h4⟩
      refine ⟨h3, fun x hx => ?_⟩
      obtain ⟨i, hi⟩ := List.getElem?_of_mem hx
      exact h4 i x hi rfl
    · rintro ⟨h3, h4⟩
      exact ⟨h3, fun i x hx _ => h4 x (List.mem_of_getElem? hx)⟩
  cases hb : clo (Z3M g.miss c.hs fun _ => true) with
  | none => exact absurd ((hiff m).2 ⟨h.mix, h.fit⟩) (Z7S (Z3K _ _ _) hb m)
  | some b =>
    obtain ⟨h3, h4⟩ := Z5l (Z3K _ _ _) hb
    exact ⟨h0, by simp [Z09, h0, hb], b, rfl, h3, fun m' => (h4 m').trans (hiff m')⟩
theorem md_net {ng nh : Int} {g : Gat} {c : Crt} {m : Mix} (h : MdOk ng nh g c m) : ZcW g c = .tuple #[spv (netP g c).1 (netP g c).2, .int .i64 0] ∧ (0 ≤ (netP g c).1 ∧ (netP g c).1 ≤ c.full - c.empty) ∧ (c.full - c.empty ≤ (netP g c).2 ∧ (netP g c).2 ≤ 2100) := by
  have h1 := h.net
  have h2 := h.gok.err
  refine ⟨by unfold ZcW; rw [decide_eq_false (show ¬ Z0z g c ≠ 0 by rw [(Z7r h).1]; decide)]; rfl, ?_, ?_⟩ <;> simp only [netP] <;> omega
theorem wgh_at {n w x a p z : Int} (hn : 0 ≤ n) (hw : n ≤ w ∧ w ≤ x) (ha : 0 ≤ a) (hp : a ≤ p ∧ p ≤ z) : n * a / 40 ≤ w * p / 40 ∧ w * p / 40 ≤ x * z / 40 :=
  ⟨Int.ediv_le_ediv (by omega) (Int.mul_le_mul hw.1 hp.1 ha (by omega)), Int.ediv_le_ediv (by omega) (Int.mul_le_mul hw.2 hp.2 (by omega) (by omega))⟩
theorem md_wgt {ng nh : Int} {g : Gat} {c : Crt} {m : Mix} (h : MdOk ng nh g c m) : ∃ b, (∀ k < 4, Z88 g c (k : Nat) = .tuple #[spv ((netP g c).1 * bl b k / 40) ((netP g c).2 * bh b k / 40), .int .i64 0]) ∧ (∀ k < 4, 0 ≤ bl b k ∧ bl b k ≤ nn m k ∧ nn m k ≤ bh b k ∧ bh b k ≤ 40) ∧ bl b 0 + bl b 1 + bl b 2 + bl b 3 ≤ 40 ∧ 40 ≤ bh b 0 + bh b 1 + bh b 2 + bh b 3 := by
  obtain ⟨h0, h1, b, hb, hbt, hmx⟩ := Z7r h
  have hm := (hmx m).2 ⟨h.mix, h.fit⟩
  refine ⟨b, fun k hk => ?_, fun k hk => ?_, ?_, ?_⟩
  · have hi : (!(inb (k : Nat) 0 3)) = false := by simp [inb]; omega
    unfold Z88
    rw [hi, decide_eq_false (show ¬ Z09 g c false ≠ 0 by omega), Z5b h1 hb]; rfl
  · have h2 := hm.at_ k hk
    have h3 := hbt.ok.at_ k hk
    omega
  · obtain ⟨p0, p1, p2, p3⟩ := Z4h hm.at_
    have hs := hm.sum
    unfold Z1X at hs
    omega
  · obtain ⟨p0, p1, p2, p3⟩ := Z4h hm.at_
    have hs := hm.sum
    unfold Z1X at hs
    omega
end Go.Proofs.Ythhdgeibokecjaa.Gt
namespace Go.Proofs.Ythhdgeibokecjaa.Bd
set_option linter.unusedSimpArgs false
set_option linter.unusedVariables false
structure Rn where
  sacks : Int
  price : Int
  deriving DecidableEq, Repr
structure Sta where
  stock : Int
  short : Int
  dry : Int
  deriving DecidableEq, Repr
structure Twn where
  now : Sta
  holds : Int
  need : Int
  patience : Int
  run : Int
  good : Int
  bad : Int
  rot : Int
  rats : List Rn
  deriving DecidableEq, Repr
def Sta.right (t : Twn) (s : Sta) : Bool := (decide (0 ≤ s.stock) && decide (s.stock ≤ t.holds)) && (decide (0 ≤ s.short) && decide (s.short ≤ t.patience)) && (decide (0 ≤ s.dry) && decide (s.dry ≤ t.run))
def Z1O (t : Twn) (s : Sta) (q : Rn) : Int := s.stock - q.sacks - ((s.stock - q.sacks) * t.rot + 9) / 10
def Twn.next (t : Twn) (s : Sta) (q : Rn) (bad : Bool) : Sta :=
  ⟨min t.holds (Z1O t s q + bif bad then t.bad else t.good), bif decide (q.sacks < t.need) then s.short + 1 else 0, bif bad then s.dry + 1 else 0⟩
def Twn.can (t : Twn) (s : Sta) (q : Rn) : Bool := decide (q.sacks ≤ s.stock) && (!decide (q.sacks < t.need) || decide (s.short < t.patience))
def Z0c (l : List Rn) (i : Nat) : Bool := match l[i]?, l[i + 1]? with
  | some a, some b => decide (a.sacks ≤ b.sacks) || decide (b.price ≤ a.price)
  | _, _ => false
@[reducible] def inb (n lo hi : Int) : Bool := decide (lo ≤ n) && decide (n ≤ hi)
def Twn.check (t : Twn) : Int :=
  bif !(inb t.rats.length 1 4) then 2 else bif !([t.holds, t.need, t.good, t.bad].all fun n => inb n 0 30) then 3
  else bif !(inb t.patience 0 3) then 3 else bif !(inb t.run 0 3) then 3 else bif !(inb t.rot 0 5) then 3 else bif !(t.now.right t) then 3
  else bif !(t.rats.all fun q => inb q.sacks 0 30 && inb q.price 0 100) then 3 else bif decide (t.good < t.bad) then 4 else bif (List.range t.rats.length).any (Z0c t.rats) then 4 else 0
structure Twn.ok (t : Twn) : Prop where
  holds : 0 ≤ t.holds ∧ t.holds ≤ 30
  need : 0 ≤ t.need ∧ t.need ≤ 30
  good : 0 ≤ t.good ∧ t.good ≤ 30
  bad : 0 ≤ t.bad ∧ t.bad ≤ t.good
  patience : 0 ≤ t.patience ∧ t.patience ≤ 3
  run : 0 ≤ t.run ∧ t.run ≤ 3
  rot : 0 ≤ t.rot ∧ t.rot ≤ 5
  rats : ∀ q ∈ t.rats, 0 ≤ q.sacks ∧ q.sacks ≤ 30 ∧ 0 ≤ q.price ∧ q.price ≤ 100
  now : t.now.right t = true
  many : 1 ≤ t.rats.length ∧ t.rats.length ≤ 4
theorem right_iff {t : Twn} {s : Sta} : s.right t = true ↔ (0 ≤ s.stock ∧ s.stock ≤ t.holds) ∧ (0 ≤ s.short ∧ s.short ≤ t.patience) ∧ (0 ≤ s.dry ∧ s.dry ≤ t.run) := by
  simp [Sta.right, and_assoc]
theorem ok_of_check {t : Twn} (h : t.check = 0) : t.ok ∧ ∀ i, Z0c t.rats i = false := by
  unfold Twn.check at h
  cases h1 : inb t.rats.length 1 4 <;> rw [h1] at h
  · cases h
  cases h2 : [t.holds, t.need, t.good, t.bad].all fun n => inb n 0 30 <;> rw [h2] at h
  · cases h
  cases h3 : inb t.patience 0 3 <;> rw [h3] at h
  · cases h
  cases h4 : inb t.run 0 3 <;> rw [h4] at h
  · cases h
  cases h5 : inb t.rot 0 5 <;> rw [h5] at h
  · cases h
  cases h6 : t.now.right t <;> rw [h6] at h
  · cases h
  cases h7 : t.rats.all fun q => inb q.sacks 0 30 && inb q.price 0 100 <;> rw [h7] at h
  · cases h
  cases h8 : decide (t.good < t.bad) <;> rw [h8] at h
  rotate_left
  · cases h
  cases h9 : (List.range t.rats.length).any (Z0c t.rats) <;> rw [h9] at h
  rotate_left
  · cases h
  simp only [inb, Bool.and_eq_true, decide_eq_true_eq, List.all_cons, List.all_nil, decide_eq_false_iff_not] at h1 h2 h3 h4 h5 h8
  refine ⟨⟨h2.1, h2.2.1, h2.2.2.1, ⟨h2.2.2.2.1.1, by omega⟩, h3, h4, h5, fun q hq => ?_, h6, by omega⟩, fun i => ?_⟩
  · have := List.all_eq_true.1 h7 q hq
    simp only [inb, Bool.and_eq_true, decide_eq_true_eq] at this
    omega
  · rcases Nat.lt_or_ge i t.rats.length with hi | hi
    · have := List.any_eq_false.1 h9 i (List.mem_range.2 hi)
      simpa using this
    · simp [Z0c, List.getElem?_eq_none hi]
theorem Z8i {x r : Int} (h0 : 0 ≤ x) (h1 : x ≤ 30) (h2 : 0 ≤ r) (h3 : r ≤ 5) : 0 ≤ x * r ∧ x * r ≤ 150 ∧ x * r ≤ x * 5 := by
  have a := Int.mul_nonneg h0 h2
  have b := Int.mul_le_mul_of_nonneg_left h3 h0
  omega
theorem Z4J {t : Twn} (ht : t.ok) {s : Sta} {q : Rn} (hs : s.right t = true) (hq : q ∈ t.rats) (hc : q.sacks ≤ s.stock) : 0 ≤ Z1O t s q := by
  have h1 := right_iff.1 hs
  have h2 := ht.rats q hq
  have h3 := ht.holds
  have h4 := Z8i (x := s.stock - q.sacks) (r := t.rot) (by omega) (by omega) ht.rot.1 ht.rot.2
  unfold Z1O
  by_cases h0 : s.stock - q.sacks = 0
  · rw [h0]; simp
  · omega
theorem Zm {t : Twn} (ht : t.ok) {s : Sta} {q : Rn} {bad : Bool} (hs : s.right t = true) (hq : q ∈ t.rats) (hc : t.can s q = true) (hb : bad = true → s.dry < t.run) : (t.next s q bad).right t = true := by
  have h1 := right_iff.1 hs
  have h2 := ht.rats q hq
  have h3 := ht.holds
  have h5 := ht.good
  have h6 := ht.bad
  have hc' : q.sacks ≤ s.stock ∧ (t.need ≤ q.sacks ∨ s.short < t.patience) := by
    simpa [Twn.can] using hc
  have h4 := Z4J ht hs hq hc'.1
  rw [right_iff]
  unfold Twn.next
  cases bad
  · simp only [cond_false]
    refine ⟨by omega, ?_, by omega⟩
    by_cases hn : q.sacks < t.need
    · simp only [hn, decide_true, cond_true]; omega
    · simp only [hn, decide_false, cond_false]; omega
  · have := hb rfl
    simp only [cond_true]
    refine ⟨by omega, ?_, by omega⟩
    by_cases hn : q.sacks < t.need
    · simp only [hn, decide_true, cond_true]; omega
    · simp only [hn, decide_false, cond_false]; omega
def Sta.ix (s : Sta) : Nat := s.stock.toNat * 16 + s.short.toNat * 4 + s.dry.toNat
def lat (y : List Int) (s : Sta) : Int := y.getD s.ix 0
theorem Z1w {t : Twn} {s : Sta} (ht : t.ok) (h : s.right t = true) : s.ix < 496 := by
  have h1 := right_iff.1 h
  have h2 := ht.holds
  have h3 := ht.patience
  have h4 := ht.run
  unfold Sta.ix; omega
theorem Z1o {t : Twn} {s u : Sta} (ht : t.ok) (h : s.right t = true) (k : u.right t = true) (e : s.ix = u.ix) : s = u := by
  have h1 := right_iff.1 h
  have k1 := right_iff.1 k
  have h3 := ht.patience
  have h4 := ht.run
  unfold Sta.ix at e
  obtain ⟨a, b, c⟩ := s
  obtain ⟨a', b', c'⟩ := u
  simp only at h1 k1 e
  simp only [Sta.mk.injEq]
  omega
theorem Z8V {y : List Int} {s : Sta} (h : s.ix < y.length) : y[s.ix]? = some (lat y s) := by simp [lat, h]
def Twn.keeps (t : Twn) (y : List Int) (s : Sta) (q : Rn) (bads : Int) : Bool :=
  t.can s q && decide (bads ≤ lat y (t.next s q false)) && (decide (bads = 0) || !decide (s.dry < t.run) || decide ((bif decide (bads = 1000000) then 1000000 else bads - 1) ≤ lat y (t.next s q true)))
def Twn.nst (t : Twn) : Nat := (t.holds.toNat + 1) * (t.patience.toNat + 1) * (t.run.toNat + 1)
def Z3S (t : Twn) (i : Nat) : Sta := ⟨(i / (t.run.toNat + 1) / (t.patience.toNat + 1) : Nat), (i / (t.run.toNat + 1) % (t.patience.toNat + 1) : Nat), (i % (t.run.toNat + 1) : Nat)⟩
def sts (t : Twn) : List Sta := (List.range t.nst).map (Z3S t)
theorem Z0F (t : Twn) : (sts t).length = t.nst := by simp [sts]
theorem Z4A {t : Twn} {i : Nat} (h : i < t.nst) : (sts t)[i]? = some (Z3S t i) := by simp [sts, h]
theorem Z3u {t : Twn} {a b c : Nat} (hb : b ≤ t.patience.toNat) (hc : c ≤ t.run.toNat) : Z3S t ((a * (t.patience.toNat + 1) + b) * (t.run.toNat + 1) + c) = ⟨a, b, c⟩ := by
  have e1 : ((a * (t.patience.toNat + 1) + b) * (t.run.toNat + 1) + c) / (t.run.toNat + 1) = a * (t.patience.toNat + 1) + b := by
    rw [Nat.mul_comm, Nat.mul_add_div (by omega), Nat.div_eq_of_lt (by omega), Nat.add_zero]
  have e2 : ((a * (t.patience.toNat + 1) + b) * (t.run.toNat + 1) + c) % (t.run.toNat + 1) = c := by
    rw [Nat.mul_comm, Nat.mul_add_mod, Nat.mod_eq_of_lt (by omega)]
  have e3 : (a * (t.patience.toNat + 1) + b) / (t.patience.toNat + 1) = a := by
    rw [Nat.mul_comm, Nat.mul_add_div (by omega), Nat.div_eq_of_lt (by omega), Nat.add_zero]
  have e4 : (a * (t.patience.toNat + 1) + b) % (t.patience.toNat + 1) = b := by
    rw [Nat.mul_comm, Nat.mul_add_mod, Nat.mod_eq_of_lt (by omega)]
  unfold Z3S
  rw [e1, e2, e3, e4]
theorem Z7q {t : Twn} {a b c : Nat} (ha : a ≤ t.holds.toNat) (hb : b ≤ t.patience.toNat) (hc : c ≤ t.run.toNat) : (a * (t.patience.toNat + 1) + b) * (t.run.toNat + 1) + c < t.nst := by
  have h1 : a * (t.patience.toNat + 1) + b + 1 ≤ (t.holds.toNat + 1) * (t.patience.toNat + 1) := by
    have := Nat.mul_le_mul_right (t.patience.toNat + 1) ha
    rw [Nat.add_mul]; omega
  have h2 := Nat.mul_le_mul_right (t.run.toNat + 1) h1
  unfold Twn.nst
  rw [Nat.add_mul] at h2
  omega
theorem Ze {t : Twn} (ht : t.ok) {s : Sta} (h : s ∈ sts t) : s.right t = true := by
  obtain ⟨i, hi, rfl⟩ := List.mem_map.1 h
  have hi' := List.mem_range.1 hi
  unfold Twn.nst at hi'
  have h1 := ht.holds
  have h2 := ht.patience
  have h3 := ht.run
  have a1 := Nat.mod_lt i (show 0 < t.run.toNat + 1 by omega)
  have a2 := Nat.mod_lt (i / (t.run.toNat + 1)) (show 0 < t.patience.toNat + 1 by omega)
  have a3 : i / (t.run.toNat + 1) / (t.patience.toNat + 1) < t.holds.toNat + 1 := by
    rw [Nat.div_lt_iff_lt_mul (by omega), Nat.div_lt_iff_lt_mul (by omega)]; exact hi'
  rw [right_iff]
  unfold Z3S
  simp only
  generalize i / (t.run.toNat + 1) / (t.patience.toNat + 1) = x at *
  generalize i / (t.run.toNat + 1) % (t.patience.toNat + 1) = x2 at *
  generalize i % (t.run.toNat + 1) = x3 at *
  omega
theorem ZB {t : Twn} {s : Sta} (h : s.right t = true) : s ∈ sts t := by
  have h1 := right_iff.1 h
  have h2 := Z7q (t := t) (a := s.stock.toNat) (b := s.short.toNat) (c := s.dry.toNat) (by omega) (by omega) (by omega)
  have h3 := Z4A h2
  rw [Z3u (by omega) (by omega)] at h3
  have := List.mem_of_getElem? h3
  obtain ⟨a, b, c⟩ := s
  simp only at h1 this
  rwa [Int.toNat_of_nonneg h1.1.1, Int.toNat_of_nonneg h1.2.1.1, Int.toNat_of_nonneg h1.2.2.1] at this
open Go
theorem Z0f : Z2x Try.prog 24 = some 3 := by kernel_rfl
theorem Z0l : Z2x Try.prog 27 = some 11 := by kernel_rfl
theorem Z0Y : cal Try.prog 31 = true := by kernel_rfl
theorem Z9d : cal Try.prog 69 = true := by kernel_rfl
theorem Z8M : cal Try.prog 72 = true := by kernel_rfl
theorem Z5m : ZK Try.prog 24 = some 3 := by kernel_rfl
theorem cn3 : ZK Try.prog 3 = some 1 := by kernel_rfl
theorem Z8Y : elN Try.prog 25 = some 2 := by kernel_rfl
theorem Z4i : elN Try.prog 73 = some 1 := by kernel_rfl
theorem Z0M : Z00 Try.prog 24 0 = some 0 := by kernel_rfl
theorem Z0u : Z00 Try.prog 24 1 = some 1 := by kernel_rfl
theorem Z10 : Z00 Try.prog 24 2 = some 2 := by kernel_rfl
theorem Z2S : Z00 Try.prog 27 1 = some 3 := by kernel_rfl
theorem Z2L : Z00 Try.prog 27 2 = some 4 := by kernel_rfl
theorem Z45 : Z00 Try.prog 27 3 = some 5 := by kernel_rfl
theorem Z3U : Z00 Try.prog 27 4 = some 6 := by kernel_rfl
theorem Z36 : Z00 Try.prog 27 5 = some 7 := by kernel_rfl
theorem Z2N : Z00 Try.prog 27 6 = some 8 := by kernel_rfl
theorem Z8v : Z00 Try.prog 27 7 = some 9 := by kernel_rfl
theorem Z08 : Z00 Try.prog 27 8 = some 10 := by kernel_rfl
theorem Z1L : Z00 Try.prog 77 0 = some 0 := by kernel_rfl
theorem Z3I : Z61 Try.prog 25 = true := by kernel_rfl
theorem Z1b : Z61 Try.prog 73 = true := by kernel_rfl
theorem Z9W : ZU Try.prog 24 = some [(0, 1), (1, 1), (2, 1)] := by kernel_rfl
theorem Z1Z : Z0Z Try.prog 25 = true := by kernel_rfl
theorem sc3 : Z0Z Try.prog 3 = true := by kernel_rfl
theorem Z2W : slE Try.prog 73 = some (3, 1) := by kernel_rfl
theorem Z4M : Zy Try.prog 24 = some ([.int .i64 0, .int .i64 0, .int .i64 0]) := by kernel_rfl
theorem zl3 : Zy Try.prog 3 = some ([.int .i64 0]) := by kernel_rfl
theorem Z1B (n lo hi : Int) (H : Z7) (R : Z4) :
    FnV Try.prog 31 [.int .i64 n, .int .i64 lo, .int .i64 hi] H R (.bool (decide (lo ≤ n) && decide (n ≤ hi))) := by
 refine Zb Try.func31 rfl Try.ntmps31 rfl ?_
 refine sqt 1 rfl (pur 1 rfl (sqt 9 rfl (pur 4 rfl ?_)))
 refine ZR 10 rfl ?_ ?_ <;> intro g10
 try simp only [cS] at g10
 refine pur 5 rfl (Z1 ?_)
 exact rtA rfl rfl rfl ⟨by simp [Zu, g10]; try omega, rfl, rfl⟩ drp
 try simp only [cS] at g10
 refine pur 5 rfl (Z1 ?_)
 exact rtA rfl rfl rfl ⟨by simp [Zu, g10]; try omega, rfl, rfl⟩ drp
theorem Z3d (n m : Int) (a : Option Addr) (c : Nat) (H : Z7) (R : Z4) [hR : MemRows a 1 [[.int .i64 m]] R] :
    FnV Try.prog 72 [.int .i64 n, .slice a 1 c] H R (.int .i64 (min n m)) := by
 refine Zb Try.func72 rfl Try.ntmps72 rfl ?_
 refine sqt 1 rfl (pur 1 rfl (Z0 (sqt 3 rfl (pur 1 rfl (sp rfl (PE.lenSl Z1b rfl) rfl (pur 1 rfl (Z3 ?_)))))))
 refine ZE (a := a) (sz := 1) (rows := [[.int .i64 m]]) (by simp) (fun b off he => ?_)
 subst he
 refine Zj (ι := {k : Nat // k ≤ 1}) (fun k => ⟨[(0, .int .i64 (bif k.1 == 0 then n else min n m)), (7, .slice (some ⟨b, off, none⟩) 1 c), (8, .int .i64 1), (9, .int .i64 k.1)], H, R⟩) (fun k => 1 - k.1) ⟨0, by omega⟩ ?_ (fun k => ?_)
 exact Zr idH
 obtain ⟨k, hk⟩ := k
 dsimp only
 refine sqt 1 rfl (pur 1 rfl (Z0 ?_))
 refine Z2 rfl ?_ ?_ <;> intro hc0
 simp only [cS] at hc0
 obtain rfl : k = 0 := by omega
 refine Z5 (Z0 (Z3 (sqt 3 rfl (sp rfl (PE.indexAddr Z4i rfl rfl (by omega) (by omega)) rfl (spL rfl rfl (lf0 sc3 (row := [.int .i64 m]) rfl rfl) rfl (pur 1 rfl (sqr 4 rfl (pur 2 rfl (sp rfl (PE.min rfl rfl) rfl (pur 1 rfl (sqr 2 rfl (sp rfl (PE.add rfl rfl (by omega)) rfl (pur 1 rfl ?_)))))))))))))
 exact ZG ⟨1, by omega⟩ (by simp) idH
 try simp only [cS] at hc0
 refine Zg (Zh (Zh (ZJ (sqt 2 rfl (pur 2 rfl (Z1 ?_))))))
 obtain rfl : k = 1 := by omega
 exact rtA rfl rfl rfl ⟨rfl, rfl, rfl⟩ drp
abbrev Sta.v (s : Sta) : Value := .agg #[.int .i64 s.stock, .int .i64 s.short, .int .i64 s.dry]
abbrev twl (t : Twn) (sl : Value) : List Value := [.int .i64 t.now.stock, .int .i64 t.now.short, .int .i64 t.now.dry, .int .i64 t.holds, .int .i64 t.need, .int .i64 t.patience, .int .i64 t.run, .int .i64 t.good, .int .i64 t.bad, .int .i64 t.rot, sl]
abbrev Twn.v (t : Twn) (sl : Value) : Value := .agg (twl t sl).toArray
def Z1A (q : Rn) : List Value := [.int .i64 q.sacks, .int .i64 q.price]
def rrows (l : List Rn) : List (List Value) := l.map Z1A
abbrev Twn.sl (t : Twn) (a : Option Addr) (c : Nat) : Value := .slice a t.rats.length c
theorem Z0b {l : List Rn} {k : Nat} {q : Rn} (h : l[k]? = some q) : (rrows l)[k]? = some (Z1A q) := by simp [rrows, h]
theorem Z6J (t : Twn) (s : Sta) (sl : Value) (H : Z7) (R : Z4) :
    FnV Try.prog 34 [t.v sl, s.v] H R (.bool (s.right t)) := by
 refine Zb Try.func34 rfl Try.ntmps34 rfl ?_
 refine sqt 3 rfl (bx rfl rfl rfl (fun b2 => bx rfl rfl rfl (fun b3 => pur 1 rfl (sqt 20 rfl (sp rfl (PE.fA Z0M rfl) rfl (spL rfl rfl (lh sc3 rfl rfl) rfl (sp rfl (PE.fA Z2S rfl) rfl (spL rfl rfl (lh sc3 rfl rfl) rfl ?_))))))))
 refine clV rfl Z0Y rfl rfl (Z1B _ _ _ _ _) ?_
 refine pur 1 rfl ?_
 refine ZR 10 rfl ?_ ?_ <;> intro g10
 refine spG rfl rfl rfl rfl (PE.fA Z0u rfl) rfl ?_
 refine Z3F rfl rfl rfl rfl rfl (lh sc3 rfl rfl) rfl ?_
 refine spG rfl rfl rfl rfl (PE.fA Z45 rfl) rfl ?_
 refine Z3F rfl rfl rfl rfl rfl (lh sc3 rfl rfl) rfl ?_
 refine Z1M rfl rfl rfl rfl Z0Y rfl rfl (Z1B _ _ _ _ _) ?_
 refine pur 2 rfl ?_
 refine ZR 17 rfl ?_ ?_ <;> intro g17
 refine spG rfl rfl rfl rfl (PE.fA Z10 rfl) rfl ?_
 refine Z3F rfl rfl rfl rfl rfl (lh sc3 rfl rfl) rfl ?_
 refine spG rfl rfl rfl rfl (PE.fA Z3U rfl) rfl ?_
 refine Z3F rfl rfl rfl rfl rfl (lh sc3 rfl rfl) rfl ?_
 refine Z1M rfl rfl rfl rfl Z0Y rfl rfl (Z1B _ _ _ _ _) ?_
 refine pur 2 rfl (Z1 ?_)
 exact rtA rfl rfl rfl ⟨by simp_all only [Zu, Sta.right, Bool.true_and, Bool.false_and, cond_true, cond_false], rfl, rfl⟩ drp
 refine pur 7 rfl (Z1 ?_)
 exact rtA rfl rfl rfl ⟨by simp_all only [Zu, Sta.right, Bool.true_and, Bool.false_and, cond_true, cond_false], rfl, rfl⟩ drp
 refine pur 14 rfl (Z1 ?_)
 exact rtA rfl rfl rfl ⟨by simp_all only [Zu, Sta.right, Bool.true_and, Bool.false_and, cond_true, cond_false], rfl, rfl⟩ drp
theorem Z7C (t : Twn) (r : Int) (a : Option Addr) (c : Nat) (hl : t.rats.length ≤ 9223372036854775807) (H : Z7) (R : Z4) :
    FnV Try.prog 41 [t.v (t.sl a c), .int .i64 r] H R (.bool (decide (0 ≤ r) && decide (r ≤ (t.rats.length : Int) - 1))) := by
 refine Zb Try.func41 rfl Try.ntmps41 rfl ?_
 refine sqt 2 rfl (bx rfl rfl rfl (fun b2 => pur 1 rfl (sqt 7 rfl (pur 1 rfl (sp rfl (PE.fA Z08 rfl) rfl (spL rfl rfl (lh Z1Z rfl rfl) rfl (sp rfl (PE.lenSl Z3I rfl) rfl (sp rfl (PE.sub rfl rfl (by omega)) rfl ?_))))))))
 refine clV rfl Z0Y rfl rfl (Z1B _ _ _ _ _) ?_
 refine pur 1 rfl (Z1 ?_)
 exact rtA rfl rfl rfl ⟨rfl, rfl, rfl⟩ drp
theorem ZbC {l : List Rn} {r : Int} {q : Rn} (h0 : 0 ≤ r) (h : l[r.toNat]? = some q) : r < l.length := by
  have := (List.getElem?_eq_some_iff.1 h).1; omega
theorem Z4s (t : Twn) (r : Int) (q : Rn) (b off c : Nat) (h0 : 0 ≤ r) (hq : t.rats[r.toNat]? = some q) (H : Z7) (R : Z4) [hR : MemRows (some ⟨b, off, none⟩) 2 (rrows t.rats) R] :
    FnV Try.prog 69 [t.v (t.sl (some ⟨b, off, none⟩) c), .int .i64 r] H R (.bool (decide (q.sacks < t.need))) := by
 have hr := ZbC h0 hq
 refine Zb Try.func69 rfl Try.ntmps69 rfl ?_
 refine sqt 2 rfl (bx rfl rfl rfl (fun b2 => pur 1 rfl (Z0 ?_)))
 refine Z8 [0, 1, 0, 7, 15, 31, 0, 64, 255, 511] (.tk 0 (.ld 1 (tks 2 3 (.ld 5 (.tk 6 (.ld 7 (.tk 8 (.tk 9 .done)))))))) Zk (by kernel_rfl) ?_
 refine tk rfl (PE.fA Z08 rfl) rfl (ld rfl rfl (lh Z1Z rfl rfl) rfl (Za 1 rfl (tk rfl (PE.indexAddr Z8Y rfl rfl (by omega) (by omega)) rfl (tk rfl (PE.fA Z1L rfl) rfl (ld rfl rfl (lf sc3 (Z0b hq) rfl) rfl (tk rfl (PE.fA Z2L rfl) rfl (ld rfl rfl (lh sc3 rfl rfl) rfl (Za 2 rfl (Z1 ?_)))))))))
 exact rtA rfl rfl rfl ⟨rfl, rfl, rfl⟩ drp
theorem Z2m (t : Twn) (s : Sta) (r : Int) (q : Rn) (b off c : Nat) (h0 : 0 ≤ r) (hq : t.rats[r.toNat]? = some q) (H : Z7) (R : Z4) [hR : MemRows (some ⟨b, off, none⟩) 2 (rrows t.rats) R] :
    FnV Try.prog 42 [t.v (t.sl (some ⟨b, off, none⟩) c), s.v, .int .i64 r] H R (.bool (t.can s q)) := by
 have hr := ZbC h0 hq
 refine Zb Try.func42 rfl Try.ntmps42 rfl ?_
 refine sqt 3 rfl (bx rfl rfl rfl (fun b3 => bx rfl rfl rfl (fun b4 => pur 1 rfl (Z0 ?_))))
 refine Z8 [0, 1, 0, 7, 15, 31, 0, 64, 255, 511, 1023, 1023, 4095, 8191, 16383, 32767, 65535, 32767, 163839, 524287, 1048575, 2097151, 4194303] (.tk 0 (.ld 1 (tks 2 3 (.ld 5 (.tk 6 (.ld 7 (.tk 8 (.tk 9 (.ld 10 (.tk 11 (.big 12 (tks 13 3 (.ld 16 (.tk 17 (.ld 18 (tks 19 4 .done)))))))))))))))) Zk (by kernel_rfl) ?_
 refine tk rfl (PE.fA Z08 rfl) rfl (ld rfl rfl (lh Z1Z rfl rfl) rfl (Za 1 rfl (tk rfl (PE.indexAddr Z8Y rfl rfl (by omega) (by omega)) rfl (tk rfl (PE.fA Z1L rfl) rfl (ld rfl rfl (lf sc3 (Z0b hq) rfl) rfl (tk rfl (PE.fA Z0M rfl) rfl (ld rfl rfl (lh sc3 rfl rfl) rfl (Za 2 rfl ?_))))))))
 refine ZR 16 rfl ?_ ?_ <;> intro g16
 try simp only [cS] at g16
 refine ldG rfl rfl rfl rfl rfl (lhA [_, _, _, _, _, _, _, _, _, _, _] Z0l rfl rfl rfl) rfl (Za 1 rfl ?_)
 refine Z1M rfl rfl rfl rfl Z9d rfl rfl (Z4s t r q b off c h0 hq _ _) ?_
 refine bgT (Za 2 rfl ?_)
 refine ZR 21 rfl ?_ ?_ <;> intro g21
 try simp only [cS] at g21
 refine Za 1 rfl ?_
 refine ldN rfl rfl rfl rfl rfl rfl rfl rfl ?_
 refine Za 1 rfl ?_
 refine ldN rfl rfl rfl rfl rfl rfl rfl rfl ?_
 refine Za 4 rfl (Z1 ?_)
 exact rtA rfl rfl rfl ⟨by simp_all [Zu, Twn.can] <;> omega, rfl, rfl⟩ drp
 try simp only [cS] at g21
 refine tkG rfl rfl rfl rfl (PE.fA Z0u rfl) rfl ?_
 refine ldG rfl rfl rfl rfl rfl (lh sc3 rfl rfl) rfl ?_
 refine tkG rfl rfl rfl rfl (PE.fA Z45 rfl) rfl ?_
 refine ldG rfl rfl rfl rfl rfl (lh sc3 rfl rfl) rfl (Za 4 rfl (Z1 ?_))
 exact rtA rfl rfl rfl ⟨by simp_all [Zu, Twn.can] <;> omega, rfl, rfl⟩ drp
 try simp only [cS] at g16
 refine ldN rfl rfl rfl rfl rfl rfl rfl rfl ?_
 refine Za 1 rfl ?_
 refine spN rfl rfl rfl rfl rfl rfl rfl rfl ?_
 refine bgT (Za 2 rfl ?_)
 refine tkU rfl rfl rfl rfl rfl rfl rfl ?_
 refine ldU rfl rfl rfl rfl rfl rfl rfl ?_
 refine tkU rfl rfl rfl rfl rfl rfl rfl ?_
 refine ldU rfl rfl rfl rfl rfl rfl rfl ?_
 refine tkU rfl rfl rfl rfl rfl rfl rfl ?_
 refine Za 3 rfl (Z1 ?_)
 exact rtA rfl rfl rfl ⟨by simp_all [Zu, Twn.can] <;> omega, rfl, rfl⟩ drp
theorem Z3R (t : Twn) (ht : t.ok) (s : Sta) (hs : s.right t = true) (r : Int) (q : Rn) (bad : Bool) (b off c : Nat) (h0 : 0 ≤ r) (hq : t.rats[r.toNat]? = some q) (hc : q.sacks ≤ s.stock) (H : Z7) (R : Z4) [hR : MemRows (some ⟨b, off, none⟩) 2 (rrows t.rats) R] :
    FnV Try.prog 47 [t.v (t.sl (some ⟨b, off, none⟩) c), s.v, .int .i64 r, .bool bad] H R (t.next s q bad).v := by
 have hr := ZbC h0 hq
 have hq1 := ht.rats q (List.mem_of_getElem? hq)
 have hs1 := right_iff.1 hs
 have h1 := ht.holds
 have h2 := ht.good
 have h3 := ht.bad
 have h4 := ht.run
 have h5 := ht.patience
 have h6 := Z8i (x := s.stock - q.sacks) (r := t.rot) (by omega) (by omega) ht.rot.1 ht.rot.2
 refine Zb Try.func47 rfl Try.ntmps47 rfl ?_
 refine sqt 3 rfl (bx rfl rfl rfl (fun b4 => bx rfl rfl rfl (fun b5 => alc rfl Z4M rfl (fun b8 => Z0 ?_))))
 refine Z8 [0, 1, 0, 4, 0, 28, 60, 124, 255, 511] (.tk 0 (.ld 1 (.tk 2 (.ld 3 (tks 4 3 (.ld 7 (.tk 8 (.tk 9 .done)))))))) Zk (by kernel_rfl) ?_
 refine tk rfl (PE.fA Z0M rfl) rfl (ld rfl rfl (lh sc3 rfl rfl) rfl (tk rfl (PE.fA Z08 rfl) rfl (ld rfl rfl (lh Z1Z rfl rfl) rfl (Za 1 rfl (tk rfl (PE.indexAddr Z8Y rfl rfl (by omega) (by omega)) rfl (tk rfl (PE.fA Z1L rfl) rfl (ld rfl rfl (lf sc3 (Z0b hq) rfl) rfl (tk rfl (PE.sub rfl rfl (by omega)) rfl (Za 1 rfl (sqt 9 rfl (pur 2 rfl (sp rfl (PE.fA Z8v rfl) rfl (spL rfl rfl (lh sc3 rfl rfl) rfl (sp rfl (PE.mul rfl rfl (by omega)) rfl (sp rfl (PE.add rfl rfl (by omega)) rfl ?_)))))))))))))))
 refine sp rfl (PE.quo rfl rfl (by omega)) rfl (sp rfl (PE.sub rfl rfl (by omega)) rfl (pur 1 rfl (sqt 11 rfl (sp rfl (PE.fA Z2S rfl) rfl (spL rfl rfl (lh sc3 rfl rfl) rfl (pur 1 rfl (sp rfl (PE.fA Z36 rfl) rfl (spL rfl rfl (lh sc3 rfl rfl) rfl (sp rfl (PE.add rfl rfl (by omega)) rfl ?_)))))))))
 refine bsl (out := [_]) rfl Z2W zl3 rfl rfl rfl rfl rfl rfl (fun b34 => ?_)
 refine Sy.heap (fun w h => St.rows (sz := 1) (rows := [[.int .i64 _]]) (rest := []) h (by simp)) ?_
 refine clV rfl Z8M rfl rfl (Z3d _ _ _ _ _ _) ?_
 refine sp rfl (PE.build (out := [_, _, _]) Z9W Z4M rfl rfl) rfl (alc rfl Z4M rfl (fun b10 => ?_))
 refine sto rfl rfl rfl Z5m rfl rfl rfl rfl ?_
 refine Z0 (sqt 1 rfl (pur 1 rfl ?_))
 refine Z2 rfl ?_ ?_ <;> intro hc0
 subst hc0
 refine Z8 [0, 1, 0, 0, 8, 28, 60, 127, 0, 256, 768, 2047, 4095] (.tk 0 (.ld 1 (.tk 2 (.tk 3 (.ld 4 (.tk 5 (.tk 8 (.ld 9 (.tk 10 (.big 6 (.big 7 (.tk 11 (.big 12 .done))))))))))))) Zk (by kernel_rfl) ?_
 refine tk rfl (PE.fA Z2S rfl) rfl (ld rfl rfl (lh sc3 rfl rfl) rfl (Za 1 rfl (tk rfl (PE.fA Z2N rfl) rfl (ld rfl rfl (lh sc3 rfl rfl) rfl (tk rfl (PE.add rfl rfl (by omega)) rfl (tk rfl (PE.fA Z10 rfl) rfl (ld rfl rfl (lh sc3 rfl rfl) rfl (tk rfl (PE.add rfl rfl (by omega)) rfl ?_))))))))
 refine bsl (out := [_]) rfl Z2W zl3 rfl rfl rfl rfl rfl rfl (fun b44 => ?_)
 refine bg (fun w hs => ⟨(lh sc3 rfl rfl) w hs, trivial, (lh sc3 rfl rfl) w hs, trivial⟩) ?_
 refine Sy.heap (fun w h => St.rows (sz := 1) (rows := [[.int .i64 _]]) (rest := []) h (by simp)) ?_
 refine clV rfl Z8M rfl rfl (Z3d _ _ _ _ _ _) ?_
 refine bg (fun w hs => ⟨(lh sc3 rfl rfl) w hs, trivial, trivial⟩) ?_
 refine tk rfl (PE.build (out := [_, _, _]) Z9W Z4M rfl rfl) rfl ?_
 refine sto rfl rfl rfl Z5m rfl rfl rfl rfl ?_
 refine bgT (Z0 (sqt 3 rfl (spL rfl rfl (lhA [_, _, _, _, _, _, _, _, _, _, _] Z0l rfl rfl rfl) rfl (pur 1 rfl ?_))))
 refine clV rfl Z9d rfl rfl (Z4s t r q b off c h0 hq _ _) ?_
 refine Z2 rfl ?_ ?_ <;> intro hc1
 refine sqr 5 rfl (sp rfl (PE.fA Z0u rfl) rfl (spL rfl rfl (lh sc3 rfl rfl) rfl (sp rfl (PE.add rfl rfl (by omega)) rfl (sp rfl (PE.fA Z0u rfl) rfl ?_))))
 refine sto rfl rfl rfl cn3 rfl rfl rfl rfl ?_
 refine sqt 2 rfl (spL rfl rfl (lhA [_, _, _] Z0f rfl rfl rfl) rfl ?_)
 refine sto rfl rfl rfl Z5m rfl rfl rfl rfl ?_
 refine Z1 ?_
 exact Z6 (vs := [_]) rfl (.cons (RV.cell rfl (lhA [_, _, _] Z0f rfl rfl rfl)) .nil) rfl ⟨by simp only [Zu, Twn.next, Z1O, hc1, cond_true, cond_false], rfl, rfl⟩ drp
 refine Z5 (sqt 2 rfl (spL rfl rfl (lhA [_, _, _] Z0f rfl rfl rfl) rfl ?_))
 refine sto rfl rfl rfl Z5m rfl rfl rfl rfl ?_
 refine Z1 ?_
 exact Z6 (vs := [_]) rfl (.cons (RV.cell rfl (lhA [_, _, _] Z0f rfl rfl rfl)) .nil) rfl ⟨by simp only [Zu, Twn.next, Z1O, hc1, cond_true, cond_false], rfl, rfl⟩ drp
 subst hc0
 refine Z5 (Z0 (sqt 3 rfl (spL rfl rfl (lhA [_, _, _, _, _, _, _, _, _, _, _] Z0l rfl rfl rfl) rfl (pur 1 rfl ?_))))
 refine clV rfl Z9d rfl rfl (Z4s t r q b off c h0 hq _ _) ?_
 refine Z2 rfl ?_ ?_ <;> intro hc1
 refine sqr 5 rfl (sp rfl (PE.fA Z0u rfl) rfl (spL rfl rfl (lh sc3 rfl rfl) rfl (sp rfl (PE.add rfl rfl (by omega)) rfl (sp rfl (PE.fA Z0u rfl) rfl ?_))))
 refine sto rfl rfl rfl cn3 rfl rfl rfl rfl ?_
 refine sqt 2 rfl (spL rfl rfl (lhA [_, _, _] Z0f rfl rfl rfl) rfl ?_)
 refine sto rfl rfl rfl Z5m rfl rfl rfl rfl ?_
 refine Z1 ?_
 exact Z6 (vs := [_]) rfl (.cons (RV.cell rfl (lhA [_, _, _] Z0f rfl rfl rfl)) .nil) rfl ⟨by simp only [Zu, Twn.next, Z1O, hc1, cond_true, cond_false], rfl, rfl⟩ drp
 refine Z5 (sqt 2 rfl (spL rfl rfl (lhA [_, _, _] Z0f rfl rfl rfl) rfl ?_))
 refine sto rfl rfl rfl Z5m rfl rfl rfl rfl ?_
 refine Z1 ?_
 exact Z6 (vs := [_]) rfl (.cons (RV.cell rfl (lhA [_, _, _] Z0f rfl rfl rfl)) .nil) rfl ⟨by simp only [Zu, Twn.next, Z1O, hc1, cond_true, cond_false], rfl, rfl⟩ drp
theorem Z4x : Z2x Try.prog 77 = some 2 := by kernel_rfl
theorem ZaG : cal Try.prog 32 = true := by kernel_rfl
theorem ZbK : cal Try.prog 33 = true := by kernel_rfl
theorem Za5 : cal Try.prog 34 = true := by kernel_rfl
theorem ZbV : cal Try.prog 35 = true := by kernel_rfl
theorem Zbw : cal Try.prog 36 = true := by kernel_rfl
theorem Z8P : cal Try.prog 64 = true := by kernel_rfl
theorem Zcs : cal Try.prog 65 = true := by kernel_rfl
theorem Zcu : cal Try.prog 66 = true := by kernel_rfl
theorem Zca : cal Try.prog 67 = true := by kernel_rfl
theorem Z9K : cal Try.prog 82 = true := by kernel_rfl
theorem ZcA : cal Try.prog 83 = true := by kernel_rfl
theorem Zax : ZK Try.prog 77 = some 2 := by kernel_rfl
theorem Z0O : Z00 Try.prog 27 0 = some 0 := by kernel_rfl
theorem Z42 : Z00 Try.prog 77 1 = some 1 := by kernel_rfl
theorem Zc9 : Z0Z Try.prog 102 = true := by kernel_rfl
theorem Zbb : Z0Z Try.prog 52 = true := by kernel_rfl
theorem Z6n : Zy Try.prog 77 = some ([.int .i64 0, .int .i64 0]) := by kernel_rfl
abbrev Zv (l : List Int) : List (List Value) := l.map fun z => [.int .i64 z]
theorem ZZ {α : Type} {xs : List α} {p : α → Bool} {k : Nat} {x : α} (hx : xs[k]? = some x) (hn : ∀ y ∈ xs.take k, p y = false) (h : p x = true) : xs.findIdx? p = some k := by
  induction xs generalizing k with
  | nil => simp at hx
  | cons y ys ih =>
    cases k with
    | zero => simp only [List.getElem?_cons_zero, Option.some.injEq] at hx; subst hx; simp [List.findIdx?_cons, h]
    | succ k =>
      have hy := hn y (by simp)
      have := ih (by simpa using hx) (fun z hz => hn z (by simp [hz]))
      simp [List.findIdx?_cons, hy, this]
theorem ZL {α : Type} {xs : List α} {p : α → Bool} (hn : ∀ y ∈ xs, p y = false) : xs.findIdx? p = none := by
  rw [List.findIdx?_eq_none_iff]; exact hn
theorem Z0r {α : Type} {xs : List α} {p : α → Bool} {k : Nat} {x : α} (hx : xs[k]? = some x) (hn : ∀ y ∈ xs.take k, p y = false) (h : p x = false) : ∀ y ∈ xs.take (k + 1), p y = false := by
  intro y hy
  rw [List.take_add_one, hx] at hy
  rcases List.mem_append.1 hy with h1 | h1
  · exact hn y h1
  · simp only [Option.toList_some, List.mem_singleton] at h1; subst h1; exact h
theorem Z1C {α : Type} (xs : List α) (p : α → Bool) : Value.bool (decide (0 ≤ (match xs.findIdx? p with | some k => (k : Int) | none => -1))) = .bool (xs.any p) := by
  congr 1
  cases h : xs.findIdx? p with
  | none =>
    have := List.findIdx?_eq_none_iff.1 h
    have h2 : xs.any p = false := by simpa using this
    rw [h2]; rfl
  | some k =>
    have h2 : xs.any p = true := by
      rw [← Bool.not_eq_false]; intro h3
      have : xs.findIdx? p = none := List.findIdx?_eq_none_iff.2 (by simpa using h3)
      rw [this] at h; cases h
    rw [h2]; simp
theorem Z04 {α : Type} (xs : List α) (p : α → Bool) : Value.bool (!xs.any fun x => !p x) = .bool (xs.all p) := by
  congr 1
  induction xs with
  | nil => rfl
  | cons x xs ih => simp [← ih]
theorem Z2u (xs : List Int) (a : Option Addr) (c g : Nat) (fst cap : List Value) (p : Int → Bool) (hg : cal Try.prog g = true) (hl : xs.length ≤ 9223372036854775807) (H : Z7) (R : Z4) [hR : MemRows a 1 (Zv xs) R] (hp : ∀ x, x ∈ xs → FnV Try.prog g (fst ++ [.int .i64 x] ++ cap) H R (.bool (p x))) :
    FnV Try.prog 82 [.slice a xs.length c, .func (.func g) fst.toArray cap.toArray] H R (.int .i64 (match xs.findIdx? p with | some k => (k : Int) | none => -1)) := by
 refine Zb Try.func82 rfl Try.ntmps82 rfl ?_
 refine sqt 1 rfl (pur 1 rfl (Z0 (sqt 3 rfl (pur 1 rfl (sp rfl (PE.lenSl Z1b rfl) rfl (pur 1 rfl (Z3 ?_)))))))
 refine Zj (ι := {k : Nat // k ≤ xs.length ∧ ∀ x ∈ xs.take k, p x = false}) (fun k => ⟨[(0, .slice a xs.length c), (1, .func (.func g) fst.toArray cap.toArray), (7, .int .i64 xs.length), (8, .int .i64 k.1)], H, R⟩) (fun k => xs.length - k.1) ⟨0, by simp⟩ ?_ (fun k => ?_)
 exact Zr idH
 obtain ⟨k, hk, hn⟩ := k
 dsimp only
 refine sqt 1 rfl (pur 1 rfl (Z0 ?_))
 refine Z2 rfl ?_ ?_ <;> intro hc0
 simp only [cS] at hc0
 obtain ⟨x, hx⟩ : ∃ x, xs[k]? = some x := ⟨_, List.getElem?_eq_getElem (by omega)⟩
 have hxm := List.mem_of_getElem? hx
 refine ZE (a := a) (sz := 1) (rows := Zv xs) (by cases xs <;> simp_all [Zv]) (fun b off he => ?_)
 subst he
 refine Z5 (Z0 (Z3 (sqt 2 rfl (pur 2 rfl (sqt 6 rfl (pur 3 rfl (sp rfl (PE.indexAddr Z4i rfl rfl (by omega) (by omega)) rfl (spL rfl rfl (lf0 sc3 (by simp [Zv, hx]; rfl) rfl) rfl ?_))))))))
 refine Z5C rfl rfl (hg) rfl rfl (hp x hxm) ?_
 refine Z2 rfl ?_ ?_ <;> intro hc1
 refine sqt 2 rfl (pur 2 rfl (Z1 ?_))
 first | (exact rtA rfl rfl rfl ⟨by rw [ZZ hx hn hc1]; rfl, rfl, rfl⟩ idH) | (exact rtA rfl rfl rfl ⟨by rw [ZL (by simpa using hn)]; rfl, rfl, rfl⟩ idH)
 refine Z5 (sqr 2 rfl (sp rfl (PE.add rfl rfl (by omega)) rfl (pur 1 rfl ?_)))
 exact ZC ⟨k + 1, by omega, Z0r hx hn hc1⟩ idH
 simp only [cS] at hc0
 obtain rfl : k = xs.length := by omega
 refine Zg (Zh (Zh (ZJ (sqt 1 rfl (pur 1 rfl (Z1 ?_))))))
 first | (exact rtA rfl rfl rfl ⟨by rw [ZZ hx hn hc1]; rfl, rfl, rfl⟩ idH) | (exact rtA rfl rfl rfl ⟨by rw [ZL (by simpa using hn)]; rfl, rfl, rfl⟩ idH)
theorem Z2s (xs : List Int) (a : Option Addr) (c g : Nat) (fst cap : List Value) (p : Int → Bool) (hg : cal Try.prog g = true) (hl : xs.length ≤ 9223372036854775807) (H : Z7) (R : Z4) [hR : MemRows a 1 (Zv xs) R] (hp : ∀ x, x ∈ xs → FnV Try.prog g (fst ++ [.int .i64 x] ++ cap) H R (.bool (p x))) :
    FnV Try.prog 64 [.slice a xs.length c, .func (.func g) fst.toArray cap.toArray] H R (.bool (xs.any p)) := by
 refine Zb Try.func64 rfl Try.ntmps64 rfl ?_
 refine sqt 1 rfl (pur 1 rfl (sqt 5 rfl (pur 2 rfl ?_)))
 refine clV rfl Z9K rfl rfl (Z2u xs a c g fst cap p hg hl _ _ hp) ?_
 refine pur 2 rfl (Z1 ?_)
 exact rtA rfl rfl rfl ⟨by simp only [Zu]; exact Z1C _ _, rfl, rfl⟩ drp
theorem Z2y (x : Int) (g bf : Nat) (fst cap : List Value) (p : Bool) (hg : cal Try.prog g = true) (H : Z7) (R : Z4) [hM : Mem1 bf (cel 52 [.func (.func g) fst.toArray cap.toArray]) H] (hp : FnV Try.prog g (fst ++ [.int .i64 x] ++ cap) H R (.bool p)) :
    FnV Try.prog 65 [.int .i64 x, .pointer (some ⟨bf, 0, none⟩)] H R (.bool !p) := by
 refine Zb Try.func65 rfl Try.ntmps65 rfl ?_
 refine sqt 1 rfl (pur 1 rfl (sqt 5 rfl (spL rfl rfl (lh Zbb rfl rfl) rfl (pur 1 rfl ?_))))
 refine Z5C rfl rfl (hg) rfl rfl (hp) ?_
 refine pur 2 rfl (Z1 ?_)
 exact rtA rfl rfl rfl ⟨rfl, rfl, rfl⟩ drp
theorem Z0e (xs : List Int) (a : Option Addr) (c g : Nat) (fst cap : List Value) (p : Int → Bool) (hg : cal Try.prog g = true) (hl : xs.length ≤ 9223372036854775807) (H : Z7) (R : Z4) [hR : MemRows a 1 (Zv xs) R] (hp : ∀ b x, x ∈ xs → FnV Try.prog g (fst ++ [.int .i64 x] ++ cap) ((b, cel 52 [.func (.func g) fst.toArray cap.toArray]) :: H) R (.bool (p x))) :
    FnV Try.prog 32 [.slice a xs.length c, .func (.func g) fst.toArray cap.toArray] H R (.bool (xs.all p)) := by
 refine Zb Try.func32 rfl Try.ntmps32 rfl ?_
 refine sqt 2 rfl (bx rfl rfl rfl (fun b3 => pur 1 rfl (sqt 5 rfl (pur 1 rfl (sp rfl (PE.makeFunc rfl rfl) rfl ?_)))))
 refine clV rfl Z8P rfl rfl (Z2s xs a c 65 [] [_] (fun x => !p x) Zcs hl _ _ (hp := fun x hx => Z2y x g _ fst cap (p x) hg _ _ (hp := hp _ x hx))) ?_
 refine pur 2 rfl (Z1 ?_)
 exact rtA rfl rfl rfl ⟨by simp only [Zu]; rw [Z04], rfl, rfl⟩ drp
theorem Z6L (xs : List Rn) (a : Option Addr) (c g : Nat) (fst cap : List Value) (p : Rn → Bool) (hg : cal Try.prog g = true) (hl : xs.length ≤ 9223372036854775807) (H : Z7) (R : Z4) [hR : MemRows a 2 (rrows xs) R] (hp : ∀ x, x ∈ xs → FnV Try.prog g (fst ++ [.agg (Z1A x).toArray] ++ cap) H R (.bool (p x))) :
    FnV Try.prog 83 [.slice a xs.length c, .func (.func g) fst.toArray cap.toArray] H R (.int .i64 (match xs.findIdx? p with | some k => (k : Int) | none => -1)) := by
 refine Zb Try.func83 rfl Try.ntmps83 rfl ?_
 refine sqt 1 rfl (pur 1 rfl (Z0 (sqt 3 rfl (pur 1 rfl (sp rfl (PE.lenSl Z3I rfl) rfl (pur 1 rfl (Z3 ?_)))))))
 refine Zj (ι := {k : Nat // k ≤ xs.length ∧ ∀ x ∈ xs.take k, p x = false}) (fun k => ⟨[(0, .slice a xs.length c), (1, .func (.func g) fst.toArray cap.toArray), (7, .int .i64 xs.length), (8, .int .i64 k.1)], H, R⟩) (fun k => xs.length - k.1) ⟨0, by simp⟩ ?_ (fun k => ?_)
 exact Zr idH
 obtain ⟨k, hk, hn⟩ := k
 dsimp only
 refine sqt 1 rfl (pur 1 rfl (Z0 ?_))
 refine Z2 rfl ?_ ?_ <;> intro hc0
 simp only [cS] at hc0
 obtain ⟨x, hx⟩ : ∃ x, xs[k]? = some x := ⟨_, List.getElem?_eq_getElem (by omega)⟩
 have hxm := List.mem_of_getElem? hx
 refine ZE (a := a) (sz := 2) (rows := rrows xs) (by cases xs <;> simp_all [rrows]) (fun b off he => ?_)
 subst he
 refine Z5 (Z0 (Z3 (sqt 2 rfl (pur 2 rfl (sqt 6 rfl (pur 3 rfl (sp rfl (PE.indexAddr Z8Y rfl rfl (by omega) (by omega)) rfl (spL rfl rfl (lfA Z4x (row := Z1A x) (by simp [rrows, hx]) rfl) rfl ?_))))))))
 refine Z5C rfl rfl (hg) rfl rfl (hp x hxm) ?_
 refine Z2 rfl ?_ ?_ <;> intro hc1
 refine sqt 2 rfl (pur 2 rfl (Z1 ?_))
 first | (exact rtA rfl rfl rfl ⟨by rw [ZZ hx hn hc1]; rfl, rfl, rfl⟩ idH) | (exact rtA rfl rfl rfl ⟨by rw [ZL (by simpa using hn)]; rfl, rfl, rfl⟩ idH)
 refine Z5 (sqr 2 rfl (sp rfl (PE.add rfl rfl (by omega)) rfl (pur 1 rfl ?_)))
 exact ZC ⟨k + 1, by omega, Z0r hx hn hc1⟩ idH
 simp only [cS] at hc0
 obtain rfl : k = xs.length := by omega
 refine Zg (Zh (Zh (ZJ (sqt 1 rfl (pur 1 rfl (Z1 ?_))))))
 first | (exact rtA rfl rfl rfl ⟨by rw [ZZ hx hn hc1]; rfl, rfl, rfl⟩ idH) | (exact rtA rfl rfl rfl ⟨by rw [ZL (by simpa using hn)]; rfl, rfl, rfl⟩ idH)
theorem Z6X (xs : List Rn) (a : Option Addr) (c g : Nat) (fst cap : List Value) (p : Rn → Bool) (hg : cal Try.prog g = true) (hl : xs.length ≤ 9223372036854775807) (H : Z7) (R : Z4) [hR : MemRows a 2 (rrows xs) R] (hp : ∀ x, x ∈ xs → FnV Try.prog g (fst ++ [.agg (Z1A x).toArray] ++ cap) H R (.bool (p x))) :
    FnV Try.prog 66 [.slice a xs.length c, .func (.func g) fst.toArray cap.toArray] H R (.bool (xs.any p)) := by
 refine Zb Try.func66 rfl Try.ntmps66 rfl ?_
 refine sqt 1 rfl (pur 1 rfl (sqt 5 rfl (pur 2 rfl ?_)))
 refine clV rfl ZcA rfl rfl (Z6L xs a c g fst cap p hg hl _ _ hp) ?_
 refine pur 2 rfl (Z1 ?_)
 exact rtA rfl rfl rfl ⟨by simp only [Zu]; exact Z1C _ _, rfl, rfl⟩ drp
theorem Z6I (x : Rn) (g bf : Nat) (fst cap : List Value) (p : Bool) (hg : cal Try.prog g = true) (H : Z7) (R : Z4) [hM : Mem1 bf (cel 102 [.func (.func g) fst.toArray cap.toArray]) H] (hp : ∀ b, FnV Try.prog g (fst ++ [.agg (Z1A x).toArray] ++ cap) ((b, cel 77 (Z1A x)) :: H) R (.bool p)) :
    FnV Try.prog 67 [.agg (Z1A x).toArray, .pointer (some ⟨bf, 0, none⟩)] H R (.bool !p) := by
 refine Zb Try.func67 rfl Try.ntmps67 rfl ?_
 refine sqt 2 rfl (bx rfl rfl rfl (fun b2 => pur 1 rfl (sqt 5 rfl (spL rfl rfl (lh Zc9 rfl rfl) rfl (spL rfl rfl (lhA [_, _] Z4x rfl rfl rfl) rfl ?_)))))
 refine Z5C rfl rfl (hg) rfl rfl (hp _) ?_
 refine pur 2 rfl (Z1 ?_)
 exact rtA rfl rfl rfl ⟨rfl, rfl, rfl⟩ drp
theorem Z4y (xs : List Rn) (a : Option Addr) (c g : Nat) (fst cap : List Value) (p : Rn → Bool) (hg : cal Try.prog g = true) (hl : xs.length ≤ 9223372036854775807) (H : Z7) (R : Z4) [hR : MemRows a 2 (rrows xs) R] (hp : ∀ b b2 x, x ∈ xs → FnV Try.prog g (fst ++ [.agg (Z1A x).toArray] ++ cap) ((b2, cel 77 (Z1A x)) :: (b, cel 102 [.func (.func g) fst.toArray cap.toArray]) :: H) R (.bool (p x))) :
    FnV Try.prog 35 [.slice a xs.length c, .func (.func g) fst.toArray cap.toArray] H R (.bool (xs.all p)) := by
 refine Zb Try.func35 rfl Try.ntmps35 rfl ?_
 refine sqt 2 rfl (bx rfl rfl rfl (fun b3 => pur 1 rfl (sqt 5 rfl (pur 1 rfl (sp rfl (PE.makeFunc rfl rfl) rfl ?_)))))
 refine clV rfl Zcu rfl rfl (Z6X xs a c 67 [] [_] (fun x => !p x) Zca hl _ _ (hp := fun x hx => Z6I x g _ fst cap (p x) hg _ _ (hp := fun b => hp _ _ x hx))) ?_
 refine pur 2 rfl (Z1 ?_)
 exact rtA rfl rfl rfl ⟨by simp only [Zu]; rw [Z04], rfl, rfl⟩ drp
theorem Z0L {l : List Rn} (h : ∀ i, i < l.length - 1 → Z0c l i = false) : (List.range l.length).any (Z0c l) = false := by
  rw [List.any_eq_false]
  intro i hi
  rw [Bool.not_eq_true]
  rcases Nat.lt_or_ge i (l.length - 1) with h1 | h1
  · exact h i h1
  · have : l[i + 1]? = none := List.getElem?_eq_none (by omega)
    unfold Z0c; rw [this]; split <;> simp_all
theorem ZX {l : List Rn} {i : Nat} (hi : i < l.length) (h : Z0c l i = true) : (List.range l.length).any (Z0c l) = true := List.any_eq_true.2 ⟨i, List.mem_range.2 hi, h⟩
theorem Z71 (n : Int) (H : Z7) (R : Z4) :
    FnV Try.prog 33 [.int .i64 n] H R (.bool (inb n 0 30)) := by
 refine Zb Try.func33 rfl Try.ntmps33 rfl ?_
 refine sqt 1 rfl (pur 1 rfl (sqt 3 rfl (pur 1 rfl ?_)))
 refine clV rfl Z0Y rfl rfl (Z1B _ _ _ _ _) ?_
 refine pur 1 rfl (Z1 ?_)
 exact rtA rfl rfl rfl ⟨rfl, rfl, rfl⟩ drp
theorem Z6q (q : Rn) (H : Z7) (R : Z4) :
    FnV Try.prog 36 [.agg (Z1A q).toArray] H R (.bool (inb q.sacks 0 30 && inb q.price 0 100)) := by
 refine Zb Try.func36 rfl Try.ntmps36 rfl ?_
 refine sqt 2 rfl (bx rfl rfl rfl (fun b1 => pur 1 rfl (sqt 9 rfl (sp rfl (PE.fA Z1L rfl) rfl (spL rfl rfl (lh sc3 rfl rfl) rfl ?_)))))
 refine clV rfl Z0Y rfl rfl (Z1B _ _ _ _ _) ?_
 refine pur 1 rfl ?_
 refine ZR 6 rfl ?_ ?_ <;> intro g6
 refine spG rfl rfl rfl rfl (PE.fA Z42 rfl) rfl ?_
 refine Z3F rfl rfl rfl rfl rfl (lh sc3 rfl rfl) rfl ?_
 refine Z1M rfl rfl rfl rfl Z0Y rfl rfl (Z1B _ _ _ _ _) ?_
 refine pur 2 rfl (Z1 ?_)
 exact rtA rfl rfl rfl ⟨by simp_all only [Zu, inb, Bool.true_and, Bool.false_and, cond_true, cond_false], rfl, rfl⟩ drp
 refine pur 5 rfl (Z1 ?_)
 exact rtA rfl rfl rfl ⟨by simp_all only [Zu, inb, Bool.true_and, Bool.false_and, cond_true, cond_false], rfl, rfl⟩ drp
theorem Z4p (t : Twn) (a : Option Addr) (c : Nat) (hl : t.rats.length ≤ 9223372036854775807) (H : Z7) (R : Z4) [hR : MemRows a 2 (rrows t.rats) R] :
    FnV Try.prog 10 [t.v (t.sl a c)] H R (.int .i64 t.check) := by
 refine Zb Try.func10 rfl Try.ntmps10 rfl ?_
 refine sqt 2 rfl (bx rfl rfl rfl (fun b1 => pur 1 rfl (Z0 (Z3 (sqt 6 rfl (sp rfl (PE.fA Z08 rfl) rfl (spL rfl rfl (lh Z1Z rfl rfl) rfl (sp rfl (PE.lenSl Z3I rfl) rfl ?_))))))))
 refine clV rfl Z0Y rfl rfl (Z1B _ _ _ _ _) ?_
 refine pur 2 rfl ?_
 refine Z2 rfl ?_ ?_ <;> intro hc0
 refine sqt 1 rfl (pur 1 rfl (Z1 ?_))
 exact rtA rfl rfl rfl ⟨congrArg (Value.int .i64) (by first | (rw [hck, Z0L hn]; rfl) | (rw [hck, ZX hk2 hbad]; rfl) | simp_all only [Twn.check, inb, cond_true, cond_false, Bool.not_true, Bool.not_false, Bool.not_eq_true', Bool.not_eq_false']), rfl, rfl⟩ drp
 ·
  refine sqt 12 rfl (sp rfl (PE.fA Z2S rfl) rfl (spL rfl rfl (lh sc3 rfl rfl) rfl (sp rfl (PE.fA Z2L rfl) rfl (spL rfl rfl (lh sc3 rfl rfl) rfl (sp rfl (PE.fA Z36 rfl) rfl (spL rfl rfl (lh sc3 rfl rfl) rfl (sp rfl (PE.fA Z2N rfl) rfl (spL rfl rfl (lh sc3 rfl rfl) rfl ?_))))))))
  refine bsl (out := [_, _, _, _]) rfl Z2W zl3 rfl rfl rfl rfl rfl rfl (fun b21 => ?_)
  refine Sy.heap (fun w h => St.rows (sz := 1) (rows := Zv [t.holds, t.need, t.good, t.bad]) (rest := []) h (by simp)) ?_
  refine clV rfl ZaG rfl rfl (Z0e [t.holds, t.need, t.good, t.bad] _ _ 33 [] [] (fun n => inb n 0 30) ZbK (by simp) _ _ (fun _ x _ => Z71 x _ _)) ?_
  refine pur 2 rfl ?_
  refine Z2 rfl ?_ ?_ <;> intro hc1
  refine sqt 1 rfl (pur 1 rfl (Z1 ?_))
  exact rtA rfl rfl rfl ⟨congrArg (Value.int .i64) (by first | (rw [hck, Z0L hn]; rfl) | (rw [hck, ZX hk2 hbad]; rfl) | simp_all only [Twn.check, inb, cond_true, cond_false, Bool.not_true, Bool.not_false, Bool.not_eq_true', Bool.not_eq_false']), rfl, rfl⟩ drp
  ·
   refine sqt 24 rfl (sp rfl (PE.fA Z45 rfl) rfl (spL rfl rfl (lh sc3 rfl rfl) rfl ?_))
   refine clV rfl Z0Y rfl rfl (Z1B _ _ _ _ _) ?_
   refine pur 2 rfl ?_
   refine ZR 29 rfl ?_ ?_ <;> intro g29
   refine pur 19 rfl ?_
   refine Zw rfl ?_
   refine sqt 1 rfl (pur 1 rfl (Z1 ?_))
   exact rtA rfl rfl rfl ⟨congrArg (Value.int .i64) (by first | (rw [hck, Z0L hn]; rfl) | (rw [hck, ZX hk2 hbad]; rfl) | simp_all only [Twn.check, inb, cond_true, cond_false, Bool.not_true, Bool.not_false, Bool.not_eq_true', Bool.not_eq_false']), rfl, rfl⟩ drp
   ·
    refine spG rfl rfl rfl rfl (PE.fA Z3U rfl) rfl ?_
    refine Z3F rfl rfl rfl rfl rfl (lh sc3 rfl rfl) rfl ?_
    refine Z1M rfl rfl rfl rfl Z0Y rfl rfl (Z1B _ _ _ _ _) ?_
    refine pur 3 rfl ?_
    refine ZR 35 rfl ?_ ?_ <;> intro g35
    refine pur 13 rfl ?_
    refine Zw rfl ?_
    refine sqt 1 rfl (pur 1 rfl (Z1 ?_))
    exact rtA rfl rfl rfl ⟨congrArg (Value.int .i64) (by first | (rw [hck, Z0L hn]; rfl) | (rw [hck, ZX hk2 hbad]; rfl) | simp_all only [Twn.check, inb, cond_true, cond_false, Bool.not_true, Bool.not_false, Bool.not_eq_true', Bool.not_eq_false']), rfl, rfl⟩ drp
    ·
     refine spG rfl rfl rfl rfl (PE.fA Z8v rfl) rfl ?_
     refine Z3F rfl rfl rfl rfl rfl (lh sc3 rfl rfl) rfl ?_
     refine Z1M rfl rfl rfl rfl Z0Y rfl rfl (Z1B _ _ _ _ _) ?_
     refine pur 3 rfl ?_
     refine ZR 41 rfl ?_ ?_ <;> intro g41
     refine pur 7 rfl ?_
     refine Zw rfl ?_
     refine sqt 1 rfl (pur 1 rfl (Z1 ?_))
     exact rtA rfl rfl rfl ⟨congrArg (Value.int .i64) (by first | (rw [hck, Z0L hn]; rfl) | (rw [hck, ZX hk2 hbad]; rfl) | simp_all only [Twn.check, inb, cond_true, cond_false, Bool.not_true, Bool.not_false, Bool.not_eq_true', Bool.not_eq_false']), rfl, rfl⟩ drp
     ·
      refine Z3F rfl rfl rfl rfl rfl (lhA [_, _, _, _, _, _, _, _, _, _, _] Z0l rfl rfl rfl) rfl ?_
      refine spG rfl rfl rfl rfl (PE.fA Z0O rfl) rfl ?_
      refine Z3F rfl rfl rfl rfl rfl (lhA [_, _, _] Z0f rfl rfl rfl) rfl ?_
      refine Z1M rfl rfl rfl rfl Za5 rfl rfl (Z6J t t.now _ _ _) ?_
      refine pur 3 rfl ?_
      refine Z2 rfl ?_ ?_ <;> intro hc2
      refine sqt 1 rfl (pur 1 rfl (Z1 ?_))
      exact rtA rfl rfl rfl ⟨congrArg (Value.int .i64) (by first | (rw [hck, Z0L hn]; rfl) | (rw [hck, ZX hk2 hbad]; rfl) | simp_all only [Twn.check, inb, cond_true, cond_false, Bool.not_true, Bool.not_false, Bool.not_eq_true', Bool.not_eq_false']), rfl, rfl⟩ drp
      ·
       refine sqt 5 rfl (sp rfl (PE.fA Z08 rfl) rfl (spL rfl rfl (lh Z1Z rfl rfl) rfl ?_))
       refine clV rfl ZbV rfl rfl (Z4y t.rats a c 36 [] [] (fun q => inb q.sacks 0 30 && inb q.price 0 100) Zbw hl _ _ (fun _ _ x _ => Z6q x _ _)) ?_
       refine pur 2 rfl ?_
       refine Z2 rfl ?_ ?_ <;> intro hc3
       refine sqt 1 rfl (pur 1 rfl (Z1 ?_))
       exact rtA rfl rfl rfl ⟨congrArg (Value.int .i64) (by first | (rw [hck, Z0L hn]; rfl) | (rw [hck, ZX hk2 hbad]; rfl) | simp_all only [Twn.check, inb, cond_true, cond_false, Bool.not_true, Bool.not_false, Bool.not_eq_true', Bool.not_eq_false']), rfl, rfl⟩ drp
       ·
        refine sqt 6 rfl (sp rfl (PE.fA Z2N rfl) rfl (spL rfl rfl (lh sc3 rfl rfl) rfl (sp rfl (PE.fA Z36 rfl) rfl (spL rfl rfl (lh sc3 rfl rfl) rfl (pur 2 rfl ?_)))))
        refine Z2 rfl ?_ ?_ <;> intro hc4
        refine sqt 1 rfl (pur 1 rfl (Z1 ?_))
        exact rtA rfl rfl rfl ⟨congrArg (Value.int .i64) (by first | (rw [hck, Z0L hn]; rfl) | (rw [hck, ZX hk2 hbad]; rfl) | simp_all only [Twn.check, inb, cond_true, cond_false, Bool.not_true, Bool.not_false, Bool.not_eq_true', Bool.not_eq_false']), rfl, rfl⟩ drp
        ·
         refine Z5 (Z0 (sqt 1 rfl (pur 1 rfl (Z3 ?_))))
         have hlen : 1 ≤ t.rats.length := by
           simp only [inb, decide_eq_true_eq, decide_eq_false_iff_not, Bool.and_eq_true, Bool.or_eq_true, Bool.not_eq_true', Int.not_le, Int.not_lt, Bool.not_eq_false'] at hc0
           omega
         have hck : t.check = bif (List.range t.rats.length).any (Z0c t.rats) then 4 else 0 := by simp_all only [Twn.check, inb, cond_true, cond_false, Bool.not_true, Bool.not_false, Bool.not_eq_true', Bool.not_eq_false']
         refine Zj (ι := {k : Nat // 1 ≤ k ∧ k ≤ t.rats.length ∧ ∀ i, i < k - 1 → Z0c t.rats i = false}) (fun k => ⟨[(1, .pointer (some ⟨b1, 0, none⟩)), (3, .int .i64 k.1)], (b1, cel 27 (twl t (t.sl a c))) :: H, R⟩) (fun k => t.rats.length - k.1) ⟨1, by simp; omega⟩ ?_ (fun k => ?_)
         exact Zr (fun w h => by repeat first | exact h | replace h := St.ftail h)
         ·
          obtain ⟨k, hk1, hk2, hn⟩ := k
          dsimp only
          refine Z0 (sqt 5 rfl (pur 1 rfl (sp rfl (PE.fA Z08 rfl) rfl (spL rfl rfl (lh Z1Z rfl rfl) rfl (sp rfl (PE.lenSl Z3I rfl) rfl (pur 1 rfl ?_))))))
          refine Z2 rfl ?_ ?_ <;> intro hc5
          ·
           simp only [cS] at hc5
           obtain ⟨x, hx⟩ : ∃ x, t.rats[k - 1]? = some x := ⟨_, List.getElem?_eq_getElem (by omega)⟩
           obtain ⟨y, hy⟩ : ∃ y, t.rats[k]? = some y := ⟨_, List.getElem?_eq_getElem (by omega)⟩
           have e1 : ((k : Int) - 1).toNat = k - 1 := by omega
           have hba : Z0c t.rats (k - 1) = (decide (x.sacks ≤ y.sacks) || decide (y.price ≤ x.price)) := by unfold Z0c; rw [hx, show k - 1 + 1 = k from by omega, hy]
           refine ZE (a := a) (sz := 2) (rows := rrows t.rats) (by intro h0; simp [rrows] at h0; simp [h0] at hx) (fun b off he => ?_)
           subst he
           refine Z5 (Z0 (Z3 (Z0 ?_)))
           refine Zac (ι := Nat × Nat) (fun z => ⟨[(1, .pointer (some ⟨b1, 0, none⟩)), (3, .int .i64 k), (4, .pointer (some ⟨z.1, 0, none⟩)), (5, .pointer (some ⟨z.2, 0, none⟩))], (z.1, cel 77 (Z1A x)) :: (z.2, cel 77 (Z1A y)) :: (b1, cel 27 (twl t (t.sl (some ⟨b, off, none⟩) c))) :: H, R⟩) ?_ ?_
           ·
            refine Z8 [0, 1, 0, 4, 15, 31, 0, 64, 0, 448, 960, 0, 0, 6207, 16383] (.tk 0 (.ld 1 (tks 2 3 (.ld 5 (.tk 6 (.ld 7 (.tk 8 (.tk 9 (.ld 10 (.any (.alt 11 (.big 12 (.big 13 (.big 14 .done))) (.alt 12 (.big 11 (.big 13 (.big 14 .done))) .stop)))))))))))) Zk (by kernel_rfl) ?_
            refine tk rfl (PE.fA Z08 rfl) rfl (ld rfl rfl (lh Z1Z rfl rfl) rfl (Za 1 rfl (tk rfl (PE.sub rfl rfl (by omega)) rfl (tk rfl (PE.indexAddr Z8Y rfl rfl (by omega) (by omega)) rfl (ld rfl rfl (lfA Z4x (row := Z1A x) (by rw [e1]; exact Z0b hx) rfl) rfl (tk rfl (PE.fA Z08 rfl) rfl (ld rfl rfl (lh Z1Z rfl rfl) rfl (Za 1 rfl (tk rfl (PE.indexAddr Z8Y rfl rfl (by omega) (by omega)) rfl (ld rfl rfl (lfA Z4x (row := Z1A y) (Z0b hy) rfl) rfl ?_))))))))))
            refine Z12 ?_ ?_
            ·
             refine alc rfl Z6n rfl (fun b4 => ?_)
             refine bg (fun w hs => ⟨(lfA Z4x (row := Z1A y) (Z0b hy) rfl) w hs, (lh Z1Z rfl rfl) w hs, (lfA Z4x (row := Z1A x) (by rw [e1]; exact Z0b hx) rfl) w hs, (lh Z1Z rfl rfl) w hs, trivial⟩) ?_
             refine alc rfl Z6n rfl (fun b5 => ?_)
             refine bg (fun w hs => ⟨(lfA Z4x (row := Z1A y) (Z0b hy) rfl) w hs, (lh Z1Z rfl rfl) w hs, (lfA Z4x (row := Z1A x) (by rw [e1]; exact Z0b hx) rfl) w hs, (lh Z1Z rfl rfl) w hs, trivial⟩) ?_
             refine sto rfl rfl rfl Zax rfl rfl rfl rfl ?_
             refine bg (fun w hs => ⟨(lfA Z4x (row := Z1A y) (Z0b hy) rfl) w hs, (lh Z1Z rfl rfl) w hs, trivial, trivial, trivial⟩) ?_
             refine sto rfl rfl rfl Zax rfl rfl rfl rfl ?_
             refine bgT ?_
             exact Z2U (b4, b5) (fun w h => by first | exact h | exact h.perm (.swap _ _ _))
            refine Z12 ?_ ?_
            ·
             refine alc rfl Z6n rfl (fun b5 => ?_)
             refine bg (fun w hs => ⟨(lfA Z4x (row := Z1A y) (Z0b hy) rfl) w hs, (lh Z1Z rfl rfl) w hs, (lfA Z4x (row := Z1A x) (by rw [e1]; exact Z0b hx) rfl) w hs, (lh Z1Z rfl rfl) w hs, trivial⟩) ?_
             refine alc rfl Z6n rfl (fun b4 => ?_)
             refine bg (fun w hs => ⟨(lfA Z4x (row := Z1A y) (Z0b hy) rfl) w hs, (lh Z1Z rfl rfl) w hs, (lfA Z4x (row := Z1A x) (by rw [e1]; exact Z0b hx) rfl) w hs, (lh Z1Z rfl rfl) w hs, trivial⟩) ?_
             refine sto rfl rfl rfl Zax rfl rfl rfl rfl ?_
             refine bg (fun w hs => ⟨(lfA Z4x (row := Z1A y) (Z0b hy) rfl) w hs, (lh Z1Z rfl rfl) w hs, trivial, trivial, trivial⟩) ?_
             refine sto rfl rfl rfl Zax rfl rfl rfl rfl ?_
             refine bgT ?_
             exact Z2U (b4, b5) (fun w h => by first | exact h | exact h.perm (.swap _ _ _))
            exact Z26
           rintro ⟨b4, b5⟩
           dsimp only
           refine sqt 12 rfl (sp rfl (PE.fA Z1L rfl) rfl (spL rfl rfl (lh sc3 rfl rfl) rfl (sp rfl (PE.fA Z1L rfl) rfl (spL rfl rfl (lh sc3 rfl rfl) rfl (pur 2 rfl ?_)))))
           refine ZR 82 rfl ?_ ?_ <;> intro g82
           have hbad : Z0c t.rats (k - 1) = true := by rw [hba, g82]; rfl
           replace hk2 : k - 1 < t.rats.length := by omega
           refine pur 6 rfl ?_
           refine Zw rfl ?_
           refine sqt 1 rfl (pur 1 rfl (Z1 ?_))
           exact rtA rfl rfl rfl ⟨congrArg (Value.int .i64) (by first | (rw [hck, Z0L hn]; rfl) | (rw [hck, ZX hk2 hbad]; rfl) | simp_all only [Twn.check, inb, cond_true, cond_false, Bool.not_true, Bool.not_false, Bool.not_eq_true', Bool.not_eq_false']), rfl, rfl⟩ drp
           refine spG rfl rfl rfl rfl (PE.fA Z42 rfl) rfl ?_
           refine Z3F rfl rfl rfl rfl rfl (lh sc3 rfl rfl) rfl ?_
           refine spG rfl rfl rfl rfl (PE.fA Z42 rfl) rfl ?_
           refine Z3F rfl rfl rfl rfl rfl (lh sc3 rfl rfl) rfl (pur 2 rfl ?_)
           refine Z2 rfl ?_ ?_ <;> intro hc6
           have hbad : Z0c t.rats (k - 1) = true := by rw [hba, g82]; exact hc6
           replace hk2 : k - 1 < t.rats.length := by omega
           refine sqt 1 rfl (pur 1 rfl (Z1 ?_))
           exact rtA rfl rfl rfl ⟨congrArg (Value.int .i64) (by first | (rw [hck, Z0L hn]; rfl) | (rw [hck, ZX hk2 hbad]; rfl) | simp_all only [Twn.check, inb, cond_true, cond_false, Bool.not_true, Bool.not_false, Bool.not_eq_true', Bool.not_eq_false']), rfl, rfl⟩ drp
           refine Z5 (sqr 3 rfl (pur 1 rfl (sp rfl (PE.add rfl rfl (by omega)) rfl (pur 1 rfl ?_))))
           exact Zt ⟨k + 1, by omega, by omega, fun i hi => by
             rcases Nat.lt_or_ge i (k - 1) with h1 | h1
             · exact hn i h1
             · obtain rfl : i = k - 1 := by omega
               rw [hba, g82]; exact hc6⟩ (by dsimp only; omega) (by repeat' first | exact Sub.nil | apply Sub.cons | rfl | (simp [lk]; omega)) (fun w h => St.tail (St.tail h))
          simp only [cS] at hc5
          obtain rfl : k = t.rats.length := by omega
          refine Zg (Zh (Zh (ZJ (sqt 1 rfl (pur 1 rfl (Z1 ?_))))))
          exact rtA rfl rfl rfl ⟨congrArg (Value.int .i64) (by first | (rw [hck, Z0L hn]; rfl) | (rw [hck, ZX hk2 hbad]; rfl) | simp_all only [Twn.check, inb, cond_true, cond_false, Bool.not_true, Bool.not_false, Bool.not_eq_true', Bool.not_eq_false']), rfl, rfl⟩ drp
theorem Z16 : arN Try.prog 65 = some (4, 1) := by kernel_rfl
theorem Z9Y : arN Try.prog 87 = some (4, 4) := by kernel_rfl
theorem Z9O : arN Try.prog 89 = some (31, 16) := by kernel_rfl
theorem Zbo : cal Try.prog 10 = true := by kernel_rfl
theorem Z1W : cal Try.prog 28 = true := by kernel_rfl
theorem Z7v : cal Try.prog 30 = true := by kernel_rfl
theorem Z9C : cal Try.prog 42 = true := by kernel_rfl
theorem Z60 : cal Try.prog 47 = true := by kernel_rfl
theorem Z8X : cal Try.prog 68 = true := by kernel_rfl
theorem Z6m : Z00 Try.prog 86 0 = some 0 := by kernel_rfl
theorem Z2w : Z00 Try.prog 92 0 = some 0 := by kernel_rfl
theorem Z6v : Z00 Try.prog 92 1 = some 11 := by kernel_rfl
theorem ZP : Z00 Try.prog 92 2 = some 12 := by kernel_rfl
theorem Zdk : ZU Try.prog 86 = some [(0, 1)] := by kernel_rfl
theorem Zdj : ZU Try.prog 92 = some [(0, 11), (11, 1), (12, 496), (508, 1), (509, 1)] := by kernel_rfl
theorem Zbr : Z0Z Try.prog 84 = true := by kernel_rfl
theorem ZcX : Zy Try.prog 86 = some ([.nilFunc]) := by kernel_rfl
theorem Zdn : Zy Try.prog 92 = some (List.replicate 10 (.int .i64 0) ++ [.slice none 0 0] ++ [.nilFunc] ++ List.replicate 496 (.int .i64 0) ++ [.slice none 0 0] ++ [.map none]) := by kernel_rfl
abbrev fvv (bt : Nat) : Value := .func (.func 68) #[] #[.pointer (some ⟨bt, 0, none⟩)]
def rcs (t : Twn) (sl : Value) (bt : Nat) (y : List Int) (fs : Value) (m : Nat) : List Value := twl t sl ++ fvv bt :: (Zc y ++ [fs, .map (some m)])
theorem ints_get {y : List Int} {i : Nat} {x : Int} (h : y[i]? = some x) : (Zc y)[i]? = some (.int .i64 x) := by simp [Zc, h]
theorem ints_length (y : List Int) : (Zc y).length = y.length := by simp [Zc]
theorem Z5s (y : List Int) (i : Nat) (x : Int) : Zc (y.set i x) = (Zc y).set i (.int .i64 x) := by simp [Zc, List.map_set]
theorem Z9L {t : Twn} {sl : Value} {bt m i k : Nat} {y : List Int} {fs : Value} {x : Int} (h : y[i]? = some x) (e : k = 12 + i) : (rcs t sl bt y fs m)[k]? = some (.int .i64 x) := by
  subst e
  have hi : i < y.length := (List.getElem?_eq_some_iff.1 h).1
  show (([_, _, _, _, _, _, _, _, _, _, _, _] ++ (Zc y ++ [fs, .map (some m)]) : List Value))[12 + i]? = _
  rw [List.getElem?_append_right (by simp)]
  simp only [List.length_cons, List.length_nil, Nat.zero_add, Nat.add_sub_cancel_left]
  rw [List.getElem?_append_left (by rw [ints_length]; exact hi)]
  exact ints_get h
theorem Z2f {t : Twn} {sl : Value} {bt m : Nat} {y : List Int} {fs : Value} (hy : y.length = 496) : (rcs t sl bt y fs m).length = 510 := by
  simp [rcs, ints_length, hy]
theorem Z66 {t : Twn} {sl : Value} {bt m : Nat} {y : List Int} {fs : Value} (hy : y.length = 496) : (rcs t sl bt y fs m).drop 508 = [fs, .map (some m)] := by
  show (([_, _, _, _, _, _, _, _, _, _, _, _] ++ (Zc y ++ [fs, .map (some m)]) : List Value)).drop 508 = _
  rw [← List.append_assoc, List.drop_left' (by simp [ints_length, hy])]
theorem Z54 {t : Twn} {sl : Value} {bt m : Nat} {y : List Int} {fs : Value} (hy : y.length = 496) : (rcs t sl bt y fs m)[508]? = some fs := by
  have := congrArg (fun l : List Value => l[0]?) (Z66 (t := t) (sl := sl) (bt := bt) (m := m) (fs := fs) hy)
  simpa [List.getElem?_drop] using this
theorem Z9G {t : Twn} {sl : Value} {bt m : Nat} {y : List Int} {fs : Value} (hy : y.length = 496) : (rcs t sl bt y fs m)[509]? = some (.map (some m)) := by
  have := congrArg (fun l : List Value => l[1]?) (Z66 (t := t) (sl := sl) (bt := bt) (m := m) (fs := fs) hy)
  simpa [List.getElem?_drop] using this
theorem Z4v {l : List Value} {k : Nat} {v : Value} (h : k < l.length) : spl l k [v] = l.set k v := by
  simp only [spl, List.length_singleton, List.append_assoc, List.singleton_append]
  rw [List.set_eq_take_append_cons_drop, if_pos h]
theorem Z4f {t : Twn} {sl : Value} {bt m i k : Nat} {y : List Int} {fs : Value} (x : Int) (hi : i < y.length) (e : k = 12 + i) : spl (rcs t sl bt y fs m) k [.int .i64 x] = rcs t sl bt (y.set i x) fs m := by
  subst e
  rw [Z4v (by simp [rcs, ints_length]; omega)]
  show (([_, _, _, _, _, _, _, _, _, _, _, _] ++ (Zc y ++ [fs, .map (some m)]) : List Value)).set (12 + i) _ = [_, _, _, _, _, _, _, _, _, _, _, _] ++ (Zc (y.set i x) ++ [fs, .map (some m)])
  rw [List.set_append_right _ _ (by simp)]
  simp only [List.length_cons, List.length_nil, Nat.zero_add, Nat.add_sub_cancel_left]
  rw [List.set_append_left _ _ (by rw [ints_length]; exact hi), Z5s]
theorem Z8I {t : Twn} {sl : Value} {bt m : Nat} {y : List Int} {fs : Value} (fs' : Value) (hy : y.length = 496) : spl (rcs t sl bt y fs m) 508 [fs'] = rcs t sl bt y fs' m := by
  rw [Z4v (by rw [Z2f hy]; omega)]
  show (([_, _, _, _, _, _, _, _, _, _, _, _] ++ (Zc y ++ [fs, .map (some m)]) : List Value)).set 508 _ = [_, _, _, _, _, _, _, _, _, _, _, _] ++ (Zc y ++ [fs', .map (some m)])
  rw [List.set_append_right _ _ (by simp)]
  simp only [List.length_cons, List.length_nil, Nat.zero_add]
  rw [List.set_append_right _ _ (by rw [ints_length]; omega), ints_length, hy]
  rfl
theorem Z8U (t : Twn) (s : Sta) (ba oa ca : Nat) (bt : Nat) (H : Z7) (R : Z4) [hT : MemRows (some ⟨bt, 0, none⟩) 11 [twl t (t.sl (some ⟨ba, oa, none⟩) ca)] R] :
    FnV Try.prog 68 [s.v, .pointer (some ⟨bt, 0, none⟩)] H R (.bool (decide (s.dry < t.run))) := by
 refine Zb Try.func68 rfl Try.ntmps68 rfl ?_
 refine sqt 2 rfl (bx rfl rfl rfl (fun b2 => pur 1 rfl (sqt 6 rfl (sp rfl (PE.fA Z10 rfl) rfl (spL rfl rfl (lh sc3 rfl rfl) rfl (sp rfl (PE.fA Z3U rfl) rfl (spL rfl rfl (lfB (sz := 11) sc3 rfl) rfl (pur 2 rfl (Z1 ?_)))))))))
 exact rtA rfl rfl rfl ⟨rfl, rfl, rfl⟩ drp
theorem Z0V (t : Twn) (hl : t.rats.length ≤ 9223372036854775807) (ba oa ca : Nat) (H : Z7) (R : Z4) [hR : MemRows (some ⟨ba, oa, none⟩) 2 (rrows t.rats) R] :
    Fn Try.prog 40 [t.v (t.sl (some ⟨ba, oa, none⟩) ca)] H R (fun v H' R' => (t.check ≠ 0 ∧ v = .tuple #[.pointer none, .int .i64 t.check] ∧ H' = H ∧ R' = R) ∨
      (t.check = 0 ∧ ∃ bw m bt, v = .tuple #[.pointer (some ⟨bw, 0, none⟩), .int .i64 0] ∧ H' = (bw, cel 92 (rcs t (t.sl (some ⟨ba, oa, none⟩) ca) bt (List.replicate 496 0) (.slice none 0 0) m)) :: (m, Z0k true []) :: H ∧ R' = RowsA (some ⟨bt, 0, none⟩) 11 [twl t (t.sl (some ⟨ba, oa, none⟩) ca)] :: R)) := by
 refine Zb Try.func40 rfl Try.ntmps40 rfl ?_
 refine sqt 3 rfl (bx rfl rfl rfl (fun b1 => pur 2 rfl (Z0 (sqt 3 rfl (spL rfl rfl (lhA [_, _, _, _, _, _, _, _, _, _, _] Z0l rfl rfl rfl) rfl ?_)))))
 refine clV rfl Zbo rfl rfl (Z4p t _ _ hl _ _) ?_
 refine pur 1 rfl (sqt 2 rfl (pur 2 rfl ?_))
 refine Z2 rfl ?_ ?_ <;> intro hc0
 simp only [cS] at hc0
 refine sqt 3 rfl (pur 3 rfl (Z1 ?_))
 first
   | exact rtB rfl rfl rfl rfl (.inl ⟨by simpa using hc0, rfl, rfl, rfl⟩) (fun _ h => h.tail)
   | exact rtB rfl rfl rfl rfl (.inr ⟨by simpa using hc0, _, _, _, rfl, rfl, rfl⟩) (fun w h => St.rows (sz := 11) (rows := [twl t (t.sl (some ⟨ba, oa, none⟩) ca)]) (rest := []) (h.perm (List.perm_middle (l₁ := [_, _]))) (by simp))
 simp only [bne_self_eq_false, decide_eq_true_eq, decide_eq_false_iff_not, Bool.and_eq_true, Bool.or_eq_true, Bool.not_eq_true', Int.not_le, Int.not_lt] at hc0
 refine Z5 (sqt 7 rfl (spL rfl rfl (lhA [_, _, _, _, _, _, _, _, _, _, _] Z0l rfl rfl rfl) rfl (sp rfl (PE.makeFunc rfl rfl) rfl (sp rfl (PE.build (out := [_]) Zdk ZcX rfl rfl) rfl ?_))))
 refine mkm rfl rfl true (fun m => ?_)
 refine sp rfl (PE.build (out := rcs t (t.sl (some ⟨ba, oa, none⟩) ca) b1 (List.replicate 496 0) (.slice none 0 0) m) Zdj Zdn rfl (by kernel_rfl)) rfl (bx rfl rfl rfl (fun b16 => pur 1 rfl (sqt 3 rfl (pur 3 rfl (Z1 ?_)))))
 first
   | exact rtB rfl rfl rfl rfl (.inl ⟨by simpa using hc0, rfl, rfl, rfl⟩) (fun _ h => h.tail)
   | exact rtB rfl rfl rfl rfl (.inr ⟨by simpa using hc0, _, _, _, rfl, rfl, rfl⟩) (fun w h => St.rows (sz := 11) (rows := [twl t (t.sl (some ⟨ba, oa, none⟩) ca)]) (rest := []) (h.perm (List.perm_middle (l₁ := [_, _]))) (by simp))
theorem Z5U (t : Twn) (ht : t.ok) (s : Sta) (hs : s.right t = true) (ba oa ca : Nat) (bt bw m : Nat) (y : List Int) (fs : Value) (hy : y.length = 496) (H : Z7) (R : Z4) [hW : Mem1 bw (cel 92 (rcs t (t.sl (some ⟨ba, oa, none⟩) ca) bt y fs m)) H] :
    FnV Try.prog 28 [.pointer (some ⟨bw, 12, none⟩), s.v] H R (.int .i64 (lat y s)) := by
 refine Zb Try.func28 rfl Try.ntmps28 rfl ?_
 refine sqt 2 rfl (bx rfl rfl rfl (fun b3 => pur 1 rfl (Z0 ?_)))
 refine Z8 [0, 0, 2, 0, 8, 0, 32, 1, 135, 415, 1023, 2047, 4095] (.tk 0 (.tk 1 (.ld 2 (.tk 3 (.ld 4 (.tk 5 (.ld 6 (tks 7 4 (.ld 11 (.tk 12 .done)))))))))) Zk (by kernel_rfl) ?_
 refine Za 1 rfl (tk rfl (PE.fA Z0M rfl) rfl (ld rfl rfl (lh sc3 rfl rfl) rfl (tk rfl (PE.fA Z0u rfl) rfl (ld rfl rfl (lh sc3 rfl rfl) rfl (tk rfl (PE.fA Z10 rfl) rfl (ld rfl rfl (lh sc3 rfl rfl) rfl (tk rfl (PE.nilCheck rfl) rfl (tk rfl (PE.indexArr Z9O rfl rfl (by have h1 := right_iff.1 hs; have h2 := ht.holds; have h3 := ht.patience; have h4 := ht.run; omega) (by have h1 := right_iff.1 hs; have h2 := ht.holds; have h3 := ht.patience; have h4 := ht.run; omega)) rfl (tk rfl (PE.indexArr Z9Y rfl rfl (by have h1 := right_iff.1 hs; have h2 := ht.holds; have h3 := ht.patience; have h4 := ht.run; omega) (by have h1 := right_iff.1 hs; have h2 := ht.holds; have h3 := ht.patience; have h4 := ht.run; omega)) rfl (tk rfl (PE.indexArr Z16 rfl rfl (by have h1 := right_iff.1 hs; have h2 := ht.holds; have h3 := ht.patience; have h4 := ht.run; omega) (by have h1 := right_iff.1 hs; have h2 := ht.holds; have h3 := ht.patience; have h4 := ht.run; omega)) rfl (ld rfl rfl (lh sc3 rfl (Z9L (Z8V (s := s) (by have := Z1w ht hs; omega)) (by unfold Sta.ix; omega))) rfl (Za 1 rfl (Z1 ?_)))))))))))))
 exact rtA rfl rfl rfl ⟨rfl, rfl, rfl⟩ drp
theorem Z3A (t : Twn) (ht : t.ok) (s : Sta) (hs : s.right t = true) (r : Int) (q : Rn) (h0 : 0 ≤ r) (hq : t.rats[r.toNat]? = some q) (bads : Int) (hb : 0 ≤ bads ∧ bads ≤ 1000000) (ba oa ca : Nat) (bt bw m : Nat) (y : List Int) (fs : Value) (hy : y.length = 496) (H : Z7) (R : Z4) [hR : MemRows (some ⟨ba, oa, none⟩) 2 (rrows t.rats) R] [hT : MemRows (some ⟨bt, 0, none⟩) 11 [twl t (t.sl (some ⟨ba, oa, none⟩) ca)] R] [hW : Mem1 bw (cel 92 (rcs t (t.sl (some ⟨ba, oa, none⟩) ca) bt y fs m)) H] :
    FnV Try.prog 30 [.pointer (some ⟨bw, 0, none⟩), s.v, .int .i64 r, .int .i64 bads] H R (.bool (t.keeps y s q bads)) := by
 refine Zb Try.func30 rfl Try.ntmps30 rfl ?_
 refine sqt 2 rfl (bx rfl rfl rfl (fun b5 => pur 1 rfl (Z0 (Z0 ?_))))
 refine Z8 [0, 1, 3, 7, 0, 0, 63, 127, 255, 511, 1023, 2047, 511, 4607, 12799, 29183, 511, 511, 258559, 524287, 511, 2097151, 4194303] (tks 0 3 (.ld 3 (.ld 4 (.tk 5 (.big 6 (tks 7 8 (.ld 15 (.ld 16 (.tk 17 (.tk 20 (.big 18 (.big 19 (.tk 21 (.tk 22 .done)))))))))))))) Zk (by kernel_rfl) ?_
 refine Za 1 rfl (tk rfl (PE.nilCheck rfl) rfl (tk rfl (PE.fA Z2w rfl) rfl (ld rfl rfl (lhA [_, _, _, _, _, _, _, _, _, _, _] Z0l rfl rfl rfl) rfl (ld rfl rfl (lhA [_, _, _] Z0f rfl rfl rfl) rfl (Za 1 rfl ?_)))))
 refine clV rfl Z9C rfl rfl (Z2m t s r q ba oa ca h0 hq _ _) ?_
 refine bgT (Za 2 rfl ?_)
 refine ZR 18 rfl ?_ ?_ <;> intro g18
 simp only [Bool.not_eq_true'] at g18
 refine Za 6 rfl ?_
 repeat refine ldN rfl rfl rfl rfl rfl rfl rfl rfl ?_
 refine Za 2 rfl ?_
 refine spN rfl rfl rfl rfl rfl rfl rfl rfl ?_
 refine bgT ?_
 refine spN rfl rfl rfl rfl rfl rfl rfl rfl ?_
 refine bgT (Za 2 rfl ?_)
 refine Zw rfl ?_
 refine sqt 1 rfl (pur 1 rfl (Z1 ?_))
 exact rtA rfl rfl rfl ⟨by
     first
       | (simp [Zu, Twn.keeps, g18]; done)
       | (simp [Zu, Twn.keeps, g18.2]; omega)
       | (simp [Zu, Twn.keeps, g18.2, g39, g49, hc1]; try omega)
       | (simp [Zu, Twn.keeps, g18.2, g39, hc1]; try omega)
       | (simp [Zu, Twn.keeps, g18.2, g39]; try omega), rfl, rfl⟩ drp
 simp only [Bool.not_eq_false'] at g18
 replace g18 := And.intro (show q.sacks ≤ s.stock ∧ True by simp [Twn.can] at g18; exact ⟨g18.1, trivial⟩) g18
 refine Za 1 rfl ?_
 refine tkG rfl rfl rfl rfl (PE.nilCheck rfl) rfl ?_
 refine tkG rfl rfl rfl rfl (PE.fA ZP rfl) rfl ?_
 refine Za 1 rfl ?_
 refine tkG rfl rfl rfl rfl (PE.nilCheck rfl) rfl ?_
 refine tkG rfl rfl rfl rfl (PE.fA Z2w rfl) rfl ?_
 refine ldG rfl rfl rfl rfl rfl (lhA [_, _, _, _, _, _, _, _, _, _, _] Z0l rfl rfl rfl) rfl (ldG rfl rfl rfl rfl rfl (lhA [_, _, _] Z0f rfl rfl rfl) rfl (Za 2 rfl ?_))
 refine Z1M rfl rfl rfl rfl Z60 rfl rfl (Z3R t ht s hs r q false ba oa ca h0 hq g18.1.1 _ _) ?_
 refine bgT ?_
 refine Z1M rfl rfl rfl rfl Z1W rfl rfl (Z5U t ht _ (Zm ht hs (List.mem_of_getElem? hq) g18.2 (by simp)) ba oa ca bt bw m y fs hy _ _) ?_
 refine bgT (Za 2 rfl ?_)
 refine Z2 rfl ?_ ?_ <;> intro hc0
 simp only [decide_eq_true_eq] at hc0
 refine sqt 1 rfl (pur 1 rfl (Z1 ?_))
 exact rtA rfl rfl rfl ⟨by
     first
       | (simp [Zu, Twn.keeps, g18]; done)
       | (simp [Zu, Twn.keeps, g18.2]; omega)
       | (simp [Zu, Twn.keeps, g18.2, g39, g49, hc1]; try omega)
       | (simp [Zu, Twn.keeps, g18.2, g39, hc1]; try omega)
       | (simp [Zu, Twn.keeps, g18.2, g39]; try omega), rfl, rfl⟩ drp
 simp only [decide_eq_false_iff_not, Int.not_lt] at hc0
 refine Z5 (sqt 3 rfl (pur 1 rfl (sp rfl (PE.sub rfl rfl (by omega)) rfl (pur 1 rfl (Z0 (sqt 2 rfl (pur 2 rfl ?_)))))))
 refine Z2 rfl ?_ ?_ <;> intro hc1
 simp only [decide_eq_true_eq] at hc1
 refine sqr 1 rfl (pur 1 rfl (Z0 ?_))
 refine Z8 [0, 1, 3, 7, 15, 31, 63, 127, 7, 511, 1023, 2047, 4095, 8191, 16383, 32767, 8191, 73727, 204799, 466943, 8191, 8191, 4136959, 8388607, 8191, 33554431, 67108863, 134217727] (tks 0 7 (.ld 7 (.ld 8 (.big 9 (tks 10 9 (.ld 19 (.ld 20 (.tk 21 (.tk 24 (.big 22 (.big 23 (tks 25 3 .done)))))))))))) Zk (by kernel_rfl) ?_
 refine Za 3 rfl ?_
 refine ZR 39 rfl ?_ ?_ <;> intro g39
 simp only [decide_eq_true_eq] at g39
 refine Za 4 rfl ?_
 repeat refine ldN rfl rfl rfl rfl rfl rfl rfl rfl ?_
 refine spN rfl rfl rfl rfl rfl rfl rfl rfl ?_
 refine bgT (Za 9 rfl ?_)
 repeat refine ldN rfl rfl rfl rfl rfl rfl rfl rfl ?_
 refine Za 2 rfl ?_
 refine spN rfl rfl rfl rfl rfl rfl rfl rfl ?_
 refine bgT ?_
 refine spN rfl rfl rfl rfl rfl rfl rfl rfl ?_
 refine bgT (Za 3 rfl (Z1 ?_))
 exact rtA rfl rfl rfl ⟨by
     first
       | (simp [Zu, Twn.keeps, g18]; done)
       | (simp [Zu, Twn.keeps, g18.2]; omega)
       | (simp [Zu, Twn.keeps, g18.2, g39, g49, hc1]; try omega)
       | (simp [Zu, Twn.keeps, g18.2, g39, hc1]; try omega)
       | (simp [Zu, Twn.keeps, g18.2, g39]; try omega), rfl, rfl⟩ drp
 simp only [decide_eq_false_iff_not] at g39
 refine Za 1 rfl ?_
 refine tkG rfl rfl rfl rfl (PE.nilCheck rfl) rfl ?_
 refine tkG rfl rfl rfl rfl (PE.fA Z6v rfl) rfl ?_
 refine tkG rfl rfl rfl rfl (PE.fA Z6m rfl) rfl ?_
 refine ldG rfl rfl rfl rfl rfl (lh Zbr rfl rfl) rfl (ldG rfl rfl rfl rfl rfl (lhA [_, _, _] Z0f rfl rfl rfl) rfl ?_)
 refine Zb6 rfl rfl rfl rfl rfl (Z8X) rfl rfl (Z8U t s ba oa ca bt _ _) ?_
 refine bgT (Za 3 rfl ?_)
 refine ZR 49 rfl ?_ ?_ <;> intro g49
 simp only [Bool.not_eq_true', decide_eq_false_iff_not] at g49
 refine Za 6 rfl ?_
 repeat refine ldN rfl rfl rfl rfl rfl rfl rfl rfl ?_
 refine Za 2 rfl ?_
 refine spN rfl rfl rfl rfl rfl rfl rfl rfl ?_
 refine bgT ?_
 refine spN rfl rfl rfl rfl rfl rfl rfl rfl ?_
 refine bgT (Za 3 rfl (Z1 ?_))
 exact rtA rfl rfl rfl ⟨by
     first
       | (simp [Zu, Twn.keeps, g18]; done)
       | (simp [Zu, Twn.keeps, g18.2]; omega)
       | (simp [Zu, Twn.keeps, g18.2, g39, g49, hc1]; try omega)
       | (simp [Zu, Twn.keeps, g18.2, g39, hc1]; try omega)
       | (simp [Zu, Twn.keeps, g18.2, g39]; try omega), rfl, rfl⟩ drp
 simp only [Bool.not_eq_false', decide_eq_true_eq] at g49
 refine Za 1 rfl ?_
 refine tkG rfl rfl rfl rfl (PE.nilCheck rfl) rfl ?_
 refine tkG rfl rfl rfl rfl (PE.fA ZP rfl) rfl ?_
 refine Za 1 rfl ?_
 refine tkG rfl rfl rfl rfl (PE.nilCheck rfl) rfl ?_
 refine tkG rfl rfl rfl rfl (PE.fA Z2w rfl) rfl ?_
 refine ldG rfl rfl rfl rfl rfl (lhA [_, _, _, _, _, _, _, _, _, _, _] Z0l rfl rfl rfl) rfl (ldG rfl rfl rfl rfl rfl (lhA [_, _, _] Z0f rfl rfl rfl) rfl (Za 2 rfl ?_))
 refine Z1M rfl rfl rfl rfl Z60 rfl rfl (Z3R t ht s hs r q true ba oa ca h0 hq g18.1.1 _ _) ?_
 refine bgT ?_
 refine Z1M rfl rfl rfl rfl Z1W rfl rfl (Z5U t ht _ (Zm ht hs (List.mem_of_getElem? hq) g18.2 (fun _ => g49)) ba oa ca bt bw m y fs hy _ _) ?_
 refine bgT (Za 3 rfl (Z1 ?_))
 exact rtA rfl rfl rfl ⟨by
     first
       | (simp [Zu, Twn.keeps, g18]; done)
       | (simp [Zu, Twn.keeps, g18.2]; omega)
       | (simp [Zu, Twn.keeps, g18.2, g39, g49, hc1]; try omega)
       | (simp [Zu, Twn.keeps, g18.2, g39, hc1]; try omega)
       | (simp [Zu, Twn.keeps, g18.2, g39]; try omega), rfl, rfl⟩ drp
 simp only [decide_eq_false_iff_not] at hc1
 refine Z5 (Z0 ?_)
 refine Z8 [0, 1, 3, 7, 15, 31, 63, 127, 7, 511, 1023, 2047, 4095, 8191, 16383, 32767, 8191, 73727, 204799, 466943, 8191, 8191, 4136959, 8388607, 8191, 33554431, 67108863, 134217727] (tks 0 7 (.ld 7 (.ld 8 (.big 9 (tks 10 9 (.ld 19 (.ld 20 (.tk 21 (.tk 24 (.big 22 (.big 23 (tks 25 3 .done)))))))))))) Zk (by kernel_rfl) ?_
 refine Za 3 rfl ?_
 refine ZR 39 rfl ?_ ?_ <;> intro g39
 simp only [decide_eq_true_eq] at g39
 refine Za 4 rfl ?_
 repeat refine ldN rfl rfl rfl rfl rfl rfl rfl rfl ?_
 refine spN rfl rfl rfl rfl rfl rfl rfl rfl ?_
 refine bgT (Za 9 rfl ?_)
 repeat refine ldN rfl rfl rfl rfl rfl rfl rfl rfl ?_
 refine Za 2 rfl ?_
 refine spN rfl rfl rfl rfl rfl rfl rfl rfl ?_
 refine bgT ?_
 refine spN rfl rfl rfl rfl rfl rfl rfl rfl ?_
 refine bgT (Za 3 rfl (Z1 ?_))
 exact rtA rfl rfl rfl ⟨by
     first
       | (simp [Zu, Twn.keeps, g18]; done)
       | (simp [Zu, Twn.keeps, g18.2]; omega)
       | (simp [Zu, Twn.keeps, g18.2, g39, g49, hc1]; try omega)
       | (simp [Zu, Twn.keeps, g18.2, g39, hc1]; try omega)
       | (simp [Zu, Twn.keeps, g18.2, g39]; try omega), rfl, rfl⟩ drp
 simp only [decide_eq_false_iff_not] at g39
 refine Za 1 rfl ?_
 refine tkG rfl rfl rfl rfl (PE.nilCheck rfl) rfl ?_
 refine tkG rfl rfl rfl rfl (PE.fA Z6v rfl) rfl ?_
 refine tkG rfl rfl rfl rfl (PE.fA Z6m rfl) rfl ?_
 refine ldG rfl rfl rfl rfl rfl (lh Zbr rfl rfl) rfl (ldG rfl rfl rfl rfl rfl (lhA [_, _, _] Z0f rfl rfl rfl) rfl ?_)
 refine Zb6 rfl rfl rfl rfl rfl (Z8X) rfl rfl (Z8U t s ba oa ca bt _ _) ?_
 refine bgT (Za 3 rfl ?_)
 refine ZR 49 rfl ?_ ?_ <;> intro g49
 simp only [Bool.not_eq_true', decide_eq_false_iff_not] at g49
 refine Za 6 rfl ?_
 repeat refine ldN rfl rfl rfl rfl rfl rfl rfl rfl ?_
 refine Za 2 rfl ?_
 refine spN rfl rfl rfl rfl rfl rfl rfl rfl ?_
 refine bgT ?_
 refine spN rfl rfl rfl rfl rfl rfl rfl rfl ?_
 refine bgT (Za 3 rfl (Z1 ?_))
 exact rtA rfl rfl rfl ⟨by
     first
       | (simp [Zu, Twn.keeps, g18]; done)
       | (simp [Zu, Twn.keeps, g18.2]; omega)
       | (simp [Zu, Twn.keeps, g18.2, g39, g49, hc1]; try omega)
       | (simp [Zu, Twn.keeps, g18.2, g39, hc1]; try omega)
       | (simp [Zu, Twn.keeps, g18.2, g39]; try omega), rfl, rfl⟩ drp
 simp only [Bool.not_eq_false', decide_eq_true_eq] at g49
 refine Za 1 rfl ?_
 refine tkG rfl rfl rfl rfl (PE.nilCheck rfl) rfl ?_
 refine tkG rfl rfl rfl rfl (PE.fA ZP rfl) rfl ?_
 refine Za 1 rfl ?_
 refine tkG rfl rfl rfl rfl (PE.nilCheck rfl) rfl ?_
 refine tkG rfl rfl rfl rfl (PE.fA Z2w rfl) rfl ?_
 refine ldG rfl rfl rfl rfl rfl (lhA [_, _, _, _, _, _, _, _, _, _, _] Z0l rfl rfl rfl) rfl (ldG rfl rfl rfl rfl rfl (lhA [_, _, _] Z0f rfl rfl rfl) rfl (Za 2 rfl ?_))
 refine Z1M rfl rfl rfl rfl Z60 rfl rfl (Z3R t ht s hs r q true ba oa ca h0 hq g18.1.1 _ _) ?_
 refine bgT ?_
 refine Z1M rfl rfl rfl rfl Z1W rfl rfl (Z5U t ht _ (Zm ht hs (List.mem_of_getElem? hq) g18.2 (fun _ => g49)) ba oa ca bt bw m y fs hy _ _) ?_
 refine bgT (Za 3 rfl (Z1 ?_))
 exact rtA rfl rfl rfl ⟨by
     first
       | (simp [Zu, Twn.keeps, g18]; done)
       | (simp [Zu, Twn.keeps, g18.2]; omega)
       | (simp [Zu, Twn.keeps, g18.2, g39, g49, hc1]; try omega)
       | (simp [Zu, Twn.keeps, g18.2, g39, hc1]; try omega)
       | (simp [Zu, Twn.keeps, g18.2, g39]; try omega), rfl, rfl⟩ drp
theorem ZbS (t : Twn) (ht : t.ok) (s : Sta) (hs : s.right t = true) (bads : Int) (hb : 0 ≤ bads ∧ bads ≤ 1000000) (ba oa ca : Nat) (bt bw m : Nat) (y : List Int) (fs : Value) (hy : y.length = 496) (H : Z7) (R : Z4) [hR : MemRows (some ⟨ba, oa, none⟩) 2 (rrows t.rats) R] [hT : MemRows (some ⟨bt, 0, none⟩) 11 [twl t (t.sl (some ⟨ba, oa, none⟩) ca)] R] [hW : Mem1 bw (cel 92 (rcs t (t.sl (some ⟨ba, oa, none⟩) ca) bt y fs m)) H] :
    FnV Try.prog 81 [.pointer (some ⟨bw, 0, none⟩), s.v, .int .i64 bads] H R (.bool (t.rats.any fun q => t.keeps y s q bads)) := by
 refine Zb Try.func81 rfl Try.ntmps81 rfl ?_
 refine sqt 2 rfl (bx rfl rfl rfl (fun b4 => pur 1 rfl (Z0 (sqt 7 rfl (pur 1 rfl (sp rfl (PE.nilCheck rfl) rfl (sp rfl (PE.fA Z2w rfl) rfl (sp rfl (PE.fA Z08 rfl) rfl (spL rfl rfl (lh Z1Z rfl rfl) rfl (sp rfl (PE.lenSl Z3I rfl) rfl (pur 1 rfl (Z3 ?_))))))))))))
 have hlen := ht.many
 refine Zj (ι := {k : Nat // k ≤ t.rats.length ∧ ∀ i q, i < k → t.rats[i]? = some q → t.keeps y s q bads = false}) (fun k => ⟨[(0, .pointer (some ⟨bw, 0, none⟩)), (2, .int .i64 bads), (4, .pointer (some ⟨b4, 0, none⟩)), (13, .int .i64 t.rats.length), (14, .int .i64 k.1)], (b4, cel 24 [.int .i64 s.stock, .int .i64 s.short, .int .i64 s.dry]) :: H, R⟩) (fun k => t.rats.length - k.1) ⟨0, by omega, by omega⟩ ?_ (fun k => ?_)
 exact Zr idH
 obtain ⟨k, hk1, hk2⟩ := k
 dsimp only
 refine sqt 1 rfl (pur 1 rfl (Z0 ?_))
 refine Z2 rfl ?_ ?_ <;> intro hc0
 simp only [cS] at hc0
 obtain ⟨q, hq⟩ : ∃ q, t.rats[k]? = some q := ⟨_, List.getElem?_eq_getElem (by omega)⟩
 refine Z5 (Z0 (Z3 (sqt 2 rfl (pur 2 rfl (sqt 5 rfl (pur 1 rfl (spL rfl rfl (lhA [_, _, _] Z0f rfl rfl rfl) rfl (pur 2 rfl ?_))))))))
 refine clV rfl Z7v rfl rfl (Z3A t ht s hs k q (by omega) (by simpa using hq) bads hb ba oa ca bt bw m y fs hy _ _) ?_
 refine Z2 rfl ?_ ?_ <;> intro hc1
 refine sqt 1 rfl (pur 1 rfl (Z1 ?_))
 exact rtA rfl rfl rfl ⟨by
     first
       | (have e : (t.rats.any fun q => t.keeps y s q bads) = true := List.any_eq_true.2 ⟨q, List.mem_of_getElem? hq, hc1⟩
          rw [e]; rfl)
       | (have e : (t.rats.any fun q => t.keeps y s q bads) = false := List.any_eq_false.2 fun q hq => by
           obtain ⟨i, hi⟩ := List.getElem?_of_mem hq
           simp [hk2 i q (List.getElem?_eq_some_iff.1 hi).1 hi]
          rw [e]; rfl), rfl, rfl⟩ drp
 refine Z5 (sqr 2 rfl (sp rfl (PE.add rfl rfl (by omega)) rfl (pur 1 rfl ?_)))
 exact Zt ⟨k + 1, by omega, fun i q' hi hq' => by
   rcases Nat.lt_or_ge i k with h1 | h1
   · exact hk2 i q' h1 hq'
   · obtain rfl : i = k := by omega
     rw [hq] at hq'; cases hq'; exact hc1⟩ (by dsimp only; omega) (by repeat' first | exact Sub.nil | apply Sub.cons | rfl | (simp [lk]; omega)) idH
 simp only [cS] at hc0
 obtain rfl : k = t.rats.length := by omega
 refine Zg (Zh (Zh (ZJ (sqt 1 rfl (pur 1 rfl (Z1 ?_))))))
 exact rtA rfl rfl rfl ⟨by
     first
       | (have e : (t.rats.any fun q => t.keeps y s q bads) = true := List.any_eq_true.2 ⟨q, List.mem_of_getElem? hq, hc1⟩
          rw [e]; rfl)
       | (have e : (t.rats.any fun q => t.keeps y s q bads) = false := List.any_eq_false.2 fun q hq => by
           obtain ⟨i, hi⟩ := List.getElem?_of_mem hq
           simp [hk2 i q (List.getElem?_eq_some_iff.1 hi).1 hi]
          rw [e]; rfl), rfl, rfl⟩ drp
theorem Z1v (t : Twn) (sl : Value) (H : Z7) (R : Z4) :
    Fn Try.prog 29 [t.v sl] H R (fun v H' R' => ∃ b, v = .func (.func 63) #[] #[.pointer (some ⟨b, 0, none⟩)] ∧ H' = H ∧ R' = RowsA (some ⟨b, 0, none⟩) 11 [twl t sl] :: R) := by
 refine Zb Try.func29 rfl Try.ntmps29 rfl ?_
 refine sqt 2 rfl (bx rfl rfl rfl (fun b1 => pur 1 rfl (sqt 2 rfl (sp rfl (PE.makeFunc rfl rfl) rfl (pur 1 rfl (Z1 ?_))))))
 exact rtA rfl rfl rfl ⟨_, rfl, rfl, rfl⟩ (fun w h => St.rows (sz := 11) (rows := [twl t sl]) (rest := []) h (by simp))
theorem Z0T (t : Twn) (ht : t.ok) (sl : Value) (b l : Nat) (I : Nat → Z7 → Z4 → Prop) (E : Z7 → Z4 → Prop) (hI : ∀ k H R, I k H R → RowsA (some ⟨b, 0, none⟩) 11 [twl t sl] ∈ R)
    (hy : ∀ k s H R, (sts t)[k]? = some s → I k H R → Yd Try.prog l [s.v] H R (fun v H' R' => (v = .bool true ∧ I (k + 1) H' R') ∨ (v = .bool false ∧ E H' R'))) (H : Z7) (R : Z4) (h0 : I 0 H R) :
    Fn Try.prog 63 [yv l, .pointer (some ⟨b, 0, none⟩)] H R (fun _ H' R' => I t.nst H' R' ∨ E H' R') := by
 have t1 := ht.holds
 have t2 := ht.patience
 have t3 := ht.run
 haveI : MemRows (some ⟨b, 0, none⟩) 11 [twl t sl] R := ⟨hI _ _ _ h0⟩
 refine Zb Try.func63 rfl Try.ntmps63 rfl ?_
 refine sqt 4 rfl (sp rfl (PE.fA Z2S rfl) rfl (spL rfl rfl (lfB (sz := 11) sc3 rfl) rfl (sp rfl (PE.add rfl rfl (by omega)) rfl (pur 1 rfl (Z3 ?_)))))
 refine Zj (ι := {x : Nat × Z7 × Z4 // x.1 ≤ t.holds.toNat + 1 ∧ I (x.1 * (t.patience.toNat + 1) * (t.run.toNat + 1)) x.2.1 x.2.2}) (fun x => ⟨[(0, yv l), (1, .pointer (some ⟨b, 0, none⟩)), (8, .int .i64 (t.holds + 1)), (9, .int .i64 x.1.1)], x.1.2.1, x.1.2.2⟩) (fun x => t.holds.toNat + 1 - x.1.1) ⟨(0, H, R), by omega, by simpa using h0⟩ ?_ (fun x => ?_)
 exact Zr idH
 obtain ⟨⟨k0, H0, R0⟩, hk0, hI0⟩ := x
 dsimp only at hk0 hI0 ⊢
 haveI : MemRows (some ⟨b, 0, none⟩) 11 [twl t sl] R0 := ⟨hI _ _ _ hI0⟩
 refine sqt 1 rfl (pur 1 rfl (Z0 ?_))
 refine Z2 rfl ?_ ?_ <;> intro hc0
 simp only [cS] at hc0
 refine Z5 (Z0 (Z3 (sqt 2 rfl (pur 2 rfl (sqt 4 rfl (sp rfl (PE.fA Z45 rfl) rfl (spL rfl rfl (lfB (sz := 11) sc3 rfl) rfl (sp rfl (PE.add rfl rfl (by omega)) rfl (pur 1 rfl (Z3 ?_))))))))))
 refine Zj (ι := {x : Nat × Z7 × Z4 // x.1 ≤ t.patience.toNat + 1 ∧ I ((k0 * (t.patience.toNat + 1) + x.1) * (t.run.toNat + 1)) x.2.1 x.2.2}) (fun x => ⟨[(0, yv l), (1, .pointer (some ⟨b, 0, none⟩)), (8, .int .i64 (t.holds + 1)), (9, .int .i64 k0), (3, .int .i64 k0), (14, .int .i64 (t.patience + 1)), (15, .int .i64 x.1.1)], x.1.2.1, x.1.2.2⟩) (fun x => t.patience.toNat + 1 - x.1.1) ⟨(0, H0, R0), by omega, by simpa using hI0⟩ ?_ (fun x => ?_)
 exact Zr idH
 obtain ⟨⟨k1, H1, R1⟩, hk1, hI1⟩ := x
 dsimp only at hk1 hI1 ⊢
 haveI : MemRows (some ⟨b, 0, none⟩) 11 [twl t sl] R1 := ⟨hI _ _ _ hI1⟩
 refine sqt 1 rfl (pur 1 rfl (Z0 ?_))
 refine Z2 rfl ?_ ?_ <;> intro hc1
 simp only [cS] at hc1
 refine Z5 (Z0 (Z3 (sqt 2 rfl (pur 2 rfl (sqt 4 rfl (sp rfl (PE.fA Z3U rfl) rfl (spL rfl rfl (lfB (sz := 11) sc3 rfl) rfl (sp rfl (PE.add rfl rfl (by omega)) rfl (pur 1 rfl (Z3 ?_))))))))))
 refine Zj (ι := {x : Nat × Z7 × Z4 // x.1 ≤ t.run.toNat + 1 ∧ I ((k0 * (t.patience.toNat + 1) + k1) * (t.run.toNat + 1) + x.1) x.2.1 x.2.2}) (fun x => ⟨[(0, yv l), (1, .pointer (some ⟨b, 0, none⟩)), (8, .int .i64 (t.holds + 1)), (9, .int .i64 k0), (3, .int .i64 k0), (14, .int .i64 (t.patience + 1)), (15, .int .i64 k1), (4, .int .i64 k1), (20, .int .i64 (t.run + 1)), (21, .int .i64 x.1.1)], x.1.2.1, x.1.2.2⟩) (fun x => t.run.toNat + 1 - x.1.1) ⟨(0, H1, R1), by omega, by simpa using hI1⟩ ?_ (fun x => ?_)
 exact Zr idH
 obtain ⟨⟨k2, H2, R2⟩, hk2, hI2⟩ := x
 dsimp only at hk2 hI2 ⊢
 refine sqt 1 rfl (pur 1 rfl (Z0 ?_))
 refine Z2 rfl ?_ ?_ <;> intro hc2
 simp only [cS] at hc2
 refine Z5 (Z0 (Z3 (sqt 2 rfl (pur 2 rfl (sqt 7 rfl (pur 4 rfl (sp rfl (PE.build (out := [_, _, _]) Z9W Z4M rfl rfl) rfl ?_)))))))
 refine clY rfl rfl rfl rfl (hy _ ⟨k0, k1, k2⟩ _ _ (by rw [Z4A (Z7q (by omega) (by omega) (by omega)), Z3u (by omega) (by omega)]) hI2) ?_
 rintro v H3 R3 (⟨rfl, hI3⟩ | ⟨rfl, hE3⟩)
 refine pur 1 rfl ?_
 refine ZF rfl ?_
 refine Z5 (sqr 2 rfl (sp rfl (PE.add rfl rfl (by omega)) rfl (pur 1 rfl ?_)))
 first | cases hc3 | exact ZG ⟨(k2 + 1, H3, R3), by omega, hI3⟩ (by dsimp only; omega) idH
 refine pur 1 rfl ?_
 refine Zw rfl ?_
 refine Z1 ?_
 first | cases hc3 | exact Z6 (vs := []) rfl .nil rfl (.inr hE3) idH
 simp only [cS] at hc2
 obtain rfl : k2 = t.run.toNat + 1 := by omega
 refine Zg (Zh (Zh (ZJ (sqr 2 rfl (sp rfl (PE.add rfl rfl (by omega)) rfl (pur 1 rfl ?_))))))
 exact ZC ⟨(k1 + 1, H2, R2), by omega, by rw [show k0 * (t.patience.toNat + 1) + (k1 + 1) = (k0 * (t.patience.toNat + 1) + k1) + 1 from rfl, Nat.succ_mul]; exact hI2⟩ idH
 simp only [cS] at hc1
 obtain rfl : k1 = t.patience.toNat + 1 := by omega
 refine Zg (Zh (Zh (ZJ (sqr 2 rfl (sp rfl (PE.add rfl rfl (by omega)) rfl (pur 1 rfl ?_))))))
 exact ZC ⟨(k0 + 1, H1, R1), by omega, by rw [Nat.succ_mul]; exact hI1⟩ idH
 simp only [cS] at hc0
 obtain rfl : k0 = t.holds.toNat + 1 := by omega
 refine Zg (Zh (Zh (ZJ ?_)))
 exact Z9j (vs := []) rfl .nil rfl (.inl hI0) idH
end Go.Proofs.Ythhdgeibokecjaa.Bd
namespace Go.Proofs.Ythhdgeibokecjaa.Bd
set_option linter.unusedSimpArgs false
set_option linter.unusedVariables false
structure Sv where
  y : List Int
  fl : List (Sta × Int)
def Z2F (y : List Int) (s : Sta) : Bool := decide (lat y s = 1000000)
def Z3P (t : Twn) (y : List Int) : Nat := (sts t).countP (Z2F y)
def Sv.step (t : Twn) (bads : Int) (σ : Sv) (s : Sta) : Sv := bif Z2F σ.y s && !(t.rats.any fun q => t.keeps σ.y s q bads) then ⟨σ.y.set s.ix (bads - 1), σ.fl ++ [(s, bads)]⟩ else σ
def pass (t : Twn) (bads : Int) (σ : Sv) : Sv := (sts t).foldl (Sv.step t bads) σ
def passes (t : Twn) (bads : Int) : Nat → Sv → Sv
  | 0, σ => σ
  | j + 1, σ => pass t bads (passes t bads j σ)
def Z65 (t : Twn) : List Int := (sts t).foldl (fun y s => y.set s.ix 1000000) (List.replicate 496 0)
inductive Rd (t : Twn) : Nat → Sv → Prop where
  | zero : Rd t 0 ⟨Z65 t, []⟩
  | next {n : Nat} {σ : Sv} (j : Nat) (h : Rd t n σ) (h1 : pass t n (passes t n j σ) = passes t n j σ) (h2 : passes t n j σ ≠ σ) : Rd t (n + 1) (passes t n j σ)
def Z4j (t : Twn) (σ : Sv) : Prop := ∃ n : Nat, Rd t n σ ∧ pass t n σ = σ
theorem Zz {y : List Int} {s : Sta} {v : Int} (h : s.ix < y.length) : lat (y.set s.ix v) s = v := by simp [lat, h]
theorem ZM {y : List Int} {s u : Sta} {v : Int} (h : s.ix ≠ u.ix) : lat (y.set s.ix v) u = lat y u := by
  simp only [lat, List.getD_eq_getElem?_getD, List.getElem?_set_ne h]
theorem Z3Q {α : Type} {p q : α → Bool} : ∀ {l : List α}, (∀ x ∈ l, p x = true → q x = true) → (∃ x ∈ l, q x = true ∧ p x = false) → l.countP p < l.countP q
  | [], _, ⟨_, h, _⟩ => by cases h
  | a :: l, h1, ⟨x, hx, hq, hp⟩ => by
    have hle : l.countP p ≤ l.countP q := List.countP_mono_left fun x hx hp => h1 x (by simp [hx]) hp
    rcases List.mem_cons.1 hx with rfl | hx
    · rw [List.countP_cons_of_pos hq, List.countP_cons_of_neg (by simp [hp])]; omega
    · have := Z3Q (l := l) (fun x hx => h1 x (by simp [hx])) ⟨x, hx, hq, hp⟩
      simp only [List.countP_cons]
      have h3 := h1 a (by simp)
      cases hpa : p a <;> cases hqa : q a <;> simp_all <;> omega
theorem Z1j (t : Twn) (n : Int) (σ : Sv) (s : Sta) : (σ.step t n s).y.length = σ.y.length := by
  unfold Sv.step; cases Z2F σ.y s && !(t.rats.any fun q => t.keeps σ.y s q n) <;> simp
theorem Z5d {t : Twn} (ht : t.ok) {n : Int} (hn : n ≤ 1000000) {σ : Sv} (hy : σ.y.length = 496) {s : Sta} (hs : s ∈ sts t) :
    σ.step t n s = σ ∨ (Z3P t (σ.step t n s).y < Z3P t σ.y ∧ (σ.step t n s).fl.length = σ.fl.length + 1) := by
  unfold Sv.step
  cases hc : Z2F σ.y s && !(t.rats.any fun q => t.keeps σ.y s q n) with
  | false => exact .inl rfl
  | true =>
    right
    simp only [Bool.and_eq_true] at hc
    have hix : s.ix < σ.y.length := by rw [hy]; exact Z1w ht (Ze ht hs)
    refine ⟨?_, by simp⟩
    refine Z3Q (fun u hu hp => ?_) ⟨s, hs, hc.1, ?_⟩
    · simp only [cond_true] at hp
      by_cases he : s.ix = u.ix
      · have := Z1o ht (Ze ht hs) (Ze ht hu) he
        subst this; exact hc.1
      · simp only [Z2F, ZM he] at hp
        exact hp
    · simp only [cond_true, Z2F, Zz hix]
      simp; omega
theorem Z3w (t : Twn) (n : Int) : ∀ (l : List Sta) (σ : Sv), (l.foldl (Sv.step t n) σ).y.length = σ.y.length
  | [], _ => rfl
  | s :: l, σ => by rw [List.foldl_cons, Z3w t n l, Z1j]
theorem Z22 {t : Twn} (ht : t.ok) {n : Int} (hn : n ≤ 1000000) : ∀ (l : List Sta) (σ : Sv), σ.y.length = 496 → (∀ s ∈ l, s ∈ sts t) →
    (l.foldl (Sv.step t n) σ = σ ∨ Z3P t (l.foldl (Sv.step t n) σ).y < Z3P t σ.y) ∧ (l.foldl (Sv.step t n) σ).fl.length + Z3P t (l.foldl (Sv.step t n) σ).y ≤ σ.fl.length + Z3P t σ.y
  | [], σ, _, _ => ⟨.inl rfl, Nat.le_refl _⟩
  | s :: l, σ, hy, hl => by
    rw [List.foldl_cons]
    have h1 := Z5d ht hn hy (hl s (by simp))
    obtain ⟨h2, h3⟩ := Z22 ht hn l (σ.step t n s) (by rw [Z1j]; exact hy) (fun u hu => hl u (by simp [hu]))
    rcases h1 with h1 | ⟨h1, h4⟩
    · rw [h1] at h2 h3 ⊢; exact ⟨h2, h3⟩
    · refine ⟨.inr ?_, by omega⟩
      rcases h2 with h2 | h2
      · rw [h2]; exact h1
      · omega
theorem ZT (t : Twn) (n : Int) : ∀ (j : Nat) (σ : Sv), (passes t n j σ).y.length = σ.y.length
  | 0, _ => rfl
  | j + 1, σ => by unfold passes; rw [pass, Z3w, ZT t n j]
theorem Z0n {t : Twn} (ht : t.ok) {n : Int} (hn : n ≤ 1000000) : ∀ (j : Nat) (σ : Sv), σ.y.length = 496 →
    (passes t n j σ = σ ∨ Z3P t (passes t n j σ).y < Z3P t σ.y) ∧ (passes t n j σ).fl.length + Z3P t (passes t n j σ).y ≤ σ.fl.length + Z3P t σ.y
  | 0, σ, _ => ⟨.inl rfl, Nat.le_refl _⟩
  | j + 1, σ, hy => by
    unfold passes
    obtain ⟨h1, h2⟩ := Z0n ht hn j σ hy
    obtain ⟨h3, h4⟩ := Z22 ht hn (sts t) (passes t n j σ) (by rw [ZT]; exact hy) (fun s hs => hs)
    refine ⟨?_, by unfold pass; omega⟩
    unfold pass
    rcases h1 with h1 | h1
    · rw [h1] at h3 ⊢; exact h3
    · right
      rcases h3 with h3 | h3
      · rw [h3]; exact h1
      · omega
theorem Z2c {t : Twn} (ht : t.ok) {n : Int} (hn : n ≤ 1000000) {j : Nat} {σ : Sv} (hy : σ.y.length = 496) (h : (passes t n j σ).y = σ.y) : passes t n j σ = σ := by
  rcases (Z0n ht hn j σ hy).1 with h1 | h1
  · exact h1
  · rw [h] at h1; omega
theorem Z6D {t : Twn} (ht : t.ok) {n : Int} (hn : n ≤ 1000000) {σ : Sv} (hy : σ.y.length = 496) (h : (pass t n σ).y = σ.y) : pass t n σ = σ := Z2c (j := 1) ht hn hy h
theorem Z6Q {t : Twn} (ht : t.ok) {n : Int} (hn : n ≤ 1000000) {σ : Sv} (hy : σ.y.length = 496) (h : (pass t n σ).y ≠ σ.y) : Z3P t (pass t n σ).y < Z3P t σ.y := by
  rcases (Z0n ht hn 1 σ hy).1 with h1 | h1
  · exact absurd (congrArg Sv.y h1) h
  · exact h1
theorem Z7j {t : Twn} {n : Int} {σ : Sv} (h : ∀ s, Z2F σ.y s = false) : pass t n σ = σ := by
  have : ∀ l : List Sta, l.foldl (Sv.step t n) σ = σ := by
    intro l
    induction l with
    | nil => rfl
    | cons s l ih => rw [List.foldl_cons, show σ.step t n s = σ from by simp [Sv.step, h s], ih]
  exact this _
theorem Z7b (s : Sta) : Z2F (List.replicate 496 0) s = false := by
  unfold Z2F lat
  rw [List.getD_eq_getElem?_getD, List.getElem?_replicate]
  split <;> simp
theorem Z4Z {t : Twn} (ht : t.ok) : t.nst ≤ 496 := by
  have h1 := ht.holds
  have h2 := ht.patience
  have h3 := ht.run
  have a := Nat.mul_le_mul (show t.holds.toNat + 1 ≤ 31 by omega) (show t.patience.toNat + 1 ≤ 4 by omega)
  have b := Nat.mul_le_mul a (show t.run.toNat + 1 ≤ 4 by omega)
  exact b
theorem Z2j : ∀ (l : List Sta) (y : List Int), (l.foldl (fun y s => y.set s.ix 1000000) y).length = y.length
  | [], _ => rfl
  | s :: l, y => by rw [List.foldl_cons, Z2j l]; simp
theorem Z5B {t : Twn} (ht : t.ok) {n : Nat} {σ : Sv} (h : Rd t n σ) : σ.y.length = 496 ∧ n + Z3P t σ.y ≤ 496 ∧ σ.fl.length + Z3P t σ.y ≤ 496 := by
  have h0 : ∀ y, Z3P t y ≤ 496 := fun y => Nat.le_trans (List.countP_le_length) (by rw [Z0F]; exact Z4Z ht)
  induction h with
  | zero => exact ⟨by rw [Z65, Z2j, List.length_replicate], by simpa using h0 _, by simpa using h0 _⟩
  | next j h h1 h2 ih =>
    rename_i m σ
    obtain ⟨i1, i2, i3⟩ := ih
    obtain ⟨a, b⟩ := Z0n (n := (m : Int)) ht (by omega) j σ i1
    refine ⟨by rw [ZT]; exact i1, ?_, by omega⟩
    rcases a with a | a
    · exact absurd a h2
    · omega
def Rg (n : Int) (v : Int) : Prop := v = 1000000 ∨ (-1 ≤ v ∧ v ≤ n)
theorem Z6i {t : Twn} (ht : t.ok) {n m : Int} (h0 : 0 ≤ n) (hm : n - 1 ≤ m) : ∀ (l : List Sta) (σ : Sv), σ.y.length = 496 → (∀ s ∈ l, s ∈ sts t) → (∀ s ∈ sts t, Rg m (lat σ.y s)) → ∀ s ∈ sts t, Rg m (lat (l.foldl (Sv.step t n) σ).y s)
  | [], _, _, _, h => h
  | u :: l, σ, hy, hl, h => by
    rw [List.foldl_cons]
    refine Z6i ht h0 hm l _ (by rw [Z1j]; exact hy) (fun s hs => hl s (by simp [hs])) ?_
    intro s hs
    unfold Sv.step
    cases Z2F σ.y u && !(t.rats.any fun q => t.keeps σ.y u q n) with
    | false => exact h s hs
    | true =>
      simp only [cond_true]
      by_cases he : u.ix = s.ix
      · have := Z1o ht (Ze ht (hl u (by simp))) (Ze ht hs) he
        subst this
        rw [Zz (by rw [hy]; exact Z1w ht (Ze ht hs))]
        exact .inr (by omega)
      · rw [ZM he]; exact h s hs
theorem Z3Z {t : Twn} (ht : t.ok) {n m : Int} (h0 : 0 ≤ n) (hm : n - 1 ≤ m) : ∀ (j : Nat) (σ : Sv), σ.y.length = 496 → (∀ s ∈ sts t, Rg m (lat σ.y s)) → ∀ s ∈ sts t, Rg m (lat (passes t n j σ).y s)
  | 0, _, _, h => h
  | j + 1, σ, hy, h => Z6i ht h0 hm (sts t) _ (by rw [ZT]; exact hy) (fun _ h => h) (Z3Z ht h0 hm j σ hy h)
theorem Z4c {t : Twn} (ht : t.ok) : ∀ (l : List Sta) (y : List Int), y.length = 496 → (∀ s ∈ l, s ∈ sts t) → ∀ s ∈ sts t, (s ∈ l ∨ lat y s = 1000000) → lat (l.foldl (fun y s => y.set s.ix 1000000) y) s = 1000000
  | [], _, _, _, _, _, h => by rcases h with h | h; cases h; exact h
  | u :: l, y, hy, hl, s, hs, h => by
    rw [List.foldl_cons]
    refine Z4c ht l _ (by simpa using hy) (fun s hs => hl s (by simp [hs])) s hs ?_
    by_cases he : u.ix = s.ix
    · right
      have := Z1o ht (Ze ht (hl u (by simp))) (Ze ht hs) he
      subst this
      exact Zz (by rw [hy]; exact Z1w ht (Ze ht hs))
    · rcases h with h | h
      · rcases List.mem_cons.1 h with rfl | h
        · exact absurd rfl he
        · exact .inl h
      · right; rw [ZM he]; exact h
theorem Z34 {t : Twn} (ht : t.ok) {s : Sta} (hs : s ∈ sts t) : lat (Z65 t) s = 1000000 :=
  Z4c ht (sts t) _ List.length_replicate (fun _ h => h) s hs (.inl hs)
theorem ZbZ {t : Twn} (ht : t.ok) {n : Nat} {σ : Sv} (h : Rd t n σ) : ∀ s ∈ sts t, Rg ((n : Int) - 1) (lat σ.y s) := by
  induction h with
  | zero => exact fun s hs => .inl (Z34 ht hs)
  | next j h h1 h2 ih =>
    rename_i m σ
    refine Z3Z ht (by omega) (by omega) j σ (Z5B ht h).1 (fun s hs => ?_)
    rcases ih s hs with h | h
    · exact .inl h
    · exact .inr (by omega)
theorem Z2Q {t : Twn} (ht : t.ok) {σ : Sv} (h : Z4j t σ) {s : Sta} (hs : s.right t = true) : lat σ.y s = 1000000 ∨ (-1 ≤ lat σ.y s ∧ lat σ.y s ≤ 496) := by
  obtain ⟨n, h, _⟩ := h
  have h1 := Z5B ht h
  rcases ZbZ ht h s (ZB hs) with h2 | h2
  · exact .inl h2
  · exact .inr (by omega)
open Go
theorem Z9e : Z2x Try.prog 89 = some 496 := by kernel_rfl
theorem Zdi : apT Try.prog 37 = some (51, 4, 32) := by kernel_rfl
theorem Z6C : cal Try.prog 29 = true := by kernel_rfl
theorem Z6A : cal Try.prog 63 = true := by kernel_rfl
theorem ZbY : cal Try.prog 81 = true := by kernel_rfl
theorem Zd4 : ZK Try.prog 37 = some 1 := by kernel_rfl
theorem Zb9 : ZK Try.prog 89 = some 496 := by kernel_rfl
theorem Zb0 : eqB Try.prog 10000 24 = some (true, 3) := by kernel_rfl
theorem Zaf : eqB Try.prog 10000 89 = some (true, 496) := by kernel_rfl
theorem ZaM : Try.prog.eqGuardType Try.prog.depth 89 = false := by kernel_rfl
theorem Z8E : Z00 Try.prog 92 3 = some 508 := by kernel_rfl
theorem ZaI : Z00 Try.prog 92 4 = some 509 := by kernel_rfl
theorem ZbU : Z4P Try.prog 90 = some (24, 3) := by kernel_rfl
theorem ZbP : Z2d Try.prog 10000 24 = true := by kernel_rfl
theorem Zdm : ZU Try.prog 51 = some [(0, 3), (3, 1)] := by kernel_rfl
theorem ZcT : Z0Z Try.prog 37 = true := by kernel_rfl
theorem Z1y : Z0Z Try.prog 81 = true := by kernel_rfl
theorem Zd3 : Z0Z Try.prog 90 = true := by kernel_rfl
theorem ZcY : slE Try.prog 37 = some (51, 4) := by kernel_rfl
theorem ZcN : Zy Try.prog 51 = some ([.int .i64 0, .int .i64 0, .int .i64 0, .int .i64 0]) := by kernel_rfl
theorem Zbg : Zy Try.prog 89 = some (List.replicate 496 (.int .i64 0)) := by kernel_rfl
def Zaj (p : Sta × Int) : List Value := [.int .i64 p.1.stock, .int .i64 p.1.short, .int .i64 p.1.dry, .int .i64 p.2]
def Z2o (l : List (Sta × Int)) : List (List Value) := l.map Zaj
def Z20 (l : List (Sta × Int)) : KV := l.foldl (fun kv p => kv.put [p.1.stock, p.1.short, p.1.dry] (.int .i64 p.2)) []
theorem Z8B : ∀ (l : List (Sta × Int)) (kv : KV), (∀ e ∈ kv, e.1.length = 3) → ∀ e ∈ l.foldl (fun (kv : KV) p => kv.put [p.1.stock, p.1.short, p.1.dry] (.int .i64 p.2)) kv, e.1.length = 3
  | [], _, h => h
  | p :: l, kv, h => by
    refine Z8B l _ ?_
    clear l
    induction kv with
    | nil => intro e he; simp only [KV.put, List.mem_singleton] at he; subst he; rfl
    | cons a kv ih =>
      intro e he
      obtain ⟨k', v'⟩ := a
      replace he : e ∈ bif decide (k' = [p.1.stock, p.1.short, p.1.dry]) then ([p.1.stock, p.1.short, p.1.dry], Value.int .i64 p.2) :: kv else (k', v') :: KV.put kv [p.1.stock, p.1.short, p.1.dry] (.int .i64 p.2) := he
      cases hc : decide (k' = [p.1.stock, p.1.short, p.1.dry]) <;> rw [hc] at he
      · rcases List.mem_cons.1 he with rfl | he
        · exact h _ (by simp)
        · exact ih (fun e he => h e (by simp [he])) e he
      · rcases List.mem_cons.1 he with rfl | he
        · rfl
        · exact h _ (by simp [he])
theorem Z89 (l : List (Sta × Int)) : ∀ e ∈ Z20 l, e.1.length = 3 := Z8B l [] (by simp)
theorem ZaW : Zy Try.prog 89 = some (Zc (List.replicate 496 0)) := by rw [Zbg, Zc, List.map_replicate]
structure SvI (t : Twn) where
  n : Nat
  σ : Sv
  ms : List Nat
  b3 : Nat
  o : OSl 51 4 (Z2o σ.fl)
  h : Rd t n σ
structure SvJ (t : Twn) (n : Nat) (σ : Sv) where
  j : Nat
  ms : List Nat
  b5 : Nat
  bf : List Int
  bl : bf.length = 496
  o : OSl 51 4 (Z2o (passes t n j σ).fl)
  h : (bf = List.replicate 496 0 ∧ j = 0) ∨ ∃ i, j = i + 1 ∧ bf = (passes t n i σ).y
theorem Z5V (t : Twn) (ht : t.ok) (ba oa ca : Nat) (bt bw m : Nat) (H : Z7) (R : Z4) [hR : MemRows (some ⟨ba, oa, none⟩) 2 (rrows t.rats) R] [hT : MemRows (some ⟨bt, 0, none⟩) 11 [twl t (t.sl (some ⟨ba, oa, none⟩) ca)] R] :
    Fn Try.prog 62 [.pointer (some ⟨bw, 0, none⟩)] ((bw, cel 92 (rcs t (t.sl (some ⟨ba, oa, none⟩) ca) bt (List.replicate 496 0) (.slice none 0 0) m)) :: (m, Z0k true []) :: H) R
      (fun _ H' R' => ∃ (σ : Sv) (o : OSl 51 4 (Z2o σ.fl)), Z4j t σ ∧ H' = o.G ++ (bw, cel 92 (rcs t (t.sl (some ⟨ba, oa, none⟩) ca) bt (σ.y) o.fs m)) :: (m, Z0k true (Z20 σ.fl)) :: H ∧ R' = R) := by
 refine Z57 Try.func62 rfl Try.ntmps62 rfl ?_
 refine sqt 1 rfl (bx rfl rfl rfl (fun b1 => Z0 (sqt 5 rfl (spL rfl rfl (lh Z1y rfl rfl) rfl (sp rfl (PE.nilCheck rfl) rfl (sp rfl (PE.fA Z2w rfl) rfl (spL rfl rfl (lhA [_, _, _, _, _, _, _, _, _, _, _] Z0l rfl rfl rfl) rfl ?_)))))))
 refine cl rfl Z6C rfl rfl (Z1v t (t.sl (some ⟨ba, oa, none⟩) ca) _ _) ?_
 rintro _ _ _ ⟨b11, rfl, rfl, rfl⟩
 refine Z3 ?_
 refine Z1u rfl Z6A (fun c0 bl0 bd0 hcp0 hca0 hcb0 hck0 => ?_)
 refine ⟨fun st pend T R' => st = .ready ∧ pend = none ∧ T = (bd0, .deferred (some [])) :: (b1, cel 81 [.pointer (some ⟨bw, 0, none⟩)]) :: (bw, cel 92 (rcs t (t.sl (some ⟨ba, oa, none⟩) ca) bt (Z65 t) (.slice none 0 0) m)) :: (m, Z0k true []) :: H ∧ R' = RowsA (some ⟨b11, 0, none⟩) 11 [twl t (t.sl (some ⟨ba, oa, none⟩) ca)] :: R,
   Fn.mono (Z0T t ht (t.sl (some ⟨ba, oa, none⟩) ca) b11 bl0 (fun k H' R' => H' = (bl0, lob c0 .ready none) :: (bd0, .deferred (some [])) :: (b1, cel 81 [.pointer (some ⟨bw, 0, none⟩)]) :: (bw, cel 92 (rcs t (t.sl (some ⟨ba, oa, none⟩) ca) bt (((sts t).take k).foldl (fun y s => y.set s.ix 1000000) (List.replicate 496 (0 : Int))) (.slice none 0 0) m)) :: (m, Z0k true []) :: H ∧ R' = RowsA (some ⟨b11, 0, none⟩) 11 [twl t (t.sl (some ⟨ba, oa, none⟩) ca)] :: R) (fun _ _ => False)
     (fun k H' R' h => by rw [h.2]; simp) (fun k s H' R' hk hI => ?_) _ _ ⟨rfl, rfl⟩) (fun v H' R' h => ?_), ?_⟩
 rotate_left
 · rcases h with ⟨rfl, rfl⟩ | h
   · rw [List.take_of_length_le (by rw [Z0F]; exact Nat.le_refl _)]
     exact ⟨.ready, none, _, by simp, .refl _, rfl, rfl, rfl, rfl⟩
   · exact h.elim
 rotate_left
 obtain ⟨rfl, rfl⟩ := hI
 have hs := Ze ht (List.mem_of_getElem? hk)
 have hix := Z1w ht hs
 have q1 := right_iff.1 hs
 have t1 := ht.holds
 have t2 := ht.patience
 have t3 := ht.run
 have e : ((sts t).take (k + 1)).foldl (fun y s => y.set s.ix 1000000) (List.replicate 496 (0 : Int)) = (((sts t).take k).foldl (fun y s => y.set s.ix 1000000) (List.replicate 496 (0 : Int))).set s.ix 1000000 := by rw [List.take_add_one, hk, Option.toList_some, List.foldl_append]; rfl
 rw [e]
 have hyl : (((sts t).take k).foldl (fun y s => y.set s.ix 1000000) (List.replicate 496 (0 : Int))).length = 496 := by rw [Z2j, List.length_replicate]
 generalize ((sts t).take k).foldl (fun y s => y.set s.ix 1000000) (List.replicate 496 (0 : Int)) = y at *
 refine Z70 hcp0 hca0 hcb0 hck0 rfl ?_
 refine sqr 2 rfl (alc rfl Z4M rfl (fun b2 => ?_))
 refine sto rfl rfl rfl Z5m rfl rfl rfl rfl ?_
 refine ZY ?_
 refine Z3 ?_
 refine Z8 [0, 0, 2, 0, 8, 0, 32, 1, 129, 391, 927, 2047, 4095] (.ld 0 (.tk 1 (.ld 2 (.tk 3 (.ld 4 (.tk 5 (.ld 6 (tks 7 5 (.big 12 .done))))))))) Zk (by kernel_rfl) ?_
 refine ld rfl rfl (lh Z1y rfl rfl) rfl (tk rfl (PE.fA Z0M rfl) rfl (ld rfl rfl (lh sc3 rfl rfl) rfl (tk rfl (PE.fA Z0u rfl) rfl (ld rfl rfl (lh sc3 rfl rfl) rfl (tk rfl (PE.fA Z10 rfl) rfl (ld rfl rfl (lh sc3 rfl rfl) rfl (tk rfl (PE.nilCheck rfl) rfl (tk rfl (PE.fA ZP rfl) rfl (tk rfl (PE.indexArr Z9O rfl rfl (by omega) (by omega)) rfl (tk rfl (PE.indexArr Z9Y rfl rfl (by omega) (by omega)) rfl (tk rfl (PE.indexArr Z16 rfl rfl (by omega) (by omega)) rfl ?_)))))))))))
 refine Z1S rfl rfl rfl cn3 rfl rfl rfl (Z4f 1000000 (i := s.ix) (by omega) (by unfold Sta.ix; omega)) (by rw [Z2f hyl]; show _ + 1 ≤ 510; omega) ?_
 refine bgT ?_
 exact Zs (.inl ⟨rfl, rfl, rfl⟩) (fun _ h => by repeat first | exact h | replace h := St.tail h | replace h := St.ftail h | replace h := St.drop h)
 ·
  rintro _ _ _ _ ⟨rfl, rfl, rfl, rfl⟩
  refine Z6T ?_
  refine sqt 2 rfl (alc rfl zl3 rfl (fun b3 => ?_))
  refine sto rfl rfl rfl cn3 rfl rfl rfl rfl ?_
  refine Z3 ?_
  refine Z59 (ι := SvI t) (fun x => ⟨[(1, .pointer (some ⟨b1, 0, none⟩)), (3, .pointer (some ⟨x.b3, 0, none⟩))], mks x.ms, mkh x.ms ++ (x.b3, cel 3 [.int .i64 x.n]) :: (b1, cel 81 [.pointer (some ⟨bw, 0, none⟩)]) :: (x.o.G ++ (bw, cel 92 (rcs t (t.sl (some ⟨ba, oa, none⟩) ca) bt (x.σ.y) x.o.fs m)) :: (m, Z0k true (Z20 x.σ.fl)) :: H), R⟩) (fun x => Z3P t x.σ.y) ⟨0, ⟨Z65 t, []⟩, [bd0], b3, OSl.nil _ _, .zero⟩ ?_ (fun x => ?_)
  ·
   exact Z8m (by repeat' first | exact Sub.nil | apply Sub.cons | rfl | (simp [lk]; omega)) rfl (fun w h => (h.perm (.swap _ _ _)).ftail)
  ·
   obtain ⟨n, σ, ms, b3, o, hrd⟩ := x
   dsimp only
   obtain ⟨hyl, hcn, hfl⟩ := Z5B ht hrd
   have hn6 : (n : Int) ≤ 1000000 := by omega
   refine Z0 (Z3 (sqt 6 rfl (spL rfl rfl (lh Z1y rfl rfl) rfl (sp rfl (PE.nilCheck rfl) rfl (sp rfl (PE.fA ZP rfl) rfl (spL rfl rfl (lhA (Zc σ.y) Z9e rfl rfl (by rw [ints_length]; exact hyl)) rfl (alc rfl Zbg rfl (fun b4 => ?_))))))))
   refine Z2H rfl rfl rfl Zb9 rfl (by rw [ints_length]; exact hyl) List.length_replicate (Zq _) ?_
   refine Z0 (sqt 3 rfl (sp rfl (PE.zero (l := Zc (List.replicate 496 0)) (.inr (by rw [Z9O]; rfl)) ZaW) rfl (alc rfl Zbg rfl (fun b5 => ?_))))
   refine Z2H rfl rfl rfl Zb9 rfl (by rw [ints_length, List.length_replicate]) List.length_replicate (Zq _) ?_
   refine Z3 ?_
   refine Z59 (ι := SvJ t n σ) (fun x => ⟨[(1, .pointer (some ⟨b1, 0, none⟩)), (3, .pointer (some ⟨b3, 0, none⟩)), (4, .pointer (some ⟨b4, 0, none⟩)), (5, .pointer (some ⟨x.b5, 0, none⟩))], mks x.ms, mkh x.ms ++ (x.b5, cel 89 (Zc x.bf)) :: (b4, cel 89 (Zc σ.y)) :: (b3, cel 3 [.int .i64 n]) :: (b1, cel 81 [.pointer (some ⟨bw, 0, none⟩)]) :: (x.o.G ++ (bw, cel 92 (rcs t (t.sl (some ⟨ba, oa, none⟩) ca) bt ((passes t n x.j σ).y) x.o.fs m)) :: (m, Z0k true (Z20 ((passes t n x.j σ)).fl)) :: H), R⟩)
     (fun x => 2 * Z3P t (passes t n x.j σ).y + if x.bf = (passes t n x.j σ).y then 0 else 1) ⟨0, ms, b5, List.replicate 496 0, List.length_replicate, o, .inl ⟨rfl, rfl⟩⟩ ?_ (fun x => ?_)
   exact Z8m (by repeat' first | exact Sub.nil | apply Sub.cons | rfl | (simp [lk]; omega)) rfl (fun w h => h.perm (ZN [_, _] _ _))
   ·
    obtain ⟨j, ms, b5, bf, hbl, o, hbf⟩ := x
    dsimp only
    have hyj : (passes t n j σ).y.length = 496 := by rw [ZT]; exact hyl
    obtain ⟨hpc, hpf⟩ := Z0n (n := (n : Int)) ht hn6 j σ hyl
    refine Z0 (Z0 ?_)
    refine Z8 [0, 0, 2, 6, 14, 31] (.ld 0 (.ld 1 (.tk 2 (.tk 3 (.ld 4 (.tk 5 .done)))))) Zk (by kernel_rfl) ?_
    refine ld rfl rfl (lhA (rest := []) (Zc bf) Z9e rfl (by simp) (by rw [ints_length]; exact hbl)) rfl (ld rfl rfl (lh Z1y rfl rfl) rfl (tk rfl (PE.nilCheck rfl) rfl (tk rfl (PE.fA ZP rfl) rfl (ld rfl rfl (lhA (Zc (passes t n j σ).y) Z9e rfl rfl (by rw [ints_length]; exact hyj)) rfl (tk rfl (PE.neqAgg bf (passes t n j σ).y (Z0p 10000 89 true 496 Zaf) ZaM rfl rfl hbl hyj) rfl ?_)))))
    refine Z2 rfl ?_ ?_ <;> intro hc0
    ·
     have hne : bf ≠ (passes t n j σ).y := by simpa using hc0
     refine Z5 (Z0 (Z3 (sqt 5 rfl (spL rfl rfl (lh Z1y rfl rfl) rfl (sp rfl (PE.nilCheck rfl) rfl (sp rfl (PE.fA ZP rfl) rfl (spL rfl rfl (lhA (Zc (passes t n j σ).y) Z9e rfl rfl (by rw [ints_length]; exact hyj)) rfl ?_)))))))
     refine Z2H rfl rfl rfl Zb9 rfl (by rw [ints_length]; exact hyj) (by rw [ints_length]; exact hbl) (Zq _) ?_
     refine sqt 5 rfl (spL rfl rfl (lh Z1y rfl rfl) rfl (sp rfl (PE.nilCheck rfl) rfl (sp rfl (PE.fA Z2w rfl) rfl (spL rfl rfl (lhA [_, _, _, _, _, _, _, _, _, _, _] Z0l rfl rfl rfl) rfl ?_))))
     refine cl rfl Z6C rfl rfl (Z1v t (t.sl (some ⟨ba, oa, none⟩) ca) _ _) ?_
     rintro _ _ _ ⟨b46, rfl, rfl, rfl⟩
     refine Z3 ?_
     refine Z1u rfl Z6A (fun c1 bl1 bd1 hcp1 hca1 hcb1 hck1 => ?_)
     refine ⟨fun st pend T R' => st = .ready ∧ pend = none ∧ ∃ o' : OSl 51 4 (Z2o (pass t n (passes t n j σ)).fl), T = (bd1, .deferred (some [])) :: (mkh ms ++ (b5, cel 89 (Zc (passes t n j σ).y)) :: (b4, cel 89 (Zc σ.y)) :: (b3, cel 3 [.int .i64 n]) :: (b1, cel 81 [.pointer (some ⟨bw, 0, none⟩)]) :: (o'.G ++ (bw, cel 92 (rcs t (t.sl (some ⟨ba, oa, none⟩) ca) bt ((pass t n (passes t n j σ)).y) o'.fs m)) :: (m, Z0k true (Z20 ((pass t n (passes t n j σ))).fl)) :: H)) ∧ R' = RowsA (some ⟨b46, 0, none⟩) 11 [twl t (t.sl (some ⟨ba, oa, none⟩) ca)] :: R,
       Fn.mono (Z0T t ht (t.sl (some ⟨ba, oa, none⟩) ca) b46 bl1 (fun k H' R' => ∃ o' : OSl 51 4 (Z2o (((sts t).take k).foldl (Sv.step t n) (passes t n j σ)).fl), H' = (bl1, lob c1 .ready none) :: (bd1, .deferred (some [])) :: (mkh ms ++ (b5, cel 89 (Zc (passes t n j σ).y)) :: (b4, cel 89 (Zc σ.y)) :: (b3, cel 3 [.int .i64 n]) :: (b1, cel 81 [.pointer (some ⟨bw, 0, none⟩)]) :: (o'.G ++ (bw, cel 92 (rcs t (t.sl (some ⟨ba, oa, none⟩) ca) bt ((((sts t).take k).foldl (Sv.step t n) (passes t n j σ)).y) o'.fs m)) :: (m, Z0k true (Z20 ((((sts t).take k).foldl (Sv.step t n) (passes t n j σ))).fl)) :: H)) ∧ R' = RowsA (some ⟨b46, 0, none⟩) 11 [twl t (t.sl (some ⟨ba, oa, none⟩) ca)] :: R) (fun _ _ => False)
         (fun k H' R' h => by obtain ⟨_, _, h⟩ := h; rw [h]; simp) (fun k s H' R' hk hI => ?_) _ _ ⟨o, rfl, rfl⟩) (fun v H' R' h => ?_), ?_⟩
     rotate_left
     · rw [List.take_of_length_le (show (sts t).length ≤ t.nst by rw [Z0F]; exact Nat.le_refl _)] at h
       rcases h with ⟨o', rfl, rfl⟩ | h
       · exact ⟨.ready, none, _, by simp, .refl _, rfl, rfl, o', rfl, rfl⟩
       · exact h.elim
     rotate_left
     have hs := Ze ht (List.mem_of_getElem? hk)
     have hix := Z1w ht hs
     have q1 := right_iff.1 hs
     have t1 := ht.holds
     have t2 := ht.patience
     have t3 := ht.run
     have e : ((sts t).take (k + 1)).foldl (Sv.step t n) (passes t n j σ) = (((sts t).take k).foldl (Sv.step t n) (passes t n j σ)).step t n s := by rw [List.take_add_one, hk, Option.toList_some, List.foldl_append]; rfl
     rw [e]
     obtain ⟨_, hkf⟩ := Z22 (n := (n : Int)) ht hn6 ((sts t).take k) (passes t n j σ) hyj (fun s h => List.mem_of_mem_take h)
     have hyk : (((sts t).take k).foldl (Sv.step t n) (passes t n j σ)).y.length = 496 := by rw [Z3w]; exact hyj
     clear e
     generalize ((sts t).take k).foldl (Sv.step t n) (passes t n j σ) = υ at *
     obtain ⟨o, rfl, rfl⟩ := hI
     refine Z70 hcp1 hca1 hcb1 hck1 rfl ?_
     refine sqr 2 rfl (alc rfl Z4M rfl (fun b6 => ?_))
     refine sto rfl rfl rfl Z5m rfl rfl rfl rfl ?_
     refine ZY ?_
     refine Z3 (Z0 ?_)
     refine Z8 [0, 1, 3, 0, 15, 31, 63, 127, 127, 127, 1023, 2047, 4095] (.ld 0 (.tk 1 (.tk 2 (.ld 3 (.big 4 (.tk 5 (.tk 6 (.ld 7 (.ld 8 (.ld 9 (.big 10 (.tk 11 (.tk 12 .done))))))))))))) Zk (by kernel_rfl) ?_
     refine ld rfl rfl (lh Z1y rfl rfl) rfl (tk rfl (PE.nilCheck rfl) rfl (tk rfl (PE.fA ZP rfl) rfl (ld rfl rfl (lhA [_, _, _] Z0f rfl rfl rfl) rfl ?_)))
     refine clV rfl Z1W rfl rfl (Z5U t ht s hs ba oa ca bt bw m υ.y o.fs hyk _ _) ?_
     refine bgT (Za 2 rfl ?_)
     refine ZR 54 rfl ?_ ?_ <;> intro g54
     refine ldG rfl rfl rfl rfl rfl (lh Z1y rfl rfl) rfl (ldG rfl rfl rfl rfl rfl (lhA [_, _, _] Z0f rfl rfl rfl) rfl (ldG rfl rfl rfl rfl rfl (lh sc3 rfl rfl) rfl ?_))
     refine Z1M rfl rfl rfl rfl ZbY rfl rfl (ZbS t ht s hs n (by omega) ba oa ca bt bw m υ.y o.fs hyk _ _) ?_
     refine bgT (Za 2 rfl ?_)
     refine Z2 rfl ?_ ?_ <;> intro hc1
     have e : υ.step t n s = ⟨υ.y.set s.ix (n - 1), υ.fl ++ [(s, (n : Int))]⟩ := by simp [Sv.step, Z2F, g54, hc1]
     rw [e]
     refine Z0 ?_
     refine Z8 [0, 0, 2, 0, 8, 0, 32, 0, 128, 1, 513, 1543, 3615, 8191, 16383] (.ld 0 (.tk 1 (.ld 2 (.tk 3 (.ld 4 (.tk 5 (.ld 6 (.ld 7 (tks 8 6 (.big 14 .done)))))))))) Zk (by kernel_rfl) ?_
     refine ld rfl rfl (lh Z1y rfl rfl) rfl (tk rfl (PE.fA Z0M rfl) rfl (ld rfl rfl (lh sc3 rfl rfl) rfl (tk rfl (PE.fA Z0u rfl) rfl (ld rfl rfl (lh sc3 rfl rfl) rfl (tk rfl (PE.fA Z10 rfl) rfl (ld rfl rfl (lh sc3 rfl rfl) rfl (ld rfl rfl (lh sc3 rfl rfl) rfl (tk rfl (PE.sub rfl rfl (by omega)) rfl (tk rfl (PE.nilCheck rfl) rfl (tk rfl (PE.fA ZP rfl) rfl (tk rfl (PE.indexArr Z9O rfl rfl (by omega) (by omega)) rfl (tk rfl (PE.indexArr Z9Y rfl rfl (by omega) (by omega)) rfl (tk rfl (PE.indexArr Z16 rfl rfl (by omega) (by omega)) rfl ?_)))))))))))))
     refine Z1S rfl rfl rfl cn3 rfl rfl rfl (Z4f _ (i := s.ix) (by omega) (by unfold Sta.ix; omega)) (by rw [Z2f hyk]; show _ + 1 ≤ 510; omega) ?_
     refine bgT (Z0 ?_)
     refine Z8 [0, 0, 2, 6, 14, 0, 0, 96, 224, 510, 1023, 2047, 4095] (.ld 0 (.ld 1 (.tk 2 (.tk 3 (.ld 4 (.ld 5 (.ld 6 (.tk 7 (.big 8 (.big 9 (.tk 10 (.tk 11 (.big 12 .done))))))))))))) Zk (by kernel_rfl) ?_
     refine ld rfl rfl (lh Z1y rfl rfl) rfl (ld rfl rfl (lh Z1y rfl rfl) rfl (tk rfl (PE.nilCheck rfl) rfl (tk rfl (PE.fA Z8E rfl) rfl (ld rfl rfl (lh ZcT rfl (Z54 (by simpa using hyk))) rfl (ld rfl rfl (lhA [_, _, _] Z0f rfl rfl rfl) rfl (ld rfl rfl (lh sc3 rfl rfl) rfl (tk rfl (PE.build (out := [_, _, _, _]) Zdm ZcN rfl rfl) rfl ?_)))))))
     refine bsl (out := [_, _, _, _]) rfl ZcY ZcN rfl rfl rfl rfl rfl rfl (fun b83 => ?_)
     refine bg (fun w hs => ⟨trivial, trivial, (lh ZcT rfl (Z54 (by simpa using hyk))) w hs, (lh Z1y rfl rfl) w hs, (lh Z1y rfl rfl) w hs, trivial⟩) ?_
     refine apO (o) rfl Zdi rfl rfl (Z4L (row := Zaj (s, (n : Int))) rfl) rfl rfl (⟨by simp only [Z2o, List.length_map, List.length_singleton]; omega, by simp only [Z2o, List.length_map, List.length_singleton]; omega⟩) rfl (fun o84 => ?_)
     refine bg (fun w hs => ⟨trivial, trivial, (lh Z1y rfl rfl) w hs, trivial⟩) ?_
     refine tk rfl (PE.nilCheck rfl) rfl (tk rfl (PE.fA Z8E rfl) rfl ?_)
     refine Z1S (l' := rcs t (t.sl (some ⟨ba, oa, none⟩) ca) bt (υ.y.set s.ix (n - 1)) o84.fs m) rfl rfl rfl Zd4 rfl (by rw [o84.cells.1]; first | done | rfl) (by rw [o84.cells.1]; simp [o84.cells.2]) (by rw [o84.cells.1]; exact Z8I _ (by simpa using hyk)) (by rw [o84.cells.1, Z2f (by simpa using hyk)]; show 508 + 1 ≤ 510; omega) ?_
     refine bgT ?_
     refine Z8 [0, 1, 3, 7, 0, 0, 63] (.ld 0 (.tk 1 (.tk 2 (.ld 3 (.ld 4 (.ld 5 (.big 6 .done))))))) Zk (by kernel_rfl) ?_
     refine ld rfl rfl (lh Z1y rfl rfl) rfl (tk rfl (PE.nilCheck rfl) rfl (tk rfl (PE.fA ZaI rfl) rfl (ld rfl rfl (lh Zd3 rfl (Z9G (by simpa using hyk))) rfl (ld rfl rfl (lhA [_, _, _] Z0f rfl rfl rfl) rfl (ld rfl rfl (lh sc3 rfl rfl) rfl ?_)))))
     refine mpu (Z20 υ.fl) [s.stock, s.short, s.dry] rfl ZbU (KeyT.of Zb0 ZbP) rfl rfl rfl rfl (Z89 _) ?_
     refine bgT ?_
     first
       | exact Zs (.inl ⟨rfl, o, rfl, rfl⟩) (fun _ h => by repeat first | exact h | replace h := St.tail h | replace h := St.ftail h | replace h := St.drop h)
       | exact Zs (.inl ⟨rfl, o84.cast (by simp [Z2o, Zaj]), rfl, rfl⟩) (fun w h => by
           have e2 : Z20 (υ.fl ++ [(s, (n : Int))]) = (Z20 υ.fl).put [s.stock, s.short, s.dry] (.int .i64 n) := by simp only [Z20, List.foldl_append, List.foldl_cons, List.foldl_nil]
           simp only [e2]
           repeat first | exact h | replace h := St.tail h)
     have e : υ.step t n s = υ := by simp [Sv.step, hc1]
     rw [e]
     refine Z5 ?_
     first
       | exact Zs (.inl ⟨rfl, o, rfl, rfl⟩) (fun _ h => by repeat first | exact h | replace h := St.tail h | replace h := St.ftail h | replace h := St.drop h)
       | exact Zs (.inl ⟨rfl, o84.cast (by simp [Z2o, Zaj]), rfl, rfl⟩) (fun w h => by
           have e2 : Z20 (υ.fl ++ [(s, (n : Int))]) = (Z20 υ.fl).put [s.stock, s.short, s.dry] (.int .i64 n) := by simp only [Z20, List.foldl_append, List.foldl_cons, List.foldl_nil]
           simp only [e2]
           repeat first | exact h | replace h := St.tail h)
     have e : υ.step t n s = υ := by simp [Sv.step, Z2F, g54]
     rw [e]
     repeat refine ldN rfl rfl rfl rfl rfl rfl rfl rfl ?_
     refine spN rfl rfl rfl rfl rfl rfl rfl rfl ?_
     refine bgT (Za 2 rfl ?_)
     refine ZF rfl ?_
     refine Z5 ?_
     first
       | exact Zs (.inl ⟨rfl, o, rfl, rfl⟩) (fun _ h => by repeat first | exact h | replace h := St.tail h | replace h := St.ftail h | replace h := St.drop h)
       | exact Zs (.inl ⟨rfl, o84.cast (by simp [Z2o, Zaj]), rfl, rfl⟩) (fun w h => by
           have e2 : Z20 (υ.fl ++ [(s, (n : Int))]) = (Z20 υ.fl).put [s.stock, s.short, s.dry] (.int .i64 n) := by simp only [Z20, List.foldl_append, List.foldl_cons, List.foldl_nil]
           simp only [e2]
           repeat first | exact h | replace h := St.tail h)
     rintro _ _ _ _ ⟨rfl, rfl, o', rfl, rfl⟩
     refine Z6T ?_
     refine sqt 1 rfl (spL rfl rfl (lhA (rest := []) (Zc (passes t n j σ).y) Z9e rfl (by simp) (by rw [ints_length]; exact hyj)) rfl (sqr 2 rfl (alc rfl Zbg rfl (fun b5 => ?_))))
     refine Z2H rfl rfl rfl Zb9 rfl (by rw [ints_length]; exact hyj) List.length_replicate (Zq _) ?_
     exact Z5p ⟨j + 1, bd1 :: ms, _, (passes t n j σ).y, hyj, o', .inr ⟨j, rfl, rfl⟩⟩ (by
       dsimp only
       rw [if_neg hne]
       by_cases he : (passes t n j σ).y = (passes t n (j + 1) σ).y
       · rw [if_pos he, ← he]; omega
       · rw [if_neg he]
         have := Z6Q (σ := passes t n j σ) ht hn6 hyj (Ne.symm he)
         show 2 * Z3P t (pass t n (passes t n j σ)).y + 1 < _
         omega) (by repeat' first | exact Sub.nil | apply Sub.cons | rfl | (simp [lk]; omega)) rfl (fun w h => (St.tail (h.perm (Z55 [_] (mkh (bd1 :: ms)) [_] _))).ftail)
    have hbe : bf = (passes t n j σ).y := by simpa using hc0
    have hfix : pass t n (passes t n j σ) = passes t n j σ := by
      rcases hbf with ⟨hb1, rfl⟩ | ⟨i, rfl, hb1⟩
      · exact Z7j (fun s => by rw [← hbe, hb1]; exact Z7b s)
      · have e := Z6D (σ := passes t n i σ) ht hn6 (by rw [ZT]; exact hyl) (by rw [← hb1, hbe]; rfl)
        show pass t n (pass t n (passes t n i σ)) = pass t n (passes t n i σ)
        rw [e]; exact e
    refine Zg (Zh (Zh (ZJ (Z0 ?_))))
    refine Z8 [0, 0, 2, 6, 14, 31] (.ld 0 (.ld 1 (.tk 2 (.tk 3 (.ld 4 (.tk 5 .done)))))) Zk (by kernel_rfl) ?_
    refine ld rfl rfl (lhA (rest := []) (Zc σ.y) Z9e rfl (by simp) (by rw [ints_length]; exact hyl)) rfl (ld rfl rfl (lh Z1y rfl rfl) rfl (tk rfl (PE.nilCheck rfl) rfl (tk rfl (PE.fA ZP rfl) rfl (ld rfl rfl (lhA (Zc (passes t n j σ).y) Z9e rfl rfl (by rw [ints_length]; exact hyj)) rfl (tk rfl (PE.eqlAgg σ.y (passes t n j σ).y (Z0p 10000 89 true 496 Zaf) ZaM rfl rfl hyl hyj) rfl ?_)))))
    refine Z2 rfl ?_ ?_ <;> intro hc2
    have hsame := Z2c (n := (n : Int)) (j := j) ht hn6 hyl (by simpa using hc2 : σ.y = _).symm
    refine Z1 ?_
    exact Z9 ms idH rfl .nil rfl ⟨passes t n j σ, o, ⟨n, by rw [hsame]; exact hrd, hfix⟩, rfl, rfl⟩ drp
    have hdiff : passes t n j σ ≠ σ := fun e => by rw [e] at hc2; simp at hc2
    refine Z5 (Z0 (sqt 1 rfl (spL rfl rfl (lh sc3 rfl rfl) rfl (sqr 2 rfl (alc rfl zl3 rfl (fun b3 => ?_))))))
    refine sto rfl rfl rfl cn3 rfl rfl rfl rfl ?_
    refine sqr 3 rfl (spL rfl rfl (lh sc3 rfl rfl) rfl (sp rfl (PE.add rfl rfl (by omega)) rfl ?_))
    refine sto rfl rfl rfl cn3 rfl rfl rfl rfl ?_
    exact Z5p ⟨n + 1, passes t n j σ, ms, _, o, .next j hrd hfix hdiff⟩ (by
      rcases hpc with h | h
      · exact absurd h hdiff
      · exact h) (by repeat' first | exact Sub.nil | apply Sub.cons | rfl | (simp [lk]; omega)) rfl (fun w h => St.drop (G := [_, _, _]) (h.perm (Z55 [_] _ [_, _, _] _)))
theorem Zbi : apT Try.prog 73 = some (3, 1, 8) := by kernel_rfl
theorem Z9a : cal Try.prog 27 = true := by kernel_rfl
theorem Z8e : cal Try.prog 40 = true := by kernel_rfl
theorem ZaY : cal Try.prog 62 = true := by kernel_rfl
theorem Z2D {t : Twn} (ht : t.ok) {σ : Sv} (h : Z4j t σ) : σ.y.length = 496 := by
  obtain ⟨n, h, _⟩ := h
  exact (Z5B ht h).1
def SvQ (t : Twn) (sl : Value) (H : Z7) (R : Z4) : Value → Z7 → Z4 → Prop := fun v H' R' =>
  (t.check ≠ 0 ∧ v = .tuple #[.pointer none, .int .i64 t.check] ∧ H' = H ∧ R' = R) ∨
  (t.check = 0 ∧ ∃ (bw m bt : Nat) (σ : Sv) (o : OSl 51 4 (Z2o σ.fl)), Z4j t σ ∧ v = .tuple #[.pointer (some ⟨bw, 0, none⟩), .int .i64 0] ∧
    H' = o.G ++ (bw, cel 92 (rcs t sl bt σ.y o.fs m)) :: (m, Z0k true (Z20 σ.fl)) :: H ∧ R' = RowsA (some ⟨bt, 0, none⟩) 11 [twl t sl] :: R)
def Z1Y (p : Rn → Bool) (l : List Rn) (k : Nat) : List Int := ((List.range k).filter fun i => match l[i]? with | some q => p q | none => false).map fun (i : Nat) => (i : Int)
theorem Z38 {p : Rn → Bool} {l : List Rn} {k : Nat} {q : Rn} (h : l[k]? = some q) : Z1Y p l (k + 1) = bif p q then Z1Y p l k ++ [(k : Int)] else Z1Y p l k := by
  unfold Z1Y
  rw [List.range_succ, List.filter_append]
  cases hp : p q <;> simp [h, hp]
theorem Z6G (p : Rn → Bool) (l : List Rn) (k : Nat) : (Z1Y p l k).length ≤ k := by
  unfold Z1Y
  rw [List.length_map]
  exact Nat.le_trans (List.length_filter_le _ _) (by simp)
theorem Z3v (t : Twn) (hl : t.rats.length ≤ 9223372036854775807) (ba oa ca : Nat) (H : Z7) (R : Z4) [hR : MemRows (some ⟨ba, oa, none⟩) 2 (rrows t.rats) R] :
    Fn Try.prog 27 [t.v (t.sl (some ⟨ba, oa, none⟩) ca)] H R (SvQ t (t.sl (some ⟨ba, oa, none⟩) ca) H R) := by
 refine Zb Try.func27 rfl Try.ntmps27 rfl ?_
 refine sqt 3 rfl (bx rfl rfl rfl (fun b1 => pur 2 rfl (sqt 7 rfl (spL rfl rfl (lhA [_, _, _, _, _, _, _, _, _, _, _] Z0l rfl rfl rfl) rfl ?_))))
 refine cl rfl Z8e rfl rfl (Z0V t hl ba oa ca _ _) ?_
 rintro _ _ _ (⟨hck, rfl, rfl, rfl⟩ | ⟨hck, bw, m, bt, rfl, rfl, rfl⟩)
 refine pur 5 rfl (Z0 (sqt 2 rfl (pur 2 rfl ?_)))
 refine Zw (congrArg (fun b => some (Value.bool b)) (dT hck)) ?_
 refine sqt 3 rfl (pur 3 rfl (Z1 ?_))
 exact rtB rfl rfl rfl rfl (.inl ⟨hck, rfl, rfl, rfl⟩) drp
 have hok := (ok_of_check hck).1
 refine pur 5 rfl (Z0 (sqt 2 rfl (pur 2 rfl ?_)))
 refine ZF (rfl) ?_
 refine Z5 (sqt 2 rfl (pur 1 rfl ?_))
 refine cl rfl ZaY rfl rfl (Z5V t hok ba oa ca bt bw m _ _) ?_
 rintro v _ _ ⟨σ, o, hσ, rfl, rfl⟩
 refine sqt 3 rfl (pur 3 rfl (Z1 ?_))
 exact rtB rfl rfl rfl rfl (.inr ⟨hck, bw, m, bt, σ, o, hσ, rfl, rfl, rfl⟩) (fun w h => h.del b1)
theorem c_Lasts (t : Twn) (hl : t.rats.length ≤ 9223372036854775807) (ba oa ca : Nat) (H : Z7) (R : Z4) [hR : MemRows (some ⟨ba, oa, none⟩) 2 (rrows t.rats) R] :
    Fn Try.prog 7 [t.v (t.sl (some ⟨ba, oa, none⟩) ca)] H R (fun v H' R' => ((t.check ≠ 0 ∧ v = .tuple #[.int .i64 0, .int .i64 t.check]) ∨ (t.check = 0 ∧ ∃ σ, Z4j t σ ∧ v = .tuple #[.int .i64 (lat σ.y t.now), .int .i64 0])) ∧ H' = H ∧ R' = R) := by
 refine Zb Try.func7 rfl Try.ntmps7 rfl ?_
 refine sqt 3 rfl (bx rfl rfl rfl (fun b1 => pur 2 rfl (sqt 7 rfl (spL rfl rfl (lhA [_, _, _, _, _, _, _, _, _, _, _] Z0l rfl rfl rfl) rfl ?_))))
 refine cl rfl Z9a rfl rfl (Z3v t hl ba oa ca _ _) ?_
 rintro _ _ _ (⟨hck, rfl, rfl, rfl⟩ | ⟨hck, bw, m, bt, σ, o, hσ, rfl, rfl, rfl⟩)
 refine pur 5 rfl (Z0 (sqt 2 rfl (pur 2 rfl ?_)))
 refine Zw (congrArg (fun b => some (Value.bool b)) (dT hck)) ?_
 refine sqt 3 rfl (pur 3 rfl (Z1 ?_))
 exact rtB rfl rfl rfl rfl ⟨.inl ⟨hck, rfl⟩, rfl, rfl⟩ drp
 have hok := (ok_of_check hck).1
 refine pur 5 rfl (Z0 (sqt 2 rfl (pur 2 rfl ?_)))
 refine ZF (rfl) ?_
 refine Z5 (Z0 ?_)
 refine Z8 [0, 1, 3, 0, 8, 31, 63, 127] (tks 0 4 (.ld 4 (.big 5 (.tk 6 (.tk 7 .done))))) Zk (by kernel_rfl) ?_
 refine Za 1 rfl (tk rfl (PE.nilCheck rfl) rfl (tk rfl (PE.fA ZP rfl) rfl (tk rfl (PE.fA Z0O rfl) rfl (ld rfl rfl (lhA [_, _, _] Z0f rfl rfl rfl) rfl ?_))))
 refine clV rfl Z1W rfl rfl (Z5U t hok t.now hok.now ba oa ca bt bw m σ.y o.fs (Z2D hok hσ) _ _) ?_
 refine bgT (Za 2 rfl (Z1 ?_))
 exact rtB rfl rfl rfl rfl ⟨.inr ⟨hck, σ, hσ, rfl⟩, rfl, rfl⟩ drp
theorem Z7I (t : Twn) (hl : t.rats.length ≤ 9223372036854775807) (ba oa ca : Nat) (H : Z7) (R : Z4) [hR : MemRows (some ⟨ba, oa, none⟩) 2 (rrows t.rats) R] :
    Fn Try.prog 50 [t.v (t.sl (some ⟨ba, oa, none⟩) ca)] H R (fun v H' R' => ((t.check ≠ 0 ∧ v = .tuple #[.slice none 0 0, .int .i64 t.check] ∧ H' = H) ∨
      (t.check = 0 ∧ ∃ σ, Z4j t σ ∧ ((lat σ.y t.now = -1 ∧ v = .tuple #[.slice none 0 0, .int .i64 6] ∧ H' = H) ∨ (lat σ.y t.now ≠ -1 ∧ ∃ o : OSl 3 1 (Zv (Z1Y (fun q => t.keeps σ.y t.now q (lat σ.y t.now)) t.rats t.rats.length)), v = .tuple #[o.fs, .int .i64 0] ∧ H' = o.G ++ H)))) ∧ R' = R) := by
 refine Zb Try.func50 rfl Try.ntmps50 rfl ?_
 refine sqt 3 rfl (bx rfl rfl rfl (fun b1 => pur 2 rfl (sqt 7 rfl (spL rfl rfl (lhA [_, _, _, _, _, _, _, _, _, _, _] Z0l rfl rfl rfl) rfl ?_))))
 refine cl rfl Z9a rfl rfl (Z3v t hl ba oa ca _ _) ?_
 rintro _ _ _ (⟨hck, rfl, rfl, rfl⟩ | ⟨hck, bw, m, bt, σ, o, hσ, rfl, rfl, rfl⟩)
 refine pur 5 rfl (Z0 (sqt 2 rfl (pur 2 rfl ?_)))
 refine Zw (congrArg (fun b => some (Value.bool b)) (dT hck)) ?_
 refine sqt 3 rfl (pur 3 rfl (Z1 ?_))
 exact rtB rfl rfl rfl rfl ⟨.inl ⟨hck, rfl, rfl⟩, rfl⟩ drp
 have hok := (ok_of_check hck).1
 have hrg := Z2Q hok hσ hok.now
 refine pur 5 rfl (Z0 (sqt 2 rfl (pur 2 rfl ?_)))
 refine ZF (rfl) ?_
 refine Z5 (Z0 ?_)
 refine Z8 [0, 1, 3, 0, 8, 31, 63] (tks 0 4 (.ld 4 (.big 5 (.tk 6 .done)))) Zk (by kernel_rfl) ?_
 refine Za 1 rfl (tk rfl (PE.nilCheck rfl) rfl (tk rfl (PE.fA ZP rfl) rfl (tk rfl (PE.fA Z0O rfl) rfl (ld rfl rfl (lhA [_, _, _] Z0f rfl rfl rfl) rfl ?_))))
 refine clV rfl Z1W rfl rfl (Z5U t hok t.now hok.now ba oa ca bt bw m σ.y o.fs (Z2D hok hσ) _ _) ?_
 refine bgT (Za 1 rfl (Z0 (sqt 2 rfl (pur 2 rfl ?_))))
 refine Z2 rfl ?_ ?_ <;> intro hc1
 simp only [decide_eq_true_eq] at hc1
 refine sqt 2 rfl (pur 2 rfl (Z1 ?_))
 first
   | exact rtB rfl rfl rfl rfl ⟨.inr ⟨hck, σ, hσ, .inl ⟨hc1, rfl, rfl⟩⟩, rfl⟩ drp
   | exact rtB rfl rfl rfl rfl ⟨.inr ⟨hck, σ, hσ, .inr ⟨hc1, o', rfl, rfl⟩⟩, rfl⟩ (fun w h => ((((h.del b1).del bw).del m).ftail).dropMid)
 simp only [decide_eq_false_iff_not] at hc1
 refine Z5 (sqt 1 rfl (pur 1 rfl (Z0 (sqt 4 rfl (sp rfl (PE.fA Z08 rfl) rfl (spL rfl rfl (lh Z1Z rfl rfl) rfl (sp rfl (PE.lenSl Z3I rfl) rfl (pur 1 rfl (Z3 ?_)))))))))
 have hlen := hok.many
 have hb0 : 0 ≤ lat σ.y t.now ∧ lat σ.y t.now ≤ 1000000 := by omega
 refine Zj (ι := (k : {k : Nat // k ≤ t.rats.length}) × OSl 3 1 (Zv (Z1Y (fun q => t.keeps σ.y t.now q (lat σ.y t.now)) t.rats k.1))) (fun x => ⟨[(1, .pointer (some ⟨b1, 0, none⟩)), (4, .pointer (some ⟨bw, 0, none⟩)), (6, .int .i64 (lat σ.y t.now)), (7, x.2.fs), (27, .int .i64 t.rats.length), (28, .int .i64 x.1.1)], (x.2.G ++ (b1, cel 27 (twl t (t.sl (some ⟨ba, oa, none⟩) ca))) :: (o.G ++ (bw, cel 92 (rcs t (t.sl (some ⟨ba, oa, none⟩) ca) bt (σ.y) o.fs m)) :: (m, Z0k true (Z20 σ.fl)) :: H)), RowsA (some ⟨bt, 0, none⟩) 11 [twl t (t.sl (some ⟨ba, oa, none⟩) ca)] :: R⟩) (fun x => t.rats.length - x.1.1) ⟨⟨0, by omega⟩, OSl.nil _ _⟩ ?_ (fun x => ?_)
 exact Zr (fun w h => h.pull b1)
 obtain ⟨⟨k, hk⟩, o'⟩ := x
 dsimp only at o' ⊢
 refine sqt 1 rfl (pur 1 rfl (Z0 ?_))
 refine Z2 rfl ?_ ?_ <;> intro hc2
 simp only [cS] at hc2
 obtain ⟨q, hq⟩ : ∃ q, t.rats[k]? = some q := ⟨_, List.getElem?_eq_getElem (by omega)⟩
 refine Z5 (Z0 (Z3 (sqt 2 rfl (pur 2 rfl (sqt 6 rfl (pur 1 rfl (sp rfl (PE.fA Z0O rfl) rfl (spL rfl rfl (lhA [_, _, _] Z0f rfl rfl rfl) rfl (pur 2 rfl ?_)))))))))
 refine clV rfl Z7v rfl rfl (Z3A t hok t.now hok.now k q (by omega) (by simpa using hq) (lat σ.y t.now) hb0 ba oa ca bt bw m σ.y o.fs (Z2D hok hσ) _ _) ?_
 refine Z2 rfl ?_ ?_ <;> intro hc3
 have e := Z38 (p := fun q => t.keeps σ.y t.now q (lat σ.y t.now)) hq
 rw [hc3, cond_true] at e
 refine sqr 5 rfl (pur 2 rfl ?_)
 refine bsl (out := [_]) rfl Z2W zl3 rfl rfl rfl rfl rfl rfl (fun b39 => ?_)
 refine apO (o') rfl Zbi rfl rfl (Z4L (row := [.int .i64 k]) rfl) rfl rfl ((by have := Z6G (fun q => t.keeps σ.y t.now q (lat σ.y t.now)) t.rats k; simp only [Zv, List.length_map, List.length_singleton]; omega)) rfl (fun o40 => ?_)
 refine pur 1 rfl (sqr 2 rfl (sp rfl (PE.add rfl rfl (by omega)) rfl (pur 1 rfl ?_)))
 first
   | exact ZG ⟨⟨k + 1, by omega⟩, o40.cast (by rw [e]; simp [Zv])⟩ (by dsimp only; omega) (fun w h => h.del b39)
   | exact ZG ⟨⟨k + 1, by omega⟩, o'.cast (by rw [e])⟩ (by dsimp only; omega) idH
 have e := Z38 (p := fun q => t.keeps σ.y t.now q (lat σ.y t.now)) hq
 rw [hc3, cond_false] at e
 refine Z5 (sqr 2 rfl (sp rfl (PE.add rfl rfl (by omega)) rfl (pur 1 rfl ?_)))
 first
   | exact ZG ⟨⟨k + 1, by omega⟩, o40.cast (by rw [e]; simp [Zv])⟩ (by dsimp only; omega) (fun w h => h.del b39)
   | exact ZG ⟨⟨k + 1, by omega⟩, o'.cast (by rw [e])⟩ (by dsimp only; omega) idH
 simp only [cS] at hc2
 obtain rfl : k = t.rats.length := by omega
 refine Zg (Zh (Zh (ZJ (sqt 3 rfl (pur 3 rfl (Z1 ?_))))))
 first
   | exact rtB rfl rfl rfl rfl ⟨.inr ⟨hck, σ, hσ, .inl ⟨hc1, rfl, rfl⟩⟩, rfl⟩ drp
   | exact rtB rfl rfl rfl rfl ⟨.inr ⟨hck, σ, hσ, .inr ⟨hc1, o', rfl, rfl⟩⟩, rfl⟩ (fun w h => ((((h.del b1).del bw).del m).ftail).dropMid)
end Go.Proofs.Ythhdgeibokecjaa.Bd
namespace Go.Proofs.Ythhdgeibokecjaa.Bd
set_option linter.unusedSimpArgs false
set_option linter.unusedVariables false
def Z5T (s : Int) (ws : List Int) : Int := bif decide (8 < ws.length) then 2 else bif !(inb s 0 1000) then 3 else bif !(ws.all fun n => inb n 0 1000) then 3 else 0
structure ShS where
  s : Int
  o : List Int
  g : Bool
def ShS.step (ws : List Int) (σ : ShS) (i : Nat) : ShS := match ws[i]?, σ.o[i]? with
  | some n, some m => bif decide (0 < σ.s) && decide (m < n) then ⟨σ.s - 1, σ.o.set i (m + 1), true⟩ else σ
  | _, _ => σ
def ShS.pass (ws : List Int) (σ : ShS) : ShS := (List.range ws.length).foldl (ShS.step ws) { σ with g := false }
def Z0m (ws : List Int) : Nat → ShS → ShS
  | 0, σ => σ
  | j + 1, σ => (Z0m ws j σ).pass ws
def Zl (s : Int) (ws : List Int) : ShS := ⟨s, List.replicate ws.length 0, true⟩
structure ShS.ok (s0 : Int) (ws : List Int) (σ : ShS) : Prop where
  len : σ.o.length = ws.length
  s : 0 ≤ σ.s ∧ σ.s ≤ s0
  m : ∀ (i : Nat) (m n : Int), σ.o[i]? = some m → ws[i]? = some n → 0 ≤ m ∧ m ≤ n
theorem Z8W {s0 : Int} {ws : List Int} {σ : ShS} (h : σ.ok s0 ws) (i : Nat) : (σ.step ws i).ok s0 ws := by
  unfold ShS.step
  split
  · rename_i n m hn hm
    cases hc : decide (0 < σ.s) && decide (m < n) with
    | false => exact h
    | true =>
      simp only [Bool.and_eq_true, decide_eq_true_eq] at hc
      have hs := h.s
      refine ⟨by simp [h.len], by simp only [cond_true]; omega, fun k m' n' hm' hn' => ?_⟩
      simp only [cond_true] at hm'
      by_cases hk : i = k
      · subst hk
        have hi : i < σ.o.length := (List.getElem?_eq_some_iff.1 hm).1
        rw [List.getElem?_set_self hi] at hm'
        cases hm'
        rw [hn] at hn'; cases hn'
        have := h.m i m n hm hn
        omega
      · rw [List.getElem?_set_ne hk] at hm'
        exact h.m k m' n' hm' hn'
  · exact h
theorem Z9h (ws : List Int) (σ : ShS) (i : Nat) : (σ.step ws i).s ≤ σ.s ∧ ((σ.step ws i).g = true → σ.g = true ∨ (σ.step ws i).s < σ.s) := by
  unfold ShS.step
  split
  · cases hc : _ && _ <;> simp only [cond_true, cond_false] <;> first | exact ⟨Int.le_refl _, fun h => .inl h⟩ | exact ⟨by omega, fun _ => .inr (by omega)⟩
  · exact ⟨Int.le_refl _, fun h => .inl h⟩
theorem Z3a {s0 : Int} {ws : List Int} : ∀ (l : List Nat) (σ : ShS), σ.ok s0 ws → (l.foldl (ShS.step ws) σ).ok s0 ws
  | [], _, h => h
  | i :: l, σ, h => Z3a l _ (Z8W h i)
theorem Z5g (ws : List Int) : ∀ (l : List Nat) (σ : ShS), (l.foldl (ShS.step ws) σ).s ≤ σ.s ∧ ((l.foldl (ShS.step ws) σ).g = true → σ.g = true ∨ (l.foldl (ShS.step ws) σ).s < σ.s)
  | [], _ => ⟨Int.le_refl _, fun h => .inl h⟩
  | i :: l, σ => by
    obtain ⟨h1, h2⟩ := Z5g ws l (σ.step ws i)
    obtain ⟨h3, h4⟩ := Z9h ws σ i
    rw [List.foldl_cons]
    refine ⟨by omega, fun h => ?_⟩
    rcases h2 h with h | h
    · rcases h4 h with h | h
      · exact .inl h
      · exact .inr (by omega)
    · exact .inr (by omega)
theorem Z7A {s0 : Int} {ws : List Int} {σ : ShS} (h : σ.ok s0 ws) : (σ.pass ws).ok s0 ws := Z3a _ _ ⟨h.len, h.s, h.m⟩
theorem Z4q {s0 : Int} {ws : List Int} : ∀ (j : Nat) (σ : ShS), σ.ok s0 ws → (Z0m ws j σ).ok s0 ws
  | 0, _, h => h
  | j + 1, _, h => Z7A (Z4q j _ h)
theorem Z6u {s : Int} {ws : List Int} (h : Z5T s ws = 0) : (Zl s ws).ok s ws ∧ s ≤ 1000 ∧ (∀ n ∈ ws, 0 ≤ n ∧ n ≤ 1000) ∧ ws.length ≤ 8 := by
  unfold Z5T at h
  cases h1 : decide (8 < ws.length) <;> rw [h1] at h
  rotate_left
  · cases h
  cases h2 : inb s 0 1000 <;> rw [h2] at h
  · cases h
  cases h3 : ws.all fun n => inb n 0 1000 <;> rw [h3] at h
  · cases h
  simp only [inb, Bool.and_eq_true, decide_eq_true_eq, decide_eq_false_iff_not] at h1 h2
  have h4 : ∀ n ∈ ws, 0 ≤ n ∧ n ≤ 1000 := fun n hn => by
    have := List.all_eq_true.1 h3 n hn
    simpa using this
  refine ⟨⟨by simp [Zl], by simp only [Zl]; omega, fun i m n hm hn => ?_⟩, by omega, h4, by omega⟩
  simp only [Zl, List.getElem?_replicate] at hm
  split at hm <;> cases hm
  have := h4 n (List.mem_of_getElem? hn)
  omega
theorem Z3X (ws : List Int) : ∀ (l : List Nat) (σ : ShS), (l.foldl (ShS.step ws) σ).g = false → l.foldl (ShS.step ws) σ = σ
  | [], _, _ => rfl
  | i :: l, σ, h => by
    rw [List.foldl_cons] at h ⊢
    have h1 := Z3X ws l _ h
    rw [h1] at h ⊢
    unfold ShS.step at h ⊢
    split
    · rename_i n m hn hm
      rw [hn, hm] at h
      cases hc : decide (0 < σ.s) && decide (m < n) with
      | false => rfl
      | true => simp only [hc, cond_true] at h; cases h
    · rfl
theorem Z7n {ws : List Int} {σ : ShS} (h : (σ.pass ws).g = false) : σ.pass ws = { σ with g := false } := Z3X ws _ _ h
theorem Z6j {s : Int} {ws : List Int} {j : Nat} (h : (Z0m ws j (Zl s ws)).g = false) : Z0m ws (j + 1) (Zl s ws) = Z0m ws j (Zl s ws) := by
  cases j with
  | zero => cases h
  | succ j =>
    have h1 : Z0m ws (j + 1) (Zl s ws) = { Z0m ws j (Zl s ws) with g := false } := Z7n h
    show (Z0m ws (j + 1) (Zl s ws)).pass ws = _
    have h2 : (Z0m ws (j + 1) (Zl s ws)).pass ws = (Z0m ws j (Zl s ws)).pass ws := by rw [h1]; rfl
    rw [h2]; rfl
theorem Z2e {s : Int} {ws : List Int} {j : Nat} (h : (Z0m ws j (Zl s ws)).g = false) : ∀ k, Z0m ws (j + k) (Zl s ws) = Z0m ws j (Zl s ws)
  | 0 => rfl
  | k + 1 => by
    have ih := Z2e h k
    rw [← Nat.add_assoc, Z6j (by rw [ih]; exact h), ih]
theorem Z5X {s : Int} {ws : List Int} {j k : Nat} (h : (Z0m ws j (Zl s ws)).g = false) (h' : (Z0m ws k (Zl s ws)).g = false) : Z0m ws j (Zl s ws) = Z0m ws k (Zl s ws) := by
  rcases Nat.le_total j k with hle | hle
  · have := Z2e h (k - j)
    rw [show j + (k - j) = k from by omega] at this
    exact this.symm
  · have := Z2e h' (j - k)
    rw [show k + (j - k) = j from by omega] at this
    exact this
end Go.Proofs.Ythhdgeibokecjaa.Bd
