/- Walks of the functions of the program, and the laws that join them: what the last theorem of this claim needs, in order. -/
import Derived.Test.YtelnhmimhfjacaaGreathq5
namespace Go.Proofs.YtelnhmimhfjacaaGreat.Ht
set_option linter.unusedSimpArgs false
set_option linter.unusedVariables false
open Go
theorem Z0s : cal Tryz.prog 17 = true := by kernel_rfl
theorem Z2v : cal Tryz.prog 18 = true := by kernel_rfl
theorem Zbw : cal Tryz.prog 42 = true := by kernel_rfl
theorem Zb4 : ZT Tryz.prog 71 = some 1 := by kernel_rfl
theorem Zet : elN Tryz.prog 22 = some 1 := by kernel_rfl
theorem Z1O : Z0w Tryz.prog 73 0 = some 0 := by kernel_rfl
theorem Z0B : Z0w Tryz.prog 73 1 = some 1 := by kernel_rfl
theorem ZG : Z0w Tryz.prog 73 2 = some 2 := by kernel_rfl
theorem ik3 : Zat Tryz.prog 3 = some .i64 := by kernel_rfl
theorem ZdD : Zat Tryz.prog 71 = some .u32 := by kernel_rfl
theorem Z4k : Z7v Tryz.prog 22 = true := by kernel_rfl
theorem Zf6 : Z0c Tryz.prog 73 = some [(0, 1), (1, 1), (2, 1)] := by kernel_rfl
theorem Z9j : Z1v Tryz.prog 22 = true := by kernel_rfl
theorem sc5 : Z1v Tryz.prog 5 = true := by kernel_rfl
theorem Z34 : Z1v Tryz.prog 71 = true := by kernel_rfl
theorem us3 : (Tryz.prog.underlying 3).isSome = true := by kernel_rfl
theorem us5 : (Tryz.prog.underlying 5).isSome = true := by kernel_rfl
theorem Z9N : (Tryz.prog.underlying 71).isSome = true := by kernel_rfl
theorem Zft : ZE Tryz.prog 73 = some ([.slice none 0 0, .int .i64 0, .int .u32 0]) := by kernel_rfl
def nn (l : List Int) (k : Nat) : Int := l.getD k 0
theorem Z0Q {l : List Int} {i j : Nat} {v : Int} (h : i < l.length) : nn (l.set i v) j = bif i == j then v else nn l j := by
  unfold nn
  rw [List.getD_eq_getElem?_getD, List.getD_eq_getElem?_getD, List.getElem?_set]
  by_cases e : i = j
  · subst e; rw [if_pos rfl, if_pos h]; simp
  · rw [if_neg e, show (i == j) = false from by simpa using e]; rfl
def urow (x : Int) : List Value := [.int .u8 x]
def urows (l : List Int) : List (List Value) := l.map urow
theorem c_Fill (g : List Int) (ag : Option Addr) (cg : Nat) (hgl : g.length ≤ 9223372036854775807) (H : Z7) (R : Z5) :
    Fn Tryz.prog 5 [.slice ag g.length cg] H R (fun v H' R' => ∃ bk, ∃ mx : Int, (0 ≤ mx ∧ mx ≤ 4294967295) ∧ v = .pointer (some ⟨bk, 0, none⟩) ∧ H' = (bk, cel 73 [.slice ag g.length cg, .int .i64 (0), .int .u32 (mx)]) :: H ∧ R' = R) := by
 refine Z9 Tryz.func5 rfl Tryz.ntmps5 rfl ?_
 refine sqt 1 rfl (pur 1 rfl (sqt 8 rfl (pur 2 rfl (sp rfl (PE.lenSl Z4k rfl) rfl ?_))))
 refine spE rfl (PE.convU us3 ZdD rfl) rfl ?_
 rintro _ ⟨u6, rfl, hu6⟩
 refine spE rfl (PE.xorU rfl rfl) rfl ?_
 rintro _ ⟨u7, rfl, hu7⟩
 refine sp rfl (PE.build (out := [_, _, _]) Zf6 Zft rfl rfl) rfl (bx rfl rfl rfl (fun b9 => pur 1 rfl (Z1 ?_)))
 exact rtA rfl rfl rfl ⟨b9, u7, hu7, rfl, rfl, rfl⟩ idH
theorem Z3m (g : List Int) (ag : Option Addr) (cg bk : Nat) (hgl : g.length ≤ 9223372036854775807) (tq mx : Int) (htq : 0 ≤ tq ∧ tq ≤ 1000000000) (hmx : 0 ≤ mx ∧ mx ≤ 4294967295) (H : Z7) (R : Z5) [hG : MemRows ag 1 (urows g) R] :
    Fn Tryz.prog 42 [.pointer (some ⟨bk, 0, none⟩)] ((bk, cel 73 [.slice ag g.length cg, .int .i64 (tq), .int .u32 (mx)]) :: H) R (fun v H' R' => ∃ x m' : Int, (0 ≤ x ∧ x ≤ 65535) ∧ v = .int .i64 x ∧ (0 ≤ m' ∧ m' ≤ 4294967295) ∧ H' = (bk, cel 73 [.slice ag g.length cg, .int .i64 (tq + 1), .int .u32 (m')]) :: H ∧ R' = R) := by
 refine Z9 Tryz.func42 rfl Tryz.ntmps42 rfl ?_
 refine sqt 1 rfl (pur 1 rfl (Z0 (sqt 6 rfl (pur 1 rfl (sp rfl (PE.nilCheck rfl) rfl (sp rfl (PE.fA Z1O rfl) rfl (spL rfl rfl (lh Z9j rfl rfl) rfl (sp rfl (PE.lenSl Z4k rfl) rfl (pur 1 rfl (sqt 2 rfl (pur 2 rfl ?_)))))))))))
 refine Z2 rfl ?_ ?_ <;> intro hc0 <;> try simp only [cS] at hc0
 obtain ⟨y, hy⟩ : ∃ y, g[(tq % g.length).toNat]? = some y := ⟨_, List.getElem?_eq_getElem (by have := Int.emod_lt_of_pos tq hc0; have := Int.emod_nonneg tq (show (g.length : Int) ≠ 0 by omega); omega)⟩
 refine Zp (a := ag) (sz := 1) (rows := urows g) (by intro h0; simp [urows] at h0; simp [h0] at hy) (fun bgr ogr he => ?_)
 subst he
 refine Z8 [0, 0, 2, 6, 14, 0, 32, 96, 224, 0, 512, 1536, 3584, 0, 15872, 32736, 65504, 131040, 262142, 524286, 1048575, 2097151, 4194303] (tks 0 4 (.ld 4 (tks 5 3 (.ld 8 (tks 9 3 (.ld 12 (tks 13 3 (.ld 16 (tks 17 5 (.big 22 .done)))))))))) Zr (by kernel_rfl) ?_
 refine Zg 2 rfl (tk rfl (PE.nilCheck rfl) rfl (tk rfl (PE.fA ZG rfl) rfl (ld rfl rfl (lh Z34 rfl rfl) rfl (Zg 1 rfl (tk rfl (PE.nilCheck rfl) rfl (tk rfl (PE.fA Z1O rfl) rfl (ld rfl rfl (lh Z9j rfl rfl) rfl (Zg 1 rfl (tk rfl (PE.nilCheck rfl) rfl (tk rfl (PE.fA Z0B rfl) rfl (ld rfl rfl (lh sc3 rfl rfl) rfl (Zg 1 rfl (tk rfl (PE.rem rfl rfl (by omega)) rfl (tk rfl (PE.indexAddr Zet rfl rfl (by exact Int.emod_nonneg tq (by omega)) (by exact Int.emod_lt_of_pos tq hc0)) rfl (ld rfl rfl (lf0 (x := .int .u8 y) sc5 (by simp [urows, urow, hy]; rfl) rfl) rfl ?_)))))))))))))))
 refine tkE rfl (PE.convU us5 ZdD rfl) rfl ?_
 rintro _ ⟨u28, rfl, hu28⟩
 refine tkE rfl (PE.xorU rfl rfl) rfl ?_
 rintro _ ⟨u29, rfl, hu29⟩
 refine tkE rfl (PE.mulU rfl rfl) rfl ?_
 rintro _ ⟨u30, rfl, hu30⟩
 refine tk rfl (PE.nilCheck rfl) rfl (tk rfl (PE.fA ZG rfl) rfl ?_)
 refine sto rfl rfl rfl Zb4 rfl rfl rfl rfl ?_
 refine bgT (sqt 8 rfl (pur 1 rfl (sp rfl (PE.nilCheck rfl) rfl (sp rfl (PE.fA Z0B rfl) rfl (spL rfl rfl (lh sc3 rfl rfl) rfl (sp rfl (PE.add rfl rfl (by omega)) rfl (sp rfl (PE.nilCheck rfl) rfl (sp rfl (PE.fA Z0B rfl) rfl ?_))))))))
 refine sto rfl rfl rfl cn3 rfl rfl rfl rfl ?_
 refine Z0 (Z0 ?_)
 refine Z8 [0, 1, 3, 7, 0, 16, 48, 112, 240, 511] (tks 0 3 (.ld 3 (tks 4 3 (.ld 7 (.tk 8 (.tk 9 .done)))))) Zr (by kernel_rfl) ?_
 refine Zg 1 rfl (tk rfl (PE.nilCheck rfl) rfl (tk rfl (PE.fA Z0B rfl) rfl (ld rfl rfl (lh sc3 rfl rfl) rfl (Zg 1 rfl (tk rfl (PE.nilCheck rfl) rfl (tk rfl (PE.fA Z1O rfl) rfl (ld rfl rfl (lh Z9j rfl rfl) rfl (tk rfl (PE.lenSl Z4k rfl) rfl (Zg 1 rfl ?_)))))))))
 refine Z2 rfl ?_ ?_ <;> intro hc1 <;> try simp only [cS] at hc1
 refine sqr 10 rfl (pur 2 rfl (sp rfl (PE.nilCheck rfl) rfl (sp rfl (PE.fA ZG rfl) rfl (spL rfl rfl (lh Z34 rfl rfl) rfl ?_))))
 refine spE rfl (PE.mulU rfl rfl) rfl ?_
 rintro _ ⟨u55, rfl, hu55⟩
 refine spE rfl (PE.addU rfl rfl) rfl ?_
 rintro _ ⟨u56, rfl, hu56⟩
 refine sp rfl (PE.nilCheck rfl) rfl (sp rfl (PE.fA ZG rfl) rfl ?_)
 refine sto rfl rfl rfl Zb4 rfl rfl rfl rfl ?_
 refine Z0 ?_
 refine Z8 [0, 1, 3, 7, 0, 16, 48, 112, 240, 511, 1023, 2047, 4095, 8191] (tks 0 3 (.ld 3 (tks 4 3 (.ld 7 (tks 8 6 .done))))) Zr (by kernel_rfl) ?_
 refine Zg 1 rfl (tk rfl (PE.nilCheck rfl) rfl (tk rfl (PE.fA ZG rfl) rfl (ld rfl rfl (lh Z34 rfl rfl) rfl (Zg 1 rfl (tk rfl (PE.nilCheck rfl) rfl (tk rfl (PE.fA ZG rfl) rfl (ld rfl rfl (lh Z34 rfl rfl) rfl ?_)))))))
 refine tkE rfl (PE.shrU rfl rfl (by decide) (by omega) (by omega)) rfl ?_
 rintro _ ⟨u67, rfl, hu67⟩
 refine tkE rfl (PE.xorU rfl rfl) rfl ?_
 rintro _ ⟨u68, rfl, hu68⟩
 refine tkE rfl (PE.shrU rfl rfl (by decide) (by omega) (by omega)) rfl ?_
 rintro _ ⟨u69, rfl, hu69⟩
 refine tkE rfl (PE.andU rfl rfl (by decide) (by decide)) rfl ?_
 rintro _ ⟨u70, rfl, hu70⟩
 refine tk rfl (PE.conv64 Z9N ik3 rfl (by omega)) rfl (Zg 1 rfl (Z1 ?_))
 first
   | exact rtA rfl rfl rfl ⟨u70, _, hu70, rfl, hu56, rfl, rfl⟩ idH
   | exact rtA rfl rfl rfl ⟨u70, _, hu70, rfl, hu30, rfl, rfl⟩ idH
   | exact rtA rfl rfl rfl ⟨u70, _, hu70, rfl, hmx, rfl, rfl⟩ idH
 refine Z4 (Z0 ?_)
 refine Z8 [0, 1, 3, 7, 0, 16, 48, 112, 240, 511, 1023, 2047, 4095, 8191] (tks 0 3 (.ld 3 (tks 4 3 (.ld 7 (tks 8 6 .done))))) Zr (by kernel_rfl) ?_
 refine Zg 1 rfl (tk rfl (PE.nilCheck rfl) rfl (tk rfl (PE.fA ZG rfl) rfl (ld rfl rfl (lh Z34 rfl rfl) rfl (Zg 1 rfl (tk rfl (PE.nilCheck rfl) rfl (tk rfl (PE.fA ZG rfl) rfl (ld rfl rfl (lh Z34 rfl rfl) rfl ?_)))))))
 refine tkE rfl (PE.shrU rfl rfl (by decide) (by omega) (by omega)) rfl ?_
 rintro _ ⟨u67, rfl, hu67⟩
 refine tkE rfl (PE.xorU rfl rfl) rfl ?_
 rintro _ ⟨u68, rfl, hu68⟩
 refine tkE rfl (PE.shrU rfl rfl (by decide) (by omega) (by omega)) rfl ?_
 rintro _ ⟨u69, rfl, hu69⟩
 refine tkE rfl (PE.andU rfl rfl (by decide) (by decide)) rfl ?_
 rintro _ ⟨u70, rfl, hu70⟩
 refine tk rfl (PE.conv64 Z9N ik3 rfl (by omega)) rfl (Zg 1 rfl (Z1 ?_))
 first
   | exact rtA rfl rfl rfl ⟨u70, _, hu70, rfl, hu56, rfl, rfl⟩ idH
   | exact rtA rfl rfl rfl ⟨u70, _, hu70, rfl, hu30, rfl, rfl⟩ idH
   | exact rtA rfl rfl rfl ⟨u70, _, hu70, rfl, hmx, rfl, rfl⟩ idH
 refine Z4 (sqt 8 rfl (pur 1 rfl (sp rfl (PE.nilCheck rfl) rfl (sp rfl (PE.fA Z0B rfl) rfl (spL rfl rfl (lh sc3 rfl rfl) rfl (sp rfl (PE.add rfl rfl (by omega)) rfl (sp rfl (PE.nilCheck rfl) rfl (sp rfl (PE.fA Z0B rfl) rfl ?_))))))))
 refine sto rfl rfl rfl cn3 rfl rfl rfl rfl ?_
 refine Z0 (Z0 ?_)
 refine Z8 [0, 1, 3, 7, 0, 16, 48, 112, 240, 511] (tks 0 3 (.ld 3 (tks 4 3 (.ld 7 (.tk 8 (.tk 9 .done)))))) Zr (by kernel_rfl) ?_
 refine Zg 1 rfl (tk rfl (PE.nilCheck rfl) rfl (tk rfl (PE.fA Z0B rfl) rfl (ld rfl rfl (lh sc3 rfl rfl) rfl (Zg 1 rfl (tk rfl (PE.nilCheck rfl) rfl (tk rfl (PE.fA Z1O rfl) rfl (ld rfl rfl (lh Z9j rfl rfl) rfl (tk rfl (PE.lenSl Z4k rfl) rfl (Zg 1 rfl ?_)))))))))
 refine Z2 rfl ?_ ?_ <;> intro hc1 <;> try simp only [cS] at hc1
 refine sqr 10 rfl (pur 2 rfl (sp rfl (PE.nilCheck rfl) rfl (sp rfl (PE.fA ZG rfl) rfl (spL rfl rfl (lh Z34 rfl rfl) rfl ?_))))
 refine spE rfl (PE.mulU rfl rfl) rfl ?_
 rintro _ ⟨u55, rfl, hu55⟩
 refine spE rfl (PE.addU rfl rfl) rfl ?_
 rintro _ ⟨u56, rfl, hu56⟩
 refine sp rfl (PE.nilCheck rfl) rfl (sp rfl (PE.fA ZG rfl) rfl ?_)
 refine sto rfl rfl rfl Zb4 rfl rfl rfl rfl ?_
 refine Z0 ?_
 refine Z8 [0, 1, 3, 7, 0, 16, 48, 112, 240, 511, 1023, 2047, 4095, 8191] (tks 0 3 (.ld 3 (tks 4 3 (.ld 7 (tks 8 6 .done))))) Zr (by kernel_rfl) ?_
 refine Zg 1 rfl (tk rfl (PE.nilCheck rfl) rfl (tk rfl (PE.fA ZG rfl) rfl (ld rfl rfl (lh Z34 rfl rfl) rfl (Zg 1 rfl (tk rfl (PE.nilCheck rfl) rfl (tk rfl (PE.fA ZG rfl) rfl (ld rfl rfl (lh Z34 rfl rfl) rfl ?_)))))))
 refine tkE rfl (PE.shrU rfl rfl (by decide) (by omega) (by omega)) rfl ?_
 rintro _ ⟨u67, rfl, hu67⟩
 refine tkE rfl (PE.xorU rfl rfl) rfl ?_
 rintro _ ⟨u68, rfl, hu68⟩
 refine tkE rfl (PE.shrU rfl rfl (by decide) (by omega) (by omega)) rfl ?_
 rintro _ ⟨u69, rfl, hu69⟩
 refine tkE rfl (PE.andU rfl rfl (by decide) (by decide)) rfl ?_
 rintro _ ⟨u70, rfl, hu70⟩
 refine tk rfl (PE.conv64 Z9N ik3 rfl (by omega)) rfl (Zg 1 rfl (Z1 ?_))
 first
   | exact rtA rfl rfl rfl ⟨u70, _, hu70, rfl, hu56, rfl, rfl⟩ idH
   | exact rtA rfl rfl rfl ⟨u70, _, hu70, rfl, hu30, rfl, rfl⟩ idH
   | exact rtA rfl rfl rfl ⟨u70, _, hu70, rfl, hmx, rfl, rfl⟩ idH
 refine Z4 (Z0 ?_)
 refine Z8 [0, 1, 3, 7, 0, 16, 48, 112, 240, 511, 1023, 2047, 4095, 8191] (tks 0 3 (.ld 3 (tks 4 3 (.ld 7 (tks 8 6 .done))))) Zr (by kernel_rfl) ?_
 refine Zg 1 rfl (tk rfl (PE.nilCheck rfl) rfl (tk rfl (PE.fA ZG rfl) rfl (ld rfl rfl (lh Z34 rfl rfl) rfl (Zg 1 rfl (tk rfl (PE.nilCheck rfl) rfl (tk rfl (PE.fA ZG rfl) rfl (ld rfl rfl (lh Z34 rfl rfl) rfl ?_)))))))
 refine tkE rfl (PE.shrU rfl rfl (by decide) (by omega) (by omega)) rfl ?_
 rintro _ ⟨u67, rfl, hu67⟩
 refine tkE rfl (PE.xorU rfl rfl) rfl ?_
 rintro _ ⟨u68, rfl, hu68⟩
 refine tkE rfl (PE.shrU rfl rfl (by decide) (by omega) (by omega)) rfl ?_
 rintro _ ⟨u69, rfl, hu69⟩
 refine tkE rfl (PE.andU rfl rfl (by decide) (by decide)) rfl ?_
 rintro _ ⟨u70, rfl, hu70⟩
 refine tk rfl (PE.conv64 Z9N ik3 rfl (by omega)) rfl (Zg 1 rfl (Z1 ?_))
 first
   | exact rtA rfl rfl rfl ⟨u70, _, hu70, rfl, hu56, rfl, rfl⟩ idH
   | exact rtA rfl rfl rfl ⟨u70, _, hu70, rfl, hu30, rfl, rfl⟩ idH
   | exact rtA rfl rfl rfl ⟨u70, _, hu70, rfl, hmx, rfl, rfl⟩ idH
theorem ZC (g : List Int) (ag : Option Addr) (cg bk : Nat) (hgl : g.length ≤ 9223372036854775807) (tq mx : Int) (htq : 0 ≤ tq ∧ tq ≤ 1000000000) (hmx : 0 ≤ mx ∧ mx ≤ 4294967295) (n : Int) (H : Z7) (R : Z5) [hG : MemRows ag 1 (urows g) R] :
    Fn Tryz.prog 17 [.pointer (some ⟨bk, 0, none⟩), .int .i64 n] ((bk, cel 73 [.slice ag g.length cg, .int .i64 (tq), .int .u32 (mx)]) :: H) R (fun v H' R' => ∃ x m' : Int, (0 ≤ x ∧ x < max 1 n) ∧ v = .int .i64 x ∧ (0 ≤ m' ∧ m' ≤ 4294967295) ∧ H' = (bk, cel 73 [.slice ag g.length cg, .int .i64 (tq + 1), .int .u32 (m')]) :: H ∧ R' = R) := by
 refine Z9 Tryz.func17 rfl Tryz.ntmps17 rfl ?_
 refine sqt 1 rfl (pur 1 rfl (sqt 6 rfl (pur 1 rfl ?_)))
 refine cl rfl Zbw rfl rfl (Z3m g ag cg bk hgl tq mx htq hmx _ _) ?_
 rintro _ _ _ ⟨x, m', hx, rfl, hm', rfl, rfl⟩
 refine pur 1 rfl (sp rfl (PE.max rfl rfl) rfl (sp rfl (PE.rem rfl rfl (by omega)) rfl (pur 1 rfl (Z1 ?_))))
 exact rtA rfl rfl rfl ⟨_, m', ⟨Int.emod_nonneg _ (by omega), Int.emod_lt_of_pos _ (by omega)⟩, rfl, hm', rfl, rfl⟩ idH
theorem Z0o (g : List Int) (ag : Option Addr) (cg bk : Nat) (hgl : g.length ≤ 9223372036854775807) (tq mx : Int) (htq : 0 ≤ tq ∧ tq ≤ 1000000000) (hmx : 0 ≤ mx ∧ mx ≤ 4294967295) (lo hi : Int) (hb : -1000000 ≤ lo ∧ lo ≤ 1000000 ∧ -1000000 ≤ hi ∧ hi ≤ 1000000) (H : Z7) (R : Z5) [hG : MemRows ag 1 (urows g) R] :
    Fn Tryz.prog 18 [.pointer (some ⟨bk, 0, none⟩), .int .i64 lo, .int .i64 hi] ((bk, cel 73 [.slice ag g.length cg, .int .i64 (tq), .int .u32 (mx)]) :: H) R (fun v H' R' => ∃ x m' : Int, (lo ≤ x ∧ x < lo + max 1 (hi - lo + 1)) ∧ v = .int .i64 x ∧ (0 ≤ m' ∧ m' ≤ 4294967295) ∧ H' = (bk, cel 73 [.slice ag g.length cg, .int .i64 (tq + 1), .int .u32 (m')]) :: H ∧ R' = R) := by
 refine Z9 Tryz.func18 rfl Tryz.ntmps18 rfl ?_
 refine sqt 1 rfl (pur 1 rfl (sqt 9 rfl (pur 4 rfl (sp rfl (PE.sub rfl rfl (by omega)) rfl (sp rfl (PE.add rfl rfl (by omega)) rfl ?_)))))
 refine cl rfl Z0s rfl rfl (ZC g ag cg bk hgl tq mx htq hmx (hi - lo + 1) _ _) ?_
 rintro _ _ _ ⟨x, m', hx, rfl, hm', rfl, rfl⟩
 refine sp rfl (PE.add rfl rfl (by omega)) rfl (pur 1 rfl (Z1 ?_))
 exact rtA rfl rfl rfl ⟨lo + x, m', ⟨by omega, by omega⟩, rfl, hm', rfl, rfl⟩ idH
structure Ord (p : List Nat) (n : Nat) : Prop where
  len : p.length = n
  nd : p.Nodup
  lt : ∀ i ∈ p, i < n
theorem Ord.nil : Ord [] 0 := ⟨rfl, List.nodup_nil, by simp⟩
structure InsI (l xs : List Int) (i j : Nat) : Prop where
  perm : xs.Perm l
  le : j ≤ i
  at_ : ∀ p q, p < q → q ≤ i → q ≠ j → nn xs p ≤ nn xs q
structure SrtI (l xs : List Int) (i : Nat) : Prop where
  perm : xs.Perm l
  at_ : ∀ p q, p < q → q < i → nn xs p ≤ nn xs q
theorem SrtI.start (l : List Int) : SrtI l l 1 := ⟨.refl _, fun p q h1 h2 => by omega⟩
theorem InsI.done {l xs : List Int} {i j : Nat} (h : InsI l xs i j) (hj : j = 0 ∨ nn xs (j - 1) ≤ nn xs j) : SrtI l xs (i + 1) := ⟨h.perm, fun p q h1 h2 => by
  by_cases hq : q = j
  · subst hq
    have h3 : nn xs (q - 1) ≤ nn xs q := hj.resolve_left (by omega)
    by_cases hp : p = q - 1
    · subst hp; exact h3
    · have := h.at_ p (q - 1) (by omega) (by omega) (by omega); omega
  · exact h.at_ p q h1 (by omega) hq⟩
theorem ZdR {xs : List Int} {k : Nat} (h : k < xs.length) : nn xs k = xs[k] := by unfold nn; rw [List.getD_eq_getElem?_getD, List.getElem?_eq_getElem h]; rfl
theorem InsI.swap {l xs : List Int} {i j : Nat} (h : InsI l xs i j) (hj : 0 < j) (hi : i < xs.length) (hlt : nn xs j < nn xs (j - 1)) : InsI l ((xs.set j (nn xs (j - 1))).set (j - 1) (nn xs j)) i (j - 1) := by
  have hle := h.le
  have hv : ∀ q, nn ((xs.set j (nn xs (j - 1))).set (j - 1) (nn xs j)) q = if q = j - 1 then nn xs j else if q = j then nn xs (j - 1) else nn xs q := fun q => by
    rw [Z0Q (by rw [List.length_set]; omega), Z0Q (by omega)]
    by_cases h1 : q = j - 1
    · subst h1; simp
    · have e1 : (j - 1 == q) = false := by simp; omega
      rw [e1, if_neg h1]
      by_cases h2 : q = j
      · subst h2; simp
      · have e2 : (j == q) = false := by simp; omega
        rw [e2, if_neg h2]; rfl
  refine ⟨?_, by omega, fun p q h1 h2 h3 => ?_⟩
  · have e := @List.set_set_perm Int xs j (j - 1) (by omega) (by omega)
    rw [ZdR (k := j - 1) (by omega), ZdR (k := j) (by omega)]
    exact e.trans h.perm
  · rw [hv p, hv q]
    have A := h.at_ p q h1 h2
    have B := h.at_ p (j - 1)
    have C := h.at_ j q
    have E := h.at_ (j - 1) q
    rw [if_neg h3]
    by_cases hq : q = j
    · rw [if_pos hq]
      split
      · omega
      · rw [if_neg (by omega)]; exact B (by omega) (by omega) (by omega)
    · rw [if_neg hq]
      split
      · exact C (by omega) h2 hq
      · split
        · exact E (by omega) h2 hq
        · exact A hq
structure RiseI (n c : Nat) (rs : List Int) : Prop where
  len : rs.length = 6
  le : n ≤ c ∧ c ≤ 6 ∧ n ≤ 2
  zero : ∀ j, j < 6 → j < n ∨ c ≤ j → na rs j = 0
  rise : ∀ j, n ≤ j → j < c → 6 ≤ na rs j ∧ na rs j ≤ 20
  up : ∀ j, n ≤ j → j + 1 < c → na rs j ≤ na rs (j + 1)
theorem RiseI.start {n : Nat} (h : n ≤ 2) : RiseI n n [0, 0, 0, 0, 0, 0] := ⟨rfl, ⟨by omega, by omega, h⟩, fun j hj _ => by
  match j, hj with
  | 0, _ | 1, _ | 2, _ | 3, _ | 4, _ | 5, _ => rfl, fun j h1 h2 => by omega, fun j h1 h2 => by omega⟩
theorem RiseI.more {n c : Nat} {rs : List Int} {v : Int} (h : RiseI n c rs) (hc : c < 6) (hv : 6 ≤ v ∧ v ≤ 20) (hu : n < c → na rs (c - 1) ≤ v) : RiseI n (c + 1) (rs.set c v) := by
  have hle := h.le
  have hat : ∀ j, na (rs.set c v) j = if c = j then v else na rs j := fun j => Z2j (by rw [h.len]; omega)
  refine ⟨by rw [List.length_set]; exact h.len, ⟨by omega, by omega, hle.2.2⟩, fun j hj h1 => ?_, fun j h1 h2 => ?_, fun j h1 h2 => ?_⟩
  · rw [hat, if_neg (by omega)]; exact h.zero j hj (by omega)
  · rw [hat]
    split
    · exact hv
    · exact h.rise j h1 (by omega)
  · rw [hat, hat, if_neg (show ¬ c = j by omega)]
    split
    · rename_i e
      have := hu (by omega)
      rw [show c - 1 = j by omega] at this
      exact this
    · exact h.up j h1 (by omega)
structure BinH (x : HBin) : Prop where
  mark : 18 ≤ x.mark ∧ x.mark ≤ 60
  warm : 0 ≤ x.warm ∧ x.warm ≤ x.mark
  lo : 0 ≤ x.lo ∧ x.lo ≤ 5
  hi : x.lo ≤ x.hi ∧ x.hi ≤ 5
structure MadeH (b : Barn) (nb ng : Int) : Prop where
  ok : b.ok
  check : b.check = 0
  nb : (b.bins.length : Int) ≤ nb
  ng : b.gangs ≤ ng
  bins : ∀ x ∈ b.bins, BinH x
theorem ZaG {l : List Int} (h : l.length = 6) : ∃ a b c d e f, l = [a, b, c, d, e, f] := by
  match l, h with
  | [a, b, c, d, e, f], _ => exact ⟨a, b, c, d, e, f, rfl⟩
theorem Zc1 {n : Nat} {rs : List Int} {bl : List HBin} {cool gangs nb ng : Int} (hr : RiseI n 6 rs) (hb : ∀ x ∈ bl, BinH x) (hl : 1 ≤ bl.length ∧ bl.length ≤ 4) (hnb : (bl.length : Int) ≤ nb) (hc : 0 ≤ cool ∧ cool ≤ 60) (hg : 0 ≤ gangs ∧ gangs ≤ 3) (hng : gangs ≤ ng) : MadeH ⟨cool, gangs, rs, bl⟩ nb ng := by
  have hok : Barn.ok ⟨cool, gangs, rs, bl⟩ := by
    refine ⟨hr.len, hl, hc, ⟨hg.1, by show gangs ≤ 4; omega⟩, fun v hv => ?_, fun x hx => ?_, ?_, fun x hx => (hb x hx).hi.1⟩
    · obtain ⟨j, hj⟩ := List.getElem?_of_mem hv
      have hj6 := (List.getElem?_eq_some_iff.1 hj).1
      have hv2 : na rs j = v := by unfold na; rw [List.getD_eq_getElem?_getD, hj]; rfl
      have hlen := hr.len
      have hj6 : j < 6 := by have : (Barn.mk cool gangs rs bl).rise.length = 6 := hlen; omega
      rcases Nat.lt_or_ge j n with h1 | h1
      · left; rw [← hv2]; exact hr.zero j hj6 (.inl h1)
      · right; rw [← hv2]; exact hr.rise j h1 hj6
    · have h1 := hb x hx
      exact ⟨⟨by have := h1.mark; omega, h1.mark.2⟩, h1.warm, h1.lo, by have := h1.lo; have := h1.hi; omega⟩
    · have key : ∀ j, j + 1 < 6 → na rs j ≤ na rs (j + 1) := fun j hj => by
        rcases Nat.lt_or_ge j n with h1 | h1
        · rw [hr.zero j (by omega) (.inl h1)]
          rcases Nat.lt_or_ge (j + 1) n with h2 | h2
          · rw [hr.zero (j + 1) hj (.inl h2)]; exact Int.le_refl _
          · have := hr.rise (j + 1) h2 hj; omega
        · exact hr.up j h1 hj
      show srt rs = true
      have k0 := key 0 (by omega); have k1 := key 1 (by omega); have k2 := key 2 (by omega); have k3 := key 3 (by omega); have k4 := key 4 (by omega)
      obtain ⟨a, b, c, d, e, f, rfl⟩ := ZaG hr.len
      simp only [na, List.getD_cons_zero, List.getD_cons_succ] at k0 k1 k2 k3 k4
      simp [srt, k0, k1, k2, k3, k4]
  exact ⟨hok, Z2y hok hg.2, hnb, hng, hb⟩
theorem ZaY {c g : Int} {rs : List Int} {bl : List HBin} {sl : Value} {k : Nat} (hk : k < 6) : (btl ⟨c, g, rs, bl⟩ sl)[0 + 2 + ((k : Nat) : Int).toNat * 1]? = some (.int .i64 (na rs k)) := by
  match k, hk with
  | 0, _ | 1, _ | 2, _ | 3, _ | 4, _ | 5, _ => rfl
theorem Z4b {c g : Int} {rs : List Int} {bl : List HBin} {sl : Value} {k : Nat} (hk : k < 6) (hr : rs.length = 6) (v : Int) : spl (btl ⟨c, g, rs, bl⟩ sl) (0 + 2 + ((k : Nat) : Int).toNat * 1) [.int .i64 v] = btl ⟨c, g, rs.set k v, bl⟩ sl := by
  obtain ⟨a, b, c, d, e, f, rfl⟩ := ZaG hr
  match k, hk with
  | 0, _ | 1, _ | 2, _ | 3, _ | 4, _ | 5, _ => rfl
theorem c_Made (g : List Int) (ag : Option Addr) (cg bk : Nat) (hgl : g.length ≤ 9223372036854775807) (tq mx : Int) (htq : 0 ≤ tq ∧ tq ≤ 1000000) (hmx : 0 ≤ mx ∧ mx ≤ 4294967295) (nb ng : Int) (hnb : 1 ≤ nb ∧ nb ≤ 4) (hng : 0 ≤ ng ∧ ng ≤ 3) (H : Z7) (R : Z5) [hG : MemRows ag 1 (urows g) R] :
    Fn Tryz.prog 6 [.pointer (some ⟨bk, 0, none⟩), .int .i64 nb, .int .i64 ng] ((bk, cel 73 [.slice ag g.length cg, .int .i64 (tq), .int .u32 (mx)]) :: H) R (fun v H' R' => ∃ (b : Barn) (ab : Option Addr) (cb : Nat) (tq' mx' : Int), MadeH b nb ng ∧ v = b.v (b.sl ab cb) ∧ (tq ≤ tq' ∧ tq' ≤ tq + 40) ∧ (0 ≤ mx' ∧ mx' ≤ 4294967295) ∧
      H' = (bk, cel 73 [.slice ag g.length cg, .int .i64 (tq'), .int .u32 (mx')]) :: H ∧ R' = RowsA ab 4 (brows b.bins) :: R) := by
 refine Z9 Tryz.func6 rfl Tryz.ntmps6 rfl ?_
 refine sqt 1 rfl (alc rfl Z0n rfl (fun b6 => sqt 8 rfl (pur 1 rfl ?_)))
 refine Zo bk ?_
 refine cl rfl Z0s rfl rfl (ZC g ag cg bk hgl _ _ (by omega) (by assumption) (30) _ _) ?_
 rintro _ _ R1 ⟨x13, m13, hx13, rfl, hm13, rfl, hR1⟩
 obtain rfl := hR1.symm
 refine pur 2 rfl ?_
 refine cl rfl Z2v rfl rfl (Z0o g ag cg bk hgl _ _ (by omega) (by assumption) (0) (ng) (by first | omega | (dsimp only; omega)) _ _) ?_
 rintro _ _ R1 ⟨x16, m16, hx16, rfl, hm16, rfl, hR1⟩
 obtain rfl := hR1.symm
 refine sp rfl (PE.build (out := btl ⟨x13, x16, [0, 0, 0, 0, 0, 0], []⟩ (.slice none 0 0)) Z5s Z0n rfl rfl) rfl (alc rfl Z0n rfl (fun b7 => ?_))
 refine sto rfl rfl rfl Z02 rfl rfl rfl rfl ?_
 refine sqt 3 rfl (pur 1 rfl ?_)
 refine Zo bk ?_
 refine cl rfl Z2v rfl rfl (Z0o g ag cg bk hgl _ _ (by omega) (by assumption) (0) (2) (by first | omega | (dsimp only; omega)) _ _) ?_
 rintro _ _ R1 ⟨x19, m19, hx19, rfl, hm19, rfl, hR1⟩
 obtain rfl := hR1.symm
 refine pur 1 rfl (Z0 (sqt 2 rfl (pur 2 rfl (Z3 ?_))))
 obtain ⟨n, rfl⟩ : ∃ n : Nat, x19 = n := ⟨x19.toNat, by omega⟩
 refine Ze (ι := {x : Nat × List Int × Int × Int // RiseI n x.1 x.2.1 ∧ (tq + 3 ≤ x.2.2.1 ∧ x.2.2.1 ≤ tq + 3 + x.1) ∧ (0 ≤ x.2.2.2 ∧ x.2.2.2 ≤ 4294967295)}) (fun x => ⟨[(0, .pointer (some ⟨bk, 0, none⟩)), (1, .int .i64 nb), (6, .pointer (some ⟨b6, 0, none⟩)), (7, .pointer (some ⟨b7, 0, none⟩)), (8, .int .i64 n), (9, .int .i64 x.1.1)], (bk, cel 73 [.slice ag g.length cg, .int .i64 (x.1.2.2.1), .int .u32 (x.1.2.2.2)]) :: (b7, cel 37 (btl ⟨x13, x16, x.1.2.1, []⟩ (.slice none 0 0))) :: (b6, cel 37 (btl zbarn (.slice none 0 0))) :: H, R⟩) (fun x => 6 - x.1.1) ⟨(n, [0, 0, 0, 0, 0, 0], tq + 1 + 1 + 1, m19), RiseI.start (by omega), by dsimp only; omega, by assumption⟩ ?_ (fun x => ?_)
 exact Zl idH
 obtain ⟨⟨c, rs, tq2, mx2⟩, hri, htq2, hmx2⟩ := x
 dsimp only at hri htq2 hmx2 ⊢
 have hle := hri.le
 have hrl := hri.len
 refine Z0 (sqt 2 rfl (pur 2 rfl ?_))
 refine Z2 rfl ?_ ?_ <;> intro hc0 <;> try simp only [cS] at hc0
 refine Z4 (Z0 (Z3 (sqt 1 rfl (pur 1 rfl (Z0 (sqt 3 rfl (pur 3 rfl ?_)))))))
 refine Z2 rfl ?_ ?_ <;> intro hc1 <;> try simp only [cS] at hc1
 have hrp := hri.rise (c - 1) (by omega) (by omega)
 refine sqr 6 rfl (pur 1 rfl (sp rfl (PE.sub rfl rfl (by omega)) rfl ?_))
 rw [show (c : Int) - 1 = ((c - 1 : Nat) : Int) by omega]
 refine sp rfl (PE.fA Z1X rfl) rfl (sp rfl (PE.indexArr Zaq rfl rfl (by omega) (by omega)) rfl (spL rfl rfl (lh sc3 rfl (ZaY (by omega))) rfl (pur 1 rfl (sqr 9 rfl (pur 3 rfl ?_)))))
 refine Zo bk ?_
 refine cl rfl Z0s rfl rfl (ZC g ag cg bk hgl _ _ (by omega) (by assumption) (4) _ _) ?_
 rintro _ _ R1 ⟨x36, m36, hx36, rfl, hm36, rfl, hR1⟩
 obtain rfl := hR1.symm
 refine sp rfl (PE.add rfl rfl (by omega)) rfl (sp rfl (PE.min rfl rfl) rfl (sp rfl (PE.fA Z1X rfl) rfl (sp rfl (PE.indexArr Zaq rfl rfl (by omega) (by omega)) rfl ?_)))
 first | refine ZQ (l' := btl ⟨x13, x16, rs.set c (min 20 (na rs (c - 1) + x36)), []⟩ (.slice none 0 0)) rfl rfl rfl cn3 rfl rfl rfl (Z4b (by omega) hrl _) (by show 0 + 2 + ((c : Nat) : Int).toNat * 1 + 1 ≤ 9; omega) ?_ | refine ZQ (l' := btl ⟨x13, x16, rs.set c (min 20 (6 + x36)), []⟩ (.slice none 0 0)) rfl rfl rfl cn3 rfl rfl rfl (Z4b (by omega) hrl _) (by show 0 + 2 + ((c : Nat) : Int).toNat * 1 + 1 ≤ 9; omega) ?_
 refine sqr 3 rfl (pur 1 rfl (sp rfl (PE.add rfl rfl (by omega)) rfl (pur 1 rfl ?_)))
 first | exact Zd ⟨(c + 1, rs.set c (min 20 (na rs (c - 1) + x36)), tq2 + 1, m36), hri.more (by omega) (by omega) (fun _ => by omega), by dsimp only; omega, by assumption⟩ (by dsimp only; omega) idH | exact Zd ⟨(c + 1, rs.set c (min 20 (6 + x36)), tq2 + 1, m36), hri.more (by omega) (by omega) (fun h => by omega), by dsimp only; omega, by assumption⟩ (by dsimp only; omega) idH
 refine Z4 (sqr 9 rfl (pur 3 rfl ?_))
 refine Zo bk ?_
 refine cl rfl Z0s rfl rfl (ZC g ag cg bk hgl _ _ (by omega) (by assumption) (4) _ _) ?_
 rintro _ _ R1 ⟨x36, m36, hx36, rfl, hm36, rfl, hR1⟩
 obtain rfl := hR1.symm
 refine sp rfl (PE.add rfl rfl (by omega)) rfl (sp rfl (PE.min rfl rfl) rfl (sp rfl (PE.fA Z1X rfl) rfl (sp rfl (PE.indexArr Zaq rfl rfl (by omega) (by omega)) rfl ?_)))
 first | refine ZQ (l' := btl ⟨x13, x16, rs.set c (min 20 (na rs (c - 1) + x36)), []⟩ (.slice none 0 0)) rfl rfl rfl cn3 rfl rfl rfl (Z4b (by omega) hrl _) (by show 0 + 2 + ((c : Nat) : Int).toNat * 1 + 1 ≤ 9; omega) ?_ | refine ZQ (l' := btl ⟨x13, x16, rs.set c (min 20 (6 + x36)), []⟩ (.slice none 0 0)) rfl rfl rfl cn3 rfl rfl rfl (Z4b (by omega) hrl _) (by show 0 + 2 + ((c : Nat) : Int).toNat * 1 + 1 ≤ 9; omega) ?_
 refine sqr 3 rfl (pur 1 rfl (sp rfl (PE.add rfl rfl (by omega)) rfl (pur 1 rfl ?_)))
 first | exact Zd ⟨(c + 1, rs.set c (min 20 (na rs (c - 1) + x36)), tq2 + 1, m36), hri.more (by omega) (by omega) (fun _ => by omega), by dsimp only; omega, by assumption⟩ (by dsimp only; omega) idH | exact Zd ⟨(c + 1, rs.set c (min 20 (6 + x36)), tq2 + 1, m36), hri.more (by omega) (by omega) (fun h => by omega), by dsimp only; omega, by assumption⟩ (by dsimp only; omega) idH
 obtain rfl : c = 6 := by omega
 refine Zb (Zc (Zc (ZA (Z0 (sqt 4 rfl (pur 2 rfl ?_))))))
 refine cl rfl Z2v rfl rfl (Z0o g ag cg bk hgl _ _ (by omega) (by assumption) (1) (nb) (by first | omega | (dsimp only; omega)) _ _) ?_
 rintro _ _ R1 ⟨x43, m43, hx43, rfl, hm43, rfl, hR1⟩
 obtain rfl := hR1.symm
 refine pur 1 rfl (Z3 ?_)
 obtain ⟨n43, rfl⟩ : ∃ n : Nat, x43 = n := ⟨x43.toNat, by omega⟩
 refine Ze (ι := (x : {x : Nat × List HBin × Int × Int // x.1 ≤ n43 ∧ x.2.1.length = x.1 ∧ (∀ y ∈ x.2.1, BinH y) ∧ (tq ≤ x.2.2.1 ∧ x.2.2.1 ≤ tq + 10 + 4 * x.1) ∧ (0 ≤ x.2.2.2 ∧ x.2.2.2 ≤ 4294967295)}) × OSl 53 4 (brows x.1.2.1)) (fun x => ⟨[(0, .pointer (some ⟨bk, 0, none⟩)), (1, .int .i64 nb), (6, .pointer (some ⟨b6, 0, none⟩)), (7, .pointer (some ⟨b7, 0, none⟩)), (8, .int .i64 n), (43, .int .i64 n43), (44, .int .i64 x.1.1.1)], (bk, cel 73 [.slice ag g.length cg, .int .i64 (x.1.1.2.2.1), .int .u32 (x.1.1.2.2.2)]) :: (x.2.G ++ (b7, cel 37 (btl ⟨x13, x16, rs, x.1.1.2.1⟩ x.2.fs)) :: (b6, cel 37 (btl zbarn (.slice none 0 0))) :: H), R⟩) (fun x => n43 - x.1.1.1) ⟨⟨(0, [], tq2 + 1, m43), Nat.zero_le _, rfl, by simp, by dsimp only; omega, by assumption⟩, OSl.nil _ _⟩ ?_ (fun x => ?_)
 exact Zl idH
 obtain ⟨⟨⟨i, bl, tq3, mx3⟩, hi, hbl, hbh, htq3, hmx3⟩, o⟩ := x
 dsimp only at hi hbl hbh htq3 hmx3 o ⊢
 refine sqt 1 rfl (pur 1 rfl (Z0 ?_))
 refine Z2 rfl ?_ ?_ <;> intro hc2 <;> try simp only [cS] at hc2
 refine Z4 (Z0 (Z3 (sqt 8 rfl (pur 1 rfl ?_))))
 refine cl rfl Z2v rfl rfl (Z0o g ag cg bk hgl _ _ (by omega) (by assumption) (18) (60) (by first | omega | (dsimp only; omega)) _ _) ?_
 rintro _ _ R1 ⟨x47, m47, hx47, rfl, hm47, rfl, hR1⟩
 obtain rfl := hR1.symm
 refine pur 1 rfl ?_
 refine cl rfl Z0s rfl rfl (ZC g ag cg bk hgl _ _ (by omega) (by assumption) (6) _ _) ?_
 rintro _ _ R1 ⟨x49, m49, hx49, rfl, hm49, rfl, hR1⟩
 obtain rfl := hR1.symm
 refine sp rfl (PE.build (out := [_, _]) Z3s Z1t rfl rfl) rfl (sp rfl (PE.build (out := [_, _, _, _]) Ze4 Z79 rfl rfl) rfl (alc rfl Z79 rfl (fun b11 => ?_)))
 refine sto rfl rfl rfl ZcK rfl rfl rfl rfl ?_
 refine Z0 ?_
 refine Z8 [0, 0, 2, 6, 14, 31, 0, 0, 128, 384, 0, 1024, 3072, 7168, 15360, 32767, 8127, 131071, 262143, 524287, 1048575] (.tk 0 (.tk 1 (.ld 2 (.tk 3 (.tk 4 (tks 6 3 (.ld 9 (.tk 10 (.tk 11 (.ld 12 (.tk 13 (.tk 14 (.big 5 (.tk 16 (.big 15 (.big 17 (.tk 18 (.tk 19 (.big 20 .done))))))))))))))))))) Zr (by kernel_rfl) ?_
 refine Zg 1 rfl (tk rfl (PE.fA Z3M rfl) rfl (ld rfl rfl (lh sc3 rfl rfl) rfl (tk rfl (PE.min rfl rfl) rfl (tk rfl (PE.add rfl rfl (by omega)) rfl (Zg 1 rfl (tk rfl (PE.fA ZS rfl) rfl (tk rfl (PE.fA ZH rfl) rfl (ld rfl rfl (lh sc3 rfl rfl) rfl (tk rfl (PE.fA ZS rfl) rfl (tk rfl (PE.fA ZH rfl) rfl (ld rfl rfl (lh sc3 rfl rfl) rfl (tk rfl (PE.add rfl rfl (by omega)) rfl (tk rfl (PE.min rfl rfl) rfl ?_)))))))))))))
 refine Zo bk ?_
 refine cl rfl Z0s rfl rfl (ZC g ag cg bk hgl _ _ (by omega) (by assumption) (min x47 30 + 1) _ _) ?_
 rintro _ _ R1 ⟨x57, m57, hx57, rfl, hm57, rfl, hR1⟩
 obtain rfl := hR1.symm
 refine bg (fun w hs => ⟨(lh sc3 rfl rfl) w hs, (lh sc3 rfl rfl) w hs, trivial, trivial⟩) ?_
 refine tk rfl (PE.fA Z2U rfl) rfl ?_
 refine Zo bk ?_
 refine cl rfl Z2v rfl rfl (Z0o g ag cg bk hgl _ _ (by omega) (by assumption) (x49) (min 5 (x49 + 2)) (by first | omega | (dsimp only; omega)) _ _) ?_
 rintro _ _ R1 ⟨x67, m67, hx67, rfl, hm67, rfl, hR1⟩
 obtain rfl := hR1.symm
 refine bgT ?_
 refine sto rfl rfl rfl cn3 rfl rfl rfl rfl ?_
 refine bgT (tk rfl (PE.fA ZS rfl) rfl (tk rfl (PE.fA ZI rfl) rfl ?_))
 refine sto rfl rfl rfl cn3 rfl rfl rfl rfl ?_
 refine bgT (sqr 7 rfl (sp rfl (PE.fA Zj rfl) rfl (spL rfl rfl (lh Z0b rfl rfl) rfl (spL rfl rfl (lhA [.int .i64 x57, .int .i64 x47, .int .i64 x49, .int .i64 x67] Z9i rfl rfl rfl) rfl ?_))))
 refine bsl (out := [_, _, _, _]) rfl Ze0 Z79 rfl rfl rfl rfl rfl rfl (fun b74 => ?_)
 refine apO (o) rfl ZdS rfl rfl (Z3g (row := Z2s ⟨x57, x47, x49, x67⟩) rfl) rfl rfl ((by rw [Z0P]; simp only [List.length_singleton]; omega)) rfl (fun o75 => ?_)
 refine sp rfl (PE.fA Zj rfl) rfl ?_
 refine ZQ (l' := btl ⟨x13, x16, rs, bl ++ [⟨x57, x47, x49, x67⟩]⟩ o75.fs) rfl rfl rfl Zfh rfl (by rw [o75.cells.1]; first | done | rfl) (by rw [o75.cells.1]; simp [o75.cells.2]) (by rw [o75.cells.1]; first | done | rfl) (by rw [o75.cells.1]; first | done | exact Nat.le_of_ble_eq_true rfl) ?_
 refine sqr 2 rfl (sp rfl (PE.add rfl rfl (by omega)) rfl (pur 1 rfl ?_))
 exact ZW ⟨⟨(i + 1, bl ++ [⟨x57, x47, x49, x67⟩], tq3 + 1 + 1 + 1 + 1, m67), by dsimp only; omega, by rw [List.length_append, hbl]; rfl, fun y hy => by
   rcases List.mem_append.1 hy with hy | hy
   · exact hbh y hy
   · rw [List.mem_singleton.1 hy]; exact ⟨by dsimp only; omega, by dsimp only; omega, by dsimp only; omega, by dsimp only; omega⟩, by dsimp only; omega, by assumption⟩, o75.cast (by rw [Z19]; rfl)⟩ (by dsimp only; omega) (by repeat' first | exact Sub.nil | apply Sub.cons | rfl | (simp [lk]; omega)) (fun w h => (h.del b74).del b11)
 obtain rfl : i = n43 := by omega
 obtain ⟨ab, cb, he, hf⟩ := o.freeze
 rw [he, Z0P]
 refine Sy.heap (H' := _) (fun w h => hf (h.perm (List.perm_middle (l₁ := o.G) (a := _)).symm)) ?_
 clear he hf
 have hmade := Zc1 (nb := nb) (ng := ng) hri hbh (by omega) (by omega) (show 0 ≤ x13 ∧ x13 ≤ 60 by omega) (show 0 ≤ x16 ∧ x16 ≤ 3 by omega) (by omega)
 refine Zb (Zc (Zc (ZA (sqt 2 rfl (spL rfl rfl (lhA (btl ⟨x13, x16, rs, bl⟩ (.slice ab bl.length cb)) Zt rfl rfl rfl) rfl ?_)))))
 refine sto rfl rfl rfl Z02 rfl rfl rfl rfl ?_
 refine Z1 ?_
 exact Z6 (vs := [_]) rfl (.cons (RV.cell rfl (lhA (btl ⟨x13, x16, rs, bl⟩ (.slice ab bl.length cb)) Zt rfl rfl rfl)) .nil) rfl ⟨⟨x13, x16, rs, bl⟩, ab, cb, _, _, hmade, rfl, ⟨by omega, by omega⟩, by assumption, rfl, rfl⟩ (fun w h => ((h.del b7).del b6))
structure DayI (sp : List Nat) (k : Nat) (l : List Int) : Prop where
  nd : l.Nodup
  mem : ∀ y ∈ l, ∃ i j : Nat, i < k ∧ sp[i]? = some j ∧ y = (j : Int)
theorem DayI.skip {sp : List Nat} {k : Nat} {l : List Int} (h : DayI sp k l) : DayI sp (k + 1) l := ⟨h.nd, fun y hy => by obtain ⟨i, j, h1, h2⟩ := h.mem y hy; exact ⟨i, j, by omega, h2⟩⟩
theorem DayI.more {sp : List Nat} {k j : Nat} {l : List Int} (h : DayI sp k l) (hn : sp.Nodup) (hj : sp[k]? = some j) : DayI sp (k + 1) (l ++ [(j : Int)]) := by
  refine ⟨List.nodup_append.2 ⟨h.nd, by simp, fun x hx y hy e => ?_⟩, fun y hy => ?_⟩
  · rw [List.mem_singleton] at hy
    obtain ⟨i, j', h1, h2, h3⟩ := h.mem x hx
    have e2 : j' = j := by omega
    subst e2
    have hi := (List.getElem?_eq_some_iff.1 h2).1
    have := (List.getElem?_inj hi hn).1 (h2.trans hj.symm)
    omega
  · rcases List.mem_append.1 hy with hy | hy
    · obtain ⟨i, j', h1, h2⟩ := h.mem y hy; exact ⟨i, j', by omega, h2⟩
    · rw [List.mem_singleton.1 hy]; exact ⟨k, j, by omega, hj, rfl⟩
structure Cls (b : Barn) (cl : List Int) : Prop where
  len : cl.length = b.bins.length
  at_ : ∀ k x, b.bins[k]? = some x → x.lo ≤ na cl k ∧ na cl k ≤ x.hi
theorem Zbo {b : Barn} (hok : b.ok) (j : Nat) : 0 ≤ na b.rise j ∧ na b.rise j ≤ 20 := by
  unfold na
  rw [List.getD_eq_getElem?_getD]
  cases h : b.rise[j]? with
  | none => simp
  | some v => have := hok.rise v (List.mem_of_getElem? h); simp only [Option.getD_some]; omega
theorem Cls.rise {b : Barn} (hok : b.ok) {cl : List Int} (h : Cls b cl) : ∀ k < b.bins.length, na b.rise (na cl k).toNat ≤ b.worst (b.bins.getD k hb0) := fun k hk => by
  obtain ⟨x, hx⟩ : ∃ x, b.bins[k]? = some x := ⟨_, List.getElem?_eq_getElem hk⟩
  rw [Z01 hx]
  have h1 := h.at_ k x hx
  have h2 := hok.bins x (List.mem_of_getElem? hx)
  exact Z85 hok.srt (by omega) (by rw [hok.len]; omega)
theorem Z7e {b : Barn} (hck : b.check = 0) {p : List (List Nat)} (hl : p.length ≤ 20000) (h : ∀ l ∈ p, l ∈ b.dsk.trs false) : b.planned (p.map il) = 0 := by
  unfold Barn.planned
  rw [decide_eq_true hck, cond_true]
  exact Z6c (d := b.dsk) hl h
theorem c_LongestX (b : Barn) (ab : Option Addr) (cb : Nat) (hl : b.bins.length ≤ 9223372036854775807) (hr : b.rise.length = 6) (hck : b.check = 0) (H : Z7) (R : Z5) [hB : MemRows ab 4 (brows b.bins) R] : Fn Tryz.prog 11 [b.v (b.sl ab cb)] H R (fun v H' R' => (∃ m, Kpt b.dsk b.state m ∧ v = .tuple #[.int .i64 m, .int .i64 0]) ∧ H' = H ∧ R' = R) := fun w hw => by
  refine CallsIn.mono (Z3p b ab cb hl hr H R w hw) ?_
  rintro e' w' ⟨u, H', R', ⟨h1, h2, h3⟩, he, hs'⟩
  refine ⟨u, H', R', ⟨?_, h2, h3⟩, he, hs'⟩
  rcases h1 with ⟨h, _⟩ | ⟨_, m, hm, rfl⟩
  · exact absurd hck h
  · exact ⟨m, hm, rfl⟩
theorem Zdo {b : Barn} {p : List (List Int)} (h : b.planned p = 0) : plQ b p = Z5I b p ∧ plK b p = !(Z5I b p).2.2 ∧ plU b p = bif (Z5I b p).2.2 then 0 else 6 := by
  unfold plQ plK plU
  rw [decide_eq_true h]
  exact ⟨rfl, rfl, rfl⟩
theorem c_KeepsK (b : Barn) (ab : Option Addr) (cb : Nat) (hl : b.bins.length ≤ 9223372036854775807) (hr : b.rise.length = 6) (pl : List PL) (ap : Option Addr) (cp : Nat) (hpl : pl.length ≤ 9223372036854775807) (hpi : ∀ x ∈ pl, x.l.length ≤ 9223372036854775807) (hpo : b.planned (lls pl) = 0) (H : Z7) (R : Z5) [hB : MemRows ab 4 (brows b.bins) R] [hP : MemRows ap 1 (Zz pl) R] [hI : MemF (Inn pl) R] : FnV Tryz.prog 13 [b.v (b.sl ab cb), .slice ap pl.length cp] H R (.tuple #[.bool (!(Z5I b (lls pl)).2.2), .int .i64 0]) := by
  have h := Z9n b ab cb hl hr pl ap cp hpl hpi H R
  rw [(Zdo hpo).2.1, hpo] at h
  exact h
theorem Z9L {r r' m m' w : Int} (h0 : 0 ≤ r') (hr : r' ≤ r) (hm : m ≤ m') (h60 : m ≤ 60) (hw : 0 ≤ w) : Z00 r m w ≤ Z00 r' m' w := by
  unfold Z00
  by_cases h1 : r' = 0
  · rw [decide_eq_true h1, cond_true]
    by_cases h2 : r = 0
    · rw [decide_eq_true h2]; exact Int.le_refl _
    · rw [decide_eq_false h2, cond_false]
      by_cases h3 : m < w
      · rw [decide_eq_true h3, cond_true]; omega
      · rw [decide_eq_false h3, cond_false]
        exact Int.le_trans (Int.ediv_le_self _ (by omega)) (by omega)
  · rw [decide_eq_false h1, decide_eq_false (show ¬ r = 0 by omega), cond_false, cond_false]
    by_cases h3 : m < w
    · rw [decide_eq_true h3, cond_true]
      by_cases h4 : m' < w
      · rw [decide_eq_true h4]; exact Int.le_refl _
      · rw [decide_eq_false h4, cond_false]; exact Int.ediv_nonneg (by omega) (by omega)
    · rw [decide_eq_false h3, decide_eq_false (show ¬ m' < w by omega), cond_false, cond_false]
      refine Int.le_ediv_of_mul_le (by omega) ?_
      have h5 : 0 ≤ (m - w) / r := Int.ediv_nonneg (by omega) (by omega)
      have h6 : (m - w) / r * r' ≤ (m - w) / r * r := Int.mul_le_mul_of_nonneg_left hr h5
      have h7 := Int.ediv_mul_le (m - w) (show r ≠ 0 by omega)
      omega
theorem ZcV {b b' : Barn} (hb : b.ok) (hb' : b'.ok) (hg : b.gangs ≤ b'.gangs) (hn : b.bins.length = b'.bins.length) (hx : ∀ (k : Nat) (x x' : HBin), b.bins[k]? = some x → b'.bins[k]? = some x' → b.days x b.cool ≤ b'.days x' b'.cool ∧ b.days x x.warm ≤ b'.days x' x'.warm) :
    Les b.dsk b'.dsk ∧ ∀ k < b.dsk.n, na b.state k ≤ na b'.state k := by
  have key : ∀ k, k < b.bins.length → ∃ x x', b.bins[k]? = some x ∧ b'.bins[k]? = some x' := fun k hk => ⟨_, _, List.getElem?_eq_getElem hk, List.getElem?_eq_getElem (by omega)⟩
  refine ⟨⟨hn, hg, fun k hk => ?_⟩, fun k hk => ?_⟩
  · obtain ⟨x, x', h1, h2⟩ := key k hk
    have a1 : na b.dsk.lasts k = b.days x b.cool := Z13 (b.map_get hb _ h1)
    have a2 : na b'.dsk.lasts k = b'.days x' b'.cool := Z13 (b'.map_get hb' _ h2)
    rw [a1, a2]; exact (hx k x x' h1 h2).1
  · obtain ⟨x, x', h1, h2⟩ := key k hk
    have a1 : na b.state k = b.days x x.warm := Z13 (b.map_get hb _ h1)
    have a2 : na b'.state k = b'.days x' x'.warm := Z13 (b'.map_get hb' _ h2)
    rw [a1, a2]; exact (hx k x x' h1 h2).2
theorem Z7Y {b b' : Barn} (hb : b.ok) (hb' : b'.ok) (h : Les b.dsk b'.dsk) (hs : ∀ k < b.dsk.n, na b.state k ≤ na b'.state k) {p : List (List Nat)} (hp : ∀ l ∈ p, l ∈ b.dsk.trs false) (hr : ∃ t, b.dsk.run b.state p = some t) : (∀ l ∈ p, l ∈ b'.dsk.trs false) ∧ (b'.burnsF b'.warms (p.map il) 0).1 = none := by
  have hp' : ∀ l ∈ p, l ∈ b'.dsk.trs false := fun l hl => h.trs (hp l hl)
  refine ⟨hp', ?_⟩
  obtain ⟨t, ht⟩ := hr
  obtain ⟨t', h1, _⟩ := h.run (b.dsk_ok hb) (b'.dsk_ok hb') (b.state_inS hb) (b'.state_inS hb') hs hp ht
  rcases Barn.run_burns hb' p b'.warms 0 (Cool.start hb') (fun l hl => b'.dsk.trs_lt (hp' l hl)) with ⟨ws, h3, _⟩ | ⟨x, ws, _, h4⟩
  · rw [h3]
  · rw [Barn.stw_warms hb', h1] at h4; cases h4
structure NoW (b b' : Barn) : Prop where
  ok : b'.ok
  check : b'.check = 0
  les : Les b.dsk b'.dsk
  st : ∀ k < b.dsk.n, na b.state k ≤ na b'.state k
theorem NoW.kpt {b b' : Barn} (h : NoW b b') (hok : b.ok) {v v' : Int} (hv : Kpt b.dsk b.state v) (hv' : Kpt b'.dsk b'.state v') : v ≤ v' :=
  (h.les.kpt (b.dsk_ok hok) (b'.dsk_ok h.ok) (b.state_inS hok) (b'.state_inS h.ok) h.st hv hv').1
theorem NoW.plan {b b' : Barn} (h : NoW b b') (hok : b.ok) {n c : Nat} {p : List (List Nat)} (hn : n ≤ 20) (hp : PlnOk b n c p) : planE b' n = 0 ∧ turnsV b' n ≤ c ∧ b'.planned (p.map il) = 0 ∧ (Z5I b' (p.map il)).2.2 = false := by
  obtain ⟨k1, k2⟩ := Z7Y hok h.ok h.les h.st hp.trs hp.run
  obtain ⟨t, ht⟩ := hp.few.is
  obtain ⟨t', i, _⟩ := h.les.pth (b.dsk_ok hok) (b'.dsk_ok h.ok) (b.state_inS hok) (b'.state_inS h.ok) h.st ht
  rcases Z3I h.ok h.check hn with ⟨_, _, h2⟩ | ⟨c', q, h2, h3, _, h4⟩
  · exact absurd ⟨_, _, i⟩ h2
  · have := h4.few.le _ _ i
    have hl := hp.len
    exact ⟨h2, by rw [h3]; omega, Z7e h.check (by omega) k1, brn_iff.2 k2⟩
theorem Zc5 {b : Barn} (hok : b.ok) (hck : b.check = 0) {k : Nat} {x y : HBin} (hx : b.bins[k]? = some x) (hw : y.warm = x.warm) (hm : x.mark ≤ y.mark ∧ y.mark ≤ 60) (hlo : 0 ≤ y.lo ∧ y.lo ≤ y.hi) (hh : y.hi ≤ x.hi) : NoW b (b.withB (b.bins.set k y)) := by
  have hk := (List.getElem?_eq_some_iff.1 hx).1
  have hxo := hok.bins x (List.mem_of_getElem? hx)
  have hok' : (b.withB (b.bins.set k y)).ok := by
    refine ⟨hok.len, by show 1 ≤ (b.bins.set k y).length ∧ (b.bins.set k y).length ≤ 4; rw [List.length_set]; exact hok.many, hok.cool, hok.gangs, hok.rise, fun z hz => ?_, hok.srt, fun z hz => ?_⟩
    · rcases List.mem_or_eq_of_mem_set hz with hz | rfl
      · exact hok.bins z hz
      · exact ⟨by omega, by omega, by omega, by omega⟩
    · rcases List.mem_or_eq_of_mem_set hz with hz | rfl
      · exact hok.ord z hz
      · exact hlo.2
  obtain ⟨l1, l2⟩ := ZcV hok hok' (Int.le_refl _) (List.length_set ..).symm (fun j z z' h1 h2 => by
    have h2 : (b.bins.set k y)[j]? = some z' := h2
    have key : ∀ w, 0 ≤ w → b.days z w ≤ b.days z' w := fun w hw0 => by
      rw [List.getElem?_set] at h2
      have hzo := hok.bins z (List.mem_of_getElem? h1)
      by_cases e : k = j
      · subst e
        rw [if_pos rfl, if_pos hk] at h2
        cases h2
        rw [hx] at h1; cases h1
        have hr := Zbo hok y.hi.toNat
        exact Z9L hr.1 (Z85 hok.srt (by omega) (by rw [hok.len]; omega)) hm.1 hxo.1.2 hw0
      · rw [if_neg e, h1] at h2; cases h2
        exact Int.le_refl _
    have hz := hok.bins z (List.mem_of_getElem? h1)
    refine ⟨key _ hok.cool.1, ?_⟩
    have e2 : z'.warm = z.warm := by
      rw [List.getElem?_set] at h2
      by_cases e : k = j
      · subst e
        rw [if_pos rfl, if_pos hk] at h2
        cases h2
        rw [hx] at h1; cases h1
        exact hw
      · rw [if_neg e, h1] at h2; cases h2; rfl
    rw [e2]
    exact key _ hz.2.1.1)
  exact ⟨hok', Z2y hok' (show b.gangs ≤ 3 from Z1D hck), l1, l2⟩
theorem c_PlanY (b : Barn) (ab : Option Addr) (cb : Nat) (hl : b.bins.length ≤ 9223372036854775807) (hr : b.rise.length = 6) (hok : b.ok) (hck : b.check = 0) (n : Nat) (hn : n ≤ 20) (H : Z7) (R : Z5) [hB : MemRows ab 4 (brows b.bins) R] : Fn Tryz.prog 12 [b.v (b.sl ab cb), .int .i64 n] H R (fun v H' R' => ∃ (pl : List PL) (ap : Option Addr) (cp : Nat), pl.length ≤ cp ∧ ((planE b n = 6 ∧ pl = [] ∧ ¬ ∃ t c, b.dsk.pth n b.state t c) ∨ ∃ (c : Nat) (p : List (List Nat)), planE b n = 0 ∧ turnsV b n = c ∧ PlnOk b n c p ∧ lls pl = p.map il) ∧ v = .tuple #[.slice ap pl.length cp, .int .i64 (planE b n)] ∧ H' = H ∧ R' = RowsA ap 1 (Zz pl) :: Inn pl :: R) := fun w hw => by
  refine CallsIn.mono (ZcT b ab cb hl hr n H R w hw) ?_
  rintro e' w' ⟨u, H', R', ⟨rfl, hq⟩, he, hs'⟩
  rcases Z3I hok hck hn with ⟨h1, _, h2⟩ | ⟨c, p, h1, h2, h3, h4⟩
  · rcases hq with ⟨_, rfl, rfl⟩ | ⟨h5, _⟩
    · exact ⟨_, _, _, ⟨[], none, 0, Nat.le_refl _, .inl ⟨h1, rfl, h2⟩, rfl, rfl, rfl⟩, he, St.noRows (St.inn0 hs')⟩
    · rw [h1] at h5; cases h5
  · rcases hq with ⟨h5, _⟩ | ⟨_, pl, bp, h5, rfl, rfl⟩
    · exact absurd h1 h5
    · rw [h3] at h5
      have hpl : pl.length = n := by have := congrArg List.length h5; rw [lls_len, List.length_map, h4.len] at this; exact this
      refine ⟨_, _, _, ⟨pl, some ⟨bp, 0, none⟩, n, by omega, .inr ⟨c, p, h1, h2, h4, h5⟩, ?_, rfl, rfl⟩, he, hs'⟩
      rw [Int.toNat_natCast, hpl, h1]
structure Prm (d d' : Dsk) (f g : Nat → Nat) : Prop where
  n : d.n = d'.n
  gg : d.gangs = d'.gangs
  st : ∀ i < d.n, f i < d.n ∧ g (f i) = i
  ts : ∀ i < d.n, g i < d.n ∧ f (g i) = i
  lasts : ∀ i < d.n, na d'.lasts (f i) = na d.lasts i
theorem Prm.symm {d d' : Dsk} {f g : Nat → Nat} (h : Prm d d' f g) : Prm d' d g f where
  n := h.n.symm
  gg := h.gg.symm
  st i hi := by have hn := h.n; have := h.ts i (by omega); exact ⟨by omega, this.2⟩
  ts i hi := by have hn := h.n; have := h.st i (by omega); exact ⟨by omega, this.2⟩
  lasts i hi := by
    have hn := h.n
    obtain ⟨h1, h2⟩ := h.ts i (by omega)
    have := h.lasts (g i) h1
    rw [h2] at this
    exact this.symm
def Prs (n : Nat) (f : Nat → Nat) (s s' : HSt) : Prop := ∀ i < n, na s' (f i) = na s i
def prl (n : Nat) (f : Nat → Nat) (l : List Nat) : List Nat := ZF n (Z0z (l.map f))
theorem Prm.mem {d d' : Dsk} {f g : Nat → Nat} (h : Prm d d' f g) {l : List Nat} (hl : ∀ k ∈ l, k < d.n) {i : Nat} (hi : i < d.n) : f i ∈ prl d.n f l ↔ i ∈ l := by
  unfold prl
  rw [mem_bitl, Z1Q, decide_eq_true_eq, List.mem_map]
  constructor
  · rintro ⟨_, j, hj, e⟩
    have h1 := (h.st j (hl j hj)).2
    have h2 := (h.st i hi).2
    rw [e, h2] at h1
    rw [h1]; exact hj
  · intro hm; exact ⟨(h.st i hi).1, i, hm, rfl⟩
theorem Z3V (n u : Nat) : (ZF n u).Nodup := by unfold ZF; exact List.nodup_range.filter _
theorem Prm.len {d d' : Dsk} {f g : Nat → Nat} (h : Prm d d' f g) {l : List Nat} (hl : ∀ k ∈ l, k < d.n) (hn : l.Nodup) : (prl d.n f l).length = l.length := by
  have h1 : (prl d.n f l).length ≤ (l.map f).length := Z0M (Z3V _ _) fun x hx => by
    unfold prl at hx
    rw [mem_bitl, Z1Q, decide_eq_true_eq] at hx
    exact hx.2
  have h2 : (l.map f).length ≤ (prl d.n f l).length := Z0M (Z3d (fun x hx y hy e => by
    have e1 := (h.st x (hl x hx)).2
    have e2 := (h.st y (hl y hy)).2
    rw [e, e2] at e1; exact e1.symm) hn) fun x hx => by
      obtain ⟨j, hj, rfl⟩ := List.mem_map.1 hx
      exact (h.mem hl (hl j hj)).2 hj
  rw [List.length_map] at h1 h2
  omega
theorem Prm.trs {d d' : Dsk} {f g : Nat → Nat} (h : Prm d d' f g) {l : List Nat} (hl : l ∈ d.trs false) : prl d.n f l ∈ d'.trs false ∧ (prl d.n f l).length = l.length := by
  have hlt := d.trs_lt hl
  obtain ⟨u, hu, rfl, h1, _⟩ := d.mem_trs.1 hl
  have e := h.len hlt (Z3V _ _)
  have hn := h.n; have hg := h.gg
  refine ⟨d'.mem_trs.2 ⟨Z0z ((ZF d.n u).map f), ?_, by rw [← hn]; rfl, ?_, fun h => by cases h⟩, e⟩
  · rw [← hn]
    exact Z48 fun k hk => by
      obtain ⟨j, hj, rfl⟩ := List.mem_map.1 hk
      exact (h.st j (hlt j hj)).1
  · rw [e]
    unfold Dsk.g at h1 ⊢
    omega
theorem Prm.mid {d d' : Dsk} {f g : Nat → Nat} (h : Prm d d' f g) {s s' : HSt} (hs : Prs d.n f s s') {l : List Nat} (hl : ∀ k ∈ l, k < d.n) {i : Nat} (hi : i < d.n) : d'.mid s' (prl d.n f l) (f i) = d.mid s l i := by
  unfold Dsk.mid
  rw [hs i hi, h.lasts i hi]
  by_cases hm : i ∈ l
  · rw [if_pos hm, if_pos ((h.mem hl hi).2 hm)]
  · rw [if_neg hm, if_neg (fun h2 => hm ((h.mem hl hi).1 h2))]
theorem Prm.next {d d' : Dsk} {f g : Nat → Nat} (h : Prm d d' f g) (hd : d.ok) {s s' t : HSt} (hsl : s.length = 4) (hsl' : s'.length = 4) (hs : Prs d.n f s s') {l : List Nat} (hl : ∀ k ∈ l, k < d.n) (e : d.next s l = some t) :
    ∃ t', d'.next s' (prl d.n f l) = some t' ∧ Prs d.n f t t' ∧ t.length = 4 ∧ t'.length = 4 := by
  have hn := h.n; have hn4 := hd.n
  obtain ⟨h1, h2⟩ := d.next_at hd.n.2 hsl hl e
  have hl' : ∀ k ∈ prl d.n f l, k < d'.n := fun k hk => by rw [← hn]; exact Z30 hk
  obtain ⟨t', ht'⟩ := d'.next_some (by omega) hsl' hl' (fun k hk => by
    have hk0 : k < d.n := by omega
    obtain ⟨g1, g2⟩ := h.ts k hk0
    have := h.mid hs hl g1
    rw [g2] at this
    rw [this]
    exact (h2 (g k)).1 g1)
  obtain ⟨h3, h4⟩ := d'.next_at (by omega) hsl' hl' ht'
  refine ⟨t', ht', fun i hi => ?_, h1, h3⟩
  obtain ⟨f1, _⟩ := h.st i hi
  rw [(h4 (f i)).2, (h2 i).2, h.mid hs hl hi]
  by_cases hc : d.mid s l i ≠ 1000000
  · rw [if_pos ⟨by omega, hc⟩, if_pos ⟨hi, hc⟩]
  · rw [if_neg (fun h => hc h.2), if_neg (fun h => hc h.2)]
theorem Prm.pth {d d' : Dsk} {f g : Nat → Nat} (h : Prm d d' f g) (hd : d.ok) {s s' : HSt} (hsl : s.length = 4) (hsl' : s'.length = 4) (hs : Prs d.n f s s') : ∀ {m : Nat} {t : HSt} {c : Nat}, d.pth m s t c → ∃ t', d'.pth m s' t' c ∧ Prs d.n f t t' ∧ t.length = 4 ∧ t'.length = 4
  | 0, t, c, hp => by obtain ⟨rfl, rfl⟩ := hp; exact ⟨s', ⟨rfl, rfl⟩, hs, hsl, hsl'⟩
  | m + 1, t, c, hp => by
    obtain ⟨u, a, l, h1, h2, h3, rfl⟩ := hp
    obtain ⟨u', i1, i2, i3, i4⟩ := Prm.pth h hd hsl hsl' hs h1
    obtain ⟨t', j1, j2, j3, j4⟩ := h.next hd i3 i4 i2 (d.trs_lt h2) h3
    obtain ⟨k1, k2⟩ := h.trs h2
    exact ⟨t', ⟨u', a, _, i1, k1, j1, by rw [k2]⟩, j2, j3, j4⟩
theorem Prs.symm {d d' : Dsk} {f g : Nat → Nat} (h : Prm d d' f g) {s s' : HSt} (hs : Prs d.n f s s') : Prs d'.n g s' s := fun i hi => by
  have hn := h.n
  obtain ⟨h1, h2⟩ := h.ts i (by omega)
  have := hs (g i) h1
  rw [h2] at this
  exact this.symm
theorem Prm.kpt {d d' : Dsk} {f g : Nat → Nat} (h : Prm d d' f g) (hd : d.ok) (hd' : d'.ok) {s s' : HSt} (hs : d.inS s) (hs' : d'.inS s') (hp : Prs d.n f s s') {v v' : Int} (hv : Kpt d s v) (hv' : Kpt d' s' v') : v = v' := by
  have a := (Z8w hd hd' hs hs' (fun n ⟨t, c, q⟩ => by obtain ⟨t', i, _⟩ := h.pth hd hs.len hs'.len hp q; exact ⟨t', c, i⟩) hv hv').1
  have b := (Z8w hd' hd hs' hs (fun n ⟨t, c, q⟩ => by obtain ⟨t', i, _⟩ := h.symm.pth hd' hs'.len hs.len (hp.symm h) q; exact ⟨t', c, i⟩) hv' hv).1
  omega
theorem Prm.few {d d' : Dsk} {f g : Nat → Nat} (h : Prm d d' f g) (hd : d.ok) (hd' : d'.ok) {s s' : HSt} (hsl : s.length = 4) (hsl' : s'.length = 4) (hp : Prs d.n f s s') (n : Nat) :
    ((∃ t c, d.pth n s t c) ↔ ∃ t c, d'.pth n s' t c) ∧ ∀ c c', FewC d s n c → FewC d' s' n c' → c = c' := by
  refine ⟨⟨fun ⟨t, c, q⟩ => ?_, fun ⟨t, c, q⟩ => ?_⟩, fun c c' h1 h2 => ?_⟩
  · obtain ⟨t', i, _⟩ := h.pth hd hsl hsl' hp q; exact ⟨t', c, i⟩
  · obtain ⟨t', i, _⟩ := h.symm.pth hd' hsl' hsl (hp.symm h) q; exact ⟨t', c, i⟩
  · obtain ⟨t, ht⟩ := h1.is
    obtain ⟨t', i, _⟩ := h.pth hd hsl hsl' hp ht
    have := h2.le _ _ i
    obtain ⟨u, hu⟩ := h2.is
    obtain ⟨u', j, _⟩ := h.symm.pth hd' hsl' hsl (hp.symm h) hu
    have := h1.le _ _ j
    omega
noncomputable def Zg1 (p : List Nat) (i : Nat) : Nat := Classical.epsilon (fun j : Nat => p[j]? = some i)
theorem Ord.get {p : List Nat} {n i : Nat} (h : Ord p n) (hi : i < n) : ∃ j, p[i]? = some j ∧ j < n := by
  have hl := h.len
  refine ⟨_, List.getElem?_eq_getElem (by omega), h.lt _ (List.getElem_mem (by omega))⟩
theorem Ord.onto {p : List Nat} {n i : Nat} (h : Ord p n) (hi : i < n) : ∃ j : Nat, p[j]? = some i := by
  apply Classical.byContradiction
  intro hno
  have hm : i ∉ p := fun hm => hno (List.getElem?_of_mem hm)
  have h1 := Z0M (l := i :: p) (m := List.range n) (List.nodup_cons.2 ⟨hm, h.nd⟩) (fun x hx => by
    rcases List.mem_cons.1 hx with rfl | hx
    · exact List.mem_range.2 hi
    · exact List.mem_range.2 (h.lt x hx))
  have hl := h.len
  rw [List.length_cons, List.length_range] at h1
  omega
theorem Ord.inv {p : List Nat} {n i : Nat} (h : Ord p n) (hi : i < n) : p[Zg1 p i]? = some i := Classical.epsilon_spec (h.onto hi)
structure Put (b : Barn) (p : List Nat) (L : List HBin) : Prop where
  ord : Ord p b.bins.length
  len : L.length = b.bins.length
  at_ : ∀ (j q : Nat), p[j]? = some q → L[q]? = b.bins[j]?
theorem Put.ok {b : Barn} {p : List Nat} {L : List HBin} (h : Put b p L) (hb : b.ok) : (b.withB L).ok := by
  have key : ∀ x ∈ L, x ∈ b.bins := fun x hx => by
    obtain ⟨q, hq⟩ := List.getElem?_of_mem hx
    have hql := (List.getElem?_eq_some_iff.1 hq).1
    have hl := h.len
    obtain ⟨j, hj⟩ := h.ord.onto (i := q) (by omega)
    rw [h.at_ j q hj] at hq
    exact List.mem_of_getElem? hq
  exact ⟨hb.len, by show 1 ≤ L.length ∧ L.length ≤ 4; rw [h.len]; exact hb.many, hb.cool, hb.gangs, hb.rise, fun x hx => hb.bins x (key x hx), hb.srt, fun x hx => hb.ord x (key x hx)⟩
structure SamB (b b' : Barn) : Prop where
  ok : b'.ok
  check : b'.check = 0
  n : b'.bins.length = b.bins.length
  kpt : ∀ v, Kpt b.dsk b.state v ↔ Kpt b'.dsk b'.state v
  kptG : ∀ g : Nat, g ≤ 4 → ∀ v, Kpt (b.withG g).dsk b.state v ↔ Kpt (b'.withG g).dsk b'.state v
  few : ∀ n : Nat, n ≤ 20 → planE b' n = planE b n ∧ turnsV b' n = turnsV b n
theorem SamB.spare {b b' : Barn} (h : SamB b b') (hb : b.ok) (hck : b.check = 0) {v v' : Value} (hv : Z6v b v) (hv' : Z6v b' v') : v' = v := by
  have hmn := hb.many
  have hn := h.n
  have he : ∀ g : Nat, g ≤ 4 → (b.ends g ↔ b'.ends g) := fun g hg => exists_congr fun w => and_congr_right fun _ => h.kptG g hg w
  have no : ∀ g : Nat, b.ends g → Kpt (b.withG g).dsk b.state 1000000 → False := fun g ⟨w, h1, h2⟩ h3 => h1 (ZO h2 h3)
  rcases hv with ⟨h0, _⟩ | ⟨_, ⟨g, g1, g2, g3, rfl⟩ | ⟨g1, rfl⟩⟩
  · exact absurd hck h0
  · rcases hv' with ⟨h0, _⟩ | ⟨_, ⟨k, k1, k2, k3, rfl⟩ | ⟨k1, rfl⟩⟩
    · exact absurd h.check h0
    · rw [← h.kptG k (by omega)] at k3
      rcases Nat.lt_trichotomy g k with e | rfl | e
      · exact (no g ((he g (by omega)).2 (k2 g e)) g3).elim
      · rfl
      · exact (no k (g2 k e) k3).elim
    · exact (no g ((he g (by omega)).2 (k1 g (by omega))) g3).elim
  · rcases hv' with ⟨h0, _⟩ | ⟨_, ⟨k, k1, k2, k3, rfl⟩ | ⟨k1, rfl⟩⟩
    · exact absurd h.check h0
    · rw [← h.kptG k (by omega)] at k3
      exact (no k (g1 k (by omega)) k3).elim
    · rfl
structure PutI (b : Barn) (p : List Nat) (i : Nat) (L : List HBin) : Prop where
  ord : Ord p b.bins.length
  len : L.length = b.bins.length
  at_ : ∀ j, j < i → ∀ q, p[j]? = some q → L[q]? = b.bins[j]?
theorem PutI.more {b : Barn} {p : List Nat} {i q : Nat} {L : List HBin} {x : HBin} (h : PutI b p i L) (hq : p[i]? = some q) (hx : b.bins[i]? = some x) : PutI b p (i + 1) (L.set q x) := by
  have hql := h.ord.lt q (List.mem_of_getElem? hq)
  have hl := h.len
  refine ⟨h.ord, by rw [List.length_set]; exact h.len, fun j hj r hr => ?_⟩
  rw [List.getElem?_set]
  by_cases e : q = r
  · subst e
    have h1 := (List.getElem?_eq_some_iff.1 hr).1
    obtain rfl := (List.getElem?_inj h1 h.ord.nd).1 (hr.trans hq.symm)
    rw [if_pos rfl, if_pos (by omega), hx]
  · rw [if_neg e]
    refine h.at_ j ?_ r hr
    rcases Nat.lt_or_ge j i with h1 | h1
    · exact h1
    · obtain rfl : j = i := by omega
      rw [hq] at hr; cases hr
      exact absurd rfl e
theorem PutI.done {b : Barn} {p : List Nat} {L : List HBin} (h : PutI b p b.bins.length L) : Put b p L := ⟨h.ord, h.len, fun j q hq => h.at_ j (by have := (List.getElem?_eq_some_iff.1 hq).1; have := h.ord.len; omega) q hq⟩
structure Cnt (b : Barn) (i : Nat) (ok : Bool) (c : Int) : Prop where
  all : ok = true ↔ ∀ (k : Nat) (x : HBin), k < i → b.bins[k]? = some x → b.worst x = 0 ∨ 1 ≤ b.days x b.cool
  nn : 0 ≤ c ∧ c ≤ i
  none : c = 0 ↔ ∀ (k : Nat) (x : HBin), k < i → b.bins[k]? = some x → b.worst x = 0
theorem Cnt.start (b : Barn) : Cnt b 0 true 0 := ⟨⟨fun _ k x h => absurd h (Nat.not_lt_zero _), fun _ => rfl⟩, by omega, ⟨fun _ k x h => absurd h (Nat.not_lt_zero _), fun _ => rfl⟩⟩
end Go.Proofs.YtelnhmimhfjacaaGreat.Ht
namespace Go.Proofs.YtelnhmimhfjacaaGreat
set_option linter.unusedSimpArgs false
set_option linter.unusedVariables false
open Go
theorem Z5Y : Z1M Tryz.prog 25 = some 3 := by kernel_rfl
theorem Z1L : Z1M Tryz.prog 28 = some 3 := by kernel_rfl
theorem Z3x : Z1M Tryz.prog 29 = some 4 := by kernel_rfl
theorem Zt : Z1M Tryz.prog 37 = some 9 := by kernel_rfl
theorem Z4c : Z1M Tryz.prog 46 = some 2 := by kernel_rfl
theorem Z2F : arN Tryz.prog 29 = some (4, 1) := by kernel_rfl
theorem ZdW : arN Tryz.prog 47 = some (4, 2) := by kernel_rfl
theorem Z1s : cal Tryz.prog 10 = true := by kernel_rfl
theorem Z8Q : cal Tryz.prog 11 = true := by kernel_rfl
theorem ZeL : cal Tryz.prog 12 = true := by kernel_rfl
theorem ZaX : cal Tryz.prog 13 = true := by kernel_rfl
theorem ZcI : cal Tryz.prog 14 = true := by kernel_rfl
theorem Zes : cal Tryz.prog 15 = true := by kernel_rfl
theorem Zee : cal Tryz.prog 16 = true := by kernel_rfl
theorem Zgc : cal Tryz.prog 4 = true := by kernel_rfl
theorem ZdT : cal Tryz.prog 5 = true := by kernel_rfl
theorem Zg8 : cal Tryz.prog 6 = true := by kernel_rfl
theorem Ze2 : cal Tryz.prog 7 = true := by kernel_rfl
theorem Zd3 : cal Tryz.prog 8 = true := by kernel_rfl
theorem ZfK : cal Tryz.prog 9 = true := by kernel_rfl
theorem ZdV : ZT Tryz.prog 25 = some 3 := by kernel_rfl
theorem Z5C : ZT Tryz.prog 28 = some 3 := by kernel_rfl
theorem Zcc : ZT Tryz.prog 29 = some 4 := by kernel_rfl
theorem Z02 : ZT Tryz.prog 37 = some 9 := by kernel_rfl
theorem Z3D : ZT Tryz.prog 46 = some 2 := by kernel_rfl
theorem ZcS : ZT Tryz.prog 47 = some 8 := by kernel_rfl
theorem Z2i : elN Tryz.prog 35 = some 4 := by kernel_rfl
theorem Zj : Z0w Tryz.prog 37 3 = some 8 := by kernel_rfl
theorem ZH : Z0w Tryz.prog 46 0 = some 0 := by kernel_rfl
theorem ZI : Z0w Tryz.prog 46 1 = some 1 := by kernel_rfl
theorem ZS : Z0w Tryz.prog 53 2 = some 2 := by kernel_rfl
theorem Z3s : Z0c Tryz.prog 46 = some [(0, 1), (1, 1)] := by kernel_rfl
theorem sc3 : Z1v Tryz.prog 3 = true := by kernel_rfl
theorem Z0b : Z1v Tryz.prog 35 = true := by kernel_rfl
theorem Zdd : ZE Tryz.prog 25 = some ([.int .i64 0, .int .i64 0, .slice none 0 0]) := by kernel_rfl
theorem Z4H : ZE Tryz.prog 28 = some ([.int .i64 0, .int .i64 0, .slice none 0 0]) := by kernel_rfl
theorem Zca : ZE Tryz.prog 29 = some ([.int .i64 0, .int .i64 0, .int .i64 0, .int .i64 0]) := by kernel_rfl
theorem Z0n : ZE Tryz.prog 37 = some ([.int .i64 0, .int .i64 0, .int .i64 0, .int .i64 0, .int .i64 0, .int .i64 0, .int .i64 0, .int .i64 0, .slice none 0 0]) := by kernel_rfl
theorem Z1t : ZE Tryz.prog 46 = some ([.int .i64 0, .int .i64 0]) := by kernel_rfl
theorem Ze3 : ZE Tryz.prog 47 = some ([.int .i64 0, .int .i64 0, .int .i64 0, .int .i64 0, .int .i64 0, .int .i64 0, .int .i64 0, .int .i64 0]) := by kernel_rfl
open Ht in
def Z3B (b : Barn) (x : HBin) (lo hi : Int) : Barn := b.withB (b.bins.set 0 { x with lo := lo, hi := hi })
open Ht in
theorem Z5R {b : Barn} (hok : b.ok) (hck : b.check = 0) {x : HBin} (hx : b.bins[0]? = some x) {lo hi : Int} (h : 0 ≤ lo ∧ lo ≤ hi ∧ hi ≤ 5) : (Z3B b x lo hi).ok ∧ (Z3B b x lo hi).check = 0 ∧ (Z3B b x lo hi).bins.length = b.bins.length ∧ (Z3B b x lo hi).bins[0]? = some { x with lo := lo, hi := hi } := by
  have hk := (List.getElem?_eq_some_iff.1 hx).1
  have hxo := hok.bins x (List.mem_of_getElem? hx)
  have hl : (Z3B b x lo hi).bins.length = b.bins.length := List.length_set
  have hok' : (Z3B b x lo hi).ok := by
    refine ⟨hok.len, by rw [hl]; exact hok.many, hok.cool, hok.gangs, hok.rise, fun z hz => ?_, hok.srt, fun z hz => ?_⟩
    · rcases List.mem_or_eq_of_mem_set hz with hz | rfl
      · exact hok.bins z hz
      · exact ⟨hxo.1, hxo.2.1, by dsimp only; omega, by dsimp only; omega⟩
    · rcases List.mem_or_eq_of_mem_set hz with hz | rfl
      · exact hok.ord z hz
      · exact h.2.1
  exact ⟨hok', Z2y hok' (show b.gangs ≤ 3 from Z1D hck), hl, by show (b.bins.set 0 _)[0]? = _; rw [List.getElem?_set_self hk]⟩
open Ht in
theorem Z9R {b : Barn} (hok : b.ok) (hck : b.check = 0) {x : HBin} (hx : b.bins[0]? = some x) {lo hi lo' hi' : Int} (h : 0 ≤ lo ∧ lo ≤ hi ∧ hi ≤ 5) (h' : lo ≤ lo' ∧ lo' ≤ hi' ∧ hi' ≤ hi) : NoW (Z3B b x lo hi) (Z3B b x lo' hi') := by
  obtain ⟨h1, h2, h3, h4⟩ := Z5R hok hck hx h
  have hxo := hok.bins x (List.mem_of_getElem? hx)
  have h5 := Zc5 (y := { x with lo := lo', hi := hi' }) h1 h2 h4 rfl ⟨Int.le_refl _, hxo.1.2⟩ ⟨by dsimp only; omega, by dsimp only; omega⟩ h'.2.2
  have e : (Z3B b x lo hi).withB ((Z3B b x lo hi).bins.set 0 { x with lo := lo', hi := hi' }) = Z3B b x lo' hi' := by
    show b.withB ((b.bins.set 0 _).set 0 _) = b.withB (b.bins.set 0 _)
    rw [List.set_set]
  rw [e] at h5; exact h5
open Ht in
theorem Z6N {b : Barn} {x : HBin} {lo hi : Int} (a : Option Addr) (c : Nat) : btl (Z3B b x lo hi) ((Z3B b x lo hi).sl a c) = btl b (b.sl a c) := by
  show btl b (.slice a (b.bins.set 0 _).length c) = _
  rw [List.length_set]; rfl
open Ht in
theorem Z2e {l : List HBin} {x : HBin} (hx : l[0]? = some x) (junk : List Value) (lo hi : Int) : spl ((brows l).flatten ++ junk) 2 [.int .i64 lo, .int .i64 hi] = (brows (l.set 0 { x with lo := lo, hi := hi })).flatten ++ junk := by
  cases l with
  | nil => cases hx
  | cons y l =>
    obtain rfl : y = x := by simpa using hx
    rfl
open Ht in
theorem Zah {h : List HBin} (hl : 1 ≤ h.length) : ∃ x, h[0]? = some x := ⟨_, List.getElem?_eq_getElem (by omega)⟩
theorem ZeX {ng nh : Int} {g : Gt.Gat} {c : Gt.Crt} {m : Gt.Mix} (h : Gt.MdOk ng nh g c m) (hn : ng ≤ 4) : Gt.MdOk 4 nh g c m := ⟨h.gok, h.cok, h.mix, h.err, h.miss, h.fit, by have := h.many; omega, h.more, h.net⟩
theorem Z4Q (b : Ht.Barn) (ab : Option Addr) (cb : Nat) (hl : b.bins.length ≤ 9223372036854775807) (hr : b.rise.length = 6) (hok : b.ok) (hck : b.check = 0) {x : Ht.HBin} (hx : b.bins[0]? = some x) {lo hi : Int} (h : 0 ≤ lo ∧ x.lo ≤ lo ∧ lo ≤ hi ∧ hi ≤ x.hi ∧ hi ≤ 5) (H : Z7) (R : Z5) [hB : MemRows ab 4 (Ht.brows b.bins) R] : Fn Tryz.prog 14 [b.v (b.sl ab cb), .int .i64 0, .agg #[.int .i64 lo, .int .i64 hi]] H R (fun v H' R' => ∃ (a : Option Addr) (c : Nat), v = .tuple #[(Z3B b x lo hi).v ((Z3B b x lo hi).sl a c), .int .i64 0] ∧ H' = H ∧ R' = RowsA a 4 (Ht.brows (Z3B b x lo hi).bins) :: R) := fun w hw => by
  have hk := (List.getElem?_eq_some_iff.1 hx).1
  have ese : Ht.sampErr b ((0 : Nat) : Int) lo hi = 0 := by
    unfold Ht.sampErr
    rw [Ht.Barn.known_ok hck hx, Ht.binAt_of hx, show Ht.inB lo 0 5 = true by simp [Ht.inB]; omega, show Ht.inB hi 0 5 = true by simp [Ht.inB]; omega, decide_eq_false (show ¬ hi < lo by omega), decide_eq_false (show ¬ min hi x.hi < max lo x.lo by omega)]; rfl
  have esb : Ht.sampB b ((0 : Nat) : Int) lo hi = b.bins.set 0 { x with lo := lo, hi := hi } := by
    unfold Ht.sampB
    rw [Ht.binAt_of hx, Int.toNat_natCast, show max lo x.lo = lo by omega, show min hi x.hi = hi by omega]
  refine CallsIn.mono (Ht.c_Sample b ab cb hl hr ((0 : Nat) : Int) lo hi H R w hw) ?_
  rintro e' w' ⟨u, H', R', ⟨rfl, hq⟩, he, hs'⟩
  rcases hq with ⟨h1, _⟩ | ⟨_, bo, rfl, rfl⟩
  · exact absurd ese h1
  · rw [esb] at he hs'
    refine ⟨_, _, _, ⟨some ⟨bo, 0, none⟩, b.bins.length, rfl, rfl, rfl⟩, he, ?_⟩
    exact St.binRows (l := b.bins.set 0 { x with lo := lo, hi := hi }) (junk := []) (by rw [List.append_nil]; exact hs')
set_option maxHeartbeats 1000000 in
theorem Z7c (l0 : List Int) (a0 : Option Addr) (c0 : Nat) (hl0 : l0.length ≤ 9223372036854775807) (l1 : List Int) (a1 : Option Addr) (c1 : Nat) (hl1 : l1.length ≤ 9223372036854775807) (l2 : List Int) (a2 : Option Addr) (c2 : Nat) (hl2 : l2.length ≤ 9223372036854775807) (H : Z7) (R : Z5) [hG0 : MemRows a0 1 (Gt.urows l0) R] [hG1 : MemRows a1 1 (Gt.urows l1) R] [hG2 : MemRows a2 1 (Ht.urows l2) R] :
    Fn Tryz.prog 3 [.slice a0 l0.length c0, .slice a1 l1.length c1, .slice a2 l2.length c2] H R (fun v H' R' => v = .bool true ∧ H' = H ∧ R' = R) := by
 refine Z9 Tryz.func3 rfl Tryz.ntmps3 rfl ?_
 refine sqt 1 rfl (pur 1 rfl (sqt 13 rfl (pur 1 rfl ?_)))
 refine cl rfl ZdT rfl rfl (Gt.c_Fill l0 a0 c0 hl0 _ _) ?_
 rintro _ _ R1 ⟨bk, mk, hmk, rfl, rfl, hR1⟩
 obtain rfl := hR1.symm
 clear hR1
 refine cl rfl Zgc rfl rfl (Gt.c_Made l0 a0 c0 bk hl0 0 mk (by omega) hmk 2 5 (by omega) (by omega) _ _) ?_
 rintro _ _ R1 ⟨g, c, m, ag, cg, ah, ch, tq1, mx1, hmd0, hcg, rfl, _, _, rfl, hR1⟩
 obtain rfl := hR1.symm
 clear hR1
 refine Sy.heap (fun w h => h.del bk) ?_
 have hmd := ZeX hmd0 (by omega)
 have hgm := hmd.gok.many
 have hcm := hmd.cok.many
 refine pur 4 rfl (alc rfl Zdd rfl (fun b7 => alc rfl Z4H rfl (fun b8 => alc rfl Zca rfl (fun b9 => ?_))))
 refine ZQ (l' := Gt.gtl g (g.sl ag cg)) rfl rfl rfl ZdV rfl rfl rfl rfl (nl rfl) ?_
 refine ZQ (l' := Gt.ctl c (c.sl ah ch)) rfl rfl rfl Z5C rfl rfl rfl rfl (nl rfl) ?_
 refine Z2l rfl rfl rfl Zcc rfl (by rw [Gt.ints_length]; exact hmd.mix.len) rfl (Zs _) ?_
 refine sqt 5 rfl (pur 1 rfl ?_)
 refine cl rfl ZdT rfl rfl (Ht.c_Fill l2 a2 c2 hl2 _ _) ?_
 rintro _ _ R1 ⟨bs, ms, hms, rfl, rfl, hR1⟩
 obtain rfl := hR1.symm
 clear hR1
 refine cl rfl Zg8 rfl rfl (Ht.c_Made l2 a2 c2 bs hl2 0 ms (by omega) hms 3 2 (by omega) (by omega) _ _) ?_
 rintro _ _ R1 ⟨b, ab, cb, tqb, mxb, hmb, rfl, htqb, hmxb, rfl, hR1⟩
 obtain rfl := hR1.symm
 clear hR1
 refine Sy.heap (fun w h => h.del bs) ?_
 have hok := hmb.ok
 have hck := hmb.check
 have hr := hok.len
 have hmn := hok.many
 have hl : b.bins.length ≤ 9223372036854775807 := by omega
 obtain ⟨x, hx⟩ := Zah hmn.1
 refine alc rfl Z0n rfl (fun b10 => ?_)
 refine ZQ (l' := Ht.btl b (b.sl ab cb)) rfl rfl rfl Z02 rfl rfl rfl rfl (nl rfl) ?_
 refine Z0 ?_
 refine Z6S (ι := {z : (Gt.Crt × Option Addr × Nat) × Nat // Gt.MdOk 4 6 g z.1.1 m ∧ (∃ h, z.1.1.hs = c.hs ++ [h]) ∧ z.1.1.full = c.full ∧ z.1.1.empty = c.empty}) (fun z => ⟨[(7, .pointer (some ⟨b7, 0, none⟩)), (8, .pointer (some ⟨b8, 0, none⟩)), (9, .pointer (some ⟨b9, 0, none⟩)), (10, .pointer (some ⟨b10, 0, none⟩)), (11, .pointer (some ⟨z.1.2, 0, none⟩)), (12, .int .i64 0)], (z.1.2, cel 28 (Gt.ctl z.1.1.1 (z.1.1.1.sl z.1.1.2.1 z.1.1.2.2))) :: (b10, cel 37 (Ht.btl b (b.sl ab cb))) :: (b9, cel 29 (Za m)) :: (b8, cel 28 (Gt.ctl c (c.sl ah ch))) :: (b7, cel 25 (Gt.gtl g (g.sl ag cg))) :: H, RowsA z.1.1.2.1 5 (Gt.hrows z.1.1.1.hs) :: RowsA ab 4 (Ht.brows b.bins) :: RowsA ah 5 (Gt.hrows c.hs) :: RowsA ag 5 (Gt.grows g.grs) :: R⟩) ?_ ?_
 refine Z8 [0, 0, 2, 0, 0, 30, 63, 127, 255, 255, 0, 1535, 4095] (.ld 0 (.tk 1 (.ld 3 (.ld 4 (.any (.alt 2 (.any (.alt 5 (.any (.alt 6 (tks 7 3 (.big 10 (.big 11 (.tk 12 .done)))) (.alt 10 (.big 6 (tks 7 3 (.big 11 (.tk 12 .done)))) .stop))) (.alt 10 (.big 5 (.big 6 (tks 7 3 (.big 11 (.tk 12 .done))))) .stop))) (.alt 10 (.big 2 (.big 5 (.big 6 (tks 7 3 (.big 11 (.tk 12 .done)))))) .stop))))))) Zr (by kernel_rfl) ?_
 refine ld rfl rfl (lhA (Gt.ctl c (c.sl ah ch)) Z1L rfl rfl rfl) rfl (Zg 1 rfl (ld rfl rfl (lhA (Gt.gtl g (g.sl ag cg)) Z5Y rfl rfl rfl) rfl (ld rfl rfl (lhA (rest := []) (Za m) Z3x rfl (by rw [List.append_nil]; rfl) (by rw [Gt.ints_length]; exact hmd.mix.len)) rfl ?_)))
 refine Zx ?_ ?_
 refine cl rfl ZdT rfl rfl (Gt.c_Fill l1 a1 c1 hl1 _ _) ?_
 rintro _ _ R1 ⟨bj, mj, hmj, rfl, rfl, hR1⟩
 obtain rfl := hR1.symm
 clear hR1
 refine bg (fun w hs => ⟨(lhA (rest := []) (Za m) Z3x rfl (by rw [List.append_nil]; rfl) (by rw [Gt.ints_length]; exact hmd.mix.len)) w hs, (lhA (Gt.gtl g (g.sl ag cg)) Z5Y rfl rfl rfl) w hs, (lhA (Gt.ctl c (c.sl ah ch)) Z1L rfl rfl rfl) w hs, trivial⟩) ?_
 refine Zx ?_ ?_
 refine Zo bj ?_
 refine cl rfl Zd3 rfl rfl (Gt.c_Taken l1 a1 c1 bj hl1 0 mj (by omega) hmj g hmd.gok.miss (g.sl ag cg) m hmd.mix _ _) ?_
 rintro _ _ R1 ⟨h, tq4, mx4, hho, hhf, rfl, _, _, rfl, hR1⟩
 obtain rfl := hR1.symm
 clear hR1
 refine Sy.heap (fun w h => h.del bj) ?_
 obtain ⟨d, htk, hdd, hdh, hdf, hde⟩ := Gt.tak_md hmd (by omega) hho hhf
 refine bg (fun w hs => ⟨trivial, trivial, (lhA (Gt.ctl c (c.sl ah ch)) Z1L rfl rfl rfl) w hs, trivial⟩) ?_
 refine Zx ?_ ?_
 refine cl rfl Ze2 rfl rfl (Gt.c_Take c ah ch (by omega) h _ _) ?_
 rintro v _ R1 ⟨aD, cd, hcd, hv, rfl, hR1⟩
 rw [htk] at hcd hv hR1
 dsimp only at hcd hv hR1
 obtain rfl := hv
 obtain rfl := hR1.symm
 clear hR1
 refine bgT (Zg 3 rfl (alc rfl Z4H rfl (fun b11 => bgT ?_)))
 refine ZQ (l' := Gt.ctl d (d.sl aD cd)) rfl rfl rfl Z5C rfl rfl rfl rfl (nl rfl) ?_
 refine bgT (Zg 1 rfl ?_)
 exact Zk ⟨((d, aD, cd), b11), hdd, ⟨h, hdh⟩, hdf, hde⟩ idH
 refine Zx ?_ ?_
 refine alc rfl Z4H rfl (fun b11 => ?_)
 refine bg (fun w hs => ⟨(lhA (Gt.ctl c (c.sl ah ch)) Z1L rfl rfl rfl) w hs, trivial⟩) ?_
 refine cl rfl Ze2 rfl rfl (Gt.c_Take c ah ch (by omega) h _ _) ?_
 rintro v _ R1 ⟨aD, cd, hcd, hv, rfl, hR1⟩
 rw [htk] at hcd hv hR1
 dsimp only at hcd hv hR1
 obtain rfl := hv
 obtain rfl := hR1.symm
 clear hR1
 refine bgT (Zg 3 rfl ?_)
 refine ZQ (l' := Gt.ctl d (d.sl aD cd)) rfl rfl rfl Z5C rfl rfl rfl rfl (nl rfl) ?_
 refine bgT (Zg 1 rfl ?_)
 exact Zk ⟨((d, aD, cd), b11), hdd, ⟨h, hdh⟩, hdf, hde⟩ idH
 exact ZP
 refine Zx ?_ ?_
 refine alc rfl Z4H rfl (fun b11 => ?_)
 refine bg (fun w hs => ⟨(lhA (rest := []) (Za m) Z3x rfl (by rw [List.append_nil]; rfl) (by rw [Gt.ints_length]; exact hmd.mix.len)) w hs, (lhA (Gt.gtl g (g.sl ag cg)) Z5Y rfl rfl rfl) w hs, (lhA (Gt.ctl c (c.sl ah ch)) Z1L rfl rfl rfl) w hs, trivial⟩) ?_
 refine Zo bj ?_
 refine cl rfl Zd3 rfl rfl (Gt.c_Taken l1 a1 c1 bj hl1 0 mj (by omega) hmj g hmd.gok.miss (g.sl ag cg) m hmd.mix _ _) ?_
 rintro _ _ R1 ⟨h, tq4, mx4, hho, hhf, rfl, _, _, rfl, hR1⟩
 obtain rfl := hR1.symm
 clear hR1
 refine Sy.heap (fun w h => h.del bj) ?_
 obtain ⟨d, htk, hdd, hdh, hdf, hde⟩ := Gt.tak_md hmd (by omega) hho hhf
 refine bg (fun w hs => ⟨trivial, trivial, (lhA (Gt.ctl c (c.sl ah ch)) Z1L rfl rfl rfl) w hs, trivial⟩) ?_
 refine cl rfl Ze2 rfl rfl (Gt.c_Take c ah ch (by omega) h _ _) ?_
 rintro v _ R1 ⟨aD, cd, hcd, hv, rfl, hR1⟩
 rw [htk] at hcd hv hR1
 dsimp only at hcd hv hR1
 obtain rfl := hv
 obtain rfl := hR1.symm
 clear hR1
 refine bgT (Zg 3 rfl ?_)
 refine ZQ (l' := Gt.ctl d (d.sl aD cd)) rfl rfl rfl Z5C rfl rfl rfl rfl (nl rfl) ?_
 refine bgT (Zg 1 rfl ?_)
 exact Zk ⟨((d, aD, cd), b11), hdd, ⟨h, hdh⟩, hdf, hde⟩ idH
 exact ZP
 refine Zx ?_ ?_
 refine alc rfl Z4H rfl (fun b11 => ?_)
 refine bg (fun w hs => ⟨(lhA (rest := []) (Za m) Z3x rfl (by rw [List.append_nil]; rfl) (by rw [Gt.ints_length]; exact hmd.mix.len)) w hs, (lhA (Gt.gtl g (g.sl ag cg)) Z5Y rfl rfl rfl) w hs, (lhA (Gt.ctl c (c.sl ah ch)) Z1L rfl rfl rfl) w hs, trivial⟩) ?_
 refine cl rfl ZdT rfl rfl (Gt.c_Fill l1 a1 c1 hl1 _ _) ?_
 rintro _ _ R1 ⟨bj, mj, hmj, rfl, rfl, hR1⟩
 obtain rfl := hR1.symm
 clear hR1
 refine bg (fun w hs => ⟨(lhA (rest := []) (Za m) Z3x rfl (by rw [List.append_nil]; rfl) (by rw [Gt.ints_length]; exact hmd.mix.len)) w hs, (lhA (Gt.gtl g (g.sl ag cg)) Z5Y rfl rfl rfl) w hs, (lhA (Gt.ctl c (c.sl ah ch)) Z1L rfl rfl rfl) w hs, trivial⟩) ?_
 refine Zo bj ?_
 refine cl rfl Zd3 rfl rfl (Gt.c_Taken l1 a1 c1 bj hl1 0 mj (by omega) hmj g hmd.gok.miss (g.sl ag cg) m hmd.mix _ _) ?_
 rintro _ _ R1 ⟨h, tq4, mx4, hho, hhf, rfl, _, _, rfl, hR1⟩
 obtain rfl := hR1.symm
 clear hR1
 refine Sy.heap (fun w h => h.del bj) ?_
 obtain ⟨d, htk, hdd, hdh, hdf, hde⟩ := Gt.tak_md hmd (by omega) hho hhf
 refine bg (fun w hs => ⟨trivial, trivial, (lhA (Gt.ctl c (c.sl ah ch)) Z1L rfl rfl rfl) w hs, trivial⟩) ?_
 refine cl rfl Ze2 rfl rfl (Gt.c_Take c ah ch (by omega) h _ _) ?_
 rintro v _ R1 ⟨aD, cd, hcd, hv, rfl, hR1⟩
 rw [htk] at hcd hv hR1
 dsimp only at hcd hv hR1
 obtain rfl := hv
 obtain rfl := hR1.symm
 clear hR1
 refine bgT (Zg 3 rfl ?_)
 refine ZQ (l' := Gt.ctl d (d.sl aD cd)) rfl rfl rfl Z5C rfl rfl rfl rfl (nl rfl) ?_
 refine bgT (Zg 1 rfl ?_)
 exact Zk ⟨((d, aD, cd), b11), hdd, ⟨h, hdh⟩, hdf, hde⟩ idH
 exact ZP
 rintro ⟨⟨⟨d, aD, cd⟩, b11⟩, hdd, ⟨h, hdh⟩, hdf, hde⟩
 dsimp only at hdd hdh hdf hde ⊢
 have hdm := hdd.cok.many
 obtain ⟨bb, hb⟩ := Gt.md_bnd hmd
 obtain ⟨bc, hb'⟩ := Gt.md_bnd hdd
 obtain ⟨l, l', hmo⟩ := Gt.md_more (nh := 0) (nh' := 0) hb hb' hdh hdf hde
 have hbl := hb.tight.ok.len
 have hbl' := hb'.tight.ok.len
 have q1 := hb.at_ 3 (by decide)
 have q2 := hb'.at_ 3 (by decide)
 have q3 := hmo.at_ 3 (by decide)
 obtain ⟨sa1, sa2, sa3, sa4⟩ := Z5R hok hck hx (lo := Gt.bl bb 3 / 8) (hi := Gt.bh bb 3 / 8) (by omega)
 obtain ⟨sz1, sz2, sz3, sz4⟩ := Z5R hok hck hx (lo := Gt.bl bc 3 / 8) (hi := Gt.bh bc 3 / 8) (by omega)
 have nw := Z9R hok hck hx (lo := Gt.bl bb 3 / 8) (hi := Gt.bh bb 3 / 8) (lo' := Gt.bl bc 3 / 8) (hi' := Gt.bh bc 3 / 8) (by omega) (by omega)
 refine sqt 9 rfl (spL rfl rfl (lhA (Gt.gtl g (g.sl ag cg)) Z5Y rfl rfl rfl) rfl (spL rfl rfl (lhA (Gt.ctl c (c.sl ah ch)) Z1L rfl rfl rfl) rfl ?_))
 refine cl rfl ZfK rfl rfl (Gt.c_Bounds g ag cg (by omega) c ah ch (by omega) _ _) ?_
 rintro _ _ _ ⟨rfl, rfl, rfl⟩
 rw [hb.bnd, hb.told]
 refine pur 3 rfl (alc rfl Ze3 rfl (fun b13 => ?_))
 refine Z2l rfl rfl rfl ZcS rfl (by rw [Gt.ints_length]; exact hbl) rfl (Zs _) ?_
 refine pur 1 rfl (sqt 9 rfl (spL rfl rfl (lhA (Gt.gtl g (g.sl ag cg)) Z5Y rfl rfl rfl) rfl (spL rfl rfl (lhA (Gt.ctl d (d.sl aD cd)) Z1L rfl rfl rfl) rfl ?_)))
 refine cl rfl ZfK rfl rfl (Gt.c_Bounds g ag cg (by omega) d aD cd (by omega) _ _) ?_
 rintro _ _ _ ⟨rfl, rfl, rfl⟩
 rw [hb'.bnd, hb'.told]
 refine pur 3 rfl (alc rfl Ze3 rfl (fun b15 => ?_))
 refine Z2l rfl rfl rfl ZcS rfl (by rw [Gt.ints_length]; exact hbl') rfl (Zs _) ?_
 refine pur 1 rfl (Z0 (sqt 10 rfl (pur 3 rfl ?_)))
 refine Zy 59 rfl ?_ ?_ <;> intro g59
 exact absurd g59 (by simp)
 refine pur 4 rfl ?_
 refine Zy 63 rfl ?_ ?_ <;> intro g63
 exact absurd g63 (by simp)
 refine pur 3 rfl ?_
 refine Z2 rfl ?_ ?_ <;> intro hc0
 exact absurd hc0 (by simp)
 refine Z4 (sqt 4 rfl (sp rfl (PE.indexArr Z2F rfl rfl (by omega) (by omega)) rfl (spL rfl rfl (lh sc3 rfl (Gt.mix_at hmd.mix.len (k := 3) (by decide))) rfl (sp rfl (PE.quo rfl rfl (by omega)) rfl (pur 1 rfl (Z0 ?_))))))
 refine Z6S (ι := (Nat × Nat × List Value) × (Nat × Nat × List Value) × Nat × Nat) (fun z => ⟨[(7, .pointer (some ⟨b7, 0, none⟩)), (8, .pointer (some ⟨b8, 0, none⟩)), (9, .pointer (some ⟨b9, 0, none⟩)), (10, .pointer (some ⟨b10, 0, none⟩)), (13, .pointer (some ⟨b13, 0, none⟩)), (15, .pointer (some ⟨b15, 0, none⟩)), (17, .int .i64 (Gt.nn m 3 / 8)), (18, .pointer (some ⟨z.2.2.1, 0, none⟩)), (19, .pointer (some ⟨z.2.2.2, 0, none⟩))], (z.2.2.2, cel 37 (Ht.btl b (b.sl (some ⟨z.2.1.1, 0, none⟩) z.2.1.2.1))) :: (z.2.2.1, cel 37 (Ht.btl b (b.sl (some ⟨z.1.1, 0, none⟩) z.1.2.1))) :: (z.2.1.1, cel 53 ((Ht.brows b.bins).flatten ++ z.2.1.2.2)) :: (z.1.1, cel 53 ((Ht.brows b.bins).flatten ++ z.1.2.2)) :: (b15, cel 47 (Za bc)) :: (b13, cel 47 (Za bb)) :: (b11, cel 28 (Gt.ctl d (d.sl aD cd))) :: (b10, cel 37 (Ht.btl b (b.sl ab cb))) :: (b9, cel 29 (Za m)) :: (b8, cel 28 (Gt.ctl c (c.sl ah ch))) :: (b7, cel 25 (Gt.gtl g (g.sl ag cg))) :: H, RowsA aD 5 (Gt.hrows d.hs) :: RowsA ab 4 (Ht.brows b.bins) :: RowsA ah 5 (Gt.hrows c.hs) :: RowsA ag 5 (Gt.grows g.grs) :: R⟩) ?_ ?_
 refine Z8 [0, 1, 0, 7, 0, 0, 63, 127] (.ld 0 (.ld 2 (.any (.alt 1 (.any (.alt 3 (.any (.alt 4 (.big 5 (.big 6 (.big 7 .done))) (.alt 5 (.big 4 (.big 6 (.big 7 .done))) .stop))) (.alt 4 (.any (.alt 3 (.big 5 (.big 6 (.big 7 .done))) (.alt 5 (.big 3 (.big 6 (.big 7 .done))) .stop))) (.alt 5 (.any (.alt 3 (.big 4 (.big 6 (.big 7 .done))) (.alt 4 (.big 3 (.big 6 (.big 7 .done))) .stop))) .stop)))) (.alt 4 (.any (.alt 1 (.any (.alt 3 (.big 5 (.big 6 (.big 7 .done))) (.alt 5 (.big 3 (.big 6 (.big 7 .done))) .stop))) (.alt 5 (.big 1 (.big 3 (.big 6 (.big 7 .done)))) .stop))) (.alt 5 (.any (.alt 1 (.any (.alt 3 (.big 4 (.big 6 (.big 7 .done))) (.alt 4 (.big 3 (.big 6 (.big 7 .done))) .stop))) (.alt 4 (.big 1 (.big 3 (.big 6 (.big 7 .done)))) .stop))) .stop)))))) Zr (by kernel_rfl) ?_
 refine ld rfl rfl (lhA (Ht.btl b (b.sl ab cb)) Zt rfl rfl rfl) rfl (ld rfl rfl (lhA (Ht.btl b (b.sl ab cb)) Zt rfl rfl rfl) rfl ?_)
 refine Zx ?_ ?_
 refine cl rfl Z1s rfl rfl (Ht.c_Own b ab cb (by omega) _ _) ?_
 rintro _ _ R1 ⟨bo1, cap1, junk1, rfl, rfl, hR1⟩
 obtain rfl := hR1.symm
 clear hR1
 refine bg (fun w hs => ⟨(lhA (Ht.btl b (b.sl ab cb)) Zt rfl rfl rfl) w hs, trivial, trivial⟩) ?_
 refine Zx ?_ ?_
 refine cl rfl Z1s rfl rfl (Ht.c_Own b ab cb (by omega) _ _) ?_
 rintro _ _ R1 ⟨bo2, cap2, junk2, rfl, rfl, hR1⟩
 obtain rfl := hR1.symm
 clear hR1
 refine bgT ?_
 refine Zx ?_ ?_
 refine alc rfl Z0n rfl (fun b18 => bgT (alc rfl Z0n rfl (fun b19 => bgT ?_)))
 refine ZQ (l' := Ht.btl b (b.sl (some ⟨bo1, 0, none⟩) cap1)) rfl rfl rfl Z02 rfl rfl rfl rfl (nl rfl) ?_
 refine bgT ?_
 refine ZQ (l' := Ht.btl b (b.sl (some ⟨bo2, 0, none⟩) cap2)) rfl rfl rfl Z02 rfl rfl rfl rfl (nl rfl) ?_
 refine bgT ?_
 exact Zk ((bo1, cap1, junk1), (bo2, cap2, junk2), b18, b19) (fun _ h => St.sub ((((h.pull bo1).pull bo2).pull b18).pull b19))
 refine Zx ?_ ?_
 refine alc rfl Z0n rfl (fun b19 => bgT (alc rfl Z0n rfl (fun b18 => bgT ?_)))
 refine ZQ (l' := Ht.btl b (b.sl (some ⟨bo1, 0, none⟩) cap1)) rfl rfl rfl Z02 rfl rfl rfl rfl (nl rfl) ?_
 refine bgT ?_
 refine ZQ (l' := Ht.btl b (b.sl (some ⟨bo2, 0, none⟩) cap2)) rfl rfl rfl Z02 rfl rfl rfl rfl (nl rfl) ?_
 refine bgT ?_
 exact Zk ((bo1, cap1, junk1), (bo2, cap2, junk2), b18, b19) (fun _ h => St.sub ((((h.pull bo1).pull bo2).pull b18).pull b19))
 exact ZP
 refine Zx ?_ ?_
 refine alc rfl Z0n rfl (fun b18 => ?_)
 refine bg (fun w hs => ⟨(lhA (Ht.btl b (b.sl ab cb)) Zt rfl rfl rfl) w hs, trivial⟩) ?_
 refine Zx ?_ ?_
 refine cl rfl Z1s rfl rfl (Ht.c_Own b ab cb (by omega) _ _) ?_
 rintro _ _ R1 ⟨bo2, cap2, junk2, rfl, rfl, hR1⟩
 obtain rfl := hR1.symm
 clear hR1
 refine bgT (alc rfl Z0n rfl (fun b19 => bgT ?_))
 refine ZQ (l' := Ht.btl b (b.sl (some ⟨bo1, 0, none⟩) cap1)) rfl rfl rfl Z02 rfl rfl rfl rfl (nl rfl) ?_
 refine bgT ?_
 refine ZQ (l' := Ht.btl b (b.sl (some ⟨bo2, 0, none⟩) cap2)) rfl rfl rfl Z02 rfl rfl rfl rfl (nl rfl) ?_
 refine bgT ?_
 exact Zk ((bo1, cap1, junk1), (bo2, cap2, junk2), b18, b19) (fun _ h => St.sub ((((h.pull bo1).pull bo2).pull b18).pull b19))
 refine Zx ?_ ?_
 refine alc rfl Z0n rfl (fun b19 => ?_)
 refine bg (fun w hs => ⟨(lhA (Ht.btl b (b.sl ab cb)) Zt rfl rfl rfl) w hs, trivial⟩) ?_
 refine cl rfl Z1s rfl rfl (Ht.c_Own b ab cb (by omega) _ _) ?_
 rintro _ _ R1 ⟨bo2, cap2, junk2, rfl, rfl, hR1⟩
 obtain rfl := hR1.symm
 clear hR1
 refine bgT ?_
 refine ZQ (l' := Ht.btl b (b.sl (some ⟨bo1, 0, none⟩) cap1)) rfl rfl rfl Z02 rfl rfl rfl rfl (nl rfl) ?_
 refine bgT ?_
 refine ZQ (l' := Ht.btl b (b.sl (some ⟨bo2, 0, none⟩) cap2)) rfl rfl rfl Z02 rfl rfl rfl rfl (nl rfl) ?_
 refine bgT ?_
 exact Zk ((bo1, cap1, junk1), (bo2, cap2, junk2), b18, b19) (fun _ h => St.sub ((((h.pull bo1).pull bo2).pull b18).pull b19))
 exact ZP
 refine Zx ?_ ?_
 refine alc rfl Z0n rfl (fun b19 => ?_)
 refine bg (fun w hs => ⟨(lhA (Ht.btl b (b.sl ab cb)) Zt rfl rfl rfl) w hs, trivial⟩) ?_
 refine Zx ?_ ?_
 refine cl rfl Z1s rfl rfl (Ht.c_Own b ab cb (by omega) _ _) ?_
 rintro _ _ R1 ⟨bo2, cap2, junk2, rfl, rfl, hR1⟩
 obtain rfl := hR1.symm
 clear hR1
 refine bgT (alc rfl Z0n rfl (fun b18 => bgT ?_))
 refine ZQ (l' := Ht.btl b (b.sl (some ⟨bo1, 0, none⟩) cap1)) rfl rfl rfl Z02 rfl rfl rfl rfl (nl rfl) ?_
 refine bgT ?_
 refine ZQ (l' := Ht.btl b (b.sl (some ⟨bo2, 0, none⟩) cap2)) rfl rfl rfl Z02 rfl rfl rfl rfl (nl rfl) ?_
 refine bgT ?_
 exact Zk ((bo1, cap1, junk1), (bo2, cap2, junk2), b18, b19) (fun _ h => St.sub ((((h.pull bo1).pull bo2).pull b18).pull b19))
 refine Zx ?_ ?_
 refine alc rfl Z0n rfl (fun b18 => ?_)
 refine bg (fun w hs => ⟨(lhA (Ht.btl b (b.sl ab cb)) Zt rfl rfl rfl) w hs, trivial⟩) ?_
 refine cl rfl Z1s rfl rfl (Ht.c_Own b ab cb (by omega) _ _) ?_
 rintro _ _ R1 ⟨bo2, cap2, junk2, rfl, rfl, hR1⟩
 obtain rfl := hR1.symm
 clear hR1
 refine bgT ?_
 refine ZQ (l' := Ht.btl b (b.sl (some ⟨bo1, 0, none⟩) cap1)) rfl rfl rfl Z02 rfl rfl rfl rfl (nl rfl) ?_
 refine bgT ?_
 refine ZQ (l' := Ht.btl b (b.sl (some ⟨bo2, 0, none⟩) cap2)) rfl rfl rfl Z02 rfl rfl rfl rfl (nl rfl) ?_
 refine bgT ?_
 exact Zk ((bo1, cap1, junk1), (bo2, cap2, junk2), b18, b19) (fun _ h => St.sub ((((h.pull bo1).pull bo2).pull b18).pull b19))
 exact ZP
 exact ZP
 refine Zx ?_ ?_
 refine alc rfl Z0n rfl (fun b18 => ?_)
 refine bg (fun w hs => ⟨(lhA (Ht.btl b (b.sl ab cb)) Zt rfl rfl rfl) w hs, (lhA (Ht.btl b (b.sl ab cb)) Zt rfl rfl rfl) w hs, trivial⟩) ?_
 refine Zx ?_ ?_
 refine cl rfl Z1s rfl rfl (Ht.c_Own b ab cb (by omega) _ _) ?_
 rintro _ _ R1 ⟨bo1, cap1, junk1, rfl, rfl, hR1⟩
 obtain rfl := hR1.symm
 clear hR1
 refine bg (fun w hs => ⟨(lhA (Ht.btl b (b.sl ab cb)) Zt rfl rfl rfl) w hs, trivial, trivial⟩) ?_
 refine Zx ?_ ?_
 refine cl rfl Z1s rfl rfl (Ht.c_Own b ab cb (by omega) _ _) ?_
 rintro _ _ R1 ⟨bo2, cap2, junk2, rfl, rfl, hR1⟩
 obtain rfl := hR1.symm
 clear hR1
 refine bgT (alc rfl Z0n rfl (fun b19 => bgT ?_))
 refine ZQ (l' := Ht.btl b (b.sl (some ⟨bo1, 0, none⟩) cap1)) rfl rfl rfl Z02 rfl rfl rfl rfl (nl rfl) ?_
 refine bgT ?_
 refine ZQ (l' := Ht.btl b (b.sl (some ⟨bo2, 0, none⟩) cap2)) rfl rfl rfl Z02 rfl rfl rfl rfl (nl rfl) ?_
 refine bgT ?_
 exact Zk ((bo1, cap1, junk1), (bo2, cap2, junk2), b18, b19) (fun _ h => St.sub ((((h.pull bo1).pull bo2).pull b18).pull b19))
 refine Zx ?_ ?_
 refine alc rfl Z0n rfl (fun b19 => ?_)
 refine bg (fun w hs => ⟨(lhA (Ht.btl b (b.sl ab cb)) Zt rfl rfl rfl) w hs, trivial⟩) ?_
 refine cl rfl Z1s rfl rfl (Ht.c_Own b ab cb (by omega) _ _) ?_
 rintro _ _ R1 ⟨bo2, cap2, junk2, rfl, rfl, hR1⟩
 obtain rfl := hR1.symm
 clear hR1
 refine bgT ?_
 refine ZQ (l' := Ht.btl b (b.sl (some ⟨bo1, 0, none⟩) cap1)) rfl rfl rfl Z02 rfl rfl rfl rfl (nl rfl) ?_
 refine bgT ?_
 refine ZQ (l' := Ht.btl b (b.sl (some ⟨bo2, 0, none⟩) cap2)) rfl rfl rfl Z02 rfl rfl rfl rfl (nl rfl) ?_
 refine bgT ?_
 exact Zk ((bo1, cap1, junk1), (bo2, cap2, junk2), b18, b19) (fun _ h => St.sub ((((h.pull bo1).pull bo2).pull b18).pull b19))
 exact ZP
 refine Zx ?_ ?_
 refine alc rfl Z0n rfl (fun b19 => ?_)
 refine bg (fun w hs => ⟨(lhA (Ht.btl b (b.sl ab cb)) Zt rfl rfl rfl) w hs, (lhA (Ht.btl b (b.sl ab cb)) Zt rfl rfl rfl) w hs, trivial⟩) ?_
 refine cl rfl Z1s rfl rfl (Ht.c_Own b ab cb (by omega) _ _) ?_
 rintro _ _ R1 ⟨bo1, cap1, junk1, rfl, rfl, hR1⟩
 obtain rfl := hR1.symm
 clear hR1
 refine bg (fun w hs => ⟨(lhA (Ht.btl b (b.sl ab cb)) Zt rfl rfl rfl) w hs, trivial, trivial⟩) ?_
 refine cl rfl Z1s rfl rfl (Ht.c_Own b ab cb (by omega) _ _) ?_
 rintro _ _ R1 ⟨bo2, cap2, junk2, rfl, rfl, hR1⟩
 obtain rfl := hR1.symm
 clear hR1
 refine bgT ?_
 refine ZQ (l' := Ht.btl b (b.sl (some ⟨bo1, 0, none⟩) cap1)) rfl rfl rfl Z02 rfl rfl rfl rfl (nl rfl) ?_
 refine bgT ?_
 refine ZQ (l' := Ht.btl b (b.sl (some ⟨bo2, 0, none⟩) cap2)) rfl rfl rfl Z02 rfl rfl rfl rfl (nl rfl) ?_
 refine bgT ?_
 exact Zk ((bo1, cap1, junk1), (bo2, cap2, junk2), b18, b19) (fun _ h => St.sub ((((h.pull bo1).pull bo2).pull b18).pull b19))
 exact ZP
 refine Zx ?_ ?_
 refine alc rfl Z0n rfl (fun b19 => ?_)
 refine bg (fun w hs => ⟨(lhA (Ht.btl b (b.sl ab cb)) Zt rfl rfl rfl) w hs, (lhA (Ht.btl b (b.sl ab cb)) Zt rfl rfl rfl) w hs, trivial⟩) ?_
 refine Zx ?_ ?_
 refine cl rfl Z1s rfl rfl (Ht.c_Own b ab cb (by omega) _ _) ?_
 rintro _ _ R1 ⟨bo1, cap1, junk1, rfl, rfl, hR1⟩
 obtain rfl := hR1.symm
 clear hR1
 refine bg (fun w hs => ⟨(lhA (Ht.btl b (b.sl ab cb)) Zt rfl rfl rfl) w hs, trivial, trivial⟩) ?_
 refine Zx ?_ ?_
 refine cl rfl Z1s rfl rfl (Ht.c_Own b ab cb (by omega) _ _) ?_
 rintro _ _ R1 ⟨bo2, cap2, junk2, rfl, rfl, hR1⟩
 obtain rfl := hR1.symm
 clear hR1
 refine bgT (alc rfl Z0n rfl (fun b18 => bgT ?_))
 refine ZQ (l' := Ht.btl b (b.sl (some ⟨bo1, 0, none⟩) cap1)) rfl rfl rfl Z02 rfl rfl rfl rfl (nl rfl) ?_
 refine bgT ?_
 refine ZQ (l' := Ht.btl b (b.sl (some ⟨bo2, 0, none⟩) cap2)) rfl rfl rfl Z02 rfl rfl rfl rfl (nl rfl) ?_
 refine bgT ?_
 exact Zk ((bo1, cap1, junk1), (bo2, cap2, junk2), b18, b19) (fun _ h => St.sub ((((h.pull bo1).pull bo2).pull b18).pull b19))
 refine Zx ?_ ?_
 refine alc rfl Z0n rfl (fun b18 => ?_)
 refine bg (fun w hs => ⟨(lhA (Ht.btl b (b.sl ab cb)) Zt rfl rfl rfl) w hs, trivial⟩) ?_
 refine cl rfl Z1s rfl rfl (Ht.c_Own b ab cb (by omega) _ _) ?_
 rintro _ _ R1 ⟨bo2, cap2, junk2, rfl, rfl, hR1⟩
 obtain rfl := hR1.symm
 clear hR1
 refine bgT ?_
 refine ZQ (l' := Ht.btl b (b.sl (some ⟨bo1, 0, none⟩) cap1)) rfl rfl rfl Z02 rfl rfl rfl rfl (nl rfl) ?_
 refine bgT ?_
 refine ZQ (l' := Ht.btl b (b.sl (some ⟨bo2, 0, none⟩) cap2)) rfl rfl rfl Z02 rfl rfl rfl rfl (nl rfl) ?_
 refine bgT ?_
 exact Zk ((bo1, cap1, junk1), (bo2, cap2, junk2), b18, b19) (fun _ h => St.sub ((((h.pull bo1).pull bo2).pull b18).pull b19))
 exact ZP
 refine Zx ?_ ?_
 refine alc rfl Z0n rfl (fun b18 => ?_)
 refine bg (fun w hs => ⟨(lhA (Ht.btl b (b.sl ab cb)) Zt rfl rfl rfl) w hs, (lhA (Ht.btl b (b.sl ab cb)) Zt rfl rfl rfl) w hs, trivial⟩) ?_
 refine cl rfl Z1s rfl rfl (Ht.c_Own b ab cb (by omega) _ _) ?_
 rintro _ _ R1 ⟨bo1, cap1, junk1, rfl, rfl, hR1⟩
 obtain rfl := hR1.symm
 clear hR1
 refine bg (fun w hs => ⟨(lhA (Ht.btl b (b.sl ab cb)) Zt rfl rfl rfl) w hs, trivial, trivial⟩) ?_
 refine cl rfl Z1s rfl rfl (Ht.c_Own b ab cb (by omega) _ _) ?_
 rintro _ _ R1 ⟨bo2, cap2, junk2, rfl, rfl, hR1⟩
 obtain rfl := hR1.symm
 clear hR1
 refine bgT ?_
 refine ZQ (l' := Ht.btl b (b.sl (some ⟨bo1, 0, none⟩) cap1)) rfl rfl rfl Z02 rfl rfl rfl rfl (nl rfl) ?_
 refine bgT ?_
 refine ZQ (l' := Ht.btl b (b.sl (some ⟨bo2, 0, none⟩) cap2)) rfl rfl rfl Z02 rfl rfl rfl rfl (nl rfl) ?_
 refine bgT ?_
 exact Zk ((bo1, cap1, junk1), (bo2, cap2, junk2), b18, b19) (fun _ h => St.sub ((((h.pull bo1).pull bo2).pull b18).pull b19))
 exact ZP
 exact ZP
 rintro ⟨⟨bo1, cap1, junk1⟩, ⟨bo2, cap2, junk2⟩, b18, b19⟩
 dsimp only
 refine sqt 14 rfl (sp rfl (PE.fA Zj rfl) rfl (spL rfl rfl (lh Z0b rfl rfl) rfl (sp rfl (PE.indexArr ZdW rfl rfl (by omega) (by omega)) rfl (sp rfl (PE.fA ZH rfl) rfl (spL rfl rfl (lh sc3 rfl (Gt.bx_lo hbl (k := 3) (by decide))) rfl (sp rfl (PE.quo rfl rfl (by omega)) rfl (sp rfl (PE.indexArr ZdW rfl rfl (by omega) (by omega)) rfl (sp rfl (PE.fA ZI rfl) rfl (spL rfl rfl (lh sc3 rfl (Gt.bx_hi hbl (k := 3) (by decide))) rfl (sp rfl (PE.quo rfl rfl (by omega)) rfl (sp rfl (PE.build (out := [_, _]) Z3s Z1t rfl rfl) rfl (sp rfl (PE.indexAddr Z2i rfl rfl (by omega) (by omega)) rfl (sp rfl (PE.fA ZS rfl) rfl ?_)))))))))))))
 refine ZQ (l' := (Ht.brows (b.bins.set 0 { x with lo := Gt.bl bb 3 / 8, hi := Gt.bh bb 3 / 8 })).flatten ++ junk1) rfl rfl rfl Z3D rfl rfl rfl (Z2e hx _ _ _) (by rw [List.length_append, Ht.br_flat]; show 0 + ((0 : Int)).toNat * 4 + 2 + 2 ≤ _; omega) ?_
 refine sqt 14 rfl (sp rfl (PE.fA Zj rfl) rfl (spL rfl rfl (lh Z0b rfl rfl) rfl (sp rfl (PE.indexArr ZdW rfl rfl (by omega) (by omega)) rfl (sp rfl (PE.fA ZH rfl) rfl (spL rfl rfl (lh sc3 rfl (Gt.bx_lo hbl' (k := 3) (by decide))) rfl (sp rfl (PE.quo rfl rfl (by omega)) rfl (sp rfl (PE.indexArr ZdW rfl rfl (by omega) (by omega)) rfl (sp rfl (PE.fA ZI rfl) rfl (spL rfl rfl (lh sc3 rfl (Gt.bx_hi hbl' (k := 3) (by decide))) rfl (sp rfl (PE.quo rfl rfl (by omega)) rfl (sp rfl (PE.build (out := [_, _]) Z3s Z1t rfl rfl) rfl (sp rfl (PE.indexAddr Z2i rfl rfl (by omega) (by omega)) rfl (sp rfl (PE.fA ZS rfl) rfl ?_)))))))))))))
 refine ZQ (l' := (Ht.brows (b.bins.set 0 { x with lo := Gt.bl bc 3 / 8, hi := Gt.bh bc 3 / 8 })).flatten ++ junk2) rfl rfl rfl Z3D rfl rfl rfl (Z2e hx _ _ _) (by rw [List.length_append, Ht.br_flat]; show 0 + ((0 : Int)).toNat * 4 + 2 + 2 ≤ _; omega) ?_
 refine sqt 7 rfl ?_
 refine Sy.heap (fun w h => St.binRows (l := (Z3B b x (Gt.bl bb 3 / 8) (Gt.bh bb 3 / 8)).bins) (h.pull bo1)) ?_
 refine Sy.heap (fun w h => St.binRows (l := (Z3B b x (Gt.bl bc 3 / 8) (Gt.bh bc 3 / 8)).bins) (h.pull bo2)) ?_
 obtain ⟨A, hA⟩ : ∃ A, A = (Z3B b x (Gt.bl bb 3 / 8) (Gt.bh bb 3 / 8)) := ⟨_, rfl⟩
 obtain ⟨Z, hZ⟩ : ∃ Z, Z = (Z3B b x (Gt.bl bc 3 / 8) (Gt.bh bc 3 / 8)) := ⟨_, rfl⟩
 have eA : Ht.btl b (b.sl (some ⟨bo1, 0, none⟩) cap1) = Ht.btl A (A.sl (some ⟨bo1, 0, none⟩) cap1) := by rw [hA]; exact (Z6N _ _).symm
 have eZ : Ht.btl b (b.sl (some ⟨bo2, 0, none⟩) cap2) = Ht.btl Z (Z.sl (some ⟨bo2, 0, none⟩) cap2) := by rw [hZ]; exact (Z6N _ _).symm
 rw [eA, eZ, ← hA, ← hZ]
 obtain ⟨xa, hxa9⟩ : ∃ xa : Ht.HBin, xa = { x with lo := Gt.bl bb 3 / 8, hi := Gt.bh bb 3 / 8 } := ⟨_, rfl⟩
 obtain ⟨xz, hxz9⟩ : ∃ xz : Ht.HBin, xz = { x with lo := Gt.bl bc 3 / 8, hi := Gt.bh bc 3 / 8 } := ⟨_, rfl⟩
 rw [← hA] at sa1 sa2 sa3 sa4
 rw [← hZ] at sz1 sz2 sz3 sz4
 rw [← hA, ← hZ] at nw
 rw [← hxa9] at sa4
 rw [← hxz9] at sz4
 have ya1 : xa.lo = Gt.bl bb 3 / 8 := by rw [hxa9]
 have ya2 : xa.hi = Gt.bh bb 3 / 8 := by rw [hxa9]
 have yz1 : xz.lo = Gt.bl bc 3 / 8 := by rw [hxz9]
 have yz2 : xz.hi = Gt.bh bc 3 / 8 := by rw [hxz9]
 have hlA : A.bins.length ≤ 9223372036854775807 := by omega
 have hlZ : Z.bins.length ≤ 9223372036854775807 := by omega
 have hrA := sa1.len
 have hrZ := sz1.len
 have eSa : Z3B A xa xz.lo xz.hi = Z := by
   rw [hA, hZ, hxa9, hxz9]
   show b.withB ((b.bins.set 0 _).set 0 _) = b.withB (b.bins.set 0 _)
   rw [List.set_set]
 refine spL rfl rfl (lhA (Ht.btl A (A.sl (some ⟨bo1, 0, none⟩) cap1)) Zt rfl rfl rfl) rfl ?_
 refine cl rfl Z8Q rfl rfl (Ht.c_LongestX A (some ⟨bo1, 0, none⟩) cap1 hlA hrA sa2 _ _) ?_
 rintro _ _ _ ⟨⟨n, hn, rfl⟩, rfl, rfl⟩
 have hnn := Ht.kpt_nn hn
 refine pur 5 rfl (sqt 7 rfl (spL rfl rfl (lhA (Ht.btl Z (Z.sl (some ⟨bo2, 0, none⟩) cap2)) Zt rfl rfl rfl) rfl ?_))
 refine cl rfl Z8Q rfl rfl (Ht.c_LongestX Z (some ⟨bo2, 0, none⟩) cap2 hlZ hrZ sz2 _ _) ?_
 rintro _ _ _ ⟨⟨k, hkz, rfl⟩, rfl, rfl⟩
 have hnk := nw.kpt sa1 hn hkz
 refine pur 5 rfl (Z0 (Z0 ?_))
 refine Z8 [0, 1, 3, 7, 15, 31, 63, 127, 127, 511, 1023, 2047, 4095, 4095, 12287, 28671, 61439, 126975, 258047, 524287, 1048575, 2097151, 4194303, 4194303, 12582911, 29360127, 62914559, 130023423, 264241151, 536870911, 1073741823, 2147483647, 4294967295, 8589934591, 17179869183, 34359738367, 68719476735, 137438953471, 4294967295, 279172874239, 828928688127, 1928440315903, 4127463571455, 8525510082559, 17592186044415, 35184372088831, 70368744177663, 140737488355327, 281474976710655, 562949953421311, 1125899906842623, 2251799813685247, 4503599627370495, 140737488355327, 9147936743096319, 27162335252578303, 63191132271542271, 135248726309470207, 279363914385326079, 576460752303423487, 1152921504606846975] (tks 0 14 (.ld 14 (tks 15 3 (.ld 18 (tks 19 5 (.ld 24 (tks 25 3 (.ld 28 (tks 29 4 (.ld 33 (tks 34 3 (.ld 37 (.tk 38 (.ld 39 (tks 40 3 (.ld 43 (tks 44 4 (.ld 48 (tks 49 3 (.ld 52 (.tk 53 (.ld 54 (tks 55 3 (.ld 58 (.tk 59 (.tk 60 .done)))))))))))))))))))))))))) Zr (by kernel_rfl) ?_
 refine Zg 3 rfl ?_
 refine Zy 112 rfl ?_ ?_ <;> intro g112
 first | (focus (simp only [decide_eq_true_eq] at g112; omega)) | exact absurd g112 (by simp)
 refine Zg 4 rfl ?_
 refine Zy 116 rfl ?_ ?_ <;> intro g116
 first | (focus (simp only [decide_eq_true_eq] at g116; omega)) | exact absurd g116 (by simp)
 refine Zg 5 rfl ?_
 refine Zy 121 rfl ?_ ?_ <;> intro g121
 first | (focus (simp only [decide_eq_true_eq] at g121; omega)) | exact absurd g121 (by simp)
 refine Zg 1 rfl ?_
 refine tkG rfl rfl rfl rfl (PE.fA Zj rfl) rfl ?_
 refine ldG rfl rfl rfl rfl rfl (lh Z0b rfl rfl) rfl ?_
 refine tkG rfl rfl rfl rfl (PE.indexAddr Z2i rfl rfl (by omega) (by omega)) rfl ?_
 refine tkG rfl rfl rfl rfl (PE.fA ZS rfl) rfl ?_
 refine tkG rfl rfl rfl rfl (PE.fA ZH rfl) rfl ?_
 refine ldG rfl rfl rfl rfl rfl (lf (j := 2) sc3 (Ht.br_get sz4) rfl) rfl (Zg 3 rfl ?_)
 refine Zy 131 rfl ?_ ?_ <;> intro g131
 first | (focus (simp only [decide_eq_true_eq] at g131; omega)) | exact absurd g131 (by simp)
 refine Zg 1 rfl ?_
 refine tkG rfl rfl rfl rfl (PE.fA Zj rfl) rfl ?_
 refine ldG rfl rfl rfl rfl rfl (lh Z0b rfl rfl) rfl ?_
 refine tkG rfl rfl rfl rfl (PE.indexAddr Z2i rfl rfl (by omega) (by omega)) rfl ?_
 refine tkG rfl rfl rfl rfl (PE.fA ZS rfl) rfl ?_
 refine tkG rfl rfl rfl rfl (PE.fA ZI rfl) rfl ?_
 refine ldG rfl rfl rfl rfl rfl (lf (j := 3) sc3 (Ht.br_get sz4) rfl) rfl (Zg 3 rfl ?_)
 refine Zy 141 rfl ?_ ?_ <;> intro g141
 first | (focus (simp only [decide_eq_true_eq] at g141; omega)) | exact absurd g141 (by simp)
 refine tkG rfl rfl rfl rfl (PE.fA Zj rfl) rfl ?_
 refine ldG rfl rfl rfl rfl rfl (lh Z0b rfl rfl) rfl ?_
 refine tkG rfl rfl rfl rfl (PE.indexAddr Z2i rfl rfl (by omega) (by omega)) rfl ?_
 refine tkG rfl rfl rfl rfl (PE.fA ZS rfl) rfl ?_
 refine tkG rfl rfl rfl rfl (PE.fA ZH rfl) rfl ?_
 refine ldG rfl rfl rfl rfl rfl (lf (j := 2) sc3 (Ht.br_get sz4) rfl) rfl ?_
 refine tkG rfl rfl rfl rfl (PE.fA Zj rfl) rfl ?_
 refine ldG rfl rfl rfl rfl rfl (lh Z0b rfl rfl) rfl ?_
 refine tkG rfl rfl rfl rfl (PE.indexAddr Z2i rfl rfl (by omega) (by omega)) rfl ?_
 refine tkG rfl rfl rfl rfl (PE.fA ZS rfl) rfl ?_
 refine tkG rfl rfl rfl rfl (PE.fA ZH rfl) rfl ?_
 refine ldG rfl rfl rfl rfl rfl (lf (j := 2) sc3 (Ht.br_get sa4) rfl) rfl (Zg 3 rfl ?_)
 refine Zy 156 rfl ?_ ?_ <;> intro g156
 first | (focus (simp only [decide_eq_true_eq] at g156; omega)) | exact absurd g156 (by simp)
 refine tkG rfl rfl rfl rfl (PE.fA Zj rfl) rfl ?_
 refine ldG rfl rfl rfl rfl rfl (lh Z0b rfl rfl) rfl ?_
 refine tkG rfl rfl rfl rfl (PE.indexAddr Z2i rfl rfl (by omega) (by omega)) rfl ?_
 refine tkG rfl rfl rfl rfl (PE.fA ZS rfl) rfl ?_
 refine tkG rfl rfl rfl rfl (PE.fA ZI rfl) rfl ?_
 refine ldG rfl rfl rfl rfl rfl (lf (j := 3) sc3 (Ht.br_get sz4) rfl) rfl ?_
 refine tkG rfl rfl rfl rfl (PE.fA Zj rfl) rfl ?_
 refine ldG rfl rfl rfl rfl rfl (lh Z0b rfl rfl) rfl ?_
 refine tkG rfl rfl rfl rfl (PE.indexAddr Z2i rfl rfl (by omega) (by omega)) rfl ?_
 refine tkG rfl rfl rfl rfl (PE.fA ZS rfl) rfl ?_
 refine tkG rfl rfl rfl rfl (PE.fA ZI rfl) rfl ?_
 refine ldG rfl rfl rfl rfl rfl (lf (j := 3) sc3 (Ht.br_get sa4) rfl) rfl (Zg 2 rfl ?_)
 refine Z2 rfl ?_ ?_ <;> intro hc1
 first | (focus (simp only [decide_eq_true_eq] at hc1; omega)) | exact absurd hc1 (by simp)
 refine Z4 (sqt 9 rfl (spL rfl rfl (lhA (Ht.btl A (A.sl (some ⟨bo1, 0, none⟩) cap1)) Zt rfl rfl rfl) rfl (pur 1 rfl (sp rfl (PE.min rfl rfl) rfl ?_))))
 obtain ⟨days, hdy⟩ : ∃ d : Nat, min n 8 = d := ⟨(min n 8).toNat, by omega⟩
 rw [hdy]
 have hd20 : days ≤ 20 := by omega
 refine cl rfl ZeL rfl rfl (Ht.c_PlanY A (some ⟨bo1, 0, none⟩) cap1 hlA hrA sa1 sa2 days hd20 _ _) ?_
 rintro _ _ R1 ⟨pl, ap, cp, hpc, hpe, rfl, rfl, hR1⟩
 obtain rfl := hR1.symm
 clear hR1
 obtain ⟨cq, p, hp0, hpt, hpk, hlp⟩ : ∃ (cq : Nat) (p : List (List Nat)), Ht.planE A days = 0 ∧ Ht.turnsV A days = cq ∧ Ht.PlnOk A days cq p ∧ Ht.lls pl = p.map Ht.il := by
   rcases hpe with ⟨_, _, h2⟩ | h1
   · exact absurd ((Ht.kpt_pth (A.dsk_ok sa1) (A.state_inS sa1) hn days).2 (by omega)) h2
   · exact h1
 obtain ⟨w1, w2, w3, w4⟩ := nw.plan sa1 hd20 hpk
 rw [← hlp] at w3 w4
 have hpi : ∀ x ∈ pl, x.l.length ≤ 9223372036854775807 := fun x hx => by have := Ht.lls_four sa1 hlp hpk.trs x hx; omega
 have hpll : pl.length = days := by have := congrArg List.length hlp; rw [Ht.lls_len, List.length_map, hpk.len] at this; exact this
 rw [hp0]
 refine pur 5 rfl (sqt 8 rfl (spL rfl rfl (lhA (Ht.btl Z (Z.sl (some ⟨bo2, 0, none⟩) cap2)) Zt rfl rfl rfl) rfl (pur 1 rfl ?_)))
 refine cl rfl ZaX rfl rfl (Ht.c_KeepsK Z (some ⟨bo2, 0, none⟩) cap2 hlZ hrZ pl ap cp (by omega) hpi w3 _ _) ?_
 rintro _ _ _ ⟨rfl, rfl, rfl⟩
 rw [w4]
 refine pur 5 rfl (Z0 ?_)
 refine Z6S (ι := (Option Addr × Nat) × Nat) (fun z => ⟨[(12, .int .i64 0), (14, .int .i64 0), (16, .int .i64 0), (18, .pointer (some ⟨b18, 0, none⟩)), (19, .pointer (some ⟨b19, 0, none⟩)), (23, .bool true), (24, .pointer (some ⟨z.2, 0, none⟩))], (z.2, cel 37 (Ht.btl Z (Z.sl z.1.1 z.1.2))) :: (b19, cel 37 (Ht.btl Z (Z.sl (some ⟨bo2, 0, none⟩) cap2))) :: (b18, cel 37 (Ht.btl A (A.sl (some ⟨bo1, 0, none⟩) cap1))) :: (b15, cel 47 (Za bc)) :: (b13, cel 47 (Za bb)) :: (b11, cel 28 (Gt.ctl d (d.sl aD cd))) :: (b10, cel 37 (Ht.btl b (b.sl ab cb))) :: (b9, cel 29 (Za m)) :: (b8, cel 28 (Gt.ctl c (c.sl ah ch))) :: (b7, cel 25 (Gt.gtl g (g.sl ag cg))) :: H, RowsA z.1.1 4 (Ht.brows Z.bins) :: RowsA (some ⟨bo2, 0, none⟩) 4 (Ht.brows Z.bins) :: R⟩) ?_ ?_
 refine Z8 [0, 0, 2, 6, 14, 30, 63, 127, 255, 255, 0, 1535, 4095] (.ld 0 (.tk 1 (.ld 2 (.tk 3 (.tk 4 (.ld 5 (.any (.alt 6 (tks 7 3 (.big 10 (.big 11 (.tk 12 .done)))) (.alt 10 (.big 6 (tks 7 3 (.big 11 (.tk 12 .done)))) .stop))))))))) Zr (by kernel_rfl) ?_
 refine ld rfl rfl (lhA (Ht.btl A (A.sl (some ⟨bo1, 0, none⟩) cap1)) Zt rfl rfl rfl) rfl (tk rfl (PE.fA Zj rfl) rfl (ld rfl rfl (lh Z0b rfl rfl) rfl (tk rfl (PE.indexAddr Z2i rfl rfl (by omega) (by omega)) rfl (tk rfl (PE.fA ZS rfl) rfl (ld rfl rfl (Zef (j := 2) [.int .i64 xz.lo, .int .i64 xz.hi] Z4c (Ht.br_get sz4) (rest := []) rfl rfl) rfl ?_)))))
 refine Zx ?_ ?_
 refine cl rfl ZcI rfl rfl (Z4Q A (some ⟨bo1, 0, none⟩) cap1 hlA hrA sa1 sa2 sa4 (lo := xz.lo) (hi := xz.hi) (by omega) _ _) ?_
 rintro _ _ R1 ⟨a9, c9, rfl, rfl, hR1⟩
 obtain rfl := hR1.symm
 clear hR1
 rw [eSa]
 refine bgT (Zg 3 rfl (alc rfl Z0n rfl (fun b24 => bgT ?_)))
 refine ZQ (l' := Ht.btl Z (Z.sl a9 c9)) rfl rfl rfl Z02 rfl rfl rfl rfl (nl rfl) ?_
 refine bgT (Zg 1 rfl ?_)
 exact Zk ((a9, c9), b24) (fun w h => St.facts h (fun g hg => by simp only [List.mem_cons] at hg ⊢; rcases hg with h8 | h8 | h8 <;> simp [h8]))
 refine Zx ?_ ?_
 refine alc rfl Z0n rfl (fun b24 => ?_)
 refine bg (fun w hs => ⟨(Zef (j := 2) [.int .i64 xz.lo, .int .i64 xz.hi] Z4c (Ht.br_get sz4) (rest := []) rfl rfl) w hs, (lh Z0b rfl rfl) w hs, (lhA (Ht.btl A (A.sl (some ⟨bo1, 0, none⟩) cap1)) Zt rfl rfl rfl) w hs, trivial⟩) ?_
 refine cl rfl ZcI rfl rfl (Z4Q A (some ⟨bo1, 0, none⟩) cap1 hlA hrA sa1 sa2 sa4 (lo := xz.lo) (hi := xz.hi) (by omega) _ _) ?_
 rintro _ _ R1 ⟨a9, c9, rfl, rfl, hR1⟩
 obtain rfl := hR1.symm
 clear hR1
 rw [eSa]
 refine bgT (Zg 3 rfl ?_)
 refine ZQ (l' := Ht.btl Z (Z.sl a9 c9)) rfl rfl rfl Z02 rfl rfl rfl rfl (nl rfl) ?_
 refine bgT (Zg 1 rfl ?_)
 exact Zk ((a9, c9), b24) (fun w h => St.facts h (fun g hg => by simp only [List.mem_cons] at hg ⊢; rcases hg with h8 | h8 | h8 <;> simp [h8]))
 exact ZP
 rintro ⟨⟨a9, c9⟩, b24⟩
 dsimp only
 refine sqt 22 rfl (pur 3 rfl ?_)
 refine Zy 196 rfl ?_ ?_ <;> intro g196
 refine pur 4 rfl ?_
 refine Zy 200 rfl ?_ ?_ <;> intro g200
 refine pur 3 rfl ?_
 refine Zy 203 rfl ?_ ?_ <;> intro g203
 refine pur 4 rfl ?_
 refine Zy 207 rfl ?_ ?_ <;> intro g207
 refine Z25 rfl rfl rfl rfl rfl (lhA (Ht.btl Z (Z.sl a9 c9)) Zt rfl rfl rfl) rfl (Z25 rfl rfl rfl rfl rfl (lhA (Ht.btl Z (Z.sl (some ⟨bo2, 0, none⟩) cap2)) Zt rfl rfl rfl) rfl ?_)
 refine Z5r rfl rfl rfl rfl Zes rfl rfl (Ht.c_same Z a9 c9 Z (some ⟨bo2, 0, none⟩) cap2 hlZ hlZ hrZ hrZ _ _) ?_
 refine pur 2 rfl ?_
 refine Zy 212 rfl ?_ ?_ <;> intro g212
 refine Z5r rfl rfl rfl rfl Zee rfl rfl (Ht.c_awake _ _) ?_
 refine pur 2 rfl (Z1 ?_)
 exact rtA rfl rfl rfl ⟨rfl, rfl, rfl⟩ (fun w h => St.sub (((((((((((h.del b24).del b19).del b18).del b15).del b13).del b11).del b10).del b9).del b8).del b7)))
 rw [Ht.sameB_iff.2 rfl] at g212; exact absurd g212 (by decide)
 exact absurd g207 (by simp)
 exact absurd g203 (by simp)
 exact absurd g200 (by simp)
 exact absurd g196 (by simp)
end Go.Proofs.YtelnhmimhfjacaaGreat
