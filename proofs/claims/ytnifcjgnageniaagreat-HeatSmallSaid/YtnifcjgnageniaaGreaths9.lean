/- Walks of the functions of the program, and the laws that join them: what the last theorem of this claim needs, in order. -/
import Derived.Test.YtnifcjgnageniaaGreaths8
namespace Go.Proofs.YtnifcjgnageniaaGreat
set_option linter.unusedSimpArgs false
set_option linter.unusedVariables false
open Go
theorem ZhM : Z5G Tryz.prog 29 = some 2 := by kernel_rfl
theorem Zgx : cal Tryz.prog 6 = true := by kernel_rfl
theorem ZhX : Z1h Tryz.prog 29 = some 2 := by kernel_rfl
theorem ZhY : elN Tryz.prog 41 = some 1 := by kernel_rfl
theorem Zi8 : Z45 Tryz.prog 38 = true := by kernel_rfl
theorem ZhT : slE Tryz.prog 41 = some (38, 1) := by kernel_rfl
theorem ZfD : Z0x Tryz.prog 29 = some ([.int .i64 0, .int .i64 0]) := by kernel_rfl
theorem ZhS : Z0x Tryz.prog 38 = some ([.pointer none]) := by kernel_rfl
def lmL : List (List Int) := [[-1, 0, 20, 39, 41, 60, 61], [-1, 0, 1, 2, 3, 4], [-1, 0, 1, 6], [5, 6, 7, 8, 9], [8, 19, 20, 21], [-1, 0, 1, 39, 40, 41], [-1, 0, 30, 31, 60, 61], [-1, 0, 3, 4, 5], [1, 2, 3, 5, 6], [-1, 0, 1, 2], [-1, 0, 2, 3, 20, 21], [-1, 0, 3, 5, 6], [-1, 2, 3, 6], [-1, 0, 1, 2], [-1, 0, 1, 2], [-1, 0, 2, 10, 11, 1000000], [-1, 0, 3, 20000, 20001]]
theorem Zfz : ∀ l ∈ lmL, l.length ≤ 7 ∧ ∀ v ∈ l, (-9223372036854775808 ≤ v ∧ v ≤ 9223372036854775807) := by decide
structure SmW where
  xo : WO
  C : List WO
  bo : Nat
  co : Nat
  jo : List Value
def SmW.ok (y : SmW) : Prop := y.xo.l.length ≠ 0 ∧ y.C.length ≤ 14641 ∧ ∀ z ∈ wos (y.xo :: y.C), z.l.length ≤ 4
structure Sm17 where
  f0 : Int
  f1 : Int
  f2 : Int
  f3 : Int
  f4 : Int
  f5 : Int
  f6 : Int
  f7 : Int
  f8 : Int
  f9 : Int
  f10 : Int
  f11 : Int
  f12 : Int
  f13 : Int
  f14 : Int
  f15 : Int
  f16 : Int
def smB (n : Nat) (bs : List HBin) : Barn := ⟨(n : Int) % 4 * 8, (n : Int) % 3, [0, 6, 7, 9, 10, 14], bs⟩
def smX (n i : Nat) : HBin := ⟨(n : Int) * ((i : Int) + 1) % 20, 20 + (n : Int) * ((i : Int) + 3) % 21, ((n : Int) + (i : Int)) % 5, ((n : Int) + (i : Int)) % 5 + (n : Int) / 3 % 2⟩
def smL (n k : Nat) : List HBin := (List.range k).map (smX n)
theorem ZbN (n k : Nat) : smL n (k + 1) = smL n k ++ [smX n k] := by unfold smL; rw [List.range_succ, List.map_append]; rfl
theorem Zaq (n k : Nat) : (smL n k).length = k := by simp [smL]
def bnL (k : Nat) : List HBin := (List.range k).map fun (i : Nat) => ⟨(i : Int), 9, 0, 0⟩
theorem Zcs (k : Nat) : bnL (k + 1) = bnL k ++ [⟨(k : Int), 9, 0, 0⟩] := by unfold bnL; rw [List.range_succ, List.map_append]; rfl
theorem ZbK (k : Nat) : (bnL k).length = k := by simp [bnL]
def bnB (bs : List HBin) : Barn := ⟨10, 1, [0, 0, 0, 0, 0, 0], bs⟩
def thg (n : Nat) : Barn := { thr 2 with gangs := (n : Int) }
theorem Zcp : ∀ n < 7, decide ((bnB (bnL n)).check = 0) = (decide (0 < n) && decide (n < 5)) ∧ decide ((thg n).check = 0) = decide (n < 4) := by decide +kernel
theorem Zg6 (n i : Nat) (hn : n < 60) (hi : i ≤ 3) : (0 ≤ (n : Int) * ((i : Int) + 1) ∧ (n : Int) * ((i : Int) + 1) ≤ 400) ∧ 0 ≤ (n : Int) * ((i : Int) + 3) ∧ (n : Int) * ((i : Int) + 3) ≤ 400 := by
  have h1 : (n : Int) * ((i : Int) + 1) ≤ 59 * ((i : Int) + 1) := Int.mul_le_mul_of_nonneg_right (by omega) (by omega)
  have h2 : (n : Int) * ((i : Int) + 3) ≤ 59 * ((i : Int) + 3) := Int.mul_le_mul_of_nonneg_right (by omega) (by omega)
  exact ⟨⟨Int.mul_nonneg (by omega) (by omega), by omega⟩, Int.mul_nonneg (by omega) (by omega), by omega⟩
theorem Za1 (A : List PL) (z z' : PL) (jo : List Value) : spl ((Z9 (A ++ [z])).flatten ++ jo) (0 + ((A.length : Nat) : Int).toNat * 1) [.slice z'.a z'.l.length z'.c] = (Z9 (A ++ [z'])).flatten ++ jo := by
  have ha : (Z9 A).flatten.length = A.length := by rw [Z0i (Z0Z A), Zt, Nat.mul_one]
  have e (y : PL) : (Z9 (A ++ [y])).flatten ++ jo = (Z9 A).flatten ++ ([Value.slice y.a y.l.length y.c] ++ jo) := by simp [Z9, Z4L]
  rw [e, e, show 0 + ((A.length : Nat) : Int).toNat * 1 = (Z9 A).flatten.length by rw [ha]; omega]
  exact Z6N rfl
theorem Zcq (k : Nat) : ∃ pl : List PL, k = pl.length ∧ (∀ x ∈ pl, x = ⟨none, 0, []⟩) ∧ Z2N k [Value.slice none 0 0] = (Z9 pl).flatten ++ [] :=
  ⟨List.replicate k ⟨none, 0, []⟩, by simp, fun x hx => List.eq_of_mem_replicate hx, by rw [List.append_nil, Z9, List.map_replicate, Z1E]; rfl⟩
theorem St.innNil {l : List PL} (hl : ∀ x ∈ l, x = ⟨none, 0, []⟩) {H : Zg} {R : Z6} {w : World} (h : St H R w) : St H (Inn l :: R) w := h.also fun _ _ x hx => by
  rw [hl x hx]
  intro i row hi
  simp at hi
theorem Fn.weak {P : Program} {f : FuncId} {args : List Value} {H : Zg} {R : Z6} {Q Q' : Value → Zg → Z6 → Prop} (h : Fn P f args H R Q) (hq : ∀ v H' R', Q v H' R' → ∃ R2, Q' v H' R2 ∧ ∀ w, St H' R' w → St H' R2 w) : Fn P f args H R Q' := fun w hw =>
  CallsIn.mono (h w hw) (by
    rintro e w' ⟨v, H', R', h1, he, hs⟩
    obtain ⟨R2, h2, h3⟩ := hq v H' R' h1
    exact ⟨v, H', R2, h2, he, h3 w' hs⟩)
theorem Zev (b : Barn) (ab : Option Addr) (cb : Nat) (hl : b.bins.length ≤ 9223372036854775807) (hr : b.rise.length = 6) (n : Nat) (hn : n ≤ 20) (H : Zg) (R : Z6) [hB : MemRows ab 4 (Z7 b.bins) R] : Fn Tryz.prog 7 [b.v (b.sl ab cb), .int .i64 n] H R (fun v H' R' => ∃ (pl : List PL) (o : OSl 22 1 (Z9 pl)) (er : Int), pl.length ≤ n ∧ (∀ x ∈ pl, x.l.length ≤ 4) ∧ v = .tuple #[o.fs, .int .i64 er] ∧ H' = o.G ++ H ∧ R' = Inn pl :: R) :=
  Fn.weak (ZdG b ab cb hl hr n H R) fun v H' R' hq => by
    rcases hq with ⟨h1, rfl, rfl, rfl⟩ | ⟨h1, pl, bp, h2, rfl, rfl, rfl⟩
    · exact ⟨_, ⟨[], OSl.nil _ _, _, Nat.zero_le _, by simp, rfl, rfl, rfl⟩, fun w h => St.inn0 h⟩
    · have hck : b.check = 0 := Classical.byContradiction fun hc => by unfold Z09 at h1; rw [decide_eq_false hc] at h1; exact hc h1
      have hok := Barn.ok_of hr hck
      rcases Z3Q hok hck hn with ⟨h3, _⟩ | ⟨c, p, h3, h4, h5, h6⟩
      · rw [h1] at h3; exact absurd h3 (by decide)
      · rw [h5] at h2
        have hll : pl.length = n := by have := congrArg List.length h2; rw [Zo, List.length_map, h6.len] at this; exact this
        subst hll
        exact ⟨_, ⟨pl, ⟨.slice (some ⟨bp, 0, none⟩) pl.length pl.length, [(bp, cel 22 (Z9 pl).flatten)], Z0Z pl, .inr ⟨bp, pl.length, [], by rw [Zt], by rw [List.append_nil], by rw [Zt]; rfl, by rw [Zt]; exact Nat.le_refl _, by omega⟩⟩, 0, Nat.le_refl _, Z6l hok h2 h6.trs, rfl, rfl, rfl⟩, fun w h => h⟩
theorem Zct (b : Barn) (ab : Option Addr) (cb : Nat) (hl : b.bins.length ≤ 9223372036854775807) (hr : b.rise.length = 6) (H : Zg) (R : Z6) [hB : MemRows ab 4 (Z7 b.bins) R] : Fn Tryz.prog 8 [b.v (b.sl ab cb)] H R (fun v H' R' => ∃ (pl ql : List PL) (ap aq : Option Addr) (cp cq : Nat) (er : Int), (pl.length ≤ 14641 ∧ ql.length ≤ 14641) ∧ (∀ x ∈ pl, x.l.length ≤ 4) ∧ (∀ x ∈ ql, x.l.length ≤ 4) ∧ ql.length ≤ cq ∧ v = .tuple #[.slice ap pl.length cp, .slice aq ql.length cq, .int .i64 er] ∧ H' = H ∧ R' = Z5 ap 1 (Z9 pl) :: Inn pl :: Z5 aq 1 (Z9 ql) :: Inn ql :: R) :=
  Fn.weak (Z8P b ab cb hl hr H R) fun v H' R' hq => by
    rcases hq with ⟨rfl, ⟨h1, rfl, rfl⟩ | ⟨h1, h2, rfl, rfl⟩ | ⟨h1, h2, p, q, pl, ql, ap, aq, cp, cq, h3, h4, h5, h6, rfl, rfl⟩⟩
    · exact ⟨_, ⟨[], [], none, none, 0, 0, _, by decide, by simp, by simp, Nat.le_refl _, rfl, rfl, rfl⟩, fun w h => St.noRows (St.inn0 (St.noRows (St.inn0 h)))⟩
    · exact ⟨_, ⟨[], [], none, none, 0, 0, _, by decide, by simp, by simp, Nat.le_refl _, rfl, rfl, rfl⟩, fun w h => St.noRows (St.inn0 (St.noRows (St.inn0 h)))⟩
    · have hlw := h3.law (Barn.ok_of hr h1) h4 h5
      have hln := hlw.len
      exact ⟨_, ⟨pl, ql, ap, aq, cp, cq, 0, by omega, fun x hx => hlw.four x (by simp [hx]), fun x hx => hlw.four x (by simp [hx]), h6, rfl, rfl, rfl⟩, fun w h => h⟩
theorem ZdL (b : Barn) (ab : Option Addr) (cb : Nat) (hl : b.bins.length ≤ 9223372036854775807) (hr : b.rise.length = 6) (H : Zg) (R : Z6) [hB : MemRows ab 4 (Z7 b.bins) R] : Fn Tryz.prog 5 [b.v (b.sl ab cb)] H R (fun v H' R' => ∃ (W : List WE) (aw : Option Addr) (cw : Nat) (er : Int), W.length ≤ 14641 ∧ (∀ x ∈ W, x.l.length ≤ 4) ∧ W.length ≤ cw ∧ v = .tuple #[.slice aw W.length cw, .int .i64 er] ∧ H' = H ∧ R' = Z5 aw 2 (ZC W) :: InW W :: R) :=
  Fn.weak (Zdx b ab cb hl hr H R) fun v H' R' hq => by
    rcases hq with ⟨rfl, ⟨h1, rfl, rfl⟩ | ⟨h1, h2, rfl, rfl⟩ | ⟨h1, m, W, aw, cw, h2, h3, h4, h5, h6, h7, rfl, rfl⟩⟩
    · exact ⟨_, ⟨[], none, 0, _, by decide, by simp, Nat.le_refl _, rfl, rfl, rfl⟩, fun w h => St.noRows (St.inw0 h)⟩
    · exact ⟨_, ⟨[], none, 0, _, by decide, by simp, Nat.le_refl _, rfl, rfl, rfl⟩, fun w h => St.noRows (St.inw0 h)⟩
    · have hok := Barn.ok_of hr h1
      have hmn := hok.many
      have hn14 := (b.dsk.nst_le (b.dsk_ok hok)).2
      have hLz := (Z0O (Z3a (W := wls W) (by rw [h4])).1).2
      exact ⟨_, ⟨W, aw, cw, 0, by omega, fun x hx => by have := (Z0D (hLz _ (Z1q hx))).1; dsimp only at this; omega, h6, rfl, rfl, rfl⟩, fun w h => h⟩
set_option maxHeartbeats 4000000 in
theorem Z82 (H : Zg) (R : Z6) :
    Fn Tryz.prog 3 [] H R (fun v H' R' => v = .bool true ∧ H' = H ∧ R' = R) := by
 refine Zy Tryz.func3 rfl Tryz.ntmps3 rfl ?_
 refine sqt 1 rfl (pur 1 rfl (sqt 19 rfl ?_))
 refine bsl (out := [_, _, _, _, _, _, _]) rfl Z1u zl3 rfl rfl rfl rfl rfl rfl (fun b30 => ?_)
 refine bsl (out := [_, _, _, _, _, _]) rfl Z1u zl3 rfl rfl rfl rfl rfl rfl (fun b31 => ?_)
 refine bsl (out := [_, _, _, _]) rfl Z1u zl3 rfl rfl rfl rfl rfl rfl (fun b32 => ?_)
 refine bsl (out := [_, _, _, _, _]) rfl Z1u zl3 rfl rfl rfl rfl rfl rfl (fun b33 => ?_)
 refine bsl (out := [_, _, _, _]) rfl Z1u zl3 rfl rfl rfl rfl rfl rfl (fun b34 => ?_)
 refine bsl (out := [_, _, _, _, _, _]) rfl Z1u zl3 rfl rfl rfl rfl rfl rfl (fun b35 => ?_)
 refine bsl (out := [_, _, _, _, _, _]) rfl Z1u zl3 rfl rfl rfl rfl rfl rfl (fun b36 => ?_)
 refine bsl (out := [_, _, _, _, _]) rfl Z1u zl3 rfl rfl rfl rfl rfl rfl (fun b37 => ?_)
 refine bsl (out := [_, _, _, _, _]) rfl Z1u zl3 rfl rfl rfl rfl rfl rfl (fun b38 => ?_)
 refine bsl (out := [_, _, _, _]) rfl Z1u zl3 rfl rfl rfl rfl rfl rfl (fun b39 => ?_)
 refine bsl (out := [_, _, _, _, _, _]) rfl Z1u zl3 rfl rfl rfl rfl rfl rfl (fun b40 => ?_)
 refine bsl (out := [_, _, _, _, _]) rfl Z1u zl3 rfl rfl rfl rfl rfl rfl (fun b41 => ?_)
 refine bsl (out := [_, _, _, _]) rfl Z1u zl3 rfl rfl rfl rfl rfl rfl (fun b42 => ?_)
 refine bsl (out := [_, _, _, _]) rfl Z1u zl3 rfl rfl rfl rfl rfl rfl (fun b43 => ?_)
 refine bsl (out := [_, _, _, _]) rfl Z1u zl3 rfl rfl rfl rfl rfl rfl (fun b44 => ?_)
 refine bsl (out := [_, _, _, _, _, _]) rfl Z1u zl3 rfl rfl rfl rfl rfl rfl (fun b45 => ?_)
 refine bsl (out := [_, _, _, _, _]) rfl Z1u zl3 rfl rfl rfl rfl rfl rfl (fun b46 => ?_)
 refine bsl (vs := [(0, .slice (some ⟨b30, 0, none⟩) 7 7), (1, .slice (some ⟨b31, 0, none⟩) 6 6), (2, .slice (some ⟨b32, 0, none⟩) 4 4), (3, .slice (some ⟨b33, 0, none⟩) 5 5), (4, .slice (some ⟨b34, 0, none⟩) 4 4), (5, .slice (some ⟨b35, 0, none⟩) 6 6), (6, .slice (some ⟨b36, 0, none⟩) 6 6), (7, .slice (some ⟨b37, 0, none⟩) 5 5), (8, .slice (some ⟨b38, 0, none⟩) 5 5), (9, .slice (some ⟨b39, 0, none⟩) 4 4), (10, .slice (some ⟨b40, 0, none⟩) 6 6), (11, .slice (some ⟨b41, 0, none⟩) 5 5), (12, .slice (some ⟨b42, 0, none⟩) 4 4), (13, .slice (some ⟨b43, 0, none⟩) 4 4), (14, .slice (some ⟨b44, 0, none⟩) 4 4), (15, .slice (some ⟨b45, 0, none⟩) 6 6), (16, .slice (some ⟨b46, 0, none⟩) 5 5)]) (out := [.slice (some ⟨b30, 0, none⟩) 7 7, .slice (some ⟨b31, 0, none⟩) 6 6, .slice (some ⟨b32, 0, none⟩) 4 4, .slice (some ⟨b33, 0, none⟩) 5 5, .slice (some ⟨b34, 0, none⟩) 4 4, .slice (some ⟨b35, 0, none⟩) 6 6, .slice (some ⟨b36, 0, none⟩) 6 6, .slice (some ⟨b37, 0, none⟩) 5 5, .slice (some ⟨b38, 0, none⟩) 5 5, .slice (some ⟨b39, 0, none⟩) 4 4, .slice (some ⟨b40, 0, none⟩) 6 6, .slice (some ⟨b41, 0, none⟩) 5 5, .slice (some ⟨b42, 0, none⟩) 4 4, .slice (some ⟨b43, 0, none⟩) 4 4, .slice (some ⟨b44, 0, none⟩) 4 4, .slice (some ⟨b45, 0, none⟩) 6 6, .slice (some ⟨b46, 0, none⟩) 5 5]) rfl Z6I Z1K rfl rfl rfl rfl (by kernel_rfl) rfl (fun b47 => ?_)
 refine pur 1 rfl (Z0 (sqt 3 rfl ?_))
 refine Sy.heap (fun w h => St.inn0 h) ?_
 refine Sy.heap (fun w h => St.innCons (a := some ⟨b46, 0, none⟩) (c := 5) (l0 := [-1, 0, 3, 20000, 20001]) (l := []) (St.intRows (l := [-1, 0, 3, 20000, 20001]) (h.pull b46))) ?_
 refine Sy.heap (fun w h => St.innCons (a := some ⟨b45, 0, none⟩) (c := 6) (l0 := [-1, 0, 2, 10, 11, 1000000]) (l := [⟨some ⟨b46, 0, none⟩, 5, [-1, 0, 3, 20000, 20001]⟩]) (St.intRows (l := [-1, 0, 2, 10, 11, 1000000]) (h.pull b45))) ?_
 refine Sy.heap (fun w h => St.innCons (a := some ⟨b44, 0, none⟩) (c := 4) (l0 := [-1, 0, 1, 2]) (l := [⟨some ⟨b45, 0, none⟩, 6, [-1, 0, 2, 10, 11, 1000000]⟩, ⟨some ⟨b46, 0, none⟩, 5, [-1, 0, 3, 20000, 20001]⟩]) (St.intRows (l := [-1, 0, 1, 2]) (h.pull b44))) ?_
 refine Sy.heap (fun w h => St.innCons (a := some ⟨b43, 0, none⟩) (c := 4) (l0 := [-1, 0, 1, 2]) (l := [⟨some ⟨b44, 0, none⟩, 4, [-1, 0, 1, 2]⟩, ⟨some ⟨b45, 0, none⟩, 6, [-1, 0, 2, 10, 11, 1000000]⟩, ⟨some ⟨b46, 0, none⟩, 5, [-1, 0, 3, 20000, 20001]⟩]) (St.intRows (l := [-1, 0, 1, 2]) (h.pull b43))) ?_
 refine Sy.heap (fun w h => St.innCons (a := some ⟨b42, 0, none⟩) (c := 4) (l0 := [-1, 2, 3, 6]) (l := [⟨some ⟨b43, 0, none⟩, 4, [-1, 0, 1, 2]⟩, ⟨some ⟨b44, 0, none⟩, 4, [-1, 0, 1, 2]⟩, ⟨some ⟨b45, 0, none⟩, 6, [-1, 0, 2, 10, 11, 1000000]⟩, ⟨some ⟨b46, 0, none⟩, 5, [-1, 0, 3, 20000, 20001]⟩]) (St.intRows (l := [-1, 2, 3, 6]) (h.pull b42))) ?_
 refine Sy.heap (fun w h => St.innCons (a := some ⟨b41, 0, none⟩) (c := 5) (l0 := [-1, 0, 3, 5, 6]) (l := [⟨some ⟨b42, 0, none⟩, 4, [-1, 2, 3, 6]⟩, ⟨some ⟨b43, 0, none⟩, 4, [-1, 0, 1, 2]⟩, ⟨some ⟨b44, 0, none⟩, 4, [-1, 0, 1, 2]⟩, ⟨some ⟨b45, 0, none⟩, 6, [-1, 0, 2, 10, 11, 1000000]⟩, ⟨some ⟨b46, 0, none⟩, 5, [-1, 0, 3, 20000, 20001]⟩]) (St.intRows (l := [-1, 0, 3, 5, 6]) (h.pull b41))) ?_
 refine Sy.heap (fun w h => St.innCons (a := some ⟨b40, 0, none⟩) (c := 6) (l0 := [-1, 0, 2, 3, 20, 21]) (l := [⟨some ⟨b41, 0, none⟩, 5, [-1, 0, 3, 5, 6]⟩, ⟨some ⟨b42, 0, none⟩, 4, [-1, 2, 3, 6]⟩, ⟨some ⟨b43, 0, none⟩, 4, [-1, 0, 1, 2]⟩, ⟨some ⟨b44, 0, none⟩, 4, [-1, 0, 1, 2]⟩, ⟨some ⟨b45, 0, none⟩, 6, [-1, 0, 2, 10, 11, 1000000]⟩, ⟨some ⟨b46, 0, none⟩, 5, [-1, 0, 3, 20000, 20001]⟩]) (St.intRows (l := [-1, 0, 2, 3, 20, 21]) (h.pull b40))) ?_
 refine Sy.heap (fun w h => St.innCons (a := some ⟨b39, 0, none⟩) (c := 4) (l0 := [-1, 0, 1, 2]) (l := [⟨some ⟨b40, 0, none⟩, 6, [-1, 0, 2, 3, 20, 21]⟩, ⟨some ⟨b41, 0, none⟩, 5, [-1, 0, 3, 5, 6]⟩, ⟨some ⟨b42, 0, none⟩, 4, [-1, 2, 3, 6]⟩, ⟨some ⟨b43, 0, none⟩, 4, [-1, 0, 1, 2]⟩, ⟨some ⟨b44, 0, none⟩, 4, [-1, 0, 1, 2]⟩, ⟨some ⟨b45, 0, none⟩, 6, [-1, 0, 2, 10, 11, 1000000]⟩, ⟨some ⟨b46, 0, none⟩, 5, [-1, 0, 3, 20000, 20001]⟩]) (St.intRows (l := [-1, 0, 1, 2]) (h.pull b39))) ?_
 refine Sy.heap (fun w h => St.innCons (a := some ⟨b38, 0, none⟩) (c := 5) (l0 := [1, 2, 3, 5, 6]) (l := [⟨some ⟨b39, 0, none⟩, 4, [-1, 0, 1, 2]⟩, ⟨some ⟨b40, 0, none⟩, 6, [-1, 0, 2, 3, 20, 21]⟩, ⟨some ⟨b41, 0, none⟩, 5, [-1, 0, 3, 5, 6]⟩, ⟨some ⟨b42, 0, none⟩, 4, [-1, 2, 3, 6]⟩, ⟨some ⟨b43, 0, none⟩, 4, [-1, 0, 1, 2]⟩, ⟨some ⟨b44, 0, none⟩, 4, [-1, 0, 1, 2]⟩, ⟨some ⟨b45, 0, none⟩, 6, [-1, 0, 2, 10, 11, 1000000]⟩, ⟨some ⟨b46, 0, none⟩, 5, [-1, 0, 3, 20000, 20001]⟩]) (St.intRows (l := [1, 2, 3, 5, 6]) (h.pull b38))) ?_
 refine Sy.heap (fun w h => St.innCons (a := some ⟨b37, 0, none⟩) (c := 5) (l0 := [-1, 0, 3, 4, 5]) (l := [⟨some ⟨b38, 0, none⟩, 5, [1, 2, 3, 5, 6]⟩, ⟨some ⟨b39, 0, none⟩, 4, [-1, 0, 1, 2]⟩, ⟨some ⟨b40, 0, none⟩, 6, [-1, 0, 2, 3, 20, 21]⟩, ⟨some ⟨b41, 0, none⟩, 5, [-1, 0, 3, 5, 6]⟩, ⟨some ⟨b42, 0, none⟩, 4, [-1, 2, 3, 6]⟩, ⟨some ⟨b43, 0, none⟩, 4, [-1, 0, 1, 2]⟩, ⟨some ⟨b44, 0, none⟩, 4, [-1, 0, 1, 2]⟩, ⟨some ⟨b45, 0, none⟩, 6, [-1, 0, 2, 10, 11, 1000000]⟩, ⟨some ⟨b46, 0, none⟩, 5, [-1, 0, 3, 20000, 20001]⟩]) (St.intRows (l := [-1, 0, 3, 4, 5]) (h.pull b37))) ?_
 refine Sy.heap (fun w h => St.innCons (a := some ⟨b36, 0, none⟩) (c := 6) (l0 := [-1, 0, 30, 31, 60, 61]) (l := [⟨some ⟨b37, 0, none⟩, 5, [-1, 0, 3, 4, 5]⟩, ⟨some ⟨b38, 0, none⟩, 5, [1, 2, 3, 5, 6]⟩, ⟨some ⟨b39, 0, none⟩, 4, [-1, 0, 1, 2]⟩, ⟨some ⟨b40, 0, none⟩, 6, [-1, 0, 2, 3, 20, 21]⟩, ⟨some ⟨b41, 0, none⟩, 5, [-1, 0, 3, 5, 6]⟩, ⟨some ⟨b42, 0, none⟩, 4, [-1, 2, 3, 6]⟩, ⟨some ⟨b43, 0, none⟩, 4, [-1, 0, 1, 2]⟩, ⟨some ⟨b44, 0, none⟩, 4, [-1, 0, 1, 2]⟩, ⟨some ⟨b45, 0, none⟩, 6, [-1, 0, 2, 10, 11, 1000000]⟩, ⟨some ⟨b46, 0, none⟩, 5, [-1, 0, 3, 20000, 20001]⟩]) (St.intRows (l := [-1, 0, 30, 31, 60, 61]) (h.pull b36))) ?_
 refine Sy.heap (fun w h => St.innCons (a := some ⟨b35, 0, none⟩) (c := 6) (l0 := [-1, 0, 1, 39, 40, 41]) (l := [⟨some ⟨b36, 0, none⟩, 6, [-1, 0, 30, 31, 60, 61]⟩, ⟨some ⟨b37, 0, none⟩, 5, [-1, 0, 3, 4, 5]⟩, ⟨some ⟨b38, 0, none⟩, 5, [1, 2, 3, 5, 6]⟩, ⟨some ⟨b39, 0, none⟩, 4, [-1, 0, 1, 2]⟩, ⟨some ⟨b40, 0, none⟩, 6, [-1, 0, 2, 3, 20, 21]⟩, ⟨some ⟨b41, 0, none⟩, 5, [-1, 0, 3, 5, 6]⟩, ⟨some ⟨b42, 0, none⟩, 4, [-1, 2, 3, 6]⟩, ⟨some ⟨b43, 0, none⟩, 4, [-1, 0, 1, 2]⟩, ⟨some ⟨b44, 0, none⟩, 4, [-1, 0, 1, 2]⟩, ⟨some ⟨b45, 0, none⟩, 6, [-1, 0, 2, 10, 11, 1000000]⟩, ⟨some ⟨b46, 0, none⟩, 5, [-1, 0, 3, 20000, 20001]⟩]) (St.intRows (l := [-1, 0, 1, 39, 40, 41]) (h.pull b35))) ?_
 refine Sy.heap (fun w h => St.innCons (a := some ⟨b34, 0, none⟩) (c := 4) (l0 := [8, 19, 20, 21]) (l := [⟨some ⟨b35, 0, none⟩, 6, [-1, 0, 1, 39, 40, 41]⟩, ⟨some ⟨b36, 0, none⟩, 6, [-1, 0, 30, 31, 60, 61]⟩, ⟨some ⟨b37, 0, none⟩, 5, [-1, 0, 3, 4, 5]⟩, ⟨some ⟨b38, 0, none⟩, 5, [1, 2, 3, 5, 6]⟩, ⟨some ⟨b39, 0, none⟩, 4, [-1, 0, 1, 2]⟩, ⟨some ⟨b40, 0, none⟩, 6, [-1, 0, 2, 3, 20, 21]⟩, ⟨some ⟨b41, 0, none⟩, 5, [-1, 0, 3, 5, 6]⟩, ⟨some ⟨b42, 0, none⟩, 4, [-1, 2, 3, 6]⟩, ⟨some ⟨b43, 0, none⟩, 4, [-1, 0, 1, 2]⟩, ⟨some ⟨b44, 0, none⟩, 4, [-1, 0, 1, 2]⟩, ⟨some ⟨b45, 0, none⟩, 6, [-1, 0, 2, 10, 11, 1000000]⟩, ⟨some ⟨b46, 0, none⟩, 5, [-1, 0, 3, 20000, 20001]⟩]) (St.intRows (l := [8, 19, 20, 21]) (h.pull b34))) ?_
 refine Sy.heap (fun w h => St.innCons (a := some ⟨b33, 0, none⟩) (c := 5) (l0 := [5, 6, 7, 8, 9]) (l := [⟨some ⟨b34, 0, none⟩, 4, [8, 19, 20, 21]⟩, ⟨some ⟨b35, 0, none⟩, 6, [-1, 0, 1, 39, 40, 41]⟩, ⟨some ⟨b36, 0, none⟩, 6, [-1, 0, 30, 31, 60, 61]⟩, ⟨some ⟨b37, 0, none⟩, 5, [-1, 0, 3, 4, 5]⟩, ⟨some ⟨b38, 0, none⟩, 5, [1, 2, 3, 5, 6]⟩, ⟨some ⟨b39, 0, none⟩, 4, [-1, 0, 1, 2]⟩, ⟨some ⟨b40, 0, none⟩, 6, [-1, 0, 2, 3, 20, 21]⟩, ⟨some ⟨b41, 0, none⟩, 5, [-1, 0, 3, 5, 6]⟩, ⟨some ⟨b42, 0, none⟩, 4, [-1, 2, 3, 6]⟩, ⟨some ⟨b43, 0, none⟩, 4, [-1, 0, 1, 2]⟩, ⟨some ⟨b44, 0, none⟩, 4, [-1, 0, 1, 2]⟩, ⟨some ⟨b45, 0, none⟩, 6, [-1, 0, 2, 10, 11, 1000000]⟩, ⟨some ⟨b46, 0, none⟩, 5, [-1, 0, 3, 20000, 20001]⟩]) (St.intRows (l := [5, 6, 7, 8, 9]) (h.pull b33))) ?_
 refine Sy.heap (fun w h => St.innCons (a := some ⟨b32, 0, none⟩) (c := 4) (l0 := [-1, 0, 1, 6]) (l := [⟨some ⟨b33, 0, none⟩, 5, [5, 6, 7, 8, 9]⟩, ⟨some ⟨b34, 0, none⟩, 4, [8, 19, 20, 21]⟩, ⟨some ⟨b35, 0, none⟩, 6, [-1, 0, 1, 39, 40, 41]⟩, ⟨some ⟨b36, 0, none⟩, 6, [-1, 0, 30, 31, 60, 61]⟩, ⟨some ⟨b37, 0, none⟩, 5, [-1, 0, 3, 4, 5]⟩, ⟨some ⟨b38, 0, none⟩, 5, [1, 2, 3, 5, 6]⟩, ⟨some ⟨b39, 0, none⟩, 4, [-1, 0, 1, 2]⟩, ⟨some ⟨b40, 0, none⟩, 6, [-1, 0, 2, 3, 20, 21]⟩, ⟨some ⟨b41, 0, none⟩, 5, [-1, 0, 3, 5, 6]⟩, ⟨some ⟨b42, 0, none⟩, 4, [-1, 2, 3, 6]⟩, ⟨some ⟨b43, 0, none⟩, 4, [-1, 0, 1, 2]⟩, ⟨some ⟨b44, 0, none⟩, 4, [-1, 0, 1, 2]⟩, ⟨some ⟨b45, 0, none⟩, 6, [-1, 0, 2, 10, 11, 1000000]⟩, ⟨some ⟨b46, 0, none⟩, 5, [-1, 0, 3, 20000, 20001]⟩]) (St.intRows (l := [-1, 0, 1, 6]) (h.pull b32))) ?_
 refine Sy.heap (fun w h => St.innCons (a := some ⟨b31, 0, none⟩) (c := 6) (l0 := [-1, 0, 1, 2, 3, 4]) (l := [⟨some ⟨b32, 0, none⟩, 4, [-1, 0, 1, 6]⟩, ⟨some ⟨b33, 0, none⟩, 5, [5, 6, 7, 8, 9]⟩, ⟨some ⟨b34, 0, none⟩, 4, [8, 19, 20, 21]⟩, ⟨some ⟨b35, 0, none⟩, 6, [-1, 0, 1, 39, 40, 41]⟩, ⟨some ⟨b36, 0, none⟩, 6, [-1, 0, 30, 31, 60, 61]⟩, ⟨some ⟨b37, 0, none⟩, 5, [-1, 0, 3, 4, 5]⟩, ⟨some ⟨b38, 0, none⟩, 5, [1, 2, 3, 5, 6]⟩, ⟨some ⟨b39, 0, none⟩, 4, [-1, 0, 1, 2]⟩, ⟨some ⟨b40, 0, none⟩, 6, [-1, 0, 2, 3, 20, 21]⟩, ⟨some ⟨b41, 0, none⟩, 5, [-1, 0, 3, 5, 6]⟩, ⟨some ⟨b42, 0, none⟩, 4, [-1, 2, 3, 6]⟩, ⟨some ⟨b43, 0, none⟩, 4, [-1, 0, 1, 2]⟩, ⟨some ⟨b44, 0, none⟩, 4, [-1, 0, 1, 2]⟩, ⟨some ⟨b45, 0, none⟩, 6, [-1, 0, 2, 10, 11, 1000000]⟩, ⟨some ⟨b46, 0, none⟩, 5, [-1, 0, 3, 20000, 20001]⟩]) (St.intRows (l := [-1, 0, 1, 2, 3, 4]) (h.pull b31))) ?_
 refine Sy.heap (fun w h => St.innCons (a := some ⟨b30, 0, none⟩) (c := 7) (l0 := [-1, 0, 20, 39, 41, 60, 61]) (l := [⟨some ⟨b31, 0, none⟩, 6, [-1, 0, 1, 2, 3, 4]⟩, ⟨some ⟨b32, 0, none⟩, 4, [-1, 0, 1, 6]⟩, ⟨some ⟨b33, 0, none⟩, 5, [5, 6, 7, 8, 9]⟩, ⟨some ⟨b34, 0, none⟩, 4, [8, 19, 20, 21]⟩, ⟨some ⟨b35, 0, none⟩, 6, [-1, 0, 1, 39, 40, 41]⟩, ⟨some ⟨b36, 0, none⟩, 6, [-1, 0, 30, 31, 60, 61]⟩, ⟨some ⟨b37, 0, none⟩, 5, [-1, 0, 3, 4, 5]⟩, ⟨some ⟨b38, 0, none⟩, 5, [1, 2, 3, 5, 6]⟩, ⟨some ⟨b39, 0, none⟩, 4, [-1, 0, 1, 2]⟩, ⟨some ⟨b40, 0, none⟩, 6, [-1, 0, 2, 3, 20, 21]⟩, ⟨some ⟨b41, 0, none⟩, 5, [-1, 0, 3, 5, 6]⟩, ⟨some ⟨b42, 0, none⟩, 4, [-1, 2, 3, 6]⟩, ⟨some ⟨b43, 0, none⟩, 4, [-1, 0, 1, 2]⟩, ⟨some ⟨b44, 0, none⟩, 4, [-1, 0, 1, 2]⟩, ⟨some ⟨b45, 0, none⟩, 6, [-1, 0, 2, 10, 11, 1000000]⟩, ⟨some ⟨b46, 0, none⟩, 5, [-1, 0, 3, 20000, 20001]⟩]) (St.intRows (l := [-1, 0, 20, 39, 41, 60, 61]) (h.pull b30))) ?_
 refine Sy.heap (fun w h => St.rows (sz := 1) (rows := Z9 ([⟨some ⟨b30, 0, none⟩, 7, [-1, 0, 20, 39, 41, 60, 61]⟩, ⟨some ⟨b31, 0, none⟩, 6, [-1, 0, 1, 2, 3, 4]⟩, ⟨some ⟨b32, 0, none⟩, 4, [-1, 0, 1, 6]⟩, ⟨some ⟨b33, 0, none⟩, 5, [5, 6, 7, 8, 9]⟩, ⟨some ⟨b34, 0, none⟩, 4, [8, 19, 20, 21]⟩, ⟨some ⟨b35, 0, none⟩, 6, [-1, 0, 1, 39, 40, 41]⟩, ⟨some ⟨b36, 0, none⟩, 6, [-1, 0, 30, 31, 60, 61]⟩, ⟨some ⟨b37, 0, none⟩, 5, [-1, 0, 3, 4, 5]⟩, ⟨some ⟨b38, 0, none⟩, 5, [1, 2, 3, 5, 6]⟩, ⟨some ⟨b39, 0, none⟩, 4, [-1, 0, 1, 2]⟩, ⟨some ⟨b40, 0, none⟩, 6, [-1, 0, 2, 3, 20, 21]⟩, ⟨some ⟨b41, 0, none⟩, 5, [-1, 0, 3, 5, 6]⟩, ⟨some ⟨b42, 0, none⟩, 4, [-1, 2, 3, 6]⟩, ⟨some ⟨b43, 0, none⟩, 4, [-1, 0, 1, 2]⟩, ⟨some ⟨b44, 0, none⟩, 4, [-1, 0, 1, 2]⟩, ⟨some ⟨b45, 0, none⟩, 6, [-1, 0, 2, 10, 11, 1000000]⟩, ⟨some ⟨b46, 0, none⟩, 5, [-1, 0, 3, 20000, 20001]⟩] : List PL)) (rest := []) (h.pull b47) (Z0Z ([⟨some ⟨b30, 0, none⟩, 7, [-1, 0, 20, 39, 41, 60, 61]⟩, ⟨some ⟨b31, 0, none⟩, 6, [-1, 0, 1, 2, 3, 4]⟩, ⟨some ⟨b32, 0, none⟩, 4, [-1, 0, 1, 6]⟩, ⟨some ⟨b33, 0, none⟩, 5, [5, 6, 7, 8, 9]⟩, ⟨some ⟨b34, 0, none⟩, 4, [8, 19, 20, 21]⟩, ⟨some ⟨b35, 0, none⟩, 6, [-1, 0, 1, 39, 40, 41]⟩, ⟨some ⟨b36, 0, none⟩, 6, [-1, 0, 30, 31, 60, 61]⟩, ⟨some ⟨b37, 0, none⟩, 5, [-1, 0, 3, 4, 5]⟩, ⟨some ⟨b38, 0, none⟩, 5, [1, 2, 3, 5, 6]⟩, ⟨some ⟨b39, 0, none⟩, 4, [-1, 0, 1, 2]⟩, ⟨some ⟨b40, 0, none⟩, 6, [-1, 0, 2, 3, 20, 21]⟩, ⟨some ⟨b41, 0, none⟩, 5, [-1, 0, 3, 5, 6]⟩, ⟨some ⟨b42, 0, none⟩, 4, [-1, 2, 3, 6]⟩, ⟨some ⟨b43, 0, none⟩, 4, [-1, 0, 1, 2]⟩, ⟨some ⟨b44, 0, none⟩, 4, [-1, 0, 1, 2]⟩, ⟨some ⟨b45, 0, none⟩, 6, [-1, 0, 2, 10, 11, 1000000]⟩, ⟨some ⟨b46, 0, none⟩, 5, [-1, 0, 3, 20000, 20001]⟩] : List PL))) ?_
 obtain ⟨ls, hls⟩ : ∃ ls, ([⟨some ⟨b30, 0, none⟩, 7, [-1, 0, 20, 39, 41, 60, 61]⟩, ⟨some ⟨b31, 0, none⟩, 6, [-1, 0, 1, 2, 3, 4]⟩, ⟨some ⟨b32, 0, none⟩, 4, [-1, 0, 1, 6]⟩, ⟨some ⟨b33, 0, none⟩, 5, [5, 6, 7, 8, 9]⟩, ⟨some ⟨b34, 0, none⟩, 4, [8, 19, 20, 21]⟩, ⟨some ⟨b35, 0, none⟩, 6, [-1, 0, 1, 39, 40, 41]⟩, ⟨some ⟨b36, 0, none⟩, 6, [-1, 0, 30, 31, 60, 61]⟩, ⟨some ⟨b37, 0, none⟩, 5, [-1, 0, 3, 4, 5]⟩, ⟨some ⟨b38, 0, none⟩, 5, [1, 2, 3, 5, 6]⟩, ⟨some ⟨b39, 0, none⟩, 4, [-1, 0, 1, 2]⟩, ⟨some ⟨b40, 0, none⟩, 6, [-1, 0, 2, 3, 20, 21]⟩, ⟨some ⟨b41, 0, none⟩, 5, [-1, 0, 3, 5, 6]⟩, ⟨some ⟨b42, 0, none⟩, 4, [-1, 2, 3, 6]⟩, ⟨some ⟨b43, 0, none⟩, 4, [-1, 0, 1, 2]⟩, ⟨some ⟨b44, 0, none⟩, 4, [-1, 0, 1, 2]⟩, ⟨some ⟨b45, 0, none⟩, 6, [-1, 0, 2, 10, 11, 1000000]⟩, ⟨some ⟨b46, 0, none⟩, 5, [-1, 0, 3, 20000, 20001]⟩] : List PL) = ls := ⟨_, rfl⟩
 have hll : lls ls = lmL := by subst hls; rfl
 rw [hls]
 clear hls
 refine pur 1 rfl (sp rfl (PE.lenSl Z0E rfl) rfl (pur 1 rfl (Z3 ?_)))
 refine Zj (ι := {i : Nat // i ≤ 17}) (fun y => ⟨[(48, .slice (some ⟨b47, 0, none⟩) 17 17), (49, .int .i64 17), (50, .int .i64 y.1)], H, Z5 (some ⟨b47, 0, none⟩) 1 (Z9 ls) :: Inn ls :: R⟩) (fun y => 17 - y.1) ⟨0, Nat.zero_le _⟩ ?_ (fun y => ?_)
 exact Zr (fun w h => h.facts SubF.sub)
 obtain ⟨i, hi⟩ := y
 dsimp only at hi ⊢
 have hln : ls.length = 17 := by have := congrArg List.length hll; rw [Zo] at this; exact this
 refine sqt 1 rfl (pur 1 rfl (Z0 ?_))
 refine Z2 rfl ?_ ?_ <;> intro hc0 <;> try simp only [cS] at hc0
 obtain ⟨x, hx⟩ : ∃ x, ls[i]? = some x := ⟨_, List.getElem?_eq_getElem (by omega)⟩
 have hxm := List.mem_of_getElem? hx
 obtain ⟨hxl, hxv⟩ := Zfz x.l (hll ▸ List.mem_map.2 ⟨x, hxm, rfl⟩)
 refine Sy.heap (fun w h => St.inn (x := x) h hxm) ?_
 refine Z1 (Z0 (Z3 (sqt 5 rfl (pur 1 rfl (sp rfl (PE.indexAddr Z4l rfl rfl (by omega) (by omega)) rfl (spL rfl rfl (lf0 Z2g (Z14 hx) rfl) rfl (pur 2 rfl (sqt 5 rfl ?_))))))))
 refine bsl (out := [_, _]) rfl Z1u zl3 rfl rfl rfl rfl rfl rfl (fun b55 => ?_)
 refine pur 1 rfl ?_
 obtain ⟨o, ho, hG⟩ : ∃ o : OSl 3 1 (Zm [9223372036854775807, -9223372036854775808]), o.fs = .slice (some ⟨b55, 0, none⟩) 2 2 ∧ o.G = [(b55, cel 3 (ZI [9223372036854775807, -9223372036854775808]))] := ⟨⟨_, _, by simp, .inr ⟨b55, 2, [], rfl, rfl, rfl, Nat.le_refl _, by decide⟩⟩, rfl, rfl⟩
 rw [← ho]
 refine Sy.heap (H' := o.G ++ H) (fun w h => by rw [hG]; exact h) ?_
 refine apO o rfl Z7F rfl rfl (Zao (a := x.a) (sz := 1) (rows := Zm x.l)) (Zd x.l) (by simp [Z0X]; intros; rfl) (by simp only [Zd, List.length_cons, List.length_nil]; omega) rfl (fun o57 => ?_)
 obtain ⟨a57, c57, he, hf⟩ := (o57.cast (by simp) : OSl 3 1 (Zm ([9223372036854775807, -9223372036854775808] ++ x.l))).freeze
 rw [show o57.fs = _ from he, Zd]
 refine Sy.heap (fun w h => hf h) ?_
 clear he hf
 have hvr : ∀ v ∈ ([9223372036854775807, -9223372036854775808] ++ x.l), (-9223372036854775808 ≤ v ∧ v ≤ 9223372036854775807) := fun v hv => by
   rcases List.mem_append.1 hv with hv | hv
   · simp only [List.mem_cons, List.not_mem_nil, or_false] at hv; omega
   · exact hxv v hv
 have hlv : ([9223372036854775807, -9223372036854775808] ++ x.l).length = x.l.length + 2 := by simp
 refine Zl (a := a57) (sz := 1) (rows := Zm ([9223372036854775807, -9223372036854775808] ++ x.l)) (by intro h0; have := congrArg List.length h0; rw [Zd] at this; simp at this) (fun bv ov he => ?_)
 subst he
 refine sp rfl (PE.lenSl Z0n rfl) rfl (pur 1 rfl (Z3 ?_))
 refine Zj (ι := {k : Nat // k ≤ ([9223372036854775807, -9223372036854775808] ++ x.l).length}) (fun y => ⟨[(48, .slice (some ⟨b47, 0, none⟩) 17 17), (49, .int .i64 17), (50, .int .i64 i), (2, .int .i64 i), (57, .slice (some ⟨bv, ov, none⟩) ([9223372036854775807, -9223372036854775808] ++ x.l).length c57), (58, .int .i64 ([9223372036854775807, -9223372036854775808] ++ x.l).length), (59, .int .i64 y.1)], H, Z5 (some ⟨bv, ov, none⟩) 1 (Zm ([9223372036854775807, -9223372036854775808] ++ x.l)) :: Z5 (some ⟨b47, 0, none⟩) 1 (Z9 ls) :: Inn ls :: R⟩) (fun y => ([9223372036854775807, -9223372036854775808] ++ x.l).length - y.1) ⟨0, Nat.zero_le _⟩ ?_ (fun y => ?_)
 exact Zr (fun w h => h.facts SubF.sub)
 obtain ⟨k, hk⟩ := y
 dsimp only at hk ⊢
 refine sqt 1 rfl (pur 1 rfl (Z0 ?_))
 refine Z2 rfl ?_ ?_ <;> intro hc1 <;> try simp only [cS] at hc1
 obtain ⟨v, hv⟩ : ∃ v, ([9223372036854775807, -9223372036854775808] ++ x.l)[k]? = some v := ⟨_, List.getElem?_eq_getElem (by omega)⟩
 have hv2 := hvr v (List.mem_of_getElem? hv)
 refine Z1 (Z0 (Z3 (sqt 3 rfl (sp rfl (PE.indexAddr Z28 rfl rfl (by omega) (by omega)) rfl (spL rfl rfl (lf0 sc3 (Z0v hv) rfl) rfl (pur 1 rfl (sqt 1 rfl (pur 1 rfl (Z3 ?_)))))))))
 refine Zj (ι := {n : Nat // 2 ≤ n ∧ n ≤ 4}) (fun y => ⟨[(48, .slice (some ⟨b47, 0, none⟩) 17 17), (49, .int .i64 17), (50, .int .i64 i), (2, .int .i64 i), (57, .slice (some ⟨bv, ov, none⟩) ([9223372036854775807, -9223372036854775808] ++ x.l).length c57), (58, .int .i64 ([9223372036854775807, -9223372036854775808] ++ x.l).length), (59, .int .i64 k), (5, .int .i64 v), (6, .int .i64 y.1)], H, Z5 (some ⟨bv, ov, none⟩) 1 (Zm ([9223372036854775807, -9223372036854775808] ++ x.l)) :: Z5 (some ⟨b47, 0, none⟩) 1 (Z9 ls) :: Inn ls :: R⟩) (fun y => 4 - y.1) ⟨2, by decide, by decide⟩ ?_ (fun y => ?_)
 exact Zr idH
 obtain ⟨n, hn2, hn⟩ := y
 dsimp only at hn2 hn ⊢
 refine Z0 (sqt 2 rfl (pur 2 rfl ?_))
 refine Z2 rfl ?_ ?_ <;> intro hc2 <;> try simp only [cS] at hc2
 refine Z1 (Z0 (Z3 (sqt 10 rfl (pur 1 rfl ?_))))
 refine cl rfl Z4c rfl rfl (Zc3 n (by omega) _ _) ?_
 rintro _ _ _ ⟨ba, rfl, rfl, rfl⟩
 have htl := ZaR (n := n) (by omega)
 have hsl : Value.slice (some ⟨ba, 0, none⟩) n 3 = (thr n).sl (some ⟨ba, 0, none⟩) 3 := by unfold Barn.sl; rw [htl]
 obtain ⟨junk, hjk⟩ : ∃ j, (Z7 (thr 3).bins).flatten = (Z7 (thr n).bins).flatten ++ j := ⟨((Z7 (thr 3).bins).drop n).flatten, by rw [show Z7 (thr n).bins = (Z7 (thr 3).bins).take n from by simp [Z7, thr, List.map_take], ← List.flatten_append, List.take_append_drop]⟩
 rw [hsl, hjk]
 refine sp rfl (PE.buildArr (out := [_, _]) Zc7 ZfD rfl rfl) rfl (sp rfl (PE.build (out := [_, _]) Z4r Z2C rfl rfl) rfl (alc rfl Z0w rfl (fun b7 => alc rfl ZfD rfl (fun b8 => alc rfl Z2C rfl (fun b9 => ?_)))))
 refine Z1b (l' := btl (thr n) ((thr n).sl (some ⟨ba, 0, none⟩) 3)) rfl rfl rfl Z03 rfl rfl rfl rfl (nl rfl) ?_
 refine sto rfl rfl rfl ZhX rfl rfl rfl rfl ?_
 refine sto rfl rfl rfl Z9g rfl rfl rfl rfl ?_
 refine sqt 8 rfl ?_
 refine bsl (out := [_]) rfl Z1u zl3 rfl rfl rfl rfl rfl rfl (fun b71 => ?_)
 refine bsl (out := [_]) rfl Z1u zl3 rfl rfl rfl rfl rfl rfl (fun b72 => ?_)
 refine bsl (out := [_, _, _]) rfl Z6I Z1K rfl rfl rfl rfl rfl rfl (fun b73 => ?_)
 refine bsl (out := [_]) rfl Z1u zl3 rfl rfl rfl rfl rfl rfl (fun b74 => ?_)
 refine bsl (out := [_]) rfl Z1u zl3 rfl rfl rfl rfl rfl rfl (fun b75 => ?_)
 refine bsl (out := [_, _]) rfl Z6I Z1K rfl rfl rfl rfl rfl rfl (fun b76 => ?_)
 refine pur 2 rfl (sqt 7 rfl (spL rfl rfl (lhA (btl (thr n) ((thr n).sl (some ⟨ba, 0, none⟩) 3)) ZD rfl rfl rfl) rfl ?_))
 refine cl rfl ZgV rfl rfl (ZeC (thr n) ba 3 junk (by omega) rfl _ _) ?_
 rintro _ _ _ ⟨H1, ⟨W, o, er, hWl, hWx, rfl, rfl⟩, rfl, rfl⟩
 refine pur 5 rfl (Z0 (Z0 ?_))
 refine Z2Q (ι := Value ⊕ {y : SmW // y.ok}) (fun s => ⟨[(48, .slice (some ⟨b47, 0, none⟩) 17 17), (49, .int .i64 17), (50, .int .i64 i), (2, .int .i64 i), (57, .slice (some ⟨bv, ov, none⟩) ([9223372036854775807, -9223372036854775808] ++ x.l).length c57), (58, .int .i64 ([9223372036854775807, -9223372036854775808] ++ x.l).length), (59, .int .i64 k), (5, .int .i64 v), (6, .int .i64 n), (7, .pointer (some ⟨b7, 0, none⟩)), (8, .pointer (some ⟨b8, 0, none⟩)), (9, .pointer (some ⟨b9, 0, none⟩)), (10, .slice (some ⟨b73, 0, none⟩) 3 3), (11, .slice (some ⟨b76, 0, none⟩) 2 2), (92, .bool s.isLeft), (12, s.elim id fun y => .slice (some ⟨y.1.bo, 0, none⟩) (wos (y.1.xo :: y.1.C)).length y.1.co)], s.elim (fun _ => (ba, cel 40 ((Z7 (thr n).bins).flatten ++ junk)) :: ((b76, cel 22 [.slice (some ⟨b74, 0, none⟩) 1 1, .slice (some ⟨b75, 0, none⟩) 1 1]) :: (b75, cel 3 [.int .i64 1]) :: (b74, cel 3 [.int .i64 0]) :: (b73, cel 22 [.slice none 0 0, .slice (some ⟨b71, 0, none⟩) 1 1, .slice (some ⟨b72, 0, none⟩) 1 1]) :: (b72, cel 3 [.int .i64 1]) :: (b71, cel 3 [.int .i64 0]) :: (b9, cel 31 [.int .i64 2, .int .i64 3]) :: (b8, cel 29 [.int .i64 1, .int .i64 3]) :: (b7, cel 27 (btl (thr n) ((thr n).sl (some ⟨ba, 0, none⟩) 3))) :: H)) (fun y => (ba, cel 40 ((Z7 (thr n).bins).flatten ++ junk)) :: (y.1.bo, cel 37 ((ZC (wos (y.1.xo :: y.1.C))).flatten ++ y.1.jo)) :: y.1.xo.blk :: (wob y.1.C ++ ((b76, cel 22 [.slice (some ⟨b74, 0, none⟩) 1 1, .slice (some ⟨b75, 0, none⟩) 1 1]) :: (b75, cel 3 [.int .i64 1]) :: (b74, cel 3 [.int .i64 0]) :: (b73, cel 22 [.slice none 0 0, .slice (some ⟨b71, 0, none⟩) 1 1, .slice (some ⟨b72, 0, none⟩) 1 1]) :: (b72, cel 3 [.int .i64 1]) :: (b71, cel 3 [.int .i64 0]) :: (b9, cel 31 [.int .i64 2, .int .i64 3]) :: (b8, cel 29 [.int .i64 1, .int .i64 3]) :: (b7, cel 27 (btl (thr n) ((thr n).sl (some ⟨ba, 0, none⟩) 3))) :: H))), Z5 (some ⟨bv, ov, none⟩) 1 (Zm ([9223372036854775807, -9223372036854775808] ++ x.l)) :: Z5 (some ⟨b47, 0, none⟩) 1 (Z9 ls) :: Inn ls :: R⟩) ?_ ?_
 refine sqr 11 rfl ?_
 obtain ⟨af, cf, he, _⟩ := o.freeze
 rw [ZM] at he
 rw [he]
 refine pur 1 rfl (sp rfl (PE.lenSl Z2f rfl) rfl (pur 2 rfl ?_))
 refine Zak (t := 85) rfl (fun g85 => ?_) (fun g85 => ?_)
 · refine spN rfl rfl rfl rfl rfl rfl rfl rfl ?_
   refine pur 6 rfl ?_
   exact Za (Sum.inl _) (fun w h => St.dropMid (A := [_]) (B := wob _) (St.dropMid (A := [_]) (B := o.G) h))
 · obtain ⟨xo, C, rfl⟩ : ∃ xo C, W = xo :: C := by
     cases W with
     | nil => exact absurd g85 (by decide)
     | cons x l => exact ⟨x, l, rfl⟩
   obtain ⟨bo, co, jo, hfs, hoG, hoj, hoc, hom⟩ := o.is.resolve_left (fun h => by have := congrArg List.length h.1; simp [ZC, wos] at this)
   rw [hfs] at he
   simp only [Value.slice.injEq] at he
   obtain ⟨rfl, _, rfl⟩ := he
   rw [hoG]
   refine Sy.heap (H' := (ba, cel 40 ((Z7 (thr n).bins).flatten ++ junk)) :: (bo, cel 37 ((ZC (wos (xo :: C))).flatten ++ jo)) :: xo.blk :: (wob C ++ ((b76, cel 22 [.slice (some ⟨b74, 0, none⟩) 1 1, .slice (some ⟨b75, 0, none⟩) 1 1]) :: (b75, cel 3 [.int .i64 1]) :: (b74, cel 3 [.int .i64 0]) :: (b73, cel 22 [.slice none 0 0, .slice (some ⟨b71, 0, none⟩) 1 1, .slice (some ⟨b72, 0, none⟩) 1 1]) :: (b72, cel 3 [.int .i64 1]) :: (b71, cel 3 [.int .i64 0]) :: (b9, cel 31 [.int .i64 2, .int .i64 3]) :: (b8, cel 29 [.int .i64 1, .int .i64 3]) :: (b7, cel 27 (btl (thr n) ((thr n).sl (some ⟨ba, 0, none⟩) 3))) :: H))) idH ?_
   have hxo : (wos (xo :: C))[0]? = some xo.we := rfl
   have hpos : 0 < (wos (xo :: C)).length := Nat.succ_pos _
   refine pur 1 rfl ?_
   refine spG rfl rfl rfl rfl (PE.indexAddr Z68 rfl rfl (by decide) (by omega)) rfl ?_
   refine spG rfl rfl rfl rfl (PE.fA Z1R rfl) rfl ?_
   refine Z0o rfl rfl rfl rfl rfl (lh Z2g rfl (Zf5 (v := .slice (some ⟨xo.b, 0, none⟩) xo.l.length xo.cap) (k := 0) (j := 0) hxo rfl (by omega) rfl)) rfl ?_
   refine spG rfl rfl rfl rfl (PE.lenSl Z0n rfl) rfl ?_
   refine pur 2 rfl ?_
   by_cases hxe : (xo.l.length : Int) = 0
   · rw [dT hxe]
     exact Za (Sum.inl _) (fun w h => by have h2 := St.dropMid (A := [_]) (B := _ :: _ :: wob C) h; exact h2)
   · rw [dF hxe]
     exact Za (Sum.inr ⟨⟨xo, C, bo, co, jo⟩, by dsimp only; omega, by simp only [List.length_cons] at hWl; dsimp only; omega, hWx⟩) idH
 rintro s14
 dsimp only
 refine Z15 (ι := {y : SmW // y.ok}) (fun y => ⟨[(48, .slice (some ⟨b47, 0, none⟩) 17 17), (49, .int .i64 17), (50, .int .i64 i), (2, .int .i64 i), (57, .slice (some ⟨bv, ov, none⟩) ([9223372036854775807, -9223372036854775808] ++ x.l).length c57), (58, .int .i64 ([9223372036854775807, -9223372036854775808] ++ x.l).length), (59, .int .i64 k), (5, .int .i64 v), (6, .int .i64 n), (7, .pointer (some ⟨b7, 0, none⟩)), (8, .pointer (some ⟨b8, 0, none⟩)), (9, .pointer (some ⟨b9, 0, none⟩)), (10, .slice (some ⟨b73, 0, none⟩) 3 3), (11, .slice (some ⟨b76, 0, none⟩) 2 2), (12, .slice (some ⟨y.1.bo, 0, none⟩) (wos (y.1.xo :: y.1.C)).length y.1.co)], (ba, cel 40 ((Z7 (thr n).bins).flatten ++ junk)) :: (y.1.bo, cel 37 ((ZC (wos (y.1.xo :: y.1.C))).flatten ++ y.1.jo)) :: y.1.xo.blk :: (wob y.1.C ++ ((b76, cel 22 [.slice (some ⟨b74, 0, none⟩) 1 1, .slice (some ⟨b75, 0, none⟩) 1 1]) :: (b75, cel 3 [.int .i64 1]) :: (b74, cel 3 [.int .i64 0]) :: (b73, cel 22 [.slice none 0 0, .slice (some ⟨b71, 0, none⟩) 1 1, .slice (some ⟨b72, 0, none⟩) 1 1]) :: (b72, cel 3 [.int .i64 1]) :: (b71, cel 3 [.int .i64 0]) :: (b9, cel 31 [.int .i64 2, .int .i64 3]) :: (b8, cel 29 [.int .i64 1, .int .i64 3]) :: (b7, cel 27 (btl (thr n) ((thr n).sl (some ⟨ba, 0, none⟩) 3))) :: H)), Z5 (some ⟨bv, ov, none⟩) 1 (Zm ([9223372036854775807, -9223372036854775808] ++ x.l)) :: Z5 (some ⟨b47, 0, none⟩) 1 (Z9 ls) :: Inn ls :: R⟩) ?_ ?_
 refine Z2 rfl ?_ ?_ <;> intro hc3
 obtain ⟨v14, rfl⟩ : ∃ v, s14 = Sum.inl v := by
   cases s14 with
   | inl v => exact ⟨v, rfl⟩
   | inr y => exact absurd hc3 (by simp)
 refine Sy.heap (H' := (ba, cel 40 ((Z7 (thr n).bins).flatten ++ junk)) :: ((b76, cel 22 [.slice (some ⟨b74, 0, none⟩) 1 1, .slice (some ⟨b75, 0, none⟩) 1 1]) :: (b75, cel 3 [.int .i64 1]) :: (b74, cel 3 [.int .i64 0]) :: (b73, cel 22 [.slice none 0 0, .slice (some ⟨b71, 0, none⟩) 1 1, .slice (some ⟨b72, 0, none⟩) 1 1]) :: (b72, cel 3 [.int .i64 1]) :: (b71, cel 3 [.int .i64 0]) :: (b9, cel 31 [.int .i64 2, .int .i64 3]) :: (b8, cel 29 [.int .i64 1, .int .i64 3]) :: (b7, cel 27 (btl (thr n) ((thr n).sl (some ⟨ba, 0, none⟩) 3))) :: H)) idH ?_
 refine sqr 4 rfl ?_
 refine bsl (out := [_, _]) rfl Z1u zl3 rfl rfl rfl rfl rfl rfl (fun b93 => ?_)
 refine sp rfl (PE.build (out := [_, _]) Zfs Z7c rfl rfl) rfl ?_
 refine bsl (out := [_, _]) rfl Zeg Z7c rfl rfl rfl rfl rfl rfl (fun b95 => ?_)
 refine pur 1 rfl ?_
 exact Z0m ⟨⟨⟨b93, 2, [0, 0], [], 0⟩, [], b95, 1, []⟩, by simp, by simp, by simp [wos, WO.we]⟩ (fun w h => by have h2 := ((h.pull b93).pull b95).pull ba; exact h2)
 obtain ⟨y14, rfl⟩ : ∃ y, s14 = Sum.inr y := by
   cases s14 with
   | inl v => exact absurd hc3 (by simp)
   | inr y => exact ⟨y, rfl⟩
 refine Sy.heap (H' := (ba, cel 40 ((Z7 (thr n).bins).flatten ++ junk)) :: (y14.1.bo, cel 37 ((ZC (wos (y14.1.xo :: y14.1.C))).flatten ++ y14.1.jo)) :: y14.1.xo.blk :: (wob y14.1.C ++ ((b76, cel 22 [.slice (some ⟨b74, 0, none⟩) 1 1, .slice (some ⟨b75, 0, none⟩) 1 1]) :: (b75, cel 3 [.int .i64 1]) :: (b74, cel 3 [.int .i64 0]) :: (b73, cel 22 [.slice none 0 0, .slice (some ⟨b71, 0, none⟩) 1 1, .slice (some ⟨b72, 0, none⟩) 1 1]) :: (b72, cel 3 [.int .i64 1]) :: (b71, cel 3 [.int .i64 0]) :: (b9, cel 31 [.int .i64 2, .int .i64 3]) :: (b8, cel 29 [.int .i64 1, .int .i64 3]) :: (b7, cel 27 (btl (thr n) ((thr n).sl (some ⟨ba, 0, none⟩) 3))) :: H))) idH ?_
 refine Z1 ?_
 exact Z0m y14 idH
 rintro ⟨⟨⟨xb, xcap, xl, xjunk, xd⟩, C, bo, co, jo⟩, hx0, hCl, hC4⟩
 dsimp only at hx0 hCl hC4 ⊢
 obtain ⟨l0, lt, rfl⟩ : ∃ l0 lt, xl = l0 :: lt := by
   cases xl with
   | nil => exact absurd rfl hx0
   | cons a b => exact ⟨a, b, rfl⟩
 have hls : lt.length + 1 ≤ 4 := hC4 _ (show WO.we ⟨xb, xcap, l0 :: lt, xjunk, xd⟩ ∈ _ :: wos C from List.mem_cons_self)
 have hCx : ∀ z ∈ wos C, z.l.length ≤ 4 := fun z hz => hC4 z (List.mem_cons_of_mem _ hz)
 obtain ⟨ys, hys, hthr⟩ : ∃ ys : List HBin, ys.length ≤ 1 ∧ thr n = ⟨20, 1, [0, 0, 6, 8, 10, 20], ⟨20, 40, 3, 4⟩ :: ⟨30, 50, 2, 3⟩ :: ys⟩ := by
   rcases (show n = 2 ∨ n = 3 by omega) with rfl | rfl
   · exact ⟨[], by decide, rfl⟩
   · exact ⟨[⟨30, 40, 4, 4⟩], by decide, rfl⟩
 rw [hthr]
 refine Sy.heap (H' := (ba, cel 40 (.int .i64 ((⟨20, 1, 0, 6, 20, 20, 50, 3, 3, 1, 3, 2, 3, 0, 1, l0, xd⟩ : Sm17).f5) :: .int .i64 40 :: .int .i64 ((⟨20, 1, 0, 6, 20, 20, 50, 3, 3, 1, 3, 2, 3, 0, 1, l0, xd⟩ : Sm17).f7) :: .int .i64 4 :: .int .i64 30 :: .int .i64 ((⟨20, 1, 0, 6, 20, 20, 50, 3, 3, 1, 3, 2, 3, 0, 1, l0, xd⟩ : Sm17).f6) :: .int .i64 2 :: .int .i64 ((⟨20, 1, 0, 6, 20, 20, 50, 3, 3, 1, 3, 2, 3, 0, 1, l0, xd⟩ : Sm17).f8) :: ((Z7 ys).flatten ++ junk))) :: (bo, cel 37 (.slice (some ⟨xb, 0, none⟩) (lt.length + 1) xcap :: .int .i64 ((⟨20, 1, 0, 6, 20, 20, 50, 3, 3, 1, 3, 2, 3, 0, 1, l0, xd⟩ : Sm17).f16) :: ((ZC (wos C)).flatten ++ jo))) :: (xb, cel 3 (.int .i64 ((⟨20, 1, 0, 6, 20, 20, 50, 3, 3, 1, 3, 2, 3, 0, 1, l0, xd⟩ : Sm17).f15) :: (ZI lt ++ xjunk))) :: (wob C ++ ((b76, cel 22 [.slice (some ⟨b74, 0, none⟩) 1 1, .slice (some ⟨b75, 0, none⟩) 1 1]) :: (b75, cel 3 [.int .i64 ((⟨20, 1, 0, 6, 20, 20, 50, 3, 3, 1, 3, 2, 3, 0, 1, l0, xd⟩ : Sm17).f14)]) :: (b74, cel 3 [.int .i64 0]) :: (b73, cel 22 [.slice none 0 0, .slice (some ⟨b71, 0, none⟩) 1 1, .slice (some ⟨b72, 0, none⟩) 1 1]) :: (b72, cel 3 [.int .i64 1]) :: (b71, cel 3 [.int .i64 ((⟨20, 1, 0, 6, 20, 20, 50, 3, 3, 1, 3, 2, 3, 0, 1, l0, xd⟩ : Sm17).f13)]) :: (b9, cel 31 [.int .i64 ((⟨20, 1, 0, 6, 20, 20, 50, 3, 3, 1, 3, 2, 3, 0, 1, l0, xd⟩ : Sm17).f11), .int .i64 ((⟨20, 1, 0, 6, 20, 20, 50, 3, 3, 1, 3, 2, 3, 0, 1, l0, xd⟩ : Sm17).f12)]) :: (b8, cel 29 [.int .i64 ((⟨20, 1, 0, 6, 20, 20, 50, 3, 3, 1, 3, 2, 3, 0, 1, l0, xd⟩ : Sm17).f9), .int .i64 ((⟨20, 1, 0, 6, 20, 20, 50, 3, 3, 1, 3, 2, 3, 0, 1, l0, xd⟩ : Sm17).f10)]) :: (b7, cel 27 [.int .i64 ((⟨20, 1, 0, 6, 20, 20, 50, 3, 3, 1, 3, 2, 3, 0, 1, l0, xd⟩ : Sm17).f0), .int .i64 ((⟨20, 1, 0, 6, 20, 20, 50, 3, 3, 1, 3, 2, 3, 0, 1, l0, xd⟩ : Sm17).f1), .int .i64 ((⟨20, 1, 0, 6, 20, 20, 50, 3, 3, 1, 3, 2, 3, 0, 1, l0, xd⟩ : Sm17).f2), .int .i64 0, .int .i64 ((⟨20, 1, 0, 6, 20, 20, 50, 3, 3, 1, 3, 2, 3, 0, 1, l0, xd⟩ : Sm17).f3), .int .i64 8, .int .i64 10, .int .i64 ((⟨20, 1, 0, 6, 20, 20, 50, 3, 3, 1, 3, 2, 3, 0, 1, l0, xd⟩ : Sm17).f4), .slice (some ⟨ba, 0, none⟩) (ys.length + 2) 3]) :: H))) (R' := Z5 (some ⟨bv, ov, none⟩) 1 (Zm ([9223372036854775807, -9223372036854775808] ++ x.l)) :: Z5 (some ⟨b47, 0, none⟩) 1 (Z9 ls) :: Inn ls :: R) idH ?_
 refine Z0 ?_
 refine Z2Q (ι := {x : Sm17 // (-9223372036854775808 ≤ x.f9 ∧ x.f9 ≤ 9223372036854775807) ∧ (-9223372036854775808 ≤ x.f11 ∧ x.f11 ≤ 9223372036854775807) ∧ (-9223372036854775808 ≤ x.f12 ∧ x.f12 ≤ 9223372036854775807)}) (fun y => ⟨[(48, .slice (some ⟨b47, 0, none⟩) 17 17), (49, .int .i64 17), (50, .int .i64 i), (2, .int .i64 i), (57, .slice (some ⟨bv, ov, none⟩) ([9223372036854775807, -9223372036854775808] ++ x.l).length c57), (58, .int .i64 ([9223372036854775807, -9223372036854775808] ++ x.l).length), (59, .int .i64 k), (5, .int .i64 v), (6, .int .i64 n), (7, .pointer (some ⟨b7, 0, none⟩)), (8, .pointer (some ⟨b8, 0, none⟩)), (9, .pointer (some ⟨b9, 0, none⟩)), (10, .slice (some ⟨b73, 0, none⟩) 3 3), (11, .slice (some ⟨b76, 0, none⟩) 2 2), (12, .slice (some ⟨bo, 0, none⟩) (wos ((⟨xb, xcap, y.1.f15 :: lt, xjunk, y.1.f16⟩ : WO) :: C)).length co)], (ba, cel 40 (.int .i64 (y.1.f5) :: .int .i64 40 :: .int .i64 (y.1.f7) :: .int .i64 4 :: .int .i64 30 :: .int .i64 (y.1.f6) :: .int .i64 2 :: .int .i64 (y.1.f8) :: ((Z7 ys).flatten ++ junk))) :: (bo, cel 37 (.slice (some ⟨xb, 0, none⟩) (lt.length + 1) xcap :: .int .i64 (y.1.f16) :: ((ZC (wos C)).flatten ++ jo))) :: (xb, cel 3 (.int .i64 (y.1.f15) :: (ZI lt ++ xjunk))) :: (wob C ++ ((b76, cel 22 [.slice (some ⟨b74, 0, none⟩) 1 1, .slice (some ⟨b75, 0, none⟩) 1 1]) :: (b75, cel 3 [.int .i64 (y.1.f14)]) :: (b74, cel 3 [.int .i64 0]) :: (b73, cel 22 [.slice none 0 0, .slice (some ⟨b71, 0, none⟩) 1 1, .slice (some ⟨b72, 0, none⟩) 1 1]) :: (b72, cel 3 [.int .i64 1]) :: (b71, cel 3 [.int .i64 (y.1.f13)]) :: (b9, cel 31 [.int .i64 (y.1.f11), .int .i64 (y.1.f12)]) :: (b8, cel 29 [.int .i64 (y.1.f9), .int .i64 (y.1.f10)]) :: (b7, cel 27 [.int .i64 (y.1.f0), .int .i64 (y.1.f1), .int .i64 (y.1.f2), .int .i64 0, .int .i64 (y.1.f3), .int .i64 8, .int .i64 10, .int .i64 (y.1.f4), .slice (some ⟨ba, 0, none⟩) (ys.length + 2) 3]) :: H)), Z5 (some ⟨bv, ov, none⟩) 1 (Zm ([9223372036854775807, -9223372036854775808] ++ x.l)) :: Z5 (some ⟨b47, 0, none⟩) 1 (Z9 ls) :: Inn ls :: R⟩) ?_ ?_
 refine Zi [0, 0, 0, 4, 0, 16, 0, 64, 0, 256, 768, 1792, 0, 4096, 12288, 28672, 0, 65536, 196608, 458752, 983040, 0, 2097152, 6291456, 14680064, 31457280, 0, 0, 0, 0, 0, 1073741824, 3221225472, 7516192768, 0, 17179869184, 51539607552, 120259084288, 0, 274877906944, 824633720832, 1924145348608, 4123168604160, 0, 8796093022208, 26388279066624, 70368744177663, 0, 281474976710655, 562949953421311, 0, 2251799813685247, 4503599627370495] (tks 0 9 (.ld 9 (tks 10 3 (.ld 13 (tks 14 3 (.ld 17 (tks 18 4 (.ld 22 (tks 23 9 (.ld 32 (tks 33 3 (.ld 36 (tks 37 4 (.ld 41 (tks 42 4 (.tk 47 (.tk 50 (.big 46 (.tk 48 (.ld 49 (.tk 51 (.big 52 .done)))))))))))))))))))))) ZH (by kernel_rfl) ?_
 refine tk rfl (PE.fA Z47 rfl) rfl (tk rfl (PE.fA Z1S rfl) rfl (tk rfl (PE.fA Z20 rfl) rfl (tk rfl (PE.indexArr Z5a rfl rfl (by decide) (by decide)) rfl (tk rfl (PE.fA Z20 rfl) rfl (tk rfl (PE.indexArr Z5a rfl rfl (by decide) (by decide)) rfl (tk rfl (PE.fA Z20 rfl) rfl (tk rfl (PE.indexArr Z5a rfl rfl (by decide) (by decide)) rfl (tk rfl (PE.fA ZE rfl) rfl (ld rfl rfl (lh Z0C rfl rfl) rfl (tk rfl (PE.indexAddr Z3s rfl rfl (by omega) (by omega)) rfl (tk rfl (PE.fA Z2O rfl) rfl (tk rfl (PE.fA ZE rfl) rfl (ld rfl rfl (lh Z0C rfl rfl) rfl (tk rfl (PE.indexAddr Z3s rfl rfl (by omega) (by omega)) rfl (tk rfl (PE.fA Z5D rfl) rfl ?_)))))))))))))))
 refine tk rfl (PE.fA ZE rfl) rfl (ld rfl rfl (lh Z0C rfl rfl) rfl (tk rfl (PE.indexAddr Z3s rfl rfl (by omega) (by omega)) rfl (tk rfl (PE.fA Z0I rfl) rfl (tk rfl (PE.fA Z0k rfl) rfl (tk rfl (PE.fA ZE rfl) rfl (ld rfl rfl (lh Z0C rfl rfl) rfl (tk rfl (PE.indexAddr Z3s rfl rfl (by omega) (by omega)) rfl (tk rfl (PE.fA Z0I rfl) rfl (tk rfl (PE.fA Z0e rfl) rfl (tk rfl (PE.indexArr Zc7 rfl rfl (by decide) (by decide)) rfl (tk rfl (PE.indexArr Zc7 rfl rfl (by decide) (by decide)) rfl (tk rfl (PE.fA Z0k rfl) rfl (tk rfl (PE.fA Z0e rfl) rfl (Zp 1 rfl (tk rfl (PE.indexAddr Z4l rfl rfl (by decide) (by decide)) rfl ?_)))))))))))))))
 refine ld rfl rfl (lh Z2g rfl rfl) rfl (tk rfl (PE.indexAddr Z28 rfl rfl (by decide) (by decide)) rfl (Zp 1 rfl (tk rfl (PE.indexAddr Z4l rfl rfl (by decide) (by decide)) rfl (ld rfl rfl (lh Z2g rfl rfl) rfl (tk rfl (PE.indexAddr Z28 rfl rfl (by decide) (by decide)) rfl (Zp 1 rfl (tk rfl (PE.indexAddr Z68 rfl rfl (by decide) (by show (0 : Int) < (((wos C).length + 1 : Nat) : Int); omega)) rfl (tk rfl (PE.fA Z1R rfl) rfl (ld rfl rfl (lh Z2g rfl rfl) rfl (tk rfl (PE.indexAddr Z28 rfl rfl (by omega) (by omega)) rfl (Zp 1 rfl (tk rfl (PE.indexAddr Z68 rfl rfl (by decide) (by show (0 : Int) < (((wos C).length + 1 : Nat) : Int); omega)) rfl (tk rfl (PE.fA Z2j rfl) rfl (Zp 2 rfl ?_))))))))))))))
 refine bsl (vs := [(0, .pointer (some ⟨b7, 0, none⟩)), (1, .pointer (some ⟨b7, 1, none⟩)), (2, .pointer (some ⟨b7, 2, none⟩)), (3, .pointer (some ⟨b7, 4, none⟩)), (4, .pointer (some ⟨b7, 7, none⟩)), (5, .pointer (some ⟨ba, 0, none⟩)), (6, .pointer (some ⟨ba, 5, none⟩)), (7, .pointer (some ⟨ba, 2, none⟩)), (8, .pointer (some ⟨ba, 7, none⟩)), (9, .pointer (some ⟨b8, 0, none⟩)), (10, .pointer (some ⟨b8, 1, none⟩)), (11, .pointer (some ⟨b9, 0, none⟩)), (12, .pointer (some ⟨b9, 1, none⟩)), (13, .pointer (some ⟨b71, 0, none⟩)), (14, .pointer (some ⟨b75, 0, none⟩)), (15, .pointer (some ⟨xb, 0, none⟩)), (16, .pointer (some ⟨bo, 1, none⟩))]) (out := [.pointer (some ⟨b7, 0, none⟩), .pointer (some ⟨b7, 1, none⟩), .pointer (some ⟨b7, 2, none⟩), .pointer (some ⟨b7, 4, none⟩), .pointer (some ⟨b7, 7, none⟩), .pointer (some ⟨ba, 0, none⟩), .pointer (some ⟨ba, 5, none⟩), .pointer (some ⟨ba, 2, none⟩), .pointer (some ⟨ba, 7, none⟩), .pointer (some ⟨b8, 0, none⟩), .pointer (some ⟨b8, 1, none⟩), .pointer (some ⟨b9, 0, none⟩), .pointer (some ⟨b9, 1, none⟩), .pointer (some ⟨b71, 0, none⟩), .pointer (some ⟨b75, 0, none⟩), .pointer (some ⟨xb, 0, none⟩), .pointer (some ⟨bo, 1, none⟩)]) rfl ZhT ZhS rfl rfl rfl rfl (by kernel_rfl) rfl (fun b142 => ?_)
 refine bgT ?_
 have hi17 : i = 0 ∨ i = 1 ∨ i = 2 ∨ i = 3 ∨ i = 4 ∨ i = 5 ∨ i = 6 ∨ i = 7 ∨ i = 8 ∨ i = 9 ∨ i = 10 ∨ i = 11 ∨ i = 12 ∨ i = 13 ∨ i = 14 ∨ i = 15 ∨ i = 16 := by omega
 rcases hi17 with rfl | rfl | rfl | rfl | rfl | rfl | rfl | rfl | rfl | rfl | rfl | rfl | rfl | rfl | rfl | rfl | rfl <;> refine tk rfl (PE.indexAddr ZhY rfl rfl (by omega) (by omega)) rfl ?_ <;> refine ld rfl rfl (lh Zi8 rfl rfl) rfl ?_ <;> refine tk rfl (PE.nilCheck rfl) rfl ?_ <;> refine sto rfl rfl rfl cn3 rfl rfl rfl rfl ?_ <;> refine bg (fun w hs => ⟨trivial, trivial⟩) ?_
 exact Za ⟨⟨v, 1, 0, 6, 20, 20, 50, 3, 3, 1, 3, 2, 3, 0, 1, l0, xd⟩, (by dsimp only; decide), (by dsimp only; decide), (by dsimp only; decide)⟩ (fun w h => St.tail h)
 exact Za ⟨⟨20, v, 0, 6, 20, 20, 50, 3, 3, 1, 3, 2, 3, 0, 1, l0, xd⟩, (by dsimp only; decide), (by dsimp only; decide), (by dsimp only; decide)⟩ (fun w h => St.tail h)
 exact Za ⟨⟨20, 1, v, 6, 20, 20, 50, 3, 3, 1, 3, 2, 3, 0, 1, l0, xd⟩, (by dsimp only; decide), (by dsimp only; decide), (by dsimp only; decide)⟩ (fun w h => St.tail h)
 exact Za ⟨⟨20, 1, 0, v, 20, 20, 50, 3, 3, 1, 3, 2, 3, 0, 1, l0, xd⟩, (by dsimp only; decide), (by dsimp only; decide), (by dsimp only; decide)⟩ (fun w h => St.tail h)
 exact Za ⟨⟨20, 1, 0, 6, v, 20, 50, 3, 3, 1, 3, 2, 3, 0, 1, l0, xd⟩, (by dsimp only; decide), (by dsimp only; decide), (by dsimp only; decide)⟩ (fun w h => St.tail h)
 exact Za ⟨⟨20, 1, 0, 6, 20, v, 50, 3, 3, 1, 3, 2, 3, 0, 1, l0, xd⟩, (by dsimp only; decide), (by dsimp only; decide), (by dsimp only; decide)⟩ (fun w h => St.tail h)
 exact Za ⟨⟨20, 1, 0, 6, 20, 20, v, 3, 3, 1, 3, 2, 3, 0, 1, l0, xd⟩, (by dsimp only; decide), (by dsimp only; decide), (by dsimp only; decide)⟩ (fun w h => St.tail h)
 exact Za ⟨⟨20, 1, 0, 6, 20, 20, 50, v, 3, 1, 3, 2, 3, 0, 1, l0, xd⟩, (by dsimp only; decide), (by dsimp only; decide), (by dsimp only; decide)⟩ (fun w h => St.tail h)
 exact Za ⟨⟨20, 1, 0, 6, 20, 20, 50, 3, v, 1, 3, 2, 3, 0, 1, l0, xd⟩, (by dsimp only; decide), (by dsimp only; decide), (by dsimp only; decide)⟩ (fun w h => St.tail h)
 exact Za ⟨⟨20, 1, 0, 6, 20, 20, 50, 3, 3, v, 3, 2, 3, 0, 1, l0, xd⟩, hv2, (by dsimp only; decide), (by dsimp only; decide)⟩ (fun w h => St.tail h)
 exact Za ⟨⟨20, 1, 0, 6, 20, 20, 50, 3, 3, 1, v, 2, 3, 0, 1, l0, xd⟩, (by dsimp only; decide), (by dsimp only; decide), (by dsimp only; decide)⟩ (fun w h => St.tail h)
 exact Za ⟨⟨20, 1, 0, 6, 20, 20, 50, 3, 3, 1, 3, v, 3, 0, 1, l0, xd⟩, (by dsimp only; decide), hv2, (by dsimp only; decide)⟩ (fun w h => St.tail h)
 exact Za ⟨⟨20, 1, 0, 6, 20, 20, 50, 3, 3, 1, 3, 2, v, 0, 1, l0, xd⟩, (by dsimp only; decide), (by dsimp only; decide), hv2⟩ (fun w h => St.tail h)
 exact Za ⟨⟨20, 1, 0, 6, 20, 20, 50, 3, 3, 1, 3, 2, 3, v, 1, l0, xd⟩, (by dsimp only; decide), (by dsimp only; decide), (by dsimp only; decide)⟩ (fun w h => St.tail h)
 exact Za ⟨⟨20, 1, 0, 6, 20, 20, 50, 3, 3, 1, 3, 2, 3, 0, v, l0, xd⟩, (by dsimp only; decide), (by dsimp only; decide), (by dsimp only; decide)⟩ (fun w h => St.tail h)
 exact Za ⟨⟨20, 1, 0, 6, 20, 20, 50, 3, 3, 1, 3, 2, 3, 0, 1, v, xd⟩, (by dsimp only; decide), (by dsimp only; decide), (by dsimp only; decide)⟩ (fun w h => St.tail h)
 exact Za ⟨⟨20, 1, 0, 6, 20, 20, 50, 3, 3, 1, 3, 2, 3, 0, 1, l0, v⟩, (by dsimp only; decide), (by dsimp only; decide), (by dsimp only; decide)⟩ (fun w h => St.tail h)
 rintro ⟨sx, h9, h11, h12⟩
 dsimp only at h9 h11 h12 ⊢
 refine Sy.heap (fun w h => St.rows (sz := 4) (rows := Z7 (⟨sx.f0, sx.f1, [sx.f2, 0, sx.f3, 8, 10, sx.f4], ⟨sx.f5, 40, sx.f7, 4⟩ :: ⟨30, sx.f6, 2, sx.f8⟩ :: ys⟩ : Barn).bins) (rest := junk) (h.pull ba) (Z38 _)) ?_
 refine Sy.heap (fun w h => St.inn0 h) ?_
 refine Sy.heap (fun w h => St.innCons (a := some ⟨b72, 0, none⟩) (c := 1) (l0 := [1]) (l := []) (St.intRows (l := [1]) (h.pull b72))) ?_
 refine Sy.heap (fun w h => St.innCons (a := some ⟨b71, 0, none⟩) (c := 1) (l0 := [sx.f13]) (l := [⟨some ⟨b72, 0, none⟩, 1, [1]⟩]) (St.intRows (l := [sx.f13]) (h.pull b71))) ?_
 refine Sy.heap (fun w h => St.innN (l := [⟨some ⟨b71, 0, none⟩, 1, [sx.f13]⟩, ⟨some ⟨b72, 0, none⟩, 1, [1]⟩]) h) ?_
 refine Sy.heap (fun w h => St.rows (sz := 1) (rows := Z9 ([⟨none, 0, []⟩, ⟨some ⟨b71, 0, none⟩, 1, [sx.f13]⟩, ⟨some ⟨b72, 0, none⟩, 1, [1]⟩] : List PL)) (rest := []) (h.pull b73) (Z0Z _)) ?_
 refine Sy.heap (fun w h => St.inn0 h) ?_
 refine Sy.heap (fun w h => St.innCons (a := some ⟨b75, 0, none⟩) (c := 1) (l0 := [sx.f14]) (l := []) (St.intRows (l := [sx.f14]) (h.pull b75))) ?_
 refine Sy.heap (fun w h => St.innCons (a := some ⟨b74, 0, none⟩) (c := 1) (l0 := [0]) (l := [⟨some ⟨b75, 0, none⟩, 1, [sx.f14]⟩]) (St.intRows (l := [0]) (h.pull b74))) ?_
 refine Sy.heap (fun w h => St.rows (sz := 1) (rows := Z9 ([⟨some ⟨b74, 0, none⟩, 1, [0]⟩, ⟨some ⟨b75, 0, none⟩, 1, [sx.f14]⟩] : List PL)) (rest := []) (h.pull b76) (Z0Z _)) ?_
 refine Sy.heap (fun w h => St.rows (sz := 2) (rows := ZC (wos (⟨xb, xcap, sx.f15 :: lt, xjunk, sx.f16⟩ :: C))) (rest := jo) (h.pull bo) (Zb8 _)) ?_
 refine Sy.heap (fun w h => St.wobs (l := ⟨xb, xcap, sx.f15 :: lt, xjunk, sx.f16⟩ :: C) h) ?_
 refine sqt 8 rfl (spL rfl rfl (lhA (btl (⟨sx.f0, sx.f1, [sx.f2, 0, sx.f3, 8, 10, sx.f4], ⟨sx.f5, 40, sx.f7, 4⟩ :: ⟨30, sx.f6, 2, sx.f8⟩ :: ys⟩ : Barn) (Barn.sl (⟨sx.f0, sx.f1, [sx.f2, 0, sx.f3, 8, 10, sx.f4], ⟨sx.f5, 40, sx.f7, 4⟩ :: ⟨30, sx.f6, 2, sx.f8⟩ :: ys⟩ : Barn) (some ⟨ba, 0, none⟩) 3)) ZD rfl rfl rfl) rfl (spL rfl rfl (lhA [.int .i64 sx.f9, .int .i64 sx.f10] ZhM rfl rfl rfl) rfl (spL rfl rfl (lhA [.int .i64 sx.f11, .int .i64 sx.f12] Z7O rfl rfl rfl) rfl (pur 3 rfl ?_))))
 refine cl rfl Zgx rfl rfl (Z4m (⟨sx.f0, sx.f1, [sx.f2, 0, sx.f3, 8, 10, sx.f4], ⟨sx.f5, 40, sx.f7, 4⟩ :: ⟨30, sx.f6, 2, sx.f8⟩ :: ys⟩ : Barn) (some ⟨ba, 0, none⟩) 3 sx.f9 sx.f10 sx.f11 sx.f12 h9 h11 h12 ([⟨none, 0, []⟩, ⟨some ⟨b71, 0, none⟩, 1, [sx.f13]⟩, ⟨some ⟨b72, 0, none⟩, 1, [1]⟩] : List PL) (some ⟨b73, 0, none⟩) 3 (nl rfl) (by simp) ([⟨some ⟨b74, 0, none⟩, 1, [0]⟩, ⟨some ⟨b75, 0, none⟩, 1, [sx.f14]⟩] : List PL) (some ⟨b76, 0, none⟩) 2 (nl rfl) (by simp) (wos (⟨xb, xcap, sx.f15 :: lt, xjunk, sx.f16⟩ :: C)) (some ⟨bo, 0, none⟩) co (by rw [Z2u]; simp only [List.length_cons]; omega) (fun z hz => by rcases List.mem_cons.1 (show z ∈ _ :: wos C from hz) with rfl | hz; exact Nat.le_trans hls (by decide); exact Nat.le_trans (hCx z hz) (by decide)) (by show ys.length + 1 + 1 ≤ _; omega) rfl _ _) ?_
 rintro _ _ _ ⟨rfl, rfl, rfl⟩
 refine pur 1 rfl ?_
 refine Z2 rfl ?_ ?_ <;> intro hc4
 exact absurd hc4 (by simp)
 refine Z1 (sqr 3 rfl (pur 1 rfl (sp rfl (PE.add rfl rfl (by omega)) rfl (pur 1 rfl ?_))))
 exact Zn ⟨n + 1, by omega, by omega⟩ (fun w h => St.sub (((h.del b9).del b8).del b7))
 refine Zb (Zf (Zf (ZB (sqr 2 rfl (sp rfl (PE.add rfl rfl (by omega)) rfl (pur 1 rfl ?_))))))
 exact Zn ⟨k + 1, by omega⟩ idH
 refine Zb (Zf (Zf (ZB (sqr 2 rfl (sp rfl (PE.add rfl rfl (by omega)) rfl (pur 1 rfl ?_))))))
 exact Zn ⟨i + 1, by omega⟩ (fun w h => h.facts SubF.sub)
 refine Zb (Zf (Zf (ZB (Z0 (sqt 1 rfl (pur 1 rfl (Z3 ?_)))))))
 refine Zj (ι := {n : Nat // n ≤ 60}) (fun y => ⟨[(158, .int .i64 y.1)], H, R⟩) (fun y => 60 - y.1) ⟨0, Nat.zero_le _⟩ ?_ (fun y => ?_)
 exact Zr (fun w h => (h.ftail).ftail)
 obtain ⟨n, hn⟩ := y
 dsimp only at hn ⊢
 refine sqt 1 rfl (pur 1 rfl (Z0 ?_))
 refine Z2 rfl ?_ ?_ <;> intro hc5 <;> try simp only [cS] at hc5
 refine Z1 (Z0 (Z3 (sqt 2 rfl (pur 2 rfl (sqt 9 rfl (pur 1 rfl (sp rfl (PE.rem rfl rfl (by omega)) rfl (sp rfl (PE.mul rfl rfl (by omega)) rfl (pur 1 rfl (sp rfl (PE.rem rfl rfl (by omega)) rfl (sp rfl (PE.buildArr (out := [_, _, _, _, _, _]) Z5a Zhq rfl rfl) rfl (sp rfl (PE.build (out := [_, _, _, _, _, _, _, _, _]) Z6p Z0w rfl rfl) rfl (alc rfl Z0w rfl (fun b15 => ?_))))))))))))))
 refine Z1b (l' := btl (smB n []) (.slice none 0 0)) rfl rfl rfl Z03 rfl rfl rfl rfl (nl rfl) ?_
 refine Z0 (sqt 4 rfl (pur 1 rfl (sp rfl (PE.rem rfl rfl (by omega)) rfl (sp rfl (PE.add rfl rfl (by omega)) rfl (pur 1 rfl (Z3 ?_))))))
 refine Zj (ι := (x : {i : Nat // i ≤ 1 + n % 3}) × OSl 40 4 (Z7 (smL n x.1))) (fun x => ⟨[(14, .int .i64 n), (15, .pointer (some ⟨b15, 0, none⟩)), (158, .int .i64 n), (170, .int .i64 (1 + (n : Int) % 3)), (171, .int .i64 x.1.1)], x.2.G ++ ((b15, cel 27 (btl (smB n []) x.2.fs)) :: H), R⟩) (fun x => 4 - x.1.1) ⟨⟨0, Nat.zero_le _⟩, OSl.nil _ _⟩ ?_ (fun x => ?_)
 exact Zr idH
 obtain ⟨⟨i, hi⟩, o⟩ := x
 dsimp only at hi o ⊢
 have hil := Zaq n i
 refine sqt 1 rfl (pur 1 rfl (Z0 ?_))
 refine Z2 rfl ?_ ?_ <;> intro hc6 <;> try simp only [cS] at hc6
 have hmb := Zg6 n i (by omega) (by omega)
 refine Z1 (Z0 (Z3 (sqt 2 rfl (pur 2 rfl (sqt 5 rfl (pur 2 rfl (sp rfl (PE.add rfl rfl (by omega)) rfl (sp rfl (PE.rem rfl rfl (by omega)) rfl (pur 1 rfl (sqr 25 rfl (sp rfl (PE.fA ZE rfl) rfl (spL rfl rfl (lh Z0C rfl rfl) rfl (pur 2 rfl (sp rfl (PE.add rfl rfl (by omega)) rfl (sp rfl (PE.mul rfl rfl (by omega)) rfl ?_)))))))))))))))
 refine sp rfl (PE.rem rfl rfl (by omega)) rfl (pur 2 rfl (sp rfl (PE.add rfl rfl (by omega)) rfl (sp rfl (PE.mul rfl rfl (by omega)) rfl (sp rfl (PE.rem rfl rfl (by omega)) rfl (sp rfl (PE.add rfl rfl (by omega)) rfl (pur 3 rfl (sp rfl (PE.quo rfl rfl (by omega)) rfl (sp rfl (PE.rem rfl rfl (by omega)) rfl (sp rfl (PE.add rfl rfl (by omega)) rfl (sp rfl (PE.build (out := [_, _]) Z4r Z2C rfl rfl) rfl (sp rfl (PE.build (out := [_, _, _, _]) Zdk Z4M rfl rfl) rfl ?_)))))))))))
 refine bsl (out := [_, _, _, _]) rfl Z9Q Z4M rfl rfl rfl rfl rfl rfl (fun b199 => ?_)
 refine apO (o) rfl ZfV rfl rfl (Z0W (row := Z34 (smX n i)) rfl) rfl rfl ((by rw [show (Z7 (smL n i)).length = i from by simp [Z7, Zaq]]; simp only [List.length_singleton]; omega)) rfl (fun o200 => ?_)
 refine sp rfl (PE.fA ZE rfl) rfl ?_
 refine Z1b (l' := btl (smB n []) o200.fs) rfl rfl rfl ZgA rfl (by rw [o200.cells.1]; first | done | rfl) (by rw [o200.cells.1]; simp [o200.cells.2]) (by rw [o200.cells.1]; first | done | rfl) (by rw [o200.cells.1]; first | done | exact Nat.le_refl _) ?_
 refine sqr 2 rfl (sp rfl (PE.add rfl rfl (by omega)) rfl (pur 1 rfl ?_))
 exact Zn ⟨⟨i + 1, by omega⟩, o200.cast (by rw [ZbN]; simp [Z7])⟩ (fun w h => h.del b199)
 obtain ⟨ab, cb, he, hf⟩ := o.freeze
 rw [he]
 refine Sy.heap (fun w h => hf h) ?_
 clear he hf
 rw [show (Z7 (smL n i)).length = (smL n i).length from List.length_map _]
 obtain ⟨B, hB⟩ : ∃ B, smB n (smL n i) = B := ⟨_, rfl⟩
 have hBl : B.bins.length ≤ 3 := by rw [← hB]; show (smL n i).length ≤ 3; omega
 have hl : B.bins.length ≤ 9223372036854775807 := by omega
 have hr : B.rise.length = 6 := by rw [← hB]; rfl
 refine Sy.heap (H' := (b15, cel 27 (btl (smB n (smL n i)) ((smB n (smL n i)).sl ab cb))) :: H) (R' := Z5 ab 4 (Z7 (smB n (smL n i)).bins) :: R) idH ?_
 rw [hB]
 refine Zb (Zf (Zf (ZB (sqt 9 rfl (spL rfl rfl (lhA (btl B (B.sl ab cb)) ZD rfl rfl rfl) rfl (pur 1 rfl (sp rfl (PE.rem rfl rfl (by omega)) rfl ?_)))))))
 rw [show (n : Int) % 5 = ((n % 5 : Nat) : Int) by omega]
 refine cl rfl ZhD rfl rfl (Zev B ab cb hl hr (n % 5) (by omega) _ _) ?_
 rintro _ _ _ ⟨pl, o, er, hpl, hpi, rfl, rfl, rfl⟩
 obtain ⟨ap0, cp0, he, hf⟩ := o.freeze
 rw [Zt] at he
 rw [he]
 refine pur 5 rfl (Z0 (Z0 ?_))
 refine Z2Q (ι := {c : Bool // c = true → 0 < pl.length}) (fun y => ⟨[(14, .int .i64 n), (15, .pointer (some ⟨b15, 0, none⟩)), (158, .int .i64 n), (18, .slice ap0 pl.length cp0), (217, .bool y.1)], o.G ++ ((b15, cel 27 (btl B (B.sl ab cb))) :: H), Inn pl :: Z5 ab 4 (Z7 B.bins) :: R⟩) ?_ ?_
 refine sqr 8 rfl (pur 1 rfl (sp rfl (PE.rem rfl rfl (by omega)) rfl (pur 2 rfl ?_)))
 refine Zh 213 rfl ?_ ?_ <;> intro g213
 try simp only [cS] at g213
 let c7 : Bool := decide ((0 : Int) < (pl.length : Int))
 have k7 : c7 = true → 0 < pl.length := fun h => by have := of_decide_eq_true h; omega
 refine pur 1 rfl ?_
 refine spG rfl rfl rfl rfl (PE.lenSl Z0E rfl) rfl ?_
 refine pur 2 rfl ?_
 exact Za ⟨c7, k7⟩ idH
 try simp only [cS] at g213
 let c7 : Bool := false
 have k7 : c7 = true → 0 < pl.length := fun h => Bool.noConfusion h
 refine pur 4 rfl ?_
 exact Za ⟨c7, k7⟩ idH
 rintro ⟨c7, k7⟩
 dsimp only
 refine Z15 (ι := {y : List PL × Option Addr × Nat // (y.1.length ≤ 14641 ∧ ∀ x ∈ y.1, x.l.length ≤ 4)}) (fun y => ⟨[(14, .int .i64 n), (15, .pointer (some ⟨b15, 0, none⟩)), (158, .int .i64 n), (18, .slice y.1.2.1 y.1.1.length y.1.2.2)], (b15, cel 27 (btl B (B.sl ab cb))) :: H, Z5 y.1.2.1 1 (Z9 y.1.1) :: Inn y.1.1 :: Z5 ab 4 (Z7 B.bins) :: R⟩) ?_ ?_
 refine Z2 rfl ?_ ?_ <;> intro hc7 <;> try simp only [cS] at hc7
 have hpp := k7 hc7
 obtain ⟨A, z, rfl⟩ : ∃ A z, pl = A ++ [z] := ⟨pl.dropLast, pl.getLast (by intro h; rw [h] at hpp; simp at hpp), (List.dropLast_concat_getLast _).symm⟩
 obtain ⟨bo, co, jo, hfs, hoG, hoj, hoc, hom⟩ := o.is.resolve_left (fun h => by have := congrArg List.length h.1; rw [Zt] at this; simp at this)
 rw [hfs] at he
 simp only [Value.slice.injEq] at he
 obtain ⟨rfl, _, rfl⟩ := he
 rw [hoG]
 refine Sy.heap (H' := (bo, cel 22 ((Z9 (A ++ [z])).flatten ++ jo)) :: (b15, cel 27 (btl B (B.sl ab cb))) :: H) idH ?_
 have hAl : (A ++ [z]).length = A.length + 1 := by simp
 rw [hAl]
 refine sqr 9 rfl (pur 2 rfl (sp rfl (PE.lenSl Z0E rfl) rfl (sp rfl (PE.sub rfl rfl (by omega)) rfl (pur 1 rfl (sp rfl (PE.rem rfl rfl (by omega)) rfl ?_)))))
 refine bsl (out := [_, _]) rfl Z1u zl3 rfl rfl rfl rfl rfl rfl (fun b224 => ?_)
 rw [show ((A.length + 1 : Nat) : Int) - 1 = (A.length : Int) by omega]
 refine sp rfl (PE.indexAddr Z4l rfl rfl (by omega) (by omega)) rfl ?_
 refine Z1b (l' := (Z9 (A ++ [⟨some ⟨b224, 0, none⟩, 2, [(n : Int) % 2, 1]⟩])).flatten ++ jo) rfl rfl rfl Zgu rfl rfl rfl (Za1 A z ⟨some ⟨b224, 0, none⟩, 2, [(n : Int) % 2, 1]⟩ jo) (by rw [List.length_append, Z0i (Z0Z _), Zt, hAl]; show 0 + ((A.length : Nat) : Int).toNat * 1 + 1 ≤ _; omega) ?_
 refine Sy.heap (fun w h => St.rows (sz := 1) (rows := Z9 (A ++ [⟨some ⟨b224, 0, none⟩, 2, [(n : Int) % 2, 1]⟩])) (rest := jo) (h.pull bo) (Z0Z _)) ?_
 refine Sy.heap (fun w h => St.innPart (l := A ++ [z]) h A (fun x hx => by simp [hx])) ?_
 refine Sy.heap (fun w h => St.innSnoc (a := some ⟨b224, 0, none⟩) (c := 2) (l0 := [(n : Int) % 2, 1]) (l := A) (St.intRows (l := [(n : Int) % 2, 1]) (h.pull b224))) ?_
 have hZl : A.length + 1 = (A ++ [(⟨some ⟨b224, 0, none⟩, 2, [(n : Int) % 2, 1]⟩ : PL)]).length := by simp
 rw [hZl]
 exact Z0m ⟨(A ++ [⟨some ⟨b224, 0, none⟩, 2, [(n : Int) % 2, 1]⟩], some ⟨bo, 0, none⟩, co), by dsimp only; omega, fun x hx => (List.mem_append.1 hx).elim (fun h1 => hpi x (by simp [h1])) (fun h1 => by rw [List.mem_singleton.1 h1]; exact Nat.le_of_ble_eq_true rfl)⟩ (fun w h => St.sub h)
 refine Sy.heap (fun w h => hf h) ?_
 refine Z1 ?_
 exact Z0m ⟨(pl, ap0, cp0), by dsimp only; omega, hpi⟩ idH
 clear he hf
 clear o
 clear hpl hpi k7
 clear pl
 rintro ⟨⟨pl, ap, cp⟩, hpl, hpi⟩
 dsimp only at hpl hpi ⊢
 refine sqt 9 rfl (spL rfl rfl (lhA (btl B (B.sl ab cb)) ZD rfl rfl rfl) rfl ?_)
 refine cl rfl ZhI rfl rfl (Zct B ab cb hl hr _ _) ?_
 rintro _ _ _ ⟨sl, ql, as_, aq, cs, cq, er2, ⟨hsl, hql⟩, hsi, hqi, hqc, rfl, rfl, rfl⟩
 refine pur 7 rfl (Z0 (Z0 ?_))
 refine Z2Q (ι := {c : Bool // c = true → 1 < ql.length}) (fun y => ⟨[(14, .int .i64 n), (15, .pointer (some ⟨b15, 0, none⟩)), (158, .int .i64 n), (18, .slice ap pl.length cp), (20, .slice as_ sl.length cs), (21, .slice aq ql.length cq), (239, .bool y.1)], (b15, cel 27 (btl B (B.sl ab cb))) :: H, Z5 aq 1 (Z9 ql) :: Inn ql :: Z5 as_ 1 (Z9 sl) :: Inn sl :: Z5 ap 1 (Z9 pl) :: Inn pl :: Z5 ab 4 (Z7 B.bins) :: R⟩) ?_ ?_
 refine sqr 8 rfl ?_
 refine Sy.heap (R' := Z5 aq 1 (Z9 ql) :: Inn ql :: Z5 as_ 1 (Z9 sl) :: Inn sl :: Z5 ap 1 (Z9 pl) :: Inn pl :: Z5 ab 4 (Z7 B.bins) :: R) (fun w h => h.facts SubF.sub) ?_
 refine pur 1 rfl (sp rfl (PE.rem rfl rfl (by omega)) rfl (pur 2 rfl ?_))
 refine Zh 235 rfl ?_ ?_ <;> intro g235
 try simp only [cS] at g235
 let c8 : Bool := decide ((1 : Int) < (ql.length : Int))
 have k8 : c8 = true → 1 < ql.length := fun h => by have := of_decide_eq_true h; omega
 refine pur 1 rfl ?_
 refine spG rfl rfl rfl rfl (PE.lenSl Z0E rfl) rfl ?_
 refine pur 2 rfl ?_
 exact Za ⟨c8, k8⟩ idH
 try simp only [cS] at g235
 let c8 : Bool := false
 have k8 : c8 = true → 1 < ql.length := fun h => Bool.noConfusion h
 refine pur 4 rfl ?_
 exact Za ⟨c8, k8⟩ idH
 rintro ⟨c8, k8⟩
 dsimp only
 refine Z15 (ι := {y : List PL × Option Addr × Nat // (y.1.length ≤ 14641 ∧ ∀ x ∈ y.1, x.l.length ≤ 4)}) (fun y => ⟨[(14, .int .i64 n), (15, .pointer (some ⟨b15, 0, none⟩)), (158, .int .i64 n), (18, .slice ap pl.length cp), (20, .slice as_ sl.length cs), (21, .slice y.1.2.1 y.1.1.length y.1.2.2)], (b15, cel 27 (btl B (B.sl ab cb))) :: H, Z5 y.1.2.1 1 (Z9 y.1.1) :: Inn y.1.1 :: Z5 as_ 1 (Z9 sl) :: Inn sl :: Z5 ap 1 (Z9 pl) :: Inn pl :: Z5 ab 4 (Z7 B.bins) :: R⟩) ?_ ?_
 refine Z2 rfl ?_ ?_ <;> intro hc8 <;> try simp only [cS] at hc8
 have hq1 := k8 hc8
 refine Zl (a := aq) (sz := 1) (rows := Z9 ql) (ne0 (by rw [Zt]; omega)) (fun bq oq he => ?_)
 subst he
 refine sqr 3 rfl (pur 1 rfl (sp rfl (PE.slLoA (l := 1) Z6I rfl rfl (by omega)) rfl ?_))
 rw [if_neg (by omega), Option.map_some, Z0p, show ql.length - 1 = (ql.drop 1).length by rw [List.length_drop]]
 refine pur 1 rfl ?_
 refine Sy.heap (fun w h => (h.rowsDrop (b := bq) (off := oq) (sz := 1) (rows := Z9 ql) 1).innPart (l := ql) (ql.drop 1) (fun x hx => List.mem_of_mem_drop hx)) ?_
 exact Z0m ⟨(ql.drop 1, some ⟨bq, oq + 1 * 1, none⟩, cq - 1), by dsimp only; rw [List.length_drop]; omega, fun x hx => hqi x (List.mem_of_mem_drop hx)⟩ (fun w h => h.facts (fun g hg => by simp only [List.mem_cons] at hg ⊢; rcases hg with hg | hg | hg | hg | hg | hg | hg | hg <;> simp [hg, Z9, List.map_drop]))
 refine Z1 ?_
 exact Z0m ⟨(ql, aq, cq), hql, hqi⟩ idH
 clear k8 hqc hql hqi
 clear aq cq ql
 rintro ⟨⟨ql, aq, cq⟩, hql, hqi⟩
 dsimp only at hql hqi ⊢
 refine sqt 7 rfl (spL rfl rfl (lhA (btl B (B.sl ab cb)) ZD rfl rfl rfl) rfl ?_)
 refine cl rfl ZgV rfl rfl (ZdL B ab cb hl hr _ _) ?_
 rintro _ _ _ ⟨W, aw, cw, er3, hWl, hWx, hWc, rfl, rfl, rfl⟩
 refine pur 5 rfl (Z0 (Z0 ?_))
 refine Z2Q (ι := {c : Bool // c = true → 1 < W.length}) (fun y => ⟨[(14, .int .i64 n), (15, .pointer (some ⟨b15, 0, none⟩)), (158, .int .i64 n), (18, .slice ap pl.length cp), (20, .slice as_ sl.length cs), (21, .slice aq ql.length cq), (23, .slice aw W.length cw), (254, .bool y.1)], (b15, cel 27 (btl B (B.sl ab cb))) :: H, Z5 aw 2 (ZC W) :: InW W :: Z5 aq 1 (Z9 ql) :: Inn ql :: Z5 as_ 1 (Z9 sl) :: Inn sl :: Z5 ap 1 (Z9 pl) :: Inn pl :: Z5 ab 4 (Z7 B.bins) :: R⟩) ?_ ?_
 refine sqr 8 rfl (pur 1 rfl (sp rfl (PE.lenSl Z2f rfl) rfl (pur 2 rfl ?_)))
 refine Zh 250 rfl ?_ ?_ <;> intro g250
 try simp only [cS] at g250
 let c9 : Bool := decide ((n : Int) % 3 = 0)
 have k9 : c9 = true → 1 < W.length := fun _ => by omega
 refine pur 1 rfl ?_
 refine spG rfl rfl rfl rfl (PE.rem rfl rfl (by omega)) rfl ?_
 refine pur 2 rfl ?_
 exact Za ⟨c9, k9⟩ idH
 try simp only [cS] at g250
 let c9 : Bool := false
 have k9 : c9 = true → 1 < W.length := fun h => Bool.noConfusion h
 refine pur 4 rfl ?_
 exact Za ⟨c9, k9⟩ idH
 rintro ⟨c9, k9⟩
 dsimp only
 refine Z15 (ι := {y : List WE × Option Addr × Nat // (y.1.length ≤ 14641 ∧ ∀ x ∈ y.1, x.l.length ≤ 4)}) (fun y => ⟨[(14, .int .i64 n), (15, .pointer (some ⟨b15, 0, none⟩)), (158, .int .i64 n), (18, .slice ap pl.length cp), (20, .slice as_ sl.length cs), (21, .slice aq ql.length cq), (23, .slice y.1.2.1 y.1.1.length y.1.2.2)], (b15, cel 27 (btl B (B.sl ab cb))) :: H, Z5 y.1.2.1 2 (ZC y.1.1) :: InW y.1.1 :: Z5 aq 1 (Z9 ql) :: Inn ql :: Z5 as_ 1 (Z9 sl) :: Inn sl :: Z5 ap 1 (Z9 pl) :: Inn pl :: Z5 ab 4 (Z7 B.bins) :: R⟩) ?_ ?_
 refine Z2 rfl ?_ ?_ <;> intro hc9 <;> try simp only [cS] at hc9
 have hw1 := k9 hc9
 refine sqr 6 rfl (pur 2 rfl (sp rfl (PE.lenSl Z2f rfl) rfl (sp rfl (PE.sub rfl rfl (by omega)) rfl ?_)))
 rw [show (W.length : Int) - 1 = ((W.length - 1 : Nat) : Int) by omega]
 refine sp rfl (PE.slHi (h := W.length - 1) Zeg rfl rfl (by omega)) rfl ?_
 have hwt : W.length - 1 = (W.take (W.length - 1)).length := by rw [List.length_take]; omega
 refine pur 1 rfl ?_
 rw [show Value.slice aw (W.length - 1) cw = Value.slice aw (W.take (W.length - 1)).length cw from by rw [← hwt]]
 refine Sy.heap (fun w h => (h.rowsTake (a := aw) (sz := 2) (rows := ZC W) (W.length - 1)).inwPart (l := W) (W.take (W.length - 1)) (fun x hx => List.mem_of_mem_take hx)) ?_
 exact Z0m ⟨(W.take (W.length - 1), aw, cw), by dsimp only; omega, fun x hx => hWx x (List.mem_of_mem_take hx)⟩ (fun w h => h.facts (fun g hg => by simp only [List.mem_cons] at hg ⊢; rcases hg with hg | hg | hg | hg | hg | hg | hg | hg | hg | hg <;> simp [hg, Z8j]))
 refine Z1 ?_
 exact Z0m ⟨(W, aw, cw), hWl, hWx⟩ idH
 clear k9 hWc hWl hWx
 clear aw cw W
 rintro ⟨⟨W, aw, cw⟩, hWl, hWx⟩
 dsimp only at hWl hWx ⊢
 refine Z0 (sqt 3 rfl (pur 1 rfl (sp rfl (PE.lenSl Z2f rfl) rfl (pur 1 rfl ?_))))
 refine Z15 (ι := {y : List WE × Option Addr × Nat // (y.1.length ≤ 14641 ∧ ∀ x ∈ y.1, x.l.length ≤ 4)}) (fun y => ⟨[(14, .int .i64 n), (15, .pointer (some ⟨b15, 0, none⟩)), (158, .int .i64 n), (18, .slice ap pl.length cp), (20, .slice as_ sl.length cs), (21, .slice aq ql.length cq), (23, .slice y.1.2.1 y.1.1.length y.1.2.2)], (b15, cel 27 (btl B (B.sl ab cb))) :: H, Z5 y.1.2.1 2 (ZC y.1.1) :: InW y.1.1 :: Z5 aq 1 (Z9 ql) :: Inn ql :: Z5 as_ 1 (Z9 sl) :: Inn sl :: Z5 ap 1 (Z9 pl) :: Inn pl :: Z5 ab 4 (Z7 B.bins) :: R⟩) ?_ ?_
 refine Z2 rfl ?_ ?_ <;> intro hc10 <;> try simp only [cS] at hc10
 refine sqr 1 rfl (pur 1 rfl ?_)
 exact Z0m ⟨([], none, 0), by decide, by simp⟩ (fun w h => St.noRows (sz := 2) (St.inw0 (h.ftail.ftail)))
 refine Z1 ?_
 exact Z0m ⟨(W, aw, cw), hWl, hWx⟩ idH
 clear hWl hWx
 clear aw cw W
 rintro ⟨⟨W, aw, cw⟩, hWl, hWx⟩
 dsimp only at hWl hWx ⊢
 refine sqt 23 rfl (spL rfl rfl (lhA (btl B (B.sl ab cb)) ZD rfl rfl rfl) rfl (pur 1 rfl (sp rfl (PE.rem rfl rfl (by omega)) rfl (pur 1 rfl (sp rfl (PE.rem rfl rfl (by omega)) rfl (sp rfl (PE.buildArr (out := [_, _]) Zc7 ZfD rfl rfl) rfl (pur 1 rfl (sp rfl (PE.rem rfl rfl (by omega)) rfl (pur 1 rfl (sp rfl (PE.rem rfl rfl (by omega)) rfl (sp rfl (PE.build (out := [_, _]) Z4r Z2C rfl rfl) rfl (pur 3 rfl ?_))))))))))))
 refine cl rfl Zgx rfl rfl (Z4m B ab cb ((n : Int) % 4) ((n : Int) % 7) ((n : Int) % 3) ((n : Int) % 7) (by omega) (by omega) (by omega) pl ap cp (by omega) (fun x hx => by have := hpi x hx; omega) ql aq cq (by omega) (fun x hx => by have := hqi x hx; omega) W aw cw (by omega) (fun x hx => by have := hWx x hx; omega) (by omega) hr _ _) ?_
 rintro _ _ _ ⟨rfl, rfl, rfl⟩
 refine pur 2 rfl ?_
 refine Zh 279 rfl ?_ ?_ <;> intro g279
 exact absurd g279 (by simp)
 refine Z0o rfl rfl rfl rfl rfl (lhA (btl B (B.sl ab cb)) ZD rfl rfl rfl) rfl (pur 2 rfl ?_)
 refine clG rfl rfl rfl rfl ZhH rfl rfl (Z46 B ab cb sl as_ cs (by omega) (fun x hx => by have := hsi x hx; omega) ql aq cq (by omega) (fun x hx => by have := hqi x hx; omega) (by omega) hr _ _) ?_
 rintro _ _ _ ⟨rfl, rfl, rfl⟩
 refine pur 2 rfl ?_
 refine Z2 rfl ?_ ?_ <;> intro hc11
 exact absurd hc11 (by simp)
 refine Z1 (sqr 2 rfl (sp rfl (PE.add rfl rfl (by omega)) rfl (pur 1 rfl ?_)))
 exact Zn ⟨n + 1, by omega⟩ (fun w h => St.sub (h.del b15))
 refine Zb (Zf (Zf (ZB (Z0 (sqt 1 rfl (pur 1 rfl (Z3 ?_)))))))
 refine Zj (ι := {n : Nat // n ≤ 7}) (fun y => ⟨[(287, .int .i64 y.1)], H, R⟩) (fun y => 7 - y.1) ⟨0, Nat.zero_le _⟩ ?_ (fun y => ?_)
 exact Zr idH
 obtain ⟨n, hn⟩ := y
 dsimp only at hn ⊢
 refine sqt 1 rfl (pur 1 rfl (Z0 ?_))
 refine Z2 rfl ?_ ?_ <;> intro hc12 <;> try simp only [cS] at hc12
 obtain ⟨hs1, hs2⟩ := Zcp n (by omega)
 refine Z1 (Z0 (Z3 (sqt 2 rfl (pur 2 rfl (Z0 ?_)))))
 refine Z2Q (ι := Nat × Nat × Nat × Nat) (fun y => ⟨[(25, .int .i64 n), (26, .pointer (some ⟨y.1, 0, none⟩)), (27, .pointer (some ⟨y.2.1, 0, none⟩)), (28, .slice (some ⟨y.2.2.1, 0, none⟩) (18 + n) (18 + n)), (287, .int .i64 n)], (y.1, cel 27 (btl (bnB []) (.slice none 0 0))) :: (y.2.1, cel 27 (btl (thr 2) ((thr 2).sl (some ⟨y.2.2.2, 0, none⟩) 3))) :: (y.2.2.1, cel 22 (Z2N (18 + n) [.slice none 0 0])) :: H, Z5 (some ⟨y.2.2.2, 0, none⟩) 4 (Z7 (thr 2).bins) :: R⟩) ?_ ?_
 refine Zi [0, 0, 0, 4, 12, 0, 0, 99, 227, 511] (.tk 0 (.tk 2 (.tk 3 (.any (.alt 1 (.any (.alt 4 (.any (.alt 5 (.big 6 (.big 7 (.big 8 (.tk 9 .done)))) (.alt 6 (.big 5 (.big 7 (.big 8 (.tk 9 .done)))) .stop))) (.alt 5 (.any (.alt 4 (.big 6 (.big 7 (.big 8 (.tk 9 .done)))) (.alt 6 (.any (.alt 4 (.big 7 (.big 8 (.tk 9 .done))) (.alt 7 (.any (.alt 4 (.big 8 (.tk 9 .done)) (.alt 8 (.big 4 (.tk 9 .done)) .stop))) .stop))) .stop))) (.alt 6 (.any (.alt 4 (.big 5 (.big 7 (.big 8 (.tk 9 .done)))) (.alt 5 (.any (.alt 4 (.big 7 (.big 8 (.tk 9 .done))) (.alt 7 (.any (.alt 4 (.big 8 (.tk 9 .done)) (.alt 8 (.big 4 (.tk 9 .done)) .stop))) .stop))) .stop))) .stop)))) (.alt 4 (.any (.alt 1 (.any (.alt 5 (.big 6 (.big 7 (.big 8 (.tk 9 .done)))) (.alt 6 (.big 5 (.big 7 (.big 8 (.tk 9 .done)))) .stop))) (.alt 5 (.any (.alt 1 (.big 6 (.big 7 (.big 8 (.tk 9 .done)))) (.alt 6 (.big 1 (.big 7 (.big 8 (.tk 9 .done)))) .stop))) (.alt 6 (.any (.alt 1 (.big 5 (.big 7 (.big 8 (.tk 9 .done)))) (.alt 5 (.big 1 (.big 7 (.big 8 (.tk 9 .done)))) .stop))) .stop)))) (.alt 5 (.any (.alt 1 (.any (.alt 4 (.big 6 (.big 7 (.big 8 (.tk 9 .done)))) (.alt 6 (.any (.alt 4 (.big 7 (.big 8 (.tk 9 .done))) (.alt 7 (.any (.alt 4 (.big 8 (.tk 9 .done)) (.alt 8 (.big 4 (.tk 9 .done)) .stop))) .stop))) .stop))) (.alt 4 (.any (.alt 1 (.big 6 (.big 7 (.big 8 (.tk 9 .done)))) (.alt 6 (.big 1 (.big 7 (.big 8 (.tk 9 .done)))) .stop))) (.alt 6 (.any (.alt 1 (.any (.alt 4 (.big 7 (.big 8 (.tk 9 .done))) (.alt 7 (.any (.alt 4 (.big 8 (.tk 9 .done)) (.alt 8 (.big 4 (.tk 9 .done)) .stop))) .stop))) (.alt 4 (.big 1 (.big 7 (.big 8 (.tk 9 .done)))) .stop))) .stop)))) (.alt 6 (.any (.alt 1 (.any (.alt 4 (.big 5 (.big 7 (.big 8 (.tk 9 .done)))) (.alt 5 (.any (.alt 4 (.big 7 (.big 8 (.tk 9 .done))) (.alt 7 (.any (.alt 4 (.big 8 (.tk 9 .done)) (.alt 8 (.big 4 (.tk 9 .done)) .stop))) .stop))) .stop))) (.alt 4 (.any (.alt 1 (.big 5 (.big 7 (.big 8 (.tk 9 .done)))) (.alt 5 (.big 1 (.big 7 (.big 8 (.tk 9 .done)))) .stop))) (.alt 5 (.any (.alt 1 (.any (.alt 4 (.big 7 (.big 8 (.tk 9 .done))) (.alt 7 (.any (.alt 4 (.big 8 (.tk 9 .done)) (.alt 8 (.big 4 (.tk 9 .done)) .stop))) .stop))) (.alt 4 (.big 1 (.big 7 (.big 8 (.tk 9 .done)))) .stop))) .stop)))) .stop)))))))) ZH (by kernel_rfl) ?_
 refine tk rfl (PE.build (out := [_, _, _, _, _, _, _, _, _]) Z6p Z0w rfl rfl) rfl (Zp 1 rfl (tk rfl (PE.add rfl rfl (by omega)) rfl ?_))
 refine Zs ?_ ?_
 refine cl rfl Z4c rfl rfl (Z0c 2 (by decide) _ _) ?_
 rintro _ _ _ ⟨ba, rfl, rfl, rfl⟩
 refine bgT ?_
 refine Zs ?_ ?_
 rw [show (18 : Int) + (n : Int) = ((18 + n : Nat) : Int) by omega]
 refine mkS rfl Z2A Z1K rfl rfl (Nat.le_refl _) (by omega) rfl (fun b294 => ?_)
 refine bgT ?_
 refine Zs ?_ ?_
 refine alc rfl Z0w rfl (fun b26 => bgT (alc rfl Z0w rfl (fun b27 => bgT ?_)))
 refine sto rfl rfl rfl Z03 rfl rfl rfl rfl ?_
 refine bgT ?_
 refine sto rfl rfl rfl Z03 rfl rfl rfl rfl ?_
 refine bgT (Zp 1 rfl ?_)
 exact Za (b26, b27, b294, ba) (fun w h => (((h.pull b294).pull b27).pull b26))
 refine Zs ?_ ?_
 refine alc rfl Z0w rfl (fun b27 => bgT (alc rfl Z0w rfl (fun b26 => bgT ?_)))
 refine sto rfl rfl rfl Z03 rfl rfl rfl rfl ?_
 refine bgT ?_
 refine sto rfl rfl rfl Z03 rfl rfl rfl rfl ?_
 refine bgT (Zp 1 rfl ?_)
 exact Za (b26, b27, b294, ba) (fun w h => (((h.pull b294).pull b27).pull b26))
 exact ZN
 refine Zs ?_ ?_
 refine alc rfl Z0w rfl (fun b26 => bgT ?_)
 refine Zs ?_ ?_
 rw [show (18 : Int) + (n : Int) = ((18 + n : Nat) : Int) by omega]
 refine mkS rfl Z2A Z1K rfl rfl (Nat.le_refl _) (by omega) rfl (fun b294 => ?_)
 refine bgT (alc rfl Z0w rfl (fun b27 => bgT ?_))
 refine sto rfl rfl rfl Z03 rfl rfl rfl rfl ?_
 refine bgT ?_
 refine sto rfl rfl rfl Z03 rfl rfl rfl rfl ?_
 refine bgT (Zp 1 rfl ?_)
 exact Za (b26, b27, b294, ba) (fun w h => (((h.pull b294).pull b27).pull b26))
 refine Zs ?_ ?_
 refine alc rfl Z0w rfl (fun b27 => bgT ?_)
 refine Zs ?_ ?_
 rw [show (18 : Int) + (n : Int) = ((18 + n : Nat) : Int) by omega]
 refine mkS rfl Z2A Z1K rfl rfl (Nat.le_refl _) (by omega) rfl (fun b294 => ?_)
 refine bgT ?_
 refine sto rfl rfl rfl Z03 rfl rfl rfl rfl ?_
 refine bgT ?_
 refine sto rfl rfl rfl Z03 rfl rfl rfl rfl ?_
 refine bgT (Zp 1 rfl ?_)
 exact Za (b26, b27, b294, ba) (fun w h => (((h.pull b294).pull b27).pull b26))
 refine Zs ?_ ?_
 refine sto rfl rfl rfl Z03 rfl rfl rfl rfl ?_
 refine bgT ?_
 refine Zs ?_ ?_
 rw [show (18 : Int) + (n : Int) = ((18 + n : Nat) : Int) by omega]
 refine mkS rfl Z2A Z1K rfl rfl (Nat.le_refl _) (by omega) rfl (fun b294 => ?_)
 refine bgT ?_
 refine sto rfl rfl rfl Z03 rfl rfl rfl rfl ?_
 refine bgT (Zp 1 rfl ?_)
 exact Za (b26, b27, b294, ba) (fun w h => (((h.pull b294).pull b27).pull b26))
 refine Zs ?_ ?_
 refine sto rfl rfl rfl Z03 rfl rfl rfl rfl ?_
 refine bgT ?_
 rw [show (18 : Int) + (n : Int) = ((18 + n : Nat) : Int) by omega]
 refine mkS rfl Z2A Z1K rfl rfl (Nat.le_refl _) (by omega) rfl (fun b294 => ?_)
 refine bgT (Zp 1 rfl ?_)
 exact Za (b26, b27, b294, ba) (fun w h => (((h.pull b294).pull b27).pull b26))
 exact ZN
 exact ZN
 exact ZN
 refine Zs ?_ ?_
 refine alc rfl Z0w rfl (fun b27 => bgT ?_)
 refine Zs ?_ ?_
 rw [show (18 : Int) + (n : Int) = ((18 + n : Nat) : Int) by omega]
 refine mkS rfl Z2A Z1K rfl rfl (Nat.le_refl _) (by omega) rfl (fun b294 => ?_)
 refine bgT (alc rfl Z0w rfl (fun b26 => bgT ?_))
 refine sto rfl rfl rfl Z03 rfl rfl rfl rfl ?_
 refine bgT ?_
 refine sto rfl rfl rfl Z03 rfl rfl rfl rfl ?_
 refine bgT (Zp 1 rfl ?_)
 exact Za (b26, b27, b294, ba) (fun w h => (((h.pull b294).pull b27).pull b26))
 refine Zs ?_ ?_
 refine alc rfl Z0w rfl (fun b26 => bgT ?_)
 refine Zs ?_ ?_
 rw [show (18 : Int) + (n : Int) = ((18 + n : Nat) : Int) by omega]
 refine mkS rfl Z2A Z1K rfl rfl (Nat.le_refl _) (by omega) rfl (fun b294 => ?_)
 refine bgT ?_
 refine sto rfl rfl rfl Z03 rfl rfl rfl rfl ?_
 refine bgT ?_
 refine sto rfl rfl rfl Z03 rfl rfl rfl rfl ?_
 refine bgT (Zp 1 rfl ?_)
 exact Za (b26, b27, b294, ba) (fun w h => (((h.pull b294).pull b27).pull b26))
 refine Zs ?_ ?_
 refine sto rfl rfl rfl Z03 rfl rfl rfl rfl ?_
 refine bgT ?_
 refine Zs ?_ ?_
 rw [show (18 : Int) + (n : Int) = ((18 + n : Nat) : Int) by omega]
 refine mkS rfl Z2A Z1K rfl rfl (Nat.le_refl _) (by omega) rfl (fun b294 => ?_)
 refine bgT ?_
 refine sto rfl rfl rfl Z03 rfl rfl rfl rfl ?_
 refine bgT (Zp 1 rfl ?_)
 exact Za (b26, b27, b294, ba) (fun w h => (((h.pull b294).pull b27).pull b26))
 refine Zs ?_ ?_
 refine sto rfl rfl rfl Z03 rfl rfl rfl rfl ?_
 refine bgT ?_
 rw [show (18 : Int) + (n : Int) = ((18 + n : Nat) : Int) by omega]
 refine mkS rfl Z2A Z1K rfl rfl (Nat.le_refl _) (by omega) rfl (fun b294 => ?_)
 refine bgT (Zp 1 rfl ?_)
 exact Za (b26, b27, b294, ba) (fun w h => (((h.pull b294).pull b27).pull b26))
 exact ZN
 exact ZN
 exact ZN
 exact ZN
 refine Zs ?_ ?_
 rw [show (18 : Int) + (n : Int) = ((18 + n : Nat) : Int) by omega]
 refine mkS rfl Z2A Z1K rfl rfl (Nat.le_refl _) (by omega) rfl (fun b294 => ?_)
 refine bgT ?_
 refine Zs ?_ ?_
 refine cl rfl Z4c rfl rfl (Z0c 2 (by decide) _ _) ?_
 rintro _ _ _ ⟨ba, rfl, rfl, rfl⟩
 refine bgT ?_
 refine Zs ?_ ?_
 refine alc rfl Z0w rfl (fun b26 => bgT (alc rfl Z0w rfl (fun b27 => bgT ?_)))
 refine sto rfl rfl rfl Z03 rfl rfl rfl rfl ?_
 refine bgT ?_
 refine sto rfl rfl rfl Z03 rfl rfl rfl rfl ?_
 refine bgT (Zp 1 rfl ?_)
 exact Za (b26, b27, b294, ba) (fun w h => (((h.pull b294).pull b27).pull b26))
 refine Zs ?_ ?_
 refine alc rfl Z0w rfl (fun b27 => bgT (alc rfl Z0w rfl (fun b26 => bgT ?_)))
 refine sto rfl rfl rfl Z03 rfl rfl rfl rfl ?_
 refine bgT ?_
 refine sto rfl rfl rfl Z03 rfl rfl rfl rfl ?_
 refine bgT (Zp 1 rfl ?_)
 exact Za (b26, b27, b294, ba) (fun w h => (((h.pull b294).pull b27).pull b26))
 exact ZN
 refine Zs ?_ ?_
 refine alc rfl Z0w rfl (fun b26 => bgT ?_)
 refine Zs ?_ ?_
 refine cl rfl Z4c rfl rfl (Z0c 2 (by decide) _ _) ?_
 rintro _ _ _ ⟨ba, rfl, rfl, rfl⟩
 refine bgT (alc rfl Z0w rfl (fun b27 => bgT ?_))
 refine sto rfl rfl rfl Z03 rfl rfl rfl rfl ?_
 refine bgT ?_
 refine sto rfl rfl rfl Z03 rfl rfl rfl rfl ?_
 refine bgT (Zp 1 rfl ?_)
 exact Za (b26, b27, b294, ba) (fun w h => (((h.pull b294).pull b27).pull b26))
 refine Zs ?_ ?_
 refine alc rfl Z0w rfl (fun b27 => bgT ?_)
 refine cl rfl Z4c rfl rfl (Z0c 2 (by decide) _ _) ?_
 rintro _ _ _ ⟨ba, rfl, rfl, rfl⟩
 refine bgT ?_
 refine sto rfl rfl rfl Z03 rfl rfl rfl rfl ?_
 refine bgT ?_
 refine sto rfl rfl rfl Z03 rfl rfl rfl rfl ?_
 refine bgT (Zp 1 rfl ?_)
 exact Za (b26, b27, b294, ba) (fun w h => (((h.pull b294).pull b27).pull b26))
 exact ZN
 refine Zs ?_ ?_
 refine alc rfl Z0w rfl (fun b27 => bgT ?_)
 refine Zs ?_ ?_
 refine cl rfl Z4c rfl rfl (Z0c 2 (by decide) _ _) ?_
 rintro _ _ _ ⟨ba, rfl, rfl, rfl⟩
 refine bgT (alc rfl Z0w rfl (fun b26 => bgT ?_))
 refine sto rfl rfl rfl Z03 rfl rfl rfl rfl ?_
 refine bgT ?_
 refine sto rfl rfl rfl Z03 rfl rfl rfl rfl ?_
 refine bgT (Zp 1 rfl ?_)
 exact Za (b26, b27, b294, ba) (fun w h => (((h.pull b294).pull b27).pull b26))
 refine Zs ?_ ?_
 refine alc rfl Z0w rfl (fun b26 => bgT ?_)
 refine cl rfl Z4c rfl rfl (Z0c 2 (by decide) _ _) ?_
 rintro _ _ _ ⟨ba, rfl, rfl, rfl⟩
 refine bgT ?_
 refine sto rfl rfl rfl Z03 rfl rfl rfl rfl ?_
 refine bgT ?_
 refine sto rfl rfl rfl Z03 rfl rfl rfl rfl ?_
 refine bgT (Zp 1 rfl ?_)
 exact Za (b26, b27, b294, ba) (fun w h => (((h.pull b294).pull b27).pull b26))
 exact ZN
 exact ZN
 refine Zs ?_ ?_
 refine alc rfl Z0w rfl (fun b26 => bgT ?_)
 refine Zs ?_ ?_
 refine cl rfl Z4c rfl rfl (Z0c 2 (by decide) _ _) ?_
 rintro _ _ _ ⟨ba, rfl, rfl, rfl⟩
 refine bgT ?_
 refine Zs ?_ ?_
 rw [show (18 : Int) + (n : Int) = ((18 + n : Nat) : Int) by omega]
 refine mkS rfl Z2A Z1K rfl rfl (Nat.le_refl _) (by omega) rfl (fun b294 => ?_)
 refine bgT (alc rfl Z0w rfl (fun b27 => bgT ?_))
 refine sto rfl rfl rfl Z03 rfl rfl rfl rfl ?_
 refine bgT ?_
 refine sto rfl rfl rfl Z03 rfl rfl rfl rfl ?_
 refine bgT (Zp 1 rfl ?_)
 exact Za (b26, b27, b294, ba) (fun w h => (((h.pull b294).pull b27).pull b26))
 refine Zs ?_ ?_
 refine alc rfl Z0w rfl (fun b27 => bgT ?_)
 refine Zs ?_ ?_
 rw [show (18 : Int) + (n : Int) = ((18 + n : Nat) : Int) by omega]
 refine mkS rfl Z2A Z1K rfl rfl (Nat.le_refl _) (by omega) rfl (fun b294 => ?_)
 refine bgT ?_
 refine sto rfl rfl rfl Z03 rfl rfl rfl rfl ?_
 refine bgT ?_
 refine sto rfl rfl rfl Z03 rfl rfl rfl rfl ?_
 refine bgT (Zp 1 rfl ?_)
 exact Za (b26, b27, b294, ba) (fun w h => (((h.pull b294).pull b27).pull b26))
 refine Zs ?_ ?_
 refine sto rfl rfl rfl Z03 rfl rfl rfl rfl ?_
 refine bgT ?_
 refine Zs ?_ ?_
 rw [show (18 : Int) + (n : Int) = ((18 + n : Nat) : Int) by omega]
 refine mkS rfl Z2A Z1K rfl rfl (Nat.le_refl _) (by omega) rfl (fun b294 => ?_)
 refine bgT ?_
 refine sto rfl rfl rfl Z03 rfl rfl rfl rfl ?_
 refine bgT (Zp 1 rfl ?_)
 exact Za (b26, b27, b294, ba) (fun w h => (((h.pull b294).pull b27).pull b26))
 refine Zs ?_ ?_
 refine sto rfl rfl rfl Z03 rfl rfl rfl rfl ?_
 refine bgT ?_
 rw [show (18 : Int) + (n : Int) = ((18 + n : Nat) : Int) by omega]
 refine mkS rfl Z2A Z1K rfl rfl (Nat.le_refl _) (by omega) rfl (fun b294 => ?_)
 refine bgT (Zp 1 rfl ?_)
 exact Za (b26, b27, b294, ba) (fun w h => (((h.pull b294).pull b27).pull b26))
 exact ZN
 exact ZN
 exact ZN
 refine Zs ?_ ?_
 rw [show (18 : Int) + (n : Int) = ((18 + n : Nat) : Int) by omega]
 refine mkS rfl Z2A Z1K rfl rfl (Nat.le_refl _) (by omega) rfl (fun b294 => ?_)
 refine bgT ?_
 refine Zs ?_ ?_
 refine cl rfl Z4c rfl rfl (Z0c 2 (by decide) _ _) ?_
 rintro _ _ _ ⟨ba, rfl, rfl, rfl⟩
 refine bgT (alc rfl Z0w rfl (fun b27 => bgT ?_))
 refine sto rfl rfl rfl Z03 rfl rfl rfl rfl ?_
 refine bgT ?_
 refine sto rfl rfl rfl Z03 rfl rfl rfl rfl ?_
 refine bgT (Zp 1 rfl ?_)
 exact Za (b26, b27, b294, ba) (fun w h => (((h.pull b294).pull b27).pull b26))
 refine Zs ?_ ?_
 refine alc rfl Z0w rfl (fun b27 => bgT ?_)
 refine cl rfl Z4c rfl rfl (Z0c 2 (by decide) _ _) ?_
 rintro _ _ _ ⟨ba, rfl, rfl, rfl⟩
 refine bgT ?_
 refine sto rfl rfl rfl Z03 rfl rfl rfl rfl ?_
 refine bgT ?_
 refine sto rfl rfl rfl Z03 rfl rfl rfl rfl ?_
 refine bgT (Zp 1 rfl ?_)
 exact Za (b26, b27, b294, ba) (fun w h => (((h.pull b294).pull b27).pull b26))
 exact ZN
 refine Zs ?_ ?_
 refine alc rfl Z0w rfl (fun b27 => bgT ?_)
 refine Zs ?_ ?_
 refine cl rfl Z4c rfl rfl (Z0c 2 (by decide) _ _) ?_
 rintro _ _ _ ⟨ba, rfl, rfl, rfl⟩
 refine bgT ?_
 refine Zs ?_ ?_
 rw [show (18 : Int) + (n : Int) = ((18 + n : Nat) : Int) by omega]
 refine mkS rfl Z2A Z1K rfl rfl (Nat.le_refl _) (by omega) rfl (fun b294 => ?_)
 refine bgT ?_
 refine sto rfl rfl rfl Z03 rfl rfl rfl rfl ?_
 refine bgT ?_
 refine sto rfl rfl rfl Z03 rfl rfl rfl rfl ?_
 refine bgT (Zp 1 rfl ?_)
 exact Za (b26, b27, b294, ba) (fun w h => (((h.pull b294).pull b27).pull b26))
 refine Zs ?_ ?_
 refine sto rfl rfl rfl Z03 rfl rfl rfl rfl ?_
 refine bgT ?_
 refine Zs ?_ ?_
 rw [show (18 : Int) + (n : Int) = ((18 + n : Nat) : Int) by omega]
 refine mkS rfl Z2A Z1K rfl rfl (Nat.le_refl _) (by omega) rfl (fun b294 => ?_)
 refine bgT ?_
 refine sto rfl rfl rfl Z03 rfl rfl rfl rfl ?_
 refine bgT (Zp 1 rfl ?_)
 exact Za (b26, b27, b294, ba) (fun w h => (((h.pull b294).pull b27).pull b26))
 refine Zs ?_ ?_
 refine sto rfl rfl rfl Z03 rfl rfl rfl rfl ?_
 refine bgT ?_
 rw [show (18 : Int) + (n : Int) = ((18 + n : Nat) : Int) by omega]
 refine mkS rfl Z2A Z1K rfl rfl (Nat.le_refl _) (by omega) rfl (fun b294 => ?_)
 refine bgT (Zp 1 rfl ?_)
 exact Za (b26, b27, b294, ba) (fun w h => (((h.pull b294).pull b27).pull b26))
 exact ZN
 exact ZN
 refine Zs ?_ ?_
 rw [show (18 : Int) + (n : Int) = ((18 + n : Nat) : Int) by omega]
 refine mkS rfl Z2A Z1K rfl rfl (Nat.le_refl _) (by omega) rfl (fun b294 => ?_)
 refine bgT ?_
 refine cl rfl Z4c rfl rfl (Z0c 2 (by decide) _ _) ?_
 rintro _ _ _ ⟨ba, rfl, rfl, rfl⟩
 refine bgT ?_
 refine sto rfl rfl rfl Z03 rfl rfl rfl rfl ?_
 refine bgT ?_
 refine sto rfl rfl rfl Z03 rfl rfl rfl rfl ?_
 refine bgT (Zp 1 rfl ?_)
 exact Za (b26, b27, b294, ba) (fun w h => (((h.pull b294).pull b27).pull b26))
 exact ZN
 exact ZN
 refine Zs ?_ ?_
 refine alc rfl Z0w rfl (fun b27 => bgT ?_)
 refine Zs ?_ ?_
 refine cl rfl Z4c rfl rfl (Z0c 2 (by decide) _ _) ?_
 rintro _ _ _ ⟨ba, rfl, rfl, rfl⟩
 refine bgT ?_
 refine Zs ?_ ?_
 rw [show (18 : Int) + (n : Int) = ((18 + n : Nat) : Int) by omega]
 refine mkS rfl Z2A Z1K rfl rfl (Nat.le_refl _) (by omega) rfl (fun b294 => ?_)
 refine bgT (alc rfl Z0w rfl (fun b26 => bgT ?_))
 refine sto rfl rfl rfl Z03 rfl rfl rfl rfl ?_
 refine bgT ?_
 refine sto rfl rfl rfl Z03 rfl rfl rfl rfl ?_
 refine bgT (Zp 1 rfl ?_)
 exact Za (b26, b27, b294, ba) (fun w h => (((h.pull b294).pull b27).pull b26))
 refine Zs ?_ ?_
 refine alc rfl Z0w rfl (fun b26 => bgT ?_)
 refine Zs ?_ ?_
 rw [show (18 : Int) + (n : Int) = ((18 + n : Nat) : Int) by omega]
 refine mkS rfl Z2A Z1K rfl rfl (Nat.le_refl _) (by omega) rfl (fun b294 => ?_)
 refine bgT ?_
 refine sto rfl rfl rfl Z03 rfl rfl rfl rfl ?_
 refine bgT ?_
 refine sto rfl rfl rfl Z03 rfl rfl rfl rfl ?_
 refine bgT (Zp 1 rfl ?_)
 exact Za (b26, b27, b294, ba) (fun w h => (((h.pull b294).pull b27).pull b26))
 refine Zs ?_ ?_
 refine sto rfl rfl rfl Z03 rfl rfl rfl rfl ?_
 refine bgT ?_
 refine Zs ?_ ?_
 rw [show (18 : Int) + (n : Int) = ((18 + n : Nat) : Int) by omega]
 refine mkS rfl Z2A Z1K rfl rfl (Nat.le_refl _) (by omega) rfl (fun b294 => ?_)
 refine bgT ?_
 refine sto rfl rfl rfl Z03 rfl rfl rfl rfl ?_
 refine bgT (Zp 1 rfl ?_)
 exact Za (b26, b27, b294, ba) (fun w h => (((h.pull b294).pull b27).pull b26))
 refine Zs ?_ ?_
 refine sto rfl rfl rfl Z03 rfl rfl rfl rfl ?_
 refine bgT ?_
 rw [show (18 : Int) + (n : Int) = ((18 + n : Nat) : Int) by omega]
 refine mkS rfl Z2A Z1K rfl rfl (Nat.le_refl _) (by omega) rfl (fun b294 => ?_)
 refine bgT (Zp 1 rfl ?_)
 exact Za (b26, b27, b294, ba) (fun w h => (((h.pull b294).pull b27).pull b26))
 exact ZN
 exact ZN
 exact ZN
 refine Zs ?_ ?_
 rw [show (18 : Int) + (n : Int) = ((18 + n : Nat) : Int) by omega]
 refine mkS rfl Z2A Z1K rfl rfl (Nat.le_refl _) (by omega) rfl (fun b294 => ?_)
 refine bgT ?_
 refine Zs ?_ ?_
 refine cl rfl Z4c rfl rfl (Z0c 2 (by decide) _ _) ?_
 rintro _ _ _ ⟨ba, rfl, rfl, rfl⟩
 refine bgT (alc rfl Z0w rfl (fun b26 => bgT ?_))
 refine sto rfl rfl rfl Z03 rfl rfl rfl rfl ?_
 refine bgT ?_
 refine sto rfl rfl rfl Z03 rfl rfl rfl rfl ?_
 refine bgT (Zp 1 rfl ?_)
 exact Za (b26, b27, b294, ba) (fun w h => (((h.pull b294).pull b27).pull b26))
 refine Zs ?_ ?_
 refine alc rfl Z0w rfl (fun b26 => bgT ?_)
 refine cl rfl Z4c rfl rfl (Z0c 2 (by decide) _ _) ?_
 rintro _ _ _ ⟨ba, rfl, rfl, rfl⟩
 refine bgT ?_
 refine sto rfl rfl rfl Z03 rfl rfl rfl rfl ?_
 refine bgT ?_
 refine sto rfl rfl rfl Z03 rfl rfl rfl rfl ?_
 refine bgT (Zp 1 rfl ?_)
 exact Za (b26, b27, b294, ba) (fun w h => (((h.pull b294).pull b27).pull b26))
 exact ZN
 refine Zs ?_ ?_
 refine alc rfl Z0w rfl (fun b26 => bgT ?_)
 refine Zs ?_ ?_
 refine cl rfl Z4c rfl rfl (Z0c 2 (by decide) _ _) ?_
 rintro _ _ _ ⟨ba, rfl, rfl, rfl⟩
 refine bgT ?_
 refine Zs ?_ ?_
 rw [show (18 : Int) + (n : Int) = ((18 + n : Nat) : Int) by omega]
 refine mkS rfl Z2A Z1K rfl rfl (Nat.le_refl _) (by omega) rfl (fun b294 => ?_)
 refine bgT ?_
 refine sto rfl rfl rfl Z03 rfl rfl rfl rfl ?_
 refine bgT ?_
 refine sto rfl rfl rfl Z03 rfl rfl rfl rfl ?_
 refine bgT (Zp 1 rfl ?_)
 exact Za (b26, b27, b294, ba) (fun w h => (((h.pull b294).pull b27).pull b26))
 refine Zs ?_ ?_
 refine sto rfl rfl rfl Z03 rfl rfl rfl rfl ?_
 refine bgT ?_
 refine Zs ?_ ?_
 rw [show (18 : Int) + (n : Int) = ((18 + n : Nat) : Int) by omega]
 refine mkS rfl Z2A Z1K rfl rfl (Nat.le_refl _) (by omega) rfl (fun b294 => ?_)
 refine bgT ?_
 refine sto rfl rfl rfl Z03 rfl rfl rfl rfl ?_
 refine bgT (Zp 1 rfl ?_)
 exact Za (b26, b27, b294, ba) (fun w h => (((h.pull b294).pull b27).pull b26))
 refine Zs ?_ ?_
 refine sto rfl rfl rfl Z03 rfl rfl rfl rfl ?_
 refine bgT ?_
 rw [show (18 : Int) + (n : Int) = ((18 + n : Nat) : Int) by omega]
 refine mkS rfl Z2A Z1K rfl rfl (Nat.le_refl _) (by omega) rfl (fun b294 => ?_)
 refine bgT (Zp 1 rfl ?_)
 exact Za (b26, b27, b294, ba) (fun w h => (((h.pull b294).pull b27).pull b26))
 exact ZN
 exact ZN
 refine Zs ?_ ?_
 rw [show (18 : Int) + (n : Int) = ((18 + n : Nat) : Int) by omega]
 refine mkS rfl Z2A Z1K rfl rfl (Nat.le_refl _) (by omega) rfl (fun b294 => ?_)
 refine bgT ?_
 refine cl rfl Z4c rfl rfl (Z0c 2 (by decide) _ _) ?_
 rintro _ _ _ ⟨ba, rfl, rfl, rfl⟩
 refine bgT ?_
 refine sto rfl rfl rfl Z03 rfl rfl rfl rfl ?_
 refine bgT ?_
 refine sto rfl rfl rfl Z03 rfl rfl rfl rfl ?_
 refine bgT (Zp 1 rfl ?_)
 exact Za (b26, b27, b294, ba) (fun w h => (((h.pull b294).pull b27).pull b26))
 exact ZN
 exact ZN
 exact ZN
 rintro ⟨b26, b27, b294, ba⟩
 dsimp only
 refine sqt 3 rfl (pur 1 rfl (sp rfl (PE.fA Z1S rfl) rfl ?_))
 refine Z1b (l' := btl (thg n) ((thg n).sl (some ⟨ba, 0, none⟩) 3)) rfl rfl rfl cn3 rfl rfl rfl rfl (nl rfl) ?_
 refine Z0 (sqt 2 rfl (pur 2 rfl (Z3 ?_)))
 refine Zj (ι := (x : {i : Nat // i ≤ n}) × OSl 40 4 (Z7 (bnL x.1))) (fun x => ⟨[(25, .int .i64 n), (26, .pointer (some ⟨b26, 0, none⟩)), (27, .pointer (some ⟨b27, 0, none⟩)), (287, .int .i64 n), (28, .slice (some ⟨b294, 0, none⟩) (18 + n) (18 + n)), (297, .int .i64 n), (298, .int .i64 x.1.1)], x.2.G ++ ((b26, cel 27 (btl (bnB []) x.2.fs)) :: (b27, cel 27 (btl (thg n) ((thg n).sl (some ⟨ba, 0, none⟩) 3))) :: (b294, cel 22 (Z2N (18 + n) [.slice none 0 0])) :: H), Z5 (some ⟨ba, 0, none⟩) 4 (Z7 (thr 2).bins) :: R⟩) (fun x => n - x.1.1) ⟨⟨0, Nat.zero_le _⟩, OSl.nil _ _⟩ ?_ (fun x => ?_)
 exact Zr idH
 obtain ⟨⟨i, hi⟩, o⟩ := x
 dsimp only at hi o ⊢
 have hil := ZbK i
 refine sqt 1 rfl (pur 1 rfl (Z0 ?_))
 refine Z2 rfl ?_ ?_ <;> intro hc13 <;> try simp only [cS] at hc13
 refine Z1 (Z0 (Z3 (sqt 2 rfl (pur 2 rfl (sqr 8 rfl (sp rfl (PE.fA ZE rfl) rfl (spL rfl rfl (lh Z0C rfl rfl) rfl (pur 1 rfl (sp rfl (PE.build (out := [_, _, _, _]) Zdk Z4M rfl rfl) rfl ?_)))))))))
 refine bsl (out := [_, _, _, _]) rfl Z9Q Z4M rfl rfl rfl rfl rfl rfl (fun b305 => ?_)
 refine apO (o) rfl ZfV rfl rfl (Z0W (row := Z34 ⟨(i : Int), 9, 0, 0⟩) rfl) rfl rfl ((by rw [show (Z7 (bnL i)).length = i from by simp [Z7, ZbK]]; simp only [List.length_singleton]; omega)) rfl (fun o306 => ?_)
 refine sp rfl (PE.fA ZE rfl) rfl ?_
 refine Z1b (l' := btl (bnB []) o306.fs) rfl rfl rfl ZgA rfl (by rw [o306.cells.1]; first | done | rfl) (by rw [o306.cells.1]; simp [o306.cells.2]) (by rw [o306.cells.1]; first | done | rfl) (by rw [o306.cells.1]; first | done | exact Nat.le_refl _) ?_
 refine sqr 2 rfl (sp rfl (PE.add rfl rfl (by omega)) rfl (pur 1 rfl ?_))
 exact Zn ⟨⟨i + 1, by omega⟩, o306.cast (by rw [Zcs]; simp [Z7])⟩ (fun w h => h.del b305)
 obtain rfl : i = n := by omega
 obtain ⟨ab, cb, he, hf⟩ := o.freeze
 rw [he]
 refine Sy.heap (fun w h => hf h) ?_
 clear he hf
 rw [show (Z7 (bnL i)).length = (bnL i).length from List.length_map _]
 obtain ⟨dl, hdl, hdx, hde⟩ := Zcq (18 + i)
 rw [hde, hdl]
 refine Sy.heap (H' := (b26, cel 27 (btl (bnB (bnL i)) ((bnB (bnL i)).sl ab cb))) :: (b27, cel 27 (btl (thg i) ((thg i).sl (some ⟨ba, 0, none⟩) 3))) :: H) (R' := Z5 (some ⟨b294, 0, none⟩) 1 (Z9 dl) :: Inn dl :: Z5 ab 4 (Z7 (bnB (bnL i)).bins) :: Z5 (some ⟨ba, 0, none⟩) 4 (Z7 (thg i).bins) :: R) (fun w h => St.rows (sz := 1) (rows := Z9 dl) (rest := []) (St.innNil (l := dl) hdx (h.pull b294)) (Z0Z _)) ?_
 refine Zb (Zf (Zf (ZB (Z0 (sqt 21 rfl (spL rfl rfl (lhA (btl (bnB (bnL i)) ((bnB (bnL i)).sl ab cb)) ZD rfl rfl rfl) rfl (pur 1 rfl (sp rfl (PE.sub rfl rfl (by omega)) rfl (sp rfl (PE.buildArr (out := [_, _]) Zc7 ZfD rfl rfl) rfl (sp rfl (PE.build (out := [_, _]) Z4r Z2C rfl rfl) rfl ?_))))))))))
 refine bsl (out := [_]) rfl Z6I Z1K rfl rfl rfl rfl rfl rfl (fun b314 => ?_)
 refine Sy.heap (fun w h => St.noRows (sz := 2) (St.inw0 (St.noRows (sz := 1) (St.inn0 h)))) ?_
 refine Sy.heap (fun w h => St.innN (l := []) h) ?_
 refine Sy.heap (fun w h => St.rows (sz := 1) (rows := Z9 [⟨none, 0, []⟩]) (rest := []) (h.pull b314) (Z0Z _)) ?_
 refine cl rfl Zgx rfl rfl (Z4m (bnB (bnL i)) ab cb ((i : Int) - 1) 2 0 0 (by omega) (by decide) (by decide) [] none 0 (by decide) (by simp) [⟨none, 0, []⟩] (some ⟨b314, 0, none⟩) 1 (by decide) (by simp) [] none 0 (by decide) (by simp) (by show (bnL i).length ≤ _; omega) rfl _ _) ?_
 rintro _ _ _ ⟨rfl, rfl, rfl⟩
 refine pur 2 rfl ?_
 refine Zh 317 rfl ?_ ?_ <;> intro g317
 exact absurd g317 (by simp)
 refine Z0o rfl rfl rfl rfl rfl (lhA (btl (thg i) ((thg i).sl (some ⟨ba, 0, none⟩) 3)) ZD rfl rfl rfl) rfl (pur 1 rfl ?_)
 refine spG rfl rfl rfl rfl (PE.rem rfl rfl (by omega)) rfl ?_
 refine spG rfl rfl rfl rfl (PE.add rfl rfl (by omega)) rfl ?_
 refine spG rfl rfl rfl rfl (PE.buildArr (out := [_, _]) Zc7 ZfD rfl rfl) rfl ?_
 refine spG rfl rfl rfl rfl (PE.build (out := [_, _]) Z4r Z2C rfl rfl) rfl ?_
 refine pur 1 rfl ?_
 refine Zha (out := [_, _]) rfl rfl rfl rfl Z1u zl3 rfl rfl rfl rfl rfl rfl (fun b325 => ?_)
 refine Zha (out := [_]) rfl rfl rfl rfl Z6I Z1K rfl rfl rfl rfl rfl rfl (fun b326 => ?_)
 refine Sy.heap (fun w h => St.innCons (a := some ⟨b325, 0, none⟩) (c := 2) (l0 := [0, 1]) (l := []) (St.intRows (l := [0, 1]) (h.pull b325))) ?_
 refine Sy.heap (fun w h => St.rows (sz := 1) (rows := Z9 [⟨some ⟨b325, 0, none⟩, 2, [0, 1]⟩]) (rest := []) (h.pull b326) (Z0Z _)) ?_
 refine clG rfl rfl rfl rfl Zgx rfl rfl (Z4m (thg i) (some ⟨ba, 0, none⟩) 3 1 (19 + (i : Int) % 3) 2 2 (by decide) (by decide) (by decide) dl (some ⟨b294, 0, none⟩) dl.length (by omega) (fun x hx => by rw [hdx x hx]; decide) [⟨some ⟨b325, 0, none⟩, 2, [0, 1]⟩] (some ⟨b326, 0, none⟩) 1 (nl rfl) (by simp) [] none 0 (by decide) (by simp) (nl rfl) rfl _ _) ?_
 rintro _ _ _ ⟨rfl, rfl, rfl⟩
 refine pur 2 rfl ?_
 refine Z2 rfl ?_ ?_ <;> intro hc14
 exact absurd hc14 (by simp)
 refine Z1 (sqt 18 rfl (spL rfl rfl (lhA (btl (bnB (bnL i)) ((bnB (bnL i)).sl ab cb)) ZD rfl rfl rfl) rfl ?_))
 refine cl rfl Z7h rfl rfl (Z2q (bnB (bnL i)) ab cb (by show (bnL i).length ≤ _; omega) rfl _ _) ?_
 rintro _ _ _ ⟨rfl, rfl, rfl⟩
 refine pur 4 rfl ?_
 refine Zh 335 rfl ?_ ?_ <;> intro g335
 try simp only [cS] at g335
 refine pur 3 rfl (sp rfl (PE.neqBool ub4 rfl rfl) rfl (pur 1 rfl ?_))
 refine Zh 340 rfl ?_ ?_ <;> intro g340
 exfalso
 rw [hs1] at g340
 by_cases q0 : 0 < i <;> by_cases q5 : i < 5 <;> simp_all <;> omega
 refine Z0o rfl rfl rfl rfl rfl (lhA (btl (thg i) ((thg i).sl (some ⟨ba, 0, none⟩) 3)) ZD rfl rfl rfl) rfl ?_
 refine clG rfl rfl rfl rfl Z7h rfl rfl (Z2q (thg i) (some ⟨ba, 0, none⟩) 3 (nl rfl) rfl _ _) ?_
 rintro _ _ _ ⟨rfl, rfl, rfl⟩
 refine pur 3 rfl ?_
 refine spG rfl rfl rfl rfl (PE.neqBool ub4 rfl rfl) rfl ?_
 refine pur 1 rfl ?_
 refine Z2 rfl ?_ ?_ <;> intro hc15
 exfalso
 rw [hs2] at hc15
 by_cases q4 : i < 4 <;> simp_all <;> omega
 refine Z1 (sqr 2 rfl (sp rfl (PE.add rfl rfl (by omega)) rfl (pur 1 rfl ?_)))
 exact Zn ⟨i + 1, by omega⟩ (fun w h => St.sub ((h.del b27).del b26))
 try simp only [cS] at g335
 refine pur 3 rfl (sp rfl (PE.neqBool ub4 rfl rfl) rfl (pur 1 rfl ?_))
 refine Zh 340 rfl ?_ ?_ <;> intro g340
 exfalso
 rw [hs1] at g340
 by_cases q0 : 0 < i <;> by_cases q5 : i < 5 <;> simp_all <;> omega
 refine Z0o rfl rfl rfl rfl rfl (lhA (btl (thg i) ((thg i).sl (some ⟨ba, 0, none⟩) 3)) ZD rfl rfl rfl) rfl ?_
 refine clG rfl rfl rfl rfl Z7h rfl rfl (Z2q (thg i) (some ⟨ba, 0, none⟩) 3 (nl rfl) rfl _ _) ?_
 rintro _ _ _ ⟨rfl, rfl, rfl⟩
 refine pur 3 rfl ?_
 refine spG rfl rfl rfl rfl (PE.neqBool ub4 rfl rfl) rfl ?_
 refine pur 1 rfl ?_
 refine Z2 rfl ?_ ?_ <;> intro hc15
 exfalso
 rw [hs2] at hc15
 by_cases q4 : i < 4 <;> simp_all <;> omega
 refine Z1 (sqr 2 rfl (sp rfl (PE.add rfl rfl (by omega)) rfl (pur 1 rfl ?_)))
 exact Zn ⟨i + 1, by omega⟩ (fun w h => St.sub ((h.del b27).del b26))
 refine Zb (Zf (Zf (ZB (sqt 2 rfl ?_))))
 refine clV rfl Z1d rfl rfl (Z02 _ _) ?_
 refine pur 1 rfl (Z4 ?_)
 exact rtA rfl rfl rfl ⟨rfl, rfl, rfl⟩ idH
end Go.Proofs.YtnifcjgnageniaaGreat
