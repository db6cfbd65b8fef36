/- Walks of the functions of the program, and the laws that join them: what the last theorem of this claim needs, in order. -/
import Derived.Test.YtjoajfdnlomapaaGreatPt5
namespace Go.Proofs.YtjoajfdnlomapaaGreat
set_option linter.unusedSimpArgs false
set_option linter.unusedVariables false
open Go
theorem ZfQ : Z0Z Tryz.prog 27 = some 3 := by kernel_rfl
theorem ZfY : Z0Z Tryz.prog 30 = some 3 := by kernel_rfl
theorem ZhJ : Z0Z Tryz.prog 31 = some 4 := by kernel_rfl
theorem Zcl : Z0Z Tryz.prog 41 = some 2 := by kernel_rfl
theorem Z17 : Z0Z Tryz.prog 71 = some 6 := by kernel_rfl
theorem ZcS : arN Tryz.prog 31 = some (4, 1) := by kernel_rfl
theorem Zho : cal Tryz.prog 10 = true := by kernel_rfl
theorem Zgm : cal Tryz.prog 14 = true := by kernel_rfl
theorem Zf6 : cal Tryz.prog 17 = true := by kernel_rfl
theorem ZdY : cal Tryz.prog 19 = true := by kernel_rfl
theorem ZgD : cal Tryz.prog 47 = true := by kernel_rfl
theorem Zi2 : cal Tryz.prog 5 = true := by kernel_rfl
theorem cn3 : ZN Tryz.prog 3 = some 1 := by kernel_rfl
theorem Zch : ZN Tryz.prog 41 = some 2 := by kernel_rfl
theorem Z3f : ZN Tryz.prog 71 = some 6 := by kernel_rfl
theorem ZM : elN Tryz.prog 47 = some 1 := by kernel_rfl
theorem ZdR : eqB Tryz.prog 10000 41 = some (true, 2) := by kernel_rfl
theorem ZdJ : Tryz.prog.eqGuardType Tryz.prog.depth 41 = false := by kernel_rfl
theorem Z3u : ZF Tryz.prog 41 0 = some 0 := by kernel_rfl
theorem Z3m : ZF Tryz.prog 41 1 = some 1 := by kernel_rfl
theorem ik3 : Z6S Tryz.prog 3 = some .i64 := by kernel_rfl
theorem Z0i : Z1W Tryz.prog 47 = true := by kernel_rfl
theorem Z7p : Z1W Tryz.prog 49 = true := by kernel_rfl
theorem Zds : ZJ Tryz.prog 128 = some [(0, 1), (1, 1), (2, 1)] := by kernel_rfl
theorem ZhQ : ZJ Tryz.prog 27 = some [(0, 1), (1, 1), (2, 1)] := by kernel_rfl
theorem ZhW : ZJ Tryz.prog 30 = some [(0, 1), (1, 1), (2, 1)] := by kernel_rfl
theorem Z6W : ZJ Tryz.prog 41 = some [(0, 1), (1, 1)] := by kernel_rfl
theorem Z5q : ZJ Tryz.prog 71 = some [(0, 1), (1, 1), (2, 1), (3, 1), (4, 1), (5, 1)] := by kernel_rfl
theorem ZcZ : ZJ Tryz.prog 86 = some [(0, 1), (1, 1), (2, 1)] := by kernel_rfl
theorem Zd2 : ZJ Tryz.prog 89 = some [(0, 1), (1, 2)] := by kernel_rfl
theorem Zgt : slE Tryz.prog 50 = some (86, 3) := by kernel_rfl
theorem Z7l : slE Tryz.prog 67 = some (89, 3) := by kernel_rfl
theorem ZfZ : slE Tryz.prog 69 = some (128, 3) := by kernel_rfl
theorem us5 : (Tryz.prog.underlying 5).isSome = true := by kernel_rfl
theorem Z6x : Zy Tryz.prog 128 = some ([.int .i64 0, .int .i64 0, .int .i64 0]) := by kernel_rfl
theorem ZhP : Zy Tryz.prog 27 = some ([.int .i64 0, .int .i64 0, .slice none 0 0]) := by kernel_rfl
theorem ZhH : Zy Tryz.prog 30 = some ([.int .i64 0, .int .i64 0, .slice none 0 0]) := by kernel_rfl
theorem Z5g : Zy Tryz.prog 41 = some ([.int .i64 0, .int .i64 0]) := by kernel_rfl
theorem Z1w : Zy Tryz.prog 71 = some ([.int .i64 0, .int .i64 0, .int .i64 0, .slice none 0 0, .slice none 0 0, .slice none 0 0]) := by kernel_rfl
theorem Z9c : Zy Tryz.prog 86 = some ([.int .i64 0, .int .i64 0, .int .i64 0]) := by kernel_rfl
theorem Z2p : Zy Tryz.prog 89 = some ([.int .i64 0, .int .i64 0, .int .i64 0]) := by kernel_rfl
namespace Lo
def thrL : Ldg := ⟨4, 3, [0], [], [⟨1, 0, 40⟩, ⟨1, 1, 15⟩, ⟨2, 0, 20⟩], [⟨1, 1, 50⟩, ⟨2, 1, 30⟩], [⟨2, 1, 11⟩, ⟨3, 2, 5⟩, ⟨0, 3, 7⟩]⟩
theorem thr_ok : thrL.ok := ZdZ (by decide)
theorem thr_owes : ZcL thrL 1 (ZcU thrL 1) = 11 := by decide
end Lo
def nw0 : Hn.Wt := ⟨6, 0, 1, [⟨0, 50, 50⟩, ⟨6, 40, 41⟩], [], [⟨0, 0, 3⟩]⟩
theorem ZfB : nw0.ok where
  hours := by decide
  allow := by decide
  hands := by decide
  nc := by decide
  nb := by decide
  ns := by decide
  cnt := by decide
  bks := by decide
  spl := by decide
  inc := fun i c d h1 h2 => by
    rcases i with _ | i
    · simp only [nw0, List.getElem?_cons_zero, Option.some.injEq] at h1 h2
      subst h1
      simp only [Nat.zero_add, List.getElem?_cons_succ, List.getElem?_cons_zero, Option.some.injEq] at h2
      subst h2; decide
    · simp [nw0] at h2
theorem Z8Z : nw0.clash = false := by decide
theorem Z9w : nw0.prv nw0.full = 9 := by decide
theorem Za0 (H : Z7) (R : Z5) :
    Fn Tryz.prog 47 [] H R (fun v H' R' => ∃ (b1 b5 b8 b12 : Nat), v = Lo.thrL.v (some ⟨b1, 0, none⟩) none (some ⟨b5, 0, none⟩) (some ⟨b8, 0, none⟩) (some ⟨b12, 0, none⟩) 1 0 3 2 3 ∧ H' = H ∧ R' = RowsA (some ⟨b1, 0, none⟩) 1 (Lo.irows Lo.thrL.bad) :: RowsA (some ⟨b5, 0, none⟩) 3 (Lo.lnrows Lo.thrL.loans) :: RowsA (some ⟨b8, 0, none⟩) 3 (Lo.lnrows Lo.thrL.pays) :: RowsA (some ⟨b12, 0, none⟩) 3 (Lo.pmrows Lo.thrL.proms) :: RowsA none 1 (Lo.irows Lo.thrL.forg) :: R) := by
 refine Z8 Tryz.func47 rfl Tryz.ntmps47 rfl ?_
 refine sqt 1 rfl (alc rfl ZgU rfl (fun b0 => sqt 14 rfl ?_))
 refine bsl (out := [_]) rfl Z2r zl3 rfl rfl rfl rfl rfl rfl (fun b1 => ?_)
 refine sp rfl (PE.build (out := [_, _, _]) Zb9 Z6J rfl rfl) rfl (sp rfl (PE.build (out := [_, _, _]) Zb9 Z6J rfl rfl) rfl (sp rfl (PE.build (out := [_, _, _]) Zb9 Z6J rfl rfl) rfl ?_))
 refine bsl (out := [_, _, _, _, _, _, _, _, _]) rfl ZhU Z6J rfl rfl rfl rfl rfl rfl (fun b5 => ?_)
 refine sp rfl (PE.build (out := [_, _, _]) ZhI ZeA rfl rfl) rfl (sp rfl (PE.build (out := [_, _, _]) ZhI ZeA rfl rfl) rfl ?_)
 refine bsl (out := [_, _, _, _, _, _]) rfl ZhN ZeA rfl rfl rfl rfl rfl rfl (fun b8 => ?_)
 refine sp rfl (PE.build (out := [_, _, _]) ZcZ Z9c rfl rfl) rfl (sp rfl (PE.build (out := [_, _, _]) ZcZ Z9c rfl rfl) rfl (sp rfl (PE.build (out := [_, _, _]) ZcZ Z9c rfl rfl) rfl ?_))
 refine bsl (out := [_, _, _, _, _, _, _, _, _]) rfl Zgt Z9c rfl rfl rfl rfl rfl rfl (fun b12 => ?_)
 refine sp rfl (PE.build (out := Lo.lgl Lo.thrL (some ⟨b1, 0, none⟩) none (some ⟨b5, 0, none⟩) (some ⟨b8, 0, none⟩) (some ⟨b12, 0, none⟩) 1 0 3 2 3) ZhY ZgU rfl rfl) rfl ?_
 refine Z01 (l' := Lo.lgl Lo.thrL (some ⟨b1, 0, none⟩) none (some ⟨b5, 0, none⟩) (some ⟨b8, 0, none⟩) (some ⟨b12, 0, none⟩) 1 0 3 2 3) rfl rfl rfl ZhD rfl rfl rfl rfl (nl rfl) ?_
 refine Z4 ?_
 exact Zu (vs := [_]) rfl (.cons (RV.cell rfl (lhA (Lo.lgl Lo.thrL (some ⟨b1, 0, none⟩) none (some ⟨b5, 0, none⟩) (some ⟨b8, 0, none⟩) (some ⟨b12, 0, none⟩) 1 0 3 2 3) Z46 rfl rfl rfl)) .nil) rfl ⟨b1, b5, b8, b12, rfl, rfl, rfl⟩ (fun w h =>
   St.rows (sz := 1) (rows := Lo.irows Lo.thrL.bad) (rest := []) (St.pull b1 (St.rows (sz := 3) (rows := Lo.lnrows Lo.thrL.loans) (rest := []) (St.pull b5 (St.rows (sz := 3) (rows := Lo.lnrows Lo.thrL.pays) (rest := []) (St.pull b8 (St.rows (sz := 3) (rows := Lo.pmrows Lo.thrL.proms) (rest := []) (St.pull b12 (St.also (f := RowsA none 1 (Lo.irows Lo.thrL.forg)) (h.del b0) (fun w9 _ => fun i row hi => by simp [Lo.irows, Lo.thrL] at hi))) (by decide))) (by decide))) (by decide))) (by decide))
theorem Z48 (H : Z7) (R : Z5) :
    FnV Tryz.prog 17 [] H R (.bool true) := by
 refine Z8 Tryz.func17 rfl Tryz.ntmps17 rfl ?_
 refine sqt 1 rfl (pur 1 rfl (sqt 7 rfl ?_))
 refine cl rfl ZgD rfl rfl (Za0 _ _) ?_
 rintro _ _ R1 ⟨q1, q5, q8, q12, rfl, rfl, hR1⟩
 subst hR1
 refine cl rfl Zgm rfl rfl (Lo.c_Owes Lo.thrL (some ⟨q1, 0, none⟩) none (some ⟨q5, 0, none⟩) (some ⟨q8, 0, none⟩) (some ⟨q12, 0, none⟩) 1 0 3 2 3 Lo.thr_ok 1 1 (by decide) (by decide) (by decide) _ _) ?_
 rintro _ _ R1 ⟨rfl, rfl, hR1⟩
 obtain rfl := hR1.symm
 clear hR1
 rw [Lo.thr_owes]
 refine Sy.heap (fun w h => h.ftail.ftail.ftail.ftail.ftail) ?_
 refine pur 5 rfl (sqt 9 rfl (sp rfl (PE.build (out := Gt.gtl ⟨5, 0, []⟩ (.slice none 0 0)) ZhQ ZhP rfl rfl) rfl (sp rfl (PE.build (out := Gt.ctl ⟨1200, 300, []⟩ (.slice none 0 0)) ZhW ZhH rfl rfl) rfl ?_)))
 refine Sy.heap (fun w h9 => St.also (St.also h9 (f := RowsA none 5 (Gt.grows [])) (fun w9 _ => fun i row hi => by simp [Gt.grows] at hi)) (f := RowsA none 5 (Gt.hrows [])) (fun w9 _ => fun i row hi => by simp [Gt.hrows] at hi)) ?_
 refine cl rfl Zho rfl rfl (Gt.c_Net ⟨5, 0, []⟩ none 0 (by decide) ⟨1200, 300, []⟩ none 0 (by decide) _ _) ?_
 rintro _ _ R1 ⟨rfl, rfl, hR1⟩
 obtain rfl := hR1.symm
 clear hR1
 rw [show Gt.netR ⟨5, 0, []⟩ ⟨1200, 300, []⟩ = .tuple #[Gt.spv 890 910, .int .i64 0] from by kernel_rfl]
 refine Sy.heap (fun w h => h.ftail.ftail) ?_
 refine pur 3 rfl (alc rfl Z5g rfl (fun b3 => ?_))
 refine Z01 (l' := [.int .i64 890, .int .i64 910]) rfl rfl rfl Zch rfl rfl rfl rfl (nl rfl) ?_
 refine pur 1 rfl (sqt 10 rfl (sp rfl (PE.build (out := [_, _]) Z6W Z5g rfl rfl) rfl (sp rfl (PE.build (out := [_, _, _]) Zd2 Z2p rfl rfl) rfl (sp rfl (PE.build (out := [_, _]) Z6W Z5g rfl rfl) rfl (sp rfl (PE.build (out := [_, _, _]) Zd2 Z2p rfl rfl) rfl ?_)))))
 refine bsl (out := [_, _, _, _, _, _]) rfl Z7l Z2p rfl rfl rfl rfl rfl rfl (fun b23 => ?_)
 refine sp rfl (PE.build (out := [_, _, _]) Zds Z6x rfl rfl) rfl ?_
 refine bsl (out := [_, _, _]) rfl ZfZ Z6x rfl rfl rfl rfl rfl rfl (fun b25 => ?_)
 refine sp rfl (PE.build (out := Hn.wtl nw0 (some ⟨b23, 0, none⟩) none (some ⟨b25, 0, none⟩) 2 0 1) Z5q Z1w rfl rfl) rfl (alc rfl Z1w rfl (fun b5 => ?_))
 refine Z01 (l' := Hn.wtl nw0 (some ⟨b23, 0, none⟩) none (some ⟨b25, 0, none⟩) 2 0 1) rfl rfl rfl Z3f rfl rfl rfl rfl (nl rfl) ?_
 refine sqt 7 rfl ?_
 refine Sy.heap (fun w h => St.rows (sz := 3) (rows := Hn.crows nw0.counts) (rest := []) (St.pull b23 (St.rows (sz := 3) (rows := Hn.sprows nw0.spells) (rest := []) (St.pull b25 (St.also h (f := RowsA none 2 (Hn.bkrows nw0.books)) (fun w9 _ => fun i row hi => by simp [nw0, Hn.bkrows] at hi))) (by decide))) (by decide)) ?_
 refine spL rfl rfl (lhA (Hn.wtl nw0 (some ⟨b23, 0, none⟩) none (some ⟨b25, 0, none⟩) 2 0 1) Z17 rfl rfl rfl) rfl ?_
 refine cl rfl ZdY rfl rfl (Hn.c_Missing nw0 (some ⟨b23, 0, none⟩) none (some ⟨b25, 0, none⟩) 2 0 1 ZfB Z8Z _ _) ?_
 rintro _ _ R1 ⟨rfl, rfl, hR1⟩
 obtain rfl := hR1.symm
 clear hR1
 rw [Z9w]
 refine pur 5 rfl (sqt 24 rfl (pur 3 rfl ?_))
 refine Zk 34 rfl ?_ ?_ <;> intro g34
 refine pur 4 rfl ?_
 refine Zk 38 rfl ?_ ?_ <;> intro g38
 refine pur 4 rfl ?_
 refine Zk 42 rfl ?_ ?_ <;> intro g42
 refine pur 4 rfl ?_
 refine Zk 46 rfl ?_ ?_ <;> intro g46
 refine Z0f rfl rfl rfl rfl rfl (lhA [_, _] Zcl rfl rfl rfl) rfl ?_
 refine spG rfl rfl rfl rfl (PE.build (out := [_, _]) Z6W Z5g rfl rfl) rfl ?_
 refine spG rfl rfl rfl rfl (PE.eqlAgg [890, 910] [890, 910] (Z1B 10000 41 true 2 ZdR) ZdJ rfl rfl rfl rfl) rfl ?_
 refine pur 2 rfl ?_
 refine Zk 51 rfl ?_ ?_ <;> intro g51
 refine pur 4 rfl (Z4 ?_)
 exact rtA rfl rfl rfl ⟨rfl, rfl, rfl⟩ (fun w h => (h.del b5).del b3 |>.ftail.ftail.ftail)
 exact absurd g51 (by simp)
 exact absurd g46 (by simp)
 exact absurd g42 (by simp)
 exact absurd g38 (by simp)
 exact absurd g34 (by simp)
theorem Z4X : Z0Z Tryz.prog 131 = some 2 := by kernel_rfl
theorem Z5S : apT Tryz.prog 67 = some (89, 3, 24) := by kernel_rfl
theorem ZgC : apT Tryz.prog 68 = some (131, 2, 16) := by kernel_rfl
theorem Zga : apT Tryz.prog 69 = some (128, 3, 24) := by kernel_rfl
theorem Z9j : cal Tryz.prog 22 = true := by kernel_rfl
theorem Zgu : cal Tryz.prog 48 = true := by kernel_rfl
theorem Z8V : cal Tryz.prog 49 = true := by kernel_rfl
theorem Zcc : cal Tryz.prog 50 = true := by kernel_rfl
theorem Z7k : ZN Tryz.prog 131 = some 2 := by kernel_rfl
theorem Zg1 : ZN Tryz.prog 67 = some 1 := by kernel_rfl
theorem Zih : ZN Tryz.prog 68 = some 1 := by kernel_rfl
theorem Zik : ZN Tryz.prog 69 = some 1 := by kernel_rfl
theorem ZcT : elN Tryz.prog 68 = some 2 := by kernel_rfl
theorem Z43 : ZF Tryz.prog 128 0 = some 0 := by kernel_rfl
theorem Z2I : ZF Tryz.prog 128 1 = some 1 := by kernel_rfl
theorem Z37 : ZF Tryz.prog 128 2 = some 2 := by kernel_rfl
theorem Z0C : ZF Tryz.prog 131 0 = some 0 := by kernel_rfl
theorem Z0X : ZF Tryz.prog 131 1 = some 1 := by kernel_rfl
theorem Z1E : ZF Tryz.prog 71 0 = some 0 := by kernel_rfl
theorem Z32 : ZF Tryz.prog 71 1 = some 1 := by kernel_rfl
theorem ZW : ZF Tryz.prog 71 2 = some 2 := by kernel_rfl
theorem Zv : ZF Tryz.prog 71 3 = some 3 := by kernel_rfl
theorem Z1g : ZF Tryz.prog 71 4 = some 4 := by kernel_rfl
theorem Z0O : ZF Tryz.prog 71 5 = some 5 := by kernel_rfl
theorem Z4E : Z1W Tryz.prog 68 = true := by kernel_rfl
theorem ZgX : ZJ Tryz.prog 131 = some [(0, 1), (1, 1)] := by kernel_rfl
theorem ZV : Z07 Tryz.prog 67 = true := by kernel_rfl
theorem Z5o : Z07 Tryz.prog 68 = true := by kernel_rfl
theorem Z1P : Z07 Tryz.prog 69 = true := by kernel_rfl
theorem Zg0 : slE Tryz.prog 68 = some (131, 2) := by kernel_rfl
theorem Z50 : Zy Tryz.prog 131 = some ([.int .i64 0, .int .i64 0]) := by kernel_rfl
theorem ZfU : Zy Tryz.prog 47 = some ([.slice none 0 0]) := by kernel_rfl
namespace Hn
theorem spr_len (l : List Spl) : (sprows l).length = l.length := List.length_map _
theorem bkr_len (l : List Bkg) : (bkrows l).length = l.length := List.length_map _
theorem irl_len (l : List Int) : (irows l).length = l.length := List.length_map _
theorem ir_nn {l : List Int} {k : Nat} (h : k < l.length) : (irows l)[k]? = some [.int .i64 (nn l k)] := by rw [nn_at h]; simp [irows, h]
theorem irows_one (l : List Int) : ∀ r ∈ irows l, r.length = 1 := fun r hr => by
  obtain ⟨z, _, rfl⟩ := List.mem_map.1 hr; rfl
def thereH (hrs : List Int) (i h : Nat) (x : Spl) : Bool := (decide (x.hand = (h : Int)) && decide (x.fr < nn hrs i)) && decide (nn hrs (i - 1) < x.to)
structure SplI (x25 n30 : Int) (l : List Spl) (k : Nat) : Prop where
  len : l.length = k
  all : ∀ s ∈ l, (0 ≤ s.fr ∧ s.fr ≤ x25) ∧ (0 ≤ s.to ∧ s.to ≤ x25) ∧ (0 ≤ s.hand ∧ s.hand ≤ n30 - 1) ∧ s.fr < s.to
theorem SplI.snoc {x25 n30 : Int} {l : List Spl} {k : Nat} (h : SplI x25 n30 l k) {s : Spl} (hrs : (0 ≤ s.fr ∧ s.fr ≤ x25) ∧ (0 ≤ s.to ∧ s.to ≤ x25) ∧ (0 ≤ s.hand ∧ s.hand ≤ n30 - 1) ∧ s.fr < s.to) : SplI x25 n30 (l ++ [s]) (k + 1) := ⟨by simp [h.len], fun y hy => by
  rcases List.mem_append.1 hy with h1 | h1
  · exact h.all y h1
  · rw [List.mem_singleton.1 h1]; exact hrs⟩
structure HrI (x25 : Int) (l : List Int) (k : Nat) : Prop where
  le : l.length ≤ k ∧ (1 ≤ k → 1 ≤ l.length)
  nd : l.Nodup
  all : ∀ z ∈ l, 0 ≤ z ∧ z ≤ x25
theorem HrI.same {x25 : Int} {l : List Int} {k : Nat} (h : HrI x25 l k) {z : Int} (hz : (!(l.any fun x => decide (z = x))) = false) : HrI x25 l (k + 1) := ⟨⟨by have := h.le.1; omega, fun _ => by
  cases l with
  | nil => simp at hz
  | cons a b => simp⟩, h.nd, h.all⟩
theorem HrI.snoc {x25 : Int} {l : List Int} {k : Nat} (h : HrI x25 l k) {z : Int} (hz : (!(l.any fun x => decide (z = x))) = true) (hb : 0 ≤ z ∧ z ≤ x25) : HrI x25 (l ++ [z]) (k + 1) := by
  refine ⟨⟨by have := h.le.1; simp; omega, fun _ => by simp⟩, ?_, fun y hy => ?_⟩
  · rw [List.nodup_append]
    refine ⟨h.nd, by simp, fun a ha b hb e => ?_⟩
    rw [List.mem_singleton.1 hb] at e
    subst e
    have : (l.any fun x => decide (a = x)) = true := List.any_eq_true.2 ⟨a, ha, by simp⟩
    rw [this] at hz; cases hz
  · rcases List.mem_append.1 hy with h1 | h1
    · exact h.all y h1
    · rw [List.mem_singleton.1 h1]; exact hb
structure BkI (x25 : Int) (l : List Bkg) (k : Nat) : Prop where
  le : l.length ≤ k
  all : ∀ b ∈ l, (0 ≤ b.hour ∧ b.hour ≤ x25) ∧ (-20 ≤ b.sacks ∧ b.sacks ≤ 20) ∧ b.sacks ≠ 0
theorem BkI.same {x25 : Int} {l : List Bkg} {k : Nat} (h : BkI x25 l k) : BkI x25 l (k + 1) := ⟨by have := h.le; omega, h.all⟩
theorem BkI.snoc {x25 : Int} {l : List Bkg} {k : Nat} (h : BkI x25 l k) {s : Bkg} (hrs : (0 ≤ s.hour ∧ s.hour ≤ x25) ∧ (-20 ≤ s.sacks ∧ s.sacks ≤ 20) ∧ s.sacks ≠ 0) : BkI x25 (l ++ [s]) (k + 1) := ⟨by have := h.le; simp; omega, fun y hy => by
  rcases List.mem_append.1 hy with h1 | h1
  · exact h.all y h1
  · rw [List.mem_singleton.1 h1]; exact hrs⟩
structure CntI (hrs : List Int) (cs : List Cnt) (i : Nat) : Prop where
  len : cs.length = i
  all : ∀ (j : Nat) (c : Cnt), cs[j]? = some c → c.hour = nn hrs j ∧ (0 ≤ c.lo ∧ c.lo ≤ 500) ∧ (0 ≤ c.hi ∧ c.hi ≤ 500) ∧ c.lo ≤ c.hi
theorem CntI.snoc {hrs : List Int} {cs : List Cnt} {i : Nat} (h : CntI hrs cs i) {lo hi : Int} (hb : (0 ≤ lo ∧ lo ≤ 500) ∧ (0 ≤ hi ∧ hi ≤ 500) ∧ lo ≤ hi) : CntI hrs (cs ++ [⟨nn hrs i, lo, hi⟩]) (i + 1) := ⟨by simp [h.len], fun j c hj => by
  have hl := h.len
  rcases Nat.lt_or_ge j cs.length with h1 | h1
  · rw [List.getElem?_append_left h1] at hj; exact h.all j c hj
  · rw [List.getElem?_append_right h1] at hj
    obtain ⟨h2, h3⟩ := List.getElem?_eq_some_iff.1 hj
    rw [List.length_singleton] at h2
    obtain rfl : j = i := by omega
    have h4 : c = ⟨nn hrs j, lo, hi⟩ := by rw [← h3]; simp
    subst h4
    exact ⟨rfl, hb⟩⟩
theorem mdw_ok {x25 x27 : Int} {n30 n33 n81 : Nat} {cs : List Cnt} {bks : List Bkg} {sps : List Spl} {hrs : List Int} (h1 : 12 ≤ x25 ∧ x25 ≤ 60) (h2 : 0 ≤ x27 ∧ x27 ≤ 3) (h3 : 1 ≤ n30 ∧ n30 ≤ 6) (hc : CntI hrs cs hrs.length) (h7 : 1 ≤ hrs.length ∧ hrs.length ≤ 7) (hr : Ris hrs) (hb : ∀ z ∈ hrs, 0 ≤ z ∧ z ≤ x25) (hbk : BkI x25 bks n81) (h5 : n81 ≤ 5) (hsp : SplI x25 n30 sps n33) (h12 : n33 ≤ 12) : Wt.ok ⟨x25, x27, n30, cs, bks, sps⟩ where
  hours := by show 1 ≤ x25 ∧ x25 ≤ 60; omega
  allow := by show 0 ≤ x27 ∧ x27 ≤ 20; omega
  hands := by show 1 ≤ (n30 : Int) ∧ (n30 : Int) ≤ 6; omega
  nc := by have := hc.len; show 1 ≤ cs.length ∧ cs.length ≤ 8; omega
  nb := by have := hbk.le; show bks.length ≤ 10; omega
  ns := by have := hsp.len; show sps.length ≤ 12; omega
  cnt := fun c hcm => by
    obtain ⟨j, hj, he⟩ := List.mem_iff_getElem.1 hcm
    have hj2 : j < hrs.length := by have := hc.len; simp only at hj; omega
    obtain ⟨e1, e2⟩ := hc.all j c (by rw [List.getElem?_eq_getElem hj]; exact congrArg some he)
    have e3 := hb (nn hrs j) (by rw [nn_at hj2]; exact List.getElem_mem hj2)
    rw [← e1] at e3
    exact ⟨e3, e2⟩
  bks := fun b hbm => by have := hbk.all b hbm; exact ⟨this.1, by omega, this.2.2⟩
  spl := hsp.all
  inc := fun i c d hi hd => by
    have e1 := (hc.all i c hi).1
    have e2 := (hc.all (i + 1) d hd).1
    have hl : i + 1 < cs.length := (List.getElem?_eq_some_iff.1 hd).1
    have := hr i (by rw [hc.len] at hl; exact hl)
    rw [e1, e2]; exact this
def SKo (l : List Int) (b cap : Nat) (junk : List Value) (h : l.length + junk.length = cap ∧ cap ≤ 9223372036854775807) : OSl 3 1 (irows l) := ⟨.slice (some ⟨b, 0, none⟩) l.length cap, [(b, cel 3 (Zh l ++ junk))], irows_one l, .inr ⟨b, cap, junk, by rw [irl_len], by rw [irows_flat'], by rw [irl_len]; omega, by rw [irl_len]; omega, h.2⟩⟩
theorem OSl.own2 {l : List Int} {v : Int} (o : OSl 3 1 (irows l ++ [[.int .i64 v]])) (ho : o.here) : ∃ b cap junk, o.fs = .slice (some ⟨b, 0, none⟩) (l ++ [v]).length cap ∧ o.G = [(b, cel 3 (Zh (l ++ [v]) ++ junk))] ∧ (l ++ [v]).length + junk.length = cap ∧ cap ≤ 9223372036854775807 := by
  have e : irows l ++ [[Value.int .i64 v]] = irows (l ++ [v]) := by simp [irows]
  rcases o.is with ⟨h1, _⟩ | ⟨b, cap, junk, h1, h2, h3, h4, h5⟩
  · simp at h1
  · have hl : (irows l ++ [[Value.int .i64 v]]).length = (l ++ [v]).length := by simp [irows]
    have hf : (irows l ++ [[Value.int .i64 v]]).flatten = Zh (l ++ [v]) := by rw [e, irows_flat']
    rw [hl] at h1 h3
    rw [hf] at h2
    exact ⟨b, cap, junk, h1, h2, by omega, h5⟩
theorem TI.tkb {al : Int} {bs : List Bkg} {sp : List Spl} {cs : List Cnt} {p y v : Int} {tkn : List Int} (h : TI al bs sp cs p y v tkn) (d : Nat) (hd : d < tkn.length) : 0 ≤ nn tkn d ∧ nn tkn d ≤ 500 := by
  obtain ⟨K, Z, es, h⟩ := h
  have h1 := h.tk d hd
  have h2 := h.up y; have h3 := h.dn y; have h4 := h.z0 y
  have h5 : 0 ≤ eH es d ∧ eH es d ≤ eT es := by
    have := fun e he => (h.ev e he).1
    clear h1 h2 h3 h4
    generalize hz : es = es' at this ⊢
    clear hz h
    induction es' with
    | nil => simp [eH, eT]
    | cons e es ih =>
      have h1 := ih (fun c hc => this c (by simp [hc]))
      have h2 := this e (by simp)
      unfold eH eT at h1 ⊢
      simp only [List.map_cons, List.sum_cons]
      split <;> omega
  have h6 : nn tkn d = na0 tkn d := rfl
  omega
structure MI (al : Int) (bs : List Bkg) (sp : List Spl) (hrs : List Int) (n : Nat) (tq0 : Int) (i cap : Nat) (cs : List Cnt) (l tkn : List Int) (junk : List Value) (tq mx : Int) : Prop where
  hi : i ≤ hrs.length
  ll : l.length = max 1 i
  tl : tkn.length = n
  ti : TI al bs sp cs (nn hrs (i - 1)) (nn hrs (i - 1)) (nn l (i - 1)) tkn
  ch : CntI hrs cs i
  jk : l.length + junk.length = cap ∧ cap ≤ 9223372036854775807
  tq : tq0 ≤ tq ∧ tq ≤ tq0 + 60 + 15 * i
  mx : 0 ≤ mx ∧ mx ≤ 4294967295
structure MJ (al : Int) (bs : List Bkg) (sp : List Spl) (hrs : List Int) (n : Nat) (tq0 : Int) (i : Nat) (cs : List Cnt) (cap : Nat) (l tkn : List Int) (junk : List Value) (tq mx : Int) : Prop where
  ll : l.length = i + 1
  tl : tkn.length = n
  ti : ∃ p, TI al bs sp cs p (nn hrs i) (nn l i) tkn
  jk : l.length + junk.length = cap ∧ cap ≤ 9223372036854775807
  tq : tq0 ≤ tq ∧ tq ≤ tq0 + 60 + 15 * i + 13
  mx : 0 ≤ mx ∧ mx ≤ 4294967295
theorem nn_last {l : List Int} {v : Int} {i : Nat} (h : l.length = i) : nn (l ++ [v]) i = v := by subst h; simp [nn]
end Hn
theorem Z3y (hrs : List Int) (bh oh ch i : Nat) (hi : 1 ≤ i ∧ i < hrs.length) (hl : hrs.length ≤ 1000) (x : Hn.Spl) (hd q20 q11 q16 : Nat) (H : Z7) (R : Z5) [m1 : Mem1 q20 (cel 3 [.int .i64 (hd : Nat)]) H] [m2 : Mem1 q11 (cel 47 [.slice (some ⟨bh, oh, none⟩) hrs.length ch]) H] [m3 : Mem1 q16 (cel 3 [.int .i64 (i : Nat)]) H] [hR : MemRows (some ⟨bh, oh, none⟩) 1 (Hn.irows hrs) R] :
    FnV Tryz.prog 50 [.agg (Hn.sprow x).toArray, .pointer (some ⟨q20, 0, none⟩), .pointer (some ⟨q11, 0, none⟩), .pointer (some ⟨q16, 0, none⟩)] H R (.bool (Hn.thereH hrs i hd x)) := by
 refine Z8 Tryz.func50 rfl Tryz.ntmps50 rfl ?_
 refine sqt 2 rfl (bx rfl rfl rfl (fun b4 => pur 1 rfl (Z0 ?_)))
 refine Zc [0, 1, 0, 7, 15, 31, 63, 31, 31, 415, 927, 2047, 4095, 8191, 16383, 32767, 16383, 16383, 147455, 475135, 999423, 2097151, 4194303, 8388607] (.tk 0 (.ld 1 (.ld 2 (tks 3 3 (.ld 6 (.ld 7 (.ld 8 (.tk 9 (.ld 10 (tks 11 4 (.ld 15 (.ld 16 (.ld 17 (.tk 18 (.tk 19 (.ld 20 (tks 21 3 .done))))))))))))))))) Zo (by kernel_rfl) ?_
 refine tk rfl (PE.fA Z43 rfl) rfl (ld rfl rfl (lh sc3 rfl rfl) rfl (ld rfl rfl (lh sc3 rfl rfl) rfl (Zd 2 rfl ?_)))
 refine Zk 10 rfl ?_ ?_ <;> intro g10
 refine tkG rfl rfl rfl rfl (PE.fA Z2I rfl) rfl ?_
 refine ldG rfl rfl rfl rfl rfl (lh sc3 rfl rfl) rfl (ldG rfl rfl rfl rfl rfl (lh Z0G rfl rfl) rfl (ldG rfl rfl rfl rfl rfl (lh sc3 rfl rfl) rfl ?_))
 refine tkG rfl rfl rfl rfl (PE.indexAddr ZM rfl rfl (by omega) (by omega)) rfl ?_
 refine ldG rfl rfl rfl rfl rfl (lf0 (x := .int .i64 (Hn.nn hrs i)) sc3 (Hn.ir_nn (by omega)) rfl) rfl (Zd 3 rfl ?_)
 refine Zk 19 rfl ?_ ?_ <;> intro g19
 refine tkG rfl rfl rfl rfl (PE.fA Z37 rfl) rfl ?_
 refine ldG rfl rfl rfl rfl rfl (lh sc3 rfl rfl) rfl (ldG rfl rfl rfl rfl rfl (lh Z0G rfl rfl) rfl (ldG rfl rfl rfl rfl rfl (lh sc3 rfl rfl) rfl ?_))
 refine tkG rfl rfl rfl rfl (PE.sub rfl rfl (by omega)) rfl ?_
 rw [show (i : Int) - 1 = ((i - 1 : Nat) : Int) from by omega]
 refine tkG rfl rfl rfl rfl (PE.indexAddr ZM rfl rfl (by omega) (by omega)) rfl ?_
 refine ldG rfl rfl rfl rfl rfl (lf0 (x := .int .i64 (Hn.nn hrs (i - 1))) sc3 (Hn.ir_nn (by omega)) rfl) rfl (Zd 3 rfl (Z4 ?_))
 exact rtA rfl rfl rfl ⟨by simp only [ZA, Hn.thereH]; first | (rw [g10, g19]; rfl) | (rw [g10]; rfl), rfl, rfl⟩ drp
 refine Zd 1 rfl ?_
 repeat refine ldN rfl rfl rfl rfl rfl rfl rfl rfl ?_
 refine Zd 2 rfl ?_
 refine ldN rfl rfl rfl rfl rfl rfl rfl rfl ?_
 refine Zd 3 rfl (Z4 ?_)
 exact rtA rfl rfl rfl ⟨by simp only [ZA, Hn.thereH]; first | (rw [g10, g19]; rfl) | (rw [g10]; rfl), rfl, rfl⟩ drp
 refine Zd 1 rfl ?_
 repeat refine ldN rfl rfl rfl rfl rfl rfl rfl rfl ?_
 refine Zd 1 rfl ?_
 refine ldN rfl rfl rfl rfl rfl rfl rfl rfl ?_
 refine Zd 4 rfl ?_
 repeat refine ldN rfl rfl rfl rfl rfl rfl rfl rfl ?_
 refine Zd 2 rfl ?_
 refine ldN rfl rfl rfl rfl rfl rfl rfl rfl ?_
 refine Zd 3 rfl (Z4 ?_)
 exact rtA rfl rfl rfl ⟨by simp only [ZA, Hn.thereH]; first | (rw [g10, g19]; rfl) | (rw [g10]; rfl), rfl, rfl⟩ drp
set_option maxHeartbeats 800000 in
theorem Zbl (l0 : List Int) (a0 : Option Addr) (c0 bk : Nat) (hl0 : l0.length ≤ 9223372036854775807) (tq mx : Int) (htq : 0 ≤ tq ∧ tq ≤ 1000000) (hmx : 0 ≤ mx ∧ mx ≤ 4294967295) (H : Z7) (R : Z5) [hG : MemRows a0 1 (Gt.urows l0) R] :
    Fn Tryz.prog 18 [.pointer (some ⟨bk, 0, none⟩), .int .i64 7, .int .i64 6] ((bk, cel 96 [.slice a0 l0.length c0, .int .i64 (tq), .int .u32 (mx)]) :: H) R (fun v H' R' => ∃ (wt : Hn.Wt) (a1 a2 a3 : Option Addr) (k1 k2 k3 b4 b5 k4 : Nat) (ss tkn : List Int) (Kt : Int) (Zt : Int → Int) (es : List Hn.Ev) (tq' mx' : Int), wt.ok ∧ (wt.counts.length ≤ 7 ∧ wt.counts.length ≤ k1) ∧ (ss.length = wt.counts.length ∧ (tkn.length : Int) = wt.hands) ∧ Hn.Tru wt Kt Zt es ∧ (∀ d : Nat, d < tkn.length → Hn.nn tkn d = Hn.eH es d ∧ 0 ≤ Hn.nn tkn d ∧ Hn.nn tkn d ≤ 500) ∧
      v = .tuple #[wt.v a1 a2 a3 k1 k2 k3, .slice (some ⟨b4, 0, none⟩) ss.length k4, .slice (some ⟨b5, 0, none⟩) tkn.length tkn.length] ∧ (tq ≤ tq' ∧ tq' ≤ tq + 200) ∧ (0 ≤ mx' ∧ mx' ≤ 4294967295) ∧
      H' = (bk, cel 96 [.slice a0 l0.length c0, .int .i64 (tq'), .int .u32 (mx')]) :: H ∧ R' = RowsA (some ⟨b5, 0, none⟩) 1 (Hn.irows tkn) :: RowsA a1 3 (Hn.crows wt.counts) :: RowsA a2 2 (Hn.bkrows wt.books) :: RowsA a3 3 (Hn.sprows wt.spells) :: R) := by
 refine Z8 Tryz.func18 rfl Tryz.ntmps18 rfl ?_
 refine sqt 3 rfl (alc rfl Z1w rfl (fun b6 => pur 2 rfl (sqt 10 rfl ?_)))
 refine Z0K bk ?_
 refine pur 1 rfl ?_
 refine cl rfl Z2Z rfl rfl (Gt.c_Among l0 a0 c0 bk hl0 _ _ (by omega) (by assumption) (12) (60) (by first | omega | (dsimp only; omega)) _ _) ?_
 rintro _ _ R1 ⟨x25, m25, hx25, rfl, hm25, rfl, hR1⟩
 obtain rfl := hR1.symm
 clear hR1
 refine pur 1 rfl ?_
 refine cl rfl Z0E rfl rfl (Gt.c_Below l0 a0 c0 bk hl0 _ _ (by omega) (by assumption) (4) _ _) ?_
 rintro _ _ R1 ⟨x27, m27, hx27, rfl, hm27, rfl, hR1⟩
 obtain rfl := hR1.symm
 clear hR1
 refine pur 2 rfl ?_
 refine cl rfl Z2Z rfl rfl (Gt.c_Among l0 a0 c0 bk hl0 _ _ (by omega) (by assumption) (1) (6) (by first | omega | (dsimp only; omega)) _ _) ?_
 rintro _ _ R1 ⟨x30, m30, hx30, rfl, hm30, rfl, hR1⟩
 obtain rfl := hR1.symm
 clear hR1
 obtain ⟨n30, rfl⟩ : ∃ n : Nat, x30 = n := ⟨x30.toNat, by omega⟩
 refine sp rfl (PE.build (out := [.int .i64 x25, .int .i64 x27, .int .i64 (n30 : Nat), .slice none 0 0, .slice none 0 0, .slice none 0 0]) Z5q Z1w rfl rfl) rfl (alc rfl Z1w rfl (fun b9 => ?_))
 refine sto rfl rfl rfl Z3f rfl rfl rfl rfl ?_
 refine Z0 (sqt 3 rfl ?_)
 refine Z0K bk ?_
 refine pur 1 rfl ?_
 refine cl rfl Z0E rfl rfl (Gt.c_Below l0 a0 c0 bk hl0 _ _ (by omega) (by assumption) (13) _ _) ?_
 rintro _ _ R1 ⟨x33, m33, hx33, rfl, hm33, rfl, hR1⟩
 obtain rfl := hR1.symm
 clear hR1
 refine pur 1 rfl (Z2 ?_)
 obtain ⟨n33, rfl⟩ : ∃ n : Nat, x33 = n := ⟨x33.toNat, by omega⟩
 refine Zb (ι := (x : {x : Nat × List Hn.Spl × Int × Int // x.1 ≤ n33 ∧ Hn.SplI x25 n30 x.2.1 x.1 ∧ (tq ≤ x.2.2.1 ∧ x.2.2.1 ≤ tq + 4 + 3 * x.1) ∧ (0 ≤ x.2.2.2 ∧ x.2.2.2 ≤ 4294967295)}) × OSl 128 3 (Hn.sprows x.1.2.1)) (fun x => ⟨[(0, .pointer (some ⟨bk, 0, none⟩)), (1, .int .i64 7), (6, .pointer (some ⟨b6, 0, none⟩)), (9, .pointer (some ⟨b9, 0, none⟩)), (33, .int .i64 n33), (34, .int .i64 x.1.1.1)],
   (bk, cel 96 [.slice a0 l0.length c0, .int .i64 (x.1.1.2.2.1), .int .u32 (x.1.1.2.2.2)]) :: (x.2.G ++ (b9, cel 71 [.int .i64 x25, .int .i64 x27, .int .i64 (n30 : Nat), .slice none 0 0, .slice none 0 0, x.2.fs]) :: (b6, cel 71 [.int .i64 0, .int .i64 0, .int .i64 0, .slice none 0 0, .slice none 0 0, .slice none 0 0]) :: H), R⟩) (fun x => n33 - x.1.1.1) ⟨⟨(0, [], tq + 1 + 1 + 1 + 1, m33), by omega, ⟨rfl, by simp⟩, by dsimp only; omega, by assumption⟩, OSl.nil _ _⟩ ?_ (fun x => ?_)
 exact Zf idH
 obtain ⟨⟨⟨k, sps, tq2, mx2⟩, hk, hsp, htq2, hmx2⟩, o1⟩ := x
 dsimp only at hk hsp htq2 hmx2 o1 ⊢
 have hsl := hsp.len
 refine sqt 1 rfl (pur 1 rfl (Z0 ?_))
 refine Z1 rfl ?_ ?_ <;> intro hc0 <;> try simp only [cS] at hc0
 refine Z3 (Z0 (Z2 (sqt 5 rfl (pur 1 rfl (sp rfl (PE.fA Z1E rfl) rfl (spL rfl rfl (lh sc3 rfl rfl) rfl ?_))))))
 refine cl rfl Z0E rfl rfl (Gt.c_Below l0 a0 c0 bk hl0 _ _ (by omega) (by assumption) (x25) _ _) ?_
 rintro _ _ R1 ⟨x39, m39, hx39, rfl, hm39, rfl, hR1⟩
 obtain rfl := hR1.symm
 clear hR1
 refine pur 1 rfl ?_
 refine Zc [0, 1, 0, 0, 8, 28, 0, 0, 128, 0, 0, 1084, 3644, 8124, 16380, 32764, 65535, 131071, 262143] (.tk 0 (.ld 1 (.tk 2 (.tk 3 (.ld 4 (.tk 6 (.tk 7 (.ld 8 (.tk 9 (.tk 10 (.big 5 (.big 11 (tks 12 3 (.big 15 (.big 16 (.tk 17 (.big 18 .done))))))))))))))))) Zo (by kernel_rfl) ?_
 refine tk rfl (PE.fA Z0O rfl) rfl (ld rfl rfl (lh Z1P rfl rfl) rfl (Zd 1 rfl (tk rfl (PE.fA ZW rfl) rfl (ld rfl rfl (lh sc3 rfl rfl) rfl (Zd 1 rfl (tk rfl (PE.fA Z1E rfl) rfl (ld rfl rfl (lh sc3 rfl rfl) rfl (Zd 2 rfl ?_))))))))
 refine cl rfl Z0E rfl rfl (Gt.c_Below l0 a0 c0 bk hl0 _ _ (by omega) (by assumption) (n30) _ _) ?_
 rintro _ _ R1 ⟨x45, m45, hx45, rfl, hm45, rfl, hR1⟩
 obtain rfl := hR1.symm
 clear hR1
 refine bg (fun w hs => ⟨(lh sc3 rfl rfl) w hs, trivial, (lh Z1P rfl rfl) w hs, trivial⟩) ?_
 refine cl rfl Z2Z rfl rfl (Gt.c_Among l0 a0 c0 bk hl0 _ _ (by omega) (by assumption) (1) (12) (by first | omega | (dsimp only; omega)) _ _) ?_
 rintro _ _ R1 ⟨x51, m51, hx51, rfl, hm51, rfl, hR1⟩
 obtain rfl := hR1.symm
 clear hR1
 refine bg (fun w hs => ⟨(lh sc3 rfl rfl) w hs, (lh Z1P rfl rfl) w hs, trivial⟩) ?_
 refine tk rfl (PE.add rfl rfl (by omega)) rfl (tk rfl (PE.min rfl rfl) rfl (tk rfl (PE.build (out := [_, _, _]) Zds Z6x rfl rfl) rfl ?_))
 refine bsl (out := [_, _, _]) rfl ZfZ Z6x rfl rfl rfl rfl rfl rfl (fun b55 => ?_)
 refine bg (fun w hs => ⟨trivial, (lh Z1P rfl rfl) w hs, trivial⟩) ?_
 refine apO (o1) rfl Zga rfl rfl (Z1e (row := Hn.sprow ⟨x45, x39, min x25 (x39 + x51)⟩) rfl) rfl rfl ((by rw [Hn.spr_len]; simp only [List.length_singleton]; omega)) rfl (fun o56 => ?_)
 refine bgT (tk rfl (PE.fA Z0O rfl) rfl ?_)
 refine Z01 (l' := [.int .i64 x25, .int .i64 x27, .int .i64 (n30 : Nat), .slice none 0 0, .slice none 0 0, o56.fs]) rfl rfl rfl Zik rfl (by rw [o56.cells.1]; first | done | rfl) (by rw [o56.cells.1]; simp [o56.cells.2]) (by rw [o56.cells.1]; first | done | rfl) (by rw [o56.cells.1]; first | done | exact Nat.le_of_ble_eq_true rfl) ?_
 have hsp2 := hsp.snoc (s := ⟨x45, x39, min x25 (x39 + x51)⟩) (by dsimp only; omega)
 refine bgT (sqr 2 rfl (sp rfl (PE.add rfl rfl (by omega)) rfl (pur 1 rfl ?_)))
 exact Z6 ⟨⟨(k + 1, sps ++ [⟨x45, x39, min x25 (x39 + x51)⟩], tq2 + 1 + 1 + 1, m51), by omega, hsp2, by dsimp only; omega, by assumption⟩, o56.cast (by simp [Hn.sprows])⟩ (fun w h => h.del b55)
 obtain rfl : k = n33 := by omega
 obtain ⟨a3, k3, he3, hf3⟩ := o1.freeze
 rw [he3, Hn.spr_len]
 refine Sy.heap (fun w h => hf3 (h.pullG o1.G)) ?_
 simp only [List.nil_append]
 refine Z9 (Za (Za (Zl (sqt 1 rfl (alc rfl ZfU rfl (fun b11 => Z0 (sqt 4 rfl ?_)))))))
 refine Z0K bk ?_
 refine pur 2 rfl ?_
 refine cl rfl Z2Z rfl rfl (Gt.c_Among l0 a0 c0 bk hl0 _ _ (by omega) (by assumption) (1) (7) (by first | omega | (dsimp only; omega)) _ _) ?_
 rintro _ _ R1 ⟨x61, m61, hx61, rfl, hm61, rfl, hR1⟩
 obtain rfl := hR1.symm
 clear hR1
 refine pur 1 rfl (Z2 ?_)
 obtain ⟨n61, rfl⟩ : ∃ n : Nat, x61 = n := ⟨x61.toNat, by omega⟩
 refine Zb (ι := (x : {x : Nat × List Int × Int × Int // x.1 ≤ n61 ∧ Hn.HrI x25 x.2.1 x.1 ∧ (tq ≤ x.2.2.1 ∧ x.2.2.1 ≤ tq + 41 + x.1) ∧ (0 ≤ x.2.2.2 ∧ x.2.2.2 ≤ 4294967295)}) × OSl 3 1 (Hn.irows x.1.2.1)) (fun x => ⟨[(0, .pointer (some ⟨bk, 0, none⟩)), (1, .int .i64 7), (6, .pointer (some ⟨b6, 0, none⟩)), (9, .pointer (some ⟨b9, 0, none⟩)), (11, .pointer (some ⟨b11, 0, none⟩)), (61, .int .i64 n61), (62, .int .i64 x.1.1.1)],
   (bk, cel 96 [.slice a0 l0.length c0, .int .i64 (x.1.1.2.2.1), .int .u32 (x.1.1.2.2.2)]) :: (x.2.G ++ (b11, cel 47 [x.2.fs]) :: (b9, cel 71 [.int .i64 x25, .int .i64 x27, .int .i64 (n30 : Nat), .slice none 0 0, .slice none 0 0, .slice a3 sps.length k3]) :: (b6, cel 71 [.int .i64 0, .int .i64 0, .int .i64 0, .slice none 0 0, .slice none 0 0, .slice none 0 0]) :: H), RowsA a3 3 (Hn.sprows sps) :: R⟩) (fun x => n61 - x.1.1.1) ⟨⟨(0, [], tq2 + 1, m61), by omega, ⟨⟨by simp, by simp⟩, by simp, by simp⟩, by dsimp only; omega, by assumption⟩, OSl.nil _ _⟩ ?_ (fun x => ?_)
 exact Zf idH
 obtain ⟨⟨⟨j, hl, tq3, mx3⟩, hj, hhr, htq3, hmx3⟩, o2⟩ := x
 dsimp only at hj hhr htq3 hmx3 o2 ⊢
 have hhl := hhr.le
 refine sqt 1 rfl (pur 1 rfl (Z0 ?_))
 refine Z1 rfl ?_ ?_ <;> intro hc1 <;> try simp only [cS] at hc1
 refine Z3 (Z0 (Z2 (sqt 6 rfl (pur 1 rfl (sp rfl (PE.fA Z1E rfl) rfl (spL rfl rfl (lh sc3 rfl rfl) rfl (sp rfl (PE.add rfl rfl (by omega)) rfl ?_)))))))
 refine cl rfl Z0E rfl rfl (Gt.c_Below l0 a0 c0 bk hl0 _ _ (by omega) (by assumption) (x25 + 1) _ _) ?_
 rintro _ _ R1 ⟨x68, m68, hx68, rfl, hm68, rfl, hR1⟩
 obtain rfl := hR1.symm
 clear hR1
 refine pur 1 rfl (sqt 4 rfl ?_)
 refine Sy.heap (fun w h => h.pullG o2.G) ?_
 simp only [List.nil_append]
 refine spL rfl rfl (lh Z0G rfl rfl) rfl (pur 1 rfl ?_)
 refine cl rfl Z9j rfl rfl (Hn.FnV.lendO o2 (fun v => [v, .int .i64 x68]) (fun a5 c5 B9 => by rw [Hn.irl_len]; exact Gt.c_contains_int hl a5 c5 x68 (by omega) _ _)) ?_
 rintro _ _ R1 ⟨rfl, rfl, hR1⟩
 obtain rfl := hR1.symm
 clear hR1
 refine pur 1 rfl ?_
 refine Z1 rfl ?_ ?_ <;> intro hc2
 have hhr2 := hhr.snoc hc2 (by omega)
 refine sqr 5 rfl (spL rfl rfl (lh Z0G rfl rfl) rfl (pur 1 rfl ?_))
 refine bsl (out := [_]) rfl Z2r zl3 rfl rfl rfl rfl rfl rfl (fun b75 => ?_)
 refine apO (o2) rfl Z5F rfl rfl (Z1e (row := [.int .i64 x68]) rfl) rfl rfl ((by rw [Hn.irl_len]; simp only [List.length_singleton]; omega)) rfl (fun o76 => ?_)
 refine Z01 (l' := [o76.fs]) rfl rfl rfl ZhR rfl (by rw [o76.cells.1]; first | done | rfl) (by rw [o76.cells.1]; simp [o76.cells.2]) (by rw [o76.cells.1]; first | done | rfl) (by rw [o76.cells.1]; first | done | exact Nat.le_of_ble_eq_true rfl) ?_
 refine sqr 2 rfl (sp rfl (PE.add rfl rfl (by omega)) rfl (pur 1 rfl ?_))
 exact Z6 ⟨⟨(j + 1, hl ++ [x68], tq3 + 1, m68), by omega, hhr2, by dsimp only; omega, by assumption⟩, o76.cast (by simp [Hn.irows])⟩ (fun w h => (h.del b75).pull bk)
 have hhr2 := hhr.same hc2
 refine Z3 (sqr 2 rfl (sp rfl (PE.add rfl rfl (by omega)) rfl (pur 1 rfl ?_)))
 exact Z6 ⟨⟨(j + 1, hl, tq3 + 1, m68), by omega, hhr2, by dsimp only; omega, by assumption⟩, o2⟩ (fun w h => h.pull bk)
 obtain rfl : j = n61 := by omega
 refine Z9 (Za (Za (Zl (sqt 2 rfl ?_))))
 refine Sy.heap (fun w h => h.pullG o2.G) ?_
 simp only [List.nil_append]
 refine spL rfl rfl (lh Z0G rfl rfl) rfl ?_
 refine cl rfl Zgu rfl rfl (Hn.c_Sort hl o2 (by omega) _ _) ?_
 rintro _ _ R1 ⟨hrs, o7, hsr, hof, rfl, rfl, hR1⟩
 obtain rfl := hR1.symm
 clear hR1
 have hris := Hn.srt_ris hsr hhr.nd
 have hpl := hsr.perm.length_eq
 have hsb : ∀ z ∈ hrs, 0 ≤ z ∧ z ≤ x25 := fun z hz => hhr.all z (hsr.perm.mem_iff.1 hz)
 have hl17 : 1 ≤ hrs.length ∧ hrs.length ≤ 7 := by omega
 have hnb : ∀ q, q < hrs.length → 0 ≤ Hn.nn hrs q ∧ Hn.nn hrs q ≤ x25 := fun q hq => hsb _ (by rw [Hn.nn_at hq]; exact List.getElem_mem hq)
 obtain ⟨ah, ch, heh, hfh⟩ := o7.freeze
 rw [← hof, heh, Hn.irl_len]
 refine Sy.heap (fun w h => hfh h) ?_
 clear heh hof hfh
 refine Zg (a := ah) (sz := 1) (rows := Hn.irows hrs) (by intro h0; have := Hn.irl_len hrs; rw [h0] at this; simp at this; omega) (fun bh oh heqbh => ?_)
 subst heqbh
 refine Z0 (sqt 3 rfl (pur 1 rfl ?_))
 refine cl rfl Z0E rfl rfl (Gt.c_Below l0 a0 c0 bk hl0 _ _ (by omega) (by assumption) (6) _ _) ?_
 rintro _ _ R1 ⟨x81, m81, hx81, rfl, hm81, rfl, hR1⟩
 obtain rfl := hR1.symm
 clear hR1
 refine pur 1 rfl (Z2 ?_)
 obtain ⟨n81, rfl⟩ : ∃ n : Nat, x81 = n := ⟨x81.toNat, by omega⟩
 refine Zb (ι := (x : {x : Nat × List Hn.Bkg × Int × Int // x.1 ≤ n81 ∧ Hn.BkI x25 x.2.1 x.1 ∧ (tq ≤ x.2.2.1 ∧ x.2.2.1 ≤ tq + 49 + 2 * x.1) ∧ (0 ≤ x.2.2.2 ∧ x.2.2.2 ≤ 4294967295)}) × OSl 131 2 (Hn.bkrows x.1.2.1)) (fun x => ⟨[(0, .pointer (some ⟨bk, 0, none⟩)), (1, .int .i64 7), (6, .pointer (some ⟨b6, 0, none⟩)), (9, .pointer (some ⟨b9, 0, none⟩)), (11, .pointer (some ⟨b11, 0, none⟩)), (81, .int .i64 n81), (82, .int .i64 x.1.1.1)],
   (bk, cel 96 [.slice a0 l0.length c0, .int .i64 (x.1.1.2.2.1), .int .u32 (x.1.1.2.2.2)]) :: (x.2.G ++ (b11, cel 47 [.slice (some ⟨bh, oh, none⟩) hrs.length ch]) :: (b9, cel 71 [.int .i64 x25, .int .i64 x27, .int .i64 (n30 : Nat), .slice none 0 0, x.2.fs, .slice a3 sps.length k3]) :: (b6, cel 71 [.int .i64 0, .int .i64 0, .int .i64 0, .slice none 0 0, .slice none 0 0, .slice none 0 0]) :: H), RowsA (some ⟨bh, oh, none⟩) 1 (Hn.irows hrs) :: RowsA a3 3 (Hn.sprows sps) :: R⟩) (fun x => n81 - x.1.1.1) ⟨⟨(0, [], tq3 + 1, m81), by omega, ⟨by simp, by simp⟩, by dsimp only; omega, by assumption⟩, OSl.nil _ _⟩ ?_ (fun x => ?_)
 exact Zf idH
 obtain ⟨⟨⟨m, bks, tq4, mx4⟩, hm4, hbi, htq4, hmx4⟩, o3⟩ := x
 dsimp only at hm4 hbi htq4 hmx4 o3 ⊢
 have hbl := hbi.le
 refine sqt 1 rfl (pur 1 rfl (Z0 ?_))
 refine Z1 rfl ?_ ?_ <;> intro hc3 <;> try simp only [cS] at hc3
 refine Z3 (Z0 (Z2 (sqt 3 rfl (pur 1 rfl ?_))))
 refine cl rfl Z2Z rfl rfl (Gt.c_Among l0 a0 c0 bk hl0 _ _ (by omega) (by assumption) (-20) (20) (by first | omega | (dsimp only; omega)) _ _) ?_
 rintro _ _ R1 ⟨x85, m85, hx85, rfl, hm85, rfl, hR1⟩
 obtain rfl := hR1.symm
 clear hR1
 refine pur 1 rfl (sqt 2 rfl (pur 2 rfl ?_))
 refine Z1 rfl ?_ ?_ <;> intro hc4 <;> try simp only [cS] at hc4
 refine Zc [0, 1, 0, 0, 8, 24, 60, 0, 252, 508, 1023, 2047, 4095] (.tk 0 (.ld 1 (.tk 2 (.tk 3 (.ld 4 (.tk 5 (.tk 7 (.big 6 (.tk 8 (.big 9 (.big 10 (.tk 11 (.big 12 .done))))))))))))) Zo (by kernel_rfl) ?_
 refine tk rfl (PE.fA Z1g rfl) rfl (ld rfl rfl (lh Z5o rfl rfl) rfl (Zd 1 rfl (tk rfl (PE.fA Z1E rfl) rfl (ld rfl rfl (lh sc3 rfl rfl) rfl (tk rfl (PE.add rfl rfl (by omega)) rfl (Zd 1 rfl ?_))))))
 refine cl rfl Z0E rfl rfl (Gt.c_Below l0 a0 c0 bk hl0 _ _ (by omega) (by assumption) (x25 + 1) _ _) ?_
 rintro _ _ R1 ⟨x94, m94, hx94, rfl, hm94, rfl, hR1⟩
 obtain rfl := hR1.symm
 clear hR1
 refine bg (fun w hs => ⟨trivial, (lh Z5o rfl rfl) w hs, trivial⟩) ?_
 refine tk rfl (PE.build (out := [_, _]) ZgX Z50 rfl rfl) rfl ?_
 refine bsl (out := [_, _]) rfl Zg0 Z50 rfl rfl rfl rfl rfl rfl (fun b97 => ?_)
 refine bg (fun w hs => ⟨(lh Z5o rfl rfl) w hs, trivial⟩) ?_
 refine apO (o3) rfl ZgC rfl rfl (Z1e (row := Hn.bkrow ⟨x94, x85⟩) rfl) rfl rfl ((by rw [Hn.bkr_len]; simp only [List.length_singleton]; omega)) rfl (fun o98 => ?_)
 refine bgT (tk rfl (PE.fA Z1g rfl) rfl ?_)
 refine Z01 (l' := [.int .i64 x25, .int .i64 x27, .int .i64 (n30 : Nat), .slice none 0 0, o98.fs, .slice a3 sps.length k3]) rfl rfl rfl Zih rfl (by rw [o98.cells.1]; first | done | rfl) (by rw [o98.cells.1]; simp [o98.cells.2]) (by rw [o98.cells.1]; first | done | rfl) (by rw [o98.cells.1]; first | done | exact Nat.le_of_ble_eq_true rfl) ?_
 have hbi2 := hbi.snoc (s := ⟨x94, x85⟩) (by dsimp only; omega)
 refine bgT (sqr 2 rfl (sp rfl (PE.add rfl rfl (by omega)) rfl (pur 1 rfl ?_)))
 exact Z6 ⟨⟨(m + 1, bks ++ [⟨x94, x85⟩], tq4 + 1 + 1, m94), by omega, hbi2, by dsimp only; omega, by assumption⟩, o98.cast (by simp [Hn.bkrows])⟩ (fun w h => h.del b97)
 refine Z3 (sqr 2 rfl (sp rfl (PE.add rfl rfl (by omega)) rfl (pur 1 rfl ?_)))
 exact Z6 ⟨⟨(m + 1, bks, tq4 + 1, m85), by omega, hbi.same, by dsimp only; omega, by assumption⟩, o3⟩ idH
 obtain rfl : m = n81 := by omega
 obtain ⟨a2, k2, he2, hf2⟩ := o3.freeze
 rw [he2, Hn.bkr_len]
 refine Sy.heap (fun w h => hf2 (h.pullG o3.G)) ?_
 simp only [List.nil_append]
 have hB := Hn.cB_diff (bs := bks) (fun b hb => (hbi.all b hb).2.1) (by omega)
 refine Z9 (Za (Za (Zl (Z0 ?_))))
 refine Zc [0, 1, 3, 0, 8, 24, 7, 127] (.tk 0 (.tk 3 (.ld 4 (.any (.alt 1 (.any (.alt 2 (.tk 6 (.big 5 (.tk 7 .done))) (.alt 5 (.big 2 (.tk 6 (.tk 7 .done))) .stop))) (.alt 5 (.big 1 (.big 2 (.tk 6 (.tk 7 .done)))) .stop)))))) Zo (by kernel_rfl) ?_
 refine Zd 1 rfl (tk rfl (PE.fA ZW rfl) rfl (ld rfl rfl (lh sc3 rfl rfl) rfl ?_))
 refine Zx ?_ ?_
 refine Z0K bk ?_
 refine cl rfl Z2Z rfl rfl (Gt.c_Among l0 a0 c0 bk hl0 _ _ (by omega) (by assumption) (250) (400) (by first | omega | (dsimp only; omega)) _ _) ?_
 rintro _ _ R1 ⟨x102, m102, hx102, rfl, hm102, rfl, hR1⟩
 obtain rfl := hR1.symm
 clear hR1
 refine bg (fun w hs => ⟨(lh sc3 rfl rfl) w hs, trivial⟩) ?_
 refine Zx ?_ ?_
 refine bsl (out := [_]) rfl Z2r zl3 rfl rfl rfl rfl rfl rfl (fun b103 => ?_)
 refine bg (fun w hs => ⟨(lh sc3 rfl rfl) w hs, trivial⟩) ?_
 refine Zd 1 rfl ?_
 refine mkS rfl Z5F zl3 rfl rfl (Nat.le_refl _) ⟨by omega, by omega⟩ rfl (fun b106 => ?_)
 rw [Z8w]
 refine bgT (Zd 1 rfl (Z0 (sqt 3 rfl (spL rfl rfl (lh Z0G rfl rfl) rfl (sp rfl (PE.lenSl Z0i rfl) rfl (pur 1 rfl (Z2 ?_)))))))
 refine Zb (ι := (x : {x : (Nat × Nat × Nat) × List Hn.Cnt × List Int × List Int × List Value × Int × Int // Hn.MI x27 bks sps hrs n30 tq x.1.1 x.1.2.2 x.2.1 x.2.2.1 x.2.2.2.1 x.2.2.2.2.1 x.2.2.2.2.2.1 x.2.2.2.2.2.2}) × OSl 89 3 (Hn.crows x.1.2.1)) (fun x => ⟨[(0, .pointer (some ⟨bk, 0, none⟩)), (6, .pointer (some ⟨b6, 0, none⟩)), (9, .pointer (some ⟨b9, 0, none⟩)), (11, .pointer (some ⟨b11, 0, none⟩)), (14, .slice (some ⟨x.1.1.1.2.1, 0, none⟩) x.1.1.2.2.1.length x.1.1.1.2.2), (15, .slice (some ⟨b106, 0, none⟩) n30 n30), (108, .int .i64 hrs.length), (109, .int .i64 (x.1.1.1.1 : Nat))],
   (bk, cel 96 [.slice a0 l0.length c0, .int .i64 (x.1.1.2.2.2.2.2.1), .int .u32 (x.1.1.2.2.2.2.2.2)]) :: (x.1.1.1.2.1, cel 3 (Zh x.1.1.2.2.1 ++ x.1.1.2.2.2.2.1)) :: (b106, cel 3 (Zh x.1.1.2.2.2.1 ++ [])) :: (x.2.G ++ (b11, cel 47 [.slice (some ⟨bh, oh, none⟩) hrs.length ch]) :: (b9, cel 71 [.int .i64 x25, .int .i64 x27, .int .i64 (n30 : Nat), x.2.fs, .slice a2 bks.length k2, .slice a3 sps.length k3]) :: (b6, cel 71 [.int .i64 0, .int .i64 0, .int .i64 0, .slice none 0 0, .slice none 0 0, .slice none 0 0]) :: H), RowsA a2 2 (Hn.bkrows bks) :: RowsA (some ⟨bh, oh, none⟩) 1 (Hn.irows hrs) :: RowsA a3 3 (Hn.sprows sps) :: R⟩) (fun x => hrs.length - x.1.1.1.1) ⟨⟨((0, b103, 1), [], [x102], List.replicate n30 0, [], tq4 + 1, m102), ⟨by dsimp only; omega, rfl, List.length_replicate, Hn.TI.start hB (by show 250 ≤ x102 ∧ x102 ≤ 400; omega) (by omega) n30, ⟨rfl, by simp⟩, ⟨rfl, by dsimp only; omega⟩, by dsimp only; omega, by assumption⟩⟩, OSl.nil _ _⟩ ?_ (fun x => ?_)
 exact Zf (fun w h => by simp only [List.append_nil]; exact ((h.pull b106).pull b103).pull bk)
 obtain ⟨⟨⟨⟨i, b, cap⟩, cs, l, tkn, junk, tq5, mx5⟩, hmi⟩, o⟩ := x
 obtain ⟨hi, hll, htl, hti, hch, hjk, htq5, hmx5⟩ := hmi
 dsimp only at hi hll htl hti hch hjk htq5 hmx5 o ⊢
 have hvb := hti.bd
 have hcl := hch.len
 refine sqt 1 rfl (pur 1 rfl (Z0 ?_))
 refine Z1 rfl ?_ ?_ <;> intro hc5 <;> try simp only [cS] at hc5
 refine Z3 (Z0 (Z2 (sqt 3 rfl (pur 1 rfl (alc rfl zl3 rfl (fun b16 => ?_))))))
 refine sto rfl rfl rfl cn3 rfl rfl rfl rfl ?_
 refine Z0 (sqt 2 rfl (spL rfl rfl (lh sc3 rfl rfl) rfl (pur 1 rfl ?_)))
 refine Z5i (ι := {x : (Nat × Nat) × List Int × List Int × List Value × Int × Int // Hn.MJ x27 bks sps hrs n30 tq i cs x.1.2 x.2.1 x.2.2.1 x.2.2.2.1 x.2.2.2.2.1 x.2.2.2.2.2}) (fun x => ⟨[(0, .pointer (some ⟨bk, 0, none⟩)), (6, .pointer (some ⟨b6, 0, none⟩)), (9, .pointer (some ⟨b9, 0, none⟩)), (11, .pointer (some ⟨b11, 0, none⟩)), (16, .pointer (some ⟨b16, 0, none⟩)), (14, .slice (some ⟨x.1.1.1, 0, none⟩) x.1.2.1.length x.1.1.2), (15, .slice (some ⟨b106, 0, none⟩) n30 n30), (108, .int .i64 hrs.length), (109, .int .i64 (i : Nat))], (bk, cel 96 [.slice a0 l0.length c0, .int .i64 (x.1.2.2.2.2.1), .int .u32 (x.1.2.2.2.2.2)]) :: (b16, cel 3 [.int .i64 (i : Nat)]) :: (x.1.1.1, cel 3 (Zh x.1.2.1 ++ x.1.2.2.2.1)) :: (b106, cel 3 (Zh x.1.2.2.1 ++ [])) :: (o.G ++ (b11, cel 47 [.slice (some ⟨bh, oh, none⟩) hrs.length ch]) :: (b9, cel 71 [.int .i64 x25, .int .i64 x27, .int .i64 (n30 : Nat), o.fs, .slice a2 bks.length k2, .slice a3 sps.length k3]) :: (b6, cel 71 [.int .i64 0, .int .i64 0, .int .i64 0, .slice none 0 0, .slice none 0 0, .slice none 0 0]) :: H), RowsA a2 2 (Hn.bkrows bks) :: RowsA (some ⟨bh, oh, none⟩) 1 (Hn.irows hrs) :: RowsA a3 3 (Hn.sprows sps) :: R⟩) ?_ ?_
 refine Z1 rfl ?_ ?_ <;> intro hc6 <;> try simp only [cS] at hc6
 have hpi := hnb i (by omega)
 have hpp := hnb (i - 1) (by omega)
 have hlt : Hn.nn hrs (i - 1) < Hn.nn hrs i := by have := hris (i - 1) (by omega); rwa [show i - 1 + 1 = i from by omega] at this
 have hmu := Gt.mul_b (a := x27) (b := Hn.nn hrs i - Hn.nn hrs (i - 1)) (A := 3) (B := 60) (by omega) (by omega) (by omega) (by omega)
 have hli : l.length = i := by omega
 refine sqt 6 rfl (pur 1 rfl (spL rfl rfl (lh sc3 rfl rfl) rfl (sp rfl (PE.sub rfl rfl (by omega)) rfl ?_)))
 rw [show (i : Int) - 1 = ((i - 1 : Nat) : Int) from by omega]
 refine sp rfl (PE.indexAddr ZM rfl rfl (by omega) (by omega)) rfl (spL rfl rfl (lh sc3 rfl (Hn.int_at (by omega))) rfl (pur 1 rfl (Z0 (sqt 4 rfl (sp rfl (PE.fA Z1g rfl) rfl (spL rfl rfl (lh Z5o rfl rfl) rfl (sp rfl (PE.lenSl Z4E rfl) rfl (pur 1 rfl (Z2 ?_)))))))))
 refine Zb (ι := {x : Nat × Int // x.1 ≤ bks.length ∧ x.2 = Hn.nn l (i - 1) + Hn.stB (Hn.nn hrs (i - 1)) (Hn.nn hrs i) (bks.take x.1)}) (fun x => ⟨[(0, .pointer (some ⟨bk, 0, none⟩)), (6, .pointer (some ⟨b6, 0, none⟩)), (9, .pointer (some ⟨b9, 0, none⟩)), (11, .pointer (some ⟨b11, 0, none⟩)), (16, .pointer (some ⟨b16, 0, none⟩)), (14, .slice (some ⟨b, 0, none⟩) l.length cap), (15, .slice (some ⟨b106, 0, none⟩) n30 n30), (108, .int .i64 hrs.length), (109, .int .i64 (i : Nat)), (17, .int .i64 x.1.2), (120, .slice a2 bks.length k2), (121, .int .i64 bks.length), (122, .int .i64 x.1.1)], (bk, cel 96 [.slice a0 l0.length c0, .int .i64 (tq5), .int .u32 (mx5)]) :: (b16, cel 3 [.int .i64 (i : Nat)]) :: (b, cel 3 (Zh l ++ junk)) :: (b106, cel 3 (Zh tkn ++ [])) :: (o.G ++ (b11, cel 47 [.slice (some ⟨bh, oh, none⟩) hrs.length ch]) :: (b9, cel 71 [.int .i64 x25, .int .i64 x27, .int .i64 (n30 : Nat), o.fs, .slice a2 bks.length k2, .slice a3 sps.length k3]) :: (b6, cel 71 [.int .i64 0, .int .i64 0, .int .i64 0, .slice none 0 0, .slice none 0 0, .slice none 0 0]) :: H), RowsA a2 2 (Hn.bkrows bks) :: RowsA (some ⟨bh, oh, none⟩) 1 (Hn.irows hrs) :: RowsA a3 3 (Hn.sprows sps) :: R⟩) (fun x => bks.length - x.1.1) ⟨(0, Hn.nn l (i - 1)), Nat.zero_le _, by simp [Hn.stB]⟩ ?_ (fun x => ?_)
 exact Zf (fun w h => h.pull bk)
 obtain ⟨⟨k, z⟩, hk, hz⟩ := x
 dsimp only at hk hz ⊢
 have hzb := Hn.stB_bd (y := Hn.nn hrs (i - 1)) (z := Hn.nn hrs i) (bs := bks.take k) (fun b hb => (hbi.all b (List.mem_of_mem_take hb)).2.1)
 rw [List.length_take, Nat.min_eq_left hk] at hzb
 refine sqt 1 rfl (pur 1 rfl (Z0 ?_))
 refine Z1 rfl ?_ ?_ <;> intro hc7 <;> try simp only [cS] at hc7
 obtain ⟨x, hx⟩ : ∃ x, bks[k]? = some x := ⟨_, List.getElem?_eq_getElem (by omega)⟩
 have hxb := (hbi.all x (List.mem_of_getElem? hx)).2.1
 refine Zg (a := a2) (sz := 2) (rows := Hn.bkrows bks) (by intro h0; have := Hn.bkr_len bks; rw [h0] at this; simp at this; omega) (fun bb ob heqbb => ?_)
 subst heqbb
 refine Z3 (Z0 (Z2 (sqt 4 rfl (sp rfl (PE.indexAddr ZcT rfl rfl (by omega) (by omega)) rfl (spL rfl rfl (lfA Z4X (row := Hn.bkrow x) (Hn.bk_get hx) rfl) rfl (alc rfl Z50 rfl (fun b19 => ?_)))))))
 refine sto rfl rfl rfl Z7k rfl rfl rfl rfl ?_
 refine Z0 ?_
 refine Zc [0, 1, 0, 0, 8, 28, 60, 127, 255, 511, 1023, 511, 511, 6655, 14847, 32767, 65535] (.tk 0 (.ld 1 (.ld 2 (.ld 3 (.tk 4 (.tk 5 (.ld 6 (tks 7 3 (.ld 10 (.ld 11 (.ld 12 (.tk 13 (.ld 14 (.tk 15 (.tk 16 .done))))))))))))))) Zo (by kernel_rfl) ?_
 refine tk rfl (PE.fA Z0C rfl) rfl (ld rfl rfl (lh sc3 rfl rfl) rfl (ld rfl rfl (lh Z0G rfl rfl) rfl (ld rfl rfl (lh sc3 rfl rfl) rfl (tk rfl (PE.sub rfl rfl (by omega)) rfl ?_))))
 rw [show (i : Int) - 1 = ((i - 1 : Nat) : Int) from by omega]
 refine tk rfl (PE.indexAddr ZM rfl rfl (by omega) (by omega)) rfl (ld rfl rfl (lf0 (x := .int .i64 (Hn.nn hrs (i - 1))) sc3 (Hn.ir_nn (by omega)) rfl) rfl (Zd 2 rfl ?_))
 refine Zk 134 rfl ?_ ?_ <;> intro g134
 try simp only [cS] at g134
 refine tkG rfl rfl rfl rfl (PE.fA Z0C rfl) rfl ?_
 refine ldG rfl rfl rfl rfl rfl (lh sc3 rfl rfl) rfl (ldG rfl rfl rfl rfl rfl (lh Z0G rfl rfl) rfl (ldG rfl rfl rfl rfl rfl (lh sc3 rfl rfl) rfl ?_))
 refine tkG rfl rfl rfl rfl (PE.indexAddr ZM rfl rfl (by omega) (by omega)) rfl ?_
 refine ldG rfl rfl rfl rfl rfl (lf0 (x := .int .i64 (Hn.nn hrs i)) sc3 (Hn.ir_nn (by omega)) rfl) rfl (Zd 2 rfl ?_)
 refine Z1 rfl ?_ ?_ <;> intro hc8 <;> try simp only [cS] at hc8
 refine sqr 5 rfl (pur 1 rfl (sp rfl (PE.fA Z0X rfl) rfl (spL rfl rfl (lh sc3 rfl rfl) rfl (sp rfl (PE.add rfl rfl (by omega)) rfl (pur 1 rfl (sqr 2 rfl (sp rfl (PE.add rfl rfl (by omega)) rfl (pur 1 rfl ?_))))))))
 exact Z6 ⟨(k + 1, z + x.sacks), by dsimp only; omega, by dsimp only; rw [Hn.stB_snoc hx, if_pos (by omega), hz]; omega⟩ (fun w h => h.del b19)
 refine Z3 (sqr 2 rfl (sp rfl (PE.add rfl rfl (by omega)) rfl (pur 1 rfl ?_)))
 exact Z6 ⟨(k + 1, z), by dsimp only; omega, by dsimp only; rw [Hn.stB_snoc hx, if_neg (by omega), hz]; omega⟩ (fun w h => h.del b19)
 try simp only [cS] at g134
 refine Zd 1 rfl ?_
 repeat refine ldN rfl rfl rfl rfl rfl rfl rfl rfl ?_
 refine Zd 1 rfl ?_
 refine ldN rfl rfl rfl rfl rfl rfl rfl rfl ?_
 refine Zd 2 rfl ?_
 refine ZC rfl ?_
 refine Z3 (sqr 2 rfl (sp rfl (PE.add rfl rfl (by omega)) rfl (pur 1 rfl ?_)))
 exact Z6 ⟨(k + 1, z), by dsimp only; omega, by dsimp only; rw [Hn.stB_snoc hx, if_neg (by omega), hz]; omega⟩ (fun w h => h.del b19)
 obtain rfl : k = bks.length := by omega
 rw [List.take_length] at hz
 refine Z9 (Za (Za (Zl (Z0 ?_))))
 refine Zc [0, 0, 2, 6, 0, 0, 32, 0, 0, 384, 896, 0, 0, 4096, 14336, 30720, 65408, 131040, 262112, 524272, 1048574, 2097151, 4194303] (tks 0 6 (.ld 6 (.ld 7 (.ld 8 (.tk 9 (.ld 10 (.ld 11 (.ld 12 (.tk 13 (.tk 14 (.ld 15 (tks 16 3 (.big 19 (tks 20 3 .done)))))))))))))) Zo (by kernel_rfl) ?_
 refine Zd 2 rfl (tk rfl (PE.sub rfl rfl (by omega)) rfl (tk rfl (PE.max rfl rfl) rfl (Zd 1 rfl (tk rfl (PE.fA Z32 rfl) rfl (ld rfl rfl (lh sc3 rfl rfl) rfl (ld rfl rfl (lh Z0G rfl rfl) rfl (ld rfl rfl (lh sc3 rfl rfl) rfl (tk rfl (PE.indexAddr ZM rfl rfl (by omega) (by omega)) rfl (ld rfl rfl (lf0 (x := .int .i64 (Hn.nn hrs i)) sc3 (Hn.ir_nn (by omega)) rfl) rfl (ld rfl rfl (lh Z0G rfl rfl) rfl (ld rfl rfl (lh sc3 rfl rfl) rfl (tk rfl (PE.sub rfl rfl (by omega)) rfl ?_))))))))))))
 rw [show (i : Int) - 1 = ((i - 1 : Nat) : Int) from by omega]
 refine tk rfl (PE.indexAddr ZM rfl rfl (by omega) (by omega)) rfl (ld rfl rfl (lf0 (x := .int .i64 (Hn.nn hrs (i - 1))) sc3 (Hn.ir_nn (by omega)) rfl) rfl (tk rfl (PE.sub rfl rfl (by omega)) rfl (tk rfl (PE.mul rfl rfl (by omega)) rfl (tk rfl (PE.add rfl rfl (by omega)) rfl ?_))))
 refine cl rfl Z0E rfl rfl (Gt.c_Below l0 a0 c0 bk hl0 _ _ (by omega) (by assumption) (x27 * (Hn.nn hrs i - Hn.nn hrs (i - 1)) + 1) _ _) ?_
 rintro _ _ R1 ⟨x167, m167, hx167, rfl, hm167, rfl, hR1⟩
 obtain rfl := hR1.symm
 clear hR1
 have hti2 := hti.eat (by omega) hB hlt (z := min (max 0 (z - 100)) x167) (by omega) (by omega) (by omega)
 rw [← hz] at hti2
 refine bgT (tk rfl (PE.min rfl rfl) rfl (tk rfl (PE.sub rfl rfl (by omega)) rfl (Zd 1 rfl (Z0 (sqt 3 rfl (sp rfl (PE.fA ZW rfl) rfl (spL rfl rfl (lh sc3 rfl rfl) rfl (pur 1 rfl (Z2 ?_)))))))))
 refine Zb (ι := {x : Nat × Int × List Int × Int × Int // x.1 ≤ n30 ∧ x.2.2.1.length = n30 ∧ Hn.TI x27 bks sps cs (Hn.nn hrs (i - 1)) (Hn.nn hrs i) x.2.1 x.2.2.1 ∧ (tq5 + 1 ≤ x.2.2.2.1 ∧ x.2.2.2.1 ≤ tq5 + 1 + 2 * x.1) ∧ (0 ≤ x.2.2.2.2 ∧ x.2.2.2.2 ≤ 4294967295)}) (fun x => ⟨[(0, .pointer (some ⟨bk, 0, none⟩)), (6, .pointer (some ⟨b6, 0, none⟩)), (9, .pointer (some ⟨b9, 0, none⟩)), (11, .pointer (some ⟨b11, 0, none⟩)), (16, .pointer (some ⟨b16, 0, none⟩)), (14, .slice (some ⟨b, 0, none⟩) l.length cap), (15, .slice (some ⟨b106, 0, none⟩) n30 n30), (108, .int .i64 hrs.length), (109, .int .i64 (i : Nat)), (17, .int .i64 x.1.2.1), (171, .int .i64 (n30 : Nat)), (172, .int .i64 x.1.1)], (bk, cel 96 [.slice a0 l0.length c0, .int .i64 (x.1.2.2.2.1), .int .u32 (x.1.2.2.2.2)]) :: (b16, cel 3 [.int .i64 (i : Nat)]) :: (b, cel 3 (Zh l ++ junk)) :: (b106, cel 3 (Zh x.1.2.2.1 ++ [])) :: (o.G ++ (b11, cel 47 [.slice (some ⟨bh, oh, none⟩) hrs.length ch]) :: (b9, cel 71 [.int .i64 x25, .int .i64 x27, .int .i64 (n30 : Nat), o.fs, .slice a2 bks.length k2, .slice a3 sps.length k3]) :: (b6, cel 71 [.int .i64 0, .int .i64 0, .int .i64 0, .slice none 0 0, .slice none 0 0, .slice none 0 0]) :: H), RowsA a2 2 (Hn.bkrows bks) :: RowsA (some ⟨bh, oh, none⟩) 1 (Hn.irows hrs) :: RowsA a3 3 (Hn.sprows sps) :: R⟩) (fun x => n30 - x.1.1) ⟨(0, z - min (max 0 (z - 100)) x167, tkn, tq5 + 1, m167), Nat.zero_le _, htl, hti2, by dsimp only; omega, by assumption⟩ ?_ (fun x => ?_)
 exact Zf idH
 clear hti2
 obtain ⟨⟨k, v, tkn, tq6, mx6⟩, hk, htl, hti2, htq6, hmx6⟩ := x
 dsimp only at hk htl hti2 htq6 hmx6 ⊢
 have hvb2 := hti2.bd
 refine sqt 1 rfl (pur 1 rfl (Z0 ?_))
 refine Z1 rfl ?_ ?_ <;> intro hc9 <;> try simp only [cS] at hc9
 have hkb := Hn.TI.tkb hti2 k (by omega)
 refine Z3 (Z0 (Z2 (sqt 3 rfl (pur 1 rfl (alc rfl zl3 rfl (fun b20 => ?_))))))
 refine sto rfl rfl rfl cn3 rfl rfl rfl rfl ?_
 refine sqt 5 rfl ?_
 refine Z0K bk ?_
 refine sp rfl (PE.fA Z0O rfl) rfl (spL rfl rfl (lh Z1P rfl rfl) rfl (sp rfl (PE.makeFunc rfl rfl) rfl ?_))
 refine cl rfl Z8V rfl rfl (Hn.c_has_spl sps a3 k3 50 [] [.pointer (some ⟨b20, 0, none⟩), .pointer (some ⟨b11, 0, none⟩), .pointer (some ⟨b16, 0, none⟩)] (Hn.thereH hrs i k) Zcc (by omega) _ _ (fun x hx => Z3y hrs bh oh ch i (by omega) (by omega) x k b20 b11 b16 _ _)) ?_
 rintro _ _ R1 ⟨rfl, rfl, hR1⟩
 obtain rfl := hR1.symm
 clear hR1
 refine pur 1 rfl (sqt 5 rfl (pur 2 rfl ?_))
 refine Zk 180 rfl ?_ ?_ <;> intro g180
 refine pur 1 rfl ?_
 refine clG rfl rfl rfl rfl Z9G rfl rfl (Gt.c_Rare l0 a0 c0 bk hl0 _ _ (by omega) (by assumption) (3) _ _) ?_
 rintro _ _ R1 ⟨x182, m182, rfl, hm182, rfl, hR1⟩
 obtain rfl := hR1.symm
 clear hR1
 refine pur 1 rfl ?_
 refine Z1 rfl ?_ ?_ <;> intro hc10
 refine sqt 7 rfl (pur 1 rfl (sp rfl (PE.sub rfl rfl (by omega)) rfl (sp rfl (PE.max rfl rfl) rfl (pur 1 rfl ?_))))
 refine cl rfl Z2Z rfl rfl (Gt.c_Among l0 a0 c0 bk hl0 _ _ (by omega) (by assumption) (1) (20) (by first | omega | (dsimp only; omega)) _ _) ?_
 rintro _ _ R1 ⟨x188, m188, hx188, rfl, hm188, rfl, hR1⟩
 obtain rfl := hR1.symm
 clear hR1
 refine sp rfl (PE.min rfl rfl) rfl (pur 1 rfl ?_)
 refine Zc [0, 0, 0, 0, 12, 28, 0, 124, 0, 0, 768, 255, 2303, 8191] (.tk 0 (.ld 1 (.tk 2 (.ld 3 (.tk 4 (.ld 5 (tks 6 6 (.big 12 (.tk 13 .done))))))))) Zo (by kernel_rfl) ?_
 refine Zd 1 rfl (ld rfl rfl (lh sc3 rfl rfl) rfl (Zd 1 rfl (ld rfl rfl (lh sc3 rfl rfl) rfl (tk rfl (PE.indexAddr ZM rfl rfl (by omega) (by omega)) rfl (ld rfl rfl (lh sc3 rfl (Hn.int_at (by omega))) rfl (Zd 1 rfl (tk rfl (PE.add rfl rfl (by omega)) rfl (Zd 2 rfl (tk rfl (PE.sub rfl rfl (by omega)) rfl (tk rfl (PE.indexAddr ZM rfl rfl (by omega) (by omega)) rfl ?_))))))))))
 refine Z01 (l' := Zh (tkn.set k (Hn.nn tkn k + min (max 0 (v - 100)) x188)) ++ []) rfl rfl rfl cn3 rfl rfl rfl (Hn.spl_int (by omega) _) (by rw [List.length_append, Hn.ints_length]; show 0 + ((k : Nat) : Int).toNat * 1 + 1 ≤ _; omega) ?_
 refine bgT (Zd 1 rfl (sqr 2 rfl (sp rfl (PE.add rfl rfl (by omega)) rfl (pur 1 rfl ?_))))
 obtain ⟨s, hs1, hs2⟩ := List.any_eq_true.1 g180
 simp only [Hn.thereH, Bool.and_eq_true, decide_eq_true_eq] at hs2
 have hs3 := (hsp.all s hs1).2.2.2
 exact Z6 ⟨(k + 1, v - min (max 0 (v - 100)) x188, tkn.set k (Hn.nn tkn k + min (max 0 (v - 100)) x188), tq6 + 1 + 1, m188), by dsimp only; omega, by rw [List.length_set]; exact htl, hti2.steal hB hlt hs1 hs2.1.2 hs2.2 hs3 hs2.1.1 (by omega) (by omega) (by omega), by dsimp only; omega, by assumption⟩ (fun w h => h.del b20)
 refine Z3 (sqr 2 rfl (sp rfl (PE.add rfl rfl (by omega)) rfl (pur 1 rfl ?_)))
 exact Z6 ⟨(k + 1, v, tkn, tq6 + 1, m182), by dsimp only; omega, htl, hti2, by dsimp only; omega, by assumption⟩ (fun w h => h.del b20)
 refine pur 3 rfl ?_
 refine ZC rfl ?_
 refine Z3 (sqr 2 rfl (sp rfl (PE.add rfl rfl (by omega)) rfl (pur 1 rfl ?_)))
 exact Z6 ⟨(k + 1, v, tkn, tq6, mx6), by dsimp only; omega, htl, hti2, by dsimp only; omega, by assumption⟩ (fun w h => h.del b20)
 obtain rfl : k = n30 := by omega
 refine Z9 (Za (Za (Zl (sqr 5 rfl (pur 2 rfl ?_)))))
 refine bsl (out := [_]) rfl Z2r zl3 rfl rfl rfl rfl rfl rfl (fun b205 => ?_)
 refine Sy.heap (fun w h => h.pull b) ?_
 show Sy _ _ _ ((Hn.SKo l b cap junk hjk).G ++ _) _ _
 refine Zb6 (Hn.SKo l b cap junk hjk) rfl Z5F rfl rfl (Z1e (row := [.int .i64 v]) rfl) rfl rfl (by rw [Hn.irl_len]; simp only [List.length_singleton]; omega) rfl ⟨b, cap, by rw [Hn.irl_len]; rfl⟩ (fun o206 ho206 => ?_)
 obtain ⟨b2, cap2, junk2, hfs2, hG2, hjk2⟩ := Hn.OSl.own2 o206 ho206
 rw [hfs2, hG2]
 simp only [List.cons_append, List.nil_append]
 refine pur 1 rfl ?_
 exact Z1c ⟨((b2, cap2), l ++ [v], tkn, junk2, tq6, mx6), ⟨by simp [hli], htl, ⟨_, by dsimp only; rw [Hn.nn_last hli]; exact hti2⟩, hjk2, by dsimp only; omega, by assumption⟩⟩ (fun w h => ((h.del b205).pull b16).pull bk)
 obtain rfl : i = 0 := by omega
 refine Z3 ?_
 exact Z1c ⟨((b, cap), l, tkn, junk, tq5, mx5), ⟨by dsimp only; omega, htl, ⟨_, hti⟩, hjk, by dsimp only; omega, by assumption⟩⟩ (fun w h => h.pull bk)
 rintro ⟨⟨⟨b, cap⟩, l, tkn, junk, tq6, mx6⟩, hmj⟩
 obtain ⟨hll, htl, ⟨p, hti⟩, hjk, htq6, hmx6⟩ := hmj
 dsimp only at hll htl hti hjk htq6 hmx6 ⊢
 have hvb := hti.bd
 have hcl := hch.len
 refine Z0 ?_
 refine Zc [0, 0, 3, 7, 0, 16, 63, 127, 255] (.tk 0 (.ld 1 (.tk 2 (.ld 3 (.tk 4 (.big 5 (tks 6 3 .done))))))) Zo (by kernel_rfl) ?_
 refine Zd 1 rfl (ld rfl rfl (lh sc3 rfl rfl) rfl (tk rfl (PE.indexAddr ZM rfl rfl (by omega) (by omega)) rfl (ld rfl rfl (lh sc3 rfl (Hn.int_at (by omega))) rfl (Zd 1 rfl ?_))))
 refine cl rfl Z0E rfl rfl (Gt.c_Below l0 a0 c0 bk hl0 _ _ (by omega) (by assumption) (5) _ _) ?_
 rintro _ _ R1 ⟨x212, m212, hx212, rfl, hm212, rfl, hR1⟩
 obtain rfl := hR1.symm
 clear hR1
 refine bg (fun w hs => ⟨(lh sc3 rfl (Hn.int_at (by omega))) w hs, (lh sc3 rfl rfl) w hs, trivial⟩) ?_
 refine tk rfl (PE.sub rfl rfl (by omega)) rfl (tk rfl (PE.max rfl rfl) rfl (Zd 1 rfl ?_))
 refine Zc [0, 1, 0, 0, 12, 28, 0, 0, 0, 384, 896, 0, 2048, 8064, 16256, 32704, 65532, 131068, 262143, 524287, 1048575] (.tk 0 (.ld 1 (.ld 2 (.ld 3 (.tk 4 (.ld 5 (.tk 6 (.tk 7 (.ld 8 (.tk 9 (.ld 10 (.tk 11 (.big 12 (tks 13 4 (.big 17 (.big 18 (.tk 19 (.big 20 .done)))))))))))))))))) Zo (by kernel_rfl) ?_
 refine tk rfl (PE.fA Zv rfl) rfl (ld rfl rfl (lh ZV rfl rfl) rfl (ld rfl rfl (lh Z0G rfl rfl) rfl (ld rfl rfl (lh sc3 rfl rfl) rfl (tk rfl (PE.indexAddr ZM rfl rfl (by omega) (by omega)) rfl (ld rfl rfl (lf0 (x := .int .i64 (Hn.nn hrs i)) sc3 (Hn.ir_nn (by omega)) rfl) rfl (Zd 2 rfl (ld rfl rfl (lh sc3 rfl rfl) rfl (tk rfl (PE.indexAddr ZM rfl rfl (by omega) (by omega)) rfl (ld rfl rfl (lh sc3 rfl (Hn.int_at (by omega))) rfl (Zd 1 rfl ?_))))))))))
 refine cl rfl Z0E rfl rfl (Gt.c_Below l0 a0 c0 bk hl0 _ _ (by omega) (by assumption) (5) _ _) ?_
 rintro _ _ R1 ⟨x227, m227, hx227, rfl, hm227, rfl, hR1⟩
 obtain rfl := hR1.symm
 clear hR1
 refine bg (fun w hs => ⟨(lh sc3 rfl (Hn.int_at (by omega))) w hs, (lh sc3 rfl rfl) w hs, (lf0 (x := .int .i64 (Hn.nn hrs i)) sc3 (Hn.ir_nn (by omega)) rfl) w hs, (lh sc3 rfl rfl) w hs, (lh Z0G rfl rfl) w hs, (lh ZV rfl rfl) w hs, trivial⟩) ?_
 refine tk rfl (PE.add rfl rfl (by omega)) rfl (tk rfl (PE.min rfl rfl) rfl (tk rfl (PE.build (out := [_, _]) Z6W Z5g rfl rfl) rfl (tk rfl (PE.build (out := [_, _, _]) Zd2 Z2p rfl rfl) rfl ?_)))
 refine bsl (out := [_, _, _]) rfl Z7l Z2p rfl rfl rfl rfl rfl rfl (fun b232 => ?_)
 refine bg (fun w hs => ⟨trivial, trivial, trivial, trivial, trivial, (lh ZV rfl rfl) w hs, trivial⟩) ?_
 refine apO (o) rfl Z5S rfl rfl (Z1e (row := Hn.crow ⟨Hn.nn hrs i, max 0 (Hn.nn l i - x212), min 500 (Hn.nn l i + x227)⟩) rfl) rfl rfl ((by rw [Hn.cr_len]; simp only [List.length_singleton]; omega)) rfl (fun o233 => ?_)
 refine bgT (tk rfl (PE.fA Zv rfl) rfl ?_)
 refine Z01 (l' := [.int .i64 x25, .int .i64 x27, .int .i64 (n30 : Nat), o233.fs, .slice a2 bks.length k2, .slice a3 sps.length k3]) rfl rfl rfl Zg1 rfl (by rw [o233.cells.1]; first | done | rfl) (by rw [o233.cells.1]; simp [o233.cells.2]) (by rw [o233.cells.1]; first | done | rfl) (by rw [o233.cells.1]; first | done | exact Nat.le_of_ble_eq_true rfl) ?_
 refine bgT (sqr 2 rfl (sp rfl (PE.add rfl rfl (by omega)) rfl (pur 1 rfl ?_)))
 exact Z6 ⟨⟨((i + 1, b, cap), cs ++ [⟨Hn.nn hrs i, max 0 (Hn.nn l i - x212), min 500 (Hn.nn l i + x227)⟩], l, tkn, junk, tq6 + 1 + 1, m227), ⟨by dsimp only; omega, by dsimp only; omega, htl, hti.count (by omega) (by omega), hch.snoc (by omega), hjk, by dsimp only; omega, by assumption⟩⟩, o233.cast (by simp [Hn.crows])⟩ (fun w h => (h.del b232).del b16)
 obtain rfl : i = hrs.length := by omega
 have hok := Hn.mdw_ok (x25 := x25) (x27 := x27) (n30 := n30) (by omega) (by omega) (by omega) hch hl17 hris hsb hbi (by omega) hsp (by omega)
 obtain ⟨a1, k1, he1, hk1, hf1⟩ := Hn.OSl.capC o
 rw [Hn.cr_len] at he1 hk1
 rw [he1]
 refine Sy.heap (fun w h => hf1 (h.pullG o.G)) ?_
 simp only [List.nil_append]
 obtain ⟨Kt, Zt, es, htru, htk⟩ := Hn.TI.tru (w := ⟨x25, x27, n30, cs, bks, sps⟩) hti
 refine Sy.heap (fun w h => St.rows (sz := 1) (rows := Hn.irows tkn) (rest := []) (by rw [Hn.irows_flat']; exact h.pull b106) (Hn.irows_one tkn)) ?_
 refine Z9 (Za (Za (Zl (sqt 6 rfl (spL rfl rfl (lhA (Hn.wtl ⟨x25, x27, n30, cs, bks, sps⟩ a1 a2 a3 k1 k2 k3) Z17 rfl rfl rfl) rfl (pur 2 rfl ?_))))))
 refine Z01 (l' := Hn.wtl ⟨x25, x27, n30, cs, bks, sps⟩ a1 a2 a3 k1 k2 k3) rfl rfl rfl Z3f rfl rfl rfl rfl (nl rfl) ?_
 refine pur 2 rfl (Z4 ?_)
 exact Zu (vs := [_, _, _]) rfl (.cons (RV.cell rfl (lhA (Hn.wtl ⟨x25, x27, n30, cs, bks, sps⟩ a1 a2 a3 k1 k2 k3) Z17 rfl rfl rfl)) (.cons (RV.tmp rfl) (.cons (RV.tmp rfl) .nil))) rfl ⟨⟨x25, x27, n30, cs, bks, sps⟩, a1, a2, a3, k1, k2, k3, b, b106, cap, l, tkn, Kt, Zt, es, tq5, mx5, hok, ⟨by show cs.length ≤ 7; omega, hk1⟩, ⟨by show l.length = cs.length; omega, by show (tkn.length : Int) = n30; omega⟩, htru, fun d hd => ⟨htk d hd, Hn.TI.tkb hti d hd⟩, by rw [htl]; rfl, by omega, hmx5, rfl, rfl⟩ (fun w h => St.sub ((((h.del b).del b9).del b11).del b6))
 refine Zx ?_ ?_
 refine mkS rfl Z5F zl3 rfl rfl (Nat.le_refl _) ⟨by omega, by omega⟩ rfl (fun b106 => ?_)
 rw [Z8w]
 refine bgT ?_
 refine bsl (out := [_]) rfl Z2r zl3 rfl rfl rfl rfl rfl rfl (fun b103 => ?_)
 refine bgT (Zd 2 rfl (Z0 (sqt 3 rfl (spL rfl rfl (lh Z0G rfl rfl) rfl (sp rfl (PE.lenSl Z0i rfl) rfl (pur 1 rfl (Z2 ?_)))))))
 refine Zb (ι := (x : {x : (Nat × Nat × Nat) × List Hn.Cnt × List Int × List Int × List Value × Int × Int // Hn.MI x27 bks sps hrs n30 tq x.1.1 x.1.2.2 x.2.1 x.2.2.1 x.2.2.2.1 x.2.2.2.2.1 x.2.2.2.2.2.1 x.2.2.2.2.2.2}) × OSl 89 3 (Hn.crows x.1.2.1)) (fun x => ⟨[(0, .pointer (some ⟨bk, 0, none⟩)), (6, .pointer (some ⟨b6, 0, none⟩)), (9, .pointer (some ⟨b9, 0, none⟩)), (11, .pointer (some ⟨b11, 0, none⟩)), (14, .slice (some ⟨x.1.1.1.2.1, 0, none⟩) x.1.1.2.2.1.length x.1.1.1.2.2), (15, .slice (some ⟨b106, 0, none⟩) n30 n30), (108, .int .i64 hrs.length), (109, .int .i64 (x.1.1.1.1 : Nat))],
   (bk, cel 96 [.slice a0 l0.length c0, .int .i64 (x.1.1.2.2.2.2.2.1), .int .u32 (x.1.1.2.2.2.2.2.2)]) :: (x.1.1.1.2.1, cel 3 (Zh x.1.1.2.2.1 ++ x.1.1.2.2.2.2.1)) :: (b106, cel 3 (Zh x.1.1.2.2.2.1 ++ [])) :: (x.2.G ++ (b11, cel 47 [.slice (some ⟨bh, oh, none⟩) hrs.length ch]) :: (b9, cel 71 [.int .i64 x25, .int .i64 x27, .int .i64 (n30 : Nat), x.2.fs, .slice a2 bks.length k2, .slice a3 sps.length k3]) :: (b6, cel 71 [.int .i64 0, .int .i64 0, .int .i64 0, .slice none 0 0, .slice none 0 0, .slice none 0 0]) :: H), RowsA a2 2 (Hn.bkrows bks) :: RowsA (some ⟨bh, oh, none⟩) 1 (Hn.irows hrs) :: RowsA a3 3 (Hn.sprows sps) :: R⟩) (fun x => hrs.length - x.1.1.1.1) ⟨⟨((0, b103, 1), [], [x102], List.replicate n30 0, [], tq4 + 1, m102), ⟨by dsimp only; omega, rfl, List.length_replicate, Hn.TI.start hB (by show 250 ≤ x102 ∧ x102 ≤ 400; omega) (by omega) n30, ⟨rfl, by simp⟩, ⟨rfl, by dsimp only; omega⟩, by dsimp only; omega, by assumption⟩⟩, OSl.nil _ _⟩ ?_ (fun x => ?_)
 exact Zf (fun w h => by simp only [List.append_nil]; exact ((h.pull b106).pull b103).pull bk)
 obtain ⟨⟨⟨⟨i, b, cap⟩, cs, l, tkn, junk, tq5, mx5⟩, hmi⟩, o⟩ := x
 obtain ⟨hi, hll, htl, hti, hch, hjk, htq5, hmx5⟩ := hmi
 dsimp only at hi hll htl hti hch hjk htq5 hmx5 o ⊢
 have hvb := hti.bd
 have hcl := hch.len
 refine sqt 1 rfl (pur 1 rfl (Z0 ?_))
 refine Z1 rfl ?_ ?_ <;> intro hc5 <;> try simp only [cS] at hc5
 refine Z3 (Z0 (Z2 (sqt 3 rfl (pur 1 rfl (alc rfl zl3 rfl (fun b16 => ?_))))))
 refine sto rfl rfl rfl cn3 rfl rfl rfl rfl ?_
 refine Z0 (sqt 2 rfl (spL rfl rfl (lh sc3 rfl rfl) rfl (pur 1 rfl ?_)))
 refine Z5i (ι := {x : (Nat × Nat) × List Int × List Int × List Value × Int × Int // Hn.MJ x27 bks sps hrs n30 tq i cs x.1.2 x.2.1 x.2.2.1 x.2.2.2.1 x.2.2.2.2.1 x.2.2.2.2.2}) (fun x => ⟨[(0, .pointer (some ⟨bk, 0, none⟩)), (6, .pointer (some ⟨b6, 0, none⟩)), (9, .pointer (some ⟨b9, 0, none⟩)), (11, .pointer (some ⟨b11, 0, none⟩)), (16, .pointer (some ⟨b16, 0, none⟩)), (14, .slice (some ⟨x.1.1.1, 0, none⟩) x.1.2.1.length x.1.1.2), (15, .slice (some ⟨b106, 0, none⟩) n30 n30), (108, .int .i64 hrs.length), (109, .int .i64 (i : Nat))], (bk, cel 96 [.slice a0 l0.length c0, .int .i64 (x.1.2.2.2.2.1), .int .u32 (x.1.2.2.2.2.2)]) :: (b16, cel 3 [.int .i64 (i : Nat)]) :: (x.1.1.1, cel 3 (Zh x.1.2.1 ++ x.1.2.2.2.1)) :: (b106, cel 3 (Zh x.1.2.2.1 ++ [])) :: (o.G ++ (b11, cel 47 [.slice (some ⟨bh, oh, none⟩) hrs.length ch]) :: (b9, cel 71 [.int .i64 x25, .int .i64 x27, .int .i64 (n30 : Nat), o.fs, .slice a2 bks.length k2, .slice a3 sps.length k3]) :: (b6, cel 71 [.int .i64 0, .int .i64 0, .int .i64 0, .slice none 0 0, .slice none 0 0, .slice none 0 0]) :: H), RowsA a2 2 (Hn.bkrows bks) :: RowsA (some ⟨bh, oh, none⟩) 1 (Hn.irows hrs) :: RowsA a3 3 (Hn.sprows sps) :: R⟩) ?_ ?_
 refine Z1 rfl ?_ ?_ <;> intro hc6 <;> try simp only [cS] at hc6
 have hpi := hnb i (by omega)
 have hpp := hnb (i - 1) (by omega)
 have hlt : Hn.nn hrs (i - 1) < Hn.nn hrs i := by have := hris (i - 1) (by omega); rwa [show i - 1 + 1 = i from by omega] at this
 have hmu := Gt.mul_b (a := x27) (b := Hn.nn hrs i - Hn.nn hrs (i - 1)) (A := 3) (B := 60) (by omega) (by omega) (by omega) (by omega)
 have hli : l.length = i := by omega
 refine sqt 6 rfl (pur 1 rfl (spL rfl rfl (lh sc3 rfl rfl) rfl (sp rfl (PE.sub rfl rfl (by omega)) rfl ?_)))
 rw [show (i : Int) - 1 = ((i - 1 : Nat) : Int) from by omega]
 refine sp rfl (PE.indexAddr ZM rfl rfl (by omega) (by omega)) rfl (spL rfl rfl (lh sc3 rfl (Hn.int_at (by omega))) rfl (pur 1 rfl (Z0 (sqt 4 rfl (sp rfl (PE.fA Z1g rfl) rfl (spL rfl rfl (lh Z5o rfl rfl) rfl (sp rfl (PE.lenSl Z4E rfl) rfl (pur 1 rfl (Z2 ?_)))))))))
 refine Zb (ι := {x : Nat × Int // x.1 ≤ bks.length ∧ x.2 = Hn.nn l (i - 1) + Hn.stB (Hn.nn hrs (i - 1)) (Hn.nn hrs i) (bks.take x.1)}) (fun x => ⟨[(0, .pointer (some ⟨bk, 0, none⟩)), (6, .pointer (some ⟨b6, 0, none⟩)), (9, .pointer (some ⟨b9, 0, none⟩)), (11, .pointer (some ⟨b11, 0, none⟩)), (16, .pointer (some ⟨b16, 0, none⟩)), (14, .slice (some ⟨b, 0, none⟩) l.length cap), (15, .slice (some ⟨b106, 0, none⟩) n30 n30), (108, .int .i64 hrs.length), (109, .int .i64 (i : Nat)), (17, .int .i64 x.1.2), (120, .slice a2 bks.length k2), (121, .int .i64 bks.length), (122, .int .i64 x.1.1)], (bk, cel 96 [.slice a0 l0.length c0, .int .i64 (tq5), .int .u32 (mx5)]) :: (b16, cel 3 [.int .i64 (i : Nat)]) :: (b, cel 3 (Zh l ++ junk)) :: (b106, cel 3 (Zh tkn ++ [])) :: (o.G ++ (b11, cel 47 [.slice (some ⟨bh, oh, none⟩) hrs.length ch]) :: (b9, cel 71 [.int .i64 x25, .int .i64 x27, .int .i64 (n30 : Nat), o.fs, .slice a2 bks.length k2, .slice a3 sps.length k3]) :: (b6, cel 71 [.int .i64 0, .int .i64 0, .int .i64 0, .slice none 0 0, .slice none 0 0, .slice none 0 0]) :: H), RowsA a2 2 (Hn.bkrows bks) :: RowsA (some ⟨bh, oh, none⟩) 1 (Hn.irows hrs) :: RowsA a3 3 (Hn.sprows sps) :: R⟩) (fun x => bks.length - x.1.1) ⟨(0, Hn.nn l (i - 1)), Nat.zero_le _, by simp [Hn.stB]⟩ ?_ (fun x => ?_)
 exact Zf (fun w h => h.pull bk)
 obtain ⟨⟨k, z⟩, hk, hz⟩ := x
 dsimp only at hk hz ⊢
 have hzb := Hn.stB_bd (y := Hn.nn hrs (i - 1)) (z := Hn.nn hrs i) (bs := bks.take k) (fun b hb => (hbi.all b (List.mem_of_mem_take hb)).2.1)
 rw [List.length_take, Nat.min_eq_left hk] at hzb
 refine sqt 1 rfl (pur 1 rfl (Z0 ?_))
 refine Z1 rfl ?_ ?_ <;> intro hc7 <;> try simp only [cS] at hc7
 obtain ⟨x, hx⟩ : ∃ x, bks[k]? = some x := ⟨_, List.getElem?_eq_getElem (by omega)⟩
 have hxb := (hbi.all x (List.mem_of_getElem? hx)).2.1
 refine Zg (a := a2) (sz := 2) (rows := Hn.bkrows bks) (by intro h0; have := Hn.bkr_len bks; rw [h0] at this; simp at this; omega) (fun bb ob heqbb => ?_)
 subst heqbb
 refine Z3 (Z0 (Z2 (sqt 4 rfl (sp rfl (PE.indexAddr ZcT rfl rfl (by omega) (by omega)) rfl (spL rfl rfl (lfA Z4X (row := Hn.bkrow x) (Hn.bk_get hx) rfl) rfl (alc rfl Z50 rfl (fun b19 => ?_)))))))
 refine sto rfl rfl rfl Z7k rfl rfl rfl rfl ?_
 refine Z0 ?_
 refine Zc [0, 1, 0, 0, 8, 28, 60, 127, 255, 511, 1023, 511, 511, 6655, 14847, 32767, 65535] (.tk 0 (.ld 1 (.ld 2 (.ld 3 (.tk 4 (.tk 5 (.ld 6 (tks 7 3 (.ld 10 (.ld 11 (.ld 12 (.tk 13 (.ld 14 (.tk 15 (.tk 16 .done))))))))))))))) Zo (by kernel_rfl) ?_
 refine tk rfl (PE.fA Z0C rfl) rfl (ld rfl rfl (lh sc3 rfl rfl) rfl (ld rfl rfl (lh Z0G rfl rfl) rfl (ld rfl rfl (lh sc3 rfl rfl) rfl (tk rfl (PE.sub rfl rfl (by omega)) rfl ?_))))
 rw [show (i : Int) - 1 = ((i - 1 : Nat) : Int) from by omega]
 refine tk rfl (PE.indexAddr ZM rfl rfl (by omega) (by omega)) rfl (ld rfl rfl (lf0 (x := .int .i64 (Hn.nn hrs (i - 1))) sc3 (Hn.ir_nn (by omega)) rfl) rfl (Zd 2 rfl ?_))
 refine Zk 134 rfl ?_ ?_ <;> intro g134
 try simp only [cS] at g134
 refine tkG rfl rfl rfl rfl (PE.fA Z0C rfl) rfl ?_
 refine ldG rfl rfl rfl rfl rfl (lh sc3 rfl rfl) rfl (ldG rfl rfl rfl rfl rfl (lh Z0G rfl rfl) rfl (ldG rfl rfl rfl rfl rfl (lh sc3 rfl rfl) rfl ?_))
 refine tkG rfl rfl rfl rfl (PE.indexAddr ZM rfl rfl (by omega) (by omega)) rfl ?_
 refine ldG rfl rfl rfl rfl rfl (lf0 (x := .int .i64 (Hn.nn hrs i)) sc3 (Hn.ir_nn (by omega)) rfl) rfl (Zd 2 rfl ?_)
 refine Z1 rfl ?_ ?_ <;> intro hc8 <;> try simp only [cS] at hc8
 refine sqr 5 rfl (pur 1 rfl (sp rfl (PE.fA Z0X rfl) rfl (spL rfl rfl (lh sc3 rfl rfl) rfl (sp rfl (PE.add rfl rfl (by omega)) rfl (pur 1 rfl (sqr 2 rfl (sp rfl (PE.add rfl rfl (by omega)) rfl (pur 1 rfl ?_))))))))
 exact Z6 ⟨(k + 1, z + x.sacks), by dsimp only; omega, by dsimp only; rw [Hn.stB_snoc hx, if_pos (by omega), hz]; omega⟩ (fun w h => h.del b19)
 refine Z3 (sqr 2 rfl (sp rfl (PE.add rfl rfl (by omega)) rfl (pur 1 rfl ?_)))
 exact Z6 ⟨(k + 1, z), by dsimp only; omega, by dsimp only; rw [Hn.stB_snoc hx, if_neg (by omega), hz]; omega⟩ (fun w h => h.del b19)
 try simp only [cS] at g134
 refine Zd 1 rfl ?_
 repeat refine ldN rfl rfl rfl rfl rfl rfl rfl rfl ?_
 refine Zd 1 rfl ?_
 refine ldN rfl rfl rfl rfl rfl rfl rfl rfl ?_
 refine Zd 2 rfl ?_
 refine ZC rfl ?_
 refine Z3 (sqr 2 rfl (sp rfl (PE.add rfl rfl (by omega)) rfl (pur 1 rfl ?_)))
 exact Z6 ⟨(k + 1, z), by dsimp only; omega, by dsimp only; rw [Hn.stB_snoc hx, if_neg (by omega), hz]; omega⟩ (fun w h => h.del b19)
 obtain rfl : k = bks.length := by omega
 rw [List.take_length] at hz
 refine Z9 (Za (Za (Zl (Z0 ?_))))
 refine Zc [0, 0, 2, 6, 0, 0, 32, 0, 0, 384, 896, 0, 0, 4096, 14336, 30720, 65408, 131040, 262112, 524272, 1048574, 2097151, 4194303] (tks 0 6 (.ld 6 (.ld 7 (.ld 8 (.tk 9 (.ld 10 (.ld 11 (.ld 12 (.tk 13 (.tk 14 (.ld 15 (tks 16 3 (.big 19 (tks 20 3 .done)))))))))))))) Zo (by kernel_rfl) ?_
 refine Zd 2 rfl (tk rfl (PE.sub rfl rfl (by omega)) rfl (tk rfl (PE.max rfl rfl) rfl (Zd 1 rfl (tk rfl (PE.fA Z32 rfl) rfl (ld rfl rfl (lh sc3 rfl rfl) rfl (ld rfl rfl (lh Z0G rfl rfl) rfl (ld rfl rfl (lh sc3 rfl rfl) rfl (tk rfl (PE.indexAddr ZM rfl rfl (by omega) (by omega)) rfl (ld rfl rfl (lf0 (x := .int .i64 (Hn.nn hrs i)) sc3 (Hn.ir_nn (by omega)) rfl) rfl (ld rfl rfl (lh Z0G rfl rfl) rfl (ld rfl rfl (lh sc3 rfl rfl) rfl (tk rfl (PE.sub rfl rfl (by omega)) rfl ?_))))))))))))
 rw [show (i : Int) - 1 = ((i - 1 : Nat) : Int) from by omega]
 refine tk rfl (PE.indexAddr ZM rfl rfl (by omega) (by omega)) rfl (ld rfl rfl (lf0 (x := .int .i64 (Hn.nn hrs (i - 1))) sc3 (Hn.ir_nn (by omega)) rfl) rfl (tk rfl (PE.sub rfl rfl (by omega)) rfl (tk rfl (PE.mul rfl rfl (by omega)) rfl (tk rfl (PE.add rfl rfl (by omega)) rfl ?_))))
 refine cl rfl Z0E rfl rfl (Gt.c_Below l0 a0 c0 bk hl0 _ _ (by omega) (by assumption) (x27 * (Hn.nn hrs i - Hn.nn hrs (i - 1)) + 1) _ _) ?_
 rintro _ _ R1 ⟨x167, m167, hx167, rfl, hm167, rfl, hR1⟩
 obtain rfl := hR1.symm
 clear hR1
 have hti2 := hti.eat (by omega) hB hlt (z := min (max 0 (z - 100)) x167) (by omega) (by omega) (by omega)
 rw [← hz] at hti2
 refine bgT (tk rfl (PE.min rfl rfl) rfl (tk rfl (PE.sub rfl rfl (by omega)) rfl (Zd 1 rfl (Z0 (sqt 3 rfl (sp rfl (PE.fA ZW rfl) rfl (spL rfl rfl (lh sc3 rfl rfl) rfl (pur 1 rfl (Z2 ?_)))))))))
 refine Zb (ι := {x : Nat × Int × List Int × Int × Int // x.1 ≤ n30 ∧ x.2.2.1.length = n30 ∧ Hn.TI x27 bks sps cs (Hn.nn hrs (i - 1)) (Hn.nn hrs i) x.2.1 x.2.2.1 ∧ (tq5 + 1 ≤ x.2.2.2.1 ∧ x.2.2.2.1 ≤ tq5 + 1 + 2 * x.1) ∧ (0 ≤ x.2.2.2.2 ∧ x.2.2.2.2 ≤ 4294967295)}) (fun x => ⟨[(0, .pointer (some ⟨bk, 0, none⟩)), (6, .pointer (some ⟨b6, 0, none⟩)), (9, .pointer (some ⟨b9, 0, none⟩)), (11, .pointer (some ⟨b11, 0, none⟩)), (16, .pointer (some ⟨b16, 0, none⟩)), (14, .slice (some ⟨b, 0, none⟩) l.length cap), (15, .slice (some ⟨b106, 0, none⟩) n30 n30), (108, .int .i64 hrs.length), (109, .int .i64 (i : Nat)), (17, .int .i64 x.1.2.1), (171, .int .i64 (n30 : Nat)), (172, .int .i64 x.1.1)], (bk, cel 96 [.slice a0 l0.length c0, .int .i64 (x.1.2.2.2.1), .int .u32 (x.1.2.2.2.2)]) :: (b16, cel 3 [.int .i64 (i : Nat)]) :: (b, cel 3 (Zh l ++ junk)) :: (b106, cel 3 (Zh x.1.2.2.1 ++ [])) :: (o.G ++ (b11, cel 47 [.slice (some ⟨bh, oh, none⟩) hrs.length ch]) :: (b9, cel 71 [.int .i64 x25, .int .i64 x27, .int .i64 (n30 : Nat), o.fs, .slice a2 bks.length k2, .slice a3 sps.length k3]) :: (b6, cel 71 [.int .i64 0, .int .i64 0, .int .i64 0, .slice none 0 0, .slice none 0 0, .slice none 0 0]) :: H), RowsA a2 2 (Hn.bkrows bks) :: RowsA (some ⟨bh, oh, none⟩) 1 (Hn.irows hrs) :: RowsA a3 3 (Hn.sprows sps) :: R⟩) (fun x => n30 - x.1.1) ⟨(0, z - min (max 0 (z - 100)) x167, tkn, tq5 + 1, m167), Nat.zero_le _, htl, hti2, by dsimp only; omega, by assumption⟩ ?_ (fun x => ?_)
 exact Zf idH
 clear hti2
 obtain ⟨⟨k, v, tkn, tq6, mx6⟩, hk, htl, hti2, htq6, hmx6⟩ := x
 dsimp only at hk htl hti2 htq6 hmx6 ⊢
 have hvb2 := hti2.bd
 refine sqt 1 rfl (pur 1 rfl (Z0 ?_))
 refine Z1 rfl ?_ ?_ <;> intro hc9 <;> try simp only [cS] at hc9
 have hkb := Hn.TI.tkb hti2 k (by omega)
 refine Z3 (Z0 (Z2 (sqt 3 rfl (pur 1 rfl (alc rfl zl3 rfl (fun b20 => ?_))))))
 refine sto rfl rfl rfl cn3 rfl rfl rfl rfl ?_
 refine sqt 5 rfl ?_
 refine Z0K bk ?_
 refine sp rfl (PE.fA Z0O rfl) rfl (spL rfl rfl (lh Z1P rfl rfl) rfl (sp rfl (PE.makeFunc rfl rfl) rfl ?_))
 refine cl rfl Z8V rfl rfl (Hn.c_has_spl sps a3 k3 50 [] [.pointer (some ⟨b20, 0, none⟩), .pointer (some ⟨b11, 0, none⟩), .pointer (some ⟨b16, 0, none⟩)] (Hn.thereH hrs i k) Zcc (by omega) _ _ (fun x hx => Z3y hrs bh oh ch i (by omega) (by omega) x k b20 b11 b16 _ _)) ?_
 rintro _ _ R1 ⟨rfl, rfl, hR1⟩
 obtain rfl := hR1.symm
 clear hR1
 refine pur 1 rfl (sqt 5 rfl (pur 2 rfl ?_))
 refine Zk 180 rfl ?_ ?_ <;> intro g180
 refine pur 1 rfl ?_
 refine clG rfl rfl rfl rfl Z9G rfl rfl (Gt.c_Rare l0 a0 c0 bk hl0 _ _ (by omega) (by assumption) (3) _ _) ?_
 rintro _ _ R1 ⟨x182, m182, rfl, hm182, rfl, hR1⟩
 obtain rfl := hR1.symm
 clear hR1
 refine pur 1 rfl ?_
 refine Z1 rfl ?_ ?_ <;> intro hc10
 refine sqt 7 rfl (pur 1 rfl (sp rfl (PE.sub rfl rfl (by omega)) rfl (sp rfl (PE.max rfl rfl) rfl (pur 1 rfl ?_))))
 refine cl rfl Z2Z rfl rfl (Gt.c_Among l0 a0 c0 bk hl0 _ _ (by omega) (by assumption) (1) (20) (by first | omega | (dsimp only; omega)) _ _) ?_
 rintro _ _ R1 ⟨x188, m188, hx188, rfl, hm188, rfl, hR1⟩
 obtain rfl := hR1.symm
 clear hR1
 refine sp rfl (PE.min rfl rfl) rfl (pur 1 rfl ?_)
 refine Zc [0, 0, 0, 0, 12, 28, 0, 124, 0, 0, 768, 255, 2303, 8191] (.tk 0 (.ld 1 (.tk 2 (.ld 3 (.tk 4 (.ld 5 (tks 6 6 (.big 12 (.tk 13 .done))))))))) Zo (by kernel_rfl) ?_
 refine Zd 1 rfl (ld rfl rfl (lh sc3 rfl rfl) rfl (Zd 1 rfl (ld rfl rfl (lh sc3 rfl rfl) rfl (tk rfl (PE.indexAddr ZM rfl rfl (by omega) (by omega)) rfl (ld rfl rfl (lh sc3 rfl (Hn.int_at (by omega))) rfl (Zd 1 rfl (tk rfl (PE.add rfl rfl (by omega)) rfl (Zd 2 rfl (tk rfl (PE.sub rfl rfl (by omega)) rfl (tk rfl (PE.indexAddr ZM rfl rfl (by omega) (by omega)) rfl ?_))))))))))
 refine Z01 (l' := Zh (tkn.set k (Hn.nn tkn k + min (max 0 (v - 100)) x188)) ++ []) rfl rfl rfl cn3 rfl rfl rfl (Hn.spl_int (by omega) _) (by rw [List.length_append, Hn.ints_length]; show 0 + ((k : Nat) : Int).toNat * 1 + 1 ≤ _; omega) ?_
 refine bgT (Zd 1 rfl (sqr 2 rfl (sp rfl (PE.add rfl rfl (by omega)) rfl (pur 1 rfl ?_))))
 obtain ⟨s, hs1, hs2⟩ := List.any_eq_true.1 g180
 simp only [Hn.thereH, Bool.and_eq_true, decide_eq_true_eq] at hs2
 have hs3 := (hsp.all s hs1).2.2.2
 exact Z6 ⟨(k + 1, v - min (max 0 (v - 100)) x188, tkn.set k (Hn.nn tkn k + min (max 0 (v - 100)) x188), tq6 + 1 + 1, m188), by dsimp only; omega, by rw [List.length_set]; exact htl, hti2.steal hB hlt hs1 hs2.1.2 hs2.2 hs3 hs2.1.1 (by omega) (by omega) (by omega), by dsimp only; omega, by assumption⟩ (fun w h => h.del b20)
 refine Z3 (sqr 2 rfl (sp rfl (PE.add rfl rfl (by omega)) rfl (pur 1 rfl ?_)))
 exact Z6 ⟨(k + 1, v, tkn, tq6 + 1, m182), by dsimp only; omega, htl, hti2, by dsimp only; omega, by assumption⟩ (fun w h => h.del b20)
 refine pur 3 rfl ?_
 refine ZC rfl ?_
 refine Z3 (sqr 2 rfl (sp rfl (PE.add rfl rfl (by omega)) rfl (pur 1 rfl ?_)))
 exact Z6 ⟨(k + 1, v, tkn, tq6, mx6), by dsimp only; omega, htl, hti2, by dsimp only; omega, by assumption⟩ (fun w h => h.del b20)
 obtain rfl : k = n30 := by omega
 refine Z9 (Za (Za (Zl (sqr 5 rfl (pur 2 rfl ?_)))))
 refine bsl (out := [_]) rfl Z2r zl3 rfl rfl rfl rfl rfl rfl (fun b205 => ?_)
 refine Sy.heap (fun w h => h.pull b) ?_
 show Sy _ _ _ ((Hn.SKo l b cap junk hjk).G ++ _) _ _
 refine Zb6 (Hn.SKo l b cap junk hjk) rfl Z5F rfl rfl (Z1e (row := [.int .i64 v]) rfl) rfl rfl (by rw [Hn.irl_len]; simp only [List.length_singleton]; omega) rfl ⟨b, cap, by rw [Hn.irl_len]; rfl⟩ (fun o206 ho206 => ?_)
 obtain ⟨b2, cap2, junk2, hfs2, hG2, hjk2⟩ := Hn.OSl.own2 o206 ho206
 rw [hfs2, hG2]
 simp only [List.cons_append, List.nil_append]
 refine pur 1 rfl ?_
 exact Z1c ⟨((b2, cap2), l ++ [v], tkn, junk2, tq6, mx6), ⟨by simp [hli], htl, ⟨_, by dsimp only; rw [Hn.nn_last hli]; exact hti2⟩, hjk2, by dsimp only; omega, by assumption⟩⟩ (fun w h => ((h.del b205).pull b16).pull bk)
 obtain rfl : i = 0 := by omega
 refine Z3 ?_
 exact Z1c ⟨((b, cap), l, tkn, junk, tq5, mx5), ⟨by dsimp only; omega, htl, ⟨_, hti⟩, hjk, by dsimp only; omega, by assumption⟩⟩ (fun w h => h.pull bk)
 rintro ⟨⟨⟨b, cap⟩, l, tkn, junk, tq6, mx6⟩, hmj⟩
 obtain ⟨hll, htl, ⟨p, hti⟩, hjk, htq6, hmx6⟩ := hmj
 dsimp only at hll htl hti hjk htq6 hmx6 ⊢
 have hvb := hti.bd
 have hcl := hch.len
 refine Z0 ?_
 refine Zc [0, 0, 3, 7, 0, 16, 63, 127, 255] (.tk 0 (.ld 1 (.tk 2 (.ld 3 (.tk 4 (.big 5 (tks 6 3 .done))))))) Zo (by kernel_rfl) ?_
 refine Zd 1 rfl (ld rfl rfl (lh sc3 rfl rfl) rfl (tk rfl (PE.indexAddr ZM rfl rfl (by omega) (by omega)) rfl (ld rfl rfl (lh sc3 rfl (Hn.int_at (by omega))) rfl (Zd 1 rfl ?_))))
 refine cl rfl Z0E rfl rfl (Gt.c_Below l0 a0 c0 bk hl0 _ _ (by omega) (by assumption) (5) _ _) ?_
 rintro _ _ R1 ⟨x212, m212, hx212, rfl, hm212, rfl, hR1⟩
 obtain rfl := hR1.symm
 clear hR1
 refine bg (fun w hs => ⟨(lh sc3 rfl (Hn.int_at (by omega))) w hs, (lh sc3 rfl rfl) w hs, trivial⟩) ?_
 refine tk rfl (PE.sub rfl rfl (by omega)) rfl (tk rfl (PE.max rfl rfl) rfl (Zd 1 rfl ?_))
 refine Zc [0, 1, 0, 0, 12, 28, 0, 0, 0, 384, 896, 0, 2048, 8064, 16256, 32704, 65532, 131068, 262143, 524287, 1048575] (.tk 0 (.ld 1 (.ld 2 (.ld 3 (.tk 4 (.ld 5 (.tk 6 (.tk 7 (.ld 8 (.tk 9 (.ld 10 (.tk 11 (.big 12 (tks 13 4 (.big 17 (.big 18 (.tk 19 (.big 20 .done)))))))))))))))))) Zo (by kernel_rfl) ?_
 refine tk rfl (PE.fA Zv rfl) rfl (ld rfl rfl (lh ZV rfl rfl) rfl (ld rfl rfl (lh Z0G rfl rfl) rfl (ld rfl rfl (lh sc3 rfl rfl) rfl (tk rfl (PE.indexAddr ZM rfl rfl (by omega) (by omega)) rfl (ld rfl rfl (lf0 (x := .int .i64 (Hn.nn hrs i)) sc3 (Hn.ir_nn (by omega)) rfl) rfl (Zd 2 rfl (ld rfl rfl (lh sc3 rfl rfl) rfl (tk rfl (PE.indexAddr ZM rfl rfl (by omega) (by omega)) rfl (ld rfl rfl (lh sc3 rfl (Hn.int_at (by omega))) rfl (Zd 1 rfl ?_))))))))))
 refine cl rfl Z0E rfl rfl (Gt.c_Below l0 a0 c0 bk hl0 _ _ (by omega) (by assumption) (5) _ _) ?_
 rintro _ _ R1 ⟨x227, m227, hx227, rfl, hm227, rfl, hR1⟩
 obtain rfl := hR1.symm
 clear hR1
 refine bg (fun w hs => ⟨(lh sc3 rfl (Hn.int_at (by omega))) w hs, (lh sc3 rfl rfl) w hs, (lf0 (x := .int .i64 (Hn.nn hrs i)) sc3 (Hn.ir_nn (by omega)) rfl) w hs, (lh sc3 rfl rfl) w hs, (lh Z0G rfl rfl) w hs, (lh ZV rfl rfl) w hs, trivial⟩) ?_
 refine tk rfl (PE.add rfl rfl (by omega)) rfl (tk rfl (PE.min rfl rfl) rfl (tk rfl (PE.build (out := [_, _]) Z6W Z5g rfl rfl) rfl (tk rfl (PE.build (out := [_, _, _]) Zd2 Z2p rfl rfl) rfl ?_)))
 refine bsl (out := [_, _, _]) rfl Z7l Z2p rfl rfl rfl rfl rfl rfl (fun b232 => ?_)
 refine bg (fun w hs => ⟨trivial, trivial, trivial, trivial, trivial, (lh ZV rfl rfl) w hs, trivial⟩) ?_
 refine apO (o) rfl Z5S rfl rfl (Z1e (row := Hn.crow ⟨Hn.nn hrs i, max 0 (Hn.nn l i - x212), min 500 (Hn.nn l i + x227)⟩) rfl) rfl rfl ((by rw [Hn.cr_len]; simp only [List.length_singleton]; omega)) rfl (fun o233 => ?_)
 refine bgT (tk rfl (PE.fA Zv rfl) rfl ?_)
 refine Z01 (l' := [.int .i64 x25, .int .i64 x27, .int .i64 (n30 : Nat), o233.fs, .slice a2 bks.length k2, .slice a3 sps.length k3]) rfl rfl rfl Zg1 rfl (by rw [o233.cells.1]; first | done | rfl) (by rw [o233.cells.1]; simp [o233.cells.2]) (by rw [o233.cells.1]; first | done | rfl) (by rw [o233.cells.1]; first | done | exact Nat.le_of_ble_eq_true rfl) ?_
 refine bgT (sqr 2 rfl (sp rfl (PE.add rfl rfl (by omega)) rfl (pur 1 rfl ?_)))
 exact Z6 ⟨⟨((i + 1, b, cap), cs ++ [⟨Hn.nn hrs i, max 0 (Hn.nn l i - x212), min 500 (Hn.nn l i + x227)⟩], l, tkn, junk, tq6 + 1 + 1, m227), ⟨by dsimp only; omega, by dsimp only; omega, htl, hti.count (by omega) (by omega), hch.snoc (by omega), hjk, by dsimp only; omega, by assumption⟩⟩, o233.cast (by simp [Hn.crows])⟩ (fun w h => (h.del b232).del b16)
 obtain rfl : i = hrs.length := by omega
 have hok := Hn.mdw_ok (x25 := x25) (x27 := x27) (n30 := n30) (by omega) (by omega) (by omega) hch hl17 hris hsb hbi (by omega) hsp (by omega)
 obtain ⟨a1, k1, he1, hk1, hf1⟩ := Hn.OSl.capC o
 rw [Hn.cr_len] at he1 hk1
 rw [he1]
 refine Sy.heap (fun w h => hf1 (h.pullG o.G)) ?_
 simp only [List.nil_append]
 obtain ⟨Kt, Zt, es, htru, htk⟩ := Hn.TI.tru (w := ⟨x25, x27, n30, cs, bks, sps⟩) hti
 refine Sy.heap (fun w h => St.rows (sz := 1) (rows := Hn.irows tkn) (rest := []) (by rw [Hn.irows_flat']; exact h.pull b106) (Hn.irows_one tkn)) ?_
 refine Z9 (Za (Za (Zl (sqt 6 rfl (spL rfl rfl (lhA (Hn.wtl ⟨x25, x27, n30, cs, bks, sps⟩ a1 a2 a3 k1 k2 k3) Z17 rfl rfl rfl) rfl (pur 2 rfl ?_))))))
 refine Z01 (l' := Hn.wtl ⟨x25, x27, n30, cs, bks, sps⟩ a1 a2 a3 k1 k2 k3) rfl rfl rfl Z3f rfl rfl rfl rfl (nl rfl) ?_
 refine pur 2 rfl (Z4 ?_)
 exact Zu (vs := [_, _, _]) rfl (.cons (RV.cell rfl (lhA (Hn.wtl ⟨x25, x27, n30, cs, bks, sps⟩ a1 a2 a3 k1 k2 k3) Z17 rfl rfl rfl)) (.cons (RV.tmp rfl) (.cons (RV.tmp rfl) .nil))) rfl ⟨⟨x25, x27, n30, cs, bks, sps⟩, a1, a2, a3, k1, k2, k3, b, b106, cap, l, tkn, Kt, Zt, es, tq5, mx5, hok, ⟨by show cs.length ≤ 7; omega, hk1⟩, ⟨by show l.length = cs.length; omega, by show (tkn.length : Int) = n30; omega⟩, htru, fun d hd => ⟨htk d hd, Hn.TI.tkb hti d hd⟩, by rw [htl]; rfl, by omega, hmx5, rfl, rfl⟩ (fun w h => St.sub ((((h.del b).del b9).del b11).del b6))
 exact ZO
 refine Zx ?_ ?_
 refine mkS rfl Z5F zl3 rfl rfl (Nat.le_refl _) ⟨by omega, by omega⟩ rfl (fun b106 => ?_)
 rw [Z8w]
 refine bgT ?_
 refine Z0K bk ?_
 refine cl rfl Z2Z rfl rfl (Gt.c_Among l0 a0 c0 bk hl0 _ _ (by omega) (by assumption) (250) (400) (by first | omega | (dsimp only; omega)) _ _) ?_
 rintro _ _ R1 ⟨x102, m102, hx102, rfl, hm102, rfl, hR1⟩
 obtain rfl := hR1.symm
 clear hR1
 refine bgT ?_
 refine bsl (out := [_]) rfl Z2r zl3 rfl rfl rfl rfl rfl rfl (fun b103 => ?_)
 refine bgT (Zd 2 rfl (Z0 (sqt 3 rfl (spL rfl rfl (lh Z0G rfl rfl) rfl (sp rfl (PE.lenSl Z0i rfl) rfl (pur 1 rfl (Z2 ?_)))))))
 refine Zb (ι := (x : {x : (Nat × Nat × Nat) × List Hn.Cnt × List Int × List Int × List Value × Int × Int // Hn.MI x27 bks sps hrs n30 tq x.1.1 x.1.2.2 x.2.1 x.2.2.1 x.2.2.2.1 x.2.2.2.2.1 x.2.2.2.2.2.1 x.2.2.2.2.2.2}) × OSl 89 3 (Hn.crows x.1.2.1)) (fun x => ⟨[(0, .pointer (some ⟨bk, 0, none⟩)), (6, .pointer (some ⟨b6, 0, none⟩)), (9, .pointer (some ⟨b9, 0, none⟩)), (11, .pointer (some ⟨b11, 0, none⟩)), (14, .slice (some ⟨x.1.1.1.2.1, 0, none⟩) x.1.1.2.2.1.length x.1.1.1.2.2), (15, .slice (some ⟨b106, 0, none⟩) n30 n30), (108, .int .i64 hrs.length), (109, .int .i64 (x.1.1.1.1 : Nat))],
   (bk, cel 96 [.slice a0 l0.length c0, .int .i64 (x.1.1.2.2.2.2.2.1), .int .u32 (x.1.1.2.2.2.2.2.2)]) :: (x.1.1.1.2.1, cel 3 (Zh x.1.1.2.2.1 ++ x.1.1.2.2.2.2.1)) :: (b106, cel 3 (Zh x.1.1.2.2.2.1 ++ [])) :: (x.2.G ++ (b11, cel 47 [.slice (some ⟨bh, oh, none⟩) hrs.length ch]) :: (b9, cel 71 [.int .i64 x25, .int .i64 x27, .int .i64 (n30 : Nat), x.2.fs, .slice a2 bks.length k2, .slice a3 sps.length k3]) :: (b6, cel 71 [.int .i64 0, .int .i64 0, .int .i64 0, .slice none 0 0, .slice none 0 0, .slice none 0 0]) :: H), RowsA a2 2 (Hn.bkrows bks) :: RowsA (some ⟨bh, oh, none⟩) 1 (Hn.irows hrs) :: RowsA a3 3 (Hn.sprows sps) :: R⟩) (fun x => hrs.length - x.1.1.1.1) ⟨⟨((0, b103, 1), [], [x102], List.replicate n30 0, [], tq4 + 1, m102), ⟨by dsimp only; omega, rfl, List.length_replicate, Hn.TI.start hB (by show 250 ≤ x102 ∧ x102 ≤ 400; omega) (by omega) n30, ⟨rfl, by simp⟩, ⟨rfl, by dsimp only; omega⟩, by dsimp only; omega, by assumption⟩⟩, OSl.nil _ _⟩ ?_ (fun x => ?_)
 exact Zf (fun w h => by simp only [List.append_nil]; exact ((h.pull b106).pull b103).pull bk)
 obtain ⟨⟨⟨⟨i, b, cap⟩, cs, l, tkn, junk, tq5, mx5⟩, hmi⟩, o⟩ := x
 obtain ⟨hi, hll, htl, hti, hch, hjk, htq5, hmx5⟩ := hmi
 dsimp only at hi hll htl hti hch hjk htq5 hmx5 o ⊢
 have hvb := hti.bd
 have hcl := hch.len
 refine sqt 1 rfl (pur 1 rfl (Z0 ?_))
 refine Z1 rfl ?_ ?_ <;> intro hc5 <;> try simp only [cS] at hc5
 refine Z3 (Z0 (Z2 (sqt 3 rfl (pur 1 rfl (alc rfl zl3 rfl (fun b16 => ?_))))))
 refine sto rfl rfl rfl cn3 rfl rfl rfl rfl ?_
 refine Z0 (sqt 2 rfl (spL rfl rfl (lh sc3 rfl rfl) rfl (pur 1 rfl ?_)))
 refine Z5i (ι := {x : (Nat × Nat) × List Int × List Int × List Value × Int × Int // Hn.MJ x27 bks sps hrs n30 tq i cs x.1.2 x.2.1 x.2.2.1 x.2.2.2.1 x.2.2.2.2.1 x.2.2.2.2.2}) (fun x => ⟨[(0, .pointer (some ⟨bk, 0, none⟩)), (6, .pointer (some ⟨b6, 0, none⟩)), (9, .pointer (some ⟨b9, 0, none⟩)), (11, .pointer (some ⟨b11, 0, none⟩)), (16, .pointer (some ⟨b16, 0, none⟩)), (14, .slice (some ⟨x.1.1.1, 0, none⟩) x.1.2.1.length x.1.1.2), (15, .slice (some ⟨b106, 0, none⟩) n30 n30), (108, .int .i64 hrs.length), (109, .int .i64 (i : Nat))], (bk, cel 96 [.slice a0 l0.length c0, .int .i64 (x.1.2.2.2.2.1), .int .u32 (x.1.2.2.2.2.2)]) :: (b16, cel 3 [.int .i64 (i : Nat)]) :: (x.1.1.1, cel 3 (Zh x.1.2.1 ++ x.1.2.2.2.1)) :: (b106, cel 3 (Zh x.1.2.2.1 ++ [])) :: (o.G ++ (b11, cel 47 [.slice (some ⟨bh, oh, none⟩) hrs.length ch]) :: (b9, cel 71 [.int .i64 x25, .int .i64 x27, .int .i64 (n30 : Nat), o.fs, .slice a2 bks.length k2, .slice a3 sps.length k3]) :: (b6, cel 71 [.int .i64 0, .int .i64 0, .int .i64 0, .slice none 0 0, .slice none 0 0, .slice none 0 0]) :: H), RowsA a2 2 (Hn.bkrows bks) :: RowsA (some ⟨bh, oh, none⟩) 1 (Hn.irows hrs) :: RowsA a3 3 (Hn.sprows sps) :: R⟩) ?_ ?_
 refine Z1 rfl ?_ ?_ <;> intro hc6 <;> try simp only [cS] at hc6
 have hpi := hnb i (by omega)
 have hpp := hnb (i - 1) (by omega)
 have hlt : Hn.nn hrs (i - 1) < Hn.nn hrs i := by have := hris (i - 1) (by omega); rwa [show i - 1 + 1 = i from by omega] at this
 have hmu := Gt.mul_b (a := x27) (b := Hn.nn hrs i - Hn.nn hrs (i - 1)) (A := 3) (B := 60) (by omega) (by omega) (by omega) (by omega)
 have hli : l.length = i := by omega
 refine sqt 6 rfl (pur 1 rfl (spL rfl rfl (lh sc3 rfl rfl) rfl (sp rfl (PE.sub rfl rfl (by omega)) rfl ?_)))
 rw [show (i : Int) - 1 = ((i - 1 : Nat) : Int) from by omega]
 refine sp rfl (PE.indexAddr ZM rfl rfl (by omega) (by omega)) rfl (spL rfl rfl (lh sc3 rfl (Hn.int_at (by omega))) rfl (pur 1 rfl (Z0 (sqt 4 rfl (sp rfl (PE.fA Z1g rfl) rfl (spL rfl rfl (lh Z5o rfl rfl) rfl (sp rfl (PE.lenSl Z4E rfl) rfl (pur 1 rfl (Z2 ?_)))))))))
 refine Zb (ι := {x : Nat × Int // x.1 ≤ bks.length ∧ x.2 = Hn.nn l (i - 1) + Hn.stB (Hn.nn hrs (i - 1)) (Hn.nn hrs i) (bks.take x.1)}) (fun x => ⟨[(0, .pointer (some ⟨bk, 0, none⟩)), (6, .pointer (some ⟨b6, 0, none⟩)), (9, .pointer (some ⟨b9, 0, none⟩)), (11, .pointer (some ⟨b11, 0, none⟩)), (16, .pointer (some ⟨b16, 0, none⟩)), (14, .slice (some ⟨b, 0, none⟩) l.length cap), (15, .slice (some ⟨b106, 0, none⟩) n30 n30), (108, .int .i64 hrs.length), (109, .int .i64 (i : Nat)), (17, .int .i64 x.1.2), (120, .slice a2 bks.length k2), (121, .int .i64 bks.length), (122, .int .i64 x.1.1)], (bk, cel 96 [.slice a0 l0.length c0, .int .i64 (tq5), .int .u32 (mx5)]) :: (b16, cel 3 [.int .i64 (i : Nat)]) :: (b, cel 3 (Zh l ++ junk)) :: (b106, cel 3 (Zh tkn ++ [])) :: (o.G ++ (b11, cel 47 [.slice (some ⟨bh, oh, none⟩) hrs.length ch]) :: (b9, cel 71 [.int .i64 x25, .int .i64 x27, .int .i64 (n30 : Nat), o.fs, .slice a2 bks.length k2, .slice a3 sps.length k3]) :: (b6, cel 71 [.int .i64 0, .int .i64 0, .int .i64 0, .slice none 0 0, .slice none 0 0, .slice none 0 0]) :: H), RowsA a2 2 (Hn.bkrows bks) :: RowsA (some ⟨bh, oh, none⟩) 1 (Hn.irows hrs) :: RowsA a3 3 (Hn.sprows sps) :: R⟩) (fun x => bks.length - x.1.1) ⟨(0, Hn.nn l (i - 1)), Nat.zero_le _, by simp [Hn.stB]⟩ ?_ (fun x => ?_)
 exact Zf (fun w h => h.pull bk)
 obtain ⟨⟨k, z⟩, hk, hz⟩ := x
 dsimp only at hk hz ⊢
 have hzb := Hn.stB_bd (y := Hn.nn hrs (i - 1)) (z := Hn.nn hrs i) (bs := bks.take k) (fun b hb => (hbi.all b (List.mem_of_mem_take hb)).2.1)
 rw [List.length_take, Nat.min_eq_left hk] at hzb
 refine sqt 1 rfl (pur 1 rfl (Z0 ?_))
 refine Z1 rfl ?_ ?_ <;> intro hc7 <;> try simp only [cS] at hc7
 obtain ⟨x, hx⟩ : ∃ x, bks[k]? = some x := ⟨_, List.getElem?_eq_getElem (by omega)⟩
 have hxb := (hbi.all x (List.mem_of_getElem? hx)).2.1
 refine Zg (a := a2) (sz := 2) (rows := Hn.bkrows bks) (by intro h0; have := Hn.bkr_len bks; rw [h0] at this; simp at this; omega) (fun bb ob heqbb => ?_)
 subst heqbb
 refine Z3 (Z0 (Z2 (sqt 4 rfl (sp rfl (PE.indexAddr ZcT rfl rfl (by omega) (by omega)) rfl (spL rfl rfl (lfA Z4X (row := Hn.bkrow x) (Hn.bk_get hx) rfl) rfl (alc rfl Z50 rfl (fun b19 => ?_)))))))
 refine sto rfl rfl rfl Z7k rfl rfl rfl rfl ?_
 refine Z0 ?_
 refine Zc [0, 1, 0, 0, 8, 28, 60, 127, 255, 511, 1023, 511, 511, 6655, 14847, 32767, 65535] (.tk 0 (.ld 1 (.ld 2 (.ld 3 (.tk 4 (.tk 5 (.ld 6 (tks 7 3 (.ld 10 (.ld 11 (.ld 12 (.tk 13 (.ld 14 (.tk 15 (.tk 16 .done))))))))))))))) Zo (by kernel_rfl) ?_
 refine tk rfl (PE.fA Z0C rfl) rfl (ld rfl rfl (lh sc3 rfl rfl) rfl (ld rfl rfl (lh Z0G rfl rfl) rfl (ld rfl rfl (lh sc3 rfl rfl) rfl (tk rfl (PE.sub rfl rfl (by omega)) rfl ?_))))
 rw [show (i : Int) - 1 = ((i - 1 : Nat) : Int) from by omega]
 refine tk rfl (PE.indexAddr ZM rfl rfl (by omega) (by omega)) rfl (ld rfl rfl (lf0 (x := .int .i64 (Hn.nn hrs (i - 1))) sc3 (Hn.ir_nn (by omega)) rfl) rfl (Zd 2 rfl ?_))
 refine Zk 134 rfl ?_ ?_ <;> intro g134
 try simp only [cS] at g134
 refine tkG rfl rfl rfl rfl (PE.fA Z0C rfl) rfl ?_
 refine ldG rfl rfl rfl rfl rfl (lh sc3 rfl rfl) rfl (ldG rfl rfl rfl rfl rfl (lh Z0G rfl rfl) rfl (ldG rfl rfl rfl rfl rfl (lh sc3 rfl rfl) rfl ?_))
 refine tkG rfl rfl rfl rfl (PE.indexAddr ZM rfl rfl (by omega) (by omega)) rfl ?_
 refine ldG rfl rfl rfl rfl rfl (lf0 (x := .int .i64 (Hn.nn hrs i)) sc3 (Hn.ir_nn (by omega)) rfl) rfl (Zd 2 rfl ?_)
 refine Z1 rfl ?_ ?_ <;> intro hc8 <;> try simp only [cS] at hc8
 refine sqr 5 rfl (pur 1 rfl (sp rfl (PE.fA Z0X rfl) rfl (spL rfl rfl (lh sc3 rfl rfl) rfl (sp rfl (PE.add rfl rfl (by omega)) rfl (pur 1 rfl (sqr 2 rfl (sp rfl (PE.add rfl rfl (by omega)) rfl (pur 1 rfl ?_))))))))
 exact Z6 ⟨(k + 1, z + x.sacks), by dsimp only; omega, by dsimp only; rw [Hn.stB_snoc hx, if_pos (by omega), hz]; omega⟩ (fun w h => h.del b19)
 refine Z3 (sqr 2 rfl (sp rfl (PE.add rfl rfl (by omega)) rfl (pur 1 rfl ?_)))
 exact Z6 ⟨(k + 1, z), by dsimp only; omega, by dsimp only; rw [Hn.stB_snoc hx, if_neg (by omega), hz]; omega⟩ (fun w h => h.del b19)
 try simp only [cS] at g134
 refine Zd 1 rfl ?_
 repeat refine ldN rfl rfl rfl rfl rfl rfl rfl rfl ?_
 refine Zd 1 rfl ?_
 refine ldN rfl rfl rfl rfl rfl rfl rfl rfl ?_
 refine Zd 2 rfl ?_
 refine ZC rfl ?_
 refine Z3 (sqr 2 rfl (sp rfl (PE.add rfl rfl (by omega)) rfl (pur 1 rfl ?_)))
 exact Z6 ⟨(k + 1, z), by dsimp only; omega, by dsimp only; rw [Hn.stB_snoc hx, if_neg (by omega), hz]; omega⟩ (fun w h => h.del b19)
 obtain rfl : k = bks.length := by omega
 rw [List.take_length] at hz
 refine Z9 (Za (Za (Zl (Z0 ?_))))
 refine Zc [0, 0, 2, 6, 0, 0, 32, 0, 0, 384, 896, 0, 0, 4096, 14336, 30720, 65408, 131040, 262112, 524272, 1048574, 2097151, 4194303] (tks 0 6 (.ld 6 (.ld 7 (.ld 8 (.tk 9 (.ld 10 (.ld 11 (.ld 12 (.tk 13 (.tk 14 (.ld 15 (tks 16 3 (.big 19 (tks 20 3 .done)))))))))))))) Zo (by kernel_rfl) ?_
 refine Zd 2 rfl (tk rfl (PE.sub rfl rfl (by omega)) rfl (tk rfl (PE.max rfl rfl) rfl (Zd 1 rfl (tk rfl (PE.fA Z32 rfl) rfl (ld rfl rfl (lh sc3 rfl rfl) rfl (ld rfl rfl (lh Z0G rfl rfl) rfl (ld rfl rfl (lh sc3 rfl rfl) rfl (tk rfl (PE.indexAddr ZM rfl rfl (by omega) (by omega)) rfl (ld rfl rfl (lf0 (x := .int .i64 (Hn.nn hrs i)) sc3 (Hn.ir_nn (by omega)) rfl) rfl (ld rfl rfl (lh Z0G rfl rfl) rfl (ld rfl rfl (lh sc3 rfl rfl) rfl (tk rfl (PE.sub rfl rfl (by omega)) rfl ?_))))))))))))
 rw [show (i : Int) - 1 = ((i - 1 : Nat) : Int) from by omega]
 refine tk rfl (PE.indexAddr ZM rfl rfl (by omega) (by omega)) rfl (ld rfl rfl (lf0 (x := .int .i64 (Hn.nn hrs (i - 1))) sc3 (Hn.ir_nn (by omega)) rfl) rfl (tk rfl (PE.sub rfl rfl (by omega)) rfl (tk rfl (PE.mul rfl rfl (by omega)) rfl (tk rfl (PE.add rfl rfl (by omega)) rfl ?_))))
 refine cl rfl Z0E rfl rfl (Gt.c_Below l0 a0 c0 bk hl0 _ _ (by omega) (by assumption) (x27 * (Hn.nn hrs i - Hn.nn hrs (i - 1)) + 1) _ _) ?_
 rintro _ _ R1 ⟨x167, m167, hx167, rfl, hm167, rfl, hR1⟩
 obtain rfl := hR1.symm
 clear hR1
 have hti2 := hti.eat (by omega) hB hlt (z := min (max 0 (z - 100)) x167) (by omega) (by omega) (by omega)
 rw [← hz] at hti2
 refine bgT (tk rfl (PE.min rfl rfl) rfl (tk rfl (PE.sub rfl rfl (by omega)) rfl (Zd 1 rfl (Z0 (sqt 3 rfl (sp rfl (PE.fA ZW rfl) rfl (spL rfl rfl (lh sc3 rfl rfl) rfl (pur 1 rfl (Z2 ?_)))))))))
 refine Zb (ι := {x : Nat × Int × List Int × Int × Int // x.1 ≤ n30 ∧ x.2.2.1.length = n30 ∧ Hn.TI x27 bks sps cs (Hn.nn hrs (i - 1)) (Hn.nn hrs i) x.2.1 x.2.2.1 ∧ (tq5 + 1 ≤ x.2.2.2.1 ∧ x.2.2.2.1 ≤ tq5 + 1 + 2 * x.1) ∧ (0 ≤ x.2.2.2.2 ∧ x.2.2.2.2 ≤ 4294967295)}) (fun x => ⟨[(0, .pointer (some ⟨bk, 0, none⟩)), (6, .pointer (some ⟨b6, 0, none⟩)), (9, .pointer (some ⟨b9, 0, none⟩)), (11, .pointer (some ⟨b11, 0, none⟩)), (16, .pointer (some ⟨b16, 0, none⟩)), (14, .slice (some ⟨b, 0, none⟩) l.length cap), (15, .slice (some ⟨b106, 0, none⟩) n30 n30), (108, .int .i64 hrs.length), (109, .int .i64 (i : Nat)), (17, .int .i64 x.1.2.1), (171, .int .i64 (n30 : Nat)), (172, .int .i64 x.1.1)], (bk, cel 96 [.slice a0 l0.length c0, .int .i64 (x.1.2.2.2.1), .int .u32 (x.1.2.2.2.2)]) :: (b16, cel 3 [.int .i64 (i : Nat)]) :: (b, cel 3 (Zh l ++ junk)) :: (b106, cel 3 (Zh x.1.2.2.1 ++ [])) :: (o.G ++ (b11, cel 47 [.slice (some ⟨bh, oh, none⟩) hrs.length ch]) :: (b9, cel 71 [.int .i64 x25, .int .i64 x27, .int .i64 (n30 : Nat), o.fs, .slice a2 bks.length k2, .slice a3 sps.length k3]) :: (b6, cel 71 [.int .i64 0, .int .i64 0, .int .i64 0, .slice none 0 0, .slice none 0 0, .slice none 0 0]) :: H), RowsA a2 2 (Hn.bkrows bks) :: RowsA (some ⟨bh, oh, none⟩) 1 (Hn.irows hrs) :: RowsA a3 3 (Hn.sprows sps) :: R⟩) (fun x => n30 - x.1.1) ⟨(0, z - min (max 0 (z - 100)) x167, tkn, tq5 + 1, m167), Nat.zero_le _, htl, hti2, by dsimp only; omega, by assumption⟩ ?_ (fun x => ?_)
 exact Zf idH
 clear hti2
 obtain ⟨⟨k, v, tkn, tq6, mx6⟩, hk, htl, hti2, htq6, hmx6⟩ := x
 dsimp only at hk htl hti2 htq6 hmx6 ⊢
 have hvb2 := hti2.bd
 refine sqt 1 rfl (pur 1 rfl (Z0 ?_))
 refine Z1 rfl ?_ ?_ <;> intro hc9 <;> try simp only [cS] at hc9
 have hkb := Hn.TI.tkb hti2 k (by omega)
 refine Z3 (Z0 (Z2 (sqt 3 rfl (pur 1 rfl (alc rfl zl3 rfl (fun b20 => ?_))))))
 refine sto rfl rfl rfl cn3 rfl rfl rfl rfl ?_
 refine sqt 5 rfl ?_
 refine Z0K bk ?_
 refine sp rfl (PE.fA Z0O rfl) rfl (spL rfl rfl (lh Z1P rfl rfl) rfl (sp rfl (PE.makeFunc rfl rfl) rfl ?_))
 refine cl rfl Z8V rfl rfl (Hn.c_has_spl sps a3 k3 50 [] [.pointer (some ⟨b20, 0, none⟩), .pointer (some ⟨b11, 0, none⟩), .pointer (some ⟨b16, 0, none⟩)] (Hn.thereH hrs i k) Zcc (by omega) _ _ (fun x hx => Z3y hrs bh oh ch i (by omega) (by omega) x k b20 b11 b16 _ _)) ?_
 rintro _ _ R1 ⟨rfl, rfl, hR1⟩
 obtain rfl := hR1.symm
 clear hR1
 refine pur 1 rfl (sqt 5 rfl (pur 2 rfl ?_))
 refine Zk 180 rfl ?_ ?_ <;> intro g180
 refine pur 1 rfl ?_
 refine clG rfl rfl rfl rfl Z9G rfl rfl (Gt.c_Rare l0 a0 c0 bk hl0 _ _ (by omega) (by assumption) (3) _ _) ?_
 rintro _ _ R1 ⟨x182, m182, rfl, hm182, rfl, hR1⟩
 obtain rfl := hR1.symm
 clear hR1
 refine pur 1 rfl ?_
 refine Z1 rfl ?_ ?_ <;> intro hc10
 refine sqt 7 rfl (pur 1 rfl (sp rfl (PE.sub rfl rfl (by omega)) rfl (sp rfl (PE.max rfl rfl) rfl (pur 1 rfl ?_))))
 refine cl rfl Z2Z rfl rfl (Gt.c_Among l0 a0 c0 bk hl0 _ _ (by omega) (by assumption) (1) (20) (by first | omega | (dsimp only; omega)) _ _) ?_
 rintro _ _ R1 ⟨x188, m188, hx188, rfl, hm188, rfl, hR1⟩
 obtain rfl := hR1.symm
 clear hR1
 refine sp rfl (PE.min rfl rfl) rfl (pur 1 rfl ?_)
 refine Zc [0, 0, 0, 0, 12, 28, 0, 124, 0, 0, 768, 255, 2303, 8191] (.tk 0 (.ld 1 (.tk 2 (.ld 3 (.tk 4 (.ld 5 (tks 6 6 (.big 12 (.tk 13 .done))))))))) Zo (by kernel_rfl) ?_
 refine Zd 1 rfl (ld rfl rfl (lh sc3 rfl rfl) rfl (Zd 1 rfl (ld rfl rfl (lh sc3 rfl rfl) rfl (tk rfl (PE.indexAddr ZM rfl rfl (by omega) (by omega)) rfl (ld rfl rfl (lh sc3 rfl (Hn.int_at (by omega))) rfl (Zd 1 rfl (tk rfl (PE.add rfl rfl (by omega)) rfl (Zd 2 rfl (tk rfl (PE.sub rfl rfl (by omega)) rfl (tk rfl (PE.indexAddr ZM rfl rfl (by omega) (by omega)) rfl ?_))))))))))
 refine Z01 (l' := Zh (tkn.set k (Hn.nn tkn k + min (max 0 (v - 100)) x188)) ++ []) rfl rfl rfl cn3 rfl rfl rfl (Hn.spl_int (by omega) _) (by rw [List.length_append, Hn.ints_length]; show 0 + ((k : Nat) : Int).toNat * 1 + 1 ≤ _; omega) ?_
 refine bgT (Zd 1 rfl (sqr 2 rfl (sp rfl (PE.add rfl rfl (by omega)) rfl (pur 1 rfl ?_))))
 obtain ⟨s, hs1, hs2⟩ := List.any_eq_true.1 g180
 simp only [Hn.thereH, Bool.and_eq_true, decide_eq_true_eq] at hs2
 have hs3 := (hsp.all s hs1).2.2.2
 exact Z6 ⟨(k + 1, v - min (max 0 (v - 100)) x188, tkn.set k (Hn.nn tkn k + min (max 0 (v - 100)) x188), tq6 + 1 + 1, m188), by dsimp only; omega, by rw [List.length_set]; exact htl, hti2.steal hB hlt hs1 hs2.1.2 hs2.2 hs3 hs2.1.1 (by omega) (by omega) (by omega), by dsimp only; omega, by assumption⟩ (fun w h => h.del b20)
 refine Z3 (sqr 2 rfl (sp rfl (PE.add rfl rfl (by omega)) rfl (pur 1 rfl ?_)))
 exact Z6 ⟨(k + 1, v, tkn, tq6 + 1, m182), by dsimp only; omega, htl, hti2, by dsimp only; omega, by assumption⟩ (fun w h => h.del b20)
 refine pur 3 rfl ?_
 refine ZC rfl ?_
 refine Z3 (sqr 2 rfl (sp rfl (PE.add rfl rfl (by omega)) rfl (pur 1 rfl ?_)))
 exact Z6 ⟨(k + 1, v, tkn, tq6, mx6), by dsimp only; omega, htl, hti2, by dsimp only; omega, by assumption⟩ (fun w h => h.del b20)
 obtain rfl : k = n30 := by omega
 refine Z9 (Za (Za (Zl (sqr 5 rfl (pur 2 rfl ?_)))))
 refine bsl (out := [_]) rfl Z2r zl3 rfl rfl rfl rfl rfl rfl (fun b205 => ?_)
 refine Sy.heap (fun w h => h.pull b) ?_
 show Sy _ _ _ ((Hn.SKo l b cap junk hjk).G ++ _) _ _
 refine Zb6 (Hn.SKo l b cap junk hjk) rfl Z5F rfl rfl (Z1e (row := [.int .i64 v]) rfl) rfl rfl (by rw [Hn.irl_len]; simp only [List.length_singleton]; omega) rfl ⟨b, cap, by rw [Hn.irl_len]; rfl⟩ (fun o206 ho206 => ?_)
 obtain ⟨b2, cap2, junk2, hfs2, hG2, hjk2⟩ := Hn.OSl.own2 o206 ho206
 rw [hfs2, hG2]
 simp only [List.cons_append, List.nil_append]
 refine pur 1 rfl ?_
 exact Z1c ⟨((b2, cap2), l ++ [v], tkn, junk2, tq6, mx6), ⟨by simp [hli], htl, ⟨_, by dsimp only; rw [Hn.nn_last hli]; exact hti2⟩, hjk2, by dsimp only; omega, by assumption⟩⟩ (fun w h => ((h.del b205).pull b16).pull bk)
 obtain rfl : i = 0 := by omega
 refine Z3 ?_
 exact Z1c ⟨((b, cap), l, tkn, junk, tq5, mx5), ⟨by dsimp only; omega, htl, ⟨_, hti⟩, hjk, by dsimp only; omega, by assumption⟩⟩ (fun w h => h.pull bk)
 rintro ⟨⟨⟨b, cap⟩, l, tkn, junk, tq6, mx6⟩, hmj⟩
 obtain ⟨hll, htl, ⟨p, hti⟩, hjk, htq6, hmx6⟩ := hmj
 dsimp only at hll htl hti hjk htq6 hmx6 ⊢
 have hvb := hti.bd
 have hcl := hch.len
 refine Z0 ?_
 refine Zc [0, 0, 3, 7, 0, 16, 63, 127, 255] (.tk 0 (.ld 1 (.tk 2 (.ld 3 (.tk 4 (.big 5 (tks 6 3 .done))))))) Zo (by kernel_rfl) ?_
 refine Zd 1 rfl (ld rfl rfl (lh sc3 rfl rfl) rfl (tk rfl (PE.indexAddr ZM rfl rfl (by omega) (by omega)) rfl (ld rfl rfl (lh sc3 rfl (Hn.int_at (by omega))) rfl (Zd 1 rfl ?_))))
 refine cl rfl Z0E rfl rfl (Gt.c_Below l0 a0 c0 bk hl0 _ _ (by omega) (by assumption) (5) _ _) ?_
 rintro _ _ R1 ⟨x212, m212, hx212, rfl, hm212, rfl, hR1⟩
 obtain rfl := hR1.symm
 clear hR1
 refine bg (fun w hs => ⟨(lh sc3 rfl (Hn.int_at (by omega))) w hs, (lh sc3 rfl rfl) w hs, trivial⟩) ?_
 refine tk rfl (PE.sub rfl rfl (by omega)) rfl (tk rfl (PE.max rfl rfl) rfl (Zd 1 rfl ?_))
 refine Zc [0, 1, 0, 0, 12, 28, 0, 0, 0, 384, 896, 0, 2048, 8064, 16256, 32704, 65532, 131068, 262143, 524287, 1048575] (.tk 0 (.ld 1 (.ld 2 (.ld 3 (.tk 4 (.ld 5 (.tk 6 (.tk 7 (.ld 8 (.tk 9 (.ld 10 (.tk 11 (.big 12 (tks 13 4 (.big 17 (.big 18 (.tk 19 (.big 20 .done)))))))))))))))))) Zo (by kernel_rfl) ?_
 refine tk rfl (PE.fA Zv rfl) rfl (ld rfl rfl (lh ZV rfl rfl) rfl (ld rfl rfl (lh Z0G rfl rfl) rfl (ld rfl rfl (lh sc3 rfl rfl) rfl (tk rfl (PE.indexAddr ZM rfl rfl (by omega) (by omega)) rfl (ld rfl rfl (lf0 (x := .int .i64 (Hn.nn hrs i)) sc3 (Hn.ir_nn (by omega)) rfl) rfl (Zd 2 rfl (ld rfl rfl (lh sc3 rfl rfl) rfl (tk rfl (PE.indexAddr ZM rfl rfl (by omega) (by omega)) rfl (ld rfl rfl (lh sc3 rfl (Hn.int_at (by omega))) rfl (Zd 1 rfl ?_))))))))))
 refine cl rfl Z0E rfl rfl (Gt.c_Below l0 a0 c0 bk hl0 _ _ (by omega) (by assumption) (5) _ _) ?_
 rintro _ _ R1 ⟨x227, m227, hx227, rfl, hm227, rfl, hR1⟩
 obtain rfl := hR1.symm
 clear hR1
 refine bg (fun w hs => ⟨(lh sc3 rfl (Hn.int_at (by omega))) w hs, (lh sc3 rfl rfl) w hs, (lf0 (x := .int .i64 (Hn.nn hrs i)) sc3 (Hn.ir_nn (by omega)) rfl) w hs, (lh sc3 rfl rfl) w hs, (lh Z0G rfl rfl) w hs, (lh ZV rfl rfl) w hs, trivial⟩) ?_
 refine tk rfl (PE.add rfl rfl (by omega)) rfl (tk rfl (PE.min rfl rfl) rfl (tk rfl (PE.build (out := [_, _]) Z6W Z5g rfl rfl) rfl (tk rfl (PE.build (out := [_, _, _]) Zd2 Z2p rfl rfl) rfl ?_)))
 refine bsl (out := [_, _, _]) rfl Z7l Z2p rfl rfl rfl rfl rfl rfl (fun b232 => ?_)
 refine bg (fun w hs => ⟨trivial, trivial, trivial, trivial, trivial, (lh ZV rfl rfl) w hs, trivial⟩) ?_
 refine apO (o) rfl Z5S rfl rfl (Z1e (row := Hn.crow ⟨Hn.nn hrs i, max 0 (Hn.nn l i - x212), min 500 (Hn.nn l i + x227)⟩) rfl) rfl rfl ((by rw [Hn.cr_len]; simp only [List.length_singleton]; omega)) rfl (fun o233 => ?_)
 refine bgT (tk rfl (PE.fA Zv rfl) rfl ?_)
 refine Z01 (l' := [.int .i64 x25, .int .i64 x27, .int .i64 (n30 : Nat), o233.fs, .slice a2 bks.length k2, .slice a3 sps.length k3]) rfl rfl rfl Zg1 rfl (by rw [o233.cells.1]; first | done | rfl) (by rw [o233.cells.1]; simp [o233.cells.2]) (by rw [o233.cells.1]; first | done | rfl) (by rw [o233.cells.1]; first | done | exact Nat.le_of_ble_eq_true rfl) ?_
 refine bgT (sqr 2 rfl (sp rfl (PE.add rfl rfl (by omega)) rfl (pur 1 rfl ?_)))
 exact Z6 ⟨⟨((i + 1, b, cap), cs ++ [⟨Hn.nn hrs i, max 0 (Hn.nn l i - x212), min 500 (Hn.nn l i + x227)⟩], l, tkn, junk, tq6 + 1 + 1, m227), ⟨by dsimp only; omega, by dsimp only; omega, htl, hti.count (by omega) (by omega), hch.snoc (by omega), hjk, by dsimp only; omega, by assumption⟩⟩, o233.cast (by simp [Hn.crows])⟩ (fun w h => (h.del b232).del b16)
 obtain rfl : i = hrs.length := by omega
 have hok := Hn.mdw_ok (x25 := x25) (x27 := x27) (n30 := n30) (by omega) (by omega) (by omega) hch hl17 hris hsb hbi (by omega) hsp (by omega)
 obtain ⟨a1, k1, he1, hk1, hf1⟩ := Hn.OSl.capC o
 rw [Hn.cr_len] at he1 hk1
 rw [he1]
 refine Sy.heap (fun w h => hf1 (h.pullG o.G)) ?_
 simp only [List.nil_append]
 obtain ⟨Kt, Zt, es, htru, htk⟩ := Hn.TI.tru (w := ⟨x25, x27, n30, cs, bks, sps⟩) hti
 refine Sy.heap (fun w h => St.rows (sz := 1) (rows := Hn.irows tkn) (rest := []) (by rw [Hn.irows_flat']; exact h.pull b106) (Hn.irows_one tkn)) ?_
 refine Z9 (Za (Za (Zl (sqt 6 rfl (spL rfl rfl (lhA (Hn.wtl ⟨x25, x27, n30, cs, bks, sps⟩ a1 a2 a3 k1 k2 k3) Z17 rfl rfl rfl) rfl (pur 2 rfl ?_))))))
 refine Z01 (l' := Hn.wtl ⟨x25, x27, n30, cs, bks, sps⟩ a1 a2 a3 k1 k2 k3) rfl rfl rfl Z3f rfl rfl rfl rfl (nl rfl) ?_
 refine pur 2 rfl (Z4 ?_)
 exact Zu (vs := [_, _, _]) rfl (.cons (RV.cell rfl (lhA (Hn.wtl ⟨x25, x27, n30, cs, bks, sps⟩ a1 a2 a3 k1 k2 k3) Z17 rfl rfl rfl)) (.cons (RV.tmp rfl) (.cons (RV.tmp rfl) .nil))) rfl ⟨⟨x25, x27, n30, cs, bks, sps⟩, a1, a2, a3, k1, k2, k3, b, b106, cap, l, tkn, Kt, Zt, es, tq5, mx5, hok, ⟨by show cs.length ≤ 7; omega, hk1⟩, ⟨by show l.length = cs.length; omega, by show (tkn.length : Int) = n30; omega⟩, htru, fun d hd => ⟨htk d hd, Hn.TI.tkb hti d hd⟩, by rw [htl]; rfl, by omega, hmx5, rfl, rfl⟩ (fun w h => St.sub ((((h.del b).del b9).del b11).del b6))
 exact ZO
theorem Zdk : Z0Z Tryz.prog 86 = some 3 := by kernel_rfl
theorem Zio : apT Tryz.prog 78 = some (47, 1, 24) := by kernel_rfl
theorem Zgf : cal Tryz.prog 18 = true := by kernel_rfl
theorem ZgS : cal Tryz.prog 20 = true := by kernel_rfl
theorem Zd6 : cal Tryz.prog 21 = true := by kernel_rfl
theorem Zhp : cal Tryz.prog 23 = true := by kernel_rfl
theorem ZgH : cal Tryz.prog 24 = true := by kernel_rfl
theorem ZbN : cal Tryz.prog 25 = true := by kernel_rfl
theorem Zbj : cal Tryz.prog 26 = true := by kernel_rfl
theorem Zgh : cal Tryz.prog 27 = true := by kernel_rfl
theorem Zhl : cal Tryz.prog 28 = true := by kernel_rfl
theorem ZfR : ZN Tryz.prog 86 = some 3 := by kernel_rfl
theorem Zh2 : elN Tryz.prog 50 = some 3 := by kernel_rfl
theorem Zcs : elN Tryz.prog 78 = some 1 := by kernel_rfl
theorem Z38 : ZF Tryz.prog 86 0 = some 0 := by kernel_rfl
theorem Z4u : ZF Tryz.prog 86 1 = some 1 := by kernel_rfl
theorem Z7t : ZF Tryz.prog 86 2 = some 2 := by kernel_rfl
theorem Z0h : ZF Tryz.prog 89 0 = some 0 := by kernel_rfl
theorem Z6t : Z1W Tryz.prog 50 = true := by kernel_rfl
theorem Z0m : Z1W Tryz.prog 67 = true := by kernel_rfl
theorem Z5d : Z1W Tryz.prog 78 = true := by kernel_rfl
theorem ub4 : Tryz.prog.underlying 4 = some .bool := by kernel_rfl
namespace Lo
def dlOf (l : List (Nat × List Int)) : List PL := l.map fun x => ⟨some ⟨x.1, 0, none⟩, x.2.length, x.2⟩
def DB (l : List (Nat × List Int)) : Z7 := l.map fun x => (x.1, cel 3 (Zh x.2))
theorem dlOf_len (l : List (Nat × List Int)) : (dlOf l).length = l.length := List.length_map _
theorem DB_pull : ∀ {l : List (Nat × List Int)} {k : Nat} {x : Nat × List Int}, l[k]? = some x → (DB l).Perm ((x.1, cel 3 (Zh x.2)) :: DB (l.eraseIdx k))
  | y :: l, 0, x, h => by
    simp only [List.getElem?_cons_zero, Option.some.injEq] at h
    subst h; exact .refl _
  | y :: l, k + 1, x, h => by
    have ih := DB_pull (l := l) (k := k) (x := x) (by simpa using h)
    exact (List.Perm.cons _ ih).trans (.swap _ _ _)
theorem DB_push : ∀ {l : List (Nat × List Int)} {k : Nat} {x : Nat × List Int}, k < l.length → ((x.1, cel 3 (Zh x.2)) :: DB (l.eraseIdx k)).Perm (DB (l.set k x))
  | y :: l, 0, x, h => .refl _
  | y :: l, k + 1, x, h => by
    have ih := DB_push (l := l) (k := k) (x := x) (by simpa using h)
    exact (List.Perm.swap _ _ _).trans (List.Perm.cons _ ih)
theorem DB_snoc (l : List (Nat × List Int)) (x : Nat × List Int) (X : Z7) : ((x.1, cel 3 (Zh x.2)) :: (DB l ++ X)).Perm (DB (l ++ [x]) ++ X) := by
  have e : DB (l ++ [x]) = DB l ++ [(x.1, cel 3 (Zh x.2))] := by simp [DB]
  rw [e, List.append_assoc]
  exact List.perm_middle.symm
theorem St.inns : ∀ {l : List (Nat × List Int)} {H : Z7} {R : Z5} {w : World}, St (DB l ++ H) R w → St H (Inn (dlOf l) :: R) w
  | [], H, R, w, h => St.also h (f := Inn []) (fun w9 _ => Z79 w9)
  | x :: l, H, R, w, h => by
    have h1 : St (DB l ++ H) (RowsA (some ⟨x.1, 0, none⟩) 1 (irows x.2) :: R) w := St.rows (e := 3) (sz := 1) (rows := irows x.2) (rest := []) (by rw [irows_flat', List.append_nil]; exact h) (Z4H _)
    have h2 := St.inns (l := l) h1
    have h3 := h2.also (f := Inn (dlOf (x :: l))) (fun w' hw y hy => by
      rcases List.mem_cons.1 hy with rfl | hy
      · exact hw (RowsA (some ⟨x.1, 0, none⟩) 1 (irows x.2)) (by simp)
      · exact hw (Inn (dlOf l)) (by simp) y hy)
    exact h3.facts (fun g hg => by rcases List.mem_cons.1 hg with h4 | h4 <;> simp [h4])
def slv (x : Nat × List Int) : Value := .slice (some ⟨x.1, 0, none⟩) x.2.length x.2.length
theorem plr_one (l : List PL) : ∀ r ∈ plrows l, r.length = 1 := fun r hr => by obtain ⟨x, _, rfl⟩ := List.mem_map.1 hr; rfl
theorem pl_fl (l : List (Nat × List Int)) : (plrows (dlOf l)).flatten = l.map slv := by
  induction l with
  | nil => rfl
  | cons x l ih => show plrow _ ++ (plrows (dlOf l)).flatten = _; rw [ih]; rfl
theorem slv_put {l : List (Nat × List Int)} {x : Nat × List Int} {m k : Nat} (hk : k = l.length) : spl (l.map slv ++ List.replicate (m + 1) (Value.slice none 0 0)) (0 + ((k : Nat) : Int).toNat * 1) [slv x] = (l ++ [x]).map slv ++ List.replicate m (Value.slice none 0 0) := by
  rw [show 0 + ((k : Nat) : Int).toNat * 1 = (l.map slv).length by simp [hk]]
  have h := Z6n (p := l.map slv) (q := [Value.slice none 0 0]) (s := List.replicate m (Value.slice none 0 0)) (vs := [slv x]) rfl
  rw [show l.map slv ++ List.replicate (m + 1) (Value.slice none 0 0) = l.map slv ++ ([Value.slice none 0 0] ++ List.replicate m (Value.slice none 0 0)) from by rw [List.replicate_succ]; rfl, h]
  simp
theorem slv_at {l : List (Nat × List Int)} {J : List Value} {k : Nat} {x : Nat × List Int} (h : l[k]? = some x) : (l.map slv ++ J)[0 + ((k : Nat) : Int).toNat * 1]? = some (slv x) := by
  have hk := (List.getElem?_eq_some_iff.1 h).1
  rw [show 0 + ((k : Nat) : Int).toNat * 1 = k by omega, List.getElem?_append_left (by simpa using hk), List.getElem?_map, h]; rfl
structure DbI (f : Nat → Int) (nh h : Nat) (l : List (Nat × List Int)) : Prop where
  len : l.length = nh + 1
  at_ : ∀ i x, l[i]? = some x → x.2 = if 1 ≤ i ∧ i ≤ h then f (i - 1) :: List.replicate nh 0 else List.replicate (nh + 1) 0
theorem DbI.step {f : Nat → Int} {nh h : Nat} {l : List (Nat × List Int)} (hd : DbI f nh h l) {b : Nat} {z : List Int} (hx : l[h + 1]? = some (b, z)) : DbI f nh (h + 1) (l.set (h + 1) (b, z.set 0 (f h))) := ⟨by rw [List.length_set]; exact hd.len, fun i x hi => by
  rw [List.getElem?_set] at hi
  by_cases e : h + 1 = i
  · subst e
    have hl := (List.getElem?_eq_some_iff.1 hx).1
    rw [if_pos rfl, if_pos hl] at hi
    cases hi
    have := hd.at_ _ _ hx
    rw [if_neg (by omega)] at this
    dsimp only at this ⊢
    rw [if_pos (by omega), this, Nat.add_sub_cancel]
    rfl
  · rw [if_neg e] at hi
    rw [hd.at_ i x hi]
    by_cases h1 : 1 ≤ i ∧ i ≤ h
    · rw [if_pos h1, if_pos (by omega)]
    · rw [if_neg h1, if_neg (by omega)]⟩
theorem DbI.dbt {f : Nat → Int} {nh : Nat} {l : List (Nat × List Int)} (hd : DbI f nh nh l) (hn : 1 ≤ nh ∧ nh ≤ 6) (hb : ∀ i, i < nh → 0 ≤ f i ∧ f i ≤ 500) : Dbt (dlOf l) ((List.range nh).map f) where
  len := by simpa using hn
  bd := fun z hz => by
    obtain ⟨i, hi, rfl⟩ := List.mem_map.1 hz
    exact hb i (List.mem_range.1 hi)
  eq := by
    refine List.ext_getElem? fun k => ?_
    have e1 : (lls (dlOf l))[k]? = (l[k]?).map (·.2) := by simp only [lls, dlOf, List.getElem?_map, Option.map_map]; rfl
    rw [e1]
    unfold Z9t
    rw [List.length_map, List.length_range]
    match k with
    | 0 =>
      have hl := hd.len
      have := hd.at_ 0 _ (List.getElem?_eq_getElem (show 0 < l.length by omega))
      rw [if_neg (by omega)] at this
      rw [List.getElem?_eq_getElem (show 0 < l.length by omega), List.getElem?_cons_zero, Option.map_some, this]
    | k + 1 =>
      rw [List.getElem?_cons_succ, List.map_map, List.getElem?_map]
      rcases Nat.lt_or_ge k nh with h | h
      · have hl := hd.len
        have := hd.at_ (k + 1) _ (List.getElem?_eq_getElem (show k + 1 < l.length by omega))
        rw [if_pos (by omega), Nat.add_sub_cancel] at this
        rw [List.getElem?_eq_getElem (show k + 1 < l.length by omega), Option.map_some, this, List.getElem?_range h]; rfl
      · have hl := hd.len
        rw [List.getElem?_eq_none (by omega), List.getElem?_eq_none (by simpa using h)]; rfl
def cntP (f : Nat → Int) (h : Nat) : Int := (((List.range h).filter fun q => decide (0 < f q)).length : Nat)
theorem cntP_s (f : Nat → Int) (h : Nat) : cntP f (h + 1) = cntP f h + (if 0 < f h then 1 else 0) := by
  unfold cntP
  rw [List.range_succ, List.filter_append, List.length_append]
  by_cases e : 0 < f h
  · rw [if_pos e]; simp [e]
  · rw [if_neg e]; simp [e]
theorem cntP_bd (f : Nat → Int) (h : Nat) : 0 ≤ cntP f h ∧ cntP f h ≤ h := by
  unfold cntP
  have := List.length_filter_le (fun q => decide (0 < f q)) (List.range h)
  rw [List.length_range] at this
  omega
theorem nn_map {f : Nat → Int} {nh k : Nat} (h : k < nh) : nn ((List.range nh).map f) k = f k := by
  unfold nn; rw [List.getD_eq_getElem?_getD, List.getElem?_map, List.getElem?_range h]; rfl
theorem Zbh {f : Nat → Int} {nh k : Nat} (h : nh ≤ k) : nn ((List.range nh).map f) k = 0 := by
  unfold nn; rw [List.getD_eq_getElem?_getD, List.getElem?_eq_none (by simpa using h)]; rfl
theorem ms_cnt {f : Nat → Int} {nh : Nat} (hn : nh ≤ 6) : (((msL ((List.range nh).map f)).length : Nat) : Int) = cntP f nh := by
  have key : ∀ j, (((List.range (nh + j)).filter fun q => decide (0 < nn ((List.range nh).map f) q)).length) = (((List.range nh).filter fun q => decide (0 < f q)).length) := fun j => by
    induction j with
    | zero =>
      rw [Nat.add_zero]
      congr 1
      refine List.filter_congr fun q hq => ?_
      rw [nn_map (List.mem_range.1 hq)]
    | succ j ih =>
      rw [← Nat.add_assoc, List.range_succ, List.filter_append, List.length_append, ih, List.filter_cons, Zbh (by omega)]; rfl
  have := key (6 - nh)
  rw [show nh + (6 - nh) = 6 by omega] at this
  unfold msL cntP
  rw [this]
theorem pay_len (ns : List Int) : (payL ns).length = (msL ns).length := List.length_map _
theorem pmr_len (l : List Pm) : (pmrows l).length = l.length := List.length_map _
end Lo
theorem Zcz (a : Bool) (h : (a != a) = true) : False := by cases a <;> cases h
theorem Z7B {f : Nat → Int} (hb : ∀ i, 0 ≤ f i ∧ f i ≤ 500) : ∀ k, 0 ≤ Hn.smT k f ∧ Hn.smT k f ≤ 500 * (k : Nat)
  | 0 => ⟨Int.le_refl _, Int.le_refl _⟩
  | k + 1 => by
    have := Z7B hb k
    have := hb k
    rw [Hn.smT_succ]; omega
theorem Zg3 (x : Hn.Cnt) (z : Int) (q : Nat) (H : Z7) (R : Z5) [m1 : Mem1 q (cel 3 [.int .i64 z]) H] :
    FnV Tryz.prog 27 [.agg (Hn.crow x).toArray, .pointer (some ⟨q, 0, none⟩)] H R (.bool (decide (x.hour = z))) := by
 refine Z8 Tryz.func27 rfl Tryz.ntmps27 rfl ?_
 refine sqt 2 rfl (bx rfl rfl rfl (fun b2 => pur 1 rfl (sqt 5 rfl (sp rfl (PE.fA Z0h rfl) rfl (spL rfl rfl (lh sc3 rfl rfl) rfl (spL rfl rfl (lh sc3 rfl rfl) rfl (pur 2 rfl (Z4 ?_))))))))
 exact rtA rfl rfl rfl ⟨rfl, rfl, rfl⟩ drp
set_option maxHeartbeats 800000 in
theorem Z6v (l0 : List Int) (a0 : Option Addr) (c0 : Nat) (hl0 : l0.length ≤ 9223372036854775807) (u : Int) (hu : 0 ≤ u ∧ u ≤ 255) (H : Z7) (R : Z5) [hG0 : MemRows a0 1 (Gt.urows l0) R] :
    Fn Tryz.prog 4 [.slice a0 l0.length c0, .int .u8 u] H R (fun v H' R' => v = .bool true ∧ H' = H ∧ R' = R) := by
 refine Z8 Tryz.func4 rfl Tryz.ntmps4 rfl ?_
 refine sqt 1 rfl (pur 1 rfl (sqt 11 rfl (pur 1 rfl ?_)))
 refine cl rfl Zi2 rfl rfl (Gt.c_Fill l0 a0 c0 hl0 _ _) ?_
 rintro _ _ R1 ⟨bk, mk, hmk, rfl, rfl, hR1⟩
 obtain rfl := hR1.symm
 clear hR1
 refine cl rfl Zgf rfl rfl (Zbl l0 a0 c0 bk hl0 0 mk (by omega) hmk _ _) ?_
 rintro _ _ R1 ⟨wt, a1, a2, a3, k1, k2, k3, bs9, bt, kc, ss, tk9, Kt, Zt, es, tq1, mx1, hok, ⟨hc7, hk1⟩, ⟨hss, htk⟩, htru, htkv, rfl, htq1, hmx1, rfl, hR1⟩
 obtain rfl := hR1.symm
 clear hR1
 refine Sy.heap (fun w h => h.del bk) ?_
 have hcl := Hn.tru_clash hok htru
 have hha := hok.hands
 have hho := hok.hours
 have hnc := hok.nc
 obtain ⟨nh, hnh⟩ : ∃ n : Nat, wt.hands = n := ⟨wt.hands.toNat, by omega⟩
 have hnt : wt.hands.toNat = nh := by omega
 have htl : tk9.length = nh := by omega
 have hp0 : ∀ d, 0 ≤ wt.prv (2 ^ d) := fun d => by rw [Hn.prv_pt]; exact Hn.pt_nn _ _ _
 have hp1 : ∀ d : Nat, d < nh → wt.prv (2 ^ d) ≤ Hn.nn tk9 d := fun d hd => by rw [(htkv d (by omega)).1]; exact Hn.tru_one hok htru d
 have hp2 : ∀ d : Nat, d < nh → 0 ≤ wt.prv (2 ^ d) ∧ wt.prv (2 ^ d) ≤ 500 := fun d hd => by have := hp0 d; have := hp1 d hd; have := (htkv d (by omega)).2; omega
 have hsum1 : Hn.smT nh (fun d => wt.prv (2 ^ d)) ≤ wt.prv wt.full := by have := Hn.prv_sum hok; rwa [hnt] at this
 have hsum2 : wt.prv wt.full ≤ Hn.smT nh (fun d => Hn.nn tk9 d) := by
   have := Hn.tru_all hok htru
   rw [hnt] at this
   rwa [Hn.smT_congr (f := fun d : Nat => Hn.nn tk9 d) (g := fun d : Nat => Hn.eH es d) (fun d hd => (htkv d (by omega)).1)]
 have hB1 : ∀ d, d ≤ nh → 0 ≤ Hn.smT d (fun d => wt.prv (2 ^ d)) ∧ Hn.smT d (fun d => wt.prv (2 ^ d)) ≤ 3000 := fun d hd => by
   have h1 := Z7B (f := fun e => if e < nh then wt.prv (2 ^ e) else 0) (fun i => by (try dsimp only); split; exact hp2 i (by assumption); omega) d
   rw [Hn.smT_congr (f := fun e => if e < nh then wt.prv (2 ^ e) else 0) (g := fun d => wt.prv (2 ^ d)) (fun x hx => if_pos (by omega))] at h1
   omega
 have hB2 : ∀ d, d ≤ nh → 0 ≤ Hn.smT d (fun d => Hn.nn tk9 d) ∧ Hn.smT d (fun d => Hn.nn tk9 d) ≤ 3000 := fun d hd => by
   have h1 := Z7B (f := fun e => if e < nh then Hn.nn tk9 e else 0) (fun i => by (try dsimp only); split; exact (htkv i (by omega)).2; omega) d
   rw [Hn.smT_congr (f := fun e => if e < nh then Hn.nn tk9 e else 0) (g := fun d => Hn.nn tk9 d) (fun x hx => if_pos (by omega))] at h1
   omega
 refine pur 4 rfl (alc rfl Z1w rfl (fun b5 => ?_))
 refine Z01 (l' := (Hn.wtl wt a1 a2 a3 k1 k2 k3)) rfl rfl rfl Z3f rfl rfl rfl rfl (nl rfl) ?_
 refine pur 2 rfl (sqt 7 rfl (spL rfl rfl (lhA (Hn.wtl wt a1 a2 a3 k1 k2 k3) Z17 rfl rfl rfl) rfl ?_))
 refine cl rfl ZdY rfl rfl (Hn.c_Missing wt a1 a2 a3 k1 k2 k3 hok hcl _ _) ?_
 rintro _ _ R1 ⟨rfl, rfl, hR1⟩
 obtain rfl := hR1.symm
 clear hR1
 refine pur 5 rfl (sqt 7 rfl (spL rfl rfl (lhA (Hn.wtl wt a1 a2 a3 k1 k2 k3) Z17 rfl rfl rfl) rfl ?_))
 refine cl rfl ZgS rfl rfl (Hn.c_Must wt a1 a2 a3 k1 k2 k3 hok hcl _ _) ?_
 rintro _ _ R1 ⟨am, cm, rfl, rfl, hR1⟩
 obtain rfl := hR1.symm
 clear hR1
 refine pur 5 rfl (Z0 (sqt 21 rfl (pur 3 rfl ?_)))
 refine Zk 50 rfl ?_ ?_ <;> intro g50
 exact absurd g50 (by simp)
 refine pur 4 rfl ?_
 refine Zk 54 rfl ?_ ?_ <;> intro g54
 exact absurd g54 (by simp)
 refine pur 1 rfl ?_
 refine spG rfl rfl rfl rfl (PE.lenSl Z0i rfl) rfl ?_
 refine spG rfl rfl rfl rfl (PE.fA Zv rfl) rfl ?_
 refine Z0f rfl rfl rfl rfl rfl (lh ZV rfl rfl) rfl ?_
 refine spG rfl rfl rfl rfl (PE.lenSl Z0m rfl) rfl ?_
 refine pur 3 rfl ?_
 refine Zk 62 rfl ?_ ?_ <;> intro g62
 exact absurd g62 (by rw [hss]; simp)
 refine pur 1 rfl ?_
 refine spG rfl rfl rfl rfl (PE.lenSl Z0i rfl) rfl ?_
 refine spG rfl rfl rfl rfl (PE.fA ZW rfl) rfl ?_
 refine Z0f rfl rfl rfl rfl rfl (lh (v := .int .i64 (nh : Nat)) sc3 rfl (by show some (Value.int .i64 wt.hands) = _; rw [hnh])) rfl (pur 2 rfl ?_)
 refine Z1 rfl ?_ ?_ <;> intro hc0
 exact absurd hc0 (by simp; omega)
 obtain ⟨nd, hnd⟩ : ∃ nd, nd = nh + 1 := ⟨_, rfl⟩
 refine Z3 (sqt 5 rfl (sp rfl (PE.fA ZW rfl) rfl (spL rfl rfl (lh (v := .int .i64 (nh : Nat)) sc3 rfl (by show some (Value.int .i64 wt.hands) = _; rw [hnh])) rfl (sp rfl (PE.add rfl rfl (by omega)) rfl ?_))))
 rw [show (nh : Int) + 1 = (nd : Nat) from by omega]
 refine mkS rfl Zio ZfU rfl rfl (Nat.le_refl _) ⟨by omega, by omega⟩ rfl (fun b72 => ?_)
 rw [Zdp]
 refine pur 1 rfl (Z0 (sqt 3 rfl (pur 1 rfl (sp rfl (PE.lenSl Z5d rfl) rfl (pur 1 rfl (Z2 ?_))))))
 refine Zb (ι := {x : Nat × List (Nat × List Int) // x.1 ≤ nd ∧ x.2.length = x.1 ∧ ∀ y ∈ x.2, y.2 = List.replicate nd 0}) (fun x => ⟨[(1, .int .u8 u), (5, .pointer (some ⟨b5, 0, none⟩)), (7, .slice (some ⟨bt, 0, none⟩) tk9.length tk9.length), (8, .int .i64 (wt.prv wt.full)), (10, .slice am (wt.mustL wt.hands.toNat).length cm), (12, .slice (some ⟨b72, 0, none⟩) nd nd), (73, .slice (some ⟨b72, 0, none⟩) nd nd), (74, .int .i64 (nd : Nat)), (75, .int .i64 x.1.1)], Lo.DB x.1.2 ++ ((b72, cel 47 (x.1.2.map Lo.slv ++ List.replicate (nd - x.1.1) (Value.slice none 0 0))) :: (b5, cel 71 (Hn.wtl wt a1 a2 a3 k1 k2 k3)) :: H), RowsA am 1 (Hn.irows (wt.mustL wt.hands.toNat)) :: RowsA (some ⟨bt, 0, none⟩) 1 (Hn.irows tk9) :: RowsA a1 3 (Hn.crows wt.counts) :: RowsA a2 2 (Hn.bkrows wt.books) :: RowsA a3 3 (Hn.sprows wt.spells) :: R⟩) (fun x => nd - x.1.1) ⟨(0, []), Nat.zero_le _, rfl, by simp⟩ ?_ (fun x => ?_)
 exact Zf idH
 obtain ⟨⟨i, l⟩, hi, hll, hlz⟩ := x
 dsimp only at hi hll hlz ⊢
 refine sqt 1 rfl (pur 1 rfl (Z0 ?_))
 refine Z1 rfl ?_ ?_ <;> intro hc1 <;> try simp only [cS] at hc1
 obtain ⟨m, hm⟩ : ∃ m, nd - i = m + 1 := ⟨nd - i - 1, by omega⟩
 rw [hm]
 refine Z3 (Z0 (Z2 (sqt 2 rfl (pur 2 rfl (sqr 8 rfl (pur 2 rfl (sp rfl (PE.fA ZW rfl) rfl (spL rfl rfl (lh (v := .int .i64 (nh : Nat)) sc3 rfl (by show some (Value.int .i64 wt.hands) = _; rw [hnh])) rfl (sp rfl (PE.add rfl rfl (by omega)) rfl ?_)))))))))
 rw [show (nh : Int) + 1 = (nd : Nat) from by omega]
 refine mkS rfl Z5F zl3 rfl rfl (Nat.le_refl _) ⟨by omega, by omega⟩ rfl (fun b83 => ?_)
 rw [Z8w]
 refine sp rfl (PE.indexAddr Zcs rfl rfl (by omega) (by omega)) rfl ?_
 refine Z01 (l' := (l ++ [(b83, List.replicate nd 0)]).map Lo.slv ++ List.replicate m (Value.slice none 0 0)) rfl rfl rfl ZhR rfl rfl rfl (by
   have h := Lo.slv_put (x := (b83, List.replicate nd 0)) (m := m) hll.symm
   rw [show Lo.slv (b83, List.replicate nd (0 : Int)) = .slice (some ⟨b83, 0, none⟩) nd nd from by unfold Lo.slv; rw [List.length_replicate]] at h
   exact h) (by rw [List.length_append, List.length_map, List.length_replicate]; show 0 + ((i : Nat) : Int).toNat * 1 + 1 ≤ _; omega) ?_
 refine sqr 2 rfl (sp rfl (PE.add rfl rfl (by omega)) rfl (pur 1 rfl ?_))
 exact Z0s ⟨(i + 1, l ++ [(b83, List.replicate nd 0)]), by dsimp only; omega, by simp [hll], fun y hy => by
   rcases List.mem_append.1 hy with hy | hy
   · exact hlz y hy
   · rw [List.mem_singleton.1 hy]⟩ (by dsimp only; omega) (by repeat' first | exact Sub.nil | apply Sub.cons | rfl | (simp [lk]; omega)) (fun w h => by dsimp only; rw [show nd - (i + 1) = m by omega]; exact h.perm (Lo.DB_snoc l (b83, List.replicate nd 0) _))
 obtain rfl : nd = i := by omega
 rw [Nat.sub_self]
 refine Z9 (Za (Za (Zl (sqt 3 rfl (pur 3 rfl (Z0 (sqt 3 rfl (sp rfl (PE.fA ZW rfl) rfl (spL rfl rfl (lh (v := .int .i64 (nh : Nat)) sc3 rfl (by show some (Value.int .i64 wt.hands) = _; rw [hnh])) rfl (pur 1 rfl (Z2 ?_)))))))))))
 have hdb0 : Lo.DbI (fun d => wt.prv (2 ^ d)) nh 0 l := ⟨by omega, fun i x hx => by rw [if_neg (by omega), hlz x (List.mem_of_getElem? hx), hnd]⟩
 refine Zb (ι := {x : Nat × List (Nat × List Int) // x.1 ≤ nh ∧ Lo.DbI (fun d => wt.prv (2 ^ d)) nh x.1 x.2}) (fun x => ⟨[(1, .int .u8 u), (5, .pointer (some ⟨b5, 0, none⟩)), (7, .slice (some ⟨bt, 0, none⟩) tk9.length tk9.length), (8, .int .i64 (wt.prv wt.full)), (10, .slice am (wt.mustL wt.hands.toNat).length cm), (12, .slice (some ⟨b72, 0, none⟩) nd nd), (14, .int .i64 (Hn.smT x.1.1 (fun d => wt.prv (2 ^ d)))), (15, .int .i64 (Hn.smT x.1.1 (fun d => Hn.nn tk9 d))), (16, .int .i64 (Lo.cntP (fun d => wt.prv (2 ^ d)) x.1.1)), (87, .int .i64 (nh : Nat)), (88, .int .i64 x.1.1)], Lo.DB x.1.2 ++ ((b72, cel 47 (x.1.2.map Lo.slv ++ List.replicate (0) (Value.slice none 0 0))) :: (b5, cel 71 (Hn.wtl wt a1 a2 a3 k1 k2 k3)) :: H), RowsA am 1 (Hn.irows (wt.mustL wt.hands.toNat)) :: RowsA (some ⟨bt, 0, none⟩) 1 (Hn.irows tk9) :: RowsA a1 3 (Hn.crows wt.counts) :: RowsA a2 2 (Hn.bkrows wt.books) :: RowsA a3 3 (Hn.sprows wt.spells) :: R⟩) (fun x => nh - x.1.1) ⟨(0, l), Nat.zero_le _, hdb0⟩ ?_ (fun x => ?_)
 exact Zf idH
 obtain ⟨⟨h, l⟩, hh, hdb⟩ := x
 dsimp only at hh hdb ⊢
 have hdl := hdb.len
 have hs1 := hB1 h hh
 have hs2 := hB2 h hh
 have hs3 := Lo.cntP_bd (fun d => wt.prv (2 ^ d)) h
 refine sqt 1 rfl (pur 1 rfl (Z0 ?_))
 refine Z1 rfl ?_ ?_ <;> intro hc2 <;> try simp only [cS] at hc2
 have hq0 := hp2 h (by omega)
 have hq1 := hp1 h (by omega)
 have hq2 := (htkv h (by omega)).2
 obtain ⟨⟨xb, z⟩, hx⟩ : ∃ x, l[h + 1]? = some x := ⟨_, List.getElem?_eq_getElem (by omega)⟩
 have hz : z.length = nd := by have := hdb.at_ _ _ hx; rw [if_neg (by omega)] at this; dsimp only at this; rw [this, List.length_replicate, hnd]
 have hmi := Hn.must_iff hok hcl (h := h) (by omega)
 have hany : ((wt.mustL wt.hands.toNat).any fun x => decide ((h : Int) = x)) = decide (0 < wt.prv (2 ^ h)) := by
   rw [Hn.must_any, dT (show h < wt.hands.toNat by omega), Bool.true_and]
   cases hm9 : wt.must h with
   | true => rw [dT (hmi.1 hm9)]
   | false => exact (dF (fun h9 => by rw [hmi.2 h9] at hm9; cases hm9)).symm
 refine Z3 (Z0 (Z2 (sqt 2 rfl (pur 2 rfl (sqt 8 rfl (spL rfl rfl (lhA (Hn.wtl wt a1 a2 a3 k1 k2 k3) Z17 rfl rfl rfl) rfl (pur 1 rfl ?_)))))))
 refine cl rfl Zd6 rfl rfl (Hn.c_Least wt a1 a2 a3 k1 k2 k3 hok hcl h (by omega) _ _) ?_
 rintro _ _ R1 ⟨rfl, rfl, hR1⟩
 obtain rfl := hR1.symm
 clear hR1
 refine pur 5 rfl (Z0 (sqt 22 rfl (pur 3 rfl ?_)))
 refine Zk 99 rfl ?_ ?_ <;> intro g99
 exact absurd g99 (by simp)
 refine pur 4 rfl ?_
 refine Zk 103 rfl ?_ ?_ <;> intro g103
 simp only [decide_eq_true_eq] at g103
 omega
 refine pur 3 rfl ?_
 refine spG rfl rfl rfl rfl (PE.indexAddr ZM rfl rfl (by omega) (by omega)) rfl ?_
 refine Z0f rfl rfl rfl rfl rfl (lf0 (row := [.int .i64 (Hn.nn tk9 h)]) sc3 (Hn.ir_nn (by omega)) rfl) rfl (pur 3 rfl ?_)
 refine Zk 111 rfl ?_ ?_ <;> intro g111
 simp only [decide_eq_true_eq] at g111
 omega
 refine pur 4 rfl ?_
 refine clG rfl rfl rfl rfl Z9j rfl rfl (Gt.c_contains_int (wt.mustL wt.hands.toNat) am cm (h : Int) (by have := Hn.must_len wt wt.hands.toNat; omega) _ _) ?_
 rintro _ _ R1 ⟨rfl, rfl, hR1⟩
 obtain rfl := hR1.symm
 clear hR1
 rw [hany]
 refine spG rfl rfl rfl rfl (PE.neqBool ub4 rfl rfl) rfl ?_
 refine pur 1 rfl ?_
 refine Z1 rfl ?_ ?_ <;> intro hc3
 exact (Zcz _ hc3).elim
 refine Z3 (Z0 (sqt 8 rfl (pur 2 rfl (sp rfl (PE.add rfl rfl (by omega)) rfl ?_))))
 rw [show (h : Int) + 1 = ((h + 1 : Nat) : Int) from by omega]
 refine sp rfl (PE.indexAddr Zcs rfl rfl (by omega) (by omega)) rfl (spL rfl rfl (lh (v := Lo.slv (xb, z)) Z0G rfl (Lo.slv_at hx)) rfl (pur 1 rfl (sp rfl (PE.indexAddr (n := 1) (b := xb) (off := 0) (len := z.length) (cap := z.length) (i := 0) ZM rfl rfl (by omega) (by omega)) rfl ?_)))
 refine Sy.heap (H' := (xb, cel 3 (Zh z)) :: (Lo.DB (l.eraseIdx (h + 1)) ++ ((b72, cel 47 (l.map Lo.slv ++ List.replicate (0) (Value.slice none 0 0))) :: (b5, cel 71 (Hn.wtl wt a1 a2 a3 k1 k2 k3)) :: H))) (fun w h9 => h9.perm (List.Perm.append_right _ (Lo.DB_pull hx))) ?_
 refine Z01 (l' := Zh (z.set 0 (wt.prv (2 ^ h)))) rfl rfl rfl cn3 rfl rfl rfl (by have h9 := Lo.spl_int (xs := z) (junk := []) (k := 0) (by omega) (wt.prv (2 ^ h)); rw [List.append_nil, List.append_nil] at h9; exact h9) (by rw [Hn.ints_length]; show 0 + (0 : Int).toNat * 1 + 1 ≤ _; omega) ?_
 refine Sy.heap (H' := Lo.DB (l.set (h + 1) (xb, z.set 0 (wt.prv (2 ^ h)))) ++ ((b72, cel 47 (l.map Lo.slv ++ List.replicate (0) (Value.slice none 0 0))) :: (b5, cel 71 (Hn.wtl wt a1 a2 a3 k1 k2 k3)) :: H)) (fun w h9 => h9.perm (List.Perm.append_right _ (Lo.DB_push (x := (xb, z.set 0 (wt.prv (2 ^ h)))) (by omega)))) ?_
 have hmap : l.map Lo.slv = (l.set (h + 1) (xb, z.set 0 (wt.prv (2 ^ h)))).map Lo.slv := by
   rw [List.map_set, show Lo.slv (xb, z.set 0 (wt.prv (2 ^ h))) = Lo.slv (xb, z) from by unfold Lo.slv; simp]
   refine (List.ext_getElem? fun k => ?_)
   rw [List.getElem?_set]
   by_cases e : h + 1 = k
   · subst e; rw [if_pos rfl, if_pos (by rw [List.length_map]; omega), List.getElem?_map, hx]; rfl
   · rw [if_neg e]
 rw [hmap]
 have hdb2 := hdb.step hx
 have hcs := Lo.cntP_s (fun d => wt.prv (2 ^ d)) h
 have hsu := Hn.smT_succ h (fun d => wt.prv (2 ^ d))
 have hsv := Hn.smT_succ h (fun d => Hn.nn tk9 d)
 try dsimp only at hcs
 try dsimp only at hsu
 try dsimp only at hsv
 refine sqt 2 rfl (pur 2 rfl ?_)
 refine Z1 rfl ?_ ?_ <;> intro hc4 <;> try simp only [cS] at hc4
 rw [if_pos hc4] at hcs
 refine sqr 3 rfl (pur 1 rfl (sp rfl (PE.add rfl rfl (by omega)) rfl (pur 1 rfl ?_)))
 refine Zc [0, 0, 3, 0, 0, 0, 48, 112, 248, 7, 1023] (tks 0 7 (.ld 7 (tks 8 3 .done))) Zo (by kernel_rfl) ?_
 refine Zd 2 rfl (tk rfl (PE.add rfl rfl (by omega)) rfl (Zd 3 rfl (tk rfl (PE.indexAddr ZM rfl rfl (by omega) (by omega)) rfl (ld rfl rfl (lf0 (row := [.int .i64 (Hn.nn tk9 h)]) sc3 (Hn.ir_nn (by omega)) rfl) rfl (tk rfl (PE.add rfl rfl (by omega)) rfl (Zd 2 rfl (sqr 2 rfl (sp rfl (PE.add rfl rfl (by omega)) rfl (pur 1 rfl ?_)))))))))
 rw [← hcs, ← hsu, ← hsv]
 exact Z6 ⟨(h + 1, l.set (h + 1) (xb, z.set 0 (wt.prv (2 ^ h)))), by dsimp only; omega, hdb2⟩ idH
 rw [if_neg (show ¬ 0 < wt.prv (2 ^ h) by omega), Int.add_zero] at hcs
 refine Z3 ?_
 refine Zc [0, 0, 3, 0, 0, 0, 48, 112, 248, 7, 1023] (tks 0 7 (.ld 7 (tks 8 3 .done))) Zo (by kernel_rfl) ?_
 refine Zd 2 rfl (tk rfl (PE.add rfl rfl (by omega)) rfl (Zd 3 rfl (tk rfl (PE.indexAddr ZM rfl rfl (by omega) (by omega)) rfl (ld rfl rfl (lf0 (row := [.int .i64 (Hn.nn tk9 h)]) sc3 (Hn.ir_nn (by omega)) rfl) rfl (tk rfl (PE.add rfl rfl (by omega)) rfl (Zd 2 rfl (sqr 2 rfl (sp rfl (PE.add rfl rfl (by omega)) rfl (pur 1 rfl ?_)))))))))
 rw [← hcs, ← hsu, ← hsv]
 exact Z6 ⟨(h + 1, l.set (h + 1) (xb, z.set 0 (wt.prv (2 ^ h)))), by dsimp only; omega, hdb2⟩ idH
 obtain rfl : h = nh := by omega
 have hd := hdb.dbt (by omega) (fun i hi => hp2 i hi)
 have hdl2 : (Lo.dlOf l).length = nd := by rw [Lo.dlOf_len]; omega
 obtain ⟨ns, hns⟩ : ∃ ns, ns = ((List.range h).map (fun d => wt.prv (2 ^ d))) := ⟨_, rfl⟩
 rw [← hns] at hd
 refine Sy.heap (fun w h9 => St.rows (sz := 1) (rows := Lo.plrows (Lo.dlOf l)) (rest := List.replicate 0 (Value.slice none 0 0)) (by rw [Lo.pl_fl]; exact Lo.St.inns h9) (Lo.plr_one _)) ?_
 subst hdl2
 have hmsn : ((Lo.msL ns).length : Int) = Lo.cntP (fun d => wt.prv (2 ^ d)) h := by rw [hns]; exact Lo.ms_cnt (by omega)
 have hnsl : ns.length = h := by rw [hns]; simp
 have hn00 : Lo.nn (Lo.netP ns ns.length) 0 = Hn.smT h (fun d => wt.prv (2 ^ d)) := by rw [Lo.netP_0, List.take_length, hns]; rfl
 have hnsk : ∀ k, k < h → Lo.nn ns k = wt.prv (2 ^ k) := fun k hk => by rw [hns]; exact Lo.nn_map hk
 refine Z9 (Za (Za (Zl (sqt 7 rfl (pur 1 rfl ?_)))))
 refine cl rfl Zhp rfl rfl (Lo.c_DNet (Lo.dlOf l) (some ⟨b72, 0, none⟩) (Lo.dlOf l).length ns hd _ _) ?_
 rintro _ _ R1 ⟨bn9, rfl, rfl, hR1⟩
 obtain rfl := hR1.symm
 clear hR1
 refine pur 5 rfl (sqt 7 rfl (pur 1 rfl ?_))
 refine cl rfl ZgH rfl rfl (Lo.c_Fewest (Lo.dlOf l) (some ⟨b72, 0, none⟩) (Lo.dlOf l).length ns hd _ _) ?_
 rintro _ _ R1 ⟨rfl, rfl, hR1⟩
 obtain rfl := hR1.symm
 clear hR1
 refine pur 5 rfl (sqt 7 rfl (pur 1 rfl ?_))
 refine cl rfl ZbN rfl rfl (Lo.c_Settle (Lo.dlOf l) (some ⟨b72, 0, none⟩) (Lo.dlOf l).length ns hd _ _) ?_
 rintro _ _ R1 ⟨ap, cp, rfl, rfl, hR1⟩
 obtain rfl := hR1.symm
 clear hR1
 have hpl := Lo.pay_len ns
 refine pur 5 rfl (Z0 (sqt 46 rfl (pur 3 rfl ?_)))
 refine Zk 157 rfl ?_ ?_ <;> intro g157
 exact absurd g157 (by simp)
 refine pur 4 rfl ?_
 refine Zk 161 rfl ?_ ?_ <;> intro g161
 exact absurd g161 (by simp)
 refine pur 4 rfl ?_
 refine Zk 165 rfl ?_ ?_ <;> intro g165
 exact absurd g165 (by simp)
 refine pur 1 rfl ?_
 refine spG rfl rfl rfl rfl (PE.lenSl Z0i rfl) rfl ?_
 refine spG rfl rfl rfl rfl (PE.fA ZW rfl) rfl ?_
 refine Z0f rfl rfl rfl rfl rfl (lh (v := .int .i64 (h : Nat)) sc3 rfl (by show some (Value.int .i64 wt.hands) = _; rw [hnh])) rfl ?_
 refine spG rfl rfl rfl rfl (PE.add rfl rfl (by omega)) rfl ?_
 refine pur 3 rfl ?_
 refine Zk 173 rfl ?_ ?_ <;> intro g173
 simp only [decide_eq_true_eq] at g173
 omega
 refine pur 1 rfl ?_
 refine spG rfl rfl rfl rfl (PE.indexAddr ZM rfl rfl (by omega) (by omega)) rfl ?_
 refine Z0f rfl rfl rfl rfl rfl (lf0 (row := [.int .i64 (Lo.nn (Lo.netP ns ns.length) 0)]) sc3 (Lo.ir_get (Lo.nn_get (by rw [Lo.netP_len]; omega))) rfl) rfl (pur 4 rfl ?_)
 refine Zk 180 rfl ?_ ?_ <;> intro g180
 exact absurd g180 (by rw [hn00]; simp)
 refine pur 5 rfl ?_
 refine Zk 185 rfl ?_ ?_ <;> intro g185
 simp only [decide_eq_true_eq] at g185
 omega
 refine pur 5 rfl ?_
 refine Zk 190 rfl ?_ ?_ <;> intro g190
 simp only [decide_eq_true_eq] at g190
 omega
 refine pur 5 rfl ?_
 refine Zk 195 rfl ?_ ?_ <;> intro g195
 simp only [decide_eq_true_eq] at g195
 omega
 refine pur 1 rfl ?_
 refine spG rfl rfl rfl rfl (PE.lenSl Z6t rfl) rfl ?_
 refine pur 3 rfl ?_
 refine Z1 rfl ?_ ?_ <;> intro hc5
 simp only [decide_eq_true_eq] at hc5
 omega
 refine Z3 (Z0 (sqt 3 rfl (pur 1 rfl (sp rfl (PE.lenSl Z6t rfl) rfl (pur 1 rfl (Z2 ?_))))))
 refine Zb (ι := {k : Nat // k ≤ (Lo.payL ns).length}) (fun k => ⟨[(1, .int .u8 u), (5, .pointer (some ⟨b5, 0, none⟩)), (7, .slice (some ⟨bt, 0, none⟩) tk9.length tk9.length), (8, .int .i64 (wt.prv wt.full)), (10, .slice am (wt.mustL wt.hands.toNat).length cm), (12, .slice (some ⟨b72, 0, none⟩) (Lo.dlOf l).length (Lo.dlOf l).length), (201, .slice ap (Lo.payL ns).length cp), (202, .int .i64 (Lo.payL ns).length), (203, .int .i64 k.1)], (b5, cel 71 (Hn.wtl wt a1 a2 a3 k1 k2 k3)) :: H, RowsA ap 3 (Lo.pmrows (Lo.payL ns)) :: RowsA (some ⟨b72, 0, none⟩) 1 (Lo.plrows (Lo.dlOf l)) :: Lo.Inn (Lo.dlOf l) :: RowsA am 1 (Hn.irows (wt.mustL wt.hands.toNat)) :: RowsA (some ⟨bt, 0, none⟩) 1 (Hn.irows tk9) :: RowsA a1 3 (Hn.crows wt.counts) :: RowsA a2 2 (Hn.bkrows wt.books) :: RowsA a3 3 (Hn.sprows wt.spells) :: R⟩) (fun k => (Lo.payL ns).length - k.1) ⟨0, Nat.zero_le _⟩ ?_ (fun k => ?_)
 exact Zf (fun w h => St.sub h)
 obtain ⟨k, hk⟩ := k
 dsimp only at hk ⊢
 refine sqt 1 rfl (pur 1 rfl (Z0 ?_))
 refine Z1 rfl ?_ ?_ <;> intro hc6
 try simp only [cS] at hc6
 obtain ⟨p, hp⟩ : ∃ p, (Lo.payL ns)[k]? = some p := ⟨_, List.getElem?_eq_getElem (by omega)⟩
 obtain ⟨q, hqm, hqe⟩ := List.mem_map.1 (List.mem_of_getElem? hp)
 have hql := Lo.msL_lt hqm
 rw [show (q : Int) + 1 = ((q + 1 : Nat) : Int) from by omega] at hqe
 subst hqe
 obtain ⟨x, hx⟩ : ∃ x, (Lo.dlOf l)[q + 1]? = some x := ⟨_, List.getElem?_eq_getElem (by rw [Lo.dlOf_len]; omega)⟩
 have hxm := List.mem_of_getElem? hx
 obtain ⟨hr1, hr2⟩ := hd.row hx
 have hv := hr2 0 (by omega)
 have hg9 : Lo.gE ns (q + 1) 0 = Lo.nn ns q := by unfold Lo.gE; rw [if_pos rfl, if_neg (by omega), Nat.add_sub_cancel]
 rw [hg9] at hv
 refine Sy.heap (fun w h => Lo.St.inn (x := x) h hxm) ?_
 refine Zg (a := x.a) (sz := 1) (rows := Lo.irows x.l) (by intro h0; have := congrArg List.length h0; rw [Lo.irows_len] at this; simp only [List.length_nil] at this; omega) (fun bx ox hex => ?_)
 rw [hex]
 refine Zg (a := ap) (sz := 3) (rows := Lo.pmrows (Lo.payL ns)) (by intro h0; have := congrArg List.length h0; rw [Lo.pmr_len] at this; simp only [List.length_nil] at this; omega) (fun bp op hep => ?_)
 subst hep
 refine Z3 (Z0 (Z2 (sqt 4 rfl (sp rfl (PE.indexAddr Zh2 rfl rfl (by omega) (by omega)) rfl (spL rfl rfl (lfA Zdk (row := Lo.pmrow ⟨((q + 1 : Nat) : Int), 0, Lo.nn ns q⟩) (Lo.pm_get hp) rfl) rfl (alc rfl Z9c rfl (fun b25 => ?_)))))))
 refine sto rfl rfl rfl ZfR rfl rfl rfl rfl ?_
 refine Z0 ?_
 refine Zc [0, 1, 3, 7, 15, 31, 63, 127, 255, 511, 1023, 511, 2559, 8191, 16383, 32767, 65535, 131071, 65535, 65535, 589823, 1900543, 3997695, 8191999, 16580607, 33554431, 67108863] (.tk 0 (.ld 1 (tks 2 3 (.ld 5 (tks 6 4 (.ld 10 (.tk 11 (.ld 12 (tks 13 4 (.ld 17 (.tk 18 (.tk 19 (.ld 20 (.tk 21 (.ld 22 (.tk 23 (.ld 24 (.tk 25 (.tk 26 .done))))))))))))))))))) Zo (by kernel_rfl) ?_
 refine tk rfl (PE.fA Z4u rfl) rfl (ld rfl rfl (lh sc3 rfl rfl) rfl (Zd 2 rfl ?_))
 refine Zk 210 rfl ?_ ?_ <;> intro g210
 exact absurd g210 (by simp)
 refine tkG rfl rfl rfl rfl (PE.fA Z38 rfl) rfl ?_
 refine ldG rfl rfl rfl rfl rfl (lh (v := .int .i64 ((q + 1 : Nat) : Int)) sc3 rfl rfl) rfl (Zd 3 rfl ?_)
 refine Zk 215 rfl ?_ ?_ <;> intro g215
 simp only [decide_eq_true_eq] at g215
 omega
 refine tkG rfl rfl rfl rfl (PE.fA Z38 rfl) rfl ?_
 refine ldG rfl rfl rfl rfl rfl (lh (v := .int .i64 ((q + 1 : Nat) : Int)) sc3 rfl rfl) rfl ?_
 refine tkG rfl rfl rfl rfl (PE.fA ZW rfl) rfl ?_
 refine ldG rfl rfl rfl rfl rfl (lh (v := .int .i64 (h : Nat)) sc3 rfl (by show some (Value.int .i64 wt.hands) = _; rw [hnh])) rfl (Zd 3 rfl ?_)
 refine Zk 222 rfl ?_ ?_ <;> intro g222
 simp only [decide_eq_true_eq] at g222
 omega
 refine tkG rfl rfl rfl rfl (PE.fA Z7t rfl) rfl ?_
 refine ldG rfl rfl rfl rfl rfl (lh sc3 rfl rfl) rfl (Zd 1 rfl ?_)
 refine tkG rfl rfl rfl rfl (PE.fA Z38 rfl) rfl ?_
 refine ldG rfl rfl rfl rfl rfl (lh (v := .int .i64 ((q + 1 : Nat) : Int)) sc3 rfl rfl) rfl ?_
 refine tkG rfl rfl rfl rfl (PE.indexAddr Zcs rfl rfl (by omega) (by omega)) rfl ?_
 refine ldG rfl rfl rfl rfl rfl (lf0 (row := Lo.plrow x) Z0G (Lo.pl_get hx) (by show some (Value.slice x.a x.l.length x.c) = _; rw [hex])) rfl ?_
 refine tkG rfl rfl rfl rfl (PE.indexAddr ZM rfl rfl (by omega) (by omega)) rfl ?_
 refine ldG rfl rfl rfl rfl rfl (lf0 (row := [.int .i64 (Lo.nn ns q)]) sc3 (Lo.ir_get hv) rfl) rfl (Zd 2 rfl ?_)
 refine Z1 rfl ?_ ?_ <;> intro hc7
 exact absurd hc7 (by simp)
 refine Z3 (sqr 2 rfl (sp rfl (PE.add rfl rfl (by omega)) rfl (pur 1 rfl ?_)))
 exact Z6 ⟨k + 1, by omega⟩ (fun w h => St.sub ((h.del b25).ftail))
 refine Z9 (Za (Za (Zl (sqt 8 rfl (pur 1 rfl (sp rfl (PE.conv64 us5 ik3 rfl (by omega)) rfl (sp rfl (PE.fA Z1E rfl) rfl (spL rfl rfl (lh sc3 rfl rfl) rfl (sp rfl (PE.add rfl rfl (by omega)) rfl (sp rfl (PE.rem rfl rfl (by omega)) rfl (alc rfl zl3 rfl (fun b26 => ?_))))))))))))
 refine sto rfl rfl rfl cn3 rfl rfl rfl rfl ?_
 refine Z0 (sqt 10 rfl ?_)
 have hem0 := Int.emod_nonneg u (show wt.hours + 1 ≠ 0 by omega)
 have hem1 := Int.emod_lt_of_pos u (show 0 < wt.hours + 1 by omega)
 refine sp rfl (PE.fA Zv rfl) rfl (spL rfl rfl (lh ZV rfl rfl) rfl (sp rfl (PE.lenSl Z0m rfl) rfl (pur 2 rfl ?_)))
 refine Zk 245 rfl ?_ ?_ <;> intro g245
 simp only [decide_eq_true_eq] at g245
 omega
 refine spG rfl rfl rfl rfl (PE.fA Zv rfl) rfl ?_
 refine Z0f rfl rfl rfl rfl rfl (lh ZV rfl rfl) rfl ?_
 refine spG rfl rfl rfl rfl (PE.makeFunc rfl rfl) rfl ?_
 refine clG rfl rfl rfl rfl Zbj rfl rfl (Hn.c_has_cnt wt.counts a1 k1 27 [] [.pointer (some ⟨b26, 0, none⟩)] (fun x => decide (x.hour = u % (wt.hours + 1))) Zgh (by omega) _ _ (fun x hx => Zg3 x (u % (wt.hours + 1)) b26 _ _)) ?_
 rintro _ _ R1 ⟨rfl, rfl, hR1⟩
 obtain rfl := hR1.symm
 clear hR1
 refine pur 1 rfl ?_
 refine Z1 rfl ?_ ?_ <;> intro hc8
 refine sqt 2 rfl ?_
 refine cl rfl Zf6 rfl rfl (Z48 _ _) ?_
 rintro _ _ R1 ⟨rfl, rfl, hR1⟩
 obtain rfl := hR1.symm
 clear hR1
 refine pur 1 rfl (Z4 ?_)
 exact rtA rfl rfl rfl ⟨rfl, rfl, rfl⟩ drp
 have hfr : ∀ x ∈ wt.counts, x.hour ≠ u % (wt.hours + 1) := fun x hx h9 => by
   have h8 : (wt.counts.any fun x => decide (x.hour = u % (wt.hours + 1))) = true := List.any_eq_true.2 ⟨x, hx, dT h9⟩
   rw [h8] at hc8; cases hc8
 obtain ⟨c9, he9⟩ : ∃ c : Hn.Cnt, c = (⟨u % (wt.hours + 1), 0, 500⟩ : Hn.Cnt) := ⟨_, rfl⟩
 have hfr2 : ∀ x ∈ wt.counts, x.hour ≠ c9.hour := by rw [he9]; exact hfr
 have hw2 : (wt.addC c9).ok := Hn.addC_ok hok (by omega) hfr2 (by rw [he9]; dsimp only; omega)
 have hcl2 := Hn.tru_clash hw2 (Hn.tru_add htru he9)
 have hpv : ∀ d, wt.prv (2 ^ d) ≤ (wt.addC c9).prv (2 ^ d) := fun d => Hn.addC_prv hok hw2 hfr2 (2 ^ d)
 refine Z3 (sqt 11 rfl (spL rfl rfl (lhA (Hn.wtl wt a1 a2 a3 k1 k2 k3) Z17 rfl rfl rfl) rfl (spL rfl rfl (lh sc3 rfl rfl) rfl (sp rfl (PE.build (out := [_, _]) Z6W Z5g rfl rfl) rfl ?_))))
 refine sp rfl ((PE.build (out := [.int .i64 (u % (wt.hours + 1)), .int .i64 0, .int .i64 500]) Zd2 Z2p rfl rfl).to (show _ = Value.agg (Hn.crow c9).toArray from by rw [he9]; rfl)) rfl ?_
 skip
 refine cl rfl Zhl rfl rfl (Hn.c_Add wt a1 a2 a3 k1 k2 k3 hok hk1 c9 (by omega) hfr2 hw2 _ _) ?_
 rintro _ _ R1 ⟨x1, x2, x3, d1, d2, d3, rfl, rfl, hR1⟩
 obtain rfl := hR1.symm
 clear hR1
 refine pur 3 rfl (alc rfl Z1w rfl (fun b27 => ?_))
 refine Z01 (l' := (Hn.wtl (wt.addC c9) x1 x2 x3 d1 d2 d3)) rfl rfl rfl Z3f rfl rfl rfl rfl (nl rfl) ?_
 refine pur 1 rfl (Z0 (sqt 2 rfl (pur 2 rfl ?_)))
 refine Z1 rfl ?_ ?_ <;> intro hc9
 exact absurd hc9 (by simp)
 refine Z3 (Z0 (sqt 3 rfl (sp rfl (PE.fA ZW rfl) rfl (spL rfl rfl (lh (v := .int .i64 (h : Nat)) sc3 rfl (by show some (Value.int .i64 wt.hands) = _; rw [hnh])) rfl (pur 1 rfl (Z2 ?_))))))
 refine Zb (ι := {k : Nat // k ≤ h}) (fun k => ⟨[(12, .slice (some ⟨b72, 0, none⟩) (Lo.dlOf l).length (Lo.dlOf l).length), (27, .pointer (some ⟨b27, 0, none⟩)), (268, .int .i64 (h : Nat)), (269, .int .i64 k.1)], (b27, cel 71 (Hn.wtl (wt.addC c9) x1 x2 x3 d1 d2 d3)) :: (b5, cel 71 (Hn.wtl wt a1 a2 a3 k1 k2 k3)) :: H, RowsA (some ⟨b72, 0, none⟩) 1 (Lo.plrows (Lo.dlOf l)) :: Lo.Inn (Lo.dlOf l) :: RowsA x1 3 (Hn.crows (wt.addC c9).counts) :: RowsA x2 2 (Hn.bkrows wt.books) :: RowsA x3 3 (Hn.sprows wt.spells) :: R⟩) (fun k => h - k.1) ⟨0, Nat.zero_le _⟩ ?_ (fun k => ?_)
 exact Zf (fun w h => St.sub (h.del b26))
 obtain ⟨k, hk⟩ := k
 dsimp only at hk ⊢
 refine sqt 1 rfl (pur 1 rfl (Z0 ?_))
 refine Z1 rfl ?_ ?_ <;> intro hc10
 try simp only [cS] at hc10
 obtain ⟨x, hx⟩ : ∃ x, (Lo.dlOf l)[k + 1]? = some x := ⟨_, List.getElem?_eq_getElem (by rw [Lo.dlOf_len]; omega)⟩
 have hxm := List.mem_of_getElem? hx
 obtain ⟨hr1, hr2⟩ := hd.row hx
 have hv := hr2 0 (by omega)
 have hg9 : Lo.gE ns (k + 1) 0 = Lo.nn ns k := by unfold Lo.gE; rw [if_pos rfl, if_neg (by omega), Nat.add_sub_cancel]
 rw [hg9, hnsk k (by omega)] at hv
 have hpk := hpv k
 refine Sy.heap (fun w h => Lo.St.inn (x := x) h hxm) ?_
 refine Zg (a := x.a) (sz := 1) (rows := Lo.irows x.l) (by intro h0; have := congrArg List.length h0; rw [Lo.irows_len] at this; simp only [List.length_nil] at this; omega) (fun bx ox hex => ?_)
 rw [hex]
 refine Z3 (Z0 (Z2 (sqt 2 rfl (pur 2 rfl (sqt 8 rfl (spL rfl rfl (lhA (Hn.wtl (wt.addC c9) x1 x2 x3 d1 d2 d3) Z17 rfl rfl rfl) rfl (pur 1 rfl ?_)))))))
 refine cl rfl Zd6 rfl rfl (Hn.c_Least (wt.addC c9) x1 x2 x3 d1 d2 d3 hw2 hcl2 k (by show (k : Int) < wt.hands; omega) _ _) ?_
 rintro _ _ R1 ⟨rfl, rfl, hR1⟩
 obtain rfl := hR1.symm
 clear hR1
 refine pur 5 rfl (sqt 13 rfl (pur 3 rfl ?_))
 refine Zk 280 rfl ?_ ?_ <;> intro g280
 exact absurd g280 (by simp)
 refine pur 3 rfl ?_
 refine spG rfl rfl rfl rfl (PE.add rfl rfl (by omega)) rfl ?_
 rw [show (k : Int) + 1 = ((k + 1 : Nat) : Int) from by omega]
 refine spG rfl rfl rfl rfl (PE.indexAddr Zcs rfl rfl (by omega) (by omega)) rfl ?_
 refine Z0f rfl rfl rfl rfl rfl (lf0 (row := Lo.plrow x) Z0G (Lo.pl_get hx) (by show some (Value.slice x.a x.l.length x.c) = _; rw [hex])) rfl ?_
 refine spG rfl rfl rfl rfl (PE.indexAddr ZM rfl rfl (by omega) (by omega)) rfl ?_
 refine Z0f rfl rfl rfl rfl rfl (lf0 (row := [.int .i64 (wt.prv (2 ^ k))]) sc3 (Lo.ir_get hv) rfl) rfl (pur 2 rfl ?_)
 refine Z1 rfl ?_ ?_ <;> intro hc11
 simp only [decide_eq_true_eq] at hc11
 omega
 refine Z3 (sqr 2 rfl (sp rfl (PE.add rfl rfl (by omega)) rfl (pur 1 rfl ?_)))
 exact Z6 ⟨k + 1, by omega⟩ (fun w h => St.sub h.ftail)
 refine Z9 (Za (Za (Zl (sqt 2 rfl ?_))))
 refine cl rfl Zf6 rfl rfl (Z48 _ _) ?_
 rintro _ _ R1 ⟨rfl, rfl, hR1⟩
 obtain rfl := hR1.symm
 clear hR1
 refine pur 1 rfl (Z4 ?_)
 exact rtA rfl rfl rfl ⟨rfl, rfl, rfl⟩ drp
end Go.Proofs.YtjoajfdnlomapaaGreat
