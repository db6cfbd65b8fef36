/- Walks of the functions of the program, and the laws that join them: what the last theorem of this claim needs, in order. -/
import Derived.Test.YtndhkpnaeocnhaaGreatDe5
namespace Go.Proofs.YtndhkpnaeocnhaaGreat
set_option linter.unusedSimpArgs false
set_option linter.unusedVariables false
open Go
theorem cal96 : cal Tryz.prog 96 = true := by kernel_rfl
theorem cal97 : cal Tryz.prog 97 = true := by kernel_rfl
def lsF (a b : Int) (x : Nat) : Bool := decide (a < x) && decide (a ≤ b)
def lsLo (a b : Int) (x : Nat) : Int := bif lsF a b x then a else 0
def lsHi (a b : Int) (x : Nat) : Int := bif lsF a b x then min ((x : Int) - 1) b else 0
theorem ls_hit {a b : Int} {x : Nat} (h : a ≤ x ∧ x ≤ b) : lsF a b (x + 1) = true ∧ lsLo a b (x + 1) = a ∧ lsHi a b (x + 1) = x ∧ (lsF a b x = false → a = x) ∧ (lsF a b x = true → lsLo a b x = a) := by
  have e : lsF a b (x + 1) = true := by simp [lsF]; omega
  refine ⟨e, by unfold lsLo; rw [e]; rfl, by unfold lsHi; rw [e]; simp only [cond_true]; omega, fun h1 => by simp [lsF] at h1; omega, fun h1 => by unfold lsLo; rw [h1]; rfl⟩
theorem ls_miss {a b : Int} {x : Nat} (h : ¬ (a ≤ x ∧ x ≤ b)) : lsF a b (x + 1) = lsF a b x ∧ lsLo a b (x + 1) = lsLo a b x ∧ lsHi a b (x + 1) = lsHi a b x := by
  have e : lsF a b (x + 1) = lsF a b x := by
    rw [Bool.eq_iff_iff]; simp [lsF]; omega
  refine ⟨e, by unfold lsLo; rw [e], ?_⟩
  unfold lsHi
  rw [e]
  cases h1 : lsF a b x
  · rfl
  · simp [lsF] at h1
    simp only [cond_true]; omega
theorem ls_end {a b : Int} (hb : b ≤ 40) : lsF a b 41 = decide (a ≤ b) ∧ lsLo a b 41 = (bif decide (a ≤ b) then a else 0) ∧ lsHi a b 41 = (bif decide (a ≤ b) then b else 0) := by
  have e : lsF a b 41 = decide (a ≤ b) := by
    rw [Bool.eq_iff_iff]; simp [lsF]; omega
  refine ⟨e, by unfold lsLo; rw [e], ?_⟩
  unfold lsHi
  rw [e]
  by_cases h : a ≤ b
  · rw [decide_eq_true h]; simp only [cond_true]; omega
  · rw [decide_eq_false h]; rfl
theorem letB_at {miss : Int} {h : Hnd} (hm : 0 ≤ miss ∧ miss ≤ 20) (hh : h.ok) {k : Nat} (hk : k < 4) {x : Nat} (hx : x ≤ 40) : letB miss h k x = true ↔ ((letS miss h k).1 ≤ x ∧ (x : Int) ≤ (letS miss h k).2) := (let_iff hm.1 hh hk (by omega)).symm
theorem sumT_part {m : Mix} : ∀ {k : Nat}, k ≤ 4 → (∀ j < k, 0 ≤ nn m j ∧ nn m j ≤ 40) → 0 ≤ sumT m k ∧ sumT m k ≤ 40 * k
  | 0, _, _ => by simp [sumT]
  | k + 1, hk, h => by
    have h1 := sumT_part (k := k) (by omega) (fun j hj => h j (by omega))
    have h2 := h k (by omega)
    simp only [sumT]; omega
theorem fit_at {miss : Int} {h : Hnd} {m : Mix} {k : Nat} (hk : k < 4) (hb : letB miss h k (nn m k) = false) : fitB miss h m = false := by
  unfold fitB; rw [List.all_eq_false]; exact ⟨k, List.mem_range.2 hk, by rw [hb]; simp⟩
theorem fit_of {miss : Int} {h : Hnd} {m : Mix} (hb : ∀ k < 4, letB miss h k (nn m k) = true) : fitB miss h m = true := by
  unfold fitB; rw [List.all_eq_true]; exact fun k hk => hb k (List.mem_range.1 hk)
theorem mix_rng {m : Mix} (hm : m.length = 4) {k : Nat} (hk : k < 4) (hb : inb (nn m k) 0 40 = false) : mixE m = 3 := by
  unfold mixE
  rw [show (m.all fun n => inb n 0 40) = false from by
    rw [List.all_eq_false]
    refine ⟨nn m k, ?_, by rw [hb]; simp⟩
    obtain ⟨a, b, c, d, rfl⟩ := list4 hm
    rcases lt4 hk with rfl | rfl | rfl | rfl <;> simp [nn]]
  rfl
theorem mix_all {m : Mix} (hm : m.length = 4) (hb : ∀ k < 4, inb (nn m k) 0 40 = true) : mixE m = bif decide (sumT m 4 ≠ 40) then 8 else 0 := by
  unfold mixE
  have e : sum4 m = sumT m 4 := by simp [sum4, sumT]
  rw [show (m.all fun n => inb n 0 40) = true from by
    obtain ⟨a, b, c, d, rfl⟩ := list4 hm
    have h0 := hb 0 (by omega); have h1 := hb 1 (by omega); have h2 := hb 2 (by omega); have h3 := hb 3 (by omega)
    simp only [nn, List.getD_cons_zero, List.getD_cons_succ] at h0 h1 h2 h3
    simp only [List.all_cons, List.all_nil, h0, h1, h2, h3]; rfl, e]
  rfl
theorem c_None (b : Bool) (H : Heap) (R : Facts) :
    FnV Tryz.prog 50 [.bool b] H R (.int .i64 (bif b then 0 else 6)) := by
 refine fn_of Tryz.func50 rfl Tryz.ntmps50 rfl ?_
 refine sy_seq ?_
 refine sy_tx' [0] rfl ?_
 refine sp rfl (PE.assign rfl) rfl ?_
 refine sy_seq ?_
 refine sy_seq ?_
 refine sy_tx' [0] rfl ?_
 refine sp rfl (PE.move rfl) rfl ?_
 refine sy_cond rfl (fun hc0 => ?_) (fun hc0 => ?_)
 subst hc0
 refine sy_seq ?_
 refine sy_tx' [0] rfl ?_
 refine sp rfl (PE.assign rfl) rfl ?_
 refine sy_ret ?_
 exact sy_return (vs := [_]) rfl (.cons (RV.tmp rfl) .nil) rfl ⟨rfl, rfl, rfl⟩ drp
 subst hc0
 refine sy_skip ?_
 refine sy_seq ?_
 refine sy_tx' [0] rfl ?_
 refine sp rfl (PE.assign rfl) rfl ?_
 refine sy_ret ?_
 exact sy_return (vs := [_]) rfl (.cons (RV.tmp rfl) .nil) rfl ⟨rfl, rfl, rfl⟩ drp
theorem c_rNet (g : Gat) (hg : g.ok) (sg : Value) (c : Crt) (hc : c.ok) (sc : Value) (H : Heap) (R : Facts) :
    FnV Tryz.prog 48 [g.v sg, c.v sc] H R (spv (netP g c).1 (netP g c).2) := by
 refine fn_of Tryz.func48 rfl Tryz.ntmps48 rfl ?_
 refine sy_seq ?_
 refine sy_tx' [0, 1, 2] rfl ?_
 refine bx rfl rfl rfl (fun b2 => ?_)
 refine bx rfl rfl rfl (fun b3 => ?_)
 refine alc rfl zl61 rfl (fun b4 => ?_)
 refine sy_seq ?_
 refine sy_tx' [0, 1, 2, 3, 4, 5, 6, 7, 8, 9, 10, 11, 12, 13, 14, 15, 16, 17, 18, 19, 20, 21] rfl ?_
 refine sp rfl (PE.fieldAddr fo79_0 rfl) rfl ?_
 refine spL rfl rfl (lh sc3 rfl rfl) rfl ?_
 refine sp rfl (PE.fieldAddr fo79_1 rfl) rfl ?_
 refine spL rfl rfl (lh sc3 rfl rfl) rfl ?_
 refine sp rfl (PE.sub rfl rfl (by have := hc.full; have := hc.empty; have := hg.err; omega)) rfl ?_
 refine sp rfl (PE.fieldAddr fo89_0 rfl) rfl ?_
 refine spL rfl rfl (lh sc3 rfl rfl) rfl ?_
 refine sp rfl (PE.mul rfl rfl (by have := hc.full; have := hc.empty; have := hg.err; omega)) rfl ?_
 refine sp rfl (PE.sub rfl rfl (by have := hc.full; have := hc.empty; have := hg.err; omega)) rfl ?_
 refine sp rfl (PE.max rfl rfl) rfl ?_
 refine sp rfl (PE.fieldAddr fo79_0 rfl) rfl ?_
 refine spL rfl rfl (lh sc3 rfl rfl) rfl ?_
 refine sp rfl (PE.fieldAddr fo79_1 rfl) rfl ?_
 refine spL rfl rfl (lh sc3 rfl rfl) rfl ?_
 refine sp rfl (PE.sub rfl rfl (by have := hc.full; have := hc.empty; have := hg.err; omega)) rfl ?_
 refine sp rfl (PE.fieldAddr fo89_0 rfl) rfl ?_
 refine spL rfl rfl (lh sc3 rfl rfl) rfl ?_
 refine sp rfl (PE.mul rfl rfl (by have := hc.full; have := hc.empty; have := hg.err; omega)) rfl ?_
 refine sp rfl (PE.add rfl rfl (by have := hc.full; have := hc.empty; have := hg.err; omega)) rfl ?_
 refine sp rfl (PE.max rfl rfl) rfl ?_
 refine sp rfl (PE.build (out := [_, _]) pl61 zl61 rfl rfl) rfl ?_
 refine sto rfl rfl rfl cn61 rfl rfl rfl rfl ?_
 refine sy_ret ?_
 exact sy_return (vs := [_]) rfl (.cons (RV.cell rfl (lhA [_, _] ag61 rfl rfl rfl)) .nil) rfl ⟨rfl, rfl, rfl⟩ drp
theorem c_rlet (g : Gat) (hg : 0 ≤ g.miss ∧ g.miss ≤ 20) (sg : Value) (h : Hnd) (hh : h.ok) (k : Nat) (hk : k < 4) (x : Int) (hx : 0 ≤ x ∧ x ≤ 40) (H : Heap) (R : Facts) :
    FnV Tryz.prog 96 [g.v sg, .agg (hrow h).toArray, .int .i64 k, .int .i64 x] H R (.bool (letB g.miss h k x)) := by
 have ht := hh.tot
 have hat := hh.at_ k hk
 have hmu := mul_b hx.1 hx.2 (show 0 ≤ h.tot by omega) ht.2
 refine fn_of Tryz.func96 rfl Tryz.ntmps96 rfl ?_
 refine sy_seq ?_
 refine sy_tx' [0, 1, 2] rfl ?_
 refine bx rfl rfl rfl (fun b4 => ?_)
 refine bx rfl rfl rfl (fun b5 => ?_)
 refine sp rfl (PE.assign rfl) rfl ?_
 refine sy_seq ?_
 refine sy_draw [0, 0, 2, 7, 0, 0, 48, 112, 240, 511, 1023] (.tk 0 (.ld 1 (.tk 4 (.tk 5 (.tk 6 (.ld 7 (.tk 8 (.big 2 (.tk 3 (.tk 9 (.tk 10 .done))))))))))) mixed (by kernel_rfl) ?_
 refine tk rfl (PE.move rfl) rfl ?_
 refine ld rfl rfl (lhA (hrow h) ag83 rfl (rest := []) (by rw [List.append_nil]; rfl) rfl) rfl ?_
 refine tk rfl (PE.move rfl) rfl ?_
 refine tk rfl (PE.fieldAddr fo83_1 rfl) rfl ?_
 refine tk rfl (PE.indexArr ar31 rfl rfl (by omega) (by omega)) rfl ?_
 refine ld rfl rfl (lh sc3 rfl (hrow_at hk)) rfl ?_
 refine tk rfl (PE.mul rfl rfl (by omega)) rfl ?_
 refine clV rfl cal92 rfl rfl (c_total h (fun k hk => by have := hh.at_ k hk; omega) _ _) ?_
 refine bg (fun w hs => ⟨(lh sc3 rfl (hrow_at hk)) w hs, trivial, trivial⟩) ?_
 refine tk rfl (PE.mul rfl rfl (by omega)) rfl ?_
 refine tk rfl (PE.sub rfl rfl (by omega)) rfl ?_
 refine tk rfl (PE.assign rfl) rfl ?_
 refine sy_seq ?_
 refine sy_tx' [0, 1, 2, 3, 4, 5, 6, 7, 8, 9, 10, 11, 12, 13] rfl ?_
 refine sp rfl (PE.move rfl) rfl ?_
 refine sp rfl (PE.fieldAddr fo89_1 rfl) rfl ?_
 refine spL rfl rfl (lh sc3 rfl rfl) rfl ?_
 refine sp rfl (PE.mul rfl rfl (by omega)) rfl ?_
 refine sp rfl (PE.leq rfl rfl) rfl ?_
 refine sp rfl (PE.move rfl) rfl ?_
 refine sy_case (t := 25) rfl (fun g25 => ?_) (fun g25 => ?_)
 try simp only [decide_eq_true_eq, decide_eq_false_iff_not, Bool.and_eq_true, Bool.or_eq_true, Bool.not_eq_true', Int.not_le, Int.not_lt] at g25
 have e : letB g.miss h k x = decide (-(x * h.tot - 40 * nn h.gs k) ≤ 40 * g.miss) := by unfold letB; rw [decide_eq_true (by omega), Bool.true_and]
 rw [← Int.zero_sub] at e
 refine spG rfl rfl rfl rfl (PE.move rfl) rfl ?_
 refine spG rfl rfl rfl rfl ((PE.negW rfl).to (by rw [wrap_i64_id (by omega) (by omega)])) rfl ?_
 refine spG rfl rfl rfl rfl (PE.fieldAddr fo89_1 rfl) rfl ?_
 refine spLG rfl rfl rfl rfl rfl (lh sc3 rfl rfl) rfl ?_
 refine spG rfl rfl rfl rfl (PE.mul rfl rfl (by omega)) rfl ?_
 refine spG rfl rfl rfl rfl (PE.leq rfl rfl) rfl ?_
 refine sp rfl (PE.pick rfl rfl rfl) rfl ?_
 refine sp rfl (PE.assign rfl) rfl ?_
 refine sy_ret ?_
 exact sy_return (vs := [_]) rfl (.cons (RV.tmp rfl) .nil) rfl ⟨by rw [e]; rfl, rfl, rfl⟩ drp
 try simp only [decide_eq_true_eq, decide_eq_false_iff_not, Bool.and_eq_true, Bool.or_eq_true, Bool.not_eq_true', Int.not_le, Int.not_lt] at g25
 have e : letB g.miss h k x = false := by unfold letB; rw [decide_eq_false (by omega), Bool.false_and]
 repeat refine spN rfl rfl rfl rfl rfl rfl rfl rfl ?_
 refine sp rfl (PE.pick rfl rfl rfl) rfl ?_
 refine sp rfl (PE.assign rfl) rfl ?_
 refine sy_ret ?_
 exact sy_return (vs := [_]) rfl (.cons (RV.tmp rfl) .nil) rfl ⟨by rw [e]; rfl, rfl, rfl⟩ drp
theorem c_rLets (g : Gat) (hg : 0 ≤ g.miss ∧ g.miss ≤ 20) (sg : Value) (h : Hnd) (hh : h.ok) (k : Nat) (hk : k < 4) (H : Heap) (R : Facts) :
    FnV Tryz.prog 49 [g.v sg, .agg (hrow h).toArray, .int .i64 k] H R (.tuple #[spv (bif decide ((letS g.miss h k).1 ≤ (letS g.miss h k).2) then (letS g.miss h k).1 else 0) (bif decide ((letS g.miss h k).1 ≤ (letS g.miss h k).2) then (letS g.miss h k).2 else 0), .bool (decide ((letS g.miss h k).1 ≤ (letS g.miss h k).2))]) := by
 have hbd := let_bd hg hh hk
 refine fn_of Tryz.func49 rfl Tryz.ntmps49 rfl ?_
 refine sy_seq ?_
 refine sy_tx' [0, 1, 2, 3] rfl ?_
 refine bx rfl rfl rfl (fun b3 => ?_)
 refine bx rfl rfl rfl (fun b4 => ?_)
 refine alc rfl zl61 rfl (fun b6 => ?_)
 refine sp rfl (PE.assign rfl) rfl ?_
 refine sy_seq ?_
 refine sy_tx' [0] rfl ?_
 refine alc rfl zl61 rfl (fun b8 => ?_)
 refine sy_seq ?_
 refine sy_tx' [0] rfl ?_
 refine sp rfl (PE.assign rfl) rfl ?_
 refine sy_seq ?_
 refine sy_seq ?_
 refine sy_tx' [0] rfl ?_
 refine sp rfl (PE.assign rfl) rfl ?_
 refine sy_block ?_
 refine sy_loop (ι := {x : Nat // x ≤ 41}) (fun x => ⟨[(2, .int .i64 k), (3, .pointer (some ⟨b3, 0, none⟩)), (4, .pointer (some ⟨b4, 0, none⟩)), (6, .pointer (some ⟨b6, 0, none⟩)), (8, .pointer (some ⟨b8, 0, none⟩)), (9, .bool (lsF (letS g.miss h k).1 (letS g.miss h k).2 x.1)), (10, .int .i64 x.1)], (b8, cel 61 [.int .i64 (lsLo (letS g.miss h k).1 (letS g.miss h k).2 x.1), .int .i64 (lsHi (letS g.miss h k).1 (letS g.miss h k).2 x.1)]) :: (b6, cel 61 [.int .i64 0, .int .i64 0]) :: (b4, cel 83 (hrow h)) :: (b3, cel 89 (gtl g sg)) :: H, R⟩) (fun x => 41 - x.1) ⟨0, by omega⟩ ?_ (fun x => ?_)
 exact sy_at (by rw [show lsF (letS g.miss h k).1 (letS g.miss h k).2 0 = false from by simp [lsF]; omega]; exact (by repeat' first | exact Sub.nil | apply Sub.cons | rfl | (simp [lk]; omega))) (fun w h9 => by rw [show lsLo (letS g.miss h k).1 (letS g.miss h k).2 0 = 0 from by unfold lsLo; rw [show lsF (letS g.miss h k).1 (letS g.miss h k).2 0 = false from by simp [lsF]; omega]; rfl, show lsHi (letS g.miss h k).1 (letS g.miss h k).2 0 = 0 from by unfold lsHi; rw [show lsF (letS g.miss h k).1 (letS g.miss h k).2 0 = false from by simp [lsF]; omega]; rfl]; exact h9)
 obtain ⟨x, hx⟩ := x
 dsimp only at hx ⊢
 refine sy_seq ?_
 refine sy_seq ?_
 refine sy_tx' [0, 1] rfl ?_
 refine sp rfl (PE.move rfl) rfl ?_
 refine sp rfl (PE.leq rfl rfl) rfl ?_
 refine sy_cond rfl (fun hc0 => ?_) (fun hc0 => ?_)
 try simp only [decide_eq_true_eq, decide_eq_false_iff_not, Bool.and_eq_true, Bool.or_eq_true, Bool.not_eq_true', Int.not_le, Int.not_lt] at hc0
 have hx4 : x ≤ 40 := by omega
 have hla := letB_at hg hh hk hx4
 refine sy_skip ?_
 refine sy_seq ?_
 refine sy_block ?_
 refine sy_seq ?_
 refine sy_seq ?_
 refine sy_tx' [0, 1, 2, 3, 4, 5] rfl ?_
 refine spL rfl rfl (lhA [_, _, _] ag89 rfl rfl rfl) rfl ?_
 refine spL rfl rfl (lhA (hrow h) ag83 rfl (rest := []) (by rw [List.append_nil]; rfl) rfl) rfl ?_
 refine sp rfl (PE.move rfl) rfl ?_
 refine sp rfl (PE.move rfl) rfl ?_
 refine clV rfl cal96 rfl rfl (c_rlet g hg sg h hh k hk (x : Int) (by omega) _ _) ?_
 refine sp rfl (PE.not rfl) rfl ?_
 refine sy_cond rfl (fun hc1 => ?_) (fun hc1 => ?_)
 have hl0 : letB g.miss h k x = false := by simpa using hc1
 obtain ⟨e1, e2, e3⟩ := ls_miss (fun h9 => by rw [hla.2 h9] at hl0; cases hl0)
 refine sy_exit ?_
 refine sy_tx ?_
 refine sy_bx ?_
 refine sy_tx' [0, 1, 2] rfl ?_
 refine sp rfl (PE.move rfl) rfl ?_
 refine sp rfl (PE.add rfl rfl (by omega)) rfl ?_
 refine sp rfl (PE.assign rfl) rfl ?_
 exact sy_next ⟨x + 1, by omega⟩ (by dsimp only; omega) (by dsimp only; rw [e1]; exact (by repeat' first | exact Sub.nil | apply Sub.cons | rfl | (simp [lk]; omega))) (fun w h9 => by dsimp only; rw [e2, e3]; exact h9)
 have hl1 : letB g.miss h k x = true := by simpa using hc1
 obtain ⟨e1, e2, e3, e4, e5⟩ := ls_hit (hla.1 hl1)
 refine sy_skip ?_
 refine sy_seq ?_
 refine sy_seq ?_
 refine sy_tx' [0, 1] rfl ?_
 refine sp rfl (PE.move rfl) rfl ?_
 refine sp rfl (PE.not rfl) rfl ?_
 refine sy_cond rfl (fun hc2 => ?_) (fun hc2 => ?_)
 have e6 := e4 (by simpa using hc2)
 refine sy_tx' [0, 1, 2] rfl ?_
 refine sp rfl (PE.move rfl) rfl ?_
 refine sp rfl (PE.fieldAddr fo61_0 rfl) rfl ?_
 refine sto rfl rfl rfl cn3 rfl rfl rfl rfl ?_
 refine sy_seq ?_
 refine sy_tx' [0, 1, 2] rfl ?_
 refine sp rfl (PE.move rfl) rfl ?_
 refine sp rfl (PE.fieldAddr fo61_1 rfl) rfl ?_
 refine sto rfl rfl rfl cn3 rfl rfl rfl rfl ?_
 refine sy_tx' [0] rfl ?_
 refine sp rfl (PE.assign rfl) rfl ?_
 refine sy_tx' [0, 1, 2] rfl ?_
 refine sp rfl (PE.move rfl) rfl ?_
 refine sp rfl (PE.add rfl rfl (by omega)) rfl ?_
 refine sp rfl (PE.assign rfl) rfl ?_
 first
   | exact sy_next ⟨x + 1, by omega⟩ (by dsimp only; omega) (by dsimp only; rw [e1]; exact (by repeat' first | exact Sub.nil | apply Sub.cons | rfl | (simp [lk]; omega))) (fun w h9 => by dsimp only; rw [e2, e3, e6]; exact h9)
   | exact sy_next ⟨x + 1, by omega⟩ (by dsimp only; omega) (by dsimp only; rw [e1]; exact (by repeat' first | exact Sub.nil | apply Sub.cons | rfl | (simp [lk]; omega))) (fun w h9 => by dsimp only; rw [e2, e3, ← e7]; exact h9)
 have e7 := e5 (by simpa using hc2)
 refine sy_skip ?_
 refine sy_seq ?_
 refine sy_tx' [0, 1, 2] rfl ?_
 refine sp rfl (PE.move rfl) rfl ?_
 refine sp rfl (PE.fieldAddr fo61_1 rfl) rfl ?_
 refine sto rfl rfl rfl cn3 rfl rfl rfl rfl ?_
 refine sy_tx' [0] rfl ?_
 refine sp rfl (PE.assign rfl) rfl ?_
 refine sy_tx' [0, 1, 2] rfl ?_
 refine sp rfl (PE.move rfl) rfl ?_
 refine sp rfl (PE.add rfl rfl (by omega)) rfl ?_
 refine sp rfl (PE.assign rfl) rfl ?_
 first
   | exact sy_next ⟨x + 1, by omega⟩ (by dsimp only; omega) (by dsimp only; rw [e1]; exact (by repeat' first | exact Sub.nil | apply Sub.cons | rfl | (simp [lk]; omega))) (fun w h9 => by dsimp only; rw [e2, e3, e6]; exact h9)
   | exact sy_next ⟨x + 1, by omega⟩ (by dsimp only; omega) (by dsimp only; rw [e1]; exact (by repeat' first | exact Sub.nil | apply Sub.cons | rfl | (simp [lk]; omega))) (fun w h9 => by dsimp only; rw [e2, e3, ← e7]; exact h9)
 try simp only [decide_eq_true_eq, decide_eq_false_iff_not, Bool.and_eq_true, Bool.or_eq_true, Bool.not_eq_true', Int.not_le, Int.not_lt] at hc0
 obtain rfl : x = 41 := by omega
 obtain ⟨e1, e2, e3⟩ := ls_end (a := (letS g.miss h k).1) hbd.2.2
 rw [e1, e2, e3]
 refine sy_exit ?_
 repeat refine sy_tx ?_
 refine sy_bx ?_
 refine sy_seq ?_
 refine sy_tx' [0, 1, 2, 3] rfl ?_
 refine spL rfl rfl (lhA [_, _] ag61 rfl rfl rfl) rfl ?_
 refine sp rfl (PE.move rfl) rfl ?_
 refine sto rfl rfl rfl cn61 rfl rfl rfl rfl ?_
 refine sp rfl (PE.assign rfl) rfl ?_
 refine sy_ret ?_
 exact sy_return (vs := [_, _]) rfl (.cons (RV.cell rfl (lhA [_, _] ag61 rfl rfl rfl)) (.cons (RV.tmp rfl) .nil)) rfl ⟨rfl, rfl, rfl⟩ drp
theorem c_rMixed (m : Mix) (hm : m.length = 4) (H : Heap) (R : Facts) :
    FnV Tryz.prog 51 [.agg (ints m).toArray] H R (.int .i64 (mixE m)) := by
 refine fn_of Tryz.func51 rfl Tryz.ntmps51 rfl ?_
 refine sy_seq ?_
 refine sy_tx' [0, 1] rfl ?_
 refine bx rfl rfl rfl (fun b1 => ?_)
 refine sp rfl (PE.assign rfl) rfl ?_
 refine sy_seq ?_
 refine sy_tx' [0] rfl ?_
 refine sp rfl (PE.assign rfl) rfl ?_
 refine sy_seq ?_
 refine sy_seq ?_
 refine sy_tx' [0] rfl ?_
 refine sp rfl (PE.assign rfl) rfl ?_
 refine sy_block ?_
 refine sy_loop (ι := {k : Nat // k ≤ 4 ∧ ∀ j < k, inb (nn m j) 0 40 = true}) (fun k => ⟨[(1, .pointer (some ⟨b1, 0, none⟩)), (3, .int .i64 (sumT m k.1)), (4, .int .i64 k.1)], (b1, cel 31 (ints m)) :: H, R⟩) (fun k => 4 - k.1) ⟨0, by omega, fun j h => by omega⟩ ?_ (fun k => ?_)
 exact sy_at (by repeat' first | exact Sub.nil | apply Sub.cons | rfl | (simp [lk]; omega)) (fun _ h => h)
 obtain ⟨k, hk, hn⟩ := k
 dsimp only at hk hn ⊢
 have hsb : 0 ≤ sumT m k ∧ sumT m k ≤ 40 * k := sumT_part hk (fun j hj => by simpa [inb] using hn j hj)
 refine sy_seq ?_
 refine sy_seq ?_
 refine sy_tx' [0, 1] rfl ?_
 refine sp rfl (PE.move rfl) rfl ?_
 refine sp rfl (PE.lss rfl rfl) rfl ?_
 refine sy_cond rfl (fun hc0 => ?_) (fun hc0 => ?_)
 try simp only [decide_eq_true_eq, decide_eq_false_iff_not, Bool.and_eq_true, Bool.or_eq_true, Bool.not_eq_true', Int.not_le, Int.not_lt] at hc0
 have hk4 : k < 4 := by omega
 refine sy_skip ?_
 refine sy_seq ?_
 refine sy_block ?_
 refine sy_seq ?_
 refine sy_seq ?_
 refine sy_tx' [0, 1, 2, 3] rfl ?_
 refine sp rfl (PE.move rfl) rfl ?_
 refine sp rfl (PE.indexArr ar31 rfl rfl (by omega) (by omega)) rfl ?_
 refine spL rfl rfl (lh sc3 rfl (mix_at hm hk4)) rfl ?_
 refine clV rfl cal91 rfl rfl (c_off _ _ _ _ _) ?_
 refine sy_cond rfl (fun hc1 => ?_) (fun hc1 => ?_)
 have hb : inb (nn m k) 0 40 = false := by rw [← Bool.not_eq_true']; exact hc1
 have hres := mix_rng hm hk4 hb
 refine sy_seq ?_
 refine sy_tx' [0] rfl ?_
 refine sp rfl (PE.assign rfl) rfl ?_
 refine sy_ret ?_
 exact sy_return (vs := [_]) rfl (.cons (RV.tmp rfl) .nil) rfl ⟨by rw [hres]; rfl, rfl, rfl⟩ drp
 have q1 : inb (nn m k) 0 40 = true := by rw [← Bool.not_eq_false']; exact hc1
 have q2 : 0 ≤ nn m k ∧ nn m k ≤ 40 := by simpa [inb] using q1
 refine sy_skip ?_
 refine sy_tx' [0, 1, 2, 3, 4, 5] rfl ?_
 refine sp rfl (PE.move rfl) rfl ?_
 refine sp rfl (PE.move rfl) rfl ?_
 refine sp rfl (PE.indexArr ar31 rfl rfl (by omega) (by omega)) rfl ?_
 refine spL rfl rfl (lh sc3 rfl (mix_at hm hk4)) rfl ?_
 refine sp rfl (PE.add rfl rfl (by omega)) rfl ?_
 refine sp rfl (PE.assign rfl) rfl ?_
 refine sy_tx' [0, 1, 2] rfl ?_
 refine sp rfl (PE.move rfl) rfl ?_
 refine sp rfl (PE.add rfl rfl (by omega)) rfl ?_
 refine sp rfl (PE.assign rfl) rfl ?_
 exact sy_next ⟨k + 1, by omega, fun j hj => by rcases Nat.lt_succ_iff_lt_or_eq.1 hj with h1 | rfl; exact hn j h1; exact q1⟩ (by dsimp only; omega) (by repeat' first | exact Sub.nil | apply Sub.cons | rfl | (simp [lk]; omega)) (fun _ h => h)
 try simp only [decide_eq_true_eq, decide_eq_false_iff_not, Bool.and_eq_true, Bool.or_eq_true, Bool.not_eq_true', Int.not_le, Int.not_lt] at hc0
 obtain rfl : k = 4 := by omega
 have hma := mix_all hm hn
 refine sy_exit ?_
 repeat refine sy_tx ?_
 refine sy_bx ?_
 refine sy_seq ?_
 refine sy_seq ?_
 refine sy_tx' [0, 1] rfl ?_
 refine sp rfl (PE.move rfl) rfl ?_
 refine sp rfl (PE.neq rfl rfl) rfl ?_
 refine sy_cond rfl (fun hc2 => ?_) (fun hc2 => ?_)
 try simp only [decide_eq_true_eq, decide_eq_false_iff_not, Bool.and_eq_true, Bool.or_eq_true, Bool.not_eq_true', Int.not_le, Int.not_lt] at hc2
 have hres : mixE m = 8 := by rw [hma, decide_eq_true (by omega)]; rfl
 refine sy_seq ?_
 refine sy_tx' [0] rfl ?_
 refine sp rfl (PE.assign rfl) rfl ?_
 refine sy_ret ?_
 exact sy_return (vs := [_]) rfl (.cons (RV.tmp rfl) .nil) rfl ⟨by rw [hres]; rfl, rfl, rfl⟩ drp
 try simp only [decide_eq_true_eq, decide_eq_false_iff_not, Bool.and_eq_true, Bool.or_eq_true, Bool.not_eq_true', Int.not_le, Int.not_lt] at hc2
 have hres : mixE m = 0 := by rw [hma, decide_eq_false (by omega)]; rfl
 refine sy_skip ?_
 refine sy_seq ?_
 refine sy_tx' [0] rfl ?_
 refine sp rfl (PE.assign rfl) rfl ?_
 refine sy_ret ?_
 exact sy_return (vs := [_]) rfl (.cons (RV.tmp rfl) .nil) rfl ⟨by rw [hres]; rfl, rfl, rfl⟩ drp
theorem c_rFit (g : Gat) (hg : 0 ≤ g.miss ∧ g.miss ≤ 20) (sg : Value) (h : Hnd) (hh : h.ok) (m : Mix) (hm : Mxt m) (H : Heap) (R : Facts) :
    FnV Tryz.prog 97 [g.v sg, .agg (hrow h).toArray, .agg (ints m).toArray] H R (.bool (fitB g.miss h m)) := by
 refine fn_of Tryz.func97 rfl Tryz.ntmps97 rfl ?_
 refine sy_seq ?_
 refine sy_tx' [0, 1, 2, 3] rfl ?_
 refine bx rfl rfl rfl (fun b3 => ?_)
 refine bx rfl rfl rfl (fun b4 => ?_)
 refine bx rfl rfl rfl (fun b5 => ?_)
 refine sp rfl (PE.assign rfl) rfl ?_
 refine sy_seq ?_
 refine sy_seq ?_
 refine sy_tx' [0] rfl ?_
 refine sp rfl (PE.assign rfl) rfl ?_
 refine sy_block ?_
 refine sy_loop (ι := {k : Nat // k ≤ 4 ∧ ∀ j < k, letB g.miss h j (nn m j) = true}) (fun k => ⟨[(3, .pointer (some ⟨b3, 0, none⟩)), (4, .pointer (some ⟨b4, 0, none⟩)), (5, .pointer (some ⟨b5, 0, none⟩)), (7, .int .i64 k.1)], (b5, cel 31 (ints m)) :: (b4, cel 83 (hrow h)) :: (b3, cel 89 (gtl g sg)) :: H, R⟩) (fun k => 4 - k.1) ⟨0, by omega, fun j h => by omega⟩ ?_ (fun k => ?_)
 exact sy_at (by repeat' first | exact Sub.nil | apply Sub.cons | rfl | (simp [lk]; omega)) (fun _ h => h)
 obtain ⟨k, hk, hn⟩ := k
 dsimp only at hk hn ⊢
 refine sy_seq ?_
 refine sy_seq ?_
 refine sy_tx' [0, 1] rfl ?_
 refine sp rfl (PE.move rfl) rfl ?_
 refine sp rfl (PE.lss rfl rfl) rfl ?_
 refine sy_cond rfl (fun hc0 => ?_) (fun hc0 => ?_)
 try simp only [decide_eq_true_eq, decide_eq_false_iff_not, Bool.and_eq_true, Bool.or_eq_true, Bool.not_eq_true', Int.not_le, Int.not_lt] at hc0
 have hk4 : k < 4 := by omega
 refine sy_skip ?_
 refine sy_seq ?_
 refine sy_block ?_
 refine sy_seq ?_
 refine sy_draw [0, 0, 0, 0, 8, 24, 63, 127] (.ld 0 (.ld 1 (.tk 2 (.tk 3 (.tk 4 (.ld 5 (.big 6 (.tk 7 .done)))))))) mixed (by kernel_rfl) ?_
 refine ld rfl rfl (lhA [_, _, _] ag89 rfl rfl rfl) rfl ?_
 refine ld rfl rfl (lhA (hrow h) ag83 rfl (rest := []) (by rw [List.append_nil]; rfl) rfl) rfl ?_
 refine tk rfl (PE.move rfl) rfl ?_
 refine tk rfl (PE.move rfl) rfl ?_
 refine tk rfl (PE.indexArr ar31 rfl rfl (by omega) (by omega)) rfl ?_
 refine ld rfl rfl (lh sc3 rfl (mix_at hm.len hk4)) rfl ?_
 refine clV rfl cal96 rfl rfl (c_rlet g hg sg h hh k hk4 (nn m k) (hm.at_ k hk4) _ _) ?_
 refine bg (fun w hs => ⟨trivial, trivial, trivial, trivial⟩) ?_
 refine tk rfl (PE.not rfl) rfl ?_
 refine sy_cond rfl (fun hc1 => ?_) (fun hc1 => ?_)
 have hb : letB g.miss h k (nn m k) = false := by simpa using hc1
 have hres := fit_at hk4 hb
 refine sy_seq ?_
 refine sy_tx' [0] rfl ?_
 refine sp rfl (PE.assign rfl) rfl ?_
 refine sy_ret ?_
 exact sy_return (vs := [_]) rfl (.cons (RV.tmp rfl) .nil) rfl ⟨by rw [hres]; rfl, rfl, rfl⟩ drp
 have q1 : letB g.miss h k (nn m k) = true := by simpa using hc1
 refine sy_skip ?_
 refine sy_tx' [0, 1, 2] rfl ?_
 refine sp rfl (PE.move rfl) rfl ?_
 refine sp rfl (PE.add rfl rfl (by omega)) rfl ?_
 refine sp rfl (PE.assign rfl) rfl ?_
 exact sy_next ⟨k + 1, by omega, fun j hj => by rcases Nat.lt_succ_iff_lt_or_eq.1 hj with h1 | rfl; exact hn j h1; exact q1⟩ (by dsimp only; omega) (by repeat' first | exact Sub.nil | apply Sub.cons | rfl | (simp [lk]; omega)) (fun _ h => h)
 try simp only [decide_eq_true_eq, decide_eq_false_iff_not, Bool.and_eq_true, Bool.or_eq_true, Bool.not_eq_true', Int.not_le, Int.not_lt] at hc0
 obtain rfl : k = 4 := by omega
 have hres := fit_of hn
 refine sy_exit ?_
 repeat refine sy_tx ?_
 refine sy_bx ?_
 refine sy_seq ?_
 refine sy_tx' [0] rfl ?_
 refine sp rfl (PE.assign rfl) rfl ?_
 refine sy_ret ?_
 exact sy_return (vs := [_]) rfl (.cons (RV.tmp rfl) .nil) rfl ⟨by rw [hres]; rfl, rfl, rfl⟩ drp
theorem c_rFits (g : Gat) (hg : 0 ≤ g.miss ∧ g.miss ≤ 20) (sg : Value) (c : Crt) (hc : c.ok) (ah : Option Addr) (ch : Nat) (m : Mix) (hm : Mxt m) (H : Heap) (R : Facts) [hA : MemRows ah 5 (hrows c.hs) R] :
    FnV Tryz.prog 52 [g.v sg, c.v (c.sl ah ch), .agg (ints m).toArray] H R (.bool (c.hs.all fun h => fitB g.miss h m)) := by
 refine fn_of Tryz.func52 rfl Tryz.ntmps52 rfl ?_
 refine sy_seq ?_
 refine sy_tx' [0, 1, 2, 3] rfl ?_
 refine bx rfl rfl rfl (fun b3 => ?_)
 refine bx rfl rfl rfl (fun b4 => ?_)
 refine bx rfl rfl rfl (fun b5 => ?_)
 refine sp rfl (PE.assign rfl) rfl ?_
 refine sy_seq ?_
 refine sy_seq ?_
 refine sy_tx' [0] rfl ?_
 refine sp rfl (PE.assign rfl) rfl ?_
 refine sy_block ?_
 refine sy_loop (ι := {i : Nat // i ≤ c.hs.length ∧ ((c.hs.take i).all fun h => fitB g.miss h m) = true}) (fun i => ⟨[(3, .pointer (some ⟨b3, 0, none⟩)), (4, .pointer (some ⟨b4, 0, none⟩)), (5, .pointer (some ⟨b5, 0, none⟩)), (7, .int .i64 i.1)], (b5, cel 31 (ints m)) :: (b4, cel 79 (ctl c (c.sl ah ch))) :: (b3, cel 89 (gtl g sg)) :: H, R⟩) (fun i => c.hs.length - i.1) ⟨0, by simp⟩ ?_ (fun i => ?_)
 exact sy_at (by repeat' first | exact Sub.nil | apply Sub.cons | rfl | (simp [lk]; omega)) (fun _ h => h)
 obtain ⟨i, hi, hn⟩ := i
 dsimp only at hi hn ⊢
 have hmany := hc.many
 refine sy_seq ?_
 refine sy_seq ?_
 refine sy_tx' [0, 1, 2, 3, 4] rfl ?_
 refine sp rfl (PE.move rfl) rfl ?_
 refine sp rfl (PE.fieldAddr fo79_2 rfl) rfl ?_
 refine spL rfl rfl (lh sc77 rfl rfl) rfl ?_
 refine sp rfl (PE.lenSl isl77 rfl) rfl ?_
 refine sp rfl (PE.lss rfl rfl) rfl ?_
 refine sy_cond rfl (fun hc0 => ?_) (fun hc0 => ?_)
 try simp only [decide_eq_true_eq, decide_eq_false_iff_not, Bool.and_eq_true, Bool.or_eq_true, Bool.not_eq_true', Int.not_le, Int.not_lt] at hc0
 obtain ⟨x, hx⟩ : ∃ x, c.hs[i]? = some x := ⟨_, List.getElem?_eq_getElem (by omega)⟩
 refine sy_addr (a := ah) (sz := 5) (rows := hrows c.hs) (by intro h0; simp [hrows] at h0; simp [h0] at hx) (fun ba oa hea => ?_)
 subst hea
 refine sy_skip ?_
 refine sy_seq ?_
 refine sy_block ?_
 refine sy_seq ?_
 refine sy_draw [0, 0, 2, 0, 14, 30, 0, 127, 255] (.ld 0 (.tk 1 (.ld 2 (.tk 3 (.tk 4 (.ld 5 (.ld 6 (.big 7 (.tk 8 .done))))))))) mixed (by kernel_rfl) ?_
 refine ld rfl rfl (lhA [_, _, _] ag89 rfl rfl rfl) rfl ?_
 refine tk rfl (PE.fieldAddr fo79_2 rfl) rfl ?_
 refine ld rfl rfl (lh sc77 rfl rfl) rfl ?_
 refine tk rfl (PE.move rfl) rfl ?_
 refine tk rfl (PE.indexAddr el77 rfl rfl (by omega) (by omega)) rfl ?_
 refine ld rfl rfl (lfA ag83 (row := hrow x) (hr_get (by simpa using hx)) rfl) rfl ?_
 refine ld rfl rfl (lhA (ints (m)) ag31 rfl (rest := []) (by rw [List.append_nil]; rfl) (by rw [ints_length]; exact hm.len)) rfl ?_
 refine clV rfl cal97 rfl rfl (c_rFit g hg sg x (hc.hs x (List.mem_of_getElem? hx)) m hm _ _) ?_
 refine bg (fun w hs => ⟨trivial, trivial, trivial, trivial, trivial⟩) ?_
 refine tk rfl (PE.not rfl) rfl ?_
 refine sy_cond rfl (fun hc1 => ?_) (fun hc1 => ?_)
 have hb : fitB g.miss x m = false := by simpa using hc1
 have hres := all_bad hx (p := fun h => fitB g.miss h m) hb
 refine sy_seq ?_
 refine sy_tx' [0] rfl ?_
 refine sp rfl (PE.assign rfl) rfl ?_
 refine sy_ret ?_
 exact sy_return (vs := [_]) rfl (.cons (RV.tmp rfl) .nil) rfl ⟨by rw [hres]; rfl, rfl, rfl⟩ drp
 have q1 : fitB g.miss x m = true := by simpa using hc1
 refine sy_skip ?_
 refine sy_tx' [0, 1, 2] rfl ?_
 refine sp rfl (PE.move rfl) rfl ?_
 refine sp rfl (PE.add rfl rfl (by omega)) rfl ?_
 refine sp rfl (PE.assign rfl) rfl ?_
 exact sy_next ⟨i + 1, by omega, all_more hx hn q1⟩ (by dsimp only; omega) (by repeat' first | exact Sub.nil | apply Sub.cons | rfl | (simp [lk]; omega)) (fun _ h => h)
 try simp only [decide_eq_true_eq, decide_eq_false_iff_not, Bool.and_eq_true, Bool.or_eq_true, Bool.not_eq_true', Int.not_le, Int.not_lt] at hc0
 obtain rfl : i = c.hs.length := by omega
 rw [List.take_length] at hn
 have hres := hn
 refine sy_exit ?_
 repeat refine sy_tx ?_
 refine sy_bx ?_
 refine sy_seq ?_
 refine sy_tx' [0] rfl ?_
 refine sp rfl (PE.assign rfl) rfl ?_
 refine sy_ret ?_
 exact sy_return (vs := [_]) rfl (.cons (RV.tmp rfl) .nil) rfl ⟨by rw [hres]; rfl, rfl, rfl⟩ drp
theorem c_rHas (g : Gat) (ag : Option Addr) (cg : Nat) (hlg : g.grs.length ≤ 9223372036854775807) (hml : g.grs.length ≤ 1000) (m : Mix) (hm : Mxt m) (H : Heap) (R : Facts) [hG : MemRows ag 5 (grows g.grs) R] :
    FnV Tryz.prog 53 [g.v (g.sl ag cg), .agg (ints m).toArray] H R (.int .i64 (hasG g.grs m)) := by
 refine fn_of Tryz.func53 rfl Tryz.ntmps53 rfl ?_
 refine sy_seq ?_
 refine sy_tx' [0, 1, 2] rfl ?_
 refine bx rfl rfl rfl (fun b2 => ?_)
 refine bx rfl rfl rfl (fun b3 => ?_)
 refine sp rfl (PE.assign rfl) rfl ?_
 refine sy_seq ?_
 refine sy_seq ?_
 refine sy_tx' [0] rfl ?_
 refine sp rfl (PE.assign rfl) rfl ?_
 refine sy_block ?_
 refine sy_loop (ι := {i : Nat // i ≤ g.grs.length ∧ ∀ y ∈ g.grs.take i, y.kept m = false}) (fun i => ⟨[(2, .pointer (some ⟨b2, 0, none⟩)), (3, .pointer (some ⟨b3, 0, none⟩)), (5, .int .i64 i.1)], (b3, cel 31 (ints m)) :: (b2, cel 89 (gtl g (g.sl ag cg))) :: H, R⟩) (fun i => g.grs.length - i.1) ⟨0, by simp⟩ ?_ (fun i => ?_)
 exact sy_at (by repeat' first | exact Sub.nil | apply Sub.cons | rfl | (simp [lk]; omega)) (fun _ h => h)
 obtain ⟨i, hi, hn⟩ := i
 dsimp only at hi hn ⊢
 refine sy_seq ?_
 refine sy_seq ?_
 refine sy_tx' [0, 1, 2, 3, 4] rfl ?_
 refine sp rfl (PE.move rfl) rfl ?_
 refine sp rfl (PE.fieldAddr fo89_2 rfl) rfl ?_
 refine spL rfl rfl (lh sc87 rfl rfl) rfl ?_
 refine sp rfl (PE.lenSl isl87 rfl) rfl ?_
 refine sp rfl (PE.lss rfl rfl) rfl ?_
 refine sy_cond rfl (fun hc0 => ?_) (fun hc0 => ?_)
 try simp only [decide_eq_true_eq, decide_eq_false_iff_not, Bool.and_eq_true, Bool.or_eq_true, Bool.not_eq_true', Int.not_le, Int.not_lt] at hc0
 obtain ⟨x, hx⟩ : ∃ x, g.grs[i]? = some x := ⟨_, List.getElem?_eq_getElem (by omega)⟩
 refine sy_addr (a := ag) (sz := 5) (rows := grows g.grs) (by intro h0; simp [grows] at h0; simp [h0] at hx) (fun ba oa hea => ?_)
 subst hea
 have hkq := kept_eq (x := x) hm
 refine sy_skip ?_
 refine sy_seq ?_
 refine sy_block ?_
 refine sy_seq ?_
 refine sy_tx' [0, 1, 2, 3, 4, 5, 6] rfl ?_
 refine sp rfl (PE.fieldAddr fo89_2 rfl) rfl ?_
 refine spL rfl rfl (lh sc87 rfl rfl) rfl ?_
 refine sp rfl (PE.move rfl) rfl ?_
 refine sp rfl (PE.indexAddr el87 rfl rfl (by omega) (by omega)) rfl ?_
 refine spL rfl rfl (lfA ag140 (row := grow x) (gr_get (by simpa using hx)) rfl) rfl ?_
 refine alc rfl zl140 rfl (fun b6 => ?_)
 refine sto rfl rfl rfl cn140 rfl rfl rfl rfl ?_
 refine sy_seq ?_
 refine sy_tx' [0, 1, 2, 3, 4, 5, 6, 7, 8, 9, 10, 11, 12, 13, 14, 15, 16, 17, 18, 19, 20, 21, 22, 23, 24, 25] rfl ?_
 refine sp rfl (PE.indexArr ar31 rfl rfl (by omega) (by omega)) rfl ?_
 refine spL rfl rfl (lh sc3 rfl (mix_at hm.len (k := 0) (by omega))) rfl ?_
 refine sp rfl (PE.fieldAddr fo140_0 rfl) rfl ?_
 refine spL rfl rfl (lh sc3 rfl rfl) rfl ?_
 refine sp rfl (PE.geq rfl rfl) rfl ?_
 refine sp rfl (PE.move rfl) rfl ?_
 refine sy_case (t := 24) rfl (fun g24 => ?_) (fun g24 => ?_)
 try simp only [decide_eq_true_eq, decide_eq_false_iff_not, Bool.and_eq_true, Bool.or_eq_true, Bool.not_eq_true', Int.not_le, Int.not_lt] at g24
 refine spG rfl rfl rfl rfl (PE.indexArr ar31 rfl rfl (by omega) (by omega)) rfl ?_
 refine spLG rfl rfl rfl rfl rfl (lh sc3 rfl (mix_at hm.len (k := 1) (by omega))) rfl ?_
 refine spG rfl rfl rfl rfl (PE.fieldAddr fo140_1 rfl) rfl ?_
 refine spLG rfl rfl rfl rfl rfl (lh sc3 rfl rfl) rfl ?_
 refine spG rfl rfl rfl rfl (PE.leq rfl rfl) rfl ?_
 refine sp rfl (PE.pick rfl rfl rfl) rfl ?_
 refine sp rfl (PE.move rfl) rfl ?_
 refine sy_case (t := 31) rfl (fun g31 => ?_) (fun g31 => ?_)
 try simp only [decide_eq_true_eq, decide_eq_false_iff_not, Bool.and_eq_true, Bool.or_eq_true, Bool.not_eq_true', Int.not_le, Int.not_lt] at g31
 refine spG rfl rfl rfl rfl (PE.indexArr ar31 rfl rfl (by omega) (by omega)) rfl ?_
 refine spLG rfl rfl rfl rfl rfl (lh sc3 rfl (mix_at hm.len (k := 2) (by omega))) rfl ?_
 refine spG rfl rfl rfl rfl (PE.fieldAddr fo140_2 rfl) rfl ?_
 refine spLG rfl rfl rfl rfl rfl (lh sc3 rfl rfl) rfl ?_
 refine spG rfl rfl rfl rfl (PE.leq rfl rfl) rfl ?_
 refine sp rfl (PE.pick rfl rfl rfl) rfl ?_
 refine sp rfl (PE.move rfl) rfl ?_
 refine sy_case (t := 38) rfl (fun g38 => ?_) (fun g38 => ?_)
 try simp only [decide_eq_true_eq, decide_eq_false_iff_not, Bool.and_eq_true, Bool.or_eq_true, Bool.not_eq_true', Int.not_le, Int.not_lt] at g38
 refine spG rfl rfl rfl rfl (PE.indexArr ar31 rfl rfl (by omega) (by omega)) rfl ?_
 refine spLG rfl rfl rfl rfl rfl (lh sc3 rfl (mix_at hm.len (k := 3) (by omega))) rfl ?_
 refine spG rfl rfl rfl rfl (PE.fieldAddr fo140_3 rfl) rfl ?_
 refine spLG rfl rfl rfl rfl rfl (lh sc3 rfl rfl) rfl ?_
 refine spG rfl rfl rfl rfl (PE.leq rfl rfl) rfl ?_
 refine sp rfl (PE.pick rfl rfl rfl) rfl ?_
 refine sy_cond rfl (fun hc1 => ?_) (fun hc1 => ?_)
 try simp only [decide_eq_true_eq, decide_eq_false_iff_not, Bool.and_eq_true, Bool.or_eq_true, Bool.not_eq_true', Int.not_le, Int.not_lt] at hc1
 have q1 : x.kept m = true := by rw [hkq]; simp; omega
 have hres : hasG g.grs m = i := by unfold hasG; rw [find_hit hx hn q1]
 refine sy_seq ?_
 refine sy_tx' [0, 1] rfl ?_
 refine sp rfl (PE.move rfl) rfl ?_
 refine sp rfl (PE.assign rfl) rfl ?_
 refine sy_ret ?_
 exact sy_return (vs := [_]) rfl (.cons (RV.tmp rfl) .nil) rfl ⟨by rw [hres]; rfl, rfl, rfl⟩ drp
 try simp only [decide_eq_true_eq, decide_eq_false_iff_not, Bool.and_eq_true, Bool.or_eq_true, Bool.not_eq_true', Int.not_le, Int.not_lt] at hc1
 have q1 : x.kept m = false := by rw [hkq, decide_eq_false (show ¬ nn m 3 ≤ x.damp by omega)]; simp
 refine sy_skip ?_
 refine sy_tx' [0, 1, 2] rfl ?_
 refine sp rfl (PE.move rfl) rfl ?_
 refine sp rfl (PE.add rfl rfl (by omega)) rfl ?_
 refine sp rfl (PE.assign rfl) rfl ?_
 exact sy_next ⟨i + 1, by omega, take_miss hx hn q1⟩ (by dsimp only; omega) (by repeat' first | exact Sub.nil | apply Sub.cons | rfl | (simp [lk]; omega)) (fun w h => h.del b6)
 try simp only [decide_eq_true_eq, decide_eq_false_iff_not, Bool.and_eq_true, Bool.or_eq_true, Bool.not_eq_true', Int.not_le, Int.not_lt] at g38
 have q1 : x.kept m = false := by rw [hkq, decide_eq_false (show ¬ nn m 2 ≤ x.stones by omega)]; simp
 repeat refine spN rfl rfl rfl rfl rfl rfl rfl rfl ?_
 refine sp rfl (PE.pick rfl rfl rfl) rfl ?_
 refine sy_condF rfl ?_
 refine sy_skip ?_
 refine sy_tx' [0, 1, 2] rfl ?_
 refine sp rfl (PE.move rfl) rfl ?_
 refine sp rfl (PE.add rfl rfl (by omega)) rfl ?_
 refine sp rfl (PE.assign rfl) rfl ?_
 exact sy_next ⟨i + 1, by omega, take_miss hx hn q1⟩ (by dsimp only; omega) (by repeat' first | exact Sub.nil | apply Sub.cons | rfl | (simp [lk]; omega)) (fun w h => h.del b6)
 try simp only [decide_eq_true_eq, decide_eq_false_iff_not, Bool.and_eq_true, Bool.or_eq_true, Bool.not_eq_true', Int.not_le, Int.not_lt] at g31
 have q1 : x.kept m = false := by rw [hkq, decide_eq_false (show ¬ nn m 1 ≤ x.chaff by omega)]; simp
 repeat refine spN rfl rfl rfl rfl rfl rfl rfl rfl ?_
 refine sp rfl (PE.pick rfl rfl rfl) rfl ?_
 refine sp rfl (PE.move rfl) rfl ?_
 repeat refine spN rfl rfl rfl rfl rfl rfl rfl rfl ?_
 refine sp rfl (PE.pick rfl rfl rfl) rfl ?_
 refine sy_condF rfl ?_
 refine sy_skip ?_
 refine sy_tx' [0, 1, 2] rfl ?_
 refine sp rfl (PE.move rfl) rfl ?_
 refine sp rfl (PE.add rfl rfl (by omega)) rfl ?_
 refine sp rfl (PE.assign rfl) rfl ?_
 exact sy_next ⟨i + 1, by omega, take_miss hx hn q1⟩ (by dsimp only; omega) (by repeat' first | exact Sub.nil | apply Sub.cons | rfl | (simp [lk]; omega)) (fun w h => h.del b6)
 try simp only [decide_eq_true_eq, decide_eq_false_iff_not, Bool.and_eq_true, Bool.or_eq_true, Bool.not_eq_true', Int.not_le, Int.not_lt] at g24
 have q1 : x.kept m = false := by rw [hkq, decide_eq_false (show ¬ x.corn ≤ nn m 0 by omega)]; rfl
 repeat refine spN rfl rfl rfl rfl rfl rfl rfl rfl ?_
 refine sp rfl (PE.pick rfl rfl rfl) rfl ?_
 refine sp rfl (PE.move rfl) rfl ?_
 repeat refine spN rfl rfl rfl rfl rfl rfl rfl rfl ?_
 refine sp rfl (PE.pick rfl rfl rfl) rfl ?_
 refine sp rfl (PE.move rfl) rfl ?_
 repeat refine spN rfl rfl rfl rfl rfl rfl rfl rfl ?_
 refine sp rfl (PE.pick rfl rfl rfl) rfl ?_
 refine sy_condF rfl ?_
 refine sy_skip ?_
 refine sy_tx' [0, 1, 2] rfl ?_
 refine sp rfl (PE.move rfl) rfl ?_
 refine sp rfl (PE.add rfl rfl (by omega)) rfl ?_
 refine sp rfl (PE.assign rfl) rfl ?_
 exact sy_next ⟨i + 1, by omega, take_miss hx hn q1⟩ (by dsimp only; omega) (by repeat' first | exact Sub.nil | apply Sub.cons | rfl | (simp [lk]; omega)) (fun w h => h.del b6)
 try simp only [decide_eq_true_eq, decide_eq_false_iff_not, Bool.and_eq_true, Bool.or_eq_true, Bool.not_eq_true', Int.not_le, Int.not_lt] at hc0
 obtain rfl : i = g.grs.length := by omega
 rw [List.take_length] at hn
 have hres : hasG g.grs m = -1 := by unfold hasG; rw [find_miss hn]
 refine sy_exit ?_
 repeat refine sy_tx ?_
 refine sy_bx ?_
 refine sy_seq ?_
 refine sy_tx' [0] rfl ?_
 refine sp rfl (PE.assign rfl) rfl ?_
 refine sy_ret ?_
 exact sy_return (vs := [_]) rfl (.cons (RV.tmp rfl) .nil) rfl ⟨by rw [hres]; rfl, rfl, rfl⟩ drp
end Go.Proofs.YtndhkpnaeocnhaaGreat
namespace Go.Proofs.YtndhkpnaeocnhaaGreat
set_option linter.unusedSimpArgs false
set_option linter.unusedVariables false
open Go
section pe
variable {P : Program} {L : Slots} {d : Option Tmp} {ty : TypeId} {pos : String} {af : Array Edge} {g : Option (Nat × Bool)}
end pe
section steps
variable {P : Program} {r : Option Nat} {ops : Array Oper} {n : Nat} {L : Slots} {D : List Deferred} {H : Heap} {R : Facts} {K : Act → World → Prop}
  {i d : Nat} {ty : TypeId} {pos : String} {af : Array Edge}
end steps
def AllS : List Nat → (Nat → Prop) → Prop
  | [], _ => True
  | i :: l, p => p i ∧ AllS l p
theorem AllS.all {p : Nat → Prop} : ∀ {l : List Nat}, AllS l p → ∀ i ∈ l, p i
  | [], _, i, h => by cases h
  | j :: l, h, i, hi => by
    rcases List.mem_cons.1 hi with rfl | hi
    · exact h.1
    · exact AllS.all h.2 i hi
abbrev Invs := (Nat → Bool) → Slots → Heap → Facts → Prop
def FreeStep (P : Program) (r : Option Nat) (ops : Array Oper) (bm : List Nat) (n : Nat) (D : List Deferred) (Inv : Invs) (i : Nat) : Prop :=
  ∀ (s : Nat → Bool) (L : Slots) (H : Heap) (R : Facts), (∀ j k, j < ops.size → pre bm j k = true → s j = true → s k = true) → s i = false → (∀ j, pre bm i j = true → s j = true) → Inv s L H R →
    ∀ K : Act → World → Prop, (∀ L' H' R', Inv (fun j => Nat.beq i j || s j) L' H' R' → Sy n L' D H' R' K) → Sy n L D H R (stp P r ops i K)
theorem count_set_true : ∀ (l : List Bool) (i : Nat) (h : i < l.length), l[i] = false → (l.set i true).count false + 1 = l.count false
  | [], i, h, _ => by simp at h
  | b :: l, 0, _, h => by
    obtain rfl : b = false := h
    simp
  | b :: l, i + 1, h, hb => by
    have ih := count_set_true l i (by simpa using h) (by simpa using hb)
    rw [List.set_cons_succ, List.count_cons, List.count_cons]
    omega
theorem getD_set_same {l : Array Bool} {i : Nat} (h : i < l.size) : (l.setIfInBounds i true).getD i false = true := by simp [h]
section free
variable {P : Program} {r : Option Nat} {ops : Array Oper} {n : Nat} {L : Slots} {D : List Deferred} {H : Heap} {R : Facts}
theorem getD_ft {l : Array Bool} {j : Nat} (h : l.getD j false = true) : l.getD j true = true := by
  rcases Nat.lt_or_ge j l.size with h1 | h1
  · simp [h1] at h ⊢; exact h
  · simp [Array.getElem?_eq_none h1]
theorem getD_tf {l : Array Bool} {j : Nat} (h : l.getD j true = true) (h1 : j < l.size) : l.getD j false = true := by simp [h1] at h ⊢; exact h
theorem down_pre {bm : List Nat} (hbm : bmOk ops bm = true) {listed : Array Bool} (hd : Down ops listed) {j k : Nat} (hj : j < ops.size) (hp : pre bm j k = true) (hl : listed.getD j true = true) : listed.getD k true = true :=
  getD_ft (before_listed hbm hd k j ops[j] (by simp) (fun e he hb => hd j ops[j] (by simp) hl e he hb) (by rw [← pre_eq]; exact hp))
theorem none_ready {bm : List Nat} (hbm : bmOk ops bm = true) {listed : Array Bool} (hsz : listed.size = ops.size) (h : Region.ready .any ops listed = []) : ∀ j, j < ops.size → listed.getD j true = true := by
  intro j
  induction j using Nat.strongRecOn with
  | _ j ih =>
    intro hj
    cases hl : listed.getD j true with
    | true => rfl
    | false =>
      exfalso
      have h1 := List.all_eq_true.1 hbm j (List.mem_range.2 hj)
      simp only [show ops[j]? = some ops[j] by simp, Bool.and_eq_true] at h1
      have : j ∈ Region.ready .any ops listed := mem_ready.2 ⟨hl, ops[j], by simp, fun e he hb => by
        have h2 := List.all_eq_true.1 h1.2 e (by simpa using he)
        have hlt : e.on < j := by simpa [hb] using h2
        exact getD_tf (ih e.on hlt (by omega)) (by omega)⟩
      rw [h] at this; cases this
theorem free_any {bm : List Nat} {X : Act → World → Prop} {Inv : Invs} (hbm : bmOk ops bm = true) (step : ∀ i, i < ops.size → FreeStep P r ops bm n D Inv i) (fin : ∀ L H R, Inv (fun _ => true) L H R → Sy n L D H R X) :
    ∀ (fuel : Nat) (listed : Array Bool) (L : Slots) (H : Heap) (R : Facts), listed.size = ops.size → Down ops listed → listed.toList.count false = fuel → Inv (fun j => listed.getD j true) L H R → Sy n L D H R (anyP P r ops bm X fuel listed []) := by
  intro fuel
  induction fuel with
  | zero =>
    intro listed L H R hsz hd hc hI a w ha hD hs
    have hall : ∀ j, listed.getD j true = true := fun j => by
      rcases Nat.lt_or_ge j listed.size with h1 | h1
      · cases hl : listed.getD j true with
        | true => rfl
        | false =>
          have h2 := List.count_eq_zero.1 hc
          exact absurd (by simp [h1] at hl; rw [← hl]; simp) h2
      · simp [Array.getElem?_eq_none h1]
    have he : (fun j => listed.getD j true) = fun _ => true := funext hall
    rw [he] at hI
    refine ⟨?_, fin L H R hI a w ha hD hs⟩
    cases hr : Region.ready .any ops listed with
    | nil => rfl
    | cons i l =>
      have := (mem_ready.1 (show i ∈ Region.ready .any ops listed by rw [hr]; simp)).1
      rw [hall i] at this; cases this
  | succ fuel ih =>
    intro listed L H R hsz hd hc hI a w ha hD hs
    refine ⟨fun hr => ?_, fun i hi => ?_⟩
    · have hall : ∀ j, listed.getD j true = true := fun j => by
        rcases Nat.lt_or_ge j ops.size with h1 | h1
        · exact none_ready hbm hsz hr j h1
        · simp [Array.getElem?_eq_none (show listed.size ≤ j by omega)]
      have he : (fun j => listed.getD j true) = fun _ => true := funext hall
      rw [he] at hI
      exact fin L H R hI a w ha hD hs
    · obtain ⟨hun, o, ho, hall⟩ := mem_ready.1 hi
      have hil : i < ops.size := (Array.getElem?_eq_some_iff.1 ho).1
      refine step i hil (fun j => listed.getD j true) L H R (fun j k hj hp hl => down_pre hbm hd hj hp hl) hun (fun j hp => getD_ft (before_listed hbm hd j i o ho hall (by rw [← pre_eq]; exact hp))) hI _ (fun L' H' R' hI' => ?_) a w ha hD hs
      have he : (fun j => Nat.beq i j || listed.getD j true) = fun j => (listed.setIfInBounds i true).getD j true := funext fun j => by
        by_cases hij : i = j
        · subst hij
          rw [show Nat.beq i i = true from Nat.beq_refl i]
          exact (getD_ft (getD_set_same (by omega))).symm
        · rw [getD_set_ne true hij, show Nat.beq i j = false from by cases hb : Nat.beq i j with | false => rfl | true => exact absurd (Nat.eq_of_beq_eq_true hb) hij]; rfl
      rw [he] at hI'
      intro a' w' ha' hD' hs'
      refine ⟨trivial, ih (listed.setIfInBounds i true) L' H' R' (by simpa using hsz) (hd.set hi) ?_ hI' a' w' ha' hD' hs'⟩
      have hil2 : i < listed.size := by omega
      rw [Array.toList_setIfInBounds]
      have h9 : listed.toList[i]'(by simpa using hil2) = false := by simp [hil2] at hun; simpa using hun
      have h10 := count_set_true listed.toList i (by simpa using hil2) h9
      omega
theorem sy_free {id : Nat} {Q : Exit → Act → World → Prop} (bm : List Nat) (l : List Nat) (hm : P.follows .mixedOrders = true) (hb : bmOk ops bm = true) (hl : List.range ops.size = l) (Inv : Invs)
    (h0 : Inv (fun j => Nat.ble ops.size j) L H R) (step : AllS l (FreeStep P r ops bm n D Inv)) (fin : ∀ L H R, Inv (fun _ => true) L H R → Sy n L D H R (Q .normal)) : Sy n L D H R (wpc P r (.region id ops true) Q) := fun a w ha hD hs => by
  have h1 := free_any (X := Q .normal) hb (fun i hi => step.all i (by rw [← hl]; exact List.mem_range.2 hi)) fin ops.size (Array.replicate ops.size false) L H R (by simp) down_start (by simp) (by
    have he : (fun j => (Array.replicate ops.size false).getD j true) = fun j => Nat.ble ops.size j := funext fun j => by
      rcases Nat.lt_or_ge j ops.size with h1 | h1
      · rw [show Nat.ble ops.size j = false from by cases hb : Nat.ble ops.size j with | false => rfl | true => have := Nat.le_of_ble_eq_true hb; omega]; simp [h1]
      · rw [show Nat.ble ops.size j = true from Nat.ble_eq_true_of_le h1]; simp [h1]
    rw [he]; exact h0) a w.drew ha hD hs.drew
  refine wpIn_mono (wpIn_region_any hm (anyP_wpAny _ _ _ _ _ h1)) fun e a w hq => ?_
  cases e <;> first | exact hq | exact hq.elim
theorem lk_same {d : Nat} {v : Value} : lk ((d, v) :: L) d = some v := by
  unfold lk; rw [show Nat.beq d d = true from Nat.beq_refl d]; rfl
theorem lk_more {d t : Nat} {v u : Value} (hne : Nat.beq d t = false) (h : lk L t = some u) : lk ((d, v) :: L) t = some u := by
  show (bif Nat.beq d t then some v else lk L t) = some u
  rw [hne]; exact h
theorem sub_more {d : Nat} {v : Value} : ∀ {L' : Slots}, (L'.all fun p => !(Nat.beq d p.1)) = true → Sub L' L → Sub L' ((d, v) :: L)
  | [], _, _ => trivial
  | p :: L', hk, h => by
    rw [List.all_cons, Bool.and_eq_true] at hk
    exact ⟨lk_more (by simpa using hk.1) h.1, sub_more hk.2 h.2⟩
theorem fin_cons {f : World → Prop} {A : Facts} (h : f ∈ R) (hA : ∀ g ∈ A, g ∈ R) : ∀ g ∈ f :: A, g ∈ R := fun g hg => by
  rcases List.mem_cons.1 hg with rfl | hg
  · exact h
  · exact hA g hg
theorem fin_more {f : World → Prop} {A : Facts} (hA : ∀ g ∈ A, g ∈ R) : ∀ g ∈ A, g ∈ f :: R := fun g hg => List.mem_cons_of_mem _ (hA g hg)
end free
end Go.Proofs.YtndhkpnaeocnhaaGreat
namespace Go.Proofs.YtndhkpnaeocnhaaGreat
set_option linter.unusedSimpArgs false
set_option linter.unusedVariables false
open Go
theorem cal47 : cal Tryz.prog 47 = true := by kernel_rfl
theorem cal48 : cal Tryz.prog 48 = true := by kernel_rfl
theorem cal49 : cal Tryz.prog 49 = true := by kernel_rfl
theorem cal50 : cal Tryz.prog 50 = true := by kernel_rfl
theorem cal51 : cal Tryz.prog 51 = true := by kernel_rfl
theorem cal52 : cal Tryz.prog 52 = true := by kernel_rfl
theorem cal53 : cal Tryz.prog 53 = true := by kernel_rfl
theorem cal54 : cal Tryz.prog 54 = true := by kernel_rfl
theorem cal55 : cal Tryz.prog 55 = true := by kernel_rfl
theorem cal56 : cal Tryz.prog 56 = true := by kernel_rfl
theorem ub4 : Tryz.prog.underlying 4 = some .bool := by kernel_rfl
def netQ (g : Gat) (c : Crt) : Int × Int := bif decide (bothE g c ≠ 0) then (0, 0) else netP g c
theorem netR_eq (g : Gat) (c : Crt) : netR g c = .tuple #[spv (netQ g c).1 (netQ g c).2, .int .i64 (bothE g c)] := by
  unfold netR netQ
  by_cases h : bothE g c = 0
  · rw [decide_eq_false (show ¬ bothE g c ≠ 0 by omega), h]; rfl
  · rw [decide_eq_true h]; rfl
theorem letE_err {g : Gat} {c : Crt} (h : bothE g c ≠ 0) (n k : Int) : letE g c n k = bothE g c ∧ letP g c n k = (0, 0) := by
  have e : letE g c n k = bothE g c := by unfold letE; rw [decide_eq_true h]; rfl
  exact ⟨e, letP_no e h⟩
theorem let_ref {g : Gat} {c : Crt} {i q : Nat} {h : Hnd} (h0 : bothE g c = 0) (hh : c.hs[i]? = some h) (hq : q < 4) :
    letE g c i q = (bif decide ((letS g.miss h q).1 ≤ (letS g.miss h q).2) then 0 else 6) ∧ (letP g c i q).1 = (bif decide ((letS g.miss h q).1 ≤ (letS g.miss h q).2) then (letS g.miss h q).1 else 0) ∧ (letP g c i q).2 = (bif decide ((letS g.miss h q).1 ≤ (letS g.miss h q).2) then (letS g.miss h q).2 else 0) := by
  have e := letE_at (g := g) h0 hh hq
  by_cases hl : (letS g.miss h q).1 ≤ (letS g.miss h q).2
  · rw [decide_eq_false (by omega)] at e
    rw [e, letP_at (g := g) h0 hh hq hl, decide_eq_true hl]; exact ⟨rfl, rfl, rfl⟩
  · rw [decide_eq_true (by omega)] at e
    have e2 : letE g c i q = 6 := e
    rw [e2, letP_no e2 (by decide), decide_eq_false hl]; exact ⟨rfl, rfl, rfl⟩
set_option maxHeartbeats 4000000 in
theorem c_GateLets (g : Gat) (ag : Option Addr) (cg : Nat) (hlg : g.grs.length ≤ 9223372036854775807) (c : Crt) (ah : Option Addr) (ch : Nat) (hlh : c.hs.length ≤ 9223372036854775807) (n k : Int) (hnk : (-9223372036854775808 ≤ n ∧ n ≤ 9223372036854775807) ∧ (-9223372036854775808 ≤ k ∧ k ≤ 9223372036854775807)) (m : Mix) (hm : m.length = 4) (H : Heap) (R : Facts) [hG : MemRows ag 5 (grows g.grs) R] [hA : MemRows ah 5 (hrows c.hs) R] :
    Fn Tryz.prog 10 [g.v (g.sl ag cg), c.v (c.sl ah ch), .int .i64 n, .int .i64 k, .agg (ints m).toArray] H R (fun v H' R' => v = .bool true ∧ H' = H ∧ R' = R) := by
 refine fn_of Tryz.func10 rfl Tryz.ntmps10 rfl ?_
 refine sy_seq ?_
 refine sy_tx' [0, 1, 2, 3] rfl ?_
 refine bx rfl rfl rfl (fun b5 => ?_)
 refine bx rfl rfl rfl (fun b6 => ?_)
 refine bx rfl rfl rfl (fun b9 => ?_)
 refine sp rfl (PE.assign rfl) rfl ?_
 refine sy_seq ?_
 refine sy_seq ?_
 refine sy_tx' [0, 1, 2] rfl ?_
 refine spL rfl rfl (lhA [_, _, _] ag25 rfl rfl rfl) rfl ?_
 refine spL rfl rfl (lhA [_, _, _] ag28 rfl rfl rfl) rfl ?_
 refine clV rfl cal35 rfl rfl (c_grt g ag cg hlg c ah ch hlh _ _) ?_
 refine sy_cond rfl (fun hc0 => ?_) (fun hc0 => ?_)
 refine sy_seq ?_
 refine sy_tx' [0, 1] rfl ?_
 refine clV rfl cal8 rfl rfl (c_awake _ _) ?_
 refine sp rfl (PE.assign rfl) rfl ?_
 refine sy_ret ?_
 exact sy_return (vs := [_]) rfl (.cons (RV.tmp rfl) .nil) rfl ⟨rfl, rfl, rfl⟩ drp
 have h79 : ¬ 7 < g.grs.length ∧ ¬ 9 < c.hs.length := by simpa using hc0
 refine sy_skip ?_
 refine sy_seq ?_
 refine sy_free [0, 1, 0, 7, 0, 31, 0, 127, 0, 0, 0, 0, 4095, 8191, 16383, 32767] [0, 1, 2, 3, 4, 5, 6, 7, 8, 9, 10, 11, 12, 13, 14, 15] mixed (by kernel_rfl) rfl (fun s L H1 R1 => ∃ (a1 : Option Addr) (c1 : Nat) (a2 : Option Addr) (c2 : Nat) (a3 : Option Addr) (c3 : Nat) (a4 : Option Addr) (c4 : Nat) (b11 : Nat) (x11 : List Value) (b12 : Nat) (x12 : List Value) (b13 : Nat) (x13 : List Value) (b14 : Nat) (x14 : List Value), Sub [(2, .int .i64 n), (3, .int .i64 k), (5, .pointer (some ⟨b5, 0, none⟩)), (6, .pointer (some ⟨b6, 0, none⟩)), (9, .pointer (some ⟨b9, 0, none⟩))] L ∧ (∀ f ∈ (R : Facts), f ∈ R1) ∧ (s 0 = true → lk L 36 = some (g.v (g.sl ag cg))) ∧ (s 1 = true → lk L 37 = some (g.v (g.sl a1 c1)) ∧ (RowsA a1 5 (grows g.grs)) ∈ R1) ∧ (s 2 = true → lk L 38 = some (c.v (c.sl ah ch))) ∧ (s 3 = true → lk L 39 = some (c.v (c.sl a2 c2)) ∧ (RowsA a2 5 (hrows c.hs)) ∈ R1) ∧ (s 4 = true → lk L 40 = some (g.v (g.sl ag cg))) ∧ (s 5 = true → lk L 41 = some (g.v (g.sl a3 c3)) ∧ (RowsA a3 5 (grows g.grs)) ∈ R1) ∧ (s 6 = true → lk L 42 = some (c.v (c.sl ah ch))) ∧ (s 7 = true → lk L 43 = some (c.v (c.sl a4 c4)) ∧ (RowsA a4 5 (hrows c.hs)) ∈ R1) ∧ (s 8 = true → lk L 11 = some (.pointer (some ⟨b11, 0, none⟩)) ∧ (s 12 = false → x11 = [.int .i64 0, .int .i64 0, .slice none 0 0])) ∧ (s 9 = true → lk L 12 = some (.pointer (some ⟨b12, 0, none⟩)) ∧ (s 13 = false → x12 = [.int .i64 0, .int .i64 0, .slice none 0 0])) ∧ (s 10 = true → lk L 13 = some (.pointer (some ⟨b13, 0, none⟩)) ∧ (s 14 = false → x13 = [.int .i64 0, .int .i64 0, .slice none 0 0])) ∧ (s 11 = true → lk L 14 = some (.pointer (some ⟨b14, 0, none⟩)) ∧ (s 15 = false → x14 = [.int .i64 0, .int .i64 0, .slice none 0 0])) ∧ (s 12 = true → x11 = gtl g (g.sl a1 c1)) ∧ (s 13 = true → x12 = ctl c (c.sl a2 c2)) ∧ (s 14 = true → x13 = gtl g (g.sl a3 c3)) ∧ (s 15 = true → x14 = ctl c (c.sl a4 c4)) ∧ ∀ w, St H1 R1 w → St ((bif s 11 then [(b14, cel 79 x14)] else []) ++ ((bif s 10 then [(b13, cel 89 x13)] else []) ++ ((bif s 9 then [(b12, cel 28 x12)] else []) ++ ((bif s 8 then [(b11, cel 25 x11)] else []) ++ ((b9, cel 31 (ints m)) :: (b6, cel 28 (ctl c (c.sl ah ch))) :: (b5, cel 25 (gtl g (g.sl ag cg))) :: H))))) R1 w) ?_ ?_ ?_
 exact ⟨none, 0, none, 0, none, 0, none, 0, 0, [], 0, [], 0, [], 0, [], (by repeat' first | exact Sub.nil | apply Sub.cons | rfl | (simp [lk]; omega)), fun _ hf => hf, (fun h => by cases (show false = true from h)), (fun h => by cases (show false = true from h)), (fun h => by cases (show false = true from h)), (fun h => by cases (show false = true from h)), (fun h => by cases (show false = true from h)), (fun h => by cases (show false = true from h)), (fun h => by cases (show false = true from h)), (fun h => by cases (show false = true from h)), (fun h => by cases (show false = true from h)), (fun h => by cases (show false = true from h)), (fun h => by cases (show false = true from h)), (fun h => by cases (show false = true from h)), (fun h => by cases (show false = true from h)), (fun h => by cases (show false = true from h)), (fun h => by cases (show false = true from h)), (fun h => by cases (show false = true from h)), fun w h => h⟩
 refine ⟨?_, ?_, ?_, ?_, ?_, ?_, ?_, ?_, ?_, ?_, ?_, ?_, ?_, ?_, ?_, ?_, trivial⟩
 intro s Lz Hz Rz hdn hs hpre hI K hK
 obtain ⟨a1, c1, a2, c2, a3, c3, a4, c4, b11, x11, b12, x12, b13, x13, b14, x14, hL0, hR0, q0, q1, q2, q3, q4, q5, q6, q7, q8, q9, q10, q11, q12, q13, q14, q15, hH⟩ := hI
 refine Sy.heap hH ?_
 refine spL rfl (Sub.lk hL0 _ _ rfl) ((lhA (gtl g (g.sl ag cg)) ag25 rfl rfl rfl)) rfl ?_
 exact hK _ _ _ ⟨a1, c1, a2, c2, a3, c3, a4, c4, b11, x11, b12, x12, b13, x13, b14, x14, sub_more rfl hL0, hR0, fun _ => lk_same, fun h => ⟨lk_more rfl (q1 h).1, (q1 h).2⟩, fun h => lk_more rfl (q2 h), fun h => ⟨lk_more rfl (q3 h).1, (q3 h).2⟩, fun h => lk_more rfl (q4 h), fun h => ⟨lk_more rfl (q5 h).1, (q5 h).2⟩, fun h => lk_more rfl (q6 h), fun h => ⟨lk_more rfl (q7 h).1, (q7 h).2⟩, fun h => ⟨lk_more rfl (q8 h).1, (q8 h).2⟩, fun h => ⟨lk_more rfl (q9 h).1, (q9 h).2⟩, fun h => ⟨lk_more rfl (q10 h).1, (q10 h).2⟩, fun h => ⟨lk_more rfl (q11 h).1, (q11 h).2⟩, fun h => q12 h, fun h => q13 h, fun h => q14 h, fun h => q15 h, fun w h => h⟩
 intro s Lz Hz Rz hdn hs hpre hI K hK
 obtain ⟨a1, c1, a2, c2, a3, c3, a4, c4, b11, x11, b12, x12, b13, x13, b14, x14, hL0, hR0, q0, q1, q2, q3, q4, q5, q6, q7, q8, q9, q10, q11, q12, q13, q14, q15, hH⟩ := hI
 have h0 : s 0 = true := hpre 0 rfl
 refine Sy.heap hH ?_
 haveI m0 : MemRows ag 5 (grows g.grs) Rz := ⟨hR0 _ (inferInstance : MemRows ag 5 (grows g.grs) (R)).mem⟩
 refine cl rfl cal36 rfl (by simp only [evs, show ev Lz (.tmp 36) = _ from (q0 h0)]) (c_Own g ag cg (by omega) _ _) ?_
 rintro _ _ R1 ⟨o, rfl, ho, rfl, hR1⟩
 obtain rfl := hR1.symm
 clear hR1
 obtain ⟨a1, c1, he, hf⟩ := o.freeze
 rw [he]
 refine Sy.heap (H' := _) (fun w h => hf h) ?_
 rw [show (grows g.grs).length = g.grs.length from List.length_map _]
 clear he hf
 exact hK _ _ _ ⟨a1, c1, a2, c2, a3, c3, a4, c4, b11, x11, b12, x12, b13, x13, b14, x14, sub_more rfl hL0, fin_more (hR0), fun h => lk_more rfl (q0 h), fun _ => ⟨lk_same, (by simp)⟩, fun h => lk_more rfl (q2 h), fun h => ⟨lk_more rfl (q3 h).1, List.mem_cons_of_mem _ ((q3 h).2)⟩, fun h => lk_more rfl (q4 h), fun h => ⟨lk_more rfl (q5 h).1, List.mem_cons_of_mem _ ((q5 h).2)⟩, fun h => lk_more rfl (q6 h), fun h => ⟨lk_more rfl (q7 h).1, List.mem_cons_of_mem _ ((q7 h).2)⟩, fun h => ⟨lk_more rfl (q8 h).1, (q8 h).2⟩, fun h => ⟨lk_more rfl (q9 h).1, (q9 h).2⟩, fun h => ⟨lk_more rfl (q10 h).1, (q10 h).2⟩, fun h => ⟨lk_more rfl (q11 h).1, (q11 h).2⟩, fun h => absurd (hdn 12 1 (Nat.le_of_ble_eq_true rfl) rfl h) (by rw [hs]; exact Bool.false_ne_true), fun h => q13 h, fun h => q14 h, fun h => q15 h, fun w h => h⟩
 intro s Lz Hz Rz hdn hs hpre hI K hK
 obtain ⟨a1, c1, a2, c2, a3, c3, a4, c4, b11, x11, b12, x12, b13, x13, b14, x14, hL0, hR0, q0, q1, q2, q3, q4, q5, q6, q7, q8, q9, q10, q11, q12, q13, q14, q15, hH⟩ := hI
 refine Sy.heap hH ?_
 refine spL rfl (Sub.lk hL0 _ _ rfl) ((lhA (ctl c (c.sl ah ch)) ag28 rfl rfl rfl)) rfl ?_
 exact hK _ _ _ ⟨a1, c1, a2, c2, a3, c3, a4, c4, b11, x11, b12, x12, b13, x13, b14, x14, sub_more rfl hL0, hR0, fun h => lk_more rfl (q0 h), fun h => ⟨lk_more rfl (q1 h).1, (q1 h).2⟩, fun _ => lk_same, fun h => ⟨lk_more rfl (q3 h).1, (q3 h).2⟩, fun h => lk_more rfl (q4 h), fun h => ⟨lk_more rfl (q5 h).1, (q5 h).2⟩, fun h => lk_more rfl (q6 h), fun h => ⟨lk_more rfl (q7 h).1, (q7 h).2⟩, fun h => ⟨lk_more rfl (q8 h).1, (q8 h).2⟩, fun h => ⟨lk_more rfl (q9 h).1, (q9 h).2⟩, fun h => ⟨lk_more rfl (q10 h).1, (q10 h).2⟩, fun h => ⟨lk_more rfl (q11 h).1, (q11 h).2⟩, fun h => q12 h, fun h => q13 h, fun h => q14 h, fun h => q15 h, fun w h => h⟩
 intro s Lz Hz Rz hdn hs hpre hI K hK
 obtain ⟨a1, c1, a2, c2, a3, c3, a4, c4, b11, x11, b12, x12, b13, x13, b14, x14, hL0, hR0, q0, q1, q2, q3, q4, q5, q6, q7, q8, q9, q10, q11, q12, q13, q14, q15, hH⟩ := hI
 obtain ⟨h0, h1, h2⟩ : s 0 = true ∧ s 1 = true ∧ s 2 = true := ⟨hpre 0 rfl, hpre 1 rfl, hpre 2 rfl⟩
 refine Sy.heap hH ?_
 haveI m0 : MemRows ah 5 (hrows c.hs) Rz := ⟨hR0 _ (inferInstance : MemRows ah 5 (hrows c.hs) (R)).mem⟩
 refine cl rfl cal37 rfl (by simp only [evs, show ev Lz (.tmp 38) = _ from (q2 h2)]) (c_Owned c ah ch (by omega) _ _) ?_
 rintro _ _ R1 ⟨o, rfl, ho, rfl, hR1⟩
 obtain rfl := hR1.symm
 clear hR1
 obtain ⟨a2, c2, he, hf⟩ := o.freeze
 rw [he]
 refine Sy.heap (H' := _) (fun w h => hf h) ?_
 rw [show (hrows c.hs).length = c.hs.length from List.length_map _]
 clear he hf
 exact hK _ _ _ ⟨a1, c1, a2, c2, a3, c3, a4, c4, b11, x11, b12, x12, b13, x13, b14, x14, sub_more rfl hL0, fin_more (hR0), fun h => lk_more rfl (q0 h), fun h => ⟨lk_more rfl (q1 h).1, List.mem_cons_of_mem _ ((q1 h).2)⟩, fun h => lk_more rfl (q2 h), fun _ => ⟨lk_same, (by simp)⟩, fun h => lk_more rfl (q4 h), fun h => ⟨lk_more rfl (q5 h).1, List.mem_cons_of_mem _ ((q5 h).2)⟩, fun h => lk_more rfl (q6 h), fun h => ⟨lk_more rfl (q7 h).1, List.mem_cons_of_mem _ ((q7 h).2)⟩, fun h => ⟨lk_more rfl (q8 h).1, (q8 h).2⟩, fun h => ⟨lk_more rfl (q9 h).1, (q9 h).2⟩, fun h => ⟨lk_more rfl (q10 h).1, (q10 h).2⟩, fun h => ⟨lk_more rfl (q11 h).1, (q11 h).2⟩, fun h => q12 h, fun h => absurd (hdn 13 3 (Nat.le_of_ble_eq_true rfl) rfl h) (by rw [hs]; exact Bool.false_ne_true), fun h => q14 h, fun h => q15 h, fun w h => h⟩
 intro s Lz Hz Rz hdn hs hpre hI K hK
 obtain ⟨a1, c1, a2, c2, a3, c3, a4, c4, b11, x11, b12, x12, b13, x13, b14, x14, hL0, hR0, q0, q1, q2, q3, q4, q5, q6, q7, q8, q9, q10, q11, q12, q13, q14, q15, hH⟩ := hI
 refine Sy.heap hH ?_
 refine spL rfl (Sub.lk hL0 _ _ rfl) ((lhA (gtl g (g.sl ag cg)) ag25 rfl rfl rfl)) rfl ?_
 exact hK _ _ _ ⟨a1, c1, a2, c2, a3, c3, a4, c4, b11, x11, b12, x12, b13, x13, b14, x14, sub_more rfl hL0, hR0, fun h => lk_more rfl (q0 h), fun h => ⟨lk_more rfl (q1 h).1, (q1 h).2⟩, fun h => lk_more rfl (q2 h), fun h => ⟨lk_more rfl (q3 h).1, (q3 h).2⟩, fun _ => lk_same, fun h => ⟨lk_more rfl (q5 h).1, (q5 h).2⟩, fun h => lk_more rfl (q6 h), fun h => ⟨lk_more rfl (q7 h).1, (q7 h).2⟩, fun h => ⟨lk_more rfl (q8 h).1, (q8 h).2⟩, fun h => ⟨lk_more rfl (q9 h).1, (q9 h).2⟩, fun h => ⟨lk_more rfl (q10 h).1, (q10 h).2⟩, fun h => ⟨lk_more rfl (q11 h).1, (q11 h).2⟩, fun h => q12 h, fun h => q13 h, fun h => q14 h, fun h => q15 h, fun w h => h⟩
 intro s Lz Hz Rz hdn hs hpre hI K hK
 obtain ⟨a1, c1, a2, c2, a3, c3, a4, c4, b11, x11, b12, x12, b13, x13, b14, x14, hL0, hR0, q0, q1, q2, q3, q4, q5, q6, q7, q8, q9, q10, q11, q12, q13, q14, q15, hH⟩ := hI
 obtain ⟨h0, h1, h2, h3, h4⟩ : s 0 = true ∧ s 1 = true ∧ s 2 = true ∧ s 3 = true ∧ s 4 = true := ⟨hpre 0 rfl, hpre 1 rfl, hpre 2 rfl, hpre 3 rfl, hpre 4 rfl⟩
 refine Sy.heap hH ?_
 haveI m0 : MemRows ag 5 (grows g.grs) Rz := ⟨hR0 _ (inferInstance : MemRows ag 5 (grows g.grs) (R)).mem⟩
 refine cl rfl cal42 rfl (by simp only [evs, show ev Lz (.tmp 40) = _ from (q4 h4)]) (c_theirs g ag cg (by omega) _ _) ?_
 rintro _ _ R1 ⟨a3, c3, rfl, rfl, hR1⟩
 obtain rfl := hR1.symm
 clear hR1
 exact hK _ _ _ ⟨a1, c1, a2, c2, a3, c3, a4, c4, b11, x11, b12, x12, b13, x13, b14, x14, sub_more rfl hL0, fin_more (hR0), fun h => lk_more rfl (q0 h), fun h => ⟨lk_more rfl (q1 h).1, List.mem_cons_of_mem _ ((q1 h).2)⟩, fun h => lk_more rfl (q2 h), fun h => ⟨lk_more rfl (q3 h).1, List.mem_cons_of_mem _ ((q3 h).2)⟩, fun h => lk_more rfl (q4 h), fun _ => ⟨lk_same, (by simp)⟩, fun h => lk_more rfl (q6 h), fun h => ⟨lk_more rfl (q7 h).1, List.mem_cons_of_mem _ ((q7 h).2)⟩, fun h => ⟨lk_more rfl (q8 h).1, (q8 h).2⟩, fun h => ⟨lk_more rfl (q9 h).1, (q9 h).2⟩, fun h => ⟨lk_more rfl (q10 h).1, (q10 h).2⟩, fun h => ⟨lk_more rfl (q11 h).1, (q11 h).2⟩, fun h => q12 h, fun h => q13 h, fun h => absurd (hdn 14 5 (Nat.le_of_ble_eq_true rfl) rfl h) (by rw [hs]; exact Bool.false_ne_true), fun h => q15 h, fun w h => h⟩
 intro s Lz Hz Rz hdn hs hpre hI K hK
 obtain ⟨a1, c1, a2, c2, a3, c3, a4, c4, b11, x11, b12, x12, b13, x13, b14, x14, hL0, hR0, q0, q1, q2, q3, q4, q5, q6, q7, q8, q9, q10, q11, q12, q13, q14, q15, hH⟩ := hI
 refine Sy.heap hH ?_
 refine spL rfl (Sub.lk hL0 _ _ rfl) ((lhA (ctl c (c.sl ah ch)) ag28 rfl rfl rfl)) rfl ?_
 exact hK _ _ _ ⟨a1, c1, a2, c2, a3, c3, a4, c4, b11, x11, b12, x12, b13, x13, b14, x14, sub_more rfl hL0, hR0, fun h => lk_more rfl (q0 h), fun h => ⟨lk_more rfl (q1 h).1, (q1 h).2⟩, fun h => lk_more rfl (q2 h), fun h => ⟨lk_more rfl (q3 h).1, (q3 h).2⟩, fun h => lk_more rfl (q4 h), fun h => ⟨lk_more rfl (q5 h).1, (q5 h).2⟩, fun _ => lk_same, fun h => ⟨lk_more rfl (q7 h).1, (q7 h).2⟩, fun h => ⟨lk_more rfl (q8 h).1, (q8 h).2⟩, fun h => ⟨lk_more rfl (q9 h).1, (q9 h).2⟩, fun h => ⟨lk_more rfl (q10 h).1, (q10 h).2⟩, fun h => ⟨lk_more rfl (q11 h).1, (q11 h).2⟩, fun h => q12 h, fun h => q13 h, fun h => q14 h, fun h => q15 h, fun w h => h⟩
 intro s Lz Hz Rz hdn hs hpre hI K hK
 obtain ⟨a1, c1, a2, c2, a3, c3, a4, c4, b11, x11, b12, x12, b13, x13, b14, x14, hL0, hR0, q0, q1, q2, q3, q4, q5, q6, q7, q8, q9, q10, q11, q12, q13, q14, q15, hH⟩ := hI
 obtain ⟨h0, h1, h2, h3, h4, h5, h6⟩ : s 0 = true ∧ s 1 = true ∧ s 2 = true ∧ s 3 = true ∧ s 4 = true ∧ s 5 = true ∧ s 6 = true := ⟨hpre 0 rfl, hpre 1 rfl, hpre 2 rfl, hpre 3 rfl, hpre 4 rfl, hpre 5 rfl, hpre 6 rfl⟩
 refine Sy.heap hH ?_
 haveI m0 : MemRows ah 5 (hrows c.hs) Rz := ⟨hR0 _ (inferInstance : MemRows ah 5 (hrows c.hs) (R)).mem⟩
 refine cl rfl cal39 rfl (by simp only [evs, show ev Lz (.tmp 42) = _ from (q6 h6)]) (c_come c ah ch (by omega) _ _) ?_
 rintro _ _ R1 ⟨a4, c4, rfl, rfl, hR1⟩
 obtain rfl := hR1.symm
 clear hR1
 exact hK _ _ _ ⟨a1, c1, a2, c2, a3, c3, a4, c4, b11, x11, b12, x12, b13, x13, b14, x14, sub_more rfl hL0, fin_more (hR0), fun h => lk_more rfl (q0 h), fun h => ⟨lk_more rfl (q1 h).1, List.mem_cons_of_mem _ ((q1 h).2)⟩, fun h => lk_more rfl (q2 h), fun h => ⟨lk_more rfl (q3 h).1, List.mem_cons_of_mem _ ((q3 h).2)⟩, fun h => lk_more rfl (q4 h), fun h => ⟨lk_more rfl (q5 h).1, List.mem_cons_of_mem _ ((q5 h).2)⟩, fun h => lk_more rfl (q6 h), fun _ => ⟨lk_same, (by simp)⟩, fun h => ⟨lk_more rfl (q8 h).1, (q8 h).2⟩, fun h => ⟨lk_more rfl (q9 h).1, (q9 h).2⟩, fun h => ⟨lk_more rfl (q10 h).1, (q10 h).2⟩, fun h => ⟨lk_more rfl (q11 h).1, (q11 h).2⟩, fun h => q12 h, fun h => q13 h, fun h => q14 h, fun h => absurd (hdn 15 7 (Nat.le_of_ble_eq_true rfl) rfl h) (by rw [hs]; exact Bool.false_ne_true), fun w h => h⟩
 intro s Lz Hz Rz hdn hs hpre hI K hK
 obtain ⟨a1, c1, a2, c2, a3, c3, a4, c4, b11, x11, b12, x12, b13, x13, b14, x14, hL0, hR0, q0, q1, q2, q3, q4, q5, q6, q7, q8, q9, q10, q11, q12, q13, q14, q15, hH⟩ := hI
 refine Sy.heap hH ?_
 refine alc rfl zl25 rfl (fun b11 => ?_)
 exact hK _ _ _ ⟨a1, c1, a2, c2, a3, c3, a4, c4, b11, [.int .i64 0, .int .i64 0, .slice none 0 0], b12, x12, b13, x13, b14, x14, sub_more rfl hL0, hR0, fun h => lk_more rfl (q0 h), fun h => ⟨lk_more rfl (q1 h).1, (q1 h).2⟩, fun h => lk_more rfl (q2 h), fun h => ⟨lk_more rfl (q3 h).1, (q3 h).2⟩, fun h => lk_more rfl (q4 h), fun h => ⟨lk_more rfl (q5 h).1, (q5 h).2⟩, fun h => lk_more rfl (q6 h), fun h => ⟨lk_more rfl (q7 h).1, (q7 h).2⟩, fun _ => ⟨lk_same, fun _ => rfl⟩, fun h => ⟨lk_more rfl (q9 h).1, (q9 h).2⟩, fun h => ⟨lk_more rfl (q10 h).1, (q10 h).2⟩, fun h => ⟨lk_more rfl (q11 h).1, (q11 h).2⟩, fun h => absurd (hdn 12 8 (Nat.le_of_ble_eq_true rfl) rfl h) (by rw [hs]; exact Bool.false_ne_true), fun h => q13 h, fun h => q14 h, fun h => q15 h, fun w h => by rw [hs] at h; exact h.perm (List.perm_middle.symm.trans (List.Perm.append_left _ (List.perm_middle.symm.trans (List.Perm.append_left _ (List.perm_middle.symm.trans (List.Perm.append_left _ (.refl _)))))))⟩
 intro s Lz Hz Rz hdn hs hpre hI K hK
 obtain ⟨a1, c1, a2, c2, a3, c3, a4, c4, b11, x11, b12, x12, b13, x13, b14, x14, hL0, hR0, q0, q1, q2, q3, q4, q5, q6, q7, q8, q9, q10, q11, q12, q13, q14, q15, hH⟩ := hI
 refine Sy.heap hH ?_
 refine alc rfl zl28 rfl (fun b12 => ?_)
 exact hK _ _ _ ⟨a1, c1, a2, c2, a3, c3, a4, c4, b11, x11, b12, [.int .i64 0, .int .i64 0, .slice none 0 0], b13, x13, b14, x14, sub_more rfl hL0, hR0, fun h => lk_more rfl (q0 h), fun h => ⟨lk_more rfl (q1 h).1, (q1 h).2⟩, fun h => lk_more rfl (q2 h), fun h => ⟨lk_more rfl (q3 h).1, (q3 h).2⟩, fun h => lk_more rfl (q4 h), fun h => ⟨lk_more rfl (q5 h).1, (q5 h).2⟩, fun h => lk_more rfl (q6 h), fun h => ⟨lk_more rfl (q7 h).1, (q7 h).2⟩, fun h => ⟨lk_more rfl (q8 h).1, (q8 h).2⟩, fun _ => ⟨lk_same, fun _ => rfl⟩, fun h => ⟨lk_more rfl (q10 h).1, (q10 h).2⟩, fun h => ⟨lk_more rfl (q11 h).1, (q11 h).2⟩, fun h => q12 h, fun h => absurd (hdn 13 9 (Nat.le_of_ble_eq_true rfl) rfl h) (by rw [hs]; exact Bool.false_ne_true), fun h => q14 h, fun h => q15 h, fun w h => by rw [hs] at h; exact h.perm (List.perm_middle.symm.trans (List.Perm.append_left _ (List.perm_middle.symm.trans (List.Perm.append_left _ (.refl _)))))⟩
 intro s Lz Hz Rz hdn hs hpre hI K hK
 obtain ⟨a1, c1, a2, c2, a3, c3, a4, c4, b11, x11, b12, x12, b13, x13, b14, x14, hL0, hR0, q0, q1, q2, q3, q4, q5, q6, q7, q8, q9, q10, q11, q12, q13, q14, q15, hH⟩ := hI
 refine Sy.heap hH ?_
 refine alc rfl zl89 rfl (fun b13 => ?_)
 exact hK _ _ _ ⟨a1, c1, a2, c2, a3, c3, a4, c4, b11, x11, b12, x12, b13, [.int .i64 0, .int .i64 0, .slice none 0 0], b14, x14, sub_more rfl hL0, hR0, fun h => lk_more rfl (q0 h), fun h => ⟨lk_more rfl (q1 h).1, (q1 h).2⟩, fun h => lk_more rfl (q2 h), fun h => ⟨lk_more rfl (q3 h).1, (q3 h).2⟩, fun h => lk_more rfl (q4 h), fun h => ⟨lk_more rfl (q5 h).1, (q5 h).2⟩, fun h => lk_more rfl (q6 h), fun h => ⟨lk_more rfl (q7 h).1, (q7 h).2⟩, fun h => ⟨lk_more rfl (q8 h).1, (q8 h).2⟩, fun h => ⟨lk_more rfl (q9 h).1, (q9 h).2⟩, fun _ => ⟨lk_same, fun _ => rfl⟩, fun h => ⟨lk_more rfl (q11 h).1, (q11 h).2⟩, fun h => q12 h, fun h => q13 h, fun h => absurd (hdn 14 10 (Nat.le_of_ble_eq_true rfl) rfl h) (by rw [hs]; exact Bool.false_ne_true), fun h => q15 h, fun w h => by rw [hs] at h; exact h.perm (List.perm_middle.symm.trans (List.Perm.append_left _ (.refl _)))⟩
 intro s Lz Hz Rz hdn hs hpre hI K hK
 obtain ⟨a1, c1, a2, c2, a3, c3, a4, c4, b11, x11, b12, x12, b13, x13, b14, x14, hL0, hR0, q0, q1, q2, q3, q4, q5, q6, q7, q8, q9, q10, q11, q12, q13, q14, q15, hH⟩ := hI
 refine Sy.heap hH ?_
 refine alc rfl zl79 rfl (fun b14 => ?_)
 exact hK _ _ _ ⟨a1, c1, a2, c2, a3, c3, a4, c4, b11, x11, b12, x12, b13, x13, b14, [.int .i64 0, .int .i64 0, .slice none 0 0], sub_more rfl hL0, hR0, fun h => lk_more rfl (q0 h), fun h => ⟨lk_more rfl (q1 h).1, (q1 h).2⟩, fun h => lk_more rfl (q2 h), fun h => ⟨lk_more rfl (q3 h).1, (q3 h).2⟩, fun h => lk_more rfl (q4 h), fun h => ⟨lk_more rfl (q5 h).1, (q5 h).2⟩, fun h => lk_more rfl (q6 h), fun h => ⟨lk_more rfl (q7 h).1, (q7 h).2⟩, fun h => ⟨lk_more rfl (q8 h).1, (q8 h).2⟩, fun h => ⟨lk_more rfl (q9 h).1, (q9 h).2⟩, fun h => ⟨lk_more rfl (q10 h).1, (q10 h).2⟩, fun _ => ⟨lk_same, fun _ => rfl⟩, fun h => q12 h, fun h => q13 h, fun h => q14 h, fun h => absurd (hdn 15 11 (Nat.le_of_ble_eq_true rfl) rfl h) (by rw [hs]; exact Bool.false_ne_true), fun w h => by rw [hs] at h; exact h.perm (.refl _)⟩
 intro s Lz Hz Rz hdn hs hpre hI K hK
 obtain ⟨a1, c1, a2, c2, a3, c3, a4, c4, b11, x11, b12, x12, b13, x13, b14, x14, hL0, hR0, q0, q1, q2, q3, q4, q5, q6, q7, q8, q9, q10, q11, q12, q13, q14, q15, hH⟩ := hI
 obtain ⟨h0, h1, h2, h3, h4, h5, h6, h7, h8, h9, h10, h11⟩ : s 0 = true ∧ s 1 = true ∧ s 2 = true ∧ s 3 = true ∧ s 4 = true ∧ s 5 = true ∧ s 6 = true ∧ s 7 = true ∧ s 8 = true ∧ s 9 = true ∧ s 10 = true ∧ s 11 = true := ⟨hpre 0 rfl, hpre 1 rfl, hpre 2 rfl, hpre 3 rfl, hpre 4 rfl, hpre 5 rfl, hpre 6 rfl, hpre 7 rfl, hpre 8 rfl, hpre 9 rfl, hpre 10 rfl, hpre 11 rfl⟩
 refine Sy.heap hH ?_
 obtain rfl := (q8 h8).2 hs
 refine Sy.heap (H' := (bif s 11 then [(b14, cel 79 x14)] else []) ++ ((bif s 10 then [(b13, cel 89 x13)] else []) ++ ((bif s 9 then [(b12, cel 28 x12)] else []) ++ ((b11, cel 25 [.int .i64 0, .int .i64 0, .slice none 0 0]) :: ((b9, cel 31 (ints m)) :: (b6, cel 28 (ctl c (c.sl ah ch))) :: (b5, cel 25 (gtl g (g.sl ag cg))) :: H))))) (fun w h => by rw [h8] at h; exact h) ?_
 refine stoE (l' := gtl g (g.sl a1 c1)) rfl (q8 h8).1 (q1 h1).1 cn25 rfl rfl rfl rfl (Nat.le_refl _) ?_
 exact hK _ _ _ ⟨a1, c1, a2, c2, a3, c3, a4, c4, b11, gtl g (g.sl a1 c1), b12, x12, b13, x13, b14, x14, hL0, hR0, fun h => (q0 h), fun h => ⟨(q1 h).1, (q1 h).2⟩, fun h => (q2 h), fun h => ⟨(q3 h).1, (q3 h).2⟩, fun h => (q4 h), fun h => ⟨(q5 h).1, (q5 h).2⟩, fun h => (q6 h), fun h => ⟨(q7 h).1, (q7 h).2⟩, fun h => ⟨(q8 h).1, fun h => by cases (show true = false from h)⟩, fun h => ⟨(q9 h).1, (q9 h).2⟩, fun h => ⟨(q10 h).1, (q10 h).2⟩, fun h => ⟨(q11 h).1, (q11 h).2⟩, fun _ => rfl, fun h => q13 h, fun h => q14 h, fun h => q15 h, fun w h => by show St ((bif s 11 then [(b14, cel 79 x14)] else []) ++ ((bif s 10 then [(b13, cel 89 x13)] else []) ++ ((bif s 9 then [(b12, cel 28 x12)] else []) ++ ((bif s 8 then [(b11, cel 25 (gtl g (g.sl a1 c1)))] else []) ++ ((b9, cel 31 (ints m)) :: (b6, cel 28 (ctl c (c.sl ah ch))) :: (b5, cel 25 (gtl g (g.sl ag cg))) :: H))))) Rz w; rw [h8]; exact h⟩
 intro s Lz Hz Rz hdn hs hpre hI K hK
 obtain ⟨a1, c1, a2, c2, a3, c3, a4, c4, b11, x11, b12, x12, b13, x13, b14, x14, hL0, hR0, q0, q1, q2, q3, q4, q5, q6, q7, q8, q9, q10, q11, q12, q13, q14, q15, hH⟩ := hI
 obtain ⟨h0, h1, h2, h3, h4, h5, h6, h7, h8, h9, h10, h11, h12⟩ : s 0 = true ∧ s 1 = true ∧ s 2 = true ∧ s 3 = true ∧ s 4 = true ∧ s 5 = true ∧ s 6 = true ∧ s 7 = true ∧ s 8 = true ∧ s 9 = true ∧ s 10 = true ∧ s 11 = true ∧ s 12 = true := ⟨hpre 0 rfl, hpre 1 rfl, hpre 2 rfl, hpre 3 rfl, hpre 4 rfl, hpre 5 rfl, hpre 6 rfl, hpre 7 rfl, hpre 8 rfl, hpre 9 rfl, hpre 10 rfl, hpre 11 rfl, hpre 12 rfl⟩
 refine Sy.heap hH ?_
 obtain rfl := (q9 h9).2 hs
 refine Sy.heap (H' := (bif s 11 then [(b14, cel 79 x14)] else []) ++ ((bif s 10 then [(b13, cel 89 x13)] else []) ++ ((b12, cel 28 [.int .i64 0, .int .i64 0, .slice none 0 0]) :: ((bif s 8 then [(b11, cel 25 x11)] else []) ++ ((b9, cel 31 (ints m)) :: (b6, cel 28 (ctl c (c.sl ah ch))) :: (b5, cel 25 (gtl g (g.sl ag cg))) :: H))))) (fun w h => by rw [h9] at h; exact h) ?_
 refine stoE (l' := ctl c (c.sl a2 c2)) rfl (q9 h9).1 (q3 h3).1 cn28 rfl rfl rfl rfl (Nat.le_refl _) ?_
 exact hK _ _ _ ⟨a1, c1, a2, c2, a3, c3, a4, c4, b11, x11, b12, ctl c (c.sl a2 c2), b13, x13, b14, x14, hL0, hR0, fun h => (q0 h), fun h => ⟨(q1 h).1, (q1 h).2⟩, fun h => (q2 h), fun h => ⟨(q3 h).1, (q3 h).2⟩, fun h => (q4 h), fun h => ⟨(q5 h).1, (q5 h).2⟩, fun h => (q6 h), fun h => ⟨(q7 h).1, (q7 h).2⟩, fun h => ⟨(q8 h).1, (q8 h).2⟩, fun h => ⟨(q9 h).1, fun h => by cases (show true = false from h)⟩, fun h => ⟨(q10 h).1, (q10 h).2⟩, fun h => ⟨(q11 h).1, (q11 h).2⟩, fun h => q12 h, fun _ => rfl, fun h => q14 h, fun h => q15 h, fun w h => by show St ((bif s 11 then [(b14, cel 79 x14)] else []) ++ ((bif s 10 then [(b13, cel 89 x13)] else []) ++ ((bif s 9 then [(b12, cel 28 (ctl c (c.sl a2 c2)))] else []) ++ ((bif s 8 then [(b11, cel 25 x11)] else []) ++ ((b9, cel 31 (ints m)) :: (b6, cel 28 (ctl c (c.sl ah ch))) :: (b5, cel 25 (gtl g (g.sl ag cg))) :: H))))) Rz w; rw [h9]; exact h⟩
 intro s Lz Hz Rz hdn hs hpre hI K hK
 obtain ⟨a1, c1, a2, c2, a3, c3, a4, c4, b11, x11, b12, x12, b13, x13, b14, x14, hL0, hR0, q0, q1, q2, q3, q4, q5, q6, q7, q8, q9, q10, q11, q12, q13, q14, q15, hH⟩ := hI
 obtain ⟨h0, h1, h2, h3, h4, h5, h6, h7, h8, h9, h10, h11, h12, h13⟩ : s 0 = true ∧ s 1 = true ∧ s 2 = true ∧ s 3 = true ∧ s 4 = true ∧ s 5 = true ∧ s 6 = true ∧ s 7 = true ∧ s 8 = true ∧ s 9 = true ∧ s 10 = true ∧ s 11 = true ∧ s 12 = true ∧ s 13 = true := ⟨hpre 0 rfl, hpre 1 rfl, hpre 2 rfl, hpre 3 rfl, hpre 4 rfl, hpre 5 rfl, hpre 6 rfl, hpre 7 rfl, hpre 8 rfl, hpre 9 rfl, hpre 10 rfl, hpre 11 rfl, hpre 12 rfl, hpre 13 rfl⟩
 refine Sy.heap hH ?_
 obtain rfl := (q10 h10).2 hs
 refine Sy.heap (H' := (bif s 11 then [(b14, cel 79 x14)] else []) ++ ((b13, cel 89 [.int .i64 0, .int .i64 0, .slice none 0 0]) :: ((bif s 9 then [(b12, cel 28 x12)] else []) ++ ((bif s 8 then [(b11, cel 25 x11)] else []) ++ ((b9, cel 31 (ints m)) :: (b6, cel 28 (ctl c (c.sl ah ch))) :: (b5, cel 25 (gtl g (g.sl ag cg))) :: H))))) (fun w h => by rw [h10] at h; exact h) ?_
 refine stoE (l' := gtl g (g.sl a3 c3)) rfl (q10 h10).1 (q5 h5).1 cn89 rfl rfl rfl rfl (Nat.le_refl _) ?_
 exact hK _ _ _ ⟨a1, c1, a2, c2, a3, c3, a4, c4, b11, x11, b12, x12, b13, gtl g (g.sl a3 c3), b14, x14, hL0, hR0, fun h => (q0 h), fun h => ⟨(q1 h).1, (q1 h).2⟩, fun h => (q2 h), fun h => ⟨(q3 h).1, (q3 h).2⟩, fun h => (q4 h), fun h => ⟨(q5 h).1, (q5 h).2⟩, fun h => (q6 h), fun h => ⟨(q7 h).1, (q7 h).2⟩, fun h => ⟨(q8 h).1, (q8 h).2⟩, fun h => ⟨(q9 h).1, (q9 h).2⟩, fun h => ⟨(q10 h).1, fun h => by cases (show true = false from h)⟩, fun h => ⟨(q11 h).1, (q11 h).2⟩, fun h => q12 h, fun h => q13 h, fun _ => rfl, fun h => q15 h, fun w h => by show St ((bif s 11 then [(b14, cel 79 x14)] else []) ++ ((bif s 10 then [(b13, cel 89 (gtl g (g.sl a3 c3)))] else []) ++ ((bif s 9 then [(b12, cel 28 x12)] else []) ++ ((bif s 8 then [(b11, cel 25 x11)] else []) ++ ((b9, cel 31 (ints m)) :: (b6, cel 28 (ctl c (c.sl ah ch))) :: (b5, cel 25 (gtl g (g.sl ag cg))) :: H))))) Rz w; rw [h10]; exact h⟩
 intro s Lz Hz Rz hdn hs hpre hI K hK
 obtain ⟨a1, c1, a2, c2, a3, c3, a4, c4, b11, x11, b12, x12, b13, x13, b14, x14, hL0, hR0, q0, q1, q2, q3, q4, q5, q6, q7, q8, q9, q10, q11, q12, q13, q14, q15, hH⟩ := hI
 obtain ⟨h0, h1, h2, h3, h4, h5, h6, h7, h8, h9, h10, h11, h12, h13, h14⟩ : s 0 = true ∧ s 1 = true ∧ s 2 = true ∧ s 3 = true ∧ s 4 = true ∧ s 5 = true ∧ s 6 = true ∧ s 7 = true ∧ s 8 = true ∧ s 9 = true ∧ s 10 = true ∧ s 11 = true ∧ s 12 = true ∧ s 13 = true ∧ s 14 = true := ⟨hpre 0 rfl, hpre 1 rfl, hpre 2 rfl, hpre 3 rfl, hpre 4 rfl, hpre 5 rfl, hpre 6 rfl, hpre 7 rfl, hpre 8 rfl, hpre 9 rfl, hpre 10 rfl, hpre 11 rfl, hpre 12 rfl, hpre 13 rfl, hpre 14 rfl⟩
 refine Sy.heap hH ?_
 obtain rfl := (q11 h11).2 hs
 refine Sy.heap (H' := (b14, cel 79 [.int .i64 0, .int .i64 0, .slice none 0 0]) :: ((bif s 10 then [(b13, cel 89 x13)] else []) ++ ((bif s 9 then [(b12, cel 28 x12)] else []) ++ ((bif s 8 then [(b11, cel 25 x11)] else []) ++ ((b9, cel 31 (ints m)) :: (b6, cel 28 (ctl c (c.sl ah ch))) :: (b5, cel 25 (gtl g (g.sl ag cg))) :: H))))) (fun w h => by rw [h11] at h; exact h) ?_
 refine stoE (l' := ctl c (c.sl a4 c4)) rfl (q11 h11).1 (q7 h7).1 cn79 rfl rfl rfl rfl (Nat.le_refl _) ?_
 exact hK _ _ _ ⟨a1, c1, a2, c2, a3, c3, a4, c4, b11, x11, b12, x12, b13, x13, b14, ctl c (c.sl a4 c4), hL0, hR0, fun h => (q0 h), fun h => ⟨(q1 h).1, (q1 h).2⟩, fun h => (q2 h), fun h => ⟨(q3 h).1, (q3 h).2⟩, fun h => (q4 h), fun h => ⟨(q5 h).1, (q5 h).2⟩, fun h => (q6 h), fun h => ⟨(q7 h).1, (q7 h).2⟩, fun h => ⟨(q8 h).1, (q8 h).2⟩, fun h => ⟨(q9 h).1, (q9 h).2⟩, fun h => ⟨(q10 h).1, (q10 h).2⟩, fun h => ⟨(q11 h).1, fun h => by cases (show true = false from h)⟩, fun h => q12 h, fun h => q13 h, fun h => q14 h, fun _ => rfl, fun w h => by show St ((bif s 11 then [(b14, cel 79 (ctl c (c.sl a4 c4)))] else []) ++ ((bif s 10 then [(b13, cel 89 x13)] else []) ++ ((bif s 9 then [(b12, cel 28 x12)] else []) ++ ((bif s 8 then [(b11, cel 25 x11)] else []) ++ ((b9, cel 31 (ints m)) :: (b6, cel 28 (ctl c (c.sl ah ch))) :: (b5, cel 25 (gtl g (g.sl ag cg))) :: H))))) Rz w; rw [h11]; exact h⟩
 intro Lz Hz Rz hI
 obtain ⟨a1, c1, a2, c2, a3, c3, a4, c4, b11, x11, b12, x12, b13, x13, b14, x14, hL0, hR0, q0, q1, q2, q3, q4, q5, q6, q7, q8, q9, q10, q11, q12, q13, q14, q15, hH⟩ := hI
 obtain rfl := q15 rfl
 obtain rfl := q14 rfl
 obtain rfl := q13 rfl
 obtain rfl := q12 rfl
 refine Sy.weak (L' := [(14, .pointer (some ⟨b14, 0, none⟩)), (13, .pointer (some ⟨b13, 0, none⟩)), (12, .pointer (some ⟨b12, 0, none⟩)), (11, .pointer (some ⟨b11, 0, none⟩)), (2, .int .i64 n), (3, .int .i64 k), (5, .pointer (some ⟨b5, 0, none⟩)), (6, .pointer (some ⟨b6, 0, none⟩)), (9, .pointer (some ⟨b9, 0, none⟩))]) (H' := (b14, cel 79 (ctl c (c.sl a4 c4))) :: (b13, cel 89 (gtl g (g.sl a3 c3))) :: (b12, cel 28 (ctl c (c.sl a2 c2))) :: (b11, cel 25 (gtl g (g.sl a1 c1))) :: (b9, cel 31 (ints m)) :: (b6, cel 28 (ctl c (c.sl ah ch))) :: (b5, cel 25 (gtl g (g.sl ag cg))) :: H) (R' := RowsA a4 5 (hrows c.hs) :: RowsA a3 5 (grows g.grs) :: RowsA a2 5 (hrows c.hs) :: RowsA a1 5 (grows g.grs) :: R) ?_ (Sub.cons (q11 rfl).1 (Sub.cons (q10 rfl).1 (Sub.cons (q9 rfl).1 (Sub.cons (q8 rfl).1 hL0)))).lk (fun w h => St.facts (hH w h) (fin_cons (q7 rfl).2 (fin_cons (q5 rfl).2 (fin_cons (q3 rfl).2 (fin_cons (q1 rfl).2 hR0)))))
 refine sy_seq ?_
 refine sy_tx' [0, 1, 2, 3] rfl ?_
 refine spL rfl rfl (lhA [_, _, _] ag89 rfl rfl rfl) rfl ?_
 refine spL rfl rfl (lhA [_, _, _] ag79 rfl rfl rfl) rfl ?_
 refine clV rfl cal47 rfl rfl (c_rBoth g a3 c3 (by omega) c a4 c4 (by omega) _ _) ?_
 refine sp rfl (PE.assign rfl) rfl ?_
 refine sy_seq ?_
 refine sy_tx' [0, 1, 2, 3, 4, 5, 6] rfl ?_
 refine sp rfl (PE.move rfl) rfl ?_
 refine sp rfl (PE.move rfl) rfl ?_
 refine spL rfl rfl (lhA [_, _, _] ag89 rfl rfl rfl) rfl ?_
 refine clV rfl cal41 rfl rfl (c_rCheck g a3 c3 (by omega) _ _) ?_
 refine sp rfl (PE.assign rfl) rfl ?_
 refine sp rfl (PE.assign rfl) rfl ?_
 refine sp rfl (PE.assign rfl) rfl ?_
 refine sy_seq ?_
 refine sy_tx' [0, 1] rfl ?_
 refine alc rfl zl61 rfl (fun b19 => ?_)
 refine alc rfl zl61 rfl (fun b20 => ?_)
 refine sy_seq ?_
 refine sy_tx' [0, 1] rfl ?_
 refine sp rfl (PE.assign rfl) rfl ?_
 refine sp rfl (PE.assign rfl) rfl ?_
 refine sy_seq ?_
 refine sy_seq ?_
 refine sy_tx' [0, 1] rfl ?_
 refine sp rfl (PE.move rfl) rfl ?_
 refine sp rfl (PE.eql rfl rfl) rfl ?_
 refine sy_join (ι := Unit) (fun _ => ⟨[(2, .int .i64 n), (3, .int .i64 k), (5, .pointer (some ⟨b5, 0, none⟩)), (6, .pointer (some ⟨b6, 0, none⟩)), (9, .pointer (some ⟨b9, 0, none⟩)), (11, .pointer (some ⟨b11, 0, none⟩)), (12, .pointer (some ⟨b12, 0, none⟩)), (13, .pointer (some ⟨b13, 0, none⟩)), (14, .pointer (some ⟨b14, 0, none⟩)), (19, .pointer (some ⟨b19, 0, none⟩)), (20, .pointer (some ⟨b20, 0, none⟩)), (15, .int .i64 (bothE g c)), (16, .int .i64 (letE g c n k)), (17, .int .i64 (bif decide (bothE g c ≠ 0) then bothE g c else mixE m)), (18, .int .i64 g.check), (21, .bool (bif decide (bothE g c ≠ 0) then false else bif decide (mixE m ≠ 0) then false else (c.hs.all fun h => fitB g.miss h m))), (22, .int .i64 0)], (b20, cel 61 [.int .i64 (letP g c n k).1, .int .i64 (letP g c n k).2]) :: (b19, cel 61 [.int .i64 (netQ g c).1, .int .i64 (netQ g c).2]) :: (b14, cel 79 (ctl c (c.sl a4 c4))) :: (b13, cel 89 (gtl g (g.sl a3 c3))) :: (b12, cel 28 (ctl c (c.sl a2 c2))) :: (b11, cel 25 (gtl g (g.sl a1 c1))) :: (b9, cel 31 (ints m)) :: (b6, cel 28 (ctl c (c.sl ah ch))) :: (b5, cel 25 (gtl g (g.sl ag cg))) :: H, RowsA a4 5 (hrows c.hs) :: RowsA a3 5 (grows g.grs) :: RowsA a2 5 (hrows c.hs) :: RowsA a1 5 (grows g.grs) :: R⟩) ?_ ?_
 refine sy_cond rfl (fun hc1 => ?_) (fun hc1 => ?_)
 have hw0 : bothE g c = 0 := by simpa using hc1
 have hgo : g.ok := gat_ok.1 (by unfold bothE at hw0; by_cases h : g.check = 0; exact h; rw [decide_eq_true h] at hw0; exact absurd hw0 h)
 have hg0 := gat_ok.2 hgo
 have hco : c.ok := crt_ok.1 (by unfold bothE at hw0; rw [hg0] at hw0; exact hw0)
 have hb0 : decide (bothE g c ≠ 0) = false := decide_eq_false (by omega)
 have hq : netQ g c = netP g c := by unfold netQ; rw [hb0]; rfl
 refine sy_seq ?_
 refine sy_tx' [0, 1, 2, 3] rfl ?_
 refine spL rfl rfl (lhA [_, _, _] ag89 rfl rfl rfl) rfl ?_
 refine spL rfl rfl (lhA [_, _, _] ag79 rfl rfl rfl) rfl ?_
 refine clV rfl cal48 rfl rfl (c_rNet g hgo (g.sl a3 c3) c hco (c.sl a4 c4) _ _) ?_
 refine sto rfl rfl rfl cn61 rfl rfl rfl rfl ?_
 refine sy_seq ?_
 refine sy_seq ?_
 refine sy_tx' [0] rfl ?_
 refine sp rfl (PE.assign rfl) rfl ?_
 refine sy_seq ?_
 refine sy_tx' [0, 1, 2, 3, 4, 5, 6, 7, 8, 9, 10, 11, 12, 13, 14, 15, 16] rfl ?_
 refine sp rfl (PE.move rfl) rfl ?_
 refine sp rfl (PE.geq rfl rfl) rfl ?_
 refine sp rfl (PE.move rfl) rfl ?_
 refine sy_case (t := 58) rfl (fun g58 => ?_) (fun g58 => ?_)
 try simp only [decide_eq_true_eq, decide_eq_false_iff_not, Bool.and_eq_true, Bool.or_eq_true, Bool.not_eq_true', Int.not_le, Int.not_lt] at g58
 refine spG rfl rfl rfl rfl (PE.move rfl) rfl ?_
 refine spG rfl rfl rfl rfl (PE.fieldAddr fo28_2 rfl) rfl ?_
 refine spLG rfl rfl rfl rfl rfl (lh sc26 rfl rfl) rfl ?_
 refine spG rfl rfl rfl rfl (PE.lenSl isl26 rfl) rfl ?_
 refine spG rfl rfl rfl rfl (PE.lss rfl rfl) rfl ?_
 refine sp rfl (PE.pick rfl rfl rfl) rfl ?_
 refine sp rfl (PE.move rfl) rfl ?_
 refine sy_case (t := 65) rfl (fun g65 => ?_) (fun g65 => ?_)
 try simp only [decide_eq_true_eq, decide_eq_false_iff_not, Bool.and_eq_true, Bool.or_eq_true, Bool.not_eq_true', Int.not_le, Int.not_lt] at g65
 refine spG rfl rfl rfl rfl (PE.move rfl) rfl ?_
 refine spG rfl rfl rfl rfl (PE.geq rfl rfl) rfl ?_
 refine sp rfl (PE.pick rfl rfl rfl) rfl ?_
 refine sp rfl (PE.move rfl) rfl ?_
 refine sy_case (t := 69) rfl (fun g69 => ?_) (fun g69 => ?_)
 try simp only [decide_eq_true_eq, decide_eq_false_iff_not, Bool.and_eq_true, Bool.or_eq_true, Bool.not_eq_true', Int.not_le, Int.not_lt] at g69
 refine spG rfl rfl rfl rfl (PE.move rfl) rfl ?_
 refine spG rfl rfl rfl rfl (PE.leq rfl rfl) rfl ?_
 refine sp rfl (PE.pick rfl rfl rfl) rfl ?_
 refine sy_join (ι := Unit) (fun _ => ⟨[(2, .int .i64 n), (3, .int .i64 k), (5, .pointer (some ⟨b5, 0, none⟩)), (6, .pointer (some ⟨b6, 0, none⟩)), (9, .pointer (some ⟨b9, 0, none⟩)), (11, .pointer (some ⟨b11, 0, none⟩)), (12, .pointer (some ⟨b12, 0, none⟩)), (13, .pointer (some ⟨b13, 0, none⟩)), (14, .pointer (some ⟨b14, 0, none⟩)), (19, .pointer (some ⟨b19, 0, none⟩)), (20, .pointer (some ⟨b20, 0, none⟩)), (15, .int .i64 (bothE g c)), (16, .int .i64 (letE g c n k)), (17, .int .i64 (bothE g c)), (18, .int .i64 g.check), (21, .bool false), (22, .int .i64 0)], (b20, cel 61 [.int .i64 (letP g c n k).1, .int .i64 (letP g c n k).2]) :: (b19, cel 61 [.int .i64 (netP g c).1, .int .i64 (netP g c).2]) :: (b14, cel 79 (ctl c (c.sl a4 c4))) :: (b13, cel 89 (gtl g (g.sl a3 c3))) :: (b12, cel 28 (ctl c (c.sl a2 c2))) :: (b11, cel 25 (gtl g (g.sl a1 c1))) :: (b9, cel 31 (ints m)) :: (b6, cel 28 (ctl c (c.sl ah ch))) :: (b5, cel 25 (gtl g (g.sl ag cg))) :: H, RowsA a4 5 (hrows c.hs) :: RowsA a3 5 (grows g.grs) :: RowsA a2 5 (hrows c.hs) :: RowsA a1 5 (grows g.grs) :: R⟩) ?_ ?_
 refine sy_cond rfl (fun hc2 => ?_) (fun hc2 => ?_)
 try simp only [decide_eq_true_eq, decide_eq_false_iff_not, Bool.and_eq_true, Bool.or_eq_true, Bool.not_eq_true', Int.not_le, Int.not_lt] at hc2
 obtain ⟨i, rfl⟩ : ∃ i : Nat, n = i := ⟨n.toNat, by omega⟩
 obtain ⟨q, rfl⟩ : ∃ q : Nat, k = q := ⟨k.toNat, by omega⟩
 have hq4 : q < 4 := by omega
 obtain ⟨h, hh⟩ : ∃ h, c.hs[i]? = some h := ⟨_, List.getElem?_eq_getElem (by omega)⟩
 have hok := hco.hs h (List.mem_of_getElem? hh)
 obtain ⟨e1, e2, e3⟩ := let_ref (g := g) hw0 hh hq4
 refine sy_addr (a := a4) (sz := 5) (rows := hrows c.hs) (by intro h0; simp [hrows] at h0; simp [h0] at hh) (fun ba oa hea => ?_)
 subst hea
 refine sy_seq ?_
 refine sy_tx' [0] rfl ?_
 refine sp rfl (PE.assign rfl) rfl ?_
 refine sy_seq ?_
 refine sy_draw [0, 0, 2, 0, 14, 30, 0, 127, 255, 511, 511, 1023, 4095] (.ld 0 (.tk 1 (.ld 2 (.tk 3 (.tk 4 (.ld 5 (.tk 6 (.big 7 (.tk 8 (.tk 9 (.tk 10 (.big 11 (.tk 12 .done))))))))))))) mixed (by kernel_rfl) ?_
 refine ld rfl rfl (lhA [_, _, _] ag89 rfl rfl rfl) rfl ?_
 refine tk rfl (PE.fieldAddr fo79_2 rfl) rfl ?_
 refine ld rfl rfl (lh sc77 rfl rfl) rfl ?_
 refine tk rfl (PE.move rfl) rfl ?_
 refine tk rfl (PE.indexAddr el77 rfl rfl (by omega) (by omega)) rfl ?_
 refine ld rfl rfl (lfA ag83 (row := hrow h) (hr_get (by simpa using hh)) rfl) rfl ?_
 refine tk rfl (PE.move rfl) rfl ?_
 refine clV rfl cal49 rfl rfl (c_rLets g hgo.miss (g.sl a3 c3) h hok q hq4 _ _) ?_
 refine bg (fun w hs => ⟨trivial, trivial, trivial, trivial⟩) ?_
 refine tk rfl (PE.move rfl) rfl ?_
 refine tk rfl (PE.extract rfl rfl) rfl ?_
 refine tk rfl (PE.extract rfl rfl) rfl ?_
 refine sto rfl rfl rfl cn61 rfl rfl rfl rfl ?_
 refine bg (fun w hs => trivial) ?_
 refine tk rfl (PE.assign rfl) rfl ?_
 refine sy_tx' [0, 1, 2] rfl ?_
 refine sp rfl (PE.move rfl) rfl ?_
 refine clV rfl cal50 rfl rfl (c_None _ _ _) ?_
 refine sp rfl (PE.assign rfl) rfl ?_
 exact sy_jend () (by dsimp only; rw [e1]; exact (by repeat' first | exact Sub.nil | apply Sub.cons | rfl | (simp [lk]; omega))) (fun w h => by dsimp only; rw [e2, e3]; exact h)
 try simp only [decide_eq_true_eq, decide_eq_false_iff_not, Bool.and_eq_true, Bool.or_eq_true, Bool.not_eq_true', Int.not_le, Int.not_lt] at hc2
 have he2 := letE_bad (g := g) (n := n) (k := k) hw0 (.inr (by simp [inb]; omega : inb k 0 3 = false))
 have he1 := letP_no he2 (by decide)
 refine sy_skip ?_
 exact sy_jend () (by dsimp only; rw [he2]; exact (by repeat' first | exact Sub.nil | apply Sub.cons | rfl | (simp [lk]; omega))) (fun w h => by dsimp only; rw [he1]; exact h)
 rintro ⟨⟩
 dsimp only
 refine sy_seq ?_
 refine sy_tx' [0, 1, 2] rfl ?_
 refine spL rfl rfl (lhA (ints (m)) ag31 rfl (rest := []) (by rw [List.append_nil]; rfl) (by rw [ints_length]; exact hm)) rfl ?_
 refine clV rfl cal51 rfl rfl (c_rMixed m hm _ _) ?_
 refine sp rfl (PE.assign rfl) rfl ?_
 refine sy_seq ?_
 refine sy_tx' [0, 1] rfl ?_
 refine sp rfl (PE.move rfl) rfl ?_
 refine sp rfl (PE.eql rfl rfl) rfl ?_
 refine sy_join (ι := Unit) (fun _ => ⟨[(2, .int .i64 n), (3, .int .i64 k), (5, .pointer (some ⟨b5, 0, none⟩)), (6, .pointer (some ⟨b6, 0, none⟩)), (9, .pointer (some ⟨b9, 0, none⟩)), (11, .pointer (some ⟨b11, 0, none⟩)), (12, .pointer (some ⟨b12, 0, none⟩)), (13, .pointer (some ⟨b13, 0, none⟩)), (14, .pointer (some ⟨b14, 0, none⟩)), (19, .pointer (some ⟨b19, 0, none⟩)), (20, .pointer (some ⟨b20, 0, none⟩)), (15, .int .i64 (bothE g c)), (16, .int .i64 (letE g c n k)), (17, .int .i64 (mixE m)), (18, .int .i64 g.check), (21, .bool (bif decide (mixE m ≠ 0) then false else (c.hs.all fun h => fitB g.miss h m))), (22, .int .i64 0)], (b20, cel 61 [.int .i64 (letP g c n k).1, .int .i64 (letP g c n k).2]) :: (b19, cel 61 [.int .i64 (netP g c).1, .int .i64 (netP g c).2]) :: (b14, cel 79 (ctl c (c.sl a4 c4))) :: (b13, cel 89 (gtl g (g.sl a3 c3))) :: (b12, cel 28 (ctl c (c.sl a2 c2))) :: (b11, cel 25 (gtl g (g.sl a1 c1))) :: (b9, cel 31 (ints m)) :: (b6, cel 28 (ctl c (c.sl ah ch))) :: (b5, cel 25 (gtl g (g.sl ag cg))) :: H, RowsA a4 5 (hrows c.hs) :: RowsA a3 5 (grows g.grs) :: RowsA a2 5 (hrows c.hs) :: RowsA a1 5 (grows g.grs) :: R⟩) ?_ ?_
 refine sy_cond rfl (fun hc3 => ?_) (fun hc3 => ?_)
 have hm0 : mixE m = 0 := by simpa using hc3
 have hmx := (mix_ok hm).1 hm0
 have hm9 : decide (mixE m ≠ 0) = false := decide_eq_false (by omega)
 refine sy_tx' [0, 1, 2, 3, 4] rfl ?_
 refine spL rfl rfl (lhA [_, _, _] ag89 rfl rfl rfl) rfl ?_
 refine spL rfl rfl (lhA [_, _, _] ag79 rfl rfl rfl) rfl ?_
 refine spL rfl rfl (lhA (ints (m)) ag31 rfl (rest := []) (by rw [List.append_nil]; rfl) (by rw [ints_length]; exact hm)) rfl ?_
 refine clV rfl cal52 rfl rfl (c_rFits g hgo.miss (g.sl a3 c3) c hco a4 c4 m hmx _ _) ?_
 refine sp rfl (PE.assign rfl) rfl ?_
 exact sy_jend () (by dsimp only; rw [hm9]; exact (by repeat' first | exact Sub.nil | apply Sub.cons | rfl | (simp [lk]; omega))) (fun w h => by dsimp only; exact h)
 have hm0 : mixE m ≠ 0 := by simpa using hc3
 have hm9 : decide (mixE m ≠ 0) = true := decide_eq_true hm0
 refine sy_skip ?_
 exact sy_jend () (by dsimp only; rw [hm9]; exact (by repeat' first | exact Sub.nil | apply Sub.cons | rfl | (simp [lk]; omega))) (fun w h => by dsimp only; exact h)
 rintro ⟨⟩
 dsimp only
 exact sy_jend () (by dsimp only; rw [hb0]; exact (by repeat' first | exact Sub.nil | apply Sub.cons | rfl | (simp [lk]; omega))) (fun w h => by dsimp only; rw [hq]; exact h)
 try simp only [decide_eq_true_eq, decide_eq_false_iff_not, Bool.and_eq_true, Bool.or_eq_true, Bool.not_eq_true', Int.not_le, Int.not_lt] at g69
 have he2 := letE_bad (g := g) (n := n) (k := k) hw0 (.inr (by simp [inb]; omega : inb k 0 3 = false))
 have he1 := letP_no he2 (by decide)
 repeat refine spN rfl rfl rfl rfl rfl rfl rfl rfl ?_
 refine sp rfl (PE.pick rfl rfl rfl) rfl ?_
 refine sy_join (ι := Unit) (fun _ => ⟨[(2, .int .i64 n), (3, .int .i64 k), (5, .pointer (some ⟨b5, 0, none⟩)), (6, .pointer (some ⟨b6, 0, none⟩)), (9, .pointer (some ⟨b9, 0, none⟩)), (11, .pointer (some ⟨b11, 0, none⟩)), (12, .pointer (some ⟨b12, 0, none⟩)), (13, .pointer (some ⟨b13, 0, none⟩)), (14, .pointer (some ⟨b14, 0, none⟩)), (19, .pointer (some ⟨b19, 0, none⟩)), (20, .pointer (some ⟨b20, 0, none⟩)), (15, .int .i64 (bothE g c)), (16, .int .i64 (letE g c n k)), (17, .int .i64 (bothE g c)), (18, .int .i64 g.check), (21, .bool false), (22, .int .i64 0)], (b20, cel 61 [.int .i64 (letP g c n k).1, .int .i64 (letP g c n k).2]) :: (b19, cel 61 [.int .i64 (netP g c).1, .int .i64 (netP g c).2]) :: (b14, cel 79 (ctl c (c.sl a4 c4))) :: (b13, cel 89 (gtl g (g.sl a3 c3))) :: (b12, cel 28 (ctl c (c.sl a2 c2))) :: (b11, cel 25 (gtl g (g.sl a1 c1))) :: (b9, cel 31 (ints m)) :: (b6, cel 28 (ctl c (c.sl ah ch))) :: (b5, cel 25 (gtl g (g.sl ag cg))) :: H, RowsA a4 5 (hrows c.hs) :: RowsA a3 5 (grows g.grs) :: RowsA a2 5 (hrows c.hs) :: RowsA a1 5 (grows g.grs) :: R⟩) ?_ ?_
 refine sy_condF rfl ?_
 refine sy_skip ?_
 exact sy_jend () (by dsimp only; rw [he2]; exact (by repeat' first | exact Sub.nil | apply Sub.cons | rfl | (simp [lk]; omega))) (fun w h => by dsimp only; rw [he1]; exact h)
 rintro ⟨⟩
 dsimp only
 refine sy_seq ?_
 refine sy_tx' [0, 1, 2] rfl ?_
 refine spL rfl rfl (lhA (ints (m)) ag31 rfl (rest := []) (by rw [List.append_nil]; rfl) (by rw [ints_length]; exact hm)) rfl ?_
 refine clV rfl cal51 rfl rfl (c_rMixed m hm _ _) ?_
 refine sp rfl (PE.assign rfl) rfl ?_
 refine sy_seq ?_
 refine sy_tx' [0, 1] rfl ?_
 refine sp rfl (PE.move rfl) rfl ?_
 refine sp rfl (PE.eql rfl rfl) rfl ?_
 refine sy_join (ι := Unit) (fun _ => ⟨[(2, .int .i64 n), (3, .int .i64 k), (5, .pointer (some ⟨b5, 0, none⟩)), (6, .pointer (some ⟨b6, 0, none⟩)), (9, .pointer (some ⟨b9, 0, none⟩)), (11, .pointer (some ⟨b11, 0, none⟩)), (12, .pointer (some ⟨b12, 0, none⟩)), (13, .pointer (some ⟨b13, 0, none⟩)), (14, .pointer (some ⟨b14, 0, none⟩)), (19, .pointer (some ⟨b19, 0, none⟩)), (20, .pointer (some ⟨b20, 0, none⟩)), (15, .int .i64 (bothE g c)), (16, .int .i64 (letE g c n k)), (17, .int .i64 (mixE m)), (18, .int .i64 g.check), (21, .bool (bif decide (mixE m ≠ 0) then false else (c.hs.all fun h => fitB g.miss h m))), (22, .int .i64 0)], (b20, cel 61 [.int .i64 (letP g c n k).1, .int .i64 (letP g c n k).2]) :: (b19, cel 61 [.int .i64 (netP g c).1, .int .i64 (netP g c).2]) :: (b14, cel 79 (ctl c (c.sl a4 c4))) :: (b13, cel 89 (gtl g (g.sl a3 c3))) :: (b12, cel 28 (ctl c (c.sl a2 c2))) :: (b11, cel 25 (gtl g (g.sl a1 c1))) :: (b9, cel 31 (ints m)) :: (b6, cel 28 (ctl c (c.sl ah ch))) :: (b5, cel 25 (gtl g (g.sl ag cg))) :: H, RowsA a4 5 (hrows c.hs) :: RowsA a3 5 (grows g.grs) :: RowsA a2 5 (hrows c.hs) :: RowsA a1 5 (grows g.grs) :: R⟩) ?_ ?_
 refine sy_cond rfl (fun hc3 => ?_) (fun hc3 => ?_)
 have hm0 : mixE m = 0 := by simpa using hc3
 have hmx := (mix_ok hm).1 hm0
 have hm9 : decide (mixE m ≠ 0) = false := decide_eq_false (by omega)
 refine sy_tx' [0, 1, 2, 3, 4] rfl ?_
 refine spL rfl rfl (lhA [_, _, _] ag89 rfl rfl rfl) rfl ?_
 refine spL rfl rfl (lhA [_, _, _] ag79 rfl rfl rfl) rfl ?_
 refine spL rfl rfl (lhA (ints (m)) ag31 rfl (rest := []) (by rw [List.append_nil]; rfl) (by rw [ints_length]; exact hm)) rfl ?_
 refine clV rfl cal52 rfl rfl (c_rFits g hgo.miss (g.sl a3 c3) c hco a4 c4 m hmx _ _) ?_
 refine sp rfl (PE.assign rfl) rfl ?_
 exact sy_jend () (by dsimp only; rw [hm9]; exact (by repeat' first | exact Sub.nil | apply Sub.cons | rfl | (simp [lk]; omega))) (fun w h => by dsimp only; exact h)
 have hm0 : mixE m ≠ 0 := by simpa using hc3
 have hm9 : decide (mixE m ≠ 0) = true := decide_eq_true hm0
 refine sy_skip ?_
 exact sy_jend () (by dsimp only; rw [hm9]; exact (by repeat' first | exact Sub.nil | apply Sub.cons | rfl | (simp [lk]; omega))) (fun w h => by dsimp only; exact h)
 rintro ⟨⟩
 dsimp only
 exact sy_jend () (by dsimp only; rw [hb0]; exact (by repeat' first | exact Sub.nil | apply Sub.cons | rfl | (simp [lk]; omega))) (fun w h => by dsimp only; rw [hq]; exact h)
 try simp only [decide_eq_true_eq, decide_eq_false_iff_not, Bool.and_eq_true, Bool.or_eq_true, Bool.not_eq_true', Int.not_le, Int.not_lt] at g65
 have he2 := letE_bad (g := g) (n := n) (k := k) hw0 (.inl (by simp [inb]; omega : inb n 0 ((c.hs.length : Int) - 1) = false))
 have he1 := letP_no he2 (by decide)
 repeat refine spN rfl rfl rfl rfl rfl rfl rfl rfl ?_
 refine sp rfl (PE.pick rfl rfl rfl) rfl ?_
 refine sp rfl (PE.move rfl) rfl ?_
 repeat refine spN rfl rfl rfl rfl rfl rfl rfl rfl ?_
 refine sp rfl (PE.pick rfl rfl rfl) rfl ?_
 refine sy_join (ι := Unit) (fun _ => ⟨[(2, .int .i64 n), (3, .int .i64 k), (5, .pointer (some ⟨b5, 0, none⟩)), (6, .pointer (some ⟨b6, 0, none⟩)), (9, .pointer (some ⟨b9, 0, none⟩)), (11, .pointer (some ⟨b11, 0, none⟩)), (12, .pointer (some ⟨b12, 0, none⟩)), (13, .pointer (some ⟨b13, 0, none⟩)), (14, .pointer (some ⟨b14, 0, none⟩)), (19, .pointer (some ⟨b19, 0, none⟩)), (20, .pointer (some ⟨b20, 0, none⟩)), (15, .int .i64 (bothE g c)), (16, .int .i64 (letE g c n k)), (17, .int .i64 (bothE g c)), (18, .int .i64 g.check), (21, .bool false), (22, .int .i64 0)], (b20, cel 61 [.int .i64 (letP g c n k).1, .int .i64 (letP g c n k).2]) :: (b19, cel 61 [.int .i64 (netP g c).1, .int .i64 (netP g c).2]) :: (b14, cel 79 (ctl c (c.sl a4 c4))) :: (b13, cel 89 (gtl g (g.sl a3 c3))) :: (b12, cel 28 (ctl c (c.sl a2 c2))) :: (b11, cel 25 (gtl g (g.sl a1 c1))) :: (b9, cel 31 (ints m)) :: (b6, cel 28 (ctl c (c.sl ah ch))) :: (b5, cel 25 (gtl g (g.sl ag cg))) :: H, RowsA a4 5 (hrows c.hs) :: RowsA a3 5 (grows g.grs) :: RowsA a2 5 (hrows c.hs) :: RowsA a1 5 (grows g.grs) :: R⟩) ?_ ?_
 refine sy_condF rfl ?_
 refine sy_skip ?_
 exact sy_jend () (by dsimp only; rw [he2]; exact (by repeat' first | exact Sub.nil | apply Sub.cons | rfl | (simp [lk]; omega))) (fun w h => by dsimp only; rw [he1]; exact h)
 rintro ⟨⟩
 dsimp only
 refine sy_seq ?_
 refine sy_tx' [0, 1, 2] rfl ?_
 refine spL rfl rfl (lhA (ints (m)) ag31 rfl (rest := []) (by rw [List.append_nil]; rfl) (by rw [ints_length]; exact hm)) rfl ?_
 refine clV rfl cal51 rfl rfl (c_rMixed m hm _ _) ?_
 refine sp rfl (PE.assign rfl) rfl ?_
 refine sy_seq ?_
 refine sy_tx' [0, 1] rfl ?_
 refine sp rfl (PE.move rfl) rfl ?_
 refine sp rfl (PE.eql rfl rfl) rfl ?_
 refine sy_join (ι := Unit) (fun _ => ⟨[(2, .int .i64 n), (3, .int .i64 k), (5, .pointer (some ⟨b5, 0, none⟩)), (6, .pointer (some ⟨b6, 0, none⟩)), (9, .pointer (some ⟨b9, 0, none⟩)), (11, .pointer (some ⟨b11, 0, none⟩)), (12, .pointer (some ⟨b12, 0, none⟩)), (13, .pointer (some ⟨b13, 0, none⟩)), (14, .pointer (some ⟨b14, 0, none⟩)), (19, .pointer (some ⟨b19, 0, none⟩)), (20, .pointer (some ⟨b20, 0, none⟩)), (15, .int .i64 (bothE g c)), (16, .int .i64 (letE g c n k)), (17, .int .i64 (mixE m)), (18, .int .i64 g.check), (21, .bool (bif decide (mixE m ≠ 0) then false else (c.hs.all fun h => fitB g.miss h m))), (22, .int .i64 0)], (b20, cel 61 [.int .i64 (letP g c n k).1, .int .i64 (letP g c n k).2]) :: (b19, cel 61 [.int .i64 (netP g c).1, .int .i64 (netP g c).2]) :: (b14, cel 79 (ctl c (c.sl a4 c4))) :: (b13, cel 89 (gtl g (g.sl a3 c3))) :: (b12, cel 28 (ctl c (c.sl a2 c2))) :: (b11, cel 25 (gtl g (g.sl a1 c1))) :: (b9, cel 31 (ints m)) :: (b6, cel 28 (ctl c (c.sl ah ch))) :: (b5, cel 25 (gtl g (g.sl ag cg))) :: H, RowsA a4 5 (hrows c.hs) :: RowsA a3 5 (grows g.grs) :: RowsA a2 5 (hrows c.hs) :: RowsA a1 5 (grows g.grs) :: R⟩) ?_ ?_
 refine sy_cond rfl (fun hc3 => ?_) (fun hc3 => ?_)
 have hm0 : mixE m = 0 := by simpa using hc3
 have hmx := (mix_ok hm).1 hm0
 have hm9 : decide (mixE m ≠ 0) = false := decide_eq_false (by omega)
 refine sy_tx' [0, 1, 2, 3, 4] rfl ?_
 refine spL rfl rfl (lhA [_, _, _] ag89 rfl rfl rfl) rfl ?_
 refine spL rfl rfl (lhA [_, _, _] ag79 rfl rfl rfl) rfl ?_
 refine spL rfl rfl (lhA (ints (m)) ag31 rfl (rest := []) (by rw [List.append_nil]; rfl) (by rw [ints_length]; exact hm)) rfl ?_
 refine clV rfl cal52 rfl rfl (c_rFits g hgo.miss (g.sl a3 c3) c hco a4 c4 m hmx _ _) ?_
 refine sp rfl (PE.assign rfl) rfl ?_
 exact sy_jend () (by dsimp only; rw [hm9]; exact (by repeat' first | exact Sub.nil | apply Sub.cons | rfl | (simp [lk]; omega))) (fun w h => by dsimp only; exact h)
 have hm0 : mixE m ≠ 0 := by simpa using hc3
 have hm9 : decide (mixE m ≠ 0) = true := decide_eq_true hm0
 refine sy_skip ?_
 exact sy_jend () (by dsimp only; rw [hm9]; exact (by repeat' first | exact Sub.nil | apply Sub.cons | rfl | (simp [lk]; omega))) (fun w h => by dsimp only; exact h)
 rintro ⟨⟩
 dsimp only
 exact sy_jend () (by dsimp only; rw [hb0]; exact (by repeat' first | exact Sub.nil | apply Sub.cons | rfl | (simp [lk]; omega))) (fun w h => by dsimp only; rw [hq]; exact h)
 try simp only [decide_eq_true_eq, decide_eq_false_iff_not, Bool.and_eq_true, Bool.or_eq_true, Bool.not_eq_true', Int.not_le, Int.not_lt] at g58
 have he2 := letE_bad (g := g) (n := n) (k := k) hw0 (.inl (by simp [inb]; omega : inb n 0 ((c.hs.length : Int) - 1) = false))
 have he1 := letP_no he2 (by decide)
 repeat refine spN rfl rfl rfl rfl rfl rfl rfl rfl ?_
 refine sp rfl (PE.pick rfl rfl rfl) rfl ?_
 refine sp rfl (PE.move rfl) rfl ?_
 repeat refine spN rfl rfl rfl rfl rfl rfl rfl rfl ?_
 refine sp rfl (PE.pick rfl rfl rfl) rfl ?_
 refine sp rfl (PE.move rfl) rfl ?_
 repeat refine spN rfl rfl rfl rfl rfl rfl rfl rfl ?_
 refine sp rfl (PE.pick rfl rfl rfl) rfl ?_
 refine sy_join (ι := Unit) (fun _ => ⟨[(2, .int .i64 n), (3, .int .i64 k), (5, .pointer (some ⟨b5, 0, none⟩)), (6, .pointer (some ⟨b6, 0, none⟩)), (9, .pointer (some ⟨b9, 0, none⟩)), (11, .pointer (some ⟨b11, 0, none⟩)), (12, .pointer (some ⟨b12, 0, none⟩)), (13, .pointer (some ⟨b13, 0, none⟩)), (14, .pointer (some ⟨b14, 0, none⟩)), (19, .pointer (some ⟨b19, 0, none⟩)), (20, .pointer (some ⟨b20, 0, none⟩)), (15, .int .i64 (bothE g c)), (16, .int .i64 (letE g c n k)), (17, .int .i64 (bothE g c)), (18, .int .i64 g.check), (21, .bool false), (22, .int .i64 0)], (b20, cel 61 [.int .i64 (letP g c n k).1, .int .i64 (letP g c n k).2]) :: (b19, cel 61 [.int .i64 (netP g c).1, .int .i64 (netP g c).2]) :: (b14, cel 79 (ctl c (c.sl a4 c4))) :: (b13, cel 89 (gtl g (g.sl a3 c3))) :: (b12, cel 28 (ctl c (c.sl a2 c2))) :: (b11, cel 25 (gtl g (g.sl a1 c1))) :: (b9, cel 31 (ints m)) :: (b6, cel 28 (ctl c (c.sl ah ch))) :: (b5, cel 25 (gtl g (g.sl ag cg))) :: H, RowsA a4 5 (hrows c.hs) :: RowsA a3 5 (grows g.grs) :: RowsA a2 5 (hrows c.hs) :: RowsA a1 5 (grows g.grs) :: R⟩) ?_ ?_
 refine sy_condF rfl ?_
 refine sy_skip ?_
 exact sy_jend () (by dsimp only; rw [he2]; exact (by repeat' first | exact Sub.nil | apply Sub.cons | rfl | (simp [lk]; omega))) (fun w h => by dsimp only; rw [he1]; exact h)
 rintro ⟨⟩
 dsimp only
 refine sy_seq ?_
 refine sy_tx' [0, 1, 2] rfl ?_
 refine spL rfl rfl (lhA (ints (m)) ag31 rfl (rest := []) (by rw [List.append_nil]; rfl) (by rw [ints_length]; exact hm)) rfl ?_
 refine clV rfl cal51 rfl rfl (c_rMixed m hm _ _) ?_
 refine sp rfl (PE.assign rfl) rfl ?_
 refine sy_seq ?_
 refine sy_tx' [0, 1] rfl ?_
 refine sp rfl (PE.move rfl) rfl ?_
 refine sp rfl (PE.eql rfl rfl) rfl ?_
 refine sy_join (ι := Unit) (fun _ => ⟨[(2, .int .i64 n), (3, .int .i64 k), (5, .pointer (some ⟨b5, 0, none⟩)), (6, .pointer (some ⟨b6, 0, none⟩)), (9, .pointer (some ⟨b9, 0, none⟩)), (11, .pointer (some ⟨b11, 0, none⟩)), (12, .pointer (some ⟨b12, 0, none⟩)), (13, .pointer (some ⟨b13, 0, none⟩)), (14, .pointer (some ⟨b14, 0, none⟩)), (19, .pointer (some ⟨b19, 0, none⟩)), (20, .pointer (some ⟨b20, 0, none⟩)), (15, .int .i64 (bothE g c)), (16, .int .i64 (letE g c n k)), (17, .int .i64 (mixE m)), (18, .int .i64 g.check), (21, .bool (bif decide (mixE m ≠ 0) then false else (c.hs.all fun h => fitB g.miss h m))), (22, .int .i64 0)], (b20, cel 61 [.int .i64 (letP g c n k).1, .int .i64 (letP g c n k).2]) :: (b19, cel 61 [.int .i64 (netP g c).1, .int .i64 (netP g c).2]) :: (b14, cel 79 (ctl c (c.sl a4 c4))) :: (b13, cel 89 (gtl g (g.sl a3 c3))) :: (b12, cel 28 (ctl c (c.sl a2 c2))) :: (b11, cel 25 (gtl g (g.sl a1 c1))) :: (b9, cel 31 (ints m)) :: (b6, cel 28 (ctl c (c.sl ah ch))) :: (b5, cel 25 (gtl g (g.sl ag cg))) :: H, RowsA a4 5 (hrows c.hs) :: RowsA a3 5 (grows g.grs) :: RowsA a2 5 (hrows c.hs) :: RowsA a1 5 (grows g.grs) :: R⟩) ?_ ?_
 refine sy_cond rfl (fun hc3 => ?_) (fun hc3 => ?_)
 have hm0 : mixE m = 0 := by simpa using hc3
 have hmx := (mix_ok hm).1 hm0
 have hm9 : decide (mixE m ≠ 0) = false := decide_eq_false (by omega)
 refine sy_tx' [0, 1, 2, 3, 4] rfl ?_
 refine spL rfl rfl (lhA [_, _, _] ag89 rfl rfl rfl) rfl ?_
 refine spL rfl rfl (lhA [_, _, _] ag79 rfl rfl rfl) rfl ?_
 refine spL rfl rfl (lhA (ints (m)) ag31 rfl (rest := []) (by rw [List.append_nil]; rfl) (by rw [ints_length]; exact hm)) rfl ?_
 refine clV rfl cal52 rfl rfl (c_rFits g hgo.miss (g.sl a3 c3) c hco a4 c4 m hmx _ _) ?_
 refine sp rfl (PE.assign rfl) rfl ?_
 exact sy_jend () (by dsimp only; rw [hm9]; exact (by repeat' first | exact Sub.nil | apply Sub.cons | rfl | (simp [lk]; omega))) (fun w h => by dsimp only; exact h)
 have hm0 : mixE m ≠ 0 := by simpa using hc3
 have hm9 : decide (mixE m ≠ 0) = true := decide_eq_true hm0
 refine sy_skip ?_
 exact sy_jend () (by dsimp only; rw [hm9]; exact (by repeat' first | exact Sub.nil | apply Sub.cons | rfl | (simp [lk]; omega))) (fun w h => by dsimp only; exact h)
 rintro ⟨⟩
 dsimp only
 exact sy_jend () (by dsimp only; rw [hb0]; exact (by repeat' first | exact Sub.nil | apply Sub.cons | rfl | (simp [lk]; omega))) (fun w h => by dsimp only; rw [hq]; exact h)
 have hw0 : bothE g c ≠ 0 := by simpa using hc1
 have hb0 : decide (bothE g c ≠ 0) = true := decide_eq_true hw0
 obtain ⟨he2, he1⟩ := letE_err hw0 n k
 have hq : netQ g c = (0, 0) := by unfold netQ; rw [hb0]; rfl
 refine sy_skip ?_
 exact sy_jend () (by dsimp only; rw [he2, hb0]; exact (by repeat' first | exact Sub.nil | apply Sub.cons | rfl | (simp [lk]; omega))) (fun w h => by dsimp only; rw [he1, hq]; exact h)
 rintro ⟨⟩
 dsimp only
 refine sy_seq ?_
 refine sy_seq ?_
 refine sy_tx' [0, 1] rfl ?_
 refine sp rfl (PE.move rfl) rfl ?_
 refine sp rfl (PE.eql rfl rfl) rfl ?_
 refine sy_join (ι := Unit) (fun _ => ⟨[(2, .int .i64 n), (3, .int .i64 k), (5, .pointer (some ⟨b5, 0, none⟩)), (6, .pointer (some ⟨b6, 0, none⟩)), (9, .pointer (some ⟨b9, 0, none⟩)), (11, .pointer (some ⟨b11, 0, none⟩)), (12, .pointer (some ⟨b12, 0, none⟩)), (13, .pointer (some ⟨b13, 0, none⟩)), (14, .pointer (some ⟨b14, 0, none⟩)), (19, .pointer (some ⟨b19, 0, none⟩)), (20, .pointer (some ⟨b20, 0, none⟩)), (15, .int .i64 (bothE g c)), (16, .int .i64 (letE g c n k)), (17, .int .i64 (bif decide (bothE g c ≠ 0) then bothE g c else mixE m)), (18, .int .i64 (bif decide (g.check ≠ 0) then g.check else mixE m)), (21, .bool (bif decide (bothE g c ≠ 0) then false else bif decide (mixE m ≠ 0) then false else (c.hs.all fun h => fitB g.miss h m))), (22, .int .i64 (bif decide (g.check ≠ 0) then 0 else bif decide (mixE m ≠ 0) then 0 else hasG g.grs m))], (b20, cel 61 [.int .i64 (letP g c n k).1, .int .i64 (letP g c n k).2]) :: (b19, cel 61 [.int .i64 (netQ g c).1, .int .i64 (netQ g c).2]) :: (b14, cel 79 (ctl c (c.sl a4 c4))) :: (b13, cel 89 (gtl g (g.sl a3 c3))) :: (b12, cel 28 (ctl c (c.sl a2 c2))) :: (b11, cel 25 (gtl g (g.sl a1 c1))) :: (b9, cel 31 (ints m)) :: (b6, cel 28 (ctl c (c.sl ah ch))) :: (b5, cel 25 (gtl g (g.sl ag cg))) :: H, RowsA a4 5 (hrows c.hs) :: RowsA a3 5 (grows g.grs) :: RowsA a2 5 (hrows c.hs) :: RowsA a1 5 (grows g.grs) :: R⟩) ?_ ?_
 refine sy_cond rfl (fun hc4 => ?_) (fun hc4 => ?_)
 have hg0 : g.check = 0 := by simpa using hc4
 have hg9 : decide (g.check ≠ 0) = false := decide_eq_false (by omega)
 refine sy_seq ?_
 refine sy_tx' [0, 1, 2] rfl ?_
 refine spL rfl rfl (lhA (ints (m)) ag31 rfl (rest := []) (by rw [List.append_nil]; rfl) (by rw [ints_length]; exact hm)) rfl ?_
 refine clV rfl cal51 rfl rfl (c_rMixed m hm _ _) ?_
 refine sp rfl (PE.assign rfl) rfl ?_
 refine sy_seq ?_
 refine sy_tx' [0, 1] rfl ?_
 refine sp rfl (PE.move rfl) rfl ?_
 refine sp rfl (PE.eql rfl rfl) rfl ?_
 refine sy_cond rfl (fun hc5 => ?_) (fun hc5 => ?_)
 have hm0 : mixE m = 0 := by simpa using hc5
 have hmx := (mix_ok hm).1 hm0
 have hm9 : decide (mixE m ≠ 0) = false := decide_eq_false (by omega)
 refine sy_tx' [0, 1, 2, 3] rfl ?_
 refine spL rfl rfl (lhA [_, _, _] ag89 rfl rfl rfl) rfl ?_
 refine spL rfl rfl (lhA (ints (m)) ag31 rfl (rest := []) (by rw [List.append_nil]; rfl) (by rw [ints_length]; exact hm)) rfl ?_
 refine clV rfl cal53 rfl rfl (c_rHas g a3 c3 (by omega) (by omega) m hmx _ _) ?_
 refine sp rfl (PE.assign rfl) rfl ?_
 exact sy_jend () (by dsimp only; rw [hg9, show decide (mixE m ≠ 0) = false from hm9]; exact (by repeat' first | exact Sub.nil | apply Sub.cons | rfl | (simp [lk]; omega))) (fun w h => by dsimp only; exact h)
 have hm0 : mixE m ≠ 0 := by simpa using hc5
 have hm9 : decide (mixE m ≠ 0) = true := decide_eq_true hm0
 refine sy_skip ?_
 exact sy_jend () (by dsimp only; rw [hg9, hm9]; exact (by repeat' first | exact Sub.nil | apply Sub.cons | rfl | (simp [lk]; omega))) (fun w h => by dsimp only; exact h)
 have hg9 : decide (g.check ≠ 0) = true := decide_eq_true (by simpa using hc4)
 refine sy_skip ?_
 exact sy_jend () (by dsimp only; rw [hg9]; exact (by repeat' first | exact Sub.nil | apply Sub.cons | rfl | (simp [lk]; omega))) (fun w h => by dsimp only; exact h)
 rintro ⟨⟩
 dsimp only
 refine sy_seq ?_
 refine sy_tx' [0, 1, 2, 3, 4, 5, 6, 7, 8] rfl ?_
 refine spL rfl rfl (lhA [_, _, _] ag25 rfl rfl rfl) rfl ?_
 refine spL rfl rfl (lhA [_, _, _] ag28 rfl rfl rfl) rfl ?_
 refine cl rfl cal27 rfl rfl (c_Net g a1 c1 (by omega) c a2 c2 (by omega) _ _) ?_
 rintro _ _ _ ⟨rfl, rfl, rfl⟩
 rw [netR_eq]
 refine sp rfl (PE.move rfl) rfl ?_
 refine sp rfl (PE.extract rfl rfl) rfl ?_
 refine sp rfl (PE.extract rfl rfl) rfl ?_
 refine alc rfl zl61 rfl (fun b24 => ?_)
 refine sto rfl rfl rfl cn61 rfl rfl rfl rfl ?_
 refine sp rfl (PE.assign rfl) rfl ?_
 refine sy_seq ?_
 refine sy_tx' [0, 1, 2, 3, 4, 5, 6, 7, 8, 9, 10] rfl ?_
 refine spL rfl rfl (lhA [_, _, _] ag25 rfl rfl rfl) rfl ?_
 refine spL rfl rfl (lhA [_, _, _] ag28 rfl rfl rfl) rfl ?_
 refine sp rfl (PE.move rfl) rfl ?_
 refine sp rfl (PE.move rfl) rfl ?_
 refine clV rfl cal54 rfl rfl (c_Lets g a1 c1 (by omega) c a2 c2 (by omega) n k _ _) ?_
 refine sp rfl (PE.move rfl) rfl ?_
 refine sp rfl (PE.extract rfl rfl) rfl ?_
 refine sp rfl (PE.extract rfl rfl) rfl ?_
 refine alc rfl zl61 rfl (fun b26 => ?_)
 refine sto rfl rfl rfl cn61 rfl rfl rfl rfl ?_
 refine sp rfl (PE.assign rfl) rfl ?_
 refine sy_seq ?_
 refine sy_tx' [0, 1, 2, 3, 4, 5, 6, 7, 8] rfl ?_
 refine spL rfl rfl (lhA [_, _, _] ag25 rfl rfl rfl) rfl ?_
 refine spL rfl rfl (lhA [_, _, _] ag28 rfl rfl rfl) rfl ?_
 refine spL rfl rfl (lhA (ints (m)) ag31 rfl (rest := []) (by rw [List.append_nil]; rfl) (by rw [ints_length]; exact hm)) rfl ?_
 refine clV rfl cal55 rfl rfl (c_Fits g a1 c1 (by omega) c a2 c2 (by omega) m hm _ _) ?_
 refine sp rfl (PE.move rfl) rfl ?_
 refine sp rfl (PE.extract rfl rfl) rfl ?_
 refine sp rfl (PE.extract rfl rfl) rfl ?_
 refine sp rfl (PE.assign rfl) rfl ?_
 refine sp rfl (PE.assign rfl) rfl ?_
 refine sy_seq ?_
 refine sy_tx' [0, 1, 2, 3, 4, 5, 6, 7] rfl ?_
 refine spL rfl rfl (lhA [_, _, _] ag25 rfl rfl rfl) rfl ?_
 refine spL rfl rfl (lhA (ints (m)) ag31 rfl (rest := []) (by rw [List.append_nil]; rfl) (by rw [ints_length]; exact hm)) rfl ?_
 refine clV rfl cal56 rfl rfl (c_Has g a1 c1 (by omega) m hm _ _) ?_
 refine sp rfl (PE.move rfl) rfl ?_
 refine sp rfl (PE.extract rfl rfl) rfl ?_
 refine sp rfl (PE.extract rfl rfl) rfl ?_
 refine sp rfl (PE.assign rfl) rfl ?_
 refine sp rfl (PE.assign rfl) rfl ?_
 refine sy_seq ?_
 refine sy_tx' [0, 1, 2, 3, 4, 5, 6, 7, 8, 9, 10, 11, 12, 13, 14, 15, 16, 17, 18, 19, 20, 21, 22, 23, 24, 25, 26, 27, 28, 29, 30, 31, 32, 33, 34, 35, 36, 37, 38, 39, 40, 41, 42, 43, 44, 45, 46, 47, 48, 49, 50, 51] rfl ?_
 refine sp rfl (PE.move rfl) rfl ?_
 refine sp rfl (PE.move rfl) rfl ?_
 refine sp rfl (PE.eql rfl rfl) rfl ?_
 refine sp rfl (PE.move rfl) rfl ?_
 refine sy_case (t := 133) rfl (fun g133 => ?_) (fun g133 => ?_)
 refine spG rfl rfl rfl rfl (PE.move rfl) rfl ?_
 refine spG rfl rfl rfl rfl (PE.move rfl) rfl ?_
 refine spG rfl rfl rfl rfl (PE.eql rfl rfl) rfl ?_
 refine sp rfl (PE.pick rfl rfl rfl) rfl ?_
 refine sp rfl (PE.move rfl) rfl ?_
 refine sy_case (t := 138) rfl (fun g138 => ?_) (fun g138 => ?_)
 refine spG rfl rfl rfl rfl (PE.move rfl) rfl ?_
 refine spG rfl rfl rfl rfl (PE.move rfl) rfl ?_
 refine spG rfl rfl rfl rfl (PE.eql rfl rfl) rfl ?_
 refine sp rfl (PE.pick rfl rfl rfl) rfl ?_
 refine sp rfl (PE.move rfl) rfl ?_
 refine sy_case (t := 143) rfl (fun g143 => ?_) (fun g143 => ?_)
 refine spG rfl rfl rfl rfl (PE.move rfl) rfl ?_
 refine spG rfl rfl rfl rfl (PE.move rfl) rfl ?_
 refine spG rfl rfl rfl rfl (PE.eql rfl rfl) rfl ?_
 refine sp rfl (PE.pick rfl rfl rfl) rfl ?_
 refine sp rfl (PE.move rfl) rfl ?_
 refine sy_case (t := 148) rfl (fun g148 => ?_) (fun g148 => ?_)
 refine spLG rfl rfl rfl rfl rfl (lhA [_, _] ag61 rfl rfl rfl) rfl ?_
 refine spLG rfl rfl rfl rfl rfl (lhA [_, _] ag61 rfl rfl rfl) rfl ?_
 refine spG rfl rfl rfl rfl (PE.eqlAgg [(netQ g c).1, (netQ g c).2] [(netQ g c).1, (netQ g c).2] (eqB_ok 10000 61 true 2 eqf61) eqg61 rfl rfl rfl rfl) rfl ?_
 refine sp rfl (PE.pick rfl rfl rfl) rfl ?_
 refine sp rfl (PE.move rfl) rfl ?_
 refine sy_case (t := 153) rfl (fun g153 => ?_) (fun g153 => ?_)
 refine spLG rfl rfl rfl rfl rfl (lhA [_, _] ag61 rfl rfl rfl) rfl ?_
 refine spLG rfl rfl rfl rfl rfl (lhA [_, _] ag61 rfl rfl rfl) rfl ?_
 refine spG rfl rfl rfl rfl (PE.eqlAgg [(letP g c n k).1, (letP g c n k).2] [(letP g c n k).1, (letP g c n k).2] (eqB_ok 10000 61 true 2 eqf61) eqg61 rfl rfl rfl rfl) rfl ?_
 refine sp rfl (PE.pick rfl rfl rfl) rfl ?_
 refine sp rfl (PE.move rfl) rfl ?_
 refine sy_case (t := 158) rfl (fun g158 => ?_) (fun g158 => ?_)
 refine spG rfl rfl rfl rfl (PE.move rfl) rfl ?_
 refine spG rfl rfl rfl rfl (PE.move rfl) rfl ?_
 refine spG rfl rfl rfl rfl (PE.eqlBool ub4 rfl rfl) rfl ?_
 refine sp rfl (PE.pick rfl rfl rfl) rfl ?_
 refine sp rfl (PE.move rfl) rfl ?_
 refine sy_case (t := 163) rfl (fun g163 => ?_) (fun g163 => ?_)
 refine spG rfl rfl rfl rfl (PE.move rfl) rfl ?_
 refine spG rfl rfl rfl rfl (PE.move rfl) rfl ?_
 refine spG rfl rfl rfl rfl (PE.eql rfl rfl) rfl ?_
 refine sp rfl (PE.pick rfl rfl rfl) rfl ?_
 refine sp rfl (PE.move rfl) rfl ?_
 refine sy_case (t := 168) rfl (fun g168 => ?_) (fun g168 => ?_)
 refine spLG rfl rfl rfl rfl rfl (lhA [_, _, _] ag25 rfl rfl rfl) rfl ?_
 refine spLG rfl rfl rfl rfl rfl (lhA [_, _, _] ag25 rfl rfl rfl) rfl ?_
 refine clVG rfl rfl rfl rfl cal45 rfl rfl (c_same g a1 ag c1 cg (by omega) _ _) ?_
 refine sp rfl (PE.pick rfl rfl rfl) rfl ?_
 refine sp rfl (PE.move rfl) rfl ?_
 refine sy_case (t := 173) rfl (fun g173 => ?_) (fun g173 => ?_)
 refine spLG rfl rfl rfl rfl rfl (lhA [_, _, _] ag28 rfl rfl rfl) rfl ?_
 refine spLG rfl rfl rfl rfl rfl (lhA [_, _, _] ag28 rfl rfl rfl) rfl ?_
 refine clVG rfl rfl rfl rfl cal46 rfl rfl (c_alike c a2 ah c2 ch (by omega) _ _) ?_
 refine sp rfl (PE.pick rfl rfl rfl) rfl ?_
 refine sp rfl (PE.move rfl) rfl ?_
 refine sy_case (t := 178) rfl (fun g178 => ?_) (fun g178 => ?_)
 refine clVG rfl rfl rfl rfl cal8 rfl rfl (c_awake _ _) ?_
 refine sp rfl (PE.pick rfl rfl rfl) rfl ?_
 refine sp rfl (PE.assign rfl) rfl ?_
 refine sy_ret ?_
 exact sy_return (vs := [_]) rfl (.cons (RV.tmp rfl) .nil) rfl ⟨rfl, rfl, rfl⟩ drp
 exact absurd g178 (by simp)
 exact absurd g173 (by simp)
 exact absurd g168 (by simp)
 exact absurd g163 (by simp)
 exact absurd g158 (by simp)
 exact absurd g153 (by simp)
 exact absurd g148 (by simp)
 exact absurd g143 (by simp)
 exact absurd g138 (by simp)
 exact absurd g133 (by simp)
end Go.Proofs.YtndhkpnaeocnhaaGreat
namespace Go.Proofs.YtndhkpnaeocnhaaGreat
set_option linter.unusedSimpArgs false
set_option linter.unusedVariables false
open Go
theorem ap106 : apT Tryz.prog 106 = some (31, 4, 32) := by kernel_rfl
theorem ap107 : apT Tryz.prog 107 = some (106, 1, 24) := by kernel_rfl
theorem cn106 : cellN Tryz.prog 106 = some 1 := by kernel_rfl
theorem el107 : elN Tryz.prog 107 = some 1 := by kernel_rfl
theorem sc106 : scal Tryz.prog 106 = true := by kernel_rfl
theorem sl106 : slE Tryz.prog 106 = some (31, 4) := by kernel_rfl
theorem zl106 : zeroL Tryz.prog 106 = some ([.slice none 0 0]) := by kernel_rfl
abbrev mrows (l : List Mix) : List (List Value) := l.map ints
def missN (miss : Int) (hs : List Hnd) (m : Mix) : Nat → Nat
  | 0 => 0
  | i + 1 => missN miss hs m i + match hs[i]? with
    | some h => bif fitB miss h m then 0 else 2 ^ i
    | none => 0
def missQ (miss : Int) (hs : List Hnd) (m : Mix) : Nat := missN miss hs m hs.length
theorem missN_lt (miss : Int) (hs : List Hnd) (m : Mix) : ∀ i, missN miss hs m i < 2 ^ i
  | 0 => by simp [missN]
  | i + 1 => by
    have ih := missN_lt miss hs m i
    have h2 : 2 ^ (i + 1) = 2 ^ i + 2 ^ i := by rw [Nat.pow_succ]; omega
    unfold missN
    cases hs[i]? with
    | none => simp only; omega
    | some h => simp only; cases fitB miss h m <;> simp only [cond_true, cond_false] <;> omega
theorem missN_0 {miss : Int} {hs : List Hnd} {m : Mix} : ∀ {i : Nat}, i ≤ hs.length → (missN miss hs m i = 0 ↔ ∀ h ∈ hs.take i, fitB miss h m = true)
  | 0, _ => by simp [missN]
  | i + 1, hi => by
    have ih := missN_0 (miss := miss) (hs := hs) (m := m) (i := i) (by omega)
    obtain ⟨h, hh⟩ : ∃ h, hs[i]? = some h := ⟨_, List.getElem?_eq_getElem (by omega)⟩
    have hp : 0 < 2 ^ i := Nat.pow_pos (by decide)
    unfold missN
    rw [hh, List.take_add_one, hh]
    simp only [Option.toList_some, List.mem_append, List.mem_singleton]
    cases hf : fitB miss h m
    · simp only [cond_false]
      constructor
      · intro h1; omega
      · intro h1; have := h1 h (.inr rfl); rw [hf] at this; cases this
    · simp only [cond_true, Nat.add_zero]
      rw [ih]
      constructor
      · rintro h1 x (hx | rfl)
        · exact h1 x hx
        · exact hf
      · intro h1 x hx; exact h1 x (.inl hx)
theorem missQ_lt {miss : Int} {hs : List Hnd} {m : Mix} (h : hs.length ≤ 6) : missQ miss hs m < 64 := by
  have h1 := missN_lt miss hs m hs.length
  have h2 : 2 ^ hs.length ≤ 2 ^ 6 := Nat.pow_le_pow_right (by decide) h
  unfold missQ; omega
theorem missQ_0 {miss : Int} {hs : List Hnd} {m : Mix} : missQ miss hs m = 0 ↔ ∀ h ∈ hs, fitB miss h m = true := by
  have := missN_0 (miss := miss) (hs := hs) (m := m) (i := hs.length) (Nat.le_refl _)
  rw [List.take_length] at this
  exact this
def partS (miss : Int) (hs : List Hnd) (ms : List Mix) (s : Nat) : List Mix := ms.filter fun m => decide (missQ miss hs m = s)
theorem part_hit {miss : Int} {hs : List Hnd} {ms : List Mix} {m : Mix} {s : Nat} (h : missQ miss hs m = s) : partS miss hs (ms ++ [m]) s = partS miss hs ms s ++ [m] := by
  simp [partS, List.filter_append, h]
theorem part_miss {miss : Int} {hs : List Hnd} {ms : List Mix} {m : Mix} {s : Nat} (h : missQ miss hs m ≠ s) : partS miss hs (ms ++ [m]) s = partS miss hs ms s := by
  simp [partS, List.filter_append, h]
structure AllI (a b d : Nat) (ms : List Mix) : Prop where
  mx : ∀ m ∈ ms, Mxt m
  all : ∀ m, Mxt m → (nn m 0 < a ∨ (nn m 0 = a ∧ nn m 1 < b) ∨ (nn m 0 = a ∧ nn m 1 = b ∧ nn m 2 < d)) → m ∈ ms
  len : ms.length ≤ 1681 * a + 41 * b + d
theorem AllI.start : AllI 0 0 0 [] := ⟨by simp, fun m hm h => by
  have h0 := hm.at_ 0 (by omega); have h1 := hm.at_ 1 (by omega); have h2 := hm.at_ 2 (by omega)
  omega, by simp⟩
def mixOf (a b d : Nat) : Mix := [(a : Int), (b : Int), (d : Int), 40 - a - b - d]
theorem mixOf_ok {a b d : Nat} (h : a + b + d ≤ 40) : Mxt (mixOf a b d) := ⟨rfl, by simp [mixOf, sum4, nn]; omega, of4 ⟨by simp [mixOf, nn]; omega, by simp [mixOf, nn]; omega, by simp [mixOf, nn]; omega, by simp [mixOf, nn]; omega⟩⟩
theorem AllI.more {a b d : Nat} {ms : List Mix} (h : AllI a b d ms) (hs : a + b + d ≤ 40) : AllI a b (d + 1) (ms ++ [mixOf a b d]) := by
  refine ⟨fun m hm => ?_, fun m hm hlt => ?_, by have := h.len; simp; omega⟩
  · rcases List.mem_append.1 hm with hm | hm
    · exact h.mx m hm
    · obtain rfl := List.mem_singleton.1 hm; exact mixOf_ok hs
  · by_cases he : nn m 0 = a ∧ nn m 1 = b ∧ nn m 2 = d
    · have hsm := hm.sum
      obtain ⟨x0, x1, x2, x3, rfl⟩ := list4 hm.len
      simp only [sum4, nn, List.getD_cons_zero, List.getD_cons_succ] at he hsm
      obtain ⟨rfl, rfl, rfl⟩ := he
      refine List.mem_append_right _ (List.mem_singleton.2 ?_)
      simp [mixOf]; omega
    · exact List.mem_append_left _ (h.all m hm (by omega))
theorem AllI.next {a b d : Nat} {ms : List Mix} (h : AllI a b d ms) (hd : 40 < a + b + d) (hd2 : d ≤ 41) : AllI a (b + 1) 0 ms := ⟨h.mx, fun m hm hlt => h.all m hm (by
  have h0 := hm.at_ 0 (by omega); have h1 := hm.at_ 1 (by omega); have h2 := hm.at_ 2 (by omega); have h3 := hm.at_ 3 (by omega)
  have hs := hm.sum
  unfold sum4 at hs
  omega), by have := h.len; omega⟩
theorem AllI.down {a b : Nat} {ms : List Mix} (h : AllI a b 0 ms) (hd : 40 < a + b) (hb : b ≤ 41) : AllI (a + 1) 0 0 ms := ⟨h.mx, fun m hm hlt => h.all m hm (by
  have h0 := hm.at_ 0 (by omega); have h1 := hm.at_ 1 (by omega); have h2 := hm.at_ 2 (by omega); have h3 := hm.at_ 3 (by omega)
  have hs := hm.sum
  unfold sum4 at hs
  omega), by have := h.len; omega⟩
theorem AllI.done {ms : List Mix} (h : AllI 41 0 0 ms) (m : Mix) : m ∈ ms ↔ Mxt m := ⟨h.mx m, fun hm => h.all m hm (by have h0 := hm.at_ 0 (by omega); omega)⟩
abbrev Fam (e : Nat) (miss : Int) (hs : List Hnd) (ms : List Mix) := (s : Nat) → OSl e 4 (mrows (partS miss hs ms s))
def famG (G : Nat → Heap) : Heap := (List.range 64).flatMap G
def famF (F : Nat → Value) : List Value := (List.range 64).map F
def famAdd {e : Nat} {miss : Int} {hs : List Hnd} {ms : List Mix} (os : Fam e miss hs ms) (m : Mix) (o : OSl e 4 (mrows (partS miss hs ms (missQ miss hs m)) ++ [ints m])) : Fam e miss hs (ms ++ [m]) := fun q =>
  if h : missQ miss hs m = q then o.cast (by subst h; rw [part_hit rfl]; simp) else (os q).cast (by rw [part_miss h])
theorem famAdd_hit {e : Nat} {miss : Int} {hs : List Hnd} {ms : List Mix} (os : Fam e miss hs ms) (m : Mix) (o : OSl e 4 (mrows (partS miss hs ms (missQ miss hs m)) ++ [ints m])) : (famAdd os m o (missQ miss hs m)).G = o.G ∧ (famAdd os m o (missQ miss hs m)).fs = o.fs := by
  unfold famAdd; rw [dif_pos rfl]; exact ⟨rfl, rfl⟩
theorem famAdd_miss {e : Nat} {miss : Int} {hs : List Hnd} {ms : List Mix} (os : Fam e miss hs ms) (m : Mix) (o : OSl e 4 (mrows (partS miss hs ms (missQ miss hs m)) ++ [ints m])) {q : Nat} (h : q ≠ missQ miss hs m) : (famAdd os m o q).G = (os q).G ∧ (famAdd os m o q).fs = (os q).fs := by
  unfold famAdd; rw [dif_neg (fun e => h e.symm)]; exact ⟨rfl, rfl⟩
theorem flatMap_same {α β : Type} {f g : α → List β} : ∀ {l : List α}, (∀ x ∈ l, f x = g x) → l.flatMap f = l.flatMap g
  | [], _ => rfl
  | x :: l, h => by rw [List.flatMap_cons, List.flatMap_cons, h x (by simp), flatMap_same (l := l) (fun y hy => h y (by simp [hy]))]
theorem famG_split (G : Nat → Heap) {s : Nat} (hs : s < 64) : ∃ A B, famG G = A ++ (G s ++ B) ∧ ∀ G' : Nat → Heap, (∀ q, q ≠ s → G' q = G q) → famG G' = A ++ (G' s ++ B) := by
  obtain ⟨p, t, hpt⟩ := List.append_of_mem (List.mem_range.2 hs)
  have hnd : (p ++ s :: t).Nodup := by rw [← hpt]; exact List.nodup_range
  rw [List.nodup_append] at hnd
  obtain ⟨_, h2, h3⟩ := hnd
  refine ⟨p.flatMap G, t.flatMap G, by unfold famG; rw [hpt]; simp, fun G' h => ?_⟩
  unfold famG
  rw [hpt, List.flatMap_append, List.flatMap_cons, flatMap_same (fun x hx => h x (fun e => h3 x hx s (by simp) e)), flatMap_same (l := t) (fun x hx => h x (fun e => (List.nodup_cons.1 h2).1 (by rw [← e]; exact hx)))]
theorem famF_get (F : Nat → Value) {s : Nat} (hs : s < 64) : (famF F)[0 + ((s : Nat) : Int).toNat * 1]? = some (F s) := by
  rw [show 0 + ((s : Nat) : Int).toNat * 1 = s by omega]
  simp [famF, hs]
theorem famF_set (F F' : Nat → Value) {s : Nat} (hs : s < 64) (h : ∀ q, q ≠ s → F' q = F q) : spl (famF F) (0 + ((s : Nat) : Int).toNat * 1) [F' s] = famF F' := by
  rw [show 0 + ((s : Nat) : Int).toNat * 1 = s by omega]
  have hl : s < (famF F).length := by simp [famF, hs]
  have e1 : spl (famF F) s [F' s] = (famF F).set s (F' s) := by
    unfold spl
    rw [List.set_eq_take_append_cons_drop, if_pos hl]; simp
  rw [e1]
  apply List.ext_getElem?
  intro q
  rw [List.getElem?_set]
  by_cases hq : s = q
  · subst hq; rw [if_pos rfl, if_pos hl]; simp [famF, hs]
  · rw [if_neg hq]
    unfold famF
    rw [List.getElem?_map, List.getElem?_map]
    by_cases hq2 : q < 64
    · rw [List.getElem?_range hq2]; simp [h q (fun e => hq e.symm)]
    · rw [List.getElem?_eq_none (by simp; omega)]; rfl
theorem fam_start : famF (fun _ => .slice none 0 0) = repl 64 [.slice none 0 0] := by rw [repl1]; rfl
theorem flat_single {α : Type} (f : α → Value) : ∀ l : List α, (l.map fun x => [f x]).flatten = l.map f
  | [] => rfl
  | x :: l => by rw [List.map_cons, List.flatten_cons, flat_single f l]; rfl
theorem famG_nil : famG (fun _ => []) = [] := by simp [famG]
def fsA : Value → Option Addr
  | .slice a _ _ => a
  | _ => none
def fsC : Value → Nat
  | .slice _ _ c => c
  | _ => 0
theorem OSl.form {e sz : Nat} {rows : List (List Value)} (o : OSl e sz rows) : o.fs = .slice (fsA o.fs) rows.length (fsC o.fs) ∧ ∀ {H : Heap} {R : Facts} {w : World}, St (o.G ++ H) R w → St H (RowsA (fsA o.fs) sz rows :: R) w := by
  obtain ⟨a, c, he, hf⟩ := o.freeze
  rw [he]; exact ⟨rfl, hf⟩
theorem fam_freeze {e : Nat} {miss : Int} {hs : List Hnd} {ms : List Mix} (os : Fam e miss hs ms) {H : Heap} {R : Facts} {w : World} (h : St (famG (fun s => (os s).G) ++ H) R w) : St H ((fun w => ∀ s < 64, RowsA (fsA (os s).fs) 4 (mrows (partS miss hs ms s)) w) :: R) w := by
  have h0 : St H R w := St.drop h
  refine ⟨h0.nd, h0.held, fun f hf w' hk => ?_⟩
  rcases List.mem_cons.1 hf with rfl | hf
  · intro s hs64
    obtain ⟨A, B, e1, _⟩ := famG_split (fun s => (os s).G) hs64
    rw [e1] at h
    have h1 : St ((os s).G ++ ((A ++ B) ++ H)) R w := h.perm (by
      simp only [List.append_assoc]
      exact perm_swap3 A (os s).G (B ++ H))
    have h2 := St.drop ((os s).form.2 h1)
    exact h2.fact _ (by simp) w' hk
  · exact h0.fact f hf w' hk
theorem c_All (g : Gat) (hg : 0 ≤ g.miss ∧ g.miss ≤ 20) (sg : Value) (c : Crt) (hc : c.ok) (ah : Option Addr) (ch : Nat) (H : Heap) (R : Facts) [hA : MemRows ah 5 (hrows c.hs) R] :
    Fn Tryz.prog 57 [g.v sg, c.v (c.sl ah ch)] H R (fun v H' R' => ∃ (ms : List Mix) (b : Nat) (a : Nat → Option Addr) (cc : Nat → Nat), (∀ m, m ∈ ms ↔ Mxt m) ∧ ms.length ≤ 100000 ∧ v = .slice (some ⟨b, 0, none⟩) 64 64 ∧ H' = H ∧ R' = (fun w => ∀ s < 64, RowsA (a s) 4 (mrows (partS g.miss c.hs ms s)) w) :: RowsA (some ⟨b, 0, none⟩) 1 ((List.range 64).map fun s => [Value.slice (a s) (partS g.miss c.hs ms s).length (cc s)]) :: R) := by
 refine fn_of Tryz.func57 rfl Tryz.ntmps57 rfl ?_
 refine sy_seq ?_
 refine sy_tx' [0, 1, 2] rfl ?_
 refine bx rfl rfl rfl (fun b2 => ?_)
 refine bx rfl rfl rfl (fun b3 => ?_)
 refine sp rfl (PE.assign rfl) rfl ?_
 refine sy_seq ?_
 refine sy_tx' [0, 1] rfl ?_
 refine mkS rfl ap107 zl106 rfl rfl (Nat.le_refl _) ⟨by decide, by decide⟩ rfl (fun b13 => ?_)
 refine sp rfl (PE.assign rfl) rfl ?_
 refine sy_seq ?_
 refine sy_seq ?_
 refine sy_tx' [0] rfl ?_
 refine sp rfl (PE.assign rfl) rfl ?_
 refine sy_block ?_
 refine sy_loop (ι := {x : Nat × ((ms : List Mix) × Fam 31 g.miss c.hs ms) // x.1 ≤ 41 ∧ AllI x.1 0 0 x.2.1}) (fun x => ⟨[(2, .pointer (some ⟨b2, 0, none⟩)), (3, .pointer (some ⟨b3, 0, none⟩)), (5, .slice (some ⟨b13, 0, none⟩) 64 64), (6, .int .i64 x.1.1)], (b13, cel 106 (famF (fun s => (x.1.2.2 s).fs))) :: ((famG (fun s => (x.1.2.2 s).G)) ++ (b3, cel 79 (ctl c (c.sl ah ch))) :: (b2, cel 89 (gtl g sg)) :: H), R⟩) (fun x => 41 - x.1.1) ⟨(0, ⟨[], fun s => OSl.nil _ _⟩), by omega, AllI.start⟩ ?_ (fun x => ?_)
 exact sy_at (by repeat' first | exact Sub.nil | apply Sub.cons | rfl | (simp [lk]; omega)) (fun w h => by dsimp only; rw [show famF (fun s => (OSl.nil 31 4 : OSl 31 4 []).fs) = repl 64 [.slice none 0 0] from fam_start, show famG (fun s => (OSl.nil 31 4 : OSl 31 4 []).G) = [] from famG_nil]; exact h)
 obtain ⟨⟨a, ⟨ms0, os0⟩⟩, ha, hI0⟩ := x
 dsimp only at ha hI0 os0 ⊢
 have hmany := hc.many
 refine sy_seq ?_
 refine sy_seq ?_
 refine sy_tx' [0, 1] rfl ?_
 refine sp rfl (PE.move rfl) rfl ?_
 refine sp rfl (PE.leq rfl rfl) rfl ?_
 refine sy_cond rfl (fun hc0 => ?_) (fun hc0 => ?_)
 try simp only [decide_eq_true_eq, decide_eq_false_iff_not, Bool.and_eq_true, Bool.or_eq_true, Bool.not_eq_true', Int.not_le, Int.not_lt] at hc0
 refine sy_skip ?_
 refine sy_seq ?_
 refine sy_block ?_
 refine sy_seq ?_
 refine sy_tx' [0] rfl ?_
 refine sp rfl (PE.assign rfl) rfl ?_
 refine sy_block ?_
 refine sy_loop (ι := {x : Nat × ((ms : List Mix) × Fam 31 g.miss c.hs ms) // x.1 ≤ 41 ∧ AllI a x.1 0 x.2.1}) (fun x => ⟨[(2, .pointer (some ⟨b2, 0, none⟩)), (3, .pointer (some ⟨b3, 0, none⟩)), (5, .slice (some ⟨b13, 0, none⟩) 64 64), (6, .int .i64 a), (7, .int .i64 x.1.1)], (b13, cel 106 (famF (fun s => (x.1.2.2 s).fs))) :: ((famG (fun s => (x.1.2.2 s).G)) ++ (b3, cel 79 (ctl c (c.sl ah ch))) :: (b2, cel 89 (gtl g sg)) :: H), R⟩) (fun x => 41 - x.1.1) ⟨(0, ⟨ms0, os0⟩), by omega, hI0⟩ ?_ (fun x => ?_)
 exact sy_at (by repeat' first | exact Sub.nil | apply Sub.cons | rfl | (simp [lk]; omega)) (fun _ h => h)
 obtain ⟨⟨b, ⟨ms1, os1⟩⟩, hb, hI1⟩ := x
 dsimp only at hb hI1 os1 ⊢
 refine sy_seq ?_
 refine sy_seq ?_
 refine sy_tx' [0, 1, 2, 3] rfl ?_
 refine sp rfl (PE.move rfl) rfl ?_
 refine sp rfl (PE.move rfl) rfl ?_
 refine sp rfl (PE.add rfl rfl (by omega)) rfl ?_
 refine sp rfl (PE.leq rfl rfl) rfl ?_
 refine sy_cond rfl (fun hc1 => ?_) (fun hc1 => ?_)
 try simp only [decide_eq_true_eq, decide_eq_false_iff_not, Bool.and_eq_true, Bool.or_eq_true, Bool.not_eq_true', Int.not_le, Int.not_lt] at hc1
 refine sy_skip ?_
 refine sy_seq ?_
 refine sy_block ?_
 refine sy_seq ?_
 refine sy_tx' [0] rfl ?_
 refine sp rfl (PE.assign rfl) rfl ?_
 refine sy_block ?_
 refine sy_loop (ι := {x : Nat × ((ms : List Mix) × Fam 31 g.miss c.hs ms) // x.1 ≤ 41 ∧ AllI a b x.1 x.2.1}) (fun x => ⟨[(2, .pointer (some ⟨b2, 0, none⟩)), (3, .pointer (some ⟨b3, 0, none⟩)), (5, .slice (some ⟨b13, 0, none⟩) 64 64), (6, .int .i64 a), (7, .int .i64 b), (8, .int .i64 x.1.1)], (b13, cel 106 (famF (fun s => (x.1.2.2 s).fs))) :: ((famG (fun s => (x.1.2.2 s).G)) ++ (b3, cel 79 (ctl c (c.sl ah ch))) :: (b2, cel 89 (gtl g sg)) :: H), R⟩) (fun x => 41 - x.1.1) ⟨(0, ⟨ms1, os1⟩), by omega, hI1⟩ ?_ (fun x => ?_)
 exact sy_at (by repeat' first | exact Sub.nil | apply Sub.cons | rfl | (simp [lk]; omega)) (fun _ h => h)
 obtain ⟨⟨d, ⟨ms, os⟩⟩, hd, hI⟩ := x
 dsimp only at hd hI os ⊢
 refine sy_seq ?_
 refine sy_seq ?_
 refine sy_tx' [0, 1, 2, 3, 4, 5] rfl ?_
 refine sp rfl (PE.move rfl) rfl ?_
 refine sp rfl (PE.move rfl) rfl ?_
 refine sp rfl (PE.add rfl rfl (by omega)) rfl ?_
 refine sp rfl (PE.move rfl) rfl ?_
 refine sp rfl (PE.add rfl rfl (by omega)) rfl ?_
 refine sp rfl (PE.leq rfl rfl) rfl ?_
 refine sy_cond rfl (fun hc2 => ?_) (fun hc2 => ?_)
 try simp only [decide_eq_true_eq, decide_eq_false_iff_not, Bool.and_eq_true, Bool.or_eq_true, Bool.not_eq_true', Int.not_le, Int.not_lt] at hc2
 have hsum : a + b + d ≤ 40 := by omega
 have hmx := mixOf_ok hsum
 have hIl := hI.len
 refine sy_skip ?_
 refine sy_seq ?_
 refine sy_block ?_
 refine sy_seq ?_
 refine sy_tx' [0, 1, 2, 3, 4, 5, 6, 7, 8, 9, 10, 11] rfl ?_
 refine sp rfl (PE.move rfl) rfl ?_
 refine sp rfl (PE.move rfl) rfl ?_
 refine sp rfl (PE.move rfl) rfl ?_
 refine sp rfl (PE.move rfl) rfl ?_
 refine sp rfl (PE.sub rfl rfl (by omega)) rfl ?_
 refine sp rfl (PE.move rfl) rfl ?_
 refine sp rfl (PE.sub rfl rfl (by omega)) rfl ?_
 refine sp rfl (PE.move rfl) rfl ?_
 refine sp rfl (PE.sub rfl rfl (by omega)) rfl ?_
 refine sp rfl (PE.buildArr (out := [_, _, _, _]) ar31 zl31 rfl rfl) rfl ?_
 refine alc rfl zl31 rfl (fun b9 => ?_)
 refine sto rfl rfl rfl cn31 rfl rfl rfl rfl ?_
 refine sy_seq ?_
 refine sy_tx' [0, 1] rfl ?_
 refine sp rfl (PE.assign rfl) rfl ?_
 refine sp rfl (PE.assign rfl) rfl ?_
 refine sy_seq ?_
 refine sy_seq ?_
 refine sy_tx' [0] rfl ?_
 refine sp rfl (PE.assign rfl) rfl ?_
 refine sy_block ?_
 refine sy_loop (ι := {i : Nat // i ≤ c.hs.length}) (fun i => ⟨[(2, .pointer (some ⟨b2, 0, none⟩)), (3, .pointer (some ⟨b3, 0, none⟩)), (5, .slice (some ⟨b13, 0, none⟩) 64 64), (6, .int .i64 a), (7, .int .i64 b), (8, .int .i64 d), (9, .pointer (some ⟨b9, 0, none⟩)), (10, .int .i64 (missN g.miss c.hs (mixOf a b d) i.1 : Nat)), (11, .int .i64 ((2 ^ i.1 : Nat) : Int)), (12, .int .i64 i.1)], (b9, cel 31 (ints (mixOf a b d))) :: (b13, cel 106 (famF (fun s => (os s).fs))) :: ((famG (fun s => (os s).G)) ++ (b3, cel 79 (ctl c (c.sl ah ch))) :: (b2, cel 89 (gtl g sg)) :: H), R⟩) (fun i => c.hs.length - i.1) ⟨0, by omega⟩ ?_ (fun i => ?_)
 exact sy_at (by repeat' first | exact Sub.nil | apply Sub.cons | rfl | (simp [lk]; omega)) (fun _ h => h)
 obtain ⟨i, hi⟩ := i
 dsimp only at hi ⊢
 have hml := missN_lt g.miss c.hs (mixOf a b d) i
 have h2p : 2 ^ i ≤ 2 ^ 6 := Nat.pow_le_pow_right (by decide) (by omega)
 have hps : 2 ^ (i + 1) = 2 ^ i + 2 ^ i := by rw [Nat.pow_succ]; omega
 refine sy_seq ?_
 refine sy_seq ?_
 refine sy_tx' [0, 1, 2, 3, 4] rfl ?_
 refine sp rfl (PE.move rfl) rfl ?_
 refine sp rfl (PE.fieldAddr fo79_2 rfl) rfl ?_
 refine spL rfl rfl (lh sc77 rfl rfl) rfl ?_
 refine sp rfl (PE.lenSl isl77 rfl) rfl ?_
 refine sp rfl (PE.lss rfl rfl) rfl ?_
 refine sy_cond rfl (fun hc3 => ?_) (fun hc3 => ?_)
 try simp only [decide_eq_true_eq, decide_eq_false_iff_not, Bool.and_eq_true, Bool.or_eq_true, Bool.not_eq_true', Int.not_le, Int.not_lt] at hc3
 obtain ⟨x, hx⟩ : ∃ x, c.hs[i]? = some x := ⟨_, List.getElem?_eq_getElem (by omega)⟩
 refine sy_addr (a := ah) (sz := 5) (rows := hrows c.hs) (by intro h0; simp [hrows] at h0; simp [h0] at hx) (fun ba oa hea => ?_)
 subst hea
 refine sy_skip ?_
 refine sy_seq ?_
 refine sy_block ?_
 refine sy_seq ?_
 refine sy_seq ?_
 refine sy_draw [0, 0, 2, 0, 14, 30, 0, 127, 255] (.ld 0 (.tk 1 (.ld 2 (.tk 3 (.tk 4 (.ld 5 (.ld 6 (.big 7 (.tk 8 .done))))))))) mixed (by kernel_rfl) ?_
 refine ld rfl rfl (lhA [_, _, _] ag89 rfl rfl rfl) rfl ?_
 refine tk rfl (PE.fieldAddr fo79_2 rfl) rfl ?_
 refine ld rfl rfl (lh sc77 rfl rfl) rfl ?_
 refine tk rfl (PE.move rfl) rfl ?_
 refine tk rfl (PE.indexAddr el77 rfl rfl (by omega) (by omega)) rfl ?_
 refine ld rfl rfl (lfA ag83 (row := hrow x) (hr_get (by simpa using hx)) rfl) rfl ?_
 refine ld rfl rfl (lhA (ints (mixOf a b d)) ag31 rfl (rest := []) (by rw [List.append_nil]; rfl) (by rw [ints_length]; exact rfl)) rfl ?_
 refine clV rfl cal97 rfl rfl (c_rFit g hg sg x (hc.hs x (List.mem_of_getElem? hx)) (mixOf a b d) hmx _ _) ?_
 refine bg (fun w hs => ⟨trivial, trivial, trivial, trivial, trivial⟩) ?_
 refine tk rfl (PE.not rfl) rfl ?_
 refine sy_cond rfl (fun hc4 => ?_) (fun hc4 => ?_)
 have hf0 : fitB g.miss x (mixOf a b d) = false := by simpa using hc4
 have hst : missN g.miss c.hs (mixOf a b d) (i + 1) = missN g.miss c.hs (mixOf a b d) i + 2 ^ i := by rw [missN, hx]; simp only [hf0, cond_false]
 refine sy_tx' [0, 1, 2, 3] rfl ?_
 refine sp rfl (PE.move rfl) rfl ?_
 refine sp rfl (PE.move rfl) rfl ?_
 refine sp rfl (PE.add rfl rfl (by omega)) rfl ?_
 refine sp rfl (PE.assign rfl) rfl ?_
 refine sy_tx' [0, 1, 2] rfl ?_
 refine sp rfl (PE.move rfl) rfl ?_
 refine sp rfl (PE.mul rfl rfl (by omega)) rfl ?_
 refine sp rfl (PE.assign rfl) rfl ?_
 refine sy_tx' [0, 1, 2] rfl ?_
 refine sp rfl (PE.move rfl) rfl ?_
 refine sp rfl (PE.add rfl rfl (by omega)) rfl ?_
 refine sp rfl (PE.assign rfl) rfl ?_
 exact sy_next ⟨i + 1, by omega⟩ (by dsimp only; omega) (by dsimp only; rw [hst, show ((2 ^ (i + 1) : Nat) : Int) = 2 * ((2 ^ i : Nat) : Int) from by rw [hps]; omega]; exact (by repeat' first | exact Sub.nil | apply Sub.cons | rfl | (simp [lk]; omega))) (fun _ h => h)
 have hf0 : fitB g.miss x (mixOf a b d) = true := by simpa using hc4
 have hst : missN g.miss c.hs (mixOf a b d) (i + 1) = missN g.miss c.hs (mixOf a b d) i := by rw [missN, hx]; simp only [hf0, cond_true, Nat.add_zero]
 refine sy_skip ?_
 refine sy_tx' [0, 1, 2] rfl ?_
 refine sp rfl (PE.move rfl) rfl ?_
 refine sp rfl (PE.mul rfl rfl (by omega)) rfl ?_
 refine sp rfl (PE.assign rfl) rfl ?_
 refine sy_tx' [0, 1, 2] rfl ?_
 refine sp rfl (PE.move rfl) rfl ?_
 refine sp rfl (PE.add rfl rfl (by omega)) rfl ?_
 refine sp rfl (PE.assign rfl) rfl ?_
 exact sy_next ⟨i + 1, by omega⟩ (by dsimp only; omega) (by dsimp only; rw [hst, show ((2 ^ (i + 1) : Nat) : Int) = 2 * ((2 ^ i : Nat) : Int) from by rw [hps]; omega]; exact (by repeat' first | exact Sub.nil | apply Sub.cons | rfl | (simp [lk]; omega))) (fun _ h => h)
 try simp only [decide_eq_true_eq, decide_eq_false_iff_not, Bool.and_eq_true, Bool.or_eq_true, Bool.not_eq_true', Int.not_le, Int.not_lt] at hc3
 obtain rfl : i = c.hs.length := by omega
 obtain ⟨s, hs⟩ : ∃ s, s = missQ g.miss c.hs (mixOf a b d) := ⟨_, rfl⟩
 have hs64 : s < 64 := by rw [hs]; exact missQ_lt hmany
 rw [show missN g.miss c.hs (mixOf a b d) c.hs.length = s from hs.symm]
 refine sy_exit ?_
 repeat refine sy_tx ?_
 refine sy_bx ?_
 refine sy_draw [0, 0, 0, 0, 12, 28, 0, 64, 252, 511, 1023] (.tk 0 (.tk 1 (.tk 2 (.tk 3 (.tk 4 (.ld 5 (.ld 6 (.big 7 (.big 8 (.tk 9 (.big 10 .done))))))))))) mixed (by kernel_rfl) ?_
 refine tk rfl (PE.move rfl) rfl ?_
 refine tk rfl (PE.move rfl) rfl ?_
 refine tk rfl (PE.move rfl) rfl ?_
 refine tk rfl (PE.move rfl) rfl ?_
 refine tk rfl (PE.indexAddr el107 rfl rfl (by omega) (by omega)) rfl ?_
 refine ld rfl rfl (lh sc106 rfl (famF_get (fun s => (os s).fs) hs64)) rfl ?_
 refine ld rfl rfl (lhA (ints (mixOf a b d)) ag31 rfl (rest := []) (by rw [List.append_nil]; rfl) (by rw [ints_length]; exact rfl)) rfl ?_
 refine bsl (out := [_, _, _, _]) rfl sl106 zl31 rfl rfl rfl rfl rfl rfl (fun b70 => ?_)
 refine bg (fun w hs => ⟨trivial, (lh sc106 rfl (famF_get (fun s => (os s).fs) hs64)) w hs, trivial⟩) ?_
 obtain ⟨A, B, e1, e2⟩ := famG_split (fun s => (os s).G) hs64
 rw [e1]
 refine Sy.heap (H' := (b70, cel 31 (ints (mixOf a b d))) :: (b9, cel 31 (ints (mixOf a b d))) :: (b13, cel 106 (famF (fun s => (os s).fs))) :: (A ++ ((os s).G ++ (B ++ (b3, cel 79 (ctl c (c.sl ah ch))) :: (b2, cel 89 (gtl g sg)) :: H)))) (fun w h => by have h9 := h; simp only [List.append_assoc] at h9; exact h9) ?_
 have hpl : (partS g.miss c.hs ms s).length ≤ ms.length := List.length_filter_le _ _
 refine apO (os s) rfl ap106 rfl rfl (rowsH (row := ints (mixOf a b d)) rfl) rfl rfl ((by simp only [mrows, List.length_map, List.length_singleton]; omega)) rfl (fun o71 => ?_)
 refine bg (fun w hs => ⟨trivial, trivial⟩) ?_
 refine tk rfl (PE.indexAddr el107 rfl rfl (by omega) (by omega)) rfl ?_
 subst hs
 obtain ⟨hq1, hq2⟩ := famAdd_hit os (mixOf a b d) o71
 have hq3 := e2 (fun q => (famAdd os (mixOf a b d) o71 q).G) (fun q hq => (famAdd_miss os (mixOf a b d) o71 hq).1)
 rw [hq1] at hq3
 refine stoE (l' := famF (fun q => (famAdd os (mixOf a b d) o71 q).fs)) rfl rfl rfl cn106 rfl (by rw [o71.cells.1]; first | done | rfl) (by rw [o71.cells.1]; simp [o71.cells.2]) (by rw [o71.cells.1, ← hq2]; exact famF_set (fun q => (os q).fs) (fun q => (famAdd os (mixOf a b d) o71 q).fs) hs64 (fun q hq => (famAdd_miss os (mixOf a b d) o71 hq).2)) (by rw [o71.cells.1]; simp [famF]; omega) ?_
 refine bg (fun w hs => trivial) ?_
 refine sy_tx' [0, 1, 2] rfl ?_
 refine sp rfl (PE.move rfl) rfl ?_
 refine sp rfl (PE.add rfl rfl (by omega)) rfl ?_
 refine sp rfl (PE.assign rfl) rfl ?_
 exact sy_next ⟨(d + 1, ⟨ms ++ [mixOf a b d], famAdd os (mixOf a b d) o71⟩), by dsimp only; omega, hI.more hsum⟩ (by dsimp only; omega) (by repeat' first | exact Sub.nil | apply Sub.cons | rfl | (simp [lk]; omega)) (fun w h => by
   dsimp only
   rw [hq3]
   have h9 := (h.del b70).del b9
   simp only [List.append_assoc] at h9 ⊢
   exact h9)
 try simp only [decide_eq_true_eq, decide_eq_false_iff_not, Bool.and_eq_true, Bool.or_eq_true, Bool.not_eq_true', Int.not_le, Int.not_lt] at hc2
 refine sy_exit ?_
 repeat refine sy_tx ?_
 refine sy_bx ?_
 refine sy_tx' [0, 1, 2] rfl ?_
 refine sp rfl (PE.move rfl) rfl ?_
 refine sp rfl (PE.add rfl rfl (by omega)) rfl ?_
 refine sp rfl (PE.assign rfl) rfl ?_
 exact sy_next ⟨(b + 1, ⟨ms, os⟩), by dsimp only; omega, hI.next (by omega) hd⟩ (by dsimp only; omega) (by repeat' first | exact Sub.nil | apply Sub.cons | rfl | (simp [lk]; omega)) (fun _ h => h)
 try simp only [decide_eq_true_eq, decide_eq_false_iff_not, Bool.and_eq_true, Bool.or_eq_true, Bool.not_eq_true', Int.not_le, Int.not_lt] at hc1
 refine sy_exit ?_
 repeat refine sy_tx ?_
 refine sy_bx ?_
 refine sy_tx' [0, 1, 2] rfl ?_
 refine sp rfl (PE.move rfl) rfl ?_
 refine sp rfl (PE.add rfl rfl (by omega)) rfl ?_
 refine sp rfl (PE.assign rfl) rfl ?_
 exact sy_next ⟨(a + 1, ⟨ms1, os1⟩), by dsimp only; omega, hI1.down (by omega) hb⟩ (by dsimp only; omega) (by repeat' first | exact Sub.nil | apply Sub.cons | rfl | (simp [lk]; omega)) (fun _ h => h)
 try simp only [decide_eq_true_eq, decide_eq_false_iff_not, Bool.and_eq_true, Bool.or_eq_true, Bool.not_eq_true', Int.not_le, Int.not_lt] at hc0
 obtain rfl : a = 41 := by omega
 refine sy_exit ?_
 repeat refine sy_tx ?_
 refine sy_bx ?_
 refine sy_seq ?_
 refine sy_tx' [0, 1] rfl ?_
 refine sp rfl (PE.move rfl) rfl ?_
 refine sp rfl (PE.assign rfl) rfl ?_
 refine sy_ret ?_
 have hdone := hI0.done
 refine Sy.heap (fun w h => St.rows (sz := 1) (rows := (List.range 64).map fun s => [(os0 s).fs]) (rest := []) (by rw [List.append_nil, show ((List.range 64).map fun s => [(os0 s).fs]).flatten = famF (fun s => (os0 s).fs) from flat_single _ _]; exact h) (by intro r hr; obtain ⟨s, _, rfl⟩ := List.mem_map.1 hr; rfl)) ?_
 refine Sy.heap (fun w h => fam_freeze os0 h) ?_
 exact sy_return (vs := [_]) rfl (.cons (RV.tmp rfl) .nil) rfl ⟨ms0, b13, fun s => fsA (os0 s).fs, fun s => fsC (os0 s).fs, hdone, by have := hI0.len; omega, rfl, rfl, by
   have e9 : ((List.range 64).map fun s => [(os0 s).fs]) = ((List.range 64).map fun s => [Value.slice (fsA (os0 s).fs) (partS g.miss c.hs ms0 s).length (fsC (os0 s).fs)]) := List.map_congr_left fun s _ => by
     have := (os0 s).form.1
     rw [List.length_map] at this
     rw [← this]
   rw [e9]⟩ (fun w h => (h.del b3).del b2)
end Go.Proofs.YtndhkpnaeocnhaaGreat
namespace Go.Proofs.YtndhkpnaeocnhaaGreat
set_option linter.unusedSimpArgs false
set_option linter.unusedVariables false
open Go
theorem ap158 : apT Tryz.prog 158 = some (4, 1, 1) := by kernel_rfl
theorem cn4 : cellN Tryz.prog 4 = some 1 := by kernel_rfl
theorem el106 : elN Tryz.prog 106 = some 4 := by kernel_rfl
theorem el158 : elN Tryz.prog 158 = some 1 := by kernel_rfl
theorem isl106 : isSl Tryz.prog 106 = true := by kernel_rfl
theorem sc4 : scal Tryz.prog 4 = true := by kernel_rfl
theorem zl4 : zeroL Tryz.prog 4 = some ([.bool false]) := by kernel_rfl
def loN (ms : List Mix) (k i : Nat) : Int := (ms.take i).foldl (fun a m => min a (nn m k)) (nn (ms.headD []) k)
def hiN (ms : List Mix) (k i : Nat) : Int := (ms.take i).foldl (fun a m => max a (nn m k)) (nn (ms.headD []) k)
def bndN (ms : List Mix) : Nat → Box
  | 0 => [0, 0, 0, 0, 0, 0, 0, 0]
  | k + 1 => bset (bndN ms k) k (loN ms k ms.length, hiN ms k ms.length)
theorem bndN_len (ms : List Mix) : ∀ k, (bndN ms k).length = 8
  | 0 => rfl
  | k + 1 => by unfold bndN; rw [bset_len]; exact bndN_len ms k
theorem bndN_at (ms : List Mix) : ∀ k, k ≤ 4 → ∀ j < k, bl (bndN ms k) j = loN ms j ms.length ∧ bh (bndN ms k) j = hiN ms j ms.length
  | 0, _, j, hj => by omega
  | k + 1, hk, j, hj => by
    unfold bndN
    have h1 := bset_at (bndN_len ms k) (show k < 4 by omega) (show j < 4 by omega) (loN ms k ms.length, hiN ms k ms.length)
    by_cases e : k = j
    · subst e; simpa using h1
    · have e1 : (k == j) = false := by simpa using e
      rw [e1] at h1
      have h2 := bndN_at ms k (by omega) j (by omega)
      rw [h1.1, h1.2]; exact h2
theorem loN_step {ms : List Mix} {k i : Nat} {m : Mix} (h : ms[i]? = some m) : loN ms k (i + 1) = min (loN ms k i) (nn m k) ∧ hiN ms k (i + 1) = max (hiN ms k i) (nn m k) := by
  unfold loN hiN
  rw [List.take_add_one, h, List.foldl_append, List.foldl_append]; exact ⟨rfl, rfl⟩
theorem foldmin {α : Type} (f : α → Int) : ∀ (l : List α) (a : Int), l.foldl (fun x m => min x (f m)) a ≤ a ∧ (∀ m ∈ l, l.foldl (fun x m => min x (f m)) a ≤ f m) ∧ (l.foldl (fun x m => min x (f m)) a = a ∨ ∃ m ∈ l, l.foldl (fun x m => min x (f m)) a = f m)
  | [], a => by simp
  | y :: l, a => by
    obtain ⟨a1, a2, a3⟩ := foldmin f l (min a (f y))
    simp only [List.foldl_cons]
    refine ⟨by omega, fun m hm => ?_, ?_⟩
    · rcases List.mem_cons.1 hm with rfl | hm
      · clear a3; omega
      · exact a2 m hm
    · rcases a3 with h | ⟨m, hm, h⟩
      · rcases Int.le_total a (f y) with h1 | h1
        · left; omega
        · right; exact ⟨y, by simp, by omega⟩
      · right; exact ⟨m, by simp [hm], h⟩
theorem foldmax {α : Type} (f : α → Int) : ∀ (l : List α) (a : Int), a ≤ l.foldl (fun x m => max x (f m)) a ∧ (∀ m ∈ l, f m ≤ l.foldl (fun x m => max x (f m)) a) ∧ (l.foldl (fun x m => max x (f m)) a = a ∨ ∃ m ∈ l, l.foldl (fun x m => max x (f m)) a = f m)
  | [], a => by simp
  | y :: l, a => by
    obtain ⟨a1, a2, a3⟩ := foldmax f l (max a (f y))
    simp only [List.foldl_cons]
    refine ⟨by omega, fun m hm => ?_, ?_⟩
    · rcases List.mem_cons.1 hm with rfl | hm
      · clear a3; omega
      · exact a2 m hm
    · rcases a3 with h | ⟨m, hm, h⟩
      · rcases Int.le_total a (f y) with h1 | h1
        · right; exact ⟨y, by simp, by omega⟩
        · left; omega
      · right; exact ⟨m, by simp [hm], h⟩
theorem bnd_ref {b : Box} (hb : Tight b) {ms : List Mix} (h : ∀ m, m ∈ ms ↔ Mx b m) (h0 : 0 < ms.length) : bndN ms 4 = b := by
  obtain ⟨m0, t, rfl⟩ : ∃ m0 t, ms = m0 :: t := by cases ms with
    | nil => simp at h0
    | cons a c => exact ⟨a, c, rfl⟩
  have hm0 := (h m0).1 (by simp)
  refine box_ext (bndN_len _ _) hb.ok.len fun k hk => ?_
  obtain ⟨e1, e2⟩ := bndN_at (m0 :: t) 4 (Nat.le_refl _) k hk
  rw [e1, e2]
  obtain ⟨a1, a2, a3⟩ := foldmin (fun m : Mix => nn m k) (m0 :: t) (nn m0 k)
  obtain ⟨b1, b2, b3⟩ := foldmax (fun m : Mix => nn m k) (m0 :: t) (nn m0 k)
  have e3 : loN (m0 :: t) k (m0 :: t).length = (m0 :: t).foldl (fun x m => min x (nn m k)) (nn m0 k) := by unfold loN; rw [List.take_length]; rfl
  have e4 : hiN (m0 :: t) k (m0 :: t).length = (m0 :: t).foldl (fun x m => max x (nn m k)) (nn m0 k) := by unfold hiN; rw [List.take_length]; rfl
  rw [e3, e4]
  have hf := hb.fit k hk
  obtain ⟨q1, p1, p2⟩ := hb.had hk (v := bl b k) ⟨Int.le_refl _, hf.1⟩
  obtain ⟨q2, p3, p4⟩ := hb.had hk (v := bh b k) ⟨hf.1, Int.le_refl _⟩
  have c1 : (m0 :: t).foldl (fun x m => min x (nn m k)) (nn m0 k) ≤ nn q1 k := a2 q1 ((h q1).2 p1)
  have c2 : nn q2 k ≤ (m0 :: t).foldl (fun x m => max x (nn m k)) (nn m0 k) := b2 q2 ((h q2).2 p3)
  have c0 := hm0.at_ k hk
  replace a3 : (m0 :: t).foldl (fun x m => min x (nn m k)) (nn m0 k) = nn m0 k ∨ ∃ m ∈ m0 :: t, (m0 :: t).foldl (fun x m => min x (nn m k)) (nn m0 k) = nn m k := a3
  replace b3 : (m0 :: t).foldl (fun x m => max x (nn m k)) (nn m0 k) = nn m0 k ∨ ∃ m ∈ m0 :: t, (m0 :: t).foldl (fun x m => max x (nn m k)) (nn m0 k) = nn m k := b3
  clear a1 a2 b1 b2 e3 e4 e1 e2
  constructor
  · rcases a3 with h1 | ⟨m, hm, h1⟩
    · omega
    · have := ((h m).1 hm).at_ k hk; omega
  · rcases b3 with h1 | ⟨m, hm, h1⟩
    · omega
    · have := ((h m).1 hm).at_ k hk; omega
theorem bs_lo {b : Box} (hb : b.length = 8) {k : Nat} (hk : k < 4) (s : Int × Int) : (ints (bset b k s))[0 + ((k : Nat) : Int).toNat * 2 + 0]? = some (.int .i64 s.1) := by
  obtain ⟨a0, a1, a2, a3, a4, a5, a6, a7, rfl⟩ := list8 hb
  rcases lt4 hk with rfl | rfl | rfl | rfl <;> rfl
theorem bs_hi {b : Box} (hb : b.length = 8) {k : Nat} (hk : k < 4) (s : Int × Int) : (ints (bset b k s))[0 + ((k : Nat) : Int).toNat * 2 + 1]? = some (.int .i64 s.2) := by
  obtain ⟨a0, a1, a2, a3, a4, a5, a6, a7, rfl⟩ := list8 hb
  rcases lt4 hk with rfl | rfl | rfl | rfl <;> rfl
theorem spl_lo {b : Box} (hb : b.length = 8) {k : Nat} (hk : k < 4) (s : Int × Int) (v : Int) : spl (ints (bset b k s)) (0 + ((k : Nat) : Int).toNat * 2 + 0) [.int .i64 v] = ints (bset b k (v, s.2)) := by
  obtain ⟨a0, a1, a2, a3, a4, a5, a6, a7, rfl⟩ := list8 hb
  rcases lt4 hk with rfl | rfl | rfl | rfl <;> rfl
theorem spl_hi {b : Box} (hb : b.length = 8) {k : Nat} (hk : k < 4) (s : Int × Int) (v : Int) : spl (ints (bset b k s)) (0 + ((k : Nat) : Int).toNat * 2 + 1) [.int .i64 v] = ints (bset b k (s.1, v)) := by
  obtain ⟨a0, a1, a2, a3, a4, a5, a6, a7, rfl⟩ := list8 hb
  rcases lt4 hk with rfl | rfl | rfl | rfl <;> rfl
theorem mr_get {ms : List Mix} {i : Nat} {m : Mix} (h : ms[i]? = some m) : (mrows ms)[((i : Nat) : Int).toNat]? = some (ints m) := by simp [mrows, h]
theorem mr_get0 {ms : List Mix} {m : Mix} (h : ms[0]? = some m) : (mrows ms)[(0 : Int).toNat]? = some (ints m) := by simp [mrows, h]
theorem mx_at0 {m : List Int} (hm : m.length = 4) {k : Nat} (hk : k < 4) : (ints m)[((k : Nat) : Int).toNat * 1]? = some (.int .i64 (nn m k)) := by
  have := mix_at hm hk
  rwa [Nat.zero_add] at this
theorem rng_set {n : Nat} (F F' : Nat → Value) {s : Nat} (hs : s < n) (h : ∀ q, q ≠ s → F' q = F q) : spl ((List.range n).map F) (0 + ((s : Nat) : Int).toNat * 1) [F' s] = (List.range n).map F' := by
  rw [show 0 + ((s : Nat) : Int).toNat * 1 = s by omega]
  have hl : s < ((List.range n).map F).length := by simp [hs]
  have e1 : spl ((List.range n).map F) s [F' s] = ((List.range n).map F).set s (F' s) := by
    unfold spl
    rw [List.set_eq_take_append_cons_drop, if_pos hl]; simp
  rw [e1]
  apply List.ext_getElem?
  intro q
  rw [List.getElem?_set]
  by_cases hq : s = q
  · subst hq; rw [if_pos rfl, if_pos hl]; simp [hs]
  · rw [if_neg hq, List.getElem?_map, List.getElem?_map]
    by_cases hq2 : q < n
    · rw [List.getElem?_range hq2]; simp [h q (fun e => hq e.symm)]
    · rw [List.getElem?_eq_none (by simp; omega)]; rfl
def hadF (l : List Grd) (ms : List Mix) (j : Nat) : Bool := ms.any fun m => decide (hasG l m + 1 = (j : Int))
def hadV (l : List Grd) (ms : List Mix) (j : Nat) : Value := .bool (hadF l ms j)
theorem hadF_step {l : List Grd} {ms : List Mix} {i j : Nat} {m : Mix} (h : ms[i]? = some m) : hadF l (ms.take (i + 1)) j = (hadF l (ms.take i) j || decide (hasG l m + 1 = (j : Int))) := by
  unfold hadF; rw [List.take_add_one, h, List.any_append]; simp
def canP (l : List Grd) (ms : List Mix) (i : Nat) : List Int := ((List.range i).filter fun j => hadF l ms (j + 1)).map fun (j : Nat) => (j : Int)
def canF (l : List Grd) (ms : List Mix) : List Int := canP l ms l.length ++ bif hadF l ms 0 then [-1] else []
theorem canP_step (l : List Grd) (ms : List Mix) (i : Nat) : canP l ms (i + 1) = canP l ms i ++ bif hadF l ms (i + 1) then [(i : Int)] else [] := by
  unfold canP
  rw [List.range_succ, List.filter_append, List.map_append]
  cases h : hadF l ms (i + 1) <;> simp [h]
theorem had_iff {l : List Grd} {ms : List Mix} {j : Nat} : hadF l ms j = true ↔ ∃ m ∈ ms, hasG l m = (j : Int) - 1 := by
  unfold hadF
  rw [List.any_eq_true]
  constructor
  · rintro ⟨m, h1, h2⟩; exact ⟨m, h1, by have := of_decide_eq_true h2; omega⟩
  · rintro ⟨m, h1, h2⟩; exact ⟨m, h1, decide_eq_true (by omega)⟩
theorem can_ref {l : List Grd} {b : Box} (hb : Bok b) {ms : List Mix} (h : ∀ m, m ∈ ms ↔ Mx b m) : canF l ms = canG l b := by
  have h1 : ∀ gr : Int, (gr = -1 ∨ ∃ i x, l[i]? = some x ∧ gr = (i : Nat)) → ((shwB l b gr).isSome = true ↔ ∃ m ∈ ms, hasG l m = gr) := fun gr hg => by
    obtain ⟨h2, h3⟩ := shw_ok hb hg
    cases hs : shwB l b gr with
    | none => exact ⟨fun h => (by cases h), fun ⟨m, h4, h5⟩ => absurd h5 (h3 hs m ((h m).1 h4))⟩
    | some c => exact ⟨fun _ => ⟨mixt c, (h _).2 (h2 c hs).1, (h2 c hs).2.1⟩, fun _ => rfl⟩
  unfold canF canG canP
  have e0 : hadF l ms 0 = (shwB l b (-1)).isSome := by
    rw [Bool.eq_iff_iff, had_iff, h1 (-1) (.inl rfl)]; simp
  rw [e0]
  congr 2
  apply List.filter_congr
  intro j hj
  have hj := List.mem_range.1 hj
  rw [Bool.eq_iff_iff, had_iff, h1 (j : Nat) (.inr ⟨j, _, List.getElem?_eq_getElem hj, rfl⟩)]
  simp
theorem pay_ref {l : List Grd} {s : List Int} (h0 : 1 ≤ s.length) (hp : ∀ gr, prc l gr ≤ 100) : s.foldl (fun m gr => min m (prc l gr)) 101 = leastP l s := by
  obtain ⟨x, t, rfl⟩ : ∃ x t, s = x :: t := by cases s with
    | nil => simp at h0
    | cons a c => exact ⟨a, c, rfl⟩
  unfold leastP
  have := hp x
  rw [List.foldl_cons, List.foldl_cons, show min 101 (prc l x) = prc l x by omega, show min 100 (prc l x) = prc l x by omega]
theorem fold101 {g : Gat} (hg : g.ok) : ∀ (s : List Int) (a : Int), 0 ≤ a ∧ a ≤ 101 → 0 ≤ s.foldl (fun m gr => min m (prc g.grs gr)) a ∧ s.foldl (fun m gr => min m (prc g.grs gr)) a ≤ 101
  | [], a, h => h
  | x :: s, a, h => by
    have := prc_bd hg x
    rw [List.foldl_cons]
    exact fold101 hg s _ (by omega)
theorem c_rBounds (ms : List Mix) (hms : ∀ m ∈ ms, Mxt m) (h0 : 0 < ms.length) (hl : ms.length ≤ 100000) (al : Option Addr) (cy : Nat) (H : Heap) (R : Facts) [hA : MemRows al 4 (mrows ms) R] :
    FnV Tryz.prog 58 [.slice al ms.length cy] H R (bxv (bndN ms 4)) := by
 refine fn_of Tryz.func58 rfl Tryz.ntmps58 rfl ?_
 refine sy_seq ?_
 refine sy_tx' [0] rfl ?_
 refine alc rfl zl64 rfl (fun b2 => ?_)
 refine sy_seq ?_
 refine sy_tx' [0] rfl ?_
 refine alc rfl zl64 rfl (fun b3 => ?_)
 refine sy_seq ?_
 refine sy_seq ?_
 refine sy_tx' [0] rfl ?_
 refine sp rfl (PE.assign rfl) rfl ?_
 refine sy_block ?_
 refine sy_loop (ι := {k : Nat // k ≤ 4}) (fun k => ⟨[(0, .slice al ms.length cy), (2, .pointer (some ⟨b2, 0, none⟩)), (3, .pointer (some ⟨b3, 0, none⟩)), (4, .int .i64 k.1)], (b3, cel 64 (ints (bndN ms k.1))) :: (b2, cel 64 (ints [0, 0, 0, 0, 0, 0, 0, 0])) :: H, R⟩) (fun k => 4 - k.1) ⟨0, by omega⟩ ?_ (fun k => ?_)
 exact sy_at (by repeat' first | exact Sub.nil | apply Sub.cons | rfl | (simp [lk]; omega)) (fun _ h => h)
 obtain ⟨k, hk⟩ := k
 dsimp only at hk ⊢
 have hbl := bndN_len ms k
 refine sy_seq ?_
 refine sy_seq ?_
 refine sy_tx' [0, 1] rfl ?_
 refine sp rfl (PE.move rfl) rfl ?_
 refine sp rfl (PE.lss rfl rfl) rfl ?_
 refine sy_cond rfl (fun hc0 => ?_) (fun hc0 => ?_)
 try simp only [decide_eq_true_eq, decide_eq_false_iff_not, Bool.and_eq_true, Bool.or_eq_true, Bool.not_eq_true', Int.not_le, Int.not_lt] at hc0
 have hk4 : k < 4 := by omega
 obtain ⟨m0, hm0⟩ : ∃ m, ms[0]? = some m := ⟨_, List.getElem?_eq_getElem h0⟩
 have hmx0 := hms m0 (List.mem_of_getElem? hm0)
 have hhd : nn (ms.headD []) k = nn m0 k := by rw [List.headD_eq_head?_getD, List.head?_eq_getElem?, hm0]; rfl
 refine sy_addr (a := al) (sz := 4) (rows := mrows ms) (by intro h9; have h8 := congrArg List.length h9; simp at h8; rw [h8] at h0; simp at h0) (fun ba oa hea => ?_)
 subst hea
 refine sy_skip ?_
 refine sy_seq ?_
 refine sy_block ?_
 refine sy_seq ?_
 refine sy_draw [0, 0, 0, 2, 14, 30, 0, 0, 64, 448, 960, 2046, 4095, 8191] (.tk 0 (.tk 1 (.tk 2 (.tk 3 (.tk 4 (.ld 5 (.tk 6 (.tk 7 (.tk 8 (.tk 9 (.ld 10 (.tk 11 (.tk 12 (.big 13 .done)))))))))))))) mixed (by kernel_rfl) ?_
 refine tk rfl (PE.move rfl) rfl ?_
 refine tk rfl (PE.move rfl) rfl ?_
 refine tk rfl (PE.move rfl) rfl ?_
 refine tk rfl (PE.indexAddr el106 rfl rfl (by omega) (by omega)) rfl ?_
 refine tk rfl (PE.indexArr ar31 rfl rfl (by omega) (by omega)) rfl ?_
 refine ld rfl rfl (lf (x := .int .i64 (nn m0 k)) sc3 (mr_get0 hm0) (mx_at0 hmx0.len hk4)) rfl ?_
 refine tk rfl (PE.move rfl) rfl ?_
 refine tk rfl (PE.move rfl) rfl ?_
 refine tk rfl (PE.indexAddr el106 rfl rfl (by omega) (by omega)) rfl ?_
 refine tk rfl (PE.indexArr ar31 rfl rfl (by omega) (by omega)) rfl ?_
 refine ld rfl rfl (lf (x := .int .i64 (nn m0 k)) sc3 (mr_get0 hm0) (mx_at0 hmx0.len hk4)) rfl ?_
 refine tk rfl (PE.build (out := [_, _]) pl61 zl61 rfl rfl) rfl ?_
 refine tk rfl (PE.indexArr ar64 rfl rfl (by omega) (by omega)) rfl ?_
 refine stoE (l' := ints (bset (bndN ms k) k (loN ms k 0, hiN ms k 0))) rfl rfl rfl cn61 rfl rfl rfl (by show spl _ _ [.int .i64 (nn m0 k), .int .i64 (nn m0 k)] = _; rw [spl_box hbl hk4]; unfold loN hiN; rw [List.take_zero, ← hhd]; rfl) (by rw [ints_length, hbl]; show 0 + ((k : Nat) : Int).toNat * 2 + 2 ≤ 8; omega) ?_
 refine bg (fun w hs => ⟨trivial, trivial, trivial⟩) ?_
 refine sy_seq ?_
 refine sy_tx' [0] rfl ?_
 refine sp rfl (PE.assign rfl) rfl ?_
 refine sy_block ?_
 refine sy_loop (ι := {i : Nat // i ≤ ms.length}) (fun i => ⟨[(0, .slice (some ⟨ba, oa, none⟩) ms.length cy), (2, .pointer (some ⟨b2, 0, none⟩)), (3, .pointer (some ⟨b3, 0, none⟩)), (4, .int .i64 k), (5, .int .i64 i.1)], (b3, cel 64 (ints (bset (bndN ms k) k (loN ms k i.1, hiN ms k i.1)))) :: (b2, cel 64 (ints [0, 0, 0, 0, 0, 0, 0, 0])) :: H, R⟩) (fun i => ms.length - i.1) ⟨0, by omega⟩ ?_ (fun i => ?_)
 exact sy_at (by repeat' first | exact Sub.nil | apply Sub.cons | rfl | (simp [lk]; omega)) (fun _ h => h)
 obtain ⟨i, hi⟩ := i
 dsimp only at hi ⊢
 refine sy_seq ?_
 refine sy_seq ?_
 refine sy_tx' [0, 1, 2, 3] rfl ?_
 refine sp rfl (PE.move rfl) rfl ?_
 refine sp rfl (PE.move rfl) rfl ?_
 refine sp rfl (PE.lenSl isl106 rfl) rfl ?_
 refine sp rfl (PE.lss rfl rfl) rfl ?_
 refine sy_cond rfl (fun hc1 => ?_) (fun hc1 => ?_)
 try simp only [decide_eq_true_eq, decide_eq_false_iff_not, Bool.and_eq_true, Bool.or_eq_true, Bool.not_eq_true', Int.not_le, Int.not_lt] at hc1
 obtain ⟨m, hm⟩ : ∃ m, ms[i]? = some m := ⟨_, List.getElem?_eq_getElem (by omega)⟩
 have hmx := hms m (List.mem_of_getElem? hm)
 obtain ⟨st1, st2⟩ := loN_step (k := k) hm
 refine sy_skip ?_
 refine sy_seq ?_
 refine sy_block ?_
 refine sy_seq ?_
 refine sy_draw [0, 0, 2, 6, 14, 0, 0, 0, 96, 480, 992, 2046, 4095, 8191, 16383] (.tk 0 (.tk 1 (.tk 2 (.tk 3 (.ld 4 (.tk 5 (.tk 6 (.tk 7 (.tk 8 (.tk 9 (.ld 10 (.tk 11 (.tk 12 (.tk 13 (.big 14 .done))))))))))))))) mixed (by kernel_rfl) ?_
 refine tk rfl (PE.move rfl) rfl ?_
 refine tk rfl (PE.move rfl) rfl ?_
 refine tk rfl (PE.indexArr ar64 rfl rfl (by omega) (by omega)) rfl ?_
 refine tk rfl (PE.fieldAddr fo61_0 rfl) rfl ?_
 refine ld rfl rfl (lh sc3 rfl (bs_lo hbl hk4 _)) rfl ?_
 refine tk rfl (PE.move rfl) rfl ?_
 refine tk rfl (PE.move rfl) rfl ?_
 refine tk rfl (PE.move rfl) rfl ?_
 refine tk rfl (PE.indexAddr el106 rfl rfl (by omega) (by omega)) rfl ?_
 refine tk rfl (PE.indexArr ar31 rfl rfl (by omega) (by omega)) rfl ?_
 refine ld rfl rfl (lf (x := .int .i64 (nn m k)) sc3 (mr_get hm) (mx_at0 hmx.len hk4)) rfl ?_
 refine tk rfl (PE.min rfl rfl) rfl ?_
 refine tk rfl (PE.indexArr ar64 rfl rfl (by omega) (by omega)) rfl ?_
 refine tk rfl (PE.fieldAddr fo61_0 rfl) rfl ?_
 refine stoE (l' := ints (bset (bndN ms k) k (loN ms k (i + 1), hiN ms k i))) rfl rfl rfl cn3 rfl rfl rfl (by rw [st1]; exact spl_lo hbl hk4 _ _) (by rw [ints_length, bset_len, hbl]; show 0 + ((k : Nat) : Int).toNat * 2 + 0 + 1 ≤ 8; omega) ?_
 refine bg (fun w hs => ⟨trivial, trivial, trivial⟩) ?_
 refine sy_draw [0, 0, 2, 6, 14, 0, 0, 0, 96, 480, 992, 2046, 4095, 8191, 16383] (.tk 0 (.tk 1 (.tk 2 (.tk 3 (.ld 4 (.tk 5 (.tk 6 (.tk 7 (.tk 8 (.tk 9 (.ld 10 (.tk 11 (.tk 12 (.tk 13 (.big 14 .done))))))))))))))) mixed (by kernel_rfl) ?_
 refine tk rfl (PE.move rfl) rfl ?_
 refine tk rfl (PE.move rfl) rfl ?_
 refine tk rfl (PE.indexArr ar64 rfl rfl (by omega) (by omega)) rfl ?_
 refine tk rfl (PE.fieldAddr fo61_1 rfl) rfl ?_
 refine ld rfl rfl (lh sc3 rfl (bs_hi hbl hk4 _)) rfl ?_
 refine tk rfl (PE.move rfl) rfl ?_
 refine tk rfl (PE.move rfl) rfl ?_
 refine tk rfl (PE.move rfl) rfl ?_
 refine tk rfl (PE.indexAddr el106 rfl rfl (by omega) (by omega)) rfl ?_
 refine tk rfl (PE.indexArr ar31 rfl rfl (by omega) (by omega)) rfl ?_
 refine ld rfl rfl (lf (x := .int .i64 (nn m k)) sc3 (mr_get hm) (mx_at0 hmx.len hk4)) rfl ?_
 refine tk rfl (PE.max rfl rfl) rfl ?_
 refine tk rfl (PE.indexArr ar64 rfl rfl (by omega) (by omega)) rfl ?_
 refine tk rfl (PE.fieldAddr fo61_1 rfl) rfl ?_
 refine stoE (l' := ints (bset (bndN ms k) k (loN ms k (i + 1), hiN ms k (i + 1)))) rfl rfl rfl cn3 rfl rfl rfl (by rw [st2]; exact spl_hi hbl hk4 _ _) (by rw [ints_length, bset_len, hbl]; show 0 + ((k : Nat) : Int).toNat * 2 + 1 + 1 ≤ 8; omega) ?_
 refine bg (fun w hs => ⟨trivial, trivial, trivial⟩) ?_
 refine sy_tx' [0, 1, 2] rfl ?_
 refine sp rfl (PE.move rfl) rfl ?_
 refine sp rfl (PE.add rfl rfl (by omega)) rfl ?_
 refine sp rfl (PE.assign rfl) rfl ?_
 exact sy_next ⟨i + 1, by omega⟩ (by dsimp only; omega) (by repeat' first | exact Sub.nil | apply Sub.cons | rfl | (simp [lk]; omega)) (fun _ h => h)
 try simp only [decide_eq_true_eq, decide_eq_false_iff_not, Bool.and_eq_true, Bool.or_eq_true, Bool.not_eq_true', Int.not_le, Int.not_lt] at hc1
 obtain rfl : i = ms.length := by omega
 refine sy_exit ?_
 repeat refine sy_tx ?_
 refine sy_bx ?_
 refine sy_tx' [0, 1, 2] rfl ?_
 refine sp rfl (PE.move rfl) rfl ?_
 refine sp rfl (PE.add rfl rfl (by omega)) rfl ?_
 refine sp rfl (PE.assign rfl) rfl ?_
 exact sy_next ⟨k + 1, by omega⟩ (by dsimp only; omega) (by repeat' first | exact Sub.nil | apply Sub.cons | rfl | (simp [lk]; omega)) (fun _ h => h)
 try simp only [decide_eq_true_eq, decide_eq_false_iff_not, Bool.and_eq_true, Bool.or_eq_true, Bool.not_eq_true', Int.not_le, Int.not_lt] at hc0
 obtain rfl : k = 4 := by omega
 refine sy_exit ?_
 repeat refine sy_tx ?_
 refine sy_bx ?_
 refine sy_seq ?_
 refine sy_tx' [0, 1] rfl ?_
 refine spL rfl rfl (lhA (ints (bndN ms 4)) ag64 rfl (rest := []) (by rw [List.append_nil]; rfl) (by rw [ints_length]; exact hbl)) rfl ?_
 refine stoA rfl rfl rfl cn64 rfl (by rw [ints_length]; exact hbl) rfl (ints_one _) ?_
 refine sy_ret ?_
 exact sy_return (vs := [_]) rfl (.cons (RV.cell rfl (lhA (ints (bndN ms 4)) ag64 rfl (rest := []) (by rw [List.append_nil]; rfl) (by rw [ints_length]; exact hbl))) .nil) rfl ⟨rfl, rfl, rfl⟩ (fun w h => (h.del b3).del b2)
theorem c_rCan (g : Gat) (ag : Option Addr) (cg : Nat) (hlg : g.grs.length ≤ 9223372036854775807) (hg4 : g.grs.length ≤ 4) (ms : List Mix) (hms : ∀ m ∈ ms, Mxt m) (hl : ms.length ≤ 100000) (al : Option Addr) (cy : Nat) (H : Heap) (R : Facts) [hG : MemRows ag 5 (grows g.grs) R] [hA : MemRows al 4 (mrows ms) R] :
    Fn Tryz.prog 68 [g.v (g.sl ag cg), .slice al ms.length cy] H R (fun v H' R' => ∃ a9 c9, v = .slice a9 (canF g.grs ms).length c9 ∧ H' = H ∧ R' = RowsA a9 1 (irows (canF g.grs ms)) :: R) := by
 refine fn_of Tryz.func68 rfl Tryz.ntmps68 rfl ?_
 refine sy_seq ?_
 refine sy_tx' [0, 1] rfl ?_
 refine bx rfl rfl rfl (fun b2 => ?_)
 refine sp rfl (PE.assign rfl) rfl ?_
 refine sy_seq ?_
 refine sy_tx' [0, 1] rfl ?_
 refine mkS rfl ap158 zl4 rfl rfl (Nat.le_refl _) ⟨by decide, by decide⟩ rfl (fun b9 => ?_)
 refine sp rfl (PE.assign rfl) rfl ?_
 refine sy_seq ?_
 refine sy_seq ?_
 refine sy_tx' [0] rfl ?_
 refine sp rfl (PE.assign rfl) rfl ?_
 refine sy_block ?_
 refine sy_loop (ι := {i : Nat // i ≤ ms.length}) (fun i => ⟨[(1, .slice al ms.length cy), (2, .pointer (some ⟨b2, 0, none⟩)), (5, .slice (some ⟨b9, 0, none⟩) 5 5), (6, .int .i64 i.1)], (b9, cel 4 ((List.range 5).map (hadV g.grs (ms.take i.1)))) :: (b2, cel 89 (gtl g (g.sl ag cg))) :: H, R⟩) (fun i => ms.length - i.1) ⟨0, by omega⟩ ?_ (fun i => ?_)
 exact sy_at (by repeat' first | exact Sub.nil | apply Sub.cons | rfl | (simp [lk]; omega)) (fun w h => by dsimp only; rw [List.take_zero]; exact h)
 obtain ⟨i, hi⟩ := i
 dsimp only at hi ⊢
 refine sy_seq ?_
 refine sy_seq ?_
 refine sy_tx' [0, 1, 2, 3] rfl ?_
 refine sp rfl (PE.move rfl) rfl ?_
 refine sp rfl (PE.move rfl) rfl ?_
 refine sp rfl (PE.lenSl isl106 rfl) rfl ?_
 refine sp rfl (PE.lss rfl rfl) rfl ?_
 refine sy_cond rfl (fun hc0 => ?_) (fun hc0 => ?_)
 try simp only [decide_eq_true_eq, decide_eq_false_iff_not, Bool.and_eq_true, Bool.or_eq_true, Bool.not_eq_true', Int.not_le, Int.not_lt] at hc0
 obtain ⟨m, hm⟩ : ∃ m, ms[i]? = some m := ⟨_, List.getElem?_eq_getElem (by omega)⟩
 have hmx := hms m (List.mem_of_getElem? hm)
 have hrg : -1 ≤ hasG g.grs m ∧ hasG g.grs m < g.grs.length := by
   rcases hasG_rg g.grs m with h | ⟨j, x, hx, h⟩
   · omega
   · have := (List.getElem?_eq_some_iff.1 hx).1; omega
 obtain ⟨q, hq⟩ : ∃ q : Nat, hasG g.grs m + 1 = q := ⟨(hasG g.grs m + 1).toNat, by omega⟩
 refine sy_addr (a := al) (sz := 4) (rows := mrows ms) (by intro h9; have h8 := congrArg List.length h9; simp at h8; simp [h8] at hm) (fun ba oa hea => ?_)
 subst hea
 refine sy_skip ?_
 refine sy_seq ?_
 refine sy_block ?_
 refine sy_draw [0, 0, 0, 0, 12, 28, 62, 126, 255, 511] (.tk 0 (.ld 1 (.tk 2 (.tk 3 (.tk 4 (.ld 5 (.big 6 (.tk 7 (.tk 8 (.big 9 .done)))))))))) mixed (by kernel_rfl) ?_
 refine tk rfl (PE.move rfl) rfl ?_
 refine ld rfl rfl (lhA [_, _, _] ag89 rfl rfl rfl) rfl ?_
 refine tk rfl (PE.move rfl) rfl ?_
 refine tk rfl (PE.move rfl) rfl ?_
 refine tk rfl (PE.indexAddr el106 rfl rfl (by omega) (by omega)) rfl ?_
 refine ld rfl rfl (lfA ag31 (row := ints m) (mr_get hm) (by rw [ints_length]; exact hmx.len)) rfl ?_
 refine clV rfl cal53 rfl rfl (c_rHas g ag cg hlg (by omega) m hmx _ _) ?_
 refine bg (fun w hs => ⟨trivial, trivial, trivial⟩) ?_
 refine tk rfl (PE.add rfl rfl (by omega)) rfl ?_
 rw [hq]
 refine tk rfl (PE.indexAddr el158 rfl rfl (by omega) (by omega)) rfl ?_
 refine stoE (l' := (List.range 5).map (hadV g.grs (ms.take (i + 1)))) rfl rfl rfl cn4 rfl rfl rfl (by show spl _ _ [.bool true] = _; rw [show Value.bool true = hadV g.grs (ms.take (i + 1)) q from by unfold hadV; rw [hadF_step hm, decide_eq_true hq, Bool.or_true]]; exact rng_set _ _ (by omega) (fun j hj => by unfold hadV; rw [hadF_step hm, decide_eq_false (by omega), Bool.or_false])) (by rw [List.length_map, List.length_range]; show 0 + ((q : Nat) : Int).toNat * 1 + 1 ≤ 5; omega) ?_
 refine bg (fun w hs => trivial) ?_
 refine sy_tx' [0, 1, 2] rfl ?_
 refine sp rfl (PE.move rfl) rfl ?_
 refine sp rfl (PE.add rfl rfl (by omega)) rfl ?_
 refine sp rfl (PE.assign rfl) rfl ?_
 exact sy_next ⟨i + 1, by omega⟩ (by dsimp only; omega) (by repeat' first | exact Sub.nil | apply Sub.cons | rfl | (simp [lk]; omega)) (fun _ h => h)
 try simp only [decide_eq_true_eq, decide_eq_false_iff_not, Bool.and_eq_true, Bool.or_eq_true, Bool.not_eq_true', Int.not_le, Int.not_lt] at hc0
 obtain rfl : i = ms.length := by omega
 rw [List.take_length]
 refine sy_exit ?_
 repeat refine sy_tx ?_
 refine sy_bx ?_
 refine sy_seq ?_
 refine sy_tx' [0] rfl ?_
 refine sp rfl (PE.assign rfl) rfl ?_
 refine sy_seq ?_
 refine sy_seq ?_
 refine sy_tx' [0] rfl ?_
 refine sp rfl (PE.assign rfl) rfl ?_
 refine sy_block ?_
 refine sy_loop (ι := (i : {i : Nat // i ≤ g.grs.length}) × OSl 3 1 (irows (canP g.grs ms i.1))) (fun x => ⟨[(2, .pointer (some ⟨b2, 0, none⟩)), (5, .slice (some ⟨b9, 0, none⟩) 5 5), (7, x.2.fs), (8, .int .i64 x.1.1)], x.2.G ++ (b9, cel 4 ((List.range 5).map (hadV g.grs ms))) :: (b2, cel 89 (gtl g (g.sl ag cg))) :: H, R⟩) (fun x => g.grs.length - x.1.1) ⟨⟨0, by omega⟩, OSl.nil _ _⟩ ?_ (fun x => ?_)
 exact sy_at (by repeat' first | exact Sub.nil | apply Sub.cons | rfl | (simp [lk]; omega)) (fun _ h => h)
 obtain ⟨⟨i, hi⟩, o⟩ := x
 dsimp only at hi o ⊢
 have hcp : (canP g.grs ms i).length ≤ i := by unfold canP; rw [List.length_map]; exact Nat.le_trans (List.length_filter_le _ _) (by simp)
 refine sy_seq ?_
 refine sy_seq ?_
 refine sy_tx' [0, 1, 2, 3, 4] rfl ?_
 refine sp rfl (PE.move rfl) rfl ?_
 refine sp rfl (PE.fieldAddr fo89_2 rfl) rfl ?_
 refine spL rfl rfl (lh sc87 rfl rfl) rfl ?_
 refine sp rfl (PE.lenSl isl87 rfl) rfl ?_
 refine sp rfl (PE.lss rfl rfl) rfl ?_
 refine sy_cond rfl (fun hc1 => ?_) (fun hc1 => ?_)
 try simp only [decide_eq_true_eq, decide_eq_false_iff_not, Bool.and_eq_true, Bool.or_eq_true, Bool.not_eq_true', Int.not_le, Int.not_lt] at hc1
 refine sy_skip ?_
 refine sy_seq ?_
 refine sy_block ?_
 refine sy_seq ?_
 refine sy_tx' [0, 1, 2, 3, 4] rfl ?_
 refine sp rfl (PE.move rfl) rfl ?_
 refine sp rfl (PE.move rfl) rfl ?_
 refine sp rfl (PE.add rfl rfl (by omega)) rfl ?_
 rw [show (i : Int) + 1 = ((i + 1 : Nat) : Int) from by omega]
 refine sp rfl (PE.indexAddr el158 rfl rfl (by omega) (by omega)) rfl ?_
 refine spL rfl rfl (lh (v := hadV g.grs ms (i + 1)) sc4 rfl (by rw [show 0 + ((i + 1 : Nat) : Int).toNat * 1 = i + 1 from by omega, List.getElem?_map, List.getElem?_range (by omega)]; rfl)) rfl ?_
 refine sy_cond rfl (fun hc2 => ?_) (fun hc2 => ?_)
 have hst : canP g.grs ms (i + 1) = canP g.grs ms i ++ [(i : Int)] := by rw [canP_step, show hadF g.grs ms (i + 1) = true from hc2]; rfl
 refine sy_tx' [0, 1, 2, 3, 4] rfl ?_
 refine sp rfl (PE.move rfl) rfl ?_
 refine sp rfl (PE.move rfl) rfl ?_
 refine bsl (out := [_]) rfl sl22 zl3 rfl rfl rfl rfl rfl rfl (fun b39 => ?_)
 refine apO (o) rfl ap22 rfl rfl (rowsH (row := [.int .i64 i]) rfl) rfl rfl ((by simp only [irows, List.length_map, List.length_singleton]; omega)) rfl (fun o40 => ?_)
 refine sp rfl (PE.assign rfl) rfl ?_
 refine sy_tx' [0, 1, 2] rfl ?_
 refine sp rfl (PE.move rfl) rfl ?_
 refine sp rfl (PE.add rfl rfl (by omega)) rfl ?_
 refine sp rfl (PE.assign rfl) rfl ?_
 exact sy_next ⟨⟨i + 1, by omega⟩, o40.cast (by rw [hst]; simp [irows])⟩ (by dsimp only; omega) (by repeat' first | exact Sub.nil | apply Sub.cons | rfl | (simp [lk]; omega)) (fun w h => h.del b39)
 have hst : canP g.grs ms (i + 1) = canP g.grs ms i := by rw [canP_step, show hadF g.grs ms (i + 1) = false from hc2]; simp
 refine sy_skip ?_
 refine sy_tx' [0, 1, 2] rfl ?_
 refine sp rfl (PE.move rfl) rfl ?_
 refine sp rfl (PE.add rfl rfl (by omega)) rfl ?_
 refine sp rfl (PE.assign rfl) rfl ?_
 exact sy_next ⟨⟨i + 1, by omega⟩, o.cast (by rw [hst])⟩ (by dsimp only; omega) (by repeat' first | exact Sub.nil | apply Sub.cons | rfl | (simp [lk]; omega)) (fun _ h => h)
 try simp only [decide_eq_true_eq, decide_eq_false_iff_not, Bool.and_eq_true, Bool.or_eq_true, Bool.not_eq_true', Int.not_le, Int.not_lt] at hc1
 obtain rfl : i = g.grs.length := by omega
 refine sy_exit ?_
 repeat refine sy_tx ?_
 refine sy_bx ?_
 refine sy_seq ?_
 refine sy_seq ?_
 refine sy_tx' [0, 1, 2] rfl ?_
 refine sp rfl (PE.move rfl) rfl ?_
 refine sp rfl (PE.indexAddr el158 rfl rfl (by omega) (by omega)) rfl ?_
 refine spL rfl rfl (lh (v := hadV g.grs ms 0) sc4 rfl rfl) rfl ?_
 refine sy_cond rfl (fun hc3 => ?_) (fun hc3 => ?_)
 have hst : canF g.grs ms = canP g.grs ms g.grs.length ++ [-1] := by unfold canF; rw [show hadF g.grs ms 0 = true from hc3]; rfl
 refine sy_tx' [0, 1, 2, 3] rfl ?_
 refine sp rfl (PE.move rfl) rfl ?_
 refine bsl (out := [_]) rfl sl22 zl3 rfl rfl rfl rfl rfl rfl (fun b45 => ?_)
 refine apO (o) rfl ap22 rfl rfl (rowsH (row := [.int .i64 (-1)]) rfl) rfl rfl ((by simp only [irows, List.length_map, List.length_singleton]; omega)) rfl (fun o46 => ?_)
 refine sp rfl (PE.assign rfl) rfl ?_
 refine sy_seq ?_
 refine sy_tx' [0, 1] rfl ?_
 refine sp rfl (PE.move rfl) rfl ?_
 refine sp rfl (PE.assign rfl) rfl ?_
 refine sy_ret ?_
 obtain ⟨a9, c9, hfe, hff⟩ := (o46.cast (rows' := irows (canF g.grs ms)) (by rw [hst]; simp [irows])).freeze
 rw [List.length_map] at hfe
 exact sy_return (vs := [_]) rfl (.cons (RV.tmp rfl) .nil) rfl ⟨a9, c9, hfe, rfl, rfl⟩ (fun w h => (((hff (h.pullG o46.G)).del b45).del b9).del b2)
 have hst : canF g.grs ms = canP g.grs ms g.grs.length := by unfold canF; rw [show hadF g.grs ms 0 = false from hc3]; simp
 refine sy_skip ?_
 refine sy_seq ?_
 refine sy_tx' [0, 1] rfl ?_
 refine sp rfl (PE.move rfl) rfl ?_
 refine sp rfl (PE.assign rfl) rfl ?_
 refine sy_ret ?_
 obtain ⟨a9, c9, hfe, hff⟩ := (o.cast (rows' := irows (canF g.grs ms)) (by rw [hst])).freeze
 rw [List.length_map] at hfe
 exact sy_return (vs := [_]) rfl (.cons (RV.tmp rfl) .nil) rfl ⟨a9, c9, hfe, rfl, rfl⟩ (fun w h => ((hff (h.pullG o.G)).del b9).del b2)
theorem c_rPay (g : Gat) (ag : Option Addr) (cg : Nat) (hlg : g.grs.length ≤ 9223372036854775807) (hg : g.ok) (c : Crt) (hc : c.ok) (sc : Value) (can : List Int) (hcn : ∀ gr ∈ can, gr = -1 ∨ ∃ i x, g.grs[i]? = some x ∧ gr = (i : Nat)) (hl : can.length ≤ 1000) (al : Option Addr) (cy : Nat) (H : Heap) (R : Facts) [hG : MemRows ag 5 (grows g.grs) R] [hA : MemRows al 1 (irows can) R] :
    FnV Tryz.prog 69 [g.v (g.sl ag cg), c.v sc, .slice al can.length cy] H R (spv ((netP g c).1 * (can.foldl (fun m gr => min m (prc g.grs gr)) 101)) ((netP g c).2 * mostP g.grs can)) := by
 refine fn_of Tryz.func69 rfl Tryz.ntmps69 rfl ?_
 refine sy_seq ?_
 refine sy_tx' [0, 1, 2] rfl ?_
 refine bx rfl rfl rfl (fun b3 => ?_)
 refine bx rfl rfl rfl (fun b4 => ?_)
 refine alc rfl zl61 rfl (fun b6 => ?_)
 refine sy_seq ?_
 refine sy_tx' [0, 1] rfl ?_
 refine sp rfl (PE.assign rfl) rfl ?_
 refine sp rfl (PE.assign rfl) rfl ?_
 refine sy_seq ?_
 refine sy_seq ?_
 refine sy_tx' [0] rfl ?_
 refine sp rfl (PE.assign rfl) rfl ?_
 refine sy_block ?_
 refine sy_loop (ι := {i : Nat // i ≤ can.length}) (fun i => ⟨[(2, .slice al can.length cy), (3, .pointer (some ⟨b3, 0, none⟩)), (4, .pointer (some ⟨b4, 0, none⟩)), (6, .pointer (some ⟨b6, 0, none⟩)), (7, .int .i64 ((can.take i.1).foldl (fun m gr => min m (prc g.grs gr)) 101)), (8, .int .i64 ((can.take i.1).foldl (fun m gr => max m (prc g.grs gr)) 0)), (9, .int .i64 i.1)], (b6, cel 61 [.int .i64 0, .int .i64 0]) :: (b4, cel 79 (ctl c sc)) :: (b3, cel 89 (gtl g (g.sl ag cg))) :: H, R⟩) (fun i => can.length - i.1) ⟨0, by omega⟩ ?_ (fun i => ?_)
 exact sy_at (by repeat' first | exact Sub.nil | apply Sub.cons | rfl | (simp [lk]; omega)) (fun _ h => h)
 obtain ⟨i, hi⟩ := i
 dsimp only at hi ⊢
 have hfl := fold101 hg (can.take i) 101 (by omega)
 have hfm := (fold_lm hg (can.take i) 100 0 (by omega) (by omega)).2
 refine sy_seq ?_
 refine sy_seq ?_
 refine sy_tx' [0, 1, 2, 3] rfl ?_
 refine sp rfl (PE.move rfl) rfl ?_
 refine sp rfl (PE.move rfl) rfl ?_
 refine sp rfl (PE.lenSl isl22 rfl) rfl ?_
 refine sp rfl (PE.lss rfl rfl) rfl ?_
 refine sy_cond rfl (fun hc0 => ?_) (fun hc0 => ?_)
 try simp only [decide_eq_true_eq, decide_eq_false_iff_not, Bool.and_eq_true, Bool.or_eq_true, Bool.not_eq_true', Int.not_le, Int.not_lt] at hc0
 obtain ⟨gr, hgr⟩ : ∃ gr, can[i]? = some gr := ⟨_, List.getElem?_eq_getElem (by omega)⟩
 have hpb := prc_bd hg gr
 have hrg := hcn gr (List.mem_of_getElem? hgr)
 have hst1 : ((can.take (i + 1)).foldl (fun m gr => min m (prc g.grs gr)) 101) = min ((can.take i).foldl (fun m gr => min m (prc g.grs gr)) 101) (prc g.grs gr) := by rw [List.take_add_one, hgr, List.foldl_append]; rfl
 have hst2 : ((can.take (i + 1)).foldl (fun m gr => max m (prc g.grs gr)) 0) = max ((can.take i).foldl (fun m gr => max m (prc g.grs gr)) 0) (prc g.grs gr) := by rw [List.take_add_one, hgr, List.foldl_append]; rfl
 refine sy_addr (a := al) (sz := 1) (rows := irows can) (by intro h9; have h8 := congrArg List.length h9; simp at h8; simp [h8] at hgr) (fun ba oa hea => ?_)
 subst hea
 refine sy_skip ?_
 refine sy_seq ?_
 refine sy_block ?_
 refine sy_seq ?_
 refine sy_tx' [0] rfl ?_
 refine sp rfl (PE.assign rfl) rfl ?_
 refine sy_seq ?_
 refine sy_seq ?_
 refine sy_tx' [0, 1, 2, 3, 4] rfl ?_
 refine sp rfl (PE.move rfl) rfl ?_
 refine sp rfl (PE.move rfl) rfl ?_
 refine sp rfl (PE.indexAddr el22 rfl rfl (by omega) (by omega)) rfl ?_
 refine spL rfl rfl (lf0 (x := .int .i64 gr) sc3 (by simp [irows, hgr]; rfl) rfl) rfl ?_
 refine sp rfl (PE.geq rfl rfl) rfl ?_
 refine sy_cond rfl (fun hc1 => ?_) (fun hc1 => ?_)
 try simp only [decide_eq_true_eq, decide_eq_false_iff_not, Bool.and_eq_true, Bool.or_eq_true, Bool.not_eq_true', Int.not_le, Int.not_lt] at hc1
 obtain ⟨j, x, hx, rfl⟩ := hrg.resolve_left (by omega)
 have hj := (List.getElem?_eq_some_iff.1 hx).1
 have hpx : prc g.grs (j : Nat) = x.price := by unfold prc; rw [decide_eq_false (by omega), Int.toNat_natCast, hx]; rfl
 refine sy_addr (a := ag) (sz := 5) (rows := grows g.grs) (by intro h0; simp [grows] at h0; simp [h0] at hx) (fun bg og heg => ?_)
 subst heg
 refine sy_draw [0, 1, 0, 0, 12, 28, 63, 127, 255, 511] (.tk 0 (.ld 1 (.tk 2 (.tk 3 (.tk 4 (.ld 5 (.tk 6 (.tk 7 (.ld 8 (.tk 9 .done)))))))))) mixed (by kernel_rfl) ?_
 refine tk rfl (PE.fieldAddr fo89_2 rfl) rfl ?_
 refine ld rfl rfl (lh sc87 rfl rfl) rfl ?_
 refine tk rfl (PE.move rfl) rfl ?_
 refine tk rfl (PE.move rfl) rfl ?_
 refine tk rfl (PE.indexAddr el22 rfl rfl (by omega) (by omega)) rfl ?_
 refine ld rfl rfl (lf0 (x := .int .i64 ((j : Nat) : Int)) sc3 (by simp [irows, hgr]; rfl) rfl) rfl ?_
 refine tk rfl (PE.indexAddr el87 rfl rfl (by omega) (by omega)) rfl ?_
 refine tk rfl (PE.fieldAddr fo140_4 rfl) rfl ?_
 refine ld rfl rfl (lf (x := .int .i64 x.price) sc3 (gr_get (by simpa using hx)) rfl) rfl ?_
 refine tk rfl (PE.assign rfl) rfl ?_
 refine sy_seq ?_
 refine sy_tx' [0, 1, 2, 3] rfl ?_
 refine sp rfl (PE.move rfl) rfl ?_
 refine sp rfl (PE.move rfl) rfl ?_
 refine sp rfl (PE.min rfl rfl) rfl ?_
 refine sp rfl (PE.assign rfl) rfl ?_
 refine sy_tx' [0, 1, 2, 3] rfl ?_
 refine sp rfl (PE.move rfl) rfl ?_
 refine sp rfl (PE.move rfl) rfl ?_
 refine sp rfl (PE.max rfl rfl) rfl ?_
 refine sp rfl (PE.assign rfl) rfl ?_
 refine sy_tx' [0, 1, 2] rfl ?_
 refine sp rfl (PE.move rfl) rfl ?_
 refine sp rfl (PE.add rfl rfl (by omega)) rfl ?_
 refine sp rfl (PE.assign rfl) rfl ?_
 exact sy_next ⟨i + 1, by omega⟩ (by dsimp only; omega) (by dsimp only; rw [hst1, hst2, hpx]; exact (by repeat' first | exact Sub.nil | apply Sub.cons | rfl | (simp [lk]; omega))) (fun _ h => h)
 try simp only [decide_eq_true_eq, decide_eq_false_iff_not, Bool.and_eq_true, Bool.or_eq_true, Bool.not_eq_true', Int.not_le, Int.not_lt] at hc1
 have hpx : prc g.grs gr = 0 := by unfold prc; rw [decide_eq_true (show gr = -1 by rcases hrg with h | ⟨j, x, hx, h⟩ <;> omega)]; rfl
 refine sy_skip ?_
 refine sy_seq ?_
 refine sy_tx' [0, 1, 2, 3] rfl ?_
 refine sp rfl (PE.move rfl) rfl ?_
 refine sp rfl (PE.move rfl) rfl ?_
 refine sp rfl (PE.min rfl rfl) rfl ?_
 refine sp rfl (PE.assign rfl) rfl ?_
 refine sy_tx' [0, 1, 2, 3] rfl ?_
 refine sp rfl (PE.move rfl) rfl ?_
 refine sp rfl (PE.move rfl) rfl ?_
 refine sp rfl (PE.max rfl rfl) rfl ?_
 refine sp rfl (PE.assign rfl) rfl ?_
 refine sy_tx' [0, 1, 2] rfl ?_
 refine sp rfl (PE.move rfl) rfl ?_
 refine sp rfl (PE.add rfl rfl (by omega)) rfl ?_
 refine sp rfl (PE.assign rfl) rfl ?_
 exact sy_next ⟨i + 1, by omega⟩ (by dsimp only; omega) (by dsimp only; rw [hst1, hst2, hpx]; exact (by repeat' first | exact Sub.nil | apply Sub.cons | rfl | (simp [lk]; omega))) (fun _ h => h)
 try simp only [decide_eq_true_eq, decide_eq_false_iff_not, Bool.and_eq_true, Bool.or_eq_true, Bool.not_eq_true', Int.not_le, Int.not_lt] at hc0
 obtain rfl : i = can.length := by omega
 rw [List.take_length] at *
 have hne := net_bd hg hc
 obtain ⟨hv1, hv2⟩ := hne
 have hm1 := mul_b hv1.1 hv1.2 hfl.1 hfl.2
 have hm2 := mul_b hv2.1 hv2.2 hfm.1 hfm.2
 refine sy_exit ?_
 repeat refine sy_tx ?_
 refine sy_bx ?_
 refine sy_seq ?_
 refine sy_draw [0, 0, 3, 7, 0, 31, 0, 0, 199, 455, 0, 1991, 4095, 8191] (.ld 0 (.ld 1 (.tk 4 (.ld 6 (.ld 7 (.tk 10 (.big 2 (.tk 3 (.tk 5 (.big 8 (.tk 9 (.tk 11 (.tk 12 (.big 13 .done)))))))))))))) mixed (by kernel_rfl) ?_
 refine ld rfl rfl (lhA [_, _, _] ag89 rfl rfl rfl) rfl ?_
 refine ld rfl rfl (lhA [_, _, _] ag79 rfl rfl rfl) rfl ?_
 refine tk rfl (PE.move rfl) rfl ?_
 refine ld rfl rfl (lhA [_, _, _] ag89 rfl rfl rfl) rfl ?_
 refine ld rfl rfl (lhA [_, _, _] ag79 rfl rfl rfl) rfl ?_
 refine tk rfl (PE.move rfl) rfl ?_
 refine clV rfl cal48 rfl rfl (c_rNet g hg (g.sl ag cg) c hc sc _ _) ?_
 refine bg (fun w hs => ⟨(lhA [_, _, _] ag79 rfl rfl rfl) w hs, (lhA [_, _, _] ag89 rfl rfl rfl) w hs, trivial, trivial, trivial⟩) ?_
 refine tk rfl ((PE.fieldI (l := [(netP g c).1, (netP g c).2]) (show fTy Tryz.prog 61 0 = some (3, 0) from by kernel_rfl) (eqB_ok 10000 3 false 1 eqf3) (fun _ => rfl) rfl (by show 0 + 1 ≤ 2; decide)).to (show mkv false (([(netP g c).1, (netP g c).2].drop 0).take 1) = .int .i64 (netP g c).1 from rfl)) rfl ?_
 refine tk rfl (PE.mul rfl rfl (by omega)) rfl ?_
 refine clV rfl cal48 rfl rfl (c_rNet g hg (g.sl ag cg) c hc sc _ _) ?_
 refine bg (fun w hs => ⟨trivial, trivial, trivial⟩) ?_
 refine tk rfl ((PE.fieldI (l := [(netP g c).1, (netP g c).2]) (show fTy Tryz.prog 61 1 = some (3, 1) from by kernel_rfl) (eqB_ok 10000 3 false 1 eqf3) (fun _ => rfl) rfl (by show 1 + 1 ≤ 2; decide)).to (show mkv false (([(netP g c).1, (netP g c).2].drop 1).take 1) = .int .i64 (netP g c).2 from rfl)) rfl ?_
 refine tk rfl (PE.mul rfl rfl (by omega)) rfl ?_
 refine tk rfl (PE.build (out := [_, _]) pl61 zl61 rfl rfl) rfl ?_
 refine sto rfl rfl rfl cn61 rfl rfl rfl rfl ?_
 refine bg (fun w hs => trivial) ?_
 refine sy_ret ?_
 exact sy_return (vs := [_]) rfl (.cons (RV.cell rfl (lhA [_, _] ag61 rfl rfl rfl)) .nil) rfl ⟨rfl, rfl, rfl⟩ drp
end Go.Proofs.YtndhkpnaeocnhaaGreat
