/- Walks of the functions of the program: what each returns and leaves in memory, under the conditions that its theorem names. -/
import Derived.Test.YtaldphhdkmchhaaTy
import Derived.Test.YtaldphhdkmchhaaMa
import Derived.Test.YtaldphhdkmchhaaWk21
namespace Go.Proofs.Ytaldphhdkmchhaa
set_option linter.unusedSimpArgs false
set_option linter.unusedVariables false
open Go
theorem any_succ {l : List Fat} {k : Nat} {x : Fat} {s : Sta} {m : Int} (h : l[k]? = some x) : earlier (l.take (k + 1)) s m = (earlier (l.take k) s m || (decide (x.1 = s) && decide (x.2 ≤ m))) := by
  rw [take_snoc h]; unfold earlier; rw [List.any_append]; simp
theorem sta_eq (s u : Sta) : decide (s = u) = decide ([s.stock, s.short, s.dry] = [u.stock, u.short, u.dry]) := by
  obtain ⟨a, b, c⟩ := s
  obtain ⟨a', b', c'⟩ := u
  rw [Bool.eq_iff_iff]
  simp
def bestV (l : List Fat) (s : Sta) : Int := (minB l s).getD (-1)

theorem min_rg {t : Twn} {l : List Fat} {s : Sta} {n : Int} (h : (l.all fun p => p.1.right t && inb p.2 0 1000000) = true) (hm : minB l s = some n) : 0 ≤ n := by
  have key : ∀ (l : List Fat) (o : Option Int), (∀ p ∈ l, 0 ≤ p.2) → (∀ n, o = some n → 0 ≤ n) → ∀ n, l.foldl (minStep s) o = some n → 0 ≤ n := by
    intro l
    induction l with
    | nil => intro o _ h n hn; exact h n hn
    | cons p l ih =>
      intro o hl ho n hn
      refine ih (minStep s o p) (fun q hq => hl q (by simp [hq])) (fun n hn => ?_) n hn
      have hp := hl p (by simp)
      unfold minStep at hn
      cases hc : decide (p.1 = s) with
      | false => rw [hc] at hn; exact ho n hn
      | true =>
        rw [hc] at hn
        simp only [cond_true, Option.some.injEq] at hn
        cases o with
        | none => simp only at hn; omega
        | some m => have := ho m rfl; simp only at hn; omega
  exact key l none (fun p hp => (fat_rg h hp).2.1) (fun n hn => by cases hn) n hm
theorem best_lo {t : Twn} {l : List Fat} {k : Nat} {s : Sta} (h : (l.all fun p => p.1.right t && inb p.2 0 1000000) = true) : ∀ n, minB (l.take k) s = some n → 0 ≤ n := fun n hn =>
  min_rg (l := l.take k) (List.all_eq_true.2 fun p hp => List.all_eq_true.1 h p (List.mem_of_mem_take hp)) hn
theorem best_snoc {l : List Fat} {k : Nat} {s : Sta} {x : Fat} (hx : l[k]? = some x) (h0 : 0 ≤ x.2) (hlo : ∀ n, minB (l.take k) s = some n → 0 ≤ n) :
    bestV (l.take (k + 1)) s = bif decide (x.1 = s) && (decide (bestV (l.take k) s < 0) || decide (x.2 < bestV (l.take k) s)) then x.2 else bestV (l.take k) s := by
  unfold bestV
  rw [take_snoc hx, minB_snoc]
  unfold minStep
  cases decide (x.1 = s) with
  | false => rfl
  | true =>
    cases hm : minB (l.take k) s with
    | none => rfl
    | some n =>
      have := hlo n hm
      simp only [cond_true, Option.getD_some, Bool.true_and]
      rw [decide_eq_false (show ¬ n < 0 by omega), Bool.false_or]
      by_cases h : x.2 < n
      · rw [decide_eq_true h]; simp only [cond_true]; omega
      · rw [decide_eq_false h]; simp only [cond_false]; omega

theorem c_rEarlier (l : List Fat) (n : Nat) (hn : n ≤ l.length) (s : Sta) (most : Int) (a : Option Addr) (c : Nat) (hl : l.length ≤ 9223372036854775807) (H : Heap) (R : Facts) [hR : MemRows a 4 (frows l) R] :
    FnV Try.prog 113 [.slice a l.length c, .int .i64 n, s.v, .int .i64 most] H R (.bool (earlier (l.take n) s most)) := by
  refine fn_of Try.func113 rfl Try.ntmps113 rfl ?_
  refine sy_seq ?_
  refine sy_tx' [0, 1] rfl ?_
  refine sy_sq ?_
  refine bx rfl rfl rfl (fun b6 => ?_)
  refine sy_sq ?_
  refine sp rfl (PE.assign rfl) rfl ?_
  refine sy_sn ?_
  refine sy_nx ?_
  refine sy_seq ?_
  refine sy_seq ?_
  refine sy_tx' [0] rfl ?_
  refine sy_sq ?_
  refine sp rfl (PE.assign rfl) rfl ?_
  refine sy_sn ?_
  refine sy_nx ?_
  refine sy_block ?_
  refine sy_loop (ι := {k : Nat // k ≤ n ∧ earlier (l.take k) s most = false}) (fun k => ⟨[(0, .slice a l.length c), (1, .int .i64 n), (3, .int .i64 most), (6, .pointer (some ⟨b6, 0, none⟩)), (9, .int .i64 k.1)], (b6, cel 34 [.int .i64 s.stock, .int .i64 s.short, .int .i64 s.dry]) :: H, R⟩) (fun k => n - k.1) ⟨0, by omega, by simp [earlier]⟩ ?_ (fun k => ?_)
  ·
   exact sy_at (by repeat' first | exact Sub.nil | apply Sub.cons | rfl | (simp [lk]; omega)) (fun _ h => h)
  ·
   obtain ⟨k, hk, hno⟩ := k
   dsimp only at hk hno ⊢
   refine sy_seq ?_
   refine sy_seq ?_
   refine sy_tx' [0, 1, 2] rfl ?_
   refine sy_sq ?_
   refine sp rfl (PE.move rfl) rfl ?_
   refine sy_sq ?_
   refine sp rfl (PE.move rfl) rfl ?_
   refine sy_sq ?_
   refine sp rfl (PE.lss rfl rfl) rfl ?_
   refine sy_sn ?_
   refine sy_nx ?_
   refine sy_cond rfl (fun hc0 => ?_) (fun hc0 => ?_)
   ·
    try simp only [decide_eq_true_eq, decide_eq_false_iff_not, Bool.and_eq_true, Bool.or_eq_true, Bool.not_eq_true', Int.not_le, Int.not_lt] at hc0
    obtain ⟨x, hx⟩ : ∃ x, l[k]? = some x := ⟨_, List.getElem?_eq_getElem (by omega)⟩
    have hsu := any_succ (s := s) (m := most) hx
    rw [hno, Bool.false_or, sta_eq] at hsu
    refine sy_addr (a := a) (sz := 4) (rows := frows l) (by intro h0; simp [frows] at h0; simp [h0] at hx) (fun ba oa he => ?_)
    subst he
    refine sy_skip ?_
    refine sy_nx ?_
    refine sy_seq ?_
    refine sy_block ?_
    refine sy_seq ?_
    refine sy_draw [0, 0, 3, 7, 15, 0, 63, 127, 255, 255, 1023, 2047, 4095, 255, 16383, 32767] (.tk 0 (.tk 1 (.tk 2 (.tk 3 (.ld 4 (.ld 5 (.tk 6 (.tk 7 (.tk 8 (.tk 9 (.tk 10 (.tk 11 (.ld 12 (.tk 13 (.tk 14 (.tk 15 .done)))))))))))))))) mixed (by kernel_rfl) ?_
    refine tk rfl (PE.move rfl) rfl ?_
    refine tk rfl (PE.move rfl) rfl ?_
    refine tk rfl (PE.indexAddr el101 rfl rfl (by omega) (by omega)) rfl ?_
    refine tk rfl (PE.fieldAddr fo173_0 rfl) rfl ?_
    refine ld rfl rfl (lfAt (j := 0) (row := frow x) [_, _, _] ag34 (fr_get hx) rfl rfl) rfl ?_
    refine ld rfl rfl (lhA [_, _, _] ag34 rfl rfl rfl) rfl ?_
    refine tk rfl (PE.eqlAgg [x.1.stock, x.1.short, x.1.dry] [s.stock, s.short, s.dry] (eqB_ok 10000 34 true 3 eqf34) eqg34 rfl rfl rfl rfl) rfl ?_
    refine tk rfl (PE.move rfl) rfl ?_
    refine sy_case (t := 22) rfl (fun g22 => ?_) (fun g22 => ?_)
    ·
     rw [g22, Bool.true_and] at hsu
     refine tkG rfl rfl rfl rfl (PE.move rfl) rfl ?_
     refine tkG rfl rfl rfl rfl (PE.move rfl) rfl ?_
     refine tkG rfl rfl rfl rfl (PE.indexAddr el101 rfl rfl (by omega) (by omega)) rfl ?_
     refine tkG rfl rfl rfl rfl (PE.fieldAddr fo173_1 rfl) rfl ?_
     refine ldG rfl rfl rfl rfl rfl (lf (x := .int .i64 x.2) sc3 (fr_get hx) rfl) rfl ?_
     refine tkG rfl rfl rfl rfl (PE.move rfl) rfl ?_
     refine tkG rfl rfl rfl rfl (PE.leq rfl rfl) rfl ?_
     refine tk rfl (PE.pick rfl rfl rfl) rfl ?_
     refine sy_dn ?_
     refine sy_nx ?_
     refine sy_cond rfl (fun hc1 => ?_) (fun hc1 => ?_)
     ·
      rw [hc1] at hsu
      have hyes : earlier (l.take n) s most = true := by
        unfold earlier at hsu ⊢
        obtain ⟨z, hz, hp⟩ := List.any_eq_true.1 hsu
        exact List.any_eq_true.2 ⟨z, (List.take_subset_take_left l (show k + 1 ≤ n by omega)) hz, hp⟩
      refine sy_seq ?_
      refine sy_tx' [0] rfl ?_
      refine sy_sq ?_
      refine sp rfl (PE.assign rfl) rfl ?_
      refine sy_sn ?_
      refine sy_nx ?_
      refine sy_ret ?_
      refine sy_br ?_
      refine sy_tr ?_
      refine sy_tr ?_
      refine sy_br ?_
      refine sy_tr ?_
      exact sy_return (vs := [_]) rfl (.cons (RV.tmp rfl) .nil) rfl ⟨congrArg Value.bool (by first | exact hyes.symm | exact hno.symm), rfl, rfl⟩ (fun _ h => by repeat first | exact h | replace h := St.tail h | replace h := St.ftail h | replace h := St.drop h)
     ·
      rw [hc1] at hsu
      refine sy_skip ?_
      refine sy_bn ?_
      refine sy_nx ?_
      refine sy_tx' [0, 1, 2] rfl ?_
      refine sy_sq ?_
      refine sp rfl (PE.move rfl) rfl ?_
      refine sy_sq ?_
      refine sp rfl (PE.add rfl rfl (by omega)) rfl ?_
      refine sy_sq ?_
      refine sp rfl (PE.assign rfl) rfl ?_
      refine sy_sn ?_
      refine sy_nx ?_
      exact sy_next ⟨k + 1, by omega, hsu⟩ (by dsimp only; omega) (by repeat' first | exact Sub.nil | apply Sub.cons | rfl | (simp [lk]; omega)) (fun _ h => h)
    ·
     rw [g22, Bool.false_and] at hsu
     refine tkN rfl rfl rfl rfl rfl rfl rfl rfl ?_
     refine tkN rfl rfl rfl rfl rfl rfl rfl rfl ?_
     refine tkN rfl rfl rfl rfl rfl rfl rfl rfl ?_
     refine tkN rfl rfl rfl rfl rfl rfl rfl rfl ?_
     refine ldN rfl rfl rfl rfl rfl rfl rfl rfl ?_
     refine tkN rfl rfl rfl rfl rfl rfl rfl rfl ?_
     refine tkN rfl rfl rfl rfl rfl rfl rfl rfl ?_
     refine tk rfl (PE.pick rfl rfl rfl) rfl ?_
     refine sy_dn ?_
     refine sy_nx ?_
     refine sy_condF rfl ?_
     refine sy_skip ?_
     refine sy_bn ?_
     refine sy_nx ?_
     refine sy_tx' [0, 1, 2] rfl ?_
     refine sy_sq ?_
     refine sp rfl (PE.move rfl) rfl ?_
     refine sy_sq ?_
     refine sp rfl (PE.add rfl rfl (by omega)) rfl ?_
     refine sy_sq ?_
     refine sp rfl (PE.assign rfl) rfl ?_
     refine sy_sn ?_
     refine sy_nx ?_
     exact sy_next ⟨k + 1, by omega, hsu⟩ (by dsimp only; omega) (by repeat' first | exact Sub.nil | apply Sub.cons | rfl | (simp [lk]; omega)) (fun _ h => h)
   ·
    try simp only [decide_eq_true_eq, decide_eq_false_iff_not, Bool.and_eq_true, Bool.or_eq_true, Bool.not_eq_true', Int.not_le, Int.not_lt] at hc0
    obtain rfl : k = n := by omega
    refine sy_exit ?_
    refine sy_tx ?_
    refine sy_tx ?_
    refine sy_bx ?_
    refine sy_nx ?_
    refine sy_seq ?_
    refine sy_tx' [0] rfl ?_
    refine sy_sq ?_
    refine sp rfl (PE.assign rfl) rfl ?_
    refine sy_sn ?_
    refine sy_nx ?_
    refine sy_ret ?_
    exact sy_return (vs := [_]) rfl (.cons (RV.tmp rfl) .nil) rfl ⟨congrArg Value.bool (by first | exact hyes.symm | exact hno.symm), rfl, rfl⟩ (fun _ h => by repeat first | exact h | replace h := St.tail h | replace h := St.ftail h | replace h := St.drop h)

theorem c_rStarves (t : Twn) (hck : t.check = 0) (l : List Fat) (a : Option Addr) (c : Nat) (hl2 : l.length ≤ 9223372036854775807) (ba oa ca : Nat) (H : Heap) (R : Facts) [hR : MemRows (some ⟨ba, oa, none⟩) 2 (rrows t.rats) R] [hR2 : MemRows a 4 (frows l) R] :
    FnV Try.prog 58 [t.v (t.sl (some ⟨ba, oa, none⟩) ca), .slice a l.length c] H R (.tuple #[.int .i64 (stR t l).1, .int .i64 (stR t l).2]) := by
  have ht := (ok_of_check hck).1
  refine fn_of Try.func58 rfl Try.ntmps58 rfl ?_
  refine sy_seq ?_
  refine sy_tx' [0, 1, 2] rfl ?_
  refine sy_sq ?_
  refine bx rfl rfl rfl (fun b2 => ?_)
  refine sy_sq ?_
  refine sp rfl (PE.assign rfl) rfl ?_
  refine sy_sq ?_
  refine sp rfl (PE.assign rfl) rfl ?_
  refine sy_sn ?_
  refine sy_nx ?_
  refine sy_seq ?_
  refine sy_seq ?_
  refine sy_tx' [0, 1, 2] rfl ?_
  refine sy_sq ?_
  refine sp rfl (PE.move rfl) rfl ?_
  refine sy_sq ?_
  refine sp rfl (PE.lenSl isl101 rfl) rfl ?_
  refine sy_sq ?_
  refine sp rfl (PE.gtr rfl rfl) rfl ?_
  refine sy_sn ?_
  refine sy_nx ?_
  refine sy_cond rfl (fun hc0 => ?_) (fun hc0 => ?_)
  ·
   try simp only [decide_eq_true_eq, decide_eq_false_iff_not, Bool.and_eq_true, Bool.or_eq_true, Bool.not_eq_true', Int.not_le, Int.not_lt] at hc0
   have hres := st_many hck (l := l) (by omega)
   refine sy_seq ?_
   refine sy_tx' [0, 1] rfl ?_
   refine sy_sq ?_
   refine sp rfl (PE.assign rfl) rfl ?_
   refine sy_sq ?_
   refine sp rfl (PE.assign rfl) rfl ?_
   refine sy_sn ?_
   refine sy_nx ?_
   refine sy_ret ?_
   refine sy_tr ?_
   first
     | exact sy_return (vs := [_, _]) rfl (.cons (RV.tmp rfl) (.cons (RV.tmp rfl) .nil)) (by rw [hres]; rfl) ⟨rfl, rfl, rfl⟩ (fun _ h => by repeat first | exact h | replace h := St.tail h | replace h := St.ftail h | replace h := St.drop h)
     | exact sy_return (vs := [_, _]) rfl (.cons (RV.tmp rfl) (.cons (RV.tmp rfl) .nil)) (by rw [show stR t l = (0, 3) from st_rng hck (by omega) (List.all_eq_false.2 ⟨x, List.mem_of_getElem? hx, by rw [hbad]; simp⟩)]; rfl) ⟨rfl, rfl, rfl⟩ (fun _ h => by repeat first | exact h | replace h := St.tail h | replace h := St.ftail h | replace h := St.drop h)
     | exact sy_return (vs := [_, _]) rfl (.cons (RV.tmp rfl) (.cons (RV.tmp rfl) .nil)) (by rw [show stR t l = (0, 8) from st_bad hck (by omega) hn (fates_bad (pre := []) hx (by rw [List.nil_append, fate_can]; exact List.all_eq_false.2 ⟨q, List.mem_of_getElem? hcl, by rw [hbad]; simp⟩))]; rfl) ⟨rfl, rfl, rfl⟩ (fun _ h => by repeat first | exact h | replace h := St.tail h | replace h := St.ftail h | replace h := St.drop h)
  ·
   try simp only [decide_eq_true_eq, decide_eq_false_iff_not, Bool.and_eq_true, Bool.or_eq_true, Bool.not_eq_true', Int.not_le, Int.not_lt] at hc0
   
   refine sy_skip ?_
   refine sy_nx ?_
   refine sy_seq ?_
   refine sy_seq ?_
   refine sy_tx' [0] rfl ?_
   refine sy_sq ?_
   refine sp rfl (PE.assign rfl) rfl ?_
   refine sy_sn ?_
   refine sy_nx ?_
   refine sy_block ?_
   refine sy_loop (ι := {k : Nat // k ≤ l.length ∧ ((l.take k).all fun p => p.1.right t && inb p.2 0 1000000) = true}) (fun k => ⟨[(1, .slice a l.length c), (2, .pointer (some ⟨b2, 0, none⟩)), (6, .int .i64 k.1)], (b2, cel 37 (twl t (t.sl (some ⟨ba, oa, none⟩) ca))) :: H, R⟩) (fun k => l.length - k.1) ⟨0, by omega, by simp⟩ ?_ (fun k => ?_)
   ·
    exact sy_at (by repeat' first | exact Sub.nil | apply Sub.cons | rfl | (simp [lk]; omega)) (fun _ h => h)
   ·
    obtain ⟨k, hk, hn⟩ := k
    dsimp only at hk hn ⊢
    refine sy_seq ?_
    refine sy_seq ?_
    refine sy_tx' [0, 1, 2, 3] rfl ?_
    refine sy_sq ?_
    refine sp rfl (PE.move rfl) rfl ?_
    refine sy_sq ?_
    refine sp rfl (PE.move rfl) rfl ?_
    refine sy_sq ?_
    refine sp rfl (PE.lenSl isl101 rfl) rfl ?_
    refine sy_sq ?_
    refine sp rfl (PE.lss rfl rfl) rfl ?_
    refine sy_sn ?_
    refine sy_nx ?_
    refine sy_cond rfl (fun hc1 => ?_) (fun hc1 => ?_)
    ·
     try simp only [decide_eq_true_eq, decide_eq_false_iff_not, Bool.and_eq_true, Bool.or_eq_true, Bool.not_eq_true', Int.not_le, Int.not_lt] at hc1
     obtain ⟨x, hx⟩ : ∃ x, l[k]? = some x := ⟨_, List.getElem?_eq_getElem (by omega)⟩
     refine sy_addr (a := a) (sz := 4) (rows := frows l) (by intro h0; simp [frows] at h0; simp [h0] at hx) (fun bf of he => ?_)
     subst he
     refine sy_skip ?_
     refine sy_nx ?_
     refine sy_seq ?_
     refine sy_block ?_
     refine sy_seq ?_
     refine sy_draw [0, 0, 0, 6, 14, 30, 63, 127, 255, 511, 511, 2047, 4095, 8191, 16383, 32767] (.ld 0 (.tk 1 (.tk 2 (.tk 3 (.tk 4 (.ld 5 (.big 6 (.tk 7 (.tk 8 (.tk 9 (.tk 10 (.tk 11 (.tk 12 (.ld 13 (.big 14 (.tk 15 .done)))))))))))))))) mixed (by kernel_rfl) ?_
     refine ld rfl rfl (lhA [_, _, _, _, _, _, _, _, _, _, _] ag37 rfl rfl rfl) rfl ?_
     refine tk rfl (PE.move rfl) rfl ?_
     refine tk rfl (PE.move rfl) rfl ?_
     refine tk rfl (PE.indexAddr el101 rfl rfl (by omega) (by omega)) rfl ?_
     refine tk rfl (PE.fieldAddr fo173_0 rfl) rfl ?_
     refine ld rfl rfl (lfAt (j := 0) (row := frow x) [_, _, _] ag34 (fr_get hx) rfl rfl) rfl ?_
     refine sy_bg ?_
     refine clV rfl cal39 rfl rfl (c_rRight t x.1 _ _ _) ?_
     refine bg (fun w hs => ⟨trivial, trivial, trivial⟩) ?_
     refine tk rfl (PE.not rfl) rfl ?_
     refine tk rfl (PE.move rfl) rfl ?_
     refine sy_case (t := 31) rfl (fun g31 => ?_) (fun g31 => ?_)
     ·
      have hbad : (x.1.right t && inb x.2 0 1000000) = false := by rw [show x.1.right t = false from by simpa using g31]; rfl
      refine tkN rfl rfl rfl rfl rfl rfl rfl rfl ?_
      refine tkN rfl rfl rfl rfl rfl rfl rfl rfl ?_
      refine tkN rfl rfl rfl rfl rfl rfl rfl rfl ?_
      refine tkN rfl rfl rfl rfl rfl rfl rfl rfl ?_
      refine ldN rfl rfl rfl rfl rfl rfl rfl rfl ?_
      refine sy_bg ?_
      refine spN rfl rfl rfl rfl rfl rfl rfl rfl ?_
      refine bg (fun w hs => ⟨trivial, trivial⟩) ?_
      refine tk rfl (PE.pick rfl rfl rfl) rfl ?_
      refine sy_dn ?_
      refine sy_nx ?_
      refine sy_condT rfl ?_
      refine sy_seq ?_
      refine sy_tx' [0, 1] rfl ?_
      refine sy_sq ?_
      refine sp rfl (PE.assign rfl) rfl ?_
      refine sy_sq ?_
      refine sp rfl (PE.assign rfl) rfl ?_
      refine sy_sn ?_
      refine sy_nx ?_
      refine sy_ret ?_
      refine sy_br ?_
      refine sy_tr ?_
      refine sy_tr ?_
      refine sy_br ?_
      refine sy_tr ?_
      first
        | exact sy_return (vs := [_, _]) rfl (.cons (RV.tmp rfl) (.cons (RV.tmp rfl) .nil)) (by rw [hres]; rfl) ⟨rfl, rfl, rfl⟩ (fun _ h => by repeat first | exact h | replace h := St.tail h | replace h := St.ftail h | replace h := St.drop h)
        | exact sy_return (vs := [_, _]) rfl (.cons (RV.tmp rfl) (.cons (RV.tmp rfl) .nil)) (by rw [show stR t l = (0, 3) from st_rng hck (by omega) (List.all_eq_false.2 ⟨x, List.mem_of_getElem? hx, by rw [hbad]; simp⟩)]; rfl) ⟨rfl, rfl, rfl⟩ (fun _ h => by repeat first | exact h | replace h := St.tail h | replace h := St.ftail h | replace h := St.drop h)
        | exact sy_return (vs := [_, _]) rfl (.cons (RV.tmp rfl) (.cons (RV.tmp rfl) .nil)) (by rw [show stR t l = (0, 8) from st_bad hck (by omega) hn (fates_bad (pre := []) hx (by rw [List.nil_append, fate_can]; exact List.all_eq_false.2 ⟨q, List.mem_of_getElem? hcl, by rw [hbad]; simp⟩))]; rfl) ⟨rfl, rfl, rfl⟩ (fun _ h => by repeat first | exact h | replace h := St.tail h | replace h := St.ftail h | replace h := St.drop h)
     ·
      have hxr : x.1.right t = true := by simpa using g31
      refine tkG rfl rfl rfl rfl (PE.move rfl) rfl ?_
      refine tkG rfl rfl rfl rfl (PE.move rfl) rfl ?_
      refine tkG rfl rfl rfl rfl (PE.indexAddr el101 rfl rfl (by omega) (by omega)) rfl ?_
      refine tkG rfl rfl rfl rfl (PE.fieldAddr fo173_1 rfl) rfl ?_
      refine ldG rfl rfl rfl rfl rfl (lf (x := .int .i64 x.2) sc3 (fr_get hx) rfl) rfl ?_
      refine sy_bg ?_
      refine clVG rfl rfl rfl rfl cal83 rfl rfl (c_off _ _ _ _ _) ?_
      refine bg (fun w hs => ⟨trivial, trivial⟩) ?_
      refine tk rfl (PE.pick rfl rfl rfl) rfl ?_
      refine sy_dn ?_
      refine sy_nx ?_
      refine sy_cond rfl (fun hc2 => ?_) (fun hc2 => ?_)
      ·
       have hbad : (x.1.right t && inb x.2 0 1000000) = false := by rw [hxr, show inb x.2 0 1000000 = false from by rw [← Bool.not_eq_true']; exact hc2]; rfl
       refine sy_seq ?_
       refine sy_tx' [0, 1] rfl ?_
       refine sy_sq ?_
       refine sp rfl (PE.assign rfl) rfl ?_
       refine sy_sq ?_
       refine sp rfl (PE.assign rfl) rfl ?_
       refine sy_sn ?_
       refine sy_nx ?_
       refine sy_ret ?_
       refine sy_br ?_
       refine sy_tr ?_
       refine sy_tr ?_
       refine sy_br ?_
       refine sy_tr ?_
       first
         | exact sy_return (vs := [_, _]) rfl (.cons (RV.tmp rfl) (.cons (RV.tmp rfl) .nil)) (by rw [hres]; rfl) ⟨rfl, rfl, rfl⟩ (fun _ h => by repeat first | exact h | replace h := St.tail h | replace h := St.ftail h | replace h := St.drop h)
         | exact sy_return (vs := [_, _]) rfl (.cons (RV.tmp rfl) (.cons (RV.tmp rfl) .nil)) (by rw [show stR t l = (0, 3) from st_rng hck (by omega) (List.all_eq_false.2 ⟨x, List.mem_of_getElem? hx, by rw [hbad]; simp⟩)]; rfl) ⟨rfl, rfl, rfl⟩ (fun _ h => by repeat first | exact h | replace h := St.tail h | replace h := St.ftail h | replace h := St.drop h)
         | exact sy_return (vs := [_, _]) rfl (.cons (RV.tmp rfl) (.cons (RV.tmp rfl) .nil)) (by rw [show stR t l = (0, 8) from st_bad hck (by omega) hn (fates_bad (pre := []) hx (by rw [List.nil_append, fate_can]; exact List.all_eq_false.2 ⟨q, List.mem_of_getElem? hcl, by rw [hbad]; simp⟩))]; rfl) ⟨rfl, rfl, rfl⟩ (fun _ h => by repeat first | exact h | replace h := St.tail h | replace h := St.ftail h | replace h := St.drop h)
      ·
       have hgood : (x.1.right t && inb x.2 0 1000000) = true := by rw [hxr, show inb x.2 0 1000000 = true from by rw [← Bool.not_eq_false']; exact hc2]; rfl
       refine sy_skip ?_
       refine sy_bn ?_
       refine sy_nx ?_
       refine sy_tx' [0, 1, 2] rfl ?_
       refine sy_sq ?_
       refine sp rfl (PE.move rfl) rfl ?_
       refine sy_sq ?_
       refine sp rfl (PE.add rfl rfl (by omega)) rfl ?_
       refine sy_sq ?_
       refine sp rfl (PE.assign rfl) rfl ?_
       refine sy_sn ?_
       refine sy_nx ?_
       exact sy_next ⟨k + 1, by omega, by rw [take_snoc hx, List.all_append, hn]; simp only [List.all_cons, List.all_nil, Bool.and_true, Bool.true_and]; exact hgood⟩ (by dsimp only; omega) (by repeat' first | exact Sub.nil | apply Sub.cons | rfl | (simp [lk]; omega)) (fun _ h => h)
    ·
     try simp only [decide_eq_true_eq, decide_eq_false_iff_not, Bool.and_eq_true, Bool.or_eq_true, Bool.not_eq_true', Int.not_le, Int.not_lt] at hc1
     obtain rfl : k = l.length := by omega
     rw [List.take_length] at hn
     refine sy_exit ?_
     refine sy_tx ?_
     refine sy_tx ?_
     refine sy_bx ?_
     refine sy_nx ?_
     refine sy_seq ?_
     refine sy_tx' [0] rfl ?_
     refine sy_sq ?_
     refine sp rfl (PE.assign rfl) rfl ?_
     refine sy_sn ?_
     refine sy_nx ?_
     refine sy_seq ?_
     refine sy_seq ?_
     refine sy_tx' [0] rfl ?_
     refine sy_sq ?_
     refine sp rfl (PE.assign rfl) rfl ?_
     refine sy_sn ?_
     refine sy_nx ?_
     refine sy_block ?_
     refine sy_loop (ι := {k : Nat // k ≤ l.length ∧ fatesOk t [] (l.take k) = true}) (fun k => ⟨[(1, .slice a l.length c), (2, .pointer (some ⟨b2, 0, none⟩)), (7, .int .i64 (bestV (l.take k.1) t.now)), (8, .int .i64 k.1)], (b2, cel 37 (twl t (t.sl (some ⟨ba, oa, none⟩) ca))) :: H, R⟩) (fun k => l.length - k.1) ⟨0, by omega, rfl⟩ ?_ (fun k => ?_)
     ·
      exact sy_at (by repeat' first | exact Sub.nil | apply Sub.cons | rfl | (simp [lk]; omega)) (fun _ h => h)
     ·
      obtain ⟨k, hk, hfo⟩ := k
      dsimp only at hk hfo ⊢
      refine sy_seq ?_
      refine sy_seq ?_
      refine sy_tx' [0, 1, 2, 3] rfl ?_
      refine sy_sq ?_
      refine sp rfl (PE.move rfl) rfl ?_
      refine sy_sq ?_
      refine sp rfl (PE.move rfl) rfl ?_
      refine sy_sq ?_
      refine sp rfl (PE.lenSl isl101 rfl) rfl ?_
      refine sy_sq ?_
      refine sp rfl (PE.lss rfl rfl) rfl ?_
      refine sy_sn ?_
      refine sy_nx ?_
      refine sy_cond rfl (fun hc3 => ?_) (fun hc3 => ?_)
      ·
       try simp only [decide_eq_true_eq, decide_eq_false_iff_not, Bool.and_eq_true, Bool.or_eq_true, Bool.not_eq_true', Int.not_le, Int.not_lt] at hc3
       obtain ⟨x, hx⟩ : ∃ x, l[k]? = some x := ⟨_, List.getElem?_eq_getElem (by omega)⟩
       refine sy_addr (a := a) (sz := 4) (rows := frows l) (by intro h0; simp [frows] at h0; simp [h0] at hx) (fun bf of he => ?_)
       subst he
       obtain ⟨hxr, hx0, hx1⟩ := fat_rg hn (List.mem_of_getElem? hx)
       refine sy_skip ?_
       refine sy_nx ?_
       refine sy_seq ?_
       refine sy_block ?_
       refine sy_seq ?_
       refine sy_tx' [0, 1, 2, 3, 4, 5] rfl ?_
       refine sy_sq ?_
       refine sp rfl (PE.move rfl) rfl ?_
       refine sy_sq ?_
       refine sp rfl (PE.move rfl) rfl ?_
       refine sy_sq ?_
       refine sp rfl (PE.indexAddr el101 rfl rfl (by omega) (by omega)) rfl ?_
       refine sy_sq ?_
       refine spL rfl rfl (lfA (row := frow x) ag173 (fr_get hx) rfl) rfl ?_
       refine sy_sq ?_
       refine alc rfl zl173 rfl (fun b9 => ?_)
       refine sy_sq ?_
       refine sto rfl rfl rfl cn173 rfl rfl rfl rfl ?_
       refine sy_sn ?_
       refine sy_nx ?_
       refine sy_seq ?_
       refine sy_tx' [0, 1, 2, 3, 4] rfl ?_
       refine sy_sq ?_
       refine spL rfl rfl (lhA [_, _, _, _, _, _, _, _, _, _, _] ag37 rfl rfl rfl) rfl ?_
       refine sy_sq ?_
       refine sp rfl (PE.fieldAddr fo173_0 rfl) rfl ?_
       refine sy_sq ?_
       refine spL rfl rfl (lhA [_, _, _] ag34 rfl rfl rfl) rfl ?_
       refine sy_sq ?_
       refine cl rfl cal63 rfl rfl (c_rAllowed t ht x.1 ba oa ca _ _) ?_
       rintro _ _ R1 ⟨oL, rfl, rfl, hR1⟩
       obtain rfl := hR1.symm
       obtain ⟨aL, cL, hoL, hfL⟩ := oL.freeze
       rw [hoL]
       refine Sy.heap (fun w h => hfL h) ?_
       rw [show (irows (canU t x.1)).length = (canL t x.1).length from by rw [irows, List.length_map, canU_len]]
       refine sy_sq ?_
       refine sp rfl (PE.assign rfl) rfl ?_
       refine sy_sn ?_
       refine sy_nx ?_
       refine sy_seq ?_
       refine sy_seq ?_
       refine sy_tx' [0] rfl ?_
       refine sy_sq ?_
       refine sp rfl (PE.assign rfl) rfl ?_
       refine sy_sn ?_
       refine sy_nx ?_
       refine sy_block ?_
       have hcl4 : (canL t x.1).length ≤ 4 := by have := canU_len t x.1; have := canU_le t x.1; have := ht.many; omega
       refine sy_loop (ι := {j : Nat // j ≤ (canL t x.1).length ∧ ∀ i q, i < j → (canL t x.1)[i]? = some q → (earlier (l.take k) (t.next x.1 q false) x.2 || (decide (x.1.dry < t.run) && earlier (l.take k) (t.next x.1 q true) (x.2 - 1))) = true}) (fun j => ⟨[(1, .slice (some ⟨bf, of, none⟩) l.length c), (2, .pointer (some ⟨b2, 0, none⟩)), (7, .int .i64 (bestV (l.take k) t.now)), (8, .int .i64 k), (9, .pointer (some ⟨b9, 0, none⟩)), (10, .slice aL (canL t x.1).length cL), (11, .int .i64 j.1)], (b9, cel 173 (frow x)) :: (b2, cel 37 (twl t (t.sl (some ⟨ba, oa, none⟩) ca))) :: H, RowsA aL 1 (irows (canU t x.1)) :: R⟩) (fun j => (canL t x.1).length - j.1) ⟨0, by omega, by omega⟩ ?_ (fun j => ?_)
       ·
        exact sy_at (by repeat' first | exact Sub.nil | apply Sub.cons | rfl | (simp [lk]; omega)) (fun _ h => h)
       ·
        obtain ⟨j, hj, hno⟩ := j
        dsimp only
        refine sy_seq ?_
        refine sy_seq ?_
        refine sy_tx' [0, 1, 2, 3] rfl ?_
        refine sy_sq ?_
        refine sp rfl (PE.move rfl) rfl ?_
        refine sy_sq ?_
        refine sp rfl (PE.move rfl) rfl ?_
        refine sy_sq ?_
        refine sp rfl (PE.lenSl isl42 rfl) rfl ?_
        refine sy_sq ?_
        refine sp rfl (PE.lss rfl rfl) rfl ?_
        refine sy_sn ?_
        refine sy_nx ?_
        refine sy_cond rfl (fun hc4 => ?_) (fun hc4 => ?_)
        ·
         try simp only [decide_eq_true_eq, decide_eq_false_iff_not, Bool.and_eq_true, Bool.or_eq_true, Bool.not_eq_true', Int.not_le, Int.not_lt] at hc4
         obtain ⟨rr, hrr⟩ : ∃ rr, (canU t x.1)[j]? = some rr := ⟨_, List.getElem?_eq_getElem (by rw [canU_len]; omega)⟩
         obtain ⟨q, hr0, hq, hcan, hcl⟩ := canU_get hrr
         have hqm := List.mem_of_getElem? hq
         have hrl := nthq hr0 hq
         refine sy_addr (a := aL) (sz := 1) (rows := irows (canU t x.1)) (by intro h0; simp [irows] at h0; simp [h0] at hrr) (fun bL fL he => ?_)
         subst he
         refine sy_skip ?_
         refine sy_nx ?_
         refine sy_seq ?_
         refine sy_block ?_
         refine sy_seq ?_
         refine sy_draw [0, 0, 0, 0, 8, 0, 0, 96, 224, 508, 0, 1024, 4095, 8191] (.tk 0 (.tk 1 (.ld 2 (.tk 3 (.ld 4 (.tk 5 (.tk 6 (.tk 7 (.ld 8 (.tk 10 (.ld 11 (.big 9 (.big 12 (.tk 13 .done)))))))))))))) mixed (by kernel_rfl) ?_
         refine tk rfl (PE.move rfl) rfl ?_
         refine tk rfl (PE.move rfl) rfl ?_
         refine ld rfl rfl (lhA [_, _, _, _, _, _, _, _, _, _, _] ag37 rfl rfl rfl) rfl ?_
         refine tk rfl (PE.fieldAddr fo173_0 rfl) rfl ?_
         refine ld rfl rfl (lhA [_, _, _] ag34 rfl rfl rfl) rfl ?_
         refine tk rfl (PE.move rfl) rfl ?_
         refine tk rfl (PE.move rfl) rfl ?_
         refine tk rfl (PE.indexAddr el42 rfl rfl (by omega) (by omega)) rfl ?_
         refine ld rfl rfl (lf0 (x := .int .i64 rr) sc3 (by simp [irows, hrr]; rfl) rfl) rfl ?_
         refine tk rfl (PE.fieldAddr fo173_1 rfl) rfl ?_
         refine ld rfl rfl (lh sc3 rfl rfl) rfl ?_
         refine sy_bg ?_
         refine clV rfl cal100 rfl rfl (c_rAfter t ht x.1 hxr rr q false ba oa ca hr0 hq (can_le hcan) _ _) ?_
         refine bg (fun w hs => ⟨(lh sc3 rfl rfl) w hs, trivial, trivial, trivial, trivial⟩) ?_
         refine sy_bg ?_
         refine clV rfl cal113 rfl rfl (c_rEarlier l k (by omega) (t.next x.1 q false) (x.2) _ c hl2 _ _) ?_
         refine bg (fun w hs => ⟨trivial, trivial⟩) ?_
         refine tk rfl (PE.assign rfl) rfl ?_
         refine sy_dn ?_
         refine sy_nx ?_
         refine sy_seq ?_
         refine sy_draw [0, 1, 3, 0, 8, 31, 63, 127, 127, 127, 127, 1151, 127, 127, 12415, 28799, 65151, 127, 131199, 393343, 1048575, 2097151, 4194303] (.tk 0 (.tk 1 (.ld 2 (.tk 3 (.ld 4 (.tk 5 (.tk 6 (.tk 7 (.tk 8 (.ld 9 (.tk 10 (.ld 11 (.tk 12 (.tk 13 (.tk 14 (.ld 15 (.tk 17 (.ld 18 (.tk 19 (.big 16 (.big 20 (.tk 21 (.tk 22 .done))))))))))))))))))))))) mixed (by kernel_rfl) ?_
         refine tk rfl (PE.fieldAddr fo173_0 rfl) rfl ?_
         refine tk rfl (PE.fieldAddr fo34_2 rfl) rfl ?_
         refine ld rfl rfl (lh sc3 rfl rfl) rfl ?_
         refine tk rfl (PE.fieldAddr fo37_4 rfl) rfl ?_
         refine ld rfl rfl (lh sc3 rfl rfl) rfl ?_
         refine tk rfl (PE.lss rfl rfl) rfl ?_
         refine tk rfl (PE.move rfl) rfl ?_
         refine sy_case (t := 78) rfl (fun g78 => ?_) (fun g78 => ?_)
         ·
          refine tkG rfl rfl rfl rfl (PE.move rfl) rfl ?_
          refine tkG rfl rfl rfl rfl (PE.move rfl) rfl ?_
          refine ldG rfl rfl rfl rfl rfl (lhA [_, _, _, _, _, _, _, _, _, _, _] ag37 rfl rfl rfl) rfl ?_
          refine tkG rfl rfl rfl rfl (PE.fieldAddr fo173_0 rfl) rfl ?_
          refine ldG rfl rfl rfl rfl rfl (lhA [_, _, _] ag34 rfl rfl rfl) rfl ?_
          refine tkG rfl rfl rfl rfl (PE.move rfl) rfl ?_
          refine tkG rfl rfl rfl rfl (PE.move rfl) rfl ?_
          refine tkG rfl rfl rfl rfl (PE.indexAddr el42 rfl rfl (by omega) (by omega)) rfl ?_
          refine ldG rfl rfl rfl rfl rfl (lf0 (x := .int .i64 rr) sc3 (by simp [irows, hrr]; rfl) rfl) rfl ?_
          refine tkG rfl rfl rfl rfl (PE.fieldAddr fo173_1 rfl) rfl ?_
          refine ldG rfl rfl rfl rfl rfl (lh sc3 rfl rfl) rfl ?_
          refine tkG rfl rfl rfl rfl (PE.sub rfl rfl (by omega)) rfl ?_
          refine sy_bg ?_
          refine clVG rfl rfl rfl rfl cal100 rfl rfl (c_rAfter t ht x.1 hxr rr q true ba oa ca hr0 hq (can_le hcan) _ _) ?_
          refine bg (fun w hs => ⟨(lh sc3 rfl rfl) w hs, trivial, trivial, trivial, trivial, trivial, trivial⟩) ?_
          refine sy_bg ?_
          refine clVG rfl rfl rfl rfl cal113 rfl rfl (c_rEarlier l k (by omega) (t.next x.1 q true) (x.2 - 1) _ c hl2 _ _) ?_
          refine bg (fun w hs => ⟨trivial, trivial⟩) ?_
          refine tk rfl (PE.pick rfl rfl rfl) rfl ?_
          refine tk rfl (PE.assign rfl) rfl ?_
          refine sy_dn ?_
          refine sy_nx ?_
          refine sy_seq ?_
          refine sy_tx' [0, 1, 2, 3, 4, 5] rfl ?_
          refine sy_sq ?_
          refine sp rfl (PE.move rfl) rfl ?_
          refine sy_sq ?_
          refine sp rfl (PE.not rfl) rfl ?_
          refine sy_sq ?_
          refine sp rfl (PE.move rfl) rfl ?_
          refine sy_sq ?_
          refine sy_case (t := 96) rfl (fun g96 => ?_) (fun g96 => ?_)
          ·
           have hgd : earlier (l.take k) (t.next x.1 q false) x.2 = false := by simpa using g96
           try have hbad : (earlier (l.take k) (t.next x.1 q false) x.2 || (decide (x.1.dry < t.run) && earlier (l.take k) (t.next x.1 q true) (x.2 - 1))) = false := by rw [hgd, g78]; rfl
           refine spG rfl rfl rfl rfl (PE.move rfl) rfl ?_
           refine sy_sq ?_
           refine spG rfl rfl rfl rfl (PE.not rfl) rfl ?_
           refine sy_sq ?_
           refine sp rfl (PE.pick rfl rfl rfl) rfl ?_
           refine sy_sn ?_
           refine sy_nx ?_
           refine sy_cond rfl (fun hc5 => ?_) (fun hc5 => ?_)
           ·
            have hbad : (earlier (l.take k) (t.next x.1 q false) x.2 || (decide (x.1.dry < t.run) && earlier (l.take k) (t.next x.1 q true) (x.2 - 1))) = false := by rw [hgd, g78]; simpa using hc5
            refine sy_seq ?_
            refine sy_tx' [0, 1] rfl ?_
            refine sy_sq ?_
            refine sp rfl (PE.assign rfl) rfl ?_
            refine sy_sq ?_
            refine sp rfl (PE.assign rfl) rfl ?_
            refine sy_sn ?_
            refine sy_nx ?_
            refine sy_ret ?_
            refine sy_br ?_
            refine sy_tr ?_
            refine sy_tr ?_
            refine sy_br ?_
            refine sy_tr ?_
            refine sy_br ?_
            refine sy_tr ?_
            refine sy_tr ?_
            refine sy_br ?_
            refine sy_tr ?_
            first
              | exact sy_return (vs := [_, _]) rfl (.cons (RV.tmp rfl) (.cons (RV.tmp rfl) .nil)) (by rw [hres]; rfl) ⟨rfl, rfl, rfl⟩ (fun _ h => by repeat first | exact h | replace h := St.tail h | replace h := St.ftail h | replace h := St.drop h)
              | exact sy_return (vs := [_, _]) rfl (.cons (RV.tmp rfl) (.cons (RV.tmp rfl) .nil)) (by rw [show stR t l = (0, 3) from st_rng hck (by omega) (List.all_eq_false.2 ⟨x, List.mem_of_getElem? hx, by rw [hbad]; simp⟩)]; rfl) ⟨rfl, rfl, rfl⟩ (fun _ h => by repeat first | exact h | replace h := St.tail h | replace h := St.ftail h | replace h := St.drop h)
              | exact sy_return (vs := [_, _]) rfl (.cons (RV.tmp rfl) (.cons (RV.tmp rfl) .nil)) (by rw [show stR t l = (0, 8) from st_bad hck (by omega) hn (fates_bad (pre := []) hx (by rw [List.nil_append, fate_can]; exact List.all_eq_false.2 ⟨q, List.mem_of_getElem? hcl, by rw [hbad]; simp⟩))]; rfl) ⟨rfl, rfl, rfl⟩ (fun _ h => by repeat first | exact h | replace h := St.tail h | replace h := St.ftail h | replace h := St.drop h)
           ·
            have hyes : (earlier (l.take k) (t.next x.1 q false) x.2 || (decide (x.1.dry < t.run) && earlier (l.take k) (t.next x.1 q true) (x.2 - 1))) = true := by rw [hgd, g78]; simpa using hc5
            refine sy_skip ?_
            refine sy_bn ?_
            refine sy_nx ?_
            refine sy_tx' [0, 1, 2] rfl ?_
            refine sy_sq ?_
            refine sp rfl (PE.move rfl) rfl ?_
            refine sy_sq ?_
            refine sp rfl (PE.add rfl rfl (by omega)) rfl ?_
            refine sy_sq ?_
            refine sp rfl (PE.assign rfl) rfl ?_
            refine sy_sn ?_
            refine sy_nx ?_
            exact sy_next ⟨j + 1, by omega, fun i q' hi hq' => by
              rcases Nat.lt_or_ge i j with h1 | h1
              · exact hno i q' h1 hq'
              · obtain rfl : i = j := by omega
                rw [hcl] at hq'; cases hq'; exact hyes⟩ (by dsimp only; omega) (by repeat' first | exact Sub.nil | apply Sub.cons | rfl | (simp [lk]; omega)) (fun _ h => h)
          ·
           have hyes : (earlier (l.take k) (t.next x.1 q false) x.2 || (decide (x.1.dry < t.run) && earlier (l.take k) (t.next x.1 q true) (x.2 - 1))) = true := by rw [show earlier (l.take k) (t.next x.1 q false) x.2 = true from by simpa using g96]; rfl
           refine spN rfl rfl rfl rfl rfl rfl rfl rfl ?_
           refine sy_sq ?_
           refine spN rfl rfl rfl rfl rfl rfl rfl rfl ?_
           refine sy_sq ?_
           refine sp rfl (PE.pick rfl rfl rfl) rfl ?_
           refine sy_sn ?_
           refine sy_nx ?_
           refine sy_condF rfl ?_
           refine sy_skip ?_
           refine sy_bn ?_
           refine sy_nx ?_
           refine sy_tx' [0, 1, 2] rfl ?_
           refine sy_sq ?_
           refine sp rfl (PE.move rfl) rfl ?_
           refine sy_sq ?_
           refine sp rfl (PE.add rfl rfl (by omega)) rfl ?_
           refine sy_sq ?_
           refine sp rfl (PE.assign rfl) rfl ?_
           refine sy_sn ?_
           refine sy_nx ?_
           exact sy_next ⟨j + 1, by omega, fun i q' hi hq' => by
             rcases Nat.lt_or_ge i j with h1 | h1
             · exact hno i q' h1 hq'
             · obtain rfl : i = j := by omega
               rw [hcl] at hq'; cases hq'; exact hyes⟩ (by dsimp only; omega) (by repeat' first | exact Sub.nil | apply Sub.cons | rfl | (simp [lk]; omega)) (fun _ h => h)
         ·
          refine tkN rfl rfl rfl rfl rfl rfl rfl rfl ?_
          refine tkN rfl rfl rfl rfl rfl rfl rfl rfl ?_
          refine ldN rfl rfl rfl rfl rfl rfl rfl rfl ?_
          refine tkN rfl rfl rfl rfl rfl rfl rfl rfl ?_
          refine ldN rfl rfl rfl rfl rfl rfl rfl rfl ?_
          refine tkN rfl rfl rfl rfl rfl rfl rfl rfl ?_
          refine tkN rfl rfl rfl rfl rfl rfl rfl rfl ?_
          refine tkN rfl rfl rfl rfl rfl rfl rfl rfl ?_
          refine ldN rfl rfl rfl rfl rfl rfl rfl rfl ?_
          refine tkN rfl rfl rfl rfl rfl rfl rfl rfl ?_
          refine ldN rfl rfl rfl rfl rfl rfl rfl rfl ?_
          refine tkN rfl rfl rfl rfl rfl rfl rfl rfl ?_
          refine sy_bg ?_
          refine spN rfl rfl rfl rfl rfl rfl rfl rfl ?_
          refine bg (fun w hs => ⟨((fun _ _ => True.intro)) w hs, trivial, trivial, trivial, trivial, trivial, trivial⟩) ?_
          refine sy_bg ?_
          refine spN rfl rfl rfl rfl rfl rfl rfl rfl ?_
          refine bg (fun w hs => ⟨trivial, trivial⟩) ?_
          refine tk rfl (PE.pick rfl rfl rfl) rfl ?_
          refine tk rfl (PE.assign rfl) rfl ?_
          refine sy_dn ?_
          refine sy_nx ?_
          refine sy_seq ?_
          refine sy_tx' [0, 1, 2, 3, 4, 5] rfl ?_
          refine sy_sq ?_
          refine sp rfl (PE.move rfl) rfl ?_
          refine sy_sq ?_
          refine sp rfl (PE.not rfl) rfl ?_
          refine sy_sq ?_
          refine sp rfl (PE.move rfl) rfl ?_
          refine sy_sq ?_
          refine sy_case (t := 96) rfl (fun g96 => ?_) (fun g96 => ?_)
          ·
           have hgd : earlier (l.take k) (t.next x.1 q false) x.2 = false := by simpa using g96
           try have hbad : (earlier (l.take k) (t.next x.1 q false) x.2 || (decide (x.1.dry < t.run) && earlier (l.take k) (t.next x.1 q true) (x.2 - 1))) = false := by rw [hgd, g78]; rfl
           refine spG rfl rfl rfl rfl (PE.move rfl) rfl ?_
           refine sy_sq ?_
           refine spG rfl rfl rfl rfl (PE.not rfl) rfl ?_
           refine sy_sq ?_
           refine sp rfl (PE.pick rfl rfl rfl) rfl ?_
           refine sy_sn ?_
           refine sy_nx ?_
           refine sy_condT rfl ?_
           refine sy_seq ?_
           refine sy_tx' [0, 1] rfl ?_
           refine sy_sq ?_
           refine sp rfl (PE.assign rfl) rfl ?_
           refine sy_sq ?_
           refine sp rfl (PE.assign rfl) rfl ?_
           refine sy_sn ?_
           refine sy_nx ?_
           refine sy_ret ?_
           refine sy_br ?_
           refine sy_tr ?_
           refine sy_tr ?_
           refine sy_br ?_
           refine sy_tr ?_
           refine sy_br ?_
           refine sy_tr ?_
           refine sy_tr ?_
           refine sy_br ?_
           refine sy_tr ?_
           first
             | exact sy_return (vs := [_, _]) rfl (.cons (RV.tmp rfl) (.cons (RV.tmp rfl) .nil)) (by rw [hres]; rfl) ⟨rfl, rfl, rfl⟩ (fun _ h => by repeat first | exact h | replace h := St.tail h | replace h := St.ftail h | replace h := St.drop h)
             | exact sy_return (vs := [_, _]) rfl (.cons (RV.tmp rfl) (.cons (RV.tmp rfl) .nil)) (by rw [show stR t l = (0, 3) from st_rng hck (by omega) (List.all_eq_false.2 ⟨x, List.mem_of_getElem? hx, by rw [hbad]; simp⟩)]; rfl) ⟨rfl, rfl, rfl⟩ (fun _ h => by repeat first | exact h | replace h := St.tail h | replace h := St.ftail h | replace h := St.drop h)
             | exact sy_return (vs := [_, _]) rfl (.cons (RV.tmp rfl) (.cons (RV.tmp rfl) .nil)) (by rw [show stR t l = (0, 8) from st_bad hck (by omega) hn (fates_bad (pre := []) hx (by rw [List.nil_append, fate_can]; exact List.all_eq_false.2 ⟨q, List.mem_of_getElem? hcl, by rw [hbad]; simp⟩))]; rfl) ⟨rfl, rfl, rfl⟩ (fun _ h => by repeat first | exact h | replace h := St.tail h | replace h := St.ftail h | replace h := St.drop h)
          ·
           have hyes : (earlier (l.take k) (t.next x.1 q false) x.2 || (decide (x.1.dry < t.run) && earlier (l.take k) (t.next x.1 q true) (x.2 - 1))) = true := by rw [show earlier (l.take k) (t.next x.1 q false) x.2 = true from by simpa using g96]; rfl
           refine spN rfl rfl rfl rfl rfl rfl rfl rfl ?_
           refine sy_sq ?_
           refine spN rfl rfl rfl rfl rfl rfl rfl rfl ?_
           refine sy_sq ?_
           refine sp rfl (PE.pick rfl rfl rfl) rfl ?_
           refine sy_sn ?_
           refine sy_nx ?_
           refine sy_condF rfl ?_
           refine sy_skip ?_
           refine sy_bn ?_
           refine sy_nx ?_
           refine sy_tx' [0, 1, 2] rfl ?_
           refine sy_sq ?_
           refine sp rfl (PE.move rfl) rfl ?_
           refine sy_sq ?_
           refine sp rfl (PE.add rfl rfl (by omega)) rfl ?_
           refine sy_sq ?_
           refine sp rfl (PE.assign rfl) rfl ?_
           refine sy_sn ?_
           refine sy_nx ?_
           exact sy_next ⟨j + 1, by omega, fun i q' hi hq' => by
             rcases Nat.lt_or_ge i j with h1 | h1
             · exact hno i q' h1 hq'
             · obtain rfl : i = j := by omega
               rw [hcl] at hq'; cases hq'; exact hyes⟩ (by dsimp only; omega) (by repeat' first | exact Sub.nil | apply Sub.cons | rfl | (simp [lk]; omega)) (fun _ h => h)
        ·
         try simp only [decide_eq_true_eq, decide_eq_false_iff_not, Bool.and_eq_true, Bool.or_eq_true, Bool.not_eq_true', Int.not_le, Int.not_lt] at hc4
         obtain rfl : j = (canL t x.1).length := by omega
         have hfx : fateOk t (l.take k) x = true := by
           rw [fate_can]
           refine List.all_eq_true.2 fun q hq => ?_
           obtain ⟨i, hi⟩ := List.getElem?_of_mem hq
           exact hno i q (List.getElem?_eq_some_iff.1 hi).1 hi
         refine sy_exit ?_
         refine sy_tx ?_
         refine sy_tx ?_
         refine sy_bx ?_
         refine sy_nx ?_
         refine sy_seq ?_
         refine sy_tx' [0, 1, 2, 3, 4, 5, 6, 7, 8, 9, 10, 11, 12, 13, 14] rfl ?_
         refine sy_sq ?_
         have hbv := best_snoc (l := l) (k := k) (s := t.now) hx hx0 (best_lo (l := l) (t := t) (k := k) hn)
         rw [sta_eq] at hbv
         refine sp rfl (PE.fieldAddr fo173_0 rfl) rfl ?_
         refine sy_sq ?_
         refine spL rfl rfl (lhA [_, _, _] ag34 rfl rfl rfl) rfl ?_
         refine sy_sq ?_
         refine sp rfl (PE.fieldAddr fo37_0 rfl) rfl ?_
         refine sy_sq ?_
         refine spL rfl rfl (lhA [_, _, _] ag34 rfl rfl rfl) rfl ?_
         refine sy_sq ?_
         refine sp rfl (PE.eqlAgg [x.1.stock, x.1.short, x.1.dry] [t.now.stock, t.now.short, t.now.dry] (eqB_ok 10000 34 true 3 eqf34) eqg34 rfl rfl rfl rfl) rfl ?_
         refine sy_sq ?_
         refine sp rfl (PE.move rfl) rfl ?_
         refine sy_sq ?_
         refine sy_case (t := 105) rfl (fun g105 => ?_) (fun g105 => ?_)
         ·
          rw [g105] at hbv
          refine spG rfl rfl rfl rfl (PE.move rfl) rfl ?_
          refine sy_sq ?_
          refine spG rfl rfl rfl rfl (PE.lss rfl rfl) rfl ?_
          refine sy_sq ?_
          refine spG rfl rfl rfl rfl (PE.move rfl) rfl ?_
          refine sy_sq ?_
          refine sy_case (t := 108) rfl (fun g108 => ?_) (fun g108 => ?_)
          ·
           try simp only [decide_eq_true_eq, decide_eq_false_iff_not, Bool.and_eq_true, Bool.or_eq_true, Bool.not_eq_true', Int.not_le, Int.not_lt] at g108
           rw [decide_eq_true g108] at hbv
           refine spN rfl rfl rfl rfl rfl rfl rfl rfl ?_
           refine sy_sq ?_
           refine spN rfl rfl rfl rfl rfl rfl rfl rfl ?_
           refine sy_sq ?_
           refine spN rfl rfl rfl rfl rfl rfl rfl rfl ?_
           refine sy_sq ?_
           refine spN rfl rfl rfl rfl rfl rfl rfl rfl ?_
           refine sy_sq ?_
           refine spG rfl rfl rfl rfl (PE.pick rfl rfl rfl) rfl ?_
           refine sy_sq ?_
           refine sp rfl (PE.pick rfl rfl rfl) rfl ?_
           refine sy_sn ?_
           refine sy_nx ?_
           refine sy_condT rfl ?_
           refine sy_tx' [0, 1, 2] rfl ?_
           refine sy_sq ?_
           refine sp rfl (PE.fieldAddr fo173_1 rfl) rfl ?_
           refine sy_sq ?_
           refine spL rfl rfl (lh sc3 rfl rfl) rfl ?_
           refine sy_sq ?_
           refine sp rfl (PE.assign rfl) rfl ?_
           refine sy_sn ?_
           refine sy_bn ?_
           refine sy_nx ?_
           refine sy_tx' [0, 1, 2] rfl ?_
           refine sy_sq ?_
           refine sp rfl (PE.move rfl) rfl ?_
           refine sy_sq ?_
           refine sp rfl (PE.add rfl rfl (by omega)) rfl ?_
           refine sy_sq ?_
           refine sp rfl (PE.assign rfl) rfl ?_
           refine sy_sn ?_
           refine sy_nx ?_
           replace hbv := hbv.trans (show _ = _ from rfl)
           exact sy_next ⟨k + 1, by omega, fates_take hx hfo hfx⟩ (by dsimp only; omega) (by dsimp only; rw [hbv]; exact (by repeat' first | exact Sub.nil | apply Sub.cons | rfl | (simp [lk]; omega))) (fun w h => ((h.del b9 : St _ _ _).ftail))
          ·
           try simp only [decide_eq_true_eq, decide_eq_false_iff_not, Bool.and_eq_true, Bool.or_eq_true, Bool.not_eq_true', Int.not_le, Int.not_lt] at g108
           rw [decide_eq_false (show ¬ bestV (l.take k) t.now < 0 by omega)] at hbv
           refine spG rfl rfl rfl rfl (PE.fieldAddr fo173_1 rfl) rfl ?_
           refine sy_sq ?_
           refine spLG rfl rfl rfl rfl rfl (lh sc3 rfl rfl) rfl ?_
           refine sy_sq ?_
           refine spG rfl rfl rfl rfl (PE.move rfl) rfl ?_
           refine sy_sq ?_
           refine spG rfl rfl rfl rfl (PE.lss rfl rfl) rfl ?_
           refine sy_sq ?_
           refine spG rfl rfl rfl rfl (PE.pick rfl rfl rfl) rfl ?_
           refine sy_sq ?_
           refine sp rfl (PE.pick rfl rfl rfl) rfl ?_
           refine sy_sn ?_
           refine sy_nx ?_
           refine sy_cond rfl (fun hc6 => ?_) (fun hc6 => ?_)
           ·
            try simp only [decide_eq_true_eq, decide_eq_false_iff_not, Bool.and_eq_true, Bool.or_eq_true, Bool.not_eq_true', Int.not_le, Int.not_lt] at hc6
            try rw [decide_eq_true hc6] at hbv
            refine sy_tx' [0, 1, 2] rfl ?_
            refine sy_sq ?_
            refine sp rfl (PE.fieldAddr fo173_1 rfl) rfl ?_
            refine sy_sq ?_
            refine spL rfl rfl (lh sc3 rfl rfl) rfl ?_
            refine sy_sq ?_
            refine sp rfl (PE.assign rfl) rfl ?_
            refine sy_sn ?_
            refine sy_bn ?_
            refine sy_nx ?_
            refine sy_tx' [0, 1, 2] rfl ?_
            refine sy_sq ?_
            refine sp rfl (PE.move rfl) rfl ?_
            refine sy_sq ?_
            refine sp rfl (PE.add rfl rfl (by omega)) rfl ?_
            refine sy_sq ?_
            refine sp rfl (PE.assign rfl) rfl ?_
            refine sy_sn ?_
            refine sy_nx ?_
            replace hbv := hbv.trans (show _ = _ from rfl)
            exact sy_next ⟨k + 1, by omega, fates_take hx hfo hfx⟩ (by dsimp only; omega) (by dsimp only; rw [hbv]; exact (by repeat' first | exact Sub.nil | apply Sub.cons | rfl | (simp [lk]; omega))) (fun w h => ((h.del b9 : St _ _ _).ftail))
           ·
            try simp only [decide_eq_true_eq, decide_eq_false_iff_not, Bool.and_eq_true, Bool.or_eq_true, Bool.not_eq_true', Int.not_le, Int.not_lt] at hc6
            try rw [decide_eq_false (show ¬ x.2 < bestV (l.take k) t.now by omega)] at hbv
            refine sy_skip ?_
            refine sy_bn ?_
            refine sy_nx ?_
            refine sy_tx' [0, 1, 2] rfl ?_
            refine sy_sq ?_
            refine sp rfl (PE.move rfl) rfl ?_
            refine sy_sq ?_
            refine sp rfl (PE.add rfl rfl (by omega)) rfl ?_
            refine sy_sq ?_
            refine sp rfl (PE.assign rfl) rfl ?_
            refine sy_sn ?_
            refine sy_nx ?_
            replace hbv := hbv.trans (show _ = _ from rfl)
            exact sy_next ⟨k + 1, by omega, fates_take hx hfo hfx⟩ (by dsimp only; omega) (by dsimp only; rw [hbv]; exact (by repeat' first | exact Sub.nil | apply Sub.cons | rfl | (simp [lk]; omega))) (fun w h => ((h.del b9 : St _ _ _).ftail))
         ·
          rw [g105] at hbv
          refine spN rfl rfl rfl rfl rfl rfl rfl rfl ?_
          refine sy_sq ?_
          refine spN rfl rfl rfl rfl rfl rfl rfl rfl ?_
          refine sy_sq ?_
          refine spN rfl rfl rfl rfl rfl rfl rfl rfl ?_
          refine sy_sq ?_
          refine spU rfl rfl rfl rfl rfl rfl rfl ?_
          refine sy_sq ?_
          refine spU rfl rfl rfl rfl rfl rfl rfl ?_
          refine sy_sq ?_
          refine spU rfl rfl rfl rfl rfl rfl rfl ?_
          refine sy_sq ?_
          refine spU rfl rfl rfl rfl rfl rfl rfl ?_
          refine sy_sq ?_
          refine spN rfl rfl rfl rfl rfl rfl rfl rfl ?_
          refine sy_sq ?_
          refine sp rfl (PE.pick rfl rfl rfl) rfl ?_
          refine sy_sn ?_
          refine sy_nx ?_
          refine sy_condF rfl ?_
          refine sy_skip ?_
          refine sy_bn ?_
          refine sy_nx ?_
          refine sy_tx' [0, 1, 2] rfl ?_
          refine sy_sq ?_
          refine sp rfl (PE.move rfl) rfl ?_
          refine sy_sq ?_
          refine sp rfl (PE.add rfl rfl (by omega)) rfl ?_
          refine sy_sq ?_
          refine sp rfl (PE.assign rfl) rfl ?_
          refine sy_sn ?_
          refine sy_nx ?_
          replace hbv := hbv.trans (show _ = _ from rfl)
          exact sy_next ⟨k + 1, by omega, fates_take hx hfo hfx⟩ (by dsimp only; omega) (by dsimp only; rw [hbv]; exact (by repeat' first | exact Sub.nil | apply Sub.cons | rfl | (simp [lk]; omega))) (fun w h => ((h.del b9 : St _ _ _).ftail))
      ·
       try simp only [decide_eq_true_eq, decide_eq_false_iff_not, Bool.and_eq_true, Bool.or_eq_true, Bool.not_eq_true', Int.not_le, Int.not_lt] at hc3
       obtain rfl : k = l.length := by omega
       rw [List.take_length] at hfo
       have hst := st_hit hck (by omega) hn hfo
       rw [show bestV (l.take l.length) t.now = bestV l t.now from by rw [List.take_length]]
       refine sy_exit ?_
       refine sy_tx ?_
       refine sy_tx ?_
       refine sy_bx ?_
       refine sy_nx ?_
       refine sy_seq ?_
       refine sy_seq ?_
       refine sy_tx' [0, 1] rfl ?_
       refine sy_sq ?_
       refine sp rfl (PE.move rfl) rfl ?_
       refine sy_sq ?_
       refine sp rfl (PE.lss rfl rfl) rfl ?_
       refine sy_sn ?_
       refine sy_nx ?_
       refine sy_cond rfl (fun hc7 => ?_) (fun hc7 => ?_)
       ·
        try simp only [decide_eq_true_eq, decide_eq_false_iff_not, Bool.and_eq_true, Bool.or_eq_true, Bool.not_eq_true', Int.not_le, Int.not_lt] at hc7
        have hres : stR t l = (0, 6) := by rw [hst]; cases hm : minB l t.now with
          | none => rfl
          | some n => have := min_rg hn hm; unfold bestV at hc7; rw [hm] at hc7; simp only [Option.getD_some] at hc7; omega
        refine sy_seq ?_
        refine sy_tx' [0, 1] rfl ?_
        refine sy_sq ?_
        refine sp rfl (PE.assign rfl) rfl ?_
        refine sy_sq ?_
        refine sp rfl (PE.assign rfl) rfl ?_
        refine sy_sn ?_
        refine sy_nx ?_
        refine sy_ret ?_
        refine sy_tr ?_
        first
          | exact sy_return (vs := [_, _]) rfl (.cons (RV.tmp rfl) (.cons (RV.tmp rfl) .nil)) (by rw [hres]; rfl) ⟨rfl, rfl, rfl⟩ (fun _ h => by repeat first | exact h | replace h := St.tail h | replace h := St.ftail h | replace h := St.drop h)
          | exact sy_return (vs := [_, _]) rfl (.cons (RV.tmp rfl) (.cons (RV.tmp rfl) .nil)) (by rw [show stR t l = (0, 3) from st_rng hck (by omega) (List.all_eq_false.2 ⟨x, List.mem_of_getElem? hx, by rw [hbad]; simp⟩)]; rfl) ⟨rfl, rfl, rfl⟩ (fun _ h => by repeat first | exact h | replace h := St.tail h | replace h := St.ftail h | replace h := St.drop h)
          | exact sy_return (vs := [_, _]) rfl (.cons (RV.tmp rfl) (.cons (RV.tmp rfl) .nil)) (by rw [show stR t l = (0, 8) from st_bad hck (by omega) hn (fates_bad (pre := []) hx (by rw [List.nil_append, fate_can]; exact List.all_eq_false.2 ⟨q, List.mem_of_getElem? hcl, by rw [hbad]; simp⟩))]; rfl) ⟨rfl, rfl, rfl⟩ (fun _ h => by repeat first | exact h | replace h := St.tail h | replace h := St.ftail h | replace h := St.drop h)
       ·
        try simp only [decide_eq_true_eq, decide_eq_false_iff_not, Bool.and_eq_true, Bool.or_eq_true, Bool.not_eq_true', Int.not_le, Int.not_lt] at hc7
        have hres : stR t l = (bestV l t.now, 0) := by rw [hst]; cases hm : minB l t.now with
          | none => unfold bestV at hc7; rw [hm] at hc7; simp at hc7
          | some n => unfold bestV; rw [hm]; rfl
        refine sy_skip ?_
        refine sy_nx ?_
        refine sy_seq ?_
        refine sy_tx' [0, 1, 2] rfl ?_
        refine sy_sq ?_
        refine sp rfl (PE.move rfl) rfl ?_
        refine sy_sq ?_
        refine sp rfl (PE.assign rfl) rfl ?_
        refine sy_sq ?_
        refine sp rfl (PE.assign rfl) rfl ?_
        refine sy_sn ?_
        refine sy_nx ?_
        refine sy_ret ?_
        first
          | exact sy_return (vs := [_, _]) rfl (.cons (RV.tmp rfl) (.cons (RV.tmp rfl) .nil)) (by rw [hres]; rfl) ⟨rfl, rfl, rfl⟩ (fun _ h => by repeat first | exact h | replace h := St.tail h | replace h := St.ftail h | replace h := St.drop h)
          | exact sy_return (vs := [_, _]) rfl (.cons (RV.tmp rfl) (.cons (RV.tmp rfl) .nil)) (by rw [show stR t l = (0, 3) from st_rng hck (by omega) (List.all_eq_false.2 ⟨x, List.mem_of_getElem? hx, by rw [hbad]; simp⟩)]; rfl) ⟨rfl, rfl, rfl⟩ (fun _ h => by repeat first | exact h | replace h := St.tail h | replace h := St.ftail h | replace h := St.drop h)
          | exact sy_return (vs := [_, _]) rfl (.cons (RV.tmp rfl) (.cons (RV.tmp rfl) .nil)) (by rw [show stR t l = (0, 8) from st_bad hck (by omega) hn (fates_bad (pre := []) hx (by rw [List.nil_append, fate_can]; exact List.all_eq_false.2 ⟨q, List.mem_of_getElem? hcl, by rw [hbad]; simp⟩))]; rfl) ⟨rfl, rfl, rfl⟩ (fun _ h => by repeat first | exact h | replace h := St.tail h | replace h := St.ftail h | replace h := St.drop h)

theorem c_ends (l : List Fat) (a : Option Addr) (c : Nat) (hl : l.length ≤ 1000000) (H : Heap) (R : Facts) [hR : MemRows a 4 (frows l) R] :
    Fn Try.prog 59 [.slice a l.length c] H R (fun v H' R' => ∃ a' c', v = .slice a' l.length c' ∧ H' = H ∧ R' = RowsA a' 4 (frows l) :: R) := by
  refine fn_of Try.func59 rfl Try.ntmps59 rfl ?_
  refine sy_seq ?_
  refine sy_tx' [0] rfl ?_
  refine sy_sq ?_
  refine sp rfl (PE.assign rfl) rfl ?_
  refine sy_sn ?_
  refine sy_nx ?_
  refine sy_seq ?_
  refine sy_tx' [0] rfl ?_
  refine sy_sq ?_
  refine sp rfl (PE.assign rfl) rfl ?_
  refine sy_sn ?_
  refine sy_nx ?_
  refine sy_seq ?_
  refine sy_seq ?_
  refine sy_tx' [0, 1, 2] rfl ?_
  refine sy_sq ?_
  refine sp rfl (PE.move rfl) rfl ?_
  refine sy_sq ?_
  refine sp rfl (PE.lenSl isl96 rfl) rfl ?_
  refine sy_sq ?_
  refine sp rfl (PE.move rfl) rfl ?_
  refine sy_sn ?_
  refine sy_nx ?_
  refine sy_block ?_
  refine sy_loop (ι := (k : {k : Nat // k ≤ l.length}) × OSl 173 4 (frows (l.take k.1))) (fun x => ⟨[(3, x.2.fs), (6, .slice a l.length c), (7, .int .i64 l.length), (8, .int .i64 x.1.1)], x.2.G ++ H, R⟩) (fun x => l.length - x.1.1) ⟨⟨0, by omega⟩, (OSl.nil _ _).cast (by simp [frows])⟩ ?_ (fun x => ?_)
  ·
   exact sy_at (by repeat' first | exact Sub.nil | apply Sub.cons | rfl | (simp [lk]; omega)) (fun _ h => h)
  ·
   obtain ⟨⟨k, hk⟩, o'⟩ := x
   dsimp only at o' ⊢
   refine sy_seq ?_
   refine sy_tx' [0] rfl ?_
   refine sy_sq ?_
   refine sp rfl (PE.lss rfl rfl) rfl ?_
   refine sy_sn ?_
   refine sy_nx ?_
   refine sy_seq ?_
   refine sy_cond rfl (fun hc0 => ?_) (fun hc0 => ?_)
   ·
    try simp only [decide_eq_true_eq, decide_eq_false_iff_not, Bool.and_eq_true, Bool.or_eq_true, Bool.not_eq_true', Int.not_le, Int.not_lt] at hc0
    obtain ⟨x, hx⟩ : ∃ x, l[k]? = some x := ⟨_, List.getElem?_eq_getElem (by omega)⟩
    refine sy_addr (a := a) (sz := 4) (rows := frows l) (by intro h0; simp [frows] at h0; simp [h0] at hx) (fun bf of he => ?_)
    subst he
    refine sy_skip ?_
    refine sy_nx ?_
    refine sy_seq ?_
    refine sy_block ?_
    refine sy_seq ?_
    refine sy_tx' [0, 1, 2, 3] rfl ?_
    refine sy_sq ?_
    refine sp rfl (PE.indexAddr el96 rfl rfl (by omega) (by omega)) rfl ?_
    refine sy_sq ?_
    refine spL rfl rfl (lfA (row := frow x) ag99 (fr_get hx) rfl) rfl ?_
    refine sy_sq ?_
    refine alc rfl zl99 rfl (fun b5 => ?_)
    refine sy_sq ?_
    refine sto rfl rfl rfl cn99 rfl rfl rfl rfl ?_
    refine sy_sn ?_
    refine sy_nx ?_
    refine sy_tx' [0, 1, 2, 3, 4, 5, 6, 7, 8] rfl ?_
    refine sy_sq ?_
    refine sp rfl (PE.move rfl) rfl ?_
    refine sy_sq ?_
    refine sp rfl (PE.fieldAddr fo99_0 rfl) rfl ?_
    refine sy_sq ?_
    refine spL rfl rfl (lhA [_, _, _] ag23 rfl rfl rfl) rfl ?_
    refine sy_sq ?_
    refine sp rfl (PE.fieldAddr fo99_1 rfl) rfl ?_
    refine sy_sq ?_
    refine spL rfl rfl (lh sc3 rfl rfl) rfl ?_
    refine sy_sq ?_
    refine sp rfl (PE.build (out := [_, _, _, _]) pl173 zl173 rfl rfl) rfl ?_
    refine sy_sq ?_
    refine bsl (out := [_, _, _, _]) rfl sl101 zl173 rfl rfl rfl rfl rfl rfl (fun b18 => ?_)
    refine sy_sq ?_
    refine apO (o') rfl ap101 rfl rfl (rowsH (row := frow x) rfl) rfl rfl ((by simp only [frows, List.length_map, List.length_take, List.length_singleton]; omega)) rfl (fun o19 => ?_)
    refine sy_sq ?_
    refine sp rfl (PE.assign rfl) rfl ?_
    refine sy_sn ?_
    refine sy_bn ?_
    refine sy_nx ?_
    refine sy_tx' [0, 1] rfl ?_
    refine sy_sq ?_
    refine sp rfl (PE.add rfl rfl (by omega)) rfl ?_
    refine sy_sq ?_
    refine sp rfl (PE.move rfl) rfl ?_
    refine sy_sn ?_
    refine sy_nx ?_
    exact sy_next ⟨⟨k + 1, by omega⟩, o19.cast (by rw [List.take_add_one, hx]; simp [frows])⟩ (by dsimp only; omega) (by repeat' first | exact Sub.nil | apply Sub.cons | rfl | (simp [lk]; omega)) (fun w h => (h.del b18).del b5)
   ·
    try simp only [decide_eq_true_eq, decide_eq_false_iff_not, Bool.and_eq_true, Bool.or_eq_true, Bool.not_eq_true', Int.not_le, Int.not_lt] at hc0
    obtain rfl : k = l.length := by omega
    obtain ⟨a', c', he, hf⟩ := (o'.cast (by rw [List.take_length]) : OSl _ 4 (frows l)).freeze
    rw [show o'.fs = _ from he]
    refine Sy.heap (fun w h => hf h) ?_
    rw [show (frows l).length = l.length from List.length_map _]
    refine sy_exit ?_
    refine sy_tx ?_
    refine sy_tx ?_
    refine sy_bx ?_
    refine sy_nx ?_
    refine sy_seq ?_
    refine sy_tx' [0, 1] rfl ?_
    refine sy_sq ?_
    refine sp rfl (PE.move rfl) rfl ?_
    refine sy_sq ?_
    refine sp rfl (PE.assign rfl) rfl ?_
    refine sy_sn ?_
    refine sy_nx ?_
    refine sy_ret ?_
    exact sy_return (vs := [_]) rfl (.cons (RV.tmp rfl) .nil) rfl ⟨a', c', rfl, rfl, rfl⟩ (fun _ h => h)

theorem c_clone_fate (xs : List Fat) (a : Option Addr) (c : Nat) (hl : xs.length ≤ 1000000) (H : Heap) (R : Facts) [hR : MemRows a 4 (frows xs) R] :
    Fn Try.prog 71 [.slice a xs.length c] H R (fun v H' R' => ∃ o : OSl 99 4 (frows xs), v = o.fs ∧ H' = o.G ++ H ∧ R' = R) := by
  refine fn_of Try.func71 rfl Try.ntmps71 rfl ?_
  refine sy_seq ?_
  refine sy_tx' [0] rfl ?_
  refine sy_sq ?_
  refine sp rfl (PE.assign rfl) rfl ?_
  refine sy_sn ?_
  refine sy_nx ?_
  refine sy_seq ?_
  refine sy_seq ?_
  refine sy_tx' [0, 1] rfl ?_
  refine sy_sq ?_
  refine sp rfl (PE.move rfl) rfl ?_
  refine sy_sq ?_
  refine sp rfl (PE.eqlNil isl96 rfl rfl) rfl ?_
  refine sy_sn ?_
  refine sy_nx ?_
  refine sy_cond rfl (fun hc0 => ?_) (fun hc0 => ?_)
  ·
   refine Sy.pre (fun w h => rows_nil (h.now hR.mem) hc0) (fun hnil => ?_)
   obtain rfl : xs = [] := by simpa [frows] using hnil
   refine sy_seq ?_
   refine sy_tx' [0] rfl ?_
   refine sy_sq ?_
   refine sp rfl (PE.assign rfl) rfl ?_
   refine sy_sn ?_
   refine sy_nx ?_
   refine sy_ret ?_
   refine sy_tr ?_
   first
     | exact sy_return (vs := [_]) rfl (.cons (RV.tmp rfl) .nil) rfl ⟨o2.cast (by simp), rfl, rfl, rfl⟩ (fun _ h => h)
     | exact sy_return (vs := [_]) rfl (.cons (RV.tmp rfl) .nil) rfl ⟨OSl.nil _ _, rfl, rfl, rfl⟩ (fun _ h => h)
  ·
   refine sy_skip ?_
   refine sy_nx ?_
   refine sy_seq ?_
   refine sy_tx' [0, 1, 2, 3] rfl ?_
   refine sy_sq ?_
   refine bsl0 rfl sl96 rfl (fun o5 ho5 => ?_)
   refine sy_sq ?_
   refine sp rfl (PE.move rfl) rfl ?_
   refine sy_sq ?_
   refine apO (news := frows xs) o5 rfl ap96 rfl rfl (rowsF) (by simp [frows]) (by simp [onecells, frows, frow, Value.oneCell']) ⟨by simp [frows]; omega, by simp [frows]; omega⟩ rfl (fun o2 => ?_)
   refine sy_sq ?_
   refine sp rfl (PE.assign rfl) rfl ?_
   refine sy_sn ?_
   refine sy_nx ?_
   refine sy_ret ?_
   first
     | exact sy_return (vs := [_]) rfl (.cons (RV.tmp rfl) .nil) rfl ⟨o2.cast (by simp), rfl, rfl, rfl⟩ (fun _ h => h)
     | exact sy_return (vs := [_]) rfl (.cons (RV.tmp rfl) .nil) rfl ⟨OSl.nil _ _, rfl, rfl, rfl⟩ (fun _ h => h)

theorem kv_min {s : Sta} : ∀ (l : List Fat) (kv : KV) (o : Option Int), (kv.get [s.stock, s.short, s.dry]).isSome = o.isSome → ((l.foldl (fun (kv : KV) p => kv.put [p.1.stock, p.1.short, p.1.dry] (.int .i64 p.2)) kv).get [s.stock, s.short, s.dry]).isSome = (l.foldl (minStep s) o).isSome
  | [], _, _, h => h
  | p :: l, kv, o, h => by
    refine kv_min l _ (minStep s o p) ?_
    rw [KV.get_put]
    unfold minStep
    rw [sta_eq]
    cases decide ([p.1.stock, p.1.short, p.1.dry] = [s.stock, s.short, s.dry]) with
    | true => rfl
    | false => exact h
theorem kvOf_min (l : List Fat) (s : Sta) : ((kvOf l).get [s.stock, s.short, s.dry]).isSome = (minB l s).isSome := kv_min l [] none rfl
theorem ever_iff {t : Twn} (ht : t.ok) {σ : Sv} (h : Solv t σ) {s : Sta} (hs : s.right t = true) : (minB σ.fl s).isSome = !decide (lat (LY t) s = 1000000) := by
  rw [(solv_fl ht h).1.at_ s hs, ← (solv_lsa ht h).same ht s hs]
  unfold ever
  cases decide (lat σ.y s = 1000000) <;> rfl

theorem c_Fates (t : Twn) (hl : t.rats.length ≤ 9223372036854775807) (ba oa ca : Nat) (H : Heap) (R : Facts) [hR : MemRows (some ⟨ba, oa, none⟩) 2 (rrows t.rats) R] :
    Fn Try.prog 61 [t.v (t.sl (some ⟨ba, oa, none⟩) ca)] H R (fun v H' R' => ∃ (l : List Fat) (o : OSl 99 4 (frows l)), v = .tuple #[o.fs, .int .i64 (fatE t)] ∧ H' = o.G ++ H ∧ R' = R ∧ l.length ≤ 496 ∧ (fatE t ≠ 0 → l = []) ∧ (fatE t = 0 → t.check = 0 ∧ LSA t (LY t) ∧ lat (LY t) t.now ≠ 1000000 ∧ stR t l = (lat (LY t) t.now + 1, 0))) := by
  refine fn_of Try.func61 rfl Try.ntmps61 rfl ?_
  refine sy_seq ?_
  refine sy_tx' [0, 1, 2] rfl ?_
  refine sy_sq ?_
  refine bx rfl rfl rfl (fun b1 => ?_)
  refine sy_sq ?_
  refine sp rfl (PE.assign rfl) rfl ?_
  refine sy_sq ?_
  refine sp rfl (PE.assign rfl) rfl ?_
  refine sy_sn ?_
  refine sy_nx ?_
  refine sy_seq ?_
  refine sy_tx' [0, 1, 2, 3, 4, 5, 6] rfl ?_
  refine sy_sq ?_
  refine spL rfl rfl (lhA [_, _, _, _, _, _, _, _, _, _, _] ag26 rfl rfl rfl) rfl ?_
  refine sy_sq ?_
  refine cl rfl cal97 rfl rfl (c_solved t hl ba oa ca _ _) ?_
  rintro _ _ _ (⟨hck, rfl, rfl, rfl⟩ | ⟨hck, bw, m, bt, σ, o, hσ, rfl, rfl, rfl⟩)
  ·
   refine sy_sq ?_
   refine sp rfl (PE.move rfl) rfl ?_
   refine sy_sq ?_
   refine sp rfl (PE.extract rfl rfl) rfl ?_
   refine sy_sq ?_
   refine sp rfl (PE.extract rfl rfl) rfl ?_
   refine sy_sq ?_
   refine sp rfl (PE.assign rfl) rfl ?_
   refine sy_sq ?_
   refine sp rfl (PE.assign rfl) rfl ?_
   refine sy_sn ?_
   refine sy_nx ?_
   refine sy_seq ?_
   refine sy_seq ?_
   refine sy_tx' [0, 1] rfl ?_
   refine sy_sq ?_
   refine sp rfl (PE.move rfl) rfl ?_
   refine sy_sq ?_
   refine sp rfl (PE.neq rfl rfl) rfl ?_
   refine sy_sn ?_
   refine sy_nx ?_
   refine sy_condT (congrArg (fun b => some (Value.bool b)) (decide_eq_true hck)) ?_
   refine sy_seq ?_
   refine sy_tx' [0, 1, 2] rfl ?_
   refine sy_sq ?_
   refine sp rfl (PE.move rfl) rfl ?_
   refine sy_sq ?_
   refine sp rfl (PE.assign rfl) rfl ?_
   refine sy_sq ?_
   refine sp rfl (PE.assign rfl) rfl ?_
   refine sy_sn ?_
   refine sy_nx ?_
   refine sy_ret ?_
   refine sy_tr ?_
   have hfe : fatE t = t.check := by simp [fatE, hck]
   exact sy_return (vs := [_, _]) rfl (.cons (RV.tmp rfl) (.cons (RV.tmp rfl) .nil)) (by rw [hfe]; rfl) ⟨[], OSl.nil _ _, rfl, rfl, rfl, by simp, fun _ => rfl, fun h => absurd (hfe ▸ h) hck⟩ (fun _ h => by repeat first | exact h | replace h := St.tail h | replace h := St.ftail h | replace h := St.drop h)
  ·
   refine sy_sq ?_
   have hok := (ok_of_check hck).1
   have hsl := solv_ok hok hσ
   obtain ⟨hfl, hfn⟩ := solv_fl hok hσ
   have hlsa := solv_lsa hok hσ
   have hev := (kvOf_min σ.fl t.now).trans (ever_iff hok hσ hok.now)
   refine sp rfl (PE.move rfl) rfl ?_
   refine sy_sq ?_
   refine sp rfl (PE.extract rfl rfl) rfl ?_
   refine sy_sq ?_
   refine sp rfl (PE.extract rfl rfl) rfl ?_
   refine sy_sq ?_
   refine sp rfl (PE.assign rfl) rfl ?_
   refine sy_sq ?_
   refine sp rfl (PE.assign rfl) rfl ?_
   refine sy_sn ?_
   refine sy_nx ?_
   refine sy_seq ?_
   refine sy_seq ?_
   refine sy_tx' [0, 1] rfl ?_
   refine sy_sq ?_
   refine sp rfl (PE.move rfl) rfl ?_
   refine sy_sq ?_
   refine sp rfl (PE.neq rfl rfl) rfl ?_
   refine sy_sn ?_
   refine sy_nx ?_
   refine sy_condF (rfl) ?_
   refine sy_skip ?_
   refine sy_nx ?_
   refine sy_seq ?_
   refine sy_seq ?_
   refine sy_draw [0, 1, 3, 7, 0, 16, 63, 127, 255, 255, 511, 2047] (.tk 0 (.tk 1 (.tk 2 (.ld 3 (.tk 4 (.ld 5 (.ld 6 (.tk 7 (.tk 8 (.tk 9 (.tk 10 (.tk 11 .done)))))))))))) mixed (by kernel_rfl) ?_
   refine tk rfl (PE.move rfl) rfl ?_
   refine tk rfl (PE.nilCheck rfl) rfl ?_
   refine tk rfl (PE.fieldAddr fo153_4 rfl) rfl ?_
   refine ld rfl rfl (lh sc151 rfl (rc_bads hsl)) rfl ?_
   refine tk rfl (PE.fieldAddr fo26_0 rfl) rfl ?_
   refine ld rfl rfl (lhA [_, _, _] ag23 rfl rfl rfl) rfl ?_
   refine ldK rfl rfl rfl (lk_held (kvOf σ.fl) [t.now.stock, t.now.short, t.now.dry] mke151 (KeyT.of eqf23 noa23) (run_zv zv3) rfl (kvOf_len _) true) rfl ?_
   rw [hev]
   refine tk rfl (PE.move rfl) rfl ?_
   refine tk rfl (PE.extract rfl rfl) rfl ?_
   refine tk rfl (PE.extract rfl rfl) rfl ?_
   refine tk rfl (PE.assign rfl) rfl ?_
   refine tk rfl (PE.assign rfl) rfl ?_
   refine sy_dn ?_
   refine sy_nx ?_
   refine sy_seq ?_
   refine sy_tx' [0, 1] rfl ?_
   refine sy_sq ?_
   refine sp rfl (PE.move rfl) rfl ?_
   refine sy_sq ?_
   refine sp rfl (PE.not rfl) rfl ?_
   refine sy_sn ?_
   refine sy_nx ?_
   refine sy_cond rfl (fun hc1 => ?_) (fun hc1 => ?_)
   ·
    have hlv : lat (LY t) t.now = 1000000 := by simpa using hc1
    have hfe : fatE t = 6 := by simp [fatE, hck, hlv]
    refine sy_seq ?_
    refine sy_tx' [0, 1] rfl ?_
    refine sy_sq ?_
    refine sp rfl (PE.assign rfl) rfl ?_
    refine sy_sq ?_
    refine sp rfl (PE.assign rfl) rfl ?_
    refine sy_sn ?_
    refine sy_nx ?_
    refine sy_ret ?_
    refine sy_tr ?_
    first
      | exact sy_return (vs := [_, _]) rfl (.cons (RV.tmp rfl) (.cons (RV.tmp rfl) .nil)) (by rw [hfe]; rfl) ⟨[], OSl.nil _ _, rfl, rfl, rfl, by simp, fun _ => rfl, fun h => by rw [hfe] at h; cases h⟩ (fun w h => (((((h.del b1).del bw).del m).ftail).drop))
      | exact sy_return (vs := [_, _]) rfl (.cons (RV.tmp rfl) (.cons (RV.tmp rfl) .nil)) (by rw [hfe]; rfl) ⟨σ.fl, oc, rfl, rfl, rfl, hfn, fun h => absurd hfe h, fun _ => ⟨hck, hlsa.ly hok, hlv, hst⟩⟩ (fun w h => (((h.del b1).del bw).del m).ftail.ftail)
   ·
    have hlv : lat (LY t) t.now ≠ 1000000 := by simpa using hc1
    have hfe : fatE t = 0 := by simp [fatE, hck, hlv]
    have hst := st_fl hck hσ (by rw [hlsa.same hok _ hok.now]; exact hlv)
    rw [hlsa.same hok _ hok.now] at hst
    refine sy_skip ?_
    refine sy_nx ?_
    refine sy_seq ?_
    refine sy_tx' [0, 1, 2, 3, 4, 5, 6] rfl ?_
    refine sy_sq ?_
    obtain ⟨a', c', ho, hf⟩ := o.freeze
    rw [ho]
    refine Sy.heap (fun w h => hf h) ?_
    rw [show (frows σ.fl).length = σ.fl.length from List.length_map _]
    refine sp rfl (PE.move rfl) rfl ?_
    refine sy_sq ?_
    refine sp rfl (PE.nilCheck rfl) rfl ?_
    refine sy_sq ?_
    refine sp rfl (PE.fieldAddr fo153_3 rfl) rfl ?_
    refine sy_sq ?_
    refine spL rfl rfl (lh sc96 rfl (rc_fates hsl)) rfl ?_
    refine sy_sq ?_
    refine cl rfl cal71 rfl rfl (c_clone_fate σ.fl a' c' (by omega) _ _) ?_
    rintro _ _ _ ⟨oc, rfl, rfl, rfl⟩
    refine sy_sq ?_
    refine sp rfl (PE.assign rfl) rfl ?_
    refine sy_sq ?_
    refine sp rfl (PE.assign rfl) rfl ?_
    refine sy_sn ?_
    refine sy_nx ?_
    refine sy_ret ?_
    first
      | exact sy_return (vs := [_, _]) rfl (.cons (RV.tmp rfl) (.cons (RV.tmp rfl) .nil)) (by rw [hfe]; rfl) ⟨[], OSl.nil _ _, rfl, rfl, rfl, by simp, fun _ => rfl, fun h => by rw [hfe] at h; cases h⟩ (fun w h => (((((h.del b1).del bw).del m).ftail).drop))
      | exact sy_return (vs := [_, _]) rfl (.cons (RV.tmp rfl) (.cons (RV.tmp rfl) .nil)) (by rw [hfe]; rfl) ⟨σ.fl, oc, rfl, rfl, rfl, hfn, fun h => absurd hfe h, fun _ => ⟨hck, hlsa.ly hok, hlv, hst⟩⟩ (fun w h => (((h.del b1).del bw).del m).ftail.ftail)

theorem c_BreadFates (t : Twn) (a : Option Addr) (c : Nat) (hl : t.rats.length ≤ 9223372036854775807) (l : List Fat) (a2 : Option Addr) (c2 : Nat) (hl2 : l.length ≤ 9223372036854775807) (H : Heap) (R : Facts) [hR : MemRows a 2 (rrows t.rats) R] [hR2 : MemRows a2 4 (frows l) R] :
    Fn Try.prog 11 [t.v (t.sl a c), .slice a2 l.length c2] H R (fun v H' R' => v = .bool true ∧ H' = H ∧ R' = R) := by
  refine fn_of Try.func11 rfl Try.ntmps11 rfl ?_
  refine sy_seq ?_
  refine sy_tx' [0, 1] rfl ?_
  refine sy_sq ?_
  refine bx rfl rfl rfl (fun b2 => ?_)
  refine sy_sq ?_
  refine sp rfl (PE.assign rfl) rfl ?_
  refine sy_sn ?_
  refine sy_nx ?_
  refine sy_seq ?_
  refine sy_seq ?_
  refine sy_tx' [0, 1, 2, 3, 4, 5, 6] rfl ?_
  refine sy_sq ?_
  refine spL rfl rfl (lhA [_, _, _, _, _, _, _, _, _, _, _] ag26 rfl rfl rfl) rfl ?_
  refine sy_sq ?_
  refine clV rfl cal15 rfl rfl (c_wide t a c (by omega) _ _) ?_
  refine sy_sq ?_
  refine sp rfl (PE.move rfl) rfl ?_
  refine sy_sq ?_
  refine sy_case (t := 19) rfl (fun g19 => ?_) (fun g19 => ?_)
  ·
   refine spN rfl rfl rfl rfl rfl rfl rfl rfl ?_
   refine sy_sq ?_
   refine spN rfl rfl rfl rfl rfl rfl rfl rfl ?_
   refine sy_sq ?_
   refine spN rfl rfl rfl rfl rfl rfl rfl rfl ?_
   refine sy_sq ?_
   refine sp rfl (PE.pick rfl rfl rfl) rfl ?_
   refine sy_sn ?_
   refine sy_nx ?_
   refine sy_condT rfl ?_
   refine sy_seq ?_
   refine sy_tx' [0, 1] rfl ?_
   refine sy_sq ?_
   refine clV rfl cal16 rfl rfl (c_awake _ _) ?_
   refine sy_sq ?_
   refine sp rfl (PE.assign rfl) rfl ?_
   refine sy_sn ?_
   refine sy_nx ?_
   refine sy_ret ?_
   refine sy_tr ?_
   exact sy_return (vs := [_]) rfl (.cons (RV.tmp rfl) .nil) rfl ⟨rfl, rfl, rfl⟩ (fun _ h => by repeat first | exact h | replace h := St.tail h | replace h := St.ftail h | replace h := St.drop h)
  ·
   have h7 := wideB_no g19
   refine spG rfl rfl rfl rfl (PE.move rfl) rfl ?_
   refine sy_sq ?_
   refine spG rfl rfl rfl rfl (PE.lenSl isl96 rfl) rfl ?_
   refine sy_sq ?_
   refine spG rfl rfl rfl rfl (PE.gtr rfl rfl) rfl ?_
   refine sy_sq ?_
   refine sp rfl (PE.pick rfl rfl rfl) rfl ?_
   refine sy_sn ?_
   refine sy_nx ?_
   refine sy_cond rfl (fun hc0 => ?_) (fun hc0 => ?_)
   ·
    refine sy_seq ?_
    refine sy_tx' [0, 1] rfl ?_
    refine sy_sq ?_
    refine clV rfl cal16 rfl rfl (c_awake _ _) ?_
    refine sy_sq ?_
    refine sp rfl (PE.assign rfl) rfl ?_
    refine sy_sn ?_
    refine sy_nx ?_
    refine sy_ret ?_
    refine sy_tr ?_
    exact sy_return (vs := [_]) rfl (.cons (RV.tmp rfl) .nil) rfl ⟨rfl, rfl, rfl⟩ (fun _ h => by repeat first | exact h | replace h := St.tail h | replace h := St.ftail h | replace h := St.drop h)
   ·
    try simp only [decide_eq_true_eq, decide_eq_false_iff_not, Bool.and_eq_true, Bool.or_eq_true, Bool.not_eq_true', Int.not_le, Int.not_lt] at hc0
    
    refine sy_skip ?_
    refine sy_nx ?_
    refine sy_seq ?_
    refine sy_cut (ι := (Nat × Nat × Option Addr × Nat) × (Nat × Nat) × Nat × Nat) (fun z => ⟨[(1, .slice a2 l.length c2), (2, .pointer (some ⟨b2, 0, none⟩)), (5, .pointer (some ⟨z.2.2.1, 0, none⟩)), (6, .slice (some ⟨z.2.1.1, 0, none⟩) l.length z.2.1.2), (7, .pointer (some ⟨z.2.2.2, 0, none⟩))],
      (z.2.2.1, cel 26 (twl t (t.sl (some ⟨z.1.1, 0, none⟩) z.1.2.1))) :: (z.2.2.2, cel 37 (twl t (t.sl z.1.2.2.1 z.1.2.2.2))) :: (b2, cel 26 (twl t (t.sl a c))) :: H, RowsA z.1.2.2.1 2 (rrows t.rats) :: RowsA (some ⟨z.1.1, 0, none⟩) 2 (rrows t.rats) :: RowsA (some ⟨z.2.1.1, 0, none⟩) 4 (frows l) :: R⟩) ?_ ?_
    ·
     refine sy_draw [0, 1, 0, 7, 0, 31, 0, 0, 255, 511, 1023] (.ld 0 (.tk 2 (.ld 4 (.any (.alt 1 (.any (.alt 3 (.any (.alt 5 (.any (.alt 6 (.big 7 (.big 8 (.tk 9 (.big 10 .done)))) (.alt 7 (.big 6 (.big 8 (.tk 9 (.big 10 .done)))) .stop))) (.alt 6 (.any (.alt 5 (.big 7 (.big 8 (.tk 9 (.big 10 .done)))) (.alt 7 (.big 5 (.big 8 (.tk 9 (.big 10 .done)))) .stop))) (.alt 7 (.any (.alt 5 (.big 6 (.big 8 (.tk 9 (.big 10 .done)))) (.alt 6 (.big 5 (.big 8 (.tk 9 (.big 10 .done)))) .stop))) .stop)))) (.alt 6 (.any (.alt 3 (.any (.alt 5 (.big 7 (.big 8 (.tk 9 (.big 10 .done)))) (.alt 7 (.big 5 (.big 8 (.tk 9 (.big 10 .done)))) .stop))) (.alt 7 (.big 3 (.big 5 (.big 8 (.tk 9 (.big 10 .done))))) .stop))) (.alt 7 (.any (.alt 3 (.any (.alt 5 (.big 6 (.big 8 (.tk 9 (.big 10 .done)))) (.alt 6 (.big 5 (.big 8 (.tk 9 (.big 10 .done)))) .stop))) (.alt 6 (.big 3 (.big 5 (.big 8 (.tk 9 (.big 10 .done))))) .stop))) .stop)))) (.alt 6 (.any (.alt 1 (.any (.alt 3 (.any (.alt 5 (.big 7 (.big 8 (.tk 9 (.big 10 .done)))) (.alt 7 (.big 5 (.big 8 (.tk 9 (.big 10 .done)))) .stop))) (.alt 7 (.big 3 (.big 5 (.big 8 (.tk 9 (.big 10 .done))))) .stop))) (.alt 7 (.big 1 (.big 3 (.big 5 (.big 8 (.tk 9 (.big 10 .done)))))) .stop))) (.alt 7 (.any (.alt 1 (.any (.alt 3 (.any (.alt 5 (.big 6 (.big 8 (.tk 9 (.big 10 .done)))) (.alt 6 (.big 5 (.big 8 (.tk 9 (.big 10 .done)))) .stop))) (.alt 6 (.big 3 (.big 5 (.big 8 (.tk 9 (.big 10 .done))))) .stop))) (.alt 6 (.big 1 (.big 3 (.big 5 (.big 8 (.tk 9 (.big 10 .done)))))) .stop))) .stop))))))) mixed (by kernel_rfl) ?_
     refine ld rfl rfl (lhA [_, _, _, _, _, _, _, _, _, _, _] ag26 rfl rfl rfl) rfl ?_
     refine tk rfl (PE.move rfl) rfl ?_
     refine ld rfl rfl (lhA [_, _, _, _, _, _, _, _, _, _, _] ag26 rfl rfl rfl) rfl ?_
     refine sy_any ?_
     refine sy_alt ?_ ?_
     ·
      refine cl rfl cal17 rfl rfl (c_Own t a c (by omega) _ _) ?_
      rintro _ _ _ ⟨bo, co, rfl, rfl, rfl⟩
      refine bg (fun w hs => ⟨(lhA [_, _, _, _, _, _, _, _, _, _, _] ag26 rfl rfl rfl) w hs, trivial, trivial⟩) ?_
      refine sy_any ?_
      refine sy_alt ?_ ?_
      ·
       refine cl rfl cal57 rfl rfl (c_dup_fate l a2 c2 (by omega) _ _) ?_
       rintro _ _ _ ⟨o, rfl, ⟨bd, cd, hbd⟩, rfl, rfl⟩
       obtain ⟨ad, c3, ho, hf⟩ := o.freeze
       rw [hbd] at ho
       cases ho
       rw [hbd]
       refine Sy.heap (fun w h => hf h) ?_
       rw [show (frows l).length = l.length from List.length_map _]
       refine bg (fun w hs => ⟨(lhA [_, _, _, _, _, _, _, _, _, _, _] ag26 rfl rfl rfl) w hs, trivial⟩) ?_
       refine sy_any ?_
       refine sy_alt ?_ ?_
       ·
        refine cl rfl cal19 rfl rfl (c_theirs t a c (by omega) _ _) ?_
        rintro _ _ _ ⟨ax, cx, rfl, rfl, rfl⟩
        refine bg (fun w hs => ⟨trivial, trivial⟩) ?_
        refine sy_any ?_
        refine sy_alt ?_ ?_
        ·
         refine alc rfl zl26 rfl (fun b5 => ?_)
         refine bg (fun w hs => trivial) ?_
         refine sy_bg ?_
         refine alc rfl zl37 rfl (fun b7 => ?_)
         refine bg (fun w hs => trivial) ?_
         refine sy_bg ?_
         refine sto rfl rfl rfl cn26 rfl rfl rfl rfl ?_
         refine bg (fun w hs => trivial) ?_
         refine tk rfl (PE.assign rfl) rfl ?_
         refine sy_bg ?_
         refine sto rfl rfl rfl cn37 rfl rfl rfl rfl ?_
         refine bg (fun w hs => trivial) ?_
         refine sy_dn ?_
         exact sy_cutEnd ((bo, co, ax, cx), (bd, cd), b5, b7) (by repeat' first | exact Sub.nil | apply Sub.cons | rfl | (simp [lk]; omega)) (fun _ h => St.sub (((h.pull b2).pull b7).pull b5))
        refine sy_alt ?_ ?_
        ·
         refine alc rfl zl37 rfl (fun b7 => ?_)
         refine bg (fun w hs => trivial) ?_
         refine sy_bg ?_
         refine alc rfl zl26 rfl (fun b5 => ?_)
         refine bg (fun w hs => trivial) ?_
         refine sy_bg ?_
         refine sto rfl rfl rfl cn26 rfl rfl rfl rfl ?_
         refine bg (fun w hs => trivial) ?_
         refine tk rfl (PE.assign rfl) rfl ?_
         refine sy_bg ?_
         refine sto rfl rfl rfl cn37 rfl rfl rfl rfl ?_
         refine bg (fun w hs => trivial) ?_
         refine sy_dn ?_
         exact sy_cutEnd ((bo, co, ax, cx), (bd, cd), b5, b7) (by repeat' first | exact Sub.nil | apply Sub.cons | rfl | (simp [lk]; omega)) (fun _ h => St.sub (((h.pull b2).pull b7).pull b5))
        exact sy_stop
       refine sy_alt ?_ ?_
       ·
        refine alc rfl zl26 rfl (fun b5 => ?_)
        refine bg (fun w hs => ⟨(lhA [_, _, _, _, _, _, _, _, _, _, _] ag26 rfl rfl rfl) w hs, trivial⟩) ?_
        refine sy_any ?_
        refine sy_alt ?_ ?_
        ·
         refine cl rfl cal19 rfl rfl (c_theirs t a c (by omega) _ _) ?_
         rintro _ _ _ ⟨ax, cx, rfl, rfl, rfl⟩
         refine bg (fun w hs => ⟨trivial, trivial⟩) ?_
         refine sy_bg ?_
         refine alc rfl zl37 rfl (fun b7 => ?_)
         refine bg (fun w hs => trivial) ?_
         refine sy_bg ?_
         refine sto rfl rfl rfl cn26 rfl rfl rfl rfl ?_
         refine bg (fun w hs => trivial) ?_
         refine tk rfl (PE.assign rfl) rfl ?_
         refine sy_bg ?_
         refine sto rfl rfl rfl cn37 rfl rfl rfl rfl ?_
         refine bg (fun w hs => trivial) ?_
         refine sy_dn ?_
         exact sy_cutEnd ((bo, co, ax, cx), (bd, cd), b5, b7) (by repeat' first | exact Sub.nil | apply Sub.cons | rfl | (simp [lk]; omega)) (fun _ h => St.sub (((h.pull b2).pull b7).pull b5))
        refine sy_alt ?_ ?_
        ·
         refine alc rfl zl37 rfl (fun b7 => ?_)
         refine bg (fun w hs => ⟨(lhA [_, _, _, _, _, _, _, _, _, _, _] ag26 rfl rfl rfl) w hs, trivial⟩) ?_
         refine sy_bg ?_
         refine cl rfl cal19 rfl rfl (c_theirs t a c (by omega) _ _) ?_
         rintro _ _ _ ⟨ax, cx, rfl, rfl, rfl⟩
         refine bg (fun w hs => ⟨trivial, trivial⟩) ?_
         refine sy_bg ?_
         refine sto rfl rfl rfl cn26 rfl rfl rfl rfl ?_
         refine bg (fun w hs => trivial) ?_
         refine tk rfl (PE.assign rfl) rfl ?_
         refine sy_bg ?_
         refine sto rfl rfl rfl cn37 rfl rfl rfl rfl ?_
         refine bg (fun w hs => trivial) ?_
         refine sy_dn ?_
         exact sy_cutEnd ((bo, co, ax, cx), (bd, cd), b5, b7) (by repeat' first | exact Sub.nil | apply Sub.cons | rfl | (simp [lk]; omega)) (fun _ h => St.sub (((h.pull b2).pull b7).pull b5))
        exact sy_stop
       refine sy_alt ?_ ?_
       ·
        refine alc rfl zl37 rfl (fun b7 => ?_)
        refine bg (fun w hs => ⟨(lhA [_, _, _, _, _, _, _, _, _, _, _] ag26 rfl rfl rfl) w hs, trivial⟩) ?_
        refine sy_any ?_
        refine sy_alt ?_ ?_
        ·
         refine cl rfl cal19 rfl rfl (c_theirs t a c (by omega) _ _) ?_
         rintro _ _ _ ⟨ax, cx, rfl, rfl, rfl⟩
         refine bg (fun w hs => ⟨trivial, trivial⟩) ?_
         refine sy_bg ?_
         refine alc rfl zl26 rfl (fun b5 => ?_)
         refine bg (fun w hs => trivial) ?_
         refine sy_bg ?_
         refine sto rfl rfl rfl cn26 rfl rfl rfl rfl ?_
         refine bg (fun w hs => trivial) ?_
         refine tk rfl (PE.assign rfl) rfl ?_
         refine sy_bg ?_
         refine sto rfl rfl rfl cn37 rfl rfl rfl rfl ?_
         refine bg (fun w hs => trivial) ?_
         refine sy_dn ?_
         exact sy_cutEnd ((bo, co, ax, cx), (bd, cd), b5, b7) (by repeat' first | exact Sub.nil | apply Sub.cons | rfl | (simp [lk]; omega)) (fun _ h => St.sub (((h.pull b2).pull b7).pull b5))
        refine sy_alt ?_ ?_
        ·
         refine alc rfl zl26 rfl (fun b5 => ?_)
         refine bg (fun w hs => ⟨(lhA [_, _, _, _, _, _, _, _, _, _, _] ag26 rfl rfl rfl) w hs, trivial⟩) ?_
         refine sy_bg ?_
         refine cl rfl cal19 rfl rfl (c_theirs t a c (by omega) _ _) ?_
         rintro _ _ _ ⟨ax, cx, rfl, rfl, rfl⟩
         refine bg (fun w hs => ⟨trivial, trivial⟩) ?_
         refine sy_bg ?_
         refine sto rfl rfl rfl cn26 rfl rfl rfl rfl ?_
         refine bg (fun w hs => trivial) ?_
         refine tk rfl (PE.assign rfl) rfl ?_
         refine sy_bg ?_
         refine sto rfl rfl rfl cn37 rfl rfl rfl rfl ?_
         refine bg (fun w hs => trivial) ?_
         refine sy_dn ?_
         exact sy_cutEnd ((bo, co, ax, cx), (bd, cd), b5, b7) (by repeat' first | exact Sub.nil | apply Sub.cons | rfl | (simp [lk]; omega)) (fun _ h => St.sub (((h.pull b2).pull b7).pull b5))
        exact sy_stop
       exact sy_stop
      refine sy_alt ?_ ?_
      ·
       refine alc rfl zl26 rfl (fun b5 => ?_)
       refine bg (fun w hs => ⟨(lhA [_, _, _, _, _, _, _, _, _, _, _] ag26 rfl rfl rfl) w hs, trivial⟩) ?_
       refine sy_any ?_
       refine sy_alt ?_ ?_
       ·
        refine cl rfl cal57 rfl rfl (c_dup_fate l a2 c2 (by omega) _ _) ?_
        rintro _ _ _ ⟨o, rfl, ⟨bd, cd, hbd⟩, rfl, rfl⟩
        obtain ⟨ad, c3, ho, hf⟩ := o.freeze
        rw [hbd] at ho
        cases ho
        rw [hbd]
        refine Sy.heap (fun w h => hf h) ?_
        rw [show (frows l).length = l.length from List.length_map _]
        refine bg (fun w hs => ⟨(lhA [_, _, _, _, _, _, _, _, _, _, _] ag26 rfl rfl rfl) w hs, trivial⟩) ?_
        refine sy_any ?_
        refine sy_alt ?_ ?_
        ·
         refine cl rfl cal19 rfl rfl (c_theirs t a c (by omega) _ _) ?_
         rintro _ _ _ ⟨ax, cx, rfl, rfl, rfl⟩
         refine bg (fun w hs => ⟨trivial, trivial⟩) ?_
         refine sy_bg ?_
         refine alc rfl zl37 rfl (fun b7 => ?_)
         refine bg (fun w hs => trivial) ?_
         refine sy_bg ?_
         refine sto rfl rfl rfl cn26 rfl rfl rfl rfl ?_
         refine bg (fun w hs => trivial) ?_
         refine tk rfl (PE.assign rfl) rfl ?_
         refine sy_bg ?_
         refine sto rfl rfl rfl cn37 rfl rfl rfl rfl ?_
         refine bg (fun w hs => trivial) ?_
         refine sy_dn ?_
         exact sy_cutEnd ((bo, co, ax, cx), (bd, cd), b5, b7) (by repeat' first | exact Sub.nil | apply Sub.cons | rfl | (simp [lk]; omega)) (fun _ h => St.sub (((h.pull b2).pull b7).pull b5))
        refine sy_alt ?_ ?_
        ·
         refine alc rfl zl37 rfl (fun b7 => ?_)
         refine bg (fun w hs => ⟨(lhA [_, _, _, _, _, _, _, _, _, _, _] ag26 rfl rfl rfl) w hs, trivial⟩) ?_
         refine sy_bg ?_
         refine cl rfl cal19 rfl rfl (c_theirs t a c (by omega) _ _) ?_
         rintro _ _ _ ⟨ax, cx, rfl, rfl, rfl⟩
         refine bg (fun w hs => ⟨trivial, trivial⟩) ?_
         refine sy_bg ?_
         refine sto rfl rfl rfl cn26 rfl rfl rfl rfl ?_
         refine bg (fun w hs => trivial) ?_
         refine tk rfl (PE.assign rfl) rfl ?_
         refine sy_bg ?_
         refine sto rfl rfl rfl cn37 rfl rfl rfl rfl ?_
         refine bg (fun w hs => trivial) ?_
         refine sy_dn ?_
         exact sy_cutEnd ((bo, co, ax, cx), (bd, cd), b5, b7) (by repeat' first | exact Sub.nil | apply Sub.cons | rfl | (simp [lk]; omega)) (fun _ h => St.sub (((h.pull b2).pull b7).pull b5))
        exact sy_stop
       refine sy_alt ?_ ?_
       ·
        refine alc rfl zl37 rfl (fun b7 => ?_)
        refine bg (fun w hs => ⟨(lhA [_, _, _, _, _, _, _, _, _, _, _] ag26 rfl rfl rfl) w hs, trivial⟩) ?_
        refine sy_bg ?_
        refine cl rfl cal57 rfl rfl (c_dup_fate l a2 c2 (by omega) _ _) ?_
        rintro _ _ _ ⟨o, rfl, ⟨bd, cd, hbd⟩, rfl, rfl⟩
        obtain ⟨ad, c3, ho, hf⟩ := o.freeze
        rw [hbd] at ho
        cases ho
        rw [hbd]
        refine Sy.heap (fun w h => hf h) ?_
        rw [show (frows l).length = l.length from List.length_map _]
        refine bg (fun w hs => ⟨(lhA [_, _, _, _, _, _, _, _, _, _, _] ag26 rfl rfl rfl) w hs, trivial⟩) ?_
        refine sy_bg ?_
        refine cl rfl cal19 rfl rfl (c_theirs t a c (by omega) _ _) ?_
        rintro _ _ _ ⟨ax, cx, rfl, rfl, rfl⟩
        refine bg (fun w hs => ⟨trivial, trivial⟩) ?_
        refine sy_bg ?_
        refine sto rfl rfl rfl cn26 rfl rfl rfl rfl ?_
        refine bg (fun w hs => trivial) ?_
        refine tk rfl (PE.assign rfl) rfl ?_
        refine sy_bg ?_
        refine sto rfl rfl rfl cn37 rfl rfl rfl rfl ?_
        refine bg (fun w hs => trivial) ?_
        refine sy_dn ?_
        exact sy_cutEnd ((bo, co, ax, cx), (bd, cd), b5, b7) (by repeat' first | exact Sub.nil | apply Sub.cons | rfl | (simp [lk]; omega)) (fun _ h => St.sub (((h.pull b2).pull b7).pull b5))
       exact sy_stop
      refine sy_alt ?_ ?_
      ·
       refine alc rfl zl37 rfl (fun b7 => ?_)
       refine bg (fun w hs => ⟨(lhA [_, _, _, _, _, _, _, _, _, _, _] ag26 rfl rfl rfl) w hs, trivial⟩) ?_
       refine sy_any ?_
       refine sy_alt ?_ ?_
       ·
        refine cl rfl cal57 rfl rfl (c_dup_fate l a2 c2 (by omega) _ _) ?_
        rintro _ _ _ ⟨o, rfl, ⟨bd, cd, hbd⟩, rfl, rfl⟩
        obtain ⟨ad, c3, ho, hf⟩ := o.freeze
        rw [hbd] at ho
        cases ho
        rw [hbd]
        refine Sy.heap (fun w h => hf h) ?_
        rw [show (frows l).length = l.length from List.length_map _]
        refine bg (fun w hs => ⟨(lhA [_, _, _, _, _, _, _, _, _, _, _] ag26 rfl rfl rfl) w hs, trivial⟩) ?_
        refine sy_any ?_
        refine sy_alt ?_ ?_
        ·
         refine cl rfl cal19 rfl rfl (c_theirs t a c (by omega) _ _) ?_
         rintro _ _ _ ⟨ax, cx, rfl, rfl, rfl⟩
         refine bg (fun w hs => ⟨trivial, trivial⟩) ?_
         refine sy_bg ?_
         refine alc rfl zl26 rfl (fun b5 => ?_)
         refine bg (fun w hs => trivial) ?_
         refine sy_bg ?_
         refine sto rfl rfl rfl cn26 rfl rfl rfl rfl ?_
         refine bg (fun w hs => trivial) ?_
         refine tk rfl (PE.assign rfl) rfl ?_
         refine sy_bg ?_
         refine sto rfl rfl rfl cn37 rfl rfl rfl rfl ?_
         refine bg (fun w hs => trivial) ?_
         refine sy_dn ?_
         exact sy_cutEnd ((bo, co, ax, cx), (bd, cd), b5, b7) (by repeat' first | exact Sub.nil | apply Sub.cons | rfl | (simp [lk]; omega)) (fun _ h => St.sub (((h.pull b2).pull b7).pull b5))
        refine sy_alt ?_ ?_
        ·
         refine alc rfl zl26 rfl (fun b5 => ?_)
         refine bg (fun w hs => ⟨(lhA [_, _, _, _, _, _, _, _, _, _, _] ag26 rfl rfl rfl) w hs, trivial⟩) ?_
         refine sy_bg ?_
         refine cl rfl cal19 rfl rfl (c_theirs t a c (by omega) _ _) ?_
         rintro _ _ _ ⟨ax, cx, rfl, rfl, rfl⟩
         refine bg (fun w hs => ⟨trivial, trivial⟩) ?_
         refine sy_bg ?_
         refine sto rfl rfl rfl cn26 rfl rfl rfl rfl ?_
         refine bg (fun w hs => trivial) ?_
         refine tk rfl (PE.assign rfl) rfl ?_
         refine sy_bg ?_
         refine sto rfl rfl rfl cn37 rfl rfl rfl rfl ?_
         refine bg (fun w hs => trivial) ?_
         refine sy_dn ?_
         exact sy_cutEnd ((bo, co, ax, cx), (bd, cd), b5, b7) (by repeat' first | exact Sub.nil | apply Sub.cons | rfl | (simp [lk]; omega)) (fun _ h => St.sub (((h.pull b2).pull b7).pull b5))
        exact sy_stop
       refine sy_alt ?_ ?_
       ·
        refine alc rfl zl26 rfl (fun b5 => ?_)
        refine bg (fun w hs => ⟨(lhA [_, _, _, _, _, _, _, _, _, _, _] ag26 rfl rfl rfl) w hs, trivial⟩) ?_
        refine sy_bg ?_
        refine cl rfl cal57 rfl rfl (c_dup_fate l a2 c2 (by omega) _ _) ?_
        rintro _ _ _ ⟨o, rfl, ⟨bd, cd, hbd⟩, rfl, rfl⟩
        obtain ⟨ad, c3, ho, hf⟩ := o.freeze
        rw [hbd] at ho
        cases ho
        rw [hbd]
        refine Sy.heap (fun w h => hf h) ?_
        rw [show (frows l).length = l.length from List.length_map _]
        refine bg (fun w hs => ⟨(lhA [_, _, _, _, _, _, _, _, _, _, _] ag26 rfl rfl rfl) w hs, trivial⟩) ?_
        refine sy_bg ?_
        refine cl rfl cal19 rfl rfl (c_theirs t a c (by omega) _ _) ?_
        rintro _ _ _ ⟨ax, cx, rfl, rfl, rfl⟩
        refine bg (fun w hs => ⟨trivial, trivial⟩) ?_
        refine sy_bg ?_
        refine sto rfl rfl rfl cn26 rfl rfl rfl rfl ?_
        refine bg (fun w hs => trivial) ?_
        refine tk rfl (PE.assign rfl) rfl ?_
        refine sy_bg ?_
        refine sto rfl rfl rfl cn37 rfl rfl rfl rfl ?_
        refine bg (fun w hs => trivial) ?_
        refine sy_dn ?_
        exact sy_cutEnd ((bo, co, ax, cx), (bd, cd), b5, b7) (by repeat' first | exact Sub.nil | apply Sub.cons | rfl | (simp [lk]; omega)) (fun _ h => St.sub (((h.pull b2).pull b7).pull b5))
       exact sy_stop
      exact sy_stop
     refine sy_alt ?_ ?_
     ·
      refine alc rfl zl26 rfl (fun b5 => ?_)
      refine bg (fun w hs => ⟨(lhA [_, _, _, _, _, _, _, _, _, _, _] ag26 rfl rfl rfl) w hs, (lhA [_, _, _, _, _, _, _, _, _, _, _] ag26 rfl rfl rfl) w hs, trivial⟩) ?_
      refine sy_any ?_
      refine sy_alt ?_ ?_
      ·
       refine cl rfl cal17 rfl rfl (c_Own t a c (by omega) _ _) ?_
       rintro _ _ _ ⟨bo, co, rfl, rfl, rfl⟩
       refine bg (fun w hs => ⟨(lhA [_, _, _, _, _, _, _, _, _, _, _] ag26 rfl rfl rfl) w hs, trivial, trivial⟩) ?_
       refine sy_any ?_
       refine sy_alt ?_ ?_
       ·
        refine cl rfl cal57 rfl rfl (c_dup_fate l a2 c2 (by omega) _ _) ?_
        rintro _ _ _ ⟨o, rfl, ⟨bd, cd, hbd⟩, rfl, rfl⟩
        obtain ⟨ad, c3, ho, hf⟩ := o.freeze
        rw [hbd] at ho
        cases ho
        rw [hbd]
        refine Sy.heap (fun w h => hf h) ?_
        rw [show (frows l).length = l.length from List.length_map _]
        refine bg (fun w hs => ⟨(lhA [_, _, _, _, _, _, _, _, _, _, _] ag26 rfl rfl rfl) w hs, trivial⟩) ?_
        refine sy_any ?_
        refine sy_alt ?_ ?_
        ·
         refine cl rfl cal19 rfl rfl (c_theirs t a c (by omega) _ _) ?_
         rintro _ _ _ ⟨ax, cx, rfl, rfl, rfl⟩
         refine bg (fun w hs => ⟨trivial, trivial⟩) ?_
         refine sy_bg ?_
         refine alc rfl zl37 rfl (fun b7 => ?_)
         refine bg (fun w hs => trivial) ?_
         refine sy_bg ?_
         refine sto rfl rfl rfl cn26 rfl rfl rfl rfl ?_
         refine bg (fun w hs => trivial) ?_
         refine tk rfl (PE.assign rfl) rfl ?_
         refine sy_bg ?_
         refine sto rfl rfl rfl cn37 rfl rfl rfl rfl ?_
         refine bg (fun w hs => trivial) ?_
         refine sy_dn ?_
         exact sy_cutEnd ((bo, co, ax, cx), (bd, cd), b5, b7) (by repeat' first | exact Sub.nil | apply Sub.cons | rfl | (simp [lk]; omega)) (fun _ h => St.sub (((h.pull b2).pull b7).pull b5))
        refine sy_alt ?_ ?_
        ·
         refine alc rfl zl37 rfl (fun b7 => ?_)
         refine bg (fun w hs => ⟨(lhA [_, _, _, _, _, _, _, _, _, _, _] ag26 rfl rfl rfl) w hs, trivial⟩) ?_
         refine sy_bg ?_
         refine cl rfl cal19 rfl rfl (c_theirs t a c (by omega) _ _) ?_
         rintro _ _ _ ⟨ax, cx, rfl, rfl, rfl⟩
         refine bg (fun w hs => ⟨trivial, trivial⟩) ?_
         refine sy_bg ?_
         refine sto rfl rfl rfl cn26 rfl rfl rfl rfl ?_
         refine bg (fun w hs => trivial) ?_
         refine tk rfl (PE.assign rfl) rfl ?_
         refine sy_bg ?_
         refine sto rfl rfl rfl cn37 rfl rfl rfl rfl ?_
         refine bg (fun w hs => trivial) ?_
         refine sy_dn ?_
         exact sy_cutEnd ((bo, co, ax, cx), (bd, cd), b5, b7) (by repeat' first | exact Sub.nil | apply Sub.cons | rfl | (simp [lk]; omega)) (fun _ h => St.sub (((h.pull b2).pull b7).pull b5))
        exact sy_stop
       refine sy_alt ?_ ?_
       ·
        refine alc rfl zl37 rfl (fun b7 => ?_)
        refine bg (fun w hs => ⟨(lhA [_, _, _, _, _, _, _, _, _, _, _] ag26 rfl rfl rfl) w hs, trivial⟩) ?_
        refine sy_bg ?_
        refine cl rfl cal57 rfl rfl (c_dup_fate l a2 c2 (by omega) _ _) ?_
        rintro _ _ _ ⟨o, rfl, ⟨bd, cd, hbd⟩, rfl, rfl⟩
        obtain ⟨ad, c3, ho, hf⟩ := o.freeze
        rw [hbd] at ho
        cases ho
        rw [hbd]
        refine Sy.heap (fun w h => hf h) ?_
        rw [show (frows l).length = l.length from List.length_map _]
        refine bg (fun w hs => ⟨(lhA [_, _, _, _, _, _, _, _, _, _, _] ag26 rfl rfl rfl) w hs, trivial⟩) ?_
        refine sy_bg ?_
        refine cl rfl cal19 rfl rfl (c_theirs t a c (by omega) _ _) ?_
        rintro _ _ _ ⟨ax, cx, rfl, rfl, rfl⟩
        refine bg (fun w hs => ⟨trivial, trivial⟩) ?_
        refine sy_bg ?_
        refine sto rfl rfl rfl cn26 rfl rfl rfl rfl ?_
        refine bg (fun w hs => trivial) ?_
        refine tk rfl (PE.assign rfl) rfl ?_
        refine sy_bg ?_
        refine sto rfl rfl rfl cn37 rfl rfl rfl rfl ?_
        refine bg (fun w hs => trivial) ?_
        refine sy_dn ?_
        exact sy_cutEnd ((bo, co, ax, cx), (bd, cd), b5, b7) (by repeat' first | exact Sub.nil | apply Sub.cons | rfl | (simp [lk]; omega)) (fun _ h => St.sub (((h.pull b2).pull b7).pull b5))
       exact sy_stop
      refine sy_alt ?_ ?_
      ·
       refine alc rfl zl37 rfl (fun b7 => ?_)
       refine bg (fun w hs => ⟨(lhA [_, _, _, _, _, _, _, _, _, _, _] ag26 rfl rfl rfl) w hs, (lhA [_, _, _, _, _, _, _, _, _, _, _] ag26 rfl rfl rfl) w hs, trivial⟩) ?_
       refine sy_bg ?_
       refine cl rfl cal17 rfl rfl (c_Own t a c (by omega) _ _) ?_
       rintro _ _ _ ⟨bo, co, rfl, rfl, rfl⟩
       refine bg (fun w hs => ⟨(lhA [_, _, _, _, _, _, _, _, _, _, _] ag26 rfl rfl rfl) w hs, trivial, trivial⟩) ?_
       refine sy_bg ?_
       refine cl rfl cal57 rfl rfl (c_dup_fate l a2 c2 (by omega) _ _) ?_
       rintro _ _ _ ⟨o, rfl, ⟨bd, cd, hbd⟩, rfl, rfl⟩
       obtain ⟨ad, c3, ho, hf⟩ := o.freeze
       rw [hbd] at ho
       cases ho
       rw [hbd]
       refine Sy.heap (fun w h => hf h) ?_
       rw [show (frows l).length = l.length from List.length_map _]
       refine bg (fun w hs => ⟨(lhA [_, _, _, _, _, _, _, _, _, _, _] ag26 rfl rfl rfl) w hs, trivial⟩) ?_
       refine sy_bg ?_
       refine cl rfl cal19 rfl rfl (c_theirs t a c (by omega) _ _) ?_
       rintro _ _ _ ⟨ax, cx, rfl, rfl, rfl⟩
       refine bg (fun w hs => ⟨trivial, trivial⟩) ?_
       refine sy_bg ?_
       refine sto rfl rfl rfl cn26 rfl rfl rfl rfl ?_
       refine bg (fun w hs => trivial) ?_
       refine tk rfl (PE.assign rfl) rfl ?_
       refine sy_bg ?_
       refine sto rfl rfl rfl cn37 rfl rfl rfl rfl ?_
       refine bg (fun w hs => trivial) ?_
       refine sy_dn ?_
       exact sy_cutEnd ((bo, co, ax, cx), (bd, cd), b5, b7) (by repeat' first | exact Sub.nil | apply Sub.cons | rfl | (simp [lk]; omega)) (fun _ h => St.sub (((h.pull b2).pull b7).pull b5))
      exact sy_stop
     refine sy_alt ?_ ?_
     ·
      refine alc rfl zl37 rfl (fun b7 => ?_)
      refine bg (fun w hs => ⟨(lhA [_, _, _, _, _, _, _, _, _, _, _] ag26 rfl rfl rfl) w hs, (lhA [_, _, _, _, _, _, _, _, _, _, _] ag26 rfl rfl rfl) w hs, trivial⟩) ?_
      refine sy_any ?_
      refine sy_alt ?_ ?_
      ·
       refine cl rfl cal17 rfl rfl (c_Own t a c (by omega) _ _) ?_
       rintro _ _ _ ⟨bo, co, rfl, rfl, rfl⟩
       refine bg (fun w hs => ⟨(lhA [_, _, _, _, _, _, _, _, _, _, _] ag26 rfl rfl rfl) w hs, trivial, trivial⟩) ?_
       refine sy_any ?_
       refine sy_alt ?_ ?_
       ·
        refine cl rfl cal57 rfl rfl (c_dup_fate l a2 c2 (by omega) _ _) ?_
        rintro _ _ _ ⟨o, rfl, ⟨bd, cd, hbd⟩, rfl, rfl⟩
        obtain ⟨ad, c3, ho, hf⟩ := o.freeze
        rw [hbd] at ho
        cases ho
        rw [hbd]
        refine Sy.heap (fun w h => hf h) ?_
        rw [show (frows l).length = l.length from List.length_map _]
        refine bg (fun w hs => ⟨(lhA [_, _, _, _, _, _, _, _, _, _, _] ag26 rfl rfl rfl) w hs, trivial⟩) ?_
        refine sy_any ?_
        refine sy_alt ?_ ?_
        ·
         refine cl rfl cal19 rfl rfl (c_theirs t a c (by omega) _ _) ?_
         rintro _ _ _ ⟨ax, cx, rfl, rfl, rfl⟩
         refine bg (fun w hs => ⟨trivial, trivial⟩) ?_
         refine sy_bg ?_
         refine alc rfl zl26 rfl (fun b5 => ?_)
         refine bg (fun w hs => trivial) ?_
         refine sy_bg ?_
         refine sto rfl rfl rfl cn26 rfl rfl rfl rfl ?_
         refine bg (fun w hs => trivial) ?_
         refine tk rfl (PE.assign rfl) rfl ?_
         refine sy_bg ?_
         refine sto rfl rfl rfl cn37 rfl rfl rfl rfl ?_
         refine bg (fun w hs => trivial) ?_
         refine sy_dn ?_
         exact sy_cutEnd ((bo, co, ax, cx), (bd, cd), b5, b7) (by repeat' first | exact Sub.nil | apply Sub.cons | rfl | (simp [lk]; omega)) (fun _ h => St.sub (((h.pull b2).pull b7).pull b5))
        refine sy_alt ?_ ?_
        ·
         refine alc rfl zl26 rfl (fun b5 => ?_)
         refine bg (fun w hs => ⟨(lhA [_, _, _, _, _, _, _, _, _, _, _] ag26 rfl rfl rfl) w hs, trivial⟩) ?_
         refine sy_bg ?_
         refine cl rfl cal19 rfl rfl (c_theirs t a c (by omega) _ _) ?_
         rintro _ _ _ ⟨ax, cx, rfl, rfl, rfl⟩
         refine bg (fun w hs => ⟨trivial, trivial⟩) ?_
         refine sy_bg ?_
         refine sto rfl rfl rfl cn26 rfl rfl rfl rfl ?_
         refine bg (fun w hs => trivial) ?_
         refine tk rfl (PE.assign rfl) rfl ?_
         refine sy_bg ?_
         refine sto rfl rfl rfl cn37 rfl rfl rfl rfl ?_
         refine bg (fun w hs => trivial) ?_
         refine sy_dn ?_
         exact sy_cutEnd ((bo, co, ax, cx), (bd, cd), b5, b7) (by repeat' first | exact Sub.nil | apply Sub.cons | rfl | (simp [lk]; omega)) (fun _ h => St.sub (((h.pull b2).pull b7).pull b5))
        exact sy_stop
       refine sy_alt ?_ ?_
       ·
        refine alc rfl zl26 rfl (fun b5 => ?_)
        refine bg (fun w hs => ⟨(lhA [_, _, _, _, _, _, _, _, _, _, _] ag26 rfl rfl rfl) w hs, trivial⟩) ?_
        refine sy_bg ?_
        refine cl rfl cal57 rfl rfl (c_dup_fate l a2 c2 (by omega) _ _) ?_
        rintro _ _ _ ⟨o, rfl, ⟨bd, cd, hbd⟩, rfl, rfl⟩
        obtain ⟨ad, c3, ho, hf⟩ := o.freeze
        rw [hbd] at ho
        cases ho
        rw [hbd]
        refine Sy.heap (fun w h => hf h) ?_
        rw [show (frows l).length = l.length from List.length_map _]
        refine bg (fun w hs => ⟨(lhA [_, _, _, _, _, _, _, _, _, _, _] ag26 rfl rfl rfl) w hs, trivial⟩) ?_
        refine sy_bg ?_
        refine cl rfl cal19 rfl rfl (c_theirs t a c (by omega) _ _) ?_
        rintro _ _ _ ⟨ax, cx, rfl, rfl, rfl⟩
        refine bg (fun w hs => ⟨trivial, trivial⟩) ?_
        refine sy_bg ?_
        refine sto rfl rfl rfl cn26 rfl rfl rfl rfl ?_
        refine bg (fun w hs => trivial) ?_
        refine tk rfl (PE.assign rfl) rfl ?_
        refine sy_bg ?_
        refine sto rfl rfl rfl cn37 rfl rfl rfl rfl ?_
        refine bg (fun w hs => trivial) ?_
        refine sy_dn ?_
        exact sy_cutEnd ((bo, co, ax, cx), (bd, cd), b5, b7) (by repeat' first | exact Sub.nil | apply Sub.cons | rfl | (simp [lk]; omega)) (fun _ h => St.sub (((h.pull b2).pull b7).pull b5))
       exact sy_stop
      refine sy_alt ?_ ?_
      ·
       refine alc rfl zl26 rfl (fun b5 => ?_)
       refine bg (fun w hs => ⟨(lhA [_, _, _, _, _, _, _, _, _, _, _] ag26 rfl rfl rfl) w hs, (lhA [_, _, _, _, _, _, _, _, _, _, _] ag26 rfl rfl rfl) w hs, trivial⟩) ?_
       refine sy_bg ?_
       refine cl rfl cal17 rfl rfl (c_Own t a c (by omega) _ _) ?_
       rintro _ _ _ ⟨bo, co, rfl, rfl, rfl⟩
       refine bg (fun w hs => ⟨(lhA [_, _, _, _, _, _, _, _, _, _, _] ag26 rfl rfl rfl) w hs, trivial, trivial⟩) ?_
       refine sy_bg ?_
       refine cl rfl cal57 rfl rfl (c_dup_fate l a2 c2 (by omega) _ _) ?_
       rintro _ _ _ ⟨o, rfl, ⟨bd, cd, hbd⟩, rfl, rfl⟩
       obtain ⟨ad, c3, ho, hf⟩ := o.freeze
       rw [hbd] at ho
       cases ho
       rw [hbd]
       refine Sy.heap (fun w h => hf h) ?_
       rw [show (frows l).length = l.length from List.length_map _]
       refine bg (fun w hs => ⟨(lhA [_, _, _, _, _, _, _, _, _, _, _] ag26 rfl rfl rfl) w hs, trivial⟩) ?_
       refine sy_bg ?_
       refine cl rfl cal19 rfl rfl (c_theirs t a c (by omega) _ _) ?_
       rintro _ _ _ ⟨ax, cx, rfl, rfl, rfl⟩
       refine bg (fun w hs => ⟨trivial, trivial⟩) ?_
       refine sy_bg ?_
       refine sto rfl rfl rfl cn26 rfl rfl rfl rfl ?_
       refine bg (fun w hs => trivial) ?_
       refine tk rfl (PE.assign rfl) rfl ?_
       refine sy_bg ?_
       refine sto rfl rfl rfl cn37 rfl rfl rfl rfl ?_
       refine bg (fun w hs => trivial) ?_
       refine sy_dn ?_
       exact sy_cutEnd ((bo, co, ax, cx), (bd, cd), b5, b7) (by repeat' first | exact Sub.nil | apply Sub.cons | rfl | (simp [lk]; omega)) (fun _ h => St.sub (((h.pull b2).pull b7).pull b5))
      exact sy_stop
     exact sy_stop
    ·
     rintro ⟨⟨bo, co, ax, cx⟩, ⟨bd, cd⟩, b5, b7⟩
     dsimp only
     refine sy_nx ?_
     refine sy_seq ?_
     refine sy_tx' [0, 1, 2] rfl ?_
     refine sy_sq ?_
     refine spL rfl rfl (lhA [_, _, _, _, _, _, _, _, _, _, _] ag37 rfl rfl rfl) rfl ?_
     refine sy_sq ?_
     refine clV rfl cal20 rfl rfl (c_rCheck t ax cx (by omega) _ _) ?_
     refine sy_sq ?_
     refine sp rfl (PE.assign rfl) rfl ?_
     refine sy_sn ?_
     refine sy_nx ?_
     refine sy_seq ?_
     refine sy_tx' [0, 1] rfl ?_
     refine sy_sq ?_
     refine sp rfl (PE.move rfl) rfl ?_
     refine sy_sq ?_
     refine sp rfl (PE.assign rfl) rfl ?_
     refine sy_sn ?_
     refine sy_nx ?_
     refine sy_seq ?_
     refine sy_tx' [0, 1] rfl ?_
     refine sy_sq ?_
     refine sp rfl (PE.assign rfl) rfl ?_
     refine sy_sq ?_
     refine sp rfl (PE.assign rfl) rfl ?_
     refine sy_sn ?_
     refine sy_nx ?_
     refine sy_seq ?_
     refine sy_seq ?_
     refine sy_tx' [0, 1] rfl ?_
     refine sy_sq ?_
     refine sp rfl (PE.move rfl) rfl ?_
     refine sy_sq ?_
     refine sp rfl (PE.eql rfl rfl) rfl ?_
     refine sy_sn ?_
     refine sy_nx ?_
     refine sy_join (ι := Unit) (fun _ => ⟨[(1, .slice a2 l.length c2), (2, .pointer (some ⟨b2, 0, none⟩)), (5, .pointer (some ⟨b5, 0, none⟩)), (6, .slice (some ⟨bd, 0, none⟩) l.length cd), (7, .pointer (some ⟨b7, 0, none⟩)), (8, .int .i64 ((stR t l).2)), (9, .int .i64 (fatE t)), (10, .int .i64 ((lastP t).1)), (11, .int .i64 ((stR t l).1))], (b5, cel 26 (twl t (t.sl (some ⟨bo, 0, none⟩) co))) :: (b7, cel 37 (twl t (t.sl ax cx))) :: (b2, cel 26 (twl t (t.sl a c))) :: H, RowsA ax 2 (rrows t.rats) :: RowsA (some ⟨bo, 0, none⟩) 2 (rrows t.rats) :: RowsA (some ⟨bd, 0, none⟩) 4 (frows l) :: R⟩) ?_ ?_
     ·
      refine sy_cond rfl (fun hc1 => ?_) (fun hc1 => ?_)
      ·
       try simp only [decide_eq_true_eq, decide_eq_false_iff_not, Bool.and_eq_true, Bool.or_eq_true, Bool.not_eq_true', Int.not_le, Int.not_lt] at hc1
       have hck : t.check = 0 := hc1
       have hok := (ok_of_check hck).1
       refine sy_addr (a := ax) (sz := 2) (rows := rrows t.rats) (by have := hok.many; intro h0; simp [rrows] at h0; simp [h0] at this) (fun bx ox he => ?_)
       subst he
       refine sy_seq ?_
       refine sy_seq ?_
       refine sy_draw [0, 0, 2, 0, 8, 31, 63] (.ld 0 (.ld 1 (.tk 3 (.ld 4 (.big 2 (.big 5 (.tk 6 .done))))))) mixed (by kernel_rfl) ?_
       refine ld rfl rfl (lhA [_, _, _, _, _, _, _, _, _, _, _] ag37 rfl rfl rfl) rfl ?_
       refine ld rfl rfl (lhA [_, _, _, _, _, _, _, _, _, _, _] ag37 rfl rfl rfl) rfl ?_
       refine tk rfl (PE.fieldAddr fo37_0 rfl) rfl ?_
       refine ld rfl rfl (lhA [_, _, _] ag34 rfl rfl rfl) rfl ?_
       refine sy_bg ?_
       refine cl rfl cal22 rfl rfl (c_rSolved t hok bx ox cx _ _) ?_
       rintro _ _ _ ⟨bla, la, hsol, rfl, rfl, rfl⟩
       obtain ⟨hrel, hlsa⟩ := hsol.ly hok
       have hrg := ls_range hlsa hok.now
       refine Sy.heap (fun w h => St.intRows h) ?_
       refine bg (fun w hs => ⟨(lhA [_, _, _] ag34 rfl rfl rfl) w hs, trivial, (lhA [_, _, _, _, _, _, _, _, _, _, _] ag37 rfl rfl rfl) w hs, trivial⟩) ?_
       refine sy_bg ?_
       refine cl rfl cal21 rfl rfl (c_rLasts t hok t.now hok.now _ la (LY t) hrel bla 0 t.nst _ _) ?_
       rintro _ _ _ ⟨rfl, rfl, rfl⟩
       have hlp : lastP t = (lat (LY t) t.now, 0) := by simp [lastP, hck]
       refine bg (fun w hs => ⟨trivial, trivial, trivial⟩) ?_
       refine tk rfl (PE.assign rfl) rfl ?_
       refine sy_dn ?_
       refine sy_nx ?_
       refine sy_seq ?_
       refine sy_tx' [0, 1] rfl ?_
       refine sy_sq ?_
       refine sp rfl (PE.move rfl) rfl ?_
       refine sy_sq ?_
       refine sp rfl (PE.eql rfl rfl) rfl ?_
       refine sy_sn ?_
       refine sy_nx ?_
       refine sy_join (ι := Unit) (fun _ => ⟨[(1, .slice a2 l.length c2), (2, .pointer (some ⟨b2, 0, none⟩)), (5, .pointer (some ⟨b5, 0, none⟩)), (6, .slice (some ⟨bd, 0, none⟩) l.length cd), (7, .pointer (some ⟨b7, 0, none⟩)), (8, .int .i64 (t.check)), (9, .int .i64 (fatE t)), (10, .int .i64 ((lastP t).1)), (11, .int .i64 (0))], (b5, cel 26 (twl t (t.sl (some ⟨bo, 0, none⟩) co))) :: (b7, cel 37 (twl t (t.sl (some ⟨bx, ox, none⟩) cx))) :: (b2, cel 26 (twl t (t.sl a c))) :: H, RowsA (some ⟨bx, ox, none⟩) 2 (rrows t.rats) :: RowsA (some ⟨bo, 0, none⟩) 2 (rrows t.rats) :: RowsA (some ⟨bd, 0, none⟩) 4 (frows l) :: R⟩) ?_ ?_
       ·
        refine sy_cond rfl (fun hc2 => ?_) (fun hc2 => ?_)
        ·
         try simp only [decide_eq_true_eq, decide_eq_false_iff_not, Bool.and_eq_true, Bool.or_eq_true, Bool.not_eq_true', Int.not_le, Int.not_lt] at hc2
         
         refine sy_tx' [0] rfl ?_
         refine sy_sq ?_
         refine sp rfl (PE.assign rfl) rfl ?_
         refine sy_sn ?_
         rw [show fatE t = 6 from by simp [fatE, hck, hc2], hlp]
         exact sy_jend () (by repeat' first | exact Sub.nil | apply Sub.cons | rfl | (simp [lk]; omega)) (fun _ h => St.sub h)
        ·
         try simp only [decide_eq_true_eq, decide_eq_false_iff_not, Bool.and_eq_true, Bool.or_eq_true, Bool.not_eq_true', Int.not_le, Int.not_lt] at hc2
         
         refine sy_skip ?_
         rw [show fatE t = 0 from by simp [fatE, hck, hc2], hlp, hck]
         exact sy_jend () (by repeat' first | exact Sub.nil | apply Sub.cons | rfl | (simp [lk]; omega)) (fun _ h => St.sub h)
       ·
        rintro ⟨⟩
        dsimp only
        refine sy_nx ?_
        refine sy_draw [0, 0, 2, 7, 15, 31, 31, 63, 255] (.ld 0 (.tk 1 (.big 2 (.big 3 (.tk 4 (.tk 5 (.tk 6 (.tk 7 (.tk 8 .done))))))))) mixed (by kernel_rfl) ?_
        refine ld rfl rfl (lhA [_, _, _, _, _, _, _, _, _, _, _] ag37 rfl rfl rfl) rfl ?_
        refine tk rfl (PE.move rfl) rfl ?_
        refine sy_bg ?_
        refine cl rfl cal59 rfl rfl (c_ends l a2 c2 (by omega) _ _) ?_
        rintro _ _ _ ⟨ar, cr, rfl, rfl, rfl⟩
        refine bg (fun w hs => ⟨(lhA [_, _, _, _, _, _, _, _, _, _, _] ag37 rfl rfl rfl) w hs, trivial⟩) ?_
        refine sy_bg ?_
        refine clV rfl cal58 rfl rfl (c_rStarves t hck l ar cr (by omega) bx ox cx _ _) ?_
        refine bg (fun w hs => ⟨trivial, trivial⟩) ?_
        refine tk rfl (PE.move rfl) rfl ?_
        refine tk rfl (PE.extract rfl rfl) rfl ?_
        refine tk rfl (PE.extract rfl rfl) rfl ?_
        refine tk rfl (PE.assign rfl) rfl ?_
        refine tk rfl (PE.assign rfl) rfl ?_
        refine sy_dn ?_
        exact sy_jend () (by repeat' first | exact Sub.nil | apply Sub.cons | rfl | (simp [lk]; omega)) (fun _ h => St.sub h)
      ·
       try simp only [decide_eq_true_eq, decide_eq_false_iff_not, Bool.and_eq_true, Bool.or_eq_true, Bool.not_eq_true', Int.not_le, Int.not_lt] at hc1
       have hck : t.check ≠ 0 := hc1
       refine sy_skip ?_
       rw [show stR t l = (0, t.check) from by simp [stR, hck], show fatE t = t.check from by simp [fatE, hck], show lastP t = (0, t.check) from by simp [lastP, hck]]
       exact sy_jend () (by repeat' first | exact Sub.nil | apply Sub.cons | rfl | (simp [lk]; omega)) (fun _ h => h)
     ·
      rintro ⟨⟩
      dsimp only
      refine sy_nx ?_
      refine sy_seq ?_
      refine sy_tx' [0, 1, 2, 3, 4, 5, 6, 7] rfl ?_
      refine sy_sq ?_
      refine spL rfl rfl (lhA [_, _, _, _, _, _, _, _, _, _, _] ag26 rfl rfl rfl) rfl ?_
      refine sy_sq ?_
      refine sp rfl (PE.move rfl) rfl ?_
      refine sy_sq ?_
      refine clV rfl cal60 rfl rfl (c_Starves t (by omega) l (some ⟨bd, 0, none⟩) cd (by omega) bo 0 co _ _) ?_
      refine sy_sq ?_
      refine sp rfl (PE.move rfl) rfl ?_
      refine sy_sq ?_
      refine sp rfl (PE.extract rfl rfl) rfl ?_
      refine sy_sq ?_
      refine sp rfl (PE.extract rfl rfl) rfl ?_
      refine sy_sq ?_
      refine sp rfl (PE.assign rfl) rfl ?_
      refine sy_sq ?_
      refine sp rfl (PE.assign rfl) rfl ?_
      refine sy_sn ?_
      refine sy_nx ?_
      refine sy_seq ?_
      refine sy_tx' [0, 1, 2, 3, 4, 5, 6] rfl ?_
      refine sy_sq ?_
      refine spL rfl rfl (lhA [_, _, _, _, _, _, _, _, _, _, _] ag26 rfl rfl rfl) rfl ?_
      refine sy_sq ?_
      refine cl rfl cal61 rfl rfl (c_Fates t (by omega) bo 0 co _ _) ?_
      rintro _ _ _ ⟨fl, ot, rfl, rfl, rfl, hfl, hf0, hf1⟩
      obtain ⟨at_, ct, hot, hft⟩ := ot.freeze
      rw [hot]
      refine Sy.heap (fun w h => hft h) ?_
      rw [show (frows fl).length = fl.length from List.length_map _]
      refine sy_sq ?_
      refine sp rfl (PE.move rfl) rfl ?_
      refine sy_sq ?_
      refine sp rfl (PE.extract rfl rfl) rfl ?_
      refine sy_sq ?_
      refine sp rfl (PE.extract rfl rfl) rfl ?_
      refine sy_sq ?_
      refine sp rfl (PE.assign rfl) rfl ?_
      refine sy_sq ?_
      refine sp rfl (PE.assign rfl) rfl ?_
      refine sy_sn ?_
      refine sy_nx ?_
      refine sy_seq ?_
      refine sy_seq ?_
      refine sy_tx' [0, 1, 2, 3, 4, 5, 6, 7, 8, 9, 10, 11, 12, 13, 14, 15, 16, 17, 18, 19, 20, 21, 22, 23, 24] rfl ?_
      refine sy_sq ?_
      refine sp rfl (PE.move rfl) rfl ?_
      refine sy_sq ?_
      refine sp rfl (PE.move rfl) rfl ?_
      refine sy_sq ?_
      refine sp rfl (PE.neq rfl rfl) rfl ?_
      refine sy_sq ?_
      refine sp rfl (PE.move rfl) rfl ?_
      refine sy_sq ?_
      refine sy_case (t := 65) rfl (fun g65 => ?_) (fun g65 => ?_)
      ·
       exact absurd g65 (by first | (simp; done) | (simp_all; done))
      ·
       refine spG rfl rfl rfl rfl (PE.move rfl) rfl ?_
       refine sy_sq ?_
       refine spG rfl rfl rfl rfl (PE.move rfl) rfl ?_
       refine sy_sq ?_
       refine spG rfl rfl rfl rfl (PE.neq rfl rfl) rfl ?_
       refine sy_sq ?_
       refine sp rfl (PE.pick rfl rfl rfl) rfl ?_
       refine sy_sq ?_
       refine sp rfl (PE.move rfl) rfl ?_
       refine sy_sq ?_
       refine sy_case (t := 70) rfl (fun g70 => ?_) (fun g70 => ?_)
       ·
        exact absurd g70 (by first | (simp; done) | (simp_all; done))
       ·
        refine spG rfl rfl rfl rfl (PE.move rfl) rfl ?_
        refine sy_sq ?_
        refine spG rfl rfl rfl rfl (PE.move rfl) rfl ?_
        refine sy_sq ?_
        refine spG rfl rfl rfl rfl (PE.neq rfl rfl) rfl ?_
        refine sy_sq ?_
        refine sp rfl (PE.pick rfl rfl rfl) rfl ?_
        refine sy_sq ?_
        refine sp rfl (PE.move rfl) rfl ?_
        refine sy_sq ?_
        refine sy_case (t := 75) rfl (fun g75 => ?_) (fun g75 => ?_)
        ·
         exact absurd g75 (by first | (simp; done) | (simp_all; done))
        ·
         refine spG rfl rfl rfl rfl (PE.move rfl) rfl ?_
         refine sy_sq ?_
         refine spG rfl rfl rfl rfl (PE.move rfl) rfl ?_
         refine sy_sq ?_
         refine clVG rfl rfl rfl rfl cal62 rfl rfl (c_Eq_fate l l (some ⟨bd, 0, none⟩) a2 cd c2 (by omega) (by omega) _ _) ?_
         refine sy_sq ?_
         refine spG rfl rfl rfl rfl (PE.not rfl) rfl ?_
         refine sy_sq ?_
         refine sp rfl (PE.pick rfl rfl rfl) rfl ?_
         refine sy_sq ?_
         refine sp rfl (PE.move rfl) rfl ?_
         refine sy_sq ?_
         refine sy_case (t := 81) rfl (fun g81 => ?_) (fun g81 => ?_)
         ·
          exact absurd g81 (by first | (simp; done) | (simp_all; done))
         ·
          refine spLG rfl rfl rfl rfl rfl (lhA [_, _, _, _, _, _, _, _, _, _, _] ag26 rfl rfl rfl) rfl ?_
          refine sy_sq ?_
          refine spLG rfl rfl rfl rfl rfl (lhA [_, _, _, _, _, _, _, _, _, _, _] ag26 rfl rfl rfl) rfl ?_
          refine sy_sq ?_
          refine clVG rfl rfl rfl rfl cal28 rfl rfl (c_same t t _ a co c (by omega) (by omega) _ _) ?_
          refine sy_sq ?_
          refine spG rfl rfl rfl rfl (PE.not rfl) rfl ?_
          refine sy_sq ?_
          refine sp rfl (PE.pick rfl rfl rfl) rfl ?_
          refine sy_sn ?_
          refine sy_nx ?_
          refine sy_cond rfl (fun hc3 => ?_) (fun hc3 => ?_)
          ·
           exact absurd hc3 (by simp)
          ·
           refine sy_skip ?_
           refine sy_nx ?_
           refine sy_seq ?_
           refine sy_seq ?_
           refine sy_tx' [0, 1] rfl ?_
           refine sy_sq ?_
           refine sp rfl (PE.move rfl) rfl ?_
           refine sy_sq ?_
           refine sp rfl (PE.neq rfl rfl) rfl ?_
           refine sy_sn ?_
           refine sy_nx ?_
           refine sy_cond rfl (fun hc4 => ?_) (fun hc4 => ?_)
           ·
            try simp only [decide_eq_true_eq, decide_eq_false_iff_not, Bool.and_eq_true, Bool.or_eq_true, Bool.not_eq_true', Int.not_le, Int.not_lt] at hc4
            obtain rfl := hf0 hc4
            refine sy_seq ?_
            refine sy_tx' [0, 1, 2, 3, 4, 5, 6] rfl ?_
            refine sy_sq ?_
            refine sp rfl (PE.move rfl) rfl ?_
            refine sy_sq ?_
            refine sp rfl (PE.lenSl isl96 rfl) rfl ?_
            refine sy_sq ?_
            refine sp rfl (PE.eql rfl rfl) rfl ?_
            refine sy_sq ?_
            refine sp rfl (PE.move rfl) rfl ?_
            refine sy_sq ?_
            refine sy_case (t := 92) rfl (fun g92 => ?_) (fun g92 => ?_)
            ·
             refine clVG rfl rfl rfl rfl cal16 rfl rfl (c_awake _ _) ?_
             refine sy_sq ?_
             refine sp rfl (PE.pick rfl rfl rfl) rfl ?_
             refine sy_sq ?_
             refine sp rfl (PE.assign rfl) rfl ?_
             refine sy_sn ?_
             refine sy_nx ?_
             refine sy_ret ?_
             refine sy_tr ?_
             exact sy_return (vs := [_]) rfl (.cons (RV.tmp rfl) .nil) rfl ⟨rfl, rfl, rfl⟩ (fun _ h => by repeat first | exact h | replace h := St.tail h | replace h := St.ftail h | replace h := St.drop h)
            ·
             exact absurd g92 (by first | (simp; done) | (simp_all; done))
           ·
            try simp only [decide_eq_true_eq, decide_eq_false_iff_not, Bool.and_eq_true, Bool.or_eq_true, Bool.not_eq_true', Int.not_le, Int.not_lt] at hc4
            obtain ⟨hck, hly, hn, hst⟩ := hf1 (by simpa using hc4)
            have hok := (ok_of_check hck).1
            have hrg := ls_range hly hok.now
            have hlp : lastP t = (lat (LY t) t.now, 0) := by simp [lastP, hck]
            rw [hlp]
            dsimp only
            refine sy_addr (a := ax) (sz := 2) (rows := rrows t.rats) (by have := hok.many; intro h0; simp [rrows] at h0; simp [h0] at this) (fun bx ox he => ?_)
            subst he
            refine sy_skip ?_
            refine sy_nx ?_
            refine sy_seq ?_
            refine sy_draw [0, 0, 2, 7, 15, 31, 31, 63, 255] (.ld 0 (.tk 1 (.big 2 (.big 3 (.tk 4 (.tk 5 (.tk 6 (.tk 7 (.tk 8 .done))))))))) mixed (by kernel_rfl) ?_
            refine ld rfl rfl (lhA [_, _, _, _, _, _, _, _, _, _, _] ag37 rfl rfl rfl) rfl ?_
            refine tk rfl (PE.move rfl) rfl ?_
            refine sy_bg ?_
            refine cl rfl cal59 rfl rfl (c_ends fl at_ ct (by omega) _ _) ?_
            rintro _ _ _ ⟨ar, cr, rfl, rfl, rfl⟩
            refine bg (fun w hs => ⟨(lhA [_, _, _, _, _, _, _, _, _, _, _] ag37 rfl rfl rfl) w hs, trivial⟩) ?_
            refine sy_bg ?_
            refine cl rfl cal58 rfl rfl (c_rStarves t hck fl ar cr (by omega) bx ox cx _ _) ?_
            rintro _ _ _ ⟨rfl, rfl, rfl⟩
            rw [hst]
            refine bg (fun w hs => ⟨trivial, trivial⟩) ?_
            refine tk rfl (PE.move rfl) rfl ?_
            refine tk rfl (PE.extract rfl rfl) rfl ?_
            refine tk rfl (PE.extract rfl rfl) rfl ?_
            refine tk rfl (PE.assign rfl) rfl ?_
            refine tk rfl (PE.assign rfl) rfl ?_
            refine sy_dn ?_
            refine sy_nx ?_
            refine sy_seq ?_
            refine sy_tx' [0, 1, 2, 3, 4, 5, 6, 7, 8, 9, 10, 11] rfl ?_
            refine sy_sq ?_
            refine sp rfl (PE.move rfl) rfl ?_
            refine sy_sq ?_
            refine sp rfl (PE.eql rfl rfl) rfl ?_
            refine sy_sq ?_
            refine sp rfl (PE.move rfl) rfl ?_
            refine sy_sq ?_
            refine sy_case (t := 104) rfl (fun g104 => ?_) (fun g104 => ?_)
            ·
             refine spG rfl rfl rfl rfl (PE.move rfl) rfl ?_
             refine sy_sq ?_
             refine spG rfl rfl rfl rfl (PE.move rfl) rfl ?_
             refine sy_sq ?_
             refine spG rfl rfl rfl rfl (PE.add rfl rfl (by omega)) rfl ?_
             refine sy_sq ?_
             refine spG rfl rfl rfl rfl (PE.eql rfl rfl) rfl ?_
             refine sy_sq ?_
             refine sp rfl (PE.pick rfl rfl rfl) rfl ?_
             refine sy_sq ?_
             refine sp rfl (PE.move rfl) rfl ?_
             refine sy_sq ?_
             refine sy_case (t := 110) rfl (fun g110 => ?_) (fun g110 => ?_)
             ·
              refine clVG rfl rfl rfl rfl cal16 rfl rfl (c_awake _ _) ?_
              refine sy_sq ?_
              refine sp rfl (PE.pick rfl rfl rfl) rfl ?_
              refine sy_sq ?_
              refine sp rfl (PE.assign rfl) rfl ?_
              refine sy_sn ?_
              refine sy_nx ?_
              refine sy_ret ?_
              exact sy_return (vs := [_]) rfl (.cons (RV.tmp rfl) .nil) rfl ⟨rfl, rfl, rfl⟩ (fun _ h => by repeat first | exact h | replace h := St.tail h | replace h := St.ftail h | replace h := St.drop h)
             ·
              exact absurd g110 (by first | (simp; done) | (simp_all; done))
            ·
             exact absurd g104 (by first | (simp; done) | (simp_all; done))
end Go.Proofs.Ytaldphhdkmchhaa
