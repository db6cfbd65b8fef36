/- Walks of the functions of the program: what each returns and leaves in memory, under the conditions that its theorem names. -/
import Derived.Test.YtaldphhdkmchhaaTy
import Derived.Test.YtaldphhdkmchhaaMa
import Derived.Test.YtaldphhdkmchhaaWk10
import Derived.Test.YtaldphhdkmchhaaMh
namespace Go.Proofs.Ytaldphhdkmchhaa
set_option linter.unusedSimpArgs false
set_option linter.unusedVariables false
open Go
theorem c_dup_int (xs : List Int) (a : Option Addr) (c : Nat) (hl : xs.length ≤ 1000000) (H : Heap) (R : Facts) [hR : MemRows a 1 (irows xs) R] :
    Fn Try.prog 32 [.slice a xs.length c] H R (fun v H' R' => ∃ o : OSl 3 1 (irows xs), v = o.fs ∧ o.here ∧ H' = o.G ++ H ∧ R' = R) := by
  refine fn_of Try.func32 rfl Try.ntmps32 rfl ?_
  refine sy_seq ?_
  refine sy_tx' [0] rfl ?_
  refine sy_sq ?_
  refine sp rfl (PE.assign rfl) rfl ?_
  refine sy_sn ?_
  refine sy_nx ?_
  refine sy_seq ?_
  refine sy_tx' [0, 1, 2, 3, 4, 5] rfl ?_
  refine sy_sq ?_
  refine sp rfl (PE.move rfl) rfl ?_
  refine sy_sq ?_
  refine sp rfl (PE.lenSl isl42 rfl) rfl ?_
  refine sy_sq ?_
  refine mkO rfl ap42 zl3 rfl rfl ⟨by omega, by omega⟩ rfl (fun o ho => ?_)
  refine sy_sq ?_
  refine sp rfl (PE.move rfl) rfl ?_
  refine sy_sq ?_
  refine apOh (news := irows xs) o rfl ap42 rfl rfl (rowsF) (by simp [irows]) (by simp [onecells, irows, Value.oneCell']) ⟨by simp [irows]; omega, by simp [irows]; omega⟩ rfl ho (fun o2 ho2 => ?_)
  refine sy_sq ?_
  refine sp rfl (PE.assign rfl) rfl ?_
  refine sy_sn ?_
  refine sy_nx ?_
  refine sy_ret ?_
  exact sy_return (vs := [_]) rfl (.cons (RV.tmp rfl) .nil) rfl ⟨o2.cast (by simp), rfl, ho2, rfl, rfl⟩ (fun _ h => h)

theorem c_Eq_int (xs ys : List Int) (a a2 : Option Addr) (c c2 : Nat) (hl : xs.length ≤ 9223372036854775807) (hl2 : ys.length ≤ 9223372036854775807) (H : Heap) (R : Facts) [hR : MemRows a 1 (irows xs) R] [hR2 : MemRows a2 1 (irows ys) R] :
    FnV Try.prog 38 [.slice a xs.length c, .slice a2 ys.length c2] H R (.bool (decide (xs = ys))) := by
  refine fn_of Try.func38 rfl Try.ntmps38 rfl ?_
  refine sy_seq ?_
  refine sy_tx' [0] rfl ?_
  refine sy_sq ?_
  refine sp rfl (PE.assign rfl) rfl ?_
  refine sy_sn ?_
  refine sy_nx ?_
  refine sy_seq ?_
  refine sy_tx' [0, 1, 2, 3] rfl ?_
  refine sy_sq ?_
  refine sp rfl (PE.move rfl) rfl ?_
  refine sy_sq ?_
  refine sp rfl (PE.move rfl) rfl ?_
  refine sy_sq ?_
  refine clV rfl cal81 rfl rfl (c_eq_int xs ys a a2 c c2 hl hl2 _ _) ?_
  refine sy_sq ?_
  refine sp rfl (PE.assign rfl) rfl ?_
  refine sy_sn ?_
  refine sy_nx ?_
  refine sy_ret ?_
  exact sy_return (vs := [_]) rfl (.cons (RV.tmp rfl) .nil) rfl ⟨rfl, rfl, rfl⟩ (fun _ h => by repeat first | exact h | replace h := St.tail h | replace h := St.ftail h | replace h := St.drop h)

theorem c_off (n lo hi : Int) (H : Heap) (R : Facts) :
    FnV Try.prog 83 [.int .i64 n, .int .i64 lo, .int .i64 hi] H R (.bool (!(decide (lo ≤ n) && decide (n ≤ hi)))) := by
  refine fn_of Try.func83 rfl Try.ntmps83 rfl ?_
  refine sy_seq ?_
  refine sy_tx' [0] rfl ?_
  refine sy_sq ?_
  refine sp rfl (PE.assign rfl) rfl ?_
  refine sy_sn ?_
  refine sy_nx ?_
  refine sy_seq ?_
  refine sy_tx' [0, 1, 2, 3, 4, 5, 6, 7, 8] rfl ?_
  refine sy_sq ?_
  refine sp rfl (PE.move rfl) rfl ?_
  refine sy_sq ?_
  refine sp rfl (PE.move rfl) rfl ?_
  refine sy_sq ?_
  refine sp rfl (PE.lss rfl rfl) rfl ?_
  refine sy_sq ?_
  refine sp rfl (PE.move rfl) rfl ?_
  refine sy_sq ?_
  refine sy_case (t := 10) rfl (fun g10 => ?_) (fun g10 => ?_)
  ·
    simp only [decide_eq_true_eq, decide_eq_false_iff_not, Bool.and_eq_true, Bool.or_eq_true, Bool.not_eq_true', Int.not_le, Int.not_lt] at g10
    refine spN rfl rfl rfl rfl rfl rfl rfl rfl ?_
    refine sy_sq ?_
    refine spN rfl rfl rfl rfl rfl rfl rfl rfl ?_
    refine sy_sq ?_
    refine spN rfl rfl rfl rfl rfl rfl rfl rfl ?_
    refine sy_sq ?_
    refine sp rfl (PE.pick rfl rfl rfl) rfl ?_
    refine sy_sq ?_
    refine sp rfl (PE.assign rfl) rfl ?_
    refine sy_sn ?_
    refine sy_nx ?_
    refine sy_ret ?_
    exact sy_return (vs := [_]) rfl (.cons (RV.tmp rfl) .nil) rfl ⟨by simp only [retV]; congr 1; by_cases h1 : lo ≤ n <;> by_cases h2 : n ≤ hi <;> simp [h1, h2] <;> omega, rfl, rfl⟩ (fun _ h => by repeat first | exact h | replace h := St.tail h | replace h := St.ftail h | replace h := St.drop h)
  ·
    simp only [decide_eq_true_eq, decide_eq_false_iff_not, Bool.and_eq_true, Bool.or_eq_true, Bool.not_eq_true', Int.not_le, Int.not_lt] at g10
    refine spG rfl rfl rfl rfl (PE.move rfl) rfl ?_
    refine sy_sq ?_
    refine spG rfl rfl rfl rfl (PE.move rfl) rfl ?_
    refine sy_sq ?_
    refine spG rfl rfl rfl rfl (PE.gtr rfl rfl) rfl ?_
    refine sy_sq ?_
    refine sp rfl (PE.pick rfl rfl rfl) rfl ?_
    refine sy_sq ?_
    refine sp rfl (PE.assign rfl) rfl ?_
    refine sy_sn ?_
    refine sy_nx ?_
    refine sy_ret ?_
    exact sy_return (vs := [_]) rfl (.cons (RV.tmp rfl) .nil) rfl ⟨by simp only [retV]; congr 1; by_cases h1 : lo ≤ n <;> by_cases h2 : n ≤ hi <;> simp [h1, h2] <;> omega, rfl, rfl⟩ (fun _ h => by repeat first | exact h | replace h := St.tail h | replace h := St.ftail h | replace h := St.drop h)

theorem all_take {l : List Int} {k : Nat} {x : Int} {p : Int → Bool} (hx : l[k]? = some x) (hn : (l.take k).all p = true) (h : p x = true) : (l.take (k + 1)).all p = true := by
  rw [List.take_add_one, hx, Option.toList_some, List.all_append, hn]; simp [h]
theorem all_miss {l : List Int} {k : Nat} {x : Int} {p : Int → Bool} (hx : l[k]? = some x) (h : p x = false) : l.all p = false := by
  rw [List.all_eq_false]; exact ⟨x, List.mem_of_getElem? hx, by simp [h]⟩

theorem c_rAsked (s : Int) (ws : List Int) (a : Option Addr) (c : Nat) (hl : ws.length ≤ 9223372036854775807) (H : Heap) (R : Facts) [hR : MemRows a 1 (irows ws) R] :
    FnV Try.prog 33 [.int .i64 s, .slice a ws.length c] H R (.int .i64 (askE s ws)) := by
  refine fn_of Try.func33 rfl Try.ntmps33 rfl ?_
  refine sy_seq ?_
  refine sy_tx' [0] rfl ?_
  refine sy_sq ?_
  refine sp rfl (PE.assign rfl) rfl ?_
  refine sy_sn ?_
  refine sy_nx ?_
  refine sy_seq ?_
  refine sy_seq ?_
  refine sy_tx' [0, 1, 2] rfl ?_
  refine sy_sq ?_
  refine sp rfl (PE.move rfl) rfl ?_
  refine sy_sq ?_
  refine sp rfl (PE.lenSl isl42 rfl) rfl ?_
  refine sy_sq ?_
  refine sp rfl (PE.gtr rfl rfl) rfl ?_
  refine sy_sn ?_
  refine sy_nx ?_
  refine sy_cond rfl (fun hc0 => ?_) (fun hc0 => ?_)
  ·
    have h8 : decide (8 < ws.length) = true := by simp only [decide_eq_true_eq] at hc0 ⊢; omega
    have hres : askE s ws = 2 := by unfold askE; rw [h8]; rfl
    refine sy_seq ?_
    refine sy_tx' [0] rfl ?_
    refine sy_sq ?_
    refine sp rfl (PE.assign rfl) rfl ?_
    refine sy_sn ?_
    refine sy_nx ?_
    refine sy_ret ?_
    refine sy_tr ?_
    exact sy_return (vs := [_]) rfl (.cons (RV.tmp rfl) .nil) rfl ⟨congrArg (Value.int .i64) hres.symm, rfl, rfl⟩ (fun _ h => by repeat first | exact h | replace h := St.tail h | replace h := St.ftail h | replace h := St.drop h)
  ·
    have h8 : decide (8 < ws.length) = false := by simp only [decide_eq_false_iff_not] at hc0 ⊢; omega
    refine sy_skip ?_
    refine sy_nx ?_
    refine sy_seq ?_
    refine sy_seq ?_
    refine sy_tx' [0, 1] rfl ?_
    refine sy_sq ?_
    refine sp rfl (PE.move rfl) rfl ?_
    refine sy_sq ?_
    refine clV rfl cal83 rfl rfl (c_off _ _ _ _ _) ?_
    refine sy_sn ?_
    refine sy_nx ?_
    refine sy_cond rfl (fun hc1 => ?_) (fun hc1 => ?_)
    ·
      have h9 : inb s 0 1000 = false := by rw [← Bool.not_eq_true']; exact hc1
      have hres : askE s ws = 3 := by unfold askE; rw [h8, h9]; rfl
      refine sy_seq ?_
      refine sy_tx' [0] rfl ?_
      refine sy_sq ?_
      refine sp rfl (PE.assign rfl) rfl ?_
      refine sy_sn ?_
      refine sy_nx ?_
      refine sy_ret ?_
      refine sy_tr ?_
      exact sy_return (vs := [_]) rfl (.cons (RV.tmp rfl) .nil) rfl ⟨congrArg (Value.int .i64) hres.symm, rfl, rfl⟩ (fun _ h => by repeat first | exact h | replace h := St.tail h | replace h := St.ftail h | replace h := St.drop h)
    ·
      have h9 : inb s 0 1000 = true := by rw [← Bool.not_eq_false']; exact hc1
      refine sy_skip ?_
      refine sy_nx ?_
      refine sy_seq ?_
      refine sy_seq ?_
      refine sy_tx' [0] rfl ?_
      refine sy_sq ?_
      refine sp rfl (PE.assign rfl) rfl ?_
      refine sy_sn ?_
      refine sy_nx ?_
      refine sy_block ?_
      refine sy_loop (ι := {k : Nat // k ≤ ws.length ∧ (ws.take k).all (fun n => inb n 0 1000) = true}) (fun k => ⟨[(1, .slice a ws.length c), (5, .int .i64 k.1)], H, R⟩) (fun k => ws.length - k.1) ⟨0, by simp⟩ ?_ (fun k => ?_)
      ·
        exact sy_at (by repeat' first | exact Sub.nil | apply Sub.cons | rfl | (simp [lk]; omega)) (fun _ h => h)
      ·
        obtain ⟨k, hk, hn⟩ := k
        dsimp only at hk hn ⊢
        refine sy_seq ?_
        refine sy_seq ?_
        refine sy_tx' [0, 1, 2, 3] rfl ?_
        refine sy_sq ?_
        refine sp rfl (PE.move rfl) rfl ?_
        refine sy_sq ?_
        refine sp rfl (PE.move rfl) rfl ?_
        refine sy_sq ?_
        refine sp rfl (PE.lenSl isl42 rfl) rfl ?_
        refine sy_sq ?_
        refine sp rfl (PE.lss rfl rfl) rfl ?_
        refine sy_sn ?_
        refine sy_nx ?_
        refine sy_cond rfl (fun hc2 => ?_) (fun hc2 => ?_)
        ·
          simp only [decide_eq_true_eq, decide_eq_false_iff_not, Bool.and_eq_true, Bool.or_eq_true, Bool.not_eq_true', Int.not_le, Int.not_lt] at hc2
          obtain ⟨x, hx⟩ : ∃ x, ws[k]? = some x := ⟨_, List.getElem?_eq_getElem (by omega)⟩
          refine sy_addr (a := a) (sz := 1) (rows := irows ws) (by intro h0; simp [irows] at h0; simp [h0] at hx) (fun ba oa he => ?_)
          subst he
          refine sy_skip ?_
          refine sy_nx ?_
          refine sy_seq ?_
          refine sy_block ?_
          refine sy_seq ?_
          refine sy_tx' [0, 1, 2, 3, 4] rfl ?_
          refine sy_sq ?_
          refine sp rfl (PE.move rfl) rfl ?_
          refine sy_sq ?_
          refine sp rfl (PE.move rfl) rfl ?_
          refine sy_sq ?_
          refine sp rfl (PE.indexAddr el42 rfl rfl (by omega) (by omega)) rfl ?_
          refine sy_sq ?_
          refine spL rfl rfl (lf0 (x := .int .i64 x) sc3 (by simp [irows, hx]; rfl) rfl) rfl ?_
          refine sy_sq ?_
          refine clV rfl cal83 rfl rfl (c_off _ _ _ _ _) ?_
          refine sy_sn ?_
          refine sy_nx ?_
          refine sy_cond rfl (fun hc3 => ?_) (fun hc3 => ?_)
          ·
            have hbx : inb x 0 1000 = false := by rw [← Bool.not_eq_true']; exact hc3
            have hres : askE s ws = 3 := by unfold askE; rw [h8, h9, all_miss hx hbx]; rfl
            refine sy_seq ?_
            refine sy_tx' [0] rfl ?_
            refine sy_sq ?_
            refine sp rfl (PE.assign rfl) rfl ?_
            refine sy_sn ?_
            refine sy_nx ?_
            refine sy_ret ?_
            refine sy_br ?_
            refine sy_tr ?_
            refine sy_tr ?_
            refine sy_br ?_
            refine sy_tr ?_
            exact sy_return (vs := [_]) rfl (.cons (RV.tmp rfl) .nil) rfl ⟨congrArg (Value.int .i64) hres.symm, rfl, rfl⟩ (fun _ h => by repeat first | exact h | replace h := St.tail h | replace h := St.ftail h | replace h := St.drop h)
          ·
            have hbx : inb x 0 1000 = true := by rw [← Bool.not_eq_false']; exact hc3
            refine sy_skip ?_
            refine sy_bn ?_
            refine sy_nx ?_
            refine sy_tx' [0, 1, 2] rfl ?_
            refine sy_sq ?_
            refine sp rfl (PE.move rfl) rfl ?_
            refine sy_sq ?_
            refine sp rfl (PE.add rfl rfl (by omega)) rfl ?_
            refine sy_sq ?_
            refine sp rfl (PE.assign rfl) rfl ?_
            refine sy_sn ?_
            refine sy_nx ?_
            exact sy_next ⟨k + 1, by omega, all_take hx hn hbx⟩ (by dsimp only; omega) (by repeat' first | exact Sub.nil | apply Sub.cons | rfl | (simp [lk]; omega)) (fun _ h => h)
        ·
          simp only [decide_eq_true_eq, decide_eq_false_iff_not, Bool.and_eq_true, Bool.or_eq_true, Bool.not_eq_true', Int.not_le, Int.not_lt] at hc2
          obtain rfl : k = ws.length := by omega
          rw [List.take_length] at hn
          have hres : askE s ws = 0 := by unfold askE; rw [h8, h9, hn]; rfl
          refine sy_exit ?_
          refine sy_tx ?_
          refine sy_tx ?_
          refine sy_bx ?_
          refine sy_nx ?_
          refine sy_seq ?_
          refine sy_tx' [0] rfl ?_
          refine sy_sq ?_
          refine sp rfl (PE.assign rfl) rfl ?_
          refine sy_sn ?_
          refine sy_nx ?_
          refine sy_ret ?_
          exact sy_return (vs := [_]) rfl (.cons (RV.tmp rfl) .nil) rfl ⟨congrArg (Value.int .i64) hres.symm, rfl, rfl⟩ (fun _ h => by repeat first | exact h | replace h := St.tail h | replace h := St.ftail h | replace h := St.drop h)

theorem c_rShares (ws sh : List Int) (a a2 : Option Addr) (c c2 : Nat) (hl : ws.length ≤ 9223372036854775807) (hl2 : sh.length ≤ 9223372036854775807) (H : Heap) (R : Facts) [hR : MemRows a 1 (irows ws) R] [hR2 : MemRows a2 1 (irows sh) R] :
    FnV Try.prog 34 [.slice a ws.length c, .slice a2 sh.length c2] H R (.int .i64 (sharesE ws sh)) := by
  refine fn_of Try.func34 rfl Try.ntmps34 rfl ?_
  refine sy_seq ?_
  refine sy_tx' [0] rfl ?_
  refine sy_sq ?_
  refine sp rfl (PE.assign rfl) rfl ?_
  refine sy_sn ?_
  refine sy_nx ?_
  refine sy_seq ?_
  refine sy_seq ?_
  refine sy_tx' [0, 1, 2, 3, 4] rfl ?_
  refine sy_sq ?_
  refine sp rfl (PE.move rfl) rfl ?_
  refine sy_sq ?_
  refine sp rfl (PE.lenSl isl42 rfl) rfl ?_
  refine sy_sq ?_
  refine sp rfl (PE.move rfl) rfl ?_
  refine sy_sq ?_
  refine sp rfl (PE.lenSl isl42 rfl) rfl ?_
  refine sy_sq ?_
  refine sp rfl (PE.neq rfl rfl) rfl ?_
  refine sy_sn ?_
  refine sy_nx ?_
  refine sy_cond rfl (fun hc0 => ?_) (fun hc0 => ?_)
  ·
    have h8 : decide (sh.length ≠ ws.length) = true := by simp only [decide_eq_true_eq] at hc0 ⊢; omega
    have hres : sharesE ws sh = 2 := by unfold sharesE; rw [h8]; rfl
    refine sy_seq ?_
    refine sy_tx' [0] rfl ?_
    refine sy_sq ?_
    refine sp rfl (PE.assign rfl) rfl ?_
    refine sy_sn ?_
    refine sy_nx ?_
    refine sy_ret ?_
    refine sy_tr ?_
    exact sy_return (vs := [_]) rfl (.cons (RV.tmp rfl) .nil) rfl ⟨congrArg (Value.int .i64) hres.symm, rfl, rfl⟩ (fun _ h => by repeat first | exact h | replace h := St.tail h | replace h := St.ftail h | replace h := St.drop h)
  ·
    have h8 : decide (sh.length ≠ ws.length) = false := by simp only [decide_eq_false_iff_not] at hc0 ⊢; omega
    refine sy_skip ?_
    refine sy_nx ?_
    refine sy_seq ?_
    refine sy_seq ?_
    refine sy_tx' [0] rfl ?_
    refine sy_sq ?_
    refine sp rfl (PE.assign rfl) rfl ?_
    refine sy_sn ?_
    refine sy_nx ?_
    refine sy_block ?_
    refine sy_loop (ι := {k : Nat // k ≤ sh.length ∧ (sh.take k).all (fun n => inb n 0 1000) = true}) (fun k => ⟨[(1, .slice a2 sh.length c2), (5, .int .i64 k.1)], H, R⟩) (fun k => sh.length - k.1) ⟨0, by simp⟩ ?_ (fun k => ?_)
    ·
      exact sy_at (by repeat' first | exact Sub.nil | apply Sub.cons | rfl | (simp [lk]; omega)) (fun _ h => h)
    ·
      obtain ⟨k, hk, hn⟩ := k
      dsimp only at hk hn ⊢
      refine sy_seq ?_
      refine sy_seq ?_
      refine sy_tx' [0, 1, 2, 3] rfl ?_
      refine sy_sq ?_
      refine sp rfl (PE.move rfl) rfl ?_
      refine sy_sq ?_
      refine sp rfl (PE.move rfl) rfl ?_
      refine sy_sq ?_
      refine sp rfl (PE.lenSl isl42 rfl) rfl ?_
      refine sy_sq ?_
      refine sp rfl (PE.lss rfl rfl) rfl ?_
      refine sy_sn ?_
      refine sy_nx ?_
      refine sy_cond rfl (fun hc1 => ?_) (fun hc1 => ?_)
      ·
        simp only [decide_eq_true_eq, decide_eq_false_iff_not, Bool.and_eq_true, Bool.or_eq_true, Bool.not_eq_true', Int.not_le, Int.not_lt] at hc1
        obtain ⟨x, hx⟩ : ∃ x, sh[k]? = some x := ⟨_, List.getElem?_eq_getElem (by omega)⟩
        refine sy_addr (a := a2) (sz := 1) (rows := irows sh) (by intro h0; simp [irows] at h0; simp [h0] at hx) (fun ba oa he => ?_)
        subst he
        refine sy_skip ?_
        refine sy_nx ?_
        refine sy_seq ?_
        refine sy_block ?_
        refine sy_seq ?_
        refine sy_tx' [0, 1, 2, 3, 4] rfl ?_
        refine sy_sq ?_
        refine sp rfl (PE.move rfl) rfl ?_
        refine sy_sq ?_
        refine sp rfl (PE.move rfl) rfl ?_
        refine sy_sq ?_
        refine sp rfl (PE.indexAddr el42 rfl rfl (by omega) (by omega)) rfl ?_
        refine sy_sq ?_
        refine spL rfl rfl (lf0 (x := .int .i64 x) sc3 (by simp [irows, hx]; rfl) rfl) rfl ?_
        refine sy_sq ?_
        refine clV rfl cal83 rfl rfl (c_off _ _ _ _ _) ?_
        refine sy_sn ?_
        refine sy_nx ?_
        refine sy_cond rfl (fun hc2 => ?_) (fun hc2 => ?_)
        ·
          have hbx : inb x 0 1000 = false := by rw [← Bool.not_eq_true']; exact hc2
          have hres : sharesE ws sh = 3 := by unfold sharesE; rw [h8, all_miss hx hbx]; rfl
          refine sy_seq ?_
          refine sy_tx' [0] rfl ?_
          refine sy_sq ?_
          refine sp rfl (PE.assign rfl) rfl ?_
          refine sy_sn ?_
          refine sy_nx ?_
          refine sy_ret ?_
          refine sy_br ?_
          refine sy_tr ?_
          refine sy_tr ?_
          refine sy_br ?_
          refine sy_tr ?_
          exact sy_return (vs := [_]) rfl (.cons (RV.tmp rfl) .nil) rfl ⟨congrArg (Value.int .i64) hres.symm, rfl, rfl⟩ (fun _ h => by repeat first | exact h | replace h := St.tail h | replace h := St.ftail h | replace h := St.drop h)
        ·
          have hbx : inb x 0 1000 = true := by rw [← Bool.not_eq_false']; exact hc2
          refine sy_skip ?_
          refine sy_bn ?_
          refine sy_nx ?_
          refine sy_tx' [0, 1, 2] rfl ?_
          refine sy_sq ?_
          refine sp rfl (PE.move rfl) rfl ?_
          refine sy_sq ?_
          refine sp rfl (PE.add rfl rfl (by omega)) rfl ?_
          refine sy_sq ?_
          refine sp rfl (PE.assign rfl) rfl ?_
          refine sy_sn ?_
          refine sy_nx ?_
          exact sy_next ⟨k + 1, by omega, all_take hx hn hbx⟩ (by dsimp only; omega) (by repeat' first | exact Sub.nil | apply Sub.cons | rfl | (simp [lk]; omega)) (fun _ h => h)
      ·
        simp only [decide_eq_true_eq, decide_eq_false_iff_not, Bool.and_eq_true, Bool.or_eq_true, Bool.not_eq_true', Int.not_le, Int.not_lt] at hc1
        obtain rfl : k = sh.length := by omega
        rw [List.take_length] at hn
        have hres : sharesE ws sh = 0 := by unfold sharesE; rw [h8, hn]; rfl
        refine sy_exit ?_
        refine sy_tx ?_
        refine sy_tx ?_
        refine sy_bx ?_
        refine sy_nx ?_
        refine sy_seq ?_
        refine sy_tx' [0] rfl ?_
        refine sy_sq ?_
        refine sp rfl (PE.assign rfl) rfl ?_
        refine sy_sn ?_
        refine sy_nx ?_
        refine sy_ret ?_
        exact sy_return (vs := [_]) rfl (.cons (RV.tmp rfl) .nil) rfl ⟨congrArg (Value.int .i64) hres.symm, rfl, rfl⟩ (fun _ h => by repeat first | exact h | replace h := St.tail h | replace h := St.ftail h | replace h := St.drop h)

theorem c_Fair (s : Int) (ws sh : List Int) (a a2 : Option Addr) (c c2 : Nat) (hl : ws.length ≤ 9223372036854775807) (hl2 : sh.length ≤ 9223372036854775807) (H : Heap) (R : Facts) [hR : MemRows a 1 (irows ws) R] [hR2 : MemRows a2 1 (irows sh) R] :
    Fn Try.prog 37 [.int .i64 s, .slice a ws.length c, .slice a2 sh.length c2] H R (fun v H' R' => (∃ j, (askE s ws = 0 → (shIt ws j (shInit s ws)).g = false) ∧ v = .tuple #[.bool (fairR s ws sh j).1, .int .i64 (fairR s ws sh j).2]) ∧ H' = H ∧ R' = R) := by
  refine fn_of Try.func37 rfl Try.ntmps37 rfl ?_
  refine sy_seq ?_
  refine sy_tx' [0, 1] rfl ?_
  refine sy_sq ?_
  refine sp rfl (PE.assign rfl) rfl ?_
  refine sy_sq ?_
  refine sp rfl (PE.assign rfl) rfl ?_
  refine sy_sn ?_
  refine sy_nx ?_
  refine sy_seq ?_
  refine sy_tx' [0, 1, 2, 3, 4, 5, 6, 7] rfl ?_
  refine sy_sq ?_
  refine sp rfl (PE.move rfl) rfl ?_
  refine sy_sq ?_
  refine sp rfl (PE.move rfl) rfl ?_
  refine sy_sq ?_
  refine cl rfl cal36 rfl rfl (c_Share s ws a c hl _ _) ?_
  rintro _ _ _ ⟨⟨hck, rfl, rfl⟩ | ⟨hck, j, bo, hg, rfl, rfl⟩, rfl⟩
  ·
    refine sy_sq ?_
    refine sp rfl (PE.move rfl) rfl ?_
    refine sy_sq ?_
    refine sp rfl (PE.extract rfl rfl) rfl ?_
    refine sy_sq ?_
    refine sp rfl (PE.extract rfl rfl) rfl ?_
    refine sy_sq ?_
    refine sp rfl (PE.assign rfl) rfl ?_
    refine sy_sq ?_
    refine sp rfl (PE.assign rfl) rfl ?_
    refine sy_sn ?_
    refine sy_nx ?_
    refine sy_seq ?_
    refine sy_block ?_
    refine sy_seq ?_
    refine sy_tx' [0, 1, 2] rfl ?_
    refine sy_sq ?_
    refine sp rfl (PE.move rfl) rfl ?_
    refine sy_sq ?_
    refine sp rfl (PE.neq rfl rfl) rfl ?_
    refine sy_sq ?_
    refine sp rfl (PE.assign rfl) rfl ?_
    refine sy_sn ?_
    refine sy_nx ?_
    refine sy_condT (congrArg (fun b => some (Value.bool b)) (decide_eq_true hck)) ?_
    refine sy_seq ?_
    refine sy_tx' [0, 1, 2] rfl ?_
    refine sy_sq ?_
    refine sp rfl (PE.move rfl) rfl ?_
    refine sy_sq ?_
    refine sp rfl (PE.assign rfl) rfl ?_
    refine sy_sq ?_
    refine sp rfl (PE.assign rfl) rfl ?_
    refine sy_sn ?_
    refine sy_nx ?_
    refine sy_ret ?_
    refine sy_br ?_
    refine sy_tr ?_
    have hres : fairR s ws sh 0 = (false, askE s ws) := by simp [fairR, hck]
    have hj : askE s ws = 0 → (shIt ws 0 (shInit s ws)).g = false := fun h => absurd h hck
    exact sy_return (vs := [_, _]) (v := .tuple #[.bool (fairR s ws sh 0).1, .int .i64 (fairR s ws sh 0).2]) rfl (.cons (RV.tmp rfl) (.cons (RV.tmp rfl) .nil)) (by rw [hres]; rfl) ⟨⟨0, hj, rfl⟩, rfl, rfl⟩ (fun _ h => by repeat first | exact h | replace h := St.tail h | replace h := St.ftail h | replace h := St.drop h)
  ·
    refine sy_sq ?_
    have hj : askE s ws = 0 → (shIt ws j (shInit s ws)).g = false := fun _ => hg
    have hlo : (shIt ws j (shInit s ws)).o.length = ws.length := (shIt_ok j _ (shInit_ok hck).1).len
    refine Sy.heap (fun w h => St.intRows h) ?_
    rw [← hlo]
    refine sp rfl (PE.move rfl) rfl ?_
    refine sy_sq ?_
    refine sp rfl (PE.extract rfl rfl) rfl ?_
    refine sy_sq ?_
    refine sp rfl (PE.extract rfl rfl) rfl ?_
    refine sy_sq ?_
    refine sp rfl (PE.assign rfl) rfl ?_
    refine sy_sq ?_
    refine sp rfl (PE.assign rfl) rfl ?_
    refine sy_sn ?_
    refine sy_nx ?_
    refine sy_seq ?_
    refine sy_block ?_
    refine sy_seq ?_
    refine sy_tx' [0, 1, 2] rfl ?_
    refine sy_sq ?_
    refine sp rfl (PE.move rfl) rfl ?_
    refine sy_sq ?_
    refine sp rfl (PE.neq rfl rfl) rfl ?_
    refine sy_sq ?_
    refine sp rfl (PE.assign rfl) rfl ?_
    refine sy_sn ?_
    refine sy_nx ?_
    refine sy_condF (rfl) ?_
    refine sy_seq ?_
    refine sy_tx' [0, 1, 2, 3, 4, 5] rfl ?_
    refine sy_sq ?_
    refine sp rfl (PE.move rfl) rfl ?_
    refine sy_sq ?_
    refine sp rfl (PE.lenSl isl42 rfl) rfl ?_
    refine sy_sq ?_
    refine sp rfl (PE.move rfl) rfl ?_
    refine sy_sq ?_
    refine sp rfl (PE.lenSl isl42 rfl) rfl ?_
    refine sy_sq ?_
    refine sp rfl (PE.neq rfl rfl) rfl ?_
    refine sy_sq ?_
    refine sp rfl (PE.assign rfl) rfl ?_
    refine sy_sn ?_
    refine sy_nx ?_
    refine sy_cond rfl (fun hc1 => ?_) (fun hc1 => ?_)
    ·
      have h8 : decide (sh.length ≠ ws.length) = true := by simp only [decide_eq_true_eq] at hc1 ⊢; omega
      have hse : sharesE ws sh = 2 := by unfold sharesE; rw [h8]; rfl
      have hres : fairR s ws sh j = (false, 2) := by simp [fairR, hck, hse]
      refine sy_seq ?_
      refine sy_tx' [0, 1] rfl ?_
      refine sy_sq ?_
      refine sp rfl (PE.assign rfl) rfl ?_
      refine sy_sq ?_
      refine sp rfl (PE.assign rfl) rfl ?_
      refine sy_sn ?_
      refine sy_nx ?_
      refine sy_ret ?_
      refine sy_br ?_
      refine sy_tr ?_
      exact sy_return (vs := [_, _]) (v := .tuple #[.bool (fairR s ws sh j).1, .int .i64 (fairR s ws sh j).2]) rfl (.cons (RV.tmp rfl) (.cons (RV.tmp rfl) .nil)) (by rw [hres]; rfl) ⟨⟨j, hj, rfl⟩, rfl, rfl⟩ (fun _ h => by repeat first | exact h | replace h := St.tail h | replace h := St.ftail h | replace h := St.drop h)
    ·
      have h8 : decide (sh.length ≠ ws.length) = false := by simp only [decide_eq_false_iff_not] at hc1 ⊢; omega
      refine sy_seq ?_
      refine sy_tx' [0, 1, 2, 3] rfl ?_
      refine sy_sq ?_
      refine sp rfl (PE.move rfl) rfl ?_
      refine sy_sq ?_
      refine clV rfl cal105 rfl rfl (c_every_int sh a2 c2 106 [] [] (fun n => inb n 0 1000) cal106 hl2 _ _ (fun _ x _ => c_fair1 x _ _)) ?_
      refine sy_sq ?_
      refine sp rfl (PE.not rfl) rfl ?_
      refine sy_sq ?_
      refine sp rfl (PE.assign rfl) rfl ?_
      refine sy_sn ?_
      refine sy_nx ?_
      refine sy_cond rfl (fun hc2 => ?_) (fun hc2 => ?_)
      ·
        have h9 : (sh.all fun n => inb n 0 1000) = false := by rw [← Bool.not_eq_true']; exact hc2
        have hse : sharesE ws sh = 3 := by unfold sharesE; rw [h8, h9]; rfl
        have hres : fairR s ws sh j = (false, 3) := by simp [fairR, hck, hse]
        refine sy_seq ?_
        refine sy_tx' [0, 1] rfl ?_
        refine sy_sq ?_
        refine sp rfl (PE.assign rfl) rfl ?_
        refine sy_sq ?_
        refine sp rfl (PE.assign rfl) rfl ?_
        refine sy_sn ?_
        refine sy_nx ?_
        refine sy_ret ?_
        refine sy_br ?_
        refine sy_tr ?_
        exact sy_return (vs := [_, _]) (v := .tuple #[.bool (fairR s ws sh j).1, .int .i64 (fairR s ws sh j).2]) rfl (.cons (RV.tmp rfl) (.cons (RV.tmp rfl) .nil)) (by rw [hres]; rfl) ⟨⟨j, hj, rfl⟩, rfl, rfl⟩ (fun _ h => by repeat first | exact h | replace h := St.tail h | replace h := St.ftail h | replace h := St.drop h)
      ·
        have h9 : (sh.all fun n => inb n 0 1000) = true := by rw [← Bool.not_eq_false']; exact hc2
        have hse : sharesE ws sh = 0 := by unfold sharesE; rw [h8, h9]; rfl
        have hres : fairR s ws sh j = (decide ((shIt ws j (shInit s ws)).o = sh), 0) := by simp [fairR, hck, hse]
        refine sy_skip ?_
        refine sy_bn ?_
        refine sy_nx ?_
        refine sy_seq ?_
        refine sy_tx' [0, 1, 2, 3, 4] rfl ?_
        refine sy_sq ?_
        refine sp rfl (PE.move rfl) rfl ?_
        refine sy_sq ?_
        refine sp rfl (PE.move rfl) rfl ?_
        refine sy_sq ?_
        refine clV rfl cal81 rfl rfl (c_eq_int (shIt ws j (shInit s ws)).o sh (some ⟨bo, 0, none⟩) a2 _ c2 (by omega) hl2 _ _) ?_
        refine sy_sq ?_
        refine sp rfl (PE.assign rfl) rfl ?_
        refine sy_sq ?_
        refine sp rfl (PE.assign rfl) rfl ?_
        refine sy_sn ?_
        refine sy_nx ?_
        refine sy_ret ?_
        exact sy_return (vs := [_, _]) (v := .tuple #[.bool (fairR s ws sh j).1, .int .i64 (fairR s ws sh j).2]) rfl (.cons (RV.tmp rfl) (.cons (RV.tmp rfl) .nil)) (by rw [hres]; rfl) ⟨⟨j, hj, rfl⟩, rfl, rfl⟩ (fun _ h => by repeat first | exact h | replace h := St.tail h | replace h := St.ftail h | replace h := St.drop h)

theorem c_rFair (s : Int) (ws sh : List Int) (a a2 : Option Addr) (c c2 : Nat) (hlen : sh.length = ws.length) (h8 : ws.length ≤ 1000) (hsh : ∀ n ∈ sh, 0 ≤ n ∧ n ≤ 1000) (H : Heap) (R : Facts) [hR : MemRows a 1 (irows ws) R] [hR2 : MemRows a2 1 (irows sh) R] :
    FnV Try.prog 35 [.int .i64 s, .slice a ws.length c, .slice a2 sh.length c2] H R (.bool (refFair s ws sh)) := by
  refine fn_of Try.func35 rfl Try.ntmps35 rfl ?_
  refine sy_seq ?_
  refine sy_tx' [0] rfl ?_
  refine sy_sq ?_
  refine sp rfl (PE.assign rfl) rfl ?_
  refine sy_sn ?_
  refine sy_nx ?_
  refine sy_seq ?_
  refine sy_tx' [0, 1] rfl ?_
  refine sy_sq ?_
  refine sp rfl (PE.assign rfl) rfl ?_
  refine sy_sq ?_
  refine sp rfl (PE.assign rfl) rfl ?_
  refine sy_sn ?_
  refine sy_nx ?_
  refine sy_seq ?_
  refine sy_seq ?_
  refine sy_tx' [0] rfl ?_
  refine sy_sq ?_
  refine sp rfl (PE.assign rfl) rfl ?_
  refine sy_sn ?_
  refine sy_nx ?_
  refine sy_block ?_
  refine sy_loop (ι := {k : Nat // k ≤ ws.length ∧ ∀ i, i < k → okAt ws sh i = true}) (fun k => ⟨[(0, .int .i64 s), (1, .slice a ws.length c), (2, .slice a2 sh.length c2), (7, .int .i64 (sh.take k.1).sum), (8, .bool (decide (sh.take k.1 = ws.take k.1))), (9, .int .i64 k.1)], H, R⟩) (fun k => ws.length - k.1) ⟨0, by omega, by omega⟩ ?_ (fun k => ?_)
  ·
    exact sy_at (by repeat' first | exact Sub.nil | apply Sub.cons | rfl | (simp [lk]; omega)) (fun _ h => h)
  ·
    obtain ⟨i, hi, hok⟩ := k
    dsimp only at hi hok ⊢
    refine sy_seq ?_
    refine sy_seq ?_
    refine sy_tx' [0, 1, 2, 3] rfl ?_
    refine sy_sq ?_
    refine sp rfl (PE.move rfl) rfl ?_
    refine sy_sq ?_
    refine sp rfl (PE.move rfl) rfl ?_
    refine sy_sq ?_
    refine sp rfl (PE.lenSl isl42 rfl) rfl ?_
    refine sy_sq ?_
    refine sp rfl (PE.lss rfl rfl) rfl ?_
    refine sy_sn ?_
    refine sy_nx ?_
    refine sy_cond rfl (fun hc0 => ?_) (fun hc0 => ?_)
    ·
      simp only [decide_eq_true_eq, decide_eq_false_iff_not, Bool.and_eq_true, Bool.or_eq_true, Bool.not_eq_true', Int.not_le, Int.not_lt] at hc0
      obtain ⟨x, hx⟩ : ∃ x, sh[i]? = some x := ⟨_, List.getElem?_eq_getElem (by omega)⟩
      obtain ⟨y, hy⟩ : ∃ y, ws[i]? = some y := ⟨_, List.getElem?_eq_getElem (by omega)⟩
      have hxb := hsh x (List.mem_of_getElem? hx)
      have hsb := sum_bd (l := sh.take i) (fun n hn => hsh n (List.mem_of_mem_take hn))
      have htl : (sh.take i).length ≤ 1000 := by simp; omega
      refine sy_addr (a := a) (sz := 1) (rows := irows ws) (by intro h0; simp [irows] at h0; simp [h0] at hy) (fun bw ow he => ?_)
      subst he
      refine sy_addr (a := a2) (sz := 1) (rows := irows sh) (by intro h0; simp [irows] at h0; simp [h0] at hx) (fun bs os he => ?_)
      subst he
      refine sy_skip ?_
      refine sy_nx ?_
      refine sy_seq ?_
      refine sy_block ?_
      refine sy_seq ?_
      refine sy_seq ?_
      refine sy_draw [0, 0, 3, 7, 0, 0, 48, 112, 255] (.tk 0 (.tk 1 (.tk 2 (.ld 3 (.tk 4 (.tk 5 (.tk 6 (.ld 7 (.tk 8 .done))))))))) mixed (by kernel_rfl) ?_
      refine tk rfl (PE.move rfl) rfl ?_
      refine tk rfl (PE.move rfl) rfl ?_
      refine tk rfl (PE.indexAddr el42 rfl rfl (by omega) (by omega)) rfl ?_
      refine ld rfl rfl (lf0 (x := .int .i64 x) sc3 (by simp [irows, hx]; rfl) rfl) rfl ?_
      refine tk rfl (PE.move rfl) rfl ?_
      refine tk rfl (PE.move rfl) rfl ?_
      refine tk rfl (PE.indexAddr el42 rfl rfl (by omega) (by omega)) rfl ?_
      refine ld rfl rfl (lf0 (x := .int .i64 y) sc3 (by simp [irows, hy]; rfl) rfl) rfl ?_
      refine tk rfl (PE.gtr rfl rfl) rfl ?_
      refine sy_dn ?_
      refine sy_nx ?_
      refine sy_cond rfl (fun hc1 => ?_) (fun hc1 => ?_)
      ·
        simp only [decide_eq_true_eq, decide_eq_false_iff_not, Bool.and_eq_true, Bool.or_eq_true, Bool.not_eq_true', Int.not_le, Int.not_lt] at hc1
        have hbad : okAt ws sh i = false := by unfold okAt; rw [getD_of hx, getD_of hy]; simp; omega
        have hres := not_fair (s := s) (by omega : i < ws.length) hbad
        refine sy_seq ?_
        refine sy_tx' [0] rfl ?_
        refine sy_sq ?_
        refine sp rfl (PE.assign rfl) rfl ?_
        refine sy_sn ?_
        refine sy_nx ?_
        refine sy_ret ?_
        refine sy_tr ?_
        refine sy_br ?_
        refine sy_tr ?_
        refine sy_tr ?_
        refine sy_br ?_
        refine sy_tr ?_
        exact sy_return (vs := [_]) rfl (.cons (RV.tmp rfl) .nil) rfl ⟨congrArg Value.bool hres.symm, rfl, rfl⟩ (fun _ h => by repeat first | exact h | replace h := St.tail h | replace h := St.ftail h | replace h := St.drop h)
      ·
        simp only [decide_eq_true_eq, decide_eq_false_iff_not, Bool.and_eq_true, Bool.or_eq_true, Bool.not_eq_true', Int.not_le, Int.not_lt] at hc1
        refine sy_skip ?_
        refine sy_nx ?_
        refine sy_seq ?_
        refine sy_tx' [0, 1, 2, 3, 4, 5, 6] rfl ?_
        refine sy_sq ?_
        refine sp rfl (PE.move rfl) rfl ?_
        refine sy_sq ?_
        refine sp rfl (PE.move rfl) rfl ?_
        refine sy_sq ?_
        refine sp rfl (PE.move rfl) rfl ?_
        refine sy_sq ?_
        refine sp rfl (PE.indexAddr el42 rfl rfl (by omega) (by omega)) rfl ?_
        refine sy_sq ?_
        refine spL rfl rfl (lf0 (x := .int .i64 x) sc3 (by simp [irows, hx]; rfl) rfl) rfl ?_
        refine sy_sq ?_
        refine sp rfl (PE.add rfl rfl (by omega)) rfl ?_
        refine sy_sq ?_
        refine sp rfl (PE.assign rfl) rfl ?_
        refine sy_sn ?_
        refine sy_nx ?_
        refine sy_seq ?_
        refine sy_draw [0, 1, 3, 3, 15, 31, 3, 3, 195, 451, 1023, 2047, 4095] (.tk 0 (.tk 1 (.tk 2 (.tk 3 (.tk 4 (.ld 5 (.tk 6 (.tk 7 (.tk 8 (.ld 9 (.tk 10 (.tk 11 (.tk 12 .done))))))))))))) mixed (by kernel_rfl) ?_
        refine tk rfl (PE.move rfl) rfl ?_
        refine tk rfl (PE.move rfl) rfl ?_
        refine sy_case (t := 33) rfl (fun g33 => ?_) (fun g33 => ?_)
        ·
          have hfull : decide (sh.take (i + 1) = ws.take (i + 1)) = decide (x = y) := by rw [take_eq hx hy, g33]; rfl
          refine tkG rfl rfl rfl rfl (PE.move rfl) rfl ?_
          refine tkG rfl rfl rfl rfl (PE.move rfl) rfl ?_
          refine tkG rfl rfl rfl rfl (PE.indexAddr el42 rfl rfl (by omega) (by omega)) rfl ?_
          refine ldG rfl rfl rfl rfl rfl (lf0 (x := .int .i64 x) sc3 (by simp [irows, hx]; rfl) rfl) rfl ?_
          refine tkG rfl rfl rfl rfl (PE.move rfl) rfl ?_
          refine tkG rfl rfl rfl rfl (PE.move rfl) rfl ?_
          refine tkG rfl rfl rfl rfl (PE.indexAddr el42 rfl rfl (by omega) (by omega)) rfl ?_
          refine ldG rfl rfl rfl rfl rfl (lf0 (x := .int .i64 y) sc3 (by simp [irows, hy]; rfl) rfl) rfl ?_
          refine tkG rfl rfl rfl rfl (PE.eql rfl rfl) rfl ?_
          refine tk rfl (PE.pick rfl rfl rfl) rfl ?_
          refine tk rfl (PE.assign rfl) rfl ?_
          refine sy_dn ?_
          refine sy_nx ?_
          refine sy_seq ?_
          refine sy_tx' [0] rfl ?_
          refine sy_sq ?_
          refine sp rfl (PE.assign rfl) rfl ?_
          refine sy_sn ?_
          refine sy_nx ?_
          refine sy_block ?_
          have hsum := sum_take hx
          rw [← hsum]
          refine sy_loop (ι := {k : Nat // k ≤ ws.length ∧ ∀ j, j < k → x < y ∧ (!(decide (sh.getD i 0 + 1 < sh.getD j 0) || (decide (sh.getD j 0 = sh.getD i 0 + 1) && decide (i < j)))) = true}) (fun k => ⟨[(0, .int .i64 s), (1, .slice (some ⟨bw, ow, none⟩) ws.length c), (2, .slice (some ⟨bs, os, none⟩) sh.length c2), (7, .int .i64 (sh.take (i + 1)).sum), (8, .bool (decide (sh.take (i + 1) = ws.take (i + 1)))), (9, .int .i64 i), (10, .int .i64 k.1)], H, R⟩) (fun k => ws.length - k.1) ⟨0, by omega, by omega⟩ ?_ (fun k => ?_)
          ·
            exact sy_at (by rw [hfull]; exact (by repeat' first | exact Sub.nil | apply Sub.cons | rfl | (simp [lk]; omega))) (fun _ h => h)
          ·
            obtain ⟨k, hk, hgo⟩ := k
            dsimp only at hk hgo ⊢
            refine sy_seq ?_
            refine sy_seq ?_
            refine sy_draw [0, 0, 2, 7, 15, 31, 31, 127, 255, 31, 31, 1567, 3615, 8191, 16383] (.tk 0 (.tk 1 (.tk 2 (.tk 3 (.tk 4 (.tk 5 (.tk 6 (.tk 7 (.ld 8 (.tk 9 (.tk 10 (.tk 11 (.ld 12 (.tk 13 (.tk 14 .done))))))))))))))) mixed (by kernel_rfl) ?_
            refine tk rfl (PE.move rfl) rfl ?_
            refine tk rfl (PE.move rfl) rfl ?_
            refine tk rfl (PE.lenSl isl42 rfl) rfl ?_
            refine tk rfl (PE.lss rfl rfl) rfl ?_
            refine tk rfl (PE.move rfl) rfl ?_
            refine sy_case (t := 48) rfl (fun g48 => ?_) (fun g48 => ?_)
            ·
              simp only [decide_eq_true_eq, decide_eq_false_iff_not, Bool.and_eq_true, Bool.or_eq_true, Bool.not_eq_true', Int.not_le, Int.not_lt] at g48
              obtain ⟨z, hz⟩ : ∃ z, sh[k]? = some z := ⟨_, List.getElem?_eq_getElem (by omega)⟩
              have hzb := hsh z (List.mem_of_getElem? hz)
              refine tkG rfl rfl rfl rfl (PE.move rfl) rfl ?_
              refine tkG rfl rfl rfl rfl (PE.move rfl) rfl ?_
              refine tkG rfl rfl rfl rfl (PE.indexAddr el42 rfl rfl (by omega) (by omega)) rfl ?_
              refine ldG rfl rfl rfl rfl rfl (lf0 (x := .int .i64 x) sc3 (by simp [irows, hx]; rfl) rfl) rfl ?_
              refine tkG rfl rfl rfl rfl (PE.move rfl) rfl ?_
              refine tkG rfl rfl rfl rfl (PE.move rfl) rfl ?_
              refine tkG rfl rfl rfl rfl (PE.indexAddr el42 rfl rfl (by omega) (by omega)) rfl ?_
              refine ldG rfl rfl rfl rfl rfl (lf0 (x := .int .i64 y) sc3 (by simp [irows, hy]; rfl) rfl) rfl ?_
              refine tkG rfl rfl rfl rfl (PE.lss rfl rfl) rfl ?_
              refine tk rfl (PE.pick rfl rfl rfl) rfl ?_
              refine sy_dn ?_
              refine sy_nx ?_
              refine sy_cond rfl (fun hc2 => ?_) (fun hc2 => ?_)
              ·
                simp only [decide_eq_true_eq, decide_eq_false_iff_not, Bool.and_eq_true, Bool.or_eq_true, Bool.not_eq_true', Int.not_le, Int.not_lt] at hc2
                refine sy_skip ?_
                refine sy_nx ?_
                refine sy_seq ?_
                refine sy_block ?_
                refine sy_seq ?_
                refine sy_draw [0, 0, 3, 7, 0, 0, 48, 112, 240, 511, 1023, 2047, 2047, 8191, 16383, 2047, 2047, 100351, 231423, 493567, 1048575, 2097151, 4194303, 4194303, 16777215, 33554431, 67108863] (.tk 0 (.tk 1 (.tk 2 (.ld 3 (.tk 4 (.tk 5 (.tk 6 (.ld 7 (.tk 8 (.tk 9 (.tk 10 (.tk 11 (.tk 12 (.tk 13 (.ld 14 (.tk 15 (.tk 16 (.tk 17 (.ld 18 (.tk 19 (.tk 20 (.tk 21 (.tk 22 (.tk 23 (.tk 24 (.tk 25 (.tk 26 .done))))))))))))))))))))))))))) mixed (by kernel_rfl) ?_
                refine tk rfl (PE.move rfl) rfl ?_
                refine tk rfl (PE.move rfl) rfl ?_
                refine tk rfl (PE.indexAddr el42 rfl rfl (by omega) (by omega)) rfl ?_
                refine ld rfl rfl (lf0 (x := .int .i64 z) sc3 (by simp [irows, hz]; rfl) rfl) rfl ?_
                refine tk rfl (PE.move rfl) rfl ?_
                refine tk rfl (PE.move rfl) rfl ?_
                refine tk rfl (PE.indexAddr el42 rfl rfl (by omega) (by omega)) rfl ?_
                refine ld rfl rfl (lf0 (x := .int .i64 x) sc3 (by simp [irows, hx]; rfl) rfl) rfl ?_
                refine tk rfl (PE.add rfl rfl (by omega)) rfl ?_
                refine tk rfl (PE.gtr rfl rfl) rfl ?_
                refine tk rfl (PE.move rfl) rfl ?_
                refine sy_case (t := 71) rfl (fun g71 => ?_) (fun g71 => ?_)
                ·
                  simp only [decide_eq_true_eq, decide_eq_false_iff_not, Bool.and_eq_true, Bool.or_eq_true, Bool.not_eq_true', Int.not_le, Int.not_lt] at g71
                  have hbad : okAt ws sh i = false := by
                    have h9 : ((List.range ws.length).all fun k => !(decide (sh.getD i 0 + 1 < sh.getD k 0) || (decide (sh.getD k 0 = sh.getD i 0 + 1) && decide (i < k)))) = false := by
                      rw [List.all_eq_false]; exact ⟨k, List.mem_range.2 (by omega), by rw [getD_of hx, getD_of hz]; simp; omega⟩
                    unfold okAt; rw [h9, getD_of hx, getD_of hy]; simp; omega
                  have hres := not_fair (s := s) (by omega : i < ws.length) hbad
                  refine tkN rfl rfl rfl rfl rfl rfl rfl rfl ?_
                  refine tkN rfl rfl rfl rfl rfl rfl rfl rfl ?_
                  refine tkN rfl rfl rfl rfl rfl rfl rfl rfl ?_
                  refine ldN rfl rfl rfl rfl rfl rfl rfl rfl ?_
                  refine tkN rfl rfl rfl rfl rfl rfl rfl rfl ?_
                  refine tkN rfl rfl rfl rfl rfl rfl rfl rfl ?_
                  refine tkN rfl rfl rfl rfl rfl rfl rfl rfl ?_
                  refine ldN rfl rfl rfl rfl rfl rfl rfl rfl ?_
                  refine tkN rfl rfl rfl rfl rfl rfl rfl rfl ?_
                  refine tkN rfl rfl rfl rfl rfl rfl rfl rfl ?_
                  refine tkN rfl rfl rfl rfl rfl rfl rfl rfl ?_
                  refine tkU rfl rfl rfl rfl rfl rfl rfl ?_
                  refine tkU rfl rfl rfl rfl rfl rfl rfl ?_
                  refine tkU rfl rfl rfl rfl rfl rfl rfl ?_
                  refine tkN rfl rfl rfl rfl rfl rfl rfl rfl ?_
                  refine tk rfl (PE.pick rfl rfl rfl) rfl ?_
                  refine sy_dn ?_
                  refine sy_nx ?_
                  refine sy_condT rfl ?_
                  refine sy_seq ?_
                  refine sy_tx' [0] rfl ?_
                  refine sy_sq ?_
                  refine sp rfl (PE.assign rfl) rfl ?_
                  refine sy_sn ?_
                  refine sy_nx ?_
                  refine sy_ret ?_
                  refine sy_br ?_
                  refine sy_tr ?_
                  refine sy_tr ?_
                  refine sy_br ?_
                  refine sy_br ?_
                  refine sy_tr ?_
                  refine sy_tr ?_
                  refine sy_br ?_
                  refine sy_tr ?_
                  exact sy_return (vs := [_]) rfl (.cons (RV.tmp rfl) .nil) rfl ⟨congrArg Value.bool hres.symm, rfl, rfl⟩ (fun _ h => by repeat first | exact h | replace h := St.tail h | replace h := St.ftail h | replace h := St.drop h)
                ·
                  simp only [decide_eq_true_eq, decide_eq_false_iff_not, Bool.and_eq_true, Bool.or_eq_true, Bool.not_eq_true', Int.not_le, Int.not_lt] at g71
                  refine tkG rfl rfl rfl rfl (PE.move rfl) rfl ?_
                  refine tkG rfl rfl rfl rfl (PE.move rfl) rfl ?_
                  refine tkG rfl rfl rfl rfl (PE.indexAddr el42 rfl rfl (by omega) (by omega)) rfl ?_
                  refine ldG rfl rfl rfl rfl rfl (lf0 (x := .int .i64 z) sc3 (by simp [irows, hz]; rfl) rfl) rfl ?_
                  refine tkG rfl rfl rfl rfl (PE.move rfl) rfl ?_
                  refine tkG rfl rfl rfl rfl (PE.move rfl) rfl ?_
                  refine tkG rfl rfl rfl rfl (PE.indexAddr el42 rfl rfl (by omega) (by omega)) rfl ?_
                  refine ldG rfl rfl rfl rfl rfl (lf0 (x := .int .i64 x) sc3 (by simp [irows, hx]; rfl) rfl) rfl ?_
                  refine tkG rfl rfl rfl rfl (PE.add rfl rfl (by omega)) rfl ?_
                  refine tkG rfl rfl rfl rfl (PE.eql rfl rfl) rfl ?_
                  refine tkG rfl rfl rfl rfl (PE.move rfl) rfl ?_
                  refine sy_case (t := 82) rfl (fun g82 => ?_) (fun g82 => ?_)
                  ·
                    simp only [decide_eq_true_eq, decide_eq_false_iff_not, Bool.and_eq_true, Bool.or_eq_true, Bool.not_eq_true', Int.not_le, Int.not_lt] at g82
                    refine tkG rfl rfl rfl rfl (PE.move rfl) rfl ?_
                    refine tkG rfl rfl rfl rfl (PE.move rfl) rfl ?_
                    refine tkG rfl rfl rfl rfl (PE.gtr rfl rfl) rfl ?_
                    refine tkG rfl rfl rfl rfl (PE.pick rfl rfl rfl) rfl ?_
                    refine tk rfl (PE.pick rfl rfl rfl) rfl ?_
                    refine sy_dn ?_
                    refine sy_nx ?_
                    refine sy_cond rfl (fun hc3 => ?_) (fun hc3 => ?_)
                    ·
                      simp only [decide_eq_true_eq, decide_eq_false_iff_not, Bool.and_eq_true, Bool.or_eq_true, Bool.not_eq_true', Int.not_le, Int.not_lt] at hc3
                      have hbad : okAt ws sh i = false := by
                        have h9 : ((List.range ws.length).all fun k => !(decide (sh.getD i 0 + 1 < sh.getD k 0) || (decide (sh.getD k 0 = sh.getD i 0 + 1) && decide (i < k)))) = false := by
                          rw [List.all_eq_false]; exact ⟨k, List.mem_range.2 (by omega), by rw [getD_of hx, getD_of hz]; simp; omega⟩
                        unfold okAt; rw [h9, getD_of hx, getD_of hy]; simp; omega
                      have hres := not_fair (s := s) (by omega : i < ws.length) hbad
                      refine sy_seq ?_
                      refine sy_tx' [0] rfl ?_
                      refine sy_sq ?_
                      refine sp rfl (PE.assign rfl) rfl ?_
                      refine sy_sn ?_
                      refine sy_nx ?_
                      refine sy_ret ?_
                      refine sy_br ?_
                      refine sy_tr ?_
                      refine sy_tr ?_
                      refine sy_br ?_
                      refine sy_br ?_
                      refine sy_tr ?_
                      refine sy_tr ?_
                      refine sy_br ?_
                      refine sy_tr ?_
                      exact sy_return (vs := [_]) rfl (.cons (RV.tmp rfl) .nil) rfl ⟨congrArg Value.bool hres.symm, rfl, rfl⟩ (fun _ h => by repeat first | exact h | replace h := St.tail h | replace h := St.ftail h | replace h := St.drop h)
                    ·
                      simp only [decide_eq_true_eq, decide_eq_false_iff_not, Bool.and_eq_true, Bool.or_eq_true, Bool.not_eq_true', Int.not_le, Int.not_lt] at hc3
                      have hgood : (!(decide (sh.getD i 0 + 1 < sh.getD k 0) || (decide (sh.getD k 0 = sh.getD i 0 + 1) && decide (i < k)))) = true := by rw [getD_of hx, getD_of hz]; simp; omega
                      refine sy_skip ?_
                      refine sy_bn ?_
                      refine sy_nx ?_
                      refine sy_tx' [0, 1, 2] rfl ?_
                      refine sy_sq ?_
                      refine sp rfl (PE.move rfl) rfl ?_
                      refine sy_sq ?_
                      refine sp rfl (PE.add rfl rfl (by omega)) rfl ?_
                      refine sy_sq ?_
                      refine sp rfl (PE.assign rfl) rfl ?_
                      refine sy_sn ?_
                      refine sy_nx ?_
                      exact sy_next ⟨k + 1, by omega, fun j hj => by
                        rcases Nat.lt_or_ge j k with h1 | h1
                        · exact hgo j h1
                        · obtain rfl : j = k := by omega
                          exact ⟨hc2, hgood⟩⟩ (by dsimp only; omega) (by repeat' first | exact Sub.nil | apply Sub.cons | rfl | (simp [lk]; omega)) (fun _ h => h)
                  ·
                    simp only [decide_eq_true_eq, decide_eq_false_iff_not, Bool.and_eq_true, Bool.or_eq_true, Bool.not_eq_true', Int.not_le, Int.not_lt] at g82
                    have hgood : (!(decide (sh.getD i 0 + 1 < sh.getD k 0) || (decide (sh.getD k 0 = sh.getD i 0 + 1) && decide (i < k)))) = true := by rw [getD_of hx, getD_of hz]; simp; omega
                    refine tkN rfl rfl rfl rfl rfl rfl rfl rfl ?_
                    refine tkN rfl rfl rfl rfl rfl rfl rfl rfl ?_
                    refine tkN rfl rfl rfl rfl rfl rfl rfl rfl ?_
                    refine tkG rfl rfl rfl rfl (PE.pick rfl rfl rfl) rfl ?_
                    refine tk rfl (PE.pick rfl rfl rfl) rfl ?_
                    refine sy_dn ?_
                    refine sy_nx ?_
                    refine sy_condF rfl ?_
                    refine sy_skip ?_
                    refine sy_bn ?_
                    refine sy_nx ?_
                    refine sy_tx' [0, 1, 2] rfl ?_
                    refine sy_sq ?_
                    refine sp rfl (PE.move rfl) rfl ?_
                    refine sy_sq ?_
                    refine sp rfl (PE.add rfl rfl (by omega)) rfl ?_
                    refine sy_sq ?_
                    refine sp rfl (PE.assign rfl) rfl ?_
                    refine sy_sn ?_
                    refine sy_nx ?_
                    exact sy_next ⟨k + 1, by omega, fun j hj => by
                      rcases Nat.lt_or_ge j k with h1 | h1
                      · exact hgo j h1
                      · obtain rfl : j = k := by omega
                        exact ⟨hc2, hgood⟩⟩ (by dsimp only; omega) (by repeat' first | exact Sub.nil | apply Sub.cons | rfl | (simp [lk]; omega)) (fun _ h => h)
              ·
                simp only [decide_eq_true_eq, decide_eq_false_iff_not, Bool.and_eq_true, Bool.or_eq_true, Bool.not_eq_true', Int.not_le, Int.not_lt] at hc2
                have hyes : okAt ws sh i = true := by unfold okAt; rw [getD_of hx, getD_of hy]; simp; omega
                refine sy_exit ?_
                refine sy_tx ?_
                refine sy_tx ?_
                refine sy_bx ?_
                refine sy_bn ?_
                refine sy_nx ?_
                refine sy_tx' [0, 1, 2] rfl ?_
                refine sy_sq ?_
                refine sp rfl (PE.move rfl) rfl ?_
                refine sy_sq ?_
                refine sp rfl (PE.add rfl rfl (by omega)) rfl ?_
                refine sy_sq ?_
                refine sp rfl (PE.assign rfl) rfl ?_
                refine sy_sn ?_
                refine sy_nx ?_
                exact sy_next ⟨i + 1, by omega, fun j hj => by
                  rcases Nat.lt_or_ge j i with h1 | h1
                  · exact hok j h1
                  · obtain rfl : j = i := by omega
                    exact hyes⟩ (by dsimp only; omega) (by repeat' first | exact Sub.nil | apply Sub.cons | rfl | (simp [lk]; omega)) (fun _ h => h)
            ·
              simp only [decide_eq_true_eq, decide_eq_false_iff_not, Bool.and_eq_true, Bool.or_eq_true, Bool.not_eq_true', Int.not_le, Int.not_lt] at g48
              have hyes : okAt ws sh i = true := by
                have h9 : ((List.range ws.length).all fun k => !(decide (sh.getD i 0 + 1 < sh.getD k 0) || (decide (sh.getD k 0 = sh.getD i 0 + 1) && decide (i < k)))) = true := List.all_eq_true.2 fun j hj => (hgo j (by have := List.mem_range.1 hj; omega)).2
                unfold okAt; rw [h9, getD_of hx, getD_of hy]; simp; omega
              refine tkN rfl rfl rfl rfl rfl rfl rfl rfl ?_
              refine tkN rfl rfl rfl rfl rfl rfl rfl rfl ?_
              refine tkN rfl rfl rfl rfl rfl rfl rfl rfl ?_
              refine ldN rfl rfl rfl rfl rfl rfl rfl rfl ?_
              refine tkN rfl rfl rfl rfl rfl rfl rfl rfl ?_
              refine tkN rfl rfl rfl rfl rfl rfl rfl rfl ?_
              refine tkN rfl rfl rfl rfl rfl rfl rfl rfl ?_
              refine ldN rfl rfl rfl rfl rfl rfl rfl rfl ?_
              refine tkN rfl rfl rfl rfl rfl rfl rfl rfl ?_
              refine tk rfl (PE.pick rfl rfl rfl) rfl ?_
              refine sy_dn ?_
              refine sy_nx ?_
              refine sy_condF rfl ?_
              refine sy_exit ?_
              refine sy_tx ?_
              refine sy_tx ?_
              refine sy_bx ?_
              refine sy_bn ?_
              refine sy_nx ?_
              refine sy_tx' [0, 1, 2] rfl ?_
              refine sy_sq ?_
              refine sp rfl (PE.move rfl) rfl ?_
              refine sy_sq ?_
              refine sp rfl (PE.add rfl rfl (by omega)) rfl ?_
              refine sy_sq ?_
              refine sp rfl (PE.assign rfl) rfl ?_
              refine sy_sn ?_
              refine sy_nx ?_
              exact sy_next ⟨i + 1, by omega, fun j hj => by
                rcases Nat.lt_or_ge j i with h1 | h1
                · exact hok j h1
                · obtain rfl : j = i := by omega
                  exact hyes⟩ (by dsimp only; omega) (by repeat' first | exact Sub.nil | apply Sub.cons | rfl | (simp [lk]; omega)) (fun _ h => h)
        ·
          have hfull : decide (sh.take (i + 1) = ws.take (i + 1)) = false := by rw [take_eq hx hy, g33]; rfl
          refine tkN rfl rfl rfl rfl rfl rfl rfl rfl ?_
          refine tkN rfl rfl rfl rfl rfl rfl rfl rfl ?_
          refine tkN rfl rfl rfl rfl rfl rfl rfl rfl ?_
          refine ldN rfl rfl rfl rfl rfl rfl rfl rfl ?_
          refine tkN rfl rfl rfl rfl rfl rfl rfl rfl ?_
          refine tkN rfl rfl rfl rfl rfl rfl rfl rfl ?_
          refine tkN rfl rfl rfl rfl rfl rfl rfl rfl ?_
          refine ldN rfl rfl rfl rfl rfl rfl rfl rfl ?_
          refine tkN rfl rfl rfl rfl rfl rfl rfl rfl ?_
          refine tk rfl (PE.pick rfl rfl rfl) rfl ?_
          refine tk rfl (PE.assign rfl) rfl ?_
          refine sy_dn ?_
          refine sy_nx ?_
          refine sy_seq ?_
          refine sy_tx' [0] rfl ?_
          refine sy_sq ?_
          refine sp rfl (PE.assign rfl) rfl ?_
          refine sy_sn ?_
          refine sy_nx ?_
          refine sy_block ?_
          have hsum := sum_take hx
          rw [← hsum]
          refine sy_loop (ι := {k : Nat // k ≤ ws.length ∧ ∀ j, j < k → x < y ∧ (!(decide (sh.getD i 0 + 1 < sh.getD j 0) || (decide (sh.getD j 0 = sh.getD i 0 + 1) && decide (i < j)))) = true}) (fun k => ⟨[(0, .int .i64 s), (1, .slice (some ⟨bw, ow, none⟩) ws.length c), (2, .slice (some ⟨bs, os, none⟩) sh.length c2), (7, .int .i64 (sh.take (i + 1)).sum), (8, .bool (decide (sh.take (i + 1) = ws.take (i + 1)))), (9, .int .i64 i), (10, .int .i64 k.1)], H, R⟩) (fun k => ws.length - k.1) ⟨0, by omega, by omega⟩ ?_ (fun k => ?_)
          ·
            exact sy_at (by rw [hfull]; exact (by repeat' first | exact Sub.nil | apply Sub.cons | rfl | (simp [lk]; omega))) (fun _ h => h)
          ·
            obtain ⟨k, hk, hgo⟩ := k
            dsimp only at hk hgo ⊢
            refine sy_seq ?_
            refine sy_seq ?_
            refine sy_draw [0, 0, 2, 7, 15, 31, 31, 127, 255, 31, 31, 1567, 3615, 8191, 16383] (.tk 0 (.tk 1 (.tk 2 (.tk 3 (.tk 4 (.tk 5 (.tk 6 (.tk 7 (.ld 8 (.tk 9 (.tk 10 (.tk 11 (.ld 12 (.tk 13 (.tk 14 .done))))))))))))))) mixed (by kernel_rfl) ?_
            refine tk rfl (PE.move rfl) rfl ?_
            refine tk rfl (PE.move rfl) rfl ?_
            refine tk rfl (PE.lenSl isl42 rfl) rfl ?_
            refine tk rfl (PE.lss rfl rfl) rfl ?_
            refine tk rfl (PE.move rfl) rfl ?_
            refine sy_case (t := 48) rfl (fun g48 => ?_) (fun g48 => ?_)
            ·
              simp only [decide_eq_true_eq, decide_eq_false_iff_not, Bool.and_eq_true, Bool.or_eq_true, Bool.not_eq_true', Int.not_le, Int.not_lt] at g48
              obtain ⟨z, hz⟩ : ∃ z, sh[k]? = some z := ⟨_, List.getElem?_eq_getElem (by omega)⟩
              have hzb := hsh z (List.mem_of_getElem? hz)
              refine tkG rfl rfl rfl rfl (PE.move rfl) rfl ?_
              refine tkG rfl rfl rfl rfl (PE.move rfl) rfl ?_
              refine tkG rfl rfl rfl rfl (PE.indexAddr el42 rfl rfl (by omega) (by omega)) rfl ?_
              refine ldG rfl rfl rfl rfl rfl (lf0 (x := .int .i64 x) sc3 (by simp [irows, hx]; rfl) rfl) rfl ?_
              refine tkG rfl rfl rfl rfl (PE.move rfl) rfl ?_
              refine tkG rfl rfl rfl rfl (PE.move rfl) rfl ?_
              refine tkG rfl rfl rfl rfl (PE.indexAddr el42 rfl rfl (by omega) (by omega)) rfl ?_
              refine ldG rfl rfl rfl rfl rfl (lf0 (x := .int .i64 y) sc3 (by simp [irows, hy]; rfl) rfl) rfl ?_
              refine tkG rfl rfl rfl rfl (PE.lss rfl rfl) rfl ?_
              refine tk rfl (PE.pick rfl rfl rfl) rfl ?_
              refine sy_dn ?_
              refine sy_nx ?_
              refine sy_cond rfl (fun hc2 => ?_) (fun hc2 => ?_)
              ·
                simp only [decide_eq_true_eq, decide_eq_false_iff_not, Bool.and_eq_true, Bool.or_eq_true, Bool.not_eq_true', Int.not_le, Int.not_lt] at hc2
                refine sy_skip ?_
                refine sy_nx ?_
                refine sy_seq ?_
                refine sy_block ?_
                refine sy_seq ?_
                refine sy_draw [0, 0, 3, 7, 0, 0, 48, 112, 240, 511, 1023, 2047, 2047, 8191, 16383, 2047, 2047, 100351, 231423, 493567, 1048575, 2097151, 4194303, 4194303, 16777215, 33554431, 67108863] (.tk 0 (.tk 1 (.tk 2 (.ld 3 (.tk 4 (.tk 5 (.tk 6 (.ld 7 (.tk 8 (.tk 9 (.tk 10 (.tk 11 (.tk 12 (.tk 13 (.ld 14 (.tk 15 (.tk 16 (.tk 17 (.ld 18 (.tk 19 (.tk 20 (.tk 21 (.tk 22 (.tk 23 (.tk 24 (.tk 25 (.tk 26 .done))))))))))))))))))))))))))) mixed (by kernel_rfl) ?_
                refine tk rfl (PE.move rfl) rfl ?_
                refine tk rfl (PE.move rfl) rfl ?_
                refine tk rfl (PE.indexAddr el42 rfl rfl (by omega) (by omega)) rfl ?_
                refine ld rfl rfl (lf0 (x := .int .i64 z) sc3 (by simp [irows, hz]; rfl) rfl) rfl ?_
                refine tk rfl (PE.move rfl) rfl ?_
                refine tk rfl (PE.move rfl) rfl ?_
                refine tk rfl (PE.indexAddr el42 rfl rfl (by omega) (by omega)) rfl ?_
                refine ld rfl rfl (lf0 (x := .int .i64 x) sc3 (by simp [irows, hx]; rfl) rfl) rfl ?_
                refine tk rfl (PE.add rfl rfl (by omega)) rfl ?_
                refine tk rfl (PE.gtr rfl rfl) rfl ?_
                refine tk rfl (PE.move rfl) rfl ?_
                refine sy_case (t := 71) rfl (fun g71 => ?_) (fun g71 => ?_)
                ·
                  simp only [decide_eq_true_eq, decide_eq_false_iff_not, Bool.and_eq_true, Bool.or_eq_true, Bool.not_eq_true', Int.not_le, Int.not_lt] at g71
                  have hbad : okAt ws sh i = false := by
                    have h9 : ((List.range ws.length).all fun k => !(decide (sh.getD i 0 + 1 < sh.getD k 0) || (decide (sh.getD k 0 = sh.getD i 0 + 1) && decide (i < k)))) = false := by
                      rw [List.all_eq_false]; exact ⟨k, List.mem_range.2 (by omega), by rw [getD_of hx, getD_of hz]; simp; omega⟩
                    unfold okAt; rw [h9, getD_of hx, getD_of hy]; simp; omega
                  have hres := not_fair (s := s) (by omega : i < ws.length) hbad
                  refine tkN rfl rfl rfl rfl rfl rfl rfl rfl ?_
                  refine tkN rfl rfl rfl rfl rfl rfl rfl rfl ?_
                  refine tkN rfl rfl rfl rfl rfl rfl rfl rfl ?_
                  refine ldN rfl rfl rfl rfl rfl rfl rfl rfl ?_
                  refine tkN rfl rfl rfl rfl rfl rfl rfl rfl ?_
                  refine tkN rfl rfl rfl rfl rfl rfl rfl rfl ?_
                  refine tkN rfl rfl rfl rfl rfl rfl rfl rfl ?_
                  refine ldN rfl rfl rfl rfl rfl rfl rfl rfl ?_
                  refine tkN rfl rfl rfl rfl rfl rfl rfl rfl ?_
                  refine tkN rfl rfl rfl rfl rfl rfl rfl rfl ?_
                  refine tkN rfl rfl rfl rfl rfl rfl rfl rfl ?_
                  refine tkU rfl rfl rfl rfl rfl rfl rfl ?_
                  refine tkU rfl rfl rfl rfl rfl rfl rfl ?_
                  refine tkU rfl rfl rfl rfl rfl rfl rfl ?_
                  refine tkN rfl rfl rfl rfl rfl rfl rfl rfl ?_
                  refine tk rfl (PE.pick rfl rfl rfl) rfl ?_
                  refine sy_dn ?_
                  refine sy_nx ?_
                  refine sy_condT rfl ?_
                  refine sy_seq ?_
                  refine sy_tx' [0] rfl ?_
                  refine sy_sq ?_
                  refine sp rfl (PE.assign rfl) rfl ?_
                  refine sy_sn ?_
                  refine sy_nx ?_
                  refine sy_ret ?_
                  refine sy_br ?_
                  refine sy_tr ?_
                  refine sy_tr ?_
                  refine sy_br ?_
                  refine sy_br ?_
                  refine sy_tr ?_
                  refine sy_tr ?_
                  refine sy_br ?_
                  refine sy_tr ?_
                  exact sy_return (vs := [_]) rfl (.cons (RV.tmp rfl) .nil) rfl ⟨congrArg Value.bool hres.symm, rfl, rfl⟩ (fun _ h => by repeat first | exact h | replace h := St.tail h | replace h := St.ftail h | replace h := St.drop h)
                ·
                  simp only [decide_eq_true_eq, decide_eq_false_iff_not, Bool.and_eq_true, Bool.or_eq_true, Bool.not_eq_true', Int.not_le, Int.not_lt] at g71
                  refine tkG rfl rfl rfl rfl (PE.move rfl) rfl ?_
                  refine tkG rfl rfl rfl rfl (PE.move rfl) rfl ?_
                  refine tkG rfl rfl rfl rfl (PE.indexAddr el42 rfl rfl (by omega) (by omega)) rfl ?_
                  refine ldG rfl rfl rfl rfl rfl (lf0 (x := .int .i64 z) sc3 (by simp [irows, hz]; rfl) rfl) rfl ?_
                  refine tkG rfl rfl rfl rfl (PE.move rfl) rfl ?_
                  refine tkG rfl rfl rfl rfl (PE.move rfl) rfl ?_
                  refine tkG rfl rfl rfl rfl (PE.indexAddr el42 rfl rfl (by omega) (by omega)) rfl ?_
                  refine ldG rfl rfl rfl rfl rfl (lf0 (x := .int .i64 x) sc3 (by simp [irows, hx]; rfl) rfl) rfl ?_
                  refine tkG rfl rfl rfl rfl (PE.add rfl rfl (by omega)) rfl ?_
                  refine tkG rfl rfl rfl rfl (PE.eql rfl rfl) rfl ?_
                  refine tkG rfl rfl rfl rfl (PE.move rfl) rfl ?_
                  refine sy_case (t := 82) rfl (fun g82 => ?_) (fun g82 => ?_)
                  ·
                    simp only [decide_eq_true_eq, decide_eq_false_iff_not, Bool.and_eq_true, Bool.or_eq_true, Bool.not_eq_true', Int.not_le, Int.not_lt] at g82
                    refine tkG rfl rfl rfl rfl (PE.move rfl) rfl ?_
                    refine tkG rfl rfl rfl rfl (PE.move rfl) rfl ?_
                    refine tkG rfl rfl rfl rfl (PE.gtr rfl rfl) rfl ?_
                    refine tkG rfl rfl rfl rfl (PE.pick rfl rfl rfl) rfl ?_
                    refine tk rfl (PE.pick rfl rfl rfl) rfl ?_
                    refine sy_dn ?_
                    refine sy_nx ?_
                    refine sy_cond rfl (fun hc3 => ?_) (fun hc3 => ?_)
                    ·
                      simp only [decide_eq_true_eq, decide_eq_false_iff_not, Bool.and_eq_true, Bool.or_eq_true, Bool.not_eq_true', Int.not_le, Int.not_lt] at hc3
                      have hbad : okAt ws sh i = false := by
                        have h9 : ((List.range ws.length).all fun k => !(decide (sh.getD i 0 + 1 < sh.getD k 0) || (decide (sh.getD k 0 = sh.getD i 0 + 1) && decide (i < k)))) = false := by
                          rw [List.all_eq_false]; exact ⟨k, List.mem_range.2 (by omega), by rw [getD_of hx, getD_of hz]; simp; omega⟩
                        unfold okAt; rw [h9, getD_of hx, getD_of hy]; simp; omega
                      have hres := not_fair (s := s) (by omega : i < ws.length) hbad
                      refine sy_seq ?_
                      refine sy_tx' [0] rfl ?_
                      refine sy_sq ?_
                      refine sp rfl (PE.assign rfl) rfl ?_
                      refine sy_sn ?_
                      refine sy_nx ?_
                      refine sy_ret ?_
                      refine sy_br ?_
                      refine sy_tr ?_
                      refine sy_tr ?_
                      refine sy_br ?_
                      refine sy_br ?_
                      refine sy_tr ?_
                      refine sy_tr ?_
                      refine sy_br ?_
                      refine sy_tr ?_
                      exact sy_return (vs := [_]) rfl (.cons (RV.tmp rfl) .nil) rfl ⟨congrArg Value.bool hres.symm, rfl, rfl⟩ (fun _ h => by repeat first | exact h | replace h := St.tail h | replace h := St.ftail h | replace h := St.drop h)
                    ·
                      simp only [decide_eq_true_eq, decide_eq_false_iff_not, Bool.and_eq_true, Bool.or_eq_true, Bool.not_eq_true', Int.not_le, Int.not_lt] at hc3
                      have hgood : (!(decide (sh.getD i 0 + 1 < sh.getD k 0) || (decide (sh.getD k 0 = sh.getD i 0 + 1) && decide (i < k)))) = true := by rw [getD_of hx, getD_of hz]; simp; omega
                      refine sy_skip ?_
                      refine sy_bn ?_
                      refine sy_nx ?_
                      refine sy_tx' [0, 1, 2] rfl ?_
                      refine sy_sq ?_
                      refine sp rfl (PE.move rfl) rfl ?_
                      refine sy_sq ?_
                      refine sp rfl (PE.add rfl rfl (by omega)) rfl ?_
                      refine sy_sq ?_
                      refine sp rfl (PE.assign rfl) rfl ?_
                      refine sy_sn ?_
                      refine sy_nx ?_
                      exact sy_next ⟨k + 1, by omega, fun j hj => by
                        rcases Nat.lt_or_ge j k with h1 | h1
                        · exact hgo j h1
                        · obtain rfl : j = k := by omega
                          exact ⟨hc2, hgood⟩⟩ (by dsimp only; omega) (by repeat' first | exact Sub.nil | apply Sub.cons | rfl | (simp [lk]; omega)) (fun _ h => h)
                  ·
                    simp only [decide_eq_true_eq, decide_eq_false_iff_not, Bool.and_eq_true, Bool.or_eq_true, Bool.not_eq_true', Int.not_le, Int.not_lt] at g82
                    have hgood : (!(decide (sh.getD i 0 + 1 < sh.getD k 0) || (decide (sh.getD k 0 = sh.getD i 0 + 1) && decide (i < k)))) = true := by rw [getD_of hx, getD_of hz]; simp; omega
                    refine tkN rfl rfl rfl rfl rfl rfl rfl rfl ?_
                    refine tkN rfl rfl rfl rfl rfl rfl rfl rfl ?_
                    refine tkN rfl rfl rfl rfl rfl rfl rfl rfl ?_
                    refine tkG rfl rfl rfl rfl (PE.pick rfl rfl rfl) rfl ?_
                    refine tk rfl (PE.pick rfl rfl rfl) rfl ?_
                    refine sy_dn ?_
                    refine sy_nx ?_
                    refine sy_condF rfl ?_
                    refine sy_skip ?_
                    refine sy_bn ?_
                    refine sy_nx ?_
                    refine sy_tx' [0, 1, 2] rfl ?_
                    refine sy_sq ?_
                    refine sp rfl (PE.move rfl) rfl ?_
                    refine sy_sq ?_
                    refine sp rfl (PE.add rfl rfl (by omega)) rfl ?_
                    refine sy_sq ?_
                    refine sp rfl (PE.assign rfl) rfl ?_
                    refine sy_sn ?_
                    refine sy_nx ?_
                    exact sy_next ⟨k + 1, by omega, fun j hj => by
                      rcases Nat.lt_or_ge j k with h1 | h1
                      · exact hgo j h1
                      · obtain rfl : j = k := by omega
                        exact ⟨hc2, hgood⟩⟩ (by dsimp only; omega) (by repeat' first | exact Sub.nil | apply Sub.cons | rfl | (simp [lk]; omega)) (fun _ h => h)
              ·
                simp only [decide_eq_true_eq, decide_eq_false_iff_not, Bool.and_eq_true, Bool.or_eq_true, Bool.not_eq_true', Int.not_le, Int.not_lt] at hc2
                have hyes : okAt ws sh i = true := by unfold okAt; rw [getD_of hx, getD_of hy]; simp; omega
                refine sy_exit ?_
                refine sy_tx ?_
                refine sy_tx ?_
                refine sy_bx ?_
                refine sy_bn ?_
                refine sy_nx ?_
                refine sy_tx' [0, 1, 2] rfl ?_
                refine sy_sq ?_
                refine sp rfl (PE.move rfl) rfl ?_
                refine sy_sq ?_
                refine sp rfl (PE.add rfl rfl (by omega)) rfl ?_
                refine sy_sq ?_
                refine sp rfl (PE.assign rfl) rfl ?_
                refine sy_sn ?_
                refine sy_nx ?_
                exact sy_next ⟨i + 1, by omega, fun j hj => by
                  rcases Nat.lt_or_ge j i with h1 | h1
                  · exact hok j h1
                  · obtain rfl : j = i := by omega
                    exact hyes⟩ (by dsimp only; omega) (by repeat' first | exact Sub.nil | apply Sub.cons | rfl | (simp [lk]; omega)) (fun _ h => h)
            ·
              simp only [decide_eq_true_eq, decide_eq_false_iff_not, Bool.and_eq_true, Bool.or_eq_true, Bool.not_eq_true', Int.not_le, Int.not_lt] at g48
              have hyes : okAt ws sh i = true := by
                have h9 : ((List.range ws.length).all fun k => !(decide (sh.getD i 0 + 1 < sh.getD k 0) || (decide (sh.getD k 0 = sh.getD i 0 + 1) && decide (i < k)))) = true := List.all_eq_true.2 fun j hj => (hgo j (by have := List.mem_range.1 hj; omega)).2
                unfold okAt; rw [h9, getD_of hx, getD_of hy]; simp; omega
              refine tkN rfl rfl rfl rfl rfl rfl rfl rfl ?_
              refine tkN rfl rfl rfl rfl rfl rfl rfl rfl ?_
              refine tkN rfl rfl rfl rfl rfl rfl rfl rfl ?_
              refine ldN rfl rfl rfl rfl rfl rfl rfl rfl ?_
              refine tkN rfl rfl rfl rfl rfl rfl rfl rfl ?_
              refine tkN rfl rfl rfl rfl rfl rfl rfl rfl ?_
              refine tkN rfl rfl rfl rfl rfl rfl rfl rfl ?_
              refine ldN rfl rfl rfl rfl rfl rfl rfl rfl ?_
              refine tkN rfl rfl rfl rfl rfl rfl rfl rfl ?_
              refine tk rfl (PE.pick rfl rfl rfl) rfl ?_
              refine sy_dn ?_
              refine sy_nx ?_
              refine sy_condF rfl ?_
              refine sy_exit ?_
              refine sy_tx ?_
              refine sy_tx ?_
              refine sy_bx ?_
              refine sy_bn ?_
              refine sy_nx ?_
              refine sy_tx' [0, 1, 2] rfl ?_
              refine sy_sq ?_
              refine sp rfl (PE.move rfl) rfl ?_
              refine sy_sq ?_
              refine sp rfl (PE.add rfl rfl (by omega)) rfl ?_
              refine sy_sq ?_
              refine sp rfl (PE.assign rfl) rfl ?_
              refine sy_sn ?_
              refine sy_nx ?_
              exact sy_next ⟨i + 1, by omega, fun j hj => by
                rcases Nat.lt_or_ge j i with h1 | h1
                · exact hok j h1
                · obtain rfl : j = i := by omega
                  exact hyes⟩ (by dsimp only; omega) (by repeat' first | exact Sub.nil | apply Sub.cons | rfl | (simp [lk]; omega)) (fun _ h => h)
    ·
      simp only [decide_eq_true_eq, decide_eq_false_iff_not, Bool.and_eq_true, Bool.or_eq_true, Bool.not_eq_true', Int.not_le, Int.not_lt] at hc0
      obtain rfl : i = ws.length := by omega
      have hall : (List.range ws.length).all (okAt ws sh) = true := List.all_eq_true.2 fun i h => hok i (List.mem_range.1 h)
      rw [show sh.take ws.length = sh from by rw [← hlen]; exact List.take_length, List.take_length]
      have hfe : refFair s ws sh = (decide (sh.sum = s) || (decide (sh = ws) && decide (sh.sum ≤ s))) := by unfold refFair; rw [hall]; rfl
      refine sy_exit ?_
      refine sy_tx ?_
      refine sy_tx ?_
      refine sy_bx ?_
      refine sy_nx ?_
      refine sy_seq ?_
      refine sy_tx' [0, 1, 2, 3, 4, 5, 6, 7, 8, 9, 10, 11] rfl ?_
      refine sy_sq ?_
      refine sp rfl (PE.move rfl) rfl ?_
      refine sy_sq ?_
      refine sp rfl (PE.move rfl) rfl ?_
      refine sy_sq ?_
      refine sp rfl (PE.eql rfl rfl) rfl ?_
      refine sy_sq ?_
      refine sp rfl (PE.move rfl) rfl ?_
      refine sy_sq ?_
      refine sy_case (t := 91) rfl (fun g91 => ?_) (fun g91 => ?_)
      ·
        have hres : refFair s ws sh = true := by rw [hfe, g91]; rfl
        refine spN rfl rfl rfl rfl rfl rfl rfl rfl ?_
        refine sy_sq ?_
        refine spN rfl rfl rfl rfl rfl rfl rfl rfl ?_
        refine sy_sq ?_
        refine spU rfl rfl rfl rfl rfl rfl rfl ?_
        refine sy_sq ?_
        refine spU rfl rfl rfl rfl rfl rfl rfl ?_
        refine sy_sq ?_
        refine spU rfl rfl rfl rfl rfl rfl rfl ?_
        refine sy_sq ?_
        refine spN rfl rfl rfl rfl rfl rfl rfl rfl ?_
        refine sy_sq ?_
        refine sp rfl (PE.pick rfl rfl rfl) rfl ?_
        refine sy_sq ?_
        refine sp rfl (PE.assign rfl) rfl ?_
        refine sy_sn ?_
        refine sy_nx ?_
        refine sy_ret ?_
        exact sy_return (vs := [_]) rfl (.cons (RV.tmp rfl) .nil) rfl ⟨congrArg Value.bool hres.symm, rfl, rfl⟩ (fun _ h => by repeat first | exact h | replace h := St.tail h | replace h := St.ftail h | replace h := St.drop h)
      ·
        refine spG rfl rfl rfl rfl (PE.move rfl) rfl ?_
        refine sy_sq ?_
        refine spG rfl rfl rfl rfl (PE.move rfl) rfl ?_
        refine sy_sq ?_
        refine sy_case (t := 93) rfl (fun g93 => ?_) (fun g93 => ?_)
        ·
          have hres : refFair s ws sh = decide (sh.sum ≤ s) := by rw [hfe, g91, g93]; rfl
          refine spG rfl rfl rfl rfl (PE.move rfl) rfl ?_
          refine sy_sq ?_
          refine spG rfl rfl rfl rfl (PE.move rfl) rfl ?_
          refine sy_sq ?_
          refine spG rfl rfl rfl rfl (PE.leq rfl rfl) rfl ?_
          refine sy_sq ?_
          refine spG rfl rfl rfl rfl (PE.pick rfl rfl rfl) rfl ?_
          refine sy_sq ?_
          refine sp rfl (PE.pick rfl rfl rfl) rfl ?_
          refine sy_sq ?_
          refine sp rfl (PE.assign rfl) rfl ?_
          refine sy_sn ?_
          refine sy_nx ?_
          refine sy_ret ?_
          exact sy_return (vs := [_]) rfl (.cons (RV.tmp rfl) .nil) rfl ⟨congrArg Value.bool hres.symm, rfl, rfl⟩ (fun _ h => by repeat first | exact h | replace h := St.tail h | replace h := St.ftail h | replace h := St.drop h)
        ·
          have hres : refFair s ws sh = false := by rw [hfe, g91, g93]; rfl
          refine spN rfl rfl rfl rfl rfl rfl rfl rfl ?_
          refine sy_sq ?_
          refine spN rfl rfl rfl rfl rfl rfl rfl rfl ?_
          refine sy_sq ?_
          refine spN rfl rfl rfl rfl rfl rfl rfl rfl ?_
          refine sy_sq ?_
          refine spG rfl rfl rfl rfl (PE.pick rfl rfl rfl) rfl ?_
          refine sy_sq ?_
          refine sp rfl (PE.pick rfl rfl rfl) rfl ?_
          refine sy_sq ?_
          refine sp rfl (PE.assign rfl) rfl ?_
          refine sy_sn ?_
          refine sy_nx ?_
          refine sy_ret ?_
          exact sy_return (vs := [_]) rfl (.cons (RV.tmp rfl) .nil) rfl ⟨congrArg Value.bool hres.symm, rfl, rfl⟩ (fun _ h => by repeat first | exact h | replace h := St.tail h | replace h := St.ftail h | replace h := St.drop h)
end Go.Proofs.Ytaldphhdkmchhaa
