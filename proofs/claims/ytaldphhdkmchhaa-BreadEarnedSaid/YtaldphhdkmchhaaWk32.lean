/- Walks of the functions of the program: what each returns and leaves in memory, under the conditions that its theorem names. -/
import Derived.Test.YtaldphhdkmchhaaTy
import Derived.Test.YtaldphhdkmchhaaMa
import Derived.Test.YtaldphhdkmchhaaWk31
import Derived.Test.YtaldphhdkmchhaaMn
namespace Go.Proofs.Ytaldphhdkmchhaa
set_option linter.unusedSimpArgs false
set_option linter.unusedVariables false
open Go
theorem cal54 : cal Try.prog 54 = true := by kernel_rfl
theorem cal56 : cal Try.prog 56 = true := by kernel_rfl
theorem St.swapf {f g : World → Prop} {H : Heap} {R : Facts} {w : World} (h : St H (f :: g :: R) w) : St H (g :: f :: R) w := by
  refine St.facts h (fun q hq => ?_)
  simp only [List.mem_cons] at hq ⊢
  rcases hq with e | e | e
  · exact .inr (.inl e)
  · exact .inl e
  · exact .inr (.inr e)
theorem earn_Q {t : Twn} {n : Nat} (h0 : t.check = 0) (hn : n ≤ 12) {v : Value} (h : (t.check ≠ 0 ∧ v = .tuple #[.int .i64 0, .int .i64 t.check]) ∨ (t.check = 0 ∧ inb n 0 12 = false ∧ v = .tuple #[.int .i64 0, .int .i64 3]) ∨ (t.check = 0 ∧ inb n 0 12 = true ∧ v = earnV t n)) :
    ∃ m f : Int, v = .tuple #[.int .i64 m, .int .i64 f] ∧ m = max (ef t n t.now) 0 ∧ ((f = 0 ∧ 0 ≤ ef t n t.now) ∨ (f = 6 ∧ ef t n t.now = -1)) := by
  have hb := (ef_bd (ok_of_check h0).1 n t.now).1
  have hib : inb n 0 12 = true := by simp only [inb, Bool.and_eq_true, decide_eq_true_eq]; omega
  rcases h with ⟨h, _⟩ | ⟨_, h, _⟩ | ⟨_, _, rfl⟩
  · exact absurd h0 h
  · rw [hib] at h; cases h
  · unfold earnV
    rw [Int.toNat_natCast]
    by_cases h1 : ef t n t.now = -1
    · exact ⟨0, 6, by simp [h1], by omega, .inr ⟨rfl, h1⟩⟩
    · exact ⟨ef t n t.now, 0, by simp [h1], by omega, .inl ⟨rfl, by omega⟩⟩
theorem year_yes {t : Twn} (h0 : t.check = 0) {k : Nat} {q : Rn} (hq : t.rats[k]? = some q) (hc : t.can t.now q = true) {bad : Bool} (hb : (bad && decide (t.run ≤ t.now.dry)) = false) : yearP t k bad = ({ t with now := t.next t.now q bad }, 0) ∧ ({ t with now := t.next t.now q bad } : Twn).check = 0 := by
  obtain ⟨hok, hba⟩ := ok_of_check h0
  have hr : t.rat k = some q := rat_iff.2 ⟨by omega, by simpa using hq⟩
  have hb2 : (bad && !(decide (t.now.dry < t.run))) = false := by
    have e3 : decide (t.run ≤ t.now.dry) = !(decide (t.now.dry < t.run)) := by rw [← decide_not]; exact decide_eq_decide.2 (by omega)
    rw [← hb, e3]
  have e := nxt_ok hr hc hb2
  refine ⟨by simp [yearP, h0, e], check_ok ?_ hba⟩
  exact { hok with now := next_right hok hok.now (List.mem_of_getElem? hq) hc (fun h => by subst h; simpa using hb) }
theorem two_at {j k : Nat} (hj : j < 2) (e : k = j) : [Value.bool false, .bool true][k]? = some (.bool (decide (j = 1))) := by
  subst e
  match k, hj with
  | 0, _ => rfl
  | 1, _ => rfl
/-- A state after which the years that follow are in a list. -/
def Trd (t : Twn) (q : Rn) (N : List Sta) (u : Sta) : Prop := t.can u q = true ∧ t.next u q false ∈ N ∧ (u.dry < t.run → t.next u q true ∈ N)
theorem trs_two {t : Twn} {q : Rn} {L N : List Sta} {m : Nat} {u : Sta} (h : ∀ u ∈ L.take m, Trd t q N u) (hu : L[m]? = some u) (hc : t.can u q = true) : ∀ v ∈ L.take (m + 1), Trd t q (N ++ [t.next u q false] ++ [t.next u q true]) v := fun v hv => by
  rw [List.take_add_one, hu, Option.toList_some, List.mem_append] at hv
  rcases hv with hv | hv
  · obtain ⟨h1, h2, h3⟩ := h v hv
    exact ⟨h1, by simp [h2], fun hr => by simp [h3 hr]⟩
  · simp only [List.mem_singleton] at hv
    subst hv
    exact ⟨hc, by simp, fun _ => by simp⟩
theorem trs_one {t : Twn} {q : Rn} {L N : List Sta} {m : Nat} {u : Sta} (h : ∀ u ∈ L.take m, Trd t q N u) (hu : L[m]? = some u) (hc : t.can u q = true) (hr : ¬ u.dry < t.run) : ∀ v ∈ L.take (m + 1), Trd t q (N ++ [t.next u q false]) v := fun v hv => by
  rw [List.take_add_one, hu, Option.toList_some, List.mem_append] at hv
  rcases hv with hv | hv
  · obtain ⟨h1, h2, h3⟩ := h v hv
    exact ⟨h1, by simp [h2], fun hr => by simp [h3 hr]⟩
  · simp only [List.mem_singleton] at hv
    subst hv
    exact ⟨hc, by simp, fun h => absurd h hr⟩
theorem trs_r {t : Twn} {N : List Sta} {v : Sta} (h : ∀ u ∈ N, u.right t = true) (hv : v.right t = true) : ∀ u ∈ N ++ [v], u.right t = true := fun u hu => by
  rcases List.mem_append.1 hu with hu | hu
  · exact h u hu
  · simp only [List.mem_singleton] at hu; subst hu; exact hv
/-- The worst of the harvests, so far. -/
def WP (t : Twn) (n : Nat) (q : Rn) (j : Nat) (w : Int) (fed : Bool) : Prop := (0 ≤ w ∧ w ≤ 1099511627776) ∧ (j = 0 → w = 1099511627776 ∧ fed = true) ∧ (j = 1 → w = max (ef t n (t.next t.now q false)) 0 ∧ fed = decide (ef t n (t.next t.now q false) ≠ -1)) ∧
  (j = 2 → fed = decide (worstOf t (ef t n) t.now q ≠ -1) ∧ (fed = true → w = worstOf t (ef t n) t.now q))
theorem WP.zero (t : Twn) (n : Nat) (q : Rn) : WP t n q 0 1099511627776 true := ⟨by omega, fun _ => ⟨rfl, rfl⟩, by omega, by omega⟩
theorem WP.skip {t : Twn} (ht : t.ok) {n : Nat} {q : Rn} {w : Int} {fed : Bool} (h : WP t n q 1 w fed) (hr : ¬ t.now.dry < t.run) : WP t n q 2 w fed := by
  obtain ⟨h1, _, h2, _⟩ := h
  obtain ⟨h3, h4⟩ := h2 rfl
  have e : worstOf t (ef t n) t.now q = ef t n (t.next t.now q false) := by unfold worstOf; rw [decide_eq_false hr]; rfl
  refine ⟨h1, by omega, by omega, fun _ => ⟨by rw [e]; exact h4, fun hf => ?_⟩⟩
  rw [e]
  rw [h4] at hf
  have := of_decide_eq_true hf
  have := ef_bd ht n (t.next t.now q false)
  omega
theorem WP.more {t : Twn} (ht : t.ok) {n : Nat} (hn : n ≤ 12) {q : Rn} {j : Nat} {w m : Int} {fed fed' bad : Bool} (h : WP t n q j w fed) (hj : j < 2) (hb : bad = decide (j = 1)) (hr : bad = true → t.now.dry < t.run) (hm : m = max (ef t n (t.next t.now q bad)) 0) (hf : fed' = (fed && decide (ef t n (t.next t.now q bad) ≠ -1))) : WP t n q (j + 1) (min w m) fed' := by
  have hbd := ef_bd ht n
  have hb1 := hbd (t.next t.now q false)
  have hb2 := hbd (t.next t.now q true)
  obtain ⟨h1, h2, h3, _⟩ := h
  match j, hj with
  | 0, _ =>
    obtain rfl : bad = false := hb
    obtain ⟨rfl, rfl⟩ := h2 rfl
    refine ⟨by omega, by omega, fun _ => ⟨by omega, by rw [hf]; rfl⟩, by omega⟩
  | 1, _ =>
    obtain rfl : bad = true := hb
    obtain ⟨rfl, rfl⟩ := h3 rfl
    have e : worstOf t (ef t n) t.now q = min (ef t n (t.next t.now q false)) (ef t n (t.next t.now q true)) := by unfold worstOf; rw [decide_eq_true (hr rfl)]; rfl
    refine ⟨by omega, by omega, by omega, fun _ => ?_⟩
    rw [e, hf, ← Bool.decide_and]
    refine ⟨decide_eq_decide.2 (by omega), fun h => ?_⟩
    have := of_decide_eq_true h
    omega

theorem c_BreadEarned (g : List Int) (ag : Option Addr) (cg : Nat) (hgl : g.length ≤ 9223372036854775807) (h : List Int) (ah : Option Addr) (ch : Nat) (hhl : h.length ≤ 9223372036854775807) (years : Int) (hb1 : 0 ≤ years ∧ years ≤ 255) (H : Heap) (R : Facts) [hG : MemRows ag 1 (urows g) R] [hG2 : MemRows ah 1 (urows h) R] :
    Fn Try.prog 10 [.slice ag g.length cg, .slice ah h.length ch, .int .u8 years] H R (fun v H' R' => v = .bool true ∧ H' = H ∧ R' = R) := by
  refine fn_of Try.func10 rfl Try.ntmps10 rfl ?_
  refine sy_seq ?_
  refine sy_tx' [0] rfl ?_
  refine sy_sq ?_
  refine sp rfl (PE.assign rfl) rfl ?_
  refine sy_sn ?_
  refine sy_nx ?_
  refine sy_seq ?_
  refine sy_tx' [0, 1, 2, 3, 4] rfl ?_
  refine sy_sq ?_
  refine sp rfl (PE.move rfl) rfl ?_
  refine sy_sq ?_
  refine cl rfl cal47 rfl rfl (c_Fill g ag cg hgl _ _) ?_
  rintro _ _ R1 ⟨bk, mx, hmx, rfl, rfl, hR1⟩
  obtain rfl := hR1.symm
  refine sy_sq ?_
  refine cl rfl cal46 rfl rfl (c_Made g ag cg bk hgl 0 mx (by omega) hmx 16 (by omega) _ _) ?_
  rintro _ _ _ ⟨t, ba, oa, ca, tq', mx', hmo, rfl, htq', hmx', rfl, rfl⟩
  refine Sy.heap (fun w h => h.del bk) ?_
  have hck := hmo.ok
  have hok := (ok_of_check hck).1
  have hmany := hok.many
  refine sy_sq ?_
  refine alc rfl zl26 rfl (fun b7 => ?_)
  refine sy_sq ?_
  refine sto rfl rfl rfl cn26 rfl rfl rfl rfl ?_
  refine sy_sn ?_
  refine sy_nx ?_
  refine sy_seq ?_
  refine sy_tx' [0, 1, 2, 3] rfl ?_
  refine sy_sq ?_
  refine sp rfl (PE.move rfl) rfl ?_
  refine sy_sq ?_
  refine sp rfl (PE.conv64 us5 ik3 rfl (by omega)) rfl ?_
  refine sy_sq ?_
  refine sp rfl (PE.rem rfl rfl (by omega)) rfl ?_
  refine sy_sq ?_
  refine sp rfl (PE.assign rfl) rfl ?_
  refine sy_sn ?_
  refine sy_nx ?_
  refine sy_seq ?_
  refine sy_tx' [0, 1, 2, 3, 4, 5, 6, 7] rfl ?_
  refine sy_sq ?_
  obtain ⟨n0, hn0⟩ : ∃ n0 : Nat, years % 6 = n0 := ⟨(years % 6).toNat, by omega⟩
  rw [hn0]
  refine spL rfl rfl (lhA [_, _, _, _, _, _, _, _, _, _, _] ag26 rfl rfl rfl) rfl ?_
  refine sy_sq ?_
  refine sp rfl (PE.move rfl) rfl ?_
  refine sy_sq ?_
  refine cl rfl cal31 rfl rfl (c_Earns t (by omega) (n0 : Nat) ba oa ca _ _) ?_
  rintro _ _ _ ⟨hv, rfl, rfl⟩
  obtain ⟨m43, f43, rfl, hm43, hf43⟩ := earn_Q hck (by omega) hv
  clear hv
  refine sy_sq ?_
  refine sp rfl (PE.move rfl) rfl ?_
  refine sy_sq ?_
  refine sp rfl (PE.extract rfl rfl) rfl ?_
  refine sy_sq ?_
  refine sp rfl (PE.extract rfl rfl) rfl ?_
  refine sy_sq ?_
  refine sp rfl (PE.assign rfl) rfl ?_
  refine sy_sq ?_
  refine sp rfl (PE.assign rfl) rfl ?_
  refine sy_sn ?_
  refine sy_nx ?_
  refine sy_seq ?_
  refine sy_seq ?_
  refine sy_tx' [0, 1] rfl ?_
  refine sy_sq ?_
  refine sp rfl (PE.move rfl) rfl ?_
  refine sy_sq ?_
  refine sp rfl (PE.eql rfl rfl) rfl ?_
  refine sy_sn ?_
  refine sy_nx ?_
  refine sy_cond rfl (fun hc0 => ?_) (fun hc0 => ?_)
  ·
   try simp only [decide_eq_true_eq, decide_eq_false_iff_not, Bool.and_eq_true, Bool.or_eq_true, Bool.not_eq_true', Int.not_le, Int.not_lt] at hc0
   obtain rfl : n0 = 0 := by omega
   have he0 : ef t 0 t.now = 0 := rfl
   refine sy_seq ?_
   refine sy_tx' [0, 1, 2, 3, 4, 5, 6, 7, 8, 9] rfl ?_
   refine sy_sq ?_
   refine sp rfl (PE.move rfl) rfl ?_
   refine sy_sq ?_
   refine sp rfl (PE.eql rfl rfl) rfl ?_
   refine sy_sq ?_
   refine sp rfl (PE.move rfl) rfl ?_
   refine sy_sq ?_
   refine sy_case (t := 50) rfl (fun g50 => ?_) (fun g50 => ?_)
   ·
    refine spG rfl rfl rfl rfl (PE.move rfl) rfl ?_
    refine sy_sq ?_
    refine spG rfl rfl rfl rfl (PE.eql rfl rfl) rfl ?_
    refine sy_sq ?_
    refine sp rfl (PE.pick rfl rfl rfl) rfl ?_
    refine sy_sq ?_
    refine sp rfl (PE.move rfl) rfl ?_
    refine sy_sq ?_
    refine sy_case (t := 54) rfl (fun g54 => ?_) (fun g54 => ?_)
    ·
     refine clVG rfl rfl rfl rfl cal16 rfl rfl (c_awake _ _) ?_
     refine sy_sq ?_
     refine sp rfl (PE.pick rfl rfl rfl) rfl ?_
     refine sy_sq ?_
     refine sp rfl (PE.assign rfl) rfl ?_
     refine sy_sn ?_
     refine sy_nx ?_
     refine sy_ret ?_
     refine sy_tr ?_
     exact sy_return (vs := [_]) rfl (.cons (RV.tmp rfl) .nil) rfl ⟨rfl, rfl, rfl⟩ (fun _ h => by repeat first | exact h | replace h := St.tail h | replace h := St.ftail h | replace h := St.drop h)
    ·
     exact absurd g54 (by rw [decide_eq_true (by omega)]; simp)
   ·
    exact absurd g50 (by rw [decide_eq_true (by omega)]; simp)
  ·
   try simp only [decide_eq_true_eq, decide_eq_false_iff_not, Bool.and_eq_true, Bool.or_eq_true, Bool.not_eq_true', Int.not_le, Int.not_lt] at hc0
   obtain ⟨n, rfl⟩ : ∃ n, n0 = n + 1 := ⟨n0 - 1, by omega⟩
   have hbd := ef_bd hok (n + 1) t.now
   have hbn := ef_bd hok n
   refine sy_skip ?_
   refine sy_nx ?_
   refine sy_seq ?_
   refine sy_seq ?_
   refine sy_cut (ι := Unit) (fun _ => ⟨[(1, .slice ah h.length ch), (7, .pointer (some ⟨b7, 0, none⟩)), (8, .int .i64 (n + 1 : Nat)), (9, .int .i64 m43), (10, .int .i64 f43), (66, .bool false)], (b7, cel 26 (twl t (t.sl (some ⟨ba, oa, none⟩) ca))) :: H, RowsA (some ⟨ba, oa, none⟩) 2 (rrows t.rats) :: R⟩) ?_ ?_
   ·
    refine sy_tx' [0, 1, 2, 3, 4, 5, 6, 7, 8, 9] rfl ?_
    refine sy_sq ?_
    refine sp rfl (PE.move rfl) rfl ?_
    refine sy_sq ?_
    refine sp rfl (PE.neq rfl rfl) rfl ?_
    refine sy_sq ?_
    refine sp rfl (PE.move rfl) rfl ?_
    refine sy_sq ?_
    refine sy_case (t := 59) rfl (fun g59 => ?_) (fun g59 => ?_)
    ·
     try simp only [decide_eq_true_eq, decide_eq_false_iff_not, Bool.and_eq_true, Bool.or_eq_true, Bool.not_eq_true', Int.not_le, Int.not_lt] at g59
     refine spG rfl rfl rfl rfl (PE.move rfl) rfl ?_
     refine sy_sq ?_
     refine spG rfl rfl rfl rfl (PE.neq rfl rfl) rfl ?_
     refine sy_sq ?_
     refine sp rfl (PE.pick rfl rfl rfl) rfl ?_
     refine sy_sq ?_
     refine sp rfl (PE.move rfl) rfl ?_
     refine sy_sq ?_
     refine sy_case (t := 63) rfl (fun g63 => ?_) (fun g63 => ?_)
     ·
      exact absurd g63 (by first | (simp; done) | (rw [decide_eq_false (by omega)]; simp))
     ·
      refine spG rfl rfl rfl rfl (PE.move rfl) rfl ?_
      refine sy_sq ?_
      refine spG rfl rfl rfl rfl (PE.lss rfl rfl) rfl ?_
      refine sy_sq ?_
      refine sp rfl (PE.pick rfl rfl rfl) rfl ?_
      refine sy_sn ?_
      first
        | exact sy_cutEnd () (by repeat' first | exact Sub.nil | apply Sub.cons | rfl | (simp [lk]; omega)) (fun _ h => h)
        | (rw [decide_eq_false (show ¬ m43 < 0 by omega)]; exact sy_cutEnd () (by repeat' first | exact Sub.nil | apply Sub.cons | rfl | (simp [lk]; omega)) (fun _ h => h))
    ·
     try simp only [decide_eq_true_eq, decide_eq_false_iff_not, Bool.and_eq_true, Bool.or_eq_true, Bool.not_eq_true', Int.not_le, Int.not_lt] at g59
     refine spN rfl rfl rfl rfl rfl rfl rfl rfl ?_
     refine sy_sq ?_
     refine spN rfl rfl rfl rfl rfl rfl rfl rfl ?_
     refine sy_sq ?_
     refine sp rfl (PE.pick rfl rfl rfl) rfl ?_
     refine sy_sq ?_
     refine sp rfl (PE.move rfl) rfl ?_
     refine sy_sq ?_
     refine spG rfl rfl rfl rfl (PE.move rfl) rfl ?_
     refine sy_sq ?_
     refine spG rfl rfl rfl rfl (PE.lss rfl rfl) rfl ?_
     refine sy_sq ?_
     refine sp rfl (PE.pick rfl rfl rfl) rfl ?_
     refine sy_sn ?_
     first
       | exact sy_cutEnd () (by repeat' first | exact Sub.nil | apply Sub.cons | rfl | (simp [lk]; omega)) (fun _ h => h)
       | (rw [decide_eq_false (show ¬ m43 < 0 by omega)]; exact sy_cutEnd () (by repeat' first | exact Sub.nil | apply Sub.cons | rfl | (simp [lk]; omega)) (fun _ h => h))
   ·
    rintro ⟨⟩
    dsimp only
    refine sy_nx ?_
    refine sy_cond rfl (fun hc1 => ?_) (fun hc1 => ?_)
    ·
     exact absurd hc1 (by first | (simp; done) | (rw [decide_eq_false (by omega)]; simp))
    ·
     refine sy_skip ?_
     refine sy_nx ?_
     refine sy_seq ?_
     refine sy_seq ?_
     refine sy_tx' [0, 1, 2, 3, 4, 5, 6, 7, 8] rfl ?_
     refine sy_sq ?_
     refine spL rfl rfl (lhA [_, _, _, _, _, _, _, _, _, _, _] ag26 rfl rfl rfl) rfl ?_
     refine sy_sq ?_
     refine sp rfl (PE.move rfl) rfl ?_
     refine sy_sq ?_
     refine sp rfl (PE.sub rfl rfl (by omega)) rfl ?_
     refine sy_sq ?_
     rw [show ((n + 1 : Nat) : Int) - 1 = n from by omega]
     refine cl rfl cal31 rfl rfl (c_Earns t (by omega) (n : Nat) ba oa ca _ _) ?_
     rintro _ _ _ ⟨hv, rfl, rfl⟩
     obtain ⟨m71, f71, rfl, hm71, hf71⟩ := earn_Q hck (by omega) hv
     clear hv
     have hless : f43 = 0 → f71 = 0 := fun h0 => by
       have := ef_less hok n t.now (by omega)
       omega
     refine sy_sq ?_
     refine sp rfl (PE.move rfl) rfl ?_
     refine sy_sq ?_
     refine sp rfl (PE.extract rfl rfl) rfl ?_
     refine sy_sq ?_
     refine sp rfl (PE.extract rfl rfl) rfl ?_
     refine sy_sq ?_
     refine sp rfl (PE.assign rfl) rfl ?_
     refine sy_sq ?_
     refine sp rfl (PE.assign rfl) rfl ?_
     refine sy_sn ?_
     refine sy_nx ?_
     refine sy_seq ?_
     refine sy_cut (ι := Unit) (fun _ => ⟨[(1, .slice ah h.length ch), (7, .pointer (some ⟨b7, 0, none⟩)), (8, .int .i64 (n + 1 : Nat)), (9, .int .i64 m43), (10, .int .i64 f43), (79, .bool false)], (b7, cel 26 (twl t (t.sl (some ⟨ba, oa, none⟩) ca))) :: H, RowsA (some ⟨ba, oa, none⟩) 2 (rrows t.rats) :: R⟩) ?_ ?_
     ·
      refine sy_tx' [0, 1, 2, 3, 4, 5] rfl ?_
      refine sy_sq ?_
      refine sp rfl (PE.move rfl) rfl ?_
      refine sy_sq ?_
      refine sp rfl (PE.eql rfl rfl) rfl ?_
      refine sy_sq ?_
      refine sp rfl (PE.move rfl) rfl ?_
      refine sy_sq ?_
      refine sy_case (t := 76) rfl (fun g76 => ?_) (fun g76 => ?_)
      ·
       simp only [decide_eq_true_eq, decide_eq_false_iff_not, Bool.and_eq_true, Bool.or_eq_true, Bool.not_eq_true', Int.not_le, Int.not_lt] at g76
       refine spG rfl rfl rfl rfl (PE.move rfl) rfl ?_
       refine sy_sq ?_
       refine spG rfl rfl rfl rfl (PE.neq rfl rfl) rfl ?_
       refine sy_sq ?_
       refine sp rfl (PE.pick rfl rfl rfl) rfl ?_
       refine sy_sn ?_
       first
         | exact sy_cutEnd () (by repeat' first | exact Sub.nil | apply Sub.cons | rfl | (simp [lk]; omega)) (fun _ h => h)
         | (rw [decide_eq_false (show ¬ f71 ≠ 0 by omega)]; exact sy_cutEnd () (by repeat' first | exact Sub.nil | apply Sub.cons | rfl | (simp [lk]; omega)) (fun _ h => h))
      ·
       refine spN rfl rfl rfl rfl rfl rfl rfl rfl ?_
       refine sy_sq ?_
       refine spN rfl rfl rfl rfl rfl rfl rfl rfl ?_
       refine sy_sq ?_
       refine sp rfl (PE.pick rfl rfl rfl) rfl ?_
       refine sy_sn ?_
       first
         | exact sy_cutEnd () (by repeat' first | exact Sub.nil | apply Sub.cons | rfl | (simp [lk]; omega)) (fun _ h => h)
         | (rw [decide_eq_false (show ¬ f71 ≠ 0 by omega)]; exact sy_cutEnd () (by repeat' first | exact Sub.nil | apply Sub.cons | rfl | (simp [lk]; omega)) (fun _ h => h))
     ·
      rintro ⟨⟩
      dsimp only
      refine sy_nx ?_
      refine sy_cond rfl (fun hc2 => ?_) (fun hc2 => ?_)
      ·
       exact absurd hc2 (by first | (simp; done) | (rw [decide_eq_false (by omega)]; simp))
      ·
       refine sy_skip ?_
       refine sy_nx ?_
       refine sy_seq ?_
       refine sy_tx' [0, 1] rfl ?_
       refine sy_sq ?_
       refine sp rfl (PE.assign rfl) rfl ?_
       refine sy_sq ?_
       refine sp rfl (PE.assign rfl) rfl ?_
       refine sy_sn ?_
       refine sy_nx ?_
       refine sy_seq ?_
       refine sy_seq ?_
       refine sy_tx' [0, 1, 2, 3] rfl ?_
       refine sy_sq ?_
       refine sp rfl (PE.fieldAddr fo26_8 rfl) rfl ?_
       refine sy_sq ?_
       refine spL rfl rfl (lh sc24 rfl rfl) rfl ?_
       refine sy_sq ?_
       refine sp rfl (PE.lenSl isl24 rfl) rfl ?_
       refine sy_sq ?_
       refine sp rfl (PE.move rfl) rfl ?_
       refine sy_sn ?_
       refine sy_nx ?_
       refine sy_block ?_
       refine sy_loop (ι := {k : Nat // k ≤ t.rats.length}) (fun k => ⟨[(1, .slice ah h.length ch), (7, .pointer (some ⟨b7, 0, none⟩)), (8, .int .i64 (n + 1 : Nat)), (9, .int .i64 m43), (10, .int .i64 f43), (13, .int .i64 (max ((t.rats.take k.1).foldl (efQ t (ef t n) t.now) (-1)) 0)), (14, .bool (decide (((t.rats.take k.1).foldl (efQ t (ef t n) t.now) (-1)) ≠ -1))), (81, t.sl (some ⟨ba, oa, none⟩) ca), (82, .int .i64 t.rats.length), (83, .int .i64 k.1)], (b7, cel 26 (twl t (t.sl (some ⟨ba, oa, none⟩) ca))) :: H, RowsA (some ⟨ba, oa, none⟩) 2 (rrows t.rats) :: R⟩) (fun k => t.rats.length - k.1) ⟨0, by omega⟩ ?_ (fun k => ?_)
       ·
        exact sy_at (by repeat' first | exact Sub.nil | apply Sub.cons | rfl | (simp [lk]; omega)) (fun _ h => h)
       ·
        obtain ⟨k, hk⟩ := k
        dsimp only at hk ⊢
        refine sy_seq ?_
        refine sy_tx' [0] rfl ?_
        refine sy_sq ?_
        refine sp rfl (PE.lss rfl rfl) rfl ?_
        refine sy_sn ?_
        refine sy_nx ?_
        refine sy_seq ?_
        refine sy_cond rfl (fun hc3 => ?_) (fun hc3 => ?_)
        ·
         try simp only [decide_eq_true_eq, decide_eq_false_iff_not, Bool.and_eq_true, Bool.or_eq_true, Bool.not_eq_true', Int.not_le, Int.not_lt] at hc3
         obtain ⟨q, hq⟩ : ∃ q, t.rats[k]? = some q := ⟨_, List.getElem?_eq_getElem (by omega)⟩
         have hqm := List.mem_of_getElem? hq
         have hst := fold_at (f := efQ t (ef t n) t.now) (b := -1) hq
         refine sy_skip ?_
         refine sy_nx ?_
         refine sy_seq ?_
         refine sy_block ?_
         refine sy_seq ?_
         refine sy_tx' [0, 1, 2, 3, 4, 5] rfl ?_
         refine sy_sq ?_
         refine sp rfl (PE.move rfl) rfl ?_
         refine sy_sq ?_
         refine sp rfl (PE.indexAddr el24 rfl rfl (by omega) (by omega)) rfl ?_
         refine sy_sq ?_
         refine spL rfl rfl (lfA (row := rrow q) ag91 (rr_get hq) rfl) rfl ?_
         refine sy_sq ?_
         refine alc rfl zl91 rfl (fun b16 => ?_)
         refine sy_sq ?_
         refine sp rfl (PE.assign rfl) rfl ?_
         refine sy_sq ?_
         refine sto rfl rfl rfl cn91 rfl rfl rfl rfl ?_
         refine sy_sn ?_
         refine sy_nx ?_
         refine sy_seq ?_
         refine sy_seq ?_
         refine sy_tx' [0, 1, 2, 3, 4, 5] rfl ?_
         refine sy_sq ?_
         refine spL rfl rfl (lhA [_, _, _, _, _, _, _, _, _, _, _] ag26 rfl rfl rfl) rfl ?_
         refine sy_sq ?_
         refine sp rfl (PE.fieldAddr fo26_0 rfl) rfl ?_
         refine sy_sq ?_
         refine spL rfl rfl (lhA [_, _, _] ag23 rfl rfl rfl) rfl ?_
         refine sy_sq ?_
         refine sp rfl (PE.move rfl) rfl ?_
         refine sy_sq ?_
         refine clV rfl cal54 rfl rfl (c_lallow t t.now k q ba oa ca (by omega) (by simpa using hq) _ _) ?_
         refine sy_sq ?_
         refine sp rfl (PE.not rfl) rfl ?_
         refine sy_sn ?_
         refine sy_nx ?_
         refine sy_cond rfl (fun hc4 => ?_) (fun hc4 => ?_)
         ·
          have hcan : t.can t.now q = false := by simpa using hc4
          have hst2 : efQ t (ef t n) t.now ((t.rats.take k).foldl (efQ t (ef t n) t.now) (-1)) q = ((t.rats.take k).foldl (efQ t (ef t n) t.now) (-1)) := by simp [efQ, hcan]
          rw [hst2] at hst
          refine sy_exit ?_
          refine sy_tx ?_
          refine sy_bx ?_
          refine sy_nx ?_
          refine sy_tx' [0, 1] rfl ?_
          refine sy_sq ?_
          refine sp rfl (PE.add rfl rfl (by omega)) rfl ?_
          refine sy_sq ?_
          refine sp rfl (PE.move rfl) rfl ?_
          refine sy_sn ?_
          refine sy_nx ?_
          first
            | exact sy_next ⟨k + 1, by omega⟩ (by dsimp only; omega) (by dsimp only; rw [hst, ← hbs.1, ← hbs.2]; exact (by repeat' first | exact Sub.nil | apply Sub.cons | rfl | (simp [lk]; omega))) (fun w h => (h.del b94).del b16)
            | exact sy_next ⟨k + 1, by omega⟩ (by dsimp only; omega) (by dsimp only; rw [hst]; exact (by repeat' first | exact Sub.nil | apply Sub.cons | rfl | (simp [lk]; omega))) (fun w h => h.del b16)
         ·
          have hcan : t.can t.now q = true := by simpa using hc4
          refine sy_skip ?_
          refine sy_nx ?_
          refine sy_seq ?_
          refine sy_tx' [0, 1] rfl ?_
          refine sy_sq ?_
          refine sp rfl (PE.assign rfl) rfl ?_
          refine sy_sq ?_
          refine sp rfl (PE.assign rfl) rfl ?_
          refine sy_sn ?_
          refine sy_nx ?_
          refine sy_seq ?_
          refine sy_seq ?_
          refine sy_tx' [0, 1, 2] rfl ?_
          refine sy_sq ?_
          refine bsl (out := [_, _]) rfl sl80 zl4 rfl rfl rfl rfl rfl rfl (fun b94 => ?_)
          refine sy_sq ?_
          refine sp rfl (PE.lenSl isl80 rfl) rfl ?_
          refine sy_sq ?_
          refine sp rfl (PE.move rfl) rfl ?_
          refine sy_sn ?_
          refine sy_nx ?_
          refine sy_block ?_
          refine sy_loop (ι := {x : Nat × Int × Bool // x.1 ≤ 2 ∧ WP t n q x.1 x.2.1 x.2.2}) (fun x => ⟨[(1, .slice ah h.length ch), (7, .pointer (some ⟨b7, 0, none⟩)), (8, .int .i64 (n + 1 : Nat)), (9, .int .i64 m43), (10, .int .i64 f43), (13, .int .i64 (max ((t.rats.take k).foldl (efQ t (ef t n) t.now) (-1)) 0)), (14, .bool (decide (((t.rats.take k).foldl (efQ t (ef t n) t.now) (-1)) ≠ -1))), (81, t.sl (some ⟨ba, oa, none⟩) ca), (82, .int .i64 t.rats.length), (83, .int .i64 k), (15, .int .i64 k), (16, .pointer (some ⟨b16, 0, none⟩)), (17, .int .i64 x.1.2.1), (18, .bool x.1.2.2), (94, .slice (some ⟨b94, 0, none⟩) 2 2), (95, .int .i64 2), (96, .int .i64 x.1.1)], (b94, cel 4 [Value.bool false, .bool true]) :: (b16, cel 91 (rrow q)) :: (b7, cel 26 (twl t (t.sl (some ⟨ba, oa, none⟩) ca))) :: H, RowsA (some ⟨ba, oa, none⟩) 2 (rrows t.rats) :: R⟩) (fun x => 2 - x.1.1) ⟨(0, 1099511627776, true), by omega, WP.zero t n q⟩ ?_ (fun x => ?_)
          ·
           exact sy_at (by repeat' first | exact Sub.nil | apply Sub.cons | rfl | (simp [lk]; omega)) (fun _ h => h)
          ·
           obtain ⟨⟨j, wo, fed⟩, hj, hwp⟩ := x
           dsimp only at hj hwp ⊢
           have hwb := hwp.1
           refine sy_seq ?_
           refine sy_tx' [0] rfl ?_
           refine sy_sq ?_
           refine sp rfl (PE.lss rfl rfl) rfl ?_
           refine sy_sn ?_
           refine sy_nx ?_
           refine sy_seq ?_
           refine sy_cond rfl (fun hc5 => ?_) (fun hc5 => ?_)
           ·
            try simp only [decide_eq_true_eq, decide_eq_false_iff_not, Bool.and_eq_true, Bool.or_eq_true, Bool.not_eq_true', Int.not_le, Int.not_lt] at hc5
            have hj2 : j < 2 := by omega
            obtain ⟨bad, hbad⟩ : ∃ bad, bad = decide (j = 1) := ⟨_, rfl⟩
            refine sy_skip ?_
            refine sy_nx ?_
            refine sy_seq ?_
            refine sy_block ?_
            refine sy_seq ?_
            refine sy_tx' [0, 1, 2] rfl ?_
            refine sy_sq ?_
            refine sp rfl (PE.indexAddr el80 rfl rfl (by omega) (by omega)) rfl ?_
            refine sy_sq ?_
            refine spL rfl rfl (lh sc4 rfl (two_at hj2 (by omega))) rfl ?_
            refine sy_sq ?_
            refine sp rfl (PE.assign rfl) rfl ?_
            refine sy_sn ?_
            refine sy_nx ?_
            refine sy_seq ?_
            refine sy_seq ?_
            refine sy_cut (ι := Unit) (fun _ => ⟨[(1, .slice ah h.length ch), (7, .pointer (some ⟨b7, 0, none⟩)), (8, .int .i64 (n + 1 : Nat)), (9, .int .i64 m43), (10, .int .i64 f43), (13, .int .i64 (max ((t.rats.take k).foldl (efQ t (ef t n) t.now) (-1)) 0)), (14, .bool (decide (((t.rats.take k).foldl (efQ t (ef t n) t.now) (-1)) ≠ -1))), (81, t.sl (some ⟨ba, oa, none⟩) ca), (82, .int .i64 t.rats.length), (83, .int .i64 k), (15, .int .i64 k), (16, .pointer (some ⟨b16, 0, none⟩)), (17, .int .i64 wo), (18, .bool fed), (94, .slice (some ⟨b94, 0, none⟩) 2 2), (95, .int .i64 2), (96, .int .i64 j), (20, .bool bad), (108, .bool (bad && decide (t.run ≤ t.now.dry)))], (b94, cel 4 [Value.bool false, .bool true]) :: (b16, cel 91 (rrow q)) :: (b7, cel 26 (twl t (t.sl (some ⟨ba, oa, none⟩) ca))) :: H, RowsA (some ⟨ba, oa, none⟩) 2 (rrows t.rats) :: R⟩) ?_ ?_
            ·
             refine sy_tx' [0, 1, 2, 3, 4, 5, 6, 7, 8] rfl ?_
             refine sy_sq ?_
             rw [← hbad]
             refine sp rfl (PE.move rfl) rfl ?_
             refine sy_sq ?_
             refine sp rfl (PE.move rfl) rfl ?_
             refine sy_sq ?_
             refine sy_case (t := 101) rfl (fun g101 => ?_) (fun g101 => ?_)
             ·
              rw [g101]
              refine spG rfl rfl rfl rfl (PE.fieldAddr fo26_0 rfl) rfl ?_
              refine sy_sq ?_
              refine spG rfl rfl rfl rfl (PE.fieldAddr fo23_2 rfl) rfl ?_
              refine sy_sq ?_
              refine spLG rfl rfl rfl rfl rfl (lh sc3 rfl rfl) rfl ?_
              refine sy_sq ?_
              refine spG rfl rfl rfl rfl (PE.fieldAddr fo26_4 rfl) rfl ?_
              refine sy_sq ?_
              refine spLG rfl rfl rfl rfl rfl (lh sc3 rfl rfl) rfl ?_
              refine sy_sq ?_
              refine spG rfl rfl rfl rfl (PE.geq rfl rfl) rfl ?_
              refine sy_sq ?_
              refine sp rfl (PE.pick rfl rfl rfl) rfl ?_
              refine sy_sn ?_
              exact sy_cutEnd () (by repeat' first | exact Sub.nil | apply Sub.cons | rfl | (simp [lk]; omega)) (fun _ h => h)
             ·
              rw [g101]
              refine spN rfl rfl rfl rfl rfl rfl rfl rfl ?_
              refine sy_sq ?_
              refine spN rfl rfl rfl rfl rfl rfl rfl rfl ?_
              refine sy_sq ?_
              refine spN rfl rfl rfl rfl rfl rfl rfl rfl ?_
              refine sy_sq ?_
              refine spN rfl rfl rfl rfl rfl rfl rfl rfl ?_
              refine sy_sq ?_
              refine spN rfl rfl rfl rfl rfl rfl rfl rfl ?_
              refine sy_sq ?_
              refine spN rfl rfl rfl rfl rfl rfl rfl rfl ?_
              refine sy_sq ?_
              refine sp rfl (PE.pick rfl rfl rfl) rfl ?_
              refine sy_sn ?_
              exact sy_cutEnd () (by repeat' first | exact Sub.nil | apply Sub.cons | rfl | (simp [lk]; omega)) (fun _ h => h)
            ·
             rintro ⟨⟩
             dsimp only
             refine sy_nx ?_
             refine sy_cond rfl (fun hc6 => ?_) (fun hc6 => ?_)
             ·
              obtain ⟨hb3, hb4⟩ : bad = true ∧ t.run ≤ t.now.dry := by simpa using hc6
              obtain rfl : j = 1 := by rw [hb3] at hbad; simpa using hbad.symm
              refine sy_exit ?_
              refine sy_tx ?_
              refine sy_bx ?_
              refine sy_nx ?_
              refine sy_tx' [0, 1] rfl ?_
              refine sy_sq ?_
              refine sp rfl (PE.add rfl rfl (by omega)) rfl ?_
              refine sy_sq ?_
              refine sp rfl (PE.move rfl) rfl ?_
              refine sy_sn ?_
              refine sy_nx ?_
              first
                | exact sy_next ⟨(j + 1, min wo m120, decide (f120 = 0)), by omega, hmo2⟩ (by dsimp only; omega) (by repeat' first | exact Sub.nil | apply Sub.cons | rfl | (simp [lk]; omega)) (fun _ h => h)
                | exact sy_next ⟨(j + 1, min wo m120, false), by omega, hmo2⟩ (by dsimp only; omega) (by repeat' first | exact Sub.nil | apply Sub.cons | rfl | (simp [lk]; omega)) (fun _ h => h)
                | exact sy_next ⟨(2, wo, fed), by omega, hwp.skip hok (by omega)⟩ (by dsimp only; omega) (by repeat' first | exact Sub.nil | apply Sub.cons | rfl | (simp [lk]; omega)) (fun _ h => h)
             ·
              refine sy_skip ?_
              refine sy_nx ?_
              refine sy_seq ?_
              refine sy_tx' [0, 1, 2, 3, 4, 5, 6, 7, 8, 9] rfl ?_
              refine sy_sq ?_
              refine spL rfl rfl (lhA [_, _, _, _, _, _, _, _, _, _, _] ag26 rfl rfl rfl) rfl ?_
              refine sy_sq ?_
              refine sp rfl (PE.move rfl) rfl ?_
              refine sy_sq ?_
              refine sp rfl (PE.move rfl) rfl ?_
              refine sy_sq ?_
              refine cl rfl cal55 rfl rfl (c_Year t k bad (by omega) ba oa ca _ _) ?_
              rintro _ _ _ ⟨rfl, hy⟩
              obtain ⟨hye, hyc⟩ := year_yes hck hq hcan hc6
              rw [hye] at hy
              dsimp only at hy
              obtain ⟨by_, cy, jy, rfl, rfl⟩ := hy.resolve_left (fun h => by have := h.1; rw [this] at hmany; simp at hmany)
              refine Sy.heap (fun w h => St.rows (sz := 2) h (by intro r hr; obtain ⟨x, _, rfl⟩ := List.mem_map.1 hr; rfl)) ?_
              refine sy_sq ?_
              refine sp rfl (PE.move rfl) rfl ?_
              refine sy_sq ?_
              refine sp rfl (PE.extract rfl rfl) rfl ?_
              refine sy_sq ?_
              refine sp rfl (PE.extract rfl rfl) rfl ?_
              refine sy_sq ?_
              refine alc rfl zl26 rfl (fun b21 => ?_)
              refine sy_sq ?_
              refine sto rfl rfl rfl cn26 rfl rfl rfl rfl ?_
              refine sy_sq ?_
              refine sp rfl (PE.assign rfl) rfl ?_
              refine sy_sn ?_
              refine sy_nx ?_
              refine sy_seq ?_
              refine sy_tx' [0, 1, 2, 3, 4, 5, 6, 7, 8] rfl ?_
              refine sy_sq ?_
              refine spL rfl rfl (lhA [_, _, _, _, _, _, _, _, _, _, _] ag26 rfl rfl rfl) rfl ?_
              refine sy_sq ?_
              refine sp rfl (PE.move rfl) rfl ?_
              refine sy_sq ?_
              refine sp rfl (PE.sub rfl rfl (by omega)) rfl ?_
              refine sy_sq ?_
              rw [show ((n + 1 : Nat) : Int) - 1 = n from by omega]
              refine cl rfl cal31 rfl rfl (c_Earns { t with now := t.next t.now q bad } (by show t.rats.length ≤ _; omega) (n : Nat) by_ 0 cy _ _ (hR := (inferInstance : MemRows _ 2 (rrows t.rats) _))) ?_
              rintro _ _ _ ⟨hv, rfl, rfl⟩
              obtain ⟨m120, f120, rfl, hm120, hf120⟩ := earn_Q hyc (by omega) hv
              clear hv
              dsimp only at hm120 hf120
              rw [ef_now] at hm120 hf120
              have hbv := hbn (t.next t.now q bad)
              refine sy_sq ?_
              refine sp rfl (PE.move rfl) rfl ?_
              refine sy_sq ?_
              refine sp rfl (PE.extract rfl rfl) rfl ?_
              refine sy_sq ?_
              refine sp rfl (PE.extract rfl rfl) rfl ?_
              refine sy_sq ?_
              refine sp rfl (PE.assign rfl) rfl ?_
              refine sy_sq ?_
              refine sp rfl (PE.assign rfl) rfl ?_
              refine sy_sn ?_
              refine sy_nx ?_
              refine sy_seq ?_
              refine sy_seq ?_
              refine sy_cut (ι := Unit) (fun _ => ⟨[(1, .slice ah h.length ch), (7, .pointer (some ⟨b7, 0, none⟩)), (8, .int .i64 (n + 1 : Nat)), (9, .int .i64 m43), (10, .int .i64 f43), (13, .int .i64 (max ((t.rats.take k).foldl (efQ t (ef t n) t.now) (-1)) 0)), (14, .bool (decide (((t.rats.take k).foldl (efQ t (ef t n) t.now) (-1)) ≠ -1))), (81, t.sl (some ⟨ba, oa, none⟩) ca), (82, .int .i64 t.rats.length), (83, .int .i64 k), (15, .int .i64 k), (16, .pointer (some ⟨b16, 0, none⟩)), (17, .int .i64 wo), (18, .bool fed), (94, .slice (some ⟨b94, 0, none⟩) 2 2), (95, .int .i64 2), (96, .int .i64 j), (23, .int .i64 m120), (24, .int .i64 f120), (132, .bool false)], (b94, cel 4 [Value.bool false, .bool true]) :: (b16, cel 91 (rrow q)) :: (b7, cel 26 (twl t (t.sl (some ⟨ba, oa, none⟩) ca))) :: H, RowsA (some ⟨ba, oa, none⟩) 2 (rrows t.rats) :: R⟩) ?_ ?_
              ·
               refine sy_tx' [0, 1, 2, 3, 4, 5, 6, 7, 8, 9] rfl ?_
               refine sy_sq ?_
               refine sp rfl (PE.move rfl) rfl ?_
               refine sy_sq ?_
               refine sp rfl (PE.neq rfl rfl) rfl ?_
               refine sy_sq ?_
               refine sp rfl (PE.move rfl) rfl ?_
               refine sy_sq ?_
               refine sy_case (t := 125) rfl (fun g125 => ?_) (fun g125 => ?_)
               ·
                exact absurd g125 (by first | (simp; done) | (simp_all; done))
               ·
                refine spG rfl rfl rfl rfl (PE.move rfl) rfl ?_
                refine sy_sq ?_
                refine spG rfl rfl rfl rfl (PE.neq rfl rfl) rfl ?_
                refine sy_sq ?_
                refine spG rfl rfl rfl rfl (PE.move rfl) rfl ?_
                refine sy_sq ?_
                refine sy_case (t := 128) rfl (fun g128 => ?_) (fun g128 => ?_)
                ·
                 simp only [decide_eq_true_eq, decide_eq_false_iff_not, Bool.and_eq_true, Bool.or_eq_true, Bool.not_eq_true', Int.not_le, Int.not_lt] at g128
                 refine spG rfl rfl rfl rfl (PE.move rfl) rfl ?_
                 refine sy_sq ?_
                 refine spG rfl rfl rfl rfl (PE.neq rfl rfl) rfl ?_
                 refine sy_sq ?_
                 refine spG rfl rfl rfl rfl (PE.pick rfl rfl rfl) rfl ?_
                 refine sy_sq ?_
                 refine sp rfl (PE.pick rfl rfl rfl) rfl ?_
                 refine sy_sn ?_
                 first
                   | exact sy_cutEnd () (by repeat' first | exact Sub.nil | apply Sub.cons | rfl | (simp [lk]; omega)) (fun w h => (h.del b21).ftail)
                   | (rw [decide_eq_false (show ¬ f120 ≠ 6 by omega)]; exact sy_cutEnd () (by repeat' first | exact Sub.nil | apply Sub.cons | rfl | (simp [lk]; omega)) (fun w h => (h.del b21).ftail))
                ·
                 refine spN rfl rfl rfl rfl rfl rfl rfl rfl ?_
                 refine sy_sq ?_
                 refine spN rfl rfl rfl rfl rfl rfl rfl rfl ?_
                 refine sy_sq ?_
                 refine spG rfl rfl rfl rfl (PE.pick rfl rfl rfl) rfl ?_
                 refine sy_sq ?_
                 refine sp rfl (PE.pick rfl rfl rfl) rfl ?_
                 refine sy_sn ?_
                 first
                   | exact sy_cutEnd () (by repeat' first | exact Sub.nil | apply Sub.cons | rfl | (simp [lk]; omega)) (fun w h => (h.del b21).ftail)
                   | (rw [decide_eq_false (show ¬ f120 ≠ 6 by omega)]; exact sy_cutEnd () (by repeat' first | exact Sub.nil | apply Sub.cons | rfl | (simp [lk]; omega)) (fun w h => (h.del b21).ftail))
              ·
               rintro ⟨⟩
               dsimp only
               refine sy_nx ?_
               refine sy_cond rfl (fun hc7 => ?_) (fun hc7 => ?_)
               ·
                exact absurd hc7 (by first | (simp; done) | (rw [decide_eq_false (by omega)]; simp))
               ·
                refine sy_skip ?_
                refine sy_nx ?_
                refine sy_tx' [0, 1, 2, 3, 4, 5, 6, 7, 8, 9] rfl ?_
                refine sy_sq ?_
                refine sp rfl (PE.move rfl) rfl ?_
                refine sy_sq ?_
                refine sp rfl (PE.move rfl) rfl ?_
                refine sy_sq ?_
                refine sp rfl (PE.min rfl rfl) rfl ?_
                refine sy_sq ?_
                refine sp rfl (PE.move rfl) rfl ?_
                refine sy_sq ?_
                refine sp rfl (PE.move rfl) rfl ?_
                refine sy_sq ?_
                refine sy_case (t := 137) rfl (fun g137 => ?_) (fun g137 => ?_)
                ·
                 subst g137
                 have hmo2 := hwp.more hok (by omega) hj2 hbad (m := m120) (fed' := decide (f120 = 0)) (fun hb5 => by subst hb5; simpa using hc6) hm120 (by rcases hf120 with ⟨rfl, h5⟩ | ⟨rfl, h5⟩ <;> simp [h5] <;> omega)
                 refine spG rfl rfl rfl rfl (PE.move rfl) rfl ?_
                 refine sy_sq ?_
                 refine spG rfl rfl rfl rfl (PE.eql rfl rfl) rfl ?_
                 refine sy_sq ?_
                 refine sp rfl (PE.pick rfl rfl rfl) rfl ?_
                 refine sy_sq ?_
                 refine sp rfl (PE.assign rfl) rfl ?_
                 refine sy_sq ?_
                 refine sp rfl (PE.assign rfl) rfl ?_
                 refine sy_sn ?_
                 refine sy_bn ?_
                 refine sy_nx ?_
                 refine sy_tx' [0, 1] rfl ?_
                 refine sy_sq ?_
                 refine sp rfl (PE.add rfl rfl (by omega)) rfl ?_
                 refine sy_sq ?_
                 refine sp rfl (PE.move rfl) rfl ?_
                 refine sy_sn ?_
                 refine sy_nx ?_
                 first
                   | exact sy_next ⟨(j + 1, min wo m120, decide (f120 = 0)), by omega, hmo2⟩ (by dsimp only; omega) (by repeat' first | exact Sub.nil | apply Sub.cons | rfl | (simp [lk]; omega)) (fun _ h => h)
                   | exact sy_next ⟨(j + 1, min wo m120, false), by omega, hmo2⟩ (by dsimp only; omega) (by repeat' first | exact Sub.nil | apply Sub.cons | rfl | (simp [lk]; omega)) (fun _ h => h)
                   | exact sy_next ⟨(2, wo, fed), by omega, hwp.skip hok (by omega)⟩ (by dsimp only; omega) (by repeat' first | exact Sub.nil | apply Sub.cons | rfl | (simp [lk]; omega)) (fun _ h => h)
                ·
                 subst g137
                 have hmo2 := hwp.more hok (by omega) hj2 hbad (m := m120) (fed' := false) (fun hb5 => by subst hb5; simpa using hc6) hm120 (by simp)
                 refine spN rfl rfl rfl rfl rfl rfl rfl rfl ?_
                 refine sy_sq ?_
                 refine spN rfl rfl rfl rfl rfl rfl rfl rfl ?_
                 refine sy_sq ?_
                 refine sp rfl (PE.pick rfl rfl rfl) rfl ?_
                 refine sy_sq ?_
                 refine sp rfl (PE.assign rfl) rfl ?_
                 refine sy_sq ?_
                 refine sp rfl (PE.assign rfl) rfl ?_
                 refine sy_sn ?_
                 refine sy_bn ?_
                 refine sy_nx ?_
                 refine sy_tx' [0, 1] rfl ?_
                 refine sy_sq ?_
                 refine sp rfl (PE.add rfl rfl (by omega)) rfl ?_
                 refine sy_sq ?_
                 refine sp rfl (PE.move rfl) rfl ?_
                 refine sy_sn ?_
                 refine sy_nx ?_
                 first
                   | exact sy_next ⟨(j + 1, min wo m120, decide (f120 = 0)), by omega, hmo2⟩ (by dsimp only; omega) (by repeat' first | exact Sub.nil | apply Sub.cons | rfl | (simp [lk]; omega)) (fun _ h => h)
                   | exact sy_next ⟨(j + 1, min wo m120, false), by omega, hmo2⟩ (by dsimp only; omega) (by repeat' first | exact Sub.nil | apply Sub.cons | rfl | (simp [lk]; omega)) (fun _ h => h)
                   | exact sy_next ⟨(2, wo, fed), by omega, hwp.skip hok (by omega)⟩ (by dsimp only; omega) (by repeat' first | exact Sub.nil | apply Sub.cons | rfl | (simp [lk]; omega)) (fun _ h => h)
           ·
            try simp only [decide_eq_true_eq, decide_eq_false_iff_not, Bool.and_eq_true, Bool.or_eq_true, Bool.not_eq_true', Int.not_le, Int.not_lt] at hc5
            obtain rfl : j = 2 := by omega
            obtain ⟨hfed, hwo⟩ := hwp.2.2.2 rfl
            have hq1 := hok.rats q hqm
            have hp := mul_bd hq1.1 hq1.2.1 hq1.2.2.1 hq1.2.2.2
            refine sy_exit ?_
            refine sy_tx ?_
            refine sy_tx ?_
            refine sy_bx ?_
            refine sy_nx ?_
            refine sy_seq ?_
            refine sy_cut (ι := Unit) (fun _ => ⟨[(1, .slice ah h.length ch), (7, .pointer (some ⟨b7, 0, none⟩)), (8, .int .i64 (n + 1 : Nat)), (9, .int .i64 m43), (10, .int .i64 f43), (13, .int .i64 (max ((t.rats.take k).foldl (efQ t (ef t n) t.now) (-1)) 0)), (14, .bool (decide (((t.rats.take k).foldl (efQ t (ef t n) t.now) (-1)) ≠ -1))), (81, t.sl (some ⟨ba, oa, none⟩) ca), (82, .int .i64 t.rats.length), (83, .int .i64 k), (15, .int .i64 k), (16, .pointer (some ⟨b16, 0, none⟩)), (17, .int .i64 wo), (18, .bool fed), (157, .bool (fed && (!(decide (((t.rats.take k).foldl (efQ t (ef t n) t.now) (-1)) ≠ -1)) || decide (wo + q.sacks * q.price > max ((t.rats.take k).foldl (efQ t (ef t n) t.now) (-1)) 0))))], (b94, cel 4 [Value.bool false, .bool true]) :: (b16, cel 91 (rrow q)) :: (b7, cel 26 (twl t (t.sl (some ⟨ba, oa, none⟩) ca))) :: H, RowsA (some ⟨ba, oa, none⟩) 2 (rrows t.rats) :: R⟩) ?_ ?_
            ·
             refine sy_tx' [0, 1, 2, 3, 4, 5, 6, 7, 8, 9, 10, 11, 12, 13, 14, 15] rfl ?_
             refine sy_sq ?_
             refine sp rfl (PE.move rfl) rfl ?_
             refine sy_sq ?_
             refine sp rfl (PE.move rfl) rfl ?_
             refine sy_sq ?_
             refine sy_case (t := 143) rfl (fun g143 => ?_) (fun g143 => ?_)
             ·
              rw [g143]
              refine spG rfl rfl rfl rfl (PE.move rfl) rfl ?_
              refine sy_sq ?_
              refine spG rfl rfl rfl rfl (PE.not rfl) rfl ?_
              refine sy_sq ?_
              refine spG rfl rfl rfl rfl (PE.move rfl) rfl ?_
              refine sy_sq ?_
              refine sy_case (t := 146) rfl (fun g146 => ?_) (fun g146 => ?_)
              ·
               rw [g146]
               refine spN rfl rfl rfl rfl rfl rfl rfl rfl ?_
               refine sy_sq ?_
               refine spN rfl rfl rfl rfl rfl rfl rfl rfl ?_
               refine sy_sq ?_
               refine spN rfl rfl rfl rfl rfl rfl rfl rfl ?_
               refine sy_sq ?_
               refine spN rfl rfl rfl rfl rfl rfl rfl rfl ?_
               refine sy_sq ?_
               refine spN rfl rfl rfl rfl rfl rfl rfl rfl ?_
               refine sy_sq ?_
               refine spN rfl rfl rfl rfl rfl rfl rfl rfl ?_
               refine sy_sq ?_
               refine spN rfl rfl rfl rfl rfl rfl rfl rfl ?_
               refine sy_sq ?_
               refine spN rfl rfl rfl rfl rfl rfl rfl rfl ?_
               refine sy_sq ?_
               refine spN rfl rfl rfl rfl rfl rfl rfl rfl ?_
               refine sy_sq ?_
               refine spG rfl rfl rfl rfl (PE.pick rfl rfl rfl) rfl ?_
               refine sy_sq ?_
               refine sp rfl (PE.pick rfl rfl rfl) rfl ?_
               refine sy_sn ?_
               exact sy_cutEnd () (by repeat' first | exact Sub.nil | apply Sub.cons | rfl | (simp [lk]; omega)) (fun _ h => h)
              ·
               rw [g146]
               refine spG rfl rfl rfl rfl (PE.move rfl) rfl ?_
               refine sy_sq ?_
               refine spG rfl rfl rfl rfl (PE.fieldAddr fo91_0 rfl) rfl ?_
               refine sy_sq ?_
               refine spLG rfl rfl rfl rfl rfl (lh sc3 rfl rfl) rfl ?_
               refine sy_sq ?_
               refine spG rfl rfl rfl rfl (PE.fieldAddr fo91_1 rfl) rfl ?_
               refine sy_sq ?_
               refine spLG rfl rfl rfl rfl rfl (lh sc3 rfl rfl) rfl ?_
               refine sy_sq ?_
               refine spG rfl rfl rfl rfl (PE.mul rfl rfl (by omega)) rfl ?_
               refine sy_sq ?_
               refine spG rfl rfl rfl rfl (PE.add rfl rfl (by omega)) rfl ?_
               refine sy_sq ?_
               refine spG rfl rfl rfl rfl (PE.move rfl) rfl ?_
               refine sy_sq ?_
               refine spG rfl rfl rfl rfl (PE.gtr rfl rfl) rfl ?_
               refine sy_sq ?_
               refine spG rfl rfl rfl rfl (PE.pick rfl rfl rfl) rfl ?_
               refine sy_sq ?_
               refine sp rfl (PE.pick rfl rfl rfl) rfl ?_
               refine sy_sn ?_
               exact sy_cutEnd () (by repeat' first | exact Sub.nil | apply Sub.cons | rfl | (simp [lk]; omega)) (fun _ h => h)
             ·
              rw [g143]
              refine spN rfl rfl rfl rfl rfl rfl rfl rfl ?_
              refine sy_sq ?_
              refine spN rfl rfl rfl rfl rfl rfl rfl rfl ?_
              refine sy_sq ?_
              refine spN rfl rfl rfl rfl rfl rfl rfl rfl ?_
              refine sy_sq ?_
              refine spU rfl rfl rfl rfl rfl rfl rfl ?_
              refine sy_sq ?_
              refine spU rfl rfl rfl rfl rfl rfl rfl ?_
              refine sy_sq ?_
              refine spU rfl rfl rfl rfl rfl rfl rfl ?_
              refine sy_sq ?_
              refine spU rfl rfl rfl rfl rfl rfl rfl ?_
              refine sy_sq ?_
              refine spU rfl rfl rfl rfl rfl rfl rfl ?_
              refine sy_sq ?_
              refine spU rfl rfl rfl rfl rfl rfl rfl ?_
              refine sy_sq ?_
              refine spU rfl rfl rfl rfl rfl rfl rfl ?_
              refine sy_sq ?_
              refine spU rfl rfl rfl rfl rfl rfl rfl ?_
              refine sy_sq ?_
              refine spU rfl rfl rfl rfl rfl rfl rfl ?_
              refine sy_sq ?_
              refine spN rfl rfl rfl rfl rfl rfl rfl rfl ?_
              refine sy_sq ?_
              refine sp rfl (PE.pick rfl rfl rfl) rfl ?_
              refine sy_sn ?_
              exact sy_cutEnd () (by repeat' first | exact Sub.nil | apply Sub.cons | rfl | (simp [lk]; omega)) (fun _ h => h)
            ·
             rintro ⟨⟩
             dsimp only
             have hbs := best_step hok hqm hcan rfl rfl (fold_ge t (ef t n) t.now (t.rats.take k) (-1)) hfed hwo
             refine sy_nx ?_
             refine sy_cond rfl (fun hc8 => ?_) (fun hc8 => ?_)
             ·
              rw [hc8] at hbs
              simp only [cond_true, Prod.mk.injEq] at hbs
              refine sy_tx' [0, 1, 2, 3, 4, 5, 6, 7, 8] rfl ?_
              refine sy_sq ?_
              refine sp rfl (PE.move rfl) rfl ?_
              refine sy_sq ?_
              refine sp rfl (PE.fieldAddr fo91_0 rfl) rfl ?_
              refine sy_sq ?_
              refine spL rfl rfl (lh sc3 rfl rfl) rfl ?_
              refine sy_sq ?_
              refine sp rfl (PE.fieldAddr fo91_1 rfl) rfl ?_
              refine sy_sq ?_
              refine spL rfl rfl (lh sc3 rfl rfl) rfl ?_
              refine sy_sq ?_
              refine sp rfl (PE.mul rfl rfl (by omega)) rfl ?_
              refine sy_sq ?_
              refine sp rfl (PE.add rfl rfl (by omega)) rfl ?_
              refine sy_sq ?_
              refine sp rfl (PE.assign rfl) rfl ?_
              refine sy_sq ?_
              refine sp rfl (PE.assign rfl) rfl ?_
              refine sy_sn ?_
              refine sy_bn ?_
              refine sy_nx ?_
              refine sy_tx' [0, 1] rfl ?_
              refine sy_sq ?_
              refine sp rfl (PE.add rfl rfl (by omega)) rfl ?_
              refine sy_sq ?_
              refine sp rfl (PE.move rfl) rfl ?_
              refine sy_sn ?_
              refine sy_nx ?_
              first
                | exact sy_next ⟨k + 1, by omega⟩ (by dsimp only; omega) (by dsimp only; rw [hst, ← hbs.1, ← hbs.2]; exact (by repeat' first | exact Sub.nil | apply Sub.cons | rfl | (simp [lk]; omega))) (fun w h => (h.del b94).del b16)
                | exact sy_next ⟨k + 1, by omega⟩ (by dsimp only; omega) (by dsimp only; rw [hst]; exact (by repeat' first | exact Sub.nil | apply Sub.cons | rfl | (simp [lk]; omega))) (fun w h => h.del b16)
             ·
              rw [hc8] at hbs
              simp only [cond_false, Prod.mk.injEq] at hbs
              refine sy_skip ?_
              refine sy_bn ?_
              refine sy_nx ?_
              refine sy_tx' [0, 1] rfl ?_
              refine sy_sq ?_
              refine sp rfl (PE.add rfl rfl (by omega)) rfl ?_
              refine sy_sq ?_
              refine sp rfl (PE.move rfl) rfl ?_
              refine sy_sn ?_
              refine sy_nx ?_
              first
                | exact sy_next ⟨k + 1, by omega⟩ (by dsimp only; omega) (by dsimp only; rw [hst, ← hbs.1, ← hbs.2]; exact (by repeat' first | exact Sub.nil | apply Sub.cons | rfl | (simp [lk]; omega))) (fun w h => (h.del b94).del b16)
                | exact sy_next ⟨k + 1, by omega⟩ (by dsimp only; omega) (by dsimp only; rw [hst]; exact (by repeat' first | exact Sub.nil | apply Sub.cons | rfl | (simp [lk]; omega))) (fun w h => h.del b16)
        ·
         try simp only [decide_eq_true_eq, decide_eq_false_iff_not, Bool.and_eq_true, Bool.or_eq_true, Bool.not_eq_true', Int.not_le, Int.not_lt] at hc3
         obtain rfl : k = t.rats.length := by omega
         rw [List.take_length, show t.rats.foldl (efQ t (ef t n) t.now) (-1) = ef t (n + 1) t.now from rfl]
         have hfe : decide (ef t (n + 1) t.now ≠ -1) = decide (f43 = 0) := decide_eq_decide.2 (by omega)
         refine sy_exit ?_
         refine sy_tx ?_
         refine sy_tx ?_
         refine sy_bx ?_
         refine sy_nx ?_
         refine sy_seq ?_
         refine sy_seq ?_
         refine sy_cut (ι := Unit) (fun _ => ⟨[(1, .slice ah h.length ch), (7, .pointer (some ⟨b7, 0, none⟩)), (8, .int .i64 (n + 1 : Nat)), (9, .int .i64 m43), (10, .int .i64 f43), (177, .bool false)], (b7, cel 26 (twl t (t.sl (some ⟨ba, oa, none⟩) ca))) :: H, RowsA (some ⟨ba, oa, none⟩) 2 (rrows t.rats) :: R⟩) ?_ ?_
         ·
          refine sy_tx' [0, 1, 2, 3, 4, 5, 6, 7, 8, 9, 10, 11] rfl ?_
          refine sy_sq ?_
          refine sp rfl (PE.move rfl) rfl ?_
          refine sy_sq ?_
          refine sp rfl (PE.move rfl) rfl ?_
          refine sy_sq ?_
          refine sp rfl (PE.eql rfl rfl) rfl ?_
          refine sy_sq ?_
          refine sp rfl (PE.neqBool ub4 rfl rfl) rfl ?_
          refine sy_sq ?_
          refine sp rfl (PE.move rfl) rfl ?_
          refine sy_sq ?_
          refine sy_case (t := 170) rfl (fun g170 => ?_) (fun g170 => ?_)
          ·
           exact absurd g170 (by rw [hfe]; simp)
          ·
           refine spG rfl rfl rfl rfl (PE.move rfl) rfl ?_
           refine sy_sq ?_
           refine spG rfl rfl rfl rfl (PE.move rfl) rfl ?_
           refine sy_sq ?_
           refine sy_case (t := 172) rfl (fun g172 => ?_) (fun g172 => ?_)
           ·
            refine spG rfl rfl rfl rfl (PE.move rfl) rfl ?_
            refine sy_sq ?_
            refine spG rfl rfl rfl rfl (PE.move rfl) rfl ?_
            refine sy_sq ?_
            refine spG rfl rfl rfl rfl (PE.neq rfl rfl) rfl ?_
            refine sy_sq ?_
            refine spG rfl rfl rfl rfl (PE.pick rfl rfl rfl) rfl ?_
            refine sy_sq ?_
            refine sp rfl (PE.pick rfl rfl rfl) rfl ?_
            refine sy_sn ?_
            first
              | exact sy_cutEnd () (by repeat' first | exact Sub.nil | apply Sub.cons | rfl | (simp [lk]; omega)) (fun _ h => h)
              | (rw [decide_eq_false (show ¬ max (ef t (n + 1) t.now) 0 ≠ m43 by omega)]; exact sy_cutEnd () (by repeat' first | exact Sub.nil | apply Sub.cons | rfl | (simp [lk]; omega)) (fun _ h => h))
           ·
            refine spN rfl rfl rfl rfl rfl rfl rfl rfl ?_
            refine sy_sq ?_
            refine spN rfl rfl rfl rfl rfl rfl rfl rfl ?_
            refine sy_sq ?_
            refine spN rfl rfl rfl rfl rfl rfl rfl rfl ?_
            refine sy_sq ?_
            refine spG rfl rfl rfl rfl (PE.pick rfl rfl rfl) rfl ?_
            refine sy_sq ?_
            refine sp rfl (PE.pick rfl rfl rfl) rfl ?_
            refine sy_sn ?_
            first
              | exact sy_cutEnd () (by repeat' first | exact Sub.nil | apply Sub.cons | rfl | (simp [lk]; omega)) (fun _ h => h)
              | (rw [decide_eq_false (show ¬ max (ef t (n + 1) t.now) 0 ≠ m43 by omega)]; exact sy_cutEnd () (by repeat' first | exact Sub.nil | apply Sub.cons | rfl | (simp [lk]; omega)) (fun _ h => h))
         ·
          rintro ⟨⟩
          dsimp only
          refine sy_nx ?_
          refine sy_cond rfl (fun hc9 => ?_) (fun hc9 => ?_)
          ·
           exact absurd hc9 (by first | (simp; done) | (rw [decide_eq_false (by omega)]; simp))
          ·
           refine sy_skip ?_
           refine sy_nx ?_
           refine sy_seq ?_
           refine sy_tx' [0, 1, 2] rfl ?_
           refine sy_sq ?_
           refine sp rfl (PE.move rfl) rfl ?_
           refine sy_sq ?_
           refine cl rfl cal47 rfl rfl (c_Fill h ah ch hhl _ _) ?_
           rintro _ _ R1 ⟨bh, mh, hmh, rfl, rfl, hR1⟩
           obtain rfl := hR1.symm
           refine sy_sq ?_
           refine sp rfl (PE.assign rfl) rfl ?_
           refine sy_sn ?_
           refine sy_nx ?_
           refine sy_seq ?_
           refine sy_seq ?_
           refine sy_tx' [0] rfl ?_
           refine sy_sq ?_
           refine sp rfl (PE.move rfl) rfl ?_
           refine sy_sn ?_
           refine sy_nx ?_
           refine sy_block ?_
           refine sy_loop (ι := {x : Nat × Int × Int // x.1 ≤ 4 ∧ (0 ≤ x.2.1 ∧ x.2.1 ≤ 10 * x.1) ∧ (0 ≤ x.2.2 ∧ x.2.2 ≤ 4294967295)}) (fun x => ⟨[(7, .pointer (some ⟨b7, 0, none⟩)), (8, .int .i64 (n + 1 : Nat)), (9, .int .i64 m43), (10, .int .i64 f43), (25, .pointer (some ⟨bh, 0, none⟩)), (180, .int .i64 x.1.1)], (bh, cel 168 [.slice ah h.length ch, .int .i64 (x.1.2.1), .int .u32 (x.1.2.2)]) :: (b7, cel 26 (twl t (t.sl (some ⟨ba, oa, none⟩) ca))) :: H, RowsA (some ⟨ba, oa, none⟩) 2 (rrows t.rats) :: R⟩) (fun x => 4 - x.1.1) ⟨(0, 0, mh), by omega, by dsimp only; omega, by assumption⟩ ?_ (fun x => ?_)
           ·
            exact sy_at (by repeat' first | exact Sub.nil | apply Sub.cons | rfl | (simp [lk]; omega)) (fun _ h => h)
           ·
            obtain ⟨⟨i, tq2, mx2⟩, hi, htq2, hmx2⟩ := x
            dsimp only at hi htq2 hmx2 ⊢
            refine sy_seq ?_
            refine sy_tx' [0] rfl ?_
            refine sy_sq ?_
            refine sp rfl (PE.lss rfl rfl) rfl ?_
            refine sy_sn ?_
            refine sy_nx ?_
            refine sy_seq ?_
            refine sy_cond rfl (fun hc10 => ?_) (fun hc10 => ?_)
            ·
             try simp only [decide_eq_true_eq, decide_eq_false_iff_not, Bool.and_eq_true, Bool.or_eq_true, Bool.not_eq_true', Int.not_le, Int.not_lt] at hc10
             
             refine sy_skip ?_
             refine sy_nx ?_
             refine sy_seq ?_
             refine sy_block ?_
             refine sy_seq ?_
             refine sy_tx' [0, 1, 2, 3, 4, 5] rfl ?_
             refine sy_sq ?_
             refine sp rfl (PE.fieldAddr fo26_0 rfl) rfl ?_
             refine sy_sq ?_
             refine spL rfl rfl (lhA [_, _, _] ag23 rfl rfl rfl) rfl ?_
             refine sy_sq ?_
             refine alc rfl zl23 rfl (fun b26 => ?_)
             refine sy_sq ?_
             refine sto rfl rfl rfl cn23 rfl rfl rfl rfl ?_
             refine sy_sq ?_
             refine sp rfl (PE.assign rfl) rfl ?_
             refine sy_sq ?_
             refine sp rfl (PE.assign rfl) rfl ?_
             refine sy_sn ?_
             refine sy_nx ?_
             refine sy_seq ?_
             refine sy_tx' [0, 1, 2] rfl ?_
             refine sy_sq ?_
             refine spL rfl rfl (lhA [_, _, _] ag23 rfl rfl rfl) rfl ?_
             refine sy_sq ?_
             refine bsl (out := [_, _, _]) rfl sl85 zl23 rfl rfl rfl rfl rfl rfl (fun b185 => ?_)
             refine sy_sq ?_
             refine sp rfl (PE.assign rfl) rfl ?_
             refine sy_sn ?_
             refine sy_nx ?_
             refine sy_seq ?_
             refine sy_seq ?_
             refine sy_tx' [0, 1] rfl ?_
             refine sy_sq ?_
             refine sp rfl (PE.move rfl) rfl ?_
             refine sy_sq ?_
             refine sp rfl (PE.move rfl) rfl ?_
             refine sy_sn ?_
             refine sy_nx ?_
             refine sy_block ?_
             refine Sy.heap (fun w h => St.rows (sz := 3) (rows := srows [t.now]) (rest := []) h (by intro r hr; obtain ⟨x, _, rfl⟩ := List.mem_map.1 hr; rfl)) ?_
             refine sy_del b26 ?_
             refine sy_loop (ι := {x : Nat × List Sta × Int × Int × Int × Option Addr × Nat // x.1 ≤ n + 1 ∧ Tr t (n + 1) x.2.2.1 (n + 1 - x.1) x.2.1 ∧ (∀ u ∈ x.2.1, u.right t = true) ∧ x.2.1.length ≤ 2 ^ x.1 ∧ (0 ≤ x.2.2.1 ∧ x.2.2.1 ≤ 3000 * x.1) ∧ (0 ≤ x.2.2.2.1 ∧ x.2.2.2.1 ≤ 10 * i + x.1) ∧ (0 ≤ x.2.2.2.2.1 ∧ x.2.2.2.2.1 ≤ 4294967295)}) (fun x => ⟨[(7, .pointer (some ⟨b7, 0, none⟩)), (8, .int .i64 (n + 1 : Nat)), (9, .int .i64 m43), (10, .int .i64 f43), (25, .pointer (some ⟨bh, 0, none⟩)), (180, .int .i64 i), (27, .int .i64 x.1.2.2.1), (28, .bool true), (29, .slice x.1.2.2.2.2.2.1 (x.1.2.1).length x.1.2.2.2.2.2.2), (186, .int .i64 (n + 1 : Nat)), (187, .int .i64 x.1.1)], (bh, cel 168 [.slice ah h.length ch, .int .i64 (x.1.2.2.2.1), .int .u32 (x.1.2.2.2.2.1)]) :: (b7, cel 26 (twl t (t.sl (some ⟨ba, oa, none⟩) ca))) :: H, RowsA x.1.2.2.2.2.2.1 3 (srows x.1.2.1) :: RowsA (some ⟨ba, oa, none⟩) 2 (rrows t.rats) :: R⟩) (fun x => n + 1 - x.1.1) ⟨(0, [t.now], 0, tq2, mx2, some ⟨b185, 0, none⟩, 1), by omega, Tr.start t (n + 1), by simpa using hok.now, by simp, by simp, by dsimp only; omega, by assumption⟩ ?_ (fun x => ?_)
             ·
              exact sy_at (by repeat' first | exact Sub.nil | apply Sub.cons | rfl | (simp [lk]; omega)) (fun _ h => h)
             ·
              obtain ⟨⟨j, L, sum, tq3, mx3, al, cL⟩, hj, htr, hrt, hll, hsm, htq3, hmx3⟩ := x
              dsimp only at hj htr hrt hll hsm htq3 hmx3 ⊢
              have hL32 : L.length ≤ 32 := Nat.le_trans hll (Nat.pow_le_pow_right (by omega) (show j ≤ 5 by omega))
              refine sy_seq ?_
              refine sy_tx' [0] rfl ?_
              refine sy_sq ?_
              refine sp rfl (PE.lss rfl rfl) rfl ?_
              refine sy_sn ?_
              refine sy_nx ?_
              refine sy_seq ?_
              refine sy_cond rfl (fun hc11 => ?_) (fun hc11 => ?_)
              ·
               try simp only [decide_eq_true_eq, decide_eq_false_iff_not, Bool.and_eq_true, Bool.or_eq_true, Bool.not_eq_true', Int.not_le, Int.not_lt] at hc11
               
               refine sy_skip ?_
               refine sy_nx ?_
               refine sy_seq ?_
               refine sy_block ?_
               refine sy_seq ?_
               refine sy_tx' [0, 1, 2, 3, 4, 5] rfl ?_
               refine sy_sq ?_
               refine sp rfl (PE.move rfl) rfl ?_
               refine sy_sq ?_
               refine sp rfl (PE.fieldAddr fo26_8 rfl) rfl ?_
               refine sy_sq ?_
               refine spL rfl rfl (lh sc24 rfl rfl) rfl ?_
               refine sy_sq ?_
               refine sp rfl (PE.lenSl isl24 rfl) rfl ?_
               refine sy_sq ?_
               refine cl rfl cal48 rfl rfl (c_Below h ah ch bh hhl _ _ (by omega) (by assumption) (t.rats.length) _ _) ?_
               rintro _ _ R1 ⟨x193, m193, hx193, rfl, hm193, rfl, hR1⟩
               obtain rfl := hR1.symm
               obtain ⟨r, rfl⟩ : ∃ r : Nat, x193 = r := ⟨x193.toNat, by omega⟩
               obtain ⟨q, hq⟩ : ∃ q, t.rats[r]? = some q := ⟨_, List.getElem?_eq_getElem (by omega)⟩
               have hqm := List.mem_of_getElem? hq
               have hq1 := hok.rats q hqm
               have hp := mul_bd hq1.1 hq1.2.1 hq1.2.2.1 hq1.2.2.2
               refine sy_sq ?_
               refine sp rfl (PE.assign rfl) rfl ?_
               refine sy_sn ?_
               refine sy_nx ?_
               refine sy_seq ?_
               refine sy_tx' [0] rfl ?_
               refine sy_sq ?_
               refine sp rfl (PE.assign rfl) rfl ?_
               refine sy_sn ?_
               refine sy_nx ?_
               refine sy_seq ?_
               refine sy_seq ?_
               refine sy_tx' [0, 1, 2] rfl ?_
               refine sy_sq ?_
               refine sp rfl (PE.move rfl) rfl ?_
               refine sy_sq ?_
               refine sp rfl (PE.lenSl isl85 rfl) rfl ?_
               refine sy_sq ?_
               refine sp rfl (PE.move rfl) rfl ?_
               refine sy_sn ?_
               refine sy_nx ?_
               refine sy_block ?_
               refine sy_loop (ι := (x : {x : Nat × List Sta // x.1 ≤ L.length ∧ (∀ u ∈ L.take x.1, Trd t q x.2 u) ∧ (∀ u ∈ x.2, u.right t = true) ∧ x.2.length ≤ 2 * x.1}) × OSl 23 3 (srows x.1.2)) (fun x => ⟨[(7, .pointer (some ⟨b7, 0, none⟩)), (8, .int .i64 (n + 1 : Nat)), (9, .int .i64 m43), (10, .int .i64 f43), (25, .pointer (some ⟨bh, 0, none⟩)), (180, .int .i64 i), (27, .int .i64 sum), (28, .bool true), (29, .slice al (L).length cL), (186, .int .i64 (n + 1 : Nat)), (187, .int .i64 j), (30, .int .i64 r), (31, x.2.fs), (194, .slice al L.length cL), (195, .int .i64 L.length), (196, .int .i64 x.1.1.1)], (bh, cel 168 [.slice ah h.length ch, .int .i64 (tq3 + 1), .int .u32 (m193)]) :: (x.2.G ++ (b7, cel 26 (twl t (t.sl (some ⟨ba, oa, none⟩) ca))) :: H), RowsA al 3 (srows L) :: RowsA (some ⟨ba, oa, none⟩) 2 (rrows t.rats) :: R⟩) (fun x => L.length - x.1.1.1) ⟨⟨(0, []), by omega, by simp, by simp, by simp⟩, OSl.nil _ _⟩ ?_ (fun x => ?_)
               ·
                exact sy_at (by repeat' first | exact Sub.nil | apply Sub.cons | rfl | (simp [lk]; omega)) (fun _ h => h)
               ·
                obtain ⟨⟨⟨m, N⟩, hm, hN, hNr, hNl⟩, o'⟩ := x
                dsimp only at hm hN hNr hNl o' ⊢
                refine sy_seq ?_
                refine sy_tx' [0] rfl ?_
                refine sy_sq ?_
                refine sp rfl (PE.lss rfl rfl) rfl ?_
                refine sy_sn ?_
                refine sy_nx ?_
                refine sy_seq ?_
                refine sy_cond rfl (fun hc12 => ?_) (fun hc12 => ?_)
                ·
                 try simp only [decide_eq_true_eq, decide_eq_false_iff_not, Bool.and_eq_true, Bool.or_eq_true, Bool.not_eq_true', Int.not_le, Int.not_lt] at hc12
                 obtain ⟨u, hu⟩ : ∃ u, L[m]? = some u := ⟨_, List.getElem?_eq_getElem (by omega)⟩
                 have hur := hrt u (List.mem_of_getElem? hu)
                 refine sy_addr (a := al) (sz := 3) (rows := srows L) (by intro h0; simp [srows] at h0; simp [h0] at hu) (fun bl ol he => ?_)
                 subst he
                 refine sy_skip ?_
                 refine sy_nx ?_
                 refine sy_seq ?_
                 refine sy_block ?_
                 refine sy_seq ?_
                 refine sy_tx' [0, 1, 2, 3] rfl ?_
                 refine sy_sq ?_
                 refine sp rfl (PE.indexAddr el85 rfl rfl (by omega) (by omega)) rfl ?_
                 refine sy_sq ?_
                 refine spL rfl rfl (lfA (row := srow u) ag23 (by simp [srows, hu]) rfl) rfl ?_
                 refine sy_sq ?_
                 refine alc rfl zl23 rfl (fun b33 => ?_)
                 refine sy_sq ?_
                 refine sto rfl rfl rfl cn23 rfl rfl rfl rfl ?_
                 refine sy_sn ?_
                 refine sy_nx ?_
                 refine sy_seq ?_
                 refine sy_seq ?_
                 refine sy_tx' [0, 1, 2, 3, 4] rfl ?_
                 refine sy_sq ?_
                 refine spL rfl rfl (lhA [_, _, _, _, _, _, _, _, _, _, _] ag26 rfl rfl rfl) rfl ?_
                 refine sy_sq ?_
                 refine spL rfl rfl (lhA [_, _, _] ag23 rfl rfl rfl) rfl ?_
                 refine sy_sq ?_
                 refine sp rfl (PE.move rfl) rfl ?_
                 refine sy_sq ?_
                 refine clV rfl cal54 rfl rfl (c_lallow t u r q ba oa ca (by omega) (by simpa using hq) _ _) ?_
                 refine sy_sq ?_
                 refine sp rfl (PE.not rfl) rfl ?_
                 refine sy_sn ?_
                 refine sy_nx ?_
                 refine sy_cond rfl (fun hc13 => ?_) (fun hc13 => ?_)
                 ·
                  refine sy_seq ?_
                  refine sy_tx' [0] rfl ?_
                  refine sy_sq ?_
                  refine sp rfl (PE.assign rfl) rfl ?_
                  refine sy_sn ?_
                  refine sy_nx ?_
                  refine sy_exit ?_
                  refine sy_tx ?_
                  refine sy_bxn (by decide) ?_
                  refine sy_tx ?_
                  refine sy_tx ?_
                  refine sy_bx ?_
                  refine sy_nx ?_
                  refine sy_seq ?_
                  refine sy_seq ?_
                  refine sy_tx' [0, 1] rfl ?_
                  refine sy_sq ?_
                  refine sp rfl (PE.move rfl) rfl ?_
                  refine sy_sq ?_
                  refine sp rfl (PE.not rfl) rfl ?_
                  refine sy_sn ?_
                  refine sy_nx ?_
                  refine sy_condT rfl ?_
                  refine sy_exit ?_
                  refine sy_tx ?_
                  refine sy_bxn (by decide) ?_
                  refine sy_tx ?_
                  refine sy_tx ?_
                  refine sy_bx ?_
                  refine sy_nx ?_
                  refine sy_seq ?_
                  refine sy_tx' [0, 1, 2, 3, 4, 5, 6, 7, 8, 9] rfl ?_
                  refine sy_sq ?_
                  refine sp rfl (PE.move rfl) rfl ?_
                  refine sy_sq ?_
                  refine sp rfl (PE.move rfl) rfl ?_
                  refine sy_sq ?_
                  refine spN rfl rfl rfl rfl rfl rfl rfl rfl ?_
                  refine sy_sq ?_
                  refine spN rfl rfl rfl rfl rfl rfl rfl rfl ?_
                  refine sy_sq ?_
                  refine spN rfl rfl rfl rfl rfl rfl rfl rfl ?_
                  refine sy_sq ?_
                  refine spU rfl rfl rfl rfl rfl rfl rfl ?_
                  refine sy_sq ?_
                  refine spU rfl rfl rfl rfl rfl rfl rfl ?_
                  refine sy_sq ?_
                  refine spU rfl rfl rfl rfl rfl rfl rfl ?_
                  refine sy_sq ?_
                  refine spN rfl rfl rfl rfl rfl rfl rfl rfl ?_
                  refine sy_sq ?_
                  refine sp rfl (PE.pick rfl rfl rfl) rfl ?_
                  refine sy_sn ?_
                  refine sy_nx ?_
                  refine sy_condF rfl ?_
                  refine sy_skip ?_
                  refine sy_bn ?_
                  refine sy_nx ?_
                  refine sy_tx' [0, 1] rfl ?_
                  refine sy_sq ?_
                  refine sp rfl (PE.add rfl rfl (by omega)) rfl ?_
                  refine sy_sq ?_
                  refine sp rfl (PE.move rfl) rfl ?_
                  refine sy_sn ?_
                  refine sy_nx ?_
                  first
                    | exact sy_next ⟨(i + 1, tq3, mx3), by omega, by dsimp only; omega, by assumption⟩ (by dsimp only; omega) (by repeat' first | exact Sub.nil | apply Sub.cons | rfl | (simp [lk]; omega)) (fun w h => h.ftail)
                    | exact sy_next ⟨(i + 1, tq3 + 1, m193), by omega, by dsimp only; omega, by assumption⟩ (by dsimp only; omega) (by repeat' first | exact Sub.nil | apply Sub.cons | rfl | (simp [lk]; omega)) (fun w h => (St.dropMid (A := [_]) (h.del b33)).ftail)
                 ·
                  have hcan : t.can u q = true := by simpa using hc13
                  refine sy_skip ?_
                  refine sy_nx ?_
                  refine sy_seq ?_
                  refine sy_tx' [0, 1, 2, 3, 4, 5, 6, 7] rfl ?_
                  refine sy_sq ?_
                  refine sp rfl (PE.move rfl) rfl ?_
                  refine sy_sq ?_
                  refine spL rfl rfl (lhA [_, _, _, _, _, _, _, _, _, _, _] ag26 rfl rfl rfl) rfl ?_
                  refine sy_sq ?_
                  refine spL rfl rfl (lhA [_, _, _] ag23 rfl rfl rfl) rfl ?_
                  refine sy_sq ?_
                  refine sp rfl (PE.move rfl) rfl ?_
                  refine sy_sq ?_
                  refine clV rfl cal56 rfl rfl (c_after t hok u hur r q false ba oa ca (by omega) (by simpa using hq) (can_le hcan) _ _) ?_
                  refine sy_sq ?_
                  refine bsl (out := [_, _, _]) rfl sl85 zl23 rfl rfl rfl rfl rfl rfl (fun b210 => ?_)
                  refine sy_sq ?_
                  refine apO (o') rfl ap85 rfl rfl (rowsH (row := srow (t.next u q false)) rfl) rfl rfl ((by simp only [srows, List.length_map, List.length_singleton]; omega)) rfl (fun o211 => ?_)
                  refine sy_sq ?_
                  refine sp rfl (PE.assign rfl) rfl ?_
                  refine sy_sn ?_
                  refine sy_nx ?_
                  refine sy_seq ?_
                  refine sy_tx' [0, 1, 2, 3, 4] rfl ?_
                  refine sy_sq ?_
                  refine sp rfl (PE.fieldAddr fo23_2 rfl) rfl ?_
                  refine sy_sq ?_
                  refine spL rfl rfl (lh sc3 rfl rfl) rfl ?_
                  refine sy_sq ?_
                  refine sp rfl (PE.fieldAddr fo26_4 rfl) rfl ?_
                  refine sy_sq ?_
                  refine spL rfl rfl (lh sc3 rfl rfl) rfl ?_
                  refine sy_sq ?_
                  refine sp rfl (PE.lss rfl rfl) rfl ?_
                  refine sy_sn ?_
                  refine sy_nx ?_
                  refine sy_cond rfl (fun hc14 => ?_) (fun hc14 => ?_)
                  ·
                   try simp only [decide_eq_true_eq, decide_eq_false_iff_not, Bool.and_eq_true, Bool.or_eq_true, Bool.not_eq_true', Int.not_le, Int.not_lt] at hc14
                   
                   refine sy_tx' [0, 1, 2, 3, 4, 5, 6, 7] rfl ?_
                   refine sy_sq ?_
                   refine sp rfl (PE.move rfl) rfl ?_
                   refine sy_sq ?_
                   refine spL rfl rfl (lhA [_, _, _, _, _, _, _, _, _, _, _] ag26 rfl rfl rfl) rfl ?_
                   refine sy_sq ?_
                   refine spL rfl rfl (lhA [_, _, _] ag23 rfl rfl rfl) rfl ?_
                   refine sy_sq ?_
                   refine sp rfl (PE.move rfl) rfl ?_
                   refine sy_sq ?_
                   refine clV rfl cal56 rfl rfl (c_after t hok u hur r q true ba oa ca (by omega) (by simpa using hq) (can_le hcan) _ _) ?_
                   refine sy_sq ?_
                   refine bsl (out := [_, _, _]) rfl sl85 zl23 rfl rfl rfl rfl rfl rfl (fun b222 => ?_)
                   refine sy_sq ?_
                   refine apO (o211) rfl ap85 rfl rfl (rowsH (row := srow (t.next u q true)) rfl) rfl rfl ((by simp only [srows, List.length_append, List.length_map, List.length_singleton]; omega)) rfl (fun o223 => ?_)
                   refine sy_sq ?_
                   refine sp rfl (PE.assign rfl) rfl ?_
                   refine sy_sn ?_
                   refine sy_bn ?_
                   refine sy_nx ?_
                   refine sy_tx' [0, 1] rfl ?_
                   refine sy_sq ?_
                   refine sp rfl (PE.add rfl rfl (by omega)) rfl ?_
                   refine sy_sq ?_
                   refine sp rfl (PE.move rfl) rfl ?_
                   refine sy_sn ?_
                   refine sy_nx ?_
                   refine sy_pull bh ?_
                   first
                     | exact sy_next ⟨⟨(m + 1, N ++ [t.next u q false] ++ [t.next u q true]), by omega, trs_two hN hu hcan, trs_r (trs_r hNr (next_right hok hur hqm hcan (by simp))) (next_right hok hur hqm hcan (fun _ => by omega)), by simp; omega⟩, o223.cast (by simp [srows])⟩ (by dsimp only; omega) (by repeat' first | exact Sub.nil | apply Sub.cons | rfl | (simp [lk]; omega)) (fun w h => ((h.del b222).del b210).del b33)
                     | exact sy_next ⟨⟨(m + 1, N ++ [t.next u q false]), by omega, trs_one hN hu hcan (by omega), trs_r hNr (next_right hok hur hqm hcan (by simp)), by simp; omega⟩, o211.cast (by simp [srows])⟩ (by dsimp only; omega) (by repeat' first | exact Sub.nil | apply Sub.cons | rfl | (simp [lk]; omega)) (fun w h => (h.del b210).del b33)
                  ·
                   try simp only [decide_eq_true_eq, decide_eq_false_iff_not, Bool.and_eq_true, Bool.or_eq_true, Bool.not_eq_true', Int.not_le, Int.not_lt] at hc14
                   
                   refine sy_skip ?_
                   refine sy_bn ?_
                   refine sy_nx ?_
                   refine sy_tx' [0, 1] rfl ?_
                   refine sy_sq ?_
                   refine sp rfl (PE.add rfl rfl (by omega)) rfl ?_
                   refine sy_sq ?_
                   refine sp rfl (PE.move rfl) rfl ?_
                   refine sy_sn ?_
                   refine sy_nx ?_
                   refine sy_pull bh ?_
                   first
                     | exact sy_next ⟨⟨(m + 1, N ++ [t.next u q false] ++ [t.next u q true]), by omega, trs_two hN hu hcan, trs_r (trs_r hNr (next_right hok hur hqm hcan (by simp))) (next_right hok hur hqm hcan (fun _ => by omega)), by simp; omega⟩, o223.cast (by simp [srows])⟩ (by dsimp only; omega) (by repeat' first | exact Sub.nil | apply Sub.cons | rfl | (simp [lk]; omega)) (fun w h => ((h.del b222).del b210).del b33)
                     | exact sy_next ⟨⟨(m + 1, N ++ [t.next u q false]), by omega, trs_one hN hu hcan (by omega), trs_r hNr (next_right hok hur hqm hcan (by simp)), by simp; omega⟩, o211.cast (by simp [srows])⟩ (by dsimp only; omega) (by repeat' first | exact Sub.nil | apply Sub.cons | rfl | (simp [lk]; omega)) (fun w h => (h.del b210).del b33)
                ·
                 try simp only [decide_eq_true_eq, decide_eq_false_iff_not, Bool.and_eq_true, Bool.or_eq_true, Bool.not_eq_true', Int.not_le, Int.not_lt] at hc12
                 obtain rfl : m = L.length := by omega
                 rw [List.take_length] at hN
                 have htr2 := Tr.step (m := n - j) hok (by rwa [show n + 1 - j = n - j + 1 from by omega] at htr) hqm (fun u hu => (hN u hu).1) (fun u hu => (hN u hu).2)
                 obtain ⟨an, cn, he, hf⟩ := o'.freeze
                 rw [he]
                 refine Sy.heap (H' := _) (fun w h => hf (h.perm (List.perm_middle (l₁ := o'.G) (a := _)).symm)) ?_
                 rw [show (srows N).length = N.length from List.length_map _]
                 clear he hf
                 refine sy_exit ?_
                 refine sy_tx ?_
                 refine sy_tx ?_
                 refine sy_bx ?_
                 refine sy_nx ?_
                 refine sy_seq ?_
                 refine sy_seq ?_
                 refine sy_tx' [0, 1] rfl ?_
                 refine sy_sq ?_
                 refine sp rfl (PE.move rfl) rfl ?_
                 refine sy_sq ?_
                 refine sp rfl (PE.not rfl) rfl ?_
                 refine sy_sn ?_
                 refine sy_nx ?_
                 refine sy_cond rfl (fun hc15 => ?_) (fun hc15 => ?_)
                 ·
                  exact absurd hc15 (by simp)
                 ·
                  refine sy_skip ?_
                  refine sy_nx ?_
                  refine sy_draw [0, 0, 0, 4, 0, 28, 60, 124, 0, 256, 0, 1792, 3840, 7936, 16380, 32766, 1, 131071] (.tk 0 (.tk 1 (.tk 2 (.ld 3 (.tk 4 (.tk 5 (.tk 6 (.ld 7 (.tk 8 (.ld 9 (.tk 10 (.tk 11 (.tk 12 (.ld 13 (.tk 14 (.tk 15 (.tk 16 (.tk 17 .done)))))))))))))))))) mixed (by kernel_rfl) ?_
                  refine tk rfl (PE.move rfl) rfl ?_
                  refine tk rfl (PE.move rfl) rfl ?_
                  refine tk rfl (PE.fieldAddr fo26_8 rfl) rfl ?_
                  refine ld rfl rfl (lh sc24 rfl rfl) rfl ?_
                  refine tk rfl (PE.move rfl) rfl ?_
                  refine tk rfl (PE.indexAddr el24 rfl rfl (by omega) (by omega)) rfl ?_
                  refine tk rfl (PE.fieldAddr fo91_0 rfl) rfl ?_
                  refine ld rfl rfl (lf sc3 (rr_get hq) rfl) rfl ?_
                  refine tk rfl (PE.fieldAddr fo26_8 rfl) rfl ?_
                  refine ld rfl rfl (lh sc24 rfl rfl) rfl ?_
                  refine tk rfl (PE.move rfl) rfl ?_
                  refine tk rfl (PE.indexAddr el24 rfl rfl (by omega) (by omega)) rfl ?_
                  refine tk rfl (PE.fieldAddr fo91_1 rfl) rfl ?_
                  refine ld rfl rfl (lf sc3 (rr_get hq) rfl) rfl ?_
                  refine tk rfl (PE.mul rfl rfl (by omega)) rfl ?_
                  refine tk rfl (PE.add rfl rfl (by omega)) rfl ?_
                  refine tk rfl (PE.assign rfl) rfl ?_
                  refine tk rfl (PE.assign rfl) rfl ?_
                  refine sy_dn ?_
                  refine sy_bn ?_
                  refine sy_nx ?_
                  refine sy_tx' [0, 1] rfl ?_
                  refine sy_sq ?_
                  refine sp rfl (PE.add rfl rfl (by omega)) rfl ?_
                  refine sy_sq ?_
                  refine sp rfl (PE.move rfl) rfl ?_
                  refine sy_sn ?_
                  refine sy_nx ?_
                  exact sy_next ⟨(j + 1, N, sum + q.sacks * q.price, tq3 + 1, m193, an, cn), by omega, by rw [show n + 1 - (j + 1) = n - j from by omega]; exact htr2, hNr, by dsimp only; rw [Nat.pow_succ]; omega, by dsimp only; omega, by dsimp only; omega, by assumption⟩ (by dsimp only; omega) (by repeat' first | exact Sub.nil | apply Sub.cons | rfl | (simp [lk]; omega)) (fun w h => (St.swapf h).ftail)
              ·
               try simp only [decide_eq_true_eq, decide_eq_false_iff_not, Bool.and_eq_true, Bool.or_eq_true, Bool.not_eq_true', Int.not_le, Int.not_lt] at hc11
               obtain rfl : j = n + 1 := by omega
               rw [Nat.sub_self] at htr
               have hfin := htr.fin
               refine sy_exit ?_
               refine sy_tx ?_
               refine sy_tx ?_
               refine sy_bx ?_
               refine sy_nx ?_
               refine sy_seq ?_
               refine sy_tx' [0, 1, 2, 3, 4, 5, 6, 7, 8, 9] rfl ?_
               refine sy_sq ?_
               refine sp rfl (PE.move rfl) rfl ?_
               refine sy_sq ?_
               refine sp rfl (PE.move rfl) rfl ?_
               refine sy_sq ?_
               refine sy_case (t := 245) rfl (fun g245 => ?_) (fun g245 => ?_)
               ·
                refine spG rfl rfl rfl rfl (PE.move rfl) rfl ?_
                refine sy_sq ?_
                refine spG rfl rfl rfl rfl (PE.neq rfl rfl) rfl ?_
                refine sy_sq ?_
                refine spG rfl rfl rfl rfl (PE.move rfl) rfl ?_
                refine sy_sq ?_
                refine sy_case (t := 248) rfl (fun g248 => ?_) (fun g248 => ?_)
                ·
                 exact absurd g248 (by first | (simp; done) | (rw [decide_eq_false (by omega)]; simp))
                ·
                 refine spG rfl rfl rfl rfl (PE.move rfl) rfl ?_
                 refine sy_sq ?_
                 refine spG rfl rfl rfl rfl (PE.move rfl) rfl ?_
                 refine sy_sq ?_
                 refine spG rfl rfl rfl rfl (PE.gtr rfl rfl) rfl ?_
                 refine sy_sq ?_
                 refine spG rfl rfl rfl rfl (PE.pick rfl rfl rfl) rfl ?_
                 refine sy_sq ?_
                 refine sp rfl (PE.pick rfl rfl rfl) rfl ?_
                 refine sy_sn ?_
                 refine sy_nx ?_
                 refine sy_cond rfl (fun hc16 => ?_) (fun hc16 => ?_)
                 ·
                  exact absurd hc16 (by first | (simp; done) | (rw [decide_eq_false (by omega)]; simp))
                 ·
                  refine sy_skip ?_
                  refine sy_bn ?_
                  refine sy_nx ?_
                  refine sy_tx' [0, 1] rfl ?_
                  refine sy_sq ?_
                  refine sp rfl (PE.add rfl rfl (by omega)) rfl ?_
                  refine sy_sq ?_
                  refine sp rfl (PE.move rfl) rfl ?_
                  refine sy_sn ?_
                  refine sy_nx ?_
                  first
                    | exact sy_next ⟨(i + 1, tq3, mx3), by omega, by dsimp only; omega, by assumption⟩ (by dsimp only; omega) (by repeat' first | exact Sub.nil | apply Sub.cons | rfl | (simp [lk]; omega)) (fun w h => h.ftail)
                    | exact sy_next ⟨(i + 1, tq3 + 1, m193), by omega, by dsimp only; omega, by assumption⟩ (by dsimp only; omega) (by repeat' first | exact Sub.nil | apply Sub.cons | rfl | (simp [lk]; omega)) (fun w h => (St.dropMid (A := [_]) (h.del b33)).ftail)
               ·
                exact absurd g245 (by simp)
            ·
             try simp only [decide_eq_true_eq, decide_eq_false_iff_not, Bool.and_eq_true, Bool.or_eq_true, Bool.not_eq_true', Int.not_le, Int.not_lt] at hc10
             
             refine sy_exit ?_
             refine sy_tx ?_
             refine sy_tx ?_
             refine sy_bx ?_
             refine sy_nx ?_
             refine sy_seq ?_
             refine sy_tx' [0, 1] rfl ?_
             refine sy_sq ?_
             refine clV rfl cal16 rfl rfl (c_awake _ _) ?_
             refine sy_sq ?_
             refine sp rfl (PE.assign rfl) rfl ?_
             refine sy_sn ?_
             refine sy_nx ?_
             refine sy_ret ?_
             exact sy_return (vs := [_]) rfl (.cons (RV.tmp rfl) .nil) rfl ⟨rfl, rfl, rfl⟩ (fun _ h => by repeat first | exact h | replace h := St.tail h | replace h := St.ftail h | replace h := St.drop h)
end Go.Proofs.Ytaldphhdkmchhaa
