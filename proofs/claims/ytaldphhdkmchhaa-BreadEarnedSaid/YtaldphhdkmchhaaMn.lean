/-
  Plain mathematics of layer 9 (bread), fourteenth part: the best first ration; rations that are tried.
-/
import Derived.Test.YtaldphhdkmchhaaMm
import Derived.Test.YtaldphhdkmchhaaMd
namespace Go.Proofs.Ytaldphhdkmchhaa
set_option linter.unusedSimpArgs false
set_option linter.unusedVariables false

theorem efQ_ge (t : Twn) (g : Sta → Int) (s : Sta) (b : Int) (q : Rn) : b ≤ efQ t g s b q := by
  unfold efQ
  cases t.can s q <;> cases decide (worstOf t g s q = -1) <;> simp only [cond_true, cond_false] <;> omega
theorem fold_ge (t : Twn) (g : Sta → Int) (s : Sta) : ∀ (l : List Rn) (b : Int), b ≤ l.foldl (efQ t g s) b
  | [], _ => Int.le_refl _
  | q :: l, b => Int.le_trans (efQ_ge t g s b q) (fold_ge t g s l _)
theorem fold_mem {t : Twn} {g : Sta → Int} {s : Sta} {q : Rn} (hc : t.can s q = true) (hw : worstOf t g s q ≠ -1) : ∀ (l : List Rn) (b : Int), q ∈ l → worstOf t g s q + q.sacks * q.price ≤ l.foldl (efQ t g s) b
  | [], _, h => by cases h
  | x :: l, b, h => by
    rw [List.foldl_cons]
    rcases List.mem_cons.1 h with h | h
    · subst h
      refine Int.le_trans ?_ (fold_ge t g s l _)
      unfold efQ
      rw [hc, decide_eq_false hw]
      simp only [cond_true, cond_false]; omega
    · exact fold_mem hc hw l _ h
theorem fold_ex {t : Twn} {g : Sta → Int} {s : Sta} : ∀ (l : List Rn) (b : Int), l.foldl (efQ t g s) b ≠ b → ∃ q ∈ l, t.can s q = true ∧ worstOf t g s q ≠ -1
  | [], _, h => absurd rfl h
  | x :: l, b, h => by
    rw [List.foldl_cons] at h
    by_cases h1 : t.can s x = true ∧ worstOf t g s x ≠ -1
    · exact ⟨x, by simp, h1⟩
    · have e : efQ t g s b x = b := by
        unfold efQ
        cases hc : t.can s x with
        | false => rfl
        | true =>
          rw [decide_eq_true (by false_or_by_contra; exact h1 ⟨hc, by assumption⟩)]; rfl
      rw [e] at h
      obtain ⟨q, hq, h2⟩ := fold_ex l b h
      exact ⟨q, by simp [hq], h2⟩
theorem worst_le {t : Twn} {g : Sta → Int} {s : Sta} {q : Rn} {x : Int} : x ≤ worstOf t g s q ↔ x ≤ g (t.next s q false) ∧ (s.dry < t.run → x ≤ g (t.next s q true)) := by
  unfold worstOf
  by_cases h : s.dry < t.run
  · rw [decide_eq_true h]; simp only [cond_true, h, forall_const]; omega
  · rw [decide_eq_false h]; simp [h]
theorem ef_less {t : Twn} (ht : t.ok) : ∀ (n : Nat) (s : Sta), 0 ≤ ef t (n + 1) s → 0 ≤ ef t n s
  | 0, _, _ => by simp [ef]
  | n + 1, s, h => by
    obtain ⟨q, hq, hc, hw⟩ := fold_ex t.rats (-1) (show t.rats.foldl (efQ t (ef t (n + 1)) s) (-1) ≠ -1 from by have : ef t (n + 1 + 1) s = t.rats.foldl (efQ t (ef t (n + 1)) s) (-1) := rfl; omega)
    have h1 := worst_bd (t := t) (ef_bd ht (n + 1)) s q
    have h2 : 0 ≤ worstOf t (ef t (n + 1)) s q := by omega
    rw [worst_le] at h2
    have h3 : 0 ≤ worstOf t (ef t n) s q := worst_le.2 ⟨ef_less ht n _ h2.1, fun h => ef_less ht n _ (h2.2 h)⟩
    have h4 := fold_mem hc (show worstOf t (ef t n) s q ≠ -1 by omega) t.rats (-1) hq
    have hq1 := ht.rats q hq
    have h5 := mul_bd hq1.1 hq1.2.1 hq1.2.2.1 hq1.2.2.2
    show 0 ≤ t.rats.foldl (efQ t (ef t n) s) (-1)
    omega
theorem ef_now (t : Twn) (v : Sta) : ∀ (n : Nat) (s : Sta), ef { t with now := v } n s = ef t n s
  | 0, _ => rfl
  | n + 1, s => by
    have e : ef { t with now := v } n = ef t n := funext (ef_now t v n)
    show t.rats.foldl (efQ { t with now := v } (ef { t with now := v } n) s) (-1) = t.rats.foldl (efQ t (ef t n) s) (-1)
    rw [e]; rfl
/-- Rations that are tried: with x more in each of the states, no more than is earned for certain. -/
def Tr (t : Twn) (n : Nat) (sum : Int) (m : Nat) (L : List Sta) : Prop := ∀ x, 0 ≤ x → (∀ u ∈ L, x ≤ ef t m u) → sum + x ≤ ef t n t.now
theorem Tr.start (t : Twn) (n : Nat) : Tr t n 0 n [t.now] := fun x _ h => by have := h t.now (by simp); omega
theorem Tr.step {t : Twn} (ht : t.ok) {n m : Nat} {sum : Int} {L L' : List Sta} {q : Rn} (h : Tr t n sum (m + 1) L) (hq : q ∈ t.rats) (hc : ∀ u ∈ L, t.can u q = true)
    (hn : ∀ u ∈ L, t.next u q false ∈ L' ∧ (u.dry < t.run → t.next u q true ∈ L')) : Tr t n (sum + q.sacks * q.price) m L' := fun x hx hL => by
  have hq1 := ht.rats q hq
  have h5 := mul_bd hq1.1 hq1.2.1 hq1.2.2.1 hq1.2.2.2
  have := h (x + q.sacks * q.price) (by omega) (fun u hu => by
    have h1 : x ≤ worstOf t (ef t m) u q := worst_le.2 ⟨hL _ (hn u hu).1, fun h => hL _ ((hn u hu).2 h)⟩
    have h2 := fold_mem (hc u hu) (show worstOf t (ef t m) u q ≠ -1 by omega) t.rats (-1) hq
    show _ ≤ t.rats.foldl (efQ t (ef t m) u) (-1)
    omega)
  omega
theorem Tr.fin {t : Twn} {n : Nat} {sum : Int} {L : List Sta} (h : Tr t n sum 0 L) : sum ≤ ef t n t.now := by
  have := h 0 (by omega) (fun u _ => by simp [ef])
  omega
/-- The best first ration, so far. -/
theorem best_step {t : Twn} (ht : t.ok) {n : Nat} {q : Rn} {F best worst : Int} {found fed : Bool} (hq : q ∈ t.rats) (hc : t.can t.now q = true) (hb : best = max F 0) (hf : found = decide (F ≠ -1)) (hF : -1 ≤ F)
    (hfed : fed = decide (worstOf t (ef t n) t.now q ≠ -1)) (hw : fed = true → worst = worstOf t (ef t n) t.now q) :
    (bif fed && (!found || decide (worst + q.sacks * q.price > best)) then (worst + q.sacks * q.price, true) else (best, found)) = (max (efQ t (ef t n) t.now F q) 0, decide (efQ t (ef t n) t.now F q ≠ -1)) := by
  have hq1 := ht.rats q hq
  have h5 := mul_bd hq1.1 hq1.2.1 hq1.2.2.1 hq1.2.2.2
  have h1 := worst_bd (t := t) (ef_bd ht n) t.now q
  unfold efQ
  rw [hc]
  by_cases hW : worstOf t (ef t n) t.now q = -1
  · rw [decide_eq_true hW]
    subst hfed hf hb
    simp [hW]
  · rw [decide_eq_false hW]
    rw [decide_eq_true hW] at hfed
    have hw2 := hw hfed
    subst hfed hw2 hf hb
    simp only [cond_true, cond_false, Bool.true_and]
    by_cases hF1 : F = -1
    · subst hF1
      simp; omega
    · by_cases h6 : worstOf t (ef t n) t.now q + q.sacks * q.price > max F 0
      · rw [decide_eq_true h6]; simp only [Bool.or_true, cond_true]
        rw [Int.max_eq_right (a := F) (by omega), Int.max_eq_left (by omega), decide_eq_true (by omega)]
      · rw [decide_eq_false h6, decide_eq_true hF1]; simp only [Bool.not_true, Bool.or_false, cond_false]
        rw [Int.max_eq_left (a := F) (b := worstOf t (ef t n) t.now q + q.sacks * q.price) (by omega), decide_eq_true hF1]
end Go.Proofs.Ytaldphhdkmchhaa
