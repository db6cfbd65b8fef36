/-
  Plain mathematics of layer 9 (bread), third part: shares.
-/
import Derived.Test.YtaldphhdkmchhaaMb
namespace Go.Proofs.Ytaldphhdkmchhaa
set_option linter.unusedSimpArgs false
set_option linter.unusedVariables false

def askE (s : Int) (ws : List Int) : Int := bif decide (8 < ws.length) then 2 else bif !(inb s 0 1000) then 3 else bif !(ws.all fun n => inb n 0 1000) then 3 else 0
structure ShS where
  s : Int
  o : List Int
  g : Bool
def ShS.step (ws : List Int) (σ : ShS) (i : Nat) : ShS := match ws[i]?, σ.o[i]? with
  | some n, some m => bif decide (0 < σ.s) && decide (m < n) then ⟨σ.s - 1, σ.o.set i (m + 1), true⟩ else σ
  | _, _ => σ
def ShS.pass (ws : List Int) (σ : ShS) : ShS := (List.range ws.length).foldl (ShS.step ws) { σ with g := false }
def shIt (ws : List Int) : Nat → ShS → ShS
  | 0, σ => σ
  | j + 1, σ => (shIt ws j σ).pass ws
def shInit (s : Int) (ws : List Int) : ShS := ⟨s, List.replicate ws.length 0, true⟩
/-- What the loops keep. -/
structure ShS.ok (s0 : Int) (ws : List Int) (σ : ShS) : Prop where
  len : σ.o.length = ws.length
  s : 0 ≤ σ.s ∧ σ.s ≤ s0
  m : ∀ (i : Nat) (m n : Int), σ.o[i]? = some m → ws[i]? = some n → 0 ≤ m ∧ m ≤ n

theorem step_ok {s0 : Int} {ws : List Int} {σ : ShS} (h : σ.ok s0 ws) (i : Nat) : (σ.step ws i).ok s0 ws := by
  unfold ShS.step
  split
  · rename_i n m hn hm
    cases hc : decide (0 < σ.s) && decide (m < n) with
    | false => exact h
    | true =>
      simp only [Bool.and_eq_true, decide_eq_true_eq] at hc
      have hs := h.s
      refine ⟨by simp [h.len], by simp only [cond_true]; omega, fun k m' n' hm' hn' => ?_⟩
      simp only [cond_true] at hm'
      by_cases hk : i = k
      · subst hk
        have hi : i < σ.o.length := (List.getElem?_eq_some_iff.1 hm).1
        rw [List.getElem?_set_self hi] at hm'
        cases hm'
        rw [hn] at hn'; cases hn'
        have := h.m i m n hm hn
        omega
      · rw [List.getElem?_set_ne hk] at hm'
        exact h.m k m' n' hm' hn'
  · exact h
theorem step_le (ws : List Int) (σ : ShS) (i : Nat) : (σ.step ws i).s ≤ σ.s ∧ ((σ.step ws i).g = true → σ.g = true ∨ (σ.step ws i).s < σ.s) := by
  unfold ShS.step
  split
  · cases hc : _ && _ <;> simp only [cond_true, cond_false] <;> first | exact ⟨Int.le_refl _, fun h => .inl h⟩ | exact ⟨by omega, fun _ => .inr (by omega)⟩
  · exact ⟨Int.le_refl _, fun h => .inl h⟩
theorem foldS_ok {s0 : Int} {ws : List Int} : ∀ (l : List Nat) (σ : ShS), σ.ok s0 ws → (l.foldl (ShS.step ws) σ).ok s0 ws
  | [], _, h => h
  | i :: l, σ, h => foldS_ok l _ (step_ok h i)
theorem foldS_le (ws : List Int) : ∀ (l : List Nat) (σ : ShS), (l.foldl (ShS.step ws) σ).s ≤ σ.s ∧ ((l.foldl (ShS.step ws) σ).g = true → σ.g = true ∨ (l.foldl (ShS.step ws) σ).s < σ.s)
  | [], _ => ⟨Int.le_refl _, fun h => .inl h⟩
  | i :: l, σ => by
    obtain ⟨h1, h2⟩ := foldS_le ws l (σ.step ws i)
    obtain ⟨h3, h4⟩ := step_le ws σ i
    rw [List.foldl_cons]
    refine ⟨by omega, fun h => ?_⟩
    rcases h2 h with h | h
    · rcases h4 h with h | h
      · exact .inl h
      · exact .inr (by omega)
    · exact .inr (by omega)
theorem passS_ok {s0 : Int} {ws : List Int} {σ : ShS} (h : σ.ok s0 ws) : (σ.pass ws).ok s0 ws := foldS_ok _ _ ⟨h.len, h.s, h.m⟩
theorem shIt_ok {s0 : Int} {ws : List Int} : ∀ (j : Nat) (σ : ShS), σ.ok s0 ws → (shIt ws j σ).ok s0 ws
  | 0, _, h => h
  | j + 1, _, h => passS_ok (shIt_ok j _ h)
theorem shInit_ok {s : Int} {ws : List Int} (h : askE s ws = 0) : (shInit s ws).ok s ws ∧ s ≤ 1000 ∧ (∀ n ∈ ws, 0 ≤ n ∧ n ≤ 1000) ∧ ws.length ≤ 8 := by
  unfold askE at h
  cases h1 : decide (8 < ws.length) <;> rw [h1] at h
  rotate_left
  · cases h
  cases h2 : inb s 0 1000 <;> rw [h2] at h
  · cases h
  cases h3 : ws.all fun n => inb n 0 1000 <;> rw [h3] at h
  · cases h
  simp only [inb, Bool.and_eq_true, decide_eq_true_eq, decide_eq_false_iff_not] at h1 h2
  have h4 : ∀ n ∈ ws, 0 ≤ n ∧ n ≤ 1000 := fun n hn => by
    have := List.all_eq_true.1 h3 n hn
    simpa using this
  refine ⟨⟨by simp [shInit], by simp only [shInit]; omega, fun i m n hm hn => ?_⟩, by omega, h4, by omega⟩
  simp only [shInit, List.getElem?_replicate] at hm
  split at hm <;> cases hm
  have := h4 n (List.mem_of_getElem? hn)
  omega

theorem foldS_fix (ws : List Int) : ∀ (l : List Nat) (σ : ShS), (l.foldl (ShS.step ws) σ).g = false → l.foldl (ShS.step ws) σ = σ
  | [], _, _ => rfl
  | i :: l, σ, h => by
    rw [List.foldl_cons] at h ⊢
    have h1 := foldS_fix ws l _ h
    rw [h1] at h ⊢
    unfold ShS.step at h ⊢
    split
    · rename_i n m hn hm
      rw [hn, hm] at h
      cases hc : decide (0 < σ.s) && decide (m < n) with
      | false => rfl
      | true => simp only [hc, cond_true] at h; cases h
    · rfl
theorem passS_fix {ws : List Int} {σ : ShS} (h : (σ.pass ws).g = false) : σ.pass ws = { σ with g := false } := foldS_fix ws _ _ h
theorem shIt_stay {s : Int} {ws : List Int} {j : Nat} (h : (shIt ws j (shInit s ws)).g = false) : shIt ws (j + 1) (shInit s ws) = shIt ws j (shInit s ws) := by
  cases j with
  | zero => cases h
  | succ j =>
    have h1 : shIt ws (j + 1) (shInit s ws) = { shIt ws j (shInit s ws) with g := false } := passS_fix h
    show (shIt ws (j + 1) (shInit s ws)).pass ws = _
    have h2 : (shIt ws (j + 1) (shInit s ws)).pass ws = (shIt ws j (shInit s ws)).pass ws := by rw [h1]; rfl
    rw [h2]; rfl
theorem shIt_more {s : Int} {ws : List Int} {j : Nat} (h : (shIt ws j (shInit s ws)).g = false) : ∀ k, shIt ws (j + k) (shInit s ws) = shIt ws j (shInit s ws)
  | 0 => rfl
  | k + 1 => by
    have ih := shIt_more h k
    rw [← Nat.add_assoc, shIt_stay (by rw [ih]; exact h), ih]
/-- What is shared out in the end does not depend on when one looks. -/
theorem shIt_uniq {s : Int} {ws : List Int} {j k : Nat} (h : (shIt ws j (shInit s ws)).g = false) (h' : (shIt ws k (shInit s ws)).g = false) : shIt ws j (shInit s ws) = shIt ws k (shInit s ws) := by
  rcases Nat.le_total j k with hle | hle
  · have := shIt_more h (k - j)
    rw [show j + (k - j) = k from by omega] at this
    exact this.symm
  · have := shIt_more h' (j - k)
    rw [show k + (j - k) = j from by omega] at this
    exact this
end Go.Proofs.Ytaldphhdkmchhaa
