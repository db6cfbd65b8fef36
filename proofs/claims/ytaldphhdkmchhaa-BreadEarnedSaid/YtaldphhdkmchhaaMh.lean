/-
  Plain mathematics of layer 9 (bread), eighth part: shares that are fair.
-/
import Derived.Test.YtaldphhdkmchhaaMg
namespace Go.Proofs.Ytaldphhdkmchhaa
set_option linter.unusedSimpArgs false
set_option linter.unusedVariables false

def sharesE (ws sh : List Int) : Int := bif decide (sh.length ≠ ws.length) then 2 else bif !(sh.all fun n => inb n 0 1000) then 3 else 0
/-- What Fair answers: whether, and the error. j: when the loops of Share have ended. -/
def fairR (s : Int) (ws sh : List Int) (j : Nat) : Bool × Int :=
  bif decide (askE s ws ≠ 0) then (false, askE s ws) else bif decide (sharesE ws sh ≠ 0) then (false, sharesE ws sh) else (decide ((shIt ws j (shInit s ws)).o = sh), 0)
/-- One share against the others, as the reference asks. -/
def okAt (ws sh : List Int) (i : Nat) : Bool := decide (sh.getD i 0 ≤ ws.getD i 0) && (decide (ws.getD i 0 ≤ sh.getD i 0) || (List.range ws.length).all fun k => !(decide (sh.getD i 0 + 1 < sh.getD k 0) || (decide (sh.getD k 0 = sh.getD i 0 + 1) && decide (i < k))))
def refFair (s : Int) (ws sh : List Int) : Bool := (List.range ws.length).all (okAt ws sh) && (decide (sh.sum = s) || (decide (sh = ws) && decide (sh.sum ≤ s)))
theorem getD_of {l : List Int} {k : Nat} {x : Int} (h : l[k]? = some x) : l.getD k 0 = x := by simp [List.getD_eq_getElem?_getD, h]
theorem sum_take {l : List Int} {k : Nat} {x : Int} (h : l[k]? = some x) : (l.take (k + 1)).sum = (l.take k).sum + x := by
  rw [List.take_add_one, h, Option.toList_some, List.sum_append]; simp
theorem sum_bd : ∀ {l : List Int}, (∀ n ∈ l, 0 ≤ n ∧ n ≤ 1000) → 0 ≤ l.sum ∧ l.sum ≤ 1000 * l.length
  | [], _ => by simp
  | x :: l, h => by
    have h1 := h x (by simp)
    have h2 := sum_bd (l := l) (fun n hn => h n (by simp [hn]))
    simp only [List.sum_cons, List.length_cons]; push_cast; omega
theorem not_fair {s : Int} {ws sh : List Int} {i : Nat} (hi : i < ws.length) (h : okAt ws sh i = false) : refFair s ws sh = false := by
  have : (List.range ws.length).all (okAt ws sh) = false := by rw [List.all_eq_false]; exact ⟨i, List.mem_range.2 hi, by simp [h]⟩
  unfold refFair; rw [this]; rfl
theorem take_eq {ws sh : List Int} {k : Nat} {x y : Int} (hx : sh[k]? = some x) (hy : ws[k]? = some y) : decide (sh.take (k + 1) = ws.take (k + 1)) = (decide (sh.take k = ws.take k) && decide (x = y)) := by
  have h1 : k < sh.length := (List.getElem?_eq_some_iff.1 hx).1
  have h2 : k < ws.length := (List.getElem?_eq_some_iff.1 hy).1
  rw [List.take_add_one, List.take_add_one, hx, hy, ← Bool.decide_and, decide_eq_decide]
  simp only [Option.toList_some]
  constructor
  · intro h
    have h3 := List.append_inj h (by simp; omega)
    exact ⟨h3.1, by simpa using h3.2⟩
  · rintro ⟨h3, rfl⟩; rw [h3]
theorem ext_getD {a b : List Int} (hl : a.length = b.length) (h : ∀ i, i < a.length → a.getD i 0 = b.getD i 0) : a = b := by
  apply List.ext_getElem hl
  intro i h1 h2
  have := h i h1
  simpa [List.getD_eq_getElem?_getD, h1, h2] using this
theorem sum_le : ∀ {a b : List Int}, a.length = b.length → (∀ i, i < a.length → a.getD i 0 ≤ b.getD i 0) → a.sum ≤ b.sum ∧ (a.sum = b.sum → a = b)
  | [], [], _, _ => ⟨Int.le_refl _, fun _ => rfl⟩
  | [], _ :: _, h, _ => by cases h
  | _ :: _, [], h, _ => by cases h
  | x :: a, y :: b, h, hi => by
    have h0 := hi 0 (by simp)
    simp at h0
    obtain ⟨h1, h2⟩ := sum_le (a := a) (b := b) (by simpa using h) (fun i hh => by have := hi (i + 1) (by simpa using hh); simpa using this)
    simp only [List.sum_cons]
    refine ⟨by omega, fun he => ?_⟩
    obtain rfl : x = y := by omega
    rw [h2 (by omega)]
theorem sum_ne {a b : List Int} (hl : a.length = b.length) (hs : a.sum = b.sum) (hne : a ≠ b) : ∃ i, i < a.length ∧ a.getD i 0 < b.getD i 0 := by
  by_cases h : ∃ i, i < a.length ∧ a.getD i 0 < b.getD i 0
  · exact h
  · exfalso
    have h1 := (sum_le (a := b) (b := a) hl.symm (fun i hi => by
      by_cases h2 : a.getD i 0 < b.getD i 0
      · exact absurd ⟨i, by omega, h2⟩ h
      · omega)).2 hs.symm
    exact hne h1.symm
/-- What fairness says, said plainly. -/
def Fr (ws o : List Int) : Prop := ∀ i, i < ws.length → o.getD i 0 < ws.getD i 0 → ∀ k, k < ws.length → o.getD k 0 ≤ o.getD i 0 + 1 ∧ (o.getD k 0 = o.getD i 0 + 1 → k ≤ i)
theorem fair_iff {s : Int} {ws o : List Int} : refFair s ws o = true ↔ (∀ i, i < ws.length → o.getD i 0 ≤ ws.getD i 0) ∧ Fr ws o ∧ (o.sum = s ∨ (o = ws ∧ o.sum ≤ s)) := by
  unfold refFair okAt Fr
  simp only [Bool.and_eq_true, Bool.or_eq_true, decide_eq_true_eq, List.all_eq_true, List.mem_range, Bool.not_eq_true', Bool.or_eq_false_iff, Bool.and_eq_false_iff, decide_eq_false_iff_not]
  constructor
  · rintro ⟨h, hs⟩
    refine ⟨fun i hi => (h i hi).1, fun i hi hlt k hk => ?_, hs⟩
    rcases (h i hi).2 with h1 | h1
    · omega
    · have := h1 k hk
      omega
  · rintro ⟨h1, h2, hs⟩
    refine ⟨fun i hi => ⟨h1 i hi, ?_⟩, hs⟩
    by_cases hlt : o.getD i 0 < ws.getD i 0
    · right
      intro k hk
      have := h2 i hi hlt k hk
      omega
    · left; omega
theorem fair_uniq {s : Int} {ws a b : List Int} (ha : a.length = ws.length) (hb : b.length = ws.length) (fa : refFair s ws a = true) (fb : refFair s ws b = true) : a = b := by
  obtain ⟨a1, a2, a3⟩ := fair_iff.1 fa
  obtain ⟨b1, b2, b3⟩ := fair_iff.1 fb
  have full : ∀ c : List Int, c.length = ws.length → (∀ i, i < ws.length → c.getD i 0 ≤ ws.getD i 0) → (c.sum = s ∨ (c = ws ∧ c.sum ≤ s)) → ws.sum ≤ s → c = ws := by
    intro c hc c1 c3 hw
    rcases c3 with c3 | c3
    · have h1 := sum_le (a := c) (b := ws) hc (fun i hi => c1 i (by omega))
      exact h1.2 (by omega)
    · exact c3.1
  rcases a3 with a3 | ⟨rfl, a3⟩
  · rcases b3 with b3 | ⟨rfl, b3⟩
    · by_cases he : a = b
      · exact he
      · exfalso
        obtain ⟨i, hi, h1⟩ := sum_ne (ha.trans hb.symm) (by omega) he
        obtain ⟨k, hk, h2⟩ := sum_ne (hb.trans ha.symm) (by omega) (Ne.symm he)
        have := a2 i (by omega) (by have := b1 i (by omega); omega) k (by omega)
        have := b2 k (by omega) (by have := a1 k (by omega); omega) i (by omega)
        have hik : i ≠ k := fun e => by subst e; omega
        omega
    · exact full a ha a1 (.inl a3) b3
  · exact (full b hb b1 b3 a3).symm

/-- The level of the loops: o_i is the least of w_i and j + 1, up to k; and of w_i and j, from k on. -/
def Lev (ws o : List Int) (j : Int) (k : Nat) : Prop := ∀ i, i < ws.length → o.getD i 0 = min (ws.getD i 0) (if i < k then j + 1 else j)
theorem lev_fr {ws o : List Int} {j : Int} {k : Nat} (h : Lev ws o j k) : Fr ws o := by
  intro i hi hlt m hm
  have h1 := h i hi
  have h2 := h m hm
  split at h1 <;> split at h2 <;> omega
def Inv (s0 : Int) (ws : List Int) (j : Int) (k : Nat) (σ : ShS) : Prop := σ.s + σ.o.sum = s0 ∧ (Lev ws σ.o j k ∨ (σ.s = 0 ∧ Fr ws σ.o))
theorem sum_set : ∀ {l : List Int} {k : Nat} {m v : Int}, l[k]? = some m → (l.set k v).sum = l.sum - m + v
  | [], _, _, _, h => by simp at h
  | x :: l, 0, m, v, h => by simp only [List.getElem?_cons_zero, Option.some.injEq] at h; subst h; simp; omega
  | x :: l, k + 1, m, v, h => by
    have := sum_set (l := l) (k := k) (v := v) (by simpa using h)
    simp only [List.set_cons_succ, List.sum_cons, this]; omega
theorem step_inv {s0 : Int} {ws : List Int} {σ : ShS} (hok : σ.ok s0 ws) {j : Int} {k : Nat} (hk : k < ws.length) (h : Inv s0 ws j k σ) : Inv s0 ws j (k + 1) (σ.step ws k) := by
  obtain ⟨n, hn⟩ : ∃ n, ws[k]? = some n := ⟨_, List.getElem?_eq_getElem hk⟩
  obtain ⟨m, hm⟩ : ∃ m, σ.o[k]? = some m := ⟨_, List.getElem?_eq_getElem (by rw [hok.len]; exact hk)⟩
  have hs := hok.s
  unfold ShS.step
  rw [hn, hm]
  obtain ⟨h1, h2⟩ := h
  dsimp only
  cases hc : decide (0 < σ.s) && decide (m < n) with
  | true =>
    simp only [Bool.and_eq_true, decide_eq_true_eq] at hc
    simp only [cond_true]
    rcases h2 with h2 | h2
    · have h3 := h2 k hk
      rw [getD_of hm, getD_of hn, if_neg (by omega)] at h3
      refine ⟨by simp only; rw [sum_set hm]; omega, .inl fun i hi => ?_⟩
      by_cases he : k = i
      · subst he
        rw [if_pos (by omega), getD_of hn, getD_of (List.getElem?_set_self (by rw [hok.len]; exact hk))]
        omega
      · have h4 := h2 i hi
        simp only [List.getD_eq_getElem?_getD, List.getElem?_set_ne he]
        simp only [List.getD_eq_getElem?_getD] at h4
        rw [h4]
        by_cases hlt : i < k
        · rw [if_pos hlt, if_pos (by omega)]
        · rw [if_neg hlt, if_neg (by omega)]
    · omega
  | false =>
    simp only [cond_false]
    refine ⟨h1, ?_⟩
    rcases h2 with h2 | h2
    · by_cases hs0 : σ.s = 0
      · exact .inr ⟨hs0, lev_fr h2⟩
      · have hmn : ¬ m < n := by
          intro h; simp [h] at hc; omega
        left
        intro i hi
        have h4 := h2 i hi
        by_cases he : k = i
        · subst he
          rw [if_neg (by omega), getD_of hm, getD_of hn] at h4
          rw [if_pos (by omega), getD_of hm, getD_of hn]
          omega
        · rw [h4]
          by_cases hlt : i < k
          · rw [if_pos hlt, if_pos (by omega)]
          · rw [if_neg hlt, if_neg (by omega)]
    · exact .inr h2
theorem fold_inv {s0 : Int} {ws : List Int} {j : Int} : ∀ (k : Nat) (σ : ShS), k ≤ ws.length → σ.ok s0 ws → Inv s0 ws j 0 σ → Inv s0 ws j k ((List.range k).foldl (ShS.step ws) σ)
  | 0, _, _, _, h => h
  | k + 1, σ, hk, hok, h => by
    rw [List.range_succ, List.foldl_append]
    exact step_inv (foldS_ok _ _ hok) (by omega) (fold_inv k σ (by omega) hok h)
theorem pass_inv {s0 : Int} {ws : List Int} {σ : ShS} (hok : σ.ok s0 ws) {j : Int} (h : Inv s0 ws j 0 σ) : Inv s0 ws (j + 1) 0 (σ.pass ws) := by
  obtain ⟨h1, h2⟩ := fold_inv ws.length { σ with g := false } (Nat.le_refl _) ⟨hok.len, hok.s, hok.m⟩ h
  refine ⟨h1, ?_⟩
  rcases h2 with h2 | h2
  · left
    intro i hi
    have := h2 i hi
    rw [if_pos hi] at this
    rw [if_neg (by omega)]
    exact this
  · exact .inr h2
theorem shIt_inv {s : Int} {ws : List Int} (h : askE s ws = 0) : ∀ j : Nat, Inv s ws j 0 (shIt ws j (shInit s ws))
  | 0 => by
    obtain ⟨h1, h2, h3, h4⟩ := shInit_ok h
    refine ⟨by show s + (List.replicate ws.length (0 : Int)).sum = s; simp, .inl fun i hi => ?_⟩
    have h5 : ws.getD i 0 = ws[i] := by simp [List.getD_eq_getElem?_getD, hi]
    have h6 := h3 ws[i] (List.getElem_mem hi)
    have h7 : (shInit s ws).o.getD i 0 = 0 := by simp [shInit, List.getD_eq_getElem?_getD, List.getElem?_replicate, hi]
    show (shInit s ws).o.getD i 0 = _
    rw [h7, h5, if_neg (by omega)]
    show (0 : Int) = min ws[i] ((0 : Nat) : Int)
    omega
  | j + 1 => by
    have := pass_inv (shIt_ok j _ (shInit_ok h).1) (shIt_inv h j)
    push_cast
    exact this
/-- The shares that are returned are right, and fair. -/
theorem share_fair {s : Int} {ws : List Int} (h : askE s ws = 0) {j : Nat} (hg : (shIt ws j (shInit s ws)).g = false) : sharesE ws (shIt ws j (shInit s ws)).o = 0 ∧ refFair s ws (shIt ws j (shInit s ws)).o = true := by
  obtain ⟨h1, h2, h3, h4⟩ := shInit_ok h
  have hok := shIt_ok j _ h1
  have hi := shIt_inv h j
  have hi2 := shIt_inv h (j + 1)
  rw [shIt_stay hg] at hi2
  have hle : ∀ i, i < ws.length → 0 ≤ (shIt ws j (shInit s ws)).o.getD i 0 ∧ (shIt ws j (shInit s ws)).o.getD i 0 ≤ ws.getD i 0 := fun i hi' => by
    obtain ⟨n, hn⟩ : ∃ n, ws[i]? = some n := ⟨_, List.getElem?_eq_getElem hi'⟩
    obtain ⟨m, hm⟩ : ∃ m, (shIt ws j (shInit s ws)).o[i]? = some m := ⟨_, List.getElem?_eq_getElem (by rw [hok.len]; exact hi')⟩
    rw [getD_of hn, getD_of hm]
    exact hok.m i m n hm hn
  have hs := hok.s
  refine ⟨?_, fair_iff.2 ⟨fun i hi' => (hle i hi').2, ?_, ?_⟩⟩
  · unfold sharesE
    have e1 : decide ((shIt ws j (shInit s ws)).o.length ≠ ws.length) = false := by simp [hok.len]
    have e2 : ((shIt ws j (shInit s ws)).o.all fun n => inb n 0 1000) = true := List.all_eq_true.2 fun n hn => by
      obtain ⟨i, hi'⟩ := List.getElem?_of_mem hn
      have hlt : i < ws.length := by rw [← hok.len]; exact (List.getElem?_eq_some_iff.1 hi').1
      obtain ⟨w, hw⟩ : ∃ w, ws[i]? = some w := ⟨_, List.getElem?_eq_getElem hlt⟩
      have := hok.m i n w hi' hw
      have := h3 w (List.mem_of_getElem? hw)
      simp only [inb, Bool.and_eq_true, decide_eq_true_eq]; omega
    rw [e1, e2]; rfl
  · rcases hi.2 with h5 | h5
    · exact lev_fr h5
    · exact h5.2
  · rcases hi.2 with h5 | h5
    · rcases hi2.2 with h6 | h6
      · right
        have e : (shIt ws j (shInit s ws)).o = ws := ext_getD hok.len fun i hi' => by
          have a := h5 i (by rw [hok.len] at hi'; exact hi')
          have b := h6 i (by rw [hok.len] at hi'; exact hi')
          rw [if_neg (by omega)] at a b
          push_cast at b
          omega
        exact ⟨e, by have := hi.1; omega⟩
      · left; have := hi.1; omega
    · left; have := hi.1; omega
end Go.Proofs.Ytaldphhdkmchhaa
