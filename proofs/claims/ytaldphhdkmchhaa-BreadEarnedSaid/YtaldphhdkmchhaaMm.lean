/-
  Plain mathematics of layer 9 (bread), thirteenth part: shares of one sack more, and of a baker who wants more.
-/
import Derived.Test.YtaldphhdkmchhaaMh
namespace Go.Proofs.Ytaldphhdkmchhaa
set_option linter.unusedSimpArgs false
set_option linter.unusedVariables false

structure FA (s : Int) (ws a : List Int) : Prop where
  len : a.length = ws.length
  le : ∀ i, i < ws.length → a.getD i 0 ≤ ws.getD i 0
  fr : Fr ws a
  sum : a.sum = s ∨ (a = ws ∧ a.sum ≤ s)
theorem FA.of {s : Int} {ws a : List Int} (hl : a.length = ws.length) (h : refFair s ws a = true) : FA s ws a := by
  obtain ⟨h1, h2, h3⟩ := fair_iff.1 h
  exact ⟨hl, h1, h2, h3⟩
theorem FA.sum_eq {s : Int} {ws a : List Int} (h : FA s ws a) : a.sum = min s ws.sum := by
  have h1 := (sum_le h.len (fun i hi => h.le i (by rw [← h.len]; exact hi))).1
  rcases h.sum with h2 | ⟨h2, h3⟩
  · omega
  · rw [h2] at h3 ⊢; omega
theorem ex_lt {a b : List Int} (hl : a.length = b.length) (h : a.sum < b.sum) : ∃ i, i < a.length ∧ a.getD i 0 < b.getD i 0 := by
  false_or_by_contra
  rename_i hno
  have := (sum_le hl.symm (fun i hi => by
    false_or_by_contra
    exact hno ⟨i, by omega, by omega⟩)).1
  omega
theorem ex_lt2 {a c : List Int} (hl : a.length = c.length) (h : a.sum ≤ c.sum) {i : Nat} (hi : i < a.length) (hc : c.getD i 0 < a.getD i 0) : ∃ k, k < a.length ∧ a.getD k 0 < c.getD k 0 := by
  false_or_by_contra
  rename_i hno
  have h1 := sum_le hl.symm (fun j hj => by
    false_or_by_contra
    exact hno ⟨j, by omega, by omega⟩)
  have h2 := h1.2 (by omega)
  rw [h2] at hc; omega
/-- Where b has less than a at i, and more at k, both cannot be fair. -/
theorem fair_clash {ws vs a b : List Int} {i k : Nat} (hi : i < ws.length) (hk : k < ws.length) (hlv : vs.length = ws.length) (fa : Fr ws a) (fb : Fr vs b) (hak : a.getD k 0 < ws.getD k 0) (hbi : b.getD i 0 < vs.getD i 0)
    (h1 : b.getD i 0 < a.getD i 0) (h2 : a.getD k 0 < b.getD k 0) : False := by
  have e1 := fb i (by omega) hbi k (by omega)
  have e2 := fa k hk hak i hi
  have e3 := e1.2 (by omega)
  have e4 := e2.2 (by omega)
  obtain rfl : i = k := by omega
  omega
theorem share_next {s : Int} {ws a b : List Int} (ha : FA s ws a) (hb : FA (s + 1) ws b) : (∀ i, i < ws.length → a.getD i 0 ≤ b.getD i 0 ∧ b.getD i 0 ≤ a.getD i 0 + 1) ∧ b.sum - a.sum = min 1 (ws.sum - a.sum) := by
  have sa := ha.sum_eq
  have sb := hb.sum_eq
  have hl : a.length = b.length := by rw [ha.len, hb.len]
  have hle : ∀ i, i < ws.length → a.getD i 0 ≤ b.getD i 0 := by
    intro i hi
    false_or_by_contra
    rename_i hno
    obtain ⟨k, hk, hkl⟩ := ex_lt2 hl (by omega) (i := i) (by rw [ha.len]; exact hi) (by omega)
    rw [ha.len] at hk
    have h1 := ha.le i hi
    have h2 := hb.le k hk
    exact fair_clash hi hk rfl ha.fr hb.fr (by omega) (by omega) (by omega) hkl
  refine ⟨fun i hi => ⟨hle i hi, ?_⟩, by omega⟩
  false_or_by_contra
  rename_i hno
  have hia : i < a.length := by rw [ha.len]; exact hi
  have hg : a[i]? = some (a.getD i 0) := by simp [List.getD, List.getElem?_eq_getElem hia]
  have h1 := (sum_le (a := a.set i (a.getD i 0 + 2)) (b := b) (by simpa using hl) (fun j hj => by
    have hj' : j < ws.length := by rw [← ha.len]; simpa using hj
    by_cases e : i = j
    · subst e
      rw [getD_of (List.getElem?_set_self hia)]; omega
    · have : (a.set i (a.getD i 0 + 2)).getD j 0 = a.getD j 0 := by simp [List.getD, List.getElem?_set_ne e]
      rw [this]; exact hle j hj')).1
  rw [sum_set hg] at h1
  omega
theorem share_up {s d : Int} {ws a c : List Int} {i : Nat} {w : Int} (ha : FA s ws a) (hi : ws[i]? = some w) (hd : 0 ≤ d) (hc : FA s (ws.set i (w + d)) c) : a.getD i 0 ≤ c.getD i 0 := by
  false_or_by_contra
  rename_i hno
  have hil : i < ws.length := (List.getElem?_eq_some_iff.1 hi).1
  have hul : (ws.set i (w + d)).length = ws.length := by simp
  have hui : (ws.set i (w + d)).getD i 0 = w + d := getD_of (List.getElem?_set_self hil)
  have hwi := getD_of hi
  have h1 := ha.le i hil
  have hl : a.length = c.length := by rw [ha.len, hc.len, hul]
  have hs : a.sum ≤ c.sum := by
    rcases hc.sum with h2 | ⟨h2, _⟩
    · have := ha.sum_eq; omega
    · rw [h2, hui] at hno; omega
  obtain ⟨k, hk, hkl⟩ := ex_lt2 hl hs (i := i) (by rw [ha.len]; exact hil) (by omega)
  rw [ha.len] at hk
  have h2 := hc.le k (by rw [hul]; exact hk)
  have hik : i ≠ k := fun e => by subst e; omega
  have huk : (ws.set i (w + d)).getD k 0 = ws.getD k 0 := by simp [List.getD, List.getElem?_set_ne hik]
  exact fair_clash hil hk hul ha.fr hc.fr (by omega) (by omega) (by omega) hkl
end Go.Proofs.Ytaldphhdkmchhaa
