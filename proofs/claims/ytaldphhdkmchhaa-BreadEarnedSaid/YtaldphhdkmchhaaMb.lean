/-
  Plain mathematics of layer 9 (bread), second part: how long all states last is found.
-/
import Derived.Test.YtaldphhdkmchhaaMa
namespace Go.Proofs.Ytaldphhdkmchhaa
set_option linter.unusedSimpArgs false
set_option linter.unusedVariables false

structure Sv where
  y : List Int
  fl : List (Sta × Int)

def ever (y : List Int) (s : Sta) : Bool := decide (lat y s = 1000000)
def cntE (t : Twn) (y : List Int) : Nat := (sts t).countP (ever y)
def Sv.step (t : Twn) (bads : Int) (σ : Sv) (s : Sta) : Sv := bif ever σ.y s && !(t.rats.any fun q => t.keeps σ.y s q bads) then ⟨σ.y.set s.ix (bads - 1), σ.fl ++ [(s, bads)]⟩ else σ
def pass (t : Twn) (bads : Int) (σ : Sv) : Sv := (sts t).foldl (Sv.step t bads) σ
def passes (t : Twn) (bads : Int) : Nat → Sv → Sv
  | 0, σ => σ
  | j + 1, σ => pass t bads (passes t bads j σ)
def everY (t : Twn) : List Int := (sts t).foldl (fun y s => y.set s.ix 1000000) (List.replicate 496 0)
inductive Rd (t : Twn) : Nat → Sv → Prop where
  | zero : Rd t 0 ⟨everY t, []⟩
  | next {n : Nat} {σ : Sv} (j : Nat) (h : Rd t n σ) (h1 : pass t n (passes t n j σ) = passes t n j σ) (h2 : passes t n j σ ≠ σ) : Rd t (n + 1) (passes t n j σ)
/-- What solve leaves. -/
def Solv (t : Twn) (σ : Sv) : Prop := ∃ n : Nat, Rd t n σ ∧ pass t n σ = σ

theorem lat_set_self {y : List Int} {s : Sta} {v : Int} (h : s.ix < y.length) : lat (y.set s.ix v) s = v := by simp [lat, h]
theorem lat_set_ne {y : List Int} {s u : Sta} {v : Int} (h : s.ix ≠ u.ix) : lat (y.set s.ix v) u = lat y u := by
  simp only [lat, List.getD_eq_getElem?_getD, List.getElem?_set_ne h]

theorem countP_lt {α : Type} {p q : α → Bool} : ∀ {l : List α}, (∀ x ∈ l, p x = true → q x = true) → (∃ x ∈ l, q x = true ∧ p x = false) → l.countP p < l.countP q
  | [], _, ⟨_, h, _⟩ => by cases h
  | a :: l, h1, ⟨x, hx, hq, hp⟩ => by
    have hle : l.countP p ≤ l.countP q := List.countP_mono_left fun x hx hp => h1 x (by simp [hx]) hp
    rcases List.mem_cons.1 hx with rfl | hx
    · rw [List.countP_cons_of_pos hq, List.countP_cons_of_neg (by simp [hp])]; omega
    · have := countP_lt (l := l) (fun x hx => h1 x (by simp [hx])) ⟨x, hx, hq, hp⟩
      simp only [List.countP_cons]
      have h3 := h1 a (by simp)
      cases hpa : p a <;> cases hqa : q a <;> simp_all <;> omega

theorem step_len (t : Twn) (n : Int) (σ : Sv) (s : Sta) : (σ.step t n s).y.length = σ.y.length := by
  unfold Sv.step; cases ever σ.y s && !(t.rats.any fun q => t.keeps σ.y s q n) <;> simp
/-- A step leaves all, or one state lasts no longer. -/
theorem step_cnt {t : Twn} (ht : t.ok) {n : Int} (hn : n ≤ 1000000) {σ : Sv} (hy : σ.y.length = 496) {s : Sta} (hs : s ∈ sts t) :
    σ.step t n s = σ ∨ (cntE t (σ.step t n s).y < cntE t σ.y ∧ (σ.step t n s).fl.length = σ.fl.length + 1) := by
  unfold Sv.step
  cases hc : ever σ.y s && !(t.rats.any fun q => t.keeps σ.y s q n) with
  | false => exact .inl rfl
  | true =>
    right
    simp only [Bool.and_eq_true] at hc
    have hix : s.ix < σ.y.length := by rw [hy]; exact ix_lt ht (sts_right ht hs)
    refine ⟨?_, by simp⟩
    refine countP_lt (fun u hu hp => ?_) ⟨s, hs, hc.1, ?_⟩
    · simp only [cond_true] at hp
      by_cases he : s.ix = u.ix
      · have := ix_inj ht (sts_right ht hs) (sts_right ht hu) he
        subst this; exact hc.1
      · simp only [ever, lat_set_ne he] at hp
        exact hp
    · simp only [cond_true, ever, lat_set_self hix]
      simp; omega
theorem fold_len (t : Twn) (n : Int) : ∀ (l : List Sta) (σ : Sv), (l.foldl (Sv.step t n) σ).y.length = σ.y.length
  | [], _ => rfl
  | s :: l, σ => by rw [List.foldl_cons, fold_len t n l, step_len]
theorem fold_cnt {t : Twn} (ht : t.ok) {n : Int} (hn : n ≤ 1000000) : ∀ (l : List Sta) (σ : Sv), σ.y.length = 496 → (∀ s ∈ l, s ∈ sts t) →
    (l.foldl (Sv.step t n) σ = σ ∨ cntE t (l.foldl (Sv.step t n) σ).y < cntE t σ.y) ∧ (l.foldl (Sv.step t n) σ).fl.length + cntE t (l.foldl (Sv.step t n) σ).y ≤ σ.fl.length + cntE t σ.y
  | [], σ, _, _ => ⟨.inl rfl, Nat.le_refl _⟩
  | s :: l, σ, hy, hl => by
    rw [List.foldl_cons]
    have h1 := step_cnt ht hn hy (hl s (by simp))
    obtain ⟨h2, h3⟩ := fold_cnt ht hn l (σ.step t n s) (by rw [step_len]; exact hy) (fun u hu => hl u (by simp [hu]))
    rcases h1 with h1 | ⟨h1, h4⟩
    · rw [h1] at h2 h3 ⊢; exact ⟨h2, h3⟩
    · refine ⟨.inr ?_, by omega⟩
      rcases h2 with h2 | h2
      · rw [h2]; exact h1
      · omega
theorem passes_len (t : Twn) (n : Int) : ∀ (j : Nat) (σ : Sv), (passes t n j σ).y.length = σ.y.length
  | 0, _ => rfl
  | j + 1, σ => by unfold passes; rw [pass, fold_len, passes_len t n j]
theorem passes_cnt {t : Twn} (ht : t.ok) {n : Int} (hn : n ≤ 1000000) : ∀ (j : Nat) (σ : Sv), σ.y.length = 496 →
    (passes t n j σ = σ ∨ cntE t (passes t n j σ).y < cntE t σ.y) ∧ (passes t n j σ).fl.length + cntE t (passes t n j σ).y ≤ σ.fl.length + cntE t σ.y
  | 0, σ, _ => ⟨.inl rfl, Nat.le_refl _⟩
  | j + 1, σ, hy => by
    unfold passes
    obtain ⟨h1, h2⟩ := passes_cnt ht hn j σ hy
    obtain ⟨h3, h4⟩ := fold_cnt ht hn (sts t) (passes t n j σ) (by rw [passes_len]; exact hy) (fun s hs => hs)
    refine ⟨?_, by unfold pass; omega⟩
    unfold pass
    rcases h1 with h1 | h1
    · rw [h1] at h3 ⊢; exact h3
    · right
      rcases h3 with h3 | h3
      · rw [h3]; exact h1
      · omega
/-- If how long states last is as before, all is. -/
theorem passes_same {t : Twn} (ht : t.ok) {n : Int} (hn : n ≤ 1000000) {j : Nat} {σ : Sv} (hy : σ.y.length = 496) (h : (passes t n j σ).y = σ.y) : passes t n j σ = σ := by
  rcases (passes_cnt ht hn j σ hy).1 with h1 | h1
  · exact h1
  · rw [h] at h1; omega
theorem pass_same {t : Twn} (ht : t.ok) {n : Int} (hn : n ≤ 1000000) {σ : Sv} (hy : σ.y.length = 496) (h : (pass t n σ).y = σ.y) : pass t n σ = σ := passes_same (j := 1) ht hn hy h
theorem pass_less {t : Twn} (ht : t.ok) {n : Int} (hn : n ≤ 1000000) {σ : Sv} (hy : σ.y.length = 496) (h : (pass t n σ).y ≠ σ.y) : cntE t (pass t n σ).y < cntE t σ.y := by
  rcases (passes_cnt ht hn 1 σ hy).1 with h1 | h1
  · exact absurd (congrArg Sv.y h1) h
  · exact h1
/-- Where no state lasts for ever, a pass leaves all. -/
theorem pass_zero {t : Twn} {n : Int} {σ : Sv} (h : ∀ s, ever σ.y s = false) : pass t n σ = σ := by
  have : ∀ l : List Sta, l.foldl (Sv.step t n) σ = σ := by
    intro l
    induction l with
    | nil => rfl
    | cons s l ih => rw [List.foldl_cons, show σ.step t n s = σ from by simp [Sv.step, h s], ih]
  exact this _
theorem ever_zero (s : Sta) : ever (List.replicate 496 0) s = false := by
  unfold ever lat
  rw [List.getD_eq_getElem?_getD, List.getElem?_replicate]
  split <;> simp

theorem nst_le {t : Twn} (ht : t.ok) : t.nst ≤ 496 := by
  have h1 := ht.holds
  have h2 := ht.patience
  have h3 := ht.run
  have a := Nat.mul_le_mul (show t.holds.toNat + 1 ≤ 31 by omega) (show t.patience.toNat + 1 ≤ 4 by omega)
  have b := Nat.mul_le_mul a (show t.run.toNat + 1 ≤ 4 by omega)
  exact b
theorem everY_len : ∀ (l : List Sta) (y : List Int), (l.foldl (fun y s => y.set s.ix 1000000) y).length = y.length
  | [], _ => rfl
  | s :: l, y => by rw [List.foldl_cons, everY_len l]; simp
theorem rd_ok {t : Twn} (ht : t.ok) {n : Nat} {σ : Sv} (h : Rd t n σ) : σ.y.length = 496 ∧ n + cntE t σ.y ≤ 496 ∧ σ.fl.length + cntE t σ.y ≤ 496 := by
  have h0 : ∀ y, cntE t y ≤ 496 := fun y => Nat.le_trans (List.countP_le_length) (by rw [sts_len]; exact nst_le ht)
  induction h with
  | zero => exact ⟨by rw [everY, everY_len, List.length_replicate], by simpa using h0 _, by simpa using h0 _⟩
  | next j h h1 h2 ih =>
    rename_i m σ
    obtain ⟨i1, i2, i3⟩ := ih
    obtain ⟨a, b⟩ := passes_cnt (n := (m : Int)) ht (by omega) j σ i1
    refine ⟨by rw [passes_len]; exact i1, ?_, by omega⟩
    rcases a with a | a
    · exact absurd a h2
    · omega

def Rg (n : Int) (v : Int) : Prop := v = 1000000 ∨ (-1 ≤ v ∧ v ≤ n)
theorem fold_rg {t : Twn} (ht : t.ok) {n m : Int} (h0 : 0 ≤ n) (hm : n - 1 ≤ m) : ∀ (l : List Sta) (σ : Sv), σ.y.length = 496 → (∀ s ∈ l, s ∈ sts t) → (∀ s ∈ sts t, Rg m (lat σ.y s)) → ∀ s ∈ sts t, Rg m (lat (l.foldl (Sv.step t n) σ).y s)
  | [], _, _, _, h => h
  | u :: l, σ, hy, hl, h => by
    rw [List.foldl_cons]
    refine fold_rg ht h0 hm l _ (by rw [step_len]; exact hy) (fun s hs => hl s (by simp [hs])) ?_
    intro s hs
    unfold Sv.step
    cases ever σ.y u && !(t.rats.any fun q => t.keeps σ.y u q n) with
    | false => exact h s hs
    | true =>
      simp only [cond_true]
      by_cases he : u.ix = s.ix
      · have := ix_inj ht (sts_right ht (hl u (by simp))) (sts_right ht hs) he
        subst this
        rw [lat_set_self (by rw [hy]; exact ix_lt ht (sts_right ht hs))]
        exact .inr (by omega)
      · rw [lat_set_ne he]; exact h s hs
theorem passes_rg {t : Twn} (ht : t.ok) {n m : Int} (h0 : 0 ≤ n) (hm : n - 1 ≤ m) : ∀ (j : Nat) (σ : Sv), σ.y.length = 496 → (∀ s ∈ sts t, Rg m (lat σ.y s)) → ∀ s ∈ sts t, Rg m (lat (passes t n j σ).y s)
  | 0, _, _, h => h
  | j + 1, σ, hy, h => fold_rg ht h0 hm (sts t) _ (by rw [passes_len]; exact hy) (fun _ h => h) (passes_rg ht h0 hm j σ hy h)
theorem everY_get {t : Twn} (ht : t.ok) : ∀ (l : List Sta) (y : List Int), y.length = 496 → (∀ s ∈ l, s ∈ sts t) → ∀ s ∈ sts t, (s ∈ l ∨ lat y s = 1000000) → lat (l.foldl (fun y s => y.set s.ix 1000000) y) s = 1000000
  | [], _, _, _, _, _, h => by rcases h with h | h; cases h; exact h
  | u :: l, y, hy, hl, s, hs, h => by
    rw [List.foldl_cons]
    refine everY_get ht l _ (by simpa using hy) (fun s hs => hl s (by simp [hs])) s hs ?_
    by_cases he : u.ix = s.ix
    · right
      have := ix_inj ht (sts_right ht (hl u (by simp))) (sts_right ht hs) he
      subst this
      exact lat_set_self (by rw [hy]; exact ix_lt ht (sts_right ht hs))
    · rcases h with h | h
      · rcases List.mem_cons.1 h with rfl | h
        · exact absurd rfl he
        · exact .inl h
      · right; rw [lat_set_ne he]; exact h
theorem everY_ever {t : Twn} (ht : t.ok) {s : Sta} (hs : s ∈ sts t) : lat (everY t) s = 1000000 :=
  everY_get ht (sts t) _ List.length_replicate (fun _ h => h) s hs (.inl hs)
theorem rd_rg {t : Twn} (ht : t.ok) {n : Nat} {σ : Sv} (h : Rd t n σ) : ∀ s ∈ sts t, Rg ((n : Int) - 1) (lat σ.y s) := by
  induction h with
  | zero => exact fun s hs => .inl (everY_ever ht hs)
  | next j h h1 h2 ih =>
    rename_i m σ
    refine passes_rg ht (by omega) (by omega) j σ (rd_ok ht h).1 (fun s hs => ?_)
    rcases ih s hs with h | h
    · exact .inl h
    · exact .inr (by omega)
theorem solv_range {t : Twn} (ht : t.ok) {σ : Sv} (h : Solv t σ) {s : Sta} (hs : s.right t = true) : lat σ.y s = 1000000 ∨ (-1 ≤ lat σ.y s ∧ lat σ.y s ≤ 496) := by
  obtain ⟨n, h, _⟩ := h
  have h1 := rd_ok ht h
  rcases rd_rg ht h s (right_sts hs) with h2 | h2
  · exact .inl h2
  · exact .inr (by omega)
end Go.Proofs.Ytaldphhdkmchhaa
