/-
  Plain mathematics of layer 9 (bread), sixth part: which states last how many bad harvests, said without a program.
-/
import Derived.Test.YtaldphhdkmchhaaMe
namespace Go.Proofs.Ytaldphhdkmchhaa
set_option linter.unusedSimpArgs false
set_option linter.unusedVariables false

/-- Each state of X has a ration that leads to X again after a good harvest, and to B after a bad one. -/
def Clo (t : Twn) (n : Nat) (B X : Sta → Prop) : Prop :=
  ∀ u, X u → u.right t = true ∧ ∃ q ∈ t.rats, t.can u q = true ∧ X (t.next u q false) ∧ (n = 0 ∨ ¬ u.dry < t.run ∨ B (t.next u q true))
/-- The states that last n bad harvests. -/
def Srv (t : Twn) : Nat → Sta → Prop
  | 0 => fun s => ∃ X, Clo t 0 (fun _ => True) X ∧ X s
  | n + 1 => fun s => ∃ X, Clo t (n + 1) (Srv t n) X ∧ X s
def Bf (t : Twn) : Nat → Sta → Prop
  | 0 => fun _ => True
  | n + 1 => Srv t n
theorem srv_iff {t : Twn} {n : Nat} {s : Sta} : Srv t n s ↔ ∃ X, Clo t n (Bf t n) X ∧ X s := by cases n <;> rfl
theorem srv_max {t : Twn} {n : Nat} {X : Sta → Prop} (h : Clo t n (Bf t n) X) {s : Sta} (hs : X s) : Srv t n s := srv_iff.2 ⟨X, h, hs⟩
theorem srv_clo (t : Twn) (n : Nat) : Clo t n (Bf t n) (Srv t n) := fun u hu => by
  obtain ⟨X, hX, hu⟩ := srv_iff.1 hu
  obtain ⟨h1, q, hq, hc, hg, hb⟩ := hX u hu
  exact ⟨h1, q, hq, hc, srv_max hX hg, hb⟩
theorem srv_right {t : Twn} {n : Nat} {s : Sta} (h : Srv t n s) : s.right t = true := (srv_clo t n s h).1
theorem srv_anti {t : Twn} : ∀ {n : Nat} {s : Sta}, Srv t (n + 1) s → Srv t n s
  | 0, s, h => srv_max (X := Srv t 1) (fun u hu => by
      obtain ⟨h1, q, hq, hc, hg, _⟩ := srv_clo t 1 u hu
      exact ⟨h1, q, hq, hc, hg, .inl rfl⟩) h
  | n + 1, s, h => srv_max (X := Srv t (n + 2)) (fun u hu => by
      obtain ⟨h1, q, hq, hc, hg, hb⟩ := srv_clo t (n + 2) u hu
      refine ⟨h1, q, hq, hc, hg, ?_⟩
      rcases hb with hb | hb | hb
      · omega
      · exact .inr (.inl hb)
      · exact .inr (.inr (srv_anti (n := n) hb))) h
theorem srv_le {t : Twn} {s : Sta} {m : Nat} : ∀ {n : Nat}, m ≤ n → Srv t n s → Srv t m s
  | 0, h, hs => by obtain rfl : m = 0 := by omega
                   exact hs
  | n + 1, h, hs => by
    rcases Nat.lt_or_ge m (n + 1) with h1 | h1
    · exact srv_le (n := n) (by omega) (srv_anti hs)
    · obtain rfl : m = n + 1 := by omega
      exact hs

/-! ### what the program finds -/
/-- v is what s lasts, as far as numbers below n are known. -/
def Pn (t : Twn) (n : Nat) (s : Sta) (v : Int) : Prop := (v = 1000000 ∧ ∀ j < n, Srv t j s) ∨ ∃ k : Nat, k < n ∧ v = k - 1 ∧ ¬ Srv t k s ∧ ∀ j < k, Srv t j s
def Mid (t : Twn) (n : Nat) (s : Sta) (v : Int) : Prop := (v = 1000000 ∧ ∀ j < n, Srv t j s) ∨ ∃ k : Nat, k < n + 1 ∧ v = k - 1 ∧ ¬ Srv t k s ∧ ∀ j < k, Srv t j s

theorem keeps_of {t : Twn} (ht : t.ok) {n : Nat} (hn : n ≤ 496) {y : List Int} (hm : ∀ s ∈ sts t, Mid t n s (lat y s)) {s : Sta} (hs : Srv t n s) : (t.rats.any fun q => t.keeps y s q n) = true := by
  obtain ⟨h1, q, hq, hc, hg, hb⟩ := srv_clo t n s hs
  refine List.any_eq_true.2 ⟨q, hq, ?_⟩
  unfold Twn.keeps
  have hg1 : (n : Int) ≤ lat y (t.next s q false) := by
    rcases hm _ (right_sts (srv_right hg)) with ⟨h, _⟩ | ⟨k, hk, h, hno, _⟩
    · omega
    · exact absurd (srv_le (by omega) hg) hno
  have hne : ¬ (n : Int) = 1000000 := by omega
  simp only [hc, hg1, decide_true, Bool.true_and, hne, decide_false, cond_false]
  rcases hb with hb | hb | hb
  · simp [hb]
  · simp [hb]
  · cases n with
    | zero => simp
    | succ m =>
      have hb' : Srv t m (t.next s q true) := hb
      have : ((m + 1 : Nat) : Int) - 1 ≤ lat y (t.next s q true) := by
        rcases hm _ (right_sts (srv_right hb')) with ⟨h, _⟩ | ⟨k, hk, h, hno, _⟩
        · omega
        · rcases Nat.lt_or_ge m k with h2 | h2
          · omega
          · exact absurd (srv_le h2 hb') hno
      have h9 : (m : Int) ≤ lat y (t.next s q true) := by omega
      simp [h9]
theorem step_mid {t : Twn} (ht : t.ok) {n : Nat} (hn : n ≤ 496) {σ : Sv} (hy : σ.y.length = 496) (hm : ∀ s ∈ sts t, Mid t n s (lat σ.y s)) {u : Sta} (hu : u ∈ sts t) : ∀ s ∈ sts t, Mid t n s (lat (σ.step t n u).y s) := by
  intro s hs
  unfold Sv.step
  cases hc : ever σ.y u && !(t.rats.any fun q => t.keeps σ.y u q n) with
  | false => exact hm s hs
  | true =>
    simp only [Bool.and_eq_true, Bool.not_eq_true'] at hc
    simp only [cond_true]
    by_cases he : u.ix = s.ix
    · have := ix_inj ht (sts_right ht hu) (sts_right ht hs) he
      subst this
      rw [lat_set_self (by rw [hy]; exact ix_lt ht (sts_right ht hs))]
      refine .inr ⟨n, by omega, rfl, fun h => ?_, ?_⟩
      · rw [keeps_of ht hn hm h] at hc; cases hc.2
      · have h1 : lat σ.y u = 1000000 := by simpa [ever] using hc.1
        rcases hm u hs with ⟨_, h⟩ | ⟨k, hk, h, _⟩
        · exact h
        · omega
    · rw [lat_set_ne he]; exact hm s hs
theorem fold_mid {t : Twn} (ht : t.ok) {n : Nat} (hn : n ≤ 496) : ∀ (l : List Sta) (σ : Sv), σ.y.length = 496 → (∀ s ∈ l, s ∈ sts t) → (∀ s ∈ sts t, Mid t n s (lat σ.y s)) → ∀ s ∈ sts t, Mid t n s (lat (l.foldl (Sv.step t n) σ).y s)
  | [], _, _, _, h => h
  | u :: l, σ, hy, hl, h => fold_mid ht hn l _ (by rw [step_len]; exact hy) (fun s hs => hl s (by simp [hs])) (step_mid ht hn hy h (hl u (by simp)))
theorem passes_mid {t : Twn} (ht : t.ok) {n : Nat} (hn : n ≤ 496) : ∀ (j : Nat) (σ : Sv), σ.y.length = 496 → (∀ s ∈ sts t, Mid t n s (lat σ.y s)) → ∀ s ∈ sts t, Mid t n s (lat (passes t n j σ).y s)
  | 0, _, _, h => h
  | j + 1, σ, hy, h => fold_mid ht hn (sts t) _ (by rw [passes_len]; exact hy) (fun _ h => h) (passes_mid ht hn j σ hy h)

/-- Where a pass leaves all, each step does. -/
theorem fold_fix {t : Twn} (ht : t.ok) {n : Int} (hn : n ≤ 1000000) : ∀ (l : List Sta) (σ : Sv), σ.y.length = 496 → (∀ s ∈ l, s ∈ sts t) → l.foldl (Sv.step t n) σ = σ → ∀ s ∈ l, σ.step t n s = σ
  | [], _, _, _, _, _, h => by cases h
  | u :: l, σ, hy, hl, h, s, hs => by
    rw [List.foldl_cons] at h
    have hu : σ.step t n u = σ := by
      rcases step_cnt ht hn hy (hl u (by simp)) with h1 | ⟨h1, _⟩
      · exact h1
      · obtain ⟨h2, _⟩ := fold_cnt ht hn l (σ.step t n u) (by rw [step_len]; exact hy) (fun s hs => hl s (by simp [hs]))
        rw [h] at h2
        rcases h2 with h2 | h2
        · rw [← h2] at h1; omega
        · omega
    rw [hu] at h
    rcases List.mem_cons.1 hs with rfl | hs
    · exact hu
    · exact fold_fix ht hn l σ hy (fun s hs => hl s (by simp [hs])) h s hs
theorem fix_any {t : Twn} (ht : t.ok) {n : Int} (hn : n ≤ 1000000) {σ : Sv} (hy : σ.y.length = 496) (h : pass t n σ = σ) {s : Sta} (hs : s ∈ sts t) (he : lat σ.y s = 1000000) : ∃ q ∈ t.rats, t.keeps σ.y s q n = true := by
  have h1 := fold_fix ht hn (sts t) σ hy (fun _ h => h) h s hs
  cases hc : t.rats.any fun q => t.keeps σ.y s q n with
  | true => exact List.any_eq_true.1 hc
  | false =>
    exfalso
    unfold Sv.step at h1
    have he' : ever σ.y s = true := by simp [ever, he]
    rw [he', hc] at h1
    have h2 := congrArg (fun σ => σ.fl.length) h1
    simp at h2
theorem mid_fix {t : Twn} (ht : t.ok) {n : Nat} (hn : n ≤ 496) {σ : Sv} (hy : σ.y.length = 496) (hm : ∀ s ∈ sts t, Mid t n s (lat σ.y s)) (hf : pass t n σ = σ) : ∀ s ∈ sts t, Pn t (n + 1) s (lat σ.y s) := by
  intro s hs
  rcases hm s hs with ⟨h1, h2⟩ | h
  · refine .inl ⟨h1, fun j hj => ?_⟩
    rcases Nat.lt_or_ge j n with h3 | h3
    · exact h2 j h3
    obtain rfl : j = n := by omega
    refine srv_max (X := fun s => s ∈ sts t ∧ lat σ.y s = 1000000) (fun u ⟨hu, hue⟩ => ?_) ⟨hs, h1⟩
    obtain ⟨q, hq, hk⟩ := fix_any ht (by omega) hy hf hu hue
    have hur := sts_right ht hu
    unfold Twn.keeps at hk
    simp only [Bool.and_eq_true, Bool.or_eq_true, decide_eq_true_eq, Bool.not_eq_true', decide_eq_false_iff_not] at hk
    obtain ⟨⟨hc, hg⟩, hb⟩ := hk
    have hgr := right_sts (next_right (bad := false) ht hur hq hc (by simp))
    refine ⟨hur, q, hq, hc, ⟨hgr, ?_⟩, ?_⟩
    · rcases hm _ hgr with ⟨h, _⟩ | ⟨k, hk, h, _⟩
      · exact h
      · omega
    · by_cases hd : u.dry < t.run
      · cases j with
        | zero => exact .inl rfl
        | succ m =>
          right; right
          show Srv t m _
          have hbr := right_sts (next_right (bad := true) ht hur hq hc (fun _ => hd))
          have hb2 : (m : Int) ≤ lat σ.y (t.next u q true) := by
            rcases hb with (hb | hb) | hb
            · omega
            · exact absurd hd hb
            · rw [show decide (((m + 1 : Nat) : Int) = 1000000) = false from by simp; omega, cond_false] at hb
              omega
          rcases hm _ hbr with ⟨_, h⟩ | ⟨k, hk, h, _, h2⟩
          · exact h m (by omega)
          · exact h2 m (by omega)
      · exact .inr (.inl hd)
  · exact .inr h
theorem rd_spec {t : Twn} (ht : t.ok) {n : Nat} {σ : Sv} (h : Rd t n σ) : ∀ s ∈ sts t, Pn t n s (lat σ.y s) := by
  induction h with
  | zero => exact fun s hs => .inl ⟨everY_ever ht hs, fun j hj => by omega⟩
  | next j h h1 h2 ih =>
    rename_i m σ
    obtain ⟨hy, hc, _⟩ := rd_ok ht h
    refine mid_fix ht (by omega) (by rw [passes_len]; exact hy) (passes_mid ht (by omega) j σ hy (fun s hs => ?_)) h1
    rcases ih s hs with h | ⟨k, hk, h⟩
    · exact .inl h
    · exact .inr ⟨k, by omega, h⟩

/-- v is what s lasts. -/
def LS (t : Twn) (s : Sta) (v : Int) : Prop := (v = 1000000 ∧ ∀ n, Srv t n s) ∨ ∃ k : Nat, k ≤ 496 ∧ v = k - 1 ∧ ¬ Srv t k s ∧ ∀ j < k, Srv t j s
theorem LS.uniq {t : Twn} {s : Sta} {v v' : Int} (h : LS t s v) (h' : LS t s v') : v = v' := by
  rcases h with ⟨rfl, h⟩ | ⟨k, _, rfl, hn, hl⟩ <;> rcases h' with ⟨rfl, h'⟩ | ⟨k', _, rfl, hn', hl'⟩
  · rfl
  · exact absurd (h k') hn'
  · exact absurd (h' k) hn
  · rcases Nat.lt_trichotomy k k' with h | h | h
    · exact absurd (hl' k h) hn
    · rw [h]
    · exact absurd (hl k' h) hn'
theorem solv_spec {t : Twn} (ht : t.ok) {σ : Sv} (h : Solv t σ) {s : Sta} (hs : s.right t = true) : LS t s (lat σ.y s) := by
  obtain ⟨n, hr, hf⟩ := h
  obtain ⟨hy, hc, _⟩ := rd_ok ht hr
  have hp := rd_spec ht hr
  have hp1 := mid_fix ht (n := n) (by omega) hy (fun s hs => by
    rcases hp s hs with h | ⟨k, hk, h⟩
    · exact .inl h
    · exact .inr ⟨k, by omega, h⟩) hf
  have hX : ∀ m, ∀ u, (u ∈ sts t ∧ lat σ.y u = 1000000) → Srv t m u := by
    have hclo : ∀ m, (∀ u, (u ∈ sts t ∧ lat σ.y u = 1000000) → Bf t m u) → Clo t m (Bf t m) (fun u => u ∈ sts t ∧ lat σ.y u = 1000000) := by
      intro m hB u ⟨hu, hue⟩
      obtain ⟨q, hq, hk⟩ := fix_any ht (by omega) hy hf hu hue
      have hur := sts_right ht hu
      unfold Twn.keeps at hk
      simp only [Bool.and_eq_true, Bool.or_eq_true, decide_eq_true_eq, Bool.not_eq_true', decide_eq_false_iff_not] at hk
      obtain ⟨⟨hc', hg⟩, hb⟩ := hk
      have hgr := right_sts (next_right (bad := false) ht hur hq hc' (by simp))
      refine ⟨hur, q, hq, hc', ⟨hgr, ?_⟩, ?_⟩
      · rcases hp _ hgr with ⟨h, _⟩ | ⟨k, hk, h, _⟩
        · exact h
        · omega
      · by_cases hd : u.dry < t.run
        · right; right
          have hbr := right_sts (next_right (bad := true) ht hur hq hc' (fun _ => hd))
          refine hB _ ⟨hbr, ?_⟩
          rcases hp _ hbr with ⟨h, _⟩ | ⟨k, hk, h, _⟩
          · exact h
          · exfalso
            rcases hb with (hb | hb) | hb
            · omega
            · exact hb hd
            · rw [show decide ((n : Int) = 1000000) = false from by simp; omega, cond_false] at hb
              omega
        · exact .inr (.inl hd)
    intro m
    induction m with
    | zero => exact fun u hu => srv_max (hclo 0 (fun _ _ => trivial)) hu
    | succ m ih => exact fun u hu => srv_max (hclo (m + 1) (fun u hu => ih u hu)) hu
  rcases hp s (right_sts hs) with ⟨h, _⟩ | ⟨k, hk, h⟩
  · exact .inl ⟨h, fun m => hX m s ⟨right_sts hs, h⟩⟩
  · exact .inr ⟨k, by omega, h⟩

/-- y says of each state what it lasts. -/
def LSA (t : Twn) (y : List Int) : Prop := ∀ s, s.right t = true → LS t s (lat y s)
theorem ls_ge {t : Twn} {y : List Int} (hl : LSA t y) {s : Sta} (hs : s.right t = true) {n : Nat} (hn : n ≤ 1000000) : (n : Int) ≤ lat y s ↔ Srv t n s := by
  rcases hl s hs with ⟨h, h2⟩ | ⟨k, hk, h, hno, h2⟩
  · exact ⟨fun _ => h2 n, fun _ => by omega⟩
  · constructor
    · intro h3; exact h2 n (by omega)
    · intro h3
      rcases Nat.lt_or_ge n k with h4 | h4
      · omega
      · exact absurd (srv_le h4 h3) hno
theorem ls_range {t : Twn} {y : List Int} (hl : LSA t y) {s : Sta} (hs : s.right t = true) : lat y s = 1000000 ∨ (-1 ≤ lat y s ∧ lat y s ≤ 495) := by
  rcases hl s hs with ⟨h, h2⟩ | ⟨k, hk, h, hno, h2⟩
  · exact .inl h
  · exact .inr (by omega)
theorem ls_ever {t : Twn} {y : List Int} (hl : LSA t y) {s : Sta} (hs : s.right t = true) {n : Nat} (hn : 496 ≤ n) (h : Srv t n s) : lat y s = 1000000 := by
  rcases hl s hs with ⟨h1, _⟩ | ⟨k, hk, _, hno, _⟩
  · exact h1
  · exact absurd (srv_le (by omega) h) hno
/-- A state that lasts some number has a ration that keeps it. -/
theorem ls_keeps {t : Twn} {y : List Int} (hl : LSA t y) {s : Sta} (hs : s.right t = true) (h0 : lat y s ≠ -1) : ∃ q ∈ t.rats, t.keeps y s q (lat y s) = true := by
  rcases hl s hs with ⟨h, h2⟩ | ⟨k, hk, h, hno, h2⟩
  · obtain ⟨_, q, hq, hc, hg, hb⟩ := srv_clo t 497 s (h2 497)
    refine ⟨q, hq, ?_⟩
    have e1 := ls_ever hl (srv_right hg) (by omega) hg
    unfold Twn.keeps
    rw [h, hc, e1]
    rcases hb with hb | hb | hb
    · omega
    · simp [hb]
    · have e2 := ls_ever hl (srv_right hb) (n := 496) (by omega) hb
      rw [e2]; simp
  · obtain ⟨m, rfl⟩ : ∃ m, k = m + 1 := ⟨k - 1, by omega⟩
    obtain ⟨_, q, hq, hc, hg, hb⟩ := srv_clo t m s (h2 m (by omega))
    refine ⟨q, hq, ?_⟩
    have e1 := (ls_ge hl (srv_right hg) (n := m) (by omega)).2 hg
    unfold Twn.keeps
    rw [h, hc, show ((m + 1 : Nat) : Int) - 1 = m from by omega]
    have hne : ¬ (m : Int) = 1000000 := by omega
    simp only [e1, decide_true, Bool.true_and, hne, decide_false, cond_false]
    rcases hb with hb | hb | hb
    · simp [hb]
    · simp [hb]
    · cases m with
      | zero => simp
      | succ m =>
        have hb' : Srv t m (t.next s q true) := hb
        have e2 := (ls_ge hl (srv_right hb') (n := m) (by omega)).2 hb'
        simp [e2]
end Go.Proofs.Ytaldphhdkmchhaa
