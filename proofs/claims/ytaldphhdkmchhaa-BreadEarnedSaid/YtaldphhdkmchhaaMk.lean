/-
  Plain mathematics of layer 9 (bread), eleventh part: fates: what any show, and those that are found.
-/
import Derived.Test.YtaldphhdkmchhaaMj
namespace Go.Proofs.Ytaldphhdkmchhaa
set_option linter.unusedSimpArgs false
set_option linter.unusedVariables false

/-- The least number of a state in a list of fates. -/
def minStep (s : Sta) (o : Option Int) (p : Sta × Int) : Option Int := bif decide (p.1 = s) then some (match o with | none => p.2 | some n => min n p.2) else o
def minB (l : List (Sta × Int)) (s : Sta) : Option Int := l.foldl (minStep s) none
def leO (o : Option Int) (m : Int) : Bool := match o with | none => false | some n => decide (n ≤ m)
theorem minB_snoc (l : List (Sta × Int)) (p : Sta × Int) (s : Sta) : minB (l ++ [p]) s = minStep s (minB l s) p := by simp [minB]
theorem fold_min (s : Sta) (m : Int) : ∀ (l : List (Sta × Int)) (o : Option Int), leO (l.foldl (minStep s) o) m = (leO o m || earlier l s m)
  | [], o => by simp [earlier]
  | p :: l, o => by
    rw [List.foldl_cons, fold_min s m l]
    unfold earlier
    rw [List.any_cons, ← Bool.or_assoc]
    congr 1
    unfold minStep
    cases h : decide (p.1 = s) with
    | false => simp
    | true =>
      cases o with
      | none => simp [leO]
      | some n =>
        simp only [cond_true, leO, Bool.true_and]
        rw [Bool.eq_iff_iff]
        simp
        omega
theorem earlier_min (l : List (Sta × Int)) (s : Sta) (m : Int) : earlier l s m = leO (minB l s) m := by
  have := fold_min s m l none
  simpa [minB, leO] using this.symm
theorem fates_snoc (t : Twn) : ∀ (l pre : List (Sta × Int)) (p : Sta × Int), fatesOk t pre (l ++ [p]) = (fatesOk t pre l && fateOk t (pre ++ l) p)
  | [], pre, p => by simp [fatesOk]
  | x :: l, pre, p => by
    rw [List.cons_append, fatesOk, fatesOk, fates_snoc t l, Bool.and_assoc, List.append_assoc]; rfl
theorem fates_bad {t : Twn} : ∀ {l pre : List (Sta × Int)} {k : Nat} {x : Sta × Int}, l[k]? = some x → fateOk t (pre ++ l.take k) x = false → fatesOk t pre l = false
  | [], _, _, _, h, _ => by simp at h
  | a :: l, pre, 0, x, h, hb => by
    simp only [List.getElem?_cons_zero, Option.some.injEq] at h
    subst h
    rw [fatesOk]
    rw [List.take_zero, List.append_nil] at hb
    rw [hb]; rfl
  | a :: l, pre, k + 1, x, h, hb => by
    rw [fatesOk, fates_bad (l := l) (pre := pre ++ [a]) (k := k) (by simpa using h) (by simpa using hb)]
    simp
/-- What Starves answers. -/
def stR (t : Twn) (l : List (Sta × Int)) : Int × Int :=
  bif decide (t.check ≠ 0) then (0, t.check) else bif decide (496 < l.length) then (0, 2) else bif !(l.all fun p => p.1.right t && inb p.2 0 1000000) then (0, 3) else bif !(fatesOk t [] l) then (0, 8) else match minB l t.now with
  | none => (0, 6)
  | some n => (n, 0)
structure FlOk (t : Twn) (σ : Sv) : Prop where
  len : σ.y.length = 496
  ok : fatesOk t [] σ.fl = true
  rg : ∀ p ∈ σ.fl, p.1.right t = true ∧ 0 ≤ p.2 ∧ p.2 ≤ 1000000
  at_ : ∀ s, s.right t = true → minB σ.fl s = bif ever σ.y s then none else some (lat σ.y s + 1)
theorem FlOk.step {t : Twn} (ht : t.ok) {n : Nat} (hn : n ≤ 496) {σ : Sv} (h : FlOk t σ) {u : Sta} (hu : u.right t = true) : FlOk t (σ.step t n u) := by
  cases hc : ever σ.y u && !(t.rats.any fun q => t.keeps σ.y u q n) with
  | false => have e : σ.step t n u = σ := by unfold Sv.step; rw [hc]; rfl
             rw [e]; exact h
  | true =>
    have e : σ.step t n u = ⟨σ.y.set u.ix (n - 1), σ.fl ++ [(u, (n : Int))]⟩ := by unfold Sv.step; rw [hc]; rfl
    rw [e]
    simp only [Bool.and_eq_true, Bool.not_eq_true', List.any_eq_false] at hc
    obtain ⟨hev, hno⟩ := hc
    have hui := ix_lt ht hu
    refine ⟨by simp [h.len], ?_, ?_, ?_⟩
    · rw [fates_snoc, h.ok, Bool.true_and, List.nil_append]
      refine List.all_eq_true.2 fun q hq => ?_
      cases hcan : t.can u q with
      | false => rfl
      | true =>
        have hk := hno q hq
        have hg := next_right ht hu hq hcan (bad := false) (by simp)
        have key : ∀ (s : Sta) (m : Int), s.right t = true → m ≤ 496 → ¬ m ≤ lat σ.y s → earlier σ.fl s m = true := fun s m hs hm h1 => by
          rw [earlier_min, h.at_ s hs]
          have he : ever σ.y s = false := by unfold ever; rw [decide_eq_false]; omega
          rw [he]
          simp only [cond_false, leO, decide_eq_true_eq]
          omega
        simp only [Bool.not_true, Bool.false_or]
        by_cases h1 : (n : Int) ≤ lat σ.y (t.next u q false)
        · simp only [Twn.keeps, hcan, h1, decide_true, Bool.and_true, Bool.true_and, Bool.or_eq_true, decide_eq_true_eq, Bool.not_eq_true', decide_eq_false_iff_not, not_or, Decidable.not_not] at hk
          obtain ⟨⟨h2, h3⟩, h4⟩ := hk
          rw [decide_eq_false (show ¬ (n : Int) = 1000000 by omega)] at h4
          rw [decide_eq_true h3, key _ (n - 1) (next_right ht hu hq hcan (fun _ => h3)) (by omega) h4]
          simp
        · rw [key _ n hg (by omega) h1]; rfl
    · intro p hp
      rcases List.mem_append.1 hp with hp | hp
      · exact h.rg p hp
      · simp only [List.mem_singleton] at hp; subst hp; exact ⟨hu, by omega, by dsimp only; omega⟩
    · intro s hs
      rw [minB_snoc, h.at_ s hs]
      unfold minStep
      by_cases e2 : u = s
      · subst e2
        rw [hev]
        have : ever (σ.y.set u.ix ((n : Int) - 1)) u = false := by unfold ever; rw [lat_set_self (by rw [h.len]; exact hui), decide_eq_false]; omega
        simp only [decide_true, cond_true, this, cond_false, lat_set_self (y := σ.y) (v := (n : Int) - 1) (by rw [h.len]; exact hui)]
        congr 1; omega
      · have hix : u.ix ≠ s.ix := fun e3 => e2 (ix_inj ht hu hs e3)
        simp only [e2, decide_false, cond_false, ever, lat_set_ne hix]
theorem FlOk.fold {t : Twn} (ht : t.ok) {n : Nat} (hn : n ≤ 496) : ∀ (l : List Sta) (σ : Sv), (∀ s ∈ l, s ∈ sts t) → FlOk t σ → FlOk t (l.foldl (Sv.step t n) σ)
  | [], _, _, h => h
  | s :: l, σ, hl, h => FlOk.fold ht hn l _ (fun u hu => hl u (by simp [hu])) (h.step ht hn (sts_right ht (hl s (by simp))))
theorem FlOk.passes {t : Twn} (ht : t.ok) {n : Nat} (hn : n ≤ 496) : ∀ (j : Nat) (σ : Sv), FlOk t σ → FlOk t (passes t n j σ)
  | 0, _, h => h
  | j + 1, σ, h => FlOk.fold ht hn (sts t) _ (fun _ h => h) (FlOk.passes ht hn j σ h)
theorem rd_fl {t : Twn} (ht : t.ok) {n : Nat} {σ : Sv} (h : Rd t n σ) : FlOk t σ := by
  induction h with
  | zero => exact ⟨(rd_ok ht .zero).1, rfl, by simp, fun s hs => by
      have : ever (everY t) s = true := by unfold ever; rw [everY_ever ht (right_sts hs)]; rfl
      rw [this]; rfl⟩
  | next j h _ _ ih => exact ih.passes ht (by have := (rd_ok ht h).2.1; omega) j _
theorem solv_fl {t : Twn} (ht : t.ok) {σ : Sv} (h : Solv t σ) : FlOk t σ ∧ σ.fl.length ≤ 496 := by
  obtain ⟨n, h, _⟩ := h
  exact ⟨rd_fl ht h, by have := (rd_ok ht h).2.2; omega⟩
theorem st_fl {t : Twn} (h0 : t.check = 0) {σ : Sv} (h : Solv t σ) (hn : lat σ.y t.now ≠ 1000000) : stR t σ.fl = (lat σ.y t.now + 1, 0) := by
  have hok := (ok_of_check h0).1
  obtain ⟨hf, hl⟩ := solv_fl hok h
  have h1 : (σ.fl.all fun p => p.1.right t && inb p.2 0 1000000) = true := List.all_eq_true.2 fun p hp => by
    obtain ⟨a, b, c⟩ := hf.rg p hp
    rw [a, Bool.true_and]; simp only [inb, Bool.and_eq_true, decide_eq_true_eq]; exact ⟨b, c⟩
  unfold stR
  rw [h1, hf.ok, hf.at_ _ hok.now, decide_eq_false (show ¬ 496 < σ.fl.length by omega)]
  simp [h0, ever, hn]
/-- What Fates says of its error. -/
noncomputable def fatE (t : Twn) : Int := bif decide (t.check ≠ 0) then t.check else bif decide (lat (LY t) t.now = 1000000) then 6 else 0
end Go.Proofs.Ytaldphhdkmchhaa
