/-
  Plain mathematics of layer 9 (bread), twelfth part: a town that has it better lasts no fewer bad harvests.
-/
import Derived.Test.YtaldphhdkmchhaaMj
namespace Go.Proofs.Ytaldphhdkmchhaa
set_option linter.unusedSimpArgs false
set_option linter.unusedVariables false

theorem check_ok {t : Twn} (h : t.ok) (hb : ∀ i, badAt t.rats i = false) : t.check = 0 := by
  obtain ⟨h1, h2, h3, h4, h5, h6, h7, h8, h9, h10⟩ := h
  have e1 : inb t.rats.length 1 4 = true := by simp only [inb, Bool.and_eq_true, decide_eq_true_eq]; omega
  have e2 : ([t.holds, t.need, t.good, t.bad].all fun n => inb n 0 30) = true := by
    simp only [List.all_cons, List.all_nil, Bool.and_true, inb, Bool.and_eq_true, decide_eq_true_eq]; omega
  have e3 : inb t.patience 0 3 = true := by simp only [inb, Bool.and_eq_true, decide_eq_true_eq]; omega
  have e4 : inb t.run 0 3 = true := by simp only [inb, Bool.and_eq_true, decide_eq_true_eq]; omega
  have e5 : inb t.rot 0 5 = true := by simp only [inb, Bool.and_eq_true, decide_eq_true_eq]; omega
  have e6 : (t.rats.all fun q => inb q.sacks 0 30 && inb q.price 0 100) = true := List.all_eq_true.2 fun q hq => by
    have := h8 q hq
    simp only [inb, Bool.and_eq_true, decide_eq_true_eq]; omega
  have e7 : decide (t.good < t.bad) = false := decide_eq_false (by omega)
  have e8 : (List.range t.rats.length).any (badAt t.rats) = false := List.any_eq_false.2 fun i _ => by rw [hb i]; simp
  unfold Twn.check
  rw [e1, e2, e3, e4, e5, h9, e6, e7, e8]; rfl
/-- t' has it no worse than t. -/
structure Tle (t t' : Twn) : Prop where
  holds : t'.holds = t.holds
  need : t'.need = t.need
  good : t'.good = t.good
  rot : t'.rot = t.rot
  rats : t'.rats = t.rats
  patience : t.patience ≤ t'.patience
  run : t'.run ≤ t.run
  bad : t.bad ≤ t'.bad
structure Sle (s s' : Sta) : Prop where
  stock : s.stock ≤ s'.stock
  short : s'.short ≤ s.short
  dry : s.dry ≤ s'.dry
theorem left_mono {x x' r : Int} (h : x ≤ x') (h0 : 0 ≤ r) (h1 : r ≤ 5) (hx : 0 ≤ x) : x - (x * r + 9) / 10 ≤ x' - (x' * r + 9) / 10 := by
  obtain ⟨d, rfl⟩ : ∃ d, x' = x + d := ⟨x' - x, by omega⟩
  have a := Int.mul_nonneg hx h0
  have b := Int.mul_nonneg (show 0 ≤ d by omega) h0
  have c := Int.mul_le_mul_of_nonneg_left h1 (show 0 ≤ d by omega)
  rw [Int.add_mul]
  generalize x * r = p at *
  generalize d * r = q at *
  omega
theorem can_mono {t t' : Twn} (h : Tle t t') {s s' : Sta} (hs : Sle s s') {q : Rn} (hc : t.can s q = true) : t'.can s' q = true := by
  have h1 := hs.stock
  have h2 := hs.short
  have h3 := h.patience
  simp only [Twn.can, Bool.and_eq_true, Bool.or_eq_true, decide_eq_true_eq, Bool.not_eq_true', decide_eq_false_iff_not, h.need] at hc ⊢
  omega
theorem next_mono {t t' : Twn} (ht : t.ok) (h : Tle t t') {s s' : Sta} (hs : Sle s s') {q : Rn} (hc : t.can s q = true) (bad : Bool) : Sle (t.next s q bad) (t'.next s' q bad) := by
  have h1 := hs.stock
  have h2 := hs.short
  have h3 := hs.dry
  have h4 := h.bad
  have hq := can_le hc
  have hl := left_mono (x := s.stock - q.sacks) (x' := s'.stock - q.sacks) (r := t.rot) (by omega) ht.rot.1 ht.rot.2 (by omega)
  refine ⟨?_, ?_, ?_⟩
  · unfold Twn.next leftOf
    simp only [h.holds, h.rot, h.good]
    cases bad <;> simp only [cond_true, cond_false] <;> omega
  · unfold Twn.next
    simp only [h.need]
    cases decide (q.sacks < t.need) <;> simp only [cond_true, cond_false] <;> omega
  · unfold Twn.next
    simp only
    cases bad <;> simp only [cond_true, cond_false] <;> omega
theorem srv_mono {t t' : Twn} (ht : t.ok) (ht' : t'.ok) (h : Tle t t') : ∀ (n : Nat) {s s' : Sta}, Srv t n s → Sle s s' → s'.right t' = true → Srv t' n s' := by
  have step : ∀ n : Nat, (∀ {s s' : Sta}, Bf t n s → Sle s s' → s'.right t' = true → Bf t' n s') → ∀ {s s' : Sta}, Srv t n s → Sle s s' → s'.right t' = true → Srv t' n s' := by
    intro n ih s s' hs hle hr
    refine srv_max (X := fun u' => ∃ u, Srv t n u ∧ Sle u u' ∧ u'.right t' = true) ?_ ⟨s, hs, hle, hr⟩
    rintro u' ⟨u, hu, hul, hur⟩
    obtain ⟨h1, q, hq, hc, hg, hb⟩ := srv_clo t n u hu
    have hc' := can_mono h hul hc
    have hq' : q ∈ t'.rats := by rw [h.rats]; exact hq
    refine ⟨hur, q, hq', hc', ⟨_, hg, next_mono ht h hul hc false, next_right ht' hur hq' hc' (by simp)⟩, ?_⟩
    have hd := hul.dry
    have hrn := h.run
    rcases hb with hb | hb | hb
    · exact .inl hb
    · exact .inr (.inl (by omega))
    · by_cases hdr : u'.dry < t'.run
      · exact .inr (.inr (ih hb (next_mono ht h hul hc true) (next_right ht' hur hq' hc' (fun _ => hdr))))
      · exact .inr (.inl hdr)
  intro n
  induction n with
  | zero => exact step 0 (fun _ _ _ => trivial)
  | succ n ih => exact step (n + 1) (fun hb hl hr => ih hb hl hr)
theorem lat_mono {t t' : Twn} (ht : t.ok) (ht' : t'.ok) (h : Tle t t') {y y' : List Int} (hl : LSA t y) (hl' : LSA t' y') {s s' : Sta} (hs : s.right t = true) (hle : Sle s s') (hr : s'.right t' = true) : lat y s ≤ lat y' s' := by
  have r1 := ls_range hl hs
  have r2 := ls_range hl' hr
  by_cases h0 : lat y s = -1
  · omega
  · obtain ⟨n, hn⟩ : ∃ n : Nat, lat y s = n := ⟨(lat y s).toNat, by omega⟩
    have h1 := (ls_ge hl hs (n := n) (by omega)).1 (by omega)
    have h2 := (ls_ge hl' hr (n := n) (by omega)).2 (srv_mono ht ht' h n h1 hle hr)
    omega
theorem Tle.refl (t : Twn) : Tle t t := ⟨rfl, rfl, rfl, rfl, rfl, Int.le_refl _, Int.le_refl _, Int.le_refl _⟩
theorem Sle.refl (s : Sta) : Sle s s := ⟨Int.le_refl _, Int.le_refl _, Int.le_refl _⟩
/-- What is made of a sack. -/
structure MadeOk (t : Twn) (hs : Int) : Prop where
  ok : t.check = 0
  holds : 4 ≤ t.holds ∧ t.holds ≤ hs
  patience : t.patience ≤ 2
/-- The five towns that have it better. -/
def betters (t : Twn) (d : Int) (i : Nat) : Twn := match i with
  | 0 => { t with now := ⟨min t.holds (t.now.stock + 1), t.now.short, t.now.dry⟩ }
  | 1 => { t with now := ⟨t.now.stock, t.now.short, min t.run (t.now.dry + 1)⟩ }
  | 2 => { t with patience := min 3 (t.patience + 1) }
  | 3 => { t with run := max t.now.dry (t.run - 1) }
  | _ => { t with bad := min t.good (t.bad + d) }
theorem betters_ok {t : Twn} (h0 : t.check = 0) {d : Int} (hd : 0 ≤ d) (i : Nat) : (betters t d i).ok ∧ (betters t d i).check = 0 ∧ Tle t (betters t d i) ∧ Sle t.now (betters t d i).now := by
  obtain ⟨ht, hb⟩ := ok_of_check h0
  have hn := right_iff.1 ht.now
  obtain ⟨h1, h2, h3, h4, h5, h6, h7, h8, h9, h10⟩ := ht
  have key : (betters t d i).ok ∧ (betters t d i).rats = t.rats ∧ Tle t (betters t d i) ∧ Sle t.now (betters t d i).now := by
    unfold betters
    split
    · refine ⟨⟨h1, h2, h3, h4, h5, h6, h7, h8, right_iff.2 ⟨by simp only; omega, hn.2⟩, h10⟩, rfl, ⟨rfl, rfl, rfl, rfl, rfl, Int.le_refl _, Int.le_refl _, Int.le_refl _⟩, ⟨by simp only; omega, Int.le_refl _, Int.le_refl _⟩⟩
    · refine ⟨⟨h1, h2, h3, h4, h5, h6, h7, h8, right_iff.2 ⟨hn.1, hn.2.1, by simp only; omega⟩, h10⟩, rfl, ⟨rfl, rfl, rfl, rfl, rfl, Int.le_refl _, Int.le_refl _, Int.le_refl _⟩, ⟨Int.le_refl _, Int.le_refl _, by simp only; omega⟩⟩
    · refine ⟨⟨h1, h2, h3, h4, by simp only; omega, h6, h7, h8, right_iff.2 ⟨hn.1, by simp only; omega, hn.2.2⟩, h10⟩, rfl, ⟨rfl, rfl, rfl, rfl, rfl, by simp only; omega, Int.le_refl _, Int.le_refl _⟩, Sle.refl _⟩
    · refine ⟨⟨h1, h2, h3, h4, h5, by simp only; omega, h7, h8, right_iff.2 ⟨hn.1, hn.2.1, by simp only; omega⟩, h10⟩, rfl, ⟨rfl, rfl, rfl, rfl, rfl, Int.le_refl _, by simp only; omega, Int.le_refl _⟩, Sle.refl _⟩
    · refine ⟨⟨h1, h2, h3, by simp only; omega, h5, h6, h7, h8, h9, h10⟩, rfl, ⟨rfl, rfl, rfl, rfl, rfl, Int.le_refl _, Int.le_refl _, by simp only; omega⟩, Sle.refl _⟩
  exact ⟨key.1, check_ok key.1 (fun i => by rw [key.2.1]; exact hb i), key.2.2⟩
theorem betters_lat {t : Twn} (h0 : t.check = 0) {d : Int} (hd : 0 ≤ d) (i : Nat) (hl : LSA t (LY t)) (hl' : LSA (betters t d i) (LY (betters t d i))) : lat (LY t) t.now ≤ lat (LY (betters t d i)) (betters t d i).now := by
  obtain ⟨h1, h2, h3, h4⟩ := betters_ok h0 hd i
  have ht := (ok_of_check h0).1
  exact lat_mono ht h1 h3 hl hl' ht.now h4 h1.now
/-- From the least stock on. -/
theorem need_iff {t : Twn} (ht : t.ok) (hl : LSA t (LY t)) {bads : Int} {k : Nat} (hk : (k : Int) ≤ t.holds) : bads ≤ lat (LY t) ⟨k, t.now.short, t.now.dry⟩ ↔ ∃ m, needO t (LY t) bads = some m ∧ m ≤ k := by
  have hn := right_iff.1 ht.now
  have hr : ∀ j : Nat, (j : Int) ≤ t.holds → Sta.right t ⟨j, t.now.short, t.now.dry⟩ = true := fun j hj => right_iff.2 ⟨⟨by simp, hj⟩, hn.2⟩
  have mono : ∀ i j : Nat, i ≤ j → (j : Int) ≤ t.holds → lat (LY t) ⟨i, t.now.short, t.now.dry⟩ ≤ lat (LY t) ⟨j, t.now.short, t.now.dry⟩ := fun i j hij hj =>
    lat_mono ht ht (Tle.refl t) hl hl (hr i (by omega)) ⟨by simp only; omega, Int.le_refl _, Int.le_refl _⟩ (hr j hj)
  constructor
  · intro h
    have : ∃ m : Nat, m ≤ k ∧ bads ≤ lat (LY t) ⟨m, t.now.short, t.now.dry⟩ ∧ ∀ j : Nat, j < m → ¬ bads ≤ lat (LY t) ⟨j, t.now.short, t.now.dry⟩ := by
      induction k using Nat.strongRecOn with
      | _ k ih =>
        by_cases hx : ∃ j : Nat, j < k ∧ bads ≤ lat (LY t) ⟨j, t.now.short, t.now.dry⟩
        · obtain ⟨j, hj, hb⟩ := hx
          obtain ⟨m, h1, h2⟩ := ih j hj (by omega) hb
          exact ⟨m, by omega, h2⟩
        · exact ⟨k, Nat.le_refl _, h, fun j hj hb => hx ⟨j, hj, hb⟩⟩
    obtain ⟨m, hm, hb, hno⟩ := this
    exact ⟨m, need_hit ht (by omega) hb hno, by omega⟩
  · rintro ⟨m, hm, hle⟩
    false_or_by_contra
    rename_i hno
    have : ∀ j : Nat, j ≤ k → ¬ bads ≤ lat (LY t) ⟨j, t.now.short, t.now.dry⟩ := fun j hj hb => hno (by have := mono j k hj hk; omega)
    unfold needO at hm
    rw [Option.map_eq_some_iff] at hm
    obtain ⟨s, hs, rfl⟩ := hm
    have h1 := List.find?_some hs
    have h2 := right_iff.1 (sts_right ht (List.mem_of_find?_eq_some hs))
    simp only [needP, Bool.and_eq_true, decide_eq_true_eq] at h1
    obtain ⟨a, b, c⟩ := s
    simp only at h1 h2 hle
    obtain ⟨⟨rfl, rfl⟩, h1⟩ := h1
    have e : a = (a.toNat : Int) := by omega
    rw [e] at h1
    exact this a.toNat (by omega) h1
end Go.Proofs.Ytaldphhdkmchhaa
