/-
  Plain mathematics of layer 9 (bread): towns, states, years.
-/
namespace Go.Proofs.Ytaldphhdkmchhaa
set_option linter.unusedSimpArgs false
set_option linter.unusedVariables false

structure Rn where
  sacks : Int
  price : Int
  deriving DecidableEq, Repr
structure Sta where
  stock : Int
  short : Int
  dry : Int
  deriving DecidableEq, Repr
structure Twn where
  now : Sta
  holds : Int
  need : Int
  patience : Int
  run : Int
  good : Int
  bad : Int
  rot : Int
  rats : List Rn
  deriving DecidableEq, Repr

/-- A state is one of a town. -/
def Sta.right (t : Twn) (s : Sta) : Bool := (decide (0 ≤ s.stock) && decide (s.stock ≤ t.holds)) && (decide (0 ≤ s.short) && decide (s.short ≤ t.patience)) && (decide (0 ≤ s.dry) && decide (s.dry ≤ t.run))

/-- The state after a year with a ration q. -/
def leftOf (t : Twn) (s : Sta) (q : Rn) : Int := s.stock - q.sacks - ((s.stock - q.sacks) * t.rot + 9) / 10
def Twn.next (t : Twn) (s : Sta) (q : Rn) (bad : Bool) : Sta :=
  ⟨min t.holds (leftOf t s q + bif bad then t.bad else t.good), bif decide (q.sacks < t.need) then s.short + 1 else 0, bif bad then s.dry + 1 else 0⟩
def Twn.can (t : Twn) (s : Sta) (q : Rn) : Bool := decide (q.sacks ≤ s.stock) && (!decide (q.sacks < t.need) || decide (s.short < t.patience))

def badAt (l : List Rn) (i : Nat) : Bool := match l[i]?, l[i + 1]? with
  | some a, some b => decide (a.sacks ≤ b.sacks) || decide (b.price ≤ a.price)
  | _, _ => false
@[reducible] def inb (n lo hi : Int) : Bool := decide (lo ≤ n) && decide (n ≤ hi)
/-- The error of a town. -/
def Twn.check (t : Twn) : Int :=
  bif !(inb t.rats.length 1 4) then 2 else bif !([t.holds, t.need, t.good, t.bad].all fun n => inb n 0 30) then 3
  else bif !(inb t.patience 0 3) then 3 else bif !(inb t.run 0 3) then 3 else bif !(inb t.rot 0 5) then 3 else bif !(t.now.right t) then 3
  else bif !(t.rats.all fun q => inb q.sacks 0 30 && inb q.price 0 100) then 3 else bif decide (t.good < t.bad) then 4 else bif (List.range t.rats.length).any (badAt t.rats) then 4 else 0

/-- A town whose numbers are in their bounds. -/
structure Twn.ok (t : Twn) : Prop where
  holds : 0 ≤ t.holds ∧ t.holds ≤ 30
  need : 0 ≤ t.need ∧ t.need ≤ 30
  good : 0 ≤ t.good ∧ t.good ≤ 30
  bad : 0 ≤ t.bad ∧ t.bad ≤ t.good
  patience : 0 ≤ t.patience ∧ t.patience ≤ 3
  run : 0 ≤ t.run ∧ t.run ≤ 3
  rot : 0 ≤ t.rot ∧ t.rot ≤ 5
  rats : ∀ q ∈ t.rats, 0 ≤ q.sacks ∧ q.sacks ≤ 30 ∧ 0 ≤ q.price ∧ q.price ≤ 100
  now : t.now.right t = true
  many : 1 ≤ t.rats.length ∧ t.rats.length ≤ 4

theorem right_iff {t : Twn} {s : Sta} : s.right t = true ↔ (0 ≤ s.stock ∧ s.stock ≤ t.holds) ∧ (0 ≤ s.short ∧ s.short ≤ t.patience) ∧ (0 ≤ s.dry ∧ s.dry ≤ t.run) := by
  simp [Sta.right, and_assoc]

theorem ok_of_check {t : Twn} (h : t.check = 0) : t.ok ∧ ∀ i, badAt t.rats i = false := by
  unfold Twn.check at h
  cases h1 : inb t.rats.length 1 4 <;> rw [h1] at h
  · cases h
  cases h2 : [t.holds, t.need, t.good, t.bad].all fun n => inb n 0 30 <;> rw [h2] at h
  · cases h
  cases h3 : inb t.patience 0 3 <;> rw [h3] at h
  · cases h
  cases h4 : inb t.run 0 3 <;> rw [h4] at h
  · cases h
  cases h5 : inb t.rot 0 5 <;> rw [h5] at h
  · cases h
  cases h6 : t.now.right t <;> rw [h6] at h
  · cases h
  cases h7 : t.rats.all fun q => inb q.sacks 0 30 && inb q.price 0 100 <;> rw [h7] at h
  · cases h
  cases h8 : decide (t.good < t.bad) <;> rw [h8] at h
  rotate_left
  · cases h
  cases h9 : (List.range t.rats.length).any (badAt t.rats) <;> rw [h9] at h
  rotate_left
  · cases h
  simp only [inb, Bool.and_eq_true, decide_eq_true_eq, List.all_cons, List.all_nil, decide_eq_false_iff_not] at h1 h2 h3 h4 h5 h8
  refine ⟨⟨h2.1, h2.2.1, h2.2.2.1, ⟨h2.2.2.2.1.1, by omega⟩, h3, h4, h5, fun q hq => ?_, h6, by omega⟩, fun i => ?_⟩
  · have := List.all_eq_true.1 h7 q hq
    simp only [inb, Bool.and_eq_true, decide_eq_true_eq] at this
    omega
  · rcases Nat.lt_or_ge i t.rats.length with hi | hi
    · have := List.any_eq_false.1 h9 i (List.mem_range.2 hi)
      simpa using this
    · simp [badAt, List.getElem?_eq_none hi]

theorem rot_bd {x r : Int} (h0 : 0 ≤ x) (h1 : x ≤ 30) (h2 : 0 ≤ r) (h3 : r ≤ 5) : 0 ≤ x * r ∧ x * r ≤ 150 ∧ x * r ≤ x * 5 := by
  have a := Int.mul_nonneg h0 h2
  have b := Int.mul_le_mul_of_nonneg_left h3 h0
  omega

theorem rot_up {x r : Int} (h0 : 0 ≤ x) (h1 : x ≤ 30) (h2 : 0 ≤ r) (h3 : r ≤ 5) : 0 ≤ x - (x * r + 9) / 10 ∨ x = 0 := by
  have := rot_bd h0 h1 h2 h3
  omega
theorem left_nonneg {t : Twn} (ht : t.ok) {s : Sta} {q : Rn} (hs : s.right t = true) (hq : q ∈ t.rats) (hc : q.sacks ≤ s.stock) : 0 ≤ leftOf t s q := by
  have h1 := right_iff.1 hs
  have h2 := ht.rats q hq
  have h3 := ht.holds
  have h4 := rot_bd (x := s.stock - q.sacks) (r := t.rot) (by omega) (by omega) ht.rot.1 ht.rot.2
  unfold leftOf
  by_cases h0 : s.stock - q.sacks = 0
  · rw [h0]; simp
  · omega
/-- The state after a year is one of the town. -/
theorem next_right {t : Twn} (ht : t.ok) {s : Sta} {q : Rn} {bad : Bool} (hs : s.right t = true) (hq : q ∈ t.rats) (hc : t.can s q = true) (hb : bad = true → s.dry < t.run) : (t.next s q bad).right t = true := by
  have h1 := right_iff.1 hs
  have h2 := ht.rats q hq
  have h3 := ht.holds
  have h5 := ht.good
  have h6 := ht.bad
  have hc' : q.sacks ≤ s.stock ∧ (t.need ≤ q.sacks ∨ s.short < t.patience) := by
    simpa [Twn.can] using hc
  have h4 := left_nonneg ht hs hq hc'.1
  rw [right_iff]
  unfold Twn.next
  cases bad
  · simp only [cond_false]
    refine ⟨by omega, ?_, by omega⟩
    by_cases hn : q.sacks < t.need
    · simp only [hn, decide_true, cond_true]; omega
    · simp only [hn, decide_false, cond_false]; omega
  · have := hb rfl
    simp only [cond_true]
    refine ⟨by omega, ?_, by omega⟩
    by_cases hn : q.sacks < t.need
    · simp only [hn, decide_true, cond_true]; omega
    · simp only [hn, decide_false, cond_false]; omega
/-- The number of a state among the cells. -/
def Sta.ix (s : Sta) : Nat := s.stock.toNat * 16 + s.short.toNat * 4 + s.dry.toNat
def lat (y : List Int) (s : Sta) : Int := y.getD s.ix 0
theorem ix_lt {t : Twn} {s : Sta} (ht : t.ok) (h : s.right t = true) : s.ix < 496 := by
  have h1 := right_iff.1 h
  have h2 := ht.holds
  have h3 := ht.patience
  have h4 := ht.run
  unfold Sta.ix; omega
theorem ix_inj {t : Twn} {s u : Sta} (ht : t.ok) (h : s.right t = true) (k : u.right t = true) (e : s.ix = u.ix) : s = u := by
  have h1 := right_iff.1 h
  have k1 := right_iff.1 k
  have h3 := ht.patience
  have h4 := ht.run
  unfold Sta.ix at e
  obtain ⟨a, b, c⟩ := s
  obtain ⟨a', b', c'⟩ := u
  simp only at h1 k1 e
  simp only [Sta.mk.injEq]
  omega
theorem lat_get {y : List Int} {s : Sta} (h : s.ix < y.length) : y[s.ix]? = some (lat y s) := by simp [lat, h]
/-- Whether after a ration a state lasts a number of bad harvests by what is known. -/
def Twn.keeps (t : Twn) (y : List Int) (s : Sta) (q : Rn) (bads : Int) : Bool :=
  t.can s q && decide (bads ≤ lat y (t.next s q false)) && (decide (bads = 0) || !decide (s.dry < t.run) || decide ((bif decide (bads = 1000000) then 1000000 else bads - 1) ≤ lat y (t.next s q true)))

/-- All states of a town. -/
def Twn.nst (t : Twn) : Nat := (t.holds.toNat + 1) * (t.patience.toNat + 1) * (t.run.toNat + 1)
def staAt (t : Twn) (i : Nat) : Sta := ⟨(i / (t.run.toNat + 1) / (t.patience.toNat + 1) : Nat), (i / (t.run.toNat + 1) % (t.patience.toNat + 1) : Nat), (i % (t.run.toNat + 1) : Nat)⟩
def sts (t : Twn) : List Sta := (List.range t.nst).map (staAt t)
theorem sts_len (t : Twn) : (sts t).length = t.nst := by simp [sts]
theorem sts_get {t : Twn} {i : Nat} (h : i < t.nst) : (sts t)[i]? = some (staAt t i) := by simp [sts, h]
theorem staAt_of {t : Twn} {a b c : Nat} (hb : b ≤ t.patience.toNat) (hc : c ≤ t.run.toNat) : staAt t ((a * (t.patience.toNat + 1) + b) * (t.run.toNat + 1) + c) = ⟨a, b, c⟩ := by
  have e1 : ((a * (t.patience.toNat + 1) + b) * (t.run.toNat + 1) + c) / (t.run.toNat + 1) = a * (t.patience.toNat + 1) + b := by
    rw [Nat.mul_comm, Nat.mul_add_div (by omega), Nat.div_eq_of_lt (by omega), Nat.add_zero]
  have e2 : ((a * (t.patience.toNat + 1) + b) * (t.run.toNat + 1) + c) % (t.run.toNat + 1) = c := by
    rw [Nat.mul_comm, Nat.mul_add_mod, Nat.mod_eq_of_lt (by omega)]
  have e3 : (a * (t.patience.toNat + 1) + b) / (t.patience.toNat + 1) = a := by
    rw [Nat.mul_comm, Nat.mul_add_div (by omega), Nat.div_eq_of_lt (by omega), Nat.add_zero]
  have e4 : (a * (t.patience.toNat + 1) + b) % (t.patience.toNat + 1) = b := by
    rw [Nat.mul_comm, Nat.mul_add_mod, Nat.mod_eq_of_lt (by omega)]
  unfold staAt
  rw [e1, e2, e3, e4]
theorem nst_lt {t : Twn} {a b c : Nat} (ha : a ≤ t.holds.toNat) (hb : b ≤ t.patience.toNat) (hc : c ≤ t.run.toNat) : (a * (t.patience.toNat + 1) + b) * (t.run.toNat + 1) + c < t.nst := by
  have h1 : a * (t.patience.toNat + 1) + b + 1 ≤ (t.holds.toNat + 1) * (t.patience.toNat + 1) := by
    have := Nat.mul_le_mul_right (t.patience.toNat + 1) ha
    rw [Nat.add_mul]; omega
  have h2 := Nat.mul_le_mul_right (t.run.toNat + 1) h1
  unfold Twn.nst
  rw [Nat.add_mul] at h2
  omega
theorem sts_right {t : Twn} (ht : t.ok) {s : Sta} (h : s ∈ sts t) : s.right t = true := by
  obtain ⟨i, hi, rfl⟩ := List.mem_map.1 h
  have hi' := List.mem_range.1 hi
  unfold Twn.nst at hi'
  have h1 := ht.holds
  have h2 := ht.patience
  have h3 := ht.run
  have a1 := Nat.mod_lt i (show 0 < t.run.toNat + 1 by omega)
  have a2 := Nat.mod_lt (i / (t.run.toNat + 1)) (show 0 < t.patience.toNat + 1 by omega)
  have a3 : i / (t.run.toNat + 1) / (t.patience.toNat + 1) < t.holds.toNat + 1 := by
    rw [Nat.div_lt_iff_lt_mul (by omega), Nat.div_lt_iff_lt_mul (by omega)]; exact hi'
  rw [right_iff]
  unfold staAt
  simp only
  generalize i / (t.run.toNat + 1) / (t.patience.toNat + 1) = x at *
  generalize i / (t.run.toNat + 1) % (t.patience.toNat + 1) = x2 at *
  generalize i % (t.run.toNat + 1) = x3 at *
  omega
theorem right_sts {t : Twn} {s : Sta} (h : s.right t = true) : s ∈ sts t := by
  have h1 := right_iff.1 h
  have h2 := nst_lt (t := t) (a := s.stock.toNat) (b := s.short.toNat) (c := s.dry.toNat) (by omega) (by omega) (by omega)
  have h3 := sts_get h2
  rw [staAt_of (by omega) (by omega)] at h3
  have := List.mem_of_getElem? h3
  obtain ⟨a, b, c⟩ := s
  simp only at h1 this
  rwa [Int.toNat_of_nonneg h1.1.1, Int.toNat_of_nonneg h1.2.1.1, Int.toNat_of_nonneg h1.2.2.1] at this
end Go.Proofs.Ytaldphhdkmchhaa
