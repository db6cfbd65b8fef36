/- Walks of the functions of the program, and the laws that join them: what the last theorem of this claim needs, in order. -/
import Derived.Test.YtknoaljnelfklaaGreatDd4
namespace Go.Proofs.YtknoaljnelfklaaGreat
set_option linter.unusedSimpArgs false
set_option linter.unusedVariables false
open Go
theorem and0_iff {a b : Nat} : a &&& b = 0 ↔ ∀ i, (a.testBit i && b.testBit i) = false := by
  constructor
  · intro h i; rw [← Nat.testBit_and, h, Nat.zero_testBit]
  · intro h; exact Nat.eq_of_testBit_eq fun i => by rw [Nat.testBit_and, h, Nat.zero_testBit]
theorem and_odd {a b : Nat} (ha : a % 2 = 1) (hb : b % 2 = 1) : a &&& b ≠ 0 := fun h => by
  have := Nat.and_mod_two_eq_one.2 ⟨ha, hb⟩; rw [h] at this; cases this
theorem and_half {a b : Nat} (h : ¬ (a % 2 = 1 ∧ b % 2 = 1)) : a &&& b = 0 ↔ a / 2 &&& b / 2 = 0 := by
  have h1 : ¬ (a &&& b) % 2 = 1 := fun e => h (Nat.and_mod_two_eq_one.1 e)
  rw [← Nat.and_div_two]; omega
theorem add_or : ∀ (n : Nat) {a b : Nat}, a ≤ n → a &&& b = 0 → a + b = a ||| b
  | 0, a, b, hn, _ => by obtain rfl : a = 0 := by omega
                         simp
  | n + 1, a, b, hn, h => by
    have h0 : ¬ (a % 2 = 1 ∧ b % 2 = 1) := fun e => and_odd e.1 e.2 h
    by_cases ha : a = 0
    · subst ha; simp
    have ih := add_or n (a := a / 2) (b := b / 2) (by omega) ((and_half h0).1 h)
    have h1 := Nat.or_div_two (a := a) (b := b)
    have h2 := Nat.or_mod_two_eq_one (a := a) (b := b)
    rcases Nat.mod_two_eq_zero_or_one a with ea | ea <;> rcases Nat.mod_two_eq_zero_or_one b with eb | eb
    · have : ¬ (a ||| b) % 2 = 1 := fun e => by rcases h2.1 e with e | e <;> omega
      omega
    · have := h2.2 (.inr eb); omega
    · have := h2.2 (.inl ea); omega
    · exact absurd ⟨ea, eb⟩ h0
theorem add_bits {a b : Nat} (h : a &&& b = 0) (i : Nat) : (a + b).testBit i = (a.testBit i || b.testBit i) := by rw [add_or a (Nat.le_refl _) h, Nat.testBit_or]
theorem add_bit {a v : Nat} (h : a.testBit v = false) (i : Nat) : (a + 2 ^ v).testBit i = (a.testBit i || decide (v = i)) := by
  rw [add_bits (and0_iff.2 fun j => ?_), Nat.testBit_two_pow]
  rw [Nat.testBit_two_pow]
  by_cases e : v = j
  · subst e; rw [h]; rfl
  · rw [decide_eq_false e, Bool.and_false]
theorem bits_hi {a n i : Nat} (h : a < 2 ^ n) (hi : n ≤ i) : a.testBit i = false := Nat.testBit_lt_two_pow (Nat.lt_of_lt_of_le h (Nat.pow_le_pow_right (by decide) hi))
theorem bits_ex (p : Nat → Bool) : ∀ n, ∃ t, t < 2 ^ n ∧ ∀ j, t.testBit j = (decide (j < n) && p j)
  | 0 => ⟨0, by decide, fun j => by simp⟩
  | n + 1 => by
    obtain ⟨t, h1, h2⟩ := bits_ex p n
    have hn : t.testBit n = false := by rw [h2]; simp
    cases hp : p n
    · refine ⟨t, by rw [Nat.pow_succ]; omega, fun j => ?_⟩
      rw [h2]
      by_cases e : j = n
      · subst e; simp [hp]
      · rw [show decide (j < n + 1) = decide (j < n) from decide_eq_decide.2 (by omega)]
    · refine ⟨t + 2 ^ n, by rw [Nat.pow_succ]; omega, fun j => ?_⟩
      rw [add_bit hn, h2]
      by_cases e : j = n
      · subst e; simp [hp]
      · rw [show decide (j < n + 1) = decide (j < n) from decide_eq_decide.2 (by omega), decide_eq_false (show ¬ n = j by omega), Bool.or_false]
def agB (miss : Int) (hs : List Hnd) (s : Nat) : Bool := agr miss hs fun i => s.testBit i
theorem agr_cong {miss : Int} {hs : List Hnd} {f g : Nat → Bool} (h : ∀ i < hs.length, f i = g i) : agr miss hs f = agr miss hs g := by unfold agr; rw [boxF_congr h]
def memL (s : Nat) : List Int := ((List.range 6).filter fun i => s.testBit i).map fun (i : Nat) => (i : Int)
theorem flt_map (y : List Nat) (i : Nat) : flt (y.map fun (j : Nat) => (j : Int)) i = decide (i ∈ y) := by
  rw [Bool.eq_iff_iff, decide_eq_true_eq]
  unfold flt
  rw [List.any_eq_true]
  constructor
  · rintro ⟨x, h1, h2⟩
    obtain ⟨j, h3, rfl⟩ := List.mem_map.1 h1
    have := of_decide_eq_true h2
    obtain rfl : i = j := by omega
    exact h3
  · intro h
    exact ⟨i, List.mem_map.2 ⟨i, h, rfl⟩, decide_eq_true rfl⟩
theorem memL_flt {s i : Nat} (hi : i < 6) : flt (memL s) i = s.testBit i := by
  unfold memL
  rw [flt_map, Bool.eq_iff_iff, decide_eq_true_eq, List.mem_filter, List.mem_range]
  exact ⟨fun h => h.2, fun h => ⟨hi, h⟩⟩
theorem srt_same : ∀ {a b : List Nat}, a.Pairwise (· < ·) → b.Pairwise (· < ·) → (∀ x, x ∈ a ↔ x ∈ b) → a = b
  | [], [], _, _, _ => rfl
  | [], y :: b, _, _, h => by have := (h y).2 (by simp); cases this
  | x :: a, [], _, _, h => by have := (h x).1 (by simp); cases this
  | x :: a, y :: b, ha, hb, h => by
    obtain ⟨h1, h2⟩ := List.pairwise_cons.1 ha
    obtain ⟨h3, h4⟩ := List.pairwise_cons.1 hb
    have hxy : x = y := by
      rcases List.mem_cons.1 ((h x).1 (by simp)) with e | e
      · exact e
      · rcases List.mem_cons.1 ((h y).2 (by simp)) with e2 | e2
        · exact e2.symm
        · have := h3 x e; have := h1 y e2; omega
    subst hxy
    rw [srt_same h2 h4 fun z => ?_]
    constructor
    · intro hz
      rcases List.mem_cons.1 ((h z).1 (by simp [hz])) with e | e
      · subst e; exact absurd (h1 z hz) (Nat.lt_irrefl _)
      · exact e
    · intro hz
      rcases List.mem_cons.1 ((h z).2 (by simp [hz])) with e | e
      · subst e; exact absurd (h3 z hz) (Nat.lt_irrefl _)
      · exact e
theorem memL_srt (s : Nat) : ∃ y : List Nat, memL s = (y.map fun (j : Nat) => (j : Int)) ∧ y.Pairwise (· < ·) ∧ ∀ j, j ∈ y ↔ j < 6 ∧ s.testBit j = true :=
  ⟨_, rfl, List.pairwise_lt_range.filter _, fun j => by rw [List.mem_filter, List.mem_range]⟩
theorem memL_of {y : List Nat} {n : Nat} (h6 : n ≤ 6) (hp : y.Pairwise (· < ·)) (hn : ∀ j ∈ y, j < n) : ∃ t, t < 2 ^ n ∧ memL t = (y.map fun (j : Nat) => (j : Int)) ∧ (y ≠ [] → 1 ≤ t) := by
  obtain ⟨t, h1, h2⟩ := bits_ex (fun i => decide (i ∈ y)) n
  have hm : ∀ j, (j < 6 ∧ t.testBit j = true) ↔ j ∈ y := fun j => by
    rw [h2, Bool.and_eq_true, decide_eq_true_eq, decide_eq_true_eq]
    exact ⟨fun h => h.2.2, fun h => ⟨by have := hn j h; omega, hn j h, h⟩⟩
  refine ⟨t, h1, ?_, fun hy => ?_⟩
  · obtain ⟨z, e, h3, h4⟩ := memL_srt t
    rw [e, srt_same h3 hp fun j => (h4 j).trans (hm j)]
  · obtain ⟨j, hj⟩ := List.exists_mem_of_ne_nil _ hy
    have := ((hm j).2 hj).2
    rcases Nat.eq_zero_or_pos t with e | e
    · rw [e, Nat.zero_testBit] at this; cases this
    · exact e
def lexB : List Int → List Int → Bool
  | x :: a, y :: b => bif decide (x ≠ y) then decide (x < y) else lexB a b
  | _, _ => false
def ahB (a b : List Int) : Bool := bif decide (a.length ≠ b.length) then decide (a.length < b.length) else lexB a b
theorem lex_total : ∀ {a b : List Int}, a.length = b.length → lexB a b = false → lexB b a = false → a = b
  | [], [], _, _, _ => rfl
  | [], _ :: _, h, _, _ => by cases h
  | _ :: _, [], h, _, _ => by cases h
  | x :: a, y :: b, h, h1, h2 => by
    unfold lexB at h1 h2
    by_cases e : x = y
    · subst e
      rw [decide_eq_false (by simp)] at h1 h2
      rw [lex_total (by simpa using h) h1 h2]
    · rw [decide_eq_true e] at h1
      rw [decide_eq_true (show y ≠ x from fun h => e h.symm)] at h2
      have h1 := of_decide_eq_false h1
      have h2 := of_decide_eq_false h2
      omega
theorem ah_total {a b : List Int} (h1 : ahB a b = false) (h2 : ahB b a = false) : a = b := by
  unfold ahB at h1 h2
  by_cases e : a.length = b.length
  · rw [decide_eq_false (by simpa using e)] at h1
    rw [decide_eq_false (by simpa using e.symm)] at h2
    exact lex_total e h1 h2
  · rw [decide_eq_true e] at h1
    rw [decide_eq_true (show b.length ≠ a.length from fun h => e h.symm)] at h2
    have h1 := of_decide_eq_false h1
    have h2 := of_decide_eq_false h2
    omega
theorem lex_trans : ∀ {a b c : List Int}, a.length = b.length → b.length = c.length → lexB a b = true → lexB c b = false → lexB a c = true
  | [], _, _, _, _, h, _ => by unfold lexB at h; cases h
  | _ :: _, [], _, h, _, _, _ => by cases h
  | _ :: _, _ :: _, [], _, h, _, _ => by cases h
  | x :: a, y :: b, z :: c, h1, h2, h3, h4 => by
    unfold lexB at h3 h4 ⊢
    by_cases e : z = y
    · subst e
      rw [decide_eq_false (by simp)] at h4
      by_cases e2 : x = z
      · subst e2
        rw [decide_eq_false (by simp)] at h3 ⊢
        exact lex_trans (by simpa using h1) (by simpa using h2) h3 h4
      · rw [decide_eq_true e2] at h3 ⊢; exact h3
    · rw [decide_eq_true e] at h4
      have h4 := of_decide_eq_false h4
      by_cases e2 : x = y
      · subst e2
        rw [decide_eq_true (show x ≠ z from fun h => e h.symm)]
        exact decide_eq_true (by omega)
      · rw [decide_eq_true e2] at h3
        have h3 := of_decide_eq_true h3
        rw [decide_eq_true (show x ≠ z by omega)]
        exact decide_eq_true (by omega)
theorem lex_anti : ∀ {a b : List Int}, lexB a b = true → lexB b a = false
  | [], _, h => by unfold lexB at h; cases h
  | _ :: _, [], h => by unfold lexB at h; cases h
  | x :: a, y :: b, h => by
    unfold lexB at h ⊢
    by_cases e : x = y
    · subst e
      rw [decide_eq_false (by simp)] at h ⊢
      exact lex_anti h
    · rw [decide_eq_true e] at h
      rw [decide_eq_true (show y ≠ x from fun h => e h.symm)]
      have h := of_decide_eq_true h
      exact decide_eq_false (by omega)
theorem ah_anti {a b : List Int} (h : ahB a b = true) : ahB b a = false := by
  unfold ahB at h ⊢
  by_cases e : a.length = b.length
  · rw [decide_eq_false (by simpa using e)] at h
    rw [decide_eq_false (by simpa using e.symm)]
    exact lex_anti h
  · rw [decide_eq_true e] at h
    rw [decide_eq_true (show b.length ≠ a.length from fun h => e h.symm)]
    have h := of_decide_eq_true h
    exact decide_eq_false (by omega)
theorem ah_trans {a b c : List Int} (h1 : ahB a b = true) (h2 : ahB c b = false) : ahB a c = true := by
  unfold ahB at h1 h2 ⊢
  by_cases e : c.length = b.length
  · rw [decide_eq_false (by simpa using e)] at h2
    by_cases e2 : a.length = b.length
    · rw [decide_eq_false (by simpa using e2)] at h1
      rw [decide_eq_false (by simpa [e] using e2)]
      exact lex_trans e2 e.symm h1 h2
    · rw [decide_eq_true e2] at h1
      rw [decide_eq_true (by rw [e]; exact e2), e]; exact h1
  · rw [decide_eq_true e] at h2
    have h2 := of_decide_eq_false h2
    by_cases e2 : a.length = b.length
    · rw [decide_eq_true (by omega)]; exact decide_eq_true (by omega)
    · rw [decide_eq_true e2] at h1
      have h1 := of_decide_eq_true h1
      rw [decide_eq_true (by omega)]; exact decide_eq_true (by omega)
theorem more_srt {ag : List Int → Bool} {n : Nat} : ∀ {r fr : Nat} {l x : List Int}, moreS ag n r l fr = some x → ∃ y : List Nat, x = l ++ (y.map fun (j : Nat) => (j : Int)) ∧ y.length = r ∧ y.Pairwise (· < ·) ∧ (∀ j ∈ y, fr ≤ j ∧ j < n) ∧ ag x = false
  | 0, fr, l, x, h => by
    unfold moreS at h
    cases ha : ag l with
    | true => rw [ha] at h; cases h
    | false => rw [ha] at h; obtain rfl := Option.some.inj h; exact ⟨[], by simp, rfl, List.Pairwise.nil, by simp, ha⟩
  | r + 1, fr, l, x, h => by
    unfold moreS at h
    obtain ⟨i, hi, h1⟩ := List.exists_of_findSome?_eq_some h
    rw [List.mem_range'_1] at hi
    obtain ⟨y, rfl, h2, h3, h4, h5⟩ := more_srt h1
    refine ⟨i :: y, by simp, by simp [h2], List.pairwise_cons.2 ⟨fun j hj => (h4 j hj).1, h3⟩, fun j hj => ?_, h5⟩
    rcases List.mem_cons.1 hj with rfl | hj
    · omega
    · have := h4 j hj; omega
theorem more_first {ag : List Int → Bool} {n : Nat} : ∀ {r fr : Nat} {l x : List Int}, moreS ag n r l fr = some x → ∀ y : List Nat, y.length = r → y.Pairwise (· < ·) → (∀ j ∈ y, fr ≤ j ∧ j < n) → ag (l ++ y.map fun (j : Nat) => (j : Int)) = false → ∃ z, x = l ++ z ∧ lexB (y.map fun (j : Nat) => (j : Int)) z = false
  | 0, fr, l, x, h, y, hy, _, _, _ => by
    obtain rfl := List.eq_nil_of_length_eq_zero hy
    unfold moreS at h
    cases ha : ag l with
    | true => rw [ha] at h; cases h
    | false => rw [ha] at h; obtain rfl := Option.some.inj h; exact ⟨[], by simp, rfl⟩
  | r + 1, fr, l, x, h, [], hy, _, _, _ => by cases hy
  | r + 1, fr, l, x, h, j :: y, hy, hp, hb, ha => by
    unfold moreS at h
    obtain ⟨i, h1, h2, h3, h4⟩ := find_range _ _ h
    have hj := hb j (by simp)
    obtain ⟨h5, h6⟩ := List.pairwise_cons.1 hp
    have hb2 : ∀ q ∈ y, j + 1 ≤ q ∧ q < n := fun q hq => ⟨h5 q hq, (hb q (by simp [hq])).2⟩
    have hyr : y.length = r := by simpa using hy
    have ha2 : ag ((l ++ [(j : Int)]) ++ y.map fun (j : Nat) => (j : Int)) = false := by simpa using ha
    rcases Nat.lt_trichotomy j i with hji | rfl | hji
    · have h7 := h4 j hj.1 hji
      rw [← hyr] at h7
      rw [more_no y h7 h6 hb2] at ha2; cases ha2
    · obtain ⟨z, rfl, hz⟩ := more_first h3 y hyr h6 hb2 ha2
      refine ⟨(j : Int) :: z, by simp, ?_⟩
      simp only [List.map_cons, lexB]
      rw [decide_eq_false (by simp)]; exact hz
    · obtain ⟨w, rfl, _⟩ := more_srt h3
      refine ⟨(i : Int) :: w.map fun (j : Nat) => (j : Int), by simp, ?_⟩
      simp only [List.map_cons, lexB]
      rw [decide_eq_true (show (j : Int) ≠ i by omega)]
      exact decide_eq_false (by omega)
theorem clash_first {ag : List Int → Bool} {n : Nat} {x : List Int} (h : clashS ag n = some x) : (∃ y : List Nat, x = (y.map fun (j : Nat) => (j : Int)) ∧ y ≠ [] ∧ y.Pairwise (· < ·) ∧ (∀ j ∈ y, j < n) ∧ ag x = false) ∧
    ∀ y : List Nat, y ≠ [] → y.length ≤ n → y.Pairwise (· < ·) → (∀ j ∈ y, j < n) → ag (y.map fun (j : Nat) => (j : Int)) = false → ahB (y.map fun (j : Nat) => (j : Int)) x = false := by
  obtain ⟨k, k1, k2, k3, k4⟩ := find_range _ _ h
  obtain ⟨y, e, h1, h2, h3, h4⟩ := more_srt k3
  rw [List.nil_append] at e
  refine ⟨⟨y, e, fun h0 => by subst h0; simp at h1; omega, h2, fun j hj => (h3 j hj).2, h4⟩, fun z hz hzn hp hb ha => ?_⟩
  have hxl : x.length = k := by rw [e, List.length_map, h1]
  have hz1 : 0 < z.length := List.length_pos_iff.2 hz
  unfold ahB
  rw [List.length_map, hxl]
  rcases Nat.lt_trichotomy z.length k with hl | hl | hl
  · have h5 := k4 z.length hz1 hl
    have h6 := more_no z h5 hp (fun j hj => ⟨Nat.zero_le _, hb j hj⟩)
    rw [List.nil_append, ha] at h6; cases h6
  · rw [decide_eq_false (by simpa using hl)]
    obtain ⟨w, hw, hl2⟩ := more_first k3 z hl hp (fun j hj => ⟨Nat.zero_le _, hb j hj⟩) (by rw [List.nil_append]; exact ha)
    rw [List.nil_append] at hw
    rw [hw]; exact hl2
  · rw [decide_eq_true (by omega)]
    exact decide_eq_false (by omega)
structure BestI (P : Nat → Bool) (k : Nat) (f : Bool) (b : List Int) : Prop where
  no : f = false → (∀ t, 1 ≤ t → t < k → P t = true) ∧ b = []
  yes : f = true → (∃ t, 1 ≤ t ∧ t < k ∧ P t = false ∧ b = memL t) ∧ ∀ t, 1 ≤ t → t < k → P t = false → ahB (memL t) b = false
theorem BestI.start (P : Nat → Bool) : BestI P 1 false [] := ⟨fun _ => ⟨fun t h1 h2 => by omega, rfl⟩, (fun h => by cases h)⟩
theorem ah_self (a : List Int) : ahB a a = false := by
  unfold ahB
  rw [decide_eq_false (by simp)]
  show lexB a a = false
  induction a with
  | nil => rfl
  | cons x a ih => unfold lexB; rw [decide_eq_false (by simp)]; exact ih
theorem BestI.take {P : Nat → Bool} {k : Nat} {f : Bool} {b : List Int} (h : BestI P k f b) (hk : 1 ≤ k) (h1 : f = false ∨ ahB (memL k) b = true) (h2 : P k = false) : BestI P (k + 1) true (memL k) := by
  refine ⟨(fun h => by cases h), fun _ => ⟨⟨k, hk, by omega, h2, rfl⟩, fun t t1 t2 t3 => ?_⟩⟩
  by_cases e : t = k
  · subst e; exact ah_self _
  · cases hf : f with
    | false => rw [(h.no hf).1 t t1 (by omega)] at t3; cases t3
    | true =>
      have h3 := (h.yes hf).2 t t1 (by omega) t3
      have h4 := h1.resolve_left (by rw [hf]; simp)
      exact ah_anti (ah_trans h4 h3)
theorem BestI.skip {P : Nat → Bool} {k : Nat} {f : Bool} {b : List Int} (h : BestI P k f b) (h1 : P k = true ∨ (f = true ∧ ahB (memL k) b = false)) : BestI P (k + 1) f b := by
  refine ⟨fun hf => ⟨fun t t1 t2 => ?_, (h.no hf).2⟩, fun hf => ⟨?_, fun t t1 t2 t3 => ?_⟩⟩
  · by_cases e : t = k
    · subst e
      rcases h1 with h1 | h1
      · exact h1
      · rw [h1.1] at hf; cases hf
    · exact (h.no hf).1 t t1 (by omega)
  · obtain ⟨t, t1, t2, t3⟩ := (h.yes hf).1
    exact ⟨t, t1, by omega, t3⟩
  · by_cases e : t = k
    · subst e
      rcases h1 with h1 | h1
      · rw [h1] at t3; cases t3
      · exact h1.2
    · exact (h.yes hf).2 t t1 (by omega) t3
theorem BestI.done {miss : Int} {hs : List Hnd} (hm : 0 ≤ miss) (hh : ∀ h ∈ hs, h.ok) (h6 : hs.length ≤ 6) {f : Bool} {b : List Int} (h : BestI (agB miss hs) (2 ^ hs.length) f b) : f = !(agr miss hs fun _ => true) ∧ b = bif agr miss hs (fun _ => true) then [] else clashL miss hs := by
  have hcong : ∀ t, agr miss hs (flt (memL t)) = agB miss hs t := fun t => agr_cong fun i hi => memL_flt (by omega)
  have hall : ∀ f, agr miss hs (fun _ => true) = true → agr miss hs f = true := fun f ha => agr_less hm hh hh (fun j x hj _ => ⟨j, hj, rfl⟩) ha
  cases ha : agr miss hs fun _ => true with
  | true =>
    cases hf : f with
    | false => exact ⟨rfl, (h.no hf).2⟩
    | true =>
      obtain ⟨t, _, _, t3, _⟩ := (h.yes hf).1
      have h9 : agB miss hs t = true := hall _ ha
      rw [h9] at t3; cases t3
  | false =>
    have hc := clash_hit ha
    obtain ⟨⟨y, e1, hy, hp, hb, hn⟩, hmin⟩ := clash_first hc
    obtain ⟨t, t1, t2, t3⟩ := memL_of h6 hp hb
    have htn : agB miss hs t = false := by rw [← hcong, t2, ← e1]; exact hn
    cases hf : f with
    | false => rw [(h.no hf).1 t (t3 hy) t1] at htn; cases htn
    | true =>
      obtain ⟨⟨s, s1, s2, s3, s4⟩, h5⟩ := h.yes hf
      refine ⟨rfl, ?_⟩
      have h7 := h5 t (t3 hy) t1 htn
      rw [t2, ← e1] at h7
      obtain ⟨z, z1, z2, z3⟩ := memL_srt s
      have hzn : ∀ j ∈ z, j < hs.length := fun j hj => by
        rcases Nat.lt_or_ge j hs.length with h8 | h8
        · exact h8
        · have := ((z3 j).1 hj).2; rw [bits_hi s2 h8] at this; cases this
      have h8 := hmin z (fun e => by
        have h9 : ∀ i, s.testBit i = false := fun i => by
          rcases Nat.lt_or_ge i 6 with h10 | h10
          · cases hb : s.testBit i with
            | false => rfl
            | true => have := (z3 i).2 ⟨h10, hb⟩; rw [e] at this; cases this
          · exact bits_hi (Nat.lt_of_lt_of_le s2 (Nat.pow_le_pow_right (by decide) h6)) h10
        have : s = 0 := Nat.eq_of_testBit_eq fun i => by rw [h9, Nat.zero_testBit]
        omega) (by
        have := nodup_len (l := z) (l' := List.range hs.length) (z2.imp fun h => Nat.ne_of_lt h) (fun j hj => List.mem_range.2 (hzn j hj))
        simpa using this) z2 hzn (by rw [← z1, hcong]; exact s3)
      rw [← z1, ← s4] at h8
      show b = clashL miss hs
      exact ah_total h8 h7
def sptB (hs : List Hnd) (s : Nat) (i : Nat) : Bool := match hs[i]? with
  | some h => decide (h.spot = (s : Int))
  | none => false
def topK (miss : Int) (hs : List Hnd) (n : Nat) : Bool := (List.range n).all fun s => agr miss hs (fun i => sptB hs s i)
theorem topK_step (miss : Int) (hs : List Hnd) (n : Nat) : topK miss hs (n + 1) = (topK miss hs n && agr miss hs (fun i => sptB hs n i)) := by
  unfold topK; rw [List.range_succ, List.all_append]; simp
theorem topB_eq (miss : Int) (hs : List Hnd) : topB miss hs = (topK miss hs 3 && !(agr miss hs fun _ => true)) := rfl
end Go.Proofs.YtknoaljnelfklaaGreat
namespace Go.Proofs.YtknoaljnelfklaaGreat
set_option linter.unusedSimpArgs false
set_option linter.unusedVariables false
open Go
theorem cal20 : cal Tryz.prog 20 = true := by kernel_rfl
theorem cla_err {g : Gat} {c : Crt} (h : bothE g c ≠ 0) : (claR g c).1 = [] ∧ (claR g c).2 = bothE g c := by
  unfold claR; rw [decide_eq_true h]; exact ⟨rfl, rfl⟩
theorem cla_ref {g : Gat} {c : Crt} (h : bothE g c = 0) : (claR g c).1 = (bif agr g.miss c.hs (fun _ => true) then [] else clashL g.miss c.hs) ∧ (claR g c).2 = (bif !(agr g.miss c.hs fun _ => true) then 0 else 6) := by
  unfold claR
  rw [decide_eq_false (show ¬ bothE g c ≠ 0 by omega)]
  cases agr g.miss c.hs fun _ => true <;> exact ⟨rfl, rfl⟩
theorem cla_len (g : Gat) (c : Crt) : (claR g c).1.length ≤ c.hs.length := by
  by_cases h : bothE g c = 0
  · rw [(cla_ref h).1]
    cases ha : agr g.miss c.hs fun _ => true with
    | true => exact Nat.zero_le _
    | false =>
      obtain ⟨⟨y, e, _, hp, hb, _⟩, _⟩ := clash_first (clash_hit ha)
      show (clashL g.miss c.hs).length ≤ _
      rw [e, List.length_map]
      have := nodup_len (l := y) (l' := List.range c.hs.length) (hp.imp fun h => Nat.ne_of_lt h) (fun j hj => List.mem_range.2 (hb j hj))
      simpa using this
  · rw [(cla_err h).1]; exact Nat.zero_le _
end Go.Proofs.YtknoaljnelfklaaGreat
namespace Go.Proofs.YtknoaljnelfklaaGreat
set_option linter.unusedSimpArgs false
set_option linter.unusedVariables false
open Go
section pe
variable {P : Program} {L : Slots} {d : Option Tmp} {ty : TypeId} {pos : String} {af : Array Edge} {g : Option (Nat × Bool)}
theorem PE.slLHM {T e s : Nat} {x y z q : Operand} {a : Option Addr} {len cap l h mx : Nat} {k k2 k3 : IntKind} (hT : slE P T = some (e, s)) (hx : ev L x = some (.slice a len cap)) (hz : ev L z = some (.int k2 l)) (hy : ev L y = some (.int k h)) (hq : ev L q = some (.int k3 mx)) (hl : l ≤ h) (hh : h ≤ mx) (hm : mx ≤ cap) :
    PE P L ⟨d, .slice T x (some z) (some y) (some q), ty, pos, af, g⟩ (.slice (if mx = l then a else a.map (·.add (l * s))) (h - l) (mx - l)) := fun ρ hρ w => by
  obtain ⟨i, hu, hi, rfl⟩ := slE_und hT
  have hb : ∀ c w, (Instr.sliceBound (.int k3 (mx : Int)) cap c).run P w = .ok mx w := fun c w => by rw [run_bound (by omega)]; simp
  have hb1 : ∀ c w, (Instr.sliceBound (.int k (h : Int)) mx c).run P w = .ok h w := fun c w => by rw [run_bound (by omega)]; simp
  have hb2 : ∀ c w, (Instr.sliceBound (.int k2 (l : Int)) h c).run P w = .ok l w := fun c w => by rw [run_bound (by omega)]; simp
  simp only [execOp, hρ _ _ hx, hρ _ _ hy, hρ _ _ hz, hρ _ _ hq, Option.map_some, Instr.sliceAt, Instr.slice, Sem.run_bind, run_underlying hu, Result.andThen, Sem.run_pure, Instr.sliceBounds, hb, hb1, hb2, sizeOf, typeInfo, program, hi, Sem.run]
end pe
section steps
variable {P : Program} {r : Option Nat} {ops : Array Oper} {n : Nat} {L : Slots} {D : List Deferred} {H : Heap} {R : Facts} {K : Act → World → Prop}
  {i d : Nat} {ty : TypeId} {pos : String} {af : Array Edge}
theorem apI {t e sz b i' cap k c e2 : Nat} {s x : Operand} {l : List Value} {ax : Addr} (news : List Value) {H' : Heap} (ho : ops[i]? = some ⟨some d, .call { callee := .builtin .append, args := #[s, x], argTypes := #[t, t] }, ty, pos, af, none⟩)
    (hT : slE P t = some (e, sz)) (hs : ev L s = some (.slice (some ⟨b, 0, none⟩) i' cap)) (hx : ev L x = some (.slice (some ax) k c)) (hn : news.length = k * sz)
    (hsrc : ∀ w, St H R w → ∀ j v, news[j]? = some v → w.cell? (ax.add j) = some v) (h1 : news.all (·.oneCell') = true) (hroom : i' + k ≤ cap) (hb : i' * sz + news.length ≤ l.length) (hd : Nat.blt d n = true)
    [m : Mem1 b (cel e2 l) H] [rp : Rep [(b, cel e2 l)] [(b, cel e2 (spl l (i' * sz) news))] H H']
    (h : Sy n ((d, .slice (some ⟨b, 0, none⟩) (i' + k) cap) :: L) D H' R K) : Sy n L D H R (stp P r ops i K) := fun a w ha hD hw => by
  obtain ⟨ie, hu, hi, rfl⟩ := slE_und hT
  have hst := run_storeA (P := P) (e := e2) h1 hb (hw.held _ m.mem)
  have hfc := run_firstCells_some (P := P) w ie.size k ax k c news hn (hsrc w hw)
  refine stp_value ho (wanted_none _ rfl _) (v := .slice (some ⟨b, 0, none⟩) (i' + k) cap) (w' := { w with heap := w.heap.setIfInBounds b (cel e2 (spl l (i' * ie.size) news)) }) ?_
    (h _ _ (ha.put (by simpa using hd) _) hD (hw.rep (F := [(b, cel e2 l)]) (F' := [(b, cel e2 (spl l (i' * ie.size) news))]) fun T hT => St.set hT))
  simp only [execOp, resolve, invoke, builtin, Sem.run_bind, Sem.run_pure, Result.andThen, List.map_toArray, List.map_cons, List.map_nil, ha.reads _ _ hs, ha.reads _ _ hx]
  have e1 : (Builtin.append_ #[t, t] ty #[.slice (some ⟨b, 0, none⟩) i' cap, .slice (some ax) k c]).run P w = .ok (.slice (some ⟨b, 0, none⟩) (i' + k) cap) { w with heap := w.heap.setIfInBounds b (cel e2 (spl l (i' * ie.size) news)) } := by
    have e0 : (⟨b, 0, none⟩ : Addr).add (i' * ie.size) = ⟨b, i' * ie.size, none⟩ := by rw [addr_add, Nat.zero_add]
    simp [Builtin.append_, run_underlying hu, sizeOf, typeInfo, hi, Builtin.lenOf, hroom, hfc, e0, hst]
  rw [e1]
end steps
end Go.Proofs.YtknoaljnelfklaaGreat
namespace Go.Proofs.YtknoaljnelfklaaGreat
set_option linter.unusedSimpArgs false
set_option linter.unusedVariables false
open Go
theorem cal30 : cal Tryz.prog 30 = true := by kernel_rfl
theorem cal31 : cal Tryz.prog 31 = true := by kernel_rfl
theorem cal36 : cal Tryz.prog 36 = true := by kernel_rfl
theorem cal37 : cal Tryz.prog 37 = true := by kernel_rfl
theorem ext_lo (v : Hnd → Int) : ∀ hs : List Hnd, ∃ (L : Int) (J : List Hnd), J.length ≤ 1 ∧ (∀ h ∈ J, h ∈ hs) ∧ 0 ≤ L ∧ (∀ h ∈ hs, v h ≤ L) ∧ ∀ x : Int, 0 ≤ x → (∀ h ∈ J, v h ≤ x) → L ≤ x
  | [] => ⟨0, [], by simp, by simp, by omega, by simp, fun x h _ => h⟩
  | h :: hs => by
    obtain ⟨L, J, h1, h2, h3, h4, h5⟩ := ext_lo v hs
    by_cases e : v h ≤ L
    · exact ⟨L, J, h1, fun q hq => List.mem_cons_of_mem _ (h2 q hq), h3, fun q hq => by rcases List.mem_cons.1 hq with rfl | hq; exact e; exact h4 q hq, h5⟩
    · exact ⟨v h, [h], by simp, fun q hq => by obtain rfl := List.mem_singleton.1 hq; simp, by omega, fun q hq => by rcases List.mem_cons.1 hq with rfl | hq; omega; have := h4 q hq; omega, fun x _ hx => hx h (by simp)⟩
theorem ext_hi (v : Hnd → Int) : ∀ hs : List Hnd, ∃ (U : Int) (J : List Hnd), J.length ≤ 1 ∧ (∀ h ∈ J, h ∈ hs) ∧ U ≤ 40 ∧ (∀ h ∈ hs, U ≤ v h) ∧ ∀ x : Int, x ≤ 40 → (∀ h ∈ J, x ≤ v h) → x ≤ U
  | [] => ⟨40, [], by simp, by simp, by omega, by simp, fun x h _ => h⟩
  | h :: hs => by
    obtain ⟨L, J, h1, h2, h3, h4, h5⟩ := ext_hi v hs
    by_cases e : L ≤ v h
    · exact ⟨L, J, h1, fun q hq => List.mem_cons_of_mem _ (h2 q hq), h3, fun q hq => by rcases List.mem_cons.1 hq with rfl | hq; exact e; exact h4 q hq, h5⟩
    · exact ⟨v h, [h], by simp, fun q hq => by obtain rfl := List.mem_singleton.1 hq; simp, by omega, fun q hq => by rcases List.mem_cons.1 hq with rfl | hq; omega; have := h4 q hq; omega, fun x _ hx => hx h (by simp)⟩
theorem fit_span {miss : Int} (hm : 0 ≤ miss) {h : Hnd} (hh : h.ok) {m : Mix} (hx : Mxt m) : fitB miss h m = true ↔ ∀ k < 4, (letS miss h k).1 ≤ nn m k ∧ nn m k ≤ (letS miss h k).2 := by
  unfold fitB
  rw [List.all_eq_true]
  constructor
  · intro h1 k hk; exact (let_iff hm hh hk (hx.at_ k hk)).2 (h1 k (List.mem_range.2 hk))
  · intro h1 k hk
    have hk := List.mem_range.1 hk
    exact (let_iff hm hh hk (hx.at_ k hk)).1 (h1 k hk)
theorem agr_no {miss : Int} (hm : 0 ≤ miss) {hs : List Hnd} (hh : ∀ h ∈ hs, h.ok) : agr miss hs (fun _ => true) = false ↔ ∀ m, Mxt m → ∃ h ∈ hs, fitB miss h m = false := by
  have h1 := agr_iff hm hh fun _ => true
  constructor
  · intro ha m hx
    false_or_by_contra
    rename_i hn
    have : agr miss hs (fun _ => true) = true := h1.2 ⟨m, hx, fun i h hi _ => by
      cases hf : fitB miss h m with
      | true => rfl
      | false => exact absurd ⟨h, List.mem_of_getElem? hi, hf⟩ hn⟩
    rw [ha] at this; cases this
  · intro ha
    cases hb : agr miss hs fun _ => true with
    | false => rfl
    | true =>
      obtain ⟨m, hx, h2⟩ := h1.1 hb
      obtain ⟨h, h3, h4⟩ := ha m hx
      obtain ⟨i, hi⟩ := List.getElem?_of_mem h3
      rw [h2 i h hi rfl] at h4; cases h4
theorem mix_in {l0 l1 l2 l3 u0 u1 u2 u3 : Int} (h0 : 0 ≤ l0 ∧ l0 ≤ u0 ∧ u0 ≤ 40) (h1 : 0 ≤ l1 ∧ l1 ≤ u1 ∧ u1 ≤ 40) (h2 : 0 ≤ l2 ∧ l2 ≤ u2 ∧ u2 ≤ 40) (h3 : 0 ≤ l3 ∧ l3 ≤ u3 ∧ u3 ≤ 40) (hl : l0 + l1 + l2 + l3 ≤ 40) (hu : 40 ≤ u0 + u1 + u2 + u3) :
    ∃ a b c d : Int, a + b + c + d = 40 ∧ (l0 ≤ a ∧ a ≤ u0) ∧ (l1 ≤ b ∧ b ≤ u1) ∧ (l2 ≤ c ∧ c ≤ u2) ∧ (l3 ≤ d ∧ d ≤ u3) := by
  obtain ⟨a, ha⟩ : ∃ a, a = min u0 (40 - l1 - l2 - l3) := ⟨_, rfl⟩
  obtain ⟨b, hb⟩ : ∃ b, b = min u1 (40 - a - l2 - l3) := ⟨_, rfl⟩
  obtain ⟨c, hc⟩ : ∃ c, c = min u2 (40 - a - b - l3) := ⟨_, rfl⟩
  exact ⟨a, b, c, 40 - a - b - c, by omega, by omega, by omega, by omega, by omega⟩
theorem four {miss : Int} (hm : 0 ≤ miss) {hs : List Hnd} (hh : ∀ h ∈ hs, h.ok) (ha : agr miss hs (fun _ => true) = false) : ∃ J : List Hnd, J.length ≤ 4 ∧ (∀ h ∈ J, h ∈ hs) ∧ agr miss J (fun _ => true) = false := by
  have hno := (agr_no hm hh).1 ha
  obtain ⟨l0, A0, a01, a02, a03, a04, a05⟩ := ext_lo (fun h => (letS miss h 0).1) hs
  obtain ⟨l1, A1, a11, a12, a13, a14, a15⟩ := ext_lo (fun h => (letS miss h 1).1) hs
  obtain ⟨l2, A2, a21, a22, a23, a24, a25⟩ := ext_lo (fun h => (letS miss h 2).1) hs
  obtain ⟨l3, A3, a31, a32, a33, a34, a35⟩ := ext_lo (fun h => (letS miss h 3).1) hs
  obtain ⟨u0, B0, b01, b02, b03, b04, b05⟩ := ext_hi (fun h => (letS miss h 0).2) hs
  obtain ⟨u1, B1, b11, b12, b13, b14, b15⟩ := ext_hi (fun h => (letS miss h 1).2) hs
  obtain ⟨u2, B2, b21, b22, b23, b24, b25⟩ := ext_hi (fun h => (letS miss h 2).2) hs
  obtain ⟨u3, B3, b31, b32, b33, b34, b35⟩ := ext_hi (fun h => (letS miss h 3).2) hs
  -- what a mixture that fits a list says of its parts
  have key : ∀ J : List Hnd, (∀ h ∈ J, h ∈ hs) → agr miss J (fun _ => true) = true → ∃ m, Mxt m ∧ ∀ h ∈ J, ∀ k < 4, (letS miss h k).1 ≤ nn m k ∧ nn m k ≤ (letS miss h k).2 := fun J hJ h => by
    obtain ⟨m, h1, h2⟩ := (agr_iff hm (fun h hj => hh h (hJ h hj)) _).1 h
    exact ⟨m, h1, fun x hx => by
      obtain ⟨i, hi⟩ := List.getElem?_of_mem hx
      exact (fit_span hm (hh x (hJ x hx)) h1).1 (h2 i x hi rfl)⟩
  have done : ∀ J : List Hnd, J.length ≤ 4 → (∀ h ∈ J, h ∈ hs) → (∀ m, Mxt m → (∀ h ∈ J, ∀ k < 4, (letS miss h k).1 ≤ nn m k ∧ nn m k ≤ (letS miss h k).2) → False) → ∃ J : List Hnd, J.length ≤ 4 ∧ (∀ h ∈ J, h ∈ hs) ∧ agr miss J (fun _ => true) = false := fun J h1 h2 h3 => ⟨J, h1, h2, by
    cases hb : agr miss J fun _ => true with
    | false => rfl
    | true => obtain ⟨m, h4, h5⟩ := key J h2 hb; exact (h3 m h4 h5).elim⟩
  by_cases c0 : u0 < l0
  · refine done (A0 ++ B0) (by simp; omega) (fun h hj => (List.mem_append.1 hj).elim (a02 h) (b02 h)) fun m hx h => ?_
    have := hx.at_ 0 (by omega)
    have := a05 (nn m 0) (by omega) fun q hq => (h q (List.mem_append_left _ hq) 0 (by omega)).1
    have := b05 (nn m 0) (by omega) fun q hq => (h q (List.mem_append_right _ hq) 0 (by omega)).2
    omega
  by_cases c1 : u1 < l1
  · refine done (A1 ++ B1) (by simp; omega) (fun h hj => (List.mem_append.1 hj).elim (a12 h) (b12 h)) fun m hx h => ?_
    have := hx.at_ 1 (by omega)
    have := a15 (nn m 1) (by omega) fun q hq => (h q (List.mem_append_left _ hq) 1 (by omega)).1
    have := b15 (nn m 1) (by omega) fun q hq => (h q (List.mem_append_right _ hq) 1 (by omega)).2
    omega
  by_cases c2 : u2 < l2
  · refine done (A2 ++ B2) (by simp; omega) (fun h hj => (List.mem_append.1 hj).elim (a22 h) (b22 h)) fun m hx h => ?_
    have := hx.at_ 2 (by omega)
    have := a25 (nn m 2) (by omega) fun q hq => (h q (List.mem_append_left _ hq) 2 (by omega)).1
    have := b25 (nn m 2) (by omega) fun q hq => (h q (List.mem_append_right _ hq) 2 (by omega)).2
    omega
  by_cases c3 : u3 < l3
  · refine done (A3 ++ B3) (by simp; omega) (fun h hj => (List.mem_append.1 hj).elim (a32 h) (b32 h)) fun m hx h => ?_
    have := hx.at_ 3 (by omega)
    have := a35 (nn m 3) (by omega) fun q hq => (h q (List.mem_append_left _ hq) 3 (by omega)).1
    have := b35 (nn m 3) (by omega) fun q hq => (h q (List.mem_append_right _ hq) 3 (by omega)).2
    omega
  by_cases c4 : 40 < l0 + l1 + l2 + l3
  · refine done (A0 ++ (A1 ++ (A2 ++ A3))) (by simp; omega) (fun h hj => by
      simp only [List.mem_append] at hj
      rcases hj with hj | hj | hj | hj
      · exact a02 h hj
      · exact a12 h hj
      · exact a22 h hj
      · exact a32 h hj) fun m hx h => ?_
    have hs := hx.sum
    unfold sum4 at hs
    have := a05 (nn m 0) (hx.at_ 0 (by omega)).1 fun q hq => (h q (by simp [hq]) 0 (by omega)).1
    have := a15 (nn m 1) (hx.at_ 1 (by omega)).1 fun q hq => (h q (by simp [hq]) 1 (by omega)).1
    have := a25 (nn m 2) (hx.at_ 2 (by omega)).1 fun q hq => (h q (by simp [hq]) 2 (by omega)).1
    have := a35 (nn m 3) (hx.at_ 3 (by omega)).1 fun q hq => (h q (by simp [hq]) 3 (by omega)).1
    omega
  by_cases c5 : u0 + u1 + u2 + u3 < 40
  · refine done (B0 ++ (B1 ++ (B2 ++ B3))) (by simp; omega) (fun h hj => by
      simp only [List.mem_append] at hj
      rcases hj with hj | hj | hj | hj
      · exact b02 h hj
      · exact b12 h hj
      · exact b22 h hj
      · exact b32 h hj) fun m hx h => ?_
    have hs := hx.sum
    unfold sum4 at hs
    have := b05 (nn m 0) (hx.at_ 0 (by omega)).2 fun q hq => (h q (by simp [hq]) 0 (by omega)).2
    have := b15 (nn m 1) (hx.at_ 1 (by omega)).2 fun q hq => (h q (by simp [hq]) 1 (by omega)).2
    have := b25 (nn m 2) (hx.at_ 2 (by omega)).2 fun q hq => (h q (by simp [hq]) 2 (by omega)).2
    have := b35 (nn m 3) (hx.at_ 3 (by omega)).2 fun q hq => (h q (by simp [hq]) 3 (by omega)).2
    omega
  exfalso
  obtain ⟨a, b, c, d, hs, ha, hb, hc, hd⟩ := mix_in (l0 := l0) (l1 := l1) (l2 := l2) (l3 := l3) (u0 := u0) (u1 := u1) (u2 := u2) (u3 := u3) (by omega) (by omega) (by omega) (by omega) (by omega) (by omega)
  have hx : Mxt [a, b, c, d] := ⟨rfl, by simp [sum4, nn]; omega, of4 ⟨by simp [nn]; omega, by simp [nn]; omega, by simp [nn]; omega, by simp [nn]; omega⟩⟩
  obtain ⟨h, h1, h2⟩ := hno _ hx
  have h3 : fitB miss h [a, b, c, d] = true := (fit_span hm (hh h h1) hx).2 (of4 ⟨by have := a04 h h1; have := b04 h h1; simp [nn] at *; omega, by have := a14 h h1; have := b14 h h1; simp [nn] at *; omega, by have := a24 h h1; have := b24 h h1; simp [nn] at *; omega, by have := a34 h h1; have := b34 h h1; simp [nn] at *; omega⟩)
  rw [h3] at h2; cases h2
theorem clash4 {miss : Int} (hm : 0 ≤ miss) {hs : List Hnd} (hh : ∀ h ∈ hs, h.ok) (ha : agr miss hs (fun _ => true) = false) : 1 ≤ (clashL miss hs).length ∧ (clashL miss hs).length ≤ 4 := by
  obtain ⟨J, h1, h2, h3⟩ := four hm hh ha
  have hc := clash_hit ha
  have hJ := clash_hit h3
  have h4 := clash_le hm (fun h hj => hh h (h2 h hj)) hh h2 hJ hc
  obtain ⟨⟨y, e, hy, _⟩, _⟩ := clash_first hc
  obtain ⟨⟨z, ez, _, hzp, hzn, _⟩, _⟩ := clash_first hJ
  have h5 := nodup_len (l := z) (l' := List.range J.length) (hzp.imp fun h => Nat.ne_of_lt h) (fun j hj => List.mem_range.2 (hzn j hj))
  rw [ez, List.length_map] at h4
  simp only [List.length_range] at h5
  refine ⟨?_, by omega⟩
  rw [e, List.length_map]
  exact List.length_pos_iff.2 hy
theorem agr_nil {miss : Int} (hm : 0 ≤ miss) {hs : List Hnd} (hh : ∀ h ∈ hs, h.ok) : agr miss hs (flt []) = true :=
  (agr_iff hm hh _).2 ⟨[40, 0, 0, 0], ⟨rfl, by decide, of4 ⟨by decide, by decide, by decide, by decide⟩⟩, fun i q _ hf => by simp [flt] at hf⟩
theorem map_erase (f : Nat → Int) : ∀ (y : List Nat) (i : Nat), (y.map f).eraseIdx i = (y.eraseIdx i).map f
  | [], i => by simp
  | a :: y, 0 => by simp
  | a :: y, i + 1 => by simp [map_erase f y i]
theorem clash_less {miss : Int} (hm : 0 ≤ miss) {hs : List Hnd} (hh : ∀ h ∈ hs, h.ok) (ha : agr miss hs (fun _ => true) = false) : ∃ y : List Nat, clashL miss hs = (y.map fun (j : Nat) => (j : Int)) ∧ y.Nodup ∧ (∀ j ∈ y, j < hs.length) ∧ agr miss hs (fun i => decide (i ∈ y)) = false ∧
    ∀ i < y.length, (y.eraseIdx i).Nodup ∧ (∀ j ∈ y.eraseIdx i, j < hs.length) ∧ agr miss hs (fun q => decide (q ∈ y.eraseIdx i)) = true := by
  obtain ⟨⟨y, e, hy, hp, hb, hn⟩, hmin⟩ := clash_first (clash_hit ha)
  have hcong : ∀ z : List Nat, agr miss hs (flt (z.map fun (j : Nat) => (j : Int))) = agr miss hs (fun q => decide (q ∈ z)) := fun z => agr_cong fun i _ => flt_map z i
  have hyl := nodup_len (l := y) (l' := List.range hs.length) (hp.imp fun h => Nat.ne_of_lt h) (fun j hj => List.mem_range.2 (hb j hj))
  rw [List.length_range] at hyl
  refine ⟨y, e, hp.imp fun h => Nat.ne_of_lt h, hb, by rw [← hcong, ← e]; exact hn, fun i hi => ?_⟩
  have hsub : (y.eraseIdx i).Sublist y := List.eraseIdx_sublist y i
  have hp2 := hp.sublist hsub
  have hb2 : ∀ j ∈ y.eraseIdx i, j < hs.length := fun j hj => hb j (hsub.mem hj)
  have hel : (y.eraseIdx i).length = y.length - 1 := List.length_eraseIdx_of_lt hi
  refine ⟨hp2.imp fun h => Nat.ne_of_lt h, hb2, ?_⟩
  rw [← hcong]
  rcases Nat.eq_zero_or_pos (y.eraseIdx i).length with h0 | h0
  · rw [List.eq_nil_of_length_eq_zero h0]; exact agr_nil hm hh
  · cases hc : agr miss hs (flt ((y.eraseIdx i).map fun (j : Nat) => (j : Int))) with
    | true => rfl
    | false =>
      have h1 := hmin (y.eraseIdx i) (List.length_pos_iff.1 h0) (by omega) hp2 hb2 hc
      unfold ahB at h1
      rw [e, List.length_map, List.length_map, decide_eq_true (show (y.eraseIdx i).length ≠ y.length by omega)] at h1
      have := of_decide_eq_false h1
      omega
theorem agr_of {g : Gat} {c : Crt} (h0 : bothE g c = 0) {y : List Nat} (hn : y.Nodup) (hb : ∀ j ∈ y, j < c.hs.length) : agrE g c (y.map fun (j : Nat) => (j : Int)) = 0 ∧ agrR g c (y.map fun (j : Nat) => (j : Int)) = agr g.miss c.hs (fun i => decide (i ∈ y)) := by
  have e : agrE g c (y.map fun (j : Nat) => (j : Int)) = 0 := agrE_0 h0 (List.all_eq_true.2 fun v hv => by
    obtain ⟨j, hj, rfl⟩ := List.mem_map.1 hv
    have := hb j hj
    simp [inb]; omega) (List.pairwise_map.2 (hn.imp fun h => by omega))
  exact ⟨e, by rw [agrR_0 e]; exact agr_cong fun i _ => flt_map y i⟩
theorem ord_all {p : List Nat} {n : Nat} (hp : Ord p n) {j : Nat} (hj : j < n) : j ∈ p := by
  false_or_by_contra
  rename_i h
  have h1 := nodup_len (l := j :: p) (l' := List.range n) (List.nodup_cons.2 ⟨h, hp.nd⟩) (fun i hi => List.mem_range.2 (by rcases List.mem_cons.1 hi with rfl | hi; exact hj; exact hp.lt i hi))
  rw [List.length_cons, List.length_range, hp.len] at h1
  omega
def spI (hs : List Hnd) (s n : Nat) : List Nat := (List.range n).filter fun i => sptB hs s i
theorem spI_step (hs : List Hnd) (s n : Nat) : spI hs s (n + 1) = bif sptB hs s n then spI hs s n ++ [n] else spI hs s n := by
  unfold spI
  rw [List.range_succ, List.filter_append, List.filter_cons]
  cases sptB hs s n <;> simp
theorem spI_ok (hs : List Hnd) (s n : Nat) : (spI hs s n).Nodup ∧ (∀ j ∈ spI hs s n, j < n) ∧ (spI hs s n).length ≤ n := by
  have h1 : (spI hs s n).Pairwise (· < ·) := List.pairwise_lt_range.filter _
  refine ⟨h1.imp fun h => Nat.ne_of_lt h, fun j hj => List.mem_range.1 (List.mem_filter.1 hj).1, ?_⟩
  unfold spI
  exact Nat.le_trans (List.length_filter_le _ _) (by simp)
theorem spI_agr (miss : Int) (hs : List Hnd) (s : Nat) : agr miss hs (fun i => decide (i ∈ spI hs s hs.length)) = agr miss hs (fun i => sptB hs s i) := agr_cong fun i hi => by
  unfold spI
  rw [Bool.eq_iff_iff, decide_eq_true_eq, List.mem_filter, List.mem_range]
  exact ⟨fun h => h.2, fun h => ⟨hi, h⟩⟩
theorem tol_cla {g : Gat} {c : Crt} (h0 : bothE g c = 0) : (toldE g c false = 0 ∧ (claR g c).2 = 6 ∧ agr g.miss c.hs (fun _ => true) = true) ∨ (toldE g c false = 7 ∧ (claR g c).2 = 0 ∧ (claR g c).1 = clashL g.miss c.hs ∧ agr g.miss c.hs (fun _ => true) = false) := by
  obtain ⟨e1, e2⟩ := cla_ref h0
  unfold toldE
  rw [e1, e2, decide_eq_false (show ¬ bothE g c ≠ 0 by omega)]
  unfold agr
  cases clo (boxF g.miss c.hs fun _ => true) with
  | none => exact .inr ⟨rfl, rfl, rfl, rfl⟩
  | some b => exact .inl ⟨rfl, rfl, rfl⟩
theorem spl_erase {l : List Int} {junk : List Value} {i : Nat} (hi : i < l.length) : spl (ints l ++ junk) (i * 1) ((ints l).drop (i + 1)) = ints (l.eraseIdx i) ++ (ints l ++ junk).drop (l.length - 1) := by
  rw [Nat.mul_one]
  unfold spl
  have e1 : ((ints l ++ junk).take i : List Value) = (ints l).take i := List.take_append_of_le_length (by rw [ints_length]; omega)
  have e2 : (i + ((ints l).drop (i + 1)).length) = l.length - 1 := by rw [List.length_drop, ints_length]; omega
  rw [e1, e2, List.eraseIdx_eq_take_drop_succ]
  simp [ints]
theorem spl_end {A B C : List Value} {n : Nat} (h : n = A.length) : spl (A ++ B) n C = A ++ (C ++ B.drop C.length) := by
  subst h
  unfold spl
  rw [List.take_left, List.drop_append]
  simp
theorem ir_drop {l : List Int} {junk : List Value} {i j : Nat} {v : Value} (h : ((ints l).drop i)[j]? = some v) : (ints l ++ junk)[i + j]? = some v := by
  rw [List.getElem?_drop] at h
  have h1 := (List.getElem?_eq_some_iff.1 h).1
  rw [List.getElem?_append_left h1]; exact h
theorem c_Delete (l : List Int) (o : OSl 3 1 (irows l)) (hl : l.length ≤ 1000) (i : Nat) (hi : i < l.length) (H : Heap) (R : Facts) :
    Fn Tryz.prog 37 [o.fs, .int .i64 i, .int .i64 ((i + 1 : Nat) : Int)] (o.G ++ H) R (fun v H' R' => ∃ a c', v = .slice a (l.eraseIdx i).length c' ∧ H' = H ∧ R' = RowsA a 1 (irows (l.eraseIdx i)) :: R) := by
 have hir : (irows l).length = l.length := List.length_map _
 obtain ⟨b, cap, junk, hfs, hG, hj, hcap, hmx⟩ := o.is.resolve_left (fun h => by rw [h.1] at hir; simp at hir; omega)
 rw [hir] at hfs hcap hj
 rw [hfs, hG, irows_flat']
 refine fn_of Tryz.func37 rfl Tryz.ntmps37 rfl ?_
 refine sy_seq ?_
 refine sy_tx' [0] rfl ?_
 refine Sy.heap (H' := (b, cel 3 (ints l ++ junk)) :: H) (fun w h => h) ?_
 refine sp rfl (PE.assign rfl) rfl ?_
 refine sy_seq ?_
 refine sy_tx' [0, 1, 2, 3, 4, 5] rfl ?_
 refine sp rfl (PE.move rfl) rfl ?_
 refine sp rfl (PE.move rfl) rfl ?_
 refine sp rfl (PE.move rfl) rfl ?_
 refine sp rfl (PE.move rfl) rfl ?_
 refine sp rfl (PE.lenSl isl28 rfl) rfl ?_
 refine sp rfl (PE.slLHM sl28 rfl rfl rfl rfl (by omega) (by omega) (by omega)) rfl ?_
 refine sy_seq ?_
 refine sy_seq ?_
 refine sy_tx' [0, 1, 2] rfl ?_
 refine sp rfl (PE.move rfl) rfl ?_
 refine sp rfl (PE.move rfl) rfl ?_
 refine sp rfl (PE.eql rfl rfl) rfl ?_
 refine sy_cond rfl (fun hc0 => ?_) (fun hc0 => ?_)
 exact absurd hc0 (by simp; omega)
 refine sy_skip ?_
 refine sy_seq ?_
 refine sy_tx' [0, 1, 2] rfl ?_
 refine sp rfl (PE.move rfl) rfl ?_
 refine sp rfl (PE.lenSl isl28 rfl) rfl ?_
 refine sp rfl (PE.assign rfl) rfl ?_
 refine sy_seq ?_
 refine sy_draw [0, 0, 3, 0, 0, 24, 63, 127] (.tk 0 (.tk 1 (.tk 2 (.tk 3 (.tk 4 (.tk 5 (.big 6 (.tk 7 .done)))))))) mixed (by kernel_rfl) ?_
 refine tk rfl (PE.move rfl) rfl ?_
 refine tk rfl (PE.move rfl) rfl ?_
 refine tk rfl (PE.slHi sl28 rfl rfl (by omega)) rfl ?_
 refine tk rfl (PE.move rfl) rfl ?_
 refine tk rfl (PE.move rfl) rfl ?_
 refine tk rfl (PE.slLoA sl28 rfl rfl (by omega)) rfl ?_
 obtain ⟨ax, hax, hsrc⟩ : ∃ ax : Addr, (if cap = i + 1 then some (⟨b, 0, none⟩ : Addr) else (some (⟨b, 0, none⟩ : Addr)).map (·.add ((i + 1) * 1))) = some ax ∧ ∀ j v, ((ints l).drop (i + 1))[j]? = some v → ax.add j = ⟨b, i + 1 + j, none⟩ := by
   by_cases h9 : cap = i + 1
   · refine ⟨_, if_pos h9, fun j v hj => ?_⟩
     rw [List.drop_eq_nil_of_le (by rw [ints_length]; omega)] at hj; simp at hj
   · exact ⟨_, if_neg h9, fun j v hj => by show ((⟨b, 0, none⟩ : Addr).add ((i + 1) * 1)).add j = _; rw [addr_add, addr_add]; simp⟩
 rw [hax]
 refine apI ((ints l).drop (i + 1)) rfl sl28 rfl rfl (by rw [List.length_drop, ints_length]; omega) (fun w hs j v hj => by rw [hsrc j v hj, cell_of (hs.held (b, cel 3 (ints l ++ junk)) (by simp))]; simpa using ir_drop (junk := junk) hj) (List.all_eq_true.2 fun v hv => List.all_eq_true.1 (ints_one l) v (List.mem_of_mem_drop hv)) (by omega) (by rw [List.length_drop, ints_length, List.length_append, ints_length]; omega) rfl ?_
 rw [spl_erase hi, show i + (l.length - (i + 1)) = l.length - 1 from by omega]
 obtain ⟨jk, hjk⟩ : ∃ jk, jk = (ints l ++ junk).drop (l.length - 1) := ⟨_, rfl⟩
 rw [← hjk]
 have hel : (l.eraseIdx i).length = l.length - 1 := List.length_eraseIdx_of_lt hi
 refine bg (fun w hs => trivial) ?_
 refine tk rfl (PE.assign rfl) rfl ?_
 refine sy_seq ?_
 refine sy_tx' [0, 1, 2, 3, 4, 5] rfl ?_
 refine sp rfl (PE.move rfl) rfl ?_
 refine sp rfl (PE.move rfl) rfl ?_
 refine sp rfl (PE.lenSl isl28 rfl) rfl ?_
 refine sp rfl (PE.move rfl) rfl ?_
 refine sp rfl (PE.slLH sl28 rfl rfl rfl (by omega) (by omega) (by omega)) rfl ?_
 refine clrA rfl rfl sl28 zl3 rfl rfl rfl (by rw [hjk, List.length_append, ints_length, List.length_drop, List.length_append, ints_length]; omega) ?_
 rw [spl_end (by rw [ints_length]; omega)]
 obtain ⟨jk2, hjk2⟩ : ∃ jk2, jk2 = (repl (l.length - (l.length - 1)) [Value.int .i64 0] ++ jk.drop (repl (l.length - (l.length - 1)) [Value.int .i64 0]).length) := ⟨_, rfl⟩
 rw [← hjk2]
 refine sy_seq ?_
 refine sy_tx' [0, 1] rfl ?_
 refine sp rfl (PE.move rfl) rfl ?_
 refine sp rfl (PE.assign rfl) rfl ?_
 refine sy_ret ?_
 refine Sy.heap (fun w h => St.rows (sz := 1) (rows := irows (l.eraseIdx i)) (rest := jk2) (by rw [irows_flat']; exact h) (ir_len _)) ?_
 rw [← hel]
 exact sy_return (vs := [_]) rfl (.cons (RV.tmp rfl) .nil) rfl ⟨_, cap, rfl, rfl, rfl⟩ drp
theorem c_GateClashed (l0 : List Int) (a0 : Option Addr) (c0 : Nat) (hl0 : l0.length ≤ 9223372036854775807) (l1 : List Int) (a1 : Option Addr) (c1 : Nat) (hl1 : l1.length ≤ 9223372036854775807) (l2 : List Int) (a2 : Option Addr) (c2 : Nat) (hl2 : l2.length ≤ 9223372036854775807) (H : Heap) (R : Facts) [hG : MemRows a0 1 (urows l0) R] [hG2 : MemRows a1 1 (urows l1) R] [hG3 : MemRows a2 1 (urows l2) R] :
    Fn Tryz.prog 5 [.slice a0 l0.length c0, .slice a1 l1.length c1, .slice a2 l2.length c2] H R (fun v H' R' => v = .bool true ∧ H' = H ∧ R' = R) := by
 refine fn_of Tryz.func5 rfl Tryz.ntmps5 rfl ?_
 refine sy_seq ?_
 refine sy_tx' [0] rfl ?_
 refine sp rfl (PE.assign rfl) rfl ?_
 refine sy_seq ?_
 refine sy_tx' [0, 1, 2, 3, 4, 5, 6, 7, 8, 9, 10, 11, 12] rfl ?_
 refine sp rfl (PE.move rfl) rfl ?_
 refine cl rfl cal31 rfl rfl (c_Fill l0 a0 c0 hl0 _ _) ?_
 rintro _ _ R1 ⟨bk, mk, hmk, rfl, rfl, hR1⟩
 obtain rfl := hR1.symm
 clear hR1
 refine cl rfl cal30 rfl rfl (c_MadeO l0 a0 c0 bk hl0 0 mk (by omega) hmk 2 3 (by omega) (by omega) _ _) ?_
 rintro _ _ R1 ⟨g, c, m, ag, cg, tq1, mx1, o, hmd, hcg, rfl, _, _, rfl, hR1⟩
 obtain rfl := hR1.symm
 clear hR1
 refine Sy.heap (fun w h => h.del bk) ?_
 have hgm := hmd.gok.many
 have hgmi := hmd.gok.miss
 have hcm := hmd.more
 refine sp rfl (PE.move rfl) rfl ?_
 refine sp rfl (PE.extract rfl rfl) rfl ?_
 refine sp rfl (PE.extract rfl rfl) rfl ?_
 refine sp rfl (PE.extract rfl rfl) rfl ?_
 refine alc rfl zl24 rfl (fun b7 => ?_)
 refine alc rfl zl27 rfl (fun b8 => ?_)
 refine alc rfl zl64 rfl (fun b9 => ?_)
 refine sto rfl rfl rfl cn24 rfl rfl rfl rfl ?_
 refine stoE (l' := ctl c o.fs) rfl rfl rfl cn27 rfl rfl (by show (ctl _ o.fs).all (·.oneCell') = true; simp only [ctl, List.all_cons, List.all_nil, o.cells.2, Bool.and_true]; rfl) rfl (Nat.le_refl _) ?_
 refine stoA rfl rfl rfl cn64 rfl (by rw [ints_length]; exact hmd.mix.len) rfl (ints_one _) ?_
 refine sy_seq ?_
 refine sy_tx' [0, 1, 2] rfl ?_
 refine sp rfl (PE.move rfl) rfl ?_
 refine cl rfl cal31 rfl rfl (c_Fill l1 a1 c1 hl1 _ _) ?_
 rintro _ _ R1 ⟨bj, mj, hmj, rfl, rfl, hR1⟩
 obtain rfl := hR1.symm
 clear hR1
 refine sp rfl (PE.assign rfl) rfl ?_
 refine sy_seq ?_
 refine sy_tx' [0, 1, 2, 3] rfl ?_
 refine sp rfl (PE.move rfl) rfl ?_
 refine cl rfl cal32 rfl rfl (c_Mixed l1 a1 c1 bj hl1 0 mj (by omega) hmj _ _) ?_
 rintro _ _ R1 ⟨q, tq2, mx2, hq, rfl, htq2, hmx2, rfl, hR1⟩
 obtain rfl := hR1.symm
 clear hR1
 refine alc rfl zl64 rfl (fun b11 => ?_)
 refine stoA rfl rfl rfl cn64 rfl (by rw [ints_length]; exact hq.len) rfl (ints_one _) ?_
 refine sy_seq ?_
 refine sy_seq ?_
 refine sy_tx' [0, 1, 2] rfl ?_
 refine sp rfl (PE.move rfl) rfl ?_
 refine sy_pull bj ?_
 refine cl rfl cal33 rfl rfl (c_Below l1 a1 c1 bj hl1 _ _ (by omega) (by assumption) (4) _ _) ?_
 rintro _ _ R1 ⟨x43, m43, hx43, rfl, hm43, rfl, hR1⟩
 obtain rfl := hR1.symm
 refine sp rfl (PE.move rfl) rfl ?_
 refine sy_block ?_
 obtain ⟨n43, rfl⟩ : ∃ n : Nat, x43 = n := ⟨x43.toNat, by omega⟩
 refine sy_loop (ι := (x : {x : Nat × List Hnd × Int × Int // x.1 ≤ n43 ∧ (x.2.1.length = c.hs.length + x.1 ∧ ∀ h ∈ x.2.1, h.ok) ∧ (0 ≤ x.2.2.1 ∧ x.2.2.1 ≤ 11 + 20 * x.1) ∧ (0 ≤ x.2.2.2 ∧ x.2.2.2 ≤ 4294967295)}) × OSl 66 5 (hrows x.1.2.1)) (fun x => ⟨[(2, .slice a2 l2.length c2), (7, .pointer (some ⟨b7, 0, none⟩)), (8, .pointer (some ⟨b8, 0, none⟩)), (10, .pointer (some ⟨bj, 0, none⟩)), (11, .pointer (some ⟨b11, 0, none⟩)), (43, .int .i64 n43), (44, .int .i64 x.1.1.1)],
   (bj, cel 138 [.slice a1 l1.length c1, .int .i64 (x.1.1.2.2.1), .int .u32 (x.1.1.2.2.2)]) :: (x.2.G ++ (b11, cel 64 (ints q)) :: (b8, cel 27 (ctl ⟨c.full, c.empty, x.1.1.2.1⟩ x.2.fs)) :: (b7, cel 24 (gtl g (g.sl ag cg))) :: H), RowsA ag 5 (grows g.grs) :: R⟩) (fun x => n43 - x.1.1.1) ⟨⟨(0, c.hs, tq2 + 1, m43), by omega, ⟨rfl, hmd.cok.hs⟩, by dsimp only; omega, by assumption⟩, o⟩ ?_ (fun x => ?_)
 exact sy_at (by repeat' first | exact Sub.nil | apply Sub.cons | rfl | (simp [lk]; omega)) (fun w h => ((h.del b9).pullG o.G).pull bj)
 obtain ⟨⟨⟨k, hs, tq3, mx3⟩, hk1, ⟨hkl, hkh⟩, htq3, hmx3⟩, o'⟩ := x
 dsimp only at hk1 hkl hkh htq3 hmx3 o' ⊢
 refine sy_seq ?_
 refine sy_tx' [0] rfl ?_
 refine sp rfl (PE.lss rfl rfl) rfl ?_
 refine sy_seq ?_
 refine sy_cond rfl (fun hc0 => ?_) (fun hc0 => ?_)
 try simp only [decide_eq_true_eq, decide_eq_false_iff_not, Bool.and_eq_true, Bool.or_eq_true, Bool.not_eq_true', Int.not_le, Int.not_lt] at hc0
 refine sy_skip ?_
 refine sy_seq ?_
 refine sy_block ?_
 refine sy_draw [0, 1, 0, 0, 0, 28, 60, 127, 255, 511] (.tk 0 (.ld 1 (.tk 2 (.ld 3 (.ld 4 (.big 5 (.big 6 (.big 7 (.tk 8 (.big 9 .done)))))))))) mixed (by kernel_rfl) ?_
 refine tk rfl (PE.fieldAddr fo27_2 rfl) rfl ?_
 refine ld rfl rfl (lh sc25 rfl rfl) rfl ?_
 refine tk rfl (PE.move rfl) rfl ?_
 refine ld rfl rfl (lhA (gtl g (g.sl ag cg)) ag24 rfl rfl rfl) rfl ?_
 refine ld rfl rfl (lhA (ints (q)) ag64 rfl (rest := []) (by rw [List.append_nil]; rfl) (by rw [ints_length]; exact hq.len)) rfl ?_
 refine cl rfl cal34 rfl rfl (c_Taken l1 a1 c1 bj hl1 _ _ (by omega) (by assumption) g hmd.gok.miss (g.sl ag cg) q hq _ _) ?_
 rintro _ _ R1 ⟨h, tq4, mx4, hho, hhf, rfl, htq4, hmx4, rfl, hR1⟩
 obtain rfl := hR1.symm
 clear hR1
 refine bg (fun w hs => ⟨trivial, trivial, (lh sc25 rfl rfl) w hs, trivial⟩) ?_
 refine bsl (out := [_, _, _, _, _]) rfl sl25 zl66 rfl rfl rfl rfl rfl rfl (fun b52 => ?_)
 refine bg (fun w hs => ⟨(lh sc25 rfl rfl) w hs, trivial⟩) ?_
 refine apO (o') rfl ap25 rfl rfl (rowsH (row := hrow h) rfl) rfl rfl ((by simp only [hrows, List.length_map, List.length_singleton]; omega)) rfl (fun o53 => ?_)
 refine bg (fun w hs => ⟨trivial, trivial⟩) ?_
 refine tk rfl (PE.fieldAddr fo27_2 rfl) rfl ?_
 refine stoE (l' := ctl ⟨c.full, c.empty, hs ++ [h]⟩ o53.fs) rfl rfl rfl cn25 rfl (by rw [o53.cells.1]; first | done | rfl) (by rw [o53.cells.1]; simp [o53.cells.2]) (by rw [o53.cells.1]; first | done | rfl) (by rw [o53.cells.1]; first | done | exact Nat.le_refl _) ?_
 refine bg (fun w hs => trivial) ?_
 refine sy_tx' [0, 1] rfl ?_
 refine sy_pull bj ?_
 refine sp rfl (PE.add rfl rfl (by omega)) rfl ?_
 refine sp rfl (PE.move rfl) rfl ?_
 exact sy_next ⟨⟨(k + 1, hs ++ [h], tq4, mx4), by omega, ⟨by simp [hkl]; omega, fun x hx => by rcases List.mem_append.1 hx with hx | hx; exact hkh x hx; obtain rfl := List.mem_singleton.1 hx; exact hho⟩, by dsimp only; omega, by assumption⟩, o53.cast (by simp [hrows])⟩ (by dsimp only; omega) (by repeat' first | exact Sub.nil | apply Sub.cons | rfl | (simp [lk]; omega)) (fun w h => (h.del b52).perm (by first | exact .refl _ | exact List.Perm.cons _ (.refl _)))
 try simp only [decide_eq_true_eq, decide_eq_false_iff_not, Bool.and_eq_true, Bool.or_eq_true, Bool.not_eq_true', Int.not_le, Int.not_lt] at hc0
 obtain rfl : k = n43 := by omega
 obtain ⟨ah, ch, he, hf⟩ := o'.freeze
 rw [he]
 refine Sy.heap (fun w h => (h.del bj).del b11) ?_
 refine Sy.heap (H' := _) (fun w h => hf h) ?_
 rw [show (hrows hs).length = hs.length from List.length_map _]
 clear he hf
 obtain ⟨d, hd⟩ : ∃ d : Crt, d = ⟨c.full, c.empty, hs⟩ := ⟨_, rfl⟩
 have hdh : d.hs = hs := by rw [hd]
 rw [← hdh] at hkl hkh
 have hdm : d.hs.length ≤ 6 := by omega
 have hdo : d.ok := ⟨by omega, by rw [hd]; exact hmd.cok.full, by rw [hd]; exact hmd.cok.empty, hkh⟩
 refine Sy.heap (H' := (b8, cel 27 (ctl d (d.sl ah ch))) :: (b7, cel 24 (gtl g (g.sl ag cg))) :: H) (R' := RowsA ah 5 (hrows d.hs) :: RowsA ag 5 (grows g.grs) :: R) (fun w h => by rw [hd]; exact h) ?_
 have hb0 := (twc hmd.gok hdo hdo (fun _ => Iff.rfl)).bc
 have hcll := cla_len g d
 have htc : (toldE g d false = 0 ∧ (claR g d).2 = 6) ∨ (toldE g d false = 7 ∧ (claR g d).2 = 0) := (tol_cla hb0).imp (fun h => ⟨h.1, h.2.1⟩) (fun h => ⟨h.1, h.2.1⟩)
 have hA : agr g.miss d.hs (fun _ => true) = decide (toldE g d false = 0) := by
   rcases tol_cla hb0 with ⟨h1, _, h2⟩ | ⟨h1, _, _, h2⟩ <;> rw [h1, h2] <;> rfl
 have hB : topB g.miss d.hs = (topK g.miss d.hs 3 && !decide (toldE g d false = 0)) := by rw [topB_eq, hA]
 refine sy_exit ?_
 repeat refine sy_tx ?_
 refine sy_bx ?_
 refine sy_seq ?_
 refine sy_tx' [0, 1, 2, 3, 4, 5, 6, 7, 8] rfl ?_
 refine spL rfl rfl (lhA [_, _, _] ag24 rfl rfl rfl) rfl ?_
 refine spL rfl rfl (lhA [_, _, _] ag27 rfl rfl rfl) rfl ?_
 refine cl rfl cal35 rfl rfl (c_Mixture g ag cg (by omega) d ah ch (by omega) _ _) ?_
 rintro _ _ _ ⟨rfl, rfl, rfl⟩
 refine sp rfl (PE.move rfl) rfl ?_
 refine sp rfl (PE.extract rfl rfl) rfl ?_
 refine sp rfl (PE.extract rfl rfl) rfl ?_
 refine alc rfl zl64 rfl (fun b12 => ?_)
 refine stoA rfl rfl rfl cn64 rfl (by rw [ints_length]; exact mixP_len g d) rfl (ints_one _) ?_
 refine sp rfl (PE.assign rfl) rfl ?_
 refine sy_seq ?_
 refine sy_tx' [0, 1, 2, 3, 4, 5, 6, 7] rfl ?_
 refine spL rfl rfl (lhA [_, _, _] ag24 rfl rfl rfl) rfl ?_
 refine spL rfl rfl (lhA [_, _, _] ag27 rfl rfl rfl) rfl ?_
 refine cl rfl cal21 rfl rfl (c_Clash g ag cg (by omega) d ah ch (by omega) _ _) ?_
 rintro _ _ R1 ⟨ax, cx, rfl, rfl, hR1⟩
 obtain rfl := hR1.symm
 clear hR1
 refine sp rfl (PE.move rfl) rfl ?_
 refine sp rfl (PE.extract rfl rfl) rfl ?_
 refine sp rfl (PE.extract rfl rfl) rfl ?_
 refine sp rfl (PE.assign rfl) rfl ?_
 refine sp rfl (PE.assign rfl) rfl ?_
 refine sy_seq ?_
 refine sy_tx' [0, 1, 2, 3, 4, 5, 6, 7] rfl ?_
 refine spL rfl rfl (lhA [_, _, _] ag24 rfl rfl rfl) rfl ?_
 refine spL rfl rfl (lhA [_, _, _] ag27 rfl rfl rfl) rfl ?_
 refine cl rfl cal22 rfl rfl (c_Topped g ag cg (by omega) d ah ch (by omega) _ _) ?_
 rintro _ _ _ ⟨rfl, rfl, rfl⟩
 rw [hb0]
 refine sp rfl (PE.move rfl) rfl ?_
 refine sp rfl (PE.extract rfl rfl) rfl ?_
 refine sp rfl (PE.extract rfl rfl) rfl ?_
 refine sp rfl (PE.assign rfl) rfl ?_
 refine sp rfl (PE.assign rfl) rfl ?_
 refine sy_seq ?_
 refine sy_seq ?_
 refine sy_tx' [0, 1, 2, 3, 4, 5, 6, 7, 8, 9, 10, 11, 12, 13, 14, 15, 16, 17, 18, 19, 20, 21, 22, 23] rfl ?_
 refine sp rfl (PE.move rfl) rfl ?_
 refine sp rfl (PE.neq rfl rfl) rfl ?_
 refine sp rfl (PE.move rfl) rfl ?_
 refine sy_case (t := 76) rfl (fun g76 => ?_) (fun g76 => ?_)
 exact absurd g76 (by first | (simp; done) | (rw [decide_eq_false (by omega)]; simp))
 refine spG rfl rfl rfl rfl (PE.move rfl) rfl ?_
 refine spG rfl rfl rfl rfl (PE.neq rfl rfl) rfl ?_
 refine spG rfl rfl rfl rfl (PE.move rfl) rfl ?_
 refine sy_case (t := 79) rfl (fun g79 => ?_) (fun g79 => ?_)
 try simp only [decide_eq_true_eq, decide_eq_false_iff_not, Bool.and_eq_true, Bool.or_eq_true, Bool.not_eq_true', Int.not_le, Int.not_lt] at g79
 refine spG rfl rfl rfl rfl (PE.move rfl) rfl ?_
 refine spG rfl rfl rfl rfl (PE.neq rfl rfl) rfl ?_
 refine spG rfl rfl rfl rfl (PE.pick rfl rfl rfl) rfl ?_
 refine sp rfl (PE.pick rfl rfl rfl) rfl ?_
 refine sp rfl (PE.move rfl) rfl ?_
 refine sy_case (t := 84) rfl (fun g84 => ?_) (fun g84 => ?_)
 exfalso; simp at g84 <;> omega
 refine spG rfl rfl rfl rfl (PE.move rfl) rfl ?_
 refine spG rfl rfl rfl rfl (PE.eql rfl rfl) rfl ?_
 refine spG rfl rfl rfl rfl (PE.move rfl) rfl ?_
 refine spG rfl rfl rfl rfl (PE.eql rfl rfl) rfl ?_
 refine spG rfl rfl rfl rfl (PE.neqBool ub4 rfl rfl) rfl ?_
 refine sp rfl (PE.pick rfl rfl rfl) rfl ?_
 refine sp rfl (PE.move rfl) rfl ?_
 refine sy_case (t := 91) rfl (fun g91 => ?_) (fun g91 => ?_)
 exfalso; simp at g91 <;> omega
 refine spG rfl rfl rfl rfl (PE.move rfl) rfl ?_
 refine spG rfl rfl rfl rfl (PE.neq rfl rfl) rfl ?_
 refine spG rfl rfl rfl rfl (PE.move rfl) rfl ?_
 refine spG rfl rfl rfl rfl (PE.eql rfl rfl) rfl ?_
 refine spG rfl rfl rfl rfl (PE.neqBool ub4 rfl rfl) rfl ?_
 refine sp rfl (PE.pick rfl rfl rfl) rfl ?_
 refine sy_cond rfl (fun hc1 => ?_) (fun hc1 => ?_)
 exfalso; simp at hc1 <;> omega
 refine sy_skip ?_
 refine sy_seq ?_
 refine sy_tx' [0] rfl ?_
 refine sp rfl (PE.assign rfl) rfl ?_
 refine sy_seq ?_
 refine sy_seq ?_
 refine sy_tx' [0] rfl ?_
 refine sp rfl (PE.move rfl) rfl ?_
 refine sy_block ?_
 refine sy_loop (ι := {x : Nat × Bool // x.1 ≤ 3 ∧ x.2 = topK g.miss d.hs x.1}) (fun x => ⟨[(2, .slice a2 l2.length c2), (7, .pointer (some ⟨b7, 0, none⟩)), (8, .pointer (some ⟨b8, 0, none⟩)), (13, .int .i64 (toldE g d false)), (14, .slice ax (claR g d).1.length cx), (16, .bool (topB g.miss d.hs)), (18, .bool x.1.2), (98, .int .i64 x.1.1)], (b8, cel 27 (ctl d (d.sl ah ch))) :: (b7, cel 24 (gtl g (g.sl ag cg))) :: H, RowsA ax 1 (irows (claR g d).1) :: RowsA ah 5 (hrows d.hs) :: RowsA ag 5 (grows g.grs) :: R⟩) (fun x => 3 - x.1.1) ⟨(0, true), by omega, rfl⟩ ?_ (fun x => ?_)
 exact sy_at (by repeat' first | exact Sub.nil | apply Sub.cons | rfl | (simp [lk]; omega)) (fun w h => h.del b12)
 obtain ⟨⟨n, ap⟩, hn, hap⟩ := x
 dsimp only at hn hap ⊢
 refine sy_seq ?_
 refine sy_tx' [0] rfl ?_
 refine sp rfl (PE.lss rfl rfl) rfl ?_
 refine sy_seq ?_
 refine sy_cond rfl (fun hc2 => ?_) (fun hc2 => ?_)
 try simp only [decide_eq_true_eq, decide_eq_false_iff_not, Bool.and_eq_true, Bool.or_eq_true, Bool.not_eq_true', Int.not_le, Int.not_lt] at hc2
 refine sy_skip ?_
 refine sy_seq ?_
 refine sy_block ?_
 refine sy_seq ?_
 refine sy_tx' [0, 1] rfl ?_
 refine sp rfl (PE.move rfl) rfl ?_
 refine sp rfl (PE.assign rfl) rfl ?_
 refine sy_seq ?_
 refine sy_tx' [0] rfl ?_
 refine sp rfl (PE.assign rfl) rfl ?_
 refine sy_seq ?_
 refine sy_seq ?_
 refine sy_tx' [0, 1, 2, 3] rfl ?_
 refine sp rfl (PE.fieldAddr fo27_2 rfl) rfl ?_
 refine spL rfl rfl (lh sc25 rfl rfl) rfl ?_
 refine sp rfl (PE.lenSl isl25 rfl) rfl ?_
 refine sp rfl (PE.move rfl) rfl ?_
 refine sy_block ?_
 refine sy_loop (ι := (i : {i : Nat // i ≤ d.hs.length}) × OSl 3 1 (irows ((spI d.hs n i.1).map fun (j : Nat) => (j : Int)))) (fun x => ⟨[(2, .slice a2 l2.length c2), (7, .pointer (some ⟨b7, 0, none⟩)), (8, .pointer (some ⟨b8, 0, none⟩)), (13, .int .i64 (toldE g d false)), (14, .slice ax (claR g d).1.length cx), (16, .bool (topB g.miss d.hs)), (18, .bool ap), (98, .int .i64 n), (19, .int .i64 n), (20, x.2.fs), (102, .slice ah d.hs.length ch), (103, .int .i64 d.hs.length), (104, .int .i64 x.1.1)], x.2.G ++ (b8, cel 27 (ctl d (d.sl ah ch))) :: (b7, cel 24 (gtl g (g.sl ag cg))) :: H, RowsA ax 1 (irows (claR g d).1) :: RowsA ah 5 (hrows d.hs) :: RowsA ag 5 (grows g.grs) :: R⟩) (fun x => d.hs.length - x.1.1) ⟨⟨0, by omega⟩, OSl.nil _ _⟩ ?_ (fun x => ?_)
 exact sy_at (by repeat' first | exact Sub.nil | apply Sub.cons | rfl | (simp [lk]; omega)) (fun _ h => h)
 obtain ⟨⟨i, hi⟩, o⟩ := x
 dsimp only at hi o ⊢
 obtain ⟨hsp1, hsp2, hsp3⟩ := spI_ok d.hs n i
 refine sy_seq ?_
 refine sy_tx' [0] rfl ?_
 refine sp rfl (PE.lss rfl rfl) rfl ?_
 refine sy_seq ?_
 refine sy_cond rfl (fun hc3 => ?_) (fun hc3 => ?_)
 try simp only [decide_eq_true_eq, decide_eq_false_iff_not, Bool.and_eq_true, Bool.or_eq_true, Bool.not_eq_true', Int.not_le, Int.not_lt] at hc3
 obtain ⟨x, hx⟩ : ∃ x, d.hs[i]? = some x := ⟨_, List.getElem?_eq_getElem (by omega)⟩
 have hstp := spI_step d.hs n i
 have hspx : sptB d.hs n i = decide (x.spot = (n : Int)) := by unfold sptB; rw [hx]
 refine sy_addr (a := ah) (sz := 5) (rows := hrows d.hs) (by intro h0; simp [hrows] at h0; simp [h0] at hx) (fun bh oh heh => ?_)
 subst heh
 refine sy_skip ?_
 refine sy_seq ?_
 refine sy_block ?_
 refine sy_seq ?_
 refine sy_tx' [0, 1, 2, 3, 4, 5] rfl ?_
 refine sp rfl (PE.move rfl) rfl ?_
 refine sp rfl (PE.indexAddr el25 rfl rfl (by omega) (by omega)) rfl ?_
 refine spL rfl rfl (lfA ag66 (row := hrow x) (hr_get (by simpa using hx)) rfl) rfl ?_
 refine alc rfl zl66 rfl (fun b22 => ?_)
 refine sp rfl (PE.assign rfl) rfl ?_
 refine sto rfl rfl rfl cn66 rfl rfl rfl rfl ?_
 refine sy_seq ?_
 refine sy_tx' [0, 1, 2, 3] rfl ?_
 refine sp rfl (PE.fieldAddr fo66_0 rfl) rfl ?_
 refine spL rfl rfl (lh sc3 rfl rfl) rfl ?_
 refine sp rfl (PE.move rfl) rfl ?_
 refine sp rfl (PE.eql rfl rfl) rfl ?_
 refine sy_cond rfl (fun hc4 => ?_) (fun hc4 => ?_)
 try simp only [decide_eq_true_eq, decide_eq_false_iff_not, Bool.and_eq_true, Bool.or_eq_true, Bool.not_eq_true', Int.not_le, Int.not_lt] at hc4
 rw [hspx, decide_eq_true (by omega)] at hstp
 refine sy_tx' [0, 1, 2, 3, 4] rfl ?_
 refine sp rfl (PE.move rfl) rfl ?_
 refine sp rfl (PE.move rfl) rfl ?_
 refine bsl (out := [_]) rfl sl28 zl3 rfl rfl rfl rfl rfl rfl (fun b115 => ?_)
 refine apO (o) rfl ap28 rfl rfl (rowsH (row := [.int .i64 i]) rfl) rfl rfl ((by simp only [irows, List.length_map, List.length_singleton]; omega)) rfl (fun o116 => ?_)
 refine sp rfl (PE.assign rfl) rfl ?_
 refine sy_tx' [0, 1] rfl ?_
 refine sp rfl (PE.add rfl rfl (by omega)) rfl ?_
 refine sp rfl (PE.move rfl) rfl ?_
 exact sy_next ⟨⟨i + 1, by omega⟩, o116.cast (by rw [hstp]; simp [irows])⟩ (by dsimp only; omega) (by repeat' first | exact Sub.nil | apply Sub.cons | rfl | (simp [lk]; omega)) (fun w h => (h.del b115).del b22)
 try simp only [decide_eq_true_eq, decide_eq_false_iff_not, Bool.and_eq_true, Bool.or_eq_true, Bool.not_eq_true', Int.not_le, Int.not_lt] at hc4
 rw [hspx, decide_eq_false (by omega)] at hstp
 refine sy_skip ?_
 refine sy_tx' [0, 1] rfl ?_
 refine sp rfl (PE.add rfl rfl (by omega)) rfl ?_
 refine sp rfl (PE.move rfl) rfl ?_
 exact sy_next ⟨⟨i + 1, by omega⟩, o.cast (by rw [hstp]; simp)⟩ (by dsimp only; omega) (by repeat' first | exact Sub.nil | apply Sub.cons | rfl | (simp [lk]; omega)) (fun w h => h.del b22)
 try simp only [decide_eq_true_eq, decide_eq_false_iff_not, Bool.and_eq_true, Bool.or_eq_true, Bool.not_eq_true', Int.not_le, Int.not_lt] at hc3
 obtain rfl : i = d.hs.length := by omega
 obtain ⟨as2, cs2, he, hf⟩ := o.freeze
 rw [he]
 refine Sy.heap (H' := (b8, cel 27 (ctl d (d.sl ah ch))) :: (b7, cel 24 (gtl g (g.sl ag cg))) :: H) (fun w h => hf h) ?_
 rw [show (irows ((spI d.hs n d.hs.length).map fun (j : Nat) => (j : Int))).length = ((spI d.hs n d.hs.length).map fun (j : Nat) => (j : Int)).length from List.length_map _]
 obtain ⟨ea1, ea2⟩ := agr_of hb0 hsp1 hsp2
 rw [spI_agr] at ea2
 clear he hf
 refine sy_exit ?_
 repeat refine sy_tx ?_
 refine sy_bx ?_
 refine sy_seq ?_
 refine sy_tx' [0, 1, 2, 3, 4, 5, 6, 7, 8] rfl ?_
 refine spL rfl rfl (lhA [_, _, _] ag24 rfl rfl rfl) rfl ?_
 refine spL rfl rfl (lhA [_, _, _] ag27 rfl rfl rfl) rfl ?_
 refine sp rfl (PE.move rfl) rfl ?_
 refine cl rfl cal20 rfl rfl (c_Agree g ag cg (by omega) d ah ch (by omega) ((spI d.hs n d.hs.length).map fun (j : Nat) => (j : Int)) as2 cs2 (by rw [List.length_map]; omega) _ _) ?_
 rintro _ _ _ ⟨rfl, rfl, rfl⟩
 rw [ea1, ea2]
 refine sp rfl (PE.move rfl) rfl ?_
 refine sp rfl (PE.extract rfl rfl) rfl ?_
 refine sp rfl (PE.extract rfl rfl) rfl ?_
 refine sp rfl (PE.assign rfl) rfl ?_
 refine sp rfl (PE.assign rfl) rfl ?_
 refine sy_seq ?_
 refine sy_seq ?_
 refine sy_tx' [0, 1] rfl ?_
 refine sp rfl (PE.move rfl) rfl ?_
 refine sp rfl (PE.neq rfl rfl) rfl ?_
 refine sy_cond rfl (fun hc5 => ?_) (fun hc5 => ?_)
 exact absurd hc5 (by first | (simp; done) | (rw [decide_eq_false (by omega)]; simp))
 refine sy_skip ?_
 refine sy_tx' [0, 1, 2, 3, 4] rfl ?_
 refine sp rfl (PE.move rfl) rfl ?_
 refine sp rfl (PE.move rfl) rfl ?_
 refine sy_case (t := 128) rfl (fun g128 => ?_) (fun g128 => ?_)
 try simp only [decide_eq_true_eq, decide_eq_false_iff_not, Bool.and_eq_true, Bool.or_eq_true, Bool.not_eq_true', Int.not_le, Int.not_lt] at g128
 refine spG rfl rfl rfl rfl (PE.move rfl) rfl ?_
 refine sp rfl (PE.pick rfl rfl rfl) rfl ?_
 refine sp rfl (PE.assign rfl) rfl ?_
 refine sy_tx' [0, 1] rfl ?_
 refine sp rfl (PE.add rfl rfl (by omega)) rfl ?_
 refine sp rfl (PE.move rfl) rfl ?_
 first
   | exact sy_next ⟨(n + 1, agr g.miss d.hs (fun i => sptB d.hs n i)), by dsimp only; omega, by dsimp only; rw [topK_step, ← hap, show ap = true from g128]; rfl⟩ (by dsimp only; omega) (by repeat' first | exact Sub.nil | apply Sub.cons | rfl | (simp [lk]; omega)) (fun w h => St.sub h)
   | exact sy_next ⟨(n + 1, false), by dsimp only; omega, by dsimp only; rw [topK_step, ← hap, show ap = false from g128]; rfl⟩ (by dsimp only; omega) (by repeat' first | exact Sub.nil | apply Sub.cons | rfl | (simp [lk]; omega)) (fun w h => St.sub h)
 try simp only [decide_eq_true_eq, decide_eq_false_iff_not, Bool.and_eq_true, Bool.or_eq_true, Bool.not_eq_true', Int.not_le, Int.not_lt] at g128
 refine spN rfl rfl rfl rfl rfl rfl rfl rfl ?_
 refine sp rfl (PE.pick rfl rfl rfl) rfl ?_
 refine sp rfl (PE.assign rfl) rfl ?_
 refine sy_tx' [0, 1] rfl ?_
 refine sp rfl (PE.add rfl rfl (by omega)) rfl ?_
 refine sp rfl (PE.move rfl) rfl ?_
 first
   | exact sy_next ⟨(n + 1, agr g.miss d.hs (fun i => sptB d.hs n i)), by dsimp only; omega, by dsimp only; rw [topK_step, ← hap, show ap = true from g128]; rfl⟩ (by dsimp only; omega) (by repeat' first | exact Sub.nil | apply Sub.cons | rfl | (simp [lk]; omega)) (fun w h => St.sub h)
   | exact sy_next ⟨(n + 1, false), by dsimp only; omega, by dsimp only; rw [topK_step, ← hap, show ap = false from g128]; rfl⟩ (by dsimp only; omega) (by repeat' first | exact Sub.nil | apply Sub.cons | rfl | (simp [lk]; omega)) (fun w h => St.sub h)
 try simp only [decide_eq_true_eq, decide_eq_false_iff_not, Bool.and_eq_true, Bool.or_eq_true, Bool.not_eq_true', Int.not_le, Int.not_lt] at hc2
 obtain rfl : n = 3 := by omega
 refine sy_exit ?_
 repeat refine sy_tx ?_
 refine sy_bx ?_
 refine sy_seq ?_
 refine sy_seq ?_
 refine sy_tx' [0, 1, 2, 3, 4, 5, 6] rfl ?_
 refine sp rfl (PE.move rfl) rfl ?_
 refine sp rfl (PE.move rfl) rfl ?_
 refine sp rfl (PE.move rfl) rfl ?_
 refine sy_case (t := 134) rfl (fun g134 => ?_) (fun g134 => ?_)
 try simp only [decide_eq_true_eq, decide_eq_false_iff_not, Bool.and_eq_true, Bool.or_eq_true, Bool.not_eq_true', Int.not_le, Int.not_lt] at g134
 refine spG rfl rfl rfl rfl (PE.move rfl) rfl ?_
 refine spG rfl rfl rfl rfl (PE.neq rfl rfl) rfl ?_
 refine sp rfl (PE.pick rfl rfl rfl) rfl ?_
 refine sp rfl (PE.neqBool ub4 rfl rfl) rfl ?_
 refine sy_cond rfl (fun hc6 => ?_) (fun hc6 => ?_)
 exfalso; simp [hB] at hc6; simp_all
 refine sy_skip ?_
 refine sy_seq ?_
 refine sy_draw [0, 0, 0, 4, 0, 16, 48, 124, 255, 511, 1023, 1023, 2047, 8191] (.ld 0 (.ld 1 (.tk 2 (.tk 4 (.ld 5 (.tk 6 (.big 3 (.big 7 (.big 8 (.tk 9 (.tk 10 (.tk 11 (.tk 12 (.tk 13 .done)))))))))))))) mixed (by kernel_rfl) ?_
 refine ld rfl rfl (lhA (gtl g (g.sl ag cg)) ag24 rfl rfl rfl) rfl ?_
 refine ld rfl rfl (lhA (ctl d (d.sl ah ch)) ag27 rfl rfl rfl) rfl ?_
 refine tk rfl (PE.move rfl) rfl ?_
 refine tk rfl (PE.fieldAddr fo27_2 rfl) rfl ?_
 refine ld rfl rfl (lh sc25 rfl rfl) rfl ?_
 refine tk rfl (PE.lenSl isl25 rfl) rfl ?_
 refine cl rfl cal31 rfl rfl (c_Fill l2 a2 c2 hl2 _ _) ?_
 rintro _ _ R1 ⟨bl, ml, hml, rfl, rfl, hR1⟩
 obtain rfl := hR1.symm
 clear hR1
 refine bg (fun w hs => ⟨(lh sc25 rfl rfl) w hs, (lhA (ctl d (d.sl ah ch)) ag27 rfl rfl rfl) w hs, (lhA (gtl g (g.sl ag cg)) ag24 rfl rfl rfl) w hs, trivial⟩) ?_
 refine sy_pull bl ?_
 refine cl rfl cal36 rfl rfl (c_Shuffle l2 a2 c2 bl hl2 0 ml (by omega) hml d.hs.length (by omega) _ _) ?_
 rintro _ _ R1 ⟨p, o3, tq5, mx5, hp, rfl, _, _, rfl, hR1⟩
 obtain rfl := hR1.symm
 clear hR1
 refine Sy.heap (fun w h => h.del bl) ?_
 obtain ⟨ap2, cp, he, hf⟩ := o3.freeze
 rw [he]
 refine Sy.heap (fun w h => hf h) ?_
 have hpl := hp.len
 rw [show (irows (p.map fun (j : Nat) => (j : Int))).length = (p.map fun (j : Nat) => (j : Int)).length from List.length_map _]
 obtain ⟨eb1, eb2⟩ := agr_of hb0 hp.nd hp.lt
 rw [show agr g.miss d.hs (fun i => decide (i ∈ p)) = agr g.miss d.hs (fun _ => true) from agr_cong fun i hi => decide_eq_true (ord_all hp hi), hA] at eb2
 clear he hf o3
 refine bg (fun w hs => ⟨trivial, (lhA (ctl d (d.sl ah ch)) ag27 rfl rfl rfl) w hs, (lhA (gtl g (g.sl ag cg)) ag24 rfl rfl rfl) w hs, trivial⟩) ?_
 refine cl rfl cal20 rfl rfl (c_Agree g ag cg (by omega) d ah ch (by omega) (p.map fun (j : Nat) => (j : Int)) ap2 cp (by rw [List.length_map]; omega) _ _) ?_
 rintro _ _ _ ⟨rfl, rfl, rfl⟩
 rw [eb1, eb2]
 refine bg (fun w hs => ⟨trivial, trivial, trivial⟩) ?_
 refine tk rfl (PE.move rfl) rfl ?_
 refine tk rfl (PE.extract rfl rfl) rfl ?_
 refine tk rfl (PE.extract rfl rfl) rfl ?_
 refine tk rfl (PE.assign rfl) rfl ?_
 refine tk rfl (PE.assign rfl) rfl ?_
 refine sy_seq ?_
 refine sy_seq ?_
 refine sy_tx' [0, 1, 2, 3, 4, 5, 6, 7] rfl ?_
 refine sp rfl (PE.move rfl) rfl ?_
 refine sp rfl (PE.neq rfl rfl) rfl ?_
 refine sp rfl (PE.move rfl) rfl ?_
 refine sy_case (t := 153) rfl (fun g153 => ?_) (fun g153 => ?_)
 exact absurd g153 (by first | (simp; done) | (rw [decide_eq_false (by omega)]; simp))
 refine spG rfl rfl rfl rfl (PE.move rfl) rfl ?_
 refine spG rfl rfl rfl rfl (PE.move rfl) rfl ?_
 refine spG rfl rfl rfl rfl (PE.eql rfl rfl) rfl ?_
 refine spG rfl rfl rfl rfl (PE.neqBool ub4 rfl rfl) rfl ?_
 refine sp rfl (PE.pick rfl rfl rfl) rfl ?_
 refine sy_cond rfl (fun hc7 => ?_) (fun hc7 => ?_)
 exfalso; simp at hc7 <;> omega
 refine sy_skip ?_
 refine sy_seq ?_
 refine sy_seq ?_
 refine sy_tx' [0, 1] rfl ?_
 refine sp rfl (PE.move rfl) rfl ?_
 refine sp rfl (PE.eql rfl rfl) rfl ?_
 refine sy_cond rfl (fun hc8 => ?_) (fun hc8 => ?_)
 try simp only [decide_eq_true_eq, decide_eq_false_iff_not, Bool.and_eq_true, Bool.or_eq_true, Bool.not_eq_true', Int.not_le, Int.not_lt] at hc8
 refine sy_seq ?_
 refine sy_tx' [0, 1] rfl ?_
 refine clV rfl cal7 rfl rfl (c_awake _ _) ?_
 refine sp rfl (PE.assign rfl) rfl ?_
 refine sy_ret ?_
 exact sy_return (vs := [_]) rfl (.cons (RV.tmp rfl) .nil) rfl ⟨rfl, rfl, rfl⟩ (fun w h => St.sub ((h.del b8).del b7))
 try simp only [decide_eq_true_eq, decide_eq_false_iff_not, Bool.and_eq_true, Bool.or_eq_true, Bool.not_eq_true', Int.not_le, Int.not_lt] at hc8
 have he7 : toldE g d false ≠ 0 := by omega
 have hAf : agr g.miss d.hs (fun _ => true) = false := by rw [hA]; exact decide_eq_false he7
 obtain ⟨y, hy1, hy2, hy3, hy4, hy5⟩ := clash_less hmd.gok.miss.1 hdo.hs hAf
 have hcl : (claR g d).1 = y.map fun (j : Nat) => (j : Int) := by
   rcases tol_cla hb0 with ⟨h1, _⟩ | ⟨_, _, h1, _⟩
   · exact absurd h1 he7
   · rw [h1, hy1]
 have hyl : (claR g d).1.length = y.length := by rw [hcl, List.length_map]
 obtain ⟨h14a, h14b⟩ := clash4 hmd.gok.miss.1 hdo.hs hAf
 rw [hy1, List.length_map] at h14a h14b
 obtain ⟨ec1, ec2⟩ := agr_of hb0 hy2 hy3
 rw [hy4] at ec2
 rw [← hcl] at ec1 ec2
 refine sy_skip ?_
 refine sy_seq ?_
 refine sy_seq ?_
 refine sy_tx' [0, 1, 2, 3, 4, 5, 6, 7] rfl ?_
 refine sp rfl (PE.move rfl) rfl ?_
 refine sp rfl (PE.lenSl isl28 rfl) rfl ?_
 refine sp rfl (PE.lss rfl rfl) rfl ?_
 refine sp rfl (PE.move rfl) rfl ?_
 refine sy_case (t := 165) rfl (fun g165 => ?_) (fun g165 => ?_)
 exfalso; simp at g165 <;> omega
 refine spG rfl rfl rfl rfl (PE.move rfl) rfl ?_
 refine spG rfl rfl rfl rfl (PE.lenSl isl28 rfl) rfl ?_
 refine spG rfl rfl rfl rfl (PE.gtr rfl rfl) rfl ?_
 refine sp rfl (PE.pick rfl rfl rfl) rfl ?_
 refine sy_cond rfl (fun hc9 => ?_) (fun hc9 => ?_)
 exfalso; simp at hc9 <;> omega
 refine sy_skip ?_
 refine sy_seq ?_
 refine sy_seq ?_
 refine sy_tx' [0, 1, 2, 3, 4, 5, 6, 7, 8] rfl ?_
 refine spL rfl rfl (lhA [_, _, _] ag24 rfl rfl rfl) rfl ?_
 refine spL rfl rfl (lhA [_, _, _] ag27 rfl rfl rfl) rfl ?_
 refine sp rfl (PE.move rfl) rfl ?_
 refine cl rfl cal20 rfl rfl (c_Agree g ag cg (by omega) d ah ch (by omega) (claR g d).1 ax cx (by omega) _ _) ?_
 rintro _ _ _ ⟨rfl, rfl, rfl⟩
 rw [ec1, ec2]
 refine sp rfl (PE.move rfl) rfl ?_
 refine sp rfl (PE.extract rfl rfl) rfl ?_
 refine sp rfl (PE.extract rfl rfl) rfl ?_
 refine sp rfl (PE.assign rfl) rfl ?_
 refine sp rfl (PE.assign rfl) rfl ?_
 refine sy_seq ?_
 refine sy_tx' [0, 1, 2, 3, 4] rfl ?_
 refine sp rfl (PE.move rfl) rfl ?_
 refine sp rfl (PE.neq rfl rfl) rfl ?_
 refine sp rfl (PE.move rfl) rfl ?_
 refine sy_case (t := 179) rfl (fun g179 => ?_) (fun g179 => ?_)
 exact absurd g179 (by first | (simp; done) | (rw [decide_eq_false (by omega)]; simp))
 refine spG rfl rfl rfl rfl (PE.move rfl) rfl ?_
 refine sp rfl (PE.pick rfl rfl rfl) rfl ?_
 refine sy_cond rfl (fun hc10 => ?_) (fun hc10 => ?_)
 exact absurd hc10 (by first | (simp; done) | (rw [decide_eq_false (by omega)]; simp))
 refine sy_skip ?_
 refine sy_seq ?_
 refine sy_seq ?_
 refine sy_tx' [0, 1, 2] rfl ?_
 refine sp rfl (PE.move rfl) rfl ?_
 refine sp rfl (PE.lenSl isl28 rfl) rfl ?_
 refine sp rfl (PE.move rfl) rfl ?_
 refine sy_block ?_
 refine sy_loop (ι := {i : Nat // i ≤ (claR g d).1.length}) (fun i => ⟨[(7, .pointer (some ⟨b7, 0, none⟩)), (8, .pointer (some ⟨b8, 0, none⟩)), (14, .slice ax (claR g d).1.length cx), (183, .int .i64 (claR g d).1.length), (184, .int .i64 i.1)], (b8, cel 27 (ctl d (d.sl ah ch))) :: (b7, cel 24 (gtl g (g.sl ag cg))) :: H, RowsA ax 1 (irows (claR g d).1) :: RowsA ah 5 (hrows d.hs) :: RowsA ag 5 (grows g.grs) :: R⟩) (fun i => (claR g d).1.length - i.1) ⟨0, by omega⟩ ?_ (fun i => ?_)
 exact sy_at (by repeat' first | exact Sub.nil | apply Sub.cons | rfl | (simp [lk]; omega)) (fun w h => St.sub h)
 obtain ⟨i, hi⟩ := i
 dsimp only at hi ⊢
 refine sy_seq ?_
 refine sy_tx' [0] rfl ?_
 refine sp rfl (PE.lss rfl rfl) rfl ?_
 refine sy_seq ?_
 refine sy_cond rfl (fun hc11 => ?_) (fun hc11 => ?_)
 try simp only [decide_eq_true_eq, decide_eq_false_iff_not, Bool.and_eq_true, Bool.or_eq_true, Bool.not_eq_true', Int.not_le, Int.not_lt] at hc11
 obtain ⟨hz1, hz2, hz3⟩ := hy5 i (by omega)
 obtain ⟨ed1, ed2⟩ := agr_of hb0 hz1 hz2
 rw [hz3] at ed2
 rw [← map_erase, ← hcl] at ed1 ed2
 have hzl : ((claR g d).1.eraseIdx i).length ≤ (claR g d).1.length := List.length_eraseIdx_le _ _
 refine sy_skip ?_
 refine sy_seq ?_
 refine sy_block ?_
 refine sy_seq ?_
 refine sy_tx' [0, 1] rfl ?_
 refine sp rfl (PE.move rfl) rfl ?_
 refine sp rfl (PE.assign rfl) rfl ?_
 refine sy_seq ?_
 refine sy_draw [0, 0, 0, 4, 0, 0, 32, 124, 255, 511, 1023, 1023, 2047, 8191] (.ld 0 (.ld 1 (.tk 2 (.tk 4 (.tk 5 (.tk 6 (.big 3 (.big 7 (.big 8 (.tk 9 (.tk 10 (.tk 11 (.tk 12 (.tk 13 .done)))))))))))))) mixed (by kernel_rfl) ?_
 refine ld rfl rfl (lhA (gtl g (g.sl ag cg)) ag24 rfl rfl rfl) rfl ?_
 refine ld rfl rfl (lhA (ctl d (d.sl ah ch)) ag27 rfl rfl rfl) rfl ?_
 refine tk rfl (PE.move rfl) rfl ?_
 refine tk rfl (PE.move rfl) rfl ?_
 refine tk rfl (PE.move rfl) rfl ?_
 refine tk rfl (PE.add rfl rfl (by omega)) rfl ?_
 refine cl rfl cal38 rfl rfl (c_clone_int (claR g d).1 ax cx (by omega) _ _) ?_
 rintro _ _ R1 ⟨o4, rfl, rfl, hR1, _⟩
 obtain rfl := hR1.symm
 clear hR1
 refine bg (fun w hs => ⟨(lhA (ctl d (d.sl ah ch)) ag27 rfl rfl rfl) w hs, (lhA (gtl g (g.sl ag cg)) ag24 rfl rfl rfl) w hs, trivial⟩) ?_
 rw [show (i : Int) + 1 = ((i + 1 : Nat) : Int) from by omega]
 refine cl rfl cal37 rfl rfl (c_Delete (claR g d).1 o4 (by omega) i (by omega) _ _) ?_
 rintro _ _ R1 ⟨ad, cd, rfl, rfl, hR1⟩
 obtain rfl := hR1.symm
 clear hR1
 refine bg (fun w hs => ⟨(lhA (ctl d (d.sl ah ch)) ag27 rfl rfl rfl) w hs, (lhA (gtl g (g.sl ag cg)) ag24 rfl rfl rfl) w hs, trivial⟩) ?_
 refine cl rfl cal20 rfl rfl (c_Agree g ag cg (by omega) d ah ch (by omega) ((claR g d).1.eraseIdx i) ad cd (by omega) _ _) ?_
 rintro _ _ _ ⟨rfl, rfl, rfl⟩
 rw [ed1, ed2]
 refine bg (fun w hs => ⟨trivial, trivial, trivial⟩) ?_
 refine tk rfl (PE.move rfl) rfl ?_
 refine tk rfl (PE.extract rfl rfl) rfl ?_
 refine tk rfl (PE.extract rfl rfl) rfl ?_
 refine tk rfl (PE.assign rfl) rfl ?_
 refine tk rfl (PE.assign rfl) rfl ?_
 refine sy_seq ?_
 refine sy_tx' [0, 1, 2, 3, 4, 5] rfl ?_
 refine sp rfl (PE.move rfl) rfl ?_
 refine sp rfl (PE.neq rfl rfl) rfl ?_
 refine sp rfl (PE.move rfl) rfl ?_
 refine sy_case (t := 201) rfl (fun g201 => ?_) (fun g201 => ?_)
 exact absurd g201 (by first | (simp; done) | (rw [decide_eq_false (by omega)]; simp))
 refine spG rfl rfl rfl rfl (PE.move rfl) rfl ?_
 refine spG rfl rfl rfl rfl (PE.not rfl) rfl ?_
 refine sp rfl (PE.pick rfl rfl rfl) rfl ?_
 refine sy_cond rfl (fun hc12 => ?_) (fun hc12 => ?_)
 exact absurd hc12 (by first | (simp; done) | (rw [decide_eq_false (by omega)]; simp))
 refine sy_skip ?_
 refine sy_tx' [0, 1] rfl ?_
 refine sp rfl (PE.add rfl rfl (by omega)) rfl ?_
 refine sp rfl (PE.move rfl) rfl ?_
 exact sy_next ⟨i + 1, by omega⟩ (by dsimp only; omega) (by repeat' first | exact Sub.nil | apply Sub.cons | rfl | (simp [lk]; omega)) (fun w h => St.sub h)
 try simp only [decide_eq_true_eq, decide_eq_false_iff_not, Bool.and_eq_true, Bool.or_eq_true, Bool.not_eq_true', Int.not_le, Int.not_lt] at hc11
 refine sy_exit ?_
 repeat refine sy_tx ?_
 refine sy_bx ?_
 refine sy_seq ?_
 refine sy_tx' [0, 1] rfl ?_
 refine clV rfl cal7 rfl rfl (c_awake _ _) ?_
 refine sp rfl (PE.assign rfl) rfl ?_
 refine sy_ret ?_
 exact sy_return (vs := [_]) rfl (.cons (RV.tmp rfl) .nil) rfl ⟨rfl, rfl, rfl⟩ (fun w h => St.sub ((h.del b8).del b7))
 try simp only [decide_eq_true_eq, decide_eq_false_iff_not, Bool.and_eq_true, Bool.or_eq_true, Bool.not_eq_true', Int.not_le, Int.not_lt] at g134
 repeat refine spN rfl rfl rfl rfl rfl rfl rfl rfl ?_
 refine sp rfl (PE.pick rfl rfl rfl) rfl ?_
 refine sp rfl (PE.neqBool ub4 rfl rfl) rfl ?_
 refine sy_cond rfl (fun hc6 => ?_) (fun hc6 => ?_)
 exfalso; simp [hB] at hc6; simp_all
 refine sy_skip ?_
 refine sy_seq ?_
 refine sy_draw [0, 0, 0, 4, 0, 16, 48, 124, 255, 511, 1023, 1023, 2047, 8191] (.ld 0 (.ld 1 (.tk 2 (.tk 4 (.ld 5 (.tk 6 (.big 3 (.big 7 (.big 8 (.tk 9 (.tk 10 (.tk 11 (.tk 12 (.tk 13 .done)))))))))))))) mixed (by kernel_rfl) ?_
 refine ld rfl rfl (lhA (gtl g (g.sl ag cg)) ag24 rfl rfl rfl) rfl ?_
 refine ld rfl rfl (lhA (ctl d (d.sl ah ch)) ag27 rfl rfl rfl) rfl ?_
 refine tk rfl (PE.move rfl) rfl ?_
 refine tk rfl (PE.fieldAddr fo27_2 rfl) rfl ?_
 refine ld rfl rfl (lh sc25 rfl rfl) rfl ?_
 refine tk rfl (PE.lenSl isl25 rfl) rfl ?_
 refine cl rfl cal31 rfl rfl (c_Fill l2 a2 c2 hl2 _ _) ?_
 rintro _ _ R1 ⟨bl, ml, hml, rfl, rfl, hR1⟩
 obtain rfl := hR1.symm
 clear hR1
 refine bg (fun w hs => ⟨(lh sc25 rfl rfl) w hs, (lhA (ctl d (d.sl ah ch)) ag27 rfl rfl rfl) w hs, (lhA (gtl g (g.sl ag cg)) ag24 rfl rfl rfl) w hs, trivial⟩) ?_
 refine sy_pull bl ?_
 refine cl rfl cal36 rfl rfl (c_Shuffle l2 a2 c2 bl hl2 0 ml (by omega) hml d.hs.length (by omega) _ _) ?_
 rintro _ _ R1 ⟨p, o3, tq5, mx5, hp, rfl, _, _, rfl, hR1⟩
 obtain rfl := hR1.symm
 clear hR1
 refine Sy.heap (fun w h => h.del bl) ?_
 obtain ⟨ap2, cp, he, hf⟩ := o3.freeze
 rw [he]
 refine Sy.heap (fun w h => hf h) ?_
 have hpl := hp.len
 rw [show (irows (p.map fun (j : Nat) => (j : Int))).length = (p.map fun (j : Nat) => (j : Int)).length from List.length_map _]
 obtain ⟨eb1, eb2⟩ := agr_of hb0 hp.nd hp.lt
 rw [show agr g.miss d.hs (fun i => decide (i ∈ p)) = agr g.miss d.hs (fun _ => true) from agr_cong fun i hi => decide_eq_true (ord_all hp hi), hA] at eb2
 clear he hf o3
 refine bg (fun w hs => ⟨trivial, (lhA (ctl d (d.sl ah ch)) ag27 rfl rfl rfl) w hs, (lhA (gtl g (g.sl ag cg)) ag24 rfl rfl rfl) w hs, trivial⟩) ?_
 refine cl rfl cal20 rfl rfl (c_Agree g ag cg (by omega) d ah ch (by omega) (p.map fun (j : Nat) => (j : Int)) ap2 cp (by rw [List.length_map]; omega) _ _) ?_
 rintro _ _ _ ⟨rfl, rfl, rfl⟩
 rw [eb1, eb2]
 refine bg (fun w hs => ⟨trivial, trivial, trivial⟩) ?_
 refine tk rfl (PE.move rfl) rfl ?_
 refine tk rfl (PE.extract rfl rfl) rfl ?_
 refine tk rfl (PE.extract rfl rfl) rfl ?_
 refine tk rfl (PE.assign rfl) rfl ?_
 refine tk rfl (PE.assign rfl) rfl ?_
 refine sy_seq ?_
 refine sy_seq ?_
 refine sy_tx' [0, 1, 2, 3, 4, 5, 6, 7] rfl ?_
 refine sp rfl (PE.move rfl) rfl ?_
 refine sp rfl (PE.neq rfl rfl) rfl ?_
 refine sp rfl (PE.move rfl) rfl ?_
 refine sy_case (t := 153) rfl (fun g153 => ?_) (fun g153 => ?_)
 exact absurd g153 (by first | (simp; done) | (rw [decide_eq_false (by omega)]; simp))
 refine spG rfl rfl rfl rfl (PE.move rfl) rfl ?_
 refine spG rfl rfl rfl rfl (PE.move rfl) rfl ?_
 refine spG rfl rfl rfl rfl (PE.eql rfl rfl) rfl ?_
 refine spG rfl rfl rfl rfl (PE.neqBool ub4 rfl rfl) rfl ?_
 refine sp rfl (PE.pick rfl rfl rfl) rfl ?_
 refine sy_cond rfl (fun hc7 => ?_) (fun hc7 => ?_)
 exfalso; simp at hc7 <;> omega
 refine sy_skip ?_
 refine sy_seq ?_
 refine sy_seq ?_
 refine sy_tx' [0, 1] rfl ?_
 refine sp rfl (PE.move rfl) rfl ?_
 refine sp rfl (PE.eql rfl rfl) rfl ?_
 refine sy_cond rfl (fun hc8 => ?_) (fun hc8 => ?_)
 try simp only [decide_eq_true_eq, decide_eq_false_iff_not, Bool.and_eq_true, Bool.or_eq_true, Bool.not_eq_true', Int.not_le, Int.not_lt] at hc8
 refine sy_seq ?_
 refine sy_tx' [0, 1] rfl ?_
 refine clV rfl cal7 rfl rfl (c_awake _ _) ?_
 refine sp rfl (PE.assign rfl) rfl ?_
 refine sy_ret ?_
 exact sy_return (vs := [_]) rfl (.cons (RV.tmp rfl) .nil) rfl ⟨rfl, rfl, rfl⟩ (fun w h => St.sub ((h.del b8).del b7))
 try simp only [decide_eq_true_eq, decide_eq_false_iff_not, Bool.and_eq_true, Bool.or_eq_true, Bool.not_eq_true', Int.not_le, Int.not_lt] at hc8
 have he7 : toldE g d false ≠ 0 := by omega
 have hAf : agr g.miss d.hs (fun _ => true) = false := by rw [hA]; exact decide_eq_false he7
 obtain ⟨y, hy1, hy2, hy3, hy4, hy5⟩ := clash_less hmd.gok.miss.1 hdo.hs hAf
 have hcl : (claR g d).1 = y.map fun (j : Nat) => (j : Int) := by
   rcases tol_cla hb0 with ⟨h1, _⟩ | ⟨_, _, h1, _⟩
   · exact absurd h1 he7
   · rw [h1, hy1]
 have hyl : (claR g d).1.length = y.length := by rw [hcl, List.length_map]
 obtain ⟨h14a, h14b⟩ := clash4 hmd.gok.miss.1 hdo.hs hAf
 rw [hy1, List.length_map] at h14a h14b
 obtain ⟨ec1, ec2⟩ := agr_of hb0 hy2 hy3
 rw [hy4] at ec2
 rw [← hcl] at ec1 ec2
 refine sy_skip ?_
 refine sy_seq ?_
 refine sy_seq ?_
 refine sy_tx' [0, 1, 2, 3, 4, 5, 6, 7] rfl ?_
 refine sp rfl (PE.move rfl) rfl ?_
 refine sp rfl (PE.lenSl isl28 rfl) rfl ?_
 refine sp rfl (PE.lss rfl rfl) rfl ?_
 refine sp rfl (PE.move rfl) rfl ?_
 refine sy_case (t := 165) rfl (fun g165 => ?_) (fun g165 => ?_)
 exfalso; simp at g165 <;> omega
 refine spG rfl rfl rfl rfl (PE.move rfl) rfl ?_
 refine spG rfl rfl rfl rfl (PE.lenSl isl28 rfl) rfl ?_
 refine spG rfl rfl rfl rfl (PE.gtr rfl rfl) rfl ?_
 refine sp rfl (PE.pick rfl rfl rfl) rfl ?_
 refine sy_cond rfl (fun hc9 => ?_) (fun hc9 => ?_)
 exfalso; simp at hc9 <;> omega
 refine sy_skip ?_
 refine sy_seq ?_
 refine sy_seq ?_
 refine sy_tx' [0, 1, 2, 3, 4, 5, 6, 7, 8] rfl ?_
 refine spL rfl rfl (lhA [_, _, _] ag24 rfl rfl rfl) rfl ?_
 refine spL rfl rfl (lhA [_, _, _] ag27 rfl rfl rfl) rfl ?_
 refine sp rfl (PE.move rfl) rfl ?_
 refine cl rfl cal20 rfl rfl (c_Agree g ag cg (by omega) d ah ch (by omega) (claR g d).1 ax cx (by omega) _ _) ?_
 rintro _ _ _ ⟨rfl, rfl, rfl⟩
 rw [ec1, ec2]
 refine sp rfl (PE.move rfl) rfl ?_
 refine sp rfl (PE.extract rfl rfl) rfl ?_
 refine sp rfl (PE.extract rfl rfl) rfl ?_
 refine sp rfl (PE.assign rfl) rfl ?_
 refine sp rfl (PE.assign rfl) rfl ?_
 refine sy_seq ?_
 refine sy_tx' [0, 1, 2, 3, 4] rfl ?_
 refine sp rfl (PE.move rfl) rfl ?_
 refine sp rfl (PE.neq rfl rfl) rfl ?_
 refine sp rfl (PE.move rfl) rfl ?_
 refine sy_case (t := 179) rfl (fun g179 => ?_) (fun g179 => ?_)
 exact absurd g179 (by first | (simp; done) | (rw [decide_eq_false (by omega)]; simp))
 refine spG rfl rfl rfl rfl (PE.move rfl) rfl ?_
 refine sp rfl (PE.pick rfl rfl rfl) rfl ?_
 refine sy_cond rfl (fun hc10 => ?_) (fun hc10 => ?_)
 exact absurd hc10 (by first | (simp; done) | (rw [decide_eq_false (by omega)]; simp))
 refine sy_skip ?_
 refine sy_seq ?_
 refine sy_seq ?_
 refine sy_tx' [0, 1, 2] rfl ?_
 refine sp rfl (PE.move rfl) rfl ?_
 refine sp rfl (PE.lenSl isl28 rfl) rfl ?_
 refine sp rfl (PE.move rfl) rfl ?_
 refine sy_block ?_
 refine sy_loop (ι := {i : Nat // i ≤ (claR g d).1.length}) (fun i => ⟨[(7, .pointer (some ⟨b7, 0, none⟩)), (8, .pointer (some ⟨b8, 0, none⟩)), (14, .slice ax (claR g d).1.length cx), (183, .int .i64 (claR g d).1.length), (184, .int .i64 i.1)], (b8, cel 27 (ctl d (d.sl ah ch))) :: (b7, cel 24 (gtl g (g.sl ag cg))) :: H, RowsA ax 1 (irows (claR g d).1) :: RowsA ah 5 (hrows d.hs) :: RowsA ag 5 (grows g.grs) :: R⟩) (fun i => (claR g d).1.length - i.1) ⟨0, by omega⟩ ?_ (fun i => ?_)
 exact sy_at (by repeat' first | exact Sub.nil | apply Sub.cons | rfl | (simp [lk]; omega)) (fun w h => St.sub h)
 obtain ⟨i, hi⟩ := i
 dsimp only at hi ⊢
 refine sy_seq ?_
 refine sy_tx' [0] rfl ?_
 refine sp rfl (PE.lss rfl rfl) rfl ?_
 refine sy_seq ?_
 refine sy_cond rfl (fun hc11 => ?_) (fun hc11 => ?_)
 try simp only [decide_eq_true_eq, decide_eq_false_iff_not, Bool.and_eq_true, Bool.or_eq_true, Bool.not_eq_true', Int.not_le, Int.not_lt] at hc11
 obtain ⟨hz1, hz2, hz3⟩ := hy5 i (by omega)
 obtain ⟨ed1, ed2⟩ := agr_of hb0 hz1 hz2
 rw [hz3] at ed2
 rw [← map_erase, ← hcl] at ed1 ed2
 have hzl : ((claR g d).1.eraseIdx i).length ≤ (claR g d).1.length := List.length_eraseIdx_le _ _
 refine sy_skip ?_
 refine sy_seq ?_
 refine sy_block ?_
 refine sy_seq ?_
 refine sy_tx' [0, 1] rfl ?_
 refine sp rfl (PE.move rfl) rfl ?_
 refine sp rfl (PE.assign rfl) rfl ?_
 refine sy_seq ?_
 refine sy_draw [0, 0, 0, 4, 0, 0, 32, 124, 255, 511, 1023, 1023, 2047, 8191] (.ld 0 (.ld 1 (.tk 2 (.tk 4 (.tk 5 (.tk 6 (.big 3 (.big 7 (.big 8 (.tk 9 (.tk 10 (.tk 11 (.tk 12 (.tk 13 .done)))))))))))))) mixed (by kernel_rfl) ?_
 refine ld rfl rfl (lhA (gtl g (g.sl ag cg)) ag24 rfl rfl rfl) rfl ?_
 refine ld rfl rfl (lhA (ctl d (d.sl ah ch)) ag27 rfl rfl rfl) rfl ?_
 refine tk rfl (PE.move rfl) rfl ?_
 refine tk rfl (PE.move rfl) rfl ?_
 refine tk rfl (PE.move rfl) rfl ?_
 refine tk rfl (PE.add rfl rfl (by omega)) rfl ?_
 refine cl rfl cal38 rfl rfl (c_clone_int (claR g d).1 ax cx (by omega) _ _) ?_
 rintro _ _ R1 ⟨o4, rfl, rfl, hR1, _⟩
 obtain rfl := hR1.symm
 clear hR1
 refine bg (fun w hs => ⟨(lhA (ctl d (d.sl ah ch)) ag27 rfl rfl rfl) w hs, (lhA (gtl g (g.sl ag cg)) ag24 rfl rfl rfl) w hs, trivial⟩) ?_
 rw [show (i : Int) + 1 = ((i + 1 : Nat) : Int) from by omega]
 refine cl rfl cal37 rfl rfl (c_Delete (claR g d).1 o4 (by omega) i (by omega) _ _) ?_
 rintro _ _ R1 ⟨ad, cd, rfl, rfl, hR1⟩
 obtain rfl := hR1.symm
 clear hR1
 refine bg (fun w hs => ⟨(lhA (ctl d (d.sl ah ch)) ag27 rfl rfl rfl) w hs, (lhA (gtl g (g.sl ag cg)) ag24 rfl rfl rfl) w hs, trivial⟩) ?_
 refine cl rfl cal20 rfl rfl (c_Agree g ag cg (by omega) d ah ch (by omega) ((claR g d).1.eraseIdx i) ad cd (by omega) _ _) ?_
 rintro _ _ _ ⟨rfl, rfl, rfl⟩
 rw [ed1, ed2]
 refine bg (fun w hs => ⟨trivial, trivial, trivial⟩) ?_
 refine tk rfl (PE.move rfl) rfl ?_
 refine tk rfl (PE.extract rfl rfl) rfl ?_
 refine tk rfl (PE.extract rfl rfl) rfl ?_
 refine tk rfl (PE.assign rfl) rfl ?_
 refine tk rfl (PE.assign rfl) rfl ?_
 refine sy_seq ?_
 refine sy_tx' [0, 1, 2, 3, 4, 5] rfl ?_
 refine sp rfl (PE.move rfl) rfl ?_
 refine sp rfl (PE.neq rfl rfl) rfl ?_
 refine sp rfl (PE.move rfl) rfl ?_
 refine sy_case (t := 201) rfl (fun g201 => ?_) (fun g201 => ?_)
 exact absurd g201 (by first | (simp; done) | (rw [decide_eq_false (by omega)]; simp))
 refine spG rfl rfl rfl rfl (PE.move rfl) rfl ?_
 refine spG rfl rfl rfl rfl (PE.not rfl) rfl ?_
 refine sp rfl (PE.pick rfl rfl rfl) rfl ?_
 refine sy_cond rfl (fun hc12 => ?_) (fun hc12 => ?_)
 exact absurd hc12 (by first | (simp; done) | (rw [decide_eq_false (by omega)]; simp))
 refine sy_skip ?_
 refine sy_tx' [0, 1] rfl ?_
 refine sp rfl (PE.add rfl rfl (by omega)) rfl ?_
 refine sp rfl (PE.move rfl) rfl ?_
 exact sy_next ⟨i + 1, by omega⟩ (by dsimp only; omega) (by repeat' first | exact Sub.nil | apply Sub.cons | rfl | (simp [lk]; omega)) (fun w h => St.sub h)
 try simp only [decide_eq_true_eq, decide_eq_false_iff_not, Bool.and_eq_true, Bool.or_eq_true, Bool.not_eq_true', Int.not_le, Int.not_lt] at hc11
 refine sy_exit ?_
 repeat refine sy_tx ?_
 refine sy_bx ?_
 refine sy_seq ?_
 refine sy_tx' [0, 1] rfl ?_
 refine clV rfl cal7 rfl rfl (c_awake _ _) ?_
 refine sp rfl (PE.assign rfl) rfl ?_
 refine sy_ret ?_
 exact sy_return (vs := [_]) rfl (.cons (RV.tmp rfl) .nil) rfl ⟨rfl, rfl, rfl⟩ (fun w h => St.sub ((h.del b8).del b7))
 try simp only [decide_eq_true_eq, decide_eq_false_iff_not, Bool.and_eq_true, Bool.or_eq_true, Bool.not_eq_true', Int.not_le, Int.not_lt] at g79
 repeat refine spN rfl rfl rfl rfl rfl rfl rfl rfl ?_
 refine spG rfl rfl rfl rfl (PE.pick rfl rfl rfl) rfl ?_
 refine sp rfl (PE.pick rfl rfl rfl) rfl ?_
 refine sp rfl (PE.move rfl) rfl ?_
 refine spG rfl rfl rfl rfl (PE.move rfl) rfl ?_
 refine spG rfl rfl rfl rfl (PE.eql rfl rfl) rfl ?_
 refine spG rfl rfl rfl rfl (PE.move rfl) rfl ?_
 refine spG rfl rfl rfl rfl (PE.eql rfl rfl) rfl ?_
 refine spG rfl rfl rfl rfl (PE.neqBool ub4 rfl rfl) rfl ?_
 refine sp rfl (PE.pick rfl rfl rfl) rfl ?_
 refine sp rfl (PE.move rfl) rfl ?_
 refine sy_case (t := 91) rfl (fun g91 => ?_) (fun g91 => ?_)
 exfalso; simp at g91 <;> omega
 refine spG rfl rfl rfl rfl (PE.move rfl) rfl ?_
 refine spG rfl rfl rfl rfl (PE.neq rfl rfl) rfl ?_
 refine spG rfl rfl rfl rfl (PE.move rfl) rfl ?_
 refine spG rfl rfl rfl rfl (PE.eql rfl rfl) rfl ?_
 refine spG rfl rfl rfl rfl (PE.neqBool ub4 rfl rfl) rfl ?_
 refine sp rfl (PE.pick rfl rfl rfl) rfl ?_
 refine sy_cond rfl (fun hc1 => ?_) (fun hc1 => ?_)
 exfalso; simp at hc1 <;> omega
 refine sy_skip ?_
 refine sy_seq ?_
 refine sy_tx' [0] rfl ?_
 refine sp rfl (PE.assign rfl) rfl ?_
 refine sy_seq ?_
 refine sy_seq ?_
 refine sy_tx' [0] rfl ?_
 refine sp rfl (PE.move rfl) rfl ?_
 refine sy_block ?_
 refine sy_loop (ι := {x : Nat × Bool // x.1 ≤ 3 ∧ x.2 = topK g.miss d.hs x.1}) (fun x => ⟨[(2, .slice a2 l2.length c2), (7, .pointer (some ⟨b7, 0, none⟩)), (8, .pointer (some ⟨b8, 0, none⟩)), (13, .int .i64 (toldE g d false)), (14, .slice ax (claR g d).1.length cx), (16, .bool (topB g.miss d.hs)), (18, .bool x.1.2), (98, .int .i64 x.1.1)], (b8, cel 27 (ctl d (d.sl ah ch))) :: (b7, cel 24 (gtl g (g.sl ag cg))) :: H, RowsA ax 1 (irows (claR g d).1) :: RowsA ah 5 (hrows d.hs) :: RowsA ag 5 (grows g.grs) :: R⟩) (fun x => 3 - x.1.1) ⟨(0, true), by omega, rfl⟩ ?_ (fun x => ?_)
 exact sy_at (by repeat' first | exact Sub.nil | apply Sub.cons | rfl | (simp [lk]; omega)) (fun w h => h.del b12)
 obtain ⟨⟨n, ap⟩, hn, hap⟩ := x
 dsimp only at hn hap ⊢
 refine sy_seq ?_
 refine sy_tx' [0] rfl ?_
 refine sp rfl (PE.lss rfl rfl) rfl ?_
 refine sy_seq ?_
 refine sy_cond rfl (fun hc2 => ?_) (fun hc2 => ?_)
 try simp only [decide_eq_true_eq, decide_eq_false_iff_not, Bool.and_eq_true, Bool.or_eq_true, Bool.not_eq_true', Int.not_le, Int.not_lt] at hc2
 refine sy_skip ?_
 refine sy_seq ?_
 refine sy_block ?_
 refine sy_seq ?_
 refine sy_tx' [0, 1] rfl ?_
 refine sp rfl (PE.move rfl) rfl ?_
 refine sp rfl (PE.assign rfl) rfl ?_
 refine sy_seq ?_
 refine sy_tx' [0] rfl ?_
 refine sp rfl (PE.assign rfl) rfl ?_
 refine sy_seq ?_
 refine sy_seq ?_
 refine sy_tx' [0, 1, 2, 3] rfl ?_
 refine sp rfl (PE.fieldAddr fo27_2 rfl) rfl ?_
 refine spL rfl rfl (lh sc25 rfl rfl) rfl ?_
 refine sp rfl (PE.lenSl isl25 rfl) rfl ?_
 refine sp rfl (PE.move rfl) rfl ?_
 refine sy_block ?_
 refine sy_loop (ι := (i : {i : Nat // i ≤ d.hs.length}) × OSl 3 1 (irows ((spI d.hs n i.1).map fun (j : Nat) => (j : Int)))) (fun x => ⟨[(2, .slice a2 l2.length c2), (7, .pointer (some ⟨b7, 0, none⟩)), (8, .pointer (some ⟨b8, 0, none⟩)), (13, .int .i64 (toldE g d false)), (14, .slice ax (claR g d).1.length cx), (16, .bool (topB g.miss d.hs)), (18, .bool ap), (98, .int .i64 n), (19, .int .i64 n), (20, x.2.fs), (102, .slice ah d.hs.length ch), (103, .int .i64 d.hs.length), (104, .int .i64 x.1.1)], x.2.G ++ (b8, cel 27 (ctl d (d.sl ah ch))) :: (b7, cel 24 (gtl g (g.sl ag cg))) :: H, RowsA ax 1 (irows (claR g d).1) :: RowsA ah 5 (hrows d.hs) :: RowsA ag 5 (grows g.grs) :: R⟩) (fun x => d.hs.length - x.1.1) ⟨⟨0, by omega⟩, OSl.nil _ _⟩ ?_ (fun x => ?_)
 exact sy_at (by repeat' first | exact Sub.nil | apply Sub.cons | rfl | (simp [lk]; omega)) (fun _ h => h)
 obtain ⟨⟨i, hi⟩, o⟩ := x
 dsimp only at hi o ⊢
 obtain ⟨hsp1, hsp2, hsp3⟩ := spI_ok d.hs n i
 refine sy_seq ?_
 refine sy_tx' [0] rfl ?_
 refine sp rfl (PE.lss rfl rfl) rfl ?_
 refine sy_seq ?_
 refine sy_cond rfl (fun hc3 => ?_) (fun hc3 => ?_)
 try simp only [decide_eq_true_eq, decide_eq_false_iff_not, Bool.and_eq_true, Bool.or_eq_true, Bool.not_eq_true', Int.not_le, Int.not_lt] at hc3
 obtain ⟨x, hx⟩ : ∃ x, d.hs[i]? = some x := ⟨_, List.getElem?_eq_getElem (by omega)⟩
 have hstp := spI_step d.hs n i
 have hspx : sptB d.hs n i = decide (x.spot = (n : Int)) := by unfold sptB; rw [hx]
 refine sy_addr (a := ah) (sz := 5) (rows := hrows d.hs) (by intro h0; simp [hrows] at h0; simp [h0] at hx) (fun bh oh heh => ?_)
 subst heh
 refine sy_skip ?_
 refine sy_seq ?_
 refine sy_block ?_
 refine sy_seq ?_
 refine sy_tx' [0, 1, 2, 3, 4, 5] rfl ?_
 refine sp rfl (PE.move rfl) rfl ?_
 refine sp rfl (PE.indexAddr el25 rfl rfl (by omega) (by omega)) rfl ?_
 refine spL rfl rfl (lfA ag66 (row := hrow x) (hr_get (by simpa using hx)) rfl) rfl ?_
 refine alc rfl zl66 rfl (fun b22 => ?_)
 refine sp rfl (PE.assign rfl) rfl ?_
 refine sto rfl rfl rfl cn66 rfl rfl rfl rfl ?_
 refine sy_seq ?_
 refine sy_tx' [0, 1, 2, 3] rfl ?_
 refine sp rfl (PE.fieldAddr fo66_0 rfl) rfl ?_
 refine spL rfl rfl (lh sc3 rfl rfl) rfl ?_
 refine sp rfl (PE.move rfl) rfl ?_
 refine sp rfl (PE.eql rfl rfl) rfl ?_
 refine sy_cond rfl (fun hc4 => ?_) (fun hc4 => ?_)
 try simp only [decide_eq_true_eq, decide_eq_false_iff_not, Bool.and_eq_true, Bool.or_eq_true, Bool.not_eq_true', Int.not_le, Int.not_lt] at hc4
 rw [hspx, decide_eq_true (by omega)] at hstp
 refine sy_tx' [0, 1, 2, 3, 4] rfl ?_
 refine sp rfl (PE.move rfl) rfl ?_
 refine sp rfl (PE.move rfl) rfl ?_
 refine bsl (out := [_]) rfl sl28 zl3 rfl rfl rfl rfl rfl rfl (fun b115 => ?_)
 refine apO (o) rfl ap28 rfl rfl (rowsH (row := [.int .i64 i]) rfl) rfl rfl ((by simp only [irows, List.length_map, List.length_singleton]; omega)) rfl (fun o116 => ?_)
 refine sp rfl (PE.assign rfl) rfl ?_
 refine sy_tx' [0, 1] rfl ?_
 refine sp rfl (PE.add rfl rfl (by omega)) rfl ?_
 refine sp rfl (PE.move rfl) rfl ?_
 exact sy_next ⟨⟨i + 1, by omega⟩, o116.cast (by rw [hstp]; simp [irows])⟩ (by dsimp only; omega) (by repeat' first | exact Sub.nil | apply Sub.cons | rfl | (simp [lk]; omega)) (fun w h => (h.del b115).del b22)
 try simp only [decide_eq_true_eq, decide_eq_false_iff_not, Bool.and_eq_true, Bool.or_eq_true, Bool.not_eq_true', Int.not_le, Int.not_lt] at hc4
 rw [hspx, decide_eq_false (by omega)] at hstp
 refine sy_skip ?_
 refine sy_tx' [0, 1] rfl ?_
 refine sp rfl (PE.add rfl rfl (by omega)) rfl ?_
 refine sp rfl (PE.move rfl) rfl ?_
 exact sy_next ⟨⟨i + 1, by omega⟩, o.cast (by rw [hstp]; simp)⟩ (by dsimp only; omega) (by repeat' first | exact Sub.nil | apply Sub.cons | rfl | (simp [lk]; omega)) (fun w h => h.del b22)
 try simp only [decide_eq_true_eq, decide_eq_false_iff_not, Bool.and_eq_true, Bool.or_eq_true, Bool.not_eq_true', Int.not_le, Int.not_lt] at hc3
 obtain rfl : i = d.hs.length := by omega
 obtain ⟨as2, cs2, he, hf⟩ := o.freeze
 rw [he]
 refine Sy.heap (H' := (b8, cel 27 (ctl d (d.sl ah ch))) :: (b7, cel 24 (gtl g (g.sl ag cg))) :: H) (fun w h => hf h) ?_
 rw [show (irows ((spI d.hs n d.hs.length).map fun (j : Nat) => (j : Int))).length = ((spI d.hs n d.hs.length).map fun (j : Nat) => (j : Int)).length from List.length_map _]
 obtain ⟨ea1, ea2⟩ := agr_of hb0 hsp1 hsp2
 rw [spI_agr] at ea2
 clear he hf
 refine sy_exit ?_
 repeat refine sy_tx ?_
 refine sy_bx ?_
 refine sy_seq ?_
 refine sy_tx' [0, 1, 2, 3, 4, 5, 6, 7, 8] rfl ?_
 refine spL rfl rfl (lhA [_, _, _] ag24 rfl rfl rfl) rfl ?_
 refine spL rfl rfl (lhA [_, _, _] ag27 rfl rfl rfl) rfl ?_
 refine sp rfl (PE.move rfl) rfl ?_
 refine cl rfl cal20 rfl rfl (c_Agree g ag cg (by omega) d ah ch (by omega) ((spI d.hs n d.hs.length).map fun (j : Nat) => (j : Int)) as2 cs2 (by rw [List.length_map]; omega) _ _) ?_
 rintro _ _ _ ⟨rfl, rfl, rfl⟩
 rw [ea1, ea2]
 refine sp rfl (PE.move rfl) rfl ?_
 refine sp rfl (PE.extract rfl rfl) rfl ?_
 refine sp rfl (PE.extract rfl rfl) rfl ?_
 refine sp rfl (PE.assign rfl) rfl ?_
 refine sp rfl (PE.assign rfl) rfl ?_
 refine sy_seq ?_
 refine sy_seq ?_
 refine sy_tx' [0, 1] rfl ?_
 refine sp rfl (PE.move rfl) rfl ?_
 refine sp rfl (PE.neq rfl rfl) rfl ?_
 refine sy_cond rfl (fun hc5 => ?_) (fun hc5 => ?_)
 exact absurd hc5 (by first | (simp; done) | (rw [decide_eq_false (by omega)]; simp))
 refine sy_skip ?_
 refine sy_tx' [0, 1, 2, 3, 4] rfl ?_
 refine sp rfl (PE.move rfl) rfl ?_
 refine sp rfl (PE.move rfl) rfl ?_
 refine sy_case (t := 128) rfl (fun g128 => ?_) (fun g128 => ?_)
 try simp only [decide_eq_true_eq, decide_eq_false_iff_not, Bool.and_eq_true, Bool.or_eq_true, Bool.not_eq_true', Int.not_le, Int.not_lt] at g128
 refine spG rfl rfl rfl rfl (PE.move rfl) rfl ?_
 refine sp rfl (PE.pick rfl rfl rfl) rfl ?_
 refine sp rfl (PE.assign rfl) rfl ?_
 refine sy_tx' [0, 1] rfl ?_
 refine sp rfl (PE.add rfl rfl (by omega)) rfl ?_
 refine sp rfl (PE.move rfl) rfl ?_
 first
   | exact sy_next ⟨(n + 1, agr g.miss d.hs (fun i => sptB d.hs n i)), by dsimp only; omega, by dsimp only; rw [topK_step, ← hap, show ap = true from g128]; rfl⟩ (by dsimp only; omega) (by repeat' first | exact Sub.nil | apply Sub.cons | rfl | (simp [lk]; omega)) (fun w h => St.sub h)
   | exact sy_next ⟨(n + 1, false), by dsimp only; omega, by dsimp only; rw [topK_step, ← hap, show ap = false from g128]; rfl⟩ (by dsimp only; omega) (by repeat' first | exact Sub.nil | apply Sub.cons | rfl | (simp [lk]; omega)) (fun w h => St.sub h)
 try simp only [decide_eq_true_eq, decide_eq_false_iff_not, Bool.and_eq_true, Bool.or_eq_true, Bool.not_eq_true', Int.not_le, Int.not_lt] at g128
 refine spN rfl rfl rfl rfl rfl rfl rfl rfl ?_
 refine sp rfl (PE.pick rfl rfl rfl) rfl ?_
 refine sp rfl (PE.assign rfl) rfl ?_
 refine sy_tx' [0, 1] rfl ?_
 refine sp rfl (PE.add rfl rfl (by omega)) rfl ?_
 refine sp rfl (PE.move rfl) rfl ?_
 first
   | exact sy_next ⟨(n + 1, agr g.miss d.hs (fun i => sptB d.hs n i)), by dsimp only; omega, by dsimp only; rw [topK_step, ← hap, show ap = true from g128]; rfl⟩ (by dsimp only; omega) (by repeat' first | exact Sub.nil | apply Sub.cons | rfl | (simp [lk]; omega)) (fun w h => St.sub h)
   | exact sy_next ⟨(n + 1, false), by dsimp only; omega, by dsimp only; rw [topK_step, ← hap, show ap = false from g128]; rfl⟩ (by dsimp only; omega) (by repeat' first | exact Sub.nil | apply Sub.cons | rfl | (simp [lk]; omega)) (fun w h => St.sub h)
 try simp only [decide_eq_true_eq, decide_eq_false_iff_not, Bool.and_eq_true, Bool.or_eq_true, Bool.not_eq_true', Int.not_le, Int.not_lt] at hc2
 obtain rfl : n = 3 := by omega
 refine sy_exit ?_
 repeat refine sy_tx ?_
 refine sy_bx ?_
 refine sy_seq ?_
 refine sy_seq ?_
 refine sy_tx' [0, 1, 2, 3, 4, 5, 6] rfl ?_
 refine sp rfl (PE.move rfl) rfl ?_
 refine sp rfl (PE.move rfl) rfl ?_
 refine sp rfl (PE.move rfl) rfl ?_
 refine sy_case (t := 134) rfl (fun g134 => ?_) (fun g134 => ?_)
 try simp only [decide_eq_true_eq, decide_eq_false_iff_not, Bool.and_eq_true, Bool.or_eq_true, Bool.not_eq_true', Int.not_le, Int.not_lt] at g134
 refine spG rfl rfl rfl rfl (PE.move rfl) rfl ?_
 refine spG rfl rfl rfl rfl (PE.neq rfl rfl) rfl ?_
 refine sp rfl (PE.pick rfl rfl rfl) rfl ?_
 refine sp rfl (PE.neqBool ub4 rfl rfl) rfl ?_
 refine sy_cond rfl (fun hc6 => ?_) (fun hc6 => ?_)
 exfalso; simp [hB] at hc6; simp_all
 refine sy_skip ?_
 refine sy_seq ?_
 refine sy_draw [0, 0, 0, 4, 0, 16, 48, 124, 255, 511, 1023, 1023, 2047, 8191] (.ld 0 (.ld 1 (.tk 2 (.tk 4 (.ld 5 (.tk 6 (.big 3 (.big 7 (.big 8 (.tk 9 (.tk 10 (.tk 11 (.tk 12 (.tk 13 .done)))))))))))))) mixed (by kernel_rfl) ?_
 refine ld rfl rfl (lhA (gtl g (g.sl ag cg)) ag24 rfl rfl rfl) rfl ?_
 refine ld rfl rfl (lhA (ctl d (d.sl ah ch)) ag27 rfl rfl rfl) rfl ?_
 refine tk rfl (PE.move rfl) rfl ?_
 refine tk rfl (PE.fieldAddr fo27_2 rfl) rfl ?_
 refine ld rfl rfl (lh sc25 rfl rfl) rfl ?_
 refine tk rfl (PE.lenSl isl25 rfl) rfl ?_
 refine cl rfl cal31 rfl rfl (c_Fill l2 a2 c2 hl2 _ _) ?_
 rintro _ _ R1 ⟨bl, ml, hml, rfl, rfl, hR1⟩
 obtain rfl := hR1.symm
 clear hR1
 refine bg (fun w hs => ⟨(lh sc25 rfl rfl) w hs, (lhA (ctl d (d.sl ah ch)) ag27 rfl rfl rfl) w hs, (lhA (gtl g (g.sl ag cg)) ag24 rfl rfl rfl) w hs, trivial⟩) ?_
 refine sy_pull bl ?_
 refine cl rfl cal36 rfl rfl (c_Shuffle l2 a2 c2 bl hl2 0 ml (by omega) hml d.hs.length (by omega) _ _) ?_
 rintro _ _ R1 ⟨p, o3, tq5, mx5, hp, rfl, _, _, rfl, hR1⟩
 obtain rfl := hR1.symm
 clear hR1
 refine Sy.heap (fun w h => h.del bl) ?_
 obtain ⟨ap2, cp, he, hf⟩ := o3.freeze
 rw [he]
 refine Sy.heap (fun w h => hf h) ?_
 have hpl := hp.len
 rw [show (irows (p.map fun (j : Nat) => (j : Int))).length = (p.map fun (j : Nat) => (j : Int)).length from List.length_map _]
 obtain ⟨eb1, eb2⟩ := agr_of hb0 hp.nd hp.lt
 rw [show agr g.miss d.hs (fun i => decide (i ∈ p)) = agr g.miss d.hs (fun _ => true) from agr_cong fun i hi => decide_eq_true (ord_all hp hi), hA] at eb2
 clear he hf o3
 refine bg (fun w hs => ⟨trivial, (lhA (ctl d (d.sl ah ch)) ag27 rfl rfl rfl) w hs, (lhA (gtl g (g.sl ag cg)) ag24 rfl rfl rfl) w hs, trivial⟩) ?_
 refine cl rfl cal20 rfl rfl (c_Agree g ag cg (by omega) d ah ch (by omega) (p.map fun (j : Nat) => (j : Int)) ap2 cp (by rw [List.length_map]; omega) _ _) ?_
 rintro _ _ _ ⟨rfl, rfl, rfl⟩
 rw [eb1, eb2]
 refine bg (fun w hs => ⟨trivial, trivial, trivial⟩) ?_
 refine tk rfl (PE.move rfl) rfl ?_
 refine tk rfl (PE.extract rfl rfl) rfl ?_
 refine tk rfl (PE.extract rfl rfl) rfl ?_
 refine tk rfl (PE.assign rfl) rfl ?_
 refine tk rfl (PE.assign rfl) rfl ?_
 refine sy_seq ?_
 refine sy_seq ?_
 refine sy_tx' [0, 1, 2, 3, 4, 5, 6, 7] rfl ?_
 refine sp rfl (PE.move rfl) rfl ?_
 refine sp rfl (PE.neq rfl rfl) rfl ?_
 refine sp rfl (PE.move rfl) rfl ?_
 refine sy_case (t := 153) rfl (fun g153 => ?_) (fun g153 => ?_)
 exact absurd g153 (by first | (simp; done) | (rw [decide_eq_false (by omega)]; simp))
 refine spG rfl rfl rfl rfl (PE.move rfl) rfl ?_
 refine spG rfl rfl rfl rfl (PE.move rfl) rfl ?_
 refine spG rfl rfl rfl rfl (PE.eql rfl rfl) rfl ?_
 refine spG rfl rfl rfl rfl (PE.neqBool ub4 rfl rfl) rfl ?_
 refine sp rfl (PE.pick rfl rfl rfl) rfl ?_
 refine sy_cond rfl (fun hc7 => ?_) (fun hc7 => ?_)
 exfalso; simp at hc7 <;> omega
 refine sy_skip ?_
 refine sy_seq ?_
 refine sy_seq ?_
 refine sy_tx' [0, 1] rfl ?_
 refine sp rfl (PE.move rfl) rfl ?_
 refine sp rfl (PE.eql rfl rfl) rfl ?_
 refine sy_cond rfl (fun hc8 => ?_) (fun hc8 => ?_)
 try simp only [decide_eq_true_eq, decide_eq_false_iff_not, Bool.and_eq_true, Bool.or_eq_true, Bool.not_eq_true', Int.not_le, Int.not_lt] at hc8
 refine sy_seq ?_
 refine sy_tx' [0, 1] rfl ?_
 refine clV rfl cal7 rfl rfl (c_awake _ _) ?_
 refine sp rfl (PE.assign rfl) rfl ?_
 refine sy_ret ?_
 exact sy_return (vs := [_]) rfl (.cons (RV.tmp rfl) .nil) rfl ⟨rfl, rfl, rfl⟩ (fun w h => St.sub ((h.del b8).del b7))
 try simp only [decide_eq_true_eq, decide_eq_false_iff_not, Bool.and_eq_true, Bool.or_eq_true, Bool.not_eq_true', Int.not_le, Int.not_lt] at hc8
 have he7 : toldE g d false ≠ 0 := by omega
 have hAf : agr g.miss d.hs (fun _ => true) = false := by rw [hA]; exact decide_eq_false he7
 obtain ⟨y, hy1, hy2, hy3, hy4, hy5⟩ := clash_less hmd.gok.miss.1 hdo.hs hAf
 have hcl : (claR g d).1 = y.map fun (j : Nat) => (j : Int) := by
   rcases tol_cla hb0 with ⟨h1, _⟩ | ⟨_, _, h1, _⟩
   · exact absurd h1 he7
   · rw [h1, hy1]
 have hyl : (claR g d).1.length = y.length := by rw [hcl, List.length_map]
 obtain ⟨h14a, h14b⟩ := clash4 hmd.gok.miss.1 hdo.hs hAf
 rw [hy1, List.length_map] at h14a h14b
 obtain ⟨ec1, ec2⟩ := agr_of hb0 hy2 hy3
 rw [hy4] at ec2
 rw [← hcl] at ec1 ec2
 refine sy_skip ?_
 refine sy_seq ?_
 refine sy_seq ?_
 refine sy_tx' [0, 1, 2, 3, 4, 5, 6, 7] rfl ?_
 refine sp rfl (PE.move rfl) rfl ?_
 refine sp rfl (PE.lenSl isl28 rfl) rfl ?_
 refine sp rfl (PE.lss rfl rfl) rfl ?_
 refine sp rfl (PE.move rfl) rfl ?_
 refine sy_case (t := 165) rfl (fun g165 => ?_) (fun g165 => ?_)
 exfalso; simp at g165 <;> omega
 refine spG rfl rfl rfl rfl (PE.move rfl) rfl ?_
 refine spG rfl rfl rfl rfl (PE.lenSl isl28 rfl) rfl ?_
 refine spG rfl rfl rfl rfl (PE.gtr rfl rfl) rfl ?_
 refine sp rfl (PE.pick rfl rfl rfl) rfl ?_
 refine sy_cond rfl (fun hc9 => ?_) (fun hc9 => ?_)
 exfalso; simp at hc9 <;> omega
 refine sy_skip ?_
 refine sy_seq ?_
 refine sy_seq ?_
 refine sy_tx' [0, 1, 2, 3, 4, 5, 6, 7, 8] rfl ?_
 refine spL rfl rfl (lhA [_, _, _] ag24 rfl rfl rfl) rfl ?_
 refine spL rfl rfl (lhA [_, _, _] ag27 rfl rfl rfl) rfl ?_
 refine sp rfl (PE.move rfl) rfl ?_
 refine cl rfl cal20 rfl rfl (c_Agree g ag cg (by omega) d ah ch (by omega) (claR g d).1 ax cx (by omega) _ _) ?_
 rintro _ _ _ ⟨rfl, rfl, rfl⟩
 rw [ec1, ec2]
 refine sp rfl (PE.move rfl) rfl ?_
 refine sp rfl (PE.extract rfl rfl) rfl ?_
 refine sp rfl (PE.extract rfl rfl) rfl ?_
 refine sp rfl (PE.assign rfl) rfl ?_
 refine sp rfl (PE.assign rfl) rfl ?_
 refine sy_seq ?_
 refine sy_tx' [0, 1, 2, 3, 4] rfl ?_
 refine sp rfl (PE.move rfl) rfl ?_
 refine sp rfl (PE.neq rfl rfl) rfl ?_
 refine sp rfl (PE.move rfl) rfl ?_
 refine sy_case (t := 179) rfl (fun g179 => ?_) (fun g179 => ?_)
 exact absurd g179 (by first | (simp; done) | (rw [decide_eq_false (by omega)]; simp))
 refine spG rfl rfl rfl rfl (PE.move rfl) rfl ?_
 refine sp rfl (PE.pick rfl rfl rfl) rfl ?_
 refine sy_cond rfl (fun hc10 => ?_) (fun hc10 => ?_)
 exact absurd hc10 (by first | (simp; done) | (rw [decide_eq_false (by omega)]; simp))
 refine sy_skip ?_
 refine sy_seq ?_
 refine sy_seq ?_
 refine sy_tx' [0, 1, 2] rfl ?_
 refine sp rfl (PE.move rfl) rfl ?_
 refine sp rfl (PE.lenSl isl28 rfl) rfl ?_
 refine sp rfl (PE.move rfl) rfl ?_
 refine sy_block ?_
 refine sy_loop (ι := {i : Nat // i ≤ (claR g d).1.length}) (fun i => ⟨[(7, .pointer (some ⟨b7, 0, none⟩)), (8, .pointer (some ⟨b8, 0, none⟩)), (14, .slice ax (claR g d).1.length cx), (183, .int .i64 (claR g d).1.length), (184, .int .i64 i.1)], (b8, cel 27 (ctl d (d.sl ah ch))) :: (b7, cel 24 (gtl g (g.sl ag cg))) :: H, RowsA ax 1 (irows (claR g d).1) :: RowsA ah 5 (hrows d.hs) :: RowsA ag 5 (grows g.grs) :: R⟩) (fun i => (claR g d).1.length - i.1) ⟨0, by omega⟩ ?_ (fun i => ?_)
 exact sy_at (by repeat' first | exact Sub.nil | apply Sub.cons | rfl | (simp [lk]; omega)) (fun w h => St.sub h)
 obtain ⟨i, hi⟩ := i
 dsimp only at hi ⊢
 refine sy_seq ?_
 refine sy_tx' [0] rfl ?_
 refine sp rfl (PE.lss rfl rfl) rfl ?_
 refine sy_seq ?_
 refine sy_cond rfl (fun hc11 => ?_) (fun hc11 => ?_)
 try simp only [decide_eq_true_eq, decide_eq_false_iff_not, Bool.and_eq_true, Bool.or_eq_true, Bool.not_eq_true', Int.not_le, Int.not_lt] at hc11
 obtain ⟨hz1, hz2, hz3⟩ := hy5 i (by omega)
 obtain ⟨ed1, ed2⟩ := agr_of hb0 hz1 hz2
 rw [hz3] at ed2
 rw [← map_erase, ← hcl] at ed1 ed2
 have hzl : ((claR g d).1.eraseIdx i).length ≤ (claR g d).1.length := List.length_eraseIdx_le _ _
 refine sy_skip ?_
 refine sy_seq ?_
 refine sy_block ?_
 refine sy_seq ?_
 refine sy_tx' [0, 1] rfl ?_
 refine sp rfl (PE.move rfl) rfl ?_
 refine sp rfl (PE.assign rfl) rfl ?_
 refine sy_seq ?_
 refine sy_draw [0, 0, 0, 4, 0, 0, 32, 124, 255, 511, 1023, 1023, 2047, 8191] (.ld 0 (.ld 1 (.tk 2 (.tk 4 (.tk 5 (.tk 6 (.big 3 (.big 7 (.big 8 (.tk 9 (.tk 10 (.tk 11 (.tk 12 (.tk 13 .done)))))))))))))) mixed (by kernel_rfl) ?_
 refine ld rfl rfl (lhA (gtl g (g.sl ag cg)) ag24 rfl rfl rfl) rfl ?_
 refine ld rfl rfl (lhA (ctl d (d.sl ah ch)) ag27 rfl rfl rfl) rfl ?_
 refine tk rfl (PE.move rfl) rfl ?_
 refine tk rfl (PE.move rfl) rfl ?_
 refine tk rfl (PE.move rfl) rfl ?_
 refine tk rfl (PE.add rfl rfl (by omega)) rfl ?_
 refine cl rfl cal38 rfl rfl (c_clone_int (claR g d).1 ax cx (by omega) _ _) ?_
 rintro _ _ R1 ⟨o4, rfl, rfl, hR1, _⟩
 obtain rfl := hR1.symm
 clear hR1
 refine bg (fun w hs => ⟨(lhA (ctl d (d.sl ah ch)) ag27 rfl rfl rfl) w hs, (lhA (gtl g (g.sl ag cg)) ag24 rfl rfl rfl) w hs, trivial⟩) ?_
 rw [show (i : Int) + 1 = ((i + 1 : Nat) : Int) from by omega]
 refine cl rfl cal37 rfl rfl (c_Delete (claR g d).1 o4 (by omega) i (by omega) _ _) ?_
 rintro _ _ R1 ⟨ad, cd, rfl, rfl, hR1⟩
 obtain rfl := hR1.symm
 clear hR1
 refine bg (fun w hs => ⟨(lhA (ctl d (d.sl ah ch)) ag27 rfl rfl rfl) w hs, (lhA (gtl g (g.sl ag cg)) ag24 rfl rfl rfl) w hs, trivial⟩) ?_
 refine cl rfl cal20 rfl rfl (c_Agree g ag cg (by omega) d ah ch (by omega) ((claR g d).1.eraseIdx i) ad cd (by omega) _ _) ?_
 rintro _ _ _ ⟨rfl, rfl, rfl⟩
 rw [ed1, ed2]
 refine bg (fun w hs => ⟨trivial, trivial, trivial⟩) ?_
 refine tk rfl (PE.move rfl) rfl ?_
 refine tk rfl (PE.extract rfl rfl) rfl ?_
 refine tk rfl (PE.extract rfl rfl) rfl ?_
 refine tk rfl (PE.assign rfl) rfl ?_
 refine tk rfl (PE.assign rfl) rfl ?_
 refine sy_seq ?_
 refine sy_tx' [0, 1, 2, 3, 4, 5] rfl ?_
 refine sp rfl (PE.move rfl) rfl ?_
 refine sp rfl (PE.neq rfl rfl) rfl ?_
 refine sp rfl (PE.move rfl) rfl ?_
 refine sy_case (t := 201) rfl (fun g201 => ?_) (fun g201 => ?_)
 exact absurd g201 (by first | (simp; done) | (rw [decide_eq_false (by omega)]; simp))
 refine spG rfl rfl rfl rfl (PE.move rfl) rfl ?_
 refine spG rfl rfl rfl rfl (PE.not rfl) rfl ?_
 refine sp rfl (PE.pick rfl rfl rfl) rfl ?_
 refine sy_cond rfl (fun hc12 => ?_) (fun hc12 => ?_)
 exact absurd hc12 (by first | (simp; done) | (rw [decide_eq_false (by omega)]; simp))
 refine sy_skip ?_
 refine sy_tx' [0, 1] rfl ?_
 refine sp rfl (PE.add rfl rfl (by omega)) rfl ?_
 refine sp rfl (PE.move rfl) rfl ?_
 exact sy_next ⟨i + 1, by omega⟩ (by dsimp only; omega) (by repeat' first | exact Sub.nil | apply Sub.cons | rfl | (simp [lk]; omega)) (fun w h => St.sub h)
 try simp only [decide_eq_true_eq, decide_eq_false_iff_not, Bool.and_eq_true, Bool.or_eq_true, Bool.not_eq_true', Int.not_le, Int.not_lt] at hc11
 refine sy_exit ?_
 repeat refine sy_tx ?_
 refine sy_bx ?_
 refine sy_seq ?_
 refine sy_tx' [0, 1] rfl ?_
 refine clV rfl cal7 rfl rfl (c_awake _ _) ?_
 refine sp rfl (PE.assign rfl) rfl ?_
 refine sy_ret ?_
 exact sy_return (vs := [_]) rfl (.cons (RV.tmp rfl) .nil) rfl ⟨rfl, rfl, rfl⟩ (fun w h => St.sub ((h.del b8).del b7))
 try simp only [decide_eq_true_eq, decide_eq_false_iff_not, Bool.and_eq_true, Bool.or_eq_true, Bool.not_eq_true', Int.not_le, Int.not_lt] at g134
 repeat refine spN rfl rfl rfl rfl rfl rfl rfl rfl ?_
 refine sp rfl (PE.pick rfl rfl rfl) rfl ?_
 refine sp rfl (PE.neqBool ub4 rfl rfl) rfl ?_
 refine sy_cond rfl (fun hc6 => ?_) (fun hc6 => ?_)
 exfalso; simp [hB] at hc6; simp_all
 refine sy_skip ?_
 refine sy_seq ?_
 refine sy_draw [0, 0, 0, 4, 0, 16, 48, 124, 255, 511, 1023, 1023, 2047, 8191] (.ld 0 (.ld 1 (.tk 2 (.tk 4 (.ld 5 (.tk 6 (.big 3 (.big 7 (.big 8 (.tk 9 (.tk 10 (.tk 11 (.tk 12 (.tk 13 .done)))))))))))))) mixed (by kernel_rfl) ?_
 refine ld rfl rfl (lhA (gtl g (g.sl ag cg)) ag24 rfl rfl rfl) rfl ?_
 refine ld rfl rfl (lhA (ctl d (d.sl ah ch)) ag27 rfl rfl rfl) rfl ?_
 refine tk rfl (PE.move rfl) rfl ?_
 refine tk rfl (PE.fieldAddr fo27_2 rfl) rfl ?_
 refine ld rfl rfl (lh sc25 rfl rfl) rfl ?_
 refine tk rfl (PE.lenSl isl25 rfl) rfl ?_
 refine cl rfl cal31 rfl rfl (c_Fill l2 a2 c2 hl2 _ _) ?_
 rintro _ _ R1 ⟨bl, ml, hml, rfl, rfl, hR1⟩
 obtain rfl := hR1.symm
 clear hR1
 refine bg (fun w hs => ⟨(lh sc25 rfl rfl) w hs, (lhA (ctl d (d.sl ah ch)) ag27 rfl rfl rfl) w hs, (lhA (gtl g (g.sl ag cg)) ag24 rfl rfl rfl) w hs, trivial⟩) ?_
 refine sy_pull bl ?_
 refine cl rfl cal36 rfl rfl (c_Shuffle l2 a2 c2 bl hl2 0 ml (by omega) hml d.hs.length (by omega) _ _) ?_
 rintro _ _ R1 ⟨p, o3, tq5, mx5, hp, rfl, _, _, rfl, hR1⟩
 obtain rfl := hR1.symm
 clear hR1
 refine Sy.heap (fun w h => h.del bl) ?_
 obtain ⟨ap2, cp, he, hf⟩ := o3.freeze
 rw [he]
 refine Sy.heap (fun w h => hf h) ?_
 have hpl := hp.len
 rw [show (irows (p.map fun (j : Nat) => (j : Int))).length = (p.map fun (j : Nat) => (j : Int)).length from List.length_map _]
 obtain ⟨eb1, eb2⟩ := agr_of hb0 hp.nd hp.lt
 rw [show agr g.miss d.hs (fun i => decide (i ∈ p)) = agr g.miss d.hs (fun _ => true) from agr_cong fun i hi => decide_eq_true (ord_all hp hi), hA] at eb2
 clear he hf o3
 refine bg (fun w hs => ⟨trivial, (lhA (ctl d (d.sl ah ch)) ag27 rfl rfl rfl) w hs, (lhA (gtl g (g.sl ag cg)) ag24 rfl rfl rfl) w hs, trivial⟩) ?_
 refine cl rfl cal20 rfl rfl (c_Agree g ag cg (by omega) d ah ch (by omega) (p.map fun (j : Nat) => (j : Int)) ap2 cp (by rw [List.length_map]; omega) _ _) ?_
 rintro _ _ _ ⟨rfl, rfl, rfl⟩
 rw [eb1, eb2]
 refine bg (fun w hs => ⟨trivial, trivial, trivial⟩) ?_
 refine tk rfl (PE.move rfl) rfl ?_
 refine tk rfl (PE.extract rfl rfl) rfl ?_
 refine tk rfl (PE.extract rfl rfl) rfl ?_
 refine tk rfl (PE.assign rfl) rfl ?_
 refine tk rfl (PE.assign rfl) rfl ?_
 refine sy_seq ?_
 refine sy_seq ?_
 refine sy_tx' [0, 1, 2, 3, 4, 5, 6, 7] rfl ?_
 refine sp rfl (PE.move rfl) rfl ?_
 refine sp rfl (PE.neq rfl rfl) rfl ?_
 refine sp rfl (PE.move rfl) rfl ?_
 refine sy_case (t := 153) rfl (fun g153 => ?_) (fun g153 => ?_)
 exact absurd g153 (by first | (simp; done) | (rw [decide_eq_false (by omega)]; simp))
 refine spG rfl rfl rfl rfl (PE.move rfl) rfl ?_
 refine spG rfl rfl rfl rfl (PE.move rfl) rfl ?_
 refine spG rfl rfl rfl rfl (PE.eql rfl rfl) rfl ?_
 refine spG rfl rfl rfl rfl (PE.neqBool ub4 rfl rfl) rfl ?_
 refine sp rfl (PE.pick rfl rfl rfl) rfl ?_
 refine sy_cond rfl (fun hc7 => ?_) (fun hc7 => ?_)
 exfalso; simp at hc7 <;> omega
 refine sy_skip ?_
 refine sy_seq ?_
 refine sy_seq ?_
 refine sy_tx' [0, 1] rfl ?_
 refine sp rfl (PE.move rfl) rfl ?_
 refine sp rfl (PE.eql rfl rfl) rfl ?_
 refine sy_cond rfl (fun hc8 => ?_) (fun hc8 => ?_)
 try simp only [decide_eq_true_eq, decide_eq_false_iff_not, Bool.and_eq_true, Bool.or_eq_true, Bool.not_eq_true', Int.not_le, Int.not_lt] at hc8
 refine sy_seq ?_
 refine sy_tx' [0, 1] rfl ?_
 refine clV rfl cal7 rfl rfl (c_awake _ _) ?_
 refine sp rfl (PE.assign rfl) rfl ?_
 refine sy_ret ?_
 exact sy_return (vs := [_]) rfl (.cons (RV.tmp rfl) .nil) rfl ⟨rfl, rfl, rfl⟩ (fun w h => St.sub ((h.del b8).del b7))
 try simp only [decide_eq_true_eq, decide_eq_false_iff_not, Bool.and_eq_true, Bool.or_eq_true, Bool.not_eq_true', Int.not_le, Int.not_lt] at hc8
 have he7 : toldE g d false ≠ 0 := by omega
 have hAf : agr g.miss d.hs (fun _ => true) = false := by rw [hA]; exact decide_eq_false he7
 obtain ⟨y, hy1, hy2, hy3, hy4, hy5⟩ := clash_less hmd.gok.miss.1 hdo.hs hAf
 have hcl : (claR g d).1 = y.map fun (j : Nat) => (j : Int) := by
   rcases tol_cla hb0 with ⟨h1, _⟩ | ⟨_, _, h1, _⟩
   · exact absurd h1 he7
   · rw [h1, hy1]
 have hyl : (claR g d).1.length = y.length := by rw [hcl, List.length_map]
 obtain ⟨h14a, h14b⟩ := clash4 hmd.gok.miss.1 hdo.hs hAf
 rw [hy1, List.length_map] at h14a h14b
 obtain ⟨ec1, ec2⟩ := agr_of hb0 hy2 hy3
 rw [hy4] at ec2
 rw [← hcl] at ec1 ec2
 refine sy_skip ?_
 refine sy_seq ?_
 refine sy_seq ?_
 refine sy_tx' [0, 1, 2, 3, 4, 5, 6, 7] rfl ?_
 refine sp rfl (PE.move rfl) rfl ?_
 refine sp rfl (PE.lenSl isl28 rfl) rfl ?_
 refine sp rfl (PE.lss rfl rfl) rfl ?_
 refine sp rfl (PE.move rfl) rfl ?_
 refine sy_case (t := 165) rfl (fun g165 => ?_) (fun g165 => ?_)
 exfalso; simp at g165 <;> omega
 refine spG rfl rfl rfl rfl (PE.move rfl) rfl ?_
 refine spG rfl rfl rfl rfl (PE.lenSl isl28 rfl) rfl ?_
 refine spG rfl rfl rfl rfl (PE.gtr rfl rfl) rfl ?_
 refine sp rfl (PE.pick rfl rfl rfl) rfl ?_
 refine sy_cond rfl (fun hc9 => ?_) (fun hc9 => ?_)
 exfalso; simp at hc9 <;> omega
 refine sy_skip ?_
 refine sy_seq ?_
 refine sy_seq ?_
 refine sy_tx' [0, 1, 2, 3, 4, 5, 6, 7, 8] rfl ?_
 refine spL rfl rfl (lhA [_, _, _] ag24 rfl rfl rfl) rfl ?_
 refine spL rfl rfl (lhA [_, _, _] ag27 rfl rfl rfl) rfl ?_
 refine sp rfl (PE.move rfl) rfl ?_
 refine cl rfl cal20 rfl rfl (c_Agree g ag cg (by omega) d ah ch (by omega) (claR g d).1 ax cx (by omega) _ _) ?_
 rintro _ _ _ ⟨rfl, rfl, rfl⟩
 rw [ec1, ec2]
 refine sp rfl (PE.move rfl) rfl ?_
 refine sp rfl (PE.extract rfl rfl) rfl ?_
 refine sp rfl (PE.extract rfl rfl) rfl ?_
 refine sp rfl (PE.assign rfl) rfl ?_
 refine sp rfl (PE.assign rfl) rfl ?_
 refine sy_seq ?_
 refine sy_tx' [0, 1, 2, 3, 4] rfl ?_
 refine sp rfl (PE.move rfl) rfl ?_
 refine sp rfl (PE.neq rfl rfl) rfl ?_
 refine sp rfl (PE.move rfl) rfl ?_
 refine sy_case (t := 179) rfl (fun g179 => ?_) (fun g179 => ?_)
 exact absurd g179 (by first | (simp; done) | (rw [decide_eq_false (by omega)]; simp))
 refine spG rfl rfl rfl rfl (PE.move rfl) rfl ?_
 refine sp rfl (PE.pick rfl rfl rfl) rfl ?_
 refine sy_cond rfl (fun hc10 => ?_) (fun hc10 => ?_)
 exact absurd hc10 (by first | (simp; done) | (rw [decide_eq_false (by omega)]; simp))
 refine sy_skip ?_
 refine sy_seq ?_
 refine sy_seq ?_
 refine sy_tx' [0, 1, 2] rfl ?_
 refine sp rfl (PE.move rfl) rfl ?_
 refine sp rfl (PE.lenSl isl28 rfl) rfl ?_
 refine sp rfl (PE.move rfl) rfl ?_
 refine sy_block ?_
 refine sy_loop (ι := {i : Nat // i ≤ (claR g d).1.length}) (fun i => ⟨[(7, .pointer (some ⟨b7, 0, none⟩)), (8, .pointer (some ⟨b8, 0, none⟩)), (14, .slice ax (claR g d).1.length cx), (183, .int .i64 (claR g d).1.length), (184, .int .i64 i.1)], (b8, cel 27 (ctl d (d.sl ah ch))) :: (b7, cel 24 (gtl g (g.sl ag cg))) :: H, RowsA ax 1 (irows (claR g d).1) :: RowsA ah 5 (hrows d.hs) :: RowsA ag 5 (grows g.grs) :: R⟩) (fun i => (claR g d).1.length - i.1) ⟨0, by omega⟩ ?_ (fun i => ?_)
 exact sy_at (by repeat' first | exact Sub.nil | apply Sub.cons | rfl | (simp [lk]; omega)) (fun w h => St.sub h)
 obtain ⟨i, hi⟩ := i
 dsimp only at hi ⊢
 refine sy_seq ?_
 refine sy_tx' [0] rfl ?_
 refine sp rfl (PE.lss rfl rfl) rfl ?_
 refine sy_seq ?_
 refine sy_cond rfl (fun hc11 => ?_) (fun hc11 => ?_)
 try simp only [decide_eq_true_eq, decide_eq_false_iff_not, Bool.and_eq_true, Bool.or_eq_true, Bool.not_eq_true', Int.not_le, Int.not_lt] at hc11
 obtain ⟨hz1, hz2, hz3⟩ := hy5 i (by omega)
 obtain ⟨ed1, ed2⟩ := agr_of hb0 hz1 hz2
 rw [hz3] at ed2
 rw [← map_erase, ← hcl] at ed1 ed2
 have hzl : ((claR g d).1.eraseIdx i).length ≤ (claR g d).1.length := List.length_eraseIdx_le _ _
 refine sy_skip ?_
 refine sy_seq ?_
 refine sy_block ?_
 refine sy_seq ?_
 refine sy_tx' [0, 1] rfl ?_
 refine sp rfl (PE.move rfl) rfl ?_
 refine sp rfl (PE.assign rfl) rfl ?_
 refine sy_seq ?_
 refine sy_draw [0, 0, 0, 4, 0, 0, 32, 124, 255, 511, 1023, 1023, 2047, 8191] (.ld 0 (.ld 1 (.tk 2 (.tk 4 (.tk 5 (.tk 6 (.big 3 (.big 7 (.big 8 (.tk 9 (.tk 10 (.tk 11 (.tk 12 (.tk 13 .done)))))))))))))) mixed (by kernel_rfl) ?_
 refine ld rfl rfl (lhA (gtl g (g.sl ag cg)) ag24 rfl rfl rfl) rfl ?_
 refine ld rfl rfl (lhA (ctl d (d.sl ah ch)) ag27 rfl rfl rfl) rfl ?_
 refine tk rfl (PE.move rfl) rfl ?_
 refine tk rfl (PE.move rfl) rfl ?_
 refine tk rfl (PE.move rfl) rfl ?_
 refine tk rfl (PE.add rfl rfl (by omega)) rfl ?_
 refine cl rfl cal38 rfl rfl (c_clone_int (claR g d).1 ax cx (by omega) _ _) ?_
 rintro _ _ R1 ⟨o4, rfl, rfl, hR1, _⟩
 obtain rfl := hR1.symm
 clear hR1
 refine bg (fun w hs => ⟨(lhA (ctl d (d.sl ah ch)) ag27 rfl rfl rfl) w hs, (lhA (gtl g (g.sl ag cg)) ag24 rfl rfl rfl) w hs, trivial⟩) ?_
 rw [show (i : Int) + 1 = ((i + 1 : Nat) : Int) from by omega]
 refine cl rfl cal37 rfl rfl (c_Delete (claR g d).1 o4 (by omega) i (by omega) _ _) ?_
 rintro _ _ R1 ⟨ad, cd, rfl, rfl, hR1⟩
 obtain rfl := hR1.symm
 clear hR1
 refine bg (fun w hs => ⟨(lhA (ctl d (d.sl ah ch)) ag27 rfl rfl rfl) w hs, (lhA (gtl g (g.sl ag cg)) ag24 rfl rfl rfl) w hs, trivial⟩) ?_
 refine cl rfl cal20 rfl rfl (c_Agree g ag cg (by omega) d ah ch (by omega) ((claR g d).1.eraseIdx i) ad cd (by omega) _ _) ?_
 rintro _ _ _ ⟨rfl, rfl, rfl⟩
 rw [ed1, ed2]
 refine bg (fun w hs => ⟨trivial, trivial, trivial⟩) ?_
 refine tk rfl (PE.move rfl) rfl ?_
 refine tk rfl (PE.extract rfl rfl) rfl ?_
 refine tk rfl (PE.extract rfl rfl) rfl ?_
 refine tk rfl (PE.assign rfl) rfl ?_
 refine tk rfl (PE.assign rfl) rfl ?_
 refine sy_seq ?_
 refine sy_tx' [0, 1, 2, 3, 4, 5] rfl ?_
 refine sp rfl (PE.move rfl) rfl ?_
 refine sp rfl (PE.neq rfl rfl) rfl ?_
 refine sp rfl (PE.move rfl) rfl ?_
 refine sy_case (t := 201) rfl (fun g201 => ?_) (fun g201 => ?_)
 exact absurd g201 (by first | (simp; done) | (rw [decide_eq_false (by omega)]; simp))
 refine spG rfl rfl rfl rfl (PE.move rfl) rfl ?_
 refine spG rfl rfl rfl rfl (PE.not rfl) rfl ?_
 refine sp rfl (PE.pick rfl rfl rfl) rfl ?_
 refine sy_cond rfl (fun hc12 => ?_) (fun hc12 => ?_)
 exact absurd hc12 (by first | (simp; done) | (rw [decide_eq_false (by omega)]; simp))
 refine sy_skip ?_
 refine sy_tx' [0, 1] rfl ?_
 refine sp rfl (PE.add rfl rfl (by omega)) rfl ?_
 refine sp rfl (PE.move rfl) rfl ?_
 exact sy_next ⟨i + 1, by omega⟩ (by dsimp only; omega) (by repeat' first | exact Sub.nil | apply Sub.cons | rfl | (simp [lk]; omega)) (fun w h => St.sub h)
 try simp only [decide_eq_true_eq, decide_eq_false_iff_not, Bool.and_eq_true, Bool.or_eq_true, Bool.not_eq_true', Int.not_le, Int.not_lt] at hc11
 refine sy_exit ?_
 repeat refine sy_tx ?_
 refine sy_bx ?_
 refine sy_seq ?_
 refine sy_tx' [0, 1] rfl ?_
 refine clV rfl cal7 rfl rfl (c_awake _ _) ?_
 refine sp rfl (PE.assign rfl) rfl ?_
 refine sy_ret ?_
 exact sy_return (vs := [_]) rfl (.cons (RV.tmp rfl) .nil) rfl ⟨rfl, rfl, rfl⟩ (fun w h => St.sub ((h.del b8).del b7))
end Go.Proofs.YtknoaljnelfklaaGreat
