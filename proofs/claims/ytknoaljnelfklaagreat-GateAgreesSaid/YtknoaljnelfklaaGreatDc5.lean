/- Walks of the functions of the program, and the laws that join them: what the last theorem of this claim needs, in order. -/
import Derived.Test.YtknoaljnelfklaaGreatDc4
namespace Go.Proofs.YtknoaljnelfklaaGreat
set_option linter.unusedSimpArgs false
set_option linter.unusedVariables false
open Go
theorem cal16 : cal Tryz.prog 16 = true := by kernel_rfl
theorem cal51 : cal Tryz.prog 51 = true := by kernel_rfl
theorem cal52 : cal Tryz.prog 52 = true := by kernel_rfl
theorem cal53 : cal Tryz.prog 53 = true := by kernel_rfl
theorem c_dup_int (xs : List Int) (a : Option Addr) (c : Nat) (hl : xs.length ≤ 1000000) (H : Heap) (R : Facts) [hR : MemRows a 1 (irows xs) R] :
    Fn Tryz.prog 10 [.slice a xs.length c] H R (fun v H' R' => ∃ o : OSl 3 1 (irows xs), v = o.fs ∧ o.here ∧ H' = o.G ++ H ∧ R' = R) := by
 refine fn_of Tryz.func10 rfl Tryz.ntmps10 rfl ?_
 refine sy_seq ?_
 refine sy_tx' [0] rfl ?_
 refine sp rfl (PE.assign rfl) rfl ?_
 refine sy_seq ?_
 refine sy_tx' [0, 1, 2, 3, 4, 5] rfl ?_
 refine sp rfl (PE.move rfl) rfl ?_
 refine sp rfl (PE.lenSl isl28 rfl) rfl ?_
 refine mkO rfl ap28 zl3 rfl rfl ⟨by omega, by omega⟩ rfl (fun o ho => ?_)
 refine sp rfl (PE.move rfl) rfl ?_
 refine apOh (news := irows xs) o rfl ap28 rfl rfl (rowsF) (by simp [irows]) (by simp [onecells, irows, Value.oneCell']) ⟨by simp [irows]; omega, by simp [irows]; omega⟩ rfl ho (fun o2 ho2 => ?_)
 refine sp rfl (PE.assign rfl) rfl ?_
 refine sy_ret ?_
 exact sy_return (vs := [_]) rfl (.cons (RV.tmp rfl) .nil) rfl ⟨o2.cast (by simp), rfl, ho2, rfl, rfl⟩ (fun _ h => h)
theorem and0_iff {a b : Nat} : a &&& b = 0 ↔ ∀ i, (a.testBit i && b.testBit i) = false := by
  constructor
  · intro h i; rw [← Nat.testBit_and, h, Nat.zero_testBit]
  · intro h; exact Nat.eq_of_testBit_eq fun i => by rw [Nat.testBit_and, h, Nat.zero_testBit]
theorem and_odd {a b : Nat} (ha : a % 2 = 1) (hb : b % 2 = 1) : a &&& b ≠ 0 := fun h => by
  have := Nat.and_mod_two_eq_one.2 ⟨ha, hb⟩; rw [h] at this; cases this
theorem and_half {a b : Nat} (h : ¬ (a % 2 = 1 ∧ b % 2 = 1)) : a &&& b = 0 ↔ a / 2 &&& b / 2 = 0 := by
  have h1 : ¬ (a &&& b) % 2 = 1 := fun e => h (Nat.and_mod_two_eq_one.1 e)
  rw [← Nat.and_div_two]; omega
theorem add_or : ∀ (n : Nat) {a b : Nat}, a ≤ n → a &&& b = 0 → a + b = a ||| b
  | 0, a, b, hn, _ => by obtain rfl : a = 0 := by omega
                         simp
  | n + 1, a, b, hn, h => by
    have h0 : ¬ (a % 2 = 1 ∧ b % 2 = 1) := fun e => and_odd e.1 e.2 h
    by_cases ha : a = 0
    · subst ha; simp
    have ih := add_or n (a := a / 2) (b := b / 2) (by omega) ((and_half h0).1 h)
    have h1 := Nat.or_div_two (a := a) (b := b)
    have h2 := Nat.or_mod_two_eq_one (a := a) (b := b)
    rcases Nat.mod_two_eq_zero_or_one a with ea | ea <;> rcases Nat.mod_two_eq_zero_or_one b with eb | eb
    · have : ¬ (a ||| b) % 2 = 1 := fun e => by rcases h2.1 e with e | e <;> omega
      omega
    · have := h2.2 (.inr eb); omega
    · have := h2.2 (.inl ea); omega
    · exact absurd ⟨ea, eb⟩ h0
theorem add_bits {a b : Nat} (h : a &&& b = 0) (i : Nat) : (a + b).testBit i = (a.testBit i || b.testBit i) := by rw [add_or a (Nat.le_refl _) h, Nat.testBit_or]
theorem add_bit {a v : Nat} (h : a.testBit v = false) (i : Nat) : (a + 2 ^ v).testBit i = (a.testBit i || decide (v = i)) := by
  rw [add_bits (and0_iff.2 fun j => ?_), Nat.testBit_two_pow]
  rw [Nat.testBit_two_pow]
  by_cases e : v = j
  · subst e; rw [h]; rfl
  · rw [decide_eq_false e, Bool.and_false]
theorem bits_lt {a n : Nat} (h : ∀ i, n ≤ i → a.testBit i = false) : a < 2 ^ n := Nat.lt_pow_two_of_testBit a h
theorem bits_hi {a n i : Nat} (h : a < 2 ^ n) (hi : n ≤ i) : a.testBit i = false := Nat.testBit_lt_two_pow (Nat.lt_of_lt_of_le h (Nat.pow_le_pow_right (by decide) hi))
theorem bits_ex (p : Nat → Bool) : ∀ n, ∃ t, t < 2 ^ n ∧ ∀ j, t.testBit j = (decide (j < n) && p j)
  | 0 => ⟨0, by decide, fun j => by simp⟩
  | n + 1 => by
    obtain ⟨t, h1, h2⟩ := bits_ex p n
    have hn : t.testBit n = false := by rw [h2]; simp
    cases hp : p n
    · refine ⟨t, by rw [Nat.pow_succ]; omega, fun j => ?_⟩
      rw [h2]
      by_cases e : j = n
      · subst e; simp [hp]
      · rw [show decide (j < n + 1) = decide (j < n) from decide_eq_decide.2 (by omega)]
    · refine ⟨t + 2 ^ n, by rw [Nat.pow_succ]; omega, fun j => ?_⟩
      rw [add_bit hn, h2]
      by_cases e : j = n
      · subst e; simp [hp]
      · rw [show decide (j < n + 1) = decide (j < n) from decide_eq_decide.2 (by omega), decide_eq_false (show ¬ n = j by omega), Bool.or_false]
theorem miss_bit (miss : Int) (hs : List Hnd) (m : Mix) : ∀ (n j : Nat), (missN miss hs m n).testBit j = (decide (j < n) && match hs[j]? with | some h => !(fitB miss h m) | none => false)
  | 0, j => by simp [missN]
  | n + 1, j => by
    have ih := miss_bit miss hs m n
    have hn := Nat.testBit_lt_two_pow (missN_lt miss hs m n)
    unfold missN
    cases hh : hs[n]? with
    | none =>
      simp only [Nat.add_zero]
      rw [ih]
      by_cases e : j = n
      · subst e; simp [hh]
      · rw [show decide (j < n + 1) = decide (j < n) from decide_eq_decide.2 (by omega)]
    | some h =>
      cases hf : fitB miss h m
      · simp only [hf, cond_false]
        rw [add_bit hn, ih]
        by_cases e : j = n
        · subst e; simp [hh, hf]
        · rw [show decide (j < n + 1) = decide (j < n) from decide_eq_decide.2 (by omega), decide_eq_false (show ¬ n = j by omega), Bool.or_false]
      · simp only [hf, cond_true, Nat.add_zero]
        rw [ih]
        by_cases e : j = n
        · subst e; simp [hh, hf]
        · rw [show decide (j < n + 1) = decide (j < n) from decide_eq_decide.2 (by omega)]
def agB (miss : Int) (hs : List Hnd) (s : Nat) : Bool := agr miss hs fun i => s.testBit i
theorem agr_cong {miss : Int} {hs : List Hnd} {f g : Nat → Bool} (h : ∀ i < hs.length, f i = g i) : agr miss hs f = agr miss hs g := by unfold agr; rw [boxF_congr h]
theorem agB_ref {miss : Int} (hm : 0 ≤ miss) {hs : List Hnd} (hh : ∀ h ∈ hs, h.ok) (h6 : hs.length ≤ 6) {ms : List Mix} (hms : ∀ m, m ∈ ms ↔ Mxt m) (s : Nat) :
    agB miss hs s = true ↔ ∃ q < 64, 0 < (partS miss hs ms q).length ∧ q &&& s = 0 := by
  unfold agB
  rw [agr_iff hm hh]
  constructor
  · rintro ⟨m, h1, h2⟩
    refine ⟨missQ miss hs m, missQ_lt h6, List.length_pos_of_mem (List.mem_filter.2 ⟨(hms m).2 h1, decide_eq_true rfl⟩), and0_iff.2 fun i => ?_⟩
    unfold missQ
    rw [miss_bit]
    cases hi : hs[i]? with
    | none => simp
    | some h =>
      cases hb : s.testBit i
      · simp
      · simp [h2 i h hi hb]
  · rintro ⟨q, hq, h1, h2⟩
    obtain ⟨m, hmm⟩ := List.exists_mem_of_length_pos h1
    obtain ⟨h3, h4⟩ := List.mem_filter.1 hmm
    have h4 := of_decide_eq_true h4
    refine ⟨m, (hms m).1 h3, fun i h hi hb => ?_⟩
    have h5 := and0_iff.1 h2 i
    rw [← h4, hb, Bool.and_true] at h5
    unfold missQ at h5
    rw [miss_bit, hi, decide_eq_true (List.getElem?_eq_some_iff.1 hi).1] at h5
    simpa using h5
def memL (s : Nat) : List Int := ((List.range 6).filter fun i => s.testBit i).map fun (i : Nat) => (i : Int)
def memP (s n : Nat) : List Int := ((List.range n).filter fun i => s.testBit i).map fun (i : Nat) => (i : Int)
theorem memP_on {s n : Nat} (h : s / 2 ^ n % 2 = 1) : memP s (n + 1) = memP s n ++ [(n : Int)] := by
  have h1 : s.testBit n = true := by rw [Nat.testBit_eq_decide_div_mod_eq, decide_eq_true h]
  unfold memP
  rw [List.range_succ, List.filter_append, List.map_append, List.filter_cons, h1]; rfl
theorem memP_off {s n : Nat} (h : s / 2 ^ n % 2 ≠ 1) : memP s (n + 1) = memP s n := by
  have h1 : s.testBit n = false := by rw [Nat.testBit_eq_decide_div_mod_eq, decide_eq_false h]
  unfold memP
  rw [List.range_succ, List.filter_append, List.map_append, List.filter_cons, h1]; simp
theorem memP_end {s n : Nat} (h : s < 2 ^ n) : ∀ k, memP s (n + k) = memP s n
  | 0 => rfl
  | k + 1 => by
    rw [← memP_end h k]
    refine memP_off (n := n + k) fun e => ?_
    rw [Nat.div_eq_of_lt (Nat.lt_of_lt_of_le h (Nat.pow_le_pow_right (by decide) (Nat.le_add_right _ _)))] at e; cases e
theorem memP_len (s n : Nat) : (memP s n).length ≤ n := by
  unfold memP
  rw [List.length_map]
  exact Nat.le_trans (List.length_filter_le _ _) (by simp)
theorem memL_len (s : Nat) : (memL s).length ≤ 6 := memP_len s 6
theorem memL_eq {s n : Nat} (h : s / 2 ^ n = 0) (hn : n ≤ 6) : memP s n = memL s := by
  have := memP_end (s := s) (n := n) (by
    rcases Nat.lt_or_ge s (2 ^ n) with h1 | h1
    · exact h1
    · have := Nat.div_pos h1 (Nat.pow_pos (by decide)); omega) (6 - n)
  rw [← this, show n + (6 - n) = 6 by omega]; rfl
theorem flt_map (y : List Nat) (i : Nat) : flt (y.map fun (j : Nat) => (j : Int)) i = decide (i ∈ y) := by
  rw [Bool.eq_iff_iff, decide_eq_true_eq]
  unfold flt
  rw [List.any_eq_true]
  constructor
  · rintro ⟨x, h1, h2⟩
    obtain ⟨j, h3, rfl⟩ := List.mem_map.1 h1
    have := of_decide_eq_true h2
    obtain rfl : i = j := by omega
    exact h3
  · intro h
    exact ⟨i, List.mem_map.2 ⟨i, h, rfl⟩, decide_eq_true rfl⟩
theorem memL_flt {s i : Nat} (hi : i < 6) : flt (memL s) i = s.testBit i := by
  unfold memL
  rw [flt_map, Bool.eq_iff_iff, decide_eq_true_eq, List.mem_filter, List.mem_range]
  exact ⟨fun h => h.2, fun h => ⟨hi, h⟩⟩
theorem srt_same : ∀ {a b : List Nat}, a.Pairwise (· < ·) → b.Pairwise (· < ·) → (∀ x, x ∈ a ↔ x ∈ b) → a = b
  | [], [], _, _, _ => rfl
  | [], y :: b, _, _, h => by have := (h y).2 (by simp); cases this
  | x :: a, [], _, _, h => by have := (h x).1 (by simp); cases this
  | x :: a, y :: b, ha, hb, h => by
    obtain ⟨h1, h2⟩ := List.pairwise_cons.1 ha
    obtain ⟨h3, h4⟩ := List.pairwise_cons.1 hb
    have hxy : x = y := by
      rcases List.mem_cons.1 ((h x).1 (by simp)) with e | e
      · exact e
      · rcases List.mem_cons.1 ((h y).2 (by simp)) with e2 | e2
        · exact e2.symm
        · have := h3 x e; have := h1 y e2; omega
    subst hxy
    rw [srt_same h2 h4 fun z => ?_]
    constructor
    · intro hz
      rcases List.mem_cons.1 ((h z).1 (by simp [hz])) with e | e
      · subst e; exact absurd (h1 z hz) (Nat.lt_irrefl _)
      · exact e
    · intro hz
      rcases List.mem_cons.1 ((h z).2 (by simp [hz])) with e | e
      · subst e; exact absurd (h3 z hz) (Nat.lt_irrefl _)
      · exact e
theorem memL_srt (s : Nat) : ∃ y : List Nat, memL s = (y.map fun (j : Nat) => (j : Int)) ∧ y.Pairwise (· < ·) ∧ ∀ j, j ∈ y ↔ j < 6 ∧ s.testBit j = true :=
  ⟨_, rfl, List.pairwise_lt_range.filter _, fun j => by rw [List.mem_filter, List.mem_range]⟩
theorem memL_of {y : List Nat} {n : Nat} (h6 : n ≤ 6) (hp : y.Pairwise (· < ·)) (hn : ∀ j ∈ y, j < n) : ∃ t, t < 2 ^ n ∧ memL t = (y.map fun (j : Nat) => (j : Int)) ∧ (y ≠ [] → 1 ≤ t) := by
  obtain ⟨t, h1, h2⟩ := bits_ex (fun i => decide (i ∈ y)) n
  have hm : ∀ j, (j < 6 ∧ t.testBit j = true) ↔ j ∈ y := fun j => by
    rw [h2, Bool.and_eq_true, decide_eq_true_eq, decide_eq_true_eq]
    exact ⟨fun h => h.2.2, fun h => ⟨by have := hn j h; omega, hn j h, h⟩⟩
  refine ⟨t, h1, ?_, fun hy => ?_⟩
  · obtain ⟨z, e, h3, h4⟩ := memL_srt t
    rw [e, srt_same h3 hp fun j => (h4 j).trans (hm j)]
  · obtain ⟨j, hj⟩ := List.exists_mem_of_ne_nil _ hy
    have := ((hm j).2 hj).2
    rcases Nat.eq_zero_or_pos t with e | e
    · rw [e, Nat.zero_testBit] at this; cases this
    · exact e
def lexB : List Int → List Int → Bool
  | x :: a, y :: b => bif decide (x ≠ y) then decide (x < y) else lexB a b
  | _, _ => false
def ahB (a b : List Int) : Bool := bif decide (a.length ≠ b.length) then decide (a.length < b.length) else lexB a b
theorem lex_total : ∀ {a b : List Int}, a.length = b.length → lexB a b = false → lexB b a = false → a = b
  | [], [], _, _, _ => rfl
  | [], _ :: _, h, _, _ => by cases h
  | _ :: _, [], h, _, _ => by cases h
  | x :: a, y :: b, h, h1, h2 => by
    unfold lexB at h1 h2
    by_cases e : x = y
    · subst e
      rw [decide_eq_false (by simp)] at h1 h2
      rw [lex_total (by simpa using h) h1 h2]
    · rw [decide_eq_true e] at h1
      rw [decide_eq_true (show y ≠ x from fun h => e h.symm)] at h2
      have h1 := of_decide_eq_false h1
      have h2 := of_decide_eq_false h2
      omega
theorem ah_total {a b : List Int} (h1 : ahB a b = false) (h2 : ahB b a = false) : a = b := by
  unfold ahB at h1 h2
  by_cases e : a.length = b.length
  · rw [decide_eq_false (by simpa using e)] at h1
    rw [decide_eq_false (by simpa using e.symm)] at h2
    exact lex_total e h1 h2
  · rw [decide_eq_true e] at h1
    rw [decide_eq_true (show b.length ≠ a.length from fun h => e h.symm)] at h2
    have h1 := of_decide_eq_false h1
    have h2 := of_decide_eq_false h2
    omega
theorem lex_trans : ∀ {a b c : List Int}, a.length = b.length → b.length = c.length → lexB a b = true → lexB c b = false → lexB a c = true
  | [], _, _, _, _, h, _ => by unfold lexB at h; cases h
  | _ :: _, [], _, h, _, _, _ => by cases h
  | _ :: _, _ :: _, [], _, h, _, _ => by cases h
  | x :: a, y :: b, z :: c, h1, h2, h3, h4 => by
    unfold lexB at h3 h4 ⊢
    by_cases e : z = y
    · subst e
      rw [decide_eq_false (by simp)] at h4
      by_cases e2 : x = z
      · subst e2
        rw [decide_eq_false (by simp)] at h3 ⊢
        exact lex_trans (by simpa using h1) (by simpa using h2) h3 h4
      · rw [decide_eq_true e2] at h3 ⊢; exact h3
    · rw [decide_eq_true e] at h4
      have h4 := of_decide_eq_false h4
      by_cases e2 : x = y
      · subst e2
        rw [decide_eq_true (show x ≠ z from fun h => e h.symm)]
        exact decide_eq_true (by omega)
      · rw [decide_eq_true e2] at h3
        have h3 := of_decide_eq_true h3
        rw [decide_eq_true (show x ≠ z by omega)]
        exact decide_eq_true (by omega)
theorem lex_anti : ∀ {a b : List Int}, lexB a b = true → lexB b a = false
  | [], _, h => by unfold lexB at h; cases h
  | _ :: _, [], h => by unfold lexB at h; cases h
  | x :: a, y :: b, h => by
    unfold lexB at h ⊢
    by_cases e : x = y
    · subst e
      rw [decide_eq_false (by simp)] at h ⊢
      exact lex_anti h
    · rw [decide_eq_true e] at h
      rw [decide_eq_true (show y ≠ x from fun h => e h.symm)]
      have h := of_decide_eq_true h
      exact decide_eq_false (by omega)
theorem ah_anti {a b : List Int} (h : ahB a b = true) : ahB b a = false := by
  unfold ahB at h ⊢
  by_cases e : a.length = b.length
  · rw [decide_eq_false (by simpa using e)] at h
    rw [decide_eq_false (by simpa using e.symm)]
    exact lex_anti h
  · rw [decide_eq_true e] at h
    rw [decide_eq_true (show b.length ≠ a.length from fun h => e h.symm)]
    have h := of_decide_eq_true h
    exact decide_eq_false (by omega)
theorem ah_trans {a b c : List Int} (h1 : ahB a b = true) (h2 : ahB c b = false) : ahB a c = true := by
  unfold ahB at h1 h2 ⊢
  by_cases e : c.length = b.length
  · rw [decide_eq_false (by simpa using e)] at h2
    by_cases e2 : a.length = b.length
    · rw [decide_eq_false (by simpa using e2)] at h1
      rw [decide_eq_false (by simpa [e] using e2)]
      exact lex_trans e2 e.symm h1 h2
    · rw [decide_eq_true e2] at h1
      rw [decide_eq_true (by rw [e]; exact e2), e]; exact h1
  · rw [decide_eq_true e] at h2
    have h2 := of_decide_eq_false h2
    by_cases e2 : a.length = b.length
    · rw [decide_eq_true (by omega)]; exact decide_eq_true (by omega)
    · rw [decide_eq_true e2] at h1
      have h1 := of_decide_eq_true h1
      rw [decide_eq_true (by omega)]; exact decide_eq_true (by omega)
theorem more_srt {ag : List Int → Bool} {n : Nat} : ∀ {r fr : Nat} {l x : List Int}, moreS ag n r l fr = some x → ∃ y : List Nat, x = l ++ (y.map fun (j : Nat) => (j : Int)) ∧ y.length = r ∧ y.Pairwise (· < ·) ∧ (∀ j ∈ y, fr ≤ j ∧ j < n) ∧ ag x = false
  | 0, fr, l, x, h => by
    unfold moreS at h
    cases ha : ag l with
    | true => rw [ha] at h; cases h
    | false => rw [ha] at h; obtain rfl := Option.some.inj h; exact ⟨[], by simp, rfl, List.Pairwise.nil, by simp, ha⟩
  | r + 1, fr, l, x, h => by
    unfold moreS at h
    obtain ⟨i, hi, h1⟩ := List.exists_of_findSome?_eq_some h
    rw [List.mem_range'_1] at hi
    obtain ⟨y, rfl, h2, h3, h4, h5⟩ := more_srt h1
    refine ⟨i :: y, by simp, by simp [h2], List.pairwise_cons.2 ⟨fun j hj => (h4 j hj).1, h3⟩, fun j hj => ?_, h5⟩
    rcases List.mem_cons.1 hj with rfl | hj
    · omega
    · have := h4 j hj; omega
theorem more_first {ag : List Int → Bool} {n : Nat} : ∀ {r fr : Nat} {l x : List Int}, moreS ag n r l fr = some x → ∀ y : List Nat, y.length = r → y.Pairwise (· < ·) → (∀ j ∈ y, fr ≤ j ∧ j < n) → ag (l ++ y.map fun (j : Nat) => (j : Int)) = false → ∃ z, x = l ++ z ∧ lexB (y.map fun (j : Nat) => (j : Int)) z = false
  | 0, fr, l, x, h, y, hy, _, _, _ => by
    obtain rfl := List.eq_nil_of_length_eq_zero hy
    unfold moreS at h
    cases ha : ag l with
    | true => rw [ha] at h; cases h
    | false => rw [ha] at h; obtain rfl := Option.some.inj h; exact ⟨[], by simp, rfl⟩
  | r + 1, fr, l, x, h, [], hy, _, _, _ => by cases hy
  | r + 1, fr, l, x, h, j :: y, hy, hp, hb, ha => by
    unfold moreS at h
    obtain ⟨i, h1, h2, h3, h4⟩ := find_range _ _ h
    have hj := hb j (by simp)
    obtain ⟨h5, h6⟩ := List.pairwise_cons.1 hp
    have hb2 : ∀ q ∈ y, j + 1 ≤ q ∧ q < n := fun q hq => ⟨h5 q hq, (hb q (by simp [hq])).2⟩
    have hyr : y.length = r := by simpa using hy
    have ha2 : ag ((l ++ [(j : Int)]) ++ y.map fun (j : Nat) => (j : Int)) = false := by simpa using ha
    rcases Nat.lt_trichotomy j i with hji | rfl | hji
    · have h7 := h4 j hj.1 hji
      rw [← hyr] at h7
      rw [more_no y h7 h6 hb2] at ha2; cases ha2
    · obtain ⟨z, rfl, hz⟩ := more_first h3 y hyr h6 hb2 ha2
      refine ⟨(j : Int) :: z, by simp, ?_⟩
      simp only [List.map_cons, lexB]
      rw [decide_eq_false (by simp)]; exact hz
    · obtain ⟨w, rfl, _⟩ := more_srt h3
      refine ⟨(i : Int) :: w.map fun (j : Nat) => (j : Int), by simp, ?_⟩
      simp only [List.map_cons, lexB]
      rw [decide_eq_true (show (j : Int) ≠ i by omega)]
      exact decide_eq_false (by omega)
theorem clash_first {ag : List Int → Bool} {n : Nat} {x : List Int} (h : clashS ag n = some x) : (∃ y : List Nat, x = (y.map fun (j : Nat) => (j : Int)) ∧ y ≠ [] ∧ y.Pairwise (· < ·) ∧ (∀ j ∈ y, j < n) ∧ ag x = false) ∧
    ∀ y : List Nat, y ≠ [] → y.length ≤ n → y.Pairwise (· < ·) → (∀ j ∈ y, j < n) → ag (y.map fun (j : Nat) => (j : Int)) = false → ahB (y.map fun (j : Nat) => (j : Int)) x = false := by
  obtain ⟨k, k1, k2, k3, k4⟩ := find_range _ _ h
  obtain ⟨y, e, h1, h2, h3, h4⟩ := more_srt k3
  rw [List.nil_append] at e
  refine ⟨⟨y, e, fun h0 => by subst h0; simp at h1; omega, h2, fun j hj => (h3 j hj).2, h4⟩, fun z hz hzn hp hb ha => ?_⟩
  have hxl : x.length = k := by rw [e, List.length_map, h1]
  have hz1 : 0 < z.length := List.length_pos_iff.2 hz
  unfold ahB
  rw [List.length_map, hxl]
  rcases Nat.lt_trichotomy z.length k with hl | hl | hl
  · have h5 := k4 z.length hz1 hl
    have h6 := more_no z h5 hp (fun j hj => ⟨Nat.zero_le _, hb j hj⟩)
    rw [List.nil_append, ha] at h6; cases h6
  · rw [decide_eq_false (by simpa using hl)]
    obtain ⟨w, hw, hl2⟩ := more_first k3 z hl hp (fun j hj => ⟨Nat.zero_le _, hb j hj⟩) (by rw [List.nil_append]; exact ha)
    rw [List.nil_append] at hw
    rw [hw]; exact hl2
  · rw [decide_eq_true (by omega)]
    exact decide_eq_false (by omega)
structure BestI (P : Nat → Bool) (k : Nat) (f : Bool) (b : List Int) : Prop where
  no : f = false → (∀ t, 1 ≤ t → t < k → P t = true) ∧ b = []
  yes : f = true → (∃ t, 1 ≤ t ∧ t < k ∧ P t = false ∧ b = memL t) ∧ ∀ t, 1 ≤ t → t < k → P t = false → ahB (memL t) b = false
theorem BestI.start (P : Nat → Bool) : BestI P 1 false [] := ⟨fun _ => ⟨fun t h1 h2 => by omega, rfl⟩, (fun h => by cases h)⟩
theorem ah_self (a : List Int) : ahB a a = false := by
  unfold ahB
  rw [decide_eq_false (by simp)]
  show lexB a a = false
  induction a with
  | nil => rfl
  | cons x a ih => unfold lexB; rw [decide_eq_false (by simp)]; exact ih
theorem BestI.take {P : Nat → Bool} {k : Nat} {f : Bool} {b : List Int} (h : BestI P k f b) (hk : 1 ≤ k) (h1 : f = false ∨ ahB (memL k) b = true) (h2 : P k = false) : BestI P (k + 1) true (memL k) := by
  refine ⟨(fun h => by cases h), fun _ => ⟨⟨k, hk, by omega, h2, rfl⟩, fun t t1 t2 t3 => ?_⟩⟩
  by_cases e : t = k
  · subst e; exact ah_self _
  · cases hf : f with
    | false => rw [(h.no hf).1 t t1 (by omega)] at t3; cases t3
    | true =>
      have h3 := (h.yes hf).2 t t1 (by omega) t3
      have h4 := h1.resolve_left (by rw [hf]; simp)
      exact ah_anti (ah_trans h4 h3)
theorem BestI.skip {P : Nat → Bool} {k : Nat} {f : Bool} {b : List Int} (h : BestI P k f b) (h1 : P k = true ∨ (f = true ∧ ahB (memL k) b = false)) : BestI P (k + 1) f b := by
  refine ⟨fun hf => ⟨fun t t1 t2 => ?_, (h.no hf).2⟩, fun hf => ⟨?_, fun t t1 t2 t3 => ?_⟩⟩
  · by_cases e : t = k
    · subst e
      rcases h1 with h1 | h1
      · exact h1
      · rw [h1.1] at hf; cases hf
    · exact (h.no hf).1 t t1 (by omega)
  · obtain ⟨t, t1, t2, t3⟩ := (h.yes hf).1
    exact ⟨t, t1, by omega, t3⟩
  · by_cases e : t = k
    · subst e
      rcases h1 with h1 | h1
      · rw [h1] at t3; cases t3
      · exact h1.2
    · exact (h.yes hf).2 t t1 (by omega) t3
theorem BestI.done {miss : Int} {hs : List Hnd} (hm : 0 ≤ miss) (hh : ∀ h ∈ hs, h.ok) (h6 : hs.length ≤ 6) {f : Bool} {b : List Int} (h : BestI (agB miss hs) (2 ^ hs.length) f b) : f = !(agr miss hs fun _ => true) ∧ b = bif agr miss hs (fun _ => true) then [] else clashL miss hs := by
  have hcong : ∀ t, agr miss hs (flt (memL t)) = agB miss hs t := fun t => agr_cong fun i hi => memL_flt (by omega)
  have hall : ∀ f, agr miss hs (fun _ => true) = true → agr miss hs f = true := fun f ha => agr_less hm hh hh (fun j x hj _ => ⟨j, hj, rfl⟩) ha
  cases ha : agr miss hs fun _ => true with
  | true =>
    cases hf : f with
    | false => exact ⟨rfl, (h.no hf).2⟩
    | true =>
      obtain ⟨t, _, _, t3, _⟩ := (h.yes hf).1
      have h9 : agB miss hs t = true := hall _ ha
      rw [h9] at t3; cases t3
  | false =>
    have hc := clash_hit ha
    obtain ⟨⟨y, e1, hy, hp, hb, hn⟩, hmin⟩ := clash_first hc
    obtain ⟨t, t1, t2, t3⟩ := memL_of h6 hp hb
    have htn : agB miss hs t = false := by rw [← hcong, t2, ← e1]; exact hn
    cases hf : f with
    | false => rw [(h.no hf).1 t (t3 hy) t1] at htn; cases htn
    | true =>
      obtain ⟨⟨s, s1, s2, s3, s4⟩, h5⟩ := h.yes hf
      refine ⟨rfl, ?_⟩
      have h7 := h5 t (t3 hy) t1 htn
      rw [t2, ← e1] at h7
      obtain ⟨z, z1, z2, z3⟩ := memL_srt s
      have hzn : ∀ j ∈ z, j < hs.length := fun j hj => by
        rcases Nat.lt_or_ge j hs.length with h8 | h8
        · exact h8
        · have := ((z3 j).1 hj).2; rw [bits_hi s2 h8] at this; cases this
      have h8 := hmin z (fun e => by
        have h9 : ∀ i, s.testBit i = false := fun i => by
          rcases Nat.lt_or_ge i 6 with h10 | h10
          · cases hb : s.testBit i with
            | false => rfl
            | true => have := (z3 i).2 ⟨h10, hb⟩; rw [e] at this; cases this
          · exact bits_hi (Nat.lt_of_lt_of_le s2 (Nat.pow_le_pow_right (by decide) h6)) h10
        have : s = 0 := Nat.eq_of_testBit_eq fun i => by rw [h9, Nat.zero_testBit]
        omega) (by
        have := nodup_len (l := z) (l' := List.range hs.length) (z2.imp fun h => Nat.ne_of_lt h) (fun j hj => List.mem_range.2 (hzn j hj))
        simpa using this) z2 hzn (by rw [← z1, hcong]; exact s3)
      rw [← z1, ← s4] at h8
      show b = clashL miss hs
      exact ah_total h8 h7
theorem rng64 {f : Nat → List Value} {i : Nat} (h : i < 64) : ((List.range 64).map f)[((i : Nat) : Int).toNat]? = some (f i) := by
  rw [Int.toNat_natCast, List.getElem?_map, List.getElem?_range h]; rfl
theorem lex_drop {a b : List Int} (hl : a.length = b.length) : ∀ {i : Nat}, a.take i = b.take i → lexB a b = lexB (a.drop i) (b.drop i)
  | 0, _ => rfl
  | i + 1, h => by
    have h1 : a.take i = b.take i := by
      have := congrArg (List.take i) h
      rw [List.take_take, List.take_take, show min i (i + 1) = i by omega] at this; exact this
    rw [lex_drop hl h1]
    rcases Nat.lt_or_ge i a.length with h2 | h2
    · have h3 : i < b.length := by omega
      rw [List.drop_eq_getElem_cons h2, List.drop_eq_getElem_cons h3]
      have h4 : a[i] = b[i] := by
        have h8 := congrArg (fun z => z[i]?) h
        simp only [List.getElem?_take, show i < i + 1 by omega, if_true] at h8
        rw [List.getElem?_eq_getElem h2, List.getElem?_eq_getElem h3] at h8
        exact Option.some.inj h8
      show lexB _ _ = _
      rw [lexB, h4, decide_eq_false (by simp)]; rfl
    · rw [List.drop_eq_nil_of_le h2, List.drop_eq_nil_of_le (show a.length ≤ i + 1 by omega)]; unfold lexB; rfl
theorem lex_at {a b : List Int} {i : Nat} {x y : Int} (hl : a.length = b.length) (h : a.take i = b.take i) (hx : a[i]? = some x) (hy : b[i]? = some y) (hn : x ≠ y) : lexB a b = decide (x < y) := by
  obtain ⟨h2, e2⟩ := List.getElem?_eq_some_iff.1 hx
  obtain ⟨h3, e3⟩ := List.getElem?_eq_some_iff.1 hy
  rw [lex_drop hl h, List.drop_eq_getElem_cons h2, List.drop_eq_getElem_cons h3, e2, e3, lexB, decide_eq_true hn]; rfl
theorem lex_same (a : List Int) : lexB a a = false := by
  induction a with
  | nil => rfl
  | cons x a ih => unfold lexB; rw [decide_eq_false (by simp)]; exact ih
theorem take_more {a b : List Int} {i : Nat} {x : Int} (h : a.take i = b.take i) (hx : a[i]? = some x) (hy : b[i]? = some x) : a.take (i + 1) = b.take (i + 1) := by
  rw [List.take_add_one, List.take_add_one, h, hx, hy]
def lstE (n : Nat) (l : List Int) : Int := bif !(l.all fun i => inb i 0 ((n : Int) - 1)) then 1 else bif !(decide l.Nodup) then 5 else 0
theorem flt_mem {l : List Int} {i : Nat} : flt l i = decide ((i : Int) ∈ l) := by
  rw [Bool.eq_iff_iff, decide_eq_true_eq]
  unfold flt
  rw [List.any_eq_true]
  exact ⟨fun ⟨x, h1, h2⟩ => by rw [of_decide_eq_true h2]; exact h1, fun h => ⟨_, h, decide_eq_true rfl⟩⟩
theorem nodup_step {l : List Int} {i : Nat} {x : Int} (hx : l[i]? = some x) (hn : (l.take i).Nodup) (h : x ∉ l.take i) : (l.take (i + 1)).Nodup := by
  rw [List.take_add_one, hx]
  exact List.nodup_append.2 ⟨hn, by simp, fun a ha b hb => by obtain rfl : b = x := by simpa using hb
                                                              intro e; exact h (e ▸ ha)⟩
theorem mem_step {l : List Int} {i v j : Nat} (hx : l[i]? = some (v : Int)) : (j : Int) ∈ l.take (i + 1) ↔ ((j : Int) ∈ l.take i ∨ v = j) := by
  rw [List.take_add_one, hx, List.mem_append]
  refine or_congr Iff.rfl ?_
  simp only [Option.toList_some, List.mem_singleton]
  omega
theorem nodup_not {l : List Int} {i : Nat} {x : Int} (hx : l[i]? = some x) (h : x ∈ l.take i) : ¬ l.Nodup := fun hn => by
  have h1 : (l.take (i + 1)).Nodup := hn.sublist (List.take_sublist _ _)
  rw [List.take_add_one, hx] at h1
  exact (List.nodup_append.1 h1).2.2 x h x (by simp) rfl
def sptB (hs : List Hnd) (s : Nat) (i : Nat) : Bool := match hs[i]? with
  | some h => decide (h.spot = (s : Int))
  | none => false
def sptL (hs : List Hnd) (s : Nat) (i : Nat) : Bool := match hs[i]? with
  | some h => decide (h.spot < (s : Int))
  | none => false
theorem spot_apart {hs : List Hnd} {s : Nat} {w t : Nat} (hw : ∀ j, w.testBit j = sptL hs s j) (ht : ∀ j, t.testBit j = sptB hs s j) : w &&& t = 0 := and0_iff.2 fun j => by
  rw [hw, ht]
  unfold sptB sptL
  cases hs[j]? with
  | none => rfl
  | some h =>
    by_cases e : h.spot = (s : Int)
    · simp [e]
    · simp [e]
theorem spot_add {hs : List Hnd} {s : Nat} {w t : Nat} (hw : ∀ j, w.testBit j = sptL hs s j) (ht : ∀ j, t.testBit j = sptB hs s j) (j : Nat) : (w + t).testBit j = sptL hs (s + 1) j := by
  rw [add_bits (spot_apart hw ht), hw, ht]
  unfold sptB sptL
  cases hs[j]? with
  | none => rfl
  | some h =>
    show (decide _ || decide _) = decide _
    rw [← Bool.decide_or]
    exact decide_eq_decide.2 (by omega)
theorem sptL_0 {hs : List Hnd} (hh : ∀ h ∈ hs, h.ok) (j : Nat) : (0 : Nat).testBit j = sptL hs 0 j := by
  rw [Nat.zero_testBit]
  unfold sptL
  cases hj : hs[j]? with
  | none => rfl
  | some h => have := (hh h (List.mem_of_getElem? hj)).spot; exact (decide_eq_false (by omega)).symm
theorem sptL_3 {hs : List Hnd} (hh : ∀ h ∈ hs, h.ok) {j : Nat} (hj : j < hs.length) : sptL hs 3 j = true := by
  unfold sptL
  rw [List.getElem?_eq_getElem hj]
  have := (hh hs[j] (List.getElem_mem hj)).spot
  exact decide_eq_true (by omega)
theorem sp_out {hs : List Hnd} {n j : Nat} (h : hs.length ≤ j) : sptL hs n j = false ∧ sptB hs n j = false := by
  unfold sptL sptB; rw [List.getElem?_eq_none h]; exact ⟨rfl, rfl⟩
theorem sp_step {hs : List Hnd} {n i t : Nat} {h : Hnd} (hi : hs[i]? = some h) (ht : ∀ j, t.testBit j = (decide (j < i) && sptB hs n j)) : (h.spot = (n : Int) → ∀ j, (t + 2 ^ i).testBit j = (decide (j < i + 1) && sptB hs n j)) ∧ (h.spot ≠ (n : Int) → ∀ j, t.testBit j = (decide (j < i + 1) && sptB hs n j)) := by
  have hb : sptB hs n i = decide (h.spot = (n : Int)) := by unfold sptB; rw [hi]
  refine ⟨fun e j => ?_, fun e j => ?_⟩
  · rw [add_bit (by rw [ht, decide_eq_false (Nat.lt_irrefl i)]; rfl), ht]
    by_cases ej : i = j
    · subst ej; rw [hb, decide_eq_true e]; simp
    · rw [decide_eq_false ej, Bool.or_false, show decide (j < i + 1) = decide (j < i) from decide_eq_decide.2 (by omega)]
  · rw [ht]
    by_cases ej : i = j
    · subst ej; rw [hb, decide_eq_false e]; simp
    · rw [show decide (j < i + 1) = decide (j < i) from decide_eq_decide.2 (by omega)]
def topK (miss : Int) (hs : List Hnd) (n : Nat) : Bool := (List.range n).all fun s => agr miss hs (fun i => sptB hs s i)
theorem topK_step (miss : Int) (hs : List Hnd) (n : Nat) : topK miss hs (n + 1) = (topK miss hs n && agr miss hs (fun i => sptB hs n i)) := by
  unfold topK; rw [List.range_succ, List.all_append]; simp
theorem topB_eq (miss : Int) (hs : List Hnd) : topB miss hs = (topK miss hs 3 && !(agr miss hs fun _ => true)) := rfl
theorem topK_no {miss : Int} {hs : List Hnd} {n : Nat} (h3 : n < 3) (h : agr miss hs (fun i => sptB hs n i) = false) : topB miss hs = false := by
  rw [topB_eq]
  have : topK miss hs 3 = false := by
    cases hk : topK miss hs 3 with
    | false => rfl
    | true =>
      unfold topK at hk
      have := List.all_eq_true.1 hk n (List.mem_range.2 h3)
      rw [h] at this; cases this
  rw [this]; rfl
theorem c_apart (a b : Nat) (ha : a < 64) (hb : b < 64) (H : Heap) (R : Facts) :
    FnV Tryz.prog 51 [.int .i64 a, .int .i64 b] H R (.bool (decide (a &&& b = 0))) := by
 refine fn_of Tryz.func51 rfl Tryz.ntmps51 rfl ?_
 refine sy_seq ?_
 refine sy_tx' [0] rfl ?_
 refine sp rfl (PE.assign rfl) rfl ?_
 refine sy_seq ?_
 refine sy_block ?_
 refine sy_loop (ι := {x : Nat × Nat // x.1 < 64 ∧ x.2 < 64 ∧ (a &&& b = 0 ↔ x.1 &&& x.2 = 0)}) (fun x => ⟨[(0, .int .i64 x.1.1), (1, .int .i64 x.1.2)], H, R⟩) (fun x => x.1.1) ⟨(a, b), ha, hb, Iff.rfl⟩ ?_ (fun x => ?_)
 exact sy_at (by repeat' first | exact Sub.nil | apply Sub.cons | rfl | (simp [lk]; omega)) (fun _ h => h)
 obtain ⟨⟨p, q⟩, hp, hq, hpq⟩ := x
 dsimp only at hp hq hpq ⊢
 refine sy_seq ?_
 refine sy_seq ?_
 refine sy_tx' [0, 1, 2, 3, 4, 5] rfl ?_
 refine sp rfl (PE.move rfl) rfl ?_
 refine sp rfl (PE.gtr rfl rfl) rfl ?_
 refine sp rfl (PE.move rfl) rfl ?_
 refine sy_case (t := 7) rfl (fun g7 => ?_) (fun g7 => ?_)
 try simp only [decide_eq_true_eq, decide_eq_false_iff_not, Bool.and_eq_true, Bool.or_eq_true, Bool.not_eq_true', Int.not_le, Int.not_lt] at g7
 refine spG rfl rfl rfl rfl (PE.move rfl) rfl ?_
 refine spG rfl rfl rfl rfl (PE.gtr rfl rfl) rfl ?_
 refine sp rfl (PE.pick rfl rfl rfl) rfl ?_
 refine sy_cond rfl (fun hc0 => ?_) (fun hc0 => ?_)
 try simp only [decide_eq_true_eq, decide_eq_false_iff_not, Bool.and_eq_true, Bool.or_eq_true, Bool.not_eq_true', Int.not_le, Int.not_lt] at hc0
 refine sy_skip ?_
 refine sy_block ?_
 refine sy_seq ?_
 refine sy_seq ?_
 refine sy_tx' [0, 1, 2, 3, 4, 5, 6, 7] rfl ?_
 refine sp rfl (PE.move rfl) rfl ?_
 refine sp rfl (PE.rem rfl rfl (by omega)) rfl ?_
 refine sp rfl (PE.eql rfl rfl) rfl ?_
 refine sp rfl (PE.move rfl) rfl ?_
 refine sy_case (t := 14) rfl (fun g14 => ?_) (fun g14 => ?_)
 try simp only [decide_eq_true_eq, decide_eq_false_iff_not, Bool.and_eq_true, Bool.or_eq_true, Bool.not_eq_true', Int.not_le, Int.not_lt] at g14
 refine spG rfl rfl rfl rfl (PE.move rfl) rfl ?_
 refine spG rfl rfl rfl rfl (PE.rem rfl rfl (by omega)) rfl ?_
 refine spG rfl rfl rfl rfl (PE.eql rfl rfl) rfl ?_
 refine sp rfl (PE.pick rfl rfl rfl) rfl ?_
 refine sy_cond rfl (fun hc1 => ?_) (fun hc1 => ?_)
 try simp only [decide_eq_true_eq, decide_eq_false_iff_not, Bool.and_eq_true, Bool.or_eq_true, Bool.not_eq_true', Int.not_le, Int.not_lt] at hc1
 have hres : ¬ a &&& b = 0 := fun h => and_odd (show p % 2 = 1 by omega) (show q % 2 = 1 by omega) (hpq.1 h)
 refine sy_seq ?_
 refine sy_tx' [0] rfl ?_
 refine sp rfl (PE.assign rfl) rfl ?_
 refine sy_ret ?_
 exact sy_return (vs := [_]) rfl (.cons (RV.tmp rfl) .nil) rfl ⟨by simp only [retV]; rw [decide_eq_false hres], rfl, rfl⟩ drp
 try simp only [decide_eq_true_eq, decide_eq_false_iff_not, Bool.and_eq_true, Bool.or_eq_true, Bool.not_eq_true', Int.not_le, Int.not_lt] at hc1
 have hst : p &&& q = 0 ↔ p / 2 &&& q / 2 = 0 := and_half (by omega)
 refine sy_skip ?_
 refine sy_tx' [0, 1, 2, 3, 4, 5] rfl ?_
 refine sp rfl (PE.move rfl) rfl ?_
 refine sp rfl (PE.quo rfl rfl (by omega)) rfl ?_
 refine sp rfl (PE.move rfl) rfl ?_
 refine sp rfl (PE.quo rfl rfl (by omega)) rfl ?_
 refine sp rfl (PE.assign rfl) rfl ?_
 refine sp rfl (PE.assign rfl) rfl ?_
 exact sy_next ⟨(p / 2, q / 2), by omega, by omega, hpq.trans hst⟩ (by dsimp only; omega) (by repeat' first | exact Sub.nil | apply Sub.cons | rfl | (simp [lk]; omega)) (fun _ h => h)
 try simp only [decide_eq_true_eq, decide_eq_false_iff_not, Bool.and_eq_true, Bool.or_eq_true, Bool.not_eq_true', Int.not_le, Int.not_lt] at g14
 have hst : p &&& q = 0 ↔ p / 2 &&& q / 2 = 0 := and_half (by omega)
 repeat refine spN rfl rfl rfl rfl rfl rfl rfl rfl ?_
 refine sp rfl (PE.pick rfl rfl rfl) rfl ?_
 refine sy_condF rfl ?_
 refine sy_skip ?_
 refine sy_tx' [0, 1, 2, 3, 4, 5] rfl ?_
 refine sp rfl (PE.move rfl) rfl ?_
 refine sp rfl (PE.quo rfl rfl (by omega)) rfl ?_
 refine sp rfl (PE.move rfl) rfl ?_
 refine sp rfl (PE.quo rfl rfl (by omega)) rfl ?_
 refine sp rfl (PE.assign rfl) rfl ?_
 refine sp rfl (PE.assign rfl) rfl ?_
 exact sy_next ⟨(p / 2, q / 2), by omega, by omega, hpq.trans hst⟩ (by dsimp only; omega) (by repeat' first | exact Sub.nil | apply Sub.cons | rfl | (simp [lk]; omega)) (fun _ h => h)
 try simp only [decide_eq_true_eq, decide_eq_false_iff_not, Bool.and_eq_true, Bool.or_eq_true, Bool.not_eq_true', Int.not_le, Int.not_lt] at hc0
 have hres := hpq.2 (by rw [show q = 0 by omega, Nat.and_zero])
 refine sy_exit ?_
 repeat refine sy_tx ?_
 refine sy_bx ?_
 refine sy_seq ?_
 refine sy_tx' [0] rfl ?_
 refine sp rfl (PE.assign rfl) rfl ?_
 refine sy_ret ?_
 exact sy_return (vs := [_]) rfl (.cons (RV.tmp rfl) .nil) rfl ⟨by simp only [retV]; rw [decide_eq_true hres], rfl, rfl⟩ drp
 try simp only [decide_eq_true_eq, decide_eq_false_iff_not, Bool.and_eq_true, Bool.or_eq_true, Bool.not_eq_true', Int.not_le, Int.not_lt] at g7
 have hres := hpq.2 (by rw [show p = 0 by omega, Nat.zero_and])
 repeat refine spN rfl rfl rfl rfl rfl rfl rfl rfl ?_
 refine sp rfl (PE.pick rfl rfl rfl) rfl ?_
 refine sy_condF rfl ?_
 refine sy_exit ?_
 repeat refine sy_tx ?_
 refine sy_bx ?_
 refine sy_seq ?_
 refine sy_tx' [0] rfl ?_
 refine sp rfl (PE.assign rfl) rfl ?_
 refine sy_ret ?_
 exact sy_return (vs := [_]) rfl (.cons (RV.tmp rfl) .nil) rfl ⟨by simp only [retV]; rw [decide_eq_true hres], rfl, rfl⟩ drp
theorem c_members (s : Nat) (hs : s < 64) (H : Heap) (R : Facts) :
    Fn Tryz.prog 52 [.int .i64 s] H R (fun v H' R' => ∃ a9 c9, v = .slice a9 (memL s).length c9 ∧ H' = H ∧ R' = RowsA a9 1 (irows (memL s)) :: R) := by
 refine fn_of Tryz.func52 rfl Tryz.ntmps52 rfl ?_
 refine sy_seq ?_
 refine sy_tx' [0] rfl ?_
 refine sp rfl (PE.assign rfl) rfl ?_
 refine sy_seq ?_
 refine sy_tx' [0] rfl ?_
 refine sp rfl (PE.assign rfl) rfl ?_
 refine sy_seq ?_
 refine sy_seq ?_
 refine sy_tx' [0] rfl ?_
 refine sp rfl (PE.assign rfl) rfl ?_
 refine sy_block ?_
 refine sy_loop (ι := (x : {x : Nat × Nat // x.1 ≤ 6 ∧ x.2 = s / 2 ^ x.1}) × OSl 3 1 (irows (memP s x.1.1))) (fun x => ⟨[(0, .int .i64 x.1.1.2), (3, x.2.fs), (4, .int .i64 x.1.1.1)], x.2.G ++ H, R⟩) (fun x => 6 - x.1.1.1) ⟨⟨(0, s), by omega, by simp⟩, OSl.nil _ _⟩ ?_ (fun x => ?_)
 exact sy_at (by repeat' first | exact Sub.nil | apply Sub.cons | rfl | (simp [lk]; omega)) (fun _ h => h)
 obtain ⟨⟨⟨i, d⟩, hi, hd⟩, o⟩ := x
 dsimp only at hi hd o ⊢
 have hcp := memP_len s i
 have hdl : d < 64 := by rw [hd]; exact Nat.lt_of_le_of_lt (Nat.div_le_self _ _) hs
 have hd2 : d / 2 = s / 2 ^ (i + 1) := by rw [hd, Nat.pow_succ, Nat.div_div_eq_div_mul]
 refine sy_seq ?_
 refine sy_seq ?_
 refine sy_tx' [0, 1] rfl ?_
 refine sp rfl (PE.move rfl) rfl ?_
 refine sp rfl (PE.gtr rfl rfl) rfl ?_
 refine sy_cond rfl (fun hc0 => ?_) (fun hc0 => ?_)
 try simp only [decide_eq_true_eq, decide_eq_false_iff_not, Bool.and_eq_true, Bool.or_eq_true, Bool.not_eq_true', Int.not_le, Int.not_lt] at hc0
 have hi5 : i < 6 := by
   rcases Nat.lt_or_ge i 6 with e | e
   · exact e
   · obtain rfl : i = 6 := by omega
     rw [Nat.div_eq_of_lt (show s < 2 ^ 6 by omega)] at hd
     omega
 refine sy_skip ?_
 refine sy_seq ?_
 refine sy_block ?_
 refine sy_seq ?_
 refine sy_seq ?_
 refine sy_tx' [0, 1, 2] rfl ?_
 refine sp rfl (PE.move rfl) rfl ?_
 refine sp rfl (PE.rem rfl rfl (by omega)) rfl ?_
 refine sp rfl (PE.eql rfl rfl) rfl ?_
 refine sy_cond rfl (fun hc1 => ?_) (fun hc1 => ?_)
 try simp only [decide_eq_true_eq, decide_eq_false_iff_not, Bool.and_eq_true, Bool.or_eq_true, Bool.not_eq_true', Int.not_le, Int.not_lt] at hc1
 have hst := memP_on (s := s) (n := i) (by rw [← hd]; omega)
 refine sy_tx' [0, 1, 2, 3, 4] rfl ?_
 refine sp rfl (PE.move rfl) rfl ?_
 refine sp rfl (PE.move rfl) rfl ?_
 refine bsl (out := [_]) rfl sl28 zl3 rfl rfl rfl rfl rfl rfl (fun b14 => ?_)
 refine apO (o) rfl ap28 rfl rfl (rowsH (row := [.int .i64 i]) rfl) rfl rfl ((by simp only [irows, List.length_map, List.length_singleton]; omega)) rfl (fun o15 => ?_)
 refine sp rfl (PE.assign rfl) rfl ?_
 refine sy_tx' [0, 1, 2] rfl ?_
 refine sp rfl (PE.move rfl) rfl ?_
 refine sp rfl (PE.quo rfl rfl (by omega)) rfl ?_
 refine sp rfl (PE.assign rfl) rfl ?_
 refine sy_tx' [0, 1, 2] rfl ?_
 refine sp rfl (PE.move rfl) rfl ?_
 refine sp rfl (PE.add rfl rfl (by omega)) rfl ?_
 refine sp rfl (PE.assign rfl) rfl ?_
 exact sy_next ⟨⟨(i + 1, d / 2), by dsimp only; omega, hd2⟩, o15.cast (by rw [hst]; simp [irows])⟩ (by dsimp only; omega) (by repeat' first | exact Sub.nil | apply Sub.cons | rfl | (simp [lk]; omega)) (fun w h => h.del b14)
 try simp only [decide_eq_true_eq, decide_eq_false_iff_not, Bool.and_eq_true, Bool.or_eq_true, Bool.not_eq_true', Int.not_le, Int.not_lt] at hc1
 have hst := memP_off (s := s) (n := i) (by rw [← hd]; omega)
 refine sy_skip ?_
 refine sy_tx' [0, 1, 2] rfl ?_
 refine sp rfl (PE.move rfl) rfl ?_
 refine sp rfl (PE.quo rfl rfl (by omega)) rfl ?_
 refine sp rfl (PE.assign rfl) rfl ?_
 refine sy_tx' [0, 1, 2] rfl ?_
 refine sp rfl (PE.move rfl) rfl ?_
 refine sp rfl (PE.add rfl rfl (by omega)) rfl ?_
 refine sp rfl (PE.assign rfl) rfl ?_
 exact sy_next ⟨⟨(i + 1, d / 2), by dsimp only; omega, hd2⟩, o.cast (by rw [hst])⟩ (by dsimp only; omega) (by repeat' first | exact Sub.nil | apply Sub.cons | rfl | (simp [lk]; omega)) (fun _ h => h)
 try simp only [decide_eq_true_eq, decide_eq_false_iff_not, Bool.and_eq_true, Bool.or_eq_true, Bool.not_eq_true', Int.not_le, Int.not_lt] at hc0
 have hme : memP s i = memL s := memL_eq (by rw [← hd]; omega) hi
 refine sy_exit ?_
 repeat refine sy_tx ?_
 refine sy_bx ?_
 refine sy_seq ?_
 refine sy_tx' [0, 1] rfl ?_
 refine sp rfl (PE.move rfl) rfl ?_
 refine sp rfl (PE.assign rfl) rfl ?_
 refine sy_ret ?_
 obtain ⟨a9, c9, hfe, hff⟩ := (o.cast (rows' := irows (memL s)) (by rw [hme])).freeze
 rw [List.length_map] at hfe
 exact sy_return (vs := [_]) rfl (.cons (RV.tmp rfl) .nil) rfl ⟨a9, c9, hfe, rfl, rfl⟩ (fun w h => hff h)
theorem c_Listed (c : Crt) (h6 : c.hs.length ≤ 6) (ah : Option Addr) (ch : Nat) (l : List Int) (hl : l.length ≤ 100) (al : Option Addr) (cy : Nat) (H : Heap) (R : Facts) [hL : MemRows al 1 (irows l) R] :
    Fn Tryz.prog 15 [c.v (c.sl ah ch), .slice al l.length cy] H R (fun v H' R' => ∃ s : Nat, s < 64 ∧ v = .tuple #[.int .i64 s, .int .i64 (lstE c.hs.length l)] ∧ H' = H ∧ R' = R ∧ (lstE c.hs.length l = 0 → ∀ j, s.testBit j = flt l j)) := by
 refine fn_of Tryz.func15 rfl Tryz.ntmps15 rfl ?_
 refine sy_seq ?_
 refine sy_tx' [0, 1, 2] rfl ?_
 refine bx rfl rfl rfl (fun b2 => ?_)
 refine sp rfl (PE.assign rfl) rfl ?_
 refine sp rfl (PE.assign rfl) rfl ?_
 refine sy_seq ?_
 refine sy_seq ?_
 refine sy_tx' [0] rfl ?_
 refine sp rfl (PE.assign rfl) rfl ?_
 refine sy_block ?_
 refine sy_loop (ι := {i : Nat // i ≤ l.length ∧ ((l.take i).all fun i => inb i 0 ((c.hs.length : Int) - 1)) = true}) (fun i => ⟨[(1, .slice al l.length cy), (2, .pointer (some ⟨b2, 0, none⟩)), (6, .int .i64 i.1)], (b2, cel 40 (ctl c (c.sl ah ch))) :: H, R⟩) (fun i => l.length - i.1) ⟨0, by omega, rfl⟩ ?_ (fun i => ?_)
 exact sy_at (by repeat' first | exact Sub.nil | apply Sub.cons | rfl | (simp [lk]; omega)) (fun _ h => h)
 obtain ⟨i, hi, hin⟩ := i
 dsimp only at hi hin ⊢
 refine sy_seq ?_
 refine sy_seq ?_
 refine sy_tx' [0, 1, 2, 3] rfl ?_
 refine sp rfl (PE.move rfl) rfl ?_
 refine sp rfl (PE.move rfl) rfl ?_
 refine sp rfl (PE.lenSl isl28 rfl) rfl ?_
 refine sp rfl (PE.lss rfl rfl) rfl ?_
 refine sy_cond rfl (fun hc0 => ?_) (fun hc0 => ?_)
 try simp only [decide_eq_true_eq, decide_eq_false_iff_not, Bool.and_eq_true, Bool.or_eq_true, Bool.not_eq_true', Int.not_le, Int.not_lt] at hc0
 obtain ⟨x, hxx⟩ : ∃ x, l[i]? = some x := ⟨_, List.getElem?_eq_getElem (by omega)⟩
 have hmx := List.mem_of_getElem? hxx
 refine sy_addr (a := al) (sz := 1) (rows := irows l) (by intro h9; have h8 := congrArg List.length h9; simp at h8; simp [h8] at hxx) (fun ba oa hea => ?_)
 subst hea
 refine sy_skip ?_
 refine sy_seq ?_
 refine sy_block ?_
 refine sy_seq ?_
 refine sy_draw [0, 0, 3, 7, 0, 16, 48, 112, 255] (.tk 0 (.tk 1 (.tk 2 (.ld 3 (.tk 4 (.ld 5 (.tk 6 (.tk 7 (.big 8 .done))))))))) mixed (by kernel_rfl) ?_
 refine tk rfl (PE.move rfl) rfl ?_
 refine tk rfl (PE.move rfl) rfl ?_
 refine tk rfl (PE.indexAddr el28 rfl rfl (by omega) (by omega)) rfl ?_
 refine ld rfl rfl (lf0 (x := .int .i64 x) sc3 (by simp [irows, hxx]; rfl) rfl) rfl ?_
 refine tk rfl (PE.fieldAddr fo40_2 rfl) rfl ?_
 refine ld rfl rfl (lh sc38 rfl rfl) rfl ?_
 refine tk rfl (PE.lenSl isl38 rfl) rfl ?_
 refine tk rfl (PE.sub rfl rfl (by omega)) rfl ?_
 refine clV rfl cal50 rfl rfl (c_off _ _ _ _ _) ?_
 refine bg (fun w hs => ⟨trivial, trivial, trivial⟩) ?_
 refine sy_cond rfl (fun hc1 => ?_) (fun hc1 => ?_)
 try simp only [decide_eq_true_eq, decide_eq_false_iff_not, Bool.and_eq_true, Bool.or_eq_true, Bool.not_eq_true', Int.not_le, Int.not_lt] at hc1
 have hx2 : inb x 0 ((c.hs.length : Int) - 1) = false := by simpa using hc1
 have hE : lstE c.hs.length l = 1 := by
   unfold lstE
   rw [show (l.all fun i => inb i 0 ((c.hs.length : Int) - 1)) = false from by
     cases h : l.all fun i => inb i 0 ((c.hs.length : Int) - 1) with
     | false => rfl
     | true => have := List.all_eq_true.1 h x hmx; rw [hx2] at this; cases this]; rfl
 refine sy_seq ?_
 refine sy_tx' [0, 1] rfl ?_
 refine sp rfl (PE.assign rfl) rfl ?_
 refine sp rfl (PE.assign rfl) rfl ?_
 refine sy_ret ?_
 exact sy_return (vs := [_, _]) rfl (.cons (RV.tmp rfl) (.cons (RV.tmp rfl) .nil)) rfl ⟨0, by decide, by rw [hE]; rfl, rfl, rfl, fun h => by rw [hE] at h; cases h⟩ (fun w h => h.del b2)
 try simp only [decide_eq_true_eq, decide_eq_false_iff_not, Bool.and_eq_true, Bool.or_eq_true, Bool.not_eq_true', Int.not_le, Int.not_lt] at hc1
 have hx2 : inb x 0 ((c.hs.length : Int) - 1) = true := by simpa using hc1
 refine sy_skip ?_
 refine sy_tx' [0, 1, 2] rfl ?_
 refine sp rfl (PE.move rfl) rfl ?_
 refine sp rfl (PE.add rfl rfl (by omega)) rfl ?_
 refine sp rfl (PE.assign rfl) rfl ?_
 exact sy_next ⟨i + 1, by omega, by rw [List.take_add_one, hxx, List.all_append, hin]; simp [hx2]⟩ (by dsimp only; omega) (by repeat' first | exact Sub.nil | apply Sub.cons | rfl | (simp [lk]; omega)) (fun _ h => h)
 try simp only [decide_eq_true_eq, decide_eq_false_iff_not, Bool.and_eq_true, Bool.or_eq_true, Bool.not_eq_true', Int.not_le, Int.not_lt] at hc0
 obtain rfl : i = l.length := by omega
 rw [List.take_length] at hin
 refine sy_exit ?_
 repeat refine sy_tx ?_
 refine sy_bx ?_
 refine sy_seq ?_
 refine sy_tx' [0] rfl ?_
 refine sp rfl (PE.assign rfl) rfl ?_
 refine sy_seq ?_
 refine sy_seq ?_
 refine sy_tx' [0] rfl ?_
 refine sp rfl (PE.assign rfl) rfl ?_
 refine sy_block ?_
 refine sy_loop (ι := {x : Nat × Nat // x.1 ≤ l.length ∧ (l.take x.1).Nodup ∧ x.2 < 64 ∧ ∀ j, x.2.testBit j = flt (l.take x.1) j}) (fun x => ⟨[(1, .slice al l.length cy), (2, .pointer (some ⟨b2, 0, none⟩)), (7, .int .i64 x.1.2), (8, .int .i64 x.1.1)], (b2, cel 40 (ctl c (c.sl ah ch))) :: H, R⟩) (fun x => l.length - x.1.1) ⟨(0, 0), by omega, List.nodup_nil, by decide, fun j => by simp [flt]⟩ ?_ (fun x => ?_)
 exact sy_at (by repeat' first | exact Sub.nil | apply Sub.cons | rfl | (simp [lk]; omega)) (fun _ h => h)
 obtain ⟨⟨i, s⟩, hi, hnd, hs, hbt⟩ := x
 dsimp only at hi hnd hs hbt ⊢
 refine sy_seq ?_
 refine sy_seq ?_
 refine sy_tx' [0, 1, 2, 3] rfl ?_
 refine sp rfl (PE.move rfl) rfl ?_
 refine sp rfl (PE.move rfl) rfl ?_
 refine sp rfl (PE.lenSl isl28 rfl) rfl ?_
 refine sp rfl (PE.lss rfl rfl) rfl ?_
 refine sy_cond rfl (fun hc2 => ?_) (fun hc2 => ?_)
 try simp only [decide_eq_true_eq, decide_eq_false_iff_not, Bool.and_eq_true, Bool.or_eq_true, Bool.not_eq_true', Int.not_le, Int.not_lt] at hc2
 obtain ⟨x, hxx⟩ : ∃ x, l[i]? = some x := ⟨_, List.getElem?_eq_getElem (by omega)⟩
 have hmx := List.mem_of_getElem? hxx
 refine sy_addr (a := al) (sz := 1) (rows := irows l) (by intro h9; have h8 := congrArg List.length h9; simp at h8; simp [h8] at hxx) (fun ba oa hea => ?_)
 subst hea
 have hx2 := List.all_eq_true.1 hin x hmx
 simp only [inb, Bool.and_eq_true, decide_eq_true_eq] at hx2
 obtain ⟨v, rfl⟩ : ∃ v : Nat, x = v := ⟨x.toNat, by omega⟩
 have hv6 : v < 6 := by omega
 refine sy_skip ?_
 refine sy_seq ?_
 refine sy_block ?_
 refine sy_seq ?_
 refine sy_tx' [0] rfl ?_
 refine sp rfl (PE.assign rfl) rfl ?_
 refine sy_seq ?_
 refine sy_seq ?_
 refine sy_tx' [0] rfl ?_
 refine sp rfl (PE.assign rfl) rfl ?_
 refine sy_block ?_
 refine sy_loop (ι := {k : Nat // k ≤ v}) (fun k => ⟨[(1, .slice (some ⟨ba, oa, none⟩) l.length cy), (2, .pointer (some ⟨b2, 0, none⟩)), (7, .int .i64 s), (8, .int .i64 i), (9, .int .i64 ((2 ^ k.1 : Nat) : Int)), (10, .int .i64 k.1)], (b2, cel 40 (ctl c (c.sl ah ch))) :: H, R⟩) (fun k => v - k.1) ⟨0, by omega⟩ ?_ (fun k => ?_)
 exact sy_at (by repeat' first | exact Sub.nil | apply Sub.cons | rfl | (simp [lk]; omega)) (fun _ h => h)
 obtain ⟨k, hk⟩ := k
 dsimp only at hk ⊢
 have h2p : 2 ^ k ≤ 2 ^ 5 := Nat.pow_le_pow_right (by decide) (by omega)
 have hp0 : 0 < 2 ^ k := Nat.pow_pos (by decide)
 have hps : 2 ^ (k + 1) = 2 ^ k + 2 ^ k := by rw [Nat.pow_succ]; omega
 refine sy_seq ?_
 refine sy_seq ?_
 refine sy_tx' [0, 1, 2, 3, 4, 5] rfl ?_
 refine sp rfl (PE.move rfl) rfl ?_
 refine sp rfl (PE.move rfl) rfl ?_
 refine sp rfl (PE.move rfl) rfl ?_
 refine sp rfl (PE.indexAddr el28 rfl rfl (by omega) (by omega)) rfl ?_
 refine spL rfl rfl (lf0 (x := .int .i64 (v : Int)) sc3 (by simp [irows, hxx]; rfl) rfl) rfl ?_
 refine sp rfl (PE.lss rfl rfl) rfl ?_
 refine sy_cond rfl (fun hc3 => ?_) (fun hc3 => ?_)
 try simp only [decide_eq_true_eq, decide_eq_false_iff_not, Bool.and_eq_true, Bool.or_eq_true, Bool.not_eq_true', Int.not_le, Int.not_lt] at hc3
 refine sy_skip ?_
 refine sy_seq ?_
 refine sy_block ?_
 refine sy_tx' [0, 1, 2] rfl ?_
 refine sp rfl (PE.move rfl) rfl ?_
 refine sp rfl (PE.mul rfl rfl (by omega)) rfl ?_
 refine sp rfl (PE.assign rfl) rfl ?_
 refine sy_tx' [0, 1, 2] rfl ?_
 refine sp rfl (PE.move rfl) rfl ?_
 refine sp rfl (PE.add rfl rfl (by omega)) rfl ?_
 refine sp rfl (PE.assign rfl) rfl ?_
 exact sy_next ⟨k + 1, by omega⟩ (by dsimp only; omega) (by dsimp only; rw [show ((2 ^ (k + 1) : Nat) : Int) = 2 * ((2 ^ k : Nat) : Int) from by rw [hps]; omega]; exact (by repeat' first | exact Sub.nil | apply Sub.cons | rfl | (simp [lk]; omega))) (fun _ h => h)
 try simp only [decide_eq_true_eq, decide_eq_false_iff_not, Bool.and_eq_true, Bool.or_eq_true, Bool.not_eq_true', Int.not_le, Int.not_lt] at hc3
 obtain rfl : k = v := by omega
 refine sy_exit ?_
 repeat refine sy_tx ?_
 refine sy_bx ?_
 refine sy_seq ?_
 refine sy_seq ?_
 refine sy_tx' [0, 1, 2, 3, 4] rfl ?_
 refine sp rfl (PE.move rfl) rfl ?_
 refine sp rfl (PE.move rfl) rfl ?_
 refine sp rfl (PE.quo rfl rfl (by omega)) rfl ?_
 refine sp rfl (PE.rem rfl rfl (by have := Int.ediv_nonneg (show (0 : Int) ≤ s by omega) (show (0 : Int) ≤ ((2 ^ k : Nat) : Int) by omega); omega)) rfl ?_
 refine sp rfl (PE.eql rfl rfl) rfl ?_
 refine sy_cond rfl (fun hc4 => ?_) (fun hc4 => ?_)
 try simp only [decide_eq_true_eq, decide_eq_false_iff_not, Bool.and_eq_true, Bool.or_eq_true, Bool.not_eq_true', Int.not_le, Int.not_lt] at hc4
 have hb : s.testBit k = true := by rw [Nat.testBit_eq_decide_div_mod_eq, decide_eq_true_eq]; exact_mod_cast hc4
 have hE : lstE c.hs.length l = 5 := by
   unfold lstE
   rw [hbt, flt_mem] at hb
   rw [hin, decide_eq_false (nodup_not hxx (of_decide_eq_true hb))]; rfl
 refine sy_seq ?_
 refine sy_tx' [0, 1] rfl ?_
 refine sp rfl (PE.assign rfl) rfl ?_
 refine sp rfl (PE.assign rfl) rfl ?_
 refine sy_ret ?_
 exact sy_return (vs := [_, _]) rfl (.cons (RV.tmp rfl) (.cons (RV.tmp rfl) .nil)) rfl ⟨0, by decide, by rw [hE]; rfl, rfl, rfl, fun h => by rw [hE] at h; cases h⟩ (fun w h => h.del b2)
 try simp only [decide_eq_true_eq, decide_eq_false_iff_not, Bool.and_eq_true, Bool.or_eq_true, Bool.not_eq_true', Int.not_le, Int.not_lt] at hc4
 have hb : s.testBit k = false := by rw [Nat.testBit_eq_decide_div_mod_eq, decide_eq_false_iff_not]; exact_mod_cast hc4
 have hst := add_bit hb
 have hs2 : s + 2 ^ k < 64 := bits_lt (n := 6) fun j hj => by rw [hst, bits_hi (n := 6) hs hj, decide_eq_false (show ¬ k = j by omega)]; rfl
 refine sy_skip ?_
 refine sy_tx' [0, 1, 2, 3] rfl ?_
 refine sp rfl (PE.move rfl) rfl ?_
 refine sp rfl (PE.move rfl) rfl ?_
 refine sp rfl (PE.add rfl rfl (by omega)) rfl ?_
 refine sp rfl (PE.assign rfl) rfl ?_
 refine sy_tx' [0, 1, 2] rfl ?_
 refine sp rfl (PE.move rfl) rfl ?_
 refine sp rfl (PE.add rfl rfl (by omega)) rfl ?_
 refine sp rfl (PE.assign rfl) rfl ?_
 exact sy_next ⟨(i + 1, s + 2 ^ k), by omega, nodup_step hxx hnd (fun h => by rw [hbt, flt_mem, decide_eq_true h] at hb; cases hb), hs2, fun j => by rw [hst, hbt, flt_mem, flt_mem, ← Bool.decide_or]; exact decide_eq_decide.2 (mem_step hxx).symm⟩ (by dsimp only; omega) (by dsimp only; rw [show ((s + 2 ^ k : Nat) : Int) = (s : Int) + ((2 ^ k : Nat) : Int) from by omega]; exact (by repeat' first | exact Sub.nil | apply Sub.cons | rfl | (simp [lk]; omega))) (fun _ h => h)
 try simp only [decide_eq_true_eq, decide_eq_false_iff_not, Bool.and_eq_true, Bool.or_eq_true, Bool.not_eq_true', Int.not_le, Int.not_lt] at hc2
 obtain rfl : i = l.length := by omega
 rw [List.take_length] at hnd hbt
 have hE : lstE c.hs.length l = 0 := by unfold lstE; rw [hin, decide_eq_true hnd]; rfl
 refine sy_exit ?_
 repeat refine sy_tx ?_
 refine sy_bx ?_
 refine sy_seq ?_
 refine sy_tx' [0, 1, 2] rfl ?_
 refine sp rfl (PE.move rfl) rfl ?_
 refine sp rfl (PE.assign rfl) rfl ?_
 refine sp rfl (PE.assign rfl) rfl ?_
 refine sy_ret ?_
 exact sy_return (vs := [_, _]) rfl (.cons (RV.tmp rfl) (.cons (RV.tmp rfl) .nil)) rfl ⟨s, hs, by rw [hE]; rfl, rfl, rfl, fun _ => hbt⟩ (fun w h => h.del b2)
theorem c_rAgree (miss : Int) (hm : 0 ≤ miss) (hs : List Hnd) (hh : ∀ h ∈ hs, h.ok) (h6 : hs.length ≤ 6) (ms : List Mix) (hms : ∀ m, m ∈ ms ↔ Mxt m) (bo : Nat) (aa : Nat → Option Addr) (cc : Nat → Nat) (s : Nat) (hs64 : s < 64) (H : Heap) (R : Facts) [hP : MemRows (some ⟨bo, 0, none⟩) 1 ((List.range 64).map fun s => [Value.slice (aa s) (partS miss hs ms s).length (cc s)]) R] :
    FnV Tryz.prog 16 [.slice (some ⟨bo, 0, none⟩) 64 64, .int .i64 s] H R (.bool (agB miss hs s)) := by
 refine fn_of Tryz.func16 rfl Tryz.ntmps16 rfl ?_
 refine sy_seq ?_
 refine sy_tx' [0] rfl ?_
 refine sp rfl (PE.assign rfl) rfl ?_
 refine sy_seq ?_
 refine sy_seq ?_
 refine sy_tx' [0] rfl ?_
 refine sp rfl (PE.assign rfl) rfl ?_
 refine sy_block ?_
 refine sy_loop (ι := {i : Nat // i ≤ 64 ∧ ∀ q < i, ¬ (0 < (partS miss hs ms q).length ∧ q &&& s = 0)}) (fun i => ⟨[(0, .slice (some ⟨bo, 0, none⟩) 64 64), (1, .int .i64 s), (5, .int .i64 i.1)], H, R⟩) (fun i => 64 - i.1) ⟨0, by omega, by omega⟩ ?_ (fun i => ?_)
 exact sy_at (by repeat' first | exact Sub.nil | apply Sub.cons | rfl | (simp [lk]; omega)) (fun _ h => h)
 obtain ⟨i, hi, hno⟩ := i
 dsimp only at hi hno ⊢
 refine sy_seq ?_
 refine sy_seq ?_
 refine sy_tx' [0, 1] rfl ?_
 refine sp rfl (PE.move rfl) rfl ?_
 refine sp rfl (PE.lss rfl rfl) rfl ?_
 refine sy_cond rfl (fun hc0 => ?_) (fun hc0 => ?_)
 try simp only [decide_eq_true_eq, decide_eq_false_iff_not, Bool.and_eq_true, Bool.or_eq_true, Bool.not_eq_true', Int.not_le, Int.not_lt] at hc0
 refine sy_skip ?_
 refine sy_seq ?_
 refine sy_block ?_
 refine sy_seq ?_
 refine sy_tx' [0, 1, 2, 3, 4, 5, 6, 7, 8, 9, 10] rfl ?_
 refine sp rfl (PE.move rfl) rfl ?_
 refine sp rfl (PE.move rfl) rfl ?_
 refine sp rfl (PE.indexAddr el44 rfl rfl (by omega) (by omega)) rfl ?_
 refine spL rfl rfl (lf0 (x := .slice (aa i) (partS miss hs ms i).length (cc i)) sc103 (rng64 (by omega)) rfl) rfl ?_
 refine sp rfl (PE.lenSl isl103 rfl) rfl ?_
 refine sp rfl (PE.gtr rfl rfl) rfl ?_
 refine sp rfl (PE.move rfl) rfl ?_
 refine sy_case (t := 16) rfl (fun g16 => ?_) (fun g16 => ?_)
 try simp only [decide_eq_true_eq, decide_eq_false_iff_not, Bool.and_eq_true, Bool.or_eq_true, Bool.not_eq_true', Int.not_le, Int.not_lt] at g16
 refine spG rfl rfl rfl rfl (PE.move rfl) rfl ?_
 refine spG rfl rfl rfl rfl (PE.move rfl) rfl ?_
 refine clVG rfl rfl rfl rfl cal51 rfl rfl (c_apart i s (by omega) hs64 _ _) ?_
 refine sp rfl (PE.pick rfl rfl rfl) rfl ?_
 refine sy_cond rfl (fun hc1 => ?_) (fun hc1 => ?_)
 try simp only [decide_eq_true_eq, decide_eq_false_iff_not, Bool.and_eq_true, Bool.or_eq_true, Bool.not_eq_true', Int.not_le, Int.not_lt] at hc1
 have hres : agB miss hs s = true := (agB_ref hm hh h6 hms s).2 ⟨i, by omega, by omega, by omega⟩
 refine sy_seq ?_
 refine sy_tx' [0] rfl ?_
 refine sp rfl (PE.assign rfl) rfl ?_
 refine sy_ret ?_
 exact sy_return (vs := [_]) rfl (.cons (RV.tmp rfl) .nil) rfl ⟨by simp only [retV]; rw [hres], rfl, rfl⟩ drp
 try simp only [decide_eq_true_eq, decide_eq_false_iff_not, Bool.and_eq_true, Bool.or_eq_true, Bool.not_eq_true', Int.not_le, Int.not_lt] at hc1
 refine sy_skip ?_
 refine sy_tx' [0, 1, 2] rfl ?_
 refine sp rfl (PE.move rfl) rfl ?_
 refine sp rfl (PE.add rfl rfl (by omega)) rfl ?_
 refine sp rfl (PE.assign rfl) rfl ?_
 exact sy_next ⟨i + 1, by omega, fun q hq => by
   rcases Nat.lt_or_ge q i with h9 | h9
   · exact hno q h9
   · obtain rfl : q = i := by omega
     intro h8; omega⟩ (by dsimp only; omega) (by repeat' first | exact Sub.nil | apply Sub.cons | rfl | (simp [lk]; omega)) (fun _ h => h)
 try simp only [decide_eq_true_eq, decide_eq_false_iff_not, Bool.and_eq_true, Bool.or_eq_true, Bool.not_eq_true', Int.not_le, Int.not_lt] at g16
 repeat refine spN rfl rfl rfl rfl rfl rfl rfl rfl ?_
 refine sp rfl (PE.pick rfl rfl rfl) rfl ?_
 refine sy_condF rfl ?_
 refine sy_skip ?_
 refine sy_tx' [0, 1, 2] rfl ?_
 refine sp rfl (PE.move rfl) rfl ?_
 refine sp rfl (PE.add rfl rfl (by omega)) rfl ?_
 refine sp rfl (PE.assign rfl) rfl ?_
 exact sy_next ⟨i + 1, by omega, fun q hq => by
   rcases Nat.lt_or_ge q i with h9 | h9
   · exact hno q h9
   · obtain rfl : q = i := by omega
     intro h8; omega⟩ (by dsimp only; omega) (by repeat' first | exact Sub.nil | apply Sub.cons | rfl | (simp [lk]; omega)) (fun _ h => h)
 try simp only [decide_eq_true_eq, decide_eq_false_iff_not, Bool.and_eq_true, Bool.or_eq_true, Bool.not_eq_true', Int.not_le, Int.not_lt] at hc0
 obtain rfl : i = 64 := by omega
 have hres : agB miss hs s = false := by
   cases h : agB miss hs s with
   | false => rfl
   | true => obtain ⟨q, hq, h1, h2⟩ := (agB_ref hm hh h6 hms s).1 h; exact absurd ⟨h1, h2⟩ (hno q hq)
 refine sy_exit ?_
 repeat refine sy_tx ?_
 refine sy_bx ?_
 refine sy_seq ?_
 refine sy_tx' [0] rfl ?_
 refine sp rfl (PE.assign rfl) rfl ?_
 refine sy_ret ?_
 exact sy_return (vs := [_]) rfl (.cons (RV.tmp rfl) .nil) rfl ⟨by simp only [retV]; rw [hres], rfl, rfl⟩ drp
theorem c_ahead (xs ys : List Int) (hx : xs.length ≤ 100) (hy : ys.length ≤ 100) (a1 a2 : Option Addr) (c1 c2 : Nat) (H : Heap) (R : Facts) [hA1 : MemRows a1 1 (irows xs) R] [hA2 : MemRows a2 1 (irows ys) R] :
    FnV Tryz.prog 53 [.slice a1 xs.length c1, .slice a2 ys.length c2] H R (.bool (ahB xs ys)) := by
 refine fn_of Tryz.func53 rfl Tryz.ntmps53 rfl ?_
 refine sy_seq ?_
 refine sy_tx' [0] rfl ?_
 refine sp rfl (PE.assign rfl) rfl ?_
 refine sy_seq ?_
 refine sy_seq ?_
 refine sy_tx' [0, 1, 2, 3, 4] rfl ?_
 refine sp rfl (PE.move rfl) rfl ?_
 refine sp rfl (PE.lenSl isl28 rfl) rfl ?_
 refine sp rfl (PE.move rfl) rfl ?_
 refine sp rfl (PE.lenSl isl28 rfl) rfl ?_
 refine sp rfl (PE.neq rfl rfl) rfl ?_
 refine sy_cond rfl (fun hc0 => ?_) (fun hc0 => ?_)
 try simp only [decide_eq_true_eq, decide_eq_false_iff_not, Bool.and_eq_true, Bool.or_eq_true, Bool.not_eq_true', Int.not_le, Int.not_lt] at hc0
 have hres : ahB xs ys = decide (xs.length < ys.length) := by unfold ahB; rw [decide_eq_true (show xs.length ≠ ys.length by omega)]; rfl
 refine sy_seq ?_
 refine sy_tx' [0, 1, 2, 3, 4, 5] rfl ?_
 refine sp rfl (PE.move rfl) rfl ?_
 refine sp rfl (PE.lenSl isl28 rfl) rfl ?_
 refine sp rfl (PE.move rfl) rfl ?_
 refine sp rfl (PE.lenSl isl28 rfl) rfl ?_
 refine sp rfl (PE.lss rfl rfl) rfl ?_
 refine sp rfl (PE.assign rfl) rfl ?_
 refine sy_ret ?_
 exact sy_return (vs := [_]) rfl (.cons (RV.tmp rfl) .nil) rfl ⟨by simp only [retV]; rw [hres]; congr 1; exact decide_eq_decide.2 (by omega), rfl, rfl⟩ drp
 try simp only [decide_eq_true_eq, decide_eq_false_iff_not, Bool.and_eq_true, Bool.or_eq_true, Bool.not_eq_true', Int.not_le, Int.not_lt] at hc0
 have hle : xs.length = ys.length := by omega
 have hre : ahB xs ys = lexB xs ys := by unfold ahB; rw [decide_eq_false (by omega)]; rfl
 refine sy_skip ?_
 refine sy_seq ?_
 refine sy_seq ?_
 refine sy_tx' [0] rfl ?_
 refine sp rfl (PE.assign rfl) rfl ?_
 refine sy_block ?_
 refine sy_loop (ι := {i : Nat // i ≤ xs.length ∧ xs.take i = ys.take i}) (fun i => ⟨[(0, .slice a1 xs.length c1), (1, .slice a2 ys.length c2), (5, .int .i64 i.1)], H, R⟩) (fun i => xs.length - i.1) ⟨0, by omega, rfl⟩ ?_ (fun i => ?_)
 exact sy_at (by repeat' first | exact Sub.nil | apply Sub.cons | rfl | (simp [lk]; omega)) (fun _ h => h)
 obtain ⟨i, hi, hsm⟩ := i
 dsimp only at hi hsm ⊢
 refine sy_seq ?_
 refine sy_seq ?_
 refine sy_tx' [0, 1, 2, 3] rfl ?_
 refine sp rfl (PE.move rfl) rfl ?_
 refine sp rfl (PE.move rfl) rfl ?_
 refine sp rfl (PE.lenSl isl28 rfl) rfl ?_
 refine sp rfl (PE.lss rfl rfl) rfl ?_
 refine sy_cond rfl (fun hc1 => ?_) (fun hc1 => ?_)
 try simp only [decide_eq_true_eq, decide_eq_false_iff_not, Bool.and_eq_true, Bool.or_eq_true, Bool.not_eq_true', Int.not_le, Int.not_lt] at hc1
 obtain ⟨x, hxx⟩ : ∃ x, xs[i]? = some x := ⟨_, List.getElem?_eq_getElem (by omega)⟩
 obtain ⟨y, hyy⟩ : ∃ y, ys[i]? = some y := ⟨_, List.getElem?_eq_getElem (by omega)⟩
 refine sy_addr (a := a1) (sz := 1) (rows := irows xs) (by intro h9; have h8 := congrArg List.length h9; simp at h8; simp [h8] at hxx) (fun ba oa hea => ?_)
 refine sy_addr (a := a2) (sz := 1) (rows := irows ys) (by intro h9; have h8 := congrArg List.length h9; simp at h8; simp [h8] at hyy) (fun bb ob heb => ?_)
 subst hea heb
 refine sy_skip ?_
 refine sy_seq ?_
 refine sy_block ?_
 refine sy_seq ?_
 refine sy_draw [0, 0, 3, 7, 0, 0, 48, 112, 255] (.tk 0 (.tk 1 (.tk 2 (.ld 3 (.tk 4 (.tk 5 (.tk 6 (.ld 7 (.tk 8 .done))))))))) mixed (by kernel_rfl) ?_
 refine tk rfl (PE.move rfl) rfl ?_
 refine tk rfl (PE.move rfl) rfl ?_
 refine tk rfl (PE.indexAddr el28 rfl rfl (by omega) (by omega)) rfl ?_
 refine ld rfl rfl (lf0 (x := .int .i64 x) sc3 (by simp [irows, hxx]; rfl) rfl) rfl ?_
 refine tk rfl (PE.move rfl) rfl ?_
 refine tk rfl (PE.move rfl) rfl ?_
 refine tk rfl (PE.indexAddr el28 rfl rfl (by omega) (by omega)) rfl ?_
 refine ld rfl rfl (lf0 (x := .int .i64 y) sc3 (by simp [irows, hyy]; rfl) rfl) rfl ?_
 refine tk rfl (PE.neq rfl rfl) rfl ?_
 refine sy_cond rfl (fun hc2 => ?_) (fun hc2 => ?_)
 try simp only [decide_eq_true_eq, decide_eq_false_iff_not, Bool.and_eq_true, Bool.or_eq_true, Bool.not_eq_true', Int.not_le, Int.not_lt] at hc2
 have hres : ahB xs ys = decide (x < y) := by rw [hre]; exact lex_at hle hsm hxx hyy (by omega)
 refine sy_seq ?_
 refine sy_draw [0, 0, 3, 7, 0, 0, 48, 112, 255, 511] (.tk 0 (.tk 1 (.tk 2 (.ld 3 (.tk 4 (.tk 5 (.tk 6 (.ld 7 (.tk 8 (.tk 9 .done)))))))))) mixed (by kernel_rfl) ?_
 refine tk rfl (PE.move rfl) rfl ?_
 refine tk rfl (PE.move rfl) rfl ?_
 refine tk rfl (PE.indexAddr el28 rfl rfl (by omega) (by omega)) rfl ?_
 refine ld rfl rfl (lf0 (x := .int .i64 x) sc3 (by simp [irows, hxx]; rfl) rfl) rfl ?_
 refine tk rfl (PE.move rfl) rfl ?_
 refine tk rfl (PE.move rfl) rfl ?_
 refine tk rfl (PE.indexAddr el28 rfl rfl (by omega) (by omega)) rfl ?_
 refine ld rfl rfl (lf0 (x := .int .i64 y) sc3 (by simp [irows, hyy]; rfl) rfl) rfl ?_
 refine tk rfl (PE.lss rfl rfl) rfl ?_
 refine tk rfl (PE.assign rfl) rfl ?_
 refine sy_ret ?_
 exact sy_return (vs := [_]) rfl (.cons (RV.tmp rfl) .nil) rfl ⟨by simp only [retV]; rw [hres], rfl, rfl⟩ drp
 try simp only [decide_eq_true_eq, decide_eq_false_iff_not, Bool.and_eq_true, Bool.or_eq_true, Bool.not_eq_true', Int.not_le, Int.not_lt] at hc2
 obtain rfl : x = y := by omega
 refine sy_skip ?_
 refine sy_tx' [0, 1, 2] rfl ?_
 refine sp rfl (PE.move rfl) rfl ?_
 refine sp rfl (PE.add rfl rfl (by omega)) rfl ?_
 refine sp rfl (PE.assign rfl) rfl ?_
 exact sy_next ⟨i + 1, by omega, take_more hsm hxx hyy⟩ (by dsimp only; omega) (by repeat' first | exact Sub.nil | apply Sub.cons | rfl | (simp [lk]; omega)) (fun _ h => h)
 try simp only [decide_eq_true_eq, decide_eq_false_iff_not, Bool.and_eq_true, Bool.or_eq_true, Bool.not_eq_true', Int.not_le, Int.not_lt] at hc1
 obtain rfl : i = xs.length := by omega
 have hsame : xs = ys := by rw [List.take_length] at hsm; rw [hle, List.take_length] at hsm; exact hsm
 have hres : ahB xs ys = false := by rw [hre, ← hsame]; exact lex_same xs
 refine sy_exit ?_
 repeat refine sy_tx ?_
 refine sy_bx ?_
 refine sy_seq ?_
 refine sy_tx' [0] rfl ?_
 refine sp rfl (PE.assign rfl) rfl ?_
 refine sy_ret ?_
 exact sy_return (vs := [_]) rfl (.cons (RV.tmp rfl) .nil) rfl ⟨by simp only [retV]; rw [hres], rfl, rfl⟩ drp
theorem c_rClash (miss : Int) (hm : 0 ≤ miss) (hs : List Hnd) (hh : ∀ h ∈ hs, h.ok) (h6 : hs.length ≤ 6) (ms : List Mix) (hms : ∀ m, m ∈ ms ↔ Mxt m) (bo : Nat) (aa : Nat → Option Addr) (cc : Nat → Nat) (H : Heap) (R : Facts) [hP : MemRows (some ⟨bo, 0, none⟩) 1 ((List.range 64).map fun s => [Value.slice (aa s) (partS miss hs ms s).length (cc s)]) R] :
    Fn Tryz.prog 17 [.slice (some ⟨bo, 0, none⟩) 64 64, .int .i64 hs.length] H R (fun v H' R' => ∃ a9 c9, v = .tuple #[.slice a9 (bif agr miss hs (fun _ => true) then [] else clashL miss hs).length c9, .bool (!(agr miss hs fun _ => true))] ∧ H' = H ∧ R' = RowsA a9 1 (irows (bif agr miss hs (fun _ => true) then [] else clashL miss hs)) :: R) := by
 refine fn_of Tryz.func17 rfl Tryz.ntmps17 rfl ?_
 refine sy_seq ?_
 refine sy_tx' [0, 1] rfl ?_
 refine sp rfl (PE.assign rfl) rfl ?_
 refine sp rfl (PE.assign rfl) rfl ?_
 refine sy_seq ?_
 refine sy_tx' [0] rfl ?_
 refine sp rfl (PE.assign rfl) rfl ?_
 refine sy_seq ?_
 refine sy_seq ?_
 refine sy_tx' [0] rfl ?_
 refine sp rfl (PE.assign rfl) rfl ?_
 refine sy_block ?_
 refine sy_loop (ι := {i : Nat // i ≤ hs.length}) (fun i => ⟨[(0, .slice (some ⟨bo, 0, none⟩) 64 64), (1, .int .i64 hs.length), (6, .int .i64 ((2 ^ i.1 : Nat) : Int)), (7, .int .i64 i.1)], H, R⟩) (fun i => hs.length - i.1) ⟨0, by omega⟩ ?_ (fun i => ?_)
 exact sy_at (by repeat' first | exact Sub.nil | apply Sub.cons | rfl | (simp [lk]; omega)) (fun _ h => h)
 obtain ⟨i, hi⟩ := i
 dsimp only at hi ⊢
 have h2p : 2 ^ i ≤ 2 ^ 6 := Nat.pow_le_pow_right (by decide) (by omega)
 have hp0 : 0 < 2 ^ i := Nat.pow_pos (by decide)
 have hps : 2 ^ (i + 1) = 2 ^ i + 2 ^ i := by rw [Nat.pow_succ]; omega
 refine sy_seq ?_
 refine sy_seq ?_
 refine sy_tx' [0, 1, 2] rfl ?_
 refine sp rfl (PE.move rfl) rfl ?_
 refine sp rfl (PE.move rfl) rfl ?_
 refine sp rfl (PE.lss rfl rfl) rfl ?_
 refine sy_cond rfl (fun hc0 => ?_) (fun hc0 => ?_)
 try simp only [decide_eq_true_eq, decide_eq_false_iff_not, Bool.and_eq_true, Bool.or_eq_true, Bool.not_eq_true', Int.not_le, Int.not_lt] at hc0
 refine sy_skip ?_
 refine sy_seq ?_
 refine sy_block ?_
 refine sy_tx' [0, 1, 2] rfl ?_
 refine sp rfl (PE.move rfl) rfl ?_
 refine sp rfl (PE.mul rfl rfl (by omega)) rfl ?_
 refine sp rfl (PE.assign rfl) rfl ?_
 refine sy_tx' [0, 1, 2] rfl ?_
 refine sp rfl (PE.move rfl) rfl ?_
 refine sp rfl (PE.add rfl rfl (by omega)) rfl ?_
 refine sp rfl (PE.assign rfl) rfl ?_
 exact sy_next ⟨i + 1, by omega⟩ (by dsimp only; omega) (by dsimp only; rw [show ((2 ^ (i + 1) : Nat) : Int) = 2 * ((2 ^ i : Nat) : Int) from by rw [hps]; omega]; exact (by repeat' first | exact Sub.nil | apply Sub.cons | rfl | (simp [lk]; omega))) (fun _ h => h)
 try simp only [decide_eq_true_eq, decide_eq_false_iff_not, Bool.and_eq_true, Bool.or_eq_true, Bool.not_eq_true', Int.not_le, Int.not_lt] at hc0
 obtain rfl : i = hs.length := by omega
 refine Sy.heap (fun w h => St.norows (sz := 1) h) ?_
 refine sy_exit ?_
 repeat refine sy_tx ?_
 refine sy_bx ?_
 refine sy_seq ?_
 refine sy_tx' [0] rfl ?_
 refine sp rfl (PE.assign rfl) rfl ?_
 refine sy_seq ?_
 refine sy_tx' [0] rfl ?_
 refine sp rfl (PE.assign rfl) rfl ?_
 refine sy_seq ?_
 refine sy_seq ?_
 refine sy_tx' [0] rfl ?_
 refine sp rfl (PE.assign rfl) rfl ?_
 refine sy_block ?_
 refine sy_loop (ι := {x : Nat × Bool × List Int × Option Addr × Nat // 1 ≤ x.1 ∧ x.1 ≤ 2 ^ hs.length ∧ x.2.2.1.length ≤ 6 ∧ BestI (agB miss hs) x.1 x.2.1 x.2.2.1}) (fun x => ⟨[(0, .slice (some ⟨bo, 0, none⟩) 64 64), (6, .int .i64 ((2 ^ hs.length : Nat) : Int)), (8, .slice x.1.2.2.2.1 x.1.2.2.1.length x.1.2.2.2.2), (9, .bool x.1.2.1), (10, .int .i64 x.1.1)], H, RowsA x.1.2.2.2.1 1 (irows x.1.2.2.1) :: R⟩) (fun x => 2 ^ hs.length - x.1.1) ⟨(1, false, [], none, 0), by omega, by dsimp only; omega, by simp, BestI.start _⟩ ?_ (fun x => ?_)
 exact sy_at (by repeat' first | exact Sub.nil | apply Sub.cons | rfl | (simp [lk]; omega)) (fun _ h => h)
 obtain ⟨⟨k, f, bs, ab, cb⟩, hk1, hk, hbl, hI⟩ := x
 dsimp only at hk1 hk hbl hI ⊢
 refine sy_seq ?_
 refine sy_seq ?_
 refine sy_tx' [0, 1, 2] rfl ?_
 refine sp rfl (PE.move rfl) rfl ?_
 refine sp rfl (PE.move rfl) rfl ?_
 refine sp rfl (PE.lss rfl rfl) rfl ?_
 refine sy_cond rfl (fun hc1 => ?_) (fun hc1 => ?_)
 try simp only [decide_eq_true_eq, decide_eq_false_iff_not, Bool.and_eq_true, Bool.or_eq_true, Bool.not_eq_true', Int.not_le, Int.not_lt] at hc1
 have hk64 : k < 64 := by omega
 have hml := memL_len k
 refine sy_skip ?_
 refine sy_seq ?_
 refine sy_block ?_
 refine sy_seq ?_
 refine sy_tx' [0, 1, 2] rfl ?_
 refine sp rfl (PE.move rfl) rfl ?_
 refine cl rfl cal52 rfl rfl (c_members k hk64 _ _) ?_
 rintro _ _ _ ⟨am, cm, rfl, rfl, rfl⟩
 refine sp rfl (PE.assign rfl) rfl ?_
 refine sy_seq ?_
 refine sy_tx' [0, 1, 2, 3, 4, 5, 6, 7, 8, 9, 10, 11, 12] rfl ?_
 refine sp rfl (PE.move rfl) rfl ?_
 refine sp rfl (PE.not rfl) rfl ?_
 refine sp rfl (PE.move rfl) rfl ?_
 refine sy_case (t := 28) rfl (fun g28 => ?_) (fun g28 => ?_)
 try simp only [decide_eq_true_eq, decide_eq_false_iff_not, Bool.and_eq_true, Bool.or_eq_true, Bool.not_eq_true', Int.not_le, Int.not_lt] at g28
 repeat refine spN rfl rfl rfl rfl rfl rfl rfl rfl ?_
 refine sp rfl (PE.pick rfl rfl rfl) rfl ?_
 refine sp rfl (PE.move rfl) rfl ?_
 refine spG rfl rfl rfl rfl (PE.move rfl) rfl ?_
 refine spG rfl rfl rfl rfl (PE.move rfl) rfl ?_
 refine clVG rfl rfl rfl rfl cal16 rfl rfl (c_rAgree miss hm hs hh h6 ms hms bo aa cc k hk64 _ _) ?_
 refine spG rfl rfl rfl rfl (PE.not rfl) rfl ?_
 refine sp rfl (PE.pick rfl rfl rfl) rfl ?_
 refine sy_cond rfl (fun hc2 => ?_) (fun hc2 => ?_)
 try simp only [decide_eq_true_eq, decide_eq_false_iff_not, Bool.and_eq_true, Bool.or_eq_true, Bool.not_eq_true', Int.not_le, Int.not_lt] at hc2
 refine sy_tx' [0, 1, 2] rfl ?_
 refine sp rfl (PE.move rfl) rfl ?_
 refine sp rfl (PE.assign rfl) rfl ?_
 refine sp rfl (PE.assign rfl) rfl ?_
 refine sy_tx' [0, 1, 2] rfl ?_
 refine sp rfl (PE.move rfl) rfl ?_
 refine sp rfl (PE.add rfl rfl (by omega)) rfl ?_
 refine sp rfl (PE.assign rfl) rfl ?_
 exact sy_next ⟨(k + 1, true, memL k, am, cm), by dsimp only; omega, by dsimp only; omega, hml, hI.take hk1 (by first | (left; simpa using g28) | exact .inr (by simpa using g33)) (by simpa using hc2)⟩ (by dsimp only; omega) (by repeat' first | exact Sub.nil | apply Sub.cons | rfl | (simp [lk]; omega)) (fun w h => St.sub h)
 try simp only [decide_eq_true_eq, decide_eq_false_iff_not, Bool.and_eq_true, Bool.or_eq_true, Bool.not_eq_true', Int.not_le, Int.not_lt] at hc2
 refine sy_skip ?_
 refine sy_tx' [0, 1, 2] rfl ?_
 refine sp rfl (PE.move rfl) rfl ?_
 refine sp rfl (PE.add rfl rfl (by omega)) rfl ?_
 refine sp rfl (PE.assign rfl) rfl ?_
 exact sy_next ⟨(k + 1, f, bs, ab, cb), by dsimp only; omega, by dsimp only; omega, hbl, hI.skip (by first | (left; simpa using hc2) | exact .inr ⟨by simpa using g28, by simpa using g33⟩)⟩ (by dsimp only; omega) (by repeat' first | exact Sub.nil | apply Sub.cons | rfl | (simp [lk]; omega)) (fun w h => St.ftail h)
 try simp only [decide_eq_true_eq, decide_eq_false_iff_not, Bool.and_eq_true, Bool.or_eq_true, Bool.not_eq_true', Int.not_le, Int.not_lt] at g28
 refine spG rfl rfl rfl rfl (PE.move rfl) rfl ?_
 refine spG rfl rfl rfl rfl (PE.move rfl) rfl ?_
 refine clVG rfl rfl rfl rfl cal53 rfl rfl (c_ahead (memL k) bs (by omega) (by omega) am ab cm cb _ _) ?_
 refine sp rfl (PE.pick rfl rfl rfl) rfl ?_
 refine sp rfl (PE.move rfl) rfl ?_
 refine sy_case (t := 33) rfl (fun g33 => ?_) (fun g33 => ?_)
 refine spG rfl rfl rfl rfl (PE.move rfl) rfl ?_
 refine spG rfl rfl rfl rfl (PE.move rfl) rfl ?_
 refine clVG rfl rfl rfl rfl cal16 rfl rfl (c_rAgree miss hm hs hh h6 ms hms bo aa cc k hk64 _ _) ?_
 refine spG rfl rfl rfl rfl (PE.not rfl) rfl ?_
 refine sp rfl (PE.pick rfl rfl rfl) rfl ?_
 refine sy_cond rfl (fun hc2 => ?_) (fun hc2 => ?_)
 try simp only [decide_eq_true_eq, decide_eq_false_iff_not, Bool.and_eq_true, Bool.or_eq_true, Bool.not_eq_true', Int.not_le, Int.not_lt] at hc2
 refine sy_tx' [0, 1, 2] rfl ?_
 refine sp rfl (PE.move rfl) rfl ?_
 refine sp rfl (PE.assign rfl) rfl ?_
 refine sp rfl (PE.assign rfl) rfl ?_
 refine sy_tx' [0, 1, 2] rfl ?_
 refine sp rfl (PE.move rfl) rfl ?_
 refine sp rfl (PE.add rfl rfl (by omega)) rfl ?_
 refine sp rfl (PE.assign rfl) rfl ?_
 exact sy_next ⟨(k + 1, true, memL k, am, cm), by dsimp only; omega, by dsimp only; omega, hml, hI.take hk1 (by first | (left; simpa using g28) | exact .inr (by simpa using g33)) (by simpa using hc2)⟩ (by dsimp only; omega) (by repeat' first | exact Sub.nil | apply Sub.cons | rfl | (simp [lk]; omega)) (fun w h => St.sub h)
 try simp only [decide_eq_true_eq, decide_eq_false_iff_not, Bool.and_eq_true, Bool.or_eq_true, Bool.not_eq_true', Int.not_le, Int.not_lt] at hc2
 refine sy_skip ?_
 refine sy_tx' [0, 1, 2] rfl ?_
 refine sp rfl (PE.move rfl) rfl ?_
 refine sp rfl (PE.add rfl rfl (by omega)) rfl ?_
 refine sp rfl (PE.assign rfl) rfl ?_
 exact sy_next ⟨(k + 1, f, bs, ab, cb), by dsimp only; omega, by dsimp only; omega, hbl, hI.skip (by first | (left; simpa using hc2) | exact .inr ⟨by simpa using g28, by simpa using g33⟩)⟩ (by dsimp only; omega) (by repeat' first | exact Sub.nil | apply Sub.cons | rfl | (simp [lk]; omega)) (fun w h => St.ftail h)
 repeat refine spN rfl rfl rfl rfl rfl rfl rfl rfl ?_
 refine sp rfl (PE.pick rfl rfl rfl) rfl ?_
 refine sy_condF rfl ?_
 refine sy_skip ?_
 refine sy_tx' [0, 1, 2] rfl ?_
 refine sp rfl (PE.move rfl) rfl ?_
 refine sp rfl (PE.add rfl rfl (by omega)) rfl ?_
 refine sp rfl (PE.assign rfl) rfl ?_
 exact sy_next ⟨(k + 1, f, bs, ab, cb), by dsimp only; omega, by dsimp only; omega, hbl, hI.skip (by first | (left; simpa using hc2) | exact .inr ⟨by simpa using g28, by simpa using g33⟩)⟩ (by dsimp only; omega) (by repeat' first | exact Sub.nil | apply Sub.cons | rfl | (simp [lk]; omega)) (fun w h => St.ftail h)
 try simp only [decide_eq_true_eq, decide_eq_false_iff_not, Bool.and_eq_true, Bool.or_eq_true, Bool.not_eq_true', Int.not_le, Int.not_lt] at hc1
 obtain rfl : k = 2 ^ hs.length := by omega
 obtain ⟨hre1, hre2⟩ := hI.done hm hh h6
 refine sy_exit ?_
 repeat refine sy_tx ?_
 refine sy_bx ?_
 refine sy_seq ?_
 refine sy_tx' [0, 1, 2, 3] rfl ?_
 refine sp rfl (PE.move rfl) rfl ?_
 refine sp rfl (PE.move rfl) rfl ?_
 refine sp rfl (PE.assign rfl) rfl ?_
 refine sp rfl (PE.assign rfl) rfl ?_
 refine sy_ret ?_
 rw [hre1, hre2]
 exact sy_return (vs := [_, _]) rfl (.cons (RV.tmp rfl) (.cons (RV.tmp rfl) .nil)) rfl ⟨ab, cb, rfl, rfl, rfl⟩ drp
theorem c_rTopped (miss : Int) (hm : 0 ≤ miss) (c : Crt) (hc : c.ok) (ah : Option Addr) (ch : Nat) (ms : List Mix) (hms : ∀ m, m ∈ ms ↔ Mxt m) (bo : Nat) (aa : Nat → Option Addr) (cc : Nat → Nat) (H : Heap) (R : Facts) [hA : MemRows ah 5 (hrows c.hs) R] [hP : MemRows (some ⟨bo, 0, none⟩) 1 ((List.range 64).map fun s => [Value.slice (aa s) (partS miss c.hs ms s).length (cc s)]) R] :
    FnV Tryz.prog 19 [c.v (c.sl ah ch), .slice (some ⟨bo, 0, none⟩) 64 64] H R (.bool (topB miss c.hs)) := by
 refine fn_of Tryz.func19 rfl Tryz.ntmps19 rfl ?_
 refine sy_seq ?_
 refine sy_tx' [0, 1] rfl ?_
 refine bx rfl rfl rfl (fun b2 => ?_)
 refine sp rfl (PE.assign rfl) rfl ?_
 refine sy_seq ?_
 refine sy_tx' [0] rfl ?_
 refine sp rfl (PE.assign rfl) rfl ?_
 refine sy_seq ?_
 refine sy_seq ?_
 refine sy_tx' [0] rfl ?_
 refine sp rfl (PE.assign rfl) rfl ?_
 refine sy_block ?_
 refine sy_loop (ι := {x : Nat × Nat // x.1 ≤ 3 ∧ x.2 < 64 ∧ (∀ j, x.2.testBit j = sptL c.hs x.1 j) ∧ topK miss c.hs x.1 = true}) (fun x => ⟨[(1, .slice (some ⟨bo, 0, none⟩) 64 64), (2, .pointer (some ⟨b2, 0, none⟩)), (5, .int .i64 x.1.2), (6, .int .i64 x.1.1)], (b2, cel 40 (ctl c (c.sl ah ch))) :: H, R⟩) (fun x => 3 - x.1.1) ⟨(0, 0), by omega, by decide, sptL_0 hc.hs, rfl⟩ ?_ (fun x => ?_)
 exact sy_at (by repeat' first | exact Sub.nil | apply Sub.cons | rfl | (simp [lk]; omega)) (fun _ h => h)
 obtain ⟨⟨n, w⟩, hn, hw64, hw, htk⟩ := x
 dsimp only at hn hw64 hw htk ⊢
 have hmany := hc.many
 refine sy_seq ?_
 refine sy_seq ?_
 refine sy_tx' [0, 1] rfl ?_
 refine sp rfl (PE.move rfl) rfl ?_
 refine sp rfl (PE.lss rfl rfl) rfl ?_
 refine sy_cond rfl (fun hc0 => ?_) (fun hc0 => ?_)
 try simp only [decide_eq_true_eq, decide_eq_false_iff_not, Bool.and_eq_true, Bool.or_eq_true, Bool.not_eq_true', Int.not_le, Int.not_lt] at hc0
 refine sy_skip ?_
 refine sy_seq ?_
 refine sy_block ?_
 refine sy_seq ?_
 refine sy_tx' [0, 1] rfl ?_
 refine sp rfl (PE.assign rfl) rfl ?_
 refine sp rfl (PE.assign rfl) rfl ?_
 refine sy_seq ?_
 refine sy_seq ?_
 refine sy_tx' [0] rfl ?_
 refine sp rfl (PE.assign rfl) rfl ?_
 refine sy_block ?_
 refine sy_loop (ι := {x : Nat × Nat // x.1 ≤ c.hs.length ∧ x.2 < 64 ∧ ∀ j, x.2.testBit j = (decide (j < x.1) && sptB c.hs n j)}) (fun x => ⟨[(1, .slice (some ⟨bo, 0, none⟩) 64 64), (2, .pointer (some ⟨b2, 0, none⟩)), (5, .int .i64 w), (6, .int .i64 n), (7, .int .i64 x.1.2), (8, .int .i64 ((2 ^ x.1.1 : Nat) : Int)), (9, .int .i64 x.1.1)], (b2, cel 40 (ctl c (c.sl ah ch))) :: H, R⟩) (fun x => c.hs.length - x.1.1) ⟨(0, 0), by omega, by decide, fun j => by simp⟩ ?_ (fun x => ?_)
 exact sy_at (by repeat' first | exact Sub.nil | apply Sub.cons | rfl | (simp [lk]; omega)) (fun _ h => h)
 obtain ⟨⟨i, t⟩, hi, ht64, ht⟩ := x
 dsimp only at hi ht64 ht ⊢
 have hp0 : 0 < 2 ^ i := Nat.pow_pos (by decide)
 have h2p : 2 ^ i ≤ 2 ^ 6 := Nat.pow_le_pow_right (by decide) (by omega)
 have hps : 2 ^ (i + 1) = 2 ^ i + 2 ^ i := by rw [Nat.pow_succ]; omega
 refine sy_seq ?_
 refine sy_seq ?_
 refine sy_tx' [0, 1, 2, 3, 4] rfl ?_
 refine sp rfl (PE.move rfl) rfl ?_
 refine sp rfl (PE.fieldAddr fo40_2 rfl) rfl ?_
 refine spL rfl rfl (lh sc38 rfl rfl) rfl ?_
 refine sp rfl (PE.lenSl isl38 rfl) rfl ?_
 refine sp rfl (PE.lss rfl rfl) rfl ?_
 refine sy_cond rfl (fun hc1 => ?_) (fun hc1 => ?_)
 try simp only [decide_eq_true_eq, decide_eq_false_iff_not, Bool.and_eq_true, Bool.or_eq_true, Bool.not_eq_true', Int.not_le, Int.not_lt] at hc1
 obtain ⟨x, hx⟩ : ∃ x, c.hs[i]? = some x := ⟨_, List.getElem?_eq_getElem (by omega)⟩
 obtain ⟨st1, st2⟩ := sp_step hx ht
 refine sy_addr (a := ah) (sz := 5) (rows := hrows c.hs) (by intro h0; simp [hrows] at h0; simp [h0] at hx) (fun ba oa hea => ?_)
 subst hea
 refine sy_skip ?_
 refine sy_seq ?_
 refine sy_block ?_
 refine sy_seq ?_
 refine sy_seq ?_
 refine sy_tx' [0, 1, 2, 3, 4, 5, 6, 7] rfl ?_
 refine sp rfl (PE.fieldAddr fo40_2 rfl) rfl ?_
 refine spL rfl rfl (lh sc38 rfl rfl) rfl ?_
 refine sp rfl (PE.move rfl) rfl ?_
 refine sp rfl (PE.indexAddr el38 rfl rfl (by omega) (by omega)) rfl ?_
 refine sp rfl (PE.fieldAddr fo99_0 rfl) rfl ?_
 refine spL rfl rfl (lf (x := .int .i64 x.spot) sc3 (hr_get (by simpa using hx)) rfl) rfl ?_
 refine sp rfl (PE.move rfl) rfl ?_
 refine sp rfl (PE.eql rfl rfl) rfl ?_
 refine sy_cond rfl (fun hc2 => ?_) (fun hc2 => ?_)
 try simp only [decide_eq_true_eq, decide_eq_false_iff_not, Bool.and_eq_true, Bool.or_eq_true, Bool.not_eq_true', Int.not_le, Int.not_lt] at hc2
 have st := st1 (by omega)
 have ht2 : t + 2 ^ i < 64 := bits_lt (n := 6) fun j hj => by rw [st, decide_eq_false (show ¬ j < i + 1 by omega)]; rfl
 refine sy_tx' [0, 1, 2, 3] rfl ?_
 refine sp rfl (PE.move rfl) rfl ?_
 refine sp rfl (PE.move rfl) rfl ?_
 refine sp rfl (PE.add rfl rfl (by omega)) rfl ?_
 refine sp rfl (PE.assign rfl) rfl ?_
 refine sy_tx' [0, 1, 2] rfl ?_
 refine sp rfl (PE.move rfl) rfl ?_
 refine sp rfl (PE.mul rfl rfl (by omega)) rfl ?_
 refine sp rfl (PE.assign rfl) rfl ?_
 refine sy_tx' [0, 1, 2] rfl ?_
 refine sp rfl (PE.move rfl) rfl ?_
 refine sp rfl (PE.add rfl rfl (by omega)) rfl ?_
 refine sp rfl (PE.assign rfl) rfl ?_
 exact sy_next ⟨(i + 1, t + 2 ^ i), by dsimp only; omega, ht2, st⟩ (by dsimp only; omega) (by dsimp only; rw [show ((2 ^ (i + 1) : Nat) : Int) = 2 * ((2 ^ i : Nat) : Int) from by rw [hps]; omega, show ((t + 2 ^ i : Nat) : Int) = (t : Int) + ((2 ^ i : Nat) : Int) from by omega]; exact (by repeat' first | exact Sub.nil | apply Sub.cons | rfl | (simp [lk]; omega))) (fun _ h => h)
 try simp only [decide_eq_true_eq, decide_eq_false_iff_not, Bool.and_eq_true, Bool.or_eq_true, Bool.not_eq_true', Int.not_le, Int.not_lt] at hc2
 have st := st2 (by omega)
 refine sy_skip ?_
 refine sy_tx' [0, 1, 2] rfl ?_
 refine sp rfl (PE.move rfl) rfl ?_
 refine sp rfl (PE.mul rfl rfl (by omega)) rfl ?_
 refine sp rfl (PE.assign rfl) rfl ?_
 refine sy_tx' [0, 1, 2] rfl ?_
 refine sp rfl (PE.move rfl) rfl ?_
 refine sp rfl (PE.add rfl rfl (by omega)) rfl ?_
 refine sp rfl (PE.assign rfl) rfl ?_
 exact sy_next ⟨(i + 1, t), by dsimp only; omega, ht64, st⟩ (by dsimp only; omega) (by dsimp only; rw [show ((2 ^ (i + 1) : Nat) : Int) = 2 * ((2 ^ i : Nat) : Int) from by rw [hps]; omega]; exact (by repeat' first | exact Sub.nil | apply Sub.cons | rfl | (simp [lk]; omega))) (fun _ h => h)
 try simp only [decide_eq_true_eq, decide_eq_false_iff_not, Bool.and_eq_true, Bool.or_eq_true, Bool.not_eq_true', Int.not_le, Int.not_lt] at hc1
 obtain rfl : i = c.hs.length := by omega
 have ht2 : ∀ j, t.testBit j = sptB c.hs n j := fun j => by
   rw [ht]
   by_cases h9 : j < c.hs.length
   · rw [decide_eq_true h9]; rfl
   · rw [decide_eq_false h9, (sp_out (n := n) (show c.hs.length ≤ j by omega)).2]; rfl
 have hre : agB miss c.hs t = agr miss c.hs (fun i => sptB c.hs n i) := agr_cong fun i _ => ht2 i
 refine sy_exit ?_
 repeat refine sy_tx ?_
 refine sy_bx ?_
 refine sy_seq ?_
 refine sy_seq ?_
 refine sy_tx' [0, 1, 2, 3] rfl ?_
 refine sp rfl (PE.move rfl) rfl ?_
 refine sp rfl (PE.move rfl) rfl ?_
 refine clV rfl cal16 rfl rfl (c_rAgree miss hm c.hs hc.hs hc.many ms hms bo aa cc t ht64 _ _) ?_
 refine sp rfl (PE.not rfl) rfl ?_
 refine sy_cond rfl (fun hc3 => ?_) (fun hc3 => ?_)
 try simp only [decide_eq_true_eq, decide_eq_false_iff_not, Bool.and_eq_true, Bool.or_eq_true, Bool.not_eq_true', Int.not_le, Int.not_lt] at hc3
 have hres : topB miss c.hs = false := topK_no (n := n) (by omega) (by rw [← hre]; simpa using hc3)
 refine sy_seq ?_
 refine sy_tx' [0] rfl ?_
 refine sp rfl (PE.assign rfl) rfl ?_
 refine sy_ret ?_
 exact sy_return (vs := [_]) rfl (.cons (RV.tmp rfl) .nil) rfl ⟨by simp only [retV]; rw [hres], rfl, rfl⟩ (fun w h => h.del b2)
 try simp only [decide_eq_true_eq, decide_eq_false_iff_not, Bool.and_eq_true, Bool.or_eq_true, Bool.not_eq_true', Int.not_le, Int.not_lt] at hc3
 have h7 := spot_add hw ht2
 have hwt : w + t < 64 := bits_lt (n := 6) fun j hj => by rw [h7, (sp_out (show c.hs.length ≤ j by omega)).1]
 refine sy_skip ?_
 refine sy_tx' [0, 1, 2, 3] rfl ?_
 refine sp rfl (PE.move rfl) rfl ?_
 refine sp rfl (PE.move rfl) rfl ?_
 refine sp rfl (PE.add rfl rfl (by omega)) rfl ?_
 refine sp rfl (PE.assign rfl) rfl ?_
 refine sy_tx' [0, 1, 2] rfl ?_
 refine sp rfl (PE.move rfl) rfl ?_
 refine sp rfl (PE.add rfl rfl (by omega)) rfl ?_
 refine sp rfl (PE.assign rfl) rfl ?_
 exact sy_next ⟨(n + 1, w + t), by dsimp only; omega, hwt, h7, by rw [topK_step, htk, ← hre]; simpa using hc3⟩ (by dsimp only; omega) (by repeat' first | exact Sub.nil | apply Sub.cons | rfl | (simp [lk]; omega)) (fun _ h => h)
 try simp only [decide_eq_true_eq, decide_eq_false_iff_not, Bool.and_eq_true, Bool.or_eq_true, Bool.not_eq_true', Int.not_le, Int.not_lt] at hc0
 obtain rfl : n = 3 := by omega
 have hres : agB miss c.hs w = agr miss c.hs fun _ => true := agr_cong fun i hi => by rw [hw, sptL_3 hc.hs hi]
 have hre2 := topB_eq miss c.hs
 refine sy_exit ?_
 repeat refine sy_tx ?_
 refine sy_bx ?_
 refine sy_seq ?_
 refine sy_tx' [0, 1, 2, 3, 4] rfl ?_
 refine sp rfl (PE.move rfl) rfl ?_
 refine sp rfl (PE.move rfl) rfl ?_
 refine clV rfl cal16 rfl rfl (c_rAgree miss hm c.hs hc.hs hc.many ms hms bo aa cc w hw64 _ _) ?_
 refine sp rfl (PE.not rfl) rfl ?_
 refine sp rfl (PE.assign rfl) rfl ?_
 refine sy_ret ?_
 exact sy_return (vs := [_]) rfl (.cons (RV.tmp rfl) .nil) rfl ⟨by simp only [retV]; rw [hre2, htk, hres]; rfl, rfl, rfl⟩ (fun w h => h.del b2)
end Go.Proofs.YtknoaljnelfklaaGreat
