/- Walks of the functions of the program, and the laws that join them: what the last theorem of this claim needs, in order. -/
import Derived.Test.YtndhkpnaeocnhaaGreatDe7
namespace Go.Proofs.YtndhkpnaeocnhaaGreat
set_option linter.unusedSimpArgs false
set_option linter.unusedVariables false
open Go
theorem cal104 : cal Tryz.prog 104 = true := by kernel_rfl
theorem cal105 : cal Tryz.prog 105 = true := by kernel_rfl
theorem cal106 : cal Tryz.prog 106 = true := by kernel_rfl
theorem cal63 : cal Tryz.prog 63 = true := by kernel_rfl
theorem c_dup_int (xs : List Int) (a : Option Addr) (c : Nat) (hl : xs.length ≤ 1000000) (H : Heap) (R : Facts) [hR : MemRows a 1 (irows xs) R] :
    Fn Tryz.prog 61 [.slice a xs.length c] H R (fun v H' R' => ∃ o : OSl 3 1 (irows xs), v = o.fs ∧ o.here ∧ H' = o.G ++ H ∧ R' = R) := by
 refine fn_of Tryz.func61 rfl Tryz.ntmps61 rfl ?_
 refine sy_seq ?_
 refine sy_tx' [0] rfl ?_
 refine sp rfl (PE.assign rfl) rfl ?_
 refine sy_seq ?_
 refine sy_tx' [0, 1, 2, 3, 4, 5] rfl ?_
 refine sp rfl (PE.move rfl) rfl ?_
 refine sp rfl (PE.lenSl isl22 rfl) rfl ?_
 refine mkO rfl ap22 zl3 rfl rfl ⟨by omega, by omega⟩ rfl (fun o ho => ?_)
 refine sp rfl (PE.move rfl) rfl ?_
 refine apOh (news := irows xs) o rfl ap22 rfl rfl (rowsF) (by simp [irows]) (by simp [onecells, irows, Value.oneCell']) ⟨by simp [irows]; omega, by simp [irows]; omega⟩ rfl ho (fun o2 ho2 => ?_)
 refine sp rfl (PE.assign rfl) rfl ?_
 refine sy_ret ?_
 exact sy_return (vs := [_]) rfl (.cons (RV.tmp rfl) .nil) rfl ⟨o2.cast (by simp), rfl, ho2, rfl, rfl⟩ (fun _ h => h)
theorem and0_iff {a b : Nat} : a &&& b = 0 ↔ ∀ i, (a.testBit i && b.testBit i) = false := by
  constructor
  · intro h i; rw [← Nat.testBit_and, h, Nat.zero_testBit]
  · intro h; exact Nat.eq_of_testBit_eq fun i => by rw [Nat.testBit_and, h, Nat.zero_testBit]
theorem and_odd {a b : Nat} (ha : a % 2 = 1) (hb : b % 2 = 1) : a &&& b ≠ 0 := fun h => by
  have := Nat.and_mod_two_eq_one.2 ⟨ha, hb⟩; rw [h] at this; cases this
theorem and_half {a b : Nat} (h : ¬ (a % 2 = 1 ∧ b % 2 = 1)) : a &&& b = 0 ↔ a / 2 &&& b / 2 = 0 := by
  have h1 : ¬ (a &&& b) % 2 = 1 := fun e => h (Nat.and_mod_two_eq_one.1 e)
  rw [← Nat.and_div_two]; omega
theorem add_or : ∀ (n : Nat) {a b : Nat}, a ≤ n → a &&& b = 0 → a + b = a ||| b
  | 0, a, b, hn, _ => by obtain rfl : a = 0 := by omega
                         simp
  | n + 1, a, b, hn, h => by
    have h0 : ¬ (a % 2 = 1 ∧ b % 2 = 1) := fun e => and_odd e.1 e.2 h
    by_cases ha : a = 0
    · subst ha; simp
    have ih := add_or n (a := a / 2) (b := b / 2) (by omega) ((and_half h0).1 h)
    have h1 := Nat.or_div_two (a := a) (b := b)
    have h2 := Nat.or_mod_two_eq_one (a := a) (b := b)
    rcases Nat.mod_two_eq_zero_or_one a with ea | ea <;> rcases Nat.mod_two_eq_zero_or_one b with eb | eb
    · have : ¬ (a ||| b) % 2 = 1 := fun e => by rcases h2.1 e with e | e <;> omega
      omega
    · have := h2.2 (.inr eb); omega
    · have := h2.2 (.inl ea); omega
    · exact absurd ⟨ea, eb⟩ h0
theorem add_bits {a b : Nat} (h : a &&& b = 0) (i : Nat) : (a + b).testBit i = (a.testBit i || b.testBit i) := by rw [add_or a (Nat.le_refl _) h, Nat.testBit_or]
theorem add_bit {a v : Nat} (h : a.testBit v = false) (i : Nat) : (a + 2 ^ v).testBit i = (a.testBit i || decide (v = i)) := by
  rw [add_bits (and0_iff.2 fun j => ?_), Nat.testBit_two_pow]
  rw [Nat.testBit_two_pow]
  by_cases e : v = j
  · subst e; rw [h]; rfl
  · rw [decide_eq_false e, Bool.and_false]
theorem bits_lt {a n : Nat} (h : ∀ i, n ≤ i → a.testBit i = false) : a < 2 ^ n := Nat.lt_pow_two_of_testBit a h
theorem bits_hi {a n i : Nat} (h : a < 2 ^ n) (hi : n ≤ i) : a.testBit i = false := Nat.testBit_lt_two_pow (Nat.lt_of_lt_of_le h (Nat.pow_le_pow_right (by decide) hi))
theorem bits_ex (p : Nat → Bool) : ∀ n, ∃ t, t < 2 ^ n ∧ ∀ j, t.testBit j = (decide (j < n) && p j)
  | 0 => ⟨0, by decide, fun j => by simp⟩
  | n + 1 => by
    obtain ⟨t, h1, h2⟩ := bits_ex p n
    have hn : t.testBit n = false := by rw [h2]; simp
    cases hp : p n
    · refine ⟨t, by rw [Nat.pow_succ]; omega, fun j => ?_⟩
      rw [h2]
      by_cases e : j = n
      · subst e; simp [hp]
      · rw [show decide (j < n + 1) = decide (j < n) from decide_eq_decide.2 (by omega)]
    · refine ⟨t + 2 ^ n, by rw [Nat.pow_succ]; omega, fun j => ?_⟩
      rw [add_bit hn, h2]
      by_cases e : j = n
      · subst e; simp [hp]
      · rw [show decide (j < n + 1) = decide (j < n) from decide_eq_decide.2 (by omega), decide_eq_false (show ¬ n = j by omega), Bool.or_false]
theorem miss_bit (miss : Int) (hs : List Hnd) (m : Mix) : ∀ (n j : Nat), (missN miss hs m n).testBit j = (decide (j < n) && match hs[j]? with | some h => !(fitB miss h m) | none => false)
  | 0, j => by simp [missN]
  | n + 1, j => by
    have ih := miss_bit miss hs m n
    have hn := Nat.testBit_lt_two_pow (missN_lt miss hs m n)
    unfold missN
    cases hh : hs[n]? with
    | none =>
      simp only [Nat.add_zero]
      rw [ih]
      by_cases e : j = n
      · subst e; simp [hh]
      · rw [show decide (j < n + 1) = decide (j < n) from decide_eq_decide.2 (by omega)]
    | some h =>
      cases hf : fitB miss h m
      · simp only [hf, cond_false]
        rw [add_bit hn, ih]
        by_cases e : j = n
        · subst e; simp [hh, hf]
        · rw [show decide (j < n + 1) = decide (j < n) from decide_eq_decide.2 (by omega), decide_eq_false (show ¬ n = j by omega), Bool.or_false]
      · simp only [hf, cond_true, Nat.add_zero]
        rw [ih]
        by_cases e : j = n
        · subst e; simp [hh, hf]
        · rw [show decide (j < n + 1) = decide (j < n) from decide_eq_decide.2 (by omega)]
def agB (miss : Int) (hs : List Hnd) (s : Nat) : Bool := agr miss hs fun i => s.testBit i
theorem agr_cong {miss : Int} {hs : List Hnd} {f g : Nat → Bool} (h : ∀ i < hs.length, f i = g i) : agr miss hs f = agr miss hs g := by unfold agr; rw [boxF_congr h]
theorem agB_ref {miss : Int} (hm : 0 ≤ miss) {hs : List Hnd} (hh : ∀ h ∈ hs, h.ok) (h6 : hs.length ≤ 6) {ms : List Mix} (hms : ∀ m, m ∈ ms ↔ Mxt m) (s : Nat) :
    agB miss hs s = true ↔ ∃ q < 64, 0 < (partS miss hs ms q).length ∧ q &&& s = 0 := by
  unfold agB
  rw [agr_iff hm hh]
  constructor
  · rintro ⟨m, h1, h2⟩
    refine ⟨missQ miss hs m, missQ_lt h6, List.length_pos_of_mem (List.mem_filter.2 ⟨(hms m).2 h1, decide_eq_true rfl⟩), and0_iff.2 fun i => ?_⟩
    unfold missQ
    rw [miss_bit]
    cases hi : hs[i]? with
    | none => simp
    | some h =>
      cases hb : s.testBit i
      · simp
      · simp [h2 i h hi hb]
  · rintro ⟨q, hq, h1, h2⟩
    obtain ⟨m, hmm⟩ := List.exists_mem_of_length_pos h1
    obtain ⟨h3, h4⟩ := List.mem_filter.1 hmm
    have h4 := of_decide_eq_true h4
    refine ⟨m, (hms m).1 h3, fun i h hi hb => ?_⟩
    have h5 := and0_iff.1 h2 i
    rw [← h4, hb, Bool.and_true] at h5
    unfold missQ at h5
    rw [miss_bit, hi, decide_eq_true (List.getElem?_eq_some_iff.1 hi).1] at h5
    simpa using h5
def memL (s : Nat) : List Int := ((List.range 6).filter fun i => s.testBit i).map fun (i : Nat) => (i : Int)
def memP (s n : Nat) : List Int := ((List.range n).filter fun i => s.testBit i).map fun (i : Nat) => (i : Int)
theorem memP_on {s n : Nat} (h : s / 2 ^ n % 2 = 1) : memP s (n + 1) = memP s n ++ [(n : Int)] := by
  have h1 : s.testBit n = true := by rw [Nat.testBit_eq_decide_div_mod_eq, decide_eq_true h]
  unfold memP
  rw [List.range_succ, List.filter_append, List.map_append, List.filter_cons, h1]; rfl
theorem memP_off {s n : Nat} (h : s / 2 ^ n % 2 ≠ 1) : memP s (n + 1) = memP s n := by
  have h1 : s.testBit n = false := by rw [Nat.testBit_eq_decide_div_mod_eq, decide_eq_false h]
  unfold memP
  rw [List.range_succ, List.filter_append, List.map_append, List.filter_cons, h1]; simp
theorem memP_end {s n : Nat} (h : s < 2 ^ n) : ∀ k, memP s (n + k) = memP s n
  | 0 => rfl
  | k + 1 => by
    rw [← memP_end h k]
    refine memP_off (n := n + k) fun e => ?_
    rw [Nat.div_eq_of_lt (Nat.lt_of_lt_of_le h (Nat.pow_le_pow_right (by decide) (Nat.le_add_right _ _)))] at e; cases e
theorem memP_len (s n : Nat) : (memP s n).length ≤ n := by
  unfold memP
  rw [List.length_map]
  exact Nat.le_trans (List.length_filter_le _ _) (by simp)
theorem memL_len (s : Nat) : (memL s).length ≤ 6 := memP_len s 6
theorem memL_eq {s n : Nat} (h : s / 2 ^ n = 0) (hn : n ≤ 6) : memP s n = memL s := by
  have := memP_end (s := s) (n := n) (by
    rcases Nat.lt_or_ge s (2 ^ n) with h1 | h1
    · exact h1
    · have := Nat.div_pos h1 (Nat.pow_pos (by decide)); omega) (6 - n)
  rw [← this, show n + (6 - n) = 6 by omega]; rfl
theorem flt_map (y : List Nat) (i : Nat) : flt (y.map fun (j : Nat) => (j : Int)) i = decide (i ∈ y) := by
  rw [Bool.eq_iff_iff, decide_eq_true_eq]
  unfold flt
  rw [List.any_eq_true]
  constructor
  · rintro ⟨x, h1, h2⟩
    obtain ⟨j, h3, rfl⟩ := List.mem_map.1 h1
    have := of_decide_eq_true h2
    obtain rfl : i = j := by omega
    exact h3
  · intro h
    exact ⟨i, List.mem_map.2 ⟨i, h, rfl⟩, decide_eq_true rfl⟩
theorem memL_flt {s i : Nat} (hi : i < 6) : flt (memL s) i = s.testBit i := by
  unfold memL
  rw [flt_map, Bool.eq_iff_iff, decide_eq_true_eq, List.mem_filter, List.mem_range]
  exact ⟨fun h => h.2, fun h => ⟨hi, h⟩⟩
theorem srt_same : ∀ {a b : List Nat}, a.Pairwise (· < ·) → b.Pairwise (· < ·) → (∀ x, x ∈ a ↔ x ∈ b) → a = b
  | [], [], _, _, _ => rfl
  | [], y :: b, _, _, h => by have := (h y).2 (by simp); cases this
  | x :: a, [], _, _, h => by have := (h x).1 (by simp); cases this
  | x :: a, y :: b, ha, hb, h => by
    obtain ⟨h1, h2⟩ := List.pairwise_cons.1 ha
    obtain ⟨h3, h4⟩ := List.pairwise_cons.1 hb
    have hxy : x = y := by
      rcases List.mem_cons.1 ((h x).1 (by simp)) with e | e
      · exact e
      · rcases List.mem_cons.1 ((h y).2 (by simp)) with e2 | e2
        · exact e2.symm
        · have := h3 x e; have := h1 y e2; omega
    subst hxy
    rw [srt_same h2 h4 fun z => ?_]
    constructor
    · intro hz
      rcases List.mem_cons.1 ((h z).1 (by simp [hz])) with e | e
      · subst e; exact absurd (h1 z hz) (Nat.lt_irrefl _)
      · exact e
    · intro hz
      rcases List.mem_cons.1 ((h z).2 (by simp [hz])) with e | e
      · subst e; exact absurd (h3 z hz) (Nat.lt_irrefl _)
      · exact e
theorem memL_srt (s : Nat) : ∃ y : List Nat, memL s = (y.map fun (j : Nat) => (j : Int)) ∧ y.Pairwise (· < ·) ∧ ∀ j, j ∈ y ↔ j < 6 ∧ s.testBit j = true :=
  ⟨_, rfl, List.pairwise_lt_range.filter _, fun j => by rw [List.mem_filter, List.mem_range]⟩
theorem memL_of {y : List Nat} {n : Nat} (h6 : n ≤ 6) (hp : y.Pairwise (· < ·)) (hn : ∀ j ∈ y, j < n) : ∃ t, t < 2 ^ n ∧ memL t = (y.map fun (j : Nat) => (j : Int)) ∧ (y ≠ [] → 1 ≤ t) := by
  obtain ⟨t, h1, h2⟩ := bits_ex (fun i => decide (i ∈ y)) n
  have hm : ∀ j, (j < 6 ∧ t.testBit j = true) ↔ j ∈ y := fun j => by
    rw [h2, Bool.and_eq_true, decide_eq_true_eq, decide_eq_true_eq]
    exact ⟨fun h => h.2.2, fun h => ⟨by have := hn j h; omega, hn j h, h⟩⟩
  refine ⟨t, h1, ?_, fun hy => ?_⟩
  · obtain ⟨z, e, h3, h4⟩ := memL_srt t
    rw [e, srt_same h3 hp fun j => (h4 j).trans (hm j)]
  · obtain ⟨j, hj⟩ := List.exists_mem_of_ne_nil _ hy
    have := ((hm j).2 hj).2
    rcases Nat.eq_zero_or_pos t with e | e
    · rw [e, Nat.zero_testBit] at this; cases this
    · exact e
def lexB : List Int → List Int → Bool
  | x :: a, y :: b => bif decide (x ≠ y) then decide (x < y) else lexB a b
  | _, _ => false
def ahB (a b : List Int) : Bool := bif decide (a.length ≠ b.length) then decide (a.length < b.length) else lexB a b
theorem lex_total : ∀ {a b : List Int}, a.length = b.length → lexB a b = false → lexB b a = false → a = b
  | [], [], _, _, _ => rfl
  | [], _ :: _, h, _, _ => by cases h
  | _ :: _, [], h, _, _ => by cases h
  | x :: a, y :: b, h, h1, h2 => by
    unfold lexB at h1 h2
    by_cases e : x = y
    · subst e
      rw [decide_eq_false (by simp)] at h1 h2
      rw [lex_total (by simpa using h) h1 h2]
    · rw [decide_eq_true e] at h1
      rw [decide_eq_true (show y ≠ x from fun h => e h.symm)] at h2
      have h1 := of_decide_eq_false h1
      have h2 := of_decide_eq_false h2
      omega
theorem ah_total {a b : List Int} (h1 : ahB a b = false) (h2 : ahB b a = false) : a = b := by
  unfold ahB at h1 h2
  by_cases e : a.length = b.length
  · rw [decide_eq_false (by simpa using e)] at h1
    rw [decide_eq_false (by simpa using e.symm)] at h2
    exact lex_total e h1 h2
  · rw [decide_eq_true e] at h1
    rw [decide_eq_true (show b.length ≠ a.length from fun h => e h.symm)] at h2
    have h1 := of_decide_eq_false h1
    have h2 := of_decide_eq_false h2
    omega
theorem lex_trans : ∀ {a b c : List Int}, a.length = b.length → b.length = c.length → lexB a b = true → lexB c b = false → lexB a c = true
  | [], _, _, _, _, h, _ => by unfold lexB at h; cases h
  | _ :: _, [], _, h, _, _, _ => by cases h
  | _ :: _, _ :: _, [], _, h, _, _ => by cases h
  | x :: a, y :: b, z :: c, h1, h2, h3, h4 => by
    unfold lexB at h3 h4 ⊢
    by_cases e : z = y
    · subst e
      rw [decide_eq_false (by simp)] at h4
      by_cases e2 : x = z
      · subst e2
        rw [decide_eq_false (by simp)] at h3 ⊢
        exact lex_trans (by simpa using h1) (by simpa using h2) h3 h4
      · rw [decide_eq_true e2] at h3 ⊢; exact h3
    · rw [decide_eq_true e] at h4
      have h4 := of_decide_eq_false h4
      by_cases e2 : x = y
      · subst e2
        rw [decide_eq_true (show x ≠ z from fun h => e h.symm)]
        exact decide_eq_true (by omega)
      · rw [decide_eq_true e2] at h3
        have h3 := of_decide_eq_true h3
        rw [decide_eq_true (show x ≠ z by omega)]
        exact decide_eq_true (by omega)
theorem lex_anti : ∀ {a b : List Int}, lexB a b = true → lexB b a = false
  | [], _, h => by unfold lexB at h; cases h
  | _ :: _, [], h => by unfold lexB at h; cases h
  | x :: a, y :: b, h => by
    unfold lexB at h ⊢
    by_cases e : x = y
    · subst e
      rw [decide_eq_false (by simp)] at h ⊢
      exact lex_anti h
    · rw [decide_eq_true e] at h
      rw [decide_eq_true (show y ≠ x from fun h => e h.symm)]
      have h := of_decide_eq_true h
      exact decide_eq_false (by omega)
theorem ah_anti {a b : List Int} (h : ahB a b = true) : ahB b a = false := by
  unfold ahB at h ⊢
  by_cases e : a.length = b.length
  · rw [decide_eq_false (by simpa using e)] at h
    rw [decide_eq_false (by simpa using e.symm)]
    exact lex_anti h
  · rw [decide_eq_true e] at h
    rw [decide_eq_true (show b.length ≠ a.length from fun h => e h.symm)]
    have h := of_decide_eq_true h
    exact decide_eq_false (by omega)
theorem ah_trans {a b c : List Int} (h1 : ahB a b = true) (h2 : ahB c b = false) : ahB a c = true := by
  unfold ahB at h1 h2 ⊢
  by_cases e : c.length = b.length
  · rw [decide_eq_false (by simpa using e)] at h2
    by_cases e2 : a.length = b.length
    · rw [decide_eq_false (by simpa using e2)] at h1
      rw [decide_eq_false (by simpa [e] using e2)]
      exact lex_trans e2 e.symm h1 h2
    · rw [decide_eq_true e2] at h1
      rw [decide_eq_true (by rw [e]; exact e2), e]; exact h1
  · rw [decide_eq_true e] at h2
    have h2 := of_decide_eq_false h2
    by_cases e2 : a.length = b.length
    · rw [decide_eq_true (by omega)]; exact decide_eq_true (by omega)
    · rw [decide_eq_true e2] at h1
      have h1 := of_decide_eq_true h1
      rw [decide_eq_true (by omega)]; exact decide_eq_true (by omega)
theorem more_srt {ag : List Int → Bool} {n : Nat} : ∀ {r fr : Nat} {l x : List Int}, moreS ag n r l fr = some x → ∃ y : List Nat, x = l ++ (y.map fun (j : Nat) => (j : Int)) ∧ y.length = r ∧ y.Pairwise (· < ·) ∧ (∀ j ∈ y, fr ≤ j ∧ j < n) ∧ ag x = false
  | 0, fr, l, x, h => by
    unfold moreS at h
    cases ha : ag l with
    | true => rw [ha] at h; cases h
    | false => rw [ha] at h; obtain rfl := Option.some.inj h; exact ⟨[], by simp, rfl, List.Pairwise.nil, by simp, ha⟩
  | r + 1, fr, l, x, h => by
    unfold moreS at h
    obtain ⟨i, hi, h1⟩ := List.exists_of_findSome?_eq_some h
    rw [List.mem_range'_1] at hi
    obtain ⟨y, rfl, h2, h3, h4, h5⟩ := more_srt h1
    refine ⟨i :: y, by simp, by simp [h2], List.pairwise_cons.2 ⟨fun j hj => (h4 j hj).1, h3⟩, fun j hj => ?_, h5⟩
    rcases List.mem_cons.1 hj with rfl | hj
    · omega
    · have := h4 j hj; omega
theorem more_first {ag : List Int → Bool} {n : Nat} : ∀ {r fr : Nat} {l x : List Int}, moreS ag n r l fr = some x → ∀ y : List Nat, y.length = r → y.Pairwise (· < ·) → (∀ j ∈ y, fr ≤ j ∧ j < n) → ag (l ++ y.map fun (j : Nat) => (j : Int)) = false → ∃ z, x = l ++ z ∧ lexB (y.map fun (j : Nat) => (j : Int)) z = false
  | 0, fr, l, x, h, y, hy, _, _, _ => by
    obtain rfl := List.eq_nil_of_length_eq_zero hy
    unfold moreS at h
    cases ha : ag l with
    | true => rw [ha] at h; cases h
    | false => rw [ha] at h; obtain rfl := Option.some.inj h; exact ⟨[], by simp, rfl⟩
  | r + 1, fr, l, x, h, [], hy, _, _, _ => by cases hy
  | r + 1, fr, l, x, h, j :: y, hy, hp, hb, ha => by
    unfold moreS at h
    obtain ⟨i, h1, h2, h3, h4⟩ := find_range _ _ h
    have hj := hb j (by simp)
    obtain ⟨h5, h6⟩ := List.pairwise_cons.1 hp
    have hb2 : ∀ q ∈ y, j + 1 ≤ q ∧ q < n := fun q hq => ⟨h5 q hq, (hb q (by simp [hq])).2⟩
    have hyr : y.length = r := by simpa using hy
    have ha2 : ag ((l ++ [(j : Int)]) ++ y.map fun (j : Nat) => (j : Int)) = false := by simpa using ha
    rcases Nat.lt_trichotomy j i with hji | rfl | hji
    · have h7 := h4 j hj.1 hji
      rw [← hyr] at h7
      rw [more_no y h7 h6 hb2] at ha2; cases ha2
    · obtain ⟨z, rfl, hz⟩ := more_first h3 y hyr h6 hb2 ha2
      refine ⟨(j : Int) :: z, by simp, ?_⟩
      simp only [List.map_cons, lexB]
      rw [decide_eq_false (by simp)]; exact hz
    · obtain ⟨w, rfl, _⟩ := more_srt h3
      refine ⟨(i : Int) :: w.map fun (j : Nat) => (j : Int), by simp, ?_⟩
      simp only [List.map_cons, lexB]
      rw [decide_eq_true (show (j : Int) ≠ i by omega)]
      exact decide_eq_false (by omega)
theorem clash_first {ag : List Int → Bool} {n : Nat} {x : List Int} (h : clashS ag n = some x) : (∃ y : List Nat, x = (y.map fun (j : Nat) => (j : Int)) ∧ y ≠ [] ∧ y.Pairwise (· < ·) ∧ (∀ j ∈ y, j < n) ∧ ag x = false) ∧
    ∀ y : List Nat, y ≠ [] → y.length ≤ n → y.Pairwise (· < ·) → (∀ j ∈ y, j < n) → ag (y.map fun (j : Nat) => (j : Int)) = false → ahB (y.map fun (j : Nat) => (j : Int)) x = false := by
  obtain ⟨k, k1, k2, k3, k4⟩ := find_range _ _ h
  obtain ⟨y, e, h1, h2, h3, h4⟩ := more_srt k3
  rw [List.nil_append] at e
  refine ⟨⟨y, e, fun h0 => by subst h0; simp at h1; omega, h2, fun j hj => (h3 j hj).2, h4⟩, fun z hz hzn hp hb ha => ?_⟩
  have hxl : x.length = k := by rw [e, List.length_map, h1]
  have hz1 : 0 < z.length := List.length_pos_iff.2 hz
  unfold ahB
  rw [List.length_map, hxl]
  rcases Nat.lt_trichotomy z.length k with hl | hl | hl
  · have h5 := k4 z.length hz1 hl
    have h6 := more_no z h5 hp (fun j hj => ⟨Nat.zero_le _, hb j hj⟩)
    rw [List.nil_append, ha] at h6; cases h6
  · rw [decide_eq_false (by simpa using hl)]
    obtain ⟨w, hw, hl2⟩ := more_first k3 z hl hp (fun j hj => ⟨Nat.zero_le _, hb j hj⟩) (by rw [List.nil_append]; exact ha)
    rw [List.nil_append] at hw
    rw [hw]; exact hl2
  · rw [decide_eq_true (by omega)]
    exact decide_eq_false (by omega)
structure BestI (P : Nat → Bool) (k : Nat) (f : Bool) (b : List Int) : Prop where
  no : f = false → (∀ t, 1 ≤ t → t < k → P t = true) ∧ b = []
  yes : f = true → (∃ t, 1 ≤ t ∧ t < k ∧ P t = false ∧ b = memL t) ∧ ∀ t, 1 ≤ t → t < k → P t = false → ahB (memL t) b = false
theorem BestI.start (P : Nat → Bool) : BestI P 1 false [] := ⟨fun _ => ⟨fun t h1 h2 => by omega, rfl⟩, (fun h => by cases h)⟩
theorem ah_self (a : List Int) : ahB a a = false := by
  unfold ahB
  rw [decide_eq_false (by simp)]
  show lexB a a = false
  induction a with
  | nil => rfl
  | cons x a ih => unfold lexB; rw [decide_eq_false (by simp)]; exact ih
theorem BestI.take {P : Nat → Bool} {k : Nat} {f : Bool} {b : List Int} (h : BestI P k f b) (hk : 1 ≤ k) (h1 : f = false ∨ ahB (memL k) b = true) (h2 : P k = false) : BestI P (k + 1) true (memL k) := by
  refine ⟨(fun h => by cases h), fun _ => ⟨⟨k, hk, by omega, h2, rfl⟩, fun t t1 t2 t3 => ?_⟩⟩
  by_cases e : t = k
  · subst e; exact ah_self _
  · cases hf : f with
    | false => rw [(h.no hf).1 t t1 (by omega)] at t3; cases t3
    | true =>
      have h3 := (h.yes hf).2 t t1 (by omega) t3
      have h4 := h1.resolve_left (by rw [hf]; simp)
      exact ah_anti (ah_trans h4 h3)
theorem BestI.skip {P : Nat → Bool} {k : Nat} {f : Bool} {b : List Int} (h : BestI P k f b) (h1 : P k = true ∨ (f = true ∧ ahB (memL k) b = false)) : BestI P (k + 1) f b := by
  refine ⟨fun hf => ⟨fun t t1 t2 => ?_, (h.no hf).2⟩, fun hf => ⟨?_, fun t t1 t2 t3 => ?_⟩⟩
  · by_cases e : t = k
    · subst e
      rcases h1 with h1 | h1
      · exact h1
      · rw [h1.1] at hf; cases hf
    · exact (h.no hf).1 t t1 (by omega)
  · obtain ⟨t, t1, t2, t3⟩ := (h.yes hf).1
    exact ⟨t, t1, by omega, t3⟩
  · by_cases e : t = k
    · subst e
      rcases h1 with h1 | h1
      · rw [h1] at t3; cases t3
      · exact h1.2
    · exact (h.yes hf).2 t t1 (by omega) t3
theorem BestI.done {miss : Int} {hs : List Hnd} (hm : 0 ≤ miss) (hh : ∀ h ∈ hs, h.ok) (h6 : hs.length ≤ 6) {f : Bool} {b : List Int} (h : BestI (agB miss hs) (2 ^ hs.length) f b) : f = !(agr miss hs fun _ => true) ∧ b = bif agr miss hs (fun _ => true) then [] else clashL miss hs := by
  have hcong : ∀ t, agr miss hs (flt (memL t)) = agB miss hs t := fun t => agr_cong fun i hi => memL_flt (by omega)
  have hall : ∀ f, agr miss hs (fun _ => true) = true → agr miss hs f = true := fun f ha => agr_less hm hh hh (fun j x hj _ => ⟨j, hj, rfl⟩) ha
  cases ha : agr miss hs fun _ => true with
  | true =>
    cases hf : f with
    | false => exact ⟨rfl, (h.no hf).2⟩
    | true =>
      obtain ⟨t, _, _, t3, _⟩ := (h.yes hf).1
      have h9 : agB miss hs t = true := hall _ ha
      rw [h9] at t3; cases t3
  | false =>
    have hc := clash_hit ha
    obtain ⟨⟨y, e1, hy, hp, hb, hn⟩, hmin⟩ := clash_first hc
    obtain ⟨t, t1, t2, t3⟩ := memL_of h6 hp hb
    have htn : agB miss hs t = false := by rw [← hcong, t2, ← e1]; exact hn
    cases hf : f with
    | false => rw [(h.no hf).1 t (t3 hy) t1] at htn; cases htn
    | true =>
      obtain ⟨⟨s, s1, s2, s3, s4⟩, h5⟩ := h.yes hf
      refine ⟨rfl, ?_⟩
      have h7 := h5 t (t3 hy) t1 htn
      rw [t2, ← e1] at h7
      obtain ⟨z, z1, z2, z3⟩ := memL_srt s
      have hzn : ∀ j ∈ z, j < hs.length := fun j hj => by
        rcases Nat.lt_or_ge j hs.length with h8 | h8
        · exact h8
        · have := ((z3 j).1 hj).2; rw [bits_hi s2 h8] at this; cases this
      have h8 := hmin z (fun e => by
        have h9 : ∀ i, s.testBit i = false := fun i => by
          rcases Nat.lt_or_ge i 6 with h10 | h10
          · cases hb : s.testBit i with
            | false => rfl
            | true => have := (z3 i).2 ⟨h10, hb⟩; rw [e] at this; cases this
          · exact bits_hi (Nat.lt_of_lt_of_le s2 (Nat.pow_le_pow_right (by decide) h6)) h10
        have : s = 0 := Nat.eq_of_testBit_eq fun i => by rw [h9, Nat.zero_testBit]
        omega) (by
        have := nodup_len (l := z) (l' := List.range hs.length) (z2.imp fun h => Nat.ne_of_lt h) (fun j hj => List.mem_range.2 (hzn j hj))
        simpa using this) z2 hzn (by rw [← z1, hcong]; exact s3)
      rw [← z1, ← s4] at h8
      show b = clashL miss hs
      exact ah_total h8 h7
theorem rng64 {f : Nat → List Value} {i : Nat} (h : i < 64) : ((List.range 64).map f)[((i : Nat) : Int).toNat]? = some (f i) := by
  rw [Int.toNat_natCast, List.getElem?_map, List.getElem?_range h]; rfl
theorem lex_drop {a b : List Int} (hl : a.length = b.length) : ∀ {i : Nat}, a.take i = b.take i → lexB a b = lexB (a.drop i) (b.drop i)
  | 0, _ => rfl
  | i + 1, h => by
    have h1 : a.take i = b.take i := by
      have := congrArg (List.take i) h
      rw [List.take_take, List.take_take, show min i (i + 1) = i by omega] at this; exact this
    rw [lex_drop hl h1]
    rcases Nat.lt_or_ge i a.length with h2 | h2
    · have h3 : i < b.length := by omega
      rw [List.drop_eq_getElem_cons h2, List.drop_eq_getElem_cons h3]
      have h4 : a[i] = b[i] := by
        have h8 := congrArg (fun z => z[i]?) h
        simp only [List.getElem?_take, show i < i + 1 by omega, if_true] at h8
        rw [List.getElem?_eq_getElem h2, List.getElem?_eq_getElem h3] at h8
        exact Option.some.inj h8
      show lexB _ _ = _
      rw [lexB, h4, decide_eq_false (by simp)]; rfl
    · rw [List.drop_eq_nil_of_le h2, List.drop_eq_nil_of_le (show a.length ≤ i + 1 by omega)]; unfold lexB; rfl
theorem lex_at {a b : List Int} {i : Nat} {x y : Int} (hl : a.length = b.length) (h : a.take i = b.take i) (hx : a[i]? = some x) (hy : b[i]? = some y) (hn : x ≠ y) : lexB a b = decide (x < y) := by
  obtain ⟨h2, e2⟩ := List.getElem?_eq_some_iff.1 hx
  obtain ⟨h3, e3⟩ := List.getElem?_eq_some_iff.1 hy
  rw [lex_drop hl h, List.drop_eq_getElem_cons h2, List.drop_eq_getElem_cons h3, e2, e3, lexB, decide_eq_true hn]; rfl
theorem lex_same (a : List Int) : lexB a a = false := by
  induction a with
  | nil => rfl
  | cons x a ih => unfold lexB; rw [decide_eq_false (by simp)]; exact ih
theorem take_more {a b : List Int} {i : Nat} {x : Int} (h : a.take i = b.take i) (hx : a[i]? = some x) (hy : b[i]? = some x) : a.take (i + 1) = b.take (i + 1) := by
  rw [List.take_add_one, List.take_add_one, h, hx, hy]
def lstE (n : Nat) (l : List Int) : Int := bif !(l.all fun i => inb i 0 ((n : Int) - 1)) then 1 else bif !(decide l.Nodup) then 5 else 0
theorem flt_mem {l : List Int} {i : Nat} : flt l i = decide ((i : Int) ∈ l) := by
  rw [Bool.eq_iff_iff, decide_eq_true_eq]
  unfold flt
  rw [List.any_eq_true]
  exact ⟨fun ⟨x, h1, h2⟩ => by rw [of_decide_eq_true h2]; exact h1, fun h => ⟨_, h, decide_eq_true rfl⟩⟩
theorem nodup_step {l : List Int} {i : Nat} {x : Int} (hx : l[i]? = some x) (hn : (l.take i).Nodup) (h : x ∉ l.take i) : (l.take (i + 1)).Nodup := by
  rw [List.take_add_one, hx]
  exact List.nodup_append.2 ⟨hn, by simp, fun a ha b hb => by obtain rfl : b = x := by simpa using hb
                                                              intro e; exact h (e ▸ ha)⟩
theorem mem_step {l : List Int} {i v j : Nat} (hx : l[i]? = some (v : Int)) : (j : Int) ∈ l.take (i + 1) ↔ ((j : Int) ∈ l.take i ∨ v = j) := by
  rw [List.take_add_one, hx, List.mem_append]
  refine or_congr Iff.rfl ?_
  simp only [Option.toList_some, List.mem_singleton]
  omega
theorem nodup_not {l : List Int} {i : Nat} {x : Int} (hx : l[i]? = some x) (h : x ∈ l.take i) : ¬ l.Nodup := fun hn => by
  have h1 : (l.take (i + 1)).Nodup := hn.sublist (List.take_sublist _ _)
  rw [List.take_add_one, hx] at h1
  exact (List.nodup_append.1 h1).2.2 x h x (by simp) rfl
def sptB (hs : List Hnd) (s : Nat) (i : Nat) : Bool := match hs[i]? with
  | some h => decide (h.spot = (s : Int))
  | none => false
def sptL (hs : List Hnd) (s : Nat) (i : Nat) : Bool := match hs[i]? with
  | some h => decide (h.spot < (s : Int))
  | none => false
theorem spot_apart {hs : List Hnd} {s : Nat} {w t : Nat} (hw : ∀ j, w.testBit j = sptL hs s j) (ht : ∀ j, t.testBit j = sptB hs s j) : w &&& t = 0 := and0_iff.2 fun j => by
  rw [hw, ht]
  unfold sptB sptL
  cases hs[j]? with
  | none => rfl
  | some h =>
    by_cases e : h.spot = (s : Int)
    · simp [e]
    · simp [e]
theorem spot_add {hs : List Hnd} {s : Nat} {w t : Nat} (hw : ∀ j, w.testBit j = sptL hs s j) (ht : ∀ j, t.testBit j = sptB hs s j) (j : Nat) : (w + t).testBit j = sptL hs (s + 1) j := by
  rw [add_bits (spot_apart hw ht), hw, ht]
  unfold sptB sptL
  cases hs[j]? with
  | none => rfl
  | some h =>
    show (decide _ || decide _) = decide _
    rw [← Bool.decide_or]
    exact decide_eq_decide.2 (by omega)
theorem sptL_0 {hs : List Hnd} (hh : ∀ h ∈ hs, h.ok) (j : Nat) : (0 : Nat).testBit j = sptL hs 0 j := by
  rw [Nat.zero_testBit]
  unfold sptL
  cases hj : hs[j]? with
  | none => rfl
  | some h => have := (hh h (List.mem_of_getElem? hj)).spot; exact (decide_eq_false (by omega)).symm
theorem sptL_3 {hs : List Hnd} (hh : ∀ h ∈ hs, h.ok) {j : Nat} (hj : j < hs.length) : sptL hs 3 j = true := by
  unfold sptL
  rw [List.getElem?_eq_getElem hj]
  have := (hh hs[j] (List.getElem_mem hj)).spot
  exact decide_eq_true (by omega)
theorem sp_out {hs : List Hnd} {n j : Nat} (h : hs.length ≤ j) : sptL hs n j = false ∧ sptB hs n j = false := by
  unfold sptL sptB; rw [List.getElem?_eq_none h]; exact ⟨rfl, rfl⟩
theorem sp_step {hs : List Hnd} {n i t : Nat} {h : Hnd} (hi : hs[i]? = some h) (ht : ∀ j, t.testBit j = (decide (j < i) && sptB hs n j)) : (h.spot = (n : Int) → ∀ j, (t + 2 ^ i).testBit j = (decide (j < i + 1) && sptB hs n j)) ∧ (h.spot ≠ (n : Int) → ∀ j, t.testBit j = (decide (j < i + 1) && sptB hs n j)) := by
  have hb : sptB hs n i = decide (h.spot = (n : Int)) := by unfold sptB; rw [hi]
  refine ⟨fun e j => ?_, fun e j => ?_⟩
  · rw [add_bit (by rw [ht, decide_eq_false (Nat.lt_irrefl i)]; rfl), ht]
    by_cases ej : i = j
    · subst ej; rw [hb, decide_eq_true e]; simp
    · rw [decide_eq_false ej, Bool.or_false, show decide (j < i + 1) = decide (j < i) from decide_eq_decide.2 (by omega)]
  · rw [ht]
    by_cases ej : i = j
    · subst ej; rw [hb, decide_eq_false e]; simp
    · rw [show decide (j < i + 1) = decide (j < i) from decide_eq_decide.2 (by omega)]
def topK (miss : Int) (hs : List Hnd) (n : Nat) : Bool := (List.range n).all fun s => agr miss hs (fun i => sptB hs s i)
theorem topK_step (miss : Int) (hs : List Hnd) (n : Nat) : topK miss hs (n + 1) = (topK miss hs n && agr miss hs (fun i => sptB hs n i)) := by
  unfold topK; rw [List.range_succ, List.all_append]; simp
theorem topB_eq (miss : Int) (hs : List Hnd) : topB miss hs = (topK miss hs 3 && !(agr miss hs fun _ => true)) := rfl
theorem topK_no {miss : Int} {hs : List Hnd} {n : Nat} (h3 : n < 3) (h : agr miss hs (fun i => sptB hs n i) = false) : topB miss hs = false := by
  rw [topB_eq]
  have : topK miss hs 3 = false := by
    cases hk : topK miss hs 3 with
    | false => rfl
    | true =>
      unfold topK at hk
      have := List.all_eq_true.1 hk n (List.mem_range.2 h3)
      rw [h] at this; cases this
  rw [this]; rfl
theorem c_apart (a b : Nat) (ha : a < 64) (hb : b < 64) (H : Heap) (R : Facts) :
    FnV Tryz.prog 104 [.int .i64 a, .int .i64 b] H R (.bool (decide (a &&& b = 0))) := by
 refine fn_of Tryz.func104 rfl Tryz.ntmps104 rfl ?_
 refine sy_seq ?_
 refine sy_tx' [0] rfl ?_
 refine sp rfl (PE.assign rfl) rfl ?_
 refine sy_seq ?_
 refine sy_block ?_
 refine sy_loop (ι := {x : Nat × Nat // x.1 < 64 ∧ x.2 < 64 ∧ (a &&& b = 0 ↔ x.1 &&& x.2 = 0)}) (fun x => ⟨[(0, .int .i64 x.1.1), (1, .int .i64 x.1.2)], H, R⟩) (fun x => x.1.1) ⟨(a, b), ha, hb, Iff.rfl⟩ ?_ (fun x => ?_)
 exact sy_at (by repeat' first | exact Sub.nil | apply Sub.cons | rfl | (simp [lk]; omega)) (fun _ h => h)
 obtain ⟨⟨p, q⟩, hp, hq, hpq⟩ := x
 dsimp only at hp hq hpq ⊢
 refine sy_seq ?_
 refine sy_seq ?_
 refine sy_tx' [0, 1, 2, 3, 4, 5] rfl ?_
 refine sp rfl (PE.move rfl) rfl ?_
 refine sp rfl (PE.gtr rfl rfl) rfl ?_
 refine sp rfl (PE.move rfl) rfl ?_
 refine sy_case (t := 7) rfl (fun g7 => ?_) (fun g7 => ?_)
 try simp only [decide_eq_true_eq, decide_eq_false_iff_not, Bool.and_eq_true, Bool.or_eq_true, Bool.not_eq_true', Int.not_le, Int.not_lt] at g7
 refine spG rfl rfl rfl rfl (PE.move rfl) rfl ?_
 refine spG rfl rfl rfl rfl (PE.gtr rfl rfl) rfl ?_
 refine sp rfl (PE.pick rfl rfl rfl) rfl ?_
 refine sy_cond rfl (fun hc0 => ?_) (fun hc0 => ?_)
 try simp only [decide_eq_true_eq, decide_eq_false_iff_not, Bool.and_eq_true, Bool.or_eq_true, Bool.not_eq_true', Int.not_le, Int.not_lt] at hc0
 refine sy_skip ?_
 refine sy_block ?_
 refine sy_seq ?_
 refine sy_seq ?_
 refine sy_tx' [0, 1, 2, 3, 4, 5, 6, 7] rfl ?_
 refine sp rfl (PE.move rfl) rfl ?_
 refine sp rfl (PE.rem rfl rfl (by omega)) rfl ?_
 refine sp rfl (PE.eql rfl rfl) rfl ?_
 refine sp rfl (PE.move rfl) rfl ?_
 refine sy_case (t := 14) rfl (fun g14 => ?_) (fun g14 => ?_)
 try simp only [decide_eq_true_eq, decide_eq_false_iff_not, Bool.and_eq_true, Bool.or_eq_true, Bool.not_eq_true', Int.not_le, Int.not_lt] at g14
 refine spG rfl rfl rfl rfl (PE.move rfl) rfl ?_
 refine spG rfl rfl rfl rfl (PE.rem rfl rfl (by omega)) rfl ?_
 refine spG rfl rfl rfl rfl (PE.eql rfl rfl) rfl ?_
 refine sp rfl (PE.pick rfl rfl rfl) rfl ?_
 refine sy_cond rfl (fun hc1 => ?_) (fun hc1 => ?_)
 try simp only [decide_eq_true_eq, decide_eq_false_iff_not, Bool.and_eq_true, Bool.or_eq_true, Bool.not_eq_true', Int.not_le, Int.not_lt] at hc1
 have hres : ¬ a &&& b = 0 := fun h => and_odd (show p % 2 = 1 by omega) (show q % 2 = 1 by omega) (hpq.1 h)
 refine sy_seq ?_
 refine sy_tx' [0] rfl ?_
 refine sp rfl (PE.assign rfl) rfl ?_
 refine sy_ret ?_
 exact sy_return (vs := [_]) rfl (.cons (RV.tmp rfl) .nil) rfl ⟨by simp only [retV]; rw [decide_eq_false hres], rfl, rfl⟩ drp
 try simp only [decide_eq_true_eq, decide_eq_false_iff_not, Bool.and_eq_true, Bool.or_eq_true, Bool.not_eq_true', Int.not_le, Int.not_lt] at hc1
 have hst : p &&& q = 0 ↔ p / 2 &&& q / 2 = 0 := and_half (by omega)
 refine sy_skip ?_
 refine sy_tx' [0, 1, 2, 3, 4, 5] rfl ?_
 refine sp rfl (PE.move rfl) rfl ?_
 refine sp rfl (PE.quo rfl rfl (by omega)) rfl ?_
 refine sp rfl (PE.move rfl) rfl ?_
 refine sp rfl (PE.quo rfl rfl (by omega)) rfl ?_
 refine sp rfl (PE.assign rfl) rfl ?_
 refine sp rfl (PE.assign rfl) rfl ?_
 exact sy_next ⟨(p / 2, q / 2), by omega, by omega, hpq.trans hst⟩ (by dsimp only; omega) (by repeat' first | exact Sub.nil | apply Sub.cons | rfl | (simp [lk]; omega)) (fun _ h => h)
 try simp only [decide_eq_true_eq, decide_eq_false_iff_not, Bool.and_eq_true, Bool.or_eq_true, Bool.not_eq_true', Int.not_le, Int.not_lt] at g14
 have hst : p &&& q = 0 ↔ p / 2 &&& q / 2 = 0 := and_half (by omega)
 repeat refine spN rfl rfl rfl rfl rfl rfl rfl rfl ?_
 refine sp rfl (PE.pick rfl rfl rfl) rfl ?_
 refine sy_condF rfl ?_
 refine sy_skip ?_
 refine sy_tx' [0, 1, 2, 3, 4, 5] rfl ?_
 refine sp rfl (PE.move rfl) rfl ?_
 refine sp rfl (PE.quo rfl rfl (by omega)) rfl ?_
 refine sp rfl (PE.move rfl) rfl ?_
 refine sp rfl (PE.quo rfl rfl (by omega)) rfl ?_
 refine sp rfl (PE.assign rfl) rfl ?_
 refine sp rfl (PE.assign rfl) rfl ?_
 exact sy_next ⟨(p / 2, q / 2), by omega, by omega, hpq.trans hst⟩ (by dsimp only; omega) (by repeat' first | exact Sub.nil | apply Sub.cons | rfl | (simp [lk]; omega)) (fun _ h => h)
 try simp only [decide_eq_true_eq, decide_eq_false_iff_not, Bool.and_eq_true, Bool.or_eq_true, Bool.not_eq_true', Int.not_le, Int.not_lt] at hc0
 have hres := hpq.2 (by rw [show q = 0 by omega, Nat.and_zero])
 refine sy_exit ?_
 repeat refine sy_tx ?_
 refine sy_bx ?_
 refine sy_seq ?_
 refine sy_tx' [0] rfl ?_
 refine sp rfl (PE.assign rfl) rfl ?_
 refine sy_ret ?_
 exact sy_return (vs := [_]) rfl (.cons (RV.tmp rfl) .nil) rfl ⟨by simp only [retV]; rw [decide_eq_true hres], rfl, rfl⟩ drp
 try simp only [decide_eq_true_eq, decide_eq_false_iff_not, Bool.and_eq_true, Bool.or_eq_true, Bool.not_eq_true', Int.not_le, Int.not_lt] at g7
 have hres := hpq.2 (by rw [show p = 0 by omega, Nat.zero_and])
 repeat refine spN rfl rfl rfl rfl rfl rfl rfl rfl ?_
 refine sp rfl (PE.pick rfl rfl rfl) rfl ?_
 refine sy_condF rfl ?_
 refine sy_exit ?_
 repeat refine sy_tx ?_
 refine sy_bx ?_
 refine sy_seq ?_
 refine sy_tx' [0] rfl ?_
 refine sp rfl (PE.assign rfl) rfl ?_
 refine sy_ret ?_
 exact sy_return (vs := [_]) rfl (.cons (RV.tmp rfl) .nil) rfl ⟨by simp only [retV]; rw [decide_eq_true hres], rfl, rfl⟩ drp
theorem c_members (s : Nat) (hs : s < 64) (H : Heap) (R : Facts) :
    Fn Tryz.prog 105 [.int .i64 s] H R (fun v H' R' => ∃ a9 c9, v = .slice a9 (memL s).length c9 ∧ H' = H ∧ R' = RowsA a9 1 (irows (memL s)) :: R) := by
 refine fn_of Tryz.func105 rfl Tryz.ntmps105 rfl ?_
 refine sy_seq ?_
 refine sy_tx' [0] rfl ?_
 refine sp rfl (PE.assign rfl) rfl ?_
 refine sy_seq ?_
 refine sy_tx' [0] rfl ?_
 refine sp rfl (PE.assign rfl) rfl ?_
 refine sy_seq ?_
 refine sy_seq ?_
 refine sy_tx' [0] rfl ?_
 refine sp rfl (PE.assign rfl) rfl ?_
 refine sy_block ?_
 refine sy_loop (ι := (x : {x : Nat × Nat // x.1 ≤ 6 ∧ x.2 = s / 2 ^ x.1}) × OSl 3 1 (irows (memP s x.1.1))) (fun x => ⟨[(0, .int .i64 x.1.1.2), (3, x.2.fs), (4, .int .i64 x.1.1.1)], x.2.G ++ H, R⟩) (fun x => 6 - x.1.1.1) ⟨⟨(0, s), by omega, by simp⟩, OSl.nil _ _⟩ ?_ (fun x => ?_)
 exact sy_at (by repeat' first | exact Sub.nil | apply Sub.cons | rfl | (simp [lk]; omega)) (fun _ h => h)
 obtain ⟨⟨⟨i, d⟩, hi, hd⟩, o⟩ := x
 dsimp only at hi hd o ⊢
 have hcp := memP_len s i
 have hdl : d < 64 := by rw [hd]; exact Nat.lt_of_le_of_lt (Nat.div_le_self _ _) hs
 have hd2 : d / 2 = s / 2 ^ (i + 1) := by rw [hd, Nat.pow_succ, Nat.div_div_eq_div_mul]
 refine sy_seq ?_
 refine sy_seq ?_
 refine sy_tx' [0, 1] rfl ?_
 refine sp rfl (PE.move rfl) rfl ?_
 refine sp rfl (PE.gtr rfl rfl) rfl ?_
 refine sy_cond rfl (fun hc0 => ?_) (fun hc0 => ?_)
 try simp only [decide_eq_true_eq, decide_eq_false_iff_not, Bool.and_eq_true, Bool.or_eq_true, Bool.not_eq_true', Int.not_le, Int.not_lt] at hc0
 have hi5 : i < 6 := by
   rcases Nat.lt_or_ge i 6 with e | e
   · exact e
   · obtain rfl : i = 6 := by omega
     rw [Nat.div_eq_of_lt (show s < 2 ^ 6 by omega)] at hd
     omega
 refine sy_skip ?_
 refine sy_seq ?_
 refine sy_block ?_
 refine sy_seq ?_
 refine sy_seq ?_
 refine sy_tx' [0, 1, 2] rfl ?_
 refine sp rfl (PE.move rfl) rfl ?_
 refine sp rfl (PE.rem rfl rfl (by omega)) rfl ?_
 refine sp rfl (PE.eql rfl rfl) rfl ?_
 refine sy_cond rfl (fun hc1 => ?_) (fun hc1 => ?_)
 try simp only [decide_eq_true_eq, decide_eq_false_iff_not, Bool.and_eq_true, Bool.or_eq_true, Bool.not_eq_true', Int.not_le, Int.not_lt] at hc1
 have hst := memP_on (s := s) (n := i) (by rw [← hd]; omega)
 refine sy_tx' [0, 1, 2, 3, 4] rfl ?_
 refine sp rfl (PE.move rfl) rfl ?_
 refine sp rfl (PE.move rfl) rfl ?_
 refine bsl (out := [_]) rfl sl22 zl3 rfl rfl rfl rfl rfl rfl (fun b14 => ?_)
 refine apO (o) rfl ap22 rfl rfl (rowsH (row := [.int .i64 i]) rfl) rfl rfl ((by simp only [irows, List.length_map, List.length_singleton]; omega)) rfl (fun o15 => ?_)
 refine sp rfl (PE.assign rfl) rfl ?_
 refine sy_tx' [0, 1, 2] rfl ?_
 refine sp rfl (PE.move rfl) rfl ?_
 refine sp rfl (PE.quo rfl rfl (by omega)) rfl ?_
 refine sp rfl (PE.assign rfl) rfl ?_
 refine sy_tx' [0, 1, 2] rfl ?_
 refine sp rfl (PE.move rfl) rfl ?_
 refine sp rfl (PE.add rfl rfl (by omega)) rfl ?_
 refine sp rfl (PE.assign rfl) rfl ?_
 exact sy_next ⟨⟨(i + 1, d / 2), by dsimp only; omega, hd2⟩, o15.cast (by rw [hst]; simp [irows])⟩ (by dsimp only; omega) (by repeat' first | exact Sub.nil | apply Sub.cons | rfl | (simp [lk]; omega)) (fun w h => h.del b14)
 try simp only [decide_eq_true_eq, decide_eq_false_iff_not, Bool.and_eq_true, Bool.or_eq_true, Bool.not_eq_true', Int.not_le, Int.not_lt] at hc1
 have hst := memP_off (s := s) (n := i) (by rw [← hd]; omega)
 refine sy_skip ?_
 refine sy_tx' [0, 1, 2] rfl ?_
 refine sp rfl (PE.move rfl) rfl ?_
 refine sp rfl (PE.quo rfl rfl (by omega)) rfl ?_
 refine sp rfl (PE.assign rfl) rfl ?_
 refine sy_tx' [0, 1, 2] rfl ?_
 refine sp rfl (PE.move rfl) rfl ?_
 refine sp rfl (PE.add rfl rfl (by omega)) rfl ?_
 refine sp rfl (PE.assign rfl) rfl ?_
 exact sy_next ⟨⟨(i + 1, d / 2), by dsimp only; omega, hd2⟩, o.cast (by rw [hst])⟩ (by dsimp only; omega) (by repeat' first | exact Sub.nil | apply Sub.cons | rfl | (simp [lk]; omega)) (fun _ h => h)
 try simp only [decide_eq_true_eq, decide_eq_false_iff_not, Bool.and_eq_true, Bool.or_eq_true, Bool.not_eq_true', Int.not_le, Int.not_lt] at hc0
 have hme : memP s i = memL s := memL_eq (by rw [← hd]; omega) hi
 refine sy_exit ?_
 repeat refine sy_tx ?_
 refine sy_bx ?_
 refine sy_seq ?_
 refine sy_tx' [0, 1] rfl ?_
 refine sp rfl (PE.move rfl) rfl ?_
 refine sp rfl (PE.assign rfl) rfl ?_
 refine sy_ret ?_
 obtain ⟨a9, c9, hfe, hff⟩ := (o.cast (rows' := irows (memL s)) (by rw [hme])).freeze
 rw [List.length_map] at hfe
 exact sy_return (vs := [_]) rfl (.cons (RV.tmp rfl) .nil) rfl ⟨a9, c9, hfe, rfl, rfl⟩ (fun w h => hff h)
theorem c_Listed (c : Crt) (h6 : c.hs.length ≤ 6) (ah : Option Addr) (ch : Nat) (l : List Int) (hl : l.length ≤ 100) (al : Option Addr) (cy : Nat) (H : Heap) (R : Facts) [hL : MemRows al 1 (irows l) R] :
    Fn Tryz.prog 62 [c.v (c.sl ah ch), .slice al l.length cy] H R (fun v H' R' => ∃ s : Nat, s < 64 ∧ v = .tuple #[.int .i64 s, .int .i64 (lstE c.hs.length l)] ∧ H' = H ∧ R' = R ∧ (lstE c.hs.length l = 0 → ∀ j, s.testBit j = flt l j)) := by
 refine fn_of Tryz.func62 rfl Tryz.ntmps62 rfl ?_
 refine sy_seq ?_
 refine sy_tx' [0, 1, 2] rfl ?_
 refine bx rfl rfl rfl (fun b2 => ?_)
 refine sp rfl (PE.assign rfl) rfl ?_
 refine sp rfl (PE.assign rfl) rfl ?_
 refine sy_seq ?_
 refine sy_seq ?_
 refine sy_tx' [0] rfl ?_
 refine sp rfl (PE.assign rfl) rfl ?_
 refine sy_block ?_
 refine sy_loop (ι := {i : Nat // i ≤ l.length ∧ ((l.take i).all fun i => inb i 0 ((c.hs.length : Int) - 1)) = true}) (fun i => ⟨[(1, .slice al l.length cy), (2, .pointer (some ⟨b2, 0, none⟩)), (6, .int .i64 i.1)], (b2, cel 79 (ctl c (c.sl ah ch))) :: H, R⟩) (fun i => l.length - i.1) ⟨0, by omega, rfl⟩ ?_ (fun i => ?_)
 exact sy_at (by repeat' first | exact Sub.nil | apply Sub.cons | rfl | (simp [lk]; omega)) (fun _ h => h)
 obtain ⟨i, hi, hin⟩ := i
 dsimp only at hi hin ⊢
 refine sy_seq ?_
 refine sy_seq ?_
 refine sy_tx' [0, 1, 2, 3] rfl ?_
 refine sp rfl (PE.move rfl) rfl ?_
 refine sp rfl (PE.move rfl) rfl ?_
 refine sp rfl (PE.lenSl isl22 rfl) rfl ?_
 refine sp rfl (PE.lss rfl rfl) rfl ?_
 refine sy_cond rfl (fun hc0 => ?_) (fun hc0 => ?_)
 try simp only [decide_eq_true_eq, decide_eq_false_iff_not, Bool.and_eq_true, Bool.or_eq_true, Bool.not_eq_true', Int.not_le, Int.not_lt] at hc0
 obtain ⟨x, hxx⟩ : ∃ x, l[i]? = some x := ⟨_, List.getElem?_eq_getElem (by omega)⟩
 have hmx := List.mem_of_getElem? hxx
 refine sy_addr (a := al) (sz := 1) (rows := irows l) (by intro h9; have h8 := congrArg List.length h9; simp at h8; simp [h8] at hxx) (fun ba oa hea => ?_)
 subst hea
 refine sy_skip ?_
 refine sy_seq ?_
 refine sy_block ?_
 refine sy_seq ?_
 refine sy_draw [0, 0, 3, 7, 0, 16, 48, 112, 255] (.tk 0 (.tk 1 (.tk 2 (.ld 3 (.tk 4 (.ld 5 (.tk 6 (.tk 7 (.big 8 .done))))))))) mixed (by kernel_rfl) ?_
 refine tk rfl (PE.move rfl) rfl ?_
 refine tk rfl (PE.move rfl) rfl ?_
 refine tk rfl (PE.indexAddr el22 rfl rfl (by omega) (by omega)) rfl ?_
 refine ld rfl rfl (lf0 (x := .int .i64 x) sc3 (by simp [irows, hxx]; rfl) rfl) rfl ?_
 refine tk rfl (PE.fieldAddr fo79_2 rfl) rfl ?_
 refine ld rfl rfl (lh sc77 rfl rfl) rfl ?_
 refine tk rfl (PE.lenSl isl77 rfl) rfl ?_
 refine tk rfl (PE.sub rfl rfl (by omega)) rfl ?_
 refine clV rfl cal91 rfl rfl (c_off _ _ _ _ _) ?_
 refine bg (fun w hs => ⟨trivial, trivial, trivial⟩) ?_
 refine sy_cond rfl (fun hc1 => ?_) (fun hc1 => ?_)
 try simp only [decide_eq_true_eq, decide_eq_false_iff_not, Bool.and_eq_true, Bool.or_eq_true, Bool.not_eq_true', Int.not_le, Int.not_lt] at hc1
 have hx2 : inb x 0 ((c.hs.length : Int) - 1) = false := by simpa using hc1
 have hE : lstE c.hs.length l = 1 := by
   unfold lstE
   rw [show (l.all fun i => inb i 0 ((c.hs.length : Int) - 1)) = false from by
     cases h : l.all fun i => inb i 0 ((c.hs.length : Int) - 1) with
     | false => rfl
     | true => have := List.all_eq_true.1 h x hmx; rw [hx2] at this; cases this]; rfl
 refine sy_seq ?_
 refine sy_tx' [0, 1] rfl ?_
 refine sp rfl (PE.assign rfl) rfl ?_
 refine sp rfl (PE.assign rfl) rfl ?_
 refine sy_ret ?_
 exact sy_return (vs := [_, _]) rfl (.cons (RV.tmp rfl) (.cons (RV.tmp rfl) .nil)) rfl ⟨0, by decide, by rw [hE]; rfl, rfl, rfl, fun h => by rw [hE] at h; cases h⟩ (fun w h => h.del b2)
 try simp only [decide_eq_true_eq, decide_eq_false_iff_not, Bool.and_eq_true, Bool.or_eq_true, Bool.not_eq_true', Int.not_le, Int.not_lt] at hc1
 have hx2 : inb x 0 ((c.hs.length : Int) - 1) = true := by simpa using hc1
 refine sy_skip ?_
 refine sy_tx' [0, 1, 2] rfl ?_
 refine sp rfl (PE.move rfl) rfl ?_
 refine sp rfl (PE.add rfl rfl (by omega)) rfl ?_
 refine sp rfl (PE.assign rfl) rfl ?_
 exact sy_next ⟨i + 1, by omega, by rw [List.take_add_one, hxx, List.all_append, hin]; simp [hx2]⟩ (by dsimp only; omega) (by repeat' first | exact Sub.nil | apply Sub.cons | rfl | (simp [lk]; omega)) (fun _ h => h)
 try simp only [decide_eq_true_eq, decide_eq_false_iff_not, Bool.and_eq_true, Bool.or_eq_true, Bool.not_eq_true', Int.not_le, Int.not_lt] at hc0
 obtain rfl : i = l.length := by omega
 rw [List.take_length] at hin
 refine sy_exit ?_
 repeat refine sy_tx ?_
 refine sy_bx ?_
 refine sy_seq ?_
 refine sy_tx' [0] rfl ?_
 refine sp rfl (PE.assign rfl) rfl ?_
 refine sy_seq ?_
 refine sy_seq ?_
 refine sy_tx' [0] rfl ?_
 refine sp rfl (PE.assign rfl) rfl ?_
 refine sy_block ?_
 refine sy_loop (ι := {x : Nat × Nat // x.1 ≤ l.length ∧ (l.take x.1).Nodup ∧ x.2 < 64 ∧ ∀ j, x.2.testBit j = flt (l.take x.1) j}) (fun x => ⟨[(1, .slice al l.length cy), (2, .pointer (some ⟨b2, 0, none⟩)), (7, .int .i64 x.1.2), (8, .int .i64 x.1.1)], (b2, cel 79 (ctl c (c.sl ah ch))) :: H, R⟩) (fun x => l.length - x.1.1) ⟨(0, 0), by omega, List.nodup_nil, by decide, fun j => by simp [flt]⟩ ?_ (fun x => ?_)
 exact sy_at (by repeat' first | exact Sub.nil | apply Sub.cons | rfl | (simp [lk]; omega)) (fun _ h => h)
 obtain ⟨⟨i, s⟩, hi, hnd, hs, hbt⟩ := x
 dsimp only at hi hnd hs hbt ⊢
 refine sy_seq ?_
 refine sy_seq ?_
 refine sy_tx' [0, 1, 2, 3] rfl ?_
 refine sp rfl (PE.move rfl) rfl ?_
 refine sp rfl (PE.move rfl) rfl ?_
 refine sp rfl (PE.lenSl isl22 rfl) rfl ?_
 refine sp rfl (PE.lss rfl rfl) rfl ?_
 refine sy_cond rfl (fun hc2 => ?_) (fun hc2 => ?_)
 try simp only [decide_eq_true_eq, decide_eq_false_iff_not, Bool.and_eq_true, Bool.or_eq_true, Bool.not_eq_true', Int.not_le, Int.not_lt] at hc2
 obtain ⟨x, hxx⟩ : ∃ x, l[i]? = some x := ⟨_, List.getElem?_eq_getElem (by omega)⟩
 have hmx := List.mem_of_getElem? hxx
 refine sy_addr (a := al) (sz := 1) (rows := irows l) (by intro h9; have h8 := congrArg List.length h9; simp at h8; simp [h8] at hxx) (fun ba oa hea => ?_)
 subst hea
 have hx2 := List.all_eq_true.1 hin x hmx
 simp only [inb, Bool.and_eq_true, decide_eq_true_eq] at hx2
 obtain ⟨v, rfl⟩ : ∃ v : Nat, x = v := ⟨x.toNat, by omega⟩
 have hv6 : v < 6 := by omega
 refine sy_skip ?_
 refine sy_seq ?_
 refine sy_block ?_
 refine sy_seq ?_
 refine sy_tx' [0] rfl ?_
 refine sp rfl (PE.assign rfl) rfl ?_
 refine sy_seq ?_
 refine sy_seq ?_
 refine sy_tx' [0] rfl ?_
 refine sp rfl (PE.assign rfl) rfl ?_
 refine sy_block ?_
 refine sy_loop (ι := {k : Nat // k ≤ v}) (fun k => ⟨[(1, .slice (some ⟨ba, oa, none⟩) l.length cy), (2, .pointer (some ⟨b2, 0, none⟩)), (7, .int .i64 s), (8, .int .i64 i), (9, .int .i64 ((2 ^ k.1 : Nat) : Int)), (10, .int .i64 k.1)], (b2, cel 79 (ctl c (c.sl ah ch))) :: H, R⟩) (fun k => v - k.1) ⟨0, by omega⟩ ?_ (fun k => ?_)
 exact sy_at (by repeat' first | exact Sub.nil | apply Sub.cons | rfl | (simp [lk]; omega)) (fun _ h => h)
 obtain ⟨k, hk⟩ := k
 dsimp only at hk ⊢
 have h2p : 2 ^ k ≤ 2 ^ 5 := Nat.pow_le_pow_right (by decide) (by omega)
 have hp0 : 0 < 2 ^ k := Nat.pow_pos (by decide)
 have hps : 2 ^ (k + 1) = 2 ^ k + 2 ^ k := by rw [Nat.pow_succ]; omega
 refine sy_seq ?_
 refine sy_seq ?_
 refine sy_tx' [0, 1, 2, 3, 4, 5] rfl ?_
 refine sp rfl (PE.move rfl) rfl ?_
 refine sp rfl (PE.move rfl) rfl ?_
 refine sp rfl (PE.move rfl) rfl ?_
 refine sp rfl (PE.indexAddr el22 rfl rfl (by omega) (by omega)) rfl ?_
 refine spL rfl rfl (lf0 (x := .int .i64 (v : Int)) sc3 (by simp [irows, hxx]; rfl) rfl) rfl ?_
 refine sp rfl (PE.lss rfl rfl) rfl ?_
 refine sy_cond rfl (fun hc3 => ?_) (fun hc3 => ?_)
 try simp only [decide_eq_true_eq, decide_eq_false_iff_not, Bool.and_eq_true, Bool.or_eq_true, Bool.not_eq_true', Int.not_le, Int.not_lt] at hc3
 refine sy_skip ?_
 refine sy_seq ?_
 refine sy_block ?_
 refine sy_tx' [0, 1, 2] rfl ?_
 refine sp rfl (PE.move rfl) rfl ?_
 refine sp rfl (PE.mul rfl rfl (by omega)) rfl ?_
 refine sp rfl (PE.assign rfl) rfl ?_
 refine sy_tx' [0, 1, 2] rfl ?_
 refine sp rfl (PE.move rfl) rfl ?_
 refine sp rfl (PE.add rfl rfl (by omega)) rfl ?_
 refine sp rfl (PE.assign rfl) rfl ?_
 exact sy_next ⟨k + 1, by omega⟩ (by dsimp only; omega) (by dsimp only; rw [show ((2 ^ (k + 1) : Nat) : Int) = 2 * ((2 ^ k : Nat) : Int) from by rw [hps]; omega]; exact (by repeat' first | exact Sub.nil | apply Sub.cons | rfl | (simp [lk]; omega))) (fun _ h => h)
 try simp only [decide_eq_true_eq, decide_eq_false_iff_not, Bool.and_eq_true, Bool.or_eq_true, Bool.not_eq_true', Int.not_le, Int.not_lt] at hc3
 obtain rfl : k = v := by omega
 refine sy_exit ?_
 repeat refine sy_tx ?_
 refine sy_bx ?_
 refine sy_seq ?_
 refine sy_seq ?_
 refine sy_tx' [0, 1, 2, 3, 4] rfl ?_
 refine sp rfl (PE.move rfl) rfl ?_
 refine sp rfl (PE.move rfl) rfl ?_
 refine sp rfl (PE.quo rfl rfl (by omega)) rfl ?_
 refine sp rfl (PE.rem rfl rfl (by have := Int.ediv_nonneg (show (0 : Int) ≤ s by omega) (show (0 : Int) ≤ ((2 ^ k : Nat) : Int) by omega); omega)) rfl ?_
 refine sp rfl (PE.eql rfl rfl) rfl ?_
 refine sy_cond rfl (fun hc4 => ?_) (fun hc4 => ?_)
 try simp only [decide_eq_true_eq, decide_eq_false_iff_not, Bool.and_eq_true, Bool.or_eq_true, Bool.not_eq_true', Int.not_le, Int.not_lt] at hc4
 have hb : s.testBit k = true := by rw [Nat.testBit_eq_decide_div_mod_eq, decide_eq_true_eq]; exact_mod_cast hc4
 have hE : lstE c.hs.length l = 5 := by
   unfold lstE
   rw [hbt, flt_mem] at hb
   rw [hin, decide_eq_false (nodup_not hxx (of_decide_eq_true hb))]; rfl
 refine sy_seq ?_
 refine sy_tx' [0, 1] rfl ?_
 refine sp rfl (PE.assign rfl) rfl ?_
 refine sp rfl (PE.assign rfl) rfl ?_
 refine sy_ret ?_
 exact sy_return (vs := [_, _]) rfl (.cons (RV.tmp rfl) (.cons (RV.tmp rfl) .nil)) rfl ⟨0, by decide, by rw [hE]; rfl, rfl, rfl, fun h => by rw [hE] at h; cases h⟩ (fun w h => h.del b2)
 try simp only [decide_eq_true_eq, decide_eq_false_iff_not, Bool.and_eq_true, Bool.or_eq_true, Bool.not_eq_true', Int.not_le, Int.not_lt] at hc4
 have hb : s.testBit k = false := by rw [Nat.testBit_eq_decide_div_mod_eq, decide_eq_false_iff_not]; exact_mod_cast hc4
 have hst := add_bit hb
 have hs2 : s + 2 ^ k < 64 := bits_lt (n := 6) fun j hj => by rw [hst, bits_hi (n := 6) hs hj, decide_eq_false (show ¬ k = j by omega)]; rfl
 refine sy_skip ?_
 refine sy_tx' [0, 1, 2, 3] rfl ?_
 refine sp rfl (PE.move rfl) rfl ?_
 refine sp rfl (PE.move rfl) rfl ?_
 refine sp rfl (PE.add rfl rfl (by omega)) rfl ?_
 refine sp rfl (PE.assign rfl) rfl ?_
 refine sy_tx' [0, 1, 2] rfl ?_
 refine sp rfl (PE.move rfl) rfl ?_
 refine sp rfl (PE.add rfl rfl (by omega)) rfl ?_
 refine sp rfl (PE.assign rfl) rfl ?_
 exact sy_next ⟨(i + 1, s + 2 ^ k), by omega, nodup_step hxx hnd (fun h => by rw [hbt, flt_mem, decide_eq_true h] at hb; cases hb), hs2, fun j => by rw [hst, hbt, flt_mem, flt_mem, ← Bool.decide_or]; exact decide_eq_decide.2 (mem_step hxx).symm⟩ (by dsimp only; omega) (by dsimp only; rw [show ((s + 2 ^ k : Nat) : Int) = (s : Int) + ((2 ^ k : Nat) : Int) from by omega]; exact (by repeat' first | exact Sub.nil | apply Sub.cons | rfl | (simp [lk]; omega))) (fun _ h => h)
 try simp only [decide_eq_true_eq, decide_eq_false_iff_not, Bool.and_eq_true, Bool.or_eq_true, Bool.not_eq_true', Int.not_le, Int.not_lt] at hc2
 obtain rfl : i = l.length := by omega
 rw [List.take_length] at hnd hbt
 have hE : lstE c.hs.length l = 0 := by unfold lstE; rw [hin, decide_eq_true hnd]; rfl
 refine sy_exit ?_
 repeat refine sy_tx ?_
 refine sy_bx ?_
 refine sy_seq ?_
 refine sy_tx' [0, 1, 2] rfl ?_
 refine sp rfl (PE.move rfl) rfl ?_
 refine sp rfl (PE.assign rfl) rfl ?_
 refine sp rfl (PE.assign rfl) rfl ?_
 refine sy_ret ?_
 exact sy_return (vs := [_, _]) rfl (.cons (RV.tmp rfl) (.cons (RV.tmp rfl) .nil)) rfl ⟨s, hs, by rw [hE]; rfl, rfl, rfl, fun _ => hbt⟩ (fun w h => h.del b2)
theorem c_rAgree (miss : Int) (hm : 0 ≤ miss) (hs : List Hnd) (hh : ∀ h ∈ hs, h.ok) (h6 : hs.length ≤ 6) (ms : List Mix) (hms : ∀ m, m ∈ ms ↔ Mxt m) (bo : Nat) (aa : Nat → Option Addr) (cc : Nat → Nat) (s : Nat) (hs64 : s < 64) (H : Heap) (R : Facts) [hP : MemRows (some ⟨bo, 0, none⟩) 1 ((List.range 64).map fun s => [Value.slice (aa s) (partS miss hs ms s).length (cc s)]) R] :
    FnV Tryz.prog 63 [.slice (some ⟨bo, 0, none⟩) 64 64, .int .i64 s] H R (.bool (agB miss hs s)) := by
 refine fn_of Tryz.func63 rfl Tryz.ntmps63 rfl ?_
 refine sy_seq ?_
 refine sy_tx' [0] rfl ?_
 refine sp rfl (PE.assign rfl) rfl ?_
 refine sy_seq ?_
 refine sy_seq ?_
 refine sy_tx' [0] rfl ?_
 refine sp rfl (PE.assign rfl) rfl ?_
 refine sy_block ?_
 refine sy_loop (ι := {i : Nat // i ≤ 64 ∧ ∀ q < i, ¬ (0 < (partS miss hs ms q).length ∧ q &&& s = 0)}) (fun i => ⟨[(0, .slice (some ⟨bo, 0, none⟩) 64 64), (1, .int .i64 s), (5, .int .i64 i.1)], H, R⟩) (fun i => 64 - i.1) ⟨0, by omega, by omega⟩ ?_ (fun i => ?_)
 exact sy_at (by repeat' first | exact Sub.nil | apply Sub.cons | rfl | (simp [lk]; omega)) (fun _ h => h)
 obtain ⟨i, hi, hno⟩ := i
 dsimp only at hi hno ⊢
 refine sy_seq ?_
 refine sy_seq ?_
 refine sy_tx' [0, 1] rfl ?_
 refine sp rfl (PE.move rfl) rfl ?_
 refine sp rfl (PE.lss rfl rfl) rfl ?_
 refine sy_cond rfl (fun hc0 => ?_) (fun hc0 => ?_)
 try simp only [decide_eq_true_eq, decide_eq_false_iff_not, Bool.and_eq_true, Bool.or_eq_true, Bool.not_eq_true', Int.not_le, Int.not_lt] at hc0
 refine sy_skip ?_
 refine sy_seq ?_
 refine sy_block ?_
 refine sy_seq ?_
 refine sy_tx' [0, 1, 2, 3, 4, 5, 6, 7, 8, 9, 10] rfl ?_
 refine sp rfl (PE.move rfl) rfl ?_
 refine sp rfl (PE.move rfl) rfl ?_
 refine sp rfl (PE.indexAddr el107 rfl rfl (by omega) (by omega)) rfl ?_
 refine spL rfl rfl (lf0 (x := .slice (aa i) (partS miss hs ms i).length (cc i)) sc106 (rng64 (by omega)) rfl) rfl ?_
 refine sp rfl (PE.lenSl isl106 rfl) rfl ?_
 refine sp rfl (PE.gtr rfl rfl) rfl ?_
 refine sp rfl (PE.move rfl) rfl ?_
 refine sy_case (t := 16) rfl (fun g16 => ?_) (fun g16 => ?_)
 try simp only [decide_eq_true_eq, decide_eq_false_iff_not, Bool.and_eq_true, Bool.or_eq_true, Bool.not_eq_true', Int.not_le, Int.not_lt] at g16
 refine spG rfl rfl rfl rfl (PE.move rfl) rfl ?_
 refine spG rfl rfl rfl rfl (PE.move rfl) rfl ?_
 refine clVG rfl rfl rfl rfl cal104 rfl rfl (c_apart i s (by omega) hs64 _ _) ?_
 refine sp rfl (PE.pick rfl rfl rfl) rfl ?_
 refine sy_cond rfl (fun hc1 => ?_) (fun hc1 => ?_)
 try simp only [decide_eq_true_eq, decide_eq_false_iff_not, Bool.and_eq_true, Bool.or_eq_true, Bool.not_eq_true', Int.not_le, Int.not_lt] at hc1
 have hres : agB miss hs s = true := (agB_ref hm hh h6 hms s).2 ⟨i, by omega, by omega, by omega⟩
 refine sy_seq ?_
 refine sy_tx' [0] rfl ?_
 refine sp rfl (PE.assign rfl) rfl ?_
 refine sy_ret ?_
 exact sy_return (vs := [_]) rfl (.cons (RV.tmp rfl) .nil) rfl ⟨by simp only [retV]; rw [hres], rfl, rfl⟩ drp
 try simp only [decide_eq_true_eq, decide_eq_false_iff_not, Bool.and_eq_true, Bool.or_eq_true, Bool.not_eq_true', Int.not_le, Int.not_lt] at hc1
 refine sy_skip ?_
 refine sy_tx' [0, 1, 2] rfl ?_
 refine sp rfl (PE.move rfl) rfl ?_
 refine sp rfl (PE.add rfl rfl (by omega)) rfl ?_
 refine sp rfl (PE.assign rfl) rfl ?_
 exact sy_next ⟨i + 1, by omega, fun q hq => by
   rcases Nat.lt_or_ge q i with h9 | h9
   · exact hno q h9
   · obtain rfl : q = i := by omega
     intro h8; omega⟩ (by dsimp only; omega) (by repeat' first | exact Sub.nil | apply Sub.cons | rfl | (simp [lk]; omega)) (fun _ h => h)
 try simp only [decide_eq_true_eq, decide_eq_false_iff_not, Bool.and_eq_true, Bool.or_eq_true, Bool.not_eq_true', Int.not_le, Int.not_lt] at g16
 repeat refine spN rfl rfl rfl rfl rfl rfl rfl rfl ?_
 refine sp rfl (PE.pick rfl rfl rfl) rfl ?_
 refine sy_condF rfl ?_
 refine sy_skip ?_
 refine sy_tx' [0, 1, 2] rfl ?_
 refine sp rfl (PE.move rfl) rfl ?_
 refine sp rfl (PE.add rfl rfl (by omega)) rfl ?_
 refine sp rfl (PE.assign rfl) rfl ?_
 exact sy_next ⟨i + 1, by omega, fun q hq => by
   rcases Nat.lt_or_ge q i with h9 | h9
   · exact hno q h9
   · obtain rfl : q = i := by omega
     intro h8; omega⟩ (by dsimp only; omega) (by repeat' first | exact Sub.nil | apply Sub.cons | rfl | (simp [lk]; omega)) (fun _ h => h)
 try simp only [decide_eq_true_eq, decide_eq_false_iff_not, Bool.and_eq_true, Bool.or_eq_true, Bool.not_eq_true', Int.not_le, Int.not_lt] at hc0
 obtain rfl : i = 64 := by omega
 have hres : agB miss hs s = false := by
   cases h : agB miss hs s with
   | false => rfl
   | true => obtain ⟨q, hq, h1, h2⟩ := (agB_ref hm hh h6 hms s).1 h; exact absurd ⟨h1, h2⟩ (hno q hq)
 refine sy_exit ?_
 repeat refine sy_tx ?_
 refine sy_bx ?_
 refine sy_seq ?_
 refine sy_tx' [0] rfl ?_
 refine sp rfl (PE.assign rfl) rfl ?_
 refine sy_ret ?_
 exact sy_return (vs := [_]) rfl (.cons (RV.tmp rfl) .nil) rfl ⟨by simp only [retV]; rw [hres], rfl, rfl⟩ drp
theorem c_ahead (xs ys : List Int) (hx : xs.length ≤ 100) (hy : ys.length ≤ 100) (a1 a2 : Option Addr) (c1 c2 : Nat) (H : Heap) (R : Facts) [hA1 : MemRows a1 1 (irows xs) R] [hA2 : MemRows a2 1 (irows ys) R] :
    FnV Tryz.prog 106 [.slice a1 xs.length c1, .slice a2 ys.length c2] H R (.bool (ahB xs ys)) := by
 refine fn_of Tryz.func106 rfl Tryz.ntmps106 rfl ?_
 refine sy_seq ?_
 refine sy_tx' [0] rfl ?_
 refine sp rfl (PE.assign rfl) rfl ?_
 refine sy_seq ?_
 refine sy_seq ?_
 refine sy_tx' [0, 1, 2, 3, 4] rfl ?_
 refine sp rfl (PE.move rfl) rfl ?_
 refine sp rfl (PE.lenSl isl22 rfl) rfl ?_
 refine sp rfl (PE.move rfl) rfl ?_
 refine sp rfl (PE.lenSl isl22 rfl) rfl ?_
 refine sp rfl (PE.neq rfl rfl) rfl ?_
 refine sy_cond rfl (fun hc0 => ?_) (fun hc0 => ?_)
 try simp only [decide_eq_true_eq, decide_eq_false_iff_not, Bool.and_eq_true, Bool.or_eq_true, Bool.not_eq_true', Int.not_le, Int.not_lt] at hc0
 have hres : ahB xs ys = decide (xs.length < ys.length) := by unfold ahB; rw [decide_eq_true (show xs.length ≠ ys.length by omega)]; rfl
 refine sy_seq ?_
 refine sy_tx' [0, 1, 2, 3, 4, 5] rfl ?_
 refine sp rfl (PE.move rfl) rfl ?_
 refine sp rfl (PE.lenSl isl22 rfl) rfl ?_
 refine sp rfl (PE.move rfl) rfl ?_
 refine sp rfl (PE.lenSl isl22 rfl) rfl ?_
 refine sp rfl (PE.lss rfl rfl) rfl ?_
 refine sp rfl (PE.assign rfl) rfl ?_
 refine sy_ret ?_
 exact sy_return (vs := [_]) rfl (.cons (RV.tmp rfl) .nil) rfl ⟨by simp only [retV]; rw [hres]; congr 1; exact decide_eq_decide.2 (by omega), rfl, rfl⟩ drp
 try simp only [decide_eq_true_eq, decide_eq_false_iff_not, Bool.and_eq_true, Bool.or_eq_true, Bool.not_eq_true', Int.not_le, Int.not_lt] at hc0
 have hle : xs.length = ys.length := by omega
 have hre : ahB xs ys = lexB xs ys := by unfold ahB; rw [decide_eq_false (by omega)]; rfl
 refine sy_skip ?_
 refine sy_seq ?_
 refine sy_seq ?_
 refine sy_tx' [0] rfl ?_
 refine sp rfl (PE.assign rfl) rfl ?_
 refine sy_block ?_
 refine sy_loop (ι := {i : Nat // i ≤ xs.length ∧ xs.take i = ys.take i}) (fun i => ⟨[(0, .slice a1 xs.length c1), (1, .slice a2 ys.length c2), (5, .int .i64 i.1)], H, R⟩) (fun i => xs.length - i.1) ⟨0, by omega, rfl⟩ ?_ (fun i => ?_)
 exact sy_at (by repeat' first | exact Sub.nil | apply Sub.cons | rfl | (simp [lk]; omega)) (fun _ h => h)
 obtain ⟨i, hi, hsm⟩ := i
 dsimp only at hi hsm ⊢
 refine sy_seq ?_
 refine sy_seq ?_
 refine sy_tx' [0, 1, 2, 3] rfl ?_
 refine sp rfl (PE.move rfl) rfl ?_
 refine sp rfl (PE.move rfl) rfl ?_
 refine sp rfl (PE.lenSl isl22 rfl) rfl ?_
 refine sp rfl (PE.lss rfl rfl) rfl ?_
 refine sy_cond rfl (fun hc1 => ?_) (fun hc1 => ?_)
 try simp only [decide_eq_true_eq, decide_eq_false_iff_not, Bool.and_eq_true, Bool.or_eq_true, Bool.not_eq_true', Int.not_le, Int.not_lt] at hc1
 obtain ⟨x, hxx⟩ : ∃ x, xs[i]? = some x := ⟨_, List.getElem?_eq_getElem (by omega)⟩
 obtain ⟨y, hyy⟩ : ∃ y, ys[i]? = some y := ⟨_, List.getElem?_eq_getElem (by omega)⟩
 refine sy_addr (a := a1) (sz := 1) (rows := irows xs) (by intro h9; have h8 := congrArg List.length h9; simp at h8; simp [h8] at hxx) (fun ba oa hea => ?_)
 refine sy_addr (a := a2) (sz := 1) (rows := irows ys) (by intro h9; have h8 := congrArg List.length h9; simp at h8; simp [h8] at hyy) (fun bb ob heb => ?_)
 subst hea heb
 refine sy_skip ?_
 refine sy_seq ?_
 refine sy_block ?_
 refine sy_seq ?_
 refine sy_draw [0, 0, 3, 7, 0, 0, 48, 112, 255] (.tk 0 (.tk 1 (.tk 2 (.ld 3 (.tk 4 (.tk 5 (.tk 6 (.ld 7 (.tk 8 .done))))))))) mixed (by kernel_rfl) ?_
 refine tk rfl (PE.move rfl) rfl ?_
 refine tk rfl (PE.move rfl) rfl ?_
 refine tk rfl (PE.indexAddr el22 rfl rfl (by omega) (by omega)) rfl ?_
 refine ld rfl rfl (lf0 (x := .int .i64 x) sc3 (by simp [irows, hxx]; rfl) rfl) rfl ?_
 refine tk rfl (PE.move rfl) rfl ?_
 refine tk rfl (PE.move rfl) rfl ?_
 refine tk rfl (PE.indexAddr el22 rfl rfl (by omega) (by omega)) rfl ?_
 refine ld rfl rfl (lf0 (x := .int .i64 y) sc3 (by simp [irows, hyy]; rfl) rfl) rfl ?_
 refine tk rfl (PE.neq rfl rfl) rfl ?_
 refine sy_cond rfl (fun hc2 => ?_) (fun hc2 => ?_)
 try simp only [decide_eq_true_eq, decide_eq_false_iff_not, Bool.and_eq_true, Bool.or_eq_true, Bool.not_eq_true', Int.not_le, Int.not_lt] at hc2
 have hres : ahB xs ys = decide (x < y) := by rw [hre]; exact lex_at hle hsm hxx hyy (by omega)
 refine sy_seq ?_
 refine sy_draw [0, 0, 3, 7, 0, 0, 48, 112, 255, 511] (.tk 0 (.tk 1 (.tk 2 (.ld 3 (.tk 4 (.tk 5 (.tk 6 (.ld 7 (.tk 8 (.tk 9 .done)))))))))) mixed (by kernel_rfl) ?_
 refine tk rfl (PE.move rfl) rfl ?_
 refine tk rfl (PE.move rfl) rfl ?_
 refine tk rfl (PE.indexAddr el22 rfl rfl (by omega) (by omega)) rfl ?_
 refine ld rfl rfl (lf0 (x := .int .i64 x) sc3 (by simp [irows, hxx]; rfl) rfl) rfl ?_
 refine tk rfl (PE.move rfl) rfl ?_
 refine tk rfl (PE.move rfl) rfl ?_
 refine tk rfl (PE.indexAddr el22 rfl rfl (by omega) (by omega)) rfl ?_
 refine ld rfl rfl (lf0 (x := .int .i64 y) sc3 (by simp [irows, hyy]; rfl) rfl) rfl ?_
 refine tk rfl (PE.lss rfl rfl) rfl ?_
 refine tk rfl (PE.assign rfl) rfl ?_
 refine sy_ret ?_
 exact sy_return (vs := [_]) rfl (.cons (RV.tmp rfl) .nil) rfl ⟨by simp only [retV]; rw [hres], rfl, rfl⟩ drp
 try simp only [decide_eq_true_eq, decide_eq_false_iff_not, Bool.and_eq_true, Bool.or_eq_true, Bool.not_eq_true', Int.not_le, Int.not_lt] at hc2
 obtain rfl : x = y := by omega
 refine sy_skip ?_
 refine sy_tx' [0, 1, 2] rfl ?_
 refine sp rfl (PE.move rfl) rfl ?_
 refine sp rfl (PE.add rfl rfl (by omega)) rfl ?_
 refine sp rfl (PE.assign rfl) rfl ?_
 exact sy_next ⟨i + 1, by omega, take_more hsm hxx hyy⟩ (by dsimp only; omega) (by repeat' first | exact Sub.nil | apply Sub.cons | rfl | (simp [lk]; omega)) (fun _ h => h)
 try simp only [decide_eq_true_eq, decide_eq_false_iff_not, Bool.and_eq_true, Bool.or_eq_true, Bool.not_eq_true', Int.not_le, Int.not_lt] at hc1
 obtain rfl : i = xs.length := by omega
 have hsame : xs = ys := by rw [List.take_length] at hsm; rw [hle, List.take_length] at hsm; exact hsm
 have hres : ahB xs ys = false := by rw [hre, ← hsame]; exact lex_same xs
 refine sy_exit ?_
 repeat refine sy_tx ?_
 refine sy_bx ?_
 refine sy_seq ?_
 refine sy_tx' [0] rfl ?_
 refine sp rfl (PE.assign rfl) rfl ?_
 refine sy_ret ?_
 exact sy_return (vs := [_]) rfl (.cons (RV.tmp rfl) .nil) rfl ⟨by simp only [retV]; rw [hres], rfl, rfl⟩ drp
theorem c_rClash (miss : Int) (hm : 0 ≤ miss) (hs : List Hnd) (hh : ∀ h ∈ hs, h.ok) (h6 : hs.length ≤ 6) (ms : List Mix) (hms : ∀ m, m ∈ ms ↔ Mxt m) (bo : Nat) (aa : Nat → Option Addr) (cc : Nat → Nat) (H : Heap) (R : Facts) [hP : MemRows (some ⟨bo, 0, none⟩) 1 ((List.range 64).map fun s => [Value.slice (aa s) (partS miss hs ms s).length (cc s)]) R] :
    Fn Tryz.prog 64 [.slice (some ⟨bo, 0, none⟩) 64 64, .int .i64 hs.length] H R (fun v H' R' => ∃ a9 c9, v = .tuple #[.slice a9 (bif agr miss hs (fun _ => true) then [] else clashL miss hs).length c9, .bool (!(agr miss hs fun _ => true))] ∧ H' = H ∧ R' = RowsA a9 1 (irows (bif agr miss hs (fun _ => true) then [] else clashL miss hs)) :: R) := by
 refine fn_of Tryz.func64 rfl Tryz.ntmps64 rfl ?_
 refine sy_seq ?_
 refine sy_tx' [0, 1] rfl ?_
 refine sp rfl (PE.assign rfl) rfl ?_
 refine sp rfl (PE.assign rfl) rfl ?_
 refine sy_seq ?_
 refine sy_tx' [0] rfl ?_
 refine sp rfl (PE.assign rfl) rfl ?_
 refine sy_seq ?_
 refine sy_seq ?_
 refine sy_tx' [0] rfl ?_
 refine sp rfl (PE.assign rfl) rfl ?_
 refine sy_block ?_
 refine sy_loop (ι := {i : Nat // i ≤ hs.length}) (fun i => ⟨[(0, .slice (some ⟨bo, 0, none⟩) 64 64), (1, .int .i64 hs.length), (6, .int .i64 ((2 ^ i.1 : Nat) : Int)), (7, .int .i64 i.1)], H, R⟩) (fun i => hs.length - i.1) ⟨0, by omega⟩ ?_ (fun i => ?_)
 exact sy_at (by repeat' first | exact Sub.nil | apply Sub.cons | rfl | (simp [lk]; omega)) (fun _ h => h)
 obtain ⟨i, hi⟩ := i
 dsimp only at hi ⊢
 have h2p : 2 ^ i ≤ 2 ^ 6 := Nat.pow_le_pow_right (by decide) (by omega)
 have hp0 : 0 < 2 ^ i := Nat.pow_pos (by decide)
 have hps : 2 ^ (i + 1) = 2 ^ i + 2 ^ i := by rw [Nat.pow_succ]; omega
 refine sy_seq ?_
 refine sy_seq ?_
 refine sy_tx' [0, 1, 2] rfl ?_
 refine sp rfl (PE.move rfl) rfl ?_
 refine sp rfl (PE.move rfl) rfl ?_
 refine sp rfl (PE.lss rfl rfl) rfl ?_
 refine sy_cond rfl (fun hc0 => ?_) (fun hc0 => ?_)
 try simp only [decide_eq_true_eq, decide_eq_false_iff_not, Bool.and_eq_true, Bool.or_eq_true, Bool.not_eq_true', Int.not_le, Int.not_lt] at hc0
 refine sy_skip ?_
 refine sy_seq ?_
 refine sy_block ?_
 refine sy_tx' [0, 1, 2] rfl ?_
 refine sp rfl (PE.move rfl) rfl ?_
 refine sp rfl (PE.mul rfl rfl (by omega)) rfl ?_
 refine sp rfl (PE.assign rfl) rfl ?_
 refine sy_tx' [0, 1, 2] rfl ?_
 refine sp rfl (PE.move rfl) rfl ?_
 refine sp rfl (PE.add rfl rfl (by omega)) rfl ?_
 refine sp rfl (PE.assign rfl) rfl ?_
 exact sy_next ⟨i + 1, by omega⟩ (by dsimp only; omega) (by dsimp only; rw [show ((2 ^ (i + 1) : Nat) : Int) = 2 * ((2 ^ i : Nat) : Int) from by rw [hps]; omega]; exact (by repeat' first | exact Sub.nil | apply Sub.cons | rfl | (simp [lk]; omega))) (fun _ h => h)
 try simp only [decide_eq_true_eq, decide_eq_false_iff_not, Bool.and_eq_true, Bool.or_eq_true, Bool.not_eq_true', Int.not_le, Int.not_lt] at hc0
 obtain rfl : i = hs.length := by omega
 refine Sy.heap (fun w h => St.norows (sz := 1) h) ?_
 refine sy_exit ?_
 repeat refine sy_tx ?_
 refine sy_bx ?_
 refine sy_seq ?_
 refine sy_tx' [0] rfl ?_
 refine sp rfl (PE.assign rfl) rfl ?_
 refine sy_seq ?_
 refine sy_tx' [0] rfl ?_
 refine sp rfl (PE.assign rfl) rfl ?_
 refine sy_seq ?_
 refine sy_seq ?_
 refine sy_tx' [0] rfl ?_
 refine sp rfl (PE.assign rfl) rfl ?_
 refine sy_block ?_
 refine sy_loop (ι := {x : Nat × Bool × List Int × Option Addr × Nat // 1 ≤ x.1 ∧ x.1 ≤ 2 ^ hs.length ∧ x.2.2.1.length ≤ 6 ∧ BestI (agB miss hs) x.1 x.2.1 x.2.2.1}) (fun x => ⟨[(0, .slice (some ⟨bo, 0, none⟩) 64 64), (6, .int .i64 ((2 ^ hs.length : Nat) : Int)), (8, .slice x.1.2.2.2.1 x.1.2.2.1.length x.1.2.2.2.2), (9, .bool x.1.2.1), (10, .int .i64 x.1.1)], H, RowsA x.1.2.2.2.1 1 (irows x.1.2.2.1) :: R⟩) (fun x => 2 ^ hs.length - x.1.1) ⟨(1, false, [], none, 0), by omega, by dsimp only; omega, by simp, BestI.start _⟩ ?_ (fun x => ?_)
 exact sy_at (by repeat' first | exact Sub.nil | apply Sub.cons | rfl | (simp [lk]; omega)) (fun _ h => h)
 obtain ⟨⟨k, f, bs, ab, cb⟩, hk1, hk, hbl, hI⟩ := x
 dsimp only at hk1 hk hbl hI ⊢
 refine sy_seq ?_
 refine sy_seq ?_
 refine sy_tx' [0, 1, 2] rfl ?_
 refine sp rfl (PE.move rfl) rfl ?_
 refine sp rfl (PE.move rfl) rfl ?_
 refine sp rfl (PE.lss rfl rfl) rfl ?_
 refine sy_cond rfl (fun hc1 => ?_) (fun hc1 => ?_)
 try simp only [decide_eq_true_eq, decide_eq_false_iff_not, Bool.and_eq_true, Bool.or_eq_true, Bool.not_eq_true', Int.not_le, Int.not_lt] at hc1
 have hk64 : k < 64 := by omega
 have hml := memL_len k
 refine sy_skip ?_
 refine sy_seq ?_
 refine sy_block ?_
 refine sy_seq ?_
 refine sy_tx' [0, 1, 2] rfl ?_
 refine sp rfl (PE.move rfl) rfl ?_
 refine cl rfl cal105 rfl rfl (c_members k hk64 _ _) ?_
 rintro _ _ _ ⟨am, cm, rfl, rfl, rfl⟩
 refine sp rfl (PE.assign rfl) rfl ?_
 refine sy_seq ?_
 refine sy_tx' [0, 1, 2, 3, 4, 5, 6, 7, 8, 9, 10, 11, 12] rfl ?_
 refine sp rfl (PE.move rfl) rfl ?_
 refine sp rfl (PE.not rfl) rfl ?_
 refine sp rfl (PE.move rfl) rfl ?_
 refine sy_case (t := 28) rfl (fun g28 => ?_) (fun g28 => ?_)
 try simp only [decide_eq_true_eq, decide_eq_false_iff_not, Bool.and_eq_true, Bool.or_eq_true, Bool.not_eq_true', Int.not_le, Int.not_lt] at g28
 repeat refine spN rfl rfl rfl rfl rfl rfl rfl rfl ?_
 refine sp rfl (PE.pick rfl rfl rfl) rfl ?_
 refine sp rfl (PE.move rfl) rfl ?_
 refine spG rfl rfl rfl rfl (PE.move rfl) rfl ?_
 refine spG rfl rfl rfl rfl (PE.move rfl) rfl ?_
 refine clVG rfl rfl rfl rfl cal63 rfl rfl (c_rAgree miss hm hs hh h6 ms hms bo aa cc k hk64 _ _) ?_
 refine spG rfl rfl rfl rfl (PE.not rfl) rfl ?_
 refine sp rfl (PE.pick rfl rfl rfl) rfl ?_
 refine sy_cond rfl (fun hc2 => ?_) (fun hc2 => ?_)
 try simp only [decide_eq_true_eq, decide_eq_false_iff_not, Bool.and_eq_true, Bool.or_eq_true, Bool.not_eq_true', Int.not_le, Int.not_lt] at hc2
 refine sy_tx' [0, 1, 2] rfl ?_
 refine sp rfl (PE.move rfl) rfl ?_
 refine sp rfl (PE.assign rfl) rfl ?_
 refine sp rfl (PE.assign rfl) rfl ?_
 refine sy_tx' [0, 1, 2] rfl ?_
 refine sp rfl (PE.move rfl) rfl ?_
 refine sp rfl (PE.add rfl rfl (by omega)) rfl ?_
 refine sp rfl (PE.assign rfl) rfl ?_
 exact sy_next ⟨(k + 1, true, memL k, am, cm), by dsimp only; omega, by dsimp only; omega, hml, hI.take hk1 (by first | (left; simpa using g28) | exact .inr (by simpa using g33)) (by simpa using hc2)⟩ (by dsimp only; omega) (by repeat' first | exact Sub.nil | apply Sub.cons | rfl | (simp [lk]; omega)) (fun w h => St.sub h)
 try simp only [decide_eq_true_eq, decide_eq_false_iff_not, Bool.and_eq_true, Bool.or_eq_true, Bool.not_eq_true', Int.not_le, Int.not_lt] at hc2
 refine sy_skip ?_
 refine sy_tx' [0, 1, 2] rfl ?_
 refine sp rfl (PE.move rfl) rfl ?_
 refine sp rfl (PE.add rfl rfl (by omega)) rfl ?_
 refine sp rfl (PE.assign rfl) rfl ?_
 exact sy_next ⟨(k + 1, f, bs, ab, cb), by dsimp only; omega, by dsimp only; omega, hbl, hI.skip (by first | (left; simpa using hc2) | exact .inr ⟨by simpa using g28, by simpa using g33⟩)⟩ (by dsimp only; omega) (by repeat' first | exact Sub.nil | apply Sub.cons | rfl | (simp [lk]; omega)) (fun w h => St.ftail h)
 try simp only [decide_eq_true_eq, decide_eq_false_iff_not, Bool.and_eq_true, Bool.or_eq_true, Bool.not_eq_true', Int.not_le, Int.not_lt] at g28
 refine spG rfl rfl rfl rfl (PE.move rfl) rfl ?_
 refine spG rfl rfl rfl rfl (PE.move rfl) rfl ?_
 refine clVG rfl rfl rfl rfl cal106 rfl rfl (c_ahead (memL k) bs (by omega) (by omega) am ab cm cb _ _) ?_
 refine sp rfl (PE.pick rfl rfl rfl) rfl ?_
 refine sp rfl (PE.move rfl) rfl ?_
 refine sy_case (t := 33) rfl (fun g33 => ?_) (fun g33 => ?_)
 refine spG rfl rfl rfl rfl (PE.move rfl) rfl ?_
 refine spG rfl rfl rfl rfl (PE.move rfl) rfl ?_
 refine clVG rfl rfl rfl rfl cal63 rfl rfl (c_rAgree miss hm hs hh h6 ms hms bo aa cc k hk64 _ _) ?_
 refine spG rfl rfl rfl rfl (PE.not rfl) rfl ?_
 refine sp rfl (PE.pick rfl rfl rfl) rfl ?_
 refine sy_cond rfl (fun hc2 => ?_) (fun hc2 => ?_)
 try simp only [decide_eq_true_eq, decide_eq_false_iff_not, Bool.and_eq_true, Bool.or_eq_true, Bool.not_eq_true', Int.not_le, Int.not_lt] at hc2
 refine sy_tx' [0, 1, 2] rfl ?_
 refine sp rfl (PE.move rfl) rfl ?_
 refine sp rfl (PE.assign rfl) rfl ?_
 refine sp rfl (PE.assign rfl) rfl ?_
 refine sy_tx' [0, 1, 2] rfl ?_
 refine sp rfl (PE.move rfl) rfl ?_
 refine sp rfl (PE.add rfl rfl (by omega)) rfl ?_
 refine sp rfl (PE.assign rfl) rfl ?_
 exact sy_next ⟨(k + 1, true, memL k, am, cm), by dsimp only; omega, by dsimp only; omega, hml, hI.take hk1 (by first | (left; simpa using g28) | exact .inr (by simpa using g33)) (by simpa using hc2)⟩ (by dsimp only; omega) (by repeat' first | exact Sub.nil | apply Sub.cons | rfl | (simp [lk]; omega)) (fun w h => St.sub h)
 try simp only [decide_eq_true_eq, decide_eq_false_iff_not, Bool.and_eq_true, Bool.or_eq_true, Bool.not_eq_true', Int.not_le, Int.not_lt] at hc2
 refine sy_skip ?_
 refine sy_tx' [0, 1, 2] rfl ?_
 refine sp rfl (PE.move rfl) rfl ?_
 refine sp rfl (PE.add rfl rfl (by omega)) rfl ?_
 refine sp rfl (PE.assign rfl) rfl ?_
 exact sy_next ⟨(k + 1, f, bs, ab, cb), by dsimp only; omega, by dsimp only; omega, hbl, hI.skip (by first | (left; simpa using hc2) | exact .inr ⟨by simpa using g28, by simpa using g33⟩)⟩ (by dsimp only; omega) (by repeat' first | exact Sub.nil | apply Sub.cons | rfl | (simp [lk]; omega)) (fun w h => St.ftail h)
 repeat refine spN rfl rfl rfl rfl rfl rfl rfl rfl ?_
 refine sp rfl (PE.pick rfl rfl rfl) rfl ?_
 refine sy_condF rfl ?_
 refine sy_skip ?_
 refine sy_tx' [0, 1, 2] rfl ?_
 refine sp rfl (PE.move rfl) rfl ?_
 refine sp rfl (PE.add rfl rfl (by omega)) rfl ?_
 refine sp rfl (PE.assign rfl) rfl ?_
 exact sy_next ⟨(k + 1, f, bs, ab, cb), by dsimp only; omega, by dsimp only; omega, hbl, hI.skip (by first | (left; simpa using hc2) | exact .inr ⟨by simpa using g28, by simpa using g33⟩)⟩ (by dsimp only; omega) (by repeat' first | exact Sub.nil | apply Sub.cons | rfl | (simp [lk]; omega)) (fun w h => St.ftail h)
 try simp only [decide_eq_true_eq, decide_eq_false_iff_not, Bool.and_eq_true, Bool.or_eq_true, Bool.not_eq_true', Int.not_le, Int.not_lt] at hc1
 obtain rfl : k = 2 ^ hs.length := by omega
 obtain ⟨hre1, hre2⟩ := hI.done hm hh h6
 refine sy_exit ?_
 repeat refine sy_tx ?_
 refine sy_bx ?_
 refine sy_seq ?_
 refine sy_tx' [0, 1, 2, 3] rfl ?_
 refine sp rfl (PE.move rfl) rfl ?_
 refine sp rfl (PE.move rfl) rfl ?_
 refine sp rfl (PE.assign rfl) rfl ?_
 refine sp rfl (PE.assign rfl) rfl ?_
 refine sy_ret ?_
 rw [hre1, hre2]
 exact sy_return (vs := [_, _]) rfl (.cons (RV.tmp rfl) (.cons (RV.tmp rfl) .nil)) rfl ⟨ab, cb, rfl, rfl, rfl⟩ drp
theorem c_rTopped (miss : Int) (hm : 0 ≤ miss) (c : Crt) (hc : c.ok) (ah : Option Addr) (ch : Nat) (ms : List Mix) (hms : ∀ m, m ∈ ms ↔ Mxt m) (bo : Nat) (aa : Nat → Option Addr) (cc : Nat → Nat) (H : Heap) (R : Facts) [hA : MemRows ah 5 (hrows c.hs) R] [hP : MemRows (some ⟨bo, 0, none⟩) 1 ((List.range 64).map fun s => [Value.slice (aa s) (partS miss c.hs ms s).length (cc s)]) R] :
    FnV Tryz.prog 65 [c.v (c.sl ah ch), .slice (some ⟨bo, 0, none⟩) 64 64] H R (.bool (topB miss c.hs)) := by
 refine fn_of Tryz.func65 rfl Tryz.ntmps65 rfl ?_
 refine sy_seq ?_
 refine sy_tx' [0, 1] rfl ?_
 refine bx rfl rfl rfl (fun b2 => ?_)
 refine sp rfl (PE.assign rfl) rfl ?_
 refine sy_seq ?_
 refine sy_tx' [0] rfl ?_
 refine sp rfl (PE.assign rfl) rfl ?_
 refine sy_seq ?_
 refine sy_seq ?_
 refine sy_tx' [0] rfl ?_
 refine sp rfl (PE.assign rfl) rfl ?_
 refine sy_block ?_
 refine sy_loop (ι := {x : Nat × Nat // x.1 ≤ 3 ∧ x.2 < 64 ∧ (∀ j, x.2.testBit j = sptL c.hs x.1 j) ∧ topK miss c.hs x.1 = true}) (fun x => ⟨[(1, .slice (some ⟨bo, 0, none⟩) 64 64), (2, .pointer (some ⟨b2, 0, none⟩)), (5, .int .i64 x.1.2), (6, .int .i64 x.1.1)], (b2, cel 79 (ctl c (c.sl ah ch))) :: H, R⟩) (fun x => 3 - x.1.1) ⟨(0, 0), by omega, by decide, sptL_0 hc.hs, rfl⟩ ?_ (fun x => ?_)
 exact sy_at (by repeat' first | exact Sub.nil | apply Sub.cons | rfl | (simp [lk]; omega)) (fun _ h => h)
 obtain ⟨⟨n, w⟩, hn, hw64, hw, htk⟩ := x
 dsimp only at hn hw64 hw htk ⊢
 have hmany := hc.many
 refine sy_seq ?_
 refine sy_seq ?_
 refine sy_tx' [0, 1] rfl ?_
 refine sp rfl (PE.move rfl) rfl ?_
 refine sp rfl (PE.lss rfl rfl) rfl ?_
 refine sy_cond rfl (fun hc0 => ?_) (fun hc0 => ?_)
 try simp only [decide_eq_true_eq, decide_eq_false_iff_not, Bool.and_eq_true, Bool.or_eq_true, Bool.not_eq_true', Int.not_le, Int.not_lt] at hc0
 refine sy_skip ?_
 refine sy_seq ?_
 refine sy_block ?_
 refine sy_seq ?_
 refine sy_tx' [0, 1] rfl ?_
 refine sp rfl (PE.assign rfl) rfl ?_
 refine sp rfl (PE.assign rfl) rfl ?_
 refine sy_seq ?_
 refine sy_seq ?_
 refine sy_tx' [0] rfl ?_
 refine sp rfl (PE.assign rfl) rfl ?_
 refine sy_block ?_
 refine sy_loop (ι := {x : Nat × Nat // x.1 ≤ c.hs.length ∧ x.2 < 64 ∧ ∀ j, x.2.testBit j = (decide (j < x.1) && sptB c.hs n j)}) (fun x => ⟨[(1, .slice (some ⟨bo, 0, none⟩) 64 64), (2, .pointer (some ⟨b2, 0, none⟩)), (5, .int .i64 w), (6, .int .i64 n), (7, .int .i64 x.1.2), (8, .int .i64 ((2 ^ x.1.1 : Nat) : Int)), (9, .int .i64 x.1.1)], (b2, cel 79 (ctl c (c.sl ah ch))) :: H, R⟩) (fun x => c.hs.length - x.1.1) ⟨(0, 0), by omega, by decide, fun j => by simp⟩ ?_ (fun x => ?_)
 exact sy_at (by repeat' first | exact Sub.nil | apply Sub.cons | rfl | (simp [lk]; omega)) (fun _ h => h)
 obtain ⟨⟨i, t⟩, hi, ht64, ht⟩ := x
 dsimp only at hi ht64 ht ⊢
 have hp0 : 0 < 2 ^ i := Nat.pow_pos (by decide)
 have h2p : 2 ^ i ≤ 2 ^ 6 := Nat.pow_le_pow_right (by decide) (by omega)
 have hps : 2 ^ (i + 1) = 2 ^ i + 2 ^ i := by rw [Nat.pow_succ]; omega
 refine sy_seq ?_
 refine sy_seq ?_
 refine sy_tx' [0, 1, 2, 3, 4] rfl ?_
 refine sp rfl (PE.move rfl) rfl ?_
 refine sp rfl (PE.fieldAddr fo79_2 rfl) rfl ?_
 refine spL rfl rfl (lh sc77 rfl rfl) rfl ?_
 refine sp rfl (PE.lenSl isl77 rfl) rfl ?_
 refine sp rfl (PE.lss rfl rfl) rfl ?_
 refine sy_cond rfl (fun hc1 => ?_) (fun hc1 => ?_)
 try simp only [decide_eq_true_eq, decide_eq_false_iff_not, Bool.and_eq_true, Bool.or_eq_true, Bool.not_eq_true', Int.not_le, Int.not_lt] at hc1
 obtain ⟨x, hx⟩ : ∃ x, c.hs[i]? = some x := ⟨_, List.getElem?_eq_getElem (by omega)⟩
 obtain ⟨st1, st2⟩ := sp_step hx ht
 refine sy_addr (a := ah) (sz := 5) (rows := hrows c.hs) (by intro h0; simp [hrows] at h0; simp [h0] at hx) (fun ba oa hea => ?_)
 subst hea
 refine sy_skip ?_
 refine sy_seq ?_
 refine sy_block ?_
 refine sy_seq ?_
 refine sy_seq ?_
 refine sy_tx' [0, 1, 2, 3, 4, 5, 6, 7] rfl ?_
 refine sp rfl (PE.fieldAddr fo79_2 rfl) rfl ?_
 refine spL rfl rfl (lh sc77 rfl rfl) rfl ?_
 refine sp rfl (PE.move rfl) rfl ?_
 refine sp rfl (PE.indexAddr el77 rfl rfl (by omega) (by omega)) rfl ?_
 refine sp rfl (PE.fieldAddr fo83_0 rfl) rfl ?_
 refine spL rfl rfl (lf (x := .int .i64 x.spot) sc3 (hr_get (by simpa using hx)) rfl) rfl ?_
 refine sp rfl (PE.move rfl) rfl ?_
 refine sp rfl (PE.eql rfl rfl) rfl ?_
 refine sy_cond rfl (fun hc2 => ?_) (fun hc2 => ?_)
 try simp only [decide_eq_true_eq, decide_eq_false_iff_not, Bool.and_eq_true, Bool.or_eq_true, Bool.not_eq_true', Int.not_le, Int.not_lt] at hc2
 have st := st1 (by omega)
 have ht2 : t + 2 ^ i < 64 := bits_lt (n := 6) fun j hj => by rw [st, decide_eq_false (show ¬ j < i + 1 by omega)]; rfl
 refine sy_tx' [0, 1, 2, 3] rfl ?_
 refine sp rfl (PE.move rfl) rfl ?_
 refine sp rfl (PE.move rfl) rfl ?_
 refine sp rfl (PE.add rfl rfl (by omega)) rfl ?_
 refine sp rfl (PE.assign rfl) rfl ?_
 refine sy_tx' [0, 1, 2] rfl ?_
 refine sp rfl (PE.move rfl) rfl ?_
 refine sp rfl (PE.mul rfl rfl (by omega)) rfl ?_
 refine sp rfl (PE.assign rfl) rfl ?_
 refine sy_tx' [0, 1, 2] rfl ?_
 refine sp rfl (PE.move rfl) rfl ?_
 refine sp rfl (PE.add rfl rfl (by omega)) rfl ?_
 refine sp rfl (PE.assign rfl) rfl ?_
 exact sy_next ⟨(i + 1, t + 2 ^ i), by dsimp only; omega, ht2, st⟩ (by dsimp only; omega) (by dsimp only; rw [show ((2 ^ (i + 1) : Nat) : Int) = 2 * ((2 ^ i : Nat) : Int) from by rw [hps]; omega, show ((t + 2 ^ i : Nat) : Int) = (t : Int) + ((2 ^ i : Nat) : Int) from by omega]; exact (by repeat' first | exact Sub.nil | apply Sub.cons | rfl | (simp [lk]; omega))) (fun _ h => h)
 try simp only [decide_eq_true_eq, decide_eq_false_iff_not, Bool.and_eq_true, Bool.or_eq_true, Bool.not_eq_true', Int.not_le, Int.not_lt] at hc2
 have st := st2 (by omega)
 refine sy_skip ?_
 refine sy_tx' [0, 1, 2] rfl ?_
 refine sp rfl (PE.move rfl) rfl ?_
 refine sp rfl (PE.mul rfl rfl (by omega)) rfl ?_
 refine sp rfl (PE.assign rfl) rfl ?_
 refine sy_tx' [0, 1, 2] rfl ?_
 refine sp rfl (PE.move rfl) rfl ?_
 refine sp rfl (PE.add rfl rfl (by omega)) rfl ?_
 refine sp rfl (PE.assign rfl) rfl ?_
 exact sy_next ⟨(i + 1, t), by dsimp only; omega, ht64, st⟩ (by dsimp only; omega) (by dsimp only; rw [show ((2 ^ (i + 1) : Nat) : Int) = 2 * ((2 ^ i : Nat) : Int) from by rw [hps]; omega]; exact (by repeat' first | exact Sub.nil | apply Sub.cons | rfl | (simp [lk]; omega))) (fun _ h => h)
 try simp only [decide_eq_true_eq, decide_eq_false_iff_not, Bool.and_eq_true, Bool.or_eq_true, Bool.not_eq_true', Int.not_le, Int.not_lt] at hc1
 obtain rfl : i = c.hs.length := by omega
 have ht2 : ∀ j, t.testBit j = sptB c.hs n j := fun j => by
   rw [ht]
   by_cases h9 : j < c.hs.length
   · rw [decide_eq_true h9]; rfl
   · rw [decide_eq_false h9, (sp_out (n := n) (show c.hs.length ≤ j by omega)).2]; rfl
 have hre : agB miss c.hs t = agr miss c.hs (fun i => sptB c.hs n i) := agr_cong fun i _ => ht2 i
 refine sy_exit ?_
 repeat refine sy_tx ?_
 refine sy_bx ?_
 refine sy_seq ?_
 refine sy_seq ?_
 refine sy_tx' [0, 1, 2, 3] rfl ?_
 refine sp rfl (PE.move rfl) rfl ?_
 refine sp rfl (PE.move rfl) rfl ?_
 refine clV rfl cal63 rfl rfl (c_rAgree miss hm c.hs hc.hs hc.many ms hms bo aa cc t ht64 _ _) ?_
 refine sp rfl (PE.not rfl) rfl ?_
 refine sy_cond rfl (fun hc3 => ?_) (fun hc3 => ?_)
 try simp only [decide_eq_true_eq, decide_eq_false_iff_not, Bool.and_eq_true, Bool.or_eq_true, Bool.not_eq_true', Int.not_le, Int.not_lt] at hc3
 have hres : topB miss c.hs = false := topK_no (n := n) (by omega) (by rw [← hre]; simpa using hc3)
 refine sy_seq ?_
 refine sy_tx' [0] rfl ?_
 refine sp rfl (PE.assign rfl) rfl ?_
 refine sy_ret ?_
 exact sy_return (vs := [_]) rfl (.cons (RV.tmp rfl) .nil) rfl ⟨by simp only [retV]; rw [hres], rfl, rfl⟩ (fun w h => h.del b2)
 try simp only [decide_eq_true_eq, decide_eq_false_iff_not, Bool.and_eq_true, Bool.or_eq_true, Bool.not_eq_true', Int.not_le, Int.not_lt] at hc3
 have h7 := spot_add hw ht2
 have hwt : w + t < 64 := bits_lt (n := 6) fun j hj => by rw [h7, (sp_out (show c.hs.length ≤ j by omega)).1]
 refine sy_skip ?_
 refine sy_tx' [0, 1, 2, 3] rfl ?_
 refine sp rfl (PE.move rfl) rfl ?_
 refine sp rfl (PE.move rfl) rfl ?_
 refine sp rfl (PE.add rfl rfl (by omega)) rfl ?_
 refine sp rfl (PE.assign rfl) rfl ?_
 refine sy_tx' [0, 1, 2] rfl ?_
 refine sp rfl (PE.move rfl) rfl ?_
 refine sp rfl (PE.add rfl rfl (by omega)) rfl ?_
 refine sp rfl (PE.assign rfl) rfl ?_
 exact sy_next ⟨(n + 1, w + t), by dsimp only; omega, hwt, h7, by rw [topK_step, htk, ← hre]; simpa using hc3⟩ (by dsimp only; omega) (by repeat' first | exact Sub.nil | apply Sub.cons | rfl | (simp [lk]; omega)) (fun _ h => h)
 try simp only [decide_eq_true_eq, decide_eq_false_iff_not, Bool.and_eq_true, Bool.or_eq_true, Bool.not_eq_true', Int.not_le, Int.not_lt] at hc0
 obtain rfl : n = 3 := by omega
 have hres : agB miss c.hs w = agr miss c.hs fun _ => true := agr_cong fun i hi => by rw [hw, sptL_3 hc.hs hi]
 have hre2 := topB_eq miss c.hs
 refine sy_exit ?_
 repeat refine sy_tx ?_
 refine sy_bx ?_
 refine sy_seq ?_
 refine sy_tx' [0, 1, 2, 3, 4] rfl ?_
 refine sp rfl (PE.move rfl) rfl ?_
 refine sp rfl (PE.move rfl) rfl ?_
 refine clV rfl cal63 rfl rfl (c_rAgree miss hm c.hs hc.hs hc.many ms hms bo aa cc w hw64 _ _) ?_
 refine sp rfl (PE.not rfl) rfl ?_
 refine sp rfl (PE.assign rfl) rfl ?_
 refine sy_ret ?_
 exact sy_return (vs := [_]) rfl (.cons (RV.tmp rfl) .nil) rfl ⟨by simp only [retV]; rw [hre2, htk, hres]; rfl, rfl, rfl⟩ (fun w h => h.del b2)
end Go.Proofs.YtndhkpnaeocnhaaGreat
namespace Go.Proofs.YtndhkpnaeocnhaaGreat
set_option linter.unusedSimpArgs false
set_option linter.unusedVariables false
open Go
theorem cal61 : cal Tryz.prog 61 = true := by kernel_rfl
theorem cal62 : cal Tryz.prog 62 = true := by kernel_rfl
theorem cal64 : cal Tryz.prog 64 = true := by kernel_rfl
theorem cal65 : cal Tryz.prog 65 = true := by kernel_rfl
theorem cal66 : cal Tryz.prog 66 = true := by kernel_rfl
theorem agrE_err {g : Gat} {c : Crt} {l : List Int} (h : bothE g c ≠ 0) : agrE g c l = bothE g c ∧ agrR g c l = false := by
  have e : agrE g c l = bothE g c := by unfold agrE; rw [decide_eq_true h]; rfl
  exact ⟨e, agrR_no e h⟩
theorem agrE_lst {g : Gat} {c : Crt} {l : List Int} (h : bothE g c = 0) : agrE g c l = lstE c.hs.length l := by
  unfold agrE lstE; rw [decide_eq_false (show ¬ bothE g c ≠ 0 by omega)]; rfl
theorem agrR_ref {g : Gat} {c : Crt} {l : List Int} {s : Nat} (h : agrE g c l = 0) (hs : ∀ j, s.testBit j = flt l j) : agrR g c l = agB g.miss c.hs s := by
  rw [agrR_0 h]; exact (agr_cong fun i _ => hs i).symm
theorem cla_err {g : Gat} {c : Crt} (h : bothE g c ≠ 0) : (claR g c).1 = [] ∧ (claR g c).2 = bothE g c := by
  unfold claR; rw [decide_eq_true h]; exact ⟨rfl, rfl⟩
theorem cla_ref {g : Gat} {c : Crt} (h : bothE g c = 0) : (claR g c).1 = (bif agr g.miss c.hs (fun _ => true) then [] else clashL g.miss c.hs) ∧ (claR g c).2 = (bif !(agr g.miss c.hs fun _ => true) then 0 else 6) := by
  unfold claR
  rw [decide_eq_false (show ¬ bothE g c ≠ 0 by omega)]
  cases agr g.miss c.hs fun _ => true <;> exact ⟨rfl, rfl⟩
theorem cla_len (g : Gat) (c : Crt) : (claR g c).1.length ≤ c.hs.length := by
  by_cases h : bothE g c = 0
  · rw [(cla_ref h).1]
    cases ha : agr g.miss c.hs fun _ => true with
    | true => exact Nat.zero_le _
    | false =>
      obtain ⟨⟨y, e, _, hp, hb, _⟩, _⟩ := clash_first (clash_hit ha)
      show (clashL g.miss c.hs).length ≤ _
      rw [e, List.length_map]
      have := nodup_len (l := y) (l' := List.range c.hs.length) (hp.imp fun h => Nat.ne_of_lt h) (fun j hj => List.mem_range.2 (hb j hj))
      simpa using this
  · rw [(cla_err h).1]; exact Nat.zero_le _
set_option maxHeartbeats 4000000 in
theorem c_GateAgrees (g : Gat) (ag : Option Addr) (cg : Nat) (hlg : g.grs.length ≤ 9223372036854775807) (c : Crt) (ah : Option Addr) (ch : Nat) (hlh : c.hs.length ≤ 9223372036854775807) (l : List Int) (al : Option Addr) (cy : Nat) (hll : l.length ≤ 9223372036854775807) (H : Heap) (R : Facts) [hG : MemRows ag 5 (grows g.grs) R] [hA : MemRows ah 5 (hrows c.hs) R] [hL : MemRows al 1 (irows l) R] :
    Fn Tryz.prog 12 [g.v (g.sl ag cg), c.v (c.sl ah ch), .slice al l.length cy] H R (fun v H' R' => v = .bool true ∧ H' = H ∧ R' = R) := by
 refine fn_of Tryz.func12 rfl Tryz.ntmps12 rfl ?_
 refine sy_seq ?_
 refine sy_tx' [0, 1, 2] rfl ?_
 refine bx rfl rfl rfl (fun b3 => ?_)
 refine bx rfl rfl rfl (fun b4 => ?_)
 refine sp rfl (PE.assign rfl) rfl ?_
 refine sy_seq ?_
 refine sy_seq ?_
 refine sy_tx' [0, 1, 2, 3, 4, 5, 6, 7] rfl ?_
 refine spL rfl rfl (lhA [_, _, _] ag25 rfl rfl rfl) rfl ?_
 refine spL rfl rfl (lhA [_, _, _] ag28 rfl rfl rfl) rfl ?_
 refine clV rfl cal35 rfl rfl (c_grt g ag cg hlg c ah ch hlh _ _) ?_
 refine sp rfl (PE.move rfl) rfl ?_
 refine sy_case (t := 30) rfl (fun g30 => ?_) (fun g30 => ?_)
 repeat refine spN rfl rfl rfl rfl rfl rfl rfl rfl ?_
 refine sp rfl (PE.pick rfl rfl rfl) rfl ?_
 refine sy_condT rfl ?_
 refine sy_seq ?_
 refine sy_tx' [0, 1] rfl ?_
 refine clV rfl cal8 rfl rfl (c_awake _ _) ?_
 refine sp rfl (PE.assign rfl) rfl ?_
 refine sy_ret ?_
 exact sy_return (vs := [_]) rfl (.cons (RV.tmp rfl) .nil) rfl ⟨rfl, rfl, rfl⟩ drp
 have h79 : ¬ 7 < g.grs.length ∧ ¬ 9 < c.hs.length := by simpa using g30
 refine spG rfl rfl rfl rfl (PE.move rfl) rfl ?_
 refine spG rfl rfl rfl rfl (PE.lenSl isl22 rfl) rfl ?_
 refine spG rfl rfl rfl rfl (PE.gtr rfl rfl) rfl ?_
 refine sp rfl (PE.pick rfl rfl rfl) rfl ?_
 refine sy_cond rfl (fun hc0 => ?_) (fun hc0 => ?_)
 try simp only [decide_eq_true_eq, decide_eq_false_iff_not, Bool.and_eq_true, Bool.or_eq_true, Bool.not_eq_true', Int.not_le, Int.not_lt] at hc0
 refine sy_seq ?_
 refine sy_tx' [0, 1] rfl ?_
 refine clV rfl cal8 rfl rfl (c_awake _ _) ?_
 refine sp rfl (PE.assign rfl) rfl ?_
 refine sy_ret ?_
 exact sy_return (vs := [_]) rfl (.cons (RV.tmp rfl) .nil) rfl ⟨rfl, rfl, rfl⟩ drp
 try simp only [decide_eq_true_eq, decide_eq_false_iff_not, Bool.and_eq_true, Bool.or_eq_true, Bool.not_eq_true', Int.not_le, Int.not_lt] at hc0
 refine sy_skip ?_
 refine sy_seq ?_
 refine sy_free [0, 1, 0, 7, 0, 31, 0, 127, 0, 511, 0, 0, 0, 0, 16383, 32767, 65535, 131071, 262143] [0, 1, 2, 3, 4, 5, 6, 7, 8, 9, 10, 11, 12, 13, 14, 15, 16, 17, 18] mixed (by kernel_rfl) rfl (fun s L H1 R1 => ∃ (a1 : Option Addr) (c1 : Nat) (a2 : Option Addr) (c2 : Nat) (a5 : Option Addr) (c5 : Nat) (a3 : Option Addr) (c3 : Nat) (a4 : Option Addr) (c4 : Nat) (b7 : Nat) (x7 : List Value) (b8 : Nat) (x8 : List Value) (b10 : Nat) (x10 : List Value) (b11 : Nat) (x11 : List Value), Sub [(2, .slice al l.length cy), (3, .pointer (some ⟨b3, 0, none⟩)), (4, .pointer (some ⟨b4, 0, none⟩))] L ∧ (∀ f ∈ (R : Facts), f ∈ R1) ∧ (s 0 = true → lk L 36 = some (g.v (g.sl ag cg))) ∧ (s 1 = true → lk L 37 = some (g.v (g.sl a1 c1)) ∧ (RowsA a1 5 (grows g.grs)) ∈ R1) ∧ (s 2 = true → lk L 38 = some (c.v (c.sl ah ch))) ∧ (s 3 = true → lk L 39 = some (c.v (c.sl a2 c2)) ∧ (RowsA a2 5 (hrows c.hs)) ∈ R1) ∧ (s 4 = true → lk L 40 = some (.slice al l.length cy)) ∧ (s 5 = true → lk L 41 = some (.slice a5 l.length c5) ∧ (RowsA a5 1 (irows l)) ∈ R1) ∧ (s 6 = true → lk L 42 = some (g.v (g.sl ag cg))) ∧ (s 7 = true → lk L 43 = some (g.v (g.sl a3 c3)) ∧ (RowsA a3 5 (grows g.grs)) ∈ R1) ∧ (s 8 = true → lk L 44 = some (c.v (c.sl ah ch))) ∧ (s 9 = true → lk L 45 = some (c.v (c.sl a4 c4)) ∧ (RowsA a4 5 (hrows c.hs)) ∈ R1) ∧ (s 10 = true → lk L 7 = some (.pointer (some ⟨b7, 0, none⟩)) ∧ (s 14 = false → x7 = [.int .i64 0, .int .i64 0, .slice none 0 0])) ∧ (s 11 = true → lk L 8 = some (.pointer (some ⟨b8, 0, none⟩)) ∧ (s 15 = false → x8 = [.int .i64 0, .int .i64 0, .slice none 0 0])) ∧ (s 12 = true → lk L 10 = some (.pointer (some ⟨b10, 0, none⟩)) ∧ (s 17 = false → x10 = [.int .i64 0, .int .i64 0, .slice none 0 0])) ∧ (s 13 = true → lk L 11 = some (.pointer (some ⟨b11, 0, none⟩)) ∧ (s 18 = false → x11 = [.int .i64 0, .int .i64 0, .slice none 0 0])) ∧ (s 14 = true → x7 = gtl g (g.sl a1 c1)) ∧ (s 15 = true → x8 = ctl c (c.sl a2 c2)) ∧ (s 16 = true → lk L 9 = some (.slice a5 l.length c5)) ∧ (s 17 = true → x10 = gtl g (g.sl a3 c3)) ∧ (s 18 = true → x11 = ctl c (c.sl a4 c4)) ∧ ∀ w, St H1 R1 w → St ((bif s 13 then [(b11, cel 79 x11)] else []) ++ ((bif s 12 then [(b10, cel 89 x10)] else []) ++ ((bif s 11 then [(b8, cel 28 x8)] else []) ++ ((bif s 10 then [(b7, cel 25 x7)] else []) ++ ((b4, cel 28 (ctl c (c.sl ah ch))) :: (b3, cel 25 (gtl g (g.sl ag cg))) :: H))))) R1 w) ?_ ?_ ?_
 exact ⟨none, 0, none, 0, none, 0, none, 0, none, 0, 0, [], 0, [], 0, [], 0, [], (by repeat' first | exact Sub.nil | apply Sub.cons | rfl | (simp [lk]; omega)), fun _ hf => hf, (fun h => by cases (show false = true from h)), (fun h => by cases (show false = true from h)), (fun h => by cases (show false = true from h)), (fun h => by cases (show false = true from h)), (fun h => by cases (show false = true from h)), (fun h => by cases (show false = true from h)), (fun h => by cases (show false = true from h)), (fun h => by cases (show false = true from h)), (fun h => by cases (show false = true from h)), (fun h => by cases (show false = true from h)), (fun h => by cases (show false = true from h)), (fun h => by cases (show false = true from h)), (fun h => by cases (show false = true from h)), (fun h => by cases (show false = true from h)), (fun h => by cases (show false = true from h)), (fun h => by cases (show false = true from h)), (fun h => by cases (show false = true from h)), (fun h => by cases (show false = true from h)), (fun h => by cases (show false = true from h)), fun w h => h⟩
 refine ⟨?_, ?_, ?_, ?_, ?_, ?_, ?_, ?_, ?_, ?_, ?_, ?_, ?_, ?_, ?_, ?_, ?_, ?_, ?_, trivial⟩
 intro s Lz Hz Rz hdn hs hpre hI K hK
 obtain ⟨a1, c1, a2, c2, a5, c5, a3, c3, a4, c4, b7, x7, b8, x8, b10, x10, b11, x11, hL0, hR0, q0, q1, q2, q3, q4, q5, q6, q7, q8, q9, q10, q11, q12, q13, q14, q15, q16, q17, q18, hH⟩ := hI
 refine Sy.heap hH ?_
 refine spL rfl (Sub.lk hL0 _ _ rfl) ((lhA (gtl g (g.sl ag cg)) ag25 rfl rfl rfl)) rfl ?_
 exact hK _ _ _ ⟨a1, c1, a2, c2, a5, c5, a3, c3, a4, c4, b7, x7, b8, x8, b10, x10, b11, x11, sub_more rfl hL0, hR0, fun _ => lk_same, fun h => ⟨lk_more rfl (q1 h).1, (q1 h).2⟩, fun h => lk_more rfl (q2 h), fun h => ⟨lk_more rfl (q3 h).1, (q3 h).2⟩, fun h => lk_more rfl (q4 h), fun h => ⟨lk_more rfl (q5 h).1, (q5 h).2⟩, fun h => lk_more rfl (q6 h), fun h => ⟨lk_more rfl (q7 h).1, (q7 h).2⟩, fun h => lk_more rfl (q8 h), fun h => ⟨lk_more rfl (q9 h).1, (q9 h).2⟩, fun h => ⟨lk_more rfl (q10 h).1, (q10 h).2⟩, fun h => ⟨lk_more rfl (q11 h).1, (q11 h).2⟩, fun h => ⟨lk_more rfl (q12 h).1, (q12 h).2⟩, fun h => ⟨lk_more rfl (q13 h).1, (q13 h).2⟩, fun h => q14 h, fun h => q15 h, fun h => lk_more rfl (q16 h), fun h => q17 h, fun h => q18 h, fun w h => h⟩
 intro s Lz Hz Rz hdn hs hpre hI K hK
 obtain ⟨a1, c1, a2, c2, a5, c5, a3, c3, a4, c4, b7, x7, b8, x8, b10, x10, b11, x11, hL0, hR0, q0, q1, q2, q3, q4, q5, q6, q7, q8, q9, q10, q11, q12, q13, q14, q15, q16, q17, q18, hH⟩ := hI
 have h0 : s 0 = true := hpre 0 rfl
 refine Sy.heap hH ?_
 haveI m0 : MemRows ag 5 (grows g.grs) Rz := ⟨hR0 _ (inferInstance : MemRows ag 5 (grows g.grs) (R)).mem⟩
 refine cl rfl cal36 rfl (by simp only [evs, show ev Lz (.tmp 36) = _ from (q0 h0)]) (c_Own g ag cg (by omega) _ _) ?_
 rintro _ _ R1 ⟨o, rfl, ho, rfl, hR1⟩
 obtain rfl := hR1.symm
 clear hR1
 obtain ⟨a1, c1, he, hf⟩ := o.freeze
 rw [he]
 refine Sy.heap (H' := _) (fun w h => hf h) ?_
 rw [show (grows g.grs).length = g.grs.length from List.length_map _]
 clear he hf
 exact hK _ _ _ ⟨a1, c1, a2, c2, a5, c5, a3, c3, a4, c4, b7, x7, b8, x8, b10, x10, b11, x11, sub_more rfl hL0, fin_more (hR0), fun h => lk_more rfl (q0 h), fun _ => ⟨lk_same, (by simp)⟩, fun h => lk_more rfl (q2 h), fun h => ⟨lk_more rfl (q3 h).1, List.mem_cons_of_mem _ ((q3 h).2)⟩, fun h => lk_more rfl (q4 h), fun h => ⟨lk_more rfl (q5 h).1, List.mem_cons_of_mem _ ((q5 h).2)⟩, fun h => lk_more rfl (q6 h), fun h => ⟨lk_more rfl (q7 h).1, List.mem_cons_of_mem _ ((q7 h).2)⟩, fun h => lk_more rfl (q8 h), fun h => ⟨lk_more rfl (q9 h).1, List.mem_cons_of_mem _ ((q9 h).2)⟩, fun h => ⟨lk_more rfl (q10 h).1, (q10 h).2⟩, fun h => ⟨lk_more rfl (q11 h).1, (q11 h).2⟩, fun h => ⟨lk_more rfl (q12 h).1, (q12 h).2⟩, fun h => ⟨lk_more rfl (q13 h).1, (q13 h).2⟩, fun h => absurd (hdn 14 1 (Nat.le_of_ble_eq_true rfl) rfl h) (by rw [hs]; exact Bool.false_ne_true), fun h => q15 h, fun h => lk_more rfl (q16 h), fun h => q17 h, fun h => q18 h, fun w h => h⟩
 intro s Lz Hz Rz hdn hs hpre hI K hK
 obtain ⟨a1, c1, a2, c2, a5, c5, a3, c3, a4, c4, b7, x7, b8, x8, b10, x10, b11, x11, hL0, hR0, q0, q1, q2, q3, q4, q5, q6, q7, q8, q9, q10, q11, q12, q13, q14, q15, q16, q17, q18, hH⟩ := hI
 refine Sy.heap hH ?_
 refine spL rfl (Sub.lk hL0 _ _ rfl) ((lhA (ctl c (c.sl ah ch)) ag28 rfl rfl rfl)) rfl ?_
 exact hK _ _ _ ⟨a1, c1, a2, c2, a5, c5, a3, c3, a4, c4, b7, x7, b8, x8, b10, x10, b11, x11, sub_more rfl hL0, hR0, fun h => lk_more rfl (q0 h), fun h => ⟨lk_more rfl (q1 h).1, (q1 h).2⟩, fun _ => lk_same, fun h => ⟨lk_more rfl (q3 h).1, (q3 h).2⟩, fun h => lk_more rfl (q4 h), fun h => ⟨lk_more rfl (q5 h).1, (q5 h).2⟩, fun h => lk_more rfl (q6 h), fun h => ⟨lk_more rfl (q7 h).1, (q7 h).2⟩, fun h => lk_more rfl (q8 h), fun h => ⟨lk_more rfl (q9 h).1, (q9 h).2⟩, fun h => ⟨lk_more rfl (q10 h).1, (q10 h).2⟩, fun h => ⟨lk_more rfl (q11 h).1, (q11 h).2⟩, fun h => ⟨lk_more rfl (q12 h).1, (q12 h).2⟩, fun h => ⟨lk_more rfl (q13 h).1, (q13 h).2⟩, fun h => q14 h, fun h => q15 h, fun h => lk_more rfl (q16 h), fun h => q17 h, fun h => q18 h, fun w h => h⟩
 intro s Lz Hz Rz hdn hs hpre hI K hK
 obtain ⟨a1, c1, a2, c2, a5, c5, a3, c3, a4, c4, b7, x7, b8, x8, b10, x10, b11, x11, hL0, hR0, q0, q1, q2, q3, q4, q5, q6, q7, q8, q9, q10, q11, q12, q13, q14, q15, q16, q17, q18, hH⟩ := hI
 obtain ⟨h0, h1, h2⟩ : s 0 = true ∧ s 1 = true ∧ s 2 = true := ⟨hpre 0 rfl, hpre 1 rfl, hpre 2 rfl⟩
 refine Sy.heap hH ?_
 haveI m0 : MemRows ah 5 (hrows c.hs) Rz := ⟨hR0 _ (inferInstance : MemRows ah 5 (hrows c.hs) (R)).mem⟩
 refine cl rfl cal37 rfl (by simp only [evs, show ev Lz (.tmp 38) = _ from (q2 h2)]) (c_Owned c ah ch (by omega) _ _) ?_
 rintro _ _ R1 ⟨o, rfl, ho, rfl, hR1⟩
 obtain rfl := hR1.symm
 clear hR1
 obtain ⟨a2, c2, he, hf⟩ := o.freeze
 rw [he]
 refine Sy.heap (H' := _) (fun w h => hf h) ?_
 rw [show (hrows c.hs).length = c.hs.length from List.length_map _]
 clear he hf
 exact hK _ _ _ ⟨a1, c1, a2, c2, a5, c5, a3, c3, a4, c4, b7, x7, b8, x8, b10, x10, b11, x11, sub_more rfl hL0, fin_more (hR0), fun h => lk_more rfl (q0 h), fun h => ⟨lk_more rfl (q1 h).1, List.mem_cons_of_mem _ ((q1 h).2)⟩, fun h => lk_more rfl (q2 h), fun _ => ⟨lk_same, (by simp)⟩, fun h => lk_more rfl (q4 h), fun h => ⟨lk_more rfl (q5 h).1, List.mem_cons_of_mem _ ((q5 h).2)⟩, fun h => lk_more rfl (q6 h), fun h => ⟨lk_more rfl (q7 h).1, List.mem_cons_of_mem _ ((q7 h).2)⟩, fun h => lk_more rfl (q8 h), fun h => ⟨lk_more rfl (q9 h).1, List.mem_cons_of_mem _ ((q9 h).2)⟩, fun h => ⟨lk_more rfl (q10 h).1, (q10 h).2⟩, fun h => ⟨lk_more rfl (q11 h).1, (q11 h).2⟩, fun h => ⟨lk_more rfl (q12 h).1, (q12 h).2⟩, fun h => ⟨lk_more rfl (q13 h).1, (q13 h).2⟩, fun h => q14 h, fun h => absurd (hdn 15 3 (Nat.le_of_ble_eq_true rfl) rfl h) (by rw [hs]; exact Bool.false_ne_true), fun h => lk_more rfl (q16 h), fun h => q17 h, fun h => q18 h, fun w h => h⟩
 intro s Lz Hz Rz hdn hs hpre hI K hK
 obtain ⟨a1, c1, a2, c2, a5, c5, a3, c3, a4, c4, b7, x7, b8, x8, b10, x10, b11, x11, hL0, hR0, q0, q1, q2, q3, q4, q5, q6, q7, q8, q9, q10, q11, q12, q13, q14, q15, q16, q17, q18, hH⟩ := hI
 refine Sy.heap hH ?_
 refine sp rfl (PE.move (Sub.lk hL0 _ _ rfl)) rfl ?_
 exact hK _ _ _ ⟨a1, c1, a2, c2, a5, c5, a3, c3, a4, c4, b7, x7, b8, x8, b10, x10, b11, x11, sub_more rfl hL0, hR0, fun h => lk_more rfl (q0 h), fun h => ⟨lk_more rfl (q1 h).1, (q1 h).2⟩, fun h => lk_more rfl (q2 h), fun h => ⟨lk_more rfl (q3 h).1, (q3 h).2⟩, fun _ => lk_same, fun h => ⟨lk_more rfl (q5 h).1, (q5 h).2⟩, fun h => lk_more rfl (q6 h), fun h => ⟨lk_more rfl (q7 h).1, (q7 h).2⟩, fun h => lk_more rfl (q8 h), fun h => ⟨lk_more rfl (q9 h).1, (q9 h).2⟩, fun h => ⟨lk_more rfl (q10 h).1, (q10 h).2⟩, fun h => ⟨lk_more rfl (q11 h).1, (q11 h).2⟩, fun h => ⟨lk_more rfl (q12 h).1, (q12 h).2⟩, fun h => ⟨lk_more rfl (q13 h).1, (q13 h).2⟩, fun h => q14 h, fun h => q15 h, fun h => lk_more rfl (q16 h), fun h => q17 h, fun h => q18 h, fun w h => h⟩
 intro s Lz Hz Rz hdn hs hpre hI K hK
 obtain ⟨a1, c1, a2, c2, a5, c5, a3, c3, a4, c4, b7, x7, b8, x8, b10, x10, b11, x11, hL0, hR0, q0, q1, q2, q3, q4, q5, q6, q7, q8, q9, q10, q11, q12, q13, q14, q15, q16, q17, q18, hH⟩ := hI
 obtain ⟨h0, h1, h2, h3, h4⟩ : s 0 = true ∧ s 1 = true ∧ s 2 = true ∧ s 3 = true ∧ s 4 = true := ⟨hpre 0 rfl, hpre 1 rfl, hpre 2 rfl, hpre 3 rfl, hpre 4 rfl⟩
 refine Sy.heap hH ?_
 haveI m0 : MemRows al 1 (irows l) Rz := ⟨hR0 _ (inferInstance : MemRows al 1 (irows l) (R)).mem⟩
 refine cl rfl cal61 rfl (by simp only [evs, show ev Lz (.tmp 40) = _ from (q4 h4)]) (c_dup_int l al cy (by omega) _ _) ?_
 rintro _ _ R1 ⟨o, rfl, ho, rfl, hR1⟩
 obtain rfl := hR1.symm
 clear hR1
 obtain ⟨a5, c5, he, hf⟩ := o.freeze
 rw [he]
 refine Sy.heap (H' := _) (fun w h => hf h) ?_
 rw [show (irows l).length = l.length from List.length_map _]
 clear he hf
 exact hK _ _ _ ⟨a1, c1, a2, c2, a5, c5, a3, c3, a4, c4, b7, x7, b8, x8, b10, x10, b11, x11, sub_more rfl hL0, fin_more (hR0), fun h => lk_more rfl (q0 h), fun h => ⟨lk_more rfl (q1 h).1, List.mem_cons_of_mem _ ((q1 h).2)⟩, fun h => lk_more rfl (q2 h), fun h => ⟨lk_more rfl (q3 h).1, List.mem_cons_of_mem _ ((q3 h).2)⟩, fun h => lk_more rfl (q4 h), fun _ => ⟨lk_same, (by simp)⟩, fun h => lk_more rfl (q6 h), fun h => ⟨lk_more rfl (q7 h).1, List.mem_cons_of_mem _ ((q7 h).2)⟩, fun h => lk_more rfl (q8 h), fun h => ⟨lk_more rfl (q9 h).1, List.mem_cons_of_mem _ ((q9 h).2)⟩, fun h => ⟨lk_more rfl (q10 h).1, (q10 h).2⟩, fun h => ⟨lk_more rfl (q11 h).1, (q11 h).2⟩, fun h => ⟨lk_more rfl (q12 h).1, (q12 h).2⟩, fun h => ⟨lk_more rfl (q13 h).1, (q13 h).2⟩, fun h => q14 h, fun h => q15 h, fun h => absurd (hdn 16 5 (Nat.le_of_ble_eq_true rfl) rfl h) (by rw [hs]; exact Bool.false_ne_true), fun h => q17 h, fun h => q18 h, fun w h => h⟩
 intro s Lz Hz Rz hdn hs hpre hI K hK
 obtain ⟨a1, c1, a2, c2, a5, c5, a3, c3, a4, c4, b7, x7, b8, x8, b10, x10, b11, x11, hL0, hR0, q0, q1, q2, q3, q4, q5, q6, q7, q8, q9, q10, q11, q12, q13, q14, q15, q16, q17, q18, hH⟩ := hI
 refine Sy.heap hH ?_
 refine spL rfl (Sub.lk hL0 _ _ rfl) ((lhA (gtl g (g.sl ag cg)) ag25 rfl rfl rfl)) rfl ?_
 exact hK _ _ _ ⟨a1, c1, a2, c2, a5, c5, a3, c3, a4, c4, b7, x7, b8, x8, b10, x10, b11, x11, sub_more rfl hL0, hR0, fun h => lk_more rfl (q0 h), fun h => ⟨lk_more rfl (q1 h).1, (q1 h).2⟩, fun h => lk_more rfl (q2 h), fun h => ⟨lk_more rfl (q3 h).1, (q3 h).2⟩, fun h => lk_more rfl (q4 h), fun h => ⟨lk_more rfl (q5 h).1, (q5 h).2⟩, fun _ => lk_same, fun h => ⟨lk_more rfl (q7 h).1, (q7 h).2⟩, fun h => lk_more rfl (q8 h), fun h => ⟨lk_more rfl (q9 h).1, (q9 h).2⟩, fun h => ⟨lk_more rfl (q10 h).1, (q10 h).2⟩, fun h => ⟨lk_more rfl (q11 h).1, (q11 h).2⟩, fun h => ⟨lk_more rfl (q12 h).1, (q12 h).2⟩, fun h => ⟨lk_more rfl (q13 h).1, (q13 h).2⟩, fun h => q14 h, fun h => q15 h, fun h => lk_more rfl (q16 h), fun h => q17 h, fun h => q18 h, fun w h => h⟩
 intro s Lz Hz Rz hdn hs hpre hI K hK
 obtain ⟨a1, c1, a2, c2, a5, c5, a3, c3, a4, c4, b7, x7, b8, x8, b10, x10, b11, x11, hL0, hR0, q0, q1, q2, q3, q4, q5, q6, q7, q8, q9, q10, q11, q12, q13, q14, q15, q16, q17, q18, hH⟩ := hI
 obtain ⟨h0, h1, h2, h3, h4, h5, h6⟩ : s 0 = true ∧ s 1 = true ∧ s 2 = true ∧ s 3 = true ∧ s 4 = true ∧ s 5 = true ∧ s 6 = true := ⟨hpre 0 rfl, hpre 1 rfl, hpre 2 rfl, hpre 3 rfl, hpre 4 rfl, hpre 5 rfl, hpre 6 rfl⟩
 refine Sy.heap hH ?_
 haveI m0 : MemRows ag 5 (grows g.grs) Rz := ⟨hR0 _ (inferInstance : MemRows ag 5 (grows g.grs) (R)).mem⟩
 refine cl rfl cal42 rfl (by simp only [evs, show ev Lz (.tmp 42) = _ from (q6 h6)]) (c_theirs g ag cg (by omega) _ _) ?_
 rintro _ _ R1 ⟨a3, c3, rfl, rfl, hR1⟩
 obtain rfl := hR1.symm
 clear hR1
 exact hK _ _ _ ⟨a1, c1, a2, c2, a5, c5, a3, c3, a4, c4, b7, x7, b8, x8, b10, x10, b11, x11, sub_more rfl hL0, fin_more (hR0), fun h => lk_more rfl (q0 h), fun h => ⟨lk_more rfl (q1 h).1, List.mem_cons_of_mem _ ((q1 h).2)⟩, fun h => lk_more rfl (q2 h), fun h => ⟨lk_more rfl (q3 h).1, List.mem_cons_of_mem _ ((q3 h).2)⟩, fun h => lk_more rfl (q4 h), fun h => ⟨lk_more rfl (q5 h).1, List.mem_cons_of_mem _ ((q5 h).2)⟩, fun h => lk_more rfl (q6 h), fun _ => ⟨lk_same, (by simp)⟩, fun h => lk_more rfl (q8 h), fun h => ⟨lk_more rfl (q9 h).1, List.mem_cons_of_mem _ ((q9 h).2)⟩, fun h => ⟨lk_more rfl (q10 h).1, (q10 h).2⟩, fun h => ⟨lk_more rfl (q11 h).1, (q11 h).2⟩, fun h => ⟨lk_more rfl (q12 h).1, (q12 h).2⟩, fun h => ⟨lk_more rfl (q13 h).1, (q13 h).2⟩, fun h => q14 h, fun h => q15 h, fun h => lk_more rfl (q16 h), fun h => absurd (hdn 17 7 (Nat.le_of_ble_eq_true rfl) rfl h) (by rw [hs]; exact Bool.false_ne_true), fun h => q18 h, fun w h => h⟩
 intro s Lz Hz Rz hdn hs hpre hI K hK
 obtain ⟨a1, c1, a2, c2, a5, c5, a3, c3, a4, c4, b7, x7, b8, x8, b10, x10, b11, x11, hL0, hR0, q0, q1, q2, q3, q4, q5, q6, q7, q8, q9, q10, q11, q12, q13, q14, q15, q16, q17, q18, hH⟩ := hI
 refine Sy.heap hH ?_
 refine spL rfl (Sub.lk hL0 _ _ rfl) ((lhA (ctl c (c.sl ah ch)) ag28 rfl rfl rfl)) rfl ?_
 exact hK _ _ _ ⟨a1, c1, a2, c2, a5, c5, a3, c3, a4, c4, b7, x7, b8, x8, b10, x10, b11, x11, sub_more rfl hL0, hR0, fun h => lk_more rfl (q0 h), fun h => ⟨lk_more rfl (q1 h).1, (q1 h).2⟩, fun h => lk_more rfl (q2 h), fun h => ⟨lk_more rfl (q3 h).1, (q3 h).2⟩, fun h => lk_more rfl (q4 h), fun h => ⟨lk_more rfl (q5 h).1, (q5 h).2⟩, fun h => lk_more rfl (q6 h), fun h => ⟨lk_more rfl (q7 h).1, (q7 h).2⟩, fun _ => lk_same, fun h => ⟨lk_more rfl (q9 h).1, (q9 h).2⟩, fun h => ⟨lk_more rfl (q10 h).1, (q10 h).2⟩, fun h => ⟨lk_more rfl (q11 h).1, (q11 h).2⟩, fun h => ⟨lk_more rfl (q12 h).1, (q12 h).2⟩, fun h => ⟨lk_more rfl (q13 h).1, (q13 h).2⟩, fun h => q14 h, fun h => q15 h, fun h => lk_more rfl (q16 h), fun h => q17 h, fun h => q18 h, fun w h => h⟩
 intro s Lz Hz Rz hdn hs hpre hI K hK
 obtain ⟨a1, c1, a2, c2, a5, c5, a3, c3, a4, c4, b7, x7, b8, x8, b10, x10, b11, x11, hL0, hR0, q0, q1, q2, q3, q4, q5, q6, q7, q8, q9, q10, q11, q12, q13, q14, q15, q16, q17, q18, hH⟩ := hI
 obtain ⟨h0, h1, h2, h3, h4, h5, h6, h7, h8⟩ : s 0 = true ∧ s 1 = true ∧ s 2 = true ∧ s 3 = true ∧ s 4 = true ∧ s 5 = true ∧ s 6 = true ∧ s 7 = true ∧ s 8 = true := ⟨hpre 0 rfl, hpre 1 rfl, hpre 2 rfl, hpre 3 rfl, hpre 4 rfl, hpre 5 rfl, hpre 6 rfl, hpre 7 rfl, hpre 8 rfl⟩
 refine Sy.heap hH ?_
 haveI m0 : MemRows ah 5 (hrows c.hs) Rz := ⟨hR0 _ (inferInstance : MemRows ah 5 (hrows c.hs) (R)).mem⟩
 refine cl rfl cal39 rfl (by simp only [evs, show ev Lz (.tmp 44) = _ from (q8 h8)]) (c_come c ah ch (by omega) _ _) ?_
 rintro _ _ R1 ⟨a4, c4, rfl, rfl, hR1⟩
 obtain rfl := hR1.symm
 clear hR1
 exact hK _ _ _ ⟨a1, c1, a2, c2, a5, c5, a3, c3, a4, c4, b7, x7, b8, x8, b10, x10, b11, x11, sub_more rfl hL0, fin_more (hR0), fun h => lk_more rfl (q0 h), fun h => ⟨lk_more rfl (q1 h).1, List.mem_cons_of_mem _ ((q1 h).2)⟩, fun h => lk_more rfl (q2 h), fun h => ⟨lk_more rfl (q3 h).1, List.mem_cons_of_mem _ ((q3 h).2)⟩, fun h => lk_more rfl (q4 h), fun h => ⟨lk_more rfl (q5 h).1, List.mem_cons_of_mem _ ((q5 h).2)⟩, fun h => lk_more rfl (q6 h), fun h => ⟨lk_more rfl (q7 h).1, List.mem_cons_of_mem _ ((q7 h).2)⟩, fun h => lk_more rfl (q8 h), fun _ => ⟨lk_same, (by simp)⟩, fun h => ⟨lk_more rfl (q10 h).1, (q10 h).2⟩, fun h => ⟨lk_more rfl (q11 h).1, (q11 h).2⟩, fun h => ⟨lk_more rfl (q12 h).1, (q12 h).2⟩, fun h => ⟨lk_more rfl (q13 h).1, (q13 h).2⟩, fun h => q14 h, fun h => q15 h, fun h => lk_more rfl (q16 h), fun h => q17 h, fun h => absurd (hdn 18 9 (Nat.le_of_ble_eq_true rfl) rfl h) (by rw [hs]; exact Bool.false_ne_true), fun w h => h⟩
 intro s Lz Hz Rz hdn hs hpre hI K hK
 obtain ⟨a1, c1, a2, c2, a5, c5, a3, c3, a4, c4, b7, x7, b8, x8, b10, x10, b11, x11, hL0, hR0, q0, q1, q2, q3, q4, q5, q6, q7, q8, q9, q10, q11, q12, q13, q14, q15, q16, q17, q18, hH⟩ := hI
 refine Sy.heap hH ?_
 refine alc rfl zl25 rfl (fun b7 => ?_)
 exact hK _ _ _ ⟨a1, c1, a2, c2, a5, c5, a3, c3, a4, c4, b7, [.int .i64 0, .int .i64 0, .slice none 0 0], b8, x8, b10, x10, b11, x11, sub_more rfl hL0, hR0, fun h => lk_more rfl (q0 h), fun h => ⟨lk_more rfl (q1 h).1, (q1 h).2⟩, fun h => lk_more rfl (q2 h), fun h => ⟨lk_more rfl (q3 h).1, (q3 h).2⟩, fun h => lk_more rfl (q4 h), fun h => ⟨lk_more rfl (q5 h).1, (q5 h).2⟩, fun h => lk_more rfl (q6 h), fun h => ⟨lk_more rfl (q7 h).1, (q7 h).2⟩, fun h => lk_more rfl (q8 h), fun h => ⟨lk_more rfl (q9 h).1, (q9 h).2⟩, fun _ => ⟨lk_same, fun _ => rfl⟩, fun h => ⟨lk_more rfl (q11 h).1, (q11 h).2⟩, fun h => ⟨lk_more rfl (q12 h).1, (q12 h).2⟩, fun h => ⟨lk_more rfl (q13 h).1, (q13 h).2⟩, fun h => absurd (hdn 14 10 (Nat.le_of_ble_eq_true rfl) rfl h) (by rw [hs]; exact Bool.false_ne_true), fun h => q15 h, fun h => lk_more rfl (q16 h), fun h => q17 h, fun h => q18 h, fun w h => by rw [hs] at h; exact h.perm (List.perm_middle.symm.trans (List.Perm.append_left _ (List.perm_middle.symm.trans (List.Perm.append_left _ (List.perm_middle.symm.trans (List.Perm.append_left _ (.refl _)))))))⟩
 intro s Lz Hz Rz hdn hs hpre hI K hK
 obtain ⟨a1, c1, a2, c2, a5, c5, a3, c3, a4, c4, b7, x7, b8, x8, b10, x10, b11, x11, hL0, hR0, q0, q1, q2, q3, q4, q5, q6, q7, q8, q9, q10, q11, q12, q13, q14, q15, q16, q17, q18, hH⟩ := hI
 refine Sy.heap hH ?_
 refine alc rfl zl28 rfl (fun b8 => ?_)
 exact hK _ _ _ ⟨a1, c1, a2, c2, a5, c5, a3, c3, a4, c4, b7, x7, b8, [.int .i64 0, .int .i64 0, .slice none 0 0], b10, x10, b11, x11, sub_more rfl hL0, hR0, fun h => lk_more rfl (q0 h), fun h => ⟨lk_more rfl (q1 h).1, (q1 h).2⟩, fun h => lk_more rfl (q2 h), fun h => ⟨lk_more rfl (q3 h).1, (q3 h).2⟩, fun h => lk_more rfl (q4 h), fun h => ⟨lk_more rfl (q5 h).1, (q5 h).2⟩, fun h => lk_more rfl (q6 h), fun h => ⟨lk_more rfl (q7 h).1, (q7 h).2⟩, fun h => lk_more rfl (q8 h), fun h => ⟨lk_more rfl (q9 h).1, (q9 h).2⟩, fun h => ⟨lk_more rfl (q10 h).1, (q10 h).2⟩, fun _ => ⟨lk_same, fun _ => rfl⟩, fun h => ⟨lk_more rfl (q12 h).1, (q12 h).2⟩, fun h => ⟨lk_more rfl (q13 h).1, (q13 h).2⟩, fun h => q14 h, fun h => absurd (hdn 15 11 (Nat.le_of_ble_eq_true rfl) rfl h) (by rw [hs]; exact Bool.false_ne_true), fun h => lk_more rfl (q16 h), fun h => q17 h, fun h => q18 h, fun w h => by rw [hs] at h; exact h.perm (List.perm_middle.symm.trans (List.Perm.append_left _ (List.perm_middle.symm.trans (List.Perm.append_left _ (.refl _)))))⟩
 intro s Lz Hz Rz hdn hs hpre hI K hK
 obtain ⟨a1, c1, a2, c2, a5, c5, a3, c3, a4, c4, b7, x7, b8, x8, b10, x10, b11, x11, hL0, hR0, q0, q1, q2, q3, q4, q5, q6, q7, q8, q9, q10, q11, q12, q13, q14, q15, q16, q17, q18, hH⟩ := hI
 refine Sy.heap hH ?_
 refine alc rfl zl89 rfl (fun b10 => ?_)
 exact hK _ _ _ ⟨a1, c1, a2, c2, a5, c5, a3, c3, a4, c4, b7, x7, b8, x8, b10, [.int .i64 0, .int .i64 0, .slice none 0 0], b11, x11, sub_more rfl hL0, hR0, fun h => lk_more rfl (q0 h), fun h => ⟨lk_more rfl (q1 h).1, (q1 h).2⟩, fun h => lk_more rfl (q2 h), fun h => ⟨lk_more rfl (q3 h).1, (q3 h).2⟩, fun h => lk_more rfl (q4 h), fun h => ⟨lk_more rfl (q5 h).1, (q5 h).2⟩, fun h => lk_more rfl (q6 h), fun h => ⟨lk_more rfl (q7 h).1, (q7 h).2⟩, fun h => lk_more rfl (q8 h), fun h => ⟨lk_more rfl (q9 h).1, (q9 h).2⟩, fun h => ⟨lk_more rfl (q10 h).1, (q10 h).2⟩, fun h => ⟨lk_more rfl (q11 h).1, (q11 h).2⟩, fun _ => ⟨lk_same, fun _ => rfl⟩, fun h => ⟨lk_more rfl (q13 h).1, (q13 h).2⟩, fun h => q14 h, fun h => q15 h, fun h => lk_more rfl (q16 h), fun h => absurd (hdn 17 12 (Nat.le_of_ble_eq_true rfl) rfl h) (by rw [hs]; exact Bool.false_ne_true), fun h => q18 h, fun w h => by rw [hs] at h; exact h.perm (List.perm_middle.symm.trans (List.Perm.append_left _ (.refl _)))⟩
 intro s Lz Hz Rz hdn hs hpre hI K hK
 obtain ⟨a1, c1, a2, c2, a5, c5, a3, c3, a4, c4, b7, x7, b8, x8, b10, x10, b11, x11, hL0, hR0, q0, q1, q2, q3, q4, q5, q6, q7, q8, q9, q10, q11, q12, q13, q14, q15, q16, q17, q18, hH⟩ := hI
 refine Sy.heap hH ?_
 refine alc rfl zl79 rfl (fun b11 => ?_)
 exact hK _ _ _ ⟨a1, c1, a2, c2, a5, c5, a3, c3, a4, c4, b7, x7, b8, x8, b10, x10, b11, [.int .i64 0, .int .i64 0, .slice none 0 0], sub_more rfl hL0, hR0, fun h => lk_more rfl (q0 h), fun h => ⟨lk_more rfl (q1 h).1, (q1 h).2⟩, fun h => lk_more rfl (q2 h), fun h => ⟨lk_more rfl (q3 h).1, (q3 h).2⟩, fun h => lk_more rfl (q4 h), fun h => ⟨lk_more rfl (q5 h).1, (q5 h).2⟩, fun h => lk_more rfl (q6 h), fun h => ⟨lk_more rfl (q7 h).1, (q7 h).2⟩, fun h => lk_more rfl (q8 h), fun h => ⟨lk_more rfl (q9 h).1, (q9 h).2⟩, fun h => ⟨lk_more rfl (q10 h).1, (q10 h).2⟩, fun h => ⟨lk_more rfl (q11 h).1, (q11 h).2⟩, fun h => ⟨lk_more rfl (q12 h).1, (q12 h).2⟩, fun _ => ⟨lk_same, fun _ => rfl⟩, fun h => q14 h, fun h => q15 h, fun h => lk_more rfl (q16 h), fun h => q17 h, fun h => absurd (hdn 18 13 (Nat.le_of_ble_eq_true rfl) rfl h) (by rw [hs]; exact Bool.false_ne_true), fun w h => by rw [hs] at h; exact h.perm (.refl _)⟩
 intro s Lz Hz Rz hdn hs hpre hI K hK
 obtain ⟨a1, c1, a2, c2, a5, c5, a3, c3, a4, c4, b7, x7, b8, x8, b10, x10, b11, x11, hL0, hR0, q0, q1, q2, q3, q4, q5, q6, q7, q8, q9, q10, q11, q12, q13, q14, q15, q16, q17, q18, hH⟩ := hI
 obtain ⟨h0, h1, h2, h3, h4, h5, h6, h7, h8, h9, h10, h11, h12, h13⟩ : s 0 = true ∧ s 1 = true ∧ s 2 = true ∧ s 3 = true ∧ s 4 = true ∧ s 5 = true ∧ s 6 = true ∧ s 7 = true ∧ s 8 = true ∧ s 9 = true ∧ s 10 = true ∧ s 11 = true ∧ s 12 = true ∧ s 13 = true := ⟨hpre 0 rfl, hpre 1 rfl, hpre 2 rfl, hpre 3 rfl, hpre 4 rfl, hpre 5 rfl, hpre 6 rfl, hpre 7 rfl, hpre 8 rfl, hpre 9 rfl, hpre 10 rfl, hpre 11 rfl, hpre 12 rfl, hpre 13 rfl⟩
 refine Sy.heap hH ?_
 obtain rfl := (q10 h10).2 hs
 refine Sy.heap (H' := (bif s 13 then [(b11, cel 79 x11)] else []) ++ ((bif s 12 then [(b10, cel 89 x10)] else []) ++ ((bif s 11 then [(b8, cel 28 x8)] else []) ++ ((b7, cel 25 [.int .i64 0, .int .i64 0, .slice none 0 0]) :: ((b4, cel 28 (ctl c (c.sl ah ch))) :: (b3, cel 25 (gtl g (g.sl ag cg))) :: H))))) (fun w h => by rw [h10] at h; exact h) ?_
 refine stoE (l' := gtl g (g.sl a1 c1)) rfl (q10 h10).1 (q1 h1).1 cn25 rfl rfl rfl rfl (Nat.le_refl _) ?_
 exact hK _ _ _ ⟨a1, c1, a2, c2, a5, c5, a3, c3, a4, c4, b7, gtl g (g.sl a1 c1), b8, x8, b10, x10, b11, x11, hL0, hR0, fun h => (q0 h), fun h => ⟨(q1 h).1, (q1 h).2⟩, fun h => (q2 h), fun h => ⟨(q3 h).1, (q3 h).2⟩, fun h => (q4 h), fun h => ⟨(q5 h).1, (q5 h).2⟩, fun h => (q6 h), fun h => ⟨(q7 h).1, (q7 h).2⟩, fun h => (q8 h), fun h => ⟨(q9 h).1, (q9 h).2⟩, fun h => ⟨(q10 h).1, fun h => by cases (show true = false from h)⟩, fun h => ⟨(q11 h).1, (q11 h).2⟩, fun h => ⟨(q12 h).1, (q12 h).2⟩, fun h => ⟨(q13 h).1, (q13 h).2⟩, fun _ => rfl, fun h => q15 h, fun h => (q16 h), fun h => q17 h, fun h => q18 h, fun w h => by show St ((bif s 13 then [(b11, cel 79 x11)] else []) ++ ((bif s 12 then [(b10, cel 89 x10)] else []) ++ ((bif s 11 then [(b8, cel 28 x8)] else []) ++ ((bif s 10 then [(b7, cel 25 (gtl g (g.sl a1 c1)))] else []) ++ ((b4, cel 28 (ctl c (c.sl ah ch))) :: (b3, cel 25 (gtl g (g.sl ag cg))) :: H))))) Rz w; rw [h10]; exact h⟩
 intro s Lz Hz Rz hdn hs hpre hI K hK
 obtain ⟨a1, c1, a2, c2, a5, c5, a3, c3, a4, c4, b7, x7, b8, x8, b10, x10, b11, x11, hL0, hR0, q0, q1, q2, q3, q4, q5, q6, q7, q8, q9, q10, q11, q12, q13, q14, q15, q16, q17, q18, hH⟩ := hI
 obtain ⟨h0, h1, h2, h3, h4, h5, h6, h7, h8, h9, h10, h11, h12, h13, h14⟩ : s 0 = true ∧ s 1 = true ∧ s 2 = true ∧ s 3 = true ∧ s 4 = true ∧ s 5 = true ∧ s 6 = true ∧ s 7 = true ∧ s 8 = true ∧ s 9 = true ∧ s 10 = true ∧ s 11 = true ∧ s 12 = true ∧ s 13 = true ∧ s 14 = true := ⟨hpre 0 rfl, hpre 1 rfl, hpre 2 rfl, hpre 3 rfl, hpre 4 rfl, hpre 5 rfl, hpre 6 rfl, hpre 7 rfl, hpre 8 rfl, hpre 9 rfl, hpre 10 rfl, hpre 11 rfl, hpre 12 rfl, hpre 13 rfl, hpre 14 rfl⟩
 refine Sy.heap hH ?_
 obtain rfl := (q11 h11).2 hs
 refine Sy.heap (H' := (bif s 13 then [(b11, cel 79 x11)] else []) ++ ((bif s 12 then [(b10, cel 89 x10)] else []) ++ ((b8, cel 28 [.int .i64 0, .int .i64 0, .slice none 0 0]) :: ((bif s 10 then [(b7, cel 25 x7)] else []) ++ ((b4, cel 28 (ctl c (c.sl ah ch))) :: (b3, cel 25 (gtl g (g.sl ag cg))) :: H))))) (fun w h => by rw [h11] at h; exact h) ?_
 refine stoE (l' := ctl c (c.sl a2 c2)) rfl (q11 h11).1 (q3 h3).1 cn28 rfl rfl rfl rfl (Nat.le_refl _) ?_
 exact hK _ _ _ ⟨a1, c1, a2, c2, a5, c5, a3, c3, a4, c4, b7, x7, b8, ctl c (c.sl a2 c2), b10, x10, b11, x11, hL0, hR0, fun h => (q0 h), fun h => ⟨(q1 h).1, (q1 h).2⟩, fun h => (q2 h), fun h => ⟨(q3 h).1, (q3 h).2⟩, fun h => (q4 h), fun h => ⟨(q5 h).1, (q5 h).2⟩, fun h => (q6 h), fun h => ⟨(q7 h).1, (q7 h).2⟩, fun h => (q8 h), fun h => ⟨(q9 h).1, (q9 h).2⟩, fun h => ⟨(q10 h).1, (q10 h).2⟩, fun h => ⟨(q11 h).1, fun h => by cases (show true = false from h)⟩, fun h => ⟨(q12 h).1, (q12 h).2⟩, fun h => ⟨(q13 h).1, (q13 h).2⟩, fun h => q14 h, fun _ => rfl, fun h => (q16 h), fun h => q17 h, fun h => q18 h, fun w h => by show St ((bif s 13 then [(b11, cel 79 x11)] else []) ++ ((bif s 12 then [(b10, cel 89 x10)] else []) ++ ((bif s 11 then [(b8, cel 28 (ctl c (c.sl a2 c2)))] else []) ++ ((bif s 10 then [(b7, cel 25 x7)] else []) ++ ((b4, cel 28 (ctl c (c.sl ah ch))) :: (b3, cel 25 (gtl g (g.sl ag cg))) :: H))))) Rz w; rw [h11]; exact h⟩
 intro s Lz Hz Rz hdn hs hpre hI K hK
 obtain ⟨a1, c1, a2, c2, a5, c5, a3, c3, a4, c4, b7, x7, b8, x8, b10, x10, b11, x11, hL0, hR0, q0, q1, q2, q3, q4, q5, q6, q7, q8, q9, q10, q11, q12, q13, q14, q15, q16, q17, q18, hH⟩ := hI
 obtain ⟨h0, h1, h2, h3, h4, h5, h6, h7, h8, h9, h10, h11, h12, h13, h14, h15⟩ : s 0 = true ∧ s 1 = true ∧ s 2 = true ∧ s 3 = true ∧ s 4 = true ∧ s 5 = true ∧ s 6 = true ∧ s 7 = true ∧ s 8 = true ∧ s 9 = true ∧ s 10 = true ∧ s 11 = true ∧ s 12 = true ∧ s 13 = true ∧ s 14 = true ∧ s 15 = true := ⟨hpre 0 rfl, hpre 1 rfl, hpre 2 rfl, hpre 3 rfl, hpre 4 rfl, hpre 5 rfl, hpre 6 rfl, hpre 7 rfl, hpre 8 rfl, hpre 9 rfl, hpre 10 rfl, hpre 11 rfl, hpre 12 rfl, hpre 13 rfl, hpre 14 rfl, hpre 15 rfl⟩
 refine Sy.heap hH ?_
 refine sp rfl (PE.assign (q5 h5).1) rfl ?_
 exact hK _ _ _ ⟨a1, c1, a2, c2, a5, c5, a3, c3, a4, c4, b7, x7, b8, x8, b10, x10, b11, x11, sub_more rfl hL0, hR0, fun h => lk_more rfl (q0 h), fun h => ⟨lk_more rfl (q1 h).1, (q1 h).2⟩, fun h => lk_more rfl (q2 h), fun h => ⟨lk_more rfl (q3 h).1, (q3 h).2⟩, fun h => lk_more rfl (q4 h), fun h => ⟨lk_more rfl (q5 h).1, (q5 h).2⟩, fun h => lk_more rfl (q6 h), fun h => ⟨lk_more rfl (q7 h).1, (q7 h).2⟩, fun h => lk_more rfl (q8 h), fun h => ⟨lk_more rfl (q9 h).1, (q9 h).2⟩, fun h => ⟨lk_more rfl (q10 h).1, (q10 h).2⟩, fun h => ⟨lk_more rfl (q11 h).1, (q11 h).2⟩, fun h => ⟨lk_more rfl (q12 h).1, (q12 h).2⟩, fun h => ⟨lk_more rfl (q13 h).1, (q13 h).2⟩, fun h => q14 h, fun h => q15 h, fun _ => lk_same, fun h => q17 h, fun h => q18 h, fun w h => h⟩
 intro s Lz Hz Rz hdn hs hpre hI K hK
 obtain ⟨a1, c1, a2, c2, a5, c5, a3, c3, a4, c4, b7, x7, b8, x8, b10, x10, b11, x11, hL0, hR0, q0, q1, q2, q3, q4, q5, q6, q7, q8, q9, q10, q11, q12, q13, q14, q15, q16, q17, q18, hH⟩ := hI
 obtain ⟨h0, h1, h2, h3, h4, h5, h6, h7, h8, h9, h10, h11, h12, h13, h14, h15, h16⟩ : s 0 = true ∧ s 1 = true ∧ s 2 = true ∧ s 3 = true ∧ s 4 = true ∧ s 5 = true ∧ s 6 = true ∧ s 7 = true ∧ s 8 = true ∧ s 9 = true ∧ s 10 = true ∧ s 11 = true ∧ s 12 = true ∧ s 13 = true ∧ s 14 = true ∧ s 15 = true ∧ s 16 = true := ⟨hpre 0 rfl, hpre 1 rfl, hpre 2 rfl, hpre 3 rfl, hpre 4 rfl, hpre 5 rfl, hpre 6 rfl, hpre 7 rfl, hpre 8 rfl, hpre 9 rfl, hpre 10 rfl, hpre 11 rfl, hpre 12 rfl, hpre 13 rfl, hpre 14 rfl, hpre 15 rfl, hpre 16 rfl⟩
 refine Sy.heap hH ?_
 obtain rfl := (q12 h12).2 hs
 refine Sy.heap (H' := (bif s 13 then [(b11, cel 79 x11)] else []) ++ ((b10, cel 89 [.int .i64 0, .int .i64 0, .slice none 0 0]) :: ((bif s 11 then [(b8, cel 28 x8)] else []) ++ ((bif s 10 then [(b7, cel 25 x7)] else []) ++ ((b4, cel 28 (ctl c (c.sl ah ch))) :: (b3, cel 25 (gtl g (g.sl ag cg))) :: H))))) (fun w h => by rw [h12] at h; exact h) ?_
 refine stoE (l' := gtl g (g.sl a3 c3)) rfl (q12 h12).1 (q7 h7).1 cn89 rfl rfl rfl rfl (Nat.le_refl _) ?_
 exact hK _ _ _ ⟨a1, c1, a2, c2, a5, c5, a3, c3, a4, c4, b7, x7, b8, x8, b10, gtl g (g.sl a3 c3), b11, x11, hL0, hR0, fun h => (q0 h), fun h => ⟨(q1 h).1, (q1 h).2⟩, fun h => (q2 h), fun h => ⟨(q3 h).1, (q3 h).2⟩, fun h => (q4 h), fun h => ⟨(q5 h).1, (q5 h).2⟩, fun h => (q6 h), fun h => ⟨(q7 h).1, (q7 h).2⟩, fun h => (q8 h), fun h => ⟨(q9 h).1, (q9 h).2⟩, fun h => ⟨(q10 h).1, (q10 h).2⟩, fun h => ⟨(q11 h).1, (q11 h).2⟩, fun h => ⟨(q12 h).1, fun h => by cases (show true = false from h)⟩, fun h => ⟨(q13 h).1, (q13 h).2⟩, fun h => q14 h, fun h => q15 h, fun h => (q16 h), fun _ => rfl, fun h => q18 h, fun w h => by show St ((bif s 13 then [(b11, cel 79 x11)] else []) ++ ((bif s 12 then [(b10, cel 89 (gtl g (g.sl a3 c3)))] else []) ++ ((bif s 11 then [(b8, cel 28 x8)] else []) ++ ((bif s 10 then [(b7, cel 25 x7)] else []) ++ ((b4, cel 28 (ctl c (c.sl ah ch))) :: (b3, cel 25 (gtl g (g.sl ag cg))) :: H))))) Rz w; rw [h12]; exact h⟩
 intro s Lz Hz Rz hdn hs hpre hI K hK
 obtain ⟨a1, c1, a2, c2, a5, c5, a3, c3, a4, c4, b7, x7, b8, x8, b10, x10, b11, x11, hL0, hR0, q0, q1, q2, q3, q4, q5, q6, q7, q8, q9, q10, q11, q12, q13, q14, q15, q16, q17, q18, hH⟩ := hI
 obtain ⟨h0, h1, h2, h3, h4, h5, h6, h7, h8, h9, h10, h11, h12, h13, h14, h15, h16, h17⟩ : s 0 = true ∧ s 1 = true ∧ s 2 = true ∧ s 3 = true ∧ s 4 = true ∧ s 5 = true ∧ s 6 = true ∧ s 7 = true ∧ s 8 = true ∧ s 9 = true ∧ s 10 = true ∧ s 11 = true ∧ s 12 = true ∧ s 13 = true ∧ s 14 = true ∧ s 15 = true ∧ s 16 = true ∧ s 17 = true := ⟨hpre 0 rfl, hpre 1 rfl, hpre 2 rfl, hpre 3 rfl, hpre 4 rfl, hpre 5 rfl, hpre 6 rfl, hpre 7 rfl, hpre 8 rfl, hpre 9 rfl, hpre 10 rfl, hpre 11 rfl, hpre 12 rfl, hpre 13 rfl, hpre 14 rfl, hpre 15 rfl, hpre 16 rfl, hpre 17 rfl⟩
 refine Sy.heap hH ?_
 obtain rfl := (q13 h13).2 hs
 refine Sy.heap (H' := (b11, cel 79 [.int .i64 0, .int .i64 0, .slice none 0 0]) :: ((bif s 12 then [(b10, cel 89 x10)] else []) ++ ((bif s 11 then [(b8, cel 28 x8)] else []) ++ ((bif s 10 then [(b7, cel 25 x7)] else []) ++ ((b4, cel 28 (ctl c (c.sl ah ch))) :: (b3, cel 25 (gtl g (g.sl ag cg))) :: H))))) (fun w h => by rw [h13] at h; exact h) ?_
 refine stoE (l' := ctl c (c.sl a4 c4)) rfl (q13 h13).1 (q9 h9).1 cn79 rfl rfl rfl rfl (Nat.le_refl _) ?_
 exact hK _ _ _ ⟨a1, c1, a2, c2, a5, c5, a3, c3, a4, c4, b7, x7, b8, x8, b10, x10, b11, ctl c (c.sl a4 c4), hL0, hR0, fun h => (q0 h), fun h => ⟨(q1 h).1, (q1 h).2⟩, fun h => (q2 h), fun h => ⟨(q3 h).1, (q3 h).2⟩, fun h => (q4 h), fun h => ⟨(q5 h).1, (q5 h).2⟩, fun h => (q6 h), fun h => ⟨(q7 h).1, (q7 h).2⟩, fun h => (q8 h), fun h => ⟨(q9 h).1, (q9 h).2⟩, fun h => ⟨(q10 h).1, (q10 h).2⟩, fun h => ⟨(q11 h).1, (q11 h).2⟩, fun h => ⟨(q12 h).1, (q12 h).2⟩, fun h => ⟨(q13 h).1, fun h => by cases (show true = false from h)⟩, fun h => q14 h, fun h => q15 h, fun h => (q16 h), fun h => q17 h, fun _ => rfl, fun w h => by show St ((bif s 13 then [(b11, cel 79 (ctl c (c.sl a4 c4)))] else []) ++ ((bif s 12 then [(b10, cel 89 x10)] else []) ++ ((bif s 11 then [(b8, cel 28 x8)] else []) ++ ((bif s 10 then [(b7, cel 25 x7)] else []) ++ ((b4, cel 28 (ctl c (c.sl ah ch))) :: (b3, cel 25 (gtl g (g.sl ag cg))) :: H))))) Rz w; rw [h13]; exact h⟩
 intro Lz Hz Rz hI
 obtain ⟨a1, c1, a2, c2, a5, c5, a3, c3, a4, c4, b7, x7, b8, x8, b10, x10, b11, x11, hL0, hR0, q0, q1, q2, q3, q4, q5, q6, q7, q8, q9, q10, q11, q12, q13, q14, q15, q16, q17, q18, hH⟩ := hI
 obtain rfl := q18 rfl
 obtain rfl := q17 rfl
 obtain rfl := q15 rfl
 obtain rfl := q14 rfl
 refine Sy.weak (L' := [(11, .pointer (some ⟨b11, 0, none⟩)), (10, .pointer (some ⟨b10, 0, none⟩)), (8, .pointer (some ⟨b8, 0, none⟩)), (7, .pointer (some ⟨b7, 0, none⟩)), (9, .slice a5 l.length c5), (2, .slice al l.length cy), (3, .pointer (some ⟨b3, 0, none⟩)), (4, .pointer (some ⟨b4, 0, none⟩))]) (H' := (b11, cel 79 (ctl c (c.sl a4 c4))) :: (b10, cel 89 (gtl g (g.sl a3 c3))) :: (b8, cel 28 (ctl c (c.sl a2 c2))) :: (b7, cel 25 (gtl g (g.sl a1 c1))) :: (b4, cel 28 (ctl c (c.sl ah ch))) :: (b3, cel 25 (gtl g (g.sl ag cg))) :: H) (R' := RowsA a4 5 (hrows c.hs) :: RowsA a3 5 (grows g.grs) :: RowsA a5 1 (irows l) :: RowsA a2 5 (hrows c.hs) :: RowsA a1 5 (grows g.grs) :: R) ?_ (Sub.cons (q13 rfl).1 (Sub.cons (q12 rfl).1 (Sub.cons (q11 rfl).1 (Sub.cons (q10 rfl).1 (Sub.cons (q16 rfl) hL0))))).lk (fun w h => St.facts (hH w h) (fin_cons (q9 rfl).2 (fin_cons (q7 rfl).2 (fin_cons (q5 rfl).2 (fin_cons (q3 rfl).2 (fin_cons (q1 rfl).2 hR0))))))
 refine sy_seq ?_
 refine sy_tx' [0, 1, 2, 3] rfl ?_
 refine spL rfl rfl (lhA [_, _, _] ag89 rfl rfl rfl) rfl ?_
 refine spL rfl rfl (lhA [_, _, _] ag79 rfl rfl rfl) rfl ?_
 refine clV rfl cal47 rfl rfl (c_rBoth g a3 c3 (by omega) c a4 c4 (by omega) _ _) ?_
 refine sp rfl (PE.assign rfl) rfl ?_
 refine sy_seq ?_
 refine sy_tx' [0, 1, 2, 3] rfl ?_
 refine sp rfl (PE.move rfl) rfl ?_
 refine sp rfl (PE.move rfl) rfl ?_
 refine sp rfl (PE.assign rfl) rfl ?_
 refine sp rfl (PE.assign rfl) rfl ?_
 refine sy_seq ?_
 refine sy_tx' [0, 1] rfl ?_
 refine sp rfl (PE.assign rfl) rfl ?_
 refine sp rfl (PE.assign rfl) rfl ?_
 refine sy_seq ?_
 refine sy_tx' [0] rfl ?_
 refine sp rfl (PE.assign rfl) rfl ?_
 refine sy_seq ?_
 refine sy_seq ?_
 refine sy_tx' [0, 1] rfl ?_
 refine sp rfl (PE.move rfl) rfl ?_
 refine sp rfl (PE.eql rfl rfl) rfl ?_
 refine sy_join (ι := Option Addr × Nat) (fun x => ⟨[(2, .slice al l.length cy), (3, .pointer (some ⟨b3, 0, none⟩)), (4, .pointer (some ⟨b4, 0, none⟩)), (7, .pointer (some ⟨b7, 0, none⟩)), (8, .pointer (some ⟨b8, 0, none⟩)), (10, .pointer (some ⟨b10, 0, none⟩)), (11, .pointer (some ⟨b11, 0, none⟩)), (9, .slice a5 l.length c5), (12, .int .i64 (bothE g c)), (13, .int .i64 (claR g c).2), (14, .int .i64 (agrE g c l)), (15, .bool (agrR g c l)), (16, .bool (bif decide (bothE g c ≠ 0) then false else topB g.miss c.hs)), (17, .slice x.1 (claR g c).1.length x.2)], (b11, cel 79 (ctl c (c.sl a4 c4))) :: (b10, cel 89 (gtl g (g.sl a3 c3))) :: (b8, cel 28 (ctl c (c.sl a2 c2))) :: (b7, cel 25 (gtl g (g.sl a1 c1))) :: (b4, cel 28 (ctl c (c.sl ah ch))) :: (b3, cel 25 (gtl g (g.sl ag cg))) :: H, RowsA x.1 1 (irows (claR g c).1) :: RowsA a4 5 (hrows c.hs) :: RowsA a3 5 (grows g.grs) :: RowsA a5 1 (irows l) :: RowsA a2 5 (hrows c.hs) :: RowsA a1 5 (grows g.grs) :: R⟩) ?_ ?_
 refine sy_cond rfl (fun hc1 => ?_) (fun hc1 => ?_)
 have hw0 : bothE g c = 0 := by simpa using hc1
 obtain ⟨hgo, hco⟩ := both_ok hw0
 have hmany := hco.many
 have hlE := agrE_lst (l := l) hw0
 obtain ⟨hc1e, hc2e⟩ := cla_ref hw0
 refine sy_seq ?_
 refine sy_tx' [0, 1, 2, 3] rfl ?_
 refine spL rfl rfl (lhA [_, _, _] ag89 rfl rfl rfl) rfl ?_
 refine spL rfl rfl (lhA [_, _, _] ag79 rfl rfl rfl) rfl ?_
 refine cl rfl cal57 rfl rfl (c_All g hgo.miss (g.sl a3 c3) c hco a4 c4 _ _) ?_
 rintro _ _ R1 ⟨ms, bq, aa, cc, hms, hml, rfl, rfl, hR1⟩
 obtain rfl := hR1.symm
 clear hR1
 refine sp rfl (PE.assign rfl) rfl ?_
 refine sy_seq ?_
 refine sy_tx' [0] rfl ?_
 refine sp rfl (PE.assign rfl) rfl ?_
 refine sy_seq ?_
 refine sy_seq ?_
 refine sy_tx' [0, 1, 2, 3, 4, 5, 6, 7] rfl ?_
 refine spL rfl rfl (lhA [_, _, _] ag79 rfl rfl rfl) rfl ?_
 refine sp rfl (PE.move rfl) rfl ?_
 refine cl rfl cal62 rfl rfl (c_Listed c (by omega) a4 c4 l (by omega) al cy _ _) ?_
 rintro _ _ _ ⟨s, hs64, rfl, rfl, rfl, hset⟩
 rw [← hlE] at hset ⊢
 refine sp rfl (PE.move rfl) rfl ?_
 refine sp rfl (PE.extract rfl rfl) rfl ?_
 refine sp rfl (PE.extract rfl rfl) rfl ?_
 refine sp rfl (PE.assign rfl) rfl ?_
 refine sp rfl (PE.assign rfl) rfl ?_
 refine sy_seq ?_
 refine sy_tx' [0, 1] rfl ?_
 refine sp rfl (PE.move rfl) rfl ?_
 refine sp rfl (PE.eql rfl rfl) rfl ?_
 refine sy_join (ι := Unit) (fun _ => ⟨[(2, .slice al l.length cy), (3, .pointer (some ⟨b3, 0, none⟩)), (4, .pointer (some ⟨b4, 0, none⟩)), (7, .pointer (some ⟨b7, 0, none⟩)), (8, .pointer (some ⟨b8, 0, none⟩)), (10, .pointer (some ⟨b10, 0, none⟩)), (11, .pointer (some ⟨b11, 0, none⟩)), (9, .slice a5 l.length c5), (12, .int .i64 (bothE g c)), (13, .int .i64 (bothE g c)), (14, .int .i64 (agrE g c l)), (15, .bool (agrR g c l)), (16, .bool false), (17, .slice none 0 0), (18, .slice (some ⟨bq, 0, none⟩) 64 64)], (b11, cel 79 (ctl c (c.sl a4 c4))) :: (b10, cel 89 (gtl g (g.sl a3 c3))) :: (b8, cel 28 (ctl c (c.sl a2 c2))) :: (b7, cel 25 (gtl g (g.sl a1 c1))) :: (b4, cel 28 (ctl c (c.sl ah ch))) :: (b3, cel 25 (gtl g (g.sl ag cg))) :: H, RowsA (some ⟨bq, 0, none⟩) 1 ((List.range 64).map fun s => [Value.slice (aa s) (partS g.miss c.hs ms s).length (cc s)]) :: RowsA a4 5 (hrows c.hs) :: RowsA a3 5 (grows g.grs) :: RowsA a5 1 (irows l) :: RowsA a2 5 (hrows c.hs) :: RowsA a1 5 (grows g.grs) :: R⟩) ?_ ?_
 refine sy_cond rfl (fun hc2 => ?_) (fun hc2 => ?_)
 try simp only [decide_eq_true_eq, decide_eq_false_iff_not, Bool.and_eq_true, Bool.or_eq_true, Bool.not_eq_true', Int.not_le, Int.not_lt] at hc2
 have he2 : agrE g c l = 0 := by simpa using hc2
 have he3 := agrR_ref he2 (hset he2)
 refine sy_tx' [0, 1, 2, 3] rfl ?_
 refine sp rfl (PE.move rfl) rfl ?_
 refine sp rfl (PE.move rfl) rfl ?_
 refine clV rfl cal63 rfl rfl (c_rAgree g.miss hgo.miss.1 c.hs hco.hs hco.many ms hms bq aa cc s hs64 _ _) ?_
 refine sp rfl (PE.assign rfl) rfl ?_
 exact sy_jend () (by dsimp only; rw [he3]; exact (by repeat' first | exact Sub.nil | apply Sub.cons | rfl | (simp [lk]; omega))) (fun w h => by dsimp only; exact St.sub h)
 try simp only [decide_eq_true_eq, decide_eq_false_iff_not, Bool.and_eq_true, Bool.or_eq_true, Bool.not_eq_true', Int.not_le, Int.not_lt] at hc2
 have he2 : agrE g c l ≠ 0 := by simpa using hc2
 have he3 := agrR_no rfl he2
 refine sy_skip ?_
 exact sy_jend () (by dsimp only; rw [he3]; exact (by repeat' first | exact Sub.nil | apply Sub.cons | rfl | (simp [lk]; omega))) (fun w h => by dsimp only; exact St.sub h)
 rintro ⟨⟩
 dsimp only
 refine sy_seq ?_
 refine sy_tx' [0] rfl ?_
 refine sp rfl (PE.assign rfl) rfl ?_
 refine sy_seq ?_
 refine sy_tx' [0, 1, 2, 3, 4, 5, 6, 7, 8, 9] rfl ?_
 refine sp rfl (PE.move rfl) rfl ?_
 refine sp rfl (PE.fieldAddr fo28_2 rfl) rfl ?_
 refine spL rfl rfl (lh sc26 rfl rfl) rfl ?_
 refine sp rfl (PE.lenSl isl26 rfl) rfl ?_
 refine cl rfl cal64 rfl rfl (c_rClash g.miss hgo.miss.1 c.hs hco.hs hco.many ms hms bq aa cc _ _) ?_
 rintro _ _ R1 ⟨a9, c9, rfl, rfl, hR1⟩
 obtain rfl := hR1.symm
 clear hR1
 rw [← hc1e]
 refine sp rfl (PE.move rfl) rfl ?_
 refine sp rfl (PE.extract rfl rfl) rfl ?_
 refine sp rfl (PE.extract rfl rfl) rfl ?_
 refine sp rfl (PE.assign rfl) rfl ?_
 refine sp rfl (PE.assign rfl) rfl ?_
 refine sy_draw [0, 1, 0, 0, 15, 31, 63] (.tk 0 (.ld 2 (.tk 3 (.big 1 (.big 4 (.tk 5 (.tk 6 .done))))))) mixed (by kernel_rfl) ?_
 refine tk rfl (PE.move rfl) rfl ?_
 refine ld rfl rfl (lhA [_, _, _] ag79 rfl rfl rfl) rfl ?_
 refine tk rfl (PE.move rfl) rfl ?_
 refine cl rfl cal50 rfl rfl (c_None _ _ _) ?_
 rintro _ _ _ ⟨rfl, rfl, rfl⟩
 rw [← hc2e]
 refine bg (fun w hs => ⟨(lhA [_, _, _] ag79 rfl rfl rfl) w hs, trivial⟩) ?_
 refine clV rfl cal65 rfl rfl (c_rTopped g.miss hgo.miss.1 c hco a4 c4 ms hms bq aa cc _ _) ?_
 refine bg (fun w hs => ⟨trivial, trivial⟩) ?_
 refine tk rfl (PE.assign rfl) rfl ?_
 refine tk rfl (PE.assign rfl) rfl ?_
 exact sy_jend (a9, c9) (by dsimp only; rw [decide_eq_false (show ¬ bothE g c ≠ 0 by omega)]; exact (by repeat' first | exact Sub.nil | apply Sub.cons | rfl | (simp [lk]; omega))) (fun w h => by dsimp only; exact St.sub h)
 have hw0 : bothE g c ≠ 0 := by simpa using hc1
 obtain ⟨e1, e2⟩ := agrE_err (l := l) hw0
 obtain ⟨e3, e4⟩ := cla_err hw0
 have e5 : decide (bothE g c ≠ 0) = true := decide_eq_true hw0
 refine sy_skip ?_
 refine Sy.heap (fun w h => St.norows (sz := 1) h) ?_
 exact sy_jend (none, 0) (by dsimp only; rw [e1, e2, e3, e4, e5]; exact (by repeat' first | exact Sub.nil | apply Sub.cons | rfl | (simp [lk]; omega))) (fun w h => by dsimp only; rw [e3, show irows [] = ([] : List (List Value)) from rfl]; exact St.sub h)
 rintro ⟨a9, c9⟩
 dsimp only
 refine sy_seq ?_
 refine sy_tx' [0, 1, 2, 3, 4, 5, 6, 7, 8] rfl ?_
 refine spL rfl rfl (lhA [_, _, _] ag25 rfl rfl rfl) rfl ?_
 refine spL rfl rfl (lhA [_, _, _] ag28 rfl rfl rfl) rfl ?_
 refine sp rfl (PE.move rfl) rfl ?_
 refine cl rfl cal66 rfl rfl (c_Agree g a1 c1 (by omega) c a2 c2 (by omega) l a5 c5 (by omega) _ _) ?_
 rintro _ _ _ ⟨rfl, rfl, rfl⟩
 have hcll := cla_len g c
 refine sp rfl (PE.move rfl) rfl ?_
 refine sp rfl (PE.extract rfl rfl) rfl ?_
 refine sp rfl (PE.extract rfl rfl) rfl ?_
 refine sp rfl (PE.assign rfl) rfl ?_
 refine sp rfl (PE.assign rfl) rfl ?_
 refine sy_seq ?_
 refine sy_tx' [0, 1, 2, 3, 4, 5, 6, 7] rfl ?_
 refine spL rfl rfl (lhA [_, _, _] ag25 rfl rfl rfl) rfl ?_
 refine spL rfl rfl (lhA [_, _, _] ag28 rfl rfl rfl) rfl ?_
 refine cl rfl cal31 rfl rfl (c_Clash g a1 c1 (by omega) c a2 c2 (by omega) _ _) ?_
 rintro _ _ R1 ⟨a8, c8, rfl, rfl, hR1⟩
 obtain rfl := hR1.symm
 clear hR1
 refine sp rfl (PE.move rfl) rfl ?_
 refine sp rfl (PE.extract rfl rfl) rfl ?_
 refine sp rfl (PE.extract rfl rfl) rfl ?_
 refine sp rfl (PE.assign rfl) rfl ?_
 refine sp rfl (PE.assign rfl) rfl ?_
 refine sy_seq ?_
 refine sy_tx' [0, 1, 2, 3, 4, 5, 6, 7] rfl ?_
 refine spL rfl rfl (lhA [_, _, _] ag25 rfl rfl rfl) rfl ?_
 refine spL rfl rfl (lhA [_, _, _] ag28 rfl rfl rfl) rfl ?_
 refine clV rfl cal32 rfl rfl (c_Topped g a1 c1 (by omega) c a2 c2 (by omega) _ _) ?_
 refine sp rfl (PE.move rfl) rfl ?_
 refine sp rfl (PE.extract rfl rfl) rfl ?_
 refine sp rfl (PE.extract rfl rfl) rfl ?_
 refine sp rfl (PE.assign rfl) rfl ?_
 refine sp rfl (PE.assign rfl) rfl ?_
 refine sy_seq ?_
 refine sy_tx' [0, 1, 2, 3, 4, 5, 6, 7, 8, 9, 10, 11, 12, 13, 14, 15, 16, 17, 18, 19, 20, 21, 22, 23, 24, 25, 26, 27, 28, 29, 30, 31, 32, 33, 34, 35, 36, 37, 38, 39, 40, 41, 42, 43, 44, 45, 46] rfl ?_
 refine sp rfl (PE.move rfl) rfl ?_
 refine sp rfl (PE.move rfl) rfl ?_
 refine sp rfl (PE.eql rfl rfl) rfl ?_
 refine sp rfl (PE.move rfl) rfl ?_
 refine sy_case (t := 102) rfl (fun g102 => ?_) (fun g102 => ?_)
 refine spG rfl rfl rfl rfl (PE.move rfl) rfl ?_
 refine spG rfl rfl rfl rfl (PE.move rfl) rfl ?_
 refine spG rfl rfl rfl rfl (PE.eql rfl rfl) rfl ?_
 refine sp rfl (PE.pick rfl rfl rfl) rfl ?_
 refine sp rfl (PE.move rfl) rfl ?_
 refine sy_case (t := 107) rfl (fun g107 => ?_) (fun g107 => ?_)
 refine spG rfl rfl rfl rfl (PE.move rfl) rfl ?_
 refine spG rfl rfl rfl rfl (PE.move rfl) rfl ?_
 refine spG rfl rfl rfl rfl (PE.eql rfl rfl) rfl ?_
 refine sp rfl (PE.pick rfl rfl rfl) rfl ?_
 refine sp rfl (PE.move rfl) rfl ?_
 refine sy_case (t := 112) rfl (fun g112 => ?_) (fun g112 => ?_)
 refine spG rfl rfl rfl rfl (PE.move rfl) rfl ?_
 refine spG rfl rfl rfl rfl (PE.move rfl) rfl ?_
 refine spG rfl rfl rfl rfl (PE.eqlBool ub4 rfl rfl) rfl ?_
 refine sp rfl (PE.pick rfl rfl rfl) rfl ?_
 refine sp rfl (PE.move rfl) rfl ?_
 refine sy_case (t := 117) rfl (fun g117 => ?_) (fun g117 => ?_)
 refine spG rfl rfl rfl rfl (PE.move rfl) rfl ?_
 refine spG rfl rfl rfl rfl (PE.move rfl) rfl ?_
 refine clVG rfl rfl rfl rfl cal67 rfl rfl (c_Eq_int (claR g c).1 (claR g c).1 a8 a9 c8 c9 (by omega) (by omega) _ _) ?_
 refine sp rfl (PE.pick rfl rfl rfl) rfl ?_
 refine sp rfl (PE.move rfl) rfl ?_
 refine sy_case (t := 122) rfl (fun g122 => ?_) (fun g122 => ?_)
 refine spG rfl rfl rfl rfl (PE.move rfl) rfl ?_
 refine spG rfl rfl rfl rfl (PE.move rfl) rfl ?_
 refine spG rfl rfl rfl rfl (PE.eqlBool ub4 rfl rfl) rfl ?_
 refine sp rfl (PE.pick rfl rfl rfl) rfl ?_
 refine sp rfl (PE.move rfl) rfl ?_
 refine sy_case (t := 127) rfl (fun g127 => ?_) (fun g127 => ?_)
 refine spG rfl rfl rfl rfl (PE.move rfl) rfl ?_
 refine spG rfl rfl rfl rfl (PE.move rfl) rfl ?_
 refine clVG rfl rfl rfl rfl cal67 rfl rfl (c_Eq_int l l a5 al c5 cy (by omega) (by omega) _ _) ?_
 refine sp rfl (PE.pick rfl rfl rfl) rfl ?_
 refine sp rfl (PE.move rfl) rfl ?_
 refine sy_case (t := 132) rfl (fun g132 => ?_) (fun g132 => ?_)
 refine spLG rfl rfl rfl rfl rfl (lhA [_, _, _] ag25 rfl rfl rfl) rfl ?_
 refine spLG rfl rfl rfl rfl rfl (lhA [_, _, _] ag25 rfl rfl rfl) rfl ?_
 refine clVG rfl rfl rfl rfl cal45 rfl rfl (c_same g a1 ag c1 cg (by omega) _ _) ?_
 refine sp rfl (PE.pick rfl rfl rfl) rfl ?_
 refine sp rfl (PE.move rfl) rfl ?_
 refine sy_case (t := 137) rfl (fun g137 => ?_) (fun g137 => ?_)
 refine spLG rfl rfl rfl rfl rfl (lhA [_, _, _] ag28 rfl rfl rfl) rfl ?_
 refine spLG rfl rfl rfl rfl rfl (lhA [_, _, _] ag28 rfl rfl rfl) rfl ?_
 refine clVG rfl rfl rfl rfl cal46 rfl rfl (c_alike c a2 ah c2 ch (by omega) _ _) ?_
 refine sp rfl (PE.pick rfl rfl rfl) rfl ?_
 refine sp rfl (PE.move rfl) rfl ?_
 refine sy_case (t := 142) rfl (fun g142 => ?_) (fun g142 => ?_)
 refine clVG rfl rfl rfl rfl cal8 rfl rfl (c_awake _ _) ?_
 refine sp rfl (PE.pick rfl rfl rfl) rfl ?_
 refine sp rfl (PE.assign rfl) rfl ?_
 refine sy_ret ?_
 exact sy_return (vs := [_]) rfl (.cons (RV.tmp rfl) .nil) rfl ⟨rfl, rfl, rfl⟩ drp
 exact absurd g142 (by simp)
 exact absurd g137 (by simp)
 exact absurd g132 (by simp)
 exact absurd g127 (by simp)
 exact absurd g122 (by simp)
 exact absurd g117 (by simp)
 exact absurd g112 (by simp)
 exact absurd g107 (by simp)
 exact absurd g102 (by simp)
end Go.Proofs.YtndhkpnaeocnhaaGreat
namespace Go.Proofs.YtndhkpnaeocnhaaGreat
set_option linter.unusedSimpArgs false
set_option linter.unusedVariables false
open Go
theorem cal10 : cal Tryz.prog 10 = true := by kernel_rfl
theorem cal11 : cal Tryz.prog 11 = true := by kernel_rfl
theorem cal12 : cal Tryz.prog 12 = true := by kernel_rfl
theorem cal13 : cal Tryz.prog 13 = true := by kernel_rfl
theorem cal9 : cal Tryz.prog 9 = true := by kernel_rfl
theorem wrap_i64 (n : Int) : -9223372036854775808 ≤ IntKind.i64.wrap n ∧ IntKind.i64.wrap n ≤ 9223372036854775807 := by
  have e : IntKind.i64.wrap n = if n % 18446744073709551616 ≥ 9223372036854775808 then n % 18446744073709551616 - 18446744073709551616 else n % 18446744073709551616 := by
    unfold IntKind.wrap
    simp [IntKind.signed, IntKind.bits]
  rw [e]
  split <;> omega
theorem c_asked (g : Gat) (ag : Option Addr) (cg : Nat) (hlg : g.grs.length ≤ 9223372036854775807) (c : Crt) (ah : Option Addr) (ch : Nat) (hlh : c.hs.length ≤ 9223372036854775807) (h : Hnd) (n k : Int) (hnk : (-9223372036854775808 ≤ n ∧ n ≤ 9223372036854775807) ∧ (-9223372036854775808 ≤ k ∧ k ≤ 9223372036854775807)) (m : Mix) (hm : m.length = 4) (l : List Int) (al : Option Addr) (cy : Nat) (hll : l.length ≤ 9223372036854775807) (H : Heap) (R : Facts) [hG : MemRows ag 5 (grows g.grs) R] [hA : MemRows ah 5 (hrows c.hs) R] [hL : MemRows al 1 (irows l) R] :
    Fn Tryz.prog 5 [g.v (g.sl ag cg), c.v (c.sl ah ch), .agg (hrow h).toArray, .int .i64 n, .int .i64 k, .agg (ints m).toArray, .slice al l.length cy] H R (fun v H' R' => v = .bool true ∧ H' = H ∧ R' = R) := by
 refine fn_of Tryz.func5 rfl Tryz.ntmps5 rfl ?_
 refine sy_seq ?_
 refine sy_tx' [0, 1, 2, 3, 4] rfl ?_
 refine bx rfl rfl rfl (fun b7 => ?_)
 refine bx rfl rfl rfl (fun b8 => ?_)
 refine bx rfl rfl rfl (fun b9 => ?_)
 refine bx rfl rfl rfl (fun b12 => ?_)
 refine sp rfl (PE.assign rfl) rfl ?_
 refine sy_seq ?_
 refine sy_tx' [0, 1, 2, 3, 4, 5, 6, 7, 8, 9, 10, 11, 12, 13, 14, 15, 16, 17, 18, 19, 20, 21, 22, 23, 24, 25, 26, 27, 28, 29, 30, 31] rfl ?_
 refine spL rfl rfl (lhA (gtl g (g.sl ag cg)) ag25 rfl rfl rfl) rfl ?_
 refine spL rfl rfl (lhA (ctl c (c.sl ah ch)) ag28 rfl rfl rfl) rfl ?_
 refine spL rfl rfl (lhA (hrow h) ag33 rfl rfl rfl) rfl ?_
 refine cl rfl cal9 rfl rfl (c_GateChecks g ag cg hlg c ah ch hlh h _ _) ?_
 rintro _ _ _ ⟨rfl, rfl, rfl⟩
 refine sp rfl (PE.move rfl) rfl ?_
 refine sy_case (t := 19) rfl (fun g19 => ?_) (fun g19 => ?_)
 refine spLG rfl rfl rfl rfl rfl (lhA (gtl g (g.sl ag cg)) ag25 rfl rfl rfl) rfl ?_
 refine spLG rfl rfl rfl rfl rfl (lhA (ctl c (c.sl ah ch)) ag28 rfl rfl rfl) rfl ?_
 refine spG rfl rfl rfl rfl (PE.move rfl) rfl ?_
 refine spG rfl rfl rfl rfl (PE.move rfl) rfl ?_
 refine spLG rfl rfl rfl rfl rfl (lhA (ints (m)) ag31 rfl (rest := []) (by rw [List.append_nil]; rfl) (by rw [ints_length]; exact hm)) rfl ?_
 refine clG rfl rfl rfl rfl cal10 rfl rfl (c_GateLets g ag cg hlg c ah ch hlh n k hnk m hm _ _) ?_
 rintro _ _ _ ⟨rfl, rfl, rfl⟩
 refine sp rfl (PE.pick rfl rfl rfl) rfl ?_
 refine sp rfl (PE.move rfl) rfl ?_
 refine sy_case (t := 27) rfl (fun g27 => ?_) (fun g27 => ?_)
 refine spLG rfl rfl rfl rfl rfl (lhA (gtl g (g.sl ag cg)) ag25 rfl rfl rfl) rfl ?_
 refine spLG rfl rfl rfl rfl rfl (lhA (ctl c (c.sl ah ch)) ag28 rfl rfl rfl) rfl ?_
 refine spG rfl rfl rfl rfl (PE.move rfl) rfl ?_
 refine clG rfl rfl rfl rfl cal11 rfl rfl (c_GateBounds g ag cg hlg c ah ch hlh k hnk.2 _ _) ?_
 rintro _ _ _ ⟨rfl, rfl, rfl⟩
 refine sp rfl (PE.pick rfl rfl rfl) rfl ?_
 refine sp rfl (PE.move rfl) rfl ?_
 refine sy_case (t := 33) rfl (fun g33 => ?_) (fun g33 => ?_)
 refine spLG rfl rfl rfl rfl rfl (lhA (gtl g (g.sl ag cg)) ag25 rfl rfl rfl) rfl ?_
 refine spLG rfl rfl rfl rfl rfl (lhA (ctl c (c.sl ah ch)) ag28 rfl rfl rfl) rfl ?_
 refine spG rfl rfl rfl rfl (PE.move rfl) rfl ?_
 refine clG rfl rfl rfl rfl cal12 rfl rfl (c_GateAgrees g ag cg hlg c ah ch hlh l al cy hll _ _) ?_
 rintro _ _ _ ⟨rfl, rfl, rfl⟩
 refine sp rfl (PE.pick rfl rfl rfl) rfl ?_
 refine sp rfl (PE.move rfl) rfl ?_
 refine sy_case (t := 39) rfl (fun g39 => ?_) (fun g39 => ?_)
 refine spLG rfl rfl rfl rfl rfl (lhA (gtl g (g.sl ag cg)) ag25 rfl rfl rfl) rfl ?_
 refine spLG rfl rfl rfl rfl rfl (lhA (ctl c (c.sl ah ch)) ag28 rfl rfl rfl) rfl ?_
 refine spG rfl rfl rfl rfl (PE.move rfl) rfl ?_
 refine spG rfl rfl rfl rfl (PE.subW rfl rfl) rfl ?_
 refine clG rfl rfl rfl rfl cal13 rfl rfl (c_GateGrades g ag cg hlg c ah ch hlh (IntKind.i64.wrap (n - 1)) (wrap_i64 _) _ _) ?_
 rintro _ _ _ ⟨rfl, rfl, rfl⟩
 refine sp rfl (PE.pick rfl rfl rfl) rfl ?_
 refine sp rfl (PE.assign rfl) rfl ?_
 refine sy_ret ?_
 exact sy_return (vs := [_]) rfl (.cons (RV.tmp rfl) .nil) rfl ⟨rfl, rfl, rfl⟩ drp
 exact absurd g39 (by simp)
 exact absurd g33 (by simp)
 exact absurd g27 (by simp)
 exact absurd g19 (by simp)
end Go.Proofs.YtndhkpnaeocnhaaGreat
namespace Go.Proofs.YtndhkpnaeocnhaaGreat
set_option linter.unusedSimpArgs false
set_option linter.unusedVariables false
open Go
theorem c_ThreeO (xs : List Int) (a : Option Addr) (cx : Nat) (hx : ∀ x ∈ xs, 0 ≤ x ∧ x < 3) (hl : xs.length ≤ 100) (H : Heap) (R : Facts) [hR : MemRows a 1 (irows xs) R] :
    Fn Tryz.prog 4 [.slice a xs.length cx] H R (fun v H' R' => ∃ (bg : Nat) (o : OSl 33 5 (hrows (exS xs))), v = .tuple #[exG.v (exG.sl (some ⟨bg, 0, none⟩) 3), (exC (exS xs)).v o.fs] ∧ H' = (bg, cel 36 (grows exG.grs).flatten) :: (o.G ++ H) ∧ R' = R) := by
 refine fn_of Tryz.func4 rfl Tryz.ntmps4 rfl ?_
 refine sy_seq ?_
 refine sy_tx' [0, 1] rfl ?_
 refine alc rfl zl25 rfl (fun b2 => ?_)
 refine alc rfl zl28 rfl (fun b3 => ?_)
 refine sy_seq ?_
 refine sy_tx' [0, 1, 2, 3, 4, 5, 6, 7] rfl ?_
 refine sp rfl (PE.buildArr (out := [_, _, _, _]) ar31 zl31 rfl rfl) rfl ?_
 refine sp rfl (PE.build (out := [_, _, _, _, _]) pl33 zl33 rfl rfl) rfl ?_
 refine sp rfl (PE.buildArr (out := [_, _, _, _]) ar31 zl31 rfl rfl) rfl ?_
 refine sp rfl (PE.build (out := [_, _, _, _, _]) pl33 zl33 rfl rfl) rfl ?_
 refine sp rfl (PE.buildArr (out := [_, _, _, _]) ar31 zl31 rfl rfl) rfl ?_
 refine sp rfl (PE.build (out := [_, _, _, _, _]) pl33 zl33 rfl rfl) rfl ?_
 refine bsl (out := [_, _, _, _, _, _, _, _, _, _, _, _, _, _, _]) rfl sl26 zl33 rfl rfl rfl rfl rfl rfl (fun b14 => ?_)
 refine Sy.heap (fun w h => St.rows (sz := 5) (rows := hrows exH) (rest := []) h (hrows_len _)) ?_
 refine sp rfl (PE.assign rfl) rfl ?_
 refine sy_seq ?_
 refine sy_tx' [0, 1, 2] rfl ?_
 refine sp rfl (PE.build (out := [_, _, _]) pl28 zl28 rfl rfl) rfl ?_
 refine alc rfl zl28 rfl (fun b5 => ?_)
 refine sto rfl rfl rfl cn28 rfl rfl rfl rfl ?_
 refine sy_seq ?_
 refine sy_seq ?_
 refine sy_tx' [0, 1, 2] rfl ?_
 refine sp rfl (PE.move rfl) rfl ?_
 refine sp rfl (PE.lenSl isl22 rfl) rfl ?_
 refine sp rfl (PE.move rfl) rfl ?_
 refine sy_block ?_
 refine sy_loop (ι := (k : {k : Nat // k ≤ xs.length}) × OSl 33 5 (hrows (exS (xs.take k.1)))) (fun x => ⟨[(2, .pointer (some ⟨b2, 0, none⟩)), (3, .pointer (some ⟨b3, 0, none⟩)), (4, .slice (some ⟨b14, 0, none⟩) 3 3), (5, .pointer (some ⟨b5, 0, none⟩)), (16, .slice a xs.length cx), (17, .int .i64 xs.length), (18, .int .i64 x.1.1)], x.2.G ++ (b5, cel 28 (ctl (exC (exS xs)) x.2.fs)) :: (b3, cel 28 [.int .i64 0, .int .i64 0, .slice none 0 0]) :: (b2, cel 25 [.int .i64 0, .int .i64 0, .slice none 0 0]) :: H, RowsA (some ⟨b14, 0, none⟩) 5 (hrows exH) :: R⟩) (fun x => xs.length - x.1.1) ⟨⟨0, by omega⟩, (OSl.nil _ _).cast rfl⟩ ?_ (fun x => ?_)
 exact sy_at (by repeat' first | exact Sub.nil | apply Sub.cons | rfl | (simp [lk]; omega)) (fun _ h => h)
 obtain ⟨⟨k, hk⟩, o'⟩ := x
 dsimp only at hk o' ⊢
 refine sy_seq ?_
 refine sy_tx' [0] rfl ?_
 refine sp rfl (PE.lss rfl rfl) rfl ?_
 refine sy_seq ?_
 refine sy_cond rfl (fun hc0 => ?_) (fun hc0 => ?_)
 try simp only [decide_eq_true_eq, decide_eq_false_iff_not, Bool.and_eq_true, Bool.or_eq_true, Bool.not_eq_true', Int.not_le, Int.not_lt] at hc0
 obtain ⟨x, hxk⟩ : ∃ x, xs[k]? = some x := ⟨_, List.getElem?_eq_getElem (by omega)⟩
 have hx3 := hx x (List.mem_of_getElem? hxk)
 obtain ⟨h, hh⟩ : ∃ h, exH[x.toNat]? = some h := ⟨_, List.getElem?_eq_getElem (by show x.toNat < 3; omega)⟩
 have hst : exS (xs.take (k + 1)) = exS (xs.take k) ++ [h] := by unfold exS; rw [List.take_add_one, hxk]; simp [List.getD, hh]
 refine sy_addr (a := a) (sz := 1) (rows := irows xs) (by intro h0; simp [irows] at h0; simp [h0] at hxk) (fun ba oa he => ?_)
 subst he
 refine sy_skip ?_
 refine sy_seq ?_
 refine sy_block ?_
 refine sy_seq ?_
 refine sy_tx' [0, 1, 2] rfl ?_
 refine sp rfl (PE.indexAddr el22 rfl rfl (by omega) (by omega)) rfl ?_
 refine spL rfl rfl (lf0 (x := .int .i64 x) sc3 (by simp [irows, hxk]; rfl) rfl) rfl ?_
 refine sp rfl (PE.assign rfl) rfl ?_
 refine sy_draw [0, 1, 0, 0, 12, 28, 60, 127, 255, 511] (.tk 0 (.ld 1 (.tk 2 (.tk 3 (.tk 4 (.ld 5 (.big 6 (.big 7 (.tk 8 (.big 9 .done)))))))))) mixed (by kernel_rfl) ?_
 refine tk rfl (PE.fieldAddr fo28_2 rfl) rfl ?_
 refine ld rfl rfl (lh sc26 rfl rfl) rfl ?_
 refine tk rfl (PE.move rfl) rfl ?_
 refine tk rfl (PE.move rfl) rfl ?_
 refine tk rfl (PE.indexAddr el26 rfl rfl (by omega) (by show x < ((3 : Nat) : Int); omega)) rfl ?_
 refine ld rfl rfl (lfA ag33 (row := hrow h) (hr_get hh) rfl) rfl ?_
 refine bsl (out := [_, _, _, _, _]) rfl sl26 zl33 rfl rfl rfl rfl rfl rfl (fun b28 => ?_)
 refine bg (fun w hs => ⟨trivial, (lh sc26 rfl rfl) w hs, trivial⟩) ?_
 refine apO (o') rfl ap26 rfl rfl (rowsH (row := hrow h) rfl) rfl rfl ((by simp only [hrows, exS, List.length_map, List.length_take, List.length_singleton]; omega)) rfl (fun o29 => ?_)
 refine bg (fun w hs => ⟨trivial, trivial⟩) ?_
 refine tk rfl (PE.fieldAddr fo28_2 rfl) rfl ?_
 refine stoE (l' := ctl (exC (exS xs)) o29.fs) rfl rfl rfl cn26 rfl (by rw [o29.cells.1]; first | done | rfl) (by rw [o29.cells.1]; simp [o29.cells.2]) (by rw [o29.cells.1]; first | done | rfl) (by rw [o29.cells.1]; first | done | exact Nat.le_refl _) ?_
 refine bg (fun w hs => trivial) ?_
 refine sy_tx' [0, 1] rfl ?_
 refine sp rfl (PE.add rfl rfl (by omega)) rfl ?_
 refine sp rfl (PE.move rfl) rfl ?_
 exact sy_next ⟨⟨k + 1, by omega⟩, o29.cast (by rw [hst]; simp [hrows])⟩ (by dsimp only; omega) (by repeat' first | exact Sub.nil | apply Sub.cons | rfl | (simp [lk]; omega)) (fun w h => h.del b28)
 try simp only [decide_eq_true_eq, decide_eq_false_iff_not, Bool.and_eq_true, Bool.or_eq_true, Bool.not_eq_true', Int.not_le, Int.not_lt] at hc0
 obtain rfl : k = xs.length := by omega
 obtain ⟨o9, ho9f, ho9g⟩ : ∃ o : OSl 33 5 (hrows (exS xs)), o.fs = o'.fs ∧ o.G = o'.G := ⟨o'.cast (by rw [List.take_length]), rfl, rfl⟩
 rw [← ho9f]
 refine Sy.heap (fun w h => by rw [← ho9g] at h; exact h) ?_
 refine sy_exit ?_
 repeat refine sy_tx ?_
 refine sy_bx ?_
 refine sy_seq ?_
 refine sy_draw [0, 0, 0, 7, 15, 0, 31, 127] (.tk 0 (.tk 1 (.tk 2 (.ld 5 (.big 3 (.tk 4 (.big 6 (.big 7 .done)))))))) mixed (by kernel_rfl) ?_
 refine tk rfl (PE.build (out := [_, _, _, _, _]) pl36 zl36 rfl rfl) rfl ?_
 refine tk rfl (PE.build (out := [_, _, _, _, _]) pl36 zl36 rfl rfl) rfl ?_
 refine tk rfl (PE.build (out := [_, _, _, _, _]) pl36 zl36 rfl rfl) rfl ?_
 refine ld rfl rfl (lhA [_, _, _] ag28 rfl rfl rfl) rfl ?_
 refine bsl (out := [_, _, _, _, _, _, _, _, _, _, _, _, _, _, _]) rfl sl23 zl36 rfl rfl rfl rfl rfl rfl (fun b35 => ?_)
 refine bg (fun w hs => ⟨(lhA [_, _, _] ag28 rfl rfl rfl) w hs, trivial⟩) ?_
 refine tk rfl (PE.build (out := gtl exG (exG.sl (some ⟨b35, 0, none⟩) 3)) pl25 zl25 rfl rfl) rfl ?_
 refine sto rfl rfl rfl cn25 rfl rfl rfl rfl ?_
 refine bg (fun w hs => ⟨(lhA [_, _, _] ag28 rfl rfl rfl) w hs, trivial⟩) ?_
 refine stoE (l' := ctl (exC (exS xs)) o9.fs) rfl rfl rfl cn28 rfl rfl (by show (ctl _ o9.fs).all (·.oneCell') = true; simp only [ctl, List.all_cons, List.all_nil, o9.cells.2, Bool.and_true]; rfl) rfl (Nat.le_refl _) ?_
 refine bg (fun w hs => ⟨trivial, trivial⟩) ?_
 refine sy_ret ?_
 exact sy_return (vs := [_, _]) rfl (.cons (RV.cell rfl (lhA [_, _, _] ag25 rfl rfl rfl)) (.cons (RV.cell rfl (lhA [_, _, _] ag28 rfl rfl rfl)) .nil)) rfl ⟨b35, o9, rfl, rfl, rfl⟩ (fun w h => St.sub (((h.del b5).del b3).del b2))
end Go.Proofs.YtndhkpnaeocnhaaGreat
namespace Go.Proofs.YtndhkpnaeocnhaaGreat
set_option linter.unusedSimpArgs false
set_option linter.unusedVariables false
open Go
theorem cal5 : cal Tryz.prog 5 = true := by kernel_rfl
theorem el37 : elN Tryz.prog 37 = some 1 := by kernel_rfl
theorem sc34 : scal Tryz.prog 34 = true := by kernel_rfl
theorem sl37 : slE Tryz.prog 37 = some (34, 1) := by kernel_rfl
theorem zl34 : zeroL Tryz.prog 34 = some ([.pointer none]) := by kernel_rfl
def smN : List Int := [-9223372036854775808, -2, -1, 0, 1, 2, 3, 4, 9, 10, 20, 21, 40, 41, 50, 51, 100, 101, 160, 200, 201, 10000, 10001, 9223372036854775807]
theorem smN_ok : ∀ v ∈ smN, -9223372036854775808 ≤ v ∧ v ≤ 9223372036854775807 := by decide
structure Sm where
  e : Int
  m : Int
  ga : Grd
  gb : Grd
  gc : Grd
  f : Int
  q : Int
  ha : Hnd
  hb : Hnd
  hc : Hnd
  hh : Hnd
  n : Int
  k : Int
  m0 : Int
  m1 : Int
  m2 : Int
  m3 : Int
  l0 : Int
  l1 : Int
def sm0 : Sm := ⟨5, 2, ⟨34, 4, 1, 3, 9⟩, ⟨30, 6, 2, 4, 7⟩, ⟨24, 10, 3, 8, 4⟩, 1200, 300, ⟨0, 40, 5, 1, 4⟩, ⟨2, 30, 6, 2, 2⟩, ⟨1, 12, 4, 0, 4⟩, ⟨1, 8, 1, 1, 0⟩, 1, 1, 32, 4, 1, 3, 0, 1⟩
theorem sm0n : -9223372036854775808 ≤ sm0.n ∧ sm0.n ≤ 9223372036854775807 := by decide
theorem sm0k : -9223372036854775808 ≤ sm0.k ∧ sm0.k ≤ 9223372036854775807 := by decide
def smG (n : Nat) : List Grd := (List.range n).map fun (i : Nat) => ⟨40 - 3 * (i : Int), i, 0, i, 9 - (i : Int)⟩
def smH (n : Nat) : List Hnd := (List.range n).map fun (i : Nat) => ⟨(i : Int) % 3, 30, i, 1, 2⟩
theorem smG_step (n : Nat) : smG (n + 1) = smG n ++ [⟨40 - 3 * (n : Int), n, 0, n, 9 - (n : Int)⟩] := by unfold smG; rw [List.range_succ, List.map_append]; rfl
theorem smH_step (n : Nat) : smH (n + 1) = smH n ++ [⟨(n : Int) % 3, 30, n, 1, 2⟩] := by unfold smH; rw [List.range_succ, List.map_append]; rfl
theorem smG_len (n : Nat) : (smG n).length = n := by simp [smG]
theorem smH_len (n : Nat) : (smH n).length = n := by simp [smH]
theorem sm_check : ∀ n < 8, (decide ((⟨5, 2, smG n⟩ : Gat).check = 0) = decide (n < 5)) ∧ (decide ((⟨1200, 300, smH n⟩ : Crt).check = 0) = decide (n < 7)) := by decide +kernel
theorem mul_b4 {n i : Nat} (hn : n < 24) (hi : i < 4) : 0 ≤ (n : Int) * i ∧ (n : Int) * i ≤ 69 := by
  refine ⟨Int.mul_nonneg (by omega) (by omega), ?_⟩
  have h1 : (n : Int) * i ≤ 23 * i := Int.mul_le_mul_of_nonneg_right (by omega) (by omega)
  omega
set_option maxHeartbeats 4000000 in
theorem c_GateSmall (H : Heap) (R : Facts) :
    Fn Tryz.prog 3 [] H R (fun v H' R' => v = .bool true ∧ H' = H ∧ R' = R) := by
 refine fn_of Tryz.func3 rfl Tryz.ntmps3 rfl ?_
 refine sy_seq ?_
 refine sy_tx' [0] rfl ?_
 refine sp rfl (PE.assign rfl) rfl ?_
 refine sy_seq ?_
 refine sy_seq ?_
 refine sy_tx' [0, 1, 2] rfl ?_
 refine bsl (out := [_, _, _, _, _, _, _, _, _, _, _, _, _, _, _, _, _, _, _, _, _, _, _, _]) rfl sl22 zl3 rfl rfl rfl rfl rfl rfl (fun b20 => ?_)
 refine Sy.heap (fun w h => St.intRows (l := smN) (h.pull b20)) ?_
 refine sp rfl (PE.lenSl isl22 rfl) rfl ?_
 refine sp rfl (PE.move rfl) rfl ?_
 refine sy_block ?_
 refine sy_loop (ι := {i : Nat // i ≤ 24}) (fun i => ⟨[(20, .slice (some ⟨b20, 0, none⟩) 24 24), (21, .int .i64 24), (22, .int .i64 i.1)], H, RowsA (some ⟨b20, 0, none⟩) 1 (irows smN) :: R⟩) (fun i => 24 - i.1) ⟨0, by omega⟩ ?_ (fun i => ?_)
 exact sy_at (by repeat' first | exact Sub.nil | apply Sub.cons | rfl | (simp [lk]; omega)) (fun _ h => h)
 obtain ⟨i, hi⟩ := i
 dsimp only at hi ⊢
 refine sy_seq ?_
 refine sy_tx' [0] rfl ?_
 refine sp rfl (PE.lss rfl rfl) rfl ?_
 refine sy_seq ?_
 refine sy_cond rfl (fun hc0 => ?_) (fun hc0 => ?_)
 try simp only [decide_eq_true_eq, decide_eq_false_iff_not, Bool.and_eq_true, Bool.or_eq_true, Bool.not_eq_true', Int.not_le, Int.not_lt] at hc0
 obtain ⟨v, hv⟩ : ∃ v, smN[i]? = some v := ⟨_, List.getElem?_eq_getElem (by show i < 24; omega)⟩
 have hv2 := smN_ok v (List.mem_of_getElem? hv)
 refine sy_skip ?_
 refine sy_seq ?_
 refine sy_block ?_
 refine sy_seq ?_
 refine sy_tx' [0, 1, 2] rfl ?_
 refine sp rfl (PE.indexAddr el22 rfl rfl (by omega) (by omega)) rfl ?_
 refine spL rfl rfl (lf0 (x := .int .i64 v) sc3 (by simp [irows, hv]; rfl) rfl) rfl ?_
 refine sp rfl (PE.assign rfl) rfl ?_
 refine sy_seq ?_
 refine sy_tx' [0] rfl ?_
 refine sp rfl (PE.move rfl) rfl ?_
 refine sy_block ?_
 refine sy_loop (ι := {k : Nat // k ≤ 18}) (fun k => ⟨[(2, .int .i64 v), (20, .slice (some ⟨b20, 0, none⟩) 24 24), (21, .int .i64 24), (22, .int .i64 i), (26, .int .i64 k.1)], H, RowsA (some ⟨b20, 0, none⟩) 1 (irows smN) :: R⟩) (fun k => 18 - k.1) ⟨0, by omega⟩ ?_ (fun k => ?_)
 exact sy_at (by repeat' first | exact Sub.nil | apply Sub.cons | rfl | (simp [lk]; omega)) (fun _ h => h)
 obtain ⟨k, hk⟩ := k
 dsimp only at hk ⊢
 refine sy_seq ?_
 refine sy_tx' [0] rfl ?_
 refine sp rfl (PE.lss rfl rfl) rfl ?_
 refine sy_seq ?_
 refine sy_cond rfl (fun hc1 => ?_) (fun hc1 => ?_)
 try simp only [decide_eq_true_eq, decide_eq_false_iff_not, Bool.and_eq_true, Bool.or_eq_true, Bool.not_eq_true', Int.not_le, Int.not_lt] at hc1
 refine sy_skip ?_
 refine sy_seq ?_
 refine sy_block ?_
 refine sy_seq ?_
 refine sy_tx' [0, 1] rfl ?_
 refine sp rfl (PE.move rfl) rfl ?_
 refine sp rfl (PE.assign rfl) rfl ?_
 refine sy_seq ?_
 refine sy_tx' [0, 1, 2, 3, 4, 5, 6, 7, 8] rfl ?_
 refine bsl (out := [_, _, _]) rfl sl22 zl3 rfl rfl rfl rfl rfl rfl (fun b30 => ?_)
 refine Sy.heap (fun w h => St.intRows (l := [0, 1, 2]) (h.pull b30)) ?_
 refine cl rfl cal4 rfl rfl (c_ThreeO [0, 1, 2] (some ⟨b30, 0, none⟩) 3 (by decide) (by decide) _ _) ?_
 rintro _ _ R1 ⟨bgr, o, rfl, rfl, hR1⟩
 obtain rfl := hR1.symm
 clear hR1
 obtain ⟨bh, cap, junk, hfs, hGG, hjk, hcap, hmx⟩ := o.is.resolve_left (fun h => by have := congrArg List.length h.1; cases this)
 rw [show (hrows (exS [0, 1, 2])).length = 3 from rfl] at hfs hjk hcap
 rw [hfs, hGG]
 refine Sy.heap (H' := (bgr, cel 36 (grows [sm0.ga, sm0.gb, sm0.gc]).flatten) :: (bh, cel 33 ((hrows [sm0.ha, sm0.hb, sm0.hc]).flatten ++ junk)) :: H) (fun w h => h) ?_
 refine sp rfl (PE.move rfl) rfl ?_
 refine sp rfl (PE.extract rfl rfl) rfl ?_
 refine sp rfl (PE.extract rfl rfl) rfl ?_
 refine alc rfl zl25 rfl (fun b4 => ?_)
 refine alc rfl zl28 rfl (fun b5 => ?_)
 refine sto rfl rfl rfl cn25 rfl rfl rfl rfl ?_
 refine sto rfl rfl rfl cn28 rfl rfl rfl rfl ?_
 refine sy_seq ?_
 refine sy_tx' [0, 1, 2, 3, 4, 5, 6, 7, 8, 9, 10, 11, 12] rfl ?_
 refine sp rfl (PE.buildArr (out := [_, _, _, _]) ar31 zl31 rfl rfl) rfl ?_
 refine sp rfl (PE.build (out := [_, _, _, _, _]) pl33 zl33 rfl rfl) rfl ?_
 refine sp rfl (PE.buildArr (out := [_, _, _, _]) ar31 zl31 rfl rfl) rfl ?_
 refine bsl (out := [_, _]) rfl sl22 zl3 rfl rfl rfl rfl rfl rfl (fun b37 => ?_)
 refine alc rfl zl33 rfl (fun b6 => ?_)
 refine alc rfl zl3 rfl (fun b7 => ?_)
 refine alc rfl zl3 rfl (fun b8 => ?_)
 refine alc rfl zl31 rfl (fun b9 => ?_)
 refine sto rfl rfl rfl cn33 rfl rfl rfl rfl ?_
 refine sto rfl rfl rfl cn3 rfl rfl rfl rfl ?_
 refine sto rfl rfl rfl cn3 rfl rfl rfl rfl ?_
 refine sto rfl rfl rfl cn31 rfl rfl rfl rfl ?_
 refine sp rfl (PE.assign rfl) rfl ?_
 refine sy_seq ?_
 refine sy_draw [0, 0, 0, 4, 12, 28, 0, 64, 192, 448, 0, 1024, 3072, 7168, 0, 16384, 49152, 114688, 0, 262144, 786432, 1835008, 0, 0, 0, 16777216, 50331648, 117440512, 0, 268435456, 805306368, 1879048192, 4026531840, 0, 8589934592, 25769803776, 60129542144, 128849018880, 0, 0, 549755813888, 0, 0, 4398046511104, 17592186044415, 35184372088831] (.tk 0 (.tk 1 (.tk 2 (.ld 3 (.tk 4 (.tk 5 (.tk 6 (.ld 7 (.tk 8 (.tk 9 (.tk 10 (.ld 11 (.tk 12 (.tk 13 (.tk 14 (.ld 15 (.tk 16 (.tk 17 (.tk 18 (.ld 19 (.tk 20 (.tk 21 (.tk 22 (.tk 23 (.tk 24 (.ld 25 (.tk 26 (.tk 27 (.tk 28 (.ld 29 (.tk 30 (.tk 31 (.tk 32 (.tk 33 (.ld 34 (.tk 35 (.tk 36 (.tk 37 (.tk 38 (.tk 39 (.tk 40 (.tk 41 (.tk 42 (.tk 43 (.big 44 (.tk 45 .done)))))))))))))))))))))))))))))))))))))))))))))) mixed (by kernel_rfl) ?_
 refine tk rfl (PE.fieldAddr fo25_0 rfl) rfl ?_
 refine tk rfl (PE.fieldAddr fo25_1 rfl) rfl ?_
 refine tk rfl (PE.fieldAddr fo25_2 rfl) rfl ?_
 refine ld rfl rfl (lh sc23 rfl rfl) rfl ?_
 refine tk rfl (PE.indexAddr el23 rfl rfl (by decide) (by decide)) rfl ?_
 refine tk rfl (PE.fieldAddr fo36_0 rfl) rfl ?_
 refine tk rfl (PE.fieldAddr fo25_2 rfl) rfl ?_
 refine ld rfl rfl (lh sc23 rfl rfl) rfl ?_
 refine tk rfl (PE.indexAddr el23 rfl rfl (by decide) (by decide)) rfl ?_
 refine tk rfl (PE.fieldAddr fo36_1 rfl) rfl ?_
 refine tk rfl (PE.fieldAddr fo25_2 rfl) rfl ?_
 refine ld rfl rfl (lh sc23 rfl rfl) rfl ?_
 refine tk rfl (PE.indexAddr el23 rfl rfl (by decide) (by decide)) rfl ?_
 refine tk rfl (PE.fieldAddr fo36_2 rfl) rfl ?_
 refine tk rfl (PE.fieldAddr fo25_2 rfl) rfl ?_
 refine ld rfl rfl (lh sc23 rfl rfl) rfl ?_
 refine tk rfl (PE.indexAddr el23 rfl rfl (by decide) (by decide)) rfl ?_
 refine tk rfl (PE.fieldAddr fo36_3 rfl) rfl ?_
 refine tk rfl (PE.fieldAddr fo25_2 rfl) rfl ?_
 refine ld rfl rfl (lh sc23 rfl rfl) rfl ?_
 refine tk rfl (PE.indexAddr el23 rfl rfl (by decide) (by decide)) rfl ?_
 refine tk rfl (PE.fieldAddr fo36_4 rfl) rfl ?_
 refine tk rfl (PE.fieldAddr fo28_0 rfl) rfl ?_
 refine tk rfl (PE.fieldAddr fo28_1 rfl) rfl ?_
 refine tk rfl (PE.fieldAddr fo28_2 rfl) rfl ?_
 refine ld rfl rfl (lh sc26 rfl rfl) rfl ?_
 refine tk rfl (PE.indexAddr el26 rfl rfl (by decide) (by decide)) rfl ?_
 refine tk rfl (PE.fieldAddr fo33_0 rfl) rfl ?_
 refine tk rfl (PE.fieldAddr fo28_2 rfl) rfl ?_
 refine ld rfl rfl (lh sc26 rfl rfl) rfl ?_
 refine tk rfl (PE.indexAddr el26 rfl rfl (by decide) (by decide)) rfl ?_
 refine tk rfl (PE.fieldAddr fo33_1 rfl) rfl ?_
 refine tk rfl (PE.indexArr ar31 rfl rfl (by omega) (by omega)) rfl ?_
 refine tk rfl (PE.fieldAddr fo28_2 rfl) rfl ?_
 refine ld rfl rfl (lh sc26 rfl rfl) rfl ?_
 refine tk rfl (PE.indexAddr el26 rfl rfl (by decide) (by decide)) rfl ?_
 refine tk rfl (PE.fieldAddr fo33_1 rfl) rfl ?_
 refine tk rfl (PE.indexArr ar31 rfl rfl (by omega) (by omega)) rfl ?_
 refine tk rfl (PE.fieldAddr fo33_0 rfl) rfl ?_
 refine tk rfl (PE.fieldAddr fo33_1 rfl) rfl ?_
 refine tk rfl (PE.indexArr ar31 rfl rfl (by omega) (by omega)) rfl ?_
 refine tk rfl (PE.indexArr ar31 rfl rfl (by omega) (by omega)) rfl ?_
 refine tk rfl (PE.move rfl) rfl ?_
 refine tk rfl (PE.indexAddr el22 rfl rfl (by decide) (by decide)) rfl ?_
 refine bsl (vs := [(0, .pointer (some ⟨b4, 0, none⟩)), (1, .pointer (some ⟨b4, 1, none⟩)), (2, .pointer (some ⟨bgr, 0, none⟩)), (3, .pointer (some ⟨bgr, 6, none⟩)), (4, .pointer (some ⟨bgr, 12, none⟩)), (5, .pointer (some ⟨bgr, 8, none⟩)), (6, .pointer (some ⟨bgr, 9, none⟩)), (7, .pointer (some ⟨b5, 0, none⟩)), (8, .pointer (some ⟨b5, 1, none⟩)), (9, .pointer (some ⟨bh, 5, none⟩)), (10, .pointer (some ⟨bh, 1, none⟩)), (11, .pointer (some ⟨bh, 14, none⟩)), (12, .pointer (some ⟨b6, 0, none⟩)), (13, .pointer (some ⟨b6, 3, none⟩)), (14, .pointer (some ⟨b7, 0, none⟩)), (15, .pointer (some ⟨b8, 0, none⟩)), (16, .pointer (some ⟨b9, 1, none⟩)), (17, .pointer (some ⟨b37, 1, none⟩))]) (out := [.pointer (some ⟨b4, 0, none⟩), .pointer (some ⟨b4, 1, none⟩), .pointer (some ⟨bgr, 0, none⟩), .pointer (some ⟨bgr, 6, none⟩), .pointer (some ⟨bgr, 12, none⟩), .pointer (some ⟨bgr, 8, none⟩), .pointer (some ⟨bgr, 9, none⟩), .pointer (some ⟨b5, 0, none⟩), .pointer (some ⟨b5, 1, none⟩), .pointer (some ⟨bh, 5, none⟩), .pointer (some ⟨bh, 1, none⟩), .pointer (some ⟨bh, 14, none⟩), .pointer (some ⟨b6, 0, none⟩), .pointer (some ⟨b6, 3, none⟩), .pointer (some ⟨b7, 0, none⟩), .pointer (some ⟨b8, 0, none⟩), .pointer (some ⟨b9, 1, none⟩), .pointer (some ⟨b37, 1, none⟩)]) rfl sl37 zl34 rfl rfl rfl rfl (by kernel_rfl) rfl (fun b82 => ?_)
 refine bg (fun w hs => ⟨trivial, trivial, trivial, trivial, trivial, trivial, trivial, trivial, trivial⟩) ?_
 refine tk rfl (PE.assign rfl) rfl ?_
 refine sy_seq ?_
 refine sy_cut (ι := {x : Sm // (-9223372036854775808 ≤ x.n ∧ x.n ≤ 9223372036854775807) ∧ (-9223372036854775808 ≤ x.k ∧ x.k ≤ 9223372036854775807)}) (fun x => ⟨[(2, .int .i64 v), (20, .slice (some ⟨b20, 0, none⟩) 24 24), (21, .int .i64 24), (22, .int .i64 i), (26, .int .i64 k), (4, .pointer (some ⟨b4, 0, none⟩)), (5, .pointer (some ⟨b5, 0, none⟩)), (6, .pointer (some ⟨b6, 0, none⟩)), (7, .pointer (some ⟨b7, 0, none⟩)), (8, .pointer (some ⟨b8, 0, none⟩)), (9, .pointer (some ⟨b9, 0, none⟩)), (10, .slice (some ⟨b37, 0, none⟩) 2 2)], (b9, cel 31 [.int .i64 (x.1.m0), .int .i64 (x.1.m1), .int .i64 (x.1.m2), .int .i64 (x.1.m3)]) :: (b8, cel 3 [.int .i64 (x.1.k)]) :: (b7, cel 3 [.int .i64 (x.1.n)]) :: (b6, cel 33 (hrow x.1.hh)) :: (b37, cel 3 [.int .i64 (x.1.l0), .int .i64 (x.1.l1)]) :: (b5, cel 28 [.int .i64 x.1.f, .int .i64 x.1.q, .slice (some ⟨bh, 0, none⟩) 3 cap]) :: (b4, cel 25 [.int .i64 x.1.e, .int .i64 x.1.m, .slice (some ⟨bgr, 0, none⟩) 3 3]) :: (bgr, cel 36 (grows [x.1.ga, x.1.gb, x.1.gc]).flatten) :: (bh, cel 33 ((hrows [x.1.ha, x.1.hb, x.1.hc]).flatten ++ junk)) :: H, RowsA (some ⟨b20, 0, none⟩) 1 (irows smN) :: R⟩) ?_ ?_
 refine sy_tx' [0, 1, 2, 3, 4, 5, 6] rfl ?_
 have hi18 : k = 0 ∨ k = 1 ∨ k = 2 ∨ k = 3 ∨ k = 4 ∨ k = 5 ∨ k = 6 ∨ k = 7 ∨ k = 8 ∨ k = 9 ∨ k = 10 ∨ k = 11 ∨ k = 12 ∨ k = 13 ∨ k = 14 ∨ k = 15 ∨ k = 16 ∨ k = 17 := by omega
 rcases hi18 with rfl | rfl | rfl | rfl | rfl | rfl | rfl | rfl | rfl | rfl | rfl | rfl | rfl | rfl | rfl | rfl | rfl | rfl <;> refine sp rfl (PE.move rfl) rfl ?_ <;> refine sp rfl (PE.move rfl) rfl ?_ <;> refine sp rfl (PE.indexAddr el37 rfl rfl (by omega) (by omega)) rfl ?_ <;> refine spL rfl rfl (lh sc34 rfl rfl) rfl ?_ <;> refine sp rfl (PE.move rfl) rfl ?_ <;> refine sp rfl (PE.nilCheck rfl) rfl ?_ <;> refine sto rfl rfl rfl cn3 rfl rfl rfl rfl ?_ <;> refine sy_sn ?_
 exact sy_cutEnd ⟨{ sm0 with e := v }, sm0n, sm0k⟩ (by repeat' first | exact Sub.nil | apply Sub.cons | rfl | (simp [lk]; omega)) (fun w h => St.sub (St.tail h))
 exact sy_cutEnd ⟨{ sm0 with m := v }, sm0n, sm0k⟩ (by repeat' first | exact Sub.nil | apply Sub.cons | rfl | (simp [lk]; omega)) (fun w h => St.sub (St.tail h))
 exact sy_cutEnd ⟨{ sm0 with ga := { sm0.ga with corn := v } }, sm0n, sm0k⟩ (by repeat' first | exact Sub.nil | apply Sub.cons | rfl | (simp [lk]; omega)) (fun w h => St.sub (St.tail h))
 exact sy_cutEnd ⟨{ sm0 with gb := { sm0.gb with chaff := v } }, sm0n, sm0k⟩ (by repeat' first | exact Sub.nil | apply Sub.cons | rfl | (simp [lk]; omega)) (fun w h => St.sub (St.tail h))
 exact sy_cutEnd ⟨{ sm0 with gc := { sm0.gc with stones := v } }, sm0n, sm0k⟩ (by repeat' first | exact Sub.nil | apply Sub.cons | rfl | (simp [lk]; omega)) (fun w h => St.sub (St.tail h))
 exact sy_cutEnd ⟨{ sm0 with gb := { sm0.gb with damp := v } }, sm0n, sm0k⟩ (by repeat' first | exact Sub.nil | apply Sub.cons | rfl | (simp [lk]; omega)) (fun w h => St.sub (St.tail h))
 exact sy_cutEnd ⟨{ sm0 with gb := { sm0.gb with price := v } }, sm0n, sm0k⟩ (by repeat' first | exact Sub.nil | apply Sub.cons | rfl | (simp [lk]; omega)) (fun w h => St.sub (St.tail h))
 exact sy_cutEnd ⟨{ sm0 with f := v }, sm0n, sm0k⟩ (by repeat' first | exact Sub.nil | apply Sub.cons | rfl | (simp [lk]; omega)) (fun w h => St.sub (St.tail h))
 exact sy_cutEnd ⟨{ sm0 with q := v }, sm0n, sm0k⟩ (by repeat' first | exact Sub.nil | apply Sub.cons | rfl | (simp [lk]; omega)) (fun w h => St.sub (St.tail h))
 exact sy_cutEnd ⟨{ sm0 with hb := { sm0.hb with spot := v } }, sm0n, sm0k⟩ (by repeat' first | exact Sub.nil | apply Sub.cons | rfl | (simp [lk]; omega)) (fun w h => St.sub (St.tail h))
 exact sy_cutEnd ⟨{ sm0 with ha := { sm0.ha with a := v } }, sm0n, sm0k⟩ (by repeat' first | exact Sub.nil | apply Sub.cons | rfl | (simp [lk]; omega)) (fun w h => St.sub (St.tail h))
 exact sy_cutEnd ⟨{ sm0 with hc := { sm0.hc with d := v } }, sm0n, sm0k⟩ (by repeat' first | exact Sub.nil | apply Sub.cons | rfl | (simp [lk]; omega)) (fun w h => St.sub (St.tail h))
 exact sy_cutEnd ⟨{ sm0 with hh := { sm0.hh with spot := v } }, sm0n, sm0k⟩ (by repeat' first | exact Sub.nil | apply Sub.cons | rfl | (simp [lk]; omega)) (fun w h => St.sub (St.tail h))
 exact sy_cutEnd ⟨{ sm0 with hh := { sm0.hh with c := v } }, sm0n, sm0k⟩ (by repeat' first | exact Sub.nil | apply Sub.cons | rfl | (simp [lk]; omega)) (fun w h => St.sub (St.tail h))
 exact sy_cutEnd ⟨{ sm0 with n := v }, hv2, sm0k⟩ (by repeat' first | exact Sub.nil | apply Sub.cons | rfl | (simp [lk]; omega)) (fun w h => St.sub (St.tail h))
 exact sy_cutEnd ⟨{ sm0 with k := v }, sm0n, hv2⟩ (by repeat' first | exact Sub.nil | apply Sub.cons | rfl | (simp [lk]; omega)) (fun w h => St.sub (St.tail h))
 exact sy_cutEnd ⟨{ sm0 with m1 := v }, sm0n, sm0k⟩ (by repeat' first | exact Sub.nil | apply Sub.cons | rfl | (simp [lk]; omega)) (fun w h => St.sub (St.tail h))
 exact sy_cutEnd ⟨{ sm0 with l1 := v }, sm0n, sm0k⟩ (by repeat' first | exact Sub.nil | apply Sub.cons | rfl | (simp [lk]; omega)) (fun w h => St.sub (St.tail h))
 rintro ⟨x, hxn, hxk⟩
 dsimp only
 refine Sy.heap (fun w h => St.intRows (l := [x.l0, x.l1]) (h.pull b37)) ?_
 refine Sy.heap (fun w h => St.rows (sz := 5) (rows := grows [x.ga, x.gb, x.gc]) (rest := []) (by rw [List.append_nil]; exact h.pull bgr) (grows_len _)) ?_
 refine Sy.heap (fun w h => St.rows (sz := 5) (rows := hrows [x.ha, x.hb, x.hc]) (rest := junk) (h.pull bh) (hrows_len _)) ?_
 refine sy_seq ?_
 refine sy_tx' [0, 1, 2, 3, 4, 5, 6, 7, 8] rfl ?_
 refine spL rfl rfl (lhA (gtl (⟨x.e, x.m, [x.ga, x.gb, x.gc]⟩ : Gat) ((⟨x.e, x.m, [x.ga, x.gb, x.gc]⟩ : Gat).sl (some ⟨bgr, 0, none⟩) 3)) ag25 rfl rfl rfl) rfl ?_
 refine spL rfl rfl (lhA (ctl (⟨x.f, x.q, [x.ha, x.hb, x.hc]⟩ : Crt) ((⟨x.f, x.q, [x.ha, x.hb, x.hc]⟩ : Crt).sl (some ⟨bh, 0, none⟩) cap)) ag28 rfl rfl rfl) rfl ?_
 refine spL rfl rfl (lhA (hrow x.hh) ag33 rfl rfl rfl) rfl ?_
 refine spL rfl rfl (lh sc3 rfl rfl) rfl ?_
 refine spL rfl rfl (lh sc3 rfl rfl) rfl ?_
 refine spL rfl rfl (lhA (ints ([x.m0, x.m1, x.m2, x.m3])) ag31 rfl (rest := []) (by rw [List.append_nil]; rfl) (by rw [ints_length]; exact rfl)) rfl ?_
 refine sp rfl (PE.move rfl) rfl ?_
 refine cl rfl cal5 rfl rfl (c_asked ⟨x.e, x.m, [x.ga, x.gb, x.gc]⟩ (some ⟨bgr, 0, none⟩) 3 (by simp) ⟨x.f, x.q, [x.ha, x.hb, x.hc]⟩ (some ⟨bh, 0, none⟩) cap (by simp) x.hh x.n x.k ⟨hxn, hxk⟩ [x.m0, x.m1, x.m2, x.m3] rfl [x.l0, x.l1] (some ⟨b37, 0, none⟩) 2 (by simp) _ _) ?_
 rintro _ _ _ ⟨rfl, rfl, rfl⟩
 refine sp rfl (PE.not rfl) rfl ?_
 refine sy_cond rfl (fun hc2 => ?_) (fun hc2 => ?_)
 exact absurd hc2 (by first | (simp; done) | (rw [decide_eq_false (by omega)]; simp))
 refine sy_skip ?_
 refine sy_tx' [0, 1] rfl ?_
 refine sp rfl (PE.add rfl rfl (by omega)) rfl ?_
 refine sp rfl (PE.move rfl) rfl ?_
 exact sy_next ⟨k + 1, by omega⟩ (by dsimp only; omega) (by repeat' first | exact Sub.nil | apply Sub.cons | rfl | (simp [lk]; omega)) (fun w h => St.sub ((((((h.del b9).del b8).del b7).del b6).del b5).del b4))
 try simp only [decide_eq_true_eq, decide_eq_false_iff_not, Bool.and_eq_true, Bool.or_eq_true, Bool.not_eq_true', Int.not_le, Int.not_lt] at hc1
 refine sy_exit ?_
 repeat refine sy_tx ?_
 refine sy_bx ?_
 refine sy_tx' [0, 1] rfl ?_
 refine sp rfl (PE.add rfl rfl (by omega)) rfl ?_
 refine sp rfl (PE.move rfl) rfl ?_
 exact sy_next ⟨i + 1, by omega⟩ (by dsimp only; omega) (by repeat' first | exact Sub.nil | apply Sub.cons | rfl | (simp [lk]; omega)) (fun _ h => h)
 try simp only [decide_eq_true_eq, decide_eq_false_iff_not, Bool.and_eq_true, Bool.or_eq_true, Bool.not_eq_true', Int.not_le, Int.not_lt] at hc0
 refine Sy.heap (fun w h => St.ftail h) ?_
 refine sy_exit ?_
 repeat refine sy_tx ?_
 refine sy_bx ?_
 refine sy_seq ?_
 refine sy_seq ?_
 refine sy_tx' [0] rfl ?_
 refine sp rfl (PE.move rfl) rfl ?_
 refine sy_block ?_
 refine sy_loop (ι := {n : Nat // n ≤ 24}) (fun n => ⟨[(100, .int .i64 n.1)], H, R⟩) (fun n => 24 - n.1) ⟨0, by omega⟩ ?_ (fun n => ?_)
 exact sy_at (by repeat' first | exact Sub.nil | apply Sub.cons | rfl | (simp [lk]; omega)) (fun _ h => h)
 obtain ⟨n, hn⟩ := n
 dsimp only at hn ⊢
 refine sy_seq ?_
 refine sy_tx' [0] rfl ?_
 refine sp rfl (PE.lss rfl rfl) rfl ?_
 refine sy_seq ?_
 refine sy_cond rfl (fun hc3 => ?_) (fun hc3 => ?_)
 try simp only [decide_eq_true_eq, decide_eq_false_iff_not, Bool.and_eq_true, Bool.or_eq_true, Bool.not_eq_true', Int.not_le, Int.not_lt] at hc3
 refine sy_skip ?_
 refine sy_seq ?_
 refine sy_block ?_
 refine sy_seq ?_
 refine sy_tx' [0, 1] rfl ?_
 refine sp rfl (PE.move rfl) rfl ?_
 refine sp rfl (PE.assign rfl) rfl ?_
 refine sy_seq ?_
 refine sy_tx' [0, 1, 2, 3, 4, 5, 6] rfl ?_
 refine sp rfl (PE.move rfl) rfl ?_
 refine sp rfl (PE.rem rfl rfl (by omega)) rfl ?_
 refine sp rfl (PE.move rfl) rfl ?_
 refine sp rfl (PE.rem rfl rfl (by omega)) rfl ?_
 refine sp rfl (PE.build (out := [_, _, _]) pl25 zl25 rfl rfl) rfl ?_
 refine alc rfl zl25 rfl (fun b13 => ?_)
 refine sto rfl rfl rfl cn25 rfl rfl rfl rfl ?_
 refine sy_seq ?_
 refine sy_tx' [0] rfl ?_
 refine alc rfl zl28 rfl (fun b14 => ?_)
 refine sy_seq ?_
 refine sy_tx' [0, 1, 2, 3, 4, 5, 6, 7, 8, 9] rfl ?_
 refine sp rfl (PE.move rfl) rfl ?_
 refine sp rfl (PE.mul rfl rfl (by omega)) rfl ?_
 refine sp rfl (PE.rem rfl rfl (by omega)) rfl ?_
 refine sp rfl (PE.move rfl) rfl ?_
 refine sp rfl (PE.mul rfl rfl (by omega)) rfl ?_
 refine sp rfl (PE.rem rfl rfl (by omega)) rfl ?_
 refine sp rfl (PE.fieldAddr fo28_0 rfl) rfl ?_
 refine sto rfl rfl rfl cn3 rfl rfl rfl rfl ?_
 refine sp rfl (PE.fieldAddr fo28_1 rfl) rfl ?_
 refine sto rfl rfl rfl cn3 rfl rfl rfl rfl ?_
 refine sy_seq ?_
 refine sy_seq ?_
 refine sy_tx' [0, 1, 2] rfl ?_
 refine sp rfl (PE.move rfl) rfl ?_
 refine sp rfl (PE.rem rfl rfl (by omega)) rfl ?_
 refine sp rfl (PE.move rfl) rfl ?_
 refine sy_block ?_
 refine sy_loop (ι := (x : {x : Nat × List Grd × List Hnd // x.1 ≤ 4 ∧ x.2.1.length = x.1 ∧ x.2.2.length = x.1}) × OSl 36 5 (grows x.1.2.1) × OSl 33 5 (hrows x.1.2.2)) (fun x => ⟨[(12, .int .i64 n), (13, .pointer (some ⟨b13, 0, none⟩)), (14, .pointer (some ⟨b14, 0, none⟩)), (100, .int .i64 n), (117, .int .i64 ((n : Int) % 4)), (118, .int .i64 x.1.1.1)], x.2.1.G ++ (x.2.2.G ++ (b14, cel 28 (ctl ⟨40 * (n : Int) % 90, 7 * (n : Int) % 80, x.1.1.2.2⟩ x.2.2.fs)) :: (b13, cel 25 (gtl ⟨(n : Int) % 4, (n : Int) % 5, x.1.1.2.1⟩ x.2.1.fs)) :: H), R⟩) (fun x => 4 - x.1.1.1) ⟨⟨(0, [], []), by dsimp only; omega, rfl, rfl⟩, OSl.nil _ _, OSl.nil _ _⟩ ?_ (fun x => ?_)
 exact sy_at (by repeat' first | exact Sub.nil | apply Sub.cons | rfl | (simp [lk]; omega)) (fun _ h => h)
 obtain ⟨⟨⟨i, gs, hs⟩, hi, hgl, hhl⟩, o1, o2⟩ := x
 dsimp only at hi hgl hhl o1 o2 ⊢
 refine sy_seq ?_
 refine sy_tx' [0] rfl ?_
 refine sp rfl (PE.lss rfl rfl) rfl ?_
 refine sy_seq ?_
 refine sy_cond rfl (fun hc4 => ?_) (fun hc4 => ?_)
 try simp only [decide_eq_true_eq, decide_eq_false_iff_not, Bool.and_eq_true, Bool.or_eq_true, Bool.not_eq_true', Int.not_le, Int.not_lt] at hc4
 have hmb := mul_b4 (n := n) (i := i) (by omega) (by omega)
 have he1 := Int.emod_nonneg (n : Int) (show (i : Int) + 2 ≠ 0 by omega)
 have he2 := Int.emod_lt_of_pos (n : Int) (show (0 : Int) < (i : Int) + 2 by omega)
 refine sy_skip ?_
 refine sy_seq ?_
 refine sy_block ?_
 refine sy_seq ?_
 refine sy_tx' [0, 1] rfl ?_
 refine sp rfl (PE.move rfl) rfl ?_
 refine sp rfl (PE.assign rfl) rfl ?_
 refine sy_seq ?_
 refine sy_tx' [0, 1, 2, 3, 4, 5, 6, 7, 8, 9, 10, 11, 12, 13, 14, 15, 16, 17, 18, 19, 20, 21] rfl ?_
 refine sp rfl (PE.fieldAddr fo25_2 rfl) rfl ?_
 refine spL rfl rfl (lh sc23 rfl rfl) rfl ?_
 refine sp rfl (PE.move rfl) rfl ?_
 refine sp rfl (PE.move rfl) rfl ?_
 refine sp rfl (PE.mul rfl rfl (by omega)) rfl ?_
 refine sp rfl (PE.add rfl rfl (by omega)) rfl ?_
 refine sp rfl (PE.rem rfl rfl (by omega)) rfl ?_
 refine sp rfl (PE.move rfl) rfl ?_
 refine sp rfl (PE.move rfl) rfl ?_
 refine sp rfl (PE.mul rfl rfl (by omega)) rfl ?_
 refine sp rfl (PE.add rfl rfl (by omega)) rfl ?_
 refine sp rfl (PE.move rfl) rfl ?_
 refine sp rfl (PE.rem rfl rfl (by omega)) rfl ?_
 refine sp rfl (PE.move rfl) rfl ?_
 refine sp rfl (PE.sub rfl rfl (by omega)) rfl ?_
 refine sp rfl (PE.move rfl) rfl ?_
 refine sp rfl (PE.sub rfl rfl (by omega)) rfl ?_
 refine sp rfl (PE.build (out := [_, _, _, _, _]) pl36 zl36 rfl rfl) rfl ?_
 refine bsl (out := [_, _, _, _, _]) rfl sl23 zl36 rfl rfl rfl rfl rfl rfl (fun b139 => ?_)
 refine apO (o1) rfl ap23 rfl rfl (rowsH (row := grow (⟨((n : Int) + 13 * (i : Int)) % 41, (n : Int) * (i : Int) + 3, (n : Int) % 9, 40 - (n : Int), 10 - (i : Int)⟩ : Grd)) rfl) rfl rfl ((by simp only [grows, List.length_map, List.length_singleton]; omega)) rfl (fun o140 => ?_)
 refine sp rfl (PE.fieldAddr fo25_2 rfl) rfl ?_
 refine stoE (l' := gtl ⟨(n : Int) % 4, (n : Int) % 5, gs ++ [(⟨((n : Int) + 13 * (i : Int)) % 41, (n : Int) * (i : Int) + 3, (n : Int) % 9, 40 - (n : Int), 10 - (i : Int)⟩ : Grd)]⟩ o140.fs) rfl rfl rfl cn23 rfl (by rw [o140.cells.1]; first | done | rfl) (by rw [o140.cells.1]; simp [o140.cells.2]) (by rw [o140.cells.1]; first | done | rfl) (by rw [o140.cells.1]; first | done | exact Nat.le_refl _) ?_
 refine sy_draw [0, 1, 0, 0, 12, 28, 0, 0, 128, 448, 960, 0, 2048, 0, 0, 16384, 65472, 131068, 262140, 524287, 1048575, 2097151] (.tk 0 (.ld 1 (.tk 2 (.tk 3 (.tk 4 (.tk 5 (.tk 6 (.tk 7 (.tk 8 (.tk 9 (.tk 10 (.tk 11 (.tk 12 (.tk 13 (.tk 14 (.tk 15 (.tk 16 (.tk 17 (.big 18 (.big 19 (.tk 20 (.big 21 .done)))))))))))))))))))))) mixed (by kernel_rfl) ?_
 refine tk rfl (PE.fieldAddr fo28_2 rfl) rfl ?_
 refine ld rfl rfl (lh sc26 rfl rfl) rfl ?_
 refine tk rfl (PE.move rfl) rfl ?_
 refine tk rfl (PE.move rfl) rfl ?_
 refine tk rfl (PE.add rfl rfl (by omega)) rfl ?_
 refine tk rfl (PE.rem rfl rfl (by omega)) rfl ?_
 refine tk rfl (PE.move rfl) rfl ?_
 refine tk rfl (PE.move rfl) rfl ?_
 refine tk rfl (PE.add rfl rfl (by omega)) rfl ?_
 refine tk rfl (PE.rem rfl rfl (by omega)) rfl ?_
 refine tk rfl (PE.add rfl rfl (by omega)) rfl ?_
 refine tk rfl (PE.move rfl) rfl ?_
 refine tk rfl (PE.rem rfl rfl (by omega)) rfl ?_
 refine tk rfl (PE.move rfl) rfl ?_
 refine tk rfl (PE.move rfl) rfl ?_
 refine tk rfl (PE.quo rfl rfl (by omega)) rfl ?_
 refine tk rfl (PE.buildArr (out := [_, _, _, _]) ar31 zl31 rfl rfl) rfl ?_
 refine tk rfl (PE.build (out := [_, _, _, _, _]) pl33 zl33 rfl rfl) rfl ?_
 refine bsl (out := [_, _, _, _, _]) rfl sl26 zl33 rfl rfl rfl rfl rfl rfl (fun b160 => ?_)
 refine bg (fun w hs => ⟨(lh sc26 rfl rfl) w hs, trivial⟩) ?_
 refine apO (o2) rfl ap26 rfl rfl (rowsH (row := hrow (⟨((n : Int) + (i : Int)) % 3, 10 + (n : Int) % ((i : Int) + 2), (n : Int) % 5, (i : Int), (n : Int) / 5⟩ : Hnd)) rfl) rfl rfl ((by simp only [hrows, List.length_map, List.length_singleton]; omega)) rfl (fun o161 => ?_)
 refine bg (fun w hs => ⟨trivial, trivial⟩) ?_
 refine tk rfl (PE.fieldAddr fo28_2 rfl) rfl ?_
 refine stoE (l' := ctl ⟨40 * (n : Int) % 90, 7 * (n : Int) % 80, hs ++ [(⟨((n : Int) + (i : Int)) % 3, 10 + (n : Int) % ((i : Int) + 2), (n : Int) % 5, (i : Int), (n : Int) / 5⟩ : Hnd)]⟩ o161.fs) rfl rfl rfl cn26 rfl (by rw [o161.cells.1]; first | done | rfl) (by rw [o161.cells.1]; simp [o161.cells.2]) (by rw [o161.cells.1]; first | done | rfl) (by rw [o161.cells.1]; first | done | exact Nat.le_refl _) ?_
 refine bg (fun w hs => trivial) ?_
 refine sy_tx' [0, 1] rfl ?_
 refine sp rfl (PE.add rfl rfl (by omega)) rfl ?_
 refine sp rfl (PE.move rfl) rfl ?_
 exact sy_next ⟨⟨(i + 1, gs ++ [(⟨((n : Int) + 13 * (i : Int)) % 41, (n : Int) * (i : Int) + 3, (n : Int) % 9, 40 - (n : Int), 10 - (i : Int)⟩ : Grd)], hs ++ [(⟨((n : Int) + (i : Int)) % 3, 10 + (n : Int) % ((i : Int) + 2), (n : Int) % 5, (i : Int), (n : Int) / 5⟩ : Hnd)]), by dsimp only; omega, by simp [hgl], by simp [hhl]⟩, o140.cast (by simp [grows]), o161.cast (by simp [hrows])⟩ (by dsimp only; omega) (by repeat' first | exact Sub.nil | apply Sub.cons | rfl | (simp [lk]; omega)) (fun w h => (h.del b160).del b139)
 try simp only [decide_eq_true_eq, decide_eq_false_iff_not, Bool.and_eq_true, Bool.or_eq_true, Bool.not_eq_true', Int.not_le, Int.not_lt] at hc4
 obtain ⟨ag, cg, he, hf⟩ := o1.freeze
 rw [he]
 refine Sy.heap (fun w h => hf h) ?_
 clear he hf
 obtain ⟨ah, ch, he, hf⟩ := o2.freeze
 rw [he]
 refine Sy.heap (fun w h => hf h) ?_
 clear he hf
 rw [show (grows gs).length = gs.length from List.length_map _, show (hrows hs).length = hs.length from List.length_map _]
 refine sy_exit ?_
 repeat refine sy_tx ?_
 refine sy_bx ?_
 refine sy_seq ?_
 refine sy_tx' [0, 1, 2, 3, 4, 5, 6, 7, 8, 9, 10, 11, 12, 13, 14, 15, 16, 17, 18, 19, 20, 21, 22, 23, 24, 25, 26, 27, 28, 29, 30] rfl ?_
 refine spL rfl rfl (lhA (gtl (⟨(n : Int) % 4, (n : Int) % 5, gs⟩ : Gat) ((⟨(n : Int) % 4, (n : Int) % 5, gs⟩ : Gat).sl ag cg)) ag25 rfl rfl rfl) rfl ?_
 refine spL rfl rfl (lhA (ctl (⟨40 * (n : Int) % 90, 7 * (n : Int) % 80, hs⟩ : Crt) ((⟨40 * (n : Int) % 90, 7 * (n : Int) % 80, hs⟩ : Crt).sl ah ch)) ag28 rfl rfl rfl) rfl ?_
 refine sp rfl (PE.move rfl) rfl ?_
 refine sp rfl (PE.rem rfl rfl (by omega)) rfl ?_
 refine sp rfl (PE.move rfl) rfl ?_
 refine sp rfl (PE.move rfl) rfl ?_
 refine sp rfl (PE.rem rfl rfl (by omega)) rfl ?_
 refine sp rfl (PE.buildArr (out := [_, _, _, _]) ar31 zl31 rfl rfl) rfl ?_
 refine sp rfl (PE.build (out := [_, _, _, _, _]) pl33 zl33 rfl rfl) rfl ?_
 refine sp rfl (PE.move rfl) rfl ?_
 refine sp rfl (PE.rem rfl rfl (by omega)) rfl ?_
 refine sp rfl (PE.move rfl) rfl ?_
 refine sp rfl (PE.rem rfl rfl (by omega)) rfl ?_
 refine sp rfl (PE.sub rfl rfl (by omega)) rfl ?_
 refine sp rfl (PE.move rfl) rfl ?_
 refine sp rfl (PE.sub rfl rfl (by omega)) rfl ?_
 refine sp rfl (PE.move rfl) rfl ?_
 refine sp rfl (PE.quo rfl rfl (by omega)) rfl ?_
 refine sp rfl (PE.move rfl) rfl ?_
 refine sp rfl (PE.move rfl) rfl ?_
 refine sp rfl (PE.quo rfl rfl (by omega)) rfl ?_
 refine sp rfl (PE.sub rfl rfl (by omega)) rfl ?_
 refine sp rfl (PE.buildArr (out := [_, _, _, _]) ar31 zl31 rfl rfl) rfl ?_
 refine sp rfl (PE.move rfl) rfl ?_
 refine sp rfl (PE.rem rfl rfl (by omega)) rfl ?_
 refine sp rfl (PE.move rfl) rfl ?_
 refine sp rfl (PE.quo rfl rfl (by omega)) rfl ?_
 refine sp rfl (PE.rem rfl rfl (by omega)) rfl ?_
 refine bsl (out := [_, _]) rfl sl22 zl3 rfl rfl rfl rfl rfl rfl (fun b192 => ?_)
 refine Sy.heap (fun w h => St.intRows (l := [(n : Int) % 3, (n : Int) / 3 % 3]) (h.pull b192)) ?_
 refine cl rfl cal5 rfl rfl (c_asked ⟨(n : Int) % 4, (n : Int) % 5, gs⟩ ag cg (by dsimp only; omega) ⟨40 * (n : Int) % 90, 7 * (n : Int) % 80, hs⟩ ah ch (by dsimp only; omega) ⟨(n : Int) % 4, n, 1, 2, (n : Int) % 3⟩ ((n : Int) % 4) ((n : Int) % 5 - 1) ⟨by omega, by omega⟩ [40 - (n : Int), (n : Int) / 2, (n : Int) - (n : Int) / 2, 0] rfl [(n : Int) % 3, (n : Int) / 3 % 3] (some ⟨b192, 0, none⟩) 2 (by simp) _ _) ?_
 rintro _ _ _ ⟨rfl, rfl, rfl⟩
 refine sp rfl (PE.not rfl) rfl ?_
 refine sy_cond rfl (fun hc5 => ?_) (fun hc5 => ?_)
 exact absurd hc5 (by first | (simp; done) | (rw [decide_eq_false (by omega)]; simp))
 refine sy_skip ?_
 refine sy_tx' [0, 1] rfl ?_
 refine sp rfl (PE.add rfl rfl (by omega)) rfl ?_
 refine sp rfl (PE.move rfl) rfl ?_
 exact sy_next ⟨n + 1, by omega⟩ (by dsimp only; omega) (by repeat' first | exact Sub.nil | apply Sub.cons | rfl | (simp [lk]; omega)) (fun w h => St.sub ((h.del b14).del b13))
 try simp only [decide_eq_true_eq, decide_eq_false_iff_not, Bool.and_eq_true, Bool.or_eq_true, Bool.not_eq_true', Int.not_le, Int.not_lt] at hc3
 refine sy_exit ?_
 repeat refine sy_tx ?_
 refine sy_bx ?_
 refine sy_seq ?_
 refine sy_seq ?_
 refine sy_tx' [0] rfl ?_
 refine sp rfl (PE.move rfl) rfl ?_
 refine sy_block ?_
 refine sy_loop (ι := {n : Nat // n ≤ 8}) (fun n => ⟨[(196, .int .i64 n.1)], H, R⟩) (fun n => 8 - n.1) ⟨0, by omega⟩ ?_ (fun n => ?_)
 exact sy_at (by repeat' first | exact Sub.nil | apply Sub.cons | rfl | (simp [lk]; omega)) (fun _ h => h)
 obtain ⟨n, hn⟩ := n
 dsimp only at hn ⊢
 refine sy_seq ?_
 refine sy_tx' [0] rfl ?_
 refine sp rfl (PE.lss rfl rfl) rfl ?_
 refine sy_seq ?_
 refine sy_cond rfl (fun hc6 => ?_) (fun hc6 => ?_)
 try simp only [decide_eq_true_eq, decide_eq_false_iff_not, Bool.and_eq_true, Bool.or_eq_true, Bool.not_eq_true', Int.not_le, Int.not_lt] at hc6
 obtain ⟨hs1, hs2⟩ := sm_check n (by omega)
 refine sy_skip ?_
 refine sy_seq ?_
 refine sy_block ?_
 refine sy_seq ?_
 refine sy_tx' [0, 1] rfl ?_
 refine sp rfl (PE.move rfl) rfl ?_
 refine sp rfl (PE.assign rfl) rfl ?_
 refine sy_seq ?_
 refine sy_tx' [0, 1, 2, 3, 4, 5, 6, 7] rfl ?_
 refine Sy.heap (R' := RowsA none 1 (irows []) :: R) (fun w h => St.norows (sz := 1) h) ?_
 refine cl rfl cal4 rfl rfl (c_ThreeO [] none 0 (by decide) (by decide) _ _) ?_
 rintro _ _ R1 ⟨bgr, o, rfl, rfl, hR1⟩
 obtain rfl := hR1.symm
 clear hR1
 refine sp rfl (PE.move rfl) rfl ?_
 refine sp rfl (PE.extract rfl rfl) rfl ?_
 refine sp rfl (PE.extract rfl rfl) rfl ?_
 refine alc rfl zl25 rfl (fun b17 => ?_)
 refine alc rfl zl28 rfl (fun b18 => ?_)
 refine sto rfl rfl rfl cn25 rfl rfl rfl rfl ?_
 refine stoE (l' := ctl (exC (exS [])) o.fs) rfl rfl rfl cn28 rfl rfl (by show (ctl _ o.fs).all (·.oneCell') = true; simp only [ctl, List.all_cons, List.all_nil, o.cells.2, Bool.and_true]; rfl) rfl (Nat.le_refl _) ?_
 refine sy_seq ?_
 refine sy_tx' [0, 1] rfl ?_
 refine sp rfl (PE.fieldAddr fo25_2 rfl) rfl ?_
 refine sto rfl rfl rfl cn23 rfl rfl rfl rfl ?_
 refine sy_seq ?_
 refine sy_seq ?_
 refine sy_tx' [0, 1] rfl ?_
 refine sp rfl (PE.move rfl) rfl ?_
 refine sp rfl (PE.move rfl) rfl ?_
 refine sy_block ?_
 refine sy_loop (ι := (i : {i : Nat // i ≤ n}) × OSl 36 5 (grows (smG i.1)) × OSl 33 5 (hrows (smH i.1))) (fun x => ⟨[(16, .int .i64 n), (17, .pointer (some ⟨b17, 0, none⟩)), (18, .pointer (some ⟨b18, 0, none⟩)), (196, .int .i64 n), (204, .int .i64 n), (205, .int .i64 x.1.1)], x.2.1.G ++ (x.2.2.G ++ (b18, cel 28 (ctl ⟨1200, 300, smH x.1.1⟩ x.2.2.fs)) :: (b17, cel 25 (gtl ⟨5, 2, smG x.1.1⟩ x.2.1.fs)) :: H), R⟩) (fun x => n - x.1.1) ⟨⟨0, by omega⟩, OSl.nil _ _, o.cast rfl⟩ ?_ (fun x => ?_)
 exact sy_at (by repeat' first | exact Sub.nil | apply Sub.cons | rfl | (simp [lk]; omega)) (fun w h => St.sub ((h.del bgr).pullG o.G))
 obtain ⟨⟨i, hi⟩, o1, o2⟩ := x
 dsimp only at hi o1 o2 ⊢
 have hgl := smG_len i
 have hhl := smH_len i
 refine sy_seq ?_
 refine sy_tx' [0] rfl ?_
 refine sp rfl (PE.lss rfl rfl) rfl ?_
 refine sy_seq ?_
 refine sy_cond rfl (fun hc7 => ?_) (fun hc7 => ?_)
 try simp only [decide_eq_true_eq, decide_eq_false_iff_not, Bool.and_eq_true, Bool.or_eq_true, Bool.not_eq_true', Int.not_le, Int.not_lt] at hc7
 refine sy_skip ?_
 refine sy_seq ?_
 refine sy_block ?_
 refine sy_seq ?_
 refine sy_tx' [0, 1] rfl ?_
 refine sp rfl (PE.move rfl) rfl ?_
 refine sp rfl (PE.assign rfl) rfl ?_
 refine sy_seq ?_
 refine sy_tx' [0, 1, 2, 3, 4, 5, 6, 7, 8, 9, 10, 11, 12, 13] rfl ?_
 refine sp rfl (PE.fieldAddr fo25_2 rfl) rfl ?_
 refine spL rfl rfl (lh sc23 rfl rfl) rfl ?_
 refine sp rfl (PE.move rfl) rfl ?_
 refine sp rfl (PE.mul rfl rfl (by omega)) rfl ?_
 refine sp rfl (PE.sub rfl rfl (by omega)) rfl ?_
 refine sp rfl (PE.move rfl) rfl ?_
 refine sp rfl (PE.move rfl) rfl ?_
 refine sp rfl (PE.move rfl) rfl ?_
 refine sp rfl (PE.sub rfl rfl (by omega)) rfl ?_
 refine sp rfl (PE.build (out := [_, _, _, _, _]) pl36 zl36 rfl rfl) rfl ?_
 refine bsl (out := [_, _, _, _, _]) rfl sl23 zl36 rfl rfl rfl rfl rfl rfl (fun b218 => ?_)
 refine apO (o1) rfl ap23 rfl rfl (rowsH (row := grow (⟨40 - 3 * (i : Int), i, 0, i, 9 - (i : Int)⟩ : Grd)) rfl) rfl rfl ((by simp only [grows, List.length_map, List.length_singleton]; omega)) rfl (fun o219 => ?_)
 refine sp rfl (PE.fieldAddr fo25_2 rfl) rfl ?_
 refine stoE (l' := gtl ⟨5, 2, smG (i + 1)⟩ o219.fs) rfl rfl rfl cn23 rfl (by rw [o219.cells.1]; first | done | rfl) (by rw [o219.cells.1]; simp [o219.cells.2]) (by rw [o219.cells.1]; first | done | rfl) (by rw [o219.cells.1]; first | done | exact Nat.le_refl _) ?_
 refine sy_tx' [0, 1, 2, 3, 4, 5, 6, 7, 8, 9, 10] rfl ?_
 refine sp rfl (PE.fieldAddr fo28_2 rfl) rfl ?_
 refine spL rfl rfl (lh sc26 rfl rfl) rfl ?_
 refine sp rfl (PE.move rfl) rfl ?_
 refine sp rfl (PE.rem rfl rfl (by omega)) rfl ?_
 refine sp rfl (PE.move rfl) rfl ?_
 refine sp rfl (PE.buildArr (out := [_, _, _, _]) ar31 zl31 rfl rfl) rfl ?_
 refine sp rfl (PE.build (out := [_, _, _, _, _]) pl33 zl33 rfl rfl) rfl ?_
 refine bsl (out := [_, _, _, _, _]) rfl sl26 zl33 rfl rfl rfl rfl rfl rfl (fun b228 => ?_)
 refine apO (o2) rfl ap26 rfl rfl (rowsH (row := hrow (⟨(i : Int) % 3, 30, i, 1, 2⟩ : Hnd)) rfl) rfl rfl ((by simp only [hrows, List.length_map, List.length_singleton]; omega)) rfl (fun o229 => ?_)
 refine sp rfl (PE.fieldAddr fo28_2 rfl) rfl ?_
 refine stoE (l' := ctl ⟨1200, 300, smH (i + 1)⟩ o229.fs) rfl rfl rfl cn26 rfl (by rw [o229.cells.1]; first | done | rfl) (by rw [o229.cells.1]; simp [o229.cells.2]) (by rw [o229.cells.1]; first | done | rfl) (by rw [o229.cells.1]; first | done | exact Nat.le_refl _) ?_
 refine sy_tx' [0, 1] rfl ?_
 refine sp rfl (PE.add rfl rfl (by omega)) rfl ?_
 refine sp rfl (PE.move rfl) rfl ?_
 exact sy_next ⟨⟨i + 1, by omega⟩, o219.cast (by rw [smG_step]; simp [grows]), o229.cast (by rw [smH_step]; simp [hrows])⟩ (by dsimp only; omega) (by repeat' first | exact Sub.nil | apply Sub.cons | rfl | (simp [lk]; omega)) (fun w h => (h.del b228).del b218)
 try simp only [decide_eq_true_eq, decide_eq_false_iff_not, Bool.and_eq_true, Bool.or_eq_true, Bool.not_eq_true', Int.not_le, Int.not_lt] at hc7
 obtain rfl : i = n := by omega
 obtain ⟨ag, cg, he, hf⟩ := o1.freeze
 rw [he]
 refine Sy.heap (fun w h => hf h) ?_
 clear he hf
 obtain ⟨ah, ch, he, hf⟩ := o2.freeze
 rw [he]
 refine Sy.heap (fun w h => hf h) ?_
 clear he hf
 rw [show (grows (smG i)).length = (smG i).length from List.length_map _, show (hrows (smH i)).length = (smH i).length from List.length_map _]
 refine sy_exit ?_
 repeat refine sy_tx ?_
 refine sy_bx ?_
 refine sy_seq ?_
 refine sy_seq ?_
 refine sy_tx' [0, 1, 2, 3, 4, 5, 6, 7, 8, 9] rfl ?_
 refine spL rfl rfl (lhA (gtl (⟨5, 2, smG i⟩ : Gat) ((⟨5, 2, smG i⟩ : Gat).sl ag cg)) ag25 rfl rfl rfl) rfl ?_
 refine spL rfl rfl (lhA (ctl (⟨1200, 300, smH i⟩ : Crt) ((⟨1200, 300, smH i⟩ : Crt).sl ah ch)) ag28 rfl rfl rfl) rfl ?_
 refine sp rfl (PE.buildArr (out := [_, _, _, _]) ar31 zl31 rfl rfl) rfl ?_
 refine sp rfl (PE.build (out := [_, _, _, _, _]) pl33 zl33 rfl rfl) rfl ?_
 refine sp rfl (PE.move rfl) rfl ?_
 refine sp rfl (PE.sub rfl rfl (by omega)) rfl ?_
 refine sp rfl (PE.buildArr (out := [_, _, _, _]) ar31 zl31 rfl rfl) rfl ?_
 refine bsl (out := [_]) rfl sl22 zl3 rfl rfl rfl rfl rfl rfl (fun b239 => ?_)
 refine Sy.heap (fun w h => St.intRows (l := [0]) (h.pull b239)) ?_
 refine cl rfl cal5 rfl rfl (c_asked ⟨5, 2, smG i⟩ ag cg (by dsimp only; omega) ⟨1200, 300, smH i⟩ ah ch (by dsimp only; omega) ⟨0, 9, 0, 0, 0⟩ ((i : Int) - 1) 0 ⟨by omega, by decide⟩ [40, 0, 0, 0] rfl [0] (some ⟨b239, 0, none⟩) 1 (by decide) _ _) ?_
 rintro _ _ _ ⟨rfl, rfl, rfl⟩
 refine sp rfl (PE.not rfl) rfl ?_
 refine sy_cond rfl (fun hc8 => ?_) (fun hc8 => ?_)
 exact absurd hc8 (by first | (simp; done) | (rw [decide_eq_false (by omega)]; simp))
 refine sy_skip ?_
 refine sy_seq ?_
 refine sy_tx' [0, 1, 2, 3, 4, 5, 6, 7, 8, 9, 10, 11, 12, 13] rfl ?_
 refine spL rfl rfl (lhA (gtl (⟨5, 2, smG i⟩ : Gat) ((⟨5, 2, smG i⟩ : Gat).sl ag cg)) ag25 rfl rfl rfl) rfl ?_
 refine cl rfl cal6 rfl rfl (c_Check ⟨5, 2, smG i⟩ ag cg (by dsimp only; omega) _ _) ?_
 rintro _ _ _ ⟨rfl, rfl, rfl⟩
 refine sp rfl (PE.eql rfl rfl) rfl ?_
 refine sp rfl (PE.move rfl) rfl ?_
 refine sp rfl (PE.lss rfl rfl) rfl ?_
 refine sp rfl (PE.neqBool ub4 rfl rfl) rfl ?_
 refine sp rfl (PE.move rfl) rfl ?_
 refine sy_case (t := 248) rfl (fun g248 => ?_) (fun g248 => ?_)
 exfalso; rw [hs1, show decide ((i : Int) < 5) = decide (i < 5) from decide_eq_decide.2 (by omega)] at g248; simp at g248
 refine spLG rfl rfl rfl rfl rfl (lhA (ctl (⟨1200, 300, smH i⟩ : Crt) ((⟨1200, 300, smH i⟩ : Crt).sl ah ch)) ag28 rfl rfl rfl) rfl ?_
 refine clG rfl rfl rfl rfl cal7 rfl rfl (c_CheckCart ⟨1200, 300, smH i⟩ ah ch (by dsimp only; omega) _ _) ?_
 rintro _ _ _ ⟨rfl, rfl, rfl⟩
 refine spG rfl rfl rfl rfl (PE.eql rfl rfl) rfl ?_
 refine spG rfl rfl rfl rfl (PE.move rfl) rfl ?_
 refine spG rfl rfl rfl rfl (PE.lss rfl rfl) rfl ?_
 refine spG rfl rfl rfl rfl (PE.neqBool ub4 rfl rfl) rfl ?_
 refine sp rfl (PE.pick rfl rfl rfl) rfl ?_
 refine sy_cond rfl (fun hc9 => ?_) (fun hc9 => ?_)
 exfalso; rw [hs2, show decide ((i : Int) < 7) = decide (i < 7) from decide_eq_decide.2 (by omega)] at hc9; simp at hc9
 refine sy_skip ?_
 refine sy_tx' [0, 1] rfl ?_
 refine sp rfl (PE.add rfl rfl (by omega)) rfl ?_
 refine sp rfl (PE.move rfl) rfl ?_
 exact sy_next ⟨i + 1, by omega⟩ (by dsimp only; omega) (by repeat' first | exact Sub.nil | apply Sub.cons | rfl | (simp [lk]; omega)) (fun w h => St.sub ((h.del b18).del b17))
 try simp only [decide_eq_true_eq, decide_eq_false_iff_not, Bool.and_eq_true, Bool.or_eq_true, Bool.not_eq_true', Int.not_le, Int.not_lt] at hc6
 refine sy_exit ?_
 repeat refine sy_tx ?_
 refine sy_bx ?_
 refine sy_seq ?_
 refine sy_tx' [0, 1] rfl ?_
 refine clV rfl cal8 rfl rfl (c_awake _ _) ?_
 refine sp rfl (PE.assign rfl) rfl ?_
 refine sy_ret ?_
 exact sy_return (vs := [_]) rfl (.cons (RV.tmp rfl) .nil) rfl ⟨rfl, rfl, rfl⟩ (fun _ h => h)
end Go.Proofs.YtndhkpnaeocnhaaGreat
