/- Walks of the functions of the program, and the laws that join them: what the last theorem of this claim needs, in order. -/
import Derived.Test.YtaldphhdkmchhaaCc1
namespace Go.Proofs.Ytaldphhdkmchhaa
set_option linter.unusedSimpArgs false
set_option linter.unusedVariables false
structure Rn where
  sacks : Int
  price : Int
  deriving DecidableEq, Repr
structure Sta where
  stock : Int
  short : Int
  dry : Int
  deriving DecidableEq, Repr
structure Twn where
  now : Sta
  holds : Int
  need : Int
  patience : Int
  run : Int
  good : Int
  bad : Int
  rot : Int
  rats : List Rn
  deriving DecidableEq, Repr
def Sta.right (t : Twn) (s : Sta) : Bool := (decide (0 ≤ s.stock) && decide (s.stock ≤ t.holds)) && (decide (0 ≤ s.short) && decide (s.short ≤ t.patience)) && (decide (0 ≤ s.dry) && decide (s.dry ≤ t.run))
def leftOf (t : Twn) (s : Sta) (q : Rn) : Int := s.stock - q.sacks - ((s.stock - q.sacks) * t.rot + 9) / 10
def Twn.next (t : Twn) (s : Sta) (q : Rn) (bad : Bool) : Sta :=
  ⟨min t.holds (leftOf t s q + bif bad then t.bad else t.good), bif decide (q.sacks < t.need) then s.short + 1 else 0, bif bad then s.dry + 1 else 0⟩
def Twn.can (t : Twn) (s : Sta) (q : Rn) : Bool := decide (q.sacks ≤ s.stock) && (!decide (q.sacks < t.need) || decide (s.short < t.patience))
def badAt (l : List Rn) (i : Nat) : Bool := match l[i]?, l[i + 1]? with
  | some a, some b => decide (a.sacks ≤ b.sacks) || decide (b.price ≤ a.price)
  | _, _ => false
@[reducible] def inb (n lo hi : Int) : Bool := decide (lo ≤ n) && decide (n ≤ hi)
def Twn.check (t : Twn) : Int :=
  bif !(inb t.rats.length 1 4) then 2 else bif !([t.holds, t.need, t.good, t.bad].all fun n => inb n 0 30) then 3
  else bif !(inb t.patience 0 3) then 3 else bif !(inb t.run 0 3) then 3 else bif !(inb t.rot 0 5) then 3 else bif !(t.now.right t) then 3
  else bif !(t.rats.all fun q => inb q.sacks 0 30 && inb q.price 0 100) then 3 else bif decide (t.good < t.bad) then 4 else bif (List.range t.rats.length).any (badAt t.rats) then 4 else 0
structure Twn.ok (t : Twn) : Prop where
  holds : 0 ≤ t.holds ∧ t.holds ≤ 30
  need : 0 ≤ t.need ∧ t.need ≤ 30
  good : 0 ≤ t.good ∧ t.good ≤ 30
  bad : 0 ≤ t.bad ∧ t.bad ≤ t.good
  patience : 0 ≤ t.patience ∧ t.patience ≤ 3
  run : 0 ≤ t.run ∧ t.run ≤ 3
  rot : 0 ≤ t.rot ∧ t.rot ≤ 5
  rats : ∀ q ∈ t.rats, 0 ≤ q.sacks ∧ q.sacks ≤ 30 ∧ 0 ≤ q.price ∧ q.price ≤ 100
  now : t.now.right t = true
  many : 1 ≤ t.rats.length ∧ t.rats.length ≤ 4
theorem right_iff {t : Twn} {s : Sta} : s.right t = true ↔ (0 ≤ s.stock ∧ s.stock ≤ t.holds) ∧ (0 ≤ s.short ∧ s.short ≤ t.patience) ∧ (0 ≤ s.dry ∧ s.dry ≤ t.run) := by
  simp [Sta.right, and_assoc]
theorem ok_of_check {t : Twn} (h : t.check = 0) : t.ok ∧ ∀ i, badAt t.rats i = false := by
  unfold Twn.check at h
  cases h1 : inb t.rats.length 1 4 <;> rw [h1] at h
  · cases h
  cases h2 : [t.holds, t.need, t.good, t.bad].all fun n => inb n 0 30 <;> rw [h2] at h
  · cases h
  cases h3 : inb t.patience 0 3 <;> rw [h3] at h
  · cases h
  cases h4 : inb t.run 0 3 <;> rw [h4] at h
  · cases h
  cases h5 : inb t.rot 0 5 <;> rw [h5] at h
  · cases h
  cases h6 : t.now.right t <;> rw [h6] at h
  · cases h
  cases h7 : t.rats.all fun q => inb q.sacks 0 30 && inb q.price 0 100 <;> rw [h7] at h
  · cases h
  cases h8 : decide (t.good < t.bad) <;> rw [h8] at h
  rotate_left
  · cases h
  cases h9 : (List.range t.rats.length).any (badAt t.rats) <;> rw [h9] at h
  rotate_left
  · cases h
  simp only [inb, Bool.and_eq_true, decide_eq_true_eq, List.all_cons, List.all_nil, decide_eq_false_iff_not] at h1 h2 h3 h4 h5 h8
  refine ⟨⟨h2.1, h2.2.1, h2.2.2.1, ⟨h2.2.2.2.1.1, by omega⟩, h3, h4, h5, fun q hq => ?_, h6, by omega⟩, fun i => ?_⟩
  · have := List.all_eq_true.1 h7 q hq
    simp only [inb, Bool.and_eq_true, decide_eq_true_eq] at this
    omega
  · rcases Nat.lt_or_ge i t.rats.length with hi | hi
    · have := List.any_eq_false.1 h9 i (List.mem_range.2 hi)
      simpa using this
    · simp [badAt, List.getElem?_eq_none hi]
theorem rot_bd {x r : Int} (h0 : 0 ≤ x) (h1 : x ≤ 30) (h2 : 0 ≤ r) (h3 : r ≤ 5) : 0 ≤ x * r ∧ x * r ≤ 150 ∧ x * r ≤ x * 5 := by
  have a := Int.mul_nonneg h0 h2
  have b := Int.mul_le_mul_of_nonneg_left h3 h0
  omega
theorem left_nonneg {t : Twn} (ht : t.ok) {s : Sta} {q : Rn} (hs : s.right t = true) (hq : q ∈ t.rats) (hc : q.sacks ≤ s.stock) : 0 ≤ leftOf t s q := by
  have h1 := right_iff.1 hs
  have h2 := ht.rats q hq
  have h3 := ht.holds
  have h4 := rot_bd (x := s.stock - q.sacks) (r := t.rot) (by omega) (by omega) ht.rot.1 ht.rot.2
  unfold leftOf
  by_cases h0 : s.stock - q.sacks = 0
  · rw [h0]; simp
  · omega
theorem next_right {t : Twn} (ht : t.ok) {s : Sta} {q : Rn} {bad : Bool} (hs : s.right t = true) (hq : q ∈ t.rats) (hc : t.can s q = true) (hb : bad = true → s.dry < t.run) : (t.next s q bad).right t = true := by
  have h1 := right_iff.1 hs
  have h2 := ht.rats q hq
  have h3 := ht.holds
  have h5 := ht.good
  have h6 := ht.bad
  have hc' : q.sacks ≤ s.stock ∧ (t.need ≤ q.sacks ∨ s.short < t.patience) := by
    simpa [Twn.can] using hc
  have h4 := left_nonneg ht hs hq hc'.1
  rw [right_iff]
  unfold Twn.next
  cases bad
  · simp only [cond_false]
    refine ⟨by omega, ?_, by omega⟩
    by_cases hn : q.sacks < t.need
    · simp only [hn, decide_true, cond_true]; omega
    · simp only [hn, decide_false, cond_false]; omega
  · have := hb rfl
    simp only [cond_true]
    refine ⟨by omega, ?_, by omega⟩
    by_cases hn : q.sacks < t.need
    · simp only [hn, decide_true, cond_true]; omega
    · simp only [hn, decide_false, cond_false]; omega
def Sta.ix (s : Sta) : Nat := s.stock.toNat * 16 + s.short.toNat * 4 + s.dry.toNat
def lat (y : List Int) (s : Sta) : Int := y.getD s.ix 0
theorem ix_lt {t : Twn} {s : Sta} (ht : t.ok) (h : s.right t = true) : s.ix < 496 := by
  have h1 := right_iff.1 h
  have h2 := ht.holds
  have h3 := ht.patience
  have h4 := ht.run
  unfold Sta.ix; omega
theorem ix_inj {t : Twn} {s u : Sta} (ht : t.ok) (h : s.right t = true) (k : u.right t = true) (e : s.ix = u.ix) : s = u := by
  have h1 := right_iff.1 h
  have k1 := right_iff.1 k
  have h3 := ht.patience
  have h4 := ht.run
  unfold Sta.ix at e
  obtain ⟨a, b, c⟩ := s
  obtain ⟨a', b', c'⟩ := u
  simp only at h1 k1 e
  simp only [Sta.mk.injEq]
  omega
theorem lat_get {y : List Int} {s : Sta} (h : s.ix < y.length) : y[s.ix]? = some (lat y s) := by simp [lat, h]
def Twn.keeps (t : Twn) (y : List Int) (s : Sta) (q : Rn) (bads : Int) : Bool :=
  t.can s q && decide (bads ≤ lat y (t.next s q false)) && (decide (bads = 0) || !decide (s.dry < t.run) || decide ((bif decide (bads = 1000000) then 1000000 else bads - 1) ≤ lat y (t.next s q true)))
def Twn.nst (t : Twn) : Nat := (t.holds.toNat + 1) * (t.patience.toNat + 1) * (t.run.toNat + 1)
def staAt (t : Twn) (i : Nat) : Sta := ⟨(i / (t.run.toNat + 1) / (t.patience.toNat + 1) : Nat), (i / (t.run.toNat + 1) % (t.patience.toNat + 1) : Nat), (i % (t.run.toNat + 1) : Nat)⟩
def sts (t : Twn) : List Sta := (List.range t.nst).map (staAt t)
theorem sts_len (t : Twn) : (sts t).length = t.nst := by simp [sts]
theorem sts_get {t : Twn} {i : Nat} (h : i < t.nst) : (sts t)[i]? = some (staAt t i) := by simp [sts, h]
theorem staAt_of {t : Twn} {a b c : Nat} (hb : b ≤ t.patience.toNat) (hc : c ≤ t.run.toNat) : staAt t ((a * (t.patience.toNat + 1) + b) * (t.run.toNat + 1) + c) = ⟨a, b, c⟩ := by
  have e1 : ((a * (t.patience.toNat + 1) + b) * (t.run.toNat + 1) + c) / (t.run.toNat + 1) = a * (t.patience.toNat + 1) + b := by
    rw [Nat.mul_comm, Nat.mul_add_div (by omega), Nat.div_eq_of_lt (by omega), Nat.add_zero]
  have e2 : ((a * (t.patience.toNat + 1) + b) * (t.run.toNat + 1) + c) % (t.run.toNat + 1) = c := by
    rw [Nat.mul_comm, Nat.mul_add_mod, Nat.mod_eq_of_lt (by omega)]
  have e3 : (a * (t.patience.toNat + 1) + b) / (t.patience.toNat + 1) = a := by
    rw [Nat.mul_comm, Nat.mul_add_div (by omega), Nat.div_eq_of_lt (by omega), Nat.add_zero]
  have e4 : (a * (t.patience.toNat + 1) + b) % (t.patience.toNat + 1) = b := by
    rw [Nat.mul_comm, Nat.mul_add_mod, Nat.mod_eq_of_lt (by omega)]
  unfold staAt
  rw [e1, e2, e3, e4]
theorem nst_lt {t : Twn} {a b c : Nat} (ha : a ≤ t.holds.toNat) (hb : b ≤ t.patience.toNat) (hc : c ≤ t.run.toNat) : (a * (t.patience.toNat + 1) + b) * (t.run.toNat + 1) + c < t.nst := by
  have h1 : a * (t.patience.toNat + 1) + b + 1 ≤ (t.holds.toNat + 1) * (t.patience.toNat + 1) := by
    have := Nat.mul_le_mul_right (t.patience.toNat + 1) ha
    rw [Nat.add_mul]; omega
  have h2 := Nat.mul_le_mul_right (t.run.toNat + 1) h1
  unfold Twn.nst
  rw [Nat.add_mul] at h2
  omega
theorem sts_right {t : Twn} (ht : t.ok) {s : Sta} (h : s ∈ sts t) : s.right t = true := by
  obtain ⟨i, hi, rfl⟩ := List.mem_map.1 h
  have hi' := List.mem_range.1 hi
  unfold Twn.nst at hi'
  have h1 := ht.holds
  have h2 := ht.patience
  have h3 := ht.run
  have a1 := Nat.mod_lt i (show 0 < t.run.toNat + 1 by omega)
  have a2 := Nat.mod_lt (i / (t.run.toNat + 1)) (show 0 < t.patience.toNat + 1 by omega)
  have a3 : i / (t.run.toNat + 1) / (t.patience.toNat + 1) < t.holds.toNat + 1 := by
    rw [Nat.div_lt_iff_lt_mul (by omega), Nat.div_lt_iff_lt_mul (by omega)]; exact hi'
  rw [right_iff]
  unfold staAt
  simp only
  generalize i / (t.run.toNat + 1) / (t.patience.toNat + 1) = x at *
  generalize i / (t.run.toNat + 1) % (t.patience.toNat + 1) = x2 at *
  generalize i % (t.run.toNat + 1) = x3 at *
  omega
theorem right_sts {t : Twn} {s : Sta} (h : s.right t = true) : s ∈ sts t := by
  have h1 := right_iff.1 h
  have h2 := nst_lt (t := t) (a := s.stock.toNat) (b := s.short.toNat) (c := s.dry.toNat) (by omega) (by omega) (by omega)
  have h3 := sts_get h2
  rw [staAt_of (by omega) (by omega)] at h3
  have := List.mem_of_getElem? h3
  obtain ⟨a, b, c⟩ := s
  simp only at h1 this
  rwa [Int.toNat_of_nonneg h1.1.1, Int.toNat_of_nonneg h1.2.1.1, Int.toNat_of_nonneg h1.2.2.1] at this
end Go.Proofs.Ytaldphhdkmchhaa
namespace Go.Proofs.Ytaldphhdkmchhaa
set_option linter.unusedSimpArgs false
set_option linter.unusedVariables false
open Go
theorem ag23 : aggN Try.prog 23 = some 3 := by kernel_rfl
theorem ag26 : aggN Try.prog 26 = some 11 := by kernel_rfl
theorem cal103 : cal Try.prog 103 = true := by kernel_rfl
theorem cal128 : cal Try.prog 128 = true := by kernel_rfl
theorem cal92 : cal Try.prog 92 = true := by kernel_rfl
theorem cn23 : cellN Try.prog 23 = some 3 := by kernel_rfl
theorem cn3 : cellN Try.prog 3 = some 1 := by kernel_rfl
theorem el24 : elN Try.prog 24 = some 2 := by kernel_rfl
theorem el42 : elN Try.prog 42 = some 1 := by kernel_rfl
theorem fo23_0 : fOff Try.prog 23 0 = some 0 := by kernel_rfl
theorem fo23_1 : fOff Try.prog 23 1 = some 1 := by kernel_rfl
theorem fo23_2 : fOff Try.prog 23 2 = some 2 := by kernel_rfl
theorem fo26_1 : fOff Try.prog 26 1 = some 3 := by kernel_rfl
theorem fo26_2 : fOff Try.prog 26 2 = some 4 := by kernel_rfl
theorem fo26_3 : fOff Try.prog 26 3 = some 5 := by kernel_rfl
theorem fo26_4 : fOff Try.prog 26 4 = some 6 := by kernel_rfl
theorem fo26_5 : fOff Try.prog 26 5 = some 7 := by kernel_rfl
theorem fo26_6 : fOff Try.prog 26 6 = some 8 := by kernel_rfl
theorem fo26_7 : fOff Try.prog 26 7 = some 9 := by kernel_rfl
theorem fo26_8 : fOff Try.prog 26 8 = some 10 := by kernel_rfl
theorem fo91_0 : fOff Try.prog 91 0 = some 0 := by kernel_rfl
theorem isl24 : isSl Try.prog 24 = true := by kernel_rfl
theorem isl42 : isSl Try.prog 42 = true := by kernel_rfl
theorem pl23 : placeL Try.prog 23 = some [(0, 1), (1, 1), (2, 1)] := by kernel_rfl
theorem sc24 : scal Try.prog 24 = true := by kernel_rfl
theorem sc3 : scal Try.prog 3 = true := by kernel_rfl
theorem sl42 : slE Try.prog 42 = some (3, 1) := by kernel_rfl
theorem zl23 : zeroL Try.prog 23 = some ([.int .i64 0, .int .i64 0, .int .i64 0]) := by kernel_rfl
theorem zl3 : zeroL Try.prog 3 = some ([.int .i64 0]) := by kernel_rfl
theorem c_in (n lo hi : Int) (H : Heap) (R : Facts) :
    FnV Try.prog 92 [.int .i64 n, .int .i64 lo, .int .i64 hi] H R (.bool (decide (lo ≤ n) && decide (n ≤ hi))) := by
 refine fn_of Try.func92 rfl Try.ntmps92 rfl ?_
 refine sy_seq ?_
 refine sy_tx' [0] rfl ?_
 refine sp rfl (PE.assign rfl) rfl ?_
 refine sy_seq ?_
 refine sy_tx' [0, 1, 2, 3, 4, 5, 6, 7, 8] rfl ?_
 refine sp rfl (PE.move rfl) rfl ?_
 refine sp rfl (PE.move rfl) rfl ?_
 refine sp rfl (PE.geq rfl rfl) rfl ?_
 refine sp rfl (PE.move rfl) rfl ?_
 refine sy_case (t := 10) rfl (fun g10 => ?_) (fun g10 => ?_)
 try simp only [decide_eq_true_eq, decide_eq_false_iff_not, Bool.and_eq_true, Bool.or_eq_true, Bool.not_eq_true', Int.not_le, Int.not_lt] at g10
 refine spG rfl rfl rfl rfl (PE.move rfl) rfl ?_
 refine spG rfl rfl rfl rfl (PE.move rfl) rfl ?_
 refine spG rfl rfl rfl rfl (PE.leq rfl rfl) rfl ?_
 refine sp rfl (PE.pick rfl rfl rfl) rfl ?_
 refine sp rfl (PE.assign rfl) rfl ?_
 refine sy_ret ?_
 exact sy_return (vs := [_]) rfl (.cons (RV.tmp rfl) .nil) rfl ⟨by simp [retV, g10]; try omega, rfl, rfl⟩ drp
 try simp only [decide_eq_true_eq, decide_eq_false_iff_not, Bool.and_eq_true, Bool.or_eq_true, Bool.not_eq_true', Int.not_le, Int.not_lt] at g10
 repeat refine spN rfl rfl rfl rfl rfl rfl rfl rfl ?_
 refine sp rfl (PE.pick rfl rfl rfl) rfl ?_
 refine sp rfl (PE.assign rfl) rfl ?_
 refine sy_ret ?_
 exact sy_return (vs := [_]) rfl (.cons (RV.tmp rfl) .nil) rfl ⟨by simp [retV, g10]; try omega, rfl, rfl⟩ drp
theorem c_least1 (n m : Int) (a : Option Addr) (c : Nat) (H : Heap) (R : Facts) [hR : MemRows a 1 [[.int .i64 m]] R] :
    FnV Try.prog 103 [.int .i64 n, .slice a 1 c] H R (.int .i64 (min n m)) := by
 refine fn_of Try.func103 rfl Try.ntmps103 rfl ?_
 refine sy_seq ?_
 refine sy_tx' [0] rfl ?_
 refine sp rfl (PE.assign rfl) rfl ?_
 refine sy_seq ?_
 refine sy_seq ?_
 refine sy_tx' [0, 1, 2] rfl ?_
 refine sp rfl (PE.move rfl) rfl ?_
 refine sp rfl (PE.lenSl isl42 rfl) rfl ?_
 refine sp rfl (PE.move rfl) rfl ?_
 refine sy_block ?_
 refine sy_addr (a := a) (sz := 1) (rows := [[.int .i64 m]]) (by simp) (fun b off he => ?_)
 subst he
 refine sy_loop (ι := {k : Nat // k ≤ 1}) (fun k => ⟨[(0, .int .i64 (bif k.1 == 0 then n else min n m)), (7, .slice (some ⟨b, off, none⟩) 1 c), (8, .int .i64 1), (9, .int .i64 k.1)], H, R⟩) (fun k => 1 - k.1) ⟨0, by omega⟩ ?_ (fun k => ?_)
 exact sy_at (by repeat' first | exact Sub.nil | apply Sub.cons | rfl | (simp [lk]; omega)) (fun _ h => h)
 obtain ⟨k, hk⟩ := k
 dsimp only
 refine sy_seq ?_
 refine sy_tx' [0] rfl ?_
 refine sp rfl (PE.lss rfl rfl) rfl ?_
 refine sy_seq ?_
 refine sy_cond rfl (fun hc0 => ?_) (fun hc0 => ?_)
 simp only [decide_eq_true_eq, decide_eq_false_iff_not, Bool.and_eq_true, Bool.or_eq_true, Bool.not_eq_true', Int.not_le, Int.not_lt] at hc0
 obtain rfl : k = 0 := by omega
 refine sy_skip ?_
 refine sy_seq ?_
 refine sy_block ?_
 refine sy_seq ?_
 refine sy_tx' [0, 1, 2] rfl ?_
 refine sp rfl (PE.indexAddr el42 rfl rfl (by omega) (by omega)) rfl ?_
 refine spL rfl rfl (lf0 sc3 (row := [.int .i64 m]) rfl rfl) rfl ?_
 refine sp rfl (PE.assign rfl) rfl ?_
 refine sy_tx' [0, 1, 2, 3] rfl ?_
 refine sp rfl (PE.move rfl) rfl ?_
 refine sp rfl (PE.move rfl) rfl ?_
 refine sp rfl (PE.min rfl rfl) rfl ?_
 refine sp rfl (PE.assign rfl) rfl ?_
 refine sy_tx' [0, 1] rfl ?_
 refine sp rfl (PE.add rfl rfl (by omega)) rfl ?_
 refine sp rfl (PE.move rfl) rfl ?_
 exact sy_next ⟨1, by omega⟩ (by simp) (by repeat' first | exact Sub.nil | apply Sub.cons | rfl | (simp [lk]; omega)) (fun _ h => h)
 try simp only [decide_eq_true_eq, decide_eq_false_iff_not, Bool.and_eq_true, Bool.or_eq_true, Bool.not_eq_true', Int.not_le, Int.not_lt] at hc0
 refine sy_exit ?_
 repeat refine sy_tx ?_
 refine sy_bx ?_
 refine sy_seq ?_
 refine sy_tx' [0, 1] rfl ?_
 refine sp rfl (PE.move rfl) rfl ?_
 refine sp rfl (PE.assign rfl) rfl ?_
 refine sy_ret ?_
 obtain rfl : k = 1 := by omega
 exact sy_return (vs := [_]) rfl (.cons (RV.tmp rfl) .nil) rfl ⟨rfl, rfl, rfl⟩ drp
abbrev Sta.v (s : Sta) : Value := .agg #[.int .i64 s.stock, .int .i64 s.short, .int .i64 s.dry]
abbrev twl (t : Twn) (sl : Value) : List Value := [.int .i64 t.now.stock, .int .i64 t.now.short, .int .i64 t.now.dry, .int .i64 t.holds, .int .i64 t.need, .int .i64 t.patience, .int .i64 t.run, .int .i64 t.good, .int .i64 t.bad, .int .i64 t.rot, sl]
abbrev Twn.v (t : Twn) (sl : Value) : Value := .agg (twl t sl).toArray
def rrow (q : Rn) : List Value := [.int .i64 q.sacks, .int .i64 q.price]
def rrows (l : List Rn) : List (List Value) := l.map rrow
abbrev Twn.sl (t : Twn) (a : Option Addr) (c : Nat) : Value := .slice a t.rats.length c
theorem rr_get {l : List Rn} {k : Nat} {q : Rn} (h : l[k]? = some q) : (rrows l)[k]? = some (rrow q) := by simp [rrows, h]
theorem c_right (t : Twn) (s : Sta) (sl : Value) (H : Heap) (R : Facts) :
    FnV Try.prog 91 [t.v sl, s.v] H R (.bool (s.right t)) := by
 refine fn_of Try.func91 rfl Try.ntmps91 rfl ?_
 refine sy_seq ?_
 refine sy_tx' [0, 1, 2] rfl ?_
 refine bx rfl rfl rfl (fun b2 => ?_)
 refine bx rfl rfl rfl (fun b3 => ?_)
 refine sp rfl (PE.assign rfl) rfl ?_
 refine sy_seq ?_
 refine sy_tx' [0, 1, 2, 3, 4, 5, 6, 7, 8, 9, 10, 11, 12, 13, 14, 15, 16, 17, 18, 19] rfl ?_
 refine sp rfl (PE.fieldAddr fo23_0 rfl) rfl ?_
 refine spL rfl rfl (lh sc3 rfl rfl) rfl ?_
 refine sp rfl (PE.fieldAddr fo26_1 rfl) rfl ?_
 refine spL rfl rfl (lh sc3 rfl rfl) rfl ?_
 refine clV rfl cal92 rfl rfl (c_in _ _ _ _ _) ?_
 refine sp rfl (PE.move rfl) rfl ?_
 refine sy_case (t := 10) rfl (fun g10 => ?_) (fun g10 => ?_)
 refine spG rfl rfl rfl rfl (PE.fieldAddr fo23_1 rfl) rfl ?_
 refine spLG rfl rfl rfl rfl rfl (lh sc3 rfl rfl) rfl ?_
 refine spG rfl rfl rfl rfl (PE.fieldAddr fo26_3 rfl) rfl ?_
 refine spLG rfl rfl rfl rfl rfl (lh sc3 rfl rfl) rfl ?_
 refine clVG rfl rfl rfl rfl cal92 rfl rfl (c_in _ _ _ _ _) ?_
 refine sp rfl (PE.pick rfl rfl rfl) rfl ?_
 refine sp rfl (PE.move rfl) rfl ?_
 refine sy_case (t := 17) rfl (fun g17 => ?_) (fun g17 => ?_)
 refine spG rfl rfl rfl rfl (PE.fieldAddr fo23_2 rfl) rfl ?_
 refine spLG rfl rfl rfl rfl rfl (lh sc3 rfl rfl) rfl ?_
 refine spG rfl rfl rfl rfl (PE.fieldAddr fo26_4 rfl) rfl ?_
 refine spLG rfl rfl rfl rfl rfl (lh sc3 rfl rfl) rfl ?_
 refine clVG rfl rfl rfl rfl cal92 rfl rfl (c_in _ _ _ _ _) ?_
 refine sp rfl (PE.pick rfl rfl rfl) rfl ?_
 refine sp rfl (PE.assign rfl) rfl ?_
 refine sy_ret ?_
 exact sy_return (vs := [_]) rfl (.cons (RV.tmp rfl) .nil) rfl ⟨by simp_all only [retV, Sta.right, Bool.true_and, Bool.false_and, cond_true, cond_false], rfl, rfl⟩ drp
 repeat refine spN rfl rfl rfl rfl rfl rfl rfl rfl ?_
 refine sp rfl (PE.pick rfl rfl rfl) rfl ?_
 refine sp rfl (PE.assign rfl) rfl ?_
 refine sy_ret ?_
 exact sy_return (vs := [_]) rfl (.cons (RV.tmp rfl) .nil) rfl ⟨by simp_all only [retV, Sta.right, Bool.true_and, Bool.false_and, cond_true, cond_false], rfl, rfl⟩ drp
 repeat refine spN rfl rfl rfl rfl rfl rfl rfl rfl ?_
 refine sp rfl (PE.pick rfl rfl rfl) rfl ?_
 refine sp rfl (PE.move rfl) rfl ?_
 repeat refine spN rfl rfl rfl rfl rfl rfl rfl rfl ?_
 refine sp rfl (PE.pick rfl rfl rfl) rfl ?_
 refine sp rfl (PE.assign rfl) rfl ?_
 refine sy_ret ?_
 exact sy_return (vs := [_]) rfl (.cons (RV.tmp rfl) .nil) rfl ⟨by simp_all only [retV, Sta.right, Bool.true_and, Bool.false_and, cond_true, cond_false], rfl, rfl⟩ drp
theorem c_ration (t : Twn) (r : Int) (a : Option Addr) (c : Nat) (hl : t.rats.length ≤ 9223372036854775807) (H : Heap) (R : Facts) :
    FnV Try.prog 93 [t.v (t.sl a c), .int .i64 r] H R (.bool (decide (0 ≤ r) && decide (r ≤ (t.rats.length : Int) - 1))) := by
 refine fn_of Try.func93 rfl Try.ntmps93 rfl ?_
 refine sy_seq ?_
 refine sy_tx' [0, 1] rfl ?_
 refine bx rfl rfl rfl (fun b2 => ?_)
 refine sp rfl (PE.assign rfl) rfl ?_
 refine sy_seq ?_
 refine sy_tx' [0, 1, 2, 3, 4, 5, 6] rfl ?_
 refine sp rfl (PE.move rfl) rfl ?_
 refine sp rfl (PE.fieldAddr fo26_8 rfl) rfl ?_
 refine spL rfl rfl (lh sc24 rfl rfl) rfl ?_
 refine sp rfl (PE.lenSl isl24 rfl) rfl ?_
 refine sp rfl (PE.sub rfl rfl (by omega)) rfl ?_
 refine clV rfl cal92 rfl rfl (c_in _ _ _ _ _) ?_
 refine sp rfl (PE.assign rfl) rfl ?_
 refine sy_ret ?_
 exact sy_return (vs := [_]) rfl (.cons (RV.tmp rfl) .nil) rfl ⟨rfl, rfl, rfl⟩ drp
theorem nthq {l : List Rn} {r : Int} {q : Rn} (h0 : 0 ≤ r) (h : l[r.toNat]? = some q) : r < l.length := by
  have := (List.getElem?_eq_some_iff.1 h).1; omega
theorem c_short (t : Twn) (r : Int) (q : Rn) (b off c : Nat) (h0 : 0 ≤ r) (hq : t.rats[r.toNat]? = some q) (H : Heap) (R : Facts) [hR : MemRows (some ⟨b, off, none⟩) 2 (rrows t.rats) R] :
    FnV Try.prog 128 [t.v (t.sl (some ⟨b, off, none⟩) c), .int .i64 r] H R (.bool (decide (q.sacks < t.need))) := by
 have hr := nthq h0 hq
 refine fn_of Try.func128 rfl Try.ntmps128 rfl ?_
 refine sy_seq ?_
 refine sy_tx' [0, 1] rfl ?_
 refine bx rfl rfl rfl (fun b2 => ?_)
 refine sp rfl (PE.assign rfl) rfl ?_
 refine sy_seq ?_
 refine sy_draw [0, 1, 0, 7, 15, 31, 0, 64, 255, 511] (.tk 0 (.ld 1 (.tk 2 (.tk 3 (.tk 4 (.ld 5 (.tk 6 (.ld 7 (.tk 8 (.tk 9 .done)))))))))) mixed (by kernel_rfl) ?_
 refine tk rfl (PE.fieldAddr fo26_8 rfl) rfl ?_
 refine ld rfl rfl (lh sc24 rfl rfl) rfl ?_
 refine tk rfl (PE.move rfl) rfl ?_
 refine tk rfl (PE.indexAddr el24 rfl rfl (by omega) (by omega)) rfl ?_
 refine tk rfl (PE.fieldAddr fo91_0 rfl) rfl ?_
 refine ld rfl rfl (lf sc3 (rr_get hq) rfl) rfl ?_
 refine tk rfl (PE.fieldAddr fo26_2 rfl) rfl ?_
 refine ld rfl rfl (lh sc3 rfl rfl) rfl ?_
 refine tk rfl (PE.lss rfl rfl) rfl ?_
 refine tk rfl (PE.assign rfl) rfl ?_
 refine sy_ret ?_
 exact sy_return (vs := [_]) rfl (.cons (RV.tmp rfl) .nil) rfl ⟨rfl, rfl, rfl⟩ drp
theorem c_allowed (t : Twn) (s : Sta) (r : Int) (q : Rn) (b off c : Nat) (h0 : 0 ≤ r) (hq : t.rats[r.toNat]? = some q) (H : Heap) (R : Facts) [hR : MemRows (some ⟨b, off, none⟩) 2 (rrows t.rats) R] :
    FnV Try.prog 94 [t.v (t.sl (some ⟨b, off, none⟩) c), s.v, .int .i64 r] H R (.bool (t.can s q)) := by
 have hr := nthq h0 hq
 refine fn_of Try.func94 rfl Try.ntmps94 rfl ?_
 refine sy_seq ?_
 refine sy_tx' [0, 1, 2] rfl ?_
 refine bx rfl rfl rfl (fun b3 => ?_)
 refine bx rfl rfl rfl (fun b4 => ?_)
 refine sp rfl (PE.assign rfl) rfl ?_
 refine sy_seq ?_
 refine sy_draw [0, 1, 0, 7, 15, 31, 0, 64, 255, 511, 1023, 1023, 4095, 8191, 16383, 32767, 65535, 32767, 163839, 524287, 1048575, 2097151, 4194303] (.tk 0 (.ld 1 (.tk 2 (.tk 3 (.tk 4 (.ld 5 (.tk 6 (.ld 7 (.tk 8 (.tk 9 (.ld 10 (.tk 11 (.big 12 (.tk 13 (.tk 14 (.tk 15 (.ld 16 (.tk 17 (.ld 18 (.tk 19 (.tk 20 (.tk 21 (.tk 22 .done))))))))))))))))))))))) mixed (by kernel_rfl) ?_
 refine tk rfl (PE.fieldAddr fo26_8 rfl) rfl ?_
 refine ld rfl rfl (lh sc24 rfl rfl) rfl ?_
 refine tk rfl (PE.move rfl) rfl ?_
 refine tk rfl (PE.indexAddr el24 rfl rfl (by omega) (by omega)) rfl ?_
 refine tk rfl (PE.fieldAddr fo91_0 rfl) rfl ?_
 refine ld rfl rfl (lf sc3 (rr_get hq) rfl) rfl ?_
 refine tk rfl (PE.fieldAddr fo23_0 rfl) rfl ?_
 refine ld rfl rfl (lh sc3 rfl rfl) rfl ?_
 refine tk rfl (PE.leq rfl rfl) rfl ?_
 refine tk rfl (PE.move rfl) rfl ?_
 refine sy_case (t := 16) rfl (fun g16 => ?_) (fun g16 => ?_)
 try simp only [decide_eq_true_eq, decide_eq_false_iff_not, Bool.and_eq_true, Bool.or_eq_true, Bool.not_eq_true', Int.not_le, Int.not_lt] at g16
 refine ldG rfl rfl rfl rfl rfl (lhA [_, _, _, _, _, _, _, _, _, _, _] ag26 rfl rfl rfl) rfl ?_
 refine tkG rfl rfl rfl rfl (PE.move rfl) rfl ?_
 refine clVG rfl rfl rfl rfl cal128 rfl rfl (c_short t r q b off c h0 hq _ _) ?_
 refine bg (fun w hs => ⟨trivial, trivial, trivial, trivial, trivial⟩) ?_
 refine tkG rfl rfl rfl rfl (PE.not rfl) rfl ?_
 refine tkG rfl rfl rfl rfl (PE.move rfl) rfl ?_
 refine sy_case (t := 21) rfl (fun g21 => ?_) (fun g21 => ?_)
 try simp only [decide_eq_true_eq, decide_eq_false_iff_not, Bool.and_eq_true, Bool.or_eq_true, Bool.not_eq_true', Int.not_le, Int.not_lt] at g21
 refine tkN rfl rfl rfl rfl rfl rfl rfl rfl ?_
 refine ldN rfl rfl rfl rfl rfl rfl rfl rfl ?_
 refine tkN rfl rfl rfl rfl rfl rfl rfl rfl ?_
 refine ldN rfl rfl rfl rfl rfl rfl rfl rfl ?_
 refine tkN rfl rfl rfl rfl rfl rfl rfl rfl ?_
 refine tkG rfl rfl rfl rfl (PE.pick rfl rfl rfl) rfl ?_
 refine tk rfl (PE.pick rfl rfl rfl) rfl ?_
 refine tk rfl (PE.assign rfl) rfl ?_
 refine sy_ret ?_
 exact sy_return (vs := [_]) rfl (.cons (RV.tmp rfl) .nil) rfl ⟨by simp_all [retV, Twn.can] <;> omega, rfl, rfl⟩ drp
 try simp only [decide_eq_true_eq, decide_eq_false_iff_not, Bool.and_eq_true, Bool.or_eq_true, Bool.not_eq_true', Int.not_le, Int.not_lt] at g21
 refine tkG rfl rfl rfl rfl (PE.fieldAddr fo23_1 rfl) rfl ?_
 refine ldG rfl rfl rfl rfl rfl (lh sc3 rfl rfl) rfl ?_
 refine tkG rfl rfl rfl rfl (PE.fieldAddr fo26_3 rfl) rfl ?_
 refine ldG rfl rfl rfl rfl rfl (lh sc3 rfl rfl) rfl ?_
 refine tkG rfl rfl rfl rfl (PE.lss rfl rfl) rfl ?_
 refine tkG rfl rfl rfl rfl (PE.pick rfl rfl rfl) rfl ?_
 refine tk rfl (PE.pick rfl rfl rfl) rfl ?_
 refine tk rfl (PE.assign rfl) rfl ?_
 refine sy_ret ?_
 exact sy_return (vs := [_]) rfl (.cons (RV.tmp rfl) .nil) rfl ⟨by simp_all [retV, Twn.can] <;> omega, rfl, rfl⟩ drp
 try simp only [decide_eq_true_eq, decide_eq_false_iff_not, Bool.and_eq_true, Bool.or_eq_true, Bool.not_eq_true', Int.not_le, Int.not_lt] at g16
 refine ldN rfl rfl rfl rfl rfl rfl rfl rfl ?_
 refine tkN rfl rfl rfl rfl rfl rfl rfl rfl ?_
 refine spN rfl rfl rfl rfl rfl rfl rfl rfl ?_
 refine bg (fun w hs => ⟨trivial, trivial, trivial, trivial, trivial⟩) ?_
 repeat refine tkN rfl rfl rfl rfl rfl rfl rfl rfl ?_
 refine tkU rfl rfl rfl rfl rfl rfl rfl ?_
 refine ldU rfl rfl rfl rfl rfl rfl rfl ?_
 refine tkU rfl rfl rfl rfl rfl rfl rfl ?_
 refine ldU rfl rfl rfl rfl rfl rfl rfl ?_
 refine tkU rfl rfl rfl rfl rfl rfl rfl ?_
 refine tkN rfl rfl rfl rfl rfl rfl rfl rfl ?_
 refine tk rfl (PE.pick rfl rfl rfl) rfl ?_
 refine tk rfl (PE.assign rfl) rfl ?_
 refine sy_ret ?_
 exact sy_return (vs := [_]) rfl (.cons (RV.tmp rfl) .nil) rfl ⟨by simp_all [retV, Twn.can] <;> omega, rfl, rfl⟩ drp
theorem c_next (t : Twn) (ht : t.ok) (s : Sta) (hs : s.right t = true) (r : Int) (q : Rn) (bad : Bool) (b off c : Nat) (h0 : 0 ≤ r) (hq : t.rats[r.toNat]? = some q) (hc : q.sacks ≤ s.stock) (H : Heap) (R : Facts) [hR : MemRows (some ⟨b, off, none⟩) 2 (rrows t.rats) R] :
    FnV Try.prog 102 [t.v (t.sl (some ⟨b, off, none⟩) c), s.v, .int .i64 r, .bool bad] H R (t.next s q bad).v := by
 have hr := nthq h0 hq
 have hq1 := ht.rats q (List.mem_of_getElem? hq)
 have hs1 := right_iff.1 hs
 have h1 := ht.holds
 have h2 := ht.good
 have h3 := ht.bad
 have h4 := ht.run
 have h5 := ht.patience
 have h6 := rot_bd (x := s.stock - q.sacks) (r := t.rot) (by omega) (by omega) ht.rot.1 ht.rot.2
 refine fn_of Try.func102 rfl Try.ntmps102 rfl ?_
 refine sy_seq ?_
 refine sy_tx' [0, 1, 2] rfl ?_
 refine bx rfl rfl rfl (fun b4 => ?_)
 refine bx rfl rfl rfl (fun b5 => ?_)
 refine alc rfl zl23 rfl (fun b8 => ?_)
 refine sy_seq ?_
 refine sy_draw [0, 1, 0, 4, 0, 28, 60, 124, 255, 511] (.tk 0 (.ld 1 (.tk 2 (.ld 3 (.tk 4 (.tk 5 (.tk 6 (.ld 7 (.tk 8 (.tk 9 .done)))))))))) mixed (by kernel_rfl) ?_
 refine tk rfl (PE.fieldAddr fo23_0 rfl) rfl ?_
 refine ld rfl rfl (lh sc3 rfl rfl) rfl ?_
 refine tk rfl (PE.fieldAddr fo26_8 rfl) rfl ?_
 refine ld rfl rfl (lh sc24 rfl rfl) rfl ?_
 refine tk rfl (PE.move rfl) rfl ?_
 refine tk rfl (PE.indexAddr el24 rfl rfl (by omega) (by omega)) rfl ?_
 refine tk rfl (PE.fieldAddr fo91_0 rfl) rfl ?_
 refine ld rfl rfl (lf sc3 (rr_get hq) rfl) rfl ?_
 refine tk rfl (PE.sub rfl rfl (by omega)) rfl ?_
 refine tk rfl (PE.assign rfl) rfl ?_
 refine sy_seq ?_
 refine sy_tx' [0, 1, 2, 3, 4, 5, 6, 7, 8] rfl ?_
 refine sp rfl (PE.move rfl) rfl ?_
 refine sp rfl (PE.move rfl) rfl ?_
 refine sp rfl (PE.fieldAddr fo26_7 rfl) rfl ?_
 refine spL rfl rfl (lh sc3 rfl rfl) rfl ?_
 refine sp rfl (PE.mul rfl rfl (by omega)) rfl ?_
 refine sp rfl (PE.add rfl rfl (by omega)) rfl ?_
 refine sp rfl (PE.quo rfl rfl (by omega)) rfl ?_
 refine sp rfl (PE.sub rfl rfl (by omega)) rfl ?_
 refine sp rfl (PE.assign rfl) rfl ?_
 refine sy_seq ?_
 refine sy_tx' [0, 1, 2, 3, 4, 5, 6, 7, 8, 9, 10] rfl ?_
 refine sp rfl (PE.fieldAddr fo26_1 rfl) rfl ?_
 refine spL rfl rfl (lh sc3 rfl rfl) rfl ?_
 refine sp rfl (PE.move rfl) rfl ?_
 refine sp rfl (PE.fieldAddr fo26_5 rfl) rfl ?_
 refine spL rfl rfl (lh sc3 rfl rfl) rfl ?_
 refine sp rfl (PE.add rfl rfl (by omega)) rfl ?_
 refine bsl (out := [_]) rfl sl42 zl3 rfl rfl rfl rfl rfl rfl (fun b34 => ?_)
 refine Sy.heap (fun w h => St.rows (sz := 1) (rows := [[.int .i64 _]]) (rest := []) h (by simp)) ?_
 refine clV rfl cal103 rfl rfl (c_least1 _ _ _ _ _ _) ?_
 refine sp rfl (PE.build (out := [_, _, _]) pl23 zl23 rfl rfl) rfl ?_
 refine alc rfl zl23 rfl (fun b10 => ?_)
 refine sto rfl rfl rfl cn23 rfl rfl rfl rfl ?_
 refine sy_seq ?_
 refine sy_seq ?_
 refine sy_tx' [0] rfl ?_
 refine sp rfl (PE.move rfl) rfl ?_
 refine sy_cond rfl (fun hc0 => ?_) (fun hc0 => ?_)
 subst hc0
 refine sy_draw [0, 1, 0, 0, 8, 28, 60, 127, 0, 256, 768, 2047, 4095] (.tk 0 (.ld 1 (.tk 2 (.tk 3 (.ld 4 (.tk 5 (.tk 8 (.ld 9 (.tk 10 (.big 6 (.big 7 (.tk 11 (.big 12 .done))))))))))))) mixed (by kernel_rfl) ?_
 refine tk rfl (PE.fieldAddr fo26_1 rfl) rfl ?_
 refine ld rfl rfl (lh sc3 rfl rfl) rfl ?_
 refine tk rfl (PE.move rfl) rfl ?_
 refine tk rfl (PE.fieldAddr fo26_6 rfl) rfl ?_
 refine ld rfl rfl (lh sc3 rfl rfl) rfl ?_
 refine tk rfl (PE.add rfl rfl (by omega)) rfl ?_
 refine tk rfl (PE.fieldAddr fo23_2 rfl) rfl ?_
 refine ld rfl rfl (lh sc3 rfl rfl) rfl ?_
 refine tk rfl (PE.add rfl rfl (by omega)) rfl ?_
 refine bsl (out := [_]) rfl sl42 zl3 rfl rfl rfl rfl rfl rfl (fun b44 => ?_)
 refine bg (fun w hs => ⟨(lh sc3 rfl rfl) w hs, trivial, (lh sc3 rfl rfl) w hs, trivial⟩) ?_
 refine Sy.heap (fun w h => St.rows (sz := 1) (rows := [[.int .i64 _]]) (rest := []) h (by simp)) ?_
 refine clV rfl cal103 rfl rfl (c_least1 _ _ _ _ _ _) ?_
 refine bg (fun w hs => ⟨(lh sc3 rfl rfl) w hs, trivial, trivial⟩) ?_
 refine tk rfl (PE.build (out := [_, _, _]) pl23 zl23 rfl rfl) rfl ?_
 refine sto rfl rfl rfl cn23 rfl rfl rfl rfl ?_
 refine bg (fun w hs => ⟨trivial, trivial⟩) ?_
 refine sy_seq ?_
 refine sy_seq ?_
 refine sy_tx' [0, 1, 2] rfl ?_
 refine spL rfl rfl (lhA [_, _, _, _, _, _, _, _, _, _, _] ag26 rfl rfl rfl) rfl ?_
 refine sp rfl (PE.move rfl) rfl ?_
 refine clV rfl cal128 rfl rfl (c_short t r q b off c h0 hq _ _) ?_
 refine sy_cond rfl (fun hc1 => ?_) (fun hc1 => ?_)
 refine sy_tx' [0, 1, 2, 3, 4] rfl ?_
 refine sp rfl (PE.fieldAddr fo23_1 rfl) rfl ?_
 refine spL rfl rfl (lh sc3 rfl rfl) rfl ?_
 refine sp rfl (PE.add rfl rfl (by omega)) rfl ?_
 refine sp rfl (PE.fieldAddr fo23_1 rfl) rfl ?_
 refine sto rfl rfl rfl cn3 rfl rfl rfl rfl ?_
 refine sy_seq ?_
 refine sy_tx' [0, 1] rfl ?_
 refine spL rfl rfl (lhA [_, _, _] ag23 rfl rfl rfl) rfl ?_
 refine sto rfl rfl rfl cn23 rfl rfl rfl rfl ?_
 refine sy_ret ?_
 exact sy_return (vs := [_]) rfl (.cons (RV.cell rfl (lhA [_, _, _] ag23 rfl rfl rfl)) .nil) rfl ⟨by simp only [retV, Twn.next, leftOf, hc1, cond_true, cond_false], rfl, rfl⟩ drp
 refine sy_skip ?_
 refine sy_seq ?_
 refine sy_tx' [0, 1] rfl ?_
 refine spL rfl rfl (lhA [_, _, _] ag23 rfl rfl rfl) rfl ?_
 refine sto rfl rfl rfl cn23 rfl rfl rfl rfl ?_
 refine sy_ret ?_
 exact sy_return (vs := [_]) rfl (.cons (RV.cell rfl (lhA [_, _, _] ag23 rfl rfl rfl)) .nil) rfl ⟨by simp only [retV, Twn.next, leftOf, hc1, cond_true, cond_false], rfl, rfl⟩ drp
 subst hc0
 refine sy_skip ?_
 refine sy_seq ?_
 refine sy_seq ?_
 refine sy_tx' [0, 1, 2] rfl ?_
 refine spL rfl rfl (lhA [_, _, _, _, _, _, _, _, _, _, _] ag26 rfl rfl rfl) rfl ?_
 refine sp rfl (PE.move rfl) rfl ?_
 refine clV rfl cal128 rfl rfl (c_short t r q b off c h0 hq _ _) ?_
 refine sy_cond rfl (fun hc1 => ?_) (fun hc1 => ?_)
 refine sy_tx' [0, 1, 2, 3, 4] rfl ?_
 refine sp rfl (PE.fieldAddr fo23_1 rfl) rfl ?_
 refine spL rfl rfl (lh sc3 rfl rfl) rfl ?_
 refine sp rfl (PE.add rfl rfl (by omega)) rfl ?_
 refine sp rfl (PE.fieldAddr fo23_1 rfl) rfl ?_
 refine sto rfl rfl rfl cn3 rfl rfl rfl rfl ?_
 refine sy_seq ?_
 refine sy_tx' [0, 1] rfl ?_
 refine spL rfl rfl (lhA [_, _, _] ag23 rfl rfl rfl) rfl ?_
 refine sto rfl rfl rfl cn23 rfl rfl rfl rfl ?_
 refine sy_ret ?_
 exact sy_return (vs := [_]) rfl (.cons (RV.cell rfl (lhA [_, _, _] ag23 rfl rfl rfl)) .nil) rfl ⟨by simp only [retV, Twn.next, leftOf, hc1, cond_true, cond_false], rfl, rfl⟩ drp
 refine sy_skip ?_
 refine sy_seq ?_
 refine sy_tx' [0, 1] rfl ?_
 refine spL rfl rfl (lhA [_, _, _] ag23 rfl rfl rfl) rfl ?_
 refine sto rfl rfl rfl cn23 rfl rfl rfl rfl ?_
 refine sy_ret ?_
 exact sy_return (vs := [_]) rfl (.cons (RV.cell rfl (lhA [_, _, _] ag23 rfl rfl rfl)) .nil) rfl ⟨by simp only [retV, Twn.next, leftOf, hc1, cond_true, cond_false], rfl, rfl⟩ drp
end Go.Proofs.Ytaldphhdkmchhaa
namespace Go.Proofs.Ytaldphhdkmchhaa
set_option linter.unusedSimpArgs false
set_option linter.unusedVariables false
open Go
theorem ag91 : aggN Try.prog 91 = some 2 := by kernel_rfl
theorem cal105 : cal Try.prog 105 = true := by kernel_rfl
theorem cal119 : cal Try.prog 119 = true := by kernel_rfl
theorem cal120 : cal Try.prog 120 = true := by kernel_rfl
theorem cal121 : cal Try.prog 121 = true := by kernel_rfl
theorem cal124 : cal Try.prog 124 = true := by kernel_rfl
theorem cal131 : cal Try.prog 131 = true := by kernel_rfl
theorem cal135 : cal Try.prog 135 = true := by kernel_rfl
theorem cal136 : cal Try.prog 136 = true := by kernel_rfl
theorem cal138 : cal Try.prog 138 = true := by kernel_rfl
theorem cal76 : cal Try.prog 76 = true := by kernel_rfl
theorem cal91 : cal Try.prog 91 = true := by kernel_rfl
theorem cn91 : cellN Try.prog 91 = some 2 := by kernel_rfl
theorem fo26_0 : fOff Try.prog 26 0 = some 0 := by kernel_rfl
theorem fo91_1 : fOff Try.prog 91 1 = some 1 := by kernel_rfl
theorem sc119 : scal Try.prog 119 = true := by kernel_rfl
theorem sc179 : scal Try.prog 179 = true := by kernel_rfl
theorem zl91 : zeroL Try.prog 91 = some ([.int .i64 0, .int .i64 0]) := by kernel_rfl
abbrev irows (l : List Int) : List (List Value) := l.map fun z => [.int .i64 z]
theorem find_hit {α : Type} {xs : List α} {p : α → Bool} {k : Nat} {x : α} (hx : xs[k]? = some x) (hn : ∀ y ∈ xs.take k, p y = false) (h : p x = true) : xs.findIdx? p = some k := by
  induction xs generalizing k with
  | nil => simp at hx
  | cons y ys ih =>
    cases k with
    | zero => simp only [List.getElem?_cons_zero, Option.some.injEq] at hx; subst hx; simp [List.findIdx?_cons, h]
    | succ k =>
      have hy := hn y (by simp)
      have := ih (by simpa using hx) (fun z hz => hn z (by simp [hz]))
      simp [List.findIdx?_cons, hy, this]
theorem find_miss {α : Type} {xs : List α} {p : α → Bool} (hn : ∀ y ∈ xs, p y = false) : xs.findIdx? p = none := by
  rw [List.findIdx?_eq_none_iff]; exact hn
theorem take_miss {α : Type} {xs : List α} {p : α → Bool} {k : Nat} {x : α} (hx : xs[k]? = some x) (hn : ∀ y ∈ xs.take k, p y = false) (h : p x = false) : ∀ y ∈ xs.take (k + 1), p y = false := by
  intro y hy
  rw [List.take_add_one, hx] at hy
  rcases List.mem_append.1 hy with h1 | h1
  · exact hn y h1
  · simp only [Option.toList_some, List.mem_singleton] at h1; subst h1; exact h
theorem idx_any {α : Type} (xs : List α) (p : α → Bool) : Value.bool (decide (0 ≤ (match xs.findIdx? p with | some k => (k : Int) | none => -1))) = .bool (xs.any p) := by
  congr 1
  cases h : xs.findIdx? p with
  | none =>
    have := List.findIdx?_eq_none_iff.1 h
    have h2 : xs.any p = false := by simpa using this
    rw [h2]; rfl
  | some k =>
    have h2 : xs.any p = true := by
      rw [← Bool.not_eq_false]; intro h3
      have : xs.findIdx? p = none := List.findIdx?_eq_none_iff.2 (by simpa using h3)
      rw [this] at h; cases h
    rw [h2]; simp
theorem not_any_not {α : Type} (xs : List α) (p : α → Bool) : Value.bool (!xs.any fun x => !p x) = .bool (xs.all p) := by
  congr 1
  induction xs with
  | nil => rfl
  | cons x xs ih => simp [← ih]
theorem c_idx_int (xs : List Int) (a : Option Addr) (c g : Nat) (fst cap : List Value) (p : Int → Bool) (hg : cal Try.prog g = true) (hl : xs.length ≤ 9223372036854775807) (H : Heap) (R : Facts) [hR : MemRows a 1 (irows xs) R] (hp : ∀ x, x ∈ xs → FnV Try.prog g (fst ++ [.int .i64 x] ++ cap) H R (.bool (p x))) :
    FnV Try.prog 124 [.slice a xs.length c, .func (.func g) fst.toArray cap.toArray] H R (.int .i64 (match xs.findIdx? p with | some k => (k : Int) | none => -1)) := by
 refine fn_of Try.func124 rfl Try.ntmps124 rfl ?_
 refine sy_seq ?_
 refine sy_tx' [0] rfl ?_
 refine sp rfl (PE.assign rfl) rfl ?_
 refine sy_seq ?_
 refine sy_seq ?_
 refine sy_tx' [0, 1, 2] rfl ?_
 refine sp rfl (PE.move rfl) rfl ?_
 refine sp rfl (PE.lenSl isl42 rfl) rfl ?_
 refine sp rfl (PE.move rfl) rfl ?_
 refine sy_block ?_
 refine sy_loop (ι := {k : Nat // k ≤ xs.length ∧ ∀ x ∈ xs.take k, p x = false}) (fun k => ⟨[(0, .slice a xs.length c), (1, .func (.func g) fst.toArray cap.toArray), (7, .int .i64 xs.length), (8, .int .i64 k.1)], H, R⟩) (fun k => xs.length - k.1) ⟨0, by simp⟩ ?_ (fun k => ?_)
 exact sy_at (by repeat' first | exact Sub.nil | apply Sub.cons | rfl | (simp [lk]; omega)) (fun _ h => h)
 obtain ⟨k, hk, hn⟩ := k
 dsimp only
 refine sy_seq ?_
 refine sy_tx' [0] rfl ?_
 refine sp rfl (PE.lss rfl rfl) rfl ?_
 refine sy_seq ?_
 refine sy_cond rfl (fun hc0 => ?_) (fun hc0 => ?_)
 simp only [decide_eq_true_eq, decide_eq_false_iff_not, Bool.and_eq_true, Bool.or_eq_true, Bool.not_eq_true', Int.not_le, Int.not_lt] at hc0
 obtain ⟨x, hx⟩ : ∃ x, xs[k]? = some x := ⟨_, List.getElem?_eq_getElem (by omega)⟩
 have hxm := List.mem_of_getElem? hx
 refine sy_addr (a := a) (sz := 1) (rows := irows xs) (by cases xs <;> simp_all [irows]) (fun b off he => ?_)
 subst he
 refine sy_skip ?_
 refine sy_seq ?_
 refine sy_block ?_
 refine sy_seq ?_
 refine sy_tx' [0, 1] rfl ?_
 refine sp rfl (PE.move rfl) rfl ?_
 refine sp rfl (PE.assign rfl) rfl ?_
 refine sy_seq ?_
 refine sy_tx' [0, 1, 2, 3, 4, 5] rfl ?_
 refine sp rfl (PE.move rfl) rfl ?_
 refine sp rfl (PE.move rfl) rfl ?_
 refine sp rfl (PE.move rfl) rfl ?_
 refine sp rfl (PE.indexAddr el42 rfl rfl (by omega) (by omega)) rfl ?_
 refine spL rfl rfl (lf0 sc3 (by simp [irows, hx]; rfl) rfl) rfl ?_
 refine clFV rfl rfl (hg) rfl rfl (hp x hxm) ?_
 refine sy_cond rfl (fun hc1 => ?_) (fun hc1 => ?_)
 refine sy_seq ?_
 refine sy_tx' [0, 1] rfl ?_
 refine sp rfl (PE.move rfl) rfl ?_
 refine sp rfl (PE.assign rfl) rfl ?_
 refine sy_ret ?_
 first | (exact sy_return (vs := [_]) rfl (.cons (RV.tmp rfl) .nil) rfl ⟨by rw [find_hit hx hn hc1]; rfl, rfl, rfl⟩ (fun _ h => h)) | (exact sy_return (vs := [_]) rfl (.cons (RV.tmp rfl) .nil) rfl ⟨by rw [find_miss (by simpa using hn)]; rfl, rfl, rfl⟩ (fun _ h => h))
 refine sy_skip ?_
 refine sy_tx' [0, 1] rfl ?_
 refine sp rfl (PE.add rfl rfl (by omega)) rfl ?_
 refine sp rfl (PE.move rfl) rfl ?_
 exact sy_next ⟨k + 1, by omega, take_miss hx hn hc1⟩ (by dsimp only; omega) (by repeat' first | exact Sub.nil | apply Sub.cons | rfl | (simp [lk]; omega)) (fun _ h => h)
 simp only [decide_eq_true_eq, decide_eq_false_iff_not, Bool.and_eq_true, Bool.or_eq_true, Bool.not_eq_true', Int.not_le, Int.not_lt] at hc0
 obtain rfl : k = xs.length := by omega
 refine sy_exit ?_
 repeat refine sy_tx ?_
 refine sy_bx ?_
 refine sy_seq ?_
 refine sy_tx' [0] rfl ?_
 refine sp rfl (PE.assign rfl) rfl ?_
 refine sy_ret ?_
 first | (exact sy_return (vs := [_]) rfl (.cons (RV.tmp rfl) .nil) rfl ⟨by rw [find_hit hx hn hc1]; rfl, rfl, rfl⟩ (fun _ h => h)) | (exact sy_return (vs := [_]) rfl (.cons (RV.tmp rfl) .nil) rfl ⟨by rw [find_miss (by simpa using hn)]; rfl, rfl, rfl⟩ (fun _ h => h))
theorem c_has_int (xs : List Int) (a : Option Addr) (c g : Nat) (fst cap : List Value) (p : Int → Bool) (hg : cal Try.prog g = true) (hl : xs.length ≤ 9223372036854775807) (H : Heap) (R : Facts) [hR : MemRows a 1 (irows xs) R] (hp : ∀ x, x ∈ xs → FnV Try.prog g (fst ++ [.int .i64 x] ++ cap) H R (.bool (p x))) :
    FnV Try.prog 76 [.slice a xs.length c, .func (.func g) fst.toArray cap.toArray] H R (.bool (xs.any p)) := by
 refine fn_of Try.func76 rfl Try.ntmps76 rfl ?_
 refine sy_seq ?_
 refine sy_tx' [0] rfl ?_
 refine sp rfl (PE.assign rfl) rfl ?_
 refine sy_seq ?_
 refine sy_tx' [0, 1, 2, 3, 4] rfl ?_
 refine sp rfl (PE.move rfl) rfl ?_
 refine sp rfl (PE.move rfl) rfl ?_
 refine clV rfl cal124 rfl rfl (c_idx_int xs a c g fst cap p hg hl _ _ hp) ?_
 refine sp rfl (PE.geq rfl rfl) rfl ?_
 refine sp rfl (PE.assign rfl) rfl ?_
 refine sy_ret ?_
 exact sy_return (vs := [_]) rfl (.cons (RV.tmp rfl) .nil) rfl ⟨by simp only [retV]; exact idx_any _ _, rfl, rfl⟩ drp
theorem c_ev1_int (x : Int) (g bf : Nat) (fst cap : List Value) (p : Bool) (hg : cal Try.prog g = true) (H : Heap) (R : Facts) [hM : Mem1 bf (cel 119 [.func (.func g) fst.toArray cap.toArray]) H] (hp : FnV Try.prog g (fst ++ [.int .i64 x] ++ cap) H R (.bool p)) :
    FnV Try.prog 131 [.int .i64 x, .pointer (some ⟨bf, 0, none⟩)] H R (.bool !p) := by
 refine fn_of Try.func131 rfl Try.ntmps131 rfl ?_
 refine sy_seq ?_
 refine sy_tx' [0] rfl ?_
 refine sp rfl (PE.assign rfl) rfl ?_
 refine sy_seq ?_
 refine sy_tx' [0, 1, 2, 3, 4] rfl ?_
 refine spL rfl rfl (lh sc119 rfl rfl) rfl ?_
 refine sp rfl (PE.move rfl) rfl ?_
 refine clFV rfl rfl (hg) rfl rfl (hp) ?_
 refine sp rfl (PE.not rfl) rfl ?_
 refine sp rfl (PE.assign rfl) rfl ?_
 refine sy_ret ?_
 exact sy_return (vs := [_]) rfl (.cons (RV.tmp rfl) .nil) rfl ⟨rfl, rfl, rfl⟩ drp
theorem c_every_int (xs : List Int) (a : Option Addr) (c g : Nat) (fst cap : List Value) (p : Int → Bool) (hg : cal Try.prog g = true) (hl : xs.length ≤ 9223372036854775807) (H : Heap) (R : Facts) [hR : MemRows a 1 (irows xs) R] (hp : ∀ b x, x ∈ xs → FnV Try.prog g (fst ++ [.int .i64 x] ++ cap) ((b, cel 119 [.func (.func g) fst.toArray cap.toArray]) :: H) R (.bool (p x))) :
    FnV Try.prog 105 [.slice a xs.length c, .func (.func g) fst.toArray cap.toArray] H R (.bool (xs.all p)) := by
 refine fn_of Try.func105 rfl Try.ntmps105 rfl ?_
 refine sy_seq ?_
 refine sy_tx' [0, 1] rfl ?_
 refine bx rfl rfl rfl (fun b3 => ?_)
 refine sp rfl (PE.assign rfl) rfl ?_
 refine sy_seq ?_
 refine sy_tx' [0, 1, 2, 3, 4] rfl ?_
 refine sp rfl (PE.move rfl) rfl ?_
 refine sp rfl (PE.makeFunc rfl rfl) rfl ?_
 refine clV rfl cal76 rfl rfl (c_has_int xs a c 131 [] [_] (fun x => !p x) cal131 hl _ _ (hp := fun x hx => c_ev1_int x g _ fst cap (p x) hg _ _ (hp := hp _ x hx))) ?_
 refine sp rfl (PE.not rfl) rfl ?_
 refine sp rfl (PE.assign rfl) rfl ?_
 refine sy_ret ?_
 exact sy_return (vs := [_]) rfl (.cons (RV.tmp rfl) .nil) rfl ⟨by simp only [retV]; rw [not_any_not], rfl, rfl⟩ drp
theorem c_idx_rat (xs : List Rn) (a : Option Addr) (c g : Nat) (fst cap : List Value) (p : Rn → Bool) (hg : cal Try.prog g = true) (hl : xs.length ≤ 9223372036854775807) (H : Heap) (R : Facts) [hR : MemRows a 2 (rrows xs) R] (hp : ∀ x, x ∈ xs → FnV Try.prog g (fst ++ [.agg (rrow x).toArray] ++ cap) H R (.bool (p x))) :
    FnV Try.prog 138 [.slice a xs.length c, .func (.func g) fst.toArray cap.toArray] H R (.int .i64 (match xs.findIdx? p with | some k => (k : Int) | none => -1)) := by
 refine fn_of Try.func138 rfl Try.ntmps138 rfl ?_
 refine sy_seq ?_
 refine sy_tx' [0] rfl ?_
 refine sp rfl (PE.assign rfl) rfl ?_
 refine sy_seq ?_
 refine sy_seq ?_
 refine sy_tx' [0, 1, 2] rfl ?_
 refine sp rfl (PE.move rfl) rfl ?_
 refine sp rfl (PE.lenSl isl24 rfl) rfl ?_
 refine sp rfl (PE.move rfl) rfl ?_
 refine sy_block ?_
 refine sy_loop (ι := {k : Nat // k ≤ xs.length ∧ ∀ x ∈ xs.take k, p x = false}) (fun k => ⟨[(0, .slice a xs.length c), (1, .func (.func g) fst.toArray cap.toArray), (7, .int .i64 xs.length), (8, .int .i64 k.1)], H, R⟩) (fun k => xs.length - k.1) ⟨0, by simp⟩ ?_ (fun k => ?_)
 exact sy_at (by repeat' first | exact Sub.nil | apply Sub.cons | rfl | (simp [lk]; omega)) (fun _ h => h)
 obtain ⟨k, hk, hn⟩ := k
 dsimp only
 refine sy_seq ?_
 refine sy_tx' [0] rfl ?_
 refine sp rfl (PE.lss rfl rfl) rfl ?_
 refine sy_seq ?_
 refine sy_cond rfl (fun hc0 => ?_) (fun hc0 => ?_)
 simp only [decide_eq_true_eq, decide_eq_false_iff_not, Bool.and_eq_true, Bool.or_eq_true, Bool.not_eq_true', Int.not_le, Int.not_lt] at hc0
 obtain ⟨x, hx⟩ : ∃ x, xs[k]? = some x := ⟨_, List.getElem?_eq_getElem (by omega)⟩
 have hxm := List.mem_of_getElem? hx
 refine sy_addr (a := a) (sz := 2) (rows := rrows xs) (by cases xs <;> simp_all [rrows]) (fun b off he => ?_)
 subst he
 refine sy_skip ?_
 refine sy_seq ?_
 refine sy_block ?_
 refine sy_seq ?_
 refine sy_tx' [0, 1] rfl ?_
 refine sp rfl (PE.move rfl) rfl ?_
 refine sp rfl (PE.assign rfl) rfl ?_
 refine sy_seq ?_
 refine sy_tx' [0, 1, 2, 3, 4, 5] rfl ?_
 refine sp rfl (PE.move rfl) rfl ?_
 refine sp rfl (PE.move rfl) rfl ?_
 refine sp rfl (PE.move rfl) rfl ?_
 refine sp rfl (PE.indexAddr el24 rfl rfl (by omega) (by omega)) rfl ?_
 refine spL rfl rfl (lfA ag91 (row := rrow x) (by simp [rrows, hx]) rfl) rfl ?_
 refine clFV rfl rfl (hg) rfl rfl (hp x hxm) ?_
 refine sy_cond rfl (fun hc1 => ?_) (fun hc1 => ?_)
 refine sy_seq ?_
 refine sy_tx' [0, 1] rfl ?_
 refine sp rfl (PE.move rfl) rfl ?_
 refine sp rfl (PE.assign rfl) rfl ?_
 refine sy_ret ?_
 first | (exact sy_return (vs := [_]) rfl (.cons (RV.tmp rfl) .nil) rfl ⟨by rw [find_hit hx hn hc1]; rfl, rfl, rfl⟩ (fun _ h => h)) | (exact sy_return (vs := [_]) rfl (.cons (RV.tmp rfl) .nil) rfl ⟨by rw [find_miss (by simpa using hn)]; rfl, rfl, rfl⟩ (fun _ h => h))
 refine sy_skip ?_
 refine sy_tx' [0, 1] rfl ?_
 refine sp rfl (PE.add rfl rfl (by omega)) rfl ?_
 refine sp rfl (PE.move rfl) rfl ?_
 exact sy_next ⟨k + 1, by omega, take_miss hx hn hc1⟩ (by dsimp only; omega) (by repeat' first | exact Sub.nil | apply Sub.cons | rfl | (simp [lk]; omega)) (fun _ h => h)
 simp only [decide_eq_true_eq, decide_eq_false_iff_not, Bool.and_eq_true, Bool.or_eq_true, Bool.not_eq_true', Int.not_le, Int.not_lt] at hc0
 obtain rfl : k = xs.length := by omega
 refine sy_exit ?_
 repeat refine sy_tx ?_
 refine sy_bx ?_
 refine sy_seq ?_
 refine sy_tx' [0] rfl ?_
 refine sp rfl (PE.assign rfl) rfl ?_
 refine sy_ret ?_
 first | (exact sy_return (vs := [_]) rfl (.cons (RV.tmp rfl) .nil) rfl ⟨by rw [find_hit hx hn hc1]; rfl, rfl, rfl⟩ (fun _ h => h)) | (exact sy_return (vs := [_]) rfl (.cons (RV.tmp rfl) .nil) rfl ⟨by rw [find_miss (by simpa using hn)]; rfl, rfl, rfl⟩ (fun _ h => h))
theorem c_has_rat (xs : List Rn) (a : Option Addr) (c g : Nat) (fst cap : List Value) (p : Rn → Bool) (hg : cal Try.prog g = true) (hl : xs.length ≤ 9223372036854775807) (H : Heap) (R : Facts) [hR : MemRows a 2 (rrows xs) R] (hp : ∀ x, x ∈ xs → FnV Try.prog g (fst ++ [.agg (rrow x).toArray] ++ cap) H R (.bool (p x))) :
    FnV Try.prog 135 [.slice a xs.length c, .func (.func g) fst.toArray cap.toArray] H R (.bool (xs.any p)) := by
 refine fn_of Try.func135 rfl Try.ntmps135 rfl ?_
 refine sy_seq ?_
 refine sy_tx' [0] rfl ?_
 refine sp rfl (PE.assign rfl) rfl ?_
 refine sy_seq ?_
 refine sy_tx' [0, 1, 2, 3, 4] rfl ?_
 refine sp rfl (PE.move rfl) rfl ?_
 refine sp rfl (PE.move rfl) rfl ?_
 refine clV rfl cal138 rfl rfl (c_idx_rat xs a c g fst cap p hg hl _ _ hp) ?_
 refine sp rfl (PE.geq rfl rfl) rfl ?_
 refine sp rfl (PE.assign rfl) rfl ?_
 refine sy_ret ?_
 exact sy_return (vs := [_]) rfl (.cons (RV.tmp rfl) .nil) rfl ⟨by simp only [retV]; exact idx_any _ _, rfl, rfl⟩ drp
theorem c_ev1_rat (x : Rn) (g bf : Nat) (fst cap : List Value) (p : Bool) (hg : cal Try.prog g = true) (H : Heap) (R : Facts) [hM : Mem1 bf (cel 179 [.func (.func g) fst.toArray cap.toArray]) H] (hp : ∀ b, FnV Try.prog g (fst ++ [.agg (rrow x).toArray] ++ cap) ((b, cel 91 (rrow x)) :: H) R (.bool p)) :
    FnV Try.prog 136 [.agg (rrow x).toArray, .pointer (some ⟨bf, 0, none⟩)] H R (.bool !p) := by
 refine fn_of Try.func136 rfl Try.ntmps136 rfl ?_
 refine sy_seq ?_
 refine sy_tx' [0, 1] rfl ?_
 refine bx rfl rfl rfl (fun b2 => ?_)
 refine sp rfl (PE.assign rfl) rfl ?_
 refine sy_seq ?_
 refine sy_tx' [0, 1, 2, 3, 4] rfl ?_
 refine spL rfl rfl (lh sc179 rfl rfl) rfl ?_
 refine spL rfl rfl (lhA [_, _] ag91 rfl rfl rfl) rfl ?_
 refine clFV rfl rfl (hg) rfl rfl (hp _) ?_
 refine sp rfl (PE.not rfl) rfl ?_
 refine sp rfl (PE.assign rfl) rfl ?_
 refine sy_ret ?_
 exact sy_return (vs := [_]) rfl (.cons (RV.tmp rfl) .nil) rfl ⟨rfl, rfl, rfl⟩ drp
theorem c_every_rat (xs : List Rn) (a : Option Addr) (c g : Nat) (fst cap : List Value) (p : Rn → Bool) (hg : cal Try.prog g = true) (hl : xs.length ≤ 9223372036854775807) (H : Heap) (R : Facts) [hR : MemRows a 2 (rrows xs) R] (hp : ∀ b b2 x, x ∈ xs → FnV Try.prog g (fst ++ [.agg (rrow x).toArray] ++ cap) ((b2, cel 91 (rrow x)) :: (b, cel 179 [.func (.func g) fst.toArray cap.toArray]) :: H) R (.bool (p x))) :
    FnV Try.prog 120 [.slice a xs.length c, .func (.func g) fst.toArray cap.toArray] H R (.bool (xs.all p)) := by
 refine fn_of Try.func120 rfl Try.ntmps120 rfl ?_
 refine sy_seq ?_
 refine sy_tx' [0, 1] rfl ?_
 refine bx rfl rfl rfl (fun b3 => ?_)
 refine sp rfl (PE.assign rfl) rfl ?_
 refine sy_seq ?_
 refine sy_tx' [0, 1, 2, 3, 4] rfl ?_
 refine sp rfl (PE.move rfl) rfl ?_
 refine sp rfl (PE.makeFunc rfl rfl) rfl ?_
 refine clV rfl cal135 rfl rfl (c_has_rat xs a c 136 [] [_] (fun x => !p x) cal136 hl _ _ (hp := fun x hx => c_ev1_rat x g _ fst cap (p x) hg _ _ (hp := fun b => hp _ _ x hx))) ?_
 refine sp rfl (PE.not rfl) rfl ?_
 refine sp rfl (PE.assign rfl) rfl ?_
 refine sy_ret ?_
 exact sy_return (vs := [_]) rfl (.cons (RV.tmp rfl) .nil) rfl ⟨by simp only [retV]; rw [not_any_not], rfl, rfl⟩ drp
theorem no_bad {l : List Rn} (h : ∀ i, i < l.length - 1 → badAt l i = false) : (List.range l.length).any (badAt l) = false := by
  rw [List.any_eq_false]
  intro i hi
  rw [Bool.not_eq_true]
  rcases Nat.lt_or_ge i (l.length - 1) with h1 | h1
  · exact h i h1
  · have : l[i + 1]? = none := List.getElem?_eq_none (by omega)
    unfold badAt; rw [this]; split <;> simp_all
theorem some_bad {l : List Rn} {i : Nat} (hi : i < l.length) (h : badAt l i = true) : (List.range l.length).any (badAt l) = true := List.any_eq_true.2 ⟨i, List.mem_range.2 hi, h⟩
theorem c_chk1 (n : Int) (H : Heap) (R : Facts) :
    FnV Try.prog 119 [.int .i64 n] H R (.bool (inb n 0 30)) := by
 refine fn_of Try.func119 rfl Try.ntmps119 rfl ?_
 refine sy_seq ?_
 refine sy_tx' [0] rfl ?_
 refine sp rfl (PE.assign rfl) rfl ?_
 refine sy_seq ?_
 refine sy_tx' [0, 1, 2] rfl ?_
 refine sp rfl (PE.move rfl) rfl ?_
 refine clV rfl cal92 rfl rfl (c_in _ _ _ _ _) ?_
 refine sp rfl (PE.assign rfl) rfl ?_
 refine sy_ret ?_
 exact sy_return (vs := [_]) rfl (.cons (RV.tmp rfl) .nil) rfl ⟨rfl, rfl, rfl⟩ drp
theorem c_chk2 (q : Rn) (H : Heap) (R : Facts) :
    FnV Try.prog 121 [.agg (rrow q).toArray] H R (.bool (inb q.sacks 0 30 && inb q.price 0 100)) := by
 refine fn_of Try.func121 rfl Try.ntmps121 rfl ?_
 refine sy_seq ?_
 refine sy_tx' [0, 1] rfl ?_
 refine bx rfl rfl rfl (fun b1 => ?_)
 refine sp rfl (PE.assign rfl) rfl ?_
 refine sy_seq ?_
 refine sy_tx' [0, 1, 2, 3, 4, 5, 6, 7, 8] rfl ?_
 refine sp rfl (PE.fieldAddr fo91_0 rfl) rfl ?_
 refine spL rfl rfl (lh sc3 rfl rfl) rfl ?_
 refine clV rfl cal92 rfl rfl (c_in _ _ _ _ _) ?_
 refine sp rfl (PE.move rfl) rfl ?_
 refine sy_case (t := 6) rfl (fun g6 => ?_) (fun g6 => ?_)
 refine spG rfl rfl rfl rfl (PE.fieldAddr fo91_1 rfl) rfl ?_
 refine spLG rfl rfl rfl rfl rfl (lh sc3 rfl rfl) rfl ?_
 refine clVG rfl rfl rfl rfl cal92 rfl rfl (c_in _ _ _ _ _) ?_
 refine sp rfl (PE.pick rfl rfl rfl) rfl ?_
 refine sp rfl (PE.assign rfl) rfl ?_
 refine sy_ret ?_
 exact sy_return (vs := [_]) rfl (.cons (RV.tmp rfl) .nil) rfl ⟨by simp_all only [retV, inb, Bool.true_and, Bool.false_and, cond_true, cond_false], rfl, rfl⟩ drp
 repeat refine spN rfl rfl rfl rfl rfl rfl rfl rfl ?_
 refine sp rfl (PE.pick rfl rfl rfl) rfl ?_
 refine sp rfl (PE.assign rfl) rfl ?_
 refine sy_ret ?_
 exact sy_return (vs := [_]) rfl (.cons (RV.tmp rfl) .nil) rfl ⟨by simp_all only [retV, inb, Bool.true_and, Bool.false_and, cond_true, cond_false], rfl, rfl⟩ drp
theorem c_Check (t : Twn) (a : Option Addr) (c : Nat) (hl : t.rats.length ≤ 9223372036854775807) (H : Heap) (R : Facts) [hR : MemRows a 2 (rrows t.rats) R] :
    FnV Try.prog 67 [t.v (t.sl a c)] H R (.int .i64 t.check) := by
 refine fn_of Try.func67 rfl Try.ntmps67 rfl ?_
 refine sy_seq ?_
 refine sy_tx' [0, 1] rfl ?_
 refine bx rfl rfl rfl (fun b1 => ?_)
 refine sp rfl (PE.assign rfl) rfl ?_
 refine sy_seq ?_
 refine sy_block ?_
 refine sy_seq ?_
 refine sy_tx' [0, 1, 2, 3, 4, 5] rfl ?_
 refine sp rfl (PE.fieldAddr fo26_8 rfl) rfl ?_
 refine spL rfl rfl (lh sc24 rfl rfl) rfl ?_
 refine sp rfl (PE.lenSl isl24 rfl) rfl ?_
 refine clV rfl cal92 rfl rfl (c_in _ _ _ _ _) ?_
 refine sp rfl (PE.not rfl) rfl ?_
 refine sp rfl (PE.assign rfl) rfl ?_
 refine sy_cond rfl (fun hc0 => ?_) (fun hc0 => ?_)
 refine sy_seq ?_
 refine sy_tx' [0] rfl ?_
 refine sp rfl (PE.assign rfl) rfl ?_
 refine sy_ret ?_
 exact sy_return (vs := [_]) rfl (.cons (RV.tmp rfl) .nil) rfl ⟨congrArg (Value.int .i64) (by first | (rw [hck, no_bad hn]; rfl) | (rw [hck, some_bad hk2 hbad]; rfl) | simp_all only [Twn.check, inb, cond_true, cond_false, Bool.not_true, Bool.not_false, Bool.not_eq_true', Bool.not_eq_false']), rfl, rfl⟩ drp
 ·
  refine sy_seq ?_
  refine sy_tx' [0, 1, 2, 3, 4, 5, 6, 7, 8, 9, 10, 11] rfl ?_
  refine sp rfl (PE.fieldAddr fo26_1 rfl) rfl ?_
  refine spL rfl rfl (lh sc3 rfl rfl) rfl ?_
  refine sp rfl (PE.fieldAddr fo26_2 rfl) rfl ?_
  refine spL rfl rfl (lh sc3 rfl rfl) rfl ?_
  refine sp rfl (PE.fieldAddr fo26_5 rfl) rfl ?_
  refine spL rfl rfl (lh sc3 rfl rfl) rfl ?_
  refine sp rfl (PE.fieldAddr fo26_6 rfl) rfl ?_
  refine spL rfl rfl (lh sc3 rfl rfl) rfl ?_
  refine bsl (out := [_, _, _, _]) rfl sl42 zl3 rfl rfl rfl rfl rfl rfl (fun b21 => ?_)
  refine Sy.heap (fun w h => St.rows (sz := 1) (rows := irows [t.holds, t.need, t.good, t.bad]) (rest := []) h (by simp)) ?_
  refine clV rfl cal105 rfl rfl (c_every_int [t.holds, t.need, t.good, t.bad] _ _ 119 [] [] (fun n => inb n 0 30) cal119 (by simp) _ _ (fun _ x _ => c_chk1 x _ _)) ?_
  refine sp rfl (PE.not rfl) rfl ?_
  refine sp rfl (PE.assign rfl) rfl ?_
  refine sy_cond rfl (fun hc1 => ?_) (fun hc1 => ?_)
  refine sy_seq ?_
  refine sy_tx' [0] rfl ?_
  refine sp rfl (PE.assign rfl) rfl ?_
  refine sy_ret ?_
  exact sy_return (vs := [_]) rfl (.cons (RV.tmp rfl) .nil) rfl ⟨congrArg (Value.int .i64) (by first | (rw [hck, no_bad hn]; rfl) | (rw [hck, some_bad hk2 hbad]; rfl) | simp_all only [Twn.check, inb, cond_true, cond_false, Bool.not_true, Bool.not_false, Bool.not_eq_true', Bool.not_eq_false']), rfl, rfl⟩ drp
  ·
   refine sy_seq ?_
   refine sy_tx' [0, 1, 2, 3, 4, 5, 6, 7, 8, 9, 10, 11, 12, 13, 14, 15, 16, 17, 18, 19, 20, 21, 22, 23] rfl ?_
   refine sp rfl (PE.fieldAddr fo26_3 rfl) rfl ?_
   refine spL rfl rfl (lh sc3 rfl rfl) rfl ?_
   refine clV rfl cal92 rfl rfl (c_in _ _ _ _ _) ?_
   refine sp rfl (PE.not rfl) rfl ?_
   refine sp rfl (PE.move rfl) rfl ?_
   refine sy_case (t := 29) rfl (fun g29 => ?_) (fun g29 => ?_)
   repeat refine spN rfl rfl rfl rfl rfl rfl rfl rfl ?_
   refine sp rfl (PE.pick rfl rfl rfl) rfl ?_
   refine sp rfl (PE.move rfl) rfl ?_
   repeat refine spN rfl rfl rfl rfl rfl rfl rfl rfl ?_
   refine sp rfl (PE.pick rfl rfl rfl) rfl ?_
   refine sp rfl (PE.move rfl) rfl ?_
   repeat refine spN rfl rfl rfl rfl rfl rfl rfl rfl ?_
   refine sp rfl (PE.pick rfl rfl rfl) rfl ?_
   refine sp rfl (PE.assign rfl) rfl ?_
   refine sy_condT rfl ?_
   refine sy_seq ?_
   refine sy_tx' [0] rfl ?_
   refine sp rfl (PE.assign rfl) rfl ?_
   refine sy_ret ?_
   exact sy_return (vs := [_]) rfl (.cons (RV.tmp rfl) .nil) rfl ⟨congrArg (Value.int .i64) (by first | (rw [hck, no_bad hn]; rfl) | (rw [hck, some_bad hk2 hbad]; rfl) | simp_all only [Twn.check, inb, cond_true, cond_false, Bool.not_true, Bool.not_false, Bool.not_eq_true', Bool.not_eq_false']), rfl, rfl⟩ drp
   ·
    refine spG rfl rfl rfl rfl (PE.fieldAddr fo26_4 rfl) rfl ?_
    refine spLG rfl rfl rfl rfl rfl (lh sc3 rfl rfl) rfl ?_
    refine clVG rfl rfl rfl rfl cal92 rfl rfl (c_in _ _ _ _ _) ?_
    refine spG rfl rfl rfl rfl (PE.not rfl) rfl ?_
    refine sp rfl (PE.pick rfl rfl rfl) rfl ?_
    refine sp rfl (PE.move rfl) rfl ?_
    refine sy_case (t := 35) rfl (fun g35 => ?_) (fun g35 => ?_)
    repeat refine spN rfl rfl rfl rfl rfl rfl rfl rfl ?_
    refine sp rfl (PE.pick rfl rfl rfl) rfl ?_
    refine sp rfl (PE.move rfl) rfl ?_
    repeat refine spN rfl rfl rfl rfl rfl rfl rfl rfl ?_
    refine sp rfl (PE.pick rfl rfl rfl) rfl ?_
    refine sp rfl (PE.assign rfl) rfl ?_
    refine sy_condT rfl ?_
    refine sy_seq ?_
    refine sy_tx' [0] rfl ?_
    refine sp rfl (PE.assign rfl) rfl ?_
    refine sy_ret ?_
    exact sy_return (vs := [_]) rfl (.cons (RV.tmp rfl) .nil) rfl ⟨congrArg (Value.int .i64) (by first | (rw [hck, no_bad hn]; rfl) | (rw [hck, some_bad hk2 hbad]; rfl) | simp_all only [Twn.check, inb, cond_true, cond_false, Bool.not_true, Bool.not_false, Bool.not_eq_true', Bool.not_eq_false']), rfl, rfl⟩ drp
    ·
     refine spG rfl rfl rfl rfl (PE.fieldAddr fo26_7 rfl) rfl ?_
     refine spLG rfl rfl rfl rfl rfl (lh sc3 rfl rfl) rfl ?_
     refine clVG rfl rfl rfl rfl cal92 rfl rfl (c_in _ _ _ _ _) ?_
     refine spG rfl rfl rfl rfl (PE.not rfl) rfl ?_
     refine sp rfl (PE.pick rfl rfl rfl) rfl ?_
     refine sp rfl (PE.move rfl) rfl ?_
     refine sy_case (t := 41) rfl (fun g41 => ?_) (fun g41 => ?_)
     repeat refine spN rfl rfl rfl rfl rfl rfl rfl rfl ?_
     refine sp rfl (PE.pick rfl rfl rfl) rfl ?_
     refine sp rfl (PE.assign rfl) rfl ?_
     refine sy_condT rfl ?_
     refine sy_seq ?_
     refine sy_tx' [0] rfl ?_
     refine sp rfl (PE.assign rfl) rfl ?_
     refine sy_ret ?_
     exact sy_return (vs := [_]) rfl (.cons (RV.tmp rfl) .nil) rfl ⟨congrArg (Value.int .i64) (by first | (rw [hck, no_bad hn]; rfl) | (rw [hck, some_bad hk2 hbad]; rfl) | simp_all only [Twn.check, inb, cond_true, cond_false, Bool.not_true, Bool.not_false, Bool.not_eq_true', Bool.not_eq_false']), rfl, rfl⟩ drp
     ·
      refine spLG rfl rfl rfl rfl rfl (lhA [_, _, _, _, _, _, _, _, _, _, _] ag26 rfl rfl rfl) rfl ?_
      refine spG rfl rfl rfl rfl (PE.fieldAddr fo26_0 rfl) rfl ?_
      refine spLG rfl rfl rfl rfl rfl (lhA [_, _, _] ag23 rfl rfl rfl) rfl ?_
      refine clVG rfl rfl rfl rfl cal91 rfl rfl (c_right t t.now _ _ _) ?_
      refine spG rfl rfl rfl rfl (PE.not rfl) rfl ?_
      refine sp rfl (PE.pick rfl rfl rfl) rfl ?_
      refine sp rfl (PE.assign rfl) rfl ?_
      refine sy_cond rfl (fun hc2 => ?_) (fun hc2 => ?_)
      refine sy_seq ?_
      refine sy_tx' [0] rfl ?_
      refine sp rfl (PE.assign rfl) rfl ?_
      refine sy_ret ?_
      exact sy_return (vs := [_]) rfl (.cons (RV.tmp rfl) .nil) rfl ⟨congrArg (Value.int .i64) (by first | (rw [hck, no_bad hn]; rfl) | (rw [hck, some_bad hk2 hbad]; rfl) | simp_all only [Twn.check, inb, cond_true, cond_false, Bool.not_true, Bool.not_false, Bool.not_eq_true', Bool.not_eq_false']), rfl, rfl⟩ drp
      ·
       refine sy_seq ?_
       refine sy_tx' [0, 1, 2, 3, 4] rfl ?_
       refine sp rfl (PE.fieldAddr fo26_8 rfl) rfl ?_
       refine spL rfl rfl (lh sc24 rfl rfl) rfl ?_
       refine clV rfl cal120 rfl rfl (c_every_rat t.rats a c 121 [] [] (fun q => inb q.sacks 0 30 && inb q.price 0 100) cal121 hl _ _ (fun _ _ x _ => c_chk2 x _ _)) ?_
       refine sp rfl (PE.not rfl) rfl ?_
       refine sp rfl (PE.assign rfl) rfl ?_
       refine sy_cond rfl (fun hc3 => ?_) (fun hc3 => ?_)
       refine sy_seq ?_
       refine sy_tx' [0] rfl ?_
       refine sp rfl (PE.assign rfl) rfl ?_
       refine sy_ret ?_
       exact sy_return (vs := [_]) rfl (.cons (RV.tmp rfl) .nil) rfl ⟨congrArg (Value.int .i64) (by first | (rw [hck, no_bad hn]; rfl) | (rw [hck, some_bad hk2 hbad]; rfl) | simp_all only [Twn.check, inb, cond_true, cond_false, Bool.not_true, Bool.not_false, Bool.not_eq_true', Bool.not_eq_false']), rfl, rfl⟩ drp
       ·
        refine sy_seq ?_
        refine sy_tx' [0, 1, 2, 3, 4, 5] rfl ?_
        refine sp rfl (PE.fieldAddr fo26_6 rfl) rfl ?_
        refine spL rfl rfl (lh sc3 rfl rfl) rfl ?_
        refine sp rfl (PE.fieldAddr fo26_5 rfl) rfl ?_
        refine spL rfl rfl (lh sc3 rfl rfl) rfl ?_
        refine sp rfl (PE.gtr rfl rfl) rfl ?_
        refine sp rfl (PE.assign rfl) rfl ?_
        refine sy_cond rfl (fun hc4 => ?_) (fun hc4 => ?_)
        refine sy_seq ?_
        refine sy_tx' [0] rfl ?_
        refine sp rfl (PE.assign rfl) rfl ?_
        refine sy_ret ?_
        exact sy_return (vs := [_]) rfl (.cons (RV.tmp rfl) .nil) rfl ⟨congrArg (Value.int .i64) (by first | (rw [hck, no_bad hn]; rfl) | (rw [hck, some_bad hk2 hbad]; rfl) | simp_all only [Twn.check, inb, cond_true, cond_false, Bool.not_true, Bool.not_false, Bool.not_eq_true', Bool.not_eq_false']), rfl, rfl⟩ drp
        ·
         refine sy_skip ?_
         refine sy_seq ?_
         refine sy_seq ?_
         refine sy_tx' [0] rfl ?_
         refine sp rfl (PE.assign rfl) rfl ?_
         refine sy_block ?_
         have hlen : 1 ≤ t.rats.length := by
           simp only [inb, decide_eq_true_eq, decide_eq_false_iff_not, Bool.and_eq_true, Bool.or_eq_true, Bool.not_eq_true', Int.not_le, Int.not_lt, Bool.not_eq_false'] at hc0
           omega
         have hck : t.check = bif (List.range t.rats.length).any (badAt t.rats) then 4 else 0 := by simp_all only [Twn.check, inb, cond_true, cond_false, Bool.not_true, Bool.not_false, Bool.not_eq_true', Bool.not_eq_false']
         refine sy_loop (ι := {k : Nat // 1 ≤ k ∧ k ≤ t.rats.length ∧ ∀ i, i < k - 1 → badAt t.rats i = false}) (fun k => ⟨[(1, .pointer (some ⟨b1, 0, none⟩)), (3, .int .i64 k.1)], (b1, cel 26 (twl t (t.sl a c))) :: H, R⟩) (fun k => t.rats.length - k.1) ⟨1, by simp; omega⟩ ?_ (fun k => ?_)
         exact sy_at (by repeat' first | exact Sub.nil | apply Sub.cons | rfl | (simp [lk]; omega)) (fun w h => by repeat first | exact h | replace h := St.ftail h)
         ·
          obtain ⟨k, hk1, hk2, hn⟩ := k
          dsimp only
          refine sy_seq ?_
          refine sy_seq ?_
          refine sy_tx' [0, 1, 2, 3, 4] rfl ?_
          refine sp rfl (PE.move rfl) rfl ?_
          refine sp rfl (PE.fieldAddr fo26_8 rfl) rfl ?_
          refine spL rfl rfl (lh sc24 rfl rfl) rfl ?_
          refine sp rfl (PE.lenSl isl24 rfl) rfl ?_
          refine sp rfl (PE.lss rfl rfl) rfl ?_
          refine sy_cond rfl (fun hc5 => ?_) (fun hc5 => ?_)
          ·
           simp only [decide_eq_true_eq, decide_eq_false_iff_not, Bool.and_eq_true, Bool.or_eq_true, Bool.not_eq_true', Int.not_le, Int.not_lt] at hc5
           obtain ⟨x, hx⟩ : ∃ x, t.rats[k - 1]? = some x := ⟨_, List.getElem?_eq_getElem (by omega)⟩
           obtain ⟨y, hy⟩ : ∃ y, t.rats[k]? = some y := ⟨_, List.getElem?_eq_getElem (by omega)⟩
           have e1 : ((k : Int) - 1).toNat = k - 1 := by omega
           have hba : badAt t.rats (k - 1) = (decide (x.sacks ≤ y.sacks) || decide (y.price ≤ x.price)) := by unfold badAt; rw [hx, show k - 1 + 1 = k from by omega, hy]
           refine sy_addr (a := a) (sz := 2) (rows := rrows t.rats) (by intro h0; simp [rrows] at h0; simp [h0] at hx) (fun b off he => ?_)
           subst he
           refine sy_skip ?_
           refine sy_seq ?_
           refine sy_block ?_
           refine sy_seq ?_
           refine sy_cut (ι := Nat × Nat) (fun z => ⟨[(1, .pointer (some ⟨b1, 0, none⟩)), (3, .int .i64 k), (4, .pointer (some ⟨z.1, 0, none⟩)), (5, .pointer (some ⟨z.2, 0, none⟩))], (z.1, cel 91 (rrow x)) :: (z.2, cel 91 (rrow y)) :: (b1, cel 26 (twl t (t.sl (some ⟨b, off, none⟩) c))) :: H, R⟩) ?_ ?_
           ·
            refine sy_draw [0, 1, 0, 4, 15, 31, 0, 64, 0, 448, 960, 0, 0, 6207, 16383] (.tk 0 (.ld 1 (.tk 2 (.tk 3 (.tk 4 (.ld 5 (.tk 6 (.ld 7 (.tk 8 (.tk 9 (.ld 10 (.any (.alt 11 (.big 12 (.big 13 (.big 14 .done))) (.alt 12 (.big 11 (.big 13 (.big 14 .done))) .stop)))))))))))))) mixed (by kernel_rfl) ?_
            refine tk rfl (PE.fieldAddr fo26_8 rfl) rfl ?_
            refine ld rfl rfl (lh sc24 rfl rfl) rfl ?_
            refine tk rfl (PE.move rfl) rfl ?_
            refine tk rfl (PE.sub rfl rfl (by omega)) rfl ?_
            refine tk rfl (PE.indexAddr el24 rfl rfl (by omega) (by omega)) rfl ?_
            refine ld rfl rfl (lfA ag91 (row := rrow x) (by rw [e1]; exact rr_get hx) rfl) rfl ?_
            refine tk rfl (PE.fieldAddr fo26_8 rfl) rfl ?_
            refine ld rfl rfl (lh sc24 rfl rfl) rfl ?_
            refine tk rfl (PE.move rfl) rfl ?_
            refine tk rfl (PE.indexAddr el24 rfl rfl (by omega) (by omega)) rfl ?_
            refine ld rfl rfl (lfA ag91 (row := rrow y) (rr_get hy) rfl) rfl ?_
            refine sy_alt ?_ ?_
            ·
             refine alc rfl zl91 rfl (fun b4 => ?_)
             refine bg (fun w hs => ⟨(lfA ag91 (row := rrow y) (rr_get hy) rfl) w hs, (lh sc24 rfl rfl) w hs, (lfA ag91 (row := rrow x) (by rw [e1]; exact rr_get hx) rfl) w hs, (lh sc24 rfl rfl) w hs, trivial⟩) ?_
             refine alc rfl zl91 rfl (fun b5 => ?_)
             refine bg (fun w hs => ⟨(lfA ag91 (row := rrow y) (rr_get hy) rfl) w hs, (lh sc24 rfl rfl) w hs, (lfA ag91 (row := rrow x) (by rw [e1]; exact rr_get hx) rfl) w hs, (lh sc24 rfl rfl) w hs, trivial⟩) ?_
             refine sto rfl rfl rfl cn91 rfl rfl rfl rfl ?_
             refine bg (fun w hs => ⟨(lfA ag91 (row := rrow y) (rr_get hy) rfl) w hs, (lh sc24 rfl rfl) w hs, trivial, trivial, trivial⟩) ?_
             refine sto rfl rfl rfl cn91 rfl rfl rfl rfl ?_
             refine bg (fun w hs => ⟨trivial, trivial, trivial⟩) ?_
             exact sy_cutEnd (b4, b5) (by repeat' first | exact Sub.nil | apply Sub.cons | rfl | (simp [lk]; omega)) (fun w h => by first | exact h | exact h.perm (.swap _ _ _))
            refine sy_alt ?_ ?_
            ·
             refine alc rfl zl91 rfl (fun b5 => ?_)
             refine bg (fun w hs => ⟨(lfA ag91 (row := rrow y) (rr_get hy) rfl) w hs, (lh sc24 rfl rfl) w hs, (lfA ag91 (row := rrow x) (by rw [e1]; exact rr_get hx) rfl) w hs, (lh sc24 rfl rfl) w hs, trivial⟩) ?_
             refine alc rfl zl91 rfl (fun b4 => ?_)
             refine bg (fun w hs => ⟨(lfA ag91 (row := rrow y) (rr_get hy) rfl) w hs, (lh sc24 rfl rfl) w hs, (lfA ag91 (row := rrow x) (by rw [e1]; exact rr_get hx) rfl) w hs, (lh sc24 rfl rfl) w hs, trivial⟩) ?_
             refine sto rfl rfl rfl cn91 rfl rfl rfl rfl ?_
             refine bg (fun w hs => ⟨(lfA ag91 (row := rrow y) (rr_get hy) rfl) w hs, (lh sc24 rfl rfl) w hs, trivial, trivial, trivial⟩) ?_
             refine sto rfl rfl rfl cn91 rfl rfl rfl rfl ?_
             refine bg (fun w hs => ⟨trivial, trivial, trivial⟩) ?_
             exact sy_cutEnd (b4, b5) (by repeat' first | exact Sub.nil | apply Sub.cons | rfl | (simp [lk]; omega)) (fun w h => by first | exact h | exact h.perm (.swap _ _ _))
            exact sy_stop
           rintro ⟨b4, b5⟩
           dsimp only
           refine sy_seq ?_
           refine sy_tx' [0, 1, 2, 3, 4, 5, 6, 7, 8, 9, 10, 11] rfl ?_
           refine sp rfl (PE.fieldAddr fo91_0 rfl) rfl ?_
           refine spL rfl rfl (lh sc3 rfl rfl) rfl ?_
           refine sp rfl (PE.fieldAddr fo91_0 rfl) rfl ?_
           refine spL rfl rfl (lh sc3 rfl rfl) rfl ?_
           refine sp rfl (PE.leq rfl rfl) rfl ?_
           refine sp rfl (PE.move rfl) rfl ?_
           refine sy_case (t := 82) rfl (fun g82 => ?_) (fun g82 => ?_)
           have hbad : badAt t.rats (k - 1) = true := by rw [hba, g82]; rfl
           replace hk2 : k - 1 < t.rats.length := by omega
           repeat refine spN rfl rfl rfl rfl rfl rfl rfl rfl ?_
           refine sp rfl (PE.pick rfl rfl rfl) rfl ?_
           refine sy_condT rfl ?_
           refine sy_seq ?_
           refine sy_tx' [0] rfl ?_
           refine sp rfl (PE.assign rfl) rfl ?_
           refine sy_ret ?_
           exact sy_return (vs := [_]) rfl (.cons (RV.tmp rfl) .nil) rfl ⟨congrArg (Value.int .i64) (by first | (rw [hck, no_bad hn]; rfl) | (rw [hck, some_bad hk2 hbad]; rfl) | simp_all only [Twn.check, inb, cond_true, cond_false, Bool.not_true, Bool.not_false, Bool.not_eq_true', Bool.not_eq_false']), rfl, rfl⟩ drp
           refine spG rfl rfl rfl rfl (PE.fieldAddr fo91_1 rfl) rfl ?_
           refine spLG rfl rfl rfl rfl rfl (lh sc3 rfl rfl) rfl ?_
           refine spG rfl rfl rfl rfl (PE.fieldAddr fo91_1 rfl) rfl ?_
           refine spLG rfl rfl rfl rfl rfl (lh sc3 rfl rfl) rfl ?_
           refine spG rfl rfl rfl rfl (PE.geq rfl rfl) rfl ?_
           refine sp rfl (PE.pick rfl rfl rfl) rfl ?_
           refine sy_cond rfl (fun hc6 => ?_) (fun hc6 => ?_)
           have hbad : badAt t.rats (k - 1) = true := by rw [hba, g82]; exact hc6
           replace hk2 : k - 1 < t.rats.length := by omega
           refine sy_seq ?_
           refine sy_tx' [0] rfl ?_
           refine sp rfl (PE.assign rfl) rfl ?_
           refine sy_ret ?_
           exact sy_return (vs := [_]) rfl (.cons (RV.tmp rfl) .nil) rfl ⟨congrArg (Value.int .i64) (by first | (rw [hck, no_bad hn]; rfl) | (rw [hck, some_bad hk2 hbad]; rfl) | simp_all only [Twn.check, inb, cond_true, cond_false, Bool.not_true, Bool.not_false, Bool.not_eq_true', Bool.not_eq_false']), rfl, rfl⟩ drp
           refine sy_skip ?_
           refine sy_tx' [0, 1, 2] rfl ?_
           refine sp rfl (PE.move rfl) rfl ?_
           refine sp rfl (PE.add rfl rfl (by omega)) rfl ?_
           refine sp rfl (PE.assign rfl) rfl ?_
           exact sy_next ⟨k + 1, by omega, by omega, fun i hi => by
             rcases Nat.lt_or_ge i (k - 1) with h1 | h1
             · exact hn i h1
             · obtain rfl : i = k - 1 := by omega
               rw [hba, g82]; exact hc6⟩ (by dsimp only; omega) (by repeat' first | exact Sub.nil | apply Sub.cons | rfl | (simp [lk]; omega)) (fun w h => St.tail (St.tail h))
          simp only [decide_eq_true_eq, decide_eq_false_iff_not, Bool.and_eq_true, Bool.or_eq_true, Bool.not_eq_true', Int.not_le, Int.not_lt] at hc5
          obtain rfl : k = t.rats.length := by omega
          refine sy_exit ?_
          repeat refine sy_tx ?_
          refine sy_bx ?_
          refine sy_seq ?_
          refine sy_tx' [0] rfl ?_
          refine sp rfl (PE.assign rfl) rfl ?_
          refine sy_ret ?_
          exact sy_return (vs := [_]) rfl (.cons (RV.tmp rfl) .nil) rfl ⟨congrArg (Value.int .i64) (by first | (rw [hck, no_bad hn]; rfl) | (rw [hck, some_bad hk2 hbad]; rfl) | simp_all only [Twn.check, inb, cond_true, cond_false, Bool.not_true, Bool.not_false, Bool.not_eq_true', Bool.not_eq_false']), rfl, rfl⟩ drp
end Go.Proofs.Ytaldphhdkmchhaa
namespace Go.Proofs.Ytaldphhdkmchhaa
set_option linter.unusedSimpArgs false
set_option linter.unusedVariables false
open Go
theorem ar144 : arN Try.prog 144 = some (4, 1) := by kernel_rfl
theorem ar145 : arN Try.prog 145 = some (4, 4) := by kernel_rfl
theorem ar150 : arN Try.prog 150 = some (31, 16) := by kernel_rfl
theorem cal102 : cal Try.prog 102 = true := by kernel_rfl
theorem cal126 : cal Try.prog 126 = true := by kernel_rfl
theorem cal67 : cal Try.prog 67 = true := by kernel_rfl
theorem cal94 : cal Try.prog 94 = true := by kernel_rfl
theorem cal95 : cal Try.prog 95 = true := by kernel_rfl
theorem cal96 : cal Try.prog 96 = true := by kernel_rfl
theorem fo148_0 : fOff Try.prog 148 0 = some 0 := by kernel_rfl
theorem fo153_0 : fOff Try.prog 153 0 = some 0 := by kernel_rfl
theorem fo153_1 : fOff Try.prog 153 1 = some 11 := by kernel_rfl
theorem fo153_2 : fOff Try.prog 153 2 = some 12 := by kernel_rfl
theorem pl148 : placeL Try.prog 148 = some [(0, 1)] := by kernel_rfl
theorem pl153 : placeL Try.prog 153 = some [(0, 11), (11, 1), (12, 496), (508, 1), (509, 1)] := by kernel_rfl
theorem sc146 : scal Try.prog 146 = true := by kernel_rfl
theorem zl148 : zeroL Try.prog 148 = some ([.nilFunc]) := by kernel_rfl
theorem zl153 : zeroL Try.prog 153 = some (List.replicate 10 (.int .i64 0) ++ [.slice none 0 0] ++ [.nilFunc] ++ List.replicate 496 (.int .i64 0) ++ [.slice none 0 0] ++ [.map none]) := by kernel_rfl
abbrev fvv (bt : Nat) : Value := .func (.func 126) #[] #[.pointer (some ⟨bt, 0, none⟩)]
def rcs (t : Twn) (sl : Value) (bt : Nat) (y : List Int) (fs : Value) (m : Nat) : List Value := twl t sl ++ fvv bt :: (ints y ++ [fs, .map (some m)])
theorem ints_get {y : List Int} {i : Nat} {x : Int} (h : y[i]? = some x) : (ints y)[i]? = some (.int .i64 x) := by simp [ints, h]
theorem ints_length (y : List Int) : (ints y).length = y.length := by simp [ints]
theorem ints_set (y : List Int) (i : Nat) (x : Int) : ints (y.set i x) = (ints y).set i (.int .i64 x) := by simp [ints, List.map_set]
theorem rc_cell {t : Twn} {sl : Value} {bt m i k : Nat} {y : List Int} {fs : Value} {x : Int} (h : y[i]? = some x) (e : k = 12 + i) : (rcs t sl bt y fs m)[k]? = some (.int .i64 x) := by
  subst e
  have hi : i < y.length := (List.getElem?_eq_some_iff.1 h).1
  show (([_, _, _, _, _, _, _, _, _, _, _, _] ++ (ints y ++ [fs, .map (some m)]) : List Value))[12 + i]? = _
  rw [List.getElem?_append_right (by simp)]
  simp only [List.length_cons, List.length_nil, Nat.zero_add, Nat.add_sub_cancel_left]
  rw [List.getElem?_append_left (by rw [ints_length]; exact hi)]
  exact ints_get h
theorem rc_len {t : Twn} {sl : Value} {bt m : Nat} {y : List Int} {fs : Value} (hy : y.length = 496) : (rcs t sl bt y fs m).length = 510 := by
  simp [rcs, ints_length, hy]
theorem rc_tail {t : Twn} {sl : Value} {bt m : Nat} {y : List Int} {fs : Value} (hy : y.length = 496) : (rcs t sl bt y fs m).drop 508 = [fs, .map (some m)] := by
  show (([_, _, _, _, _, _, _, _, _, _, _, _] ++ (ints y ++ [fs, .map (some m)]) : List Value)).drop 508 = _
  rw [← List.append_assoc, List.drop_left' (by simp [ints_length, hy])]
theorem rc_fates {t : Twn} {sl : Value} {bt m : Nat} {y : List Int} {fs : Value} (hy : y.length = 496) : (rcs t sl bt y fs m)[508]? = some fs := by
  have := congrArg (fun l : List Value => l[0]?) (rc_tail (t := t) (sl := sl) (bt := bt) (m := m) (fs := fs) hy)
  simpa [List.getElem?_drop] using this
theorem rc_bads {t : Twn} {sl : Value} {bt m : Nat} {y : List Int} {fs : Value} (hy : y.length = 496) : (rcs t sl bt y fs m)[509]? = some (.map (some m)) := by
  have := congrArg (fun l : List Value => l[1]?) (rc_tail (t := t) (sl := sl) (bt := bt) (m := m) (fs := fs) hy)
  simpa [List.getElem?_drop] using this
theorem spl_set {l : List Value} {k : Nat} {v : Value} (h : k < l.length) : spl l k [v] = l.set k v := by
  simp only [spl, List.length_singleton, List.append_assoc, List.singleton_append]
  rw [List.set_eq_take_append_cons_drop, if_pos h]
theorem rc_put {t : Twn} {sl : Value} {bt m i k : Nat} {y : List Int} {fs : Value} (x : Int) (hi : i < y.length) (e : k = 12 + i) : spl (rcs t sl bt y fs m) k [.int .i64 x] = rcs t sl bt (y.set i x) fs m := by
  subst e
  rw [spl_set (by simp [rcs, ints_length]; omega)]
  show (([_, _, _, _, _, _, _, _, _, _, _, _] ++ (ints y ++ [fs, .map (some m)]) : List Value)).set (12 + i) _ = [_, _, _, _, _, _, _, _, _, _, _, _] ++ (ints (y.set i x) ++ [fs, .map (some m)])
  rw [List.set_append_right _ _ (by simp)]
  simp only [List.length_cons, List.length_nil, Nat.zero_add, Nat.add_sub_cancel_left]
  rw [List.set_append_left _ _ (by rw [ints_length]; exact hi), ints_set]
theorem rc_putf {t : Twn} {sl : Value} {bt m : Nat} {y : List Int} {fs : Value} (fs' : Value) (hy : y.length = 496) : spl (rcs t sl bt y fs m) 508 [fs'] = rcs t sl bt y fs' m := by
  rw [spl_set (by rw [rc_len hy]; omega)]
  show (([_, _, _, _, _, _, _, _, _, _, _, _] ++ (ints y ++ [fs, .map (some m)]) : List Value)).set 508 _ = [_, _, _, _, _, _, _, _, _, _, _, _] ++ (ints y ++ [fs', .map (some m)])
  rw [List.set_append_right _ _ (by simp)]
  simp only [List.length_cons, List.length_nil, Nat.zero_add]
  rw [List.set_append_right _ _ (by rw [ints_length]; omega), ints_length, hy]
  rfl
theorem c_may (t : Twn) (s : Sta) (ba oa ca : Nat) (bt : Nat) (H : Heap) (R : Facts) [hT : MemRows (some ⟨bt, 0, none⟩) 11 [twl t (t.sl (some ⟨ba, oa, none⟩) ca)] R] :
    FnV Try.prog 126 [s.v, .pointer (some ⟨bt, 0, none⟩)] H R (.bool (decide (s.dry < t.run))) := by
 refine fn_of Try.func126 rfl Try.ntmps126 rfl ?_
 refine sy_seq ?_
 refine sy_tx' [0, 1] rfl ?_
 refine bx rfl rfl rfl (fun b2 => ?_)
 refine sp rfl (PE.assign rfl) rfl ?_
 refine sy_seq ?_
 refine sy_tx' [0, 1, 2, 3, 4, 5] rfl ?_
 refine sp rfl (PE.fieldAddr fo23_2 rfl) rfl ?_
 refine spL rfl rfl (lh sc3 rfl rfl) rfl ?_
 refine sp rfl (PE.fieldAddr fo26_4 rfl) rfl ?_
 refine spL rfl rfl (lfB (sz := 11) sc3 rfl) rfl ?_
 refine sp rfl (PE.lss rfl rfl) rfl ?_
 refine sp rfl (PE.assign rfl) rfl ?_
 refine sy_ret ?_
 exact sy_return (vs := [_]) rfl (.cons (RV.tmp rfl) .nil) rfl ⟨rfl, rfl, rfl⟩ drp
theorem c_opened (t : Twn) (hl : t.rats.length ≤ 9223372036854775807) (ba oa ca : Nat) (H : Heap) (R : Facts) [hR : MemRows (some ⟨ba, oa, none⟩) 2 (rrows t.rats) R] :
    Fn Try.prog 89 [t.v (t.sl (some ⟨ba, oa, none⟩) ca)] H R (fun v H' R' => (t.check ≠ 0 ∧ v = .tuple #[.pointer none, .int .i64 t.check] ∧ H' = H ∧ R' = R) ∨
      (t.check = 0 ∧ ∃ bw m bt, v = .tuple #[.pointer (some ⟨bw, 0, none⟩), .int .i64 0] ∧ H' = (bw, cel 153 (rcs t (t.sl (some ⟨ba, oa, none⟩) ca) bt (List.replicate 496 0) (.slice none 0 0) m)) :: (m, mapO true []) :: H ∧ R' = RowsA (some ⟨bt, 0, none⟩) 11 [twl t (t.sl (some ⟨ba, oa, none⟩) ca)] :: R)) := by
 refine fn_of Try.func89 rfl Try.ntmps89 rfl ?_
 refine sy_seq ?_
 refine sy_tx' [0, 1, 2] rfl ?_
 refine bx rfl rfl rfl (fun b1 => ?_)
 refine sp rfl (PE.assign rfl) rfl ?_
 refine sp rfl (PE.assign rfl) rfl ?_
 refine sy_seq ?_
 refine sy_seq ?_
 refine sy_tx' [0, 1, 2] rfl ?_
 refine spL rfl rfl (lhA [_, _, _, _, _, _, _, _, _, _, _] ag26 rfl rfl rfl) rfl ?_
 refine clV rfl cal67 rfl rfl (c_Check t _ _ hl _ _) ?_
 refine sp rfl (PE.assign rfl) rfl ?_
 refine sy_seq ?_
 refine sy_tx' [0, 1] rfl ?_
 refine sp rfl (PE.move rfl) rfl ?_
 refine sp rfl (PE.neq rfl rfl) rfl ?_
 refine sy_cond rfl (fun hc0 => ?_) (fun hc0 => ?_)
 simp only [decide_eq_true_eq, decide_eq_false_iff_not, Bool.and_eq_true, Bool.or_eq_true, Bool.not_eq_true', Int.not_le, Int.not_lt] at hc0
 refine sy_seq ?_
 refine sy_tx' [0, 1, 2] rfl ?_
 refine sp rfl (PE.move rfl) rfl ?_
 refine sp rfl (PE.assign rfl) rfl ?_
 refine sp rfl (PE.assign rfl) rfl ?_
 refine sy_ret ?_
 first
   | exact sy_return (vs := [_, _]) rfl (.cons (RV.tmp rfl) (.cons (RV.tmp rfl) .nil)) rfl (.inl ⟨by simpa using hc0, rfl, rfl, rfl⟩) (fun _ h => h.tail)
   | exact sy_return (vs := [_, _]) rfl (.cons (RV.tmp rfl) (.cons (RV.tmp rfl) .nil)) rfl (.inr ⟨by simpa using hc0, _, _, _, rfl, rfl, rfl⟩) (fun w h => St.rows (sz := 11) (rows := [twl t (t.sl (some ⟨ba, oa, none⟩) ca)]) (rest := []) (h.perm (List.perm_middle (l₁ := [_, _]))) (by simp))
 simp only [bne_self_eq_false, decide_eq_true_eq, decide_eq_false_iff_not, Bool.and_eq_true, Bool.or_eq_true, Bool.not_eq_true', Int.not_le, Int.not_lt] at hc0
 refine sy_skip ?_
 refine sy_seq ?_
 refine sy_tx' [0, 1, 2, 3, 4, 5, 6] rfl ?_
 refine spL rfl rfl (lhA [_, _, _, _, _, _, _, _, _, _, _] ag26 rfl rfl rfl) rfl ?_
 refine sp rfl (PE.makeFunc rfl rfl) rfl ?_
 refine sp rfl (PE.build (out := [_]) pl148 zl148 rfl rfl) rfl ?_
 refine mkm rfl rfl true (fun m => ?_)
 refine sp rfl (PE.build (out := rcs t (t.sl (some ⟨ba, oa, none⟩) ca) b1 (List.replicate 496 0) (.slice none 0 0) m) pl153 zl153 rfl (by kernel_rfl)) rfl ?_
 refine bx rfl rfl rfl (fun b16 => ?_)
 refine sp rfl (PE.assign rfl) rfl ?_
 refine sy_seq ?_
 refine sy_tx' [0, 1, 2] rfl ?_
 refine sp rfl (PE.move rfl) rfl ?_
 refine sp rfl (PE.assign rfl) rfl ?_
 refine sp rfl (PE.assign rfl) rfl ?_
 refine sy_ret ?_
 first
   | exact sy_return (vs := [_, _]) rfl (.cons (RV.tmp rfl) (.cons (RV.tmp rfl) .nil)) rfl (.inl ⟨by simpa using hc0, rfl, rfl, rfl⟩) (fun _ h => h.tail)
   | exact sy_return (vs := [_, _]) rfl (.cons (RV.tmp rfl) (.cons (RV.tmp rfl) .nil)) rfl (.inr ⟨by simpa using hc0, _, _, _, rfl, rfl, rfl⟩) (fun w h => St.rows (sz := 11) (rows := [twl t (t.sl (some ⟨ba, oa, none⟩) ca)]) (rest := []) (h.perm (List.perm_middle (l₁ := [_, _]))) (by simp))
theorem c_of (t : Twn) (ht : t.ok) (s : Sta) (hs : s.right t = true) (ba oa ca : Nat) (bt bw m : Nat) (y : List Int) (fs : Value) (hy : y.length = 496) (H : Heap) (R : Facts) [hW : Mem1 bw (cel 153 (rcs t (t.sl (some ⟨ba, oa, none⟩) ca) bt y fs m)) H] :
    FnV Try.prog 95 [.pointer (some ⟨bw, 12, none⟩), s.v] H R (.int .i64 (lat y s)) := by
 refine fn_of Try.func95 rfl Try.ntmps95 rfl ?_
 refine sy_seq ?_
 refine sy_tx' [0, 1] rfl ?_
 refine bx rfl rfl rfl (fun b3 => ?_)
 refine sp rfl (PE.assign rfl) rfl ?_
 refine sy_seq ?_
 refine sy_draw [0, 0, 2, 0, 8, 0, 32, 1, 135, 415, 1023, 2047, 4095] (.tk 0 (.tk 1 (.ld 2 (.tk 3 (.ld 4 (.tk 5 (.ld 6 (.tk 7 (.tk 8 (.tk 9 (.tk 10 (.ld 11 (.tk 12 .done))))))))))))) mixed (by kernel_rfl) ?_
 refine tk rfl (PE.move rfl) rfl ?_
 refine tk rfl (PE.fieldAddr fo23_0 rfl) rfl ?_
 refine ld rfl rfl (lh sc3 rfl rfl) rfl ?_
 refine tk rfl (PE.fieldAddr fo23_1 rfl) rfl ?_
 refine ld rfl rfl (lh sc3 rfl rfl) rfl ?_
 refine tk rfl (PE.fieldAddr fo23_2 rfl) rfl ?_
 refine ld rfl rfl (lh sc3 rfl rfl) rfl ?_
 refine tk rfl (PE.nilCheck rfl) rfl ?_
 refine tk rfl (PE.indexArr ar150 rfl rfl (by have h1 := right_iff.1 hs; have h2 := ht.holds; have h3 := ht.patience; have h4 := ht.run; omega) (by have h1 := right_iff.1 hs; have h2 := ht.holds; have h3 := ht.patience; have h4 := ht.run; omega)) rfl ?_
 refine tk rfl (PE.indexArr ar145 rfl rfl (by have h1 := right_iff.1 hs; have h2 := ht.holds; have h3 := ht.patience; have h4 := ht.run; omega) (by have h1 := right_iff.1 hs; have h2 := ht.holds; have h3 := ht.patience; have h4 := ht.run; omega)) rfl ?_
 refine tk rfl (PE.indexArr ar144 rfl rfl (by have h1 := right_iff.1 hs; have h2 := ht.holds; have h3 := ht.patience; have h4 := ht.run; omega) (by have h1 := right_iff.1 hs; have h2 := ht.holds; have h3 := ht.patience; have h4 := ht.run; omega)) rfl ?_
 refine ld rfl rfl (lh sc3 rfl (rc_cell (lat_get (s := s) (by have := ix_lt ht hs; omega)) (by unfold Sta.ix; omega))) rfl ?_
 refine tk rfl (PE.assign rfl) rfl ?_
 refine sy_ret ?_
 exact sy_return (vs := [_]) rfl (.cons (RV.tmp rfl) .nil) rfl ⟨rfl, rfl, rfl⟩ drp
theorem c_keeps (t : Twn) (ht : t.ok) (s : Sta) (hs : s.right t = true) (r : Int) (q : Rn) (h0 : 0 ≤ r) (hq : t.rats[r.toNat]? = some q) (bads : Int) (hb : 0 ≤ bads ∧ bads ≤ 1000000) (ba oa ca : Nat) (bt bw m : Nat) (y : List Int) (fs : Value) (hy : y.length = 496) (H : Heap) (R : Facts) [hR : MemRows (some ⟨ba, oa, none⟩) 2 (rrows t.rats) R] [hT : MemRows (some ⟨bt, 0, none⟩) 11 [twl t (t.sl (some ⟨ba, oa, none⟩) ca)] R] [hW : Mem1 bw (cel 153 (rcs t (t.sl (some ⟨ba, oa, none⟩) ca) bt y fs m)) H] :
    FnV Try.prog 96 [.pointer (some ⟨bw, 0, none⟩), s.v, .int .i64 r, .int .i64 bads] H R (.bool (t.keeps y s q bads)) := by
 refine fn_of Try.func96 rfl Try.ntmps96 rfl ?_
 refine sy_seq ?_
 refine sy_tx' [0, 1] rfl ?_
 refine bx rfl rfl rfl (fun b5 => ?_)
 refine sp rfl (PE.assign rfl) rfl ?_
 refine sy_seq ?_
 refine sy_seq ?_
 refine sy_draw [0, 1, 3, 7, 0, 0, 63, 127, 255, 511, 1023, 2047, 511, 4607, 12799, 29183, 511, 511, 258559, 524287, 511, 2097151, 4194303] (.tk 0 (.tk 1 (.tk 2 (.ld 3 (.ld 4 (.tk 5 (.big 6 (.tk 7 (.tk 8 (.tk 9 (.tk 10 (.tk 11 (.tk 12 (.tk 13 (.tk 14 (.ld 15 (.ld 16 (.tk 17 (.tk 20 (.big 18 (.big 19 (.tk 21 (.tk 22 .done))))))))))))))))))))))) mixed (by kernel_rfl) ?_
 refine tk rfl (PE.move rfl) rfl ?_
 refine tk rfl (PE.nilCheck rfl) rfl ?_
 refine tk rfl (PE.fieldAddr fo153_0 rfl) rfl ?_
 refine ld rfl rfl (lhA [_, _, _, _, _, _, _, _, _, _, _] ag26 rfl rfl rfl) rfl ?_
 refine ld rfl rfl (lhA [_, _, _] ag23 rfl rfl rfl) rfl ?_
 refine tk rfl (PE.move rfl) rfl ?_
 refine clV rfl cal94 rfl rfl (c_allowed t s r q ba oa ca h0 hq _ _) ?_
 refine bg (fun w hs => ⟨trivial, trivial, trivial⟩) ?_
 refine tk rfl (PE.not rfl) rfl ?_
 refine tk rfl (PE.move rfl) rfl ?_
 refine sy_case (t := 18) rfl (fun g18 => ?_) (fun g18 => ?_)
 simp only [Bool.not_eq_true'] at g18
 repeat refine tkN rfl rfl rfl rfl rfl rfl rfl rfl ?_
 repeat refine ldN rfl rfl rfl rfl rfl rfl rfl rfl ?_
 repeat refine tkN rfl rfl rfl rfl rfl rfl rfl rfl ?_
 refine spN rfl rfl rfl rfl rfl rfl rfl rfl ?_
 refine bg (fun w hs => ⟨trivial, trivial, trivial⟩) ?_
 refine spN rfl rfl rfl rfl rfl rfl rfl rfl ?_
 refine bg (fun w hs => trivial) ?_
 refine tkN rfl rfl rfl rfl rfl rfl rfl rfl ?_
 refine tk rfl (PE.pick rfl rfl rfl) rfl ?_
 refine sy_condT rfl ?_
 refine sy_seq ?_
 refine sy_tx' [0] rfl ?_
 refine sp rfl (PE.assign rfl) rfl ?_
 refine sy_ret ?_
 exact sy_return (vs := [_]) rfl (.cons (RV.tmp rfl) .nil) rfl ⟨by
     first
       | (simp [retV, Twn.keeps, g18]; done)
       | (simp [retV, Twn.keeps, g18.2]; omega)
       | (simp [retV, Twn.keeps, g18.2, g39, g49, hc1]; try omega)
       | (simp [retV, Twn.keeps, g18.2, g39, hc1]; try omega)
       | (simp [retV, Twn.keeps, g18.2, g39]; try omega), rfl, rfl⟩ drp
 simp only [Bool.not_eq_false'] at g18
 replace g18 := And.intro (show q.sacks ≤ s.stock ∧ True by simp [Twn.can] at g18; exact ⟨g18.1, trivial⟩) g18
 refine tkG rfl rfl rfl rfl (PE.move rfl) rfl ?_
 refine tkG rfl rfl rfl rfl (PE.nilCheck rfl) rfl ?_
 refine tkG rfl rfl rfl rfl (PE.fieldAddr fo153_2 rfl) rfl ?_
 refine tkG rfl rfl rfl rfl (PE.move rfl) rfl ?_
 refine tkG rfl rfl rfl rfl (PE.nilCheck rfl) rfl ?_
 refine tkG rfl rfl rfl rfl (PE.fieldAddr fo153_0 rfl) rfl ?_
 refine ldG rfl rfl rfl rfl rfl (lhA [_, _, _, _, _, _, _, _, _, _, _] ag26 rfl rfl rfl) rfl ?_
 refine ldG rfl rfl rfl rfl rfl (lhA [_, _, _] ag23 rfl rfl rfl) rfl ?_
 refine tkG rfl rfl rfl rfl (PE.move rfl) rfl ?_
 refine tkG rfl rfl rfl rfl (PE.move rfl) rfl ?_
 refine clVG rfl rfl rfl rfl cal102 rfl rfl (c_next t ht s hs r q false ba oa ca h0 hq g18.1.1 _ _) ?_
 refine bg (fun w hs => ⟨trivial, trivial, trivial⟩) ?_
 refine clVG rfl rfl rfl rfl cal95 rfl rfl (c_of t ht _ (next_right ht hs (List.mem_of_getElem? hq) g18.2 (by simp)) ba oa ca bt bw m y fs hy _ _) ?_
 refine bg (fun w hs => trivial) ?_
 refine tkG rfl rfl rfl rfl (PE.lss rfl rfl) rfl ?_
 refine tk rfl (PE.pick rfl rfl rfl) rfl ?_
 refine sy_cond rfl (fun hc0 => ?_) (fun hc0 => ?_)
 simp only [decide_eq_true_eq] at hc0
 refine sy_seq ?_
 refine sy_tx' [0] rfl ?_
 refine sp rfl (PE.assign rfl) rfl ?_
 refine sy_ret ?_
 exact sy_return (vs := [_]) rfl (.cons (RV.tmp rfl) .nil) rfl ⟨by
     first
       | (simp [retV, Twn.keeps, g18]; done)
       | (simp [retV, Twn.keeps, g18.2]; omega)
       | (simp [retV, Twn.keeps, g18.2, g39, g49, hc1]; try omega)
       | (simp [retV, Twn.keeps, g18.2, g39, hc1]; try omega)
       | (simp [retV, Twn.keeps, g18.2, g39]; try omega), rfl, rfl⟩ drp
 simp only [decide_eq_false_iff_not, Int.not_lt] at hc0
 refine sy_skip ?_
 refine sy_seq ?_
 refine sy_tx' [0, 1, 2] rfl ?_
 refine sp rfl (PE.move rfl) rfl ?_
 refine sp rfl (PE.sub rfl rfl (by omega)) rfl ?_
 refine sp rfl (PE.assign rfl) rfl ?_
 refine sy_seq ?_
 refine sy_seq ?_
 refine sy_tx' [0, 1] rfl ?_
 refine sp rfl (PE.move rfl) rfl ?_
 refine sp rfl (PE.eql rfl rfl) rfl ?_
 refine sy_cond rfl (fun hc1 => ?_) (fun hc1 => ?_)
 simp only [decide_eq_true_eq] at hc1
 refine sy_tx' [0] rfl ?_
 refine sp rfl (PE.assign rfl) rfl ?_
 refine sy_seq ?_
 refine sy_draw [0, 1, 3, 7, 15, 31, 63, 127, 7, 511, 1023, 2047, 4095, 8191, 16383, 32767, 8191, 73727, 204799, 466943, 8191, 8191, 4136959, 8388607, 8191, 33554431, 67108863, 134217727] (.tk 0 (.tk 1 (.tk 2 (.tk 3 (.tk 4 (.tk 5 (.tk 6 (.ld 7 (.ld 8 (.big 9 (.tk 10 (.tk 11 (.tk 12 (.tk 13 (.tk 14 (.tk 15 (.tk 16 (.tk 17 (.tk 18 (.ld 19 (.ld 20 (.tk 21 (.tk 24 (.big 22 (.big 23 (.tk 25 (.tk 26 (.tk 27 .done)))))))))))))))))))))))))))) mixed (by kernel_rfl) ?_
 refine tk rfl (PE.move rfl) rfl ?_
 refine tk rfl (PE.eql rfl rfl) rfl ?_
 refine tk rfl (PE.move rfl) rfl ?_
 refine sy_case (t := 39) rfl (fun g39 => ?_) (fun g39 => ?_)
 simp only [decide_eq_true_eq] at g39
 repeat refine tkN rfl rfl rfl rfl rfl rfl rfl rfl ?_
 repeat refine ldN rfl rfl rfl rfl rfl rfl rfl rfl ?_
 refine spN rfl rfl rfl rfl rfl rfl rfl rfl ?_
 refine bg (fun w hs => ⟨trivial, trivial, trivial⟩) ?_
 refine tkN rfl rfl rfl rfl rfl rfl rfl rfl ?_
 refine tk rfl (PE.pick rfl rfl rfl) rfl ?_
 refine tk rfl (PE.move rfl) rfl ?_
 repeat refine tkN rfl rfl rfl rfl rfl rfl rfl rfl ?_
 repeat refine ldN rfl rfl rfl rfl rfl rfl rfl rfl ?_
 repeat refine tkN rfl rfl rfl rfl rfl rfl rfl rfl ?_
 refine spN rfl rfl rfl rfl rfl rfl rfl rfl ?_
 refine bg (fun w hs => ⟨trivial, trivial, trivial⟩) ?_
 refine spN rfl rfl rfl rfl rfl rfl rfl rfl ?_
 refine bg (fun w hs => trivial) ?_
 refine tkN rfl rfl rfl rfl rfl rfl rfl rfl ?_
 refine tk rfl (PE.pick rfl rfl rfl) rfl ?_
 refine tk rfl (PE.assign rfl) rfl ?_
 refine sy_ret ?_
 exact sy_return (vs := [_]) rfl (.cons (RV.tmp rfl) .nil) rfl ⟨by
     first
       | (simp [retV, Twn.keeps, g18]; done)
       | (simp [retV, Twn.keeps, g18.2]; omega)
       | (simp [retV, Twn.keeps, g18.2, g39, g49, hc1]; try omega)
       | (simp [retV, Twn.keeps, g18.2, g39, hc1]; try omega)
       | (simp [retV, Twn.keeps, g18.2, g39]; try omega), rfl, rfl⟩ drp
 simp only [decide_eq_false_iff_not] at g39
 refine tkG rfl rfl rfl rfl (PE.move rfl) rfl ?_
 refine tkG rfl rfl rfl rfl (PE.nilCheck rfl) rfl ?_
 refine tkG rfl rfl rfl rfl (PE.fieldAddr fo153_1 rfl) rfl ?_
 refine tkG rfl rfl rfl rfl (PE.fieldAddr fo148_0 rfl) rfl ?_
 refine ldG rfl rfl rfl rfl rfl (lh sc146 rfl rfl) rfl ?_
 refine ldG rfl rfl rfl rfl rfl (lhA [_, _, _] ag23 rfl rfl rfl) rfl ?_
 refine clFVG rfl rfl rfl rfl rfl (cal126) rfl rfl (c_may t s ba oa ca bt _ _) ?_
 refine bg (fun w hs => ⟨trivial, trivial, trivial⟩) ?_
 refine tkG rfl rfl rfl rfl (PE.not rfl) rfl ?_
 refine tk rfl (PE.pick rfl rfl rfl) rfl ?_
 refine tk rfl (PE.move rfl) rfl ?_
 refine sy_case (t := 49) rfl (fun g49 => ?_) (fun g49 => ?_)
 simp only [Bool.not_eq_true', decide_eq_false_iff_not] at g49
 repeat refine tkN rfl rfl rfl rfl rfl rfl rfl rfl ?_
 repeat refine ldN rfl rfl rfl rfl rfl rfl rfl rfl ?_
 repeat refine tkN rfl rfl rfl rfl rfl rfl rfl rfl ?_
 refine spN rfl rfl rfl rfl rfl rfl rfl rfl ?_
 refine bg (fun w hs => ⟨trivial, trivial, trivial⟩) ?_
 refine spN rfl rfl rfl rfl rfl rfl rfl rfl ?_
 refine bg (fun w hs => trivial) ?_
 refine tkN rfl rfl rfl rfl rfl rfl rfl rfl ?_
 refine tk rfl (PE.pick rfl rfl rfl) rfl ?_
 refine tk rfl (PE.assign rfl) rfl ?_
 refine sy_ret ?_
 exact sy_return (vs := [_]) rfl (.cons (RV.tmp rfl) .nil) rfl ⟨by
     first
       | (simp [retV, Twn.keeps, g18]; done)
       | (simp [retV, Twn.keeps, g18.2]; omega)
       | (simp [retV, Twn.keeps, g18.2, g39, g49, hc1]; try omega)
       | (simp [retV, Twn.keeps, g18.2, g39, hc1]; try omega)
       | (simp [retV, Twn.keeps, g18.2, g39]; try omega), rfl, rfl⟩ drp
 simp only [Bool.not_eq_false', decide_eq_true_eq] at g49
 refine tkG rfl rfl rfl rfl (PE.move rfl) rfl ?_
 refine tkG rfl rfl rfl rfl (PE.nilCheck rfl) rfl ?_
 refine tkG rfl rfl rfl rfl (PE.fieldAddr fo153_2 rfl) rfl ?_
 refine tkG rfl rfl rfl rfl (PE.move rfl) rfl ?_
 refine tkG rfl rfl rfl rfl (PE.nilCheck rfl) rfl ?_
 refine tkG rfl rfl rfl rfl (PE.fieldAddr fo153_0 rfl) rfl ?_
 refine ldG rfl rfl rfl rfl rfl (lhA [_, _, _, _, _, _, _, _, _, _, _] ag26 rfl rfl rfl) rfl ?_
 refine ldG rfl rfl rfl rfl rfl (lhA [_, _, _] ag23 rfl rfl rfl) rfl ?_
 refine tkG rfl rfl rfl rfl (PE.move rfl) rfl ?_
 refine tkG rfl rfl rfl rfl (PE.move rfl) rfl ?_
 refine clVG rfl rfl rfl rfl cal102 rfl rfl (c_next t ht s hs r q true ba oa ca h0 hq g18.1.1 _ _) ?_
 refine bg (fun w hs => ⟨trivial, trivial, trivial⟩) ?_
 refine clVG rfl rfl rfl rfl cal95 rfl rfl (c_of t ht _ (next_right ht hs (List.mem_of_getElem? hq) g18.2 (fun _ => g49)) ba oa ca bt bw m y fs hy _ _) ?_
 refine bg (fun w hs => trivial) ?_
 refine tkG rfl rfl rfl rfl (PE.geq rfl rfl) rfl ?_
 refine tk rfl (PE.pick rfl rfl rfl) rfl ?_
 refine tk rfl (PE.assign rfl) rfl ?_
 refine sy_ret ?_
 exact sy_return (vs := [_]) rfl (.cons (RV.tmp rfl) .nil) rfl ⟨by
     first
       | (simp [retV, Twn.keeps, g18]; done)
       | (simp [retV, Twn.keeps, g18.2]; omega)
       | (simp [retV, Twn.keeps, g18.2, g39, g49, hc1]; try omega)
       | (simp [retV, Twn.keeps, g18.2, g39, hc1]; try omega)
       | (simp [retV, Twn.keeps, g18.2, g39]; try omega), rfl, rfl⟩ drp
 simp only [decide_eq_false_iff_not] at hc1
 refine sy_skip ?_
 refine sy_seq ?_
 refine sy_draw [0, 1, 3, 7, 15, 31, 63, 127, 7, 511, 1023, 2047, 4095, 8191, 16383, 32767, 8191, 73727, 204799, 466943, 8191, 8191, 4136959, 8388607, 8191, 33554431, 67108863, 134217727] (.tk 0 (.tk 1 (.tk 2 (.tk 3 (.tk 4 (.tk 5 (.tk 6 (.ld 7 (.ld 8 (.big 9 (.tk 10 (.tk 11 (.tk 12 (.tk 13 (.tk 14 (.tk 15 (.tk 16 (.tk 17 (.tk 18 (.ld 19 (.ld 20 (.tk 21 (.tk 24 (.big 22 (.big 23 (.tk 25 (.tk 26 (.tk 27 .done)))))))))))))))))))))))))))) mixed (by kernel_rfl) ?_
 refine tk rfl (PE.move rfl) rfl ?_
 refine tk rfl (PE.eql rfl rfl) rfl ?_
 refine tk rfl (PE.move rfl) rfl ?_
 refine sy_case (t := 39) rfl (fun g39 => ?_) (fun g39 => ?_)
 simp only [decide_eq_true_eq] at g39
 repeat refine tkN rfl rfl rfl rfl rfl rfl rfl rfl ?_
 repeat refine ldN rfl rfl rfl rfl rfl rfl rfl rfl ?_
 refine spN rfl rfl rfl rfl rfl rfl rfl rfl ?_
 refine bg (fun w hs => ⟨trivial, trivial, trivial⟩) ?_
 refine tkN rfl rfl rfl rfl rfl rfl rfl rfl ?_
 refine tk rfl (PE.pick rfl rfl rfl) rfl ?_
 refine tk rfl (PE.move rfl) rfl ?_
 repeat refine tkN rfl rfl rfl rfl rfl rfl rfl rfl ?_
 repeat refine ldN rfl rfl rfl rfl rfl rfl rfl rfl ?_
 repeat refine tkN rfl rfl rfl rfl rfl rfl rfl rfl ?_
 refine spN rfl rfl rfl rfl rfl rfl rfl rfl ?_
 refine bg (fun w hs => ⟨trivial, trivial, trivial⟩) ?_
 refine spN rfl rfl rfl rfl rfl rfl rfl rfl ?_
 refine bg (fun w hs => trivial) ?_
 refine tkN rfl rfl rfl rfl rfl rfl rfl rfl ?_
 refine tk rfl (PE.pick rfl rfl rfl) rfl ?_
 refine tk rfl (PE.assign rfl) rfl ?_
 refine sy_ret ?_
 exact sy_return (vs := [_]) rfl (.cons (RV.tmp rfl) .nil) rfl ⟨by
     first
       | (simp [retV, Twn.keeps, g18]; done)
       | (simp [retV, Twn.keeps, g18.2]; omega)
       | (simp [retV, Twn.keeps, g18.2, g39, g49, hc1]; try omega)
       | (simp [retV, Twn.keeps, g18.2, g39, hc1]; try omega)
       | (simp [retV, Twn.keeps, g18.2, g39]; try omega), rfl, rfl⟩ drp
 simp only [decide_eq_false_iff_not] at g39
 refine tkG rfl rfl rfl rfl (PE.move rfl) rfl ?_
 refine tkG rfl rfl rfl rfl (PE.nilCheck rfl) rfl ?_
 refine tkG rfl rfl rfl rfl (PE.fieldAddr fo153_1 rfl) rfl ?_
 refine tkG rfl rfl rfl rfl (PE.fieldAddr fo148_0 rfl) rfl ?_
 refine ldG rfl rfl rfl rfl rfl (lh sc146 rfl rfl) rfl ?_
 refine ldG rfl rfl rfl rfl rfl (lhA [_, _, _] ag23 rfl rfl rfl) rfl ?_
 refine clFVG rfl rfl rfl rfl rfl (cal126) rfl rfl (c_may t s ba oa ca bt _ _) ?_
 refine bg (fun w hs => ⟨trivial, trivial, trivial⟩) ?_
 refine tkG rfl rfl rfl rfl (PE.not rfl) rfl ?_
 refine tk rfl (PE.pick rfl rfl rfl) rfl ?_
 refine tk rfl (PE.move rfl) rfl ?_
 refine sy_case (t := 49) rfl (fun g49 => ?_) (fun g49 => ?_)
 simp only [Bool.not_eq_true', decide_eq_false_iff_not] at g49
 repeat refine tkN rfl rfl rfl rfl rfl rfl rfl rfl ?_
 repeat refine ldN rfl rfl rfl rfl rfl rfl rfl rfl ?_
 repeat refine tkN rfl rfl rfl rfl rfl rfl rfl rfl ?_
 refine spN rfl rfl rfl rfl rfl rfl rfl rfl ?_
 refine bg (fun w hs => ⟨trivial, trivial, trivial⟩) ?_
 refine spN rfl rfl rfl rfl rfl rfl rfl rfl ?_
 refine bg (fun w hs => trivial) ?_
 refine tkN rfl rfl rfl rfl rfl rfl rfl rfl ?_
 refine tk rfl (PE.pick rfl rfl rfl) rfl ?_
 refine tk rfl (PE.assign rfl) rfl ?_
 refine sy_ret ?_
 exact sy_return (vs := [_]) rfl (.cons (RV.tmp rfl) .nil) rfl ⟨by
     first
       | (simp [retV, Twn.keeps, g18]; done)
       | (simp [retV, Twn.keeps, g18.2]; omega)
       | (simp [retV, Twn.keeps, g18.2, g39, g49, hc1]; try omega)
       | (simp [retV, Twn.keeps, g18.2, g39, hc1]; try omega)
       | (simp [retV, Twn.keeps, g18.2, g39]; try omega), rfl, rfl⟩ drp
 simp only [Bool.not_eq_false', decide_eq_true_eq] at g49
 refine tkG rfl rfl rfl rfl (PE.move rfl) rfl ?_
 refine tkG rfl rfl rfl rfl (PE.nilCheck rfl) rfl ?_
 refine tkG rfl rfl rfl rfl (PE.fieldAddr fo153_2 rfl) rfl ?_
 refine tkG rfl rfl rfl rfl (PE.move rfl) rfl ?_
 refine tkG rfl rfl rfl rfl (PE.nilCheck rfl) rfl ?_
 refine tkG rfl rfl rfl rfl (PE.fieldAddr fo153_0 rfl) rfl ?_
 refine ldG rfl rfl rfl rfl rfl (lhA [_, _, _, _, _, _, _, _, _, _, _] ag26 rfl rfl rfl) rfl ?_
 refine ldG rfl rfl rfl rfl rfl (lhA [_, _, _] ag23 rfl rfl rfl) rfl ?_
 refine tkG rfl rfl rfl rfl (PE.move rfl) rfl ?_
 refine tkG rfl rfl rfl rfl (PE.move rfl) rfl ?_
 refine clVG rfl rfl rfl rfl cal102 rfl rfl (c_next t ht s hs r q true ba oa ca h0 hq g18.1.1 _ _) ?_
 refine bg (fun w hs => ⟨trivial, trivial, trivial⟩) ?_
 refine clVG rfl rfl rfl rfl cal95 rfl rfl (c_of t ht _ (next_right ht hs (List.mem_of_getElem? hq) g18.2 (fun _ => g49)) ba oa ca bt bw m y fs hy _ _) ?_
 refine bg (fun w hs => trivial) ?_
 refine tkG rfl rfl rfl rfl (PE.geq rfl rfl) rfl ?_
 refine tk rfl (PE.pick rfl rfl rfl) rfl ?_
 refine tk rfl (PE.assign rfl) rfl ?_
 refine sy_ret ?_
 exact sy_return (vs := [_]) rfl (.cons (RV.tmp rfl) .nil) rfl ⟨by
     first
       | (simp [retV, Twn.keeps, g18]; done)
       | (simp [retV, Twn.keeps, g18.2]; omega)
       | (simp [retV, Twn.keeps, g18.2, g39, g49, hc1]; try omega)
       | (simp [retV, Twn.keeps, g18.2, g39, hc1]; try omega)
       | (simp [retV, Twn.keeps, g18.2, g39]; try omega), rfl, rfl⟩ drp
theorem c_any (t : Twn) (ht : t.ok) (s : Sta) (hs : s.right t = true) (bads : Int) (hb : 0 ≤ bads ∧ bads ≤ 1000000) (ba oa ca : Nat) (bt bw m : Nat) (y : List Int) (fs : Value) (hy : y.length = 496) (H : Heap) (R : Facts) [hR : MemRows (some ⟨ba, oa, none⟩) 2 (rrows t.rats) R] [hT : MemRows (some ⟨bt, 0, none⟩) 11 [twl t (t.sl (some ⟨ba, oa, none⟩) ca)] R] [hW : Mem1 bw (cel 153 (rcs t (t.sl (some ⟨ba, oa, none⟩) ca) bt y fs m)) H] :
    FnV Try.prog 132 [.pointer (some ⟨bw, 0, none⟩), s.v, .int .i64 bads] H R (.bool (t.rats.any fun q => t.keeps y s q bads)) := by
 refine fn_of Try.func132 rfl Try.ntmps132 rfl ?_
 refine sy_seq ?_
 refine sy_tx' [0, 1] rfl ?_
 refine bx rfl rfl rfl (fun b4 => ?_)
 refine sp rfl (PE.assign rfl) rfl ?_
 refine sy_seq ?_
 refine sy_seq ?_
 refine sy_tx' [0, 1, 2, 3, 4, 5, 6] rfl ?_
 refine sp rfl (PE.move rfl) rfl ?_
 refine sp rfl (PE.nilCheck rfl) rfl ?_
 refine sp rfl (PE.fieldAddr fo153_0 rfl) rfl ?_
 refine sp rfl (PE.fieldAddr fo26_8 rfl) rfl ?_
 refine spL rfl rfl (lh sc24 rfl rfl) rfl ?_
 refine sp rfl (PE.lenSl isl24 rfl) rfl ?_
 refine sp rfl (PE.move rfl) rfl ?_
 refine sy_block ?_
 have hlen := ht.many
 refine sy_loop (ι := {k : Nat // k ≤ t.rats.length ∧ ∀ i q, i < k → t.rats[i]? = some q → t.keeps y s q bads = false}) (fun k => ⟨[(0, .pointer (some ⟨bw, 0, none⟩)), (2, .int .i64 bads), (4, .pointer (some ⟨b4, 0, none⟩)), (13, .int .i64 t.rats.length), (14, .int .i64 k.1)], (b4, cel 23 [.int .i64 s.stock, .int .i64 s.short, .int .i64 s.dry]) :: H, R⟩) (fun k => t.rats.length - k.1) ⟨0, by omega, by omega⟩ ?_ (fun k => ?_)
 exact sy_at (by repeat' first | exact Sub.nil | apply Sub.cons | rfl | (simp [lk]; omega)) (fun _ h => h)
 obtain ⟨k, hk1, hk2⟩ := k
 dsimp only
 refine sy_seq ?_
 refine sy_tx' [0] rfl ?_
 refine sp rfl (PE.lss rfl rfl) rfl ?_
 refine sy_seq ?_
 refine sy_cond rfl (fun hc0 => ?_) (fun hc0 => ?_)
 simp only [decide_eq_true_eq, decide_eq_false_iff_not, Bool.and_eq_true, Bool.or_eq_true, Bool.not_eq_true', Int.not_le, Int.not_lt] at hc0
 obtain ⟨q, hq⟩ : ∃ q, t.rats[k]? = some q := ⟨_, List.getElem?_eq_getElem (by omega)⟩
 refine sy_skip ?_
 refine sy_seq ?_
 refine sy_block ?_
 refine sy_seq ?_
 refine sy_tx' [0, 1] rfl ?_
 refine sp rfl (PE.move rfl) rfl ?_
 refine sp rfl (PE.assign rfl) rfl ?_
 refine sy_seq ?_
 refine sy_tx' [0, 1, 2, 3, 4] rfl ?_
 refine sp rfl (PE.move rfl) rfl ?_
 refine spL rfl rfl (lhA [_, _, _] ag23 rfl rfl rfl) rfl ?_
 refine sp rfl (PE.move rfl) rfl ?_
 refine sp rfl (PE.move rfl) rfl ?_
 refine clV rfl cal96 rfl rfl (c_keeps t ht s hs k q (by omega) (by simpa using hq) bads hb ba oa ca bt bw m y fs hy _ _) ?_
 refine sy_cond rfl (fun hc1 => ?_) (fun hc1 => ?_)
 refine sy_seq ?_
 refine sy_tx' [0] rfl ?_
 refine sp rfl (PE.assign rfl) rfl ?_
 refine sy_ret ?_
 exact sy_return (vs := [_]) rfl (.cons (RV.tmp rfl) .nil) rfl ⟨by
     first
       | (have e : (t.rats.any fun q => t.keeps y s q bads) = true := List.any_eq_true.2 ⟨q, List.mem_of_getElem? hq, hc1⟩
          rw [e]; rfl)
       | (have e : (t.rats.any fun q => t.keeps y s q bads) = false := List.any_eq_false.2 fun q hq => by
           obtain ⟨i, hi⟩ := List.getElem?_of_mem hq
           simp [hk2 i q (List.getElem?_eq_some_iff.1 hi).1 hi]
          rw [e]; rfl), rfl, rfl⟩ drp
 refine sy_skip ?_
 refine sy_tx' [0, 1] rfl ?_
 refine sp rfl (PE.add rfl rfl (by omega)) rfl ?_
 refine sp rfl (PE.move rfl) rfl ?_
 exact sy_next ⟨k + 1, by omega, fun i q' hi hq' => by
   rcases Nat.lt_or_ge i k with h1 | h1
   · exact hk2 i q' h1 hq'
   · obtain rfl : i = k := by omega
     rw [hq] at hq'; cases hq'; exact hc1⟩ (by dsimp only; omega) (by repeat' first | exact Sub.nil | apply Sub.cons | rfl | (simp [lk]; omega)) (fun _ h => h)
 simp only [decide_eq_true_eq, decide_eq_false_iff_not, Bool.and_eq_true, Bool.or_eq_true, Bool.not_eq_true', Int.not_le, Int.not_lt] at hc0
 obtain rfl : k = t.rats.length := by omega
 refine sy_exit ?_
 repeat refine sy_tx ?_
 refine sy_bx ?_
 refine sy_seq ?_
 refine sy_tx' [0] rfl ?_
 refine sp rfl (PE.assign rfl) rfl ?_
 refine sy_ret ?_
 exact sy_return (vs := [_]) rfl (.cons (RV.tmp rfl) .nil) rfl ⟨by
     first
       | (have e : (t.rats.any fun q => t.keeps y s q bads) = true := List.any_eq_true.2 ⟨q, List.mem_of_getElem? hq, hc1⟩
          rw [e]; rfl)
       | (have e : (t.rats.any fun q => t.keeps y s q bads) = false := List.any_eq_false.2 fun q hq => by
           obtain ⟨i, hi⟩ := List.getElem?_of_mem hq
           simp [hk2 i q (List.getElem?_eq_some_iff.1 hi).1 hi]
          rw [e]; rfl), rfl, rfl⟩ drp
theorem c_states (t : Twn) (sl : Value) (H : Heap) (R : Facts) :
    Fn Try.prog 90 [t.v sl] H R (fun v H' R' => ∃ b, v = .func (.func 127) #[] #[.pointer (some ⟨b, 0, none⟩)] ∧ H' = H ∧ R' = RowsA (some ⟨b, 0, none⟩) 11 [twl t sl] :: R) := by
 refine fn_of Try.func90 rfl Try.ntmps90 rfl ?_
 refine sy_seq ?_
 refine sy_tx' [0, 1] rfl ?_
 refine bx rfl rfl rfl (fun b1 => ?_)
 refine sp rfl (PE.assign rfl) rfl ?_
 refine sy_seq ?_
 refine sy_tx' [0, 1] rfl ?_
 refine sp rfl (PE.makeFunc rfl rfl) rfl ?_
 refine sp rfl (PE.assign rfl) rfl ?_
 refine sy_ret ?_
 exact sy_return (vs := [_]) rfl (.cons (RV.tmp rfl) .nil) rfl ⟨_, rfl, rfl, rfl⟩ (fun w h => St.rows (sz := 11) (rows := [twl t sl]) (rest := []) h (by simp))
theorem c_states1 (t : Twn) (ht : t.ok) (sl : Value) (b l : Nat) (I : Nat → Heap → Facts → Prop) (E : Heap → Facts → Prop) (hI : ∀ k H R, I k H R → RowsA (some ⟨b, 0, none⟩) 11 [twl t sl] ∈ R)
    (hy : ∀ k s H R, (sts t)[k]? = some s → I k H R → Yd Try.prog l [s.v] H R (fun v H' R' => (v = .bool true ∧ I (k + 1) H' R') ∨ (v = .bool false ∧ E H' R'))) (H : Heap) (R : Facts) (h0 : I 0 H R) :
    Fn Try.prog 127 [yv l, .pointer (some ⟨b, 0, none⟩)] H R (fun _ H' R' => I t.nst H' R' ∨ E H' R') := by
 have t1 := ht.holds
 have t2 := ht.patience
 have t3 := ht.run
 haveI : MemRows (some ⟨b, 0, none⟩) 11 [twl t sl] R := ⟨hI _ _ _ h0⟩
 refine fn_of Try.func127 rfl Try.ntmps127 rfl ?_
 refine sy_seq ?_
 refine sy_tx' [0, 1, 2, 3] rfl ?_
 refine sp rfl (PE.fieldAddr fo26_1 rfl) rfl ?_
 refine spL rfl rfl (lfB (sz := 11) sc3 rfl) rfl ?_
 refine sp rfl (PE.add rfl rfl (by omega)) rfl ?_
 refine sp rfl (PE.move rfl) rfl ?_
 refine sy_block ?_
 refine sy_loop (ι := {x : Nat × Heap × Facts // x.1 ≤ t.holds.toNat + 1 ∧ I (x.1 * (t.patience.toNat + 1) * (t.run.toNat + 1)) x.2.1 x.2.2}) (fun x => ⟨[(0, yv l), (1, .pointer (some ⟨b, 0, none⟩)), (8, .int .i64 (t.holds + 1)), (9, .int .i64 x.1.1)], x.1.2.1, x.1.2.2⟩) (fun x => t.holds.toNat + 1 - x.1.1) ⟨(0, H, R), by omega, by simpa using h0⟩ ?_ (fun x => ?_)
 exact sy_at (by repeat' first | exact Sub.nil | apply Sub.cons | rfl | (simp [lk]; omega)) (fun _ h => h)
 obtain ⟨⟨k0, H0, R0⟩, hk0, hI0⟩ := x
 dsimp only at hk0 hI0 ⊢
 haveI : MemRows (some ⟨b, 0, none⟩) 11 [twl t sl] R0 := ⟨hI _ _ _ hI0⟩
 refine sy_seq ?_
 refine sy_tx' [0] rfl ?_
 refine sp rfl (PE.lss rfl rfl) rfl ?_
 refine sy_seq ?_
 refine sy_cond rfl (fun hc0 => ?_) (fun hc0 => ?_)
 simp only [decide_eq_true_eq, decide_eq_false_iff_not, Bool.and_eq_true, Bool.or_eq_true, Bool.not_eq_true', Int.not_le, Int.not_lt] at hc0
 refine sy_skip ?_
 refine sy_seq ?_
 refine sy_block ?_
 refine sy_seq ?_
 refine sy_tx' [0, 1] rfl ?_
 refine sp rfl (PE.move rfl) rfl ?_
 refine sp rfl (PE.assign rfl) rfl ?_
 refine sy_seq ?_
 refine sy_tx' [0, 1, 2, 3] rfl ?_
 refine sp rfl (PE.fieldAddr fo26_3 rfl) rfl ?_
 refine spL rfl rfl (lfB (sz := 11) sc3 rfl) rfl ?_
 refine sp rfl (PE.add rfl rfl (by omega)) rfl ?_
 refine sp rfl (PE.move rfl) rfl ?_
 refine sy_block ?_
 refine sy_loop (ι := {x : Nat × Heap × Facts // x.1 ≤ t.patience.toNat + 1 ∧ I ((k0 * (t.patience.toNat + 1) + x.1) * (t.run.toNat + 1)) x.2.1 x.2.2}) (fun x => ⟨[(0, yv l), (1, .pointer (some ⟨b, 0, none⟩)), (8, .int .i64 (t.holds + 1)), (9, .int .i64 k0), (3, .int .i64 k0), (14, .int .i64 (t.patience + 1)), (15, .int .i64 x.1.1)], x.1.2.1, x.1.2.2⟩) (fun x => t.patience.toNat + 1 - x.1.1) ⟨(0, H0, R0), by omega, by simpa using hI0⟩ ?_ (fun x => ?_)
 exact sy_at (by repeat' first | exact Sub.nil | apply Sub.cons | rfl | (simp [lk]; omega)) (fun _ h => h)
 obtain ⟨⟨k1, H1, R1⟩, hk1, hI1⟩ := x
 dsimp only at hk1 hI1 ⊢
 haveI : MemRows (some ⟨b, 0, none⟩) 11 [twl t sl] R1 := ⟨hI _ _ _ hI1⟩
 refine sy_seq ?_
 refine sy_tx' [0] rfl ?_
 refine sp rfl (PE.lss rfl rfl) rfl ?_
 refine sy_seq ?_
 refine sy_cond rfl (fun hc1 => ?_) (fun hc1 => ?_)
 simp only [decide_eq_true_eq, decide_eq_false_iff_not, Bool.and_eq_true, Bool.or_eq_true, Bool.not_eq_true', Int.not_le, Int.not_lt] at hc1
 refine sy_skip ?_
 refine sy_seq ?_
 refine sy_block ?_
 refine sy_seq ?_
 refine sy_tx' [0, 1] rfl ?_
 refine sp rfl (PE.move rfl) rfl ?_
 refine sp rfl (PE.assign rfl) rfl ?_
 refine sy_seq ?_
 refine sy_tx' [0, 1, 2, 3] rfl ?_
 refine sp rfl (PE.fieldAddr fo26_4 rfl) rfl ?_
 refine spL rfl rfl (lfB (sz := 11) sc3 rfl) rfl ?_
 refine sp rfl (PE.add rfl rfl (by omega)) rfl ?_
 refine sp rfl (PE.move rfl) rfl ?_
 refine sy_block ?_
 refine sy_loop (ι := {x : Nat × Heap × Facts // x.1 ≤ t.run.toNat + 1 ∧ I ((k0 * (t.patience.toNat + 1) + k1) * (t.run.toNat + 1) + x.1) x.2.1 x.2.2}) (fun x => ⟨[(0, yv l), (1, .pointer (some ⟨b, 0, none⟩)), (8, .int .i64 (t.holds + 1)), (9, .int .i64 k0), (3, .int .i64 k0), (14, .int .i64 (t.patience + 1)), (15, .int .i64 k1), (4, .int .i64 k1), (20, .int .i64 (t.run + 1)), (21, .int .i64 x.1.1)], x.1.2.1, x.1.2.2⟩) (fun x => t.run.toNat + 1 - x.1.1) ⟨(0, H1, R1), by omega, by simpa using hI1⟩ ?_ (fun x => ?_)
 exact sy_at (by repeat' first | exact Sub.nil | apply Sub.cons | rfl | (simp [lk]; omega)) (fun _ h => h)
 obtain ⟨⟨k2, H2, R2⟩, hk2, hI2⟩ := x
 dsimp only at hk2 hI2 ⊢
 refine sy_seq ?_
 refine sy_tx' [0] rfl ?_
 refine sp rfl (PE.lss rfl rfl) rfl ?_
 refine sy_seq ?_
 refine sy_cond rfl (fun hc2 => ?_) (fun hc2 => ?_)
 simp only [decide_eq_true_eq, decide_eq_false_iff_not, Bool.and_eq_true, Bool.or_eq_true, Bool.not_eq_true', Int.not_le, Int.not_lt] at hc2
 refine sy_skip ?_
 refine sy_seq ?_
 refine sy_block ?_
 refine sy_seq ?_
 refine sy_tx' [0, 1] rfl ?_
 refine sp rfl (PE.move rfl) rfl ?_
 refine sp rfl (PE.assign rfl) rfl ?_
 refine sy_seq ?_
 refine sy_tx' [0, 1, 2, 3, 4, 5, 6] rfl ?_
 refine sp rfl (PE.move rfl) rfl ?_
 refine sp rfl (PE.move rfl) rfl ?_
 refine sp rfl (PE.move rfl) rfl ?_
 refine sp rfl (PE.move rfl) rfl ?_
 refine sp rfl (PE.build (out := [_, _, _]) pl23 zl23 rfl rfl) rfl ?_
 refine clY rfl rfl rfl rfl (hy _ ⟨k0, k1, k2⟩ _ _ (by rw [sts_get (nst_lt (by omega) (by omega) (by omega)), staAt_of (by omega) (by omega)]) hI2) ?_
 rintro v H3 R3 (⟨rfl, hI3⟩ | ⟨rfl, hE3⟩)
 refine sp rfl (PE.not rfl) rfl ?_
 refine sy_condF rfl ?_
 refine sy_skip ?_
 refine sy_tx' [0, 1] rfl ?_
 refine sp rfl (PE.add rfl rfl (by omega)) rfl ?_
 refine sp rfl (PE.move rfl) rfl ?_
 first | cases hc3 | exact sy_next ⟨(k2 + 1, H3, R3), by omega, hI3⟩ (by dsimp only; omega) (by repeat' first | exact Sub.nil | apply Sub.cons | rfl | (simp [lk]; omega)) (fun _ h => h)
 refine sp rfl (PE.not rfl) rfl ?_
 refine sy_condT rfl ?_
 refine sy_ret ?_
 first | cases hc3 | exact sy_return (vs := []) rfl .nil rfl (.inr hE3) (fun _ h => h)
 simp only [decide_eq_true_eq, decide_eq_false_iff_not, Bool.and_eq_true, Bool.or_eq_true, Bool.not_eq_true', Int.not_le, Int.not_lt] at hc2
 obtain rfl : k2 = t.run.toNat + 1 := by omega
 refine sy_exit ?_
 repeat refine sy_tx ?_
 refine sy_bx ?_
 refine sy_tx' [0, 1] rfl ?_
 refine sp rfl (PE.add rfl rfl (by omega)) rfl ?_
 refine sp rfl (PE.move rfl) rfl ?_
 exact sy_next ⟨(k1 + 1, H2, R2), by omega, by rw [show k0 * (t.patience.toNat + 1) + (k1 + 1) = (k0 * (t.patience.toNat + 1) + k1) + 1 from rfl, Nat.succ_mul]; exact hI2⟩ (by dsimp only; omega) (by repeat' first | exact Sub.nil | apply Sub.cons | rfl | (simp [lk]; omega)) (fun _ h => h)
 simp only [decide_eq_true_eq, decide_eq_false_iff_not, Bool.and_eq_true, Bool.or_eq_true, Bool.not_eq_true', Int.not_le, Int.not_lt] at hc1
 obtain rfl : k1 = t.patience.toNat + 1 := by omega
 refine sy_exit ?_
 repeat refine sy_tx ?_
 refine sy_bx ?_
 refine sy_tx' [0, 1] rfl ?_
 refine sp rfl (PE.add rfl rfl (by omega)) rfl ?_
 refine sp rfl (PE.move rfl) rfl ?_
 exact sy_next ⟨(k0 + 1, H1, R1), by omega, by rw [Nat.succ_mul]; exact hI1⟩ (by dsimp only; omega) (by repeat' first | exact Sub.nil | apply Sub.cons | rfl | (simp [lk]; omega)) (fun _ h => h)
 simp only [decide_eq_true_eq, decide_eq_false_iff_not, Bool.and_eq_true, Bool.or_eq_true, Bool.not_eq_true', Int.not_le, Int.not_lt] at hc0
 obtain rfl : k0 = t.holds.toNat + 1 := by omega
 refine sy_exit ?_
 repeat refine sy_tx ?_
 refine sy_bx ?_
 exact sy_fall (vs := []) rfl .nil rfl (.inl hI0) (fun _ h => h)
end Go.Proofs.Ytaldphhdkmchhaa
namespace Go.Proofs.Ytaldphhdkmchhaa
set_option linter.unusedSimpArgs false
set_option linter.unusedVariables false
structure Sv where
  y : List Int
  fl : List (Sta × Int)
def ever (y : List Int) (s : Sta) : Bool := decide (lat y s = 1000000)
def cntE (t : Twn) (y : List Int) : Nat := (sts t).countP (ever y)
def Sv.step (t : Twn) (bads : Int) (σ : Sv) (s : Sta) : Sv := bif ever σ.y s && !(t.rats.any fun q => t.keeps σ.y s q bads) then ⟨σ.y.set s.ix (bads - 1), σ.fl ++ [(s, bads)]⟩ else σ
def pass (t : Twn) (bads : Int) (σ : Sv) : Sv := (sts t).foldl (Sv.step t bads) σ
def passes (t : Twn) (bads : Int) : Nat → Sv → Sv
  | 0, σ => σ
  | j + 1, σ => pass t bads (passes t bads j σ)
def everY (t : Twn) : List Int := (sts t).foldl (fun y s => y.set s.ix 1000000) (List.replicate 496 0)
inductive Rd (t : Twn) : Nat → Sv → Prop where
  | zero : Rd t 0 ⟨everY t, []⟩
  | next {n : Nat} {σ : Sv} (j : Nat) (h : Rd t n σ) (h1 : pass t n (passes t n j σ) = passes t n j σ) (h2 : passes t n j σ ≠ σ) : Rd t (n + 1) (passes t n j σ)
def Solv (t : Twn) (σ : Sv) : Prop := ∃ n : Nat, Rd t n σ ∧ pass t n σ = σ
theorem lat_set_self {y : List Int} {s : Sta} {v : Int} (h : s.ix < y.length) : lat (y.set s.ix v) s = v := by simp [lat, h]
theorem lat_set_ne {y : List Int} {s u : Sta} {v : Int} (h : s.ix ≠ u.ix) : lat (y.set s.ix v) u = lat y u := by
  simp only [lat, List.getD_eq_getElem?_getD, List.getElem?_set_ne h]
theorem countP_lt {α : Type} {p q : α → Bool} : ∀ {l : List α}, (∀ x ∈ l, p x = true → q x = true) → (∃ x ∈ l, q x = true ∧ p x = false) → l.countP p < l.countP q
  | [], _, ⟨_, h, _⟩ => by cases h
  | a :: l, h1, ⟨x, hx, hq, hp⟩ => by
    have hle : l.countP p ≤ l.countP q := List.countP_mono_left fun x hx hp => h1 x (by simp [hx]) hp
    rcases List.mem_cons.1 hx with rfl | hx
    · rw [List.countP_cons_of_pos hq, List.countP_cons_of_neg (by simp [hp])]; omega
    · have := countP_lt (l := l) (fun x hx => h1 x (by simp [hx])) ⟨x, hx, hq, hp⟩
      simp only [List.countP_cons]
      have h3 := h1 a (by simp)
      cases hpa : p a <;> cases hqa : q a <;> simp_all <;> omega
theorem step_len (t : Twn) (n : Int) (σ : Sv) (s : Sta) : (σ.step t n s).y.length = σ.y.length := by
  unfold Sv.step; cases ever σ.y s && !(t.rats.any fun q => t.keeps σ.y s q n) <;> simp
theorem step_cnt {t : Twn} (ht : t.ok) {n : Int} (hn : n ≤ 1000000) {σ : Sv} (hy : σ.y.length = 496) {s : Sta} (hs : s ∈ sts t) :
    σ.step t n s = σ ∨ (cntE t (σ.step t n s).y < cntE t σ.y ∧ (σ.step t n s).fl.length = σ.fl.length + 1) := by
  unfold Sv.step
  cases hc : ever σ.y s && !(t.rats.any fun q => t.keeps σ.y s q n) with
  | false => exact .inl rfl
  | true =>
    right
    simp only [Bool.and_eq_true] at hc
    have hix : s.ix < σ.y.length := by rw [hy]; exact ix_lt ht (sts_right ht hs)
    refine ⟨?_, by simp⟩
    refine countP_lt (fun u hu hp => ?_) ⟨s, hs, hc.1, ?_⟩
    · simp only [cond_true] at hp
      by_cases he : s.ix = u.ix
      · have := ix_inj ht (sts_right ht hs) (sts_right ht hu) he
        subst this; exact hc.1
      · simp only [ever, lat_set_ne he] at hp
        exact hp
    · simp only [cond_true, ever, lat_set_self hix]
      simp; omega
theorem fold_len (t : Twn) (n : Int) : ∀ (l : List Sta) (σ : Sv), (l.foldl (Sv.step t n) σ).y.length = σ.y.length
  | [], _ => rfl
  | s :: l, σ => by rw [List.foldl_cons, fold_len t n l, step_len]
theorem fold_cnt {t : Twn} (ht : t.ok) {n : Int} (hn : n ≤ 1000000) : ∀ (l : List Sta) (σ : Sv), σ.y.length = 496 → (∀ s ∈ l, s ∈ sts t) →
    (l.foldl (Sv.step t n) σ = σ ∨ cntE t (l.foldl (Sv.step t n) σ).y < cntE t σ.y) ∧ (l.foldl (Sv.step t n) σ).fl.length + cntE t (l.foldl (Sv.step t n) σ).y ≤ σ.fl.length + cntE t σ.y
  | [], σ, _, _ => ⟨.inl rfl, Nat.le_refl _⟩
  | s :: l, σ, hy, hl => by
    rw [List.foldl_cons]
    have h1 := step_cnt ht hn hy (hl s (by simp))
    obtain ⟨h2, h3⟩ := fold_cnt ht hn l (σ.step t n s) (by rw [step_len]; exact hy) (fun u hu => hl u (by simp [hu]))
    rcases h1 with h1 | ⟨h1, h4⟩
    · rw [h1] at h2 h3 ⊢; exact ⟨h2, h3⟩
    · refine ⟨.inr ?_, by omega⟩
      rcases h2 with h2 | h2
      · rw [h2]; exact h1
      · omega
theorem passes_len (t : Twn) (n : Int) : ∀ (j : Nat) (σ : Sv), (passes t n j σ).y.length = σ.y.length
  | 0, _ => rfl
  | j + 1, σ => by unfold passes; rw [pass, fold_len, passes_len t n j]
theorem passes_cnt {t : Twn} (ht : t.ok) {n : Int} (hn : n ≤ 1000000) : ∀ (j : Nat) (σ : Sv), σ.y.length = 496 →
    (passes t n j σ = σ ∨ cntE t (passes t n j σ).y < cntE t σ.y) ∧ (passes t n j σ).fl.length + cntE t (passes t n j σ).y ≤ σ.fl.length + cntE t σ.y
  | 0, σ, _ => ⟨.inl rfl, Nat.le_refl _⟩
  | j + 1, σ, hy => by
    unfold passes
    obtain ⟨h1, h2⟩ := passes_cnt ht hn j σ hy
    obtain ⟨h3, h4⟩ := fold_cnt ht hn (sts t) (passes t n j σ) (by rw [passes_len]; exact hy) (fun s hs => hs)
    refine ⟨?_, by unfold pass; omega⟩
    unfold pass
    rcases h1 with h1 | h1
    · rw [h1] at h3 ⊢; exact h3
    · right
      rcases h3 with h3 | h3
      · rw [h3]; exact h1
      · omega
theorem passes_same {t : Twn} (ht : t.ok) {n : Int} (hn : n ≤ 1000000) {j : Nat} {σ : Sv} (hy : σ.y.length = 496) (h : (passes t n j σ).y = σ.y) : passes t n j σ = σ := by
  rcases (passes_cnt ht hn j σ hy).1 with h1 | h1
  · exact h1
  · rw [h] at h1; omega
theorem pass_same {t : Twn} (ht : t.ok) {n : Int} (hn : n ≤ 1000000) {σ : Sv} (hy : σ.y.length = 496) (h : (pass t n σ).y = σ.y) : pass t n σ = σ := passes_same (j := 1) ht hn hy h
theorem pass_less {t : Twn} (ht : t.ok) {n : Int} (hn : n ≤ 1000000) {σ : Sv} (hy : σ.y.length = 496) (h : (pass t n σ).y ≠ σ.y) : cntE t (pass t n σ).y < cntE t σ.y := by
  rcases (passes_cnt ht hn 1 σ hy).1 with h1 | h1
  · exact absurd (congrArg Sv.y h1) h
  · exact h1
theorem pass_zero {t : Twn} {n : Int} {σ : Sv} (h : ∀ s, ever σ.y s = false) : pass t n σ = σ := by
  have : ∀ l : List Sta, l.foldl (Sv.step t n) σ = σ := by
    intro l
    induction l with
    | nil => rfl
    | cons s l ih => rw [List.foldl_cons, show σ.step t n s = σ from by simp [Sv.step, h s], ih]
  exact this _
theorem ever_zero (s : Sta) : ever (List.replicate 496 0) s = false := by
  unfold ever lat
  rw [List.getD_eq_getElem?_getD, List.getElem?_replicate]
  split <;> simp
theorem nst_le {t : Twn} (ht : t.ok) : t.nst ≤ 496 := by
  have h1 := ht.holds
  have h2 := ht.patience
  have h3 := ht.run
  have a := Nat.mul_le_mul (show t.holds.toNat + 1 ≤ 31 by omega) (show t.patience.toNat + 1 ≤ 4 by omega)
  have b := Nat.mul_le_mul a (show t.run.toNat + 1 ≤ 4 by omega)
  exact b
theorem everY_len : ∀ (l : List Sta) (y : List Int), (l.foldl (fun y s => y.set s.ix 1000000) y).length = y.length
  | [], _ => rfl
  | s :: l, y => by rw [List.foldl_cons, everY_len l]; simp
theorem rd_ok {t : Twn} (ht : t.ok) {n : Nat} {σ : Sv} (h : Rd t n σ) : σ.y.length = 496 ∧ n + cntE t σ.y ≤ 496 ∧ σ.fl.length + cntE t σ.y ≤ 496 := by
  have h0 : ∀ y, cntE t y ≤ 496 := fun y => Nat.le_trans (List.countP_le_length) (by rw [sts_len]; exact nst_le ht)
  induction h with
  | zero => exact ⟨by rw [everY, everY_len, List.length_replicate], by simpa using h0 _, by simpa using h0 _⟩
  | next j h h1 h2 ih =>
    rename_i m σ
    obtain ⟨i1, i2, i3⟩ := ih
    obtain ⟨a, b⟩ := passes_cnt (n := (m : Int)) ht (by omega) j σ i1
    refine ⟨by rw [passes_len]; exact i1, ?_, by omega⟩
    rcases a with a | a
    · exact absurd a h2
    · omega
def Rg (n : Int) (v : Int) : Prop := v = 1000000 ∨ (-1 ≤ v ∧ v ≤ n)
theorem fold_rg {t : Twn} (ht : t.ok) {n m : Int} (h0 : 0 ≤ n) (hm : n - 1 ≤ m) : ∀ (l : List Sta) (σ : Sv), σ.y.length = 496 → (∀ s ∈ l, s ∈ sts t) → (∀ s ∈ sts t, Rg m (lat σ.y s)) → ∀ s ∈ sts t, Rg m (lat (l.foldl (Sv.step t n) σ).y s)
  | [], _, _, _, h => h
  | u :: l, σ, hy, hl, h => by
    rw [List.foldl_cons]
    refine fold_rg ht h0 hm l _ (by rw [step_len]; exact hy) (fun s hs => hl s (by simp [hs])) ?_
    intro s hs
    unfold Sv.step
    cases ever σ.y u && !(t.rats.any fun q => t.keeps σ.y u q n) with
    | false => exact h s hs
    | true =>
      simp only [cond_true]
      by_cases he : u.ix = s.ix
      · have := ix_inj ht (sts_right ht (hl u (by simp))) (sts_right ht hs) he
        subst this
        rw [lat_set_self (by rw [hy]; exact ix_lt ht (sts_right ht hs))]
        exact .inr (by omega)
      · rw [lat_set_ne he]; exact h s hs
theorem passes_rg {t : Twn} (ht : t.ok) {n m : Int} (h0 : 0 ≤ n) (hm : n - 1 ≤ m) : ∀ (j : Nat) (σ : Sv), σ.y.length = 496 → (∀ s ∈ sts t, Rg m (lat σ.y s)) → ∀ s ∈ sts t, Rg m (lat (passes t n j σ).y s)
  | 0, _, _, h => h
  | j + 1, σ, hy, h => fold_rg ht h0 hm (sts t) _ (by rw [passes_len]; exact hy) (fun _ h => h) (passes_rg ht h0 hm j σ hy h)
theorem everY_get {t : Twn} (ht : t.ok) : ∀ (l : List Sta) (y : List Int), y.length = 496 → (∀ s ∈ l, s ∈ sts t) → ∀ s ∈ sts t, (s ∈ l ∨ lat y s = 1000000) → lat (l.foldl (fun y s => y.set s.ix 1000000) y) s = 1000000
  | [], _, _, _, _, _, h => by rcases h with h | h; cases h; exact h
  | u :: l, y, hy, hl, s, hs, h => by
    rw [List.foldl_cons]
    refine everY_get ht l _ (by simpa using hy) (fun s hs => hl s (by simp [hs])) s hs ?_
    by_cases he : u.ix = s.ix
    · right
      have := ix_inj ht (sts_right ht (hl u (by simp))) (sts_right ht hs) he
      subst this
      exact lat_set_self (by rw [hy]; exact ix_lt ht (sts_right ht hs))
    · rcases h with h | h
      · rcases List.mem_cons.1 h with rfl | h
        · exact absurd rfl he
        · exact .inl h
      · right; rw [lat_set_ne he]; exact h
theorem everY_ever {t : Twn} (ht : t.ok) {s : Sta} (hs : s ∈ sts t) : lat (everY t) s = 1000000 :=
  everY_get ht (sts t) _ List.length_replicate (fun _ h => h) s hs (.inl hs)
theorem rd_rg {t : Twn} (ht : t.ok) {n : Nat} {σ : Sv} (h : Rd t n σ) : ∀ s ∈ sts t, Rg ((n : Int) - 1) (lat σ.y s) := by
  induction h with
  | zero => exact fun s hs => .inl (everY_ever ht hs)
  | next j h h1 h2 ih =>
    rename_i m σ
    refine passes_rg ht (by omega) (by omega) j σ (rd_ok ht h).1 (fun s hs => ?_)
    rcases ih s hs with h | h
    · exact .inl h
    · exact .inr (by omega)
theorem solv_range {t : Twn} (ht : t.ok) {σ : Sv} (h : Solv t σ) {s : Sta} (hs : s.right t = true) : lat σ.y s = 1000000 ∨ (-1 ≤ lat σ.y s ∧ lat σ.y s ≤ 496) := by
  obtain ⟨n, h, _⟩ := h
  have h1 := rd_ok ht h
  rcases rd_rg ht h s (right_sts hs) with h2 | h2
  · exact .inl h2
  · exact .inr (by omega)
end Go.Proofs.Ytaldphhdkmchhaa
namespace Go.Proofs.Ytaldphhdkmchhaa
set_option linter.unusedSimpArgs false
set_option linter.unusedVariables false
open Go
theorem ag150 : aggN Try.prog 150 = some 496 := by kernel_rfl
theorem ap96 : apT Try.prog 96 = some (99, 4, 32) := by kernel_rfl
theorem cal127 : cal Try.prog 127 = true := by kernel_rfl
theorem cal132 : cal Try.prog 132 = true := by kernel_rfl
theorem cal90 : cal Try.prog 90 = true := by kernel_rfl
theorem cn150 : cellN Try.prog 150 = some 496 := by kernel_rfl
theorem cn96 : cellN Try.prog 96 = some 1 := by kernel_rfl
theorem eqf150 : eqB Try.prog 10000 150 = some (true, 496) := by kernel_rfl
theorem eqf23 : eqB Try.prog 10000 23 = some (true, 3) := by kernel_rfl
theorem eqg150 : Try.prog.eqGuardType Try.prog.depth 150 = false := by kernel_rfl
theorem fo153_3 : fOff Try.prog 153 3 = some 508 := by kernel_rfl
theorem fo153_4 : fOff Try.prog 153 4 = some 509 := by kernel_rfl
theorem mke151 : mapKE Try.prog 151 = some (23, 3) := by kernel_rfl
theorem noa23 : noArr Try.prog 10000 23 = true := by kernel_rfl
theorem pl99 : placeL Try.prog 99 = some [(0, 3), (3, 1)] := by kernel_rfl
theorem sc138 : scal Try.prog 138 = true := by kernel_rfl
theorem sc151 : scal Try.prog 151 = true := by kernel_rfl
theorem sc96 : scal Try.prog 96 = true := by kernel_rfl
theorem sl96 : slE Try.prog 96 = some (99, 4) := by kernel_rfl
theorem zl150 : zeroL Try.prog 150 = some (List.replicate 496 (.int .i64 0)) := by kernel_rfl
theorem zl99 : zeroL Try.prog 99 = some ([.int .i64 0, .int .i64 0, .int .i64 0, .int .i64 0]) := by kernel_rfl
def frow (p : Sta × Int) : List Value := [.int .i64 p.1.stock, .int .i64 p.1.short, .int .i64 p.1.dry, .int .i64 p.2]
def frows (l : List (Sta × Int)) : List (List Value) := l.map frow
def kvOf (l : List (Sta × Int)) : KV := l.foldl (fun kv p => kv.put [p.1.stock, p.1.short, p.1.dry] (.int .i64 p.2)) []
theorem kv_len : ∀ (l : List (Sta × Int)) (kv : KV), (∀ e ∈ kv, e.1.length = 3) → ∀ e ∈ l.foldl (fun (kv : KV) p => kv.put [p.1.stock, p.1.short, p.1.dry] (.int .i64 p.2)) kv, e.1.length = 3
  | [], _, h => h
  | p :: l, kv, h => by
    refine kv_len l _ ?_
    clear l
    induction kv with
    | nil => intro e he; simp only [KV.put, List.mem_singleton] at he; subst he; rfl
    | cons a kv ih =>
      intro e he
      obtain ⟨k', v'⟩ := a
      replace he : e ∈ bif decide (k' = [p.1.stock, p.1.short, p.1.dry]) then ([p.1.stock, p.1.short, p.1.dry], Value.int .i64 p.2) :: kv else (k', v') :: KV.put kv [p.1.stock, p.1.short, p.1.dry] (.int .i64 p.2) := he
      cases hc : decide (k' = [p.1.stock, p.1.short, p.1.dry]) <;> rw [hc] at he
      · rcases List.mem_cons.1 he with rfl | he
        · exact h _ (by simp)
        · exact ih (fun e he => h e (by simp [he])) e he
      · rcases List.mem_cons.1 he with rfl | he
        · rfl
        · exact h _ (by simp [he])
theorem kvOf_len (l : List (Sta × Int)) : ∀ e ∈ kvOf l, e.1.length = 3 := kv_len l [] (by simp)
theorem zl150i : zeroL Try.prog 150 = some (ints (List.replicate 496 0)) := by rw [zl150, ints, List.map_replicate]
structure SvI (t : Twn) where
  n : Nat
  σ : Sv
  ms : List Nat
  b3 : Nat
  o : OSl 99 4 (frows σ.fl)
  h : Rd t n σ
structure SvJ (t : Twn) (n : Nat) (σ : Sv) where
  j : Nat
  ms : List Nat
  b5 : Nat
  bf : List Int
  bl : bf.length = 496
  o : OSl 99 4 (frows (passes t n j σ).fl)
  h : (bf = List.replicate 496 0 ∧ j = 0) ∨ ∃ i, j = i + 1 ∧ bf = (passes t n i σ).y
theorem c_solve (t : Twn) (ht : t.ok) (ba oa ca : Nat) (bt bw m : Nat) (H : Heap) (R : Facts) [hR : MemRows (some ⟨ba, oa, none⟩) 2 (rrows t.rats) R] [hT : MemRows (some ⟨bt, 0, none⟩) 11 [twl t (t.sl (some ⟨ba, oa, none⟩) ca)] R] :
    Fn Try.prog 108 [.pointer (some ⟨bw, 0, none⟩)] ((bw, cel 153 (rcs t (t.sl (some ⟨ba, oa, none⟩) ca) bt (List.replicate 496 0) (.slice none 0 0) m)) :: (m, mapO true []) :: H) R
      (fun _ H' R' => ∃ (σ : Sv) (o : OSl 99 4 (frows σ.fl)), Solv t σ ∧ H' = o.G ++ (bw, cel 153 (rcs t (t.sl (some ⟨ba, oa, none⟩) ca) bt (σ.y) o.fs m)) :: (m, mapO true (kvOf σ.fl)) :: H ∧ R' = R) := by
 refine fnM_of Try.func108 rfl Try.ntmps108 rfl ?_
 refine sy_seq ?_
 refine sy_tx' [0] rfl ?_
 refine bx rfl rfl rfl (fun b1 => ?_)
 refine sy_seq ?_
 refine sy_seq ?_
 refine sy_tx' [0, 1, 2, 3, 4] rfl ?_
 refine spL rfl rfl (lh sc138 rfl rfl) rfl ?_
 refine sp rfl (PE.nilCheck rfl) rfl ?_
 refine sp rfl (PE.fieldAddr fo153_0 rfl) rfl ?_
 refine spL rfl rfl (lhA [_, _, _, _, _, _, _, _, _, _, _] ag26 rfl rfl rfl) rfl ?_
 refine cl rfl cal90 rfl rfl (c_states t (t.sl (some ⟨ba, oa, none⟩) ca) _ _) ?_
 rintro _ _ _ ⟨b11, rfl, rfl, rfl⟩
 refine sy_block ?_
 refine sy_range rfl cal127 (fun c0 bl0 bd0 hcp0 hca0 hcb0 hck0 => ?_)
 refine ⟨fun st pend T R' => st = .ready ∧ pend = none ∧ T = (bd0, .deferred (some [])) :: (b1, cel 138 [.pointer (some ⟨bw, 0, none⟩)]) :: (bw, cel 153 (rcs t (t.sl (some ⟨ba, oa, none⟩) ca) bt (everY t) (.slice none 0 0) m)) :: (m, mapO true []) :: H ∧ R' = RowsA (some ⟨b11, 0, none⟩) 11 [twl t (t.sl (some ⟨ba, oa, none⟩) ca)] :: R,
   Fn.mono (c_states1 t ht (t.sl (some ⟨ba, oa, none⟩) ca) b11 bl0 (fun k H' R' => H' = (bl0, lob c0 .ready none) :: (bd0, .deferred (some [])) :: (b1, cel 138 [.pointer (some ⟨bw, 0, none⟩)]) :: (bw, cel 153 (rcs t (t.sl (some ⟨ba, oa, none⟩) ca) bt (((sts t).take k).foldl (fun y s => y.set s.ix 1000000) (List.replicate 496 (0 : Int))) (.slice none 0 0) m)) :: (m, mapO true []) :: H ∧ R' = RowsA (some ⟨b11, 0, none⟩) 11 [twl t (t.sl (some ⟨ba, oa, none⟩) ca)] :: R) (fun _ _ => False)
     (fun k H' R' h => by rw [h.2]; simp) (fun k s H' R' hk hI => ?_) _ _ ⟨rfl, rfl⟩) (fun v H' R' h => ?_), ?_⟩
 rotate_left
 · rcases h with ⟨rfl, rfl⟩ | h
   · rw [List.take_of_length_le (by rw [sts_len]; exact Nat.le_refl _)]
     exact ⟨.ready, none, _, by simp, .refl _, rfl, rfl, rfl, rfl⟩
   · exact h.elim
 rotate_left
 obtain ⟨rfl, rfl⟩ := hI
 have hs := sts_right ht (List.mem_of_getElem? hk)
 have hix := ix_lt ht hs
 have q1 := right_iff.1 hs
 have t1 := ht.holds
 have t2 := ht.patience
 have t3 := ht.run
 have e : ((sts t).take (k + 1)).foldl (fun y s => y.set s.ix 1000000) (List.replicate 496 (0 : Int)) = (((sts t).take k).foldl (fun y s => y.set s.ix 1000000) (List.replicate 496 (0 : Int))).set s.ix 1000000 := by rw [List.take_add_one, hk, Option.toList_some, List.foldl_append]; rfl
 rw [e]
 have hyl : (((sts t).take k).foldl (fun y s => y.set s.ix 1000000) (List.replicate 496 (0 : Int))).length = 496 := by rw [everY_len, List.length_replicate]
 generalize ((sts t).take k).foldl (fun y s => y.set s.ix 1000000) (List.replicate 496 (0 : Int)) = y at *
 refine yd_of hcp0 hca0 hcb0 hck0 rfl ?_
 refine sy_tx' [0, 1] rfl ?_
 refine alc rfl zl23 rfl (fun b2 => ?_)
 refine sto rfl rfl rfl cn23 rfl rfl rfl rfl ?_
 refine sy_beginRound ?_
 refine sy_block ?_
 refine sy_draw [0, 0, 2, 0, 8, 0, 32, 1, 129, 391, 927, 2047, 4095] (.ld 0 (.tk 1 (.ld 2 (.tk 3 (.ld 4 (.tk 5 (.ld 6 (.tk 7 (.tk 8 (.tk 9 (.tk 10 (.tk 11 (.big 12 .done))))))))))))) mixed (by kernel_rfl) ?_
 refine ld rfl rfl (lh sc138 rfl rfl) rfl ?_
 refine tk rfl (PE.fieldAddr fo23_0 rfl) rfl ?_
 refine ld rfl rfl (lh sc3 rfl rfl) rfl ?_
 refine tk rfl (PE.fieldAddr fo23_1 rfl) rfl ?_
 refine ld rfl rfl (lh sc3 rfl rfl) rfl ?_
 refine tk rfl (PE.fieldAddr fo23_2 rfl) rfl ?_
 refine ld rfl rfl (lh sc3 rfl rfl) rfl ?_
 refine tk rfl (PE.nilCheck rfl) rfl ?_
 refine tk rfl (PE.fieldAddr fo153_2 rfl) rfl ?_
 refine tk rfl (PE.indexArr ar150 rfl rfl (by omega) (by omega)) rfl ?_
 refine tk rfl (PE.indexArr ar145 rfl rfl (by omega) (by omega)) rfl ?_
 refine tk rfl (PE.indexArr ar144 rfl rfl (by omega) (by omega)) rfl ?_
 refine stoE rfl rfl rfl cn3 rfl rfl rfl (rc_put 1000000 (i := s.ix) (by omega) (by unfold Sta.ix; omega)) (by rw [rc_len hyl]; show _ + 1 ≤ 510; omega) ?_
 refine bg (fun w hs => ⟨trivial, trivial, trivial, trivial, trivial⟩) ?_
 exact sy_roundOn (.inl ⟨rfl, rfl, rfl⟩) (fun _ h => by repeat first | exact h | replace h := St.tail h | replace h := St.ftail h | replace h := St.drop h)
 ·
  rintro _ _ _ _ ⟨rfl, rfl, rfl, rfl⟩
  refine sy_jn ?_
  refine sy_seq ?_
  refine sy_tx' [0, 1] rfl ?_
  refine alc rfl zl3 rfl (fun b3 => ?_)
  refine sto rfl rfl rfl cn3 rfl rfl rfl rfl ?_
  refine sy_block ?_
  refine sy_loopD (ι := SvI t) (fun x => ⟨[(1, .pointer (some ⟨b1, 0, none⟩)), (3, .pointer (some ⟨x.b3, 0, none⟩))], mks x.ms, mkh x.ms ++ (x.b3, cel 3 [.int .i64 x.n]) :: (b1, cel 138 [.pointer (some ⟨bw, 0, none⟩)]) :: (x.o.G ++ (bw, cel 153 (rcs t (t.sl (some ⟨ba, oa, none⟩) ca) bt (x.σ.y) x.o.fs m)) :: (m, mapO true (kvOf x.σ.fl)) :: H), R⟩) (fun x => cntE t x.σ.y) ⟨0, ⟨everY t, []⟩, [bd0], b3, OSl.nil _ _, .zero⟩ ?_ (fun x => ?_)
  ·
   exact sy_atD (by repeat' first | exact Sub.nil | apply Sub.cons | rfl | (simp [lk]; omega)) rfl (fun w h => (h.perm (.swap _ _ _)).ftail)
  ·
   obtain ⟨n, σ, ms, b3, o, hrd⟩ := x
   dsimp only
   obtain ⟨hyl, hcn, hfl⟩ := rd_ok ht hrd
   have hn6 : (n : Int) ≤ 1000000 := by omega
   refine sy_seq ?_
   refine sy_block ?_
   refine sy_seq ?_
   refine sy_tx' [0, 1, 2, 3, 4, 5] rfl ?_
   refine spL rfl rfl (lh sc138 rfl rfl) rfl ?_
   refine sp rfl (PE.nilCheck rfl) rfl ?_
   refine sp rfl (PE.fieldAddr fo153_2 rfl) rfl ?_
   refine spL rfl rfl (lhA (ints σ.y) ag150 rfl rfl (by rw [ints_length]; exact hyl)) rfl ?_
   refine alc rfl zl150 rfl (fun b4 => ?_)
   refine stoA rfl rfl rfl cn150 rfl (by rw [ints_length]; exact hyl) List.length_replicate (ints_one _) ?_
   refine sy_seq ?_
   refine sy_seq ?_
   refine sy_tx' [0, 1, 2] rfl ?_
   refine sp rfl (PE.zero (l := ints (List.replicate 496 0)) (.inr (by rw [ar150]; rfl)) zl150i) rfl ?_
   refine alc rfl zl150 rfl (fun b5 => ?_)
   refine stoA rfl rfl rfl cn150 rfl (by rw [ints_length, List.length_replicate]) List.length_replicate (ints_one _) ?_
   refine sy_block ?_
   refine sy_loopD (ι := SvJ t n σ) (fun x => ⟨[(1, .pointer (some ⟨b1, 0, none⟩)), (3, .pointer (some ⟨b3, 0, none⟩)), (4, .pointer (some ⟨b4, 0, none⟩)), (5, .pointer (some ⟨x.b5, 0, none⟩))], mks x.ms, mkh x.ms ++ (x.b5, cel 150 (ints x.bf)) :: (b4, cel 150 (ints σ.y)) :: (b3, cel 3 [.int .i64 n]) :: (b1, cel 138 [.pointer (some ⟨bw, 0, none⟩)]) :: (x.o.G ++ (bw, cel 153 (rcs t (t.sl (some ⟨ba, oa, none⟩) ca) bt ((passes t n x.j σ).y) x.o.fs m)) :: (m, mapO true (kvOf ((passes t n x.j σ)).fl)) :: H), R⟩)
     (fun x => 2 * cntE t (passes t n x.j σ).y + if x.bf = (passes t n x.j σ).y then 0 else 1) ⟨0, ms, b5, List.replicate 496 0, List.length_replicate, o, .inl ⟨rfl, rfl⟩⟩ ?_ (fun x => ?_)
   exact sy_atD (by repeat' first | exact Sub.nil | apply Sub.cons | rfl | (simp [lk]; omega)) rfl (fun w h => h.perm (perm_swap3 [_, _] _ _))
   ·
    obtain ⟨j, ms, b5, bf, hbl, o, hbf⟩ := x
    dsimp only
    have hyj : (passes t n j σ).y.length = 496 := by rw [passes_len]; exact hyl
    obtain ⟨hpc, hpf⟩ := passes_cnt (n := (n : Int)) ht hn6 j σ hyl
    refine sy_seq ?_
    refine sy_seq ?_
    refine sy_draw [0, 0, 2, 6, 14, 31] (.ld 0 (.ld 1 (.tk 2 (.tk 3 (.ld 4 (.tk 5 .done)))))) mixed (by kernel_rfl) ?_
    refine ld rfl rfl (lhA (rest := []) (ints bf) ag150 rfl (by simp) (by rw [ints_length]; exact hbl)) rfl ?_
    refine ld rfl rfl (lh sc138 rfl rfl) rfl ?_
    refine tk rfl (PE.nilCheck rfl) rfl ?_
    refine tk rfl (PE.fieldAddr fo153_2 rfl) rfl ?_
    refine ld rfl rfl (lhA (ints (passes t n j σ).y) ag150 rfl rfl (by rw [ints_length]; exact hyj)) rfl ?_
    refine tk rfl (PE.neqAgg bf (passes t n j σ).y (eqB_ok 10000 150 true 496 eqf150) eqg150 rfl rfl hbl hyj) rfl ?_
    refine sy_cond rfl (fun hc0 => ?_) (fun hc0 => ?_)
    ·
     have hne : bf ≠ (passes t n j σ).y := by simpa using hc0
     refine sy_skip ?_
     refine sy_seq ?_
     refine sy_block ?_
     refine sy_seq ?_
     refine sy_tx' [0, 1, 2, 3, 4] rfl ?_
     refine spL rfl rfl (lh sc138 rfl rfl) rfl ?_
     refine sp rfl (PE.nilCheck rfl) rfl ?_
     refine sp rfl (PE.fieldAddr fo153_2 rfl) rfl ?_
     refine spL rfl rfl (lhA (ints (passes t n j σ).y) ag150 rfl rfl (by rw [ints_length]; exact hyj)) rfl ?_
     refine stoA rfl rfl rfl cn150 rfl (by rw [ints_length]; exact hyj) (by rw [ints_length]; exact hbl) (ints_one _) ?_
     refine sy_seq ?_
     refine sy_tx' [0, 1, 2, 3, 4] rfl ?_
     refine spL rfl rfl (lh sc138 rfl rfl) rfl ?_
     refine sp rfl (PE.nilCheck rfl) rfl ?_
     refine sp rfl (PE.fieldAddr fo153_0 rfl) rfl ?_
     refine spL rfl rfl (lhA [_, _, _, _, _, _, _, _, _, _, _] ag26 rfl rfl rfl) rfl ?_
     refine cl rfl cal90 rfl rfl (c_states t (t.sl (some ⟨ba, oa, none⟩) ca) _ _) ?_
     rintro _ _ _ ⟨b46, rfl, rfl, rfl⟩
     refine sy_block ?_
     refine sy_range rfl cal127 (fun c1 bl1 bd1 hcp1 hca1 hcb1 hck1 => ?_)
     refine ⟨fun st pend T R' => st = .ready ∧ pend = none ∧ ∃ o' : OSl 99 4 (frows (pass t n (passes t n j σ)).fl), T = (bd1, .deferred (some [])) :: (mkh ms ++ (b5, cel 150 (ints (passes t n j σ).y)) :: (b4, cel 150 (ints σ.y)) :: (b3, cel 3 [.int .i64 n]) :: (b1, cel 138 [.pointer (some ⟨bw, 0, none⟩)]) :: (o'.G ++ (bw, cel 153 (rcs t (t.sl (some ⟨ba, oa, none⟩) ca) bt ((pass t n (passes t n j σ)).y) o'.fs m)) :: (m, mapO true (kvOf ((pass t n (passes t n j σ))).fl)) :: H)) ∧ R' = RowsA (some ⟨b46, 0, none⟩) 11 [twl t (t.sl (some ⟨ba, oa, none⟩) ca)] :: R,
       Fn.mono (c_states1 t ht (t.sl (some ⟨ba, oa, none⟩) ca) b46 bl1 (fun k H' R' => ∃ o' : OSl 99 4 (frows (((sts t).take k).foldl (Sv.step t n) (passes t n j σ)).fl), H' = (bl1, lob c1 .ready none) :: (bd1, .deferred (some [])) :: (mkh ms ++ (b5, cel 150 (ints (passes t n j σ).y)) :: (b4, cel 150 (ints σ.y)) :: (b3, cel 3 [.int .i64 n]) :: (b1, cel 138 [.pointer (some ⟨bw, 0, none⟩)]) :: (o'.G ++ (bw, cel 153 (rcs t (t.sl (some ⟨ba, oa, none⟩) ca) bt ((((sts t).take k).foldl (Sv.step t n) (passes t n j σ)).y) o'.fs m)) :: (m, mapO true (kvOf ((((sts t).take k).foldl (Sv.step t n) (passes t n j σ))).fl)) :: H)) ∧ R' = RowsA (some ⟨b46, 0, none⟩) 11 [twl t (t.sl (some ⟨ba, oa, none⟩) ca)] :: R) (fun _ _ => False)
         (fun k H' R' h => by obtain ⟨_, _, h⟩ := h; rw [h]; simp) (fun k s H' R' hk hI => ?_) _ _ ⟨o, rfl, rfl⟩) (fun v H' R' h => ?_), ?_⟩
     rotate_left
     · rw [List.take_of_length_le (show (sts t).length ≤ t.nst by rw [sts_len]; exact Nat.le_refl _)] at h
       rcases h with ⟨o', rfl, rfl⟩ | h
       · exact ⟨.ready, none, _, by simp, .refl _, rfl, rfl, o', rfl, rfl⟩
       · exact h.elim
     rotate_left
     have hs := sts_right ht (List.mem_of_getElem? hk)
     have hix := ix_lt ht hs
     have q1 := right_iff.1 hs
     have t1 := ht.holds
     have t2 := ht.patience
     have t3 := ht.run
     have e : ((sts t).take (k + 1)).foldl (Sv.step t n) (passes t n j σ) = (((sts t).take k).foldl (Sv.step t n) (passes t n j σ)).step t n s := by rw [List.take_add_one, hk, Option.toList_some, List.foldl_append]; rfl
     rw [e]
     obtain ⟨_, hkf⟩ := fold_cnt (n := (n : Int)) ht hn6 ((sts t).take k) (passes t n j σ) hyj (fun s h => List.mem_of_mem_take h)
     have hyk : (((sts t).take k).foldl (Sv.step t n) (passes t n j σ)).y.length = 496 := by rw [fold_len]; exact hyj
     clear e
     generalize ((sts t).take k).foldl (Sv.step t n) (passes t n j σ) = υ at *
     obtain ⟨o, rfl, rfl⟩ := hI
     refine yd_of hcp1 hca1 hcb1 hck1 rfl ?_
     refine sy_tx' [0, 1] rfl ?_
     refine alc rfl zl23 rfl (fun b6 => ?_)
     refine sto rfl rfl rfl cn23 rfl rfl rfl rfl ?_
     refine sy_beginRound ?_
     refine sy_block ?_
     refine sy_seq ?_
     refine sy_draw [0, 1, 3, 0, 15, 31, 63, 127, 127, 127, 1023, 2047, 4095] (.ld 0 (.tk 1 (.tk 2 (.ld 3 (.big 4 (.tk 5 (.tk 6 (.ld 7 (.ld 8 (.ld 9 (.big 10 (.tk 11 (.tk 12 .done))))))))))))) mixed (by kernel_rfl) ?_
     refine ld rfl rfl (lh sc138 rfl rfl) rfl ?_
     refine tk rfl (PE.nilCheck rfl) rfl ?_
     refine tk rfl (PE.fieldAddr fo153_2 rfl) rfl ?_
     refine ld rfl rfl (lhA [_, _, _] ag23 rfl rfl rfl) rfl ?_
     refine clV rfl cal95 rfl rfl (c_of t ht s hs ba oa ca bt bw m υ.y o.fs hyk _ _) ?_
     refine bg (fun w hs => ⟨trivial, trivial, trivial⟩) ?_
     refine tk rfl (PE.eql rfl rfl) rfl ?_
     refine tk rfl (PE.move rfl) rfl ?_
     refine sy_case (t := 54) rfl (fun g54 => ?_) (fun g54 => ?_)
     refine ldG rfl rfl rfl rfl rfl (lh sc138 rfl rfl) rfl ?_
     refine ldG rfl rfl rfl rfl rfl (lhA [_, _, _] ag23 rfl rfl rfl) rfl ?_
     refine ldG rfl rfl rfl rfl rfl (lh sc3 rfl rfl) rfl ?_
     refine clVG rfl rfl rfl rfl cal132 rfl rfl (c_any t ht s hs n (by omega) ba oa ca bt bw m υ.y o.fs hyk _ _) ?_
     refine bg (fun w hs => ⟨trivial, trivial, trivial, trivial⟩) ?_
     refine tkG rfl rfl rfl rfl (PE.not rfl) rfl ?_
     refine tk rfl (PE.pick rfl rfl rfl) rfl ?_
     refine sy_cond rfl (fun hc1 => ?_) (fun hc1 => ?_)
     have e : υ.step t n s = ⟨υ.y.set s.ix (n - 1), υ.fl ++ [(s, (n : Int))]⟩ := by simp [Sv.step, ever, g54, hc1]
     rw [e]
     refine sy_seq ?_
     refine sy_draw [0, 0, 2, 0, 8, 0, 32, 0, 128, 1, 513, 1543, 3615, 8191, 16383] (.ld 0 (.tk 1 (.ld 2 (.tk 3 (.ld 4 (.tk 5 (.ld 6 (.ld 7 (.tk 8 (.tk 9 (.tk 10 (.tk 11 (.tk 12 (.tk 13 (.big 14 .done))))))))))))))) mixed (by kernel_rfl) ?_
     refine ld rfl rfl (lh sc138 rfl rfl) rfl ?_
     refine tk rfl (PE.fieldAddr fo23_0 rfl) rfl ?_
     refine ld rfl rfl (lh sc3 rfl rfl) rfl ?_
     refine tk rfl (PE.fieldAddr fo23_1 rfl) rfl ?_
     refine ld rfl rfl (lh sc3 rfl rfl) rfl ?_
     refine tk rfl (PE.fieldAddr fo23_2 rfl) rfl ?_
     refine ld rfl rfl (lh sc3 rfl rfl) rfl ?_
     refine ld rfl rfl (lh sc3 rfl rfl) rfl ?_
     refine tk rfl (PE.sub rfl rfl (by omega)) rfl ?_
     refine tk rfl (PE.nilCheck rfl) rfl ?_
     refine tk rfl (PE.fieldAddr fo153_2 rfl) rfl ?_
     refine tk rfl (PE.indexArr ar150 rfl rfl (by omega) (by omega)) rfl ?_
     refine tk rfl (PE.indexArr ar145 rfl rfl (by omega) (by omega)) rfl ?_
     refine tk rfl (PE.indexArr ar144 rfl rfl (by omega) (by omega)) rfl ?_
     refine stoE rfl rfl rfl cn3 rfl rfl rfl (rc_put _ (i := s.ix) (by omega) (by unfold Sta.ix; omega)) (by rw [rc_len hyk]; show _ + 1 ≤ 510; omega) ?_
     refine bg (fun w hs => ⟨trivial, trivial, trivial, trivial, trivial, trivial⟩) ?_
     refine sy_seq ?_
     refine sy_draw [0, 0, 2, 6, 14, 0, 0, 96, 224, 510, 1023, 2047, 4095] (.ld 0 (.ld 1 (.tk 2 (.tk 3 (.ld 4 (.ld 5 (.ld 6 (.tk 7 (.big 8 (.big 9 (.tk 10 (.tk 11 (.big 12 .done))))))))))))) mixed (by kernel_rfl) ?_
     refine ld rfl rfl (lh sc138 rfl rfl) rfl ?_
     refine ld rfl rfl (lh sc138 rfl rfl) rfl ?_
     refine tk rfl (PE.nilCheck rfl) rfl ?_
     refine tk rfl (PE.fieldAddr fo153_3 rfl) rfl ?_
     refine ld rfl rfl (lh sc96 rfl (rc_fates (by simpa using hyk))) rfl ?_
     refine ld rfl rfl (lhA [_, _, _] ag23 rfl rfl rfl) rfl ?_
     refine ld rfl rfl (lh sc3 rfl rfl) rfl ?_
     refine tk rfl (PE.build (out := [_, _, _, _]) pl99 zl99 rfl rfl) rfl ?_
     refine bsl (out := [_, _, _, _]) rfl sl96 zl99 rfl rfl rfl rfl rfl rfl (fun b83 => ?_)
     refine bg (fun w hs => ⟨trivial, trivial, (lh sc96 rfl (rc_fates (by simpa using hyk))) w hs, (lh sc138 rfl rfl) w hs, (lh sc138 rfl rfl) w hs, trivial⟩) ?_
     refine apO (o) rfl ap96 rfl rfl (rowsH (row := frow (s, (n : Int))) rfl) rfl rfl (⟨by simp only [frows, List.length_map, List.length_singleton]; omega, by simp only [frows, List.length_map, List.length_singleton]; omega⟩) rfl (fun o84 => ?_)
     refine bg (fun w hs => ⟨trivial, trivial, (lh sc138 rfl rfl) w hs, trivial⟩) ?_
     refine tk rfl (PE.nilCheck rfl) rfl ?_
     refine tk rfl (PE.fieldAddr fo153_3 rfl) rfl ?_
     refine stoE (l' := rcs t (t.sl (some ⟨ba, oa, none⟩) ca) bt (υ.y.set s.ix (n - 1)) o84.fs m) rfl rfl rfl cn96 rfl (by rw [o84.cells.1]; first | done | rfl) (by rw [o84.cells.1]; simp [o84.cells.2]) (by rw [o84.cells.1]; exact rc_putf _ (by simpa using hyk)) (by rw [o84.cells.1, rc_len (by simpa using hyk)]; show 508 + 1 ≤ 510; omega) ?_
     refine bg (fun w hs => ⟨trivial, trivial⟩) ?_
     refine sy_draw [0, 1, 3, 7, 0, 0, 63] (.ld 0 (.tk 1 (.tk 2 (.ld 3 (.ld 4 (.ld 5 (.big 6 .done))))))) mixed (by kernel_rfl) ?_
     refine ld rfl rfl (lh sc138 rfl rfl) rfl ?_
     refine tk rfl (PE.nilCheck rfl) rfl ?_
     refine tk rfl (PE.fieldAddr fo153_4 rfl) rfl ?_
     refine ld rfl rfl (lh sc151 rfl (rc_bads (by simpa using hyk))) rfl ?_
     refine ld rfl rfl (lhA [_, _, _] ag23 rfl rfl rfl) rfl ?_
     refine ld rfl rfl (lh sc3 rfl rfl) rfl ?_
     refine mpu (kvOf υ.fl) [s.stock, s.short, s.dry] rfl mke151 (KeyT.of eqf23 noa23) rfl rfl rfl rfl (kvOf_len _) ?_
     refine bg (fun w hs => ⟨trivial, trivial, trivial, trivial, trivial⟩) ?_
     first
       | exact sy_roundOn (.inl ⟨rfl, o, rfl, rfl⟩) (fun _ h => by repeat first | exact h | replace h := St.tail h | replace h := St.ftail h | replace h := St.drop h)
       | exact sy_roundOn (.inl ⟨rfl, o84.cast (by simp [frows, frow]), rfl, rfl⟩) (fun w h => by
           have e2 : kvOf (υ.fl ++ [(s, (n : Int))]) = (kvOf υ.fl).put [s.stock, s.short, s.dry] (.int .i64 n) := by simp only [kvOf, List.foldl_append, List.foldl_cons, List.foldl_nil]
           simp only [e2]
           repeat first | exact h | replace h := St.tail h)
     have e : υ.step t n s = υ := by simp [Sv.step, hc1]
     rw [e]
     refine sy_skip ?_
     first
       | exact sy_roundOn (.inl ⟨rfl, o, rfl, rfl⟩) (fun _ h => by repeat first | exact h | replace h := St.tail h | replace h := St.ftail h | replace h := St.drop h)
       | exact sy_roundOn (.inl ⟨rfl, o84.cast (by simp [frows, frow]), rfl, rfl⟩) (fun w h => by
           have e2 : kvOf (υ.fl ++ [(s, (n : Int))]) = (kvOf υ.fl).put [s.stock, s.short, s.dry] (.int .i64 n) := by simp only [kvOf, List.foldl_append, List.foldl_cons, List.foldl_nil]
           simp only [e2]
           repeat first | exact h | replace h := St.tail h)
     have e : υ.step t n s = υ := by simp [Sv.step, ever, g54]
     rw [e]
     repeat refine ldN rfl rfl rfl rfl rfl rfl rfl rfl ?_
     refine spN rfl rfl rfl rfl rfl rfl rfl rfl ?_
     refine bg (fun w hs => ⟨trivial, trivial, trivial, trivial⟩) ?_
     refine tkN rfl rfl rfl rfl rfl rfl rfl rfl ?_
     refine tk rfl (PE.pick rfl rfl rfl) rfl ?_
     refine sy_condF rfl ?_
     refine sy_skip ?_
     first
       | exact sy_roundOn (.inl ⟨rfl, o, rfl, rfl⟩) (fun _ h => by repeat first | exact h | replace h := St.tail h | replace h := St.ftail h | replace h := St.drop h)
       | exact sy_roundOn (.inl ⟨rfl, o84.cast (by simp [frows, frow]), rfl, rfl⟩) (fun w h => by
           have e2 : kvOf (υ.fl ++ [(s, (n : Int))]) = (kvOf υ.fl).put [s.stock, s.short, s.dry] (.int .i64 n) := by simp only [kvOf, List.foldl_append, List.foldl_cons, List.foldl_nil]
           simp only [e2]
           repeat first | exact h | replace h := St.tail h)
     rintro _ _ _ _ ⟨rfl, rfl, o', rfl, rfl⟩
     refine sy_jn ?_
     refine sy_seq ?_
     refine sy_tx' [0] rfl ?_
     refine spL rfl rfl (lhA (rest := []) (ints (passes t n j σ).y) ag150 rfl (by simp) (by rw [ints_length]; exact hyj)) rfl ?_
     refine sy_tx' [0, 1] rfl ?_
     refine alc rfl zl150 rfl (fun b5 => ?_)
     refine stoA rfl rfl rfl cn150 rfl (by rw [ints_length]; exact hyj) List.length_replicate (ints_one _) ?_
     exact sy_nextD ⟨j + 1, bd1 :: ms, _, (passes t n j σ).y, hyj, o', .inr ⟨j, rfl, rfl⟩⟩ (by
       dsimp only
       rw [if_neg hne]
       by_cases he : (passes t n j σ).y = (passes t n (j + 1) σ).y
       · rw [if_pos he, ← he]; omega
       · rw [if_neg he]
         have := pass_less (σ := passes t n j σ) ht hn6 hyj (Ne.symm he)
         show 2 * cntE t (pass t n (passes t n j σ)).y + 1 < _
         omega) (by repeat' first | exact Sub.nil | apply Sub.cons | rfl | (simp [lk]; omega)) rfl (fun w h => (St.tail (h.perm (perm_mid [_] (mkh (bd1 :: ms)) [_] _))).ftail)
    have hbe : bf = (passes t n j σ).y := by simpa using hc0
    have hfix : pass t n (passes t n j σ) = passes t n j σ := by
      rcases hbf with ⟨hb1, rfl⟩ | ⟨i, rfl, hb1⟩
      · exact pass_zero (fun s => by rw [← hbe, hb1]; exact ever_zero s)
      · have e := pass_same (σ := passes t n i σ) ht hn6 (by rw [passes_len]; exact hyl) (by rw [← hb1, hbe]; rfl)
        show pass t n (pass t n (passes t n i σ)) = pass t n (passes t n i σ)
        rw [e]; exact e
    refine sy_exit ?_
    repeat refine sy_tx ?_
    refine sy_bx ?_
    refine sy_seq ?_
    refine sy_draw [0, 0, 2, 6, 14, 31] (.ld 0 (.ld 1 (.tk 2 (.tk 3 (.ld 4 (.tk 5 .done)))))) mixed (by kernel_rfl) ?_
    refine ld rfl rfl (lhA (rest := []) (ints σ.y) ag150 rfl (by simp) (by rw [ints_length]; exact hyl)) rfl ?_
    refine ld rfl rfl (lh sc138 rfl rfl) rfl ?_
    refine tk rfl (PE.nilCheck rfl) rfl ?_
    refine tk rfl (PE.fieldAddr fo153_2 rfl) rfl ?_
    refine ld rfl rfl (lhA (ints (passes t n j σ).y) ag150 rfl rfl (by rw [ints_length]; exact hyj)) rfl ?_
    refine tk rfl (PE.eqlAgg σ.y (passes t n j σ).y (eqB_ok 10000 150 true 496 eqf150) eqg150 rfl rfl hyl hyj) rfl ?_
    refine sy_cond rfl (fun hc2 => ?_) (fun hc2 => ?_)
    have hsame := passes_same (n := (n : Int)) (j := j) ht hn6 hyl (by simpa using hc2 : σ.y = _).symm
    refine sy_ret ?_
    exact sy_returnM ms (fun _ h => h) rfl .nil rfl ⟨passes t n j σ, o, ⟨n, by rw [hsame]; exact hrd, hfix⟩, rfl, rfl⟩ drp
    have hdiff : passes t n j σ ≠ σ := fun e => by rw [e] at hc2; simp at hc2
    refine sy_skip ?_
    refine sy_seq ?_
    refine sy_seq ?_
    refine sy_tx' [0] rfl ?_
    refine spL rfl rfl (lh sc3 rfl rfl) rfl ?_
    refine sy_tx' [0, 1] rfl ?_
    refine alc rfl zl3 rfl (fun b3 => ?_)
    refine sto rfl rfl rfl cn3 rfl rfl rfl rfl ?_
    refine sy_tx' [0, 1, 2] rfl ?_
    refine spL rfl rfl (lh sc3 rfl rfl) rfl ?_
    refine sp rfl (PE.add rfl rfl (by omega)) rfl ?_
    refine sto rfl rfl rfl cn3 rfl rfl rfl rfl ?_
    exact sy_nextD ⟨n + 1, passes t n j σ, ms, _, o, .next j hrd hfix hdiff⟩ (by
      rcases hpc with h | h
      · exact absurd h hdiff
      · exact h) (by repeat' first | exact Sub.nil | apply Sub.cons | rfl | (simp [lk]; omega)) rfl (fun w h => St.drop (G := [_, _, _]) (h.perm (perm_mid [_] _ [_, _, _] _)))
end Go.Proofs.Ytaldphhdkmchhaa
namespace Go.Proofs.Ytaldphhdkmchhaa
set_option linter.unusedSimpArgs false
set_option linter.unusedVariables false
open Go
theorem ap42 : apT Try.prog 42 = some (3, 1, 8) := by kernel_rfl
theorem cal108 : cal Try.prog 108 = true := by kernel_rfl
theorem cal89 : cal Try.prog 89 = true := by kernel_rfl
theorem cal97 : cal Try.prog 97 = true := by kernel_rfl
theorem solv_ok {t : Twn} (ht : t.ok) {σ : Sv} (h : Solv t σ) : σ.y.length = 496 := by
  obtain ⟨n, h, _⟩ := h
  exact (rd_ok ht h).1
def SvQ (t : Twn) (sl : Value) (H : Heap) (R : Facts) : Value → Heap → Facts → Prop := fun v H' R' =>
  (t.check ≠ 0 ∧ v = .tuple #[.pointer none, .int .i64 t.check] ∧ H' = H ∧ R' = R) ∨
  (t.check = 0 ∧ ∃ (bw m bt : Nat) (σ : Sv) (o : OSl 99 4 (frows σ.fl)), Solv t σ ∧ v = .tuple #[.pointer (some ⟨bw, 0, none⟩), .int .i64 0] ∧
    H' = o.G ++ (bw, cel 153 (rcs t sl bt σ.y o.fs m)) :: (m, mapO true (kvOf σ.fl)) :: H ∧ R' = RowsA (some ⟨bt, 0, none⟩) 11 [twl t sl] :: R)
def pickU (p : Rn → Bool) (l : List Rn) (k : Nat) : List Int := ((List.range k).filter fun i => match l[i]? with | some q => p q | none => false).map fun (i : Nat) => (i : Int)
theorem pickU_succ {p : Rn → Bool} {l : List Rn} {k : Nat} {q : Rn} (h : l[k]? = some q) : pickU p l (k + 1) = bif p q then pickU p l k ++ [(k : Int)] else pickU p l k := by
  unfold pickU
  rw [List.range_succ, List.filter_append]
  cases hp : p q <;> simp [h, hp]
theorem pickU_len (p : Rn → Bool) (l : List Rn) (k : Nat) : (pickU p l k).length ≤ k := by
  unfold pickU
  rw [List.length_map]
  exact Nat.le_trans (List.length_filter_le _ _) (by simp)
theorem c_solved (t : Twn) (hl : t.rats.length ≤ 9223372036854775807) (ba oa ca : Nat) (H : Heap) (R : Facts) [hR : MemRows (some ⟨ba, oa, none⟩) 2 (rrows t.rats) R] :
    Fn Try.prog 97 [t.v (t.sl (some ⟨ba, oa, none⟩) ca)] H R (SvQ t (t.sl (some ⟨ba, oa, none⟩) ca) H R) := by
 refine fn_of Try.func97 rfl Try.ntmps97 rfl ?_
 refine sy_seq ?_
 refine sy_tx' [0, 1, 2] rfl ?_
 refine bx rfl rfl rfl (fun b1 => ?_)
 refine sp rfl (PE.assign rfl) rfl ?_
 refine sp rfl (PE.assign rfl) rfl ?_
 refine sy_seq ?_
 refine sy_tx' [0, 1, 2, 3, 4, 5, 6] rfl ?_
 refine spL rfl rfl (lhA [_, _, _, _, _, _, _, _, _, _, _] ag26 rfl rfl rfl) rfl ?_
 refine cl rfl cal89 rfl rfl (c_opened t hl ba oa ca _ _) ?_
 rintro _ _ _ (⟨hck, rfl, rfl, rfl⟩ | ⟨hck, bw, m, bt, rfl, rfl, rfl⟩)
 refine sp rfl (PE.move rfl) rfl ?_
 refine sp rfl (PE.extract rfl rfl) rfl ?_
 refine sp rfl (PE.extract rfl rfl) rfl ?_
 refine sp rfl (PE.assign rfl) rfl ?_
 refine sp rfl (PE.assign rfl) rfl ?_
 refine sy_seq ?_
 refine sy_seq ?_
 refine sy_tx' [0, 1] rfl ?_
 refine sp rfl (PE.move rfl) rfl ?_
 refine sp rfl (PE.neq rfl rfl) rfl ?_
 refine sy_condT (congrArg (fun b => some (Value.bool b)) (decide_eq_true hck)) ?_
 refine sy_seq ?_
 refine sy_tx' [0, 1, 2] rfl ?_
 refine sp rfl (PE.move rfl) rfl ?_
 refine sp rfl (PE.assign rfl) rfl ?_
 refine sp rfl (PE.assign rfl) rfl ?_
 refine sy_ret ?_
 exact sy_return (vs := [_, _]) rfl (.cons (RV.tmp rfl) (.cons (RV.tmp rfl) .nil)) rfl (.inl ⟨hck, rfl, rfl, rfl⟩) drp
 have hok := (ok_of_check hck).1
 refine sp rfl (PE.move rfl) rfl ?_
 refine sp rfl (PE.extract rfl rfl) rfl ?_
 refine sp rfl (PE.extract rfl rfl) rfl ?_
 refine sp rfl (PE.assign rfl) rfl ?_
 refine sp rfl (PE.assign rfl) rfl ?_
 refine sy_seq ?_
 refine sy_seq ?_
 refine sy_tx' [0, 1] rfl ?_
 refine sp rfl (PE.move rfl) rfl ?_
 refine sp rfl (PE.neq rfl rfl) rfl ?_
 refine sy_condF (rfl) ?_
 refine sy_skip ?_
 refine sy_seq ?_
 refine sy_tx' [0, 1] rfl ?_
 refine sp rfl (PE.move rfl) rfl ?_
 refine cl rfl cal108 rfl rfl (c_solve t hok ba oa ca bt bw m _ _) ?_
 rintro v _ _ ⟨σ, o, hσ, rfl, rfl⟩
 refine sy_seq ?_
 refine sy_tx' [0, 1, 2] rfl ?_
 refine sp rfl (PE.move rfl) rfl ?_
 refine sp rfl (PE.assign rfl) rfl ?_
 refine sp rfl (PE.assign rfl) rfl ?_
 refine sy_ret ?_
 exact sy_return (vs := [_, _]) rfl (.cons (RV.tmp rfl) (.cons (RV.tmp rfl) .nil)) rfl (.inr ⟨hck, bw, m, bt, σ, o, hσ, rfl, rfl, rfl⟩) (fun w h => h.del b1)
theorem c_Lasts (t : Twn) (hl : t.rats.length ≤ 9223372036854775807) (ba oa ca : Nat) (H : Heap) (R : Facts) [hR : MemRows (some ⟨ba, oa, none⟩) 2 (rrows t.rats) R] :
    Fn Try.prog 42 [t.v (t.sl (some ⟨ba, oa, none⟩) ca)] H R (fun v H' R' => ((t.check ≠ 0 ∧ v = .tuple #[.int .i64 0, .int .i64 t.check]) ∨ (t.check = 0 ∧ ∃ σ, Solv t σ ∧ v = .tuple #[.int .i64 (lat σ.y t.now), .int .i64 0])) ∧ H' = H ∧ R' = R) := by
 refine fn_of Try.func42 rfl Try.ntmps42 rfl ?_
 refine sy_seq ?_
 refine sy_tx' [0, 1, 2] rfl ?_
 refine bx rfl rfl rfl (fun b1 => ?_)
 refine sp rfl (PE.assign rfl) rfl ?_
 refine sp rfl (PE.assign rfl) rfl ?_
 refine sy_seq ?_
 refine sy_tx' [0, 1, 2, 3, 4, 5, 6] rfl ?_
 refine spL rfl rfl (lhA [_, _, _, _, _, _, _, _, _, _, _] ag26 rfl rfl rfl) rfl ?_
 refine cl rfl cal97 rfl rfl (c_solved t hl ba oa ca _ _) ?_
 rintro _ _ _ (⟨hck, rfl, rfl, rfl⟩ | ⟨hck, bw, m, bt, σ, o, hσ, rfl, rfl, rfl⟩)
 refine sp rfl (PE.move rfl) rfl ?_
 refine sp rfl (PE.extract rfl rfl) rfl ?_
 refine sp rfl (PE.extract rfl rfl) rfl ?_
 refine sp rfl (PE.assign rfl) rfl ?_
 refine sp rfl (PE.assign rfl) rfl ?_
 refine sy_seq ?_
 refine sy_seq ?_
 refine sy_tx' [0, 1] rfl ?_
 refine sp rfl (PE.move rfl) rfl ?_
 refine sp rfl (PE.neq rfl rfl) rfl ?_
 refine sy_condT (congrArg (fun b => some (Value.bool b)) (decide_eq_true hck)) ?_
 refine sy_seq ?_
 refine sy_tx' [0, 1, 2] rfl ?_
 refine sp rfl (PE.move rfl) rfl ?_
 refine sp rfl (PE.assign rfl) rfl ?_
 refine sp rfl (PE.assign rfl) rfl ?_
 refine sy_ret ?_
 exact sy_return (vs := [_, _]) rfl (.cons (RV.tmp rfl) (.cons (RV.tmp rfl) .nil)) rfl ⟨.inl ⟨hck, rfl⟩, rfl, rfl⟩ drp
 have hok := (ok_of_check hck).1
 refine sp rfl (PE.move rfl) rfl ?_
 refine sp rfl (PE.extract rfl rfl) rfl ?_
 refine sp rfl (PE.extract rfl rfl) rfl ?_
 refine sp rfl (PE.assign rfl) rfl ?_
 refine sp rfl (PE.assign rfl) rfl ?_
 refine sy_seq ?_
 refine sy_seq ?_
 refine sy_tx' [0, 1] rfl ?_
 refine sp rfl (PE.move rfl) rfl ?_
 refine sp rfl (PE.neq rfl rfl) rfl ?_
 refine sy_condF (rfl) ?_
 refine sy_skip ?_
 refine sy_seq ?_
 refine sy_draw [0, 1, 3, 0, 8, 31, 63, 127] (.tk 0 (.tk 1 (.tk 2 (.tk 3 (.ld 4 (.big 5 (.tk 6 (.tk 7 .done)))))))) mixed (by kernel_rfl) ?_
 refine tk rfl (PE.move rfl) rfl ?_
 refine tk rfl (PE.nilCheck rfl) rfl ?_
 refine tk rfl (PE.fieldAddr fo153_2 rfl) rfl ?_
 refine tk rfl (PE.fieldAddr fo26_0 rfl) rfl ?_
 refine ld rfl rfl (lhA [_, _, _] ag23 rfl rfl rfl) rfl ?_
 refine clV rfl cal95 rfl rfl (c_of t hok t.now hok.now ba oa ca bt bw m σ.y o.fs (solv_ok hok hσ) _ _) ?_
 refine bg (fun w hs => ⟨trivial, trivial⟩) ?_
 refine tk rfl (PE.assign rfl) rfl ?_
 refine tk rfl (PE.assign rfl) rfl ?_
 refine sy_ret ?_
 exact sy_return (vs := [_, _]) rfl (.cons (RV.tmp rfl) (.cons (RV.tmp rfl) .nil)) rfl ⟨.inr ⟨hck, σ, hσ, rfl⟩, rfl, rfl⟩ drp
theorem c_Choose (t : Twn) (hl : t.rats.length ≤ 9223372036854775807) (ba oa ca : Nat) (H : Heap) (R : Facts) [hR : MemRows (some ⟨ba, oa, none⟩) 2 (rrows t.rats) R] :
    Fn Try.prog 44 [t.v (t.sl (some ⟨ba, oa, none⟩) ca)] H R (fun v H' R' => ((t.check ≠ 0 ∧ v = .tuple #[.slice none 0 0, .int .i64 t.check] ∧ H' = H) ∨
      (t.check = 0 ∧ ∃ σ, Solv t σ ∧ ((lat σ.y t.now = -1 ∧ v = .tuple #[.slice none 0 0, .int .i64 6] ∧ H' = H) ∨ (lat σ.y t.now ≠ -1 ∧ ∃ o : OSl 3 1 (irows (pickU (fun q => t.keeps σ.y t.now q (lat σ.y t.now)) t.rats t.rats.length)), v = .tuple #[o.fs, .int .i64 0] ∧ H' = o.G ++ H)))) ∧ R' = R) := by
 refine fn_of Try.func44 rfl Try.ntmps44 rfl ?_
 refine sy_seq ?_
 refine sy_tx' [0, 1, 2] rfl ?_
 refine bx rfl rfl rfl (fun b1 => ?_)
 refine sp rfl (PE.assign rfl) rfl ?_
 refine sp rfl (PE.assign rfl) rfl ?_
 refine sy_seq ?_
 refine sy_tx' [0, 1, 2, 3, 4, 5, 6] rfl ?_
 refine spL rfl rfl (lhA [_, _, _, _, _, _, _, _, _, _, _] ag26 rfl rfl rfl) rfl ?_
 refine cl rfl cal97 rfl rfl (c_solved t hl ba oa ca _ _) ?_
 rintro _ _ _ (⟨hck, rfl, rfl, rfl⟩ | ⟨hck, bw, m, bt, σ, o, hσ, rfl, rfl, rfl⟩)
 refine sp rfl (PE.move rfl) rfl ?_
 refine sp rfl (PE.extract rfl rfl) rfl ?_
 refine sp rfl (PE.extract rfl rfl) rfl ?_
 refine sp rfl (PE.assign rfl) rfl ?_
 refine sp rfl (PE.assign rfl) rfl ?_
 refine sy_seq ?_
 refine sy_seq ?_
 refine sy_tx' [0, 1] rfl ?_
 refine sp rfl (PE.move rfl) rfl ?_
 refine sp rfl (PE.neq rfl rfl) rfl ?_
 refine sy_condT (congrArg (fun b => some (Value.bool b)) (decide_eq_true hck)) ?_
 refine sy_seq ?_
 refine sy_tx' [0, 1, 2] rfl ?_
 refine sp rfl (PE.move rfl) rfl ?_
 refine sp rfl (PE.assign rfl) rfl ?_
 refine sp rfl (PE.assign rfl) rfl ?_
 refine sy_ret ?_
 exact sy_return (vs := [_, _]) rfl (.cons (RV.tmp rfl) (.cons (RV.tmp rfl) .nil)) rfl ⟨.inl ⟨hck, rfl, rfl⟩, rfl⟩ drp
 have hok := (ok_of_check hck).1
 have hrg := solv_range hok hσ hok.now
 refine sp rfl (PE.move rfl) rfl ?_
 refine sp rfl (PE.extract rfl rfl) rfl ?_
 refine sp rfl (PE.extract rfl rfl) rfl ?_
 refine sp rfl (PE.assign rfl) rfl ?_
 refine sp rfl (PE.assign rfl) rfl ?_
 refine sy_seq ?_
 refine sy_seq ?_
 refine sy_tx' [0, 1] rfl ?_
 refine sp rfl (PE.move rfl) rfl ?_
 refine sp rfl (PE.neq rfl rfl) rfl ?_
 refine sy_condF (rfl) ?_
 refine sy_skip ?_
 refine sy_seq ?_
 refine sy_draw [0, 1, 3, 0, 8, 31, 63] (.tk 0 (.tk 1 (.tk 2 (.tk 3 (.ld 4 (.big 5 (.tk 6 .done))))))) mixed (by kernel_rfl) ?_
 refine tk rfl (PE.move rfl) rfl ?_
 refine tk rfl (PE.nilCheck rfl) rfl ?_
 refine tk rfl (PE.fieldAddr fo153_2 rfl) rfl ?_
 refine tk rfl (PE.fieldAddr fo26_0 rfl) rfl ?_
 refine ld rfl rfl (lhA [_, _, _] ag23 rfl rfl rfl) rfl ?_
 refine clV rfl cal95 rfl rfl (c_of t hok t.now hok.now ba oa ca bt bw m σ.y o.fs (solv_ok hok hσ) _ _) ?_
 refine bg (fun w hs => ⟨trivial, trivial⟩) ?_
 refine tk rfl (PE.assign rfl) rfl ?_
 refine sy_seq ?_
 refine sy_seq ?_
 refine sy_tx' [0, 1] rfl ?_
 refine sp rfl (PE.move rfl) rfl ?_
 refine sp rfl (PE.eql rfl rfl) rfl ?_
 refine sy_cond rfl (fun hc1 => ?_) (fun hc1 => ?_)
 simp only [decide_eq_true_eq] at hc1
 refine sy_seq ?_
 refine sy_tx' [0, 1] rfl ?_
 refine sp rfl (PE.assign rfl) rfl ?_
 refine sp rfl (PE.assign rfl) rfl ?_
 refine sy_ret ?_
 first
   | exact sy_return (vs := [_, _]) rfl (.cons (RV.tmp rfl) (.cons (RV.tmp rfl) .nil)) rfl ⟨.inr ⟨hck, σ, hσ, .inl ⟨hc1, rfl, rfl⟩⟩, rfl⟩ drp
   | exact sy_return (vs := [_, _]) rfl (.cons (RV.tmp rfl) (.cons (RV.tmp rfl) .nil)) rfl ⟨.inr ⟨hck, σ, hσ, .inr ⟨hc1, o', rfl, rfl⟩⟩, rfl⟩ (fun w h => ((((h.del b1).del bw).del m).ftail).dropMid)
 simp only [decide_eq_false_iff_not] at hc1
 refine sy_skip ?_
 refine sy_seq ?_
 refine sy_tx' [0] rfl ?_
 refine sp rfl (PE.assign rfl) rfl ?_
 refine sy_seq ?_
 refine sy_seq ?_
 refine sy_tx' [0, 1, 2, 3] rfl ?_
 refine sp rfl (PE.fieldAddr fo26_8 rfl) rfl ?_
 refine spL rfl rfl (lh sc24 rfl rfl) rfl ?_
 refine sp rfl (PE.lenSl isl24 rfl) rfl ?_
 refine sp rfl (PE.move rfl) rfl ?_
 refine sy_block ?_
 have hlen := hok.many
 have hb0 : 0 ≤ lat σ.y t.now ∧ lat σ.y t.now ≤ 1000000 := by omega
 refine sy_loop (ι := (k : {k : Nat // k ≤ t.rats.length}) × OSl 3 1 (irows (pickU (fun q => t.keeps σ.y t.now q (lat σ.y t.now)) t.rats k.1))) (fun x => ⟨[(1, .pointer (some ⟨b1, 0, none⟩)), (4, .pointer (some ⟨bw, 0, none⟩)), (6, .int .i64 (lat σ.y t.now)), (7, x.2.fs), (27, .int .i64 t.rats.length), (28, .int .i64 x.1.1)], (x.2.G ++ (b1, cel 26 (twl t (t.sl (some ⟨ba, oa, none⟩) ca))) :: (o.G ++ (bw, cel 153 (rcs t (t.sl (some ⟨ba, oa, none⟩) ca) bt (σ.y) o.fs m)) :: (m, mapO true (kvOf σ.fl)) :: H)), RowsA (some ⟨bt, 0, none⟩) 11 [twl t (t.sl (some ⟨ba, oa, none⟩) ca)] :: R⟩) (fun x => t.rats.length - x.1.1) ⟨⟨0, by omega⟩, OSl.nil _ _⟩ ?_ (fun x => ?_)
 exact sy_at (by repeat' first | exact Sub.nil | apply Sub.cons | rfl | (simp [lk]; omega)) (fun w h => h.pull b1)
 obtain ⟨⟨k, hk⟩, o'⟩ := x
 dsimp only at o' ⊢
 refine sy_seq ?_
 refine sy_tx' [0] rfl ?_
 refine sp rfl (PE.lss rfl rfl) rfl ?_
 refine sy_seq ?_
 refine sy_cond rfl (fun hc2 => ?_) (fun hc2 => ?_)
 simp only [decide_eq_true_eq, decide_eq_false_iff_not, Bool.and_eq_true, Bool.or_eq_true, Bool.not_eq_true', Int.not_le, Int.not_lt] at hc2
 obtain ⟨q, hq⟩ : ∃ q, t.rats[k]? = some q := ⟨_, List.getElem?_eq_getElem (by omega)⟩
 refine sy_skip ?_
 refine sy_seq ?_
 refine sy_block ?_
 refine sy_seq ?_
 refine sy_tx' [0, 1] rfl ?_
 refine sp rfl (PE.move rfl) rfl ?_
 refine sp rfl (PE.assign rfl) rfl ?_
 refine sy_seq ?_
 refine sy_tx' [0, 1, 2, 3, 4, 5] rfl ?_
 refine sp rfl (PE.move rfl) rfl ?_
 refine sp rfl (PE.fieldAddr fo26_0 rfl) rfl ?_
 refine spL rfl rfl (lhA [_, _, _] ag23 rfl rfl rfl) rfl ?_
 refine sp rfl (PE.move rfl) rfl ?_
 refine sp rfl (PE.move rfl) rfl ?_
 refine clV rfl cal96 rfl rfl (c_keeps t hok t.now hok.now k q (by omega) (by simpa using hq) (lat σ.y t.now) hb0 ba oa ca bt bw m σ.y o.fs (solv_ok hok hσ) _ _) ?_
 refine sy_cond rfl (fun hc3 => ?_) (fun hc3 => ?_)
 have e := pickU_succ (p := fun q => t.keeps σ.y t.now q (lat σ.y t.now)) hq
 rw [hc3, cond_true] at e
 refine sy_tx' [0, 1, 2, 3, 4] rfl ?_
 refine sp rfl (PE.move rfl) rfl ?_
 refine sp rfl (PE.move rfl) rfl ?_
 refine bsl (out := [_]) rfl sl42 zl3 rfl rfl rfl rfl rfl rfl (fun b39 => ?_)
 refine apO (o') rfl ap42 rfl rfl (rowsH (row := [.int .i64 k]) rfl) rfl rfl ((by have := pickU_len (fun q => t.keeps σ.y t.now q (lat σ.y t.now)) t.rats k; simp only [irows, List.length_map, List.length_singleton]; omega)) rfl (fun o40 => ?_)
 refine sp rfl (PE.assign rfl) rfl ?_
 refine sy_tx' [0, 1] rfl ?_
 refine sp rfl (PE.add rfl rfl (by omega)) rfl ?_
 refine sp rfl (PE.move rfl) rfl ?_
 first
   | exact sy_next ⟨⟨k + 1, by omega⟩, o40.cast (by rw [e]; simp [irows])⟩ (by dsimp only; omega) (by repeat' first | exact Sub.nil | apply Sub.cons | rfl | (simp [lk]; omega)) (fun w h => h.del b39)
   | exact sy_next ⟨⟨k + 1, by omega⟩, o'.cast (by rw [e])⟩ (by dsimp only; omega) (by repeat' first | exact Sub.nil | apply Sub.cons | rfl | (simp [lk]; omega)) (fun w h => h)
 have e := pickU_succ (p := fun q => t.keeps σ.y t.now q (lat σ.y t.now)) hq
 rw [hc3, cond_false] at e
 refine sy_skip ?_
 refine sy_tx' [0, 1] rfl ?_
 refine sp rfl (PE.add rfl rfl (by omega)) rfl ?_
 refine sp rfl (PE.move rfl) rfl ?_
 first
   | exact sy_next ⟨⟨k + 1, by omega⟩, o40.cast (by rw [e]; simp [irows])⟩ (by dsimp only; omega) (by repeat' first | exact Sub.nil | apply Sub.cons | rfl | (simp [lk]; omega)) (fun w h => h.del b39)
   | exact sy_next ⟨⟨k + 1, by omega⟩, o'.cast (by rw [e])⟩ (by dsimp only; omega) (by repeat' first | exact Sub.nil | apply Sub.cons | rfl | (simp [lk]; omega)) (fun w h => h)
 simp only [decide_eq_true_eq, decide_eq_false_iff_not, Bool.and_eq_true, Bool.or_eq_true, Bool.not_eq_true', Int.not_le, Int.not_lt] at hc2
 obtain rfl : k = t.rats.length := by omega
 refine sy_exit ?_
 repeat refine sy_tx ?_
 refine sy_bx ?_
 refine sy_seq ?_
 refine sy_tx' [0, 1, 2] rfl ?_
 refine sp rfl (PE.move rfl) rfl ?_
 refine sp rfl (PE.assign rfl) rfl ?_
 refine sp rfl (PE.assign rfl) rfl ?_
 refine sy_ret ?_
 first
   | exact sy_return (vs := [_, _]) rfl (.cons (RV.tmp rfl) (.cons (RV.tmp rfl) .nil)) rfl ⟨.inr ⟨hck, σ, hσ, .inl ⟨hc1, rfl, rfl⟩⟩, rfl⟩ drp
   | exact sy_return (vs := [_, _]) rfl (.cons (RV.tmp rfl) (.cons (RV.tmp rfl) .nil)) rfl ⟨.inr ⟨hck, σ, hσ, .inr ⟨hc1, o', rfl, rfl⟩⟩, rfl⟩ (fun w h => ((((h.del b1).del bw).del m).ftail).dropMid)
end Go.Proofs.Ytaldphhdkmchhaa
namespace Go.Proofs.Ytaldphhdkmchhaa
set_option linter.unusedSimpArgs false
set_option linter.unusedVariables false
def askE (s : Int) (ws : List Int) : Int := bif decide (8 < ws.length) then 2 else bif !(inb s 0 1000) then 3 else bif !(ws.all fun n => inb n 0 1000) then 3 else 0
structure ShS where
  s : Int
  o : List Int
  g : Bool
def ShS.step (ws : List Int) (σ : ShS) (i : Nat) : ShS := match ws[i]?, σ.o[i]? with
  | some n, some m => bif decide (0 < σ.s) && decide (m < n) then ⟨σ.s - 1, σ.o.set i (m + 1), true⟩ else σ
  | _, _ => σ
def ShS.pass (ws : List Int) (σ : ShS) : ShS := (List.range ws.length).foldl (ShS.step ws) { σ with g := false }
def shIt (ws : List Int) : Nat → ShS → ShS
  | 0, σ => σ
  | j + 1, σ => (shIt ws j σ).pass ws
def shInit (s : Int) (ws : List Int) : ShS := ⟨s, List.replicate ws.length 0, true⟩
structure ShS.ok (s0 : Int) (ws : List Int) (σ : ShS) : Prop where
  len : σ.o.length = ws.length
  s : 0 ≤ σ.s ∧ σ.s ≤ s0
  m : ∀ (i : Nat) (m n : Int), σ.o[i]? = some m → ws[i]? = some n → 0 ≤ m ∧ m ≤ n
theorem step_ok {s0 : Int} {ws : List Int} {σ : ShS} (h : σ.ok s0 ws) (i : Nat) : (σ.step ws i).ok s0 ws := by
  unfold ShS.step
  split
  · rename_i n m hn hm
    cases hc : decide (0 < σ.s) && decide (m < n) with
    | false => exact h
    | true =>
      simp only [Bool.and_eq_true, decide_eq_true_eq] at hc
      have hs := h.s
      refine ⟨by simp [h.len], by simp only [cond_true]; omega, fun k m' n' hm' hn' => ?_⟩
      simp only [cond_true] at hm'
      by_cases hk : i = k
      · subst hk
        have hi : i < σ.o.length := (List.getElem?_eq_some_iff.1 hm).1
        rw [List.getElem?_set_self hi] at hm'
        cases hm'
        rw [hn] at hn'; cases hn'
        have := h.m i m n hm hn
        omega
      · rw [List.getElem?_set_ne hk] at hm'
        exact h.m k m' n' hm' hn'
  · exact h
theorem step_le (ws : List Int) (σ : ShS) (i : Nat) : (σ.step ws i).s ≤ σ.s ∧ ((σ.step ws i).g = true → σ.g = true ∨ (σ.step ws i).s < σ.s) := by
  unfold ShS.step
  split
  · cases hc : _ && _ <;> simp only [cond_true, cond_false] <;> first | exact ⟨Int.le_refl _, fun h => .inl h⟩ | exact ⟨by omega, fun _ => .inr (by omega)⟩
  · exact ⟨Int.le_refl _, fun h => .inl h⟩
theorem foldS_ok {s0 : Int} {ws : List Int} : ∀ (l : List Nat) (σ : ShS), σ.ok s0 ws → (l.foldl (ShS.step ws) σ).ok s0 ws
  | [], _, h => h
  | i :: l, σ, h => foldS_ok l _ (step_ok h i)
theorem foldS_le (ws : List Int) : ∀ (l : List Nat) (σ : ShS), (l.foldl (ShS.step ws) σ).s ≤ σ.s ∧ ((l.foldl (ShS.step ws) σ).g = true → σ.g = true ∨ (l.foldl (ShS.step ws) σ).s < σ.s)
  | [], _ => ⟨Int.le_refl _, fun h => .inl h⟩
  | i :: l, σ => by
    obtain ⟨h1, h2⟩ := foldS_le ws l (σ.step ws i)
    obtain ⟨h3, h4⟩ := step_le ws σ i
    rw [List.foldl_cons]
    refine ⟨by omega, fun h => ?_⟩
    rcases h2 h with h | h
    · rcases h4 h with h | h
      · exact .inl h
      · exact .inr (by omega)
    · exact .inr (by omega)
theorem passS_ok {s0 : Int} {ws : List Int} {σ : ShS} (h : σ.ok s0 ws) : (σ.pass ws).ok s0 ws := foldS_ok _ _ ⟨h.len, h.s, h.m⟩
theorem shIt_ok {s0 : Int} {ws : List Int} : ∀ (j : Nat) (σ : ShS), σ.ok s0 ws → (shIt ws j σ).ok s0 ws
  | 0, _, h => h
  | j + 1, _, h => passS_ok (shIt_ok j _ h)
theorem shInit_ok {s : Int} {ws : List Int} (h : askE s ws = 0) : (shInit s ws).ok s ws ∧ s ≤ 1000 ∧ (∀ n ∈ ws, 0 ≤ n ∧ n ≤ 1000) ∧ ws.length ≤ 8 := by
  unfold askE at h
  cases h1 : decide (8 < ws.length) <;> rw [h1] at h
  rotate_left
  · cases h
  cases h2 : inb s 0 1000 <;> rw [h2] at h
  · cases h
  cases h3 : ws.all fun n => inb n 0 1000 <;> rw [h3] at h
  · cases h
  simp only [inb, Bool.and_eq_true, decide_eq_true_eq, decide_eq_false_iff_not] at h1 h2
  have h4 : ∀ n ∈ ws, 0 ≤ n ∧ n ≤ 1000 := fun n hn => by
    have := List.all_eq_true.1 h3 n hn
    simpa using this
  refine ⟨⟨by simp [shInit], by simp only [shInit]; omega, fun i m n hm hn => ?_⟩, by omega, h4, by omega⟩
  simp only [shInit, List.getElem?_replicate] at hm
  split at hm <;> cases hm
  have := h4 n (List.mem_of_getElem? hn)
  omega
theorem foldS_fix (ws : List Int) : ∀ (l : List Nat) (σ : ShS), (l.foldl (ShS.step ws) σ).g = false → l.foldl (ShS.step ws) σ = σ
  | [], _, _ => rfl
  | i :: l, σ, h => by
    rw [List.foldl_cons] at h ⊢
    have h1 := foldS_fix ws l _ h
    rw [h1] at h ⊢
    unfold ShS.step at h ⊢
    split
    · rename_i n m hn hm
      rw [hn, hm] at h
      cases hc : decide (0 < σ.s) && decide (m < n) with
      | false => rfl
      | true => simp only [hc, cond_true] at h; cases h
    · rfl
theorem passS_fix {ws : List Int} {σ : ShS} (h : (σ.pass ws).g = false) : σ.pass ws = { σ with g := false } := foldS_fix ws _ _ h
theorem shIt_stay {s : Int} {ws : List Int} {j : Nat} (h : (shIt ws j (shInit s ws)).g = false) : shIt ws (j + 1) (shInit s ws) = shIt ws j (shInit s ws) := by
  cases j with
  | zero => cases h
  | succ j =>
    have h1 : shIt ws (j + 1) (shInit s ws) = { shIt ws j (shInit s ws) with g := false } := passS_fix h
    show (shIt ws (j + 1) (shInit s ws)).pass ws = _
    have h2 : (shIt ws (j + 1) (shInit s ws)).pass ws = (shIt ws j (shInit s ws)).pass ws := by rw [h1]; rfl
    rw [h2]; rfl
theorem shIt_more {s : Int} {ws : List Int} {j : Nat} (h : (shIt ws j (shInit s ws)).g = false) : ∀ k, shIt ws (j + k) (shInit s ws) = shIt ws j (shInit s ws)
  | 0 => rfl
  | k + 1 => by
    have ih := shIt_more h k
    rw [← Nat.add_assoc, shIt_stay (by rw [ih]; exact h), ih]
theorem shIt_uniq {s : Int} {ws : List Int} {j k : Nat} (h : (shIt ws j (shInit s ws)).g = false) (h' : (shIt ws k (shInit s ws)).g = false) : shIt ws j (shInit s ws) = shIt ws k (shInit s ws) := by
  rcases Nat.le_total j k with hle | hle
  · have := shIt_more h (k - j)
    rw [show j + (k - j) = k from by omega] at this
    exact this.symm
  · have := shIt_more h' (j - k)
    rw [show k + (j - k) = j from by omega] at this
    exact this
end Go.Proofs.Ytaldphhdkmchhaa
namespace Go.Proofs.Ytaldphhdkmchhaa
set_option linter.unusedSimpArgs false
set_option linter.unusedVariables false
open Go
theorem cal104 : cal Try.prog 104 = true := by kernel_rfl
theorem cal130 : cal Try.prog 130 = true := by kernel_rfl
theorem c_eq_int (xs ys : List Int) (a a2 : Option Addr) (c c2 : Nat) (hl : xs.length ≤ 9223372036854775807) (hl2 : ys.length ≤ 9223372036854775807) (H : Heap) (R : Facts) [hR : MemRows a 1 (irows xs) R] [hR2 : MemRows a2 1 (irows ys) R] :
    FnV Try.prog 81 [.slice a xs.length c, .slice a2 ys.length c2] H R (.bool (decide (xs = ys))) := by
 refine fn_of Try.func81 rfl Try.ntmps81 rfl ?_
 refine sy_seq ?_
 refine sy_tx' [0] rfl ?_
 refine sp rfl (PE.assign rfl) rfl ?_
 refine sy_seq ?_
 refine sy_seq ?_
 refine sy_tx' [0, 1, 2, 3, 4] rfl ?_
 refine sp rfl (PE.move rfl) rfl ?_
 refine sp rfl (PE.lenSl isl42 rfl) rfl ?_
 refine sp rfl (PE.move rfl) rfl ?_
 refine sp rfl (PE.lenSl isl42 rfl) rfl ?_
 refine sp rfl (PE.neq rfl rfl) rfl ?_
 refine sy_cond rfl (fun hc0 => ?_) (fun hc0 => ?_)
 have hne : xs ≠ ys := fun e => by subst e; simp at hc0
 refine sy_seq ?_
 refine sy_tx' [0] rfl ?_
 refine sp rfl (PE.assign rfl) rfl ?_
 refine sy_ret ?_
 exact sy_return (vs := [_]) rfl (.cons (RV.tmp rfl) .nil) rfl ⟨by first | (simp only [retV]; rw [decide_eq_true heq]; done) | (simp only [retV]; rw [decide_eq_false hne]), rfl, rfl⟩ (fun _ h => h)
 have hle : xs.length = ys.length := by simp only [decide_eq_true_eq, decide_eq_false_iff_not, Bool.and_eq_true, Bool.or_eq_true, Bool.not_eq_true', Int.not_le, Int.not_lt] at hc0; omega
 refine sy_skip ?_
 refine sy_seq ?_
 refine sy_seq ?_
 refine sy_tx' [0, 1, 2] rfl ?_
 refine sp rfl (PE.move rfl) rfl ?_
 refine sp rfl (PE.lenSl isl42 rfl) rfl ?_
 refine sp rfl (PE.move rfl) rfl ?_
 refine sy_block ?_
 refine sy_loop (ι := {k : Nat // k ≤ xs.length ∧ xs.take k = ys.take k}) (fun k => ⟨[(0, .slice a xs.length c), (1, .slice a2 ys.length c2), (12, .int .i64 xs.length), (13, .int .i64 k.1)], H, R⟩) (fun k => xs.length - k.1) ⟨0, by simp⟩ ?_ (fun k => ?_)
 exact sy_at (by repeat' first | exact Sub.nil | apply Sub.cons | rfl | (simp [lk]; omega)) (fun _ h => h)
 obtain ⟨k, hk, hn⟩ := k
 dsimp only
 refine sy_seq ?_
 refine sy_tx' [0] rfl ?_
 refine sp rfl (PE.lss rfl rfl) rfl ?_
 refine sy_seq ?_
 refine sy_cond rfl (fun hc1 => ?_) (fun hc1 => ?_)
 simp only [decide_eq_true_eq, decide_eq_false_iff_not, Bool.and_eq_true, Bool.or_eq_true, Bool.not_eq_true', Int.not_le, Int.not_lt] at hc1
 obtain ⟨x, hx⟩ : ∃ x, xs[k]? = some x := ⟨_, List.getElem?_eq_getElem (by omega)⟩
 obtain ⟨z, hz⟩ : ∃ z, ys[k]? = some z := ⟨_, List.getElem?_eq_getElem (by omega)⟩
 refine sy_addr (a := a) (sz := 1) (rows := irows xs) (by intro h0; simp [irows] at h0; simp [h0] at hx) (fun b off he => ?_)
 subst he
 refine sy_addr (a := a2) (sz := 1) (rows := irows ys) (by intro h0; simp [irows] at h0; simp [h0] at hz) (fun b2 off2 he => ?_)
 subst he
 refine sy_skip ?_
 refine sy_seq ?_
 refine sy_block ?_
 refine sy_seq ?_
 refine sy_tx' [0, 1] rfl ?_
 refine sp rfl (PE.move rfl) rfl ?_
 refine sp rfl (PE.assign rfl) rfl ?_
 refine sy_seq ?_
 refine sy_draw [0, 0, 3, 7, 0, 0, 48, 112, 255] (.tk 0 (.tk 1 (.tk 2 (.ld 3 (.tk 4 (.tk 5 (.tk 6 (.ld 7 (.tk 8 .done))))))))) mixed (by kernel_rfl) ?_
 refine tk rfl (PE.move rfl) rfl ?_
 refine tk rfl (PE.move rfl) rfl ?_
 refine tk rfl (PE.indexAddr el42 rfl rfl (by omega) (by omega)) rfl ?_
 refine ld rfl rfl (lf0 sc3 (by simp [irows, hx]; rfl) rfl) rfl ?_
 refine tk rfl (PE.move rfl) rfl ?_
 refine tk rfl (PE.move rfl) rfl ?_
 refine tk rfl (PE.indexAddr el42 rfl rfl (by omega) (by omega)) rfl ?_
 refine ld rfl rfl (lf0 sc3 (by simp [irows, hz]; rfl) rfl) rfl ?_
 refine tk rfl (PE.neq rfl rfl) rfl ?_
 refine sy_cond rfl (fun hc2 => ?_) (fun hc2 => ?_)
 have hne : xs ≠ ys := fun e => by subst e; rw [hx] at hz; cases hz; simp at hc2
 refine sy_seq ?_
 refine sy_tx' [0] rfl ?_
 refine sp rfl (PE.assign rfl) rfl ?_
 refine sy_ret ?_
 exact sy_return (vs := [_]) rfl (.cons (RV.tmp rfl) .nil) rfl ⟨by first | (simp only [retV]; rw [decide_eq_true heq]; done) | (simp only [retV]; rw [decide_eq_false hne]), rfl, rfl⟩ (fun _ h => h)
 have hxz : x = z := by simpa using hc2
 refine sy_skip ?_
 refine sy_tx' [0, 1] rfl ?_
 refine sp rfl (PE.add rfl rfl (by omega)) rfl ?_
 refine sp rfl (PE.move rfl) rfl ?_
 exact sy_next ⟨k + 1, by omega, by rw [List.take_add_one, List.take_add_one, hn, hx, hz, hxz]⟩ (by dsimp only; omega) (by repeat' first | exact Sub.nil | apply Sub.cons | rfl | (simp [lk]; omega)) (fun _ h => h)
 simp only [decide_eq_true_eq, decide_eq_false_iff_not, Bool.and_eq_true, Bool.or_eq_true, Bool.not_eq_true', Int.not_le, Int.not_lt] at hc1
 obtain rfl : k = xs.length := by omega
 have heq : xs = ys := by
   rw [List.take_length] at hn
   exact hn.trans (by rw [hle]; exact List.take_length)
 refine sy_exit ?_
 repeat refine sy_tx ?_
 refine sy_bx ?_
 refine sy_seq ?_
 refine sy_tx' [0] rfl ?_
 refine sp rfl (PE.assign rfl) rfl ?_
 refine sy_ret ?_
 exact sy_return (vs := [_]) rfl (.cons (RV.tmp rfl) .nil) rfl ⟨by first | (simp only [retV]; rw [decide_eq_true heq]; done) | (simp only [retV]; rw [decide_eq_false hne]), rfl, rfl⟩ (fun _ h => h)
theorem c_ask1 (n : Int) (H : Heap) (R : Facts) :
    FnV Try.prog 130 [.int .i64 n] H R (.bool (inb n 0 1000)) := by
 refine fn_of Try.func130 rfl Try.ntmps130 rfl ?_
 refine sy_seq ?_
 refine sy_tx' [0] rfl ?_
 refine sp rfl (PE.assign rfl) rfl ?_
 refine sy_seq ?_
 refine sy_tx' [0, 1, 2] rfl ?_
 refine sp rfl (PE.move rfl) rfl ?_
 refine clV rfl cal92 rfl rfl (c_in _ _ _ _ _) ?_
 refine sp rfl (PE.assign rfl) rfl ?_
 refine sy_ret ?_
 exact sy_return (vs := [_]) rfl (.cons (RV.tmp rfl) .nil) rfl ⟨rfl, rfl, rfl⟩ drp
theorem c_asked (s : Int) (ws : List Int) (a : Option Addr) (c : Nat) (hl : ws.length ≤ 9223372036854775807) (H : Heap) (R : Facts) [hR : MemRows a 1 (irows ws) R] :
    FnV Try.prog 104 [.int .i64 s, .slice a ws.length c] H R (.int .i64 (askE s ws)) := by
 refine fn_of Try.func104 rfl Try.ntmps104 rfl ?_
 refine sy_seq ?_
 refine sy_tx' [0] rfl ?_
 refine sp rfl (PE.assign rfl) rfl ?_
 refine sy_seq ?_
 refine sy_block ?_
 refine sy_seq ?_
 refine sy_tx' [0, 1, 2, 3] rfl ?_
 refine sp rfl (PE.move rfl) rfl ?_
 refine sp rfl (PE.lenSl isl42 rfl) rfl ?_
 refine sp rfl (PE.gtr rfl rfl) rfl ?_
 refine sp rfl (PE.assign rfl) rfl ?_
 refine sy_cond rfl (fun hc0 => ?_) (fun hc0 => ?_)
 have h8 : decide (8 < ws.length) = true := by simp only [decide_eq_true_eq] at hc0 ⊢; omega
 refine sy_seq ?_
 refine sy_tx' [0] rfl ?_
 refine sp rfl (PE.assign rfl) rfl ?_
 refine sy_ret ?_
 exact sy_return (vs := [_]) rfl (.cons (RV.tmp rfl) .nil) rfl ⟨congrArg (Value.int .i64) (by simp_all only [askE, inb, cond_true, cond_false, Bool.not_true, Bool.not_false, Bool.not_eq_true', Bool.not_eq_false']), rfl, rfl⟩ drp
 have h8 : decide (8 < ws.length) = false := by simp only [decide_eq_false_iff_not] at hc0 ⊢; omega
 refine sy_seq ?_
 refine sy_tx' [0, 1, 2, 3, 4, 5, 6, 7, 8] rfl ?_
 refine sp rfl (PE.move rfl) rfl ?_
 refine clV rfl cal92 rfl rfl (c_in _ _ _ _ _) ?_
 refine sp rfl (PE.not rfl) rfl ?_
 refine sp rfl (PE.move rfl) rfl ?_
 refine sy_case (t := 13) rfl (fun g13 => ?_) (fun g13 => ?_)
 repeat refine spN rfl rfl rfl rfl rfl rfl rfl rfl ?_
 refine sp rfl (PE.pick rfl rfl rfl) rfl ?_
 refine sp rfl (PE.assign rfl) rfl ?_
 refine sy_condT rfl ?_
 refine sy_seq ?_
 refine sy_tx' [0] rfl ?_
 refine sp rfl (PE.assign rfl) rfl ?_
 refine sy_ret ?_
 exact sy_return (vs := [_]) rfl (.cons (RV.tmp rfl) .nil) rfl ⟨congrArg (Value.int .i64) (by simp_all only [askE, inb, cond_true, cond_false, Bool.not_true, Bool.not_false, Bool.not_eq_true', Bool.not_eq_false']), rfl, rfl⟩ drp
 refine spG rfl rfl rfl rfl (PE.move rfl) rfl ?_
 refine clVG rfl rfl rfl rfl cal105 rfl rfl (c_every_int ws a c 130 [] [] (fun n => inb n 0 1000) cal130 hl _ _ (fun _ x _ => c_ask1 x _ _)) ?_
 refine spG rfl rfl rfl rfl (PE.not rfl) rfl ?_
 refine sp rfl (PE.pick rfl rfl rfl) rfl ?_
 refine sp rfl (PE.assign rfl) rfl ?_
 refine sy_cond rfl (fun hc1 => ?_) (fun hc1 => ?_)
 refine sy_seq ?_
 refine sy_tx' [0] rfl ?_
 refine sp rfl (PE.assign rfl) rfl ?_
 refine sy_ret ?_
 exact sy_return (vs := [_]) rfl (.cons (RV.tmp rfl) .nil) rfl ⟨congrArg (Value.int .i64) (by simp_all only [askE, inb, cond_true, cond_false, Bool.not_true, Bool.not_false, Bool.not_eq_true', Bool.not_eq_false']), rfl, rfl⟩ drp
 refine sy_skip ?_
 refine sy_seq ?_
 refine sy_tx' [0] rfl ?_
 refine sp rfl (PE.assign rfl) rfl ?_
 refine sy_ret ?_
 exact sy_return (vs := [_]) rfl (.cons (RV.tmp rfl) .nil) rfl ⟨congrArg (Value.int .i64) (by simp_all only [askE, inb, cond_true, cond_false, Bool.not_true, Bool.not_false, Bool.not_eq_true', Bool.not_eq_false']), rfl, rfl⟩ drp
theorem c_Share (s : Int) (ws : List Int) (a : Option Addr) (c : Nat) (hl : ws.length ≤ 9223372036854775807) (H : Heap) (R : Facts) [hR : MemRows a 1 (irows ws) R] :
    Fn Try.prog 36 [.int .i64 s, .slice a ws.length c] H R (fun v H' R' => ((askE s ws ≠ 0 ∧ v = .tuple #[.slice none 0 0, .int .i64 (askE s ws)] ∧ H' = H) ∨
      (askE s ws = 0 ∧ ∃ j b, (shIt ws j (shInit s ws)).g = false ∧ v = .tuple #[.slice (some ⟨b, 0, none⟩) ws.length ws.length, .int .i64 0] ∧ H' = (b, cel 3 (ints (shIt ws j (shInit s ws)).o)) :: H)) ∧ R' = R) := by
 refine fn_of Try.func36 rfl Try.ntmps36 rfl ?_
 refine sy_seq ?_
 refine sy_tx' [0, 1] rfl ?_
 refine sp rfl (PE.assign rfl) rfl ?_
 refine sp rfl (PE.assign rfl) rfl ?_
 refine sy_seq ?_
 refine sy_seq ?_
 refine sy_tx' [0, 1, 2, 3] rfl ?_
 refine sp rfl (PE.move rfl) rfl ?_
 refine sp rfl (PE.move rfl) rfl ?_
 refine clV rfl cal104 rfl rfl (c_asked s ws a c hl _ _) ?_
 refine sp rfl (PE.assign rfl) rfl ?_
 refine sy_seq ?_
 refine sy_tx' [0, 1] rfl ?_
 refine sp rfl (PE.move rfl) rfl ?_
 refine sp rfl (PE.neq rfl rfl) rfl ?_
 refine sy_cond rfl (fun hc0 => ?_) (fun hc0 => ?_)
 have hck : askE s ws ≠ 0 := by simpa using hc0
 refine sy_seq ?_
 refine sy_tx' [0, 1, 2] rfl ?_
 refine sp rfl (PE.move rfl) rfl ?_
 refine sp rfl (PE.assign rfl) rfl ?_
 refine sp rfl (PE.assign rfl) rfl ?_
 refine sy_ret ?_
 first | exact sy_return (vs := [_, _]) rfl (.cons (RV.tmp rfl) (.cons (RV.tmp rfl) .nil)) rfl ⟨.inl ⟨hck, rfl, rfl⟩, rfl⟩ (fun _ h => h) | exact sy_return (vs := [_, _]) rfl (.cons (RV.tmp rfl) (.cons (RV.tmp rfl) .nil)) rfl ⟨.inr ⟨hck, j, b19, hc1, rfl, rfl⟩, rfl⟩ (fun _ h => h)
 have hck : askE s ws = 0 := by simpa using hc0
 obtain ⟨hi1, hi2, hi3, hi4⟩ := shInit_ok hck
 refine sy_skip ?_
 refine sy_seq ?_
 refine sy_tx' [0, 1, 2, 3] rfl ?_
 refine sp rfl (PE.move rfl) rfl ?_
 refine sp rfl (PE.lenSl isl42 rfl) rfl ?_
 refine mkS rfl ap42 zl3 rfl rfl (Nat.le_refl _) ⟨by omega, by omega⟩ rfl (fun b19 => ?_)
 rw [repl0]
 refine sp rfl (PE.assign rfl) rfl ?_
 refine sy_seq ?_
 refine sy_seq ?_
 refine sy_tx' [0] rfl ?_
 refine sp rfl (PE.assign rfl) rfl ?_
 refine sy_block ?_
 refine sy_loop (ι := Nat) (fun j => ⟨[(0, .int .i64 (shIt ws j (shInit s ws)).s), (1, .slice a ws.length c), (7, .slice (some ⟨b19, 0, none⟩) ws.length ws.length), (8, .bool (shIt ws j (shInit s ws)).g)], (b19, cel 3 (ints (shIt ws j (shInit s ws)).o)) :: H, R⟩) (fun j => 2 * (shIt ws j (shInit s ws)).s.toNat + if (shIt ws j (shInit s ws)).g = true then 1 else 0) 0 ?_ (fun j => ?_)
 exact sy_at (by repeat' first | exact Sub.nil | apply Sub.cons | rfl | (simp [lk]; omega)) (fun _ h => h)
 have hj := shIt_ok j _ hi1
 have hsj := hj.s
 dsimp only
 refine sy_seq ?_
 refine sy_seq ?_
 refine sy_tx' [0] rfl ?_
 refine sp rfl (PE.move rfl) rfl ?_
 refine sy_cond rfl (fun hc1 => ?_) (fun hc1 => ?_)
 refine sy_skip ?_
 refine sy_block ?_
 refine sy_seq ?_
 refine sy_tx' [0] rfl ?_
 refine sp rfl (PE.assign rfl) rfl ?_
 refine sy_seq ?_
 refine sy_tx' [0, 1, 2] rfl ?_
 refine sp rfl (PE.move rfl) rfl ?_
 refine sp rfl (PE.lenSl isl42 rfl) rfl ?_
 refine sp rfl (PE.move rfl) rfl ?_
 refine sy_block ?_
 refine sy_loop (ι := {k : Nat // k ≤ ws.length}) (fun k => ⟨[(0, .int .i64 ((List.range k.1).foldl (ShS.step ws) { shIt ws j (shInit s ws) with g := false }).s), (1, .slice a ws.length c), (7, .slice (some ⟨b19, 0, none⟩) ws.length ws.length), (8, .bool ((List.range k.1).foldl (ShS.step ws) { shIt ws j (shInit s ws) with g := false }).g), (21, .slice a ws.length c), (22, .int .i64 ws.length), (23, .int .i64 k.1)], (b19, cel 3 (ints ((List.range k.1).foldl (ShS.step ws) { shIt ws j (shInit s ws) with g := false }).o)) :: H, R⟩) (fun k => ws.length - k.1) ⟨0, by omega⟩ ?_ (fun k => ?_)
 exact sy_at (by repeat' first | exact Sub.nil | apply Sub.cons | rfl | (simp [lk]; omega)) (fun _ h => h)
 obtain ⟨k, hk⟩ := k
 dsimp only
 have e : (List.range (k + 1)).foldl (ShS.step ws) { shIt ws j (shInit s ws) with g := false } = ((List.range k).foldl (ShS.step ws) { shIt ws j (shInit s ws) with g := false }).step ws k := by rw [List.range_succ, List.foldl_append]; rfl
 have hok := foldS_ok (List.range k) { shIt ws j (shInit s ws) with g := false } ⟨hj.len, hj.s, hj.m⟩
 have hke : k = ws.length → (List.range k).foldl (ShS.step ws) { shIt ws j (shInit s ws) with g := false } = (shIt ws j (shInit s ws)).pass ws := fun h => by subst h; rfl
 generalize (List.range k).foldl (ShS.step ws) { shIt ws j (shInit s ws) with g := false } = τ at e hok hke ⊢
 have hso := hok.s
 refine sy_seq ?_
 refine sy_tx' [0] rfl ?_
 refine sp rfl (PE.lss rfl rfl) rfl ?_
 refine sy_seq ?_
 refine sy_cond rfl (fun hc2 => ?_) (fun hc2 => ?_)
 simp only [decide_eq_true_eq, decide_eq_false_iff_not, Bool.and_eq_true, Bool.or_eq_true, Bool.not_eq_true', Int.not_le, Int.not_lt] at hc2
 obtain ⟨n, hn⟩ : ∃ n, ws[k]? = some n := ⟨_, List.getElem?_eq_getElem (by omega)⟩
 obtain ⟨m, hm⟩ : ∃ m, τ.o[k]? = some m := ⟨_, List.getElem?_eq_getElem (by rw [hok.len]; omega)⟩
 have hmn := hok.m k m n hm hn
 have hn1 := hi3 n (List.mem_of_getElem? hn)
 refine sy_addr (a := a) (sz := 1) (rows := irows ws) (by intro h0; simp [irows] at h0; simp [h0] at hn) (fun ba oa he => ?_)
 subst he
 refine sy_skip ?_
 refine sy_seq ?_
 refine sy_block ?_
 refine sy_seq ?_
 refine sy_tx' [0, 1, 2, 3, 4] rfl ?_
 refine sp rfl (PE.move rfl) rfl ?_
 refine sp rfl (PE.indexAddr el42 rfl rfl (by omega) (by omega)) rfl ?_
 refine spL rfl rfl (lf0 sc3 (by simp [irows, hn]; rfl) rfl) rfl ?_
 refine sp rfl (PE.assign rfl) rfl ?_
 refine sp rfl (PE.assign rfl) rfl ?_
 refine sy_seq ?_
 refine sy_tx' [0, 1, 2, 3, 4, 5, 6, 7, 8, 9] rfl ?_
 refine sp rfl (PE.move rfl) rfl ?_
 refine sp rfl (PE.gtr rfl rfl) rfl ?_
 refine sp rfl (PE.move rfl) rfl ?_
 refine sy_case (t := 30) rfl (fun g30 => ?_) (fun g30 => ?_)
 simp only [decide_eq_true_eq, decide_eq_false_iff_not, Bool.and_eq_true, Bool.or_eq_true, Bool.not_eq_true', Int.not_le, Int.not_lt] at g30
 refine spG rfl rfl rfl rfl (PE.move rfl) rfl ?_
 refine spG rfl rfl rfl rfl (PE.move rfl) rfl ?_
 refine spG rfl rfl rfl rfl (PE.indexAddr el42 rfl rfl (by omega) (by omega)) rfl ?_
 refine spLG rfl rfl rfl rfl rfl (lh (v := .int .i64 m) sc3 rfl (by simp [ints, hm])) rfl ?_
 refine spG rfl rfl rfl rfl (PE.move rfl) rfl ?_
 refine spG rfl rfl rfl rfl (PE.lss rfl rfl) rfl ?_
 refine sp rfl (PE.pick rfl rfl rfl) rfl ?_
 refine sy_cond rfl (fun hc3 => ?_) (fun hc3 => ?_)
 simp only [decide_eq_true_eq, decide_eq_false_iff_not, Bool.and_eq_true, Bool.or_eq_true, Bool.not_eq_true', Int.not_le, Int.not_lt] at hc3
 have hst : τ.step ws k = ⟨τ.s - 1, τ.o.set k (m + 1), true⟩ := by unfold ShS.step; rw [hn, hm]; simp [g30, hc3]
 refine sy_seq ?_
 refine sy_tx' [0, 1, 2, 3, 4, 5, 6] rfl ?_
 refine sp rfl (PE.move rfl) rfl ?_
 refine sp rfl (PE.move rfl) rfl ?_
 refine sp rfl (PE.indexAddr el42 rfl rfl (by omega) (by omega)) rfl ?_
 refine spL rfl rfl (lh (v := .int .i64 m) sc3 rfl (by simp [ints, hm])) rfl ?_
 refine sp rfl (PE.add rfl rfl (by omega)) rfl ?_
 refine sp rfl (PE.indexAddr el42 rfl rfl (by omega) (by omega)) rfl ?_
 refine stoE (l' := ints (τ.o.set k (m + 1))) rfl rfl rfl cn3 rfl rfl rfl (by show spl _ _ [_] = _; rw [spl_set (by simp [ints, hok.len]; omega), ints_set]; simp) (by simp [ints, hok.len, Value.cells]; omega) ?_
 refine sy_seq ?_
 refine sy_tx' [0, 1, 2] rfl ?_
 refine sp rfl (PE.move rfl) rfl ?_
 refine sp rfl (PE.sub rfl rfl (by omega)) rfl ?_
 refine sp rfl (PE.assign rfl) rfl ?_
 refine sy_tx' [0] rfl ?_
 refine sp rfl (PE.assign rfl) rfl ?_
 refine sy_tx' [0, 1] rfl ?_
 refine sp rfl (PE.add rfl rfl (by omega)) rfl ?_
 refine sp rfl (PE.move rfl) rfl ?_
 exact sy_next ⟨k + 1, by omega⟩ (by dsimp only; omega) (by rw [e, hst]; exact (by repeat' first | exact Sub.nil | apply Sub.cons | rfl | (simp [lk]; omega))) (fun w h => by rw [e, hst]; exact h)
 simp only [decide_eq_true_eq, decide_eq_false_iff_not, Bool.and_eq_true, Bool.or_eq_true, Bool.not_eq_true', Int.not_le, Int.not_lt] at hc3
 have hst : τ.step ws k = τ := by unfold ShS.step; rw [hn, hm]; simp [Int.not_lt.2 hc3]
 refine sy_skip ?_
 refine sy_tx' [0, 1] rfl ?_
 refine sp rfl (PE.add rfl rfl (by omega)) rfl ?_
 refine sp rfl (PE.move rfl) rfl ?_
 exact sy_next ⟨k + 1, by omega⟩ (by dsimp only; omega) (by rw [e, hst]; exact (by repeat' first | exact Sub.nil | apply Sub.cons | rfl | (simp [lk]; omega))) (fun w h => by rw [e, hst]; exact h)
 simp only [decide_eq_true_eq, decide_eq_false_iff_not, Bool.and_eq_true, Bool.or_eq_true, Bool.not_eq_true', Int.not_le, Int.not_lt] at g30
 have hst : τ.step ws k = τ := by unfold ShS.step; rw [hn, hm]; simp [Int.not_lt.2 g30]
 repeat refine spN rfl rfl rfl rfl rfl rfl rfl rfl ?_
 refine sp rfl (PE.pick rfl rfl rfl) rfl ?_
 refine sy_condF rfl ?_
 refine sy_skip ?_
 refine sy_tx' [0, 1] rfl ?_
 refine sp rfl (PE.add rfl rfl (by omega)) rfl ?_
 refine sp rfl (PE.move rfl) rfl ?_
 exact sy_next ⟨k + 1, by omega⟩ (by dsimp only; omega) (by rw [e, hst]; exact (by repeat' first | exact Sub.nil | apply Sub.cons | rfl | (simp [lk]; omega))) (fun w h => by rw [e, hst]; exact h)
 simp only [decide_eq_true_eq, decide_eq_false_iff_not, Bool.and_eq_true, Bool.or_eq_true, Bool.not_eq_true', Int.not_le, Int.not_lt] at hc2
 have hkw : k = ws.length := by omega
 rw [hke hkw] at *
 refine sy_exit ?_
 repeat refine sy_tx ?_
 refine sy_bx ?_
 exact sy_next (j + 1) (by
   rw [if_pos hc1]
   have h1 := foldS_le ws (List.range ws.length) { shIt ws j (shInit s ws) with g := false }
   have h2 := (shIt_ok (j + 1) _ hi1).s
   change ((shIt ws j (shInit s ws)).pass ws).s ≤ _ ∧ (((shIt ws j (shInit s ws)).pass ws).g = true → _ ∨ ((shIt ws j (shInit s ws)).pass ws).s < _) at h1
   change 0 ≤ ((shIt ws j (shInit s ws)).pass ws).s ∧ _ at h2
   show 2 * ((shIt ws j (shInit s ws)).pass ws).s.toNat + (if ((shIt ws j (shInit s ws)).pass ws).g = true then 1 else 0) < _
   obtain ⟨h3, h4⟩ := h1
   simp only at h3 h4
   split
   · rename_i hg
     rcases h4 hg with h | h
     · cases h
     · omega
   · omega) (by repeat' first | exact Sub.nil | apply Sub.cons | rfl | (simp [lk]; omega)) (fun _ h => h)
 refine sy_exit ?_
 repeat refine sy_tx ?_
 refine sy_bx ?_
 refine sy_seq ?_
 refine sy_tx' [0, 1, 2] rfl ?_
 refine sp rfl (PE.move rfl) rfl ?_
 refine sp rfl (PE.assign rfl) rfl ?_
 refine sp rfl (PE.assign rfl) rfl ?_
 refine sy_ret ?_
 first | exact sy_return (vs := [_, _]) rfl (.cons (RV.tmp rfl) (.cons (RV.tmp rfl) .nil)) rfl ⟨.inl ⟨hck, rfl, rfl⟩, rfl⟩ (fun _ h => h) | exact sy_return (vs := [_, _]) rfl (.cons (RV.tmp rfl) (.cons (RV.tmp rfl) .nil)) rfl ⟨.inr ⟨hck, j, b19, hc1, rfl, rfl⟩, rfl⟩ (fun _ h => h)
end Go.Proofs.Ytaldphhdkmchhaa
namespace Go.Proofs.Ytaldphhdkmchhaa
set_option linter.unusedSimpArgs false
set_option linter.unusedVariables false
def worstOf (t : Twn) (g : Sta → Int) (s : Sta) (q : Rn) : Int := bif decide (s.dry < t.run) then min (g (t.next s q false)) (g (t.next s q true)) else g (t.next s q false)
def efQ (t : Twn) (g : Sta → Int) (s : Sta) (best : Int) (q : Rn) : Int :=
  bif t.can s q then (bif decide (worstOf t g s q = -1) then best else max best (worstOf t g s q + q.sacks * q.price)) else best
def ef (t : Twn) : Nat → Sta → Int
  | 0, _ => 0
  | n + 1, s => t.rats.foldl (efQ t (ef t n) s) (-1)
theorem mul_bd {a b : Int} (h1 : 0 ≤ a) (h2 : a ≤ 30) (h3 : 0 ≤ b) (h4 : b ≤ 100) : 0 ≤ a * b ∧ a * b ≤ 3000 := by
  have h5 := Int.mul_nonneg h1 h3
  have h6 := Int.mul_le_mul h2 h4 h3 (by omega)
  omega
theorem worst_bd {t : Twn} {g : Sta → Int} {B : Int} (hg : ∀ s, -1 ≤ g s ∧ g s ≤ B) (s : Sta) (q : Rn) : -1 ≤ worstOf t g s q ∧ worstOf t g s q ≤ B := by
  unfold worstOf
  have h1 := hg (t.next s q false)
  have h2 := hg (t.next s q true)
  cases decide (s.dry < t.run) <;> simp only [cond_true, cond_false] <;> omega
theorem efQ_bd {t : Twn} {g : Sta → Int} {B : Int} (hB : 0 ≤ B) (hg : ∀ s, -1 ≤ g s ∧ g s ≤ B) (s : Sta) : ∀ (l : List Rn), (∀ q ∈ l, 0 ≤ q.sacks ∧ q.sacks ≤ 30 ∧ 0 ≤ q.price ∧ q.price ≤ 100) → ∀ b, -1 ≤ b → b ≤ B + 3000 →
    -1 ≤ l.foldl (efQ t g s) b ∧ l.foldl (efQ t g s) b ≤ B + 3000
  | [], _, b, h1, h2 => ⟨h1, h2⟩
  | q :: l, hl, b, h1, h2 => by
    have hq := hl q (by simp)
    have h3 := worst_bd (t := t) hg s q
    have h4 := mul_bd hq.1 hq.2.1 hq.2.2.1 hq.2.2.2
    rw [List.foldl_cons]
    refine efQ_bd hB hg s l (fun q hq => hl q (by simp [hq])) _ ?_ ?_ <;>
    · unfold efQ
      cases t.can s q <;> cases decide (worstOf t g s q = -1) <;> simp only [cond_true, cond_false] <;> omega
theorem ef_bd {t : Twn} (ht : t.ok) : ∀ (n : Nat) (s : Sta), -1 ≤ ef t n s ∧ ef t n s ≤ n * 3000
  | 0, _ => by simp [ef]
  | n + 1, s => by
    have h := efQ_bd (t := t) (g := ef t n) (B := n * 3000) (by omega) (ef_bd ht n) s t.rats ht.rats (-1) (by omega) (by omega)
    unfold ef
    push_cast
    omega
end Go.Proofs.Ytaldphhdkmchhaa
namespace Go.Proofs.Ytaldphhdkmchhaa
set_option linter.unusedSimpArgs false
set_option linter.unusedVariables false
structure Rw where
  st : Sta
  lasts : Int
  ration : Int
  deriving DecidableEq
def Twn.rat (t : Twn) (r : Int) : Option Rn := bif decide (0 ≤ r) then t.rats[r.toNat]? else none
def feedScan (t : Twn) : List Rw → Bool → List Int → Except Int (Bool × List Int)
  | [], tw, y => .ok (tw, y)
  | x :: l, tw, y => bif !(x.st.right t) || !(inb x.lasts 0 1000000) then .error 3 else match t.rat x.ration with
    | none => .error 1
    | some q => bif !(t.can x.st q) then .error 9 else feedScan t l (tw || decide (lat y x.st ≠ -1)) (y.set x.st.ix x.lasts)
def tabKeeps (t : Twn) (y : List Int) (x : Rw) : Bool := match t.rat x.ration with
  | some q => t.keeps y x.st q x.lasts
  | none => false
def nevY (t : Twn) : List Int := (sts t).foldl (fun y s => y.set s.ix (-1)) (List.replicate 496 0)
def feedEnd (t : Twn) (tb : List Rw) (tw : Bool) (y : List Int) : Int × Int :=
  bif tw then (0, 5) else bif !(tb.all (tabKeeps t y)) then (0, 8) else bif decide (lat y t.now = -1) then (0, 6) else (lat y t.now, 0)
def feedR (t : Twn) (tb : List Rw) : Int × Int :=
  bif decide (t.check ≠ 0) then (0, t.check) else bif decide (496 < tb.length) then (0, 2) else match feedScan t tb false (nevY t) with
  | .error e => (0, e)
  | .ok p => feedEnd t tb p.1 p.2
theorem setY_len (v : Int) : ∀ (l : List Sta) (y : List Int), (l.foldl (fun y s => y.set s.ix v) y).length = y.length
  | [], _ => rfl
  | s :: l, y => by rw [List.foldl_cons, setY_len v l]; simp
theorem rat_some {t : Twn} {r : Int} {q : Rn} (h0 : 0 ≤ r) (h : t.rats[r.toNat]? = some q) : t.rat r = some q := by simp [Twn.rat, h0, h]
theorem rat_iff {t : Twn} {r : Int} {q : Rn} : t.rat r = some q ↔ 0 ≤ r ∧ t.rats[r.toNat]? = some q := by
  unfold Twn.rat
  by_cases h : 0 ≤ r <;> simp [h]
theorem rat_none {t : Twn} {r : Int} (h : (decide (0 ≤ r) && decide (r ≤ (t.rats.length : Int) - 1)) = false) : t.rat r = none := by
  unfold Twn.rat
  by_cases h0 : 0 ≤ r
  · simp only [h0, decide_true, Bool.true_and, decide_eq_false_iff_not] at h ⊢
    exact List.getElem?_eq_none (by omega)
  · simp [h0]
theorem rat_in {t : Twn} {r : Int} (h : (decide (0 ≤ r) && decide (r ≤ (t.rats.length : Int) - 1)) = true) : 0 ≤ r ∧ ∃ q, t.rats[r.toNat]? = some q := by
  simp only [Bool.and_eq_true, decide_eq_true_eq] at h
  exact ⟨h.1, _, List.getElem?_eq_getElem (by omega)⟩
theorem drop_get {α : Type} {l : List α} {k : Nat} {x : α} (h : l[k]? = some x) : l.drop k = x :: l.drop (k + 1) := by
  obtain ⟨h1, h2⟩ := List.getElem?_eq_some_iff.1 h
  rw [List.drop_eq_getElem_cons h1, h2]
theorem feedR_err {t : Twn} {tb : List Rw} {e : Int} (h0 : t.check = 0) (h1 : tb.length ≤ 496) (h : feedScan t tb false (nevY t) = .error e) : feedR t tb = (0, e) := by
  unfold feedR
  have h2 : ¬ 496 < tb.length := by omega
  simp [h0, h2, h]
theorem feedR_ok {t : Twn} {tb : List Rw} {tw : Bool} {y : List Int} (h0 : t.check = 0) (h1 : tb.length ≤ 496) (h : feedScan t tb false (nevY t) = .ok (tw, y)) : feedR t tb = feedEnd t tb tw y := by
  unfold feedR
  have h2 : ¬ 496 < tb.length := by omega
  simp [h0, h2, h]
theorem feedScan_ok {t : Twn} : ∀ (l : List Rw) (tw : Bool) (y : List Int) (p : Bool × List Int), feedScan t l tw y = .ok p → ∀ x ∈ l, x.st.right t = true ∧ (0 ≤ x.lasts ∧ x.lasts ≤ 1000000) ∧ ∃ q, t.rat x.ration = some q ∧ t.can x.st q = true
  | [], _, _, _, _, _, hx => by cases hx
  | x :: l, tw, y, p, h, z, hz => by
    unfold feedScan at h
    cases h1 : x.st.right t <;> rw [h1] at h
    · cases h
    cases h2 : inb x.lasts 0 1000000 <;> rw [h2] at h
    · cases h
    cases h3 : t.rat x.ration <;> rw [h3] at h
    · cases h
    rename_i q
    cases h4 : t.can x.st q with
    | false => rw [show (bif !true || !true then Except.error 3 else match some q with | none => Except.error 1 | some q => bif !(t.can x.st q) then Except.error 9 else feedScan t l (tw || decide (lat y x.st ≠ -1)) (y.set x.st.ix x.lasts) : Except Int (Bool × List Int)) = bif !(t.can x.st q) then Except.error 9 else feedScan t l (tw || decide (lat y x.st ≠ -1)) (y.set x.st.ix x.lasts) from rfl, h4] at h; cases h
    | true =>
      rw [show (bif !true || !true then Except.error 3 else match some q with | none => Except.error 1 | some q => bif !(t.can x.st q) then Except.error 9 else feedScan t l (tw || decide (lat y x.st ≠ -1)) (y.set x.st.ix x.lasts) : Except Int (Bool × List Int)) = bif !(t.can x.st q) then Except.error 9 else feedScan t l (tw || decide (lat y x.st ≠ -1)) (y.set x.st.ix x.lasts) from rfl, h4] at h
      rcases List.mem_cons.1 hz with rfl | hz
      · simp only [inb, Bool.and_eq_true, decide_eq_true_eq] at h2
        exact ⟨h1, h2, q, h3, h4⟩
      · exact feedScan_ok l _ _ p h z hz
def tabRow (t : Twn) (y : List Int) (s : Sta) : Option Rw := bif decide (lat y s = -1) then none else (t.rats.findIdx? fun q => t.keeps y s q (lat y s)).map fun (r : Nat) => ⟨s, lat y s, r⟩
def tab (t : Twn) (y : List Int) : List Rw := (sts t).filterMap (tabRow t y)
theorem tabRow_hit {t : Twn} {y : List Int} {s : Sta} {k : Nat} {q : Rn} (h0 : lat y s ≠ -1) (hq : t.rats[k]? = some q) (hn : ∀ i q', i < k → t.rats[i]? = some q' → t.keeps y s q' (lat y s) = false) (h : t.keeps y s q (lat y s) = true) : tabRow t y s = some ⟨s, lat y s, k⟩ := by
  unfold tabRow
  have hk : k < t.rats.length := (List.getElem?_eq_some_iff.1 hq).1
  have : t.rats.findIdx? (fun q => t.keeps y s q (lat y s)) = some k := by
    rw [List.findIdx?_eq_some_iff_getElem]
    refine ⟨hk, ?_, fun j hj => ?_⟩
    · rw [List.getElem?_eq_getElem hk] at hq; cases hq; exact h
    · simp [hn j _ hj (List.getElem?_eq_getElem (by omega))]
  rw [this]; simp [h0]
theorem tabRow_miss {t : Twn} {y : List Int} {s : Sta} (hn : ∀ i q', i < t.rats.length → t.rats[i]? = some q' → lat y s = -1 ∨ t.keeps y s q' (lat y s) = false) : tabRow t y s = none := by
  unfold tabRow
  cases hc : decide (lat y s = -1) with
  | true => rfl
  | false =>
    have : t.rats.findIdx? (fun q => t.keeps y s q (lat y s)) = none := by
      rw [List.findIdx?_eq_none_iff]
      intro q hq
      obtain ⟨i, hi⟩ := List.getElem?_of_mem hq
      rcases hn i q (List.getElem?_eq_some_iff.1 hi).1 hi with h | h
      · simp [h] at hc
      · exact h
    rw [this]; rfl
end Go.Proofs.Ytaldphhdkmchhaa
