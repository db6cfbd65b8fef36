/- Walks of the functions of the program: what each returns and leaves in memory, under the conditions that its theorem names. -/
import Derived.Test.YtaldphhdkmchhaaTy
import Derived.Test.YtaldphhdkmchhaaMa
import Derived.Test.YtaldphhdkmchhaaWk1
namespace Go.Proofs.Ytaldphhdkmchhaa
set_option linter.unusedSimpArgs false
set_option linter.unusedVariables false
open Go
theorem ag91 : aggN Try.prog 91 = some 2 := by kernel_rfl
theorem cal105 : cal Try.prog 105 = true := by kernel_rfl
theorem cal119 : cal Try.prog 119 = true := by kernel_rfl
theorem cal120 : cal Try.prog 120 = true := by kernel_rfl
theorem cal121 : cal Try.prog 121 = true := by kernel_rfl
theorem cal124 : cal Try.prog 124 = true := by kernel_rfl
theorem cal131 : cal Try.prog 131 = true := by kernel_rfl
theorem cal135 : cal Try.prog 135 = true := by kernel_rfl
theorem cal136 : cal Try.prog 136 = true := by kernel_rfl
theorem cal138 : cal Try.prog 138 = true := by kernel_rfl
theorem cal76 : cal Try.prog 76 = true := by kernel_rfl
theorem cal91 : cal Try.prog 91 = true := by kernel_rfl
theorem cn91 : cellN Try.prog 91 = some 2 := by kernel_rfl
theorem fo26_0 : fOff Try.prog 26 0 = some 0 := by kernel_rfl
theorem fo91_1 : fOff Try.prog 91 1 = some 1 := by kernel_rfl
theorem sc119 : scal Try.prog 119 = true := by kernel_rfl
theorem sc179 : scal Try.prog 179 = true := by kernel_rfl
theorem zl91 : zeroL Try.prog 91 = some ([.int .i64 0, .int .i64 0]) := by kernel_rfl
abbrev irows (l : List Int) : List (List Value) := l.map fun z => [.int .i64 z]
theorem find_hit {α : Type} {xs : List α} {p : α → Bool} {k : Nat} {x : α} (hx : xs[k]? = some x) (hn : ∀ y ∈ xs.take k, p y = false) (h : p x = true) : xs.findIdx? p = some k := by
  induction xs generalizing k with
  | nil => simp at hx
  | cons y ys ih =>
    cases k with
    | zero => simp only [List.getElem?_cons_zero, Option.some.injEq] at hx; subst hx; simp [List.findIdx?_cons, h]
    | succ k =>
      have hy := hn y (by simp)
      have := ih (by simpa using hx) (fun z hz => hn z (by simp [hz]))
      simp [List.findIdx?_cons, hy, this]
theorem find_miss {α : Type} {xs : List α} {p : α → Bool} (hn : ∀ y ∈ xs, p y = false) : xs.findIdx? p = none := by
  rw [List.findIdx?_eq_none_iff]; exact hn
theorem take_miss {α : Type} {xs : List α} {p : α → Bool} {k : Nat} {x : α} (hx : xs[k]? = some x) (hn : ∀ y ∈ xs.take k, p y = false) (h : p x = false) : ∀ y ∈ xs.take (k + 1), p y = false := by
  intro y hy
  rw [List.take_add_one, hx] at hy
  rcases List.mem_append.1 hy with h1 | h1
  · exact hn y h1
  · simp only [Option.toList_some, List.mem_singleton] at h1; subst h1; exact h
theorem idx_any {α : Type} (xs : List α) (p : α → Bool) : Value.bool (decide (0 ≤ (match xs.findIdx? p with | some k => (k : Int) | none => -1))) = .bool (xs.any p) := by
  congr 1
  cases h : xs.findIdx? p with
  | none =>
    have := List.findIdx?_eq_none_iff.1 h
    have h2 : xs.any p = false := by simpa using this
    rw [h2]; rfl
  | some k =>
    have h2 : xs.any p = true := by
      rw [← Bool.not_eq_false]; intro h3
      have : xs.findIdx? p = none := List.findIdx?_eq_none_iff.2 (by simpa using h3)
      rw [this] at h; cases h
    rw [h2]; simp
theorem not_any_not {α : Type} (xs : List α) (p : α → Bool) : Value.bool (!xs.any fun x => !p x) = .bool (xs.all p) := by
  congr 1
  induction xs with
  | nil => rfl
  | cons x xs ih => simp [← ih]

theorem c_idx_int (xs : List Int) (a : Option Addr) (c g : Nat) (fst cap : List Value) (p : Int → Bool) (hg : cal Try.prog g = true) (hl : xs.length ≤ 9223372036854775807) (H : Heap) (R : Facts) [hR : MemRows a 1 (irows xs) R] (hp : ∀ x, x ∈ xs → FnV Try.prog g (fst ++ [.int .i64 x] ++ cap) H R (.bool (p x))) :
    FnV Try.prog 124 [.slice a xs.length c, .func (.func g) fst.toArray cap.toArray] H R (.int .i64 (match xs.findIdx? p with | some k => (k : Int) | none => -1)) := by
  refine fn_of Try.func124 rfl Try.ntmps124 rfl ?_
  refine sy_seq ?_
  refine sy_tx' [0] rfl ?_
  refine sy_sq ?_
  refine sp rfl (PE.assign rfl) rfl ?_
  refine sy_sn ?_
  refine sy_nx ?_
  refine sy_seq ?_
  refine sy_seq ?_
  refine sy_tx' [0, 1, 2] rfl ?_
  refine sy_sq ?_
  refine sp rfl (PE.move rfl) rfl ?_
  refine sy_sq ?_
  refine sp rfl (PE.lenSl isl42 rfl) rfl ?_
  refine sy_sq ?_
  refine sp rfl (PE.move rfl) rfl ?_
  refine sy_sn ?_
  refine sy_nx ?_
  refine sy_block ?_
  refine sy_loop (ι := {k : Nat // k ≤ xs.length ∧ ∀ x ∈ xs.take k, p x = false}) (fun k => ⟨[(0, .slice a xs.length c), (1, .func (.func g) fst.toArray cap.toArray), (7, .int .i64 xs.length), (8, .int .i64 k.1)], H, R⟩) (fun k => xs.length - k.1) ⟨0, by simp⟩ ?_ (fun k => ?_)
  ·
   exact sy_at (by repeat' first | exact Sub.nil | apply Sub.cons | rfl | (simp [lk]; omega)) (fun _ h => h)
  ·
   obtain ⟨k, hk, hn⟩ := k
   dsimp only
   refine sy_seq ?_
   refine sy_tx' [0] rfl ?_
   refine sy_sq ?_
   refine sp rfl (PE.lss rfl rfl) rfl ?_
   refine sy_sn ?_
   refine sy_nx ?_
   refine sy_seq ?_
   refine sy_cond rfl (fun hc0 => ?_) (fun hc0 => ?_)
   ·
    simp only [decide_eq_true_eq, decide_eq_false_iff_not, Bool.and_eq_true, Bool.or_eq_true, Bool.not_eq_true', Int.not_le, Int.not_lt] at hc0
    obtain ⟨x, hx⟩ : ∃ x, xs[k]? = some x := ⟨_, List.getElem?_eq_getElem (by omega)⟩
    have hxm := List.mem_of_getElem? hx
    refine sy_addr (a := a) (sz := 1) (rows := irows xs) (by cases xs <;> simp_all [irows]) (fun b off he => ?_)
    subst he
    refine sy_skip ?_
    refine sy_nx ?_
    refine sy_seq ?_
    refine sy_block ?_
    refine sy_seq ?_
    refine sy_tx' [0, 1] rfl ?_
    refine sy_sq ?_
    refine sp rfl (PE.move rfl) rfl ?_
    refine sy_sq ?_
    refine sp rfl (PE.assign rfl) rfl ?_
    refine sy_sn ?_
    refine sy_nx ?_
    refine sy_seq ?_
    refine sy_tx' [0, 1, 2, 3, 4, 5] rfl ?_
    refine sy_sq ?_
    refine sp rfl (PE.move rfl) rfl ?_
    refine sy_sq ?_
    refine sp rfl (PE.move rfl) rfl ?_
    refine sy_sq ?_
    refine sp rfl (PE.move rfl) rfl ?_
    refine sy_sq ?_
    refine sp rfl (PE.indexAddr el42 rfl rfl (by omega) (by omega)) rfl ?_
    refine sy_sq ?_
    refine spL rfl rfl (lf0 sc3 (by simp [irows, hx]; rfl) rfl) rfl ?_
    refine sy_sq ?_
    refine clFV rfl rfl (hg) rfl rfl (hp x hxm) ?_
    refine sy_sn ?_
    refine sy_nx ?_
    refine sy_cond rfl (fun hc1 => ?_) (fun hc1 => ?_)
    ·
     refine sy_seq ?_
     refine sy_tx' [0, 1] rfl ?_
     refine sy_sq ?_
     refine sp rfl (PE.move rfl) rfl ?_
     refine sy_sq ?_
     refine sp rfl (PE.assign rfl) rfl ?_
     refine sy_sn ?_
     refine sy_nx ?_
     refine sy_ret ?_
     refine sy_br ?_
     refine sy_tr ?_
     refine sy_tr ?_
     refine sy_br ?_
     refine sy_tr ?_
     first | (exact sy_return (vs := [_]) rfl (.cons (RV.tmp rfl) .nil) rfl ⟨by rw [find_hit hx hn hc1]; rfl, rfl, rfl⟩ (fun _ h => h)) | (exact sy_return (vs := [_]) rfl (.cons (RV.tmp rfl) .nil) rfl ⟨by rw [find_miss (by simpa using hn)]; rfl, rfl, rfl⟩ (fun _ h => h))
    ·
     refine sy_skip ?_
     refine sy_bn ?_
     refine sy_nx ?_
     refine sy_tx' [0, 1] rfl ?_
     refine sy_sq ?_
     refine sp rfl (PE.add rfl rfl (by omega)) rfl ?_
     refine sy_sq ?_
     refine sp rfl (PE.move rfl) rfl ?_
     refine sy_sn ?_
     refine sy_nx ?_
     exact sy_next ⟨k + 1, by omega, take_miss hx hn hc1⟩ (by dsimp only; omega) (by repeat' first | exact Sub.nil | apply Sub.cons | rfl | (simp [lk]; omega)) (fun _ h => h)
   ·
    simp only [decide_eq_true_eq, decide_eq_false_iff_not, Bool.and_eq_true, Bool.or_eq_true, Bool.not_eq_true', Int.not_le, Int.not_lt] at hc0
    obtain rfl : k = xs.length := by omega
    refine sy_exit ?_
    refine sy_tx ?_
    refine sy_tx ?_
    refine sy_bx ?_
    refine sy_nx ?_
    refine sy_seq ?_
    refine sy_tx' [0] rfl ?_
    refine sy_sq ?_
    refine sp rfl (PE.assign rfl) rfl ?_
    refine sy_sn ?_
    refine sy_nx ?_
    refine sy_ret ?_
    first | (exact sy_return (vs := [_]) rfl (.cons (RV.tmp rfl) .nil) rfl ⟨by rw [find_hit hx hn hc1]; rfl, rfl, rfl⟩ (fun _ h => h)) | (exact sy_return (vs := [_]) rfl (.cons (RV.tmp rfl) .nil) rfl ⟨by rw [find_miss (by simpa using hn)]; rfl, rfl, rfl⟩ (fun _ h => h))

theorem c_has_int (xs : List Int) (a : Option Addr) (c g : Nat) (fst cap : List Value) (p : Int → Bool) (hg : cal Try.prog g = true) (hl : xs.length ≤ 9223372036854775807) (H : Heap) (R : Facts) [hR : MemRows a 1 (irows xs) R] (hp : ∀ x, x ∈ xs → FnV Try.prog g (fst ++ [.int .i64 x] ++ cap) H R (.bool (p x))) :
    FnV Try.prog 76 [.slice a xs.length c, .func (.func g) fst.toArray cap.toArray] H R (.bool (xs.any p)) := by
  refine fn_of Try.func76 rfl Try.ntmps76 rfl ?_
  refine sy_seq ?_
  refine sy_tx' [0] rfl ?_
  refine sy_sq ?_
  refine sp rfl (PE.assign rfl) rfl ?_
  refine sy_sn ?_
  refine sy_nx ?_
  refine sy_seq ?_
  refine sy_tx' [0, 1, 2, 3, 4] rfl ?_
  refine sy_sq ?_
  refine sp rfl (PE.move rfl) rfl ?_
  refine sy_sq ?_
  refine sp rfl (PE.move rfl) rfl ?_
  refine sy_sq ?_
  refine clV rfl cal124 rfl rfl (c_idx_int xs a c g fst cap p hg hl _ _ hp) ?_
  refine sy_sq ?_
  refine sp rfl (PE.geq rfl rfl) rfl ?_
  refine sy_sq ?_
  refine sp rfl (PE.assign rfl) rfl ?_
  refine sy_sn ?_
  refine sy_nx ?_
  refine sy_ret ?_
  exact sy_return (vs := [_]) rfl (.cons (RV.tmp rfl) .nil) rfl ⟨by simp only [retV]; exact idx_any _ _, rfl, rfl⟩ (fun _ h => by repeat first | exact h | replace h := St.tail h | replace h := St.ftail h | replace h := St.drop h)

theorem c_ev1_int (x : Int) (g bf : Nat) (fst cap : List Value) (p : Bool) (hg : cal Try.prog g = true) (H : Heap) (R : Facts) [hM : Mem1 bf (cel 119 [.func (.func g) fst.toArray cap.toArray]) H] (hp : FnV Try.prog g (fst ++ [.int .i64 x] ++ cap) H R (.bool p)) :
    FnV Try.prog 131 [.int .i64 x, .pointer (some ⟨bf, 0, none⟩)] H R (.bool !p) := by
  refine fn_of Try.func131 rfl Try.ntmps131 rfl ?_
  refine sy_seq ?_
  refine sy_tx' [0] rfl ?_
  refine sy_sq ?_
  refine sp rfl (PE.assign rfl) rfl ?_
  refine sy_sn ?_
  refine sy_nx ?_
  refine sy_seq ?_
  refine sy_tx' [0, 1, 2, 3, 4] rfl ?_
  refine sy_sq ?_
  refine spL rfl rfl (lh sc119 rfl rfl) rfl ?_
  refine sy_sq ?_
  refine sp rfl (PE.move rfl) rfl ?_
  refine sy_sq ?_
  refine clFV rfl rfl (hg) rfl rfl (hp) ?_
  refine sy_sq ?_
  refine sp rfl (PE.not rfl) rfl ?_
  refine sy_sq ?_
  refine sp rfl (PE.assign rfl) rfl ?_
  refine sy_sn ?_
  refine sy_nx ?_
  refine sy_ret ?_
  exact sy_return (vs := [_]) rfl (.cons (RV.tmp rfl) .nil) rfl ⟨rfl, rfl, rfl⟩ (fun _ h => by repeat first | exact h | replace h := St.tail h | replace h := St.ftail h | replace h := St.drop h)

theorem c_every_int (xs : List Int) (a : Option Addr) (c g : Nat) (fst cap : List Value) (p : Int → Bool) (hg : cal Try.prog g = true) (hl : xs.length ≤ 9223372036854775807) (H : Heap) (R : Facts) [hR : MemRows a 1 (irows xs) R] (hp : ∀ b x, x ∈ xs → FnV Try.prog g (fst ++ [.int .i64 x] ++ cap) ((b, cel 119 [.func (.func g) fst.toArray cap.toArray]) :: H) R (.bool (p x))) :
    FnV Try.prog 105 [.slice a xs.length c, .func (.func g) fst.toArray cap.toArray] H R (.bool (xs.all p)) := by
  refine fn_of Try.func105 rfl Try.ntmps105 rfl ?_
  refine sy_seq ?_
  refine sy_tx' [0, 1] rfl ?_
  refine sy_sq ?_
  refine bx rfl rfl rfl (fun b3 => ?_)
  refine sy_sq ?_
  refine sp rfl (PE.assign rfl) rfl ?_
  refine sy_sn ?_
  refine sy_nx ?_
  refine sy_seq ?_
  refine sy_tx' [0, 1, 2, 3, 4] rfl ?_
  refine sy_sq ?_
  refine sp rfl (PE.move rfl) rfl ?_
  refine sy_sq ?_
  refine sp rfl (PE.makeFunc rfl rfl) rfl ?_
  refine sy_sq ?_
  refine clV rfl cal76 rfl rfl (c_has_int xs a c 131 [] [_] (fun x => !p x) cal131 hl _ _ (hp := fun x hx => c_ev1_int x g _ fst cap (p x) hg _ _ (hp := hp _ x hx))) ?_
  refine sy_sq ?_
  refine sp rfl (PE.not rfl) rfl ?_
  refine sy_sq ?_
  refine sp rfl (PE.assign rfl) rfl ?_
  refine sy_sn ?_
  refine sy_nx ?_
  refine sy_ret ?_
  exact sy_return (vs := [_]) rfl (.cons (RV.tmp rfl) .nil) rfl ⟨by simp only [retV]; rw [not_any_not], rfl, rfl⟩ (fun _ h => by repeat first | exact h | replace h := St.tail h | replace h := St.ftail h | replace h := St.drop h)

theorem c_idx_rat (xs : List Rn) (a : Option Addr) (c g : Nat) (fst cap : List Value) (p : Rn → Bool) (hg : cal Try.prog g = true) (hl : xs.length ≤ 9223372036854775807) (H : Heap) (R : Facts) [hR : MemRows a 2 (rrows xs) R] (hp : ∀ x, x ∈ xs → FnV Try.prog g (fst ++ [.agg (rrow x).toArray] ++ cap) H R (.bool (p x))) :
    FnV Try.prog 138 [.slice a xs.length c, .func (.func g) fst.toArray cap.toArray] H R (.int .i64 (match xs.findIdx? p with | some k => (k : Int) | none => -1)) := by
  refine fn_of Try.func138 rfl Try.ntmps138 rfl ?_
  refine sy_seq ?_
  refine sy_tx' [0] rfl ?_
  refine sy_sq ?_
  refine sp rfl (PE.assign rfl) rfl ?_
  refine sy_sn ?_
  refine sy_nx ?_
  refine sy_seq ?_
  refine sy_seq ?_
  refine sy_tx' [0, 1, 2] rfl ?_
  refine sy_sq ?_
  refine sp rfl (PE.move rfl) rfl ?_
  refine sy_sq ?_
  refine sp rfl (PE.lenSl isl24 rfl) rfl ?_
  refine sy_sq ?_
  refine sp rfl (PE.move rfl) rfl ?_
  refine sy_sn ?_
  refine sy_nx ?_
  refine sy_block ?_
  refine sy_loop (ι := {k : Nat // k ≤ xs.length ∧ ∀ x ∈ xs.take k, p x = false}) (fun k => ⟨[(0, .slice a xs.length c), (1, .func (.func g) fst.toArray cap.toArray), (7, .int .i64 xs.length), (8, .int .i64 k.1)], H, R⟩) (fun k => xs.length - k.1) ⟨0, by simp⟩ ?_ (fun k => ?_)
  ·
   exact sy_at (by repeat' first | exact Sub.nil | apply Sub.cons | rfl | (simp [lk]; omega)) (fun _ h => h)
  ·
   obtain ⟨k, hk, hn⟩ := k
   dsimp only
   refine sy_seq ?_
   refine sy_tx' [0] rfl ?_
   refine sy_sq ?_
   refine sp rfl (PE.lss rfl rfl) rfl ?_
   refine sy_sn ?_
   refine sy_nx ?_
   refine sy_seq ?_
   refine sy_cond rfl (fun hc0 => ?_) (fun hc0 => ?_)
   ·
    simp only [decide_eq_true_eq, decide_eq_false_iff_not, Bool.and_eq_true, Bool.or_eq_true, Bool.not_eq_true', Int.not_le, Int.not_lt] at hc0
    obtain ⟨x, hx⟩ : ∃ x, xs[k]? = some x := ⟨_, List.getElem?_eq_getElem (by omega)⟩
    have hxm := List.mem_of_getElem? hx
    refine sy_addr (a := a) (sz := 2) (rows := rrows xs) (by cases xs <;> simp_all [rrows]) (fun b off he => ?_)
    subst he
    refine sy_skip ?_
    refine sy_nx ?_
    refine sy_seq ?_
    refine sy_block ?_
    refine sy_seq ?_
    refine sy_tx' [0, 1] rfl ?_
    refine sy_sq ?_
    refine sp rfl (PE.move rfl) rfl ?_
    refine sy_sq ?_
    refine sp rfl (PE.assign rfl) rfl ?_
    refine sy_sn ?_
    refine sy_nx ?_
    refine sy_seq ?_
    refine sy_tx' [0, 1, 2, 3, 4, 5] rfl ?_
    refine sy_sq ?_
    refine sp rfl (PE.move rfl) rfl ?_
    refine sy_sq ?_
    refine sp rfl (PE.move rfl) rfl ?_
    refine sy_sq ?_
    refine sp rfl (PE.move rfl) rfl ?_
    refine sy_sq ?_
    refine sp rfl (PE.indexAddr el24 rfl rfl (by omega) (by omega)) rfl ?_
    refine sy_sq ?_
    refine spL rfl rfl (lfA ag91 (row := rrow x) (by simp [rrows, hx]) rfl) rfl ?_
    refine sy_sq ?_
    refine clFV rfl rfl (hg) rfl rfl (hp x hxm) ?_
    refine sy_sn ?_
    refine sy_nx ?_
    refine sy_cond rfl (fun hc1 => ?_) (fun hc1 => ?_)
    ·
     refine sy_seq ?_
     refine sy_tx' [0, 1] rfl ?_
     refine sy_sq ?_
     refine sp rfl (PE.move rfl) rfl ?_
     refine sy_sq ?_
     refine sp rfl (PE.assign rfl) rfl ?_
     refine sy_sn ?_
     refine sy_nx ?_
     refine sy_ret ?_
     refine sy_br ?_
     refine sy_tr ?_
     refine sy_tr ?_
     refine sy_br ?_
     refine sy_tr ?_
     first | (exact sy_return (vs := [_]) rfl (.cons (RV.tmp rfl) .nil) rfl ⟨by rw [find_hit hx hn hc1]; rfl, rfl, rfl⟩ (fun _ h => h)) | (exact sy_return (vs := [_]) rfl (.cons (RV.tmp rfl) .nil) rfl ⟨by rw [find_miss (by simpa using hn)]; rfl, rfl, rfl⟩ (fun _ h => h))
    ·
     refine sy_skip ?_
     refine sy_bn ?_
     refine sy_nx ?_
     refine sy_tx' [0, 1] rfl ?_
     refine sy_sq ?_
     refine sp rfl (PE.add rfl rfl (by omega)) rfl ?_
     refine sy_sq ?_
     refine sp rfl (PE.move rfl) rfl ?_
     refine sy_sn ?_
     refine sy_nx ?_
     exact sy_next ⟨k + 1, by omega, take_miss hx hn hc1⟩ (by dsimp only; omega) (by repeat' first | exact Sub.nil | apply Sub.cons | rfl | (simp [lk]; omega)) (fun _ h => h)
   ·
    simp only [decide_eq_true_eq, decide_eq_false_iff_not, Bool.and_eq_true, Bool.or_eq_true, Bool.not_eq_true', Int.not_le, Int.not_lt] at hc0
    obtain rfl : k = xs.length := by omega
    refine sy_exit ?_
    refine sy_tx ?_
    refine sy_tx ?_
    refine sy_bx ?_
    refine sy_nx ?_
    refine sy_seq ?_
    refine sy_tx' [0] rfl ?_
    refine sy_sq ?_
    refine sp rfl (PE.assign rfl) rfl ?_
    refine sy_sn ?_
    refine sy_nx ?_
    refine sy_ret ?_
    first | (exact sy_return (vs := [_]) rfl (.cons (RV.tmp rfl) .nil) rfl ⟨by rw [find_hit hx hn hc1]; rfl, rfl, rfl⟩ (fun _ h => h)) | (exact sy_return (vs := [_]) rfl (.cons (RV.tmp rfl) .nil) rfl ⟨by rw [find_miss (by simpa using hn)]; rfl, rfl, rfl⟩ (fun _ h => h))

theorem c_has_rat (xs : List Rn) (a : Option Addr) (c g : Nat) (fst cap : List Value) (p : Rn → Bool) (hg : cal Try.prog g = true) (hl : xs.length ≤ 9223372036854775807) (H : Heap) (R : Facts) [hR : MemRows a 2 (rrows xs) R] (hp : ∀ x, x ∈ xs → FnV Try.prog g (fst ++ [.agg (rrow x).toArray] ++ cap) H R (.bool (p x))) :
    FnV Try.prog 135 [.slice a xs.length c, .func (.func g) fst.toArray cap.toArray] H R (.bool (xs.any p)) := by
  refine fn_of Try.func135 rfl Try.ntmps135 rfl ?_
  refine sy_seq ?_
  refine sy_tx' [0] rfl ?_
  refine sy_sq ?_
  refine sp rfl (PE.assign rfl) rfl ?_
  refine sy_sn ?_
  refine sy_nx ?_
  refine sy_seq ?_
  refine sy_tx' [0, 1, 2, 3, 4] rfl ?_
  refine sy_sq ?_
  refine sp rfl (PE.move rfl) rfl ?_
  refine sy_sq ?_
  refine sp rfl (PE.move rfl) rfl ?_
  refine sy_sq ?_
  refine clV rfl cal138 rfl rfl (c_idx_rat xs a c g fst cap p hg hl _ _ hp) ?_
  refine sy_sq ?_
  refine sp rfl (PE.geq rfl rfl) rfl ?_
  refine sy_sq ?_
  refine sp rfl (PE.assign rfl) rfl ?_
  refine sy_sn ?_
  refine sy_nx ?_
  refine sy_ret ?_
  exact sy_return (vs := [_]) rfl (.cons (RV.tmp rfl) .nil) rfl ⟨by simp only [retV]; exact idx_any _ _, rfl, rfl⟩ (fun _ h => by repeat first | exact h | replace h := St.tail h | replace h := St.ftail h | replace h := St.drop h)

theorem c_ev1_rat (x : Rn) (g bf : Nat) (fst cap : List Value) (p : Bool) (hg : cal Try.prog g = true) (H : Heap) (R : Facts) [hM : Mem1 bf (cel 179 [.func (.func g) fst.toArray cap.toArray]) H] (hp : ∀ b, FnV Try.prog g (fst ++ [.agg (rrow x).toArray] ++ cap) ((b, cel 91 (rrow x)) :: H) R (.bool p)) :
    FnV Try.prog 136 [.agg (rrow x).toArray, .pointer (some ⟨bf, 0, none⟩)] H R (.bool !p) := by
  refine fn_of Try.func136 rfl Try.ntmps136 rfl ?_
  refine sy_seq ?_
  refine sy_tx' [0, 1] rfl ?_
  refine sy_sq ?_
  refine bx rfl rfl rfl (fun b2 => ?_)
  refine sy_sq ?_
  refine sp rfl (PE.assign rfl) rfl ?_
  refine sy_sn ?_
  refine sy_nx ?_
  refine sy_seq ?_
  refine sy_tx' [0, 1, 2, 3, 4] rfl ?_
  refine sy_sq ?_
  refine spL rfl rfl (lh sc179 rfl rfl) rfl ?_
  refine sy_sq ?_
  refine spL rfl rfl (lhA [_, _] ag91 rfl rfl rfl) rfl ?_
  refine sy_sq ?_
  refine clFV rfl rfl (hg) rfl rfl (hp _) ?_
  refine sy_sq ?_
  refine sp rfl (PE.not rfl) rfl ?_
  refine sy_sq ?_
  refine sp rfl (PE.assign rfl) rfl ?_
  refine sy_sn ?_
  refine sy_nx ?_
  refine sy_ret ?_
  exact sy_return (vs := [_]) rfl (.cons (RV.tmp rfl) .nil) rfl ⟨rfl, rfl, rfl⟩ (fun _ h => by repeat first | exact h | replace h := St.tail h | replace h := St.ftail h | replace h := St.drop h)

theorem c_every_rat (xs : List Rn) (a : Option Addr) (c g : Nat) (fst cap : List Value) (p : Rn → Bool) (hg : cal Try.prog g = true) (hl : xs.length ≤ 9223372036854775807) (H : Heap) (R : Facts) [hR : MemRows a 2 (rrows xs) R] (hp : ∀ b b2 x, x ∈ xs → FnV Try.prog g (fst ++ [.agg (rrow x).toArray] ++ cap) ((b2, cel 91 (rrow x)) :: (b, cel 179 [.func (.func g) fst.toArray cap.toArray]) :: H) R (.bool (p x))) :
    FnV Try.prog 120 [.slice a xs.length c, .func (.func g) fst.toArray cap.toArray] H R (.bool (xs.all p)) := by
  refine fn_of Try.func120 rfl Try.ntmps120 rfl ?_
  refine sy_seq ?_
  refine sy_tx' [0, 1] rfl ?_
  refine sy_sq ?_
  refine bx rfl rfl rfl (fun b3 => ?_)
  refine sy_sq ?_
  refine sp rfl (PE.assign rfl) rfl ?_
  refine sy_sn ?_
  refine sy_nx ?_
  refine sy_seq ?_
  refine sy_tx' [0, 1, 2, 3, 4] rfl ?_
  refine sy_sq ?_
  refine sp rfl (PE.move rfl) rfl ?_
  refine sy_sq ?_
  refine sp rfl (PE.makeFunc rfl rfl) rfl ?_
  refine sy_sq ?_
  refine clV rfl cal135 rfl rfl (c_has_rat xs a c 136 [] [_] (fun x => !p x) cal136 hl _ _ (hp := fun x hx => c_ev1_rat x g _ fst cap (p x) hg _ _ (hp := fun b => hp _ _ x hx))) ?_
  refine sy_sq ?_
  refine sp rfl (PE.not rfl) rfl ?_
  refine sy_sq ?_
  refine sp rfl (PE.assign rfl) rfl ?_
  refine sy_sn ?_
  refine sy_nx ?_
  refine sy_ret ?_
  exact sy_return (vs := [_]) rfl (.cons (RV.tmp rfl) .nil) rfl ⟨by simp only [retV]; rw [not_any_not], rfl, rfl⟩ (fun _ h => by repeat first | exact h | replace h := St.tail h | replace h := St.ftail h | replace h := St.drop h)

theorem no_bad {l : List Rn} (h : ∀ i, i < l.length - 1 → badAt l i = false) : (List.range l.length).any (badAt l) = false := by
  rw [List.any_eq_false]
  intro i hi
  rw [Bool.not_eq_true]
  rcases Nat.lt_or_ge i (l.length - 1) with h1 | h1
  · exact h i h1
  · have : l[i + 1]? = none := List.getElem?_eq_none (by omega)
    unfold badAt; rw [this]; split <;> simp_all
theorem some_bad {l : List Rn} {i : Nat} (hi : i < l.length) (h : badAt l i = true) : (List.range l.length).any (badAt l) = true := List.any_eq_true.2 ⟨i, List.mem_range.2 hi, h⟩

theorem c_chk1 (n : Int) (H : Heap) (R : Facts) :
    FnV Try.prog 119 [.int .i64 n] H R (.bool (inb n 0 30)) := by
  refine fn_of Try.func119 rfl Try.ntmps119 rfl ?_
  refine sy_seq ?_
  refine sy_tx' [0] rfl ?_
  refine sy_sq ?_
  refine sp rfl (PE.assign rfl) rfl ?_
  refine sy_sn ?_
  refine sy_nx ?_
  refine sy_seq ?_
  refine sy_tx' [0, 1, 2] rfl ?_
  refine sy_sq ?_
  refine sp rfl (PE.move rfl) rfl ?_
  refine sy_sq ?_
  refine clV rfl cal92 rfl rfl (c_in _ _ _ _ _) ?_
  refine sy_sq ?_
  refine sp rfl (PE.assign rfl) rfl ?_
  refine sy_sn ?_
  refine sy_nx ?_
  refine sy_ret ?_
  exact sy_return (vs := [_]) rfl (.cons (RV.tmp rfl) .nil) rfl ⟨rfl, rfl, rfl⟩ (fun _ h => by repeat first | exact h | replace h := St.tail h | replace h := St.ftail h | replace h := St.drop h)

theorem c_chk2 (q : Rn) (H : Heap) (R : Facts) :
    FnV Try.prog 121 [.agg (rrow q).toArray] H R (.bool (inb q.sacks 0 30 && inb q.price 0 100)) := by
  refine fn_of Try.func121 rfl Try.ntmps121 rfl ?_
  refine sy_seq ?_
  refine sy_tx' [0, 1] rfl ?_
  refine sy_sq ?_
  refine bx rfl rfl rfl (fun b1 => ?_)
  refine sy_sq ?_
  refine sp rfl (PE.assign rfl) rfl ?_
  refine sy_sn ?_
  refine sy_nx ?_
  refine sy_seq ?_
  refine sy_tx' [0, 1, 2, 3, 4, 5, 6, 7, 8] rfl ?_
  refine sy_sq ?_
  refine sp rfl (PE.fieldAddr fo91_0 rfl) rfl ?_
  refine sy_sq ?_
  refine spL rfl rfl (lh sc3 rfl rfl) rfl ?_
  refine sy_sq ?_
  refine clV rfl cal92 rfl rfl (c_in _ _ _ _ _) ?_
  refine sy_sq ?_
  refine sp rfl (PE.move rfl) rfl ?_
  refine sy_sq ?_
  refine sy_case (t := 6) rfl (fun g6 => ?_) (fun g6 => ?_)
  ·
   refine spG rfl rfl rfl rfl (PE.fieldAddr fo91_1 rfl) rfl ?_
   refine sy_sq ?_
   refine spLG rfl rfl rfl rfl rfl (lh sc3 rfl rfl) rfl ?_
   refine sy_sq ?_
   refine clVG rfl rfl rfl rfl cal92 rfl rfl (c_in _ _ _ _ _) ?_
   refine sy_sq ?_
   refine sp rfl (PE.pick rfl rfl rfl) rfl ?_
   refine sy_sq ?_
   refine sp rfl (PE.assign rfl) rfl ?_
   refine sy_sn ?_
   refine sy_nx ?_
   refine sy_ret ?_
   exact sy_return (vs := [_]) rfl (.cons (RV.tmp rfl) .nil) rfl ⟨by simp_all only [retV, inb, Bool.true_and, Bool.false_and, cond_true, cond_false], rfl, rfl⟩ (fun _ h => by repeat first | exact h | replace h := St.tail h | replace h := St.ftail h | replace h := St.drop h)
  ·
   refine spN rfl rfl rfl rfl rfl rfl rfl rfl ?_
   refine sy_sq ?_
   refine spN rfl rfl rfl rfl rfl rfl rfl rfl ?_
   refine sy_sq ?_
   refine spN rfl rfl rfl rfl rfl rfl rfl rfl ?_
   refine sy_sq ?_
   refine sp rfl (PE.pick rfl rfl rfl) rfl ?_
   refine sy_sq ?_
   refine sp rfl (PE.assign rfl) rfl ?_
   refine sy_sn ?_
   refine sy_nx ?_
   refine sy_ret ?_
   exact sy_return (vs := [_]) rfl (.cons (RV.tmp rfl) .nil) rfl ⟨by simp_all only [retV, inb, Bool.true_and, Bool.false_and, cond_true, cond_false], rfl, rfl⟩ (fun _ h => by repeat first | exact h | replace h := St.tail h | replace h := St.ftail h | replace h := St.drop h)

theorem c_Check (t : Twn) (a : Option Addr) (c : Nat) (hl : t.rats.length ≤ 9223372036854775807) (H : Heap) (R : Facts) [hR : MemRows a 2 (rrows t.rats) R] :
    FnV Try.prog 67 [t.v (t.sl a c)] H R (.int .i64 t.check) := by
  refine fn_of Try.func67 rfl Try.ntmps67 rfl ?_
  refine sy_seq ?_
  refine sy_tx' [0, 1] rfl ?_
  refine sy_sq ?_
  refine bx rfl rfl rfl (fun b1 => ?_)
  refine sy_sq ?_
  refine sp rfl (PE.assign rfl) rfl ?_
  refine sy_sn ?_
  refine sy_nx ?_
  refine sy_seq ?_
  refine sy_block ?_
  refine sy_seq ?_
  refine sy_tx' [0, 1, 2, 3, 4, 5] rfl ?_
  refine sy_sq ?_
  refine sp rfl (PE.fieldAddr fo26_8 rfl) rfl ?_
  refine sy_sq ?_
  refine spL rfl rfl (lh sc24 rfl rfl) rfl ?_
  refine sy_sq ?_
  refine sp rfl (PE.lenSl isl24 rfl) rfl ?_
  refine sy_sq ?_
  refine clV rfl cal92 rfl rfl (c_in _ _ _ _ _) ?_
  refine sy_sq ?_
  refine sp rfl (PE.not rfl) rfl ?_
  refine sy_sq ?_
  refine sp rfl (PE.assign rfl) rfl ?_
  refine sy_sn ?_
  refine sy_nx ?_
  refine sy_cond rfl (fun hc0 => ?_) (fun hc0 => ?_)
  ·
   refine sy_seq ?_
   refine sy_tx' [0] rfl ?_
   refine sy_sq ?_
   refine sp rfl (PE.assign rfl) rfl ?_
   refine sy_sn ?_
   refine sy_nx ?_
   refine sy_ret ?_
   refine sy_br ?_
   refine sy_tr ?_
   exact sy_return (vs := [_]) rfl (.cons (RV.tmp rfl) .nil) rfl ⟨congrArg (Value.int .i64) (by first | (rw [hck, no_bad hn]; rfl) | (rw [hck, some_bad hk2 hbad]; rfl) | simp_all only [Twn.check, inb, cond_true, cond_false, Bool.not_true, Bool.not_false, Bool.not_eq_true', Bool.not_eq_false']), rfl, rfl⟩ (fun _ h => by repeat first | exact h | replace h := St.tail h | replace h := St.ftail h | replace h := St.drop h)
  ·
   refine sy_seq ?_
   refine sy_tx' [0, 1, 2, 3, 4, 5, 6, 7, 8, 9, 10, 11] rfl ?_
   refine sy_sq ?_
   refine sp rfl (PE.fieldAddr fo26_1 rfl) rfl ?_
   refine sy_sq ?_
   refine spL rfl rfl (lh sc3 rfl rfl) rfl ?_
   refine sy_sq ?_
   refine sp rfl (PE.fieldAddr fo26_2 rfl) rfl ?_
   refine sy_sq ?_
   refine spL rfl rfl (lh sc3 rfl rfl) rfl ?_
   refine sy_sq ?_
   refine sp rfl (PE.fieldAddr fo26_5 rfl) rfl ?_
   refine sy_sq ?_
   refine spL rfl rfl (lh sc3 rfl rfl) rfl ?_
   refine sy_sq ?_
   refine sp rfl (PE.fieldAddr fo26_6 rfl) rfl ?_
   refine sy_sq ?_
   refine spL rfl rfl (lh sc3 rfl rfl) rfl ?_
   refine sy_sq ?_
   refine bsl (out := [_, _, _, _]) rfl sl42 zl3 rfl rfl rfl rfl rfl rfl (fun b21 => ?_)
   refine sy_sq ?_
   refine Sy.heap (fun w h => St.rows (sz := 1) (rows := irows [t.holds, t.need, t.good, t.bad]) (rest := []) h (by simp)) ?_
   refine clV rfl cal105 rfl rfl (c_every_int [t.holds, t.need, t.good, t.bad] _ _ 119 [] [] (fun n => inb n 0 30) cal119 (by simp) _ _ (fun _ x _ => c_chk1 x _ _)) ?_
   refine sy_sq ?_
   refine sp rfl (PE.not rfl) rfl ?_
   refine sy_sq ?_
   refine sp rfl (PE.assign rfl) rfl ?_
   refine sy_sn ?_
   refine sy_nx ?_
   refine sy_cond rfl (fun hc1 => ?_) (fun hc1 => ?_)
   ·
    refine sy_seq ?_
    refine sy_tx' [0] rfl ?_
    refine sy_sq ?_
    refine sp rfl (PE.assign rfl) rfl ?_
    refine sy_sn ?_
    refine sy_nx ?_
    refine sy_ret ?_
    refine sy_br ?_
    refine sy_tr ?_
    exact sy_return (vs := [_]) rfl (.cons (RV.tmp rfl) .nil) rfl ⟨congrArg (Value.int .i64) (by first | (rw [hck, no_bad hn]; rfl) | (rw [hck, some_bad hk2 hbad]; rfl) | simp_all only [Twn.check, inb, cond_true, cond_false, Bool.not_true, Bool.not_false, Bool.not_eq_true', Bool.not_eq_false']), rfl, rfl⟩ (fun _ h => by repeat first | exact h | replace h := St.tail h | replace h := St.ftail h | replace h := St.drop h)
   ·
    refine sy_seq ?_
    refine sy_tx' [0, 1, 2, 3, 4, 5, 6, 7, 8, 9, 10, 11, 12, 13, 14, 15, 16, 17, 18, 19, 20, 21, 22, 23] rfl ?_
    refine sy_sq ?_
    refine sp rfl (PE.fieldAddr fo26_3 rfl) rfl ?_
    refine sy_sq ?_
    refine spL rfl rfl (lh sc3 rfl rfl) rfl ?_
    refine sy_sq ?_
    refine clV rfl cal92 rfl rfl (c_in _ _ _ _ _) ?_
    refine sy_sq ?_
    refine sp rfl (PE.not rfl) rfl ?_
    refine sy_sq ?_
    refine sp rfl (PE.move rfl) rfl ?_
    refine sy_sq ?_
    refine sy_case (t := 29) rfl (fun g29 => ?_) (fun g29 => ?_)
    ·
     refine spN rfl rfl rfl rfl rfl rfl rfl rfl ?_
     refine sy_sq ?_
     refine spN rfl rfl rfl rfl rfl rfl rfl rfl ?_
     refine sy_sq ?_
     refine spN rfl rfl rfl rfl rfl rfl rfl rfl ?_
     refine sy_sq ?_
     refine spN rfl rfl rfl rfl rfl rfl rfl rfl ?_
     refine sy_sq ?_
     refine sp rfl (PE.pick rfl rfl rfl) rfl ?_
     refine sy_sq ?_
     refine sp rfl (PE.move rfl) rfl ?_
     refine sy_sq ?_
     refine spN rfl rfl rfl rfl rfl rfl rfl rfl ?_
     refine sy_sq ?_
     refine spN rfl rfl rfl rfl rfl rfl rfl rfl ?_
     refine sy_sq ?_
     refine spN rfl rfl rfl rfl rfl rfl rfl rfl ?_
     refine sy_sq ?_
     refine spN rfl rfl rfl rfl rfl rfl rfl rfl ?_
     refine sy_sq ?_
     refine sp rfl (PE.pick rfl rfl rfl) rfl ?_
     refine sy_sq ?_
     refine sp rfl (PE.move rfl) rfl ?_
     refine sy_sq ?_
     refine spN rfl rfl rfl rfl rfl rfl rfl rfl ?_
     refine sy_sq ?_
     refine spN rfl rfl rfl rfl rfl rfl rfl rfl ?_
     refine sy_sq ?_
     refine spN rfl rfl rfl rfl rfl rfl rfl rfl ?_
     refine sy_sq ?_
     refine spN rfl rfl rfl rfl rfl rfl rfl rfl ?_
     refine sy_sq ?_
     refine spN rfl rfl rfl rfl rfl rfl rfl rfl ?_
     refine sy_sq ?_
     refine sp rfl (PE.pick rfl rfl rfl) rfl ?_
     refine sy_sq ?_
     refine sp rfl (PE.assign rfl) rfl ?_
     refine sy_sn ?_
     refine sy_nx ?_
     refine sy_condT rfl ?_
     refine sy_seq ?_
     refine sy_tx' [0] rfl ?_
     refine sy_sq ?_
     refine sp rfl (PE.assign rfl) rfl ?_
     refine sy_sn ?_
     refine sy_nx ?_
     refine sy_ret ?_
     refine sy_br ?_
     refine sy_tr ?_
     exact sy_return (vs := [_]) rfl (.cons (RV.tmp rfl) .nil) rfl ⟨congrArg (Value.int .i64) (by first | (rw [hck, no_bad hn]; rfl) | (rw [hck, some_bad hk2 hbad]; rfl) | simp_all only [Twn.check, inb, cond_true, cond_false, Bool.not_true, Bool.not_false, Bool.not_eq_true', Bool.not_eq_false']), rfl, rfl⟩ (fun _ h => by repeat first | exact h | replace h := St.tail h | replace h := St.ftail h | replace h := St.drop h)
    ·
     refine spG rfl rfl rfl rfl (PE.fieldAddr fo26_4 rfl) rfl ?_
     refine sy_sq ?_
     refine spLG rfl rfl rfl rfl rfl (lh sc3 rfl rfl) rfl ?_
     refine sy_sq ?_
     refine clVG rfl rfl rfl rfl cal92 rfl rfl (c_in _ _ _ _ _) ?_
     refine sy_sq ?_
     refine spG rfl rfl rfl rfl (PE.not rfl) rfl ?_
     refine sy_sq ?_
     refine sp rfl (PE.pick rfl rfl rfl) rfl ?_
     refine sy_sq ?_
     refine sp rfl (PE.move rfl) rfl ?_
     refine sy_sq ?_
     refine sy_case (t := 35) rfl (fun g35 => ?_) (fun g35 => ?_)
     ·
      refine spN rfl rfl rfl rfl rfl rfl rfl rfl ?_
      refine sy_sq ?_
      refine spN rfl rfl rfl rfl rfl rfl rfl rfl ?_
      refine sy_sq ?_
      refine spN rfl rfl rfl rfl rfl rfl rfl rfl ?_
      refine sy_sq ?_
      refine spN rfl rfl rfl rfl rfl rfl rfl rfl ?_
      refine sy_sq ?_
      refine sp rfl (PE.pick rfl rfl rfl) rfl ?_
      refine sy_sq ?_
      refine sp rfl (PE.move rfl) rfl ?_
      refine sy_sq ?_
      refine spN rfl rfl rfl rfl rfl rfl rfl rfl ?_
      refine sy_sq ?_
      refine spN rfl rfl rfl rfl rfl rfl rfl rfl ?_
      refine sy_sq ?_
      refine spN rfl rfl rfl rfl rfl rfl rfl rfl ?_
      refine sy_sq ?_
      refine spN rfl rfl rfl rfl rfl rfl rfl rfl ?_
      refine sy_sq ?_
      refine spN rfl rfl rfl rfl rfl rfl rfl rfl ?_
      refine sy_sq ?_
      refine sp rfl (PE.pick rfl rfl rfl) rfl ?_
      refine sy_sq ?_
      refine sp rfl (PE.assign rfl) rfl ?_
      refine sy_sn ?_
      refine sy_nx ?_
      refine sy_condT rfl ?_
      refine sy_seq ?_
      refine sy_tx' [0] rfl ?_
      refine sy_sq ?_
      refine sp rfl (PE.assign rfl) rfl ?_
      refine sy_sn ?_
      refine sy_nx ?_
      refine sy_ret ?_
      refine sy_br ?_
      refine sy_tr ?_
      exact sy_return (vs := [_]) rfl (.cons (RV.tmp rfl) .nil) rfl ⟨congrArg (Value.int .i64) (by first | (rw [hck, no_bad hn]; rfl) | (rw [hck, some_bad hk2 hbad]; rfl) | simp_all only [Twn.check, inb, cond_true, cond_false, Bool.not_true, Bool.not_false, Bool.not_eq_true', Bool.not_eq_false']), rfl, rfl⟩ (fun _ h => by repeat first | exact h | replace h := St.tail h | replace h := St.ftail h | replace h := St.drop h)
     ·
      refine spG rfl rfl rfl rfl (PE.fieldAddr fo26_7 rfl) rfl ?_
      refine sy_sq ?_
      refine spLG rfl rfl rfl rfl rfl (lh sc3 rfl rfl) rfl ?_
      refine sy_sq ?_
      refine clVG rfl rfl rfl rfl cal92 rfl rfl (c_in _ _ _ _ _) ?_
      refine sy_sq ?_
      refine spG rfl rfl rfl rfl (PE.not rfl) rfl ?_
      refine sy_sq ?_
      refine sp rfl (PE.pick rfl rfl rfl) rfl ?_
      refine sy_sq ?_
      refine sp rfl (PE.move rfl) rfl ?_
      refine sy_sq ?_
      refine sy_case (t := 41) rfl (fun g41 => ?_) (fun g41 => ?_)
      ·
       refine spN rfl rfl rfl rfl rfl rfl rfl rfl ?_
       refine sy_sq ?_
       refine spN rfl rfl rfl rfl rfl rfl rfl rfl ?_
       refine sy_sq ?_
       refine spN rfl rfl rfl rfl rfl rfl rfl rfl ?_
       refine sy_sq ?_
       refine spN rfl rfl rfl rfl rfl rfl rfl rfl ?_
       refine sy_sq ?_
       refine spN rfl rfl rfl rfl rfl rfl rfl rfl ?_
       refine sy_sq ?_
       refine sp rfl (PE.pick rfl rfl rfl) rfl ?_
       refine sy_sq ?_
       refine sp rfl (PE.assign rfl) rfl ?_
       refine sy_sn ?_
       refine sy_nx ?_
       refine sy_condT rfl ?_
       refine sy_seq ?_
       refine sy_tx' [0] rfl ?_
       refine sy_sq ?_
       refine sp rfl (PE.assign rfl) rfl ?_
       refine sy_sn ?_
       refine sy_nx ?_
       refine sy_ret ?_
       refine sy_br ?_
       refine sy_tr ?_
       exact sy_return (vs := [_]) rfl (.cons (RV.tmp rfl) .nil) rfl ⟨congrArg (Value.int .i64) (by first | (rw [hck, no_bad hn]; rfl) | (rw [hck, some_bad hk2 hbad]; rfl) | simp_all only [Twn.check, inb, cond_true, cond_false, Bool.not_true, Bool.not_false, Bool.not_eq_true', Bool.not_eq_false']), rfl, rfl⟩ (fun _ h => by repeat first | exact h | replace h := St.tail h | replace h := St.ftail h | replace h := St.drop h)
      ·
       refine spLG rfl rfl rfl rfl rfl (lhA [_, _, _, _, _, _, _, _, _, _, _] ag26 rfl rfl rfl) rfl ?_
       refine sy_sq ?_
       refine spG rfl rfl rfl rfl (PE.fieldAddr fo26_0 rfl) rfl ?_
       refine sy_sq ?_
       refine spLG rfl rfl rfl rfl rfl (lhA [_, _, _] ag23 rfl rfl rfl) rfl ?_
       refine sy_sq ?_
       refine clVG rfl rfl rfl rfl cal91 rfl rfl (c_right t t.now _ _ _) ?_
       refine sy_sq ?_
       refine spG rfl rfl rfl rfl (PE.not rfl) rfl ?_
       refine sy_sq ?_
       refine sp rfl (PE.pick rfl rfl rfl) rfl ?_
       refine sy_sq ?_
       refine sp rfl (PE.assign rfl) rfl ?_
       refine sy_sn ?_
       refine sy_nx ?_
       refine sy_cond rfl (fun hc2 => ?_) (fun hc2 => ?_)
       ·
        refine sy_seq ?_
        refine sy_tx' [0] rfl ?_
        refine sy_sq ?_
        refine sp rfl (PE.assign rfl) rfl ?_
        refine sy_sn ?_
        refine sy_nx ?_
        refine sy_ret ?_
        refine sy_br ?_
        refine sy_tr ?_
        exact sy_return (vs := [_]) rfl (.cons (RV.tmp rfl) .nil) rfl ⟨congrArg (Value.int .i64) (by first | (rw [hck, no_bad hn]; rfl) | (rw [hck, some_bad hk2 hbad]; rfl) | simp_all only [Twn.check, inb, cond_true, cond_false, Bool.not_true, Bool.not_false, Bool.not_eq_true', Bool.not_eq_false']), rfl, rfl⟩ (fun _ h => by repeat first | exact h | replace h := St.tail h | replace h := St.ftail h | replace h := St.drop h)
       ·
        refine sy_seq ?_
        refine sy_tx' [0, 1, 2, 3, 4] rfl ?_
        refine sy_sq ?_
        refine sp rfl (PE.fieldAddr fo26_8 rfl) rfl ?_
        refine sy_sq ?_
        refine spL rfl rfl (lh sc24 rfl rfl) rfl ?_
        refine sy_sq ?_
        refine clV rfl cal120 rfl rfl (c_every_rat t.rats a c 121 [] [] (fun q => inb q.sacks 0 30 && inb q.price 0 100) cal121 hl _ _ (fun _ _ x _ => c_chk2 x _ _)) ?_
        refine sy_sq ?_
        refine sp rfl (PE.not rfl) rfl ?_
        refine sy_sq ?_
        refine sp rfl (PE.assign rfl) rfl ?_
        refine sy_sn ?_
        refine sy_nx ?_
        refine sy_cond rfl (fun hc3 => ?_) (fun hc3 => ?_)
        ·
         refine sy_seq ?_
         refine sy_tx' [0] rfl ?_
         refine sy_sq ?_
         refine sp rfl (PE.assign rfl) rfl ?_
         refine sy_sn ?_
         refine sy_nx ?_
         refine sy_ret ?_
         refine sy_br ?_
         refine sy_tr ?_
         exact sy_return (vs := [_]) rfl (.cons (RV.tmp rfl) .nil) rfl ⟨congrArg (Value.int .i64) (by first | (rw [hck, no_bad hn]; rfl) | (rw [hck, some_bad hk2 hbad]; rfl) | simp_all only [Twn.check, inb, cond_true, cond_false, Bool.not_true, Bool.not_false, Bool.not_eq_true', Bool.not_eq_false']), rfl, rfl⟩ (fun _ h => by repeat first | exact h | replace h := St.tail h | replace h := St.ftail h | replace h := St.drop h)
        ·
         refine sy_seq ?_
         refine sy_tx' [0, 1, 2, 3, 4, 5] rfl ?_
         refine sy_sq ?_
         refine sp rfl (PE.fieldAddr fo26_6 rfl) rfl ?_
         refine sy_sq ?_
         refine spL rfl rfl (lh sc3 rfl rfl) rfl ?_
         refine sy_sq ?_
         refine sp rfl (PE.fieldAddr fo26_5 rfl) rfl ?_
         refine sy_sq ?_
         refine spL rfl rfl (lh sc3 rfl rfl) rfl ?_
         refine sy_sq ?_
         refine sp rfl (PE.gtr rfl rfl) rfl ?_
         refine sy_sq ?_
         refine sp rfl (PE.assign rfl) rfl ?_
         refine sy_sn ?_
         refine sy_nx ?_
         refine sy_cond rfl (fun hc4 => ?_) (fun hc4 => ?_)
         ·
          refine sy_seq ?_
          refine sy_tx' [0] rfl ?_
          refine sy_sq ?_
          refine sp rfl (PE.assign rfl) rfl ?_
          refine sy_sn ?_
          refine sy_nx ?_
          refine sy_ret ?_
          refine sy_br ?_
          refine sy_tr ?_
          exact sy_return (vs := [_]) rfl (.cons (RV.tmp rfl) .nil) rfl ⟨congrArg (Value.int .i64) (by first | (rw [hck, no_bad hn]; rfl) | (rw [hck, some_bad hk2 hbad]; rfl) | simp_all only [Twn.check, inb, cond_true, cond_false, Bool.not_true, Bool.not_false, Bool.not_eq_true', Bool.not_eq_false']), rfl, rfl⟩ (fun _ h => by repeat first | exact h | replace h := St.tail h | replace h := St.ftail h | replace h := St.drop h)
         ·
          refine sy_skip ?_
          refine sy_bn ?_
          refine sy_nx ?_
          refine sy_seq ?_
          refine sy_seq ?_
          refine sy_tx' [0] rfl ?_
          refine sy_sq ?_
          refine sp rfl (PE.assign rfl) rfl ?_
          refine sy_sn ?_
          refine sy_nx ?_
          refine sy_block ?_
          have hlen : 1 ≤ t.rats.length := by
            simp only [inb, decide_eq_true_eq, decide_eq_false_iff_not, Bool.and_eq_true, Bool.or_eq_true, Bool.not_eq_true', Int.not_le, Int.not_lt, Bool.not_eq_false'] at hc0
            omega
          have hck : t.check = bif (List.range t.rats.length).any (badAt t.rats) then 4 else 0 := by simp_all only [Twn.check, inb, cond_true, cond_false, Bool.not_true, Bool.not_false, Bool.not_eq_true', Bool.not_eq_false']
          refine sy_loop (ι := {k : Nat // 1 ≤ k ∧ k ≤ t.rats.length ∧ ∀ i, i < k - 1 → badAt t.rats i = false}) (fun k => ⟨[(1, .pointer (some ⟨b1, 0, none⟩)), (3, .int .i64 k.1)], (b1, cel 26 (twl t (t.sl a c))) :: H, R⟩) (fun k => t.rats.length - k.1) ⟨1, by simp; omega⟩ ?_ (fun k => ?_)
          ·
           exact sy_at (by repeat' first | exact Sub.nil | apply Sub.cons | rfl | (simp [lk]; omega)) (fun w h => by repeat first | exact h | replace h := St.ftail h)
          ·
           obtain ⟨k, hk1, hk2, hn⟩ := k
           dsimp only
           refine sy_seq ?_
           refine sy_seq ?_
           refine sy_tx' [0, 1, 2, 3, 4] rfl ?_
           refine sy_sq ?_
           refine sp rfl (PE.move rfl) rfl ?_
           refine sy_sq ?_
           refine sp rfl (PE.fieldAddr fo26_8 rfl) rfl ?_
           refine sy_sq ?_
           refine spL rfl rfl (lh sc24 rfl rfl) rfl ?_
           refine sy_sq ?_
           refine sp rfl (PE.lenSl isl24 rfl) rfl ?_
           refine sy_sq ?_
           refine sp rfl (PE.lss rfl rfl) rfl ?_
           refine sy_sn ?_
           refine sy_nx ?_
           refine sy_cond rfl (fun hc5 => ?_) (fun hc5 => ?_)
           ·
            simp only [decide_eq_true_eq, decide_eq_false_iff_not, Bool.and_eq_true, Bool.or_eq_true, Bool.not_eq_true', Int.not_le, Int.not_lt] at hc5
            obtain ⟨x, hx⟩ : ∃ x, t.rats[k - 1]? = some x := ⟨_, List.getElem?_eq_getElem (by omega)⟩
            obtain ⟨y, hy⟩ : ∃ y, t.rats[k]? = some y := ⟨_, List.getElem?_eq_getElem (by omega)⟩
            have e1 : ((k : Int) - 1).toNat = k - 1 := by omega
            have hba : badAt t.rats (k - 1) = (decide (x.sacks ≤ y.sacks) || decide (y.price ≤ x.price)) := by unfold badAt; rw [hx, show k - 1 + 1 = k from by omega, hy]
            refine sy_addr (a := a) (sz := 2) (rows := rrows t.rats) (by intro h0; simp [rrows] at h0; simp [h0] at hx) (fun b off he => ?_)
            subst he
            refine sy_skip ?_
            refine sy_nx ?_
            refine sy_seq ?_
            refine sy_block ?_
            refine sy_seq ?_
            refine sy_cut (ι := Nat × Nat) (fun z => ⟨[(1, .pointer (some ⟨b1, 0, none⟩)), (3, .int .i64 k), (4, .pointer (some ⟨z.1, 0, none⟩)), (5, .pointer (some ⟨z.2, 0, none⟩))], (z.1, cel 91 (rrow x)) :: (z.2, cel 91 (rrow y)) :: (b1, cel 26 (twl t (t.sl (some ⟨b, off, none⟩) c))) :: H, R⟩) ?_ ?_
            ·
             refine sy_draw [0, 1, 0, 4, 15, 31, 0, 64, 0, 448, 960, 0, 0, 6207, 16383] (.tk 0 (.ld 1 (.tk 2 (.tk 3 (.tk 4 (.ld 5 (.tk 6 (.ld 7 (.tk 8 (.tk 9 (.ld 10 (.any (.alt 11 (.big 12 (.big 13 (.big 14 .done))) (.alt 12 (.big 11 (.big 13 (.big 14 .done))) .stop)))))))))))))) mixed (by kernel_rfl) ?_
             refine tk rfl (PE.fieldAddr fo26_8 rfl) rfl ?_
             refine ld rfl rfl (lh sc24 rfl rfl) rfl ?_
             refine tk rfl (PE.move rfl) rfl ?_
             refine tk rfl (PE.sub rfl rfl (by omega)) rfl ?_
             refine tk rfl (PE.indexAddr el24 rfl rfl (by omega) (by omega)) rfl ?_
             refine ld rfl rfl (lfA ag91 (row := rrow x) (by rw [e1]; exact rr_get hx) rfl) rfl ?_
             refine tk rfl (PE.fieldAddr fo26_8 rfl) rfl ?_
             refine ld rfl rfl (lh sc24 rfl rfl) rfl ?_
             refine tk rfl (PE.move rfl) rfl ?_
             refine tk rfl (PE.indexAddr el24 rfl rfl (by omega) (by omega)) rfl ?_
             refine ld rfl rfl (lfA ag91 (row := rrow y) (rr_get hy) rfl) rfl ?_
             refine sy_any ?_
             refine sy_alt ?_ ?_
             ·
              refine alc rfl zl91 rfl (fun b4 => ?_)
              refine bg (fun w hs => ⟨(lfA ag91 (row := rrow y) (rr_get hy) rfl) w hs, (lh sc24 rfl rfl) w hs, (lfA ag91 (row := rrow x) (by rw [e1]; exact rr_get hx) rfl) w hs, (lh sc24 rfl rfl) w hs, trivial⟩) ?_
              refine sy_bg ?_
              refine alc rfl zl91 rfl (fun b5 => ?_)
              refine bg (fun w hs => ⟨(lfA ag91 (row := rrow y) (rr_get hy) rfl) w hs, (lh sc24 rfl rfl) w hs, (lfA ag91 (row := rrow x) (by rw [e1]; exact rr_get hx) rfl) w hs, (lh sc24 rfl rfl) w hs, trivial⟩) ?_
              refine sy_bg ?_
              refine sto rfl rfl rfl cn91 rfl rfl rfl rfl ?_
              refine bg (fun w hs => ⟨(lfA ag91 (row := rrow y) (rr_get hy) rfl) w hs, (lh sc24 rfl rfl) w hs, trivial, trivial, trivial⟩) ?_
              refine sy_bg ?_
              refine sto rfl rfl rfl cn91 rfl rfl rfl rfl ?_
              refine bg (fun w hs => ⟨trivial, trivial, trivial⟩) ?_
              refine sy_dn ?_
              exact sy_cutEnd (b4, b5) (by repeat' first | exact Sub.nil | apply Sub.cons | rfl | (simp [lk]; omega)) (fun w h => by first | exact h | exact h.perm (.swap _ _ _))
             refine sy_alt ?_ ?_
             ·
              refine alc rfl zl91 rfl (fun b5 => ?_)
              refine bg (fun w hs => ⟨(lfA ag91 (row := rrow y) (rr_get hy) rfl) w hs, (lh sc24 rfl rfl) w hs, (lfA ag91 (row := rrow x) (by rw [e1]; exact rr_get hx) rfl) w hs, (lh sc24 rfl rfl) w hs, trivial⟩) ?_
              refine sy_bg ?_
              refine alc rfl zl91 rfl (fun b4 => ?_)
              refine bg (fun w hs => ⟨(lfA ag91 (row := rrow y) (rr_get hy) rfl) w hs, (lh sc24 rfl rfl) w hs, (lfA ag91 (row := rrow x) (by rw [e1]; exact rr_get hx) rfl) w hs, (lh sc24 rfl rfl) w hs, trivial⟩) ?_
              refine sy_bg ?_
              refine sto rfl rfl rfl cn91 rfl rfl rfl rfl ?_
              refine bg (fun w hs => ⟨(lfA ag91 (row := rrow y) (rr_get hy) rfl) w hs, (lh sc24 rfl rfl) w hs, trivial, trivial, trivial⟩) ?_
              refine sy_bg ?_
              refine sto rfl rfl rfl cn91 rfl rfl rfl rfl ?_
              refine bg (fun w hs => ⟨trivial, trivial, trivial⟩) ?_
              refine sy_dn ?_
              exact sy_cutEnd (b4, b5) (by repeat' first | exact Sub.nil | apply Sub.cons | rfl | (simp [lk]; omega)) (fun w h => by first | exact h | exact h.perm (.swap _ _ _))
             exact sy_stop
            ·
             rintro ⟨b4, b5⟩
             dsimp only
             refine sy_nx ?_
             refine sy_seq ?_
             refine sy_tx' [0, 1, 2, 3, 4, 5, 6, 7, 8, 9, 10, 11] rfl ?_
             refine sy_sq ?_
             refine sp rfl (PE.fieldAddr fo91_0 rfl) rfl ?_
             refine sy_sq ?_
             refine spL rfl rfl (lh sc3 rfl rfl) rfl ?_
             refine sy_sq ?_
             refine sp rfl (PE.fieldAddr fo91_0 rfl) rfl ?_
             refine sy_sq ?_
             refine spL rfl rfl (lh sc3 rfl rfl) rfl ?_
             refine sy_sq ?_
             refine sp rfl (PE.leq rfl rfl) rfl ?_
             refine sy_sq ?_
             refine sp rfl (PE.move rfl) rfl ?_
             refine sy_sq ?_
             refine sy_case (t := 82) rfl (fun g82 => ?_) (fun g82 => ?_)
             ·
              have hbad : badAt t.rats (k - 1) = true := by rw [hba, g82]; rfl
              replace hk2 : k - 1 < t.rats.length := by omega
              refine spN rfl rfl rfl rfl rfl rfl rfl rfl ?_
              refine sy_sq ?_
              refine spN rfl rfl rfl rfl rfl rfl rfl rfl ?_
              refine sy_sq ?_
              refine spN rfl rfl rfl rfl rfl rfl rfl rfl ?_
              refine sy_sq ?_
              refine spN rfl rfl rfl rfl rfl rfl rfl rfl ?_
              refine sy_sq ?_
              refine spN rfl rfl rfl rfl rfl rfl rfl rfl ?_
              refine sy_sq ?_
              refine sp rfl (PE.pick rfl rfl rfl) rfl ?_
              refine sy_sn ?_
              refine sy_nx ?_
              refine sy_condT rfl ?_
              refine sy_seq ?_
              refine sy_tx' [0] rfl ?_
              refine sy_sq ?_
              refine sp rfl (PE.assign rfl) rfl ?_
              refine sy_sn ?_
              refine sy_nx ?_
              refine sy_ret ?_
              refine sy_br ?_
              refine sy_tr ?_
              refine sy_tr ?_
              refine sy_br ?_
              refine sy_tr ?_
              exact sy_return (vs := [_]) rfl (.cons (RV.tmp rfl) .nil) rfl ⟨congrArg (Value.int .i64) (by first | (rw [hck, no_bad hn]; rfl) | (rw [hck, some_bad hk2 hbad]; rfl) | simp_all only [Twn.check, inb, cond_true, cond_false, Bool.not_true, Bool.not_false, Bool.not_eq_true', Bool.not_eq_false']), rfl, rfl⟩ (fun _ h => by repeat first | exact h | replace h := St.tail h | replace h := St.ftail h | replace h := St.drop h)
             ·
              refine spG rfl rfl rfl rfl (PE.fieldAddr fo91_1 rfl) rfl ?_
              refine sy_sq ?_
              refine spLG rfl rfl rfl rfl rfl (lh sc3 rfl rfl) rfl ?_
              refine sy_sq ?_
              refine spG rfl rfl rfl rfl (PE.fieldAddr fo91_1 rfl) rfl ?_
              refine sy_sq ?_
              refine spLG rfl rfl rfl rfl rfl (lh sc3 rfl rfl) rfl ?_
              refine sy_sq ?_
              refine spG rfl rfl rfl rfl (PE.geq rfl rfl) rfl ?_
              refine sy_sq ?_
              refine sp rfl (PE.pick rfl rfl rfl) rfl ?_
              refine sy_sn ?_
              refine sy_nx ?_
              refine sy_cond rfl (fun hc6 => ?_) (fun hc6 => ?_)
              ·
               have hbad : badAt t.rats (k - 1) = true := by rw [hba, g82]; exact hc6
               replace hk2 : k - 1 < t.rats.length := by omega
               refine sy_seq ?_
               refine sy_tx' [0] rfl ?_
               refine sy_sq ?_
               refine sp rfl (PE.assign rfl) rfl ?_
               refine sy_sn ?_
               refine sy_nx ?_
               refine sy_ret ?_
               refine sy_br ?_
               refine sy_tr ?_
               refine sy_tr ?_
               refine sy_br ?_
               refine sy_tr ?_
               exact sy_return (vs := [_]) rfl (.cons (RV.tmp rfl) .nil) rfl ⟨congrArg (Value.int .i64) (by first | (rw [hck, no_bad hn]; rfl) | (rw [hck, some_bad hk2 hbad]; rfl) | simp_all only [Twn.check, inb, cond_true, cond_false, Bool.not_true, Bool.not_false, Bool.not_eq_true', Bool.not_eq_false']), rfl, rfl⟩ (fun _ h => by repeat first | exact h | replace h := St.tail h | replace h := St.ftail h | replace h := St.drop h)
              ·
               refine sy_skip ?_
               refine sy_bn ?_
               refine sy_nx ?_
               refine sy_tx' [0, 1, 2] rfl ?_
               refine sy_sq ?_
               refine sp rfl (PE.move rfl) rfl ?_
               refine sy_sq ?_
               refine sp rfl (PE.add rfl rfl (by omega)) rfl ?_
               refine sy_sq ?_
               refine sp rfl (PE.assign rfl) rfl ?_
               refine sy_sn ?_
               refine sy_nx ?_
               exact sy_next ⟨k + 1, by omega, by omega, fun i hi => by
                 rcases Nat.lt_or_ge i (k - 1) with h1 | h1
                 · exact hn i h1
                 · obtain rfl : i = k - 1 := by omega
                   rw [hba, g82]; exact hc6⟩ (by dsimp only; omega) (by repeat' first | exact Sub.nil | apply Sub.cons | rfl | (simp [lk]; omega)) (fun w h => St.tail (St.tail h))
           ·
            simp only [decide_eq_true_eq, decide_eq_false_iff_not, Bool.and_eq_true, Bool.or_eq_true, Bool.not_eq_true', Int.not_le, Int.not_lt] at hc5
            obtain rfl : k = t.rats.length := by omega
            refine sy_exit ?_
            refine sy_tx ?_
            refine sy_tx ?_
            refine sy_bx ?_
            refine sy_nx ?_
            refine sy_seq ?_
            refine sy_tx' [0] rfl ?_
            refine sy_sq ?_
            refine sp rfl (PE.assign rfl) rfl ?_
            refine sy_sn ?_
            refine sy_nx ?_
            refine sy_ret ?_
            exact sy_return (vs := [_]) rfl (.cons (RV.tmp rfl) .nil) rfl ⟨congrArg (Value.int .i64) (by first | (rw [hck, no_bad hn]; rfl) | (rw [hck, some_bad hk2 hbad]; rfl) | simp_all only [Twn.check, inb, cond_true, cond_false, Bool.not_true, Bool.not_false, Bool.not_eq_true', Bool.not_eq_false']), rfl, rfl⟩ (fun _ h => by repeat first | exact h | replace h := St.tail h | replace h := St.ftail h | replace h := St.drop h)
end Go.Proofs.Ytaldphhdkmchhaa
