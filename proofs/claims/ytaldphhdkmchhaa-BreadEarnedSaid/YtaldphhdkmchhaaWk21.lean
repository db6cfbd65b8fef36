/- Walks of the functions of the program: what each returns and leaves in memory, under the conditions that its theorem names. -/
import Derived.Test.YtaldphhdkmchhaaTy
import Derived.Test.YtaldphhdkmchhaaMa
import Derived.Test.YtaldphhdkmchhaaWk19
import Derived.Test.YtaldphhdkmchhaaMk
namespace Go.Proofs.Ytaldphhdkmchhaa
set_option linter.unusedSimpArgs false
set_option linter.unusedVariables false
open Go
theorem ag99 : aggN Try.prog 99 = some 4 := by kernel_rfl
theorem cal114 : cal Try.prog 114 = true := by kernel_rfl
theorem cal115 : cal Try.prog 115 = true := by kernel_rfl
theorem cal116 : cal Try.prog 116 = true := by kernel_rfl
theorem cal117 : cal Try.prog 117 = true := by kernel_rfl
theorem cal133 : cal Try.prog 133 = true := by kernel_rfl
theorem cal134 : cal Try.prog 134 = true := by kernel_rfl
theorem cal137 : cal Try.prog 137 = true := by kernel_rfl
theorem cal18 : cal Try.prog 18 = true := by kernel_rfl
theorem cal23 : cal Try.prog 23 = true := by kernel_rfl
theorem cal24 : cal Try.prog 24 = true := by kernel_rfl
theorem cal27 : cal Try.prog 27 = true := by kernel_rfl
theorem cn99 : cellN Try.prog 99 = some 4 := by kernel_rfl
theorem el96 : elN Try.prog 96 = some 4 := by kernel_rfl
theorem eqf99 : eqB Try.prog 10000 99 = some (true, 4) := by kernel_rfl
theorem eqg99 : Try.prog.eqGuardType Try.prog.depth 99 = false := by kernel_rfl
theorem fo99_0 : fOff Try.prog 99 0 = some 0 := by kernel_rfl
theorem fo99_1 : fOff Try.prog 99 1 = some 3 := by kernel_rfl
theorem isl96 : isSl Try.prog 96 = true := by kernel_rfl
theorem sc176 : scal Try.prog 176 = true := by kernel_rfl
theorem rows_nil {a : Option Addr} {sz : Nat} {rows : List (List Value)} {w : World} (h : RowsA a sz rows w) (ha : a.isNone = true) : rows = [] := by
  false_or_by_contra
  rename_i h0
  obtain ⟨b, off, e⟩ := rows_addr h h0
  rw [e] at ha; cases ha

abbrev Fat := Sta × Int
theorem fr_get {l : List Fat} {k : Nat} {x : Fat} (h : l[k]? = some x) : (frows l)[k]? = some (frow x) := by simp [frows, h]
theorem fate_can (t : Twn) (pre : List Fat) (p : Fat) : fateOk t pre p = (canL t p.1).all fun q => earlier pre (t.next p.1 q false) p.2 || (decide (p.1.dry < t.run) && earlier pre (t.next p.1 q true) (p.2 - 1)) := by
  unfold fateOk canL
  induction t.rats with
  | nil => rfl
  | cons q l ih =>
    rw [List.all_cons, List.filter_cons, ih]
    cases t.can p.1 q <;> simp
theorem fates_take {t : Twn} {l : List Fat} {k : Nat} {x : Fat} (hx : l[k]? = some x) (h : fatesOk t [] (l.take k) = true) (h2 : fateOk t (l.take k) x = true) : fatesOk t [] (l.take (k + 1)) = true := by
  rw [List.take_add_one, hx, Option.toList_some, fates_snoc, h, List.nil_append, h2]; rfl
theorem st_hit {t : Twn} {l : List Fat} (h0 : t.check = 0) (h1 : l.length ≤ 496) (h2 : (l.all fun p => p.1.right t && inb p.2 0 1000000) = true) (h3 : fatesOk t [] l = true) : stR t l = match minB l t.now with | none => (0, 6) | some n => (n, 0) := by
  unfold stR; rw [h2, h3, decide_eq_false (show ¬ 496 < l.length by omega)]; simp only [h0]; cases minB l t.now <;> rfl
theorem st_bad {t : Twn} {l : List Fat} (h0 : t.check = 0) (h1 : l.length ≤ 496) (h2 : (l.all fun p => p.1.right t && inb p.2 0 1000000) = true) (h3 : fatesOk t [] l = false) : stR t l = (0, 8) := by
  unfold stR; rw [h2, h3, decide_eq_false (show ¬ 496 < l.length by omega)]; simp [h0]
theorem st_rng {t : Twn} {l : List Fat} (h0 : t.check = 0) (h1 : l.length ≤ 496) (h2 : (l.all fun p => p.1.right t && inb p.2 0 1000000) = false) : stR t l = (0, 3) := by
  unfold stR; rw [h2, decide_eq_false (show ¬ 496 < l.length by omega)]; simp [h0]
theorem st_many {t : Twn} {l : List Fat} (h0 : t.check = 0) (h1 : 496 < l.length) : stR t l = (0, 2) := by
  unfold stR; rw [decide_eq_true h1]; simp [h0]
theorem fat_rg {t : Twn} {l : List Fat} (h2 : (l.all fun p => p.1.right t && inb p.2 0 1000000) = true) {x : Fat} (hx : x ∈ l) : x.1.right t = true ∧ 0 ≤ x.2 ∧ x.2 ≤ 1000000 := by
  have := List.all_eq_true.1 h2 x hx
  simpa [inb, and_assoc] using this

theorem c_idx_fate (xs : List Fat) (a : Option Addr) (c g : Nat) (fst cap : List Value) (p : Fat → Bool) (hg : cal Try.prog g = true) (hl : xs.length ≤ 9223372036854775807) (H : Heap) (R : Facts) [hR : MemRows a 4 (frows xs) R] (hp : ∀ x, x ∈ xs → FnV Try.prog g (fst ++ [.agg (frow x).toArray] ++ cap) H R (.bool (p x))) :
    FnV Try.prog 137 [.slice a xs.length c, .func (.func g) fst.toArray cap.toArray] H R (.int .i64 (match xs.findIdx? p with | some k => (k : Int) | none => -1)) := by
  refine fn_of Try.func137 rfl Try.ntmps137 rfl ?_
  refine sy_seq ?_
  refine sy_tx' [0] rfl ?_
  refine sy_sq ?_
  refine sp rfl (PE.assign rfl) rfl ?_
  refine sy_sn ?_
  refine sy_nx ?_
  refine sy_seq ?_
  refine sy_seq ?_
  refine sy_tx' [0, 1, 2] rfl ?_
  refine sy_sq ?_
  refine sp rfl (PE.move rfl) rfl ?_
  refine sy_sq ?_
  refine sp rfl (PE.lenSl isl96 rfl) rfl ?_
  refine sy_sq ?_
  refine sp rfl (PE.move rfl) rfl ?_
  refine sy_sn ?_
  refine sy_nx ?_
  refine sy_block ?_
  refine sy_loop (ι := {k : Nat // k ≤ xs.length ∧ ∀ x ∈ xs.take k, p x = false}) (fun k => ⟨[(0, .slice a xs.length c), (1, .func (.func g) fst.toArray cap.toArray), (7, .int .i64 xs.length), (8, .int .i64 k.1)], H, R⟩) (fun k => xs.length - k.1) ⟨0, by simp⟩ ?_ (fun k => ?_)
  ·
   exact sy_at (by repeat' first | exact Sub.nil | apply Sub.cons | rfl | (simp [lk]; omega)) (fun _ h => h)
  ·
   obtain ⟨k, hk, hn⟩ := k
   dsimp only
   refine sy_seq ?_
   refine sy_tx' [0] rfl ?_
   refine sy_sq ?_
   refine sp rfl (PE.lss rfl rfl) rfl ?_
   refine sy_sn ?_
   refine sy_nx ?_
   refine sy_seq ?_
   refine sy_cond rfl (fun hc0 => ?_) (fun hc0 => ?_)
   ·
    simp only [decide_eq_true_eq, decide_eq_false_iff_not, Bool.and_eq_true, Bool.or_eq_true, Bool.not_eq_true', Int.not_le, Int.not_lt] at hc0
    obtain ⟨x, hx⟩ : ∃ x, xs[k]? = some x := ⟨_, List.getElem?_eq_getElem (by omega)⟩
    have hxm := List.mem_of_getElem? hx
    refine sy_addr (a := a) (sz := 4) (rows := frows xs) (by cases xs <;> simp_all [frows]) (fun b off he => ?_)
    subst he
    refine sy_skip ?_
    refine sy_nx ?_
    refine sy_seq ?_
    refine sy_block ?_
    refine sy_seq ?_
    refine sy_tx' [0, 1] rfl ?_
    refine sy_sq ?_
    refine sp rfl (PE.move rfl) rfl ?_
    refine sy_sq ?_
    refine sp rfl (PE.assign rfl) rfl ?_
    refine sy_sn ?_
    refine sy_nx ?_
    refine sy_seq ?_
    refine sy_tx' [0, 1, 2, 3, 4, 5] rfl ?_
    refine sy_sq ?_
    refine sp rfl (PE.move rfl) rfl ?_
    refine sy_sq ?_
    refine sp rfl (PE.move rfl) rfl ?_
    refine sy_sq ?_
    refine sp rfl (PE.move rfl) rfl ?_
    refine sy_sq ?_
    refine sp rfl (PE.indexAddr el96 rfl rfl (by omega) (by omega)) rfl ?_
    refine sy_sq ?_
    refine spL rfl rfl (lfA ag99 (row := frow x) (by simp [frows, hx]) rfl) rfl ?_
    refine sy_sq ?_
    refine clFV rfl rfl (hg) rfl rfl (hp x hxm) ?_
    refine sy_sn ?_
    refine sy_nx ?_
    refine sy_cond rfl (fun hc1 => ?_) (fun hc1 => ?_)
    ·
     refine sy_seq ?_
     refine sy_tx' [0, 1] rfl ?_
     refine sy_sq ?_
     refine sp rfl (PE.move rfl) rfl ?_
     refine sy_sq ?_
     refine sp rfl (PE.assign rfl) rfl ?_
     refine sy_sn ?_
     refine sy_nx ?_
     refine sy_ret ?_
     refine sy_br ?_
     refine sy_tr ?_
     refine sy_tr ?_
     refine sy_br ?_
     refine sy_tr ?_
     first | (exact sy_return (vs := [_]) rfl (.cons (RV.tmp rfl) .nil) rfl ⟨by rw [find_hit hx hn hc1]; rfl, rfl, rfl⟩ (fun _ h => h)) | (exact sy_return (vs := [_]) rfl (.cons (RV.tmp rfl) .nil) rfl ⟨by rw [find_miss (by simpa using hn)]; rfl, rfl, rfl⟩ (fun _ h => h))
    ·
     refine sy_skip ?_
     refine sy_bn ?_
     refine sy_nx ?_
     refine sy_tx' [0, 1] rfl ?_
     refine sy_sq ?_
     refine sp rfl (PE.add rfl rfl (by omega)) rfl ?_
     refine sy_sq ?_
     refine sp rfl (PE.move rfl) rfl ?_
     refine sy_sn ?_
     refine sy_nx ?_
     exact sy_next ⟨k + 1, by omega, take_miss hx hn hc1⟩ (by dsimp only; omega) (by repeat' first | exact Sub.nil | apply Sub.cons | rfl | (simp [lk]; omega)) (fun _ h => h)
   ·
    simp only [decide_eq_true_eq, decide_eq_false_iff_not, Bool.and_eq_true, Bool.or_eq_true, Bool.not_eq_true', Int.not_le, Int.not_lt] at hc0
    obtain rfl : k = xs.length := by omega
    refine sy_exit ?_
    refine sy_tx ?_
    refine sy_tx ?_
    refine sy_bx ?_
    refine sy_nx ?_
    refine sy_seq ?_
    refine sy_tx' [0] rfl ?_
    refine sy_sq ?_
    refine sp rfl (PE.assign rfl) rfl ?_
    refine sy_sn ?_
    refine sy_nx ?_
    refine sy_ret ?_
    first | (exact sy_return (vs := [_]) rfl (.cons (RV.tmp rfl) .nil) rfl ⟨by rw [find_hit hx hn hc1]; rfl, rfl, rfl⟩ (fun _ h => h)) | (exact sy_return (vs := [_]) rfl (.cons (RV.tmp rfl) .nil) rfl ⟨by rw [find_miss (by simpa using hn)]; rfl, rfl, rfl⟩ (fun _ h => h))

theorem c_has_fate (xs : List Fat) (a : Option Addr) (c g : Nat) (fst cap : List Value) (p : Fat → Bool) (hg : cal Try.prog g = true) (hl : xs.length ≤ 9223372036854775807) (H : Heap) (R : Facts) [hR : MemRows a 4 (frows xs) R] (hp : ∀ x, x ∈ xs → FnV Try.prog g (fst ++ [.agg (frow x).toArray] ++ cap) H R (.bool (p x))) :
    FnV Try.prog 133 [.slice a xs.length c, .func (.func g) fst.toArray cap.toArray] H R (.bool (xs.any p)) := by
  refine fn_of Try.func133 rfl Try.ntmps133 rfl ?_
  refine sy_seq ?_
  refine sy_tx' [0] rfl ?_
  refine sy_sq ?_
  refine sp rfl (PE.assign rfl) rfl ?_
  refine sy_sn ?_
  refine sy_nx ?_
  refine sy_seq ?_
  refine sy_tx' [0, 1, 2, 3, 4] rfl ?_
  refine sy_sq ?_
  refine sp rfl (PE.move rfl) rfl ?_
  refine sy_sq ?_
  refine sp rfl (PE.move rfl) rfl ?_
  refine sy_sq ?_
  refine clV rfl cal137 rfl rfl (c_idx_fate xs a c g fst cap p hg hl _ _ hp) ?_
  refine sy_sq ?_
  refine sp rfl (PE.geq rfl rfl) rfl ?_
  refine sy_sq ?_
  refine sp rfl (PE.assign rfl) rfl ?_
  refine sy_sn ?_
  refine sy_nx ?_
  refine sy_ret ?_
  exact sy_return (vs := [_]) rfl (.cons (RV.tmp rfl) .nil) rfl ⟨by simp only [retV]; exact idx_any _ _, rfl, rfl⟩ (fun _ h => by repeat first | exact h | replace h := St.tail h | replace h := St.ftail h | replace h := St.drop h)

theorem c_ev1_fate (x : Fat) (g bf : Nat) (fst cap : List Value) (p : Bool) (hg : cal Try.prog g = true) (H : Heap) (R : Facts) [hM : Mem1 bf (cel 176 [.func (.func g) fst.toArray cap.toArray]) H] (hp : ∀ b, FnV Try.prog g (fst ++ [.agg (frow x).toArray] ++ cap) ((b, cel 99 (frow x)) :: H) R (.bool p)) :
    FnV Try.prog 134 [.agg (frow x).toArray, .pointer (some ⟨bf, 0, none⟩)] H R (.bool !p) := by
  refine fn_of Try.func134 rfl Try.ntmps134 rfl ?_
  refine sy_seq ?_
  refine sy_tx' [0, 1] rfl ?_
  refine sy_sq ?_
  refine bx rfl rfl rfl (fun b2 => ?_)
  refine sy_sq ?_
  refine sp rfl (PE.assign rfl) rfl ?_
  refine sy_sn ?_
  refine sy_nx ?_
  refine sy_seq ?_
  refine sy_tx' [0, 1, 2, 3, 4] rfl ?_
  refine sy_sq ?_
  refine spL rfl rfl (lh sc176 rfl rfl) rfl ?_
  refine sy_sq ?_
  refine spL rfl rfl (lhA [_, _, _, _] ag99 rfl rfl rfl) rfl ?_
  refine sy_sq ?_
  refine clFV rfl rfl (hg) rfl rfl (hp _) ?_
  refine sy_sq ?_
  refine sp rfl (PE.not rfl) rfl ?_
  refine sy_sq ?_
  refine sp rfl (PE.assign rfl) rfl ?_
  refine sy_sn ?_
  refine sy_nx ?_
  refine sy_ret ?_
  exact sy_return (vs := [_]) rfl (.cons (RV.tmp rfl) .nil) rfl ⟨rfl, rfl, rfl⟩ (fun _ h => by repeat first | exact h | replace h := St.tail h | replace h := St.ftail h | replace h := St.drop h)

theorem c_every_fate (xs : List Fat) (a : Option Addr) (c g : Nat) (fst cap : List Value) (p : Fat → Bool) (hg : cal Try.prog g = true) (hl : xs.length ≤ 9223372036854775807) (H : Heap) (R : Facts) [hR : MemRows a 4 (frows xs) R] (hp : ∀ b b2 x, x ∈ xs → FnV Try.prog g (fst ++ [.agg (frow x).toArray] ++ cap) ((b2, cel 99 (frow x)) :: (b, cel 176 [.func (.func g) fst.toArray cap.toArray]) :: H) R (.bool (p x))) :
    FnV Try.prog 114 [.slice a xs.length c, .func (.func g) fst.toArray cap.toArray] H R (.bool (xs.all p)) := by
  refine fn_of Try.func114 rfl Try.ntmps114 rfl ?_
  refine sy_seq ?_
  refine sy_tx' [0, 1] rfl ?_
  refine sy_sq ?_
  refine bx rfl rfl rfl (fun b3 => ?_)
  refine sy_sq ?_
  refine sp rfl (PE.assign rfl) rfl ?_
  refine sy_sn ?_
  refine sy_nx ?_
  refine sy_seq ?_
  refine sy_tx' [0, 1, 2, 3, 4] rfl ?_
  refine sy_sq ?_
  refine sp rfl (PE.move rfl) rfl ?_
  refine sy_sq ?_
  refine sp rfl (PE.makeFunc rfl rfl) rfl ?_
  refine sy_sq ?_
  refine clV rfl cal133 rfl rfl (c_has_fate xs a c 134 [] [_] (fun x => !p x) cal134 hl _ _ (hp := fun x hx => c_ev1_fate x g _ fst cap (p x) hg _ _ (hp := fun b => hp _ _ x hx))) ?_
  refine sy_sq ?_
  refine sp rfl (PE.not rfl) rfl ?_
  refine sy_sq ?_
  refine sp rfl (PE.assign rfl) rfl ?_
  refine sy_sn ?_
  refine sy_nx ?_
  refine sy_ret ?_
  exact sy_return (vs := [_]) rfl (.cons (RV.tmp rfl) .nil) rfl ⟨by simp only [retV]; rw [not_any_not], rfl, rfl⟩ (fun _ h => by repeat first | exact h | replace h := St.tail h | replace h := St.ftail h | replace h := St.drop h)

theorem c_dup_fate (xs : List Fat) (a : Option Addr) (c : Nat) (hl : xs.length ≤ 1000000) (H : Heap) (R : Facts) [hR : MemRows a 4 (frows xs) R] :
    Fn Try.prog 57 [.slice a xs.length c] H R (fun v H' R' => ∃ o : OSl 99 4 (frows xs), v = o.fs ∧ o.here ∧ H' = o.G ++ H ∧ R' = R) := by
  refine fn_of Try.func57 rfl Try.ntmps57 rfl ?_
  refine sy_seq ?_
  refine sy_tx' [0] rfl ?_
  refine sy_sq ?_
  refine sp rfl (PE.assign rfl) rfl ?_
  refine sy_sn ?_
  refine sy_nx ?_
  refine sy_seq ?_
  refine sy_tx' [0, 1, 2, 3, 4, 5] rfl ?_
  refine sy_sq ?_
  refine sp rfl (PE.move rfl) rfl ?_
  refine sy_sq ?_
  refine sp rfl (PE.lenSl isl96 rfl) rfl ?_
  refine sy_sq ?_
  refine mkO rfl ap96 zl99 rfl rfl ⟨by omega, by omega⟩ rfl (fun o ho => ?_)
  refine sy_sq ?_
  refine sp rfl (PE.move rfl) rfl ?_
  refine sy_sq ?_
  refine apOh (news := frows xs) o rfl ap96 rfl rfl (rowsF) (by simp [frows]) (by simp [onecells, frows, frow, Value.oneCell']) ⟨by simp [frows]; omega, by simp [frows]; omega⟩ rfl ho (fun o2 ho2 => ?_)
  refine sy_sq ?_
  refine sp rfl (PE.assign rfl) rfl ?_
  refine sy_sn ?_
  refine sy_nx ?_
  refine sy_ret ?_
  exact sy_return (vs := [_]) rfl (.cons (RV.tmp rfl) .nil) rfl ⟨o2.cast (by simp), rfl, ho2, rfl, rfl⟩ (fun _ h => h)

theorem c_eq_fate (xs ys : List Fat) (a a2 : Option Addr) (c c2 : Nat) (hl : xs.length ≤ 9223372036854775807) (hl2 : ys.length ≤ 9223372036854775807) (H : Heap) (R : Facts) [hR : MemRows a 4 (frows xs) R] [hR2 : MemRows a2 4 (frows ys) R] :
    FnV Try.prog 117 [.slice a xs.length c, .slice a2 ys.length c2] H R (.bool (decide (xs = ys))) := by
  refine fn_of Try.func117 rfl Try.ntmps117 rfl ?_
  refine sy_seq ?_
  refine sy_tx' [0] rfl ?_
  refine sy_sq ?_
  refine sp rfl (PE.assign rfl) rfl ?_
  refine sy_sn ?_
  refine sy_nx ?_
  refine sy_seq ?_
  refine sy_seq ?_
  refine sy_tx' [0, 1, 2, 3, 4] rfl ?_
  refine sy_sq ?_
  refine sp rfl (PE.move rfl) rfl ?_
  refine sy_sq ?_
  refine sp rfl (PE.lenSl isl96 rfl) rfl ?_
  refine sy_sq ?_
  refine sp rfl (PE.move rfl) rfl ?_
  refine sy_sq ?_
  refine sp rfl (PE.lenSl isl96 rfl) rfl ?_
  refine sy_sq ?_
  refine sp rfl (PE.neq rfl rfl) rfl ?_
  refine sy_sn ?_
  refine sy_nx ?_
  refine sy_cond rfl (fun hc0 => ?_) (fun hc0 => ?_)
  ·
   have hne : xs ≠ ys := fun e => by subst e; simp at hc0
   refine sy_seq ?_
   refine sy_tx' [0] rfl ?_
   refine sy_sq ?_
   refine sp rfl (PE.assign rfl) rfl ?_
   refine sy_sn ?_
   refine sy_nx ?_
   refine sy_ret ?_
   refine sy_tr ?_
   exact sy_return (vs := [_]) rfl (.cons (RV.tmp rfl) .nil) rfl ⟨by first | (simp only [retV]; rw [decide_eq_true heq]; done) | (simp only [retV]; rw [decide_eq_false hne]), rfl, rfl⟩ (fun _ h => h)
  ·
   have hle : xs.length = ys.length := by simp only [decide_eq_true_eq, decide_eq_false_iff_not, Bool.and_eq_true, Bool.or_eq_true, Bool.not_eq_true', Int.not_le, Int.not_lt] at hc0; omega
   refine sy_skip ?_
   refine sy_nx ?_
   refine sy_seq ?_
   refine sy_seq ?_
   refine sy_tx' [0, 1, 2] rfl ?_
   refine sy_sq ?_
   refine sp rfl (PE.move rfl) rfl ?_
   refine sy_sq ?_
   refine sp rfl (PE.lenSl isl96 rfl) rfl ?_
   refine sy_sq ?_
   refine sp rfl (PE.move rfl) rfl ?_
   refine sy_sn ?_
   refine sy_nx ?_
   refine sy_block ?_
   refine sy_loop (ι := {k : Nat // k ≤ xs.length ∧ xs.take k = ys.take k}) (fun k => ⟨[(0, .slice a xs.length c), (1, .slice a2 ys.length c2), (12, .int .i64 xs.length), (13, .int .i64 k.1)], H, R⟩) (fun k => xs.length - k.1) ⟨0, by simp⟩ ?_ (fun k => ?_)
   ·
    exact sy_at (by repeat' first | exact Sub.nil | apply Sub.cons | rfl | (simp [lk]; omega)) (fun _ h => h)
   ·
    obtain ⟨k, hk, hn⟩ := k
    dsimp only
    refine sy_seq ?_
    refine sy_tx' [0] rfl ?_
    refine sy_sq ?_
    refine sp rfl (PE.lss rfl rfl) rfl ?_
    refine sy_sn ?_
    refine sy_nx ?_
    refine sy_seq ?_
    refine sy_cond rfl (fun hc1 => ?_) (fun hc1 => ?_)
    ·
     simp only [decide_eq_true_eq, decide_eq_false_iff_not, Bool.and_eq_true, Bool.or_eq_true, Bool.not_eq_true', Int.not_le, Int.not_lt] at hc1
     obtain ⟨x, hx⟩ : ∃ x, xs[k]? = some x := ⟨_, List.getElem?_eq_getElem (by omega)⟩
     obtain ⟨z, hz⟩ : ∃ z, ys[k]? = some z := ⟨_, List.getElem?_eq_getElem (by omega)⟩
     refine sy_addr (a := a) (sz := 4) (rows := frows xs) (by intro h0; simp [frows] at h0; simp [h0] at hx) (fun b off he => ?_)
     subst he
     refine sy_addr (a := a2) (sz := 4) (rows := frows ys) (by intro h0; simp [frows] at h0; simp [h0] at hz) (fun b2 off2 he => ?_)
     subst he
     refine sy_skip ?_
     refine sy_nx ?_
     refine sy_seq ?_
     refine sy_block ?_
     refine sy_seq ?_
     refine sy_tx' [0, 1] rfl ?_
     refine sy_sq ?_
     refine sp rfl (PE.move rfl) rfl ?_
     refine sy_sq ?_
     refine sp rfl (PE.assign rfl) rfl ?_
     refine sy_sn ?_
     refine sy_nx ?_
     refine sy_seq ?_
     refine sy_draw [0, 0, 3, 7, 0, 0, 48, 112, 255] (.tk 0 (.tk 1 (.tk 2 (.ld 3 (.tk 4 (.tk 5 (.tk 6 (.ld 7 (.tk 8 .done))))))))) mixed (by kernel_rfl) ?_
     refine tk rfl (PE.move rfl) rfl ?_
     refine tk rfl (PE.move rfl) rfl ?_
     refine tk rfl (PE.indexAddr el96 rfl rfl (by omega) (by omega)) rfl ?_
     refine ld rfl rfl (lfA ag99 (row := frow x) (by simp [frows, hx]) rfl) rfl ?_
     refine tk rfl (PE.move rfl) rfl ?_
     refine tk rfl (PE.move rfl) rfl ?_
     refine tk rfl (PE.indexAddr el96 rfl rfl (by omega) (by omega)) rfl ?_
     refine ld rfl rfl (lfA ag99 (row := frow z) (by simp [frows, hz]) rfl) rfl ?_
     refine tk rfl (PE.neqAgg [x.1.stock, x.1.short, x.1.dry, x.2] [z.1.stock, z.1.short, z.1.dry, z.2] (eqB_ok 10000 99 true 4 eqf99) eqg99 rfl rfl rfl rfl) rfl ?_
     refine sy_dn ?_
     refine sy_nx ?_
     refine sy_cond rfl (fun hc2 => ?_) (fun hc2 => ?_)
     ·
      have hne : xs ≠ ys := fun e => by subst e; rw [hx] at hz; cases hz; simp at hc2
      refine sy_seq ?_
      refine sy_tx' [0] rfl ?_
      refine sy_sq ?_
      refine sp rfl (PE.assign rfl) rfl ?_
      refine sy_sn ?_
      refine sy_nx ?_
      refine sy_ret ?_
      refine sy_br ?_
      refine sy_tr ?_
      refine sy_tr ?_
      refine sy_br ?_
      refine sy_tr ?_
      exact sy_return (vs := [_]) rfl (.cons (RV.tmp rfl) .nil) rfl ⟨by first | (simp only [retV]; rw [decide_eq_true heq]; done) | (simp only [retV]; rw [decide_eq_false hne]), rfl, rfl⟩ (fun _ h => h)
     ·
      have hxz : x = z := by obtain ⟨⟨x1, x2, x3⟩, x4⟩ := x; obtain ⟨⟨z1, z2, z3⟩, z4⟩ := z; simpa [and_assoc] using hc2
      refine sy_skip ?_
      refine sy_bn ?_
      refine sy_nx ?_
      refine sy_tx' [0, 1] rfl ?_
      refine sy_sq ?_
      refine sp rfl (PE.add rfl rfl (by omega)) rfl ?_
      refine sy_sq ?_
      refine sp rfl (PE.move rfl) rfl ?_
      refine sy_sn ?_
      refine sy_nx ?_
      exact sy_next ⟨k + 1, by omega, by rw [List.take_add_one, List.take_add_one, hn, hx, hz, hxz]⟩ (by dsimp only; omega) (by repeat' first | exact Sub.nil | apply Sub.cons | rfl | (simp [lk]; omega)) (fun _ h => h)
    ·
     simp only [decide_eq_true_eq, decide_eq_false_iff_not, Bool.and_eq_true, Bool.or_eq_true, Bool.not_eq_true', Int.not_le, Int.not_lt] at hc1
     obtain rfl : k = xs.length := by omega
     have heq : xs = ys := by
       rw [List.take_length] at hn
       exact hn.trans (by rw [hle]; exact List.take_length)
     refine sy_exit ?_
     refine sy_tx ?_
     refine sy_tx ?_
     refine sy_bx ?_
     refine sy_nx ?_
     refine sy_seq ?_
     refine sy_tx' [0] rfl ?_
     refine sy_sq ?_
     refine sp rfl (PE.assign rfl) rfl ?_
     refine sy_sn ?_
     refine sy_nx ?_
     refine sy_ret ?_
     exact sy_return (vs := [_]) rfl (.cons (RV.tmp rfl) .nil) rfl ⟨by first | (simp only [retV]; rw [decide_eq_true heq]; done) | (simp only [retV]; rw [decide_eq_false hne]), rfl, rfl⟩ (fun _ h => h)

theorem c_Eq_fate (xs ys : List Fat) (a a2 : Option Addr) (c c2 : Nat) (hl : xs.length ≤ 9223372036854775807) (hl2 : ys.length ≤ 9223372036854775807) (H : Heap) (R : Facts) [hR : MemRows a 4 (frows xs) R] [hR2 : MemRows a2 4 (frows ys) R] :
    FnV Try.prog 62 [.slice a xs.length c, .slice a2 ys.length c2] H R (.bool (decide (xs = ys))) := by
  refine fn_of Try.func62 rfl Try.ntmps62 rfl ?_
  refine sy_seq ?_
  refine sy_tx' [0] rfl ?_
  refine sy_sq ?_
  refine sp rfl (PE.assign rfl) rfl ?_
  refine sy_sn ?_
  refine sy_nx ?_
  refine sy_seq ?_
  refine sy_tx' [0, 1, 2, 3] rfl ?_
  refine sy_sq ?_
  refine sp rfl (PE.move rfl) rfl ?_
  refine sy_sq ?_
  refine sp rfl (PE.move rfl) rfl ?_
  refine sy_sq ?_
  refine clV rfl cal117 rfl rfl (c_eq_fate xs ys a a2 c c2 hl hl2 _ _) ?_
  refine sy_sq ?_
  refine sp rfl (PE.assign rfl) rfl ?_
  refine sy_sn ?_
  refine sy_nx ?_
  refine sy_ret ?_
  exact sy_return (vs := [_]) rfl (.cons (RV.tmp rfl) .nil) rfl ⟨rfl, rfl, rfl⟩ (fun _ h => by repeat first | exact h | replace h := St.tail h | replace h := St.ftail h | replace h := St.drop h)

theorem c_stv1 (t : Twn) (p : Fat) (sl : Value) (bq : Nat) (H : Heap) (R : Facts) [hM : Mem1 bq (cel 26 (twl t sl)) H] :
    FnV Try.prog 115 [.agg (frow p).toArray, .pointer (some ⟨bq, 0, none⟩)] H R (.bool (p.1.right t && inb p.2 0 1000000)) := by
  refine fn_of Try.func115 rfl Try.ntmps115 rfl ?_
  refine sy_seq ?_
  refine sy_tx' [0, 1] rfl ?_
  refine sy_sq ?_
  refine bx rfl rfl rfl (fun b2 => ?_)
  refine sy_sq ?_
  refine sp rfl (PE.assign rfl) rfl ?_
  refine sy_sn ?_
  refine sy_nx ?_
  refine sy_seq ?_
  refine sy_tx' [0, 1, 2, 3, 4, 5, 6, 7, 8, 9] rfl ?_
  refine sy_sq ?_
  refine spL rfl rfl (lhA [_, _, _, _, _, _, _, _, _, _, _] ag26 rfl rfl rfl) rfl ?_
  refine sy_sq ?_
  refine sp rfl (PE.fieldAddr fo99_0 rfl) rfl ?_
  refine sy_sq ?_
  refine spL rfl rfl (lhA [_, _, _] ag23 rfl rfl rfl) rfl ?_
  refine sy_sq ?_
  refine clV rfl cal91 rfl rfl (c_right t p.1 _ _ _) ?_
  refine sy_sq ?_
  refine sp rfl (PE.move rfl) rfl ?_
  refine sy_sq ?_
  refine sy_case (t := 8) rfl (fun g8 => ?_) (fun g8 => ?_)
  ·
   refine spG rfl rfl rfl rfl (PE.fieldAddr fo99_1 rfl) rfl ?_
   refine sy_sq ?_
   refine spLG rfl rfl rfl rfl rfl (lh sc3 rfl rfl) rfl ?_
   refine sy_sq ?_
   refine clVG rfl rfl rfl rfl cal92 rfl rfl (c_in _ _ _ _ _) ?_
   refine sy_sq ?_
   refine sp rfl (PE.pick rfl rfl rfl) rfl ?_
   refine sy_sq ?_
   refine sp rfl (PE.assign rfl) rfl ?_
   refine sy_sn ?_
   refine sy_nx ?_
   refine sy_ret ?_
   exact sy_return (vs := [_]) rfl (.cons (RV.tmp rfl) .nil) rfl ⟨by simp_all only [retV, inb, Bool.true_and, Bool.false_and, cond_true, cond_false], rfl, rfl⟩ (fun _ h => by repeat first | exact h | replace h := St.tail h | replace h := St.ftail h | replace h := St.drop h)
  ·
   refine spN rfl rfl rfl rfl rfl rfl rfl rfl ?_
   refine sy_sq ?_
   refine spN rfl rfl rfl rfl rfl rfl rfl rfl ?_
   refine sy_sq ?_
   refine spN rfl rfl rfl rfl rfl rfl rfl rfl ?_
   refine sy_sq ?_
   refine sp rfl (PE.pick rfl rfl rfl) rfl ?_
   refine sy_sq ?_
   refine sp rfl (PE.assign rfl) rfl ?_
   refine sy_sn ?_
   refine sy_nx ?_
   refine sy_ret ?_
   exact sy_return (vs := [_]) rfl (.cons (RV.tmp rfl) .nil) rfl ⟨by simp_all only [retV, inb, Bool.true_and, Bool.false_and, cond_true, cond_false], rfl, rfl⟩ (fun _ h => by repeat first | exact h | replace h := St.tail h | replace h := St.ftail h | replace h := St.drop h)

theorem c_doomed (t : Twn) (s : Sta) (most : Int) (l : List Fat) (kv : KV) (hkl : ∀ e ∈ kv, e.1.length = 3) (hkv : ∀ s : Sta, kv.get [s.stock, s.short, s.dry] = (minB l s).map (Value.int .i64)) (ba oa ca : Nat) (bt bw m : Nat) (y : List Int) (fs : Value) (hy : y.length = 496) (H : Heap) (R : Facts) [hW : Mem1 bw (cel 153 (rcs t (t.sl (some ⟨ba, oa, none⟩) ca) bt y fs m)) H] [hM : Mem1 m (mapO true kv) H] :
    FnV Try.prog 116 [.pointer (some ⟨bw, 0, none⟩), s.v, .int .i64 most] H R (.bool (earlier l s most)) := by
  refine fn_of Try.func116 rfl Try.ntmps116 rfl ?_
  refine sy_seq ?_
  refine sy_tx' [0, 1] rfl ?_
  refine sy_sq ?_
  refine bx rfl rfl rfl (fun b4 => ?_)
  refine sy_sq ?_
  refine sp rfl (PE.assign rfl) rfl ?_
  refine sy_sn ?_
  refine sy_nx ?_
  refine sy_seq ?_
  refine sy_draw [0, 1, 3, 7, 0, 31, 63, 127, 127, 255, 1023] (.tk 0 (.tk 1 (.tk 2 (.ld 3 (.ld 4 (.ld 5 (.tk 6 (.tk 7 (.tk 8 (.tk 9 (.tk 10 .done))))))))))) mixed (by kernel_rfl) ?_
  refine tk rfl (PE.move rfl) rfl ?_
  refine tk rfl (PE.nilCheck rfl) rfl ?_
  refine tk rfl (PE.fieldAddr fo153_4 rfl) rfl ?_
  refine ld rfl rfl (lh sc151 rfl (rc_bads hy)) rfl ?_
  refine ld rfl rfl (lhA [_, _, _] ag23 rfl rfl rfl) rfl ?_
  refine ldK rfl rfl rfl (lk_held kv [s.stock, s.short, s.dry] mke151 (KeyT.of eqf23 noa23) (run_zv zv3) rfl hkl true) rfl ?_
  rw [hkv s]
  refine tk rfl (PE.move rfl) rfl ?_
  refine tk rfl (PE.extract rfl rfl) rfl ?_
  refine tk rfl (PE.extract rfl rfl) rfl ?_
  refine tk rfl (PE.assign rfl) rfl ?_
  refine tk rfl (PE.assign rfl) rfl ?_
  refine sy_dn ?_
  refine sy_nx ?_
  refine sy_seq ?_
  refine sy_tx' [0, 1, 2, 3, 4, 5, 6] rfl ?_
  refine sy_sq ?_
  refine sp rfl (PE.move rfl) rfl ?_
  refine sy_sq ?_
  refine sp rfl (PE.move rfl) rfl ?_
  refine sy_sq ?_
  refine sy_case (t := 19) rfl (fun g19 => ?_) (fun g19 => ?_)
  ·
   obtain ⟨n, hn⟩ := Option.isSome_iff_exists.1 (by simpa using g19)
   rw [hn]
   refine spG rfl rfl rfl rfl (PE.move rfl) rfl ?_
   refine sy_sq ?_
   refine spG rfl rfl rfl rfl (PE.move rfl) rfl ?_
   refine sy_sq ?_
   refine spG rfl rfl rfl rfl (PE.leq rfl rfl) rfl ?_
   refine sy_sq ?_
   refine sp rfl (PE.pick rfl rfl rfl) rfl ?_
   refine sy_sq ?_
   refine sp rfl (PE.assign rfl) rfl ?_
   refine sy_sn ?_
   refine sy_nx ?_
   refine sy_ret ?_
   exact sy_return (vs := [_]) rfl (.cons (RV.tmp rfl) .nil) rfl ⟨by rw [earlier_min, hn]; rfl, rfl, rfl⟩ (fun _ h => by repeat first | exact h | replace h := St.tail h | replace h := St.ftail h | replace h := St.drop h)
  ·
   have hn : minB l s = none := by simpa using g19
   refine spN rfl rfl rfl rfl rfl rfl rfl rfl ?_
   refine sy_sq ?_
   refine spN rfl rfl rfl rfl rfl rfl rfl rfl ?_
   refine sy_sq ?_
   refine spN rfl rfl rfl rfl rfl rfl rfl rfl ?_
   refine sy_sq ?_
   refine sp rfl (PE.pick rfl rfl rfl) rfl ?_
   refine sy_sq ?_
   refine sp rfl (PE.assign rfl) rfl ?_
   refine sy_sn ?_
   refine sy_nx ?_
   refine sy_ret ?_
   exact sy_return (vs := [_]) rfl (.cons (RV.tmp rfl) .nil) rfl ⟨by rw [earlier_min, hn]; rfl, rfl, rfl⟩ (fun _ h => by repeat first | exact h | replace h := St.tail h | replace h := St.ftail h | replace h := St.drop h)

theorem kv_put {kv : KV} {l : List Fat} (hkv : ∀ s : Sta, kv.get [s.stock, s.short, s.dry] = (minB l s).map (Value.int .i64)) {x : Fat} (h : earlier l x.1 x.2 = false) :
    ∀ s : Sta, (kv.put [x.1.stock, x.1.short, x.1.dry] (.int .i64 x.2)).get [s.stock, s.short, s.dry] = (minB (l ++ [x]) s).map (Value.int .i64) := fun s => by
  rw [KV.get_put, minB_snoc]
  unfold minStep
  by_cases e : x.1 = s
  · subst e
    rw [earlier_min] at h
    simp only [decide_true, cond_true, Option.map_some]
    cases hm : minB l x.1 with
    | none => rfl
    | some n => rw [hm] at h; simp only [leO, decide_eq_false_iff_not] at h; simp only []; congr 2; omega
  · have : ¬ [x.1.stock, x.1.short, x.1.dry] = [s.stock, s.short, s.dry] := fun h => e (by
      simp only [List.cons.injEq, and_true] at h
      obtain ⟨⟨a, b, c⟩, d⟩ := x; obtain ⟨a', b', c'⟩ := s
      simp only [Sta.mk.injEq]; exact h)
    simp only [this, e, decide_false, cond_false]; exact hkv s
theorem kv_keep {kv : KV} {l : List Fat} (hkv : ∀ s : Sta, kv.get [s.stock, s.short, s.dry] = (minB l s).map (Value.int .i64)) {x : Fat} (h : earlier l x.1 x.2 = true) :
    ∀ s : Sta, kv.get [s.stock, s.short, s.dry] = (minB (l ++ [x]) s).map (Value.int .i64) := fun s => by
  rw [hkv s, minB_snoc]
  unfold minStep
  by_cases e : x.1 = s
  · subst e
    rw [earlier_min] at h
    cases hm : minB l x.1 with
    | none => rw [hm] at h; cases h
    | some n => rw [hm] at h; simp only [leO, decide_eq_true_eq] at h; simp only [decide_true, cond_true, Option.map_some]; congr 2; omega
  · simp [e]
theorem take_snoc {α : Type} {l : List α} {k : Nat} {x : α} (h : l[k]? = some x) : l.take (k + 1) = l.take k ++ [x] := by rw [List.take_add_one, h]; rfl

theorem c_Starves (t : Twn) (hl : t.rats.length ≤ 9223372036854775807) (l : List Fat) (a : Option Addr) (c : Nat) (hl2 : l.length ≤ 9223372036854775807) (ba oa ca : Nat) (H : Heap) (R : Facts) [hR : MemRows (some ⟨ba, oa, none⟩) 2 (rrows t.rats) R] [hR2 : MemRows a 4 (frows l) R] :
    FnV Try.prog 60 [t.v (t.sl (some ⟨ba, oa, none⟩) ca), .slice a l.length c] H R (.tuple #[.int .i64 (stR t l).1, .int .i64 (stR t l).2]) := by
  refine fn_of Try.func60 rfl Try.ntmps60 rfl ?_
  refine sy_seq ?_
  refine sy_tx' [0, 1, 2] rfl ?_
  refine sy_sq ?_
  refine bx rfl rfl rfl (fun b2 => ?_)
  refine sy_sq ?_
  refine sp rfl (PE.assign rfl) rfl ?_
  refine sy_sq ?_
  refine sp rfl (PE.assign rfl) rfl ?_
  refine sy_sn ?_
  refine sy_nx ?_
  refine sy_seq ?_
  refine sy_tx' [0, 1, 2, 3, 4, 5, 6] rfl ?_
  refine sy_sq ?_
  refine spL rfl rfl (lhA [_, _, _, _, _, _, _, _, _, _, _] ag26 rfl rfl rfl) rfl ?_
  refine sy_sq ?_
  refine cl rfl cal89 rfl rfl (c_opened t hl ba oa ca _ _) ?_
  rintro _ _ _ (⟨hck, rfl, rfl, rfl⟩ | ⟨hck, bw, m, bt, rfl, rfl, rfl⟩)
  ·
   refine sy_sq ?_
   refine sp rfl (PE.move rfl) rfl ?_
   refine sy_sq ?_
   refine sp rfl (PE.extract rfl rfl) rfl ?_
   refine sy_sq ?_
   refine sp rfl (PE.extract rfl rfl) rfl ?_
   refine sy_sq ?_
   refine sp rfl (PE.assign rfl) rfl ?_
   refine sy_sq ?_
   refine sp rfl (PE.assign rfl) rfl ?_
   refine sy_sn ?_
   refine sy_nx ?_
   refine sy_seq ?_
   refine sy_block ?_
   refine sy_seq ?_
   refine sy_tx' [0, 1, 2] rfl ?_
   refine sy_sq ?_
   refine sp rfl (PE.move rfl) rfl ?_
   refine sy_sq ?_
   refine sp rfl (PE.neq rfl rfl) rfl ?_
   refine sy_sq ?_
   refine sp rfl (PE.assign rfl) rfl ?_
   refine sy_sn ?_
   refine sy_nx ?_
   refine sy_condT (congrArg (fun b => some (Value.bool b)) (decide_eq_true hck)) ?_
   refine sy_seq ?_
   refine sy_tx' [0, 1, 2] rfl ?_
   refine sy_sq ?_
   refine sp rfl (PE.move rfl) rfl ?_
   refine sy_sq ?_
   refine sp rfl (PE.assign rfl) rfl ?_
   refine sy_sq ?_
   refine sp rfl (PE.assign rfl) rfl ?_
   refine sy_sn ?_
   refine sy_nx ?_
   refine sy_ret ?_
   refine sy_br ?_
   refine sy_tr ?_
   exact sy_return (vs := [_, _]) rfl (.cons (RV.tmp rfl) (.cons (RV.tmp rfl) .nil)) (by rw [show stR t l = (0, t.check) from by simp [stR, hck]]; rfl) ⟨rfl, rfl, rfl⟩ (fun _ h => by repeat first | exact h | replace h := St.tail h | replace h := St.ftail h | replace h := St.drop h)
  ·
   refine sy_sq ?_
   have hok := (ok_of_check hck).1
   refine sp rfl (PE.move rfl) rfl ?_
   refine sy_sq ?_
   refine sp rfl (PE.extract rfl rfl) rfl ?_
   refine sy_sq ?_
   refine sp rfl (PE.extract rfl rfl) rfl ?_
   refine sy_sq ?_
   refine sp rfl (PE.assign rfl) rfl ?_
   refine sy_sq ?_
   refine sp rfl (PE.assign rfl) rfl ?_
   refine sy_sn ?_
   refine sy_nx ?_
   refine sy_seq ?_
   refine sy_block ?_
   refine sy_seq ?_
   refine sy_tx' [0, 1, 2] rfl ?_
   refine sy_sq ?_
   refine sp rfl (PE.move rfl) rfl ?_
   refine sy_sq ?_
   refine sp rfl (PE.neq rfl rfl) rfl ?_
   refine sy_sq ?_
   refine sp rfl (PE.assign rfl) rfl ?_
   refine sy_sn ?_
   refine sy_nx ?_
   refine sy_condF (rfl) ?_
   refine sy_seq ?_
   refine sy_tx' [0, 1, 2, 3] rfl ?_
   refine sy_sq ?_
   refine sp rfl (PE.move rfl) rfl ?_
   refine sy_sq ?_
   refine sp rfl (PE.lenSl isl96 rfl) rfl ?_
   refine sy_sq ?_
   refine sp rfl (PE.gtr rfl rfl) rfl ?_
   refine sy_sq ?_
   refine sp rfl (PE.assign rfl) rfl ?_
   refine sy_sn ?_
   refine sy_nx ?_
   refine sy_cond rfl (fun hc1 => ?_) (fun hc1 => ?_)
   ·
    try simp only [decide_eq_true_eq, decide_eq_false_iff_not, Bool.and_eq_true, Bool.or_eq_true, Bool.not_eq_true', Int.not_le, Int.not_lt] at hc1
    have hres := st_many hck (l := l) (by omega)
    refine sy_seq ?_
    refine sy_tx' [0, 1] rfl ?_
    refine sy_sq ?_
    refine sp rfl (PE.assign rfl) rfl ?_
    refine sy_sq ?_
    refine sp rfl (PE.assign rfl) rfl ?_
    refine sy_sn ?_
    refine sy_nx ?_
    refine sy_ret ?_
    refine sy_br ?_
    refine sy_tr ?_
    first
      | exact sy_return (vs := [_, _]) rfl (.cons (RV.tmp rfl) (.cons (RV.tmp rfl) .nil)) (by rw [hres]; rfl) ⟨rfl, rfl, rfl⟩ (fun _ h => by repeat first | exact h | replace h := St.tail h | replace h := St.ftail h | replace h := St.drop h)
      | exact sy_return (vs := [_, _]) rfl (.cons (RV.tmp rfl) (.cons (RV.tmp rfl) .nil)) (by rw [show stR t l = (0, 8) from st_bad hck (by omega) hall (fates_bad (pre := []) hx (List.all_eq_false.2 ⟨q, hqm, by rw [List.nil_append, hbad]; simp⟩))]; rfl) ⟨rfl, rfl, rfl⟩ (fun _ h => by repeat first | exact h | replace h := St.tail h | replace h := St.ftail h | replace h := St.drop h)
   ·
    try simp only [decide_eq_true_eq, decide_eq_false_iff_not, Bool.and_eq_true, Bool.or_eq_true, Bool.not_eq_true', Int.not_le, Int.not_lt] at hc1
    
    refine sy_seq ?_
    refine sy_tx' [0, 1, 2, 3, 4] rfl ?_
    refine sy_sq ?_
    refine sp rfl (PE.move rfl) rfl ?_
    refine sy_sq ?_
    refine sp rfl (PE.makeFunc rfl rfl) rfl ?_
    refine sy_sq ?_
    refine clV rfl cal114 rfl rfl (c_every_fate l a c 115 [] [_] (fun p => p.1.right t && inb p.2 0 1000000) cal115 hl2 _ _ (fun _ _ x _ => c_stv1 t x _ b2 _ _)) ?_
    refine sy_sq ?_
    refine sp rfl (PE.not rfl) rfl ?_
    refine sy_sq ?_
    refine sp rfl (PE.assign rfl) rfl ?_
    refine sy_sn ?_
    refine sy_nx ?_
    refine sy_cond rfl (fun hc2 => ?_) (fun hc2 => ?_)
    ·
     have hres := st_rng hck (l := l) (by omega) (by rw [← Bool.not_eq_true']; exact hc2)
     refine sy_seq ?_
     refine sy_tx' [0, 1] rfl ?_
     refine sy_sq ?_
     refine sp rfl (PE.assign rfl) rfl ?_
     refine sy_sq ?_
     refine sp rfl (PE.assign rfl) rfl ?_
     refine sy_sn ?_
     refine sy_nx ?_
     refine sy_ret ?_
     refine sy_br ?_
     refine sy_tr ?_
     first
       | exact sy_return (vs := [_, _]) rfl (.cons (RV.tmp rfl) (.cons (RV.tmp rfl) .nil)) (by rw [hres]; rfl) ⟨rfl, rfl, rfl⟩ (fun _ h => by repeat first | exact h | replace h := St.tail h | replace h := St.ftail h | replace h := St.drop h)
       | exact sy_return (vs := [_, _]) rfl (.cons (RV.tmp rfl) (.cons (RV.tmp rfl) .nil)) (by rw [show stR t l = (0, 8) from st_bad hck (by omega) hall (fates_bad (pre := []) hx (List.all_eq_false.2 ⟨q, hqm, by rw [List.nil_append, hbad]; simp⟩))]; rfl) ⟨rfl, rfl, rfl⟩ (fun _ h => by repeat first | exact h | replace h := St.tail h | replace h := St.ftail h | replace h := St.drop h)
    ·
     have hall : (l.all fun p => p.1.right t && inb p.2 0 1000000) = true := by rw [← Bool.not_eq_false']; exact hc2
     refine sy_skip ?_
     refine sy_bn ?_
     refine sy_nx ?_
     refine sy_seq ?_
     refine sy_seq ?_
     refine sy_tx' [0, 1, 2] rfl ?_
     refine sy_sq ?_
     refine sp rfl (PE.move rfl) rfl ?_
     refine sy_sq ?_
     refine sp rfl (PE.lenSl isl96 rfl) rfl ?_
     refine sy_sq ?_
     refine sp rfl (PE.move rfl) rfl ?_
     refine sy_sn ?_
     refine sy_nx ?_
     refine sy_block ?_
     refine sy_loop (ι := {x : Nat × KV // x.1 ≤ l.length ∧ ((∀ e ∈ x.2, e.1.length = 3) ∧ (∀ s : Sta, x.2.get [s.stock, s.short, s.dry] = (minB (l.take x.1) s).map (Value.int .i64))) ∧ fatesOk t [] (l.take x.1) = true}) (fun x => ⟨[(2, .pointer (some ⟨b2, 0, none⟩)), (6, .pointer (some ⟨bw, 0, none⟩)), (31, .slice a l.length c), (32, .int .i64 l.length), (33, .int .i64 x.1.1)], (m, mapO true (x.1.2)) :: (bw, cel 153 (rcs t (t.sl (some ⟨ba, oa, none⟩) ca) bt (List.replicate 496 0) (.slice none 0 0) m)) :: (b2, cel 26 (twl t (t.sl (some ⟨ba, oa, none⟩) ca))) :: H, RowsA (some ⟨bt, 0, none⟩) 11 [twl t (t.sl (some ⟨ba, oa, none⟩) ca)] :: R⟩) (fun x => l.length - x.1.1) ⟨(0, []), by omega, ⟨by simp, fun s => rfl⟩, rfl⟩ ?_ (fun x => ?_)
     ·
      exact sy_at (by repeat' first | exact Sub.nil | apply Sub.cons | rfl | (simp [lk]; omega)) (fun w h => ((h.pull b2).pull bw).pull m)
     ·
      obtain ⟨⟨k, kv⟩, hk, ⟨hkl, hkv⟩, hfo⟩ := x
      dsimp only at hk hkl hkv hfo ⊢
      refine sy_seq ?_
      refine sy_tx' [0] rfl ?_
      refine sy_sq ?_
      refine sp rfl (PE.lss rfl rfl) rfl ?_
      refine sy_sn ?_
      refine sy_nx ?_
      refine sy_seq ?_
      refine sy_cond rfl (fun hc3 => ?_) (fun hc3 => ?_)
      ·
       try simp only [decide_eq_true_eq, decide_eq_false_iff_not, Bool.and_eq_true, Bool.or_eq_true, Bool.not_eq_true', Int.not_le, Int.not_lt] at hc3
       obtain ⟨x, hx⟩ : ∃ x, l[k]? = some x := ⟨_, List.getElem?_eq_getElem (by omega)⟩
       obtain ⟨hxr, hx0, hx1⟩ := fat_rg hall (List.mem_of_getElem? hx)
       refine sy_addr (a := a) (sz := 4) (rows := frows l) (by intro h0; simp [frows] at h0; simp [h0] at hx) (fun bf of he => ?_)
       subst he
       refine sy_skip ?_
       refine sy_nx ?_
       refine sy_seq ?_
       refine sy_block ?_
       refine sy_seq ?_
       refine sy_tx' [0, 1, 2, 3] rfl ?_
       refine sy_sq ?_
       refine sp rfl (PE.indexAddr el96 rfl rfl (by omega) (by omega)) rfl ?_
       refine sy_sq ?_
       refine spL rfl rfl (lfA (row := frow x) ag99 (fr_get hx) rfl) rfl ?_
       refine sy_sq ?_
       refine alc rfl zl99 rfl (fun b9 => ?_)
       refine sy_sq ?_
       refine sto rfl rfl rfl cn99 rfl rfl rfl rfl ?_
       refine sy_sn ?_
       refine sy_nx ?_
       refine sy_seq ?_
       refine sy_seq ?_
       refine sy_tx' [0, 1, 2, 3] rfl ?_
       refine sy_sq ?_
       refine sp rfl (PE.fieldAddr fo26_8 rfl) rfl ?_
       refine sy_sq ?_
       refine spL rfl rfl (lh sc24 rfl rfl) rfl ?_
       refine sy_sq ?_
       refine sp rfl (PE.lenSl isl24 rfl) rfl ?_
       refine sy_sq ?_
       refine sp rfl (PE.move rfl) rfl ?_
       refine sy_sn ?_
       refine sy_nx ?_
       refine sy_block ?_
       have hlen := hok.many
       refine sy_loop (ι := {j : Nat // j ≤ t.rats.length ∧ ∀ i q, i < j → t.rats[i]? = some q → (!(t.can x.1 q) || (earlier (l.take k) (t.next x.1 q false) x.2 || (decide (x.1.dry < t.run) && earlier (l.take k) (t.next x.1 q true) (x.2 - 1)))) = true}) (fun j => ⟨[(2, .pointer (some ⟨b2, 0, none⟩)), (6, .pointer (some ⟨bw, 0, none⟩)), (31, .slice (some ⟨bf, of, none⟩) l.length c), (32, .int .i64 l.length), (33, .int .i64 k), (9, .pointer (some ⟨b9, 0, none⟩)), (39, .int .i64 t.rats.length), (40, .int .i64 j.1)], (b9, cel 99 (frow x)) :: (m, mapO true (kv)) :: (bw, cel 153 (rcs t (t.sl (some ⟨ba, oa, none⟩) ca) bt (List.replicate 496 0) (.slice none 0 0) m)) :: (b2, cel 26 (twl t (t.sl (some ⟨ba, oa, none⟩) ca))) :: H, RowsA (some ⟨bt, 0, none⟩) 11 [twl t (t.sl (some ⟨ba, oa, none⟩) ca)] :: R⟩) (fun j => t.rats.length - j.1) ⟨0, by omega, by omega⟩ ?_ (fun j => ?_)
       ·
        exact sy_at (by repeat' first | exact Sub.nil | apply Sub.cons | rfl | (simp [lk]; omega)) (fun _ h => h)
       ·
        obtain ⟨j, hj, hno⟩ := j
        dsimp only
        refine sy_seq ?_
        refine sy_tx' [0] rfl ?_
        refine sy_sq ?_
        refine sp rfl (PE.lss rfl rfl) rfl ?_
        refine sy_sn ?_
        refine sy_nx ?_
        refine sy_seq ?_
        refine sy_cond rfl (fun hc4 => ?_) (fun hc4 => ?_)
        ·
         try simp only [decide_eq_true_eq, decide_eq_false_iff_not, Bool.and_eq_true, Bool.or_eq_true, Bool.not_eq_true', Int.not_le, Int.not_lt] at hc4
         obtain ⟨q, hq⟩ : ∃ q, t.rats[j]? = some q := ⟨_, List.getElem?_eq_getElem (by omega)⟩
         have hqm := List.mem_of_getElem? hq
         refine sy_skip ?_
         refine sy_nx ?_
         refine sy_seq ?_
         refine sy_block ?_
         refine sy_seq ?_
         refine sy_tx' [0, 1] rfl ?_
         refine sy_sq ?_
         refine sp rfl (PE.move rfl) rfl ?_
         refine sy_sq ?_
         refine sp rfl (PE.assign rfl) rfl ?_
         refine sy_sn ?_
         refine sy_nx ?_
         refine sy_seq ?_
         refine sy_seq ?_
         refine sy_draw [0, 0, 2, 0, 15, 31, 63, 127, 127, 127, 639, 127, 3967, 127, 8319, 32767, 65535] (.ld 0 (.tk 1 (.ld 2 (.tk 3 (.big 4 (.tk 5 (.tk 6 (.tk 7 (.ld 8 (.tk 9 (.ld 10 (.tk 11 (.tk 13 (.ld 14 (.big 12 (.big 15 (.tk 16 .done))))))))))))))))) mixed (by kernel_rfl) ?_
         refine ld rfl rfl (lhA [_, _, _, _, _, _, _, _, _, _, _] ag26 rfl rfl rfl) rfl ?_
         refine tk rfl (PE.fieldAddr fo99_0 rfl) rfl ?_
         refine ld rfl rfl (lhA [_, _, _] ag23 rfl rfl rfl) rfl ?_
         refine tk rfl (PE.move rfl) rfl ?_
         refine sy_bg ?_
         refine clV rfl cal94 rfl rfl (c_allowed t x.1 j q ba oa ca (by omega) (by simpa using hq) _ _) ?_
         refine bg (fun w hs => ⟨trivial, trivial, trivial⟩) ?_
         refine tk rfl (PE.not rfl) rfl ?_
         refine tk rfl (PE.move rfl) rfl ?_
         refine sy_case (t := 49) rfl (fun g49 => ?_) (fun g49 => ?_)
         ·
          have hcan : t.can x.1 q = false := by simpa using g49
          have hyes : (!(t.can x.1 q) || (earlier (l.take k) (t.next x.1 q false) x.2 || (decide (x.1.dry < t.run) && earlier (l.take k) (t.next x.1 q true) (x.2 - 1)))) = true := by rw [hcan]; rfl
          refine tkN rfl rfl rfl rfl rfl rfl rfl rfl ?_
          refine ldN rfl rfl rfl rfl rfl rfl rfl rfl ?_
          refine tkN rfl rfl rfl rfl rfl rfl rfl rfl ?_
          refine ldN rfl rfl rfl rfl rfl rfl rfl rfl ?_
          refine tkN rfl rfl rfl rfl rfl rfl rfl rfl ?_
          refine tkN rfl rfl rfl rfl rfl rfl rfl rfl ?_
          refine ldN rfl rfl rfl rfl rfl rfl rfl rfl ?_
          refine sy_bg ?_
          refine spN rfl rfl rfl rfl rfl rfl rfl rfl ?_
          refine bg (fun w hs => ⟨((fun _ _ => True.intro)) w hs, trivial, trivial, trivial⟩) ?_
          refine sy_bg ?_
          refine spN rfl rfl rfl rfl rfl rfl rfl rfl ?_
          refine bg (fun w hs => ⟨trivial, trivial⟩) ?_
          refine tk rfl (PE.pick rfl rfl rfl) rfl ?_
          refine sy_dn ?_
          refine sy_nx ?_
          refine sy_condT rfl ?_
          refine sy_exit ?_
          refine sy_tx ?_
          refine sy_bx ?_
          refine sy_nx ?_
          refine sy_tx' [0, 1] rfl ?_
          refine sy_sq ?_
          refine sp rfl (PE.add rfl rfl (by omega)) rfl ?_
          refine sy_sq ?_
          refine sp rfl (PE.move rfl) rfl ?_
          refine sy_sn ?_
          refine sy_nx ?_
          exact sy_next ⟨j + 1, by omega, fun i q' hi hq' => by
            rcases Nat.lt_or_ge i j with h1 | h1
            · exact hno i q' h1 hq'
            · obtain rfl : i = j := by omega
              rw [hq] at hq'; cases hq'; exact hyes⟩ (by dsimp only; omega) (by repeat' first | exact Sub.nil | apply Sub.cons | rfl | (simp [lk]; omega)) (fun _ h => h)
         ·
          have hcan : t.can x.1 q = true := by simpa using g49
          refine tkG rfl rfl rfl rfl (PE.move rfl) rfl ?_
          refine ldG rfl rfl rfl rfl rfl (lhA [_, _, _, _, _, _, _, _, _, _, _] ag26 rfl rfl rfl) rfl ?_
          refine tkG rfl rfl rfl rfl (PE.fieldAddr fo99_0 rfl) rfl ?_
          refine ldG rfl rfl rfl rfl rfl (lhA [_, _, _] ag23 rfl rfl rfl) rfl ?_
          refine tkG rfl rfl rfl rfl (PE.move rfl) rfl ?_
          refine tkG rfl rfl rfl rfl (PE.fieldAddr fo99_1 rfl) rfl ?_
          refine ldG rfl rfl rfl rfl rfl (lh sc3 rfl rfl) rfl ?_
          refine sy_bg ?_
          refine clVG rfl rfl rfl rfl cal102 rfl rfl (c_next t hok x.1 hxr j q false ba oa ca (by omega) (by simpa using hq) (can_le hcan) _ _) ?_
          refine bg (fun w hs => ⟨(lh sc3 rfl rfl) w hs, trivial, trivial, trivial⟩) ?_
          refine sy_bg ?_
          refine clVG rfl rfl rfl rfl cal116 rfl rfl (c_doomed t (t.next x.1 q false) (x.2) (l.take k) kv hkl hkv ba oa ca bt bw m _ _ List.length_replicate _ _) ?_
          refine bg (fun w hs => ⟨trivial, trivial⟩) ?_
          refine tk rfl (PE.pick rfl rfl rfl) rfl ?_
          refine sy_dn ?_
          refine sy_nx ?_
          refine sy_cond rfl (fun hc5 => ?_) (fun hc5 => ?_)
          ·
           have hyes : (!(t.can x.1 q) || (earlier (l.take k) (t.next x.1 q false) x.2 || (decide (x.1.dry < t.run) && earlier (l.take k) (t.next x.1 q true) (x.2 - 1)))) = true := by rw [hc5]; simp
           refine sy_exit ?_
           refine sy_tx ?_
           refine sy_bx ?_
           refine sy_nx ?_
           refine sy_tx' [0, 1] rfl ?_
           refine sy_sq ?_
           refine sp rfl (PE.add rfl rfl (by omega)) rfl ?_
           refine sy_sq ?_
           refine sp rfl (PE.move rfl) rfl ?_
           refine sy_sn ?_
           refine sy_nx ?_
           exact sy_next ⟨j + 1, by omega, fun i q' hi hq' => by
             rcases Nat.lt_or_ge i j with h1 | h1
             · exact hno i q' h1 hq'
             · obtain rfl : i = j := by omega
               rw [hq] at hq'; cases hq'; exact hyes⟩ (by dsimp only; omega) (by repeat' first | exact Sub.nil | apply Sub.cons | rfl | (simp [lk]; omega)) (fun _ h => h)
          ·
           refine sy_skip ?_
           refine sy_nx ?_
           refine sy_seq ?_
           refine sy_draw [0, 1, 3, 7, 15, 0, 32, 127, 255, 511, 1023, 1023, 1023, 5119, 1023, 31743, 1023, 66559, 197631, 524287, 1048575, 2097151] (.tk 0 (.tk 1 (.tk 2 (.tk 3 (.ld 4 (.tk 5 (.ld 6 (.big 7 (.tk 8 (.tk 9 (.tk 10 (.ld 11 (.tk 12 (.ld 13 (.tk 14 (.tk 16 (.ld 17 (.tk 18 (.big 15 (.big 19 (.tk 20 (.tk 21 .done)))))))))))))))))))))) mixed (by kernel_rfl) ?_
           refine tk rfl (PE.move rfl) rfl ?_
           refine tk rfl (PE.nilCheck rfl) rfl ?_
           refine tk rfl (PE.fieldAddr fo153_1 rfl) rfl ?_
           refine tk rfl (PE.fieldAddr fo148_0 rfl) rfl ?_
           refine ld rfl rfl (lh sc146 rfl rfl) rfl ?_
           refine tk rfl (PE.fieldAddr fo99_0 rfl) rfl ?_
           refine ld rfl rfl (lhA [_, _, _] ag23 rfl rfl rfl) rfl ?_
           refine sy_bg ?_
           refine clFV rfl rfl (cal126) rfl rfl (c_may t x.1 ba oa ca bt _ _) ?_
           refine bg (fun w hs => ⟨trivial, trivial, trivial⟩) ?_
           refine tk rfl (PE.not rfl) rfl ?_
           refine tk rfl (PE.move rfl) rfl ?_
           refine sy_case (t := 69) rfl (fun g69 => ?_) (fun g69 => ?_)
           ·
            have hdry : decide (x.1.dry < t.run) = false := by simpa using g69
            have hbad : (!(t.can x.1 q) || (earlier (l.take k) (t.next x.1 q false) x.2 || (decide (x.1.dry < t.run) && earlier (l.take k) (t.next x.1 q true) (x.2 - 1)))) = false := by rw [hcan, hc5, hdry]; rfl
            refine tkN rfl rfl rfl rfl rfl rfl rfl rfl ?_
            refine ldN rfl rfl rfl rfl rfl rfl rfl rfl ?_
            refine tkN rfl rfl rfl rfl rfl rfl rfl rfl ?_
            refine ldN rfl rfl rfl rfl rfl rfl rfl rfl ?_
            refine tkN rfl rfl rfl rfl rfl rfl rfl rfl ?_
            refine tkN rfl rfl rfl rfl rfl rfl rfl rfl ?_
            refine ldN rfl rfl rfl rfl rfl rfl rfl rfl ?_
            refine tkN rfl rfl rfl rfl rfl rfl rfl rfl ?_
            refine sy_bg ?_
            refine spN rfl rfl rfl rfl rfl rfl rfl rfl ?_
            refine bg (fun w hs => ⟨((fun _ _ => True.intro)) w hs, trivial, trivial, trivial⟩) ?_
            refine sy_bg ?_
            refine spN rfl rfl rfl rfl rfl rfl rfl rfl ?_
            refine bg (fun w hs => ⟨trivial, trivial⟩) ?_
            refine tkN rfl rfl rfl rfl rfl rfl rfl rfl ?_
            refine tk rfl (PE.pick rfl rfl rfl) rfl ?_
            refine sy_dn ?_
            refine sy_nx ?_
            refine sy_condT rfl ?_
            refine sy_seq ?_
            refine sy_tx' [0, 1] rfl ?_
            refine sy_sq ?_
            refine sp rfl (PE.assign rfl) rfl ?_
            refine sy_sq ?_
            refine sp rfl (PE.assign rfl) rfl ?_
            refine sy_sn ?_
            refine sy_nx ?_
            refine sy_ret ?_
            refine sy_br ?_
            refine sy_tr ?_
            refine sy_tr ?_
            refine sy_br ?_
            refine sy_tr ?_
            refine sy_br ?_
            refine sy_tr ?_
            refine sy_tr ?_
            refine sy_br ?_
            refine sy_tr ?_
            first
              | exact sy_return (vs := [_, _]) rfl (.cons (RV.tmp rfl) (.cons (RV.tmp rfl) .nil)) (by rw [hres]; rfl) ⟨rfl, rfl, rfl⟩ (fun _ h => by repeat first | exact h | replace h := St.tail h | replace h := St.ftail h | replace h := St.drop h)
              | exact sy_return (vs := [_, _]) rfl (.cons (RV.tmp rfl) (.cons (RV.tmp rfl) .nil)) (by rw [show stR t l = (0, 8) from st_bad hck (by omega) hall (fates_bad (pre := []) hx (List.all_eq_false.2 ⟨q, hqm, by rw [List.nil_append, hbad]; simp⟩))]; rfl) ⟨rfl, rfl, rfl⟩ (fun _ h => by repeat first | exact h | replace h := St.tail h | replace h := St.ftail h | replace h := St.drop h)
           ·
            have hdry : decide (x.1.dry < t.run) = true := by simpa using g69
            refine tkG rfl rfl rfl rfl (PE.move rfl) rfl ?_
            refine ldG rfl rfl rfl rfl rfl (lhA [_, _, _, _, _, _, _, _, _, _, _] ag26 rfl rfl rfl) rfl ?_
            refine tkG rfl rfl rfl rfl (PE.fieldAddr fo99_0 rfl) rfl ?_
            refine ldG rfl rfl rfl rfl rfl (lhA [_, _, _] ag23 rfl rfl rfl) rfl ?_
            refine tkG rfl rfl rfl rfl (PE.move rfl) rfl ?_
            refine tkG rfl rfl rfl rfl (PE.fieldAddr fo99_1 rfl) rfl ?_
            refine ldG rfl rfl rfl rfl rfl (lh sc3 rfl rfl) rfl ?_
            refine tkG rfl rfl rfl rfl (PE.sub rfl rfl (by omega)) rfl ?_
            refine sy_bg ?_
            refine clVG rfl rfl rfl rfl cal102 rfl rfl (c_next t hok x.1 hxr j q true ba oa ca (by omega) (by simpa using hq) (can_le hcan) _ _) ?_
            refine bg (fun w hs => ⟨(lh sc3 rfl rfl) w hs, trivial, trivial, trivial⟩) ?_
            refine sy_bg ?_
            refine clVG rfl rfl rfl rfl cal116 rfl rfl (c_doomed t (t.next x.1 q true) (x.2 - 1) (l.take k) kv hkl hkv ba oa ca bt bw m _ _ List.length_replicate _ _) ?_
            refine bg (fun w hs => ⟨trivial, trivial⟩) ?_
            refine tkG rfl rfl rfl rfl (PE.not rfl) rfl ?_
            refine tk rfl (PE.pick rfl rfl rfl) rfl ?_
            refine sy_dn ?_
            refine sy_nx ?_
            refine sy_cond rfl (fun hc6 => ?_) (fun hc6 => ?_)
            ·
             have hb2 : earlier (l.take k) (t.next x.1 q true) (x.2 - 1) = false := by simpa using hc6
             have hbad : (!(t.can x.1 q) || (earlier (l.take k) (t.next x.1 q false) x.2 || (decide (x.1.dry < t.run) && earlier (l.take k) (t.next x.1 q true) (x.2 - 1)))) = false := by rw [hcan, hc5, hb2]; simp
             refine sy_seq ?_
             refine sy_tx' [0, 1] rfl ?_
             refine sy_sq ?_
             refine sp rfl (PE.assign rfl) rfl ?_
             refine sy_sq ?_
             refine sp rfl (PE.assign rfl) rfl ?_
             refine sy_sn ?_
             refine sy_nx ?_
             refine sy_ret ?_
             refine sy_br ?_
             refine sy_tr ?_
             refine sy_tr ?_
             refine sy_br ?_
             refine sy_tr ?_
             refine sy_br ?_
             refine sy_tr ?_
             refine sy_tr ?_
             refine sy_br ?_
             refine sy_tr ?_
             first
               | exact sy_return (vs := [_, _]) rfl (.cons (RV.tmp rfl) (.cons (RV.tmp rfl) .nil)) (by rw [hres]; rfl) ⟨rfl, rfl, rfl⟩ (fun _ h => by repeat first | exact h | replace h := St.tail h | replace h := St.ftail h | replace h := St.drop h)
               | exact sy_return (vs := [_, _]) rfl (.cons (RV.tmp rfl) (.cons (RV.tmp rfl) .nil)) (by rw [show stR t l = (0, 8) from st_bad hck (by omega) hall (fates_bad (pre := []) hx (List.all_eq_false.2 ⟨q, hqm, by rw [List.nil_append, hbad]; simp⟩))]; rfl) ⟨rfl, rfl, rfl⟩ (fun _ h => by repeat first | exact h | replace h := St.tail h | replace h := St.ftail h | replace h := St.drop h)
            ·
             have hb2 : earlier (l.take k) (t.next x.1 q true) (x.2 - 1) = true := by simpa using hc6
             have hyes : (!(t.can x.1 q) || (earlier (l.take k) (t.next x.1 q false) x.2 || (decide (x.1.dry < t.run) && earlier (l.take k) (t.next x.1 q true) (x.2 - 1)))) = true := by rw [hdry, hb2]; simp
             refine sy_skip ?_
             refine sy_bn ?_
             refine sy_nx ?_
             refine sy_tx' [0, 1] rfl ?_
             refine sy_sq ?_
             refine sp rfl (PE.add rfl rfl (by omega)) rfl ?_
             refine sy_sq ?_
             refine sp rfl (PE.move rfl) rfl ?_
             refine sy_sn ?_
             refine sy_nx ?_
             exact sy_next ⟨j + 1, by omega, fun i q' hi hq' => by
               rcases Nat.lt_or_ge i j with h1 | h1
               · exact hno i q' h1 hq'
               · obtain rfl : i = j := by omega
                 rw [hq] at hq'; cases hq'; exact hyes⟩ (by dsimp only; omega) (by repeat' first | exact Sub.nil | apply Sub.cons | rfl | (simp [lk]; omega)) (fun _ h => h)
        ·
         try simp only [decide_eq_true_eq, decide_eq_false_iff_not, Bool.and_eq_true, Bool.or_eq_true, Bool.not_eq_true', Int.not_le, Int.not_lt] at hc4
         obtain rfl : j = t.rats.length := by omega
         have hfx : fateOk t (l.take k) x = true := List.all_eq_true.2 fun q hq => by
           obtain ⟨i, hi⟩ := List.getElem?_of_mem hq
           exact hno i q (List.getElem?_eq_some_iff.1 hi).1 hi
         refine sy_exit ?_
         refine sy_tx ?_
         refine sy_tx ?_
         refine sy_bx ?_
         refine sy_nx ?_
         refine sy_seq ?_
         refine sy_tx' [0, 1, 2, 3, 4, 5, 6] rfl ?_
         refine sy_sq ?_
         refine sp rfl (PE.move rfl) rfl ?_
         refine sy_sq ?_
         refine sp rfl (PE.fieldAddr fo99_0 rfl) rfl ?_
         refine sy_sq ?_
         refine spL rfl rfl (lhA [_, _, _] ag23 rfl rfl rfl) rfl ?_
         refine sy_sq ?_
         refine sp rfl (PE.fieldAddr fo99_1 rfl) rfl ?_
         refine sy_sq ?_
         refine spL rfl rfl (lh sc3 rfl rfl) rfl ?_
         refine sy_sq ?_
         refine clV rfl cal116 rfl rfl (c_doomed t (x.1) (x.2) (l.take k) kv hkl hkv ba oa ca bt bw m _ _ List.length_replicate _ _) ?_
         refine sy_sq ?_
         refine sp rfl (PE.not rfl) rfl ?_
         refine sy_sn ?_
         refine sy_nx ?_
         refine sy_cond rfl (fun hc7 => ?_) (fun hc7 => ?_)
         ·
          have hd : earlier (l.take k) x.1 x.2 = false := by simpa using hc7
          have hkn := kv_put hkv hd
          refine sy_draw [0, 1, 3, 7, 0, 16, 0, 64, 255] (.tk 0 (.tk 1 (.tk 2 (.ld 3 (.tk 4 (.ld 5 (.tk 6 (.ld 7 (.big 8 .done))))))))) mixed (by kernel_rfl) ?_
          refine tk rfl (PE.move rfl) rfl ?_
          refine tk rfl (PE.nilCheck rfl) rfl ?_
          refine tk rfl (PE.fieldAddr fo153_4 rfl) rfl ?_
          refine ld rfl rfl (lh sc151 rfl (rc_bads List.length_replicate)) rfl ?_
          refine tk rfl (PE.fieldAddr fo99_0 rfl) rfl ?_
          refine ld rfl rfl (lhA [_, _, _] ag23 rfl rfl rfl) rfl ?_
          refine tk rfl (PE.fieldAddr fo99_1 rfl) rfl ?_
          refine ld rfl rfl (lh sc3 rfl rfl) rfl ?_
          refine sy_bg ?_
          refine mpu kv [x.1.stock, x.1.short, x.1.dry] rfl mke151 (KeyT.of eqf23 noa23) rfl rfl rfl rfl hkl ?_
          refine bg (fun w hs => ⟨trivial, trivial, trivial, trivial⟩) ?_
          refine sy_dn ?_
          refine sy_bn ?_
          refine sy_nx ?_
          refine sy_tx' [0, 1] rfl ?_
          refine sy_sq ?_
          refine sp rfl (PE.add rfl rfl (by omega)) rfl ?_
          refine sy_sq ?_
          refine sp rfl (PE.move rfl) rfl ?_
          refine sy_sn ?_
          refine sy_nx ?_
          first
            | exact sy_next ⟨(k + 1, _), by omega, ⟨fun e he => (KV.put_mem he).elim (fun h => by rw [h]; rfl) (hkl e), by dsimp only; rw [take_snoc hx]; exact hkn⟩, fates_take hx hfo hfx⟩ (by dsimp only; omega) (by repeat' first | exact Sub.nil | apply Sub.cons | rfl | (simp [lk]; omega)) (fun w h => h.del b9)
            | exact sy_next ⟨(k + 1, kv), by omega, ⟨hkl, by dsimp only; rw [take_snoc hx]; exact hkn⟩, fates_take hx hfo hfx⟩ (by dsimp only; omega) (by repeat' first | exact Sub.nil | apply Sub.cons | rfl | (simp [lk]; omega)) (fun w h => h.del b9)
         ·
          have hd : earlier (l.take k) x.1 x.2 = true := by simpa using hc7
          have hkn := kv_keep hkv hd
          refine sy_skip ?_
          refine sy_bn ?_
          refine sy_nx ?_
          refine sy_tx' [0, 1] rfl ?_
          refine sy_sq ?_
          refine sp rfl (PE.add rfl rfl (by omega)) rfl ?_
          refine sy_sq ?_
          refine sp rfl (PE.move rfl) rfl ?_
          refine sy_sn ?_
          refine sy_nx ?_
          first
            | exact sy_next ⟨(k + 1, _), by omega, ⟨fun e he => (KV.put_mem he).elim (fun h => by rw [h]; rfl) (hkl e), by dsimp only; rw [take_snoc hx]; exact hkn⟩, fates_take hx hfo hfx⟩ (by dsimp only; omega) (by repeat' first | exact Sub.nil | apply Sub.cons | rfl | (simp [lk]; omega)) (fun w h => h.del b9)
            | exact sy_next ⟨(k + 1, kv), by omega, ⟨hkl, by dsimp only; rw [take_snoc hx]; exact hkn⟩, fates_take hx hfo hfx⟩ (by dsimp only; omega) (by repeat' first | exact Sub.nil | apply Sub.cons | rfl | (simp [lk]; omega)) (fun w h => h.del b9)
      ·
       try simp only [decide_eq_true_eq, decide_eq_false_iff_not, Bool.and_eq_true, Bool.or_eq_true, Bool.not_eq_true', Int.not_le, Int.not_lt] at hc3
       obtain rfl : k = l.length := by omega
       rw [List.take_length] at hfo hkv
       have hst := st_hit hck (by omega) hall hfo
       refine sy_exit ?_
       refine sy_tx ?_
       refine sy_tx ?_
       refine sy_bx ?_
       refine sy_nx ?_
       refine sy_seq ?_
       refine sy_draw [0, 1, 3, 7, 0, 16, 63, 127, 255, 255, 511, 2047] (.tk 0 (.tk 1 (.tk 2 (.ld 3 (.tk 4 (.ld 5 (.ld 6 (.tk 7 (.tk 8 (.tk 9 (.tk 10 (.tk 11 .done)))))))))))) mixed (by kernel_rfl) ?_
       refine tk rfl (PE.move rfl) rfl ?_
       refine tk rfl (PE.nilCheck rfl) rfl ?_
       refine tk rfl (PE.fieldAddr fo153_4 rfl) rfl ?_
       refine ld rfl rfl (lh sc151 rfl (rc_bads List.length_replicate)) rfl ?_
       refine tk rfl (PE.fieldAddr fo26_0 rfl) rfl ?_
       refine ld rfl rfl (lhA [_, _, _] ag23 rfl rfl rfl) rfl ?_
       refine ldK rfl rfl rfl (lk_held kv [t.now.stock, t.now.short, t.now.dry] mke151 (KeyT.of eqf23 noa23) (run_zv zv3) rfl hkl true) rfl ?_
       rw [hkv t.now]
       refine tk rfl (PE.move rfl) rfl ?_
       refine tk rfl (PE.extract rfl rfl) rfl ?_
       refine tk rfl (PE.extract rfl rfl) rfl ?_
       refine tk rfl (PE.assign rfl) rfl ?_
       refine tk rfl (PE.assign rfl) rfl ?_
       refine sy_dn ?_
       refine sy_nx ?_
       refine sy_seq ?_
       refine sy_seq ?_
       refine sy_tx' [0, 1] rfl ?_
       refine sy_sq ?_
       refine sp rfl (PE.move rfl) rfl ?_
       refine sy_sq ?_
       refine sp rfl (PE.not rfl) rfl ?_
       refine sy_sn ?_
       refine sy_nx ?_
       refine sy_cond rfl (fun hc8 => ?_) (fun hc8 => ?_)
       ·
        have hm : minB l t.now = none := by simpa using hc8
        have hres : stR t l = (0, 6) := by rw [hst, hm]
        refine sy_seq ?_
        refine sy_tx' [0, 1] rfl ?_
        refine sy_sq ?_
        refine sp rfl (PE.assign rfl) rfl ?_
        refine sy_sq ?_
        refine sp rfl (PE.assign rfl) rfl ?_
        refine sy_sn ?_
        refine sy_nx ?_
        refine sy_ret ?_
        refine sy_tr ?_
        first
          | exact sy_return (vs := [_, _]) rfl (.cons (RV.tmp rfl) (.cons (RV.tmp rfl) .nil)) (by rw [hres]; rfl) ⟨rfl, rfl, rfl⟩ (fun _ h => by repeat first | exact h | replace h := St.tail h | replace h := St.ftail h | replace h := St.drop h)
          | exact sy_return (vs := [_, _]) rfl (.cons (RV.tmp rfl) (.cons (RV.tmp rfl) .nil)) (by rw [show stR t l = (0, 8) from st_bad hck (by omega) hall (fates_bad (pre := []) hx (List.all_eq_false.2 ⟨q, hqm, by rw [List.nil_append, hbad]; simp⟩))]; rfl) ⟨rfl, rfl, rfl⟩ (fun _ h => by repeat first | exact h | replace h := St.tail h | replace h := St.ftail h | replace h := St.drop h)
       ·
        obtain ⟨n, hm⟩ : ∃ n, minB l t.now = some n := Option.isSome_iff_exists.1 (by simpa using hc8)
        have hres : stR t l = (n, 0) := by rw [hst, hm]
        rw [hm]
        refine sy_skip ?_
        refine sy_nx ?_
        refine sy_seq ?_
        refine sy_tx' [0, 1, 2] rfl ?_
        refine sy_sq ?_
        refine sp rfl (PE.move rfl) rfl ?_
        refine sy_sq ?_
        refine sp rfl (PE.assign rfl) rfl ?_
        refine sy_sq ?_
        refine sp rfl (PE.assign rfl) rfl ?_
        refine sy_sn ?_
        refine sy_nx ?_
        refine sy_ret ?_
        first
          | exact sy_return (vs := [_, _]) rfl (.cons (RV.tmp rfl) (.cons (RV.tmp rfl) .nil)) (by rw [hres]; rfl) ⟨rfl, rfl, rfl⟩ (fun _ h => by repeat first | exact h | replace h := St.tail h | replace h := St.ftail h | replace h := St.drop h)
          | exact sy_return (vs := [_, _]) rfl (.cons (RV.tmp rfl) (.cons (RV.tmp rfl) .nil)) (by rw [show stR t l = (0, 8) from st_bad hck (by omega) hall (fates_bad (pre := []) hx (List.all_eq_false.2 ⟨q, hqm, by rw [List.nil_append, hbad]; simp⟩))]; rfl) ⟨rfl, rfl, rfl⟩ (fun _ h => by repeat first | exact h | replace h := St.tail h | replace h := St.ftail h | replace h := St.drop h)
end Go.Proofs.Ytaldphhdkmchhaa
