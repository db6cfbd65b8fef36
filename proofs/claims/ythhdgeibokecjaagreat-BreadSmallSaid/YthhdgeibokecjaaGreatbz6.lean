/- Walks of the functions of the program, and the laws that join them: what the last theorem of this claim needs, in order. -/
import Derived.Test.YthhdgeibokecjaaGreatbz5
namespace Go.Proofs.YthhdgeibokecjaaGreat.Bd
set_option linter.unusedSimpArgs false
set_option linter.unusedVariables false
open Go
theorem ZbI : Z5Y Tryz.prog 41 = some 4 := by kernel_rfl
theorem Zd7 : cal Tryz.prog 101 = true := by kernel_rfl
theorem Zdb : cal Tryz.prog 102 = true := by kernel_rfl
theorem Z8R : cal Tryz.prog 103 = true := by kernel_rfl
theorem ZdD : cal Tryz.prog 104 = true := by kernel_rfl
theorem ZdH : cal Tryz.prog 111 = true := by kernel_rfl
theorem Ze5 : cal Tryz.prog 112 = true := by kernel_rfl
theorem ZdW : cal Tryz.prog 115 = true := by kernel_rfl
theorem Zec : Z1c Tryz.prog 41 = some 4 := by kernel_rfl
theorem Z8H : elN Tryz.prog 33 = some 4 := by kernel_rfl
theorem ZeJ : eqB Tryz.prog 10000 41 = some (true, 4) := by kernel_rfl
theorem ZeT : Tryz.prog.eqGuardType Tryz.prog.depth 41 = false := by kernel_rfl
theorem Z2E : Z1n Tryz.prog 41 0 = some 0 := by kernel_rfl
theorem Z4a : Z1n Tryz.prog 41 1 = some 3 := by kernel_rfl
theorem Z2Q : Z6N Tryz.prog 33 = true := by kernel_rfl
theorem ZeE : Z47 Tryz.prog 162 = true := by kernel_rfl
theorem Z7q {a : Option Addr} {sz : Nat} {rows : List (List Value)} {w : World} (h : RowsA a sz rows w) (ha : a.isNone = true) : rows = [] := by
  false_or_by_contra
  rename_i h0
  obtain ⟨b, off, e⟩ := Z37 h h0
  rw [e] at ha; cases ha
abbrev Fat := Sta × Int
theorem Z4A {l : List Fat} {k : Nat} {x : Fat} (h : l[k]? = some x) : (Zo l)[k]? = some (Z2j x) := by simp [Zo, h]
theorem Z1x (t : Twn) (pre : List Fat) (p : Fat) : Z30 t pre p = (Z2G t p.1).all fun q => Zs pre (t.next p.1 q false) p.2 || (decide (p.1.dry < t.run) && Zs pre (t.next p.1 q true) (p.2 - 1)) := by
  unfold Z30 Z2G
  induction t.rats with
  | nil => rfl
  | cons q l ih =>
    rw [List.all_cons, List.filter_cons, ih]
    cases t.can p.1 q <;> simp
theorem Z0T {t : Twn} {l : List Fat} {k : Nat} {x : Fat} (hx : l[k]? = some x) (h : Z0e t [] (l.take k) = true) (h2 : Z30 t (l.take k) x = true) : Z0e t [] (l.take (k + 1)) = true := by
  rw [List.take_add_one, hx, Option.toList_some, Z3x, h, List.nil_append, h2]; rfl
theorem Zbz {t : Twn} {l : List Fat} (h0 : t.check = 0) (h1 : l.length ≤ 496) (h2 : (l.all fun p => p.1.right t && inb p.2 0 1000000) = true) (h3 : Z0e t [] l = true) : stR t l = match Z3d l t.now with | none => (0, 6) | some n => (n, 0) := by
  unfold stR; rw [h2, h3, decide_eq_false (show ¬ 496 < l.length by omega)]; simp only [h0]; cases Z3d l t.now <;> rfl
theorem Z1P {t : Twn} {l : List Fat} (h0 : t.check = 0) (h1 : l.length ≤ 496) (h2 : (l.all fun p => p.1.right t && inb p.2 0 1000000) = true) (h3 : Z0e t [] l = false) : stR t l = (0, 8) := by
  unfold stR; rw [h2, h3, decide_eq_false (show ¬ 496 < l.length by omega)]; simp [h0]
theorem Z3M {t : Twn} {l : List Fat} (h0 : t.check = 0) (h1 : l.length ≤ 496) (h2 : (l.all fun p => p.1.right t && inb p.2 0 1000000) = false) : stR t l = (0, 3) := by
  unfold stR; rw [h2, decide_eq_false (show ¬ 496 < l.length by omega)]; simp [h0]
theorem Z8X {t : Twn} {l : List Fat} (h0 : t.check = 0) (h1 : 496 < l.length) : stR t l = (0, 2) := by
  unfold stR; rw [decide_eq_true h1]; simp [h0]
theorem Z9v {t : Twn} {l : List Fat} (h2 : (l.all fun p => p.1.right t && inb p.2 0 1000000) = true) {x : Fat} (hx : x ∈ l) : x.1.right t = true ∧ 0 ≤ x.2 ∧ x.2 ≤ 1000000 := by
  have := List.all_eq_true.1 h2 x hx
  simpa [inb, and_assoc] using this
theorem Z8y (xs : List Fat) (a : Option Addr) (c g : Nat) (fst cap : List Value) (p : Fat → Bool) (hg : cal Tryz.prog g = true) (hl : xs.length ≤ 9223372036854775807) (H : Zj) (R : Z9) [hR : MemRows a 4 (Zo xs) R] (hp : ∀ x, x ∈ xs → FnV Tryz.prog g (fst ++ [.agg (Z2j x).toArray] ++ cap) H R (.bool (p x))) :
    FnV Tryz.prog 115 [.slice a xs.length c, .func (.func g) fst.toArray cap.toArray] H R (.int .i64 (match xs.findIdx? p with | some k => (k : Int) | none => -1)) := by
  refine Zq Tryz.func115 rfl Tryz.ntmps115 rfl ?_
  refine Z0 ?_
  refine Z1 [0] rfl ?_
  refine sp rfl (PE.assign rfl) rfl ?_
  refine Z0 ?_
  refine Z0 ?_
  refine Z1 [0, 1, 2] rfl ?_
  refine sp rfl (PE.move rfl) rfl ?_
  refine sp rfl (PE.lenSl Z2Q rfl) rfl ?_
  refine sp rfl (PE.move rfl) rfl ?_
  refine Z7 ?_
  refine Zn (ι := {k : Nat // k ≤ xs.length ∧ ∀ x ∈ xs.take k, p x = false}) (fun k => ⟨[(0, .slice a xs.length c), (1, .func (.func g) fst.toArray cap.toArray), (7, .int .i64 xs.length), (8, .int .i64 k.1)], H, R⟩) (fun k => xs.length - k.1) ⟨0, by simp⟩ ?_ (fun k => ?_)
  ·
   exact Z0i (by repeat' first | exact Sub.nil | apply Sub.cons | rfl | (simp [lk]; omega)) (fun _ h => h)
  ·
   obtain ⟨k, hk, hn⟩ := k
   dsimp only
   refine Z0 ?_
   refine Z1 [0] rfl ?_
   refine sp rfl (PE.lss rfl rfl) rfl ?_
   refine Z0 ?_
   refine Z5 rfl (fun hc0 => ?_) (fun hc0 => ?_)
   ·
    simp only [decide_eq_true_eq, decide_eq_false_iff_not, Bool.and_eq_true, Bool.or_eq_true, Bool.not_eq_true', Int.not_le, Int.not_lt] at hc0
    obtain ⟨x, hx⟩ : ∃ x, xs[k]? = some x := ⟨_, List.getElem?_eq_getElem (by omega)⟩
    have hxm := List.mem_of_getElem? hx
    refine Zw (a := a) (sz := 4) (rows := Zo xs) (by cases xs <;> simp_all [Zo]) (fun b off he => ?_)
    subst he
    refine Z3 ?_
    refine Z0 ?_
    refine Z7 ?_
    refine Z0 ?_
    refine Z1 [0, 1] rfl ?_
    refine sp rfl (PE.move rfl) rfl ?_
    refine sp rfl (PE.assign rfl) rfl ?_
    refine Z0 ?_
    refine Z1 [0, 1, 2, 3, 4, 5] rfl ?_
    refine sp rfl (PE.move rfl) rfl ?_
    refine sp rfl (PE.move rfl) rfl ?_
    refine sp rfl (PE.move rfl) rfl ?_
    refine sp rfl (PE.indexAddr Z8H rfl rfl (by omega) (by omega)) rfl ?_
    refine spL rfl rfl (lfA ZbI (row := Z2j x) (by simp [Zo, hx]) rfl) rfl ?_
    refine ZaU rfl rfl (hg) rfl rfl (hp x hxm) ?_
    refine Z5 rfl (fun hc1 => ?_) (fun hc1 => ?_)
    ·
     refine Z0 ?_
     refine Z1 [0, 1] rfl ?_
     refine sp rfl (PE.move rfl) rfl ?_
     refine sp rfl (PE.assign rfl) rfl ?_
     refine Z4 ?_
     first | (exact Z2 (vs := [_]) rfl (.cons (RV.tmp rfl) .nil) rfl ⟨by rw [Z2t hx hn hc1]; rfl, rfl, rfl⟩ (fun _ h => h)) | (exact Z2 (vs := [_]) rfl (.cons (RV.tmp rfl) .nil) rfl ⟨by rw [Z1K (by simpa using hn)]; rfl, rfl, rfl⟩ (fun _ h => h))
    ·
     refine Z3 ?_
     refine Z1 [0, 1] rfl ?_
     refine sp rfl (PE.add rfl rfl (by omega)) rfl ?_
     refine sp rfl (PE.move rfl) rfl ?_
     exact Zb ⟨k + 1, by omega, Z4k hx hn hc1⟩ (by dsimp only; omega) (by repeat' first | exact Sub.nil | apply Sub.cons | rfl | (simp [lk]; omega)) (fun _ h => h)
   ·
    simp only [decide_eq_true_eq, decide_eq_false_iff_not, Bool.and_eq_true, Bool.or_eq_true, Bool.not_eq_true', Int.not_le, Int.not_lt] at hc0
    obtain rfl : k = xs.length := by omega
    refine Zk ?_
    refine Zl ?_
    refine Zl ?_
    refine ZH ?_
    refine Z0 ?_
    refine Z1 [0] rfl ?_
    refine sp rfl (PE.assign rfl) rfl ?_
    refine Z4 ?_
    first | (exact Z2 (vs := [_]) rfl (.cons (RV.tmp rfl) .nil) rfl ⟨by rw [Z2t hx hn hc1]; rfl, rfl, rfl⟩ (fun _ h => h)) | (exact Z2 (vs := [_]) rfl (.cons (RV.tmp rfl) .nil) rfl ⟨by rw [Z1K (by simpa using hn)]; rfl, rfl, rfl⟩ (fun _ h => h))
theorem Z8t (xs : List Fat) (a : Option Addr) (c g : Nat) (fst cap : List Value) (p : Fat → Bool) (hg : cal Tryz.prog g = true) (hl : xs.length ≤ 9223372036854775807) (H : Zj) (R : Z9) [hR : MemRows a 4 (Zo xs) R] (hp : ∀ x, x ∈ xs → FnV Tryz.prog g (fst ++ [.agg (Z2j x).toArray] ++ cap) H R (.bool (p x))) :
    FnV Tryz.prog 111 [.slice a xs.length c, .func (.func g) fst.toArray cap.toArray] H R (.bool (xs.any p)) := by
  refine Zq Tryz.func111 rfl Tryz.ntmps111 rfl ?_
  refine Z0 ?_
  refine Z1 [0] rfl ?_
  refine sp rfl (PE.assign rfl) rfl ?_
  refine Z0 ?_
  refine Z1 [0, 1, 2, 3, 4] rfl ?_
  refine sp rfl (PE.move rfl) rfl ?_
  refine sp rfl (PE.move rfl) rfl ?_
  refine clV rfl ZdW rfl rfl (Z8y xs a c g fst cap p hg hl _ _ hp) ?_
  refine sp rfl (PE.geq rfl rfl) rfl ?_
  refine sp rfl (PE.assign rfl) rfl ?_
  refine Z4 ?_
  exact Z2 (vs := [_]) rfl (.cons (RV.tmp rfl) .nil) rfl ⟨by simp only [ZL]; exact Z7f _ _, rfl, rfl⟩ drp
theorem Z8g (x : Fat) (g bf : Nat) (fst cap : List Value) (p : Bool) (hg : cal Tryz.prog g = true) (H : Zj) (R : Z9) [hM : Mem1 bf (cel 162 [.func (.func g) fst.toArray cap.toArray]) H] (hp : ∀ b, FnV Tryz.prog g (fst ++ [.agg (Z2j x).toArray] ++ cap) ((b, cel 41 (Z2j x)) :: H) R (.bool p)) :
    FnV Tryz.prog 112 [.agg (Z2j x).toArray, .pointer (some ⟨bf, 0, none⟩)] H R (.bool !p) := by
  refine Zq Tryz.func112 rfl Tryz.ntmps112 rfl ?_
  refine Z0 ?_
  refine Z1 [0, 1] rfl ?_
  refine bx rfl rfl rfl (fun b2 => ?_)
  refine sp rfl (PE.assign rfl) rfl ?_
  refine Z0 ?_
  refine Z1 [0, 1, 2, 3, 4] rfl ?_
  refine spL rfl rfl (lh ZeE rfl rfl) rfl ?_
  refine spL rfl rfl (lhA [_, _, _, _] ZbI rfl rfl rfl) rfl ?_
  refine ZaU rfl rfl (hg) rfl rfl (hp _) ?_
  refine sp rfl (PE.not rfl) rfl ?_
  refine sp rfl (PE.assign rfl) rfl ?_
  refine Z4 ?_
  exact Z2 (vs := [_]) rfl (.cons (RV.tmp rfl) .nil) rfl ⟨rfl, rfl, rfl⟩ drp
theorem Z6p (xs : List Fat) (a : Option Addr) (c g : Nat) (fst cap : List Value) (p : Fat → Bool) (hg : cal Tryz.prog g = true) (hl : xs.length ≤ 9223372036854775807) (H : Zj) (R : Z9) [hR : MemRows a 4 (Zo xs) R] (hp : ∀ b b2 x, x ∈ xs → FnV Tryz.prog g (fst ++ [.agg (Z2j x).toArray] ++ cap) ((b2, cel 41 (Z2j x)) :: (b, cel 162 [.func (.func g) fst.toArray cap.toArray]) :: H) R (.bool (p x))) :
    FnV Tryz.prog 101 [.slice a xs.length c, .func (.func g) fst.toArray cap.toArray] H R (.bool (xs.all p)) := by
  refine Zq Tryz.func101 rfl Tryz.ntmps101 rfl ?_
  refine Z0 ?_
  refine Z1 [0, 1] rfl ?_
  refine bx rfl rfl rfl (fun b3 => ?_)
  refine sp rfl (PE.assign rfl) rfl ?_
  refine Z0 ?_
  refine Z1 [0, 1, 2, 3, 4] rfl ?_
  refine sp rfl (PE.move rfl) rfl ?_
  refine sp rfl (PE.makeFunc rfl rfl) rfl ?_
  refine clV rfl ZdH rfl rfl (Z8t xs a c 112 [] [_] (fun x => !p x) Ze5 hl _ _ (hp := fun x hx => Z8g x g _ fst cap (p x) hg _ _ (hp := fun b => hp _ _ x hx))) ?_
  refine sp rfl (PE.not rfl) rfl ?_
  refine sp rfl (PE.assign rfl) rfl ?_
  refine Z4 ?_
  exact Z2 (vs := [_]) rfl (.cons (RV.tmp rfl) .nil) rfl ⟨by simp only [ZL]; rw [Z2H], rfl, rfl⟩ drp
theorem Z07 (xs : List Fat) (a : Option Addr) (c : Nat) (hl : xs.length ≤ 1000000) (H : Zj) (R : Z9) [hR : MemRows a 4 (Zo xs) R] :
    Fn Tryz.prog 8 [.slice a xs.length c] H R (fun v H' R' => ∃ o : OSl 41 4 (Zo xs), v = o.fs ∧ o.here ∧ H' = o.G ++ H ∧ R' = R) := by
  refine Zq Tryz.func8 rfl Tryz.ntmps8 rfl ?_
  refine Z0 ?_
  refine Z1 [0] rfl ?_
  refine sp rfl (PE.assign rfl) rfl ?_
  refine Z0 ?_
  refine Z1 [0, 1, 2, 3, 4, 5] rfl ?_
  refine sp rfl (PE.move rfl) rfl ?_
  refine sp rfl (PE.lenSl Z2Q rfl) rfl ?_
  refine mkO rfl Z4T Z4S rfl rfl ⟨by omega, by omega⟩ rfl (fun o ho => ?_)
  refine sp rfl (PE.move rfl) rfl ?_
  refine Zbg (news := Zo xs) o rfl Z4T rfl rfl (Z6F) (by simp [Zo]) (by simp [Z0C, Zo, Z2j, Value.oneCell']) ⟨by simp [Zo]; omega, by simp [Zo]; omega⟩ rfl ho (fun o2 ho2 => ?_)
  refine sp rfl (PE.assign rfl) rfl ?_
  refine Z4 ?_
  exact Z2 (vs := [_]) rfl (.cons (RV.tmp rfl) .nil) rfl ⟨o2.cast (by simp), rfl, ho2, rfl, rfl⟩ (fun _ h => h)
theorem Z9j (xs ys : List Fat) (a a2 : Option Addr) (c c2 : Nat) (hl : xs.length ≤ 9223372036854775807) (hl2 : ys.length ≤ 9223372036854775807) (H : Zj) (R : Z9) [hR : MemRows a 4 (Zo xs) R] [hR2 : MemRows a2 4 (Zo ys) R] :
    FnV Tryz.prog 104 [.slice a xs.length c, .slice a2 ys.length c2] H R (.bool (decide (xs = ys))) := by
  refine Zq Tryz.func104 rfl Tryz.ntmps104 rfl ?_
  refine Z0 ?_
  refine Z1 [0] rfl ?_
  refine sp rfl (PE.assign rfl) rfl ?_
  refine Z0 ?_
  refine Z0 ?_
  refine Z1 [0, 1, 2, 3, 4] rfl ?_
  refine sp rfl (PE.move rfl) rfl ?_
  refine sp rfl (PE.lenSl Z2Q rfl) rfl ?_
  refine sp rfl (PE.move rfl) rfl ?_
  refine sp rfl (PE.lenSl Z2Q rfl) rfl ?_
  refine sp rfl (PE.neq rfl rfl) rfl ?_
  refine Z5 rfl (fun hc0 => ?_) (fun hc0 => ?_)
  ·
   have hne : xs ≠ ys := fun e => by subst e; simp at hc0
   refine Z0 ?_
   refine Z1 [0] rfl ?_
   refine sp rfl (PE.assign rfl) rfl ?_
   refine Z4 ?_
   exact Z2 (vs := [_]) rfl (.cons (RV.tmp rfl) .nil) rfl ⟨by first | (simp only [ZL]; rw [decide_eq_true heq]; done) | (simp only [ZL]; rw [decide_eq_false hne]), rfl, rfl⟩ (fun _ h => h)
  ·
   have hle : xs.length = ys.length := by simp only [decide_eq_true_eq, decide_eq_false_iff_not, Bool.and_eq_true, Bool.or_eq_true, Bool.not_eq_true', Int.not_le, Int.not_lt] at hc0; omega
   refine Z3 ?_
   refine Z0 ?_
   refine Z0 ?_
   refine Z1 [0, 1, 2] rfl ?_
   refine sp rfl (PE.move rfl) rfl ?_
   refine sp rfl (PE.lenSl Z2Q rfl) rfl ?_
   refine sp rfl (PE.move rfl) rfl ?_
   refine Z7 ?_
   refine Zn (ι := {k : Nat // k ≤ xs.length ∧ xs.take k = ys.take k}) (fun k => ⟨[(0, .slice a xs.length c), (1, .slice a2 ys.length c2), (12, .int .i64 xs.length), (13, .int .i64 k.1)], H, R⟩) (fun k => xs.length - k.1) ⟨0, by simp⟩ ?_ (fun k => ?_)
   ·
    exact Z0i (by repeat' first | exact Sub.nil | apply Sub.cons | rfl | (simp [lk]; omega)) (fun _ h => h)
   ·
    obtain ⟨k, hk, hn⟩ := k
    dsimp only
    refine Z0 ?_
    refine Z1 [0] rfl ?_
    refine sp rfl (PE.lss rfl rfl) rfl ?_
    refine Z0 ?_
    refine Z5 rfl (fun hc1 => ?_) (fun hc1 => ?_)
    ·
     simp only [decide_eq_true_eq, decide_eq_false_iff_not, Bool.and_eq_true, Bool.or_eq_true, Bool.not_eq_true', Int.not_le, Int.not_lt] at hc1
     obtain ⟨x, hx⟩ : ∃ x, xs[k]? = some x := ⟨_, List.getElem?_eq_getElem (by omega)⟩
     obtain ⟨z, hz⟩ : ∃ z, ys[k]? = some z := ⟨_, List.getElem?_eq_getElem (by omega)⟩
     refine Zw (a := a) (sz := 4) (rows := Zo xs) (by intro h0; simp [Zo] at h0; simp [h0] at hx) (fun b off he => ?_)
     subst he
     refine Zw (a := a2) (sz := 4) (rows := Zo ys) (by intro h0; simp [Zo] at h0; simp [h0] at hz) (fun b2 off2 he => ?_)
     subst he
     refine Z3 ?_
     refine Z0 ?_
     refine Z7 ?_
     refine Z0 ?_
     refine Z1 [0, 1] rfl ?_
     refine sp rfl (PE.move rfl) rfl ?_
     refine sp rfl (PE.assign rfl) rfl ?_
     refine Z0 ?_
     refine Ze [0, 0, 3, 7, 0, 0, 48, 112, 255] (.tk 0 (.tk 1 (.tk 2 (.ld 3 (.tk 4 (.tk 5 (.tk 6 (.ld 7 (.tk 8 .done))))))))) Zy (by kernel_rfl) ?_
     refine tk rfl (PE.move rfl) rfl ?_
     refine tk rfl (PE.move rfl) rfl ?_
     refine tk rfl (PE.indexAddr Z8H rfl rfl (by omega) (by omega)) rfl ?_
     refine ld rfl rfl (lfA ZbI (row := Z2j x) (by simp [Zo, hx]) rfl) rfl ?_
     refine tk rfl (PE.move rfl) rfl ?_
     refine tk rfl (PE.move rfl) rfl ?_
     refine tk rfl (PE.indexAddr Z8H rfl rfl (by omega) (by omega)) rfl ?_
     refine ld rfl rfl (lfA ZbI (row := Z2j z) (by simp [Zo, hz]) rfl) rfl ?_
     refine tk rfl (PE.neqAgg [x.1.stock, x.1.short, x.1.dry, x.2] [z.1.stock, z.1.short, z.1.dry, z.2] (Z13 10000 41 true 4 ZeJ) ZeT rfl rfl rfl rfl) rfl ?_
     refine Z5 rfl (fun hc2 => ?_) (fun hc2 => ?_)
     ·
      have hne : xs ≠ ys := fun e => by subst e; rw [hx] at hz; cases hz; simp at hc2
      refine Z0 ?_
      refine Z1 [0] rfl ?_
      refine sp rfl (PE.assign rfl) rfl ?_
      refine Z4 ?_
      exact Z2 (vs := [_]) rfl (.cons (RV.tmp rfl) .nil) rfl ⟨by first | (simp only [ZL]; rw [decide_eq_true heq]; done) | (simp only [ZL]; rw [decide_eq_false hne]), rfl, rfl⟩ (fun _ h => h)
     ·
      have hxz : x = z := by obtain ⟨⟨x1, x2, x3⟩, x4⟩ := x; obtain ⟨⟨z1, z2, z3⟩, z4⟩ := z; simpa [and_assoc] using hc2
      refine Z3 ?_
      refine Z1 [0, 1] rfl ?_
      refine sp rfl (PE.add rfl rfl (by omega)) rfl ?_
      refine sp rfl (PE.move rfl) rfl ?_
      exact Zb ⟨k + 1, by omega, by rw [List.take_add_one, List.take_add_one, hn, hx, hz, hxz]⟩ (by dsimp only; omega) (by repeat' first | exact Sub.nil | apply Sub.cons | rfl | (simp [lk]; omega)) (fun _ h => h)
    ·
     simp only [decide_eq_true_eq, decide_eq_false_iff_not, Bool.and_eq_true, Bool.or_eq_true, Bool.not_eq_true', Int.not_le, Int.not_lt] at hc1
     obtain rfl : k = xs.length := by omega
     have heq : xs = ys := by
       rw [List.take_length] at hn
       exact hn.trans (by rw [hle]; exact List.take_length)
     refine Zk ?_
     refine Zl ?_
     refine Zl ?_
     refine ZH ?_
     refine Z0 ?_
     refine Z1 [0] rfl ?_
     refine sp rfl (PE.assign rfl) rfl ?_
     refine Z4 ?_
     exact Z2 (vs := [_]) rfl (.cons (RV.tmp rfl) .nil) rfl ⟨by first | (simp only [ZL]; rw [decide_eq_true heq]; done) | (simp only [ZL]; rw [decide_eq_false hne]), rfl, rfl⟩ (fun _ h => h)
theorem Zad (xs ys : List Fat) (a a2 : Option Addr) (c c2 : Nat) (hl : xs.length ≤ 9223372036854775807) (hl2 : ys.length ≤ 9223372036854775807) (H : Zj) (R : Z9) [hR : MemRows a 4 (Zo xs) R] [hR2 : MemRows a2 4 (Zo ys) R] :
    FnV Tryz.prog 69 [.slice a xs.length c, .slice a2 ys.length c2] H R (.bool (decide (xs = ys))) := by
  refine Zq Tryz.func69 rfl Tryz.ntmps69 rfl ?_
  refine Z0 ?_
  refine Z1 [0] rfl ?_
  refine sp rfl (PE.assign rfl) rfl ?_
  refine Z0 ?_
  refine Z1 [0, 1, 2, 3] rfl ?_
  refine sp rfl (PE.move rfl) rfl ?_
  refine sp rfl (PE.move rfl) rfl ?_
  refine clV rfl ZdD rfl rfl (Z9j xs ys a a2 c c2 hl hl2 _ _) ?_
  refine sp rfl (PE.assign rfl) rfl ?_
  refine Z4 ?_
  exact Z2 (vs := [_]) rfl (.cons (RV.tmp rfl) .nil) rfl ⟨rfl, rfl, rfl⟩ drp
theorem ZcY (t : Twn) (p : Fat) (sl : Value) (bq : Nat) (H : Zj) (R : Z9) [hM : Mem1 bq (cel 27 (twl t sl)) H] :
    FnV Tryz.prog 102 [.agg (Z2j p).toArray, .pointer (some ⟨bq, 0, none⟩)] H R (.bool (p.1.right t && inb p.2 0 1000000)) := by
  refine Zq Tryz.func102 rfl Tryz.ntmps102 rfl ?_
  refine Z0 ?_
  refine Z1 [0, 1] rfl ?_
  refine bx rfl rfl rfl (fun b2 => ?_)
  refine sp rfl (PE.assign rfl) rfl ?_
  refine Z0 ?_
  refine Z1 [0, 1, 2, 3, 4, 5, 6, 7, 8, 9] rfl ?_
  refine spL rfl rfl (lhA [_, _, _, _, _, _, _, _, _, _, _] Zd rfl rfl rfl) rfl ?_
  refine sp rfl (PE.fieldAddr Z2E rfl) rfl ?_
  refine spL rfl rfl (lhA [_, _, _] ZF rfl rfl rfl) rfl ?_
  refine clV rfl ZaF rfl rfl (Z5F t p.1 _ _ _) ?_
  refine sp rfl (PE.move rfl) rfl ?_
  refine Zg (t := 8) rfl (fun g8 => ?_) (fun g8 => ?_)
  ·
   refine spG rfl rfl rfl rfl (PE.fieldAddr Z4a rfl) rfl ?_
   refine Z03 rfl rfl rfl rfl rfl (lh sc3 rfl rfl) rfl ?_
   refine Z0k rfl rfl rfl rfl Z2a rfl rfl (Z68 _ _ _ _ _) ?_
   refine sp rfl (PE.pick rfl rfl rfl) rfl ?_
   refine sp rfl (PE.assign rfl) rfl ?_
   refine Z4 ?_
   exact Z2 (vs := [_]) rfl (.cons (RV.tmp rfl) .nil) rfl ⟨by simp_all only [ZL, inb, Bool.true_and, Bool.false_and, cond_true, cond_false], rfl, rfl⟩ drp
  ·
   refine spN rfl rfl rfl rfl rfl rfl rfl rfl ?_
   refine spN rfl rfl rfl rfl rfl rfl rfl rfl ?_
   refine spN rfl rfl rfl rfl rfl rfl rfl rfl ?_
   refine sp rfl (PE.pick rfl rfl rfl) rfl ?_
   refine sp rfl (PE.assign rfl) rfl ?_
   refine Z4 ?_
   exact Z2 (vs := [_]) rfl (.cons (RV.tmp rfl) .nil) rfl ⟨by simp_all only [ZL, inb, Bool.true_and, Bool.false_and, cond_true, cond_false], rfl, rfl⟩ drp
theorem Z5n (t : Twn) (s : Sta) (most : Int) (l : List Fat) (kv : KV) (hkl : ∀ e ∈ kv, e.1.length = 3) (hkv : ∀ s : Sta, kv.get [s.stock, s.short, s.dry] = (Z3d l s).map (Value.int .i64)) (ba oa ca : Nat) (bt bw m : Nat) (y : List Int) (fs : Value) (hy : y.length = 496) (H : Zj) (R : Z9) [hW : Mem1 bw (cel 62 (rcs t (t.sl (some ⟨ba, oa, none⟩) ca) bt y fs m)) H] [hM : Mem1 m (Z1j true kv) H] :
    FnV Tryz.prog 103 [.pointer (some ⟨bw, 0, none⟩), s.v, .int .i64 most] H R (.bool (Zs l s most)) := by
  refine Zq Tryz.func103 rfl Tryz.ntmps103 rfl ?_
  refine Z0 ?_
  refine Z1 [0, 1] rfl ?_
  refine bx rfl rfl rfl (fun b4 => ?_)
  refine sp rfl (PE.assign rfl) rfl ?_
  refine Z0 ?_
  refine Ze [0, 1, 3, 7, 0, 31, 63, 127, 127, 255, 1023] (.tk 0 (.tk 1 (.tk 2 (.ld 3 (.ld 4 (.ld 5 (.tk 6 (.tk 7 (.tk 8 (.tk 9 (.tk 10 .done))))))))))) Zy (by kernel_rfl) ?_
  refine tk rfl (PE.move rfl) rfl ?_
  refine tk rfl (PE.nilCheck rfl) rfl ?_
  refine tk rfl (PE.fieldAddr Z5e rfl) rfl ?_
  refine ld rfl rfl (lh ZcT rfl (Z3s hy)) rfl ?_
  refine ld rfl rfl (lhA [_, _, _] ZF rfl rfl rfl) rfl ?_
  refine ldK rfl rfl rfl (Z4K kv [s.stock, s.short, s.dry] Z8E (KeyT.of Z3S Z8w) (Z6g zv3) rfl hkl true) rfl ?_
  rw [hkv s]
  refine tk rfl (PE.move rfl) rfl ?_
  refine tk rfl (PE.extract rfl rfl) rfl ?_
  refine tk rfl (PE.extract rfl rfl) rfl ?_
  refine tk rfl (PE.assign rfl) rfl ?_
  refine tk rfl (PE.assign rfl) rfl ?_
  refine Z0 ?_
  refine Z1 [0, 1, 2, 3, 4, 5, 6] rfl ?_
  refine sp rfl (PE.move rfl) rfl ?_
  refine sp rfl (PE.move rfl) rfl ?_
  refine Zg (t := 19) rfl (fun g19 => ?_) (fun g19 => ?_)
  ·
   obtain ⟨n, hn⟩ := Option.isSome_iff_exists.1 (by simpa using g19)
   rw [hn]
   refine spG rfl rfl rfl rfl (PE.move rfl) rfl ?_
   refine spG rfl rfl rfl rfl (PE.move rfl) rfl ?_
   refine spG rfl rfl rfl rfl (PE.leq rfl rfl) rfl ?_
   refine sp rfl (PE.pick rfl rfl rfl) rfl ?_
   refine sp rfl (PE.assign rfl) rfl ?_
   refine Z4 ?_
   exact Z2 (vs := [_]) rfl (.cons (RV.tmp rfl) .nil) rfl ⟨by rw [Z15, hn]; rfl, rfl, rfl⟩ drp
  ·
   have hn : Z3d l s = none := by simpa using g19
   refine spN rfl rfl rfl rfl rfl rfl rfl rfl ?_
   refine spN rfl rfl rfl rfl rfl rfl rfl rfl ?_
   refine spN rfl rfl rfl rfl rfl rfl rfl rfl ?_
   refine sp rfl (PE.pick rfl rfl rfl) rfl ?_
   refine sp rfl (PE.assign rfl) rfl ?_
   refine Z4 ?_
   exact Z2 (vs := [_]) rfl (.cons (RV.tmp rfl) .nil) rfl ⟨by rw [Z15, hn]; rfl, rfl, rfl⟩ drp
theorem Zdd {kv : KV} {l : List Fat} (hkv : ∀ s : Sta, kv.get [s.stock, s.short, s.dry] = (Z3d l s).map (Value.int .i64)) {x : Fat} (h : Zs l x.1 x.2 = false) :
    ∀ s : Sta, (kv.put [x.1.stock, x.1.short, x.1.dry] (.int .i64 x.2)).get [s.stock, s.short, s.dry] = (Z3d (l ++ [x]) s).map (Value.int .i64) := fun s => by
  rw [KV.get_put, Z3a]
  unfold Z12
  by_cases e : x.1 = s
  · subst e
    rw [Z15] at h
    simp only [decide_true, cond_true, Option.map_some]
    cases hm : Z3d l x.1 with
    | none => rfl
    | some n => rw [hm] at h; simp only [leO, decide_eq_false_iff_not] at h; simp only []; congr 2; omega
  · have : ¬ [x.1.stock, x.1.short, x.1.dry] = [s.stock, s.short, s.dry] := fun h => e (by
      simp only [List.cons.injEq, and_true] at h
      obtain ⟨⟨a, b, c⟩, d⟩ := x; obtain ⟨a', b', c'⟩ := s
      simp only [Sta.mk.injEq]; exact h)
    simp only [this, e, decide_false, cond_false]; exact hkv s
theorem Zcf {kv : KV} {l : List Fat} (hkv : ∀ s : Sta, kv.get [s.stock, s.short, s.dry] = (Z3d l s).map (Value.int .i64)) {x : Fat} (h : Zs l x.1 x.2 = true) :
    ∀ s : Sta, kv.get [s.stock, s.short, s.dry] = (Z3d (l ++ [x]) s).map (Value.int .i64) := fun s => by
  rw [hkv s, Z3a]
  unfold Z12
  by_cases e : x.1 = s
  · subst e
    rw [Z15] at h
    cases hm : Z3d l x.1 with
    | none => rw [hm] at h; cases h
    | some n => rw [hm] at h; simp only [leO, decide_eq_true_eq] at h; simp only [decide_true, cond_true, Option.map_some]; congr 2; omega
  · simp [e]
theorem Z1p {α : Type} {l : List α} {k : Nat} {x : α} (h : l[k]? = some x) : l.take (k + 1) = l.take k ++ [x] := by rw [List.take_add_one, h]; rfl
theorem Z9D (t : Twn) (hl : t.rats.length ≤ 9223372036854775807) (l : List Fat) (a : Option Addr) (c : Nat) (hl2 : l.length ≤ 9223372036854775807) (ba oa ca : Nat) (H : Zj) (R : Z9) [hR : MemRows (some ⟨ba, oa, none⟩) 2 (Zf t.rats) R] [hR2 : MemRows a 4 (Zo l) R] :
    FnV Tryz.prog 68 [t.v (t.sl (some ⟨ba, oa, none⟩) ca), .slice a l.length c] H R (.tuple #[.int .i64 (stR t l).1, .int .i64 (stR t l).2]) := by
  refine Zq Tryz.func68 rfl Tryz.ntmps68 rfl ?_
  refine Z0 ?_
  refine Z1 [0, 1, 2] rfl ?_
  refine bx rfl rfl rfl (fun b2 => ?_)
  refine sp rfl (PE.assign rfl) rfl ?_
  refine sp rfl (PE.assign rfl) rfl ?_
  refine Z0 ?_
  refine Z1 [0, 1, 2, 3, 4, 5, 6] rfl ?_
  refine spL rfl rfl (lhA [_, _, _, _, _, _, _, _, _, _, _] Zd rfl rfl rfl) rfl ?_
  refine cl rfl Z5w rfl rfl (Z1A t hl ba oa ca _ _) ?_
  rintro _ _ _ (⟨hck, rfl, rfl, rfl⟩ | ⟨hck, bw, m, bt, rfl, rfl, rfl⟩)
  ·
   refine sp rfl (PE.move rfl) rfl ?_
   refine sp rfl (PE.extract rfl rfl) rfl ?_
   refine sp rfl (PE.extract rfl rfl) rfl ?_
   refine sp rfl (PE.assign rfl) rfl ?_
   refine sp rfl (PE.assign rfl) rfl ?_
   refine Z0 ?_
   refine Z7 ?_
   refine Z0 ?_
   refine Z1 [0, 1, 2] rfl ?_
   refine sp rfl (PE.move rfl) rfl ?_
   refine sp rfl (PE.neq rfl rfl) rfl ?_
   refine sp rfl (PE.assign rfl) rfl ?_
   refine Zm (congrArg (fun b => some (Value.bool b)) (decide_eq_true hck)) ?_
   refine Z0 ?_
   refine Z1 [0, 1, 2] rfl ?_
   refine sp rfl (PE.move rfl) rfl ?_
   refine sp rfl (PE.assign rfl) rfl ?_
   refine sp rfl (PE.assign rfl) rfl ?_
   refine Z4 ?_
   exact Z2 (vs := [_, _]) rfl (.cons (RV.tmp rfl) (.cons (RV.tmp rfl) .nil)) (by rw [show stR t l = (0, t.check) from by simp [stR, hck]]; rfl) ⟨rfl, rfl, rfl⟩ drp
  ·
   have hok := (Zi hck).1
   refine sp rfl (PE.move rfl) rfl ?_
   refine sp rfl (PE.extract rfl rfl) rfl ?_
   refine sp rfl (PE.extract rfl rfl) rfl ?_
   refine sp rfl (PE.assign rfl) rfl ?_
   refine sp rfl (PE.assign rfl) rfl ?_
   refine Z0 ?_
   refine Z7 ?_
   refine Z0 ?_
   refine Z1 [0, 1, 2] rfl ?_
   refine sp rfl (PE.move rfl) rfl ?_
   refine sp rfl (PE.neq rfl rfl) rfl ?_
   refine sp rfl (PE.assign rfl) rfl ?_
   refine Zz (rfl) ?_
   refine Z0 ?_
   refine Z1 [0, 1, 2, 3] rfl ?_
   refine sp rfl (PE.move rfl) rfl ?_
   refine sp rfl (PE.lenSl Z2Q rfl) rfl ?_
   refine sp rfl (PE.gtr rfl rfl) rfl ?_
   refine sp rfl (PE.assign rfl) rfl ?_
   refine Z5 rfl (fun hc1 => ?_) (fun hc1 => ?_)
   ·
    try simp only [decide_eq_true_eq, decide_eq_false_iff_not, Bool.and_eq_true, Bool.or_eq_true, Bool.not_eq_true', Int.not_le, Int.not_lt] at hc1
    have hres := Z8X hck (l := l) (by omega)
    refine Z0 ?_
    refine Z1 [0, 1] rfl ?_
    refine sp rfl (PE.assign rfl) rfl ?_
    refine sp rfl (PE.assign rfl) rfl ?_
    refine Z4 ?_
    first
      | exact Z2 (vs := [_, _]) rfl (.cons (RV.tmp rfl) (.cons (RV.tmp rfl) .nil)) (by rw [hres]; rfl) ⟨rfl, rfl, rfl⟩ drp
      | exact Z2 (vs := [_, _]) rfl (.cons (RV.tmp rfl) (.cons (RV.tmp rfl) .nil)) (by rw [show stR t l = (0, 8) from Z1P hck (by omega) hall (Z08 (pre := []) hx (List.all_eq_false.2 ⟨q, hqm, by rw [List.nil_append, hbad]; simp⟩))]; rfl) ⟨rfl, rfl, rfl⟩ drp
   ·
    try simp only [decide_eq_true_eq, decide_eq_false_iff_not, Bool.and_eq_true, Bool.or_eq_true, Bool.not_eq_true', Int.not_le, Int.not_lt] at hc1
    
    refine Z0 ?_
    refine Z1 [0, 1, 2, 3, 4] rfl ?_
    refine sp rfl (PE.move rfl) rfl ?_
    refine sp rfl (PE.makeFunc rfl rfl) rfl ?_
    refine clV rfl Zd7 rfl rfl (Z6p l a c 102 [] [_] (fun p => p.1.right t && inb p.2 0 1000000) Zdb hl2 _ _ (fun _ _ x _ => ZcY t x _ b2 _ _)) ?_
    refine sp rfl (PE.not rfl) rfl ?_
    refine sp rfl (PE.assign rfl) rfl ?_
    refine Z5 rfl (fun hc2 => ?_) (fun hc2 => ?_)
    ·
     have hres := Z3M hck (l := l) (by omega) (by rw [← Bool.not_eq_true']; exact hc2)
     refine Z0 ?_
     refine Z1 [0, 1] rfl ?_
     refine sp rfl (PE.assign rfl) rfl ?_
     refine sp rfl (PE.assign rfl) rfl ?_
     refine Z4 ?_
     first
       | exact Z2 (vs := [_, _]) rfl (.cons (RV.tmp rfl) (.cons (RV.tmp rfl) .nil)) (by rw [hres]; rfl) ⟨rfl, rfl, rfl⟩ drp
       | exact Z2 (vs := [_, _]) rfl (.cons (RV.tmp rfl) (.cons (RV.tmp rfl) .nil)) (by rw [show stR t l = (0, 8) from Z1P hck (by omega) hall (Z08 (pre := []) hx (List.all_eq_false.2 ⟨q, hqm, by rw [List.nil_append, hbad]; simp⟩))]; rfl) ⟨rfl, rfl, rfl⟩ drp
    ·
     have hall : (l.all fun p => p.1.right t && inb p.2 0 1000000) = true := by rw [← Bool.not_eq_false']; exact hc2
     refine Z3 ?_
     refine Z0 ?_
     refine Z0 ?_
     refine Z1 [0, 1, 2] rfl ?_
     refine sp rfl (PE.move rfl) rfl ?_
     refine sp rfl (PE.lenSl Z2Q rfl) rfl ?_
     refine sp rfl (PE.move rfl) rfl ?_
     refine Z7 ?_
     refine Zn (ι := {x : Nat × KV // x.1 ≤ l.length ∧ ((∀ e ∈ x.2, e.1.length = 3) ∧ (∀ s : Sta, x.2.get [s.stock, s.short, s.dry] = (Z3d (l.take x.1) s).map (Value.int .i64))) ∧ Z0e t [] (l.take x.1) = true}) (fun x => ⟨[(2, .pointer (some ⟨b2, 0, none⟩)), (6, .pointer (some ⟨bw, 0, none⟩)), (31, .slice a l.length c), (32, .int .i64 l.length), (33, .int .i64 x.1.1)], (m, Z1j true (x.1.2)) :: (bw, cel 62 (rcs t (t.sl (some ⟨ba, oa, none⟩) ca) bt (List.replicate 496 0) (.slice none 0 0) m)) :: (b2, cel 27 (twl t (t.sl (some ⟨ba, oa, none⟩) ca))) :: H, RowsA (some ⟨bt, 0, none⟩) 11 [twl t (t.sl (some ⟨ba, oa, none⟩) ca)] :: R⟩) (fun x => l.length - x.1.1) ⟨(0, []), by omega, ⟨by simp, fun s => rfl⟩, rfl⟩ ?_ (fun x => ?_)
     ·
      exact Z0i (by repeat' first | exact Sub.nil | apply Sub.cons | rfl | (simp [lk]; omega)) (fun w h => ((h.pull b2).pull bw).pull m)
     ·
      obtain ⟨⟨k, kv⟩, hk, ⟨hkl, hkv⟩, hfo⟩ := x
      dsimp only at hk hkl hkv hfo ⊢
      refine Z0 ?_
      refine Z1 [0] rfl ?_
      refine sp rfl (PE.lss rfl rfl) rfl ?_
      refine Z0 ?_
      refine Z5 rfl (fun hc3 => ?_) (fun hc3 => ?_)
      ·
       try simp only [decide_eq_true_eq, decide_eq_false_iff_not, Bool.and_eq_true, Bool.or_eq_true, Bool.not_eq_true', Int.not_le, Int.not_lt] at hc3
       obtain ⟨x, hx⟩ : ∃ x, l[k]? = some x := ⟨_, List.getElem?_eq_getElem (by omega)⟩
       obtain ⟨hxr, hx0, hx1⟩ := Z9v hall (List.mem_of_getElem? hx)
       refine Zw (a := a) (sz := 4) (rows := Zo l) (by intro h0; simp [Zo] at h0; simp [h0] at hx) (fun bf of he => ?_)
       subst he
       refine Z3 ?_
       refine Z0 ?_
       refine Z7 ?_
       refine Z0 ?_
       refine Z1 [0, 1, 2, 3] rfl ?_
       refine sp rfl (PE.indexAddr Z8H rfl rfl (by omega) (by omega)) rfl ?_
       refine spL rfl rfl (lfA (row := Z2j x) ZbI (Z4A hx) rfl) rfl ?_
       refine alc rfl Z4S rfl (fun b9 => ?_)
       refine sto rfl rfl rfl Zec rfl rfl rfl rfl ?_
       refine Z0 ?_
       refine Z0 ?_
       refine Z1 [0, 1, 2, 3] rfl ?_
       refine sp rfl (PE.fieldAddr ZY rfl) rfl ?_
       refine spL rfl rfl (lh Z23 rfl rfl) rfl ?_
       refine sp rfl (PE.lenSl Z2f rfl) rfl ?_
       refine sp rfl (PE.move rfl) rfl ?_
       refine Z7 ?_
       have hlen := hok.many
       refine Zn (ι := {j : Nat // j ≤ t.rats.length ∧ ∀ i q, i < j → t.rats[i]? = some q → (!(t.can x.1 q) || (Zs (l.take k) (t.next x.1 q false) x.2 || (decide (x.1.dry < t.run) && Zs (l.take k) (t.next x.1 q true) (x.2 - 1)))) = true}) (fun j => ⟨[(2, .pointer (some ⟨b2, 0, none⟩)), (6, .pointer (some ⟨bw, 0, none⟩)), (31, .slice (some ⟨bf, of, none⟩) l.length c), (32, .int .i64 l.length), (33, .int .i64 k), (9, .pointer (some ⟨b9, 0, none⟩)), (39, .int .i64 t.rats.length), (40, .int .i64 j.1)], (b9, cel 41 (Z2j x)) :: (m, Z1j true (kv)) :: (bw, cel 62 (rcs t (t.sl (some ⟨ba, oa, none⟩) ca) bt (List.replicate 496 0) (.slice none 0 0) m)) :: (b2, cel 27 (twl t (t.sl (some ⟨ba, oa, none⟩) ca))) :: H, RowsA (some ⟨bt, 0, none⟩) 11 [twl t (t.sl (some ⟨ba, oa, none⟩) ca)] :: R⟩) (fun j => t.rats.length - j.1) ⟨0, by omega, by omega⟩ ?_ (fun j => ?_)
       ·
        exact Z0i (by repeat' first | exact Sub.nil | apply Sub.cons | rfl | (simp [lk]; omega)) (fun _ h => h)
       ·
        obtain ⟨j, hj, hno⟩ := j
        dsimp only
        refine Z0 ?_
        refine Z1 [0] rfl ?_
        refine sp rfl (PE.lss rfl rfl) rfl ?_
        refine Z0 ?_
        refine Z5 rfl (fun hc4 => ?_) (fun hc4 => ?_)
        ·
         try simp only [decide_eq_true_eq, decide_eq_false_iff_not, Bool.and_eq_true, Bool.or_eq_true, Bool.not_eq_true', Int.not_le, Int.not_lt] at hc4
         obtain ⟨q, hq⟩ : ∃ q, t.rats[j]? = some q := ⟨_, List.getElem?_eq_getElem (by omega)⟩
         have hqm := List.mem_of_getElem? hq
         refine Z3 ?_
         refine Z0 ?_
         refine Z7 ?_
         refine Z0 ?_
         refine Z1 [0, 1] rfl ?_
         refine sp rfl (PE.move rfl) rfl ?_
         refine sp rfl (PE.assign rfl) rfl ?_
         refine Z0 ?_
         refine Z0 ?_
         refine Ze [0, 0, 2, 0, 15, 31, 63, 127, 127, 127, 639, 127, 3967, 127, 8319, 32767, 65535] (.ld 0 (.tk 1 (.ld 2 (.tk 3 (.big 4 (.tk 5 (.tk 6 (.tk 7 (.ld 8 (.tk 9 (.ld 10 (.tk 11 (.tk 13 (.ld 14 (.big 12 (.big 15 (.tk 16 .done))))))))))))))))) Zy (by kernel_rfl) ?_
         refine ld rfl rfl (lhA [_, _, _, _, _, _, _, _, _, _, _] Zd rfl rfl rfl) rfl ?_
         refine tk rfl (PE.fieldAddr Z2E rfl) rfl ?_
         refine ld rfl rfl (lhA [_, _, _] ZF rfl rfl rfl) rfl ?_
         refine tk rfl (PE.move rfl) rfl ?_
         refine clV rfl Z8m rfl rfl (Z1L t x.1 j q ba oa ca (by omega) (by simpa using hq) _ _) ?_
         refine bg (fun w hs => ⟨trivial, trivial, trivial⟩) ?_
         refine tk rfl (PE.not rfl) rfl ?_
         refine tk rfl (PE.move rfl) rfl ?_
         refine Zg (t := 49) rfl (fun g49 => ?_) (fun g49 => ?_)
         ·
          have hcan : t.can x.1 q = false := by simpa using g49
          have hyes : (!(t.can x.1 q) || (Zs (l.take k) (t.next x.1 q false) x.2 || (decide (x.1.dry < t.run) && Zs (l.take k) (t.next x.1 q true) (x.2 - 1)))) = true := by rw [hcan]; rfl
          refine tkN rfl rfl rfl rfl rfl rfl rfl rfl ?_
          refine ldN rfl rfl rfl rfl rfl rfl rfl rfl ?_
          refine tkN rfl rfl rfl rfl rfl rfl rfl rfl ?_
          refine ldN rfl rfl rfl rfl rfl rfl rfl rfl ?_
          refine tkN rfl rfl rfl rfl rfl rfl rfl rfl ?_
          refine tkN rfl rfl rfl rfl rfl rfl rfl rfl ?_
          refine ldN rfl rfl rfl rfl rfl rfl rfl rfl ?_
          refine spN rfl rfl rfl rfl rfl rfl rfl rfl ?_
          refine bg (fun w hs => ⟨((fun _ _ => True.intro)) w hs, trivial, trivial, trivial⟩) ?_
          refine spN rfl rfl rfl rfl rfl rfl rfl rfl ?_
          refine bg (fun w hs => ⟨trivial, trivial⟩) ?_
          refine tk rfl (PE.pick rfl rfl rfl) rfl ?_
          refine Zm rfl ?_
          refine Zk ?_
          refine Zl ?_
          refine ZH ?_
          refine Z1 [0, 1] rfl ?_
          refine sp rfl (PE.add rfl rfl (by omega)) rfl ?_
          refine sp rfl (PE.move rfl) rfl ?_
          exact Zb ⟨j + 1, by omega, fun i q' hi hq' => by
            rcases Nat.lt_or_ge i j with h1 | h1
            · exact hno i q' h1 hq'
            · obtain rfl : i = j := by omega
              rw [hq] at hq'; cases hq'; exact hyes⟩ (by dsimp only; omega) (by repeat' first | exact Sub.nil | apply Sub.cons | rfl | (simp [lk]; omega)) (fun _ h => h)
         ·
          have hcan : t.can x.1 q = true := by simpa using g49
          refine tkG rfl rfl rfl rfl (PE.move rfl) rfl ?_
          refine ldG rfl rfl rfl rfl rfl (lhA [_, _, _, _, _, _, _, _, _, _, _] Zd rfl rfl rfl) rfl ?_
          refine tkG rfl rfl rfl rfl (PE.fieldAddr Z2E rfl) rfl ?_
          refine ldG rfl rfl rfl rfl rfl (lhA [_, _, _] ZF rfl rfl rfl) rfl ?_
          refine tkG rfl rfl rfl rfl (PE.move rfl) rfl ?_
          refine tkG rfl rfl rfl rfl (PE.fieldAddr Z4a rfl) rfl ?_
          refine ldG rfl rfl rfl rfl rfl (lh sc3 rfl rfl) rfl ?_
          refine Z0k rfl rfl rfl rfl Z5P rfl rfl (Z3l t hok x.1 hxr j q false ba oa ca (by omega) (by simpa using hq) (Z1z hcan) _ _) ?_
          refine bg (fun w hs => ⟨(lh sc3 rfl rfl) w hs, trivial, trivial, trivial⟩) ?_
          refine Z0k rfl rfl rfl rfl Z8R rfl rfl (Z5n t (t.next x.1 q false) (x.2) (l.take k) kv hkl hkv ba oa ca bt bw m _ _ List.length_replicate _ _) ?_
          refine bg (fun w hs => ⟨trivial, trivial⟩) ?_
          refine tk rfl (PE.pick rfl rfl rfl) rfl ?_
          refine Z5 rfl (fun hc5 => ?_) (fun hc5 => ?_)
          ·
           have hyes : (!(t.can x.1 q) || (Zs (l.take k) (t.next x.1 q false) x.2 || (decide (x.1.dry < t.run) && Zs (l.take k) (t.next x.1 q true) (x.2 - 1)))) = true := by rw [hc5]; simp
           refine Zk ?_
           refine Zl ?_
           refine ZH ?_
           refine Z1 [0, 1] rfl ?_
           refine sp rfl (PE.add rfl rfl (by omega)) rfl ?_
           refine sp rfl (PE.move rfl) rfl ?_
           exact Zb ⟨j + 1, by omega, fun i q' hi hq' => by
             rcases Nat.lt_or_ge i j with h1 | h1
             · exact hno i q' h1 hq'
             · obtain rfl : i = j := by omega
               rw [hq] at hq'; cases hq'; exact hyes⟩ (by dsimp only; omega) (by repeat' first | exact Sub.nil | apply Sub.cons | rfl | (simp [lk]; omega)) (fun _ h => h)
          ·
           refine Z3 ?_
           refine Z0 ?_
           refine Ze [0, 1, 3, 7, 15, 0, 32, 127, 255, 511, 1023, 1023, 1023, 5119, 1023, 31743, 1023, 66559, 197631, 524287, 1048575, 2097151] (.tk 0 (.tk 1 (.tk 2 (.tk 3 (.ld 4 (.tk 5 (.ld 6 (.big 7 (.tk 8 (.tk 9 (.tk 10 (.ld 11 (.tk 12 (.ld 13 (.tk 14 (.tk 16 (.ld 17 (.tk 18 (.big 15 (.big 19 (.tk 20 (.tk 21 .done)))))))))))))))))))))) Zy (by kernel_rfl) ?_
           refine tk rfl (PE.move rfl) rfl ?_
           refine tk rfl (PE.nilCheck rfl) rfl ?_
           refine tk rfl (PE.fieldAddr Z6r rfl) rfl ?_
           refine tk rfl (PE.fieldAddr Z6v rfl) rfl ?_
           refine ld rfl rfl (lh ZdP rfl rfl) rfl ?_
           refine tk rfl (PE.fieldAddr Z2E rfl) rfl ?_
           refine ld rfl rfl (lhA [_, _, _] ZF rfl rfl rfl) rfl ?_
           refine ZaU rfl rfl (Zan) rfl rfl (Zao t x.1 ba oa ca bt _ _) ?_
           refine bg (fun w hs => ⟨trivial, trivial, trivial⟩) ?_
           refine tk rfl (PE.not rfl) rfl ?_
           refine tk rfl (PE.move rfl) rfl ?_
           refine Zg (t := 69) rfl (fun g69 => ?_) (fun g69 => ?_)
           ·
            have hdry : decide (x.1.dry < t.run) = false := by simpa using g69
            have hbad : (!(t.can x.1 q) || (Zs (l.take k) (t.next x.1 q false) x.2 || (decide (x.1.dry < t.run) && Zs (l.take k) (t.next x.1 q true) (x.2 - 1)))) = false := by rw [hcan, hc5, hdry]; rfl
            refine tkN rfl rfl rfl rfl rfl rfl rfl rfl ?_
            refine ldN rfl rfl rfl rfl rfl rfl rfl rfl ?_
            refine tkN rfl rfl rfl rfl rfl rfl rfl rfl ?_
            refine ldN rfl rfl rfl rfl rfl rfl rfl rfl ?_
            refine tkN rfl rfl rfl rfl rfl rfl rfl rfl ?_
            refine tkN rfl rfl rfl rfl rfl rfl rfl rfl ?_
            refine ldN rfl rfl rfl rfl rfl rfl rfl rfl ?_
            refine tkN rfl rfl rfl rfl rfl rfl rfl rfl ?_
            refine spN rfl rfl rfl rfl rfl rfl rfl rfl ?_
            refine bg (fun w hs => ⟨((fun _ _ => True.intro)) w hs, trivial, trivial, trivial⟩) ?_
            refine spN rfl rfl rfl rfl rfl rfl rfl rfl ?_
            refine bg (fun w hs => ⟨trivial, trivial⟩) ?_
            refine tkN rfl rfl rfl rfl rfl rfl rfl rfl ?_
            refine tk rfl (PE.pick rfl rfl rfl) rfl ?_
            refine Zm rfl ?_
            refine Z0 ?_
            refine Z1 [0, 1] rfl ?_
            refine sp rfl (PE.assign rfl) rfl ?_
            refine sp rfl (PE.assign rfl) rfl ?_
            refine Z4 ?_
            first
              | exact Z2 (vs := [_, _]) rfl (.cons (RV.tmp rfl) (.cons (RV.tmp rfl) .nil)) (by rw [hres]; rfl) ⟨rfl, rfl, rfl⟩ drp
              | exact Z2 (vs := [_, _]) rfl (.cons (RV.tmp rfl) (.cons (RV.tmp rfl) .nil)) (by rw [show stR t l = (0, 8) from Z1P hck (by omega) hall (Z08 (pre := []) hx (List.all_eq_false.2 ⟨q, hqm, by rw [List.nil_append, hbad]; simp⟩))]; rfl) ⟨rfl, rfl, rfl⟩ drp
           ·
            have hdry : decide (x.1.dry < t.run) = true := by simpa using g69
            refine tkG rfl rfl rfl rfl (PE.move rfl) rfl ?_
            refine ldG rfl rfl rfl rfl rfl (lhA [_, _, _, _, _, _, _, _, _, _, _] Zd rfl rfl rfl) rfl ?_
            refine tkG rfl rfl rfl rfl (PE.fieldAddr Z2E rfl) rfl ?_
            refine ldG rfl rfl rfl rfl rfl (lhA [_, _, _] ZF rfl rfl rfl) rfl ?_
            refine tkG rfl rfl rfl rfl (PE.move rfl) rfl ?_
            refine tkG rfl rfl rfl rfl (PE.fieldAddr Z4a rfl) rfl ?_
            refine ldG rfl rfl rfl rfl rfl (lh sc3 rfl rfl) rfl ?_
            refine tkG rfl rfl rfl rfl (PE.sub rfl rfl (by omega)) rfl ?_
            refine Z0k rfl rfl rfl rfl Z5P rfl rfl (Z3l t hok x.1 hxr j q true ba oa ca (by omega) (by simpa using hq) (Z1z hcan) _ _) ?_
            refine bg (fun w hs => ⟨(lh sc3 rfl rfl) w hs, trivial, trivial, trivial⟩) ?_
            refine Z0k rfl rfl rfl rfl Z8R rfl rfl (Z5n t (t.next x.1 q true) (x.2 - 1) (l.take k) kv hkl hkv ba oa ca bt bw m _ _ List.length_replicate _ _) ?_
            refine bg (fun w hs => ⟨trivial, trivial⟩) ?_
            refine tkG rfl rfl rfl rfl (PE.not rfl) rfl ?_
            refine tk rfl (PE.pick rfl rfl rfl) rfl ?_
            refine Z5 rfl (fun hc6 => ?_) (fun hc6 => ?_)
            ·
             have hb2 : Zs (l.take k) (t.next x.1 q true) (x.2 - 1) = false := by simpa using hc6
             have hbad : (!(t.can x.1 q) || (Zs (l.take k) (t.next x.1 q false) x.2 || (decide (x.1.dry < t.run) && Zs (l.take k) (t.next x.1 q true) (x.2 - 1)))) = false := by rw [hcan, hc5, hb2]; simp
             refine Z0 ?_
             refine Z1 [0, 1] rfl ?_
             refine sp rfl (PE.assign rfl) rfl ?_
             refine sp rfl (PE.assign rfl) rfl ?_
             refine Z4 ?_
             first
               | exact Z2 (vs := [_, _]) rfl (.cons (RV.tmp rfl) (.cons (RV.tmp rfl) .nil)) (by rw [hres]; rfl) ⟨rfl, rfl, rfl⟩ drp
               | exact Z2 (vs := [_, _]) rfl (.cons (RV.tmp rfl) (.cons (RV.tmp rfl) .nil)) (by rw [show stR t l = (0, 8) from Z1P hck (by omega) hall (Z08 (pre := []) hx (List.all_eq_false.2 ⟨q, hqm, by rw [List.nil_append, hbad]; simp⟩))]; rfl) ⟨rfl, rfl, rfl⟩ drp
            ·
             have hb2 : Zs (l.take k) (t.next x.1 q true) (x.2 - 1) = true := by simpa using hc6
             have hyes : (!(t.can x.1 q) || (Zs (l.take k) (t.next x.1 q false) x.2 || (decide (x.1.dry < t.run) && Zs (l.take k) (t.next x.1 q true) (x.2 - 1)))) = true := by rw [hdry, hb2]; simp
             refine Z3 ?_
             refine Z1 [0, 1] rfl ?_
             refine sp rfl (PE.add rfl rfl (by omega)) rfl ?_
             refine sp rfl (PE.move rfl) rfl ?_
             exact Zb ⟨j + 1, by omega, fun i q' hi hq' => by
               rcases Nat.lt_or_ge i j with h1 | h1
               · exact hno i q' h1 hq'
               · obtain rfl : i = j := by omega
                 rw [hq] at hq'; cases hq'; exact hyes⟩ (by dsimp only; omega) (by repeat' first | exact Sub.nil | apply Sub.cons | rfl | (simp [lk]; omega)) (fun _ h => h)
        ·
         try simp only [decide_eq_true_eq, decide_eq_false_iff_not, Bool.and_eq_true, Bool.or_eq_true, Bool.not_eq_true', Int.not_le, Int.not_lt] at hc4
         obtain rfl : j = t.rats.length := by omega
         have hfx : Z30 t (l.take k) x = true := List.all_eq_true.2 fun q hq => by
           obtain ⟨i, hi⟩ := List.getElem?_of_mem hq
           exact hno i q (List.getElem?_eq_some_iff.1 hi).1 hi
         refine Zk ?_
         refine Zl ?_
         refine Zl ?_
         refine ZH ?_
         refine Z0 ?_
         refine Z1 [0, 1, 2, 3, 4, 5, 6] rfl ?_
         refine sp rfl (PE.move rfl) rfl ?_
         refine sp rfl (PE.fieldAddr Z2E rfl) rfl ?_
         refine spL rfl rfl (lhA [_, _, _] ZF rfl rfl rfl) rfl ?_
         refine sp rfl (PE.fieldAddr Z4a rfl) rfl ?_
         refine spL rfl rfl (lh sc3 rfl rfl) rfl ?_
         refine clV rfl Z8R rfl rfl (Z5n t (x.1) (x.2) (l.take k) kv hkl hkv ba oa ca bt bw m _ _ List.length_replicate _ _) ?_
         refine sp rfl (PE.not rfl) rfl ?_
         refine Z5 rfl (fun hc7 => ?_) (fun hc7 => ?_)
         ·
          have hd : Zs (l.take k) x.1 x.2 = false := by simpa using hc7
          have hkn := Zdd hkv hd
          refine Ze [0, 1, 3, 7, 0, 16, 0, 64, 255] (.tk 0 (.tk 1 (.tk 2 (.ld 3 (.tk 4 (.ld 5 (.tk 6 (.ld 7 (.big 8 .done))))))))) Zy (by kernel_rfl) ?_
          refine tk rfl (PE.move rfl) rfl ?_
          refine tk rfl (PE.nilCheck rfl) rfl ?_
          refine tk rfl (PE.fieldAddr Z5e rfl) rfl ?_
          refine ld rfl rfl (lh ZcT rfl (Z3s List.length_replicate)) rfl ?_
          refine tk rfl (PE.fieldAddr Z2E rfl) rfl ?_
          refine ld rfl rfl (lhA [_, _, _] ZF rfl rfl rfl) rfl ?_
          refine tk rfl (PE.fieldAddr Z4a rfl) rfl ?_
          refine ld rfl rfl (lh sc3 rfl rfl) rfl ?_
          refine mpu kv [x.1.stock, x.1.short, x.1.dry] rfl Z8E (KeyT.of Z3S Z8w) rfl rfl rfl rfl hkl ?_
          refine bg (fun w hs => ⟨trivial, trivial, trivial, trivial⟩) ?_
          refine Z1 [0, 1] rfl ?_
          refine sp rfl (PE.add rfl rfl (by omega)) rfl ?_
          refine sp rfl (PE.move rfl) rfl ?_
          first
            | exact Zb ⟨(k + 1, _), by omega, ⟨fun e he => (KV.put_mem he).elim (fun h => by rw [h]; rfl) (hkl e), by dsimp only; rw [Z1p hx]; exact hkn⟩, Z0T hx hfo hfx⟩ (by dsimp only; omega) (by repeat' first | exact Sub.nil | apply Sub.cons | rfl | (simp [lk]; omega)) (fun w h => h.del b9)
            | exact Zb ⟨(k + 1, kv), by omega, ⟨hkl, by dsimp only; rw [Z1p hx]; exact hkn⟩, Z0T hx hfo hfx⟩ (by dsimp only; omega) (by repeat' first | exact Sub.nil | apply Sub.cons | rfl | (simp [lk]; omega)) (fun w h => h.del b9)
         ·
          have hd : Zs (l.take k) x.1 x.2 = true := by simpa using hc7
          have hkn := Zcf hkv hd
          refine Z3 ?_
          refine Z1 [0, 1] rfl ?_
          refine sp rfl (PE.add rfl rfl (by omega)) rfl ?_
          refine sp rfl (PE.move rfl) rfl ?_
          first
            | exact Zb ⟨(k + 1, _), by omega, ⟨fun e he => (KV.put_mem he).elim (fun h => by rw [h]; rfl) (hkl e), by dsimp only; rw [Z1p hx]; exact hkn⟩, Z0T hx hfo hfx⟩ (by dsimp only; omega) (by repeat' first | exact Sub.nil | apply Sub.cons | rfl | (simp [lk]; omega)) (fun w h => h.del b9)
            | exact Zb ⟨(k + 1, kv), by omega, ⟨hkl, by dsimp only; rw [Z1p hx]; exact hkn⟩, Z0T hx hfo hfx⟩ (by dsimp only; omega) (by repeat' first | exact Sub.nil | apply Sub.cons | rfl | (simp [lk]; omega)) (fun w h => h.del b9)
      ·
       try simp only [decide_eq_true_eq, decide_eq_false_iff_not, Bool.and_eq_true, Bool.or_eq_true, Bool.not_eq_true', Int.not_le, Int.not_lt] at hc3
       obtain rfl : k = l.length := by omega
       rw [List.take_length] at hfo hkv
       have hst := Zbz hck (by omega) hall hfo
       refine Zk ?_
       refine Zl ?_
       refine Zl ?_
       refine ZH ?_
       refine Z0 ?_
       refine Ze [0, 1, 3, 7, 0, 16, 63, 127, 255, 255, 511, 2047] (.tk 0 (.tk 1 (.tk 2 (.ld 3 (.tk 4 (.ld 5 (.ld 6 (.tk 7 (.tk 8 (.tk 9 (.tk 10 (.tk 11 .done)))))))))))) Zy (by kernel_rfl) ?_
       refine tk rfl (PE.move rfl) rfl ?_
       refine tk rfl (PE.nilCheck rfl) rfl ?_
       refine tk rfl (PE.fieldAddr Z5e rfl) rfl ?_
       refine ld rfl rfl (lh ZcT rfl (Z3s List.length_replicate)) rfl ?_
       refine tk rfl (PE.fieldAddr Z0a rfl) rfl ?_
       refine ld rfl rfl (lhA [_, _, _] ZF rfl rfl rfl) rfl ?_
       refine ldK rfl rfl rfl (Z4K kv [t.now.stock, t.now.short, t.now.dry] Z8E (KeyT.of Z3S Z8w) (Z6g zv3) rfl hkl true) rfl ?_
       rw [hkv t.now]
       refine tk rfl (PE.move rfl) rfl ?_
       refine tk rfl (PE.extract rfl rfl) rfl ?_
       refine tk rfl (PE.extract rfl rfl) rfl ?_
       refine tk rfl (PE.assign rfl) rfl ?_
       refine tk rfl (PE.assign rfl) rfl ?_
       refine Z0 ?_
       refine Z0 ?_
       refine Z1 [0, 1] rfl ?_
       refine sp rfl (PE.move rfl) rfl ?_
       refine sp rfl (PE.not rfl) rfl ?_
       refine Z5 rfl (fun hc8 => ?_) (fun hc8 => ?_)
       ·
        have hm : Z3d l t.now = none := by simpa using hc8
        have hres : stR t l = (0, 6) := by rw [hst, hm]
        refine Z0 ?_
        refine Z1 [0, 1] rfl ?_
        refine sp rfl (PE.assign rfl) rfl ?_
        refine sp rfl (PE.assign rfl) rfl ?_
        refine Z4 ?_
        first
          | exact Z2 (vs := [_, _]) rfl (.cons (RV.tmp rfl) (.cons (RV.tmp rfl) .nil)) (by rw [hres]; rfl) ⟨rfl, rfl, rfl⟩ drp
          | exact Z2 (vs := [_, _]) rfl (.cons (RV.tmp rfl) (.cons (RV.tmp rfl) .nil)) (by rw [show stR t l = (0, 8) from Z1P hck (by omega) hall (Z08 (pre := []) hx (List.all_eq_false.2 ⟨q, hqm, by rw [List.nil_append, hbad]; simp⟩))]; rfl) ⟨rfl, rfl, rfl⟩ drp
       ·
        obtain ⟨n, hm⟩ : ∃ n, Z3d l t.now = some n := Option.isSome_iff_exists.1 (by simpa using hc8)
        have hres : stR t l = (n, 0) := by rw [hst, hm]
        rw [hm]
        refine Z3 ?_
        refine Z0 ?_
        refine Z1 [0, 1, 2] rfl ?_
        refine sp rfl (PE.move rfl) rfl ?_
        refine sp rfl (PE.assign rfl) rfl ?_
        refine sp rfl (PE.assign rfl) rfl ?_
        refine Z4 ?_
        first
          | exact Z2 (vs := [_, _]) rfl (.cons (RV.tmp rfl) (.cons (RV.tmp rfl) .nil)) (by rw [hres]; rfl) ⟨rfl, rfl, rfl⟩ drp
          | exact Z2 (vs := [_, _]) rfl (.cons (RV.tmp rfl) (.cons (RV.tmp rfl) .nil)) (by rw [show stR t l = (0, 8) from Z1P hck (by omega) hall (Z08 (pre := []) hx (List.all_eq_false.2 ⟨q, hqm, by rw [List.nil_append, hbad]; simp⟩))]; rfl) ⟨rfl, rfl, rfl⟩ drp
theorem Zev : Z5Y Tryz.prog 159 = some 4 := by kernel_rfl
theorem Zf0 : apT Tryz.prog 128 = some (159, 4, 32) := by kernel_rfl
theorem Zbi : cal Tryz.prog 100 = true := by kernel_rfl
theorem ZdJ : cal Tryz.prog 16 = true := by kernel_rfl
theorem ZeU : cal Tryz.prog 6 = true := by kernel_rfl
theorem ZdK : cal Tryz.prog 66 = true := by kernel_rfl
theorem Zd8 : cal Tryz.prog 67 = true := by kernel_rfl
theorem ZeW : cal Tryz.prog 68 = true := by kernel_rfl
theorem Zfh : cal Tryz.prog 69 = true := by kernel_rfl
theorem Z8J : cal Tryz.prog 8 = true := by kernel_rfl
theorem ZeX : Z1c Tryz.prog 159 = some 4 := by kernel_rfl
theorem Z9i : elN Tryz.prog 128 = some 4 := by kernel_rfl
theorem ZdC : eqB Tryz.prog 10000 93 = some (true, 3) := by kernel_rfl
theorem ZdY : Tryz.prog.eqGuardType Tryz.prog.depth 93 = false := by kernel_rfl
theorem Z2J : Z1n Tryz.prog 159 0 = some 0 := by kernel_rfl
theorem Z2P : Z1n Tryz.prog 159 1 = some 3 := by kernel_rfl
theorem Z9G : Z6N Tryz.prog 128 = true := by kernel_rfl
theorem Zeo : Z1q Tryz.prog 159 = some [(0, 3), (3, 1)] := by kernel_rfl
theorem Zfc : slE Tryz.prog 128 = some (159, 4) := by kernel_rfl
theorem Zc7 : Z0n Tryz.prog 159 = some ([.int .i64 0, .int .i64 0, .int .i64 0, .int .i64 0]) := by kernel_rfl
theorem ZaX {l : List Fat} {k : Nat} {x : Fat} {s : Sta} {m : Int} (h : l[k]? = some x) : Zs (l.take (k + 1)) s m = (Zs (l.take k) s m || (decide (x.1 = s) && decide (x.2 ≤ m))) := by
  rw [Z1p h]; unfold Zs; rw [List.any_append]; simp
theorem Z9I (s u : Sta) : decide (s = u) = decide ([s.stock, s.short, s.dry] = [u.stock, u.short, u.dry]) := by
  obtain ⟨a, b, c⟩ := s
  obtain ⟨a', b', c'⟩ := u
  rw [Bool.eq_iff_iff]
  simp
def Z2N (l : List Fat) (s : Sta) : Int := (Z3d l s).getD (-1)
theorem Zbr {t : Twn} {l : List Fat} {s : Sta} {n : Int} (h : (l.all fun p => p.1.right t && inb p.2 0 1000000) = true) (hm : Z3d l s = some n) : 0 ≤ n := by
  have key : ∀ (l : List Fat) (o : Option Int), (∀ p ∈ l, 0 ≤ p.2) → (∀ n, o = some n → 0 ≤ n) → ∀ n, l.foldl (Z12 s) o = some n → 0 ≤ n := by
    intro l
    induction l with
    | nil => intro o _ h n hn; exact h n hn
    | cons p l ih =>
      intro o hl ho n hn
      refine ih (Z12 s o p) (fun q hq => hl q (by simp [hq])) (fun n hn => ?_) n hn
      have hp := hl p (by simp)
      unfold Z12 at hn
      cases hc : decide (p.1 = s) with
      | false => rw [hc] at hn; exact ho n hn
      | true =>
        rw [hc] at hn
        simp only [cond_true, Option.some.injEq] at hn
        cases o with
        | none => simp only at hn; omega
        | some m => have := ho m rfl; simp only at hn; omega
  exact key l none (fun p hp => (Z9v h hp).2.1) (fun n hn => by cases hn) n hm
theorem ZcJ {t : Twn} {l : List Fat} {k : Nat} {s : Sta} (h : (l.all fun p => p.1.right t && inb p.2 0 1000000) = true) : ∀ n, Z3d (l.take k) s = some n → 0 ≤ n := fun n hn =>
  Zbr (l := l.take k) (List.all_eq_true.2 fun p hp => List.all_eq_true.1 h p (List.mem_of_mem_take hp)) hn
theorem Z9K {l : List Fat} {k : Nat} {s : Sta} {x : Fat} (hx : l[k]? = some x) (h0 : 0 ≤ x.2) (hlo : ∀ n, Z3d (l.take k) s = some n → 0 ≤ n) :
    Z2N (l.take (k + 1)) s = bif decide (x.1 = s) && (decide (Z2N (l.take k) s < 0) || decide (x.2 < Z2N (l.take k) s)) then x.2 else Z2N (l.take k) s := by
  unfold Z2N
  rw [Z1p hx, Z3a]
  unfold Z12
  cases decide (x.1 = s) with
  | false => rfl
  | true =>
    cases hm : Z3d (l.take k) s with
    | none => rfl
    | some n =>
      have := hlo n hm
      simp only [cond_true, Option.getD_some, Bool.true_and]
      rw [decide_eq_false (show ¬ n < 0 by omega), Bool.false_or]
      by_cases h : x.2 < n
      · rw [decide_eq_true h]; simp only [cond_true]; omega
      · rw [decide_eq_false h]; simp only [cond_false]; omega
theorem Z53 (l : List Fat) (n : Nat) (hn : n ≤ l.length) (s : Sta) (most : Int) (a : Option Addr) (c : Nat) (hl : l.length ≤ 9223372036854775807) (H : Zj) (R : Z9) [hR : MemRows a 4 (Zo l) R] :
    FnV Tryz.prog 100 [.slice a l.length c, .int .i64 n, s.v, .int .i64 most] H R (.bool (Zs (l.take n) s most)) := by
  refine Zq Tryz.func100 rfl Tryz.ntmps100 rfl ?_
  refine Z0 ?_
  refine Z1 [0, 1] rfl ?_
  refine bx rfl rfl rfl (fun b6 => ?_)
  refine sp rfl (PE.assign rfl) rfl ?_
  refine Z0 ?_
  refine Z0 ?_
  refine Z1 [0] rfl ?_
  refine sp rfl (PE.assign rfl) rfl ?_
  refine Z7 ?_
  refine Zn (ι := {k : Nat // k ≤ n ∧ Zs (l.take k) s most = false}) (fun k => ⟨[(0, .slice a l.length c), (1, .int .i64 n), (3, .int .i64 most), (6, .pointer (some ⟨b6, 0, none⟩)), (9, .int .i64 k.1)], (b6, cel 93 [.int .i64 s.stock, .int .i64 s.short, .int .i64 s.dry]) :: H, R⟩) (fun k => n - k.1) ⟨0, by omega, by simp [Zs]⟩ ?_ (fun k => ?_)
  ·
   exact Z0i (by repeat' first | exact Sub.nil | apply Sub.cons | rfl | (simp [lk]; omega)) (fun _ h => h)
  ·
   obtain ⟨k, hk, hno⟩ := k
   dsimp only at hk hno ⊢
   refine Z0 ?_
   refine Z0 ?_
   refine Z1 [0, 1, 2] rfl ?_
   refine sp rfl (PE.move rfl) rfl ?_
   refine sp rfl (PE.move rfl) rfl ?_
   refine sp rfl (PE.lss rfl rfl) rfl ?_
   refine Z5 rfl (fun hc0 => ?_) (fun hc0 => ?_)
   ·
    try simp only [decide_eq_true_eq, decide_eq_false_iff_not, Bool.and_eq_true, Bool.or_eq_true, Bool.not_eq_true', Int.not_le, Int.not_lt] at hc0
    obtain ⟨x, hx⟩ : ∃ x, l[k]? = some x := ⟨_, List.getElem?_eq_getElem (by omega)⟩
    have hsu := ZaX (s := s) (m := most) hx
    rw [hno, Bool.false_or, Z9I] at hsu
    refine Zw (a := a) (sz := 4) (rows := Zo l) (by intro h0; simp [Zo] at h0; simp [h0] at hx) (fun ba oa he => ?_)
    subst he
    refine Z3 ?_
    refine Z0 ?_
    refine Z7 ?_
    refine Z0 ?_
    refine Ze [0, 0, 3, 7, 15, 0, 63, 127, 255, 255, 1023, 2047, 4095, 255, 16383, 32767] (.tk 0 (.tk 1 (.tk 2 (.tk 3 (.ld 4 (.ld 5 (.tk 6 (.tk 7 (.tk 8 (.tk 9 (.tk 10 (.tk 11 (.ld 12 (.tk 13 (.tk 14 (.tk 15 .done)))))))))))))))) Zy (by kernel_rfl) ?_
    refine tk rfl (PE.move rfl) rfl ?_
    refine tk rfl (PE.move rfl) rfl ?_
    refine tk rfl (PE.indexAddr Z9i rfl rfl (by omega) (by omega)) rfl ?_
    refine tk rfl (PE.fieldAddr Z2J rfl) rfl ?_
    refine ld rfl rfl (Zfn (j := 0) (row := Z2j x) [_, _, _] Z0w (Z4A hx) rfl rfl) rfl ?_
    refine ld rfl rfl (lhA [_, _, _] Z0w rfl rfl rfl) rfl ?_
    refine tk rfl (PE.eqlAgg [x.1.stock, x.1.short, x.1.dry] [s.stock, s.short, s.dry] (Z13 10000 93 true 3 ZdC) ZdY rfl rfl rfl rfl) rfl ?_
    refine tk rfl (PE.move rfl) rfl ?_
    refine Zg (t := 22) rfl (fun g22 => ?_) (fun g22 => ?_)
    ·
     rw [g22, Bool.true_and] at hsu
     refine tkG rfl rfl rfl rfl (PE.move rfl) rfl ?_
     refine tkG rfl rfl rfl rfl (PE.move rfl) rfl ?_
     refine tkG rfl rfl rfl rfl (PE.indexAddr Z9i rfl rfl (by omega) (by omega)) rfl ?_
     refine tkG rfl rfl rfl rfl (PE.fieldAddr Z2P rfl) rfl ?_
     refine ldG rfl rfl rfl rfl rfl (lf (x := .int .i64 x.2) sc3 (Z4A hx) rfl) rfl ?_
     refine tkG rfl rfl rfl rfl (PE.move rfl) rfl ?_
     refine tkG rfl rfl rfl rfl (PE.leq rfl rfl) rfl ?_
     refine tk rfl (PE.pick rfl rfl rfl) rfl ?_
     refine Z5 rfl (fun hc1 => ?_) (fun hc1 => ?_)
     ·
      rw [hc1] at hsu
      have hyes : Zs (l.take n) s most = true := by
        unfold Zs at hsu ⊢
        obtain ⟨z, hz, hp⟩ := List.any_eq_true.1 hsu
        exact List.any_eq_true.2 ⟨z, (List.take_subset_take_left l (show k + 1 ≤ n by omega)) hz, hp⟩
      refine Z0 ?_
      refine Z1 [0] rfl ?_
      refine sp rfl (PE.assign rfl) rfl ?_
      refine Z4 ?_
      exact Z2 (vs := [_]) rfl (.cons (RV.tmp rfl) .nil) rfl ⟨congrArg Value.bool (by first | exact hyes.symm | exact hno.symm), rfl, rfl⟩ drp
     ·
      rw [hc1] at hsu
      refine Z3 ?_
      refine Z1 [0, 1, 2] rfl ?_
      refine sp rfl (PE.move rfl) rfl ?_
      refine sp rfl (PE.add rfl rfl (by omega)) rfl ?_
      refine sp rfl (PE.assign rfl) rfl ?_
      exact Zb ⟨k + 1, by omega, hsu⟩ (by dsimp only; omega) (by repeat' first | exact Sub.nil | apply Sub.cons | rfl | (simp [lk]; omega)) (fun _ h => h)
    ·
     rw [g22, Bool.false_and] at hsu
     refine tkN rfl rfl rfl rfl rfl rfl rfl rfl ?_
     refine tkN rfl rfl rfl rfl rfl rfl rfl rfl ?_
     refine tkN rfl rfl rfl rfl rfl rfl rfl rfl ?_
     refine tkN rfl rfl rfl rfl rfl rfl rfl rfl ?_
     refine ldN rfl rfl rfl rfl rfl rfl rfl rfl ?_
     refine tkN rfl rfl rfl rfl rfl rfl rfl rfl ?_
     refine tkN rfl rfl rfl rfl rfl rfl rfl rfl ?_
     refine tk rfl (PE.pick rfl rfl rfl) rfl ?_
     refine Zz rfl ?_
     refine Z3 ?_
     refine Z1 [0, 1, 2] rfl ?_
     refine sp rfl (PE.move rfl) rfl ?_
     refine sp rfl (PE.add rfl rfl (by omega)) rfl ?_
     refine sp rfl (PE.assign rfl) rfl ?_
     exact Zb ⟨k + 1, by omega, hsu⟩ (by dsimp only; omega) (by repeat' first | exact Sub.nil | apply Sub.cons | rfl | (simp [lk]; omega)) (fun _ h => h)
   ·
    try simp only [decide_eq_true_eq, decide_eq_false_iff_not, Bool.and_eq_true, Bool.or_eq_true, Bool.not_eq_true', Int.not_le, Int.not_lt] at hc0
    obtain rfl : k = n := by omega
    refine Zk ?_
    refine Zl ?_
    refine Zl ?_
    refine ZH ?_
    refine Z0 ?_
    refine Z1 [0] rfl ?_
    refine sp rfl (PE.assign rfl) rfl ?_
    refine Z4 ?_
    exact Z2 (vs := [_]) rfl (.cons (RV.tmp rfl) .nil) rfl ⟨congrArg Value.bool (by first | exact hyes.symm | exact hno.symm), rfl, rfl⟩ drp
theorem Z4V (t : Twn) (hck : t.check = 0) (l : List Fat) (a : Option Addr) (c : Nat) (hl2 : l.length ≤ 9223372036854775807) (ba oa ca : Nat) (H : Zj) (R : Z9) [hR : MemRows (some ⟨ba, oa, none⟩) 2 (Zf t.rats) R] [hR2 : MemRows a 4 (Zo l) R] :
    FnV Tryz.prog 66 [t.v (t.sl (some ⟨ba, oa, none⟩) ca), .slice a l.length c] H R (.tuple #[.int .i64 (stR t l).1, .int .i64 (stR t l).2]) := by
  have ht := (Zi hck).1
  refine Zq Tryz.func66 rfl Tryz.ntmps66 rfl ?_
  refine Z0 ?_
  refine Z1 [0, 1, 2] rfl ?_
  refine bx rfl rfl rfl (fun b2 => ?_)
  refine sp rfl (PE.assign rfl) rfl ?_
  refine sp rfl (PE.assign rfl) rfl ?_
  refine Z0 ?_
  refine Z0 ?_
  refine Z1 [0, 1, 2] rfl ?_
  refine sp rfl (PE.move rfl) rfl ?_
  refine sp rfl (PE.lenSl Z9G rfl) rfl ?_
  refine sp rfl (PE.gtr rfl rfl) rfl ?_
  refine Z5 rfl (fun hc0 => ?_) (fun hc0 => ?_)
  ·
   try simp only [decide_eq_true_eq, decide_eq_false_iff_not, Bool.and_eq_true, Bool.or_eq_true, Bool.not_eq_true', Int.not_le, Int.not_lt] at hc0
   have hres := Z8X hck (l := l) (by omega)
   refine Z0 ?_
   refine Z1 [0, 1] rfl ?_
   refine sp rfl (PE.assign rfl) rfl ?_
   refine sp rfl (PE.assign rfl) rfl ?_
   refine Z4 ?_
   first
     | exact Z2 (vs := [_, _]) rfl (.cons (RV.tmp rfl) (.cons (RV.tmp rfl) .nil)) (by rw [hres]; rfl) ⟨rfl, rfl, rfl⟩ drp
     | exact Z2 (vs := [_, _]) rfl (.cons (RV.tmp rfl) (.cons (RV.tmp rfl) .nil)) (by rw [show stR t l = (0, 3) from Z3M hck (by omega) (List.all_eq_false.2 ⟨x, List.mem_of_getElem? hx, by rw [hbad]; simp⟩)]; rfl) ⟨rfl, rfl, rfl⟩ drp
     | exact Z2 (vs := [_, _]) rfl (.cons (RV.tmp rfl) (.cons (RV.tmp rfl) .nil)) (by rw [show stR t l = (0, 8) from Z1P hck (by omega) hn (Z08 (pre := []) hx (by rw [List.nil_append, Z1x]; exact List.all_eq_false.2 ⟨q, List.mem_of_getElem? hcl, by rw [hbad]; simp⟩))]; rfl) ⟨rfl, rfl, rfl⟩ drp
  ·
   try simp only [decide_eq_true_eq, decide_eq_false_iff_not, Bool.and_eq_true, Bool.or_eq_true, Bool.not_eq_true', Int.not_le, Int.not_lt] at hc0
   
   refine Z3 ?_
   refine Z0 ?_
   refine Z0 ?_
   refine Z1 [0] rfl ?_
   refine sp rfl (PE.assign rfl) rfl ?_
   refine Z7 ?_
   refine Zn (ι := {k : Nat // k ≤ l.length ∧ ((l.take k).all fun p => p.1.right t && inb p.2 0 1000000) = true}) (fun k => ⟨[(1, .slice a l.length c), (2, .pointer (some ⟨b2, 0, none⟩)), (6, .int .i64 k.1)], (b2, cel 96 (twl t (t.sl (some ⟨ba, oa, none⟩) ca))) :: H, R⟩) (fun k => l.length - k.1) ⟨0, by omega, by simp⟩ ?_ (fun k => ?_)
   ·
    exact Z0i (by repeat' first | exact Sub.nil | apply Sub.cons | rfl | (simp [lk]; omega)) (fun _ h => h)
   ·
    obtain ⟨k, hk, hn⟩ := k
    dsimp only at hk hn ⊢
    refine Z0 ?_
    refine Z0 ?_
    refine Z1 [0, 1, 2, 3] rfl ?_
    refine sp rfl (PE.move rfl) rfl ?_
    refine sp rfl (PE.move rfl) rfl ?_
    refine sp rfl (PE.lenSl Z9G rfl) rfl ?_
    refine sp rfl (PE.lss rfl rfl) rfl ?_
    refine Z5 rfl (fun hc1 => ?_) (fun hc1 => ?_)
    ·
     try simp only [decide_eq_true_eq, decide_eq_false_iff_not, Bool.and_eq_true, Bool.or_eq_true, Bool.not_eq_true', Int.not_le, Int.not_lt] at hc1
     obtain ⟨x, hx⟩ : ∃ x, l[k]? = some x := ⟨_, List.getElem?_eq_getElem (by omega)⟩
     refine Zw (a := a) (sz := 4) (rows := Zo l) (by intro h0; simp [Zo] at h0; simp [h0] at hx) (fun bf of he => ?_)
     subst he
     refine Z3 ?_
     refine Z0 ?_
     refine Z7 ?_
     refine Z0 ?_
     refine Ze [0, 0, 0, 6, 14, 30, 63, 127, 255, 511, 511, 2047, 4095, 8191, 16383, 32767] (.ld 0 (.tk 1 (.tk 2 (.tk 3 (.tk 4 (.ld 5 (.big 6 (.tk 7 (.tk 8 (.tk 9 (.tk 10 (.tk 11 (.tk 12 (.ld 13 (.big 14 (.tk 15 .done)))))))))))))))) Zy (by kernel_rfl) ?_
     refine ld rfl rfl (lhA [_, _, _, _, _, _, _, _, _, _, _] Z0c rfl rfl rfl) rfl ?_
     refine tk rfl (PE.move rfl) rfl ?_
     refine tk rfl (PE.move rfl) rfl ?_
     refine tk rfl (PE.indexAddr Z9i rfl rfl (by omega) (by omega)) rfl ?_
     refine tk rfl (PE.fieldAddr Z2J rfl) rfl ?_
     refine ld rfl rfl (Zfn (j := 0) (row := Z2j x) [_, _, _] Z0w (Z4A hx) rfl rfl) rfl ?_
     refine clV rfl Zah rfl rfl (Z3c t x.1 _ _ _) ?_
     refine bg (fun w hs => ⟨trivial, trivial, trivial⟩) ?_
     refine tk rfl (PE.not rfl) rfl ?_
     refine tk rfl (PE.move rfl) rfl ?_
     refine Zg (t := 31) rfl (fun g31 => ?_) (fun g31 => ?_)
     ·
      have hbad : (x.1.right t && inb x.2 0 1000000) = false := by rw [show x.1.right t = false from by simpa using g31]; rfl
      refine tkN rfl rfl rfl rfl rfl rfl rfl rfl ?_
      refine tkN rfl rfl rfl rfl rfl rfl rfl rfl ?_
      refine tkN rfl rfl rfl rfl rfl rfl rfl rfl ?_
      refine tkN rfl rfl rfl rfl rfl rfl rfl rfl ?_
      refine ldN rfl rfl rfl rfl rfl rfl rfl rfl ?_
      refine spN rfl rfl rfl rfl rfl rfl rfl rfl ?_
      refine bg (fun w hs => ⟨trivial, trivial⟩) ?_
      refine tk rfl (PE.pick rfl rfl rfl) rfl ?_
      refine Zm rfl ?_
      refine Z0 ?_
      refine Z1 [0, 1] rfl ?_
      refine sp rfl (PE.assign rfl) rfl ?_
      refine sp rfl (PE.assign rfl) rfl ?_
      refine Z4 ?_
      first
        | exact Z2 (vs := [_, _]) rfl (.cons (RV.tmp rfl) (.cons (RV.tmp rfl) .nil)) (by rw [hres]; rfl) ⟨rfl, rfl, rfl⟩ drp
        | exact Z2 (vs := [_, _]) rfl (.cons (RV.tmp rfl) (.cons (RV.tmp rfl) .nil)) (by rw [show stR t l = (0, 3) from Z3M hck (by omega) (List.all_eq_false.2 ⟨x, List.mem_of_getElem? hx, by rw [hbad]; simp⟩)]; rfl) ⟨rfl, rfl, rfl⟩ drp
        | exact Z2 (vs := [_, _]) rfl (.cons (RV.tmp rfl) (.cons (RV.tmp rfl) .nil)) (by rw [show stR t l = (0, 8) from Z1P hck (by omega) hn (Z08 (pre := []) hx (by rw [List.nil_append, Z1x]; exact List.all_eq_false.2 ⟨q, List.mem_of_getElem? hcl, by rw [hbad]; simp⟩))]; rfl) ⟨rfl, rfl, rfl⟩ drp
     ·
      have hxr : x.1.right t = true := by simpa using g31
      refine tkG rfl rfl rfl rfl (PE.move rfl) rfl ?_
      refine tkG rfl rfl rfl rfl (PE.move rfl) rfl ?_
      refine tkG rfl rfl rfl rfl (PE.indexAddr Z9i rfl rfl (by omega) (by omega)) rfl ?_
      refine tkG rfl rfl rfl rfl (PE.fieldAddr Z2P rfl) rfl ?_
      refine ldG rfl rfl rfl rfl rfl (lf (x := .int .i64 x.2) sc3 (Z4A hx) rfl) rfl ?_
      refine Z0k rfl rfl rfl rfl Z1R rfl rfl (Z1S _ _ _ _ _) ?_
      refine bg (fun w hs => ⟨trivial, trivial⟩) ?_
      refine tk rfl (PE.pick rfl rfl rfl) rfl ?_
      refine Z5 rfl (fun hc2 => ?_) (fun hc2 => ?_)
      ·
       have hbad : (x.1.right t && inb x.2 0 1000000) = false := by rw [hxr, show inb x.2 0 1000000 = false from by rw [← Bool.not_eq_true']; exact hc2]; rfl
       refine Z0 ?_
       refine Z1 [0, 1] rfl ?_
       refine sp rfl (PE.assign rfl) rfl ?_
       refine sp rfl (PE.assign rfl) rfl ?_
       refine Z4 ?_
       first
         | exact Z2 (vs := [_, _]) rfl (.cons (RV.tmp rfl) (.cons (RV.tmp rfl) .nil)) (by rw [hres]; rfl) ⟨rfl, rfl, rfl⟩ drp
         | exact Z2 (vs := [_, _]) rfl (.cons (RV.tmp rfl) (.cons (RV.tmp rfl) .nil)) (by rw [show stR t l = (0, 3) from Z3M hck (by omega) (List.all_eq_false.2 ⟨x, List.mem_of_getElem? hx, by rw [hbad]; simp⟩)]; rfl) ⟨rfl, rfl, rfl⟩ drp
         | exact Z2 (vs := [_, _]) rfl (.cons (RV.tmp rfl) (.cons (RV.tmp rfl) .nil)) (by rw [show stR t l = (0, 8) from Z1P hck (by omega) hn (Z08 (pre := []) hx (by rw [List.nil_append, Z1x]; exact List.all_eq_false.2 ⟨q, List.mem_of_getElem? hcl, by rw [hbad]; simp⟩))]; rfl) ⟨rfl, rfl, rfl⟩ drp
      ·
       have hgood : (x.1.right t && inb x.2 0 1000000) = true := by rw [hxr, show inb x.2 0 1000000 = true from by rw [← Bool.not_eq_false']; exact hc2]; rfl
       refine Z3 ?_
       refine Z1 [0, 1, 2] rfl ?_
       refine sp rfl (PE.move rfl) rfl ?_
       refine sp rfl (PE.add rfl rfl (by omega)) rfl ?_
       refine sp rfl (PE.assign rfl) rfl ?_
       exact Zb ⟨k + 1, by omega, by rw [Z1p hx, List.all_append, hn]; simp only [List.all_cons, List.all_nil, Bool.and_true, Bool.true_and]; exact hgood⟩ (by dsimp only; omega) (by repeat' first | exact Sub.nil | apply Sub.cons | rfl | (simp [lk]; omega)) (fun _ h => h)
    ·
     try simp only [decide_eq_true_eq, decide_eq_false_iff_not, Bool.and_eq_true, Bool.or_eq_true, Bool.not_eq_true', Int.not_le, Int.not_lt] at hc1
     obtain rfl : k = l.length := by omega
     rw [List.take_length] at hn
     refine Zk ?_
     refine Zl ?_
     refine Zl ?_
     refine ZH ?_
     refine Z0 ?_
     refine Z1 [0] rfl ?_
     refine sp rfl (PE.assign rfl) rfl ?_
     refine Z0 ?_
     refine Z0 ?_
     refine Z1 [0] rfl ?_
     refine sp rfl (PE.assign rfl) rfl ?_
     refine Z7 ?_
     refine Zn (ι := {k : Nat // k ≤ l.length ∧ Z0e t [] (l.take k) = true}) (fun k => ⟨[(1, .slice a l.length c), (2, .pointer (some ⟨b2, 0, none⟩)), (7, .int .i64 (Z2N (l.take k.1) t.now)), (8, .int .i64 k.1)], (b2, cel 96 (twl t (t.sl (some ⟨ba, oa, none⟩) ca))) :: H, R⟩) (fun k => l.length - k.1) ⟨0, by omega, rfl⟩ ?_ (fun k => ?_)
     ·
      exact Z0i (by repeat' first | exact Sub.nil | apply Sub.cons | rfl | (simp [lk]; omega)) (fun _ h => h)
     ·
      obtain ⟨k, hk, hfo⟩ := k
      dsimp only at hk hfo ⊢
      refine Z0 ?_
      refine Z0 ?_
      refine Z1 [0, 1, 2, 3] rfl ?_
      refine sp rfl (PE.move rfl) rfl ?_
      refine sp rfl (PE.move rfl) rfl ?_
      refine sp rfl (PE.lenSl Z9G rfl) rfl ?_
      refine sp rfl (PE.lss rfl rfl) rfl ?_
      refine Z5 rfl (fun hc3 => ?_) (fun hc3 => ?_)
      ·
       try simp only [decide_eq_true_eq, decide_eq_false_iff_not, Bool.and_eq_true, Bool.or_eq_true, Bool.not_eq_true', Int.not_le, Int.not_lt] at hc3
       obtain ⟨x, hx⟩ : ∃ x, l[k]? = some x := ⟨_, List.getElem?_eq_getElem (by omega)⟩
       refine Zw (a := a) (sz := 4) (rows := Zo l) (by intro h0; simp [Zo] at h0; simp [h0] at hx) (fun bf of he => ?_)
       subst he
       obtain ⟨hxr, hx0, hx1⟩ := Z9v hn (List.mem_of_getElem? hx)
       refine Z3 ?_
       refine Z0 ?_
       refine Z7 ?_
       refine Z0 ?_
       refine Z1 [0, 1, 2, 3, 4, 5] rfl ?_
       refine sp rfl (PE.move rfl) rfl ?_
       refine sp rfl (PE.move rfl) rfl ?_
       refine sp rfl (PE.indexAddr Z9i rfl rfl (by omega) (by omega)) rfl ?_
       refine spL rfl rfl (lfA (row := Z2j x) Zev (Z4A hx) rfl) rfl ?_
       refine alc rfl Zc7 rfl (fun b9 => ?_)
       refine sto rfl rfl rfl ZeX rfl rfl rfl rfl ?_
       refine Z0 ?_
       refine Z1 [0, 1, 2, 3, 4] rfl ?_
       refine spL rfl rfl (lhA [_, _, _, _, _, _, _, _, _, _, _] Z0c rfl rfl rfl) rfl ?_
       refine sp rfl (PE.fieldAddr Z2J rfl) rfl ?_
       refine spL rfl rfl (lhA [_, _, _] Z0w rfl rfl rfl) rfl ?_
       refine cl rfl ZaE rfl rfl (Z2s t ht x.1 ba oa ca _ _) ?_
       rintro _ _ R1 ⟨oL, rfl, rfl, hR1⟩
       obtain rfl := hR1.symm
       obtain ⟨aL, cL, hoL, hfL⟩ := oL.freeze
       rw [hoL]
       refine Sy.heap (fun w h => hfL h) ?_
       rw [show (Zh (Z4P t x.1)).length = (Z2G t x.1).length from by rw [Zh, List.length_map, Z1m]]
       refine sp rfl (PE.assign rfl) rfl ?_
       refine Z0 ?_
       refine Z0 ?_
       refine Z1 [0] rfl ?_
       refine sp rfl (PE.assign rfl) rfl ?_
       refine Z7 ?_
       have hcl4 : (Z2G t x.1).length ≤ 4 := by have := Z1m t x.1; have := Z65 t x.1; have := ht.many; omega
       refine Zn (ι := {j : Nat // j ≤ (Z2G t x.1).length ∧ ∀ i q, i < j → (Z2G t x.1)[i]? = some q → (Zs (l.take k) (t.next x.1 q false) x.2 || (decide (x.1.dry < t.run) && Zs (l.take k) (t.next x.1 q true) (x.2 - 1))) = true}) (fun j => ⟨[(1, .slice (some ⟨bf, of, none⟩) l.length c), (2, .pointer (some ⟨b2, 0, none⟩)), (7, .int .i64 (Z2N (l.take k) t.now)), (8, .int .i64 k), (9, .pointer (some ⟨b9, 0, none⟩)), (10, .slice aL (Z2G t x.1).length cL), (11, .int .i64 j.1)], (b9, cel 159 (Z2j x)) :: (b2, cel 96 (twl t (t.sl (some ⟨ba, oa, none⟩) ca))) :: H, RowsA aL 1 (Zh (Z4P t x.1)) :: R⟩) (fun j => (Z2G t x.1).length - j.1) ⟨0, by omega, by omega⟩ ?_ (fun j => ?_)
       ·
        exact Z0i (by repeat' first | exact Sub.nil | apply Sub.cons | rfl | (simp [lk]; omega)) (fun _ h => h)
       ·
        obtain ⟨j, hj, hno⟩ := j
        dsimp only
        refine Z0 ?_
        refine Z0 ?_
        refine Z1 [0, 1, 2, 3] rfl ?_
        refine sp rfl (PE.move rfl) rfl ?_
        refine sp rfl (PE.move rfl) rfl ?_
        refine sp rfl (PE.lenSl Z0p rfl) rfl ?_
        refine sp rfl (PE.lss rfl rfl) rfl ?_
        refine Z5 rfl (fun hc4 => ?_) (fun hc4 => ?_)
        ·
         try simp only [decide_eq_true_eq, decide_eq_false_iff_not, Bool.and_eq_true, Bool.or_eq_true, Bool.not_eq_true', Int.not_le, Int.not_lt] at hc4
         obtain ⟨rr, hrr⟩ : ∃ rr, (Z4P t x.1)[j]? = some rr := ⟨_, List.getElem?_eq_getElem (by rw [Z1m]; omega)⟩
         obtain ⟨q, hr0, hq, hcan, hcl⟩ := Z5z hrr
         have hqm := List.mem_of_getElem? hq
         have hrl := ZbM hr0 hq
         refine Zw (a := aL) (sz := 1) (rows := Zh (Z4P t x.1)) (by intro h0; simp [Zh] at h0; simp [h0] at hrr) (fun bL fL he => ?_)
         subst he
         refine Z3 ?_
         refine Z0 ?_
         refine Z7 ?_
         refine Z0 ?_
         refine Ze [0, 0, 0, 0, 8, 0, 0, 96, 224, 508, 0, 1024, 4095, 8191] (.tk 0 (.tk 1 (.ld 2 (.tk 3 (.ld 4 (.tk 5 (.tk 6 (.tk 7 (.ld 8 (.tk 10 (.ld 11 (.big 9 (.big 12 (.tk 13 .done)))))))))))))) Zy (by kernel_rfl) ?_
         refine tk rfl (PE.move rfl) rfl ?_
         refine tk rfl (PE.move rfl) rfl ?_
         refine ld rfl rfl (lhA [_, _, _, _, _, _, _, _, _, _, _] Z0c rfl rfl rfl) rfl ?_
         refine tk rfl (PE.fieldAddr Z2J rfl) rfl ?_
         refine ld rfl rfl (lhA [_, _, _] Z0w rfl rfl rfl) rfl ?_
         refine tk rfl (PE.move rfl) rfl ?_
         refine tk rfl (PE.move rfl) rfl ?_
         refine tk rfl (PE.indexAddr Z0N rfl rfl (by omega) (by omega)) rfl ?_
         refine ld rfl rfl (lf0 (x := .int .i64 rr) sc3 (by simp [Zh, hrr]; rfl) rfl) rfl ?_
         refine tk rfl (PE.fieldAddr Z2P rfl) rfl ?_
         refine ld rfl rfl (lh sc3 rfl rfl) rfl ?_
         refine clV rfl Z4M rfl rfl (Z19 t ht x.1 hxr rr q false ba oa ca hr0 hq (Z1z hcan) _ _) ?_
         refine bg (fun w hs => ⟨(lh sc3 rfl rfl) w hs, trivial, trivial, trivial, trivial⟩) ?_
         refine clV rfl Zbi rfl rfl (Z53 l k (by omega) (t.next x.1 q false) (x.2) _ c hl2 _ _) ?_
         refine bg (fun w hs => ⟨trivial, trivial⟩) ?_
         refine tk rfl (PE.assign rfl) rfl ?_
         refine Z0 ?_
         refine Ze [0, 1, 3, 0, 8, 31, 63, 127, 127, 127, 127, 1151, 127, 127, 12415, 28799, 65151, 127, 131199, 393343, 1048575, 2097151, 4194303] (.tk 0 (.tk 1 (.ld 2 (.tk 3 (.ld 4 (.tk 5 (.tk 6 (.tk 7 (.tk 8 (.ld 9 (.tk 10 (.ld 11 (.tk 12 (.tk 13 (.tk 14 (.ld 15 (.tk 17 (.ld 18 (.tk 19 (.big 16 (.big 20 (.tk 21 (.tk 22 .done))))))))))))))))))))))) Zy (by kernel_rfl) ?_
         refine tk rfl (PE.fieldAddr Z2J rfl) rfl ?_
         refine tk rfl (PE.fieldAddr Z2V rfl) rfl ?_
         refine ld rfl rfl (lh sc3 rfl rfl) rfl ?_
         refine tk rfl (PE.fieldAddr Z36 rfl) rfl ?_
         refine ld rfl rfl (lh sc3 rfl rfl) rfl ?_
         refine tk rfl (PE.lss rfl rfl) rfl ?_
         refine tk rfl (PE.move rfl) rfl ?_
         refine Zg (t := 78) rfl (fun g78 => ?_) (fun g78 => ?_)
         ·
          refine tkG rfl rfl rfl rfl (PE.move rfl) rfl ?_
          refine tkG rfl rfl rfl rfl (PE.move rfl) rfl ?_
          refine ldG rfl rfl rfl rfl rfl (lhA [_, _, _, _, _, _, _, _, _, _, _] Z0c rfl rfl rfl) rfl ?_
          refine tkG rfl rfl rfl rfl (PE.fieldAddr Z2J rfl) rfl ?_
          refine ldG rfl rfl rfl rfl rfl (lhA [_, _, _] Z0w rfl rfl rfl) rfl ?_
          refine tkG rfl rfl rfl rfl (PE.move rfl) rfl ?_
          refine tkG rfl rfl rfl rfl (PE.move rfl) rfl ?_
          refine tkG rfl rfl rfl rfl (PE.indexAddr Z0N rfl rfl (by omega) (by omega)) rfl ?_
          refine ldG rfl rfl rfl rfl rfl (lf0 (x := .int .i64 rr) sc3 (by simp [Zh, hrr]; rfl) rfl) rfl ?_
          refine tkG rfl rfl rfl rfl (PE.fieldAddr Z2P rfl) rfl ?_
          refine ldG rfl rfl rfl rfl rfl (lh sc3 rfl rfl) rfl ?_
          refine tkG rfl rfl rfl rfl (PE.sub rfl rfl (by omega)) rfl ?_
          refine Z0k rfl rfl rfl rfl Z4M rfl rfl (Z19 t ht x.1 hxr rr q true ba oa ca hr0 hq (Z1z hcan) _ _) ?_
          refine bg (fun w hs => ⟨(lh sc3 rfl rfl) w hs, trivial, trivial, trivial, trivial, trivial, trivial⟩) ?_
          refine Z0k rfl rfl rfl rfl Zbi rfl rfl (Z53 l k (by omega) (t.next x.1 q true) (x.2 - 1) _ c hl2 _ _) ?_
          refine bg (fun w hs => ⟨trivial, trivial⟩) ?_
          refine tk rfl (PE.pick rfl rfl rfl) rfl ?_
          refine tk rfl (PE.assign rfl) rfl ?_
          refine Z0 ?_
          refine Z1 [0, 1, 2, 3, 4, 5] rfl ?_
          refine sp rfl (PE.move rfl) rfl ?_
          refine sp rfl (PE.not rfl) rfl ?_
          refine sp rfl (PE.move rfl) rfl ?_
          refine Zg (t := 96) rfl (fun g96 => ?_) (fun g96 => ?_)
          ·
           have hgd : Zs (l.take k) (t.next x.1 q false) x.2 = false := by simpa using g96
           try have hbad : (Zs (l.take k) (t.next x.1 q false) x.2 || (decide (x.1.dry < t.run) && Zs (l.take k) (t.next x.1 q true) (x.2 - 1))) = false := by rw [hgd, g78]; rfl
           refine spG rfl rfl rfl rfl (PE.move rfl) rfl ?_
           refine spG rfl rfl rfl rfl (PE.not rfl) rfl ?_
           refine sp rfl (PE.pick rfl rfl rfl) rfl ?_
           refine Z5 rfl (fun hc5 => ?_) (fun hc5 => ?_)
           ·
            have hbad : (Zs (l.take k) (t.next x.1 q false) x.2 || (decide (x.1.dry < t.run) && Zs (l.take k) (t.next x.1 q true) (x.2 - 1))) = false := by rw [hgd, g78]; simpa using hc5
            refine Z0 ?_
            refine Z1 [0, 1] rfl ?_
            refine sp rfl (PE.assign rfl) rfl ?_
            refine sp rfl (PE.assign rfl) rfl ?_
            refine Z4 ?_
            first
              | exact Z2 (vs := [_, _]) rfl (.cons (RV.tmp rfl) (.cons (RV.tmp rfl) .nil)) (by rw [hres]; rfl) ⟨rfl, rfl, rfl⟩ drp
              | exact Z2 (vs := [_, _]) rfl (.cons (RV.tmp rfl) (.cons (RV.tmp rfl) .nil)) (by rw [show stR t l = (0, 3) from Z3M hck (by omega) (List.all_eq_false.2 ⟨x, List.mem_of_getElem? hx, by rw [hbad]; simp⟩)]; rfl) ⟨rfl, rfl, rfl⟩ drp
              | exact Z2 (vs := [_, _]) rfl (.cons (RV.tmp rfl) (.cons (RV.tmp rfl) .nil)) (by rw [show stR t l = (0, 8) from Z1P hck (by omega) hn (Z08 (pre := []) hx (by rw [List.nil_append, Z1x]; exact List.all_eq_false.2 ⟨q, List.mem_of_getElem? hcl, by rw [hbad]; simp⟩))]; rfl) ⟨rfl, rfl, rfl⟩ drp
           ·
            have hyes : (Zs (l.take k) (t.next x.1 q false) x.2 || (decide (x.1.dry < t.run) && Zs (l.take k) (t.next x.1 q true) (x.2 - 1))) = true := by rw [hgd, g78]; simpa using hc5
            refine Z3 ?_
            refine Z1 [0, 1, 2] rfl ?_
            refine sp rfl (PE.move rfl) rfl ?_
            refine sp rfl (PE.add rfl rfl (by omega)) rfl ?_
            refine sp rfl (PE.assign rfl) rfl ?_
            exact Zb ⟨j + 1, by omega, fun i q' hi hq' => by
              rcases Nat.lt_or_ge i j with h1 | h1
              · exact hno i q' h1 hq'
              · obtain rfl : i = j := by omega
                rw [hcl] at hq'; cases hq'; exact hyes⟩ (by dsimp only; omega) (by repeat' first | exact Sub.nil | apply Sub.cons | rfl | (simp [lk]; omega)) (fun _ h => h)
          ·
           have hyes : (Zs (l.take k) (t.next x.1 q false) x.2 || (decide (x.1.dry < t.run) && Zs (l.take k) (t.next x.1 q true) (x.2 - 1))) = true := by rw [show Zs (l.take k) (t.next x.1 q false) x.2 = true from by simpa using g96]; rfl
           refine spN rfl rfl rfl rfl rfl rfl rfl rfl ?_
           refine spN rfl rfl rfl rfl rfl rfl rfl rfl ?_
           refine sp rfl (PE.pick rfl rfl rfl) rfl ?_
           refine Zz rfl ?_
           refine Z3 ?_
           refine Z1 [0, 1, 2] rfl ?_
           refine sp rfl (PE.move rfl) rfl ?_
           refine sp rfl (PE.add rfl rfl (by omega)) rfl ?_
           refine sp rfl (PE.assign rfl) rfl ?_
           exact Zb ⟨j + 1, by omega, fun i q' hi hq' => by
             rcases Nat.lt_or_ge i j with h1 | h1
             · exact hno i q' h1 hq'
             · obtain rfl : i = j := by omega
               rw [hcl] at hq'; cases hq'; exact hyes⟩ (by dsimp only; omega) (by repeat' first | exact Sub.nil | apply Sub.cons | rfl | (simp [lk]; omega)) (fun _ h => h)
         ·
          refine tkN rfl rfl rfl rfl rfl rfl rfl rfl ?_
          refine tkN rfl rfl rfl rfl rfl rfl rfl rfl ?_
          refine ldN rfl rfl rfl rfl rfl rfl rfl rfl ?_
          refine tkN rfl rfl rfl rfl rfl rfl rfl rfl ?_
          refine ldN rfl rfl rfl rfl rfl rfl rfl rfl ?_
          refine tkN rfl rfl rfl rfl rfl rfl rfl rfl ?_
          refine tkN rfl rfl rfl rfl rfl rfl rfl rfl ?_
          refine tkN rfl rfl rfl rfl rfl rfl rfl rfl ?_
          refine ldN rfl rfl rfl rfl rfl rfl rfl rfl ?_
          refine tkN rfl rfl rfl rfl rfl rfl rfl rfl ?_
          refine ldN rfl rfl rfl rfl rfl rfl rfl rfl ?_
          refine tkN rfl rfl rfl rfl rfl rfl rfl rfl ?_
          refine spN rfl rfl rfl rfl rfl rfl rfl rfl ?_
          refine bg (fun w hs => ⟨((fun _ _ => True.intro)) w hs, trivial, trivial, trivial, trivial, trivial, trivial⟩) ?_
          refine spN rfl rfl rfl rfl rfl rfl rfl rfl ?_
          refine bg (fun w hs => ⟨trivial, trivial⟩) ?_
          refine tk rfl (PE.pick rfl rfl rfl) rfl ?_
          refine tk rfl (PE.assign rfl) rfl ?_
          refine Z0 ?_
          refine Z1 [0, 1, 2, 3, 4, 5] rfl ?_
          refine sp rfl (PE.move rfl) rfl ?_
          refine sp rfl (PE.not rfl) rfl ?_
          refine sp rfl (PE.move rfl) rfl ?_
          refine Zg (t := 96) rfl (fun g96 => ?_) (fun g96 => ?_)
          ·
           have hgd : Zs (l.take k) (t.next x.1 q false) x.2 = false := by simpa using g96
           try have hbad : (Zs (l.take k) (t.next x.1 q false) x.2 || (decide (x.1.dry < t.run) && Zs (l.take k) (t.next x.1 q true) (x.2 - 1))) = false := by rw [hgd, g78]; rfl
           refine spG rfl rfl rfl rfl (PE.move rfl) rfl ?_
           refine spG rfl rfl rfl rfl (PE.not rfl) rfl ?_
           refine sp rfl (PE.pick rfl rfl rfl) rfl ?_
           refine Zm rfl ?_
           refine Z0 ?_
           refine Z1 [0, 1] rfl ?_
           refine sp rfl (PE.assign rfl) rfl ?_
           refine sp rfl (PE.assign rfl) rfl ?_
           refine Z4 ?_
           first
             | exact Z2 (vs := [_, _]) rfl (.cons (RV.tmp rfl) (.cons (RV.tmp rfl) .nil)) (by rw [hres]; rfl) ⟨rfl, rfl, rfl⟩ drp
             | exact Z2 (vs := [_, _]) rfl (.cons (RV.tmp rfl) (.cons (RV.tmp rfl) .nil)) (by rw [show stR t l = (0, 3) from Z3M hck (by omega) (List.all_eq_false.2 ⟨x, List.mem_of_getElem? hx, by rw [hbad]; simp⟩)]; rfl) ⟨rfl, rfl, rfl⟩ drp
             | exact Z2 (vs := [_, _]) rfl (.cons (RV.tmp rfl) (.cons (RV.tmp rfl) .nil)) (by rw [show stR t l = (0, 8) from Z1P hck (by omega) hn (Z08 (pre := []) hx (by rw [List.nil_append, Z1x]; exact List.all_eq_false.2 ⟨q, List.mem_of_getElem? hcl, by rw [hbad]; simp⟩))]; rfl) ⟨rfl, rfl, rfl⟩ drp
          ·
           have hyes : (Zs (l.take k) (t.next x.1 q false) x.2 || (decide (x.1.dry < t.run) && Zs (l.take k) (t.next x.1 q true) (x.2 - 1))) = true := by rw [show Zs (l.take k) (t.next x.1 q false) x.2 = true from by simpa using g96]; rfl
           refine spN rfl rfl rfl rfl rfl rfl rfl rfl ?_
           refine spN rfl rfl rfl rfl rfl rfl rfl rfl ?_
           refine sp rfl (PE.pick rfl rfl rfl) rfl ?_
           refine Zz rfl ?_
           refine Z3 ?_
           refine Z1 [0, 1, 2] rfl ?_
           refine sp rfl (PE.move rfl) rfl ?_
           refine sp rfl (PE.add rfl rfl (by omega)) rfl ?_
           refine sp rfl (PE.assign rfl) rfl ?_
           exact Zb ⟨j + 1, by omega, fun i q' hi hq' => by
             rcases Nat.lt_or_ge i j with h1 | h1
             · exact hno i q' h1 hq'
             · obtain rfl : i = j := by omega
               rw [hcl] at hq'; cases hq'; exact hyes⟩ (by dsimp only; omega) (by repeat' first | exact Sub.nil | apply Sub.cons | rfl | (simp [lk]; omega)) (fun _ h => h)
        ·
         try simp only [decide_eq_true_eq, decide_eq_false_iff_not, Bool.and_eq_true, Bool.or_eq_true, Bool.not_eq_true', Int.not_le, Int.not_lt] at hc4
         obtain rfl : j = (Z2G t x.1).length := by omega
         have hfx : Z30 t (l.take k) x = true := by
           rw [Z1x]
           refine List.all_eq_true.2 fun q hq => ?_
           obtain ⟨i, hi⟩ := List.getElem?_of_mem hq
           exact hno i q (List.getElem?_eq_some_iff.1 hi).1 hi
         refine Zk ?_
         refine Zl ?_
         refine Zl ?_
         refine ZH ?_
         refine Z0 ?_
         refine Z1 [0, 1, 2, 3, 4, 5, 6, 7, 8, 9, 10, 11, 12, 13, 14] rfl ?_
         have hbv := Z9K (l := l) (k := k) (s := t.now) hx hx0 (ZcJ (l := l) (t := t) (k := k) hn)
         rw [Z9I] at hbv
         refine sp rfl (PE.fieldAddr Z2J rfl) rfl ?_
         refine spL rfl rfl (lhA [_, _, _] Z0w rfl rfl rfl) rfl ?_
         refine sp rfl (PE.fieldAddr Z1G rfl) rfl ?_
         refine spL rfl rfl (lhA [_, _, _] Z0w rfl rfl rfl) rfl ?_
         refine sp rfl (PE.eqlAgg [x.1.stock, x.1.short, x.1.dry] [t.now.stock, t.now.short, t.now.dry] (Z13 10000 93 true 3 ZdC) ZdY rfl rfl rfl rfl) rfl ?_
         refine sp rfl (PE.move rfl) rfl ?_
         refine Zg (t := 105) rfl (fun g105 => ?_) (fun g105 => ?_)
         ·
          rw [g105] at hbv
          refine spG rfl rfl rfl rfl (PE.move rfl) rfl ?_
          refine spG rfl rfl rfl rfl (PE.lss rfl rfl) rfl ?_
          refine spG rfl rfl rfl rfl (PE.move rfl) rfl ?_
          refine Zg (t := 108) rfl (fun g108 => ?_) (fun g108 => ?_)
          ·
           try simp only [decide_eq_true_eq, decide_eq_false_iff_not, Bool.and_eq_true, Bool.or_eq_true, Bool.not_eq_true', Int.not_le, Int.not_lt] at g108
           rw [decide_eq_true g108] at hbv
           refine spN rfl rfl rfl rfl rfl rfl rfl rfl ?_
           refine spN rfl rfl rfl rfl rfl rfl rfl rfl ?_
           refine spN rfl rfl rfl rfl rfl rfl rfl rfl ?_
           refine spN rfl rfl rfl rfl rfl rfl rfl rfl ?_
           refine spG rfl rfl rfl rfl (PE.pick rfl rfl rfl) rfl ?_
           refine sp rfl (PE.pick rfl rfl rfl) rfl ?_
           refine Zm rfl ?_
           refine Z1 [0, 1, 2] rfl ?_
           refine sp rfl (PE.fieldAddr Z2P rfl) rfl ?_
           refine spL rfl rfl (lh sc3 rfl rfl) rfl ?_
           refine sp rfl (PE.assign rfl) rfl ?_
           refine Z1 [0, 1, 2] rfl ?_
           refine sp rfl (PE.move rfl) rfl ?_
           refine sp rfl (PE.add rfl rfl (by omega)) rfl ?_
           refine sp rfl (PE.assign rfl) rfl ?_
           replace hbv := hbv.trans (show _ = _ from rfl)
           exact Zb ⟨k + 1, by omega, Z0T hx hfo hfx⟩ (by dsimp only; omega) (by dsimp only; rw [hbv]; exact (by repeat' first | exact Sub.nil | apply Sub.cons | rfl | (simp [lk]; omega))) (fun w h => ((h.del b9 : St _ _ _).ftail))
          ·
           try simp only [decide_eq_true_eq, decide_eq_false_iff_not, Bool.and_eq_true, Bool.or_eq_true, Bool.not_eq_true', Int.not_le, Int.not_lt] at g108
           rw [decide_eq_false (show ¬ Z2N (l.take k) t.now < 0 by omega)] at hbv
           refine spG rfl rfl rfl rfl (PE.fieldAddr Z2P rfl) rfl ?_
           refine Z03 rfl rfl rfl rfl rfl (lh sc3 rfl rfl) rfl ?_
           refine spG rfl rfl rfl rfl (PE.move rfl) rfl ?_
           refine spG rfl rfl rfl rfl (PE.lss rfl rfl) rfl ?_
           refine spG rfl rfl rfl rfl (PE.pick rfl rfl rfl) rfl ?_
           refine sp rfl (PE.pick rfl rfl rfl) rfl ?_
           refine Z5 rfl (fun hc6 => ?_) (fun hc6 => ?_)
           ·
            try simp only [decide_eq_true_eq, decide_eq_false_iff_not, Bool.and_eq_true, Bool.or_eq_true, Bool.not_eq_true', Int.not_le, Int.not_lt] at hc6
            try rw [decide_eq_true hc6] at hbv
            refine Z1 [0, 1, 2] rfl ?_
            refine sp rfl (PE.fieldAddr Z2P rfl) rfl ?_
            refine spL rfl rfl (lh sc3 rfl rfl) rfl ?_
            refine sp rfl (PE.assign rfl) rfl ?_
            refine Z1 [0, 1, 2] rfl ?_
            refine sp rfl (PE.move rfl) rfl ?_
            refine sp rfl (PE.add rfl rfl (by omega)) rfl ?_
            refine sp rfl (PE.assign rfl) rfl ?_
            replace hbv := hbv.trans (show _ = _ from rfl)
            exact Zb ⟨k + 1, by omega, Z0T hx hfo hfx⟩ (by dsimp only; omega) (by dsimp only; rw [hbv]; exact (by repeat' first | exact Sub.nil | apply Sub.cons | rfl | (simp [lk]; omega))) (fun w h => ((h.del b9 : St _ _ _).ftail))
           ·
            try simp only [decide_eq_true_eq, decide_eq_false_iff_not, Bool.and_eq_true, Bool.or_eq_true, Bool.not_eq_true', Int.not_le, Int.not_lt] at hc6
            try rw [decide_eq_false (show ¬ x.2 < Z2N (l.take k) t.now by omega)] at hbv
            refine Z3 ?_
            refine Z1 [0, 1, 2] rfl ?_
            refine sp rfl (PE.move rfl) rfl ?_
            refine sp rfl (PE.add rfl rfl (by omega)) rfl ?_
            refine sp rfl (PE.assign rfl) rfl ?_
            replace hbv := hbv.trans (show _ = _ from rfl)
            exact Zb ⟨k + 1, by omega, Z0T hx hfo hfx⟩ (by dsimp only; omega) (by dsimp only; rw [hbv]; exact (by repeat' first | exact Sub.nil | apply Sub.cons | rfl | (simp [lk]; omega))) (fun w h => ((h.del b9 : St _ _ _).ftail))
         ·
          rw [g105] at hbv
          refine spN rfl rfl rfl rfl rfl rfl rfl rfl ?_
          refine spN rfl rfl rfl rfl rfl rfl rfl rfl ?_
          refine spN rfl rfl rfl rfl rfl rfl rfl rfl ?_
          refine spU rfl rfl rfl rfl rfl rfl rfl ?_
          refine spU rfl rfl rfl rfl rfl rfl rfl ?_
          refine spU rfl rfl rfl rfl rfl rfl rfl ?_
          refine spU rfl rfl rfl rfl rfl rfl rfl ?_
          refine spN rfl rfl rfl rfl rfl rfl rfl rfl ?_
          refine sp rfl (PE.pick rfl rfl rfl) rfl ?_
          refine Zz rfl ?_
          refine Z3 ?_
          refine Z1 [0, 1, 2] rfl ?_
          refine sp rfl (PE.move rfl) rfl ?_
          refine sp rfl (PE.add rfl rfl (by omega)) rfl ?_
          refine sp rfl (PE.assign rfl) rfl ?_
          replace hbv := hbv.trans (show _ = _ from rfl)
          exact Zb ⟨k + 1, by omega, Z0T hx hfo hfx⟩ (by dsimp only; omega) (by dsimp only; rw [hbv]; exact (by repeat' first | exact Sub.nil | apply Sub.cons | rfl | (simp [lk]; omega))) (fun w h => ((h.del b9 : St _ _ _).ftail))
      ·
       try simp only [decide_eq_true_eq, decide_eq_false_iff_not, Bool.and_eq_true, Bool.or_eq_true, Bool.not_eq_true', Int.not_le, Int.not_lt] at hc3
       obtain rfl : k = l.length := by omega
       rw [List.take_length] at hfo
       have hst := Zbz hck (by omega) hn hfo
       rw [show Z2N (l.take l.length) t.now = Z2N l t.now from by rw [List.take_length]]
       refine Zk ?_
       refine Zl ?_
       refine Zl ?_
       refine ZH ?_
       refine Z0 ?_
       refine Z0 ?_
       refine Z1 [0, 1] rfl ?_
       refine sp rfl (PE.move rfl) rfl ?_
       refine sp rfl (PE.lss rfl rfl) rfl ?_
       refine Z5 rfl (fun hc7 => ?_) (fun hc7 => ?_)
       ·
        try simp only [decide_eq_true_eq, decide_eq_false_iff_not, Bool.and_eq_true, Bool.or_eq_true, Bool.not_eq_true', Int.not_le, Int.not_lt] at hc7
        have hres : stR t l = (0, 6) := by rw [hst]; cases hm : Z3d l t.now with
          | none => rfl
          | some n => have := Zbr hn hm; unfold Z2N at hc7; rw [hm] at hc7; simp only [Option.getD_some] at hc7; omega
        refine Z0 ?_
        refine Z1 [0, 1] rfl ?_
        refine sp rfl (PE.assign rfl) rfl ?_
        refine sp rfl (PE.assign rfl) rfl ?_
        refine Z4 ?_
        first
          | exact Z2 (vs := [_, _]) rfl (.cons (RV.tmp rfl) (.cons (RV.tmp rfl) .nil)) (by rw [hres]; rfl) ⟨rfl, rfl, rfl⟩ drp
          | exact Z2 (vs := [_, _]) rfl (.cons (RV.tmp rfl) (.cons (RV.tmp rfl) .nil)) (by rw [show stR t l = (0, 3) from Z3M hck (by omega) (List.all_eq_false.2 ⟨x, List.mem_of_getElem? hx, by rw [hbad]; simp⟩)]; rfl) ⟨rfl, rfl, rfl⟩ drp
          | exact Z2 (vs := [_, _]) rfl (.cons (RV.tmp rfl) (.cons (RV.tmp rfl) .nil)) (by rw [show stR t l = (0, 8) from Z1P hck (by omega) hn (Z08 (pre := []) hx (by rw [List.nil_append, Z1x]; exact List.all_eq_false.2 ⟨q, List.mem_of_getElem? hcl, by rw [hbad]; simp⟩))]; rfl) ⟨rfl, rfl, rfl⟩ drp
       ·
        try simp only [decide_eq_true_eq, decide_eq_false_iff_not, Bool.and_eq_true, Bool.or_eq_true, Bool.not_eq_true', Int.not_le, Int.not_lt] at hc7
        have hres : stR t l = (Z2N l t.now, 0) := by rw [hst]; cases hm : Z3d l t.now with
          | none => unfold Z2N at hc7; rw [hm] at hc7; simp at hc7
          | some n => unfold Z2N; rw [hm]; rfl
        refine Z3 ?_
        refine Z0 ?_
        refine Z1 [0, 1, 2] rfl ?_
        refine sp rfl (PE.move rfl) rfl ?_
        refine sp rfl (PE.assign rfl) rfl ?_
        refine sp rfl (PE.assign rfl) rfl ?_
        refine Z4 ?_
        first
          | exact Z2 (vs := [_, _]) rfl (.cons (RV.tmp rfl) (.cons (RV.tmp rfl) .nil)) (by rw [hres]; rfl) ⟨rfl, rfl, rfl⟩ drp
          | exact Z2 (vs := [_, _]) rfl (.cons (RV.tmp rfl) (.cons (RV.tmp rfl) .nil)) (by rw [show stR t l = (0, 3) from Z3M hck (by omega) (List.all_eq_false.2 ⟨x, List.mem_of_getElem? hx, by rw [hbad]; simp⟩)]; rfl) ⟨rfl, rfl, rfl⟩ drp
          | exact Z2 (vs := [_, _]) rfl (.cons (RV.tmp rfl) (.cons (RV.tmp rfl) .nil)) (by rw [show stR t l = (0, 8) from Z1P hck (by omega) hn (Z08 (pre := []) hx (by rw [List.nil_append, Z1x]; exact List.all_eq_false.2 ⟨q, List.mem_of_getElem? hcl, by rw [hbad]; simp⟩))]; rfl) ⟨rfl, rfl, rfl⟩ drp
theorem Zbm (l : List Fat) (a : Option Addr) (c : Nat) (hl : l.length ≤ 1000000) (H : Zj) (R : Z9) [hR : MemRows a 4 (Zo l) R] :
    Fn Tryz.prog 67 [.slice a l.length c] H R (fun v H' R' => ∃ a' c', v = .slice a' l.length c' ∧ H' = H ∧ R' = RowsA a' 4 (Zo l) :: R) := by
  refine Zq Tryz.func67 rfl Tryz.ntmps67 rfl ?_
  refine Z0 ?_
  refine Z1 [0] rfl ?_
  refine sp rfl (PE.assign rfl) rfl ?_
  refine Z0 ?_
  refine Z1 [0] rfl ?_
  refine sp rfl (PE.assign rfl) rfl ?_
  refine Z0 ?_
  refine Z0 ?_
  refine Z1 [0, 1, 2] rfl ?_
  refine sp rfl (PE.move rfl) rfl ?_
  refine sp rfl (PE.lenSl Z2Q rfl) rfl ?_
  refine sp rfl (PE.move rfl) rfl ?_
  refine Z7 ?_
  refine Zn (ι := (k : {k : Nat // k ≤ l.length}) × OSl 159 4 (Zo (l.take k.1))) (fun x => ⟨[(3, x.2.fs), (6, .slice a l.length c), (7, .int .i64 l.length), (8, .int .i64 x.1.1)], x.2.G ++ H, R⟩) (fun x => l.length - x.1.1) ⟨⟨0, by omega⟩, (OSl.nil _ _).cast (by simp [Zo])⟩ ?_ (fun x => ?_)
  ·
   exact Z0i (by repeat' first | exact Sub.nil | apply Sub.cons | rfl | (simp [lk]; omega)) (fun _ h => h)
  ·
   obtain ⟨⟨k, hk⟩, o'⟩ := x
   dsimp only at o' ⊢
   refine Z0 ?_
   refine Z1 [0] rfl ?_
   refine sp rfl (PE.lss rfl rfl) rfl ?_
   refine Z0 ?_
   refine Z5 rfl (fun hc0 => ?_) (fun hc0 => ?_)
   ·
    try simp only [decide_eq_true_eq, decide_eq_false_iff_not, Bool.and_eq_true, Bool.or_eq_true, Bool.not_eq_true', Int.not_le, Int.not_lt] at hc0
    obtain ⟨x, hx⟩ : ∃ x, l[k]? = some x := ⟨_, List.getElem?_eq_getElem (by omega)⟩
    refine Zw (a := a) (sz := 4) (rows := Zo l) (by intro h0; simp [Zo] at h0; simp [h0] at hx) (fun bf of he => ?_)
    subst he
    refine Z3 ?_
    refine Z0 ?_
    refine Z7 ?_
    refine Z0 ?_
    refine Z1 [0, 1, 2, 3] rfl ?_
    refine sp rfl (PE.indexAddr Z8H rfl rfl (by omega) (by omega)) rfl ?_
    refine spL rfl rfl (lfA (row := Z2j x) ZbI (Z4A hx) rfl) rfl ?_
    refine alc rfl Z4S rfl (fun b5 => ?_)
    refine sto rfl rfl rfl Zec rfl rfl rfl rfl ?_
    refine Z1 [0, 1, 2, 3, 4, 5, 6, 7, 8] rfl ?_
    refine sp rfl (PE.move rfl) rfl ?_
    refine sp rfl (PE.fieldAddr Z2E rfl) rfl ?_
    refine spL rfl rfl (lhA [_, _, _] ZF rfl rfl rfl) rfl ?_
    refine sp rfl (PE.fieldAddr Z4a rfl) rfl ?_
    refine spL rfl rfl (lh sc3 rfl rfl) rfl ?_
    refine sp rfl (PE.build (out := [_, _, _, _]) Zeo Zc7 rfl rfl) rfl ?_
    refine bsl (out := [_, _, _, _]) rfl Zfc Zc7 rfl rfl rfl rfl rfl rfl (fun b18 => ?_)
    refine apO (o') rfl Zf0 rfl rfl (Z3e (row := Z2j x) rfl) rfl rfl ((by simp only [Zo, List.length_map, List.length_take, List.length_singleton]; omega)) rfl (fun o19 => ?_)
    refine sp rfl (PE.assign rfl) rfl ?_
    refine Z1 [0, 1] rfl ?_
    refine sp rfl (PE.add rfl rfl (by omega)) rfl ?_
    refine sp rfl (PE.move rfl) rfl ?_
    exact Zb ⟨⟨k + 1, by omega⟩, o19.cast (by rw [List.take_add_one, hx]; simp [Zo])⟩ (by dsimp only; omega) (by repeat' first | exact Sub.nil | apply Sub.cons | rfl | (simp [lk]; omega)) (fun w h => (h.del b18).del b5)
   ·
    try simp only [decide_eq_true_eq, decide_eq_false_iff_not, Bool.and_eq_true, Bool.or_eq_true, Bool.not_eq_true', Int.not_le, Int.not_lt] at hc0
    obtain rfl : k = l.length := by omega
    obtain ⟨a', c', he, hf⟩ := (o'.cast (by rw [List.take_length]) : OSl _ 4 (Zo l)).freeze
    rw [show o'.fs = _ from he]
    refine Sy.heap (fun w h => hf h) ?_
    rw [show (Zo l).length = l.length from List.length_map _]
    refine Zk ?_
    refine Zl ?_
    refine Zl ?_
    refine ZH ?_
    refine Z0 ?_
    refine Z1 [0, 1] rfl ?_
    refine sp rfl (PE.move rfl) rfl ?_
    refine sp rfl (PE.assign rfl) rfl ?_
    refine Z4 ?_
    exact Z2 (vs := [_]) rfl (.cons (RV.tmp rfl) .nil) rfl ⟨a', c', rfl, rfl, rfl⟩ (fun _ h => h)
theorem Z3G (xs : List Fat) (a : Option Addr) (c : Nat) (hl : xs.length ≤ 1000000) (H : Zj) (R : Z9) [hR : MemRows a 4 (Zo xs) R] :
    Fn Tryz.prog 16 [.slice a xs.length c] H R (fun v H' R' => ∃ o : OSl 41 4 (Zo xs), v = o.fs ∧ H' = o.G ++ H ∧ R' = R) := by
  refine Zq Tryz.func16 rfl Tryz.ntmps16 rfl ?_
  refine Z0 ?_
  refine Z1 [0] rfl ?_
  refine sp rfl (PE.assign rfl) rfl ?_
  refine Z0 ?_
  refine Z0 ?_
  refine Z1 [0, 1] rfl ?_
  refine sp rfl (PE.move rfl) rfl ?_
  refine sp rfl (PE.eqlNil Z2Q rfl rfl) rfl ?_
  refine Z5 rfl (fun hc0 => ?_) (fun hc0 => ?_)
  ·
   refine Sy.pre (fun w h => Z7q (h.now hR.mem) hc0) (fun hnil => ?_)
   obtain rfl : xs = [] := by simpa [Zo] using hnil
   refine Z0 ?_
   refine Z1 [0] rfl ?_
   refine sp rfl (PE.assign rfl) rfl ?_
   refine Z4 ?_
   first
     | exact Z2 (vs := [_]) rfl (.cons (RV.tmp rfl) .nil) rfl ⟨o2.cast (by simp), rfl, rfl, rfl⟩ (fun _ h => h)
     | exact Z2 (vs := [_]) rfl (.cons (RV.tmp rfl) .nil) rfl ⟨OSl.nil _ _, rfl, rfl, rfl⟩ (fun _ h => h)
  ·
   refine Z3 ?_
   refine Z0 ?_
   refine Z1 [0, 1, 2, 3] rfl ?_
   refine Zdg rfl Zfx rfl (fun o5 ho5 => ?_)
   refine sp rfl (PE.move rfl) rfl ?_
   refine Zbg (news := Zo xs) o5 rfl Z4T rfl rfl (Z6F) (by simp [Zo]) (by simp [Z0C, Zo, Z2j, Value.oneCell']) ⟨by simp [Zo]; omega, by simp [Zo]; omega⟩ rfl ho5 (fun o2 ho2 => ?_)
   refine sp rfl (PE.assign rfl) rfl ?_
   refine Z4 ?_
   first
     | exact Z2 (vs := [_]) rfl (.cons (RV.tmp rfl) .nil) rfl ⟨o2.cast (by simp), rfl, rfl, rfl⟩ (fun _ h => h)
     | exact Z2 (vs := [_]) rfl (.cons (RV.tmp rfl) .nil) rfl ⟨OSl.nil _ _, rfl, rfl, rfl⟩ (fun _ h => h)
theorem Zbj {s : Sta} : ∀ (l : List Fat) (kv : KV) (o : Option Int), (kv.get [s.stock, s.short, s.dry]).isSome = o.isSome → ((l.foldl (fun (kv : KV) p => kv.put [p.1.stock, p.1.short, p.1.dry] (.int .i64 p.2)) kv).get [s.stock, s.short, s.dry]).isSome = (l.foldl (Z12 s) o).isSome
  | [], _, _, h => h
  | p :: l, kv, o, h => by
    refine Zbj l _ (Z12 s o p) ?_
    rw [KV.get_put]
    unfold Z12
    rw [Z9I]
    cases decide ([p.1.stock, p.1.short, p.1.dry] = [s.stock, s.short, s.dry]) with
    | true => rfl
    | false => exact h
theorem Z7V (l : List Fat) (s : Sta) : ((Z3q l).get [s.stock, s.short, s.dry]).isSome = (Z3d l s).isSome := Zbj l [] none rfl
theorem Z7H {t : Twn} (ht : t.ok) {σ : Sv} (h : Z3w t σ) {s : Sta} (hs : s.right t = true) : (Z3d σ.fl s).isSome = !decide (lat (LY t) s = 1000000) := by
  rw [(Z4h ht h).1.at_ s hs, ← (Z0P ht h).same ht s hs]
  unfold Z3b
  cases decide (lat σ.y s = 1000000) <;> rfl
theorem Zc3 (t : Twn) (hl : t.rats.length ≤ 9223372036854775807) (ba oa ca : Nat) (H : Zj) (R : Z9) [hR : MemRows (some ⟨ba, oa, none⟩) 2 (Zf t.rats) R] :
    Fn Tryz.prog 6 [t.v (t.sl (some ⟨ba, oa, none⟩) ca)] H R (fun v H' R' => ∃ (l : List Fat) (o : OSl 41 4 (Zo l)), v = .tuple #[o.fs, .int .i64 (Z3f t)] ∧ H' = o.G ++ H ∧ R' = R ∧ l.length ≤ 496 ∧ (Z3f t ≠ 0 → l = []) ∧ (Z3f t = 0 → t.check = 0 ∧ LSA t (LY t) ∧ lat (LY t) t.now ≠ 1000000 ∧ stR t l = (lat (LY t) t.now + 1, 0))) := by
  refine Zq Tryz.func6 rfl Tryz.ntmps6 rfl ?_
  refine Z0 ?_
  refine Z1 [0, 1, 2] rfl ?_
  refine bx rfl rfl rfl (fun b1 => ?_)
  refine sp rfl (PE.assign rfl) rfl ?_
  refine sp rfl (PE.assign rfl) rfl ?_
  refine Z0 ?_
  refine Z1 [0, 1, 2, 3, 4, 5, 6] rfl ?_
  refine spL rfl rfl (lhA [_, _, _, _, _, _, _, _, _, _, _] Zd rfl rfl rfl) rfl ?_
  refine cl rfl Z6A rfl rfl (Z2w t hl ba oa ca _ _) ?_
  rintro _ _ _ (⟨hck, rfl, rfl, rfl⟩ | ⟨hck, bw, m, bt, σ, o, hσ, rfl, rfl, rfl⟩)
  ·
   refine sp rfl (PE.move rfl) rfl ?_
   refine sp rfl (PE.extract rfl rfl) rfl ?_
   refine sp rfl (PE.extract rfl rfl) rfl ?_
   refine sp rfl (PE.assign rfl) rfl ?_
   refine sp rfl (PE.assign rfl) rfl ?_
   refine Z0 ?_
   refine Z0 ?_
   refine Z1 [0, 1] rfl ?_
   refine sp rfl (PE.move rfl) rfl ?_
   refine sp rfl (PE.neq rfl rfl) rfl ?_
   refine Zm (congrArg (fun b => some (Value.bool b)) (decide_eq_true hck)) ?_
   refine Z0 ?_
   refine Z1 [0, 1, 2] rfl ?_
   refine sp rfl (PE.move rfl) rfl ?_
   refine sp rfl (PE.assign rfl) rfl ?_
   refine sp rfl (PE.assign rfl) rfl ?_
   refine Z4 ?_
   have hfe : Z3f t = t.check := by simp [Z3f, hck]
   exact Z2 (vs := [_, _]) rfl (.cons (RV.tmp rfl) (.cons (RV.tmp rfl) .nil)) (by rw [hfe]; rfl) ⟨[], OSl.nil _ _, rfl, rfl, rfl, by simp, fun _ => rfl, fun h => absurd (hfe ▸ h) hck⟩ (fun _ h => by repeat first | exact h | replace h := St.tail h | replace h := St.ftail h | replace h := St.drop h)
  ·
   have hok := (Zi hck).1
   have hsl := Z2l hok hσ
   obtain ⟨hfl, hfn⟩ := Z4h hok hσ
   have hlsa := Z0P hok hσ
   have hev := (Z7V σ.fl t.now).trans (Z7H hok hσ hok.now)
   refine sp rfl (PE.move rfl) rfl ?_
   refine sp rfl (PE.extract rfl rfl) rfl ?_
   refine sp rfl (PE.extract rfl rfl) rfl ?_
   refine sp rfl (PE.assign rfl) rfl ?_
   refine sp rfl (PE.assign rfl) rfl ?_
   refine Z0 ?_
   refine Z0 ?_
   refine Z1 [0, 1] rfl ?_
   refine sp rfl (PE.move rfl) rfl ?_
   refine sp rfl (PE.neq rfl rfl) rfl ?_
   refine Zz (rfl) ?_
   refine Z3 ?_
   refine Z0 ?_
   refine Z0 ?_
   refine Ze [0, 1, 3, 7, 0, 16, 63, 127, 255, 255, 511, 2047] (.tk 0 (.tk 1 (.tk 2 (.ld 3 (.tk 4 (.ld 5 (.ld 6 (.tk 7 (.tk 8 (.tk 9 (.tk 10 (.tk 11 .done)))))))))))) Zy (by kernel_rfl) ?_
   refine tk rfl (PE.move rfl) rfl ?_
   refine tk rfl (PE.nilCheck rfl) rfl ?_
   refine tk rfl (PE.fieldAddr Z5e rfl) rfl ?_
   refine ld rfl rfl (lh ZcT rfl (Z3s hsl)) rfl ?_
   refine tk rfl (PE.fieldAddr Z0a rfl) rfl ?_
   refine ld rfl rfl (lhA [_, _, _] ZF rfl rfl rfl) rfl ?_
   refine ldK rfl rfl rfl (Z4K (Z3q σ.fl) [t.now.stock, t.now.short, t.now.dry] Z8E (KeyT.of Z3S Z8w) (Z6g zv3) rfl (Z5v _) true) rfl ?_
   rw [hev]
   refine tk rfl (PE.move rfl) rfl ?_
   refine tk rfl (PE.extract rfl rfl) rfl ?_
   refine tk rfl (PE.extract rfl rfl) rfl ?_
   refine tk rfl (PE.assign rfl) rfl ?_
   refine tk rfl (PE.assign rfl) rfl ?_
   refine Z0 ?_
   refine Z1 [0, 1] rfl ?_
   refine sp rfl (PE.move rfl) rfl ?_
   refine sp rfl (PE.not rfl) rfl ?_
   refine Z5 rfl (fun hc1 => ?_) (fun hc1 => ?_)
   ·
    have hlv : lat (LY t) t.now = 1000000 := by simpa using hc1
    have hfe : Z3f t = 6 := by simp [Z3f, hck, hlv]
    refine Z0 ?_
    refine Z1 [0, 1] rfl ?_
    refine sp rfl (PE.assign rfl) rfl ?_
    refine sp rfl (PE.assign rfl) rfl ?_
    refine Z4 ?_
    first
      | exact Z2 (vs := [_, _]) rfl (.cons (RV.tmp rfl) (.cons (RV.tmp rfl) .nil)) (by rw [hfe]; rfl) ⟨[], OSl.nil _ _, rfl, rfl, rfl, by simp, fun _ => rfl, fun h => by rw [hfe] at h; cases h⟩ (fun w h => (((((h.del b1).del bw).del m).ftail).drop))
      | exact Z2 (vs := [_, _]) rfl (.cons (RV.tmp rfl) (.cons (RV.tmp rfl) .nil)) (by rw [hfe]; rfl) ⟨σ.fl, oc, rfl, rfl, rfl, hfn, fun h => absurd hfe h, fun _ => ⟨hck, hlsa.ly hok, hlv, hst⟩⟩ (fun w h => (((h.del b1).del bw).del m).ftail.ftail)
   ·
    have hlv : lat (LY t) t.now ≠ 1000000 := by simpa using hc1
    have hfe : Z3f t = 0 := by simp [Z3f, hck, hlv]
    have hst := Zd2 hck hσ (by rw [hlsa.same hok _ hok.now]; exact hlv)
    rw [hlsa.same hok _ hok.now] at hst
    refine Z3 ?_
    refine Z0 ?_
    refine Z1 [0, 1, 2, 3, 4, 5, 6] rfl ?_
    obtain ⟨a', c', ho, hf⟩ := o.freeze
    rw [ho]
    refine Sy.heap (fun w h => hf h) ?_
    rw [show (Zo σ.fl).length = σ.fl.length from List.length_map _]
    refine sp rfl (PE.move rfl) rfl ?_
    refine sp rfl (PE.nilCheck rfl) rfl ?_
    refine sp rfl (PE.fieldAddr Z7s rfl) rfl ?_
    refine spL rfl rfl (lh Zeb rfl (Z3V hsl)) rfl ?_
    refine cl rfl ZdJ rfl rfl (Z3G σ.fl a' c' (by omega) _ _) ?_
    rintro _ _ _ ⟨oc, rfl, rfl, rfl⟩
    refine sp rfl (PE.assign rfl) rfl ?_
    refine sp rfl (PE.assign rfl) rfl ?_
    refine Z4 ?_
    first
      | exact Z2 (vs := [_, _]) rfl (.cons (RV.tmp rfl) (.cons (RV.tmp rfl) .nil)) (by rw [hfe]; rfl) ⟨[], OSl.nil _ _, rfl, rfl, rfl, by simp, fun _ => rfl, fun h => by rw [hfe] at h; cases h⟩ (fun w h => (((((h.del b1).del bw).del m).ftail).drop))
      | exact Z2 (vs := [_, _]) rfl (.cons (RV.tmp rfl) (.cons (RV.tmp rfl) .nil)) (by rw [hfe]; rfl) ⟨σ.fl, oc, rfl, rfl, rfl, hfn, fun h => absurd hfe h, fun _ => ⟨hck, hlsa.ly hok, hlv, hst⟩⟩ (fun w h => (((h.del b1).del bw).del m).ftail.ftail)
theorem Z6h (t : Twn) (a : Option Addr) (c : Nat) (hl : t.rats.length ≤ 9223372036854775807) (l : List Fat) (a2 : Option Addr) (c2 : Nat) (hl2 : l.length ≤ 9223372036854775807) (H : Zj) (R : Z9) [hR : MemRows a 2 (Zf t.rats) R] [hR2 : MemRows a2 4 (Zo l) R] :
    Fn Tryz.prog 21 [t.v (t.sl a c), .slice a2 l.length c2] H R (fun v H' R' => v = .bool true ∧ H' = H ∧ R' = R) := by
  refine Zq Tryz.func21 rfl Tryz.ntmps21 rfl ?_
  refine Z0 ?_
  refine Z1 [0, 1] rfl ?_
  refine bx rfl rfl rfl (fun b2 => ?_)
  refine sp rfl (PE.assign rfl) rfl ?_
  refine Z0 ?_
  refine Z0 ?_
  refine Z1 [0, 1, 2, 3, 4, 5, 6] rfl ?_
  refine spL rfl rfl (lhA [_, _, _, _, _, _, _, _, _, _, _] Zd rfl rfl rfl) rfl ?_
  refine clV rfl Zcm rfl rfl (Z9F t a c (by omega) _ _) ?_
  refine sp rfl (PE.move rfl) rfl ?_
  refine Zg (t := 19) rfl (fun g19 => ?_) (fun g19 => ?_)
  ·
   refine spN rfl rfl rfl rfl rfl rfl rfl rfl ?_
   refine spN rfl rfl rfl rfl rfl rfl rfl rfl ?_
   refine spN rfl rfl rfl rfl rfl rfl rfl rfl ?_
   refine sp rfl (PE.pick rfl rfl rfl) rfl ?_
   refine Zm rfl ?_
   refine Z0 ?_
   refine Z1 [0, 1] rfl ?_
   refine clV rfl Z1f rfl rfl (Z00 _ _) ?_
   refine sp rfl (PE.assign rfl) rfl ?_
   refine Z4 ?_
   exact Z2 (vs := [_]) rfl (.cons (RV.tmp rfl) .nil) rfl ⟨rfl, rfl, rfl⟩ drp
  ·
   have h7 := Z5y g19
   refine spG rfl rfl rfl rfl (PE.move rfl) rfl ?_
   refine spG rfl rfl rfl rfl (PE.lenSl Z2Q rfl) rfl ?_
   refine spG rfl rfl rfl rfl (PE.gtr rfl rfl) rfl ?_
   refine sp rfl (PE.pick rfl rfl rfl) rfl ?_
   refine Z5 rfl (fun hc0 => ?_) (fun hc0 => ?_)
   ·
    refine Z0 ?_
    refine Z1 [0, 1] rfl ?_
    refine clV rfl Z1f rfl rfl (Z00 _ _) ?_
    refine sp rfl (PE.assign rfl) rfl ?_
    refine Z4 ?_
    exact Z2 (vs := [_]) rfl (.cons (RV.tmp rfl) .nil) rfl ⟨rfl, rfl, rfl⟩ drp
   ·
    try simp only [decide_eq_true_eq, decide_eq_false_iff_not, Bool.and_eq_true, Bool.or_eq_true, Bool.not_eq_true', Int.not_le, Int.not_lt] at hc0
    
    refine Z3 ?_
    refine Z0 ?_
    refine Z2q (ι := (Nat × Nat × Option Addr × Nat) × (Nat × Nat) × Nat × Nat) (fun z => ⟨[(1, .slice a2 l.length c2), (2, .pointer (some ⟨b2, 0, none⟩)), (5, .pointer (some ⟨z.2.2.1, 0, none⟩)), (6, .slice (some ⟨z.2.1.1, 0, none⟩) l.length z.2.1.2), (7, .pointer (some ⟨z.2.2.2, 0, none⟩))],
      (z.2.2.1, cel 27 (twl t (t.sl (some ⟨z.1.1, 0, none⟩) z.1.2.1))) :: (z.2.2.2, cel 96 (twl t (t.sl z.1.2.2.1 z.1.2.2.2))) :: (b2, cel 27 (twl t (t.sl a c))) :: H, RowsA z.1.2.2.1 2 (Zf t.rats) :: RowsA (some ⟨z.1.1, 0, none⟩) 2 (Zf t.rats) :: RowsA (some ⟨z.2.1.1, 0, none⟩) 4 (Zo l) :: R⟩) ?_ ?_
    ·
     refine Ze [0, 1, 0, 7, 0, 31, 0, 0, 255, 511, 1023] (.ld 0 (.tk 2 (.ld 4 (.any (.alt 1 (.any (.alt 3 (.any (.alt 5 (.any (.alt 6 (.big 7 (.big 8 (.tk 9 (.big 10 .done)))) (.alt 7 (.big 6 (.big 8 (.tk 9 (.big 10 .done)))) .stop))) (.alt 6 (.any (.alt 5 (.big 7 (.big 8 (.tk 9 (.big 10 .done)))) (.alt 7 (.big 5 (.big 8 (.tk 9 (.big 10 .done)))) .stop))) (.alt 7 (.any (.alt 5 (.big 6 (.big 8 (.tk 9 (.big 10 .done)))) (.alt 6 (.big 5 (.big 8 (.tk 9 (.big 10 .done)))) .stop))) .stop)))) (.alt 6 (.any (.alt 3 (.any (.alt 5 (.big 7 (.big 8 (.tk 9 (.big 10 .done)))) (.alt 7 (.big 5 (.big 8 (.tk 9 (.big 10 .done)))) .stop))) (.alt 7 (.big 3 (.big 5 (.big 8 (.tk 9 (.big 10 .done))))) .stop))) (.alt 7 (.any (.alt 3 (.any (.alt 5 (.big 6 (.big 8 (.tk 9 (.big 10 .done)))) (.alt 6 (.big 5 (.big 8 (.tk 9 (.big 10 .done)))) .stop))) (.alt 6 (.big 3 (.big 5 (.big 8 (.tk 9 (.big 10 .done))))) .stop))) .stop)))) (.alt 6 (.any (.alt 1 (.any (.alt 3 (.any (.alt 5 (.big 7 (.big 8 (.tk 9 (.big 10 .done)))) (.alt 7 (.big 5 (.big 8 (.tk 9 (.big 10 .done)))) .stop))) (.alt 7 (.big 3 (.big 5 (.big 8 (.tk 9 (.big 10 .done))))) .stop))) (.alt 7 (.big 1 (.big 3 (.big 5 (.big 8 (.tk 9 (.big 10 .done)))))) .stop))) (.alt 7 (.any (.alt 1 (.any (.alt 3 (.any (.alt 5 (.big 6 (.big 8 (.tk 9 (.big 10 .done)))) (.alt 6 (.big 5 (.big 8 (.tk 9 (.big 10 .done)))) .stop))) (.alt 6 (.big 3 (.big 5 (.big 8 (.tk 9 (.big 10 .done))))) .stop))) (.alt 6 (.big 1 (.big 3 (.big 5 (.big 8 (.tk 9 (.big 10 .done)))))) .stop))) .stop))))))) Zy (by kernel_rfl) ?_
     refine ld rfl rfl (lhA [_, _, _, _, _, _, _, _, _, _, _] Zd rfl rfl rfl) rfl ?_
     refine tk rfl (PE.move rfl) rfl ?_
     refine ld rfl rfl (lhA [_, _, _, _, _, _, _, _, _, _, _] Zd rfl rfl rfl) rfl ?_
     refine Z8 ?_ ?_
     ·
      refine cl rfl Z0R rfl rfl (Z0Q t a c (by omega) _ _) ?_
      rintro _ _ _ ⟨bo, co, rfl, rfl, rfl⟩
      refine bg (fun w hs => ⟨(lhA [_, _, _, _, _, _, _, _, _, _, _] Zd rfl rfl rfl) w hs, trivial, trivial⟩) ?_
      refine Z8 ?_ ?_
      ·
       refine cl rfl Z8J rfl rfl (Z07 l a2 c2 (by omega) _ _) ?_
       rintro _ _ _ ⟨o, rfl, ⟨bd, cd, hbd⟩, rfl, rfl⟩
       obtain ⟨ad, c3, ho, hf⟩ := o.freeze
       rw [hbd] at ho
       cases ho
       rw [hbd]
       refine Sy.heap (fun w h => hf h) ?_
       rw [show (Zo l).length = l.length from List.length_map _]
       refine bg (fun w hs => ⟨(lhA [_, _, _, _, _, _, _, _, _, _, _] Zd rfl rfl rfl) w hs, trivial⟩) ?_
       refine Z8 ?_ ?_
       ·
        refine cl rfl ZA rfl rfl (Za t a c (by omega) _ _) ?_
        rintro _ _ _ ⟨ax, cx, rfl, rfl, rfl⟩
        refine bg (fun w hs => ⟨trivial, trivial⟩) ?_
        refine Z8 ?_ ?_
        ·
         refine alc rfl Z04 rfl (fun b5 => ?_)
         refine bg (fun w hs => trivial) ?_
         refine alc rfl Z0m rfl (fun b7 => ?_)
         refine bg (fun w hs => trivial) ?_
         refine sto rfl rfl rfl ZO rfl rfl rfl rfl ?_
         refine bg (fun w hs => trivial) ?_
         refine tk rfl (PE.assign rfl) rfl ?_
         refine sto rfl rfl rfl ZU rfl rfl rfl rfl ?_
         refine bg (fun w hs => trivial) ?_
         exact Z6 ((bo, co, ax, cx), (bd, cd), b5, b7) (by repeat' first | exact Sub.nil | apply Sub.cons | rfl | (simp [lk]; omega)) (fun _ h => St.sub (((h.pull b2).pull b7).pull b5))
        refine Z8 ?_ ?_
        ·
         refine alc rfl Z0m rfl (fun b7 => ?_)
         refine bg (fun w hs => trivial) ?_
         refine alc rfl Z04 rfl (fun b5 => ?_)
         refine bg (fun w hs => trivial) ?_
         refine sto rfl rfl rfl ZO rfl rfl rfl rfl ?_
         refine bg (fun w hs => trivial) ?_
         refine tk rfl (PE.assign rfl) rfl ?_
         refine sto rfl rfl rfl ZU rfl rfl rfl rfl ?_
         refine bg (fun w hs => trivial) ?_
         exact Z6 ((bo, co, ax, cx), (bd, cd), b5, b7) (by repeat' first | exact Sub.nil | apply Sub.cons | rfl | (simp [lk]; omega)) (fun _ h => St.sub (((h.pull b2).pull b7).pull b5))
        exact Zc
       refine Z8 ?_ ?_
       ·
        refine alc rfl Z04 rfl (fun b5 => ?_)
        refine bg (fun w hs => ⟨(lhA [_, _, _, _, _, _, _, _, _, _, _] Zd rfl rfl rfl) w hs, trivial⟩) ?_
        refine Z8 ?_ ?_
        ·
         refine cl rfl ZA rfl rfl (Za t a c (by omega) _ _) ?_
         rintro _ _ _ ⟨ax, cx, rfl, rfl, rfl⟩
         refine bg (fun w hs => ⟨trivial, trivial⟩) ?_
         refine alc rfl Z0m rfl (fun b7 => ?_)
         refine bg (fun w hs => trivial) ?_
         refine sto rfl rfl rfl ZO rfl rfl rfl rfl ?_
         refine bg (fun w hs => trivial) ?_
         refine tk rfl (PE.assign rfl) rfl ?_
         refine sto rfl rfl rfl ZU rfl rfl rfl rfl ?_
         refine bg (fun w hs => trivial) ?_
         exact Z6 ((bo, co, ax, cx), (bd, cd), b5, b7) (by repeat' first | exact Sub.nil | apply Sub.cons | rfl | (simp [lk]; omega)) (fun _ h => St.sub (((h.pull b2).pull b7).pull b5))
        refine Z8 ?_ ?_
        ·
         refine alc rfl Z0m rfl (fun b7 => ?_)
         refine bg (fun w hs => ⟨(lhA [_, _, _, _, _, _, _, _, _, _, _] Zd rfl rfl rfl) w hs, trivial⟩) ?_
         refine cl rfl ZA rfl rfl (Za t a c (by omega) _ _) ?_
         rintro _ _ _ ⟨ax, cx, rfl, rfl, rfl⟩
         refine bg (fun w hs => ⟨trivial, trivial⟩) ?_
         refine sto rfl rfl rfl ZO rfl rfl rfl rfl ?_
         refine bg (fun w hs => trivial) ?_
         refine tk rfl (PE.assign rfl) rfl ?_
         refine sto rfl rfl rfl ZU rfl rfl rfl rfl ?_
         refine bg (fun w hs => trivial) ?_
         exact Z6 ((bo, co, ax, cx), (bd, cd), b5, b7) (by repeat' first | exact Sub.nil | apply Sub.cons | rfl | (simp [lk]; omega)) (fun _ h => St.sub (((h.pull b2).pull b7).pull b5))
        exact Zc
       refine Z8 ?_ ?_
       ·
        refine alc rfl Z0m rfl (fun b7 => ?_)
        refine bg (fun w hs => ⟨(lhA [_, _, _, _, _, _, _, _, _, _, _] Zd rfl rfl rfl) w hs, trivial⟩) ?_
        refine Z8 ?_ ?_
        ·
         refine cl rfl ZA rfl rfl (Za t a c (by omega) _ _) ?_
         rintro _ _ _ ⟨ax, cx, rfl, rfl, rfl⟩
         refine bg (fun w hs => ⟨trivial, trivial⟩) ?_
         refine alc rfl Z04 rfl (fun b5 => ?_)
         refine bg (fun w hs => trivial) ?_
         refine sto rfl rfl rfl ZO rfl rfl rfl rfl ?_
         refine bg (fun w hs => trivial) ?_
         refine tk rfl (PE.assign rfl) rfl ?_
         refine sto rfl rfl rfl ZU rfl rfl rfl rfl ?_
         refine bg (fun w hs => trivial) ?_
         exact Z6 ((bo, co, ax, cx), (bd, cd), b5, b7) (by repeat' first | exact Sub.nil | apply Sub.cons | rfl | (simp [lk]; omega)) (fun _ h => St.sub (((h.pull b2).pull b7).pull b5))
        refine Z8 ?_ ?_
        ·
         refine alc rfl Z04 rfl (fun b5 => ?_)
         refine bg (fun w hs => ⟨(lhA [_, _, _, _, _, _, _, _, _, _, _] Zd rfl rfl rfl) w hs, trivial⟩) ?_
         refine cl rfl ZA rfl rfl (Za t a c (by omega) _ _) ?_
         rintro _ _ _ ⟨ax, cx, rfl, rfl, rfl⟩
         refine bg (fun w hs => ⟨trivial, trivial⟩) ?_
         refine sto rfl rfl rfl ZO rfl rfl rfl rfl ?_
         refine bg (fun w hs => trivial) ?_
         refine tk rfl (PE.assign rfl) rfl ?_
         refine sto rfl rfl rfl ZU rfl rfl rfl rfl ?_
         refine bg (fun w hs => trivial) ?_
         exact Z6 ((bo, co, ax, cx), (bd, cd), b5, b7) (by repeat' first | exact Sub.nil | apply Sub.cons | rfl | (simp [lk]; omega)) (fun _ h => St.sub (((h.pull b2).pull b7).pull b5))
        exact Zc
       exact Zc
      refine Z8 ?_ ?_
      ·
       refine alc rfl Z04 rfl (fun b5 => ?_)
       refine bg (fun w hs => ⟨(lhA [_, _, _, _, _, _, _, _, _, _, _] Zd rfl rfl rfl) w hs, trivial⟩) ?_
       refine Z8 ?_ ?_
       ·
        refine cl rfl Z8J rfl rfl (Z07 l a2 c2 (by omega) _ _) ?_
        rintro _ _ _ ⟨o, rfl, ⟨bd, cd, hbd⟩, rfl, rfl⟩
        obtain ⟨ad, c3, ho, hf⟩ := o.freeze
        rw [hbd] at ho
        cases ho
        rw [hbd]
        refine Sy.heap (fun w h => hf h) ?_
        rw [show (Zo l).length = l.length from List.length_map _]
        refine bg (fun w hs => ⟨(lhA [_, _, _, _, _, _, _, _, _, _, _] Zd rfl rfl rfl) w hs, trivial⟩) ?_
        refine Z8 ?_ ?_
        ·
         refine cl rfl ZA rfl rfl (Za t a c (by omega) _ _) ?_
         rintro _ _ _ ⟨ax, cx, rfl, rfl, rfl⟩
         refine bg (fun w hs => ⟨trivial, trivial⟩) ?_
         refine alc rfl Z0m rfl (fun b7 => ?_)
         refine bg (fun w hs => trivial) ?_
         refine sto rfl rfl rfl ZO rfl rfl rfl rfl ?_
         refine bg (fun w hs => trivial) ?_
         refine tk rfl (PE.assign rfl) rfl ?_
         refine sto rfl rfl rfl ZU rfl rfl rfl rfl ?_
         refine bg (fun w hs => trivial) ?_
         exact Z6 ((bo, co, ax, cx), (bd, cd), b5, b7) (by repeat' first | exact Sub.nil | apply Sub.cons | rfl | (simp [lk]; omega)) (fun _ h => St.sub (((h.pull b2).pull b7).pull b5))
        refine Z8 ?_ ?_
        ·
         refine alc rfl Z0m rfl (fun b7 => ?_)
         refine bg (fun w hs => ⟨(lhA [_, _, _, _, _, _, _, _, _, _, _] Zd rfl rfl rfl) w hs, trivial⟩) ?_
         refine cl rfl ZA rfl rfl (Za t a c (by omega) _ _) ?_
         rintro _ _ _ ⟨ax, cx, rfl, rfl, rfl⟩
         refine bg (fun w hs => ⟨trivial, trivial⟩) ?_
         refine sto rfl rfl rfl ZO rfl rfl rfl rfl ?_
         refine bg (fun w hs => trivial) ?_
         refine tk rfl (PE.assign rfl) rfl ?_
         refine sto rfl rfl rfl ZU rfl rfl rfl rfl ?_
         refine bg (fun w hs => trivial) ?_
         exact Z6 ((bo, co, ax, cx), (bd, cd), b5, b7) (by repeat' first | exact Sub.nil | apply Sub.cons | rfl | (simp [lk]; omega)) (fun _ h => St.sub (((h.pull b2).pull b7).pull b5))
        exact Zc
       refine Z8 ?_ ?_
       ·
        refine alc rfl Z0m rfl (fun b7 => ?_)
        refine bg (fun w hs => ⟨(lhA [_, _, _, _, _, _, _, _, _, _, _] Zd rfl rfl rfl) w hs, trivial⟩) ?_
        refine cl rfl Z8J rfl rfl (Z07 l a2 c2 (by omega) _ _) ?_
        rintro _ _ _ ⟨o, rfl, ⟨bd, cd, hbd⟩, rfl, rfl⟩
        obtain ⟨ad, c3, ho, hf⟩ := o.freeze
        rw [hbd] at ho
        cases ho
        rw [hbd]
        refine Sy.heap (fun w h => hf h) ?_
        rw [show (Zo l).length = l.length from List.length_map _]
        refine bg (fun w hs => ⟨(lhA [_, _, _, _, _, _, _, _, _, _, _] Zd rfl rfl rfl) w hs, trivial⟩) ?_
        refine cl rfl ZA rfl rfl (Za t a c (by omega) _ _) ?_
        rintro _ _ _ ⟨ax, cx, rfl, rfl, rfl⟩
        refine bg (fun w hs => ⟨trivial, trivial⟩) ?_
        refine sto rfl rfl rfl ZO rfl rfl rfl rfl ?_
        refine bg (fun w hs => trivial) ?_
        refine tk rfl (PE.assign rfl) rfl ?_
        refine sto rfl rfl rfl ZU rfl rfl rfl rfl ?_
        refine bg (fun w hs => trivial) ?_
        exact Z6 ((bo, co, ax, cx), (bd, cd), b5, b7) (by repeat' first | exact Sub.nil | apply Sub.cons | rfl | (simp [lk]; omega)) (fun _ h => St.sub (((h.pull b2).pull b7).pull b5))
       exact Zc
      refine Z8 ?_ ?_
      ·
       refine alc rfl Z0m rfl (fun b7 => ?_)
       refine bg (fun w hs => ⟨(lhA [_, _, _, _, _, _, _, _, _, _, _] Zd rfl rfl rfl) w hs, trivial⟩) ?_
       refine Z8 ?_ ?_
       ·
        refine cl rfl Z8J rfl rfl (Z07 l a2 c2 (by omega) _ _) ?_
        rintro _ _ _ ⟨o, rfl, ⟨bd, cd, hbd⟩, rfl, rfl⟩
        obtain ⟨ad, c3, ho, hf⟩ := o.freeze
        rw [hbd] at ho
        cases ho
        rw [hbd]
        refine Sy.heap (fun w h => hf h) ?_
        rw [show (Zo l).length = l.length from List.length_map _]
        refine bg (fun w hs => ⟨(lhA [_, _, _, _, _, _, _, _, _, _, _] Zd rfl rfl rfl) w hs, trivial⟩) ?_
        refine Z8 ?_ ?_
        ·
         refine cl rfl ZA rfl rfl (Za t a c (by omega) _ _) ?_
         rintro _ _ _ ⟨ax, cx, rfl, rfl, rfl⟩
         refine bg (fun w hs => ⟨trivial, trivial⟩) ?_
         refine alc rfl Z04 rfl (fun b5 => ?_)
         refine bg (fun w hs => trivial) ?_
         refine sto rfl rfl rfl ZO rfl rfl rfl rfl ?_
         refine bg (fun w hs => trivial) ?_
         refine tk rfl (PE.assign rfl) rfl ?_
         refine sto rfl rfl rfl ZU rfl rfl rfl rfl ?_
         refine bg (fun w hs => trivial) ?_
         exact Z6 ((bo, co, ax, cx), (bd, cd), b5, b7) (by repeat' first | exact Sub.nil | apply Sub.cons | rfl | (simp [lk]; omega)) (fun _ h => St.sub (((h.pull b2).pull b7).pull b5))
        refine Z8 ?_ ?_
        ·
         refine alc rfl Z04 rfl (fun b5 => ?_)
         refine bg (fun w hs => ⟨(lhA [_, _, _, _, _, _, _, _, _, _, _] Zd rfl rfl rfl) w hs, trivial⟩) ?_
         refine cl rfl ZA rfl rfl (Za t a c (by omega) _ _) ?_
         rintro _ _ _ ⟨ax, cx, rfl, rfl, rfl⟩
         refine bg (fun w hs => ⟨trivial, trivial⟩) ?_
         refine sto rfl rfl rfl ZO rfl rfl rfl rfl ?_
         refine bg (fun w hs => trivial) ?_
         refine tk rfl (PE.assign rfl) rfl ?_
         refine sto rfl rfl rfl ZU rfl rfl rfl rfl ?_
         refine bg (fun w hs => trivial) ?_
         exact Z6 ((bo, co, ax, cx), (bd, cd), b5, b7) (by repeat' first | exact Sub.nil | apply Sub.cons | rfl | (simp [lk]; omega)) (fun _ h => St.sub (((h.pull b2).pull b7).pull b5))
        exact Zc
       refine Z8 ?_ ?_
       ·
        refine alc rfl Z04 rfl (fun b5 => ?_)
        refine bg (fun w hs => ⟨(lhA [_, _, _, _, _, _, _, _, _, _, _] Zd rfl rfl rfl) w hs, trivial⟩) ?_
        refine cl rfl Z8J rfl rfl (Z07 l a2 c2 (by omega) _ _) ?_
        rintro _ _ _ ⟨o, rfl, ⟨bd, cd, hbd⟩, rfl, rfl⟩
        obtain ⟨ad, c3, ho, hf⟩ := o.freeze
        rw [hbd] at ho
        cases ho
        rw [hbd]
        refine Sy.heap (fun w h => hf h) ?_
        rw [show (Zo l).length = l.length from List.length_map _]
        refine bg (fun w hs => ⟨(lhA [_, _, _, _, _, _, _, _, _, _, _] Zd rfl rfl rfl) w hs, trivial⟩) ?_
        refine cl rfl ZA rfl rfl (Za t a c (by omega) _ _) ?_
        rintro _ _ _ ⟨ax, cx, rfl, rfl, rfl⟩
        refine bg (fun w hs => ⟨trivial, trivial⟩) ?_
        refine sto rfl rfl rfl ZO rfl rfl rfl rfl ?_
        refine bg (fun w hs => trivial) ?_
        refine tk rfl (PE.assign rfl) rfl ?_
        refine sto rfl rfl rfl ZU rfl rfl rfl rfl ?_
        refine bg (fun w hs => trivial) ?_
        exact Z6 ((bo, co, ax, cx), (bd, cd), b5, b7) (by repeat' first | exact Sub.nil | apply Sub.cons | rfl | (simp [lk]; omega)) (fun _ h => St.sub (((h.pull b2).pull b7).pull b5))
       exact Zc
      exact Zc
     refine Z8 ?_ ?_
     ·
      refine alc rfl Z04 rfl (fun b5 => ?_)
      refine bg (fun w hs => ⟨(lhA [_, _, _, _, _, _, _, _, _, _, _] Zd rfl rfl rfl) w hs, (lhA [_, _, _, _, _, _, _, _, _, _, _] Zd rfl rfl rfl) w hs, trivial⟩) ?_
      refine Z8 ?_ ?_
      ·
       refine cl rfl Z0R rfl rfl (Z0Q t a c (by omega) _ _) ?_
       rintro _ _ _ ⟨bo, co, rfl, rfl, rfl⟩
       refine bg (fun w hs => ⟨(lhA [_, _, _, _, _, _, _, _, _, _, _] Zd rfl rfl rfl) w hs, trivial, trivial⟩) ?_
       refine Z8 ?_ ?_
       ·
        refine cl rfl Z8J rfl rfl (Z07 l a2 c2 (by omega) _ _) ?_
        rintro _ _ _ ⟨o, rfl, ⟨bd, cd, hbd⟩, rfl, rfl⟩
        obtain ⟨ad, c3, ho, hf⟩ := o.freeze
        rw [hbd] at ho
        cases ho
        rw [hbd]
        refine Sy.heap (fun w h => hf h) ?_
        rw [show (Zo l).length = l.length from List.length_map _]
        refine bg (fun w hs => ⟨(lhA [_, _, _, _, _, _, _, _, _, _, _] Zd rfl rfl rfl) w hs, trivial⟩) ?_
        refine Z8 ?_ ?_
        ·
         refine cl rfl ZA rfl rfl (Za t a c (by omega) _ _) ?_
         rintro _ _ _ ⟨ax, cx, rfl, rfl, rfl⟩
         refine bg (fun w hs => ⟨trivial, trivial⟩) ?_
         refine alc rfl Z0m rfl (fun b7 => ?_)
         refine bg (fun w hs => trivial) ?_
         refine sto rfl rfl rfl ZO rfl rfl rfl rfl ?_
         refine bg (fun w hs => trivial) ?_
         refine tk rfl (PE.assign rfl) rfl ?_
         refine sto rfl rfl rfl ZU rfl rfl rfl rfl ?_
         refine bg (fun w hs => trivial) ?_
         exact Z6 ((bo, co, ax, cx), (bd, cd), b5, b7) (by repeat' first | exact Sub.nil | apply Sub.cons | rfl | (simp [lk]; omega)) (fun _ h => St.sub (((h.pull b2).pull b7).pull b5))
        refine Z8 ?_ ?_
        ·
         refine alc rfl Z0m rfl (fun b7 => ?_)
         refine bg (fun w hs => ⟨(lhA [_, _, _, _, _, _, _, _, _, _, _] Zd rfl rfl rfl) w hs, trivial⟩) ?_
         refine cl rfl ZA rfl rfl (Za t a c (by omega) _ _) ?_
         rintro _ _ _ ⟨ax, cx, rfl, rfl, rfl⟩
         refine bg (fun w hs => ⟨trivial, trivial⟩) ?_
         refine sto rfl rfl rfl ZO rfl rfl rfl rfl ?_
         refine bg (fun w hs => trivial) ?_
         refine tk rfl (PE.assign rfl) rfl ?_
         refine sto rfl rfl rfl ZU rfl rfl rfl rfl ?_
         refine bg (fun w hs => trivial) ?_
         exact Z6 ((bo, co, ax, cx), (bd, cd), b5, b7) (by repeat' first | exact Sub.nil | apply Sub.cons | rfl | (simp [lk]; omega)) (fun _ h => St.sub (((h.pull b2).pull b7).pull b5))
        exact Zc
       refine Z8 ?_ ?_
       ·
        refine alc rfl Z0m rfl (fun b7 => ?_)
        refine bg (fun w hs => ⟨(lhA [_, _, _, _, _, _, _, _, _, _, _] Zd rfl rfl rfl) w hs, trivial⟩) ?_
        refine cl rfl Z8J rfl rfl (Z07 l a2 c2 (by omega) _ _) ?_
        rintro _ _ _ ⟨o, rfl, ⟨bd, cd, hbd⟩, rfl, rfl⟩
        obtain ⟨ad, c3, ho, hf⟩ := o.freeze
        rw [hbd] at ho
        cases ho
        rw [hbd]
        refine Sy.heap (fun w h => hf h) ?_
        rw [show (Zo l).length = l.length from List.length_map _]
        refine bg (fun w hs => ⟨(lhA [_, _, _, _, _, _, _, _, _, _, _] Zd rfl rfl rfl) w hs, trivial⟩) ?_
        refine cl rfl ZA rfl rfl (Za t a c (by omega) _ _) ?_
        rintro _ _ _ ⟨ax, cx, rfl, rfl, rfl⟩
        refine bg (fun w hs => ⟨trivial, trivial⟩) ?_
        refine sto rfl rfl rfl ZO rfl rfl rfl rfl ?_
        refine bg (fun w hs => trivial) ?_
        refine tk rfl (PE.assign rfl) rfl ?_
        refine sto rfl rfl rfl ZU rfl rfl rfl rfl ?_
        refine bg (fun w hs => trivial) ?_
        exact Z6 ((bo, co, ax, cx), (bd, cd), b5, b7) (by repeat' first | exact Sub.nil | apply Sub.cons | rfl | (simp [lk]; omega)) (fun _ h => St.sub (((h.pull b2).pull b7).pull b5))
       exact Zc
      refine Z8 ?_ ?_
      ·
       refine alc rfl Z0m rfl (fun b7 => ?_)
       refine bg (fun w hs => ⟨(lhA [_, _, _, _, _, _, _, _, _, _, _] Zd rfl rfl rfl) w hs, (lhA [_, _, _, _, _, _, _, _, _, _, _] Zd rfl rfl rfl) w hs, trivial⟩) ?_
       refine cl rfl Z0R rfl rfl (Z0Q t a c (by omega) _ _) ?_
       rintro _ _ _ ⟨bo, co, rfl, rfl, rfl⟩
       refine bg (fun w hs => ⟨(lhA [_, _, _, _, _, _, _, _, _, _, _] Zd rfl rfl rfl) w hs, trivial, trivial⟩) ?_
       refine cl rfl Z8J rfl rfl (Z07 l a2 c2 (by omega) _ _) ?_
       rintro _ _ _ ⟨o, rfl, ⟨bd, cd, hbd⟩, rfl, rfl⟩
       obtain ⟨ad, c3, ho, hf⟩ := o.freeze
       rw [hbd] at ho
       cases ho
       rw [hbd]
       refine Sy.heap (fun w h => hf h) ?_
       rw [show (Zo l).length = l.length from List.length_map _]
       refine bg (fun w hs => ⟨(lhA [_, _, _, _, _, _, _, _, _, _, _] Zd rfl rfl rfl) w hs, trivial⟩) ?_
       refine cl rfl ZA rfl rfl (Za t a c (by omega) _ _) ?_
       rintro _ _ _ ⟨ax, cx, rfl, rfl, rfl⟩
       refine bg (fun w hs => ⟨trivial, trivial⟩) ?_
       refine sto rfl rfl rfl ZO rfl rfl rfl rfl ?_
       refine bg (fun w hs => trivial) ?_
       refine tk rfl (PE.assign rfl) rfl ?_
       refine sto rfl rfl rfl ZU rfl rfl rfl rfl ?_
       refine bg (fun w hs => trivial) ?_
       exact Z6 ((bo, co, ax, cx), (bd, cd), b5, b7) (by repeat' first | exact Sub.nil | apply Sub.cons | rfl | (simp [lk]; omega)) (fun _ h => St.sub (((h.pull b2).pull b7).pull b5))
      exact Zc
     refine Z8 ?_ ?_
     ·
      refine alc rfl Z0m rfl (fun b7 => ?_)
      refine bg (fun w hs => ⟨(lhA [_, _, _, _, _, _, _, _, _, _, _] Zd rfl rfl rfl) w hs, (lhA [_, _, _, _, _, _, _, _, _, _, _] Zd rfl rfl rfl) w hs, trivial⟩) ?_
      refine Z8 ?_ ?_
      ·
       refine cl rfl Z0R rfl rfl (Z0Q t a c (by omega) _ _) ?_
       rintro _ _ _ ⟨bo, co, rfl, rfl, rfl⟩
       refine bg (fun w hs => ⟨(lhA [_, _, _, _, _, _, _, _, _, _, _] Zd rfl rfl rfl) w hs, trivial, trivial⟩) ?_
       refine Z8 ?_ ?_
       ·
        refine cl rfl Z8J rfl rfl (Z07 l a2 c2 (by omega) _ _) ?_
        rintro _ _ _ ⟨o, rfl, ⟨bd, cd, hbd⟩, rfl, rfl⟩
        obtain ⟨ad, c3, ho, hf⟩ := o.freeze
        rw [hbd] at ho
        cases ho
        rw [hbd]
        refine Sy.heap (fun w h => hf h) ?_
        rw [show (Zo l).length = l.length from List.length_map _]
        refine bg (fun w hs => ⟨(lhA [_, _, _, _, _, _, _, _, _, _, _] Zd rfl rfl rfl) w hs, trivial⟩) ?_
        refine Z8 ?_ ?_
        ·
         refine cl rfl ZA rfl rfl (Za t a c (by omega) _ _) ?_
         rintro _ _ _ ⟨ax, cx, rfl, rfl, rfl⟩
         refine bg (fun w hs => ⟨trivial, trivial⟩) ?_
         refine alc rfl Z04 rfl (fun b5 => ?_)
         refine bg (fun w hs => trivial) ?_
         refine sto rfl rfl rfl ZO rfl rfl rfl rfl ?_
         refine bg (fun w hs => trivial) ?_
         refine tk rfl (PE.assign rfl) rfl ?_
         refine sto rfl rfl rfl ZU rfl rfl rfl rfl ?_
         refine bg (fun w hs => trivial) ?_
         exact Z6 ((bo, co, ax, cx), (bd, cd), b5, b7) (by repeat' first | exact Sub.nil | apply Sub.cons | rfl | (simp [lk]; omega)) (fun _ h => St.sub (((h.pull b2).pull b7).pull b5))
        refine Z8 ?_ ?_
        ·
         refine alc rfl Z04 rfl (fun b5 => ?_)
         refine bg (fun w hs => ⟨(lhA [_, _, _, _, _, _, _, _, _, _, _] Zd rfl rfl rfl) w hs, trivial⟩) ?_
         refine cl rfl ZA rfl rfl (Za t a c (by omega) _ _) ?_
         rintro _ _ _ ⟨ax, cx, rfl, rfl, rfl⟩
         refine bg (fun w hs => ⟨trivial, trivial⟩) ?_
         refine sto rfl rfl rfl ZO rfl rfl rfl rfl ?_
         refine bg (fun w hs => trivial) ?_
         refine tk rfl (PE.assign rfl) rfl ?_
         refine sto rfl rfl rfl ZU rfl rfl rfl rfl ?_
         refine bg (fun w hs => trivial) ?_
         exact Z6 ((bo, co, ax, cx), (bd, cd), b5, b7) (by repeat' first | exact Sub.nil | apply Sub.cons | rfl | (simp [lk]; omega)) (fun _ h => St.sub (((h.pull b2).pull b7).pull b5))
        exact Zc
       refine Z8 ?_ ?_
       ·
        refine alc rfl Z04 rfl (fun b5 => ?_)
        refine bg (fun w hs => ⟨(lhA [_, _, _, _, _, _, _, _, _, _, _] Zd rfl rfl rfl) w hs, trivial⟩) ?_
        refine cl rfl Z8J rfl rfl (Z07 l a2 c2 (by omega) _ _) ?_
        rintro _ _ _ ⟨o, rfl, ⟨bd, cd, hbd⟩, rfl, rfl⟩
        obtain ⟨ad, c3, ho, hf⟩ := o.freeze
        rw [hbd] at ho
        cases ho
        rw [hbd]
        refine Sy.heap (fun w h => hf h) ?_
        rw [show (Zo l).length = l.length from List.length_map _]
        refine bg (fun w hs => ⟨(lhA [_, _, _, _, _, _, _, _, _, _, _] Zd rfl rfl rfl) w hs, trivial⟩) ?_
        refine cl rfl ZA rfl rfl (Za t a c (by omega) _ _) ?_
        rintro _ _ _ ⟨ax, cx, rfl, rfl, rfl⟩
        refine bg (fun w hs => ⟨trivial, trivial⟩) ?_
        refine sto rfl rfl rfl ZO rfl rfl rfl rfl ?_
        refine bg (fun w hs => trivial) ?_
        refine tk rfl (PE.assign rfl) rfl ?_
        refine sto rfl rfl rfl ZU rfl rfl rfl rfl ?_
        refine bg (fun w hs => trivial) ?_
        exact Z6 ((bo, co, ax, cx), (bd, cd), b5, b7) (by repeat' first | exact Sub.nil | apply Sub.cons | rfl | (simp [lk]; omega)) (fun _ h => St.sub (((h.pull b2).pull b7).pull b5))
       exact Zc
      refine Z8 ?_ ?_
      ·
       refine alc rfl Z04 rfl (fun b5 => ?_)
       refine bg (fun w hs => ⟨(lhA [_, _, _, _, _, _, _, _, _, _, _] Zd rfl rfl rfl) w hs, (lhA [_, _, _, _, _, _, _, _, _, _, _] Zd rfl rfl rfl) w hs, trivial⟩) ?_
       refine cl rfl Z0R rfl rfl (Z0Q t a c (by omega) _ _) ?_
       rintro _ _ _ ⟨bo, co, rfl, rfl, rfl⟩
       refine bg (fun w hs => ⟨(lhA [_, _, _, _, _, _, _, _, _, _, _] Zd rfl rfl rfl) w hs, trivial, trivial⟩) ?_
       refine cl rfl Z8J rfl rfl (Z07 l a2 c2 (by omega) _ _) ?_
       rintro _ _ _ ⟨o, rfl, ⟨bd, cd, hbd⟩, rfl, rfl⟩
       obtain ⟨ad, c3, ho, hf⟩ := o.freeze
       rw [hbd] at ho
       cases ho
       rw [hbd]
       refine Sy.heap (fun w h => hf h) ?_
       rw [show (Zo l).length = l.length from List.length_map _]
       refine bg (fun w hs => ⟨(lhA [_, _, _, _, _, _, _, _, _, _, _] Zd rfl rfl rfl) w hs, trivial⟩) ?_
       refine cl rfl ZA rfl rfl (Za t a c (by omega) _ _) ?_
       rintro _ _ _ ⟨ax, cx, rfl, rfl, rfl⟩
       refine bg (fun w hs => ⟨trivial, trivial⟩) ?_
       refine sto rfl rfl rfl ZO rfl rfl rfl rfl ?_
       refine bg (fun w hs => trivial) ?_
       refine tk rfl (PE.assign rfl) rfl ?_
       refine sto rfl rfl rfl ZU rfl rfl rfl rfl ?_
       refine bg (fun w hs => trivial) ?_
       exact Z6 ((bo, co, ax, cx), (bd, cd), b5, b7) (by repeat' first | exact Sub.nil | apply Sub.cons | rfl | (simp [lk]; omega)) (fun _ h => St.sub (((h.pull b2).pull b7).pull b5))
      exact Zc
     exact Zc
    ·
     rintro ⟨⟨bo, co, ax, cx⟩, ⟨bd, cd⟩, b5, b7⟩
     dsimp only
     refine Z0 ?_
     refine Z1 [0, 1, 2] rfl ?_
     refine spL rfl rfl (lhA [_, _, _, _, _, _, _, _, _, _, _] Z0c rfl rfl rfl) rfl ?_
     refine clV rfl Z7h rfl rfl (Z1X t ax cx (by omega) _ _) ?_
     refine sp rfl (PE.assign rfl) rfl ?_
     refine Z0 ?_
     refine Z1 [0, 1] rfl ?_
     refine sp rfl (PE.move rfl) rfl ?_
     refine sp rfl (PE.assign rfl) rfl ?_
     refine Z0 ?_
     refine Z1 [0, 1] rfl ?_
     refine sp rfl (PE.assign rfl) rfl ?_
     refine sp rfl (PE.assign rfl) rfl ?_
     refine Z0 ?_
     refine Z0 ?_
     refine Z1 [0, 1] rfl ?_
     refine sp rfl (PE.move rfl) rfl ?_
     refine sp rfl (PE.eql rfl rfl) rfl ?_
     refine Z0I (ι := Unit) (fun _ => ⟨[(1, .slice a2 l.length c2), (2, .pointer (some ⟨b2, 0, none⟩)), (5, .pointer (some ⟨b5, 0, none⟩)), (6, .slice (some ⟨bd, 0, none⟩) l.length cd), (7, .pointer (some ⟨b7, 0, none⟩)), (8, .int .i64 ((stR t l).2)), (9, .int .i64 (Z3f t)), (10, .int .i64 ((Z0Z t).1)), (11, .int .i64 ((stR t l).1))], (b5, cel 27 (twl t (t.sl (some ⟨bo, 0, none⟩) co))) :: (b7, cel 96 (twl t (t.sl ax cx))) :: (b2, cel 27 (twl t (t.sl a c))) :: H, RowsA ax 2 (Zf t.rats) :: RowsA (some ⟨bo, 0, none⟩) 2 (Zf t.rats) :: RowsA (some ⟨bd, 0, none⟩) 4 (Zo l) :: R⟩) ?_ ?_
     ·
      refine Z5 rfl (fun hc1 => ?_) (fun hc1 => ?_)
      ·
       try simp only [decide_eq_true_eq, decide_eq_false_iff_not, Bool.and_eq_true, Bool.or_eq_true, Bool.not_eq_true', Int.not_le, Int.not_lt] at hc1
       have hck : t.check = 0 := hc1
       have hok := (Zi hck).1
       refine Zw (a := ax) (sz := 2) (rows := Zf t.rats) (by have := hok.many; intro h0; simp [Zf] at h0; simp [h0] at this) (fun bx ox he => ?_)
       subst he
       refine Z0 ?_
       refine Z0 ?_
       refine Ze [0, 0, 2, 0, 8, 31, 63] (.ld 0 (.ld 1 (.tk 3 (.ld 4 (.big 2 (.big 5 (.tk 6 .done))))))) Zy (by kernel_rfl) ?_
       refine ld rfl rfl (lhA [_, _, _, _, _, _, _, _, _, _, _] Z0c rfl rfl rfl) rfl ?_
       refine ld rfl rfl (lhA [_, _, _, _, _, _, _, _, _, _, _] Z0c rfl rfl rfl) rfl ?_
       refine tk rfl (PE.fieldAddr Z1G rfl) rfl ?_
       refine ld rfl rfl (lhA [_, _, _] Z0w rfl rfl rfl) rfl ?_
       refine cl rfl Zc4 rfl rfl (Z4D t hok bx ox cx _ _) ?_
       rintro _ _ _ ⟨bla, la, hsol, rfl, rfl, rfl⟩
       obtain ⟨hrel, hlsa⟩ := hsol.ly hok
       have hrg := Z2U hlsa hok.now
       refine Sy.heap (fun w h => St.intRows h) ?_
       refine bg (fun w hs => ⟨(lhA [_, _, _] Z0w rfl rfl rfl) w hs, trivial, (lhA [_, _, _, _, _, _, _, _, _, _, _] Z0c rfl rfl rfl) w hs, trivial⟩) ?_
       refine cl rfl Z8A rfl rfl (Z2r t hok t.now hok.now _ la (LY t) hrel bla 0 t.nst _ _) ?_
       rintro _ _ _ ⟨rfl, rfl, rfl⟩
       have hlp : Z0Z t = (lat (LY t) t.now, 0) := by simp [Z0Z, hck]
       refine bg (fun w hs => ⟨trivial, trivial, trivial⟩) ?_
       refine tk rfl (PE.assign rfl) rfl ?_
       refine Z0 ?_
       refine Z1 [0, 1] rfl ?_
       refine sp rfl (PE.move rfl) rfl ?_
       refine sp rfl (PE.eql rfl rfl) rfl ?_
       refine Z0I (ι := Unit) (fun _ => ⟨[(1, .slice a2 l.length c2), (2, .pointer (some ⟨b2, 0, none⟩)), (5, .pointer (some ⟨b5, 0, none⟩)), (6, .slice (some ⟨bd, 0, none⟩) l.length cd), (7, .pointer (some ⟨b7, 0, none⟩)), (8, .int .i64 (t.check)), (9, .int .i64 (Z3f t)), (10, .int .i64 ((Z0Z t).1)), (11, .int .i64 (0))], (b5, cel 27 (twl t (t.sl (some ⟨bo, 0, none⟩) co))) :: (b7, cel 96 (twl t (t.sl (some ⟨bx, ox, none⟩) cx))) :: (b2, cel 27 (twl t (t.sl a c))) :: H, RowsA (some ⟨bx, ox, none⟩) 2 (Zf t.rats) :: RowsA (some ⟨bo, 0, none⟩) 2 (Zf t.rats) :: RowsA (some ⟨bd, 0, none⟩) 4 (Zo l) :: R⟩) ?_ ?_
       ·
        refine Z5 rfl (fun hc2 => ?_) (fun hc2 => ?_)
        ·
         try simp only [decide_eq_true_eq, decide_eq_false_iff_not, Bool.and_eq_true, Bool.or_eq_true, Bool.not_eq_true', Int.not_le, Int.not_lt] at hc2
         
         refine Z1 [0] rfl ?_
         refine sp rfl (PE.assign rfl) rfl ?_
         rw [show Z3f t = 6 from by simp [Z3f, hck, hc2], hlp]
         exact ZG () (by repeat' first | exact Sub.nil | apply Sub.cons | rfl | (simp [lk]; omega)) (fun _ h => St.sub h)
        ·
         try simp only [decide_eq_true_eq, decide_eq_false_iff_not, Bool.and_eq_true, Bool.or_eq_true, Bool.not_eq_true', Int.not_le, Int.not_lt] at hc2
         
         refine Z3 ?_
         rw [show Z3f t = 0 from by simp [Z3f, hck, hc2], hlp, hck]
         exact ZG () (by repeat' first | exact Sub.nil | apply Sub.cons | rfl | (simp [lk]; omega)) (fun _ h => St.sub h)
       ·
        rintro ⟨⟩
        dsimp only
        refine Ze [0, 0, 2, 7, 15, 31, 31, 63, 255] (.ld 0 (.tk 1 (.big 2 (.big 3 (.tk 4 (.tk 5 (.tk 6 (.tk 7 (.tk 8 .done))))))))) Zy (by kernel_rfl) ?_
        refine ld rfl rfl (lhA [_, _, _, _, _, _, _, _, _, _, _] Z0c rfl rfl rfl) rfl ?_
        refine tk rfl (PE.move rfl) rfl ?_
        refine cl rfl Zd8 rfl rfl (Zbm l a2 c2 (by omega) _ _) ?_
        rintro _ _ _ ⟨ar, cr, rfl, rfl, rfl⟩
        refine bg (fun w hs => ⟨(lhA [_, _, _, _, _, _, _, _, _, _, _] Z0c rfl rfl rfl) w hs, trivial⟩) ?_
        refine clV rfl ZdK rfl rfl (Z4V t hck l ar cr (by omega) bx ox cx _ _) ?_
        refine bg (fun w hs => ⟨trivial, trivial⟩) ?_
        refine tk rfl (PE.move rfl) rfl ?_
        refine tk rfl (PE.extract rfl rfl) rfl ?_
        refine tk rfl (PE.extract rfl rfl) rfl ?_
        refine tk rfl (PE.assign rfl) rfl ?_
        refine tk rfl (PE.assign rfl) rfl ?_
        exact ZG () (by repeat' first | exact Sub.nil | apply Sub.cons | rfl | (simp [lk]; omega)) (fun _ h => St.sub h)
      ·
       try simp only [decide_eq_true_eq, decide_eq_false_iff_not, Bool.and_eq_true, Bool.or_eq_true, Bool.not_eq_true', Int.not_le, Int.not_lt] at hc1
       have hck : t.check ≠ 0 := hc1
       refine Z3 ?_
       rw [show stR t l = (0, t.check) from by simp [stR, hck], show Z3f t = t.check from by simp [Z3f, hck], show Z0Z t = (0, t.check) from by simp [Z0Z, hck]]
       exact ZG () (by repeat' first | exact Sub.nil | apply Sub.cons | rfl | (simp [lk]; omega)) (fun _ h => h)
     ·
      rintro ⟨⟩
      dsimp only
      refine Z0 ?_
      refine Z1 [0, 1, 2, 3, 4, 5, 6, 7] rfl ?_
      refine spL rfl rfl (lhA [_, _, _, _, _, _, _, _, _, _, _] Zd rfl rfl rfl) rfl ?_
      refine sp rfl (PE.move rfl) rfl ?_
      refine clV rfl ZeW rfl rfl (Z9D t (by omega) l (some ⟨bd, 0, none⟩) cd (by omega) bo 0 co _ _) ?_
      refine sp rfl (PE.move rfl) rfl ?_
      refine sp rfl (PE.extract rfl rfl) rfl ?_
      refine sp rfl (PE.extract rfl rfl) rfl ?_
      refine sp rfl (PE.assign rfl) rfl ?_
      refine sp rfl (PE.assign rfl) rfl ?_
      refine Z0 ?_
      refine Z1 [0, 1, 2, 3, 4, 5, 6] rfl ?_
      refine spL rfl rfl (lhA [_, _, _, _, _, _, _, _, _, _, _] Zd rfl rfl rfl) rfl ?_
      refine cl rfl ZeU rfl rfl (Zc3 t (by omega) bo 0 co _ _) ?_
      rintro _ _ _ ⟨fl, ot, rfl, rfl, rfl, hfl, hf0, hf1⟩
      obtain ⟨at_, ct, hot, hft⟩ := ot.freeze
      rw [hot]
      refine Sy.heap (fun w h => hft h) ?_
      rw [show (Zo fl).length = fl.length from List.length_map _]
      refine sp rfl (PE.move rfl) rfl ?_
      refine sp rfl (PE.extract rfl rfl) rfl ?_
      refine sp rfl (PE.extract rfl rfl) rfl ?_
      refine sp rfl (PE.assign rfl) rfl ?_
      refine sp rfl (PE.assign rfl) rfl ?_
      refine Z0 ?_
      refine Z0 ?_
      refine Z1 [0, 1, 2, 3, 4, 5, 6, 7, 8, 9, 10, 11, 12, 13, 14, 15, 16, 17, 18, 19, 20, 21, 22, 23, 24] rfl ?_
      refine sp rfl (PE.move rfl) rfl ?_
      refine sp rfl (PE.move rfl) rfl ?_
      refine sp rfl (PE.neq rfl rfl) rfl ?_
      refine sp rfl (PE.move rfl) rfl ?_
      refine Zg (t := 65) rfl (fun g65 => ?_) (fun g65 => ?_)
      ·
       exact absurd g65 (by first | (simp; done) | (simp_all; done))
      ·
       refine spG rfl rfl rfl rfl (PE.move rfl) rfl ?_
       refine spG rfl rfl rfl rfl (PE.move rfl) rfl ?_
       refine spG rfl rfl rfl rfl (PE.neq rfl rfl) rfl ?_
       refine sp rfl (PE.pick rfl rfl rfl) rfl ?_
       refine sp rfl (PE.move rfl) rfl ?_
       refine Zg (t := 70) rfl (fun g70 => ?_) (fun g70 => ?_)
       ·
        exact absurd g70 (by first | (simp; done) | (simp_all; done))
       ·
        refine spG rfl rfl rfl rfl (PE.move rfl) rfl ?_
        refine spG rfl rfl rfl rfl (PE.move rfl) rfl ?_
        refine spG rfl rfl rfl rfl (PE.neq rfl rfl) rfl ?_
        refine sp rfl (PE.pick rfl rfl rfl) rfl ?_
        refine sp rfl (PE.move rfl) rfl ?_
        refine Zg (t := 75) rfl (fun g75 => ?_) (fun g75 => ?_)
        ·
         exact absurd g75 (by first | (simp; done) | (simp_all; done))
        ·
         refine spG rfl rfl rfl rfl (PE.move rfl) rfl ?_
         refine spG rfl rfl rfl rfl (PE.move rfl) rfl ?_
         refine Z0k rfl rfl rfl rfl Zfh rfl rfl (Zad l l (some ⟨bd, 0, none⟩) a2 cd c2 (by omega) (by omega) _ _) ?_
         refine spG rfl rfl rfl rfl (PE.not rfl) rfl ?_
         refine sp rfl (PE.pick rfl rfl rfl) rfl ?_
         refine sp rfl (PE.move rfl) rfl ?_
         refine Zg (t := 81) rfl (fun g81 => ?_) (fun g81 => ?_)
         ·
          exact absurd g81 (by first | (simp; done) | (simp_all; done))
         ·
          refine Z03 rfl rfl rfl rfl rfl (lhA [_, _, _, _, _, _, _, _, _, _, _] Zd rfl rfl rfl) rfl ?_
          refine Z03 rfl rfl rfl rfl rfl (lhA [_, _, _, _, _, _, _, _, _, _, _] Zd rfl rfl rfl) rfl ?_
          refine Z0k rfl rfl rfl rfl Z5i rfl rfl (Z38 t t _ a co c (by omega) (by omega) _ _) ?_
          refine spG rfl rfl rfl rfl (PE.not rfl) rfl ?_
          refine sp rfl (PE.pick rfl rfl rfl) rfl ?_
          refine Z5 rfl (fun hc3 => ?_) (fun hc3 => ?_)
          ·
           exact absurd hc3 (by simp)
          ·
           refine Z3 ?_
           refine Z0 ?_
           refine Z0 ?_
           refine Z1 [0, 1] rfl ?_
           refine sp rfl (PE.move rfl) rfl ?_
           refine sp rfl (PE.neq rfl rfl) rfl ?_
           refine Z5 rfl (fun hc4 => ?_) (fun hc4 => ?_)
           ·
            try simp only [decide_eq_true_eq, decide_eq_false_iff_not, Bool.and_eq_true, Bool.or_eq_true, Bool.not_eq_true', Int.not_le, Int.not_lt] at hc4
            obtain rfl := hf0 hc4
            refine Z0 ?_
            refine Z1 [0, 1, 2, 3, 4, 5, 6] rfl ?_
            refine sp rfl (PE.move rfl) rfl ?_
            refine sp rfl (PE.lenSl Z2Q rfl) rfl ?_
            refine sp rfl (PE.eql rfl rfl) rfl ?_
            refine sp rfl (PE.move rfl) rfl ?_
            refine Zg (t := 92) rfl (fun g92 => ?_) (fun g92 => ?_)
            ·
             refine Z0k rfl rfl rfl rfl Z1f rfl rfl (Z00 _ _) ?_
             refine sp rfl (PE.pick rfl rfl rfl) rfl ?_
             refine sp rfl (PE.assign rfl) rfl ?_
             refine Z4 ?_
             exact Z2 (vs := [_]) rfl (.cons (RV.tmp rfl) .nil) rfl ⟨rfl, rfl, rfl⟩ drp
            ·
             exact absurd g92 (by first | (simp; done) | (simp_all; done))
           ·
            try simp only [decide_eq_true_eq, decide_eq_false_iff_not, Bool.and_eq_true, Bool.or_eq_true, Bool.not_eq_true', Int.not_le, Int.not_lt] at hc4
            obtain ⟨hck, hly, hn, hst⟩ := hf1 (by simpa using hc4)
            have hok := (Zi hck).1
            have hrg := Z2U hly hok.now
            have hlp : Z0Z t = (lat (LY t) t.now, 0) := by simp [Z0Z, hck]
            rw [hlp]
            dsimp only
            refine Zw (a := ax) (sz := 2) (rows := Zf t.rats) (by have := hok.many; intro h0; simp [Zf] at h0; simp [h0] at this) (fun bx ox he => ?_)
            subst he
            refine Z3 ?_
            refine Z0 ?_
            refine Ze [0, 0, 2, 7, 15, 31, 31, 63, 255] (.ld 0 (.tk 1 (.big 2 (.big 3 (.tk 4 (.tk 5 (.tk 6 (.tk 7 (.tk 8 .done))))))))) Zy (by kernel_rfl) ?_
            refine ld rfl rfl (lhA [_, _, _, _, _, _, _, _, _, _, _] Z0c rfl rfl rfl) rfl ?_
            refine tk rfl (PE.move rfl) rfl ?_
            refine cl rfl Zd8 rfl rfl (Zbm fl at_ ct (by omega) _ _) ?_
            rintro _ _ _ ⟨ar, cr, rfl, rfl, rfl⟩
            refine bg (fun w hs => ⟨(lhA [_, _, _, _, _, _, _, _, _, _, _] Z0c rfl rfl rfl) w hs, trivial⟩) ?_
            refine cl rfl ZdK rfl rfl (Z4V t hck fl ar cr (by omega) bx ox cx _ _) ?_
            rintro _ _ _ ⟨rfl, rfl, rfl⟩
            rw [hst]
            refine bg (fun w hs => ⟨trivial, trivial⟩) ?_
            refine tk rfl (PE.move rfl) rfl ?_
            refine tk rfl (PE.extract rfl rfl) rfl ?_
            refine tk rfl (PE.extract rfl rfl) rfl ?_
            refine tk rfl (PE.assign rfl) rfl ?_
            refine tk rfl (PE.assign rfl) rfl ?_
            refine Z0 ?_
            refine Z1 [0, 1, 2, 3, 4, 5, 6, 7, 8, 9, 10, 11] rfl ?_
            refine sp rfl (PE.move rfl) rfl ?_
            refine sp rfl (PE.eql rfl rfl) rfl ?_
            refine sp rfl (PE.move rfl) rfl ?_
            refine Zg (t := 104) rfl (fun g104 => ?_) (fun g104 => ?_)
            ·
             refine spG rfl rfl rfl rfl (PE.move rfl) rfl ?_
             refine spG rfl rfl rfl rfl (PE.move rfl) rfl ?_
             refine spG rfl rfl rfl rfl (PE.add rfl rfl (by omega)) rfl ?_
             refine spG rfl rfl rfl rfl (PE.eql rfl rfl) rfl ?_
             refine sp rfl (PE.pick rfl rfl rfl) rfl ?_
             refine sp rfl (PE.move rfl) rfl ?_
             refine Zg (t := 110) rfl (fun g110 => ?_) (fun g110 => ?_)
             ·
              refine Z0k rfl rfl rfl rfl Z1f rfl rfl (Z00 _ _) ?_
              refine sp rfl (PE.pick rfl rfl rfl) rfl ?_
              refine sp rfl (PE.assign rfl) rfl ?_
              refine Z4 ?_
              exact Z2 (vs := [_]) rfl (.cons (RV.tmp rfl) .nil) rfl ⟨rfl, rfl, rfl⟩ drp
             ·
              exact absurd g110 (by first | (simp; done) | (simp_all; done))
            ·
             exact absurd g104 (by first | (simp; done) | (simp_all; done))
theorem Zc0 : cal Tryz.prog 88 = true := by kernel_rfl
theorem ZeV : cal Tryz.prog 89 = true := by kernel_rfl
def zst : Sta := ⟨0, 0, 0⟩
def ztw : Twn := ⟨zst, 0, 0, 0, 0, 0, 0, 0, []⟩
def Z16 (t : Twn) (s : Sta) (r : Int) (bad : Bool) : Sta × Int := match t.rat r with
  | none => (zst, 1)
  | some q => bif !(t.can s q) then (zst, 9) else bif bad && !(decide (s.dry < t.run)) then (zst, 7) else (t.next s q bad, 0)
def Z0U (t : Twn) (s : Sta) (r : Int) (bad : Bool) : Sta × Int := bif decide (t.check ≠ 0) then (zst, t.check) else bif !(s.right t) then (zst, 3) else Z16 t s r bad
def Z28 (t : Twn) (s : Sta) : List Int × Int := bif decide (t.check ≠ 0) then ([], t.check) else bif !(s.right t) then ([], 3) else (Z4P t s, 0)
def Z0L (t : Twn) (r : Int) (bad : Bool) : Twn × Int := bif decide (t.check ≠ 0) then (ztw, t.check) else bif decide ((Z16 t t.now r bad).2 ≠ 0) then (ztw, (Z16 t t.now r bad).2) else ({ t with now := (Z16 t t.now r bad).1 }, 0)
theorem Z84 {t : Twn} {s : Sta} {r : Int} {bad : Bool} (h : t.rat r = none) : Z16 t s r bad = (zst, 1) := by unfold Z16; rw [h]
theorem Z7X {t : Twn} {s : Sta} {r : Int} {q : Rn} {bad : Bool} (h : t.rat r = some q) (hc : t.can s q = false) : Z16 t s r bad = (zst, 9) := by unfold Z16; rw [h]; simp [hc]
theorem Z6c {t : Twn} {s : Sta} {r : Int} {q : Rn} {bad : Bool} (h : t.rat r = some q) (hc : t.can s q = true) (hb : (bad && !(decide (s.dry < t.run))) = true) : Z16 t s r bad = (zst, 7) := by unfold Z16; rw [h]; simp only; rw [hc, hb]; rfl
theorem Z7W {t : Twn} {s : Sta} {r : Int} {q : Rn} {bad : Bool} (h : t.rat r = some q) (hc : t.can s q = true) (hb : (bad && !(decide (s.dry < t.run))) = false) : Z16 t s r bad = (t.next s q bad, 0) := by unfold Z16; rw [h]; simp only; rw [hc, hb]; rfl
theorem ZaY {t : Twn} {s : Sta} {r : Int} {bad : Bool} (h : Z2g t s r ≠ 0) : Z16 t s r bad = (zst, Z2g t s r) := by
  unfold Z2g at h ⊢
  cases hr : t.rat r with
  | none => rw [Z84 hr]
  | some q =>
    rw [hr] at h
    cases hc : t.can s q with
    | true => simp [hc] at h
    | false => rw [Z7X hr hc]; simp [hc]
theorem ZbU {t : Twn} {s : Sta} {r : Int} (h : Z2g t s r = 0) : ∃ q, t.rat r = some q ∧ t.can s q = true := by
  unfold Z2g at h
  cases hr : t.rat r with
  | none => rw [hr] at h; cases h
  | some q =>
    rw [hr] at h
    cases hc : t.can s q with
    | true => exact ⟨q, rfl, hc⟩
    | false => simp [hc] at h
theorem Z4C {t : Twn} (ht : t.ok) {s : Sta} (hs : s.right t = true) {r : Int} {bad : Bool} (h : (Z16 t s r bad).2 = 0) : (Z16 t s r bad).1.right t = true := by
  unfold Z16 at h ⊢
  cases hr : t.rat r with
  | none => rw [hr] at h; cases h
  | some q =>
    rw [hr] at h
    simp only at h ⊢
    cases hc : t.can s q with
    | false => rw [hc] at h; cases h
    | true =>
      rw [hc] at h
      cases hb : (bad && !(decide (s.dry < t.run))) with
      | true => rw [hb] at h; cases h
      | false =>
        refine ZB ht hs (List.mem_of_getElem? (rat_iff.1 hr).2) hc (fun hbad => ?_)
        subst hbad
        simpa using hb
theorem Z9Y (t : Twn) (ht : t.ok) (s : Sta) (hs : s.right t = true) (r : Int) (bad : Bool) (ba oa ca : Nat) (bt bw m : Nat) (y : List Int) (fs : Value) (H : Zj) (R : Z9) [hR : MemRows (some ⟨ba, oa, none⟩) 2 (Zf t.rats) R] [hT : MemRows (some ⟨bt, 0, none⟩) 11 [twl t (t.sl (some ⟨ba, oa, none⟩) ca)] R] [hW : Mem1 bw (cel 62 (rcs t (t.sl (some ⟨ba, oa, none⟩) ca) bt y fs m)) H] :
    FnV Tryz.prog 88 [.pointer (some ⟨bw, 0, none⟩), s.v, .int .i64 r, .bool bad] H R (.tuple #[(Z16 t s r bad).1.v, .int .i64 (Z16 t s r bad).2]) := by
  refine Zq Tryz.func88 rfl Tryz.ntmps88 rfl ?_
  refine Z0 ?_
  refine Z1 [0, 1, 2] rfl ?_
  refine bx rfl rfl rfl (fun b5 => ?_)
  refine alc rfl Z2M rfl (fun b8 => ?_)
  refine sp rfl (PE.assign rfl) rfl ?_
  refine Z0 ?_
  refine Z1 [0, 1, 2, 3, 4, 5] rfl ?_
  refine sp rfl (PE.move rfl) rfl ?_
  refine sp rfl (PE.nilCheck rfl) rfl ?_
  refine sp rfl (PE.fieldAddr Z1O rfl) rfl ?_
  refine spL rfl rfl (lhA [_, _, _, _, _, _, _, _, _, _, _] Zd rfl rfl rfl) rfl ?_
  refine sp rfl (PE.makeFunc rfl rfl) rfl ?_
  refine sp rfl (PE.assign rfl) rfl ?_
  refine Z0 ?_
  refine Z7 ?_
  refine Z0 ?_
  refine Z1 [0, 1, 2, 3, 4] rfl ?_
  refine sp rfl (PE.move rfl) rfl ?_
  refine sp rfl (PE.move rfl) rfl ?_
  refine ZaU rfl rfl (Zdc) rfl rfl (Z7u t r _ _ (by have := ht.many; omega) _ _) ?_
  refine sp rfl (PE.not rfl) rfl ?_
  refine sp rfl (PE.assign rfl) rfl ?_
  refine Z5 rfl (fun hc0 => ?_) (fun hc0 => ?_)
  ·
   have hres := Z84 (s := s) (bad := bad) (Z94 hc0)
   refine Z0 ?_
   refine Z1 [0, 1, 2] rfl ?_
   refine sp rfl (PE.build (out := [_, _, _]) Z7z Z2M rfl rfl) rfl ?_
   refine sto rfl rfl rfl Z2O rfl rfl rfl rfl ?_
   refine sp rfl (PE.assign rfl) rfl ?_
   refine Z4 ?_
   exact Z2 (vs := [_, _]) rfl (.cons (RV.cell rfl (lhA [_, _, _] ZF rfl rfl rfl)) (.cons (RV.tmp rfl) .nil)) (by rw [hres]; rfl) ⟨rfl, rfl, rfl⟩ drp
  ·
   obtain ⟨h0, q, hq⟩ := Zbs hc0
   have hrt := rat_iff.2 ⟨h0, hq⟩
   refine Z0 ?_
   refine Ze [0, 1, 3, 7, 0, 0, 63, 127, 255] (.tk 0 (.tk 1 (.tk 2 (.ld 3 (.ld 4 (.tk 5 (.big 6 (.tk 7 (.tk 8 .done))))))))) Zy (by kernel_rfl) ?_
   refine tk rfl (PE.move rfl) rfl ?_
   refine tk rfl (PE.nilCheck rfl) rfl ?_
   refine tk rfl (PE.fieldAddr Z1O rfl) rfl ?_
   refine ld rfl rfl (lhA [_, _, _, _, _, _, _, _, _, _, _] Zd rfl rfl rfl) rfl ?_
   refine ld rfl rfl (lhA [_, _, _] ZF rfl rfl rfl) rfl ?_
   refine tk rfl (PE.move rfl) rfl ?_
   refine clV rfl Z8m rfl rfl (Z1L t s r q ba oa ca h0 hq _ _) ?_
   refine bg (fun w hs => ⟨trivial, trivial, trivial⟩) ?_
   refine tk rfl (PE.not rfl) rfl ?_
   refine tk rfl (PE.assign rfl) rfl ?_
   refine Z5 rfl (fun hc1 => ?_) (fun hc1 => ?_)
   ·
    have hcan : t.can s q = false := by simpa using hc1
    have hres := Z7X (s := s) (bad := bad) hrt hcan
    refine Z0 ?_
    refine Z1 [0, 1, 2] rfl ?_
    refine sp rfl (PE.build (out := [_, _, _]) Z7z Z2M rfl rfl) rfl ?_
    refine sto rfl rfl rfl Z2O rfl rfl rfl rfl ?_
    refine sp rfl (PE.assign rfl) rfl ?_
    refine Z4 ?_
    exact Z2 (vs := [_, _]) rfl (.cons (RV.cell rfl (lhA [_, _, _] ZF rfl rfl rfl)) (.cons (RV.tmp rfl) .nil)) (by rw [hres]; rfl) ⟨rfl, rfl, rfl⟩ drp
   ·
    have hcan : t.can s q = true := by simpa using hc1
    refine Z0 ?_
    refine Ze [0, 1, 3, 7, 15, 31, 63, 3, 255, 511, 1023, 2047] (.tk 0 (.tk 1 (.tk 2 (.tk 3 (.tk 4 (.tk 5 (.ld 6 (.ld 7 (.big 8 (.tk 9 (.tk 10 (.tk 11 .done)))))))))))) Zy (by kernel_rfl) ?_
    refine tk rfl (PE.move rfl) rfl ?_
    refine tk rfl (PE.move rfl) rfl ?_
    refine Zg (t := 34) rfl (fun g34 => ?_) (fun g34 => ?_)
    ·
     subst g34
     refine tkG rfl rfl rfl rfl (PE.move rfl) rfl ?_
     refine tkG rfl rfl rfl rfl (PE.nilCheck rfl) rfl ?_
     refine tkG rfl rfl rfl rfl (PE.fieldAddr Z6r rfl) rfl ?_
     refine tkG rfl rfl rfl rfl (PE.fieldAddr Z6v rfl) rfl ?_
     refine ldG rfl rfl rfl rfl rfl (lh ZdP rfl rfl) rfl ?_
     refine ldG rfl rfl rfl rfl rfl (lhA [_, _, _] ZF rfl rfl rfl) rfl ?_
     refine ZbZ rfl rfl rfl rfl rfl (Zan) rfl rfl (Zao t s ba oa ca bt _ _) ?_
     refine bg (fun w hs => ⟨trivial, trivial, trivial⟩) ?_
     refine tkG rfl rfl rfl rfl (PE.not rfl) rfl ?_
     refine tk rfl (PE.pick rfl rfl rfl) rfl ?_
     refine tk rfl (PE.assign rfl) rfl ?_
     refine Z5 rfl (fun hc2 => ?_) (fun hc2 => ?_)
     ·
      have hres := Z6c (bad := true) hrt hcan (by rw [Bool.true_and]; exact hc2)
      refine Z0 ?_
      refine Z1 [0, 1, 2] rfl ?_
      refine sp rfl (PE.build (out := [_, _, _]) Z7z Z2M rfl rfl) rfl ?_
      refine sto rfl rfl rfl Z2O rfl rfl rfl rfl ?_
      refine sp rfl (PE.assign rfl) rfl ?_
      refine Z4 ?_
      exact Z2 (vs := [_, _]) rfl (.cons (RV.cell rfl (lhA [_, _, _] ZF rfl rfl rfl)) (.cons (RV.tmp rfl) .nil)) (by rw [hres]; rfl) ⟨rfl, rfl, rfl⟩ drp
     ·
      have hres := Z7W (bad := true) hrt hcan (by rw [Bool.true_and]; exact hc2)
      refine Z3 ?_
      refine Z0 ?_
      refine Ze [0, 1, 3, 7, 0, 0, 0, 127, 255, 511] (.tk 0 (.tk 1 (.tk 2 (.ld 3 (.ld 4 (.tk 5 (.tk 6 (.big 7 (.big 8 (.tk 9 .done)))))))))) Zy (by kernel_rfl) ?_
      refine tk rfl (PE.move rfl) rfl ?_
      refine tk rfl (PE.nilCheck rfl) rfl ?_
      refine tk rfl (PE.fieldAddr Z1O rfl) rfl ?_
      refine ld rfl rfl (lhA [_, _, _, _, _, _, _, _, _, _, _] Zd rfl rfl rfl) rfl ?_
      refine ld rfl rfl (lhA [_, _, _] ZF rfl rfl rfl) rfl ?_
      refine tk rfl (PE.move rfl) rfl ?_
      refine tk rfl (PE.move rfl) rfl ?_
      refine clV rfl Z5P rfl rfl (Z3l t ht s hs r q _ ba oa ca h0 hq (Z1z hcan) _ _) ?_
      refine bg (fun w hs => ⟨trivial, trivial, trivial⟩) ?_
      refine sto rfl rfl rfl Z2O rfl rfl rfl rfl ?_
      refine bg (fun w hs => trivial) ?_
      refine tk rfl (PE.assign rfl) rfl ?_
      refine Z4 ?_
      exact Z2 (vs := [_, _]) rfl (.cons (RV.cell rfl (lhA [_, _, _] ZF rfl rfl rfl)) (.cons (RV.tmp rfl) .nil)) (by rw [hres]; rfl) ⟨rfl, rfl, rfl⟩ drp
    ·
     subst g34
     have hres := Z7W (bad := false) hrt hcan rfl
     refine tkN rfl rfl rfl rfl rfl rfl rfl rfl ?_
     refine tkN rfl rfl rfl rfl rfl rfl rfl rfl ?_
     refine tkN rfl rfl rfl rfl rfl rfl rfl rfl ?_
     refine tkN rfl rfl rfl rfl rfl rfl rfl rfl ?_
     refine ldN rfl rfl rfl rfl rfl rfl rfl rfl ?_
     refine ldN rfl rfl rfl rfl rfl rfl rfl rfl ?_
     refine spN rfl rfl rfl rfl rfl rfl rfl rfl ?_
     refine bg (fun w hs => ⟨trivial, trivial, trivial⟩) ?_
     refine tkN rfl rfl rfl rfl rfl rfl rfl rfl ?_
     refine tk rfl (PE.pick rfl rfl rfl) rfl ?_
     refine tk rfl (PE.assign rfl) rfl ?_
     refine Zz rfl ?_
     refine Z3 ?_
     refine Z0 ?_
     refine Ze [0, 1, 3, 7, 0, 0, 0, 127, 255, 511] (.tk 0 (.tk 1 (.tk 2 (.ld 3 (.ld 4 (.tk 5 (.tk 6 (.big 7 (.big 8 (.tk 9 .done)))))))))) Zy (by kernel_rfl) ?_
     refine tk rfl (PE.move rfl) rfl ?_
     refine tk rfl (PE.nilCheck rfl) rfl ?_
     refine tk rfl (PE.fieldAddr Z1O rfl) rfl ?_
     refine ld rfl rfl (lhA [_, _, _, _, _, _, _, _, _, _, _] Zd rfl rfl rfl) rfl ?_
     refine ld rfl rfl (lhA [_, _, _] ZF rfl rfl rfl) rfl ?_
     refine tk rfl (PE.move rfl) rfl ?_
     refine tk rfl (PE.move rfl) rfl ?_
     refine clV rfl Z5P rfl rfl (Z3l t ht s hs r q _ ba oa ca h0 hq (Z1z hcan) _ _) ?_
     refine bg (fun w hs => ⟨trivial, trivial, trivial⟩) ?_
     refine sto rfl rfl rfl Z2O rfl rfl rfl rfl ?_
     refine bg (fun w hs => trivial) ?_
     refine tk rfl (PE.assign rfl) rfl ?_
     refine Z4 ?_
     exact Z2 (vs := [_, _]) rfl (.cons (RV.cell rfl (lhA [_, _, _] ZF rfl rfl rfl)) (.cons (RV.tmp rfl) .nil)) (by rw [hres]; rfl) ⟨rfl, rfl, rfl⟩ drp
theorem ZdB (t : Twn) (s : Sta) (r : Int) (bad : Bool) (hl : t.rats.length ≤ 9223372036854775807) (ba oa ca : Nat) (H : Zj) (R : Z9) [hR : MemRows (some ⟨ba, oa, none⟩) 2 (Zf t.rats) R] :
    FnV Tryz.prog 49 [t.v (t.sl (some ⟨ba, oa, none⟩) ca), s.v, .int .i64 r, .bool bad] H R (.tuple #[(Z0U t s r bad).1.v, .int .i64 (Z0U t s r bad).2]) := by
  refine Zq Tryz.func49 rfl Tryz.ntmps49 rfl ?_
  refine Z0 ?_
  refine Z1 [0, 1, 2, 3] rfl ?_
  refine bx rfl rfl rfl (fun b4 => ?_)
  refine bx rfl rfl rfl (fun b5 => ?_)
  refine alc rfl Z2M rfl (fun b8 => ?_)
  refine sp rfl (PE.assign rfl) rfl ?_
  refine Z0 ?_
  refine Z1 [0, 1, 2, 3, 4, 5, 6, 7] rfl ?_
  refine spL rfl rfl (lhA [_, _, _, _, _, _, _, _, _, _, _] Zd rfl rfl rfl) rfl ?_
  refine spL rfl rfl (lhA [_, _, _] ZF rfl rfl rfl) rfl ?_
  refine cl rfl ZbQ rfl rfl (Z77 t s hl ba oa ca _ _) ?_
  rintro _ _ _ (⟨hck, rfl, rfl, rfl⟩ | ⟨hck, hrt, rfl, rfl, rfl⟩ | ⟨hck, hrt, bw, m, bt, rfl, rfl, rfl⟩)
  ·
   refine sp rfl (PE.move rfl) rfl ?_
   refine sp rfl (PE.extract rfl rfl) rfl ?_
   refine sp rfl (PE.extract rfl rfl) rfl ?_
   refine sp rfl (PE.assign rfl) rfl ?_
   refine sp rfl (PE.assign rfl) rfl ?_
   refine Z0 ?_
   refine Z0 ?_
   refine Z1 [0, 1] rfl ?_
   refine sp rfl (PE.move rfl) rfl ?_
   refine sp rfl (PE.neq rfl rfl) rfl ?_
   refine Zm (congrArg (fun b => some (Value.bool b)) (decide_eq_true hck)) ?_
   refine Z0 ?_
   refine Z1 [0, 1, 2, 3] rfl ?_
   refine sp rfl (PE.build (out := [_, _, _]) Z7z Z2M rfl rfl) rfl ?_
   refine sp rfl (PE.move rfl) rfl ?_
   refine sto rfl rfl rfl Z2O rfl rfl rfl rfl ?_
   refine sp rfl (PE.assign rfl) rfl ?_
   refine Z4 ?_
   exact Z2 (vs := [_, _]) rfl (.cons (RV.cell rfl (lhA [_, _, _] ZF rfl rfl rfl)) (.cons (RV.tmp rfl) .nil)) (by rw [show Z0U t s r bad = (zst, t.check) from by simp [Z0U, hck]]; rfl) ⟨rfl, rfl, rfl⟩ drp
  ·
   refine sp rfl (PE.move rfl) rfl ?_
   refine sp rfl (PE.extract rfl rfl) rfl ?_
   refine sp rfl (PE.extract rfl rfl) rfl ?_
   refine sp rfl (PE.assign rfl) rfl ?_
   refine sp rfl (PE.assign rfl) rfl ?_
   refine Z0 ?_
   refine Z0 ?_
   refine Z1 [0, 1] rfl ?_
   refine sp rfl (PE.move rfl) rfl ?_
   refine sp rfl (PE.neq rfl rfl) rfl ?_
   refine Zm (rfl) ?_
   refine Z0 ?_
   refine Z1 [0, 1, 2, 3] rfl ?_
   refine sp rfl (PE.build (out := [_, _, _]) Z7z Z2M rfl rfl) rfl ?_
   refine sp rfl (PE.move rfl) rfl ?_
   refine sto rfl rfl rfl Z2O rfl rfl rfl rfl ?_
   refine sp rfl (PE.assign rfl) rfl ?_
   refine Z4 ?_
   exact Z2 (vs := [_, _]) rfl (.cons (RV.cell rfl (lhA [_, _, _] ZF rfl rfl rfl)) (.cons (RV.tmp rfl) .nil)) (by rw [show Z0U t s r bad = (zst, 3) from by simp [Z0U, hck, hrt]]; rfl) ⟨rfl, rfl, rfl⟩ drp
  ·
   refine sp rfl (PE.move rfl) rfl ?_
   refine sp rfl (PE.extract rfl rfl) rfl ?_
   refine sp rfl (PE.extract rfl rfl) rfl ?_
   refine sp rfl (PE.assign rfl) rfl ?_
   refine sp rfl (PE.assign rfl) rfl ?_
   refine Z0 ?_
   refine Z0 ?_
   refine Z1 [0, 1] rfl ?_
   refine sp rfl (PE.move rfl) rfl ?_
   refine sp rfl (PE.neq rfl rfl) rfl ?_
   refine Zz (rfl) ?_
   refine Z3 ?_
   refine Z0 ?_
   refine Z1 [0, 1, 2, 3, 4, 5, 6, 7, 8] rfl ?_
   have hok := (Zi hck).1
   refine sp rfl (PE.move rfl) rfl ?_
   refine spL rfl rfl (lhA [_, _, _] ZF rfl rfl rfl) rfl ?_
   refine sp rfl (PE.move rfl) rfl ?_
   refine sp rfl (PE.move rfl) rfl ?_
   refine clV rfl Zc0 rfl rfl (Z9Y t hok s hrt r bad ba oa ca bt bw m _ _ _ _) ?_
   refine sp rfl (PE.extract rfl rfl) rfl ?_
   refine sp rfl (PE.extract rfl rfl) rfl ?_
   refine sto rfl rfl rfl Z2O rfl rfl rfl rfl ?_
   refine sp rfl (PE.assign rfl) rfl ?_
   refine Z4 ?_
   exact Z2 (vs := [_, _]) rfl (.cons (RV.cell rfl (lhA [_, _, _] ZF rfl rfl rfl)) (.cons (RV.tmp rfl) .nil)) (by rw [show Z0U t s r bad = Z16 t s r bad from by simp [Z0U, hck, hrt]]; rfl) ⟨rfl, rfl, rfl⟩ (fun w h => (((((h.del b8).del b4).del b5).del bw).del m).ftail)
theorem Z9o (t : Twn) (s : Sta) (hl : t.rats.length ≤ 9223372036854775807) (ba oa ca : Nat) (H : Zj) (R : Z9) [hR : MemRows (some ⟨ba, oa, none⟩) 2 (Zf t.rats) R] :
    Fn Tryz.prog 48 [t.v (t.sl (some ⟨ba, oa, none⟩) ca), s.v] H R (fun v H' R' => ∃ o : OSl 3 1 (Zh (Z28 t s).1), v = .tuple #[o.fs, .int .i64 (Z28 t s).2] ∧ H' = o.G ++ H ∧ R' = R) := by
  refine Zq Tryz.func48 rfl Tryz.ntmps48 rfl ?_
  refine Z0 ?_
  refine Z1 [0, 1, 2, 3] rfl ?_
  refine bx rfl rfl rfl (fun b2 => ?_)
  refine bx rfl rfl rfl (fun b3 => ?_)
  refine sp rfl (PE.assign rfl) rfl ?_
  refine sp rfl (PE.assign rfl) rfl ?_
  refine Z0 ?_
  refine Z1 [0, 1, 2, 3, 4, 5, 6, 7] rfl ?_
  refine spL rfl rfl (lhA [_, _, _, _, _, _, _, _, _, _, _] Zd rfl rfl rfl) rfl ?_
  refine spL rfl rfl (lhA [_, _, _] ZF rfl rfl rfl) rfl ?_
  refine cl rfl ZbQ rfl rfl (Z77 t s hl ba oa ca _ _) ?_
  rintro _ _ _ (⟨hck, rfl, rfl, rfl⟩ | ⟨hck, hrt, rfl, rfl, rfl⟩ | ⟨hck, hrt, bw, m, bt, rfl, rfl, rfl⟩)
  ·
   refine sp rfl (PE.move rfl) rfl ?_
   refine sp rfl (PE.extract rfl rfl) rfl ?_
   refine sp rfl (PE.extract rfl rfl) rfl ?_
   refine sp rfl (PE.assign rfl) rfl ?_
   refine sp rfl (PE.assign rfl) rfl ?_
   refine Z0 ?_
   refine Z0 ?_
   refine Z1 [0, 1] rfl ?_
   refine sp rfl (PE.move rfl) rfl ?_
   refine sp rfl (PE.neq rfl rfl) rfl ?_
   refine Zm (congrArg (fun b => some (Value.bool b)) (decide_eq_true hck)) ?_
   refine Z0 ?_
   refine Z1 [0, 1, 2] rfl ?_
   have e : Z28 t s = ([], t.check) := by simp [Z28, hck]
   refine sp rfl (PE.move rfl) rfl ?_
   refine sp rfl (PE.assign rfl) rfl ?_
   refine sp rfl (PE.assign rfl) rfl ?_
   refine Z4 ?_
   rw [e]
   exact Z2 (vs := [_, _]) rfl (.cons (RV.tmp rfl) (.cons (RV.tmp rfl) .nil)) rfl ⟨OSl.nil _ _, rfl, rfl, rfl⟩ (fun _ h => by repeat first | exact h | replace h := St.tail h | replace h := St.ftail h | replace h := St.drop h)
  ·
   refine sp rfl (PE.move rfl) rfl ?_
   refine sp rfl (PE.extract rfl rfl) rfl ?_
   refine sp rfl (PE.extract rfl rfl) rfl ?_
   refine sp rfl (PE.assign rfl) rfl ?_
   refine sp rfl (PE.assign rfl) rfl ?_
   refine Z0 ?_
   refine Z0 ?_
   refine Z1 [0, 1] rfl ?_
   refine sp rfl (PE.move rfl) rfl ?_
   refine sp rfl (PE.neq rfl rfl) rfl ?_
   refine Zm (rfl) ?_
   refine Z0 ?_
   refine Z1 [0, 1, 2] rfl ?_
   have e : Z28 t s = ([], 3) := by simp [Z28, hck, hrt]
   refine sp rfl (PE.move rfl) rfl ?_
   refine sp rfl (PE.assign rfl) rfl ?_
   refine sp rfl (PE.assign rfl) rfl ?_
   refine Z4 ?_
   rw [e]
   exact Z2 (vs := [_, _]) rfl (.cons (RV.tmp rfl) (.cons (RV.tmp rfl) .nil)) rfl ⟨OSl.nil _ _, rfl, rfl, rfl⟩ (fun _ h => by repeat first | exact h | replace h := St.tail h | replace h := St.ftail h | replace h := St.drop h)
  ·
   refine sp rfl (PE.move rfl) rfl ?_
   refine sp rfl (PE.extract rfl rfl) rfl ?_
   refine sp rfl (PE.extract rfl rfl) rfl ?_
   refine sp rfl (PE.assign rfl) rfl ?_
   refine sp rfl (PE.assign rfl) rfl ?_
   refine Z0 ?_
   refine Z0 ?_
   refine Z1 [0, 1] rfl ?_
   refine sp rfl (PE.move rfl) rfl ?_
   refine sp rfl (PE.neq rfl rfl) rfl ?_
   refine Zz (rfl) ?_
   refine Z3 ?_
   refine Z0 ?_
   refine Z1 [0] rfl ?_
   have hok := (Zi hck).1
   have e : Z28 t s = (Z4P t s, 0) := by simp [Z28, hck, hrt]
   refine sp rfl (PE.assign rfl) rfl ?_
   refine Z0 ?_
   refine Z0 ?_
   refine Z1 [0, 1, 2, 3, 4, 5, 6] rfl ?_
   refine sp rfl (PE.move rfl) rfl ?_
   refine sp rfl (PE.nilCheck rfl) rfl ?_
   refine sp rfl (PE.fieldAddr Z1O rfl) rfl ?_
   refine sp rfl (PE.fieldAddr ZY rfl) rfl ?_
   refine spL rfl rfl (lh Z23 rfl rfl) rfl ?_
   refine sp rfl (PE.lenSl Z2f rfl) rfl ?_
   refine sp rfl (PE.move rfl) rfl ?_
   refine Z7 ?_
   have hlen := hok.many
   refine Zn (ι := (k : {k : Nat // k ≤ t.rats.length}) × OSl 3 1 (Zh (Z10 (t.can s) t.rats k.1))) (fun x => ⟨[(3, .pointer (some ⟨b3, 0, none⟩)), (6, .pointer (some ⟨bw, 0, none⟩)), (8, x.2.fs), (23, t.sl (some ⟨ba, oa, none⟩) ca), (24, .int .i64 t.rats.length), (25, .int .i64 x.1.1)], x.2.G ++ (bw, cel 62 (rcs t (t.sl (some ⟨ba, oa, none⟩) ca) bt (List.replicate 496 0) (.slice none 0 0) m)) :: (m, Z1j true []) :: (b3, cel 24 [.int .i64 s.stock, .int .i64 s.short, .int .i64 s.dry]) :: (b2, cel 27 (twl t (t.sl (some ⟨ba, oa, none⟩) ca))) :: H, RowsA (some ⟨bt, 0, none⟩) 11 [twl t (t.sl (some ⟨ba, oa, none⟩) ca)] :: R⟩) (fun x => t.rats.length - x.1.1) ⟨⟨0, by omega⟩, OSl.nil _ _⟩ ?_ (fun x => ?_)
   ·
    exact Z0i (by repeat' first | exact Sub.nil | apply Sub.cons | rfl | (simp [lk]; omega)) (fun _ h => h)
   ·
    obtain ⟨⟨k, hk⟩, o'⟩ := x
    dsimp only at o' ⊢
    refine Z0 ?_
    refine Z1 [0] rfl ?_
    refine sp rfl (PE.lss rfl rfl) rfl ?_
    refine Z0 ?_
    refine Z5 rfl (fun hc1 => ?_) (fun hc1 => ?_)
    ·
     try simp only [decide_eq_true_eq, decide_eq_false_iff_not, Bool.and_eq_true, Bool.or_eq_true, Bool.not_eq_true', Int.not_le, Int.not_lt] at hc1
     obtain ⟨q, hq⟩ : ∃ q, t.rats[k]? = some q := ⟨_, List.getElem?_eq_getElem (by omega)⟩
     refine Z3 ?_
     refine Z0 ?_
     refine Z7 ?_
     refine Z0 ?_
     refine Z1 [0, 1] rfl ?_
     refine sp rfl (PE.move rfl) rfl ?_
     refine sp rfl (PE.assign rfl) rfl ?_
     refine Z0 ?_
     refine Ze [0, 1, 3, 7, 0, 0, 63] (.tk 0 (.tk 1 (.tk 2 (.ld 3 (.ld 4 (.tk 5 (.big 6 .done))))))) Zy (by kernel_rfl) ?_
     refine tk rfl (PE.move rfl) rfl ?_
     refine tk rfl (PE.nilCheck rfl) rfl ?_
     refine tk rfl (PE.fieldAddr Z1O rfl) rfl ?_
     refine ld rfl rfl (lhA [_, _, _, _, _, _, _, _, _, _, _] Zd rfl rfl rfl) rfl ?_
     refine ld rfl rfl (lhA [_, _, _] ZF rfl rfl rfl) rfl ?_
     refine tk rfl (PE.move rfl) rfl ?_
     refine clV rfl Z8m rfl rfl (Z1L t s k q ba oa ca (by omega) (by simpa using hq) _ _) ?_
     refine bg (fun w hs => ⟨trivial, trivial, trivial⟩) ?_
     refine Z5 rfl (fun hc2 => ?_) (fun hc2 => ?_)
     ·
      have e2 := Z0F (p := t.can s) hq
      rw [hc2, cond_true] at e2
      refine Z1 [0, 1, 2, 3, 4] rfl ?_
      refine sp rfl (PE.move rfl) rfl ?_
      refine sp rfl (PE.move rfl) rfl ?_
      refine bsl (out := [_]) rfl Z46 zl3 rfl rfl rfl rfl rfl rfl (fun b37 => ?_)
      refine apO (o') rfl Z2T rfl rfl (Z3e (row := [.int .i64 k]) rfl) rfl rfl ((by have := Z1M (t.can s) t.rats k; simp only [Zh, List.length_map, List.length_singleton]; omega)) rfl (fun o38 => ?_)
      refine sp rfl (PE.assign rfl) rfl ?_
      refine Z1 [0, 1] rfl ?_
      refine sp rfl (PE.add rfl rfl (by omega)) rfl ?_
      refine sp rfl (PE.move rfl) rfl ?_
      first
        | exact Zb ⟨⟨k + 1, by omega⟩, o38.cast (by rw [e2]; simp [Zh])⟩ (by dsimp only; omega) (by repeat' first | exact Sub.nil | apply Sub.cons | rfl | (simp [lk]; omega)) (fun w h => h.del b37)
        | exact Zb ⟨⟨k + 1, by omega⟩, o'.cast (by rw [e2])⟩ (by dsimp only; omega) (by repeat' first | exact Sub.nil | apply Sub.cons | rfl | (simp [lk]; omega)) (fun w h => h)
     ·
      have e2 := Z0F (p := t.can s) hq
      rw [hc2, cond_false] at e2
      refine Z3 ?_
      refine Z1 [0, 1] rfl ?_
      refine sp rfl (PE.add rfl rfl (by omega)) rfl ?_
      refine sp rfl (PE.move rfl) rfl ?_
      first
        | exact Zb ⟨⟨k + 1, by omega⟩, o38.cast (by rw [e2]; simp [Zh])⟩ (by dsimp only; omega) (by repeat' first | exact Sub.nil | apply Sub.cons | rfl | (simp [lk]; omega)) (fun w h => h.del b37)
        | exact Zb ⟨⟨k + 1, by omega⟩, o'.cast (by rw [e2])⟩ (by dsimp only; omega) (by repeat' first | exact Sub.nil | apply Sub.cons | rfl | (simp [lk]; omega)) (fun w h => h)
    ·
     try simp only [decide_eq_true_eq, decide_eq_false_iff_not, Bool.and_eq_true, Bool.or_eq_true, Bool.not_eq_true', Int.not_le, Int.not_lt] at hc1
     obtain rfl : k = t.rats.length := by omega
     refine Zk ?_
     refine Zl ?_
     refine Zl ?_
     refine ZH ?_
     refine Z0 ?_
     refine Z1 [0, 1, 2] rfl ?_
     refine sp rfl (PE.move rfl) rfl ?_
     refine sp rfl (PE.assign rfl) rfl ?_
     refine sp rfl (PE.assign rfl) rfl ?_
     refine Z4 ?_
     rw [e]
     exact Z2 (vs := [_, _]) rfl (.cons (RV.tmp rfl) (.cons (RV.tmp rfl) .nil)) rfl ⟨o', rfl, rfl, rfl⟩ (fun w h => ((((h.del bw).del m).del b3).del b2).ftail)
theorem Z6W (xs : List Rn) (a : Option Addr) (c : Nat) (hl : xs.length ≤ 1000000) (H : Zj) (R : Z9) [hR : MemRows a 2 (Zf xs) R] :
    Fn Tryz.prog 89 [.slice a xs.length c] H R (fun v H' R' => ∃ o : OSl 44 2 (Zf xs), v = o.fs ∧ H' = o.G ++ H ∧ R' = R ∧ (a.isSome = true → o.here)) := by
  refine Zq Tryz.func89 rfl Tryz.ntmps89 rfl ?_
  refine Z0 ?_
  refine Z1 [0] rfl ?_
  refine sp rfl (PE.assign rfl) rfl ?_
  refine Z0 ?_
  refine Z0 ?_
  refine Z1 [0, 1] rfl ?_
  refine sp rfl (PE.move rfl) rfl ?_
  refine sp rfl (PE.eqlNil Z2f rfl rfl) rfl ?_
  refine Z5 rfl (fun hc0 => ?_) (fun hc0 => ?_)
  ·
   refine Sy.pre (fun w h => Z7q (h.now hR.mem) hc0) (fun hnil => ?_)
   obtain rfl : xs = [] := by simpa [Zf] using hnil
   refine Z0 ?_
   refine Z1 [0] rfl ?_
   refine sp rfl (PE.assign rfl) rfl ?_
   refine Z4 ?_
   first
     | exact Z2 (vs := [_]) rfl (.cons (RV.tmp rfl) .nil) rfl ⟨o2.cast (by simp), rfl, rfl, rfl, fun _ => ho2⟩ (fun _ h => h)
     | exact Z2 (vs := [_]) rfl (.cons (RV.tmp rfl) .nil) rfl ⟨OSl.nil _ _, rfl, rfl, rfl, fun h => by cases a <;> simp_all⟩ (fun _ h => h)
  ·
   refine Z3 ?_
   refine Z0 ?_
   refine Z1 [0, 1, 2, 3] rfl ?_
   refine Zdg rfl ZcU rfl (fun o5 ho5 => ?_)
   refine sp rfl (PE.move rfl) rfl ?_
   refine Zbg (news := Zf xs) o5 rfl Zek rfl rfl (Z6F) (by simp [Zf]) (by simp [Z0C, Zf, Z2z, Value.oneCell']) ⟨by simp [Zf]; omega, by simp [Zf]; omega⟩ rfl ho5 (fun o2 ho2 => ?_)
   refine sp rfl (PE.assign rfl) rfl ?_
   refine Z4 ?_
   first
     | exact Z2 (vs := [_]) rfl (.cons (RV.tmp rfl) .nil) rfl ⟨o2.cast (by simp), rfl, rfl, rfl, fun _ => ho2⟩ (fun _ h => h)
     | exact Z2 (vs := [_]) rfl (.cons (RV.tmp rfl) .nil) rfl ⟨OSl.nil _ _, rfl, rfl, rfl, fun h => by cases a <;> simp_all⟩ (fun _ h => h)
theorem Ze0 (t : Twn) (r : Int) (bad : Bool) (hl : t.rats.length ≤ 1000000) (ba oa ca : Nat) (H : Zj) (R : Z9) [hR : MemRows (some ⟨ba, oa, none⟩) 2 (Zf t.rats) R] :
    Fn Tryz.prog 50 [t.v (t.sl (some ⟨ba, oa, none⟩) ca), .int .i64 r, .bool bad] H R (fun v H' R' => R' = R ∧ (((Z0L t r bad).1.rats = [] ∧ v = .tuple #[(Z0L t r bad).1.v ((Z0L t r bad).1.sl none 0), .int .i64 (Z0L t r bad).2] ∧ H' = H) ∨
      ∃ b cap junk, v = .tuple #[(Z0L t r bad).1.v ((Z0L t r bad).1.sl (some ⟨b, 0, none⟩) cap), .int .i64 (Z0L t r bad).2] ∧ H' = (b, cel 44 ((Zf (Z0L t r bad).1.rats).flatten ++ junk)) :: H)) := by
  refine Zq Tryz.func50 rfl Tryz.ntmps50 rfl ?_
  refine Z0 ?_
  refine Z1 [0, 1, 2] rfl ?_
  refine bx rfl rfl rfl (fun b3 => ?_)
  refine alc rfl Z04 rfl (fun b6 => ?_)
  refine sp rfl (PE.assign rfl) rfl ?_
  refine Z0 ?_
  refine Z1 [0, 1, 2, 3, 4, 5, 6] rfl ?_
  refine spL rfl rfl (lhA [_, _, _, _, _, _, _, _, _, _, _] Zd rfl rfl rfl) rfl ?_
  refine cl rfl Z5w rfl rfl (Z1A t (by omega) ba oa ca _ _) ?_
  rintro _ _ _ (⟨hck, rfl, rfl, rfl⟩ | ⟨hck, bw, m, bt, rfl, rfl, rfl⟩)
  ·
   refine sp rfl (PE.move rfl) rfl ?_
   refine sp rfl (PE.extract rfl rfl) rfl ?_
   refine sp rfl (PE.extract rfl rfl) rfl ?_
   refine sp rfl (PE.assign rfl) rfl ?_
   refine sp rfl (PE.assign rfl) rfl ?_
   refine Z0 ?_
   refine Z0 ?_
   refine Z1 [0, 1] rfl ?_
   refine sp rfl (PE.move rfl) rfl ?_
   refine sp rfl (PE.neq rfl rfl) rfl ?_
   refine Zm (congrArg (fun b => some (Value.bool b)) (decide_eq_true hck)) ?_
   refine Z0 ?_
   refine Z1 [0, 1, 2, 3] rfl ?_
   have e : Z0L t r bad = (ztw, t.check) := by simp [Z0L, hck]
   refine sp rfl (PE.build (out := [_, _, _, _, _, _, _, _, _, _, _]) ZdU Z04 rfl rfl) rfl ?_
   refine sp rfl (PE.move rfl) rfl ?_
   refine sto rfl rfl rfl ZO rfl rfl rfl rfl ?_
   refine sp rfl (PE.assign rfl) rfl ?_
   refine Z4 ?_
   rw [e]
   exact Z2 (vs := [_, _]) rfl (.cons (RV.cell rfl (lhA [_, _, _, _, _, _, _, _, _, _, _] Zd rfl rfl rfl)) (.cons (RV.tmp rfl) .nil)) rfl ⟨rfl, .inl ⟨rfl, rfl, rfl⟩⟩ drp
  ·
   refine sp rfl (PE.move rfl) rfl ?_
   refine sp rfl (PE.extract rfl rfl) rfl ?_
   refine sp rfl (PE.extract rfl rfl) rfl ?_
   refine sp rfl (PE.assign rfl) rfl ?_
   refine sp rfl (PE.assign rfl) rfl ?_
   refine Z0 ?_
   refine Z0 ?_
   refine Z1 [0, 1] rfl ?_
   refine sp rfl (PE.move rfl) rfl ?_
   refine sp rfl (PE.neq rfl rfl) rfl ?_
   refine Zz (rfl) ?_
   refine Z3 ?_
   refine Z0 ?_
   refine Z1 [0, 1, 2, 3, 4, 5, 6, 7, 8, 9, 10, 11] rfl ?_
   have hok := (Zi hck).1
   refine sp rfl (PE.move rfl) rfl ?_
   refine sp rfl (PE.fieldAddr Z0a rfl) rfl ?_
   refine spL rfl rfl (lhA [_, _, _] ZF rfl rfl rfl) rfl ?_
   refine sp rfl (PE.move rfl) rfl ?_
   refine sp rfl (PE.move rfl) rfl ?_
   refine cl rfl Zc0 rfl rfl (Z9Y t hok t.now hok.now r bad ba oa ca bt bw m _ _ _ _) ?_
   rintro _ _ _ ⟨rfl, rfl, rfl⟩
   refine sp rfl (PE.move rfl) rfl ?_
   refine sp rfl (PE.extract rfl rfl) rfl ?_
   refine sp rfl (PE.extract rfl rfl) rfl ?_
   refine alc rfl Z2M rfl (fun b10 => ?_)
   refine sto rfl rfl rfl Z2O rfl rfl rfl rfl ?_
   refine sp rfl (PE.assign rfl) rfl ?_
   refine Z0 ?_
   refine Z0 ?_
   refine Z1 [0, 1] rfl ?_
   refine sp rfl (PE.move rfl) rfl ?_
   refine sp rfl (PE.neq rfl rfl) rfl ?_
   refine Z5 rfl (fun hc1 => ?_) (fun hc1 => ?_)
   ·
    try simp only [decide_eq_true_eq, decide_eq_false_iff_not, Bool.and_eq_true, Bool.or_eq_true, Bool.not_eq_true', Int.not_le, Int.not_lt] at hc1
    have e : Z0L t r bad = (ztw, (Z16 t t.now r bad).2) := by simp [Z0L, hck, hc1]
    rw [e]
    refine Z0 ?_
    refine Z1 [0, 1, 2, 3] rfl ?_
    refine sp rfl (PE.build (out := [_, _, _, _, _, _, _, _, _, _, _]) ZdU Z04 rfl rfl) rfl ?_
    refine sp rfl (PE.move rfl) rfl ?_
    refine sto rfl rfl rfl ZO rfl rfl rfl rfl ?_
    refine sp rfl (PE.assign rfl) rfl ?_
    refine Z4 ?_
    first
      | exact Z2 (vs := [_, _]) rfl (.cons (RV.cell rfl (lhA [_, _, _, _, _, _, _, _, _, _, _] Zd rfl rfl rfl)) (.cons (RV.tmp rfl) .nil)) rfl ⟨rfl, .inl ⟨rfl, rfl, rfl⟩⟩ (fun w h => ((((((h.del b10).del b6).del b3).del bw).del m)).ftail)
      | exact Z2 (vs := [_, _]) rfl (.cons (RV.cell rfl (lhA [_, _, _, _, _, _, _, _, _, _, _] Zd rfl rfl rfl)) (.cons (RV.tmp rfl) .nil)) rfl ⟨rfl, .inr ⟨bc, cc, jc, rfl, rfl⟩⟩ (fun w h => (((((((h.del b10).del b11).del b6).del b3).del bw).del m)).ftail)
   ·
    try simp only [decide_eq_true_eq, decide_eq_false_iff_not, Bool.and_eq_true, Bool.or_eq_true, Bool.not_eq_true', Int.not_le, Int.not_lt] at hc1
    have e : Z0L t r bad = ({ t with now := (Z16 t t.now r bad).1 }, 0) := by simp [Z0L, hck, hc1]
    rw [e]
    refine Z3 ?_
    refine Z0 ?_
    refine Z1 [0, 1, 2] rfl ?_
    refine spL rfl rfl (lhA [_, _, _, _, _, _, _, _, _, _, _] Zd rfl rfl rfl) rfl ?_
    refine alc rfl Z04 rfl (fun b11 => ?_)
    refine sto rfl rfl rfl ZO rfl rfl rfl rfl ?_
    refine Z0 ?_
    refine Ze [0, 0, 2, 6, 1, 31, 63, 127] (.ld 0 (.tk 1 (.ld 2 (.tk 4 (.big 3 (.big 5 (.tk 6 (.big 7 .done)))))))) Zy (by kernel_rfl) ?_
    refine ld rfl rfl (lhA [_, _, _] ZF rfl rfl rfl) rfl ?_
    refine tk rfl (PE.fieldAddr ZY rfl) rfl ?_
    refine ld rfl rfl (lh Z23 rfl rfl) rfl ?_
    refine tk rfl (PE.fieldAddr Z0a rfl) rfl ?_
    refine cl rfl ZeV rfl rfl (Z6W t.rats _ ca hl _ _) ?_
    rintro _ _ _ ⟨oc, rfl, rfl, rfl, hoc⟩
    obtain ⟨bc, cc, jc, hc1, hc2⟩ := oc.own (hoc rfl)
    rw [hc1, hc2, show (Zf t.rats).length = t.rats.length from List.length_map _]
    refine bg (fun w hs => ⟨trivial, (lhA [_, _, _] ZF rfl rfl rfl) w hs, trivial⟩) ?_
    refine sto rfl rfl rfl Z2O rfl rfl rfl rfl ?_
    refine bg (fun w hs => ⟨trivial, trivial⟩) ?_
    refine tk rfl (PE.fieldAddr ZY rfl) rfl ?_
    refine sto rfl rfl rfl Zcn rfl rfl rfl rfl ?_
    refine bg (fun w hs => trivial) ?_
    refine Z0 ?_
    refine Z1 [0, 1, 2] rfl ?_
    refine spL rfl rfl (lhA [_, _, _, _, _, _, _, _, _, _, _] Zd rfl rfl rfl) rfl ?_
    refine sto rfl rfl rfl ZO rfl rfl rfl rfl ?_
    refine sp rfl (PE.assign rfl) rfl ?_
    refine Z4 ?_
    first
      | exact Z2 (vs := [_, _]) rfl (.cons (RV.cell rfl (lhA [_, _, _, _, _, _, _, _, _, _, _] Zd rfl rfl rfl)) (.cons (RV.tmp rfl) .nil)) rfl ⟨rfl, .inl ⟨rfl, rfl, rfl⟩⟩ (fun w h => ((((((h.del b10).del b6).del b3).del bw).del m)).ftail)
      | exact Z2 (vs := [_, _]) rfl (.cons (RV.cell rfl (lhA [_, _, _, _, _, _, _, _, _, _, _] Zd rfl rfl rfl)) (.cons (RV.tmp rfl) .nil)) rfl ⟨rfl, .inr ⟨bc, cc, jc, rfl, rfl⟩⟩ (fun w h => (((((((h.del b10).del b11).del b6).del b3).del bw).del m)).ftail)
theorem Z5r (t : Twn) (ht : t.ok) (s : Sta) (hs : s.right t = true) (r : Int) (bad : Bool) (ba oa ca : Nat) (H : Zj) (R : Z9) [hR : MemRows (some ⟨ba, oa, none⟩) 2 (Zf t.rats) R] :
    FnV Tryz.prog 47 [t.v (t.sl (some ⟨ba, oa, none⟩) ca), s.v, .int .i64 r, .bool bad] H R (.tuple #[(Z16 t s r bad).1.v, .int .i64 (Z16 t s r bad).2]) := by
  refine Zq Tryz.func47 rfl Tryz.ntmps47 rfl ?_
  refine Z0 ?_
  refine Z1 [0, 1, 2, 3] rfl ?_
  refine bx rfl rfl rfl (fun b4 => ?_)
  refine bx rfl rfl rfl (fun b5 => ?_)
  refine alc rfl Z6C rfl (fun b8 => ?_)
  refine sp rfl (PE.assign rfl) rfl ?_
  refine Z0 ?_
  refine Z0 ?_
  refine Z1 [0, 1, 2, 3, 4] rfl ?_
  refine spL rfl rfl (lhA [_, _, _, _, _, _, _, _, _, _, _] Z0c rfl rfl rfl) rfl ?_
  refine spL rfl rfl (lhA [_, _, _] Z0w rfl rfl rfl) rfl ?_
  refine sp rfl (PE.move rfl) rfl ?_
  refine clV rfl Zdw rfl rfl (Z9k t s r ba oa ca (by have := ht.many; omega) _ _) ?_
  refine sp rfl (PE.assign rfl) rfl ?_
  refine Z0 ?_
  refine Z1 [0, 1] rfl ?_
  refine sp rfl (PE.move rfl) rfl ?_
  refine sp rfl (PE.neq rfl rfl) rfl ?_
  refine Z5 rfl (fun hc0 => ?_) (fun hc0 => ?_)
  ·
   try simp only [decide_eq_true_eq, decide_eq_false_iff_not, Bool.and_eq_true, Bool.or_eq_true, Bool.not_eq_true', Int.not_le, Int.not_lt] at hc0
   have hres := ZaY (bad := bad) hc0
   refine Z0 ?_
   refine Z1 [0, 1, 2, 3] rfl ?_
   refine sp rfl (PE.build (out := [_, _, _]) ZcN Z6C rfl rfl) rfl ?_
   refine sp rfl (PE.move rfl) rfl ?_
   refine sto rfl rfl rfl Z4R rfl rfl rfl rfl ?_
   refine sp rfl (PE.assign rfl) rfl ?_
   refine Z4 ?_
   exact Z2 (vs := [_, _]) rfl (.cons (RV.cell rfl (lhA [_, _, _] Z0w rfl rfl rfl)) (.cons (RV.tmp rfl) .nil)) (by rw [hres]; rfl) ⟨rfl, rfl, rfl⟩ drp
  ·
   try simp only [decide_eq_true_eq, decide_eq_false_iff_not, Bool.and_eq_true, Bool.or_eq_true, Bool.not_eq_true', Int.not_le, Int.not_lt] at hc0
   obtain ⟨q, hrt, hcan⟩ := ZbU (by simpa using hc0)
   obtain ⟨h0, hq⟩ := rat_iff.1 hrt
   refine Z3 ?_
   refine Z0 ?_
   refine Z0 ?_
   refine Z1 [0, 1, 2, 3, 4, 5, 6, 7] rfl ?_
   refine sp rfl (PE.move rfl) rfl ?_
   refine sp rfl (PE.move rfl) rfl ?_
   refine Zg (t := 20) rfl (fun g20 => ?_) (fun g20 => ?_)
   ·
    subst g20
    refine spG rfl rfl rfl rfl (PE.fieldAddr Z2V rfl) rfl ?_
    refine Z03 rfl rfl rfl rfl rfl (lh sc3 rfl rfl) rfl ?_
    refine spG rfl rfl rfl rfl (PE.fieldAddr Z36 rfl) rfl ?_
    refine Z03 rfl rfl rfl rfl rfl (lh sc3 rfl rfl) rfl ?_
    refine spG rfl rfl rfl rfl (PE.geq rfl rfl) rfl ?_
    refine sp rfl (PE.pick rfl rfl rfl) rfl ?_
    refine Z5 rfl (fun hc1 => ?_) (fun hc1 => ?_)
    ·
     try simp only [decide_eq_true_eq, decide_eq_false_iff_not, Bool.and_eq_true, Bool.or_eq_true, Bool.not_eq_true', Int.not_le, Int.not_lt] at hc1
     have hres := Z6c (bad := true) hrt hcan (by rw [decide_eq_false (by omega)]; rfl)
     refine Z0 ?_
     refine Z1 [0, 1, 2] rfl ?_
     refine sp rfl (PE.build (out := [_, _, _]) ZcN Z6C rfl rfl) rfl ?_
     refine sto rfl rfl rfl Z4R rfl rfl rfl rfl ?_
     refine sp rfl (PE.assign rfl) rfl ?_
     refine Z4 ?_
     exact Z2 (vs := [_, _]) rfl (.cons (RV.cell rfl (lhA [_, _, _] Z0w rfl rfl rfl)) (.cons (RV.tmp rfl) .nil)) (by rw [hres]; rfl) ⟨rfl, rfl, rfl⟩ drp
    ·
     try simp only [decide_eq_true_eq, decide_eq_false_iff_not, Bool.and_eq_true, Bool.or_eq_true, Bool.not_eq_true', Int.not_le, Int.not_lt] at hc1
     have hres := Z7W (bad := true) hrt hcan (by rw [decide_eq_true (by omega)]; rfl)
     refine Z3 ?_
     refine Z0 ?_
     refine Z1 [0, 1, 2, 3, 4, 5, 6] rfl ?_
     refine spL rfl rfl (lhA [_, _, _, _, _, _, _, _, _, _, _] Z0c rfl rfl rfl) rfl ?_
     refine spL rfl rfl (lhA [_, _, _] Z0w rfl rfl rfl) rfl ?_
     refine sp rfl (PE.move rfl) rfl ?_
     refine sp rfl (PE.move rfl) rfl ?_
     refine clV rfl Z4M rfl rfl (Z19 t ht s hs r q _ ba oa ca h0 hq (Z1z hcan) _ _) ?_
     refine sto rfl rfl rfl Z4R rfl rfl rfl rfl ?_
     refine sp rfl (PE.assign rfl) rfl ?_
     refine Z4 ?_
     exact Z2 (vs := [_, _]) rfl (.cons (RV.cell rfl (lhA [_, _, _] Z0w rfl rfl rfl)) (.cons (RV.tmp rfl) .nil)) (by rw [hres]; rfl) ⟨rfl, rfl, rfl⟩ drp
   ·
    subst g20
    have hres := Z7W (bad := false) hrt hcan rfl
    refine spN rfl rfl rfl rfl rfl rfl rfl rfl ?_
    refine spN rfl rfl rfl rfl rfl rfl rfl rfl ?_
    refine spN rfl rfl rfl rfl rfl rfl rfl rfl ?_
    refine spN rfl rfl rfl rfl rfl rfl rfl rfl ?_
    refine spN rfl rfl rfl rfl rfl rfl rfl rfl ?_
    refine sp rfl (PE.pick rfl rfl rfl) rfl ?_
    refine Zz rfl ?_
    refine Z3 ?_
    refine Z0 ?_
    refine Z1 [0, 1, 2, 3, 4, 5, 6] rfl ?_
    refine spL rfl rfl (lhA [_, _, _, _, _, _, _, _, _, _, _] Z0c rfl rfl rfl) rfl ?_
    refine spL rfl rfl (lhA [_, _, _] Z0w rfl rfl rfl) rfl ?_
    refine sp rfl (PE.move rfl) rfl ?_
    refine sp rfl (PE.move rfl) rfl ?_
    refine clV rfl Z4M rfl rfl (Z19 t ht s hs r q _ ba oa ca h0 hq (Z1z hcan) _ _) ?_
    refine sto rfl rfl rfl Z4R rfl rfl rfl rfl ?_
    refine sp rfl (PE.assign rfl) rfl ?_
    refine Z4 ?_
    exact Z2 (vs := [_, _]) rfl (.cons (RV.cell rfl (lhA [_, _, _] Z0w rfl rfl rfl)) (.cons (RV.tmp rfl) .nil)) (by rw [hres]; rfl) ⟨rfl, rfl, rfl⟩ drp
end Go.Proofs.YthhdgeibokecjaaGreat.Bd
