/- Walks of the functions of the program, and the laws that join them: what the last theorem of this claim needs, in order. -/
import Derived.Test.YtknoaljnelfklaaGreatDc3
namespace Go.Proofs.YtknoaljnelfklaaGreat
set_option linter.unusedSimpArgs false
set_option linter.unusedVariables false
open Go
theorem cal130 : cal Tryz.prog 130 = true := by kernel_rfl
theorem cal131 : cal Tryz.prog 131 = true := by kernel_rfl
theorem cal132 : cal Tryz.prog 132 = true := by kernel_rfl
theorem cal143 : cal Tryz.prog 143 = true := by kernel_rfl
theorem cal149 : cal Tryz.prog 149 = true := by kernel_rfl
theorem cal153 : cal Tryz.prog 153 = true := by kernel_rfl
theorem cal165 : cal Tryz.prog 165 = true := by kernel_rfl
theorem cal96 : cal Tryz.prog 96 = true := by kernel_rfl
theorem cal97 : cal Tryz.prog 97 = true := by kernel_rfl
theorem cal98 : cal Tryz.prog 98 = true := by kernel_rfl
theorem ik175 : intK Tryz.prog 175 = some .u64 := by kernel_rfl
theorem ik5 : intK Tryz.prog 5 = some .u8 := by kernel_rfl
theorem istr9 : isStr Tryz.prog 9 = true := by kernel_rfl
theorem us204 : (Tryz.prog.underlying 204).isSome = true := by kernel_rfl
structure InsI (l xs : List Int) (i j : Nat) : Prop where
  perm : xs.Perm l
  le : j ≤ i
  at_ : ∀ p q, p < q → q ≤ i → q ≠ j → nn xs p ≤ nn xs q
structure SrtI (l xs : List Int) (i : Nat) : Prop where
  perm : xs.Perm l
  at_ : ∀ p q, p < q → q < i → nn xs p ≤ nn xs q
theorem SrtI.start (l : List Int) : SrtI l l 1 := ⟨.refl _, fun p q h1 h2 => by omega⟩
theorem SrtI.ins {l xs : List Int} {i : Nat} (h : SrtI l xs i) : InsI l xs i i := ⟨h.perm, Nat.le_refl _, fun p q h1 h2 h3 => h.at_ p q h1 (by omega)⟩
theorem InsI.done {l xs : List Int} {i j : Nat} (h : InsI l xs i j) (hj : j = 0 ∨ nn xs (j - 1) ≤ nn xs j) : SrtI l xs (i + 1) := ⟨h.perm, fun p q h1 h2 => by
  by_cases hq : q = j
  · subst hq
    have h3 : nn xs (q - 1) ≤ nn xs q := hj.resolve_left (by omega)
    by_cases hp : p = q - 1
    · subst hp; exact h3
    · have := h.at_ p (q - 1) (by omega) (by omega) (by omega); omega
  · exact h.at_ p q h1 (by omega) hq⟩
theorem nn_at {xs : List Int} {k : Nat} (h : k < xs.length) : nn xs k = xs[k] := by unfold nn; rw [List.getD_eq_getElem?_getD, List.getElem?_eq_getElem h]; rfl
theorem InsI.swap {l xs : List Int} {i j : Nat} (h : InsI l xs i j) (hj : 0 < j) (hi : i < xs.length) (hlt : nn xs j < nn xs (j - 1)) : InsI l ((xs.set j (nn xs (j - 1))).set (j - 1) (nn xs j)) i (j - 1) := by
  have hle := h.le
  have hv : ∀ q, nn ((xs.set j (nn xs (j - 1))).set (j - 1) (nn xs j)) q = if q = j - 1 then nn xs j else if q = j then nn xs (j - 1) else nn xs q := fun q => by
    rw [nn_set (by rw [List.length_set]; omega), nn_set (by omega)]
    by_cases h1 : q = j - 1
    · subst h1; simp
    · have e1 : (j - 1 == q) = false := by simp; omega
      rw [e1, if_neg h1]
      by_cases h2 : q = j
      · subst h2; simp
      · have e2 : (j == q) = false := by simp; omega
        rw [e2, if_neg h2]; rfl
  refine ⟨?_, by omega, fun p q h1 h2 h3 => ?_⟩
  · have e := @List.set_set_perm Int xs j (j - 1) (by omega) (by omega)
    rw [nn_at (k := j - 1) (by omega), nn_at (k := j) (by omega)]
    exact e.trans h.perm
  · rw [hv p, hv q]
    have A := h.at_ p q h1 h2
    have B := h.at_ p (j - 1)
    have C := h.at_ j q
    have E := h.at_ (j - 1) q
    rw [if_neg h3]
    by_cases hq : q = j
    · rw [if_pos hq]
      split
      · omega
      · rw [if_neg (by omega)]; exact B (by omega) (by omega) (by omega)
    · rw [if_neg hq]
      split
      · exact C (by omega) h2 hq
      · split
        · exact E (by omega) h2 hq
        · exact A hq
theorem int_at {xs : List Int} {junk : List Value} {k : Nat} (h : k < xs.length) : (ints xs ++ junk)[0 + ((k : Nat) : Int).toNat * 1]? = some (.int .i64 (nn xs k)) := by
  rw [show 0 + ((k : Nat) : Int).toNat * 1 = k by omega, List.getElem?_append_left (by rw [ints_length]; exact h), nn_at h]
  simp [ints, h]
theorem int_at2 {xs : List Int} {junk : List Value} {q k : Nat} (h : q + k < xs.length) : (ints xs ++ junk)[0 + q * 1 + ((k : Nat) : Int).toNat * 1]? = some (.int .i64 (nn xs (q + k))) := by
  have := int_at (junk := junk) h
  rw [show 0 + q * 1 + ((k : Nat) : Int).toNat * 1 = 0 + ((q + k : Nat) : Int).toNat * 1 by omega]; exact this
theorem spl_int {xs : List Int} {junk : List Value} {k : Nat} (h : k < xs.length) (v : Int) : spl (ints xs ++ junk) (0 + ((k : Nat) : Int).toNat * 1) [.int .i64 v] = ints (xs.set k v) ++ junk := by
  rw [show 0 + ((k : Nat) : Int).toNat * 1 = k by omega]
  obtain ⟨A, y, B, rfl, rfl⟩ := cut_at h
  have h1 := spl_at (p := ints A) (q := [.int .i64 y]) (s := ints B ++ junk) (vs := [.int .i64 v]) rfl
  rw [show (ints A).length = A.length by simp [ints]] at h1
  rw [show ints (A ++ y :: B) ++ junk = ints A ++ ([.int .i64 y] ++ (ints B ++ junk)) by simp [ints], h1]
  simp [ints]
theorem pair_ne {xs : List Int} {k : Nat} (h : k + 1 < xs.length) (hn : xs.Nodup) : nn xs k ≠ nn xs (k + 1) := by
  rw [nn_at (k := k) (by omega), nn_at h]
  exact List.pairwise_iff_getElem.1 hn k (k + 1) (by omega) h (by omega)
theorem srt_nd {l xs : List Int} {n : Nat} (h : SrtI l xs n) (hn : xs.length ≤ n) (hd : ∀ p, p + 1 < xs.length → nn xs p ≠ nn xs (p + 1)) : l.Nodup := by
  refine h.perm.nodup_iff.1 (List.pairwise_iff_getElem.2 fun p q hp hq hpq e => ?_)
  rw [← nn_at hp, ← nn_at hq] at e
  have h1 := hd p (by omega)
  have h2 := h.at_ p (p + 1) (by omega) (by omega)
  by_cases h3 : q = p + 1
  · subst h3; exact h1 e
  · have h4 := h.at_ (p + 1) q (by omega) (by omega); omega
def agrE (g : Gat) (c : Crt) (l : List Int) : Int := bif decide (bothE g c ≠ 0) then bothE g c else bif !(l.all fun i => inb i 0 (c.hs.length - 1)) then 1 else bif !(decide l.Nodup) then 5 else 0
def agrR (g : Gat) (c : Crt) (l : List Int) : Bool := bif decide (agrE g c l ≠ 0) then false else agr g.miss c.hs (flt l)
theorem c_isNaN (x : Int) (H : Heap) (R : Facts) :
    FnV Tryz.prog 165 [.int .i64 x] H R (.bool false) := by
 refine fn_of Tryz.func165 rfl Tryz.ntmps165 rfl ?_
 refine sy_seq ?_
 refine sy_tx' [0] rfl ?_
 refine sp rfl (PE.assign rfl) rfl ?_
 refine sy_seq ?_
 refine sy_tx' [0, 1, 2, 3] rfl ?_
 refine sp rfl (PE.move rfl) rfl ?_
 refine sp rfl (PE.move rfl) rfl ?_
 refine sp rfl (PE.neq rfl rfl) rfl ?_
 refine sp rfl (PE.assign rfl) rfl ?_
 refine sy_ret ?_
 exact sy_return (vs := [_]) rfl (.cons (RV.tmp rfl) .nil) rfl ⟨by simp [retV], rfl, rfl⟩ drp
theorem c_Less (x y : Int) (H : Heap) (R : Facts) :
    FnV Tryz.prog 149 [.int .i64 x, .int .i64 y] H R (.bool (decide (x < y))) := by
 refine fn_of Tryz.func149 rfl Tryz.ntmps149 rfl ?_
 refine sy_seq ?_
 refine sy_tx' [0] rfl ?_
 refine sp rfl (PE.assign rfl) rfl ?_
 refine sy_seq ?_
 refine sy_tx' [0, 1, 2, 3, 4, 5, 6, 7, 8, 9, 10, 11, 12] rfl ?_
 refine sp rfl (PE.move rfl) rfl ?_
 refine clV rfl cal165 rfl rfl (c_isNaN x _ _) ?_
 refine sp rfl (PE.move rfl) rfl ?_
 repeat refine spN rfl rfl rfl rfl rfl rfl rfl rfl ?_
 refine sp rfl (PE.pick rfl rfl rfl) rfl ?_
 refine sp rfl (PE.move rfl) rfl ?_
 refine spG rfl rfl rfl rfl (PE.move rfl) rfl ?_
 refine spG rfl rfl rfl rfl (PE.move rfl) rfl ?_
 refine spG rfl rfl rfl rfl (PE.lss rfl rfl) rfl ?_
 refine sp rfl (PE.pick rfl rfl rfl) rfl ?_
 refine sp rfl (PE.assign rfl) rfl ?_
 refine sy_ret ?_
 exact sy_return (vs := [_]) rfl (.cons (RV.tmp rfl) .nil) rfl ⟨rfl, rfl, rfl⟩ drp
theorem c_insB (l : List Int) (b cap : Nat) (junk : List Value) (hl : l.length ≤ 12) (H : Heap) (R : Facts) :
    Fn Tryz.prog 143 [.slice (some ⟨b, 0, none⟩) l.length cap, .int .i64 0, .int .i64 l.length] ((b, cel 3 (ints l ++ junk)) :: H) R (fun v H' R' => ∃ ys, SrtI l ys l.length ∧ v = .tuple #[] ∧ H' = (b, cel 3 (ints ys ++ junk)) :: H ∧ R' = R) := by
 refine fn_of Tryz.func143 rfl Tryz.ntmps143 rfl ?_
 refine sy_seq ?_
 refine sy_tx' [0, 1, 2] rfl ?_
 refine sp rfl (PE.move rfl) rfl ?_
 refine sp rfl (PE.add rfl rfl (by omega)) rfl ?_
 refine sp rfl (PE.assign rfl) rfl ?_
 refine sy_block ?_
 refine sy_loop (ι := {x : Nat × List Int // 1 ≤ x.1 ∧ x.1 ≤ 13 ∧ SrtI l x.2 x.1}) (fun x => ⟨[(0, .slice (some ⟨b, 0, none⟩) l.length cap), (1, .int .i64 0), (2, .int .i64 l.length), (6, .int .i64 x.1.1)], (b, cel 3 (ints x.1.2 ++ junk)) :: H, R⟩) (fun x => l.length - x.1.1) ⟨(1, l), by omega, by omega, SrtI.start l⟩ ?_ (fun x => ?_)
 exact sy_at (by repeat' first | exact Sub.nil | apply Sub.cons | rfl | (simp [lk]; omega)) (fun _ h => h)
 ·
  obtain ⟨⟨i, xs⟩, hi1, hi2, hs⟩ := x
  dsimp only at hi1 hi2 hs ⊢
  have hxl := hs.perm.length_eq
  refine sy_seq ?_
  refine sy_seq ?_
  refine sy_tx' [0, 1, 2] rfl ?_
  refine sp rfl (PE.move rfl) rfl ?_
  refine sp rfl (PE.move rfl) rfl ?_
  refine sp rfl (PE.lss rfl rfl) rfl ?_
  refine sy_cond rfl (fun hc0 => ?_) (fun hc0 => ?_)
  ·
   try simp only [decide_eq_true_eq, decide_eq_false_iff_not, Bool.and_eq_true, Bool.or_eq_true, Bool.not_eq_true', Int.not_le, Int.not_lt] at hc0
   refine sy_skip ?_
   refine sy_seq ?_
   refine sy_block ?_
   refine sy_seq ?_
   refine sy_tx' [0, 1] rfl ?_
   refine sp rfl (PE.move rfl) rfl ?_
   refine sp rfl (PE.assign rfl) rfl ?_
   refine sy_block ?_
   refine sy_loop (ι := {x : Nat × List Int // InsI l x.2 i x.1}) (fun x => ⟨[(0, .slice (some ⟨b, 0, none⟩) l.length cap), (1, .int .i64 0), (2, .int .i64 l.length), (6, .int .i64 i), (7, .int .i64 x.1.1)], (b, cel 3 (ints x.1.2 ++ junk)) :: H, R⟩) (fun x => x.1.1) ⟨(i, xs), hs.ins⟩ ?_ (fun x => ?_)
   exact sy_at (by repeat' first | exact Sub.nil | apply Sub.cons | rfl | (simp [lk]; omega)) (fun _ h => h)
   ·
    obtain ⟨⟨j, ys⟩, hy⟩ := x
    dsimp only at hy ⊢
    have hyl := hy.perm.length_eq
    have hyj := hy.le
    refine sy_seq ?_
    refine sy_seq ?_
    refine sy_draw [0, 0, 3, 7, 15, 15, 63, 127, 15, 15, 527, 1807, 3855, 8191, 16383] (.tk 0 (.tk 1 (.tk 2 (.tk 3 (.tk 4 (.tk 5 (.tk 6 (.ld 7 (.tk 8 (.tk 9 (.tk 10 (.tk 11 (.ld 12 (.big 13 (.tk 14 .done))))))))))))))) mixed (by kernel_rfl) ?_
    refine tk rfl (PE.move rfl) rfl ?_
    refine tk rfl (PE.move rfl) rfl ?_
    refine tk rfl (PE.gtr rfl rfl) rfl ?_
    refine tk rfl (PE.move rfl) rfl ?_
    refine sy_case (t := 19) rfl (fun g19 => ?_) (fun g19 => ?_)
    ·
     try simp only [decide_eq_true_eq, decide_eq_false_iff_not, Bool.and_eq_true, Bool.or_eq_true, Bool.not_eq_true', Int.not_le, Int.not_lt] at g19
     refine tkG rfl rfl rfl rfl (PE.move rfl) rfl ?_
     refine tkG rfl rfl rfl rfl (PE.move rfl) rfl ?_
     refine tkG rfl rfl rfl rfl (PE.indexAddr el28 rfl rfl (by omega) (by omega)) rfl ?_
     refine ldG rfl rfl rfl rfl rfl (lh sc3 rfl (int_at (by omega))) rfl ?_
     refine tkG rfl rfl rfl rfl (PE.move rfl) rfl ?_
     refine tkG rfl rfl rfl rfl (PE.move rfl) rfl ?_
     refine tkG rfl rfl rfl rfl (PE.sub rfl rfl (by omega)) rfl ?_
     rw [show (j : Int) - 1 = ((j - 1 : Nat) : Int) from by omega]
     refine tkG rfl rfl rfl rfl (PE.indexAddr el28 rfl rfl (by omega) (by omega)) rfl ?_
     refine ldG rfl rfl rfl rfl rfl (lh sc3 rfl (int_at (by omega))) rfl ?_
     refine clVG rfl rfl rfl rfl cal149 rfl rfl (c_Less _ _ _ _) ?_
     refine bg (fun w hs => ⟨trivial, trivial, trivial⟩) ?_
     refine tk rfl (PE.pick rfl rfl rfl) rfl ?_
     refine sy_cond rfl (fun hc1 => ?_) (fun hc1 => ?_)
     ·
      try simp only [decide_eq_true_eq, decide_eq_false_iff_not, Bool.and_eq_true, Bool.or_eq_true, Bool.not_eq_true', Int.not_le, Int.not_lt] at hc1
      refine sy_skip ?_
      refine sy_seq ?_
      refine sy_block ?_
      refine sy_draw [0, 0, 0, 0, 8, 0, 0, 64, 224, 480, 0, 0, 3072, 7168, 16355, 32739, 65535, 131071] (.tk 0 (.tk 1 (.tk 2 (.tk 3 (.tk 4 (.tk 5 (.tk 6 (.tk 7 (.tk 8 (.ld 9 (.tk 10 (.tk 11 (.tk 12 (.ld 13 (.tk 14 (.big 15 (.tk 16 (.big 17 .done)))))))))))))))))) mixed (by kernel_rfl) ?_
      refine tk rfl (PE.move rfl) rfl ?_
      refine tk rfl (PE.move rfl) rfl ?_
      refine tk rfl (PE.move rfl) rfl ?_
      refine tk rfl (PE.move rfl) rfl ?_
      refine tk rfl (PE.sub rfl rfl (by omega)) rfl ?_
      refine tk rfl (PE.move rfl) rfl ?_
      refine tk rfl (PE.move rfl) rfl ?_
      refine tk rfl (PE.sub rfl rfl (by omega)) rfl ?_
      rw [show (j : Int) - 1 = ((j - 1 : Nat) : Int) from by omega]
      refine tk rfl (PE.indexAddr el28 rfl rfl (by omega) (by omega)) rfl ?_
      refine ld rfl rfl (lh sc3 rfl (int_at (by omega))) rfl ?_
      refine tk rfl (PE.move rfl) rfl ?_
      refine tk rfl (PE.move rfl) rfl ?_
      refine tk rfl (PE.indexAddr el28 rfl rfl (by omega) (by omega)) rfl ?_
      refine ld rfl rfl (lh sc3 rfl (int_at (by omega))) rfl ?_
      refine tk rfl (PE.indexAddr el28 rfl rfl (by omega) (by omega)) rfl ?_
      refine stoE (l' := ints ((ys).set j (nn ys (j - 1))) ++ junk) rfl rfl rfl cn3 rfl rfl rfl (spl_int (show j < ys.length by omega) _) (by rw [List.length_append, ints_length]; show 0 + ((j : Nat) : Int).toNat * 1 + 1 ≤ _; have := (show j < ys.length by omega); omega) ?_
      refine bg (fun w hs => ⟨trivial, trivial, trivial⟩) ?_
      refine tk rfl (PE.indexAddr el28 rfl rfl (by omega) (by omega)) rfl ?_
      refine stoE (l' := ints ((ys.set j (nn ys (j - 1))).set (j - 1) (nn ys j)) ++ junk) rfl rfl rfl cn3 rfl rfl rfl (spl_int (show j - 1 < (ys.set j (nn ys (j - 1))).length by rw [List.length_set]; omega) _) (by rw [List.length_append, ints_length]; show 0 + (((j - 1) : Nat) : Int).toNat * 1 + 1 ≤ _; have := (show j - 1 < (ys.set j (nn ys (j - 1))).length by rw [List.length_set]; omega); omega) ?_
      refine bg (fun w hs => trivial) ?_
      refine sy_tx' [0, 1, 2] rfl ?_
      refine sp rfl (PE.move rfl) rfl ?_
      refine sp rfl (PE.sub rfl rfl (by omega)) rfl ?_
      refine sp rfl (PE.assign rfl) rfl ?_
      rw [show (j : Int) - 1 = ((j - 1 : Nat) : Int) from by omega]
      exact sy_next ⟨(j - 1, (ys.set j (nn ys (j - 1))).set (j - 1) (nn ys j)), hy.swap (by omega) (by omega) (by omega)⟩ (by dsimp only; omega) (by repeat' first | exact Sub.nil | apply Sub.cons | rfl | (simp [lk]; omega)) (fun _ h => h)
     try simp only [decide_eq_true_eq, decide_eq_false_iff_not, Bool.and_eq_true, Bool.or_eq_true, Bool.not_eq_true', Int.not_le, Int.not_lt] at hc1
     have hfd := hy.done (.inr (by omega))
     refine sy_exit ?_
     repeat refine sy_tx ?_
     refine sy_bx ?_
     refine sy_tx' [0, 1, 2] rfl ?_
     refine sp rfl (PE.move rfl) rfl ?_
     refine sp rfl (PE.add rfl rfl (by omega)) rfl ?_
     refine sp rfl (PE.assign rfl) rfl ?_
     exact sy_next ⟨(i + 1, ys), by omega, by omega, hfd⟩ (by dsimp only; omega) (by repeat' first | exact Sub.nil | apply Sub.cons | rfl | (simp [lk]; omega)) (fun _ h => h)
    try simp only [decide_eq_true_eq, decide_eq_false_iff_not, Bool.and_eq_true, Bool.or_eq_true, Bool.not_eq_true', Int.not_le, Int.not_lt] at g19
    have hfd := hy.done (.inl (by omega))
    repeat refine tkN rfl rfl rfl rfl rfl rfl rfl rfl ?_
    refine ldN rfl rfl rfl rfl rfl rfl rfl rfl ?_
    repeat refine tkN rfl rfl rfl rfl rfl rfl rfl rfl ?_
    refine ldN rfl rfl rfl rfl rfl rfl rfl rfl ?_
    refine spN rfl rfl rfl rfl rfl rfl rfl rfl ?_
    refine bg (fun w hs => ⟨trivial, trivial, trivial⟩) ?_
    refine tk rfl (PE.pick rfl rfl rfl) rfl ?_
    refine sy_condF rfl ?_
    refine sy_exit ?_
    repeat refine sy_tx ?_
    refine sy_bx ?_
    refine sy_tx' [0, 1, 2] rfl ?_
    refine sp rfl (PE.move rfl) rfl ?_
    refine sp rfl (PE.add rfl rfl (by omega)) rfl ?_
    refine sp rfl (PE.assign rfl) rfl ?_
    exact sy_next ⟨(i + 1, ys), by omega, by omega, hfd⟩ (by dsimp only; omega) (by repeat' first | exact Sub.nil | apply Sub.cons | rfl | (simp [lk]; omega)) (fun _ h => h)
  try simp only [decide_eq_true_eq, decide_eq_false_iff_not, Bool.and_eq_true, Bool.or_eq_true, Bool.not_eq_true', Int.not_le, Int.not_lt] at hc0
  have hfin : SrtI l xs l.length := ⟨hs.perm, fun p q h1 h2 => hs.at_ p q h1 (by omega)⟩
  refine sy_exit ?_
  repeat refine sy_tx ?_
  refine sy_bx ?_
  exact sy_fall (vs := []) rfl .nil rfl ⟨xs, hfin, rfl, rfl, rfl⟩ (fun _ h => h)
theorem c_insN (H : Heap) (R : Facts) :
    FnV Tryz.prog 143 [.slice none 0 0, .int .i64 0, .int .i64 (([] : List Int).length : Nat)] H R (.tuple #[]) := by
 refine fn_of Tryz.func143 rfl Tryz.ntmps143 rfl ?_
 refine sy_seq ?_
 refine sy_tx' [0, 1, 2] rfl ?_
 refine sp rfl (PE.move rfl) rfl ?_
 refine sp rfl (PE.add rfl rfl (by omega)) rfl ?_
 refine sp rfl (PE.assign rfl) rfl ?_
 refine sy_block ?_
 refine sy_loop (ι := Unit) (fun _ => ⟨[(2, .int .i64 (([] : List Int).length : Nat)), (6, .int .i64 1)], H, R⟩) (fun x => 0) () ?_ (fun x => ?_)
 exact sy_at (by repeat' first | exact Sub.nil | apply Sub.cons | rfl | (simp [lk]; omega)) (fun _ h => h)
 refine sy_seq ?_
 refine sy_seq ?_
 refine sy_tx' [0, 1, 2] rfl ?_
 refine sp rfl (PE.move rfl) rfl ?_
 refine sp rfl (PE.move rfl) rfl ?_
 refine sp rfl (PE.lss rfl rfl) rfl ?_
 refine sy_cond rfl (fun hc0 => ?_) (fun hc0 => ?_)
 exact absurd hc0 (by simp)
 refine sy_exit ?_
 repeat refine sy_tx ?_
 refine sy_bx ?_
 exact sy_fall (vs := []) rfl .nil rfl ⟨rfl, rfl, rfl⟩ (fun _ h => h)
theorem c_ins (l : List Int) (o : OSl 3 1 (irows l)) (hl : l.length ≤ 12) (H : Heap) (R : Facts) : Fn Tryz.prog 143 [o.fs, .int .i64 0, .int .i64 l.length] (o.G ++ H) R (fun v H' R' => ∃ ys, ∃ o' : OSl 3 1 (irows ys), SrtI l ys l.length ∧ o'.fs = o.fs ∧ v = .tuple #[] ∧ H' = o'.G ++ H ∧ R' = R) := by
  have hir : (irows l).length = l.length := List.length_map _
  rcases o.is with ⟨h1, h2, h3⟩ | ⟨b, cap, junk, h2, h3, hj, hc, hm⟩
  · have hx : l = [] := List.map_eq_nil_iff.1 h1
    subst hx
    rw [h2, h3]
    exact Fn.mono (c_insN H R) (by rintro v H' R' ⟨rfl, rfl, rfl⟩; exact ⟨[], OSl.nil _ _, ⟨.refl _, fun p q h4 h5 => by simp at h5⟩, rfl, rfl, rfl, rfl⟩)
  · rw [hir] at h2 hj hc
    rw [h2, h3, irows_flat']
    exact Fn.mono (c_insB l b cap junk hl H R) (by
      rintro v H' R' ⟨ys, hs, rfl, rfl, rfl⟩
      have hyl := hs.perm.length_eq
      have hyi : (irows ys).length = l.length := by rw [List.length_map, hyl]
      exact ⟨ys, ⟨.slice (some ⟨b, 0, none⟩) (irows ys).length cap, [(b, cel 3 ((irows ys).flatten ++ junk))], ir_len _, .inr ⟨b, cap, junk, rfl, rfl, by rw [hyi]; exact hj, by rw [hyi]; exact hc, hm⟩⟩, hs, congrArg (fun q => Value.slice (some ⟨b, 0, none⟩) q cap) hyi, rfl, congrArg (fun q => (b, cel 3 (q ++ junk)) :: H) (irows_flat' ys).symm, rfl⟩)
theorem c_pdq (l : List Int) (o : OSl 3 1 (irows l)) (hl : l.length ≤ 12) (z : Int) (H : Heap) (R : Facts) :
    Fn Tryz.prog 131 [o.fs, .int .i64 0, .int .i64 l.length, .int .i64 z] (o.G ++ H) R (fun v H' R' => ∃ ys, ∃ o' : OSl 3 1 (irows ys), SrtI l ys l.length ∧ o'.fs = o.fs ∧ v = .tuple #[] ∧ H' = o'.G ++ H ∧ R' = R) := by
 refine fn_of Tryz.func131 rfl Tryz.ntmps131 rfl ?_
 refine sy_seq ?_
 refine sy_tx' [0] rfl ?_
 refine sp rfl (PE.assign rfl) rfl ?_
 refine sy_seq ?_
 refine sy_tx' [0] rfl ?_
 refine sp rfl (PE.assign rfl) rfl ?_
 refine sy_block ?_
 refine sy_loop (ι := Unit) (fun _ => ⟨[(0, o.fs), (1, .int .i64 0), (2, .int .i64 l.length)], o.G ++ H, R⟩) (fun x => 0) () ?_ (fun x => ?_)
 exact sy_at (by repeat' first | exact Sub.nil | apply Sub.cons | rfl | (simp [lk]; omega)) (fun _ h => h)
 refine sy_block ?_
 refine sy_seq ?_
 refine sy_tx' [0, 1, 2, 3] rfl ?_
 refine sp rfl (PE.move rfl) rfl ?_
 refine sp rfl (PE.move rfl) rfl ?_
 refine sp rfl (PE.sub rfl rfl (by omega)) rfl ?_
 refine sp rfl (PE.assign rfl) rfl ?_
 refine sy_seq ?_
 refine sy_seq ?_
 refine sy_tx' [0, 1] rfl ?_
 refine sp rfl (PE.move rfl) rfl ?_
 refine sp rfl (PE.leq rfl rfl) rfl ?_
 refine sy_cond rfl (fun hc0 => ?_) (fun hc0 => ?_)
 refine sy_seq ?_
 refine sy_tx' [0, 1, 2, 3] rfl ?_
 refine sp rfl (PE.move rfl) rfl ?_
 refine sp rfl (PE.move rfl) rfl ?_
 refine sp rfl (PE.move rfl) rfl ?_
 refine cl rfl cal143 rfl rfl (c_ins l o hl _ _) ?_
 rintro _ _ R1 ⟨ys, o', hs, hof, rfl, rfl, hR1⟩
 obtain rfl := hR1.symm
 clear hR1
 refine sy_ret ?_
 exact sy_return (vs := []) rfl .nil rfl ⟨ys, o', hs, hof, rfl, rfl, rfl⟩ (fun _ h => h)
 simp only [decide_eq_false_iff_not] at hc0
 omega
theorem c_Len64 (k : Nat) (hk : k ≤ 12) (H : Heap) (R : Facts) :
    Fn Tryz.prog 153 [.int .u64 k] H R (fun v H' R' => ∃ z : Int, v = .int .i64 z ∧ H' = H ∧ R' = R) := by
 refine fn_of Tryz.func153 rfl Tryz.ntmps153 rfl ?_
 refine sy_seq ?_
 refine sy_tx' [0] rfl ?_
 refine sp rfl (PE.assign rfl) rfl ?_
 refine sy_seq ?_
 refine sy_seq ?_
 refine sy_tx' [0, 1] rfl ?_
 refine sp rfl (PE.move rfl) rfl ?_
 refine sp rfl (PE.geq rfl rfl) rfl ?_
 refine sy_cond rfl (fun hc0 => ?_) (fun hc0 => ?_)
 simp only [decide_eq_true_eq] at hc0
 omega
 refine sy_skip ?_
 refine sy_seq ?_
 refine sy_seq ?_
 refine sy_tx' [0, 1] rfl ?_
 refine sp rfl (PE.move rfl) rfl ?_
 refine sp rfl (PE.geq rfl rfl) rfl ?_
 refine sy_cond rfl (fun hc1 => ?_) (fun hc1 => ?_)
 simp only [decide_eq_true_eq] at hc1
 omega
 refine sy_skip ?_
 refine sy_seq ?_
 refine sy_seq ?_
 refine sy_tx' [0, 1] rfl ?_
 refine sp rfl (PE.move rfl) rfl ?_
 refine sp rfl (PE.geq rfl rfl) rfl ?_
 refine sy_cond rfl (fun hc2 => ?_) (fun hc2 => ?_)
 simp only [decide_eq_true_eq] at hc2
 omega
 refine sy_skip ?_
 refine sy_seq ?_
 refine sy_tx' [0, 1, 2, 3, 4, 5, 6] rfl ?_
 refine sp rfl (PE.move rfl) rfl ?_
 refine sp rfl (PE.move rfl) rfl ?_
 refine sp rfl ((PE.convert us204 ik5 rfl).to (by rw [wrap_u8_id (by omega) (by omega)])) rfl ?_
 refine spE rfl (PE.indexS (m := 256) istr9 rfl rfl (by kernel_rfl) (by omega)) rfl ?_
 rintro _ ⟨u22, rfl, hu22⟩
 refine sp rfl (PE.conv64 us5 ik3 rfl (by omega)) rfl ?_
 refine sp rfl (PE.add rfl rfl (by omega)) rfl ?_
 refine sp rfl (PE.assign rfl) rfl ?_
 refine sy_ret ?_
 exact sy_return (vs := [_]) rfl (.cons (RV.tmp rfl) .nil) rfl ⟨_, rfl, rfl, rfl⟩ (fun _ h => h)
theorem c_Len (k : Nat) (hk : k ≤ 12) (H : Heap) (R : Facts) :
    Fn Tryz.prog 132 [.int .u64 k] H R (fun v H' R' => ∃ z : Int, v = .int .i64 z ∧ H' = H ∧ R' = R) := by
 refine fn_of Tryz.func132 rfl Tryz.ntmps132 rfl ?_
 refine sy_seq ?_
 refine sy_tx' [0] rfl ?_
 refine sp rfl (PE.assign rfl) rfl ?_
 refine sy_seq ?_
 refine sy_condF rfl ?_
 refine sy_skip ?_
 refine sy_seq ?_
 refine sy_tx' [0, 1, 2] rfl ?_
 refine sp rfl (PE.move rfl) rfl ?_
 refine cl rfl cal153 rfl rfl (c_Len64 k hk _ _) ?_
 rintro _ _ R1 ⟨z, rfl, rfl, hR1⟩
 obtain rfl := hR1.symm
 clear hR1
 refine sp rfl (PE.assign rfl) rfl ?_
 refine sy_ret ?_
 exact sy_return (vs := [_]) rfl (.cons (RV.tmp rfl) .nil) rfl ⟨_, rfl, rfl, rfl⟩ (fun _ h => h)
theorem c_Sort (l : List Int) (o : OSl 3 1 (irows l)) (hl : l.length ≤ 12) (H : Heap) (R : Facts) :
    Fn Tryz.prog 97 [o.fs] (o.G ++ H) R (fun v H' R' => ∃ ys, ∃ o' : OSl 3 1 (irows ys), SrtI l ys l.length ∧ o'.fs = o.fs ∧ v = .tuple #[] ∧ H' = o'.G ++ H ∧ R' = R) := by
 obtain ⟨a, c, he, hcc, _⟩ := o.freezeC
 rw [show (irows l).length = l.length from List.length_map _] at he hcc
 refine fn_of Tryz.func97 rfl Tryz.ntmps97 rfl ?_
 refine sy_seq ?_
 refine sy_tx' [0, 1, 2] rfl ?_
 refine sp rfl (PE.move rfl) rfl ?_
 refine sp rfl (PE.lenSl isl28 (congrArg some he)) rfl ?_
 refine sp rfl (PE.assign rfl) rfl ?_
 refine sy_tx' [0, 1, 2, 3, 4, 5] rfl ?_
 refine sp rfl (PE.move rfl) rfl ?_
 refine sp rfl (PE.move rfl) rfl ?_
 refine sp rfl (PE.move rfl) rfl ?_
 refine sp rfl ((PE.convert us3 ik175 rfl).to (by rw [wrap_u64_id (by omega) (by omega)])) rfl ?_
 refine cl rfl cal132 rfl rfl (c_Len l.length hl _ _) ?_
 rintro _ _ R1 ⟨z, rfl, rfl, hR1⟩
 obtain rfl := hR1.symm
 clear hR1
 refine cl rfl cal131 rfl rfl (c_pdq l o hl z _ _) ?_
 rintro _ _ R1 ⟨ys, o', hs, hof, rfl, rfl, hR1⟩
 obtain rfl := hR1.symm
 clear hR1
 exact sy_fall (vs := []) rfl .nil rfl ⟨ys, o', hs, hof, rfl, rfl, rfl⟩ (fun _ h => h)
theorem c_Values (xs : List Int) (a : Option Addr) (c : Nat) (H : Heap) (R : Facts) :
    Fn Tryz.prog 58 [.slice a xs.length c] H R (fun v H' R' => ∃ b1, v = .func (.func 98) #[] #[.pointer (some ⟨b1, 0, none⟩)] ∧ H' = (b1, cel 28 [.slice a xs.length c]) :: H ∧ R' = R) := by
 refine fn_of Tryz.func58 rfl Tryz.ntmps58 rfl ?_
 refine sy_seq ?_
 refine sy_tx' [0, 1] rfl ?_
 refine bx rfl rfl rfl (fun b1 => ?_)
 refine sp rfl (PE.assign rfl) rfl ?_
 refine sy_seq ?_
 refine sy_tx' [0, 1] rfl ?_
 refine sp rfl (PE.makeFunc rfl rfl) rfl ?_
 refine sp rfl (PE.assign rfl) rfl ?_
 refine sy_ret ?_
 exact sy_return (vs := [_]) rfl (.cons (RV.tmp rfl) .nil) rfl ⟨b1, rfl, rfl, rfl⟩ (fun _ h => h)
theorem c_vals1 (xs : List Int) (a : Option Addr) (c b1 bl0 : Nat) (hl : xs.length ≤ 9223372036854775807) (I : Nat → Heap → Prop) (T0 : Heap) (h0 : I 0 T0) (R : Facts) [hR : MemRows a 1 (irows xs) R] (hy : ∀ k x T1, xs[k]? = some x → I k T1 → Yd Tryz.prog bl0 [.int .i64 x] ((b1, cel 28 [.slice a xs.length c]) :: T1) R (fun v H' R' => v = .bool true ∧ (∃ T', I (k + 1) T' ∧ H' = (b1, cel 28 [.slice a xs.length c]) :: T') ∧ R' = R)) :
    Fn Tryz.prog 98 [yv bl0, .pointer (some ⟨b1, 0, none⟩)] ((b1, cel 28 [.slice a xs.length c]) :: T0) R (fun v H' R' => ∃ T', I xs.length T' ∧ v = .tuple #[] ∧ H' = (b1, cel 28 [.slice a xs.length c]) :: T' ∧ R' = R) := by
 refine fn_of Tryz.func98 rfl Tryz.ntmps98 rfl ?_
 refine sy_seq ?_
 refine sy_tx' [0, 1, 2] rfl ?_
 refine spL rfl rfl (lh sc28 rfl rfl) rfl ?_
 refine sp rfl (PE.lenSl isl28 rfl) rfl ?_
 refine sp rfl (PE.move rfl) rfl ?_
 refine sy_block ?_
 refine sy_loop (ι := {x : Nat × Heap // x.1 ≤ xs.length ∧ I x.1 x.2}) (fun x => ⟨[(0, yv bl0), (5, .slice a xs.length c), (6, .int .i64 xs.length), (7, .int .i64 x.1.1)], (b1, cel 28 [.slice a xs.length c]) :: x.1.2, R⟩) (fun x => xs.length - x.1.1) ⟨(0, T0), by omega, h0⟩ ?_ (fun x => ?_)
 exact sy_at (by repeat' first | exact Sub.nil | apply Sub.cons | rfl | (simp [lk]; omega)) (fun _ h => h)
 obtain ⟨⟨k, T1⟩, hk, hI⟩ := x
 dsimp only at hk hI ⊢
 refine sy_seq ?_
 refine sy_tx' [0] rfl ?_
 refine sp rfl (PE.lss rfl rfl) rfl ?_
 refine sy_seq ?_
 refine sy_cond rfl (fun hc0 => ?_) (fun hc0 => ?_)
 try simp only [decide_eq_true_eq, decide_eq_false_iff_not, Bool.and_eq_true, Bool.or_eq_true, Bool.not_eq_true', Int.not_le, Int.not_lt] at hc0
 obtain ⟨x, hx⟩ : ∃ x, xs[k]? = some x := ⟨_, List.getElem?_eq_getElem (by omega)⟩
 refine sy_addr (a := a) (sz := 1) (rows := irows xs) (by intro h0; simp [irows] at h0; simp [h0] at hx) (fun ba oa he => ?_)
 subst he
 refine sy_skip ?_
 refine sy_seq ?_
 refine sy_block ?_
 refine sy_seq ?_
 refine sy_tx' [0, 1, 2] rfl ?_
 refine sp rfl (PE.indexAddr el28 rfl rfl (by omega) (by omega)) rfl ?_
 refine spL rfl rfl (lf0 (x := .int .i64 x) sc3 (by simp [irows, hx]; rfl) rfl) rfl ?_
 refine sp rfl (PE.assign rfl) rfl ?_
 refine sy_seq ?_
 refine sy_tx' [0, 1, 2, 3] rfl ?_
 refine sp rfl (PE.move rfl) rfl ?_
 refine sp rfl (PE.move rfl) rfl ?_
 refine clY rfl rfl rfl rfl (hy k x T1 hx hI) ?_
 rintro _ _ _ ⟨rfl, ⟨T2, hI2, rfl⟩, rfl⟩
 refine sp rfl (PE.not rfl) rfl ?_
 refine sy_condF rfl ?_
 refine sy_skip ?_
 refine sy_tx' [0, 1] rfl ?_
 refine sp rfl (PE.add rfl rfl (by omega)) rfl ?_
 refine sp rfl (PE.move rfl) rfl ?_
 exact sy_next ⟨(k + 1, T2), by omega, hI2⟩ (by dsimp only; omega) (by repeat' first | exact Sub.nil | apply Sub.cons | rfl | (simp [lk]; omega)) (fun _ h => h)
 try simp only [decide_eq_true_eq, decide_eq_false_iff_not, Bool.and_eq_true, Bool.or_eq_true, Bool.not_eq_true', Int.not_le, Int.not_lt] at hc0
 obtain rfl : k = xs.length := by omega
 refine sy_exit ?_
 repeat refine sy_tx ?_
 refine sy_bx ?_
 exact sy_fall (vs := []) rfl .nil rfl ⟨T1, hI, rfl, rfl, rfl⟩ (fun _ h => h)
theorem c_AppSeq (xs : List Int) (a : Option Addr) (c b1 : Nat) (hl : xs.length ≤ 1000000) (H : Heap) (R : Facts) [hR : MemRows a 1 (irows xs) R] :
    Fn Tryz.prog 130 [.slice none 0 0, .func (.func 98) #[] #[.pointer (some ⟨b1, 0, none⟩)]] ((b1, cel 28 [.slice a xs.length c]) :: H) R (fun v H' R' => ∃ o : OSl 3 1 (irows xs), v = o.fs ∧ H' = o.G ++ H ∧ R' = R) := by
 refine fnM_of Tryz.func130 rfl Tryz.ntmps130 rfl ?_
 refine sy_seq ?_
 refine sy_tx' [0, 1] rfl ?_
 refine bx rfl rfl rfl (fun b2 => ?_)
 refine sp rfl (PE.assign rfl) rfl ?_
 refine sy_seq ?_
 refine sy_seq ?_
 refine sy_tx' [0] rfl ?_
 refine sp rfl (PE.move rfl) rfl ?_
 refine sy_block ?_
 refine sy_range rfl cal98 (fun c0 bl0 bd0 hcp0 hca0 hcb0 hck0 => ?_)
 refine ⟨fun st pend T1 R' => R' = R ∧ pend = none ∧ ∃ o : OSl 3 1 (irows xs), T1 = (bd0, .deferred (some [])) :: (b1, cel 28 [.slice a xs.length c]) :: (o.G ++ ((b2, cel 28 [o.fs]) :: H)),
   Fn.mono (Fn.heapP (H' := (b1, cel 28 [.slice a xs.length c]) :: ((bl0, lob c0 .ready none) :: (bd0, .deferred (some [])) :: (b2, cel 28 [.slice none 0 0]) :: H)) (List.perm_middle (l₁ := [(bl0, lob c0 .ready none), (bd0, .deferred (some [])), (b2, cel 28 [.slice none 0 0])]) (a := (b1, cel 28 [.slice a xs.length c])))
     (c_vals1 xs a c b1 bl0 (by omega) (fun k T1 => ∃ o : OSl 3 1 (irows (xs.take k)), T1 = (bl0, lob c0 .ready none) :: (bd0, .deferred (some [])) :: (o.G ++ ((b2, cel 28 [o.fs]) :: H))) _ ⟨OSl.nil _ _, rfl⟩ _ (fun k x T1 hx hI => ?_))) (fun v H' R' h => ?_), ?_⟩
 rotate_left
 · obtain ⟨T', ⟨o, rfl⟩, _, rfl, rfl⟩ := h
   exact ⟨.ready, none, (bd0, .deferred (some [])) :: (b1, cel 28 [.slice a xs.length c]) :: (o.G ++ ((b2, cel 28 [o.fs]) :: H)), by simp, (List.Perm.swap _ _ _).trans (List.Perm.cons _ (.swap _ _ _)), rfl, rfl, o.cast (by rw [List.take_length]), rfl⟩
 rotate_left
 obtain ⟨o, rfl⟩ := hI
 refine yd_of hcp0 hca0 hcb0 hck0 rfl ?_
 refine sy_tx' [0] rfl ?_
 refine sp rfl (PE.assign rfl) rfl ?_
 refine sy_beginRound ?_
 refine sy_block ?_
 refine sy_tx' [0, 1, 2, 3, 4] rfl ?_
 refine spL rfl rfl (lh sc28 rfl rfl) rfl ?_
 refine sp rfl (PE.move rfl) rfl ?_
 refine bsl (out := [_]) rfl sl28 zl3 rfl rfl rfl rfl rfl rfl (fun b10 => ?_)
 refine apO (o) rfl ap28 rfl rfl (rowsH (row := [.int .i64 x]) rfl) rfl rfl ((by simp only [irows, List.length_map, List.length_singleton, List.length_take]; omega)) rfl (fun o11 => ?_)
 refine stoE (l' := [o11.fs]) rfl rfl rfl cn28 rfl (by rw [o11.cells.1]; first | done | rfl) (by rw [o11.cells.1]; simp [o11.cells.2]) (by rw [o11.cells.1]; first | done | rfl) (by rw [o11.cells.1]; first | done | exact Nat.le_refl _) ?_
 exact sy_roundOn ⟨rfl, ⟨_, ⟨o11.cast (by rw [List.take_add_one, hx]; simp [irows, List.map_take]), rfl⟩, rfl⟩, rfl⟩ (fun w h => ((h.del b10).pull b1))
 rintro _ _ _ _ ⟨rfl, rfl, o, rfl⟩
 refine sy_jn ?_
 refine sy_seq ?_
 refine sy_tx' [0, 1] rfl ?_
 refine spL rfl rfl (lh sc28 rfl rfl) rfl ?_
 refine sp rfl (PE.assign rfl) rfl ?_
 refine sy_ret ?_
 exact sy_returnM [bd0] (fun _ h => h) rfl (.cons (RV.tmp rfl) .nil) rfl ⟨o, rfl, rfl, rfl⟩ (fun w h => (h.del b1).del b2)
theorem c_Collect (xs : List Int) (a : Option Addr) (c b1 : Nat) (hl : xs.length ≤ 1000000) (H : Heap) (R : Facts) [hR : MemRows a 1 (irows xs) R] :
    Fn Tryz.prog 96 [.func (.func 98) #[] #[.pointer (some ⟨b1, 0, none⟩)]] ((b1, cel 28 [.slice a xs.length c]) :: H) R (fun v H' R' => ∃ o : OSl 3 1 (irows xs), v = o.fs ∧ H' = o.G ++ H ∧ R' = R) := by
 refine fn_of Tryz.func96 rfl Tryz.ntmps96 rfl ?_
 refine sy_seq ?_
 refine sy_tx' [0] rfl ?_
 refine sp rfl (PE.assign rfl) rfl ?_
 refine sy_seq ?_
 refine sy_tx' [0, 1, 2] rfl ?_
 refine sp rfl (PE.move rfl) rfl ?_
 refine cl rfl cal130 rfl rfl (c_AppSeq xs a c b1 hl _ _) ?_
 rintro _ _ R1 ⟨o, rfl, rfl, hR1⟩
 obtain rfl := hR1.symm
 clear hR1
 refine sp rfl (PE.assign rfl) rfl ?_
 refine sy_ret ?_
 exact sy_return (vs := [_]) rfl (.cons (RV.tmp rfl) .nil) rfl ⟨o, rfl, rfl, rfl⟩ (fun _ h => h)
theorem c_Sorted (xs : List Int) (a : Option Addr) (c b1 : Nat) (hl : xs.length ≤ 12) (H : Heap) (R : Facts) [hR : MemRows a 1 (irows xs) R] :
    Fn Tryz.prog 57 [.func (.func 98) #[] #[.pointer (some ⟨b1, 0, none⟩)]] ((b1, cel 28 [.slice a xs.length c]) :: H) R (fun v H' R' => ∃ ys, ∃ o : OSl 3 1 (irows ys), SrtI xs ys xs.length ∧ v = o.fs ∧ H' = o.G ++ H ∧ R' = R) := by
 refine fn_of Tryz.func57 rfl Tryz.ntmps57 rfl ?_
 refine sy_seq ?_
 refine sy_tx' [0] rfl ?_
 refine sp rfl (PE.assign rfl) rfl ?_
 refine sy_seq ?_
 refine sy_tx' [0, 1, 2] rfl ?_
 refine sp rfl (PE.move rfl) rfl ?_
 refine cl rfl cal96 rfl rfl (c_Collect xs a c b1 (by omega) _ _) ?_
 rintro _ _ R1 ⟨o, rfl, rfl, hR1⟩
 obtain rfl := hR1.symm
 clear hR1
 refine sp rfl (PE.assign rfl) rfl ?_
 refine sy_seq ?_
 refine sy_tx' [0, 1] rfl ?_
 refine sp rfl (PE.move rfl) rfl ?_
 refine cl rfl cal97 rfl rfl (c_Sort xs o hl _ _) ?_
 rintro _ _ R1 ⟨ys, o', hs, hof, rfl, rfl, hR1⟩
 obtain rfl := hR1.symm
 clear hR1
 rw [← hof]
 refine sy_seq ?_
 refine sy_tx' [0, 1] rfl ?_
 refine sp rfl (PE.move rfl) rfl ?_
 refine sp rfl (PE.assign rfl) rfl ?_
 refine sy_ret ?_
 exact sy_return (vs := [_]) rfl (.cons (RV.tmp rfl) .nil) rfl ⟨ys, o', hs, rfl, rfl, rfl⟩ (fun _ h => h)
theorem c_Compact (l : List Int) (o : OSl 3 1 (irows l)) (hl : l.length ≤ 1000) (H : Heap) (R : Facts) :
    Fn Tryz.prog 59 [o.fs] (o.G ++ H) R (fun v H' R' => ∃ a m c', v = .slice a m c' ∧ ((m = l.length ∧ ∀ p, p + 1 < l.length → nn l p ≠ nn l (p + 1)) ∨ (m < l.length ∧ ∃ p, p + 1 < l.length ∧ nn l p = nn l (p + 1))) ∧ H' = H ∧ R' = R) := by
 obtain ⟨a, c, he, hcc, _⟩ := o.freezeC
 rw [show (irows l).length = l.length from List.length_map _] at he hcc
 refine fn_of Tryz.func59 rfl Tryz.ntmps59 rfl ?_
 refine sy_seq ?_
 refine sy_tx' [0] rfl ?_
 refine sp rfl (PE.assign rfl) rfl ?_
 refine sy_seq ?_
 refine sy_seq ?_
 refine sy_tx' [0, 1, 2] rfl ?_
 refine sp rfl (PE.move rfl) rfl ?_
 refine sp rfl (PE.lenSl isl28 (congrArg some he)) rfl ?_
 refine sp rfl (PE.lss rfl rfl) rfl ?_
 refine sy_cond rfl (fun hc0 => ?_) (fun hc0 => ?_)
 try simp only [decide_eq_true_eq, decide_eq_false_iff_not, Bool.and_eq_true, Bool.or_eq_true, Bool.not_eq_true', Int.not_le, Int.not_lt] at hc0
 rw [he]
 refine sy_seq ?_
 refine sy_tx' [0, 1] rfl ?_
 refine sp rfl (PE.move rfl) rfl ?_
 refine sp rfl (PE.assign rfl) rfl ?_
 refine sy_ret ?_
 exact sy_return (vs := [_]) rfl (.cons (RV.tmp rfl) .nil) rfl ⟨a, l.length, c, rfl, .inl ⟨rfl, fun p hp => by omega⟩, rfl, rfl⟩ (fun w h => St.drop h)
 try simp only [decide_eq_true_eq, decide_eq_false_iff_not, Bool.and_eq_true, Bool.or_eq_true, Bool.not_eq_true', Int.not_le, Int.not_lt] at hc0
 have hir : (irows l).length = l.length := List.length_map _
 obtain ⟨b, cap, junk, hfs, hG, hj, hcap, hmx⟩ := o.is.resolve_left (fun h => by rw [h.1] at hir; simp at hir; omega)
 rw [hir] at hfs hcap hj
 rw [hfs, hG, irows_flat']
 refine Sy.heap (H' := (b, cel 3 (ints l ++ junk)) :: H) (fun w h => h) ?_
 clear he
 refine sy_skip ?_
 refine sy_seq ?_
 refine sy_seq ?_
 refine sy_tx' [0] rfl ?_
 refine sp rfl (PE.assign rfl) rfl ?_
 refine sy_block ?_
 refine sy_loop (ι := {k : Nat // 1 ≤ k ∧ k ≤ l.length ∧ ∀ p, p + 1 < k → nn l p ≠ nn l (p + 1)}) (fun k => ⟨[(0, .slice (some ⟨b, 0, none⟩) l.length cap), (3, .int .i64 k.1)], (b, cel 3 (ints l ++ junk)) :: H, R⟩) (fun k => l.length - k.1) ⟨1, by omega, by omega, fun p hp => by omega⟩ ?_ (fun k => ?_)
 exact sy_at (by repeat' first | exact Sub.nil | apply Sub.cons | rfl | (simp [lk]; omega)) (fun _ h => h)
 obtain ⟨k, hk1, hk2, hne⟩ := k
 dsimp only at hk1 hk2 hne ⊢
 refine sy_seq ?_
 refine sy_seq ?_
 refine sy_tx' [0, 1, 2, 3] rfl ?_
 refine sp rfl (PE.move rfl) rfl ?_
 refine sp rfl (PE.move rfl) rfl ?_
 refine sp rfl (PE.lenSl isl28 rfl) rfl ?_
 refine sp rfl (PE.lss rfl rfl) rfl ?_
 refine sy_cond rfl (fun hc1 => ?_) (fun hc1 => ?_)
 try simp only [decide_eq_true_eq, decide_eq_false_iff_not, Bool.and_eq_true, Bool.or_eq_true, Bool.not_eq_true', Int.not_le, Int.not_lt] at hc1
 refine sy_skip ?_
 refine sy_seq ?_
 refine sy_block ?_
 refine sy_seq ?_
 refine sy_draw [0, 0, 3, 7, 0, 0, 32, 112, 240, 511] (.tk 0 (.tk 1 (.tk 2 (.ld 3 (.tk 4 (.tk 5 (.tk 6 (.tk 7 (.ld 8 (.tk 9 .done)))))))))) mixed (by kernel_rfl) ?_
 refine tk rfl (PE.move rfl) rfl ?_
 refine tk rfl (PE.move rfl) rfl ?_
 refine tk rfl (PE.indexAddr el28 rfl rfl (by omega) (by omega)) rfl ?_
 refine ld rfl rfl (lh sc3 rfl (int_at (by omega))) rfl ?_
 refine tk rfl (PE.move rfl) rfl ?_
 refine tk rfl (PE.move rfl) rfl ?_
 refine tk rfl (PE.sub rfl rfl (by omega)) rfl ?_
 rw [show (k : Int) - 1 = ((k - 1 : Nat) : Int) from by omega]
 refine tk rfl (PE.indexAddr el28 rfl rfl (by omega) (by omega)) rfl ?_
 refine ld rfl rfl (lh sc3 rfl (int_at (by omega))) rfl ?_
 refine tk rfl (PE.eql rfl rfl) rfl ?_
 refine sy_cond rfl (fun hc2 => ?_) (fun hc2 => ?_)
 try simp only [decide_eq_true_eq, decide_eq_false_iff_not, Bool.and_eq_true, Bool.or_eq_true, Bool.not_eq_true', Int.not_le, Int.not_lt] at hc2
 refine sy_seq ?_
 refine sy_tx' [0, 1, 2, 3] rfl ?_
 refine sp rfl (PE.move rfl) rfl ?_
 refine sp rfl (PE.move rfl) rfl ?_
 refine sp rfl (PE.slLo sl28 rfl rfl (by omega) (by omega)) rfl ?_
 refine sp rfl (PE.assign rfl) rfl ?_
 refine sy_seq ?_
 refine sy_seq ?_
 refine sy_tx' [0] rfl ?_
 refine sp rfl (PE.assign rfl) rfl ?_
 refine sy_block ?_
 refine sy_loop (ι := {x : Nat × Nat × List Int // k ≤ x.1 ∧ x.1 + 1 ≤ k + x.2.1 ∧ 1 ≤ x.2.1 ∧ x.2.1 ≤ l.length - k ∧ x.2.2.length = l.length}) (fun x => ⟨[(0, .slice (some ⟨b, 0, none⟩) l.length cap), (3, .int .i64 x.1.1), (4, .slice (some ⟨b, 0 + k * 1, none⟩) (l.length - k) (cap - k)), (5, .int .i64 x.1.2.1)], (b, cel 3 (ints x.1.2.2 ++ junk)) :: H, R⟩) (fun x => l.length - x.1.2.1) ⟨(k, 1, l), by dsimp only; omega, by dsimp only; omega, by dsimp only; omega, by dsimp only; omega, rfl⟩ ?_ (fun x => ?_)
 exact sy_at (by repeat' first | exact Sub.nil | apply Sub.cons | rfl | (simp [lk]; omega)) (fun _ h => h)
 obtain ⟨⟨m, q, ys⟩, hm1, hm2, hq1, hq2, hyl⟩ := x
 dsimp only at hm1 hm2 hq1 hq2 hyl ⊢
 refine sy_seq ?_
 refine sy_seq ?_
 refine sy_tx' [0, 1, 2, 3] rfl ?_
 refine sp rfl (PE.move rfl) rfl ?_
 refine sp rfl (PE.move rfl) rfl ?_
 refine sp rfl (PE.lenSl isl28 rfl) rfl ?_
 refine sp rfl (PE.lss rfl rfl) rfl ?_
 refine sy_cond rfl (fun hc3 => ?_) (fun hc3 => ?_)
 try simp only [decide_eq_true_eq, decide_eq_false_iff_not, Bool.and_eq_true, Bool.or_eq_true, Bool.not_eq_true', Int.not_le, Int.not_lt] at hc3
 refine sy_skip ?_
 refine sy_seq ?_
 refine sy_block ?_
 refine sy_seq ?_
 refine sy_draw [0, 0, 3, 7, 0, 0, 32, 112, 240, 511] (.tk 0 (.tk 1 (.tk 2 (.ld 3 (.tk 4 (.tk 5 (.tk 6 (.tk 7 (.ld 8 (.tk 9 .done)))))))))) mixed (by kernel_rfl) ?_
 refine tk rfl (PE.move rfl) rfl ?_
 refine tk rfl (PE.move rfl) rfl ?_
 refine tk rfl (PE.indexAddr el28 rfl rfl (by omega) (by omega)) rfl ?_
 refine ld rfl rfl (lh sc3 rfl (int_at2 (by omega))) rfl ?_
 refine tk rfl (PE.move rfl) rfl ?_
 refine tk rfl (PE.move rfl) rfl ?_
 refine tk rfl (PE.sub rfl rfl (by omega)) rfl ?_
 rw [show (q : Int) - 1 = ((q - 1 : Nat) : Int) from by omega]
 refine tk rfl (PE.indexAddr el28 rfl rfl (by omega) (by omega)) rfl ?_
 refine ld rfl rfl (lh sc3 rfl (int_at2 (by omega))) rfl ?_
 refine tk rfl (PE.neq rfl rfl) rfl ?_
 refine sy_cond rfl (fun hc4 => ?_) (fun hc4 => ?_)
 try simp only [decide_eq_true_eq, decide_eq_false_iff_not, Bool.and_eq_true, Bool.or_eq_true, Bool.not_eq_true', Int.not_le, Int.not_lt] at hc4
 refine sy_seq ?_
 refine sy_tx' [0, 1, 2, 3, 4, 5, 6, 7] rfl ?_
 refine sp rfl (PE.move rfl) rfl ?_
 refine sp rfl (PE.move rfl) rfl ?_
 refine sp rfl (PE.move rfl) rfl ?_
 refine sp rfl (PE.move rfl) rfl ?_
 refine sp rfl (PE.indexAddr el28 rfl rfl (by omega) (by omega)) rfl ?_
 refine spL rfl rfl (lh sc3 rfl (int_at2 (by omega))) rfl ?_
 refine sp rfl (PE.indexAddr el28 rfl rfl (by omega) (by omega)) rfl ?_
 refine stoE (l' := ints ((ys).set m (nn ys (k + q))) ++ junk) rfl rfl rfl cn3 rfl rfl rfl (spl_int (show m < ys.length by omega) _) (by rw [List.length_append, ints_length]; show 0 + ((m : Nat) : Int).toNat * 1 + 1 ≤ _; have := (show m < ys.length by omega); omega) ?_
 refine sy_tx' [0, 1, 2] rfl ?_
 refine sp rfl (PE.move rfl) rfl ?_
 refine sp rfl (PE.add rfl rfl (by omega)) rfl ?_
 refine sp rfl (PE.assign rfl) rfl ?_
 refine sy_tx' [0, 1, 2] rfl ?_
 refine sp rfl (PE.move rfl) rfl ?_
 refine sp rfl (PE.add rfl rfl (by omega)) rfl ?_
 refine sp rfl (PE.assign rfl) rfl ?_
 exact sy_next ⟨(m + 1, q + 1, ys.set m (nn ys (k + q))), by dsimp only; omega, by dsimp only; omega, by dsimp only; omega, by dsimp only; omega, by rw [List.length_set]; exact hyl⟩ (by dsimp only; omega) (by repeat' first | exact Sub.nil | apply Sub.cons | rfl | (simp [lk]; omega)) (fun _ h => h)
 try simp only [decide_eq_true_eq, decide_eq_false_iff_not, Bool.and_eq_true, Bool.or_eq_true, Bool.not_eq_true', Int.not_le, Int.not_lt] at hc4
 refine sy_skip ?_
 refine sy_tx' [0, 1, 2] rfl ?_
 refine sp rfl (PE.move rfl) rfl ?_
 refine sp rfl (PE.add rfl rfl (by omega)) rfl ?_
 refine sp rfl (PE.assign rfl) rfl ?_
 exact sy_next ⟨(m, q + 1, ys), by dsimp only; omega, by dsimp only; omega, by dsimp only; omega, by dsimp only; omega, hyl⟩ (by dsimp only; omega) (by repeat' first | exact Sub.nil | apply Sub.cons | rfl | (simp [lk]; omega)) (fun _ h => h)
 try simp only [decide_eq_true_eq, decide_eq_false_iff_not, Bool.and_eq_true, Bool.or_eq_true, Bool.not_eq_true', Int.not_le, Int.not_lt] at hc3
 refine sy_exit ?_
 repeat refine sy_tx ?_
 refine sy_bx ?_
 refine sy_seq ?_
 refine sy_tx' [0, 1, 2, 3] rfl ?_
 refine sp rfl (PE.move rfl) rfl ?_
 refine sp rfl (PE.move rfl) rfl ?_
 refine sp rfl (PE.slLo sl28 rfl rfl (by omega) (by omega)) rfl ?_
 refine clrA rfl rfl sl28 zl3 rfl rfl rfl (by rw [List.length_append, ints_length]; omega) ?_
 refine sy_seq ?_
 refine sy_tx' [0, 1, 2, 3] rfl ?_
 refine sp rfl (PE.move rfl) rfl ?_
 refine sp rfl (PE.move rfl) rfl ?_
 refine sp rfl (PE.slHi sl28 rfl rfl (by omega)) rfl ?_
 refine sp rfl (PE.assign rfl) rfl ?_
 refine sy_ret ?_
 first
   | exact sy_return (vs := [_]) rfl (.cons (RV.tmp rfl) .nil) rfl ⟨_, m, cap, rfl, .inr ⟨by omega, k - 1, by omega, by rw [show k - 1 + 1 = k from by omega]; exact hc2.symm⟩, rfl, rfl⟩ (fun w h => h.del b)
   | exact sy_return (vs := [_]) rfl (.cons (RV.tmp rfl) .nil) rfl ⟨_, l.length, cap, rfl, .inl ⟨rfl, hne⟩, rfl, rfl⟩ (fun w h => h.del b)
 try simp only [decide_eq_true_eq, decide_eq_false_iff_not, Bool.and_eq_true, Bool.or_eq_true, Bool.not_eq_true', Int.not_le, Int.not_lt] at hc2
 refine sy_skip ?_
 refine sy_tx' [0, 1, 2] rfl ?_
 refine sp rfl (PE.move rfl) rfl ?_
 refine sp rfl (PE.add rfl rfl (by omega)) rfl ?_
 refine sp rfl (PE.assign rfl) rfl ?_
 exact sy_next ⟨k + 1, by omega, by omega, fun p hp => by rcases Nat.lt_or_ge (p + 1) k with h1 | h1; exact hne p h1; obtain rfl : p + 1 = k := (by omega); simp only [Nat.add_sub_cancel] at hc2; exact fun e => hc2 e.symm⟩ (by dsimp only; omega) (by repeat' first | exact Sub.nil | apply Sub.cons | rfl | (simp [lk]; omega)) (fun _ h => h)
 try simp only [decide_eq_true_eq, decide_eq_false_iff_not, Bool.and_eq_true, Bool.or_eq_true, Bool.not_eq_true', Int.not_le, Int.not_lt] at hc1
 obtain rfl : k = l.length := by omega
 refine sy_exit ?_
 repeat refine sy_tx ?_
 refine sy_bx ?_
 refine sy_seq ?_
 refine sy_tx' [0, 1] rfl ?_
 refine sp rfl (PE.move rfl) rfl ?_
 refine sp rfl (PE.assign rfl) rfl ?_
 refine sy_ret ?_
 first
   | exact sy_return (vs := [_]) rfl (.cons (RV.tmp rfl) .nil) rfl ⟨_, m, cap, rfl, .inr ⟨by omega, k - 1, by omega, by rw [show k - 1 + 1 = k from by omega]; exact hc2.symm⟩, rfl, rfl⟩ (fun w h => h.del b)
   | exact sy_return (vs := [_]) rfl (.cons (RV.tmp rfl) .nil) rfl ⟨_, l.length, cap, rfl, .inl ⟨rfl, hne⟩, rfl, rfl⟩ (fun w h => h.del b)
end Go.Proofs.YtknoaljnelfklaaGreat
namespace Go.Proofs.YtknoaljnelfklaaGreat
set_option linter.unusedSimpArgs false
set_option linter.unusedVariables false
open Go
theorem cal56 : cal Tryz.prog 56 = true := by kernel_rfl
theorem cal57 : cal Tryz.prog 57 = true := by kernel_rfl
theorem cal58 : cal Tryz.prog 58 = true := by kernel_rfl
theorem cal59 : cal Tryz.prog 59 = true := by kernel_rfl
theorem agrE_0 {g : Gat} {c : Crt} {l : List Int} (h0 : bothE g c = 0) (h1 : (l.all fun i => inb i 0 ((c.hs.length : Int) - 1)) = true) (h2 : l.Nodup) : agrE g c l = 0 := by
  unfold agrE
  rw [decide_eq_false (by omega), h1, decide_eq_true h2]; rfl
theorem agrR_no {g : Gat} {c : Crt} {l : List Int} {e : Int} (h : agrE g c l = e) (h0 : e ≠ 0) : agrR g c l = false := by
  unfold agrR; rw [h, decide_eq_true h0]; rfl
theorem agrR_0 {g : Gat} {c : Crt} {l : List Int} (h : agrE g c l = 0) : agrR g c l = agr g.miss c.hs (flt l) := by
  unfold agrR; rw [h]; rfl
theorem c_hasHnd (g : Gat) (hg : g.ok) (ag : Option Addr) (cg : Nat) (c : Crt) (hc : c.ok) (ah : Option Addr) (ch : Nat) (bw : Nat) (n : Int) (H : Heap) (R : Facts) [hW : MemRows (some ⟨bw, 0, none⟩) 6 [wrow g c (g.sl ag cg) (c.sl ah ch)] R] [hG : MemRows ag 5 (grows g.grs) R] [hA : MemRows ah 5 (hrows c.hs) R] :
    FnV Tryz.prog 56 [.pointer (some ⟨bw, 0, none⟩), .int .i64 n] H R (.bool (inb n 0 ((c.hs.length : Int) - 1))) := by
 refine fn_of Tryz.func56 rfl Tryz.ntmps56 rfl ?_
 refine sy_seq ?_
 refine sy_tx' [0] rfl ?_
 refine sp rfl (PE.assign rfl) rfl ?_
 refine sy_seq ?_
 refine sy_tx' [0, 1, 2, 3, 4, 5, 6, 7, 8, 9] rfl ?_
 refine sp rfl (PE.move rfl) rfl ?_
 refine sp rfl (PE.move rfl) rfl ?_
 refine sp rfl (PE.nilCheck rfl) rfl ?_
 refine sp rfl (PE.fieldAddr fo151_0 rfl) rfl ?_
 refine sp rfl (PE.fieldAddr fo27_2 rfl) rfl ?_
 refine spL rfl rfl (lfB (sz := 6) sc25 rfl) rfl ?_
 refine sp rfl (PE.lenSl isl25 rfl) rfl ?_
 refine sp rfl (PE.sub rfl rfl (by have := hc.many; omega)) rfl ?_
 refine clV rfl cal71 rfl rfl (c_in _ _ _ _ _) ?_
 refine sp rfl (PE.assign rfl) rfl ?_
 refine sy_ret ?_
 exact sy_return (vs := [_]) rfl (.cons (RV.tmp rfl) .nil) rfl ⟨rfl, rfl, rfl⟩ drp
theorem c_Agree (g : Gat) (ag : Option Addr) (cg : Nat) (hlg : g.grs.length ≤ 9223372036854775807) (c : Crt) (ah : Option Addr) (ch : Nat) (hlh : c.hs.length ≤ 9223372036854775807) (l : List Int) (al : Option Addr) (cy : Nat) (hl : l.length ≤ 12) (H : Heap) (R : Facts) [hG : MemRows ag 5 (grows g.grs) R] [hA : MemRows ah 5 (hrows c.hs) R] [hL : MemRows al 1 (irows l) R] :
    FnV Tryz.prog 20 [g.v (g.sl ag cg), c.v (c.sl ah ch), .slice al l.length cy] H R (.tuple #[.bool (agrR g c l), .int .i64 (agrE g c l)]) := by
 refine fn_of Tryz.func20 rfl Tryz.ntmps20 rfl ?_
 refine sy_seq ?_
 refine sy_tx' [0, 1, 2, 3] rfl ?_
 refine bx rfl rfl rfl (fun b3 => ?_)
 refine bx rfl rfl rfl (fun b4 => ?_)
 refine sp rfl (PE.assign rfl) rfl ?_
 refine sp rfl (PE.assign rfl) rfl ?_
 refine sy_seq ?_
 refine sy_tx' [0, 1, 2, 3, 4, 5, 6, 7] rfl ?_
 refine spL rfl rfl (lhA [_, _, _] ag24 rfl rfl rfl) rfl ?_
 refine spL rfl rfl (lhA [_, _, _] ag27 rfl rfl rfl) rfl ?_
 refine cl rfl cal54 rfl rfl (c_opened g ag cg hlg c ah ch hlh _ _) ?_
 rintro _ _ _ ⟨rfl, ho⟩
 rcases ho with ⟨hne, rfl, rfl⟩ | ⟨hg, hc, h0, bw, rfl, rfl⟩
 refine sp rfl (PE.move rfl) rfl ?_
 refine sp rfl (PE.extract rfl rfl) rfl ?_
 refine sp rfl (PE.extract rfl rfl) rfl ?_
 refine sp rfl (PE.assign rfl) rfl ?_
 refine sp rfl (PE.assign rfl) rfl ?_
 refine sy_seq ?_
 refine sy_seq ?_
 refine sy_tx' [0, 1] rfl ?_
 refine sp rfl (PE.move rfl) rfl ?_
 refine sp rfl (PE.neq rfl rfl) rfl ?_
 refine sy_cond rfl (fun hc0 => ?_) (fun hc0 => ?_)
 have he2 : agrE g c l = bothE g c := by unfold agrE; rw [decide_eq_true hne]; rfl
 have he1 := agrR_no he2 hne
 refine sy_seq ?_
 refine sy_tx' [0, 1, 2] rfl ?_
 refine sp rfl (PE.move rfl) rfl ?_
 refine sp rfl (PE.assign rfl) rfl ?_
 refine sp rfl (PE.assign rfl) rfl ?_
 refine sy_ret ?_
 exact sy_return (vs := [_, _]) rfl (.cons (RV.tmp rfl) (.cons (RV.tmp rfl) .nil)) (by rw [he1, he2]; rfl) ⟨rfl, rfl, rfl⟩ drp
 exact absurd hc0 (by simp [hne])
 refine sp rfl (PE.move rfl) rfl ?_
 refine sp rfl (PE.extract rfl rfl) rfl ?_
 refine sp rfl (PE.extract rfl rfl) rfl ?_
 refine sp rfl (PE.assign rfl) rfl ?_
 refine sp rfl (PE.assign rfl) rfl ?_
 refine sy_seq ?_
 refine sy_seq ?_
 refine sy_tx' [0, 1] rfl ?_
 refine sp rfl (PE.move rfl) rfl ?_
 refine sp rfl (PE.neq rfl rfl) rfl ?_
 refine sy_cond rfl (fun hc0 => ?_) (fun hc0 => ?_)
 exact absurd hc0 (by simp)
 refine sy_skip ?_
 refine sy_seq ?_
 refine sy_seq ?_
 refine sy_tx' [0, 1, 2, 3, 4] rfl ?_
 refine sp rfl (PE.move rfl) rfl ?_
 refine sp rfl (PE.move rfl) rfl ?_
 refine sp rfl (PE.makeFunc rfl rfl) rfl ?_
 refine clV rfl cal55 rfl rfl (c_every_int l al cy 56 [.pointer (some ⟨bw, 0, none⟩)] [] (fun i => inb i 0 ((c.hs.length : Int) - 1)) cal56 (by omega) _ _ (fun b y _ => c_hasHnd g hg ag cg c hc ah ch bw y _ _)) ?_
 refine sp rfl (PE.not rfl) rfl ?_
 refine sy_cond rfl (fun hc1 => ?_) (fun hc1 => ?_)
 have hal : (l.all fun i => inb i 0 ((c.hs.length : Int) - 1)) = false := by simpa using hc1
 have he2 : agrE g c l = 1 := by unfold agrE; rw [decide_eq_false (by omega), hal]; rfl
 have he1 := agrR_no he2 (by decide)
 refine sy_seq ?_
 refine sy_tx' [0, 1] rfl ?_
 refine sp rfl (PE.assign rfl) rfl ?_
 refine sp rfl (PE.assign rfl) rfl ?_
 refine sy_ret ?_
 exact sy_return (vs := [_, _]) rfl (.cons (RV.tmp rfl) (.cons (RV.tmp rfl) .nil)) (by rw [he1, he2]; rfl) ⟨rfl, rfl, rfl⟩ drp
 have hal : (l.all fun i => inb i 0 ((c.hs.length : Int) - 1)) = true := by simpa using hc1
 refine sy_skip ?_
 refine sy_seq ?_
 refine sy_seq ?_
 refine sy_tx' [0, 1, 2, 3] rfl ?_
 refine sp rfl (PE.move rfl) rfl ?_
 refine cl rfl cal58 rfl rfl (c_Values l al cy _ _) ?_
 rintro _ _ R1 ⟨b1, rfl, rfl, hR1⟩
 obtain rfl := hR1.symm
 clear hR1
 refine cl rfl cal57 rfl rfl (c_Sorted l al cy b1 hl _ _) ?_
 rintro _ _ R1 ⟨ys, o, hs, rfl, rfl, hR1⟩
 obtain rfl := hR1.symm
 clear hR1
 have hyl := hs.perm.length_eq
 refine sp rfl (PE.assign rfl) rfl ?_
 refine sy_seq ?_
 refine sy_tx' [0, 1, 2, 3, 4, 5] rfl ?_
 refine sp rfl (PE.move rfl) rfl ?_
 refine cl rfl cal59 rfl rfl (c_Compact ys o (by omega) _ _) ?_
 rintro _ _ R1 ⟨az, m, cz, rfl, hm, rfl, hR1⟩
 obtain rfl := hR1.symm
 clear hR1
 refine sp rfl (PE.lenSl isl28 rfl) rfl ?_
 refine sp rfl (PE.move rfl) rfl ?_
 refine sp rfl (PE.lenSl isl28 rfl) rfl ?_
 refine sp rfl (PE.lss rfl rfl) rfl ?_
 refine sy_cond rfl (fun hc2 => ?_) (fun hc2 => ?_)
 try simp only [decide_eq_true_eq, decide_eq_false_iff_not, Bool.and_eq_true, Bool.or_eq_true, Bool.not_eq_true', Int.not_le, Int.not_lt] at hc2
 obtain ⟨p, hp, hpe⟩ := (hm.resolve_left (fun h => by omega)).2
 have hnd : ¬ l.Nodup := fun h => pair_ne hp (hs.perm.nodup_iff.2 h) hpe
 have he2 : agrE g c l = 5 := by unfold agrE; rw [decide_eq_false (by omega), hal, decide_eq_false hnd]; rfl
 have he1 := agrR_no he2 (by decide)
 refine sy_seq ?_
 refine sy_tx' [0, 1] rfl ?_
 refine sp rfl (PE.assign rfl) rfl ?_
 refine sp rfl (PE.assign rfl) rfl ?_
 refine sy_ret ?_
 exact sy_return (vs := [_, _]) rfl (.cons (RV.tmp rfl) (.cons (RV.tmp rfl) .nil)) (by rw [he1, he2]; rfl) ⟨rfl, rfl, rfl⟩ drp
 try simp only [decide_eq_true_eq, decide_eq_false_iff_not, Bool.and_eq_true, Bool.or_eq_true, Bool.not_eq_true', Int.not_le, Int.not_lt] at hc2
 have hnd : l.Nodup := srt_nd hs (by omega) (hm.resolve_right (fun h => by omega)).2
 have he2 := agrE_0 h0 hal hnd
 have he1 := agrR_0 he2
 refine sy_skip ?_
 refine sy_seq ?_
 refine sy_tx' [0, 1, 2, 3, 4, 5] rfl ?_
 refine sp rfl (PE.move rfl) rfl ?_
 refine sp rfl (PE.move rfl) rfl ?_
 refine cl rfl cal61 rfl rfl (c_some l al cy _ _) ?_
 rintro _ _ R1 ⟨bs, rfl, rfl, hR1⟩
 obtain rfl := hR1.symm
 clear hR1
 refine clV rfl cal60 rfl rfl (c_agree g hg ag cg c hc ah ch bw 101 [.pointer (some ⟨bs, 0, none⟩)] (flt l) cal101 _ _ (fun G i hi => c_some1 l al cy bs (by omega) i _ _)) ?_
 refine sp rfl (PE.assign rfl) rfl ?_
 refine sp rfl (PE.assign rfl) rfl ?_
 refine sy_ret ?_
 exact sy_return (vs := [_, _]) rfl (.cons (RV.tmp rfl) (.cons (RV.tmp rfl) .nil)) (by rw [he1, he2]; rfl) ⟨rfl, rfl, rfl⟩ (fun w h => St.ftail (((h.del bs).del b4).del b3))
end Go.Proofs.YtknoaljnelfklaaGreat
namespace Go.Proofs.YtknoaljnelfklaaGreat
set_option linter.unusedSimpArgs false
set_option linter.unusedVariables false
open Go
theorem ag36 : aggN Tryz.prog 36 = some 3 := by kernel_rfl
theorem ag40 : aggN Tryz.prog 40 = some 3 := by kernel_rfl
theorem ag98 : aggN Tryz.prog 98 = some 5 := by kernel_rfl
theorem ag99 : aggN Tryz.prog 99 = some 5 := by kernel_rfl
theorem ap34 : apT Tryz.prog 34 = some (98, 5, 40) := by kernel_rfl
theorem ap38 : apT Tryz.prog 38 = some (99, 5, 40) := by kernel_rfl
theorem cal104 : cal Tryz.prog 104 = true := by kernel_rfl
theorem cal105 : cal Tryz.prog 105 = true := by kernel_rfl
theorem cal47 : cal Tryz.prog 47 = true := by kernel_rfl
theorem cal48 : cal Tryz.prog 48 = true := by kernel_rfl
theorem cal50 : cal Tryz.prog 50 = true := by kernel_rfl
theorem cal65 : cal Tryz.prog 65 = true := by kernel_rfl
theorem cal66 : cal Tryz.prog 66 = true := by kernel_rfl
theorem cal92 : cal Tryz.prog 92 = true := by kernel_rfl
theorem cn34 : cellN Tryz.prog 34 = some 1 := by kernel_rfl
theorem cn36 : cellN Tryz.prog 36 = some 3 := by kernel_rfl
theorem cn38 : cellN Tryz.prog 38 = some 1 := by kernel_rfl
theorem cn40 : cellN Tryz.prog 40 = some 3 := by kernel_rfl
theorem cn98 : cellN Tryz.prog 98 = some 5 := by kernel_rfl
theorem cn99 : cellN Tryz.prog 99 = some 5 := by kernel_rfl
theorem el34 : elN Tryz.prog 34 = some 5 := by kernel_rfl
theorem el38 : elN Tryz.prog 38 = some 5 := by kernel_rfl
theorem eqf69 : eqB Tryz.prog 10000 69 = some (true, 5) := by kernel_rfl
theorem eqg69 : Tryz.prog.eqGuardType Tryz.prog.depth 69 = false := by kernel_rfl
theorem fo36_0 : fOff Tryz.prog 36 0 = some 0 := by kernel_rfl
theorem fo36_1 : fOff Tryz.prog 36 1 = some 1 := by kernel_rfl
theorem fo36_2 : fOff Tryz.prog 36 2 = some 2 := by kernel_rfl
theorem fo40_0 : fOff Tryz.prog 40 0 = some 0 := by kernel_rfl
theorem fo40_1 : fOff Tryz.prog 40 1 = some 1 := by kernel_rfl
theorem fo40_2 : fOff Tryz.prog 40 2 = some 2 := by kernel_rfl
theorem fo98_0 : fOff Tryz.prog 98 0 = some 0 := by kernel_rfl
theorem fo98_1 : fOff Tryz.prog 98 1 = some 1 := by kernel_rfl
theorem fo98_2 : fOff Tryz.prog 98 2 = some 2 := by kernel_rfl
theorem fo98_3 : fOff Tryz.prog 98 3 = some 3 := by kernel_rfl
theorem fo98_4 : fOff Tryz.prog 98 4 = some 4 := by kernel_rfl
theorem fo99_0 : fOff Tryz.prog 99 0 = some 0 := by kernel_rfl
theorem fo99_1 : fOff Tryz.prog 99 1 = some 1 := by kernel_rfl
theorem isl34 : isSl Tryz.prog 34 = true := by kernel_rfl
theorem isl38 : isSl Tryz.prog 38 = true := by kernel_rfl
theorem pl36 : placeL Tryz.prog 36 = some [(0, 1), (1, 1), (2, 1)] := by kernel_rfl
theorem pl40 : placeL Tryz.prog 40 = some [(0, 1), (1, 1), (2, 1)] := by kernel_rfl
theorem sc34 : scal Tryz.prog 34 = true := by kernel_rfl
theorem sc38 : scal Tryz.prog 38 = true := by kernel_rfl
theorem sl34 : slE Tryz.prog 34 = some (98, 5) := by kernel_rfl
theorem sl38 : slE Tryz.prog 38 = some (99, 5) := by kernel_rfl
theorem zl36 : zeroL Tryz.prog 36 = some ([.int .i64 0, .int .i64 0, .slice none 0 0]) := by kernel_rfl
theorem zl40 : zeroL Tryz.prog 40 = some ([.int .i64 0, .int .i64 0, .slice none 0 0]) := by kernel_rfl
theorem zl98 : zeroL Tryz.prog 98 = some ([.int .i64 0, .int .i64 0, .int .i64 0, .int .i64 0, .int .i64 0]) := by kernel_rfl
theorem zl99 : zeroL Tryz.prog 99 = some ([.int .i64 0, .int .i64 0, .int .i64 0, .int .i64 0, .int .i64 0]) := by kernel_rfl
theorem fine_eq (x : Grd) : x.fine = (inb x.price 0 100 && (inb x.corn 0 40 && (inb x.chaff 0 40 && (inb x.stones 0 40 && inb x.damp 0 40)))) := by simp [Grd.fine, Grd.ns]
theorem all_bad {α : Type} {l : List α} {p : α → Bool} {i : Nat} {x : α} (hx : l[i]? = some x) (h : p x = false) : l.all p = false := by
  rw [List.all_eq_false]; exact ⟨x, List.mem_of_getElem? hx, by simp [h]⟩
theorem all_more {α : Type} {l : List α} {p : α → Bool} {i : Nat} {x : α} (hx : l[i]? = some x) (hn : (l.take i).all p = true) (h : p x = true) : (l.take (i + 1)).all p = true := by
  rw [List.take_add_one, hx, Option.toList_some, List.all_append, hn]; simp [h]
theorem chk_many {g : Gat} (h : 4 < g.grs.length) : g.check = 2 := by unfold Gat.check; rw [decide_eq_true h]; rfl
theorem chk_rng {g : Gat} (h : ¬ 4 < g.grs.length) (h1 : inb g.err 0 50 = false ∨ inb g.miss 0 20 = false) : g.check = 3 := by
  unfold Gat.check; rw [decide_eq_false h]
  rcases h1 with h1 | h1 <;> rw [h1] <;> simp
theorem chk_grd {g : Gat} (h : ¬ 4 < g.grs.length) (h1 : inb g.err 0 50 = true) (h2 : inb g.miss 0 20 = true) (h3 : g.grs.all Grd.fine = false) : g.check = 3 := by
  unfold Gat.check; rw [decide_eq_false h, h1, h2, h3]; rfl
theorem chk_ord {g : Gat} (h : ¬ 4 < g.grs.length) (h1 : inb g.err 0 50 = true) (h2 : inb g.miss 0 20 = true) (h3 : g.grs.all Grd.fine = true) : g.check = bif (List.range g.grs.length).any (grBad g.grs) then 4 else 0 := by
  unfold Gat.check; rw [decide_eq_false h, h1, h2, h3]; rfl
theorem cck_many {c : Crt} (h : 6 < c.hs.length) : c.check = 2 := by unfold Crt.check; rw [decide_eq_true h]; rfl
theorem cck_rng {c : Crt} (h : ¬ 6 < c.hs.length) (h1 : inb c.full 0 10000 = false ∨ inb c.empty 0 10000 = false) : c.check = 3 := by
  unfold Crt.check; rw [decide_eq_false h]
  rcases h1 with h1 | h1 <;> rw [h1] <;> simp
theorem cck_hnd {c : Crt} (h : ¬ 6 < c.hs.length) (h1 : inb c.full 0 10000 = true) (h2 : inb c.empty 0 10000 = true) (h3 : c.hs.all Hnd.fine = false) : c.check = 3 := by
  unfold Crt.check; rw [decide_eq_false h, h1, h2, h3]; rfl
theorem cck_tot {c : Crt} (h : ¬ 6 < c.hs.length) (h1 : inb c.full 0 10000 = true) (h2 : inb c.empty 0 10000 = true) (h3 : c.hs.all Hnd.fine = true) : c.check = bif !(c.hs.all fun h => inb h.tot 10 200) then 8 else 0 := by
  unfold Crt.check; rw [decide_eq_false h, h1, h2, h3]; rfl
theorem gs_all {h : Hnd} (hk : ∀ k < 4, inb (nn h.gs k) 0 200 = true) : (h.gs.all fun n => inb n 0 200) = true := by
  have h0 := hk 0 (by omega); have h1 := hk 1 (by omega); have h2 := hk 2 (by omega); have h3 := hk 3 (by omega)
  simp only [nn, Hnd.gs, List.getD_cons_zero, List.getD_cons_succ] at h0 h1 h2 h3
  simp only [Hnd.gs, List.all_cons, List.all_nil, h0, h1, h2, h3]; rfl
theorem gs_bad {h : Hnd} {k : Nat} (hk : k < 4) (hb : inb (nn h.gs k) 0 200 = false) : (h.gs.all fun n => inb n 0 200) = false := by
  rw [List.all_eq_false]
  refine ⟨nn h.gs k, ?_, by rw [hb]; simp⟩
  rcases lt4 hk with rfl | rfl | rfl | rfl <;> simp [nn, Hnd.gs]
theorem hfine_bd {h : Hnd} (hf : h.fine = true) : ∀ k < 4, 0 ≤ nn h.gs k ∧ nn h.gs k ≤ 200 := fun k hk => by
  unfold Hnd.fine at hf
  rw [Bool.and_eq_true] at hf
  have := hf.2
  cases hb : inb (nn h.gs k) 0 200 with
  | true => simpa [inb] using hb
  | false => rw [gs_bad hk hb] at this; cases this
def totN (h : Hnd) : Nat → Int
  | 0 => 0
  | k + 1 => totN h k + nn h.gs k
theorem totN_4 (h : Hnd) : totN h 4 = h.tot := by simp [totN, Hnd.tot, sum4]
theorem totN_bd {h : Hnd} {B : Int} (hb : ∀ k < 4, -B ≤ nn h.gs k ∧ nn h.gs k ≤ B) (hB : 0 ≤ B) : ∀ k, k ≤ 4 → -(4 * B) ≤ totN h k ∧ totN h k ≤ 4 * B := by
  obtain ⟨a, b, c, d⟩ := all4 hb
  intro k hk
  have : k = 0 ∨ k = 1 ∨ k = 2 ∨ k = 3 ∨ k = 4 := by omega
  rcases this with rfl | rfl | rfl | rfl | rfl <;> simp only [totN] <;> omega
theorem c_eq_grd (xs ys : List Grd) (a a2 : Option Addr) (c c2 : Nat) (hl : xs.length ≤ 9223372036854775807) (hl2 : ys.length ≤ 9223372036854775807) (H : Heap) (R : Facts) [hR : MemRows a 5 (grows xs) R] [hR2 : MemRows a2 5 (grows ys) R] :
    FnV Tryz.prog 104 [.slice a xs.length c, .slice a2 ys.length c2] H R (.bool (decide (xs = ys))) := by
 refine fn_of Tryz.func104 rfl Tryz.ntmps104 rfl ?_
 refine sy_seq ?_
 refine sy_tx' [0] rfl ?_
 refine sp rfl (PE.assign rfl) rfl ?_
 refine sy_seq ?_
 refine sy_seq ?_
 refine sy_tx' [0, 1, 2, 3, 4] rfl ?_
 refine sp rfl (PE.move rfl) rfl ?_
 refine sp rfl (PE.lenSl isl22 rfl) rfl ?_
 refine sp rfl (PE.move rfl) rfl ?_
 refine sp rfl (PE.lenSl isl22 rfl) rfl ?_
 refine sp rfl (PE.neq rfl rfl) rfl ?_
 refine sy_cond rfl (fun hc0 => ?_) (fun hc0 => ?_)
 have hne : xs ≠ ys := fun e => by subst e; simp at hc0
 refine sy_seq ?_
 refine sy_tx' [0] rfl ?_
 refine sp rfl (PE.assign rfl) rfl ?_
 refine sy_ret ?_
 exact sy_return (vs := [_]) rfl (.cons (RV.tmp rfl) .nil) rfl ⟨by first | (simp only [retV]; rw [decide_eq_true heq]; done) | (simp only [retV]; rw [decide_eq_false hne]), rfl, rfl⟩ (fun _ h => h)
 have hle : xs.length = ys.length := by simp only [decide_eq_true_eq, decide_eq_false_iff_not, Bool.and_eq_true, Bool.or_eq_true, Bool.not_eq_true', Int.not_le, Int.not_lt] at hc0; omega
 refine sy_skip ?_
 refine sy_seq ?_
 refine sy_seq ?_
 refine sy_tx' [0, 1, 2] rfl ?_
 refine sp rfl (PE.move rfl) rfl ?_
 refine sp rfl (PE.lenSl isl22 rfl) rfl ?_
 refine sp rfl (PE.move rfl) rfl ?_
 refine sy_block ?_
 refine sy_loop (ι := {k : Nat // k ≤ xs.length ∧ xs.take k = ys.take k}) (fun k => ⟨[(0, .slice a xs.length c), (1, .slice a2 ys.length c2), (12, .int .i64 xs.length), (13, .int .i64 k.1)], H, R⟩) (fun k => xs.length - k.1) ⟨0, by simp⟩ ?_ (fun k => ?_)
 exact sy_at (by repeat' first | exact Sub.nil | apply Sub.cons | rfl | (simp [lk]; omega)) (fun _ h => h)
 obtain ⟨k, hk, hn⟩ := k
 dsimp only
 refine sy_seq ?_
 refine sy_tx' [0] rfl ?_
 refine sp rfl (PE.lss rfl rfl) rfl ?_
 refine sy_seq ?_
 refine sy_cond rfl (fun hc1 => ?_) (fun hc1 => ?_)
 simp only [decide_eq_true_eq, decide_eq_false_iff_not, Bool.and_eq_true, Bool.or_eq_true, Bool.not_eq_true', Int.not_le, Int.not_lt] at hc1
 obtain ⟨x, hx⟩ : ∃ x, xs[k]? = some x := ⟨_, List.getElem?_eq_getElem (by omega)⟩
 obtain ⟨z, hz⟩ : ∃ z, ys[k]? = some z := ⟨_, List.getElem?_eq_getElem (by omega)⟩
 refine sy_addr (a := a) (sz := 5) (rows := grows xs) (by intro h0; simp [grows] at h0; simp [h0] at hx) (fun b off he => ?_)
 subst he
 refine sy_addr (a := a2) (sz := 5) (rows := grows ys) (by intro h0; simp [grows] at h0; simp [h0] at hz) (fun b2 off2 he => ?_)
 subst he
 refine sy_skip ?_
 refine sy_seq ?_
 refine sy_block ?_
 refine sy_seq ?_
 refine sy_tx' [0, 1] rfl ?_
 refine sp rfl (PE.move rfl) rfl ?_
 refine sp rfl (PE.assign rfl) rfl ?_
 refine sy_seq ?_
 refine sy_draw [0, 0, 3, 7, 0, 0, 48, 112, 255] (.tk 0 (.tk 1 (.tk 2 (.ld 3 (.tk 4 (.tk 5 (.tk 6 (.ld 7 (.tk 8 .done))))))))) mixed (by kernel_rfl) ?_
 refine tk rfl (PE.move rfl) rfl ?_
 refine tk rfl (PE.move rfl) rfl ?_
 refine tk rfl (PE.indexAddr el22 rfl rfl (by omega) (by omega)) rfl ?_
 refine ld rfl rfl (lfA ag69 (row := grow x) (by simp [grows, hx]) rfl) rfl ?_
 refine tk rfl (PE.move rfl) rfl ?_
 refine tk rfl (PE.move rfl) rfl ?_
 refine tk rfl (PE.indexAddr el22 rfl rfl (by omega) (by omega)) rfl ?_
 refine ld rfl rfl (lfA ag69 (row := grow z) (by simp [grows, hz]) rfl) rfl ?_
 refine tk rfl (PE.neqAgg [x.corn, x.chaff, x.stones, x.damp, x.price] [z.corn, z.chaff, z.stones, z.damp, z.price] (eqB_ok 10000 69 true 5 eqf69) eqg69 rfl rfl rfl rfl) rfl ?_
 refine sy_cond rfl (fun hc2 => ?_) (fun hc2 => ?_)
 have hne : xs ≠ ys := fun e => by subst e; rw [hx] at hz; cases hz; simp at hc2
 refine sy_seq ?_
 refine sy_tx' [0] rfl ?_
 refine sp rfl (PE.assign rfl) rfl ?_
 refine sy_ret ?_
 exact sy_return (vs := [_]) rfl (.cons (RV.tmp rfl) .nil) rfl ⟨by first | (simp only [retV]; rw [decide_eq_true heq]; done) | (simp only [retV]; rw [decide_eq_false hne]), rfl, rfl⟩ (fun _ h => h)
 have hxz : x = z := by cases x; cases z; simpa using hc2
 refine sy_skip ?_
 refine sy_tx' [0, 1] rfl ?_
 refine sp rfl (PE.add rfl rfl (by omega)) rfl ?_
 refine sp rfl (PE.move rfl) rfl ?_
 exact sy_next ⟨k + 1, by omega, by rw [List.take_add_one, List.take_add_one, hn, hx, hz, hxz]⟩ (by dsimp only; omega) (by repeat' first | exact Sub.nil | apply Sub.cons | rfl | (simp [lk]; omega)) (fun _ h => h)
 simp only [decide_eq_true_eq, decide_eq_false_iff_not, Bool.and_eq_true, Bool.or_eq_true, Bool.not_eq_true', Int.not_le, Int.not_lt] at hc1
 obtain rfl : k = xs.length := by omega
 have heq : xs = ys := by
   rw [List.take_length] at hn
   exact hn.trans (by rw [hle]; exact List.take_length)
 refine sy_exit ?_
 repeat refine sy_tx ?_
 refine sy_bx ?_
 refine sy_seq ?_
 refine sy_tx' [0] rfl ?_
 refine sp rfl (PE.assign rfl) rfl ?_
 refine sy_ret ?_
 exact sy_return (vs := [_]) rfl (.cons (RV.tmp rfl) .nil) rfl ⟨by first | (simp only [retV]; rw [decide_eq_true heq]; done) | (simp only [retV]; rw [decide_eq_false hne]), rfl, rfl⟩ (fun _ h => h)
theorem c_Eq_grd (xs ys : List Grd) (a a2 : Option Addr) (c c2 : Nat) (hl : xs.length ≤ 9223372036854775807) (hl2 : ys.length ≤ 9223372036854775807) (H : Heap) (R : Facts) [hR : MemRows a 5 (grows xs) R] [hR2 : MemRows a2 5 (grows ys) R] :
    FnV Tryz.prog 65 [.slice a xs.length c, .slice a2 ys.length c2] H R (.bool (decide (xs = ys))) := by
 refine fn_of Tryz.func65 rfl Tryz.ntmps65 rfl ?_
 refine sy_seq ?_
 refine sy_tx' [0] rfl ?_
 refine sp rfl (PE.assign rfl) rfl ?_
 refine sy_seq ?_
 refine sy_tx' [0, 1, 2, 3] rfl ?_
 refine sp rfl (PE.move rfl) rfl ?_
 refine sp rfl (PE.move rfl) rfl ?_
 refine clV rfl cal104 rfl rfl (c_eq_grd xs ys a a2 c c2 hl hl2 _ _) ?_
 refine sp rfl (PE.assign rfl) rfl ?_
 refine sy_ret ?_
 exact sy_return (vs := [_]) rfl (.cons (RV.tmp rfl) .nil) rfl ⟨rfl, rfl, rfl⟩ drp
theorem c_Eq_hnd (xs ys : List Hnd) (a a2 : Option Addr) (c c2 : Nat) (hl : xs.length ≤ 9223372036854775807) (hl2 : ys.length ≤ 9223372036854775807) (H : Heap) (R : Facts) [hR : MemRows a 5 (hrows xs) R] [hR2 : MemRows a2 5 (hrows ys) R] :
    FnV Tryz.prog 66 [.slice a xs.length c, .slice a2 ys.length c2] H R (.bool (decide (xs = ys))) := by
 refine fn_of Tryz.func66 rfl Tryz.ntmps66 rfl ?_
 refine sy_seq ?_
 refine sy_tx' [0] rfl ?_
 refine sp rfl (PE.assign rfl) rfl ?_
 refine sy_seq ?_
 refine sy_tx' [0, 1, 2, 3] rfl ?_
 refine sp rfl (PE.move rfl) rfl ?_
 refine sp rfl (PE.move rfl) rfl ?_
 refine clV rfl cal105 rfl rfl (c_eq_hnd xs ys a a2 c c2 hl hl2 _ _) ?_
 refine sp rfl (PE.assign rfl) rfl ?_
 refine sy_ret ?_
 exact sy_return (vs := [_]) rfl (.cons (RV.tmp rfl) .nil) rfl ⟨rfl, rfl, rfl⟩ drp
theorem c_same (g : Gat) (a a2 : Option Addr) (cy c2 : Nat) (hl : g.grs.length ≤ 1000) (H : Heap) (R : Facts) [hG : MemRows a 5 (grows g.grs) R] [hG2 : MemRows a2 5 (grows g.grs) R] :
    FnV Tryz.prog 24 [g.v (g.sl a cy), g.v (g.sl a2 c2)] H R (.bool true) := by
 refine fn_of Tryz.func24 rfl Tryz.ntmps24 rfl ?_
 refine sy_seq ?_
 refine sy_tx' [0, 1, 2] rfl ?_
 refine bx rfl rfl rfl (fun b2 => ?_)
 refine bx rfl rfl rfl (fun b3 => ?_)
 refine sp rfl (PE.assign rfl) rfl ?_
 refine sy_seq ?_
 refine sy_tx' [0, 1, 2, 3, 4, 5, 6, 7, 8, 9, 10, 11, 12, 13, 14, 15, 16, 17, 18, 19] rfl ?_
 refine sp rfl (PE.fieldAddr fo24_0 rfl) rfl ?_
 refine spL rfl rfl (lh sc3 rfl rfl) rfl ?_
 refine sp rfl (PE.fieldAddr fo24_0 rfl) rfl ?_
 refine spL rfl rfl (lh sc3 rfl rfl) rfl ?_
 refine sp rfl (PE.eql rfl rfl) rfl ?_
 refine sp rfl (PE.move rfl) rfl ?_
 refine sy_case (t := 10) rfl (fun g10 => ?_) (fun g10 => ?_)
 refine spG rfl rfl rfl rfl (PE.fieldAddr fo24_1 rfl) rfl ?_
 refine spLG rfl rfl rfl rfl rfl (lh sc3 rfl rfl) rfl ?_
 refine spG rfl rfl rfl rfl (PE.fieldAddr fo24_1 rfl) rfl ?_
 refine spLG rfl rfl rfl rfl rfl (lh sc3 rfl rfl) rfl ?_
 refine spG rfl rfl rfl rfl (PE.eql rfl rfl) rfl ?_
 refine sp rfl (PE.pick rfl rfl rfl) rfl ?_
 refine sp rfl (PE.move rfl) rfl ?_
 refine sy_case (t := 17) rfl (fun g17 => ?_) (fun g17 => ?_)
 refine spG rfl rfl rfl rfl (PE.fieldAddr fo24_2 rfl) rfl ?_
 refine spLG rfl rfl rfl rfl rfl (lh sc22 rfl rfl) rfl ?_
 refine spG rfl rfl rfl rfl (PE.fieldAddr fo24_2 rfl) rfl ?_
 refine spLG rfl rfl rfl rfl rfl (lh sc22 rfl rfl) rfl ?_
 refine clG rfl rfl rfl rfl cal65 rfl rfl (c_Eq_grd g.grs g.grs a a2 cy c2 (by omega) (by omega) _ _) ?_
 rintro _ _ _ ⟨rfl, rfl, rfl⟩
 rw [decide_eq_true (rfl : g.grs = g.grs)]
 refine sp rfl (PE.pick rfl rfl rfl) rfl ?_
 refine sp rfl (PE.assign rfl) rfl ?_
 refine sy_ret ?_
 exact sy_return (vs := [_]) rfl (.cons (RV.tmp rfl) .nil) rfl ⟨rfl, rfl, rfl⟩ drp
 exact absurd g17 (by simp)
 exact absurd g10 (by simp)
theorem c_alike (c : Crt) (a a2 : Option Addr) (cy c2 : Nat) (hl : c.hs.length ≤ 1000) (H : Heap) (R : Facts) [hG : MemRows a 5 (hrows c.hs) R] [hG2 : MemRows a2 5 (hrows c.hs) R] :
    FnV Tryz.prog 25 [c.v (c.sl a cy), c.v (c.sl a2 c2)] H R (.bool true) := by
 refine fn_of Tryz.func25 rfl Tryz.ntmps25 rfl ?_
 refine sy_seq ?_
 refine sy_tx' [0, 1, 2] rfl ?_
 refine bx rfl rfl rfl (fun b2 => ?_)
 refine bx rfl rfl rfl (fun b3 => ?_)
 refine sp rfl (PE.assign rfl) rfl ?_
 refine sy_seq ?_
 refine sy_tx' [0, 1, 2, 3, 4, 5, 6, 7, 8, 9, 10, 11, 12, 13, 14, 15, 16, 17, 18, 19] rfl ?_
 refine sp rfl (PE.fieldAddr fo27_0 rfl) rfl ?_
 refine spL rfl rfl (lh sc3 rfl rfl) rfl ?_
 refine sp rfl (PE.fieldAddr fo27_0 rfl) rfl ?_
 refine spL rfl rfl (lh sc3 rfl rfl) rfl ?_
 refine sp rfl (PE.eql rfl rfl) rfl ?_
 refine sp rfl (PE.move rfl) rfl ?_
 refine sy_case (t := 10) rfl (fun g10 => ?_) (fun g10 => ?_)
 refine spG rfl rfl rfl rfl (PE.fieldAddr fo27_1 rfl) rfl ?_
 refine spLG rfl rfl rfl rfl rfl (lh sc3 rfl rfl) rfl ?_
 refine spG rfl rfl rfl rfl (PE.fieldAddr fo27_1 rfl) rfl ?_
 refine spLG rfl rfl rfl rfl rfl (lh sc3 rfl rfl) rfl ?_
 refine spG rfl rfl rfl rfl (PE.eql rfl rfl) rfl ?_
 refine sp rfl (PE.pick rfl rfl rfl) rfl ?_
 refine sp rfl (PE.move rfl) rfl ?_
 refine sy_case (t := 17) rfl (fun g17 => ?_) (fun g17 => ?_)
 refine spG rfl rfl rfl rfl (PE.fieldAddr fo27_2 rfl) rfl ?_
 refine spLG rfl rfl rfl rfl rfl (lh sc25 rfl rfl) rfl ?_
 refine spG rfl rfl rfl rfl (PE.fieldAddr fo27_2 rfl) rfl ?_
 refine spLG rfl rfl rfl rfl rfl (lh sc25 rfl rfl) rfl ?_
 refine clG rfl rfl rfl rfl cal66 rfl rfl (c_Eq_hnd c.hs c.hs a a2 cy c2 (by omega) (by omega) _ _) ?_
 rintro _ _ _ ⟨rfl, rfl, rfl⟩
 rw [decide_eq_true (rfl : c.hs = c.hs)]
 refine sp rfl (PE.pick rfl rfl rfl) rfl ?_
 refine sp rfl (PE.assign rfl) rfl ?_
 refine sy_ret ?_
 exact sy_return (vs := [_]) rfl (.cons (RV.tmp rfl) .nil) rfl ⟨rfl, rfl, rfl⟩ drp
 exact absurd g17 (by simp)
 exact absurd g10 (by simp)
theorem c_grt (g : Gat) (ag : Option Addr) (cg : Nat) (hlg : g.grs.length ≤ 9223372036854775807) (c : Crt) (ah : Option Addr) (ch : Nat) (hlh : c.hs.length ≤ 9223372036854775807) (H : Heap) (R : Facts) :
    FnV Tryz.prog 6 [g.v (g.sl ag cg), c.v (c.sl ah ch)] H R (.bool (decide (7 < g.grs.length) || decide (9 < c.hs.length))) := by
 refine fn_of Tryz.func6 rfl Tryz.ntmps6 rfl ?_
 refine sy_seq ?_
 refine sy_tx' [0, 1, 2] rfl ?_
 refine bx rfl rfl rfl (fun b2 => ?_)
 refine bx rfl rfl rfl (fun b3 => ?_)
 refine sp rfl (PE.assign rfl) rfl ?_
 refine sy_seq ?_
 refine sy_tx' [0, 1, 2, 3, 4, 5, 6, 7, 8, 9, 10] rfl ?_
 refine sp rfl (PE.fieldAddr fo24_2 rfl) rfl ?_
 refine spL rfl rfl (lh sc22 rfl rfl) rfl ?_
 refine sp rfl (PE.lenSl isl22 rfl) rfl ?_
 refine sp rfl (PE.gtr rfl rfl) rfl ?_
 refine sp rfl (PE.move rfl) rfl ?_
 refine sy_case (t := 9) rfl (fun g9 => ?_) (fun g9 => ?_)
 try simp only [decide_eq_true_eq, decide_eq_false_iff_not, Bool.and_eq_true, Bool.or_eq_true, Bool.not_eq_true', Int.not_le, Int.not_lt] at g9
 have hq : (decide (7 < g.grs.length) || decide (9 < c.hs.length)) = true := by simp; omega
 repeat refine spN rfl rfl rfl rfl rfl rfl rfl rfl ?_
 refine sp rfl (PE.pick rfl rfl rfl) rfl ?_
 refine sp rfl (PE.assign rfl) rfl ?_
 refine sy_ret ?_
 exact sy_return (vs := [_]) rfl (.cons (RV.tmp rfl) .nil) rfl ⟨by rw [hq]; rfl, rfl, rfl⟩ drp
 try simp only [decide_eq_true_eq, decide_eq_false_iff_not, Bool.and_eq_true, Bool.or_eq_true, Bool.not_eq_true', Int.not_le, Int.not_lt] at g9
 have hq : (decide (7 < g.grs.length) || decide (9 < c.hs.length)) = decide ((9 : Int) < (c.hs.length : Nat)) := by rw [decide_eq_false (by omega), Bool.false_or]; exact decide_eq_decide.2 (by omega)
 refine spG rfl rfl rfl rfl (PE.fieldAddr fo27_2 rfl) rfl ?_
 refine spLG rfl rfl rfl rfl rfl (lh sc25 rfl rfl) rfl ?_
 refine spG rfl rfl rfl rfl (PE.lenSl isl25 rfl) rfl ?_
 refine spG rfl rfl rfl rfl (PE.gtr rfl rfl) rfl ?_
 refine sp rfl (PE.pick rfl rfl rfl) rfl ?_
 refine sp rfl (PE.assign rfl) rfl ?_
 refine sy_ret ?_
 exact sy_return (vs := [_]) rfl (.cons (RV.tmp rfl) .nil) rfl ⟨by rw [hq]; rfl, rfl, rfl⟩ drp
theorem c_theirs (g : Gat) (a : Option Addr) (cy : Nat) (hl : g.grs.length ≤ 1000) (H : Heap) (R : Facts) [hG : MemRows a 5 (grows g.grs) R] :
    Fn Tryz.prog 11 [g.v (g.sl a cy)] H R (fun v H' R' => ∃ a9 c9, v = g.v (g.sl a9 c9) ∧ H' = H ∧ R' = RowsA a9 5 (grows g.grs) :: R) := by
 refine fn_of Tryz.func11 rfl Tryz.ntmps11 rfl ?_
 refine sy_seq ?_
 refine sy_tx' [0, 1] rfl ?_
 refine bx rfl rfl rfl (fun b1 => ?_)
 refine alc rfl zl36 rfl (fun b2 => ?_)
 refine sy_seq ?_
 refine sy_tx' [0, 1, 2, 3, 4, 5, 6] rfl ?_
 refine sp rfl (PE.fieldAddr fo24_0 rfl) rfl ?_
 refine spL rfl rfl (lh sc3 rfl rfl) rfl ?_
 refine sp rfl (PE.fieldAddr fo24_1 rfl) rfl ?_
 refine spL rfl rfl (lh sc3 rfl rfl) rfl ?_
 refine sp rfl (PE.build (out := gtl ⟨g.err, g.miss, []⟩ (.slice none 0 0)) pl36 zl36 rfl rfl) rfl ?_
 refine alc rfl zl36 rfl (fun b3 => ?_)
 refine sto rfl rfl rfl cn36 rfl rfl rfl rfl ?_
 refine sy_seq ?_
 refine sy_seq ?_
 refine sy_tx' [0, 1, 2, 3] rfl ?_
 refine sp rfl (PE.fieldAddr fo24_2 rfl) rfl ?_
 refine spL rfl rfl (lh sc22 rfl rfl) rfl ?_
 refine sp rfl (PE.lenSl isl22 rfl) rfl ?_
 refine sp rfl (PE.move rfl) rfl ?_
 refine sy_block ?_
 refine sy_loop (ι := (k : {k : Nat // k ≤ g.grs.length}) × OSl 98 5 (grows (g.grs.take k.1))) (fun x => ⟨[(1, .pointer (some ⟨b1, 0, none⟩)), (2, .pointer (some ⟨b2, 0, none⟩)), (3, .pointer (some ⟨b3, 0, none⟩)), (12, (g.sl a cy)), (13, .int .i64 g.grs.length), (14, .int .i64 x.1.1)], x.2.G ++ (b3, cel 36 (gtl ⟨g.err, g.miss, g.grs.take x.1.1⟩ x.2.fs)) :: (b2, cel 36 [.int .i64 0, .int .i64 0, .slice none 0 0]) :: (b1, cel 24 (gtl g (g.sl a cy))) :: H, R⟩) (fun x => g.grs.length - x.1.1) ⟨⟨0, by omega⟩, OSl.nil _ _⟩ ?_ (fun x => ?_)
 exact sy_at (by repeat' first | exact Sub.nil | apply Sub.cons | rfl | (simp [lk]; omega)) (fun _ h => h)
 obtain ⟨⟨i, hi⟩, o⟩ := x
 dsimp only at hi o ⊢
 refine sy_seq ?_
 refine sy_tx' [0] rfl ?_
 refine sp rfl (PE.lss rfl rfl) rfl ?_
 refine sy_seq ?_
 refine sy_cond rfl (fun hc0 => ?_) (fun hc0 => ?_)
 try simp only [decide_eq_true_eq, decide_eq_false_iff_not, Bool.and_eq_true, Bool.or_eq_true, Bool.not_eq_true', Int.not_le, Int.not_lt] at hc0
 obtain ⟨x, hx⟩ : ∃ x, g.grs[i]? = some x := ⟨_, List.getElem?_eq_getElem (by omega)⟩
 refine sy_addr (a := a) (sz := 5) (rows := grows g.grs) (by intro h0; simp [grows] at h0; simp [h0] at hx) (fun ba oa he => ?_)
 subst he
 refine sy_skip ?_
 refine sy_seq ?_
 refine sy_block ?_
 refine sy_seq ?_
 refine sy_tx' [0, 1, 2, 3] rfl ?_
 refine sp rfl (PE.indexAddr el22 rfl rfl (by omega) (by omega)) rfl ?_
 refine spL rfl rfl (lfA ag69 (row := grow x) (gr_get (by simpa using hx)) rfl) rfl ?_
 refine alc rfl zl69 rfl (fun b5 => ?_)
 refine sto rfl rfl rfl cn69 rfl rfl rfl rfl ?_
 refine sy_tx' [0, 1, 2, 3, 4, 5, 6] rfl ?_
 refine sp rfl (PE.fieldAddr fo36_2 rfl) rfl ?_
 refine spL rfl rfl (lh sc34 rfl rfl) rfl ?_
 refine spL rfl rfl (lhA (grow x) ag69 rfl (rest := []) (by rw [List.append_nil]; rfl) rfl) rfl ?_
 refine bsl (out := [_, _, _, _, _]) rfl sl34 zl98 rfl rfl rfl rfl rfl rfl (fun b21 => ?_)
 refine apO (o) rfl ap34 rfl rfl (rowsH (row := grow x) rfl) rfl rfl ((by simp only [grows, List.length_map, List.length_singleton, List.length_take]; omega)) rfl (fun o22 => ?_)
 refine sp rfl (PE.fieldAddr fo36_2 rfl) rfl ?_
 refine stoE (l' := gtl ⟨g.err, g.miss, g.grs.take (i + 1)⟩ o22.fs) rfl rfl rfl cn34 rfl (by rw [o22.cells.1]; first | done | rfl) (by rw [o22.cells.1]; simp [o22.cells.2]) (by rw [o22.cells.1]; first | done | rfl) (by rw [o22.cells.1]; first | done | exact Nat.le_refl _) ?_
 refine sy_tx' [0, 1] rfl ?_
 refine sp rfl (PE.add rfl rfl (by omega)) rfl ?_
 refine sp rfl (PE.move rfl) rfl ?_
 exact sy_next ⟨⟨i + 1, by omega⟩, o22.cast (by rw [List.take_add_one, hx]; simp [grows])⟩ (by dsimp only; omega) (by repeat' first | exact Sub.nil | apply Sub.cons | rfl | (simp [lk]; omega)) (fun w h => (h.del b21).del b5)
 try simp only [decide_eq_true_eq, decide_eq_false_iff_not, Bool.and_eq_true, Bool.or_eq_true, Bool.not_eq_true', Int.not_le, Int.not_lt] at hc0
 obtain rfl : i = g.grs.length := by omega
 rw [show ⟨g.err, g.miss, g.grs.take g.grs.length⟩ = g from by rw [List.take_length]]
 obtain ⟨a9, c9, he, hf⟩ := o.freeze
 rw [he]
 refine Sy.heap (H' := _) (fun w h => hf h) ?_
 rw [show (grows (g.grs.take g.grs.length)) = grows g.grs from by rw [List.take_length], show (grows g.grs).length = g.grs.length from List.length_map _]
 refine sy_exit ?_
 repeat refine sy_tx ?_
 refine sy_bx ?_
 refine sy_seq ?_
 refine sy_tx' [0, 1] rfl ?_
 refine spL rfl rfl (lhA (gtl g (g.sl a9 c9)) ag36 rfl rfl rfl) rfl ?_
 refine sto rfl rfl rfl cn36 rfl rfl rfl rfl ?_
 refine sy_ret ?_
 exact sy_return (vs := [_]) rfl (.cons (RV.cell rfl (lhA [_, _, _] ag36 rfl rfl rfl)) .nil) rfl ⟨a9, c9, rfl, rfl, rfl⟩ (fun w h => ((h.del b3).del b2).del b1)
theorem c_come (c : Crt) (a : Option Addr) (cy : Nat) (hl : c.hs.length ≤ 1000) (H : Heap) (R : Facts) [hG : MemRows a 5 (hrows c.hs) R] :
    Fn Tryz.prog 12 [c.v (c.sl a cy)] H R (fun v H' R' => ∃ a9 c9, v = c.v (c.sl a9 c9) ∧ H' = H ∧ R' = RowsA a9 5 (hrows c.hs) :: R) := by
 refine fn_of Tryz.func12 rfl Tryz.ntmps12 rfl ?_
 refine sy_seq ?_
 refine sy_tx' [0, 1] rfl ?_
 refine bx rfl rfl rfl (fun b1 => ?_)
 refine alc rfl zl40 rfl (fun b2 => ?_)
 refine sy_seq ?_
 refine sy_tx' [0, 1, 2, 3, 4, 5, 6] rfl ?_
 refine sp rfl (PE.fieldAddr fo27_0 rfl) rfl ?_
 refine spL rfl rfl (lh sc3 rfl rfl) rfl ?_
 refine sp rfl (PE.fieldAddr fo27_1 rfl) rfl ?_
 refine spL rfl rfl (lh sc3 rfl rfl) rfl ?_
 refine sp rfl (PE.build (out := ctl ⟨c.full, c.empty, []⟩ (.slice none 0 0)) pl40 zl40 rfl rfl) rfl ?_
 refine alc rfl zl40 rfl (fun b3 => ?_)
 refine sto rfl rfl rfl cn40 rfl rfl rfl rfl ?_
 refine sy_seq ?_
 refine sy_seq ?_
 refine sy_tx' [0, 1, 2, 3] rfl ?_
 refine sp rfl (PE.fieldAddr fo27_2 rfl) rfl ?_
 refine spL rfl rfl (lh sc25 rfl rfl) rfl ?_
 refine sp rfl (PE.lenSl isl25 rfl) rfl ?_
 refine sp rfl (PE.move rfl) rfl ?_
 refine sy_block ?_
 refine sy_loop (ι := (k : {k : Nat // k ≤ c.hs.length}) × OSl 99 5 (hrows (c.hs.take k.1))) (fun x => ⟨[(1, .pointer (some ⟨b1, 0, none⟩)), (2, .pointer (some ⟨b2, 0, none⟩)), (3, .pointer (some ⟨b3, 0, none⟩)), (12, (c.sl a cy)), (13, .int .i64 c.hs.length), (14, .int .i64 x.1.1)], x.2.G ++ (b3, cel 40 (ctl ⟨c.full, c.empty, c.hs.take x.1.1⟩ x.2.fs)) :: (b2, cel 40 [.int .i64 0, .int .i64 0, .slice none 0 0]) :: (b1, cel 27 (ctl c (c.sl a cy))) :: H, R⟩) (fun x => c.hs.length - x.1.1) ⟨⟨0, by omega⟩, OSl.nil _ _⟩ ?_ (fun x => ?_)
 exact sy_at (by repeat' first | exact Sub.nil | apply Sub.cons | rfl | (simp [lk]; omega)) (fun _ h => h)
 obtain ⟨⟨i, hi⟩, o⟩ := x
 dsimp only at hi o ⊢
 refine sy_seq ?_
 refine sy_tx' [0] rfl ?_
 refine sp rfl (PE.lss rfl rfl) rfl ?_
 refine sy_seq ?_
 refine sy_cond rfl (fun hc0 => ?_) (fun hc0 => ?_)
 try simp only [decide_eq_true_eq, decide_eq_false_iff_not, Bool.and_eq_true, Bool.or_eq_true, Bool.not_eq_true', Int.not_le, Int.not_lt] at hc0
 obtain ⟨x, hx⟩ : ∃ x, c.hs[i]? = some x := ⟨_, List.getElem?_eq_getElem (by omega)⟩
 refine sy_addr (a := a) (sz := 5) (rows := hrows c.hs) (by intro h0; simp [hrows] at h0; simp [h0] at hx) (fun ba oa he => ?_)
 subst he
 refine sy_skip ?_
 refine sy_seq ?_
 refine sy_block ?_
 refine sy_seq ?_
 refine sy_tx' [0, 1, 2, 3] rfl ?_
 refine sp rfl (PE.indexAddr el25 rfl rfl (by omega) (by omega)) rfl ?_
 refine spL rfl rfl (lfA ag66 (row := hrow x) (hr_get (by simpa using hx)) rfl) rfl ?_
 refine alc rfl zl66 rfl (fun b5 => ?_)
 refine sto rfl rfl rfl cn66 rfl rfl rfl rfl ?_
 refine sy_tx' [0, 1, 2, 3, 4, 5, 6] rfl ?_
 refine sp rfl (PE.fieldAddr fo40_2 rfl) rfl ?_
 refine spL rfl rfl (lh sc38 rfl rfl) rfl ?_
 refine spL rfl rfl (lhA (hrow x) ag66 rfl (rest := []) (by rw [List.append_nil]; rfl) rfl) rfl ?_
 refine bsl (out := [_, _, _, _, _]) rfl sl38 zl99 rfl rfl rfl rfl rfl rfl (fun b21 => ?_)
 refine apO (o) rfl ap38 rfl rfl (rowsH (row := hrow x) rfl) rfl rfl ((by simp only [hrows, List.length_map, List.length_singleton, List.length_take]; omega)) rfl (fun o22 => ?_)
 refine sp rfl (PE.fieldAddr fo40_2 rfl) rfl ?_
 refine stoE (l' := ctl ⟨c.full, c.empty, c.hs.take (i + 1)⟩ o22.fs) rfl rfl rfl cn38 rfl (by rw [o22.cells.1]; first | done | rfl) (by rw [o22.cells.1]; simp [o22.cells.2]) (by rw [o22.cells.1]; first | done | rfl) (by rw [o22.cells.1]; first | done | exact Nat.le_refl _) ?_
 refine sy_tx' [0, 1] rfl ?_
 refine sp rfl (PE.add rfl rfl (by omega)) rfl ?_
 refine sp rfl (PE.move rfl) rfl ?_
 exact sy_next ⟨⟨i + 1, by omega⟩, o22.cast (by rw [List.take_add_one, hx]; simp [hrows])⟩ (by dsimp only; omega) (by repeat' first | exact Sub.nil | apply Sub.cons | rfl | (simp [lk]; omega)) (fun w h => (h.del b21).del b5)
 try simp only [decide_eq_true_eq, decide_eq_false_iff_not, Bool.and_eq_true, Bool.or_eq_true, Bool.not_eq_true', Int.not_le, Int.not_lt] at hc0
 obtain rfl : i = c.hs.length := by omega
 rw [show ⟨c.full, c.empty, c.hs.take c.hs.length⟩ = c from by rw [List.take_length]]
 obtain ⟨a9, c9, he, hf⟩ := o.freeze
 rw [he]
 refine Sy.heap (H' := _) (fun w h => hf h) ?_
 rw [show (hrows (c.hs.take c.hs.length)) = hrows c.hs from by rw [List.take_length], show (hrows c.hs).length = c.hs.length from List.length_map _]
 refine sy_exit ?_
 repeat refine sy_tx ?_
 refine sy_bx ?_
 refine sy_seq ?_
 refine sy_tx' [0, 1] rfl ?_
 refine spL rfl rfl (lhA (ctl c (c.sl a9 c9)) ag40 rfl rfl rfl) rfl ?_
 refine sto rfl rfl rfl cn40 rfl rfl rfl rfl ?_
 refine sy_ret ?_
 exact sy_return (vs := [_]) rfl (.cons (RV.cell rfl (lhA [_, _, _] ag40 rfl rfl rfl)) .nil) rfl ⟨a9, c9, rfl, rfl, rfl⟩ (fun w h => ((h.del b3).del b2).del b1)
theorem c_off (n lo hi : Int) (H : Heap) (R : Facts) :
    FnV Tryz.prog 50 [.int .i64 n, .int .i64 lo, .int .i64 hi] H R (.bool (!(inb n lo hi))) := by
 refine fn_of Tryz.func50 rfl Tryz.ntmps50 rfl ?_
 refine sy_seq ?_
 refine sy_tx' [0] rfl ?_
 refine sp rfl (PE.assign rfl) rfl ?_
 refine sy_seq ?_
 refine sy_tx' [0, 1, 2, 3, 4, 5, 6, 7, 8] rfl ?_
 refine sp rfl (PE.move rfl) rfl ?_
 refine sp rfl (PE.move rfl) rfl ?_
 refine sp rfl (PE.lss rfl rfl) rfl ?_
 refine sp rfl (PE.move rfl) rfl ?_
 refine sy_case (t := 10) rfl (fun g10 => ?_) (fun g10 => ?_)
 try simp only [decide_eq_true_eq, decide_eq_false_iff_not, Bool.and_eq_true, Bool.or_eq_true, Bool.not_eq_true', Int.not_le, Int.not_lt] at g10
 have e : (!(inb n lo hi)) = true := by simp [inb]; omega
 repeat refine spN rfl rfl rfl rfl rfl rfl rfl rfl ?_
 refine sp rfl (PE.pick rfl rfl rfl) rfl ?_
 refine sp rfl (PE.assign rfl) rfl ?_
 refine sy_ret ?_
 exact sy_return (vs := [_]) rfl (.cons (RV.tmp rfl) .nil) rfl ⟨by rw [e]; rfl, rfl, rfl⟩ drp
 try simp only [decide_eq_true_eq, decide_eq_false_iff_not, Bool.and_eq_true, Bool.or_eq_true, Bool.not_eq_true', Int.not_le, Int.not_lt] at g10
 have e : (!(inb n lo hi)) = decide (hi < n) := by rw [show inb n lo hi = decide (n ≤ hi) by simp [inb]; omega, ← decide_not]; exact decide_eq_decide.2 (by omega)
 refine spG rfl rfl rfl rfl (PE.move rfl) rfl ?_
 refine spG rfl rfl rfl rfl (PE.move rfl) rfl ?_
 refine spG rfl rfl rfl rfl (PE.gtr rfl rfl) rfl ?_
 refine sp rfl (PE.pick rfl rfl rfl) rfl ?_
 refine sp rfl (PE.assign rfl) rfl ?_
 refine sy_ret ?_
 exact sy_return (vs := [_]) rfl (.cons (RV.tmp rfl) .nil) rfl ⟨by rw [e]; rfl, rfl, rfl⟩ drp
theorem c_rCheck (g : Gat) (ag : Option Addr) (cg : Nat) (hlg : g.grs.length ≤ 9223372036854775807) (H : Heap) (R : Facts) [hG : MemRows ag 5 (grows g.grs) R] :
    FnV Tryz.prog 47 [g.v (g.sl ag cg)] H R (.int .i64 g.check) := by
 refine fn_of Tryz.func47 rfl Tryz.ntmps47 rfl ?_
 refine sy_seq ?_
 refine sy_tx' [0, 1] rfl ?_
 refine bx rfl rfl rfl (fun b1 => ?_)
 refine sp rfl (PE.assign rfl) rfl ?_
 refine sy_seq ?_
 refine sy_seq ?_
 refine sy_tx' [0, 1, 2, 3] rfl ?_
 refine sp rfl (PE.fieldAddr fo36_2 rfl) rfl ?_
 refine spL rfl rfl (lh sc34 rfl rfl) rfl ?_
 refine sp rfl (PE.lenSl isl34 rfl) rfl ?_
 refine sp rfl (PE.gtr rfl rfl) rfl ?_
 refine sy_cond rfl (fun hc0 => ?_) (fun hc0 => ?_)
 try simp only [decide_eq_true_eq, decide_eq_false_iff_not, Bool.and_eq_true, Bool.or_eq_true, Bool.not_eq_true', Int.not_le, Int.not_lt] at hc0
 have hres := chk_many (g := g) (by omega)
 refine sy_seq ?_
 refine sy_tx' [0] rfl ?_
 refine sp rfl (PE.assign rfl) rfl ?_
 refine sy_ret ?_
 exact sy_return (vs := [_]) rfl (.cons (RV.tmp rfl) .nil) rfl ⟨by rw [hres]; rfl, rfl, rfl⟩ drp
 try simp only [decide_eq_true_eq, decide_eq_false_iff_not, Bool.and_eq_true, Bool.or_eq_true, Bool.not_eq_true', Int.not_le, Int.not_lt] at hc0
 have h4 : ¬ 4 < g.grs.length := by omega
 refine sy_skip ?_
 refine sy_seq ?_
 refine sy_seq ?_
 refine sy_tx' [0, 1, 2, 3, 4, 5, 6, 7] rfl ?_
 refine sp rfl (PE.fieldAddr fo36_0 rfl) rfl ?_
 refine spL rfl rfl (lh sc3 rfl rfl) rfl ?_
 refine clV rfl cal50 rfl rfl (c_off _ _ _ _ _) ?_
 refine sp rfl (PE.move rfl) rfl ?_
 refine sy_case (t := 13) rfl (fun g13 => ?_) (fun g13 => ?_)
 have hb : inb g.err 0 50 = false := by rw [← Bool.not_eq_true']; exact g13
 have hres := chk_rng h4 (.inl hb)
 repeat refine spN rfl rfl rfl rfl rfl rfl rfl rfl ?_
 refine sp rfl (PE.pick rfl rfl rfl) rfl ?_
 refine sy_condT rfl ?_
 refine sy_seq ?_
 refine sy_tx' [0] rfl ?_
 refine sp rfl (PE.assign rfl) rfl ?_
 refine sy_ret ?_
 exact sy_return (vs := [_]) rfl (.cons (RV.tmp rfl) .nil) rfl ⟨by rw [hres]; rfl, rfl, rfl⟩ drp
 have he : inb g.err 0 50 = true := by rw [← Bool.not_eq_false']; exact g13
 refine spG rfl rfl rfl rfl (PE.fieldAddr fo36_1 rfl) rfl ?_
 refine spLG rfl rfl rfl rfl rfl (lh sc3 rfl rfl) rfl ?_
 refine clVG rfl rfl rfl rfl cal50 rfl rfl (c_off _ _ _ _ _) ?_
 refine sp rfl (PE.pick rfl rfl rfl) rfl ?_
 refine sy_cond rfl (fun hc1 => ?_) (fun hc1 => ?_)
 have hb : inb g.miss 0 20 = false := by rw [← Bool.not_eq_true']; exact hc1
 have hres := chk_rng h4 (.inr hb)
 refine sy_seq ?_
 refine sy_tx' [0] rfl ?_
 refine sp rfl (PE.assign rfl) rfl ?_
 refine sy_ret ?_
 exact sy_return (vs := [_]) rfl (.cons (RV.tmp rfl) .nil) rfl ⟨by rw [hres]; rfl, rfl, rfl⟩ drp
 have hm : inb g.miss 0 20 = true := by rw [← Bool.not_eq_false']; exact hc1
 refine sy_skip ?_
 refine sy_seq ?_
 refine sy_seq ?_
 refine sy_tx' [0] rfl ?_
 refine sp rfl (PE.assign rfl) rfl ?_
 refine sy_block ?_
 refine sy_loop (ι := {i : Nat // i ≤ g.grs.length ∧ (g.grs.take i).all Grd.fine = true}) (fun i => ⟨[(1, .pointer (some ⟨b1, 0, none⟩)), (3, .int .i64 i.1)], (b1, cel 36 (gtl g (g.sl ag cg))) :: H, R⟩) (fun i => g.grs.length - i.1) ⟨0, by simp⟩ ?_ (fun i => ?_)
 exact sy_at (by repeat' first | exact Sub.nil | apply Sub.cons | rfl | (simp [lk]; omega)) (fun _ h => h)
 obtain ⟨i, hi, hn⟩ := i
 dsimp only at hi hn ⊢
 refine sy_seq ?_
 refine sy_seq ?_
 refine sy_tx' [0, 1, 2, 3, 4] rfl ?_
 refine sp rfl (PE.move rfl) rfl ?_
 refine sp rfl (PE.fieldAddr fo36_2 rfl) rfl ?_
 refine spL rfl rfl (lh sc34 rfl rfl) rfl ?_
 refine sp rfl (PE.lenSl isl34 rfl) rfl ?_
 refine sp rfl (PE.lss rfl rfl) rfl ?_
 refine sy_cond rfl (fun hc2 => ?_) (fun hc2 => ?_)
 try simp only [decide_eq_true_eq, decide_eq_false_iff_not, Bool.and_eq_true, Bool.or_eq_true, Bool.not_eq_true', Int.not_le, Int.not_lt] at hc2
 obtain ⟨x, hx⟩ : ∃ x, g.grs[i]? = some x := ⟨_, List.getElem?_eq_getElem (by omega)⟩
 refine sy_addr (a := ag) (sz := 5) (rows := grows g.grs) (by intro h0; simp [grows] at h0; simp [h0] at hx) (fun ba oa hea => ?_)
 subst hea
 refine sy_skip ?_
 refine sy_seq ?_
 refine sy_block ?_
 refine sy_seq ?_
 refine sy_tx' [0, 1, 2, 3, 4, 5, 6] rfl ?_
 refine sp rfl (PE.fieldAddr fo36_2 rfl) rfl ?_
 refine spL rfl rfl (lh sc34 rfl rfl) rfl ?_
 refine sp rfl (PE.move rfl) rfl ?_
 refine sp rfl (PE.indexAddr el34 rfl rfl (by omega) (by omega)) rfl ?_
 refine spL rfl rfl (lfA ag98 (row := grow x) (gr_get (by simpa using hx)) rfl) rfl ?_
 refine alc rfl zl98 rfl (fun b4 => ?_)
 refine sto rfl rfl rfl cn98 rfl rfl rfl rfl ?_
 refine sy_seq ?_
 refine sy_tx' [0, 1, 2, 3, 4, 5, 6, 7, 8, 9, 10, 11, 12, 13, 14, 15, 16, 17, 18, 19, 20, 21, 22] rfl ?_
 refine sp rfl (PE.fieldAddr fo98_0 rfl) rfl ?_
 refine spL rfl rfl (lh sc3 rfl rfl) rfl ?_
 refine clV rfl cal50 rfl rfl (c_off _ _ _ _ _) ?_
 refine sp rfl (PE.move rfl) rfl ?_
 refine sy_case (t := 33) rfl (fun g33 => ?_) (fun g33 => ?_)
 have hb : inb x.corn 0 40 = false := by rw [← Bool.not_eq_true']; exact g33
 have hres : g.check = 3 := chk_grd h4 he hm (all_bad hx (by rw [fine_eq, hb]; simp only [Bool.false_and, Bool.and_false]))
 repeat refine spN rfl rfl rfl rfl rfl rfl rfl rfl ?_
 refine sp rfl (PE.pick rfl rfl rfl) rfl ?_
 refine sp rfl (PE.move rfl) rfl ?_
 repeat refine spN rfl rfl rfl rfl rfl rfl rfl rfl ?_
 refine sp rfl (PE.pick rfl rfl rfl) rfl ?_
 refine sp rfl (PE.move rfl) rfl ?_
 repeat refine spN rfl rfl rfl rfl rfl rfl rfl rfl ?_
 refine sp rfl (PE.pick rfl rfl rfl) rfl ?_
 refine sp rfl (PE.move rfl) rfl ?_
 repeat refine spN rfl rfl rfl rfl rfl rfl rfl rfl ?_
 refine sp rfl (PE.pick rfl rfl rfl) rfl ?_
 refine sy_condT rfl ?_
 refine sy_seq ?_
 refine sy_tx' [0] rfl ?_
 refine sp rfl (PE.assign rfl) rfl ?_
 refine sy_ret ?_
 exact sy_return (vs := [_]) rfl (.cons (RV.tmp rfl) .nil) rfl ⟨by rw [hres]; rfl, rfl, rfl⟩ drp
 have q1 : inb x.corn 0 40 = true := by rw [← Bool.not_eq_false']; exact g33
 refine spG rfl rfl rfl rfl (PE.fieldAddr fo98_1 rfl) rfl ?_
 refine spLG rfl rfl rfl rfl rfl (lh sc3 rfl rfl) rfl ?_
 refine clVG rfl rfl rfl rfl cal50 rfl rfl (c_off _ _ _ _ _) ?_
 refine sp rfl (PE.pick rfl rfl rfl) rfl ?_
 refine sp rfl (PE.move rfl) rfl ?_
 refine sy_case (t := 38) rfl (fun g38 => ?_) (fun g38 => ?_)
 have hb : inb x.chaff 0 40 = false := by rw [← Bool.not_eq_true']; exact g38
 have hres : g.check = 3 := chk_grd h4 he hm (all_bad hx (by rw [fine_eq, hb]; simp only [Bool.false_and, Bool.and_false]))
 repeat refine spN rfl rfl rfl rfl rfl rfl rfl rfl ?_
 refine sp rfl (PE.pick rfl rfl rfl) rfl ?_
 refine sp rfl (PE.move rfl) rfl ?_
 repeat refine spN rfl rfl rfl rfl rfl rfl rfl rfl ?_
 refine sp rfl (PE.pick rfl rfl rfl) rfl ?_
 refine sp rfl (PE.move rfl) rfl ?_
 repeat refine spN rfl rfl rfl rfl rfl rfl rfl rfl ?_
 refine sp rfl (PE.pick rfl rfl rfl) rfl ?_
 refine sy_condT rfl ?_
 refine sy_seq ?_
 refine sy_tx' [0] rfl ?_
 refine sp rfl (PE.assign rfl) rfl ?_
 refine sy_ret ?_
 exact sy_return (vs := [_]) rfl (.cons (RV.tmp rfl) .nil) rfl ⟨by rw [hres]; rfl, rfl, rfl⟩ drp
 have q2 : inb x.chaff 0 40 = true := by rw [← Bool.not_eq_false']; exact g38
 refine spG rfl rfl rfl rfl (PE.fieldAddr fo98_2 rfl) rfl ?_
 refine spLG rfl rfl rfl rfl rfl (lh sc3 rfl rfl) rfl ?_
 refine clVG rfl rfl rfl rfl cal50 rfl rfl (c_off _ _ _ _ _) ?_
 refine sp rfl (PE.pick rfl rfl rfl) rfl ?_
 refine sp rfl (PE.move rfl) rfl ?_
 refine sy_case (t := 43) rfl (fun g43 => ?_) (fun g43 => ?_)
 have hb : inb x.stones 0 40 = false := by rw [← Bool.not_eq_true']; exact g43
 have hres : g.check = 3 := chk_grd h4 he hm (all_bad hx (by rw [fine_eq, hb]; simp only [Bool.false_and, Bool.and_false]))
 repeat refine spN rfl rfl rfl rfl rfl rfl rfl rfl ?_
 refine sp rfl (PE.pick rfl rfl rfl) rfl ?_
 refine sp rfl (PE.move rfl) rfl ?_
 repeat refine spN rfl rfl rfl rfl rfl rfl rfl rfl ?_
 refine sp rfl (PE.pick rfl rfl rfl) rfl ?_
 refine sy_condT rfl ?_
 refine sy_seq ?_
 refine sy_tx' [0] rfl ?_
 refine sp rfl (PE.assign rfl) rfl ?_
 refine sy_ret ?_
 exact sy_return (vs := [_]) rfl (.cons (RV.tmp rfl) .nil) rfl ⟨by rw [hres]; rfl, rfl, rfl⟩ drp
 have q3 : inb x.stones 0 40 = true := by rw [← Bool.not_eq_false']; exact g43
 refine spG rfl rfl rfl rfl (PE.fieldAddr fo98_3 rfl) rfl ?_
 refine spLG rfl rfl rfl rfl rfl (lh sc3 rfl rfl) rfl ?_
 refine clVG rfl rfl rfl rfl cal50 rfl rfl (c_off _ _ _ _ _) ?_
 refine sp rfl (PE.pick rfl rfl rfl) rfl ?_
 refine sp rfl (PE.move rfl) rfl ?_
 refine sy_case (t := 48) rfl (fun g48 => ?_) (fun g48 => ?_)
 have hb : inb x.damp 0 40 = false := by rw [← Bool.not_eq_true']; exact g48
 have hres : g.check = 3 := chk_grd h4 he hm (all_bad hx (by rw [fine_eq, hb]; simp only [Bool.false_and, Bool.and_false]))
 repeat refine spN rfl rfl rfl rfl rfl rfl rfl rfl ?_
 refine sp rfl (PE.pick rfl rfl rfl) rfl ?_
 refine sy_condT rfl ?_
 refine sy_seq ?_
 refine sy_tx' [0] rfl ?_
 refine sp rfl (PE.assign rfl) rfl ?_
 refine sy_ret ?_
 exact sy_return (vs := [_]) rfl (.cons (RV.tmp rfl) .nil) rfl ⟨by rw [hres]; rfl, rfl, rfl⟩ drp
 have q4 : inb x.damp 0 40 = true := by rw [← Bool.not_eq_false']; exact g48
 refine spG rfl rfl rfl rfl (PE.fieldAddr fo98_4 rfl) rfl ?_
 refine spLG rfl rfl rfl rfl rfl (lh sc3 rfl rfl) rfl ?_
 refine clVG rfl rfl rfl rfl cal50 rfl rfl (c_off _ _ _ _ _) ?_
 refine sp rfl (PE.pick rfl rfl rfl) rfl ?_
 refine sy_cond rfl (fun hc3 => ?_) (fun hc3 => ?_)
 have hb : inb x.price 0 100 = false := by rw [← Bool.not_eq_true']; exact hc3
 have hres : g.check = 3 := chk_grd h4 he hm (all_bad hx (by rw [fine_eq, hb]; simp only [Bool.false_and, Bool.and_false]))
 refine sy_seq ?_
 refine sy_tx' [0] rfl ?_
 refine sp rfl (PE.assign rfl) rfl ?_
 refine sy_ret ?_
 exact sy_return (vs := [_]) rfl (.cons (RV.tmp rfl) .nil) rfl ⟨by rw [hres]; rfl, rfl, rfl⟩ drp
 have q5 : inb x.price 0 100 = true := by rw [← Bool.not_eq_false']; exact hc3
 have hxf : x.fine = true := by rw [fine_eq, q1, q2, q3, q4, q5]; rfl
 refine sy_skip ?_
 refine sy_tx' [0, 1, 2] rfl ?_
 refine sp rfl (PE.move rfl) rfl ?_
 refine sp rfl (PE.add rfl rfl (by omega)) rfl ?_
 refine sp rfl (PE.assign rfl) rfl ?_
 exact sy_next ⟨i + 1, by omega, all_more hx hn hxf⟩ (by dsimp only; omega) (by repeat' first | exact Sub.nil | apply Sub.cons | rfl | (simp [lk]; omega)) (fun w h => h.del b4)
 try simp only [decide_eq_true_eq, decide_eq_false_iff_not, Bool.and_eq_true, Bool.or_eq_true, Bool.not_eq_true', Int.not_le, Int.not_lt] at hc2
 obtain rfl : i = g.grs.length := by omega
 rw [List.take_length] at hn
 have hor := chk_ord h4 he hm hn
 refine sy_exit ?_
 repeat refine sy_tx ?_
 refine sy_bx ?_
 refine sy_seq ?_
 refine sy_seq ?_
 refine sy_tx' [0] rfl ?_
 refine sp rfl (PE.assign rfl) rfl ?_
 refine sy_block ?_
 refine sy_loop (ι := {i : Nat // 1 ≤ i ∧ i ≤ g.grs.length + 1 ∧ ∀ j, j + 1 < i → j + 1 < g.grs.length → grBad g.grs j = false}) (fun i => ⟨[(1, .pointer (some ⟨b1, 0, none⟩)), (5, .int .i64 i.1)], (b1, cel 36 (gtl g (g.sl ag cg))) :: H, R⟩) (fun i => g.grs.length - i.1) ⟨1, by omega, by omega, fun j h1 h2 => by omega⟩ ?_ (fun i => ?_)
 exact sy_at (by repeat' first | exact Sub.nil | apply Sub.cons | rfl | (simp [lk]; omega)) (fun _ h => h)
 obtain ⟨i, hi1, hi2, hno⟩ := i
 dsimp only at hi1 hi2 hno ⊢
 refine sy_seq ?_
 refine sy_seq ?_
 refine sy_tx' [0, 1, 2, 3, 4] rfl ?_
 refine sp rfl (PE.move rfl) rfl ?_
 refine sp rfl (PE.fieldAddr fo36_2 rfl) rfl ?_
 refine spL rfl rfl (lh sc34 rfl rfl) rfl ?_
 refine sp rfl (PE.lenSl isl34 rfl) rfl ?_
 refine sp rfl (PE.lss rfl rfl) rfl ?_
 refine sy_cond rfl (fun hc4 => ?_) (fun hc4 => ?_)
 try simp only [decide_eq_true_eq, decide_eq_false_iff_not, Bool.and_eq_true, Bool.or_eq_true, Bool.not_eq_true', Int.not_le, Int.not_lt] at hc4
 obtain ⟨y, hy⟩ : ∃ y, g.grs[i]? = some y := ⟨_, List.getElem?_eq_getElem (by omega)⟩
 obtain ⟨x, hx⟩ : ∃ x, g.grs[i - 1]? = some x := ⟨_, List.getElem?_eq_getElem (by omega)⟩
 refine sy_addr (a := ag) (sz := 5) (rows := grows g.grs) (by intro h0; simp [grows] at h0; simp [h0] at hx) (fun ba oa hea => ?_)
 subst hea
 refine sy_skip ?_
 refine sy_seq ?_
 refine sy_block ?_
 refine sy_seq ?_
 refine sy_draw [0, 1, 0, 7, 15, 31, 0, 64, 0, 256, 960, 1984, 4032, 8191] (.tk 0 (.ld 1 (.tk 2 (.tk 3 (.tk 4 (.ld 5 (.tk 6 (.ld 7 (.tk 8 (.tk 9 (.tk 10 (.tk 11 (.ld 12 (.tk 13 .done)))))))))))))) mixed (by kernel_rfl) ?_
 refine tk rfl (PE.fieldAddr fo36_2 rfl) rfl ?_
 refine ld rfl rfl (lh sc34 rfl rfl) rfl ?_
 refine tk rfl (PE.move rfl) rfl ?_
 refine tk rfl (PE.indexAddr el34 rfl rfl (by omega) (by omega)) rfl ?_
 refine tk rfl (PE.fieldAddr fo98_4 rfl) rfl ?_
 refine ld rfl rfl (lf (x := .int .i64 y.price) sc3 (gr_get (by simpa using hy)) rfl) rfl ?_
 refine tk rfl (PE.fieldAddr fo36_2 rfl) rfl ?_
 refine ld rfl rfl (lh sc34 rfl rfl) rfl ?_
 refine tk rfl (PE.move rfl) rfl ?_
 refine tk rfl (PE.sub rfl rfl (by omega)) rfl ?_
 rw [show (i : Int) - 1 = ((i - 1 : Nat) : Int) from by omega]
 refine tk rfl (PE.indexAddr el34 rfl rfl (by omega) (by omega)) rfl ?_
 refine tk rfl (PE.fieldAddr fo98_4 rfl) rfl ?_
 refine ld rfl rfl (lf (x := .int .i64 x.price) sc3 (gr_get (by simpa using hx)) rfl) rfl ?_
 refine tk rfl (PE.gtr rfl rfl) rfl ?_
 refine sy_cond rfl (fun hc5 => ?_) (fun hc5 => ?_)
 try simp only [decide_eq_true_eq, decide_eq_false_iff_not, Bool.and_eq_true, Bool.or_eq_true, Bool.not_eq_true', Int.not_le, Int.not_lt] at hc5
 have hres : g.check = 4 := by rw [hor, not_sorted hx (by rw [show i - 1 + 1 = i from by omega]; exact hy) (by omega)]; rfl
 refine sy_seq ?_
 refine sy_tx' [0] rfl ?_
 refine sp rfl (PE.assign rfl) rfl ?_
 refine sy_ret ?_
 exact sy_return (vs := [_]) rfl (.cons (RV.tmp rfl) .nil) rfl ⟨by rw [hres]; rfl, rfl, rfl⟩ drp
 try simp only [decide_eq_true_eq, decide_eq_false_iff_not, Bool.and_eq_true, Bool.or_eq_true, Bool.not_eq_true', Int.not_le, Int.not_lt] at hc5
 have hnb : grBad g.grs (i - 1) = false := by unfold grBad; rw [hx, show i - 1 + 1 = i from by omega, hy]; exact decide_eq_false (by omega)
 refine sy_skip ?_
 refine sy_tx' [0, 1, 2] rfl ?_
 refine sp rfl (PE.move rfl) rfl ?_
 refine sp rfl (PE.add rfl rfl (by omega)) rfl ?_
 refine sp rfl (PE.assign rfl) rfl ?_
 exact sy_next ⟨i + 1, by omega, by omega, fun j h1 h2 => by rcases Nat.lt_or_ge (j + 1) i with h3 | h3; exact hno j h3 h2; rw [show j = i - 1 from (by omega)]; exact hnb⟩ (by dsimp only; omega) (by repeat' first | exact Sub.nil | apply Sub.cons | rfl | (simp [lk]; omega)) (fun _ h => h)
 try simp only [decide_eq_true_eq, decide_eq_false_iff_not, Bool.and_eq_true, Bool.or_eq_true, Bool.not_eq_true', Int.not_le, Int.not_lt] at hc4
 have hres : g.check = 0 := by rw [hor, bad_none (fun j h1 => hno j (by omega) h1)]; rfl
 refine sy_exit ?_
 repeat refine sy_tx ?_
 refine sy_bx ?_
 refine sy_seq ?_
 refine sy_tx' [0] rfl ?_
 refine sp rfl (PE.assign rfl) rfl ?_
 refine sy_ret ?_
 exact sy_return (vs := [_]) rfl (.cons (RV.tmp rfl) .nil) rfl ⟨by rw [hres]; rfl, rfl, rfl⟩ drp
theorem c_total (h : Hnd) (hb : ∀ k < 4, -1000000000000000000 ≤ nn h.gs k ∧ nn h.gs k ≤ 1000000000000000000) (H : Heap) (R : Facts) :
    FnV Tryz.prog 92 [.agg (hrow h).toArray] H R (.int .i64 h.tot) := by
 refine fn_of Tryz.func92 rfl Tryz.ntmps92 rfl ?_
 refine sy_seq ?_
 refine sy_tx' [0, 1] rfl ?_
 refine bx rfl rfl rfl (fun b1 => ?_)
 refine sp rfl (PE.assign rfl) rfl ?_
 refine sy_seq ?_
 refine sy_tx' [0] rfl ?_
 refine sp rfl (PE.assign rfl) rfl ?_
 refine sy_seq ?_
 refine sy_seq ?_
 refine sy_tx' [0] rfl ?_
 refine sp rfl (PE.assign rfl) rfl ?_
 refine sy_block ?_
 refine sy_loop (ι := {k : Nat // k ≤ 4}) (fun k => ⟨[(1, .pointer (some ⟨b1, 0, none⟩)), (3, .int .i64 (totN h k.1)), (4, .int .i64 k.1)], (b1, cel 99 (hrow h)) :: H, R⟩) (fun k => 4 - k.1) ⟨0, by omega⟩ ?_ (fun k => ?_)
 exact sy_at (by repeat' first | exact Sub.nil | apply Sub.cons | rfl | (simp [lk]; omega)) (fun _ h => h)
 obtain ⟨k, hk⟩ := k
 dsimp only at hk ⊢
 have ht := totN_bd (h := h) (B := 1000000000000000000) hb (by omega) k hk
 refine sy_seq ?_
 refine sy_seq ?_
 refine sy_tx' [0, 1] rfl ?_
 refine sp rfl (PE.move rfl) rfl ?_
 refine sp rfl (PE.lss rfl rfl) rfl ?_
 refine sy_cond rfl (fun hc0 => ?_) (fun hc0 => ?_)
 try simp only [decide_eq_true_eq, decide_eq_false_iff_not, Bool.and_eq_true, Bool.or_eq_true, Bool.not_eq_true', Int.not_le, Int.not_lt] at hc0
 have hk4 : k < 4 := by omega
 have hbk := hb k hk4
 have ht2 := totN_bd (h := h) (B := 1000000000000000000) hb (by omega) (k + 1) (by omega)
 refine sy_skip ?_
 refine sy_seq ?_
 refine sy_block ?_
 refine sy_tx' [0, 1, 2, 3, 4, 5, 6] rfl ?_
 refine sp rfl (PE.move rfl) rfl ?_
 refine sp rfl (PE.move rfl) rfl ?_
 refine sp rfl (PE.fieldAddr fo99_1 rfl) rfl ?_
 refine sp rfl (PE.indexArr ar64 rfl rfl (by omega) (by omega)) rfl ?_
 refine spL rfl rfl (lh sc3 rfl (hrow_at hk4)) rfl ?_
 refine sp rfl (PE.add rfl rfl (by omega)) rfl ?_
 refine sp rfl (PE.assign rfl) rfl ?_
 refine sy_tx' [0, 1, 2] rfl ?_
 refine sp rfl (PE.move rfl) rfl ?_
 refine sp rfl (PE.add rfl rfl (by omega)) rfl ?_
 refine sp rfl (PE.assign rfl) rfl ?_
 exact sy_next ⟨k + 1, by omega⟩ (by dsimp only; omega) (by repeat' first | exact Sub.nil | apply Sub.cons | rfl | (simp [lk]; omega)) (fun _ h => h)
 try simp only [decide_eq_true_eq, decide_eq_false_iff_not, Bool.and_eq_true, Bool.or_eq_true, Bool.not_eq_true', Int.not_le, Int.not_lt] at hc0
 obtain rfl : k = 4 := by omega
 rw [totN_4]
 refine sy_exit ?_
 repeat refine sy_tx ?_
 refine sy_bx ?_
 refine sy_seq ?_
 refine sy_tx' [0, 1] rfl ?_
 refine sp rfl (PE.move rfl) rfl ?_
 refine sp rfl (PE.assign rfl) rfl ?_
 refine sy_ret ?_
 exact sy_return (vs := [_]) rfl (.cons (RV.tmp rfl) .nil) rfl ⟨rfl, rfl, rfl⟩ drp
theorem c_rCart (c : Crt) (ah : Option Addr) (ch : Nat) (hlh : c.hs.length ≤ 9223372036854775807) (H : Heap) (R : Facts) [hA : MemRows ah 5 (hrows c.hs) R] :
    FnV Tryz.prog 48 [c.v (c.sl ah ch)] H R (.int .i64 c.check) := by
 refine fn_of Tryz.func48 rfl Tryz.ntmps48 rfl ?_
 refine sy_seq ?_
 refine sy_tx' [0, 1] rfl ?_
 refine bx rfl rfl rfl (fun b1 => ?_)
 refine sp rfl (PE.assign rfl) rfl ?_
 refine sy_seq ?_
 refine sy_seq ?_
 refine sy_tx' [0, 1, 2, 3] rfl ?_
 refine sp rfl (PE.fieldAddr fo40_2 rfl) rfl ?_
 refine spL rfl rfl (lh sc38 rfl rfl) rfl ?_
 refine sp rfl (PE.lenSl isl38 rfl) rfl ?_
 refine sp rfl (PE.gtr rfl rfl) rfl ?_
 refine sy_cond rfl (fun hc0 => ?_) (fun hc0 => ?_)
 try simp only [decide_eq_true_eq, decide_eq_false_iff_not, Bool.and_eq_true, Bool.or_eq_true, Bool.not_eq_true', Int.not_le, Int.not_lt] at hc0
 have hres := cck_many (c := c) (by omega)
 refine sy_seq ?_
 refine sy_tx' [0] rfl ?_
 refine sp rfl (PE.assign rfl) rfl ?_
 refine sy_ret ?_
 exact sy_return (vs := [_]) rfl (.cons (RV.tmp rfl) .nil) rfl ⟨by rw [hres]; rfl, rfl, rfl⟩ drp
 try simp only [decide_eq_true_eq, decide_eq_false_iff_not, Bool.and_eq_true, Bool.or_eq_true, Bool.not_eq_true', Int.not_le, Int.not_lt] at hc0
 have h6 : ¬ 6 < c.hs.length := by omega
 refine sy_skip ?_
 refine sy_seq ?_
 refine sy_seq ?_
 refine sy_tx' [0, 1, 2, 3, 4, 5, 6, 7] rfl ?_
 refine sp rfl (PE.fieldAddr fo40_0 rfl) rfl ?_
 refine spL rfl rfl (lh sc3 rfl rfl) rfl ?_
 refine clV rfl cal50 rfl rfl (c_off _ _ _ _ _) ?_
 refine sp rfl (PE.move rfl) rfl ?_
 refine sy_case (t := 14) rfl (fun g14 => ?_) (fun g14 => ?_)
 have hb : inb c.full 0 10000 = false := by rw [← Bool.not_eq_true']; exact g14
 have hres := cck_rng h6 (.inl hb)
 repeat refine spN rfl rfl rfl rfl rfl rfl rfl rfl ?_
 refine sp rfl (PE.pick rfl rfl rfl) rfl ?_
 refine sy_condT rfl ?_
 refine sy_seq ?_
 refine sy_tx' [0] rfl ?_
 refine sp rfl (PE.assign rfl) rfl ?_
 refine sy_ret ?_
 exact sy_return (vs := [_]) rfl (.cons (RV.tmp rfl) .nil) rfl ⟨by rw [hres]; rfl, rfl, rfl⟩ drp
 have hf : inb c.full 0 10000 = true := by rw [← Bool.not_eq_false']; exact g14
 refine spG rfl rfl rfl rfl (PE.fieldAddr fo40_1 rfl) rfl ?_
 refine spLG rfl rfl rfl rfl rfl (lh sc3 rfl rfl) rfl ?_
 refine clVG rfl rfl rfl rfl cal50 rfl rfl (c_off _ _ _ _ _) ?_
 refine sp rfl (PE.pick rfl rfl rfl) rfl ?_
 refine sy_cond rfl (fun hc1 => ?_) (fun hc1 => ?_)
 have hb : inb c.empty 0 10000 = false := by rw [← Bool.not_eq_true']; exact hc1
 have hres := cck_rng h6 (.inr hb)
 refine sy_seq ?_
 refine sy_tx' [0] rfl ?_
 refine sp rfl (PE.assign rfl) rfl ?_
 refine sy_ret ?_
 exact sy_return (vs := [_]) rfl (.cons (RV.tmp rfl) .nil) rfl ⟨by rw [hres]; rfl, rfl, rfl⟩ drp
 have he : inb c.empty 0 10000 = true := by rw [← Bool.not_eq_false']; exact hc1
 refine sy_skip ?_
 refine sy_seq ?_
 refine sy_seq ?_
 refine sy_tx' [0] rfl ?_
 refine sp rfl (PE.assign rfl) rfl ?_
 refine sy_block ?_
 refine sy_loop (ι := {i : Nat // i ≤ c.hs.length ∧ (c.hs.take i).all Hnd.fine = true}) (fun i => ⟨[(1, .pointer (some ⟨b1, 0, none⟩)), (3, .int .i64 i.1)], (b1, cel 40 (ctl c (c.sl ah ch))) :: H, R⟩) (fun i => c.hs.length - i.1) ⟨0, by simp⟩ ?_ (fun i => ?_)
 exact sy_at (by repeat' first | exact Sub.nil | apply Sub.cons | rfl | (simp [lk]; omega)) (fun _ h => h)
 obtain ⟨i, hi, hn⟩ := i
 dsimp only at hi hn ⊢
 refine sy_seq ?_
 refine sy_seq ?_
 refine sy_tx' [0, 1, 2, 3, 4] rfl ?_
 refine sp rfl (PE.move rfl) rfl ?_
 refine sp rfl (PE.fieldAddr fo40_2 rfl) rfl ?_
 refine spL rfl rfl (lh sc38 rfl rfl) rfl ?_
 refine sp rfl (PE.lenSl isl38 rfl) rfl ?_
 refine sp rfl (PE.lss rfl rfl) rfl ?_
 refine sy_cond rfl (fun hc2 => ?_) (fun hc2 => ?_)
 try simp only [decide_eq_true_eq, decide_eq_false_iff_not, Bool.and_eq_true, Bool.or_eq_true, Bool.not_eq_true', Int.not_le, Int.not_lt] at hc2
 obtain ⟨x, hx⟩ : ∃ x, c.hs[i]? = some x := ⟨_, List.getElem?_eq_getElem (by omega)⟩
 refine sy_addr (a := ah) (sz := 5) (rows := hrows c.hs) (by intro h0; simp [hrows] at h0; simp [h0] at hx) (fun ba oa hea => ?_)
 subst hea
 refine sy_skip ?_
 refine sy_seq ?_
 refine sy_block ?_
 refine sy_seq ?_
 refine sy_tx' [0, 1, 2, 3, 4, 5, 6] rfl ?_
 refine sp rfl (PE.fieldAddr fo40_2 rfl) rfl ?_
 refine spL rfl rfl (lh sc38 rfl rfl) rfl ?_
 refine sp rfl (PE.move rfl) rfl ?_
 refine sp rfl (PE.indexAddr el38 rfl rfl (by omega) (by omega)) rfl ?_
 refine spL rfl rfl (lfA ag99 (row := hrow x) (hr_get (by simpa using hx)) rfl) rfl ?_
 refine alc rfl zl99 rfl (fun b4 => ?_)
 refine sto rfl rfl rfl cn99 rfl rfl rfl rfl ?_
 refine sy_seq ?_
 refine sy_seq ?_
 refine sy_tx' [0, 1, 2] rfl ?_
 refine sp rfl (PE.fieldAddr fo99_0 rfl) rfl ?_
 refine spL rfl rfl (lh sc3 rfl rfl) rfl ?_
 refine clV rfl cal50 rfl rfl (c_off _ _ _ _ _) ?_
 refine sy_cond rfl (fun hc3 => ?_) (fun hc3 => ?_)
 have hb : inb x.spot 0 2 = false := by rw [← Bool.not_eq_true']; exact hc3
 have hres := cck_hnd h6 hf he (all_bad hx (by unfold Hnd.fine; rw [hb]; rfl))
 refine sy_seq ?_
 refine sy_tx' [0] rfl ?_
 refine sp rfl (PE.assign rfl) rfl ?_
 refine sy_ret ?_
 exact sy_return (vs := [_]) rfl (.cons (RV.tmp rfl) .nil) rfl ⟨by rw [hres]; rfl, rfl, rfl⟩ drp
 have q1 : inb x.spot 0 2 = true := by rw [← Bool.not_eq_false']; exact hc3
 refine sy_skip ?_
 refine sy_seq ?_
 refine sy_tx' [0] rfl ?_
 refine sp rfl (PE.assign rfl) rfl ?_
 refine sy_block ?_
 refine sy_loop (ι := {k : Nat // k ≤ 4 ∧ ∀ j < k, inb (nn x.gs j) 0 200 = true}) (fun k => ⟨[(1, .pointer (some ⟨b1, 0, none⟩)), (3, .int .i64 i), (4, .pointer (some ⟨b4, 0, none⟩)), (5, .int .i64 k.1)], (b4, cel 99 (hrow x)) :: (b1, cel 40 (ctl c (c.sl (some ⟨ba, oa, none⟩) ch))) :: H, R⟩) (fun k => 4 - k.1) ⟨0, by omega, fun j h => by omega⟩ ?_ (fun k => ?_)
 exact sy_at (by repeat' first | exact Sub.nil | apply Sub.cons | rfl | (simp [lk]; omega)) (fun _ h => h)
 obtain ⟨k, hk, hkn⟩ := k
 dsimp only at hk hkn ⊢
 refine sy_seq ?_
 refine sy_seq ?_
 refine sy_tx' [0, 1] rfl ?_
 refine sp rfl (PE.move rfl) rfl ?_
 refine sp rfl (PE.lss rfl rfl) rfl ?_
 refine sy_cond rfl (fun hc4 => ?_) (fun hc4 => ?_)
 try simp only [decide_eq_true_eq, decide_eq_false_iff_not, Bool.and_eq_true, Bool.or_eq_true, Bool.not_eq_true', Int.not_le, Int.not_lt] at hc4
 have hk4 : k < 4 := by omega
 refine sy_skip ?_
 refine sy_seq ?_
 refine sy_block ?_
 refine sy_seq ?_
 refine sy_tx' [0, 1, 2, 3, 4] rfl ?_
 refine sp rfl (PE.move rfl) rfl ?_
 refine sp rfl (PE.fieldAddr fo99_1 rfl) rfl ?_
 refine sp rfl (PE.indexArr ar64 rfl rfl (by omega) (by omega)) rfl ?_
 refine spL rfl rfl (lh sc3 rfl (hrow_at hk4)) rfl ?_
 refine clV rfl cal50 rfl rfl (c_off _ _ _ _ _) ?_
 refine sy_cond rfl (fun hc5 => ?_) (fun hc5 => ?_)
 have hb : inb (nn x.gs k) 0 200 = false := by rw [← Bool.not_eq_true']; exact hc5
 have hres := cck_hnd h6 hf he (all_bad hx (by unfold Hnd.fine; rw [gs_bad hk4 hb, Bool.and_false]))
 refine sy_seq ?_
 refine sy_tx' [0] rfl ?_
 refine sp rfl (PE.assign rfl) rfl ?_
 refine sy_ret ?_
 exact sy_return (vs := [_]) rfl (.cons (RV.tmp rfl) .nil) rfl ⟨by rw [hres]; rfl, rfl, rfl⟩ drp
 have q2 : inb (nn x.gs k) 0 200 = true := by rw [← Bool.not_eq_false']; exact hc5
 refine sy_skip ?_
 refine sy_tx' [0, 1, 2] rfl ?_
 refine sp rfl (PE.move rfl) rfl ?_
 refine sp rfl (PE.add rfl rfl (by omega)) rfl ?_
 refine sp rfl (PE.assign rfl) rfl ?_
 exact sy_next ⟨k + 1, by omega, fun j hj => by rcases Nat.lt_succ_iff_lt_or_eq.1 hj with h1 | rfl; exact hkn j h1; exact q2⟩ (by dsimp only; omega) (by repeat' first | exact Sub.nil | apply Sub.cons | rfl | (simp [lk]; omega)) (fun _ h => h)
 try simp only [decide_eq_true_eq, decide_eq_false_iff_not, Bool.and_eq_true, Bool.or_eq_true, Bool.not_eq_true', Int.not_le, Int.not_lt] at hc4
 obtain rfl : k = 4 := by omega
 have hxf : x.fine = true := by unfold Hnd.fine; rw [q1, gs_all hkn]; rfl
 refine sy_exit ?_
 repeat refine sy_tx ?_
 refine sy_bx ?_
 refine sy_tx' [0, 1, 2] rfl ?_
 refine sp rfl (PE.move rfl) rfl ?_
 refine sp rfl (PE.add rfl rfl (by omega)) rfl ?_
 refine sp rfl (PE.assign rfl) rfl ?_
 exact sy_next ⟨i + 1, by omega, all_more hx hn hxf⟩ (by dsimp only; omega) (by repeat' first | exact Sub.nil | apply Sub.cons | rfl | (simp [lk]; omega)) (fun w h => h.del b4)
 try simp only [decide_eq_true_eq, decide_eq_false_iff_not, Bool.and_eq_true, Bool.or_eq_true, Bool.not_eq_true', Int.not_le, Int.not_lt] at hc2
 obtain rfl : i = c.hs.length := by omega
 rw [List.take_length] at hn
 have hto := cck_tot h6 hf he hn
 refine sy_exit ?_
 repeat refine sy_tx ?_
 refine sy_bx ?_
 refine sy_seq ?_
 refine sy_seq ?_
 refine sy_tx' [0] rfl ?_
 refine sp rfl (PE.assign rfl) rfl ?_
 refine sy_block ?_
 refine sy_loop (ι := {i : Nat // i ≤ c.hs.length ∧ ((c.hs.take i).all fun h => inb h.tot 10 200) = true}) (fun i => ⟨[(1, .pointer (some ⟨b1, 0, none⟩)), (6, .int .i64 i.1)], (b1, cel 40 (ctl c (c.sl ah ch))) :: H, R⟩) (fun i => c.hs.length - i.1) ⟨0, by simp⟩ ?_ (fun i => ?_)
 exact sy_at (by repeat' first | exact Sub.nil | apply Sub.cons | rfl | (simp [lk]; omega)) (fun _ h => h)
 obtain ⟨i, hi, hm⟩ := i
 dsimp only at hi hm ⊢
 refine sy_seq ?_
 refine sy_seq ?_
 refine sy_tx' [0, 1, 2, 3, 4] rfl ?_
 refine sp rfl (PE.move rfl) rfl ?_
 refine sp rfl (PE.fieldAddr fo40_2 rfl) rfl ?_
 refine spL rfl rfl (lh sc38 rfl rfl) rfl ?_
 refine sp rfl (PE.lenSl isl38 rfl) rfl ?_
 refine sp rfl (PE.lss rfl rfl) rfl ?_
 refine sy_cond rfl (fun hc6 => ?_) (fun hc6 => ?_)
 try simp only [decide_eq_true_eq, decide_eq_false_iff_not, Bool.and_eq_true, Bool.or_eq_true, Bool.not_eq_true', Int.not_le, Int.not_lt] at hc6
 obtain ⟨x, hx⟩ : ∃ x, c.hs[i]? = some x := ⟨_, List.getElem?_eq_getElem (by omega)⟩
 have hxb := hfine_bd (List.all_eq_true.1 hn x (List.mem_of_getElem? hx))
 refine sy_addr (a := ah) (sz := 5) (rows := hrows c.hs) (by intro h0; simp [hrows] at h0; simp [h0] at hx) (fun ba oa hea => ?_)
 subst hea
 refine sy_skip ?_
 refine sy_seq ?_
 refine sy_block ?_
 refine sy_seq ?_
 refine sy_tx' [0, 1, 2, 3, 4, 5, 6] rfl ?_
 refine sp rfl (PE.fieldAddr fo40_2 rfl) rfl ?_
 refine spL rfl rfl (lh sc38 rfl rfl) rfl ?_
 refine sp rfl (PE.move rfl) rfl ?_
 refine sp rfl (PE.indexAddr el38 rfl rfl (by omega) (by omega)) rfl ?_
 refine spL rfl rfl (lfA ag99 (row := hrow x) (hr_get (by simpa using hx)) rfl) rfl ?_
 refine clV rfl cal92 rfl rfl (c_total x (fun k hk => by have := hxb k hk; omega) _ _) ?_
 refine clV rfl cal50 rfl rfl (c_off _ _ _ _ _) ?_
 refine sy_cond rfl (fun hc7 => ?_) (fun hc7 => ?_)
 have hb : inb x.tot 10 200 = false := by rw [← Bool.not_eq_true']; exact hc7
 have hres : c.check = 8 := by rw [hto, all_bad hx (p := fun h => inb h.tot 10 200) hb]; rfl
 refine sy_seq ?_
 refine sy_tx' [0] rfl ?_
 refine sp rfl (PE.assign rfl) rfl ?_
 refine sy_ret ?_
 exact sy_return (vs := [_]) rfl (.cons (RV.tmp rfl) .nil) rfl ⟨by rw [hres]; rfl, rfl, rfl⟩ drp
 have q3 : inb x.tot 10 200 = true := by rw [← Bool.not_eq_false']; exact hc7
 refine sy_skip ?_
 refine sy_tx' [0, 1, 2] rfl ?_
 refine sp rfl (PE.move rfl) rfl ?_
 refine sp rfl (PE.add rfl rfl (by omega)) rfl ?_
 refine sp rfl (PE.assign rfl) rfl ?_
 exact sy_next ⟨i + 1, by omega, all_more hx hm q3⟩ (by dsimp only; omega) (by repeat' first | exact Sub.nil | apply Sub.cons | rfl | (simp [lk]; omega)) (fun _ h => h)
 try simp only [decide_eq_true_eq, decide_eq_false_iff_not, Bool.and_eq_true, Bool.or_eq_true, Bool.not_eq_true', Int.not_le, Int.not_lt] at hc6
 obtain rfl : i = c.hs.length := by omega
 rw [List.take_length] at hm
 have hres : c.check = 0 := by rw [hto, hm]; rfl
 refine sy_exit ?_
 repeat refine sy_tx ?_
 refine sy_bx ?_
 refine sy_seq ?_
 refine sy_tx' [0] rfl ?_
 refine sp rfl (PE.assign rfl) rfl ?_
 refine sy_ret ?_
 exact sy_return (vs := [_]) rfl (.cons (RV.tmp rfl) .nil) rfl ⟨by rw [hres]; rfl, rfl, rfl⟩ drp
theorem c_rBoth (g : Gat) (ag : Option Addr) (cg : Nat) (hlg : g.grs.length ≤ 9223372036854775807) (c : Crt) (ah : Option Addr) (ch : Nat) (hlh : c.hs.length ≤ 9223372036854775807) (H : Heap) (R : Facts) [hG : MemRows ag 5 (grows g.grs) R] [hA : MemRows ah 5 (hrows c.hs) R] :
    FnV Tryz.prog 13 [g.v (g.sl ag cg), c.v (c.sl ah ch)] H R (.int .i64 (bothE g c)) := by
 refine fn_of Tryz.func13 rfl Tryz.ntmps13 rfl ?_
 refine sy_seq ?_
 refine sy_tx' [0, 1, 2] rfl ?_
 refine bx rfl rfl rfl (fun b2 => ?_)
 refine bx rfl rfl rfl (fun b3 => ?_)
 refine sp rfl (PE.assign rfl) rfl ?_
 refine sy_seq ?_
 refine sy_seq ?_
 refine sy_tx' [0, 1, 2] rfl ?_
 refine spL rfl rfl (lhA [_, _, _] ag36 rfl rfl rfl) rfl ?_
 refine clV rfl cal47 rfl rfl (c_rCheck g ag cg hlg _ _) ?_
 refine sp rfl (PE.assign rfl) rfl ?_
 refine sy_seq ?_
 refine sy_tx' [0, 1] rfl ?_
 refine sp rfl (PE.move rfl) rfl ?_
 refine sp rfl (PE.neq rfl rfl) rfl ?_
 refine sy_cond rfl (fun hc0 => ?_) (fun hc0 => ?_)
 try simp only [decide_eq_true_eq, decide_eq_false_iff_not, Bool.and_eq_true, Bool.or_eq_true, Bool.not_eq_true', Int.not_le, Int.not_lt] at hc0
 have hres : bothE g c = g.check := by simp [bothE, hc0]
 refine sy_seq ?_
 refine sy_tx' [0, 1] rfl ?_
 refine sp rfl (PE.move rfl) rfl ?_
 refine sp rfl (PE.assign rfl) rfl ?_
 refine sy_ret ?_
 exact sy_return (vs := [_]) rfl (.cons (RV.tmp rfl) .nil) rfl ⟨by rw [hres]; rfl, rfl, rfl⟩ drp
 try simp only [decide_eq_true_eq, decide_eq_false_iff_not, Bool.and_eq_true, Bool.or_eq_true, Bool.not_eq_true', Int.not_le, Int.not_lt] at hc0
 have hres : bothE g c = c.check := by simp [bothE, hc0]
 refine sy_skip ?_
 refine sy_seq ?_
 refine sy_tx' [0, 1, 2] rfl ?_
 refine spL rfl rfl (lhA [_, _, _] ag40 rfl rfl rfl) rfl ?_
 refine clV rfl cal48 rfl rfl (c_rCart c ah ch hlh _ _) ?_
 refine sp rfl (PE.assign rfl) rfl ?_
 refine sy_ret ?_
 exact sy_return (vs := [_]) rfl (.cons (RV.tmp rfl) .nil) rfl ⟨by rw [hres]; rfl, rfl, rfl⟩ drp
end Go.Proofs.YtknoaljnelfklaaGreat
namespace Go.Proofs.YtknoaljnelfklaaGreat
set_option linter.unusedSimpArgs false
set_option linter.unusedVariables false
open Go
theorem cal11 : cal Tryz.prog 11 = true := by kernel_rfl
theorem cal12 : cal Tryz.prog 12 = true := by kernel_rfl
theorem cal24 : cal Tryz.prog 24 = true := by kernel_rfl
theorem cal25 : cal Tryz.prog 25 = true := by kernel_rfl
theorem cal6 : cal Tryz.prog 6 = true := by kernel_rfl
theorem cal7 : cal Tryz.prog 7 = true := by kernel_rfl
theorem cal8 : cal Tryz.prog 8 = true := by kernel_rfl
theorem cal9 : cal Tryz.prog 9 = true := by kernel_rfl
theorem OSl.mk1 {e b n : Nat} {hs : List Hnd} (hn : hs.length = n) (hm : n ≤ 1000) : ∃ o : OSl e 5 (hrows hs), o.fs = .slice (some ⟨b, 0, none⟩) n n ∧ o.G = [(b, cel e ((hrows hs).flatten ++ []))] := by
  subst hn
  exact ⟨⟨.slice (some ⟨b, 0, none⟩) hs.length hs.length, [(b, cel e ((hrows hs).flatten ++ []))], hrows_len _, .inr ⟨b, hs.length, [], by rw [hr_len], rfl, by rw [hr_len]; rfl, by rw [hr_len]; exact Nat.le_refl _, by omega⟩⟩, rfl, rfl⟩
end Go.Proofs.YtknoaljnelfklaaGreat
namespace Go.Proofs.YtknoaljnelfklaaGreat
set_option linter.unusedSimpArgs false
set_option linter.unusedVariables false
open Go
theorem cal49 : cal Tryz.prog 49 = true := by kernel_rfl
theorem cal93 : cal Tryz.prog 93 = true := by kernel_rfl
theorem fit_at {miss : Int} {h : Hnd} {m : Mix} {k : Nat} (hk : k < 4) (hb : letB miss h k (nn m k) = false) : fitB miss h m = false := by
  unfold fitB; rw [List.all_eq_false]; exact ⟨k, List.mem_range.2 hk, by rw [hb]; simp⟩
theorem fit_of {miss : Int} {h : Hnd} {m : Mix} (hb : ∀ k < 4, letB miss h k (nn m k) = true) : fitB miss h m = true := by
  unfold fitB; rw [List.all_eq_true]; exact fun k hk => hb k (List.mem_range.1 hk)
theorem c_None (b : Bool) (H : Heap) (R : Facts) :
    FnV Tryz.prog 18 [.bool b] H R (.int .i64 (bif b then 0 else 6)) := by
 refine fn_of Tryz.func18 rfl Tryz.ntmps18 rfl ?_
 refine sy_seq ?_
 refine sy_tx' [0] rfl ?_
 refine sp rfl (PE.assign rfl) rfl ?_
 refine sy_seq ?_
 refine sy_seq ?_
 refine sy_tx' [0] rfl ?_
 refine sp rfl (PE.move rfl) rfl ?_
 refine sy_cond rfl (fun hc0 => ?_) (fun hc0 => ?_)
 subst hc0
 refine sy_seq ?_
 refine sy_tx' [0] rfl ?_
 refine sp rfl (PE.assign rfl) rfl ?_
 refine sy_ret ?_
 exact sy_return (vs := [_]) rfl (.cons (RV.tmp rfl) .nil) rfl ⟨rfl, rfl, rfl⟩ drp
 subst hc0
 refine sy_skip ?_
 refine sy_seq ?_
 refine sy_tx' [0] rfl ?_
 refine sp rfl (PE.assign rfl) rfl ?_
 refine sy_ret ?_
 exact sy_return (vs := [_]) rfl (.cons (RV.tmp rfl) .nil) rfl ⟨rfl, rfl, rfl⟩ drp
theorem c_rlet (g : Gat) (hg : 0 ≤ g.miss ∧ g.miss ≤ 20) (sg : Value) (h : Hnd) (hh : h.ok) (k : Nat) (hk : k < 4) (x : Int) (hx : 0 ≤ x ∧ x ≤ 40) (H : Heap) (R : Facts) :
    FnV Tryz.prog 93 [g.v sg, .agg (hrow h).toArray, .int .i64 k, .int .i64 x] H R (.bool (letB g.miss h k x)) := by
 have ht := hh.tot
 have hat := hh.at_ k hk
 have hmu := mul_b hx.1 hx.2 (show 0 ≤ h.tot by omega) ht.2
 refine fn_of Tryz.func93 rfl Tryz.ntmps93 rfl ?_
 refine sy_seq ?_
 refine sy_tx' [0, 1, 2] rfl ?_
 refine bx rfl rfl rfl (fun b4 => ?_)
 refine bx rfl rfl rfl (fun b5 => ?_)
 refine sp rfl (PE.assign rfl) rfl ?_
 refine sy_seq ?_
 refine sy_draw [0, 0, 2, 7, 0, 0, 48, 112, 240, 511, 1023] (.tk 0 (.ld 1 (.tk 4 (.tk 5 (.tk 6 (.ld 7 (.tk 8 (.big 2 (.tk 3 (.tk 9 (.tk 10 .done))))))))))) mixed (by kernel_rfl) ?_
 refine tk rfl (PE.move rfl) rfl ?_
 refine ld rfl rfl (lhA (hrow h) ag99 rfl (rest := []) (by rw [List.append_nil]; rfl) rfl) rfl ?_
 refine tk rfl (PE.move rfl) rfl ?_
 refine tk rfl (PE.fieldAddr fo99_1 rfl) rfl ?_
 refine tk rfl (PE.indexArr ar64 rfl rfl (by omega) (by omega)) rfl ?_
 refine ld rfl rfl (lh sc3 rfl (hrow_at hk)) rfl ?_
 refine tk rfl (PE.mul rfl rfl (by omega)) rfl ?_
 refine clV rfl cal92 rfl rfl (c_total h (fun k hk => by have := hh.at_ k hk; omega) _ _) ?_
 refine bg (fun w hs => ⟨(lh sc3 rfl (hrow_at hk)) w hs, trivial, trivial⟩) ?_
 refine tk rfl (PE.mul rfl rfl (by omega)) rfl ?_
 refine tk rfl (PE.sub rfl rfl (by omega)) rfl ?_
 refine tk rfl (PE.assign rfl) rfl ?_
 refine sy_seq ?_
 refine sy_tx' [0, 1, 2, 3, 4, 5, 6, 7, 8, 9, 10, 11, 12, 13] rfl ?_
 refine sp rfl (PE.move rfl) rfl ?_
 refine sp rfl (PE.fieldAddr fo36_1 rfl) rfl ?_
 refine spL rfl rfl (lh sc3 rfl rfl) rfl ?_
 refine sp rfl (PE.mul rfl rfl (by omega)) rfl ?_
 refine sp rfl (PE.leq rfl rfl) rfl ?_
 refine sp rfl (PE.move rfl) rfl ?_
 refine sy_case (t := 25) rfl (fun g25 => ?_) (fun g25 => ?_)
 try simp only [decide_eq_true_eq, decide_eq_false_iff_not, Bool.and_eq_true, Bool.or_eq_true, Bool.not_eq_true', Int.not_le, Int.not_lt] at g25
 have e : letB g.miss h k x = decide (-(x * h.tot - 40 * nn h.gs k) ≤ 40 * g.miss) := by unfold letB; rw [decide_eq_true (by omega), Bool.true_and]
 rw [← Int.zero_sub] at e
 refine spG rfl rfl rfl rfl (PE.move rfl) rfl ?_
 refine spG rfl rfl rfl rfl ((PE.negW rfl).to (by rw [wrap_i64_id (by omega) (by omega)])) rfl ?_
 refine spG rfl rfl rfl rfl (PE.fieldAddr fo36_1 rfl) rfl ?_
 refine spLG rfl rfl rfl rfl rfl (lh sc3 rfl rfl) rfl ?_
 refine spG rfl rfl rfl rfl (PE.mul rfl rfl (by omega)) rfl ?_
 refine spG rfl rfl rfl rfl (PE.leq rfl rfl) rfl ?_
 refine sp rfl (PE.pick rfl rfl rfl) rfl ?_
 refine sp rfl (PE.assign rfl) rfl ?_
 refine sy_ret ?_
 exact sy_return (vs := [_]) rfl (.cons (RV.tmp rfl) .nil) rfl ⟨by rw [e]; rfl, rfl, rfl⟩ drp
 try simp only [decide_eq_true_eq, decide_eq_false_iff_not, Bool.and_eq_true, Bool.or_eq_true, Bool.not_eq_true', Int.not_le, Int.not_lt] at g25
 have e : letB g.miss h k x = false := by unfold letB; rw [decide_eq_false (by omega), Bool.false_and]
 repeat refine spN rfl rfl rfl rfl rfl rfl rfl rfl ?_
 refine sp rfl (PE.pick rfl rfl rfl) rfl ?_
 refine sp rfl (PE.assign rfl) rfl ?_
 refine sy_ret ?_
 exact sy_return (vs := [_]) rfl (.cons (RV.tmp rfl) .nil) rfl ⟨by rw [e]; rfl, rfl, rfl⟩ drp
theorem c_rFit (g : Gat) (hg : 0 ≤ g.miss ∧ g.miss ≤ 20) (sg : Value) (h : Hnd) (hh : h.ok) (m : Mix) (hm : Mxt m) (H : Heap) (R : Facts) :
    FnV Tryz.prog 49 [g.v sg, .agg (hrow h).toArray, .agg (ints m).toArray] H R (.bool (fitB g.miss h m)) := by
 refine fn_of Tryz.func49 rfl Tryz.ntmps49 rfl ?_
 refine sy_seq ?_
 refine sy_tx' [0, 1, 2, 3] rfl ?_
 refine bx rfl rfl rfl (fun b3 => ?_)
 refine bx rfl rfl rfl (fun b4 => ?_)
 refine bx rfl rfl rfl (fun b5 => ?_)
 refine sp rfl (PE.assign rfl) rfl ?_
 refine sy_seq ?_
 refine sy_seq ?_
 refine sy_tx' [0] rfl ?_
 refine sp rfl (PE.assign rfl) rfl ?_
 refine sy_block ?_
 refine sy_loop (ι := {k : Nat // k ≤ 4 ∧ ∀ j < k, letB g.miss h j (nn m j) = true}) (fun k => ⟨[(3, .pointer (some ⟨b3, 0, none⟩)), (4, .pointer (some ⟨b4, 0, none⟩)), (5, .pointer (some ⟨b5, 0, none⟩)), (7, .int .i64 k.1)], (b5, cel 64 (ints m)) :: (b4, cel 99 (hrow h)) :: (b3, cel 36 (gtl g sg)) :: H, R⟩) (fun k => 4 - k.1) ⟨0, by omega, fun j h => by omega⟩ ?_ (fun k => ?_)
 exact sy_at (by repeat' first | exact Sub.nil | apply Sub.cons | rfl | (simp [lk]; omega)) (fun _ h => h)
 obtain ⟨k, hk, hn⟩ := k
 dsimp only at hk hn ⊢
 refine sy_seq ?_
 refine sy_seq ?_
 refine sy_tx' [0, 1] rfl ?_
 refine sp rfl (PE.move rfl) rfl ?_
 refine sp rfl (PE.lss rfl rfl) rfl ?_
 refine sy_cond rfl (fun hc0 => ?_) (fun hc0 => ?_)
 try simp only [decide_eq_true_eq, decide_eq_false_iff_not, Bool.and_eq_true, Bool.or_eq_true, Bool.not_eq_true', Int.not_le, Int.not_lt] at hc0
 have hk4 : k < 4 := by omega
 refine sy_skip ?_
 refine sy_seq ?_
 refine sy_block ?_
 refine sy_seq ?_
 refine sy_draw [0, 0, 0, 0, 8, 24, 63, 127] (.ld 0 (.ld 1 (.tk 2 (.tk 3 (.tk 4 (.ld 5 (.big 6 (.tk 7 .done)))))))) mixed (by kernel_rfl) ?_
 refine ld rfl rfl (lhA [_, _, _] ag36 rfl rfl rfl) rfl ?_
 refine ld rfl rfl (lhA (hrow h) ag99 rfl (rest := []) (by rw [List.append_nil]; rfl) rfl) rfl ?_
 refine tk rfl (PE.move rfl) rfl ?_
 refine tk rfl (PE.move rfl) rfl ?_
 refine tk rfl (PE.indexArr ar64 rfl rfl (by omega) (by omega)) rfl ?_
 refine ld rfl rfl (lh sc3 rfl (mix_at hm.len hk4)) rfl ?_
 refine clV rfl cal93 rfl rfl (c_rlet g hg sg h hh k hk4 (nn m k) (hm.at_ k hk4) _ _) ?_
 refine bg (fun w hs => ⟨trivial, trivial, trivial, trivial⟩) ?_
 refine tk rfl (PE.not rfl) rfl ?_
 refine sy_cond rfl (fun hc1 => ?_) (fun hc1 => ?_)
 have hb : letB g.miss h k (nn m k) = false := by simpa using hc1
 have hres := fit_at hk4 hb
 refine sy_seq ?_
 refine sy_tx' [0] rfl ?_
 refine sp rfl (PE.assign rfl) rfl ?_
 refine sy_ret ?_
 exact sy_return (vs := [_]) rfl (.cons (RV.tmp rfl) .nil) rfl ⟨by rw [hres]; rfl, rfl, rfl⟩ drp
 have q1 : letB g.miss h k (nn m k) = true := by simpa using hc1
 refine sy_skip ?_
 refine sy_tx' [0, 1, 2] rfl ?_
 refine sp rfl (PE.move rfl) rfl ?_
 refine sp rfl (PE.add rfl rfl (by omega)) rfl ?_
 refine sp rfl (PE.assign rfl) rfl ?_
 exact sy_next ⟨k + 1, by omega, fun j hj => by rcases Nat.lt_succ_iff_lt_or_eq.1 hj with h1 | rfl; exact hn j h1; exact q1⟩ (by dsimp only; omega) (by repeat' first | exact Sub.nil | apply Sub.cons | rfl | (simp [lk]; omega)) (fun _ h => h)
 try simp only [decide_eq_true_eq, decide_eq_false_iff_not, Bool.and_eq_true, Bool.or_eq_true, Bool.not_eq_true', Int.not_le, Int.not_lt] at hc0
 obtain rfl : k = 4 := by omega
 have hres := fit_of hn
 refine sy_exit ?_
 repeat refine sy_tx ?_
 refine sy_bx ?_
 refine sy_seq ?_
 refine sy_tx' [0] rfl ?_
 refine sp rfl (PE.assign rfl) rfl ?_
 refine sy_ret ?_
 exact sy_return (vs := [_]) rfl (.cons (RV.tmp rfl) .nil) rfl ⟨by rw [hres]; rfl, rfl, rfl⟩ drp
end Go.Proofs.YtknoaljnelfklaaGreat
namespace Go.Proofs.YtknoaljnelfklaaGreat
set_option linter.unusedSimpArgs false
set_option linter.unusedVariables false
open Go
theorem cal13 : cal Tryz.prog 13 = true := by kernel_rfl
theorem cal18 : cal Tryz.prog 18 = true := by kernel_rfl
theorem ub4 : Tryz.prog.underlying 4 = some .bool := by kernel_rfl
end Go.Proofs.YtknoaljnelfklaaGreat
namespace Go.Proofs.YtknoaljnelfklaaGreat
set_option linter.unusedSimpArgs false
set_option linter.unusedVariables false
open Go
theorem ap103 : apT Tryz.prog 103 = some (64, 4, 32) := by kernel_rfl
theorem ap44 : apT Tryz.prog 44 = some (103, 1, 24) := by kernel_rfl
theorem cn103 : cellN Tryz.prog 103 = some 1 := by kernel_rfl
theorem el44 : elN Tryz.prog 44 = some 1 := by kernel_rfl
theorem sc103 : scal Tryz.prog 103 = true := by kernel_rfl
theorem sl103 : slE Tryz.prog 103 = some (64, 4) := by kernel_rfl
theorem zl103 : zeroL Tryz.prog 103 = some ([.slice none 0 0]) := by kernel_rfl
abbrev mrows (l : List Mix) : List (List Value) := l.map ints
def missN (miss : Int) (hs : List Hnd) (m : Mix) : Nat → Nat
  | 0 => 0
  | i + 1 => missN miss hs m i + match hs[i]? with
    | some h => bif fitB miss h m then 0 else 2 ^ i
    | none => 0
def missQ (miss : Int) (hs : List Hnd) (m : Mix) : Nat := missN miss hs m hs.length
theorem missN_lt (miss : Int) (hs : List Hnd) (m : Mix) : ∀ i, missN miss hs m i < 2 ^ i
  | 0 => by simp [missN]
  | i + 1 => by
    have ih := missN_lt miss hs m i
    have h2 : 2 ^ (i + 1) = 2 ^ i + 2 ^ i := by rw [Nat.pow_succ]; omega
    unfold missN
    cases hs[i]? with
    | none => simp only; omega
    | some h => simp only; cases fitB miss h m <;> simp only [cond_true, cond_false] <;> omega
theorem missQ_lt {miss : Int} {hs : List Hnd} {m : Mix} (h : hs.length ≤ 6) : missQ miss hs m < 64 := by
  have h1 := missN_lt miss hs m hs.length
  have h2 : 2 ^ hs.length ≤ 2 ^ 6 := Nat.pow_le_pow_right (by decide) h
  unfold missQ; omega
def partS (miss : Int) (hs : List Hnd) (ms : List Mix) (s : Nat) : List Mix := ms.filter fun m => decide (missQ miss hs m = s)
theorem part_hit {miss : Int} {hs : List Hnd} {ms : List Mix} {m : Mix} {s : Nat} (h : missQ miss hs m = s) : partS miss hs (ms ++ [m]) s = partS miss hs ms s ++ [m] := by
  simp [partS, List.filter_append, h]
theorem part_miss {miss : Int} {hs : List Hnd} {ms : List Mix} {m : Mix} {s : Nat} (h : missQ miss hs m ≠ s) : partS miss hs (ms ++ [m]) s = partS miss hs ms s := by
  simp [partS, List.filter_append, h]
structure AllI (a b d : Nat) (ms : List Mix) : Prop where
  mx : ∀ m ∈ ms, Mxt m
  all : ∀ m, Mxt m → (nn m 0 < a ∨ (nn m 0 = a ∧ nn m 1 < b) ∨ (nn m 0 = a ∧ nn m 1 = b ∧ nn m 2 < d)) → m ∈ ms
  len : ms.length ≤ 1681 * a + 41 * b + d
theorem AllI.start : AllI 0 0 0 [] := ⟨by simp, fun m hm h => by
  have h0 := hm.at_ 0 (by omega); have h1 := hm.at_ 1 (by omega); have h2 := hm.at_ 2 (by omega)
  omega, by simp⟩
def mixOf (a b d : Nat) : Mix := [(a : Int), (b : Int), (d : Int), 40 - a - b - d]
theorem mixOf_ok {a b d : Nat} (h : a + b + d ≤ 40) : Mxt (mixOf a b d) := ⟨rfl, by simp [mixOf, sum4, nn]; omega, of4 ⟨by simp [mixOf, nn]; omega, by simp [mixOf, nn]; omega, by simp [mixOf, nn]; omega, by simp [mixOf, nn]; omega⟩⟩
theorem AllI.more {a b d : Nat} {ms : List Mix} (h : AllI a b d ms) (hs : a + b + d ≤ 40) : AllI a b (d + 1) (ms ++ [mixOf a b d]) := by
  refine ⟨fun m hm => ?_, fun m hm hlt => ?_, by have := h.len; simp; omega⟩
  · rcases List.mem_append.1 hm with hm | hm
    · exact h.mx m hm
    · obtain rfl := List.mem_singleton.1 hm; exact mixOf_ok hs
  · by_cases he : nn m 0 = a ∧ nn m 1 = b ∧ nn m 2 = d
    · have hsm := hm.sum
      obtain ⟨x0, x1, x2, x3, rfl⟩ := list4 hm.len
      simp only [sum4, nn, List.getD_cons_zero, List.getD_cons_succ] at he hsm
      obtain ⟨rfl, rfl, rfl⟩ := he
      refine List.mem_append_right _ (List.mem_singleton.2 ?_)
      simp [mixOf]; omega
    · exact List.mem_append_left _ (h.all m hm (by omega))
theorem AllI.next {a b d : Nat} {ms : List Mix} (h : AllI a b d ms) (hd : 40 < a + b + d) (hd2 : d ≤ 41) : AllI a (b + 1) 0 ms := ⟨h.mx, fun m hm hlt => h.all m hm (by
  have h0 := hm.at_ 0 (by omega); have h1 := hm.at_ 1 (by omega); have h2 := hm.at_ 2 (by omega); have h3 := hm.at_ 3 (by omega)
  have hs := hm.sum
  unfold sum4 at hs
  omega), by have := h.len; omega⟩
theorem AllI.down {a b : Nat} {ms : List Mix} (h : AllI a b 0 ms) (hd : 40 < a + b) (hb : b ≤ 41) : AllI (a + 1) 0 0 ms := ⟨h.mx, fun m hm hlt => h.all m hm (by
  have h0 := hm.at_ 0 (by omega); have h1 := hm.at_ 1 (by omega); have h2 := hm.at_ 2 (by omega); have h3 := hm.at_ 3 (by omega)
  have hs := hm.sum
  unfold sum4 at hs
  omega), by have := h.len; omega⟩
theorem AllI.done {ms : List Mix} (h : AllI 41 0 0 ms) (m : Mix) : m ∈ ms ↔ Mxt m := ⟨h.mx m, fun hm => h.all m hm (by have h0 := hm.at_ 0 (by omega); omega)⟩
abbrev Fam (e : Nat) (miss : Int) (hs : List Hnd) (ms : List Mix) := (s : Nat) → OSl e 4 (mrows (partS miss hs ms s))
def famG (G : Nat → Heap) : Heap := (List.range 64).flatMap G
def famF (F : Nat → Value) : List Value := (List.range 64).map F
def famAdd {e : Nat} {miss : Int} {hs : List Hnd} {ms : List Mix} (os : Fam e miss hs ms) (m : Mix) (o : OSl e 4 (mrows (partS miss hs ms (missQ miss hs m)) ++ [ints m])) : Fam e miss hs (ms ++ [m]) := fun q =>
  if h : missQ miss hs m = q then o.cast (by subst h; rw [part_hit rfl]; simp) else (os q).cast (by rw [part_miss h])
theorem famAdd_hit {e : Nat} {miss : Int} {hs : List Hnd} {ms : List Mix} (os : Fam e miss hs ms) (m : Mix) (o : OSl e 4 (mrows (partS miss hs ms (missQ miss hs m)) ++ [ints m])) : (famAdd os m o (missQ miss hs m)).G = o.G ∧ (famAdd os m o (missQ miss hs m)).fs = o.fs := by
  unfold famAdd; rw [dif_pos rfl]; exact ⟨rfl, rfl⟩
theorem famAdd_miss {e : Nat} {miss : Int} {hs : List Hnd} {ms : List Mix} (os : Fam e miss hs ms) (m : Mix) (o : OSl e 4 (mrows (partS miss hs ms (missQ miss hs m)) ++ [ints m])) {q : Nat} (h : q ≠ missQ miss hs m) : (famAdd os m o q).G = (os q).G ∧ (famAdd os m o q).fs = (os q).fs := by
  unfold famAdd; rw [dif_neg (fun e => h e.symm)]; exact ⟨rfl, rfl⟩
theorem flatMap_same {α β : Type} {f g : α → List β} : ∀ {l : List α}, (∀ x ∈ l, f x = g x) → l.flatMap f = l.flatMap g
  | [], _ => rfl
  | x :: l, h => by rw [List.flatMap_cons, List.flatMap_cons, h x (by simp), flatMap_same (l := l) (fun y hy => h y (by simp [hy]))]
theorem famG_split (G : Nat → Heap) {s : Nat} (hs : s < 64) : ∃ A B, famG G = A ++ (G s ++ B) ∧ ∀ G' : Nat → Heap, (∀ q, q ≠ s → G' q = G q) → famG G' = A ++ (G' s ++ B) := by
  obtain ⟨p, t, hpt⟩ := List.append_of_mem (List.mem_range.2 hs)
  have hnd : (p ++ s :: t).Nodup := by rw [← hpt]; exact List.nodup_range
  rw [List.nodup_append] at hnd
  obtain ⟨_, h2, h3⟩ := hnd
  refine ⟨p.flatMap G, t.flatMap G, by unfold famG; rw [hpt]; simp, fun G' h => ?_⟩
  unfold famG
  rw [hpt, List.flatMap_append, List.flatMap_cons, flatMap_same (fun x hx => h x (fun e => h3 x hx s (by simp) e)), flatMap_same (l := t) (fun x hx => h x (fun e => (List.nodup_cons.1 h2).1 (by rw [← e]; exact hx)))]
theorem famF_get (F : Nat → Value) {s : Nat} (hs : s < 64) : (famF F)[0 + ((s : Nat) : Int).toNat * 1]? = some (F s) := by
  rw [show 0 + ((s : Nat) : Int).toNat * 1 = s by omega]
  simp [famF, hs]
theorem famF_set (F F' : Nat → Value) {s : Nat} (hs : s < 64) (h : ∀ q, q ≠ s → F' q = F q) : spl (famF F) (0 + ((s : Nat) : Int).toNat * 1) [F' s] = famF F' := by
  rw [show 0 + ((s : Nat) : Int).toNat * 1 = s by omega]
  have hl : s < (famF F).length := by simp [famF, hs]
  have e1 : spl (famF F) s [F' s] = (famF F).set s (F' s) := by
    unfold spl
    rw [List.set_eq_take_append_cons_drop, if_pos hl]; simp
  rw [e1]
  apply List.ext_getElem?
  intro q
  rw [List.getElem?_set]
  by_cases hq : s = q
  · subst hq; rw [if_pos rfl, if_pos hl]; simp [famF, hs]
  · rw [if_neg hq]
    unfold famF
    rw [List.getElem?_map, List.getElem?_map]
    by_cases hq2 : q < 64
    · rw [List.getElem?_range hq2]; simp [h q (fun e => hq e.symm)]
    · rw [List.getElem?_eq_none (by simp; omega)]; rfl
theorem fam_start : famF (fun _ => .slice none 0 0) = repl 64 [.slice none 0 0] := by rw [repl1]; rfl
theorem flat_single {α : Type} (f : α → Value) : ∀ l : List α, (l.map fun x => [f x]).flatten = l.map f
  | [] => rfl
  | x :: l => by rw [List.map_cons, List.flatten_cons, flat_single f l]; rfl
theorem famG_nil : famG (fun _ => []) = [] := by simp [famG]
def fsA : Value → Option Addr
  | .slice a _ _ => a
  | _ => none
def fsC : Value → Nat
  | .slice _ _ c => c
  | _ => 0
theorem OSl.form {e sz : Nat} {rows : List (List Value)} (o : OSl e sz rows) : o.fs = .slice (fsA o.fs) rows.length (fsC o.fs) ∧ ∀ {H : Heap} {R : Facts} {w : World}, St (o.G ++ H) R w → St H (RowsA (fsA o.fs) sz rows :: R) w := by
  obtain ⟨a, c, he, hf⟩ := o.freeze
  rw [he]; exact ⟨rfl, hf⟩
theorem fam_freeze {e : Nat} {miss : Int} {hs : List Hnd} {ms : List Mix} (os : Fam e miss hs ms) {H : Heap} {R : Facts} {w : World} (h : St (famG (fun s => (os s).G) ++ H) R w) : St H ((fun w => ∀ s < 64, RowsA (fsA (os s).fs) 4 (mrows (partS miss hs ms s)) w) :: R) w := by
  have h0 : St H R w := St.drop h
  refine ⟨h0.nd, h0.held, fun f hf w' hk => ?_⟩
  rcases List.mem_cons.1 hf with rfl | hf
  · intro s hs64
    obtain ⟨A, B, e1, _⟩ := famG_split (fun s => (os s).G) hs64
    rw [e1] at h
    have h1 : St ((os s).G ++ ((A ++ B) ++ H)) R w := h.perm (by
      simp only [List.append_assoc]
      exact perm_swap3 A (os s).G (B ++ H))
    have h2 := St.drop ((os s).form.2 h1)
    exact h2.fact _ (by simp) w' hk
  · exact h0.fact f hf w' hk
theorem c_All (g : Gat) (hg : 0 ≤ g.miss ∧ g.miss ≤ 20) (sg : Value) (c : Crt) (hc : c.ok) (ah : Option Addr) (ch : Nat) (H : Heap) (R : Facts) [hA : MemRows ah 5 (hrows c.hs) R] :
    Fn Tryz.prog 14 [g.v sg, c.v (c.sl ah ch)] H R (fun v H' R' => ∃ (ms : List Mix) (b : Nat) (a : Nat → Option Addr) (cc : Nat → Nat), (∀ m, m ∈ ms ↔ Mxt m) ∧ ms.length ≤ 100000 ∧ v = .slice (some ⟨b, 0, none⟩) 64 64 ∧ H' = H ∧ R' = (fun w => ∀ s < 64, RowsA (a s) 4 (mrows (partS g.miss c.hs ms s)) w) :: RowsA (some ⟨b, 0, none⟩) 1 ((List.range 64).map fun s => [Value.slice (a s) (partS g.miss c.hs ms s).length (cc s)]) :: R) := by
 refine fn_of Tryz.func14 rfl Tryz.ntmps14 rfl ?_
 refine sy_seq ?_
 refine sy_tx' [0, 1, 2] rfl ?_
 refine bx rfl rfl rfl (fun b2 => ?_)
 refine bx rfl rfl rfl (fun b3 => ?_)
 refine sp rfl (PE.assign rfl) rfl ?_
 refine sy_seq ?_
 refine sy_tx' [0, 1] rfl ?_
 refine mkS rfl ap44 zl103 rfl rfl (Nat.le_refl _) ⟨by decide, by decide⟩ rfl (fun b13 => ?_)
 refine sp rfl (PE.assign rfl) rfl ?_
 refine sy_seq ?_
 refine sy_seq ?_
 refine sy_tx' [0] rfl ?_
 refine sp rfl (PE.assign rfl) rfl ?_
 refine sy_block ?_
 refine sy_loop (ι := {x : Nat × ((ms : List Mix) × Fam 64 g.miss c.hs ms) // x.1 ≤ 41 ∧ AllI x.1 0 0 x.2.1}) (fun x => ⟨[(2, .pointer (some ⟨b2, 0, none⟩)), (3, .pointer (some ⟨b3, 0, none⟩)), (5, .slice (some ⟨b13, 0, none⟩) 64 64), (6, .int .i64 x.1.1)], (b13, cel 103 (famF (fun s => (x.1.2.2 s).fs))) :: ((famG (fun s => (x.1.2.2 s).G)) ++ (b3, cel 40 (ctl c (c.sl ah ch))) :: (b2, cel 36 (gtl g sg)) :: H), R⟩) (fun x => 41 - x.1.1) ⟨(0, ⟨[], fun s => OSl.nil _ _⟩), by omega, AllI.start⟩ ?_ (fun x => ?_)
 exact sy_at (by repeat' first | exact Sub.nil | apply Sub.cons | rfl | (simp [lk]; omega)) (fun w h => by dsimp only; rw [show famF (fun s => (OSl.nil 64 4 : OSl 64 4 []).fs) = repl 64 [.slice none 0 0] from fam_start, show famG (fun s => (OSl.nil 64 4 : OSl 64 4 []).G) = [] from famG_nil]; exact h)
 obtain ⟨⟨a, ⟨ms0, os0⟩⟩, ha, hI0⟩ := x
 dsimp only at ha hI0 os0 ⊢
 have hmany := hc.many
 refine sy_seq ?_
 refine sy_seq ?_
 refine sy_tx' [0, 1] rfl ?_
 refine sp rfl (PE.move rfl) rfl ?_
 refine sp rfl (PE.leq rfl rfl) rfl ?_
 refine sy_cond rfl (fun hc0 => ?_) (fun hc0 => ?_)
 try simp only [decide_eq_true_eq, decide_eq_false_iff_not, Bool.and_eq_true, Bool.or_eq_true, Bool.not_eq_true', Int.not_le, Int.not_lt] at hc0
 refine sy_skip ?_
 refine sy_seq ?_
 refine sy_block ?_
 refine sy_seq ?_
 refine sy_tx' [0] rfl ?_
 refine sp rfl (PE.assign rfl) rfl ?_
 refine sy_block ?_
 refine sy_loop (ι := {x : Nat × ((ms : List Mix) × Fam 64 g.miss c.hs ms) // x.1 ≤ 41 ∧ AllI a x.1 0 x.2.1}) (fun x => ⟨[(2, .pointer (some ⟨b2, 0, none⟩)), (3, .pointer (some ⟨b3, 0, none⟩)), (5, .slice (some ⟨b13, 0, none⟩) 64 64), (6, .int .i64 a), (7, .int .i64 x.1.1)], (b13, cel 103 (famF (fun s => (x.1.2.2 s).fs))) :: ((famG (fun s => (x.1.2.2 s).G)) ++ (b3, cel 40 (ctl c (c.sl ah ch))) :: (b2, cel 36 (gtl g sg)) :: H), R⟩) (fun x => 41 - x.1.1) ⟨(0, ⟨ms0, os0⟩), by omega, hI0⟩ ?_ (fun x => ?_)
 exact sy_at (by repeat' first | exact Sub.nil | apply Sub.cons | rfl | (simp [lk]; omega)) (fun _ h => h)
 obtain ⟨⟨b, ⟨ms1, os1⟩⟩, hb, hI1⟩ := x
 dsimp only at hb hI1 os1 ⊢
 refine sy_seq ?_
 refine sy_seq ?_
 refine sy_tx' [0, 1, 2, 3] rfl ?_
 refine sp rfl (PE.move rfl) rfl ?_
 refine sp rfl (PE.move rfl) rfl ?_
 refine sp rfl (PE.add rfl rfl (by omega)) rfl ?_
 refine sp rfl (PE.leq rfl rfl) rfl ?_
 refine sy_cond rfl (fun hc1 => ?_) (fun hc1 => ?_)
 try simp only [decide_eq_true_eq, decide_eq_false_iff_not, Bool.and_eq_true, Bool.or_eq_true, Bool.not_eq_true', Int.not_le, Int.not_lt] at hc1
 refine sy_skip ?_
 refine sy_seq ?_
 refine sy_block ?_
 refine sy_seq ?_
 refine sy_tx' [0] rfl ?_
 refine sp rfl (PE.assign rfl) rfl ?_
 refine sy_block ?_
 refine sy_loop (ι := {x : Nat × ((ms : List Mix) × Fam 64 g.miss c.hs ms) // x.1 ≤ 41 ∧ AllI a b x.1 x.2.1}) (fun x => ⟨[(2, .pointer (some ⟨b2, 0, none⟩)), (3, .pointer (some ⟨b3, 0, none⟩)), (5, .slice (some ⟨b13, 0, none⟩) 64 64), (6, .int .i64 a), (7, .int .i64 b), (8, .int .i64 x.1.1)], (b13, cel 103 (famF (fun s => (x.1.2.2 s).fs))) :: ((famG (fun s => (x.1.2.2 s).G)) ++ (b3, cel 40 (ctl c (c.sl ah ch))) :: (b2, cel 36 (gtl g sg)) :: H), R⟩) (fun x => 41 - x.1.1) ⟨(0, ⟨ms1, os1⟩), by omega, hI1⟩ ?_ (fun x => ?_)
 exact sy_at (by repeat' first | exact Sub.nil | apply Sub.cons | rfl | (simp [lk]; omega)) (fun _ h => h)
 obtain ⟨⟨d, ⟨ms, os⟩⟩, hd, hI⟩ := x
 dsimp only at hd hI os ⊢
 refine sy_seq ?_
 refine sy_seq ?_
 refine sy_tx' [0, 1, 2, 3, 4, 5] rfl ?_
 refine sp rfl (PE.move rfl) rfl ?_
 refine sp rfl (PE.move rfl) rfl ?_
 refine sp rfl (PE.add rfl rfl (by omega)) rfl ?_
 refine sp rfl (PE.move rfl) rfl ?_
 refine sp rfl (PE.add rfl rfl (by omega)) rfl ?_
 refine sp rfl (PE.leq rfl rfl) rfl ?_
 refine sy_cond rfl (fun hc2 => ?_) (fun hc2 => ?_)
 try simp only [decide_eq_true_eq, decide_eq_false_iff_not, Bool.and_eq_true, Bool.or_eq_true, Bool.not_eq_true', Int.not_le, Int.not_lt] at hc2
 have hsum : a + b + d ≤ 40 := by omega
 have hmx := mixOf_ok hsum
 have hIl := hI.len
 refine sy_skip ?_
 refine sy_seq ?_
 refine sy_block ?_
 refine sy_seq ?_
 refine sy_tx' [0, 1, 2, 3, 4, 5, 6, 7, 8, 9, 10, 11] rfl ?_
 refine sp rfl (PE.move rfl) rfl ?_
 refine sp rfl (PE.move rfl) rfl ?_
 refine sp rfl (PE.move rfl) rfl ?_
 refine sp rfl (PE.move rfl) rfl ?_
 refine sp rfl (PE.sub rfl rfl (by omega)) rfl ?_
 refine sp rfl (PE.move rfl) rfl ?_
 refine sp rfl (PE.sub rfl rfl (by omega)) rfl ?_
 refine sp rfl (PE.move rfl) rfl ?_
 refine sp rfl (PE.sub rfl rfl (by omega)) rfl ?_
 refine sp rfl (PE.buildArr (out := [_, _, _, _]) ar64 zl64 rfl rfl) rfl ?_
 refine alc rfl zl64 rfl (fun b9 => ?_)
 refine sto rfl rfl rfl cn64 rfl rfl rfl rfl ?_
 refine sy_seq ?_
 refine sy_tx' [0, 1] rfl ?_
 refine sp rfl (PE.assign rfl) rfl ?_
 refine sp rfl (PE.assign rfl) rfl ?_
 refine sy_seq ?_
 refine sy_seq ?_
 refine sy_tx' [0] rfl ?_
 refine sp rfl (PE.assign rfl) rfl ?_
 refine sy_block ?_
 refine sy_loop (ι := {i : Nat // i ≤ c.hs.length}) (fun i => ⟨[(2, .pointer (some ⟨b2, 0, none⟩)), (3, .pointer (some ⟨b3, 0, none⟩)), (5, .slice (some ⟨b13, 0, none⟩) 64 64), (6, .int .i64 a), (7, .int .i64 b), (8, .int .i64 d), (9, .pointer (some ⟨b9, 0, none⟩)), (10, .int .i64 (missN g.miss c.hs (mixOf a b d) i.1 : Nat)), (11, .int .i64 ((2 ^ i.1 : Nat) : Int)), (12, .int .i64 i.1)], (b9, cel 64 (ints (mixOf a b d))) :: (b13, cel 103 (famF (fun s => (os s).fs))) :: ((famG (fun s => (os s).G)) ++ (b3, cel 40 (ctl c (c.sl ah ch))) :: (b2, cel 36 (gtl g sg)) :: H), R⟩) (fun i => c.hs.length - i.1) ⟨0, by omega⟩ ?_ (fun i => ?_)
 exact sy_at (by repeat' first | exact Sub.nil | apply Sub.cons | rfl | (simp [lk]; omega)) (fun _ h => h)
 obtain ⟨i, hi⟩ := i
 dsimp only at hi ⊢
 have hml := missN_lt g.miss c.hs (mixOf a b d) i
 have h2p : 2 ^ i ≤ 2 ^ 6 := Nat.pow_le_pow_right (by decide) (by omega)
 have hps : 2 ^ (i + 1) = 2 ^ i + 2 ^ i := by rw [Nat.pow_succ]; omega
 refine sy_seq ?_
 refine sy_seq ?_
 refine sy_tx' [0, 1, 2, 3, 4] rfl ?_
 refine sp rfl (PE.move rfl) rfl ?_
 refine sp rfl (PE.fieldAddr fo40_2 rfl) rfl ?_
 refine spL rfl rfl (lh sc38 rfl rfl) rfl ?_
 refine sp rfl (PE.lenSl isl38 rfl) rfl ?_
 refine sp rfl (PE.lss rfl rfl) rfl ?_
 refine sy_cond rfl (fun hc3 => ?_) (fun hc3 => ?_)
 try simp only [decide_eq_true_eq, decide_eq_false_iff_not, Bool.and_eq_true, Bool.or_eq_true, Bool.not_eq_true', Int.not_le, Int.not_lt] at hc3
 obtain ⟨x, hx⟩ : ∃ x, c.hs[i]? = some x := ⟨_, List.getElem?_eq_getElem (by omega)⟩
 refine sy_addr (a := ah) (sz := 5) (rows := hrows c.hs) (by intro h0; simp [hrows] at h0; simp [h0] at hx) (fun ba oa hea => ?_)
 subst hea
 refine sy_skip ?_
 refine sy_seq ?_
 refine sy_block ?_
 refine sy_seq ?_
 refine sy_seq ?_
 refine sy_draw [0, 0, 2, 0, 14, 30, 0, 127, 255] (.ld 0 (.tk 1 (.ld 2 (.tk 3 (.tk 4 (.ld 5 (.ld 6 (.big 7 (.tk 8 .done))))))))) mixed (by kernel_rfl) ?_
 refine ld rfl rfl (lhA [_, _, _] ag36 rfl rfl rfl) rfl ?_
 refine tk rfl (PE.fieldAddr fo40_2 rfl) rfl ?_
 refine ld rfl rfl (lh sc38 rfl rfl) rfl ?_
 refine tk rfl (PE.move rfl) rfl ?_
 refine tk rfl (PE.indexAddr el38 rfl rfl (by omega) (by omega)) rfl ?_
 refine ld rfl rfl (lfA ag99 (row := hrow x) (hr_get (by simpa using hx)) rfl) rfl ?_
 refine ld rfl rfl (lhA (ints (mixOf a b d)) ag64 rfl (rest := []) (by rw [List.append_nil]; rfl) (by rw [ints_length]; exact rfl)) rfl ?_
 refine clV rfl cal49 rfl rfl (c_rFit g hg sg x (hc.hs x (List.mem_of_getElem? hx)) (mixOf a b d) hmx _ _) ?_
 refine bg (fun w hs => ⟨trivial, trivial, trivial, trivial, trivial⟩) ?_
 refine tk rfl (PE.not rfl) rfl ?_
 refine sy_cond rfl (fun hc4 => ?_) (fun hc4 => ?_)
 have hf0 : fitB g.miss x (mixOf a b d) = false := by simpa using hc4
 have hst : missN g.miss c.hs (mixOf a b d) (i + 1) = missN g.miss c.hs (mixOf a b d) i + 2 ^ i := by rw [missN, hx]; simp only [hf0, cond_false]
 refine sy_tx' [0, 1, 2, 3] rfl ?_
 refine sp rfl (PE.move rfl) rfl ?_
 refine sp rfl (PE.move rfl) rfl ?_
 refine sp rfl (PE.add rfl rfl (by omega)) rfl ?_
 refine sp rfl (PE.assign rfl) rfl ?_
 refine sy_tx' [0, 1, 2] rfl ?_
 refine sp rfl (PE.move rfl) rfl ?_
 refine sp rfl (PE.mul rfl rfl (by omega)) rfl ?_
 refine sp rfl (PE.assign rfl) rfl ?_
 refine sy_tx' [0, 1, 2] rfl ?_
 refine sp rfl (PE.move rfl) rfl ?_
 refine sp rfl (PE.add rfl rfl (by omega)) rfl ?_
 refine sp rfl (PE.assign rfl) rfl ?_
 exact sy_next ⟨i + 1, by omega⟩ (by dsimp only; omega) (by dsimp only; rw [hst, show ((2 ^ (i + 1) : Nat) : Int) = 2 * ((2 ^ i : Nat) : Int) from by rw [hps]; omega]; exact (by repeat' first | exact Sub.nil | apply Sub.cons | rfl | (simp [lk]; omega))) (fun _ h => h)
 have hf0 : fitB g.miss x (mixOf a b d) = true := by simpa using hc4
 have hst : missN g.miss c.hs (mixOf a b d) (i + 1) = missN g.miss c.hs (mixOf a b d) i := by rw [missN, hx]; simp only [hf0, cond_true, Nat.add_zero]
 refine sy_skip ?_
 refine sy_tx' [0, 1, 2] rfl ?_
 refine sp rfl (PE.move rfl) rfl ?_
 refine sp rfl (PE.mul rfl rfl (by omega)) rfl ?_
 refine sp rfl (PE.assign rfl) rfl ?_
 refine sy_tx' [0, 1, 2] rfl ?_
 refine sp rfl (PE.move rfl) rfl ?_
 refine sp rfl (PE.add rfl rfl (by omega)) rfl ?_
 refine sp rfl (PE.assign rfl) rfl ?_
 exact sy_next ⟨i + 1, by omega⟩ (by dsimp only; omega) (by dsimp only; rw [hst, show ((2 ^ (i + 1) : Nat) : Int) = 2 * ((2 ^ i : Nat) : Int) from by rw [hps]; omega]; exact (by repeat' first | exact Sub.nil | apply Sub.cons | rfl | (simp [lk]; omega))) (fun _ h => h)
 try simp only [decide_eq_true_eq, decide_eq_false_iff_not, Bool.and_eq_true, Bool.or_eq_true, Bool.not_eq_true', Int.not_le, Int.not_lt] at hc3
 obtain rfl : i = c.hs.length := by omega
 obtain ⟨s, hs⟩ : ∃ s, s = missQ g.miss c.hs (mixOf a b d) := ⟨_, rfl⟩
 have hs64 : s < 64 := by rw [hs]; exact missQ_lt hmany
 rw [show missN g.miss c.hs (mixOf a b d) c.hs.length = s from hs.symm]
 refine sy_exit ?_
 repeat refine sy_tx ?_
 refine sy_bx ?_
 refine sy_draw [0, 0, 0, 0, 12, 28, 0, 64, 252, 511, 1023] (.tk 0 (.tk 1 (.tk 2 (.tk 3 (.tk 4 (.ld 5 (.ld 6 (.big 7 (.big 8 (.tk 9 (.big 10 .done))))))))))) mixed (by kernel_rfl) ?_
 refine tk rfl (PE.move rfl) rfl ?_
 refine tk rfl (PE.move rfl) rfl ?_
 refine tk rfl (PE.move rfl) rfl ?_
 refine tk rfl (PE.move rfl) rfl ?_
 refine tk rfl (PE.indexAddr el44 rfl rfl (by omega) (by omega)) rfl ?_
 refine ld rfl rfl (lh sc103 rfl (famF_get (fun s => (os s).fs) hs64)) rfl ?_
 refine ld rfl rfl (lhA (ints (mixOf a b d)) ag64 rfl (rest := []) (by rw [List.append_nil]; rfl) (by rw [ints_length]; exact rfl)) rfl ?_
 refine bsl (out := [_, _, _, _]) rfl sl103 zl64 rfl rfl rfl rfl rfl rfl (fun b70 => ?_)
 refine bg (fun w hs => ⟨trivial, (lh sc103 rfl (famF_get (fun s => (os s).fs) hs64)) w hs, trivial⟩) ?_
 obtain ⟨A, B, e1, e2⟩ := famG_split (fun s => (os s).G) hs64
 rw [e1]
 refine Sy.heap (H' := (b70, cel 64 (ints (mixOf a b d))) :: (b9, cel 64 (ints (mixOf a b d))) :: (b13, cel 103 (famF (fun s => (os s).fs))) :: (A ++ ((os s).G ++ (B ++ (b3, cel 40 (ctl c (c.sl ah ch))) :: (b2, cel 36 (gtl g sg)) :: H)))) (fun w h => by have h9 := h; simp only [List.append_assoc] at h9; exact h9) ?_
 have hpl : (partS g.miss c.hs ms s).length ≤ ms.length := List.length_filter_le _ _
 refine apO (os s) rfl ap103 rfl rfl (rowsH (row := ints (mixOf a b d)) rfl) rfl rfl ((by simp only [mrows, List.length_map, List.length_singleton]; omega)) rfl (fun o71 => ?_)
 refine bg (fun w hs => ⟨trivial, trivial⟩) ?_
 refine tk rfl (PE.indexAddr el44 rfl rfl (by omega) (by omega)) rfl ?_
 subst hs
 obtain ⟨hq1, hq2⟩ := famAdd_hit os (mixOf a b d) o71
 have hq3 := e2 (fun q => (famAdd os (mixOf a b d) o71 q).G) (fun q hq => (famAdd_miss os (mixOf a b d) o71 hq).1)
 rw [hq1] at hq3
 refine stoE (l' := famF (fun q => (famAdd os (mixOf a b d) o71 q).fs)) rfl rfl rfl cn103 rfl (by rw [o71.cells.1]; first | done | rfl) (by rw [o71.cells.1]; simp [o71.cells.2]) (by rw [o71.cells.1, ← hq2]; exact famF_set (fun q => (os q).fs) (fun q => (famAdd os (mixOf a b d) o71 q).fs) hs64 (fun q hq => (famAdd_miss os (mixOf a b d) o71 hq).2)) (by rw [o71.cells.1]; simp [famF]; omega) ?_
 refine bg (fun w hs => trivial) ?_
 refine sy_tx' [0, 1, 2] rfl ?_
 refine sp rfl (PE.move rfl) rfl ?_
 refine sp rfl (PE.add rfl rfl (by omega)) rfl ?_
 refine sp rfl (PE.assign rfl) rfl ?_
 exact sy_next ⟨(d + 1, ⟨ms ++ [mixOf a b d], famAdd os (mixOf a b d) o71⟩), by dsimp only; omega, hI.more hsum⟩ (by dsimp only; omega) (by repeat' first | exact Sub.nil | apply Sub.cons | rfl | (simp [lk]; omega)) (fun w h => by
   dsimp only
   rw [hq3]
   have h9 := (h.del b70).del b9
   simp only [List.append_assoc] at h9 ⊢
   exact h9)
 try simp only [decide_eq_true_eq, decide_eq_false_iff_not, Bool.and_eq_true, Bool.or_eq_true, Bool.not_eq_true', Int.not_le, Int.not_lt] at hc2
 refine sy_exit ?_
 repeat refine sy_tx ?_
 refine sy_bx ?_
 refine sy_tx' [0, 1, 2] rfl ?_
 refine sp rfl (PE.move rfl) rfl ?_
 refine sp rfl (PE.add rfl rfl (by omega)) rfl ?_
 refine sp rfl (PE.assign rfl) rfl ?_
 exact sy_next ⟨(b + 1, ⟨ms, os⟩), by dsimp only; omega, hI.next (by omega) hd⟩ (by dsimp only; omega) (by repeat' first | exact Sub.nil | apply Sub.cons | rfl | (simp [lk]; omega)) (fun _ h => h)
 try simp only [decide_eq_true_eq, decide_eq_false_iff_not, Bool.and_eq_true, Bool.or_eq_true, Bool.not_eq_true', Int.not_le, Int.not_lt] at hc1
 refine sy_exit ?_
 repeat refine sy_tx ?_
 refine sy_bx ?_
 refine sy_tx' [0, 1, 2] rfl ?_
 refine sp rfl (PE.move rfl) rfl ?_
 refine sp rfl (PE.add rfl rfl (by omega)) rfl ?_
 refine sp rfl (PE.assign rfl) rfl ?_
 exact sy_next ⟨(a + 1, ⟨ms1, os1⟩), by dsimp only; omega, hI1.down (by omega) hb⟩ (by dsimp only; omega) (by repeat' first | exact Sub.nil | apply Sub.cons | rfl | (simp [lk]; omega)) (fun _ h => h)
 try simp only [decide_eq_true_eq, decide_eq_false_iff_not, Bool.and_eq_true, Bool.or_eq_true, Bool.not_eq_true', Int.not_le, Int.not_lt] at hc0
 obtain rfl : a = 41 := by omega
 refine sy_exit ?_
 repeat refine sy_tx ?_
 refine sy_bx ?_
 refine sy_seq ?_
 refine sy_tx' [0, 1] rfl ?_
 refine sp rfl (PE.move rfl) rfl ?_
 refine sp rfl (PE.assign rfl) rfl ?_
 refine sy_ret ?_
 have hdone := hI0.done
 refine Sy.heap (fun w h => St.rows (sz := 1) (rows := (List.range 64).map fun s => [(os0 s).fs]) (rest := []) (by rw [List.append_nil, show ((List.range 64).map fun s => [(os0 s).fs]).flatten = famF (fun s => (os0 s).fs) from flat_single _ _]; exact h) (by intro r hr; obtain ⟨s, _, rfl⟩ := List.mem_map.1 hr; rfl)) ?_
 refine Sy.heap (fun w h => fam_freeze os0 h) ?_
 exact sy_return (vs := [_]) rfl (.cons (RV.tmp rfl) .nil) rfl ⟨ms0, b13, fun s => fsA (os0 s).fs, fun s => fsC (os0 s).fs, hdone, by have := hI0.len; omega, rfl, rfl, by
   have e9 : ((List.range 64).map fun s => [(os0 s).fs]) = ((List.range 64).map fun s => [Value.slice (fsA (os0 s).fs) (partS g.miss c.hs ms0 s).length (fsC (os0 s).fs)]) := List.map_congr_left fun s _ => by
     have := (os0 s).form.1
     rw [List.length_map] at this
     rw [← this]
   rw [e9]⟩ (fun w h => (h.del b3).del b2)
end Go.Proofs.YtknoaljnelfklaaGreat
namespace Go.Proofs.YtknoaljnelfklaaGreat
set_option linter.unusedSimpArgs false
set_option linter.unusedVariables false
open Go
theorem isl103 : isSl Tryz.prog 103 = true := by kernel_rfl
end Go.Proofs.YtknoaljnelfklaaGreat
namespace Go.Proofs.YtknoaljnelfklaaGreat
set_option linter.unusedSimpArgs false
set_option linter.unusedVariables false
open Go
theorem cal14 : cal Tryz.prog 14 = true := by kernel_rfl
theorem both_ok {g : Gat} {c : Crt} (h : bothE g c = 0) : g.ok ∧ c.ok := by
  have hg : g.check = 0 := by
    by_cases h1 : g.check = 0
    · exact h1
    · unfold bothE at h; rw [decide_eq_true h1] at h; exact absurd h h1
  refine ⟨gat_ok.1 hg, crt_ok.1 ?_⟩
  unfold bothE at h; rw [hg] at h; exact h
end Go.Proofs.YtknoaljnelfklaaGreat
namespace Go.Proofs.YtknoaljnelfklaaGreat
set_option linter.unusedSimpArgs false
set_option linter.unusedVariables false
open Go
theorem cal23 : cal Tryz.prog 23 = true := by kernel_rfl
theorem c_Eq_int (xs ys : List Int) (a a2 : Option Addr) (c c2 : Nat) (hl : xs.length ≤ 9223372036854775807) (hl2 : ys.length ≤ 9223372036854775807) (H : Heap) (R : Facts) [hR : MemRows a 1 (irows xs) R] [hR2 : MemRows a2 1 (irows ys) R] :
    FnV Tryz.prog 23 [.slice a xs.length c, .slice a2 ys.length c2] H R (.bool (decide (xs = ys))) := by
 refine fn_of Tryz.func23 rfl Tryz.ntmps23 rfl ?_
 refine sy_seq ?_
 refine sy_tx' [0] rfl ?_
 refine sp rfl (PE.assign rfl) rfl ?_
 refine sy_seq ?_
 refine sy_tx' [0, 1, 2, 3] rfl ?_
 refine sp rfl (PE.move rfl) rfl ?_
 refine sp rfl (PE.move rfl) rfl ?_
 refine clV rfl cal44 rfl rfl (c_eq_int xs ys a a2 c c2 hl hl2 _ _) ?_
 refine sp rfl (PE.assign rfl) rfl ?_
 refine sy_ret ?_
 exact sy_return (vs := [_]) rfl (.cons (RV.tmp rfl) .nil) rfl ⟨rfl, rfl, rfl⟩ drp
end Go.Proofs.YtknoaljnelfklaaGreat
