/- Walks of the functions of the program, and the laws that join them: what the last theorem of this claim needs, in order. -/
import Derived.Test.Ythhdgeibokecjaabc3
namespace Go.Proofs.Ythhdgeibokecjaa.Bd
set_option linter.unusedSimpArgs false
set_option linter.unusedVariables false
open Go
theorem Zct : cal Try.prog 74 = true := by kernel_rfl
theorem Zch : cal Try.prog 85 = true := by kernel_rfl
theorem Z5t (xs ys : List Int) (a a2 : Option Addr) (c c2 : Nat) (hl : xs.length ≤ 9223372036854775807) (hl2 : ys.length ≤ 9223372036854775807) (H : Z7) (R : Z4) [hR : MemRows a 1 (Zv xs) R] [hR2 : MemRows a2 1 (Zv ys) R] :
    FnV Try.prog 54 [.slice a xs.length c, .slice a2 ys.length c2] H R (.bool (decide (xs = ys))) := by
 refine Zb Try.func54 rfl Try.ntmps54 rfl ?_
 refine sqt 1 rfl (pur 1 rfl (Z0 (sqt 5 rfl (pur 1 rfl (sp rfl (PE.lenSl Z1b rfl) rfl (pur 1 rfl (sp rfl (PE.lenSl Z1b rfl) rfl (pur 1 rfl ?_))))))))
 refine Z2 rfl ?_ ?_ <;> intro hc0
 have hne : xs ≠ ys := fun e => by subst e; simp at hc0
 refine sqt 1 rfl (pur 1 rfl (Z1 ?_))
 exact rtA rfl rfl rfl ⟨by first | (simp only [Zu]; rw [dT heq]; done) | (simp only [Zu]; rw [dF hne]), rfl, rfl⟩ idH
 have hle : xs.length = ys.length := by simp only [cS] at hc0; omega
 refine Z5 (Z0 (sqt 3 rfl (pur 1 rfl (sp rfl (PE.lenSl Z1b rfl) rfl (pur 1 rfl (Z3 ?_))))))
 refine Zj (ι := {k : Nat // k ≤ xs.length ∧ xs.take k = ys.take k}) (fun k => ⟨[(0, .slice a xs.length c), (1, .slice a2 ys.length c2), (12, .int .i64 xs.length), (13, .int .i64 k.1)], H, R⟩) (fun k => xs.length - k.1) ⟨0, by simp⟩ ?_ (fun k => ?_)
 exact Zr idH
 obtain ⟨k, hk, hn⟩ := k
 dsimp only
 refine sqt 1 rfl (pur 1 rfl (Z0 ?_))
 refine Z2 rfl ?_ ?_ <;> intro hc1
 simp only [cS] at hc1
 obtain ⟨x, hx⟩ : ∃ x, xs[k]? = some x := ⟨_, List.getElem?_eq_getElem (by omega)⟩
 obtain ⟨z, hz⟩ : ∃ z, ys[k]? = some z := ⟨_, List.getElem?_eq_getElem (by omega)⟩
 refine ZE (a := a) (sz := 1) (rows := Zv xs) (by intro h0; simp [Zv] at h0; simp [h0] at hx) (fun b off he => ?_)
 subst he
 refine ZE (a := a2) (sz := 1) (rows := Zv ys) (by intro h0; simp [Zv] at h0; simp [h0] at hz) (fun b2 off2 he => ?_)
 subst he
 refine Z5 (Z0 (Z3 (sqt 2 rfl (pur 2 rfl (Z0 ?_)))))
 refine Z8 [0, 0, 3, 7, 0, 0, 48, 112, 255] (tks 0 3 (.ld 3 (tks 4 3 (.ld 7 (.tk 8 .done))))) Zk (by kernel_rfl) ?_
 refine Za 2 rfl (tk rfl (PE.indexAddr Z4i rfl rfl (by omega) (by omega)) rfl (ld rfl rfl (lf0 sc3 (by simp [Zv, hx]; rfl) rfl) rfl (Za 2 rfl (tk rfl (PE.indexAddr Z4i rfl rfl (by omega) (by omega)) rfl (ld rfl rfl (lf0 sc3 (by simp [Zv, hz]; rfl) rfl) rfl (Za 1 rfl ?_))))))
 refine Z2 rfl ?_ ?_ <;> intro hc2
 have hne : xs ≠ ys := fun e => by subst e; rw [hx] at hz; cases hz; simp at hc2
 refine sqt 1 rfl (pur 1 rfl (Z1 ?_))
 exact rtA rfl rfl rfl ⟨by first | (simp only [Zu]; rw [dT heq]; done) | (simp only [Zu]; rw [dF hne]), rfl, rfl⟩ idH
 have hxz : x = z := by simpa using hc2
 refine Z5 (sqr 2 rfl (sp rfl (PE.add rfl rfl (by omega)) rfl (pur 1 rfl ?_)))
 exact ZC ⟨k + 1, by omega, by rw [List.take_add_one, List.take_add_one, hn, hx, hz, hxz]⟩ idH
 simp only [cS] at hc1
 obtain rfl : k = xs.length := by omega
 have heq : xs = ys := by
   rw [List.take_length] at hn
   exact hn.trans (by rw [hle]; exact List.take_length)
 refine Zg (Zh (Zh (ZJ (sqt 1 rfl (pur 1 rfl (Z1 ?_))))))
 exact rtA rfl rfl rfl ⟨by first | (simp only [Zu]; rw [dT heq]; done) | (simp only [Zu]; rw [dF hne]), rfl, rfl⟩ idH
theorem Zb4 (n : Int) (H : Z7) (R : Z4) :
    FnV Try.prog 85 [.int .i64 n] H R (.bool (inb n 0 1000)) := by
 refine Zb Try.func85 rfl Try.ntmps85 rfl ?_
 refine sqt 1 rfl (pur 1 rfl (sqt 3 rfl (pur 1 rfl ?_)))
 refine clV rfl Z0Y rfl rfl (Z1B _ _ _ _ _) ?_
 refine pur 1 rfl (Z1 ?_)
 exact rtA rfl rfl rfl ⟨rfl, rfl, rfl⟩ drp
theorem Z9z (s : Int) (ws : List Int) (a : Option Addr) (c : Nat) (hl : ws.length ≤ 9223372036854775807) (H : Z7) (R : Z4) [hR : MemRows a 1 (Zv ws) R] :
    FnV Try.prog 74 [.int .i64 s, .slice a ws.length c] H R (.int .i64 (Z5T s ws)) := by
 refine Zb Try.func74 rfl Try.ntmps74 rfl ?_
 refine sqt 1 rfl (pur 1 rfl (Z0 (Z3 (sqt 4 rfl (pur 1 rfl (sp rfl (PE.lenSl Z1b rfl) rfl (pur 2 rfl ?_)))))))
 refine Z2 rfl ?_ ?_ <;> intro hc0
 have h8 : decide (8 < ws.length) = true := by simp only [decide_eq_true_eq] at hc0 ⊢; omega
 refine sqt 1 rfl (pur 1 rfl (Z1 ?_))
 exact rtA rfl rfl rfl ⟨congrArg (Value.int .i64) (by simp_all only [Z5T, inb, cond_true, cond_false, Bool.not_true, Bool.not_false, Bool.not_eq_true', Bool.not_eq_false']), rfl, rfl⟩ drp
 have h8 : decide (8 < ws.length) = false := by simp only [decide_eq_false_iff_not] at hc0 ⊢; omega
 refine sqt 9 rfl (pur 1 rfl ?_)
 refine clV rfl Z0Y rfl rfl (Z1B _ _ _ _ _) ?_
 refine pur 2 rfl ?_
 refine ZR 13 rfl ?_ ?_ <;> intro g13
 refine pur 5 rfl ?_
 refine Zw rfl ?_
 refine sqt 1 rfl (pur 1 rfl (Z1 ?_))
 exact rtA rfl rfl rfl ⟨congrArg (Value.int .i64) (by simp_all only [Z5T, inb, cond_true, cond_false, Bool.not_true, Bool.not_false, Bool.not_eq_true', Bool.not_eq_false']), rfl, rfl⟩ drp
 refine pur 1 rfl ?_
 refine Z1M rfl rfl rfl rfl ZaG rfl rfl (Z0e ws a c 85 [] [] (fun n => inb n 0 1000) Zch hl _ _ (fun _ x _ => Zb4 x _ _)) ?_
 refine pur 3 rfl ?_
 refine Z2 rfl ?_ ?_ <;> intro hc1
 refine sqt 1 rfl (pur 1 rfl (Z1 ?_))
 exact rtA rfl rfl rfl ⟨congrArg (Value.int .i64) (by simp_all only [Z5T, inb, cond_true, cond_false, Bool.not_true, Bool.not_false, Bool.not_eq_true', Bool.not_eq_false']), rfl, rfl⟩ drp
 refine Z5 (sqt 1 rfl (pur 1 rfl (Z1 ?_)))
 exact rtA rfl rfl rfl ⟨congrArg (Value.int .i64) (by simp_all only [Z5T, inb, cond_true, cond_false, Bool.not_true, Bool.not_false, Bool.not_eq_true', Bool.not_eq_false']), rfl, rfl⟩ drp
theorem Z9m (s : Int) (ws : List Int) (a : Option Addr) (c : Nat) (hl : ws.length ≤ 9223372036854775807) (H : Z7) (R : Z4) [hR : MemRows a 1 (Zv ws) R] :
    Fn Try.prog 53 [.int .i64 s, .slice a ws.length c] H R (fun v H' R' => ((Z5T s ws ≠ 0 ∧ v = .tuple #[.slice none 0 0, .int .i64 (Z5T s ws)] ∧ H' = H) ∨
      (Z5T s ws = 0 ∧ ∃ j b, (Z0m ws j (Zl s ws)).g = false ∧ v = .tuple #[.slice (some ⟨b, 0, none⟩) ws.length ws.length, .int .i64 0] ∧ H' = (b, cel 3 (Zc (Z0m ws j (Zl s ws)).o)) :: H)) ∧ R' = R) := by
 refine Zb Try.func53 rfl Try.ntmps53 rfl ?_
 refine sqt 2 rfl (pur 2 rfl (Z0 (sqt 4 rfl (pur 2 rfl ?_))))
 refine clV rfl Zct rfl rfl (Z9z s ws a c hl _ _) ?_
 refine pur 1 rfl (sqt 2 rfl (pur 2 rfl ?_))
 refine Z2 rfl ?_ ?_ <;> intro hc0
 have hck : Z5T s ws ≠ 0 := by simpa using hc0
 refine sqt 3 rfl (pur 3 rfl (Z1 ?_))
 first | exact rtB rfl rfl rfl rfl ⟨.inl ⟨hck, rfl, rfl⟩, rfl⟩ idH | exact rtB rfl rfl rfl rfl ⟨.inr ⟨hck, j, b19, hc1, rfl, rfl⟩, rfl⟩ idH
 have hck : Z5T s ws = 0 := by simpa using hc0
 obtain ⟨hi1, hi2, hi3, hi4⟩ := Z6u hck
 refine Z5 (sqt 4 rfl (pur 1 rfl (sp rfl (PE.lenSl Z1b rfl) rfl ?_)))
 refine mkS rfl Zbi zl3 rfl rfl (Nat.le_refl _) ⟨by omega, by omega⟩ rfl (fun b19 => ?_)
 rw [Zbz]
 refine pur 1 rfl (Z0 (sqt 1 rfl (pur 1 rfl (Z3 ?_))))
 refine Zj (ι := Nat) (fun j => ⟨[(0, .int .i64 (Z0m ws j (Zl s ws)).s), (1, .slice a ws.length c), (7, .slice (some ⟨b19, 0, none⟩) ws.length ws.length), (8, .bool (Z0m ws j (Zl s ws)).g)], (b19, cel 3 (Zc (Z0m ws j (Zl s ws)).o)) :: H, R⟩) (fun j => 2 * (Z0m ws j (Zl s ws)).s.toNat + if (Z0m ws j (Zl s ws)).g = true then 1 else 0) 0 ?_ (fun j => ?_)
 exact Zr idH
 have hj := Z4q j _ hi1
 have hsj := hj.s
 dsimp only
 refine Z0 (sqt 1 rfl (pur 1 rfl ?_))
 refine Z2 rfl ?_ ?_ <;> intro hc1
 refine Z5 (Z3 (sqt 1 rfl (pur 1 rfl (sqt 3 rfl (pur 1 rfl (sp rfl (PE.lenSl Z1b rfl) rfl (pur 1 rfl (Z3 ?_))))))))
 refine Zj (ι := {k : Nat // k ≤ ws.length}) (fun k => ⟨[(0, .int .i64 ((List.range k.1).foldl (ShS.step ws) { Z0m ws j (Zl s ws) with g := false }).s), (1, .slice a ws.length c), (7, .slice (some ⟨b19, 0, none⟩) ws.length ws.length), (8, .bool ((List.range k.1).foldl (ShS.step ws) { Z0m ws j (Zl s ws) with g := false }).g), (21, .slice a ws.length c), (22, .int .i64 ws.length), (23, .int .i64 k.1)], (b19, cel 3 (Zc ((List.range k.1).foldl (ShS.step ws) { Z0m ws j (Zl s ws) with g := false }).o)) :: H, R⟩) (fun k => ws.length - k.1) ⟨0, by omega⟩ ?_ (fun k => ?_)
 exact Zr idH
 obtain ⟨k, hk⟩ := k
 dsimp only
 have e : (List.range (k + 1)).foldl (ShS.step ws) { Z0m ws j (Zl s ws) with g := false } = ((List.range k).foldl (ShS.step ws) { Z0m ws j (Zl s ws) with g := false }).step ws k := by rw [List.range_succ, List.foldl_append]; rfl
 have hok := Z3a (List.range k) { Z0m ws j (Zl s ws) with g := false } ⟨hj.len, hj.s, hj.m⟩
 have hke : k = ws.length → (List.range k).foldl (ShS.step ws) { Z0m ws j (Zl s ws) with g := false } = (Z0m ws j (Zl s ws)).pass ws := fun h => by subst h; rfl
 generalize (List.range k).foldl (ShS.step ws) { Z0m ws j (Zl s ws) with g := false } = τ at e hok hke ⊢
 have hso := hok.s
 refine sqt 1 rfl (pur 1 rfl (Z0 ?_))
 refine Z2 rfl ?_ ?_ <;> intro hc2
 simp only [cS] at hc2
 obtain ⟨n, hn⟩ : ∃ n, ws[k]? = some n := ⟨_, List.getElem?_eq_getElem (by omega)⟩
 obtain ⟨m, hm⟩ : ∃ m, τ.o[k]? = some m := ⟨_, List.getElem?_eq_getElem (by rw [hok.len]; omega)⟩
 have hmn := hok.m k m n hm hn
 have hn1 := hi3 n (List.mem_of_getElem? hn)
 refine ZE (a := a) (sz := 1) (rows := Zv ws) (by intro h0; simp [Zv] at h0; simp [h0] at hn) (fun ba oa he => ?_)
 subst he
 refine Z5 (Z0 (Z3 (sqt 5 rfl (pur 1 rfl (sp rfl (PE.indexAddr Z4i rfl rfl (by omega) (by omega)) rfl (spL rfl rfl (lf0 sc3 (by simp [Zv, hn]; rfl) rfl) rfl (pur 2 rfl (sqt 10 rfl (pur 3 rfl ?_)))))))))
 refine ZR 30 rfl ?_ ?_ <;> intro g30
 simp only [cS] at g30
 refine pur 2 rfl ?_
 refine spG rfl rfl rfl rfl (PE.indexAddr Z4i rfl rfl (by omega) (by omega)) rfl ?_
 refine Z3F rfl rfl rfl rfl rfl (lh (v := .int .i64 m) sc3 rfl (by simp [Zc, hm])) rfl (pur 3 rfl ?_)
 refine Z2 rfl ?_ ?_ <;> intro hc3
 simp only [cS] at hc3
 have hst : τ.step ws k = ⟨τ.s - 1, τ.o.set k (m + 1), true⟩ := by unfold ShS.step; rw [hn, hm]; simp [g30, hc3]
 refine sqt 7 rfl (pur 2 rfl (sp rfl (PE.indexAddr Z4i rfl rfl (by omega) (by omega)) rfl (spL rfl rfl (lh (v := .int .i64 m) sc3 rfl (by simp [Zc, hm])) rfl (sp rfl (PE.add rfl rfl (by omega)) rfl (sp rfl (PE.indexAddr Z4i rfl rfl (by omega) (by omega)) rfl ?_)))))
 refine Z1S (l' := Zc (τ.o.set k (m + 1))) rfl rfl rfl cn3 rfl rfl rfl (by show spl _ _ [_] = _; rw [Z4v (by simp [Zc, hok.len]; omega), Z5s]; simp) (by simp [Zc, hok.len, Value.cells]; omega) ?_
 refine sqt 3 rfl (pur 1 rfl (sp rfl (PE.sub rfl rfl (by omega)) rfl (pur 1 rfl (sqr 1 rfl (pur 1 rfl (sqr 2 rfl (sp rfl (PE.add rfl rfl (by omega)) rfl (pur 1 rfl ?_))))))))
 exact Zt ⟨k + 1, by omega⟩ (by dsimp only; omega) (by rw [e, hst]; exact (by repeat' first | exact Sub.nil | apply Sub.cons | rfl | (simp [lk]; omega))) (fun w h => by rw [e, hst]; exact h)
 simp only [cS] at hc3
 have hst : τ.step ws k = τ := by unfold ShS.step; rw [hn, hm]; simp [Int.not_lt.2 hc3]
 refine Z5 (sqr 2 rfl (sp rfl (PE.add rfl rfl (by omega)) rfl (pur 1 rfl ?_)))
 exact Zt ⟨k + 1, by omega⟩ (by dsimp only; omega) (by rw [e, hst]; exact (by repeat' first | exact Sub.nil | apply Sub.cons | rfl | (simp [lk]; omega))) (fun w h => by rw [e, hst]; exact h)
 simp only [cS] at g30
 have hst : τ.step ws k = τ := by unfold ShS.step; rw [hn, hm]; simp [Int.not_lt.2 g30]
 refine pur 7 rfl ?_
 refine ZF rfl ?_
 refine Z5 (sqr 2 rfl (sp rfl (PE.add rfl rfl (by omega)) rfl (pur 1 rfl ?_)))
 exact Zt ⟨k + 1, by omega⟩ (by dsimp only; omega) (by rw [e, hst]; exact (by repeat' first | exact Sub.nil | apply Sub.cons | rfl | (simp [lk]; omega))) (fun w h => by rw [e, hst]; exact h)
 simp only [cS] at hc2
 have hkw : k = ws.length := by omega
 rw [hke hkw] at *
 refine Zg (Zh (Zh (ZJ ?_)))
 exact Zt (j + 1) (by
   rw [if_pos hc1]
   have h1 := Z5g ws (List.range ws.length) { Z0m ws j (Zl s ws) with g := false }
   have h2 := (Z4q (j + 1) _ hi1).s
   change ((Z0m ws j (Zl s ws)).pass ws).s ≤ _ ∧ (((Z0m ws j (Zl s ws)).pass ws).g = true → _ ∨ ((Z0m ws j (Zl s ws)).pass ws).s < _) at h1
   change 0 ≤ ((Z0m ws j (Zl s ws)).pass ws).s ∧ _ at h2
   show 2 * ((Z0m ws j (Zl s ws)).pass ws).s.toNat + (if ((Z0m ws j (Zl s ws)).pass ws).g = true then 1 else 0) < _
   obtain ⟨h3, h4⟩ := h1
   simp only at h3 h4
   split
   · rename_i hg
     rcases h4 hg with h | h
     · cases h
     · omega
   · omega) (by repeat' first | exact Sub.nil | apply Sub.cons | rfl | (simp [lk]; omega)) idH
 refine Zg (Zh (Zh (ZJ (sqt 3 rfl (pur 3 rfl (Z1 ?_))))))
 first | exact rtB rfl rfl rfl rfl ⟨.inl ⟨hck, rfl, rfl⟩, rfl⟩ idH | exact rtB rfl rfl rfl rfl ⟨.inr ⟨hck, j, b19, hc1, rfl, rfl⟩, rfl⟩ idH
end Go.Proofs.Ythhdgeibokecjaa.Bd
namespace Go.Proofs.Ythhdgeibokecjaa.Bd
set_option linter.unusedSimpArgs false
set_option linter.unusedVariables false
def ZO (t : Twn) (g : Sta → Int) (s : Sta) (q : Rn) : Int := bif decide (s.dry < t.run) then min (g (t.next s q false)) (g (t.next s q true)) else g (t.next s q false)
def efQ (t : Twn) (g : Sta → Int) (s : Sta) (best : Int) (q : Rn) : Int :=
  bif t.can s q then (bif decide (ZO t g s q = -1) then best else max best (ZO t g s q + q.sacks * q.price)) else best
def ef (t : Twn) : Nat → Sta → Int
  | 0, _ => 0
  | n + 1, s => t.rats.foldl (efQ t (ef t n) s) (-1)
theorem Z8x {a b : Int} (h1 : 0 ≤ a) (h2 : a ≤ 30) (h3 : 0 ≤ b) (h4 : b ≤ 100) : 0 ≤ a * b ∧ a * b ≤ 3000 := by
  have h5 := Int.mul_nonneg h1 h3
  have h6 := Int.mul_le_mul h2 h4 h3 (by omega)
  omega
theorem Z3m {t : Twn} {g : Sta → Int} {B : Int} (hg : ∀ s, -1 ≤ g s ∧ g s ≤ B) (s : Sta) (q : Rn) : -1 ≤ ZO t g s q ∧ ZO t g s q ≤ B := by
  unfold ZO
  have h1 := hg (t.next s q false)
  have h2 := hg (t.next s q true)
  cases decide (s.dry < t.run) <;> simp only [cond_true, cond_false] <;> omega
theorem Z6B {t : Twn} {g : Sta → Int} {B : Int} (hB : 0 ≤ B) (hg : ∀ s, -1 ≤ g s ∧ g s ≤ B) (s : Sta) : ∀ (l : List Rn), (∀ q ∈ l, 0 ≤ q.sacks ∧ q.sacks ≤ 30 ∧ 0 ≤ q.price ∧ q.price ≤ 100) → ∀ b, -1 ≤ b → b ≤ B + 3000 →
    -1 ≤ l.foldl (efQ t g s) b ∧ l.foldl (efQ t g s) b ≤ B + 3000
  | [], _, b, h1, h2 => ⟨h1, h2⟩
  | q :: l, hl, b, h1, h2 => by
    have hq := hl q (by simp)
    have h3 := Z3m (t := t) hg s q
    have h4 := Z8x hq.1 hq.2.1 hq.2.2.1 hq.2.2.2
    rw [List.foldl_cons]
    refine Z6B hB hg s l (fun q hq => hl q (by simp [hq])) _ ?_ ?_ <;>
    · unfold efQ
      cases t.can s q <;> cases decide (ZO t g s q = -1) <;> simp only [cond_true, cond_false] <;> omega
theorem ZaX {t : Twn} (ht : t.ok) : ∀ (n : Nat) (s : Sta), -1 ≤ ef t n s ∧ ef t n s ≤ n * 3000
  | 0, _ => by simp [ef]
  | n + 1, s => by
    have h := Z6B (t := t) (g := ef t n) (B := n * 3000) (by omega) (ZaX ht n) s t.rats ht.rats (-1) (by omega) (by omega)
    unfold ef
    push_cast
    omega
structure Rw where
  st : Sta
  lasts : Int
  ration : Int
  deriving DecidableEq
def Twn.rat (t : Twn) (r : Int) : Option Rn := bif decide (0 ≤ r) then t.rats[r.toNat]? else none
def Zn (t : Twn) : List Rw → Bool → List Int → Except Int (Bool × List Int)
  | [], tw, y => .ok (tw, y)
  | x :: l, tw, y => bif !(x.st.right t) || !(inb x.lasts 0 1000000) then .error 3 else match t.rat x.ration with
    | none => .error 1
    | some q => bif !(t.can x.st q) then .error 9 else Zn t l (tw || decide (lat y x.st ≠ -1)) (y.set x.st.ix x.lasts)
def Z07 (t : Twn) (y : List Int) (x : Rw) : Bool := match t.rat x.ration with
  | some q => t.keeps y x.st q x.lasts
  | none => false
def Z4Q (t : Twn) : List Int := (sts t).foldl (fun y s => y.set s.ix (-1)) (List.replicate 496 0)
def Z1H (t : Twn) (tb : List Rw) (tw : Bool) (y : List Int) : Int × Int :=
  bif tw then (0, 5) else bif !(tb.all (Z07 t y)) then (0, 8) else bif decide (lat y t.now = -1) then (0, 6) else (lat y t.now, 0)
def Zp (t : Twn) (tb : List Rw) : Int × Int :=
  bif decide (t.check ≠ 0) then (0, t.check) else bif decide (496 < tb.length) then (0, 2) else match Zn t tb false (Z4Q t) with
  | .error e => (0, e)
  | .ok p => Z1H t tb p.1 p.2
theorem Z24 (v : Int) : ∀ (l : List Sta) (y : List Int), (l.foldl (fun y s => y.set s.ix v) y).length = y.length
  | [], _ => rfl
  | s :: l, y => by rw [List.foldl_cons, Z24 v l]; simp
theorem Z50 {t : Twn} {r : Int} {q : Rn} (h0 : 0 ≤ r) (h : t.rats[r.toNat]? = some q) : t.rat r = some q := by simp [Twn.rat, h0, h]
theorem rat_iff {t : Twn} {r : Int} {q : Rn} : t.rat r = some q ↔ 0 ≤ r ∧ t.rats[r.toNat]? = some q := by
  unfold Twn.rat
  by_cases h : 0 ≤ r <;> simp [h]
theorem Z81 {t : Twn} {r : Int} (h : (decide (0 ≤ r) && decide (r ≤ (t.rats.length : Int) - 1)) = false) : t.rat r = none := by
  unfold Twn.rat
  by_cases h0 : 0 ≤ r
  · simp only [h0, decide_true, Bool.true_and, decide_eq_false_iff_not] at h ⊢
    exact List.getElem?_eq_none (by omega)
  · simp [h0]
theorem Zb2 {t : Twn} {r : Int} (h : (decide (0 ≤ r) && decide (r ≤ (t.rats.length : Int) - 1)) = true) : 0 ≤ r ∧ ∃ q, t.rats[r.toNat]? = some q := by
  simp only [Bool.and_eq_true, decide_eq_true_eq] at h
  exact ⟨h.1, _, List.getElem?_eq_getElem (by omega)⟩
theorem Z7G {α : Type} {l : List α} {k : Nat} {x : α} (h : l[k]? = some x) : l.drop k = x :: l.drop (k + 1) := by
  obtain ⟨h1, h2⟩ := List.getElem?_eq_some_iff.1 h
  rw [List.drop_eq_getElem_cons h1, h2]
theorem Z1t {t : Twn} {tb : List Rw} {e : Int} (h0 : t.check = 0) (h1 : tb.length ≤ 496) (h : Zn t tb false (Z4Q t) = .error e) : Zp t tb = (0, e) := by
  unfold Zp
  have h2 : ¬ 496 < tb.length := by omega
  simp [h0, h2, h]
theorem Z1x {t : Twn} {tb : List Rw} {tw : Bool} {y : List Int} (h0 : t.check = 0) (h1 : tb.length ≤ 496) (h : Zn t tb false (Z4Q t) = .ok (tw, y)) : Zp t tb = Z1H t tb tw y := by
  unfold Zp
  have h2 : ¬ 496 < tb.length := by omega
  simp [h0, h2, h]
theorem Z2q {t : Twn} : ∀ (l : List Rw) (tw : Bool) (y : List Int) (p : Bool × List Int), Zn t l tw y = .ok p → ∀ x ∈ l, x.st.right t = true ∧ (0 ≤ x.lasts ∧ x.lasts ≤ 1000000) ∧ ∃ q, t.rat x.ration = some q ∧ t.can x.st q = true
  | [], _, _, _, _, _, hx => by cases hx
  | x :: l, tw, y, p, h, z, hz => by
    unfold Zn at h
    cases h1 : x.st.right t <;> rw [h1] at h
    · cases h
    cases h2 : inb x.lasts 0 1000000 <;> rw [h2] at h
    · cases h
    cases h3 : t.rat x.ration <;> rw [h3] at h
    · cases h
    rename_i q
    cases h4 : t.can x.st q with
    | false => rw [show (bif !true || !true then Except.error 3 else match some q with | none => Except.error 1 | some q => bif !(t.can x.st q) then Except.error 9 else Zn t l (tw || decide (lat y x.st ≠ -1)) (y.set x.st.ix x.lasts) : Except Int (Bool × List Int)) = bif !(t.can x.st q) then Except.error 9 else Zn t l (tw || decide (lat y x.st ≠ -1)) (y.set x.st.ix x.lasts) from rfl, h4] at h; cases h
    | true =>
      rw [show (bif !true || !true then Except.error 3 else match some q with | none => Except.error 1 | some q => bif !(t.can x.st q) then Except.error 9 else Zn t l (tw || decide (lat y x.st ≠ -1)) (y.set x.st.ix x.lasts) : Except Int (Bool × List Int)) = bif !(t.can x.st q) then Except.error 9 else Zn t l (tw || decide (lat y x.st ≠ -1)) (y.set x.st.ix x.lasts) from rfl, h4] at h
      rcases List.mem_cons.1 hz with rfl | hz
      · simp only [inb, Bool.and_eq_true, decide_eq_true_eq] at h2
        exact ⟨h1, h2, q, h3, h4⟩
      · exact Z2q l _ _ p h z hz
def Z01 (t : Twn) (y : List Int) (s : Sta) : Option Rw := bif decide (lat y s = -1) then none else (t.rats.findIdx? fun q => t.keeps y s q (lat y s)).map fun (r : Nat) => ⟨s, lat y s, r⟩
def tab (t : Twn) (y : List Int) : List Rw := (sts t).filterMap (Z01 t y)
theorem Z5I {t : Twn} {y : List Int} {s : Sta} {k : Nat} {q : Rn} (h0 : lat y s ≠ -1) (hq : t.rats[k]? = some q) (hn : ∀ i q', i < k → t.rats[i]? = some q' → t.keeps y s q' (lat y s) = false) (h : t.keeps y s q (lat y s) = true) : Z01 t y s = some ⟨s, lat y s, k⟩ := by
  unfold Z01
  have hk : k < t.rats.length := (List.getElem?_eq_some_iff.1 hq).1
  have : t.rats.findIdx? (fun q => t.keeps y s q (lat y s)) = some k := by
    rw [List.findIdx?_eq_some_iff_getElem]
    refine ⟨hk, ?_, fun j hj => ?_⟩
    · rw [List.getElem?_eq_getElem hk] at hq; cases hq; exact h
    · simp [hn j _ hj (List.getElem?_eq_getElem (by omega))]
  rw [this]; simp [h0]
theorem Z4r {t : Twn} {y : List Int} {s : Sta} (hn : ∀ i q', i < t.rats.length → t.rats[i]? = some q' → lat y s = -1 ∨ t.keeps y s q' (lat y s) = false) : Z01 t y s = none := by
  unfold Z01
  cases hc : decide (lat y s = -1) with
  | true => rfl
  | false =>
    have : t.rats.findIdx? (fun q => t.keeps y s q (lat y s)) = none := by
      rw [List.findIdx?_eq_none_iff]
      intro q hq
      obtain ⟨i, hi⟩ := List.getElem?_of_mem hq
      rcases hn i q (List.getElem?_eq_some_iff.1 hi).1 hi with h | h
      · simp [h] at hc
      · exact h
    rw [this]; rfl
open Go
theorem Zd5 : apT Try.prog 34 = some (48, 5, 40) := by kernel_rfl
theorem Zba : ZK Try.prog 31 = some 1 := by kernel_rfl
theorem Zdl : ZK Try.prog 34 = some 1 := by kernel_rfl
theorem Z8r : ZK Try.prog 81 = some 1 := by kernel_rfl
theorem Zc4 : Try.prog.eqGuardType Try.prog.depth 24 = false := by kernel_rfl
theorem Zdq : ZU Try.prog 48 = some [(0, 3), (3, 1), (4, 1)] := by kernel_rfl
theorem Z9S : Z0Z Try.prog 31 = true := by kernel_rfl
theorem ZcL : Z0Z Try.prog 34 = true := by kernel_rfl
theorem Zd7 : slE Try.prog 34 = some (48, 5) := by kernel_rfl
theorem Zd1 : Zy Try.prog 31 = some ([.int .i64 0]) := by kernel_rfl
theorem Zdh : Zy Try.prog 34 = some ([.slice none 0 0]) := by kernel_rfl
theorem Zbd : Zy Try.prog 48 = some ([.int .i64 0, .int .i64 0, .int .i64 0, .int .i64 0, .int .i64 0]) := by kernel_rfl
theorem Z8j : Zy Try.prog 81 = some ([.pointer none]) := by kernel_rfl
def Z9U (x : Rw) : List Value := [.int .i64 x.st.stock, .int .i64 x.st.short, .int .i64 x.st.dry, .int .i64 x.lasts, .int .i64 x.ration]
def Z1z (l : List Rw) : List (List Value) := l.map Z9U
theorem Z9H (t : Twn) (hl : t.rats.length ≤ 9223372036854775807) (ba oa ca : Nat) (H : Z7) (R : Z4) [hR : MemRows (some ⟨ba, oa, none⟩) 2 (rrows t.rats) R] :
    Fn Try.prog 8 [t.v (t.sl (some ⟨ba, oa, none⟩) ca)] H R (fun v H' R' => ((t.check ≠ 0 ∧ v = .tuple #[.slice none 0 0, .int .i64 t.check] ∧ H' = H) ∨
      (t.check = 0 ∧ ∃ σ, Z4j t σ ∧ ((lat σ.y t.now = -1 ∧ v = .tuple #[.slice none 0 0, .int .i64 6] ∧ H' = H) ∨ (lat σ.y t.now ≠ -1 ∧ ∃ o : OSl 48 5 (Z1z (tab t σ.y)), v = .tuple #[o.fs, .int .i64 0] ∧ H' = o.G ++ H)))) ∧ R' = R) := by
 refine Z57 Try.func8 rfl Try.ntmps8 rfl ?_
 refine sqt 3 rfl (bx rfl rfl rfl (fun b1 => pur 2 rfl (sqt 8 rfl (spL rfl rfl (lhA [_, _, _, _, _, _, _, _, _, _, _] Z0l rfl rfl rfl) rfl ?_))))
 refine cl rfl Z9a rfl rfl (Z3v t hl ba oa ca _ _) ?_
 rintro _ _ _ (⟨hck, rfl, rfl, rfl⟩ | ⟨hck, bw, m, bt, σ, o, hσ, rfl, rfl, rfl⟩)
 refine pur 3 rfl (alc rfl Z8j rfl (fun b4 => ?_))
 refine sto rfl rfl rfl Z8r rfl rfl rfl rfl ?_
 refine pur 1 rfl (Z0 (sqt 2 rfl (pur 2 rfl ?_)))
 refine Zw (congrArg (fun b => some (Value.bool b)) (dT hck)) ?_
 refine sqt 3 rfl (pur 3 rfl (Z1 ?_))
 exact Z9 [] idH rfl (.cons (RV.tmp rfl) (.cons (RV.tmp rfl) .nil)) rfl ⟨.inl ⟨hck, rfl, rfl⟩, rfl⟩ drp
 ·
  have hok := (ok_of_check hck).1
  have hsl := Z2D hok hσ
  refine pur 3 rfl (alc rfl Z8j rfl (fun b4 => ?_))
  refine sto rfl rfl rfl Z8r rfl rfl rfl rfl ?_
  refine pur 1 rfl (Z0 (sqt 2 rfl (pur 2 rfl ?_)))
  refine ZF (rfl) ?_
  refine Z5 (Z0 (Z0 ?_))
  refine Z8 [0, 1, 3, 0, 8, 31, 63] (.ld 0 (tks 1 3 (.ld 4 (.big 5 (.tk 6 .done))))) Zk (by kernel_rfl) ?_
  refine ld rfl rfl (lh Z1y rfl rfl) rfl (tk rfl (PE.nilCheck rfl) rfl (tk rfl (PE.fA ZP rfl) rfl (tk rfl (PE.fA Z0O rfl) rfl (ld rfl rfl (lhA [_, _, _] Z0f rfl rfl rfl) rfl ?_))))
  refine clV rfl Z1W rfl rfl (Z5U t hok t.now hok.now ba oa ca bt bw m σ.y o.fs hsl _ _) ?_
  refine bgT (Za 1 rfl ?_)
  refine Z2 rfl ?_ ?_ <;> intro hc1
  simp only [decide_eq_true_eq] at hc1
  refine sqt 2 rfl (pur 2 rfl (Z1 ?_))
  first
    | exact Z9 [] idH rfl (.cons (RV.tmp rfl) (.cons (RV.tmp rfl) .nil)) rfl ⟨.inr ⟨hck, σ, hσ, .inl ⟨hc1, rfl, rfl⟩⟩, rfl⟩ drp
    | exact Z9 [bd0] idH rfl (.cons (RV.tmp rfl) (.cons (RV.tmp rfl) .nil)) rfl ⟨.inr ⟨hck, σ, hσ, .inr ⟨hc1, o', rfl, rfl⟩⟩, rfl⟩ (fun w h => ((((h.tail.tail.del b1).del bw).del m).ftail.ftail).dropMid)
  ·
   simp only [decide_eq_false_iff_not] at hc1
   refine Z5 (sqt 1 rfl (alc rfl Zdh rfl (fun b6 => Z0 (sqt 2 rfl (spL rfl rfl (lhA [_, _, _, _, _, _, _, _, _, _, _] Z0l rfl rfl rfl) rfl ?_)))))
   refine cl rfl Z6C rfl rfl (Z1v t (t.sl (some ⟨ba, oa, none⟩) ca) _ _) ?_
   rintro _ _ _ ⟨b26, rfl, rfl, rfl⟩
   refine Zf b1 ?_
   refine Zf b4 ?_
   refine Zf b6 ?_
   refine Z3 ?_
   refine Z1u rfl Z6A (fun c0 bl0 bd0 hcp0 hca0 hcb0 hck0 => ?_)
   refine ⟨fun st pend T R' => st = .ready ∧ pend = none ∧ ∃ o' : OSl 48 5 (Z1z (tab t σ.y)), T = (bd0, .deferred (some [])) :: (b6, cel 34 [o'.fs]) :: (b4, cel 81 [.pointer (some ⟨bw, 0, none⟩)]) :: (o'.G ++ (b1, cel 27 (twl t (t.sl (some ⟨ba, oa, none⟩) ca))) :: (o.G ++ (bw, cel 92 (rcs t (t.sl (some ⟨ba, oa, none⟩) ca) bt (σ.y) o.fs m)) :: (m, Z0k true (Z20 σ.fl)) :: H)) ∧ R' = RowsA (some ⟨b26, 0, none⟩) 11 [twl t (t.sl (some ⟨ba, oa, none⟩) ca)] :: RowsA (some ⟨bt, 0, none⟩) 11 [twl t (t.sl (some ⟨ba, oa, none⟩) ca)] :: R,
     Fn.mono (Z0T t hok (t.sl (some ⟨ba, oa, none⟩) ca) b26 bl0 (fun k H' R' => ∃ o' : OSl 48 5 (Z1z (((sts t).take k).filterMap (Z01 t σ.y))), H' = (bl0, lob c0 .ready none) :: (bd0, .deferred (some [])) :: (b6, cel 34 [o'.fs]) :: (b4, cel 81 [.pointer (some ⟨bw, 0, none⟩)]) :: (o'.G ++ (b1, cel 27 (twl t (t.sl (some ⟨ba, oa, none⟩) ca))) :: (o.G ++ (bw, cel 92 (rcs t (t.sl (some ⟨ba, oa, none⟩) ca) bt (σ.y) o.fs m)) :: (m, Z0k true (Z20 σ.fl)) :: H)) ∧ R' = RowsA (some ⟨b26, 0, none⟩) 11 [twl t (t.sl (some ⟨ba, oa, none⟩) ca)] :: RowsA (some ⟨bt, 0, none⟩) 11 [twl t (t.sl (some ⟨ba, oa, none⟩) ca)] :: R) (fun _ _ => False)
       (fun k H' R' h => by obtain ⟨_, _, h⟩ := h; rw [h]; simp) (fun k s H' R' hk hI => ?_) _ _ ⟨OSl.nil _ _, rfl, rfl⟩) (fun v H' R' h => ?_), ?_⟩
   rotate_left
   · rw [List.take_of_length_le (show (sts t).length ≤ t.nst by rw [Z0F]; exact Nat.le_refl _)] at h
     rcases h with ⟨o', rfl, rfl⟩ | h
     · exact ⟨.ready, none, _, by simp, .refl _, rfl, rfl, o', rfl, rfl⟩
     · exact h.elim
   rotate_left
   have hs := Ze hok (List.mem_of_getElem? hk)
   have hrg := Z2Q hok hσ hs
   have e : (((sts t).take (k + 1)).filterMap (Z01 t σ.y)) = (((sts t).take k).filterMap (Z01 t σ.y)) ++ (Z01 t σ.y s).toList := by rw [List.take_add_one, hk, List.filterMap_append]; cases h : Z01 t σ.y s <;> simp [h]
   rw [e]
   have hkl : k < (sts t).length := (List.getElem?_eq_some_iff.1 hk).1
   rw [Z0F] at hkl
   have hkn := Z4Z hok
   have htl : (((sts t).take k).filterMap (Z01 t σ.y)).length ≤ k := Nat.le_trans (List.length_filterMap_le _ _) (by simp; omega)
   clear e
   generalize (((sts t).take k).filterMap (Z01 t σ.y)) = τ at *
   obtain ⟨o', rfl, rfl⟩ := hI
   refine Z70 hcp0 hca0 hcb0 hck0 rfl ?_
   refine sqr 2 rfl (alc rfl Z4M rfl (fun b7 => ?_))
   refine sto rfl rfl rfl Z5m rfl rfl rfl rfl ?_
   refine ZY ?_
   refine Z3 (Z0 ?_)
   refine Z8 [0, 1, 3, 0, 15, 31] (.ld 0 (.tk 1 (.tk 2 (.ld 3 (.big 4 (.tk 5 .done)))))) Zk (by kernel_rfl) ?_
   refine ld rfl rfl (lh Z1y rfl rfl) rfl (tk rfl (PE.nilCheck rfl) rfl (tk rfl (PE.fA ZP rfl) rfl (ld rfl rfl (lhA [_, _, _] Z0f rfl rfl rfl) rfl ?_)))
   refine clV rfl Z1W rfl rfl (Z5U t hok s hs ba oa ca bt bw m σ.y o.fs hsl _ _) ?_
   refine bgT (Za 1 rfl (sqt 4 rfl (sp rfl (PE.fA Z08 rfl) rfl (spL rfl rfl (lh Z1Z rfl rfl) rfl (sp rfl (PE.lenSl Z3I rfl) rfl (pur 1 rfl (Z3 ?_)))))))
   have hlen := hok.many
   refine Zj (ι := {k : Nat // k ≤ t.rats.length ∧ ∀ i q, i < k → t.rats[i]? = some q → lat σ.y s = -1 ∨ t.keeps σ.y s q (lat σ.y s) = false}) (fun k2 => ⟨[(4, .pointer (some ⟨b4, 0, none⟩)), (6, .pointer (some ⟨b6, 0, none⟩)), (7, .pointer (some ⟨b7, 0, none⟩)), (8, .int .i64 (lat σ.y s)), (35, .int .i64 t.rats.length), (36, .int .i64 k2.1)], (b7, cel 24 [.int .i64 s.stock, .int .i64 s.short, .int .i64 s.dry]) :: (bl0, lob c0 .busy none) :: (bd0, .deferred (some [])) :: (b6, cel 34 [o'.fs]) :: (b4, cel 81 [.pointer (some ⟨bw, 0, none⟩)]) :: (o'.G ++ (b1, cel 27 (twl t (t.sl (some ⟨ba, oa, none⟩) ca))) :: (o.G ++ (bw, cel 92 (rcs t (t.sl (some ⟨ba, oa, none⟩) ca) bt (σ.y) o.fs m)) :: (m, Z0k true (Z20 σ.fl)) :: H)), RowsA (some ⟨b26, 0, none⟩) 11 [twl t (t.sl (some ⟨ba, oa, none⟩) ca)] :: RowsA (some ⟨bt, 0, none⟩) 11 [twl t (t.sl (some ⟨ba, oa, none⟩) ca)] :: R⟩) (fun k2 => t.rats.length - k2.1) ⟨0, by omega, by omega⟩ ?_ (fun k2 => ?_)
   exact Zr idH
   obtain ⟨k2, hk1, hk2⟩ := k2
   dsimp only
   refine sqt 1 rfl (pur 1 rfl (Z0 ?_))
   refine Z2 rfl ?_ ?_ <;> intro hc2
   simp only [cS] at hc2
   obtain ⟨q, hq⟩ : ∃ q, t.rats[k2]? = some q := ⟨_, List.getElem?_eq_getElem (by omega)⟩
   refine Z5 (Z0 (Z3 (sqt 2 rfl (pur 2 rfl (sqt 9 rfl (pur 3 rfl ?_))))))
   refine ZR 41 rfl ?_ ?_ <;> intro g41
   simp only [decide_eq_true_eq] at g41
   refine Z3F rfl rfl rfl rfl rfl (lh Z1y rfl rfl) rfl (Z3F rfl rfl rfl rfl rfl (lhA [_, _, _] Z0f rfl rfl rfl) rfl (pur 2 rfl ?_))
   refine Z1M rfl rfl rfl rfl Z7v rfl rfl (Z3A t hok s hs k2 q (by omega) (by simpa using hq) (lat σ.y s) (by omega) ba oa ca bt bw m σ.y o.fs hsl _ _) ?_
   refine pur 1 rfl ?_
   refine Z2 rfl ?_ ?_ <;> intro hc3
   have hst := Z5I g41 hq (fun i q h h2 => (hk2 i q h h2).resolve_left g41) hc3
   refine sqt 8 rfl (spL rfl rfl (lh ZcL rfl rfl) rfl (spL rfl rfl (lhA [_, _, _] Z0f rfl rfl rfl) rfl (pur 2 rfl (sp rfl (PE.build (out := [_, _, _, _, _]) Zdq Zbd rfl rfl) rfl ?_))))
   refine bsl (out := [_, _, _, _, _]) rfl Zd7 Zbd rfl rfl rfl rfl rfl rfl (fun b53 => ?_)
   refine apO (o') rfl Zd5 rfl rfl (Z4L (row := Z9U ⟨s, lat σ.y s, k2⟩) rfl) rfl rfl ((by simp only [Z1z, List.length_map, List.length_singleton]; omega)) rfl (fun o54 => ?_)
   refine Z1S (l' := [o54.fs]) rfl rfl rfl Zdl rfl (by rw [o54.cells.1]; first | done | rfl) (by rw [o54.cells.1]; simp [o54.cells.2]) (by rw [o54.cells.1]; first | done | rfl) (by rw [o54.cells.1]; first | done | exact Nat.le_refl _) ?_
   refine Zg (Z8z (by decide) (Zh (Zh (ZJ ?_))))
   first
     | exact Zs (.inl ⟨rfl, o54.cast (by rw [hst]; simp [Z1z, Z9U]), rfl, rfl⟩) (fun _ h => by repeat first | exact h | replace h := St.tail h | replace h := St.ftail h | replace h := St.drop h)
     | exact Zs (.inl ⟨rfl, o'.cast (by rw [hst]; simp), rfl, rfl⟩) (fun _ h => by repeat first | exact h | replace h := St.tail h | replace h := St.ftail h | replace h := St.drop h)
   have hno : lat σ.y s = -1 ∨ t.keeps σ.y s q (lat σ.y s) = false := .inr hc3
   refine Z5 (sqr 2 rfl (sp rfl (PE.add rfl rfl (by omega)) rfl (pur 1 rfl ?_)))
   exact Zt ⟨k2 + 1, by omega, fun i q' hi hq' => by
     rcases Nat.lt_or_ge i k2 with h1 | h1
     · exact hk2 i q' h1 hq'
     · obtain rfl : i = k2 := by omega
       rw [hq] at hq'; cases hq'; exact hno⟩ (by dsimp only; omega) (by repeat' first | exact Sub.nil | apply Sub.cons | rfl | (simp [lk]; omega)) idH
   simp only [decide_eq_false_iff_not, Decidable.not_not] at g41
   have hno : lat σ.y s = -1 ∨ t.keeps σ.y s q (lat σ.y s) = false := .inl g41
   refine pur 6 rfl ?_
   refine ZF rfl ?_
   refine Z5 (sqr 2 rfl (sp rfl (PE.add rfl rfl (by omega)) rfl (pur 1 rfl ?_)))
   exact Zt ⟨k2 + 1, by omega, fun i q' hi hq' => by
     rcases Nat.lt_or_ge i k2 with h1 | h1
     · exact hk2 i q' h1 hq'
     · obtain rfl : i = k2 := by omega
       rw [hq] at hq'; cases hq'; exact hno⟩ (by dsimp only; omega) (by repeat' first | exact Sub.nil | apply Sub.cons | rfl | (simp [lk]; omega)) idH
   simp only [cS] at hc2
   obtain rfl : k2 = t.rats.length := by omega
   have hst := Z4r hk2
   refine Zg (Zh (Zh (ZJ ?_)))
   first
     | exact Zs (.inl ⟨rfl, o54.cast (by rw [hst]; simp [Z1z, Z9U]), rfl, rfl⟩) (fun _ h => by repeat first | exact h | replace h := St.tail h | replace h := St.ftail h | replace h := St.drop h)
     | exact Zs (.inl ⟨rfl, o'.cast (by rw [hst]; simp), rfl, rfl⟩) (fun _ h => by repeat first | exact h | replace h := St.tail h | replace h := St.ftail h | replace h := St.drop h)
   rintro _ _ _ _ ⟨rfl, rfl, o', rfl, rfl⟩
   refine Z6T ?_
   refine sqt 3 rfl (spL rfl rfl (lh ZcL rfl rfl) rfl (pur 2 rfl (Z1 ?_)))
   first
     | exact Z9 [] idH rfl (.cons (RV.tmp rfl) (.cons (RV.tmp rfl) .nil)) rfl ⟨.inr ⟨hck, σ, hσ, .inl ⟨hc1, rfl, rfl⟩⟩, rfl⟩ drp
     | exact Z9 [bd0] idH rfl (.cons (RV.tmp rfl) (.cons (RV.tmp rfl) .nil)) rfl ⟨.inr ⟨hck, σ, hσ, .inr ⟨hc1, o', rfl, rfl⟩⟩, rfl⟩ (fun w h => ((((h.tail.tail.del b1).del bw).del m).ftail.ftail).dropMid)
def Z1k (t : Twn) (y : List Int) (bads : Int) (s : Sta) : Bool := (decide (s.short = t.now.short) && decide (s.dry = t.now.dry)) && decide (bads ≤ lat y s)
def Z3o (t : Twn) (y : List Int) (bads : Int) : Value := match (sts t).find? (Z1k t y bads) with
  | some s => .tuple #[.int .i64 s.stock, .int .i64 0]
  | none => .tuple #[.int .i64 0, .int .i64 6]
theorem Z6r {α : Type} {p : α → Bool} : ∀ {l : List α} {k : Nat} {x : α}, l[k]? = some x → (∀ i z, i < k → l[i]? = some z → p z = false) → p x = true → l.find? p = some x
  | [], _, _, h, _, _ => by simp at h
  | a :: l, 0, x, h, _, hp => by
    simp only [List.getElem?_cons_zero, Option.some.injEq] at h
    subst h; simp [hp]
  | a :: l, k + 1, x, h, hn, hp => by
    have h0 := hn 0 a (by omega) rfl
    rw [List.find?_cons, h0]
    exact Z6r (l := l) (k := k) (by simpa using h) (fun i z hi hz => hn (i + 1) z (by omega) (by simpa using hz)) hp
theorem Z8O (t : Twn) (hl : t.rats.length ≤ 9223372036854775807) (bads : Int) (ba oa ca : Nat) (H : Z7) (R : Z4) [hR : MemRows (some ⟨ba, oa, none⟩) 2 (rrows t.rats) R] :
    Fn Try.prog 51 [t.v (t.sl (some ⟨ba, oa, none⟩) ca), .int .i64 bads] H R (fun v H' R' => ((t.check ≠ 0 ∧ v = .tuple #[.int .i64 0, .int .i64 t.check]) ∨
      (t.check = 0 ∧ inb bads 0 1000000 = false ∧ v = .tuple #[.int .i64 0, .int .i64 3]) ∨ (t.check = 0 ∧ inb bads 0 1000000 = true ∧ ∃ σ, Z4j t σ ∧ v = Z3o t σ.y bads)) ∧ H' = H ∧ R' = R) := by
 refine Z57 Try.func51 rfl Try.ntmps51 rfl ?_
 refine sqt 4 rfl (bx rfl rfl rfl (fun b2 => bx rfl rfl rfl (fun b3 => alc rfl zl3 rfl (fun b4 => alc rfl Zd1 rfl (fun b5 => sqt 8 rfl (spL rfl rfl (lhA [_, _, _, _, _, _, _, _, _, _, _] Z0l rfl rfl rfl) rfl ?_))))))
 refine cl rfl Z8e rfl rfl (Z0V t hl ba oa ca _ _) ?_
 rintro _ _ _ (⟨hck, rfl, rfl, rfl⟩ | ⟨hck, bw, m, bt, rfl, rfl, rfl⟩)
 refine pur 3 rfl (alc rfl Z8j rfl (fun b6 => ?_))
 refine sto rfl rfl rfl Z8r rfl rfl rfl rfl ?_
 refine pur 1 rfl (Z0 (Z3 (sqt 3 rfl (pur 3 rfl ?_))))
 refine Zw (congrArg (fun b => some (Value.bool b)) (dT hck)) ?_
 refine sqt 3 rfl (pur 1 rfl ?_)
 refine sto rfl rfl rfl cn3 rfl rfl rfl rfl ?_
 refine sto rfl rfl rfl Zba rfl rfl rfl rfl ?_
 refine Z1 ?_
 exact Z9 [] idH rfl (.cons (RV.cell rfl (lh sc3 rfl rfl)) (.cons (RV.cell rfl (lh Z9S rfl rfl)) .nil)) rfl ⟨.inl ⟨hck, rfl⟩, rfl, rfl⟩ drp
 ·
  have hok := (ok_of_check hck).1
  refine pur 3 rfl (alc rfl Z8j rfl (fun b6 => ?_))
  refine sto rfl rfl rfl Z8r rfl rfl rfl rfl ?_
  refine pur 1 rfl (Z0 (Z3 (sqt 3 rfl (pur 3 rfl ?_))))
  refine ZF (rfl) ?_
  refine sqt 4 rfl (spL rfl rfl (lh sc3 rfl rfl) rfl ?_)
  refine clV rfl Z0Y rfl rfl (Z1B _ _ _ _ _) ?_
  refine pur 2 rfl ?_
  refine Z2 rfl ?_ ?_ <;> intro hc1
  have hib : inb bads 0 1000000 = false := by rw [← Bool.not_eq_true']; exact hc1
  refine sqt 2 rfl ?_
  refine sto rfl rfl rfl cn3 rfl rfl rfl rfl ?_
  refine sto rfl rfl rfl Zba rfl rfl rfl rfl ?_
  refine Z1 ?_
  first
    | exact Z9 [] idH rfl (.cons (RV.cell rfl (lh sc3 rfl rfl)) (.cons (RV.cell rfl (lh Z9S rfl rfl)) .nil)) rfl ⟨.inr (.inl ⟨hck, hib, rfl⟩), rfl, rfl⟩ (fun w h => (((((((h.del b3).del b4).del b5).del b6).del b2).del bw).del m).ftail)
    | exact Z9 [bd0] idH rfl (.cons (RV.cell rfl (lh sc3 rfl rfl)) (.cons (RV.cell rfl (lh Z9S rfl rfl)) .nil)) (v := Z3o t σ.y bads) (by unfold Z3o; rw [hno]; rfl) ⟨.inr (.inr ⟨hck, hib, σ, hσ, rfl⟩), rfl, rfl⟩ (fun w h => (((((((h.del b3).del b4).del b5).del b6).del b2).del bw).del m).ftail.ftail.drop)
  ·
   have hib : inb bads 0 1000000 = true := by rw [← Bool.not_eq_false']; exact hc1
   have hbd := hib
   simp only [inb, Bool.and_eq_true, decide_eq_true_eq] at hbd
   refine Z5 (sqt 2 rfl (spL rfl rfl (lh Z1y rfl rfl) rfl ?_))
   refine Zf m ?_
   refine Zf bw ?_
   refine cl rfl ZaY rfl rfl (Z5V t hok ba oa ca bt bw m _ _) ?_
   rintro v _ _ ⟨σ, o, hσ, rfl, rfl⟩
   have hsl := Z2D hok hσ
   refine Z0 (sqt 2 rfl (spL rfl rfl (lhA [_, _, _, _, _, _, _, _, _, _, _] Z0l rfl rfl rfl) rfl ?_))
   refine cl rfl Z6C rfl rfl (Z1v t (t.sl (some ⟨ba, oa, none⟩) ca) _ _) ?_
   rintro _ _ _ ⟨b26, rfl, rfl, rfl⟩
   refine Zf b2 ?_
   refine Zf b6 ?_
   refine Zf b5 ?_
   refine Zf b4 ?_
   refine Zf b3 ?_
   refine Z3 ?_
   refine Z1u rfl Z6A (fun c0 bl0 bd0 hcp0 hca0 hcb0 hck0 => ?_)
   refine ⟨fun st pend T R' => (st = .ready ∧ pend = none ∧ (sts t).find? (Z1k t σ.y bads) = none ∧ T = (bd0, .deferred (some [])) :: (b3, cel 3 [.int .i64 bads]) :: (b4, cel 3 [.int .i64 0]) :: (b5, cel 31 [.int .i64 0]) :: (b6, cel 81 [.pointer (some ⟨bw, 0, none⟩)]) :: (b2, cel 27 (twl t (t.sl (some ⟨ba, oa, none⟩) ca))) :: (o.G ++ (bw, cel 92 (rcs t (t.sl (some ⟨ba, oa, none⟩) ca) bt (σ.y) o.fs m)) :: (m, Z0k true (Z20 σ.fl)) :: H) ∧ R' = RowsA (some ⟨b26, 0, none⟩) 11 [twl t (t.sl (some ⟨ba, oa, none⟩) ca)] :: RowsA (some ⟨bt, 0, none⟩) 11 [twl t (t.sl (some ⟨ba, oa, none⟩) ca)] :: R) ∨
       (st = .done ∧ pend = some .ret ∧ ∃ s, (sts t).find? (Z1k t σ.y bads) = some s ∧ T = (bd0, .deferred (some [])) :: (b3, cel 3 [.int .i64 bads]) :: (b4, cel 3 [.int .i64 s.stock]) :: (b5, cel 31 [.int .i64 0]) :: (b6, cel 81 [.pointer (some ⟨bw, 0, none⟩)]) :: (b2, cel 27 (twl t (t.sl (some ⟨ba, oa, none⟩) ca))) :: (o.G ++ (bw, cel 92 (rcs t (t.sl (some ⟨ba, oa, none⟩) ca) bt (σ.y) o.fs m)) :: (m, Z0k true (Z20 σ.fl)) :: H) ∧ R' = RowsA (some ⟨b26, 0, none⟩) 11 [twl t (t.sl (some ⟨ba, oa, none⟩) ca)] :: RowsA (some ⟨bt, 0, none⟩) 11 [twl t (t.sl (some ⟨ba, oa, none⟩) ca)] :: R),
     Fn.mono (Z0T t hok (t.sl (some ⟨ba, oa, none⟩) ca) b26 bl0 (fun k H' R' => (∀ i s, i < k → (sts t)[i]? = some s → Z1k t σ.y bads s = false) ∧ H' = (bl0, lob c0 .ready none) :: (bd0, .deferred (some [])) :: (b3, cel 3 [.int .i64 bads]) :: (b4, cel 3 [.int .i64 0]) :: (b5, cel 31 [.int .i64 0]) :: (b6, cel 81 [.pointer (some ⟨bw, 0, none⟩)]) :: (b2, cel 27 (twl t (t.sl (some ⟨ba, oa, none⟩) ca))) :: (o.G ++ (bw, cel 92 (rcs t (t.sl (some ⟨ba, oa, none⟩) ca) bt (σ.y) o.fs m)) :: (m, Z0k true (Z20 σ.fl)) :: H) ∧ R' = RowsA (some ⟨b26, 0, none⟩) 11 [twl t (t.sl (some ⟨ba, oa, none⟩) ca)] :: RowsA (some ⟨bt, 0, none⟩) 11 [twl t (t.sl (some ⟨ba, oa, none⟩) ca)] :: R)
       (fun H' R' => ∃ s, (sts t).find? (Z1k t σ.y bads) = some s ∧ H' = (bl0, lob c0 .done (some .ret)) :: (bd0, .deferred (some [])) :: (b3, cel 3 [.int .i64 bads]) :: (b4, cel 3 [.int .i64 s.stock]) :: (b5, cel 31 [.int .i64 0]) :: (b6, cel 81 [.pointer (some ⟨bw, 0, none⟩)]) :: (b2, cel 27 (twl t (t.sl (some ⟨ba, oa, none⟩) ca))) :: (o.G ++ (bw, cel 92 (rcs t (t.sl (some ⟨ba, oa, none⟩) ca) bt (σ.y) o.fs m)) :: (m, Z0k true (Z20 σ.fl)) :: H) ∧ R' = RowsA (some ⟨b26, 0, none⟩) 11 [twl t (t.sl (some ⟨ba, oa, none⟩) ca)] :: RowsA (some ⟨bt, 0, none⟩) 11 [twl t (t.sl (some ⟨ba, oa, none⟩) ca)] :: R)
       (fun k H' R' h => by obtain ⟨_, _, h⟩ := h; rw [h]; simp) (fun k s H' R' hk hI => ?_) _ _ ⟨by omega, rfl, rfl⟩) (fun v H' R' h => ?_), ?_⟩
   rotate_left
   · rcases h with ⟨hn, rfl, rfl⟩ | ⟨s, hs, rfl, rfl⟩
     · refine ⟨.ready, none, _, by simp, .refl _, .inl ⟨rfl, rfl, ?_, rfl, rfl⟩⟩
       rw [List.find?_eq_none]
       intro s hs
       obtain ⟨i, hi⟩ := List.getElem?_of_mem hs
       have := (List.getElem?_eq_some_iff.1 hi).1
       rw [Z0F] at this
       simp [hn i s this hi]
     · exact ⟨.done, some .ret, _, by simp, .refl _, .inr ⟨rfl, rfl, s, hs, rfl, rfl⟩⟩
   rotate_left
   have hs := Ze hok (List.mem_of_getElem? hk)
   obtain ⟨hno, rfl, rfl⟩ := hI
   refine Z70 hcp0 hca0 hcb0 hck0 rfl ?_
   refine sqr 2 rfl (alc rfl Z4M rfl (fun b8 => ?_))
   refine sto rfl rfl rfl Z5m rfl rfl rfl rfl ?_
   refine ZY ?_
   refine Z3 (sqt 11 rfl (sp rfl (PE.fA Z0M rfl) rfl (spL rfl rfl (lh sc3 rfl rfl) rfl (sp rfl (PE.fA Z0O rfl) rfl (sp rfl (PE.fA Z0u rfl) rfl (spL rfl rfl (lh sc3 rfl rfl) rfl (sp rfl (PE.fA Z0O rfl) rfl (sp rfl (PE.fA Z10 rfl) rfl (spL rfl rfl (lh sc3 rfl rfl) rfl (sp rfl (PE.build (out := [_, _, _]) Z9W Z4M rfl rfl) rfl (alc rfl Z4M rfl (fun b9 => ?_))))))))))))
   refine sto rfl rfl rfl Z5m rfl rfl rfl rfl ?_
   refine Z0 ?_
   refine Z8 [0, 0, 3, 7, 15, 31, 63, 15, 255, 15, 1023, 2047] (.ld 0 (.ld 1 (.tk 2 (.tk 3 (.ld 4 (.tk 5 (.tk 6 (.ld 7 (.ld 9 (.big 8 (.tk 10 (.tk 11 .done)))))))))))) Zk (by kernel_rfl) ?_
   refine ld rfl rfl (lhA [_, _, _] Z0f rfl rfl rfl) rfl (ld rfl rfl (lhA [_, _, _] Z0f rfl rfl rfl) rfl (tk rfl (PE.eqlAgg [s.stock, s.short, s.dry] [s.stock, t.now.short, t.now.dry] (Z0p 10000 24 true 3 Zb0) Zc4 rfl rfl rfl rfl) rfl (Za 1 rfl ?_)))
   refine ZR 40 rfl ?_ ?_ <;> intro g40
   have hst : (decide (s.short = t.now.short) && decide (s.dry = t.now.dry)) = true := by simpa using g40
   refine ldG rfl rfl rfl rfl rfl (lh Z1y rfl rfl) rfl ?_
   refine tkG rfl rfl rfl rfl (PE.nilCheck rfl) rfl ?_
   refine tkG rfl rfl rfl rfl (PE.fA ZP rfl) rfl ?_
   refine ldG rfl rfl rfl rfl rfl (lhA [_, _, _] Z0f rfl rfl rfl) rfl (ldG rfl rfl rfl rfl rfl (lh sc3 rfl rfl) rfl ?_)
   refine Z1M rfl rfl rfl rfl Z1W rfl rfl (Z5U t hok s hs ba oa ca bt bw m σ.y o.fs hsl _ _) ?_
   refine bg (fun w hs => ⟨(lh sc3 rfl rfl) w hs, trivial, trivial, trivial, trivial, trivial⟩) ?_
   refine Za 2 rfl ?_
   refine Z2 rfl ?_ ?_ <;> intro hc2
   have hp : Z1k t σ.y bads s = true := by unfold Z1k; rw [hst]; exact hc2
   refine sqt 4 rfl (sp rfl (PE.fA Z0M rfl) rfl (spL rfl rfl (lh sc3 rfl rfl) rfl ?_))
   refine sto rfl rfl rfl cn3 rfl rfl rfl rfl ?_
   refine sto rfl rfl rfl Zba rfl rfl rfl rfl ?_
   refine Z1 ?_
   exact Z4K (.inr ⟨rfl, s, Z6r hk hno hp, rfl, rfl⟩) (fun _ h => by repeat first | exact h | replace h := St.tail h | replace h := St.ftail h | replace h := St.drop h)
   have hnp : Z1k t σ.y bads s = false := by unfold Z1k; rw [hst]; exact hc2
   refine Z5 ?_
   exact Zs (.inl ⟨rfl, fun i z hi hz => by
     rcases Nat.lt_or_ge i k with h1 | h1
     · exact hno i z h1 hz
     · obtain rfl : i = k := by omega
       rw [hk] at hz; cases hz; exact hnp, rfl, rfl⟩) drp
   have hst : (decide (s.short = t.now.short) && decide (s.dry = t.now.dry)) = false := by simpa using g40
   have hnp : Z1k t σ.y bads s = false := by unfold Z1k; rw [hst]; rfl
   refine ldN rfl rfl rfl rfl rfl rfl rfl rfl ?_
   refine Za 2 rfl ?_
   repeat refine ldN rfl rfl rfl rfl rfl rfl rfl rfl ?_
   refine spN rfl rfl rfl rfl rfl rfl rfl rfl ?_
   refine bg (fun w hs => ⟨((fun _ _ => True.intro)) w hs, trivial, trivial, trivial, trivial, trivial⟩) ?_
   refine Za 2 rfl ?_
   refine ZF rfl ?_
   refine Z5 ?_
   exact Zs (.inl ⟨rfl, fun i z hi hz => by
     rcases Nat.lt_or_ge i k with h1 | h1
     · exact hno i z h1 hz
     · obtain rfl : i = k := by omega
       rw [hk] at hz; cases hz; exact hnp, rfl, rfl⟩) drp
   rintro _ _ _ _ (⟨rfl, rfl, hno, rfl, rfl⟩ | ⟨rfl, rfl, s, hfs, rfl, rfl⟩)
   refine Z6T ?_
   refine sqt 2 rfl ?_
   refine sto rfl rfl rfl cn3 rfl rfl rfl rfl ?_
   refine sto rfl rfl rfl Zba rfl rfl rfl rfl ?_
   refine Z1 ?_
   first
     | exact Z9 [] idH rfl (.cons (RV.cell rfl (lh sc3 rfl rfl)) (.cons (RV.cell rfl (lh Z9S rfl rfl)) .nil)) rfl ⟨.inr (.inl ⟨hck, hib, rfl⟩), rfl, rfl⟩ (fun w h => (((((((h.del b3).del b4).del b5).del b6).del b2).del bw).del m).ftail)
     | exact Z9 [bd0] idH rfl (.cons (RV.cell rfl (lh sc3 rfl rfl)) (.cons (RV.cell rfl (lh Z9S rfl rfl)) .nil)) (v := Z3o t σ.y bads) (by unfold Z3o; rw [hno]; rfl) ⟨.inr (.inr ⟨hck, hib, σ, hσ, rfl⟩), rfl, rfl⟩ (fun w h => (((((((h.del b3).del b4).del b5).del b6).del b2).del bw).del m).ftail.ftail.drop)
   refine Zcg ?_
   refine Z1 ?_
   exact Z9 [bd0] idH rfl (.cons (RV.cell rfl (lh sc3 rfl rfl)) (.cons (RV.cell rfl (lh Z9S rfl rfl)) .nil)) (v := Z3o t σ.y bads) (by unfold Z3o; rw [hfs]; rfl) ⟨.inr (.inr ⟨hck, hib, σ, hσ, rfl⟩), rfl, rfl⟩ (fun w h => (((((((h.del b3).del b4).del b5).del b6).del b2).del bw).del m).ftail.ftail.drop)
theorem Z9g : cal Try.prog 73 = true := by kernel_rfl
theorem ZbO : ZK Try.prog 134 = some 1 := by kernel_rfl
theorem Zco : ZK Try.prog 135 = some 1 := by kernel_rfl
theorem Z8C : eqB Try.prog 10000 137 = some (true, 4) := by kernel_rfl
theorem Z8h : Z4P Try.prog 134 = some (137, 3) := by kernel_rfl
theorem Z8w : Z2d Try.prog 10000 137 = true := by kernel_rfl
theorem Za2 : ZU Try.prog 137 = some [(0, 3), (3, 1)] := by kernel_rfl
theorem ZaC : Z0Z Try.prog 134 = true := by kernel_rfl
theorem Z6H : Z0Z Try.prog 135 = true := by kernel_rfl
theorem Zc3 : Zy Try.prog 134 = some ([.map none]) := by kernel_rfl
theorem Zbp : Zy Try.prog 135 = some ([.nilFunc]) := by kernel_rfl
theorem Zak : Zy Try.prog 137 = some ([.int .i64 0, .int .i64 0, .int .i64 0, .int .i64 0]) := by kernel_rfl
theorem zv3 : zvl Try.prog 3 = some (.int .i64 0) := by kernel_rfl
def KVok (t : Twn) (kv : KV) : Prop := (∀ e ∈ kv, e.1.length = 4) ∧ ∀ (s : Sta) (n : Nat) (v : Value), kv.get [s.stock, s.short, s.dry, n] = some v → v = .int .i64 (ef t n s)
theorem KVok.nil (t : Twn) : KVok t [] := ⟨by simp, by intro s n v h; simp [KV.get] at h⟩
theorem KVok.put {t : Twn} {kv : KV} (h : KVok t kv) (s : Sta) (n : Nat) : KVok t (kv.put [s.stock, s.short, s.dry, n] (.int .i64 (ef t n s))) := by
  refine ⟨fun e he => ?_, fun u k v hv => ?_⟩
  · rcases KV.put_mem he with rfl | he
    · rfl
    · exact h.1 e he
  · rw [KV.get_put] at hv
    by_cases hk : ([s.stock, s.short, s.dry, (n : Int)] : List Int) = [u.stock, u.short, u.dry, (k : Int)]
    · simp only [hk, decide_true, cond_true, Option.some.injEq] at hv
      subst hv
      simp only [List.cons.injEq, Int.natCast_inj, and_true] at hk
      obtain ⟨a, b, c⟩ := s
      obtain ⟨a', b', c'⟩ := u
      simp only at hk
      obtain ⟨rfl, rfl, rfl, rfl⟩ := hk
      rfl
    · simp only [hk, decide_false, cond_false] at hv
      exact h.2 u k v hv
def clo (c8 c2 c9 c6 : Nat) : Value := .func (.func 73) #[] #[.pointer (some ⟨c8, 0, none⟩), .pointer (some ⟨c2, 0, none⟩), .pointer (some ⟨c9, 0, none⟩), .pointer (some ⟨c6, 0, none⟩)]
def Zb8 (t : Twn) (ba oa ca bt bw m m2 c8 c2 c9 c6 n : Nat) : Prop := ∀ (kv : KV) (s : Sta) (H : Z7) (R : Z4) [hR : MemRows (some ⟨ba, oa, none⟩) 2 (rrows t.rats) R] [hT : MemRows (some ⟨bt, 0, none⟩) 11 [twl t (t.sl (some ⟨ba, oa, none⟩) ca)] R] [h8 : Mem1 c8 (cel 134 [.map (some m2)]) H] [h2 : Mem1 c2 (cel 27 (twl t (t.sl (some ⟨ba, oa, none⟩) ca))) H]
    [h9 : Mem1 c9 (cel 135 [clo c8 c2 c9 c6]) H] [h6 : Mem1 c6 (cel 81 [.pointer (some ⟨bw, 0, none⟩)]) H] [hW : Mem1 bw (cel 92 (rcs t (t.sl (some ⟨ba, oa, none⟩) ca) bt (List.replicate 496 0) (.slice none 0 0) m)) H],
    KVok t kv → s.right t = true → Fn Try.prog 73 [s.v, .int .i64 n, .pointer (some ⟨c8, 0, none⟩), .pointer (some ⟨c2, 0, none⟩), .pointer (some ⟨c9, 0, none⟩), .pointer (some ⟨c6, 0, none⟩)] ((m2, Z0k true kv) :: H) R
      (fun v H' R' => ∃ kv', KVok t kv' ∧ v = .int .i64 (ef t n s) ∧ H' = (m2, Z0k true kv') :: H ∧ R' = R)
theorem Z5P (t : Twn) (ht : t.ok) (ba oa ca bt bw m m2 c8 c2 c9 c6 n : Nat) (hn : n ≤ 11) (ih : Zb8 t ba oa ca bt bw m m2 c8 c2 c9 c6 n) :
    Zb8 t ba oa ca bt bw m m2 c8 c2 c9 c6 (n + 1) := by
 intro kv s H R hR hT h8 h2 h9 h6 hW hkv hs
 refine Zb Try.func73 rfl Try.ntmps73 rfl ?_
 refine sqt 2 rfl (bx rfl rfl rfl (fun b6 => pur 1 rfl (Z0 (sqt 2 rfl (pur 2 rfl ?_)))))
 refine ZF (congrArg (fun b => some (Value.bool b)) (dF (by omega))) ?_
 refine Z5 (Z0 (sqt 10 rfl (spL rfl rfl (lh ZaC rfl rfl) rfl (spL rfl rfl (lhA [_, _, _] Z0f rfl rfl rfl) rfl (pur 1 rfl (sp rfl (PE.build (out := [_, _, _, _]) Za2 Zak rfl rfl) rfl ?_))))))
 refine spK rfl rfl rfl (Z92 kv [s.stock, s.short, s.dry, (n + 1 : Nat)] Z8h (KeyT.of Z8C Z8w) (Zad zv3) rfl hkv.1 true) rfl ?_
 refine pur 5 rfl (sqt 1 rfl (pur 1 rfl ?_))
 refine Z2 rfl ?_ ?_ <;> intro hc1
 obtain ⟨u, hu⟩ := Option.isSome_iff_exists.1 hc1
 have hu2 := hkv.2 s (n + 1) u hu
 refine sqt 2 rfl (pur 2 rfl (Z1 ?_))
 first
   | exact Z6 (vs := [_]) (v := .int .i64 (ef t (n + 1) s)) rfl (.cons (RV.tmp rfl) .nil) (by show (kv.get _).getD _ = _; rw [hu]; exact hu2) ⟨kv, hkv, rfl, rfl, rfl⟩ (fun w h => h.del b6)
   | exact rtA rfl rfl rfl ⟨_, hkv.put s (n + 1), rfl, rfl, rfl⟩ (fun w h => h.del b6)
 refine Z5 (sqt 1 rfl (pur 1 rfl (Z0 (sqt 4 rfl (sp rfl (PE.fA Z08 rfl) rfl (spL rfl rfl (lh Z1Z rfl rfl) rfl (sp rfl (PE.lenSl Z3I rfl) rfl (pur 1 rfl (Z3 ?_)))))))))
 have hlen := ht.many
 have hbd := ZaX ht n
 refine Zj (ι := {x : Nat × KV // x.1 ≤ t.rats.length ∧ KVok t x.2}) (fun x => ⟨[(1, .int .i64 (n + 1 : Nat)), (2, .pointer (some ⟨c8, 0, none⟩)), (3, .pointer (some ⟨c2, 0, none⟩)), (4, .pointer (some ⟨c9, 0, none⟩)), (5, .pointer (some ⟨c6, 0, none⟩)), (6, .pointer (some ⟨b6, 0, none⟩)), (11, .int .i64 ((fun k => (t.rats.take k).foldl (efQ t (ef t n) s) (-1)) x.1.1)), (28, t.sl (some ⟨ba, oa, none⟩) ca), (29, .int .i64 t.rats.length), (30, .int .i64 x.1.1)],
   (m2, Z0k true x.1.2) :: (b6, cel 24 [.int .i64 s.stock, .int .i64 s.short, .int .i64 s.dry]) :: H, R⟩) (fun x => t.rats.length - x.1.1) ⟨(0, kv), by omega, hkv⟩ ?_ (fun x => ?_)
 exact Zr (fun w h => h.pull m2)
 obtain ⟨⟨k, kv⟩, hk, hkv⟩ := x
 dsimp only at hk hkv ⊢
 refine sqt 1 rfl (pur 1 rfl (Z0 ?_))
 refine Z2 rfl ?_ ?_ <;> intro hc2
 simp only [cS] at hc2
 obtain ⟨q, hq⟩ : ∃ q, t.rats[k]? = some q := ⟨_, List.getElem?_eq_getElem (by omega)⟩
 have hqm := List.mem_of_getElem? hq
 have e : (t.rats.take (k + 1)).foldl (efQ t (ef t n) s) (-1) = efQ t (ef t n) s ((t.rats.take k).foldl (efQ t (ef t n) s) (-1)) q := by rw [List.take_add_one, hq, Option.toList_some, List.foldl_append]; rfl
 have hbb := Z6B (t := t) (g := ef t n) (B := n * 3000) (by omega) hbd s (t.rats.take k) (fun q hq => ht.rats q (List.mem_of_mem_take hq)) (-1) (by omega) (by omega)
 have hq1 := ht.rats q hqm
 have hmul := Z8x hq1.1 hq1.2.1 hq1.2.2.1 hq1.2.2.2
 generalize (t.rats.take k).foldl (efQ t (ef t n) s) (-1) = best at e hbb ⊢
 refine Z5 (Z0 (Z3 (sqt 6 rfl (pur 1 rfl (sp rfl (PE.indexAddr Z8Y rfl rfl (by omega) (by omega)) rfl (spL rfl rfl (lfA Z4x (row := Z1A q) (Z0b hq) rfl) rfl (alc rfl Z6n rfl (fun b13 => pur 1 rfl ?_))))))))
 refine sto rfl rfl rfl Zax rfl rfl rfl rfl ?_
 refine Z0 (sqt 5 rfl (spL rfl rfl (lhA [_, _, _, _, _, _, _, _, _, _, _] Z0l rfl rfl rfl) rfl (spL rfl rfl (lhA [_, _, _] Z0f rfl rfl rfl) rfl (pur 1 rfl ?_))))
 refine clV rfl Z9C rfl rfl (Z2m t s k q ba oa ca (by omega) (by simpa using hq) _ _) ?_
 refine pur 1 rfl ?_
 refine Z2 rfl ?_ ?_ <;> intro hc3
 have hcan : t.can s q = false := by rw [← Bool.not_eq_true']; exact hc3
 have hst : efQ t (ef t n) s best q = best := by simp [efQ, hcan]
 refine Zg (Zh (ZJ (sqr 2 rfl (sp rfl (PE.add rfl rfl (by omega)) rfl (pur 1 rfl ?_)))))
 exact Zt ⟨(k + 1, kv), by omega, hkv⟩ (by dsimp only; omega) (by dsimp only; rw [e, hst]; exact (by repeat' first | exact Sub.nil | apply Sub.cons | rfl | (simp [lk]; omega))) (fun w h => by first | exact h.del b13 | exact (h.del b13).ftail)
 have hcan : t.can s q = true := by rw [← Bool.not_eq_false']; exact hc3
 have hcan2 : q.sacks ≤ s.stock := by simp [Twn.can] at hcan; exact hcan.1
 refine Z5 (Z0 ?_)
 refine Z8 [0, 0, 0, 0, 14, 0, 32, 127, 255] (.ld 0 (.ld 1 (.ld 2 (.tk 3 (.tk 5 (.tk 6 (.big 4 (.big 7 (.tk 8 .done))))))))) Zk (by kernel_rfl) ?_
 refine ld rfl rfl (lh Z6H rfl rfl) rfl (ld rfl rfl (lhA [_, _, _, _, _, _, _, _, _, _, _] Z0l rfl rfl rfl) rfl (ld rfl rfl (lhA [_, _, _] Z0f rfl rfl rfl) rfl (Za 2 rfl (tk rfl (PE.sub rfl rfl (by omega)) rfl ?_))))
 refine clV rfl Z60 rfl rfl (Z3R t ht s hs k q false ba oa ca (by omega) (by simpa using hq) hcan2 _ _) ?_
 refine bg (fun w hs => ⟨trivial, trivial, (lh Z6H rfl rfl) w hs, trivial⟩) ?_
 rw [show ((n + 1 : Nat) : Int) - 1 = n from by omega]
 refine Zf m2 ?_
 refine clF rfl rfl (Z9g) rfl rfl (ih kv _ _ _ hkv (Zm ht hs hqm hcan (by simp))) ?_
 rintro v _ _ ⟨kv, hkv, rfl, rfl, rfl⟩
 refine bgT (Za 1 rfl (Z0 (Z0 ?_)))
 refine Z8 [0, 1, 3, 7, 15, 0, 63] (.ld 0 (tks 1 3 (.ld 4 (.ld 5 (.big 6 .done))))) Zk (by kernel_rfl) ?_
 refine ld rfl rfl (lh Z1y rfl rfl) rfl (tk rfl (PE.nilCheck rfl) rfl (tk rfl (PE.fA Z6v rfl) rfl (tk rfl (PE.fA Z6m rfl) rfl (ld rfl rfl (lh Zbr rfl rfl) rfl (ld rfl rfl (lhA [_, _, _] Z0f rfl rfl rfl) rfl ?_)))))
 refine Z5C rfl rfl (Z8X) rfl rfl (Z8U t s ba oa ca bt _ _) ?_
 refine bgT ?_
 refine Z2 rfl ?_ ?_ <;> intro hc4
 have hw : ZO t (ef t n) s q = min (ef t n (t.next s q false)) (ef t n (t.next s q true)) := by unfold ZO; rw [hc4]; rfl
 refine Z8 [0, 0, 0, 0, 0, 28, 0, 64, 254, 510, 1023, 2047] (.tk 0 (.ld 1 (.ld 2 (.ld 3 (.tk 4 (.tk 6 (.tk 7 (.big 5 (.big 8 (.big 9 (.big 10 (.tk 11 .done)))))))))))) Zk (by kernel_rfl) ?_
 refine Za 1 rfl (ld rfl rfl (lh Z6H rfl rfl) rfl (ld rfl rfl (lhA [_, _, _, _, _, _, _, _, _, _, _] Z0l rfl rfl rfl) rfl (ld rfl rfl (lhA [_, _, _] Z0f rfl rfl rfl) rfl (Za 2 rfl (tk rfl (PE.sub rfl rfl (by omega)) rfl ?_)))))
 refine clV rfl Z60 rfl rfl (Z3R t ht s hs k q true ba oa ca (by omega) (by simpa using hq) hcan2 _ _) ?_
 refine bg (fun w hs => ⟨trivial, trivial, (lh Z6H rfl rfl) w hs, trivial⟩) ?_
 rw [show ((n + 1 : Nat) : Int) - 1 = n from by omega]
 refine Zf m2 ?_
 refine clF rfl rfl (Z9g) rfl rfl (ih kv _ _ _ hkv (Zm ht hs hqm hcan (fun _ => by simpa using hc4))) ?_
 rintro v _ _ ⟨kv, hkv, rfl, rfl, rfl⟩
 refine bgT ?_
 refine bsl (out := [_]) rfl Z2W zl3 rfl rfl rfl rfl rfl rfl (fun b64 => ?_)
 refine bgT ?_
 refine Sy.heap (fun w h => St.rows (sz := 1) (rows := [[.int .i64 _]]) (rest := []) h (by simp)) ?_
 refine clV rfl Z8M rfl rfl (Z3d _ _ _ _ _ _) ?_
 refine bgT (Za 1 rfl (sqt 2 rfl (pur 2 rfl ?_)))
 refine Z2 rfl ?_ ?_ <;> intro hc5
 have hne : ZO t (ef t n) s q ≠ -1 := by rw [hw]; simpa using hc5
 have hst : efQ t (ef t n) s best q = max best (ZO t (ef t n) s q + q.sacks * q.price) := by simp [efQ, hcan, hne]
 rw [hw] at hst
 have hwb := Z3m (t := t) hbd s q
 rw [hw] at hwb
 refine sqr 10 rfl (pur 2 rfl (sp rfl (PE.fA Z1L rfl) rfl (spL rfl rfl (lh sc3 rfl rfl) rfl (sp rfl (PE.fA Z42 rfl) rfl (spL rfl rfl (lh sc3 rfl rfl) rfl (sp rfl (PE.mul rfl rfl (by omega)) rfl (sp rfl (PE.add rfl rfl (by omega)) rfl (sp rfl (PE.max rfl rfl) rfl (pur 1 rfl (sqr 2 rfl (sp rfl (PE.add rfl rfl (by omega)) rfl (pur 1 rfl ?_))))))))))))
 exact Zt ⟨(k + 1, kv), by omega, hkv⟩ (by dsimp only; omega) (by dsimp only; rw [e, hst]; exact (by repeat' first | exact Sub.nil | apply Sub.cons | rfl | (simp [lk]; omega))) (fun w h => by first | exact h.del b13 | exact (h.del b13).ftail)
 have hne : ZO t (ef t n) s q = -1 := by rw [hw]; simpa using hc5
 have hst : efQ t (ef t n) s best q = best := by simp [efQ, hcan, hne]
 refine Z5 (sqr 2 rfl (sp rfl (PE.add rfl rfl (by omega)) rfl (pur 1 rfl ?_)))
 exact Zt ⟨(k + 1, kv), by omega, hkv⟩ (by dsimp only; omega) (by dsimp only; rw [e, hst]; exact (by repeat' first | exact Sub.nil | apply Sub.cons | rfl | (simp [lk]; omega))) (fun w h => by first | exact h.del b13 | exact (h.del b13).ftail)
 have hw : ZO t (ef t n) s q = ef t n (t.next s q false) := by unfold ZO; rw [hc4]; rfl
 refine Z5 (sqt 2 rfl (pur 2 rfl ?_))
 refine Z2 rfl ?_ ?_ <;> intro hc5
 have hne : ZO t (ef t n) s q ≠ -1 := by rw [hw]; simpa using hc5
 have hst : efQ t (ef t n) s best q = max best (ZO t (ef t n) s q + q.sacks * q.price) := by simp [efQ, hcan, hne]
 rw [hw] at hst
 have hwb := Z3m (t := t) hbd s q
 rw [hw] at hwb
 refine sqr 10 rfl (pur 2 rfl (sp rfl (PE.fA Z1L rfl) rfl (spL rfl rfl (lh sc3 rfl rfl) rfl (sp rfl (PE.fA Z42 rfl) rfl (spL rfl rfl (lh sc3 rfl rfl) rfl (sp rfl (PE.mul rfl rfl (by omega)) rfl (sp rfl (PE.add rfl rfl (by omega)) rfl (sp rfl (PE.max rfl rfl) rfl (pur 1 rfl (sqr 2 rfl (sp rfl (PE.add rfl rfl (by omega)) rfl (pur 1 rfl ?_))))))))))))
 exact Zt ⟨(k + 1, kv), by omega, hkv⟩ (by dsimp only; omega) (by dsimp only; rw [e, hst]; exact (by repeat' first | exact Sub.nil | apply Sub.cons | rfl | (simp [lk]; omega))) (fun w h => by first | exact h.del b13 | exact (h.del b13).ftail)
 have hne : ZO t (ef t n) s q = -1 := by rw [hw]; simpa using hc5
 have hst : efQ t (ef t n) s best q = best := by simp [efQ, hcan, hne]
 refine Z5 (sqr 2 rfl (sp rfl (PE.add rfl rfl (by omega)) rfl (pur 1 rfl ?_)))
 exact Zt ⟨(k + 1, kv), by omega, hkv⟩ (by dsimp only; omega) (by dsimp only; rw [e, hst]; exact (by repeat' first | exact Sub.nil | apply Sub.cons | rfl | (simp [lk]; omega))) (fun w h => by first | exact h.del b13 | exact (h.del b13).ftail)
 simp only [cS] at hc2
 obtain rfl : k = t.rats.length := by omega
 rw [show (t.rats.take t.rats.length).foldl (efQ t (ef t n) s) (-1) = ef t (n + 1) s from by rw [List.take_length]; rfl]
 refine Zg (Zh (Zh (ZJ (sqt 6 rfl (spL rfl rfl (lh ZaC rfl rfl) rfl (spL rfl rfl (lhA [_, _, _] Z0f rfl rfl rfl) rfl (pur 1 rfl (sp rfl (PE.build (out := [_, _, _, _]) Za2 Zak rfl rfl) rfl (pur 1 rfl ?_)))))))))
 refine mpu kv [s.stock, s.short, s.dry, (n + 1 : Nat)] rfl Z8h (KeyT.of Z8C Z8w) rfl rfl rfl rfl hkv.1 ?_
 refine sqt 2 rfl (pur 2 rfl (Z1 ?_))
 first
   | exact Z6 (vs := [_]) (v := .int .i64 (ef t (n + 1) s)) rfl (.cons (RV.tmp rfl) .nil) (by show (kv.get _).getD _ = _; rw [hu]; exact hu2) ⟨kv, hkv, rfl, rfl, rfl⟩ (fun w h => h.del b6)
   | exact rtA rfl rfl rfl ⟨_, hkv.put s (n + 1), rfl, rfl, rfl⟩ (fun w h => h.del b6)
theorem Z5x (t : Twn) (ba oa ca bt bw m m2 c8 c2 c9 c6 : Nat) :
    Zb8 t ba oa ca bt bw m m2 c8 c2 c9 c6 0 := by
 intro kv s H R hR hT h8 h2 h9 h6 hW hkv hs
 refine Zb Try.func73 rfl Try.ntmps73 rfl ?_
 refine sqt 2 rfl (bx rfl rfl rfl (fun b6 => pur 1 rfl (Z0 (sqt 2 rfl (pur 2 rfl ?_)))))
 refine Zw (rfl) ?_
 refine sqt 1 rfl (pur 1 rfl (Z1 ?_))
 exact rtA rfl rfl rfl ⟨_, hkv, rfl, rfl, rfl⟩ (fun w h => h.del b6)
theorem Z6s (t : Twn) (ht : t.ok) (ba oa ca bt bw m m2 c8 c2 c9 c6 : Nat) : ∀ n : Nat, n ≤ 12 → Zb8 t ba oa ca bt bw m m2 c8 c2 c9 c6 n
  | 0, _ => Z5x t ba oa ca bt bw m m2 c8 c2 c9 c6
  | n + 1, h => Z5P t ht ba oa ca bt bw m m2 c8 c2 c9 c6 n (by omega) (Z6s t ht ba oa ca bt bw m m2 c8 c2 c9 c6 n (by omega))
def Z2K (t : Twn) (years : Int) : Value := bif decide (ef t years.toNat t.now = -1) then .tuple #[.int .i64 0, .int .i64 6] else .tuple #[.int .i64 (ef t years.toNat t.now), .int .i64 0]
theorem Z9o (t : Twn) (hl : t.rats.length ≤ 9223372036854775807) (years : Int) (ba oa ca : Nat) (H : Z7) (R : Z4) [hR : MemRows (some ⟨ba, oa, none⟩) 2 (rrows t.rats) R] :
    Fn Try.prog 52 [t.v (t.sl (some ⟨ba, oa, none⟩) ca), .int .i64 years] H R (fun v H' R' => ((t.check ≠ 0 ∧ v = .tuple #[.int .i64 0, .int .i64 t.check]) ∨
      (t.check = 0 ∧ inb years 0 12 = false ∧ v = .tuple #[.int .i64 0, .int .i64 3]) ∨ (t.check = 0 ∧ inb years 0 12 = true ∧ v = Z2K t years)) ∧ H' = H ∧ R' = R) := by
 refine Zb Try.func52 rfl Try.ntmps52 rfl ?_
 refine sqt 3 rfl (bx rfl rfl rfl (fun b2 => pur 2 rfl (sqt 8 rfl (spL rfl rfl (lhA [_, _, _, _, _, _, _, _, _, _, _] Z0l rfl rfl rfl) rfl ?_))))
 refine cl rfl Z8e rfl rfl (Z0V t hl ba oa ca _ _) ?_
 rintro _ _ _ (⟨hck, rfl, rfl, rfl⟩ | ⟨hck, bw, m, bt, rfl, rfl, rfl⟩)
 refine pur 3 rfl (alc rfl Z8j rfl (fun b6 => ?_))
 refine sto rfl rfl rfl Z8r rfl rfl rfl rfl ?_
 refine pur 1 rfl (Z0 (Z3 (sqt 3 rfl (pur 3 rfl ?_))))
 refine Zw (congrArg (fun b => some (Value.bool b)) (dT hck)) ?_
 refine sqt 3 rfl (pur 3 rfl (Z1 ?_))
 exact rtB rfl rfl rfl rfl ⟨.inl ⟨hck, rfl⟩, rfl, rfl⟩ drp
 have hok := (ok_of_check hck).1
 refine pur 3 rfl (alc rfl Z8j rfl (fun b6 => ?_))
 refine sto rfl rfl rfl Z8r rfl rfl rfl rfl ?_
 refine pur 1 rfl (Z0 (Z3 (sqt 3 rfl (pur 3 rfl ?_))))
 refine ZF (rfl) ?_
 refine sqt 4 rfl (pur 1 rfl ?_)
 refine clV rfl Z0Y rfl rfl (Z1B _ _ _ _ _) ?_
 refine pur 2 rfl ?_
 refine Z2 rfl ?_ ?_ <;> intro hc1
 have hib : inb years 0 12 = false := by rw [← Bool.not_eq_true']; exact hc1
 refine sqt 2 rfl (pur 2 rfl (Z1 ?_))
 first
   | exact rtB rfl rfl rfl rfl ⟨.inr (.inl ⟨hck, hib, rfl⟩), rfl, rfl⟩ drp
   | exact Z6 (vs := [_, _]) (v := Z2K t n) rfl (.cons (RV.tmp rfl) (.cons (RV.tmp rfl) .nil)) (by rw [he]; rfl) ⟨.inr (.inr ⟨hck, hib, rfl⟩), rfl, rfl⟩ drp
 have hib : inb years 0 12 = true := by rw [← Bool.not_eq_false']; exact hc1
 have hbd := hib
 simp only [inb, Bool.and_eq_true, decide_eq_true_eq] at hbd
 obtain ⟨n, rfl⟩ : ∃ n : Nat, years = n := ⟨years.toNat, by omega⟩
 refine Z5 (sqt 3 rfl ?_)
 refine mkm rfl rfl true (fun m2 => ?_)
 refine alc rfl Zc3 rfl (fun b8 => ?_)
 refine sto rfl rfl rfl ZbO rfl rfl rfl rfl ?_
 refine sqt 1 rfl (alc rfl Zbp rfl (fun b9 => sqt 2 rfl (sp rfl (PE.makeFunc rfl rfl) rfl ?_)))
 refine sto rfl rfl rfl Zco rfl rfl rfl rfl ?_
 refine sqt 6 rfl (spL rfl rfl (lh Z6H rfl rfl) rfl (sp rfl (PE.fA Z0O rfl) rfl (spL rfl rfl (lhA [_, _, _] Z0f rfl rfl rfl) rfl (pur 1 rfl ?_))))
 refine Zf m2 ?_
 refine clF rfl rfl (Z9g) rfl rfl (Z6s t hok ba oa ca bt bw m m2 b8 b2 b9 b6 n (by omega) [] t.now _ _ (KVok.nil t) hok.now) ?_
 rintro v _ _ ⟨kv, hkv, rfl, rfl, rfl⟩
 refine pur 1 rfl (Z0 (sqt 2 rfl (pur 2 rfl ?_)))
 refine Z2 rfl ?_ ?_ <;> intro hc2
 have he : Z2K t n = .tuple #[.int .i64 0, .int .i64 6] := by unfold Z2K; rw [Int.toNat_natCast, hc2]; rfl
 refine sqt 2 rfl (pur 2 rfl (Z1 ?_))
 first
   | exact rtB rfl rfl rfl rfl ⟨.inr (.inl ⟨hck, hib, rfl⟩), rfl, rfl⟩ drp
   | exact Z6 (vs := [_, _]) (v := Z2K t n) rfl (.cons (RV.tmp rfl) (.cons (RV.tmp rfl) .nil)) (by rw [he]; rfl) ⟨.inr (.inr ⟨hck, hib, rfl⟩), rfl, rfl⟩ drp
 have he : Z2K t n = .tuple #[.int .i64 (ef t n t.now), .int .i64 0] := by unfold Z2K; rw [Int.toNat_natCast, hc2]; rfl
 refine Z5 (sqt 3 rfl (pur 3 rfl (Z1 ?_)))
 first
   | exact rtB rfl rfl rfl rfl ⟨.inr (.inl ⟨hck, hib, rfl⟩), rfl, rfl⟩ drp
   | exact Z6 (vs := [_, _]) (v := Z2K t n) rfl (.cons (RV.tmp rfl) (.cons (RV.tmp rfl) .nil)) (by rw [he]; rfl) ⟨.inr (.inr ⟨hck, hib, rfl⟩), rfl, rfl⟩ drp
theorem ZcM : Z2x Try.prog 48 = some 5 := by kernel_rfl
theorem Zc0 : cal Try.prog 41 = true := by kernel_rfl
theorem ZcQ : ZK Try.prog 48 = some 5 := by kernel_rfl
theorem ZcH : elN Try.prog 34 = some 5 := by kernel_rfl
theorem Z8q : Z00 Try.prog 48 0 = some 0 := by kernel_rfl
theorem Z5i : Z00 Try.prog 48 1 = some 3 := by kernel_rfl
theorem Z6o : Z00 Try.prog 48 2 = some 4 := by kernel_rfl
theorem Z93 : Z61 Try.prog 34 = true := by kernel_rfl
theorem Z8R (t : Twn) (hl : t.rats.length ≤ 9223372036854775807) (tb : List Rw) (a : Option Addr) (c : Nat) (hl2 : tb.length ≤ 9223372036854775807) (ba oa ca : Nat) (H : Z7) (R : Z4) [hR : MemRows (some ⟨ba, oa, none⟩) 2 (rrows t.rats) R] [hR2 : MemRows a 5 (Z1z tb) R] :
    FnV Try.prog 12 [t.v (t.sl (some ⟨ba, oa, none⟩) ca), .slice a tb.length c] H R (.tuple #[.int .i64 (Zp t tb).1, .int .i64 (Zp t tb).2]) := by
 refine Z57 Try.func12 rfl Try.ntmps12 rfl ?_
 refine sqt 3 rfl (bx rfl rfl rfl (fun b2 => pur 2 rfl (Z8c (sqt 8 rfl (spL rfl rfl (lhA [_, _, _, _, _, _, _, _, _, _, _] Z0l rfl rfl rfl) rfl ?_)))))
 refine cl rfl Z8e rfl rfl (Z0V t hl ba oa ca _ _) ?_
 rintro _ _ _ (⟨hck, rfl, rfl, rfl⟩ | ⟨hck, bw, m, bt, rfl, rfl, rfl⟩)
 refine pur 3 rfl (alc rfl Z8j rfl (fun b6 => ?_))
 refine sto rfl rfl rfl Z8r rfl rfl rfl rfl ?_
 refine pur 1 rfl (Z0 (Z3 (sqt 3 rfl (pur 3 rfl ?_))))
 refine Zw (congrArg (fun b => some (Value.bool b)) (dT hck)) ?_
 refine sqt 3 rfl (pur 3 rfl (Z1 ?_))
 have hres : Zp t tb = (0, t.check) := by simp [Zp, hck]
 exact Z9 [] (vs := [_, _]) (v := .tuple #[.int .i64 (Zp t tb).1, .int .i64 (Zp t tb).2]) idH rfl (.cons (RV.tmp rfl) (.cons (RV.tmp rfl) .nil)) (by rw [hres]; rfl) ⟨rfl, rfl, rfl⟩ drp
 ·
  have ht := (ok_of_check hck).1
  have t1 := ht.holds
  have t2 := ht.patience
  have t3 := ht.run
  refine pur 3 rfl (alc rfl Z8j rfl (fun b6 => ?_))
  refine sto rfl rfl rfl Z8r rfl rfl rfl rfl ?_
  refine pur 1 rfl (Z0 (Z3 (sqt 3 rfl (pur 3 rfl ?_))))
  refine ZF (rfl) ?_
  refine sqt 4 rfl (pur 1 rfl (sp rfl (PE.lenSl Z93 rfl) rfl (pur 2 rfl ?_)))
  refine Z2 rfl ?_ ?_ <;> intro hc1
  have hlen : 496 < tb.length := by simp only [decide_eq_true_eq] at hc1; omega
  have hres : Zp t tb = (0, 2) := by simp [Zp, hck, hlen]
  refine sqt 2 rfl (pur 2 rfl (Z1 ?_))
  first
    | exact Z9 [] (vs := [_, _]) (v := .tuple #[.int .i64 (Zp t tb).1, .int .i64 (Zp t tb).2]) idH rfl (.cons (RV.tmp rfl) (.cons (RV.tmp rfl) .nil)) (by rw [hres]; rfl) ⟨rfl, rfl, rfl⟩ drp
    | exact Z9 [bd0] (vs := [_, _]) (v := .tuple #[.int .i64 (Zp t tb).1, .int .i64 (Zp t tb).2]) (fun _ h => h.pull bd0) rfl (.cons (RV.tmp rfl) (.cons (RV.tmp rfl) .nil)) (by rw [hres]; rfl) ⟨rfl, rfl, rfl⟩ drp
  ·
   have hlen : tb.length ≤ 496 := by simp only [decide_eq_false_iff_not] at hc1; omega
   refine Z5 (Z0 (sqt 2 rfl (spL rfl rfl (lhA [_, _, _, _, _, _, _, _, _, _, _] Z0l rfl rfl rfl) rfl ?_)))
   refine cl rfl Z6C rfl rfl (Z1v t (t.sl (some ⟨ba, oa, none⟩) ca) _ _) ?_
   rintro _ _ _ ⟨b31, rfl, rfl, rfl⟩
   refine Z3 ?_
   refine Z1u rfl Z6A (fun c0 bl0 bd0 hcp0 hca0 hcb0 hck0 => ?_)
   refine ⟨fun st pend T R' => st = .ready ∧ pend = none ∧ T = (bd0, .deferred (some [])) :: (b6, cel 81 [.pointer (some ⟨bw, 0, none⟩)]) :: (bw, cel 92 (rcs t (t.sl (some ⟨ba, oa, none⟩) ca) bt (Z4Q t) (.slice none 0 0) m)) :: (m, Z0k true []) :: (b2, cel 27 (twl t (t.sl (some ⟨ba, oa, none⟩) ca))) :: H ∧ R' = RowsA (some ⟨b31, 0, none⟩) 11 [twl t (t.sl (some ⟨ba, oa, none⟩) ca)] :: RowsA (some ⟨bt, 0, none⟩) 11 [twl t (t.sl (some ⟨ba, oa, none⟩) ca)] :: R,
     Fn.mono (Z0T t ht (t.sl (some ⟨ba, oa, none⟩) ca) b31 bl0 (fun k H' R' => H' = (bl0, lob c0 .ready none) :: (bd0, .deferred (some [])) :: (b6, cel 81 [.pointer (some ⟨bw, 0, none⟩)]) :: (bw, cel 92 (rcs t (t.sl (some ⟨ba, oa, none⟩) ca) bt (((sts t).take k).foldl (fun y s => y.set s.ix (-1)) (List.replicate 496 (0 : Int))) (.slice none 0 0) m)) :: (m, Z0k true []) :: (b2, cel 27 (twl t (t.sl (some ⟨ba, oa, none⟩) ca))) :: H ∧ R' = RowsA (some ⟨b31, 0, none⟩) 11 [twl t (t.sl (some ⟨ba, oa, none⟩) ca)] :: RowsA (some ⟨bt, 0, none⟩) 11 [twl t (t.sl (some ⟨ba, oa, none⟩) ca)] :: R) (fun _ _ => False)
       (fun k H' R' h => by rw [h.2]; simp) (fun k s H' R' hk hI => ?_) _ _ ⟨rfl, rfl⟩) (fun v H' R' h => ?_), ?_⟩
   rotate_left
   · rcases h with ⟨rfl, rfl⟩ | h
     · rw [List.take_of_length_le (by rw [Z0F]; exact Nat.le_refl _)]
       exact ⟨.ready, none, _, by simp, .refl _, rfl, rfl, rfl, rfl⟩
     · exact h.elim
   rotate_left
   obtain ⟨rfl, rfl⟩ := hI
   have hs := Ze ht (List.mem_of_getElem? hk)
   have hix := Z1w ht hs
   have q1 := right_iff.1 hs
   have e : ((sts t).take (k + 1)).foldl (fun y s => y.set s.ix (-1)) (List.replicate 496 (0 : Int)) = (((sts t).take k).foldl (fun y s => y.set s.ix (-1)) (List.replicate 496 (0 : Int))).set s.ix (-1) := by rw [List.take_add_one, hk, Option.toList_some, List.foldl_append]; rfl
   rw [e]
   have hyl : (((sts t).take k).foldl (fun y s => y.set s.ix (-1)) (List.replicate 496 (0 : Int))).length = 496 := by rw [Z24, List.length_replicate]
   generalize ((sts t).take k).foldl (fun y s => y.set s.ix (-1)) (List.replicate 496 (0 : Int)) = y at *
   refine Z70 hcp0 hca0 hcb0 hck0 rfl ?_
   refine sqr 2 rfl (alc rfl Z4M rfl (fun b8 => ?_))
   refine sto rfl rfl rfl Z5m rfl rfl rfl rfl ?_
   refine ZY ?_
   refine Z3 ?_
   refine Z8 [0, 0, 2, 0, 8, 0, 32, 1, 129, 391, 927, 2047, 4095] (.ld 0 (.tk 1 (.ld 2 (.tk 3 (.ld 4 (.tk 5 (.ld 6 (tks 7 5 (.big 12 .done))))))))) Zk (by kernel_rfl) ?_
   refine ld rfl rfl (lh Z1y rfl rfl) rfl (tk rfl (PE.fA Z0M rfl) rfl (ld rfl rfl (lh sc3 rfl rfl) rfl (tk rfl (PE.fA Z0u rfl) rfl (ld rfl rfl (lh sc3 rfl rfl) rfl (tk rfl (PE.fA Z10 rfl) rfl (ld rfl rfl (lh sc3 rfl rfl) rfl (tk rfl (PE.nilCheck rfl) rfl (tk rfl (PE.fA ZP rfl) rfl (tk rfl (PE.indexArr Z9O rfl rfl (by omega) (by omega)) rfl (tk rfl (PE.indexArr Z9Y rfl rfl (by omega) (by omega)) rfl (tk rfl (PE.indexArr Z16 rfl rfl (by omega) (by omega)) rfl ?_)))))))))))
   refine Z1S rfl rfl rfl cn3 rfl rfl rfl (Z4f (-1) (i := s.ix) (by omega) (by unfold Sta.ix; omega)) (by rw [Z2f hyl]; show _ + 1 ≤ 510; omega) ?_
   refine bgT ?_
   exact Zs (.inl ⟨rfl, rfl, rfl⟩) (fun _ h => by repeat first | exact h | replace h := St.tail h | replace h := St.ftail h | replace h := St.drop h)
   rintro _ _ _ _ ⟨rfl, rfl, rfl, rfl⟩
   refine Z6T ?_
   refine sqt 1 rfl (pur 1 rfl (Z0 (sqt 3 rfl (pur 1 rfl (sp rfl (PE.lenSl Z93 rfl) rfl (pur 1 rfl (Z3 ?_)))))))
   have hny : (Z4Q t).length = 496 := by rw [Z4Q, Z24, List.length_replicate]
   refine Zj (ι := {x : Nat × Bool × List Int // x.1 ≤ tb.length ∧ x.2.2.length = 496 ∧ Zn t tb false (Z4Q t) = Zn t (tb.drop x.1) x.2.1 x.2.2}) (fun x => ⟨[(1, .slice a tb.length c), (2, .pointer (some ⟨b2, 0, none⟩)), (6, .pointer (some ⟨b6, 0, none⟩)), (9, .bool x.1.2.1), (45, .slice a tb.length c), (46, .int .i64 tb.length), (47, .int .i64 x.1.1)], (bd0, .deferred (some [])) :: (b6, cel 81 [.pointer (some ⟨bw, 0, none⟩)]) :: (bw, cel 92 (rcs t (t.sl (some ⟨ba, oa, none⟩) ca) bt (x.1.2.2) (.slice none 0 0) m)) :: (m, Z0k true []) :: (b2, cel 27 (twl t (t.sl (some ⟨ba, oa, none⟩) ca))) :: H, RowsA (some ⟨b31, 0, none⟩) 11 [twl t (t.sl (some ⟨ba, oa, none⟩) ca)] :: RowsA (some ⟨bt, 0, none⟩) 11 [twl t (t.sl (some ⟨ba, oa, none⟩) ca)] :: R⟩) (fun x => tb.length - x.1.1) ⟨(0, false, Z4Q t), by omega, hny, rfl⟩ ?_ (fun x => ?_)
   exact Zr idH
   obtain ⟨⟨k, tw, y⟩, hk, hyl, hsc⟩ := x
   dsimp only at hk hyl hsc ⊢
   refine sqt 1 rfl (pur 1 rfl (Z0 ?_))
   refine Z2 rfl ?_ ?_ <;> intro hc2
   simp only [cS] at hc2
   obtain ⟨x, hx⟩ : ∃ x, tb[k]? = some x := ⟨_, List.getElem?_eq_getElem (by omega)⟩
   rw [Z7G hx] at hsc
   refine ZE (a := a) (sz := 5) (rows := Z1z tb) (by intro h0; simp [Z1z] at h0; simp [h0] at hx) (fun bx ox he => ?_)
   subst he
   refine Z5 (Z0 (Z3 (sqt 4 rfl (sp rfl (PE.indexAddr ZcH rfl rfl (by omega) (by omega)) rfl (spL rfl rfl (lfA ZcM (row := Z9U x) (by simp [Z1z, hx]) rfl) rfl (alc rfl Zbd rfl (fun b11 => ?_)))))))
   refine sto rfl rfl rfl ZcQ rfl rfl rfl rfl ?_
   refine sqt 4 rfl (sp rfl (PE.fA Z8q rfl) rfl (spL rfl rfl (lhA [_, _, _] Z0f rfl rfl rfl) rfl (alc rfl Z4M rfl (fun b12 => ?_))))
   refine sto rfl rfl rfl Z5m rfl rfl rfl rfl ?_
   refine Z3 (sqt 11 rfl (spL rfl rfl (lhA [_, _, _, _, _, _, _, _, _, _, _] Z0l rfl rfl rfl) rfl (spL rfl rfl (lhA [_, _, _] Z0f rfl rfl rfl) rfl ?_)))
   refine clV rfl Za5 rfl rfl (Z6J t x.st _ _ _) ?_
   refine pur 2 rfl ?_
   refine ZR 81 rfl ?_ ?_ <;> intro g81
   have hr : x.st.right t = false := by rw [← Bool.not_eq_true']; exact g81
   have hres : Zp t tb = (0, 3) := Z1t hck hlen (by rw [hsc]; unfold Zn; rw [hr]; rfl)
   refine pur 6 rfl ?_
   refine Zw rfl ?_
   refine sqt 2 rfl (pur 2 rfl (Z1 ?_))
   first
     | exact Z9 [] (vs := [_, _]) (v := .tuple #[.int .i64 (Zp t tb).1, .int .i64 (Zp t tb).2]) idH rfl (.cons (RV.tmp rfl) (.cons (RV.tmp rfl) .nil)) (by rw [hres]; rfl) ⟨rfl, rfl, rfl⟩ drp
     | exact Z9 [bd0] (vs := [_, _]) (v := .tuple #[.int .i64 (Zp t tb).1, .int .i64 (Zp t tb).2]) (fun _ h => h.pull bd0) rfl (.cons (RV.tmp rfl) (.cons (RV.tmp rfl) .nil)) (by rw [hres]; rfl) ⟨rfl, rfl, rfl⟩ drp
   have hr : x.st.right t = true := by rw [← Bool.not_eq_false']; exact g81
   have hix := Z1w ht hr
   have q1 := right_iff.1 hr
   refine spG rfl rfl rfl rfl (PE.fA Z5i rfl) rfl ?_
   refine Z3F rfl rfl rfl rfl rfl (lh sc3 rfl rfl) rfl ?_
   refine Z1M rfl rfl rfl rfl Z0Y rfl rfl (Z1B _ _ _ _ _) ?_
   refine pur 3 rfl ?_
   refine Z2 rfl ?_ ?_ <;> intro hc3
   have hib : inb x.lasts 0 1000000 = false := by rw [← Bool.not_eq_true']; exact hc3
   have hres : Zp t tb = (0, 3) := Z1t hck hlen (by rw [hsc]; unfold Zn; rw [hr, hib]; rfl)
   refine sqt 2 rfl (pur 2 rfl (Z1 ?_))
   first
     | exact Z9 [] (vs := [_, _]) (v := .tuple #[.int .i64 (Zp t tb).1, .int .i64 (Zp t tb).2]) idH rfl (.cons (RV.tmp rfl) (.cons (RV.tmp rfl) .nil)) (by rw [hres]; rfl) ⟨rfl, rfl, rfl⟩ drp
     | exact Z9 [bd0] (vs := [_, _]) (v := .tuple #[.int .i64 (Zp t tb).1, .int .i64 (Zp t tb).2]) (fun _ h => h.pull bd0) rfl (.cons (RV.tmp rfl) (.cons (RV.tmp rfl) .nil)) (by rw [hres]; rfl) ⟨rfl, rfl, rfl⟩ drp
   have hib : inb x.lasts 0 1000000 = true := by rw [← Bool.not_eq_false']; exact hc3
   refine sqt 6 rfl (spL rfl rfl (lhA [_, _, _, _, _, _, _, _, _, _, _] Z0l rfl rfl rfl) rfl (sp rfl (PE.fA Z6o rfl) rfl (spL rfl rfl (lh sc3 rfl rfl) rfl ?_)))
   refine clV rfl Zc0 rfl rfl (Z7C t x.ration _ _ hl _ _) ?_
   refine pur 2 rfl ?_
   refine Z2 rfl ?_ ?_ <;> intro hc4
   have hnr := Z81 (t := t) (r := x.ration) (by rw [← Bool.not_eq_true']; exact hc4)
   have hres : Zp t tb = (0, 1) := Z1t hck hlen (by rw [hsc]; unfold Zn; rw [hr, hib, hnr]; rfl)
   refine sqt 2 rfl (pur 2 rfl (Z1 ?_))
   first
     | exact Z9 [] (vs := [_, _]) (v := .tuple #[.int .i64 (Zp t tb).1, .int .i64 (Zp t tb).2]) idH rfl (.cons (RV.tmp rfl) (.cons (RV.tmp rfl) .nil)) (by rw [hres]; rfl) ⟨rfl, rfl, rfl⟩ drp
     | exact Z9 [bd0] (vs := [_, _]) (v := .tuple #[.int .i64 (Zp t tb).1, .int .i64 (Zp t tb).2]) (fun _ h => h.pull bd0) rfl (.cons (RV.tmp rfl) (.cons (RV.tmp rfl) .nil)) (by rw [hres]; rfl) ⟨rfl, rfl, rfl⟩ drp
   obtain ⟨hr0, q, hq⟩ := Zb2 (t := t) (r := x.ration) (by rw [← Bool.not_eq_false']; exact hc4)
   have hrq := Z50 hr0 hq
   refine sqt 7 rfl (spL rfl rfl (lhA [_, _, _, _, _, _, _, _, _, _, _] Z0l rfl rfl rfl) rfl (spL rfl rfl (lhA [_, _, _] Z0f rfl rfl rfl) rfl (sp rfl (PE.fA Z6o rfl) rfl (spL rfl rfl (lh sc3 rfl rfl) rfl ?_))))
   refine clV rfl Z9C rfl rfl (Z2m t x.st x.ration q ba oa ca hr0 hq _ _) ?_
   refine pur 2 rfl ?_
   refine Z2 rfl ?_ ?_ <;> intro hc5
   have hcan : t.can x.st q = false := by rw [← Bool.not_eq_true']; exact hc5
   have hres : Zp t tb = (0, 9) := Z1t hck hlen (by rw [hsc]; unfold Zn; rw [hr, hib, hrq]; simp [hcan])
   refine sqt 2 rfl (pur 2 rfl (Z1 ?_))
   first
     | exact Z9 [] (vs := [_, _]) (v := .tuple #[.int .i64 (Zp t tb).1, .int .i64 (Zp t tb).2]) idH rfl (.cons (RV.tmp rfl) (.cons (RV.tmp rfl) .nil)) (by rw [hres]; rfl) ⟨rfl, rfl, rfl⟩ drp
     | exact Z9 [bd0] (vs := [_, _]) (v := .tuple #[.int .i64 (Zp t tb).1, .int .i64 (Zp t tb).2]) (fun _ h => h.pull bd0) rfl (.cons (RV.tmp rfl) (.cons (RV.tmp rfl) .nil)) (by rw [hres]; rfl) ⟨rfl, rfl, rfl⟩ drp
   have hcan : t.can x.st q = true := by rw [← Bool.not_eq_false']; exact hc5
   refine Z0 ?_
   refine Z8 [0, 1, 3, 7, 15, 3, 63, 127, 255, 511] (.tk 0 (.tk 1 (.ld 2 (.tk 3 (.tk 4 (.ld 5 (.big 6 (tks 7 3 .done)))))))) Zk (by kernel_rfl) ?_
   refine Za 2 rfl ?_
   refine ZR 54 rfl ?_ ?_ <;> intro g54
   subst g54
   have hst : Zn t tb false (Z4Q t) = Zn t (tb.drop (k + 1)) true (y.set x.st.ix x.lasts) := by rw [hsc, Zn, hr, hib, hrq]; simp [hcan]
   refine ldN rfl rfl rfl rfl rfl rfl rfl rfl ?_
   refine Za 2 rfl ?_
   refine ldN rfl rfl rfl rfl rfl rfl rfl rfl ?_
   refine spN rfl rfl rfl rfl rfl rfl rfl rfl ?_
   refine bgT (Za 3 rfl ?_)
   refine Z8 [0, 0, 2, 0, 8, 0, 32, 0, 128, 1, 513, 1543, 3615, 8191, 16383] (.ld 0 (.tk 1 (.ld 2 (.tk 3 (.ld 4 (.tk 5 (.ld 6 (.tk 7 (.ld 8 (tks 9 5 (.big 14 .done))))))))))) Zk (by kernel_rfl) ?_
   refine ld rfl rfl (lh Z1y rfl rfl) rfl (tk rfl (PE.fA Z0M rfl) rfl (ld rfl rfl (lh sc3 rfl rfl) rfl (tk rfl (PE.fA Z0u rfl) rfl (ld rfl rfl (lh sc3 rfl rfl) rfl (tk rfl (PE.fA Z10 rfl) rfl (ld rfl rfl (lh sc3 rfl rfl) rfl (tk rfl (PE.fA Z5i rfl) rfl (ld rfl rfl (lh sc3 rfl rfl) rfl (tk rfl (PE.nilCheck rfl) rfl (tk rfl (PE.fA ZP rfl) rfl (tk rfl (PE.indexArr Z9O rfl rfl (by omega) (by omega)) rfl (tk rfl (PE.indexArr Z9Y rfl rfl (by omega) (by omega)) rfl (tk rfl (PE.indexArr Z16 rfl rfl (by omega) (by omega)) rfl ?_)))))))))))))
   refine Z1S rfl rfl rfl cn3 rfl rfl rfl (Z4f x.lasts (i := x.st.ix) (by omega) (by unfold Sta.ix; omega)) (by rw [Z2f hyl]; show _ + 1 ≤ 510; omega) ?_
   refine bgT (sqr 2 rfl (sp rfl (PE.add rfl rfl (by omega)) rfl (pur 1 rfl ?_)))
   exact ZC ⟨(k + 1, _, y.set x.st.ix x.lasts), by omega, by simpa using hyl, hst⟩ drp
   subst g54
   have hst : Zn t tb false (Z4Q t) = Zn t (tb.drop (k + 1)) (decide (lat y x.st ≠ -1)) (y.set x.st.ix x.lasts) := by rw [hsc, Zn, hr, hib, hrq]; simp [hcan]
   refine ldG rfl rfl rfl rfl rfl (lh Z1y rfl rfl) rfl ?_
   refine tkG rfl rfl rfl rfl (PE.nilCheck rfl) rfl ?_
   refine tkG rfl rfl rfl rfl (PE.fA ZP rfl) rfl ?_
   refine ldG rfl rfl rfl rfl rfl (lhA [_, _, _] Z0f rfl rfl rfl) rfl ?_
   refine Z1M rfl rfl rfl rfl Z1W rfl rfl (Z5U t ht x.st hr ba oa ca bt bw m y (.slice none 0 0) hyl _ _) ?_
   refine bgT (Za 3 rfl ?_)
   refine Z8 [0, 0, 2, 0, 8, 0, 32, 0, 128, 1, 513, 1543, 3615, 8191, 16383] (.ld 0 (.tk 1 (.ld 2 (.tk 3 (.ld 4 (.tk 5 (.ld 6 (.tk 7 (.ld 8 (tks 9 5 (.big 14 .done))))))))))) Zk (by kernel_rfl) ?_
   refine ld rfl rfl (lh Z1y rfl rfl) rfl (tk rfl (PE.fA Z0M rfl) rfl (ld rfl rfl (lh sc3 rfl rfl) rfl (tk rfl (PE.fA Z0u rfl) rfl (ld rfl rfl (lh sc3 rfl rfl) rfl (tk rfl (PE.fA Z10 rfl) rfl (ld rfl rfl (lh sc3 rfl rfl) rfl (tk rfl (PE.fA Z5i rfl) rfl (ld rfl rfl (lh sc3 rfl rfl) rfl (tk rfl (PE.nilCheck rfl) rfl (tk rfl (PE.fA ZP rfl) rfl (tk rfl (PE.indexArr Z9O rfl rfl (by omega) (by omega)) rfl (tk rfl (PE.indexArr Z9Y rfl rfl (by omega) (by omega)) rfl (tk rfl (PE.indexArr Z16 rfl rfl (by omega) (by omega)) rfl ?_)))))))))))))
   refine Z1S rfl rfl rfl cn3 rfl rfl rfl (Z4f x.lasts (i := x.st.ix) (by omega) (by unfold Sta.ix; omega)) (by rw [Z2f hyl]; show _ + 1 ≤ 510; omega) ?_
   refine bgT (sqr 2 rfl (sp rfl (PE.add rfl rfl (by omega)) rfl (pur 1 rfl ?_)))
   exact ZC ⟨(k + 1, _, y.set x.st.ix x.lasts), by omega, by simpa using hyl, hst⟩ drp
   simp only [cS] at hc2
   obtain rfl : k = tb.length := by omega
   rw [List.drop_length] at hsc
   have hsc2 : Zn t tb false (Z4Q t) = .ok (tw, y) := hsc
   have hok := Z2q tb _ _ _ hsc2
   refine Zg (Zh (Zh (ZJ (Z0 (sqt 1 rfl (pur 1 rfl ?_))))))
   refine Z2 rfl ?_ ?_ <;> intro hc6
   subst hc6
   have hres : Zp t tb = (0, 5) := Z1x hck hlen hsc2
   refine sqt 2 rfl (pur 2 rfl (Z1 ?_))
   first
     | exact Z9 [] (vs := [_, _]) (v := .tuple #[.int .i64 (Zp t tb).1, .int .i64 (Zp t tb).2]) idH rfl (.cons (RV.tmp rfl) (.cons (RV.tmp rfl) .nil)) (by rw [hres]; rfl) ⟨rfl, rfl, rfl⟩ drp
     | exact Z9 [bd0] (vs := [_, _]) (v := .tuple #[.int .i64 (Zp t tb).1, .int .i64 (Zp t tb).2]) (fun _ h => h.pull bd0) rfl (.cons (RV.tmp rfl) (.cons (RV.tmp rfl) .nil)) (by rw [hres]; rfl) ⟨rfl, rfl, rfl⟩ drp
   subst hc6
   refine Z5 (sqt 1 rfl (pur 1 rfl (Z0 (Z7y (Z0 (sqt 3 rfl (pur 1 rfl (sp rfl (PE.lenSl Z93 rfl) rfl (pur 1 rfl (Z3 ?_))))))))))
   refine Zj (ι := {k : Nat // k ≤ tb.length ∧ ∀ i x, i < k → tb[i]? = some x → Z07 t y x = true}) (fun k => ⟨[(2, .pointer (some ⟨b2, 0, none⟩)), (6, .pointer (some ⟨b6, 0, none⟩)), (13, .bool true), (102, .slice a tb.length c), (103, .int .i64 tb.length), (104, .int .i64 k.1)], (bd0, .deferred (some [])) :: (b6, cel 81 [.pointer (some ⟨bw, 0, none⟩)]) :: (bw, cel 92 (rcs t (t.sl (some ⟨ba, oa, none⟩) ca) bt (y) (.slice none 0 0) m)) :: (m, Z0k true []) :: (b2, cel 27 (twl t (t.sl (some ⟨ba, oa, none⟩) ca))) :: H, RowsA (some ⟨b31, 0, none⟩) 11 [twl t (t.sl (some ⟨ba, oa, none⟩) ca)] :: RowsA (some ⟨bt, 0, none⟩) 11 [twl t (t.sl (some ⟨ba, oa, none⟩) ca)] :: R⟩) (fun k => tb.length - k.1) ⟨0, by omega, by omega⟩ ?_ (fun k => ?_)
   exact Zr idH
   obtain ⟨k, hk, hkp⟩ := k
   dsimp only at hk hkp ⊢
   refine sqt 1 rfl (pur 1 rfl (Z0 ?_))
   refine Z2 rfl ?_ ?_ <;> intro hc7
   simp only [cS] at hc7
   obtain ⟨x, hx⟩ : ∃ x, tb[k]? = some x := ⟨_, List.getElem?_eq_getElem (by omega)⟩
   obtain ⟨hr, hib, q, hrq, hcan⟩ := hok x (List.mem_of_getElem? hx)
   obtain ⟨hr0, hq⟩ := rat_iff.1 hrq
   have htk : Z07 t y x = t.keeps y x.st q x.lasts := by unfold Z07; rw [hrq]
   refine ZE (a := a) (sz := 5) (rows := Z1z tb) (by intro h0; simp [Z1z] at h0; simp [h0] at hx) (fun bx ox he => ?_)
   subst he
   refine Z5 (Z0 (Z3 (sqt 4 rfl (sp rfl (PE.indexAddr ZcH rfl rfl (by omega) (by omega)) rfl (spL rfl rfl (lfA ZcM (row := Z9U x) (by simp [Z1z, hx]) rfl) rfl (alc rfl Zbd rfl (fun b15 => ?_)))))))
   refine sto rfl rfl rfl ZcQ rfl rfl rfl rfl ?_
   refine sqt 9 rfl (spL rfl rfl (lh Z1y rfl rfl) rfl (sp rfl (PE.fA Z8q rfl) rfl (spL rfl rfl (lhA [_, _, _] Z0f rfl rfl rfl) rfl (sp rfl (PE.fA Z6o rfl) rfl (spL rfl rfl (lh sc3 rfl rfl) rfl (sp rfl (PE.fA Z5i rfl) rfl (spL rfl rfl (lh sc3 rfl rfl) rfl ?_)))))))
   refine clV rfl Z7v rfl rfl (Z3A t ht x.st hr x.ration q hr0 hq x.lasts hib ba oa ca bt bw m y (.slice none 0 0) hyl _ _) ?_
   refine pur 1 rfl (sqt 2 rfl (pur 2 rfl ?_))
   refine Z2 rfl ?_ ?_ <;> intro hc8
   have hkf : Z07 t y x = false := by rw [htk, ← Bool.not_eq_true']; exact hc8
   have hall : tb.all (Z07 t y) = false := by rw [List.all_eq_false]; exact ⟨x, List.mem_of_getElem? hx, by simp [hkf]⟩
   have hres : Zp t tb = (0, 8) := by rw [Z1x hck hlen hsc2]; unfold Z1H; rw [hall]; rfl
   refine Zg (Z8z (by decide) (Zh (Zh (ZJ (Z0 ?_)))))
   refine Z8 [0, 1, 3, 0, 8, 31, 63] (.ld 0 (tks 1 3 (.ld 4 (.big 5 (.tk 6 .done))))) Zk (by kernel_rfl) ?_
   refine ld rfl rfl (lh Z1y rfl rfl) rfl (tk rfl (PE.nilCheck rfl) rfl (tk rfl (PE.fA ZP rfl) rfl (tk rfl (PE.fA Z0O rfl) rfl (ld rfl rfl (lhA [_, _, _] Z0f rfl rfl rfl) rfl ?_))))
   refine clV rfl Z1W rfl rfl (Z5U t ht t.now ht.now ba oa ca bt bw m y (.slice none 0 0) hyl _ _) ?_
   refine bgT (Za 1 rfl (Z3 (sqt 3 rfl (pur 3 rfl ?_))))
   refine Zw (congrArg (fun b => some (Value.bool b)) hc8) ?_
   refine sqt 2 rfl (pur 2 rfl (Z1 ?_))
   first
     | exact Z9 [] (vs := [_, _]) (v := .tuple #[.int .i64 (Zp t tb).1, .int .i64 (Zp t tb).2]) idH rfl (.cons (RV.tmp rfl) (.cons (RV.tmp rfl) .nil)) (by rw [hres]; rfl) ⟨rfl, rfl, rfl⟩ drp
     | exact Z9 [bd0] (vs := [_, _]) (v := .tuple #[.int .i64 (Zp t tb).1, .int .i64 (Zp t tb).2]) (fun _ h => h.pull bd0) rfl (.cons (RV.tmp rfl) (.cons (RV.tmp rfl) .nil)) (by rw [hres]; rfl) ⟨rfl, rfl, rfl⟩ drp
   have hkt : Z07 t y x = true := by rw [htk, ← Bool.not_eq_false']; exact hc8
   refine Z5 (sqr 2 rfl (sp rfl (PE.add rfl rfl (by omega)) rfl (pur 1 rfl ?_)))
   exact Zt ⟨k + 1, by omega, fun i z hi hz => by
     rcases Nat.lt_or_ge i k with h1 | h1
     · exact hkp i z h1 hz
     · obtain rfl : i = k := by omega
       rw [hx] at hz; cases hz; exact hkt⟩ (by dsimp only; omega) (by rw [← htk, hkt]; exact (by repeat' first | exact Sub.nil | apply Sub.cons | rfl | (simp [lk]; omega))) drp
   simp only [cS] at hc7
   obtain rfl : k = tb.length := by omega
   have hall : tb.all (Z07 t y) = true := List.all_eq_true.2 fun x hx => by
     obtain ⟨i, hi⟩ := List.getElem?_of_mem hx
     exact hkp i x (List.getElem?_eq_some_iff.1 hi).1 hi
   have hfe : Z1H t tb false y = bif decide (lat y t.now = -1) then (0, 6) else (lat y t.now, 0) := by unfold Z1H; rw [hall]; rfl
   refine Zg (Zh (Zh (ZJ (Z0 ?_))))
   refine Z8 [0, 1, 3, 0, 8, 31, 63] (.ld 0 (tks 1 3 (.ld 4 (.big 5 (.tk 6 .done))))) Zk (by kernel_rfl) ?_
   refine ld rfl rfl (lh Z1y rfl rfl) rfl (tk rfl (PE.nilCheck rfl) rfl (tk rfl (PE.fA ZP rfl) rfl (tk rfl (PE.fA Z0O rfl) rfl (ld rfl rfl (lhA [_, _, _] Z0f rfl rfl rfl) rfl ?_))))
   refine clV rfl Z1W rfl rfl (Z5U t ht t.now ht.now ba oa ca bt bw m y (.slice none 0 0) hyl _ _) ?_
   refine bgT (Za 1 rfl (Z3 (sqt 3 rfl (pur 3 rfl ?_))))
   refine ZF (rfl) ?_
   refine sqt 3 rfl (pur 3 rfl ?_)
   refine Z2 rfl ?_ ?_ <;> intro hc10
   have hres : Zp t tb = (0, 6) := by rw [Z1x hck hlen hsc2, hfe, hc10]; rfl
   refine sqt 2 rfl (pur 2 rfl (Z1 ?_))
   first
     | exact Z9 [] (vs := [_, _]) (v := .tuple #[.int .i64 (Zp t tb).1, .int .i64 (Zp t tb).2]) idH rfl (.cons (RV.tmp rfl) (.cons (RV.tmp rfl) .nil)) (by rw [hres]; rfl) ⟨rfl, rfl, rfl⟩ drp
     | exact Z9 [bd0] (vs := [_, _]) (v := .tuple #[.int .i64 (Zp t tb).1, .int .i64 (Zp t tb).2]) (fun _ h => h.pull bd0) rfl (.cons (RV.tmp rfl) (.cons (RV.tmp rfl) .nil)) (by rw [hres]; rfl) ⟨rfl, rfl, rfl⟩ drp
   have hres : Zp t tb = (lat y t.now, 0) := by rw [Z1x hck hlen hsc2, hfe, hc10]; rfl
   refine sqt 3 rfl (pur 3 rfl (Z1 ?_))
   first
     | exact Z9 [] (vs := [_, _]) (v := .tuple #[.int .i64 (Zp t tb).1, .int .i64 (Zp t tb).2]) idH rfl (.cons (RV.tmp rfl) (.cons (RV.tmp rfl) .nil)) (by rw [hres]; rfl) ⟨rfl, rfl, rfl⟩ drp
     | exact Z9 [bd0] (vs := [_, _]) (v := .tuple #[.int .i64 (Zp t tb).1, .int .i64 (Zp t tb).2]) (fun _ h => h.pull bd0) rfl (.cons (RV.tmp rfl) (.cons (RV.tmp rfl) .nil)) (by rw [hres]; rfl) ⟨rfl, rfl, rfl⟩ drp
end Go.Proofs.Ythhdgeibokecjaa.Bd
namespace Go.Proofs.Ythhdgeibokecjaa.Bd
set_option linter.unusedSimpArgs false
set_option linter.unusedVariables false
def Clo (t : Twn) (n : Nat) (B X : Sta → Prop) : Prop :=
  ∀ u, X u → u.right t = true ∧ ∃ q ∈ t.rats, t.can u q = true ∧ X (t.next u q false) ∧ (n = 0 ∨ ¬ u.dry < t.run ∨ B (t.next u q true))
def Srv (t : Twn) : Nat → Sta → Prop
  | 0 => fun s => ∃ X, Clo t 0 (fun _ => True) X ∧ X s
  | n + 1 => fun s => ∃ X, Clo t (n + 1) (Srv t n) X ∧ X s
def Bf (t : Twn) : Nat → Sta → Prop
  | 0 => fun _ => True
  | n + 1 => Srv t n
theorem srv_iff {t : Twn} {n : Nat} {s : Sta} : Srv t n s ↔ ∃ X, Clo t n (Bf t n) X ∧ X s := by cases n <;> rfl
theorem Z0x {t : Twn} {n : Nat} {X : Sta → Prop} (h : Clo t n (Bf t n) X) {s : Sta} (hs : X s) : Srv t n s := srv_iff.2 ⟨X, h, hs⟩
theorem Z0R (t : Twn) (n : Nat) : Clo t n (Bf t n) (Srv t n) := fun u hu => by
  obtain ⟨X, hX, hu⟩ := srv_iff.1 hu
  obtain ⟨h1, q, hq, hc, hg, hb⟩ := hX u hu
  exact ⟨h1, q, hq, hc, Z0x hX hg, hb⟩
theorem Z0t {t : Twn} {n : Nat} {s : Sta} (h : Srv t n s) : s.right t = true := (Z0R t n s h).1
theorem Z4X {t : Twn} : ∀ {n : Nat} {s : Sta}, Srv t (n + 1) s → Srv t n s
  | 0, s, h => Z0x (X := Srv t 1) (fun u hu => by
      obtain ⟨h1, q, hq, hc, hg, _⟩ := Z0R t 1 u hu
      exact ⟨h1, q, hq, hc, hg, .inl rfl⟩) h
  | n + 1, s, h => Z0x (X := Srv t (n + 2)) (fun u hu => by
      obtain ⟨h1, q, hq, hc, hg, hb⟩ := Z0R t (n + 2) u hu
      refine ⟨h1, q, hq, hc, hg, ?_⟩
      rcases hb with hb | hb | hb
      · omega
      · exact .inr (.inl hb)
      · exact .inr (.inr (Z4X (n := n) hb))) h
theorem Z4e {t : Twn} {s : Sta} {m : Nat} : ∀ {n : Nat}, m ≤ n → Srv t n s → Srv t m s
  | 0, h, hs => by obtain rfl : m = 0 := by omega
                   exact hs
  | n + 1, h, hs => by
    rcases Nat.lt_or_ge m (n + 1) with h1 | h1
    · exact Z4e (n := n) (by omega) (Z4X hs)
    · obtain rfl : m = n + 1 := by omega
      exact hs
def Pn (t : Twn) (n : Nat) (s : Sta) (v : Int) : Prop := (v = 1000000 ∧ ∀ j < n, Srv t j s) ∨ ∃ k : Nat, k < n ∧ v = k - 1 ∧ ¬ Srv t k s ∧ ∀ j < k, Srv t j s
def Mid (t : Twn) (n : Nat) (s : Sta) (v : Int) : Prop := (v = 1000000 ∧ ∀ j < n, Srv t j s) ∨ ∃ k : Nat, k < n + 1 ∧ v = k - 1 ∧ ¬ Srv t k s ∧ ∀ j < k, Srv t j s
theorem Z7H {t : Twn} (ht : t.ok) {n : Nat} (hn : n ≤ 496) {y : List Int} (hm : ∀ s ∈ sts t, Mid t n s (lat y s)) {s : Sta} (hs : Srv t n s) : (t.rats.any fun q => t.keeps y s q n) = true := by
  obtain ⟨h1, q, hq, hc, hg, hb⟩ := Z0R t n s hs
  refine List.any_eq_true.2 ⟨q, hq, ?_⟩
  unfold Twn.keeps
  have hg1 : (n : Int) ≤ lat y (t.next s q false) := by
    rcases hm _ (ZB (Z0t hg)) with ⟨h, _⟩ | ⟨k, hk, h, hno, _⟩
    · omega
    · exact absurd (Z4e (by omega) hg) hno
  have hne : ¬ (n : Int) = 1000000 := by omega
  simp only [hc, hg1, decide_true, Bool.true_and, hne, decide_false, cond_false]
  rcases hb with hb | hb | hb
  · simp [hb]
  · simp [hb]
  · cases n with
    | zero => simp
    | succ m =>
      have hb' : Srv t m (t.next s q true) := hb
      have : ((m + 1 : Nat) : Int) - 1 ≤ lat y (t.next s q true) := by
        rcases hm _ (ZB (Z0t hb')) with ⟨h, _⟩ | ⟨k, hk, h, hno, _⟩
        · omega
        · rcases Nat.lt_or_ge m k with h2 | h2
          · omega
          · exact absurd (Z4e h2 hb') hno
      have h9 : (m : Int) ≤ lat y (t.next s q true) := by omega
      simp [h9]
theorem Z8a {t : Twn} (ht : t.ok) {n : Nat} (hn : n ≤ 496) {σ : Sv} (hy : σ.y.length = 496) (hm : ∀ s ∈ sts t, Mid t n s (lat σ.y s)) {u : Sta} (hu : u ∈ sts t) : ∀ s ∈ sts t, Mid t n s (lat (σ.step t n u).y s) := by
  intro s hs
  unfold Sv.step
  cases hc : Z2F σ.y u && !(t.rats.any fun q => t.keeps σ.y u q n) with
  | false => exact hm s hs
  | true =>
    simp only [Bool.and_eq_true, Bool.not_eq_true'] at hc
    simp only [cond_true]
    by_cases he : u.ix = s.ix
    · have := Z1o ht (Ze ht hu) (Ze ht hs) he
      subst this
      rw [Zz (by rw [hy]; exact Z1w ht (Ze ht hs))]
      refine .inr ⟨n, by omega, rfl, fun h => ?_, ?_⟩
      · rw [Z7H ht hn hm h] at hc; cases hc.2
      · have h1 : lat σ.y u = 1000000 := by simpa [Z2F] using hc.1
        rcases hm u hs with ⟨_, h⟩ | ⟨k, hk, h, _⟩
        · exact h
        · omega
    · rw [ZM he]; exact hm s hs
theorem Z5n {t : Twn} (ht : t.ok) {n : Nat} (hn : n ≤ 496) : ∀ (l : List Sta) (σ : Sv), σ.y.length = 496 → (∀ s ∈ l, s ∈ sts t) → (∀ s ∈ sts t, Mid t n s (lat σ.y s)) → ∀ s ∈ sts t, Mid t n s (lat (l.foldl (Sv.step t n) σ).y s)
  | [], _, _, _, h => h
  | u :: l, σ, hy, hl, h => Z5n ht hn l _ (by rw [Z1j]; exact hy) (fun s hs => hl s (by simp [hs])) (Z8a ht hn hy h (hl u (by simp)))
theorem Z2Z {t : Twn} (ht : t.ok) {n : Nat} (hn : n ≤ 496) : ∀ (j : Nat) (σ : Sv), σ.y.length = 496 → (∀ s ∈ sts t, Mid t n s (lat σ.y s)) → ∀ s ∈ sts t, Mid t n s (lat (passes t n j σ).y s)
  | 0, _, _, h => h
  | j + 1, σ, hy, h => Z5n ht hn (sts t) _ (by rw [ZT]; exact hy) (fun _ h => h) (Z2Z ht hn j σ hy h)
theorem Z51 {t : Twn} (ht : t.ok) {n : Int} (hn : n ≤ 1000000) : ∀ (l : List Sta) (σ : Sv), σ.y.length = 496 → (∀ s ∈ l, s ∈ sts t) → l.foldl (Sv.step t n) σ = σ → ∀ s ∈ l, σ.step t n s = σ
  | [], _, _, _, _, _, h => by cases h
  | u :: l, σ, hy, hl, h, s, hs => by
    rw [List.foldl_cons] at h
    have hu : σ.step t n u = σ := by
      rcases Z5d ht hn hy (hl u (by simp)) with h1 | ⟨h1, _⟩
      · exact h1
      · obtain ⟨h2, _⟩ := Z22 ht hn l (σ.step t n u) (by rw [Z1j]; exact hy) (fun s hs => hl s (by simp [hs]))
        rw [h] at h2
        rcases h2 with h2 | h2
        · rw [← h2] at h1; omega
        · omega
    rw [hu] at h
    rcases List.mem_cons.1 hs with rfl | hs
    · exact hu
    · exact Z51 ht hn l σ hy (fun s hs => hl s (by simp [hs])) h s hs
theorem Z5Z {t : Twn} (ht : t.ok) {n : Int} (hn : n ≤ 1000000) {σ : Sv} (hy : σ.y.length = 496) (h : pass t n σ = σ) {s : Sta} (hs : s ∈ sts t) (he : lat σ.y s = 1000000) : ∃ q ∈ t.rats, t.keeps σ.y s q n = true := by
  have h1 := Z51 ht hn (sts t) σ hy (fun _ h => h) h s hs
  cases hc : t.rats.any fun q => t.keeps σ.y s q n with
  | true => exact List.any_eq_true.1 hc
  | false =>
    exfalso
    unfold Sv.step at h1
    have he' : Z2F σ.y s = true := by simp [Z2F, he]
    rw [he', hc] at h1
    have h2 := congrArg (fun σ => σ.fl.length) h1
    simp at h2
theorem Z6z {t : Twn} (ht : t.ok) {n : Nat} (hn : n ≤ 496) {σ : Sv} (hy : σ.y.length = 496) (hm : ∀ s ∈ sts t, Mid t n s (lat σ.y s)) (hf : pass t n σ = σ) : ∀ s ∈ sts t, Pn t (n + 1) s (lat σ.y s) := by
  intro s hs
  rcases hm s hs with ⟨h1, h2⟩ | h
  · refine .inl ⟨h1, fun j hj => ?_⟩
    rcases Nat.lt_or_ge j n with h3 | h3
    · exact h2 j h3
    obtain rfl : j = n := by omega
    refine Z0x (X := fun s => s ∈ sts t ∧ lat σ.y s = 1000000) (fun u ⟨hu, hue⟩ => ?_) ⟨hs, h1⟩
    obtain ⟨q, hq, hk⟩ := Z5Z ht (by omega) hy hf hu hue
    have hur := Ze ht hu
    unfold Twn.keeps at hk
    simp only [Bool.and_eq_true, Bool.or_eq_true, decide_eq_true_eq, Bool.not_eq_true', decide_eq_false_iff_not] at hk
    obtain ⟨⟨hc, hg⟩, hb⟩ := hk
    have hgr := ZB (Zm (bad := false) ht hur hq hc (by simp))
    refine ⟨hur, q, hq, hc, ⟨hgr, ?_⟩, ?_⟩
    · rcases hm _ hgr with ⟨h, _⟩ | ⟨k, hk, h, _⟩
      · exact h
      · omega
    · by_cases hd : u.dry < t.run
      · cases j with
        | zero => exact .inl rfl
        | succ m =>
          right; right
          show Srv t m _
          have hbr := ZB (Zm (bad := true) ht hur hq hc (fun _ => hd))
          have hb2 : (m : Int) ≤ lat σ.y (t.next u q true) := by
            rcases hb with (hb | hb) | hb
            · omega
            · exact absurd hd hb
            · rw [show decide (((m + 1 : Nat) : Int) = 1000000) = false from by simp; omega, cond_false] at hb
              omega
          rcases hm _ hbr with ⟨_, h⟩ | ⟨k, hk, h, _, h2⟩
          · exact h m (by omega)
          · exact h2 m (by omega)
      · exact .inr (.inl hd)
  · exact .inr h
theorem Z9F {t : Twn} (ht : t.ok) {n : Nat} {σ : Sv} (h : Rd t n σ) : ∀ s ∈ sts t, Pn t n s (lat σ.y s) := by
  induction h with
  | zero => exact fun s hs => .inl ⟨Z34 ht hs, fun j hj => by omega⟩
  | next j h h1 h2 ih =>
    rename_i m σ
    obtain ⟨hy, hc, _⟩ := Z5B ht h
    refine Z6z ht (by omega) (by rw [ZT]; exact hy) (Z2Z ht (by omega) j σ hy (fun s hs => ?_)) h1
    rcases ih s hs with h | ⟨k, hk, h⟩
    · exact .inl h
    · exact .inr ⟨k, by omega, h⟩
def LS (t : Twn) (s : Sta) (v : Int) : Prop := (v = 1000000 ∧ ∀ n, Srv t n s) ∨ ∃ k : Nat, k ≤ 496 ∧ v = k - 1 ∧ ¬ Srv t k s ∧ ∀ j < k, Srv t j s
theorem LS.uniq {t : Twn} {s : Sta} {v v' : Int} (h : LS t s v) (h' : LS t s v') : v = v' := by
  rcases h with ⟨rfl, h⟩ | ⟨k, _, rfl, hn, hl⟩ <;> rcases h' with ⟨rfl, h'⟩ | ⟨k', _, rfl, hn', hl'⟩
  · rfl
  · exact absurd (h k') hn'
  · exact absurd (h' k) hn
  · rcases Nat.lt_trichotomy k k' with h | h | h
    · exact absurd (hl' k h) hn
    · rw [h]
    · exact absurd (hl k' h) hn'
theorem Z46 {t : Twn} (ht : t.ok) {σ : Sv} (h : Z4j t σ) {s : Sta} (hs : s.right t = true) : LS t s (lat σ.y s) := by
  obtain ⟨n, hr, hf⟩ := h
  obtain ⟨hy, hc, _⟩ := Z5B ht hr
  have hp := Z9F ht hr
  have hp1 := Z6z ht (n := n) (by omega) hy (fun s hs => by
    rcases hp s hs with h | ⟨k, hk, h⟩
    · exact .inl h
    · exact .inr ⟨k, by omega, h⟩) hf
  have hX : ∀ m, ∀ u, (u ∈ sts t ∧ lat σ.y u = 1000000) → Srv t m u := by
    have hclo : ∀ m, (∀ u, (u ∈ sts t ∧ lat σ.y u = 1000000) → Bf t m u) → Clo t m (Bf t m) (fun u => u ∈ sts t ∧ lat σ.y u = 1000000) := by
      intro m hB u ⟨hu, hue⟩
      obtain ⟨q, hq, hk⟩ := Z5Z ht (by omega) hy hf hu hue
      have hur := Ze ht hu
      unfold Twn.keeps at hk
      simp only [Bool.and_eq_true, Bool.or_eq_true, decide_eq_true_eq, Bool.not_eq_true', decide_eq_false_iff_not] at hk
      obtain ⟨⟨hc', hg⟩, hb⟩ := hk
      have hgr := ZB (Zm (bad := false) ht hur hq hc' (by simp))
      refine ⟨hur, q, hq, hc', ⟨hgr, ?_⟩, ?_⟩
      · rcases hp _ hgr with ⟨h, _⟩ | ⟨k, hk, h, _⟩
        · exact h
        · omega
      · by_cases hd : u.dry < t.run
        · right; right
          have hbr := ZB (Zm (bad := true) ht hur hq hc' (fun _ => hd))
          refine hB _ ⟨hbr, ?_⟩
          rcases hp _ hbr with ⟨h, _⟩ | ⟨k, hk, h, _⟩
          · exact h
          · exfalso
            rcases hb with (hb | hb) | hb
            · omega
            · exact hb hd
            · rw [show decide ((n : Int) = 1000000) = false from by simp; omega, cond_false] at hb
              omega
        · exact .inr (.inl hd)
    intro m
    induction m with
    | zero => exact fun u hu => Z0x (hclo 0 (fun _ _ => trivial)) hu
    | succ m ih => exact fun u hu => Z0x (hclo (m + 1) (fun u hu => ih u hu)) hu
  rcases hp s (ZB hs) with ⟨h, _⟩ | ⟨k, hk, h⟩
  · exact .inl ⟨h, fun m => hX m s ⟨ZB hs, h⟩⟩
  · exact .inr ⟨k, by omega, h⟩
def LSA (t : Twn) (y : List Int) : Prop := ∀ s, s.right t = true → LS t s (lat y s)
theorem Z8f {t : Twn} {y : List Int} (hl : LSA t y) {s : Sta} (hs : s.right t = true) {n : Nat} (hn : n ≤ 1000000) : (n : Int) ≤ lat y s ↔ Srv t n s := by
  rcases hl s hs with ⟨h, h2⟩ | ⟨k, hk, h, hno, h2⟩
  · exact ⟨fun _ => h2 n, fun _ => by omega⟩
  · constructor
    · intro h3; exact h2 n (by omega)
    · intro h3
      rcases Nat.lt_or_ge n k with h4 | h4
      · omega
      · exact absurd (Z4e h4 h3) hno
theorem Z3e {t : Twn} {y : List Int} (hl : LSA t y) {s : Sta} (hs : s.right t = true) : lat y s = 1000000 ∨ (-1 ≤ lat y s ∧ lat y s ≤ 495) := by
  rcases hl s hs with ⟨h, h2⟩ | ⟨k, hk, h, hno, h2⟩
  · exact .inl h
  · exact .inr (by omega)
theorem Z6O {t : Twn} {y : List Int} (hl : LSA t y) {s : Sta} (hs : s.right t = true) {n : Nat} (hn : 496 ≤ n) (h : Srv t n s) : lat y s = 1000000 := by
  rcases hl s hs with ⟨h1, _⟩ | ⟨k, hk, _, hno, _⟩
  · exact h1
  · exact absurd (Z4e (by omega) h) hno
theorem Z7D {t : Twn} {y : List Int} (hl : LSA t y) {s : Sta} (hs : s.right t = true) (h0 : lat y s ≠ -1) : ∃ q ∈ t.rats, t.keeps y s q (lat y s) = true := by
  rcases hl s hs with ⟨h, h2⟩ | ⟨k, hk, h, hno, h2⟩
  · obtain ⟨_, q, hq, hc, hg, hb⟩ := Z0R t 497 s (h2 497)
    refine ⟨q, hq, ?_⟩
    have e1 := Z6O hl (Z0t hg) (by omega) hg
    unfold Twn.keeps
    rw [h, hc, e1]
    rcases hb with hb | hb | hb
    · omega
    · simp [hb]
    · have e2 := Z6O hl (Z0t hb) (n := 496) (by omega) hb
      rw [e2]; simp
  · obtain ⟨m, rfl⟩ : ∃ m, k = m + 1 := ⟨k - 1, by omega⟩
    obtain ⟨_, q, hq, hc, hg, hb⟩ := Z0R t m s (h2 m (by omega))
    refine ⟨q, hq, ?_⟩
    have e1 := (Z8f hl (Z0t hg) (n := m) (by omega)).2 hg
    unfold Twn.keeps
    rw [h, hc, show ((m + 1 : Nat) : Int) - 1 = m from by omega]
    have hne : ¬ (m : Int) = 1000000 := by omega
    simp only [e1, decide_true, Bool.true_and, hne, decide_false, cond_false]
    rcases hb with hb | hb | hb
    · simp [hb]
    · simp [hb]
    · cases m with
      | zero => simp
      | succ m =>
        have hb' : Srv t m (t.next s q true) := hb
        have e2 := (Z8f hl (Z0t hb') (n := m) (by omega)).2 hb'
        simp [e2]
theorem Z6d {t : Twn} {i j : Nat} (h : Z3S t i = Z3S t j) : i = j := by
  unfold Z3S at h
  simp only [Sta.mk.injEq, Int.natCast_inj] at h
  obtain ⟨h1, h2, h3⟩ := h
  have e1 : i / (t.run.toNat + 1) = j / (t.run.toNat + 1) := by
    rw [← Nat.div_add_mod (i / (t.run.toNat + 1)) (t.patience.toNat + 1), ← Nat.div_add_mod (j / (t.run.toNat + 1)) (t.patience.toNat + 1), h1, h2]
  rw [← Nat.div_add_mod i (t.run.toNat + 1), ← Nat.div_add_mod j (t.run.toNat + 1), e1, h3]
theorem Z7l (t : Twn) : (sts t).Nodup := by
  unfold sts List.Nodup
  rw [List.pairwise_map]
  exact List.Pairwise.imp (fun h e => h (Z6d e)) List.nodup_range
def Zbe (t : Twn) (y y' : List Int) : Prop := ∀ s, s.right t = true → lat y s = lat y' s
theorem Z2B {t : Twn} (ht : t.ok) {y y' : List Int} (h : Zbe t y y') {s : Sta} (hs : s.right t = true) {q : Rn} (hq : q ∈ t.rats) (n : Int) : t.keeps y s q n = t.keeps y' s q n := by
  unfold Twn.keeps
  cases hc : t.can s q with
  | false => rfl
  | true =>
    rw [h _ (Zm (bad := false) ht hs hq hc (by simp))]
    by_cases hd : s.dry < t.run
    · rw [h _ (Zm (bad := true) ht hs hq hc (fun _ => hd))]
    · simp [hd]
theorem Z2p {t : Twn} {y : List Int} {s : Sta} {x : Rw} (h : Z01 t y s = some x) : x.st = s ∧ x.lasts = lat y s ∧ lat y s ≠ -1 ∧ ∃ q, t.rat x.ration = some q ∧ q ∈ t.rats ∧ t.keeps y s q (lat y s) = true := by
  unfold Z01 at h
  cases hc : decide (lat y s = -1) with
  | true => rw [hc] at h; cases h
  | false =>
    rw [hc, cond_false] at h
    obtain ⟨k, hk, rfl⟩ := Option.map_eq_some_iff.1 h
    obtain ⟨hlt, hp, _⟩ := List.findIdx?_eq_some_iff_getElem.1 hk
    refine ⟨rfl, rfl, by simpa using hc, t.rats[k], Z50 (Int.natCast_nonneg k) (by simp [hlt]), List.getElem_mem hlt, hp⟩
theorem Z6W {t : Twn} {y : List Int} (hl : LSA t y) {s : Sta} (hs : s.right t = true) (h : Z01 t y s = none) : lat y s = -1 := by
  by_cases h0 : lat y s = -1
  · exact h0
  · exfalso
    obtain ⟨q, hq, hk⟩ := Z7D hl hs h0
    unfold Z01 at h
    simp only [h0, decide_false, cond_false, Option.map_eq_none_iff] at h
    have := List.findIdx?_eq_none_iff.1 h q hq
    rw [hk] at this; cases this
theorem Z3s {t : Twn} (ht : t.ok) {y : List Int} (hl : LSA t y) : ∀ (l : List Sta) (y' : List Int), l.Nodup → (∀ s ∈ l, s.right t = true) → y'.length = 496 → (∀ s ∈ l, lat y' s = -1) →
    ∃ y'', Zn t (l.filterMap (Z01 t y)) false y' = .ok (false, y'') ∧ y''.length = 496 ∧ (∀ s, s.right t = true → s ∉ l → lat y'' s = lat y' s) ∧ ∀ s ∈ l, lat y'' s = lat y s
  | [], y', _, _, hy, _ => ⟨y', rfl, hy, fun _ _ _ => rfl, fun _ h => by cases h⟩
  | s :: l, y', hd, hr, hy, hm => by
    rw [List.nodup_cons] at hd
    have hsr := hr s (by simp)
    cases Z0K : Z01 t y s with
    | none =>
      rw [List.filterMap_cons_none Z0K]
      obtain ⟨y'', h1, h2, h3, h4⟩ := Z3s ht hl l y' hd.2 (fun s h => hr s (by simp [h])) hy (fun s h => hm s (by simp [h]))
      refine ⟨y'', h1, h2, fun u hu hn => h3 u hu (fun h => hn (by simp [h])), fun u hu => ?_⟩
      rcases List.mem_cons.1 hu with rfl | hu
      · rw [h3 u hsr hd.1, hm u (by simp), Z6W hl hsr Z0K]
      · exact h4 u hu
    | some x =>
      obtain ⟨e1, e2, e3, q, hq, hqm, hk⟩ := Z2p Z0K
      rw [List.filterMap_cons_some Z0K]
      have hcan : t.can s q = true := by unfold Twn.keeps at hk; simp only [Bool.and_eq_true] at hk; exact hk.1.1
      have hrg := Z3e hl hsr
      have hib : inb x.lasts 0 1000000 = true := by rw [e2]; simp only [inb, Bool.and_eq_true, decide_eq_true_eq]; omega
      have hix := Z1w ht hsr
      obtain ⟨y'', h1, h2, h3, h4⟩ := Z3s ht hl l (y'.set s.ix (lat y s)) hd.2 (fun s h => hr s (by simp [h])) (by simpa using hy) (fun u h => by
        rw [ZM (fun e => by have := Z1o ht hsr (hr u (by simp [h])) e; subst this; exact hd.1 h)]
        exact hm u (by simp [h]))
      refine ⟨y'', ?_, h2, fun u hu hn => ?_, fun u hu => ?_⟩
      · unfold Zn
        rw [e1, hsr, hib, hq]
        simp only [Bool.not_true, Bool.or_self, cond_false, hcan, e2, hm s (by simp), ne_eq, not_true_eq_false, decide_false]
        exact h1
      · rw [h3 u hu (fun h => hn (by simp [h])), ZM (fun e => by have := Z1o ht hsr hu e; subst this; exact hn (by simp))]
      · rcases List.mem_cons.1 hu with rfl | hu
        · rw [h3 u hsr hd.1, Zz (by rw [hy]; exact hix)]
        · exact h4 u hu
theorem Z7c {t : Twn} (ht : t.ok) (v : Int) : ∀ (l : List Sta) (y : List Int), y.length = 496 → (∀ s ∈ l, s ∈ sts t) → ∀ s ∈ sts t, (s ∈ l ∨ lat y s = v) → lat (l.foldl (fun y s => y.set s.ix v) y) s = v
  | [], _, _, _, _, _, h => by rcases h with h | h; cases h; exact h
  | u :: l, y, hy, hl, s, hs, h => by
    rw [List.foldl_cons]
    refine Z7c ht v l _ (by simpa using hy) (fun s hs => hl s (by simp [hs])) s hs ?_
    by_cases he : u.ix = s.ix
    · right
      have := Z1o ht (Ze ht (hl u (by simp))) (Ze ht hs) he
      subst this
      exact Zz (by rw [hy]; exact Z1w ht (Ze ht hs))
    · rcases h with h | h
      · rcases List.mem_cons.1 h with rfl | h
        · exact absurd rfl he
        · exact .inl h
      · right; rw [ZM he]; exact h
theorem Z87 {t : Twn} (ht : t.ok) {s : Sta} (hs : s ∈ sts t) : lat (Z4Q t) s = -1 := Z7c ht (-1) (sts t) _ List.length_replicate (fun _ h => h) s hs (.inl hs)
theorem Z7L (t : Twn) : (Z4Q t).length = 496 := by rw [Z4Q, Z24, List.length_replicate]
theorem Z7Q {t : Twn} (h0 : t.check = 0) {y : List Int} (hl : LSA t y) (hn : lat y t.now ≠ -1) : Zp t (tab t y) = (lat y t.now, 0) := by
  have ht := (ok_of_check h0).1
  obtain ⟨y'', h1, h2, _, h4⟩ := Z3s ht hl (sts t) (Z4Q t) (Z7l t) (fun s hs => Ze ht hs) (Z7L t) (fun s hs => Z87 ht hs)
  have hlen : (tab t y).length ≤ 496 := Nat.le_trans (List.length_filterMap_le _ _) (by rw [Z0F]; exact Z4Z ht)
  have hsame : Zbe t y y'' := fun s hs => (h4 s (ZB hs)).symm
  rw [Z1x h0 hlen h1]
  have hall : (tab t y).all (Z07 t y'') = true := by
    refine List.all_eq_true.2 fun x hx => ?_
    obtain ⟨s, hs, Z0K⟩ := List.mem_filterMap.1 hx
    obtain ⟨e1, e2, e3, q, hq, hqm, hk⟩ := Z2p Z0K
    unfold Z07
    rw [hq]
    show t.keeps y'' x.st q x.lasts = true
    rw [e1, e2, ← Z2B ht hsame (Ze ht hs) hqm]
    exact hk
  unfold Z1H
  rw [hall, ← hsame t.now ht.now]
  simp [hn]
def Z1a (l : List (Sta × Int)) (s : Sta) (m : Int) : Bool := l.any fun p => decide (p.1 = s) && decide (p.2 ≤ m)
def Z7h (t : Twn) (pre : List (Sta × Int)) (p : Sta × Int) : Bool :=
  t.rats.all fun q => !(t.can p.1 q) || (Z1a pre (t.next p.1 q false) p.2 || (decide (p.1.dry < t.run) && Z1a pre (t.next p.1 q true) (p.2 - 1)))
def Z0j (t : Twn) : List (Sta × Int) → List (Sta × Int) → Bool
  | _, [] => true
  | pre, p :: l => Z7h t pre p && Z0j t (pre ++ [p]) l
theorem Z5E {t : Twn} {pre : List (Sta × Int)} (hpre : ∀ p ∈ pre, 0 ≤ p.2 ∧ ∀ n : Nat, p.2 ≤ n → ¬ Srv t n p.1) {p : Sta × Int} (hp : Z7h t pre p = true) {n : Nat} (hn : p.2 ≤ n) : ¬ Srv t n p.1 := by
  intro h
  obtain ⟨_, q, hq, hc, hg, hb⟩ := Z0R t n _ h
  have h1 := List.all_eq_true.1 hp q hq
  simp only [hc, Bool.not_true, Bool.false_or, Bool.or_eq_true, Bool.and_eq_true, decide_eq_true_eq] at h1
  rcases h1 with h1 | ⟨hd, h1⟩
  · obtain ⟨e, he, hee⟩ := List.any_eq_true.1 h1
    simp only [Bool.and_eq_true, decide_eq_true_eq] at hee
    have := (hpre e he).2 n (by omega)
    rw [hee.1] at this
    exact this hg
  · obtain ⟨e, he, hee⟩ := List.any_eq_true.1 h1
    simp only [Bool.and_eq_true, decide_eq_true_eq] at hee
    have h2 := hpre e he
    cases n with
    | zero => have := h2.1; omega
    | succ m =>
      rcases hb with hb | hb | hb
      · omega
      · exact hb hd
      · have := h2.2 m (by omega)
        rw [hee.1] at this
        exact this hb
theorem Z2A {t : Twn} : ∀ (l pre : List (Sta × Int)), (∀ p ∈ pre, 0 ≤ p.2 ∧ ∀ n : Nat, p.2 ≤ n → ¬ Srv t n p.1) → (∀ p ∈ l, 0 ≤ p.2) → Z0j t pre l = true → ∀ p ∈ l, ∀ n : Nat, p.2 ≤ n → ¬ Srv t n p.1
  | [], _, _, _, _, _, h => by cases h
  | a :: l, pre, hpre, h0, h, p, hp => by
    unfold Z0j at h
    simp only [Bool.and_eq_true] at h
    have ha : ∀ n : Nat, a.2 ≤ n → ¬ Srv t n a.1 := fun n hn => Z5E hpre h.1 hn
    rcases List.mem_cons.1 hp with rfl | hp
    · exact ha
    · exact Z2A l (pre ++ [a]) (fun e he => by
        rcases List.mem_append.1 he with he | he
        · exact hpre e he
        · obtain rfl := List.mem_singleton.1 he
          exact ⟨h0 e (by simp), ha⟩) (fun e he => h0 e (by simp [he])) h.2 p hp
def mill : Twn := ⟨⟨8, 0, 0⟩, 12, 4, 1, 2, 6, 0, 0, [⟨4, 10⟩, ⟨2, 16⟩]⟩
def millYs : List Int := [-1, -1, -1, -1, -1, -1, -1, -1, -1, -1, -1, -1, 0, 0, 1, -1, -1, -1, 0, 0, 1, -1, -1, -1, 0, 0, 1, 0, 0, 1, 0, 0, 1, 0, 0, 1, 1, 2, 3, 1, 2, 3, 1, 2, 3, 1, 2, 3, 3, 4, 5, 1, 2, 3, 3, 4, 5, 1, 2, 3, 3, 4, 5, 3, 4, 5, 3, 4, 5, 3, 4, 5, 5, 5, 5, 5, 5, 5]
def millFl : List (Sta × Int) := [(⟨0, 0, 0⟩, 0), (⟨0, 0, 1⟩, 0), (⟨0, 0, 2⟩, 0), (⟨0, 1, 0⟩, 0), (⟨0, 1, 1⟩, 0), (⟨0, 1, 2⟩, 0), (⟨1, 0, 0⟩, 0), (⟨1, 0, 1⟩, 0), (⟨1, 0, 2⟩, 0), (⟨1, 1, 0⟩, 0), (⟨1, 1, 1⟩, 0), (⟨1, 1, 2⟩, 0), (⟨2, 1, 0⟩, 0), (⟨2, 1, 1⟩, 0), (⟨2, 1, 2⟩, 0), (⟨3, 1, 0⟩, 0), (⟨3, 1, 1⟩, 0), (⟨3, 1, 2⟩, 0), (⟨2, 0, 0⟩, 1), (⟨2, 0, 1⟩, 1), (⟨3, 0, 0⟩, 1), (⟨3, 0, 1⟩, 1), (⟨4, 0, 0⟩, 1), (⟨4, 0, 1⟩, 1), (⟨4, 1, 0⟩, 1), (⟨4, 1, 1⟩, 1), (⟨5, 0, 0⟩, 1), (⟨5, 0, 1⟩, 1), (⟨5, 1, 0⟩, 1), (⟨5, 1, 1⟩, 1), (⟨6, 0, 0⟩, 2), (⟨6, 1, 0⟩, 2), (⟨7, 0, 0⟩, 2), (⟨7, 1, 0⟩, 2), (⟨8, 1, 0⟩, 2), (⟨9, 1, 0⟩, 2), (⟨2, 0, 2⟩, 2), (⟨3, 0, 2⟩, 2), (⟨4, 0, 2⟩, 2), (⟨4, 1, 2⟩, 2), (⟨5, 0, 2⟩, 2), (⟨5, 1, 2⟩, 2), (⟨6, 0, 1⟩, 3), (⟨6, 1, 1⟩, 3), (⟨7, 0, 1⟩, 3), (⟨7, 1, 1⟩, 3), (⟨8, 1, 1⟩, 3), (⟨9, 1, 1⟩, 3), (⟨8, 0, 0⟩, 4), (⟨9, 0, 0⟩, 4), (⟨10, 0, 0⟩, 4), (⟨10, 1, 0⟩, 4), (⟨11, 0, 0⟩, 4), (⟨11, 1, 0⟩, 4), (⟨6, 0, 2⟩, 4), (⟨6, 1, 2⟩, 4), (⟨7, 0, 2⟩, 4), (⟨7, 1, 2⟩, 4), (⟨8, 1, 2⟩, 4), (⟨9, 1, 2⟩, 4), (⟨8, 0, 1⟩, 5), (⟨9, 0, 1⟩, 5), (⟨10, 0, 1⟩, 5), (⟨10, 1, 1⟩, 5), (⟨11, 0, 1⟩, 5), (⟨11, 1, 1⟩, 5), (⟨12, 0, 0⟩, 6), (⟨12, 1, 0⟩, 6), (⟨12, 1, 1⟩, 6), (⟨12, 1, 2⟩, 6), (⟨8, 0, 2⟩, 6), (⟨9, 0, 2⟩, 6), (⟨10, 0, 2⟩, 6), (⟨10, 1, 2⟩, 6), (⟨11, 0, 2⟩, 6), (⟨11, 1, 2⟩, 6), (⟨12, 0, 1⟩, 6), (⟨12, 0, 2⟩, 6)]
def Z1m (s : Sta) : Int := millYs.getD ((s.stock.toNat * 2 + s.short.toNat) * 3 + s.dry.toNat) 0
def Z94 : Bool := (sts mill).all fun s => (List.range 6).all fun n => !(decide ((n : Int) ≤ Z1m s)) || mill.rats.any fun q =>
  mill.can s q && decide ((n : Int) ≤ Z1m (mill.next s q false)) && (decide (n = 0) || !(decide (s.dry < mill.run)) || decide ((n : Int) - 1 ≤ Z1m (mill.next s q true)))
theorem Z02 : mill.check = 0 := by decide +kernel
theorem Z5u : Z94 = true := by decide +kernel
theorem Z6a : Z0j mill [] millFl = true := by decide +kernel
theorem Z7Y : (millFl.all fun p => decide (0 ≤ p.2)) = true := by decide +kernel
theorem Z8b : ((sts mill).all fun s => millFl.contains (s, Z1m s + 1) && decide (-1 ≤ Z1m s) && decide (Z1m s ≤ 5)) = true := by decide +kernel
theorem mill_ok : mill.ok := (ok_of_check Z02).1
theorem Z83 : ∀ n : Nat, n ≤ 5 → ∀ s, s.right mill = true → (n : Int) ≤ Z1m s → Srv mill n s := by
  intro n
  induction n with
  | zero =>
    intro _ s hs hl
    refine Z0x (X := fun s => s.right mill = true ∧ ((0 : Nat) : Int) ≤ Z1m s) (fun u ⟨hu, hul⟩ => ?_) ⟨hs, hl⟩
    have h := List.all_eq_true.1 (List.all_eq_true.1 Z5u u (ZB hu)) 0 (by simp)
    simp only [hul, decide_true, Bool.not_true, Bool.false_or] at h
    obtain ⟨q, hq, h⟩ := List.any_eq_true.1 h
    simp only [Bool.and_eq_true, decide_eq_true_eq] at h
    exact ⟨hu, q, hq, h.1.1, ⟨Zm (bad := false) mill_ok hu hq h.1.1 (by simp), h.1.2⟩, .inl rfl⟩
  | succ n ih =>
    intro hn s hs hl
    refine Z0x (X := fun s => s.right mill = true ∧ ((n + 1 : Nat) : Int) ≤ Z1m s) (fun u ⟨hu, hul⟩ => ?_) ⟨hs, hl⟩
    have h := List.all_eq_true.1 (List.all_eq_true.1 Z5u u (ZB hu)) (n + 1) (by simp; omega)
    simp only [hul, decide_true, Bool.not_true, Bool.false_or] at h
    obtain ⟨q, hq, h⟩ := List.any_eq_true.1 h
    simp only [Bool.and_eq_true, Bool.or_eq_true, decide_eq_true_eq, Bool.not_eq_true', decide_eq_false_iff_not] at h
    refine ⟨hu, q, hq, h.1.1, ⟨Zm (bad := false) mill_ok hu hq h.1.1 (by simp), h.1.2⟩, ?_⟩
    by_cases hd : u.dry < mill.run
    · refine .inr (.inr (ih (by omega) _ (Zm (bad := true) mill_ok hu hq h.1.1 (fun _ => hd)) ?_))
      rcases h.2 with (h | h) | h
      · omega
      · exact absurd hd h
      · omega
    · exact .inr (.inl hd)
theorem Z8Z {s : Sta} (hs : s.right mill = true) : LS mill s (Z1m s) := by
  have h := List.all_eq_true.1 Z8b s (ZB hs)
  simp only [Bool.and_eq_true, decide_eq_true_eq] at h
  refine .inr ⟨(Z1m s + 1).toNat, by omega, by omega, ?_, fun j hj => Z83 j (by omega) s hs (by omega)⟩
  have hm := List.contains_iff_mem.1 h.1.1
  exact Z2A millFl [] (fun _ h => by cases h) (fun p hp => by simpa using List.all_eq_true.1 Z7Y p hp) Z6a _ hm _ (by simp only; omega)
theorem Z3l {σ : Sv} (h : Z4j mill σ) {s : Sta} (hs : s.right mill = true) : lat σ.y s = Z1m s := (Z46 mill_ok h hs).uniq (Z8Z hs)
def Z86 : List Int := (sts mill).foldl (fun y s => y.set s.ix (Z1m s)) (List.replicate 496 0)
theorem Z7s : ((sts mill).all fun s => decide (lat Z86 s = Z1m s)) = true := by decide +kernel
theorem Z40 {σ : Sv} (h : Z4j mill σ) : Zbe mill σ.y Z86 := fun s hs => (Z3l h hs).trans (Eq.symm (by simpa using List.all_eq_true.1 Z7s s (ZB hs)))
theorem Z2V {α : Type} {p q : α → Bool} : ∀ {l : List α}, (∀ x ∈ l, p x = q x) → l.find? p = l.find? q
  | [], _ => rfl
  | a :: l, h => by rw [List.find?_cons, List.find?_cons, h a (by simp), Z2V fun x hx => h x (by simp [hx])]
theorem solv_lsa {t : Twn} (ht : t.ok) {σ : Sv} (h : Z4j t σ) : LSA t σ.y := fun _ hs => Z46 ht h hs
open Go
theorem ZbD : cal Try.prog 12 = true := by kernel_rfl
theorem Zbs : cal Try.prog 49 = true := by kernel_rfl
theorem Zcn : cal Try.prog 50 = true := by kernel_rfl
theorem Zbv : cal Try.prog 51 = true := by kernel_rfl
theorem ZbW : cal Try.prog 52 = true := by kernel_rfl
theorem Zcx : cal Try.prog 53 = true := by kernel_rfl
theorem ZaU : cal Try.prog 54 = true := by kernel_rfl
theorem ZbR : cal Try.prog 7 = true := by kernel_rfl
theorem Zdp : cal Try.prog 8 = true := by kernel_rfl
theorem Z8A : ZK Try.prog 27 = some 11 := by kernel_rfl
theorem ZcR : ZU Try.prog 27 = some [(0, 3), (3, 1), (4, 1), (5, 1), (6, 1), (7, 1), (8, 1), (9, 1), (10, 1)] := by kernel_rfl
theorem ZbJ : ZU Try.prog 77 = some [(0, 1), (1, 1)] := by kernel_rfl
theorem ZcS : slE Try.prog 25 = some (77, 2) := by kernel_rfl
theorem Z7u : Zy Try.prog 27 = some ([.int .i64 0, .int .i64 0, .int .i64 0, .int .i64 0, .int .i64 0, .int .i64 0, .int .i64 0, .int .i64 0, .int .i64 0, .int .i64 0, .slice none 0 0]) := by kernel_rfl
theorem Z4k {p p' : Rn → Bool} {l : List Rn} (h : ∀ q ∈ l, p q = p' q) (k : Nat) : Z1Y p l k = Z1Y p' l k := by
  unfold Z1Y
  congr 1
  refine List.filter_congr fun i _ => ?_
  cases hq : l[i]? with
  | none => rfl
  | some q => exact h q (List.mem_of_getElem? hq)
theorem Z79 {σ : Sv} (h : Z4j mill σ) : Z1Y (fun q => mill.keeps σ.y mill.now q (lat σ.y mill.now)) mill.rats mill.rats.length = [1] := by
  have e : lat σ.y mill.now = 3 := (Z3l h mill_ok.now).trans (by decide)
  rw [e, Z4k (p' := fun q => mill.keeps Z86 mill.now q 3) fun q hq => Z2B mill_ok (Z40 h) mill_ok.now hq 3]
  decide +kernel
theorem Z6k {σ : Sv} (h : Z4j mill σ) : Z3o mill σ.y 4 = .tuple #[.int .i64 12, .int .i64 0] := by
  have e : (sts mill).find? (Z1k mill σ.y 4) = some ⟨12, 0, 0⟩ := by
    rw [Z2V (q := Z1k mill Z86 4) fun s hs => by unfold Z1k; rw [Z40 h s (Ze mill_ok hs)]]
    decide +kernel
  unfold Z3o; rw [e]
theorem Z7p : Z2K mill 3 = .tuple #[.int .i64 104, .int .i64 0] := by
  have e : ef mill (3 : Int).toNat mill.now = 104 := by decide +kernel
  unfold Z2K; rw [e]; rfl
theorem Z5Q {j : Nat} (h : (Z0m [2, 7, 5] j (Zl 11 [2, 7, 5])).g = false) : (Z0m [2, 7, 5] j (Zl 11 [2, 7, 5])).o = [2, 5, 4] := by
  rw [Z5X h (k := 6) (by decide +kernel)]
  decide +kernel
theorem Z0X {σ : Sv} (h : Z4j mill σ) : lat σ.y mill.now = 3 := (Z3l h mill_ok.now).trans (by decide)
theorem Z63 {σ : Sv} (h : Z4j mill σ) : Zp mill (tab mill σ.y) = (3, 0) := by
  have e := Z0X h
  rw [Z7Q Z02 (solv_lsa mill_ok h) (by rw [e]; decide), e]
theorem Z9B {t : Twn} (ht : t.ok) (y : List Int) : (tab t y).length ≤ 496 := Nat.le_trans (List.length_filterMap_le _ _) (by rw [Z0F]; exact Z4Z ht)
theorem Zab (H : Z7) (R : Z4) :
    Fn Try.prog 49 [] H R (fun v H' R' => ∃ b, v = mill.v (.slice (some ⟨b, 0, none⟩) 2 2) ∧ H' = H ∧ R' = RowsA (some ⟨b, 0, none⟩) 2 (rrows mill.rats) :: R) := by
 refine Zb Try.func49 rfl Try.ntmps49 rfl ?_
 refine sqt 1 rfl (alc rfl Z7u rfl (fun b0 => sqt 6 rfl (sp rfl (PE.build (out := [_, _, _]) Z9W Z4M rfl rfl) rfl (sp rfl (PE.build (out := [_, _]) ZbJ Z6n rfl rfl) rfl (sp rfl (PE.build (out := [_, _]) ZbJ Z6n rfl rfl) rfl ?_)))))
 refine bsl (out := [_, _, _, _]) rfl ZcS Z6n rfl rfl rfl rfl rfl rfl (fun b4 => ?_)
 refine sp rfl (PE.build (out := [_, _, _, _, _, _, _, _, _, _, _]) ZcR Z7u rfl rfl) rfl ?_
 refine sto rfl rfl rfl Z8A rfl rfl rfl rfl ?_
 refine Z1 ?_
 exact Z6 (vs := [_]) rfl (.cons (RV.cell rfl (lhA [_, _, _, _, _, _, _, _, _, _, _] Z0l rfl rfl rfl)) .nil) rfl ⟨b4, rfl, rfl, rfl⟩ (fun w h => (St.rows (sz := 2) (rows := rrows mill.rats) (rest := []) h (by decide)).tail)
theorem c_awake (H : Z7) (R : Z4) :
    FnV Try.prog 22 [] H R (.bool true) := by
 refine Zb Try.func22 rfl Try.ntmps22 rfl ?_
 refine sqt 1 rfl (pur 1 rfl (sqt 3 rfl ?_))
 refine cl rfl Zbs rfl rfl (Zab _ _) ?_
 rintro _ _ _ ⟨bm, rfl, rfl, rfl⟩
 refine alc rfl Z7u rfl (fun b1 => ?_)
 refine sto rfl rfl rfl Z8A rfl rfl rfl rfl ?_
 refine sqt 7 rfl (spL rfl rfl (lhA [_, _, _, _, _, _, _, _, _, _, _] Z0l rfl rfl rfl) rfl ?_)
 refine cl rfl ZbR rfl rfl (c_Lasts mill (by decide) bm 0 2 _ _) ?_
 rintro _ _ _ ⟨h, rfl, rfl⟩
 obtain ⟨_, σ1, hσ1, rfl⟩ := h.resolve_left (fun h => h.1 Z02)
 rw [Z0X hσ1]
 refine pur 5 rfl (sqt 7 rfl (spL rfl rfl (lhA [_, _, _, _, _, _, _, _, _, _, _] Z0l rfl rfl rfl) rfl ?_))
 refine cl rfl Zcn rfl rfl (Z7I mill (by decide) bm 0 2 _ _) ?_
 rintro _ _ _ ⟨h, rfl⟩
 obtain ⟨_, σ2, hσ2, h⟩ := h.resolve_left (fun h => h.1 Z02)
 obtain ⟨_, o, rfl, rfl⟩ := h.resolve_left (fun h => by have := h.1; rw [Z0X hσ2] at this; cases this)
 obtain ⟨ax, cx, ho, hfr⟩ := o.freeze
 rw [ho]
 refine Sy.heap (fun w h => hfr h) ?_
 rw [Z79 hσ2]
 refine pur 5 rfl (sqt 7 rfl (spL rfl rfl (lhA [_, _, _, _, _, _, _, _, _, _, _] Z0l rfl rfl rfl) rfl ?_))
 refine cl rfl Zbv rfl rfl (Z8O mill (by decide) 4 bm 0 2 _ _) ?_
 rintro _ _ _ ⟨h, rfl, rfl⟩
 obtain ⟨_, _, σ3, hσ3, rfl⟩ := (h.resolve_left (fun h => h.1 Z02)).resolve_left (fun h => by have := h.2.1; revert this; decide)
 rw [Z6k hσ3]
 refine pur 5 rfl (sqt 7 rfl (spL rfl rfl (lhA [_, _, _, _, _, _, _, _, _, _, _] Z0l rfl rfl rfl) rfl ?_))
 refine cl rfl ZbW rfl rfl (Z9o mill (by decide) 3 bm 0 2 _ _) ?_
 rintro _ _ _ ⟨h, rfl, rfl⟩
 obtain ⟨_, _, rfl⟩ := (h.resolve_left (fun h => h.1 Z02)).resolve_left (fun h => by have := h.2.1; revert this; decide)
 rw [Z7p]
 refine pur 5 rfl (sqt 7 rfl ?_)
 refine bsl (out := [_, _, _]) rfl Z2W zl3 rfl rfl rfl rfl rfl rfl (fun b38 => ?_)
 refine Sy.heap (fun w h => St.intRows (l := [2, 7, 5]) h) ?_
 refine cl rfl Zcx rfl rfl (Z9m 11 [2, 7, 5] (some ⟨b38, 0, none⟩) 3 (by decide) _ _) ?_
 rintro _ _ _ ⟨h, rfl⟩
 obtain ⟨_, j, bs, hg, rfl, rfl⟩ := h.resolve_left (fun h => h.1 (by decide))
 rw [Z5Q hg]
 refine Sy.heap (fun w h => St.intRows (l := [2, 5, 4]) h) ?_
 refine pur 5 rfl (sqt 7 rfl (spL rfl rfl (lhA [_, _, _, _, _, _, _, _, _, _, _] Z0l rfl rfl rfl) rfl ?_))
 refine cl rfl Zdp rfl rfl (Z9H mill (by decide) bm 0 2 _ _) ?_
 rintro _ _ _ ⟨h, rfl⟩
 obtain ⟨_, σ4, hσ4, h⟩ := h.resolve_left (fun h => h.1 Z02)
 obtain ⟨_, o, rfl, rfl⟩ := h.resolve_left (fun h => by have := h.1; rw [Z0X hσ4] at this; cases this)
 obtain ⟨at', ct, ho, hfr⟩ := o.freeze
 rw [ho, show (Z1z (tab mill σ4.y)).length = (tab mill σ4.y).length from List.length_map _]
 refine Sy.heap (fun w h => hfr h) ?_
 have htl := Z9B mill_ok σ4.y
 refine pur 5 rfl (sqt 8 rfl (spL rfl rfl (lhA [_, _, _, _, _, _, _, _, _, _, _] Z0l rfl rfl rfl) rfl (pur 1 rfl ?_)))
 refine cl rfl ZbD rfl rfl (Z8R mill (by decide) (tab mill σ4.y) at' ct (by omega) bm 0 2 _ _) ?_
 rintro _ _ _ ⟨rfl, rfl, rfl⟩
 rw [Z63 hσ4]
 refine pur 5 rfl (sqt 53 rfl (pur 32 rfl ?_))
 refine ZcJ (out := [_]) rfl rfl rfl rfl Z2W zl3 rfl rfl rfl rfl rfl rfl (fun b85 => ?_)
 refine Sy.heap (fun w h => St.intRows (l := [1]) h) ?_
 refine Z1M rfl rfl rfl rfl ZaU rfl rfl (Z5t [1] [1] ax (some ⟨b85, 0, none⟩) cx 1 (by decide) (by decide) _ _) ?_
 refine pur 11 rfl ?_
 refine ZcJ (out := [_, _, _]) rfl rfl rfl rfl Z2W zl3 rfl rfl rfl rfl rfl rfl (fun b98 => ?_)
 refine Sy.heap (fun w h => St.intRows (l := [2, 5, 4]) h) ?_
 refine Z1M rfl rfl rfl rfl ZaU rfl rfl (Z5t [2, 5, 4] [2, 5, 4] (some ⟨bs, 0, none⟩) (some ⟨b98, 0, none⟩) 3 3 (by decide) (by decide) _ _) ?_
 refine pur 6 rfl (Z1 ?_)
 exact rtA rfl rfl rfl ⟨rfl, rfl, rfl⟩ drp
end Go.Proofs.Ythhdgeibokecjaa.Bd
namespace Go.Proofs.Ythhdgeibokecjaa.Bd
set_option linter.unusedSimpArgs false
set_option linter.unusedVariables false
def ixr (t : Twn) (s : Sta) : Nat := (s.stock.toNat * (t.patience.toNat + 1) + s.short.toNat) * (t.run.toNat + 1) + s.dry.toNat
theorem Z4C {t : Twn} {s : Sta} (h : s.right t = true) : (sts t)[ixr t s]? = some s ∧ ixr t s < t.nst := by
  have h1 := right_iff.1 h
  have h2 := Z7q (t := t) (a := s.stock.toNat) (b := s.short.toNat) (c := s.dry.toNat) (by omega) (by omega) (by omega)
  refine ⟨?_, h2⟩
  rw [ixr, Z4A h2, Z3u (by omega) (by omega)]
  obtain ⟨a, b, c⟩ := s
  simp only at h1 ⊢
  rw [Int.toNat_of_nonneg h1.1.1, Int.toNat_of_nonneg h1.2.1.1, Int.toNat_of_nonneg h1.2.2.1]
theorem ZaB {t : Twn} {s : Sta} (h : s.right t = true) : ixr t s < t.nst := (Z4C h).2
theorem Z9i {t : Twn} {s u : Sta} (hs : s.right t = true) (hu : u.right t = true) (h : ixr t s = ixr t u) : s = u := by
  have h1 := (Z4C hs).1
  rw [h, (Z4C hu).1] at h1
  cases h1; rfl
theorem ZaJ {t : Twn} {s : Sta} {q : Rn} (h : t.can s q = true) : q.sacks ≤ s.stock := by
  simp only [Twn.can, Bool.and_eq_true, decide_eq_true_eq] at h; exact h.1
def bo (l : List Bool) (i : Nat) : Bool := l.getD i false
def io (l : List Int) (i : Nat) : Int := l.getD i 0
theorem Za8 {l : List Int} {i j : Nat} {x : Int} (h : i < l.length) : io (l.set i x) j = bif decide (i = j) then x else io l j := by
  unfold io
  simp only [List.getD, List.getElem?_set]
  by_cases e : i = j
  · subst e; simp [h]
  · simp [e]
structure Rel (t : Twn) (la y : List Int) : Prop where
  len : la.length = t.nst
  ylen : y.length = 496
  at_ : ∀ u, u.right t = true → io la (ixr t u) = lat y u
theorem Rel.set {t : Twn} (ht : t.ok) {la y : List Int} (h : Rel t la y) {s : Sta} (hs : s.right t = true) (v : Int) : Rel t (la.set (ixr t s) v) (y.set s.ix v) where
  len := by rw [List.length_set]; exact h.len
  ylen := by rw [List.length_set]; exact h.ylen
  at_ := fun u hu => by
    rw [Za8 (by rw [h.len]; exact ZaB hs)]
    by_cases e : ixr t s = ixr t u
    · obtain rfl := Z9i hs hu e
      simp only [decide_true, cond_true]
      rw [Zz (by rw [h.ylen]; exact Z1w ht hs)]
    · simp only [e, decide_false, cond_false]
      rw [ZM (fun e2 => e (by rw [Z1o ht hs hu e2])), h.at_ u hu]
def mkY (g : Sta → Int) : List Int := (List.range 496).map fun (i : Nat) => g ⟨(i / 16 : Nat), (i % 16 / 4 : Nat), (i % 4 : Nat)⟩
theorem Z62 {t : Twn} (ht : t.ok) (g : Sta → Int) {s : Sta} (h : s.right t = true) : lat (mkY g) s = g s := by
  have h1 := right_iff.1 h
  have h2 := ht.patience
  have h3 := ht.run
  have h4 := Z1w ht h
  unfold lat mkY
  simp only [List.getD, List.getElem?_map, List.getElem?_range h4, Option.map_some, Option.getD_some]
  congr 1
  obtain ⟨a, b, c⟩ := s
  simp only [Sta.ix, Sta.mk.injEq] at *
  omega
def PL (t : Twn) (n : Nat) (s : Sta) (v : Int) : Prop := (v = (n : Int) - 1 ∧ ∀ j < n, Srv t j s) ∨ ∃ k : Nat, k < n ∧ v = k - 1 ∧ ¬ Srv t k s ∧ ∀ j < k, Srv t j s
theorem PL.ls {t : Twn} {n : Nat} {s : Sta} {v : Int} (hn : n ≤ 496) (h : PL t (n + 1) s v) (hs : ¬ Srv t n s) : LS t s v := by
  rcases h with ⟨_, h2⟩ | ⟨k, hk, h⟩
  · exact absurd (h2 n (by omega)) hs
  · exact .inr ⟨k, by omega, h⟩
def SolR (t : Twn) (la : List Int) : Prop := la.length = t.nst ∧ ∀ s, s.right t = true → LS t s (io la (ixr t s))
theorem Rel.same {t : Twn} {la y y' : List Int} (h : Rel t la y) (hy : LSA t y) (hy' : LSA t y') (hl : y'.length = 496) : Rel t la y' := ⟨h.len, hl, fun u hu => (h.at_ u hu).trans (LS.uniq (hy u hu) (hy' u hu))⟩
open Go
theorem mul_b {a b A B : Int} (h1 : 0 ≤ a) (h2 : a ≤ A) (h3 : 0 ≤ b) (h4 : b ≤ B) : 0 ≤ a * b ∧ a * b ≤ A * B := by
  have h5 := Int.mul_nonneg h1 h3
  have h6 := Int.mul_le_mul h2 h4 h3 (by omega)
  omega
theorem ZbT : apT Try.prog 25 = some (77, 2, 16) := by kernel_rfl
theorem Zcy : cal Try.prog 60 = true := by kernel_rfl
theorem ZcV : ZK Try.prog 25 = some 1 := by kernel_rfl
theorem Z6R (xs : List Rn) (a : Option Addr) (c : Nat) (hl : xs.length ≤ 1000000) (H : Z7) (R : Z4) [hR : MemRows a 2 (rrows xs) R] :
    Fn Try.prog 60 [.slice a xs.length c] H R (fun v H' R' => ∃ o : OSl 77 2 (rrows xs), v = o.fs ∧ o.here ∧ H' = o.G ++ H ∧ R' = R) := by
 refine Zb Try.func60 rfl Try.ntmps60 rfl ?_
 refine sqt 1 rfl (pur 1 rfl (sqt 6 rfl (pur 1 rfl (sp rfl (PE.lenSl Z3I rfl) rfl ?_))))
 refine mkO rfl ZbT Z6n rfl rfl ⟨by omega, by omega⟩ rfl (fun o ho => ?_)
 refine pur 1 rfl ?_
 refine Zdc (news := rrows xs) o rfl ZbT rfl rfl (Zc5) (by simp [rrows]) (by simp [Z1p, rrows, Z1A, Value.oneCell']) ⟨by simp [rrows]; omega, by simp [rrows]; omega⟩ rfl ho (fun o2 ho2 => ?_)
 refine pur 1 rfl (Z1 ?_)
 exact rtA rfl rfl rfl ⟨o2.cast (by simp), rfl, ho2, rfl, rfl⟩ idH
theorem c_Own (t : Twn) (a : Option Addr) (c : Nat) (hl : t.rats.length ≤ 1000000) (H : Z7) (R : Z4) [hR : MemRows a 2 (rrows t.rats) R] :
    Fn Try.prog 25 [t.v (t.sl a c)] H R (fun v H' R' => ∃ b c', v = t.v (t.sl (some ⟨b, 0, none⟩) c') ∧ H' = H ∧ R' = RowsA (some ⟨b, 0, none⟩) 2 (rrows t.rats) :: R) := by
 refine Zb Try.func25 rfl Try.ntmps25 rfl ?_
 refine sqt 2 rfl (bx rfl rfl rfl (fun b1 => alc rfl Z7u rfl (fun b2 => sqt 5 rfl (sp rfl (PE.fA Z08 rfl) rfl (spL rfl rfl (lh Z1Z rfl rfl) rfl ?_)))))
 refine cl rfl Zcy rfl rfl (Z6R t.rats a c hl _ _) ?_
 rintro _ _ _ ⟨o, rfl, ⟨bo, co, hbo⟩, rfl, rfl⟩
 obtain ⟨ao, c2, ho, hf⟩ := o.freeze
 rw [hbo] at ho
 cases ho
 rw [hbo]
 refine Sy.heap (fun w h => hf h) ?_
 rw [show (rrows t.rats).length = t.rats.length from List.length_map _]
 refine sp rfl (PE.fA Z08 rfl) rfl ?_
 refine sto rfl rfl rfl ZcV rfl rfl rfl rfl ?_
 refine sqt 2 rfl (spL rfl rfl (lhA [_, _, _, _, _, _, _, _, _, _, _] Z0l rfl rfl rfl) rfl ?_)
 refine sto rfl rfl rfl Z8A rfl rfl rfl rfl ?_
 refine Z1 ?_
 exact Z6 (vs := [_]) rfl (.cons (RV.cell rfl (lhA [_, _, _, _, _, _, _, _, _, _, _] Z0l rfl rfl rfl)) .nil) rfl ⟨bo, co, rfl, rfl, rfl⟩ (fun w h => (h.del b2).del b1)
end Go.Proofs.Ythhdgeibokecjaa.Bd
namespace Go.Proofs.Ythhdgeibokecjaa.Bd
set_option linter.unusedSimpArgs false
set_option linter.unusedVariables false
noncomputable def LV (t : Twn) (s : Sta) : Int := Classical.epsilon fun v : Int => LS t s v
theorem LS.lv {t : Twn} {s : Sta} {v : Int} (h : LS t s v) : v = LV t s := LS.uniq h (Classical.epsilon_spec (p := fun v => LS t s v) ⟨v, h⟩)
noncomputable def LY (t : Twn) : List Int := mkY (LV t)
theorem ZaL (t : Twn) : (LY t).length = 496 := by simp [LY, mkY]
theorem LSA.same {t : Twn} (ht : t.ok) {y : List Int} (h : LSA t y) : Zbe t y (LY t) := fun s hs => (h s hs).lv.trans (Z62 ht (LV t) hs).symm
theorem LSA.ly {t : Twn} (ht : t.ok) {y : List Int} (h : LSA t y) : LSA t (LY t) := fun s hs => by rw [← h.same ht s hs]; exact h s hs
theorem SolR.ly {t : Twn} (ht : t.ok) {la : List Int} (h : SolR t la) : Rel t la (LY t) ∧ LSA t (LY t) := by
  have e : ∀ u, u.right t = true → io la (ixr t u) = lat (LY t) u := fun u hu => (h.2 u hu).lv.trans (Z62 ht (LV t) hu).symm
  exact ⟨⟨h.1, ZaL t, e⟩, fun s hs => by rw [← e s hs]; exact h.2 s hs⟩
attribute [irreducible] LY
def Z2v (s : Sta) (o : Option Int) (p : Sta × Int) : Option Int := bif decide (p.1 = s) then some (match o with | none => p.2 | some n => min n p.2) else o
def Za0 (l : List (Sta × Int)) (s : Sta) : Option Int := l.foldl (Z2v s) none
def leO (o : Option Int) (m : Int) : Bool := match o with | none => false | some n => decide (n ≤ m)
theorem Z6Y (l : List (Sta × Int)) (p : Sta × Int) (s : Sta) : Za0 (l ++ [p]) s = Z2v s (Za0 l s) p := by simp [Za0]
theorem Z5e (s : Sta) (m : Int) : ∀ (l : List (Sta × Int)) (o : Option Int), leO (l.foldl (Z2v s) o) m = (leO o m || Z1a l s m)
  | [], o => by simp [Z1a]
  | p :: l, o => by
    rw [List.foldl_cons, Z5e s m l]
    unfold Z1a
    rw [List.any_cons, ← Bool.or_assoc]
    congr 1
    unfold Z2v
    cases h : decide (p.1 = s) with
    | false => simp
    | true =>
      cases o with
      | none => simp [leO]
      | some n =>
        simp only [cond_true, leO, Bool.true_and]
        rw [Bool.eq_iff_iff]
        simp
        omega
theorem Z4m (l : List (Sta × Int)) (s : Sta) (m : Int) : Z1a l s m = leO (Za0 l s) m := by
  have := Z5e s m l none
  simpa [Za0, leO] using this.symm
theorem Z37 (t : Twn) : ∀ (l pre : List (Sta × Int)) (p : Sta × Int), Z0j t pre (l ++ [p]) = (Z0j t pre l && Z7h t (pre ++ l) p)
  | [], pre, p => by simp [Z0j]
  | x :: l, pre, p => by
    rw [List.cons_append, Z0j, Z0j, Z37 t l, Bool.and_assoc, List.append_assoc]; rfl
structure FlOk (t : Twn) (σ : Sv) : Prop where
  len : σ.y.length = 496
  ok : Z0j t [] σ.fl = true
  rg : ∀ p ∈ σ.fl, p.1.right t = true ∧ 0 ≤ p.2 ∧ p.2 ≤ 1000000
  at_ : ∀ s, s.right t = true → Za0 σ.fl s = bif Z2F σ.y s then none else some (lat σ.y s + 1)
theorem FlOk.step {t : Twn} (ht : t.ok) {n : Nat} (hn : n ≤ 496) {σ : Sv} (h : FlOk t σ) {u : Sta} (hu : u.right t = true) : FlOk t (σ.step t n u) := by
  cases hc : Z2F σ.y u && !(t.rats.any fun q => t.keeps σ.y u q n) with
  | false => have e : σ.step t n u = σ := by unfold Sv.step; rw [hc]; rfl
             rw [e]; exact h
  | true =>
    have e : σ.step t n u = ⟨σ.y.set u.ix (n - 1), σ.fl ++ [(u, (n : Int))]⟩ := by unfold Sv.step; rw [hc]; rfl
    rw [e]
    simp only [Bool.and_eq_true, Bool.not_eq_true', List.any_eq_false] at hc
    obtain ⟨hev, hno⟩ := hc
    have hui := Z1w ht hu
    refine ⟨by simp [h.len], ?_, ?_, ?_⟩
    · rw [Z37, h.ok, Bool.true_and, List.nil_append]
      refine List.all_eq_true.2 fun q hq => ?_
      cases hcan : t.can u q with
      | false => rfl
      | true =>
        have hk := hno q hq
        have hg := Zm ht hu hq hcan (bad := false) (by simp)
        have key : ∀ (s : Sta) (m : Int), s.right t = true → m ≤ 496 → ¬ m ≤ lat σ.y s → Z1a σ.fl s m = true := fun s m hs hm h1 => by
          rw [Z4m, h.at_ s hs]
          have he : Z2F σ.y s = false := by unfold Z2F; rw [decide_eq_false]; omega
          rw [he]
          simp only [cond_false, leO, decide_eq_true_eq]
          omega
        simp only [Bool.not_true, Bool.false_or]
        by_cases h1 : (n : Int) ≤ lat σ.y (t.next u q false)
        · simp only [Twn.keeps, hcan, h1, decide_true, Bool.and_true, Bool.true_and, Bool.or_eq_true, decide_eq_true_eq, Bool.not_eq_true', decide_eq_false_iff_not, not_or, Decidable.not_not] at hk
          obtain ⟨⟨h2, h3⟩, h4⟩ := hk
          rw [decide_eq_false (show ¬ (n : Int) = 1000000 by omega)] at h4
          rw [decide_eq_true h3, key _ (n - 1) (Zm ht hu hq hcan (fun _ => h3)) (by omega) h4]
          simp
        · rw [key _ n hg (by omega) h1]; rfl
    · intro p hp
      rcases List.mem_append.1 hp with hp | hp
      · exact h.rg p hp
      · simp only [List.mem_singleton] at hp; subst hp; exact ⟨hu, by omega, by dsimp only; omega⟩
    · intro s hs
      rw [Z6Y, h.at_ s hs]
      unfold Z2v
      by_cases e2 : u = s
      · subst e2
        rw [hev]
        have : Z2F (σ.y.set u.ix ((n : Int) - 1)) u = false := by unfold Z2F; rw [Zz (by rw [h.len]; exact hui), decide_eq_false]; omega
        simp only [decide_true, cond_true, this, cond_false, Zz (y := σ.y) (v := (n : Int) - 1) (by rw [h.len]; exact hui)]
        congr 1; omega
      · have hix : u.ix ≠ s.ix := fun e3 => e2 (Z1o ht hu hs e3)
        simp only [e2, decide_false, cond_false, Z2F, ZM hix]
theorem FlOk.fold {t : Twn} (ht : t.ok) {n : Nat} (hn : n ≤ 496) : ∀ (l : List Sta) (σ : Sv), (∀ s ∈ l, s ∈ sts t) → FlOk t σ → FlOk t (l.foldl (Sv.step t n) σ)
  | [], _, _, h => h
  | s :: l, σ, hl, h => FlOk.fold ht hn l _ (fun u hu => hl u (by simp [hu])) (h.step ht hn (Ze ht (hl s (by simp))))
theorem FlOk.passes {t : Twn} (ht : t.ok) {n : Nat} (hn : n ≤ 496) : ∀ (j : Nat) (σ : Sv), FlOk t σ → FlOk t (passes t n j σ)
  | 0, _, h => h
  | j + 1, σ, h => FlOk.fold ht hn (sts t) _ (fun _ h => h) (FlOk.passes ht hn j σ h)
open Go
theorem ZQ : cal Try.prog 19 = true := by kernel_rfl
theorem Z99 : cal Try.prog 48 = true := by kernel_rfl
theorem Z91 : ZK Try.prog 78 = some 1 := by kernel_rfl
theorem ZcE : elN Try.prog 22 = some 1 := by kernel_rfl
theorem Z1r : Z00 Try.prog 80 0 = some 0 := by kernel_rfl
theorem Z0d : Z00 Try.prog 80 1 = some 1 := by kernel_rfl
theorem ZA : Z00 Try.prog 80 2 = some 2 := by kernel_rfl
theorem ik3 : Z8k Try.prog 3 = some .i64 := by kernel_rfl
theorem Za9 : Z8k Try.prog 78 = some .u32 := by kernel_rfl
theorem Z3z : Z61 Try.prog 22 = true := by kernel_rfl
theorem Zcv : ZU Try.prog 80 = some [(0, 1), (1, 1), (2, 1)] := by kernel_rfl
theorem Z82 : Z0Z Try.prog 22 = true := by kernel_rfl
theorem sc5 : Z0Z Try.prog 5 = true := by kernel_rfl
theorem Z2t : Z0Z Try.prog 78 = true := by kernel_rfl
theorem us3 : (Try.prog.underlying 3).isSome = true := by kernel_rfl
theorem us5 : (Try.prog.underlying 5).isSome = true := by kernel_rfl
theorem Z7W : (Try.prog.underlying 78).isSome = true := by kernel_rfl
theorem Zcc : Zy Try.prog 80 = some ([.slice none 0 0, .int .i64 0, .int .u32 0]) := by kernel_rfl
def urow (x : Int) : List Value := [.int .u8 x]
def urows (l : List Int) : List (List Value) := l.map urow
theorem c_Fill (g : List Int) (ag : Option Addr) (cg : Nat) (hgl : g.length ≤ 9223372036854775807) (H : Z7) (R : Z4) :
    Fn Try.prog 6 [.slice ag g.length cg] H R (fun v H' R' => ∃ bk, ∃ mx : Int, (0 ≤ mx ∧ mx ≤ 4294967295) ∧ v = .pointer (some ⟨bk, 0, none⟩) ∧ H' = (bk, cel 80 [.slice ag g.length cg, .int .i64 (0), .int .u32 (mx)]) :: H ∧ R' = R) := by
 refine Zb Try.func6 rfl Try.ntmps6 rfl ?_
 refine sqt 1 rfl (pur 1 rfl (sqt 8 rfl (pur 2 rfl (sp rfl (PE.lenSl Z3z rfl) rfl ?_))))
 refine spE rfl (PE.convU us3 Za9 rfl) rfl ?_
 rintro _ ⟨u6, rfl, hu6⟩
 refine spE rfl (PE.xorU rfl rfl) rfl ?_
 rintro _ ⟨u7, rfl, hu7⟩
 refine sp rfl (PE.build (out := [_, _, _]) Zcv Zcc rfl rfl) rfl (bx rfl rfl rfl (fun b9 => pur 1 rfl (Z1 ?_)))
 exact rtA rfl rfl rfl ⟨b9, u7, hu7, rfl, rfl, rfl⟩ idH
theorem Z2n (g : List Int) (ag : Option Addr) (cg bk : Nat) (hgl : g.length ≤ 9223372036854775807) (tq mx : Int) (htq : 0 ≤ tq ∧ tq ≤ 1000000000) (hmx : 0 ≤ mx ∧ mx ≤ 4294967295) (H : Z7) (R : Z4) [hG : MemRows ag 1 (urows g) R] :
    Fn Try.prog 48 [.pointer (some ⟨bk, 0, none⟩)] ((bk, cel 80 [.slice ag g.length cg, .int .i64 (tq), .int .u32 (mx)]) :: H) R (fun v H' R' => ∃ x m' : Int, (0 ≤ x ∧ x ≤ 65535) ∧ v = .int .i64 x ∧ (0 ≤ m' ∧ m' ≤ 4294967295) ∧ H' = (bk, cel 80 [.slice ag g.length cg, .int .i64 (tq + 1), .int .u32 (m')]) :: H ∧ R' = R) := by
 refine Zb Try.func48 rfl Try.ntmps48 rfl ?_
 refine sqt 1 rfl (pur 1 rfl (Z0 (sqt 6 rfl (pur 1 rfl (sp rfl (PE.nilCheck rfl) rfl (sp rfl (PE.fA Z1r rfl) rfl (spL rfl rfl (lh Z82 rfl rfl) rfl (sp rfl (PE.lenSl Z3z rfl) rfl (pur 1 rfl (sqt 2 rfl (pur 2 rfl ?_)))))))))))
 refine Z2 rfl ?_ ?_ <;> intro hc0 <;> try simp only [cS] at hc0
 obtain ⟨y, hy⟩ : ∃ y, g[(tq % g.length).toNat]? = some y := ⟨_, List.getElem?_eq_getElem (by have := Int.emod_lt_of_pos tq hc0; have := Int.emod_nonneg tq (show (g.length : Int) ≠ 0 by omega); omega)⟩
 refine ZE (a := ag) (sz := 1) (rows := urows g) (by intro h0; simp [urows] at h0; simp [h0] at hy) (fun bgr ogr he => ?_)
 subst he
 refine Z8 [0, 0, 2, 6, 14, 0, 32, 96, 224, 0, 512, 1536, 3584, 0, 15872, 32736, 65504, 131040, 262142, 524286, 1048575, 2097151, 4194303] (tks 0 4 (.ld 4 (tks 5 3 (.ld 8 (tks 9 3 (.ld 12 (tks 13 3 (.ld 16 (tks 17 5 (.big 22 .done)))))))))) Zk (by kernel_rfl) ?_
 refine Za 2 rfl (tk rfl (PE.nilCheck rfl) rfl (tk rfl (PE.fA ZA rfl) rfl (ld rfl rfl (lh Z2t rfl rfl) rfl (Za 1 rfl (tk rfl (PE.nilCheck rfl) rfl (tk rfl (PE.fA Z1r rfl) rfl (ld rfl rfl (lh Z82 rfl rfl) rfl (Za 1 rfl (tk rfl (PE.nilCheck rfl) rfl (tk rfl (PE.fA Z0d rfl) rfl (ld rfl rfl (lh sc3 rfl rfl) rfl (Za 1 rfl (tk rfl (PE.rem rfl rfl (by omega)) rfl (tk rfl (PE.indexAddr ZcE rfl rfl (by exact Int.emod_nonneg tq (by omega)) (by exact Int.emod_lt_of_pos tq hc0)) rfl (ld rfl rfl (lf0 (x := .int .u8 y) sc5 (by simp [urows, urow, hy]; rfl) rfl) rfl ?_)))))))))))))))
 refine tkE rfl (PE.convU us5 Za9 rfl) rfl ?_
 rintro _ ⟨u28, rfl, hu28⟩
 refine tkE rfl (PE.xorU rfl rfl) rfl ?_
 rintro _ ⟨u29, rfl, hu29⟩
 refine tkE rfl (PE.mulU rfl rfl) rfl ?_
 rintro _ ⟨u30, rfl, hu30⟩
 refine tk rfl (PE.nilCheck rfl) rfl (tk rfl (PE.fA ZA rfl) rfl ?_)
 refine sto rfl rfl rfl Z91 rfl rfl rfl rfl ?_
 refine bgT (sqt 8 rfl (pur 1 rfl (sp rfl (PE.nilCheck rfl) rfl (sp rfl (PE.fA Z0d rfl) rfl (spL rfl rfl (lh sc3 rfl rfl) rfl (sp rfl (PE.add rfl rfl (by omega)) rfl (sp rfl (PE.nilCheck rfl) rfl (sp rfl (PE.fA Z0d rfl) rfl ?_))))))))
 refine sto rfl rfl rfl cn3 rfl rfl rfl rfl ?_
 refine Z0 (Z0 ?_)
 refine Z8 [0, 1, 3, 7, 0, 16, 48, 112, 240, 511] (tks 0 3 (.ld 3 (tks 4 3 (.ld 7 (.tk 8 (.tk 9 .done)))))) Zk (by kernel_rfl) ?_
 refine Za 1 rfl (tk rfl (PE.nilCheck rfl) rfl (tk rfl (PE.fA Z0d rfl) rfl (ld rfl rfl (lh sc3 rfl rfl) rfl (Za 1 rfl (tk rfl (PE.nilCheck rfl) rfl (tk rfl (PE.fA Z1r rfl) rfl (ld rfl rfl (lh Z82 rfl rfl) rfl (tk rfl (PE.lenSl Z3z rfl) rfl (Za 1 rfl ?_)))))))))
 refine Z2 rfl ?_ ?_ <;> intro hc1 <;> try simp only [cS] at hc1
 refine sqr 10 rfl (pur 2 rfl (sp rfl (PE.nilCheck rfl) rfl (sp rfl (PE.fA ZA rfl) rfl (spL rfl rfl (lh Z2t rfl rfl) rfl ?_))))
 refine spE rfl (PE.mulU rfl rfl) rfl ?_
 rintro _ ⟨u55, rfl, hu55⟩
 refine spE rfl (PE.addU rfl rfl) rfl ?_
 rintro _ ⟨u56, rfl, hu56⟩
 refine sp rfl (PE.nilCheck rfl) rfl (sp rfl (PE.fA ZA rfl) rfl ?_)
 refine sto rfl rfl rfl Z91 rfl rfl rfl rfl ?_
 refine Z0 ?_
 refine Z8 [0, 1, 3, 7, 0, 16, 48, 112, 240, 511, 1023, 2047, 4095, 8191] (tks 0 3 (.ld 3 (tks 4 3 (.ld 7 (tks 8 6 .done))))) Zk (by kernel_rfl) ?_
 refine Za 1 rfl (tk rfl (PE.nilCheck rfl) rfl (tk rfl (PE.fA ZA rfl) rfl (ld rfl rfl (lh Z2t rfl rfl) rfl (Za 1 rfl (tk rfl (PE.nilCheck rfl) rfl (tk rfl (PE.fA ZA rfl) rfl (ld rfl rfl (lh Z2t rfl rfl) rfl ?_)))))))
 refine tkE rfl (PE.shrU rfl rfl (by decide) (by omega) (by omega)) rfl ?_
 rintro _ ⟨u67, rfl, hu67⟩
 refine tkE rfl (PE.xorU rfl rfl) rfl ?_
 rintro _ ⟨u68, rfl, hu68⟩
 refine tkE rfl (PE.shrU rfl rfl (by decide) (by omega) (by omega)) rfl ?_
 rintro _ ⟨u69, rfl, hu69⟩
 refine tkE rfl (PE.andU rfl rfl (by decide) (by decide)) rfl ?_
 rintro _ ⟨u70, rfl, hu70⟩
 refine tk rfl (PE.conv64 Z7W ik3 rfl (by omega)) rfl (Za 1 rfl (Z1 ?_))
 first
   | exact rtA rfl rfl rfl ⟨u70, _, hu70, rfl, hu56, rfl, rfl⟩ idH
   | exact rtA rfl rfl rfl ⟨u70, _, hu70, rfl, hu30, rfl, rfl⟩ idH
   | exact rtA rfl rfl rfl ⟨u70, _, hu70, rfl, hmx, rfl, rfl⟩ idH
 refine Z5 (Z0 ?_)
 refine Z8 [0, 1, 3, 7, 0, 16, 48, 112, 240, 511, 1023, 2047, 4095, 8191] (tks 0 3 (.ld 3 (tks 4 3 (.ld 7 (tks 8 6 .done))))) Zk (by kernel_rfl) ?_
 refine Za 1 rfl (tk rfl (PE.nilCheck rfl) rfl (tk rfl (PE.fA ZA rfl) rfl (ld rfl rfl (lh Z2t rfl rfl) rfl (Za 1 rfl (tk rfl (PE.nilCheck rfl) rfl (tk rfl (PE.fA ZA rfl) rfl (ld rfl rfl (lh Z2t rfl rfl) rfl ?_)))))))
 refine tkE rfl (PE.shrU rfl rfl (by decide) (by omega) (by omega)) rfl ?_
 rintro _ ⟨u67, rfl, hu67⟩
 refine tkE rfl (PE.xorU rfl rfl) rfl ?_
 rintro _ ⟨u68, rfl, hu68⟩
 refine tkE rfl (PE.shrU rfl rfl (by decide) (by omega) (by omega)) rfl ?_
 rintro _ ⟨u69, rfl, hu69⟩
 refine tkE rfl (PE.andU rfl rfl (by decide) (by decide)) rfl ?_
 rintro _ ⟨u70, rfl, hu70⟩
 refine tk rfl (PE.conv64 Z7W ik3 rfl (by omega)) rfl (Za 1 rfl (Z1 ?_))
 first
   | exact rtA rfl rfl rfl ⟨u70, _, hu70, rfl, hu56, rfl, rfl⟩ idH
   | exact rtA rfl rfl rfl ⟨u70, _, hu70, rfl, hu30, rfl, rfl⟩ idH
   | exact rtA rfl rfl rfl ⟨u70, _, hu70, rfl, hmx, rfl, rfl⟩ idH
 refine Z5 (sqt 8 rfl (pur 1 rfl (sp rfl (PE.nilCheck rfl) rfl (sp rfl (PE.fA Z0d rfl) rfl (spL rfl rfl (lh sc3 rfl rfl) rfl (sp rfl (PE.add rfl rfl (by omega)) rfl (sp rfl (PE.nilCheck rfl) rfl (sp rfl (PE.fA Z0d rfl) rfl ?_))))))))
 refine sto rfl rfl rfl cn3 rfl rfl rfl rfl ?_
 refine Z0 (Z0 ?_)
 refine Z8 [0, 1, 3, 7, 0, 16, 48, 112, 240, 511] (tks 0 3 (.ld 3 (tks 4 3 (.ld 7 (.tk 8 (.tk 9 .done)))))) Zk (by kernel_rfl) ?_
 refine Za 1 rfl (tk rfl (PE.nilCheck rfl) rfl (tk rfl (PE.fA Z0d rfl) rfl (ld rfl rfl (lh sc3 rfl rfl) rfl (Za 1 rfl (tk rfl (PE.nilCheck rfl) rfl (tk rfl (PE.fA Z1r rfl) rfl (ld rfl rfl (lh Z82 rfl rfl) rfl (tk rfl (PE.lenSl Z3z rfl) rfl (Za 1 rfl ?_)))))))))
 refine Z2 rfl ?_ ?_ <;> intro hc1 <;> try simp only [cS] at hc1
 refine sqr 10 rfl (pur 2 rfl (sp rfl (PE.nilCheck rfl) rfl (sp rfl (PE.fA ZA rfl) rfl (spL rfl rfl (lh Z2t rfl rfl) rfl ?_))))
 refine spE rfl (PE.mulU rfl rfl) rfl ?_
 rintro _ ⟨u55, rfl, hu55⟩
 refine spE rfl (PE.addU rfl rfl) rfl ?_
 rintro _ ⟨u56, rfl, hu56⟩
 refine sp rfl (PE.nilCheck rfl) rfl (sp rfl (PE.fA ZA rfl) rfl ?_)
 refine sto rfl rfl rfl Z91 rfl rfl rfl rfl ?_
 refine Z0 ?_
 refine Z8 [0, 1, 3, 7, 0, 16, 48, 112, 240, 511, 1023, 2047, 4095, 8191] (tks 0 3 (.ld 3 (tks 4 3 (.ld 7 (tks 8 6 .done))))) Zk (by kernel_rfl) ?_
 refine Za 1 rfl (tk rfl (PE.nilCheck rfl) rfl (tk rfl (PE.fA ZA rfl) rfl (ld rfl rfl (lh Z2t rfl rfl) rfl (Za 1 rfl (tk rfl (PE.nilCheck rfl) rfl (tk rfl (PE.fA ZA rfl) rfl (ld rfl rfl (lh Z2t rfl rfl) rfl ?_)))))))
 refine tkE rfl (PE.shrU rfl rfl (by decide) (by omega) (by omega)) rfl ?_
 rintro _ ⟨u67, rfl, hu67⟩
 refine tkE rfl (PE.xorU rfl rfl) rfl ?_
 rintro _ ⟨u68, rfl, hu68⟩
 refine tkE rfl (PE.shrU rfl rfl (by decide) (by omega) (by omega)) rfl ?_
 rintro _ ⟨u69, rfl, hu69⟩
 refine tkE rfl (PE.andU rfl rfl (by decide) (by decide)) rfl ?_
 rintro _ ⟨u70, rfl, hu70⟩
 refine tk rfl (PE.conv64 Z7W ik3 rfl (by omega)) rfl (Za 1 rfl (Z1 ?_))
 first
   | exact rtA rfl rfl rfl ⟨u70, _, hu70, rfl, hu56, rfl, rfl⟩ idH
   | exact rtA rfl rfl rfl ⟨u70, _, hu70, rfl, hu30, rfl, rfl⟩ idH
   | exact rtA rfl rfl rfl ⟨u70, _, hu70, rfl, hmx, rfl, rfl⟩ idH
 refine Z5 (Z0 ?_)
 refine Z8 [0, 1, 3, 7, 0, 16, 48, 112, 240, 511, 1023, 2047, 4095, 8191] (tks 0 3 (.ld 3 (tks 4 3 (.ld 7 (tks 8 6 .done))))) Zk (by kernel_rfl) ?_
 refine Za 1 rfl (tk rfl (PE.nilCheck rfl) rfl (tk rfl (PE.fA ZA rfl) rfl (ld rfl rfl (lh Z2t rfl rfl) rfl (Za 1 rfl (tk rfl (PE.nilCheck rfl) rfl (tk rfl (PE.fA ZA rfl) rfl (ld rfl rfl (lh Z2t rfl rfl) rfl ?_)))))))
 refine tkE rfl (PE.shrU rfl rfl (by decide) (by omega) (by omega)) rfl ?_
 rintro _ ⟨u67, rfl, hu67⟩
 refine tkE rfl (PE.xorU rfl rfl) rfl ?_
 rintro _ ⟨u68, rfl, hu68⟩
 refine tkE rfl (PE.shrU rfl rfl (by decide) (by omega) (by omega)) rfl ?_
 rintro _ ⟨u69, rfl, hu69⟩
 refine tkE rfl (PE.andU rfl rfl (by decide) (by decide)) rfl ?_
 rintro _ ⟨u70, rfl, hu70⟩
 refine tk rfl (PE.conv64 Z7W ik3 rfl (by omega)) rfl (Za 1 rfl (Z1 ?_))
 first
   | exact rtA rfl rfl rfl ⟨u70, _, hu70, rfl, hu56, rfl, rfl⟩ idH
   | exact rtA rfl rfl rfl ⟨u70, _, hu70, rfl, hu30, rfl, rfl⟩ idH
   | exact rtA rfl rfl rfl ⟨u70, _, hu70, rfl, hmx, rfl, rfl⟩ idH
theorem Zo (g : List Int) (ag : Option Addr) (cg bk : Nat) (hgl : g.length ≤ 9223372036854775807) (tq mx : Int) (htq : 0 ≤ tq ∧ tq ≤ 1000000000) (hmx : 0 ≤ mx ∧ mx ≤ 4294967295) (n : Int) (H : Z7) (R : Z4) [hG : MemRows ag 1 (urows g) R] :
    Fn Try.prog 19 [.pointer (some ⟨bk, 0, none⟩), .int .i64 n] ((bk, cel 80 [.slice ag g.length cg, .int .i64 (tq), .int .u32 (mx)]) :: H) R (fun v H' R' => ∃ x m' : Int, (0 ≤ x ∧ x < max 1 n) ∧ v = .int .i64 x ∧ (0 ≤ m' ∧ m' ≤ 4294967295) ∧ H' = (bk, cel 80 [.slice ag g.length cg, .int .i64 (tq + 1), .int .u32 (m')]) :: H ∧ R' = R) := by
 refine Zb Try.func19 rfl Try.ntmps19 rfl ?_
 refine sqt 1 rfl (pur 1 rfl (sqt 6 rfl (pur 1 rfl ?_)))
 refine cl rfl Z99 rfl rfl (Z2n g ag cg bk hgl tq mx htq hmx _ _) ?_
 rintro _ _ _ ⟨x, m', hx, rfl, hm', rfl, rfl⟩
 refine pur 1 rfl (sp rfl (PE.max rfl rfl) rfl (sp rfl (PE.rem rfl rfl (by omega)) rfl (pur 1 rfl (Z1 ?_))))
 exact rtA rfl rfl rfl ⟨_, m', ⟨Int.emod_nonneg _ (by omega), Int.emod_lt_of_pos _ (by omega)⟩, rfl, hm', rfl, rfl⟩ idH
theorem ZS (g : List Int) (ag : Option Addr) (cg bk : Nat) (hgl : g.length ≤ 9223372036854775807) (tq mx : Int) (htq : 0 ≤ tq ∧ tq ≤ 1000000000) (hmx : 0 ≤ mx ∧ mx ≤ 4294967295) (lo hi : Int) (hb : -1000000 ≤ lo ∧ lo ≤ 1000000 ∧ -1000000 ≤ hi ∧ hi ≤ 1000000) (H : Z7) (R : Z4) [hG : MemRows ag 1 (urows g) R] :
    Fn Try.prog 18 [.pointer (some ⟨bk, 0, none⟩), .int .i64 lo, .int .i64 hi] ((bk, cel 80 [.slice ag g.length cg, .int .i64 (tq), .int .u32 (mx)]) :: H) R (fun v H' R' => ∃ x m' : Int, (lo ≤ x ∧ x < lo + max 1 (hi - lo + 1)) ∧ v = .int .i64 x ∧ (0 ≤ m' ∧ m' ≤ 4294967295) ∧ H' = (bk, cel 80 [.slice ag g.length cg, .int .i64 (tq + 1), .int .u32 (m')]) :: H ∧ R' = R) := by
 refine Zb Try.func18 rfl Try.ntmps18 rfl ?_
 refine sqt 1 rfl (pur 1 rfl (sqt 9 rfl (pur 4 rfl (sp rfl (PE.sub rfl rfl (by omega)) rfl (sp rfl (PE.add rfl rfl (by omega)) rfl ?_)))))
 refine cl rfl ZQ rfl rfl (Zo g ag cg bk hgl tq mx htq hmx (hi - lo + 1) _ _) ?_
 rintro _ _ _ ⟨x, m', hx, rfl, hm', rfl, rfl⟩
 refine sp rfl (PE.add rfl rfl (by omega)) rfl (pur 1 rfl (Z1 ?_))
 exact rtA rfl rfl rfl ⟨lo + x, m', ⟨by omega, by omega⟩, rfl, hm', rfl, rfl⟩ idH
end Go.Proofs.Ythhdgeibokecjaa.Bd
namespace Go.Proofs.Ythhdgeibokecjaa.Bd
set_option linter.unusedSimpArgs false
set_option linter.unusedVariables false
theorem Z5k {t : Twn} (h : t.ok) (hb : ∀ i, Z0c t.rats i = false) : t.check = 0 := by
  obtain ⟨h1, h2, h3, h4, h5, h6, h7, h8, h9, h10⟩ := h
  have e1 : inb t.rats.length 1 4 = true := by simp only [inb, Bool.and_eq_true, decide_eq_true_eq]; omega
  have e2 : ([t.holds, t.need, t.good, t.bad].all fun n => inb n 0 30) = true := by
    simp only [List.all_cons, List.all_nil, Bool.and_true, inb, Bool.and_eq_true, decide_eq_true_eq]; omega
  have e3 : inb t.patience 0 3 = true := by simp only [inb, Bool.and_eq_true, decide_eq_true_eq]; omega
  have e4 : inb t.run 0 3 = true := by simp only [inb, Bool.and_eq_true, decide_eq_true_eq]; omega
  have e5 : inb t.rot 0 5 = true := by simp only [inb, Bool.and_eq_true, decide_eq_true_eq]; omega
  have e6 : (t.rats.all fun q => inb q.sacks 0 30 && inb q.price 0 100) = true := List.all_eq_true.2 fun q hq => by
    have := h8 q hq
    simp only [inb, Bool.and_eq_true, decide_eq_true_eq]; omega
  have e7 : decide (t.good < t.bad) = false := decide_eq_false (by omega)
  have e8 : (List.range t.rats.length).any (Z0c t.rats) = false := List.any_eq_false.2 fun i _ => by rw [hb i]; simp
  unfold Twn.check
  rw [e1, e2, e3, e4, e5, h9, e6, e7, e8]; rfl
structure Tle (t t' : Twn) : Prop where
  holds : t'.holds = t.holds
  need : t'.need = t.need
  good : t'.good = t.good
  rot : t'.rot = t.rot
  rats : t'.rats = t.rats
  patience : t.patience ≤ t'.patience
  run : t'.run ≤ t.run
  bad : t.bad ≤ t'.bad
structure Sle (s s' : Sta) : Prop where
  stock : s.stock ≤ s'.stock
  short : s'.short ≤ s.short
  dry : s.dry ≤ s'.dry
theorem Z6E {x x' r : Int} (h : x ≤ x') (h0 : 0 ≤ r) (h1 : r ≤ 5) (hx : 0 ≤ x) : x - (x * r + 9) / 10 ≤ x' - (x' * r + 9) / 10 := by
  obtain ⟨d, rfl⟩ : ∃ d, x' = x + d := ⟨x' - x, by omega⟩
  have a := Int.mul_nonneg hx h0
  have b := Int.mul_nonneg (show 0 ≤ d by omega) h0
  have c := Int.mul_le_mul_of_nonneg_left h1 (show 0 ≤ d by omega)
  rw [Int.add_mul]
  generalize x * r = p at *
  generalize d * r = q at *
  omega
theorem Z8g {t t' : Twn} (h : Tle t t') {s s' : Sta} (hs : Sle s s') {q : Rn} (hc : t.can s q = true) : t'.can s' q = true := by
  have h1 := hs.stock
  have h2 := hs.short
  have h3 := h.patience
  simp only [Twn.can, Bool.and_eq_true, Bool.or_eq_true, decide_eq_true_eq, Bool.not_eq_true', decide_eq_false_iff_not, h.need] at hc ⊢
  omega
theorem Z4d {t t' : Twn} (ht : t.ok) (h : Tle t t') {s s' : Sta} (hs : Sle s s') {q : Rn} (hc : t.can s q = true) (bad : Bool) : Sle (t.next s q bad) (t'.next s' q bad) := by
  have h1 := hs.stock
  have h2 := hs.short
  have h3 := hs.dry
  have h4 := h.bad
  have hq := ZaJ hc
  have hl := Z6E (x := s.stock - q.sacks) (x' := s'.stock - q.sacks) (r := t.rot) (by omega) ht.rot.1 ht.rot.2 (by omega)
  refine ⟨?_, ?_, ?_⟩
  · unfold Twn.next Z1O
    simp only [h.holds, h.rot, h.good]
    cases bad <;> simp only [cond_true, cond_false] <;> omega
  · unfold Twn.next
    simp only [h.need]
    cases decide (q.sacks < t.need) <;> simp only [cond_true, cond_false] <;> omega
  · unfold Twn.next
    simp only
    cases bad <;> simp only [cond_true, cond_false] <;> omega
theorem Z7T {t t' : Twn} (ht : t.ok) (ht' : t'.ok) (h : Tle t t') : ∀ (n : Nat) {s s' : Sta}, Srv t n s → Sle s s' → s'.right t' = true → Srv t' n s' := by
  have step : ∀ n : Nat, (∀ {s s' : Sta}, Bf t n s → Sle s s' → s'.right t' = true → Bf t' n s') → ∀ {s s' : Sta}, Srv t n s → Sle s s' → s'.right t' = true → Srv t' n s' := by
    intro n ih s s' hs hle hr
    refine Z0x (X := fun u' => ∃ u, Srv t n u ∧ Sle u u' ∧ u'.right t' = true) ?_ ⟨s, hs, hle, hr⟩
    rintro u' ⟨u, hu, hul, hur⟩
    obtain ⟨h1, q, hq, hc, hg, hb⟩ := Z0R t n u hu
    have hc' := Z8g h hul hc
    have hq' : q ∈ t'.rats := by rw [h.rats]; exact hq
    refine ⟨hur, q, hq', hc', ⟨_, hg, Z4d ht h hul hc false, Zm ht' hur hq' hc' (by simp)⟩, ?_⟩
    have hd := hul.dry
    have hrn := h.run
    rcases hb with hb | hb | hb
    · exact .inl hb
    · exact .inr (.inl (by omega))
    · by_cases hdr : u'.dry < t'.run
      · exact .inr (.inr (ih hb (Z4d ht h hul hc true) (Zm ht' hur hq' hc' (fun _ => hdr))))
      · exact .inr (.inl hdr)
  intro n
  induction n with
  | zero => exact step 0 (fun _ _ _ => trivial)
  | succ n ih => exact step (n + 1) (fun hb hl hr => ih hb hl hr)
theorem Z80 {t t' : Twn} (ht : t.ok) (ht' : t'.ok) (h : Tle t t') {y y' : List Int} (hl : LSA t y) (hl' : LSA t' y') {s s' : Sta} (hs : s.right t = true) (hle : Sle s s') (hr : s'.right t' = true) : lat y s ≤ lat y' s' := by
  have r1 := Z3e hl hs
  have r2 := Z3e hl' hr
  by_cases h0 : lat y s = -1
  · omega
  · obtain ⟨n, hn⟩ : ∃ n : Nat, lat y s = n := ⟨(lat y s).toNat, by omega⟩
    have h1 := (Z8f hl hs (n := n) (by omega)).1 (by omega)
    have h2 := (Z8f hl' hr (n := n) (by omega)).2 (Z7T ht ht' h n h1 hle hr)
    omega
theorem Tle.refl (t : Twn) : Tle t t := ⟨rfl, rfl, rfl, rfl, rfl, Int.le_refl _, Int.le_refl _, Int.le_refl _⟩
theorem Sle.refl (s : Sta) : Sle s s := ⟨Int.le_refl _, Int.le_refl _, Int.le_refl _⟩
structure MadeOk (t : Twn) (hs : Int) : Prop where
  ok : t.check = 0
  holds : 4 ≤ t.holds ∧ t.holds ≤ hs
  patience : t.patience ≤ 2
open Go
theorem Z1c : cal Try.prog 18 = true := by kernel_rfl
theorem Z5H {l : List Rn} {x : Rn} (h : ∀ i, Z0c l i = false) (hx : ∀ q ∈ l, x.sacks < q.sacks ∧ q.price < x.price) : ∀ i, Z0c (l ++ [x]) i = false := fun i => by
  rcases Nat.lt_trichotomy (i + 1) l.length with h1 | h1 | h1
  · have := h i
    unfold Z0c at this ⊢
    rw [List.getElem?_append_left (by omega), List.getElem?_append_left (by omega)]; exact this
  · obtain ⟨q, hq⟩ : ∃ q, l[i]? = some q := ⟨_, List.getElem?_eq_getElem (by omega)⟩
    have h2 := hx q (List.mem_of_getElem? hq)
    unfold Z0c
    rw [List.getElem?_append_left (by omega), hq, List.getElem?_append_right (by omega), show i + 1 - l.length = 0 from by omega]
    simp only [List.getElem?_cons_zero]
    rw [decide_eq_false (by omega), decide_eq_false (by omega)]; rfl
  · unfold Z0c
    rw [List.getElem?_eq_none (l := l ++ [x]) (i := i + 1) (by simp; omega)]
    split <;> simp_all
structure RatI (l : List Rn) (k : Nat) (sk pr : Int) : Prop where
  len : l.length ≤ k
  one : 0 < k → 1 ≤ l.length
  slo : -3 * k ≤ sk ∧ sk ≤ 7
  phi : 0 ≤ pr ∧ pr ≤ 19 + 9 * k
  q : ∀ q ∈ l, (0 ≤ q.sacks ∧ q.sacks ≤ 7 ∧ 0 ≤ q.price ∧ q.price ≤ 100) ∧ sk < q.sacks ∧ q.price < pr
  bad : ∀ i, Z0c l i = false
  zero : k = 0 → 0 ≤ sk
theorem RatI.more {l : List Rn} {k : Nat} {sk pr a b : Int} (h : RatI l k sk pr) (hk : k < 4) (h0 : 0 ≤ sk) (ha : 1 ≤ a ∧ a ≤ 3) (hb : 1 ≤ b ∧ b ≤ 9) : RatI (l ++ [⟨sk, pr⟩]) (k + 1) (sk - a) (pr + b) := by
  have h1 := h.slo
  have h2 := h.phi
  have h3 := h.len
  refine ⟨by simp; omega, fun _ => by simp, by omega, by omega, fun q hq => ?_, Z5H h.bad (fun q hq => (h.q q hq).2), fun h => by omega⟩
  rcases List.mem_append.1 hq with hq | hq
  · have := h.q q hq; omega
  · simp only [List.mem_singleton] at hq; subst hq; simp only; omega
theorem RatI.less {l : List Rn} {k : Nat} {sk pr a b : Int} (h : RatI l k sk pr) (hk : k < 4) (h0 : sk < 0) (ha : 1 ≤ a ∧ a ≤ 3) (hb : 1 ≤ b ∧ b ≤ 9) : RatI l (k + 1) (sk - a) (pr + b) := by
  have h1 := h.slo
  have h2 := h.phi
  have h3 := h.len
  refine ⟨by omega, fun _ => h.one ?_, by omega, by omega, fun q hq => by have := h.q q hq; omega, h.bad, fun h => by omega⟩
  rcases Nat.eq_zero_or_pos k with h4 | h4
  · have := h.zero h4; omega
  · exact h4
theorem c_Made (g : List Int) (ag : Option Addr) (cg bk : Nat) (hgl : g.length ≤ 9223372036854775807) (tq mx : Int) (htq : 0 ≤ tq ∧ tq ≤ 1000000) (hmx : 0 ≤ mx ∧ mx ≤ 4294967295) (hs : Int) (hhs : 4 ≤ hs ∧ hs ≤ 30) (H : Z7) (R : Z4) [hG : MemRows ag 1 (urows g) R] :
    Fn Try.prog 5 [.pointer (some ⟨bk, 0, none⟩), .int .i64 hs] ((bk, cel 80 [.slice ag g.length cg, .int .i64 (tq), .int .u32 (mx)]) :: H) R (fun v H' R' => ∃ (t : Twn) (ba oa ca : Nat) (tq' mx' : Int), MadeOk t hs ∧ v = t.v (t.sl (some ⟨ba, oa, none⟩) ca) ∧ (tq ≤ tq' ∧ tq' ≤ tq + 40) ∧ (0 ≤ mx' ∧ mx' ≤ 4294967295) ∧
      H' = (bk, cel 80 [.slice ag g.length cg, .int .i64 (tq'), .int .u32 (mx')]) :: H ∧ R' = RowsA (some ⟨ba, oa, none⟩) 2 (rrows t.rats) :: R) := by
 refine Zb Try.func5 rfl Try.ntmps5 rfl ?_
 refine sqt 1 rfl (alc rfl Z7u rfl (fun b4 => sqt 18 rfl (pur 2 rfl ?_)))
 refine Zf bk ?_
 refine cl rfl Z1c rfl rfl (ZS g ag cg bk hgl _ _ (by omega) (by assumption) (4) (hs) (by first | omega | (dsimp only; omega)) _ _) ?_
 rintro _ _ R1 ⟨x10, m10, hx10, rfl, hm10, rfl, hR1⟩
 obtain rfl := hR1.symm
 refine pur 1 rfl ?_
 refine cl rfl Z1c rfl rfl (ZS g ag cg bk hgl _ _ (by omega) (by assumption) (1) (6) (by first | omega | (dsimp only; omega)) _ _) ?_
 rintro _ _ R1 ⟨x12, m12, hx12, rfl, hm12, rfl, hR1⟩
 obtain rfl := hR1.symm
 refine pur 1 rfl ?_
 refine cl rfl ZQ rfl rfl (Zo g ag cg bk hgl _ _ (by omega) (by assumption) (3) _ _) ?_
 rintro _ _ R1 ⟨x14, m14, hx14, rfl, hm14, rfl, hR1⟩
 obtain rfl := hR1.symm
 refine pur 1 rfl ?_
 refine cl rfl ZQ rfl rfl (Zo g ag cg bk hgl _ _ (by omega) (by assumption) (4) _ _) ?_
 rintro _ _ R1 ⟨x16, m16, hx16, rfl, hm16, rfl, hR1⟩
 obtain rfl := hR1.symm
 refine pur 1 rfl ?_
 refine cl rfl ZQ rfl rfl (Zo g ag cg bk hgl _ _ (by omega) (by assumption) (9) _ _) ?_
 rintro _ _ R1 ⟨x18, m18, hx18, rfl, hm18, rfl, hR1⟩
 obtain rfl := hR1.symm
 refine sp rfl (PE.quo rfl rfl (by omega)) rfl (pur 1 rfl ?_)
 refine cl rfl ZQ rfl rfl (Zo g ag cg bk hgl _ _ (by omega) (by assumption) (3) _ _) ?_
 rintro _ _ R1 ⟨x21, m21, hx21, rfl, hm21, rfl, hR1⟩
 obtain rfl := hR1.symm
 have hm22 := mul_b (a := x18 / 5) (b := x21) (A := 1) (B := 2) (by omega) (by omega) (by omega) (by omega)
 refine sp rfl (PE.mul rfl rfl (by omega)) rfl (sp rfl (PE.build (out := twl ⟨⟨0, 0, 0⟩, x10, x12, x14, x16, 0, 0, x18 / 5 * x21, []⟩ (.slice none 0 0)) ZcR Z7u rfl (by kernel_rfl)) rfl (alc rfl Z7u rfl (fun b5 => ?_)))
 refine sto rfl rfl rfl Z8A rfl rfl rfl rfl ?_
 refine sqt 9 rfl (pur 1 rfl (sp rfl (PE.fA Z2L rfl) rfl (spL rfl rfl (lh sc3 rfl rfl) rfl (sp rfl (PE.fA Z2L rfl) rfl (spL rfl rfl (lh sc3 rfl rfl) rfl (sp rfl (PE.add rfl rfl (by first | omega | (dsimp only; omega))) rfl ?_))))))
 refine Zf bk ?_
 refine cl rfl Z1c rfl rfl (ZS g ag cg bk hgl _ _ (by omega) (by assumption) (x12) (x12 + 4) (by first | omega | (dsimp only; omega)) _ _) ?_
 rintro _ _ R1 ⟨x30, m30, hx30, rfl, hm30, rfl, hR1⟩
 obtain rfl := hR1.symm
 refine sp rfl (PE.fA Z36 rfl) rfl ?_
 refine sto rfl rfl rfl cn3 rfl rfl rfl rfl ?_
 refine sqt 7 rfl (pur 1 rfl (sp rfl (PE.fA Z2L rfl) rfl (spL rfl rfl (lh sc3 rfl rfl) rfl (sp rfl (PE.add rfl rfl (by first | omega | (dsimp only; omega))) rfl ?_))))
 refine cl rfl ZQ rfl rfl (Zo g ag cg bk hgl _ _ (by omega) (by assumption) (x12 + 1) _ _) ?_
 rintro _ _ R1 ⟨x36, m36, hx36, rfl, hm36, rfl, hR1⟩
 obtain rfl := hR1.symm
 refine sp rfl (PE.fA Z2N rfl) rfl ?_
 refine sto rfl rfl rfl cn3 rfl rfl rfl rfl ?_
 refine Z0 ?_
 refine Z8 [0, 1, 0, 4, 12, 31, 0, 76, 255, 511] (.tk 0 (.ld 1 (.tk 2 (.tk 6 (.big 3 (.tk 4 (.tk 5 (.big 7 (.tk 8 (.tk 9 .done)))))))))) Zk (by kernel_rfl) ?_
 refine tk rfl (PE.fA Z2L rfl) rfl (ld rfl rfl (lh sc3 rfl rfl) rfl (Za 2 rfl ?_))
 refine cl rfl ZQ rfl rfl (Zo g ag cg bk hgl _ _ (by omega) (by assumption) (3) _ _) ?_
 rintro _ _ R1 ⟨x41, m41, hx41, rfl, hm41, rfl, hR1⟩
 obtain rfl := hR1.symm
 refine bg (fun w hs => ⟨(lh sc3 rfl rfl) w hs, trivial⟩) ?_
 refine tk rfl (PE.quo rfl rfl (by omega)) rfl (tk rfl (PE.add rfl rfl (by first | omega | (dsimp only; omega))) rfl ?_)
 refine cl rfl ZQ rfl rfl (Zo g ag cg bk hgl _ _ (by omega) (by assumption) (20) _ _) ?_
 rintro _ _ R1 ⟨x45, m45, hx45, rfl, hm45, rfl, hR1⟩
 obtain rfl := hR1.symm
 refine bg (fun w hs => ⟨(lh sc3 rfl rfl) w hs, trivial⟩) ?_
 refine Za 2 rfl (Z0 (sqt 3 rfl (pur 1 rfl ?_)))
 refine cl rfl Z1c rfl rfl (ZS g ag cg bk hgl _ _ (by omega) (by assumption) (1) (4) (by first | omega | (dsimp only; omega)) _ _) ?_
 rintro _ _ R1 ⟨x47, m47, hx47, rfl, hm47, rfl, hR1⟩
 obtain rfl := hR1.symm
 refine pur 1 rfl (Z3 ?_)
 obtain ⟨n47, rfl⟩ : ∃ n : Nat, x47 = n := ⟨x47.toNat, by omega⟩
 refine Zj (ι := (x : {x : Nat × Int × Int × List Rn × Int × Int // x.1 ≤ n47 ∧ RatI x.2.2.2.1 x.1 x.2.1 x.2.2.1 ∧ (tq ≤ x.2.2.2.2.1 ∧ x.2.2.2.2.1 ≤ tq + 20 + 2 * x.1) ∧ (0 ≤ x.2.2.2.2.2 ∧ x.2.2.2.2.2 ≤ 4294967295)}) × OSl 77 2 (rrows x.1.2.2.2.1)) (fun x => ⟨[(0, .pointer (some ⟨bk, 0, none⟩)), (4, .pointer (some ⟨b4, 0, none⟩)), (5, .pointer (some ⟨b5, 0, none⟩)), (6, .int .i64 x.1.1.2.1), (7, .int .i64 x.1.1.2.2.1), (47, .int .i64 n47), (48, .int .i64 x.1.1.1)],
   (bk, cel 80 [.slice ag g.length cg, .int .i64 (x.1.1.2.2.2.2.1), .int .u32 (x.1.1.2.2.2.2.2)]) :: (x.2.G ++ (b5, cel 27 (twl ⟨⟨0, 0, 0⟩, x10, x12, x14, x16, x30, x36, x18 / 5 * x21, x.1.1.2.2.2.1⟩ x.2.fs)) :: (b4, cel 27 [.int .i64 0, .int .i64 0, .int .i64 0, .int .i64 0, .int .i64 0, .int .i64 0, .int .i64 0, .int .i64 0, .int .i64 0, .int .i64 0, .slice none 0 0]) :: H), R⟩) (fun x => n47 - x.1.1.1) ⟨⟨(0, x12 + x41 / 2, x45, [], tq + 1 + 1 + 1 + 1 + 1 + 1 + 1 + 1 + 1 + 1 + 1, m47), by omega, ⟨by simp, by dsimp only; omega, by dsimp only; omega, by dsimp only; omega, by simp, fun i => by simp [Z0c], by dsimp only; omega⟩, by dsimp only; omega, by assumption⟩, OSl.nil _ _⟩ ?_ (fun x => ?_)
 exact Zr idH
 obtain ⟨⟨⟨k, sk, pr, l, tq2, mx2⟩, hk, hri, htq2, hmx2⟩, o'⟩ := x
 dsimp only at hk hri htq2 hmx2 o' ⊢
 have h1 := hri.slo
 have h2 := hri.phi
 have h3 := hri.len
 refine sqt 1 rfl (pur 1 rfl (Z0 ?_))
 refine Z2 rfl ?_ ?_ <;> intro hc0 <;> try simp only [cS] at hc0
 refine Z5 (Z0 (Z3 (Z0 (sqt 2 rfl (pur 2 rfl ?_)))))
 refine Z2 rfl ?_ ?_ <;> intro hc1 <;> try simp only [cS] at hc1
 refine sqr 9 rfl (sp rfl (PE.fA Z08 rfl) rfl (spL rfl rfl (lh Z1Z rfl rfl) rfl (pur 2 rfl (sp rfl (PE.build (out := [_, _]) ZbJ Z6n rfl rfl) rfl ?_))))
 refine bsl (out := [_, _]) rfl ZcS Z6n rfl rfl rfl rfl rfl rfl (fun b57 => ?_)
 refine apO (o') rfl ZbT rfl rfl (Z4L (row := Z1A ⟨sk, pr⟩) rfl) rfl rfl ((by simp only [rrows, List.length_map, List.length_singleton]; omega)) rfl (fun o58 => ?_)
 refine sp rfl (PE.fA Z08 rfl) rfl ?_
 refine Z1S (l' := twl ⟨⟨0, 0, 0⟩, x10, x12, x14, x16, x30, x36, x18 / 5 * x21, (l ++ [⟨sk, pr⟩])⟩ o58.fs) rfl rfl rfl ZcV rfl (by rw [o58.cells.1]; first | done | rfl) (by rw [o58.cells.1]; simp [o58.cells.2]) (by rw [o58.cells.1]; first | done | rfl) (by rw [o58.cells.1]; first | done | exact Nat.le_refl _) ?_
 refine sqr 10 rfl (pur 2 rfl ?_)
 refine Zf bk ?_
 refine cl rfl Z1c rfl rfl (ZS g ag cg bk hgl _ _ (by omega) (by assumption) (1) (3) (by first | omega | (dsimp only; omega)) _ _) ?_
 rintro _ _ R1 ⟨x62, m62, hx62, rfl, hm62, rfl, hR1⟩
 obtain rfl := hR1.symm
 refine sp rfl (PE.sub rfl rfl (by omega)) rfl (pur 2 rfl ?_)
 refine cl rfl Z1c rfl rfl (ZS g ag cg bk hgl _ _ (by omega) (by assumption) (1) (9) (by first | omega | (dsimp only; omega)) _ _) ?_
 rintro _ _ R1 ⟨x66, m66, hx66, rfl, hm66, rfl, hR1⟩
 obtain rfl := hR1.symm
 refine sp rfl (PE.add rfl rfl (by omega)) rfl (pur 2 rfl (sqr 2 rfl (sp rfl (PE.add rfl rfl (by omega)) rfl (pur 1 rfl ?_))))
 first
   | exact ZG ⟨⟨(k + 1, sk - x62, pr + x66, l ++ [⟨sk, pr⟩], tq2 + 1 + 1, m66), by omega, hri.more (a := x62) (b := x66) (by omega) (by omega) (by omega) (by omega), by dsimp only; omega, by assumption⟩, o58.cast (by simp [rrows])⟩ (by dsimp only; omega) (fun w h => (h.del b57).perm (by first | exact .refl _ | exact List.Perm.cons _ (.refl _)))
   | exact ZG ⟨⟨(k + 1, sk - x62, pr + x66, l, tq2 + 1 + 1, m66), by omega, hri.less (a := x62) (b := x66) (by omega) (by omega) (by omega) (by omega), by dsimp only; omega, by assumption⟩, o'⟩ (by dsimp only; omega) idH
 refine Z5 (sqr 10 rfl (pur 2 rfl ?_))
 refine Zf bk ?_
 refine cl rfl Z1c rfl rfl (ZS g ag cg bk hgl _ _ (by omega) (by assumption) (1) (3) (by first | omega | (dsimp only; omega)) _ _) ?_
 rintro _ _ R1 ⟨x62, m62, hx62, rfl, hm62, rfl, hR1⟩
 obtain rfl := hR1.symm
 refine sp rfl (PE.sub rfl rfl (by omega)) rfl (pur 2 rfl ?_)
 refine cl rfl Z1c rfl rfl (ZS g ag cg bk hgl _ _ (by omega) (by assumption) (1) (9) (by first | omega | (dsimp only; omega)) _ _) ?_
 rintro _ _ R1 ⟨x66, m66, hx66, rfl, hm66, rfl, hR1⟩
 obtain rfl := hR1.symm
 refine sp rfl (PE.add rfl rfl (by omega)) rfl (pur 2 rfl (sqr 2 rfl (sp rfl (PE.add rfl rfl (by omega)) rfl (pur 1 rfl ?_))))
 first
   | exact ZG ⟨⟨(k + 1, sk - x62, pr + x66, l ++ [⟨sk, pr⟩], tq2 + 1 + 1, m66), by omega, hri.more (a := x62) (b := x66) (by omega) (by omega) (by omega) (by omega), by dsimp only; omega, by assumption⟩, o58.cast (by simp [rrows])⟩ (by dsimp only; omega) (fun w h => (h.del b57).perm (by first | exact .refl _ | exact List.Perm.cons _ (.refl _)))
   | exact ZG ⟨⟨(k + 1, sk - x62, pr + x66, l, tq2 + 1 + 1, m66), by omega, hri.less (a := x62) (b := x66) (by omega) (by omega) (by omega) (by omega), by dsimp only; omega, by assumption⟩, o'⟩ (by dsimp only; omega) idH
 obtain rfl : k = n47 := by omega
 obtain ⟨a', c', he, hf⟩ := o'.freeze
 rw [he]
 refine Zf bk ?_
 refine Sy.heap (H' := _) (fun w h => hf (h.perm (List.perm_middle (l₁ := o'.G) (a := _)).symm)) ?_
 rw [show (rrows l).length = l.length from List.length_map _]
 refine ZE (a := a') (sz := 2) (rows := rrows l) (by have := hri.one (by omega); intro h0; simp [rrows] at h0; simp [h0] at this) (fun ba oa hea => ?_)
 subst hea
 refine Zg (Zh (Zh (ZJ (Z0 ?_))))
 refine Z8 [0, 0, 2, 6, 15, 0, 0, 64, 192, 511, 0, 2047, 4095, 0, 0, 16384, 49152, 126975, 0, 520191, 1044479, 2097151, 4194303, 8388607] (.tk 0 (.tk 1 (.ld 2 (.tk 3 (.tk 5 (.tk 6 (.ld 7 (.tk 8 (.tk 10 (.tk 13 (.tk 14 (.ld 15 (.tk 16 (.tk 18 (.big 4 (.big 9 (.big 11 (.tk 12 (.big 17 (.big 19 (tks 20 3 (.big 23 .done)))))))))))))))))))))) Zk (by kernel_rfl) ?_
 refine Za 1 rfl (tk rfl (PE.fA Z2S rfl) rfl (ld rfl rfl (lh sc3 rfl rfl) rfl (tk rfl (PE.add rfl rfl (by first | omega | (dsimp only; omega))) rfl (Za 1 rfl (tk rfl (PE.fA Z45 rfl) rfl (ld rfl rfl (lh sc3 rfl rfl) rfl (tk rfl (PE.add rfl rfl (by first | omega | (dsimp only; omega))) rfl (Za 2 rfl (tk rfl (PE.fA Z3U rfl) rfl (ld rfl rfl (lh sc3 rfl rfl) rfl (tk rfl (PE.add rfl rfl (by first | omega | (dsimp only; omega))) rfl (Za 1 rfl ?_))))))))))))
 refine cl rfl ZQ rfl rfl (Zo g ag cg bk hgl _ _ (by omega) (by assumption) (x10 + 1) _ _) ?_
 rintro _ _ R1 ⟨x73, m73, hx73, rfl, hm73, rfl, hR1⟩
 obtain rfl := hR1.symm
 refine bg (fun w hs => ⟨(lh sc3 rfl rfl) w hs, (lh sc3 rfl rfl) w hs, trivial, trivial⟩) ?_
 refine cl rfl ZQ rfl rfl (Zo g ag cg bk hgl _ _ (by omega) (by assumption) (x14 + 1) _ _) ?_
 rintro _ _ R1 ⟨x78, m78, hx78, rfl, hm78, rfl, hR1⟩
 obtain rfl := hR1.symm
 refine bg (fun w hs => ⟨(lh sc3 rfl rfl) w hs, trivial, trivial⟩) ?_
 refine cl rfl ZQ rfl rfl (Zo g ag cg bk hgl _ _ (by omega) (by assumption) (2) _ _) ?_
 rintro _ _ R1 ⟨x80, m80, hx80, rfl, hm80, rfl, hR1⟩
 obtain rfl := hR1.symm
 have hm81 := mul_b (a := x78) (b := x80) (A := x14) (B := 1) (by omega) (by omega) (by omega) (by omega)
 refine bg (fun w hs => ⟨(lh sc3 rfl rfl) w hs, trivial⟩) ?_
 refine tk rfl (PE.mul rfl rfl (by omega)) rfl ?_
 refine cl rfl ZQ rfl rfl (Zo g ag cg bk hgl _ _ (by omega) (by assumption) (x16 + 1) _ _) ?_
 rintro _ _ R1 ⟨x86, m86, hx86, rfl, hm86, rfl, hR1⟩
 obtain rfl := hR1.symm
 refine bgT ?_
 refine cl rfl ZQ rfl rfl (Zo g ag cg bk hgl _ _ (by omega) (by assumption) (2) _ _) ?_
 rintro _ _ R1 ⟨x88, m88, hx88, rfl, hm88, rfl, hR1⟩
 obtain rfl := hR1.symm
 have hm89 := mul_b (a := x86) (b := x88) (A := x16) (B := 1) (by omega) (by omega) (by omega) (by omega)
 refine bgT (tk rfl (PE.mul rfl rfl (by omega)) rfl (tk rfl (PE.build (out := [_, _, _]) Z9W Z4M rfl rfl) rfl (tk rfl (PE.fA Z0O rfl) rfl ?_)))
 refine sto rfl rfl rfl Z5m rfl rfl rfl rfl ?_
 refine bgT (sqt 2 rfl (spL rfl rfl (lhA [_, _, _, _, _, _, _, _, _, _, _] Z0l rfl rfl rfl) rfl ?_))
 refine sto rfl rfl rfl Z8A rfl rfl rfl rfl ?_
 refine Z1 ?_
 have hok : Twn.ok ⟨⟨x73, x78 * x80, x86 * x88⟩, x10, x12, x14, x16, x30, x36, x18 / 5 * x21, l⟩ := ⟨by simp only; omega, by simp only; omega, by simp only; omega, by simp only; omega, by simp only; omega, by simp only; omega, by simp only; omega, fun q hq => by have := hri.q q hq; omega, right_iff.2 ⟨by simp only; omega, by simp only; omega, by simp only; omega⟩, ⟨hri.one (by omega), by simp only; omega⟩⟩
 exact Z6 (vs := [_]) rfl (.cons (RV.cell rfl (lhA [_, _, _, _, _, _, _, _, _, _, _] Z0l rfl rfl rfl)) .nil) rfl ⟨⟨⟨x73, x78 * x80, x86 * x88⟩, x10, x12, x14, x16, x30, x36, x18 / 5 * x21, l⟩, ba, oa, c', _, _, ⟨Z5k hok hri.bad, by simp only; omega, by simp only; omega⟩, rfl, ⟨by omega, by omega⟩, by assumption, rfl, rfl⟩ (fun w h => ((h.del b5).del b4))
end Go.Proofs.Ythhdgeibokecjaa.Bd
namespace Go.Proofs.Ythhdgeibokecjaa
set_option linter.unusedSimpArgs false
set_option linter.unusedVariables false
open Go
theorem Z0l : Z2x Try.prog 27 = some 11 := by kernel_rfl
theorem Z5R : Z2x Try.prog 61 = some 3 := by kernel_rfl
theorem Z5D : Z2x Try.prog 64 = some 3 := by kernel_rfl
theorem Zbi : apT Try.prog 73 = some (3, 1, 8) := by kernel_rfl
theorem Z16 : arN Try.prog 65 = some (4, 1) := by kernel_rfl
theorem Zcz : cal Try.prog 22 = true := by kernel_rfl
theorem Zbt : cal Try.prog 23 = true := by kernel_rfl
theorem Zbl : cal Try.prog 24 = true := by kernel_rfl
theorem ZbL : cal Try.prog 25 = true := by kernel_rfl
theorem ZbN : cal Try.prog 26 = true := by kernel_rfl
theorem Zdf : cal Try.prog 5 = true := by kernel_rfl
theorem ZcI : cal Try.prog 6 = true := by kernel_rfl
theorem ZbA : cal Try.prog 61 = true := by kernel_rfl
theorem ZbR : cal Try.prog 7 = true := by kernel_rfl
theorem ZbM : cal Try.prog 80 = true := by kernel_rfl
theorem Z8A : ZK Try.prog 27 = some 11 := by kernel_rfl
theorem cn3 : ZK Try.prog 3 = some 1 := by kernel_rfl
theorem Zbh : ZK Try.prog 61 = some 3 := by kernel_rfl
theorem Zbj : ZK Try.prog 64 = some 3 := by kernel_rfl
theorem Z9X : ZK Try.prog 65 = some 4 := by kernel_rfl
theorem Z29 : ZK Try.prog 69 = some 2 := by kernel_rfl
theorem Z4i : elN Try.prog 73 = some 1 := by kernel_rfl
theorem Z36 : Z00 Try.prog 27 5 = some 7 := by kernel_rfl
theorem Z2N : Z00 Try.prog 27 6 = some 8 := by kernel_rfl
theorem Z4W : Z00 Try.prog 64 0 = some 0 := by kernel_rfl
theorem Z56 : Z00 Try.prog 64 1 = some 1 := by kernel_rfl
theorem Z0o : Z00 Try.prog 69 0 = some 0 := by kernel_rfl
theorem Z0w : Z00 Try.prog 69 1 = some 1 := by kernel_rfl
theorem Z1b : Z61 Try.prog 73 = true := by kernel_rfl
theorem sc3 : Z0Z Try.prog 3 = true := by kernel_rfl
theorem Z2W : slE Try.prog 73 = some (3, 1) := by kernel_rfl
theorem Z7u : Zy Try.prog 27 = some ([.int .i64 0, .int .i64 0, .int .i64 0, .int .i64 0, .int .i64 0, .int .i64 0, .int .i64 0, .int .i64 0, .int .i64 0, .int .i64 0, .slice none 0 0]) := by kernel_rfl
theorem zl3 : Zy Try.prog 3 = some ([.int .i64 0]) := by kernel_rfl
theorem ZaS : Zy Try.prog 61 = some ([.int .i64 0, .int .i64 0, .slice none 0 0]) := by kernel_rfl
theorem Zap : Zy Try.prog 64 = some ([.int .i64 0, .int .i64 0, .slice none 0 0]) := by kernel_rfl
theorem Z9Z : Zy Try.prog 65 = some ([.int .i64 0, .int .i64 0, .int .i64 0, .int .i64 0]) := by kernel_rfl
theorem Z1G : Zy Try.prog 69 = some ([.int .i64 0, .int .i64 0]) := by kernel_rfl
def srt : List Int → Bool
  | x :: y :: l => decide (x ≤ y) && srt (y :: l)
  | _ => true
abbrev Zv (l : List Int) : List (List Value) := l.map fun z => [.int .i64 z]
def Z85 (l : List Int) (i : Nat) : Bool := match l[i]?, l[i + 1]? with
  | some x, some y => decide (y < x)
  | _, _ => false
theorem Z4S : ∀ (l : List Int), srt l = !((List.range l.length).any (Z85 l))
  | [] => rfl
  | [x] => rfl
  | x :: y :: l => by
    have ih := Z4S (y :: l)
    unfold srt
    rw [ih]
    rw [show (x :: y :: l).length = (y :: l).length + 1 from rfl, List.range_succ_eq_map (n := (y :: l).length), List.any_cons, List.any_map]
    have e : (Z85 (x :: y :: l)) ∘ Nat.succ = Z85 (y :: l) := by funext i; rfl
    rw [e]
    have e2 : Z85 (x :: y :: l) 0 = decide (y < x) := rfl
    rw [e2]
    by_cases h : x ≤ y
    · simp [h, Int.not_lt.2 h]
    · simp [h, Int.not_le.1 h]
theorem Z97 {l : List Int} {k : Nat} {x y : Int} (hx : l[k]? = some x) (hy : l[k + 1]? = some y) (h : y < x) : srt l = false := by
  rw [Z4S, Bool.not_eq_false']
  rw [List.any_eq_true]
  refine ⟨k, List.mem_range.2 (List.getElem?_eq_some_iff.1 hx).1, ?_⟩
  unfold Z85
  rw [hx, hy]; simpa using h
theorem ZaK {l : List Int} (h : ∀ i, i + 1 < l.length → Z85 l i = false) : srt l = true := by
  rw [Z4S, Bool.not_eq_true']
  rw [List.any_eq_false]
  intro i _
  rcases Nat.lt_or_ge (i + 1) l.length with h1 | h1
  · simp [h i h1]
  · unfold Z85
    rw [List.getElem?_eq_none h1]
    cases l[i]? <;> simp
open Bd in
def Z0B (t : Twn) (x : Int) : Twn := { t with bad := min t.good (max 0 x / 50) }
open Bd in
theorem Z4H {t : Twn} (h0 : t.check = 0) (x : Int) : (Z0B t x).ok ∧ (Z0B t x).check = 0 := by
  obtain ⟨ht, hb⟩ := ok_of_check h0
  obtain ⟨h1, h2, h3, h4, h5, h6, h7, h8, h9, h10⟩ := ht
  have key : (Z0B t x).ok := ⟨h1, h2, h3, by simp only [Z0B]; omega, h5, h6, h7, h8, h9, h10⟩
  exact ⟨key, Z5k key hb⟩
open Bd in
theorem Z58 {t : Twn} (h0 : t.check = 0) {x y : Int} (h : x ≤ y) (hx : LSA (Z0B t x) (LY (Z0B t x))) (hy : LSA (Z0B t y) (LY (Z0B t y))) : lat (LY (Z0B t x)) t.now ≤ lat (LY (Z0B t y)) t.now := by
  have a := (Z4H h0 x).1
  have b := (Z4H h0 y).1
  have d : max 0 x / 50 ≤ max 0 y / 50 := Int.ediv_le_ediv (by omega) (by omega)
  exact Z80 a b ⟨rfl, rfl, rfl, rfl, rfl, Int.le_refl _, Int.le_refl _, by simp only [Z0B]; omega⟩ hx hy a.now (Sle.refl _) b.now
theorem Zdr {a b c : Int} (h : a ≤ b) (h' : b ≤ c) : srt [a, b, c] = true := by simp [srt, h, h']
theorem Z9Q (n : Int) (H : Z7) (R : Z4) :
    FnV Try.prog 80 [.int .i64 n] H R (.bool false) := by
 refine Zb Try.func80 rfl Try.ntmps80 rfl ?_
 refine sqt 1 rfl (pur 1 rfl (sqt 4 rfl (pur 4 rfl (Z1 ?_))))
 exact rtA rfl rfl rfl ⟨by simp [Zu], rfl, rfl⟩ drp
theorem Za6 (x y : Int) (H : Z7) (R : Z4) :
    FnV Try.prog 61 [.int .i64 x, .int .i64 y] H R (.bool (decide (x < y))) := by
 refine Zb Try.func61 rfl Try.ntmps61 rfl ?_
 refine sqt 1 rfl (pur 1 rfl (sqt 13 rfl (pur 1 rfl ?_)))
 refine clV rfl ZbM rfl rfl (Z9Q x _ _) ?_
 refine pur 11 rfl (Z1 ?_)
 exact rtA rfl rfl rfl ⟨rfl, rfl, rfl⟩ drp
theorem Z5O (xs : List Int) (a : Option Addr) (c : Nat) (hl : xs.length ≤ 9223372036854775807) (H : Z7) (R : Z4) [hR : MemRows a 1 (Zv xs) R] :
    FnV Try.prog 26 [.slice a xs.length c] H R (.bool (srt xs)) := by
 refine Zb Try.func26 rfl Try.ntmps26 rfl ?_
 refine sqt 1 rfl (pur 1 rfl (Z0 (sqt 4 rfl (pur 1 rfl (sp rfl (PE.lenSl Z1b rfl) rfl (sp rfl (PE.sub rfl rfl (by omega)) rfl (pur 1 rfl (Z3 ?_))))))))
 refine Zj (ι := {k : Nat // k ≤ xs.length ∧ ∀ i, k ≤ i + 1 → i + 1 < xs.length → Z85 xs i = false}) (fun k => ⟨[(0, .slice a xs.length c), (3, .int .i64 ((k.1 : Int) - 1))], H, R⟩) (fun k => k.1) ⟨xs.length, by omega, fun i h1 h2 => by omega⟩ ?_ (fun k => ?_)
 exact Zr idH
 obtain ⟨k, hk, hn⟩ := k
 dsimp only
 refine Z0 (sqt 2 rfl (pur 2 rfl ?_))
 refine Z2 rfl ?_ ?_ <;> intro hc0 <;> try simp only [cS] at hc0
 obtain ⟨k, rfl⟩ : ∃ j, k = j + 2 := ⟨k - 2, by omega⟩
 obtain ⟨y, hy⟩ : ∃ y, xs[k + 1]? = some y := ⟨_, List.getElem?_eq_getElem (by omega)⟩
 obtain ⟨x, hx⟩ : ∃ x, xs[k]? = some x := ⟨_, List.getElem?_eq_getElem (by omega)⟩
 rw [show (((k + 2 : Nat) : Int) - 1) = (k + 1 : Nat) from by omega]
 refine ZE (a := a) (sz := 1) (rows := Zv xs) (by cases xs <;> simp_all) (fun b off he => ?_)
 subst he
 refine Z5 (Z0 (Z3 (Z0 ?_)))
 refine Z8 [0, 0, 3, 7, 0, 0, 32, 112, 240, 511] (tks 0 3 (.ld 3 (tks 4 4 (.ld 8 (.big 9 .done))))) Zk (by kernel_rfl) ?_
 refine Za 2 rfl (tk rfl (PE.indexAddr Z4i rfl rfl (by omega) (by omega)) rfl (ld rfl rfl (lf0 (x := .int .i64 y) sc3 (by simp [Zv]; exact ⟨y, hy, rfl⟩) rfl) rfl (Za 2 rfl (tk rfl (PE.sub rfl rfl (by omega)) rfl (tk rfl (PE.indexAddr Z4i rfl rfl (by omega) (by omega)) rfl (ld rfl rfl (lf0 (x := .int .i64 x) sc3 (by rw [show (((k + 1 : Nat) : Int) - 1).toNat = k from by omega]; simp [Zv]; exact ⟨x, hx, rfl⟩) rfl) rfl ?_))))))
 refine clV rfl ZbA rfl rfl (Za6 y x _ _) ?_
 refine bgT ?_
 refine Z2 rfl ?_ ?_ <;> intro hc1 <;> try simp only [cS] at hc1
 have hbn := Z97 hx hy hc1
 refine sqt 1 rfl (pur 1 rfl (Z1 ?_))
 exact rtA rfl rfl rfl ⟨by simp only [Zu]; rw [hbn], rfl, rfl⟩ drp
 refine Z5 (sqr 3 rfl (pur 1 rfl (sp rfl (PE.sub rfl rfl (by omega)) rfl (pur 1 rfl ?_))))
 refine Zt ⟨k + 1, by omega, fun i h1 h2 => ?_⟩ (by dsimp only; omega) (by dsimp only; rw [show ((k + 1 : Nat) : Int) - 1 = ((k + 1 : Nat) : Int) - 1 from rfl]; exact (by repeat' first | exact Sub.nil | apply Sub.cons | rfl | (simp [lk]; omega))) idH
 rcases Nat.lt_or_ge k i with h3 | h3
 · exact hn i (by omega) h2
 · obtain rfl : i = k := by omega
   unfold Z85
   rw [hx, hy]
   simp only [decide_eq_false_iff_not]
   omega
 have hbn := ZaK (l := xs) (fun i hi => hn i (by omega) hi)
 refine Zg (Zh (Zh (ZJ (sqt 1 rfl (pur 1 rfl (Z1 ?_))))))
 exact rtA rfl rfl rfl ⟨by simp only [Zu]; rw [hbn], rfl, rfl⟩ drp
set_option maxHeartbeats 1000000 in
theorem Z39 (l0 : List Int) (a0 : Option Addr) (c0 : Nat) (hl0 : l0.length ≤ 9223372036854775807) (l1 : List Int) (a1 : Option Addr) (c1 : Nat) (hl1 : l1.length ≤ 9223372036854775807) (H : Z7) (R : Z4) [hG0 : MemRows a0 1 (Bd.urows l0) R] [hG1 : MemRows a1 1 (Gt.urows l1) R] :
    Fn Try.prog 4 [.slice a0 l0.length c0, .slice a1 l1.length c1] H R (fun v H' R' => v = .bool true ∧ H' = H ∧ R' = R) := by
 refine Zb Try.func4 rfl Try.ntmps4 rfl ?_
 refine sqt 1 rfl (pur 1 rfl (sqt 5 rfl (pur 1 rfl ?_)))
 refine cl rfl ZcI rfl rfl (Bd.c_Fill l0 a0 c0 hl0 _ _) ?_
 rintro _ _ R1 ⟨bs, ms, hms, rfl, rfl, hR1⟩
 obtain rfl := hR1.symm
 clear hR1
 refine cl rfl Zdf rfl rfl (Bd.c_Made l0 a0 c0 bs hl0 0 ms (by omega) hms 20 (by omega) _ _) ?_
 rintro _ _ R1 ⟨t, ba, oa, ca, tqb, mxb, hmo, rfl, htqb, hmxb, rfl, hR1⟩
 obtain rfl := hR1.symm
 clear hR1
 refine Sy.heap (fun w h => h.del bs) ?_
 have hck := hmo.ok
 have hok := (Bd.ok_of_check hck).1
 have hmany := hok.many
 refine alc rfl Z7u rfl (fun b5 => ?_)
 refine sto rfl rfl rfl Z8A rfl rfl rfl rfl ?_
 refine sqt 13 rfl (pur 1 rfl ?_)
 refine cl rfl ZcI rfl rfl (Gt.c_Fill l1 a1 c1 hl1 _ _) ?_
 rintro _ _ R1 ⟨bk, mk, hmk, rfl, rfl, hR1⟩
 obtain rfl := hR1.symm
 clear hR1
 refine cl rfl Zbt rfl rfl (Gt.c_Made l1 a1 c1 bk hl1 0 mk (by omega) hmk 1 4 (by omega) (by omega) _ _) ?_
 rintro _ _ R1 ⟨g, c, m, ag, cg, ah, ch, tq1, mx1, hmd, hcg, rfl, _, _, rfl, hR1⟩
 obtain rfl := hR1.symm
 clear hR1
 refine Sy.heap (fun w h => h.del bk) ?_
 have hgm := hmd.gok.many
 have hge := hmd.gok.err
 have hcm := hmd.cok.many
 have hcf := hmd.cok.full
 have hce := hmd.cok.empty
 obtain ⟨b, hwg, hbk, hbl, hbh⟩ := Gt.md_wgt hmd
 obtain ⟨hne, hn1, hn2⟩ := Gt.md_net hmd
 have hnt := hmd.net
 obtain ⟨w, hw⟩ : ∃ w, w = max 0 (c.full - c.empty) := ⟨_, rfl⟩
 have hwb : (Gt.netP g c).1 ≤ w ∧ w ≤ (Gt.netP g c).2 := by omega
 have hb0 := hbk 0 (by omega)
 have hat := Gt.wgh_at hn1.1 hwb hb0.1 ⟨hb0.2.1, hb0.2.2.1⟩
 have hm0 := hmd.mix.at_ 0 (by omega)
 have hmu := Gt.mul_b (show 0 ≤ w by omega) (show w ≤ 2100 by omega) hm0.1 hm0.2
 refine pur 4 rfl (alc rfl ZaS rfl (fun b6 => alc rfl Zap rfl (fun b7 => alc rfl Z9Z rfl (fun b8 => ?_))))
 refine Z1S (l' := Gt.gtl g (g.sl ag cg)) rfl rfl rfl Zbh rfl rfl rfl rfl (nl rfl) ?_
 refine Z1S (l' := Gt.ctl c (c.sl ah ch)) rfl rfl rfl Zbj rfl rfl rfl rfl (nl rfl) ?_
 refine Z2H rfl rfl rfl Z9X rfl (by rw [Gt.ints_length]; exact hmd.mix.len) rfl (Zq _) ?_
 refine sqt 9 rfl (spL rfl rfl (lhA (Gt.gtl g (g.sl ag cg)) Z5R rfl rfl rfl) rfl (spL rfl rfl (lhA (Gt.ctl c (c.sl ah ch)) Z5D rfl rfl rfl) rfl ?_))
 refine cl rfl Zbl rfl rfl (Gt.c_Weight g ag cg (by omega) c ah ch (by omega) ((0 : Nat) : Int) _ _) ?_
 rintro _ _ _ ⟨rfl, rfl, rfl⟩
 rw [hwg 0 (by omega)]
 refine pur 3 rfl (alc rfl Z1G rfl (fun b9 => ?_))
 refine sto rfl rfl rfl Z29 rfl rfl rfl rfl ?_
 refine pur 1 rfl (Z0 (sqt 2 rfl (pur 2 rfl ?_)))
 refine Z2 rfl ?_ ?_ <;> intro hc0
 exact absurd hc0 (by simp)
 refine Z5 (sqt 11 rfl (sp rfl (PE.fA Z4W rfl) rfl (spL rfl rfl (lh sc3 rfl rfl) rfl (sp rfl (PE.fA Z56 rfl) rfl (spL rfl rfl (lh sc3 rfl rfl) rfl (sp rfl (PE.sub rfl rfl (by omega)) rfl (sp rfl (PE.max rfl rfl) rfl ?_)))))))
 rw [← hw]
 refine sp rfl (PE.indexArr Z16 rfl rfl (by omega) (by omega)) rfl (spL rfl rfl (lh sc3 rfl (Gt.mix_at hmd.mix.len (k := 0) (by decide))) rfl (sp rfl (PE.mul rfl rfl (by omega)) rfl ?_))
 refine sp rfl ((PE.quoW rfl rfl (by omega)).to (by rw [Gt.tdiv40 (by omega)])) rfl ?_
 refine pur 1 rfl (sqt 1 rfl ?_)
 obtain ⟨x0, hx0⟩ : ∃ x, x = (Gt.netP g c).1 * Gt.bl b 0 / 40 := ⟨_, rfl⟩
 obtain ⟨x1, hx1⟩ : ∃ x, x = w * Gt.nn m 0 / 40 := ⟨_, rfl⟩
 obtain ⟨x2, hx2⟩ : ∃ x, x = (Gt.netP g c).2 * Gt.bh b 0 / 40 := ⟨_, rfl⟩
 rw [← hx0, ← hx1, ← hx2]
 rw [← hx0, ← hx1, ← hx2] at hat
 have hmv := Gt.mul_b (a := (Gt.netP g c).2) (b := Gt.bh b 0) (show 0 ≤ (Gt.netP g c).2 by omega) hn2.2 (show 0 ≤ Gt.bh b 0 by omega) hb0.2.2.2
 have hx2b : x2 ≤ 2100 := by omega
 refine pur 1 rfl (Z0 (sqt 8 rfl (sp rfl (PE.fA Z0o rfl) rfl (spL rfl rfl (lh sc3 rfl rfl) rfl (pur 1 rfl (sp rfl (PE.fA Z0w rfl) rfl (spL rfl rfl (lh sc3 rfl rfl) rfl ?_)))))))
 refine bsl (out := [_, _, _]) rfl Z2W zl3 rfl rfl rfl rfl rfl rfl (fun b51 => ?_)
 refine sp rfl (PE.lenSl Z1b rfl) rfl (pur 1 rfl (Z3 ?_))
 obtain ⟨f, hf⟩ : ∃ f : Int → Int, f = fun x => Bd.lat (Bd.LY (Z0B t x)) t.now := ⟨_, rfl⟩
 refine Zj (ι := (k : {k : Nat // k ≤ 3 ∧ ∀ x, x ∈ [x0, x1, x2].take k → Bd.LSA (Z0B t x) (Bd.LY (Z0B t x))}) × OSl 3 1 (Zv (([x0, x1, x2].take k.1).map f))) (fun x => ⟨[(5, .pointer (some ⟨b5, 0, none⟩)), (9, .pointer (some ⟨b9, 0, none⟩)), (11, .int .i64 x1), (12, x.2.fs), (51, .slice (some ⟨b51, 0, none⟩) 3 3), (52, .int .i64 3), (53, .int .i64 x.1.1)], (b51, cel 3 [.int .i64 x0, .int .i64 x1, .int .i64 x2]) :: (b9, cel 69 [.int .i64 x0, .int .i64 x2]) :: (b8, cel 65 (Zc m)) :: (b7, cel 64 (Gt.ctl c (c.sl ah ch))) :: (b6, cel 61 (Gt.gtl g (g.sl ag cg))) :: (b5, cel 27 (Bd.twl t (t.sl (some ⟨ba, oa, none⟩) ca))) :: (x.2.G ++ H), RowsA ah 5 (Gt.hrows c.hs) :: RowsA ag 5 (Gt.grows g.grs) :: RowsA (some ⟨ba, oa, none⟩) 2 (Bd.rrows t.rats) :: R⟩) (fun x => 3 - x.1.1) ⟨⟨0, by omega, by simp⟩, OSl.nil _ _⟩ ?_ (fun x => ?_)
 exact Zr idH
 obtain ⟨⟨k, hk, hls⟩, o'⟩ := x
 dsimp only at hk hls o' ⊢
 refine sqt 1 rfl (pur 1 rfl (Z0 ?_))
 refine Z2 rfl ?_ ?_ <;> intro hc1 <;> try simp only [cS] at hc1
 have hk3 : k < 3 := by omega
 obtain ⟨x, hx⟩ : ∃ x, [x0, x1, x2][k]? = some x := ⟨_, List.getElem?_eq_getElem (by simpa using hk3)⟩
 have htk : [x0, x1, x2].take (k + 1) = [x0, x1, x2].take k ++ [x] := by rw [List.take_add_one, hx]; rfl
 obtain ⟨hxo, hxc⟩ := Z4H hck x
 have hxb : x ≤ 2100 := by
   have := List.mem_of_getElem? hx
   simp only [List.mem_cons, List.not_mem_nil, or_false] at this
   rcases this with h | h | h <;> omega
 refine Z5 (Z0 (Z3 (sqt 3 rfl (sp rfl (PE.indexAddr Z4i rfl rfl (by omega) (by omega)) rfl ?_))))
 refine spL rfl rfl (lh sc3 rfl (show (Zc [x0, x1, x2])[0 + ((k : Nat) : Int).toNat * 1]? = _ by rw [Nat.zero_add, Nat.mul_one, Int.toNat_natCast]; exact Gt.ints_get hx)) rfl ?_
 refine pur 1 rfl (sqt 4 rfl (spL rfl rfl (lhA (Bd.twl t (t.sl (some ⟨ba, oa, none⟩) ca)) Z0l rfl rfl rfl) rfl ?_))
 refine cl rfl ZbL rfl rfl (Bd.c_Own t _ ca (by omega) _ _) ?_
 rintro _ _ R1 ⟨bo, co, rfl, rfl, hR1⟩
 obtain rfl := hR1.symm
 clear hR1
 refine alc rfl Z7u rfl (fun b15 => ?_)
 refine sto rfl rfl rfl Z8A rfl rfl rfl rfl ?_
 refine sqt 8 rfl (sp rfl (PE.fA Z36 rfl) rfl (spL rfl rfl (lh sc3 rfl rfl) rfl (pur 1 rfl (sp rfl (PE.max rfl rfl) rfl (sp rfl (PE.quo rfl rfl (by omega)) rfl (sp rfl (PE.min rfl rfl) rfl (sp rfl (PE.fA Z2N rfl) rfl ?_)))))))
 refine sto rfl rfl rfl cn3 rfl rfl rfl rfl ?_
 refine sqt 7 rfl (spL rfl rfl (lhA (Bd.twl (Z0B t x) ((Z0B t x).sl (some ⟨bo, 0, none⟩) co)) Z0l rfl rfl rfl) rfl ?_)
 refine cl rfl ZbR rfl rfl (Bd.c_Lasts (Z0B t x) (by show t.rats.length ≤ _; omega) bo 0 co _ _ (hR := (inferInstance : MemRows _ 2 (Bd.rrows t.rats) _))) ?_
 rintro _ _ _ ⟨h, rfl, rfl⟩
 obtain ⟨_, σ, hσ, rfl⟩ := h.resolve_left (fun h => h.1 hxc)
 have hl2 := (Bd.solv_lsa hxo hσ).ly hxo
 rw [(Bd.solv_lsa hxo hσ).same hxo _ hxo.now, show Bd.lat (Bd.LY (Z0B t x)) (Z0B t x).now = f x from by rw [hf]; rfl]
 refine pur 5 rfl (Z0 (sqt 2 rfl (pur 2 rfl ?_)))
 refine Z2 rfl ?_ ?_ <;> intro hc2
 exact absurd hc2 (by simp)
 refine Z5 (sqr 5 rfl (pur 2 rfl ?_))
 refine bsl (out := [_]) rfl Z2W zl3 rfl rfl rfl rfl rfl rfl (fun b75 => ?_)
 refine apO (o') rfl Zbi rfl rfl (Z4L (row := [.int .i64 (f x)]) rfl) rfl rfl ((by simp only [Zv, List.length_map, List.length_take, List.length_singleton]; simp; omega)) rfl (fun o76 => ?_)
 refine pur 1 rfl (sqr 2 rfl (sp rfl (PE.add rfl rfl (by omega)) rfl (pur 1 rfl ?_)))
 exact Zt ⟨⟨k + 1, by omega, fun y hy => by
   rw [htk] at hy
   rcases List.mem_append.1 hy with h | h
   · exact hls y h
   · rw [List.mem_singleton.1 h]; exact hl2⟩, o76.cast (by rw [htk]; simp [Zv])⟩ (by dsimp only; omega) (by repeat' first | exact Sub.nil | apply Sub.cons | rfl | (simp [lk]; omega)) (fun w h => ((h.del b75).del b15).ftail)
 obtain rfl : k = 3 := by omega
 obtain ⟨aw, cw, he, hf9⟩ := o'.freeze
 rw [he]
 refine Sy.heap (fun w h => hf9 (h.pullG o'.G)) ?_
 clear he hf9
 rw [show (Zv (([x0, x1, x2].take 3).map f)).length = (([x0, x1, x2].take 3).map f).length from List.length_map _]
 have e1 := Z58 hck hat.1 (hls _ (by simp)) (hls _ (by simp))
 have e2 := Z58 hck hat.2 (hls _ (by simp)) (hls _ (by simp))
 have hso : srt (([x0, x1, x2].take 3).map f) = true := by
   rw [hf]; exact Zdr e1 e2
 refine Zg (Zh (Zh (ZJ (sqt 18 rfl (sp rfl (PE.fA Z0o rfl) rfl (spL rfl rfl (lh sc3 rfl rfl) rfl (pur 3 rfl ?_)))))))
 refine ZR 82 rfl ?_ ?_ <;> intro g82
 refine pur 1 rfl ?_
 refine spG rfl rfl rfl rfl (PE.fA Z0w rfl) rfl ?_
 refine Z3F rfl rfl rfl rfl rfl (lh sc3 rfl rfl) rfl (pur 3 rfl ?_)
 refine ZR 88 rfl ?_ ?_ <;> intro g88
 refine pur 1 rfl ?_
 refine clG rfl rfl rfl rfl ZbN rfl rfl (Z5O (([x0, x1, x2].take 3).map f) aw cw (by simp) _ _) ?_
 rintro _ _ _ ⟨rfl, rfl, rfl⟩
 rw [hso]
 refine pur 2 rfl ?_
 refine ZR 92 rfl ?_ ?_ <;> intro g92
 refine Z1M rfl rfl rfl rfl Zcz rfl rfl (Bd.c_awake _ _) ?_
 refine pur 2 rfl (Z1 ?_)
 exact rtA rfl rfl rfl ⟨rfl, rfl, rfl⟩ (fun w h => St.sub ((((((h.del b51).del b9).del b8).del b7).del b6).del b5))
 exact absurd g92 (by simp)
 exact absurd g88 (by rw [dT hat.2]; simp)
 exact absurd g82 (by rw [dT hat.1]; simp)
end Go.Proofs.Ythhdgeibokecjaa
