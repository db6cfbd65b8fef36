/- Walks of the functions of the program, and the laws that join them: what the last theorem of this claim needs, in order. -/
import Derived.Test.YthhdgeibokecjaaGreatbz2
namespace Go.Proofs.YthhdgeibokecjaaGreat.Bd
set_option linter.unusedSimpArgs false
set_option linter.unusedVariables false
def Z02 (t : Twn) (g : Sta → Int) (s : Sta) (q : Rn) : Int := bif decide (s.dry < t.run) then min (g (t.next s q false)) (g (t.next s q true)) else g (t.next s q false)
def efQ (t : Twn) (g : Sta → Int) (s : Sta) (best : Int) (q : Rn) : Int :=
  bif t.can s q then (bif decide (Z02 t g s q = -1) then best else max best (Z02 t g s q + q.sacks * q.price)) else best
def ef (t : Twn) : Nat → Sta → Int
  | 0, _ => 0
  | n + 1, s => t.rats.foldl (efQ t (ef t n) s) (-1)
theorem Z9V {a b : Int} (h1 : 0 ≤ a) (h2 : a ≤ 30) (h3 : 0 ≤ b) (h4 : b ≤ 100) : 0 ≤ a * b ∧ a * b ≤ 3000 := by
  have h5 := Int.mul_nonneg h1 h3
  have h6 := Int.mul_le_mul h2 h4 h3 (by omega)
  omega
theorem Z3W {t : Twn} {g : Sta → Int} {B : Int} (hg : ∀ s, -1 ≤ g s ∧ g s ≤ B) (s : Sta) (q : Rn) : -1 ≤ Z02 t g s q ∧ Z02 t g s q ≤ B := by
  unfold Z02
  have h1 := hg (t.next s q false)
  have h2 := hg (t.next s q true)
  cases decide (s.dry < t.run) <;> simp only [cond_true, cond_false] <;> omega
theorem Z7P {t : Twn} {g : Sta → Int} {B : Int} (hB : 0 ≤ B) (hg : ∀ s, -1 ≤ g s ∧ g s ≤ B) (s : Sta) : ∀ (l : List Rn), (∀ q ∈ l, 0 ≤ q.sacks ∧ q.sacks ≤ 30 ∧ 0 ≤ q.price ∧ q.price ≤ 100) → ∀ b, -1 ≤ b → b ≤ B + 3000 →
    -1 ≤ l.foldl (efQ t g s) b ∧ l.foldl (efQ t g s) b ≤ B + 3000
  | [], _, b, h1, h2 => ⟨h1, h2⟩
  | q :: l, hl, b, h1, h2 => by
    have hq := hl q (by simp)
    have h3 := Z3W (t := t) hg s q
    have h4 := Z9V hq.1 hq.2.1 hq.2.2.1 hq.2.2.2
    rw [List.foldl_cons]
    refine Z7P hB hg s l (fun q hq => hl q (by simp [hq])) _ ?_ ?_ <;>
    · unfold efQ
      cases t.can s q <;> cases decide (Z02 t g s q = -1) <;> simp only [cond_true, cond_false] <;> omega
theorem Za6 {t : Twn} (ht : t.ok) : ∀ (n : Nat) (s : Sta), -1 ≤ ef t n s ∧ ef t n s ≤ n * 3000
  | 0, _ => by simp [ef]
  | n + 1, s => by
    have h := Z7P (t := t) (g := ef t n) (B := n * 3000) (by omega) (Za6 ht n) s t.rats ht.rats (-1) (by omega) (by omega)
    unfold ef
    push_cast
    omega
structure Rw where
  st : Sta
  lasts : Int
  ration : Int
  deriving DecidableEq
def Twn.rat (t : Twn) (r : Int) : Option Rn := bif decide (0 ≤ r) then t.rats[r.toNat]? else none
def feedScan (t : Twn) : List Rw → Bool → List Int → Except Int (Bool × List Int)
  | [], tw, y => .ok (tw, y)
  | x :: l, tw, y => bif !(x.st.right t) || !(inb x.lasts 0 1000000) then .error 3 else match t.rat x.ration with
    | none => .error 1
    | some q => bif !(t.can x.st q) then .error 9 else feedScan t l (tw || decide (lat y x.st ≠ -1)) (y.set x.st.ix x.lasts)
def Z0j (t : Twn) (y : List Int) (x : Rw) : Bool := match t.rat x.ration with
  | some q => t.keeps y x.st q x.lasts
  | none => false
def Z6w (t : Twn) : List Int := (sts t).foldl (fun y s => y.set s.ix (-1)) (List.replicate 496 0)
def Z2d (t : Twn) (tb : List Rw) (tw : Bool) (y : List Int) : Int × Int :=
  bif tw then (0, 5) else bif !(tb.all (Z0j t y)) then (0, 8) else bif decide (lat y t.now = -1) then (0, 6) else (lat y t.now, 0)
def ZJ (t : Twn) (tb : List Rw) : Int × Int :=
  bif decide (t.check ≠ 0) then (0, t.check) else bif decide (496 < tb.length) then (0, 2) else match feedScan t tb false (Z6w t) with
  | .error e => (0, e)
  | .ok p => Z2d t tb p.1 p.2
theorem Z42 (v : Int) : ∀ (l : List Sta) (y : List Int), (l.foldl (fun y s => y.set s.ix v) y).length = y.length
  | [], _ => rfl
  | s :: l, y => by rw [List.foldl_cons, Z42 v l]; simp
theorem Z82 {t : Twn} {r : Int} {q : Rn} (h0 : 0 ≤ r) (h : t.rats[r.toNat]? = some q) : t.rat r = some q := by simp [Twn.rat, h0, h]
theorem rat_iff {t : Twn} {r : Int} {q : Rn} : t.rat r = some q ↔ 0 ≤ r ∧ t.rats[r.toNat]? = some q := by
  unfold Twn.rat
  by_cases h : 0 ≤ r <;> simp [h]
theorem Z7C {t : Twn} {r : Int} (h : (decide (0 ≤ r) && decide (r ≤ (t.rats.length : Int) - 1)) = false) : t.rat r = none := by
  unfold Twn.rat
  by_cases h0 : 0 ≤ r
  · simp only [h0, decide_true, Bool.true_and, decide_eq_false_iff_not] at h ⊢
    exact List.getElem?_eq_none (by omega)
  · simp [h0]
theorem ZbL {t : Twn} {r : Int} (h : (decide (0 ≤ r) && decide (r ≤ (t.rats.length : Int) - 1)) = true) : 0 ≤ r ∧ ∃ q, t.rats[r.toNat]? = some q := by
  simp only [Bool.and_eq_true, decide_eq_true_eq] at h
  exact ⟨h.1, _, List.getElem?_eq_getElem (by omega)⟩
theorem Z40 {α : Type} {l : List α} {k : Nat} {x : α} (h : l[k]? = some x) : l.drop k = x :: l.drop (k + 1) := by
  obtain ⟨h1, h2⟩ := List.getElem?_eq_some_iff.1 h
  rw [List.drop_eq_getElem_cons h1, h2]
theorem Z0g {t : Twn} {tb : List Rw} {e : Int} (h0 : t.check = 0) (h1 : tb.length ≤ 496) (h : feedScan t tb false (Z6w t) = .error e) : ZJ t tb = (0, e) := by
  unfold ZJ
  have h2 : ¬ 496 < tb.length := by omega
  simp [h0, h2, h]
theorem Z2v {t : Twn} {tb : List Rw} {tw : Bool} {y : List Int} (h0 : t.check = 0) (h1 : tb.length ≤ 496) (h : feedScan t tb false (Z6w t) = .ok (tw, y)) : ZJ t tb = Z2d t tb tw y := by
  unfold ZJ
  have h2 : ¬ 496 < tb.length := by omega
  simp [h0, h2, h]
theorem Z2F {t : Twn} : ∀ (l : List Rw) (tw : Bool) (y : List Int) (p : Bool × List Int), feedScan t l tw y = .ok p → ∀ x ∈ l, x.st.right t = true ∧ (0 ≤ x.lasts ∧ x.lasts ≤ 1000000) ∧ ∃ q, t.rat x.ration = some q ∧ t.can x.st q = true
  | [], _, _, _, _, _, hx => by cases hx
  | x :: l, tw, y, p, h, z, hz => by
    unfold feedScan at h
    cases h1 : x.st.right t <;> rw [h1] at h
    · cases h
    cases h2 : inb x.lasts 0 1000000 <;> rw [h2] at h
    · cases h
    cases h3 : t.rat x.ration <;> rw [h3] at h
    · cases h
    rename_i q
    cases h4 : t.can x.st q with
    | false => rw [show (bif !true || !true then Except.error 3 else match some q with | none => Except.error 1 | some q => bif !(t.can x.st q) then Except.error 9 else feedScan t l (tw || decide (lat y x.st ≠ -1)) (y.set x.st.ix x.lasts) : Except Int (Bool × List Int)) = bif !(t.can x.st q) then Except.error 9 else feedScan t l (tw || decide (lat y x.st ≠ -1)) (y.set x.st.ix x.lasts) from rfl, h4] at h; cases h
    | true =>
      rw [show (bif !true || !true then Except.error 3 else match some q with | none => Except.error 1 | some q => bif !(t.can x.st q) then Except.error 9 else feedScan t l (tw || decide (lat y x.st ≠ -1)) (y.set x.st.ix x.lasts) : Except Int (Bool × List Int)) = bif !(t.can x.st q) then Except.error 9 else feedScan t l (tw || decide (lat y x.st ≠ -1)) (y.set x.st.ix x.lasts) from rfl, h4] at h
      rcases List.mem_cons.1 hz with rfl | hz
      · simp only [inb, Bool.and_eq_true, decide_eq_true_eq] at h2
        exact ⟨h1, h2, q, h3, h4⟩
      · exact Z2F l _ _ p h z hz
def Z0M (t : Twn) (y : List Int) (s : Sta) : Option Rw := bif decide (lat y s = -1) then none else (t.rats.findIdx? fun q => t.keeps y s q (lat y s)).map fun (r : Nat) => ⟨s, lat y s, r⟩
def tab (t : Twn) (y : List Int) : List Rw := (sts t).filterMap (Z0M t y)
theorem Z8s {t : Twn} {y : List Int} {s : Sta} {k : Nat} {q : Rn} (h0 : lat y s ≠ -1) (hq : t.rats[k]? = some q) (hn : ∀ i q', i < k → t.rats[i]? = some q' → t.keeps y s q' (lat y s) = false) (h : t.keeps y s q (lat y s) = true) : Z0M t y s = some ⟨s, lat y s, k⟩ := by
  unfold Z0M
  have hk : k < t.rats.length := (List.getElem?_eq_some_iff.1 hq).1
  have : t.rats.findIdx? (fun q => t.keeps y s q (lat y s)) = some k := by
    rw [List.findIdx?_eq_some_iff_getElem]
    refine ⟨hk, ?_, fun j hj => ?_⟩
    · rw [List.getElem?_eq_getElem hk] at hq; cases hq; exact h
    · simp [hn j _ hj (List.getElem?_eq_getElem (by omega))]
  rw [this]; simp [h0]
theorem Z6R {t : Twn} {y : List Int} {s : Sta} (hn : ∀ i q', i < t.rats.length → t.rats[i]? = some q' → lat y s = -1 ∨ t.keeps y s q' (lat y s) = false) : Z0M t y s = none := by
  unfold Z0M
  cases hc : decide (lat y s = -1) with
  | true => rfl
  | false =>
    have : t.rats.findIdx? (fun q => t.keeps y s q (lat y s)) = none := by
      rw [List.findIdx?_eq_none_iff]
      intro q hq
      obtain ⟨i, hi⟩ := List.getElem?_of_mem hq
      rcases hn i q (List.getElem?_eq_some_iff.1 hi).1 hi with h | h
      · simp [h] at hc
      · exact h
    rw [this]; rfl
open Go
theorem Z51 : apT Tryz.prog 29 = some (38, 5, 40) := by kernel_rfl
theorem ZfO : Z1c Tryz.prog 29 = some 1 := by kernel_rfl
theorem Zeg : Z1c Tryz.prog 30 = some 1 := by kernel_rfl
theorem ZaC : Z1c Tryz.prog 50 = some 1 := by kernel_rfl
theorem Z8o : Tryz.prog.eqGuardType Tryz.prog.depth 24 = false := by kernel_rfl
theorem ZfA : Z1q Tryz.prog 38 = some [(0, 3), (3, 1), (4, 1)] := by kernel_rfl
theorem Zfw : Z47 Tryz.prog 29 = true := by kernel_rfl
theorem ZcQ : Z47 Tryz.prog 30 = true := by kernel_rfl
theorem ZeS : slE Tryz.prog 29 = some (38, 5) := by kernel_rfl
theorem ZfD : Z0n Tryz.prog 29 = some ([.slice none 0 0]) := by kernel_rfl
theorem ZfI : Z0n Tryz.prog 30 = some ([.int .i64 0]) := by kernel_rfl
theorem Z48 : Z0n Tryz.prog 38 = some ([.int .i64 0, .int .i64 0, .int .i64 0, .int .i64 0, .int .i64 0]) := by kernel_rfl
theorem ZaT : Z0n Tryz.prog 50 = some ([.pointer none]) := by kernel_rfl
def Z5S (x : Rw) : List Value := [.int .i64 x.st.stock, .int .i64 x.st.short, .int .i64 x.st.dry, .int .i64 x.lasts, .int .i64 x.ration]
def Zt (l : List Rw) : List (List Value) := l.map Z5S
theorem Z6Y (t : Twn) (hl : t.rats.length ≤ 9223372036854775807) (ba oa ca : Nat) (H : Zj) (R : Z9) [hR : MemRows (some ⟨ba, oa, none⟩) 2 (Zf t.rats) R] :
    Fn Tryz.prog 5 [t.v (t.sl (some ⟨ba, oa, none⟩) ca)] H R (fun v H' R' => ((t.check ≠ 0 ∧ v = .tuple #[.slice none 0 0, .int .i64 t.check] ∧ H' = H) ∨
      (t.check = 0 ∧ ∃ σ, Z3w t σ ∧ ((lat σ.y t.now = -1 ∧ v = .tuple #[.slice none 0 0, .int .i64 6] ∧ H' = H) ∨ (lat σ.y t.now ≠ -1 ∧ ∃ o : OSl 38 5 (Zt (tab t σ.y)), v = .tuple #[o.fs, .int .i64 0] ∧ H' = o.G ++ H)))) ∧ R' = R) := by
 refine Z6I Tryz.func5 rfl Tryz.ntmps5 rfl ?_
 refine sqt 3 rfl (bx rfl rfl rfl (fun b1 => pur 2 rfl (sqt 8 rfl (spL rfl rfl (lhA [_, _, _, _, _, _, _, _, _, _, _] Zd rfl rfl rfl) rfl ?_))))
 refine cl rfl Z6A rfl rfl (Z2w t hl ba oa ca _ _) ?_
 rintro _ _ _ (⟨hck, rfl, rfl, rfl⟩ | ⟨hck, bw, m, bt, σ, o, hσ, rfl, rfl, rfl⟩)
 refine pur 3 rfl (alc rfl ZaT rfl (fun b4 => ?_))
 refine sto rfl rfl rfl ZaC rfl rfl rfl rfl ?_
 refine pur 1 rfl (Z0 (sqt 2 rfl (pur 2 rfl ?_)))
 refine Zm (congrArg (fun b => some (Value.bool b)) (dT hck)) ?_
 refine sqt 3 rfl (pur 3 rfl (Z4 ?_))
 exact Zr [] idH rfl (.cons (RV.tmp rfl) (.cons (RV.tmp rfl) .nil)) rfl ⟨.inl ⟨hck, rfl, rfl⟩, rfl⟩ drp
 ·
  have hok := (Zi hck).1
  have hsl := Z2l hok hσ
  refine pur 3 rfl (alc rfl ZaT rfl (fun b4 => ?_))
  refine sto rfl rfl rfl ZaC rfl rfl rfl rfl ?_
  refine pur 1 rfl (Z0 (sqt 2 rfl (pur 2 rfl ?_)))
  refine Zz (rfl) ?_
  refine Z3 (Z0 (Z0 ?_))
  refine Ze [0, 1, 3, 0, 8, 31, 63] (.ld 0 (tks 1 3 (.ld 4 (.big 5 (.tk 6 .done))))) Zy (by kernel_rfl) ?_
  refine ld rfl rfl (lh Z3j rfl rfl) rfl (tk rfl (PE.nilCheck rfl) rfl (tk rfl (PE.fA Z0G rfl) rfl (tk rfl (PE.fA Z0a rfl) rfl (ld rfl rfl (lhA [_, _, _] ZF rfl rfl rfl) rfl ?_))))
  refine clV rfl Z3t rfl rfl (Z8C t hok t.now hok.now ba oa ca bt bw m σ.y o.fs hsl _ _) ?_
  refine bgT (ZD 1 rfl ?_)
  refine Z5 rfl ?_ ?_ <;> intro hc1
  simp only [decide_eq_true_eq] at hc1
  refine sqt 2 rfl (pur 2 rfl (Z4 ?_))
  first
    | exact Zr [] idH rfl (.cons (RV.tmp rfl) (.cons (RV.tmp rfl) .nil)) rfl ⟨.inr ⟨hck, σ, hσ, .inl ⟨hc1, rfl, rfl⟩⟩, rfl⟩ drp
    | exact Zr [bd0] idH rfl (.cons (RV.tmp rfl) (.cons (RV.tmp rfl) .nil)) rfl ⟨.inr ⟨hck, σ, hσ, .inr ⟨hc1, o', rfl, rfl⟩⟩, rfl⟩ (fun w h => ((((h.tail.tail.del b1).del bw).del m).ftail.ftail).dropMid)
  ·
   simp only [decide_eq_false_iff_not] at hc1
   refine Z3 (sqt 1 rfl (alc rfl ZfD rfl (fun b6 => Z0 (sqt 2 rfl (spL rfl rfl (lhA [_, _, _, _, _, _, _, _, _, _, _] Zd rfl rfl rfl) rfl ?_)))))
   refine cl rfl Z8M rfl rfl (Z3h t (t.sl (some ⟨ba, oa, none⟩) ca) _ _) ?_
   rintro _ _ _ ⟨b26, rfl, rfl, rfl⟩
   refine Z0X b1 ?_
   refine Z0X b4 ?_
   refine Z0X b6 ?_
   refine Z7 ?_
   refine Z2W rfl Z9g (fun c0 bl0 bd0 hcp0 hca0 hcb0 hck0 => ?_)
   refine ⟨fun st pend T R' => st = .ready ∧ pend = none ∧ ∃ o' : OSl 38 5 (Zt (tab t σ.y)), T = (bd0, .deferred (some [])) :: (b6, cel 29 [o'.fs]) :: (b4, cel 50 [.pointer (some ⟨bw, 0, none⟩)]) :: (o'.G ++ (b1, cel 27 (twl t (t.sl (some ⟨ba, oa, none⟩) ca))) :: (o.G ++ (bw, cel 62 (rcs t (t.sl (some ⟨ba, oa, none⟩) ca) bt (σ.y) o.fs m)) :: (m, Z1j true (Z3q σ.fl)) :: H)) ∧ R' = RowsA (some ⟨b26, 0, none⟩) 11 [twl t (t.sl (some ⟨ba, oa, none⟩) ca)] :: RowsA (some ⟨bt, 0, none⟩) 11 [twl t (t.sl (some ⟨ba, oa, none⟩) ca)] :: R,
     Fn.mono (Z2k t hok (t.sl (some ⟨ba, oa, none⟩) ca) b26 bl0 (fun k H' R' => ∃ o' : OSl 38 5 (Zt (((sts t).take k).filterMap (Z0M t σ.y))), H' = (bl0, lob c0 .ready none) :: (bd0, .deferred (some [])) :: (b6, cel 29 [o'.fs]) :: (b4, cel 50 [.pointer (some ⟨bw, 0, none⟩)]) :: (o'.G ++ (b1, cel 27 (twl t (t.sl (some ⟨ba, oa, none⟩) ca))) :: (o.G ++ (bw, cel 62 (rcs t (t.sl (some ⟨ba, oa, none⟩) ca) bt (σ.y) o.fs m)) :: (m, Z1j true (Z3q σ.fl)) :: H)) ∧ R' = RowsA (some ⟨b26, 0, none⟩) 11 [twl t (t.sl (some ⟨ba, oa, none⟩) ca)] :: RowsA (some ⟨bt, 0, none⟩) 11 [twl t (t.sl (some ⟨ba, oa, none⟩) ca)] :: R) (fun _ _ => False)
       (fun k H' R' h => by obtain ⟨_, _, h⟩ := h; rw [h]; simp) (fun k s H' R' hk hI => ?_) _ _ ⟨OSl.nil _ _, rfl, rfl⟩) (fun v H' R' h => ?_), ?_⟩
   rotate_left
   · rw [List.take_of_length_le (show (sts t).length ≤ t.nst by rw [Z0s]; exact Nat.le_refl _)] at h
     rcases h with ⟨o', rfl, rfl⟩ | h
     · exact ⟨.ready, none, _, by simp, .refl _, rfl, rfl, o', rfl, rfl⟩
     · exact h.elim
   rotate_left
   have hs := Zv hok (List.mem_of_getElem? hk)
   have hrg := Z55 hok hσ hs
   have e : (((sts t).take (k + 1)).filterMap (Z0M t σ.y)) = (((sts t).take k).filterMap (Z0M t σ.y)) ++ (Z0M t σ.y s).toList := by rw [List.take_add_one, hk, List.filterMap_append]; cases h : Z0M t σ.y s <;> simp [h]
   rw [e]
   have hkl : k < (sts t).length := (List.getElem?_eq_some_iff.1 hk).1
   rw [Z0s] at hkl
   have hkn := Z3g hok
   have htl : (((sts t).take k).filterMap (Z0M t σ.y)).length ≤ k := Nat.le_trans (List.length_filterMap_le _ _) (by simp; omega)
   clear e
   generalize (((sts t).take k).filterMap (Z0M t σ.y)) = τ at *
   obtain ⟨o', rfl, rfl⟩ := hI
   refine Zaa hcp0 hca0 hcb0 hck0 rfl ?_
   refine sqr 2 rfl (alc rfl Z2M rfl (fun b7 => ?_))
   refine sto rfl rfl rfl Z2O rfl rfl rfl rfl ?_
   refine Z0W ?_
   refine Z7 (Z0 ?_)
   refine Ze [0, 1, 3, 0, 15, 31] (.ld 0 (.tk 1 (.tk 2 (.ld 3 (.big 4 (.tk 5 .done)))))) Zy (by kernel_rfl) ?_
   refine ld rfl rfl (lh Z3j rfl rfl) rfl (tk rfl (PE.nilCheck rfl) rfl (tk rfl (PE.fA Z0G rfl) rfl (ld rfl rfl (lhA [_, _, _] ZF rfl rfl rfl) rfl ?_)))
   refine clV rfl Z3t rfl rfl (Z8C t hok s hs ba oa ca bt bw m σ.y o.fs hsl _ _) ?_
   refine bgT (ZD 1 rfl (sqt 4 rfl (sp rfl (PE.fA ZY rfl) rfl (spL rfl rfl (lh Z23 rfl rfl) rfl (sp rfl (PE.lenSl Z2f rfl) rfl (pur 1 rfl (Z7 ?_)))))))
   have hlen := hok.many
   refine Zn (ι := {k : Nat // k ≤ t.rats.length ∧ ∀ i q, i < k → t.rats[i]? = some q → lat σ.y s = -1 ∨ t.keeps σ.y s q (lat σ.y s) = false}) (fun k2 => ⟨[(4, .pointer (some ⟨b4, 0, none⟩)), (6, .pointer (some ⟨b6, 0, none⟩)), (7, .pointer (some ⟨b7, 0, none⟩)), (8, .int .i64 (lat σ.y s)), (35, .int .i64 t.rats.length), (36, .int .i64 k2.1)], (b7, cel 24 [.int .i64 s.stock, .int .i64 s.short, .int .i64 s.dry]) :: (bl0, lob c0 .busy none) :: (bd0, .deferred (some [])) :: (b6, cel 29 [o'.fs]) :: (b4, cel 50 [.pointer (some ⟨bw, 0, none⟩)]) :: (o'.G ++ (b1, cel 27 (twl t (t.sl (some ⟨ba, oa, none⟩) ca))) :: (o.G ++ (bw, cel 62 (rcs t (t.sl (some ⟨ba, oa, none⟩) ca) bt (σ.y) o.fs m)) :: (m, Z1j true (Z3q σ.fl)) :: H)), RowsA (some ⟨b26, 0, none⟩) 11 [twl t (t.sl (some ⟨ba, oa, none⟩) ca)] :: RowsA (some ⟨bt, 0, none⟩) 11 [twl t (t.sl (some ⟨ba, oa, none⟩) ca)] :: R⟩) (fun k2 => t.rats.length - k2.1) ⟨0, by omega, by omega⟩ ?_ (fun k2 => ?_)
   exact Z06 idH
   obtain ⟨k2, hk1, hk2⟩ := k2
   dsimp only
   refine sqt 1 rfl (pur 1 rfl (Z0 ?_))
   refine Z5 rfl ?_ ?_ <;> intro hc2
   simp only [cS] at hc2
   obtain ⟨q, hq⟩ : ∃ q, t.rats[k2]? = some q := ⟨_, List.getElem?_eq_getElem (by omega)⟩
   refine Z3 (Z0 (Z7 (sqt 2 rfl (pur 2 rfl (sqt 9 rfl (pur 3 rfl ?_))))))
   refine ZE 41 rfl ?_ ?_ <;> intro g41
   simp only [decide_eq_true_eq] at g41
   refine Z03 rfl rfl rfl rfl rfl (lh Z3j rfl rfl) rfl (Z03 rfl rfl rfl rfl rfl (lhA [_, _, _] ZF rfl rfl rfl) rfl (pur 2 rfl ?_))
   refine Z0k rfl rfl rfl rfl Zbf rfl rfl (Z5E t hok s hs k2 q (by omega) (by simpa using hq) (lat σ.y s) (by omega) ba oa ca bt bw m σ.y o.fs hsl _ _) ?_
   refine pur 1 rfl ?_
   refine Z5 rfl ?_ ?_ <;> intro hc3
   have hst := Z8s g41 hq (fun i q h h2 => (hk2 i q h h2).resolve_left g41) hc3
   refine sqt 8 rfl (spL rfl rfl (lh Zfw rfl rfl) rfl (spL rfl rfl (lhA [_, _, _] ZF rfl rfl rfl) rfl (pur 2 rfl (sp rfl (PE.build (out := [_, _, _, _, _]) ZfA Z48 rfl rfl) rfl ?_))))
   refine bsl (out := [_, _, _, _, _]) rfl ZeS Z48 rfl rfl rfl rfl rfl rfl (fun b53 => ?_)
   refine apO (o') rfl Z51 rfl rfl (Z3e (row := Z5S ⟨s, lat σ.y s, k2⟩) rfl) rfl rfl ((by simp only [Zt, List.length_map, List.length_singleton]; omega)) rfl (fun o54 => ?_)
   refine Z2R (l' := [o54.fs]) rfl rfl rfl ZfO rfl (by rw [o54.cells.1]; first | done | rfl) (by rw [o54.cells.1]; simp [o54.cells.2]) (by rw [o54.cells.1]; first | done | rfl) (by rw [o54.cells.1]; first | done | exact Nat.le_refl _) ?_
   refine Zk (ZbJ (by decide) (Zl (Zl (ZH ?_))))
   first
     | exact ZZ (.inl ⟨rfl, o54.cast (by rw [hst]; simp [Zt, Z5S]), rfl, rfl⟩) (fun _ h => by repeat first | exact h | replace h := St.tail h | replace h := St.ftail h | replace h := St.drop h)
     | exact ZZ (.inl ⟨rfl, o'.cast (by rw [hst]; simp), rfl, rfl⟩) (fun _ h => by repeat first | exact h | replace h := St.tail h | replace h := St.ftail h | replace h := St.drop h)
   have hno : lat σ.y s = -1 ∨ t.keeps σ.y s q (lat σ.y s) = false := .inr hc3
   refine Z3 (sqr 2 rfl (sp rfl (PE.add rfl rfl (by omega)) rfl (pur 1 rfl ?_)))
   exact Zb ⟨k2 + 1, by omega, fun i q' hi hq' => by
     rcases Nat.lt_or_ge i k2 with h1 | h1
     · exact hk2 i q' h1 hq'
     · obtain rfl : i = k2 := by omega
       rw [hq] at hq'; cases hq'; exact hno⟩ (by dsimp only; omega) (by repeat' first | exact Sub.nil | apply Sub.cons | rfl | (simp [lk]; omega)) idH
   simp only [decide_eq_false_iff_not, Decidable.not_not] at g41
   have hno : lat σ.y s = -1 ∨ t.keeps σ.y s q (lat σ.y s) = false := .inl g41
   refine pur 6 rfl ?_
   refine Zz rfl ?_
   refine Z3 (sqr 2 rfl (sp rfl (PE.add rfl rfl (by omega)) rfl (pur 1 rfl ?_)))
   exact Zb ⟨k2 + 1, by omega, fun i q' hi hq' => by
     rcases Nat.lt_or_ge i k2 with h1 | h1
     · exact hk2 i q' h1 hq'
     · obtain rfl : i = k2 := by omega
       rw [hq] at hq'; cases hq'; exact hno⟩ (by dsimp only; omega) (by repeat' first | exact Sub.nil | apply Sub.cons | rfl | (simp [lk]; omega)) idH
   simp only [cS] at hc2
   obtain rfl : k2 = t.rats.length := by omega
   have hst := Z6R hk2
   refine Zk (Zl (Zl (ZH ?_)))
   first
     | exact ZZ (.inl ⟨rfl, o54.cast (by rw [hst]; simp [Zt, Z5S]), rfl, rfl⟩) (fun _ h => by repeat first | exact h | replace h := St.tail h | replace h := St.ftail h | replace h := St.drop h)
     | exact ZZ (.inl ⟨rfl, o'.cast (by rw [hst]; simp), rfl, rfl⟩) (fun _ h => by repeat first | exact h | replace h := St.tail h | replace h := St.ftail h | replace h := St.drop h)
   rintro _ _ _ _ ⟨rfl, rfl, o', rfl, rfl⟩
   refine Z98 ?_
   refine sqt 3 rfl (spL rfl rfl (lh Zfw rfl rfl) rfl (pur 2 rfl (Z4 ?_)))
   first
     | exact Zr [] idH rfl (.cons (RV.tmp rfl) (.cons (RV.tmp rfl) .nil)) rfl ⟨.inr ⟨hck, σ, hσ, .inl ⟨hc1, rfl, rfl⟩⟩, rfl⟩ drp
     | exact Zr [bd0] idH rfl (.cons (RV.tmp rfl) (.cons (RV.tmp rfl) .nil)) rfl ⟨.inr ⟨hck, σ, hσ, .inr ⟨hc1, o', rfl, rfl⟩⟩, rfl⟩ (fun w h => ((((h.tail.tail.del b1).del bw).del m).ftail.ftail).dropMid)
def Z1v (t : Twn) (y : List Int) (bads : Int) (s : Sta) : Bool := (decide (s.short = t.now.short) && decide (s.dry = t.now.dry)) && decide (bads ≤ lat y s)
def Z33 (t : Twn) (y : List Int) (bads : Int) : Value := match (sts t).find? (Z1v t y bads) with
  | some s => .tuple #[.int .i64 s.stock, .int .i64 0]
  | none => .tuple #[.int .i64 0, .int .i64 6]
theorem Z7e {α : Type} {p : α → Bool} : ∀ {l : List α} {k : Nat} {x : α}, l[k]? = some x → (∀ i z, i < k → l[i]? = some z → p z = false) → p x = true → l.find? p = some x
  | [], _, _, h, _, _ => by simp at h
  | a :: l, 0, x, h, _, hp => by
    simp only [List.getElem?_cons_zero, Option.some.injEq] at h
    subst h; simp [hp]
  | a :: l, k + 1, x, h, hn, hp => by
    have h0 := hn 0 a (by omega) rfl
    rw [List.find?_cons, h0]
    exact Z7e (l := l) (k := k) (by simpa using h) (fun i z hi hz => hn (i + 1) z (by omega) (by simpa using hz)) hp
theorem Za0 (t : Twn) (hl : t.rats.length ≤ 9223372036854775807) (bads : Int) (ba oa ca : Nat) (H : Zj) (R : Z9) [hR : MemRows (some ⟨ba, oa, none⟩) 2 (Zf t.rats) R] :
    Fn Tryz.prog 32 [t.v (t.sl (some ⟨ba, oa, none⟩) ca), .int .i64 bads] H R (fun v H' R' => ((t.check ≠ 0 ∧ v = .tuple #[.int .i64 0, .int .i64 t.check]) ∨
      (t.check = 0 ∧ inb bads 0 1000000 = false ∧ v = .tuple #[.int .i64 0, .int .i64 3]) ∨ (t.check = 0 ∧ inb bads 0 1000000 = true ∧ ∃ σ, Z3w t σ ∧ v = Z33 t σ.y bads)) ∧ H' = H ∧ R' = R) := by
 refine Z6I Tryz.func32 rfl Tryz.ntmps32 rfl ?_
 refine sqt 4 rfl (bx rfl rfl rfl (fun b2 => bx rfl rfl rfl (fun b3 => alc rfl zl3 rfl (fun b4 => alc rfl ZfI rfl (fun b5 => sqt 8 rfl (spL rfl rfl (lhA [_, _, _, _, _, _, _, _, _, _, _] Zd rfl rfl rfl) rfl ?_))))))
 refine cl rfl Z5w rfl rfl (Z1A t hl ba oa ca _ _) ?_
 rintro _ _ _ (⟨hck, rfl, rfl, rfl⟩ | ⟨hck, bw, m, bt, rfl, rfl, rfl⟩)
 refine pur 3 rfl (alc rfl ZaT rfl (fun b6 => ?_))
 refine sto rfl rfl rfl ZaC rfl rfl rfl rfl ?_
 refine pur 1 rfl (Z0 (Z7 (sqt 3 rfl (pur 3 rfl ?_))))
 refine Zm (congrArg (fun b => some (Value.bool b)) (dT hck)) ?_
 refine sqt 3 rfl (pur 1 rfl ?_)
 refine sto rfl rfl rfl cn3 rfl rfl rfl rfl ?_
 refine sto rfl rfl rfl Zeg rfl rfl rfl rfl ?_
 refine Z4 ?_
 exact Zr [] idH rfl (.cons (RV.cell rfl (lh sc3 rfl rfl)) (.cons (RV.cell rfl (lh ZcQ rfl rfl)) .nil)) rfl ⟨.inl ⟨hck, rfl⟩, rfl, rfl⟩ drp
 ·
  have hok := (Zi hck).1
  refine pur 3 rfl (alc rfl ZaT rfl (fun b6 => ?_))
  refine sto rfl rfl rfl ZaC rfl rfl rfl rfl ?_
  refine pur 1 rfl (Z0 (Z7 (sqt 3 rfl (pur 3 rfl ?_))))
  refine Zz (rfl) ?_
  refine sqt 4 rfl (spL rfl rfl (lh sc3 rfl rfl) rfl ?_)
  refine clV rfl Z2a rfl rfl (Z68 _ _ _ _ _) ?_
  refine pur 2 rfl ?_
  refine Z5 rfl ?_ ?_ <;> intro hc1
  have hib : inb bads 0 1000000 = false := by rw [← Bool.not_eq_true']; exact hc1
  refine sqt 2 rfl ?_
  refine sto rfl rfl rfl cn3 rfl rfl rfl rfl ?_
  refine sto rfl rfl rfl Zeg rfl rfl rfl rfl ?_
  refine Z4 ?_
  first
    | exact Zr [] idH rfl (.cons (RV.cell rfl (lh sc3 rfl rfl)) (.cons (RV.cell rfl (lh ZcQ rfl rfl)) .nil)) rfl ⟨.inr (.inl ⟨hck, hib, rfl⟩), rfl, rfl⟩ (fun w h => (((((((h.del b3).del b4).del b5).del b6).del b2).del bw).del m).ftail)
    | exact Zr [bd0] idH rfl (.cons (RV.cell rfl (lh sc3 rfl rfl)) (.cons (RV.cell rfl (lh ZcQ rfl rfl)) .nil)) (v := Z33 t σ.y bads) (by unfold Z33; rw [hno]; rfl) ⟨.inr (.inr ⟨hck, hib, σ, hσ, rfl⟩), rfl, rfl⟩ (fun w h => (((((((h.del b3).del b4).del b5).del b6).del b2).del bw).del m).ftail.ftail.drop)
  ·
   have hib : inb bads 0 1000000 = true := by rw [← Bool.not_eq_false']; exact hc1
   have hbd := hib
   simp only [inb, Bool.and_eq_true, decide_eq_true_eq] at hbd
   refine Z3 (sqt 2 rfl (spL rfl rfl (lh Z3j rfl rfl) rfl ?_))
   refine Z0X m ?_
   refine Z0X bw ?_
   refine cl rfl Zdt rfl rfl (Z95 t hok ba oa ca bt bw m _ _) ?_
   rintro v _ _ ⟨σ, o, hσ, rfl, rfl⟩
   have hsl := Z2l hok hσ
   refine Z0 (sqt 2 rfl (spL rfl rfl (lhA [_, _, _, _, _, _, _, _, _, _, _] Zd rfl rfl rfl) rfl ?_))
   refine cl rfl Z8M rfl rfl (Z3h t (t.sl (some ⟨ba, oa, none⟩) ca) _ _) ?_
   rintro _ _ _ ⟨b26, rfl, rfl, rfl⟩
   refine Z0X b2 ?_
   refine Z0X b6 ?_
   refine Z0X b5 ?_
   refine Z0X b4 ?_
   refine Z0X b3 ?_
   refine Z7 ?_
   refine Z2W rfl Z9g (fun c0 bl0 bd0 hcp0 hca0 hcb0 hck0 => ?_)
   refine ⟨fun st pend T R' => (st = .ready ∧ pend = none ∧ (sts t).find? (Z1v t σ.y bads) = none ∧ T = (bd0, .deferred (some [])) :: (b3, cel 3 [.int .i64 bads]) :: (b4, cel 3 [.int .i64 0]) :: (b5, cel 30 [.int .i64 0]) :: (b6, cel 50 [.pointer (some ⟨bw, 0, none⟩)]) :: (b2, cel 27 (twl t (t.sl (some ⟨ba, oa, none⟩) ca))) :: (o.G ++ (bw, cel 62 (rcs t (t.sl (some ⟨ba, oa, none⟩) ca) bt (σ.y) o.fs m)) :: (m, Z1j true (Z3q σ.fl)) :: H) ∧ R' = RowsA (some ⟨b26, 0, none⟩) 11 [twl t (t.sl (some ⟨ba, oa, none⟩) ca)] :: RowsA (some ⟨bt, 0, none⟩) 11 [twl t (t.sl (some ⟨ba, oa, none⟩) ca)] :: R) ∨
       (st = .done ∧ pend = some .ret ∧ ∃ s, (sts t).find? (Z1v t σ.y bads) = some s ∧ T = (bd0, .deferred (some [])) :: (b3, cel 3 [.int .i64 bads]) :: (b4, cel 3 [.int .i64 s.stock]) :: (b5, cel 30 [.int .i64 0]) :: (b6, cel 50 [.pointer (some ⟨bw, 0, none⟩)]) :: (b2, cel 27 (twl t (t.sl (some ⟨ba, oa, none⟩) ca))) :: (o.G ++ (bw, cel 62 (rcs t (t.sl (some ⟨ba, oa, none⟩) ca) bt (σ.y) o.fs m)) :: (m, Z1j true (Z3q σ.fl)) :: H) ∧ R' = RowsA (some ⟨b26, 0, none⟩) 11 [twl t (t.sl (some ⟨ba, oa, none⟩) ca)] :: RowsA (some ⟨bt, 0, none⟩) 11 [twl t (t.sl (some ⟨ba, oa, none⟩) ca)] :: R),
     Fn.mono (Z2k t hok (t.sl (some ⟨ba, oa, none⟩) ca) b26 bl0 (fun k H' R' => (∀ i s, i < k → (sts t)[i]? = some s → Z1v t σ.y bads s = false) ∧ H' = (bl0, lob c0 .ready none) :: (bd0, .deferred (some [])) :: (b3, cel 3 [.int .i64 bads]) :: (b4, cel 3 [.int .i64 0]) :: (b5, cel 30 [.int .i64 0]) :: (b6, cel 50 [.pointer (some ⟨bw, 0, none⟩)]) :: (b2, cel 27 (twl t (t.sl (some ⟨ba, oa, none⟩) ca))) :: (o.G ++ (bw, cel 62 (rcs t (t.sl (some ⟨ba, oa, none⟩) ca) bt (σ.y) o.fs m)) :: (m, Z1j true (Z3q σ.fl)) :: H) ∧ R' = RowsA (some ⟨b26, 0, none⟩) 11 [twl t (t.sl (some ⟨ba, oa, none⟩) ca)] :: RowsA (some ⟨bt, 0, none⟩) 11 [twl t (t.sl (some ⟨ba, oa, none⟩) ca)] :: R)
       (fun H' R' => ∃ s, (sts t).find? (Z1v t σ.y bads) = some s ∧ H' = (bl0, lob c0 .done (some .ret)) :: (bd0, .deferred (some [])) :: (b3, cel 3 [.int .i64 bads]) :: (b4, cel 3 [.int .i64 s.stock]) :: (b5, cel 30 [.int .i64 0]) :: (b6, cel 50 [.pointer (some ⟨bw, 0, none⟩)]) :: (b2, cel 27 (twl t (t.sl (some ⟨ba, oa, none⟩) ca))) :: (o.G ++ (bw, cel 62 (rcs t (t.sl (some ⟨ba, oa, none⟩) ca) bt (σ.y) o.fs m)) :: (m, Z1j true (Z3q σ.fl)) :: H) ∧ R' = RowsA (some ⟨b26, 0, none⟩) 11 [twl t (t.sl (some ⟨ba, oa, none⟩) ca)] :: RowsA (some ⟨bt, 0, none⟩) 11 [twl t (t.sl (some ⟨ba, oa, none⟩) ca)] :: R)
       (fun k H' R' h => by obtain ⟨_, _, h⟩ := h; rw [h]; simp) (fun k s H' R' hk hI => ?_) _ _ ⟨by omega, rfl, rfl⟩) (fun v H' R' h => ?_), ?_⟩
   rotate_left
   · rcases h with ⟨hn, rfl, rfl⟩ | ⟨s, hs, rfl, rfl⟩
     · refine ⟨.ready, none, _, by simp, .refl _, .inl ⟨rfl, rfl, ?_, rfl, rfl⟩⟩
       rw [List.find?_eq_none]
       intro s hs
       obtain ⟨i, hi⟩ := List.getElem?_of_mem hs
       have := (List.getElem?_eq_some_iff.1 hi).1
       rw [Z0s] at this
       simp [hn i s this hi]
     · exact ⟨.done, some .ret, _, by simp, .refl _, .inr ⟨rfl, rfl, s, hs, rfl, rfl⟩⟩
   rotate_left
   have hs := Zv hok (List.mem_of_getElem? hk)
   obtain ⟨hno, rfl, rfl⟩ := hI
   refine Zaa hcp0 hca0 hcb0 hck0 rfl ?_
   refine sqr 2 rfl (alc rfl Z2M rfl (fun b8 => ?_))
   refine sto rfl rfl rfl Z2O rfl rfl rfl rfl ?_
   refine Z0W ?_
   refine Z7 (sqt 11 rfl (sp rfl (PE.fA Z1B rfl) rfl (spL rfl rfl (lh sc3 rfl rfl) rfl (sp rfl (PE.fA Z0a rfl) rfl (sp rfl (PE.fA Z1h rfl) rfl (spL rfl rfl (lh sc3 rfl rfl) rfl (sp rfl (PE.fA Z0a rfl) rfl (sp rfl (PE.fA Z1I rfl) rfl (spL rfl rfl (lh sc3 rfl rfl) rfl (sp rfl (PE.build (out := [_, _, _]) Z7z Z2M rfl rfl) rfl (alc rfl Z2M rfl (fun b9 => ?_))))))))))))
   refine sto rfl rfl rfl Z2O rfl rfl rfl rfl ?_
   refine Z0 ?_
   refine Ze [0, 0, 3, 7, 15, 31, 63, 15, 255, 15, 1023, 2047] (.ld 0 (.ld 1 (.tk 2 (.tk 3 (.ld 4 (.tk 5 (.tk 6 (.ld 7 (.ld 9 (.big 8 (.tk 10 (.tk 11 .done)))))))))))) Zy (by kernel_rfl) ?_
   refine ld rfl rfl (lhA [_, _, _] ZF rfl rfl rfl) rfl (ld rfl rfl (lhA [_, _, _] ZF rfl rfl rfl) rfl (tk rfl (PE.eqlAgg [s.stock, s.short, s.dry] [s.stock, t.now.short, t.now.dry] (Z13 10000 24 true 3 Z3S) Z8o rfl rfl rfl rfl) rfl (ZD 1 rfl ?_)))
   refine ZE 40 rfl ?_ ?_ <;> intro g40
   have hst : (decide (s.short = t.now.short) && decide (s.dry = t.now.dry)) = true := by simpa using g40
   refine ldG rfl rfl rfl rfl rfl (lh Z3j rfl rfl) rfl ?_
   refine tkG rfl rfl rfl rfl (PE.nilCheck rfl) rfl ?_
   refine tkG rfl rfl rfl rfl (PE.fA Z0G rfl) rfl ?_
   refine ldG rfl rfl rfl rfl rfl (lhA [_, _, _] ZF rfl rfl rfl) rfl (ldG rfl rfl rfl rfl rfl (lh sc3 rfl rfl) rfl ?_)
   refine Z0k rfl rfl rfl rfl Z3t rfl rfl (Z8C t hok s hs ba oa ca bt bw m σ.y o.fs hsl _ _) ?_
   refine bg (fun w hs => ⟨(lh sc3 rfl rfl) w hs, trivial, trivial, trivial, trivial, trivial⟩) ?_
   refine ZD 2 rfl ?_
   refine Z5 rfl ?_ ?_ <;> intro hc2
   have hp : Z1v t σ.y bads s = true := by unfold Z1v; rw [hst]; exact hc2
   refine sqt 4 rfl (sp rfl (PE.fA Z1B rfl) rfl (spL rfl rfl (lh sc3 rfl rfl) rfl ?_))
   refine sto rfl rfl rfl cn3 rfl rfl rfl rfl ?_
   refine sto rfl rfl rfl Zeg rfl rfl rfl rfl ?_
   refine Z4 ?_
   exact Z7c (.inr ⟨rfl, s, Z7e hk hno hp, rfl, rfl⟩) (fun _ h => by repeat first | exact h | replace h := St.tail h | replace h := St.ftail h | replace h := St.drop h)
   have hnp : Z1v t σ.y bads s = false := by unfold Z1v; rw [hst]; exact hc2
   refine Z3 ?_
   exact ZZ (.inl ⟨rfl, fun i z hi hz => by
     rcases Nat.lt_or_ge i k with h1 | h1
     · exact hno i z h1 hz
     · obtain rfl : i = k := by omega
       rw [hk] at hz; cases hz; exact hnp, rfl, rfl⟩) drp
   have hst : (decide (s.short = t.now.short) && decide (s.dry = t.now.dry)) = false := by simpa using g40
   have hnp : Z1v t σ.y bads s = false := by unfold Z1v; rw [hst]; rfl
   refine ldN rfl rfl rfl rfl rfl rfl rfl rfl ?_
   refine ZD 2 rfl ?_
   repeat refine ldN rfl rfl rfl rfl rfl rfl rfl rfl ?_
   refine spN rfl rfl rfl rfl rfl rfl rfl rfl ?_
   refine bg (fun w hs => ⟨((fun _ _ => True.intro)) w hs, trivial, trivial, trivial, trivial, trivial⟩) ?_
   refine ZD 2 rfl ?_
   refine Zz rfl ?_
   refine Z3 ?_
   exact ZZ (.inl ⟨rfl, fun i z hi hz => by
     rcases Nat.lt_or_ge i k with h1 | h1
     · exact hno i z h1 hz
     · obtain rfl : i = k := by omega
       rw [hk] at hz; cases hz; exact hnp, rfl, rfl⟩) drp
   rintro _ _ _ _ (⟨rfl, rfl, hno, rfl, rfl⟩ | ⟨rfl, rfl, s, hfs, rfl, rfl⟩)
   refine Z98 ?_
   refine sqt 2 rfl ?_
   refine sto rfl rfl rfl cn3 rfl rfl rfl rfl ?_
   refine sto rfl rfl rfl Zeg rfl rfl rfl rfl ?_
   refine Z4 ?_
   first
     | exact Zr [] idH rfl (.cons (RV.cell rfl (lh sc3 rfl rfl)) (.cons (RV.cell rfl (lh ZcQ rfl rfl)) .nil)) rfl ⟨.inr (.inl ⟨hck, hib, rfl⟩), rfl, rfl⟩ (fun w h => (((((((h.del b3).del b4).del b5).del b6).del b2).del bw).del m).ftail)
     | exact Zr [bd0] idH rfl (.cons (RV.cell rfl (lh sc3 rfl rfl)) (.cons (RV.cell rfl (lh ZcQ rfl rfl)) .nil)) (v := Z33 t σ.y bads) (by unfold Z33; rw [hno]; rfl) ⟨.inr (.inr ⟨hck, hib, σ, hσ, rfl⟩), rfl, rfl⟩ (fun w h => (((((((h.del b3).del b4).del b5).del b6).del b2).del bw).del m).ftail.ftail.drop)
   refine Zes ?_
   refine Z4 ?_
   exact Zr [bd0] idH rfl (.cons (RV.cell rfl (lh sc3 rfl rfl)) (.cons (RV.cell rfl (lh ZcQ rfl rfl)) .nil)) (v := Z33 t σ.y bads) (by unfold Z33; rw [hfs]; rfl) ⟨.inr (.inr ⟨hck, hib, σ, hσ, rfl⟩), rfl, rfl⟩ (fun w h => (((((((h.del b3).del b4).del b5).del b6).del b2).del bw).del m).ftail.ftail.drop)
theorem Zcu : cal Tryz.prog 76 = true := by kernel_rfl
theorem Zfa : Z1c Tryz.prog 136 = some 1 := by kernel_rfl
theorem Zex : Z1c Tryz.prog 137 = some 1 := by kernel_rfl
theorem Zbx : eqB Tryz.prog 10000 139 = some (true, 4) := by kernel_rfl
theorem Zbv : Z74 Tryz.prog 136 = some (139, 3) := by kernel_rfl
theorem ZbF : Z4e Tryz.prog 10000 139 = true := by kernel_rfl
theorem Zd3 : Z1q Tryz.prog 139 = some [(0, 3), (3, 1)] := by kernel_rfl
theorem Ze2 : Z47 Tryz.prog 136 = true := by kernel_rfl
theorem Z9L : Z47 Tryz.prog 137 = true := by kernel_rfl
theorem Zeu : Z0n Tryz.prog 136 = some ([.map none]) := by kernel_rfl
theorem ZeY : Z0n Tryz.prog 137 = some ([.nilFunc]) := by kernel_rfl
theorem ZdZ : Z0n Tryz.prog 139 = some ([.int .i64 0, .int .i64 0, .int .i64 0, .int .i64 0]) := by kernel_rfl
theorem zv3 : zvl Tryz.prog 3 = some (.int .i64 0) := by kernel_rfl
def KVok (t : Twn) (kv : KV) : Prop := (∀ e ∈ kv, e.1.length = 4) ∧ ∀ (s : Sta) (n : Nat) (v : Value), kv.get [s.stock, s.short, s.dry, n] = some v → v = .int .i64 (ef t n s)
theorem KVok.nil (t : Twn) : KVok t [] := ⟨by simp, by intro s n v h; simp [KV.get] at h⟩
theorem KVok.put {t : Twn} {kv : KV} (h : KVok t kv) (s : Sta) (n : Nat) : KVok t (kv.put [s.stock, s.short, s.dry, n] (.int .i64 (ef t n s))) := by
  refine ⟨fun e he => ?_, fun u k v hv => ?_⟩
  · rcases KV.put_mem he with rfl | he
    · rfl
    · exact h.1 e he
  · rw [KV.get_put] at hv
    by_cases hk : ([s.stock, s.short, s.dry, (n : Int)] : List Int) = [u.stock, u.short, u.dry, (k : Int)]
    · simp only [hk, decide_true, cond_true, Option.some.injEq] at hv
      subst hv
      simp only [List.cons.injEq, Int.natCast_inj, and_true] at hk
      obtain ⟨a, b, c⟩ := s
      obtain ⟨a', b', c'⟩ := u
      simp only at hk
      obtain ⟨rfl, rfl, rfl, rfl⟩ := hk
      rfl
    · simp only [hk, decide_false, cond_false] at hv
      exact h.2 u k v hv
def clo (c8 c2 c9 c6 : Nat) : Value := .func (.func 76) #[] #[.pointer (some ⟨c8, 0, none⟩), .pointer (some ⟨c2, 0, none⟩), .pointer (some ⟨c9, 0, none⟩), .pointer (some ⟨c6, 0, none⟩)]
def Zei (t : Twn) (ba oa ca bt bw m m2 c8 c2 c9 c6 n : Nat) : Prop := ∀ (kv : KV) (s : Sta) (H : Zj) (R : Z9) [hR : MemRows (some ⟨ba, oa, none⟩) 2 (Zf t.rats) R] [hT : MemRows (some ⟨bt, 0, none⟩) 11 [twl t (t.sl (some ⟨ba, oa, none⟩) ca)] R] [h8 : Mem1 c8 (cel 136 [.map (some m2)]) H] [h2 : Mem1 c2 (cel 27 (twl t (t.sl (some ⟨ba, oa, none⟩) ca))) H]
    [h9 : Mem1 c9 (cel 137 [clo c8 c2 c9 c6]) H] [h6 : Mem1 c6 (cel 50 [.pointer (some ⟨bw, 0, none⟩)]) H] [hW : Mem1 bw (cel 62 (rcs t (t.sl (some ⟨ba, oa, none⟩) ca) bt (List.replicate 496 0) (.slice none 0 0) m)) H],
    KVok t kv → s.right t = true → Fn Tryz.prog 76 [s.v, .int .i64 n, .pointer (some ⟨c8, 0, none⟩), .pointer (some ⟨c2, 0, none⟩), .pointer (some ⟨c9, 0, none⟩), .pointer (some ⟨c6, 0, none⟩)] ((m2, Z1j true kv) :: H) R
      (fun v H' R' => ∃ kv', KVok t kv' ∧ v = .int .i64 (ef t n s) ∧ H' = (m2, Z1j true kv') :: H ∧ R' = R)
theorem Z8D (t : Twn) (ht : t.ok) (ba oa ca bt bw m m2 c8 c2 c9 c6 n : Nat) (hn : n ≤ 11) (ih : Zei t ba oa ca bt bw m m2 c8 c2 c9 c6 n) :
    Zei t ba oa ca bt bw m m2 c8 c2 c9 c6 (n + 1) := by
 intro kv s H R hR hT h8 h2 h9 h6 hW hkv hs
 refine Zq Tryz.func76 rfl Tryz.ntmps76 rfl ?_
 refine sqt 2 rfl (bx rfl rfl rfl (fun b6 => pur 1 rfl (Z0 (sqt 2 rfl (pur 2 rfl ?_)))))
 refine Zz (congrArg (fun b => some (Value.bool b)) (dF (by omega))) ?_
 refine Z3 (Z0 (sqt 10 rfl (spL rfl rfl (lh Ze2 rfl rfl) rfl (spL rfl rfl (lhA [_, _, _] ZF rfl rfl rfl) rfl (pur 1 rfl (sp rfl (PE.build (out := [_, _, _, _]) Zd3 ZdZ rfl rfl) rfl ?_))))))
 refine spK rfl rfl rfl (Z4K kv [s.stock, s.short, s.dry, (n + 1 : Nat)] Zbv (KeyT.of Zbx ZbF) (Z6g zv3) rfl hkv.1 true) rfl ?_
 refine pur 5 rfl (sqt 1 rfl (pur 1 rfl ?_))
 refine Z5 rfl ?_ ?_ <;> intro hc1
 obtain ⟨u, hu⟩ := Option.isSome_iff_exists.1 hc1
 have hu2 := hkv.2 s (n + 1) u hu
 refine sqt 2 rfl (pur 2 rfl (Z4 ?_))
 first
   | exact Z2 (vs := [_]) (v := .int .i64 (ef t (n + 1) s)) rfl (.cons (RV.tmp rfl) .nil) (by show (kv.get _).getD _ = _; rw [hu]; exact hu2) ⟨kv, hkv, rfl, rfl, rfl⟩ (fun w h => h.del b6)
   | exact rtA rfl rfl rfl ⟨_, hkv.put s (n + 1), rfl, rfl, rfl⟩ (fun w h => h.del b6)
 refine Z3 (sqt 1 rfl (pur 1 rfl (Z0 (sqt 4 rfl (sp rfl (PE.fA ZY rfl) rfl (spL rfl rfl (lh Z23 rfl rfl) rfl (sp rfl (PE.lenSl Z2f rfl) rfl (pur 1 rfl (Z7 ?_)))))))))
 have hlen := ht.many
 have hbd := Za6 ht n
 refine Zn (ι := {x : Nat × KV // x.1 ≤ t.rats.length ∧ KVok t x.2}) (fun x => ⟨[(1, .int .i64 (n + 1 : Nat)), (2, .pointer (some ⟨c8, 0, none⟩)), (3, .pointer (some ⟨c2, 0, none⟩)), (4, .pointer (some ⟨c9, 0, none⟩)), (5, .pointer (some ⟨c6, 0, none⟩)), (6, .pointer (some ⟨b6, 0, none⟩)), (11, .int .i64 ((fun k => (t.rats.take k).foldl (efQ t (ef t n) s) (-1)) x.1.1)), (28, t.sl (some ⟨ba, oa, none⟩) ca), (29, .int .i64 t.rats.length), (30, .int .i64 x.1.1)],
   (m2, Z1j true x.1.2) :: (b6, cel 24 [.int .i64 s.stock, .int .i64 s.short, .int .i64 s.dry]) :: H, R⟩) (fun x => t.rats.length - x.1.1) ⟨(0, kv), by omega, hkv⟩ ?_ (fun x => ?_)
 exact Z06 (fun w h => h.pull m2)
 obtain ⟨⟨k, kv⟩, hk, hkv⟩ := x
 dsimp only at hk hkv ⊢
 refine sqt 1 rfl (pur 1 rfl (Z0 ?_))
 refine Z5 rfl ?_ ?_ <;> intro hc2
 simp only [cS] at hc2
 obtain ⟨q, hq⟩ : ∃ q, t.rats[k]? = some q := ⟨_, List.getElem?_eq_getElem (by omega)⟩
 have hqm := List.mem_of_getElem? hq
 have e : (t.rats.take (k + 1)).foldl (efQ t (ef t n) s) (-1) = efQ t (ef t n) s ((t.rats.take k).foldl (efQ t (ef t n) s) (-1)) q := by rw [List.take_add_one, hq, Option.toList_some, List.foldl_append]; rfl
 have hbb := Z7P (t := t) (g := ef t n) (B := n * 3000) (by omega) hbd s (t.rats.take k) (fun q hq => ht.rats q (List.mem_of_mem_take hq)) (-1) (by omega) (by omega)
 have hq1 := ht.rats q hqm
 have hmul := Z9V hq1.1 hq1.2.1 hq1.2.2.1 hq1.2.2.2
 generalize (t.rats.take k).foldl (efQ t (ef t n) s) (-1) = best at e hbb ⊢
 refine Z3 (Z0 (Z7 (sqt 6 rfl (pur 1 rfl (sp rfl (PE.indexAddr Z8K rfl rfl (by omega) (by omega)) rfl (spL rfl rfl (lfA Z5j (row := Z2z q) (Z01 hq) rfl) rfl (alc rfl Z6P rfl (fun b13 => pur 1 rfl ?_))))))))
 refine sto rfl rfl rfl ZcO rfl rfl rfl rfl ?_
 refine Z0 (sqt 5 rfl (spL rfl rfl (lhA [_, _, _, _, _, _, _, _, _, _, _] Zd rfl rfl rfl) rfl (spL rfl rfl (lhA [_, _, _] ZF rfl rfl rfl) rfl (pur 1 rfl ?_))))
 refine clV rfl Z8m rfl rfl (Z1L t s k q ba oa ca (by omega) (by simpa using hq) _ _) ?_
 refine pur 1 rfl ?_
 refine Z5 rfl ?_ ?_ <;> intro hc3
 have hcan : t.can s q = false := by rw [← Bool.not_eq_true']; exact hc3
 have hst : efQ t (ef t n) s best q = best := by simp [efQ, hcan]
 refine Zk (Zl (ZH (sqr 2 rfl (sp rfl (PE.add rfl rfl (by omega)) rfl (pur 1 rfl ?_)))))
 exact Zb ⟨(k + 1, kv), by omega, hkv⟩ (by dsimp only; omega) (by dsimp only; rw [e, hst]; exact (by repeat' first | exact Sub.nil | apply Sub.cons | rfl | (simp [lk]; omega))) (fun w h => by first | exact h.del b13 | exact (h.del b13).ftail)
 have hcan : t.can s q = true := by rw [← Bool.not_eq_false']; exact hc3
 have hcan2 : q.sacks ≤ s.stock := by simp [Twn.can] at hcan; exact hcan.1
 refine Z3 (Z0 ?_)
 refine Ze [0, 0, 0, 0, 14, 0, 32, 127, 255] (.ld 0 (.ld 1 (.ld 2 (.tk 3 (.tk 5 (.tk 6 (.big 4 (.big 7 (.tk 8 .done))))))))) Zy (by kernel_rfl) ?_
 refine ld rfl rfl (lh Z9L rfl rfl) rfl (ld rfl rfl (lhA [_, _, _, _, _, _, _, _, _, _, _] Zd rfl rfl rfl) rfl (ld rfl rfl (lhA [_, _, _] ZF rfl rfl rfl) rfl (ZD 2 rfl (tk rfl (PE.sub rfl rfl (by omega)) rfl ?_))))
 refine clV rfl Z5P rfl rfl (Z3l t ht s hs k q false ba oa ca (by omega) (by simpa using hq) hcan2 _ _) ?_
 refine bg (fun w hs => ⟨trivial, trivial, (lh Z9L rfl rfl) w hs, trivial⟩) ?_
 rw [show ((n + 1 : Nat) : Int) - 1 = n from by omega]
 refine Z0X m2 ?_
 refine clF rfl rfl (Zcu) rfl rfl (ih kv _ _ _ hkv (ZB ht hs hqm hcan (by simp))) ?_
 rintro v _ _ ⟨kv, hkv, rfl, rfl, rfl⟩
 refine bgT (ZD 1 rfl (Z0 (Z0 ?_)))
 refine Ze [0, 1, 3, 7, 15, 0, 63] (.ld 0 (tks 1 3 (.ld 4 (.ld 5 (.big 6 .done))))) Zy (by kernel_rfl) ?_
 refine ld rfl rfl (lh Z3j rfl rfl) rfl (tk rfl (PE.nilCheck rfl) rfl (tk rfl (PE.fA Z6r rfl) rfl (tk rfl (PE.fA Z6v rfl) rfl (ld rfl rfl (lh ZdP rfl rfl) rfl (ld rfl rfl (lhA [_, _, _] ZF rfl rfl rfl) rfl ?_)))))
 refine ZaU rfl rfl (Zan) rfl rfl (Zao t s ba oa ca bt _ _) ?_
 refine bgT ?_
 refine Z5 rfl ?_ ?_ <;> intro hc4
 have hw : Z02 t (ef t n) s q = min (ef t n (t.next s q false)) (ef t n (t.next s q true)) := by unfold Z02; rw [hc4]; rfl
 refine Ze [0, 0, 0, 0, 0, 28, 0, 64, 254, 510, 1023, 2047] (.tk 0 (.ld 1 (.ld 2 (.ld 3 (.tk 4 (.tk 6 (.tk 7 (.big 5 (.big 8 (.big 9 (.big 10 (.tk 11 .done)))))))))))) Zy (by kernel_rfl) ?_
 refine ZD 1 rfl (ld rfl rfl (lh Z9L rfl rfl) rfl (ld rfl rfl (lhA [_, _, _, _, _, _, _, _, _, _, _] Zd rfl rfl rfl) rfl (ld rfl rfl (lhA [_, _, _] ZF rfl rfl rfl) rfl (ZD 2 rfl (tk rfl (PE.sub rfl rfl (by omega)) rfl ?_)))))
 refine clV rfl Z5P rfl rfl (Z3l t ht s hs k q true ba oa ca (by omega) (by simpa using hq) hcan2 _ _) ?_
 refine bg (fun w hs => ⟨trivial, trivial, (lh Z9L rfl rfl) w hs, trivial⟩) ?_
 rw [show ((n + 1 : Nat) : Int) - 1 = n from by omega]
 refine Z0X m2 ?_
 refine clF rfl rfl (Zcu) rfl rfl (ih kv _ _ _ hkv (ZB ht hs hqm hcan (fun _ => by simpa using hc4))) ?_
 rintro v _ _ ⟨kv, hkv, rfl, rfl, rfl⟩
 refine bgT ?_
 refine bsl (out := [_]) rfl Z46 zl3 rfl rfl rfl rfl rfl rfl (fun b64 => ?_)
 refine bgT ?_
 refine Sy.heap (fun w h => St.rows (sz := 1) (rows := [[.int .i64 _]]) (rest := []) h (by simp)) ?_
 refine clV rfl ZbO rfl rfl (Z64 _ _ _ _ _ _) ?_
 refine bgT (ZD 1 rfl (sqt 2 rfl (pur 2 rfl ?_)))
 refine Z5 rfl ?_ ?_ <;> intro hc5
 have hne : Z02 t (ef t n) s q ≠ -1 := by rw [hw]; simpa using hc5
 have hst : efQ t (ef t n) s best q = max best (Z02 t (ef t n) s q + q.sacks * q.price) := by simp [efQ, hcan, hne]
 rw [hw] at hst
 have hwb := Z3W (t := t) hbd s q
 rw [hw] at hwb
 refine sqr 10 rfl (pur 2 rfl (sp rfl (PE.fA Z2Z rfl) rfl (spL rfl rfl (lh sc3 rfl rfl) rfl (sp rfl (PE.fA Z5c rfl) rfl (spL rfl rfl (lh sc3 rfl rfl) rfl (sp rfl (PE.mul rfl rfl (by omega)) rfl (sp rfl (PE.add rfl rfl (by omega)) rfl (sp rfl (PE.max rfl rfl) rfl (pur 1 rfl (sqr 2 rfl (sp rfl (PE.add rfl rfl (by omega)) rfl (pur 1 rfl ?_))))))))))))
 exact Zb ⟨(k + 1, kv), by omega, hkv⟩ (by dsimp only; omega) (by dsimp only; rw [e, hst]; exact (by repeat' first | exact Sub.nil | apply Sub.cons | rfl | (simp [lk]; omega))) (fun w h => by first | exact h.del b13 | exact (h.del b13).ftail)
 have hne : Z02 t (ef t n) s q = -1 := by rw [hw]; simpa using hc5
 have hst : efQ t (ef t n) s best q = best := by simp [efQ, hcan, hne]
 refine Z3 (sqr 2 rfl (sp rfl (PE.add rfl rfl (by omega)) rfl (pur 1 rfl ?_)))
 exact Zb ⟨(k + 1, kv), by omega, hkv⟩ (by dsimp only; omega) (by dsimp only; rw [e, hst]; exact (by repeat' first | exact Sub.nil | apply Sub.cons | rfl | (simp [lk]; omega))) (fun w h => by first | exact h.del b13 | exact (h.del b13).ftail)
 have hw : Z02 t (ef t n) s q = ef t n (t.next s q false) := by unfold Z02; rw [hc4]; rfl
 refine Z3 (sqt 2 rfl (pur 2 rfl ?_))
 refine Z5 rfl ?_ ?_ <;> intro hc5
 have hne : Z02 t (ef t n) s q ≠ -1 := by rw [hw]; simpa using hc5
 have hst : efQ t (ef t n) s best q = max best (Z02 t (ef t n) s q + q.sacks * q.price) := by simp [efQ, hcan, hne]
 rw [hw] at hst
 have hwb := Z3W (t := t) hbd s q
 rw [hw] at hwb
 refine sqr 10 rfl (pur 2 rfl (sp rfl (PE.fA Z2Z rfl) rfl (spL rfl rfl (lh sc3 rfl rfl) rfl (sp rfl (PE.fA Z5c rfl) rfl (spL rfl rfl (lh sc3 rfl rfl) rfl (sp rfl (PE.mul rfl rfl (by omega)) rfl (sp rfl (PE.add rfl rfl (by omega)) rfl (sp rfl (PE.max rfl rfl) rfl (pur 1 rfl (sqr 2 rfl (sp rfl (PE.add rfl rfl (by omega)) rfl (pur 1 rfl ?_))))))))))))
 exact Zb ⟨(k + 1, kv), by omega, hkv⟩ (by dsimp only; omega) (by dsimp only; rw [e, hst]; exact (by repeat' first | exact Sub.nil | apply Sub.cons | rfl | (simp [lk]; omega))) (fun w h => by first | exact h.del b13 | exact (h.del b13).ftail)
 have hne : Z02 t (ef t n) s q = -1 := by rw [hw]; simpa using hc5
 have hst : efQ t (ef t n) s best q = best := by simp [efQ, hcan, hne]
 refine Z3 (sqr 2 rfl (sp rfl (PE.add rfl rfl (by omega)) rfl (pur 1 rfl ?_)))
 exact Zb ⟨(k + 1, kv), by omega, hkv⟩ (by dsimp only; omega) (by dsimp only; rw [e, hst]; exact (by repeat' first | exact Sub.nil | apply Sub.cons | rfl | (simp [lk]; omega))) (fun w h => by first | exact h.del b13 | exact (h.del b13).ftail)
 simp only [cS] at hc2
 obtain rfl : k = t.rats.length := by omega
 rw [show (t.rats.take t.rats.length).foldl (efQ t (ef t n) s) (-1) = ef t (n + 1) s from by rw [List.take_length]; rfl]
 refine Zk (Zl (Zl (ZH (sqt 6 rfl (spL rfl rfl (lh Ze2 rfl rfl) rfl (spL rfl rfl (lhA [_, _, _] ZF rfl rfl rfl) rfl (pur 1 rfl (sp rfl (PE.build (out := [_, _, _, _]) Zd3 ZdZ rfl rfl) rfl (pur 1 rfl ?_)))))))))
 refine mpu kv [s.stock, s.short, s.dry, (n + 1 : Nat)] rfl Zbv (KeyT.of Zbx ZbF) rfl rfl rfl rfl hkv.1 ?_
 refine sqt 2 rfl (pur 2 rfl (Z4 ?_))
 first
   | exact Z2 (vs := [_]) (v := .int .i64 (ef t (n + 1) s)) rfl (.cons (RV.tmp rfl) .nil) (by show (kv.get _).getD _ = _; rw [hu]; exact hu2) ⟨kv, hkv, rfl, rfl, rfl⟩ (fun w h => h.del b6)
   | exact rtA rfl rfl rfl ⟨_, hkv.put s (n + 1), rfl, rfl, rfl⟩ (fun w h => h.del b6)
theorem Z8x (t : Twn) (ba oa ca bt bw m m2 c8 c2 c9 c6 : Nat) :
    Zei t ba oa ca bt bw m m2 c8 c2 c9 c6 0 := by
 intro kv s H R hR hT h8 h2 h9 h6 hW hkv hs
 refine Zq Tryz.func76 rfl Tryz.ntmps76 rfl ?_
 refine sqt 2 rfl (bx rfl rfl rfl (fun b6 => pur 1 rfl (Z0 (sqt 2 rfl (pur 2 rfl ?_)))))
 refine Zm (rfl) ?_
 refine sqt 1 rfl (pur 1 rfl (Z4 ?_))
 exact rtA rfl rfl rfl ⟨_, hkv, rfl, rfl, rfl⟩ (fun w h => h.del b6)
theorem ZcW (t : Twn) (ht : t.ok) (ba oa ca bt bw m m2 c8 c2 c9 c6 : Nat) : ∀ n : Nat, n ≤ 12 → Zei t ba oa ca bt bw m m2 c8 c2 c9 c6 n
  | 0, _ => Z8x t ba oa ca bt bw m m2 c8 c2 c9 c6
  | n + 1, h => Z8D t ht ba oa ca bt bw m m2 c8 c2 c9 c6 n (by omega) (ZcW t ht ba oa ca bt bw m m2 c8 c2 c9 c6 n (by omega))
def Z3T (t : Twn) (years : Int) : Value := bif decide (ef t years.toNat t.now = -1) then .tuple #[.int .i64 0, .int .i64 6] else .tuple #[.int .i64 (ef t years.toNat t.now), .int .i64 0]
theorem Z9U (t : Twn) (hl : t.rats.length ≤ 9223372036854775807) (years : Int) (ba oa ca : Nat) (H : Zj) (R : Z9) [hR : MemRows (some ⟨ba, oa, none⟩) 2 (Zf t.rats) R] :
    Fn Tryz.prog 33 [t.v (t.sl (some ⟨ba, oa, none⟩) ca), .int .i64 years] H R (fun v H' R' => ((t.check ≠ 0 ∧ v = .tuple #[.int .i64 0, .int .i64 t.check]) ∨
      (t.check = 0 ∧ inb years 0 12 = false ∧ v = .tuple #[.int .i64 0, .int .i64 3]) ∨ (t.check = 0 ∧ inb years 0 12 = true ∧ v = Z3T t years)) ∧ H' = H ∧ R' = R) := by
 refine Zq Tryz.func33 rfl Tryz.ntmps33 rfl ?_
 refine sqt 3 rfl (bx rfl rfl rfl (fun b2 => pur 2 rfl (sqt 8 rfl (spL rfl rfl (lhA [_, _, _, _, _, _, _, _, _, _, _] Zd rfl rfl rfl) rfl ?_))))
 refine cl rfl Z5w rfl rfl (Z1A t hl ba oa ca _ _) ?_
 rintro _ _ _ (⟨hck, rfl, rfl, rfl⟩ | ⟨hck, bw, m, bt, rfl, rfl, rfl⟩)
 refine pur 3 rfl (alc rfl ZaT rfl (fun b6 => ?_))
 refine sto rfl rfl rfl ZaC rfl rfl rfl rfl ?_
 refine pur 1 rfl (Z0 (Z7 (sqt 3 rfl (pur 3 rfl ?_))))
 refine Zm (congrArg (fun b => some (Value.bool b)) (dT hck)) ?_
 refine sqt 3 rfl (pur 3 rfl (Z4 ?_))
 exact rtB rfl rfl rfl rfl ⟨.inl ⟨hck, rfl⟩, rfl, rfl⟩ drp
 have hok := (Zi hck).1
 refine pur 3 rfl (alc rfl ZaT rfl (fun b6 => ?_))
 refine sto rfl rfl rfl ZaC rfl rfl rfl rfl ?_
 refine pur 1 rfl (Z0 (Z7 (sqt 3 rfl (pur 3 rfl ?_))))
 refine Zz (rfl) ?_
 refine sqt 4 rfl (pur 1 rfl ?_)
 refine clV rfl Z2a rfl rfl (Z68 _ _ _ _ _) ?_
 refine pur 2 rfl ?_
 refine Z5 rfl ?_ ?_ <;> intro hc1
 have hib : inb years 0 12 = false := by rw [← Bool.not_eq_true']; exact hc1
 refine sqt 2 rfl (pur 2 rfl (Z4 ?_))
 first
   | exact rtB rfl rfl rfl rfl ⟨.inr (.inl ⟨hck, hib, rfl⟩), rfl, rfl⟩ drp
   | exact Z2 (vs := [_, _]) (v := Z3T t n) rfl (.cons (RV.tmp rfl) (.cons (RV.tmp rfl) .nil)) (by rw [he]; rfl) ⟨.inr (.inr ⟨hck, hib, rfl⟩), rfl, rfl⟩ drp
 have hib : inb years 0 12 = true := by rw [← Bool.not_eq_false']; exact hc1
 have hbd := hib
 simp only [inb, Bool.and_eq_true, decide_eq_true_eq] at hbd
 obtain ⟨n, rfl⟩ : ∃ n : Nat, years = n := ⟨years.toNat, by omega⟩
 refine Z3 (sqt 3 rfl ?_)
 refine mkm rfl rfl true (fun m2 => ?_)
 refine alc rfl Zeu rfl (fun b8 => ?_)
 refine sto rfl rfl rfl Zfa rfl rfl rfl rfl ?_
 refine sqt 1 rfl (alc rfl ZeY rfl (fun b9 => sqt 2 rfl (sp rfl (PE.makeFunc rfl rfl) rfl ?_)))
 refine sto rfl rfl rfl Zex rfl rfl rfl rfl ?_
 refine sqt 6 rfl (spL rfl rfl (lh Z9L rfl rfl) rfl (sp rfl (PE.fA Z0a rfl) rfl (spL rfl rfl (lhA [_, _, _] ZF rfl rfl rfl) rfl (pur 1 rfl ?_))))
 refine Z0X m2 ?_
 refine clF rfl rfl (Zcu) rfl rfl (ZcW t hok ba oa ca bt bw m m2 b8 b2 b9 b6 n (by omega) [] t.now _ _ (KVok.nil t) hok.now) ?_
 rintro v _ _ ⟨kv, hkv, rfl, rfl, rfl⟩
 refine pur 1 rfl (Z0 (sqt 2 rfl (pur 2 rfl ?_)))
 refine Z5 rfl ?_ ?_ <;> intro hc2
 have he : Z3T t n = .tuple #[.int .i64 0, .int .i64 6] := by unfold Z3T; rw [Int.toNat_natCast, hc2]; rfl
 refine sqt 2 rfl (pur 2 rfl (Z4 ?_))
 first
   | exact rtB rfl rfl rfl rfl ⟨.inr (.inl ⟨hck, hib, rfl⟩), rfl, rfl⟩ drp
   | exact Z2 (vs := [_, _]) (v := Z3T t n) rfl (.cons (RV.tmp rfl) (.cons (RV.tmp rfl) .nil)) (by rw [he]; rfl) ⟨.inr (.inr ⟨hck, hib, rfl⟩), rfl, rfl⟩ drp
 have he : Z3T t n = .tuple #[.int .i64 (ef t n t.now), .int .i64 0] := by unfold Z3T; rw [Int.toNat_natCast, hc2]; rfl
 refine Z3 (sqt 3 rfl (pur 3 rfl (Z4 ?_)))
 first
   | exact rtB rfl rfl rfl rfl ⟨.inr (.inl ⟨hck, hib, rfl⟩), rfl, rfl⟩ drp
   | exact Z2 (vs := [_, _]) (v := Z3T t n) rfl (.cons (RV.tmp rfl) (.cons (RV.tmp rfl) .nil)) (by rw [he]; rfl) ⟨.inr (.inr ⟨hck, hib, rfl⟩), rfl, rfl⟩ drp
theorem Ze3 : Z5Y Tryz.prog 38 = some 5 := by kernel_rfl
theorem Zdc : cal Tryz.prog 79 = true := by kernel_rfl
theorem Zfi : Z1c Tryz.prog 38 = some 5 := by kernel_rfl
theorem Zbq : elN Tryz.prog 29 = some 5 := by kernel_rfl
theorem Z7y : Z1n Tryz.prog 38 0 = some 0 := by kernel_rfl
theorem Z4Y : Z1n Tryz.prog 38 1 = some 3 := by kernel_rfl
theorem Z6x : Z1n Tryz.prog 38 2 = some 4 := by kernel_rfl
theorem Z3R : Z6N Tryz.prog 29 = true := by kernel_rfl
theorem Zar (t : Twn) (hl : t.rats.length ≤ 9223372036854775807) (tb : List Rw) (a : Option Addr) (c : Nat) (hl2 : tb.length ≤ 9223372036854775807) (ba oa ca : Nat) (H : Zj) (R : Z9) [hR : MemRows (some ⟨ba, oa, none⟩) 2 (Zf t.rats) R] [hR2 : MemRows a 5 (Zt tb) R] :
    FnV Tryz.prog 34 [t.v (t.sl (some ⟨ba, oa, none⟩) ca), .slice a tb.length c] H R (.tuple #[.int .i64 (ZJ t tb).1, .int .i64 (ZJ t tb).2]) := by
 refine Z6I Tryz.func34 rfl Tryz.ntmps34 rfl ?_
 refine sqt 3 rfl (bx rfl rfl rfl (fun b2 => pur 2 rfl (ZaL (sqt 8 rfl (spL rfl rfl (lhA [_, _, _, _, _, _, _, _, _, _, _] Zd rfl rfl rfl) rfl ?_)))))
 refine cl rfl Z5w rfl rfl (Z1A t hl ba oa ca _ _) ?_
 rintro _ _ _ (⟨hck, rfl, rfl, rfl⟩ | ⟨hck, bw, m, bt, rfl, rfl, rfl⟩)
 refine pur 3 rfl (alc rfl ZaT rfl (fun b6 => ?_))
 refine sto rfl rfl rfl ZaC rfl rfl rfl rfl ?_
 refine pur 1 rfl (Z0 (Z7 (sqt 3 rfl (pur 3 rfl ?_))))
 refine Zm (congrArg (fun b => some (Value.bool b)) (dT hck)) ?_
 refine sqt 3 rfl (pur 3 rfl (Z4 ?_))
 have hres : ZJ t tb = (0, t.check) := by simp [ZJ, hck]
 exact Zr [] (vs := [_, _]) (v := .tuple #[.int .i64 (ZJ t tb).1, .int .i64 (ZJ t tb).2]) idH rfl (.cons (RV.tmp rfl) (.cons (RV.tmp rfl) .nil)) (by rw [hres]; rfl) ⟨rfl, rfl, rfl⟩ drp
 ·
  have ht := (Zi hck).1
  have t1 := ht.holds
  have t2 := ht.patience
  have t3 := ht.run
  refine pur 3 rfl (alc rfl ZaT rfl (fun b6 => ?_))
  refine sto rfl rfl rfl ZaC rfl rfl rfl rfl ?_
  refine pur 1 rfl (Z0 (Z7 (sqt 3 rfl (pur 3 rfl ?_))))
  refine Zz (rfl) ?_
  refine sqt 4 rfl (pur 1 rfl (sp rfl (PE.lenSl Z3R rfl) rfl (pur 2 rfl ?_)))
  refine Z5 rfl ?_ ?_ <;> intro hc1
  have hlen : 496 < tb.length := by simp only [decide_eq_true_eq] at hc1; omega
  have hres : ZJ t tb = (0, 2) := by simp [ZJ, hck, hlen]
  refine sqt 2 rfl (pur 2 rfl (Z4 ?_))
  first
    | exact Zr [] (vs := [_, _]) (v := .tuple #[.int .i64 (ZJ t tb).1, .int .i64 (ZJ t tb).2]) idH rfl (.cons (RV.tmp rfl) (.cons (RV.tmp rfl) .nil)) (by rw [hres]; rfl) ⟨rfl, rfl, rfl⟩ drp
    | exact Zr [bd0] (vs := [_, _]) (v := .tuple #[.int .i64 (ZJ t tb).1, .int .i64 (ZJ t tb).2]) (fun _ h => h.pull bd0) rfl (.cons (RV.tmp rfl) (.cons (RV.tmp rfl) .nil)) (by rw [hres]; rfl) ⟨rfl, rfl, rfl⟩ drp
  ·
   have hlen : tb.length ≤ 496 := by simp only [decide_eq_false_iff_not] at hc1; omega
   refine Z3 (Z0 (sqt 2 rfl (spL rfl rfl (lhA [_, _, _, _, _, _, _, _, _, _, _] Zd rfl rfl rfl) rfl ?_)))
   refine cl rfl Z8M rfl rfl (Z3h t (t.sl (some ⟨ba, oa, none⟩) ca) _ _) ?_
   rintro _ _ _ ⟨b31, rfl, rfl, rfl⟩
   refine Z7 ?_
   refine Z2W rfl Z9g (fun c0 bl0 bd0 hcp0 hca0 hcb0 hck0 => ?_)
   refine ⟨fun st pend T R' => st = .ready ∧ pend = none ∧ T = (bd0, .deferred (some [])) :: (b6, cel 50 [.pointer (some ⟨bw, 0, none⟩)]) :: (bw, cel 62 (rcs t (t.sl (some ⟨ba, oa, none⟩) ca) bt (Z6w t) (.slice none 0 0) m)) :: (m, Z1j true []) :: (b2, cel 27 (twl t (t.sl (some ⟨ba, oa, none⟩) ca))) :: H ∧ R' = RowsA (some ⟨b31, 0, none⟩) 11 [twl t (t.sl (some ⟨ba, oa, none⟩) ca)] :: RowsA (some ⟨bt, 0, none⟩) 11 [twl t (t.sl (some ⟨ba, oa, none⟩) ca)] :: R,
     Fn.mono (Z2k t ht (t.sl (some ⟨ba, oa, none⟩) ca) b31 bl0 (fun k H' R' => H' = (bl0, lob c0 .ready none) :: (bd0, .deferred (some [])) :: (b6, cel 50 [.pointer (some ⟨bw, 0, none⟩)]) :: (bw, cel 62 (rcs t (t.sl (some ⟨ba, oa, none⟩) ca) bt (((sts t).take k).foldl (fun y s => y.set s.ix (-1)) (List.replicate 496 (0 : Int))) (.slice none 0 0) m)) :: (m, Z1j true []) :: (b2, cel 27 (twl t (t.sl (some ⟨ba, oa, none⟩) ca))) :: H ∧ R' = RowsA (some ⟨b31, 0, none⟩) 11 [twl t (t.sl (some ⟨ba, oa, none⟩) ca)] :: RowsA (some ⟨bt, 0, none⟩) 11 [twl t (t.sl (some ⟨ba, oa, none⟩) ca)] :: R) (fun _ _ => False)
       (fun k H' R' h => by rw [h.2]; simp) (fun k s H' R' hk hI => ?_) _ _ ⟨rfl, rfl⟩) (fun v H' R' h => ?_), ?_⟩
   rotate_left
   · rcases h with ⟨rfl, rfl⟩ | h
     · rw [List.take_of_length_le (by rw [Z0s]; exact Nat.le_refl _)]
       exact ⟨.ready, none, _, by simp, .refl _, rfl, rfl, rfl, rfl⟩
     · exact h.elim
   rotate_left
   obtain ⟨rfl, rfl⟩ := hI
   have hs := Zv ht (List.mem_of_getElem? hk)
   have hix := Z2A ht hs
   have q1 := right_iff.1 hs
   have e : ((sts t).take (k + 1)).foldl (fun y s => y.set s.ix (-1)) (List.replicate 496 (0 : Int)) = (((sts t).take k).foldl (fun y s => y.set s.ix (-1)) (List.replicate 496 (0 : Int))).set s.ix (-1) := by rw [List.take_add_one, hk, Option.toList_some, List.foldl_append]; rfl
   rw [e]
   have hyl : (((sts t).take k).foldl (fun y s => y.set s.ix (-1)) (List.replicate 496 (0 : Int))).length = 496 := by rw [Z42, List.length_replicate]
   generalize ((sts t).take k).foldl (fun y s => y.set s.ix (-1)) (List.replicate 496 (0 : Int)) = y at *
   refine Zaa hcp0 hca0 hcb0 hck0 rfl ?_
   refine sqr 2 rfl (alc rfl Z2M rfl (fun b8 => ?_))
   refine sto rfl rfl rfl Z2O rfl rfl rfl rfl ?_
   refine Z0W ?_
   refine Z7 ?_
   refine Ze [0, 0, 2, 0, 8, 0, 32, 1, 129, 391, 927, 2047, 4095] (.ld 0 (.tk 1 (.ld 2 (.tk 3 (.ld 4 (.tk 5 (.ld 6 (tks 7 5 (.big 12 .done))))))))) Zy (by kernel_rfl) ?_
   refine ld rfl rfl (lh Z3j rfl rfl) rfl (tk rfl (PE.fA Z1B rfl) rfl (ld rfl rfl (lh sc3 rfl rfl) rfl (tk rfl (PE.fA Z1h rfl) rfl (ld rfl rfl (lh sc3 rfl rfl) rfl (tk rfl (PE.fA Z1I rfl) rfl (ld rfl rfl (lh sc3 rfl rfl) rfl (tk rfl (PE.nilCheck rfl) rfl (tk rfl (PE.fA Z0G rfl) rfl (tk rfl (PE.indexArr Zcx rfl rfl (by omega) (by omega)) rfl (tk rfl (PE.indexArr ZcR rfl rfl (by omega) (by omega)) rfl (tk rfl (PE.indexArr ZcS rfl rfl (by omega) (by omega)) rfl ?_)))))))))))
   refine Z2R rfl rfl rfl cn3 rfl rfl rfl (Z6d (-1) (i := s.ix) (by omega) (by unfold Sta.ix; omega)) (by rw [Z4l hyl]; show _ + 1 ≤ 510; omega) ?_
   refine bgT ?_
   exact ZZ (.inl ⟨rfl, rfl, rfl⟩) (fun _ h => by repeat first | exact h | replace h := St.tail h | replace h := St.ftail h | replace h := St.drop h)
   rintro _ _ _ _ ⟨rfl, rfl, rfl, rfl⟩
   refine Z98 ?_
   refine sqt 1 rfl (pur 1 rfl (Z0 (sqt 3 rfl (pur 1 rfl (sp rfl (PE.lenSl Z3R rfl) rfl (pur 1 rfl (Z7 ?_)))))))
   have hny : (Z6w t).length = 496 := by rw [Z6w, Z42, List.length_replicate]
   refine Zn (ι := {x : Nat × Bool × List Int // x.1 ≤ tb.length ∧ x.2.2.length = 496 ∧ feedScan t tb false (Z6w t) = feedScan t (tb.drop x.1) x.2.1 x.2.2}) (fun x => ⟨[(1, .slice a tb.length c), (2, .pointer (some ⟨b2, 0, none⟩)), (6, .pointer (some ⟨b6, 0, none⟩)), (9, .bool x.1.2.1), (45, .slice a tb.length c), (46, .int .i64 tb.length), (47, .int .i64 x.1.1)], (bd0, .deferred (some [])) :: (b6, cel 50 [.pointer (some ⟨bw, 0, none⟩)]) :: (bw, cel 62 (rcs t (t.sl (some ⟨ba, oa, none⟩) ca) bt (x.1.2.2) (.slice none 0 0) m)) :: (m, Z1j true []) :: (b2, cel 27 (twl t (t.sl (some ⟨ba, oa, none⟩) ca))) :: H, RowsA (some ⟨b31, 0, none⟩) 11 [twl t (t.sl (some ⟨ba, oa, none⟩) ca)] :: RowsA (some ⟨bt, 0, none⟩) 11 [twl t (t.sl (some ⟨ba, oa, none⟩) ca)] :: R⟩) (fun x => tb.length - x.1.1) ⟨(0, false, Z6w t), by omega, hny, rfl⟩ ?_ (fun x => ?_)
   exact Z06 idH
   obtain ⟨⟨k, tw, y⟩, hk, hyl, hsc⟩ := x
   dsimp only at hk hyl hsc ⊢
   refine sqt 1 rfl (pur 1 rfl (Z0 ?_))
   refine Z5 rfl ?_ ?_ <;> intro hc2
   simp only [cS] at hc2
   obtain ⟨x, hx⟩ : ∃ x, tb[k]? = some x := ⟨_, List.getElem?_eq_getElem (by omega)⟩
   rw [Z40 hx] at hsc
   refine Zw (a := a) (sz := 5) (rows := Zt tb) (by intro h0; simp [Zt] at h0; simp [h0] at hx) (fun bx ox he => ?_)
   subst he
   refine Z3 (Z0 (Z7 (sqt 4 rfl (sp rfl (PE.indexAddr Zbq rfl rfl (by omega) (by omega)) rfl (spL rfl rfl (lfA Ze3 (row := Z5S x) (by simp [Zt, hx]) rfl) rfl (alc rfl Z48 rfl (fun b11 => ?_)))))))
   refine sto rfl rfl rfl Zfi rfl rfl rfl rfl ?_
   refine sqt 4 rfl (sp rfl (PE.fA Z7y rfl) rfl (spL rfl rfl (lhA [_, _, _] ZF rfl rfl rfl) rfl (alc rfl Z2M rfl (fun b12 => ?_))))
   refine sto rfl rfl rfl Z2O rfl rfl rfl rfl ?_
   refine Z7 (sqt 11 rfl (spL rfl rfl (lhA [_, _, _, _, _, _, _, _, _, _, _] Zd rfl rfl rfl) rfl (spL rfl rfl (lhA [_, _, _] ZF rfl rfl rfl) rfl ?_)))
   refine clV rfl ZaF rfl rfl (Z5F t x.st _ _ _) ?_
   refine pur 2 rfl ?_
   refine ZE 81 rfl ?_ ?_ <;> intro g81
   have hr : x.st.right t = false := by rw [← Bool.not_eq_true']; exact g81
   have hres : ZJ t tb = (0, 3) := Z0g hck hlen (by rw [hsc]; unfold feedScan; rw [hr]; rfl)
   refine pur 6 rfl ?_
   refine Zm rfl ?_
   refine sqt 2 rfl (pur 2 rfl (Z4 ?_))
   first
     | exact Zr [] (vs := [_, _]) (v := .tuple #[.int .i64 (ZJ t tb).1, .int .i64 (ZJ t tb).2]) idH rfl (.cons (RV.tmp rfl) (.cons (RV.tmp rfl) .nil)) (by rw [hres]; rfl) ⟨rfl, rfl, rfl⟩ drp
     | exact Zr [bd0] (vs := [_, _]) (v := .tuple #[.int .i64 (ZJ t tb).1, .int .i64 (ZJ t tb).2]) (fun _ h => h.pull bd0) rfl (.cons (RV.tmp rfl) (.cons (RV.tmp rfl) .nil)) (by rw [hres]; rfl) ⟨rfl, rfl, rfl⟩ drp
   have hr : x.st.right t = true := by rw [← Bool.not_eq_false']; exact g81
   have hix := Z2A ht hr
   have q1 := right_iff.1 hr
   refine spG rfl rfl rfl rfl (PE.fA Z4Y rfl) rfl ?_
   refine Z03 rfl rfl rfl rfl rfl (lh sc3 rfl rfl) rfl ?_
   refine Z0k rfl rfl rfl rfl Z2a rfl rfl (Z68 _ _ _ _ _) ?_
   refine pur 3 rfl ?_
   refine Z5 rfl ?_ ?_ <;> intro hc3
   have hib : inb x.lasts 0 1000000 = false := by rw [← Bool.not_eq_true']; exact hc3
   have hres : ZJ t tb = (0, 3) := Z0g hck hlen (by rw [hsc]; unfold feedScan; rw [hr, hib]; rfl)
   refine sqt 2 rfl (pur 2 rfl (Z4 ?_))
   first
     | exact Zr [] (vs := [_, _]) (v := .tuple #[.int .i64 (ZJ t tb).1, .int .i64 (ZJ t tb).2]) idH rfl (.cons (RV.tmp rfl) (.cons (RV.tmp rfl) .nil)) (by rw [hres]; rfl) ⟨rfl, rfl, rfl⟩ drp
     | exact Zr [bd0] (vs := [_, _]) (v := .tuple #[.int .i64 (ZJ t tb).1, .int .i64 (ZJ t tb).2]) (fun _ h => h.pull bd0) rfl (.cons (RV.tmp rfl) (.cons (RV.tmp rfl) .nil)) (by rw [hres]; rfl) ⟨rfl, rfl, rfl⟩ drp
   have hib : inb x.lasts 0 1000000 = true := by rw [← Bool.not_eq_false']; exact hc3
   refine sqt 6 rfl (spL rfl rfl (lhA [_, _, _, _, _, _, _, _, _, _, _] Zd rfl rfl rfl) rfl (sp rfl (PE.fA Z6x rfl) rfl (spL rfl rfl (lh sc3 rfl rfl) rfl ?_)))
   refine clV rfl Zdc rfl rfl (Z7u t x.ration _ _ hl _ _) ?_
   refine pur 2 rfl ?_
   refine Z5 rfl ?_ ?_ <;> intro hc4
   have hnr := Z7C (t := t) (r := x.ration) (by rw [← Bool.not_eq_true']; exact hc4)
   have hres : ZJ t tb = (0, 1) := Z0g hck hlen (by rw [hsc]; unfold feedScan; rw [hr, hib, hnr]; rfl)
   refine sqt 2 rfl (pur 2 rfl (Z4 ?_))
   first
     | exact Zr [] (vs := [_, _]) (v := .tuple #[.int .i64 (ZJ t tb).1, .int .i64 (ZJ t tb).2]) idH rfl (.cons (RV.tmp rfl) (.cons (RV.tmp rfl) .nil)) (by rw [hres]; rfl) ⟨rfl, rfl, rfl⟩ drp
     | exact Zr [bd0] (vs := [_, _]) (v := .tuple #[.int .i64 (ZJ t tb).1, .int .i64 (ZJ t tb).2]) (fun _ h => h.pull bd0) rfl (.cons (RV.tmp rfl) (.cons (RV.tmp rfl) .nil)) (by rw [hres]; rfl) ⟨rfl, rfl, rfl⟩ drp
   obtain ⟨hr0, q, hq⟩ := ZbL (t := t) (r := x.ration) (by rw [← Bool.not_eq_false']; exact hc4)
   have hrq := Z82 hr0 hq
   refine sqt 7 rfl (spL rfl rfl (lhA [_, _, _, _, _, _, _, _, _, _, _] Zd rfl rfl rfl) rfl (spL rfl rfl (lhA [_, _, _] ZF rfl rfl rfl) rfl (sp rfl (PE.fA Z6x rfl) rfl (spL rfl rfl (lh sc3 rfl rfl) rfl ?_))))
   refine clV rfl Z8m rfl rfl (Z1L t x.st x.ration q ba oa ca hr0 hq _ _) ?_
   refine pur 2 rfl ?_
   refine Z5 rfl ?_ ?_ <;> intro hc5
   have hcan : t.can x.st q = false := by rw [← Bool.not_eq_true']; exact hc5
   have hres : ZJ t tb = (0, 9) := Z0g hck hlen (by rw [hsc]; unfold feedScan; rw [hr, hib, hrq]; simp [hcan])
   refine sqt 2 rfl (pur 2 rfl (Z4 ?_))
   first
     | exact Zr [] (vs := [_, _]) (v := .tuple #[.int .i64 (ZJ t tb).1, .int .i64 (ZJ t tb).2]) idH rfl (.cons (RV.tmp rfl) (.cons (RV.tmp rfl) .nil)) (by rw [hres]; rfl) ⟨rfl, rfl, rfl⟩ drp
     | exact Zr [bd0] (vs := [_, _]) (v := .tuple #[.int .i64 (ZJ t tb).1, .int .i64 (ZJ t tb).2]) (fun _ h => h.pull bd0) rfl (.cons (RV.tmp rfl) (.cons (RV.tmp rfl) .nil)) (by rw [hres]; rfl) ⟨rfl, rfl, rfl⟩ drp
   have hcan : t.can x.st q = true := by rw [← Bool.not_eq_false']; exact hc5
   refine Z0 ?_
   refine Ze [0, 1, 3, 7, 15, 3, 63, 127, 255, 511] (.tk 0 (.tk 1 (.ld 2 (.tk 3 (.tk 4 (.ld 5 (.big 6 (tks 7 3 .done)))))))) Zy (by kernel_rfl) ?_
   refine ZD 2 rfl ?_
   refine ZE 54 rfl ?_ ?_ <;> intro g54
   subst g54
   have hst : feedScan t tb false (Z6w t) = feedScan t (tb.drop (k + 1)) true (y.set x.st.ix x.lasts) := by rw [hsc, feedScan, hr, hib, hrq]; simp [hcan]
   refine ldN rfl rfl rfl rfl rfl rfl rfl rfl ?_
   refine ZD 2 rfl ?_
   refine ldN rfl rfl rfl rfl rfl rfl rfl rfl ?_
   refine spN rfl rfl rfl rfl rfl rfl rfl rfl ?_
   refine bgT (ZD 3 rfl ?_)
   refine Ze [0, 0, 2, 0, 8, 0, 32, 0, 128, 1, 513, 1543, 3615, 8191, 16383] (.ld 0 (.tk 1 (.ld 2 (.tk 3 (.ld 4 (.tk 5 (.ld 6 (.tk 7 (.ld 8 (tks 9 5 (.big 14 .done))))))))))) Zy (by kernel_rfl) ?_
   refine ld rfl rfl (lh Z3j rfl rfl) rfl (tk rfl (PE.fA Z1B rfl) rfl (ld rfl rfl (lh sc3 rfl rfl) rfl (tk rfl (PE.fA Z1h rfl) rfl (ld rfl rfl (lh sc3 rfl rfl) rfl (tk rfl (PE.fA Z1I rfl) rfl (ld rfl rfl (lh sc3 rfl rfl) rfl (tk rfl (PE.fA Z4Y rfl) rfl (ld rfl rfl (lh sc3 rfl rfl) rfl (tk rfl (PE.nilCheck rfl) rfl (tk rfl (PE.fA Z0G rfl) rfl (tk rfl (PE.indexArr Zcx rfl rfl (by omega) (by omega)) rfl (tk rfl (PE.indexArr ZcR rfl rfl (by omega) (by omega)) rfl (tk rfl (PE.indexArr ZcS rfl rfl (by omega) (by omega)) rfl ?_)))))))))))))
   refine Z2R rfl rfl rfl cn3 rfl rfl rfl (Z6d x.lasts (i := x.st.ix) (by omega) (by unfold Sta.ix; omega)) (by rw [Z4l hyl]; show _ + 1 ≤ 510; omega) ?_
   refine bgT (sqr 2 rfl (sp rfl (PE.add rfl rfl (by omega)) rfl (pur 1 rfl ?_)))
   exact Z0l ⟨(k + 1, _, y.set x.st.ix x.lasts), by omega, by simpa using hyl, hst⟩ drp
   subst g54
   have hst : feedScan t tb false (Z6w t) = feedScan t (tb.drop (k + 1)) (decide (lat y x.st ≠ -1)) (y.set x.st.ix x.lasts) := by rw [hsc, feedScan, hr, hib, hrq]; simp [hcan]
   refine ldG rfl rfl rfl rfl rfl (lh Z3j rfl rfl) rfl ?_
   refine tkG rfl rfl rfl rfl (PE.nilCheck rfl) rfl ?_
   refine tkG rfl rfl rfl rfl (PE.fA Z0G rfl) rfl ?_
   refine ldG rfl rfl rfl rfl rfl (lhA [_, _, _] ZF rfl rfl rfl) rfl ?_
   refine Z0k rfl rfl rfl rfl Z3t rfl rfl (Z8C t ht x.st hr ba oa ca bt bw m y (.slice none 0 0) hyl _ _) ?_
   refine bgT (ZD 3 rfl ?_)
   refine Ze [0, 0, 2, 0, 8, 0, 32, 0, 128, 1, 513, 1543, 3615, 8191, 16383] (.ld 0 (.tk 1 (.ld 2 (.tk 3 (.ld 4 (.tk 5 (.ld 6 (.tk 7 (.ld 8 (tks 9 5 (.big 14 .done))))))))))) Zy (by kernel_rfl) ?_
   refine ld rfl rfl (lh Z3j rfl rfl) rfl (tk rfl (PE.fA Z1B rfl) rfl (ld rfl rfl (lh sc3 rfl rfl) rfl (tk rfl (PE.fA Z1h rfl) rfl (ld rfl rfl (lh sc3 rfl rfl) rfl (tk rfl (PE.fA Z1I rfl) rfl (ld rfl rfl (lh sc3 rfl rfl) rfl (tk rfl (PE.fA Z4Y rfl) rfl (ld rfl rfl (lh sc3 rfl rfl) rfl (tk rfl (PE.nilCheck rfl) rfl (tk rfl (PE.fA Z0G rfl) rfl (tk rfl (PE.indexArr Zcx rfl rfl (by omega) (by omega)) rfl (tk rfl (PE.indexArr ZcR rfl rfl (by omega) (by omega)) rfl (tk rfl (PE.indexArr ZcS rfl rfl (by omega) (by omega)) rfl ?_)))))))))))))
   refine Z2R rfl rfl rfl cn3 rfl rfl rfl (Z6d x.lasts (i := x.st.ix) (by omega) (by unfold Sta.ix; omega)) (by rw [Z4l hyl]; show _ + 1 ≤ 510; omega) ?_
   refine bgT (sqr 2 rfl (sp rfl (PE.add rfl rfl (by omega)) rfl (pur 1 rfl ?_)))
   exact Z0l ⟨(k + 1, _, y.set x.st.ix x.lasts), by omega, by simpa using hyl, hst⟩ drp
   simp only [cS] at hc2
   obtain rfl : k = tb.length := by omega
   rw [List.drop_length] at hsc
   have hsc2 : feedScan t tb false (Z6w t) = .ok (tw, y) := hsc
   have hok := Z2F tb _ _ _ hsc2
   refine Zk (Zl (Zl (ZH (Z0 (sqt 1 rfl (pur 1 rfl ?_))))))
   refine Z5 rfl ?_ ?_ <;> intro hc6
   subst hc6
   have hres : ZJ t tb = (0, 5) := Z2v hck hlen hsc2
   refine sqt 2 rfl (pur 2 rfl (Z4 ?_))
   first
     | exact Zr [] (vs := [_, _]) (v := .tuple #[.int .i64 (ZJ t tb).1, .int .i64 (ZJ t tb).2]) idH rfl (.cons (RV.tmp rfl) (.cons (RV.tmp rfl) .nil)) (by rw [hres]; rfl) ⟨rfl, rfl, rfl⟩ drp
     | exact Zr [bd0] (vs := [_, _]) (v := .tuple #[.int .i64 (ZJ t tb).1, .int .i64 (ZJ t tb).2]) (fun _ h => h.pull bd0) rfl (.cons (RV.tmp rfl) (.cons (RV.tmp rfl) .nil)) (by rw [hres]; rfl) ⟨rfl, rfl, rfl⟩ drp
   subst hc6
   refine Z3 (sqt 1 rfl (pur 1 rfl (Z0 (Zb3 (Z0 (sqt 3 rfl (pur 1 rfl (sp rfl (PE.lenSl Z3R rfl) rfl (pur 1 rfl (Z7 ?_))))))))))
   refine Zn (ι := {k : Nat // k ≤ tb.length ∧ ∀ i x, i < k → tb[i]? = some x → Z0j t y x = true}) (fun k => ⟨[(2, .pointer (some ⟨b2, 0, none⟩)), (6, .pointer (some ⟨b6, 0, none⟩)), (13, .bool true), (102, .slice a tb.length c), (103, .int .i64 tb.length), (104, .int .i64 k.1)], (bd0, .deferred (some [])) :: (b6, cel 50 [.pointer (some ⟨bw, 0, none⟩)]) :: (bw, cel 62 (rcs t (t.sl (some ⟨ba, oa, none⟩) ca) bt (y) (.slice none 0 0) m)) :: (m, Z1j true []) :: (b2, cel 27 (twl t (t.sl (some ⟨ba, oa, none⟩) ca))) :: H, RowsA (some ⟨b31, 0, none⟩) 11 [twl t (t.sl (some ⟨ba, oa, none⟩) ca)] :: RowsA (some ⟨bt, 0, none⟩) 11 [twl t (t.sl (some ⟨ba, oa, none⟩) ca)] :: R⟩) (fun k => tb.length - k.1) ⟨0, by omega, by omega⟩ ?_ (fun k => ?_)
   exact Z06 idH
   obtain ⟨k, hk, hkp⟩ := k
   dsimp only at hk hkp ⊢
   refine sqt 1 rfl (pur 1 rfl (Z0 ?_))
   refine Z5 rfl ?_ ?_ <;> intro hc7
   simp only [cS] at hc7
   obtain ⟨x, hx⟩ : ∃ x, tb[k]? = some x := ⟨_, List.getElem?_eq_getElem (by omega)⟩
   obtain ⟨hr, hib, q, hrq, hcan⟩ := hok x (List.mem_of_getElem? hx)
   obtain ⟨hr0, hq⟩ := rat_iff.1 hrq
   have htk : Z0j t y x = t.keeps y x.st q x.lasts := by unfold Z0j; rw [hrq]
   refine Zw (a := a) (sz := 5) (rows := Zt tb) (by intro h0; simp [Zt] at h0; simp [h0] at hx) (fun bx ox he => ?_)
   subst he
   refine Z3 (Z0 (Z7 (sqt 4 rfl (sp rfl (PE.indexAddr Zbq rfl rfl (by omega) (by omega)) rfl (spL rfl rfl (lfA Ze3 (row := Z5S x) (by simp [Zt, hx]) rfl) rfl (alc rfl Z48 rfl (fun b15 => ?_)))))))
   refine sto rfl rfl rfl Zfi rfl rfl rfl rfl ?_
   refine sqt 9 rfl (spL rfl rfl (lh Z3j rfl rfl) rfl (sp rfl (PE.fA Z7y rfl) rfl (spL rfl rfl (lhA [_, _, _] ZF rfl rfl rfl) rfl (sp rfl (PE.fA Z6x rfl) rfl (spL rfl rfl (lh sc3 rfl rfl) rfl (sp rfl (PE.fA Z4Y rfl) rfl (spL rfl rfl (lh sc3 rfl rfl) rfl ?_)))))))
   refine clV rfl Zbf rfl rfl (Z5E t ht x.st hr x.ration q hr0 hq x.lasts hib ba oa ca bt bw m y (.slice none 0 0) hyl _ _) ?_
   refine pur 1 rfl (sqt 2 rfl (pur 2 rfl ?_))
   refine Z5 rfl ?_ ?_ <;> intro hc8
   have hkf : Z0j t y x = false := by rw [htk, ← Bool.not_eq_true']; exact hc8
   have hall : tb.all (Z0j t y) = false := by rw [List.all_eq_false]; exact ⟨x, List.mem_of_getElem? hx, by simp [hkf]⟩
   have hres : ZJ t tb = (0, 8) := by rw [Z2v hck hlen hsc2]; unfold Z2d; rw [hall]; rfl
   refine Zk (ZbJ (by decide) (Zl (Zl (ZH (Z0 ?_)))))
   refine Ze [0, 1, 3, 0, 8, 31, 63] (.ld 0 (tks 1 3 (.ld 4 (.big 5 (.tk 6 .done))))) Zy (by kernel_rfl) ?_
   refine ld rfl rfl (lh Z3j rfl rfl) rfl (tk rfl (PE.nilCheck rfl) rfl (tk rfl (PE.fA Z0G rfl) rfl (tk rfl (PE.fA Z0a rfl) rfl (ld rfl rfl (lhA [_, _, _] ZF rfl rfl rfl) rfl ?_))))
   refine clV rfl Z3t rfl rfl (Z8C t ht t.now ht.now ba oa ca bt bw m y (.slice none 0 0) hyl _ _) ?_
   refine bgT (ZD 1 rfl (Z7 (sqt 3 rfl (pur 3 rfl ?_))))
   refine Zm (congrArg (fun b => some (Value.bool b)) hc8) ?_
   refine sqt 2 rfl (pur 2 rfl (Z4 ?_))
   first
     | exact Zr [] (vs := [_, _]) (v := .tuple #[.int .i64 (ZJ t tb).1, .int .i64 (ZJ t tb).2]) idH rfl (.cons (RV.tmp rfl) (.cons (RV.tmp rfl) .nil)) (by rw [hres]; rfl) ⟨rfl, rfl, rfl⟩ drp
     | exact Zr [bd0] (vs := [_, _]) (v := .tuple #[.int .i64 (ZJ t tb).1, .int .i64 (ZJ t tb).2]) (fun _ h => h.pull bd0) rfl (.cons (RV.tmp rfl) (.cons (RV.tmp rfl) .nil)) (by rw [hres]; rfl) ⟨rfl, rfl, rfl⟩ drp
   have hkt : Z0j t y x = true := by rw [htk, ← Bool.not_eq_false']; exact hc8
   refine Z3 (sqr 2 rfl (sp rfl (PE.add rfl rfl (by omega)) rfl (pur 1 rfl ?_)))
   exact Zb ⟨k + 1, by omega, fun i z hi hz => by
     rcases Nat.lt_or_ge i k with h1 | h1
     · exact hkp i z h1 hz
     · obtain rfl : i = k := by omega
       rw [hx] at hz; cases hz; exact hkt⟩ (by dsimp only; omega) (by rw [← htk, hkt]; exact (by repeat' first | exact Sub.nil | apply Sub.cons | rfl | (simp [lk]; omega))) drp
   simp only [cS] at hc7
   obtain rfl : k = tb.length := by omega
   have hall : tb.all (Z0j t y) = true := List.all_eq_true.2 fun x hx => by
     obtain ⟨i, hi⟩ := List.getElem?_of_mem hx
     exact hkp i x (List.getElem?_eq_some_iff.1 hi).1 hi
   have hfe : Z2d t tb false y = bif decide (lat y t.now = -1) then (0, 6) else (lat y t.now, 0) := by unfold Z2d; rw [hall]; rfl
   refine Zk (Zl (Zl (ZH (Z0 ?_))))
   refine Ze [0, 1, 3, 0, 8, 31, 63] (.ld 0 (tks 1 3 (.ld 4 (.big 5 (.tk 6 .done))))) Zy (by kernel_rfl) ?_
   refine ld rfl rfl (lh Z3j rfl rfl) rfl (tk rfl (PE.nilCheck rfl) rfl (tk rfl (PE.fA Z0G rfl) rfl (tk rfl (PE.fA Z0a rfl) rfl (ld rfl rfl (lhA [_, _, _] ZF rfl rfl rfl) rfl ?_))))
   refine clV rfl Z3t rfl rfl (Z8C t ht t.now ht.now ba oa ca bt bw m y (.slice none 0 0) hyl _ _) ?_
   refine bgT (ZD 1 rfl (Z7 (sqt 3 rfl (pur 3 rfl ?_))))
   refine Zz (rfl) ?_
   refine sqt 3 rfl (pur 3 rfl ?_)
   refine Z5 rfl ?_ ?_ <;> intro hc10
   have hres : ZJ t tb = (0, 6) := by rw [Z2v hck hlen hsc2, hfe, hc10]; rfl
   refine sqt 2 rfl (pur 2 rfl (Z4 ?_))
   first
     | exact Zr [] (vs := [_, _]) (v := .tuple #[.int .i64 (ZJ t tb).1, .int .i64 (ZJ t tb).2]) idH rfl (.cons (RV.tmp rfl) (.cons (RV.tmp rfl) .nil)) (by rw [hres]; rfl) ⟨rfl, rfl, rfl⟩ drp
     | exact Zr [bd0] (vs := [_, _]) (v := .tuple #[.int .i64 (ZJ t tb).1, .int .i64 (ZJ t tb).2]) (fun _ h => h.pull bd0) rfl (.cons (RV.tmp rfl) (.cons (RV.tmp rfl) .nil)) (by rw [hres]; rfl) ⟨rfl, rfl, rfl⟩ drp
   have hres : ZJ t tb = (lat y t.now, 0) := by rw [Z2v hck hlen hsc2, hfe, hc10]; rfl
   refine sqt 3 rfl (pur 3 rfl (Z4 ?_))
   first
     | exact Zr [] (vs := [_, _]) (v := .tuple #[.int .i64 (ZJ t tb).1, .int .i64 (ZJ t tb).2]) idH rfl (.cons (RV.tmp rfl) (.cons (RV.tmp rfl) .nil)) (by rw [hres]; rfl) ⟨rfl, rfl, rfl⟩ drp
     | exact Zr [bd0] (vs := [_, _]) (v := .tuple #[.int .i64 (ZJ t tb).1, .int .i64 (ZJ t tb).2]) (fun _ h => h.pull bd0) rfl (.cons (RV.tmp rfl) (.cons (RV.tmp rfl) .nil)) (by rw [hres]; rfl) ⟨rfl, rfl, rfl⟩ drp
end Go.Proofs.YthhdgeibokecjaaGreat.Bd
namespace Go.Proofs.YthhdgeibokecjaaGreat.Bd
set_option linter.unusedSimpArgs false
set_option linter.unusedVariables false
def Clo (t : Twn) (n : Nat) (B X : Sta → Prop) : Prop :=
  ∀ u, X u → u.right t = true ∧ ∃ q ∈ t.rats, t.can u q = true ∧ X (t.next u q false) ∧ (n = 0 ∨ ¬ u.dry < t.run ∨ B (t.next u q true))
def Srv (t : Twn) : Nat → Sta → Prop
  | 0 => fun s => ∃ X, Clo t 0 (fun _ => True) X ∧ X s
  | n + 1 => fun s => ∃ X, Clo t (n + 1) (Srv t n) X ∧ X s
def Bf (t : Twn) : Nat → Sta → Prop
  | 0 => fun _ => True
  | n + 1 => Srv t n
theorem srv_iff {t : Twn} {n : Nat} {s : Sta} : Srv t n s ↔ ∃ X, Clo t n (Bf t n) X ∧ X s := by cases n <;> rfl
theorem Z1E {t : Twn} {n : Nat} {X : Sta → Prop} (h : Clo t n (Bf t n) X) {s : Sta} (hs : X s) : Srv t n s := srv_iff.2 ⟨X, h, hs⟩
theorem Z1W (t : Twn) (n : Nat) : Clo t n (Bf t n) (Srv t n) := fun u hu => by
  obtain ⟨X, hX, hu⟩ := srv_iff.1 hu
  obtain ⟨h1, q, hq, hc, hg, hb⟩ := hX u hu
  exact ⟨h1, q, hq, hc, Z1E hX hg, hb⟩
theorem Z0y {t : Twn} {n : Nat} {s : Sta} (h : Srv t n s) : s.right t = true := (Z1W t n s h).1
theorem Z5C {t : Twn} : ∀ {n : Nat} {s : Sta}, Srv t (n + 1) s → Srv t n s
  | 0, s, h => Z1E (X := Srv t 1) (fun u hu => by
      obtain ⟨h1, q, hq, hc, hg, _⟩ := Z1W t 1 u hu
      exact ⟨h1, q, hq, hc, hg, .inl rfl⟩) h
  | n + 1, s, h => Z1E (X := Srv t (n + 2)) (fun u hu => by
      obtain ⟨h1, q, hq, hc, hg, hb⟩ := Z1W t (n + 2) u hu
      refine ⟨h1, q, hq, hc, hg, ?_⟩
      rcases hb with hb | hb | hb
      · omega
      · exact .inr (.inl hb)
      · exact .inr (.inr (Z5C (n := n) hb))) h
theorem Z4o {t : Twn} {s : Sta} {m : Nat} : ∀ {n : Nat}, m ≤ n → Srv t n s → Srv t m s
  | 0, h, hs => by obtain rfl : m = 0 := by omega
                   exact hs
  | n + 1, h, hs => by
    rcases Nat.lt_or_ge m (n + 1) with h1 | h1
    · exact Z4o (n := n) (by omega) (Z5C hs)
    · obtain rfl : m = n + 1 := by omega
      exact hs
def Pn (t : Twn) (n : Nat) (s : Sta) (v : Int) : Prop := (v = 1000000 ∧ ∀ j < n, Srv t j s) ∨ ∃ k : Nat, k < n ∧ v = k - 1 ∧ ¬ Srv t k s ∧ ∀ j < k, Srv t j s
def Mid (t : Twn) (n : Nat) (s : Sta) (v : Int) : Prop := (v = 1000000 ∧ ∀ j < n, Srv t j s) ∨ ∃ k : Nat, k < n + 1 ∧ v = k - 1 ∧ ¬ Srv t k s ∧ ∀ j < k, Srv t j s
theorem Zbb {t : Twn} (ht : t.ok) {n : Nat} (hn : n ≤ 496) {y : List Int} (hm : ∀ s ∈ sts t, Mid t n s (lat y s)) {s : Sta} (hs : Srv t n s) : (t.rats.any fun q => t.keeps y s q n) = true := by
  obtain ⟨h1, q, hq, hc, hg, hb⟩ := Z1W t n s hs
  refine List.any_eq_true.2 ⟨q, hq, ?_⟩
  unfold Twn.keeps
  have hg1 : (n : Int) ≤ lat y (t.next s q false) := by
    rcases hm _ (ZW (Z0y hg)) with ⟨h, _⟩ | ⟨k, hk, h, hno, _⟩
    · omega
    · exact absurd (Z4o (by omega) hg) hno
  have hne : ¬ (n : Int) = 1000000 := by omega
  simp only [hc, hg1, decide_true, Bool.true_and, hne, decide_false, cond_false]
  rcases hb with hb | hb | hb
  · simp [hb]
  · simp [hb]
  · cases n with
    | zero => simp
    | succ m =>
      have hb' : Srv t m (t.next s q true) := hb
      have : ((m + 1 : Nat) : Int) - 1 ≤ lat y (t.next s q true) := by
        rcases hm _ (ZW (Z0y hb')) with ⟨h, _⟩ | ⟨k, hk, h, hno, _⟩
        · omega
        · rcases Nat.lt_or_ge m k with h2 | h2
          · omega
          · exact absurd (Z4o h2 hb') hno
      have h9 : (m : Int) ≤ lat y (t.next s q true) := by omega
      simp [h9]
theorem Zay {t : Twn} (ht : t.ok) {n : Nat} (hn : n ≤ 496) {σ : Sv} (hy : σ.y.length = 496) (hm : ∀ s ∈ sts t, Mid t n s (lat σ.y s)) {u : Sta} (hu : u ∈ sts t) : ∀ s ∈ sts t, Mid t n s (lat (σ.step t n u).y s) := by
  intro s hs
  unfold Sv.step
  cases hc : Z3b σ.y u && !(t.rats.any fun q => t.keeps σ.y u q n) with
  | false => exact hm s hs
  | true =>
    simp only [Bool.and_eq_true, Bool.not_eq_true'] at hc
    simp only [cond_true]
    by_cases he : u.ix = s.ix
    · have := Z2n ht (Zv ht hu) (Zv ht hs) he
      subst this
      rw [ZX (by rw [hy]; exact Z2A ht (Zv ht hs))]
      refine .inr ⟨n, by omega, rfl, fun h => ?_, ?_⟩
      · rw [Zbb ht hn hm h] at hc; cases hc.2
      · have h1 : lat σ.y u = 1000000 := by simpa [Z3b] using hc.1
        rcases hm u hs with ⟨_, h⟩ | ⟨k, hk, h, _⟩
        · exact h
        · omega
    · rw [Z0h he]; exact hm s hs
theorem Z7w {t : Twn} (ht : t.ok) {n : Nat} (hn : n ≤ 496) : ∀ (l : List Sta) (σ : Sv), σ.y.length = 496 → (∀ s ∈ l, s ∈ sts t) → (∀ s ∈ sts t, Mid t n s (lat σ.y s)) → ∀ s ∈ sts t, Mid t n s (lat (l.foldl (Sv.step t n) σ).y s)
  | [], _, _, _, h => h
  | u :: l, σ, hy, hl, h => Z7w ht hn l _ (by rw [Z31]; exact hy) (fun s hs => hl s (by simp [hs])) (Zay ht hn hy h (hl u (by simp)))
theorem Z56 {t : Twn} (ht : t.ok) {n : Nat} (hn : n ≤ 496) : ∀ (j : Nat) (σ : Sv), σ.y.length = 496 → (∀ s ∈ sts t, Mid t n s (lat σ.y s)) → ∀ s ∈ sts t, Mid t n s (lat (passes t n j σ).y s)
  | 0, _, _, h => h
  | j + 1, σ, hy, h => Z7w ht hn (sts t) _ (by rw [Z0S]; exact hy) (fun _ h => h) (Z56 ht hn j σ hy h)
theorem Z7t {t : Twn} (ht : t.ok) {n : Int} (hn : n ≤ 1000000) : ∀ (l : List Sta) (σ : Sv), σ.y.length = 496 → (∀ s ∈ l, s ∈ sts t) → l.foldl (Sv.step t n) σ = σ → ∀ s ∈ l, σ.step t n s = σ
  | [], _, _, _, _, _, h => by cases h
  | u :: l, σ, hy, hl, h, s, hs => by
    rw [List.foldl_cons] at h
    have hu : σ.step t n u = σ := by
      rcases Z7Z ht hn hy (hl u (by simp)) with h1 | ⟨h1, _⟩
      · exact h1
      · obtain ⟨h2, _⟩ := Z44 ht hn l (σ.step t n u) (by rw [Z31]; exact hy) (fun s hs => hl s (by simp [hs]))
        rw [h] at h2
        rcases h2 with h2 | h2
        · rw [← h2] at h1; omega
        · omega
    rw [hu] at h
    rcases List.mem_cons.1 hs with rfl | hs
    · exact hu
    · exact Z7t ht hn l σ hy (fun s hs => hl s (by simp [hs])) h s hs
theorem Z9H {t : Twn} (ht : t.ok) {n : Int} (hn : n ≤ 1000000) {σ : Sv} (hy : σ.y.length = 496) (h : pass t n σ = σ) {s : Sta} (hs : s ∈ sts t) (he : lat σ.y s = 1000000) : ∃ q ∈ t.rats, t.keeps σ.y s q n = true := by
  have h1 := Z7t ht hn (sts t) σ hy (fun _ h => h) h s hs
  cases hc : t.rats.any fun q => t.keeps σ.y s q n with
  | true => exact List.any_eq_true.1 hc
  | false =>
    exfalso
    unfold Sv.step at h1
    have he' : Z3b σ.y s = true := by simp [Z3b, he]
    rw [he', hc] at h1
    have h2 := congrArg (fun σ => σ.fl.length) h1
    simp at h2
theorem Z8T {t : Twn} (ht : t.ok) {n : Nat} (hn : n ≤ 496) {σ : Sv} (hy : σ.y.length = 496) (hm : ∀ s ∈ sts t, Mid t n s (lat σ.y s)) (hf : pass t n σ = σ) : ∀ s ∈ sts t, Pn t (n + 1) s (lat σ.y s) := by
  intro s hs
  rcases hm s hs with ⟨h1, h2⟩ | h
  · refine .inl ⟨h1, fun j hj => ?_⟩
    rcases Nat.lt_or_ge j n with h3 | h3
    · exact h2 j h3
    obtain rfl : j = n := by omega
    refine Z1E (X := fun s => s ∈ sts t ∧ lat σ.y s = 1000000) (fun u ⟨hu, hue⟩ => ?_) ⟨hs, h1⟩
    obtain ⟨q, hq, hk⟩ := Z9H ht (by omega) hy hf hu hue
    have hur := Zv ht hu
    unfold Twn.keeps at hk
    simp only [Bool.and_eq_true, Bool.or_eq_true, decide_eq_true_eq, Bool.not_eq_true', decide_eq_false_iff_not] at hk
    obtain ⟨⟨hc, hg⟩, hb⟩ := hk
    have hgr := ZW (ZB (bad := false) ht hur hq hc (by simp))
    refine ⟨hur, q, hq, hc, ⟨hgr, ?_⟩, ?_⟩
    · rcases hm _ hgr with ⟨h, _⟩ | ⟨k, hk, h, _⟩
      · exact h
      · omega
    · by_cases hd : u.dry < t.run
      · cases j with
        | zero => exact .inl rfl
        | succ m =>
          right; right
          show Srv t m _
          have hbr := ZW (ZB (bad := true) ht hur hq hc (fun _ => hd))
          have hb2 : (m : Int) ≤ lat σ.y (t.next u q true) := by
            rcases hb with (hb | hb) | hb
            · omega
            · exact absurd hd hb
            · rw [show decide (((m + 1 : Nat) : Int) = 1000000) = false from by simp; omega, cond_false] at hb
              omega
          rcases hm _ hbr with ⟨_, h⟩ | ⟨k, hk, h, _, h2⟩
          · exact h m (by omega)
          · exact h2 m (by omega)
      · exact .inr (.inl hd)
  · exact .inr h
theorem Zct {t : Twn} (ht : t.ok) {n : Nat} {σ : Sv} (h : Rd t n σ) : ∀ s ∈ sts t, Pn t n s (lat σ.y s) := by
  induction h with
  | zero => exact fun s hs => .inl ⟨Z3A ht hs, fun j hj => by omega⟩
  | next j h h1 h2 ih =>
    rename_i m σ
    obtain ⟨hy, hc, _⟩ := Z5q ht h
    refine Z8T ht (by omega) (by rw [Z0S]; exact hy) (Z56 ht (by omega) j σ hy (fun s hs => ?_)) h1
    rcases ih s hs with h | ⟨k, hk, h⟩
    · exact .inl h
    · exact .inr ⟨k, by omega, h⟩
def LS (t : Twn) (s : Sta) (v : Int) : Prop := (v = 1000000 ∧ ∀ n, Srv t n s) ∨ ∃ k : Nat, k ≤ 496 ∧ v = k - 1 ∧ ¬ Srv t k s ∧ ∀ j < k, Srv t j s
theorem LS.uniq {t : Twn} {s : Sta} {v v' : Int} (h : LS t s v) (h' : LS t s v') : v = v' := by
  rcases h with ⟨rfl, h⟩ | ⟨k, _, rfl, hn, hl⟩ <;> rcases h' with ⟨rfl, h'⟩ | ⟨k', _, rfl, hn', hl'⟩
  · rfl
  · exact absurd (h k') hn'
  · exact absurd (h' k) hn
  · rcases Nat.lt_trichotomy k k' with h | h | h
    · exact absurd (hl' k h) hn
    · rw [h]
    · exact absurd (hl k' h) hn'
theorem Z6m {t : Twn} (ht : t.ok) {σ : Sv} (h : Z3w t σ) {s : Sta} (hs : s.right t = true) : LS t s (lat σ.y s) := by
  obtain ⟨n, hr, hf⟩ := h
  obtain ⟨hy, hc, _⟩ := Z5q ht hr
  have hp := Zct ht hr
  have hp1 := Z8T ht (n := n) (by omega) hy (fun s hs => by
    rcases hp s hs with h | ⟨k, hk, h⟩
    · exact .inl h
    · exact .inr ⟨k, by omega, h⟩) hf
  have hX : ∀ m, ∀ u, (u ∈ sts t ∧ lat σ.y u = 1000000) → Srv t m u := by
    have hclo : ∀ m, (∀ u, (u ∈ sts t ∧ lat σ.y u = 1000000) → Bf t m u) → Clo t m (Bf t m) (fun u => u ∈ sts t ∧ lat σ.y u = 1000000) := by
      intro m hB u ⟨hu, hue⟩
      obtain ⟨q, hq, hk⟩ := Z9H ht (by omega) hy hf hu hue
      have hur := Zv ht hu
      unfold Twn.keeps at hk
      simp only [Bool.and_eq_true, Bool.or_eq_true, decide_eq_true_eq, Bool.not_eq_true', decide_eq_false_iff_not] at hk
      obtain ⟨⟨hc', hg⟩, hb⟩ := hk
      have hgr := ZW (ZB (bad := false) ht hur hq hc' (by simp))
      refine ⟨hur, q, hq, hc', ⟨hgr, ?_⟩, ?_⟩
      · rcases hp _ hgr with ⟨h, _⟩ | ⟨k, hk, h, _⟩
        · exact h
        · omega
      · by_cases hd : u.dry < t.run
        · right; right
          have hbr := ZW (ZB (bad := true) ht hur hq hc' (fun _ => hd))
          refine hB _ ⟨hbr, ?_⟩
          rcases hp _ hbr with ⟨h, _⟩ | ⟨k, hk, h, _⟩
          · exact h
          · exfalso
            rcases hb with (hb | hb) | hb
            · omega
            · exact hb hd
            · rw [show decide ((n : Int) = 1000000) = false from by simp; omega, cond_false] at hb
              omega
        · exact .inr (.inl hd)
    intro m
    induction m with
    | zero => exact fun u hu => Z1E (hclo 0 (fun _ _ => trivial)) hu
    | succ m ih => exact fun u hu => Z1E (hclo (m + 1) (fun u hu => ih u hu)) hu
  rcases hp s (ZW hs) with ⟨h, _⟩ | ⟨k, hk, h⟩
  · exact .inl ⟨h, fun m => hX m s ⟨ZW hs, h⟩⟩
  · exact .inr ⟨k, by omega, h⟩
def LSA (t : Twn) (y : List Int) : Prop := ∀ s, s.right t = true → LS t s (lat y s)
theorem ZdG {t : Twn} {y : List Int} (hl : LSA t y) {s : Sta} (hs : s.right t = true) {n : Nat} (hn : n ≤ 1000000) : (n : Int) ≤ lat y s ↔ Srv t n s := by
  rcases hl s hs with ⟨h, h2⟩ | ⟨k, hk, h, hno, h2⟩
  · exact ⟨fun _ => h2 n, fun _ => by omega⟩
  · constructor
    · intro h3; exact h2 n (by omega)
    · intro h3
      rcases Nat.lt_or_ge n k with h4 | h4
      · omega
      · exact absurd (Z4o h4 h3) hno
theorem Z2U {t : Twn} {y : List Int} (hl : LSA t y) {s : Sta} (hs : s.right t = true) : lat y s = 1000000 ∨ (-1 ≤ lat y s ∧ lat y s ≤ 495) := by
  rcases hl s hs with ⟨h, h2⟩ | ⟨k, hk, h, hno, h2⟩
  · exact .inl h
  · exact .inr (by omega)
theorem Z9E {t : Twn} {y : List Int} (hl : LSA t y) {s : Sta} (hs : s.right t = true) {n : Nat} (hn : 496 ≤ n) (h : Srv t n s) : lat y s = 1000000 := by
  rcases hl s hs with ⟨h1, _⟩ | ⟨k, hk, _, hno, _⟩
  · exact h1
  · exact absurd (Z4o (by omega) h) hno
theorem Zb4 {t : Twn} {y : List Int} (hl : LSA t y) {s : Sta} (hs : s.right t = true) (h0 : lat y s ≠ -1) : ∃ q ∈ t.rats, t.keeps y s q (lat y s) = true := by
  rcases hl s hs with ⟨h, h2⟩ | ⟨k, hk, h, hno, h2⟩
  · obtain ⟨_, q, hq, hc, hg, hb⟩ := Z1W t 497 s (h2 497)
    refine ⟨q, hq, ?_⟩
    have e1 := Z9E hl (Z0y hg) (by omega) hg
    unfold Twn.keeps
    rw [h, hc, e1]
    rcases hb with hb | hb | hb
    · omega
    · simp [hb]
    · have e2 := Z9E hl (Z0y hb) (n := 496) (by omega) hb
      rw [e2]; simp
  · obtain ⟨m, rfl⟩ : ∃ m, k = m + 1 := ⟨k - 1, by omega⟩
    obtain ⟨_, q, hq, hc, hg, hb⟩ := Z1W t m s (h2 m (by omega))
    refine ⟨q, hq, ?_⟩
    have e1 := (ZdG hl (Z0y hg) (n := m) (by omega)).2 hg
    unfold Twn.keeps
    rw [h, hc, show ((m + 1 : Nat) : Int) - 1 = m from by omega]
    have hne : ¬ (m : Int) = 1000000 := by omega
    simp only [e1, decide_true, Bool.true_and, hne, decide_false, cond_false]
    rcases hb with hb | hb | hb
    · simp [hb]
    · simp [hb]
    · cases m with
      | zero => simp
      | succ m =>
        have hb' : Srv t m (t.next s q true) := hb
        have e2 := (ZdG hl (Z0y hb') (n := m) (by omega)).2 hb'
        simp [e2]
theorem Z8Y {t : Twn} {i j : Nat} (h : Z6l t i = Z6l t j) : i = j := by
  unfold Z6l at h
  simp only [Sta.mk.injEq, Int.natCast_inj] at h
  obtain ⟨h1, h2, h3⟩ := h
  have e1 : i / (t.run.toNat + 1) = j / (t.run.toNat + 1) := by
    rw [← Nat.div_add_mod (i / (t.run.toNat + 1)) (t.patience.toNat + 1), ← Nat.div_add_mod (j / (t.run.toNat + 1)) (t.patience.toNat + 1), h1, h2]
  rw [← Nat.div_add_mod i (t.run.toNat + 1), ← Nat.div_add_mod j (t.run.toNat + 1), e1, h3]
theorem Z6t (t : Twn) : (sts t).Nodup := by
  unfold sts List.Nodup
  rw [List.pairwise_map]
  exact List.Pairwise.imp (fun h e => h (Z8Y e)) List.nodup_range
def ZcV (t : Twn) (y y' : List Int) : Prop := ∀ s, s.right t = true → lat y s = lat y' s
theorem Z1U {t : Twn} (ht : t.ok) {y y' : List Int} (h : ZcV t y y') {s : Sta} (hs : s.right t = true) {q : Rn} (hq : q ∈ t.rats) (n : Int) : t.keeps y s q n = t.keeps y' s q n := by
  unfold Twn.keeps
  cases hc : t.can s q with
  | false => rfl
  | true =>
    rw [h _ (ZB (bad := false) ht hs hq hc (by simp))]
    by_cases hd : s.dry < t.run
    · rw [h _ (ZB (bad := true) ht hs hq hc (fun _ => hd))]
    · simp [hd]
theorem Z4G {t : Twn} {y : List Int} {s : Sta} {x : Rw} (h : Z0M t y s = some x) : x.st = s ∧ x.lasts = lat y s ∧ lat y s ≠ -1 ∧ ∃ q, t.rat x.ration = some q ∧ q ∈ t.rats ∧ t.keeps y s q (lat y s) = true := by
  unfold Z0M at h
  cases hc : decide (lat y s = -1) with
  | true => rw [hc] at h; cases h
  | false =>
    rw [hc, cond_false] at h
    obtain ⟨k, hk, rfl⟩ := Option.map_eq_some_iff.1 h
    obtain ⟨hlt, hp, _⟩ := List.findIdx?_eq_some_iff_getElem.1 hk
    refine ⟨rfl, rfl, by simpa using hc, t.rats[k], Z82 (Int.natCast_nonneg k) (by simp [hlt]), List.getElem_mem hlt, hp⟩
theorem Z9f {t : Twn} {y : List Int} (hl : LSA t y) {s : Sta} (hs : s.right t = true) (h : Z0M t y s = none) : lat y s = -1 := by
  by_cases h0 : lat y s = -1
  · exact h0
  · exfalso
    obtain ⟨q, hq, hk⟩ := Zb4 hl hs h0
    unfold Z0M at h
    simp only [h0, decide_false, cond_false, Option.map_eq_none_iff] at h
    have := List.findIdx?_eq_none_iff.1 h q hq
    rw [hk] at this; cases this
theorem Z62 {t : Twn} (ht : t.ok) {y : List Int} (hl : LSA t y) : ∀ (l : List Sta) (y' : List Int), l.Nodup → (∀ s ∈ l, s.right t = true) → y'.length = 496 → (∀ s ∈ l, lat y' s = -1) →
    ∃ y'', feedScan t (l.filterMap (Z0M t y)) false y' = .ok (false, y'') ∧ y''.length = 496 ∧ (∀ s, s.right t = true → s ∉ l → lat y'' s = lat y' s) ∧ ∀ s ∈ l, lat y'' s = lat y s
  | [], y', _, _, hy, _ => ⟨y', rfl, hy, fun _ _ _ => rfl, fun _ h => by cases h⟩
  | s :: l, y', hd, hr, hy, hm => by
    rw [List.nodup_cons] at hd
    have hsr := hr s (by simp)
    cases hrow : Z0M t y s with
    | none =>
      rw [List.filterMap_cons_none hrow]
      obtain ⟨y'', h1, h2, h3, h4⟩ := Z62 ht hl l y' hd.2 (fun s h => hr s (by simp [h])) hy (fun s h => hm s (by simp [h]))
      refine ⟨y'', h1, h2, fun u hu hn => h3 u hu (fun h => hn (by simp [h])), fun u hu => ?_⟩
      rcases List.mem_cons.1 hu with rfl | hu
      · rw [h3 u hsr hd.1, hm u (by simp), Z9f hl hsr hrow]
      · exact h4 u hu
    | some x =>
      obtain ⟨e1, e2, e3, q, hq, hqm, hk⟩ := Z4G hrow
      rw [List.filterMap_cons_some hrow]
      have hcan : t.can s q = true := by unfold Twn.keeps at hk; simp only [Bool.and_eq_true] at hk; exact hk.1.1
      have hrg := Z2U hl hsr
      have hib : inb x.lasts 0 1000000 = true := by rw [e2]; simp only [inb, Bool.and_eq_true, decide_eq_true_eq]; omega
      have hix := Z2A ht hsr
      obtain ⟨y'', h1, h2, h3, h4⟩ := Z62 ht hl l (y'.set s.ix (lat y s)) hd.2 (fun s h => hr s (by simp [h])) (by simpa using hy) (fun u h => by
        rw [Z0h (fun e => by have := Z2n ht hsr (hr u (by simp [h])) e; subst this; exact hd.1 h)]
        exact hm u (by simp [h]))
      refine ⟨y'', ?_, h2, fun u hu hn => ?_, fun u hu => ?_⟩
      · unfold feedScan
        rw [e1, hsr, hib, hq]
        simp only [Bool.not_true, Bool.or_self, cond_false, hcan, e2, hm s (by simp), ne_eq, not_true_eq_false, decide_false]
        exact h1
      · rw [h3 u hu (fun h => hn (by simp [h])), Z0h (fun e => by have := Z2n ht hsr hu e; subst this; exact hn (by simp))]
      · rcases List.mem_cons.1 hu with rfl | hu
        · rw [h3 u hsr hd.1, ZX (by rw [hy]; exact hix)]
        · exact h4 u hu
theorem Z9y {t : Twn} (ht : t.ok) (v : Int) : ∀ (l : List Sta) (y : List Int), y.length = 496 → (∀ s ∈ l, s ∈ sts t) → ∀ s ∈ sts t, (s ∈ l ∨ lat y s = v) → lat (l.foldl (fun y s => y.set s.ix v) y) s = v
  | [], _, _, _, _, _, h => by rcases h with h | h; cases h; exact h
  | u :: l, y, hy, hl, s, hs, h => by
    rw [List.foldl_cons]
    refine Z9y ht v l _ (by simpa using hy) (fun s hs => hl s (by simp [hs])) s hs ?_
    by_cases he : u.ix = s.ix
    · right
      have := Z2n ht (Zv ht (hl u (by simp))) (Zv ht hs) he
      subst this
      exact ZX (by rw [hy]; exact Z2A ht (Zv ht hs))
    · rcases h with h | h
      · rcases List.mem_cons.1 h with rfl | h
        · exact absurd rfl he
        · exact .inl h
      · right; rw [Z0h he]; exact h
theorem Z5u {t : Twn} (ht : t.ok) {s : Sta} (hs : s ∈ sts t) : lat (Z6w t) s = -1 := Z9y ht (-1) (sts t) _ List.length_replicate (fun _ h => h) s hs (.inl hs)
theorem Z7A (t : Twn) : (Z6w t).length = 496 := by rw [Z6w, Z42, List.length_replicate]
theorem Z89 {t : Twn} (h0 : t.check = 0) {y : List Int} (hl : LSA t y) (hn : lat y t.now ≠ -1) : ZJ t (tab t y) = (lat y t.now, 0) := by
  have ht := (Zi h0).1
  obtain ⟨y'', h1, h2, _, h4⟩ := Z62 ht hl (sts t) (Z6w t) (Z6t t) (fun s hs => Zv ht hs) (Z7A t) (fun s hs => Z5u ht hs)
  have hlen : (tab t y).length ≤ 496 := Nat.le_trans (List.length_filterMap_le _ _) (by rw [Z0s]; exact Z3g ht)
  have hsame : ZcV t y y'' := fun s hs => (h4 s (ZW hs)).symm
  rw [Z2v h0 hlen h1]
  have hall : (tab t y).all (Z0j t y'') = true := by
    refine List.all_eq_true.2 fun x hx => ?_
    obtain ⟨s, hs, hrow⟩ := List.mem_filterMap.1 hx
    obtain ⟨e1, e2, e3, q, hq, hqm, hk⟩ := Z4G hrow
    unfold Z0j
    rw [hq]
    show t.keeps y'' x.st q x.lasts = true
    rw [e1, e2, ← Z1U ht hsame (Zv ht hs) hqm]
    exact hk
  unfold Z2d
  rw [hall, ← hsame t.now ht.now]
  simp [hn]
def Zs (l : List (Sta × Int)) (s : Sta) (m : Int) : Bool := l.any fun p => decide (p.1 = s) && decide (p.2 ≤ m)
def Z30 (t : Twn) (pre : List (Sta × Int)) (p : Sta × Int) : Bool :=
  t.rats.all fun q => !(t.can p.1 q) || (Zs pre (t.next p.1 q false) p.2 || (decide (p.1.dry < t.run) && Zs pre (t.next p.1 q true) (p.2 - 1)))
def Z0e (t : Twn) : List (Sta × Int) → List (Sta × Int) → Bool
  | _, [] => true
  | pre, p :: l => Z30 t pre p && Z0e t (pre ++ [p]) l
theorem Z8n {t : Twn} {pre : List (Sta × Int)} (hpre : ∀ p ∈ pre, 0 ≤ p.2 ∧ ∀ n : Nat, p.2 ≤ n → ¬ Srv t n p.1) {p : Sta × Int} (hp : Z30 t pre p = true) {n : Nat} (hn : p.2 ≤ n) : ¬ Srv t n p.1 := by
  intro h
  obtain ⟨_, q, hq, hc, hg, hb⟩ := Z1W t n _ h
  have h1 := List.all_eq_true.1 hp q hq
  simp only [hc, Bool.not_true, Bool.false_or, Bool.or_eq_true, Bool.and_eq_true, decide_eq_true_eq] at h1
  rcases h1 with h1 | ⟨hd, h1⟩
  · obtain ⟨e, he, hee⟩ := List.any_eq_true.1 h1
    simp only [Bool.and_eq_true, decide_eq_true_eq] at hee
    have := (hpre e he).2 n (by omega)
    rw [hee.1] at this
    exact this hg
  · obtain ⟨e, he, hee⟩ := List.any_eq_true.1 h1
    simp only [Bool.and_eq_true, decide_eq_true_eq] at hee
    have h2 := hpre e he
    cases n with
    | zero => have := h2.1; omega
    | succ m =>
      rcases hb with hb | hb | hb
      · omega
      · exact hb hd
      · have := h2.2 m (by omega)
        rw [hee.1] at this
        exact this hb
theorem Z4x {t : Twn} : ∀ (l pre : List (Sta × Int)), (∀ p ∈ pre, 0 ≤ p.2 ∧ ∀ n : Nat, p.2 ≤ n → ¬ Srv t n p.1) → (∀ p ∈ l, 0 ≤ p.2) → Z0e t pre l = true → ∀ p ∈ l, ∀ n : Nat, p.2 ≤ n → ¬ Srv t n p.1
  | [], _, _, _, _, _, h => by cases h
  | a :: l, pre, hpre, h0, h, p, hp => by
    unfold Z0e at h
    simp only [Bool.and_eq_true] at h
    have ha : ∀ n : Nat, a.2 ≤ n → ¬ Srv t n a.1 := fun n hn => Z8n hpre h.1 hn
    rcases List.mem_cons.1 hp with rfl | hp
    · exact ha
    · exact Z4x l (pre ++ [a]) (fun e he => by
        rcases List.mem_append.1 he with he | he
        · exact hpre e he
        · obtain rfl := List.mem_singleton.1 he
          exact ⟨h0 e (by simp), ha⟩) (fun e he => h0 e (by simp [he])) h.2 p hp
def mill : Twn := ⟨⟨8, 0, 0⟩, 12, 4, 1, 2, 6, 0, 0, [⟨4, 10⟩, ⟨2, 16⟩]⟩
def millYs : List Int := [-1, -1, -1, -1, -1, -1, -1, -1, -1, -1, -1, -1, 0, 0, 1, -1, -1, -1, 0, 0, 1, -1, -1, -1, 0, 0, 1, 0, 0, 1, 0, 0, 1, 0, 0, 1, 1, 2, 3, 1, 2, 3, 1, 2, 3, 1, 2, 3, 3, 4, 5, 1, 2, 3, 3, 4, 5, 1, 2, 3, 3, 4, 5, 3, 4, 5, 3, 4, 5, 3, 4, 5, 5, 5, 5, 5, 5, 5]
def millFl : List (Sta × Int) := [(⟨0, 0, 0⟩, 0), (⟨0, 0, 1⟩, 0), (⟨0, 0, 2⟩, 0), (⟨0, 1, 0⟩, 0), (⟨0, 1, 1⟩, 0), (⟨0, 1, 2⟩, 0), (⟨1, 0, 0⟩, 0), (⟨1, 0, 1⟩, 0), (⟨1, 0, 2⟩, 0), (⟨1, 1, 0⟩, 0), (⟨1, 1, 1⟩, 0), (⟨1, 1, 2⟩, 0), (⟨2, 1, 0⟩, 0), (⟨2, 1, 1⟩, 0), (⟨2, 1, 2⟩, 0), (⟨3, 1, 0⟩, 0), (⟨3, 1, 1⟩, 0), (⟨3, 1, 2⟩, 0), (⟨2, 0, 0⟩, 1), (⟨2, 0, 1⟩, 1), (⟨3, 0, 0⟩, 1), (⟨3, 0, 1⟩, 1), (⟨4, 0, 0⟩, 1), (⟨4, 0, 1⟩, 1), (⟨4, 1, 0⟩, 1), (⟨4, 1, 1⟩, 1), (⟨5, 0, 0⟩, 1), (⟨5, 0, 1⟩, 1), (⟨5, 1, 0⟩, 1), (⟨5, 1, 1⟩, 1), (⟨6, 0, 0⟩, 2), (⟨6, 1, 0⟩, 2), (⟨7, 0, 0⟩, 2), (⟨7, 1, 0⟩, 2), (⟨8, 1, 0⟩, 2), (⟨9, 1, 0⟩, 2), (⟨2, 0, 2⟩, 2), (⟨3, 0, 2⟩, 2), (⟨4, 0, 2⟩, 2), (⟨4, 1, 2⟩, 2), (⟨5, 0, 2⟩, 2), (⟨5, 1, 2⟩, 2), (⟨6, 0, 1⟩, 3), (⟨6, 1, 1⟩, 3), (⟨7, 0, 1⟩, 3), (⟨7, 1, 1⟩, 3), (⟨8, 1, 1⟩, 3), (⟨9, 1, 1⟩, 3), (⟨8, 0, 0⟩, 4), (⟨9, 0, 0⟩, 4), (⟨10, 0, 0⟩, 4), (⟨10, 1, 0⟩, 4), (⟨11, 0, 0⟩, 4), (⟨11, 1, 0⟩, 4), (⟨6, 0, 2⟩, 4), (⟨6, 1, 2⟩, 4), (⟨7, 0, 2⟩, 4), (⟨7, 1, 2⟩, 4), (⟨8, 1, 2⟩, 4), (⟨9, 1, 2⟩, 4), (⟨8, 0, 1⟩, 5), (⟨9, 0, 1⟩, 5), (⟨10, 0, 1⟩, 5), (⟨10, 1, 1⟩, 5), (⟨11, 0, 1⟩, 5), (⟨11, 1, 1⟩, 5), (⟨12, 0, 0⟩, 6), (⟨12, 1, 0⟩, 6), (⟨12, 1, 1⟩, 6), (⟨12, 1, 2⟩, 6), (⟨8, 0, 2⟩, 6), (⟨9, 0, 2⟩, 6), (⟨10, 0, 2⟩, 6), (⟨10, 1, 2⟩, 6), (⟨11, 0, 2⟩, 6), (⟨11, 1, 2⟩, 6), (⟨12, 0, 1⟩, 6), (⟨12, 0, 2⟩, 6)]
def Z3n (s : Sta) : Int := millYs.getD ((s.stock.toNat * 2 + s.short.toNat) * 3 + s.dry.toNat) 0
def Zcz : Bool := (sts mill).all fun s => (List.range 6).all fun n => !(decide ((n : Int) ≤ Z3n s)) || mill.rats.any fun q =>
  mill.can s q && decide ((n : Int) ≤ Z3n (mill.next s q false)) && (decide (n = 0) || !(decide (s.dry < mill.run)) || decide ((n : Int) - 1 ≤ Z3n (mill.next s q true)))
theorem Z0r : mill.check = 0 := by decide +kernel
theorem Z7R : Zcz = true := by decide +kernel
theorem Zal : Z0e mill [] millFl = true := by decide +kernel
theorem ZaP : (millFl.all fun p => decide (0 ≤ p.2)) = true := by decide +kernel
theorem ZaK : ((sts mill).all fun s => millFl.contains (s, Z3n s + 1) && decide (-1 ≤ Z3n s) && decide (Z3n s ≤ 5)) = true := by decide +kernel
theorem mill_ok : mill.ok := (Zi Z0r).1
theorem Zbe : ∀ n : Nat, n ≤ 5 → ∀ s, s.right mill = true → (n : Int) ≤ Z3n s → Srv mill n s := by
  intro n
  induction n with
  | zero =>
    intro _ s hs hl
    refine Z1E (X := fun s => s.right mill = true ∧ ((0 : Nat) : Int) ≤ Z3n s) (fun u ⟨hu, hul⟩ => ?_) ⟨hs, hl⟩
    have h := List.all_eq_true.1 (List.all_eq_true.1 Z7R u (ZW hu)) 0 (by simp)
    simp only [hul, decide_true, Bool.not_true, Bool.false_or] at h
    obtain ⟨q, hq, h⟩ := List.any_eq_true.1 h
    simp only [Bool.and_eq_true, decide_eq_true_eq] at h
    exact ⟨hu, q, hq, h.1.1, ⟨ZB (bad := false) mill_ok hu hq h.1.1 (by simp), h.1.2⟩, .inl rfl⟩
  | succ n ih =>
    intro hn s hs hl
    refine Z1E (X := fun s => s.right mill = true ∧ ((n + 1 : Nat) : Int) ≤ Z3n s) (fun u ⟨hu, hul⟩ => ?_) ⟨hs, hl⟩
    have h := List.all_eq_true.1 (List.all_eq_true.1 Z7R u (ZW hu)) (n + 1) (by simp; omega)
    simp only [hul, decide_true, Bool.not_true, Bool.false_or] at h
    obtain ⟨q, hq, h⟩ := List.any_eq_true.1 h
    simp only [Bool.and_eq_true, Bool.or_eq_true, decide_eq_true_eq, Bool.not_eq_true', decide_eq_false_iff_not] at h
    refine ⟨hu, q, hq, h.1.1, ⟨ZB (bad := false) mill_ok hu hq h.1.1 (by simp), h.1.2⟩, ?_⟩
    by_cases hd : u.dry < mill.run
    · refine .inr (.inr (ih (by omega) _ (ZB (bad := true) mill_ok hu hq h.1.1 (fun _ => hd)) ?_))
      rcases h.2 with (h | h) | h
      · omega
      · exact absurd hd h
      · omega
    · exact .inr (.inl hd)
theorem ZcC {s : Sta} (hs : s.right mill = true) : LS mill s (Z3n s) := by
  have h := List.all_eq_true.1 ZaK s (ZW hs)
  simp only [Bool.and_eq_true, decide_eq_true_eq] at h
  refine .inr ⟨(Z3n s + 1).toNat, by omega, by omega, ?_, fun j hj => Zbe j (by omega) s hs (by omega)⟩
  have hm := List.contains_iff_mem.1 h.1.1
  exact Z4x millFl [] (fun _ h => by cases h) (fun p hp => by simpa using List.all_eq_true.1 ZaP p hp) Zal _ hm _ (by simp only; omega)
theorem Z5o {σ : Sv} (h : Z3w mill σ) {s : Sta} (hs : s.right mill = true) : lat σ.y s = Z3n s := (Z6m mill_ok h hs).uniq (ZcC hs)
def Z4s : List Int := (sts mill).foldl (fun y s => y.set s.ix (Z3n s)) (List.replicate 496 0)
theorem Z9a : ((sts mill).all fun s => decide (lat Z4s s = Z3n s)) = true := by decide +kernel
theorem Z39 {σ : Sv} (h : Z3w mill σ) : ZcV mill σ.y Z4s := fun s hs => (Z5o h hs).trans (Eq.symm (by simpa using List.all_eq_true.1 Z9a s (ZW hs)))
theorem Z3u {α : Type} {p q : α → Bool} : ∀ {l : List α}, (∀ x ∈ l, p x = q x) → l.find? p = l.find? q
  | [], _ => rfl
  | a :: l, h => by rw [List.find?_cons, List.find?_cons, h a (by simp), Z3u fun x hx => h x (by simp [hx])]
theorem Z0P {t : Twn} (ht : t.ok) {σ : Sv} (h : Z3w t σ) : LSA t σ.y := fun _ hs => Z6m ht h hs
open Go
theorem Zat : cal Tryz.prog 27 = true := by kernel_rfl
theorem Zdv : cal Tryz.prog 30 = true := by kernel_rfl
theorem ZdF : cal Tryz.prog 31 = true := by kernel_rfl
theorem Zdr : cal Tryz.prog 32 = true := by kernel_rfl
theorem ZcZ : cal Tryz.prog 33 = true := by kernel_rfl
theorem ZdT : cal Tryz.prog 34 = true := by kernel_rfl
theorem Zb0 : cal Tryz.prog 35 = true := by kernel_rfl
theorem ZeC : cal Tryz.prog 4 = true := by kernel_rfl
theorem Zee : cal Tryz.prog 5 = true := by kernel_rfl
theorem ZO : Z1c Tryz.prog 27 = some 11 := by kernel_rfl
theorem ZdU : Z1q Tryz.prog 27 = some [(0, 3), (3, 1), (4, 1), (5, 1), (6, 1), (7, 1), (8, 1), (9, 1), (10, 1)] := by kernel_rfl
theorem Ze4 : Z1q Tryz.prog 44 = some [(0, 1), (1, 1)] := by kernel_rfl
theorem ZcU : slE Tryz.prog 25 = some (44, 2) := by kernel_rfl
theorem Z04 : Z0n Tryz.prog 27 = some ([.int .i64 0, .int .i64 0, .int .i64 0, .int .i64 0, .int .i64 0, .int .i64 0, .int .i64 0, .int .i64 0, .int .i64 0, .int .i64 0, .slice none 0 0]) := by kernel_rfl
theorem Z4w {p p' : Rn → Bool} {l : List Rn} (h : ∀ q ∈ l, p q = p' q) (k : Nat) : Z10 p l k = Z10 p' l k := by
  unfold Z10
  congr 1
  refine List.filter_congr fun i _ => ?_
  cases hq : l[i]? with
  | none => rfl
  | some q => exact h q (List.mem_of_getElem? hq)
theorem Z8P {σ : Sv} (h : Z3w mill σ) : Z10 (fun q => mill.keeps σ.y mill.now q (lat σ.y mill.now)) mill.rats mill.rats.length = [1] := by
  have e : lat σ.y mill.now = 3 := (Z5o h mill_ok.now).trans (by decide)
  rw [e, Z4w (p' := fun q => mill.keeps Z4s mill.now q 3) fun q hq => Z1U mill_ok (Z39 h) mill_ok.now hq 3]
  decide +kernel
theorem Z8W {σ : Sv} (h : Z3w mill σ) : Z33 mill σ.y 4 = .tuple #[.int .i64 12, .int .i64 0] := by
  have e : (sts mill).find? (Z1v mill σ.y 4) = some ⟨12, 0, 0⟩ := by
    rw [Z3u (q := Z1v mill Z4s 4) fun s hs => by unfold Z1v; rw [Z39 h s (Zv mill_ok hs)]]
    decide +kernel
  unfold Z33; rw [e]
theorem Z9C : Z3T mill 3 = .tuple #[.int .i64 104, .int .i64 0] := by
  have e : ef mill (3 : Int).toNat mill.now = 104 := by decide +kernel
  unfold Z3T; rw [e]; rfl
theorem Z8q {j : Nat} (h : (Z0K [2, 7, 5] j (Zu 11 [2, 7, 5])).g = false) : (Z0K [2, 7, 5] j (Zu 11 [2, 7, 5])).o = [2, 5, 4] := by
  rw [Zac h (k := 6) (by decide +kernel)]
  decide +kernel
theorem Z1o {σ : Sv} (h : Z3w mill σ) : lat σ.y mill.now = 3 := (Z5o h mill_ok.now).trans (by decide)
theorem Z9Z {σ : Sv} (h : Z3w mill σ) : ZJ mill (tab mill σ.y) = (3, 0) := by
  have e := Z1o h
  rw [Z89 Z0r (Z0P mill_ok h) (by rw [e]; decide), e]
theorem Z4f {t : Twn} (ht : t.ok) (y : List Int) : (tab t y).length ≤ 496 := Nat.le_trans (List.length_filterMap_le _ _) (by rw [Z0s]; exact Z3g ht)
theorem ZbE (H : Zj) (R : Z9) :
    Fn Tryz.prog 4 [] H R (fun v H' R' => ∃ b, v = mill.v (.slice (some ⟨b, 0, none⟩) 2 2) ∧ H' = H ∧ R' = RowsA (some ⟨b, 0, none⟩) 2 (Zf mill.rats) :: R) := by
 refine Zq Tryz.func4 rfl Tryz.ntmps4 rfl ?_
 refine sqt 1 rfl (alc rfl Z04 rfl (fun b0 => sqt 6 rfl (sp rfl (PE.build (out := [_, _, _]) Z7z Z2M rfl rfl) rfl (sp rfl (PE.build (out := [_, _]) Ze4 Z6P rfl rfl) rfl (sp rfl (PE.build (out := [_, _]) Ze4 Z6P rfl rfl) rfl ?_)))))
 refine bsl (out := [_, _, _, _]) rfl ZcU Z6P rfl rfl rfl rfl rfl rfl (fun b4 => ?_)
 refine sp rfl (PE.build (out := [_, _, _, _, _, _, _, _, _, _, _]) ZdU Z04 rfl rfl) rfl ?_
 refine sto rfl rfl rfl ZO rfl rfl rfl rfl ?_
 refine Z4 ?_
 exact Z2 (vs := [_]) rfl (.cons (RV.cell rfl (lhA [_, _, _, _, _, _, _, _, _, _, _] Zd rfl rfl rfl)) .nil) rfl ⟨b4, rfl, rfl, rfl⟩ (fun w h => (St.rows (sz := 2) (rows := Zf mill.rats) (rest := []) h (by decide)).tail)
theorem Z00 (H : Zj) (R : Z9) :
    FnV Tryz.prog 11 [] H R (.bool true) := by
 refine Zq Tryz.func11 rfl Tryz.ntmps11 rfl ?_
 refine sqt 1 rfl (pur 1 rfl (sqt 3 rfl ?_))
 refine cl rfl ZeC rfl rfl (ZbE _ _) ?_
 rintro _ _ _ ⟨bm, rfl, rfl, rfl⟩
 refine alc rfl Z04 rfl (fun b1 => ?_)
 refine sto rfl rfl rfl ZO rfl rfl rfl rfl ?_
 refine sqt 7 rfl (spL rfl rfl (lhA [_, _, _, _, _, _, _, _, _, _, _] Zd rfl rfl rfl) rfl ?_)
 refine cl rfl Zdv rfl rfl (Z9c mill (by decide) bm 0 2 _ _) ?_
 rintro _ _ _ ⟨h, rfl, rfl⟩
 obtain ⟨_, σ1, hσ1, rfl⟩ := h.resolve_left (fun h => h.1 Z0r)
 rw [Z1o hσ1]
 refine pur 5 rfl (sqt 7 rfl (spL rfl rfl (lhA [_, _, _, _, _, _, _, _, _, _, _] Zd rfl rfl rfl) rfl ?_))
 refine cl rfl ZdF rfl rfl (Z87 mill (by decide) bm 0 2 _ _) ?_
 rintro _ _ _ ⟨h, rfl⟩
 obtain ⟨_, σ2, hσ2, h⟩ := h.resolve_left (fun h => h.1 Z0r)
 obtain ⟨_, o, rfl, rfl⟩ := h.resolve_left (fun h => by have := h.1; rw [Z1o hσ2] at this; cases this)
 obtain ⟨ax, cx, ho, hfr⟩ := o.freeze
 rw [ho]
 refine Sy.heap (fun w h => hfr h) ?_
 rw [Z8P hσ2]
 refine pur 5 rfl (sqt 7 rfl (spL rfl rfl (lhA [_, _, _, _, _, _, _, _, _, _, _] Zd rfl rfl rfl) rfl ?_))
 refine cl rfl Zdr rfl rfl (Za0 mill (by decide) 4 bm 0 2 _ _) ?_
 rintro _ _ _ ⟨h, rfl, rfl⟩
 obtain ⟨_, _, σ3, hσ3, rfl⟩ := (h.resolve_left (fun h => h.1 Z0r)).resolve_left (fun h => by have := h.2.1; revert this; decide)
 rw [Z8W hσ3]
 refine pur 5 rfl (sqt 7 rfl (spL rfl rfl (lhA [_, _, _, _, _, _, _, _, _, _, _] Zd rfl rfl rfl) rfl ?_))
 refine cl rfl ZcZ rfl rfl (Z9U mill (by decide) 3 bm 0 2 _ _) ?_
 rintro _ _ _ ⟨h, rfl, rfl⟩
 obtain ⟨_, _, rfl⟩ := (h.resolve_left (fun h => h.1 Z0r)).resolve_left (fun h => by have := h.2.1; revert this; decide)
 rw [Z9C]
 refine pur 5 rfl (sqt 7 rfl ?_)
 refine bsl (out := [_, _, _]) rfl Z46 zl3 rfl rfl rfl rfl rfl rfl (fun b38 => ?_)
 refine Sy.heap (fun w h => St.intRows (l := [2, 7, 5]) h) ?_
 refine cl rfl Zat rfl rfl (Z4i 11 [2, 7, 5] (some ⟨b38, 0, none⟩) 3 (by decide) _ _) ?_
 rintro _ _ _ ⟨h, rfl⟩
 obtain ⟨_, j, bs, hg, rfl, rfl⟩ := h.resolve_left (fun h => h.1 (by decide))
 rw [Z8q hg]
 refine Sy.heap (fun w h => St.intRows (l := [2, 5, 4]) h) ?_
 refine pur 5 rfl (sqt 7 rfl (spL rfl rfl (lhA [_, _, _, _, _, _, _, _, _, _, _] Zd rfl rfl rfl) rfl ?_))
 refine cl rfl Zee rfl rfl (Z6Y mill (by decide) bm 0 2 _ _) ?_
 rintro _ _ _ ⟨h, rfl⟩
 obtain ⟨_, σ4, hσ4, h⟩ := h.resolve_left (fun h => h.1 Z0r)
 obtain ⟨_, o, rfl, rfl⟩ := h.resolve_left (fun h => by have := h.1; rw [Z1o hσ4] at this; cases this)
 obtain ⟨at', ct, ho, hfr⟩ := o.freeze
 rw [ho, show (Zt (tab mill σ4.y)).length = (tab mill σ4.y).length from List.length_map _]
 refine Sy.heap (fun w h => hfr h) ?_
 have htl := Z4f mill_ok σ4.y
 refine pur 5 rfl (sqt 8 rfl (spL rfl rfl (lhA [_, _, _, _, _, _, _, _, _, _, _] Zd rfl rfl rfl) rfl (pur 1 rfl ?_)))
 refine cl rfl ZdT rfl rfl (Zar mill (by decide) (tab mill σ4.y) at' ct (by omega) bm 0 2 _ _) ?_
 rintro _ _ _ ⟨rfl, rfl, rfl⟩
 rw [Z9Z hσ4]
 refine pur 5 rfl (sqt 53 rfl (pur 32 rfl ?_))
 refine ZbA (out := [_]) rfl rfl rfl rfl Z46 zl3 rfl rfl rfl rfl rfl rfl (fun b85 => ?_)
 refine Sy.heap (fun w h => St.intRows (l := [1]) h) ?_
 refine Z0k rfl rfl rfl rfl Zb0 rfl rfl (Z43 [1] [1] ax (some ⟨b85, 0, none⟩) cx 1 (by decide) (by decide) _ _) ?_
 refine pur 11 rfl ?_
 refine ZbA (out := [_, _, _]) rfl rfl rfl rfl Z46 zl3 rfl rfl rfl rfl rfl rfl (fun b98 => ?_)
 refine Sy.heap (fun w h => St.intRows (l := [2, 5, 4]) h) ?_
 refine Z0k rfl rfl rfl rfl Zb0 rfl rfl (Z43 [2, 5, 4] [2, 5, 4] (some ⟨bs, 0, none⟩) (some ⟨b98, 0, none⟩) 3 3 (by decide) (by decide) _ _) ?_
 refine pur 6 rfl (Z4 ?_)
 exact rtA rfl rfl rfl ⟨rfl, rfl, rfl⟩ drp
theorem Z0d (xs : List Int) (a : Option Addr) (c : Nat) (hl : xs.length ≤ 1000000) (H : Zj) (R : Z9) [hR : MemRows a 1 (Zh xs) R] :
    Fn Tryz.prog 23 [.slice a xs.length c] H R (fun v H' R' => ∃ o : OSl 3 1 (Zh xs), v = o.fs ∧ o.here ∧ H' = o.G ++ H ∧ R' = R) := by
 refine Zq Tryz.func23 rfl Tryz.ntmps23 rfl ?_
 refine sqt 1 rfl (pur 1 rfl (sqt 6 rfl (pur 1 rfl (sp rfl (PE.lenSl Z0p rfl) rfl ?_))))
 refine mkO rfl Z2T zl3 rfl rfl ⟨by omega, by omega⟩ rfl (fun o ho => ?_)
 refine pur 1 rfl ?_
 refine Zbg (news := Zh xs) o rfl Z2T rfl rfl (Z6F) (by simp [Zh]) (by simp [Z0C, Zh, Value.oneCell']) ⟨by simp [Zh]; omega, by simp [Zh]; omega⟩ rfl ho (fun o2 ho2 => ?_)
 refine pur 1 rfl (Z4 ?_)
 exact rtA rfl rfl rfl ⟨o2.cast (by simp), rfl, ho2, rfl, rfl⟩ idH
theorem Z1a (xs ys : List Int) (a a2 : Option Addr) (c c2 : Nat) (hl : xs.length ≤ 9223372036854775807) (hl2 : ys.length ≤ 9223372036854775807) (H : Zj) (R : Z9) [hR : MemRows a 1 (Zh xs) R] [hR2 : MemRows a2 1 (Zh ys) R] :
    FnV Tryz.prog 29 [.slice a xs.length c, .slice a2 ys.length c2] H R (.bool (decide (xs = ys))) := by
 refine Zq Tryz.func29 rfl Tryz.ntmps29 rfl ?_
 refine sqt 1 rfl (pur 1 rfl (sqt 4 rfl (pur 2 rfl ?_)))
 refine clV rfl Zb0 rfl rfl (Z43 xs ys a a2 c c2 hl hl2 _ _) ?_
 refine pur 1 rfl (Z4 ?_)
 exact rtA rfl rfl rfl ⟨rfl, rfl, rfl⟩ drp
theorem Z1S (n lo hi : Int) (H : Zj) (R : Z9) :
    FnV Tryz.prog 71 [.int .i64 n, .int .i64 lo, .int .i64 hi] H R (.bool (!(decide (lo ≤ n) && decide (n ≤ hi)))) := by
 refine Zq Tryz.func71 rfl Tryz.ntmps71 rfl ?_
 refine sqt 1 rfl (pur 1 rfl (sqt 9 rfl (pur 4 rfl ?_)))
 refine ZE 10 rfl ?_ ?_ <;> intro g10
 simp only [cS] at g10
 refine pur 5 rfl (Z4 ?_)
 exact rtA rfl rfl rfl ⟨by simp only [ZL]; congr 1; by_cases h1 : lo ≤ n <;> by_cases h2 : n ≤ hi <;> simp [h1, h2] <;> omega, rfl, rfl⟩ drp
 simp only [cS] at g10
 refine pur 5 rfl (Z4 ?_)
 exact rtA rfl rfl rfl ⟨by simp only [ZL]; congr 1; by_cases h1 : lo ≤ n <;> by_cases h2 : n ≤ hi <;> simp [h1, h2] <;> omega, rfl, rfl⟩ drp
end Go.Proofs.YthhdgeibokecjaaGreat.Bd
namespace Go.Proofs.YthhdgeibokecjaaGreat.Bd
set_option linter.unusedSimpArgs false
set_option linter.unusedVariables false
def ZV (ws sh : List Int) : Int := bif decide (sh.length ≠ ws.length) then 2 else bif !(sh.all fun n => inb n 0 1000) then 3 else 0
def Z1r (s : Int) (ws sh : List Int) (j : Nat) : Bool × Int :=
  bif decide (Z2c s ws ≠ 0) then (false, Z2c s ws) else bif decide (ZV ws sh ≠ 0) then (false, ZV ws sh) else (decide ((Z0K ws j (Zu s ws)).o = sh), 0)
def Z45 (ws sh : List Int) (i : Nat) : Bool := decide (sh.getD i 0 ≤ ws.getD i 0) && (decide (ws.getD i 0 ≤ sh.getD i 0) || (List.range ws.length).all fun k => !(decide (sh.getD i 0 + 1 < sh.getD k 0) || (decide (sh.getD k 0 = sh.getD i 0 + 1) && decide (i < k))))
def Z0x (s : Int) (ws sh : List Int) : Bool := (List.range ws.length).all (Z45 ws sh) && (decide (sh.sum = s) || (decide (sh = ws) && decide (sh.sum ≤ s)))
theorem ZC {l : List Int} {k : Nat} {x : Int} (h : l[k]? = some x) : l.getD k 0 = x := by simp [List.getD_eq_getElem?_getD, h]
theorem Z7j {l : List Int} {k : Nat} {x : Int} (h : l[k]? = some x) : (l.take (k + 1)).sum = (l.take k).sum + x := by
  rw [List.take_add_one, h, Option.toList_some, List.sum_append]; simp
theorem ZbH : ∀ {l : List Int}, (∀ n ∈ l, 0 ≤ n ∧ n ≤ 1000) → 0 ≤ l.sum ∧ l.sum ≤ 1000 * l.length
  | [], _ => by simp
  | x :: l, h => by
    have h1 := h x (by simp)
    have h2 := ZbH (l := l) (fun n hn => h n (by simp [hn]))
    simp only [List.sum_cons, List.length_cons]; push_cast; omega
theorem Z3m {s : Int} {ws sh : List Int} {i : Nat} (hi : i < ws.length) (h : Z45 ws sh i = false) : Z0x s ws sh = false := by
  have : (List.range ws.length).all (Z45 ws sh) = false := by rw [List.all_eq_false]; exact ⟨i, List.mem_range.2 hi, by simp [h]⟩
  unfold Z0x; rw [this]; rfl
theorem Z9P {ws sh : List Int} {k : Nat} {x y : Int} (hx : sh[k]? = some x) (hy : ws[k]? = some y) : decide (sh.take (k + 1) = ws.take (k + 1)) = (decide (sh.take k = ws.take k) && decide (x = y)) := by
  have h1 : k < sh.length := (List.getElem?_eq_some_iff.1 hx).1
  have h2 : k < ws.length := (List.getElem?_eq_some_iff.1 hy).1
  rw [List.take_add_one, List.take_add_one, hx, hy, ← Bool.decide_and, decide_eq_decide]
  simp only [Option.toList_some]
  constructor
  · intro h
    have h3 := List.append_inj h (by simp; omega)
    exact ⟨h3.1, by simpa using h3.2⟩
  · rintro ⟨h3, rfl⟩; rw [h3]
theorem ZaZ {a b : List Int} (hl : a.length = b.length) (h : ∀ i, i < a.length → a.getD i 0 = b.getD i 0) : a = b := by
  apply List.ext_getElem hl
  intro i h1 h2
  have := h i h1
  simpa [List.getD_eq_getElem?_getD, h1, h2] using this
theorem Zae : ∀ {a b : List Int}, a.length = b.length → (∀ i, i < a.length → a.getD i 0 ≤ b.getD i 0) → a.sum ≤ b.sum ∧ (a.sum = b.sum → a = b)
  | [], [], _, _ => ⟨Int.le_refl _, fun _ => rfl⟩
  | [], _ :: _, h, _ => by cases h
  | _ :: _, [], h, _ => by cases h
  | x :: a, y :: b, h, hi => by
    have h0 := hi 0 (by simp)
    simp at h0
    obtain ⟨h1, h2⟩ := Zae (a := a) (b := b) (by simpa using h) (fun i hh => by have := hi (i + 1) (by simpa using hh); simpa using this)
    simp only [List.sum_cons]
    refine ⟨by omega, fun he => ?_⟩
    obtain rfl : x = y := by omega
    rw [h2 (by omega)]
theorem Zbo {a b : List Int} (hl : a.length = b.length) (hs : a.sum = b.sum) (hne : a ≠ b) : ∃ i, i < a.length ∧ a.getD i 0 < b.getD i 0 := by
  by_cases h : ∃ i, i < a.length ∧ a.getD i 0 < b.getD i 0
  · exact h
  · exfalso
    have h1 := (Zae (a := b) (b := a) hl.symm (fun i hi => by
      by_cases h2 : a.getD i 0 < b.getD i 0
      · exact absurd ⟨i, by omega, h2⟩ h
      · omega)).2 hs.symm
    exact hne h1.symm
def Fr (ws o : List Int) : Prop := ∀ i, i < ws.length → o.getD i 0 < ws.getD i 0 → ∀ k, k < ws.length → o.getD k 0 ≤ o.getD i 0 + 1 ∧ (o.getD k 0 = o.getD i 0 + 1 → k ≤ i)
theorem fair_iff {s : Int} {ws o : List Int} : Z0x s ws o = true ↔ (∀ i, i < ws.length → o.getD i 0 ≤ ws.getD i 0) ∧ Fr ws o ∧ (o.sum = s ∨ (o = ws ∧ o.sum ≤ s)) := by
  unfold Z0x Z45 Fr
  simp only [Bool.and_eq_true, Bool.or_eq_true, decide_eq_true_eq, List.all_eq_true, List.mem_range, Bool.not_eq_true', Bool.or_eq_false_iff, Bool.and_eq_false_iff, decide_eq_false_iff_not]
  constructor
  · rintro ⟨h, hs⟩
    refine ⟨fun i hi => (h i hi).1, fun i hi hlt k hk => ?_, hs⟩
    rcases (h i hi).2 with h1 | h1
    · omega
    · have := h1 k hk
      omega
  · rintro ⟨h1, h2, hs⟩
    refine ⟨fun i hi => ⟨h1 i hi, ?_⟩, hs⟩
    by_cases hlt : o.getD i 0 < ws.getD i 0
    · right
      intro k hk
      have := h2 i hi hlt k hk
      omega
    · left; omega
theorem Z92 {s : Int} {ws a b : List Int} (ha : a.length = ws.length) (hb : b.length = ws.length) (fa : Z0x s ws a = true) (fb : Z0x s ws b = true) : a = b := by
  obtain ⟨a1, a2, a3⟩ := fair_iff.1 fa
  obtain ⟨b1, b2, b3⟩ := fair_iff.1 fb
  have full : ∀ c : List Int, c.length = ws.length → (∀ i, i < ws.length → c.getD i 0 ≤ ws.getD i 0) → (c.sum = s ∨ (c = ws ∧ c.sum ≤ s)) → ws.sum ≤ s → c = ws := by
    intro c hc c1 c3 hw
    rcases c3 with c3 | c3
    · have h1 := Zae (a := c) (b := ws) hc (fun i hi => c1 i (by omega))
      exact h1.2 (by omega)
    · exact c3.1
  rcases a3 with a3 | ⟨rfl, a3⟩
  · rcases b3 with b3 | ⟨rfl, b3⟩
    · by_cases he : a = b
      · exact he
      · exfalso
        obtain ⟨i, hi, h1⟩ := Zbo (ha.trans hb.symm) (by omega) he
        obtain ⟨k, hk, h2⟩ := Zbo (hb.trans ha.symm) (by omega) (Ne.symm he)
        have := a2 i (by omega) (by have := b1 i (by omega); omega) k (by omega)
        have := b2 k (by omega) (by have := a1 k (by omega); omega) i (by omega)
        have hik : i ≠ k := fun e => by subst e; omega
        omega
    · exact full a ha a1 (.inl a3) b3
  · exact (full b hb b1 b3 a3).symm
def Lev (ws o : List Int) (j : Int) (k : Nat) : Prop := ∀ i, i < ws.length → o.getD i 0 = min (ws.getD i 0) (if i < k then j + 1 else j)
theorem Zbh {ws o : List Int} {j : Int} {k : Nat} (h : Lev ws o j k) : Fr ws o := by
  intro i hi hlt m hm
  have h1 := h i hi
  have h2 := h m hm
  split at h1 <;> split at h2 <;> omega
def Inv (s0 : Int) (ws : List Int) (j : Int) (k : Nat) (σ : ShS) : Prop := σ.s + σ.o.sum = s0 ∧ (Lev ws σ.o j k ∨ (σ.s = 0 ∧ Fr ws σ.o))
theorem Z96 : ∀ {l : List Int} {k : Nat} {m v : Int}, l[k]? = some m → (l.set k v).sum = l.sum - m + v
  | [], _, _, _, h => by simp at h
  | x :: l, 0, m, v, h => by simp only [List.getElem?_cons_zero, Option.some.injEq] at h; subst h; simp; omega
  | x :: l, k + 1, m, v, h => by
    have := Z96 (l := l) (k := k) (v := v) (by simpa using h)
    simp only [List.set_cons_succ, List.sum_cons, this]; omega
theorem Zaw {s0 : Int} {ws : List Int} {σ : ShS} (hok : σ.ok s0 ws) {j : Int} {k : Nat} (hk : k < ws.length) (h : Inv s0 ws j k σ) : Inv s0 ws j (k + 1) (σ.step ws k) := by
  obtain ⟨n, hn⟩ : ∃ n, ws[k]? = some n := ⟨_, List.getElem?_eq_getElem hk⟩
  obtain ⟨m, hm⟩ : ∃ m, σ.o[k]? = some m := ⟨_, List.getElem?_eq_getElem (by rw [hok.len]; exact hk)⟩
  have hs := hok.s
  unfold ShS.step
  rw [hn, hm]
  obtain ⟨h1, h2⟩ := h
  dsimp only
  cases hc : decide (0 < σ.s) && decide (m < n) with
  | true =>
    simp only [Bool.and_eq_true, decide_eq_true_eq] at hc
    simp only [cond_true]
    rcases h2 with h2 | h2
    · have h3 := h2 k hk
      rw [ZC hm, ZC hn, if_neg (by omega)] at h3
      refine ⟨by simp only; rw [Z96 hm]; omega, .inl fun i hi => ?_⟩
      by_cases he : k = i
      · subst he
        rw [if_pos (by omega), ZC hn, ZC (List.getElem?_set_self (by rw [hok.len]; exact hk))]
        omega
      · have h4 := h2 i hi
        simp only [List.getD_eq_getElem?_getD, List.getElem?_set_ne he]
        simp only [List.getD_eq_getElem?_getD] at h4
        rw [h4]
        by_cases hlt : i < k
        · rw [if_pos hlt, if_pos (by omega)]
        · rw [if_neg hlt, if_neg (by omega)]
    · omega
  | false =>
    simp only [cond_false]
    refine ⟨h1, ?_⟩
    rcases h2 with h2 | h2
    · by_cases hs0 : σ.s = 0
      · exact .inr ⟨hs0, Zbh h2⟩
      · have hmn : ¬ m < n := by
          intro h; simp [h] at hc; omega
        left
        intro i hi
        have h4 := h2 i hi
        by_cases he : k = i
        · subst he
          rw [if_neg (by omega), ZC hm, ZC hn] at h4
          rw [if_pos (by omega), ZC hm, ZC hn]
          omega
        · rw [h4]
          by_cases hlt : i < k
          · rw [if_pos hlt, if_pos (by omega)]
          · rw [if_neg hlt, if_neg (by omega)]
    · exact .inr h2
theorem Z7G {s0 : Int} {ws : List Int} {j : Int} : ∀ (k : Nat) (σ : ShS), k ≤ ws.length → σ.ok s0 ws → Inv s0 ws j 0 σ → Inv s0 ws j k ((List.range k).foldl (ShS.step ws) σ)
  | 0, _, _, _, h => h
  | k + 1, σ, hk, hok, h => by
    rw [List.range_succ, List.foldl_append]
    exact Zaw (Z3Z _ _ hok) (by omega) (Z7G k σ (by omega) hok h)
theorem ZaR {s0 : Int} {ws : List Int} {σ : ShS} (hok : σ.ok s0 ws) {j : Int} (h : Inv s0 ws j 0 σ) : Inv s0 ws (j + 1) 0 (σ.pass ws) := by
  obtain ⟨h1, h2⟩ := Z7G ws.length { σ with g := false } (Nat.le_refl _) ⟨hok.len, hok.s, hok.m⟩ h
  refine ⟨h1, ?_⟩
  rcases h2 with h2 | h2
  · left
    intro i hi
    have := h2 i hi
    rw [if_pos hi] at this
    rw [if_neg (by omega)]
    exact this
  · exact .inr h2
theorem Z5l {s : Int} {ws : List Int} (h : Z2c s ws = 0) : ∀ j : Nat, Inv s ws j 0 (Z0K ws j (Zu s ws))
  | 0 => by
    obtain ⟨h1, h2, h3, h4⟩ := Z1s h
    refine ⟨by show s + (List.replicate ws.length (0 : Int)).sum = s; simp, .inl fun i hi => ?_⟩
    have h5 : ws.getD i 0 = ws[i] := by simp [List.getD_eq_getElem?_getD, hi]
    have h6 := h3 ws[i] (List.getElem_mem hi)
    have h7 : (Zu s ws).o.getD i 0 = 0 := by simp [Zu, List.getD_eq_getElem?_getD, List.getElem?_replicate, hi]
    show (Zu s ws).o.getD i 0 = _
    rw [h7, h5, if_neg (by omega)]
    show (0 : Int) = min ws[i] ((0 : Nat) : Int)
    omega
  | j + 1 => by
    have := ZaR (Z21 j _ (Z1s h).1) (Z5l h j)
    push_cast
    exact this
theorem Z3y {s : Int} {ws : List Int} (h : Z2c s ws = 0) {j : Nat} (hg : (Z0K ws j (Zu s ws)).g = false) : ZV ws (Z0K ws j (Zu s ws)).o = 0 ∧ Z0x s ws (Z0K ws j (Zu s ws)).o = true := by
  obtain ⟨h1, h2, h3, h4⟩ := Z1s h
  have hok := Z21 j _ h1
  have hi := Z5l h j
  have hi2 := Z5l h (j + 1)
  rw [Z6s hg] at hi2
  have hle : ∀ i, i < ws.length → 0 ≤ (Z0K ws j (Zu s ws)).o.getD i 0 ∧ (Z0K ws j (Zu s ws)).o.getD i 0 ≤ ws.getD i 0 := fun i hi' => by
    obtain ⟨n, hn⟩ : ∃ n, ws[i]? = some n := ⟨_, List.getElem?_eq_getElem hi'⟩
    obtain ⟨m, hm⟩ : ∃ m, (Z0K ws j (Zu s ws)).o[i]? = some m := ⟨_, List.getElem?_eq_getElem (by rw [hok.len]; exact hi')⟩
    rw [ZC hn, ZC hm]
    exact hok.m i m n hm hn
  have hs := hok.s
  refine ⟨?_, fair_iff.2 ⟨fun i hi' => (hle i hi').2, ?_, ?_⟩⟩
  · unfold ZV
    have e1 : decide ((Z0K ws j (Zu s ws)).o.length ≠ ws.length) = false := by simp [hok.len]
    have e2 : ((Z0K ws j (Zu s ws)).o.all fun n => inb n 0 1000) = true := List.all_eq_true.2 fun n hn => by
      obtain ⟨i, hi'⟩ := List.getElem?_of_mem hn
      have hlt : i < ws.length := by rw [← hok.len]; exact (List.getElem?_eq_some_iff.1 hi').1
      obtain ⟨w, hw⟩ : ∃ w, ws[i]? = some w := ⟨_, List.getElem?_eq_getElem hlt⟩
      have := hok.m i n w hi' hw
      have := h3 w (List.mem_of_getElem? hw)
      simp only [inb, Bool.and_eq_true, decide_eq_true_eq]; omega
    rw [e1, e2]; rfl
  · rcases hi.2 with h5 | h5
    · exact Zbh h5
    · exact h5.2
  · rcases hi.2 with h5 | h5
    · rcases hi2.2 with h6 | h6
      · right
        have e : (Z0K ws j (Zu s ws)).o = ws := ZaZ hok.len fun i hi' => by
          have a := h5 i (by rw [hok.len] at hi'; exact hi')
          have b := h6 i (by rw [hok.len] at hi'; exact hi')
          rw [if_neg (by omega)] at a b
          push_cast at b
          omega
        exact ⟨e, by have := hi.1; omega⟩
      · left; have := hi.1; omega
    · left; have := hi.1; omega
open Go
theorem Z1f : cal Tryz.prog 11 = true := by kernel_rfl
theorem Z3v : cal Tryz.prog 23 = true := by kernel_rfl
theorem Zfq : cal Tryz.prog 24 = true := by kernel_rfl
theorem Zce : cal Tryz.prog 25 = true := by kernel_rfl
theorem ZcK : cal Tryz.prog 26 = true := by kernel_rfl
theorem ZbT : cal Tryz.prog 28 = true := by kernel_rfl
theorem Z4N : cal Tryz.prog 29 = true := by kernel_rfl
theorem Z1R : cal Tryz.prog 71 = true := by kernel_rfl
theorem Zew : cal Tryz.prog 74 = true := by kernel_rfl
theorem ub4 : Tryz.prog.underlying 4 = some .bool := by kernel_rfl
theorem Z7U {l : List Int} {k : Nat} {x : Int} {p : Int → Bool} (hx : l[k]? = some x) (hn : (l.take k).all p = true) (h : p x = true) : (l.take (k + 1)).all p = true := by
  rw [List.take_add_one, hx, Option.toList_some, List.all_append, hn]; simp [h]
theorem Z7I {l : List Int} {k : Nat} {x : Int} {p : Int → Bool} (hx : l[k]? = some x) (h : p x = false) : l.all p = false := by
  rw [List.all_eq_false]; exact ⟨x, List.mem_of_getElem? hx, by simp [h]⟩
theorem Zbc (s : Int) (ws : List Int) (a : Option Addr) (c : Nat) (hl : ws.length ≤ 9223372036854775807) (H : Zj) (R : Z9) [hR : MemRows a 1 (Zh ws) R] :
    FnV Tryz.prog 24 [.int .i64 s, .slice a ws.length c] H R (.int .i64 (Z2c s ws)) := by
 refine Zq Tryz.func24 rfl Tryz.ntmps24 rfl ?_
 refine sqt 1 rfl (pur 1 rfl (Z0 (sqt 3 rfl (pur 1 rfl (sp rfl (PE.lenSl Z0p rfl) rfl (pur 1 rfl ?_))))))
 refine Z5 rfl ?_ ?_ <;> intro hc0
 have h8 : decide (8 < ws.length) = true := by simp only [decide_eq_true_eq] at hc0 ⊢; omega
 have hres : Z2c s ws = 2 := by unfold Z2c; rw [h8]; rfl
 refine sqt 1 rfl (pur 1 rfl (Z4 ?_))
 exact rtA rfl rfl rfl ⟨congrArg (Value.int .i64) hres.symm, rfl, rfl⟩ drp
 have h8 : decide (8 < ws.length) = false := by simp only [decide_eq_false_iff_not] at hc0 ⊢; omega
 refine Z3 (Z0 (sqt 2 rfl (pur 1 rfl ?_)))
 refine clV rfl Z1R rfl rfl (Z1S _ _ _ _ _) ?_
 refine Z5 rfl ?_ ?_ <;> intro hc1
 have h9 : inb s 0 1000 = false := by rw [← Bool.not_eq_true']; exact hc1
 have hres : Z2c s ws = 3 := by unfold Z2c; rw [h8, h9]; rfl
 refine sqt 1 rfl (pur 1 rfl (Z4 ?_))
 exact rtA rfl rfl rfl ⟨congrArg (Value.int .i64) hres.symm, rfl, rfl⟩ drp
 have h9 : inb s 0 1000 = true := by rw [← Bool.not_eq_false']; exact hc1
 refine Z3 (Z0 (sqt 1 rfl (pur 1 rfl (Z7 ?_))))
 refine Zn (ι := {k : Nat // k ≤ ws.length ∧ (ws.take k).all (fun n => inb n 0 1000) = true}) (fun k => ⟨[(1, .slice a ws.length c), (5, .int .i64 k.1)], H, R⟩) (fun k => ws.length - k.1) ⟨0, by simp⟩ ?_ (fun k => ?_)
 exact Z06 idH
 obtain ⟨k, hk, hn⟩ := k
 dsimp only at hk hn ⊢
 refine Z0 (sqt 4 rfl (pur 2 rfl (sp rfl (PE.lenSl Z0p rfl) rfl (pur 1 rfl ?_))))
 refine Z5 rfl ?_ ?_ <;> intro hc2
 simp only [cS] at hc2
 obtain ⟨x, hx⟩ : ∃ x, ws[k]? = some x := ⟨_, List.getElem?_eq_getElem (by omega)⟩
 refine Zw (a := a) (sz := 1) (rows := Zh ws) (by intro h0; simp [Zh] at h0; simp [h0] at hx) (fun ba oa he => ?_)
 subst he
 refine Z3 (Z0 (Z7 (sqt 5 rfl (pur 2 rfl (sp rfl (PE.indexAddr Z0N rfl rfl (by omega) (by omega)) rfl (spL rfl rfl (lf0 (x := .int .i64 x) sc3 (by simp [Zh, hx]; rfl) rfl) rfl ?_))))))
 refine clV rfl Z1R rfl rfl (Z1S _ _ _ _ _) ?_
 refine Z5 rfl ?_ ?_ <;> intro hc3
 have hbx : inb x 0 1000 = false := by rw [← Bool.not_eq_true']; exact hc3
 have hres : Z2c s ws = 3 := by unfold Z2c; rw [h8, h9, Z7I hx hbx]; rfl
 refine sqt 1 rfl (pur 1 rfl (Z4 ?_))
 exact rtA rfl rfl rfl ⟨congrArg (Value.int .i64) hres.symm, rfl, rfl⟩ drp
 have hbx : inb x 0 1000 = true := by rw [← Bool.not_eq_false']; exact hc3
 refine Z3 (sqr 3 rfl (pur 1 rfl (sp rfl (PE.add rfl rfl (by omega)) rfl (pur 1 rfl ?_))))
 exact Z0l ⟨k + 1, by omega, Z7U hx hn hbx⟩ idH
 simp only [cS] at hc2
 obtain rfl : k = ws.length := by omega
 rw [List.take_length] at hn
 have hres : Z2c s ws = 0 := by unfold Z2c; rw [h8, h9, hn]; rfl
 refine Zk (Zl (Zl (ZH (sqt 1 rfl (pur 1 rfl (Z4 ?_))))))
 exact rtA rfl rfl rfl ⟨congrArg (Value.int .i64) hres.symm, rfl, rfl⟩ drp
theorem Z4u (ws sh : List Int) (a a2 : Option Addr) (c c2 : Nat) (hl : ws.length ≤ 9223372036854775807) (hl2 : sh.length ≤ 9223372036854775807) (H : Zj) (R : Z9) [hR : MemRows a 1 (Zh ws) R] [hR2 : MemRows a2 1 (Zh sh) R] :
    FnV Tryz.prog 25 [.slice a ws.length c, .slice a2 sh.length c2] H R (.int .i64 (ZV ws sh)) := by
 refine Zq Tryz.func25 rfl Tryz.ntmps25 rfl ?_
 refine sqt 1 rfl (pur 1 rfl (Z0 (sqt 5 rfl (pur 1 rfl (sp rfl (PE.lenSl Z0p rfl) rfl (pur 1 rfl (sp rfl (PE.lenSl Z0p rfl) rfl (pur 1 rfl ?_))))))))
 refine Z5 rfl ?_ ?_ <;> intro hc0
 have h8 : decide (sh.length ≠ ws.length) = true := by simp only [decide_eq_true_eq] at hc0 ⊢; omega
 have hres : ZV ws sh = 2 := by unfold ZV; rw [h8]; rfl
 refine sqt 1 rfl (pur 1 rfl (Z4 ?_))
 exact rtA rfl rfl rfl ⟨congrArg (Value.int .i64) hres.symm, rfl, rfl⟩ drp
 have h8 : decide (sh.length ≠ ws.length) = false := by simp only [decide_eq_false_iff_not] at hc0 ⊢; omega
 refine Z3 (Z0 (sqt 1 rfl (pur 1 rfl (Z7 ?_))))
 refine Zn (ι := {k : Nat // k ≤ sh.length ∧ (sh.take k).all (fun n => inb n 0 1000) = true}) (fun k => ⟨[(1, .slice a2 sh.length c2), (5, .int .i64 k.1)], H, R⟩) (fun k => sh.length - k.1) ⟨0, by simp⟩ ?_ (fun k => ?_)
 exact Z06 idH
 obtain ⟨k, hk, hn⟩ := k
 dsimp only at hk hn ⊢
 refine Z0 (sqt 4 rfl (pur 2 rfl (sp rfl (PE.lenSl Z0p rfl) rfl (pur 1 rfl ?_))))
 refine Z5 rfl ?_ ?_ <;> intro hc1
 simp only [cS] at hc1
 obtain ⟨x, hx⟩ : ∃ x, sh[k]? = some x := ⟨_, List.getElem?_eq_getElem (by omega)⟩
 refine Zw (a := a2) (sz := 1) (rows := Zh sh) (by intro h0; simp [Zh] at h0; simp [h0] at hx) (fun ba oa he => ?_)
 subst he
 refine Z3 (Z0 (Z7 (sqt 5 rfl (pur 2 rfl (sp rfl (PE.indexAddr Z0N rfl rfl (by omega) (by omega)) rfl (spL rfl rfl (lf0 (x := .int .i64 x) sc3 (by simp [Zh, hx]; rfl) rfl) rfl ?_))))))
 refine clV rfl Z1R rfl rfl (Z1S _ _ _ _ _) ?_
 refine Z5 rfl ?_ ?_ <;> intro hc2
 have hbx : inb x 0 1000 = false := by rw [← Bool.not_eq_true']; exact hc2
 have hres : ZV ws sh = 3 := by unfold ZV; rw [h8, Z7I hx hbx]; rfl
 refine sqt 1 rfl (pur 1 rfl (Z4 ?_))
 exact rtA rfl rfl rfl ⟨congrArg (Value.int .i64) hres.symm, rfl, rfl⟩ drp
 have hbx : inb x 0 1000 = true := by rw [← Bool.not_eq_false']; exact hc2
 refine Z3 (sqr 3 rfl (pur 1 rfl (sp rfl (PE.add rfl rfl (by omega)) rfl (pur 1 rfl ?_))))
 exact Z0l ⟨k + 1, by omega, Z7U hx hn hbx⟩ idH
 simp only [cS] at hc1
 obtain rfl : k = sh.length := by omega
 rw [List.take_length] at hn
 have hres : ZV ws sh = 0 := by unfold ZV; rw [h8, hn]; rfl
 refine Zk (Zl (Zl (ZH (sqt 1 rfl (pur 1 rfl (Z4 ?_))))))
 exact rtA rfl rfl rfl ⟨congrArg (Value.int .i64) hres.symm, rfl, rfl⟩ drp
theorem Z9z (s : Int) (ws sh : List Int) (a a2 : Option Addr) (c c2 : Nat) (hl : ws.length ≤ 9223372036854775807) (hl2 : sh.length ≤ 9223372036854775807) (H : Zj) (R : Z9) [hR : MemRows a 1 (Zh ws) R] [hR2 : MemRows a2 1 (Zh sh) R] :
    Fn Tryz.prog 28 [.int .i64 s, .slice a ws.length c, .slice a2 sh.length c2] H R (fun v H' R' => (∃ j, (Z2c s ws = 0 → (Z0K ws j (Zu s ws)).g = false) ∧ v = .tuple #[.bool (Z1r s ws sh j).1, .int .i64 (Z1r s ws sh j).2]) ∧ H' = H ∧ R' = R) := by
 refine Zq Tryz.func28 rfl Tryz.ntmps28 rfl ?_
 refine sqt 2 rfl (pur 2 rfl (sqt 8 rfl (pur 2 rfl ?_)))
 refine cl rfl Zat rfl rfl (Z4i s ws a c hl _ _) ?_
 rintro _ _ _ ⟨⟨hck, rfl, rfl⟩ | ⟨hck, j, bo, hg, rfl, rfl⟩, rfl⟩
 refine pur 5 rfl (Z0 (Z7 (sqt 3 rfl (pur 3 rfl ?_))))
 refine Zm (congrArg (fun b => some (Value.bool b)) (dT hck)) ?_
 refine sqt 3 rfl (pur 3 rfl (Z4 ?_))
 have hres : Z1r s ws sh 0 = (false, Z2c s ws) := by simp [Z1r, hck]
 have hj : Z2c s ws = 0 → (Z0K ws 0 (Zu s ws)).g = false := fun h => absurd h hck
 exact Z2 (vs := [_, _]) (v := .tuple #[.bool (Z1r s ws sh 0).1, .int .i64 (Z1r s ws sh 0).2]) rfl (.cons (RV.tmp rfl) (.cons (RV.tmp rfl) .nil)) (by rw [hres]; rfl) ⟨⟨0, hj, rfl⟩, rfl, rfl⟩ drp
 have hj : Z2c s ws = 0 → (Z0K ws j (Zu s ws)).g = false := fun _ => hg
 have hlo : (Z0K ws j (Zu s ws)).o.length = ws.length := (Z21 j _ (Z1s hck).1).len
 refine Sy.heap (fun w h => St.intRows h) ?_
 rw [← hlo]
 refine pur 5 rfl (Z0 (Z7 (sqt 3 rfl (pur 3 rfl ?_))))
 refine Zz (rfl) ?_
 refine sqt 6 rfl (pur 1 rfl (sp rfl (PE.lenSl Z0p rfl) rfl (pur 1 rfl (sp rfl (PE.lenSl Z0p rfl) rfl (pur 2 rfl ?_)))))
 refine Z5 rfl ?_ ?_ <;> intro hc1
 have h8 : decide (sh.length ≠ ws.length) = true := by simp only [decide_eq_true_eq] at hc1 ⊢; omega
 have hse : ZV ws sh = 2 := by unfold ZV; rw [h8]; rfl
 have hres : Z1r s ws sh j = (false, 2) := by simp [Z1r, hck, hse]
 refine sqt 2 rfl (pur 2 rfl (Z4 ?_))
 exact Z2 (vs := [_, _]) (v := .tuple #[.bool (Z1r s ws sh j).1, .int .i64 (Z1r s ws sh j).2]) rfl (.cons (RV.tmp rfl) (.cons (RV.tmp rfl) .nil)) (by rw [hres]; rfl) ⟨⟨j, hj, rfl⟩, rfl, rfl⟩ drp
 have h8 : decide (sh.length ≠ ws.length) = false := by simp only [decide_eq_false_iff_not] at hc1 ⊢; omega
 refine sqt 4 rfl (pur 1 rfl ?_)
 refine clV rfl Zcl rfl rfl (Z2L sh a2 c2 74 [] [] (fun n => inb n 0 1000) Zew hl2 _ _ (fun _ x _ => Zc8 x _ _)) ?_
 refine pur 2 rfl ?_
 refine Z5 rfl ?_ ?_ <;> intro hc2
 have h9 : (sh.all fun n => inb n 0 1000) = false := by rw [← Bool.not_eq_true']; exact hc2
 have hse : ZV ws sh = 3 := by unfold ZV; rw [h8, h9]; rfl
 have hres : Z1r s ws sh j = (false, 3) := by simp [Z1r, hck, hse]
 refine sqt 2 rfl (pur 2 rfl (Z4 ?_))
 exact Z2 (vs := [_, _]) (v := .tuple #[.bool (Z1r s ws sh j).1, .int .i64 (Z1r s ws sh j).2]) rfl (.cons (RV.tmp rfl) (.cons (RV.tmp rfl) .nil)) (by rw [hres]; rfl) ⟨⟨j, hj, rfl⟩, rfl, rfl⟩ drp
 have h9 : (sh.all fun n => inb n 0 1000) = true := by rw [← Bool.not_eq_false']; exact hc2
 have hse : ZV ws sh = 0 := by unfold ZV; rw [h8, h9]; rfl
 have hres : Z1r s ws sh j = (decide ((Z0K ws j (Zu s ws)).o = sh), 0) := by simp [Z1r, hck, hse]
 refine Z3 (sqt 5 rfl (pur 2 rfl ?_))
 refine clV rfl Zb0 rfl rfl (Z43 (Z0K ws j (Zu s ws)).o sh (some ⟨bo, 0, none⟩) a2 _ c2 (by omega) hl2 _ _) ?_
 refine pur 2 rfl (Z4 ?_)
 exact Z2 (vs := [_, _]) (v := .tuple #[.bool (Z1r s ws sh j).1, .int .i64 (Z1r s ws sh j).2]) rfl (.cons (RV.tmp rfl) (.cons (RV.tmp rfl) .nil)) (by rw [hres]; rfl) ⟨⟨j, hj, rfl⟩, rfl, rfl⟩ drp
theorem Z78 (s : Int) (ws sh : List Int) (a a2 : Option Addr) (c c2 : Nat) (hlen : sh.length = ws.length) (h8 : ws.length ≤ 1000) (hsh : ∀ n ∈ sh, 0 ≤ n ∧ n ≤ 1000) (H : Zj) (R : Z9) [hR : MemRows a 1 (Zh ws) R] [hR2 : MemRows a2 1 (Zh sh) R] :
    FnV Tryz.prog 26 [.int .i64 s, .slice a ws.length c, .slice a2 sh.length c2] H R (.bool (Z0x s ws sh)) := by
 refine Zq Tryz.func26 rfl Tryz.ntmps26 rfl ?_
 refine sqt 1 rfl (pur 1 rfl (sqt 2 rfl (pur 2 rfl (Z0 (sqt 1 rfl (pur 1 rfl (Z7 ?_)))))))
 refine Zn (ι := {k : Nat // k ≤ ws.length ∧ ∀ i, i < k → Z45 ws sh i = true}) (fun k => ⟨[(0, .int .i64 s), (1, .slice a ws.length c), (2, .slice a2 sh.length c2), (7, .int .i64 (sh.take k.1).sum), (8, .bool (decide (sh.take k.1 = ws.take k.1))), (9, .int .i64 k.1)], H, R⟩) (fun k => ws.length - k.1) ⟨0, by omega, by omega⟩ ?_ (fun k => ?_)
 exact Z06 idH
 obtain ⟨i, hi, hok⟩ := k
 dsimp only at hi hok ⊢
 refine Z0 (sqt 4 rfl (pur 2 rfl (sp rfl (PE.lenSl Z0p rfl) rfl (pur 1 rfl ?_))))
 refine Z5 rfl ?_ ?_ <;> intro hc0
 simp only [cS] at hc0
 obtain ⟨x, hx⟩ : ∃ x, sh[i]? = some x := ⟨_, List.getElem?_eq_getElem (by omega)⟩
 obtain ⟨y, hy⟩ : ∃ y, ws[i]? = some y := ⟨_, List.getElem?_eq_getElem (by omega)⟩
 have hxb := hsh x (List.mem_of_getElem? hx)
 have hsb := ZbH (l := sh.take i) (fun n hn => hsh n (List.mem_of_mem_take hn))
 have htl : (sh.take i).length ≤ 1000 := by simp; omega
 refine Zw (a := a) (sz := 1) (rows := Zh ws) (by intro h0; simp [Zh] at h0; simp [h0] at hy) (fun bw ow he => ?_)
 subst he
 refine Zw (a := a2) (sz := 1) (rows := Zh sh) (by intro h0; simp [Zh] at h0; simp [h0] at hx) (fun bs os he => ?_)
 subst he
 refine Z3 (Z0 (Z7 (Z0 (Z0 ?_))))
 refine Ze [0, 0, 3, 7, 0, 0, 48, 112, 255] (tks 0 3 (.ld 3 (tks 4 3 (.ld 7 (.tk 8 .done))))) Zy (by kernel_rfl) ?_
 refine ZD 2 rfl (tk rfl (PE.indexAddr Z0N rfl rfl (by omega) (by omega)) rfl (ld rfl rfl (lf0 (x := .int .i64 x) sc3 (by simp [Zh, hx]; rfl) rfl) rfl (ZD 2 rfl (tk rfl (PE.indexAddr Z0N rfl rfl (by omega) (by omega)) rfl (ld rfl rfl (lf0 (x := .int .i64 y) sc3 (by simp [Zh, hy]; rfl) rfl) rfl (ZD 1 rfl ?_))))))
 refine Z5 rfl ?_ ?_ <;> intro hc1
 simp only [cS] at hc1
 have hbad : Z45 ws sh i = false := by unfold Z45; rw [ZC hx, ZC hy]; simp; omega
 have hres := Z3m (s := s) (by omega : i < ws.length) hbad
 refine sqt 1 rfl (pur 1 rfl (Z4 ?_))
 exact rtA rfl rfl rfl ⟨congrArg Value.bool hres.symm, rfl, rfl⟩ drp
 simp only [cS] at hc1
 refine Z3 (sqt 7 rfl (pur 3 rfl (sp rfl (PE.indexAddr Z0N rfl rfl (by omega) (by omega)) rfl (spL rfl rfl (lf0 (x := .int .i64 x) sc3 (by simp [Zh, hx]; rfl) rfl) rfl (sp rfl (PE.add rfl rfl (by omega)) rfl (pur 1 rfl (Z0 ?_)))))))
 refine Ze [0, 1, 3, 3, 15, 31, 3, 3, 195, 451, 1023, 2047, 4095] (tks 0 5 (.ld 5 (tks 6 3 (.ld 9 (tks 10 3 .done))))) Zy (by kernel_rfl) ?_
 refine ZD 2 rfl ?_
 refine ZE 33 rfl ?_ ?_ <;> intro g33
 have hfull : decide (sh.take (i + 1) = ws.take (i + 1)) = decide (x = y) := by rw [Z9P hx hy, g33]; rfl
 refine ZD 2 rfl ?_
 refine tkG rfl rfl rfl rfl (PE.indexAddr Z0N rfl rfl (by omega) (by omega)) rfl ?_
 refine ldG rfl rfl rfl rfl rfl (lf0 (x := .int .i64 x) sc3 (by simp [Zh, hx]; rfl) rfl) rfl (ZD 2 rfl ?_)
 refine tkG rfl rfl rfl rfl (PE.indexAddr Z0N rfl rfl (by omega) (by omega)) rfl ?_
 refine ldG rfl rfl rfl rfl rfl (lf0 (x := .int .i64 y) sc3 (by simp [Zh, hy]; rfl) rfl) rfl (ZD 3 rfl (sqt 1 rfl (pur 1 rfl (Z7 ?_))))
 have hsum := Z7j hx
 rw [← hsum]
 refine Zn (ι := {k : Nat // k ≤ ws.length ∧ ∀ j, j < k → x < y ∧ (!(decide (sh.getD i 0 + 1 < sh.getD j 0) || (decide (sh.getD j 0 = sh.getD i 0 + 1) && decide (i < j)))) = true}) (fun k => ⟨[(0, .int .i64 s), (1, .slice (some ⟨bw, ow, none⟩) ws.length c), (2, .slice (some ⟨bs, os, none⟩) sh.length c2), (7, .int .i64 (sh.take (i + 1)).sum), (8, .bool (decide (sh.take (i + 1) = ws.take (i + 1)))), (9, .int .i64 i), (10, .int .i64 k.1)], H, R⟩) (fun k => ws.length - k.1) ⟨0, by omega, by omega⟩ ?_ (fun k => ?_)
 exact Z0i (by rw [hfull]; exact (by repeat' first | exact Sub.nil | apply Sub.cons | rfl | (simp [lk]; omega))) idH
 obtain ⟨k, hk, hgo⟩ := k
 dsimp only at hk hgo ⊢
 refine Z0 (Z0 ?_)
 refine Ze [0, 0, 2, 7, 15, 31, 31, 127, 255, 31, 31, 1567, 3615, 8191, 16383] (tks 0 8 (.ld 8 (tks 9 3 (.ld 12 (.tk 13 (.tk 14 .done)))))) Zy (by kernel_rfl) ?_
 refine ZD 2 rfl (tk rfl (PE.lenSl Z0p rfl) rfl (ZD 2 rfl ?_))
 refine ZE 48 rfl ?_ ?_ <;> intro g48
 simp only [cS] at g48
 obtain ⟨z, hz⟩ : ∃ z, sh[k]? = some z := ⟨_, List.getElem?_eq_getElem (by omega)⟩
 have hzb := hsh z (List.mem_of_getElem? hz)
 refine ZD 2 rfl ?_
 refine tkG rfl rfl rfl rfl (PE.indexAddr Z0N rfl rfl (by omega) (by omega)) rfl ?_
 refine ldG rfl rfl rfl rfl rfl (lf0 (x := .int .i64 x) sc3 (by simp [Zh, hx]; rfl) rfl) rfl (ZD 2 rfl ?_)
 refine tkG rfl rfl rfl rfl (PE.indexAddr Z0N rfl rfl (by omega) (by omega)) rfl ?_
 refine ldG rfl rfl rfl rfl rfl (lf0 (x := .int .i64 y) sc3 (by simp [Zh, hy]; rfl) rfl) rfl (ZD 2 rfl ?_)
 refine Z5 rfl ?_ ?_ <;> intro hc2
 simp only [cS] at hc2
 refine Z3 (Z0 (Z7 (Z0 ?_)))
 refine Ze [0, 0, 3, 7, 0, 0, 48, 112, 240, 511, 1023, 2047, 2047, 8191, 16383, 2047, 2047, 100351, 231423, 493567, 1048575, 2097151, 4194303, 4194303, 16777215, 33554431, 67108863] (tks 0 3 (.ld 3 (tks 4 3 (.ld 7 (tks 8 6 (.ld 14 (tks 15 3 (.ld 18 (tks 19 8 .done))))))))) Zy (by kernel_rfl) ?_
 refine ZD 2 rfl (tk rfl (PE.indexAddr Z0N rfl rfl (by omega) (by omega)) rfl (ld rfl rfl (lf0 (x := .int .i64 z) sc3 (by simp [Zh, hz]; rfl) rfl) rfl (ZD 2 rfl (tk rfl (PE.indexAddr Z0N rfl rfl (by omega) (by omega)) rfl (ld rfl rfl (lf0 (x := .int .i64 x) sc3 (by simp [Zh, hx]; rfl) rfl) rfl (tk rfl (PE.add rfl rfl (by omega)) rfl (ZD 2 rfl ?_)))))))
 refine ZE 71 rfl ?_ ?_ <;> intro g71
 simp only [cS] at g71
 have hbad : Z45 ws sh i = false := by
   have h9 : ((List.range ws.length).all fun k => !(decide (sh.getD i 0 + 1 < sh.getD k 0) || (decide (sh.getD k 0 = sh.getD i 0 + 1) && decide (i < k)))) = false := by
     rw [List.all_eq_false]; exact ⟨k, List.mem_range.2 (by omega), by rw [ZC hx, ZC hz]; simp; omega⟩
   unfold Z45; rw [h9, ZC hx, ZC hy]; simp; omega
 have hres := Z3m (s := s) (by omega : i < ws.length) hbad
 refine ZD 3 rfl ?_
 refine ldN rfl rfl rfl rfl rfl rfl rfl rfl ?_
 refine ZD 3 rfl ?_
 refine ldN rfl rfl rfl rfl rfl rfl rfl rfl ?_
 refine ZD 3 rfl ?_
 repeat refine tkU rfl rfl rfl rfl rfl rfl rfl ?_
 refine ZD 2 rfl ?_
 refine Zm rfl ?_
 refine sqt 1 rfl (pur 1 rfl (Z4 ?_))
 exact rtA rfl rfl rfl ⟨congrArg Value.bool hres.symm, rfl, rfl⟩ drp
 simp only [cS] at g71
 refine ZD 2 rfl ?_
 refine tkG rfl rfl rfl rfl (PE.indexAddr Z0N rfl rfl (by omega) (by omega)) rfl ?_
 refine ldG rfl rfl rfl rfl rfl (lf0 (x := .int .i64 z) sc3 (by simp [Zh, hz]; rfl) rfl) rfl (ZD 2 rfl ?_)
 refine tkG rfl rfl rfl rfl (PE.indexAddr Z0N rfl rfl (by omega) (by omega)) rfl ?_
 refine ldG rfl rfl rfl rfl rfl (lf0 (x := .int .i64 x) sc3 (by simp [Zh, hx]; rfl) rfl) rfl ?_
 refine tkG rfl rfl rfl rfl (PE.add rfl rfl (by omega)) rfl ?_
 refine ZD 2 rfl ?_
 refine ZE 82 rfl ?_ ?_ <;> intro g82
 simp only [cS] at g82
 refine ZD 5 rfl ?_
 refine Z5 rfl ?_ ?_ <;> intro hc3
 simp only [cS] at hc3
 have hbad : Z45 ws sh i = false := by
   have h9 : ((List.range ws.length).all fun k => !(decide (sh.getD i 0 + 1 < sh.getD k 0) || (decide (sh.getD k 0 = sh.getD i 0 + 1) && decide (i < k)))) = false := by
     rw [List.all_eq_false]; exact ⟨k, List.mem_range.2 (by omega), by rw [ZC hx, ZC hz]; simp; omega⟩
   unfold Z45; rw [h9, ZC hx, ZC hy]; simp; omega
 have hres := Z3m (s := s) (by omega : i < ws.length) hbad
 refine sqt 1 rfl (pur 1 rfl (Z4 ?_))
 exact rtA rfl rfl rfl ⟨congrArg Value.bool hres.symm, rfl, rfl⟩ drp
 simp only [cS] at hc3
 have hgood : (!(decide (sh.getD i 0 + 1 < sh.getD k 0) || (decide (sh.getD k 0 = sh.getD i 0 + 1) && decide (i < k)))) = true := by rw [ZC hx, ZC hz]; simp; omega
 refine Z3 (sqr 3 rfl (pur 1 rfl (sp rfl (PE.add rfl rfl (by omega)) rfl (pur 1 rfl ?_))))
 exact Zb ⟨k + 1, by omega, fun j hj => by
   rcases Nat.lt_or_ge j k with h1 | h1
   · exact hgo j h1
   · obtain rfl : j = k := by omega
     exact ⟨hc2, hgood⟩⟩ (by dsimp only; omega) (by repeat' first | exact Sub.nil | apply Sub.cons | rfl | (simp [lk]; omega)) idH
 simp only [cS] at g82
 have hgood : (!(decide (sh.getD i 0 + 1 < sh.getD k 0) || (decide (sh.getD k 0 = sh.getD i 0 + 1) && decide (i < k)))) = true := by rw [ZC hx, ZC hz]; simp; omega
 refine ZD 5 rfl ?_
 refine Zz rfl ?_
 refine Z3 (sqr 3 rfl (pur 1 rfl (sp rfl (PE.add rfl rfl (by omega)) rfl (pur 1 rfl ?_))))
 exact Zb ⟨k + 1, by omega, fun j hj => by
   rcases Nat.lt_or_ge j k with h1 | h1
   · exact hgo j h1
   · obtain rfl : j = k := by omega
     exact ⟨hc2, hgood⟩⟩ (by dsimp only; omega) (by repeat' first | exact Sub.nil | apply Sub.cons | rfl | (simp [lk]; omega)) idH
 simp only [cS] at hc2
 have hyes : Z45 ws sh i = true := by unfold Z45; rw [ZC hx, ZC hy]; simp; omega
 refine Zk (Zl (Zl (ZH (sqr 3 rfl (pur 1 rfl (sp rfl (PE.add rfl rfl (by omega)) rfl (pur 1 rfl ?_)))))))
 exact Zb ⟨i + 1, by omega, fun j hj => by
   rcases Nat.lt_or_ge j i with h1 | h1
   · exact hok j h1
   · obtain rfl : j = i := by omega
     exact hyes⟩ (by dsimp only; omega) (by repeat' first | exact Sub.nil | apply Sub.cons | rfl | (simp [lk]; omega)) idH
 simp only [cS] at g48
 have hyes : Z45 ws sh i = true := by
   have h9 : ((List.range ws.length).all fun k => !(decide (sh.getD i 0 + 1 < sh.getD k 0) || (decide (sh.getD k 0 = sh.getD i 0 + 1) && decide (i < k)))) = true := List.all_eq_true.2 fun j hj => (hgo j (by have := List.mem_range.1 hj; omega)).2
   unfold Z45; rw [h9, ZC hx, ZC hy]; simp; omega
 refine ZD 3 rfl ?_
 refine ldN rfl rfl rfl rfl rfl rfl rfl rfl ?_
 refine ZD 3 rfl ?_
 refine ldN rfl rfl rfl rfl rfl rfl rfl rfl ?_
 refine ZD 2 rfl ?_
 refine Zz rfl ?_
 refine Zk (Zl (Zl (ZH (sqr 3 rfl (pur 1 rfl (sp rfl (PE.add rfl rfl (by omega)) rfl (pur 1 rfl ?_)))))))
 exact Zb ⟨i + 1, by omega, fun j hj => by
   rcases Nat.lt_or_ge j i with h1 | h1
   · exact hok j h1
   · obtain rfl : j = i := by omega
     exact hyes⟩ (by dsimp only; omega) (by repeat' first | exact Sub.nil | apply Sub.cons | rfl | (simp [lk]; omega)) idH
 have hfull : decide (sh.take (i + 1) = ws.take (i + 1)) = false := by rw [Z9P hx hy, g33]; rfl
 refine ZD 3 rfl ?_
 refine ldN rfl rfl rfl rfl rfl rfl rfl rfl ?_
 refine ZD 3 rfl ?_
 refine ldN rfl rfl rfl rfl rfl rfl rfl rfl ?_
 refine ZD 3 rfl (sqt 1 rfl (pur 1 rfl (Z7 ?_)))
 have hsum := Z7j hx
 rw [← hsum]
 refine Zn (ι := {k : Nat // k ≤ ws.length ∧ ∀ j, j < k → x < y ∧ (!(decide (sh.getD i 0 + 1 < sh.getD j 0) || (decide (sh.getD j 0 = sh.getD i 0 + 1) && decide (i < j)))) = true}) (fun k => ⟨[(0, .int .i64 s), (1, .slice (some ⟨bw, ow, none⟩) ws.length c), (2, .slice (some ⟨bs, os, none⟩) sh.length c2), (7, .int .i64 (sh.take (i + 1)).sum), (8, .bool (decide (sh.take (i + 1) = ws.take (i + 1)))), (9, .int .i64 i), (10, .int .i64 k.1)], H, R⟩) (fun k => ws.length - k.1) ⟨0, by omega, by omega⟩ ?_ (fun k => ?_)
 exact Z0i (by rw [hfull]; exact (by repeat' first | exact Sub.nil | apply Sub.cons | rfl | (simp [lk]; omega))) idH
 obtain ⟨k, hk, hgo⟩ := k
 dsimp only at hk hgo ⊢
 refine Z0 (Z0 ?_)
 refine Ze [0, 0, 2, 7, 15, 31, 31, 127, 255, 31, 31, 1567, 3615, 8191, 16383] (tks 0 8 (.ld 8 (tks 9 3 (.ld 12 (.tk 13 (.tk 14 .done)))))) Zy (by kernel_rfl) ?_
 refine ZD 2 rfl (tk rfl (PE.lenSl Z0p rfl) rfl (ZD 2 rfl ?_))
 refine ZE 48 rfl ?_ ?_ <;> intro g48
 simp only [cS] at g48
 obtain ⟨z, hz⟩ : ∃ z, sh[k]? = some z := ⟨_, List.getElem?_eq_getElem (by omega)⟩
 have hzb := hsh z (List.mem_of_getElem? hz)
 refine ZD 2 rfl ?_
 refine tkG rfl rfl rfl rfl (PE.indexAddr Z0N rfl rfl (by omega) (by omega)) rfl ?_
 refine ldG rfl rfl rfl rfl rfl (lf0 (x := .int .i64 x) sc3 (by simp [Zh, hx]; rfl) rfl) rfl (ZD 2 rfl ?_)
 refine tkG rfl rfl rfl rfl (PE.indexAddr Z0N rfl rfl (by omega) (by omega)) rfl ?_
 refine ldG rfl rfl rfl rfl rfl (lf0 (x := .int .i64 y) sc3 (by simp [Zh, hy]; rfl) rfl) rfl (ZD 2 rfl ?_)
 refine Z5 rfl ?_ ?_ <;> intro hc2
 simp only [cS] at hc2
 refine Z3 (Z0 (Z7 (Z0 ?_)))
 refine Ze [0, 0, 3, 7, 0, 0, 48, 112, 240, 511, 1023, 2047, 2047, 8191, 16383, 2047, 2047, 100351, 231423, 493567, 1048575, 2097151, 4194303, 4194303, 16777215, 33554431, 67108863] (tks 0 3 (.ld 3 (tks 4 3 (.ld 7 (tks 8 6 (.ld 14 (tks 15 3 (.ld 18 (tks 19 8 .done))))))))) Zy (by kernel_rfl) ?_
 refine ZD 2 rfl (tk rfl (PE.indexAddr Z0N rfl rfl (by omega) (by omega)) rfl (ld rfl rfl (lf0 (x := .int .i64 z) sc3 (by simp [Zh, hz]; rfl) rfl) rfl (ZD 2 rfl (tk rfl (PE.indexAddr Z0N rfl rfl (by omega) (by omega)) rfl (ld rfl rfl (lf0 (x := .int .i64 x) sc3 (by simp [Zh, hx]; rfl) rfl) rfl (tk rfl (PE.add rfl rfl (by omega)) rfl (ZD 2 rfl ?_)))))))
 refine ZE 71 rfl ?_ ?_ <;> intro g71
 simp only [cS] at g71
 have hbad : Z45 ws sh i = false := by
   have h9 : ((List.range ws.length).all fun k => !(decide (sh.getD i 0 + 1 < sh.getD k 0) || (decide (sh.getD k 0 = sh.getD i 0 + 1) && decide (i < k)))) = false := by
     rw [List.all_eq_false]; exact ⟨k, List.mem_range.2 (by omega), by rw [ZC hx, ZC hz]; simp; omega⟩
   unfold Z45; rw [h9, ZC hx, ZC hy]; simp; omega
 have hres := Z3m (s := s) (by omega : i < ws.length) hbad
 refine ZD 3 rfl ?_
 refine ldN rfl rfl rfl rfl rfl rfl rfl rfl ?_
 refine ZD 3 rfl ?_
 refine ldN rfl rfl rfl rfl rfl rfl rfl rfl ?_
 refine ZD 3 rfl ?_
 repeat refine tkU rfl rfl rfl rfl rfl rfl rfl ?_
 refine ZD 2 rfl ?_
 refine Zm rfl ?_
 refine sqt 1 rfl (pur 1 rfl (Z4 ?_))
 exact rtA rfl rfl rfl ⟨congrArg Value.bool hres.symm, rfl, rfl⟩ drp
 simp only [cS] at g71
 refine ZD 2 rfl ?_
 refine tkG rfl rfl rfl rfl (PE.indexAddr Z0N rfl rfl (by omega) (by omega)) rfl ?_
 refine ldG rfl rfl rfl rfl rfl (lf0 (x := .int .i64 z) sc3 (by simp [Zh, hz]; rfl) rfl) rfl (ZD 2 rfl ?_)
 refine tkG rfl rfl rfl rfl (PE.indexAddr Z0N rfl rfl (by omega) (by omega)) rfl ?_
 refine ldG rfl rfl rfl rfl rfl (lf0 (x := .int .i64 x) sc3 (by simp [Zh, hx]; rfl) rfl) rfl ?_
 refine tkG rfl rfl rfl rfl (PE.add rfl rfl (by omega)) rfl ?_
 refine ZD 2 rfl ?_
 refine ZE 82 rfl ?_ ?_ <;> intro g82
 simp only [cS] at g82
 refine ZD 5 rfl ?_
 refine Z5 rfl ?_ ?_ <;> intro hc3
 simp only [cS] at hc3
 have hbad : Z45 ws sh i = false := by
   have h9 : ((List.range ws.length).all fun k => !(decide (sh.getD i 0 + 1 < sh.getD k 0) || (decide (sh.getD k 0 = sh.getD i 0 + 1) && decide (i < k)))) = false := by
     rw [List.all_eq_false]; exact ⟨k, List.mem_range.2 (by omega), by rw [ZC hx, ZC hz]; simp; omega⟩
   unfold Z45; rw [h9, ZC hx, ZC hy]; simp; omega
 have hres := Z3m (s := s) (by omega : i < ws.length) hbad
 refine sqt 1 rfl (pur 1 rfl (Z4 ?_))
 exact rtA rfl rfl rfl ⟨congrArg Value.bool hres.symm, rfl, rfl⟩ drp
 simp only [cS] at hc3
 have hgood : (!(decide (sh.getD i 0 + 1 < sh.getD k 0) || (decide (sh.getD k 0 = sh.getD i 0 + 1) && decide (i < k)))) = true := by rw [ZC hx, ZC hz]; simp; omega
 refine Z3 (sqr 3 rfl (pur 1 rfl (sp rfl (PE.add rfl rfl (by omega)) rfl (pur 1 rfl ?_))))
 exact Zb ⟨k + 1, by omega, fun j hj => by
   rcases Nat.lt_or_ge j k with h1 | h1
   · exact hgo j h1
   · obtain rfl : j = k := by omega
     exact ⟨hc2, hgood⟩⟩ (by dsimp only; omega) (by repeat' first | exact Sub.nil | apply Sub.cons | rfl | (simp [lk]; omega)) idH
 simp only [cS] at g82
 have hgood : (!(decide (sh.getD i 0 + 1 < sh.getD k 0) || (decide (sh.getD k 0 = sh.getD i 0 + 1) && decide (i < k)))) = true := by rw [ZC hx, ZC hz]; simp; omega
 refine ZD 5 rfl ?_
 refine Zz rfl ?_
 refine Z3 (sqr 3 rfl (pur 1 rfl (sp rfl (PE.add rfl rfl (by omega)) rfl (pur 1 rfl ?_))))
 exact Zb ⟨k + 1, by omega, fun j hj => by
   rcases Nat.lt_or_ge j k with h1 | h1
   · exact hgo j h1
   · obtain rfl : j = k := by omega
     exact ⟨hc2, hgood⟩⟩ (by dsimp only; omega) (by repeat' first | exact Sub.nil | apply Sub.cons | rfl | (simp [lk]; omega)) idH
 simp only [cS] at hc2
 have hyes : Z45 ws sh i = true := by unfold Z45; rw [ZC hx, ZC hy]; simp; omega
 refine Zk (Zl (Zl (ZH (sqr 3 rfl (pur 1 rfl (sp rfl (PE.add rfl rfl (by omega)) rfl (pur 1 rfl ?_)))))))
 exact Zb ⟨i + 1, by omega, fun j hj => by
   rcases Nat.lt_or_ge j i with h1 | h1
   · exact hok j h1
   · obtain rfl : j = i := by omega
     exact hyes⟩ (by dsimp only; omega) (by repeat' first | exact Sub.nil | apply Sub.cons | rfl | (simp [lk]; omega)) idH
 simp only [cS] at g48
 have hyes : Z45 ws sh i = true := by
   have h9 : ((List.range ws.length).all fun k => !(decide (sh.getD i 0 + 1 < sh.getD k 0) || (decide (sh.getD k 0 = sh.getD i 0 + 1) && decide (i < k)))) = true := List.all_eq_true.2 fun j hj => (hgo j (by have := List.mem_range.1 hj; omega)).2
   unfold Z45; rw [h9, ZC hx, ZC hy]; simp; omega
 refine ZD 3 rfl ?_
 refine ldN rfl rfl rfl rfl rfl rfl rfl rfl ?_
 refine ZD 3 rfl ?_
 refine ldN rfl rfl rfl rfl rfl rfl rfl rfl ?_
 refine ZD 2 rfl ?_
 refine Zz rfl ?_
 refine Zk (Zl (Zl (ZH (sqr 3 rfl (pur 1 rfl (sp rfl (PE.add rfl rfl (by omega)) rfl (pur 1 rfl ?_)))))))
 exact Zb ⟨i + 1, by omega, fun j hj => by
   rcases Nat.lt_or_ge j i with h1 | h1
   · exact hok j h1
   · obtain rfl : j = i := by omega
     exact hyes⟩ (by dsimp only; omega) (by repeat' first | exact Sub.nil | apply Sub.cons | rfl | (simp [lk]; omega)) idH
 simp only [cS] at hc0
 obtain rfl : i = ws.length := by omega
 have hall : (List.range ws.length).all (Z45 ws sh) = true := List.all_eq_true.2 fun i h => hok i (List.mem_range.1 h)
 rw [show sh.take ws.length = sh from by rw [← hlen]; exact List.take_length, List.take_length]
 have hfe : Z0x s ws sh = (decide (sh.sum = s) || (decide (sh = ws) && decide (sh.sum ≤ s))) := by unfold Z0x; rw [hall]; rfl
 refine Zk (Zl (Zl (ZH (sqt 12 rfl (pur 4 rfl ?_)))))
 refine ZE 91 rfl ?_ ?_ <;> intro g91
 have hres : Z0x s ws sh = true := by rw [hfe, g91]; rfl
 refine pur 2 rfl ?_
 repeat refine spU rfl rfl rfl rfl rfl rfl rfl ?_
 refine pur 3 rfl (Z4 ?_)
 exact rtA rfl rfl rfl ⟨congrArg Value.bool hres.symm, rfl, rfl⟩ drp
 refine pur 2 rfl ?_
 refine ZE 93 rfl ?_ ?_ <;> intro g93
 have hres : Z0x s ws sh = decide (sh.sum ≤ s) := by rw [hfe, g91, g93]; rfl
 refine pur 6 rfl (Z4 ?_)
 exact rtA rfl rfl rfl ⟨congrArg Value.bool hres.symm, rfl, rfl⟩ drp
 have hres : Z0x s ws sh = false := by rw [hfe, g91, g93]; rfl
 refine pur 6 rfl (Z4 ?_)
 exact rtA rfl rfl rfl ⟨congrArg Value.bool hres.symm, rfl, rfl⟩ drp
theorem Z5U {s : Int} {ws sh : List Int} {j : Nat} (h : Z2c s ws = 0 → (Z0K ws j (Zu s ws)).g = false) : Z1r s ws sh j = bif decide (Z2c s ws ≠ 0) then (false, Z2c s ws) else bif decide (ZV ws sh ≠ 0) then (false, ZV ws sh) else (Z0x s ws sh, 0) := by
  unfold Z1r
  by_cases h0 : Z2c s ws = 0
  · by_cases h1 : ZV ws sh = 0
    · have hg := h h0
      obtain ⟨_, hf⟩ := Z3y h0 hg
      have hl := (Z21 j _ (Z1s h0).1).len
      have hl2 : sh.length = ws.length := by
        by_cases h2 : sh.length = ws.length
        · exact h2
        · unfold ZV at h1; simp [h2] at h1
      have e : decide ((Z0K ws j (Zu s ws)).o = sh) = Z0x s ws sh := by
        cases hr : Z0x s ws sh with
        | true => simp [Z92 hl hl2 hf hr]
        | false =>
          have : (Z0K ws j (Zu s ws)).o ≠ sh := fun e => by rw [e, hr] at hf; cases hf
          simp [this]
      simp [h0, h1, e]
    · simp [h0, h1]
  · simp [h0]
theorem Z3r {ws sh : List Int} (h : ZV ws sh = 0) : sh.length = ws.length ∧ ∀ n ∈ sh, 0 ≤ n ∧ n ≤ 1000 := by
  unfold ZV at h
  cases h1 : decide (sh.length ≠ ws.length) <;> rw [h1] at h
  rotate_left
  · cases h
  cases h2 : sh.all fun n => inb n 0 1000 <;> rw [h2] at h
  · cases h
  exact ⟨by simpa using h1, fun n hn => by simpa using List.all_eq_true.1 h2 n hn⟩
theorem Z0A (s : Int) (ws sh : List Int) (a a2 : Option Addr) (c c2 : Nat) (hl : ws.length ≤ 9223372036854775807) (hl2 : sh.length ≤ 9223372036854775807) (H : Zj) (R : Z9) [hR : MemRows a 1 (Zh ws) R] [hR2 : MemRows a2 1 (Zh sh) R] :
    Fn Tryz.prog 10 [.int .i64 s, .slice a ws.length c, .slice a2 sh.length c2] H R (fun v H' R' => v = .bool true ∧ H' = H ∧ R' = R) := by
 refine Zq Tryz.func10 rfl Tryz.ntmps10 rfl ?_
 refine sqt 1 rfl (pur 1 rfl (Z0 (sqt 8 rfl (pur 1 rfl (sp rfl (PE.lenSl Z0p rfl) rfl (pur 2 rfl ?_))))))
 refine ZE 19 rfl ?_ ?_ <;> intro g19
 refine pur 4 rfl ?_
 refine Zm rfl ?_
 refine sqt 2 rfl ?_
 refine clV rfl Z1f rfl rfl (Z00 _ _) ?_
 refine pur 1 rfl (Z4 ?_)
 exact rtA rfl rfl rfl ⟨rfl, rfl, rfl⟩ drp
 simp only [cS] at g19
 refine pur 1 rfl ?_
 refine spG rfl rfl rfl rfl (PE.lenSl Z0p rfl) rfl ?_
 refine pur 2 rfl ?_
 refine Z5 rfl ?_ ?_ <;> intro hc0
 refine sqt 2 rfl ?_
 refine clV rfl Z1f rfl rfl (Z00 _ _) ?_
 refine pur 1 rfl (Z4 ?_)
 exact rtA rfl rfl rfl ⟨rfl, rfl, rfl⟩ drp
 simp only [cS] at hc0
 refine Z3 (sqt 6 rfl (pur 1 rfl ?_))
 refine cl rfl Z3v rfl rfl (Z0d ws a c (by omega) _ _) ?_
 rintro _ _ _ ⟨o1, rfl, ⟨x1, y1, he1⟩, rfl, rfl⟩
 obtain ⟨a3, c3, ho1, hf1⟩ := o1.freeze
 rw [ho1]
 refine Sy.heap (fun w h => hf1 h) ?_
 rw [show (Zh ws).length = ws.length from List.length_map _]
 refine pur 1 rfl ?_
 refine cl rfl Z3v rfl rfl (Z0d sh a2 c2 (by omega) _ _) ?_
 rintro _ _ _ ⟨o2, rfl, ⟨x2, y2, he2⟩, rfl, rfl⟩
 obtain ⟨a4, c4, ho2, hf2⟩ := o2.freeze
 rw [ho2]
 refine Sy.heap (fun w h => hf2 h) ?_
 rw [show (Zh sh).length = sh.length from List.length_map _]
 refine pur 2 rfl (sqt 4 rfl (pur 2 rfl ?_))
 refine clV rfl Zfq rfl rfl (Zbc s ws a c hl _ _) ?_
 refine pur 1 rfl (sqt 2 rfl (pur 2 rfl (sqt 1 rfl (pur 1 rfl (Z0 (sqt 2 rfl (pur 2 rfl ?_)))))))
 refine Z5 rfl ?_ ?_ <;> intro hc1
 have hck : Z2c s ws = 0 := by simpa using hc1
 obtain ⟨hi1, hi2, hi3, hi4⟩ := Z1s hck
 refine sqt 4 rfl (pur 2 rfl ?_)
 refine clV rfl Zce rfl rfl (Z4u ws sh a a2 c c2 hl hl2 _ _) ?_
 refine pur 1 rfl (sqt 2 rfl (pur 2 rfl ?_))
 refine Z5 rfl ?_ ?_ <;> intro hc2
 have hse : ZV ws sh = 0 := by simpa using hc2
 obtain ⟨hse1, hse2⟩ := Z3r hse
 refine sqr 5 rfl (pur 3 rfl ?_)
 refine clV rfl ZcK rfl rfl (Z78 s ws sh a a2 c c2 hse1 (by omega) hse2 _ _) ?_
 refine pur 1 rfl (sqt 8 rfl (pur 2 rfl ?_))
 refine cl rfl Zat rfl rfl (Z4i s ws a3 c3 hl _ _) ?_
 rintro _ _ _ ⟨h, rfl⟩
 obtain ⟨_, j, bo, hg, hv, rfl⟩ := h.resolve_left (fun h => h.1 hck)
 have hlo : (Z0K ws j (Zu s ws)).o.length = ws.length := (Z21 j _ hi1).len
 have hsf := Z3y hck hg
 have hsk := Z3r hsf.1
 refine Sy.heap (fun w h => St.intRows h) ?_
 generalize (Z0K ws j (Zu s ws)).o = out at *
 rw [← hlo] at hv
 subst hv
 refine pur 5 rfl (sqt 9 rfl (pur 3 rfl ?_))
 refine cl rfl ZbT rfl rfl (Z9z s ws sh a3 a4 c3 c4 hl hl2 _ _) ?_
 rintro _ _ _ ⟨⟨j2, hj2, rfl⟩, rfl, rfl⟩
 have e : Z1r s ws sh j2 = (Z0x s ws sh, 0) := by rw [Z5U hj2]; simp [hck, hse]
 rw [e]
 refine pur 5 rfl (Z0 (sqt 25 rfl (pur 4 rfl ?_)))
 refine ZE 60 rfl ?_ ?_ <;> intro g60
 exact absurd g60 (by first | (simp; done) | (simp [hck]; done) | (simp [hse]; done))
 refine pur 5 rfl ?_
 refine ZE 65 rfl ?_ ?_ <;> intro g65
 exact absurd g65 (by first | (simp; done) | (simp [hck]; done) | (simp [hse]; done))
 refine pur 2 rfl ?_
 refine spG rfl rfl rfl rfl (PE.neqBool ub4 rfl rfl) rfl ?_
 refine pur 2 rfl ?_
 refine ZE 70 rfl ?_ ?_ <;> intro g70
 exact absurd g70 (by first | (simp; done) | (simp [hck]; done) | (simp [hse]; done))
 refine pur 2 rfl ?_
 refine Z0k rfl rfl rfl rfl Z4N rfl rfl (Z1a ws ws a3 a c3 c hl hl _ _) ?_
 refine pur 3 rfl ?_
 refine ZE 76 rfl ?_ ?_ <;> intro g76
 exact absurd g76 (by first | (simp; done) | (simp [hck]; done) | (simp [hse]; done))
 refine pur 2 rfl ?_
 refine Z0k rfl rfl rfl rfl Z4N rfl rfl (Z1a sh sh a4 a2 c4 c2 hl2 hl2 _ _) ?_
 refine pur 2 rfl ?_
 refine Z5 rfl ?_ ?_ <;> intro hc3
 exact absurd hc3 (by simp)
 refine Z3 (Z0 (sqt 2 rfl (pur 2 rfl ?_)))
 refine Zz (congrArg (fun b => some (Value.bool b)) (dF (by simp [hck]))) ?_
 refine Z3 (sqt 14 rfl (pur 2 rfl ?_))
 refine clV rfl Zce rfl rfl (Z4u ws out a (some ⟨bo, 0, none⟩) c _ hl (by omega) _ _) ?_
 refine pur 2 rfl ?_
 refine ZE 94 rfl ?_ ?_ <;> intro g94
 refine pur 3 rfl ?_
 refine Z0k rfl rfl rfl rfl ZcK rfl rfl (Z78 s ws out a (some ⟨bo, 0, none⟩) c _ hlo (by omega) hsk.2 _ _) ?_
 refine pur 2 rfl ?_
 refine ZE 100 rfl ?_ ?_ <;> intro g100
 refine Z0k rfl rfl rfl rfl Z1f rfl rfl (Z00 _ _) ?_
 refine pur 2 rfl (Z4 ?_)
 exact rtA rfl rfl rfl ⟨rfl, rfl, rfl⟩ drp
 exact absurd g100 (by simp [hsf.2])
 exact absurd g94 (by simp [hsf.1])
 have hse : ZV ws sh ≠ 0 := by simpa using hc2
 refine Z3 (sqt 8 rfl (pur 2 rfl ?_))
 refine cl rfl Zat rfl rfl (Z4i s ws a3 c3 hl _ _) ?_
 rintro _ _ _ ⟨h, rfl⟩
 obtain ⟨_, j, bo, hg, hv, rfl⟩ := h.resolve_left (fun h => h.1 hck)
 have hlo : (Z0K ws j (Zu s ws)).o.length = ws.length := (Z21 j _ hi1).len
 have hsf := Z3y hck hg
 have hsk := Z3r hsf.1
 refine Sy.heap (fun w h => St.intRows h) ?_
 generalize (Z0K ws j (Zu s ws)).o = out at *
 rw [← hlo] at hv
 subst hv
 refine pur 5 rfl (sqt 9 rfl (pur 3 rfl ?_))
 refine cl rfl ZbT rfl rfl (Z9z s ws sh a3 a4 c3 c4 hl hl2 _ _) ?_
 rintro _ _ _ ⟨⟨j2, hj2, rfl⟩, rfl, rfl⟩
 have e : Z1r s ws sh j2 = (false, ZV ws sh) := by rw [Z5U hj2]; simp [hck, hse]
 rw [e]
 refine pur 5 rfl (Z0 (sqt 25 rfl (pur 4 rfl ?_)))
 refine ZE 60 rfl ?_ ?_ <;> intro g60
 exact absurd g60 (by first | (simp; done) | (simp [hck]; done) | (simp [hse]; done))
 refine pur 5 rfl ?_
 refine ZE 65 rfl ?_ ?_ <;> intro g65
 exact absurd g65 (by first | (simp; done) | (simp [hck]; done) | (simp [hse]; done))
 refine pur 2 rfl ?_
 refine spG rfl rfl rfl rfl (PE.neqBool ub4 rfl rfl) rfl ?_
 refine pur 2 rfl ?_
 refine ZE 70 rfl ?_ ?_ <;> intro g70
 exact absurd g70 (by first | (simp; done) | (simp [hck]; done) | (simp [hse]; done))
 refine pur 2 rfl ?_
 refine Z0k rfl rfl rfl rfl Z4N rfl rfl (Z1a ws ws a3 a c3 c hl hl _ _) ?_
 refine pur 3 rfl ?_
 refine ZE 76 rfl ?_ ?_ <;> intro g76
 exact absurd g76 (by first | (simp; done) | (simp [hck]; done) | (simp [hse]; done))
 refine pur 2 rfl ?_
 refine Z0k rfl rfl rfl rfl Z4N rfl rfl (Z1a sh sh a4 a2 c4 c2 hl2 hl2 _ _) ?_
 refine pur 2 rfl ?_
 refine Z5 rfl ?_ ?_ <;> intro hc3
 exact absurd hc3 (by simp)
 refine Z3 (Z0 (sqt 2 rfl (pur 2 rfl ?_)))
 refine Zz (congrArg (fun b => some (Value.bool b)) (dF (by simp [hck]))) ?_
 refine Z3 (sqt 14 rfl (pur 2 rfl ?_))
 refine clV rfl Zce rfl rfl (Z4u ws out a (some ⟨bo, 0, none⟩) c _ hl (by omega) _ _) ?_
 refine pur 2 rfl ?_
 refine ZE 94 rfl ?_ ?_ <;> intro g94
 refine pur 3 rfl ?_
 refine Z0k rfl rfl rfl rfl ZcK rfl rfl (Z78 s ws out a (some ⟨bo, 0, none⟩) c _ hlo (by omega) hsk.2 _ _) ?_
 refine pur 2 rfl ?_
 refine ZE 100 rfl ?_ ?_ <;> intro g100
 refine Z0k rfl rfl rfl rfl Z1f rfl rfl (Z00 _ _) ?_
 refine pur 2 rfl (Z4 ?_)
 exact rtA rfl rfl rfl ⟨rfl, rfl, rfl⟩ drp
 exact absurd g100 (by simp [hsf.2])
 exact absurd g94 (by simp [hsf.1])
 have hck : Z2c s ws ≠ 0 := by simpa using hc1
 refine Z3 (sqt 8 rfl (pur 2 rfl ?_))
 refine cl rfl Zat rfl rfl (Z4i s ws a3 c3 hl _ _) ?_
 rintro _ _ _ ⟨h, rfl⟩
 obtain ⟨_, rfl, rfl⟩ := h.resolve_right (fun h => hck h.1)
 refine pur 5 rfl (sqt 9 rfl (pur 3 rfl ?_))
 refine cl rfl ZbT rfl rfl (Z9z s ws sh a3 a4 c3 c4 hl hl2 _ _) ?_
 rintro _ _ _ ⟨⟨j2, hj2, rfl⟩, rfl, rfl⟩
 have e : Z1r s ws sh j2 = (false, Z2c s ws) := by rw [Z5U hj2]; simp [hck]
 rw [e]
 refine pur 5 rfl (Z0 (sqt 25 rfl (pur 4 rfl ?_)))
 refine ZE 60 rfl ?_ ?_ <;> intro g60
 exact absurd g60 (by first | (simp; done) | (simp [hck]; done) | (simp [hse]; done))
 refine pur 5 rfl ?_
 refine ZE 65 rfl ?_ ?_ <;> intro g65
 exact absurd g65 (by first | (simp; done) | (simp [hck]; done) | (simp [hse]; done))
 refine pur 2 rfl ?_
 refine spG rfl rfl rfl rfl (PE.neqBool ub4 rfl rfl) rfl ?_
 refine pur 2 rfl ?_
 refine ZE 70 rfl ?_ ?_ <;> intro g70
 exact absurd g70 (by first | (simp; done) | (simp [hck]; done) | (simp [hse]; done))
 refine pur 2 rfl ?_
 refine Z0k rfl rfl rfl rfl Z4N rfl rfl (Z1a ws ws a3 a c3 c hl hl _ _) ?_
 refine pur 3 rfl ?_
 refine ZE 76 rfl ?_ ?_ <;> intro g76
 exact absurd g76 (by first | (simp; done) | (simp [hck]; done) | (simp [hse]; done))
 refine pur 2 rfl ?_
 refine Z0k rfl rfl rfl rfl Z4N rfl rfl (Z1a sh sh a4 a2 c4 c2 hl2 hl2 _ _) ?_
 refine pur 2 rfl ?_
 refine Z5 rfl ?_ ?_ <;> intro hc3
 exact absurd hc3 (by simp)
 refine Z3 (Z0 (sqt 2 rfl (pur 2 rfl ?_)))
 refine Zm (congrArg (fun b => some (Value.bool b)) (dT hck)) ?_
 refine sqt 7 rfl (pur 1 rfl (sp rfl (PE.lenSl Z0p rfl) rfl (pur 2 rfl ?_)))
 refine ZE 87 rfl ?_ ?_ <;> intro g87
 refine Z0k rfl rfl rfl rfl Z1f rfl rfl (Z00 _ _) ?_
 refine pur 2 rfl (Z4 ?_)
 exact rtA rfl rfl rfl ⟨rfl, rfl, rfl⟩ drp
 exact absurd g87 (by simp)
end Go.Proofs.YthhdgeibokecjaaGreat.Bd
namespace Go.Proofs.YthhdgeibokecjaaGreat.Bd
set_option linter.unusedSimpArgs false
set_option linter.unusedVariables false
def ixr (t : Twn) (s : Sta) : Nat := (s.stock.toNat * (t.patience.toNat + 1) + s.short.toNat) * (t.run.toNat + 1) + s.dry.toNat
theorem Z4b {t : Twn} {s : Sta} (h : s.right t = true) : (sts t)[ixr t s]? = some s ∧ ixr t s < t.nst := by
  have h1 := right_iff.1 h
  have h2 := Z6f (t := t) (a := s.stock.toNat) (b := s.short.toNat) (c := s.dry.toNat) (by omega) (by omega) (by omega)
  refine ⟨?_, h2⟩
  rw [ixr, Z5t h2, Z41 (by omega) (by omega)]
  obtain ⟨a, b, c⟩ := s
  simp only at h1 ⊢
  rw [Int.toNat_of_nonneg h1.1.1, Int.toNat_of_nonneg h1.2.1.1, Int.toNat_of_nonneg h1.2.2.1]
theorem ZR {t : Twn} {s : Sta} (h : s.right t = true) : ixr t s < t.nst := (Z4b h).2
theorem Z59 {t : Twn} {s : Sta} {i : Nat} (h : (sts t)[i]? = some s) (hs : s.right t = true) : ixr t s = i := by
  have h1 := (Z4b hs).1
  have hi := (List.getElem?_eq_some_iff.1 h).1
  have hj := (List.getElem?_eq_some_iff.1 h1).1
  have := (List.getElem?_inj hj (Z6t t)).1 (h1.trans h.symm)
  exact this
theorem ZS {t : Twn} {s u : Sta} (hs : s.right t = true) (hu : u.right t = true) (h : ixr t s = ixr t u) : s = u := by
  have h1 := (Z4b hs).1
  rw [h, (Z4b hu).1] at h1
  cases h1; rfl
theorem ZcB {t : Twn} (ht : t.ok) {s : Sta} (h : s.right t = true) : (ixr t s : Int) = (s.stock * (t.patience + 1) + s.short) * (t.run + 1) + s.dry := by
  have h1 := right_iff.1 h
  have h2 := ht.patience
  have h3 := ht.run
  unfold ixr
  push_cast
  rw [Int.toNat_of_nonneg h1.1.1, Int.toNat_of_nonneg h1.2.1.1, Int.toNat_of_nonneg h1.2.2.1, Int.toNat_of_nonneg h2.1, Int.toNat_of_nonneg h3.1]
theorem Z5K {p : Rn → Bool} {l : List Rn} : ∀ (m : Nat), m ≤ l.length → (Z10 p l m).length = ((l.take m).filter p).length ∧
    ∀ (k : Nat) (r : Int), (Z10 p l m)[k]? = some r → ∃ q, 0 ≤ r ∧ l[r.toNat]? = some q ∧ p q = true ∧ ((l.take m).filter p)[k]? = some q
  | 0, _ => ⟨by simp [Z10], fun k r h => by simp [Z10] at h⟩
  | m + 1, hm => by
    obtain ⟨h1, h2⟩ := Z5K (p := p) (l := l) m (by omega)
    obtain ⟨q, hq⟩ : ∃ q, l[m]? = some q := ⟨_, List.getElem?_eq_getElem (by omega)⟩
    rw [Z0F hq, List.take_add_one, hq, Option.toList_some, List.filter_append]
    cases hp : p q with
    | false => simp only [cond_false, List.filter_cons, hp, Bool.false_eq_true, if_false, List.filter_nil, List.append_nil]; exact ⟨h1, h2⟩
    | true =>
      simp only [cond_true, List.filter_cons, hp, if_true, List.filter_nil]
      refine ⟨by simp [h1], fun k r h => ?_⟩
      rcases Nat.lt_or_ge k (Z10 p l m).length with h3 | h3
      · rw [List.getElem?_append_left h3] at h
        obtain ⟨q', a, b, c, d⟩ := h2 k r h
        exact ⟨q', a, b, c, by rw [List.getElem?_append_left (by omega)]; exact d⟩
      · rw [List.getElem?_append_right h3] at h
        have hk : k - (Z10 p l m).length = 0 := by
          rcases Nat.eq_zero_or_pos (k - (Z10 p l m).length) with h4 | h4
          · exact h4
          · rw [List.getElem?_eq_none (by simp; omega)] at h; cases h
        rw [hk] at h
        simp only [List.getElem?_cons_zero, Option.some.injEq] at h
        subst h
        refine ⟨q, by omega, by simpa using hq, hp, ?_⟩
        rw [List.getElem?_append_right (by omega), ← h1, hk]; rfl
def Z2G (t : Twn) (s : Sta) : List Rn := t.rats.filter (t.can s)
def Z4P (t : Twn) (s : Sta) : List Int := Z10 (t.can s) t.rats t.rats.length
theorem Z1m (t : Twn) (s : Sta) : (Z4P t s).length = (Z2G t s).length := by
  have := (Z5K (p := t.can s) (l := t.rats) t.rats.length (Nat.le_refl _)).1
  rwa [List.take_length] at this
theorem Z5z {t : Twn} {s : Sta} {k : Nat} {r : Int} (h : (Z4P t s)[k]? = some r) : ∃ q, 0 ≤ r ∧ t.rats[r.toNat]? = some q ∧ t.can s q = true ∧ (Z2G t s)[k]? = some q := by
  have := (Z5K (p := t.can s) (l := t.rats) t.rats.length (Nat.le_refl _)).2 k r h
  rwa [List.take_length] at this
theorem Z65 (t : Twn) (s : Sta) : (Z4P t s).length ≤ t.rats.length := Z1M _ _ _
theorem Z9M {t : Twn} {s : Sta} {q : Rn} (h : q ∈ Z2G t s) : q ∈ t.rats ∧ t.can s q = true := List.mem_filter.1 h
theorem Zc2 {t : Twn} {s : Sta} {q : Rn} (h : q ∈ t.rats) (h2 : t.can s q = true) : q ∈ Z2G t s := List.mem_filter.2 ⟨h, h2⟩
theorem Z1z {t : Twn} {s : Sta} {q : Rn} (h : t.can s q = true) : q.sacks ≤ s.stock := by
  simp only [Twn.can, Bool.and_eq_true, decide_eq_true_eq] at h; exact h.1
def bo (l : List Bool) (i : Nat) : Bool := l.getD i false
def io (l : List Int) (i : Nat) : Int := l.getD i 0
theorem Z5f {l : List Bool} {i : Nat} (h : i < l.length) : l[i]? = some (bo l i) := by simp [bo, List.getD, List.getElem?_eq_getElem h]
theorem Zbt {l : List Int} {i : Nat} (h : i < l.length) : l[i]? = some (io l i) := by simp [io, List.getD, List.getElem?_eq_getElem h]
theorem Z4H {l : List Bool} {i j : Nat} {x : Bool} (h : i < l.length) : bo (l.set i x) j = bif decide (i = j) then x else bo l j := by
  unfold bo
  simp only [List.getD, List.getElem?_set]
  by_cases e : i = j
  · subst e; simp [h]
  · simp [e]
theorem Z0z {l : List Int} {i j : Nat} {x : Int} (h : i < l.length) : io (l.set i x) j = bif decide (i = j) then x else io l j := by
  unfold io
  simp only [List.getD, List.getElem?_set]
  by_cases e : i = j
  · subst e; simp [h]
  · simp [e]
structure Rel (t : Twn) (la y : List Int) : Prop where
  len : la.length = t.nst
  ylen : y.length = 496
  at_ : ∀ u, u.right t = true → io la (ixr t u) = lat y u
theorem Rel.set {t : Twn} (ht : t.ok) {la y : List Int} (h : Rel t la y) {s : Sta} (hs : s.right t = true) (v : Int) : Rel t (la.set (ixr t s) v) (y.set s.ix v) where
  len := by rw [List.length_set]; exact h.len
  ylen := by rw [List.length_set]; exact h.ylen
  at_ := fun u hu => by
    rw [Z0z (by rw [h.len]; exact ZR hs)]
    by_cases e : ixr t s = ixr t u
    · obtain rfl := ZS hs hu e
      simp only [decide_true, cond_true]
      rw [ZX (by rw [h.ylen]; exact Z2A ht hs)]
    · simp only [e, decide_false, cond_false]
      rw [Z0h (fun e2 => e (by rw [Z2n ht hs hu e2])), h.at_ u hu]
def mkY (g : Sta → Int) : List Int := (List.range 496).map fun (i : Nat) => g ⟨(i / 16 : Nat), (i % 16 / 4 : Nat), (i % 4 : Nat)⟩
theorem Z9W {t : Twn} (ht : t.ok) (g : Sta → Int) {s : Sta} (h : s.right t = true) : lat (mkY g) s = g s := by
  have h1 := right_iff.1 h
  have h2 := ht.patience
  have h3 := ht.run
  have h4 := Z2A ht h
  unfold lat mkY
  simp only [List.getD, List.getElem?_map, List.getElem?_range h4, Option.map_some, Option.getD_some]
  congr 1
  obtain ⟨a, b, c⟩ := s
  simp only [Sta.ix, Sta.mk.injEq] at *
  omega
def Z8L (t : Twn) (nw bf : List Bool) (n : Int) (s : Sta) (q : Rn) : Bool :=
  bo nw (ixr t (t.next s q false)) && (decide (n = 0) || (!decide (s.dry < t.run) || bo bf (ixr t (t.next s q true))))
def Zby (t : Twn) (nw bf : List Bool) (n : Int) (s : Sta) : Bool := (Z2G t s).any (Z8L t nw bf n s)
def InL (t : Twn) (l : List Bool) (s : Sta) : Prop := s.right t = true ∧ bo l (ixr t s) = true
theorem Z6T {t : Twn} (ht : t.ok) {nw bf : List Bool} {n : Nat} (hb : ∀ s, s.right t = true → Bf t n s → bo bf (ixr t s) = true) (hn : ∀ s, Srv t n s → bo nw (ixr t s) = true) {s : Sta} (h : Srv t n s) : Zby t nw bf n s = true := by
  obtain ⟨h1, q, hq, hc, hg, hbad⟩ := Z1W t n s h
  refine List.any_eq_true.2 ⟨q, Zc2 hq hc, ?_⟩
  unfold Z8L
  rw [hn _ hg, Bool.true_and]
  by_cases h0 : n = 0
  · simp [h0]
  · by_cases hd : s.dry < t.run
    · have h2 := (hbad.resolve_left h0).resolve_left (fun h => h hd)
      simp [hb _ (ZB ht h1 hq hc (fun _ => hd)) h2]
    · simp [hd]
theorem Zcv {t : Twn} (ht : t.ok) {nw bf : List Bool} {n : Nat} (hb : ∀ s, s.right t = true → bo bf (ixr t s) = true → Bf t n s) (hf : ∀ s, s.right t = true → bo nw (ixr t s) = true → Zby t nw bf n s = true) {s : Sta} (hs : s.right t = true) (h : bo nw (ixr t s) = true) : Srv t n s := by
  refine Z1E (X := InL t nw) (fun u hu => ?_) ⟨hs, h⟩
  obtain ⟨q, hq, hp⟩ := List.any_eq_true.1 (hf u hu.1 hu.2)
  obtain ⟨hq, hc⟩ := Z9M hq
  simp only [Z8L, Bool.and_eq_true, Bool.or_eq_true, decide_eq_true_eq, Bool.not_eq_true', decide_eq_false_iff_not] at hp
  refine ⟨hu.1, q, hq, hc, ⟨ZB ht hu.1 hq hc (by simp), hp.1⟩, ?_⟩
  rcases hp.2 with h0 | h0 | h0
  · exact .inl (by omega)
  · exact .inr (.inl h0)
  · by_cases hd : u.dry < t.run
    · exact .inr (.inr (hb _ (ZB ht hu.1 hq hc (fun _ => hd)) h0))
    · exact .inr (.inl hd)
def PL (t : Twn) (n : Nat) (s : Sta) (v : Int) : Prop := (v = (n : Int) - 1 ∧ ∀ j < n, Srv t j s) ∨ ∃ k : Nat, k < n ∧ v = k - 1 ∧ ¬ Srv t k s ∧ ∀ j < k, Srv t j s
theorem PL.yes {t : Twn} {n : Nat} {s : Sta} {v : Int} (h : PL t n s v) (hs : Srv t n s) : PL t (n + 1) s n := by
  refine .inl ⟨by omega, fun j hj => Z4o (by omega) hs⟩
theorem PL.no {t : Twn} {n : Nat} {s : Sta} {v : Int} (h : PL t n s v) (hs : ¬ Srv t n s) : PL t (n + 1) s v := by
  rcases h with ⟨h, h2⟩ | ⟨k, hk, h⟩
  · exact .inr ⟨n, by omega, h, hs, h2⟩
  · exact .inr ⟨k, by omega, h⟩
theorem PL.ls {t : Twn} {n : Nat} {s : Sta} {v : Int} (hn : n ≤ 496) (h : PL t (n + 1) s v) (hs : ¬ Srv t n s) : LS t s v := by
  rcases h with ⟨_, h2⟩ | ⟨k, hk, h⟩
  · exact absurd (h2 n (by omega)) hs
  · exact .inr ⟨k, by omega, h⟩
theorem Z8c {t : Twn} {n : Nat} (h0 : 0 < n) (h : ∀ s, Bf t n s → Srv t n s) : ∀ (m : Nat) {s : Sta}, n ≤ m → Srv t n s → Srv t m s
  | 0, s, hm, _ => by omega
  | m + 1, s, hm, hs => by
    rcases Nat.eq_or_lt_of_le hm with h1 | h1
    · rw [← h1]; exact hs
    · refine Z1E (X := Srv t n) (fun u hu => ?_) hs
      obtain ⟨a, q, b, c, d, e⟩ := Z1W t n u hu
      refine ⟨a, q, b, c, d, ?_⟩
      rcases e with e | e | e
      · omega
      · exact .inr (.inl e)
      · exact .inr (.inr (Z8c h0 h m (by omega) (h _ e)))
def SolR (t : Twn) (la : List Int) : Prop := la.length = t.nst ∧ ∀ s, s.right t = true → LS t s (io la (ixr t s))
theorem Rel.same {t : Twn} {la y y' : List Int} (h : Rel t la y) (hy : LSA t y) (hy' : LSA t y') (hl : y'.length = 496) : Rel t la y' := ⟨h.len, hl, fun u hu => (h.at_ u hu).trans (LS.uniq (hy u hu) (hy' u hu))⟩
theorem Z6U {l : List Bool} : ∀ {i : Nat}, i < l.length → bo l i = true → (l.set i false).count true + 1 = l.count true := by
  induction l with
  | nil => intro i h; simp at h
  | cons x l ih =>
    intro i hi h
    cases i with
    | zero =>
      have : x = true := by simpa [bo] using h
      subst this
      simp
    | succ i =>
      have := ih (i := i) (by simpa using hi) (by simpa [bo] using h)
      simp only [List.set_cons_succ, List.count_cons]
      omega
theorem ZcX {a b : List Bool} (hl : a.length = b.length) (h : ∀ i, i < a.length → bo a i = true → bo b i = true) : a.count true ≤ b.count true ∧ ((∃ i, i < a.length ∧ bo a i ≠ bo b i) → a.count true < b.count true) := by
  induction a generalizing b with
  | nil => refine ⟨by simp, ?_⟩; rintro ⟨i, hi, _⟩; simp at hi
  | cons x a ih =>
    cases b with
    | nil => simp at hl
    | cons z b =>
      have h1 := ih (b := b) (by simpa using hl) (fun i hi hh => by simpa [bo] using h (i + 1) (by simpa using hi) (by simpa [bo] using hh))
      have h0 : x = true → z = true := by simpa [bo] using h 0 (by simp)
      have hx : (if x == true then 1 else 0) ≤ (if z == true then 1 else (0 : Nat)) := by cases x <;> cases z <;> simp_all
      simp only [List.count_cons]
      refine ⟨by omega, ?_⟩
      rintro ⟨i, hi, hne⟩
      cases i with
      | zero =>
        have : x = false ∧ z = true := by cases x <;> cases z <;> simp_all [bo]
        simp only [this.1, this.2]
        simp
        omega
      | succ i =>
        have := h1.2 ⟨i, by simpa using hi, by simpa [bo] using hne⟩
        omega
theorem PL.end_ {t : Twn} {n : Nat} {s : Sta} {v : Int} (h : PL t (n + 1) s v) (h0 : 0 < n) (hn : n ≤ 497) (hs : ¬ Bf t n s) : LS t s v := by
  obtain ⟨m, rfl⟩ : ∃ m, n = m + 1 := ⟨n - 1, by omega⟩
  have hs : ¬ Srv t m s := hs
  rcases h with ⟨_, h2⟩ | ⟨k, hk, h1, h2, h3⟩
  · exact absurd (h2 m (by omega)) hs
  · rcases Nat.lt_or_ge m k with h | h
    · exact absurd (h3 m h) hs
    · exact .inr ⟨k, by omega, h1, h2, h3⟩
theorem ZaN {t : Twn} {n : Nat} {s : Sta} (h0 : 0 < n) (h : Bf t n s) : s.right t = true := by
  obtain ⟨m, rfl⟩ : ∃ m, n = m + 1 := ⟨n - 1, by omega⟩
  exact Z0y h
theorem Z0b {i : Nat} {P : Prop} {f g : Nat → Bool} : (P ∧ ∀ j, j < i + 1 → f j = g j) ↔ (P ∧ (∀ j, j < i → f j = g j) ∧ f i = g i) :=
  ⟨fun h => ⟨h.1, fun j hj => h.2 j (by omega), h.2 i (by omega)⟩, fun h => ⟨h.1, fun j hj => by
    rcases Nat.lt_or_ge j i with h1 | h1
    · exact h.2.1 j h1
    · obtain rfl : j = i := by omega
      exact h.2.2⟩⟩
end Go.Proofs.YthhdgeibokecjaaGreat.Bd
