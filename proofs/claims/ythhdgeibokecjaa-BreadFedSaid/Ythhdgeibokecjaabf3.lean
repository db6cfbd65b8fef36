/- Walks of the functions of the program, and the laws that join them: what the last theorem of this claim needs, in order. -/
import Derived.Test.Ythhdgeibokecjaabf2
namespace Go.Proofs.Ythhdgeibokecjaa.Bd
set_option linter.unusedSimpArgs false
set_option linter.unusedVariables false
open Go
theorem Zbf : apT Try.prog 34 = some (48, 5, 40) := by kernel_rfl
theorem Zaf : Z0E Try.prog 31 = some 1 := by kernel_rfl
theorem ZbF : Z0E Try.prog 34 = some 1 := by kernel_rfl
theorem Z82 : Z0E Try.prog 81 = some 1 := by kernel_rfl
theorem Zaw : Try.prog.eqGuardType Try.prog.depth 24 = false := by kernel_rfl
theorem Zbm : Z0W Try.prog 48 = some [(0, 3), (3, 1), (4, 1)] := by kernel_rfl
theorem Z9i : Z2m Try.prog 31 = true := by kernel_rfl
theorem Zbb : Z2m Try.prog 34 = true := by kernel_rfl
theorem Z8c : slE Try.prog 34 = some (48, 5) := by kernel_rfl
theorem ZbE : Z08 Try.prog 31 = some ([.int .i64 0]) := by kernel_rfl
theorem Zbs : Z08 Try.prog 34 = some ([.slice none 0 0]) := by kernel_rfl
theorem Z8Y : Z08 Try.prog 48 = some ([.int .i64 0, .int .i64 0, .int .i64 0, .int .i64 0, .int .i64 0]) := by kernel_rfl
theorem Z8f : Z08 Try.prog 81 = some ([.pointer none]) := by kernel_rfl
def Z5T (x : Rw) : List Value := [.int .i64 x.st.stock, .int .i64 x.st.short, .int .i64 x.st.dry, .int .i64 x.lasts, .int .i64 x.ration]
def Zg (l : List Rw) : List (List Value) := l.map Z5T
theorem Z67 (t : Twn) (hl : t.rats.length ≤ 9223372036854775807) (ba oa ca : Nat) (H : Za) (R : Z8) [hR : MemRows (some ⟨ba, oa, none⟩) 2 (Zx t.rats) R] :
    Fn Try.prog 8 [t.v (t.sl (some ⟨ba, oa, none⟩) ca)] H R (fun v H' R' => ((t.check ≠ 0 ∧ v = .tuple #[.slice none 0 0, .int .i64 t.check] ∧ H' = H) ∨
      (t.check = 0 ∧ ∃ σ, Z3a t σ ∧ ((lat σ.y t.now = -1 ∧ v = .tuple #[.slice none 0 0, .int .i64 6] ∧ H' = H) ∨ (lat σ.y t.now ≠ -1 ∧ ∃ o : OSl 48 5 (Zg (tab t σ.y)), v = .tuple #[o.fs, .int .i64 0] ∧ H' = o.G ++ H)))) ∧ R' = R) := by
 refine Z55 Try.func8 rfl Try.ntmps8 rfl ?_
 refine sqt 3 rfl (bx rfl rfl rfl (fun b1 => pur 2 rfl (sqt 8 rfl (spL rfl rfl (lhA [_, _, _, _, _, _, _, _, _, _, _] ZZ rfl rfl rfl) rfl ?_))))
 refine cl rfl Z7G rfl rfl (Z2o t hl ba oa ca _ _) ?_
 rintro _ _ _ (⟨hck, rfl, rfl, rfl⟩ | ⟨hck, bw, m, bt, σ, o, hσ, rfl, rfl, rfl⟩)
 refine pur 3 rfl (alc rfl Z8f rfl (fun b4 => ?_))
 refine sto rfl rfl rfl Z82 rfl rfl rfl rfl ?_
 refine pur 1 rfl (Z0 (sqt 2 rfl (pur 2 rfl ?_)))
 refine Zp (congrArg (fun b => some (Value.bool b)) (dT hck)) ?_
 refine sqt 3 rfl (pur 3 rfl (Z3 ?_))
 exact Zb [] idH rfl (.cons (RV.tmp rfl) (.cons (RV.tmp rfl) .nil)) rfl ⟨.inl ⟨hck, rfl, rfl⟩, rfl⟩ drp
 ·
  have hok := (Zk hck).1
  have hsl := Z1Y hok hσ
  refine pur 3 rfl (alc rfl Z8f rfl (fun b4 => ?_))
  refine sto rfl rfl rfl Z82 rfl rfl rfl rfl ?_
  refine pur 1 rfl (Z0 (sqt 2 rfl (pur 2 rfl ?_)))
  refine Zo (rfl) ?_
  refine Z2 (Z0 (Z0 ?_))
  refine Z9 [0, 1, 3, 0, 8, 31, 63] (.ld 0 (tks 1 3 (.ld 4 (.big 5 (.tk 6 .done))))) Zw (by kernel_rfl) ?_
  refine ld rfl rfl (lh Z1R rfl rfl) rfl (tk rfl (PE.nilCheck rfl) rfl (tk rfl (PE.fA Z02 rfl) rfl (tk rfl (PE.fA Z0d rfl) rfl (ld rfl rfl (lhA [_, _, _] ZG rfl rfl rfl) rfl ?_))))
  refine clV rfl Z2g rfl rfl (Z5U t hok t.now hok.now ba oa ca bt bw m σ.y o.fs hsl _ _) ?_
  refine bgT (Zi 1 rfl ?_)
  refine Z4 rfl ?_ ?_ <;> intro hc1
  simp only [decide_eq_true_eq] at hc1
  refine sqt 2 rfl (pur 2 rfl (Z3 ?_))
  first
    | exact Zb [] idH rfl (.cons (RV.tmp rfl) (.cons (RV.tmp rfl) .nil)) rfl ⟨.inr ⟨hck, σ, hσ, .inl ⟨hc1, rfl, rfl⟩⟩, rfl⟩ drp
    | exact Zb [bd0] idH rfl (.cons (RV.tmp rfl) (.cons (RV.tmp rfl) .nil)) rfl ⟨.inr ⟨hck, σ, hσ, .inr ⟨hc1, o', rfl, rfl⟩⟩, rfl⟩ (fun w h => ((((h.tail.tail.del b1).del bw).del m).ftail.ftail).dropMid)
  ·
   simp only [decide_eq_false_iff_not] at hc1
   refine Z2 (sqt 1 rfl (alc rfl Zbs rfl (fun b6 => Z0 (sqt 2 rfl (spL rfl rfl (lhA [_, _, _, _, _, _, _, _, _, _, _] ZZ rfl rfl rfl) rfl ?_)))))
   refine cl rfl Z72 rfl rfl (Z1C t (t.sl (some ⟨ba, oa, none⟩) ca) _ _) ?_
   rintro _ _ _ ⟨b26, rfl, rfl, rfl⟩
   refine ZL b1 ?_
   refine ZL b4 ?_
   refine ZL b6 ?_
   refine Z7 ?_
   refine Z1N rfl Z6k (fun c0 bl0 bd0 hcp0 hca0 hcb0 hck0 => ?_)
   refine ⟨fun st pend T R' => st = .ready ∧ pend = none ∧ ∃ o' : OSl 48 5 (Zg (tab t σ.y)), T = (bd0, .deferred (some [])) :: (b6, cel 34 [o'.fs]) :: (b4, cel 81 [.pointer (some ⟨bw, 0, none⟩)]) :: (o'.G ++ (b1, cel 27 (twl t (t.sl (some ⟨ba, oa, none⟩) ca))) :: (o.G ++ (bw, cel 92 (rcs t (t.sl (some ⟨ba, oa, none⟩) ca) bt (σ.y) o.fs m)) :: (m, Z0o true (Z24 σ.fl)) :: H)) ∧ R' = RowsA (some ⟨b26, 0, none⟩) 11 [twl t (t.sl (some ⟨ba, oa, none⟩) ca)] :: RowsA (some ⟨bt, 0, none⟩) 11 [twl t (t.sl (some ⟨ba, oa, none⟩) ca)] :: R,
     Fn.mono (Z16 t hok (t.sl (some ⟨ba, oa, none⟩) ca) b26 bl0 (fun k H' R' => ∃ o' : OSl 48 5 (Zg (((sts t).take k).filterMap (ZS t σ.y))), H' = (bl0, lob c0 .ready none) :: (bd0, .deferred (some [])) :: (b6, cel 34 [o'.fs]) :: (b4, cel 81 [.pointer (some ⟨bw, 0, none⟩)]) :: (o'.G ++ (b1, cel 27 (twl t (t.sl (some ⟨ba, oa, none⟩) ca))) :: (o.G ++ (bw, cel 92 (rcs t (t.sl (some ⟨ba, oa, none⟩) ca) bt (σ.y) o.fs m)) :: (m, Z0o true (Z24 σ.fl)) :: H)) ∧ R' = RowsA (some ⟨b26, 0, none⟩) 11 [twl t (t.sl (some ⟨ba, oa, none⟩) ca)] :: RowsA (some ⟨bt, 0, none⟩) 11 [twl t (t.sl (some ⟨ba, oa, none⟩) ca)] :: R) (fun _ _ => False)
       (fun k H' R' h => by obtain ⟨_, _, h⟩ := h; rw [h]; simp) (fun k s H' R' hk hI => ?_) _ _ ⟨OSl.nil _ _, rfl, rfl⟩) (fun v H' R' h => ?_), ?_⟩
   rotate_left
   · rw [List.take_of_length_le (show (sts t).length ≤ t.nst by rw [Z0B]; exact Nat.le_refl _)] at h
     rcases h with ⟨o', rfl, rfl⟩ | h
     · exact ⟨.ready, none, _, by simp, .refl _, rfl, rfl, o', rfl, rfl⟩
     · exact h.elim
   rotate_left
   have hs := Zh hok (List.mem_of_getElem? hk)
   have hrg := Z34 hok hσ hs
   have e : (((sts t).take (k + 1)).filterMap (ZS t σ.y)) = (((sts t).take k).filterMap (ZS t σ.y)) ++ (ZS t σ.y s).toList := by rw [List.take_add_one, hk, List.filterMap_append]; cases h : ZS t σ.y s <;> simp [h]
   rw [e]
   have hkl : k < (sts t).length := (List.getElem?_eq_some_iff.1 hk).1
   rw [Z0B] at hkl
   have hkn := Z3W hok
   have htl : (((sts t).take k).filterMap (ZS t σ.y)).length ≤ k := Nat.le_trans (List.length_filterMap_le _ _) (by simp; omega)
   clear e
   generalize (((sts t).take k).filterMap (ZS t σ.y)) = τ at *
   obtain ⟨o', rfl, rfl⟩ := hI
   refine Z6J hcp0 hca0 hcb0 hck0 rfl ?_
   refine sqr 2 rfl (alc rfl Z37 rfl (fun b7 => ?_))
   refine sto rfl rfl rfl Z2n rfl rfl rfl rfl ?_
   refine Z0a ?_
   refine Z7 (Z0 ?_)
   refine Z9 [0, 1, 3, 0, 15, 31] (.ld 0 (.tk 1 (.tk 2 (.ld 3 (.big 4 (.tk 5 .done)))))) Zw (by kernel_rfl) ?_
   refine ld rfl rfl (lh Z1R rfl rfl) rfl (tk rfl (PE.nilCheck rfl) rfl (tk rfl (PE.fA Z02 rfl) rfl (ld rfl rfl (lhA [_, _, _] ZG rfl rfl rfl) rfl ?_)))
   refine clV rfl Z2g rfl rfl (Z5U t hok s hs ba oa ca bt bw m σ.y o.fs hsl _ _) ?_
   refine bgT (Zi 1 rfl (sqt 4 rfl (sp rfl (PE.fA ZJ rfl) rfl (spL rfl rfl (lh Z0Z rfl rfl) rfl (sp rfl (PE.lenSl Z2L rfl) rfl (pur 1 rfl (Z7 ?_)))))))
   have hlen := hok.many
   refine Zy (ι := {k : Nat // k ≤ t.rats.length ∧ ∀ i q, i < k → t.rats[i]? = some q → lat σ.y s = -1 ∨ t.keeps σ.y s q (lat σ.y s) = false}) (fun k2 => ⟨[(4, .pointer (some ⟨b4, 0, none⟩)), (6, .pointer (some ⟨b6, 0, none⟩)), (7, .pointer (some ⟨b7, 0, none⟩)), (8, .int .i64 (lat σ.y s)), (35, .int .i64 t.rats.length), (36, .int .i64 k2.1)], (b7, cel 24 [.int .i64 s.stock, .int .i64 s.short, .int .i64 s.dry]) :: (bl0, lob c0 .busy none) :: (bd0, .deferred (some [])) :: (b6, cel 34 [o'.fs]) :: (b4, cel 81 [.pointer (some ⟨bw, 0, none⟩)]) :: (o'.G ++ (b1, cel 27 (twl t (t.sl (some ⟨ba, oa, none⟩) ca))) :: (o.G ++ (bw, cel 92 (rcs t (t.sl (some ⟨ba, oa, none⟩) ca) bt (σ.y) o.fs m)) :: (m, Z0o true (Z24 σ.fl)) :: H)), RowsA (some ⟨b26, 0, none⟩) 11 [twl t (t.sl (some ⟨ba, oa, none⟩) ca)] :: RowsA (some ⟨bt, 0, none⟩) 11 [twl t (t.sl (some ⟨ba, oa, none⟩) ca)] :: R⟩) (fun k2 => t.rats.length - k2.1) ⟨0, by omega, by omega⟩ ?_ (fun k2 => ?_)
   exact Z05 idH
   obtain ⟨k2, hk1, hk2⟩ := k2
   dsimp only
   refine sqt 1 rfl (pur 1 rfl (Z0 ?_))
   refine Z4 rfl ?_ ?_ <;> intro hc2
   simp only [cS] at hc2
   obtain ⟨q, hq⟩ : ∃ q, t.rats[k2]? = some q := ⟨_, List.getElem?_eq_getElem (by omega)⟩
   refine Z2 (Z0 (Z7 (sqt 2 rfl (pur 2 rfl (sqt 9 rfl (pur 3 rfl ?_))))))
   refine Z0b 41 rfl ?_ ?_ <;> intro g41
   simp only [decide_eq_true_eq] at g41
   refine Z0K rfl rfl rfl rfl rfl (lh Z1R rfl rfl) rfl (Z0K rfl rfl rfl rfl rfl (lhA [_, _, _] ZG rfl rfl rfl) rfl (pur 2 rfl ?_))
   refine Z1X rfl rfl rfl rfl Z7S rfl rfl (Z3k t hok s hs k2 q (by omega) (by simpa using hq) (lat σ.y s) (by omega) ba oa ca bt bw m σ.y o.fs hsl _ _) ?_
   refine pur 1 rfl ?_
   refine Z4 rfl ?_ ?_ <;> intro hc3
   have hst := Z5H g41 hq (fun i q h h2 => (hk2 i q h h2).resolve_left g41) hc3
   refine sqt 8 rfl (spL rfl rfl (lh Zbb rfl rfl) rfl (spL rfl rfl (lhA [_, _, _] ZG rfl rfl rfl) rfl (pur 2 rfl (sp rfl (PE.build (out := [_, _, _, _, _]) Zbm Z8Y rfl rfl) rfl ?_))))
   refine bsl (out := [_, _, _, _, _]) rfl Z8c Z8Y rfl rfl rfl rfl rfl rfl (fun b53 => ?_)
   refine apO (o') rfl Zbf rfl rfl (Z7r (row := Z5T ⟨s, lat σ.y s, k2⟩) rfl) rfl rfl ((by simp only [Zg, List.length_map, List.length_singleton]; omega)) rfl (fun o54 => ?_)
   refine Z5V (l' := [o54.fs]) rfl rfl rfl ZbF rfl (by rw [o54.cells.1]; first | done | rfl) (by rw [o54.cells.1]; simp [o54.cells.2]) (by rw [o54.cells.1]; first | done | rfl) (by rw [o54.cells.1]; first | done | exact Nat.le_refl _) ?_
   refine Zm (Z8g (by decide) (Zt (Zt (ZU ?_))))
   first
     | exact ZA (.inl ⟨rfl, o54.cast (by rw [hst]; simp [Zg, Z5T]), rfl, rfl⟩) (fun _ h => by repeat first | exact h | replace h := St.tail h | replace h := St.ftail h | replace h := St.drop h)
     | exact ZA (.inl ⟨rfl, o'.cast (by rw [hst]; simp), rfl, rfl⟩) (fun _ h => by repeat first | exact h | replace h := St.tail h | replace h := St.ftail h | replace h := St.drop h)
   have hno : lat σ.y s = -1 ∨ t.keeps σ.y s q (lat σ.y s) = false := .inr hc3
   refine Z2 (sqr 2 rfl (sp rfl (PE.add rfl rfl (by omega)) rfl (pur 1 rfl ?_)))
   exact Zc ⟨k2 + 1, by omega, fun i q' hi hq' => by
     rcases Nat.lt_or_ge i k2 with h1 | h1
     · exact hk2 i q' h1 hq'
     · obtain rfl : i = k2 := by omega
       rw [hq] at hq'; cases hq'; exact hno⟩ (by dsimp only; omega) (by repeat' first | exact Sub.nil | apply Sub.cons | rfl | (simp [lk]; omega)) idH
   simp only [decide_eq_false_iff_not, Decidable.not_not] at g41
   have hno : lat σ.y s = -1 ∨ t.keeps σ.y s q (lat σ.y s) = false := .inl g41
   refine pur 6 rfl ?_
   refine Zo rfl ?_
   refine Z2 (sqr 2 rfl (sp rfl (PE.add rfl rfl (by omega)) rfl (pur 1 rfl ?_)))
   exact Zc ⟨k2 + 1, by omega, fun i q' hi hq' => by
     rcases Nat.lt_or_ge i k2 with h1 | h1
     · exact hk2 i q' h1 hq'
     · obtain rfl : i = k2 := by omega
       rw [hq] at hq'; cases hq'; exact hno⟩ (by dsimp only; omega) (by repeat' first | exact Sub.nil | apply Sub.cons | rfl | (simp [lk]; omega)) idH
   simp only [cS] at hc2
   obtain rfl : k2 = t.rats.length := by omega
   have hst := Z4x hk2
   refine Zm (Zt (Zt (ZU ?_)))
   first
     | exact ZA (.inl ⟨rfl, o54.cast (by rw [hst]; simp [Zg, Z5T]), rfl, rfl⟩) (fun _ h => by repeat first | exact h | replace h := St.tail h | replace h := St.ftail h | replace h := St.drop h)
     | exact ZA (.inl ⟨rfl, o'.cast (by rw [hst]; simp), rfl, rfl⟩) (fun _ h => by repeat first | exact h | replace h := St.tail h | replace h := St.ftail h | replace h := St.drop h)
   rintro _ _ _ _ ⟨rfl, rfl, o', rfl, rfl⟩
   refine Z6n ?_
   refine sqt 3 rfl (spL rfl rfl (lh Zbb rfl rfl) rfl (pur 2 rfl (Z3 ?_)))
   first
     | exact Zb [] idH rfl (.cons (RV.tmp rfl) (.cons (RV.tmp rfl) .nil)) rfl ⟨.inr ⟨hck, σ, hσ, .inl ⟨hc1, rfl, rfl⟩⟩, rfl⟩ drp
     | exact Zb [bd0] idH rfl (.cons (RV.tmp rfl) (.cons (RV.tmp rfl) .nil)) rfl ⟨.inr ⟨hck, σ, hσ, .inr ⟨hc1, o', rfl, rfl⟩⟩, rfl⟩ (fun w h => ((((h.tail.tail.del b1).del bw).del m).ftail.ftail).dropMid)
def Z1P (t : Twn) (y : List Int) (bads : Int) (s : Sta) : Bool := (decide (s.short = t.now.short) && decide (s.dry = t.now.dry)) && decide (bads ≤ lat y s)
def Z3w (t : Twn) (y : List Int) (bads : Int) : Value := match (sts t).find? (Z1P t y bads) with
  | some s => .tuple #[.int .i64 s.stock, .int .i64 0]
  | none => .tuple #[.int .i64 0, .int .i64 6]
theorem Z73 {α : Type} {p : α → Bool} : ∀ {l : List α} {k : Nat} {x : α}, l[k]? = some x → (∀ i z, i < k → l[i]? = some z → p z = false) → p x = true → l.find? p = some x
  | [], _, _, h, _, _ => by simp at h
  | a :: l, 0, x, h, _, hp => by
    simp only [List.getElem?_cons_zero, Option.some.injEq] at h
    subst h; simp [hp]
  | a :: l, k + 1, x, h, hn, hp => by
    have h0 := hn 0 a (by omega) rfl
    rw [List.find?_cons, h0]
    exact Z73 (l := l) (k := k) (by simpa using h) (fun i z hi hz => hn (i + 1) z (by omega) (by simpa using hz)) hp
theorem Z94 (t : Twn) (hl : t.rats.length ≤ 9223372036854775807) (bads : Int) (ba oa ca : Nat) (H : Za) (R : Z8) [hR : MemRows (some ⟨ba, oa, none⟩) 2 (Zx t.rats) R] :
    Fn Try.prog 51 [t.v (t.sl (some ⟨ba, oa, none⟩) ca), .int .i64 bads] H R (fun v H' R' => ((t.check ≠ 0 ∧ v = .tuple #[.int .i64 0, .int .i64 t.check]) ∨
      (t.check = 0 ∧ inb bads 0 1000000 = false ∧ v = .tuple #[.int .i64 0, .int .i64 3]) ∨ (t.check = 0 ∧ inb bads 0 1000000 = true ∧ ∃ σ, Z3a t σ ∧ v = Z3w t σ.y bads)) ∧ H' = H ∧ R' = R) := by
 refine Z55 Try.func51 rfl Try.ntmps51 rfl ?_
 refine sqt 4 rfl (bx rfl rfl rfl (fun b2 => bx rfl rfl rfl (fun b3 => alc rfl zl3 rfl (fun b4 => alc rfl ZbE rfl (fun b5 => sqt 8 rfl (spL rfl rfl (lhA [_, _, _, _, _, _, _, _, _, _, _] ZZ rfl rfl rfl) rfl ?_))))))
 refine cl rfl Z6h rfl rfl (Z1G t hl ba oa ca _ _) ?_
 rintro _ _ _ (⟨hck, rfl, rfl, rfl⟩ | ⟨hck, bw, m, bt, rfl, rfl, rfl⟩)
 refine pur 3 rfl (alc rfl Z8f rfl (fun b6 => ?_))
 refine sto rfl rfl rfl Z82 rfl rfl rfl rfl ?_
 refine pur 1 rfl (Z0 (Z7 (sqt 3 rfl (pur 3 rfl ?_))))
 refine Zp (congrArg (fun b => some (Value.bool b)) (dT hck)) ?_
 refine sqt 3 rfl (pur 1 rfl ?_)
 refine sto rfl rfl rfl cn3 rfl rfl rfl rfl ?_
 refine sto rfl rfl rfl Zaf rfl rfl rfl rfl ?_
 refine Z3 ?_
 exact Zb [] idH rfl (.cons (RV.cell rfl (lh sc3 rfl rfl)) (.cons (RV.cell rfl (lh Z9i rfl rfl)) .nil)) rfl ⟨.inl ⟨hck, rfl⟩, rfl, rfl⟩ drp
 ·
  have hok := (Zk hck).1
  refine pur 3 rfl (alc rfl Z8f rfl (fun b6 => ?_))
  refine sto rfl rfl rfl Z82 rfl rfl rfl rfl ?_
  refine pur 1 rfl (Z0 (Z7 (sqt 3 rfl (pur 3 rfl ?_))))
  refine Zo (rfl) ?_
  refine sqt 4 rfl (spL rfl rfl (lh sc3 rfl rfl) rfl ?_)
  refine clV rfl Z0Y rfl rfl (Z45 _ _ _ _ _) ?_
  refine pur 2 rfl ?_
  refine Z4 rfl ?_ ?_ <;> intro hc1
  have hib : inb bads 0 1000000 = false := by rw [← Bool.not_eq_true']; exact hc1
  refine sqt 2 rfl ?_
  refine sto rfl rfl rfl cn3 rfl rfl rfl rfl ?_
  refine sto rfl rfl rfl Zaf rfl rfl rfl rfl ?_
  refine Z3 ?_
  first
    | exact Zb [] idH rfl (.cons (RV.cell rfl (lh sc3 rfl rfl)) (.cons (RV.cell rfl (lh Z9i rfl rfl)) .nil)) rfl ⟨.inr (.inl ⟨hck, hib, rfl⟩), rfl, rfl⟩ (fun w h => (((((((h.del b3).del b4).del b5).del b6).del b2).del bw).del m).ftail)
    | exact Zb [bd0] idH rfl (.cons (RV.cell rfl (lh sc3 rfl rfl)) (.cons (RV.cell rfl (lh Z9i rfl rfl)) .nil)) (v := Z3w t σ.y bads) (by unfold Z3w; rw [hno]; rfl) ⟨.inr (.inr ⟨hck, hib, σ, hσ, rfl⟩), rfl, rfl⟩ (fun w h => (((((((h.del b3).del b4).del b5).del b6).del b2).del bw).del m).ftail.ftail.drop)
  ·
   have hib : inb bads 0 1000000 = true := by rw [← Bool.not_eq_false']; exact hc1
   have hbd := hib
   simp only [inb, Bool.and_eq_true, decide_eq_true_eq] at hbd
   refine Z2 (sqt 2 rfl (spL rfl rfl (lh Z1R rfl rfl) rfl ?_))
   refine ZL m ?_
   refine ZL bw ?_
   refine cl rfl Z9K rfl rfl (Z6H t hok ba oa ca bt bw m _ _) ?_
   rintro v _ _ ⟨σ, o, hσ, rfl, rfl⟩
   have hsl := Z1Y hok hσ
   refine Z0 (sqt 2 rfl (spL rfl rfl (lhA [_, _, _, _, _, _, _, _, _, _, _] ZZ rfl rfl rfl) rfl ?_))
   refine cl rfl Z72 rfl rfl (Z1C t (t.sl (some ⟨ba, oa, none⟩) ca) _ _) ?_
   rintro _ _ _ ⟨b26, rfl, rfl, rfl⟩
   refine ZL b2 ?_
   refine ZL b6 ?_
   refine ZL b5 ?_
   refine ZL b4 ?_
   refine ZL b3 ?_
   refine Z7 ?_
   refine Z1N rfl Z6k (fun c0 bl0 bd0 hcp0 hca0 hcb0 hck0 => ?_)
   refine ⟨fun st pend T R' => (st = .ready ∧ pend = none ∧ (sts t).find? (Z1P t σ.y bads) = none ∧ T = (bd0, .deferred (some [])) :: (b3, cel 3 [.int .i64 bads]) :: (b4, cel 3 [.int .i64 0]) :: (b5, cel 31 [.int .i64 0]) :: (b6, cel 81 [.pointer (some ⟨bw, 0, none⟩)]) :: (b2, cel 27 (twl t (t.sl (some ⟨ba, oa, none⟩) ca))) :: (o.G ++ (bw, cel 92 (rcs t (t.sl (some ⟨ba, oa, none⟩) ca) bt (σ.y) o.fs m)) :: (m, Z0o true (Z24 σ.fl)) :: H) ∧ R' = RowsA (some ⟨b26, 0, none⟩) 11 [twl t (t.sl (some ⟨ba, oa, none⟩) ca)] :: RowsA (some ⟨bt, 0, none⟩) 11 [twl t (t.sl (some ⟨ba, oa, none⟩) ca)] :: R) ∨
       (st = .done ∧ pend = some .ret ∧ ∃ s, (sts t).find? (Z1P t σ.y bads) = some s ∧ T = (bd0, .deferred (some [])) :: (b3, cel 3 [.int .i64 bads]) :: (b4, cel 3 [.int .i64 s.stock]) :: (b5, cel 31 [.int .i64 0]) :: (b6, cel 81 [.pointer (some ⟨bw, 0, none⟩)]) :: (b2, cel 27 (twl t (t.sl (some ⟨ba, oa, none⟩) ca))) :: (o.G ++ (bw, cel 92 (rcs t (t.sl (some ⟨ba, oa, none⟩) ca) bt (σ.y) o.fs m)) :: (m, Z0o true (Z24 σ.fl)) :: H) ∧ R' = RowsA (some ⟨b26, 0, none⟩) 11 [twl t (t.sl (some ⟨ba, oa, none⟩) ca)] :: RowsA (some ⟨bt, 0, none⟩) 11 [twl t (t.sl (some ⟨ba, oa, none⟩) ca)] :: R),
     Fn.mono (Z16 t hok (t.sl (some ⟨ba, oa, none⟩) ca) b26 bl0 (fun k H' R' => (∀ i s, i < k → (sts t)[i]? = some s → Z1P t σ.y bads s = false) ∧ H' = (bl0, lob c0 .ready none) :: (bd0, .deferred (some [])) :: (b3, cel 3 [.int .i64 bads]) :: (b4, cel 3 [.int .i64 0]) :: (b5, cel 31 [.int .i64 0]) :: (b6, cel 81 [.pointer (some ⟨bw, 0, none⟩)]) :: (b2, cel 27 (twl t (t.sl (some ⟨ba, oa, none⟩) ca))) :: (o.G ++ (bw, cel 92 (rcs t (t.sl (some ⟨ba, oa, none⟩) ca) bt (σ.y) o.fs m)) :: (m, Z0o true (Z24 σ.fl)) :: H) ∧ R' = RowsA (some ⟨b26, 0, none⟩) 11 [twl t (t.sl (some ⟨ba, oa, none⟩) ca)] :: RowsA (some ⟨bt, 0, none⟩) 11 [twl t (t.sl (some ⟨ba, oa, none⟩) ca)] :: R)
       (fun H' R' => ∃ s, (sts t).find? (Z1P t σ.y bads) = some s ∧ H' = (bl0, lob c0 .done (some .ret)) :: (bd0, .deferred (some [])) :: (b3, cel 3 [.int .i64 bads]) :: (b4, cel 3 [.int .i64 s.stock]) :: (b5, cel 31 [.int .i64 0]) :: (b6, cel 81 [.pointer (some ⟨bw, 0, none⟩)]) :: (b2, cel 27 (twl t (t.sl (some ⟨ba, oa, none⟩) ca))) :: (o.G ++ (bw, cel 92 (rcs t (t.sl (some ⟨ba, oa, none⟩) ca) bt (σ.y) o.fs m)) :: (m, Z0o true (Z24 σ.fl)) :: H) ∧ R' = RowsA (some ⟨b26, 0, none⟩) 11 [twl t (t.sl (some ⟨ba, oa, none⟩) ca)] :: RowsA (some ⟨bt, 0, none⟩) 11 [twl t (t.sl (some ⟨ba, oa, none⟩) ca)] :: R)
       (fun k H' R' h => by obtain ⟨_, _, h⟩ := h; rw [h]; simp) (fun k s H' R' hk hI => ?_) _ _ ⟨by omega, rfl, rfl⟩) (fun v H' R' h => ?_), ?_⟩
   rotate_left
   · rcases h with ⟨hn, rfl, rfl⟩ | ⟨s, hs, rfl, rfl⟩
     · refine ⟨.ready, none, _, by simp, .refl _, .inl ⟨rfl, rfl, ?_, rfl, rfl⟩⟩
       rw [List.find?_eq_none]
       intro s hs
       obtain ⟨i, hi⟩ := List.getElem?_of_mem hs
       have := (List.getElem?_eq_some_iff.1 hi).1
       rw [Z0B] at this
       simp [hn i s this hi]
     · exact ⟨.done, some .ret, _, by simp, .refl _, .inr ⟨rfl, rfl, s, hs, rfl, rfl⟩⟩
   rotate_left
   have hs := Zh hok (List.mem_of_getElem? hk)
   obtain ⟨hno, rfl, rfl⟩ := hI
   refine Z6J hcp0 hca0 hcb0 hck0 rfl ?_
   refine sqr 2 rfl (alc rfl Z37 rfl (fun b8 => ?_))
   refine sto rfl rfl rfl Z2n rfl rfl rfl rfl ?_
   refine Z0a ?_
   refine Z7 (sqt 11 rfl (sp rfl (PE.fA Z07 rfl) rfl (spL rfl rfl (lh sc3 rfl rfl) rfl (sp rfl (PE.fA Z0d rfl) rfl (sp rfl (PE.fA ZT rfl) rfl (spL rfl rfl (lh sc3 rfl rfl) rfl (sp rfl (PE.fA Z0d rfl) rfl (sp rfl (PE.fA Z0i rfl) rfl (spL rfl rfl (lh sc3 rfl rfl) rfl (sp rfl (PE.build (out := [_, _, _]) Z8q Z37 rfl rfl) rfl (alc rfl Z37 rfl (fun b9 => ?_))))))))))))
   refine sto rfl rfl rfl Z2n rfl rfl rfl rfl ?_
   refine Z0 ?_
   refine Z9 [0, 0, 3, 7, 15, 31, 63, 15, 255, 15, 1023, 2047] (.ld 0 (.ld 1 (.tk 2 (.tk 3 (.ld 4 (.tk 5 (.tk 6 (.ld 7 (.ld 9 (.big 8 (.tk 10 (.tk 11 .done)))))))))))) Zw (by kernel_rfl) ?_
   refine ld rfl rfl (lhA [_, _, _] ZG rfl rfl rfl) rfl (ld rfl rfl (lhA [_, _, _] ZG rfl rfl rfl) rfl (tk rfl (PE.eqlAgg [s.stock, s.short, s.dry] [s.stock, t.now.short, t.now.dry] (Z28 10000 24 true 3 Z1g) Zaw rfl rfl rfl rfl) rfl (Zi 1 rfl ?_)))
   refine Z0b 40 rfl ?_ ?_ <;> intro g40
   have hst : (decide (s.short = t.now.short) && decide (s.dry = t.now.dry)) = true := by simpa using g40
   refine ldG rfl rfl rfl rfl rfl (lh Z1R rfl rfl) rfl ?_
   refine tkG rfl rfl rfl rfl (PE.nilCheck rfl) rfl ?_
   refine tkG rfl rfl rfl rfl (PE.fA Z02 rfl) rfl ?_
   refine ldG rfl rfl rfl rfl rfl (lhA [_, _, _] ZG rfl rfl rfl) rfl (ldG rfl rfl rfl rfl rfl (lh sc3 rfl rfl) rfl ?_)
   refine Z1X rfl rfl rfl rfl Z2g rfl rfl (Z5U t hok s hs ba oa ca bt bw m σ.y o.fs hsl _ _) ?_
   refine bg (fun w hs => ⟨(lh sc3 rfl rfl) w hs, trivial, trivial, trivial, trivial, trivial⟩) ?_
   refine Zi 2 rfl ?_
   refine Z4 rfl ?_ ?_ <;> intro hc2
   have hp : Z1P t σ.y bads s = true := by unfold Z1P; rw [hst]; exact hc2
   refine sqt 4 rfl (sp rfl (PE.fA Z07 rfl) rfl (spL rfl rfl (lh sc3 rfl rfl) rfl ?_))
   refine sto rfl rfl rfl cn3 rfl rfl rfl rfl ?_
   refine sto rfl rfl rfl Zaf rfl rfl rfl rfl ?_
   refine Z3 ?_
   exact Z4P (.inr ⟨rfl, s, Z73 hk hno hp, rfl, rfl⟩) (fun _ h => by repeat first | exact h | replace h := St.tail h | replace h := St.ftail h | replace h := St.drop h)
   have hnp : Z1P t σ.y bads s = false := by unfold Z1P; rw [hst]; exact hc2
   refine Z2 ?_
   exact ZA (.inl ⟨rfl, fun i z hi hz => by
     rcases Nat.lt_or_ge i k with h1 | h1
     · exact hno i z h1 hz
     · obtain rfl : i = k := by omega
       rw [hk] at hz; cases hz; exact hnp, rfl, rfl⟩) drp
   have hst : (decide (s.short = t.now.short) && decide (s.dry = t.now.dry)) = false := by simpa using g40
   have hnp : Z1P t σ.y bads s = false := by unfold Z1P; rw [hst]; rfl
   refine ldN rfl rfl rfl rfl rfl rfl rfl rfl ?_
   refine Zi 2 rfl ?_
   repeat refine ldN rfl rfl rfl rfl rfl rfl rfl rfl ?_
   refine spN rfl rfl rfl rfl rfl rfl rfl rfl ?_
   refine bg (fun w hs => ⟨((fun _ _ => True.intro)) w hs, trivial, trivial, trivial, trivial, trivial⟩) ?_
   refine Zi 2 rfl ?_
   refine Zo rfl ?_
   refine Z2 ?_
   exact ZA (.inl ⟨rfl, fun i z hi hz => by
     rcases Nat.lt_or_ge i k with h1 | h1
     · exact hno i z h1 hz
     · obtain rfl : i = k := by omega
       rw [hk] at hz; cases hz; exact hnp, rfl, rfl⟩) drp
   rintro _ _ _ _ (⟨rfl, rfl, hno, rfl, rfl⟩ | ⟨rfl, rfl, s, hfs, rfl, rfl⟩)
   refine Z6n ?_
   refine sqt 2 rfl ?_
   refine sto rfl rfl rfl cn3 rfl rfl rfl rfl ?_
   refine sto rfl rfl rfl Zaf rfl rfl rfl rfl ?_
   refine Z3 ?_
   first
     | exact Zb [] idH rfl (.cons (RV.cell rfl (lh sc3 rfl rfl)) (.cons (RV.cell rfl (lh Z9i rfl rfl)) .nil)) rfl ⟨.inr (.inl ⟨hck, hib, rfl⟩), rfl, rfl⟩ (fun w h => (((((((h.del b3).del b4).del b5).del b6).del b2).del bw).del m).ftail)
     | exact Zb [bd0] idH rfl (.cons (RV.cell rfl (lh sc3 rfl rfl)) (.cons (RV.cell rfl (lh Z9i rfl rfl)) .nil)) (v := Z3w t σ.y bads) (by unfold Z3w; rw [hno]; rfl) ⟨.inr (.inr ⟨hck, hib, σ, hσ, rfl⟩), rfl, rfl⟩ (fun w h => (((((((h.del b3).del b4).del b5).del b6).del b2).del bw).del m).ftail.ftail.drop)
   refine ZaA ?_
   refine Z3 ?_
   exact Zb [bd0] idH rfl (.cons (RV.cell rfl (lh sc3 rfl rfl)) (.cons (RV.cell rfl (lh Z9i rfl rfl)) .nil)) (v := Z3w t σ.y bads) (by unfold Z3w; rw [hfs]; rfl) ⟨.inr (.inr ⟨hck, hib, σ, hσ, rfl⟩), rfl, rfl⟩ (fun w h => (((((((h.del b3).del b4).del b5).del b6).del b2).del bw).del m).ftail.ftail.drop)
theorem Z8y : cal Try.prog 73 = true := by kernel_rfl
theorem Zb4 : Z0E Try.prog 134 = some 1 := by kernel_rfl
theorem Zb2 : Z0E Try.prog 135 = some 1 := by kernel_rfl
theorem Z8t : eqB Try.prog 10000 137 = some (true, 4) := by kernel_rfl
theorem Z89 : Z4H Try.prog 134 = some (137, 3) := by kernel_rfl
theorem Z80 : Z2w Try.prog 10000 137 = true := by kernel_rfl
theorem Z9C : Z0W Try.prog 137 = some [(0, 3), (3, 1)] := by kernel_rfl
theorem Z9S : Z2m Try.prog 134 = true := by kernel_rfl
theorem Z77 : Z2m Try.prog 135 = true := by kernel_rfl
theorem Zan : Z08 Try.prog 134 = some ([.map none]) := by kernel_rfl
theorem Zao : Z08 Try.prog 135 = some ([.nilFunc]) := by kernel_rfl
theorem Z9P : Z08 Try.prog 137 = some ([.int .i64 0, .int .i64 0, .int .i64 0, .int .i64 0]) := by kernel_rfl
theorem zv3 : zvl Try.prog 3 = some (.int .i64 0) := by kernel_rfl
def KVok (t : Twn) (kv : KV) : Prop := (∀ e ∈ kv, e.1.length = 4) ∧ ∀ (s : Sta) (n : Nat) (v : Value), kv.get [s.stock, s.short, s.dry, n] = some v → v = .int .i64 (ef t n s)
theorem KVok.nil (t : Twn) : KVok t [] := ⟨by simp, by intro s n v h; simp [KV.get] at h⟩
theorem KVok.put {t : Twn} {kv : KV} (h : KVok t kv) (s : Sta) (n : Nat) : KVok t (kv.put [s.stock, s.short, s.dry, n] (.int .i64 (ef t n s))) := by
  refine ⟨fun e he => ?_, fun u k v hv => ?_⟩
  · rcases KV.put_mem he with rfl | he
    · rfl
    · exact h.1 e he
  · rw [KV.get_put] at hv
    by_cases hk : ([s.stock, s.short, s.dry, (n : Int)] : List Int) = [u.stock, u.short, u.dry, (k : Int)]
    · simp only [hk, decide_true, cond_true, Option.some.injEq] at hv
      subst hv
      simp only [List.cons.injEq, Int.natCast_inj, and_true] at hk
      obtain ⟨a, b, c⟩ := s
      obtain ⟨a', b', c'⟩ := u
      simp only at hk
      obtain ⟨rfl, rfl, rfl, rfl⟩ := hk
      rfl
    · simp only [hk, decide_false, cond_false] at hv
      exact h.2 u k v hv
def clo (c8 c2 c9 c6 : Nat) : Value := .func (.func 73) #[] #[.pointer (some ⟨c8, 0, none⟩), .pointer (some ⟨c2, 0, none⟩), .pointer (some ⟨c9, 0, none⟩), .pointer (some ⟨c6, 0, none⟩)]
def Zah (t : Twn) (ba oa ca bt bw m m2 c8 c2 c9 c6 n : Nat) : Prop := ∀ (kv : KV) (s : Sta) (H : Za) (R : Z8) [hR : MemRows (some ⟨ba, oa, none⟩) 2 (Zx t.rats) R] [hT : MemRows (some ⟨bt, 0, none⟩) 11 [twl t (t.sl (some ⟨ba, oa, none⟩) ca)] R] [h8 : Mem1 c8 (cel 134 [.map (some m2)]) H] [h2 : Mem1 c2 (cel 27 (twl t (t.sl (some ⟨ba, oa, none⟩) ca))) H]
    [h9 : Mem1 c9 (cel 135 [clo c8 c2 c9 c6]) H] [h6 : Mem1 c6 (cel 81 [.pointer (some ⟨bw, 0, none⟩)]) H] [hW : Mem1 bw (cel 92 (rcs t (t.sl (some ⟨ba, oa, none⟩) ca) bt (List.replicate 496 0) (.slice none 0 0) m)) H],
    KVok t kv → s.right t = true → Fn Try.prog 73 [s.v, .int .i64 n, .pointer (some ⟨c8, 0, none⟩), .pointer (some ⟨c2, 0, none⟩), .pointer (some ⟨c9, 0, none⟩), .pointer (some ⟨c6, 0, none⟩)] ((m2, Z0o true kv) :: H) R
      (fun v H' R' => ∃ kv', KVok t kv' ∧ v = .int .i64 (ef t n s) ∧ H' = (m2, Z0o true kv') :: H ∧ R' = R)
theorem Z5G (t : Twn) (ht : t.ok) (ba oa ca bt bw m m2 c8 c2 c9 c6 n : Nat) (hn : n ≤ 11) (ih : Zah t ba oa ca bt bw m m2 c8 c2 c9 c6 n) :
    Zah t ba oa ca bt bw m m2 c8 c2 c9 c6 (n + 1) := by
 intro kv s H R hR hT h8 h2 h9 h6 hW hkv hs
 refine Zv Try.func73 rfl Try.ntmps73 rfl ?_
 refine sqt 2 rfl (bx rfl rfl rfl (fun b6 => pur 1 rfl (Z0 (sqt 2 rfl (pur 2 rfl ?_)))))
 refine Zo (congrArg (fun b => some (Value.bool b)) (dF (by omega))) ?_
 refine Z2 (Z0 (sqt 10 rfl (spL rfl rfl (lh Z9S rfl rfl) rfl (spL rfl rfl (lhA [_, _, _] ZG rfl rfl rfl) rfl (pur 1 rfl (sp rfl (PE.build (out := [_, _, _, _]) Z9C Z9P rfl rfl) rfl ?_))))))
 refine spK rfl rfl rfl (Z0s kv [s.stock, s.short, s.dry, (n + 1 : Nat)] Z89 (KeyT.of Z8t Z80) (Z15 zv3) rfl hkv.1 true) rfl ?_
 refine pur 5 rfl (sqt 1 rfl (pur 1 rfl ?_))
 refine Z4 rfl ?_ ?_ <;> intro hc1
 obtain ⟨u, hu⟩ := Option.isSome_iff_exists.1 hc1
 have hu2 := hkv.2 s (n + 1) u hu
 refine sqt 2 rfl (pur 2 rfl (Z3 ?_))
 first
   | exact Z5 (vs := [_]) (v := .int .i64 (ef t (n + 1) s)) rfl (.cons (RV.tmp rfl) .nil) (by show (kv.get _).getD _ = _; rw [hu]; exact hu2) ⟨kv, hkv, rfl, rfl, rfl⟩ (fun w h => h.del b6)
   | exact rtA rfl rfl rfl ⟨_, hkv.put s (n + 1), rfl, rfl, rfl⟩ (fun w h => h.del b6)
 refine Z2 (sqt 1 rfl (pur 1 rfl (Z0 (sqt 4 rfl (sp rfl (PE.fA ZJ rfl) rfl (spL rfl rfl (lh Z0Z rfl rfl) rfl (sp rfl (PE.lenSl Z2L rfl) rfl (pur 1 rfl (Z7 ?_)))))))))
 have hlen := ht.many
 have hbd := Z9V ht n
 refine Zy (ι := {x : Nat × KV // x.1 ≤ t.rats.length ∧ KVok t x.2}) (fun x => ⟨[(1, .int .i64 (n + 1 : Nat)), (2, .pointer (some ⟨c8, 0, none⟩)), (3, .pointer (some ⟨c2, 0, none⟩)), (4, .pointer (some ⟨c9, 0, none⟩)), (5, .pointer (some ⟨c6, 0, none⟩)), (6, .pointer (some ⟨b6, 0, none⟩)), (11, .int .i64 ((fun k => (t.rats.take k).foldl (efQ t (ef t n) s) (-1)) x.1.1)), (28, t.sl (some ⟨ba, oa, none⟩) ca), (29, .int .i64 t.rats.length), (30, .int .i64 x.1.1)],
   (m2, Z0o true x.1.2) :: (b6, cel 24 [.int .i64 s.stock, .int .i64 s.short, .int .i64 s.dry]) :: H, R⟩) (fun x => t.rats.length - x.1.1) ⟨(0, kv), by omega, hkv⟩ ?_ (fun x => ?_)
 exact Z05 (fun w h => h.pull m2)
 obtain ⟨⟨k, kv⟩, hk, hkv⟩ := x
 dsimp only at hk hkv ⊢
 refine sqt 1 rfl (pur 1 rfl (Z0 ?_))
 refine Z4 rfl ?_ ?_ <;> intro hc2
 simp only [cS] at hc2
 obtain ⟨q, hq⟩ : ∃ q, t.rats[k]? = some q := ⟨_, List.getElem?_eq_getElem (by omega)⟩
 have hqm := List.mem_of_getElem? hq
 have e : (t.rats.take (k + 1)).foldl (efQ t (ef t n) s) (-1) = efQ t (ef t n) s ((t.rats.take k).foldl (efQ t (ef t n) s) (-1)) q := by rw [List.take_add_one, hq, Option.toList_some, List.foldl_append]; rfl
 have hbb := Z75 (t := t) (g := ef t n) (B := n * 3000) (by omega) hbd s (t.rats.take k) (fun q hq => ht.rats q (List.mem_of_mem_take hq)) (-1) (by omega) (by omega)
 have hq1 := ht.rats q hqm
 have hmul := Z88 hq1.1 hq1.2.1 hq1.2.2.1 hq1.2.2.2
 generalize (t.rats.take k).foldl (efQ t (ef t n) s) (-1) = best at e hbb ⊢
 refine Z2 (Z0 (Z7 (sqt 6 rfl (pur 1 rfl (sp rfl (PE.indexAddr Z4E rfl rfl (by omega) (by omega)) rfl (spL rfl rfl (lfA Z4I (row := Z23 q) (ZR hq) rfl) rfl (alc rfl Z7a rfl (fun b13 => pur 1 rfl ?_))))))))
 refine sto rfl rfl rfl Z9n rfl rfl rfl rfl ?_
 refine Z0 (sqt 5 rfl (spL rfl rfl (lhA [_, _, _, _, _, _, _, _, _, _, _] ZZ rfl rfl rfl) rfl (spL rfl rfl (lhA [_, _, _] ZG rfl rfl rfl) rfl (pur 1 rfl ?_))))
 refine clV rfl Z7s rfl rfl (Z1E t s k q ba oa ca (by omega) (by simpa using hq) _ _) ?_
 refine pur 1 rfl ?_
 refine Z4 rfl ?_ ?_ <;> intro hc3
 have hcan : t.can s q = false := by rw [← Bool.not_eq_true']; exact hc3
 have hst : efQ t (ef t n) s best q = best := by simp [efQ, hcan]
 refine Zm (Zt (ZU (sqr 2 rfl (sp rfl (PE.add rfl rfl (by omega)) rfl (pur 1 rfl ?_)))))
 exact Zc ⟨(k + 1, kv), by omega, hkv⟩ (by dsimp only; omega) (by dsimp only; rw [e, hst]; exact (by repeat' first | exact Sub.nil | apply Sub.cons | rfl | (simp [lk]; omega))) (fun w h => by first | exact h.del b13 | exact (h.del b13).ftail)
 have hcan : t.can s q = true := by rw [← Bool.not_eq_false']; exact hc3
 have hcan2 : q.sacks ≤ s.stock := by simp [Twn.can] at hcan; exact hcan.1
 refine Z2 (Z0 ?_)
 refine Z9 [0, 0, 0, 0, 14, 0, 32, 127, 255] (.ld 0 (.ld 1 (.ld 2 (.tk 3 (.tk 5 (.tk 6 (.big 4 (.big 7 (.tk 8 .done))))))))) Zw (by kernel_rfl) ?_
 refine ld rfl rfl (lh Z77 rfl rfl) rfl (ld rfl rfl (lhA [_, _, _, _, _, _, _, _, _, _, _] ZZ rfl rfl rfl) rfl (ld rfl rfl (lhA [_, _, _] ZG rfl rfl rfl) rfl (Zi 2 rfl (tk rfl (PE.sub rfl rfl (by omega)) rfl ?_))))
 refine clV rfl Z4t rfl rfl (Z2N t ht s hs k q false ba oa ca (by omega) (by simpa using hq) hcan2 _ _) ?_
 refine bg (fun w hs => ⟨trivial, trivial, (lh Z77 rfl rfl) w hs, trivial⟩) ?_
 rw [show ((n + 1 : Nat) : Int) - 1 = n from by omega]
 refine ZL m2 ?_
 refine clF rfl rfl (Z8y) rfl rfl (ih kv _ _ _ hkv (Zs ht hs hqm hcan (by simp))) ?_
 rintro v _ _ ⟨kv, hkv, rfl, rfl, rfl⟩
 refine bgT (Zi 1 rfl (Z0 (Z0 ?_)))
 refine Z9 [0, 1, 3, 7, 15, 0, 63] (.ld 0 (tks 1 3 (.ld 4 (.ld 5 (.big 6 .done))))) Zw (by kernel_rfl) ?_
 refine ld rfl rfl (lh Z1R rfl rfl) rfl (tk rfl (PE.nilCheck rfl) rfl (tk rfl (PE.fA Z4Z rfl) rfl (tk rfl (PE.fA Z52 rfl) rfl (ld rfl rfl (lh Zaa rfl rfl) rfl (ld rfl rfl (lhA [_, _, _] ZG rfl rfl rfl) rfl ?_)))))
 refine Z8m rfl rfl (Z7y) rfl rfl (Z7d t s ba oa ca bt _ _) ?_
 refine bgT ?_
 refine Z4 rfl ?_ ?_ <;> intro hc4
 have hw : Z01 t (ef t n) s q = min (ef t n (t.next s q false)) (ef t n (t.next s q true)) := by unfold Z01; rw [hc4]; rfl
 refine Z9 [0, 0, 0, 0, 0, 28, 0, 64, 254, 510, 1023, 2047] (.tk 0 (.ld 1 (.ld 2 (.ld 3 (.tk 4 (.tk 6 (.tk 7 (.big 5 (.big 8 (.big 9 (.big 10 (.tk 11 .done)))))))))))) Zw (by kernel_rfl) ?_
 refine Zi 1 rfl (ld rfl rfl (lh Z77 rfl rfl) rfl (ld rfl rfl (lhA [_, _, _, _, _, _, _, _, _, _, _] ZZ rfl rfl rfl) rfl (ld rfl rfl (lhA [_, _, _] ZG rfl rfl rfl) rfl (Zi 2 rfl (tk rfl (PE.sub rfl rfl (by omega)) rfl ?_)))))
 refine clV rfl Z4t rfl rfl (Z2N t ht s hs k q true ba oa ca (by omega) (by simpa using hq) hcan2 _ _) ?_
 refine bg (fun w hs => ⟨trivial, trivial, (lh Z77 rfl rfl) w hs, trivial⟩) ?_
 rw [show ((n + 1 : Nat) : Int) - 1 = n from by omega]
 refine ZL m2 ?_
 refine clF rfl rfl (Z8y) rfl rfl (ih kv _ _ _ hkv (Zs ht hs hqm hcan (fun _ => by simpa using hc4))) ?_
 rintro v _ _ ⟨kv, hkv, rfl, rfl, rfl⟩
 refine bgT ?_
 refine bsl (out := [_]) rfl Z8p zl3 rfl rfl rfl rfl rfl rfl (fun b64 => ?_)
 refine bgT ?_
 refine Sy.heap (fun w h => St.rows (sz := 1) (rows := [[.int .i64 _]]) (rest := []) h (by simp)) ?_
 refine clV rfl Z95 rfl rfl (Z3P _ _ _ _ _ _) ?_
 refine bgT (Zi 1 rfl (sqt 2 rfl (pur 2 rfl ?_)))
 refine Z4 rfl ?_ ?_ <;> intro hc5
 have hne : Z01 t (ef t n) s q ≠ -1 := by rw [hw]; simpa using hc5
 have hst : efQ t (ef t n) s best q = max best (Z01 t (ef t n) s q + q.sacks * q.price) := by simp [efQ, hcan, hne]
 rw [hw] at hst
 have hwb := Z3Q (t := t) hbd s q
 rw [hw] at hwb
 refine sqr 10 rfl (pur 2 rfl (sp rfl (PE.fA Z0p rfl) rfl (spL rfl rfl (lh sc3 rfl rfl) rfl (sp rfl (PE.fA Z4k rfl) rfl (spL rfl rfl (lh sc3 rfl rfl) rfl (sp rfl (PE.mul rfl rfl (by omega)) rfl (sp rfl (PE.add rfl rfl (by omega)) rfl (sp rfl (PE.max rfl rfl) rfl (pur 1 rfl (sqr 2 rfl (sp rfl (PE.add rfl rfl (by omega)) rfl (pur 1 rfl ?_))))))))))))
 exact Zc ⟨(k + 1, kv), by omega, hkv⟩ (by dsimp only; omega) (by dsimp only; rw [e, hst]; exact (by repeat' first | exact Sub.nil | apply Sub.cons | rfl | (simp [lk]; omega))) (fun w h => by first | exact h.del b13 | exact (h.del b13).ftail)
 have hne : Z01 t (ef t n) s q = -1 := by rw [hw]; simpa using hc5
 have hst : efQ t (ef t n) s best q = best := by simp [efQ, hcan, hne]
 refine Z2 (sqr 2 rfl (sp rfl (PE.add rfl rfl (by omega)) rfl (pur 1 rfl ?_)))
 exact Zc ⟨(k + 1, kv), by omega, hkv⟩ (by dsimp only; omega) (by dsimp only; rw [e, hst]; exact (by repeat' first | exact Sub.nil | apply Sub.cons | rfl | (simp [lk]; omega))) (fun w h => by first | exact h.del b13 | exact (h.del b13).ftail)
 have hw : Z01 t (ef t n) s q = ef t n (t.next s q false) := by unfold Z01; rw [hc4]; rfl
 refine Z2 (sqt 2 rfl (pur 2 rfl ?_))
 refine Z4 rfl ?_ ?_ <;> intro hc5
 have hne : Z01 t (ef t n) s q ≠ -1 := by rw [hw]; simpa using hc5
 have hst : efQ t (ef t n) s best q = max best (Z01 t (ef t n) s q + q.sacks * q.price) := by simp [efQ, hcan, hne]
 rw [hw] at hst
 have hwb := Z3Q (t := t) hbd s q
 rw [hw] at hwb
 refine sqr 10 rfl (pur 2 rfl (sp rfl (PE.fA Z0p rfl) rfl (spL rfl rfl (lh sc3 rfl rfl) rfl (sp rfl (PE.fA Z4k rfl) rfl (spL rfl rfl (lh sc3 rfl rfl) rfl (sp rfl (PE.mul rfl rfl (by omega)) rfl (sp rfl (PE.add rfl rfl (by omega)) rfl (sp rfl (PE.max rfl rfl) rfl (pur 1 rfl (sqr 2 rfl (sp rfl (PE.add rfl rfl (by omega)) rfl (pur 1 rfl ?_))))))))))))
 exact Zc ⟨(k + 1, kv), by omega, hkv⟩ (by dsimp only; omega) (by dsimp only; rw [e, hst]; exact (by repeat' first | exact Sub.nil | apply Sub.cons | rfl | (simp [lk]; omega))) (fun w h => by first | exact h.del b13 | exact (h.del b13).ftail)
 have hne : Z01 t (ef t n) s q = -1 := by rw [hw]; simpa using hc5
 have hst : efQ t (ef t n) s best q = best := by simp [efQ, hcan, hne]
 refine Z2 (sqr 2 rfl (sp rfl (PE.add rfl rfl (by omega)) rfl (pur 1 rfl ?_)))
 exact Zc ⟨(k + 1, kv), by omega, hkv⟩ (by dsimp only; omega) (by dsimp only; rw [e, hst]; exact (by repeat' first | exact Sub.nil | apply Sub.cons | rfl | (simp [lk]; omega))) (fun w h => by first | exact h.del b13 | exact (h.del b13).ftail)
 simp only [cS] at hc2
 obtain rfl : k = t.rats.length := by omega
 rw [show (t.rats.take t.rats.length).foldl (efQ t (ef t n) s) (-1) = ef t (n + 1) s from by rw [List.take_length]; rfl]
 refine Zm (Zt (Zt (ZU (sqt 6 rfl (spL rfl rfl (lh Z9S rfl rfl) rfl (spL rfl rfl (lhA [_, _, _] ZG rfl rfl rfl) rfl (pur 1 rfl (sp rfl (PE.build (out := [_, _, _, _]) Z9C Z9P rfl rfl) rfl (pur 1 rfl ?_)))))))))
 refine mpu kv [s.stock, s.short, s.dry, (n + 1 : Nat)] rfl Z89 (KeyT.of Z8t Z80) rfl rfl rfl rfl hkv.1 ?_
 refine sqt 2 rfl (pur 2 rfl (Z3 ?_))
 first
   | exact Z5 (vs := [_]) (v := .int .i64 (ef t (n + 1) s)) rfl (.cons (RV.tmp rfl) .nil) (by show (kv.get _).getD _ = _; rw [hu]; exact hu2) ⟨kv, hkv, rfl, rfl, rfl⟩ (fun w h => h.del b6)
   | exact rtA rfl rfl rfl ⟨_, hkv.put s (n + 1), rfl, rfl, rfl⟩ (fun w h => h.del b6)
theorem Z5L (t : Twn) (ba oa ca bt bw m m2 c8 c2 c9 c6 : Nat) :
    Zah t ba oa ca bt bw m m2 c8 c2 c9 c6 0 := by
 intro kv s H R hR hT h8 h2 h9 h6 hW hkv hs
 refine Zv Try.func73 rfl Try.ntmps73 rfl ?_
 refine sqt 2 rfl (bx rfl rfl rfl (fun b6 => pur 1 rfl (Z0 (sqt 2 rfl (pur 2 rfl ?_)))))
 refine Zp (rfl) ?_
 refine sqt 1 rfl (pur 1 rfl (Z3 ?_))
 exact rtA rfl rfl rfl ⟨_, hkv, rfl, rfl, rfl⟩ (fun w h => h.del b6)
theorem Z9x (t : Twn) (ht : t.ok) (ba oa ca bt bw m m2 c8 c2 c9 c6 : Nat) : ∀ n : Nat, n ≤ 12 → Zah t ba oa ca bt bw m m2 c8 c2 c9 c6 n
  | 0, _ => Z5L t ba oa ca bt bw m m2 c8 c2 c9 c6
  | n + 1, h => Z5G t ht ba oa ca bt bw m m2 c8 c2 c9 c6 n (by omega) (Z9x t ht ba oa ca bt bw m m2 c8 c2 c9 c6 n (by omega))
def Z2U (t : Twn) (years : Int) : Value := bif decide (ef t years.toNat t.now = -1) then .tuple #[.int .i64 0, .int .i64 6] else .tuple #[.int .i64 (ef t years.toNat t.now), .int .i64 0]
theorem Z9a (t : Twn) (hl : t.rats.length ≤ 9223372036854775807) (years : Int) (ba oa ca : Nat) (H : Za) (R : Z8) [hR : MemRows (some ⟨ba, oa, none⟩) 2 (Zx t.rats) R] :
    Fn Try.prog 52 [t.v (t.sl (some ⟨ba, oa, none⟩) ca), .int .i64 years] H R (fun v H' R' => ((t.check ≠ 0 ∧ v = .tuple #[.int .i64 0, .int .i64 t.check]) ∨
      (t.check = 0 ∧ inb years 0 12 = false ∧ v = .tuple #[.int .i64 0, .int .i64 3]) ∨ (t.check = 0 ∧ inb years 0 12 = true ∧ v = Z2U t years)) ∧ H' = H ∧ R' = R) := by
 refine Zv Try.func52 rfl Try.ntmps52 rfl ?_
 refine sqt 3 rfl (bx rfl rfl rfl (fun b2 => pur 2 rfl (sqt 8 rfl (spL rfl rfl (lhA [_, _, _, _, _, _, _, _, _, _, _] ZZ rfl rfl rfl) rfl ?_))))
 refine cl rfl Z6h rfl rfl (Z1G t hl ba oa ca _ _) ?_
 rintro _ _ _ (⟨hck, rfl, rfl, rfl⟩ | ⟨hck, bw, m, bt, rfl, rfl, rfl⟩)
 refine pur 3 rfl (alc rfl Z8f rfl (fun b6 => ?_))
 refine sto rfl rfl rfl Z82 rfl rfl rfl rfl ?_
 refine pur 1 rfl (Z0 (Z7 (sqt 3 rfl (pur 3 rfl ?_))))
 refine Zp (congrArg (fun b => some (Value.bool b)) (dT hck)) ?_
 refine sqt 3 rfl (pur 3 rfl (Z3 ?_))
 exact rtB rfl rfl rfl rfl ⟨.inl ⟨hck, rfl⟩, rfl, rfl⟩ drp
 have hok := (Zk hck).1
 refine pur 3 rfl (alc rfl Z8f rfl (fun b6 => ?_))
 refine sto rfl rfl rfl Z82 rfl rfl rfl rfl ?_
 refine pur 1 rfl (Z0 (Z7 (sqt 3 rfl (pur 3 rfl ?_))))
 refine Zo (rfl) ?_
 refine sqt 4 rfl (pur 1 rfl ?_)
 refine clV rfl Z0Y rfl rfl (Z45 _ _ _ _ _) ?_
 refine pur 2 rfl ?_
 refine Z4 rfl ?_ ?_ <;> intro hc1
 have hib : inb years 0 12 = false := by rw [← Bool.not_eq_true']; exact hc1
 refine sqt 2 rfl (pur 2 rfl (Z3 ?_))
 first
   | exact rtB rfl rfl rfl rfl ⟨.inr (.inl ⟨hck, hib, rfl⟩), rfl, rfl⟩ drp
   | exact Z5 (vs := [_, _]) (v := Z2U t n) rfl (.cons (RV.tmp rfl) (.cons (RV.tmp rfl) .nil)) (by rw [he]; rfl) ⟨.inr (.inr ⟨hck, hib, rfl⟩), rfl, rfl⟩ drp
 have hib : inb years 0 12 = true := by rw [← Bool.not_eq_false']; exact hc1
 have hbd := hib
 simp only [inb, Bool.and_eq_true, decide_eq_true_eq] at hbd
 obtain ⟨n, rfl⟩ : ∃ n : Nat, years = n := ⟨years.toNat, by omega⟩
 refine Z2 (sqt 3 rfl ?_)
 refine mkm rfl rfl true (fun m2 => ?_)
 refine alc rfl Zan rfl (fun b8 => ?_)
 refine sto rfl rfl rfl Zb4 rfl rfl rfl rfl ?_
 refine sqt 1 rfl (alc rfl Zao rfl (fun b9 => sqt 2 rfl (sp rfl (PE.makeFunc rfl rfl) rfl ?_)))
 refine sto rfl rfl rfl Zb2 rfl rfl rfl rfl ?_
 refine sqt 6 rfl (spL rfl rfl (lh Z77 rfl rfl) rfl (sp rfl (PE.fA Z0d rfl) rfl (spL rfl rfl (lhA [_, _, _] ZG rfl rfl rfl) rfl (pur 1 rfl ?_))))
 refine ZL m2 ?_
 refine clF rfl rfl (Z8y) rfl rfl (Z9x t hok ba oa ca bt bw m m2 b8 b2 b9 b6 n (by omega) [] t.now _ _ (KVok.nil t) hok.now) ?_
 rintro v _ _ ⟨kv, hkv, rfl, rfl, rfl⟩
 refine pur 1 rfl (Z0 (sqt 2 rfl (pur 2 rfl ?_)))
 refine Z4 rfl ?_ ?_ <;> intro hc2
 have he : Z2U t n = .tuple #[.int .i64 0, .int .i64 6] := by unfold Z2U; rw [Int.toNat_natCast, hc2]; rfl
 refine sqt 2 rfl (pur 2 rfl (Z3 ?_))
 first
   | exact rtB rfl rfl rfl rfl ⟨.inr (.inl ⟨hck, hib, rfl⟩), rfl, rfl⟩ drp
   | exact Z5 (vs := [_, _]) (v := Z2U t n) rfl (.cons (RV.tmp rfl) (.cons (RV.tmp rfl) .nil)) (by rw [he]; rfl) ⟨.inr (.inr ⟨hck, hib, rfl⟩), rfl, rfl⟩ drp
 have he : Z2U t n = .tuple #[.int .i64 (ef t n t.now), .int .i64 0] := by unfold Z2U; rw [Int.toNat_natCast, hc2]; rfl
 refine Z2 (sqt 3 rfl (pur 3 rfl (Z3 ?_)))
 first
   | exact rtB rfl rfl rfl rfl ⟨.inr (.inl ⟨hck, hib, rfl⟩), rfl, rfl⟩ drp
   | exact Z5 (vs := [_, _]) (v := Z2U t n) rfl (.cons (RV.tmp rfl) (.cons (RV.tmp rfl) .nil)) (by rw [he]; rfl) ⟨.inr (.inr ⟨hck, hib, rfl⟩), rfl, rfl⟩ drp
theorem Zab : Z5M Try.prog 48 = some 5 := by kernel_rfl
theorem ZaO : cal Try.prog 41 = true := by kernel_rfl
theorem Zad : Z0E Try.prog 48 = some 5 := by kernel_rfl
theorem Z9l : elN Try.prog 34 = some 5 := by kernel_rfl
theorem Z1U : Z1j Try.prog 48 0 = some 0 := by kernel_rfl
theorem Z0w : Z1j Try.prog 48 1 = some 3 := by kernel_rfl
theorem Z39 : Z1j Try.prog 48 2 = some 4 := by kernel_rfl
theorem Z1h : Z6l Try.prog 34 = true := by kernel_rfl
theorem Z4K (t : Twn) (hl : t.rats.length ≤ 9223372036854775807) (tb : List Rw) (a : Option Addr) (c : Nat) (hl2 : tb.length ≤ 9223372036854775807) (ba oa ca : Nat) (H : Za) (R : Z8) [hR : MemRows (some ⟨ba, oa, none⟩) 2 (Zx t.rats) R] [hR2 : MemRows a 5 (Zg tb) R] :
    FnV Try.prog 12 [t.v (t.sl (some ⟨ba, oa, none⟩) ca), .slice a tb.length c] H R (.tuple #[.int .i64 (Zu t tb).1, .int .i64 (Zu t tb).2]) := by
 refine Z55 Try.func12 rfl Try.ntmps12 rfl ?_
 refine sqt 3 rfl (bx rfl rfl rfl (fun b2 => pur 2 rfl (Z7f (sqt 8 rfl (spL rfl rfl (lhA [_, _, _, _, _, _, _, _, _, _, _] ZZ rfl rfl rfl) rfl ?_)))))
 refine cl rfl Z6h rfl rfl (Z1G t hl ba oa ca _ _) ?_
 rintro _ _ _ (⟨hck, rfl, rfl, rfl⟩ | ⟨hck, bw, m, bt, rfl, rfl, rfl⟩)
 refine pur 3 rfl (alc rfl Z8f rfl (fun b6 => ?_))
 refine sto rfl rfl rfl Z82 rfl rfl rfl rfl ?_
 refine pur 1 rfl (Z0 (Z7 (sqt 3 rfl (pur 3 rfl ?_))))
 refine Zp (congrArg (fun b => some (Value.bool b)) (dT hck)) ?_
 refine sqt 3 rfl (pur 3 rfl (Z3 ?_))
 have hres : Zu t tb = (0, t.check) := by simp [Zu, hck]
 exact Zb [] (vs := [_, _]) (v := .tuple #[.int .i64 (Zu t tb).1, .int .i64 (Zu t tb).2]) idH rfl (.cons (RV.tmp rfl) (.cons (RV.tmp rfl) .nil)) (by rw [hres]; rfl) ⟨rfl, rfl, rfl⟩ drp
 ·
  have ht := (Zk hck).1
  have t1 := ht.holds
  have t2 := ht.patience
  have t3 := ht.run
  refine pur 3 rfl (alc rfl Z8f rfl (fun b6 => ?_))
  refine sto rfl rfl rfl Z82 rfl rfl rfl rfl ?_
  refine pur 1 rfl (Z0 (Z7 (sqt 3 rfl (pur 3 rfl ?_))))
  refine Zo (rfl) ?_
  refine sqt 4 rfl (pur 1 rfl (sp rfl (PE.lenSl Z1h rfl) rfl (pur 2 rfl ?_)))
  refine Z4 rfl ?_ ?_ <;> intro hc1
  have hlen : 496 < tb.length := by simp only [decide_eq_true_eq] at hc1; omega
  have hres : Zu t tb = (0, 2) := by simp [Zu, hck, hlen]
  refine sqt 2 rfl (pur 2 rfl (Z3 ?_))
  first
    | exact Zb [] (vs := [_, _]) (v := .tuple #[.int .i64 (Zu t tb).1, .int .i64 (Zu t tb).2]) idH rfl (.cons (RV.tmp rfl) (.cons (RV.tmp rfl) .nil)) (by rw [hres]; rfl) ⟨rfl, rfl, rfl⟩ drp
    | exact Zb [bd0] (vs := [_, _]) (v := .tuple #[.int .i64 (Zu t tb).1, .int .i64 (Zu t tb).2]) (fun _ h => h.pull bd0) rfl (.cons (RV.tmp rfl) (.cons (RV.tmp rfl) .nil)) (by rw [hres]; rfl) ⟨rfl, rfl, rfl⟩ drp
  ·
   have hlen : tb.length ≤ 496 := by simp only [decide_eq_false_iff_not] at hc1; omega
   refine Z2 (Z0 (sqt 2 rfl (spL rfl rfl (lhA [_, _, _, _, _, _, _, _, _, _, _] ZZ rfl rfl rfl) rfl ?_)))
   refine cl rfl Z72 rfl rfl (Z1C t (t.sl (some ⟨ba, oa, none⟩) ca) _ _) ?_
   rintro _ _ _ ⟨b31, rfl, rfl, rfl⟩
   refine Z7 ?_
   refine Z1N rfl Z6k (fun c0 bl0 bd0 hcp0 hca0 hcb0 hck0 => ?_)
   refine ⟨fun st pend T R' => st = .ready ∧ pend = none ∧ T = (bd0, .deferred (some [])) :: (b6, cel 81 [.pointer (some ⟨bw, 0, none⟩)]) :: (bw, cel 92 (rcs t (t.sl (some ⟨ba, oa, none⟩) ca) bt (Z4q t) (.slice none 0 0) m)) :: (m, Z0o true []) :: (b2, cel 27 (twl t (t.sl (some ⟨ba, oa, none⟩) ca))) :: H ∧ R' = RowsA (some ⟨b31, 0, none⟩) 11 [twl t (t.sl (some ⟨ba, oa, none⟩) ca)] :: RowsA (some ⟨bt, 0, none⟩) 11 [twl t (t.sl (some ⟨ba, oa, none⟩) ca)] :: R,
     Fn.mono (Z16 t ht (t.sl (some ⟨ba, oa, none⟩) ca) b31 bl0 (fun k H' R' => H' = (bl0, lob c0 .ready none) :: (bd0, .deferred (some [])) :: (b6, cel 81 [.pointer (some ⟨bw, 0, none⟩)]) :: (bw, cel 92 (rcs t (t.sl (some ⟨ba, oa, none⟩) ca) bt (((sts t).take k).foldl (fun y s => y.set s.ix (-1)) (List.replicate 496 (0 : Int))) (.slice none 0 0) m)) :: (m, Z0o true []) :: (b2, cel 27 (twl t (t.sl (some ⟨ba, oa, none⟩) ca))) :: H ∧ R' = RowsA (some ⟨b31, 0, none⟩) 11 [twl t (t.sl (some ⟨ba, oa, none⟩) ca)] :: RowsA (some ⟨bt, 0, none⟩) 11 [twl t (t.sl (some ⟨ba, oa, none⟩) ca)] :: R) (fun _ _ => False)
       (fun k H' R' h => by rw [h.2]; simp) (fun k s H' R' hk hI => ?_) _ _ ⟨rfl, rfl⟩) (fun v H' R' h => ?_), ?_⟩
   rotate_left
   · rcases h with ⟨rfl, rfl⟩ | h
     · rw [List.take_of_length_le (by rw [Z0B]; exact Nat.le_refl _)]
       exact ⟨.ready, none, _, by simp, .refl _, rfl, rfl, rfl, rfl⟩
     · exact h.elim
   rotate_left
   obtain ⟨rfl, rfl⟩ := hI
   have hs := Zh ht (List.mem_of_getElem? hk)
   have hix := Z1w ht hs
   have q1 := right_iff.1 hs
   have e : ((sts t).take (k + 1)).foldl (fun y s => y.set s.ix (-1)) (List.replicate 496 (0 : Int)) = (((sts t).take k).foldl (fun y s => y.set s.ix (-1)) (List.replicate 496 (0 : Int))).set s.ix (-1) := by rw [List.take_add_one, hk, Option.toList_some, List.foldl_append]; rfl
   rw [e]
   have hyl : (((sts t).take k).foldl (fun y s => y.set s.ix (-1)) (List.replicate 496 (0 : Int))).length = 496 := by rw [Z2p, List.length_replicate]
   generalize ((sts t).take k).foldl (fun y s => y.set s.ix (-1)) (List.replicate 496 (0 : Int)) = y at *
   refine Z6J hcp0 hca0 hcb0 hck0 rfl ?_
   refine sqr 2 rfl (alc rfl Z37 rfl (fun b8 => ?_))
   refine sto rfl rfl rfl Z2n rfl rfl rfl rfl ?_
   refine Z0a ?_
   refine Z7 ?_
   refine Z9 [0, 0, 2, 0, 8, 0, 32, 1, 129, 391, 927, 2047, 4095] (.ld 0 (.tk 1 (.ld 2 (.tk 3 (.ld 4 (.tk 5 (.ld 6 (tks 7 5 (.big 12 .done))))))))) Zw (by kernel_rfl) ?_
   refine ld rfl rfl (lh Z1R rfl rfl) rfl (tk rfl (PE.fA Z07 rfl) rfl (ld rfl rfl (lh sc3 rfl rfl) rfl (tk rfl (PE.fA ZT rfl) rfl (ld rfl rfl (lh sc3 rfl rfl) rfl (tk rfl (PE.fA Z0i rfl) rfl (ld rfl rfl (lh sc3 rfl rfl) rfl (tk rfl (PE.nilCheck rfl) rfl (tk rfl (PE.fA Z02 rfl) rfl (tk rfl (PE.indexArr Z8O rfl rfl (by omega) (by omega)) rfl (tk rfl (PE.indexArr Z9k rfl rfl (by omega) (by omega)) rfl (tk rfl (PE.indexArr Z9h rfl rfl (by omega) (by omega)) rfl ?_)))))))))))
   refine Z5V rfl rfl rfl cn3 rfl rfl rfl (Z4c (-1) (i := s.ix) (by omega) (by unfold Sta.ix; omega)) (by rw [Z2D hyl]; show _ + 1 ≤ 510; omega) ?_
   refine bgT ?_
   exact ZA (.inl ⟨rfl, rfl, rfl⟩) (fun _ h => by repeat first | exact h | replace h := St.tail h | replace h := St.ftail h | replace h := St.drop h)
   rintro _ _ _ _ ⟨rfl, rfl, rfl, rfl⟩
   refine Z6n ?_
   refine sqt 1 rfl (pur 1 rfl (Z0 (sqt 3 rfl (pur 1 rfl (sp rfl (PE.lenSl Z1h rfl) rfl (pur 1 rfl (Z7 ?_)))))))
   have hny : (Z4q t).length = 496 := by rw [Z4q, Z2p, List.length_replicate]
   refine Zy (ι := {x : Nat × Bool × List Int // x.1 ≤ tb.length ∧ x.2.2.length = 496 ∧ Zn t tb false (Z4q t) = Zn t (tb.drop x.1) x.2.1 x.2.2}) (fun x => ⟨[(1, .slice a tb.length c), (2, .pointer (some ⟨b2, 0, none⟩)), (6, .pointer (some ⟨b6, 0, none⟩)), (9, .bool x.1.2.1), (45, .slice a tb.length c), (46, .int .i64 tb.length), (47, .int .i64 x.1.1)], (bd0, .deferred (some [])) :: (b6, cel 81 [.pointer (some ⟨bw, 0, none⟩)]) :: (bw, cel 92 (rcs t (t.sl (some ⟨ba, oa, none⟩) ca) bt (x.1.2.2) (.slice none 0 0) m)) :: (m, Z0o true []) :: (b2, cel 27 (twl t (t.sl (some ⟨ba, oa, none⟩) ca))) :: H, RowsA (some ⟨b31, 0, none⟩) 11 [twl t (t.sl (some ⟨ba, oa, none⟩) ca)] :: RowsA (some ⟨bt, 0, none⟩) 11 [twl t (t.sl (some ⟨ba, oa, none⟩) ca)] :: R⟩) (fun x => tb.length - x.1.1) ⟨(0, false, Z4q t), by omega, hny, rfl⟩ ?_ (fun x => ?_)
   exact Z05 idH
   obtain ⟨⟨k, tw, y⟩, hk, hyl, hsc⟩ := x
   dsimp only at hk hyl hsc ⊢
   refine sqt 1 rfl (pur 1 rfl (Z0 ?_))
   refine Z4 rfl ?_ ?_ <;> intro hc2
   simp only [cS] at hc2
   obtain ⟨x, hx⟩ : ∃ x, tb[k]? = some x := ⟨_, List.getElem?_eq_getElem (by omega)⟩
   rw [Z3j hx] at hsc
   refine Z00 (a := a) (sz := 5) (rows := Zg tb) (by intro h0; simp [Zg] at h0; simp [h0] at hx) (fun bx ox he => ?_)
   subst he
   refine Z2 (Z0 (Z7 (sqt 4 rfl (sp rfl (PE.indexAddr Z9l rfl rfl (by omega) (by omega)) rfl (spL rfl rfl (lfA Zab (row := Z5T x) (by simp [Zg, hx]) rfl) rfl (alc rfl Z8Y rfl (fun b11 => ?_)))))))
   refine sto rfl rfl rfl Zad rfl rfl rfl rfl ?_
   refine sqt 4 rfl (sp rfl (PE.fA Z1U rfl) rfl (spL rfl rfl (lhA [_, _, _] ZG rfl rfl rfl) rfl (alc rfl Z37 rfl (fun b12 => ?_))))
   refine sto rfl rfl rfl Z2n rfl rfl rfl rfl ?_
   refine Z7 (sqt 11 rfl (spL rfl rfl (lhA [_, _, _, _, _, _, _, _, _, _, _] ZZ rfl rfl rfl) rfl (spL rfl rfl (lhA [_, _, _] ZG rfl rfl rfl) rfl ?_)))
   refine clV rfl Z93 rfl rfl (Z4B t x.st _ _ _) ?_
   refine pur 2 rfl ?_
   refine Z0b 81 rfl ?_ ?_ <;> intro g81
   have hr : x.st.right t = false := by rw [← Bool.not_eq_true']; exact g81
   have hres : Zu t tb = (0, 3) := Z1F hck hlen (by rw [hsc]; unfold Zn; rw [hr]; rfl)
   refine pur 6 rfl ?_
   refine Zp rfl ?_
   refine sqt 2 rfl (pur 2 rfl (Z3 ?_))
   first
     | exact Zb [] (vs := [_, _]) (v := .tuple #[.int .i64 (Zu t tb).1, .int .i64 (Zu t tb).2]) idH rfl (.cons (RV.tmp rfl) (.cons (RV.tmp rfl) .nil)) (by rw [hres]; rfl) ⟨rfl, rfl, rfl⟩ drp
     | exact Zb [bd0] (vs := [_, _]) (v := .tuple #[.int .i64 (Zu t tb).1, .int .i64 (Zu t tb).2]) (fun _ h => h.pull bd0) rfl (.cons (RV.tmp rfl) (.cons (RV.tmp rfl) .nil)) (by rw [hres]; rfl) ⟨rfl, rfl, rfl⟩ drp
   have hr : x.st.right t = true := by rw [← Bool.not_eq_false']; exact g81
   have hix := Z1w ht hr
   have q1 := right_iff.1 hr
   refine spG rfl rfl rfl rfl (PE.fA Z0w rfl) rfl ?_
   refine Z0K rfl rfl rfl rfl rfl (lh sc3 rfl rfl) rfl ?_
   refine Z1X rfl rfl rfl rfl Z0Y rfl rfl (Z45 _ _ _ _ _) ?_
   refine pur 3 rfl ?_
   refine Z4 rfl ?_ ?_ <;> intro hc3
   have hib : inb x.lasts 0 1000000 = false := by rw [← Bool.not_eq_true']; exact hc3
   have hres : Zu t tb = (0, 3) := Z1F hck hlen (by rw [hsc]; unfold Zn; rw [hr, hib]; rfl)
   refine sqt 2 rfl (pur 2 rfl (Z3 ?_))
   first
     | exact Zb [] (vs := [_, _]) (v := .tuple #[.int .i64 (Zu t tb).1, .int .i64 (Zu t tb).2]) idH rfl (.cons (RV.tmp rfl) (.cons (RV.tmp rfl) .nil)) (by rw [hres]; rfl) ⟨rfl, rfl, rfl⟩ drp
     | exact Zb [bd0] (vs := [_, _]) (v := .tuple #[.int .i64 (Zu t tb).1, .int .i64 (Zu t tb).2]) (fun _ h => h.pull bd0) rfl (.cons (RV.tmp rfl) (.cons (RV.tmp rfl) .nil)) (by rw [hres]; rfl) ⟨rfl, rfl, rfl⟩ drp
   have hib : inb x.lasts 0 1000000 = true := by rw [← Bool.not_eq_false']; exact hc3
   refine sqt 6 rfl (spL rfl rfl (lhA [_, _, _, _, _, _, _, _, _, _, _] ZZ rfl rfl rfl) rfl (sp rfl (PE.fA Z39 rfl) rfl (spL rfl rfl (lh sc3 rfl rfl) rfl ?_)))
   refine clV rfl ZaO rfl rfl (Z7V t x.ration _ _ hl _ _) ?_
   refine pur 2 rfl ?_
   refine Z4 rfl ?_ ?_ <;> intro hc4
   have hnr := Z7O (t := t) (r := x.ration) (by rw [← Bool.not_eq_true']; exact hc4)
   have hres : Zu t tb = (0, 1) := Z1F hck hlen (by rw [hsc]; unfold Zn; rw [hr, hib, hnr]; rfl)
   refine sqt 2 rfl (pur 2 rfl (Z3 ?_))
   first
     | exact Zb [] (vs := [_, _]) (v := .tuple #[.int .i64 (Zu t tb).1, .int .i64 (Zu t tb).2]) idH rfl (.cons (RV.tmp rfl) (.cons (RV.tmp rfl) .nil)) (by rw [hres]; rfl) ⟨rfl, rfl, rfl⟩ drp
     | exact Zb [bd0] (vs := [_, _]) (v := .tuple #[.int .i64 (Zu t tb).1, .int .i64 (Zu t tb).2]) (fun _ h => h.pull bd0) rfl (.cons (RV.tmp rfl) (.cons (RV.tmp rfl) .nil)) (by rw [hres]; rfl) ⟨rfl, rfl, rfl⟩ drp
   obtain ⟨hr0, q, hq⟩ := Z9t (t := t) (r := x.ration) (by rw [← Bool.not_eq_false']; exact hc4)
   have hrq := Z5g hr0 hq
   refine sqt 7 rfl (spL rfl rfl (lhA [_, _, _, _, _, _, _, _, _, _, _] ZZ rfl rfl rfl) rfl (spL rfl rfl (lhA [_, _, _] ZG rfl rfl rfl) rfl (sp rfl (PE.fA Z39 rfl) rfl (spL rfl rfl (lh sc3 rfl rfl) rfl ?_))))
   refine clV rfl Z7s rfl rfl (Z1E t x.st x.ration q ba oa ca hr0 hq _ _) ?_
   refine pur 2 rfl ?_
   refine Z4 rfl ?_ ?_ <;> intro hc5
   have hcan : t.can x.st q = false := by rw [← Bool.not_eq_true']; exact hc5
   have hres : Zu t tb = (0, 9) := Z1F hck hlen (by rw [hsc]; unfold Zn; rw [hr, hib, hrq]; simp [hcan])
   refine sqt 2 rfl (pur 2 rfl (Z3 ?_))
   first
     | exact Zb [] (vs := [_, _]) (v := .tuple #[.int .i64 (Zu t tb).1, .int .i64 (Zu t tb).2]) idH rfl (.cons (RV.tmp rfl) (.cons (RV.tmp rfl) .nil)) (by rw [hres]; rfl) ⟨rfl, rfl, rfl⟩ drp
     | exact Zb [bd0] (vs := [_, _]) (v := .tuple #[.int .i64 (Zu t tb).1, .int .i64 (Zu t tb).2]) (fun _ h => h.pull bd0) rfl (.cons (RV.tmp rfl) (.cons (RV.tmp rfl) .nil)) (by rw [hres]; rfl) ⟨rfl, rfl, rfl⟩ drp
   have hcan : t.can x.st q = true := by rw [← Bool.not_eq_false']; exact hc5
   refine Z0 ?_
   refine Z9 [0, 1, 3, 7, 15, 3, 63, 127, 255, 511] (.tk 0 (.tk 1 (.ld 2 (.tk 3 (.tk 4 (.ld 5 (.big 6 (tks 7 3 .done)))))))) Zw (by kernel_rfl) ?_
   refine Zi 2 rfl ?_
   refine Z0b 54 rfl ?_ ?_ <;> intro g54
   subst g54
   have hst : Zn t tb false (Z4q t) = Zn t (tb.drop (k + 1)) true (y.set x.st.ix x.lasts) := by rw [hsc, Zn, hr, hib, hrq]; simp [hcan]
   refine ldN rfl rfl rfl rfl rfl rfl rfl rfl ?_
   refine Zi 2 rfl ?_
   refine ldN rfl rfl rfl rfl rfl rfl rfl rfl ?_
   refine spN rfl rfl rfl rfl rfl rfl rfl rfl ?_
   refine bgT (Zi 3 rfl ?_)
   refine Z9 [0, 0, 2, 0, 8, 0, 32, 0, 128, 1, 513, 1543, 3615, 8191, 16383] (.ld 0 (.tk 1 (.ld 2 (.tk 3 (.ld 4 (.tk 5 (.ld 6 (.tk 7 (.ld 8 (tks 9 5 (.big 14 .done))))))))))) Zw (by kernel_rfl) ?_
   refine ld rfl rfl (lh Z1R rfl rfl) rfl (tk rfl (PE.fA Z07 rfl) rfl (ld rfl rfl (lh sc3 rfl rfl) rfl (tk rfl (PE.fA ZT rfl) rfl (ld rfl rfl (lh sc3 rfl rfl) rfl (tk rfl (PE.fA Z0i rfl) rfl (ld rfl rfl (lh sc3 rfl rfl) rfl (tk rfl (PE.fA Z0w rfl) rfl (ld rfl rfl (lh sc3 rfl rfl) rfl (tk rfl (PE.nilCheck rfl) rfl (tk rfl (PE.fA Z02 rfl) rfl (tk rfl (PE.indexArr Z8O rfl rfl (by omega) (by omega)) rfl (tk rfl (PE.indexArr Z9k rfl rfl (by omega) (by omega)) rfl (tk rfl (PE.indexArr Z9h rfl rfl (by omega) (by omega)) rfl ?_)))))))))))))
   refine Z5V rfl rfl rfl cn3 rfl rfl rfl (Z4c x.lasts (i := x.st.ix) (by omega) (by unfold Sta.ix; omega)) (by rw [Z2D hyl]; show _ + 1 ≤ 510; omega) ?_
   refine bgT (sqr 2 rfl (sp rfl (PE.add rfl rfl (by omega)) rfl (pur 1 rfl ?_)))
   exact Z0z ⟨(k + 1, _, y.set x.st.ix x.lasts), by omega, by simpa using hyl, hst⟩ drp
   subst g54
   have hst : Zn t tb false (Z4q t) = Zn t (tb.drop (k + 1)) (decide (lat y x.st ≠ -1)) (y.set x.st.ix x.lasts) := by rw [hsc, Zn, hr, hib, hrq]; simp [hcan]
   refine ldG rfl rfl rfl rfl rfl (lh Z1R rfl rfl) rfl ?_
   refine tkG rfl rfl rfl rfl (PE.nilCheck rfl) rfl ?_
   refine tkG rfl rfl rfl rfl (PE.fA Z02 rfl) rfl ?_
   refine ldG rfl rfl rfl rfl rfl (lhA [_, _, _] ZG rfl rfl rfl) rfl ?_
   refine Z1X rfl rfl rfl rfl Z2g rfl rfl (Z5U t ht x.st hr ba oa ca bt bw m y (.slice none 0 0) hyl _ _) ?_
   refine bgT (Zi 3 rfl ?_)
   refine Z9 [0, 0, 2, 0, 8, 0, 32, 0, 128, 1, 513, 1543, 3615, 8191, 16383] (.ld 0 (.tk 1 (.ld 2 (.tk 3 (.ld 4 (.tk 5 (.ld 6 (.tk 7 (.ld 8 (tks 9 5 (.big 14 .done))))))))))) Zw (by kernel_rfl) ?_
   refine ld rfl rfl (lh Z1R rfl rfl) rfl (tk rfl (PE.fA Z07 rfl) rfl (ld rfl rfl (lh sc3 rfl rfl) rfl (tk rfl (PE.fA ZT rfl) rfl (ld rfl rfl (lh sc3 rfl rfl) rfl (tk rfl (PE.fA Z0i rfl) rfl (ld rfl rfl (lh sc3 rfl rfl) rfl (tk rfl (PE.fA Z0w rfl) rfl (ld rfl rfl (lh sc3 rfl rfl) rfl (tk rfl (PE.nilCheck rfl) rfl (tk rfl (PE.fA Z02 rfl) rfl (tk rfl (PE.indexArr Z8O rfl rfl (by omega) (by omega)) rfl (tk rfl (PE.indexArr Z9k rfl rfl (by omega) (by omega)) rfl (tk rfl (PE.indexArr Z9h rfl rfl (by omega) (by omega)) rfl ?_)))))))))))))
   refine Z5V rfl rfl rfl cn3 rfl rfl rfl (Z4c x.lasts (i := x.st.ix) (by omega) (by unfold Sta.ix; omega)) (by rw [Z2D hyl]; show _ + 1 ≤ 510; omega) ?_
   refine bgT (sqr 2 rfl (sp rfl (PE.add rfl rfl (by omega)) rfl (pur 1 rfl ?_)))
   exact Z0z ⟨(k + 1, _, y.set x.st.ix x.lasts), by omega, by simpa using hyl, hst⟩ drp
   simp only [cS] at hc2
   obtain rfl : k = tb.length := by omega
   rw [List.drop_length] at hsc
   have hsc2 : Zn t tb false (Z4q t) = .ok (tw, y) := hsc
   have hok := Z2C tb _ _ _ hsc2
   refine Zm (Zt (Zt (ZU (Z0 (sqt 1 rfl (pur 1 rfl ?_))))))
   refine Z4 rfl ?_ ?_ <;> intro hc6
   subst hc6
   have hres : Zu t tb = (0, 5) := Z19 hck hlen hsc2
   refine sqt 2 rfl (pur 2 rfl (Z3 ?_))
   first
     | exact Zb [] (vs := [_, _]) (v := .tuple #[.int .i64 (Zu t tb).1, .int .i64 (Zu t tb).2]) idH rfl (.cons (RV.tmp rfl) (.cons (RV.tmp rfl) .nil)) (by rw [hres]; rfl) ⟨rfl, rfl, rfl⟩ drp
     | exact Zb [bd0] (vs := [_, _]) (v := .tuple #[.int .i64 (Zu t tb).1, .int .i64 (Zu t tb).2]) (fun _ h => h.pull bd0) rfl (.cons (RV.tmp rfl) (.cons (RV.tmp rfl) .nil)) (by rw [hres]; rfl) ⟨rfl, rfl, rfl⟩ drp
   subst hc6
   refine Z2 (sqt 1 rfl (pur 1 rfl (Z0 (Z7l (Z0 (sqt 3 rfl (pur 1 rfl (sp rfl (PE.lenSl Z1h rfl) rfl (pur 1 rfl (Z7 ?_))))))))))
   refine Zy (ι := {k : Nat // k ≤ tb.length ∧ ∀ i x, i < k → tb[i]? = some x → ZX t y x = true}) (fun k => ⟨[(2, .pointer (some ⟨b2, 0, none⟩)), (6, .pointer (some ⟨b6, 0, none⟩)), (13, .bool true), (102, .slice a tb.length c), (103, .int .i64 tb.length), (104, .int .i64 k.1)], (bd0, .deferred (some [])) :: (b6, cel 81 [.pointer (some ⟨bw, 0, none⟩)]) :: (bw, cel 92 (rcs t (t.sl (some ⟨ba, oa, none⟩) ca) bt (y) (.slice none 0 0) m)) :: (m, Z0o true []) :: (b2, cel 27 (twl t (t.sl (some ⟨ba, oa, none⟩) ca))) :: H, RowsA (some ⟨b31, 0, none⟩) 11 [twl t (t.sl (some ⟨ba, oa, none⟩) ca)] :: RowsA (some ⟨bt, 0, none⟩) 11 [twl t (t.sl (some ⟨ba, oa, none⟩) ca)] :: R⟩) (fun k => tb.length - k.1) ⟨0, by omega, by omega⟩ ?_ (fun k => ?_)
   exact Z05 idH
   obtain ⟨k, hk, hkp⟩ := k
   dsimp only at hk hkp ⊢
   refine sqt 1 rfl (pur 1 rfl (Z0 ?_))
   refine Z4 rfl ?_ ?_ <;> intro hc7
   simp only [cS] at hc7
   obtain ⟨x, hx⟩ : ∃ x, tb[k]? = some x := ⟨_, List.getElem?_eq_getElem (by omega)⟩
   obtain ⟨hr, hib, q, hrq, hcan⟩ := hok x (List.mem_of_getElem? hx)
   obtain ⟨hr0, hq⟩ := rat_iff.1 hrq
   have htk : ZX t y x = t.keeps y x.st q x.lasts := by unfold ZX; rw [hrq]
   refine Z00 (a := a) (sz := 5) (rows := Zg tb) (by intro h0; simp [Zg] at h0; simp [h0] at hx) (fun bx ox he => ?_)
   subst he
   refine Z2 (Z0 (Z7 (sqt 4 rfl (sp rfl (PE.indexAddr Z9l rfl rfl (by omega) (by omega)) rfl (spL rfl rfl (lfA Zab (row := Z5T x) (by simp [Zg, hx]) rfl) rfl (alc rfl Z8Y rfl (fun b15 => ?_)))))))
   refine sto rfl rfl rfl Zad rfl rfl rfl rfl ?_
   refine sqt 9 rfl (spL rfl rfl (lh Z1R rfl rfl) rfl (sp rfl (PE.fA Z1U rfl) rfl (spL rfl rfl (lhA [_, _, _] ZG rfl rfl rfl) rfl (sp rfl (PE.fA Z39 rfl) rfl (spL rfl rfl (lh sc3 rfl rfl) rfl (sp rfl (PE.fA Z0w rfl) rfl (spL rfl rfl (lh sc3 rfl rfl) rfl ?_)))))))
   refine clV rfl Z7S rfl rfl (Z3k t ht x.st hr x.ration q hr0 hq x.lasts hib ba oa ca bt bw m y (.slice none 0 0) hyl _ _) ?_
   refine pur 1 rfl (sqt 2 rfl (pur 2 rfl ?_))
   refine Z4 rfl ?_ ?_ <;> intro hc8
   have hkf : ZX t y x = false := by rw [htk, ← Bool.not_eq_true']; exact hc8
   have hall : tb.all (ZX t y) = false := by rw [List.all_eq_false]; exact ⟨x, List.mem_of_getElem? hx, by simp [hkf]⟩
   have hres : Zu t tb = (0, 8) := by rw [Z19 hck hlen hsc2]; unfold Z1l; rw [hall]; rfl
   refine Zm (Z8g (by decide) (Zt (Zt (ZU (Z0 ?_)))))
   refine Z9 [0, 1, 3, 0, 8, 31, 63] (.ld 0 (tks 1 3 (.ld 4 (.big 5 (.tk 6 .done))))) Zw (by kernel_rfl) ?_
   refine ld rfl rfl (lh Z1R rfl rfl) rfl (tk rfl (PE.nilCheck rfl) rfl (tk rfl (PE.fA Z02 rfl) rfl (tk rfl (PE.fA Z0d rfl) rfl (ld rfl rfl (lhA [_, _, _] ZG rfl rfl rfl) rfl ?_))))
   refine clV rfl Z2g rfl rfl (Z5U t ht t.now ht.now ba oa ca bt bw m y (.slice none 0 0) hyl _ _) ?_
   refine bgT (Zi 1 rfl (Z7 (sqt 3 rfl (pur 3 rfl ?_))))
   refine Zp (congrArg (fun b => some (Value.bool b)) hc8) ?_
   refine sqt 2 rfl (pur 2 rfl (Z3 ?_))
   first
     | exact Zb [] (vs := [_, _]) (v := .tuple #[.int .i64 (Zu t tb).1, .int .i64 (Zu t tb).2]) idH rfl (.cons (RV.tmp rfl) (.cons (RV.tmp rfl) .nil)) (by rw [hres]; rfl) ⟨rfl, rfl, rfl⟩ drp
     | exact Zb [bd0] (vs := [_, _]) (v := .tuple #[.int .i64 (Zu t tb).1, .int .i64 (Zu t tb).2]) (fun _ h => h.pull bd0) rfl (.cons (RV.tmp rfl) (.cons (RV.tmp rfl) .nil)) (by rw [hres]; rfl) ⟨rfl, rfl, rfl⟩ drp
   have hkt : ZX t y x = true := by rw [htk, ← Bool.not_eq_false']; exact hc8
   refine Z2 (sqr 2 rfl (sp rfl (PE.add rfl rfl (by omega)) rfl (pur 1 rfl ?_)))
   exact Zc ⟨k + 1, by omega, fun i z hi hz => by
     rcases Nat.lt_or_ge i k with h1 | h1
     · exact hkp i z h1 hz
     · obtain rfl : i = k := by omega
       rw [hx] at hz; cases hz; exact hkt⟩ (by dsimp only; omega) (by rw [← htk, hkt]; exact (by repeat' first | exact Sub.nil | apply Sub.cons | rfl | (simp [lk]; omega))) drp
   simp only [cS] at hc7
   obtain rfl : k = tb.length := by omega
   have hall : tb.all (ZX t y) = true := List.all_eq_true.2 fun x hx => by
     obtain ⟨i, hi⟩ := List.getElem?_of_mem hx
     exact hkp i x (List.getElem?_eq_some_iff.1 hi).1 hi
   have hfe : Z1l t tb false y = bif decide (lat y t.now = -1) then (0, 6) else (lat y t.now, 0) := by unfold Z1l; rw [hall]; rfl
   refine Zm (Zt (Zt (ZU (Z0 ?_))))
   refine Z9 [0, 1, 3, 0, 8, 31, 63] (.ld 0 (tks 1 3 (.ld 4 (.big 5 (.tk 6 .done))))) Zw (by kernel_rfl) ?_
   refine ld rfl rfl (lh Z1R rfl rfl) rfl (tk rfl (PE.nilCheck rfl) rfl (tk rfl (PE.fA Z02 rfl) rfl (tk rfl (PE.fA Z0d rfl) rfl (ld rfl rfl (lhA [_, _, _] ZG rfl rfl rfl) rfl ?_))))
   refine clV rfl Z2g rfl rfl (Z5U t ht t.now ht.now ba oa ca bt bw m y (.slice none 0 0) hyl _ _) ?_
   refine bgT (Zi 1 rfl (Z7 (sqt 3 rfl (pur 3 rfl ?_))))
   refine Zo (rfl) ?_
   refine sqt 3 rfl (pur 3 rfl ?_)
   refine Z4 rfl ?_ ?_ <;> intro hc10
   have hres : Zu t tb = (0, 6) := by rw [Z19 hck hlen hsc2, hfe, hc10]; rfl
   refine sqt 2 rfl (pur 2 rfl (Z3 ?_))
   first
     | exact Zb [] (vs := [_, _]) (v := .tuple #[.int .i64 (Zu t tb).1, .int .i64 (Zu t tb).2]) idH rfl (.cons (RV.tmp rfl) (.cons (RV.tmp rfl) .nil)) (by rw [hres]; rfl) ⟨rfl, rfl, rfl⟩ drp
     | exact Zb [bd0] (vs := [_, _]) (v := .tuple #[.int .i64 (Zu t tb).1, .int .i64 (Zu t tb).2]) (fun _ h => h.pull bd0) rfl (.cons (RV.tmp rfl) (.cons (RV.tmp rfl) .nil)) (by rw [hres]; rfl) ⟨rfl, rfl, rfl⟩ drp
   have hres : Zu t tb = (lat y t.now, 0) := by rw [Z19 hck hlen hsc2, hfe, hc10]; rfl
   refine sqt 3 rfl (pur 3 rfl (Z3 ?_))
   first
     | exact Zb [] (vs := [_, _]) (v := .tuple #[.int .i64 (Zu t tb).1, .int .i64 (Zu t tb).2]) idH rfl (.cons (RV.tmp rfl) (.cons (RV.tmp rfl) .nil)) (by rw [hres]; rfl) ⟨rfl, rfl, rfl⟩ drp
     | exact Zb [bd0] (vs := [_, _]) (v := .tuple #[.int .i64 (Zu t tb).1, .int .i64 (Zu t tb).2]) (fun _ h => h.pull bd0) rfl (.cons (RV.tmp rfl) (.cons (RV.tmp rfl) .nil)) (by rw [hres]; rfl) ⟨rfl, rfl, rfl⟩ drp
end Go.Proofs.Ythhdgeibokecjaa.Bd
namespace Go.Proofs.Ythhdgeibokecjaa.Bd
set_option linter.unusedSimpArgs false
set_option linter.unusedVariables false
def Clo (t : Twn) (n : Nat) (B X : Sta → Prop) : Prop :=
  ∀ u, X u → u.right t = true ∧ ∃ q ∈ t.rats, t.can u q = true ∧ X (t.next u q false) ∧ (n = 0 ∨ ¬ u.dry < t.run ∨ B (t.next u q true))
def Srv (t : Twn) : Nat → Sta → Prop
  | 0 => fun s => ∃ X, Clo t 0 (fun _ => True) X ∧ X s
  | n + 1 => fun s => ∃ X, Clo t (n + 1) (Srv t n) X ∧ X s
def Bf (t : Twn) : Nat → Sta → Prop
  | 0 => fun _ => True
  | n + 1 => Srv t n
theorem srv_iff {t : Twn} {n : Nat} {s : Sta} : Srv t n s ↔ ∃ X, Clo t n (Bf t n) X ∧ X s := by cases n <;> rfl
theorem Z0A {t : Twn} {n : Nat} {X : Sta → Prop} (h : Clo t n (Bf t n) X) {s : Sta} (hs : X s) : Srv t n s := srv_iff.2 ⟨X, h, hs⟩
theorem Z1n (t : Twn) (n : Nat) : Clo t n (Bf t n) (Srv t n) := fun u hu => by
  obtain ⟨X, hX, hu⟩ := srv_iff.1 hu
  obtain ⟨h1, q, hq, hc, hg, hb⟩ := hX u hu
  exact ⟨h1, q, hq, hc, Z0A hX hg, hb⟩
theorem Z0J {t : Twn} {n : Nat} {s : Sta} (h : Srv t n s) : s.right t = true := (Z1n t n s h).1
theorem Z5s {t : Twn} : ∀ {n : Nat} {s : Sta}, Srv t (n + 1) s → Srv t n s
  | 0, s, h => Z0A (X := Srv t 1) (fun u hu => by
      obtain ⟨h1, q, hq, hc, hg, _⟩ := Z1n t 1 u hu
      exact ⟨h1, q, hq, hc, hg, .inl rfl⟩) h
  | n + 1, s, h => Z0A (X := Srv t (n + 2)) (fun u hu => by
      obtain ⟨h1, q, hq, hc, hg, hb⟩ := Z1n t (n + 2) u hu
      refine ⟨h1, q, hq, hc, hg, ?_⟩
      rcases hb with hb | hb | hb
      · omega
      · exact .inr (.inl hb)
      · exact .inr (.inr (Z5s (n := n) hb))) h
theorem Z4b {t : Twn} {s : Sta} {m : Nat} : ∀ {n : Nat}, m ≤ n → Srv t n s → Srv t m s
  | 0, h, hs => by obtain rfl : m = 0 := by omega
                   exact hs
  | n + 1, h, hs => by
    rcases Nat.lt_or_ge m (n + 1) with h1 | h1
    · exact Z4b (n := n) (by omega) (Z5s hs)
    · obtain rfl : m = n + 1 := by omega
      exact hs
def Pn (t : Twn) (n : Nat) (s : Sta) (v : Int) : Prop := (v = 1000000 ∧ ∀ j < n, Srv t j s) ∨ ∃ k : Nat, k < n ∧ v = k - 1 ∧ ¬ Srv t k s ∧ ∀ j < k, Srv t j s
def Mid (t : Twn) (n : Nat) (s : Sta) (v : Int) : Prop := (v = 1000000 ∧ ∀ j < n, Srv t j s) ∨ ∃ k : Nat, k < n + 1 ∧ v = k - 1 ∧ ¬ Srv t k s ∧ ∀ j < k, Srv t j s
theorem Z7Q {t : Twn} (ht : t.ok) {n : Nat} (hn : n ≤ 496) {y : List Int} (hm : ∀ s ∈ sts t, Mid t n s (lat y s)) {s : Sta} (hs : Srv t n s) : (t.rats.any fun q => t.keeps y s q n) = true := by
  obtain ⟨h1, q, hq, hc, hg, hb⟩ := Z1n t n s hs
  refine List.any_eq_true.2 ⟨q, hq, ?_⟩
  unfold Twn.keeps
  have hg1 : (n : Int) ≤ lat y (t.next s q false) := by
    rcases hm _ (Zz (Z0J hg)) with ⟨h, _⟩ | ⟨k, hk, h, hno, _⟩
    · omega
    · exact absurd (Z4b (by omega) hg) hno
  have hne : ¬ (n : Int) = 1000000 := by omega
  simp only [hc, hg1, decide_true, Bool.true_and, hne, decide_false, cond_false]
  rcases hb with hb | hb | hb
  · simp [hb]
  · simp [hb]
  · cases n with
    | zero => simp
    | succ m =>
      have hb' : Srv t m (t.next s q true) := hb
      have : ((m + 1 : Nat) : Int) - 1 ≤ lat y (t.next s q true) := by
        rcases hm _ (Zz (Z0J hb')) with ⟨h, _⟩ | ⟨k, hk, h, hno, _⟩
        · omega
        · rcases Nat.lt_or_ge m k with h2 | h2
          · omega
          · exact absurd (Z4b h2 hb') hno
      have h9 : (m : Int) ≤ lat y (t.next s q true) := by omega
      simp [h9]
theorem Z7K {t : Twn} (ht : t.ok) {n : Nat} (hn : n ≤ 496) {σ : Sv} (hy : σ.y.length = 496) (hm : ∀ s ∈ sts t, Mid t n s (lat σ.y s)) {u : Sta} (hu : u ∈ sts t) : ∀ s ∈ sts t, Mid t n s (lat (σ.step t n u).y s) := by
  intro s hs
  unfold Sv.step
  cases hc : Z1W σ.y u && !(t.rats.any fun q => t.keeps σ.y u q n) with
  | false => exact hm s hs
  | true =>
    simp only [Bool.and_eq_true, Bool.not_eq_true'] at hc
    simp only [cond_true]
    by_cases he : u.ix = s.ix
    · have := Z13 ht (Zh ht hu) (Zh ht hs) he
      subst this
      rw [ZE (by rw [hy]; exact Z1w ht (Zh ht hs))]
      refine .inr ⟨n, by omega, rfl, fun h => ?_, ?_⟩
      · rw [Z7Q ht hn hm h] at hc; cases hc.2
      · have h1 : lat σ.y u = 1000000 := by simpa [Z1W] using hc.1
        rcases hm u hs with ⟨_, h⟩ | ⟨k, hk, h, _⟩
        · exact h
        · omega
    · rw [ZH he]; exact hm s hs
theorem Z5a {t : Twn} (ht : t.ok) {n : Nat} (hn : n ≤ 496) : ∀ (l : List Sta) (σ : Sv), σ.y.length = 496 → (∀ s ∈ l, s ∈ sts t) → (∀ s ∈ sts t, Mid t n s (lat σ.y s)) → ∀ s ∈ sts t, Mid t n s (lat (l.foldl (Sv.step t n) σ).y s)
  | [], _, _, _, h => h
  | u :: l, σ, hy, hl, h => Z5a ht hn l _ (by rw [Z1O]; exact hy) (fun s hs => hl s (by simp [hs])) (Z7K ht hn hy h (hl u (by simp)))
theorem Z2Z {t : Twn} (ht : t.ok) {n : Nat} (hn : n ≤ 496) : ∀ (j : Nat) (σ : Sv), σ.y.length = 496 → (∀ s ∈ sts t, Mid t n s (lat σ.y s)) → ∀ s ∈ sts t, Mid t n s (lat (passes t n j σ).y s)
  | 0, _, _, h => h
  | j + 1, σ, hy, h => Z5a ht hn (sts t) _ (by rw [Z06]; exact hy) (fun _ h => h) (Z2Z ht hn j σ hy h)
theorem Z5m {t : Twn} (ht : t.ok) {n : Int} (hn : n ≤ 1000000) : ∀ (l : List Sta) (σ : Sv), σ.y.length = 496 → (∀ s ∈ l, s ∈ sts t) → l.foldl (Sv.step t n) σ = σ → ∀ s ∈ l, σ.step t n s = σ
  | [], _, _, _, _, _, h => by cases h
  | u :: l, σ, hy, hl, h, s, hs => by
    rw [List.foldl_cons] at h
    have hu : σ.step t n u = σ := by
      rcases Z5h ht hn hy (hl u (by simp)) with h1 | ⟨h1, _⟩
      · exact h1
      · obtain ⟨h2, _⟩ := Z2k ht hn l (σ.step t n u) (by rw [Z1O]; exact hy) (fun s hs => hl s (by simp [hs]))
        rw [h] at h2
        rcases h2 with h2 | h2
        · rw [← h2] at h1; omega
        · omega
    rw [hu] at h
    rcases List.mem_cons.1 hs with rfl | hs
    · exact hu
    · exact Z5m ht hn l σ hy (fun s hs => hl s (by simp [hs])) h s hs
theorem Z63 {t : Twn} (ht : t.ok) {n : Int} (hn : n ≤ 1000000) {σ : Sv} (hy : σ.y.length = 496) (h : pass t n σ = σ) {s : Sta} (hs : s ∈ sts t) (he : lat σ.y s = 1000000) : ∃ q ∈ t.rats, t.keeps σ.y s q n = true := by
  have h1 := Z5m ht hn (sts t) σ hy (fun _ h => h) h s hs
  cases hc : t.rats.any fun q => t.keeps σ.y s q n with
  | true => exact List.any_eq_true.1 hc
  | false =>
    exfalso
    unfold Sv.step at h1
    have he' : Z1W σ.y s = true := by simp [Z1W, he]
    rw [he', hc] at h1
    have h2 := congrArg (fun σ => σ.fl.length) h1
    simp at h2
theorem Z5Z {t : Twn} (ht : t.ok) {n : Nat} (hn : n ≤ 496) {σ : Sv} (hy : σ.y.length = 496) (hm : ∀ s ∈ sts t, Mid t n s (lat σ.y s)) (hf : pass t n σ = σ) : ∀ s ∈ sts t, Pn t (n + 1) s (lat σ.y s) := by
  intro s hs
  rcases hm s hs with ⟨h1, h2⟩ | h
  · refine .inl ⟨h1, fun j hj => ?_⟩
    rcases Nat.lt_or_ge j n with h3 | h3
    · exact h2 j h3
    obtain rfl : j = n := by omega
    refine Z0A (X := fun s => s ∈ sts t ∧ lat σ.y s = 1000000) (fun u ⟨hu, hue⟩ => ?_) ⟨hs, h1⟩
    obtain ⟨q, hq, hk⟩ := Z63 ht (by omega) hy hf hu hue
    have hur := Zh ht hu
    unfold Twn.keeps at hk
    simp only [Bool.and_eq_true, Bool.or_eq_true, decide_eq_true_eq, Bool.not_eq_true', decide_eq_false_iff_not] at hk
    obtain ⟨⟨hc, hg⟩, hb⟩ := hk
    have hgr := Zz (Zs (bad := false) ht hur hq hc (by simp))
    refine ⟨hur, q, hq, hc, ⟨hgr, ?_⟩, ?_⟩
    · rcases hm _ hgr with ⟨h, _⟩ | ⟨k, hk, h, _⟩
      · exact h
      · omega
    · by_cases hd : u.dry < t.run
      · cases j with
        | zero => exact .inl rfl
        | succ m =>
          right; right
          show Srv t m _
          have hbr := Zz (Zs (bad := true) ht hur hq hc (fun _ => hd))
          have hb2 : (m : Int) ≤ lat σ.y (t.next u q true) := by
            rcases hb with (hb | hb) | hb
            · omega
            · exact absurd hd hb
            · rw [show decide (((m + 1 : Nat) : Int) = 1000000) = false from by simp; omega, cond_false] at hb
              omega
          rcases hm _ hbr with ⟨_, h⟩ | ⟨k, hk, h, _, h2⟩
          · exact h m (by omega)
          · exact h2 m (by omega)
      · exact .inr (.inl hd)
  · exact .inr h
theorem Z8D {t : Twn} (ht : t.ok) {n : Nat} {σ : Sv} (h : Rd t n σ) : ∀ s ∈ sts t, Pn t n s (lat σ.y s) := by
  induction h with
  | zero => exact fun s hs => .inl ⟨Z22 ht hs, fun j hj => by omega⟩
  | next j h h1 h2 ih =>
    rename_i m σ
    obtain ⟨hy, hc, _⟩ := Z2P ht h
    refine Z5Z ht (by omega) (by rw [Z06]; exact hy) (Z2Z ht (by omega) j σ hy (fun s hs => ?_)) h1
    rcases ih s hs with h | ⟨k, hk, h⟩
    · exact .inl h
    · exact .inr ⟨k, by omega, h⟩
def LS (t : Twn) (s : Sta) (v : Int) : Prop := (v = 1000000 ∧ ∀ n, Srv t n s) ∨ ∃ k : Nat, k ≤ 496 ∧ v = k - 1 ∧ ¬ Srv t k s ∧ ∀ j < k, Srv t j s
theorem LS.uniq {t : Twn} {s : Sta} {v v' : Int} (h : LS t s v) (h' : LS t s v') : v = v' := by
  rcases h with ⟨rfl, h⟩ | ⟨k, _, rfl, hn, hl⟩ <;> rcases h' with ⟨rfl, h'⟩ | ⟨k', _, rfl, hn', hl'⟩
  · rfl
  · exact absurd (h k') hn'
  · exact absurd (h' k) hn
  · rcases Nat.lt_trichotomy k k' with h | h | h
    · exact absurd (hl' k h) hn
    · rw [h]
    · exact absurd (hl k' h) hn'
theorem Z4m {t : Twn} (ht : t.ok) {σ : Sv} (h : Z3a t σ) {s : Sta} (hs : s.right t = true) : LS t s (lat σ.y s) := by
  obtain ⟨n, hr, hf⟩ := h
  obtain ⟨hy, hc, _⟩ := Z2P ht hr
  have hp := Z8D ht hr
  have hp1 := Z5Z ht (n := n) (by omega) hy (fun s hs => by
    rcases hp s hs with h | ⟨k, hk, h⟩
    · exact .inl h
    · exact .inr ⟨k, by omega, h⟩) hf
  have hX : ∀ m, ∀ u, (u ∈ sts t ∧ lat σ.y u = 1000000) → Srv t m u := by
    have hclo : ∀ m, (∀ u, (u ∈ sts t ∧ lat σ.y u = 1000000) → Bf t m u) → Clo t m (Bf t m) (fun u => u ∈ sts t ∧ lat σ.y u = 1000000) := by
      intro m hB u ⟨hu, hue⟩
      obtain ⟨q, hq, hk⟩ := Z63 ht (by omega) hy hf hu hue
      have hur := Zh ht hu
      unfold Twn.keeps at hk
      simp only [Bool.and_eq_true, Bool.or_eq_true, decide_eq_true_eq, Bool.not_eq_true', decide_eq_false_iff_not] at hk
      obtain ⟨⟨hc', hg⟩, hb⟩ := hk
      have hgr := Zz (Zs (bad := false) ht hur hq hc' (by simp))
      refine ⟨hur, q, hq, hc', ⟨hgr, ?_⟩, ?_⟩
      · rcases hp _ hgr with ⟨h, _⟩ | ⟨k, hk, h, _⟩
        · exact h
        · omega
      · by_cases hd : u.dry < t.run
        · right; right
          have hbr := Zz (Zs (bad := true) ht hur hq hc' (fun _ => hd))
          refine hB _ ⟨hbr, ?_⟩
          rcases hp _ hbr with ⟨h, _⟩ | ⟨k, hk, h, _⟩
          · exact h
          · exfalso
            rcases hb with (hb | hb) | hb
            · omega
            · exact hb hd
            · rw [show decide ((n : Int) = 1000000) = false from by simp; omega, cond_false] at hb
              omega
        · exact .inr (.inl hd)
    intro m
    induction m with
    | zero => exact fun u hu => Z0A (hclo 0 (fun _ _ => trivial)) hu
    | succ m ih => exact fun u hu => Z0A (hclo (m + 1) (fun u hu => ih u hu)) hu
  rcases hp s (Zz hs) with ⟨h, _⟩ | ⟨k, hk, h⟩
  · exact .inl ⟨h, fun m => hX m s ⟨Zz hs, h⟩⟩
  · exact .inr ⟨k, by omega, h⟩
def LSA (t : Twn) (y : List Int) : Prop := ∀ s, s.right t = true → LS t s (lat y s)
theorem Z7H {t : Twn} {y : List Int} (hl : LSA t y) {s : Sta} (hs : s.right t = true) {n : Nat} (hn : n ≤ 1000000) : (n : Int) ≤ lat y s ↔ Srv t n s := by
  rcases hl s hs with ⟨h, h2⟩ | ⟨k, hk, h, hno, h2⟩
  · exact ⟨fun _ => h2 n, fun _ => by omega⟩
  · constructor
    · intro h3; exact h2 n (by omega)
    · intro h3
      rcases Nat.lt_or_ge n k with h4 | h4
      · omega
      · exact absurd (Z4b h4 h3) hno
theorem Z2j {t : Twn} {y : List Int} (hl : LSA t y) {s : Sta} (hs : s.right t = true) : lat y s = 1000000 ∨ (-1 ≤ lat y s ∧ lat y s ≤ 495) := by
  rcases hl s hs with ⟨h, h2⟩ | ⟨k, hk, h, hno, h2⟩
  · exact .inl h
  · exact .inr (by omega)
theorem Z6r {t : Twn} {y : List Int} (hl : LSA t y) {s : Sta} (hs : s.right t = true) {n : Nat} (hn : 496 ≤ n) (h : Srv t n s) : lat y s = 1000000 := by
  rcases hl s hs with ⟨h1, _⟩ | ⟨k, hk, _, hno, _⟩
  · exact h1
  · exact absurd (Z4b (by omega) h) hno
theorem Z7k {t : Twn} {y : List Int} (hl : LSA t y) {s : Sta} (hs : s.right t = true) (h0 : lat y s ≠ -1) : ∃ q ∈ t.rats, t.keeps y s q (lat y s) = true := by
  rcases hl s hs with ⟨h, h2⟩ | ⟨k, hk, h, hno, h2⟩
  · obtain ⟨_, q, hq, hc, hg, hb⟩ := Z1n t 497 s (h2 497)
    refine ⟨q, hq, ?_⟩
    have e1 := Z6r hl (Z0J hg) (by omega) hg
    unfold Twn.keeps
    rw [h, hc, e1]
    rcases hb with hb | hb | hb
    · omega
    · simp [hb]
    · have e2 := Z6r hl (Z0J hb) (n := 496) (by omega) hb
      rw [e2]; simp
  · obtain ⟨m, rfl⟩ : ∃ m, k = m + 1 := ⟨k - 1, by omega⟩
    obtain ⟨_, q, hq, hc, hg, hb⟩ := Z1n t m s (h2 m (by omega))
    refine ⟨q, hq, ?_⟩
    have e1 := (Z7H hl (Z0J hg) (n := m) (by omega)).2 hg
    unfold Twn.keeps
    rw [h, hc, show ((m + 1 : Nat) : Int) - 1 = m from by omega]
    have hne : ¬ (m : Int) = 1000000 := by omega
    simp only [e1, decide_true, Bool.true_and, hne, decide_false, cond_false]
    rcases hb with hb | hb | hb
    · simp [hb]
    · simp [hb]
    · cases m with
      | zero => simp
      | succ m =>
        have hb' : Srv t m (t.next s q true) := hb
        have e2 := (Z7H hl (Z0J hb') (n := m) (by omega)).2 hb'
        simp [e2]
theorem Z5X {t : Twn} {i j : Nat} (h : Z4n t i = Z4n t j) : i = j := by
  unfold Z4n at h
  simp only [Sta.mk.injEq, Int.natCast_inj] at h
  obtain ⟨h1, h2, h3⟩ := h
  have e1 : i / (t.run.toNat + 1) = j / (t.run.toNat + 1) := by
    rw [← Nat.div_add_mod (i / (t.run.toNat + 1)) (t.patience.toNat + 1), ← Nat.div_add_mod (j / (t.run.toNat + 1)) (t.patience.toNat + 1), h1, h2]
  rw [← Nat.div_add_mod i (t.run.toNat + 1), ← Nat.div_add_mod j (t.run.toNat + 1), e1, h3]
theorem Z41 (t : Twn) : (sts t).Nodup := by
  unfold sts List.Nodup
  rw [List.pairwise_map]
  exact List.Pairwise.imp (fun h e => h (Z5X e)) List.nodup_range
def Z9g (t : Twn) (y y' : List Int) : Prop := ∀ s, s.right t = true → lat y s = lat y' s
theorem Z1q {t : Twn} (ht : t.ok) {y y' : List Int} (h : Z9g t y y') {s : Sta} (hs : s.right t = true) {q : Rn} (hq : q ∈ t.rats) (n : Int) : t.keeps y s q n = t.keeps y' s q n := by
  unfold Twn.keeps
  cases hc : t.can s q with
  | false => rfl
  | true =>
    rw [h _ (Zs (bad := false) ht hs hq hc (by simp))]
    by_cases hd : s.dry < t.run
    · rw [h _ (Zs (bad := true) ht hs hq hc (fun _ => hd))]
    · simp [hd]
theorem Z0L {t : Twn} {y : List Int} {s : Sta} {x : Rw} (h : ZS t y s = some x) : x.st = s ∧ x.lasts = lat y s ∧ lat y s ≠ -1 ∧ ∃ q, t.rat x.ration = some q ∧ q ∈ t.rats ∧ t.keeps y s q (lat y s) = true := by
  unfold ZS at h
  cases hc : decide (lat y s = -1) with
  | true => rw [hc] at h; cases h
  | false =>
    rw [hc, cond_false] at h
    obtain ⟨k, hk, rfl⟩ := Option.map_eq_some_iff.1 h
    obtain ⟨hlt, hp, _⟩ := List.findIdx?_eq_some_iff_getElem.1 hk
    refine ⟨rfl, rfl, by simpa using hc, t.rats[k], Z5g (Int.natCast_nonneg k) (by simp [hlt]), List.getElem_mem hlt, hp⟩
theorem Z6K {t : Twn} {y : List Int} (hl : LSA t y) {s : Sta} (hs : s.right t = true) (h : ZS t y s = none) : lat y s = -1 := by
  by_cases h0 : lat y s = -1
  · exact h0
  · exfalso
    obtain ⟨q, hq, hk⟩ := Z7k hl hs h0
    unfold ZS at h
    simp only [h0, decide_false, cond_false, Option.map_eq_none_iff] at h
    have := List.findIdx?_eq_none_iff.1 h q hq
    rw [hk] at this; cases this
theorem Z3z {t : Twn} (ht : t.ok) {y : List Int} (hl : LSA t y) : ∀ (l : List Sta) (y' : List Int), l.Nodup → (∀ s ∈ l, s.right t = true) → y'.length = 496 → (∀ s ∈ l, lat y' s = -1) →
    ∃ y'', Zn t (l.filterMap (ZS t y)) false y' = .ok (false, y'') ∧ y''.length = 496 ∧ (∀ s, s.right t = true → s ∉ l → lat y'' s = lat y' s) ∧ ∀ s ∈ l, lat y'' s = lat y s
  | [], y', _, _, hy, _ => ⟨y', rfl, hy, fun _ _ _ => rfl, fun _ h => by cases h⟩
  | s :: l, y', hd, hr, hy, hm => by
    rw [List.nodup_cons] at hd
    have hsr := hr s (by simp)
    cases hrow : ZS t y s with
    | none =>
      rw [List.filterMap_cons_none hrow]
      obtain ⟨y'', h1, h2, h3, h4⟩ := Z3z ht hl l y' hd.2 (fun s h => hr s (by simp [h])) hy (fun s h => hm s (by simp [h]))
      refine ⟨y'', h1, h2, fun u hu hn => h3 u hu (fun h => hn (by simp [h])), fun u hu => ?_⟩
      rcases List.mem_cons.1 hu with rfl | hu
      · rw [h3 u hsr hd.1, hm u (by simp), Z6K hl hsr hrow]
      · exact h4 u hu
    | some x =>
      obtain ⟨e1, e2, e3, q, hq, hqm, hk⟩ := Z0L hrow
      rw [List.filterMap_cons_some hrow]
      have hcan : t.can s q = true := by unfold Twn.keeps at hk; simp only [Bool.and_eq_true] at hk; exact hk.1.1
      have hrg := Z2j hl hsr
      have hib : inb x.lasts 0 1000000 = true := by rw [e2]; simp only [inb, Bool.and_eq_true, decide_eq_true_eq]; omega
      have hix := Z1w ht hsr
      obtain ⟨y'', h1, h2, h3, h4⟩ := Z3z ht hl l (y'.set s.ix (lat y s)) hd.2 (fun s h => hr s (by simp [h])) (by simpa using hy) (fun u h => by
        rw [ZH (fun e => by have := Z13 ht hsr (hr u (by simp [h])) e; subst this; exact hd.1 h)]
        exact hm u (by simp [h]))
      refine ⟨y'', ?_, h2, fun u hu hn => ?_, fun u hu => ?_⟩
      · unfold Zn
        rw [e1, hsr, hib, hq]
        simp only [Bool.not_true, Bool.or_self, cond_false, hcan, e2, hm s (by simp), ne_eq, not_true_eq_false, decide_false]
        exact h1
      · rw [h3 u hu (fun h => hn (by simp [h])), ZH (fun e => by have := Z13 ht hsr hu e; subst this; exact hn (by simp))]
      · rcases List.mem_cons.1 hu with rfl | hu
        · rw [h3 u hsr hd.1, ZE (by rw [hy]; exact hix)]
        · exact h4 u hu
theorem Z6q {t : Twn} (ht : t.ok) (v : Int) : ∀ (l : List Sta) (y : List Int), y.length = 496 → (∀ s ∈ l, s ∈ sts t) → ∀ s ∈ sts t, (s ∈ l ∨ lat y s = v) → lat (l.foldl (fun y s => y.set s.ix v) y) s = v
  | [], _, _, _, _, _, h => by rcases h with h | h; cases h; exact h
  | u :: l, y, hy, hl, s, hs, h => by
    rw [List.foldl_cons]
    refine Z6q ht v l _ (by simpa using hy) (fun s hs => hl s (by simp [hs])) s hs ?_
    by_cases he : u.ix = s.ix
    · right
      have := Z13 ht (Zh ht (hl u (by simp))) (Zh ht hs) he
      subst this
      exact ZE (by rw [hy]; exact Z1w ht (Zh ht hs))
    · rcases h with h | h
      · rcases List.mem_cons.1 h with rfl | h
        · exact absurd rfl he
        · exact .inl h
      · right; rw [ZH he]; exact h
theorem Z3v {t : Twn} (ht : t.ok) {s : Sta} (hs : s ∈ sts t) : lat (Z4q t) s = -1 := Z6q ht (-1) (sts t) _ List.length_replicate (fun _ h => h) s hs (.inl hs)
theorem Z5d (t : Twn) : (Z4q t).length = 496 := by rw [Z4q, Z2p, List.length_replicate]
theorem Z3L {t : Twn} (h0 : t.check = 0) {y : List Int} (hl : LSA t y) (hn : lat y t.now ≠ -1) : Zu t (tab t y) = (lat y t.now, 0) := by
  have ht := (Zk h0).1
  obtain ⟨y'', h1, h2, _, h4⟩ := Z3z ht hl (sts t) (Z4q t) (Z41 t) (fun s hs => Zh ht hs) (Z5d t) (fun s hs => Z3v ht hs)
  have hlen : (tab t y).length ≤ 496 := Nat.le_trans (List.length_filterMap_le _ _) (by rw [Z0B]; exact Z3W ht)
  have hsame : Z9g t y y'' := fun s hs => (h4 s (Zz hs)).symm
  rw [Z19 h0 hlen h1]
  have hall : (tab t y).all (ZX t y'') = true := by
    refine List.all_eq_true.2 fun x hx => ?_
    obtain ⟨s, hs, hrow⟩ := List.mem_filterMap.1 hx
    obtain ⟨e1, e2, e3, q, hq, hqm, hk⟩ := Z0L hrow
    unfold ZX
    rw [hq]
    show t.keeps y'' x.st q x.lasts = true
    rw [e1, e2, ← Z1q ht hsame (Zh ht hs) hqm]
    exact hk
  unfold Z1l
  rw [hall, ← hsame t.now ht.now]
  simp [hn]
def Zd (l : List (Sta × Int)) (s : Sta) (m : Int) : Bool := l.any fun p => decide (p.1 = s) && decide (p.2 ≤ m)
def Z2I (t : Twn) (pre : List (Sta × Int)) (p : Sta × Int) : Bool :=
  t.rats.all fun q => !(t.can p.1 q) || (Zd pre (t.next p.1 q false) p.2 || (decide (p.1.dry < t.run) && Zd pre (t.next p.1 q true) (p.2 - 1)))
def Zq (t : Twn) : List (Sta × Int) → List (Sta × Int) → Bool
  | _, [] => true
  | pre, p :: l => Z2I t pre p && Zq t (pre ++ [p]) l
theorem Z5C {t : Twn} {pre : List (Sta × Int)} (hpre : ∀ p ∈ pre, 0 ≤ p.2 ∧ ∀ n : Nat, p.2 ≤ n → ¬ Srv t n p.1) {p : Sta × Int} (hp : Z2I t pre p = true) {n : Nat} (hn : p.2 ≤ n) : ¬ Srv t n p.1 := by
  intro h
  obtain ⟨_, q, hq, hc, hg, hb⟩ := Z1n t n _ h
  have h1 := List.all_eq_true.1 hp q hq
  simp only [hc, Bool.not_true, Bool.false_or, Bool.or_eq_true, Bool.and_eq_true, decide_eq_true_eq] at h1
  rcases h1 with h1 | ⟨hd, h1⟩
  · obtain ⟨e, he, hee⟩ := List.any_eq_true.1 h1
    simp only [Bool.and_eq_true, decide_eq_true_eq] at hee
    have := (hpre e he).2 n (by omega)
    rw [hee.1] at this
    exact this hg
  · obtain ⟨e, he, hee⟩ := List.any_eq_true.1 h1
    simp only [Bool.and_eq_true, decide_eq_true_eq] at hee
    have h2 := hpre e he
    cases n with
    | zero => have := h2.1; omega
    | succ m =>
      rcases hb with hb | hb | hb
      · omega
      · exact hb hd
      · have := h2.2 m (by omega)
        rw [hee.1] at this
        exact this hb
theorem Z1s {t : Twn} : ∀ (l pre : List (Sta × Int)), (∀ p ∈ pre, 0 ≤ p.2 ∧ ∀ n : Nat, p.2 ≤ n → ¬ Srv t n p.1) → (∀ p ∈ l, 0 ≤ p.2) → Zq t pre l = true → ∀ p ∈ l, ∀ n : Nat, p.2 ≤ n → ¬ Srv t n p.1
  | [], _, _, _, _, _, h => by cases h
  | a :: l, pre, hpre, h0, h, p, hp => by
    unfold Zq at h
    simp only [Bool.and_eq_true] at h
    have ha : ∀ n : Nat, a.2 ≤ n → ¬ Srv t n a.1 := fun n hn => Z5C hpre h.1 hn
    rcases List.mem_cons.1 hp with rfl | hp
    · exact ha
    · exact Z1s l (pre ++ [a]) (fun e he => by
        rcases List.mem_append.1 he with he | he
        · exact hpre e he
        · obtain rfl := List.mem_singleton.1 he
          exact ⟨h0 e (by simp), ha⟩) (fun e he => h0 e (by simp [he])) h.2 p hp
def mill : Twn := ⟨⟨8, 0, 0⟩, 12, 4, 1, 2, 6, 0, 0, [⟨4, 10⟩, ⟨2, 16⟩]⟩
def millYs : List Int := [-1, -1, -1, -1, -1, -1, -1, -1, -1, -1, -1, -1, 0, 0, 1, -1, -1, -1, 0, 0, 1, -1, -1, -1, 0, 0, 1, 0, 0, 1, 0, 0, 1, 0, 0, 1, 1, 2, 3, 1, 2, 3, 1, 2, 3, 1, 2, 3, 3, 4, 5, 1, 2, 3, 3, 4, 5, 1, 2, 3, 3, 4, 5, 3, 4, 5, 3, 4, 5, 3, 4, 5, 5, 5, 5, 5, 5, 5]
def millFl : List (Sta × Int) := [(⟨0, 0, 0⟩, 0), (⟨0, 0, 1⟩, 0), (⟨0, 0, 2⟩, 0), (⟨0, 1, 0⟩, 0), (⟨0, 1, 1⟩, 0), (⟨0, 1, 2⟩, 0), (⟨1, 0, 0⟩, 0), (⟨1, 0, 1⟩, 0), (⟨1, 0, 2⟩, 0), (⟨1, 1, 0⟩, 0), (⟨1, 1, 1⟩, 0), (⟨1, 1, 2⟩, 0), (⟨2, 1, 0⟩, 0), (⟨2, 1, 1⟩, 0), (⟨2, 1, 2⟩, 0), (⟨3, 1, 0⟩, 0), (⟨3, 1, 1⟩, 0), (⟨3, 1, 2⟩, 0), (⟨2, 0, 0⟩, 1), (⟨2, 0, 1⟩, 1), (⟨3, 0, 0⟩, 1), (⟨3, 0, 1⟩, 1), (⟨4, 0, 0⟩, 1), (⟨4, 0, 1⟩, 1), (⟨4, 1, 0⟩, 1), (⟨4, 1, 1⟩, 1), (⟨5, 0, 0⟩, 1), (⟨5, 0, 1⟩, 1), (⟨5, 1, 0⟩, 1), (⟨5, 1, 1⟩, 1), (⟨6, 0, 0⟩, 2), (⟨6, 1, 0⟩, 2), (⟨7, 0, 0⟩, 2), (⟨7, 1, 0⟩, 2), (⟨8, 1, 0⟩, 2), (⟨9, 1, 0⟩, 2), (⟨2, 0, 2⟩, 2), (⟨3, 0, 2⟩, 2), (⟨4, 0, 2⟩, 2), (⟨4, 1, 2⟩, 2), (⟨5, 0, 2⟩, 2), (⟨5, 1, 2⟩, 2), (⟨6, 0, 1⟩, 3), (⟨6, 1, 1⟩, 3), (⟨7, 0, 1⟩, 3), (⟨7, 1, 1⟩, 3), (⟨8, 1, 1⟩, 3), (⟨9, 1, 1⟩, 3), (⟨8, 0, 0⟩, 4), (⟨9, 0, 0⟩, 4), (⟨10, 0, 0⟩, 4), (⟨10, 1, 0⟩, 4), (⟨11, 0, 0⟩, 4), (⟨11, 1, 0⟩, 4), (⟨6, 0, 2⟩, 4), (⟨6, 1, 2⟩, 4), (⟨7, 0, 2⟩, 4), (⟨7, 1, 2⟩, 4), (⟨8, 1, 2⟩, 4), (⟨9, 1, 2⟩, 4), (⟨8, 0, 1⟩, 5), (⟨9, 0, 1⟩, 5), (⟨10, 0, 1⟩, 5), (⟨10, 1, 1⟩, 5), (⟨11, 0, 1⟩, 5), (⟨11, 1, 1⟩, 5), (⟨12, 0, 0⟩, 6), (⟨12, 1, 0⟩, 6), (⟨12, 1, 1⟩, 6), (⟨12, 1, 2⟩, 6), (⟨8, 0, 2⟩, 6), (⟨9, 0, 2⟩, 6), (⟨10, 0, 2⟩, 6), (⟨10, 1, 2⟩, 6), (⟨11, 0, 2⟩, 6), (⟨11, 1, 2⟩, 6), (⟨12, 0, 1⟩, 6), (⟨12, 0, 2⟩, 6)]
def Z1V (s : Sta) : Int := millYs.getD ((s.stock.toNat * 2 + s.short.toNat) * 3 + s.dry.toNat) 0
def Z8V : Bool := (sts mill).all fun s => (List.range 6).all fun n => !(decide ((n : Int) ≤ Z1V s)) || mill.rats.any fun q =>
  mill.can s q && decide ((n : Int) ≤ Z1V (mill.next s q false)) && (decide (n = 0) || !(decide (s.dry < mill.run)) || decide ((n : Int) - 1 ≤ Z1V (mill.next s q true)))
theorem Z0k : mill.check = 0 := by decide +kernel
theorem Z5f : Z8V = true := by decide +kernel
theorem Z6P : Zq mill [] millFl = true := by decide +kernel
theorem Z7n : (millFl.all fun p => decide (0 ≤ p.2)) = true := by decide +kernel
theorem Z7A : ((sts mill).all fun s => millFl.contains (s, Z1V s + 1) && decide (-1 ≤ Z1V s) && decide (Z1V s ≤ 5)) = true := by decide +kernel
theorem mill_ok : mill.ok := (Zk Z0k).1
theorem Z7R : ∀ n : Nat, n ≤ 5 → ∀ s, s.right mill = true → (n : Int) ≤ Z1V s → Srv mill n s := by
  intro n
  induction n with
  | zero =>
    intro _ s hs hl
    refine Z0A (X := fun s => s.right mill = true ∧ ((0 : Nat) : Int) ≤ Z1V s) (fun u ⟨hu, hul⟩ => ?_) ⟨hs, hl⟩
    have h := List.all_eq_true.1 (List.all_eq_true.1 Z5f u (Zz hu)) 0 (by simp)
    simp only [hul, decide_true, Bool.not_true, Bool.false_or] at h
    obtain ⟨q, hq, h⟩ := List.any_eq_true.1 h
    simp only [Bool.and_eq_true, decide_eq_true_eq] at h
    exact ⟨hu, q, hq, h.1.1, ⟨Zs (bad := false) mill_ok hu hq h.1.1 (by simp), h.1.2⟩, .inl rfl⟩
  | succ n ih =>
    intro hn s hs hl
    refine Z0A (X := fun s => s.right mill = true ∧ ((n + 1 : Nat) : Int) ≤ Z1V s) (fun u ⟨hu, hul⟩ => ?_) ⟨hs, hl⟩
    have h := List.all_eq_true.1 (List.all_eq_true.1 Z5f u (Zz hu)) (n + 1) (by simp; omega)
    simp only [hul, decide_true, Bool.not_true, Bool.false_or] at h
    obtain ⟨q, hq, h⟩ := List.any_eq_true.1 h
    simp only [Bool.and_eq_true, Bool.or_eq_true, decide_eq_true_eq, Bool.not_eq_true', decide_eq_false_iff_not] at h
    refine ⟨hu, q, hq, h.1.1, ⟨Zs (bad := false) mill_ok hu hq h.1.1 (by simp), h.1.2⟩, ?_⟩
    by_cases hd : u.dry < mill.run
    · refine .inr (.inr (ih (by omega) _ (Zs (bad := true) mill_ok hu hq h.1.1 (fun _ => hd)) ?_))
      rcases h.2 with (h | h) | h
      · omega
      · exact absurd hd h
      · omega
    · exact .inr (.inl hd)
theorem Z9c {s : Sta} (hs : s.right mill = true) : LS mill s (Z1V s) := by
  have h := List.all_eq_true.1 Z7A s (Zz hs)
  simp only [Bool.and_eq_true, decide_eq_true_eq] at h
  refine .inr ⟨(Z1V s + 1).toNat, by omega, by omega, ?_, fun j hj => Z7R j (by omega) s hs (by omega)⟩
  have hm := List.contains_iff_mem.1 h.1.1
  exact Z1s millFl [] (fun _ h => by cases h) (fun p hp => by simpa using List.all_eq_true.1 Z7n p hp) Z6P _ hm _ (by simp only; omega)
theorem Z3s {σ : Sv} (h : Z3a mill σ) {s : Sta} (hs : s.right mill = true) : lat σ.y s = Z1V s := (Z4m mill_ok h hs).uniq (Z9c hs)
def Z7C : List Int := (sts mill).foldl (fun y s => y.set s.ix (Z1V s)) (List.replicate 496 0)
theorem Z66 : ((sts mill).all fun s => decide (lat Z7C s = Z1V s)) = true := by decide +kernel
theorem Z4h {σ : Sv} (h : Z3a mill σ) : Z9g mill σ.y Z7C := fun s hs => (Z3s h hs).trans (Eq.symm (by simpa using List.all_eq_true.1 Z66 s (Zz hs)))
theorem Z30 {α : Type} {p q : α → Bool} : ∀ {l : List α}, (∀ x ∈ l, p x = q x) → l.find? p = l.find? q
  | [], _ => rfl
  | a :: l, h => by rw [List.find?_cons, List.find?_cons, h a (by simp), Z30 fun x hx => h x (by simp [hx])]
theorem Z0N {t : Twn} (ht : t.ok) {σ : Sv} (h : Z3a t σ) : LSA t σ.y := fun _ hs => Z4m ht h hs
open Go
theorem Z9e : cal Try.prog 12 = true := by kernel_rfl
theorem Zar : cal Try.prog 49 = true := by kernel_rfl
theorem ZaR : cal Try.prog 50 = true := by kernel_rfl
theorem ZaT : cal Try.prog 51 = true := by kernel_rfl
theorem ZaX : cal Try.prog 52 = true := by kernel_rfl
theorem ZaL : cal Try.prog 53 = true := by kernel_rfl
theorem Za4 : cal Try.prog 54 = true := by kernel_rfl
theorem Zba : cal Try.prog 7 = true := by kernel_rfl
theorem Zb6 : cal Try.prog 8 = true := by kernel_rfl
theorem Z9O : Z0E Try.prog 27 = some 11 := by kernel_rfl
theorem Zbj : Z0W Try.prog 27 = some [(0, 3), (3, 1), (4, 1), (5, 1), (6, 1), (7, 1), (8, 1), (9, 1), (10, 1)] := by kernel_rfl
theorem ZaV : Z0W Try.prog 77 = some [(0, 1), (1, 1)] := by kernel_rfl
theorem Zbh : slE Try.prog 25 = some (77, 2) := by kernel_rfl
theorem Z99 : Z08 Try.prog 27 = some ([.int .i64 0, .int .i64 0, .int .i64 0, .int .i64 0, .int .i64 0, .int .i64 0, .int .i64 0, .int .i64 0, .int .i64 0, .int .i64 0, .slice none 0 0]) := by kernel_rfl
theorem Z4J {p p' : Rn → Bool} {l : List Rn} (h : ∀ q ∈ l, p q = p' q) (k : Nat) : Z2h p l k = Z2h p' l k := by
  unfold Z2h
  congr 1
  refine List.filter_congr fun i _ => ?_
  cases hq : l[i]? with
  | none => rfl
  | some q => exact h q (List.mem_of_getElem? hq)
theorem Z6X {σ : Sv} (h : Z3a mill σ) : Z2h (fun q => mill.keeps σ.y mill.now q (lat σ.y mill.now)) mill.rats mill.rats.length = [1] := by
  have e : lat σ.y mill.now = 3 := (Z3s h mill_ok.now).trans (by decide)
  rw [e, Z4J (p' := fun q => mill.keeps Z7C mill.now q 3) fun q hq => Z1q mill_ok (Z4h h) mill_ok.now hq 3]
  decide +kernel
theorem Z6j {σ : Sv} (h : Z3a mill σ) : Z3w mill σ.y 4 = .tuple #[.int .i64 12, .int .i64 0] := by
  have e : (sts mill).find? (Z1P mill σ.y 4) = some ⟨12, 0, 0⟩ := by
    rw [Z30 (q := Z1P mill Z7C 4) fun s hs => by unfold Z1P; rw [Z4h h s (Zh mill_ok hs)]]
    decide +kernel
  unfold Z3w; rw [e]
theorem Z69 : Z2U mill 3 = .tuple #[.int .i64 104, .int .i64 0] := by
  have e : ef mill (3 : Int).toNat mill.now = 104 := by decide +kernel
  unfold Z2U; rw [e]; rfl
theorem Z5J {j : Nat} (h : (Z0F [2, 7, 5] j (Zr 11 [2, 7, 5])).g = false) : (Z0F [2, 7, 5] j (Zr 11 [2, 7, 5])).o = [2, 5, 4] := by
  rw [Z6D h (k := 6) (by decide +kernel)]
  decide +kernel
theorem Z1e {σ : Sv} (h : Z3a mill σ) : lat σ.y mill.now = 3 := (Z3s h mill_ok.now).trans (by decide)
theorem Z6z {σ : Sv} (h : Z3a mill σ) : Zu mill (tab mill σ.y) = (3, 0) := by
  have e := Z1e h
  rw [Z3L Z0k (Z0N mill_ok h) (by rw [e]; decide), e]
theorem Z8z {t : Twn} (ht : t.ok) (y : List Int) : (tab t y).length ≤ 496 := Nat.le_trans (List.length_filterMap_le _ _) (by rw [Z0B]; exact Z3W ht)
theorem Z9y (H : Za) (R : Z8) :
    Fn Try.prog 49 [] H R (fun v H' R' => ∃ b, v = mill.v (.slice (some ⟨b, 0, none⟩) 2 2) ∧ H' = H ∧ R' = RowsA (some ⟨b, 0, none⟩) 2 (Zx mill.rats) :: R) := by
 refine Zv Try.func49 rfl Try.ntmps49 rfl ?_
 refine sqt 1 rfl (alc rfl Z99 rfl (fun b0 => sqt 6 rfl (sp rfl (PE.build (out := [_, _, _]) Z8q Z37 rfl rfl) rfl (sp rfl (PE.build (out := [_, _]) ZaV Z7a rfl rfl) rfl (sp rfl (PE.build (out := [_, _]) ZaV Z7a rfl rfl) rfl ?_)))))
 refine bsl (out := [_, _, _, _]) rfl Zbh Z7a rfl rfl rfl rfl rfl rfl (fun b4 => ?_)
 refine sp rfl (PE.build (out := [_, _, _, _, _, _, _, _, _, _, _]) Zbj Z99 rfl rfl) rfl ?_
 refine sto rfl rfl rfl Z9O rfl rfl rfl rfl ?_
 refine Z3 ?_
 exact Z5 (vs := [_]) rfl (.cons (RV.cell rfl (lhA [_, _, _, _, _, _, _, _, _, _, _] ZZ rfl rfl rfl)) .nil) rfl ⟨b4, rfl, rfl, rfl⟩ (fun w h => (St.rows (sz := 2) (rows := Zx mill.rats) (rest := []) h (by decide)).tail)
theorem Z8G (H : Za) (R : Z8) :
    FnV Try.prog 22 [] H R (.bool true) := by
 refine Zv Try.func22 rfl Try.ntmps22 rfl ?_
 refine sqt 1 rfl (pur 1 rfl (sqt 3 rfl ?_))
 refine cl rfl Zar rfl rfl (Z9y _ _) ?_
 rintro _ _ _ ⟨bm, rfl, rfl, rfl⟩
 refine alc rfl Z99 rfl (fun b1 => ?_)
 refine sto rfl rfl rfl Z9O rfl rfl rfl rfl ?_
 refine sqt 7 rfl (spL rfl rfl (lhA [_, _, _, _, _, _, _, _, _, _, _] ZZ rfl rfl rfl) rfl ?_)
 refine cl rfl Zba rfl rfl (Z6V mill (by decide) bm 0 2 _ _) ?_
 rintro _ _ _ ⟨h, rfl, rfl⟩
 obtain ⟨_, σ1, hσ1, rfl⟩ := h.resolve_left (fun h => h.1 Z0k)
 rw [Z1e hσ1]
 refine pur 5 rfl (sqt 7 rfl (spL rfl rfl (lhA [_, _, _, _, _, _, _, _, _, _, _] ZZ rfl rfl rfl) rfl ?_))
 refine cl rfl ZaR rfl rfl (Z7X mill (by decide) bm 0 2 _ _) ?_
 rintro _ _ _ ⟨h, rfl⟩
 obtain ⟨_, σ2, hσ2, h⟩ := h.resolve_left (fun h => h.1 Z0k)
 obtain ⟨_, o, rfl, rfl⟩ := h.resolve_left (fun h => by have := h.1; rw [Z1e hσ2] at this; cases this)
 obtain ⟨ax, cx, ho, hfr⟩ := o.freeze
 rw [ho]
 refine Sy.heap (fun w h => hfr h) ?_
 rw [Z6X hσ2]
 refine pur 5 rfl (sqt 7 rfl (spL rfl rfl (lhA [_, _, _, _, _, _, _, _, _, _, _] ZZ rfl rfl rfl) rfl ?_))
 refine cl rfl ZaT rfl rfl (Z94 mill (by decide) 4 bm 0 2 _ _) ?_
 rintro _ _ _ ⟨h, rfl, rfl⟩
 obtain ⟨_, _, σ3, hσ3, rfl⟩ := (h.resolve_left (fun h => h.1 Z0k)).resolve_left (fun h => by have := h.2.1; revert this; decide)
 rw [Z6j hσ3]
 refine pur 5 rfl (sqt 7 rfl (spL rfl rfl (lhA [_, _, _, _, _, _, _, _, _, _, _] ZZ rfl rfl rfl) rfl ?_))
 refine cl rfl ZaX rfl rfl (Z9a mill (by decide) 3 bm 0 2 _ _) ?_
 rintro _ _ _ ⟨h, rfl, rfl⟩
 obtain ⟨_, _, rfl⟩ := (h.resolve_left (fun h => h.1 Z0k)).resolve_left (fun h => by have := h.2.1; revert this; decide)
 rw [Z69]
 refine pur 5 rfl (sqt 7 rfl ?_)
 refine bsl (out := [_, _, _]) rfl Z8p zl3 rfl rfl rfl rfl rfl rfl (fun b38 => ?_)
 refine Sy.heap (fun w h => St.intRows (l := [2, 7, 5]) h) ?_
 refine cl rfl ZaL rfl rfl (Z8F 11 [2, 7, 5] (some ⟨b38, 0, none⟩) 3 (by decide) _ _) ?_
 rintro _ _ _ ⟨h, rfl⟩
 obtain ⟨_, j, bs, hg, rfl, rfl⟩ := h.resolve_left (fun h => h.1 (by decide))
 rw [Z5J hg]
 refine Sy.heap (fun w h => St.intRows (l := [2, 5, 4]) h) ?_
 refine pur 5 rfl (sqt 7 rfl (spL rfl rfl (lhA [_, _, _, _, _, _, _, _, _, _, _] ZZ rfl rfl rfl) rfl ?_))
 refine cl rfl Zb6 rfl rfl (Z67 mill (by decide) bm 0 2 _ _) ?_
 rintro _ _ _ ⟨h, rfl⟩
 obtain ⟨_, σ4, hσ4, h⟩ := h.resolve_left (fun h => h.1 Z0k)
 obtain ⟨_, o, rfl, rfl⟩ := h.resolve_left (fun h => by have := h.1; rw [Z1e hσ4] at this; cases this)
 obtain ⟨at', ct, ho, hfr⟩ := o.freeze
 rw [ho, show (Zg (tab mill σ4.y)).length = (tab mill σ4.y).length from List.length_map _]
 refine Sy.heap (fun w h => hfr h) ?_
 have htl := Z8z mill_ok σ4.y
 refine pur 5 rfl (sqt 8 rfl (spL rfl rfl (lhA [_, _, _, _, _, _, _, _, _, _, _] ZZ rfl rfl rfl) rfl (pur 1 rfl ?_)))
 refine cl rfl Z9e rfl rfl (Z4K mill (by decide) (tab mill σ4.y) at' ct (by omega) bm 0 2 _ _) ?_
 rintro _ _ _ ⟨rfl, rfl, rfl⟩
 rw [Z6z hσ4]
 refine pur 5 rfl (sqt 53 rfl (pur 32 rfl ?_))
 refine Zb5 (out := [_]) rfl rfl rfl rfl Z8p zl3 rfl rfl rfl rfl rfl rfl (fun b85 => ?_)
 refine Sy.heap (fun w h => St.intRows (l := [1]) h) ?_
 refine Z1X rfl rfl rfl rfl Za4 rfl rfl (Z56 [1] [1] ax (some ⟨b85, 0, none⟩) cx 1 (by decide) (by decide) _ _) ?_
 refine pur 11 rfl ?_
 refine Zb5 (out := [_, _, _]) rfl rfl rfl rfl Z8p zl3 rfl rfl rfl rfl rfl rfl (fun b98 => ?_)
 refine Sy.heap (fun w h => St.intRows (l := [2, 5, 4]) h) ?_
 refine Z1X rfl rfl rfl rfl Za4 rfl rfl (Z56 [2, 5, 4] [2, 5, 4] (some ⟨bs, 0, none⟩) (some ⟨b98, 0, none⟩) 3 3 (by decide) (by decide) _ _) ?_
 refine pur 6 rfl (Z3 ?_)
 exact rtA rfl rfl rfl ⟨rfl, rfl, rfl⟩ drp
end Go.Proofs.Ythhdgeibokecjaa.Bd
namespace Go.Proofs.Ythhdgeibokecjaa.Bd
set_option linter.unusedSimpArgs false
set_option linter.unusedVariables false
def ixr (t : Twn) (s : Sta) : Nat := (s.stock.toNat * (t.patience.toNat + 1) + s.short.toNat) * (t.run.toNat + 1) + s.dry.toNat
theorem Z4s {t : Twn} {s : Sta} (h : s.right t = true) : (sts t)[ixr t s]? = some s ∧ ixr t s < t.nst := by
  have h1 := right_iff.1 h
  have h2 := Z6w (t := t) (a := s.stock.toNat) (b := s.short.toNat) (c := s.dry.toNat) (by omega) (by omega) (by omega)
  refine ⟨?_, h2⟩
  rw [ixr, Z4u h2, Z3M (by omega) (by omega)]
  obtain ⟨a, b, c⟩ := s
  simp only at h1 ⊢
  rw [Int.toNat_of_nonneg h1.1.1, Int.toNat_of_nonneg h1.2.1.1, Int.toNat_of_nonneg h1.2.2.1]
theorem Z9T {t : Twn} {s : Sta} (h : s.right t = true) : ixr t s < t.nst := (Z4s h).2
theorem Z8Z {t : Twn} {s u : Sta} (hs : s.right t = true) (hu : u.right t = true) (h : ixr t s = ixr t u) : s = u := by
  have h1 := (Z4s hs).1
  rw [h, (Z4s hu).1] at h1
  cases h1; rfl
theorem Z36 {t : Twn} {s : Sta} {q : Rn} (h : t.can s q = true) : q.sacks ≤ s.stock := by
  simp only [Twn.can, Bool.and_eq_true, decide_eq_true_eq] at h; exact h.1
def bo (l : List Bool) (i : Nat) : Bool := l.getD i false
def io (l : List Int) (i : Nat) : Int := l.getD i 0
theorem Z9v {l : List Int} {i j : Nat} {x : Int} (h : i < l.length) : io (l.set i x) j = bif decide (i = j) then x else io l j := by
  unfold io
  simp only [List.getD, List.getElem?_set]
  by_cases e : i = j
  · subst e; simp [h]
  · simp [e]
structure Rel (t : Twn) (la y : List Int) : Prop where
  len : la.length = t.nst
  ylen : y.length = 496
  at_ : ∀ u, u.right t = true → io la (ixr t u) = lat y u
theorem Rel.set {t : Twn} (ht : t.ok) {la y : List Int} (h : Rel t la y) {s : Sta} (hs : s.right t = true) (v : Int) : Rel t (la.set (ixr t s) v) (y.set s.ix v) where
  len := by rw [List.length_set]; exact h.len
  ylen := by rw [List.length_set]; exact h.ylen
  at_ := fun u hu => by
    rw [Z9v (by rw [h.len]; exact Z9T hs)]
    by_cases e : ixr t s = ixr t u
    · obtain rfl := Z8Z hs hu e
      simp only [decide_true, cond_true]
      rw [ZE (by rw [h.ylen]; exact Z1w ht hs)]
    · simp only [e, decide_false, cond_false]
      rw [ZH (fun e2 => e (by rw [Z13 ht hs hu e2])), h.at_ u hu]
def mkY (g : Sta → Int) : List Int := (List.range 496).map fun (i : Nat) => g ⟨(i / 16 : Nat), (i % 16 / 4 : Nat), (i % 4 : Nat)⟩
theorem Z6i {t : Twn} (ht : t.ok) (g : Sta → Int) {s : Sta} (h : s.right t = true) : lat (mkY g) s = g s := by
  have h1 := right_iff.1 h
  have h2 := ht.patience
  have h3 := ht.run
  have h4 := Z1w ht h
  unfold lat mkY
  simp only [List.getD, List.getElem?_map, List.getElem?_range h4, Option.map_some, Option.getD_some]
  congr 1
  obtain ⟨a, b, c⟩ := s
  simp only [Sta.ix, Sta.mk.injEq] at *
  omega
def PL (t : Twn) (n : Nat) (s : Sta) (v : Int) : Prop := (v = (n : Int) - 1 ∧ ∀ j < n, Srv t j s) ∨ ∃ k : Nat, k < n ∧ v = k - 1 ∧ ¬ Srv t k s ∧ ∀ j < k, Srv t j s
theorem PL.ls {t : Twn} {n : Nat} {s : Sta} {v : Int} (hn : n ≤ 496) (h : PL t (n + 1) s v) (hs : ¬ Srv t n s) : LS t s v := by
  rcases h with ⟨_, h2⟩ | ⟨k, hk, h⟩
  · exact absurd (h2 n (by omega)) hs
  · exact .inr ⟨k, by omega, h⟩
def SolR (t : Twn) (la : List Int) : Prop := la.length = t.nst ∧ ∀ s, s.right t = true → LS t s (io la (ixr t s))
theorem Rel.same {t : Twn} {la y y' : List Int} (h : Rel t la y) (hy : LSA t y) (hy' : LSA t y') (hl : y'.length = 496) : Rel t la y' := ⟨h.len, hl, fun u hu => (h.at_ u hu).trans (LS.uniq (hy u hu) (hy' u hu))⟩
open Go
theorem Z8X {a b A B : Int} (h1 : 0 ≤ a) (h2 : a ≤ A) (h3 : 0 ≤ b) (h4 : b ≤ B) : 0 ≤ a * b ∧ a * b ≤ A * B := by
  have h5 := Int.mul_nonneg h1 h3
  have h6 := Int.mul_le_mul h2 h4 h3 (by omega)
  omega
theorem ZbC : apT Try.prog 25 = some (77, 2, 16) := by kernel_rfl
theorem Zbw : Z0E Try.prog 25 = some 1 := by kernel_rfl
end Go.Proofs.Ythhdgeibokecjaa.Bd
namespace Go.Proofs.Ythhdgeibokecjaa.Bd
set_option linter.unusedSimpArgs false
set_option linter.unusedVariables false
noncomputable def LV (t : Twn) (s : Sta) : Int := Classical.epsilon fun v : Int => LS t s v
theorem LS.lv {t : Twn} {s : Sta} {v : Int} (h : LS t s v) : v = LV t s := LS.uniq h (Classical.epsilon_spec (p := fun v => LS t s v) ⟨v, h⟩)
noncomputable def LY (t : Twn) : List Int := mkY (LV t)
theorem Za8 (t : Twn) : (LY t).length = 496 := by simp [LY, mkY]
theorem LSA.same {t : Twn} (ht : t.ok) {y : List Int} (h : LSA t y) : Z9g t y (LY t) := fun s hs => (h s hs).lv.trans (Z6i ht (LV t) hs).symm
theorem LSA.ly {t : Twn} (ht : t.ok) {y : List Int} (h : LSA t y) : LSA t (LY t) := fun s hs => by rw [← h.same ht s hs]; exact h s hs
theorem SolR.ly {t : Twn} (ht : t.ok) {la : List Int} (h : SolR t la) : Rel t la (LY t) ∧ LSA t (LY t) := by
  have e : ∀ u, u.right t = true → io la (ixr t u) = lat (LY t) u := fun u hu => (h.2 u hu).lv.trans (Z6i ht (LV t) hu).symm
  exact ⟨⟨h.1, Za8 t, e⟩, fun s hs => by rw [← e s hs]; exact h.2 s hs⟩
attribute [irreducible] LY
open Go
theorem Z5p {l : List Rw} {k : Nat} {x : Rw} (h : l[k]? = some x) : (Zg l)[k]? = some (Z5T x) := by simp [Zg, h]
noncomputable def Z79 (t : Twn) : List Rw × Int := bif decide (t.check ≠ 0) then ([], t.check) else bif decide (lat (LY t) t.now = -1) then ([], 6) else (tab t (LY t), 0)
theorem Z1B {α : Type} {p q : α → Bool} : ∀ {l : List α}, (∀ x ∈ l, p x = q x) → l.findIdx? p = l.findIdx? q
  | [], _ => rfl
  | a :: l, h => by rw [List.findIdx?_cons, List.findIdx?_cons, h a (by simp), Z1B (l := l) (fun x hx => h x (by simp [hx]))]
theorem Z4i {t : Twn} (ht : t.ok) {y y' : List Int} (h : Z9g t y y') {s : Sta} (hs : s.right t = true) : ZS t y s = ZS t y' s := by
  unfold ZS
  rw [← h s hs, Z1B (fun q hq => Z1q ht h hs hq _)]
theorem Z0U {α β : Type} {f g : α → Option β} : ∀ {l : List α}, (∀ x ∈ l, f x = g x) → l.filterMap f = l.filterMap g
  | [], _ => rfl
  | a :: l, h => by simp only [List.filterMap_cons, h a (by simp), Z0U (l := l) (fun x hx => h x (by simp [hx]))]
theorem Z6U {t : Twn} (ht : t.ok) {y y' : List Int} (h : Z9g t y y') : tab t y = tab t y' := Z0U fun s hs => Z4i ht h (Zh ht hs)
theorem Z6u {t : Twn} (h : t.check = 0) (hn : lat (LY t) t.now ≠ -1) : Z79 t = (tab t (LY t), 0) := by simp [Z79, h, hn]
theorem Z5y {t : Twn} (h : t.check = 0) (hn : lat (LY t) t.now = -1) : Z79 t = ([], 6) := by simp [Z79, h, hn]
theorem Z7h (t : Twn) (hl : t.rats.length ≤ 9223372036854775807) (ba oa ca : Nat) (H : Za) (R : Z8) [hR : MemRows (some ⟨ba, oa, none⟩) 2 (Zx t.rats) R] : Fn Try.prog 8 [t.v (t.sl (some ⟨ba, oa, none⟩) ca)] H R (fun v H' R' => ∃ o : OSl 48 5 (Zg (Z79 t).1), v = .tuple #[o.fs, .int .i64 (Z79 t).2] ∧ H' = o.G ++ H ∧ R' = R ∧ (t.check = 0 → LSA t (LY t))) := by
  refine Fn.mono (Z67 t hl ba oa ca H R) ?_
  rintro v H' R' ⟨⟨hck, rfl, rfl⟩ | ⟨hck, σ, hσ, ⟨h1, rfl, rfl⟩ | ⟨h1, o, rfl, rfl⟩⟩, rfl⟩
  · have e : Z79 t = ([], t.check) := by simp [Z79, hck]
    rw [e]; exact ⟨OSl.nil _ _, rfl, rfl, rfl, fun h => absurd h hck⟩
  · have hok := (Zk hck).1
    have hl := Z0N hok hσ
    rw [Z5y hck (by rw [← hl.same hok _ hok.now]; exact h1)]; exact ⟨OSl.nil _ _, rfl, rfl, rfl, fun _ => hl.ly hok⟩
  · have hok := (Zk hck).1
    have hl := Z0N hok hσ
    rw [Z6u hck (by rw [← hl.same hok _ hok.now]; exact h1), ← Z6U hok (hl.same hok)]; exact ⟨o, rfl, rfl, rfl, fun _ => hl.ly hok⟩
end Go.Proofs.Ythhdgeibokecjaa.Bd
namespace Go.Proofs.Ythhdgeibokecjaa.Bd
set_option linter.unusedSimpArgs false
set_option linter.unusedVariables false
def Z0D (s : Sta) (o : Option Int) (p : Sta × Int) : Option Int := bif decide (p.1 = s) then some (match o with | none => p.2 | some n => min n p.2) else o
def Z1f (l : List (Sta × Int)) (s : Sta) : Option Int := l.foldl (Z0D s) none
def leO (o : Option Int) (m : Int) : Bool := match o with | none => false | some n => decide (n ≤ m)
theorem Z2G (l : List (Sta × Int)) (p : Sta × Int) (s : Sta) : Z1f (l ++ [p]) s = Z0D s (Z1f l s) p := by simp [Z1f]
theorem Z5t (s : Sta) (m : Int) : ∀ (l : List (Sta × Int)) (o : Option Int), leO (l.foldl (Z0D s) o) m = (leO o m || Zd l s m)
  | [], o => by simp [Zd]
  | p :: l, o => by
    rw [List.foldl_cons, Z5t s m l]
    unfold Zd
    rw [List.any_cons, ← Bool.or_assoc]
    congr 1
    unfold Z0D
    cases h : decide (p.1 = s) with
    | false => simp
    | true =>
      cases o with
      | none => simp [leO]
      | some n =>
        simp only [cond_true, leO, Bool.true_and]
        rw [Bool.eq_iff_iff]
        simp
        omega
theorem ZK (l : List (Sta × Int)) (s : Sta) (m : Int) : Zd l s m = leO (Z1f l s) m := by
  have := Z5t s m l none
  simpa [Z1f, leO] using this.symm
theorem Z21 (t : Twn) : ∀ (l pre : List (Sta × Int)) (p : Sta × Int), Zq t pre (l ++ [p]) = (Zq t pre l && Z2I t (pre ++ l) p)
  | [], pre, p => by simp [Zq]
  | x :: l, pre, p => by
    rw [List.cons_append, Zq, Zq, Z21 t l, Bool.and_assoc, List.append_assoc]; rfl
theorem Z0g {t : Twn} : ∀ {l pre : List (Sta × Int)} {k : Nat} {x : Sta × Int}, l[k]? = some x → Z2I t (pre ++ l.take k) x = false → Zq t pre l = false
  | [], _, _, _, h, _ => by simp at h
  | a :: l, pre, 0, x, h, hb => by
    simp only [List.getElem?_cons_zero, Option.some.injEq] at h
    subst h
    rw [Zq]
    rw [List.take_zero, List.append_nil] at hb
    rw [hb]; rfl
  | a :: l, pre, k + 1, x, h, hb => by
    rw [Zq, Z0g (l := l) (pre := pre ++ [a]) (k := k) (by simpa using h) (by simpa using hb)]
    simp
def stR (t : Twn) (l : List (Sta × Int)) : Int × Int :=
  bif decide (t.check ≠ 0) then (0, t.check) else bif decide (496 < l.length) then (0, 2) else bif !(l.all fun p => p.1.right t && inb p.2 0 1000000) then (0, 3) else bif !(Zq t [] l) then (0, 8) else match Z1f l t.now with
  | none => (0, 6)
  | some n => (n, 0)
structure FlOk (t : Twn) (σ : Sv) : Prop where
  len : σ.y.length = 496
  ok : Zq t [] σ.fl = true
  rg : ∀ p ∈ σ.fl, p.1.right t = true ∧ 0 ≤ p.2 ∧ p.2 ≤ 1000000
  at_ : ∀ s, s.right t = true → Z1f σ.fl s = bif Z1W σ.y s then none else some (lat σ.y s + 1)
theorem FlOk.step {t : Twn} (ht : t.ok) {n : Nat} (hn : n ≤ 496) {σ : Sv} (h : FlOk t σ) {u : Sta} (hu : u.right t = true) : FlOk t (σ.step t n u) := by
  cases hc : Z1W σ.y u && !(t.rats.any fun q => t.keeps σ.y u q n) with
  | false => have e : σ.step t n u = σ := by unfold Sv.step; rw [hc]; rfl
             rw [e]; exact h
  | true =>
    have e : σ.step t n u = ⟨σ.y.set u.ix (n - 1), σ.fl ++ [(u, (n : Int))]⟩ := by unfold Sv.step; rw [hc]; rfl
    rw [e]
    simp only [Bool.and_eq_true, Bool.not_eq_true', List.any_eq_false] at hc
    obtain ⟨hev, hno⟩ := hc
    have hui := Z1w ht hu
    refine ⟨by simp [h.len], ?_, ?_, ?_⟩
    · rw [Z21, h.ok, Bool.true_and, List.nil_append]
      refine List.all_eq_true.2 fun q hq => ?_
      cases hcan : t.can u q with
      | false => rfl
      | true =>
        have hk := hno q hq
        have hg := Zs ht hu hq hcan (bad := false) (by simp)
        have key : ∀ (s : Sta) (m : Int), s.right t = true → m ≤ 496 → ¬ m ≤ lat σ.y s → Zd σ.fl s m = true := fun s m hs hm h1 => by
          rw [ZK, h.at_ s hs]
          have he : Z1W σ.y s = false := by unfold Z1W; rw [decide_eq_false]; omega
          rw [he]
          simp only [cond_false, leO, decide_eq_true_eq]
          omega
        simp only [Bool.not_true, Bool.false_or]
        by_cases h1 : (n : Int) ≤ lat σ.y (t.next u q false)
        · simp only [Twn.keeps, hcan, h1, decide_true, Bool.and_true, Bool.true_and, Bool.or_eq_true, decide_eq_true_eq, Bool.not_eq_true', decide_eq_false_iff_not, not_or, Decidable.not_not] at hk
          obtain ⟨⟨h2, h3⟩, h4⟩ := hk
          rw [decide_eq_false (show ¬ (n : Int) = 1000000 by omega)] at h4
          rw [decide_eq_true h3, key _ (n - 1) (Zs ht hu hq hcan (fun _ => h3)) (by omega) h4]
          simp
        · rw [key _ n hg (by omega) h1]; rfl
    · intro p hp
      rcases List.mem_append.1 hp with hp | hp
      · exact h.rg p hp
      · simp only [List.mem_singleton] at hp; subst hp; exact ⟨hu, by omega, by dsimp only; omega⟩
    · intro s hs
      rw [Z2G, h.at_ s hs]
      unfold Z0D
      by_cases e2 : u = s
      · subst e2
        rw [hev]
        have : Z1W (σ.y.set u.ix ((n : Int) - 1)) u = false := by unfold Z1W; rw [ZE (by rw [h.len]; exact hui), decide_eq_false]; omega
        simp only [decide_true, cond_true, this, cond_false, ZE (y := σ.y) (v := (n : Int) - 1) (by rw [h.len]; exact hui)]
        congr 1; omega
      · have hix : u.ix ≠ s.ix := fun e3 => e2 (Z13 ht hu hs e3)
        simp only [e2, decide_false, cond_false, Z1W, ZH hix]
theorem FlOk.fold {t : Twn} (ht : t.ok) {n : Nat} (hn : n ≤ 496) : ∀ (l : List Sta) (σ : Sv), (∀ s ∈ l, s ∈ sts t) → FlOk t σ → FlOk t (l.foldl (Sv.step t n) σ)
  | [], _, _, h => h
  | s :: l, σ, hl, h => FlOk.fold ht hn l _ (fun u hu => hl u (by simp [hu])) (h.step ht hn (Zh ht (hl s (by simp))))
theorem FlOk.passes {t : Twn} (ht : t.ok) {n : Nat} (hn : n ≤ 496) : ∀ (j : Nat) (σ : Sv), FlOk t σ → FlOk t (passes t n j σ)
  | 0, _, h => h
  | j + 1, σ, h => FlOk.fold ht hn (sts t) _ (fun _ h => h) (FlOk.passes ht hn j σ h)
theorem ZaM {t : Twn} (ht : t.ok) {n : Nat} {σ : Sv} (h : Rd t n σ) : FlOk t σ := by
  induction h with
  | zero => exact ⟨(Z2P ht .zero).1, rfl, by simp, fun s hs => by
      have : Z1W (Z5N t) s = true := by unfold Z1W; rw [Z22 ht (Zz hs)]; rfl
      rw [this]; rfl⟩
  | next j h _ _ ih => exact ih.passes ht (by have := (Z2P ht h).2.1; omega) j _
theorem Z4D {t : Twn} (ht : t.ok) {σ : Sv} (h : Z3a t σ) : FlOk t σ ∧ σ.fl.length ≤ 496 := by
  obtain ⟨n, h, _⟩ := h
  exact ⟨ZaM ht h, by have := (Z2P ht h).2.2; omega⟩
theorem Zau {t : Twn} (h0 : t.check = 0) {σ : Sv} (h : Z3a t σ) (hn : lat σ.y t.now ≠ 1000000) : stR t σ.fl = (lat σ.y t.now + 1, 0) := by
  have hok := (Zk h0).1
  obtain ⟨hf, hl⟩ := Z4D hok h
  have h1 : (σ.fl.all fun p => p.1.right t && inb p.2 0 1000000) = true := List.all_eq_true.2 fun p hp => by
    obtain ⟨a, b, c⟩ := hf.rg p hp
    rw [a, Bool.true_and]; simp only [inb, Bool.and_eq_true, decide_eq_true_eq]; exact ⟨b, c⟩
  unfold stR
  rw [h1, hf.ok, hf.at_ _ hok.now, decide_eq_false (show ¬ 496 < σ.fl.length by omega)]
  simp [h0, Z1W, hn]
noncomputable def Z5S (t : Twn) : Int := bif decide (t.check ≠ 0) then t.check else bif decide (lat (LY t) t.now = 1000000) then 6 else 0
open Go
theorem Za9 : Z5M Try.prog 51 = some 4 := by kernel_rfl
theorem ZaN : cal Try.prog 44 = true := by kernel_rfl
theorem Zap : cal Try.prog 45 = true := by kernel_rfl
theorem Z8J : cal Try.prog 46 = true := by kernel_rfl
theorem ZaB : cal Try.prog 70 = true := by kernel_rfl
theorem ZaC : cal Try.prog 71 = true := by kernel_rfl
theorem ZaZ : cal Try.prog 84 = true := by kernel_rfl
theorem Zbk : Z0E Try.prog 51 = some 4 := by kernel_rfl
theorem Z9R : elN Try.prog 37 = some 4 := by kernel_rfl
theorem Z0v : Z1j Try.prog 51 0 = some 0 := by kernel_rfl
theorem Z0y : Z1j Try.prog 51 1 = some 3 := by kernel_rfl
theorem Z1u : Z6l Try.prog 37 = true := by kernel_rfl
theorem Zay : Z2m Try.prog 108 = true := by kernel_rfl
theorem Z5l {a : Option Addr} {sz : Nat} {rows : List (List Value)} {w : World} (h : RowsA a sz rows w) (ha : a.isNone = true) : rows = [] := by
  false_or_by_contra
  rename_i h0
  obtain ⟨b, off, e⟩ := Z44 h h0
  rw [e] at ha; cases ha
abbrev Fat := Sta × Int
theorem Z50 {l : List Fat} {k : Nat} {x : Fat} (h : l[k]? = some x) : (Ze l)[k]? = some (Z2O x) := by simp [Ze, h]
theorem ZO {t : Twn} {l : List Fat} {k : Nat} {x : Fat} (hx : l[k]? = some x) (h : Zq t [] (l.take k) = true) (h2 : Z2I t (l.take k) x = true) : Zq t [] (l.take (k + 1)) = true := by
  rw [List.take_add_one, hx, Option.toList_some, Z21, h, List.nil_append, h2]; rfl
theorem Z6s {t : Twn} {l : List Fat} (h0 : t.check = 0) (h1 : l.length ≤ 496) (h2 : (l.all fun p => p.1.right t && inb p.2 0 1000000) = true) (h3 : Zq t [] l = true) : stR t l = match Z1f l t.now with | none => (0, 6) | some n => (n, 0) := by
  unfold stR; rw [h2, h3, decide_eq_false (show ¬ 496 < l.length by omega)]; simp only [h0]; cases Z1f l t.now <;> rfl
theorem Z2e {t : Twn} {l : List Fat} (h0 : t.check = 0) (h1 : l.length ≤ 496) (h2 : (l.all fun p => p.1.right t && inb p.2 0 1000000) = true) (h3 : Zq t [] l = false) : stR t l = (0, 8) := by
  unfold stR; rw [h2, h3, decide_eq_false (show ¬ 496 < l.length by omega)]; simp [h0]
theorem Za6 {t : Twn} {l : List Fat} (h0 : t.check = 0) (h1 : l.length ≤ 496) (h2 : (l.all fun p => p.1.right t && inb p.2 0 1000000) = false) : stR t l = (0, 3) := by
  unfold stR; rw [h2, decide_eq_false (show ¬ 496 < l.length by omega)]; simp [h0]
theorem Z92 {t : Twn} {l : List Fat} (h0 : t.check = 0) (h1 : 496 < l.length) : stR t l = (0, 2) := by
  unfold stR; rw [decide_eq_true h1]; simp [h0]
theorem Za3 {t : Twn} {l : List Fat} (h2 : (l.all fun p => p.1.right t && inb p.2 0 1000000) = true) {x : Fat} (hx : x ∈ l) : x.1.right t = true ∧ 0 ≤ x.2 ∧ x.2 ≤ 1000000 := by
  have := List.all_eq_true.1 h2 x hx
  simpa [inb, and_assoc] using this
theorem Z5K (xs : List Fat) (a : Option Addr) (c g : Nat) (fst cap : List Value) (p : Fat → Bool) (hg : cal Try.prog g = true) (hl : xs.length ≤ 9223372036854775807) (H : Za) (R : Z8) [hR : MemRows a 4 (Ze xs) R] (hp : ∀ x, x ∈ xs → FnV Try.prog g (fst ++ [.agg (Z2O x).toArray] ++ cap) H R (.bool (p x))) :
    FnV Try.prog 84 [.slice a xs.length c, .func (.func g) fst.toArray cap.toArray] H R (.int .i64 (match xs.findIdx? p with | some k => (k : Int) | none => -1)) := by
 refine Zv Try.func84 rfl Try.ntmps84 rfl ?_
 refine sqt 1 rfl (pur 1 rfl (Z0 (sqt 3 rfl (pur 1 rfl (sp rfl (PE.lenSl Z1u rfl) rfl (pur 1 rfl (Z7 ?_)))))))
 refine Zy (ι := {k : Nat // k ≤ xs.length ∧ ∀ x ∈ xs.take k, p x = false}) (fun k => ⟨[(0, .slice a xs.length c), (1, .func (.func g) fst.toArray cap.toArray), (7, .int .i64 xs.length), (8, .int .i64 k.1)], H, R⟩) (fun k => xs.length - k.1) ⟨0, by simp⟩ ?_ (fun k => ?_)
 exact Z05 idH
 obtain ⟨k, hk, hn⟩ := k
 dsimp only
 refine sqt 1 rfl (pur 1 rfl (Z0 ?_))
 refine Z4 rfl ?_ ?_ <;> intro hc0
 simp only [cS] at hc0
 obtain ⟨x, hx⟩ : ∃ x, xs[k]? = some x := ⟨_, List.getElem?_eq_getElem (by omega)⟩
 have hxm := List.mem_of_getElem? hx
 refine Z00 (a := a) (sz := 4) (rows := Ze xs) (by cases xs <;> simp_all [Ze]) (fun b off he => ?_)
 subst he
 refine Z2 (Z0 (Z7 (sqt 2 rfl (pur 2 rfl (sqt 6 rfl (pur 3 rfl (sp rfl (PE.indexAddr Z9R rfl rfl (by omega) (by omega)) rfl (spL rfl rfl (lfA Za9 (row := Z2O x) (by simp [Ze, hx]) rfl) rfl ?_))))))))
 refine Z8m rfl rfl (hg) rfl rfl (hp x hxm) ?_
 refine Z4 rfl ?_ ?_ <;> intro hc1
 refine sqt 2 rfl (pur 2 rfl (Z3 ?_))
 first | (exact rtA rfl rfl rfl ⟨by rw [Z18 hx hn hc1]; rfl, rfl, rfl⟩ idH) | (exact rtA rfl rfl rfl ⟨by rw [Z0I (by simpa using hn)]; rfl, rfl, rfl⟩ idH)
 refine Z2 (sqr 2 rfl (sp rfl (PE.add rfl rfl (by omega)) rfl (pur 1 rfl ?_)))
 exact Z0z ⟨k + 1, by omega, Z2y hx hn hc1⟩ idH
 simp only [cS] at hc0
 obtain rfl : k = xs.length := by omega
 refine Zm (Zt (Zt (ZU (sqt 1 rfl (pur 1 rfl (Z3 ?_))))))
 first | (exact rtA rfl rfl rfl ⟨by rw [Z18 hx hn hc1]; rfl, rfl, rfl⟩ idH) | (exact rtA rfl rfl rfl ⟨by rw [Z0I (by simpa using hn)]; rfl, rfl, rfl⟩ idH)
theorem Z5F (xs : List Fat) (a : Option Addr) (c g : Nat) (fst cap : List Value) (p : Fat → Bool) (hg : cal Try.prog g = true) (hl : xs.length ≤ 9223372036854775807) (H : Za) (R : Z8) [hR : MemRows a 4 (Ze xs) R] (hp : ∀ x, x ∈ xs → FnV Try.prog g (fst ++ [.agg (Z2O x).toArray] ++ cap) H R (.bool (p x))) :
    FnV Try.prog 70 [.slice a xs.length c, .func (.func g) fst.toArray cap.toArray] H R (.bool (xs.any p)) := by
 refine Zv Try.func70 rfl Try.ntmps70 rfl ?_
 refine sqt 1 rfl (pur 1 rfl (sqt 5 rfl (pur 2 rfl ?_)))
 refine clV rfl ZaZ rfl rfl (Z5K xs a c g fst cap p hg hl _ _ hp) ?_
 refine pur 2 rfl (Z3 ?_)
 exact rtA rfl rfl rfl ⟨by simp only [ZF]; exact Z4Q _ _, rfl, rfl⟩ drp
theorem Z5E (x : Fat) (g bf : Nat) (fst cap : List Value) (p : Bool) (hg : cal Try.prog g = true) (H : Za) (R : Z8) [hM : Mem1 bf (cel 108 [.func (.func g) fst.toArray cap.toArray]) H] (hp : ∀ b, FnV Try.prog g (fst ++ [.agg (Z2O x).toArray] ++ cap) ((b, cel 51 (Z2O x)) :: H) R (.bool p)) :
    FnV Try.prog 71 [.agg (Z2O x).toArray, .pointer (some ⟨bf, 0, none⟩)] H R (.bool !p) := by
 refine Zv Try.func71 rfl Try.ntmps71 rfl ?_
 refine sqt 2 rfl (bx rfl rfl rfl (fun b2 => pur 1 rfl (sqt 5 rfl (spL rfl rfl (lh Zay rfl rfl) rfl (spL rfl rfl (lhA [_, _, _, _] Za9 rfl rfl rfl) rfl ?_)))))
 refine Z8m rfl rfl (hg) rfl rfl (hp _) ?_
 refine pur 2 rfl (Z3 ?_)
 exact rtA rfl rfl rfl ⟨rfl, rfl, rfl⟩ drp
theorem Z46 (xs : List Fat) (a : Option Addr) (c g : Nat) (fst cap : List Value) (p : Fat → Bool) (hg : cal Try.prog g = true) (hl : xs.length ≤ 9223372036854775807) (H : Za) (R : Z8) [hR : MemRows a 4 (Ze xs) R] (hp : ∀ b b2 x, x ∈ xs → FnV Try.prog g (fst ++ [.agg (Z2O x).toArray] ++ cap) ((b2, cel 51 (Z2O x)) :: (b, cel 108 [.func (.func g) fst.toArray cap.toArray]) :: H) R (.bool (p x))) :
    FnV Try.prog 44 [.slice a xs.length c, .func (.func g) fst.toArray cap.toArray] H R (.bool (xs.all p)) := by
 refine Zv Try.func44 rfl Try.ntmps44 rfl ?_
 refine sqt 2 rfl (bx rfl rfl rfl (fun b3 => pur 1 rfl (sqt 5 rfl (pur 1 rfl (sp rfl (PE.makeFunc rfl rfl) rfl ?_)))))
 refine clV rfl ZaB rfl rfl (Z5F xs a c 71 [] [_] (fun x => !p x) ZaC hl _ _ (hp := fun x hx => Z5E x g _ fst cap (p x) hg _ _ (hp := fun b => hp _ _ x hx))) ?_
 refine pur 2 rfl (Z3 ?_)
 exact rtA rfl rfl rfl ⟨by simp only [ZF]; rw [Z1t], rfl, rfl⟩ drp
theorem Z9Q (t : Twn) (p : Fat) (sl : Value) (bq : Nat) (H : Za) (R : Z8) [hM : Mem1 bq (cel 27 (twl t sl)) H] :
    FnV Try.prog 45 [.agg (Z2O p).toArray, .pointer (some ⟨bq, 0, none⟩)] H R (.bool (p.1.right t && inb p.2 0 1000000)) := by
 refine Zv Try.func45 rfl Try.ntmps45 rfl ?_
 refine sqt 2 rfl (bx rfl rfl rfl (fun b2 => pur 1 rfl (sqt 10 rfl (spL rfl rfl (lhA [_, _, _, _, _, _, _, _, _, _, _] ZZ rfl rfl rfl) rfl (sp rfl (PE.fA Z0v rfl) rfl (spL rfl rfl (lhA [_, _, _] ZG rfl rfl rfl) rfl ?_))))))
 refine clV rfl Z93 rfl rfl (Z4B t p.1 _ _ _) ?_
 refine pur 1 rfl ?_
 refine Z0b 8 rfl ?_ ?_ <;> intro g8
 refine spG rfl rfl rfl rfl (PE.fA Z0y rfl) rfl ?_
 refine Z0K rfl rfl rfl rfl rfl (lh sc3 rfl rfl) rfl ?_
 refine Z1X rfl rfl rfl rfl Z0Y rfl rfl (Z45 _ _ _ _ _) ?_
 refine pur 2 rfl (Z3 ?_)
 exact rtA rfl rfl rfl ⟨by simp_all only [ZF, inb, Bool.true_and, Bool.false_and, cond_true, cond_false], rfl, rfl⟩ drp
 refine pur 5 rfl (Z3 ?_)
 exact rtA rfl rfl rfl ⟨by simp_all only [ZF, inb, Bool.true_and, Bool.false_and, cond_true, cond_false], rfl, rfl⟩ drp
theorem Z3D (t : Twn) (s : Sta) (most : Int) (l : List Fat) (kv : KV) (hkl : ∀ e ∈ kv, e.1.length = 3) (hkv : ∀ s : Sta, kv.get [s.stock, s.short, s.dry] = (Z1f l s).map (Value.int .i64)) (ba oa ca : Nat) (bt bw m : Nat) (y : List Int) (fs : Value) (hy : y.length = 496) (H : Za) (R : Z8) [hW : Mem1 bw (cel 92 (rcs t (t.sl (some ⟨ba, oa, none⟩) ca) bt y fs m)) H] [hM : Mem1 m (Z0o true kv) H] :
    FnV Try.prog 46 [.pointer (some ⟨bw, 0, none⟩), s.v, .int .i64 most] H R (.bool (Zd l s most)) := by
 refine Zv Try.func46 rfl Try.ntmps46 rfl ?_
 refine sqt 2 rfl (bx rfl rfl rfl (fun b4 => pur 1 rfl (Z0 ?_)))
 refine Z9 [0, 1, 3, 7, 0, 31, 63, 127, 127, 255, 1023] (tks 0 3 (.ld 3 (.ld 4 (.ld 5 (tks 6 5 .done))))) Zw (by kernel_rfl) ?_
 refine Zi 1 rfl (tk rfl (PE.nilCheck rfl) rfl (tk rfl (PE.fA Z43 rfl) rfl (ld rfl rfl (lh Z7b rfl (Z2B hy)) rfl (ld rfl rfl (lhA [_, _, _] ZG rfl rfl rfl) rfl ?_))))
 refine ldK rfl rfl rfl (Z0s kv [s.stock, s.short, s.dry] Z1x (KeyT.of Z1g Z1p) (Z15 zv3) rfl hkl true) rfl ?_
 rw [hkv s]
 refine Zi 5 rfl (sqt 7 rfl (pur 2 rfl ?_))
 refine Z0b 19 rfl ?_ ?_ <;> intro g19
 obtain ⟨n, hn⟩ := Option.isSome_iff_exists.1 (by simpa using g19)
 rw [hn]
 refine pur 5 rfl (Z3 ?_)
 exact rtA rfl rfl rfl ⟨by rw [ZK, hn]; rfl, rfl, rfl⟩ drp
 have hn : Z1f l s = none := by simpa using g19
 refine pur 5 rfl (Z3 ?_)
 exact rtA rfl rfl rfl ⟨by rw [ZK, hn]; rfl, rfl, rfl⟩ drp
theorem Z6B {kv : KV} {l : List Fat} (hkv : ∀ s : Sta, kv.get [s.stock, s.short, s.dry] = (Z1f l s).map (Value.int .i64)) {x : Fat} (h : Zd l x.1 x.2 = false) :
    ∀ s : Sta, (kv.put [x.1.stock, x.1.short, x.1.dry] (.int .i64 x.2)).get [s.stock, s.short, s.dry] = (Z1f (l ++ [x]) s).map (Value.int .i64) := fun s => by
  rw [KV.get_put, Z2G]
  unfold Z0D
  by_cases e : x.1 = s
  · subst e
    rw [ZK] at h
    simp only [decide_true, cond_true, Option.map_some]
    cases hm : Z1f l x.1 with
    | none => rfl
    | some n => rw [hm] at h; simp only [leO, decide_eq_false_iff_not] at h; simp only []; congr 2; omega
  · have : ¬ [x.1.stock, x.1.short, x.1.dry] = [s.stock, s.short, s.dry] := fun h => e (by
      simp only [List.cons.injEq, and_true] at h
      obtain ⟨⟨a, b, c⟩, d⟩ := x; obtain ⟨a', b', c'⟩ := s
      simp only [Sta.mk.injEq]; exact h)
    simp only [this, e, decide_false, cond_false]; exact hkv s
theorem Z6b {kv : KV} {l : List Fat} (hkv : ∀ s : Sta, kv.get [s.stock, s.short, s.dry] = (Z1f l s).map (Value.int .i64)) {x : Fat} (h : Zd l x.1 x.2 = true) :
    ∀ s : Sta, kv.get [s.stock, s.short, s.dry] = (Z1f (l ++ [x]) s).map (Value.int .i64) := fun s => by
  rw [hkv s, Z2G]
  unfold Z0D
  by_cases e : x.1 = s
  · subst e
    rw [ZK] at h
    cases hm : Z1f l x.1 with
    | none => rw [hm] at h; cases h
    | some n => rw [hm] at h; simp only [leO, decide_eq_true_eq] at h; simp only [decide_true, cond_true, Option.map_some]; congr 2; omega
  · simp [e]
theorem Z03 {α : Type} {l : List α} {k : Nat} {x : α} (h : l[k]? = some x) : l.take (k + 1) = l.take k ++ [x] := by rw [List.take_add_one, h]; rfl
theorem Z1L (t : Twn) (hl : t.rats.length ≤ 9223372036854775807) (l : List Fat) (a : Option Addr) (c : Nat) (hl2 : l.length ≤ 9223372036854775807) (ba oa ca : Nat) (H : Za) (R : Z8) [hR : MemRows (some ⟨ba, oa, none⟩) 2 (Zx t.rats) R] [hR2 : MemRows a 4 (Ze l) R] :
    FnV Try.prog 14 [t.v (t.sl (some ⟨ba, oa, none⟩) ca), .slice a l.length c] H R (.tuple #[.int .i64 (stR t l).1, .int .i64 (stR t l).2]) := by
 refine Zv Try.func14 rfl Try.ntmps14 rfl ?_
 refine sqt 3 rfl (bx rfl rfl rfl (fun b2 => pur 2 rfl (sqt 7 rfl (spL rfl rfl (lhA [_, _, _, _, _, _, _, _, _, _, _] ZZ rfl rfl rfl) rfl ?_))))
 refine cl rfl Z6h rfl rfl (Z1G t hl ba oa ca _ _) ?_
 rintro _ _ _ (⟨hck, rfl, rfl, rfl⟩ | ⟨hck, bw, m, bt, rfl, rfl, rfl⟩)
 refine pur 5 rfl (Z0 (Z7 (sqt 3 rfl (pur 3 rfl ?_))))
 refine Zp (congrArg (fun b => some (Value.bool b)) (dT hck)) ?_
 refine sqt 3 rfl (pur 3 rfl (Z3 ?_))
 exact Z5 (vs := [_, _]) rfl (.cons (RV.tmp rfl) (.cons (RV.tmp rfl) .nil)) (by rw [show stR t l = (0, t.check) from by simp [stR, hck]]; rfl) ⟨rfl, rfl, rfl⟩ drp
 have hok := (Zk hck).1
 refine pur 5 rfl (Z0 (Z7 (sqt 3 rfl (pur 3 rfl ?_))))
 refine Zo (rfl) ?_
 refine sqt 4 rfl (pur 1 rfl (sp rfl (PE.lenSl Z1u rfl) rfl (pur 2 rfl ?_)))
 refine Z4 rfl ?_ ?_ <;> intro hc1 <;> try simp only [cS] at hc1
 have hres := Z92 hck (l := l) (by omega)
 refine sqt 2 rfl (pur 2 rfl (Z3 ?_))
 first
   | exact Z5 (vs := [_, _]) rfl (.cons (RV.tmp rfl) (.cons (RV.tmp rfl) .nil)) (by rw [hres]; rfl) ⟨rfl, rfl, rfl⟩ drp
   | exact Z5 (vs := [_, _]) rfl (.cons (RV.tmp rfl) (.cons (RV.tmp rfl) .nil)) (by rw [show stR t l = (0, 8) from Z2e hck (by omega) hall (Z0g (pre := []) hx (List.all_eq_false.2 ⟨q, hqm, by rw [List.nil_append, hbad]; simp⟩))]; rfl) ⟨rfl, rfl, rfl⟩ drp
 refine sqt 5 rfl (pur 1 rfl (sp rfl (PE.makeFunc rfl rfl) rfl ?_))
 refine clV rfl ZaN rfl rfl (Z46 l a c 45 [] [_] (fun p => p.1.right t && inb p.2 0 1000000) Zap hl2 _ _ (fun _ _ x _ => Z9Q t x _ b2 _ _)) ?_
 refine pur 2 rfl ?_
 refine Z4 rfl ?_ ?_ <;> intro hc2
 have hres := Za6 hck (l := l) (by omega) (by rw [← Bool.not_eq_true']; exact hc2)
 refine sqt 2 rfl (pur 2 rfl (Z3 ?_))
 first
   | exact Z5 (vs := [_, _]) rfl (.cons (RV.tmp rfl) (.cons (RV.tmp rfl) .nil)) (by rw [hres]; rfl) ⟨rfl, rfl, rfl⟩ drp
   | exact Z5 (vs := [_, _]) rfl (.cons (RV.tmp rfl) (.cons (RV.tmp rfl) .nil)) (by rw [show stR t l = (0, 8) from Z2e hck (by omega) hall (Z0g (pre := []) hx (List.all_eq_false.2 ⟨q, hqm, by rw [List.nil_append, hbad]; simp⟩))]; rfl) ⟨rfl, rfl, rfl⟩ drp
 have hall : (l.all fun p => p.1.right t && inb p.2 0 1000000) = true := by rw [← Bool.not_eq_false']; exact hc2
 refine Z2 (Z0 (sqt 3 rfl (pur 1 rfl (sp rfl (PE.lenSl Z1u rfl) rfl (pur 1 rfl (Z7 ?_))))))
 refine Zy (ι := {x : Nat × KV // x.1 ≤ l.length ∧ ((∀ e ∈ x.2, e.1.length = 3) ∧ (∀ s : Sta, x.2.get [s.stock, s.short, s.dry] = (Z1f (l.take x.1) s).map (Value.int .i64))) ∧ Zq t [] (l.take x.1) = true}) (fun x => ⟨[(2, .pointer (some ⟨b2, 0, none⟩)), (6, .pointer (some ⟨bw, 0, none⟩)), (31, .slice a l.length c), (32, .int .i64 l.length), (33, .int .i64 x.1.1)], (m, Z0o true (x.1.2)) :: (bw, cel 92 (rcs t (t.sl (some ⟨ba, oa, none⟩) ca) bt (List.replicate 496 0) (.slice none 0 0) m)) :: (b2, cel 27 (twl t (t.sl (some ⟨ba, oa, none⟩) ca))) :: H, RowsA (some ⟨bt, 0, none⟩) 11 [twl t (t.sl (some ⟨ba, oa, none⟩) ca)] :: R⟩) (fun x => l.length - x.1.1) ⟨(0, []), by omega, ⟨by simp, fun s => rfl⟩, rfl⟩ ?_ (fun x => ?_)
 exact Z05 (fun w h => ((h.pull b2).pull bw).pull m)
 obtain ⟨⟨k, kv⟩, hk, ⟨hkl, hkv⟩, hfo⟩ := x
 dsimp only at hk hkl hkv hfo ⊢
 refine sqt 1 rfl (pur 1 rfl (Z0 ?_))
 refine Z4 rfl ?_ ?_ <;> intro hc3 <;> try simp only [cS] at hc3
 obtain ⟨x, hx⟩ : ∃ x, l[k]? = some x := ⟨_, List.getElem?_eq_getElem (by omega)⟩
 obtain ⟨hxr, hx0, hx1⟩ := Za3 hall (List.mem_of_getElem? hx)
 refine Z00 (a := a) (sz := 4) (rows := Ze l) (by intro h0; simp [Ze] at h0; simp [h0] at hx) (fun bf of he => ?_)
 subst he
 refine Z2 (Z0 (Z7 (sqt 4 rfl (sp rfl (PE.indexAddr Z9R rfl rfl (by omega) (by omega)) rfl (spL rfl rfl (lfA (row := Z2O x) Za9 (Z50 hx) rfl) rfl (alc rfl Z9u rfl (fun b9 => ?_)))))))
 refine sto rfl rfl rfl Zbk rfl rfl rfl rfl ?_
 refine Z0 (sqt 4 rfl (sp rfl (PE.fA ZJ rfl) rfl (spL rfl rfl (lh Z0Z rfl rfl) rfl (sp rfl (PE.lenSl Z2L rfl) rfl (pur 1 rfl (Z7 ?_))))))
 have hlen := hok.many
 refine Zy (ι := {j : Nat // j ≤ t.rats.length ∧ ∀ i q, i < j → t.rats[i]? = some q → (!(t.can x.1 q) || (Zd (l.take k) (t.next x.1 q false) x.2 || (decide (x.1.dry < t.run) && Zd (l.take k) (t.next x.1 q true) (x.2 - 1)))) = true}) (fun j => ⟨[(2, .pointer (some ⟨b2, 0, none⟩)), (6, .pointer (some ⟨bw, 0, none⟩)), (31, .slice (some ⟨bf, of, none⟩) l.length c), (32, .int .i64 l.length), (33, .int .i64 k), (9, .pointer (some ⟨b9, 0, none⟩)), (39, .int .i64 t.rats.length), (40, .int .i64 j.1)], (b9, cel 51 (Z2O x)) :: (m, Z0o true (kv)) :: (bw, cel 92 (rcs t (t.sl (some ⟨ba, oa, none⟩) ca) bt (List.replicate 496 0) (.slice none 0 0) m)) :: (b2, cel 27 (twl t (t.sl (some ⟨ba, oa, none⟩) ca))) :: H, RowsA (some ⟨bt, 0, none⟩) 11 [twl t (t.sl (some ⟨ba, oa, none⟩) ca)] :: R⟩) (fun j => t.rats.length - j.1) ⟨0, by omega, by omega⟩ ?_ (fun j => ?_)
 exact Z05 idH
 obtain ⟨j, hj, hno⟩ := j
 dsimp only
 refine sqt 1 rfl (pur 1 rfl (Z0 ?_))
 refine Z4 rfl ?_ ?_ <;> intro hc4 <;> try simp only [cS] at hc4
 obtain ⟨q, hq⟩ : ∃ q, t.rats[j]? = some q := ⟨_, List.getElem?_eq_getElem (by omega)⟩
 have hqm := List.mem_of_getElem? hq
 refine Z2 (Z0 (Z7 (sqt 2 rfl (pur 2 rfl (Z0 (Z0 ?_))))))
 refine Z9 [0, 0, 2, 0, 15, 31, 63, 127, 127, 127, 639, 127, 3967, 127, 8319, 32767, 65535] (.ld 0 (.tk 1 (.ld 2 (.tk 3 (.big 4 (tks 5 3 (.ld 8 (.tk 9 (.ld 10 (.tk 11 (.tk 13 (.ld 14 (.big 12 (.big 15 (.tk 16 .done))))))))))))))) Zw (by kernel_rfl) ?_
 refine ld rfl rfl (lhA [_, _, _, _, _, _, _, _, _, _, _] ZZ rfl rfl rfl) rfl (tk rfl (PE.fA Z0v rfl) rfl (ld rfl rfl (lhA [_, _, _] ZG rfl rfl rfl) rfl (Zi 1 rfl ?_)))
 refine clV rfl Z7s rfl rfl (Z1E t x.1 j q ba oa ca (by omega) (by simpa using hq) _ _) ?_
 refine bgT (Zi 2 rfl ?_)
 refine Z0b 49 rfl ?_ ?_ <;> intro g49
 have hcan : t.can x.1 q = false := by simpa using g49
 have hyes : (!(t.can x.1 q) || (Zd (l.take k) (t.next x.1 q false) x.2 || (decide (x.1.dry < t.run) && Zd (l.take k) (t.next x.1 q true) (x.2 - 1)))) = true := by rw [hcan]; rfl
 refine Zi 1 rfl ?_
 refine ldN rfl rfl rfl rfl rfl rfl rfl rfl ?_
 refine Zi 1 rfl ?_
 refine ldN rfl rfl rfl rfl rfl rfl rfl rfl ?_
 refine Zi 2 rfl ?_
 refine ldN rfl rfl rfl rfl rfl rfl rfl rfl ?_
 refine spN rfl rfl rfl rfl rfl rfl rfl rfl ?_
 refine bg (fun w hs => ⟨((fun _ _ => True.intro)) w hs, trivial, trivial, trivial⟩) ?_
 refine spN rfl rfl rfl rfl rfl rfl rfl rfl ?_
 refine bgT (Zi 1 rfl ?_)
 refine Zp rfl ?_
 refine Zm (Zt (ZU (sqr 2 rfl (sp rfl (PE.add rfl rfl (by omega)) rfl (pur 1 rfl ?_)))))
 exact Zc ⟨j + 1, by omega, fun i q' hi hq' => by
   rcases Nat.lt_or_ge i j with h1 | h1
   · exact hno i q' h1 hq'
   · obtain rfl : i = j := by omega
     rw [hq] at hq'; cases hq'; exact hyes⟩ (by dsimp only; omega) (by repeat' first | exact Sub.nil | apply Sub.cons | rfl | (simp [lk]; omega)) idH
 have hcan : t.can x.1 q = true := by simpa using g49
 refine Zi 1 rfl (ldG rfl rfl rfl rfl rfl (lhA [_, _, _, _, _, _, _, _, _, _, _] ZZ rfl rfl rfl) rfl ?_)
 refine tkG rfl rfl rfl rfl (PE.fA Z0v rfl) rfl ?_
 refine ldG rfl rfl rfl rfl rfl (lhA [_, _, _] ZG rfl rfl rfl) rfl (Zi 1 rfl ?_)
 refine tkG rfl rfl rfl rfl (PE.fA Z0y rfl) rfl ?_
 refine ldG rfl rfl rfl rfl rfl (lh sc3 rfl rfl) rfl ?_
 refine Z1X rfl rfl rfl rfl Z4t rfl rfl (Z2N t hok x.1 hxr j q false ba oa ca (by omega) (by simpa using hq) (Z36 hcan) _ _) ?_
 refine bg (fun w hs => ⟨(lh sc3 rfl rfl) w hs, trivial, trivial, trivial⟩) ?_
 refine Z1X rfl rfl rfl rfl Z8J rfl rfl (Z3D t (t.next x.1 q false) (x.2) (l.take k) kv hkl hkv ba oa ca bt bw m _ _ List.length_replicate _ _) ?_
 refine bgT (Zi 1 rfl ?_)
 refine Z4 rfl ?_ ?_ <;> intro hc5
 have hyes : (!(t.can x.1 q) || (Zd (l.take k) (t.next x.1 q false) x.2 || (decide (x.1.dry < t.run) && Zd (l.take k) (t.next x.1 q true) (x.2 - 1)))) = true := by rw [hc5]; simp
 refine Zm (Zt (ZU (sqr 2 rfl (sp rfl (PE.add rfl rfl (by omega)) rfl (pur 1 rfl ?_)))))
 exact Zc ⟨j + 1, by omega, fun i q' hi hq' => by
   rcases Nat.lt_or_ge i j with h1 | h1
   · exact hno i q' h1 hq'
   · obtain rfl : i = j := by omega
     rw [hq] at hq'; cases hq'; exact hyes⟩ (by dsimp only; omega) (by repeat' first | exact Sub.nil | apply Sub.cons | rfl | (simp [lk]; omega)) idH
 refine Z2 (Z0 ?_)
 refine Z9 [0, 1, 3, 7, 15, 0, 32, 127, 255, 511, 1023, 1023, 1023, 5119, 1023, 31743, 1023, 66559, 197631, 524287, 1048575, 2097151] (tks 0 4 (.ld 4 (.tk 5 (.ld 6 (.big 7 (tks 8 3 (.ld 11 (.tk 12 (.ld 13 (.tk 14 (.tk 16 (.ld 17 (.tk 18 (.big 15 (.big 19 (.tk 20 (.tk 21 .done))))))))))))))))) Zw (by kernel_rfl) ?_
 refine Zi 1 rfl (tk rfl (PE.nilCheck rfl) rfl (tk rfl (PE.fA Z4Z rfl) rfl (tk rfl (PE.fA Z52 rfl) rfl (ld rfl rfl (lh Zaa rfl rfl) rfl (tk rfl (PE.fA Z0v rfl) rfl (ld rfl rfl (lhA [_, _, _] ZG rfl rfl rfl) rfl ?_))))))
 refine Z8m rfl rfl (Z7y) rfl rfl (Z7d t x.1 ba oa ca bt _ _) ?_
 refine bgT (Zi 2 rfl ?_)
 refine Z0b 69 rfl ?_ ?_ <;> intro g69
 have hdry : decide (x.1.dry < t.run) = false := by simpa using g69
 have hbad : (!(t.can x.1 q) || (Zd (l.take k) (t.next x.1 q false) x.2 || (decide (x.1.dry < t.run) && Zd (l.take k) (t.next x.1 q true) (x.2 - 1)))) = false := by rw [hcan, hc5, hdry]; rfl
 refine Zi 1 rfl ?_
 refine ldN rfl rfl rfl rfl rfl rfl rfl rfl ?_
 refine Zi 1 rfl ?_
 refine ldN rfl rfl rfl rfl rfl rfl rfl rfl ?_
 refine Zi 2 rfl ?_
 refine ldN rfl rfl rfl rfl rfl rfl rfl rfl ?_
 refine Zi 1 rfl ?_
 refine spN rfl rfl rfl rfl rfl rfl rfl rfl ?_
 refine bg (fun w hs => ⟨((fun _ _ => True.intro)) w hs, trivial, trivial, trivial⟩) ?_
 refine spN rfl rfl rfl rfl rfl rfl rfl rfl ?_
 refine bgT (Zi 2 rfl ?_)
 refine Zp rfl ?_
 refine sqt 2 rfl (pur 2 rfl (Z3 ?_))
 first
   | exact Z5 (vs := [_, _]) rfl (.cons (RV.tmp rfl) (.cons (RV.tmp rfl) .nil)) (by rw [hres]; rfl) ⟨rfl, rfl, rfl⟩ drp
   | exact Z5 (vs := [_, _]) rfl (.cons (RV.tmp rfl) (.cons (RV.tmp rfl) .nil)) (by rw [show stR t l = (0, 8) from Z2e hck (by omega) hall (Z0g (pre := []) hx (List.all_eq_false.2 ⟨q, hqm, by rw [List.nil_append, hbad]; simp⟩))]; rfl) ⟨rfl, rfl, rfl⟩ drp
 have hdry : decide (x.1.dry < t.run) = true := by simpa using g69
 refine Zi 1 rfl (ldG rfl rfl rfl rfl rfl (lhA [_, _, _, _, _, _, _, _, _, _, _] ZZ rfl rfl rfl) rfl ?_)
 refine tkG rfl rfl rfl rfl (PE.fA Z0v rfl) rfl ?_
 refine ldG rfl rfl rfl rfl rfl (lhA [_, _, _] ZG rfl rfl rfl) rfl (Zi 1 rfl ?_)
 refine tkG rfl rfl rfl rfl (PE.fA Z0y rfl) rfl ?_
 refine ldG rfl rfl rfl rfl rfl (lh sc3 rfl rfl) rfl ?_
 refine tkG rfl rfl rfl rfl (PE.sub rfl rfl (by omega)) rfl ?_
 refine Z1X rfl rfl rfl rfl Z4t rfl rfl (Z2N t hok x.1 hxr j q true ba oa ca (by omega) (by simpa using hq) (Z36 hcan) _ _) ?_
 refine bg (fun w hs => ⟨(lh sc3 rfl rfl) w hs, trivial, trivial, trivial⟩) ?_
 refine Z1X rfl rfl rfl rfl Z8J rfl rfl (Z3D t (t.next x.1 q true) (x.2 - 1) (l.take k) kv hkl hkv ba oa ca bt bw m _ _ List.length_replicate _ _) ?_
 refine bgT (Zi 2 rfl ?_)
 refine Z4 rfl ?_ ?_ <;> intro hc6
 have hb2 : Zd (l.take k) (t.next x.1 q true) (x.2 - 1) = false := by simpa using hc6
 have hbad : (!(t.can x.1 q) || (Zd (l.take k) (t.next x.1 q false) x.2 || (decide (x.1.dry < t.run) && Zd (l.take k) (t.next x.1 q true) (x.2 - 1)))) = false := by rw [hcan, hc5, hb2]; simp
 refine sqt 2 rfl (pur 2 rfl (Z3 ?_))
 first
   | exact Z5 (vs := [_, _]) rfl (.cons (RV.tmp rfl) (.cons (RV.tmp rfl) .nil)) (by rw [hres]; rfl) ⟨rfl, rfl, rfl⟩ drp
   | exact Z5 (vs := [_, _]) rfl (.cons (RV.tmp rfl) (.cons (RV.tmp rfl) .nil)) (by rw [show stR t l = (0, 8) from Z2e hck (by omega) hall (Z0g (pre := []) hx (List.all_eq_false.2 ⟨q, hqm, by rw [List.nil_append, hbad]; simp⟩))]; rfl) ⟨rfl, rfl, rfl⟩ drp
 have hb2 : Zd (l.take k) (t.next x.1 q true) (x.2 - 1) = true := by simpa using hc6
 have hyes : (!(t.can x.1 q) || (Zd (l.take k) (t.next x.1 q false) x.2 || (decide (x.1.dry < t.run) && Zd (l.take k) (t.next x.1 q true) (x.2 - 1)))) = true := by rw [hdry, hb2]; simp
 refine Z2 (sqr 2 rfl (sp rfl (PE.add rfl rfl (by omega)) rfl (pur 1 rfl ?_)))
 exact Zc ⟨j + 1, by omega, fun i q' hi hq' => by
   rcases Nat.lt_or_ge i j with h1 | h1
   · exact hno i q' h1 hq'
   · obtain rfl : i = j := by omega
     rw [hq] at hq'; cases hq'; exact hyes⟩ (by dsimp only; omega) (by repeat' first | exact Sub.nil | apply Sub.cons | rfl | (simp [lk]; omega)) idH
 obtain rfl : j = t.rats.length := by omega
 have hfx : Z2I t (l.take k) x = true := List.all_eq_true.2 fun q hq => by
   obtain ⟨i, hi⟩ := List.getElem?_of_mem hq
   exact hno i q (List.getElem?_eq_some_iff.1 hi).1 hi
 refine Zm (Zt (Zt (ZU (sqt 7 rfl (pur 1 rfl (sp rfl (PE.fA Z0v rfl) rfl (spL rfl rfl (lhA [_, _, _] ZG rfl rfl rfl) rfl (sp rfl (PE.fA Z0y rfl) rfl (spL rfl rfl (lh sc3 rfl rfl) rfl ?_)))))))))
 refine clV rfl Z8J rfl rfl (Z3D t (x.1) (x.2) (l.take k) kv hkl hkv ba oa ca bt bw m _ _ List.length_replicate _ _) ?_
 refine pur 1 rfl ?_
 refine Z4 rfl ?_ ?_ <;> intro hc7
 have hd : Zd (l.take k) x.1 x.2 = false := by simpa using hc7
 have hkn := Z6B hkv hd
 refine Z9 [0, 1, 3, 7, 0, 16, 0, 64, 255] (tks 0 3 (.ld 3 (.tk 4 (.ld 5 (.tk 6 (.ld 7 (.big 8 .done))))))) Zw (by kernel_rfl) ?_
 refine Zi 1 rfl (tk rfl (PE.nilCheck rfl) rfl (tk rfl (PE.fA Z43 rfl) rfl (ld rfl rfl (lh Z7b rfl (Z2B List.length_replicate)) rfl (tk rfl (PE.fA Z0v rfl) rfl (ld rfl rfl (lhA [_, _, _] ZG rfl rfl rfl) rfl (tk rfl (PE.fA Z0y rfl) rfl (ld rfl rfl (lh sc3 rfl rfl) rfl ?_)))))))
 refine mpu kv [x.1.stock, x.1.short, x.1.dry] rfl Z1x (KeyT.of Z1g Z1p) rfl rfl rfl rfl hkl ?_
 refine bgT (sqr 2 rfl (sp rfl (PE.add rfl rfl (by omega)) rfl (pur 1 rfl ?_)))
 first
   | exact ZQ ⟨(k + 1, _), by omega, ⟨fun e he => (KV.put_mem he).elim (fun h => by rw [h]; rfl) (hkl e), by dsimp only; rw [Z03 hx]; exact hkn⟩, ZO hx hfo hfx⟩ (by dsimp only; omega) (fun w h => h.del b9)
   | exact ZQ ⟨(k + 1, kv), by omega, ⟨hkl, by dsimp only; rw [Z03 hx]; exact hkn⟩, ZO hx hfo hfx⟩ (by dsimp only; omega) (fun w h => h.del b9)
 have hd : Zd (l.take k) x.1 x.2 = true := by simpa using hc7
 have hkn := Z6b hkv hd
 refine Z2 (sqr 2 rfl (sp rfl (PE.add rfl rfl (by omega)) rfl (pur 1 rfl ?_)))
 first
   | exact ZQ ⟨(k + 1, _), by omega, ⟨fun e he => (KV.put_mem he).elim (fun h => by rw [h]; rfl) (hkl e), by dsimp only; rw [Z03 hx]; exact hkn⟩, ZO hx hfo hfx⟩ (by dsimp only; omega) (fun w h => h.del b9)
   | exact ZQ ⟨(k + 1, kv), by omega, ⟨hkl, by dsimp only; rw [Z03 hx]; exact hkn⟩, ZO hx hfo hfx⟩ (by dsimp only; omega) (fun w h => h.del b9)
 obtain rfl : k = l.length := by omega
 rw [List.take_length] at hfo hkv
 have hst := Z6s hck (by omega) hall hfo
 refine Zm (Zt (Zt (ZU (Z0 ?_))))
 refine Z9 [0, 1, 3, 7, 0, 16, 63, 127, 255, 255, 511, 2047] (tks 0 3 (.ld 3 (.tk 4 (.ld 5 (.ld 6 (tks 7 5 .done)))))) Zw (by kernel_rfl) ?_
 refine Zi 1 rfl (tk rfl (PE.nilCheck rfl) rfl (tk rfl (PE.fA Z43 rfl) rfl (ld rfl rfl (lh Z7b rfl (Z2B List.length_replicate)) rfl (tk rfl (PE.fA Z0d rfl) rfl (ld rfl rfl (lhA [_, _, _] ZG rfl rfl rfl) rfl ?_)))))
 refine ldK rfl rfl rfl (Z0s kv [t.now.stock, t.now.short, t.now.dry] Z1x (KeyT.of Z1g Z1p) (Z15 zv3) rfl hkl true) rfl ?_
 rw [hkv t.now]
 refine Zi 5 rfl (Z0 (sqt 2 rfl (pur 2 rfl ?_)))
 refine Z4 rfl ?_ ?_ <;> intro hc8
 have hm : Z1f l t.now = none := by simpa using hc8
 have hres : stR t l = (0, 6) := by rw [hst, hm]
 refine sqt 2 rfl (pur 2 rfl (Z3 ?_))
 first
   | exact Z5 (vs := [_, _]) rfl (.cons (RV.tmp rfl) (.cons (RV.tmp rfl) .nil)) (by rw [hres]; rfl) ⟨rfl, rfl, rfl⟩ drp
   | exact Z5 (vs := [_, _]) rfl (.cons (RV.tmp rfl) (.cons (RV.tmp rfl) .nil)) (by rw [show stR t l = (0, 8) from Z2e hck (by omega) hall (Z0g (pre := []) hx (List.all_eq_false.2 ⟨q, hqm, by rw [List.nil_append, hbad]; simp⟩))]; rfl) ⟨rfl, rfl, rfl⟩ drp
 obtain ⟨n, hm⟩ : ∃ n, Z1f l t.now = some n := Option.isSome_iff_exists.1 (by simpa using hc8)
 have hres : stR t l = (n, 0) := by rw [hst, hm]
 rw [hm]
 refine Z2 (sqt 3 rfl (pur 3 rfl (Z3 ?_)))
 first
   | exact Z5 (vs := [_, _]) rfl (.cons (RV.tmp rfl) (.cons (RV.tmp rfl) .nil)) (by rw [hres]; rfl) ⟨rfl, rfl, rfl⟩ drp
   | exact Z5 (vs := [_, _]) rfl (.cons (RV.tmp rfl) (.cons (RV.tmp rfl) .nil)) (by rw [show stR t l = (0, 8) from Z2e hck (by omega) hall (Z0g (pre := []) hx (List.all_eq_false.2 ⟨q, hqm, by rw [List.nil_append, hbad]; simp⟩))]; rfl) ⟨rfl, rfl, rfl⟩ drp
theorem Z9r : cal Try.prog 16 = true := by kernel_rfl
theorem Z8n (s u : Sta) : decide (s = u) = decide ([s.stock, s.short, s.dry] = [u.stock, u.short, u.dry]) := by
  obtain ⟨a, b, c⟩ := s
  obtain ⟨a', b', c'⟩ := u
  rw [Bool.eq_iff_iff]
  simp
theorem Z27 (xs : List Fat) (a : Option Addr) (c : Nat) (hl : xs.length ≤ 1000000) (H : Za) (R : Z8) [hR : MemRows a 4 (Ze xs) R] :
    Fn Try.prog 16 [.slice a xs.length c] H R (fun v H' R' => ∃ o : OSl 51 4 (Ze xs), v = o.fs ∧ H' = o.G ++ H ∧ R' = R) := by
 refine Zv Try.func16 rfl Try.ntmps16 rfl ?_
 refine sqt 1 rfl (pur 1 rfl (Z0 (sqt 2 rfl (pur 1 rfl (sp rfl (PE.eqlNil Z1u rfl rfl) rfl ?_)))))
 refine Z4 rfl ?_ ?_ <;> intro hc0
 refine Sy.pre (fun w h => Z5l (h.now hR.mem) hc0) (fun hnil => ?_)
 obtain rfl : xs = [] := by simpa [Ze] using hnil
 refine sqt 1 rfl (pur 1 rfl (Z3 ?_))
 first
   | exact rtA rfl rfl rfl ⟨o2.cast (by simp), rfl, rfl, rfl⟩ idH
   | exact rtA rfl rfl rfl ⟨OSl.nil _ _, rfl, rfl, rfl⟩ idH
 refine Z2 (sqt 4 rfl ?_)
 refine Zai rfl Z8o rfl (fun o5 ho5 => ?_)
 refine pur 1 rfl ?_
 refine Zbg (news := Ze xs) o5 rfl Zb9 rfl rfl (Z9A) (by simp [Ze]) (by simp [Z1c, Ze, Z2O, Value.oneCell']) ⟨by simp [Ze]; omega, by simp [Ze]; omega⟩ rfl ho5 (fun o2 ho2 => ?_)
 refine pur 1 rfl (Z3 ?_)
 first
   | exact rtA rfl rfl rfl ⟨o2.cast (by simp), rfl, rfl, rfl⟩ idH
   | exact rtA rfl rfl rfl ⟨OSl.nil _ _, rfl, rfl, rfl⟩ idH
theorem Z8j {s : Sta} : ∀ (l : List Fat) (kv : KV) (o : Option Int), (kv.get [s.stock, s.short, s.dry]).isSome = o.isSome → ((l.foldl (fun (kv : KV) p => kv.put [p.1.stock, p.1.short, p.1.dry] (.int .i64 p.2)) kv).get [s.stock, s.short, s.dry]).isSome = (l.foldl (Z0D s) o).isSome
  | [], _, _, h => h
  | p :: l, kv, o, h => by
    refine Z8j l _ (Z0D s o p) ?_
    rw [KV.get_put]
    unfold Z0D
    rw [Z8n]
    cases decide ([p.1.stock, p.1.short, p.1.dry] = [s.stock, s.short, s.dry]) with
    | true => rfl
    | false => exact h
theorem Z7Z (l : List Fat) (s : Sta) : ((Z24 l).get [s.stock, s.short, s.dry]).isSome = (Z1f l s).isSome := Z8j l [] none rfl
theorem Z7z {t : Twn} (ht : t.ok) {σ : Sv} (h : Z3a t σ) {s : Sta} (hs : s.right t = true) : (Z1f σ.fl s).isSome = !decide (lat (LY t) s = 1000000) := by
  rw [(Z4D ht h).1.at_ s hs, ← (Z0N ht h).same ht s hs]
  unfold Z1W
  cases decide (lat σ.y s = 1000000) <;> rfl
theorem Z1i : cal Try.prog 19 = true := by kernel_rfl
theorem Zb1 : cal Try.prog 48 = true := by kernel_rfl
theorem Zaq : Z0E Try.prog 78 = some 1 := by kernel_rfl
theorem ZbA : elN Try.prog 22 = some 1 := by kernel_rfl
theorem Z5i : Z1j Try.prog 80 0 = some 0 := by kernel_rfl
theorem Z2t : Z1j Try.prog 80 1 = some 1 := by kernel_rfl
theorem Z0x : Z1j Try.prog 80 2 = some 2 := by kernel_rfl
theorem ik3 : Z9j Try.prog 3 = some .i64 := by kernel_rfl
theorem Zbc : Z9j Try.prog 78 = some .u32 := by kernel_rfl
theorem Z7L : Z6l Try.prog 22 = true := by kernel_rfl
theorem Zbz : Z0W Try.prog 80 = some [(0, 1), (1, 1), (2, 1)] := by kernel_rfl
theorem Zae : Z2m Try.prog 22 = true := by kernel_rfl
theorem sc5 : Z2m Try.prog 5 = true := by kernel_rfl
theorem Z6x : Z2m Try.prog 78 = true := by kernel_rfl
theorem us3 : (Try.prog.underlying 3).isSome = true := by kernel_rfl
theorem us5 : (Try.prog.underlying 5).isSome = true := by kernel_rfl
theorem Zac : (Try.prog.underlying 78).isSome = true := by kernel_rfl
theorem Zbr : Z08 Try.prog 80 = some ([.slice none 0 0, .int .i64 0, .int .u32 0]) := by kernel_rfl
def urow (x : Int) : List Value := [.int .u8 x]
def Z2S (l : List Int) : List (List Value) := l.map urow
theorem Z8k (g : List Int) (ag : Option Addr) (cg : Nat) (hgl : g.length ≤ 9223372036854775807) (H : Za) (R : Z8) :
    Fn Try.prog 6 [.slice ag g.length cg] H R (fun v H' R' => ∃ bk, ∃ mx : Int, (0 ≤ mx ∧ mx ≤ 4294967295) ∧ v = .pointer (some ⟨bk, 0, none⟩) ∧ H' = (bk, cel 80 [.slice ag g.length cg, .int .i64 (0), .int .u32 (mx)]) :: H ∧ R' = R) := by
 refine Zv Try.func6 rfl Try.ntmps6 rfl ?_
 refine sqt 1 rfl (pur 1 rfl (sqt 8 rfl (pur 2 rfl (sp rfl (PE.lenSl Z7L rfl) rfl ?_))))
 refine spE rfl (PE.convU us3 Zbc rfl) rfl ?_
 rintro _ ⟨u6, rfl, hu6⟩
 refine spE rfl (PE.xorU rfl rfl) rfl ?_
 rintro _ ⟨u7, rfl, hu7⟩
 refine sp rfl (PE.build (out := [_, _, _]) Zbz Zbr rfl rfl) rfl (bx rfl rfl rfl (fun b9 => pur 1 rfl (Z3 ?_)))
 exact rtA rfl rfl rfl ⟨b9, u7, hu7, rfl, rfl, rfl⟩ idH
theorem Z70 (g : List Int) (ag : Option Addr) (cg bk : Nat) (hgl : g.length ≤ 9223372036854775807) (tq mx : Int) (htq : 0 ≤ tq ∧ tq ≤ 1000000000) (hmx : 0 ≤ mx ∧ mx ≤ 4294967295) (H : Za) (R : Z8) [hG : MemRows ag 1 (Z2S g) R] :
    Fn Try.prog 48 [.pointer (some ⟨bk, 0, none⟩)] ((bk, cel 80 [.slice ag g.length cg, .int .i64 (tq), .int .u32 (mx)]) :: H) R (fun v H' R' => ∃ x m' : Int, (0 ≤ x ∧ x ≤ 65535) ∧ v = .int .i64 x ∧ (0 ≤ m' ∧ m' ≤ 4294967295) ∧ H' = (bk, cel 80 [.slice ag g.length cg, .int .i64 (tq + 1), .int .u32 (m')]) :: H ∧ R' = R) := by
 refine Zv Try.func48 rfl Try.ntmps48 rfl ?_
 refine sqt 1 rfl (pur 1 rfl (Z0 (sqt 6 rfl (pur 1 rfl (sp rfl (PE.nilCheck rfl) rfl (sp rfl (PE.fA Z5i rfl) rfl (spL rfl rfl (lh Zae rfl rfl) rfl (sp rfl (PE.lenSl Z7L rfl) rfl (pur 1 rfl (sqt 2 rfl (pur 2 rfl ?_)))))))))))
 refine Z4 rfl ?_ ?_ <;> intro hc0 <;> try simp only [cS] at hc0
 obtain ⟨y, hy⟩ : ∃ y, g[(tq % g.length).toNat]? = some y := ⟨_, List.getElem?_eq_getElem (by have := Int.emod_lt_of_pos tq hc0; have := Int.emod_nonneg tq (show (g.length : Int) ≠ 0 by omega); omega)⟩
 refine Z00 (a := ag) (sz := 1) (rows := Z2S g) (by intro h0; simp [Z2S] at h0; simp [h0] at hy) (fun bgr ogr he => ?_)
 subst he
 refine Z9 [0, 0, 2, 6, 14, 0, 32, 96, 224, 0, 512, 1536, 3584, 0, 15872, 32736, 65504, 131040, 262142, 524286, 1048575, 2097151, 4194303] (tks 0 4 (.ld 4 (tks 5 3 (.ld 8 (tks 9 3 (.ld 12 (tks 13 3 (.ld 16 (tks 17 5 (.big 22 .done)))))))))) Zw (by kernel_rfl) ?_
 refine Zi 2 rfl (tk rfl (PE.nilCheck rfl) rfl (tk rfl (PE.fA Z0x rfl) rfl (ld rfl rfl (lh Z6x rfl rfl) rfl (Zi 1 rfl (tk rfl (PE.nilCheck rfl) rfl (tk rfl (PE.fA Z5i rfl) rfl (ld rfl rfl (lh Zae rfl rfl) rfl (Zi 1 rfl (tk rfl (PE.nilCheck rfl) rfl (tk rfl (PE.fA Z2t rfl) rfl (ld rfl rfl (lh sc3 rfl rfl) rfl (Zi 1 rfl (tk rfl (PE.rem rfl rfl (by omega)) rfl (tk rfl (PE.indexAddr ZbA rfl rfl (by exact Int.emod_nonneg tq (by omega)) (by exact Int.emod_lt_of_pos tq hc0)) rfl (ld rfl rfl (lf0 (x := .int .u8 y) sc5 (by simp [Z2S, urow, hy]; rfl) rfl) rfl ?_)))))))))))))))
 refine tkE rfl (PE.convU us5 Zbc rfl) rfl ?_
 rintro _ ⟨u28, rfl, hu28⟩
 refine tkE rfl (PE.xorU rfl rfl) rfl ?_
 rintro _ ⟨u29, rfl, hu29⟩
 refine tkE rfl (PE.mulU rfl rfl) rfl ?_
 rintro _ ⟨u30, rfl, hu30⟩
 refine tk rfl (PE.nilCheck rfl) rfl (tk rfl (PE.fA Z0x rfl) rfl ?_)
 refine sto rfl rfl rfl Zaq rfl rfl rfl rfl ?_
 refine bgT (sqt 8 rfl (pur 1 rfl (sp rfl (PE.nilCheck rfl) rfl (sp rfl (PE.fA Z2t rfl) rfl (spL rfl rfl (lh sc3 rfl rfl) rfl (sp rfl (PE.add rfl rfl (by omega)) rfl (sp rfl (PE.nilCheck rfl) rfl (sp rfl (PE.fA Z2t rfl) rfl ?_))))))))
 refine sto rfl rfl rfl cn3 rfl rfl rfl rfl ?_
 refine Z0 (Z0 ?_)
 refine Z9 [0, 1, 3, 7, 0, 16, 48, 112, 240, 511] (tks 0 3 (.ld 3 (tks 4 3 (.ld 7 (.tk 8 (.tk 9 .done)))))) Zw (by kernel_rfl) ?_
 refine Zi 1 rfl (tk rfl (PE.nilCheck rfl) rfl (tk rfl (PE.fA Z2t rfl) rfl (ld rfl rfl (lh sc3 rfl rfl) rfl (Zi 1 rfl (tk rfl (PE.nilCheck rfl) rfl (tk rfl (PE.fA Z5i rfl) rfl (ld rfl rfl (lh Zae rfl rfl) rfl (tk rfl (PE.lenSl Z7L rfl) rfl (Zi 1 rfl ?_)))))))))
 refine Z4 rfl ?_ ?_ <;> intro hc1 <;> try simp only [cS] at hc1
 refine sqr 10 rfl (pur 2 rfl (sp rfl (PE.nilCheck rfl) rfl (sp rfl (PE.fA Z0x rfl) rfl (spL rfl rfl (lh Z6x rfl rfl) rfl ?_))))
 refine spE rfl (PE.mulU rfl rfl) rfl ?_
 rintro _ ⟨u55, rfl, hu55⟩
 refine spE rfl (PE.addU rfl rfl) rfl ?_
 rintro _ ⟨u56, rfl, hu56⟩
 refine sp rfl (PE.nilCheck rfl) rfl (sp rfl (PE.fA Z0x rfl) rfl ?_)
 refine sto rfl rfl rfl Zaq rfl rfl rfl rfl ?_
 refine Z0 ?_
 refine Z9 [0, 1, 3, 7, 0, 16, 48, 112, 240, 511, 1023, 2047, 4095, 8191] (tks 0 3 (.ld 3 (tks 4 3 (.ld 7 (tks 8 6 .done))))) Zw (by kernel_rfl) ?_
 refine Zi 1 rfl (tk rfl (PE.nilCheck rfl) rfl (tk rfl (PE.fA Z0x rfl) rfl (ld rfl rfl (lh Z6x rfl rfl) rfl (Zi 1 rfl (tk rfl (PE.nilCheck rfl) rfl (tk rfl (PE.fA Z0x rfl) rfl (ld rfl rfl (lh Z6x rfl rfl) rfl ?_)))))))
 refine tkE rfl (PE.shrU rfl rfl (by decide) (by omega) (by omega)) rfl ?_
 rintro _ ⟨u67, rfl, hu67⟩
 refine tkE rfl (PE.xorU rfl rfl) rfl ?_
 rintro _ ⟨u68, rfl, hu68⟩
 refine tkE rfl (PE.shrU rfl rfl (by decide) (by omega) (by omega)) rfl ?_
 rintro _ ⟨u69, rfl, hu69⟩
 refine tkE rfl (PE.andU rfl rfl (by decide) (by decide)) rfl ?_
 rintro _ ⟨u70, rfl, hu70⟩
 refine tk rfl (PE.conv64 Zac ik3 rfl (by omega)) rfl (Zi 1 rfl (Z3 ?_))
 first
   | exact rtA rfl rfl rfl ⟨u70, _, hu70, rfl, hu56, rfl, rfl⟩ idH
   | exact rtA rfl rfl rfl ⟨u70, _, hu70, rfl, hu30, rfl, rfl⟩ idH
   | exact rtA rfl rfl rfl ⟨u70, _, hu70, rfl, hmx, rfl, rfl⟩ idH
 refine Z2 (Z0 ?_)
 refine Z9 [0, 1, 3, 7, 0, 16, 48, 112, 240, 511, 1023, 2047, 4095, 8191] (tks 0 3 (.ld 3 (tks 4 3 (.ld 7 (tks 8 6 .done))))) Zw (by kernel_rfl) ?_
 refine Zi 1 rfl (tk rfl (PE.nilCheck rfl) rfl (tk rfl (PE.fA Z0x rfl) rfl (ld rfl rfl (lh Z6x rfl rfl) rfl (Zi 1 rfl (tk rfl (PE.nilCheck rfl) rfl (tk rfl (PE.fA Z0x rfl) rfl (ld rfl rfl (lh Z6x rfl rfl) rfl ?_)))))))
 refine tkE rfl (PE.shrU rfl rfl (by decide) (by omega) (by omega)) rfl ?_
 rintro _ ⟨u67, rfl, hu67⟩
 refine tkE rfl (PE.xorU rfl rfl) rfl ?_
 rintro _ ⟨u68, rfl, hu68⟩
 refine tkE rfl (PE.shrU rfl rfl (by decide) (by omega) (by omega)) rfl ?_
 rintro _ ⟨u69, rfl, hu69⟩
 refine tkE rfl (PE.andU rfl rfl (by decide) (by decide)) rfl ?_
 rintro _ ⟨u70, rfl, hu70⟩
 refine tk rfl (PE.conv64 Zac ik3 rfl (by omega)) rfl (Zi 1 rfl (Z3 ?_))
 first
   | exact rtA rfl rfl rfl ⟨u70, _, hu70, rfl, hu56, rfl, rfl⟩ idH
   | exact rtA rfl rfl rfl ⟨u70, _, hu70, rfl, hu30, rfl, rfl⟩ idH
   | exact rtA rfl rfl rfl ⟨u70, _, hu70, rfl, hmx, rfl, rfl⟩ idH
 refine Z2 (sqt 8 rfl (pur 1 rfl (sp rfl (PE.nilCheck rfl) rfl (sp rfl (PE.fA Z2t rfl) rfl (spL rfl rfl (lh sc3 rfl rfl) rfl (sp rfl (PE.add rfl rfl (by omega)) rfl (sp rfl (PE.nilCheck rfl) rfl (sp rfl (PE.fA Z2t rfl) rfl ?_))))))))
 refine sto rfl rfl rfl cn3 rfl rfl rfl rfl ?_
 refine Z0 (Z0 ?_)
 refine Z9 [0, 1, 3, 7, 0, 16, 48, 112, 240, 511] (tks 0 3 (.ld 3 (tks 4 3 (.ld 7 (.tk 8 (.tk 9 .done)))))) Zw (by kernel_rfl) ?_
 refine Zi 1 rfl (tk rfl (PE.nilCheck rfl) rfl (tk rfl (PE.fA Z2t rfl) rfl (ld rfl rfl (lh sc3 rfl rfl) rfl (Zi 1 rfl (tk rfl (PE.nilCheck rfl) rfl (tk rfl (PE.fA Z5i rfl) rfl (ld rfl rfl (lh Zae rfl rfl) rfl (tk rfl (PE.lenSl Z7L rfl) rfl (Zi 1 rfl ?_)))))))))
 refine Z4 rfl ?_ ?_ <;> intro hc1 <;> try simp only [cS] at hc1
 refine sqr 10 rfl (pur 2 rfl (sp rfl (PE.nilCheck rfl) rfl (sp rfl (PE.fA Z0x rfl) rfl (spL rfl rfl (lh Z6x rfl rfl) rfl ?_))))
 refine spE rfl (PE.mulU rfl rfl) rfl ?_
 rintro _ ⟨u55, rfl, hu55⟩
 refine spE rfl (PE.addU rfl rfl) rfl ?_
 rintro _ ⟨u56, rfl, hu56⟩
 refine sp rfl (PE.nilCheck rfl) rfl (sp rfl (PE.fA Z0x rfl) rfl ?_)
 refine sto rfl rfl rfl Zaq rfl rfl rfl rfl ?_
 refine Z0 ?_
 refine Z9 [0, 1, 3, 7, 0, 16, 48, 112, 240, 511, 1023, 2047, 4095, 8191] (tks 0 3 (.ld 3 (tks 4 3 (.ld 7 (tks 8 6 .done))))) Zw (by kernel_rfl) ?_
 refine Zi 1 rfl (tk rfl (PE.nilCheck rfl) rfl (tk rfl (PE.fA Z0x rfl) rfl (ld rfl rfl (lh Z6x rfl rfl) rfl (Zi 1 rfl (tk rfl (PE.nilCheck rfl) rfl (tk rfl (PE.fA Z0x rfl) rfl (ld rfl rfl (lh Z6x rfl rfl) rfl ?_)))))))
 refine tkE rfl (PE.shrU rfl rfl (by decide) (by omega) (by omega)) rfl ?_
 rintro _ ⟨u67, rfl, hu67⟩
 refine tkE rfl (PE.xorU rfl rfl) rfl ?_
 rintro _ ⟨u68, rfl, hu68⟩
 refine tkE rfl (PE.shrU rfl rfl (by decide) (by omega) (by omega)) rfl ?_
 rintro _ ⟨u69, rfl, hu69⟩
 refine tkE rfl (PE.andU rfl rfl (by decide) (by decide)) rfl ?_
 rintro _ ⟨u70, rfl, hu70⟩
 refine tk rfl (PE.conv64 Zac ik3 rfl (by omega)) rfl (Zi 1 rfl (Z3 ?_))
 first
   | exact rtA rfl rfl rfl ⟨u70, _, hu70, rfl, hu56, rfl, rfl⟩ idH
   | exact rtA rfl rfl rfl ⟨u70, _, hu70, rfl, hu30, rfl, rfl⟩ idH
   | exact rtA rfl rfl rfl ⟨u70, _, hu70, rfl, hmx, rfl, rfl⟩ idH
 refine Z2 (Z0 ?_)
 refine Z9 [0, 1, 3, 7, 0, 16, 48, 112, 240, 511, 1023, 2047, 4095, 8191] (tks 0 3 (.ld 3 (tks 4 3 (.ld 7 (tks 8 6 .done))))) Zw (by kernel_rfl) ?_
 refine Zi 1 rfl (tk rfl (PE.nilCheck rfl) rfl (tk rfl (PE.fA Z0x rfl) rfl (ld rfl rfl (lh Z6x rfl rfl) rfl (Zi 1 rfl (tk rfl (PE.nilCheck rfl) rfl (tk rfl (PE.fA Z0x rfl) rfl (ld rfl rfl (lh Z6x rfl rfl) rfl ?_)))))))
 refine tkE rfl (PE.shrU rfl rfl (by decide) (by omega) (by omega)) rfl ?_
 rintro _ ⟨u67, rfl, hu67⟩
 refine tkE rfl (PE.xorU rfl rfl) rfl ?_
 rintro _ ⟨u68, rfl, hu68⟩
 refine tkE rfl (PE.shrU rfl rfl (by decide) (by omega) (by omega)) rfl ?_
 rintro _ ⟨u69, rfl, hu69⟩
 refine tkE rfl (PE.andU rfl rfl (by decide) (by decide)) rfl ?_
 rintro _ ⟨u70, rfl, hu70⟩
 refine tk rfl (PE.conv64 Zac ik3 rfl (by omega)) rfl (Zi 1 rfl (Z3 ?_))
 first
   | exact rtA rfl rfl rfl ⟨u70, _, hu70, rfl, hu56, rfl, rfl⟩ idH
   | exact rtA rfl rfl rfl ⟨u70, _, hu70, rfl, hu30, rfl, rfl⟩ idH
   | exact rtA rfl rfl rfl ⟨u70, _, hu70, rfl, hmx, rfl, rfl⟩ idH
theorem ZY (g : List Int) (ag : Option Addr) (cg bk : Nat) (hgl : g.length ≤ 9223372036854775807) (tq mx : Int) (htq : 0 ≤ tq ∧ tq ≤ 1000000000) (hmx : 0 ≤ mx ∧ mx ≤ 4294967295) (n : Int) (H : Za) (R : Z8) [hG : MemRows ag 1 (Z2S g) R] :
    Fn Try.prog 19 [.pointer (some ⟨bk, 0, none⟩), .int .i64 n] ((bk, cel 80 [.slice ag g.length cg, .int .i64 (tq), .int .u32 (mx)]) :: H) R (fun v H' R' => ∃ x m' : Int, (0 ≤ x ∧ x < max 1 n) ∧ v = .int .i64 x ∧ (0 ≤ m' ∧ m' ≤ 4294967295) ∧ H' = (bk, cel 80 [.slice ag g.length cg, .int .i64 (tq + 1), .int .u32 (m')]) :: H ∧ R' = R) := by
 refine Zv Try.func19 rfl Try.ntmps19 rfl ?_
 refine sqt 1 rfl (pur 1 rfl (sqt 6 rfl (pur 1 rfl ?_)))
 refine cl rfl Zb1 rfl rfl (Z70 g ag cg bk hgl tq mx htq hmx _ _) ?_
 rintro _ _ _ ⟨x, m', hx, rfl, hm', rfl, rfl⟩
 refine pur 1 rfl (sp rfl (PE.max rfl rfl) rfl (sp rfl (PE.rem rfl rfl (by omega)) rfl (pur 1 rfl (Z3 ?_))))
 exact rtA rfl rfl rfl ⟨_, m', ⟨Int.emod_nonneg _ (by omega), Int.emod_lt_of_pos _ (by omega)⟩, rfl, hm', rfl, rfl⟩ idH
theorem Z0C (g : List Int) (ag : Option Addr) (cg bk : Nat) (hgl : g.length ≤ 9223372036854775807) (tq mx : Int) (htq : 0 ≤ tq ∧ tq ≤ 1000000000) (hmx : 0 ≤ mx ∧ mx ≤ 4294967295) (lo hi : Int) (hb : -1000000 ≤ lo ∧ lo ≤ 1000000 ∧ -1000000 ≤ hi ∧ hi ≤ 1000000) (H : Za) (R : Z8) [hG : MemRows ag 1 (Z2S g) R] :
    Fn Try.prog 18 [.pointer (some ⟨bk, 0, none⟩), .int .i64 lo, .int .i64 hi] ((bk, cel 80 [.slice ag g.length cg, .int .i64 (tq), .int .u32 (mx)]) :: H) R (fun v H' R' => ∃ x m' : Int, (lo ≤ x ∧ x < lo + max 1 (hi - lo + 1)) ∧ v = .int .i64 x ∧ (0 ≤ m' ∧ m' ≤ 4294967295) ∧ H' = (bk, cel 80 [.slice ag g.length cg, .int .i64 (tq + 1), .int .u32 (m')]) :: H ∧ R' = R) := by
 refine Zv Try.func18 rfl Try.ntmps18 rfl ?_
 refine sqt 1 rfl (pur 1 rfl (sqt 9 rfl (pur 4 rfl (sp rfl (PE.sub rfl rfl (by omega)) rfl (sp rfl (PE.add rfl rfl (by omega)) rfl ?_)))))
 refine cl rfl Z1i rfl rfl (ZY g ag cg bk hgl tq mx htq hmx (hi - lo + 1) _ _) ?_
 rintro _ _ _ ⟨x, m', hx, rfl, hm', rfl, rfl⟩
 refine sp rfl (PE.add rfl rfl (by omega)) rfl (pur 1 rfl (Z3 ?_))
 exact rtA rfl rfl rfl ⟨lo + x, m', ⟨by omega, by omega⟩, rfl, hm', rfl, rfl⟩ idH
theorem Z5b (g : List Int) (ag : Option Addr) (cg bk : Nat) (hgl : g.length ≤ 9223372036854775807) (tq mx : Int) (htq : 0 ≤ tq ∧ tq ≤ 1000000000) (hmx : 0 ≤ mx ∧ mx ≤ 4294967295) (n : Int) (H : Za) (R : Z8) [hG : MemRows ag 1 (Z2S g) R] :
    Fn Try.prog 17 [.pointer (some ⟨bk, 0, none⟩), .int .i64 n] ((bk, cel 80 [.slice ag g.length cg, .int .i64 (tq), .int .u32 (mx)]) :: H) R (fun v H' R' => ∃ (x : Bool) (m' : Int), v = .bool x ∧ (0 ≤ m' ∧ m' ≤ 4294967295) ∧ H' = (bk, cel 80 [.slice ag g.length cg, .int .i64 (tq + 1), .int .u32 (m')]) :: H ∧ R' = R) := by
 refine Zv Try.func17 rfl Try.ntmps17 rfl ?_
 refine sqt 1 rfl (pur 1 rfl (sqt 5 rfl (pur 2 rfl ?_)))
 refine cl rfl Z1i rfl rfl (ZY g ag cg bk hgl tq mx htq hmx n _ _) ?_
 rintro _ _ _ ⟨x, m', hx, rfl, hm', rfl, rfl⟩
 refine pur 2 rfl (Z3 ?_)
 exact rtA rfl rfl rfl ⟨_, m', rfl, hm', rfl, rfl⟩ idH
end Go.Proofs.Ythhdgeibokecjaa.Bd
namespace Go.Proofs.Ythhdgeibokecjaa.Bd
set_option linter.unusedSimpArgs false
set_option linter.unusedVariables false
theorem Z7B {t : Twn} (h : t.ok) (hb : ∀ i, Z0r t.rats i = false) : t.check = 0 := by
  obtain ⟨h1, h2, h3, h4, h5, h6, h7, h8, h9, h10⟩ := h
  have e1 : inb t.rats.length 1 4 = true := by simp only [inb, Bool.and_eq_true, decide_eq_true_eq]; omega
  have e2 : ([t.holds, t.need, t.good, t.bad].all fun n => inb n 0 30) = true := by
    simp only [List.all_cons, List.all_nil, Bool.and_true, inb, Bool.and_eq_true, decide_eq_true_eq]; omega
  have e3 : inb t.patience 0 3 = true := by simp only [inb, Bool.and_eq_true, decide_eq_true_eq]; omega
  have e4 : inb t.run 0 3 = true := by simp only [inb, Bool.and_eq_true, decide_eq_true_eq]; omega
  have e5 : inb t.rot 0 5 = true := by simp only [inb, Bool.and_eq_true, decide_eq_true_eq]; omega
  have e6 : (t.rats.all fun q => inb q.sacks 0 30 && inb q.price 0 100) = true := List.all_eq_true.2 fun q hq => by
    have := h8 q hq
    simp only [inb, Bool.and_eq_true, decide_eq_true_eq]; omega
  have e7 : decide (t.good < t.bad) = false := decide_eq_false (by omega)
  have e8 : (List.range t.rats.length).any (Z0r t.rats) = false := List.any_eq_false.2 fun i _ => by rw [hb i]; simp
  unfold Twn.check
  rw [e1, e2, e3, e4, e5, h9, e6, e7, e8]; rfl
structure Tle (t t' : Twn) : Prop where
  holds : t'.holds = t.holds
  need : t'.need = t.need
  good : t'.good = t.good
  rot : t'.rot = t.rot
  rats : t'.rats = t.rats
  patience : t.patience ≤ t'.patience
  run : t'.run ≤ t.run
  bad : t.bad ≤ t'.bad
structure Sle (s s' : Sta) : Prop where
  stock : s.stock ≤ s'.stock
  short : s'.short ≤ s.short
  dry : s.dry ≤ s'.dry
theorem Tle.refl (t : Twn) : Tle t t := ⟨rfl, rfl, rfl, rfl, rfl, Int.le_refl _, Int.le_refl _, Int.le_refl _⟩
theorem Sle.refl (s : Sta) : Sle s s := ⟨Int.le_refl _, Int.le_refl _, Int.le_refl _⟩
structure MadeOk (t : Twn) (hs : Int) : Prop where
  ok : t.check = 0
  holds : 4 ≤ t.holds ∧ t.holds ≤ hs
  patience : t.patience ≤ 2
open Go
theorem Z2V : cal Try.prog 18 = true := by kernel_rfl
theorem Z5I {l : List Rn} {x : Rn} (h : ∀ i, Z0r l i = false) (hx : ∀ q ∈ l, x.sacks < q.sacks ∧ q.price < x.price) : ∀ i, Z0r (l ++ [x]) i = false := fun i => by
  rcases Nat.lt_trichotomy (i + 1) l.length with h1 | h1 | h1
  · have := h i
    unfold Z0r at this ⊢
    rw [List.getElem?_append_left (by omega), List.getElem?_append_left (by omega)]; exact this
  · obtain ⟨q, hq⟩ : ∃ q, l[i]? = some q := ⟨_, List.getElem?_eq_getElem (by omega)⟩
    have h2 := hx q (List.mem_of_getElem? hq)
    unfold Z0r
    rw [List.getElem?_append_left (by omega), hq, List.getElem?_append_right (by omega), show i + 1 - l.length = 0 from by omega]
    simp only [List.getElem?_cons_zero]
    rw [decide_eq_false (by omega), decide_eq_false (by omega)]; rfl
  · unfold Z0r
    rw [List.getElem?_eq_none (l := l ++ [x]) (i := i + 1) (by simp; omega)]
    split <;> simp_all
structure RatI (l : List Rn) (k : Nat) (sk pr : Int) : Prop where
  len : l.length ≤ k
  one : 0 < k → 1 ≤ l.length
  slo : -3 * k ≤ sk ∧ sk ≤ 7
  phi : 0 ≤ pr ∧ pr ≤ 19 + 9 * k
  q : ∀ q ∈ l, (0 ≤ q.sacks ∧ q.sacks ≤ 7 ∧ 0 ≤ q.price ∧ q.price ≤ 100) ∧ sk < q.sacks ∧ q.price < pr
  bad : ∀ i, Z0r l i = false
  zero : k = 0 → 0 ≤ sk
theorem RatI.more {l : List Rn} {k : Nat} {sk pr a b : Int} (h : RatI l k sk pr) (hk : k < 4) (h0 : 0 ≤ sk) (ha : 1 ≤ a ∧ a ≤ 3) (hb : 1 ≤ b ∧ b ≤ 9) : RatI (l ++ [⟨sk, pr⟩]) (k + 1) (sk - a) (pr + b) := by
  have h1 := h.slo
  have h2 := h.phi
  have h3 := h.len
  refine ⟨by simp; omega, fun _ => by simp, by omega, by omega, fun q hq => ?_, Z5I h.bad (fun q hq => (h.q q hq).2), fun h => by omega⟩
  rcases List.mem_append.1 hq with hq | hq
  · have := h.q q hq; omega
  · simp only [List.mem_singleton] at hq; subst hq; simp only; omega
theorem RatI.less {l : List Rn} {k : Nat} {sk pr a b : Int} (h : RatI l k sk pr) (hk : k < 4) (h0 : sk < 0) (ha : 1 ≤ a ∧ a ≤ 3) (hb : 1 ≤ b ∧ b ≤ 9) : RatI l (k + 1) (sk - a) (pr + b) := by
  have h1 := h.slo
  have h2 := h.phi
  have h3 := h.len
  refine ⟨by omega, fun _ => h.one ?_, by omega, by omega, fun q hq => by have := h.q q hq; omega, h.bad, fun h => by omega⟩
  rcases Nat.eq_zero_or_pos k with h4 | h4
  · have := h.zero h4; omega
  · exact h4
theorem Za2 (g : List Int) (ag : Option Addr) (cg bk : Nat) (hgl : g.length ≤ 9223372036854775807) (tq mx : Int) (htq : 0 ≤ tq ∧ tq ≤ 1000000) (hmx : 0 ≤ mx ∧ mx ≤ 4294967295) (hs : Int) (hhs : 4 ≤ hs ∧ hs ≤ 30) (H : Za) (R : Z8) [hG : MemRows ag 1 (Z2S g) R] :
    Fn Try.prog 5 [.pointer (some ⟨bk, 0, none⟩), .int .i64 hs] ((bk, cel 80 [.slice ag g.length cg, .int .i64 (tq), .int .u32 (mx)]) :: H) R (fun v H' R' => ∃ (t : Twn) (ba oa ca : Nat) (tq' mx' : Int), MadeOk t hs ∧ v = t.v (t.sl (some ⟨ba, oa, none⟩) ca) ∧ (tq ≤ tq' ∧ tq' ≤ tq + 40) ∧ (0 ≤ mx' ∧ mx' ≤ 4294967295) ∧
      H' = (bk, cel 80 [.slice ag g.length cg, .int .i64 (tq'), .int .u32 (mx')]) :: H ∧ R' = RowsA (some ⟨ba, oa, none⟩) 2 (Zx t.rats) :: R) := by
 refine Zv Try.func5 rfl Try.ntmps5 rfl ?_
 refine sqt 1 rfl (alc rfl Z99 rfl (fun b4 => sqt 18 rfl (pur 2 rfl ?_)))
 refine ZL bk ?_
 refine cl rfl Z2V rfl rfl (Z0C g ag cg bk hgl _ _ (by omega) (by assumption) (4) (hs) (by first | omega | (dsimp only; omega)) _ _) ?_
 rintro _ _ R1 ⟨x10, m10, hx10, rfl, hm10, rfl, hR1⟩
 obtain rfl := hR1.symm
 refine pur 1 rfl ?_
 refine cl rfl Z2V rfl rfl (Z0C g ag cg bk hgl _ _ (by omega) (by assumption) (1) (6) (by first | omega | (dsimp only; omega)) _ _) ?_
 rintro _ _ R1 ⟨x12, m12, hx12, rfl, hm12, rfl, hR1⟩
 obtain rfl := hR1.symm
 refine pur 1 rfl ?_
 refine cl rfl Z1i rfl rfl (ZY g ag cg bk hgl _ _ (by omega) (by assumption) (3) _ _) ?_
 rintro _ _ R1 ⟨x14, m14, hx14, rfl, hm14, rfl, hR1⟩
 obtain rfl := hR1.symm
 refine pur 1 rfl ?_
 refine cl rfl Z1i rfl rfl (ZY g ag cg bk hgl _ _ (by omega) (by assumption) (4) _ _) ?_
 rintro _ _ R1 ⟨x16, m16, hx16, rfl, hm16, rfl, hR1⟩
 obtain rfl := hR1.symm
 refine pur 1 rfl ?_
 refine cl rfl Z1i rfl rfl (ZY g ag cg bk hgl _ _ (by omega) (by assumption) (9) _ _) ?_
 rintro _ _ R1 ⟨x18, m18, hx18, rfl, hm18, rfl, hR1⟩
 obtain rfl := hR1.symm
 refine sp rfl (PE.quo rfl rfl (by omega)) rfl (pur 1 rfl ?_)
 refine cl rfl Z1i rfl rfl (ZY g ag cg bk hgl _ _ (by omega) (by assumption) (3) _ _) ?_
 rintro _ _ R1 ⟨x21, m21, hx21, rfl, hm21, rfl, hR1⟩
 obtain rfl := hR1.symm
 have hm22 := Z8X (a := x18 / 5) (b := x21) (A := 1) (B := 2) (by omega) (by omega) (by omega) (by omega)
 refine sp rfl (PE.mul rfl rfl (by omega)) rfl (sp rfl (PE.build (out := twl ⟨⟨0, 0, 0⟩, x10, x12, x14, x16, 0, 0, x18 / 5 * x21, []⟩ (.slice none 0 0)) Zbj Z99 rfl (by kernel_rfl)) rfl (alc rfl Z99 rfl (fun b5 => ?_)))
 refine sto rfl rfl rfl Z9O rfl rfl rfl rfl ?_
 refine sqt 9 rfl (pur 1 rfl (sp rfl (PE.fA Z12 rfl) rfl (spL rfl rfl (lh sc3 rfl rfl) rfl (sp rfl (PE.fA Z12 rfl) rfl (spL rfl rfl (lh sc3 rfl rfl) rfl (sp rfl (PE.add rfl rfl (by first | omega | (dsimp only; omega))) rfl ?_))))))
 refine ZL bk ?_
 refine cl rfl Z2V rfl rfl (Z0C g ag cg bk hgl _ _ (by omega) (by assumption) (x12) (x12 + 4) (by first | omega | (dsimp only; omega)) _ _) ?_
 rintro _ _ R1 ⟨x30, m30, hx30, rfl, hm30, rfl, hR1⟩
 obtain rfl := hR1.symm
 refine sp rfl (PE.fA Z3f rfl) rfl ?_
 refine sto rfl rfl rfl cn3 rfl rfl rfl rfl ?_
 refine sqt 7 rfl (pur 1 rfl (sp rfl (PE.fA Z12 rfl) rfl (spL rfl rfl (lh sc3 rfl rfl) rfl (sp rfl (PE.add rfl rfl (by first | omega | (dsimp only; omega))) rfl ?_))))
 refine cl rfl Z1i rfl rfl (ZY g ag cg bk hgl _ _ (by omega) (by assumption) (x12 + 1) _ _) ?_
 rintro _ _ R1 ⟨x36, m36, hx36, rfl, hm36, rfl, hR1⟩
 obtain rfl := hR1.symm
 refine sp rfl (PE.fA Z3h rfl) rfl ?_
 refine sto rfl rfl rfl cn3 rfl rfl rfl rfl ?_
 refine Z0 ?_
 refine Z9 [0, 1, 0, 4, 12, 31, 0, 76, 255, 511] (.tk 0 (.ld 1 (.tk 2 (.tk 6 (.big 3 (.tk 4 (.tk 5 (.big 7 (.tk 8 (.tk 9 .done)))))))))) Zw (by kernel_rfl) ?_
 refine tk rfl (PE.fA Z12 rfl) rfl (ld rfl rfl (lh sc3 rfl rfl) rfl (Zi 2 rfl ?_))
 refine cl rfl Z1i rfl rfl (ZY g ag cg bk hgl _ _ (by omega) (by assumption) (3) _ _) ?_
 rintro _ _ R1 ⟨x41, m41, hx41, rfl, hm41, rfl, hR1⟩
 obtain rfl := hR1.symm
 refine bg (fun w hs => ⟨(lh sc3 rfl rfl) w hs, trivial⟩) ?_
 refine tk rfl (PE.quo rfl rfl (by omega)) rfl (tk rfl (PE.add rfl rfl (by first | omega | (dsimp only; omega))) rfl ?_)
 refine cl rfl Z1i rfl rfl (ZY g ag cg bk hgl _ _ (by omega) (by assumption) (20) _ _) ?_
 rintro _ _ R1 ⟨x45, m45, hx45, rfl, hm45, rfl, hR1⟩
 obtain rfl := hR1.symm
 refine bg (fun w hs => ⟨(lh sc3 rfl rfl) w hs, trivial⟩) ?_
 refine Zi 2 rfl (Z0 (sqt 3 rfl (pur 1 rfl ?_)))
 refine cl rfl Z2V rfl rfl (Z0C g ag cg bk hgl _ _ (by omega) (by assumption) (1) (4) (by first | omega | (dsimp only; omega)) _ _) ?_
 rintro _ _ R1 ⟨x47, m47, hx47, rfl, hm47, rfl, hR1⟩
 obtain rfl := hR1.symm
 refine pur 1 rfl (Z7 ?_)
 obtain ⟨n47, rfl⟩ : ∃ n : Nat, x47 = n := ⟨x47.toNat, by omega⟩
 refine Zy (ι := (x : {x : Nat × Int × Int × List Rn × Int × Int // x.1 ≤ n47 ∧ RatI x.2.2.2.1 x.1 x.2.1 x.2.2.1 ∧ (tq ≤ x.2.2.2.2.1 ∧ x.2.2.2.2.1 ≤ tq + 20 + 2 * x.1) ∧ (0 ≤ x.2.2.2.2.2 ∧ x.2.2.2.2.2 ≤ 4294967295)}) × OSl 77 2 (Zx x.1.2.2.2.1)) (fun x => ⟨[(0, .pointer (some ⟨bk, 0, none⟩)), (4, .pointer (some ⟨b4, 0, none⟩)), (5, .pointer (some ⟨b5, 0, none⟩)), (6, .int .i64 x.1.1.2.1), (7, .int .i64 x.1.1.2.2.1), (47, .int .i64 n47), (48, .int .i64 x.1.1.1)],
   (bk, cel 80 [.slice ag g.length cg, .int .i64 (x.1.1.2.2.2.2.1), .int .u32 (x.1.1.2.2.2.2.2)]) :: (x.2.G ++ (b5, cel 27 (twl ⟨⟨0, 0, 0⟩, x10, x12, x14, x16, x30, x36, x18 / 5 * x21, x.1.1.2.2.2.1⟩ x.2.fs)) :: (b4, cel 27 [.int .i64 0, .int .i64 0, .int .i64 0, .int .i64 0, .int .i64 0, .int .i64 0, .int .i64 0, .int .i64 0, .int .i64 0, .int .i64 0, .slice none 0 0]) :: H), R⟩) (fun x => n47 - x.1.1.1) ⟨⟨(0, x12 + x41 / 2, x45, [], tq + 1 + 1 + 1 + 1 + 1 + 1 + 1 + 1 + 1 + 1 + 1, m47), by omega, ⟨by simp, by dsimp only; omega, by dsimp only; omega, by dsimp only; omega, by simp, fun i => by simp [Z0r], by dsimp only; omega⟩, by dsimp only; omega, by assumption⟩, OSl.nil _ _⟩ ?_ (fun x => ?_)
 exact Z05 idH
 obtain ⟨⟨⟨k, sk, pr, l, tq2, mx2⟩, hk, hri, htq2, hmx2⟩, o'⟩ := x
 dsimp only at hk hri htq2 hmx2 o' ⊢
 have h1 := hri.slo
 have h2 := hri.phi
 have h3 := hri.len
 refine sqt 1 rfl (pur 1 rfl (Z0 ?_))
 refine Z4 rfl ?_ ?_ <;> intro hc0 <;> try simp only [cS] at hc0
 refine Z2 (Z0 (Z7 (Z0 (sqt 2 rfl (pur 2 rfl ?_)))))
 refine Z4 rfl ?_ ?_ <;> intro hc1 <;> try simp only [cS] at hc1
 refine sqr 9 rfl (sp rfl (PE.fA ZJ rfl) rfl (spL rfl rfl (lh Z0Z rfl rfl) rfl (pur 2 rfl (sp rfl (PE.build (out := [_, _]) ZaV Z7a rfl rfl) rfl ?_))))
 refine bsl (out := [_, _]) rfl Zbh Z7a rfl rfl rfl rfl rfl rfl (fun b57 => ?_)
 refine apO (o') rfl ZbC rfl rfl (Z7r (row := Z23 ⟨sk, pr⟩) rfl) rfl rfl ((by simp only [Zx, List.length_map, List.length_singleton]; omega)) rfl (fun o58 => ?_)
 refine sp rfl (PE.fA ZJ rfl) rfl ?_
 refine Z5V (l' := twl ⟨⟨0, 0, 0⟩, x10, x12, x14, x16, x30, x36, x18 / 5 * x21, (l ++ [⟨sk, pr⟩])⟩ o58.fs) rfl rfl rfl Zbw rfl (by rw [o58.cells.1]; first | done | rfl) (by rw [o58.cells.1]; simp [o58.cells.2]) (by rw [o58.cells.1]; first | done | rfl) (by rw [o58.cells.1]; first | done | exact Nat.le_refl _) ?_
 refine sqr 10 rfl (pur 2 rfl ?_)
 refine ZL bk ?_
 refine cl rfl Z2V rfl rfl (Z0C g ag cg bk hgl _ _ (by omega) (by assumption) (1) (3) (by first | omega | (dsimp only; omega)) _ _) ?_
 rintro _ _ R1 ⟨x62, m62, hx62, rfl, hm62, rfl, hR1⟩
 obtain rfl := hR1.symm
 refine sp rfl (PE.sub rfl rfl (by omega)) rfl (pur 2 rfl ?_)
 refine cl rfl Z2V rfl rfl (Z0C g ag cg bk hgl _ _ (by omega) (by assumption) (1) (9) (by first | omega | (dsimp only; omega)) _ _) ?_
 rintro _ _ R1 ⟨x66, m66, hx66, rfl, hm66, rfl, hR1⟩
 obtain rfl := hR1.symm
 refine sp rfl (PE.add rfl rfl (by omega)) rfl (pur 2 rfl (sqr 2 rfl (sp rfl (PE.add rfl rfl (by omega)) rfl (pur 1 rfl ?_))))
 first
   | exact ZQ ⟨⟨(k + 1, sk - x62, pr + x66, l ++ [⟨sk, pr⟩], tq2 + 1 + 1, m66), by omega, hri.more (a := x62) (b := x66) (by omega) (by omega) (by omega) (by omega), by dsimp only; omega, by assumption⟩, o58.cast (by simp [Zx])⟩ (by dsimp only; omega) (fun w h => (h.del b57).perm (by first | exact .refl _ | exact List.Perm.cons _ (.refl _)))
   | exact ZQ ⟨⟨(k + 1, sk - x62, pr + x66, l, tq2 + 1 + 1, m66), by omega, hri.less (a := x62) (b := x66) (by omega) (by omega) (by omega) (by omega), by dsimp only; omega, by assumption⟩, o'⟩ (by dsimp only; omega) idH
 refine Z2 (sqr 10 rfl (pur 2 rfl ?_))
 refine ZL bk ?_
 refine cl rfl Z2V rfl rfl (Z0C g ag cg bk hgl _ _ (by omega) (by assumption) (1) (3) (by first | omega | (dsimp only; omega)) _ _) ?_
 rintro _ _ R1 ⟨x62, m62, hx62, rfl, hm62, rfl, hR1⟩
 obtain rfl := hR1.symm
 refine sp rfl (PE.sub rfl rfl (by omega)) rfl (pur 2 rfl ?_)
 refine cl rfl Z2V rfl rfl (Z0C g ag cg bk hgl _ _ (by omega) (by assumption) (1) (9) (by first | omega | (dsimp only; omega)) _ _) ?_
 rintro _ _ R1 ⟨x66, m66, hx66, rfl, hm66, rfl, hR1⟩
 obtain rfl := hR1.symm
 refine sp rfl (PE.add rfl rfl (by omega)) rfl (pur 2 rfl (sqr 2 rfl (sp rfl (PE.add rfl rfl (by omega)) rfl (pur 1 rfl ?_))))
 first
   | exact ZQ ⟨⟨(k + 1, sk - x62, pr + x66, l ++ [⟨sk, pr⟩], tq2 + 1 + 1, m66), by omega, hri.more (a := x62) (b := x66) (by omega) (by omega) (by omega) (by omega), by dsimp only; omega, by assumption⟩, o58.cast (by simp [Zx])⟩ (by dsimp only; omega) (fun w h => (h.del b57).perm (by first | exact .refl _ | exact List.Perm.cons _ (.refl _)))
   | exact ZQ ⟨⟨(k + 1, sk - x62, pr + x66, l, tq2 + 1 + 1, m66), by omega, hri.less (a := x62) (b := x66) (by omega) (by omega) (by omega) (by omega), by dsimp only; omega, by assumption⟩, o'⟩ (by dsimp only; omega) idH
 obtain rfl : k = n47 := by omega
 obtain ⟨a', c', he, hf⟩ := o'.freeze
 rw [he]
 refine ZL bk ?_
 refine Sy.heap (H' := _) (fun w h => hf (h.perm (List.perm_middle (l₁ := o'.G) (a := _)).symm)) ?_
 rw [show (Zx l).length = l.length from List.length_map _]
 refine Z00 (a := a') (sz := 2) (rows := Zx l) (by have := hri.one (by omega); intro h0; simp [Zx] at h0; simp [h0] at this) (fun ba oa hea => ?_)
 subst hea
 refine Zm (Zt (Zt (ZU (Z0 ?_))))
 refine Z9 [0, 0, 2, 6, 15, 0, 0, 64, 192, 511, 0, 2047, 4095, 0, 0, 16384, 49152, 126975, 0, 520191, 1044479, 2097151, 4194303, 8388607] (.tk 0 (.tk 1 (.ld 2 (.tk 3 (.tk 5 (.tk 6 (.ld 7 (.tk 8 (.tk 10 (.tk 13 (.tk 14 (.ld 15 (.tk 16 (.tk 18 (.big 4 (.big 9 (.big 11 (.tk 12 (.big 17 (.big 19 (tks 20 3 (.big 23 .done)))))))))))))))))))))) Zw (by kernel_rfl) ?_
 refine Zi 1 rfl (tk rfl (PE.fA Z11 rfl) rfl (ld rfl rfl (lh sc3 rfl rfl) rfl (tk rfl (PE.add rfl rfl (by first | omega | (dsimp only; omega))) rfl (Zi 1 rfl (tk rfl (PE.fA Z2q rfl) rfl (ld rfl rfl (lh sc3 rfl rfl) rfl (tk rfl (PE.add rfl rfl (by first | omega | (dsimp only; omega))) rfl (Zi 2 rfl (tk rfl (PE.fA Z2a rfl) rfl (ld rfl rfl (lh sc3 rfl rfl) rfl (tk rfl (PE.add rfl rfl (by first | omega | (dsimp only; omega))) rfl (Zi 1 rfl ?_))))))))))))
 refine cl rfl Z1i rfl rfl (ZY g ag cg bk hgl _ _ (by omega) (by assumption) (x10 + 1) _ _) ?_
 rintro _ _ R1 ⟨x73, m73, hx73, rfl, hm73, rfl, hR1⟩
 obtain rfl := hR1.symm
 refine bg (fun w hs => ⟨(lh sc3 rfl rfl) w hs, (lh sc3 rfl rfl) w hs, trivial, trivial⟩) ?_
 refine cl rfl Z1i rfl rfl (ZY g ag cg bk hgl _ _ (by omega) (by assumption) (x14 + 1) _ _) ?_
 rintro _ _ R1 ⟨x78, m78, hx78, rfl, hm78, rfl, hR1⟩
 obtain rfl := hR1.symm
 refine bg (fun w hs => ⟨(lh sc3 rfl rfl) w hs, trivial, trivial⟩) ?_
 refine cl rfl Z1i rfl rfl (ZY g ag cg bk hgl _ _ (by omega) (by assumption) (2) _ _) ?_
 rintro _ _ R1 ⟨x80, m80, hx80, rfl, hm80, rfl, hR1⟩
 obtain rfl := hR1.symm
 have hm81 := Z8X (a := x78) (b := x80) (A := x14) (B := 1) (by omega) (by omega) (by omega) (by omega)
 refine bg (fun w hs => ⟨(lh sc3 rfl rfl) w hs, trivial⟩) ?_
 refine tk rfl (PE.mul rfl rfl (by omega)) rfl ?_
 refine cl rfl Z1i rfl rfl (ZY g ag cg bk hgl _ _ (by omega) (by assumption) (x16 + 1) _ _) ?_
 rintro _ _ R1 ⟨x86, m86, hx86, rfl, hm86, rfl, hR1⟩
 obtain rfl := hR1.symm
 refine bgT ?_
 refine cl rfl Z1i rfl rfl (ZY g ag cg bk hgl _ _ (by omega) (by assumption) (2) _ _) ?_
 rintro _ _ R1 ⟨x88, m88, hx88, rfl, hm88, rfl, hR1⟩
 obtain rfl := hR1.symm
 have hm89 := Z8X (a := x86) (b := x88) (A := x16) (B := 1) (by omega) (by omega) (by omega) (by omega)
 refine bgT (tk rfl (PE.mul rfl rfl (by omega)) rfl (tk rfl (PE.build (out := [_, _, _]) Z8q Z37 rfl rfl) rfl (tk rfl (PE.fA Z0d rfl) rfl ?_)))
 refine sto rfl rfl rfl Z2n rfl rfl rfl rfl ?_
 refine bgT (sqt 2 rfl (spL rfl rfl (lhA [_, _, _, _, _, _, _, _, _, _, _] ZZ rfl rfl rfl) rfl ?_))
 refine sto rfl rfl rfl Z9O rfl rfl rfl rfl ?_
 refine Z3 ?_
 have hok : Twn.ok ⟨⟨x73, x78 * x80, x86 * x88⟩, x10, x12, x14, x16, x30, x36, x18 / 5 * x21, l⟩ := ⟨by simp only; omega, by simp only; omega, by simp only; omega, by simp only; omega, by simp only; omega, by simp only; omega, by simp only; omega, fun q hq => by have := hri.q q hq; omega, right_iff.2 ⟨by simp only; omega, by simp only; omega, by simp only; omega⟩, ⟨hri.one (by omega), by simp only; omega⟩⟩
 exact Z5 (vs := [_]) rfl (.cons (RV.cell rfl (lhA [_, _, _, _, _, _, _, _, _, _, _] ZZ rfl rfl rfl)) .nil) rfl ⟨⟨⟨x73, x78 * x80, x86 * x88⟩, x10, x12, x14, x16, x30, x36, x18 / 5 * x21, l⟩, ba, oa, c', _, _, ⟨Z7B hok hri.bad, by simp only; omega, by simp only; omega⟩, rfl, ⟨by omega, by omega⟩, by assumption, rfl, rfl⟩ (fun w h => ((h.del b5).del b4))
end Go.Proofs.Ythhdgeibokecjaa.Bd
