/- Walks of the functions of the program, and the laws that join them: what the last theorem of this claim needs, in order. -/
import Derived.Test.Ythhdgeibokecjaabf4
namespace Go.Proofs.Ythhdgeibokecjaa.Bd
set_option linter.unusedSimpArgs false
set_option linter.unusedVariables false
open Go
theorem Z9o : cal Try.prog 11 = true := by kernel_rfl
theorem Z7F : cal Try.prog 13 = true := by kernel_rfl
theorem Z7w : cal Try.prog 14 = true := by kernel_rfl
theorem ZaI : cal Try.prog 15 = true := by kernel_rfl
theorem Z7m : cal Try.prog 17 = true := by kernel_rfl
theorem ZaE : cal Try.prog 20 = true := by kernel_rfl
theorem ZaD : cal Try.prog 21 = true := by kernel_rfl
theorem Zb3 : cal Try.prog 22 = true := by kernel_rfl
theorem ZbB : cal Try.prog 5 = true := by kernel_rfl
theorem Zb7 : cal Try.prog 6 = true := by kernel_rfl
theorem Zbl : cal Try.prog 9 = true := by kernel_rfl
theorem ub4 : Try.prog.underlying 4 = some .bool := by kernel_rfl
theorem Z5c {e sz : Nat} {rows : List (List Value)} (o : OSl e sz rows) : ∃ a c, o.fs = .slice a rows.length c := by
  rcases o.is with ⟨h, h2, _⟩ | ⟨b, cap, _, h2, _⟩
  · exact ⟨none, 0, by rw [h2, h]; rfl⟩
  · exact ⟨_, _, h2⟩
@[reducible] def Z4p (e sz b cap : Nat) (junk : List Value) (rows : List (List Value)) (hl : ∀ r ∈ rows, r.length = sz) (hj : rows.length * sz + junk.length = cap * sz) (hc : rows.length ≤ cap) (hm : cap ≤ 9223372036854775807) : OSl e sz rows :=
  ⟨.slice (some ⟨b, 0, none⟩) rows.length cap, [(b, cel e (rows.flatten ++ junk))], hl, .inr ⟨b, cap, junk, rfl, rfl, hj, hc, hm⟩⟩
theorem Z6L {l : List Rw} {junk : List Value} {k i : Nat} {x : Rw} (hx : l[k]? = some x) (e : i = k * 5 + 3) : ((Zg l).flatten ++ junk)[i]? = some (.int .i64 x.lasts) := by
  have hk := (List.getElem?_eq_some_iff.1 hx).1
  rw [List.getElem?_append_left (by rw [Z0Q]; omega), e]
  exact Z1J (sz := 5) (Z0c l) (Z5p hx) rfl
theorem Z6e {l : List Fat} {junk : List Value} {k i : Nat} {x : Fat} (hx : l[k]? = some x) (e : i = k * 4 + 3) : ((Ze l).flatten ++ junk)[i]? = some (.int .i64 x.2) := by
  have hk := (List.getElem?_eq_some_iff.1 hx).1
  rw [List.getElem?_append_left (by rw [Z0P]; omega), e]
  exact Z1J (sz := 4) (Z09 l) (Z50 hx) rfl
theorem Z97 {l : List Rw} {junk : List Value} {k i : Nat} {x : Rw} (hx : l[k]? = some x) (v : Int) (e : i = k * 5 + 3) : spl ((Zg l).flatten ++ junk) i [.int .i64 v] = (Zg (l.set k { x with lasts := v })).flatten ++ junk := by
  rw [Z6Q (Z0c l) (Z5p hx) (j := 3) (by omega) _ e, Z8v hx]
theorem Z8I {l : List Fat} {junk : List Value} {k i : Nat} {x : Fat} (hx : l[k]? = some x) (v : Int) (e : i = k * 4 + 3) : spl ((Ze l).flatten ++ junk) i [.int .i64 v] = (Ze (l.set k (x.1, v))).flatten ++ junk := by
  rw [Z6Q (Z09 l) (Z50 hx) (j := 3) (by omega) _ e, Z8w hx]
theorem Z84 {n m c : Nat} (h : n * 5 + m = c * 5) (n' : Nat) (e : n' = n) : n' * 5 + m = c * 5 := by subst e; exact h
theorem Z8b {n m c : Nat} (h : n * 4 + m = c * 4) (n' : Nat) (e : n' = n) : n' * 4 + m = c * 4 := by subst e; exact h
set_option maxHeartbeats 4000000 in
theorem c_BreadFed (g : List Int) (ag : Option Addr) (cg : Nat) (hgl : g.length ≤ 9223372036854775807) (h : List Int) (ah : Option Addr) (ch : Nat) (hhl : h.length ≤ 9223372036854775807) (H : Za) (R : Z8) [hG : MemRows ag 1 (Z2S g) R] [hG2 : MemRows ah 1 (Z2S h) R] :
    Fn Try.prog 3 [.slice ag g.length cg, .slice ah h.length ch] H R (fun v H' R' => v = .bool true ∧ H' = H ∧ R' = R) := by
  refine Zv Try.func3 rfl Try.ntmps3 rfl ?_
  refine Z0 ?_
  refine Z6 [0] rfl ?_
  refine sp rfl (PE.assign rfl) rfl ?_
  refine Z0 ?_
  refine Z6 [0, 1, 2, 3, 4] rfl ?_
  refine sp rfl (PE.move rfl) rfl ?_
  refine cl rfl Zb7 rfl rfl (Z8k g ag cg hgl _ _) ?_
  rintro _ _ R1 ⟨bk, mx, hmx, rfl, rfl, hR1⟩
  obtain rfl := hR1.symm
  refine cl rfl ZbB rfl rfl (Za2 g ag cg bk hgl 0 mx (by omega) hmx 20 (by omega) _ _) ?_
  rintro _ _ _ ⟨t, ba, oa, ca, tq', mx', hmo, rfl, htq', hmx', rfl, rfl⟩
  refine Sy.heap (fun w h => h.del bk) ?_
  have hck := hmo.ok
  have hok := (Zk hck).1
  have hmany := hok.many
  refine alc rfl Z99 rfl (fun b5 => ?_)
  refine sto rfl rfl rfl Z9O rfl rfl rfl rfl ?_
  refine Z0 ?_
  refine Z6 [0, 1, 2, 3, 4, 5, 6] rfl ?_
  refine spL rfl rfl (lhA (twl t (t.sl (some ⟨ba, oa, none⟩) ca)) ZZ rfl rfl rfl) rfl ?_
  refine cl rfl Zba rfl rfl (Z6V t (by omega) ba oa ca _ _) ?_
  rintro _ _ _ ⟨h, rfl, rfl⟩
  obtain ⟨_, σ, hσ, rfl⟩ := h.resolve_left (fun h => h.1 hck)
  have hly := (Z0N hok hσ).ly hok
  rw [(Z0N hok hσ).same hok _ hok.now]
  have hrg := Z2j hly hok.now
  clear hσ h
  obtain ⟨n, hnl⟩ : ∃ n, n = lat (LY t) t.now := ⟨_, rfl⟩
  rw [← hnl] at hrg ⊢
  refine sp rfl (PE.move rfl) rfl ?_
  refine sp rfl (PE.extract rfl rfl) rfl ?_
  refine sp rfl (PE.extract rfl rfl) rfl ?_
  refine sp rfl (PE.assign rfl) rfl ?_
  refine sp rfl (PE.assign rfl) rfl ?_
  refine Z0 ?_
  refine Z6 [0, 1, 2, 3, 4, 5, 6] rfl ?_
  refine spL rfl rfl (lhA (twl t (t.sl (some ⟨ba, oa, none⟩) ca)) ZZ rfl rfl rfl) rfl ?_
  refine cl rfl Zb6 rfl rfl (Z7h t (by omega) ba oa ca _ _) ?_
  rintro _ _ _ ⟨oT, rfl, rfl, rfl, _⟩
  obtain ⟨aT, cT, he, hf⟩ := oT.freeze
  rw [he]
  refine Sy.heap (fun w h => hf h) ?_
  rw [ZC]
  clear he hf oT
  obtain ⟨T0, hT0⟩ : ∃ T, T = (Z79 t).1 := ⟨_, rfl⟩
  obtain ⟨e1, he1⟩ : ∃ e, e = (Z79 t).2 := ⟨_, rfl⟩
  rw [← hT0, ← he1]
  have htb : (n = -1 ∧ e1 = 6 ∧ T0 = []) ∨ (n ≠ -1 ∧ e1 = 0 ∧ T0 = tab t (LY t)) := by
    by_cases h : n = -1
    · left; rw [he1, hT0, Z5y hck (by rw [← hnl]; exact h)]; exact ⟨h, rfl, rfl⟩
    · right; rw [he1, hT0, Z6u hck (by rw [← hnl]; exact h)]; exact ⟨h, rfl, rfl⟩
  have hT : TbOk t T0 := by
    rcases htb with ⟨_, _, h⟩ | ⟨_, _, h⟩
    · rw [h]; exact Z9H t
    · rw [h]; exact Z85 hok hly
  have hT9 := hT.len
  clear hT0 he1
  refine sp rfl (PE.move rfl) rfl ?_
  refine sp rfl (PE.extract rfl rfl) rfl ?_
  refine sp rfl (PE.extract rfl rfl) rfl ?_
  refine sp rfl (PE.assign rfl) rfl ?_
  refine sp rfl (PE.assign rfl) rfl ?_
  refine Z0 ?_
  refine Z6 [0, 1, 2, 3, 4, 5, 6] rfl ?_
  refine spL rfl rfl (lhA (twl t (t.sl (some ⟨ba, oa, none⟩) ca)) ZZ rfl rfl rfl) rfl ?_
  refine cl rfl Zbl rfl rfl (Z7W t (by omega) ba oa ca _ _) ?_
  rintro _ _ _ ⟨fl, oF, rfl, rfl, rfl, hfn, hfe0, hfe1, hfrg⟩
  obtain ⟨aF, cF, he, hf⟩ := oF.freeze
  rw [he]
  refine Sy.heap (fun w h => hf h) ?_
  rw [ZB]
  clear he hf oF
  have hF : FtOk t fl 496 := ⟨hfn, hfrg⟩
  obtain ⟨ge, hge⟩ : ∃ e, e = Z5S t := ⟨_, rfl⟩
  rw [← hge] at hfe0 hfe1 ⊢
  rw [← hnl] at hfe1
  have hfl : (n = 1000000 ∧ ge = 6 ∧ fl = []) ∨ (n ≠ 1000000 ∧ ge = 0 ∧ stR t fl = (n + 1, 0)) := by
    by_cases h : n = 1000000
    · have e : ge = 6 := by rw [hge]; simp [Z5S, hck, ← hnl, h]
      exact .inl ⟨h, e, hfe0 (by rw [e]; decide)⟩
    · have e : ge = 0 := by rw [hge]; simp [Z5S, hck, ← hnl, h]
      exact .inr ⟨h, e, (hfe1 e).2.2.2⟩
  clear hge hfe0 hfe1
  refine sp rfl (PE.move rfl) rfl ?_
  refine sp rfl (PE.extract rfl rfl) rfl ?_
  refine sp rfl (PE.extract rfl rfl) rfl ?_
  refine sp rfl (PE.assign rfl) rfl ?_
  refine sp rfl (PE.assign rfl) rfl ?_
  refine Z0 ?_
  refine Z0 ?_
  refine Z5v (ι := {b : Bool // b = false}) (fun z => ⟨[(1, .slice ah h.length ch), (5, .pointer (some ⟨b5, 0, none⟩)), (6, .int .i64 n), (8, .slice aT T0.length cT), (9, .int .i64 e1), (10, .slice aF fl.length cF), (11, .int .i64 ge), (95, .bool z.1)], (b5, cel 27 (twl t (t.sl (some ⟨ba, oa, none⟩) ca))) :: H, RowsA aF 4 (Ze fl) :: RowsA aT 5 (Zg T0) :: RowsA (some ⟨ba, oa, none⟩) 2 (Zx t.rats) :: R⟩) ?_ ?_
  ·
   refine Z6 [0, 1, 2, 3, 4, 5, 6, 7, 8, 9, 10, 11, 12, 13, 14, 15, 16, 17, 18, 19, 20, 21, 22, 23, 24, 25, 26, 27, 28, 29, 30, 31, 32, 33, 34, 35, 36, 37, 38, 39, 40, 41, 42, 43, 44, 45, 46] rfl ?_
   refine spL rfl rfl (lhA (twl t (t.sl (some ⟨ba, oa, none⟩) ca)) ZZ rfl rfl rfl) rfl ?_
   refine cl rfl Za7 rfl rfl (Z6W t (some ⟨ba, oa, none⟩) ca (by omega) _ _) ?_
   rintro _ _ R1 ⟨rfl, rfl, hR1⟩
   obtain rfl := hR1.symm
   clear hR1
   rw [hck]
   have hcs : (n = -1 ∧ e1 = 6 ∧ n ≠ 1000000 ∧ ge = 0) ∨ (n ≠ -1 ∧ e1 = 0 ∧ n = 1000000 ∧ ge = 6) ∨ (n ≠ -1 ∧ e1 = 0 ∧ n ≠ 1000000 ∧ ge = 0) := by
     rcases htb with ⟨a, b, _⟩ | ⟨a, b, _⟩ <;> rcases hfl with ⟨c, d, _⟩ | ⟨c, d, _⟩ <;> omega
   rcases hcs with ⟨h1, h2, k1, k2⟩ | ⟨h1, h2, k1, k2⟩ | ⟨h1, h2, k1, k2⟩
   ·
    refine sp rfl (PE.neq rfl rfl) rfl ?_
    refine sp rfl (PE.move rfl) rfl ?_
    refine Z1 (t := 52) rfl (fun g52 => ?_) (fun g52 => ?_)
    ·
     exact absurd g52 (by first | (simp [h1, h2, k1, k2]; done) | (simp_all; done) | (simp_all; omega))
    ·
     refine spG rfl rfl rfl rfl (PE.move rfl) rfl ?_
     refine spG rfl rfl rfl rfl (PE.neq rfl rfl) rfl ?_
     refine sp rfl (PE.pick rfl rfl rfl) rfl ?_
     refine sp rfl (PE.move rfl) rfl ?_
     refine Z1 (t := 56) rfl (fun g56 => ?_) (fun g56 => ?_)
     ·
      exact absurd g56 (by first | (simp [h1, h2, k1, k2]; done) | (simp_all; done) | (simp_all; omega))
     ·
      refine spG rfl rfl rfl rfl (PE.move rfl) rfl ?_
      refine spG rfl rfl rfl rfl (PE.eql rfl rfl) rfl ?_
      refine spG rfl rfl rfl rfl (PE.move rfl) rfl ?_
      refine spG rfl rfl rfl rfl (PE.eql rfl rfl) rfl ?_
      refine spG rfl rfl rfl rfl (PE.neqBool ub4 rfl rfl) rfl ?_
      refine sp rfl (PE.pick rfl rfl rfl) rfl ?_
      refine sp rfl (PE.move rfl) rfl ?_
      refine Z1 (t := 63) rfl (fun g63 => ?_) (fun g63 => ?_)
      ·
       exact absurd g63 (by first | (simp [h1, h2, k1, k2]; done) | (simp_all; done) | (simp_all; omega))
      ·
       refine spG rfl rfl rfl rfl (PE.move rfl) rfl ?_
       refine spG rfl rfl rfl rfl (PE.eql rfl rfl) rfl ?_
       refine spG rfl rfl rfl rfl (PE.move rfl) rfl ?_
       refine spG rfl rfl rfl rfl (PE.eql rfl rfl) rfl ?_
       refine spG rfl rfl rfl rfl (PE.neqBool ub4 rfl rfl) rfl ?_
       refine sp rfl (PE.pick rfl rfl rfl) rfl ?_
       refine sp rfl (PE.move rfl) rfl ?_
       refine Z1 (t := 70) rfl (fun g70 => ?_) (fun g70 => ?_)
       ·
        exact absurd g70 (by first | (simp [h1, h2, k1, k2]; done) | (simp_all; done) | (simp_all; omega))
       ·
        refine spG rfl rfl rfl rfl (PE.move rfl) rfl ?_
        refine spG rfl rfl rfl rfl (PE.neq rfl rfl) rfl ?_
        refine spG rfl rfl rfl rfl (PE.move rfl) rfl ?_
        refine Z1 (t := 73) rfl (fun g73 => ?_) (fun g73 => ?_)
        ·
         exact absurd g73 (by first | (simp [h1, h2, k1, k2]; done) | (simp_all; done) | (simp_all; omega))
        ·
         refine spN rfl rfl rfl rfl rfl rfl rfl rfl ?_
         refine spN rfl rfl rfl rfl rfl rfl rfl rfl ?_
         refine spG rfl rfl rfl rfl (PE.pick rfl rfl rfl) rfl ?_
         refine sp rfl (PE.pick rfl rfl rfl) rfl ?_
         refine sp rfl (PE.move rfl) rfl ?_
         refine spG rfl rfl rfl rfl (PE.move rfl) rfl ?_
         refine spG rfl rfl rfl rfl (PE.neq rfl rfl) rfl ?_
         refine spG rfl rfl rfl rfl (PE.move rfl) rfl ?_
         refine Z1 (t := 81) rfl (fun g81 => ?_) (fun g81 => ?_)
         ·
          refine spG rfl rfl rfl rfl (PE.move rfl) rfl ?_
          refine spG rfl rfl rfl rfl (PE.neq rfl rfl) rfl ?_
          refine spG rfl rfl rfl rfl (PE.pick rfl rfl rfl) rfl ?_
          refine sp rfl (PE.pick rfl rfl rfl) rfl ?_
          refine sp rfl (PE.move rfl) rfl ?_
          refine Z1 (t := 86) rfl (fun g86 => ?_) (fun g86 => ?_)
          ·
           exact absurd g86 (by first | (simp [h1, h2, k1, k2]; done) | (simp_all; done) | (simp_all; omega))
          ·
           refine spG rfl rfl rfl rfl (PE.move rfl) rfl ?_
           refine spG rfl rfl rfl rfl (PE.lenSl Z1h rfl) rfl ?_
           refine spG rfl rfl rfl rfl (PE.gtr rfl rfl) rfl ?_
           refine sp rfl (PE.pick rfl rfl rfl) rfl ?_
           refine sp rfl (PE.move rfl) rfl ?_
           refine Z1 (t := 91) rfl (fun g91 => ?_) (fun g91 => ?_)
           ·
            exact absurd g91 (by first | (simp [h1, h2, k1, k2]; done) | (simp_all; done) | (simp_all; omega))
           ·
            refine spG rfl rfl rfl rfl (PE.move rfl) rfl ?_
            refine spG rfl rfl rfl rfl (PE.lenSl Z1u rfl) rfl ?_
            refine spG rfl rfl rfl rfl (PE.gtr rfl rfl) rfl ?_
            refine sp rfl (PE.pick rfl rfl rfl) rfl ?_
            refine ZN ⟨_, ?_⟩ (by repeat' first | exact Sub.nil | apply Sub.cons | rfl | (simp [lk]; omega)) (fun _ h => h)
            exact decide_eq_false (show ¬ (496 : Int) < (fl.length : Int) by omega)
         ·
          exact absurd g81 (by first | (simp [h1, h2, k1, k2]; done) | (simp_all; done) | (simp_all; omega))
   ·
    refine sp rfl (PE.neq rfl rfl) rfl ?_
    refine sp rfl (PE.move rfl) rfl ?_
    refine Z1 (t := 52) rfl (fun g52 => ?_) (fun g52 => ?_)
    ·
     exact absurd g52 (by first | (simp [h1, h2, k1, k2]; done) | (simp_all; done) | (simp_all; omega))
    ·
     refine spG rfl rfl rfl rfl (PE.move rfl) rfl ?_
     refine spG rfl rfl rfl rfl (PE.neq rfl rfl) rfl ?_
     refine sp rfl (PE.pick rfl rfl rfl) rfl ?_
     refine sp rfl (PE.move rfl) rfl ?_
     refine Z1 (t := 56) rfl (fun g56 => ?_) (fun g56 => ?_)
     ·
      exact absurd g56 (by first | (simp [h1, h2, k1, k2]; done) | (simp_all; done) | (simp_all; omega))
     ·
      refine spG rfl rfl rfl rfl (PE.move rfl) rfl ?_
      refine spG rfl rfl rfl rfl (PE.eql rfl rfl) rfl ?_
      refine spG rfl rfl rfl rfl (PE.move rfl) rfl ?_
      refine spG rfl rfl rfl rfl (PE.eql rfl rfl) rfl ?_
      refine spG rfl rfl rfl rfl (PE.neqBool ub4 rfl rfl) rfl ?_
      refine sp rfl (PE.pick rfl rfl rfl) rfl ?_
      refine sp rfl (PE.move rfl) rfl ?_
      refine Z1 (t := 63) rfl (fun g63 => ?_) (fun g63 => ?_)
      ·
       exact absurd g63 (by first | (simp [h1, h2, k1, k2]; done) | (simp_all; done) | (simp_all; omega))
      ·
       refine spG rfl rfl rfl rfl (PE.move rfl) rfl ?_
       refine spG rfl rfl rfl rfl (PE.eql rfl rfl) rfl ?_
       refine spG rfl rfl rfl rfl (PE.move rfl) rfl ?_
       refine spG rfl rfl rfl rfl (PE.eql rfl rfl) rfl ?_
       refine spG rfl rfl rfl rfl (PE.neqBool ub4 rfl rfl) rfl ?_
       refine sp rfl (PE.pick rfl rfl rfl) rfl ?_
       refine sp rfl (PE.move rfl) rfl ?_
       refine Z1 (t := 70) rfl (fun g70 => ?_) (fun g70 => ?_)
       ·
        exact absurd g70 (by first | (simp [h1, h2, k1, k2]; done) | (simp_all; done) | (simp_all; omega))
       ·
        refine spG rfl rfl rfl rfl (PE.move rfl) rfl ?_
        refine spG rfl rfl rfl rfl (PE.neq rfl rfl) rfl ?_
        refine spG rfl rfl rfl rfl (PE.move rfl) rfl ?_
        refine Z1 (t := 73) rfl (fun g73 => ?_) (fun g73 => ?_)
        ·
         refine spG rfl rfl rfl rfl (PE.move rfl) rfl ?_
         refine spG rfl rfl rfl rfl (PE.neq rfl rfl) rfl ?_
         refine spG rfl rfl rfl rfl (PE.pick rfl rfl rfl) rfl ?_
         refine sp rfl (PE.pick rfl rfl rfl) rfl ?_
         refine sp rfl (PE.move rfl) rfl ?_
         refine Z1 (t := 78) rfl (fun g78 => ?_) (fun g78 => ?_)
         ·
          exact absurd g78 (by first | (simp [h1, h2, k1, k2]; done) | (simp_all; done) | (simp_all; omega))
         ·
          refine spG rfl rfl rfl rfl (PE.move rfl) rfl ?_
          refine spG rfl rfl rfl rfl (PE.neq rfl rfl) rfl ?_
          refine spG rfl rfl rfl rfl (PE.move rfl) rfl ?_
          refine Z1 (t := 81) rfl (fun g81 => ?_) (fun g81 => ?_)
          ·
           exact absurd g81 (by first | (simp [h1, h2, k1, k2]; done) | (simp_all; done) | (simp_all; omega))
          ·
           refine spN rfl rfl rfl rfl rfl rfl rfl rfl ?_
           refine spN rfl rfl rfl rfl rfl rfl rfl rfl ?_
           refine spG rfl rfl rfl rfl (PE.pick rfl rfl rfl) rfl ?_
           refine sp rfl (PE.pick rfl rfl rfl) rfl ?_
           refine sp rfl (PE.move rfl) rfl ?_
           refine spG rfl rfl rfl rfl (PE.move rfl) rfl ?_
           refine spG rfl rfl rfl rfl (PE.lenSl Z1h rfl) rfl ?_
           refine spG rfl rfl rfl rfl (PE.gtr rfl rfl) rfl ?_
           refine sp rfl (PE.pick rfl rfl rfl) rfl ?_
           refine sp rfl (PE.move rfl) rfl ?_
           refine Z1 (t := 91) rfl (fun g91 => ?_) (fun g91 => ?_)
           ·
            exact absurd g91 (by first | (simp [h1, h2, k1, k2]; done) | (simp_all; done) | (simp_all; omega))
           ·
            refine spG rfl rfl rfl rfl (PE.move rfl) rfl ?_
            refine spG rfl rfl rfl rfl (PE.lenSl Z1u rfl) rfl ?_
            refine spG rfl rfl rfl rfl (PE.gtr rfl rfl) rfl ?_
            refine sp rfl (PE.pick rfl rfl rfl) rfl ?_
            refine ZN ⟨_, ?_⟩ (by repeat' first | exact Sub.nil | apply Sub.cons | rfl | (simp [lk]; omega)) (fun _ h => h)
            exact decide_eq_false (show ¬ (496 : Int) < (fl.length : Int) by omega)
        ·
         exact absurd g73 (by first | (simp [h1, h2, k1, k2]; done) | (simp_all; done) | (simp_all; omega))
   ·
    refine sp rfl (PE.neq rfl rfl) rfl ?_
    refine sp rfl (PE.move rfl) rfl ?_
    refine Z1 (t := 52) rfl (fun g52 => ?_) (fun g52 => ?_)
    ·
     exact absurd g52 (by first | (simp [h1, h2, k1, k2]; done) | (simp_all; done) | (simp_all; omega))
    ·
     refine spG rfl rfl rfl rfl (PE.move rfl) rfl ?_
     refine spG rfl rfl rfl rfl (PE.neq rfl rfl) rfl ?_
     refine sp rfl (PE.pick rfl rfl rfl) rfl ?_
     refine sp rfl (PE.move rfl) rfl ?_
     refine Z1 (t := 56) rfl (fun g56 => ?_) (fun g56 => ?_)
     ·
      exact absurd g56 (by first | (simp [h1, h2, k1, k2]; done) | (simp_all; done) | (simp_all; omega))
     ·
      refine spG rfl rfl rfl rfl (PE.move rfl) rfl ?_
      refine spG rfl rfl rfl rfl (PE.eql rfl rfl) rfl ?_
      refine spG rfl rfl rfl rfl (PE.move rfl) rfl ?_
      refine spG rfl rfl rfl rfl (PE.eql rfl rfl) rfl ?_
      refine spG rfl rfl rfl rfl (PE.neqBool ub4 rfl rfl) rfl ?_
      refine sp rfl (PE.pick rfl rfl rfl) rfl ?_
      refine sp rfl (PE.move rfl) rfl ?_
      refine Z1 (t := 63) rfl (fun g63 => ?_) (fun g63 => ?_)
      ·
       exact absurd g63 (by first | (simp [h1, h2, k1, k2]; done) | (simp_all; done) | (simp_all; omega))
      ·
       refine spG rfl rfl rfl rfl (PE.move rfl) rfl ?_
       refine spG rfl rfl rfl rfl (PE.eql rfl rfl) rfl ?_
       refine spG rfl rfl rfl rfl (PE.move rfl) rfl ?_
       refine spG rfl rfl rfl rfl (PE.eql rfl rfl) rfl ?_
       refine spG rfl rfl rfl rfl (PE.neqBool ub4 rfl rfl) rfl ?_
       refine sp rfl (PE.pick rfl rfl rfl) rfl ?_
       refine sp rfl (PE.move rfl) rfl ?_
       refine Z1 (t := 70) rfl (fun g70 => ?_) (fun g70 => ?_)
       ·
        exact absurd g70 (by first | (simp [h1, h2, k1, k2]; done) | (simp_all; done) | (simp_all; omega))
       ·
        refine spG rfl rfl rfl rfl (PE.move rfl) rfl ?_
        refine spG rfl rfl rfl rfl (PE.neq rfl rfl) rfl ?_
        refine spG rfl rfl rfl rfl (PE.move rfl) rfl ?_
        refine Z1 (t := 73) rfl (fun g73 => ?_) (fun g73 => ?_)
        ·
         refine spG rfl rfl rfl rfl (PE.move rfl) rfl ?_
         refine spG rfl rfl rfl rfl (PE.neq rfl rfl) rfl ?_
         refine spG rfl rfl rfl rfl (PE.pick rfl rfl rfl) rfl ?_
         refine sp rfl (PE.pick rfl rfl rfl) rfl ?_
         refine sp rfl (PE.move rfl) rfl ?_
         refine Z1 (t := 78) rfl (fun g78 => ?_) (fun g78 => ?_)
         ·
          exact absurd g78 (by first | (simp [h1, h2, k1, k2]; done) | (simp_all; done) | (simp_all; omega))
         ·
          refine spG rfl rfl rfl rfl (PE.move rfl) rfl ?_
          refine spG rfl rfl rfl rfl (PE.neq rfl rfl) rfl ?_
          refine spG rfl rfl rfl rfl (PE.move rfl) rfl ?_
          refine Z1 (t := 81) rfl (fun g81 => ?_) (fun g81 => ?_)
          ·
           refine spG rfl rfl rfl rfl (PE.move rfl) rfl ?_
           refine spG rfl rfl rfl rfl (PE.neq rfl rfl) rfl ?_
           refine spG rfl rfl rfl rfl (PE.pick rfl rfl rfl) rfl ?_
           refine sp rfl (PE.pick rfl rfl rfl) rfl ?_
           refine sp rfl (PE.move rfl) rfl ?_
           refine Z1 (t := 86) rfl (fun g86 => ?_) (fun g86 => ?_)
           ·
            exact absurd g86 (by first | (simp [h1, h2, k1, k2]; done) | (simp_all; done) | (simp_all; omega))
           ·
            refine spG rfl rfl rfl rfl (PE.move rfl) rfl ?_
            refine spG rfl rfl rfl rfl (PE.lenSl Z1h rfl) rfl ?_
            refine spG rfl rfl rfl rfl (PE.gtr rfl rfl) rfl ?_
            refine sp rfl (PE.pick rfl rfl rfl) rfl ?_
            refine sp rfl (PE.move rfl) rfl ?_
            refine Z1 (t := 91) rfl (fun g91 => ?_) (fun g91 => ?_)
            ·
             exact absurd g91 (by first | (simp [h1, h2, k1, k2]; done) | (simp_all; done) | (simp_all; omega))
            ·
             refine spG rfl rfl rfl rfl (PE.move rfl) rfl ?_
             refine spG rfl rfl rfl rfl (PE.lenSl Z1u rfl) rfl ?_
             refine spG rfl rfl rfl rfl (PE.gtr rfl rfl) rfl ?_
             refine sp rfl (PE.pick rfl rfl rfl) rfl ?_
             refine ZN ⟨_, ?_⟩ (by repeat' first | exact Sub.nil | apply Sub.cons | rfl | (simp [lk]; omega)) (fun _ h => h)
             exact decide_eq_false (show ¬ (496 : Int) < (fl.length : Int) by omega)
          ·
           exact absurd g81 (by first | (simp [h1, h2, k1, k2]; done) | (simp_all; done) | (simp_all; omega))
        ·
         exact absurd g73 (by first | (simp [h1, h2, k1, k2]; done) | (simp_all; done) | (simp_all; omega))
  ·
   rintro ⟨_, rfl⟩
   dsimp only
   refine Z4 rfl (fun hc0 => ?_) (fun hc0 => ?_)
   ·
    exact absurd hc0 (by first | (simp; done) | (rw [decide_eq_false (by omega)]; simp))
   ·
    refine Z2 ?_
    refine Z0 ?_
    refine Z0 ?_
    refine Z6 [0, 1] rfl ?_
    refine sp rfl (PE.move rfl) rfl ?_
    refine sp rfl (PE.eql rfl rfl) rfl ?_
    refine Z1r (ι := Unit) (fun _ => ⟨[(1, .slice ah h.length ch), (5, .pointer (some ⟨b5, 0, none⟩)), (6, .int .i64 n), (8, .slice aT T0.length cT), (9, .int .i64 e1), (10, .slice aF fl.length cF), (11, .int .i64 ge)], (b5, cel 27 (twl t (t.sl (some ⟨ba, oa, none⟩) ca))) :: H, RowsA aF 4 (Ze fl) :: RowsA aT 5 (Zg T0) :: RowsA (some ⟨ba, oa, none⟩) 2 (Zx t.rats) :: R⟩) ?_ ?_
    ·
     refine Z4 rfl (fun hc1 => ?_) (fun hc1 => ?_)
     ·
      try simp only [decide_eq_true_eq, decide_eq_false_iff_not, Bool.and_eq_true, Bool.or_eq_true, Bool.not_eq_true', Int.not_le, Int.not_lt] at hc1
      have hz : e1 = 0 := by simpa using hc1
      obtain ⟨h1, _, h3⟩ := htb.resolve_left (fun h => by have := h.2.1; omega)
      obtain ⟨t1, t2⟩ := Z7v hck hly (by rw [← hnl]; exact h1)
      rw [← h3] at t1 t2
      rw [← hnl] at t2
      have t3 := Z3L hck hly (by rw [← hnl]; exact h1)
      rw [← h3, ← hnl] at t3
      refine Z0 ?_
      refine Z6 [0, 1, 2, 3, 4, 5, 6, 7, 8, 9] rfl ?_
      refine spL rfl rfl (lhA (twl t (t.sl (some ⟨ba, oa, none⟩) ca)) ZZ rfl rfl rfl) rfl ?_
      refine sp rfl (PE.move rfl) rfl ?_
      refine sp rfl (PE.fieldAddr Z0d rfl) rfl ?_
      refine spL rfl rfl (lhA [_, _, _] ZG rfl rfl rfl) rfl ?_
      refine cl rfl Z9o rfl rfl (Z6c t hok T0 hT aT cT t.now (by omega) ba oa ca _ _) ?_
      rintro _ _ R1 ⟨rfl, rfl, hR1⟩
      obtain rfl := hR1.symm
      clear hR1
      unfold hV
      rw [t1, t2]
      refine sp rfl (PE.move rfl) rfl ?_
      refine sp rfl (PE.extract rfl rfl) rfl ?_
      refine sp rfl (PE.extract rfl rfl) rfl ?_
      refine sp rfl (PE.assign rfl) rfl ?_
      refine sp rfl (PE.assign rfl) rfl ?_
      refine Z0 ?_
      refine Z6 [0, 1, 2, 3, 4, 5, 6, 7] rfl ?_
      refine spL rfl rfl (lhA (twl t (t.sl (some ⟨ba, oa, none⟩) ca)) ZZ rfl rfl rfl) rfl ?_
      refine sp rfl (PE.move rfl) rfl ?_
      refine cl rfl Z9e rfl rfl (Z4K t (by omega) T0 aT cT (by omega) ba oa ca _ _) ?_
      rintro _ _ R1 ⟨rfl, rfl, hR1⟩
      obtain rfl := hR1.symm
      clear hR1
      rw [t3]
      refine sp rfl (PE.move rfl) rfl ?_
      refine sp rfl (PE.extract rfl rfl) rfl ?_
      refine sp rfl (PE.extract rfl rfl) rfl ?_
      refine sp rfl (PE.assign rfl) rfl ?_
      refine sp rfl (PE.assign rfl) rfl ?_
      refine Z0 ?_
      refine Z6 [0, 1, 2, 3, 4, 5, 6, 7, 8, 9, 10, 11, 12, 13, 14, 15] rfl ?_
      refine sp rfl (PE.move rfl) rfl ?_
      refine sp rfl (PE.not rfl) rfl ?_
      refine sp rfl (PE.move rfl) rfl ?_
      refine Z1 (t := 114) rfl (fun g114 => ?_) (fun g114 => ?_)
      ·
       exact absurd g114 (by first | (simp; done) | (rw [decide_eq_false (by omega)]; simp))
      ·
       refine spG rfl rfl rfl rfl (PE.move rfl) rfl ?_
       refine spG rfl rfl rfl rfl (PE.move rfl) rfl ?_
       refine spG rfl rfl rfl rfl (PE.neq rfl rfl) rfl ?_
       refine sp rfl (PE.pick rfl rfl rfl) rfl ?_
       refine sp rfl (PE.move rfl) rfl ?_
       refine Z1 (t := 119) rfl (fun g119 => ?_) (fun g119 => ?_)
       ·
        exact absurd g119 (by first | (simp; done) | (rw [decide_eq_false (by omega)]; simp))
       ·
        refine spG rfl rfl rfl rfl (PE.move rfl) rfl ?_
        refine spG rfl rfl rfl rfl (PE.neq rfl rfl) rfl ?_
        refine sp rfl (PE.pick rfl rfl rfl) rfl ?_
        refine sp rfl (PE.move rfl) rfl ?_
        refine Z1 (t := 123) rfl (fun g123 => ?_) (fun g123 => ?_)
        ·
         exact absurd g123 (by first | (simp; done) | (rw [decide_eq_false (by omega)]; simp))
        ·
         refine spG rfl rfl rfl rfl (PE.move rfl) rfl ?_
         refine spG rfl rfl rfl rfl (PE.move rfl) rfl ?_
         refine spG rfl rfl rfl rfl (PE.neq rfl rfl) rfl ?_
         refine sp rfl (PE.pick rfl rfl rfl) rfl ?_
         refine Z4 rfl (fun hc2 => ?_) (fun hc2 => ?_)
         ·
          exact absurd hc2 (by first | (simp; done) | (rw [decide_eq_false (by omega)]; simp))
         ·
          refine Z2 ?_
          exact Z04 () (by repeat' first | exact Sub.nil | apply Sub.cons | rfl | (simp [lk]; omega)) (fun _ h => h)
     ·
      try simp only [decide_eq_true_eq, decide_eq_false_iff_not, Bool.and_eq_true, Bool.or_eq_true, Bool.not_eq_true', Int.not_le, Int.not_lt] at hc1
      
      refine Z2 ?_
      exact Z04 () (by repeat' first | exact Sub.nil | apply Sub.cons | rfl | (simp [lk]; omega)) (fun _ h => h)
    ·
     rintro ⟨⟩
     dsimp only
     refine Z0 ?_
     refine Z0 ?_
     refine Z6 [0, 1] rfl ?_
     refine sp rfl (PE.move rfl) rfl ?_
     refine sp rfl (PE.eql rfl rfl) rfl ?_
     refine Z1r (ι := Unit) (fun _ => ⟨[(1, .slice ah h.length ch), (5, .pointer (some ⟨b5, 0, none⟩)), (6, .int .i64 n), (8, .slice aT T0.length cT), (9, .int .i64 e1), (10, .slice aF fl.length cF), (11, .int .i64 ge)], (b5, cel 27 (twl t (t.sl (some ⟨ba, oa, none⟩) ca))) :: H, RowsA aF 4 (Ze fl) :: RowsA aT 5 (Zg T0) :: RowsA (some ⟨ba, oa, none⟩) 2 (Zx t.rats) :: R⟩) ?_ ?_
     ·
      refine Z4 rfl (fun hc3 => ?_) (fun hc3 => ?_)
      ·
       try simp only [decide_eq_true_eq, decide_eq_false_iff_not, Bool.and_eq_true, Bool.or_eq_true, Bool.not_eq_true', Int.not_le, Int.not_lt] at hc3
       have hz : ge = 0 := by simpa using hc3
       obtain ⟨h1, _, h3⟩ := hfl.resolve_left (fun h => by have := h.2.1; omega)
       obtain ⟨t1, t2⟩ := Z7D hck hF (by omega) (by rw [← hnl]; exact h3)
       rw [← hnl] at t2
       refine Z0 ?_
       refine Z6 [0, 1, 2, 3, 4, 5, 6, 7, 8, 9] rfl ?_
       refine spL rfl rfl (lhA (twl t (t.sl (some ⟨ba, oa, none⟩) ca)) ZZ rfl rfl rfl) rfl ?_
       refine sp rfl (PE.move rfl) rfl ?_
       refine sp rfl (PE.fieldAddr Z0d rfl) rfl ?_
       refine spL rfl rfl (lhA [_, _, _] ZG rfl rfl rfl) rfl ?_
       refine cl rfl Z7F rfl rfl (Z4W t hok fl 496 hF (by omega) aF cF t.now (by omega) ba oa ca _ _) ?_
       rintro _ _ R1 ⟨rfl, rfl, hR1⟩
       obtain rfl := hR1.symm
       clear hR1
       unfold dV
       rw [t1, t2]
       refine sp rfl (PE.move rfl) rfl ?_
       refine sp rfl (PE.extract rfl rfl) rfl ?_
       refine sp rfl (PE.extract rfl rfl) rfl ?_
       refine sp rfl (PE.assign rfl) rfl ?_
       refine sp rfl (PE.assign rfl) rfl ?_
       refine Z0 ?_
       refine Z6 [0, 1, 2, 3, 4, 5, 6, 7] rfl ?_
       refine spL rfl rfl (lhA (twl t (t.sl (some ⟨ba, oa, none⟩) ca)) ZZ rfl rfl rfl) rfl ?_
       refine sp rfl (PE.move rfl) rfl ?_
       refine cl rfl Z7w rfl rfl (Z1L t (by omega) fl aF cF (by omega) ba oa ca _ _) ?_
       rintro _ _ R1 ⟨rfl, rfl, hR1⟩
       obtain rfl := hR1.symm
       clear hR1
       rw [h3]
       refine sp rfl (PE.move rfl) rfl ?_
       refine sp rfl (PE.extract rfl rfl) rfl ?_
       refine sp rfl (PE.extract rfl rfl) rfl ?_
       refine sp rfl (PE.assign rfl) rfl ?_
       refine sp rfl (PE.assign rfl) rfl ?_
       refine Z0 ?_
       refine Z6 [0, 1, 2, 3, 4, 5, 6, 7, 8, 9, 10, 11, 12, 13, 14, 15, 16, 17] rfl ?_
       refine sp rfl (PE.move rfl) rfl ?_
       refine sp rfl (PE.not rfl) rfl ?_
       refine sp rfl (PE.move rfl) rfl ?_
       refine Z1 (t := 146) rfl (fun g146 => ?_) (fun g146 => ?_)
       ·
        exact absurd g146 (by first | (simp; done) | (rw [decide_eq_false (by omega)]; simp))
       ·
        refine spG rfl rfl rfl rfl (PE.move rfl) rfl ?_
        refine spG rfl rfl rfl rfl (PE.move rfl) rfl ?_
        refine spG rfl rfl rfl rfl (PE.add rfl rfl (by omega)) rfl ?_
        refine spG rfl rfl rfl rfl (PE.neq rfl rfl) rfl ?_
        refine sp rfl (PE.pick rfl rfl rfl) rfl ?_
        refine sp rfl (PE.move rfl) rfl ?_
        refine Z1 (t := 152) rfl (fun g152 => ?_) (fun g152 => ?_)
        ·
         exact absurd g152 (by first | (simp; done) | (rw [decide_eq_false (by omega)]; simp))
        ·
         refine spG rfl rfl rfl rfl (PE.move rfl) rfl ?_
         refine spG rfl rfl rfl rfl (PE.neq rfl rfl) rfl ?_
         refine sp rfl (PE.pick rfl rfl rfl) rfl ?_
         refine sp rfl (PE.move rfl) rfl ?_
         refine Z1 (t := 156) rfl (fun g156 => ?_) (fun g156 => ?_)
         ·
          exact absurd g156 (by first | (simp; done) | (rw [decide_eq_false (by omega)]; simp))
         ·
          refine spG rfl rfl rfl rfl (PE.move rfl) rfl ?_
          refine spG rfl rfl rfl rfl (PE.move rfl) rfl ?_
          refine spG rfl rfl rfl rfl (PE.add rfl rfl (by omega)) rfl ?_
          refine spG rfl rfl rfl rfl (PE.neq rfl rfl) rfl ?_
          refine sp rfl (PE.pick rfl rfl rfl) rfl ?_
          refine Z4 rfl (fun hc4 => ?_) (fun hc4 => ?_)
          ·
           exact absurd hc4 (by first | (simp; done) | (rw [decide_eq_false (by omega)]; simp))
          ·
           refine Z2 ?_
           exact Z04 () (by repeat' first | exact Sub.nil | apply Sub.cons | rfl | (simp [lk]; omega)) (fun _ h => h)
      ·
       try simp only [decide_eq_true_eq, decide_eq_false_iff_not, Bool.and_eq_true, Bool.or_eq_true, Bool.not_eq_true', Int.not_le, Int.not_lt] at hc3
       
       refine Z2 ?_
       exact Z04 () (by repeat' first | exact Sub.nil | apply Sub.cons | rfl | (simp [lk]; omega)) (fun _ h => h)
     ·
      rintro ⟨⟩
      dsimp only
      refine Z0 ?_
      refine Z6 [0, 1, 2] rfl ?_
      refine sp rfl (PE.move rfl) rfl ?_
      refine cl rfl Zb7 rfl rfl (Z8k h ah ch hhl _ _) ?_
      rintro _ _ R1 ⟨bh, mq, hmq, rfl, rfl, hR1⟩
      obtain rfl := hR1.symm
      refine sp rfl (PE.assign rfl) rfl ?_
      refine Z0 ?_
      refine Z0 ?_
      refine Z6 [0] rfl ?_
      refine sp rfl (PE.move rfl) rfl ?_
      refine Z7 ?_
      refine Zy (ι := {x : Nat × Int × Int // x.1 ≤ 4 ∧ (0 ≤ x.2.1 ∧ x.2.1 ≤ 4000 * x.1) ∧ (0 ≤ x.2.2 ∧ x.2.2 ≤ 4294967295)}) (fun x => ⟨[(5, .pointer (some ⟨b5, 0, none⟩)), (6, .int .i64 n), (8, .slice aT T0.length cT), (10, .slice aF fl.length cF), (20, .pointer (some ⟨bh, 0, none⟩)), (164, .int .i64 x.1.1)], (bh, cel 80 [.slice ah h.length ch, .int .i64 (x.1.2.1), .int .u32 (x.1.2.2)]) :: (b5, cel 27 (twl t (t.sl (some ⟨ba, oa, none⟩) ca))) :: H, RowsA aF 4 (Ze fl) :: RowsA aT 5 (Zg T0) :: RowsA (some ⟨ba, oa, none⟩) 2 (Zx t.rats) :: R⟩) (fun x => 4 - x.1.1) ⟨(0, 0, mq), by omega, by dsimp only; omega, by assumption⟩ ?_ (fun x => ?_)
      ·
       exact Z4l (by repeat' first | exact Sub.nil | apply Sub.cons | rfl | (simp [lk]; omega)) (fun _ h => h)
      ·
       obtain ⟨⟨j, tq, mz⟩, hj4, htq, hmz⟩ := x
       dsimp only at hj4 htq hmz ⊢
       refine Z0 ?_
       refine Z6 [0] rfl ?_
       refine sp rfl (PE.lss rfl rfl) rfl ?_
       refine Z0 ?_
       refine Z4 rfl (fun hc5 => ?_) (fun hc5 => ?_)
       ·
        try simp only [decide_eq_true_eq, decide_eq_false_iff_not, Bool.and_eq_true, Bool.or_eq_true, Bool.not_eq_true', Int.not_le, Int.not_lt] at hc5
        
        refine Z2 ?_
        refine Z0 ?_
        refine Z7 ?_
        refine Z0 ?_
        refine Z6 [0, 1, 2, 3, 4, 5] rfl ?_
        refine sp rfl (PE.move rfl) rfl ?_
        refine cl rfl ZaI rfl rfl (Z4F T0 aT cT (by omega) _ _) ?_
        rintro _ _ R1 ⟨ox, rfl, rfl, hR1⟩
        obtain rfl := hR1.symm
        clear hR1
        refine sp rfl (PE.move rfl) rfl ?_
        refine cl rfl Z9r rfl rfl (Z27 fl aF cF (by omega) _ _) ?_
        rintro _ _ R1 ⟨oy, rfl, rfl, hR1⟩
        obtain rfl := hR1.symm
        clear hR1
        refine sp rfl (PE.assign rfl) rfl ?_
        refine sp rfl (PE.assign rfl) rfl ?_
        refine Z0 ?_
        refine Z0 ?_
        refine Z6 [0, 1, 2] rfl ?_
        obtain ⟨x1, x2, hx9⟩ := Z5c ox
        rw [ZC] at hx9
        refine sp rfl (PE.move rfl) rfl ?_
        refine sp rfl (PE.lenSl Z1h (show _ = some (Value.slice x1 T0.length x2) from congrArg some hx9)) rfl ?_
        refine sp rfl (PE.move rfl) rfl ?_
        refine Z7 ?_
        refine Zy (ι := (x : {x : Nat × List Rw × Int × Int // x.1 ≤ T0.length ∧ x.2.1.length = T0.length ∧ TbOk t x.2.1 ∧ (0 ≤ x.2.2.1 ∧ x.2.2.1 ≤ 4000 * j + 2 * x.1) ∧ (0 ≤ x.2.2.2 ∧ x.2.2.2 ≤ 4294967295)}) × OSl 48 5 (Zg x.1.2.1)) (fun x => ⟨[(5, .pointer (some ⟨b5, 0, none⟩)), (6, .int .i64 n), (8, .slice aT T0.length cT), (10, .slice aF fl.length cF), (20, .pointer (some ⟨bh, 0, none⟩)), (164, .int .i64 j), (22, oy.fs), (171, .int .i64 T0.length), (21, x.2.fs), (172, .int .i64 x.1.1.1)], (bh, cel 80 [.slice ah h.length ch, .int .i64 (x.1.1.2.2.1), .int .u32 (x.1.1.2.2.2)]) :: (x.2.G ++ (oy.G ++ (b5, cel 27 (twl t (t.sl (some ⟨ba, oa, none⟩) ca))) :: H)), RowsA aF 4 (Ze fl) :: RowsA aT 5 (Zg T0) :: RowsA (some ⟨ba, oa, none⟩) 2 (Zx t.rats) :: R⟩) (fun x => T0.length - x.1.1.1) ⟨⟨(0, T0, tq, mz), by omega, rfl, hT, by dsimp only; omega, by assumption⟩, ox⟩ ?_ (fun x => ?_)
        ·
         refine Sy.heap (fun w h => h.pullG ox.G) ?_
         refine ZL bh ?_
         exact Z4l (by repeat' first | exact Sub.nil | apply Sub.cons | rfl | (simp [lk]; omega)) (fun _ h => h)
        ·
         obtain ⟨⟨⟨k, X, tq, mz⟩, hk, hXl, hX, htq, hmz⟩, ox⟩ := x
         dsimp only at hk hXl hX htq hmz ox ⊢
         refine Z0 ?_
         refine Z6 [0] rfl ?_
         refine sp rfl (PE.lss rfl rfl) rfl ?_
         refine Z0 ?_
         refine Z4 rfl (fun hc6 => ?_) (fun hc6 => ?_)
         ·
          try simp only [decide_eq_true_eq, decide_eq_false_iff_not, Bool.and_eq_true, Bool.or_eq_true, Bool.not_eq_true', Int.not_le, Int.not_lt] at hc6
          obtain ⟨x, hx⟩ : ∃ x, X[k]? = some x := ⟨_, List.getElem?_eq_getElem (by omega)⟩
          obtain ⟨xb, xcap, xj, hfs, hG, hj, hcap, hmx9⟩ := ox.is.resolve_left (fun h => by have := congrArg List.length h.1; rw [ZC] at this; simp only [List.length_nil] at this; omega)
          rw [ZC, hXl] at hfs
          rw [ZC] at hcap hj
          rw [hfs, hG]
          refine Sy.heap (H' := (bh, cel 80 [.slice ah h.length ch, .int .i64 (tq), .int .u32 (mz)]) :: (xb, cel 48 ((Zg (X)).flatten ++ xj)) :: (oy.G ++ (b5, cel 27 (twl t (t.sl (some ⟨ba, oa, none⟩) ca))) :: H)) (fun w h => h) ?_
          have hxg := hX.rg x (List.mem_of_getElem? hx)
          refine Z2 ?_
          refine Z0 ?_
          refine Z7 ?_
          refine Z0 ?_
          refine Z6 [0, 1] rfl ?_
          refine sp rfl (PE.move rfl) rfl ?_
          refine sp rfl (PE.assign rfl) rfl ?_
          refine Z0 ?_
          refine Z6 [0, 1, 2, 3, 4] rfl ?_
          refine sp rfl (PE.move rfl) rfl ?_
          refine sp rfl (PE.move rfl) rfl ?_
          refine sp rfl (PE.lenSl Z1h rfl) rfl ?_
          refine sp rfl (PE.add rfl rfl (by omega)) rfl ?_
          refine cl rfl Z7m rfl rfl (Z5b h ah ch bh hhl _ _ (by omega) (by assumption) (1 + T0.length) _ _) ?_
          rintro _ _ R1 ⟨y179, m179, rfl, hm179, rfl, hR1⟩
          obtain rfl := hR1.symm
          clear hR1
          refine Z4 rfl (fun hc7 => ?_) (fun hc7 => ?_)
          ·
           refine Z9 [0, 0, 0, 0, 12, 28, 60, 0, 128, 508, 1020, 2044, 4095, 8191, 16383] (.tk 0 (.tk 1 (.tk 2 (.tk 3 (.tk 4 (.tk 5 (.ld 6 (.tk 7 (.big 8 (.tk 9 (.tk 10 (.tk 11 (.tk 12 (.tk 13 (.big 14 .done))))))))))))))) Zw (by kernel_rfl) ?_
           refine tk rfl (PE.move rfl) rfl ?_
           refine tk rfl (PE.move rfl) rfl ?_
           refine tk rfl (PE.move rfl) rfl ?_
           refine tk rfl (PE.move rfl) rfl ?_
           refine tk rfl (PE.indexAddr Z9l rfl rfl (by omega) (by omega)) rfl ?_
           refine tk rfl (PE.fieldAddr Z0w rfl) rfl ?_
           refine ld rfl rfl (lh sc3 rfl (Z6L (junk := xj) hx (by omega))) rfl ?_
           refine tk rfl (PE.move rfl) rfl ?_
           refine cl rfl Z2V rfl rfl (Z0C h ah ch bh hhl _ _ (by omega) (by assumption) (-2) 2 (by omega) _ _) ?_
           rintro _ _ R1 ⟨x188, m188, hx188, rfl, hm188, rfl, hR1⟩
           obtain rfl := hR1.symm
           refine bg (fun w hs => ⟨(lh sc3 rfl (Z6L (junk := xj) hx (by omega))) w hs, trivial⟩) ?_
           refine tk rfl (PE.add rfl rfl (by omega)) rfl ?_
           refine tk rfl (PE.min rfl rfl) rfl ?_
           refine tk rfl (PE.max rfl rfl) rfl ?_
           refine tk rfl (PE.indexAddr Z9l rfl rfl (by omega) (by omega)) rfl ?_
           refine tk rfl (PE.fieldAddr Z0w rfl) rfl ?_
           refine Z5V (l' := (Zg (X.set k { x with lasts := max 0 (min 1000000 (x.lasts + x188)) })).flatten ++ xj) rfl rfl rfl cn3 rfl rfl rfl (Z97 hx _ (by omega)) (by rw [List.length_append, Z0Q]; show 0 + ((k : Nat) : Int).toNat * 5 + 3 + 1 ≤ _; omega) ?_
           refine bg (fun w hs => ⟨trivial, trivial⟩) ?_
           refine Z6 [0, 1] rfl ?_
           refine sp rfl (PE.add rfl rfl (by omega)) rfl ?_
           refine sp rfl (PE.move rfl) rfl ?_
           first
             | (have e21 : (Z4p 48 5 xb xcap xj (Zg ((X.set k { x with lasts := max 0 (min 1000000 (x.lasts + x188)) }))) (Z0c _) (Z84 hj _ (by simp [ZC, hXl])) (by simp only [ZC, List.length_set]; omega) hmx9).fs = .slice (some ⟨xb, 0, none⟩) T0.length xcap := (by show Value.slice _ (Zg _).length _ = _; rw [ZC]; simp [hXl])
                rw [← e21]
                exact Zc ⟨⟨(k + 1, (X.set k { x with lasts := max 0 (min 1000000 (x.lasts + x188)) }), tq + 1 + 1, m188), by omega, by simp [hXl], hX.put hx (by omega), by dsimp only; omega, by assumption⟩, Z4p 48 5 xb xcap xj (Zg ((X.set k { x with lasts := max 0 (min 1000000 (x.lasts + x188)) }))) (Z0c _) (Z84 hj _ (by simp [ZC, hXl])) (by simp only [ZC, List.length_set]; omega) hmx9⟩ (by dsimp only; omega) (by repeat' first | exact Sub.nil | apply Sub.cons | rfl | (simp [lk]; omega)) (fun _ h => h))
             | (have e21 : (Z4p 48 5 xb xcap xj (Zg (X)) (Z0c _) (Z84 hj _ (by simp [ZC, hXl])) (by simp only [ZC, List.length_set]; omega) hmx9).fs = .slice (some ⟨xb, 0, none⟩) T0.length xcap := (by show Value.slice _ (Zg _).length _ = _; rw [ZC]; simp [hXl])
                rw [← e21]
                exact Zc ⟨⟨(k + 1, X, tq + 1, m179), by omega, by simp [hXl], hX, by dsimp only; omega, by assumption⟩, Z4p 48 5 xb xcap xj (Zg (X)) (Z0c _) (Z84 hj _ (by simp [ZC, hXl])) (by simp only [ZC, List.length_set]; omega) hmx9⟩ (by dsimp only; omega) (by repeat' first | exact Sub.nil | apply Sub.cons | rfl | (simp [lk]; omega)) (fun _ h => h))
          ·
           refine Z2 ?_
           refine Z6 [0, 1] rfl ?_
           refine sp rfl (PE.add rfl rfl (by omega)) rfl ?_
           refine sp rfl (PE.move rfl) rfl ?_
           first
             | (have e21 : (Z4p 48 5 xb xcap xj (Zg ((X.set k { x with lasts := max 0 (min 1000000 (x.lasts + x188)) }))) (Z0c _) (Z84 hj _ (by simp [ZC, hXl])) (by simp only [ZC, List.length_set]; omega) hmx9).fs = .slice (some ⟨xb, 0, none⟩) T0.length xcap := (by show Value.slice _ (Zg _).length _ = _; rw [ZC]; simp [hXl])
                rw [← e21]
                exact Zc ⟨⟨(k + 1, (X.set k { x with lasts := max 0 (min 1000000 (x.lasts + x188)) }), tq + 1 + 1, m188), by omega, by simp [hXl], hX.put hx (by omega), by dsimp only; omega, by assumption⟩, Z4p 48 5 xb xcap xj (Zg ((X.set k { x with lasts := max 0 (min 1000000 (x.lasts + x188)) }))) (Z0c _) (Z84 hj _ (by simp [ZC, hXl])) (by simp only [ZC, List.length_set]; omega) hmx9⟩ (by dsimp only; omega) (by repeat' first | exact Sub.nil | apply Sub.cons | rfl | (simp [lk]; omega)) (fun _ h => h))
             | (have e21 : (Z4p 48 5 xb xcap xj (Zg (X)) (Z0c _) (Z84 hj _ (by simp [ZC, hXl])) (by simp only [ZC, List.length_set]; omega) hmx9).fs = .slice (some ⟨xb, 0, none⟩) T0.length xcap := (by show Value.slice _ (Zg _).length _ = _; rw [ZC]; simp [hXl])
                rw [← e21]
                exact Zc ⟨⟨(k + 1, X, tq + 1, m179), by omega, by simp [hXl], hX, by dsimp only; omega, by assumption⟩, Z4p 48 5 xb xcap xj (Zg (X)) (Z0c _) (Z84 hj _ (by simp [ZC, hXl])) (by simp only [ZC, List.length_set]; omega) hmx9⟩ (by dsimp only; omega) (by repeat' first | exact Sub.nil | apply Sub.cons | rfl | (simp [lk]; omega)) (fun _ h => h))
         ·
          try simp only [decide_eq_true_eq, decide_eq_false_iff_not, Bool.and_eq_true, Bool.or_eq_true, Bool.not_eq_true', Int.not_le, Int.not_lt] at hc6
          obtain rfl : k = T0.length := by omega
          obtain ⟨x1, x2, hx9⟩ := Z5c ox
          rw [ZC, hXl] at hx9
          refine Zm ?_
          refine Zt ?_
          refine Zt ?_
          refine ZU ?_
          refine Z0 ?_
          refine Z0 ?_
          refine Z5v (ι := {z : Bool × Int × Int // (z.1 = true → 0 < T0.length) ∧ (0 ≤ z.2.1 ∧ z.2.1 ≤ 4000 * j + 1000) ∧ (0 ≤ z.2.2 ∧ z.2.2 ≤ 4294967295)}) (fun z => ⟨[(5, .pointer (some ⟨b5, 0, none⟩)), (6, .int .i64 n), (8, .slice aT T0.length cT), (10, .slice aF fl.length cF), (20, .pointer (some ⟨bh, 0, none⟩)), (164, .int .i64 j), (21, ox.fs), (22, oy.fs), (201, .bool z.1.1)], (bh, cel 80 [.slice ah h.length ch, .int .i64 (z.1.2.1), .int .u32 (z.1.2.2)]) :: (ox.G ++ (oy.G ++ (b5, cel 27 (twl t (t.sl (some ⟨ba, oa, none⟩) ca))) :: H)), RowsA aF 4 (Ze fl) :: RowsA aT 5 (Zg T0) :: RowsA (some ⟨ba, oa, none⟩) 2 (Zx t.rats) :: R⟩) ?_ ?_
          ·
           refine Z6 [0, 1, 2, 3, 4, 5, 6] rfl ?_
           refine sp rfl (PE.move rfl) rfl ?_
           refine sp rfl (PE.lenSl Z1h (show _ = some (Value.slice x1 T0.length x2) from congrArg some hx9)) rfl ?_
           refine sp rfl (PE.gtr rfl rfl) rfl ?_
           refine sp rfl (PE.move rfl) rfl ?_
           refine Z1 (t := 198) rfl (fun g198 => ?_) (fun g198 => ?_)
           ·
            refine spG rfl rfl rfl rfl (PE.move rfl) rfl ?_
            refine clG rfl rfl rfl rfl Z7m rfl rfl (Z5b h ah ch bh hhl _ _ (by omega) (by assumption) (2) _ _) ?_
            rintro _ _ R1 ⟨y200, m200, rfl, hm200, rfl, hR1⟩
            obtain rfl := hR1.symm
            clear hR1
            refine sp rfl (PE.pick rfl rfl rfl) rfl ?_
            first
              | exact ZN ⟨(y200, tq + 1, m200), fun _ => (by simpa using g198), by dsimp only; omega, by assumption⟩ (by repeat' first | exact Sub.nil | apply Sub.cons | rfl | (simp [lk]; omega)) (fun _ h => h)
              | exact ZN ⟨(false, tq, mz), (fun h => by cases h), by dsimp only; omega, by assumption⟩ (by repeat' first | exact Sub.nil | apply Sub.cons | rfl | (simp [lk]; omega)) (fun _ h => h)
           ·
            refine spN rfl rfl rfl rfl rfl rfl rfl rfl ?_
            refine spN rfl rfl rfl rfl rfl rfl rfl rfl ?_
            refine sp rfl (PE.pick rfl rfl rfl) rfl ?_
            first
              | exact ZN ⟨(y200, tq + 1, m200), fun _ => (by simpa using g198), by dsimp only; omega, by assumption⟩ (by repeat' first | exact Sub.nil | apply Sub.cons | rfl | (simp [lk]; omega)) (fun _ h => h)
              | exact ZN ⟨(false, tq, mz), (fun h => by cases h), by dsimp only; omega, by assumption⟩ (by repeat' first | exact Sub.nil | apply Sub.cons | rfl | (simp [lk]; omega)) (fun _ h => h)
          ·
           rintro ⟨⟨r8, tq, mz⟩, hr8, htq, hmz⟩
           dsimp only at hr8 htq hmz ⊢
           refine Z1r (ι := {z : (List Rw × Option Addr × Nat) × Int × Int // TbOk t z.1.1 ∧ (0 ≤ z.2.1 ∧ z.2.1 ≤ 4000 * j + 1010) ∧ (0 ≤ z.2.2 ∧ z.2.2 ≤ 4294967295)}) (fun z => ⟨[(5, .pointer (some ⟨b5, 0, none⟩)), (6, .int .i64 n), (8, .slice aT T0.length cT), (10, .slice aF fl.length cF), (20, .pointer (some ⟨bh, 0, none⟩)), (164, .int .i64 j), (21, .slice z.1.1.2.1 z.1.1.1.length z.1.1.2.2), (22, oy.fs)], (bh, cel 80 [.slice ah h.length ch, .int .i64 (z.1.2.1), .int .u32 (z.1.2.2)]) :: (oy.G ++ (b5, cel 27 (twl t (t.sl (some ⟨ba, oa, none⟩) ca))) :: H), RowsA z.1.1.2.1 5 (Zg z.1.1.1) :: RowsA aF 4 (Ze fl) :: RowsA aT 5 (Zg T0) :: RowsA (some ⟨ba, oa, none⟩) 2 (Zx t.rats) :: R⟩) ?_ ?_
           ·
            refine Z4 rfl (fun hc8 => ?_) (fun hc8 => ?_)
            ·
             have hpos : 0 < T0.length := hr8 hc8
             refine Z0 ?_
             refine Z6 [0, 1, 2, 3, 4] rfl ?_
             refine sp rfl (PE.move rfl) rfl ?_
             refine sp rfl (PE.move rfl) rfl ?_
             refine sp rfl (PE.lenSl Z1h (show _ = some (Value.slice x1 T0.length x2) from congrArg some hx9)) rfl ?_
             refine cl rfl Z1i rfl rfl (ZY h ah ch bh hhl _ _ (by omega) (by assumption) (T0.length) _ _) ?_
             rintro _ _ R1 ⟨x205, m205, hx205, rfl, hm205, rfl, hR1⟩
             obtain rfl := hR1.symm
             obtain ⟨i, rfl⟩ : ∃ i : Nat, x205 = i := ⟨x205.toNat, by omega⟩
             refine sp rfl (PE.assign rfl) rfl ?_
             refine Z6 [0, 1, 2, 3, 4, 5] rfl ?_
             refine sp rfl (PE.move rfl) rfl ?_
             refine sp rfl (PE.move rfl) rfl ?_
             refine sp rfl (PE.move rfl) rfl ?_
             refine sp rfl (PE.add rfl rfl (by omega)) rfl ?_
             rw [show (i : Int) + 1 = ((i + 1 : Nat) : Int) by omega]
             refine Sy.heap (fun w h => h.pullG ox.G) ?_
             refine cl rfl ZaE rfl rfl (Z4g X ox (by omega) i (by omega) _ _) ?_
             rintro _ _ R1 ⟨a8, c8, rfl, rfl, hR1⟩
             obtain rfl := hR1.symm
             clear hR1
             refine sp rfl (PE.assign rfl) rfl ?_
             first
               | exact Z04 ⟨((X.eraseIdx i, a8, c8), tq + 1, m205), hX.erase i, by dsimp only; omega, by assumption⟩ (by repeat' first | exact Sub.nil | apply Sub.cons | rfl | (simp [lk]; omega)) (fun _ h => h)
               | (obtain ⟨a8, c8, he8, hf8⟩ := ox.freeze
                  rw [ZC] at he8
                  rw [he8]
                  refine Sy.heap (fun w h => hf8 (h.pullG ox.G)) ?_
                  exact Z04 ⟨((X, a8, c8), tq, mz), hX, by dsimp only; omega, by assumption⟩ (by repeat' first | exact Sub.nil | apply Sub.cons | rfl | (simp [lk]; omega)) (fun _ h => h))
            ·
             refine Z2 ?_
             first
               | exact Z04 ⟨((X.eraseIdx i, a8, c8), tq + 1, m205), hX.erase i, by dsimp only; omega, by assumption⟩ (by repeat' first | exact Sub.nil | apply Sub.cons | rfl | (simp [lk]; omega)) (fun _ h => h)
               | (obtain ⟨a8, c8, he8, hf8⟩ := ox.freeze
                  rw [ZC] at he8
                  rw [he8]
                  refine Sy.heap (fun w h => hf8 (h.pullG ox.G)) ?_
                  exact Z04 ⟨((X, a8, c8), tq, mz), hX, by dsimp only; omega, by assumption⟩ (by repeat' first | exact Sub.nil | apply Sub.cons | rfl | (simp [lk]; omega)) (fun _ h => h))
           ·
            rintro ⟨⟨⟨X2, a2, c2⟩, tq, mz⟩, hX2, htq, hmz⟩
            dsimp only at hX2 htq hmz ⊢
            have hX9 := hX2.len
            refine Z0 ?_
            refine Z0 ?_
            refine Z6 [0, 1, 2] rfl ?_
            obtain ⟨y1, y2, hy9⟩ := Z5c oy
            rw [ZB] at hy9
            refine sp rfl (PE.move rfl) rfl ?_
            refine sp rfl (PE.lenSl Z1u (show _ = some (Value.slice y1 fl.length y2) from congrArg some hy9)) rfl ?_
            refine sp rfl (PE.move rfl) rfl ?_
            refine Z7 ?_
            refine Zy (ι := (x : {x : Nat × List Fat × Int × Int // x.1 ≤ fl.length ∧ x.2.1.length = fl.length ∧ FtOk t x.2.1 (496 + 2 * x.1) ∧ (0 ≤ x.2.2.1 ∧ x.2.2.1 ≤ 4000 * j + 1010 + 2 * x.1) ∧ (0 ≤ x.2.2.2 ∧ x.2.2.2 ≤ 4294967295)}) × OSl 51 4 (Ze x.1.2.1)) (fun x => ⟨[(5, .pointer (some ⟨b5, 0, none⟩)), (6, .int .i64 n), (8, .slice aT T0.length cT), (10, .slice aF fl.length cF), (20, .pointer (some ⟨bh, 0, none⟩)), (164, .int .i64 j), (21, .slice a2 X2.length c2), (212, .int .i64 fl.length), (22, x.2.fs), (213, .int .i64 x.1.1.1)], (bh, cel 80 [.slice ah h.length ch, .int .i64 (x.1.1.2.2.1), .int .u32 (x.1.1.2.2.2)]) :: (x.2.G ++ ((b5, cel 27 (twl t (t.sl (some ⟨ba, oa, none⟩) ca))) :: H)), RowsA a2 5 (Zg X2) :: RowsA aF 4 (Ze fl) :: RowsA aT 5 (Zg T0) :: RowsA (some ⟨ba, oa, none⟩) 2 (Zx t.rats) :: R⟩) (fun x => fl.length - x.1.1.1) ⟨⟨(0, fl, tq, mz), by omega, rfl, hF.mono (by omega), by dsimp only; omega, by assumption⟩, oy⟩ ?_ (fun x => ?_)
            ·
             exact Z4l (by repeat' first | exact Sub.nil | apply Sub.cons | rfl | (simp [lk]; omega)) (fun _ h => h)
            ·
             obtain ⟨⟨⟨k, Y, tq, mz⟩, hk, hXl, hY, htq, hmz⟩, oy⟩ := x
             dsimp only at hk hXl hY htq hmz oy ⊢
             refine Z0 ?_
             refine Z6 [0] rfl ?_
             refine sp rfl (PE.lss rfl rfl) rfl ?_
             refine Z0 ?_
             refine Z4 rfl (fun hc9 => ?_) (fun hc9 => ?_)
             ·
              try simp only [decide_eq_true_eq, decide_eq_false_iff_not, Bool.and_eq_true, Bool.or_eq_true, Bool.not_eq_true', Int.not_le, Int.not_lt] at hc9
              obtain ⟨x, hx⟩ : ∃ x, Y[k]? = some x := ⟨_, List.getElem?_eq_getElem (by omega)⟩
              obtain ⟨xb, xcap, xj, hfs, hG, hj, hcap, hmx9⟩ := oy.is.resolve_left (fun h => by have := congrArg List.length h.1; rw [ZB] at this; simp only [List.length_nil] at this; omega)
              rw [ZB, hXl] at hfs
              rw [ZB] at hcap hj
              rw [hfs, hG]
              refine Sy.heap (H' := (bh, cel 80 [.slice ah h.length ch, .int .i64 (tq), .int .u32 (mz)]) :: (xb, cel 51 ((Ze (Y)).flatten ++ xj)) :: ((b5, cel 27 (twl t (t.sl (some ⟨ba, oa, none⟩) ca))) :: H)) (fun w h => h) ?_
              have hxg := hY.rg x (List.mem_of_getElem? hx)
              refine Z2 ?_
              refine Z0 ?_
              refine Z7 ?_
              refine Z0 ?_
              refine Z6 [0, 1] rfl ?_
              refine sp rfl (PE.move rfl) rfl ?_
              refine sp rfl (PE.assign rfl) rfl ?_
              refine Z0 ?_
              refine Z6 [0, 1, 2, 3, 4] rfl ?_
              refine sp rfl (PE.move rfl) rfl ?_
              refine sp rfl (PE.move rfl) rfl ?_
              refine sp rfl (PE.lenSl Z1u rfl) rfl ?_
              refine sp rfl (PE.add rfl rfl (by omega)) rfl ?_
              refine cl rfl Z7m rfl rfl (Z5b h ah ch bh hhl _ _ (by omega) (by assumption) (1 + fl.length) _ _) ?_
              rintro _ _ R1 ⟨y220, m220, rfl, hm220, rfl, hR1⟩
              obtain rfl := hR1.symm
              clear hR1
              refine Z4 rfl (fun hc10 => ?_) (fun hc10 => ?_)
              ·
               refine Z9 [0, 0, 0, 0, 12, 28, 60, 0, 128, 508, 1020, 2047, 4095, 8191] (.tk 0 (.tk 1 (.tk 2 (.tk 3 (.tk 4 (.tk 5 (.ld 6 (.tk 7 (.big 8 (.tk 9 (.tk 10 (.tk 11 (.tk 12 (.big 13 .done)))))))))))))) Zw (by kernel_rfl) ?_
               refine tk rfl (PE.move rfl) rfl ?_
               refine tk rfl (PE.move rfl) rfl ?_
               refine tk rfl (PE.move rfl) rfl ?_
               refine tk rfl (PE.move rfl) rfl ?_
               refine tk rfl (PE.indexAddr Z9R rfl rfl (by omega) (by omega)) rfl ?_
               refine tk rfl (PE.fieldAddr Z0y rfl) rfl ?_
               refine ld rfl rfl (lh sc3 rfl (Z6e (junk := xj) hx (by omega))) rfl ?_
               refine tk rfl (PE.move rfl) rfl ?_
               refine cl rfl Z2V rfl rfl (Z0C h ah ch bh hhl _ _ (by omega) (by assumption) (-1) 2 (by omega) _ _) ?_
               rintro _ _ R1 ⟨x229, m229, hx229, rfl, hm229, rfl, hR1⟩
               obtain rfl := hR1.symm
               refine bg (fun w hs => ⟨(lh sc3 rfl (Z6e (junk := xj) hx (by omega))) w hs, trivial⟩) ?_
               refine tk rfl (PE.add rfl rfl (by omega)) rfl ?_
               refine tk rfl (PE.max rfl rfl) rfl ?_
               refine tk rfl (PE.indexAddr Z9R rfl rfl (by omega) (by omega)) rfl ?_
               refine tk rfl (PE.fieldAddr Z0y rfl) rfl ?_
               refine Z5V (l' := (Ze (Y.set k (x.1, max 0 (x.2 + x229)))).flatten ++ xj) rfl rfl rfl cn3 rfl rfl rfl (Z8I hx _ (by omega)) (by rw [List.length_append, Z0P]; show 0 + ((k : Nat) : Int).toNat * 4 + 3 + 1 ≤ _; omega) ?_
               refine bg (fun w hs => ⟨trivial, trivial⟩) ?_
               refine Z6 [0, 1] rfl ?_
               refine sp rfl (PE.add rfl rfl (by omega)) rfl ?_
               refine sp rfl (PE.move rfl) rfl ?_
               first
                 | (have e21 : (Z4p 51 4 xb xcap xj (Ze ((Y.set k (x.1, max 0 (x.2 + x229))))) (Z09 _) (Z8b hj _ (by simp [ZB, hXl])) (by simp only [ZB, List.length_set]; omega) hmx9).fs = .slice (some ⟨xb, 0, none⟩) fl.length xcap := (by show Value.slice _ (Ze _).length _ = _; rw [ZB]; simp [hXl])
                    rw [← e21]
                    exact Zc ⟨⟨(k + 1, (Y.set k (x.1, max 0 (x.2 + x229))), tq + 1 + 1, m229), by omega, by simp [hXl], hY.put hx (by omega) (by omega), by dsimp only; omega, by assumption⟩, Z4p 51 4 xb xcap xj (Ze ((Y.set k (x.1, max 0 (x.2 + x229))))) (Z09 _) (Z8b hj _ (by simp [ZB, hXl])) (by simp only [ZB, List.length_set]; omega) hmx9⟩ (by dsimp only; omega) (by repeat' first | exact Sub.nil | apply Sub.cons | rfl | (simp [lk]; omega)) (fun _ h => h))
                 | (have e21 : (Z4p 51 4 xb xcap xj (Ze (Y)) (Z09 _) (Z8b hj _ (by simp [ZB, hXl])) (by simp only [ZB, List.length_set]; omega) hmx9).fs = .slice (some ⟨xb, 0, none⟩) fl.length xcap := (by show Value.slice _ (Ze _).length _ = _; rw [ZB]; simp [hXl])
                    rw [← e21]
                    exact Zc ⟨⟨(k + 1, Y, tq + 1, m220), by omega, by simp [hXl], hY.mono (by omega), by dsimp only; omega, by assumption⟩, Z4p 51 4 xb xcap xj (Ze (Y)) (Z09 _) (Z8b hj _ (by simp [ZB, hXl])) (by simp only [ZB, List.length_set]; omega) hmx9⟩ (by dsimp only; omega) (by repeat' first | exact Sub.nil | apply Sub.cons | rfl | (simp [lk]; omega)) (fun _ h => h))
              ·
               refine Z2 ?_
               refine Z6 [0, 1] rfl ?_
               refine sp rfl (PE.add rfl rfl (by omega)) rfl ?_
               refine sp rfl (PE.move rfl) rfl ?_
               first
                 | (have e21 : (Z4p 51 4 xb xcap xj (Ze ((Y.set k (x.1, max 0 (x.2 + x229))))) (Z09 _) (Z8b hj _ (by simp [ZB, hXl])) (by simp only [ZB, List.length_set]; omega) hmx9).fs = .slice (some ⟨xb, 0, none⟩) fl.length xcap := (by show Value.slice _ (Ze _).length _ = _; rw [ZB]; simp [hXl])
                    rw [← e21]
                    exact Zc ⟨⟨(k + 1, (Y.set k (x.1, max 0 (x.2 + x229))), tq + 1 + 1, m229), by omega, by simp [hXl], hY.put hx (by omega) (by omega), by dsimp only; omega, by assumption⟩, Z4p 51 4 xb xcap xj (Ze ((Y.set k (x.1, max 0 (x.2 + x229))))) (Z09 _) (Z8b hj _ (by simp [ZB, hXl])) (by simp only [ZB, List.length_set]; omega) hmx9⟩ (by dsimp only; omega) (by repeat' first | exact Sub.nil | apply Sub.cons | rfl | (simp [lk]; omega)) (fun _ h => h))
                 | (have e21 : (Z4p 51 4 xb xcap xj (Ze (Y)) (Z09 _) (Z8b hj _ (by simp [ZB, hXl])) (by simp only [ZB, List.length_set]; omega) hmx9).fs = .slice (some ⟨xb, 0, none⟩) fl.length xcap := (by show Value.slice _ (Ze _).length _ = _; rw [ZB]; simp [hXl])
                    rw [← e21]
                    exact Zc ⟨⟨(k + 1, Y, tq + 1, m220), by omega, by simp [hXl], hY.mono (by omega), by dsimp only; omega, by assumption⟩, Z4p 51 4 xb xcap xj (Ze (Y)) (Z09 _) (Z8b hj _ (by simp [ZB, hXl])) (by simp only [ZB, List.length_set]; omega) hmx9⟩ (by dsimp only; omega) (by repeat' first | exact Sub.nil | apply Sub.cons | rfl | (simp [lk]; omega)) (fun _ h => h))
             ·
              try simp only [decide_eq_true_eq, decide_eq_false_iff_not, Bool.and_eq_true, Bool.or_eq_true, Bool.not_eq_true', Int.not_le, Int.not_lt] at hc9
              obtain rfl : k = fl.length := by omega
              obtain ⟨y1, y2, hy9⟩ := Z5c oy
              rw [ZB, hXl] at hy9
              refine Zm ?_
              refine Zt ?_
              refine Zt ?_
              refine ZU ?_
              refine Z0 ?_
              refine Z0 ?_
              refine Z5v (ι := {z : Bool × Int × Int // (z.1 = true → 0 < fl.length) ∧ (0 ≤ z.2.1 ∧ z.2.1 ≤ 4000 * j + 2010) ∧ (0 ≤ z.2.2 ∧ z.2.2 ≤ 4294967295)}) (fun z => ⟨[(5, .pointer (some ⟨b5, 0, none⟩)), (6, .int .i64 n), (8, .slice aT T0.length cT), (10, .slice aF fl.length cF), (20, .pointer (some ⟨bh, 0, none⟩)), (164, .int .i64 j), (21, .slice a2 X2.length c2), (22, oy.fs), (241, .bool z.1.1)], (bh, cel 80 [.slice ah h.length ch, .int .i64 (z.1.2.1), .int .u32 (z.1.2.2)]) :: (oy.G ++ (b5, cel 27 (twl t (t.sl (some ⟨ba, oa, none⟩) ca))) :: H), RowsA a2 5 (Zg X2) :: RowsA aF 4 (Ze fl) :: RowsA aT 5 (Zg T0) :: RowsA (some ⟨ba, oa, none⟩) 2 (Zx t.rats) :: R⟩) ?_ ?_
              ·
               refine Z6 [0, 1, 2, 3, 4, 5, 6] rfl ?_
               refine sp rfl (PE.move rfl) rfl ?_
               refine sp rfl (PE.lenSl Z1u (show _ = some (Value.slice y1 fl.length y2) from congrArg some hy9)) rfl ?_
               refine sp rfl (PE.gtr rfl rfl) rfl ?_
               refine sp rfl (PE.move rfl) rfl ?_
               refine Z1 (t := 238) rfl (fun g238 => ?_) (fun g238 => ?_)
               ·
                refine spG rfl rfl rfl rfl (PE.move rfl) rfl ?_
                refine clG rfl rfl rfl rfl Z7m rfl rfl (Z5b h ah ch bh hhl _ _ (by omega) (by assumption) (2) _ _) ?_
                rintro _ _ R1 ⟨y240, m240, rfl, hm240, rfl, hR1⟩
                obtain rfl := hR1.symm
                clear hR1
                refine sp rfl (PE.pick rfl rfl rfl) rfl ?_
                first
                  | exact ZN ⟨(y240, tq + 1, m240), fun _ => (by simpa using g238), by dsimp only; omega, by assumption⟩ (by repeat' first | exact Sub.nil | apply Sub.cons | rfl | (simp [lk]; omega)) (fun _ h => h)
                  | exact ZN ⟨(false, tq, mz), (fun h => by cases h), by dsimp only; omega, by assumption⟩ (by repeat' first | exact Sub.nil | apply Sub.cons | rfl | (simp [lk]; omega)) (fun _ h => h)
               ·
                refine spN rfl rfl rfl rfl rfl rfl rfl rfl ?_
                refine spN rfl rfl rfl rfl rfl rfl rfl rfl ?_
                refine sp rfl (PE.pick rfl rfl rfl) rfl ?_
                first
                  | exact ZN ⟨(y240, tq + 1, m240), fun _ => (by simpa using g238), by dsimp only; omega, by assumption⟩ (by repeat' first | exact Sub.nil | apply Sub.cons | rfl | (simp [lk]; omega)) (fun _ h => h)
                  | exact ZN ⟨(false, tq, mz), (fun h => by cases h), by dsimp only; omega, by assumption⟩ (by repeat' first | exact Sub.nil | apply Sub.cons | rfl | (simp [lk]; omega)) (fun _ h => h)
              ·
               rintro ⟨⟨r11, tq, mz⟩, hr11, htq, hmz⟩
               dsimp only at hr11 htq hmz ⊢
               refine Z1r (ι := {z : (List Fat × Option Addr × Nat) × Int × Int // FtOk t z.1.1 2000 ∧ (0 ≤ z.2.1 ∧ z.2.1 ≤ 4000 * j + 2020) ∧ (0 ≤ z.2.2 ∧ z.2.2 ≤ 4294967295)}) (fun z => ⟨[(5, .pointer (some ⟨b5, 0, none⟩)), (6, .int .i64 n), (8, .slice aT T0.length cT), (10, .slice aF fl.length cF), (20, .pointer (some ⟨bh, 0, none⟩)), (164, .int .i64 j), (21, .slice a2 X2.length c2), (22, .slice z.1.1.2.1 z.1.1.1.length z.1.1.2.2)], (bh, cel 80 [.slice ah h.length ch, .int .i64 (z.1.2.1), .int .u32 (z.1.2.2)]) :: (b5, cel 27 (twl t (t.sl (some ⟨ba, oa, none⟩) ca))) :: H, RowsA z.1.1.2.1 4 (Ze z.1.1.1) :: RowsA a2 5 (Zg X2) :: RowsA aF 4 (Ze fl) :: RowsA aT 5 (Zg T0) :: RowsA (some ⟨ba, oa, none⟩) 2 (Zx t.rats) :: R⟩) ?_ ?_
               ·
                refine Z4 rfl (fun hc11 => ?_) (fun hc11 => ?_)
                ·
                 have hpos : 0 < fl.length := hr11 hc11
                 refine Z0 ?_
                 refine Z6 [0, 1, 2, 3, 4] rfl ?_
                 refine sp rfl (PE.move rfl) rfl ?_
                 refine sp rfl (PE.move rfl) rfl ?_
                 refine sp rfl (PE.lenSl Z1u (show _ = some (Value.slice y1 fl.length y2) from congrArg some hy9)) rfl ?_
                 refine cl rfl Z1i rfl rfl (ZY h ah ch bh hhl _ _ (by omega) (by assumption) (fl.length) _ _) ?_
                 rintro _ _ R1 ⟨x245, m245, hx245, rfl, hm245, rfl, hR1⟩
                 obtain rfl := hR1.symm
                 obtain ⟨i, rfl⟩ : ∃ i : Nat, x245 = i := ⟨x245.toNat, by omega⟩
                 refine sp rfl (PE.assign rfl) rfl ?_
                 refine Z6 [0, 1, 2, 3, 4, 5] rfl ?_
                 refine sp rfl (PE.move rfl) rfl ?_
                 refine sp rfl (PE.move rfl) rfl ?_
                 refine sp rfl (PE.move rfl) rfl ?_
                 refine sp rfl (PE.add rfl rfl (by omega)) rfl ?_
                 rw [show (i : Int) + 1 = ((i + 1 : Nat) : Int) by omega]
                 refine Sy.heap (fun w h => h.pullG oy.G) ?_
                 refine cl rfl ZaD rfl rfl (Z3F Y oy (by omega) i (by omega) _ _) ?_
                 rintro _ _ R1 ⟨a8, c8, rfl, rfl, hR1⟩
                 obtain rfl := hR1.symm
                 clear hR1
                 refine sp rfl (PE.assign rfl) rfl ?_
                 first
                   | exact Z04 ⟨((Y.eraseIdx i, a8, c8), tq + 1, m245), (hY.erase i).mono (by omega), by dsimp only; omega, by assumption⟩ (by repeat' first | exact Sub.nil | apply Sub.cons | rfl | (simp [lk]; omega)) (fun _ h => h)
                   | (obtain ⟨a8, c8, he8, hf8⟩ := oy.freeze
                      rw [ZB] at he8
                      rw [he8]
                      refine Sy.heap (fun w h => hf8 (h.pullG oy.G)) ?_
                      exact Z04 ⟨((Y, a8, c8), tq, mz), hY.mono (by omega), by dsimp only; omega, by assumption⟩ (by repeat' first | exact Sub.nil | apply Sub.cons | rfl | (simp [lk]; omega)) (fun _ h => h))
                ·
                 refine Z2 ?_
                 first
                   | exact Z04 ⟨((Y.eraseIdx i, a8, c8), tq + 1, m245), (hY.erase i).mono (by omega), by dsimp only; omega, by assumption⟩ (by repeat' first | exact Sub.nil | apply Sub.cons | rfl | (simp [lk]; omega)) (fun _ h => h)
                   | (obtain ⟨a8, c8, he8, hf8⟩ := oy.freeze
                      rw [ZB] at he8
                      rw [he8]
                      refine Sy.heap (fun w h => hf8 (h.pullG oy.G)) ?_
                      exact Z04 ⟨((Y, a8, c8), tq, mz), hY.mono (by omega), by dsimp only; omega, by assumption⟩ (by repeat' first | exact Sub.nil | apply Sub.cons | rfl | (simp [lk]; omega)) (fun _ h => h))
               ·
                rintro ⟨⟨⟨Y2, a3, c3⟩, tq, mz⟩, hY2, htq, hmz⟩
                dsimp only at hY2 htq hmz ⊢
                have hY9 := hY2.len
                have hs1 := Z7J hck hX2 hly
                have hs2 := Z7i hck hY2 (by omega) hly
                rw [← hnl] at hs1 hs2
                obtain ⟨hs1, hq1⟩ := hs1
                obtain ⟨hs2, hq2⟩ := hs2
                refine Z0 ?_
                refine Z6 [0, 1, 2, 3, 4, 5, 6, 7, 8, 9] rfl ?_
                refine spL rfl rfl (lhA (twl t (t.sl (some ⟨ba, oa, none⟩) ca)) ZZ rfl rfl rfl) rfl ?_
                refine sp rfl (PE.move rfl) rfl ?_
                refine sp rfl (PE.fieldAddr Z0d rfl) rfl ?_
                refine spL rfl rfl (lhA [_, _, _] ZG rfl rfl rfl) rfl ?_
                refine cl rfl Z9o rfl rfl (Z6c t hok X2 hX2 a2 c2 t.now (by omega) ba oa ca _ _) ?_
                rintro _ _ R1 ⟨rfl, rfl, hR1⟩
                obtain rfl := hR1.symm
                clear hR1
                unfold hV
                obtain ⟨hb, hbe⟩ : ∃ b, b = hB t X2 := ⟨_, rfl⟩
                obtain ⟨hm, hme⟩ : ∃ b, b = hM t X2 t.now := ⟨_, rfl⟩
                rw [← hbe, ← hme] at hq1 ⊢
                rw [← hme] at hs1
                refine sp rfl (PE.move rfl) rfl ?_
                refine sp rfl (PE.extract rfl rfl) rfl ?_
                refine sp rfl (PE.extract rfl rfl) rfl ?_
                refine sp rfl (PE.assign rfl) rfl ?_
                refine sp rfl (PE.assign rfl) rfl ?_
                refine Z0 ?_
                refine Z6 [0, 1, 2, 3, 4, 5, 6, 7] rfl ?_
                refine spL rfl rfl (lhA (twl t (t.sl (some ⟨ba, oa, none⟩) ca)) ZZ rfl rfl rfl) rfl ?_
                refine sp rfl (PE.move rfl) rfl ?_
                refine cl rfl Z9e rfl rfl (Z4K t (by omega) X2 a2 c2 (by omega) ba oa ca _ _) ?_
                rintro _ _ R1 ⟨rfl, rfl, hR1⟩
                obtain rfl := hR1.symm
                clear hR1
                obtain ⟨fk, hfk⟩ : ∃ b, b = (Zu t X2).1 := ⟨_, rfl⟩
                obtain ⟨fe, hfe⟩ : ∃ b, b = (Zu t X2).2 := ⟨_, rfl⟩
                rw [← hfk, ← hfe] at hq1 ⊢
                clear hfk hfe hbe hme
                rcases hq1 with ⟨rfl, rfl, e3, rfl⟩ | ⟨rfl, rfl, rfl⟩ | ⟨rfl, rfl, rfl⟩
                ·
                 refine sp rfl (PE.move rfl) rfl ?_
                 refine sp rfl (PE.extract rfl rfl) rfl ?_
                 refine sp rfl (PE.extract rfl rfl) rfl ?_
                 refine sp rfl (PE.assign rfl) rfl ?_
                 refine sp rfl (PE.assign rfl) rfl ?_
                 refine Z0 ?_
                 refine Z0 ?_
                 refine Z6 [0, 1, 2, 3, 4, 5, 6, 7, 8, 9, 10, 11, 12, 13, 14, 15, 16, 17, 18, 19, 20, 21, 22, 23, 24, 25, 26, 27, 28, 29, 30, 31, 32, 33, 34, 35, 36, 37, 38, 39, 40] rfl ?_
                 refine sp rfl (PE.move rfl) rfl ?_
                 refine sp rfl (PE.move rfl) rfl ?_
                 refine sp rfl (PE.gtr rfl rfl) rfl ?_
                 refine sp rfl (PE.move rfl) rfl ?_
                 refine Z1 (t := 268) rfl (fun g268 => ?_) (fun g268 => ?_)
                 ·
                  exact absurd g268 (by first | (simp; done) | (simp; omega))
                 ·
                  refine spG rfl rfl rfl rfl (PE.move rfl) rfl ?_
                  refine spG rfl rfl rfl rfl (PE.eql rfl rfl) rfl ?_
                  refine spG rfl rfl rfl rfl (PE.move rfl) rfl ?_
                  refine spG rfl rfl rfl rfl (PE.move rfl) rfl ?_
                  refine Z1 (t := 272) rfl (fun g272 => ?_) (fun g272 => ?_)
                  ·
                   refine spG rfl rfl rfl rfl (PE.move rfl) rfl ?_
                   refine spG rfl rfl rfl rfl (PE.geq rfl rfl) rfl ?_
                   refine spG rfl rfl rfl rfl (PE.pick rfl rfl rfl) rfl ?_
                   refine spG rfl rfl rfl rfl (PE.neqBool ub4 rfl rfl) rfl ?_
                   refine sp rfl (PE.pick rfl rfl rfl) rfl ?_
                   refine sp rfl (PE.move rfl) rfl ?_
                   refine Z1 (t := 278) rfl (fun g278 => ?_) (fun g278 => ?_)
                   ·
                    exact absurd g278 (by first | (simp; done) | (simp; omega))
                   ·
                    refine spG rfl rfl rfl rfl (PE.move rfl) rfl ?_
                    refine spG rfl rfl rfl rfl (PE.eql rfl rfl) rfl ?_
                    refine spG rfl rfl rfl rfl (PE.move rfl) rfl ?_
                    refine Z1 (t := 281) rfl (fun g281 => ?_) (fun g281 => ?_)
                    ·
                     refine spG rfl rfl rfl rfl (PE.move rfl) rfl ?_
                     refine spG rfl rfl rfl rfl (PE.move rfl) rfl ?_
                     refine spG rfl rfl rfl rfl (PE.neq rfl rfl) rfl ?_
                     refine spG rfl rfl rfl rfl (PE.pick rfl rfl rfl) rfl ?_
                     refine sp rfl (PE.pick rfl rfl rfl) rfl ?_
                     refine sp rfl (PE.move rfl) rfl ?_
                     refine Z1 (t := 287) rfl (fun g287 => ?_) (fun g287 => ?_)
                     ·
                      exact absurd g287 (by first | (simp; done) | (simp; omega))
                     ·
                      refine spG rfl rfl rfl rfl (PE.move rfl) rfl ?_
                      refine spG rfl rfl rfl rfl (PE.not rfl) rfl ?_
                      refine spG rfl rfl rfl rfl (PE.move rfl) rfl ?_
                      refine Z1 (t := 290) rfl (fun g290 => ?_) (fun g290 => ?_)
                      ·
                       exact absurd g290 (by first | (simp; done) | (simp; omega))
                      ·
                       refine spN rfl rfl rfl rfl rfl rfl rfl rfl ?_
                       refine spN rfl rfl rfl rfl rfl rfl rfl rfl ?_
                       refine spG rfl rfl rfl rfl (PE.pick rfl rfl rfl) rfl ?_
                       refine sp rfl (PE.pick rfl rfl rfl) rfl ?_
                       refine sp rfl (PE.move rfl) rfl ?_
                       refine spG rfl rfl rfl rfl (PE.move rfl) rfl ?_
                       refine spG rfl rfl rfl rfl (PE.move rfl) rfl ?_
                       refine Z1 (t := 297) rfl (fun g297 => ?_) (fun g297 => ?_)
                       ·
                        refine spG rfl rfl rfl rfl (PE.move rfl) rfl ?_
                        refine spG rfl rfl rfl rfl (PE.lss rfl rfl) rfl ?_
                        refine spG rfl rfl rfl rfl (PE.pick rfl rfl rfl) rfl ?_
                        refine spG rfl rfl rfl rfl (PE.move rfl) rfl ?_
                        refine Z1 (t := 301) rfl (fun g301 => ?_) (fun g301 => ?_)
                        ·
                         exact absurd g301 (by first | (simp; done) | (simp; omega))
                        ·
                         refine spN rfl rfl rfl rfl rfl rfl rfl rfl ?_
                         refine spN rfl rfl rfl rfl rfl rfl rfl rfl ?_
                         refine spG rfl rfl rfl rfl (PE.pick rfl rfl rfl) rfl ?_
                         refine sp rfl (PE.pick rfl rfl rfl) rfl ?_
                         refine Z1r (ι := Unit) (fun _ => ⟨[(5, .pointer (some ⟨b5, 0, none⟩)), (6, .int .i64 n), (8, .slice aT T0.length cT), (10, .slice aF fl.length cF), (20, .pointer (some ⟨bh, 0, none⟩)), (164, .int .i64 j), (22, .slice a3 Y2.length c3)], (bh, cel 80 [.slice ah h.length ch, .int .i64 (tq), .int .u32 (mz)]) :: (b5, cel 27 (twl t (t.sl (some ⟨ba, oa, none⟩) ca))) :: H, RowsA a3 4 (Ze Y2) :: RowsA a2 5 (Zg X2) :: RowsA aF 4 (Ze fl) :: RowsA aT 5 (Zg T0) :: RowsA (some ⟨ba, oa, none⟩) 2 (Zx t.rats) :: R⟩) ?_ ?_
                         ·
                          refine Zo rfl ?_
                          refine Z2 ?_
                          exact Z04 () (by repeat' first | exact Sub.nil | apply Sub.cons | rfl | (simp [lk]; omega)) (fun _ h => h)
                         ·
                          rintro ⟨⟩
                          dsimp only
                          refine Z0 ?_
                          refine Z6 [0, 1, 2, 3, 4, 5, 6, 7, 8, 9] rfl ?_
                          refine spL rfl rfl (lhA (twl t (t.sl (some ⟨ba, oa, none⟩) ca)) ZZ rfl rfl rfl) rfl ?_
                          refine sp rfl (PE.move rfl) rfl ?_
                          refine sp rfl (PE.fieldAddr Z0d rfl) rfl ?_
                          refine spL rfl rfl (lhA [_, _, _] ZG rfl rfl rfl) rfl ?_
                          refine cl rfl Z7F rfl rfl (Z4W t hok Y2 2000 hY2 (by omega) a3 c3 t.now (by omega) ba oa ca _ _) ?_
                          rintro _ _ R1 ⟨rfl, rfl, hR1⟩
                          obtain rfl := hR1.symm
                          clear hR1
                          unfold dV
                          obtain ⟨db, hdb⟩ : ∃ b, b = Zq t [] Y2 := ⟨_, rfl⟩
                          obtain ⟨dm, hdm⟩ : ∃ b, b = dM t Y2 t.now := ⟨_, rfl⟩
                          rw [← hdb, ← hdm] at hq2 ⊢
                          rw [← hdm] at hs2
                          refine sp rfl (PE.move rfl) rfl ?_
                          refine sp rfl (PE.extract rfl rfl) rfl ?_
                          refine sp rfl (PE.extract rfl rfl) rfl ?_
                          refine sp rfl (PE.assign rfl) rfl ?_
                          refine sp rfl (PE.assign rfl) rfl ?_
                          refine Z0 ?_
                          refine Z6 [0, 1, 2, 3, 4, 5, 6, 7] rfl ?_
                          refine spL rfl rfl (lhA (twl t (t.sl (some ⟨ba, oa, none⟩) ca)) ZZ rfl rfl rfl) rfl ?_
                          refine sp rfl (PE.move rfl) rfl ?_
                          refine cl rfl Z7w rfl rfl (Z1L t (by omega) Y2 a3 c3 (by omega) ba oa ca _ _) ?_
                          rintro _ _ R1 ⟨rfl, rfl, hR1⟩
                          obtain rfl := hR1.symm
                          clear hR1
                          obtain ⟨sk, hsk⟩ : ∃ b, b = (stR t Y2).1 := ⟨_, rfl⟩
                          obtain ⟨se, hse⟩ : ∃ b, b = (stR t Y2).2 := ⟨_, rfl⟩
                          rw [← hsk, ← hse] at hq2 ⊢
                          clear hsk hse hdb hdm
                          rcases hq2 with ⟨rfl, rfl, e3, rfl⟩ | ⟨rfl, rfl, rfl⟩ | ⟨rfl, rfl, rfl⟩
                          ·
                           refine sp rfl (PE.move rfl) rfl ?_
                           refine sp rfl (PE.extract rfl rfl) rfl ?_
                           refine sp rfl (PE.extract rfl rfl) rfl ?_
                           refine sp rfl (PE.assign rfl) rfl ?_
                           refine sp rfl (PE.assign rfl) rfl ?_
                           refine Z0 ?_
                           refine Z6 [0, 1, 2, 3, 4, 5, 6, 7, 8, 9, 10, 11, 12, 13, 14, 15, 16, 17, 18, 19, 20, 21, 22, 23, 24, 25, 26, 27, 28, 29, 30, 31, 32, 33, 34, 35, 36, 37, 38, 39, 40, 41, 42, 43, 44] rfl ?_
                           refine sp rfl (PE.move rfl) rfl ?_
                           refine sp rfl (PE.geq rfl rfl) rfl ?_
                           refine sp rfl (PE.move rfl) rfl ?_
                           refine Z1 (t := 322) rfl (fun g322 => ?_) (fun g322 => ?_)
                           ·
                            refine spG rfl rfl rfl rfl (PE.move rfl) rfl ?_
                            refine spG rfl rfl rfl rfl (PE.move rfl) rfl ?_
                            refine spG rfl rfl rfl rfl (PE.leq rfl rfl) rfl ?_
                            refine sp rfl (PE.pick rfl rfl rfl) rfl ?_
                            refine sp rfl (PE.move rfl) rfl ?_
                            refine Z1 (t := 327) rfl (fun g327 => ?_) (fun g327 => ?_)
                            ·
                             exact absurd g327 (by first | (simp; done) | (simp; omega))
                            ·
                             refine spG rfl rfl rfl rfl (PE.move rfl) rfl ?_
                             refine spG rfl rfl rfl rfl (PE.eql rfl rfl) rfl ?_
                             refine spG rfl rfl rfl rfl (PE.move rfl) rfl ?_
                             refine spG rfl rfl rfl rfl (PE.move rfl) rfl ?_
                             refine Z1 (t := 331) rfl (fun g331 => ?_) (fun g331 => ?_)
                             ·
                              refine spG rfl rfl rfl rfl (PE.move rfl) rfl ?_
                              refine spG rfl rfl rfl rfl (PE.geq rfl rfl) rfl ?_
                              refine spG rfl rfl rfl rfl (PE.pick rfl rfl rfl) rfl ?_
                              refine spG rfl rfl rfl rfl (PE.neqBool ub4 rfl rfl) rfl ?_
                              refine sp rfl (PE.pick rfl rfl rfl) rfl ?_
                              refine sp rfl (PE.move rfl) rfl ?_
                              refine Z1 (t := 337) rfl (fun g337 => ?_) (fun g337 => ?_)
                              ·
                               exact absurd g337 (by first | (simp; done) | (simp; omega))
                              ·
                               refine spG rfl rfl rfl rfl (PE.move rfl) rfl ?_
                               refine spG rfl rfl rfl rfl (PE.eql rfl rfl) rfl ?_
                               refine spG rfl rfl rfl rfl (PE.move rfl) rfl ?_
                               refine Z1 (t := 340) rfl (fun g340 => ?_) (fun g340 => ?_)
                               ·
                                refine spG rfl rfl rfl rfl (PE.move rfl) rfl ?_
                                refine spG rfl rfl rfl rfl (PE.move rfl) rfl ?_
                                refine spG rfl rfl rfl rfl (PE.neq rfl rfl) rfl ?_
                                refine spG rfl rfl rfl rfl (PE.pick rfl rfl rfl) rfl ?_
                                refine sp rfl (PE.pick rfl rfl rfl) rfl ?_
                                refine sp rfl (PE.move rfl) rfl ?_
                                refine Z1 (t := 346) rfl (fun g346 => ?_) (fun g346 => ?_)
                                ·
                                 exact absurd g346 (by first | (simp; done) | (simp; omega))
                                ·
                                 refine spG rfl rfl rfl rfl (PE.move rfl) rfl ?_
                                 refine spG rfl rfl rfl rfl (PE.not rfl) rfl ?_
                                 refine spG rfl rfl rfl rfl (PE.move rfl) rfl ?_
                                 refine Z1 (t := 349) rfl (fun g349 => ?_) (fun g349 => ?_)
                                 ·
                                  exact absurd g349 (by first | (simp; done) | (simp; omega))
                                 ·
                                  refine spN rfl rfl rfl rfl rfl rfl rfl rfl ?_
                                  refine spN rfl rfl rfl rfl rfl rfl rfl rfl ?_
                                  refine spG rfl rfl rfl rfl (PE.pick rfl rfl rfl) rfl ?_
                                  refine sp rfl (PE.pick rfl rfl rfl) rfl ?_
                                  refine sp rfl (PE.move rfl) rfl ?_
                                  refine spG rfl rfl rfl rfl (PE.move rfl) rfl ?_
                                  refine spG rfl rfl rfl rfl (PE.move rfl) rfl ?_
                                  refine Z1 (t := 356) rfl (fun g356 => ?_) (fun g356 => ?_)
                                  ·
                                   refine spG rfl rfl rfl rfl (PE.move rfl) rfl ?_
                                   refine spG rfl rfl rfl rfl (PE.lss rfl rfl) rfl ?_
                                   refine spG rfl rfl rfl rfl (PE.pick rfl rfl rfl) rfl ?_
                                   refine spG rfl rfl rfl rfl (PE.move rfl) rfl ?_
                                   refine Z1 (t := 360) rfl (fun g360 => ?_) (fun g360 => ?_)
                                   ·
                                    exact absurd g360 (by first | (simp; done) | (simp; omega))
                                   ·
                                    refine spN rfl rfl rfl rfl rfl rfl rfl rfl ?_
                                    refine spN rfl rfl rfl rfl rfl rfl rfl rfl ?_
                                    refine spG rfl rfl rfl rfl (PE.pick rfl rfl rfl) rfl ?_
                                    refine sp rfl (PE.pick rfl rfl rfl) rfl ?_
                                    refine Zo rfl ?_
                                    refine Z2 ?_
                                    refine Z6 [0, 1] rfl ?_
                                    refine sp rfl (PE.add rfl rfl (by omega)) rfl ?_
                                    refine sp rfl (PE.move rfl) rfl ?_
                                    exact Zc ⟨(j + 1, tq, mz), by omega, by dsimp only; omega, by assumption⟩ (by dsimp only; omega) (by repeat' first | exact Sub.nil | apply Sub.cons | rfl | (simp [lk]; omega)) (fun w h => h.ftail.ftail)
                                  ·
                                   exact absurd g356 (by first | (simp; done) | (simp; omega))
                               ·
                                exact absurd g340 (by first | (simp; done) | (simp; omega))
                             ·
                              exact absurd g331 (by first | (simp; done) | (simp; omega))
                           ·
                            exact absurd g322 (by first | (simp; done) | (simp; omega))
                          ·
                           refine sp rfl (PE.move rfl) rfl ?_
                           refine sp rfl (PE.extract rfl rfl) rfl ?_
                           refine sp rfl (PE.extract rfl rfl) rfl ?_
                           refine sp rfl (PE.assign rfl) rfl ?_
                           refine sp rfl (PE.assign rfl) rfl ?_
                           refine Z0 ?_
                           refine Z6 [0, 1, 2, 3, 4, 5, 6, 7, 8, 9, 10, 11, 12, 13, 14, 15, 16, 17, 18, 19, 20, 21, 22, 23, 24, 25, 26, 27, 28, 29, 30, 31, 32, 33, 34, 35, 36, 37, 38, 39, 40, 41, 42, 43, 44] rfl ?_
                           refine sp rfl (PE.move rfl) rfl ?_
                           refine sp rfl (PE.geq rfl rfl) rfl ?_
                           refine sp rfl (PE.move rfl) rfl ?_
                           refine Z1 (t := 322) rfl (fun g322 => ?_) (fun g322 => ?_)
                           ·
                            exact absurd g322 (by first | (simp; done) | (simp; omega))
                           ·
                            refine spN rfl rfl rfl rfl rfl rfl rfl rfl ?_
                            refine spN rfl rfl rfl rfl rfl rfl rfl rfl ?_
                            refine spN rfl rfl rfl rfl rfl rfl rfl rfl ?_
                            refine sp rfl (PE.pick rfl rfl rfl) rfl ?_
                            refine sp rfl (PE.move rfl) rfl ?_
                            refine spG rfl rfl rfl rfl (PE.move rfl) rfl ?_
                            refine spG rfl rfl rfl rfl (PE.eql rfl rfl) rfl ?_
                            refine spG rfl rfl rfl rfl (PE.move rfl) rfl ?_
                            refine spG rfl rfl rfl rfl (PE.move rfl) rfl ?_
                            refine Z1 (t := 331) rfl (fun g331 => ?_) (fun g331 => ?_)
                            ·
                             exact absurd g331 (by first | (simp; done) | (simp; omega))
                            ·
                             refine spN rfl rfl rfl rfl rfl rfl rfl rfl ?_
                             refine spN rfl rfl rfl rfl rfl rfl rfl rfl ?_
                             refine spG rfl rfl rfl rfl (PE.pick rfl rfl rfl) rfl ?_
                             refine spG rfl rfl rfl rfl (PE.neqBool ub4 rfl rfl) rfl ?_
                             refine sp rfl (PE.pick rfl rfl rfl) rfl ?_
                             refine sp rfl (PE.move rfl) rfl ?_
                             refine Z1 (t := 337) rfl (fun g337 => ?_) (fun g337 => ?_)
                             ·
                              exact absurd g337 (by first | (simp; done) | (simp; omega))
                             ·
                              refine spG rfl rfl rfl rfl (PE.move rfl) rfl ?_
                              refine spG rfl rfl rfl rfl (PE.eql rfl rfl) rfl ?_
                              refine spG rfl rfl rfl rfl (PE.move rfl) rfl ?_
                              refine Z1 (t := 340) rfl (fun g340 => ?_) (fun g340 => ?_)
                              ·
                               exact absurd g340 (by first | (simp; done) | (simp; omega))
                              ·
                               refine spN rfl rfl rfl rfl rfl rfl rfl rfl ?_
                               refine spN rfl rfl rfl rfl rfl rfl rfl rfl ?_
                               refine spN rfl rfl rfl rfl rfl rfl rfl rfl ?_
                               refine spG rfl rfl rfl rfl (PE.pick rfl rfl rfl) rfl ?_
                               refine sp rfl (PE.pick rfl rfl rfl) rfl ?_
                               refine sp rfl (PE.move rfl) rfl ?_
                               refine spG rfl rfl rfl rfl (PE.move rfl) rfl ?_
                               refine spG rfl rfl rfl rfl (PE.not rfl) rfl ?_
                               refine spG rfl rfl rfl rfl (PE.move rfl) rfl ?_
                               refine Z1 (t := 349) rfl (fun g349 => ?_) (fun g349 => ?_)
                               ·
                                refine spG rfl rfl rfl rfl (PE.move rfl) rfl ?_
                                refine spG rfl rfl rfl rfl (PE.neq rfl rfl) rfl ?_
                                refine spG rfl rfl rfl rfl (PE.pick rfl rfl rfl) rfl ?_
                                refine sp rfl (PE.pick rfl rfl rfl) rfl ?_
                                refine sp rfl (PE.move rfl) rfl ?_
                                refine Z1 (t := 354) rfl (fun g354 => ?_) (fun g354 => ?_)
                                ·
                                 exact absurd g354 (by first | (simp; done) | (simp; omega))
                                ·
                                 refine spG rfl rfl rfl rfl (PE.move rfl) rfl ?_
                                 refine spG rfl rfl rfl rfl (PE.move rfl) rfl ?_
                                 refine Z1 (t := 356) rfl (fun g356 => ?_) (fun g356 => ?_)
                                 ·
                                  exact absurd g356 (by first | (simp; done) | (simp; omega))
                                 ·
                                  refine spN rfl rfl rfl rfl rfl rfl rfl rfl ?_
                                  refine spN rfl rfl rfl rfl rfl rfl rfl rfl ?_
                                  refine spG rfl rfl rfl rfl (PE.pick rfl rfl rfl) rfl ?_
                                  refine spG rfl rfl rfl rfl (PE.move rfl) rfl ?_
                                  refine spN rfl rfl rfl rfl rfl rfl rfl rfl ?_
                                  refine spN rfl rfl rfl rfl rfl rfl rfl rfl ?_
                                  refine spG rfl rfl rfl rfl (PE.pick rfl rfl rfl) rfl ?_
                                  refine sp rfl (PE.pick rfl rfl rfl) rfl ?_
                                  refine Zo rfl ?_
                                  refine Z2 ?_
                                  refine Z6 [0, 1] rfl ?_
                                  refine sp rfl (PE.add rfl rfl (by omega)) rfl ?_
                                  refine sp rfl (PE.move rfl) rfl ?_
                                  exact Zc ⟨(j + 1, tq, mz), by omega, by dsimp only; omega, by assumption⟩ (by dsimp only; omega) (by repeat' first | exact Sub.nil | apply Sub.cons | rfl | (simp [lk]; omega)) (fun w h => h.ftail.ftail)
                               ·
                                exact absurd g349 (by first | (simp; done) | (simp; omega))
                          ·
                           refine sp rfl (PE.move rfl) rfl ?_
                           refine sp rfl (PE.extract rfl rfl) rfl ?_
                           refine sp rfl (PE.extract rfl rfl) rfl ?_
                           refine sp rfl (PE.assign rfl) rfl ?_
                           refine sp rfl (PE.assign rfl) rfl ?_
                           refine Z0 ?_
                           refine Z6 [0, 1, 2, 3, 4, 5, 6, 7, 8, 9, 10, 11, 12, 13, 14, 15, 16, 17, 18, 19, 20, 21, 22, 23, 24, 25, 26, 27, 28, 29, 30, 31, 32, 33, 34, 35, 36, 37, 38, 39, 40, 41, 42, 43, 44] rfl ?_
                           refine sp rfl (PE.move rfl) rfl ?_
                           refine sp rfl (PE.geq rfl rfl) rfl ?_
                           refine sp rfl (PE.move rfl) rfl ?_
                           refine Z1 (t := 322) rfl (fun g322 => ?_) (fun g322 => ?_)
                           ·
                            exact absurd g322 (by first | (simp; done) | (simp; omega))
                           ·
                            refine spN rfl rfl rfl rfl rfl rfl rfl rfl ?_
                            refine spN rfl rfl rfl rfl rfl rfl rfl rfl ?_
                            refine spN rfl rfl rfl rfl rfl rfl rfl rfl ?_
                            refine sp rfl (PE.pick rfl rfl rfl) rfl ?_
                            refine sp rfl (PE.move rfl) rfl ?_
                            refine spG rfl rfl rfl rfl (PE.move rfl) rfl ?_
                            refine spG rfl rfl rfl rfl (PE.eql rfl rfl) rfl ?_
                            refine spG rfl rfl rfl rfl (PE.move rfl) rfl ?_
                            refine spG rfl rfl rfl rfl (PE.move rfl) rfl ?_
                            refine Z1 (t := 331) rfl (fun g331 => ?_) (fun g331 => ?_)
                            ·
                             refine spG rfl rfl rfl rfl (PE.move rfl) rfl ?_
                             refine spG rfl rfl rfl rfl (PE.geq rfl rfl) rfl ?_
                             refine spG rfl rfl rfl rfl (PE.pick rfl rfl rfl) rfl ?_
                             refine spG rfl rfl rfl rfl (PE.neqBool ub4 rfl rfl) rfl ?_
                             refine sp rfl (PE.pick rfl rfl rfl) rfl ?_
                             refine sp rfl (PE.move rfl) rfl ?_
                             refine Z1 (t := 337) rfl (fun g337 => ?_) (fun g337 => ?_)
                             ·
                              exact absurd g337 (by first | (simp; done) | (simp; omega))
                             ·
                              refine spG rfl rfl rfl rfl (PE.move rfl) rfl ?_
                              refine spG rfl rfl rfl rfl (PE.eql rfl rfl) rfl ?_
                              refine spG rfl rfl rfl rfl (PE.move rfl) rfl ?_
                              refine Z1 (t := 340) rfl (fun g340 => ?_) (fun g340 => ?_)
                              ·
                               exact absurd g340 (by first | (simp; done) | (simp; omega))
                              ·
                               refine spN rfl rfl rfl rfl rfl rfl rfl rfl ?_
                               refine spN rfl rfl rfl rfl rfl rfl rfl rfl ?_
                               refine spN rfl rfl rfl rfl rfl rfl rfl rfl ?_
                               refine spG rfl rfl rfl rfl (PE.pick rfl rfl rfl) rfl ?_
                               refine sp rfl (PE.pick rfl rfl rfl) rfl ?_
                               refine sp rfl (PE.move rfl) rfl ?_
                               refine spG rfl rfl rfl rfl (PE.move rfl) rfl ?_
                               refine spG rfl rfl rfl rfl (PE.not rfl) rfl ?_
                               refine spG rfl rfl rfl rfl (PE.move rfl) rfl ?_
                               refine Z1 (t := 349) rfl (fun g349 => ?_) (fun g349 => ?_)
                               ·
                                exact absurd g349 (by first | (simp; done) | (simp; omega))
                               ·
                                refine spN rfl rfl rfl rfl rfl rfl rfl rfl ?_
                                refine spN rfl rfl rfl rfl rfl rfl rfl rfl ?_
                                refine spG rfl rfl rfl rfl (PE.pick rfl rfl rfl) rfl ?_
                                refine sp rfl (PE.pick rfl rfl rfl) rfl ?_
                                refine sp rfl (PE.move rfl) rfl ?_
                                refine spG rfl rfl rfl rfl (PE.move rfl) rfl ?_
                                refine spG rfl rfl rfl rfl (PE.move rfl) rfl ?_
                                refine Z1 (t := 356) rfl (fun g356 => ?_) (fun g356 => ?_)
                                ·
                                 refine spG rfl rfl rfl rfl (PE.move rfl) rfl ?_
                                 refine spG rfl rfl rfl rfl (PE.lss rfl rfl) rfl ?_
                                 refine spG rfl rfl rfl rfl (PE.pick rfl rfl rfl) rfl ?_
                                 refine spG rfl rfl rfl rfl (PE.move rfl) rfl ?_
                                 refine Z1 (t := 360) rfl (fun g360 => ?_) (fun g360 => ?_)
                                 ·
                                  refine spG rfl rfl rfl rfl (PE.move rfl) rfl ?_
                                  refine spG rfl rfl rfl rfl (PE.neq rfl rfl) rfl ?_
                                  refine spG rfl rfl rfl rfl (PE.pick rfl rfl rfl) rfl ?_
                                  refine sp rfl (PE.pick rfl rfl rfl) rfl ?_
                                  refine Z4 rfl (fun hc13 => ?_) (fun hc13 => ?_)
                                  ·
                                   exact absurd hc13 (by first | (simp; done) | (simp; omega))
                                  ·
                                   refine Z2 ?_
                                   refine Z6 [0, 1] rfl ?_
                                   refine sp rfl (PE.add rfl rfl (by omega)) rfl ?_
                                   refine sp rfl (PE.move rfl) rfl ?_
                                   exact Zc ⟨(j + 1, tq, mz), by omega, by dsimp only; omega, by assumption⟩ (by dsimp only; omega) (by repeat' first | exact Sub.nil | apply Sub.cons | rfl | (simp [lk]; omega)) (fun w h => h.ftail.ftail)
                                 ·
                                  exact absurd g360 (by first | (simp; done) | (simp; omega))
                                ·
                                 exact absurd g356 (by first | (simp; done) | (simp; omega))
                            ·
                             exact absurd g331 (by first | (simp; done) | (simp; omega))
                       ·
                        exact absurd g297 (by first | (simp; done) | (simp; omega))
                    ·
                     exact absurd g281 (by first | (simp; done) | (simp; omega))
                  ·
                   exact absurd g272 (by first | (simp; done) | (simp; omega))
                ·
                 refine sp rfl (PE.move rfl) rfl ?_
                 refine sp rfl (PE.extract rfl rfl) rfl ?_
                 refine sp rfl (PE.extract rfl rfl) rfl ?_
                 refine sp rfl (PE.assign rfl) rfl ?_
                 refine sp rfl (PE.assign rfl) rfl ?_
                 refine Z0 ?_
                 refine Z0 ?_
                 refine Z6 [0, 1, 2, 3, 4, 5, 6, 7, 8, 9, 10, 11, 12, 13, 14, 15, 16, 17, 18, 19, 20, 21, 22, 23, 24, 25, 26, 27, 28, 29, 30, 31, 32, 33, 34, 35, 36, 37, 38, 39, 40] rfl ?_
                 refine sp rfl (PE.move rfl) rfl ?_
                 refine sp rfl (PE.move rfl) rfl ?_
                 refine sp rfl (PE.gtr rfl rfl) rfl ?_
                 refine sp rfl (PE.move rfl) rfl ?_
                 refine Z1 (t := 268) rfl (fun g268 => ?_) (fun g268 => ?_)
                 ·
                  exact absurd g268 (by first | (simp; done) | (simp; omega))
                 ·
                  refine spG rfl rfl rfl rfl (PE.move rfl) rfl ?_
                  refine spG rfl rfl rfl rfl (PE.eql rfl rfl) rfl ?_
                  refine spG rfl rfl rfl rfl (PE.move rfl) rfl ?_
                  refine spG rfl rfl rfl rfl (PE.move rfl) rfl ?_
                  refine Z1 (t := 272) rfl (fun g272 => ?_) (fun g272 => ?_)
                  ·
                   exact absurd g272 (by first | (simp; done) | (simp; omega))
                  ·
                   refine spN rfl rfl rfl rfl rfl rfl rfl rfl ?_
                   refine spN rfl rfl rfl rfl rfl rfl rfl rfl ?_
                   refine spG rfl rfl rfl rfl (PE.pick rfl rfl rfl) rfl ?_
                   refine spG rfl rfl rfl rfl (PE.neqBool ub4 rfl rfl) rfl ?_
                   refine sp rfl (PE.pick rfl rfl rfl) rfl ?_
                   refine sp rfl (PE.move rfl) rfl ?_
                   refine Z1 (t := 278) rfl (fun g278 => ?_) (fun g278 => ?_)
                   ·
                    exact absurd g278 (by first | (simp; done) | (simp; omega))
                   ·
                    refine spG rfl rfl rfl rfl (PE.move rfl) rfl ?_
                    refine spG rfl rfl rfl rfl (PE.eql rfl rfl) rfl ?_
                    refine spG rfl rfl rfl rfl (PE.move rfl) rfl ?_
                    refine Z1 (t := 281) rfl (fun g281 => ?_) (fun g281 => ?_)
                    ·
                     exact absurd g281 (by first | (simp; done) | (simp; omega))
                    ·
                     refine spN rfl rfl rfl rfl rfl rfl rfl rfl ?_
                     refine spN rfl rfl rfl rfl rfl rfl rfl rfl ?_
                     refine spN rfl rfl rfl rfl rfl rfl rfl rfl ?_
                     refine spG rfl rfl rfl rfl (PE.pick rfl rfl rfl) rfl ?_
                     refine sp rfl (PE.pick rfl rfl rfl) rfl ?_
                     refine sp rfl (PE.move rfl) rfl ?_
                     refine spG rfl rfl rfl rfl (PE.move rfl) rfl ?_
                     refine spG rfl rfl rfl rfl (PE.not rfl) rfl ?_
                     refine spG rfl rfl rfl rfl (PE.move rfl) rfl ?_
                     refine Z1 (t := 290) rfl (fun g290 => ?_) (fun g290 => ?_)
                     ·
                      refine spG rfl rfl rfl rfl (PE.move rfl) rfl ?_
                      refine spG rfl rfl rfl rfl (PE.neq rfl rfl) rfl ?_
                      refine spG rfl rfl rfl rfl (PE.pick rfl rfl rfl) rfl ?_
                      refine sp rfl (PE.pick rfl rfl rfl) rfl ?_
                      refine sp rfl (PE.move rfl) rfl ?_
                      refine Z1 (t := 295) rfl (fun g295 => ?_) (fun g295 => ?_)
                      ·
                       exact absurd g295 (by first | (simp; done) | (simp; omega))
                      ·
                       refine spG rfl rfl rfl rfl (PE.move rfl) rfl ?_
                       refine spG rfl rfl rfl rfl (PE.move rfl) rfl ?_
                       refine Z1 (t := 297) rfl (fun g297 => ?_) (fun g297 => ?_)
                       ·
                        exact absurd g297 (by first | (simp; done) | (simp; omega))
                       ·
                        refine spN rfl rfl rfl rfl rfl rfl rfl rfl ?_
                        refine spN rfl rfl rfl rfl rfl rfl rfl rfl ?_
                        refine spG rfl rfl rfl rfl (PE.pick rfl rfl rfl) rfl ?_
                        refine spG rfl rfl rfl rfl (PE.move rfl) rfl ?_
                        refine spN rfl rfl rfl rfl rfl rfl rfl rfl ?_
                        refine spN rfl rfl rfl rfl rfl rfl rfl rfl ?_
                        refine spG rfl rfl rfl rfl (PE.pick rfl rfl rfl) rfl ?_
                        refine sp rfl (PE.pick rfl rfl rfl) rfl ?_
                        refine Z1r (ι := Unit) (fun _ => ⟨[(5, .pointer (some ⟨b5, 0, none⟩)), (6, .int .i64 n), (8, .slice aT T0.length cT), (10, .slice aF fl.length cF), (20, .pointer (some ⟨bh, 0, none⟩)), (164, .int .i64 j), (22, .slice a3 Y2.length c3)], (bh, cel 80 [.slice ah h.length ch, .int .i64 (tq), .int .u32 (mz)]) :: (b5, cel 27 (twl t (t.sl (some ⟨ba, oa, none⟩) ca))) :: H, RowsA a3 4 (Ze Y2) :: RowsA a2 5 (Zg X2) :: RowsA aF 4 (Ze fl) :: RowsA aT 5 (Zg T0) :: RowsA (some ⟨ba, oa, none⟩) 2 (Zx t.rats) :: R⟩) ?_ ?_
                        ·
                         refine Zo rfl ?_
                         refine Z2 ?_
                         exact Z04 () (by repeat' first | exact Sub.nil | apply Sub.cons | rfl | (simp [lk]; omega)) (fun _ h => h)
                        ·
                         rintro ⟨⟩
                         dsimp only
                         refine Z0 ?_
                         refine Z6 [0, 1, 2, 3, 4, 5, 6, 7, 8, 9] rfl ?_
                         refine spL rfl rfl (lhA (twl t (t.sl (some ⟨ba, oa, none⟩) ca)) ZZ rfl rfl rfl) rfl ?_
                         refine sp rfl (PE.move rfl) rfl ?_
                         refine sp rfl (PE.fieldAddr Z0d rfl) rfl ?_
                         refine spL rfl rfl (lhA [_, _, _] ZG rfl rfl rfl) rfl ?_
                         refine cl rfl Z7F rfl rfl (Z4W t hok Y2 2000 hY2 (by omega) a3 c3 t.now (by omega) ba oa ca _ _) ?_
                         rintro _ _ R1 ⟨rfl, rfl, hR1⟩
                         obtain rfl := hR1.symm
                         clear hR1
                         unfold dV
                         obtain ⟨db, hdb⟩ : ∃ b, b = Zq t [] Y2 := ⟨_, rfl⟩
                         obtain ⟨dm, hdm⟩ : ∃ b, b = dM t Y2 t.now := ⟨_, rfl⟩
                         rw [← hdb, ← hdm] at hq2 ⊢
                         rw [← hdm] at hs2
                         refine sp rfl (PE.move rfl) rfl ?_
                         refine sp rfl (PE.extract rfl rfl) rfl ?_
                         refine sp rfl (PE.extract rfl rfl) rfl ?_
                         refine sp rfl (PE.assign rfl) rfl ?_
                         refine sp rfl (PE.assign rfl) rfl ?_
                         refine Z0 ?_
                         refine Z6 [0, 1, 2, 3, 4, 5, 6, 7] rfl ?_
                         refine spL rfl rfl (lhA (twl t (t.sl (some ⟨ba, oa, none⟩) ca)) ZZ rfl rfl rfl) rfl ?_
                         refine sp rfl (PE.move rfl) rfl ?_
                         refine cl rfl Z7w rfl rfl (Z1L t (by omega) Y2 a3 c3 (by omega) ba oa ca _ _) ?_
                         rintro _ _ R1 ⟨rfl, rfl, hR1⟩
                         obtain rfl := hR1.symm
                         clear hR1
                         obtain ⟨sk, hsk⟩ : ∃ b, b = (stR t Y2).1 := ⟨_, rfl⟩
                         obtain ⟨se, hse⟩ : ∃ b, b = (stR t Y2).2 := ⟨_, rfl⟩
                         rw [← hsk, ← hse] at hq2 ⊢
                         clear hsk hse hdb hdm
                         rcases hq2 with ⟨rfl, rfl, e3, rfl⟩ | ⟨rfl, rfl, rfl⟩ | ⟨rfl, rfl, rfl⟩
                         ·
                          refine sp rfl (PE.move rfl) rfl ?_
                          refine sp rfl (PE.extract rfl rfl) rfl ?_
                          refine sp rfl (PE.extract rfl rfl) rfl ?_
                          refine sp rfl (PE.assign rfl) rfl ?_
                          refine sp rfl (PE.assign rfl) rfl ?_
                          refine Z0 ?_
                          refine Z6 [0, 1, 2, 3, 4, 5, 6, 7, 8, 9, 10, 11, 12, 13, 14, 15, 16, 17, 18, 19, 20, 21, 22, 23, 24, 25, 26, 27, 28, 29, 30, 31, 32, 33, 34, 35, 36, 37, 38, 39, 40, 41, 42, 43, 44] rfl ?_
                          refine sp rfl (PE.move rfl) rfl ?_
                          refine sp rfl (PE.geq rfl rfl) rfl ?_
                          refine sp rfl (PE.move rfl) rfl ?_
                          refine Z1 (t := 322) rfl (fun g322 => ?_) (fun g322 => ?_)
                          ·
                           refine spG rfl rfl rfl rfl (PE.move rfl) rfl ?_
                           refine spG rfl rfl rfl rfl (PE.move rfl) rfl ?_
                           refine spG rfl rfl rfl rfl (PE.leq rfl rfl) rfl ?_
                           refine sp rfl (PE.pick rfl rfl rfl) rfl ?_
                           refine sp rfl (PE.move rfl) rfl ?_
                           refine Z1 (t := 327) rfl (fun g327 => ?_) (fun g327 => ?_)
                           ·
                            exact absurd g327 (by first | (simp; done) | (simp; omega))
                           ·
                            refine spG rfl rfl rfl rfl (PE.move rfl) rfl ?_
                            refine spG rfl rfl rfl rfl (PE.eql rfl rfl) rfl ?_
                            refine spG rfl rfl rfl rfl (PE.move rfl) rfl ?_
                            refine spG rfl rfl rfl rfl (PE.move rfl) rfl ?_
                            refine Z1 (t := 331) rfl (fun g331 => ?_) (fun g331 => ?_)
                            ·
                             refine spG rfl rfl rfl rfl (PE.move rfl) rfl ?_
                             refine spG rfl rfl rfl rfl (PE.geq rfl rfl) rfl ?_
                             refine spG rfl rfl rfl rfl (PE.pick rfl rfl rfl) rfl ?_
                             refine spG rfl rfl rfl rfl (PE.neqBool ub4 rfl rfl) rfl ?_
                             refine sp rfl (PE.pick rfl rfl rfl) rfl ?_
                             refine sp rfl (PE.move rfl) rfl ?_
                             refine Z1 (t := 337) rfl (fun g337 => ?_) (fun g337 => ?_)
                             ·
                              exact absurd g337 (by first | (simp; done) | (simp; omega))
                             ·
                              refine spG rfl rfl rfl rfl (PE.move rfl) rfl ?_
                              refine spG rfl rfl rfl rfl (PE.eql rfl rfl) rfl ?_
                              refine spG rfl rfl rfl rfl (PE.move rfl) rfl ?_
                              refine Z1 (t := 340) rfl (fun g340 => ?_) (fun g340 => ?_)
                              ·
                               refine spG rfl rfl rfl rfl (PE.move rfl) rfl ?_
                               refine spG rfl rfl rfl rfl (PE.move rfl) rfl ?_
                               refine spG rfl rfl rfl rfl (PE.neq rfl rfl) rfl ?_
                               refine spG rfl rfl rfl rfl (PE.pick rfl rfl rfl) rfl ?_
                               refine sp rfl (PE.pick rfl rfl rfl) rfl ?_
                               refine sp rfl (PE.move rfl) rfl ?_
                               refine Z1 (t := 346) rfl (fun g346 => ?_) (fun g346 => ?_)
                               ·
                                exact absurd g346 (by first | (simp; done) | (simp; omega))
                               ·
                                refine spG rfl rfl rfl rfl (PE.move rfl) rfl ?_
                                refine spG rfl rfl rfl rfl (PE.not rfl) rfl ?_
                                refine spG rfl rfl rfl rfl (PE.move rfl) rfl ?_
                                refine Z1 (t := 349) rfl (fun g349 => ?_) (fun g349 => ?_)
                                ·
                                 exact absurd g349 (by first | (simp; done) | (simp; omega))
                                ·
                                 refine spN rfl rfl rfl rfl rfl rfl rfl rfl ?_
                                 refine spN rfl rfl rfl rfl rfl rfl rfl rfl ?_
                                 refine spG rfl rfl rfl rfl (PE.pick rfl rfl rfl) rfl ?_
                                 refine sp rfl (PE.pick rfl rfl rfl) rfl ?_
                                 refine sp rfl (PE.move rfl) rfl ?_
                                 refine spG rfl rfl rfl rfl (PE.move rfl) rfl ?_
                                 refine spG rfl rfl rfl rfl (PE.move rfl) rfl ?_
                                 refine Z1 (t := 356) rfl (fun g356 => ?_) (fun g356 => ?_)
                                 ·
                                  refine spG rfl rfl rfl rfl (PE.move rfl) rfl ?_
                                  refine spG rfl rfl rfl rfl (PE.lss rfl rfl) rfl ?_
                                  refine spG rfl rfl rfl rfl (PE.pick rfl rfl rfl) rfl ?_
                                  refine spG rfl rfl rfl rfl (PE.move rfl) rfl ?_
                                  refine Z1 (t := 360) rfl (fun g360 => ?_) (fun g360 => ?_)
                                  ·
                                   exact absurd g360 (by first | (simp; done) | (simp; omega))
                                  ·
                                   refine spN rfl rfl rfl rfl rfl rfl rfl rfl ?_
                                   refine spN rfl rfl rfl rfl rfl rfl rfl rfl ?_
                                   refine spG rfl rfl rfl rfl (PE.pick rfl rfl rfl) rfl ?_
                                   refine sp rfl (PE.pick rfl rfl rfl) rfl ?_
                                   refine Zo rfl ?_
                                   refine Z2 ?_
                                   refine Z6 [0, 1] rfl ?_
                                   refine sp rfl (PE.add rfl rfl (by omega)) rfl ?_
                                   refine sp rfl (PE.move rfl) rfl ?_
                                   exact Zc ⟨(j + 1, tq, mz), by omega, by dsimp only; omega, by assumption⟩ (by dsimp only; omega) (by repeat' first | exact Sub.nil | apply Sub.cons | rfl | (simp [lk]; omega)) (fun w h => h.ftail.ftail)
                                 ·
                                  exact absurd g356 (by first | (simp; done) | (simp; omega))
                              ·
                               exact absurd g340 (by first | (simp; done) | (simp; omega))
                            ·
                             exact absurd g331 (by first | (simp; done) | (simp; omega))
                          ·
                           exact absurd g322 (by first | (simp; done) | (simp; omega))
                         ·
                          refine sp rfl (PE.move rfl) rfl ?_
                          refine sp rfl (PE.extract rfl rfl) rfl ?_
                          refine sp rfl (PE.extract rfl rfl) rfl ?_
                          refine sp rfl (PE.assign rfl) rfl ?_
                          refine sp rfl (PE.assign rfl) rfl ?_
                          refine Z0 ?_
                          refine Z6 [0, 1, 2, 3, 4, 5, 6, 7, 8, 9, 10, 11, 12, 13, 14, 15, 16, 17, 18, 19, 20, 21, 22, 23, 24, 25, 26, 27, 28, 29, 30, 31, 32, 33, 34, 35, 36, 37, 38, 39, 40, 41, 42, 43, 44] rfl ?_
                          refine sp rfl (PE.move rfl) rfl ?_
                          refine sp rfl (PE.geq rfl rfl) rfl ?_
                          refine sp rfl (PE.move rfl) rfl ?_
                          refine Z1 (t := 322) rfl (fun g322 => ?_) (fun g322 => ?_)
                          ·
                           exact absurd g322 (by first | (simp; done) | (simp; omega))
                          ·
                           refine spN rfl rfl rfl rfl rfl rfl rfl rfl ?_
                           refine spN rfl rfl rfl rfl rfl rfl rfl rfl ?_
                           refine spN rfl rfl rfl rfl rfl rfl rfl rfl ?_
                           refine sp rfl (PE.pick rfl rfl rfl) rfl ?_
                           refine sp rfl (PE.move rfl) rfl ?_
                           refine spG rfl rfl rfl rfl (PE.move rfl) rfl ?_
                           refine spG rfl rfl rfl rfl (PE.eql rfl rfl) rfl ?_
                           refine spG rfl rfl rfl rfl (PE.move rfl) rfl ?_
                           refine spG rfl rfl rfl rfl (PE.move rfl) rfl ?_
                           refine Z1 (t := 331) rfl (fun g331 => ?_) (fun g331 => ?_)
                           ·
                            exact absurd g331 (by first | (simp; done) | (simp; omega))
                           ·
                            refine spN rfl rfl rfl rfl rfl rfl rfl rfl ?_
                            refine spN rfl rfl rfl rfl rfl rfl rfl rfl ?_
                            refine spG rfl rfl rfl rfl (PE.pick rfl rfl rfl) rfl ?_
                            refine spG rfl rfl rfl rfl (PE.neqBool ub4 rfl rfl) rfl ?_
                            refine sp rfl (PE.pick rfl rfl rfl) rfl ?_
                            refine sp rfl (PE.move rfl) rfl ?_
                            refine Z1 (t := 337) rfl (fun g337 => ?_) (fun g337 => ?_)
                            ·
                             exact absurd g337 (by first | (simp; done) | (simp; omega))
                            ·
                             refine spG rfl rfl rfl rfl (PE.move rfl) rfl ?_
                             refine spG rfl rfl rfl rfl (PE.eql rfl rfl) rfl ?_
                             refine spG rfl rfl rfl rfl (PE.move rfl) rfl ?_
                             refine Z1 (t := 340) rfl (fun g340 => ?_) (fun g340 => ?_)
                             ·
                              exact absurd g340 (by first | (simp; done) | (simp; omega))
                             ·
                              refine spN rfl rfl rfl rfl rfl rfl rfl rfl ?_
                              refine spN rfl rfl rfl rfl rfl rfl rfl rfl ?_
                              refine spN rfl rfl rfl rfl rfl rfl rfl rfl ?_
                              refine spG rfl rfl rfl rfl (PE.pick rfl rfl rfl) rfl ?_
                              refine sp rfl (PE.pick rfl rfl rfl) rfl ?_
                              refine sp rfl (PE.move rfl) rfl ?_
                              refine spG rfl rfl rfl rfl (PE.move rfl) rfl ?_
                              refine spG rfl rfl rfl rfl (PE.not rfl) rfl ?_
                              refine spG rfl rfl rfl rfl (PE.move rfl) rfl ?_
                              refine Z1 (t := 349) rfl (fun g349 => ?_) (fun g349 => ?_)
                              ·
                               refine spG rfl rfl rfl rfl (PE.move rfl) rfl ?_
                               refine spG rfl rfl rfl rfl (PE.neq rfl rfl) rfl ?_
                               refine spG rfl rfl rfl rfl (PE.pick rfl rfl rfl) rfl ?_
                               refine sp rfl (PE.pick rfl rfl rfl) rfl ?_
                               refine sp rfl (PE.move rfl) rfl ?_
                               refine Z1 (t := 354) rfl (fun g354 => ?_) (fun g354 => ?_)
                               ·
                                exact absurd g354 (by first | (simp; done) | (simp; omega))
                               ·
                                refine spG rfl rfl rfl rfl (PE.move rfl) rfl ?_
                                refine spG rfl rfl rfl rfl (PE.move rfl) rfl ?_
                                refine Z1 (t := 356) rfl (fun g356 => ?_) (fun g356 => ?_)
                                ·
                                 exact absurd g356 (by first | (simp; done) | (simp; omega))
                                ·
                                 refine spN rfl rfl rfl rfl rfl rfl rfl rfl ?_
                                 refine spN rfl rfl rfl rfl rfl rfl rfl rfl ?_
                                 refine spG rfl rfl rfl rfl (PE.pick rfl rfl rfl) rfl ?_
                                 refine spG rfl rfl rfl rfl (PE.move rfl) rfl ?_
                                 refine spN rfl rfl rfl rfl rfl rfl rfl rfl ?_
                                 refine spN rfl rfl rfl rfl rfl rfl rfl rfl ?_
                                 refine spG rfl rfl rfl rfl (PE.pick rfl rfl rfl) rfl ?_
                                 refine sp rfl (PE.pick rfl rfl rfl) rfl ?_
                                 refine Zo rfl ?_
                                 refine Z2 ?_
                                 refine Z6 [0, 1] rfl ?_
                                 refine sp rfl (PE.add rfl rfl (by omega)) rfl ?_
                                 refine sp rfl (PE.move rfl) rfl ?_
                                 exact Zc ⟨(j + 1, tq, mz), by omega, by dsimp only; omega, by assumption⟩ (by dsimp only; omega) (by repeat' first | exact Sub.nil | apply Sub.cons | rfl | (simp [lk]; omega)) (fun w h => h.ftail.ftail)
                              ·
                               exact absurd g349 (by first | (simp; done) | (simp; omega))
                         ·
                          refine sp rfl (PE.move rfl) rfl ?_
                          refine sp rfl (PE.extract rfl rfl) rfl ?_
                          refine sp rfl (PE.extract rfl rfl) rfl ?_
                          refine sp rfl (PE.assign rfl) rfl ?_
                          refine sp rfl (PE.assign rfl) rfl ?_
                          refine Z0 ?_
                          refine Z6 [0, 1, 2, 3, 4, 5, 6, 7, 8, 9, 10, 11, 12, 13, 14, 15, 16, 17, 18, 19, 20, 21, 22, 23, 24, 25, 26, 27, 28, 29, 30, 31, 32, 33, 34, 35, 36, 37, 38, 39, 40, 41, 42, 43, 44] rfl ?_
                          refine sp rfl (PE.move rfl) rfl ?_
                          refine sp rfl (PE.geq rfl rfl) rfl ?_
                          refine sp rfl (PE.move rfl) rfl ?_
                          refine Z1 (t := 322) rfl (fun g322 => ?_) (fun g322 => ?_)
                          ·
                           exact absurd g322 (by first | (simp; done) | (simp; omega))
                          ·
                           refine spN rfl rfl rfl rfl rfl rfl rfl rfl ?_
                           refine spN rfl rfl rfl rfl rfl rfl rfl rfl ?_
                           refine spN rfl rfl rfl rfl rfl rfl rfl rfl ?_
                           refine sp rfl (PE.pick rfl rfl rfl) rfl ?_
                           refine sp rfl (PE.move rfl) rfl ?_
                           refine spG rfl rfl rfl rfl (PE.move rfl) rfl ?_
                           refine spG rfl rfl rfl rfl (PE.eql rfl rfl) rfl ?_
                           refine spG rfl rfl rfl rfl (PE.move rfl) rfl ?_
                           refine spG rfl rfl rfl rfl (PE.move rfl) rfl ?_
                           refine Z1 (t := 331) rfl (fun g331 => ?_) (fun g331 => ?_)
                           ·
                            refine spG rfl rfl rfl rfl (PE.move rfl) rfl ?_
                            refine spG rfl rfl rfl rfl (PE.geq rfl rfl) rfl ?_
                            refine spG rfl rfl rfl rfl (PE.pick rfl rfl rfl) rfl ?_
                            refine spG rfl rfl rfl rfl (PE.neqBool ub4 rfl rfl) rfl ?_
                            refine sp rfl (PE.pick rfl rfl rfl) rfl ?_
                            refine sp rfl (PE.move rfl) rfl ?_
                            refine Z1 (t := 337) rfl (fun g337 => ?_) (fun g337 => ?_)
                            ·
                             exact absurd g337 (by first | (simp; done) | (simp; omega))
                            ·
                             refine spG rfl rfl rfl rfl (PE.move rfl) rfl ?_
                             refine spG rfl rfl rfl rfl (PE.eql rfl rfl) rfl ?_
                             refine spG rfl rfl rfl rfl (PE.move rfl) rfl ?_
                             refine Z1 (t := 340) rfl (fun g340 => ?_) (fun g340 => ?_)
                             ·
                              exact absurd g340 (by first | (simp; done) | (simp; omega))
                             ·
                              refine spN rfl rfl rfl rfl rfl rfl rfl rfl ?_
                              refine spN rfl rfl rfl rfl rfl rfl rfl rfl ?_
                              refine spN rfl rfl rfl rfl rfl rfl rfl rfl ?_
                              refine spG rfl rfl rfl rfl (PE.pick rfl rfl rfl) rfl ?_
                              refine sp rfl (PE.pick rfl rfl rfl) rfl ?_
                              refine sp rfl (PE.move rfl) rfl ?_
                              refine spG rfl rfl rfl rfl (PE.move rfl) rfl ?_
                              refine spG rfl rfl rfl rfl (PE.not rfl) rfl ?_
                              refine spG rfl rfl rfl rfl (PE.move rfl) rfl ?_
                              refine Z1 (t := 349) rfl (fun g349 => ?_) (fun g349 => ?_)
                              ·
                               exact absurd g349 (by first | (simp; done) | (simp; omega))
                              ·
                               refine spN rfl rfl rfl rfl rfl rfl rfl rfl ?_
                               refine spN rfl rfl rfl rfl rfl rfl rfl rfl ?_
                               refine spG rfl rfl rfl rfl (PE.pick rfl rfl rfl) rfl ?_
                               refine sp rfl (PE.pick rfl rfl rfl) rfl ?_
                               refine sp rfl (PE.move rfl) rfl ?_
                               refine spG rfl rfl rfl rfl (PE.move rfl) rfl ?_
                               refine spG rfl rfl rfl rfl (PE.move rfl) rfl ?_
                               refine Z1 (t := 356) rfl (fun g356 => ?_) (fun g356 => ?_)
                               ·
                                refine spG rfl rfl rfl rfl (PE.move rfl) rfl ?_
                                refine spG rfl rfl rfl rfl (PE.lss rfl rfl) rfl ?_
                                refine spG rfl rfl rfl rfl (PE.pick rfl rfl rfl) rfl ?_
                                refine spG rfl rfl rfl rfl (PE.move rfl) rfl ?_
                                refine Z1 (t := 360) rfl (fun g360 => ?_) (fun g360 => ?_)
                                ·
                                 refine spG rfl rfl rfl rfl (PE.move rfl) rfl ?_
                                 refine spG rfl rfl rfl rfl (PE.neq rfl rfl) rfl ?_
                                 refine spG rfl rfl rfl rfl (PE.pick rfl rfl rfl) rfl ?_
                                 refine sp rfl (PE.pick rfl rfl rfl) rfl ?_
                                 refine Z4 rfl (fun hc13 => ?_) (fun hc13 => ?_)
                                 ·
                                  exact absurd hc13 (by first | (simp; done) | (simp; omega))
                                 ·
                                  refine Z2 ?_
                                  refine Z6 [0, 1] rfl ?_
                                  refine sp rfl (PE.add rfl rfl (by omega)) rfl ?_
                                  refine sp rfl (PE.move rfl) rfl ?_
                                  exact Zc ⟨(j + 1, tq, mz), by omega, by dsimp only; omega, by assumption⟩ (by dsimp only; omega) (by repeat' first | exact Sub.nil | apply Sub.cons | rfl | (simp [lk]; omega)) (fun w h => h.ftail.ftail)
                                ·
                                 exact absurd g360 (by first | (simp; done) | (simp; omega))
                               ·
                                exact absurd g356 (by first | (simp; done) | (simp; omega))
                           ·
                            exact absurd g331 (by first | (simp; done) | (simp; omega))
                     ·
                      exact absurd g290 (by first | (simp; done) | (simp; omega))
                ·
                 refine sp rfl (PE.move rfl) rfl ?_
                 refine sp rfl (PE.extract rfl rfl) rfl ?_
                 refine sp rfl (PE.extract rfl rfl) rfl ?_
                 refine sp rfl (PE.assign rfl) rfl ?_
                 refine sp rfl (PE.assign rfl) rfl ?_
                 refine Z0 ?_
                 refine Z0 ?_
                 refine Z6 [0, 1, 2, 3, 4, 5, 6, 7, 8, 9, 10, 11, 12, 13, 14, 15, 16, 17, 18, 19, 20, 21, 22, 23, 24, 25, 26, 27, 28, 29, 30, 31, 32, 33, 34, 35, 36, 37, 38, 39, 40] rfl ?_
                 refine sp rfl (PE.move rfl) rfl ?_
                 refine sp rfl (PE.move rfl) rfl ?_
                 refine sp rfl (PE.gtr rfl rfl) rfl ?_
                 refine sp rfl (PE.move rfl) rfl ?_
                 refine Z1 (t := 268) rfl (fun g268 => ?_) (fun g268 => ?_)
                 ·
                  exact absurd g268 (by first | (simp; done) | (simp; omega))
                 ·
                  refine spG rfl rfl rfl rfl (PE.move rfl) rfl ?_
                  refine spG rfl rfl rfl rfl (PE.eql rfl rfl) rfl ?_
                  refine spG rfl rfl rfl rfl (PE.move rfl) rfl ?_
                  refine spG rfl rfl rfl rfl (PE.move rfl) rfl ?_
                  refine Z1 (t := 272) rfl (fun g272 => ?_) (fun g272 => ?_)
                  ·
                   refine spG rfl rfl rfl rfl (PE.move rfl) rfl ?_
                   refine spG rfl rfl rfl rfl (PE.geq rfl rfl) rfl ?_
                   refine spG rfl rfl rfl rfl (PE.pick rfl rfl rfl) rfl ?_
                   refine spG rfl rfl rfl rfl (PE.neqBool ub4 rfl rfl) rfl ?_
                   refine sp rfl (PE.pick rfl rfl rfl) rfl ?_
                   refine sp rfl (PE.move rfl) rfl ?_
                   refine Z1 (t := 278) rfl (fun g278 => ?_) (fun g278 => ?_)
                   ·
                    exact absurd g278 (by first | (simp; done) | (simp; omega))
                   ·
                    refine spG rfl rfl rfl rfl (PE.move rfl) rfl ?_
                    refine spG rfl rfl rfl rfl (PE.eql rfl rfl) rfl ?_
                    refine spG rfl rfl rfl rfl (PE.move rfl) rfl ?_
                    refine Z1 (t := 281) rfl (fun g281 => ?_) (fun g281 => ?_)
                    ·
                     exact absurd g281 (by first | (simp; done) | (simp; omega))
                    ·
                     refine spN rfl rfl rfl rfl rfl rfl rfl rfl ?_
                     refine spN rfl rfl rfl rfl rfl rfl rfl rfl ?_
                     refine spN rfl rfl rfl rfl rfl rfl rfl rfl ?_
                     refine spG rfl rfl rfl rfl (PE.pick rfl rfl rfl) rfl ?_
                     refine sp rfl (PE.pick rfl rfl rfl) rfl ?_
                     refine sp rfl (PE.move rfl) rfl ?_
                     refine spG rfl rfl rfl rfl (PE.move rfl) rfl ?_
                     refine spG rfl rfl rfl rfl (PE.not rfl) rfl ?_
                     refine spG rfl rfl rfl rfl (PE.move rfl) rfl ?_
                     refine Z1 (t := 290) rfl (fun g290 => ?_) (fun g290 => ?_)
                     ·
                      exact absurd g290 (by first | (simp; done) | (simp; omega))
                     ·
                      refine spN rfl rfl rfl rfl rfl rfl rfl rfl ?_
                      refine spN rfl rfl rfl rfl rfl rfl rfl rfl ?_
                      refine spG rfl rfl rfl rfl (PE.pick rfl rfl rfl) rfl ?_
                      refine sp rfl (PE.pick rfl rfl rfl) rfl ?_
                      refine sp rfl (PE.move rfl) rfl ?_
                      refine spG rfl rfl rfl rfl (PE.move rfl) rfl ?_
                      refine spG rfl rfl rfl rfl (PE.move rfl) rfl ?_
                      refine Z1 (t := 297) rfl (fun g297 => ?_) (fun g297 => ?_)
                      ·
                       refine spG rfl rfl rfl rfl (PE.move rfl) rfl ?_
                       refine spG rfl rfl rfl rfl (PE.lss rfl rfl) rfl ?_
                       refine spG rfl rfl rfl rfl (PE.pick rfl rfl rfl) rfl ?_
                       refine spG rfl rfl rfl rfl (PE.move rfl) rfl ?_
                       refine Z1 (t := 301) rfl (fun g301 => ?_) (fun g301 => ?_)
                       ·
                        refine spG rfl rfl rfl rfl (PE.move rfl) rfl ?_
                        refine spG rfl rfl rfl rfl (PE.neq rfl rfl) rfl ?_
                        refine spG rfl rfl rfl rfl (PE.pick rfl rfl rfl) rfl ?_
                        refine sp rfl (PE.pick rfl rfl rfl) rfl ?_
                        refine Z1r (ι := Unit) (fun _ => ⟨[(5, .pointer (some ⟨b5, 0, none⟩)), (6, .int .i64 n), (8, .slice aT T0.length cT), (10, .slice aF fl.length cF), (20, .pointer (some ⟨bh, 0, none⟩)), (164, .int .i64 j), (22, .slice a3 Y2.length c3)], (bh, cel 80 [.slice ah h.length ch, .int .i64 (tq), .int .u32 (mz)]) :: (b5, cel 27 (twl t (t.sl (some ⟨ba, oa, none⟩) ca))) :: H, RowsA a3 4 (Ze Y2) :: RowsA a2 5 (Zg X2) :: RowsA aF 4 (Ze fl) :: RowsA aT 5 (Zg T0) :: RowsA (some ⟨ba, oa, none⟩) 2 (Zx t.rats) :: R⟩) ?_ ?_
                        ·
                         refine Z4 rfl (fun hc12 => ?_) (fun hc12 => ?_)
                         ·
                          exact absurd hc12 (by first | (simp; done) | (simp; omega))
                         ·
                          refine Z2 ?_
                          exact Z04 () (by repeat' first | exact Sub.nil | apply Sub.cons | rfl | (simp [lk]; omega)) (fun _ h => h)
                        ·
                         rintro ⟨⟩
                         dsimp only
                         refine Z0 ?_
                         refine Z6 [0, 1, 2, 3, 4, 5, 6, 7, 8, 9] rfl ?_
                         refine spL rfl rfl (lhA (twl t (t.sl (some ⟨ba, oa, none⟩) ca)) ZZ rfl rfl rfl) rfl ?_
                         refine sp rfl (PE.move rfl) rfl ?_
                         refine sp rfl (PE.fieldAddr Z0d rfl) rfl ?_
                         refine spL rfl rfl (lhA [_, _, _] ZG rfl rfl rfl) rfl ?_
                         refine cl rfl Z7F rfl rfl (Z4W t hok Y2 2000 hY2 (by omega) a3 c3 t.now (by omega) ba oa ca _ _) ?_
                         rintro _ _ R1 ⟨rfl, rfl, hR1⟩
                         obtain rfl := hR1.symm
                         clear hR1
                         unfold dV
                         obtain ⟨db, hdb⟩ : ∃ b, b = Zq t [] Y2 := ⟨_, rfl⟩
                         obtain ⟨dm, hdm⟩ : ∃ b, b = dM t Y2 t.now := ⟨_, rfl⟩
                         rw [← hdb, ← hdm] at hq2 ⊢
                         rw [← hdm] at hs2
                         refine sp rfl (PE.move rfl) rfl ?_
                         refine sp rfl (PE.extract rfl rfl) rfl ?_
                         refine sp rfl (PE.extract rfl rfl) rfl ?_
                         refine sp rfl (PE.assign rfl) rfl ?_
                         refine sp rfl (PE.assign rfl) rfl ?_
                         refine Z0 ?_
                         refine Z6 [0, 1, 2, 3, 4, 5, 6, 7] rfl ?_
                         refine spL rfl rfl (lhA (twl t (t.sl (some ⟨ba, oa, none⟩) ca)) ZZ rfl rfl rfl) rfl ?_
                         refine sp rfl (PE.move rfl) rfl ?_
                         refine cl rfl Z7w rfl rfl (Z1L t (by omega) Y2 a3 c3 (by omega) ba oa ca _ _) ?_
                         rintro _ _ R1 ⟨rfl, rfl, hR1⟩
                         obtain rfl := hR1.symm
                         clear hR1
                         obtain ⟨sk, hsk⟩ : ∃ b, b = (stR t Y2).1 := ⟨_, rfl⟩
                         obtain ⟨se, hse⟩ : ∃ b, b = (stR t Y2).2 := ⟨_, rfl⟩
                         rw [← hsk, ← hse] at hq2 ⊢
                         clear hsk hse hdb hdm
                         rcases hq2 with ⟨rfl, rfl, e3, rfl⟩ | ⟨rfl, rfl, rfl⟩ | ⟨rfl, rfl, rfl⟩
                         ·
                          refine sp rfl (PE.move rfl) rfl ?_
                          refine sp rfl (PE.extract rfl rfl) rfl ?_
                          refine sp rfl (PE.extract rfl rfl) rfl ?_
                          refine sp rfl (PE.assign rfl) rfl ?_
                          refine sp rfl (PE.assign rfl) rfl ?_
                          refine Z0 ?_
                          refine Z6 [0, 1, 2, 3, 4, 5, 6, 7, 8, 9, 10, 11, 12, 13, 14, 15, 16, 17, 18, 19, 20, 21, 22, 23, 24, 25, 26, 27, 28, 29, 30, 31, 32, 33, 34, 35, 36, 37, 38, 39, 40, 41, 42, 43, 44] rfl ?_
                          refine sp rfl (PE.move rfl) rfl ?_
                          refine sp rfl (PE.geq rfl rfl) rfl ?_
                          refine sp rfl (PE.move rfl) rfl ?_
                          refine Z1 (t := 322) rfl (fun g322 => ?_) (fun g322 => ?_)
                          ·
                           refine spG rfl rfl rfl rfl (PE.move rfl) rfl ?_
                           refine spG rfl rfl rfl rfl (PE.move rfl) rfl ?_
                           refine spG rfl rfl rfl rfl (PE.leq rfl rfl) rfl ?_
                           refine sp rfl (PE.pick rfl rfl rfl) rfl ?_
                           refine sp rfl (PE.move rfl) rfl ?_
                           refine Z1 (t := 327) rfl (fun g327 => ?_) (fun g327 => ?_)
                           ·
                            exact absurd g327 (by first | (simp; done) | (simp; omega))
                           ·
                            refine spG rfl rfl rfl rfl (PE.move rfl) rfl ?_
                            refine spG rfl rfl rfl rfl (PE.eql rfl rfl) rfl ?_
                            refine spG rfl rfl rfl rfl (PE.move rfl) rfl ?_
                            refine spG rfl rfl rfl rfl (PE.move rfl) rfl ?_
                            refine Z1 (t := 331) rfl (fun g331 => ?_) (fun g331 => ?_)
                            ·
                             refine spG rfl rfl rfl rfl (PE.move rfl) rfl ?_
                             refine spG rfl rfl rfl rfl (PE.geq rfl rfl) rfl ?_
                             refine spG rfl rfl rfl rfl (PE.pick rfl rfl rfl) rfl ?_
                             refine spG rfl rfl rfl rfl (PE.neqBool ub4 rfl rfl) rfl ?_
                             refine sp rfl (PE.pick rfl rfl rfl) rfl ?_
                             refine sp rfl (PE.move rfl) rfl ?_
                             refine Z1 (t := 337) rfl (fun g337 => ?_) (fun g337 => ?_)
                             ·
                              exact absurd g337 (by first | (simp; done) | (simp; omega))
                             ·
                              refine spG rfl rfl rfl rfl (PE.move rfl) rfl ?_
                              refine spG rfl rfl rfl rfl (PE.eql rfl rfl) rfl ?_
                              refine spG rfl rfl rfl rfl (PE.move rfl) rfl ?_
                              refine Z1 (t := 340) rfl (fun g340 => ?_) (fun g340 => ?_)
                              ·
                               refine spG rfl rfl rfl rfl (PE.move rfl) rfl ?_
                               refine spG rfl rfl rfl rfl (PE.move rfl) rfl ?_
                               refine spG rfl rfl rfl rfl (PE.neq rfl rfl) rfl ?_
                               refine spG rfl rfl rfl rfl (PE.pick rfl rfl rfl) rfl ?_
                               refine sp rfl (PE.pick rfl rfl rfl) rfl ?_
                               refine sp rfl (PE.move rfl) rfl ?_
                               refine Z1 (t := 346) rfl (fun g346 => ?_) (fun g346 => ?_)
                               ·
                                exact absurd g346 (by first | (simp; done) | (simp; omega))
                               ·
                                refine spG rfl rfl rfl rfl (PE.move rfl) rfl ?_
                                refine spG rfl rfl rfl rfl (PE.not rfl) rfl ?_
                                refine spG rfl rfl rfl rfl (PE.move rfl) rfl ?_
                                refine Z1 (t := 349) rfl (fun g349 => ?_) (fun g349 => ?_)
                                ·
                                 exact absurd g349 (by first | (simp; done) | (simp; omega))
                                ·
                                 refine spN rfl rfl rfl rfl rfl rfl rfl rfl ?_
                                 refine spN rfl rfl rfl rfl rfl rfl rfl rfl ?_
                                 refine spG rfl rfl rfl rfl (PE.pick rfl rfl rfl) rfl ?_
                                 refine sp rfl (PE.pick rfl rfl rfl) rfl ?_
                                 refine sp rfl (PE.move rfl) rfl ?_
                                 refine spG rfl rfl rfl rfl (PE.move rfl) rfl ?_
                                 refine spG rfl rfl rfl rfl (PE.move rfl) rfl ?_
                                 refine Z1 (t := 356) rfl (fun g356 => ?_) (fun g356 => ?_)
                                 ·
                                  refine spG rfl rfl rfl rfl (PE.move rfl) rfl ?_
                                  refine spG rfl rfl rfl rfl (PE.lss rfl rfl) rfl ?_
                                  refine spG rfl rfl rfl rfl (PE.pick rfl rfl rfl) rfl ?_
                                  refine spG rfl rfl rfl rfl (PE.move rfl) rfl ?_
                                  refine Z1 (t := 360) rfl (fun g360 => ?_) (fun g360 => ?_)
                                  ·
                                   exact absurd g360 (by first | (simp; done) | (simp; omega))
                                  ·
                                   refine spN rfl rfl rfl rfl rfl rfl rfl rfl ?_
                                   refine spN rfl rfl rfl rfl rfl rfl rfl rfl ?_
                                   refine spG rfl rfl rfl rfl (PE.pick rfl rfl rfl) rfl ?_
                                   refine sp rfl (PE.pick rfl rfl rfl) rfl ?_
                                   refine Zo rfl ?_
                                   refine Z2 ?_
                                   refine Z6 [0, 1] rfl ?_
                                   refine sp rfl (PE.add rfl rfl (by omega)) rfl ?_
                                   refine sp rfl (PE.move rfl) rfl ?_
                                   exact Zc ⟨(j + 1, tq, mz), by omega, by dsimp only; omega, by assumption⟩ (by dsimp only; omega) (by repeat' first | exact Sub.nil | apply Sub.cons | rfl | (simp [lk]; omega)) (fun w h => h.ftail.ftail)
                                 ·
                                  exact absurd g356 (by first | (simp; done) | (simp; omega))
                              ·
                               exact absurd g340 (by first | (simp; done) | (simp; omega))
                            ·
                             exact absurd g331 (by first | (simp; done) | (simp; omega))
                          ·
                           exact absurd g322 (by first | (simp; done) | (simp; omega))
                         ·
                          refine sp rfl (PE.move rfl) rfl ?_
                          refine sp rfl (PE.extract rfl rfl) rfl ?_
                          refine sp rfl (PE.extract rfl rfl) rfl ?_
                          refine sp rfl (PE.assign rfl) rfl ?_
                          refine sp rfl (PE.assign rfl) rfl ?_
                          refine Z0 ?_
                          refine Z6 [0, 1, 2, 3, 4, 5, 6, 7, 8, 9, 10, 11, 12, 13, 14, 15, 16, 17, 18, 19, 20, 21, 22, 23, 24, 25, 26, 27, 28, 29, 30, 31, 32, 33, 34, 35, 36, 37, 38, 39, 40, 41, 42, 43, 44] rfl ?_
                          refine sp rfl (PE.move rfl) rfl ?_
                          refine sp rfl (PE.geq rfl rfl) rfl ?_
                          refine sp rfl (PE.move rfl) rfl ?_
                          refine Z1 (t := 322) rfl (fun g322 => ?_) (fun g322 => ?_)
                          ·
                           exact absurd g322 (by first | (simp; done) | (simp; omega))
                          ·
                           refine spN rfl rfl rfl rfl rfl rfl rfl rfl ?_
                           refine spN rfl rfl rfl rfl rfl rfl rfl rfl ?_
                           refine spN rfl rfl rfl rfl rfl rfl rfl rfl ?_
                           refine sp rfl (PE.pick rfl rfl rfl) rfl ?_
                           refine sp rfl (PE.move rfl) rfl ?_
                           refine spG rfl rfl rfl rfl (PE.move rfl) rfl ?_
                           refine spG rfl rfl rfl rfl (PE.eql rfl rfl) rfl ?_
                           refine spG rfl rfl rfl rfl (PE.move rfl) rfl ?_
                           refine spG rfl rfl rfl rfl (PE.move rfl) rfl ?_
                           refine Z1 (t := 331) rfl (fun g331 => ?_) (fun g331 => ?_)
                           ·
                            exact absurd g331 (by first | (simp; done) | (simp; omega))
                           ·
                            refine spN rfl rfl rfl rfl rfl rfl rfl rfl ?_
                            refine spN rfl rfl rfl rfl rfl rfl rfl rfl ?_
                            refine spG rfl rfl rfl rfl (PE.pick rfl rfl rfl) rfl ?_
                            refine spG rfl rfl rfl rfl (PE.neqBool ub4 rfl rfl) rfl ?_
                            refine sp rfl (PE.pick rfl rfl rfl) rfl ?_
                            refine sp rfl (PE.move rfl) rfl ?_
                            refine Z1 (t := 337) rfl (fun g337 => ?_) (fun g337 => ?_)
                            ·
                             exact absurd g337 (by first | (simp; done) | (simp; omega))
                            ·
                             refine spG rfl rfl rfl rfl (PE.move rfl) rfl ?_
                             refine spG rfl rfl rfl rfl (PE.eql rfl rfl) rfl ?_
                             refine spG rfl rfl rfl rfl (PE.move rfl) rfl ?_
                             refine Z1 (t := 340) rfl (fun g340 => ?_) (fun g340 => ?_)
                             ·
                              exact absurd g340 (by first | (simp; done) | (simp; omega))
                             ·
                              refine spN rfl rfl rfl rfl rfl rfl rfl rfl ?_
                              refine spN rfl rfl rfl rfl rfl rfl rfl rfl ?_
                              refine spN rfl rfl rfl rfl rfl rfl rfl rfl ?_
                              refine spG rfl rfl rfl rfl (PE.pick rfl rfl rfl) rfl ?_
                              refine sp rfl (PE.pick rfl rfl rfl) rfl ?_
                              refine sp rfl (PE.move rfl) rfl ?_
                              refine spG rfl rfl rfl rfl (PE.move rfl) rfl ?_
                              refine spG rfl rfl rfl rfl (PE.not rfl) rfl ?_
                              refine spG rfl rfl rfl rfl (PE.move rfl) rfl ?_
                              refine Z1 (t := 349) rfl (fun g349 => ?_) (fun g349 => ?_)
                              ·
                               refine spG rfl rfl rfl rfl (PE.move rfl) rfl ?_
                               refine spG rfl rfl rfl rfl (PE.neq rfl rfl) rfl ?_
                               refine spG rfl rfl rfl rfl (PE.pick rfl rfl rfl) rfl ?_
                               refine sp rfl (PE.pick rfl rfl rfl) rfl ?_
                               refine sp rfl (PE.move rfl) rfl ?_
                               refine Z1 (t := 354) rfl (fun g354 => ?_) (fun g354 => ?_)
                               ·
                                exact absurd g354 (by first | (simp; done) | (simp; omega))
                               ·
                                refine spG rfl rfl rfl rfl (PE.move rfl) rfl ?_
                                refine spG rfl rfl rfl rfl (PE.move rfl) rfl ?_
                                refine Z1 (t := 356) rfl (fun g356 => ?_) (fun g356 => ?_)
                                ·
                                 exact absurd g356 (by first | (simp; done) | (simp; omega))
                                ·
                                 refine spN rfl rfl rfl rfl rfl rfl rfl rfl ?_
                                 refine spN rfl rfl rfl rfl rfl rfl rfl rfl ?_
                                 refine spG rfl rfl rfl rfl (PE.pick rfl rfl rfl) rfl ?_
                                 refine spG rfl rfl rfl rfl (PE.move rfl) rfl ?_
                                 refine spN rfl rfl rfl rfl rfl rfl rfl rfl ?_
                                 refine spN rfl rfl rfl rfl rfl rfl rfl rfl ?_
                                 refine spG rfl rfl rfl rfl (PE.pick rfl rfl rfl) rfl ?_
                                 refine sp rfl (PE.pick rfl rfl rfl) rfl ?_
                                 refine Zo rfl ?_
                                 refine Z2 ?_
                                 refine Z6 [0, 1] rfl ?_
                                 refine sp rfl (PE.add rfl rfl (by omega)) rfl ?_
                                 refine sp rfl (PE.move rfl) rfl ?_
                                 exact Zc ⟨(j + 1, tq, mz), by omega, by dsimp only; omega, by assumption⟩ (by dsimp only; omega) (by repeat' first | exact Sub.nil | apply Sub.cons | rfl | (simp [lk]; omega)) (fun w h => h.ftail.ftail)
                              ·
                               exact absurd g349 (by first | (simp; done) | (simp; omega))
                         ·
                          refine sp rfl (PE.move rfl) rfl ?_
                          refine sp rfl (PE.extract rfl rfl) rfl ?_
                          refine sp rfl (PE.extract rfl rfl) rfl ?_
                          refine sp rfl (PE.assign rfl) rfl ?_
                          refine sp rfl (PE.assign rfl) rfl ?_
                          refine Z0 ?_
                          refine Z6 [0, 1, 2, 3, 4, 5, 6, 7, 8, 9, 10, 11, 12, 13, 14, 15, 16, 17, 18, 19, 20, 21, 22, 23, 24, 25, 26, 27, 28, 29, 30, 31, 32, 33, 34, 35, 36, 37, 38, 39, 40, 41, 42, 43, 44] rfl ?_
                          refine sp rfl (PE.move rfl) rfl ?_
                          refine sp rfl (PE.geq rfl rfl) rfl ?_
                          refine sp rfl (PE.move rfl) rfl ?_
                          refine Z1 (t := 322) rfl (fun g322 => ?_) (fun g322 => ?_)
                          ·
                           exact absurd g322 (by first | (simp; done) | (simp; omega))
                          ·
                           refine spN rfl rfl rfl rfl rfl rfl rfl rfl ?_
                           refine spN rfl rfl rfl rfl rfl rfl rfl rfl ?_
                           refine spN rfl rfl rfl rfl rfl rfl rfl rfl ?_
                           refine sp rfl (PE.pick rfl rfl rfl) rfl ?_
                           refine sp rfl (PE.move rfl) rfl ?_
                           refine spG rfl rfl rfl rfl (PE.move rfl) rfl ?_
                           refine spG rfl rfl rfl rfl (PE.eql rfl rfl) rfl ?_
                           refine spG rfl rfl rfl rfl (PE.move rfl) rfl ?_
                           refine spG rfl rfl rfl rfl (PE.move rfl) rfl ?_
                           refine Z1 (t := 331) rfl (fun g331 => ?_) (fun g331 => ?_)
                           ·
                            refine spG rfl rfl rfl rfl (PE.move rfl) rfl ?_
                            refine spG rfl rfl rfl rfl (PE.geq rfl rfl) rfl ?_
                            refine spG rfl rfl rfl rfl (PE.pick rfl rfl rfl) rfl ?_
                            refine spG rfl rfl rfl rfl (PE.neqBool ub4 rfl rfl) rfl ?_
                            refine sp rfl (PE.pick rfl rfl rfl) rfl ?_
                            refine sp rfl (PE.move rfl) rfl ?_
                            refine Z1 (t := 337) rfl (fun g337 => ?_) (fun g337 => ?_)
                            ·
                             exact absurd g337 (by first | (simp; done) | (simp; omega))
                            ·
                             refine spG rfl rfl rfl rfl (PE.move rfl) rfl ?_
                             refine spG rfl rfl rfl rfl (PE.eql rfl rfl) rfl ?_
                             refine spG rfl rfl rfl rfl (PE.move rfl) rfl ?_
                             refine Z1 (t := 340) rfl (fun g340 => ?_) (fun g340 => ?_)
                             ·
                              exact absurd g340 (by first | (simp; done) | (simp; omega))
                             ·
                              refine spN rfl rfl rfl rfl rfl rfl rfl rfl ?_
                              refine spN rfl rfl rfl rfl rfl rfl rfl rfl ?_
                              refine spN rfl rfl rfl rfl rfl rfl rfl rfl ?_
                              refine spG rfl rfl rfl rfl (PE.pick rfl rfl rfl) rfl ?_
                              refine sp rfl (PE.pick rfl rfl rfl) rfl ?_
                              refine sp rfl (PE.move rfl) rfl ?_
                              refine spG rfl rfl rfl rfl (PE.move rfl) rfl ?_
                              refine spG rfl rfl rfl rfl (PE.not rfl) rfl ?_
                              refine spG rfl rfl rfl rfl (PE.move rfl) rfl ?_
                              refine Z1 (t := 349) rfl (fun g349 => ?_) (fun g349 => ?_)
                              ·
                               exact absurd g349 (by first | (simp; done) | (simp; omega))
                              ·
                               refine spN rfl rfl rfl rfl rfl rfl rfl rfl ?_
                               refine spN rfl rfl rfl rfl rfl rfl rfl rfl ?_
                               refine spG rfl rfl rfl rfl (PE.pick rfl rfl rfl) rfl ?_
                               refine sp rfl (PE.pick rfl rfl rfl) rfl ?_
                               refine sp rfl (PE.move rfl) rfl ?_
                               refine spG rfl rfl rfl rfl (PE.move rfl) rfl ?_
                               refine spG rfl rfl rfl rfl (PE.move rfl) rfl ?_
                               refine Z1 (t := 356) rfl (fun g356 => ?_) (fun g356 => ?_)
                               ·
                                refine spG rfl rfl rfl rfl (PE.move rfl) rfl ?_
                                refine spG rfl rfl rfl rfl (PE.lss rfl rfl) rfl ?_
                                refine spG rfl rfl rfl rfl (PE.pick rfl rfl rfl) rfl ?_
                                refine spG rfl rfl rfl rfl (PE.move rfl) rfl ?_
                                refine Z1 (t := 360) rfl (fun g360 => ?_) (fun g360 => ?_)
                                ·
                                 refine spG rfl rfl rfl rfl (PE.move rfl) rfl ?_
                                 refine spG rfl rfl rfl rfl (PE.neq rfl rfl) rfl ?_
                                 refine spG rfl rfl rfl rfl (PE.pick rfl rfl rfl) rfl ?_
                                 refine sp rfl (PE.pick rfl rfl rfl) rfl ?_
                                 refine Z4 rfl (fun hc13 => ?_) (fun hc13 => ?_)
                                 ·
                                  exact absurd hc13 (by first | (simp; done) | (simp; omega))
                                 ·
                                  refine Z2 ?_
                                  refine Z6 [0, 1] rfl ?_
                                  refine sp rfl (PE.add rfl rfl (by omega)) rfl ?_
                                  refine sp rfl (PE.move rfl) rfl ?_
                                  exact Zc ⟨(j + 1, tq, mz), by omega, by dsimp only; omega, by assumption⟩ (by dsimp only; omega) (by repeat' first | exact Sub.nil | apply Sub.cons | rfl | (simp [lk]; omega)) (fun w h => h.ftail.ftail)
                                ·
                                 exact absurd g360 (by first | (simp; done) | (simp; omega))
                               ·
                                exact absurd g356 (by first | (simp; done) | (simp; omega))
                           ·
                            exact absurd g331 (by first | (simp; done) | (simp; omega))
                       ·
                        exact absurd g301 (by first | (simp; done) | (simp; omega))
                      ·
                       exact absurd g297 (by first | (simp; done) | (simp; omega))
                  ·
                   exact absurd g272 (by first | (simp; done) | (simp; omega))
       ·
        try simp only [decide_eq_true_eq, decide_eq_false_iff_not, Bool.and_eq_true, Bool.or_eq_true, Bool.not_eq_true', Int.not_le, Int.not_lt] at hc5
        
        refine Zm ?_
        refine Zt ?_
        refine Zt ?_
        refine ZU ?_
        refine Z0 ?_
        refine Z6 [0, 1] rfl ?_
        refine clV rfl Zb3 rfl rfl (Z8G _ _) ?_
        refine sp rfl (PE.assign rfl) rfl ?_
        refine Z3 ?_
        exact Z5 (vs := [_]) rfl (.cons (RV.tmp rfl) .nil) rfl ⟨rfl, rfl, rfl⟩ (fun w h => St.sub ((h.del bh).del b5))
end Go.Proofs.Ythhdgeibokecjaa.Bd
