/- Walks of the functions of the program, and the laws that join them: what the last theorem of this claim needs, in order. -/
import Derived.Test.YthbjpnmclokinaaGreatsj2
namespace Go.Proofs.YthbjpnmclokinaaGreat
set_option linter.unusedSimpArgs false
set_option linter.unusedVariables false
open Go
theorem Z06 : Z4X Tryz.prog 25 = some 3 := by kernel_rfl
theorem ZeE : Z4X Tryz.prog 67 = some 3 := by kernel_rfl
theorem Z5P : Z4X Tryz.prog 97 = some 2 := by kernel_rfl
theorem Z4A : cal Tryz.prog 100 = true := by kernel_rfl
theorem Zdm : cal Tryz.prog 101 = true := by kernel_rfl
theorem ZaG : cal Tryz.prog 102 = true := by kernel_rfl
theorem Zef : cal Tryz.prog 103 = true := by kernel_rfl
theorem ZdN : cal Tryz.prog 104 = true := by kernel_rfl
theorem Zd2 : cal Tryz.prog 105 = true := by kernel_rfl
theorem Zdz : cal Tryz.prog 130 = true := by kernel_rfl
theorem ZcH : cal Tryz.prog 131 = true := by kernel_rfl
theorem ZdZ : cal Tryz.prog 138 = true := by kernel_rfl
theorem Zd6 : cal Tryz.prog 151 = true := by kernel_rfl
theorem Zda : cal Tryz.prog 152 = true := by kernel_rfl
theorem ZdE : cal Tryz.prog 153 = true := by kernel_rfl
theorem ZcA : cal Tryz.prog 154 = true := by kernel_rfl
theorem Zcu : cal Tryz.prog 174 = true := by kernel_rfl
theorem ZdT : cal Tryz.prog 175 = true := by kernel_rfl
theorem Z3h : cal Tryz.prog 61 = true := by kernel_rfl
theorem Z6K : cal Tryz.prog 62 = true := by kernel_rfl
theorem Ze3 : cal Tryz.prog 83 = true := by kernel_rfl
theorem Z8g : cal Tryz.prog 98 = true := by kernel_rfl
theorem Z6F : cal Tryz.prog 99 = true := by kernel_rfl
theorem ZeW : Z0Z Tryz.prog 100 = some 1 := by kernel_rfl
theorem Z6P : elN Tryz.prog 22 = some 2 := by kernel_rfl
theorem ZfK : elN Tryz.prog 23 = some 3 := by kernel_rfl
theorem Z0R : elN Tryz.prog 26 = some 1 := by kernel_rfl
theorem ZeZ : eqB Tryz.prog 10000 97 = some (true, 2) := by kernel_rfl
theorem Zf6 : Tryz.prog.eqGuardType Tryz.prog.depth 97 = false := by kernel_rfl
theorem Z0I : Z2t Tryz.prog 25 0 = some 0 := by kernel_rfl
theorem ZV : Z2t Tryz.prog 25 1 = some 1 := by kernel_rfl
theorem Z1Y : Z2t Tryz.prog 25 2 = some 2 := by kernel_rfl
theorem Z82 : Z2t Tryz.prog 67 0 = some 0 := by kernel_rfl
theorem Z7h : Z2t Tryz.prog 67 1 = some 1 := by kernel_rfl
theorem ZM : Z2t Tryz.prog 97 0 = some 0 := by kernel_rfl
theorem ZC : Z2t Tryz.prog 97 1 = some 1 := by kernel_rfl
theorem Z3w : Z5B Tryz.prog 22 = true := by kernel_rfl
theorem Z9W : Z5B Tryz.prog 23 = true := by kernel_rfl
theorem Zw : Z5B Tryz.prog 26 = true := by kernel_rfl
theorem Z8Y : Z1r Tryz.prog 97 = some [(0, 1), (1, 1)] := by kernel_rfl
theorem Z6y : Z2A Tryz.prog 100 = true := by kernel_rfl
theorem Zfh : Z2A Tryz.prog 147 = true := by kernel_rfl
theorem Zfi : Z2A Tryz.prog 149 = true := by kernel_rfl
theorem Z3Q : Z2A Tryz.prog 22 = true := by kernel_rfl
theorem Z8X : Z2A Tryz.prog 23 = true := by kernel_rfl
theorem sc3 : Z2A Tryz.prog 3 = true := by kernel_rfl
theorem Z0l : slE Tryz.prog 26 = some (3, 1) := by kernel_rfl
theorem Zfu : ZQ Tryz.prog 100 = some ([.nilFunc]) := by kernel_rfl
theorem Z2W : ZQ Tryz.prog 97 = some ([.int .i64 0, .int .i64 0]) := by kernel_rfl
abbrev Z3 (l : List Int) : List (List Value) := l.map fun z => [.int .i64 z]
def grow (g : Gp) : List Value := [.int .i64 g.a, .int .i64 g.b]
def Zk (l : List Gp) : List (List Value) := l.map grow
def Z4S (s : Sgt) : List Value := [.int .i64 s.week, .int .i64 s.bin, .bool s.seen]
def Zo (l : List Sgt) : List (List Value) := l.map Z4S
def htl (h : Hse) (sg ss : Value) : List Value := [.int .i64 h.bins, sg, ss]
def Hse.v (h : Hse) (sg ss : Value) : Value := .agg (htl h sg ss).toArray
def Hse.sg (h : Hse) (a : Option Addr) (c : Nat) : Value := .slice a h.gaps.length c
def Hse.ss (h : Hse) (a : Option Addr) (c : Nat) : Value := .slice a h.sights.length c
theorem Z1g {l : List Gp} {k : Nat} {x : Gp} (h : l[k]? = some x) : (Zk l)[k]? = some (grow x) := by simp [Zk, h]
theorem Zed {l : List Sgt} {k : Nat} {x : Sgt} (h : l[k]? = some x) : (Zo l)[k]? = some (Z4S x) := by simp [Zo, h]
theorem Z0Y (l : List Gp) : (Zk l).length = l.length := by simp [Zk]
theorem Z7x (l : List Sgt) : (Zo l).length = l.length := by simp [Zo]
theorem Zb (l : List Int) : (Zm l).length = l.length := by simp [Zm]
theorem Z5O {l : List Int} {k : Nat} {v : Int} (h : l[k]? = some v) : (Zm l)[k]? = some (.int .i64 v) := by simp [Zm, h]
theorem Z0s {l : List Int} {k : Nat} (h : k < l.length) : l[k]? = some (na l k) := by
  unfold na; rw [List.getD_eq_getElem?_getD, List.getElem?_eq_getElem h]; rfl
theorem Z4u {l : List Int} {k : Nat} {x : Int} (h : l[k]? = some x) : na l k = x := by
  unfold na; rw [List.getD_eq_getElem?_getD, h]; rfl
theorem OSl.freezeC {e sz : Nat} {rows : List (List Value)} (o : OSl e sz rows) : ∃ a c, o.fs = .slice a rows.length c ∧ rows.length ≤ c ∧ ∀ {H : Z8} {R : Z5} {w : World}, St (o.G ++ H) R w → St H (RowsA a sz rows :: R) w := by
  obtain ⟨fs, G, hl, his⟩ := o
  rcases his with ⟨rfl, rfl, rfl⟩ | ⟨b, cap, junk, rfl, rfl, _, hc, _⟩
  · exact ⟨none, 0, rfl, Nat.le_refl _, fun {H R w} h => (St.also (H := H) (R := R) h (f := RowsA none sz []) (fun w' _ => fun i row hi => by simp at hi))⟩
  · exact ⟨_, cap, rfl, hc, fun {H R w} h => St.rows (rest := junk) h hl⟩
theorem Z0b {α : Type} {xs : List α} {p : α → Bool} {k : Nat} {x : α} (hx : xs[k]? = some x) (hn : ∀ y ∈ xs.take k, p y = false) (h : p x = true) : xs.findIdx? p = some k := by
  induction xs generalizing k with
  | nil => simp at hx
  | cons y ys ih =>
    cases k with
    | zero => simp only [List.getElem?_cons_zero, Option.some.injEq] at hx; subst hx; simp [List.findIdx?_cons, h]
    | succ k =>
      have hy := hn y (by simp)
      have := ih (by simpa using hx) (fun z hz => hn z (by simp [hz]))
      simp [List.findIdx?_cons, hy, this]
theorem ZW {α : Type} {xs : List α} {p : α → Bool} (hn : ∀ y ∈ xs, p y = false) : xs.findIdx? p = none := by
  rw [List.findIdx?_eq_none_iff]; exact hn
theorem Z1u {α : Type} {xs : List α} {p : α → Bool} {k : Nat} {x : α} (hx : xs[k]? = some x) (hn : ∀ y ∈ xs.take k, p y = false) (h : p x = false) : ∀ y ∈ xs.take (k + 1), p y = false := by
  intro y hy
  rw [List.take_add_one, hx] at hy
  rcases List.mem_append.1 hy with h1 | h1
  · exact hn y h1
  · simp only [Option.toList_some, List.mem_singleton] at h1; subst h1; exact h
theorem Z38 {α : Type} (xs : List α) (p : α → Bool) : Value.bool (decide (0 ≤ (match xs.findIdx? p with | some k => (k : Int) | none => -1))) = .bool (xs.any p) := by
  congr 1
  cases h : xs.findIdx? p with
  | none =>
    have := List.findIdx?_eq_none_iff.1 h
    have h2 : xs.any p = false := by simpa using this
    rw [h2]; rfl
  | some k =>
    have h2 : xs.any p = true := by
      rw [← Bool.not_eq_false]; intro h3
      have : xs.findIdx? p = none := List.findIdx?_eq_none_iff.2 (by simpa using h3)
      rw [this] at h; cases h
    rw [h2]; simp
theorem Z15 {α : Type} (xs : List α) (p : α → Bool) : Value.bool (!xs.any fun x => !p x) = .bool (xs.all p) := by
  congr 1
  induction xs with
  | nil => rfl
  | cons x xs ih => simp [← ih]
theorem Zcq (n lo hi : Int) (H : Z8) (R : Z5) :
    FnV Tryz.prog 99 [.int .i64 n, .int .i64 lo, .int .i64 hi] H R (.bool (inB n lo hi)) := by
 refine Ze Tryz.func99 rfl Tryz.ntmps99 rfl ?_
 refine sqt 1 rfl (pur 1 rfl (sqt 9 rfl (pur 4 rfl ?_)))
 refine Zv 10 rfl ?_ ?_ <;> intro g10
 refine pur 5 rfl (Z6 ?_)
 exact rtA rfl rfl rfl ⟨by simp_all only [Z05, inB, Bool.true_and, Bool.false_and, cond_true, cond_false], rfl, rfl⟩ drp
 refine pur 5 rfl (Z6 ?_)
 exact rtA rfl rfl rfl ⟨by simp_all only [Z05, inB, Bool.true_and, Bool.false_and, cond_true, cond_false], rfl, rfl⟩ drp
theorem Z9K (n m : Int) (a : Option Addr) (c : Nat) (H : Z8) (R : Z5) [hR : MemRows a 1 [[.int .i64 m]] R] :
    FnV Tryz.prog 155 [.int .i64 n, .slice a 1 c] H R (.int .i64 (min n m)) := by
 refine Ze Tryz.func155 rfl Tryz.ntmps155 rfl ?_
 refine sqt 1 rfl (pur 1 rfl (Z0 (sqt 3 rfl (pur 1 rfl (sp rfl (PE.lenSl Zw rfl) rfl (pur 1 rfl (Z4 ?_)))))))
 refine Zn (a := a) (sz := 1) (rows := [[.int .i64 m]]) (by simp) (fun b off he => ?_)
 subst he
 refine Zc (ι := {k : Nat // k ≤ 1}) (fun k => ⟨[(0, .int .i64 (bif k.1 == 0 then n else min n m)), (7, .slice (some ⟨b, off, none⟩) 1 c), (8, .int .i64 1), (9, .int .i64 k.1)], H, R⟩) (fun k => 1 - k.1) ⟨0, by omega⟩ ?_ (fun k => ?_)
 exact Zh idH
 obtain ⟨k, hk⟩ := k
 dsimp only
 refine sqt 1 rfl (pur 1 rfl (Z0 ?_))
 refine Z1 rfl ?_ ?_ <;> intro hc0
 simp only [cS] at hc0
 obtain rfl : k = 0 := by omega
 refine Z2 (Z0 (Z4 (sqt 3 rfl (sp rfl (PE.indexAddr Z0R rfl rfl (by omega) (by omega)) rfl (spL rfl rfl (lf0 sc3 (row := [.int .i64 m]) rfl rfl) rfl (pur 1 rfl (sqr 4 rfl (pur 2 rfl (sp rfl (PE.min rfl rfl) rfl (pur 1 rfl (sqr 2 rfl (sp rfl (PE.add rfl rfl (by omega)) rfl (pur 1 rfl ?_)))))))))))))
 exact Zx ⟨1, by omega⟩ (by simp) idH
 try simp only [cS] at hc0
 refine Z9 (Za (Za (Zl (sqt 2 rfl (pur 2 rfl (Z6 ?_))))))
 obtain rfl : k = 1 := by omega
 exact rtA rfl rfl rfl ⟨rfl, rfl, rfl⟩ drp
theorem Z7K (xs : List Int) (a : Option Addr) (c g : Nat) (fst cap : List Value) (p : Int → Bool) (hg : cal Tryz.prog g = true) (hl : xs.length ≤ 9223372036854775807) (H : Z8) (R : Z5) [hR : MemRows a 1 (Z3 xs) R] (hp : ∀ x, x ∈ xs → FnV Tryz.prog g (fst ++ [.int .i64 x] ++ cap) H R (.bool (p x))) :
    FnV Tryz.prog 131 [.slice a xs.length c, .func (.func g) fst.toArray cap.toArray] H R (.int .i64 (match xs.findIdx? p with | some k => (k : Int) | none => -1)) := by
 refine Ze Tryz.func131 rfl Tryz.ntmps131 rfl ?_
 refine sqt 1 rfl (pur 1 rfl (Z0 (sqt 3 rfl (pur 1 rfl (sp rfl (PE.lenSl Zw rfl) rfl (pur 1 rfl (Z4 ?_)))))))
 refine Zc (ι := {k : Nat // k ≤ xs.length ∧ ∀ x ∈ xs.take k, p x = false}) (fun k => ⟨[(0, .slice a xs.length c), (1, .func (.func g) fst.toArray cap.toArray), (7, .int .i64 xs.length), (8, .int .i64 k.1)], H, R⟩) (fun k => xs.length - k.1) ⟨0, by simp⟩ ?_ (fun k => ?_)
 exact Zh idH
 obtain ⟨k, hk, hn⟩ := k
 dsimp only
 refine sqt 1 rfl (pur 1 rfl (Z0 ?_))
 refine Z1 rfl ?_ ?_ <;> intro hc0
 simp only [cS] at hc0
 obtain ⟨x, hx⟩ : ∃ x, xs[k]? = some x := ⟨_, List.getElem?_eq_getElem (by omega)⟩
 have hxm := List.mem_of_getElem? hx
 refine Zn (a := a) (sz := 1) (rows := Z3 xs) (by cases xs <;> simp_all [Z3]) (fun b off he => ?_)
 subst he
 refine Z2 (Z0 (Z4 (sqt 2 rfl (pur 2 rfl (sqt 6 rfl (pur 3 rfl (sp rfl (PE.indexAddr Z0R rfl rfl (by omega) (by omega)) rfl (spL rfl rfl (lf0 sc3 (by simp [Z3, hx]; rfl) rfl) rfl ?_))))))))
 refine Z6T rfl rfl (hg) rfl rfl (hp x hxm) ?_
 refine Z1 rfl ?_ ?_ <;> intro hc1
 refine sqt 2 rfl (pur 2 rfl (Z6 ?_))
 first | (exact rtA rfl rfl rfl ⟨by rw [Z0b hx hn hc1]; rfl, rfl, rfl⟩ idH) | (exact rtA rfl rfl rfl ⟨by rw [ZW (by simpa using hn)]; rfl, rfl, rfl⟩ idH)
 refine Z2 (sqr 2 rfl (sp rfl (PE.add rfl rfl (by omega)) rfl (pur 1 rfl ?_)))
 exact Z7 ⟨k + 1, by omega, Z1u hx hn hc1⟩ idH
 simp only [cS] at hc0
 obtain rfl : k = xs.length := by omega
 refine Z9 (Za (Za (Zl (sqt 1 rfl (pur 1 rfl (Z6 ?_))))))
 first | (exact rtA rfl rfl rfl ⟨by rw [Z0b hx hn hc1]; rfl, rfl, rfl⟩ idH) | (exact rtA rfl rfl rfl ⟨by rw [ZW (by simpa using hn)]; rfl, rfl, rfl⟩ idH)
theorem Z0W (xs : List Int) (a : Option Addr) (c g : Nat) (fst cap : List Value) (p : Int → Bool) (hg : cal Tryz.prog g = true) (hl : xs.length ≤ 9223372036854775807) (H : Z8) (R : Z5) [hR : MemRows a 1 (Z3 xs) R] (hp : ∀ x, x ∈ xs → FnV Tryz.prog g (fst ++ [.int .i64 x] ++ cap) H R (.bool (p x))) :
    FnV Tryz.prog 62 [.slice a xs.length c, .func (.func g) fst.toArray cap.toArray] H R (.bool (xs.any p)) := by
 refine Ze Tryz.func62 rfl Tryz.ntmps62 rfl ?_
 refine sqt 1 rfl (pur 1 rfl (sqt 5 rfl (pur 2 rfl ?_)))
 refine clV rfl ZcH rfl rfl (Z7K xs a c g fst cap p hg hl _ _ hp) ?_
 refine pur 2 rfl (Z6 ?_)
 exact rtA rfl rfl rfl ⟨by simp only [Z05]; exact Z38 _ _, rfl, rfl⟩ drp
theorem Z7V (x : Int) (g bf : Nat) (fst cap : List Value) (p : Bool) (hg : cal Tryz.prog g = true) (H : Z8) (R : Z5) [hM : Mem1 bf (cel 100 [.func (.func g) fst.toArray cap.toArray]) H] (hp : FnV Tryz.prog g (fst ++ [.int .i64 x] ++ cap) H R (.bool p)) :
    FnV Tryz.prog 138 [.int .i64 x, .pointer (some ⟨bf, 0, none⟩)] H R (.bool !p) := by
 refine Ze Tryz.func138 rfl Tryz.ntmps138 rfl ?_
 refine sqt 1 rfl (pur 1 rfl (sqt 5 rfl (spL rfl rfl (lh Z6y rfl rfl) rfl (pur 1 rfl ?_))))
 refine Z6T rfl rfl (hg) rfl rfl (hp) ?_
 refine pur 2 rfl (Z6 ?_)
 exact rtA rfl rfl rfl ⟨rfl, rfl, rfl⟩ drp
theorem Z2X (xs : List Int) (a : Option Addr) (c g : Nat) (fst cap : List Value) (p : Int → Bool) (hg : cal Tryz.prog g = true) (hl : xs.length ≤ 9223372036854775807) (H : Z8) (R : Z5) [hR : MemRows a 1 (Z3 xs) R] (hp : ∀ b x, x ∈ xs → FnV Tryz.prog g (fst ++ [.int .i64 x] ++ cap) ((b, cel 100 [.func (.func g) fst.toArray cap.toArray]) :: H) R (.bool (p x))) :
    FnV Tryz.prog 83 [.slice a xs.length c, .func (.func g) fst.toArray cap.toArray] H R (.bool (xs.all p)) := by
 refine Ze Tryz.func83 rfl Tryz.ntmps83 rfl ?_
 refine sqt 2 rfl (bx rfl rfl rfl (fun b3 => pur 1 rfl (sqt 5 rfl (pur 1 rfl (sp rfl (PE.makeFunc rfl rfl) rfl ?_)))))
 refine clV rfl Z6K rfl rfl (Z0W xs a c 138 [] [_] (fun x => !p x) ZdZ hl _ _ (hp := fun x hx => Z7V x g _ fst cap (p x) hg _ _ (hp := hp _ x hx))) ?_
 refine pur 2 rfl (Z6 ?_)
 exact rtA rfl rfl rfl ⟨by simp only [Z05]; rw [Z15], rfl, rfl⟩ drp
theorem Z8n (xs : List Gp) (a : Option Addr) (c g : Nat) (fst cap : List Value) (p : Gp → Bool) (hg : cal Tryz.prog g = true) (hl : xs.length ≤ 9223372036854775807) (H : Z8) (R : Z5) [hR : MemRows a 2 (Zk xs) R] (hp : ∀ x, x ∈ xs → FnV Tryz.prog g (fst ++ [.agg (grow x).toArray] ++ cap) H R (.bool (p x))) :
    FnV Tryz.prog 175 [.slice a xs.length c, .func (.func g) fst.toArray cap.toArray] H R (.int .i64 (match xs.findIdx? p with | some k => (k : Int) | none => -1)) := by
 refine Ze Tryz.func175 rfl Tryz.ntmps175 rfl ?_
 refine sqt 1 rfl (pur 1 rfl (Z0 (sqt 3 rfl (pur 1 rfl (sp rfl (PE.lenSl Z3w rfl) rfl (pur 1 rfl (Z4 ?_)))))))
 refine Zc (ι := {k : Nat // k ≤ xs.length ∧ ∀ x ∈ xs.take k, p x = false}) (fun k => ⟨[(0, .slice a xs.length c), (1, .func (.func g) fst.toArray cap.toArray), (7, .int .i64 xs.length), (8, .int .i64 k.1)], H, R⟩) (fun k => xs.length - k.1) ⟨0, by simp⟩ ?_ (fun k => ?_)
 exact Zh idH
 obtain ⟨k, hk, hn⟩ := k
 dsimp only
 refine sqt 1 rfl (pur 1 rfl (Z0 ?_))
 refine Z1 rfl ?_ ?_ <;> intro hc0
 simp only [cS] at hc0
 obtain ⟨x, hx⟩ : ∃ x, xs[k]? = some x := ⟨_, List.getElem?_eq_getElem (by omega)⟩
 have hxm := List.mem_of_getElem? hx
 refine Zn (a := a) (sz := 2) (rows := Zk xs) (by cases xs <;> simp_all [Zk]) (fun b off he => ?_)
 subst he
 refine Z2 (Z0 (Z4 (sqt 2 rfl (pur 2 rfl (sqt 6 rfl (pur 3 rfl (sp rfl (PE.indexAddr Z6P rfl rfl (by omega) (by omega)) rfl (spL rfl rfl (lfA Z5P (row := grow x) (by simp [Zk, hx]) rfl) rfl ?_))))))))
 refine Z6T rfl rfl (hg) rfl rfl (hp x hxm) ?_
 refine Z1 rfl ?_ ?_ <;> intro hc1
 refine sqt 2 rfl (pur 2 rfl (Z6 ?_))
 first | (exact rtA rfl rfl rfl ⟨by rw [Z0b hx hn hc1]; rfl, rfl, rfl⟩ idH) | (exact rtA rfl rfl rfl ⟨by rw [ZW (by simpa using hn)]; rfl, rfl, rfl⟩ idH)
 refine Z2 (sqr 2 rfl (sp rfl (PE.add rfl rfl (by omega)) rfl (pur 1 rfl ?_)))
 exact Z7 ⟨k + 1, by omega, Z1u hx hn hc1⟩ idH
 simp only [cS] at hc0
 obtain rfl : k = xs.length := by omega
 refine Z9 (Za (Za (Zl (sqt 1 rfl (pur 1 rfl (Z6 ?_))))))
 first | (exact rtA rfl rfl rfl ⟨by rw [Z0b hx hn hc1]; rfl, rfl, rfl⟩ idH) | (exact rtA rfl rfl rfl ⟨by rw [ZW (by simpa using hn)]; rfl, rfl, rfl⟩ idH)
theorem Z8f (xs : List Gp) (a : Option Addr) (c g : Nat) (fst cap : List Value) (p : Gp → Bool) (hg : cal Tryz.prog g = true) (hl : xs.length ≤ 9223372036854775807) (H : Z8) (R : Z5) [hR : MemRows a 2 (Zk xs) R] (hp : ∀ x, x ∈ xs → FnV Tryz.prog g (fst ++ [.agg (grow x).toArray] ++ cap) H R (.bool (p x))) :
    FnV Tryz.prog 153 [.slice a xs.length c, .func (.func g) fst.toArray cap.toArray] H R (.bool (xs.any p)) := by
 refine Ze Tryz.func153 rfl Tryz.ntmps153 rfl ?_
 refine sqt 1 rfl (pur 1 rfl (sqt 5 rfl (pur 2 rfl ?_)))
 refine clV rfl ZdT rfl rfl (Z8n xs a c g fst cap p hg hl _ _ hp) ?_
 refine pur 2 rfl (Z6 ?_)
 exact rtA rfl rfl rfl ⟨by simp only [Z05]; exact Z38 _ _, rfl, rfl⟩ drp
theorem Z7w (x : Gp) (g bf : Nat) (fst cap : List Value) (p : Bool) (hg : cal Tryz.prog g = true) (H : Z8) (R : Z5) [hM : Mem1 bf (cel 149 [.func (.func g) fst.toArray cap.toArray]) H] (hp : ∀ b, FnV Tryz.prog g (fst ++ [.agg (grow x).toArray] ++ cap) ((b, cel 97 (grow x)) :: H) R (.bool p)) :
    FnV Tryz.prog 154 [.agg (grow x).toArray, .pointer (some ⟨bf, 0, none⟩)] H R (.bool !p) := by
 refine Ze Tryz.func154 rfl Tryz.ntmps154 rfl ?_
 refine sqt 2 rfl (bx rfl rfl rfl (fun b2 => pur 1 rfl (sqt 5 rfl (spL rfl rfl (lh Zfi rfl rfl) rfl (spL rfl rfl (lhA [_, _] Z5P rfl rfl rfl) rfl ?_)))))
 refine Z6T rfl rfl (hg) rfl rfl (hp _) ?_
 refine pur 2 rfl (Z6 ?_)
 exact rtA rfl rfl rfl ⟨rfl, rfl, rfl⟩ drp
theorem Z34 (xs : List Gp) (a : Option Addr) (c g : Nat) (fst cap : List Value) (p : Gp → Bool) (hg : cal Tryz.prog g = true) (hl : xs.length ≤ 9223372036854775807) (H : Z8) (R : Z5) [hR : MemRows a 2 (Zk xs) R] (hp : ∀ b b2 x, x ∈ xs → FnV Tryz.prog g (fst ++ [.agg (grow x).toArray] ++ cap) ((b2, cel 97 (grow x)) :: (b, cel 149 [.func (.func g) fst.toArray cap.toArray]) :: H) R (.bool (p x))) :
    FnV Tryz.prog 102 [.slice a xs.length c, .func (.func g) fst.toArray cap.toArray] H R (.bool (xs.all p)) := by
 refine Ze Tryz.func102 rfl Tryz.ntmps102 rfl ?_
 refine sqt 2 rfl (bx rfl rfl rfl (fun b3 => pur 1 rfl (sqt 5 rfl (pur 1 rfl (sp rfl (PE.makeFunc rfl rfl) rfl ?_)))))
 refine clV rfl ZdE rfl rfl (Z8f xs a c 154 [] [_] (fun x => !p x) ZcA hl _ _ (hp := fun x hx => Z7w x g _ fst cap (p x) hg _ _ (hp := fun b => hp _ _ x hx))) ?_
 refine pur 2 rfl (Z6 ?_)
 exact rtA rfl rfl rfl ⟨by simp only [Z05]; rw [Z15], rfl, rfl⟩ drp
theorem Z80 (xs : List Sgt) (a : Option Addr) (c g : Nat) (fst cap : List Value) (p : Sgt → Bool) (hg : cal Tryz.prog g = true) (hl : xs.length ≤ 9223372036854775807) (H : Z8) (R : Z5) [hR : MemRows a 3 (Zo xs) R] (hp : ∀ x, x ∈ xs → FnV Tryz.prog g (fst ++ [.agg (Z4S x).toArray] ++ cap) H R (.bool (p x))) :
    FnV Tryz.prog 174 [.slice a xs.length c, .func (.func g) fst.toArray cap.toArray] H R (.int .i64 (match xs.findIdx? p with | some k => (k : Int) | none => -1)) := by
 refine Ze Tryz.func174 rfl Tryz.ntmps174 rfl ?_
 refine sqt 1 rfl (pur 1 rfl (Z0 (sqt 3 rfl (pur 1 rfl (sp rfl (PE.lenSl Z9W rfl) rfl (pur 1 rfl (Z4 ?_)))))))
 refine Zc (ι := {k : Nat // k ≤ xs.length ∧ ∀ x ∈ xs.take k, p x = false}) (fun k => ⟨[(0, .slice a xs.length c), (1, .func (.func g) fst.toArray cap.toArray), (7, .int .i64 xs.length), (8, .int .i64 k.1)], H, R⟩) (fun k => xs.length - k.1) ⟨0, by simp⟩ ?_ (fun k => ?_)
 exact Zh idH
 obtain ⟨k, hk, hn⟩ := k
 dsimp only
 refine sqt 1 rfl (pur 1 rfl (Z0 ?_))
 refine Z1 rfl ?_ ?_ <;> intro hc0
 simp only [cS] at hc0
 obtain ⟨x, hx⟩ : ∃ x, xs[k]? = some x := ⟨_, List.getElem?_eq_getElem (by omega)⟩
 have hxm := List.mem_of_getElem? hx
 refine Zn (a := a) (sz := 3) (rows := Zo xs) (by cases xs <;> simp_all [Zo]) (fun b off he => ?_)
 subst he
 refine Z2 (Z0 (Z4 (sqt 2 rfl (pur 2 rfl (sqt 6 rfl (pur 3 rfl (sp rfl (PE.indexAddr ZfK rfl rfl (by omega) (by omega)) rfl (spL rfl rfl (lfA ZeE (row := Z4S x) (by simp [Zo, hx]) rfl) rfl ?_))))))))
 refine Z6T rfl rfl (hg) rfl rfl (hp x hxm) ?_
 refine Z1 rfl ?_ ?_ <;> intro hc1
 refine sqt 2 rfl (pur 2 rfl (Z6 ?_))
 first | (exact rtA rfl rfl rfl ⟨by rw [Z0b hx hn hc1]; rfl, rfl, rfl⟩ idH) | (exact rtA rfl rfl rfl ⟨by rw [ZW (by simpa using hn)]; rfl, rfl, rfl⟩ idH)
 refine Z2 (sqr 2 rfl (sp rfl (PE.add rfl rfl (by omega)) rfl (pur 1 rfl ?_)))
 exact Z7 ⟨k + 1, by omega, Z1u hx hn hc1⟩ idH
 simp only [cS] at hc0
 obtain rfl : k = xs.length := by omega
 refine Z9 (Za (Za (Zl (sqt 1 rfl (pur 1 rfl (Z6 ?_))))))
 first | (exact rtA rfl rfl rfl ⟨by rw [Z0b hx hn hc1]; rfl, rfl, rfl⟩ idH) | (exact rtA rfl rfl rfl ⟨by rw [ZW (by simpa using hn)]; rfl, rfl, rfl⟩ idH)
theorem Z8a (xs : List Sgt) (a : Option Addr) (c g : Nat) (fst cap : List Value) (p : Sgt → Bool) (hg : cal Tryz.prog g = true) (hl : xs.length ≤ 9223372036854775807) (H : Z8) (R : Z5) [hR : MemRows a 3 (Zo xs) R] (hp : ∀ x, x ∈ xs → FnV Tryz.prog g (fst ++ [.agg (Z4S x).toArray] ++ cap) H R (.bool (p x))) :
    FnV Tryz.prog 151 [.slice a xs.length c, .func (.func g) fst.toArray cap.toArray] H R (.bool (xs.any p)) := by
 refine Ze Tryz.func151 rfl Tryz.ntmps151 rfl ?_
 refine sqt 1 rfl (pur 1 rfl (sqt 5 rfl (pur 2 rfl ?_)))
 refine clV rfl Zcu rfl rfl (Z80 xs a c g fst cap p hg hl _ _ hp) ?_
 refine pur 2 rfl (Z6 ?_)
 exact rtA rfl rfl rfl ⟨by simp only [Z05]; exact Z38 _ _, rfl, rfl⟩ drp
theorem Z73 (x : Sgt) (g bf : Nat) (fst cap : List Value) (p : Bool) (hg : cal Tryz.prog g = true) (H : Z8) (R : Z5) [hM : Mem1 bf (cel 147 [.func (.func g) fst.toArray cap.toArray]) H] (hp : ∀ b, FnV Tryz.prog g (fst ++ [.agg (Z4S x).toArray] ++ cap) ((b, cel 67 (Z4S x)) :: H) R (.bool p)) :
    FnV Tryz.prog 152 [.agg (Z4S x).toArray, .pointer (some ⟨bf, 0, none⟩)] H R (.bool !p) := by
 refine Ze Tryz.func152 rfl Tryz.ntmps152 rfl ?_
 refine sqt 2 rfl (bx rfl rfl rfl (fun b2 => pur 1 rfl (sqt 5 rfl (spL rfl rfl (lh Zfh rfl rfl) rfl (spL rfl rfl (lhA [_, _, _] ZeE rfl rfl rfl) rfl ?_)))))
 refine Z6T rfl rfl (hg) rfl rfl (hp _) ?_
 refine pur 2 rfl (Z6 ?_)
 exact rtA rfl rfl rfl ⟨rfl, rfl, rfl⟩ drp
theorem Z0w (xs : List Sgt) (a : Option Addr) (c g : Nat) (fst cap : List Value) (p : Sgt → Bool) (hg : cal Tryz.prog g = true) (hl : xs.length ≤ 9223372036854775807) (H : Z8) (R : Z5) [hR : MemRows a 3 (Zo xs) R] (hp : ∀ b b2 x, x ∈ xs → FnV Tryz.prog g (fst ++ [.agg (Z4S x).toArray] ++ cap) ((b2, cel 67 (Z4S x)) :: (b, cel 147 [.func (.func g) fst.toArray cap.toArray]) :: H) R (.bool (p x))) :
    FnV Tryz.prog 100 [.slice a xs.length c, .func (.func g) fst.toArray cap.toArray] H R (.bool (xs.all p)) := by
 refine Ze Tryz.func100 rfl Tryz.ntmps100 rfl ?_
 refine sqt 2 rfl (bx rfl rfl rfl (fun b3 => pur 1 rfl (sqt 5 rfl (pur 1 rfl (sp rfl (PE.makeFunc rfl rfl) rfl ?_)))))
 refine clV rfl Zd6 rfl rfl (Z8a xs a c 152 [] [_] (fun x => !p x) Zda hl _ _ (hp := fun x hx => Z73 x g _ fst cap (p x) hg _ _ (hp := fun b => hp _ _ x hx))) ?_
 refine pur 2 rfl (Z6 ?_)
 exact rtA rfl rfl rfl ⟨by simp only [Z05]; rw [Z15], rfl, rfl⟩ drp
theorem Z8k (h : Hse) (hb : 1 ≤ h.bins ∧ h.bins ≤ 7) (sg ss : Value) (n : Int) (H : Z8) (R : Z5) :
    FnV Tryz.prog 98 [h.v sg ss, .int .i64 n] H R (.bool (inB n 0 (h.bins - 1))) := by
 refine Ze Tryz.func98 rfl Tryz.ntmps98 rfl ?_
 refine sqt 2 rfl (bx rfl rfl rfl (fun b2 => pur 1 rfl (sqt 6 rfl (pur 1 rfl (sp rfl (PE.fA Z0I rfl) rfl (spL rfl rfl (lh sc3 rfl rfl) rfl (sp rfl (PE.sub rfl rfl (by omega)) rfl ?_)))))))
 refine clV rfl Z6F rfl rfl (Zcq _ _ _ _ _) ?_
 refine pur 1 rfl (Z6 ?_)
 exact rtA rfl rfl rfl ⟨rfl, rfl, rfl⟩ drp
theorem Ze0 (h : Hse) (hlg : h.gaps.length ≤ 1000000) (ag : Option Addr) (cg : Nat) (ss : Value) (n : Int) (H : Z8) (R : Z5) :
    FnV Tryz.prog 84 [h.v (h.sg ag cg) ss, .int .i64 n] H R (.bool (inB n 0 ((h.gaps.length : Int) - 1))) := by
 refine Ze Tryz.func84 rfl Tryz.ntmps84 rfl ?_
 refine sqt 2 rfl (bx rfl rfl rfl (fun b2 => pur 1 rfl (sqt 7 rfl (pur 1 rfl (sp rfl (PE.fA ZV rfl) rfl (spL rfl rfl (lh Z3Q rfl rfl) rfl (sp rfl (PE.lenSl Z3w rfl) rfl (sp rfl (PE.sub rfl rfl (by omega)) rfl ?_))))))))
 refine clV rfl Z6F rfl rfl (Zcq _ _ _ _ _) ?_
 refine pur 1 rfl (Z6 ?_)
 exact rtA rfl rfl rfl ⟨rfl, rfl, rfl⟩ drp
theorem ZcY (x : Sgt) (H : Z8) (R : Z5) :
    FnV Tryz.prog 101 [.agg (Z4S x).toArray] H R (.bool (inB x.week 0 9)) := by
 refine Ze Tryz.func101 rfl Tryz.ntmps101 rfl ?_
 refine sqt 2 rfl (bx rfl rfl rfl (fun b1 => pur 1 rfl (sqt 4 rfl (sp rfl (PE.fA Z82 rfl) rfl (spL rfl rfl (lh sc3 rfl rfl) rfl ?_)))))
 refine clV rfl Z6F rfl rfl (Zcq _ _ _ _ _) ?_
 refine pur 1 rfl (Z6 ?_)
 exact rtA rfl rfl rfl ⟨rfl, rfl, rfl⟩ drp
theorem ZcE (h : Hse) (hb : 1 ≤ h.bins ∧ h.bins ≤ 7) (sg ss : Value) (bf : Nat) (x : Gp) (H : Z8) (R : Z5) [hM : Mem1 bf (cel 100 [.func (.func 98) #[h.v sg ss] #[]]) H] :
    FnV Tryz.prog 103 [.agg (grow x).toArray, .pointer (some ⟨bf, 0, none⟩)] H R (.bool (inB x.a 0 (h.bins - 1) && inB x.b 0 (h.bins - 1))) := by
 refine Ze Tryz.func103 rfl Tryz.ntmps103 rfl ?_
 refine sqt 2 rfl (bx rfl rfl rfl (fun b2 => pur 1 rfl (sqt 11 rfl (spL rfl rfl (lh Z6y rfl rfl) rfl (sp rfl (PE.fA ZM rfl) rfl (spL rfl rfl (lh sc3 rfl rfl) rfl ?_))))))
 refine Z6T rfl rfl (Z8g) rfl rfl (Z8k h hb sg ss _ _ _) ?_
 refine pur 1 rfl ?_
 refine Zv 8 rfl ?_ ?_ <;> intro g8
 refine Z2T rfl rfl rfl rfl rfl (lh Z6y rfl rfl) rfl ?_
 refine spG rfl rfl rfl rfl (PE.fA ZC rfl) rfl ?_
 refine Z2T rfl rfl rfl rfl rfl (lh sc3 rfl rfl) rfl ?_
 refine Zcs rfl rfl rfl rfl rfl (Z8g) rfl rfl (Z8k h hb sg ss _ _ _) ?_
 refine pur 2 rfl (Z6 ?_)
 exact rtA rfl rfl rfl ⟨by simp_all only [Z05, Bool.true_and, Bool.false_and, cond_true, cond_false], rfl, rfl⟩ drp
 refine pur 6 rfl (Z6 ?_)
 exact rtA rfl rfl rfl ⟨by simp_all only [Z05, Bool.true_and, Bool.false_and, cond_true, cond_false], rfl, rfl⟩ drp
theorem ZcI (h : Hse) (hb : 1 ≤ h.bins ∧ h.bins ≤ 7) (sg ss : Value) (bf : Nat) (x : Sgt) (H : Z8) (R : Z5) [hM : Mem1 bf (cel 100 [.func (.func 98) #[h.v sg ss] #[]]) H] :
    FnV Tryz.prog 104 [.agg (Z4S x).toArray, .pointer (some ⟨bf, 0, none⟩)] H R (.bool (inB x.bin 0 (h.bins - 1))) := by
 refine Ze Tryz.func104 rfl Tryz.ntmps104 rfl ?_
 refine sqt 2 rfl (bx rfl rfl rfl (fun b2 => pur 1 rfl (sqt 5 rfl (spL rfl rfl (lh Z6y rfl rfl) rfl (sp rfl (PE.fA Z7h rfl) rfl (spL rfl rfl (lh sc3 rfl rfl) rfl ?_))))))
 refine Z6T rfl rfl (Z8g) rfl rfl (Z8k h hb sg ss _ _ _) ?_
 refine pur 1 rfl (Z6 ?_)
 exact rtA rfl rfl rfl ⟨rfl, rfl, rfl⟩ drp
theorem ZcQ (x : Gp) (H : Z8) (R : Z5) :
    FnV Tryz.prog 105 [.agg (grow x).toArray] H R (.bool (!decide (x = ⟨x.b, x.a⟩))) := by
 refine Ze Tryz.func105 rfl Tryz.ntmps105 rfl ?_
 refine sqt 2 rfl (bx rfl rfl rfl (fun b1 => pur 1 rfl (sqt 8 rfl (spL rfl rfl (lhA (grow x) Z5P rfl rfl rfl) rfl (sp rfl (PE.fA ZC rfl) rfl (spL rfl rfl (lh sc3 rfl rfl) rfl (sp rfl (PE.fA ZM rfl) rfl (spL rfl rfl (lh sc3 rfl rfl) rfl (sp rfl (PE.build (out := [_, _]) Z8Y Z2W rfl rfl) rfl (sp rfl (PE.neqAgg [x.a, x.b] [x.b, x.a] (Z1U 10000 97 true 2 ZeZ) Zf6 rfl rfl rfl rfl) rfl (pur 1 rfl (Z6 ?_))))))))))))
 exact rtA rfl rfl rfl ⟨by simp only [Z05]; cases x; simp [Gp.mk.injEq], rfl, rfl⟩ drp
theorem Z2l (h : Hse) (ag as_ : Option Addr) (cg cs : Nat) (hlg : h.gaps.length ≤ 9223372036854775807) (hls : h.sights.length ≤ 9223372036854775807) (H : Z8) (R : Z5) [hG : MemRows ag 2 (Zk h.gaps) R] [hS : MemRows as_ 3 (Zo h.sights) R] :
    FnV Tryz.prog 37 [h.v (h.sg ag cg) (h.ss as_ cs)] H R (.int .i64 h.check) := by
 refine Ze Tryz.func37 rfl Tryz.ntmps37 rfl ?_
 refine sqt 2 rfl (bx rfl rfl rfl (fun b1 => pur 1 rfl (sqt 4 rfl (spL rfl rfl (lhA (htl h (h.sg ag cg) (h.ss as_ cs)) Z06 rfl rfl rfl) rfl (sp rfl (PE.makeFunc rfl rfl) rfl (alc rfl Zfu rfl (fun b3 => ?_)))))))
 refine sto rfl rfl rfl ZeW rfl rfl rfl rfl ?_
 refine Z0 (Z4 (sqt 17 rfl (sp rfl (PE.fA Z0I rfl) rfl (spL rfl rfl (lh sc3 rfl rfl) rfl ?_))))
 refine clV rfl Z6F rfl rfl (Zcq _ _ _ _ _) ?_
 refine pur 2 rfl ?_
 refine Zv 11 rfl ?_ ?_ <;> intro g11
 refine pur 12 rfl ?_
 refine Z0E rfl ?_
 refine sqt 1 rfl (pur 1 rfl (Z6 ?_))
 exact rtA rfl rfl rfl ⟨congrArg (Value.int .i64) (by have e10 : decide ((10 : Int) < (h.gaps.length : Int)) = decide (10 < h.gaps.length) := decide_eq_decide.2 (by omega); have e8 : decide ((8 : Int) < (h.sights.length : Int)) = decide (8 < h.sights.length) := decide_eq_decide.2 (by omega); simp_all only [Z05, Hse.check, cond_true, cond_false, Bool.not_true, Bool.not_false, Bool.not_eq_true', Bool.not_eq_false', Bool.true_or, Bool.or_true, Bool.false_or, Bool.or_false]), rfl, rfl⟩ (fun w h => by first | exact (h.del b3).del b1 | exact h.del b1)
 refine spG rfl rfl rfl rfl (PE.fA ZV rfl) rfl ?_
 refine Z2T rfl rfl rfl rfl rfl (lh Z3Q rfl rfl) rfl ?_
 refine spG rfl rfl rfl rfl (PE.lenSl Z3w rfl) rfl ?_
 refine pur 3 rfl ?_
 refine Zv 17 rfl ?_ ?_ <;> intro g17
 refine pur 6 rfl ?_
 refine Z0E rfl ?_
 refine sqt 1 rfl (pur 1 rfl (Z6 ?_))
 exact rtA rfl rfl rfl ⟨congrArg (Value.int .i64) (by have e10 : decide ((10 : Int) < (h.gaps.length : Int)) = decide (10 < h.gaps.length) := decide_eq_decide.2 (by omega); have e8 : decide ((8 : Int) < (h.sights.length : Int)) = decide (8 < h.sights.length) := decide_eq_decide.2 (by omega); simp_all only [Z05, Hse.check, cond_true, cond_false, Bool.not_true, Bool.not_false, Bool.not_eq_true', Bool.not_eq_false', Bool.true_or, Bool.or_true, Bool.false_or, Bool.or_false]), rfl, rfl⟩ (fun w h => by first | exact (h.del b3).del b1 | exact h.del b1)
 refine spG rfl rfl rfl rfl (PE.fA Z1Y rfl) rfl ?_
 refine Z2T rfl rfl rfl rfl rfl (lh Z8X rfl rfl) rfl ?_
 refine spG rfl rfl rfl rfl (PE.lenSl Z9W rfl) rfl ?_
 refine pur 3 rfl ?_
 refine Z1 rfl ?_ ?_ <;> intro hc0
 refine sqt 1 rfl (pur 1 rfl (Z6 ?_))
 exact rtA rfl rfl rfl ⟨congrArg (Value.int .i64) (by have e10 : decide ((10 : Int) < (h.gaps.length : Int)) = decide (10 < h.gaps.length) := decide_eq_decide.2 (by omega); have e8 : decide ((8 : Int) < (h.sights.length : Int)) = decide (8 < h.sights.length) := decide_eq_decide.2 (by omega); simp_all only [Z05, Hse.check, cond_true, cond_false, Bool.not_true, Bool.not_false, Bool.not_eq_true', Bool.not_eq_false', Bool.true_or, Bool.or_true, Bool.false_or, Bool.or_false]), rfl, rfl⟩ (fun w h => by first | exact (h.del b3).del b1 | exact h.del b1)
 refine sqt 5 rfl (sp rfl (PE.fA Z1Y rfl) rfl (spL rfl rfl (lh Z8X rfl rfl) rfl ?_))
 refine clV rfl Z4A rfl rfl (Z0w h.sights as_ cs 101 [] [] (fun s => inB s.week 0 9) Zdm hls _ _ (fun _ _ x _ => ZcY x _ _)) ?_
 refine pur 2 rfl ?_
 refine Z1 rfl ?_ ?_ <;> intro hc1
 refine sqt 1 rfl (pur 1 rfl (Z6 ?_))
 exact rtA rfl rfl rfl ⟨congrArg (Value.int .i64) (by have e10 : decide ((10 : Int) < (h.gaps.length : Int)) = decide (10 < h.gaps.length) := decide_eq_decide.2 (by omega); have e8 : decide ((8 : Int) < (h.sights.length : Int)) = decide (8 < h.sights.length) := decide_eq_decide.2 (by omega); simp_all only [Z05, Hse.check, cond_true, cond_false, Bool.not_true, Bool.not_false, Bool.not_eq_true', Bool.not_eq_false', Bool.true_or, Bool.or_true, Bool.false_or, Bool.or_false]), rfl, rfl⟩ (fun w h => by first | exact (h.del b3).del b1 | exact h.del b1)
 refine sqt 13 rfl ?_
 have hb7 : 1 ≤ h.bins ∧ h.bins ≤ 7 := by
   have h9 : inB h.bins 1 7 = true := by simp_all
   simp only [inB, Bool.and_eq_true, decide_eq_true_eq] at h9; exact h9
 refine sp rfl (PE.fA ZV rfl) rfl (spL rfl rfl (lh Z3Q rfl rfl) rfl (sp rfl (PE.makeFunc rfl rfl) rfl ?_))
 refine clV rfl ZaG rfl rfl (Z34 h.gaps ag cg 103 [] [_] (fun g => inB g.a 0 (h.bins - 1) && inB g.b 0 (h.bins - 1)) Zef hlg _ _ (fun _ _ x _ => ZcE h hb7 (h.sg ag cg) (h.ss as_ cs) b3 x _ _)) ?_
 refine pur 2 rfl ?_
 refine Zv 34 rfl ?_ ?_ <;> intro g34
 refine pur 7 rfl ?_
 refine Z0E rfl ?_
 refine sqt 1 rfl (pur 1 rfl (Z6 ?_))
 exact rtA rfl rfl rfl ⟨congrArg (Value.int .i64) (by have e10 : decide ((10 : Int) < (h.gaps.length : Int)) = decide (10 < h.gaps.length) := decide_eq_decide.2 (by omega); have e8 : decide ((8 : Int) < (h.sights.length : Int)) = decide (8 < h.sights.length) := decide_eq_decide.2 (by omega); simp_all only [Z05, Hse.check, cond_true, cond_false, Bool.not_true, Bool.not_false, Bool.not_eq_true', Bool.not_eq_false', Bool.true_or, Bool.or_true, Bool.false_or, Bool.or_false]), rfl, rfl⟩ (fun w h => by first | exact (h.del b3).del b1 | exact h.del b1)
 refine spG rfl rfl rfl rfl (PE.fA Z1Y rfl) rfl ?_
 refine Z2T rfl rfl rfl rfl rfl (lh Z8X rfl rfl) rfl ?_
 refine spG rfl rfl rfl rfl (PE.makeFunc rfl rfl) rfl ?_
 refine Z6U rfl rfl rfl rfl Z4A rfl rfl (Z0w h.sights as_ cs 104 [] [_] (fun s => inB s.bin 0 (h.bins - 1)) ZdN hls _ _ (fun _ _ x _ => ZcI h hb7 (h.sg ag cg) (h.ss as_ cs) b3 x _ _)) ?_
 refine pur 3 rfl ?_
 refine Z1 rfl ?_ ?_ <;> intro hc2
 refine sqt 1 rfl (pur 1 rfl (Z6 ?_))
 exact rtA rfl rfl rfl ⟨congrArg (Value.int .i64) (by have e10 : decide ((10 : Int) < (h.gaps.length : Int)) = decide (10 < h.gaps.length) := decide_eq_decide.2 (by omega); have e8 : decide ((8 : Int) < (h.sights.length : Int)) = decide (8 < h.sights.length) := decide_eq_decide.2 (by omega); simp_all only [Z05, Hse.check, cond_true, cond_false, Bool.not_true, Bool.not_false, Bool.not_eq_true', Bool.not_eq_false', Bool.true_or, Bool.or_true, Bool.false_or, Bool.or_false]), rfl, rfl⟩ (fun w h => by first | exact (h.del b3).del b1 | exact h.del b1)
 refine sqt 5 rfl (sp rfl (PE.fA ZV rfl) rfl (spL rfl rfl (lh Z3Q rfl rfl) rfl ?_))
 refine clV rfl ZaG rfl rfl (Z34 h.gaps ag cg 105 [] [] (fun g => !decide (g = ⟨g.b, g.a⟩)) Zd2 hlg _ _ (fun _ _ x _ => ZcQ x _ _)) ?_
 refine pur 2 rfl ?_
 refine Z1 rfl ?_ ?_ <;> intro hc3
 refine sqt 1 rfl (pur 1 rfl (Z6 ?_))
 exact rtA rfl rfl rfl ⟨congrArg (Value.int .i64) (by have e10 : decide ((10 : Int) < (h.gaps.length : Int)) = decide (10 < h.gaps.length) := decide_eq_decide.2 (by omega); have e8 : decide ((8 : Int) < (h.sights.length : Int)) = decide (8 < h.sights.length) := decide_eq_decide.2 (by omega); simp_all only [Z05, Hse.check, cond_true, cond_false, Bool.not_true, Bool.not_false, Bool.not_eq_true', Bool.not_eq_false', Bool.true_or, Bool.or_true, Bool.false_or, Bool.or_false]), rfl, rfl⟩ (fun w h => by first | exact (h.del b3).del b1 | exact h.del b1)
 refine Z2 (sqt 1 rfl (pur 1 rfl (Z6 ?_)))
 exact rtA rfl rfl rfl ⟨congrArg (Value.int .i64) (by have e10 : decide ((10 : Int) < (h.gaps.length : Int)) = decide (10 < h.gaps.length) := decide_eq_decide.2 (by omega); have e8 : decide ((8 : Int) < (h.sights.length : Int)) = decide (8 < h.sights.length) := decide_eq_decide.2 (by omega); simp_all only [Z05, Hse.check, cond_true, cond_false, Bool.not_true, Bool.not_false, Bool.not_eq_true', Bool.not_eq_false', Bool.true_or, Bool.or_true, Bool.false_or, Bool.or_false]), rfl, rfl⟩ (fun w h => by first | exact (h.del b3).del b1 | exact h.del b1)
theorem Z0d {l : List Int} {k : Nat} {x : Int} (h : l[k]? = some x) : (Z3 l)[k]? = some [.int .i64 x] := by simp [h]
theorem Z0h (l : List Int) : (Z3 l).length = l.length := List.length_map _
theorem Z5d (xs : List Int) (a : Option Addr) (c : Nat) (v : Int) (hl : xs.length ≤ 9223372036854775807) (H : Z8) (R : Z5) [hR : MemRows a 1 (Z3 xs) R] :
    FnV Tryz.prog 130 [.slice a xs.length c, .int .i64 v] H R (.int .i64 (match xs.findIdx? (fun x => decide (v = x)) with | some k => (k : Int) | none => -1)) := by
 refine Ze Tryz.func130 rfl Tryz.ntmps130 rfl ?_
 refine sqt 1 rfl (pur 1 rfl (Z0 (sqt 3 rfl (pur 1 rfl (sp rfl (PE.lenSl Zw rfl) rfl (pur 1 rfl (Z4 ?_)))))))
 refine Zc (ι := {k : Nat // k ≤ xs.length ∧ ∀ x ∈ xs.take k, decide (v = x) = false}) (fun k => ⟨[(0, .slice a xs.length c), (1, .int .i64 v), (7, .int .i64 xs.length), (8, .int .i64 k.1)], H, R⟩) (fun k => xs.length - k.1) ⟨0, by simp⟩ ?_ (fun k => ?_)
 exact Zh idH
 obtain ⟨k, hk, hn⟩ := k
 dsimp only
 refine sqt 1 rfl (pur 1 rfl (Z0 ?_))
 refine Z1 rfl ?_ ?_ <;> intro hc0 <;> try simp only [cS] at hc0
 obtain ⟨x, hx⟩ : ∃ x, xs[k]? = some x := ⟨_, List.getElem?_eq_getElem (by omega)⟩
 refine Zn (a := a) (sz := 1) (rows := Z3 xs) (by cases xs <;> simp_all) (fun b off he => ?_)
 subst he
 refine Z2 (Z0 (Z4 (sqt 2 rfl (pur 2 rfl (sqt 6 rfl (pur 3 rfl (sp rfl (PE.indexAddr Z0R rfl rfl (by omega) (by omega)) rfl (spL rfl rfl (lf0 sc3 (Z0d hx) rfl) rfl (pur 1 rfl ?_)))))))))
 refine Z1 rfl ?_ ?_ <;> intro hc1
 refine sqt 2 rfl (pur 2 rfl (Z6 ?_))
 first | (exact rtA rfl rfl rfl ⟨by rw [Z0b hx hn hc1]; rfl, rfl, rfl⟩ idH) | (exact rtA rfl rfl rfl ⟨by rw [ZW (by simpa using hn)]; rfl, rfl, rfl⟩ idH)
 refine Z2 (sqr 2 rfl (sp rfl (PE.add rfl rfl (by omega)) rfl (pur 1 rfl ?_)))
 exact Z7 ⟨k + 1, by omega, Z1u hx hn hc1⟩ idH
 obtain rfl : k = xs.length := by omega
 refine Z9 (Za (Za (Zl (sqt 1 rfl (pur 1 rfl (Z6 ?_))))))
 first | (exact rtA rfl rfl rfl ⟨by rw [Z0b hx hn hc1]; rfl, rfl, rfl⟩ idH) | (exact rtA rfl rfl rfl ⟨by rw [ZW (by simpa using hn)]; rfl, rfl, rfl⟩ idH)
theorem Zs (xs : List Int) (a : Option Addr) (c : Nat) (v : Int) (hl : xs.length ≤ 9223372036854775807) (H : Z8) (R : Z5) [hR : MemRows a 1 (Z3 xs) R] :
    FnV Tryz.prog 61 [.slice a xs.length c, .int .i64 v] H R (.bool (xs.any fun x => decide (v = x))) := by
 refine Ze Tryz.func61 rfl Tryz.ntmps61 rfl ?_
 refine sqt 1 rfl (pur 1 rfl (sqt 5 rfl (pur 2 rfl ?_)))
 refine clV rfl Zdz rfl rfl (Z5d xs a c v hl _ _) ?_
 refine pur 2 rfl (Z6 ?_)
 exact rtA rfl rfl rfl ⟨by simp only [Z05]; exact Z38 _ _, rfl, rfl⟩ drp
def ZaC (p : Int → Bool) (l : List Int) : Int := bif !(l.all p) then 1 else bif (List.range l.length).any (Z4y l) then 5 else 0
theorem ZdV {l : List Int} {k : Nat} (h : ∀ i < k, Z4y l i = false) (hk : k = l.length) : (List.range l.length).any (Z4y l) = false := by
  rw [List.any_eq_false]; intro i hi; rw [h i (by have := List.mem_range.1 hi; omega)]; simp
theorem Zcc {l : List Int} {k : Nat} (hk : k < l.length) (h : Z4y l k = true) : (List.range l.length).any (Z4y l) = true := List.any_eq_true.2 ⟨k, List.mem_range.2 hk, h⟩
theorem Z3P (l : List Int) (k : Nat) : (Z3 l).take k = Z3 (l.take k) := (List.map_take).symm
theorem Z5k (xs : List Int) (n : Nat) (hn : xs.length = n) (a : Option Addr) (c : Nat) (v : Int) (hl : xs.length ≤ 9223372036854775807) (H : Z8) (R : Z5) [hR : MemRows a 1 (Z3 xs) R] : FnV Tryz.prog 61 [.slice a n c, .int .i64 v] H R (.bool (Z0r xs v)) := by subst hn; exact Zs xs a c v hl H R
set_option maxHeartbeats 400000 in
theorem Z2I (l : List Int) (a : Option Addr) (c g : Nat) (fst cap : List Value) (p : Int → Bool) (hg : cal Tryz.prog g = true) (hl : l.length ≤ 9223372036854775807) (hlc : l.length ≤ c) (H : Z8) (R : Z5) [hR : MemRows a 1 (Z3 l) R] (hp : ∀ b x, x ∈ l → FnV Tryz.prog g (fst ++ [.int .i64 x] ++ cap) ((b, cel 100 [.func (.func g) fst.toArray cap.toArray]) :: H) R (.bool (p x))) :
    FnV Tryz.prog 85 [.slice a l.length c, .func (.func g) fst.toArray cap.toArray] H R (.int .i64 (ZaC p l)) := by
 refine Ze Tryz.func85 rfl Tryz.ntmps85 rfl ?_
 refine sqt 1 rfl (pur 1 rfl (Z0 (sqt 4 rfl (pur 2 rfl ?_))))
 refine clV rfl Ze3 rfl rfl (Z2X l a c g fst cap p hg hl _ _ hp) ?_
 refine pur 1 rfl ?_
 refine Z1 rfl ?_ ?_ <;> intro hc0 <;> try simp only [cS] at hc0
 refine sqt 1 rfl (pur 1 rfl (Z6 ?_))
 exact rtA rfl rfl rfl ⟨by simp only [Z05]; unfold ZaC; rw [hc0]; rfl, rfl, rfl⟩ drp
 have hall : l.all p = true := by simpa using hc0
 refine Z2 (Z0 (sqt 3 rfl (pur 1 rfl (sp rfl (PE.lenSl Zw rfl) rfl (pur 1 rfl (Z4 ?_))))))
 refine Zc (ι := {k : Nat // k ≤ l.length ∧ ∀ i < k, Z4y l i = false}) (fun k => ⟨[(0, .slice a l.length c), (11, .slice a l.length c), (12, .int .i64 l.length), (13, .int .i64 k.1)], H, R⟩) (fun k => l.length - k.1) ⟨0, Nat.zero_le _, fun i hi => absurd hi (Nat.not_lt_zero _)⟩ ?_ (fun k => ?_)
 exact Zh idH
 obtain ⟨k, hk, hd⟩ := k
 dsimp only at hk hd ⊢
 refine sqt 1 rfl (pur 1 rfl (Z0 ?_))
 refine Z1 rfl ?_ ?_ <;> intro hc1 <;> try simp only [cS] at hc1
 obtain ⟨x, hx⟩ : ∃ x, l[k]? = some x := ⟨_, List.getElem?_eq_getElem (by omega)⟩
 refine Zn (a := a) (sz := 1) (rows := Z3 l) (ne0 (by rw [Z0h]; omega)) (fun ba oa he => ?_)
 subst he
 refine Z2 (Z0 (Z4 (sqt 5 rfl (pur 1 rfl (sp rfl (PE.indexAddr Z0R rfl rfl (by omega) (by omega)) rfl (spL rfl rfl (lf0 sc3 (Z0d hx) rfl) rfl (pur 2 rfl (sqt 5 rfl (pur 2 rfl (sp rfl (PE.slHi (h := k) Z0l rfl rfl (by omega)) rfl ?_))))))))))
 refine Sy.heap (fun w h => (Z3P l k ▸ St.rowsTake (a := some ⟨ba, oa, none⟩) (sz := 1) (rows := Z3 l) h k)) ?_
 refine pur 1 rfl ?_
 refine clV rfl Z3h rfl rfl (Z5k (l.take k) k (by rw [List.length_take]; omega) (some ⟨ba, oa, none⟩) c x (by rw [List.length_take]; omega) _ _) ?_
 refine Z1 rfl ?_ ?_ <;> intro hc2 <;> try simp only [cS] at hc2
 have hdk : Z4y l k = true := by unfold Z4y; rw [Z4u hx]; exact hc2
 refine sqt 1 rfl (pur 1 rfl (Z6 ?_))
 exact rtA rfl rfl rfl ⟨by simp only [Z05]; unfold ZaC; rw [hall, Zcc (by omega) hdk]; rfl, rfl, rfl⟩ drp
 have hd2 : ∀ i < k + 1, Z4y l i = false := fun i hi => by
   rcases Nat.lt_or_ge i k with h1 | h1
   · exact hd i h1
   · obtain rfl : i = k := by omega
     unfold Z4y; rw [Z4u hx]; exact hc2
 refine Z2 (sqr 2 rfl (sp rfl (PE.add rfl rfl (by omega)) rfl (pur 1 rfl ?_)))
 exact Z7 ⟨k + 1, by omega, hd2⟩ (fun w h => h.ftail)
 obtain rfl : k = l.length := by omega
 refine Z9 (Za (Za (Zl (sqt 1 rfl (pur 1 rfl (Z6 ?_))))))
 exact rtA rfl rfl rfl ⟨by simp only [Z05]; unfold ZaC; rw [hall, ZdV hd rfl]; rfl, rfl, rfl⟩ drp
theorem Z8O : Z4X Tryz.prog 152 = some 7 := by kernel_rfl
theorem Z4m : arN Tryz.prog 152 = some (7, 1) := by kernel_rfl
theorem ZdP : cal Tryz.prog 142 = true := by kernel_rfl
theorem Z7a : cal Tryz.prog 145 = true := by kernel_rfl
theorem ZcM : cal Tryz.prog 155 = true := by kernel_rfl
theorem Z8H : cal Tryz.prog 172 = true := by kernel_rfl
theorem Z75 : Z0Z Tryz.prog 152 = some 7 := by kernel_rfl
theorem cn3 : Z0Z Tryz.prog 3 = some 1 := by kernel_rfl
theorem Z8Z : Z0Z Tryz.prog 97 = some 2 := by kernel_rfl
theorem ZdF : eqB Tryz.prog 10000 152 = some (true, 7) := by kernel_rfl
theorem Zer : Tryz.prog.eqGuardType Tryz.prog.depth 152 = false := by kernel_rfl
theorem Z0N : Z2t Tryz.prog 140 0 = some 0 := by kernel_rfl
theorem Z8I : Z2t Tryz.prog 140 1 = some 3 := by kernel_rfl
theorem ZbL : Z1r Tryz.prog 140 = some [(0, 3), (3, 1)] := by kernel_rfl
theorem Z3l : Z2A Tryz.prog 117 = true := by kernel_rfl
theorem Zbv : ZQ Tryz.prog 140 = some ([.int .i64 0, .slice none 0 0, .slice none 0 0, .nilFunc]) := by kernel_rfl
theorem Z6O : ZQ Tryz.prog 152 = some ([.int .i64 0, .int .i64 0, .int .i64 0, .int .i64 0, .int .i64 0, .int .i64 0, .int .i64 0]) := by kernel_rfl
theorem zl3 : ZQ Tryz.prog 3 = some ([.int .i64 0]) := by kernel_rfl
structure Dk where
  h : Hse
  ag : Option Addr
  as_ : Option Addr
  cg : Nat
  cs : Nat
  bd : Nat
  fo : Nat
  fst : List Value
  cap : List Value
  cl : Nat
  R0 : Z5
def Dk.row (d : Dk) : List Value := [.int .i64 d.h.bins, d.h.sg d.ag d.cg, d.h.ss d.as_ d.cs, .func (.func d.fo) d.fst.toArray d.cap.toArray]
structure Dk.Ok (d : Dk) : Prop where
  ok : d.h.ok
  cal : cal Tryz.prog d.fo = true
  op : ∀ (i : Nat) (H : Z8) (R : Z5), i < d.h.gaps.length → (∀ g ∈ d.R0, g ∈ R) → FnV Tryz.prog d.fo (d.fst ++ [.int .i64 ((i : Nat) : Int)] ++ d.cap) H R (.bool (!d.cl.testBit i))
structure RchI (gs : List Gp) (cl m : Nat) (w : List Int) : Prop where
  len : w.length = 7
  at_ : ∀ k < 7, wk gs cl m k ≤ na w k ∧ na w k ≤ far ∧ (m.testBit k = true → na w k ≤ 0)
theorem Z1H {l : List Int} {i j : Nat} {v : Int} (h : i < l.length) : na (l.set i v) j = bif decide (i = j) then v else na l j := by
  unfold na
  rw [List.getD_eq_getElem?_getD, List.getD_eq_getElem?_getD, List.getElem?_set]
  by_cases e : i = j
  · subst e; rw [if_pos rfl, if_pos h]; simp
  · rw [if_neg e, decide_eq_false e]; rfl
theorem Z0O {w : List Int} {i k : Nat} {v : Int} (hk : k < w.length) (e : i = k) : spl (Zm w) i [.int .i64 v] = Zm (w.set k v) := by
  subst e
  unfold spl Zm
  apply List.ext_getElem?
  intro j
  rw [List.getElem?_map, List.getElem?_set]
  simp only [List.length_singleton]
  rcases Nat.lt_trichotomy j i with h | h | h
  · rw [List.getElem?_append_left (by simp; omega), List.getElem?_append_left (by simp; omega), List.getElem?_take, if_pos h, if_neg (by omega), List.getElem?_map]
  · subst h
    rw [List.getElem?_append_left (by simp; omega), List.getElem?_append_right (by simp; omega), if_pos rfl, if_pos hk]
    simp [show min j w.length = j by omega]
  · rw [List.getElem?_append_right (by simp; omega), if_neg (by omega), List.getElem?_drop, List.getElem?_map]
    congr 2
    simp; omega
theorem RchI.relax {gs : List Gp} {cl m : Nat} {w : List Int} (h : RchI gs cl m w) (hw : Wth gs 7) (hm : m < 2 ^ 7) {u v : Nat} (hu : u < 7) (hv : v < 7) (ha : Adj gs cl u v) : RchI gs cl m (w.set v (min (na w v) (na w u + 1))) ∧ (∀ k < 7, na (w.set v (min (na w v) (na w u + 1))) k ≤ na w k) ∧ na (w.set v (min (na w v) (na w u + 1))) v ≤ na w u + 1 := by
  have hl := h.len
  have h1 := h.at_ u hu
  have h2 := h.at_ v hv
  have h3 := Zd4 hw hm ha
  refine ⟨⟨by rw [List.length_set]; exact hl, fun k hk => ?_⟩, fun k hk => ?_, ?_⟩
  · rw [Z1H (by omega)]
    have h4 := h.at_ k hk
    by_cases e : v = k
    · subst e
      rw [decide_eq_true rfl, cond_true]
      refine ⟨by omega, by omega, fun h5 => by have := h4.2.2 h5; omega⟩
    · rw [decide_eq_false e]; exact h4
  · rw [Z1H (by omega)]
    by_cases e : v = k
    · subst e; rw [decide_eq_true rfl, cond_true]; omega
    · rw [decide_eq_false e]; exact Int.le_refl _
  · rw [Z1H (by omega), decide_eq_true rfl, cond_true]; omega
def Rlx (gs : List Gp) (cl : Nat) (w0 w : List Int) (k i : Nat) : Prop := (∀ j < 7, na w j ≤ na w0 j) ∧ (∀ u v, u < k → u < 7 → v < 7 → Adj gs cl u v → na w v ≤ na w0 u + 1) ∧ ∀ (q : Nat) (g : Gp) (v : Nat), q < i → gs[q]? = some g → cl.testBit q = false → v < 7 → ((g.a.toNat = k ∧ g.b.toNat = v) ∨ (g.b.toNat = k ∧ g.a.toNat = v)) → na w v ≤ na w0 k + 1
theorem Rlx.start (gs : List Gp) (cl : Nat) (w : List Int) : Rlx gs cl w w 0 0 := ⟨fun _ _ => Int.le_refl _, fun u _ h => absurd h (Nat.not_lt_zero _), fun q _ _ h => absurd h (Nat.not_lt_zero _)⟩
theorem Rlx.bin {gs : List Gp} {cl : Nat} {w0 w : List Int} {k : Nat} (h : Rlx gs cl w0 w k gs.length) : Rlx gs cl w0 w (k + 1) 0 := by
  refine ⟨h.1, fun u v hu hu7 hv ha => ?_, fun q _ _ h => absurd h (Nat.not_lt_zero _)⟩
  rcases Nat.lt_or_ge u k with h1 | h1
  · exact h.2.1 u v h1 hu7 hv ha
  · obtain rfl : u = k := by omega
    obtain ⟨q, g, h2, h3, h4⟩ := ha
    exact h.2.2 q g v (List.getElem?_eq_some_iff.1 h2).1 h2 h3 hv h4
theorem Rlx.skip {gs : List Gp} {cl : Nat} {w0 w : List Int} {k i : Nat} (h : Rlx gs cl w0 w k i) {g : Gp} (hg : gs[i]? = some g) (hn : cl.testBit i = true ∨ (g.a.toNat ≠ k ∧ g.b.toNat ≠ k)) : Rlx gs cl w0 w k (i + 1) := by
  refine ⟨h.1, h.2.1, fun q g' v hq hg' ho hv he => ?_⟩
  rcases Nat.lt_or_ge q i with h1 | h1
  · exact h.2.2 q g' v h1 hg' ho hv he
  · obtain rfl : q = i := by omega
    rw [hg] at hg'
    obtain rfl := Option.some.inj hg'
    rcases hn with h2 | h2
    · rw [ho] at h2; cases h2
    · omega
theorem Rlx.step {gs : List Gp} {cl : Nat} {w0 w w' : List Int} {k i : Nat} (h : Rlx gs cl w0 w k i) {g : Gp} (hg : gs[i]? = some g) {v : Nat} (hv : ∀ v', ((g.a.toNat = k ∧ g.b.toNat = v') ∨ (g.b.toNat = k ∧ g.a.toNat = v')) → v' = v) (hle : ∀ j < 7, na w' j ≤ na w j) (hk : k < 7) (hs : na w' v ≤ na w k + 1) : Rlx gs cl w0 w' k (i + 1) := by
  refine ⟨fun j hj => Int.le_trans (hle j hj) (h.1 j hj), fun u v hu hu7 hv' ha => Int.le_trans (hle v hv') (h.2.1 u v hu hu7 hv' ha), fun q g' v' hq hg' ho hv' he => ?_⟩
  rcases Nat.lt_or_ge q i with h1 | h1
  · exact Int.le_trans (hle v' hv') (h.2.2 q g' v' h1 hg' ho hv' he)
  · obtain rfl : q = i := by omega
    rw [hg] at hg'
    obtain rfl := Option.some.inj hg'
    obtain rfl := hv v' he
    have := h.1 k hk
    omega
theorem Rlx.done {gs : List Gp} {cl m : Nat} {w : List Int} {n : Nat} (hn : Wth gs n) (hw : Wth gs 7) (hm : m < 2 ^ 7) (hr : RchI gs cl m w) (h : Rlx gs cl w w n 0) : w = wks gs cl m := by
  have h1 := Z8c (gs := gs) (cl := cl) (m := m) (w := na w) (fun k hk => (hr.at_ k hk).1) (fun k hk hb => (hr.at_ k hk).2.2 hb) (fun u v hu hv ha => h.2.1 u v (ha.lt hn).1 hu hv ha) (fun k hk => (hr.at_ k hk).2.1) hw hm
  apply List.ext_getElem?
  intro k
  rcases Nat.lt_or_ge k 7 with hk | hk
  · rw [Z0s (by rw [hr.len]; exact hk), Z0s (by rw [ZR]; exact hk), Z1M hk, h1 k hk]
  · rw [List.getElem?_eq_none (by rw [hr.len]; exact hk), List.getElem?_eq_none (by rw [ZR]; exact hk)]
def Zew (w : List Int) : Nat := (w.map Int.toNat).foldl (· + ·) 0
theorem Zep {w : List Int} (h : w.length = 7) : w = [na w 0, na w 1, na w 2, na w 3, na w 4, na w 5, na w 6] := by
  match w, h with
  | [a, b, c, d, e, f, g], _ => rfl
theorem Z2Z {a b : Int} (h : b ≤ a) (q : 0 ≤ b) : b.toNat ≤ a.toNat ∧ (b.toNat = a.toNat → b = a) := by omega
theorem Zcl {gs : List Gp} {cl m : Nat} {w w' : List Int} (h : RchI gs cl m w) (h' : RchI gs cl m w') (hle : ∀ j < 7, na w' j ≤ na w j) (hne : w' ≠ w) : Zew w' < Zew w := by
  have q : ∀ k < 7, 0 ≤ na w' k := fun k hk => by have := (h'.at_ k hk).1; have := (Z5h gs cl m k).1; omega
  obtain ⟨a0, a1, a2, a3, a4, a5, a6, rfl⟩ : ∃ a0 a1 a2 a3 a4 a5 a6 : Int, w = [a0, a1, a2, a3, a4, a5, a6] := ⟨_, _, _, _, _, _, _, Zep h.len⟩
  obtain ⟨b0, b1, b2, b3, b4, b5, b6, rfl⟩ : ∃ b0 b1 b2 b3 b4 b5 b6 : Int, w' = [b0, b1, b2, b3, b4, b5, b6] := ⟨_, _, _, _, _, _, _, Zep h'.len⟩
  have h0 : b0 ≤ a0 := hle 0 (by decide)
  have h1 : b1 ≤ a1 := hle 1 (by decide)
  have h2 : b2 ≤ a2 := hle 2 (by decide)
  have h3 : b3 ≤ a3 := hle 3 (by decide)
  have h4 : b4 ≤ a4 := hle 4 (by decide)
  have h5 : b5 ≤ a5 := hle 5 (by decide)
  have h6 : b6 ≤ a6 := hle 6 (by decide)
  have q0 : 0 ≤ b0 := q 0 (by decide)
  have q1 : 0 ≤ b1 := q 1 (by decide)
  have q2 : 0 ≤ b2 := q 2 (by decide)
  have q3 : 0 ≤ b3 := q 3 (by decide)
  have q4 : 0 ≤ b4 := q 4 (by decide)
  have q5 : 0 ≤ b5 := q 5 (by decide)
  have q6 : 0 ≤ b6 := q 6 (by decide)
  clear q hle h h'
  apply Classical.byContradiction
  intro hc
  apply hne
  unfold Zew at hc
  simp only [List.map_cons, List.map_nil, List.foldl_cons, List.foldl_nil] at hc
  have s0 := Z2Z h0 q0
  have s1 := Z2Z h1 q1
  have s2 := Z2Z h2 q2
  have s3 := Z2Z h3 q3
  have s4 := Z2Z h4 q4
  have s5 := Z2Z h5 q5
  have s6 := Z2Z h6 q6
  clear h0 q0
  clear h1 q1
  clear h2 q2
  clear h3 q3
  clear h4 q4
  clear h5 q5
  clear h6 q6
  have : b0.toNat = a0.toNat ∧ b1.toNat = a1.toNat ∧ b2.toNat = a2.toNat ∧ b3.toNat = a3.toNat ∧ b4.toNat = a4.toNat ∧ b5.toNat = a5.toNat ∧ b6.toNat = a6.toNat := by
    have u0 := s0.1; have u1 := s1.1; have u2 := s2.1; have u3 := s3.1; have u4 := s4.1; have u5 := s5.1; have u6 := s6.1
    clear s0 s1 s2 s3 s4 s5 s6 hne
    generalize b0.toNat = m0 at *
    generalize a0.toNat = n0 at *
    generalize b1.toNat = m1 at *
    generalize a1.toNat = n1 at *
    generalize b2.toNat = m2 at *
    generalize a2.toNat = n2 at *
    generalize b3.toNat = m3 at *
    generalize a3.toNat = n3 at *
    generalize b4.toNat = m4 at *
    generalize a4.toNat = n4 at *
    generalize b5.toNat = m5 at *
    generalize a5.toNat = n5 at *
    generalize b6.toNat = m6 at *
    generalize a6.toNat = n6 at *
    exact ⟨by omega, by omega, by omega, by omega, by omega, by omega, by omega⟩
  rw [s0.2 this.1, s1.2 this.2.1, s2.2 this.2.2.1, s3.2 this.2.2.2.1, s4.2 this.2.2.2.2.1, s5.2 this.2.2.2.2.2.1, s6.2 this.2.2.2.2.2.2]
def w00 (m k : Nat) : List Int := (List.range 7).map fun j => bif decide (j < k) then (bif m.testBit j then 0 else far) else 0
theorem Z0L (m k : Nat) : (w00 m k).length = 7 := by simp [w00]
theorem Z8B {m k j : Nat} (hj : j < 7) : na (w00 m k) j = bif decide (j < k) then (bif m.testBit j then 0 else far) else 0 := by
  unfold na w00
  rw [List.getD_eq_getElem?_getD, List.getElem?_map, List.getElem?_range hj]; rfl
theorem Z7W {m k : Nat} (hk : k < 7) : (w00 m k).set k (bif m.testBit k then 0 else far) = w00 m (k + 1) := by
  apply List.ext_getElem?
  intro j
  rcases Nat.lt_or_ge j 7 with hj | hj
  · rw [Z0s (l := (w00 m k).set k _) (by rw [List.length_set, Z0L]; exact hj), Z0s (by rw [Z0L]; exact hj), Z1H (by rw [Z0L]; exact hk), Z8B hj, Z8B hj]
    by_cases e : k = j
    · subst e; rw [decide_eq_true rfl, decide_eq_true (Nat.lt_succ_self k)]; rfl
    · rw [decide_eq_false e, show decide (j < k + 1) = decide (j < k) from decide_eq_decide.2 (by omega)]; rfl
  · rw [List.getElem?_eq_none (by rw [List.length_set, Z0L]; exact hj), List.getElem?_eq_none (by rw [Z0L]; exact hj)]
theorem Z66 (l : List Int) (k : Nat) (x y : Int) : (l.set k x).set k y = l.set k y := by simp
theorem Zcr (gs : List Gp) (cl m : Nat) : RchI gs cl m (w00 m 7) := ⟨Z0L _ _, fun k hk => by
  rw [Z8B hk, decide_eq_true hk, cond_true]
  have := Z5h gs cl m k
  cases hb : m.testBit k with
  | true => rw [Z8P hb]; unfold far; simp
  | false => exact ⟨this.2.1, Int.le_refl _, (fun h => by cases h)⟩⟩
abbrev dkA (h : Hse) (ag as_ : Option Addr) (cg cs : Nat) (bd : Nat) : Dk := ⟨h, ag, as_, cg, cs, bd, 142, [], [], 0, []⟩
theorem ZdQ (n : Int) (H : Z8) (R : Z5) :
    FnV Tryz.prog 142 [.int .i64 n] H R (.bool true) := by
 refine Ze Tryz.func142 rfl Tryz.ntmps142 rfl ?_
 refine sqt 1 rfl (pur 1 rfl (sqt 1 rfl (pur 1 rfl (Z6 ?_))))
 exact rtA rfl rfl rfl ⟨rfl, rfl, rfl⟩ drp
theorem Z0J (h : Hse) (ag as_ : Option Addr) (cg cs : Nat) (hok : h.ok) (bd : Nat) : (dkA h ag as_ cg cs bd).Ok := ⟨hok, ZdP, fun i H R _ _ => by
  have e : (!(dkA h ag as_ cg cs bd).cl.testBit i) = true := by show (!(Nat.testBit 0 i)) = true; rw [Nat.zero_testBit]; rfl
  rw [e]; exact ZdQ _ H R⟩
theorem Z5j (h : Hse) (ag as_ : Option Addr) (cg cs : Nat) (H : Z8) (R : Z5) :
    Fn Tryz.prog 90 [h.v (h.sg ag cg) (h.ss as_ cs)] H R (fun v H' R' => ∃ bd, v = .pointer (some ⟨bd, 0, none⟩) ∧ H' = H ∧ R' = RowsA (some ⟨bd, 0, none⟩) 4 [(dkA h ag as_ cg cs bd).row] :: R) := by
 refine Ze Tryz.func90 rfl Tryz.ntmps90 rfl ?_
 refine sqt 2 rfl (bx rfl rfl rfl (fun b1 => pur 1 rfl (sqt 4 rfl (spL rfl rfl (lhA (htl h (h.sg ag cg) (h.ss as_ cs)) Z06 rfl rfl rfl) rfl (sp rfl (PE.build (out := [_, _, _, _]) ZbL Zbv rfl rfl) rfl (bx rfl rfl rfl (fun b5 => pur 1 rfl (Z6 ?_))))))))
 refine Sy.heap (fun w h9 => St.rows (sz := 4) (rows := [(dkA h ag as_ cg cs b5).row]) (rest := []) (h9.pull b5) (by simp [Dk.row])) ?_
 exact rtA rfl rfl rfl ⟨b5, rfl, rfl, rfl⟩ (fun w h9 => h9.del b1)
theorem ZbV (bd : Nat) (n : Int) (H : Z8) (R : Z5) :
    Fn Tryz.prog 145 [.pointer (some ⟨bd, 0, none⟩), .int .i64 n] H R (fun v H' R' => ∃ xd xb, v = .func (.func 172) #[] #[.pointer (some ⟨xd, 0, none⟩), .pointer (some ⟨xb, 0, none⟩)] ∧ H' = H ∧ R' = RowsA (some ⟨xb, 0, none⟩) 1 [[.int .i64 n]] :: RowsA (some ⟨xd, 0, none⟩) 1 [[.pointer (some ⟨bd, 0, none⟩)]] :: R) := by
 refine Ze Tryz.func145 rfl Tryz.ntmps145 rfl ?_
 refine sqt 3 rfl (bx rfl rfl rfl (fun b2 => bx rfl rfl rfl (fun b3 => pur 1 rfl (sqt 2 rfl (sp rfl (PE.makeFunc rfl rfl) rfl (pur 1 rfl (Z6 ?_)))))))
 refine Sy.heap (fun w h9 => St.rows (sz := 1) (rows := [[.pointer (some ⟨bd, 0, none⟩)]]) (rest := []) (h9.pull b2) (by simp)) ?_
 refine Sy.heap (fun w h9 => St.rows (sz := 1) (rows := [[.int .i64 n]]) (rest := []) (h9.pull b3) (by simp)) ?_
 exact rtA rfl rfl rfl ⟨b2, b3, rfl, rfl, rfl⟩ idH
set_option maxHeartbeats 400000 in
theorem Z76 (d : Dk) (hd : d.Ok) (n : Int) (hn : 0 ≤ n ∧ n < 7) (xd xb lp : Nat) (I : Nat → Z8 → Z5 → Prop) (E : Z8 → Z5 → Prop) (hI : ∀ k H R, I k H R → RowsA (some ⟨d.bd, 0, none⟩) 4 [d.row] ∈ R ∧ RowsA d.ag 2 (Zk d.h.gaps) ∈ R ∧ RowsA (some ⟨xd, 0, none⟩) 1 [[.pointer (some ⟨d.bd, 0, none⟩)]] ∈ R ∧ RowsA (some ⟨xb, 0, none⟩) 1 [[.int .i64 n]] ∈ R ∧ ∀ g ∈ d.R0, g ∈ R)
    (hsk : ∀ k g H R, d.h.gaps[k]? = some g → (d.cl.testBit k = true ∨ (g.a ≠ n ∧ g.b ≠ n)) → I k H R → I (k + 1) H R)
    (hy : ∀ k g q o H R, d.h.gaps[k]? = some g → d.cl.testBit k = false → (g.a = n ∨ g.b = n) → I k H R → Yd Tryz.prog lp [.int .i64 k, .int .i64 (g.a + g.b - n)] ((q, o) :: H) R (fun v H' R' => (v = .bool true ∧ ∃ H2, H' = (q, o) :: H2 ∧ I (k + 1) H2 R') ∨ (v = .bool false ∧ ∃ H2, H' = (q, o) :: H2 ∧ E H2 R'))) (H : Z8) (R : Z5) (h0 : I 0 H R) :
    Fn Tryz.prog 172 [yv lp, .pointer (some ⟨xd, 0, none⟩), .pointer (some ⟨xb, 0, none⟩)] H R (fun _ H' R' => I d.h.gaps.length H' R' ∨ E H' R') := by
 obtain ⟨h, ag, as_, cg, cs, bd, fo, fst, cap, cl, R0⟩ := d
 obtain ⟨hok, hcal, hop⟩ := hd
 dsimp only at *
 have hgl := hok.gl
 obtain ⟨hF1, hF2, hF3, hF4, hF5⟩ := hI _ _ _ h0
 haveI : MemRows (some ⟨bd, 0, none⟩) 4 [(Dk.mk h ag as_ cg cs bd fo fst cap cl R0).row] R := ⟨hF1⟩
 haveI : MemRows ag 2 (Zk h.gaps) R := ⟨hF2⟩
 haveI : MemRows (some ⟨xd, 0, none⟩) 1 [[.pointer (some ⟨bd, 0, none⟩)]] R := ⟨hF3⟩
 haveI : MemRows (some ⟨xb, 0, none⟩) 1 [[.int .i64 n]] R := ⟨hF4⟩
 refine Ze Tryz.func172 rfl Tryz.ntmps172 rfl ?_
 refine sqt 7 rfl (spL rfl rfl (lfB (sz := 1) Z3l rfl) rfl (sp rfl (PE.nilCheck rfl) rfl (sp rfl (PE.fA Z0N rfl) rfl (sp rfl (PE.fA ZV rfl) rfl (spL rfl rfl (lfB (sz := 4) Z3Q rfl) rfl (sp rfl (PE.lenSl Z3w rfl) rfl (pur 1 rfl (Z4 ?_))))))))
 refine Zc (ι := {x : Nat × Z8 × Z5 // x.1 ≤ h.gaps.length ∧ I x.1 x.2.1 x.2.2}) (fun x => ⟨[(0, yv lp), (1, .pointer (some ⟨xd, 0, none⟩)), (2, .pointer (some ⟨xb, 0, none⟩)), (10, .slice ag h.gaps.length cg), (11, .int .i64 h.gaps.length), (12, .int .i64 x.1.1)], x.1.2.1, x.1.2.2⟩) (fun x => h.gaps.length - x.1.1) ⟨(0, H, R), Nat.zero_le _, h0⟩ ?_ (fun x => ?_)
 exact Zh idH
 obtain ⟨⟨k, H0, Q0⟩, hk, hI0⟩ := x
 dsimp only at hk hI0 ⊢
 obtain ⟨hF1, hF2, hF3, hF4, hF5⟩ := hI _ _ _ hI0
 haveI : MemRows (some ⟨bd, 0, none⟩) 4 [(Dk.mk h ag as_ cg cs bd fo fst cap cl R0).row] Q0 := ⟨hF1⟩
 haveI : MemRows ag 2 (Zk h.gaps) Q0 := ⟨hF2⟩
 haveI : MemRows (some ⟨xd, 0, none⟩) 1 [[.pointer (some ⟨bd, 0, none⟩)]] Q0 := ⟨hF3⟩
 haveI : MemRows (some ⟨xb, 0, none⟩) 1 [[.int .i64 n]] Q0 := ⟨hF4⟩
 refine sqt 1 rfl (pur 1 rfl (Z0 ?_))
 refine Z1 rfl ?_ ?_ <;> intro hc0 <;> try simp only [cS] at hc0
 obtain ⟨g, hg⟩ : ∃ g, h.gaps[k]? = some g := ⟨_, List.getElem?_eq_getElem (by omega)⟩
 have hgo := hok.gaps g (List.mem_of_getElem? hg)
 have hbn := hok.bins
 refine Zn (a := ag) (sz := 2) (rows := Zk h.gaps) (ne0 (by rw [Z0Y]; omega)) (fun bg og he => ?_)
 subst he
 refine Z2 (Z0 (Z4 (sqt 6 rfl (pur 1 rfl (sp rfl (PE.indexAddr Z6P rfl rfl (by omega) (by omega)) rfl (spL rfl rfl (lfA Z5P (row := grow g) (Z1g hg) rfl) rfl (alc rfl Z2W rfl (fun b5 => pur 1 rfl ?_))))))))
 refine ZN (l' := grow g) rfl rfl rfl Z8Z rfl rfl rfl rfl (nl rfl) ?_
 refine Z0 (sqt 19 rfl (spL rfl rfl (lfB (sz := 1) Z3l rfl) rfl (sp rfl (PE.nilCheck rfl) rfl (sp rfl (PE.fA Z8I rfl) rfl (spL rfl rfl (lfB (sz := 4) Z6y rfl) rfl (pur 1 rfl ?_))))))
 refine Z6T rfl rfl (hcal) rfl rfl (hop k _ _ (by omega) hF5) ?_
 refine pur 2 rfl ?_
 refine Zv 24 rfl ?_ ?_ <;> intro g24
 refine pur 5 rfl ?_
 repeat refine spU rfl rfl rfl rfl rfl rfl rfl ?_
 refine pur 2 rfl ?_
 refine Z0E rfl ?_
 refine Z9 (Za (Zl (sqr 2 rfl (sp rfl (PE.add rfl rfl (by omega)) rfl (pur 1 rfl ?_)))))
 exact Z7 ⟨(k + 1, H0, Q0), by dsimp only; omega, hsk k g _ _ hg (.inl (by simpa using g24)) hI0⟩ (fun w h9 => h9.tail)
 have hop0 : cl.testBit k = false := by simpa using g24
 refine spG rfl rfl rfl rfl (PE.fA ZM rfl) rfl ?_
 refine Z2T rfl rfl rfl rfl rfl (lh sc3 rfl rfl) rfl (Z2T rfl rfl rfl rfl rfl (lfB (sz := 1) sc3 rfl) rfl (pur 2 rfl ?_))
 refine Zv 29 rfl ?_ ?_ <;> intro g29
 try simp only [cS] at g29
 refine spG rfl rfl rfl rfl (PE.fA ZC rfl) rfl ?_
 refine Z2T rfl rfl rfl rfl rfl (lh sc3 rfl rfl) rfl (Z2T rfl rfl rfl rfl rfl (lfB (sz := 1) sc3 rfl) rfl (pur 3 rfl ?_))
 refine Z1 rfl ?_ ?_ <;> intro hc1 <;> try simp only [cS] at hc1
 refine Z9 (Za (Zl (sqr 2 rfl (sp rfl (PE.add rfl rfl (by omega)) rfl (pur 1 rfl ?_)))))
 exact Z7 ⟨(k + 1, H0, Q0), by dsimp only; omega, hsk k g _ _ hg (.inr ⟨g29, hc1⟩) hI0⟩ (fun w h9 => h9.tail)
 have hinc : g.a = n ∨ g.b = n := .inr (by omega)
 refine Z2 (sqt 11 rfl (pur 2 rfl (sp rfl (PE.fA ZM rfl) rfl (spL rfl rfl (lh sc3 rfl rfl) rfl (sp rfl (PE.fA ZC rfl) rfl (spL rfl rfl (lh sc3 rfl rfl) rfl (sp rfl (PE.add rfl rfl (by omega)) rfl (spL rfl rfl (lfB (sz := 1) sc3 rfl) rfl (sp rfl (PE.sub rfl rfl (by omega)) rfl ?_)))))))))
 refine clY rfl rfl rfl rfl (hy k g b5 _ _ _ hg hop0 hinc hI0) ?_
 rintro v H3 R3 (⟨rfl, H2, rfl, hI3⟩ | ⟨rfl, H2, rfl, hE3⟩)
 refine pur 1 rfl ?_
 refine ZA rfl ?_
 refine Z2 (sqr 2 rfl (sp rfl (PE.add rfl rfl (by omega)) rfl (pur 1 rfl ?_)))
 exact Z7 ⟨(k + 1, H2, R3), by dsimp only; omega, hI3⟩ (fun w h9 => h9.tail)
 refine pur 1 rfl ?_
 refine Z0E rfl ?_
 refine Z6 ?_
 exact Zp (vs := []) rfl .nil rfl (.inr hE3) (fun _ h => h.tail)
 try simp only [cS] at g29
 have hinc : g.a = n ∨ g.b = n := .inl (by omega)
 refine pur 6 rfl ?_
 refine ZA rfl ?_
 refine Z2 (sqt 11 rfl (pur 2 rfl (sp rfl (PE.fA ZM rfl) rfl (spL rfl rfl (lh sc3 rfl rfl) rfl (sp rfl (PE.fA ZC rfl) rfl (spL rfl rfl (lh sc3 rfl rfl) rfl (sp rfl (PE.add rfl rfl (by omega)) rfl (spL rfl rfl (lfB (sz := 1) sc3 rfl) rfl (sp rfl (PE.sub rfl rfl (by omega)) rfl ?_)))))))))
 refine clY rfl rfl rfl rfl (hy k g b5 _ _ _ hg hop0 hinc hI0) ?_
 rintro v H3 R3 (⟨rfl, H2, rfl, hI3⟩ | ⟨rfl, H2, rfl, hE3⟩)
 refine pur 1 rfl ?_
 refine ZA rfl ?_
 refine Z2 (sqr 2 rfl (sp rfl (PE.add rfl rfl (by omega)) rfl (pur 1 rfl ?_)))
 exact Z7 ⟨(k + 1, H2, R3), by dsimp only; omega, hI3⟩ (fun w h9 => h9.tail)
 refine pur 1 rfl ?_
 refine Z0E rfl ?_
 refine Z6 ?_
 exact Zp (vs := []) rfl .nil rfl (.inr hE3) (fun _ h => h.tail)
 obtain rfl : k = h.gaps.length := by omega
 refine Z9 (Za (Za (Zl ?_)))
 exact Z2a (vs := []) rfl .nil rfl (.inl hI0) idH
theorem Z0y {w : List Int} {k i : Nat} (hk : k < w.length) (e : i = k) : (Zm w)[i]? = some (.int .i64 (na w k)) := by
  subst e; exact Z5O (Z0s hk)
theorem Z83 {gs : List Gp} {cl i : Nat} {g : Gp} (hg : gs[i]? = some g) (ho : cl.testBit i = false) {k : Nat} (ha : (0 ≤ g.a ∧ g.a < 7) ∧ (0 ≤ g.b ∧ g.b < 7) ∧ g.a ≠ g.b) (h : g.a = k ∨ g.b = k) : ∃ v : Nat, g.a + g.b - k = v ∧ v < 7 ∧ Adj gs cl k v ∧ (∀ v', ((g.a.toNat = k ∧ g.b.toNat = v') ∨ (g.b.toNat = k ∧ g.a.toNat = v')) → v' = v) ∧ ((g.a.toNat = k ∧ g.b.toNat = v) ∨ (g.b.toNat = k ∧ g.a.toNat = v)) := by
  rcases h with h | h
  · exact ⟨g.b.toNat, by omega, by omega, ⟨i, g, hg, ho, .inl ⟨by omega, rfl⟩⟩, fun v' hv => by omega, .inl ⟨by omega, rfl⟩⟩
  · exact ⟨g.a.toNat, by omega, by omega, ⟨i, g, hg, ho, .inr ⟨by omega, rfl⟩⟩, fun v' hv => by omega, .inr ⟨by omega, rfl⟩⟩
set_option maxHeartbeats 1000000 in
theorem Z43 (d : Dk) (hd : d.Ok) (l : List Int) (a : Option Addr) (c : Nat) (hl : l.length ≤ 9223372036854775807) (hx : ∀ x ∈ l, 0 ≤ x ∧ x < 7) (H : Z8) (R : Z5) [hD : MemRows (some ⟨d.bd, 0, none⟩) 4 [d.row] R] [hG : MemRows d.ag 2 (Zk d.h.gaps) R] [hS : MemRows d.as_ 3 (Zo d.h.sights) R] [sR : SubF d.R0 R] [hR : MemRows a 1 (Z3 l) R] :
    FnV Tryz.prog 107 [.pointer (some ⟨d.bd, 0, none⟩), .slice a l.length c] H R (.agg (Zm (wks d.h.gaps d.cl (msk l))).toArray) := by
 refine Z7o Tryz.func107 rfl Tryz.ntmps107 rfl ?_
 refine sqt 1 rfl (alc rfl Z6O rfl (fun b4 => sqt 1 rfl (alc rfl Z6O rfl (fun b5 => Z0 (sqt 1 rfl (pur 1 rfl (Z4 ?_)))))))
 refine Zc (ι := {k : Nat // k ≤ 7}) (fun k => ⟨[(0, .pointer (some ⟨d.bd, 0, none⟩)), (1, .slice a l.length c), (4, .pointer (some ⟨b4, 0, none⟩)), (5, .pointer (some ⟨b5, 0, none⟩)), (11, .int .i64 k.1)], (b5, cel 152 (Zm (w00 (msk l) k.1))) :: (b4, cel 152 [.int .i64 0, .int .i64 0, .int .i64 0, .int .i64 0, .int .i64 0, .int .i64 0, .int .i64 0]) :: H, R⟩) (fun k => 7 - k.1) ⟨0, Nat.zero_le _⟩ ?_ (fun k => ?_)
 exact Zh idH
 ·
  obtain ⟨k, hk⟩ := k
  dsimp only at hk ⊢
  refine sqt 1 rfl (pur 1 rfl (Z0 ?_))
  refine Z1 rfl ?_ ?_ <;> intro hc0 <;> try simp only [cS] at hc0
  refine Z2 (Z0 (Z4 (sqt 2 rfl (pur 2 rfl (sqt 3 rfl (pur 1 rfl (sp rfl (PE.indexArr Z4m rfl rfl (by omega) (by omega)) rfl ?_)))))))
  refine ZN (l' := Zm ((w00 (msk l) k).set k far)) rfl rfl rfl cn3 rfl rfl rfl (Z0O (v := far) (by rw [Z0L]; omega) (by show 0 + ((k : Nat) : Int).toNat * 1 = k; omega)) (by rw [Zb, Z0L]; show 0 + ((k : Nat) : Int).toNat * 1 + 1 ≤ 7; omega) ?_
  refine sqt 3 rfl (pur 2 rfl ?_)
  refine clV rfl Z3h rfl rfl (Zs l a c k hl _ _) ?_
  refine Z1 rfl ?_ ?_ <;> intro hc1
  have hb : (msk l).testBit k = true := (Zq (fun x h9 => (hx x h9).1) k).2 (hasI_iff.1 hc1)
  refine sqr 3 rfl (pur 1 rfl (sp rfl (PE.indexArr Z4m rfl rfl (by omega) (by omega)) rfl ?_))
  refine ZN (l' := Zm (w00 (msk l) (k + 1))) rfl rfl rfl cn3 rfl rfl rfl ((Z0O (k := k) (v := 0) (by rw [List.length_set, Z0L]; omega) (by show 0 + ((k : Nat) : Int).toNat * 1 = k; omega)).trans (by rw [Z66, ← Z7W (by omega), hb]; rfl)) (by rw [Zb, List.length_set, Z0L]; show 0 + ((k : Nat) : Int).toNat * 1 + 1 ≤ 7; omega) ?_
  refine sqr 2 rfl (sp rfl (PE.add rfl rfl (by omega)) rfl (pur 1 rfl ?_))
  exact Z7 ⟨k + 1, by omega⟩ idH
  have hb : (msk l).testBit k = false := by
    cases hb : (msk l).testBit k with
    | false => rfl
    | true => have := hasI_iff.2 ((Zq (fun x h9 => (hx x h9).1) k).1 hb); rw [show Z0r l k = false from hc1] at this; cases this
  refine Z2 (sqr 2 rfl (sp rfl (PE.add rfl rfl (by omega)) rfl (pur 1 rfl ?_)))
  exact Z7 ⟨k + 1, by omega⟩ (fun w h9 => by dsimp only; rw [← Z7W (by omega), hb]; exact h9)
  ·
   obtain rfl : k = 7 := by omega
   refine Z9 (Za (Za (Zl (Z4 ?_))))
   have hok := hd.ok
   have hbn := hok.bins
   have hw7 := hok.wth
   have hm7 : (msk l) < 2 ^ 7 := Z0k hx
   refine Z13 (ι := {y : List Int × List Nat // RchI d.h.gaps d.cl (msk l) y.1}) (fun y => ⟨[(0, .pointer (some ⟨d.bd, 0, none⟩)), (1, .slice a l.length c), (4, .pointer (some ⟨b4, 0, none⟩)), (5, .pointer (some ⟨b5, 0, none⟩))], mks y.1.2, (b5, cel 152 (Zm y.1.1)) :: (b4, cel 152 [.int .i64 0, .int .i64 0, .int .i64 0, .int .i64 0, .int .i64 0, .int .i64 0, .int .i64 0]) :: (mkh y.1.2 ++ H), R⟩) (fun y => Zew y.1.1) ⟨(w00 (msk l) 7, []), Zcr _ _ _⟩ ?_ (fun y => ?_)
   exact Z30 (by repeat' first | exact Sub.nil | apply Sub.cons | rfl | (simp [lk]; omega)) rfl idH
   ·
    obtain ⟨⟨w, mk⟩, hri⟩ := y
    dsimp only at hri ⊢
    refine Z4 (sqt 3 rfl (spL rfl rfl (lhI w Z8O rfl rfl (hri.len)) rfl (alc rfl Z6O rfl (fun b7 => ?_))))
    refine ZaO rfl rfl rfl Z75 rfl (by rw [Zb]; exact hri.len) rfl (Z0H _) ?_
    refine Z0 (sqt 6 rfl (pur 1 rfl (sp rfl (PE.nilCheck rfl) rfl (sp rfl (PE.fA Z0N rfl) rfl (sp rfl (PE.fA Z0I rfl) rfl (spL rfl rfl (lfB (sz := 4) sc3 rfl) rfl (pur 1 rfl (Z4 ?_))))))))
    refine Z13 (ι := {y : Nat × List Int × List Nat // y.1 ≤ d.h.bins.toNat ∧ RchI d.h.gaps d.cl (msk l) y.2.1 ∧ Rlx d.h.gaps d.cl w y.2.1 y.1 0}) (fun y => ⟨[(0, .pointer (some ⟨d.bd, 0, none⟩)), (1, .slice a l.length c), (4, .pointer (some ⟨b4, 0, none⟩)), (5, .pointer (some ⟨b5, 0, none⟩)), (7, .pointer (some ⟨b7, 0, none⟩)), (27, .int .i64 d.h.bins), (28, .int .i64 y.1.1)], mks y.1.2.2, (b7, cel 152 (Zm w)) :: (b5, cel 152 (Zm y.1.2.1)) :: (b4, cel 152 [.int .i64 0, .int .i64 0, .int .i64 0, .int .i64 0, .int .i64 0, .int .i64 0, .int .i64 0]) :: (mkh y.1.2.2 ++ H), R⟩) (fun y => d.h.bins.toNat - y.1.1) ⟨(0, w, mk), Nat.zero_le _, hri, Rlx.start _ _ _⟩ ?_ (fun y => ?_)
    exact Z30 (by repeat' first | exact Sub.nil | apply Sub.cons | rfl | (simp [lk]; omega)) rfl idH
    ·
     obtain ⟨⟨k, w', mk2⟩, hk, hri2, hrl⟩ := y
     dsimp only at hk hri2 hrl ⊢
     refine sqt 1 rfl (pur 1 rfl (Z0 ?_))
     refine Z1 rfl ?_ ?_ <;> intro hc2 <;> try simp only [cS] at hc2
     ·
      refine Z2 (Z0 (Z4 (sqt 3 rfl (pur 1 rfl (alc rfl zl3 rfl (fun b8 => ?_))))))
      refine sto rfl rfl rfl cn3 rfl rfl rfl rfl ?_
      refine sqt 3 rfl (pur 1 rfl (spL rfl rfl (lh sc3 rfl rfl) rfl ?_))
      refine cl rfl Z7a rfl rfl (ZbV d.bd k _ _) ?_
      rintro _ _ _ ⟨xd, xb, rfl, rfl, rfl⟩
      refine Z4 ?_
      refine Z49 rfl Z8H (fun c0 bl0 bd0 hcp0 hca0 hcb0 hck0 => ?_)
      refine ⟨fun st pend T R' => st = .ready ∧ pend = none ∧ ∃ w2, (RchI d.h.gaps d.cl (msk l) w2 ∧ Rlx d.h.gaps d.cl w w2 k d.h.gaps.length) ∧ T = (bd0, .deferred (some [])) :: (b8, cel 3 [.int .i64 ((k : Nat) : Int)]) :: (b7, cel 152 (Zm w)) :: (b5, cel 152 (Zm w2)) :: (b4, cel 152 [.int .i64 0, .int .i64 0, .int .i64 0, .int .i64 0, .int .i64 0, .int .i64 0, .int .i64 0]) :: (mkh mk2 ++ H) ∧ R' = RowsA (some ⟨xb, 0, none⟩) 1 [[.int .i64 ((k : Nat) : Int)]] :: RowsA (some ⟨xd, 0, none⟩) 1 [[.pointer (some ⟨d.bd, 0, none⟩)]] :: R,
        Fn.mono (Z76 d hd k ⟨by omega, by omega⟩ xd xb bl0 (fun i H' R' => ∃ w2, (RchI d.h.gaps d.cl (msk l) w2 ∧ Rlx d.h.gaps d.cl w w2 k i) ∧ H' = (bl0, lob c0 .ready none) :: (bd0, .deferred (some [])) :: (b8, cel 3 [.int .i64 ((k : Nat) : Int)]) :: (b7, cel 152 (Zm w)) :: (b5, cel 152 (Zm w2)) :: (b4, cel 152 [.int .i64 0, .int .i64 0, .int .i64 0, .int .i64 0, .int .i64 0, .int .i64 0, .int .i64 0]) :: (mkh mk2 ++ H) ∧ R' = RowsA (some ⟨xb, 0, none⟩) 1 [[.int .i64 ((k : Nat) : Int)]] :: RowsA (some ⟨xd, 0, none⟩) 1 [[.pointer (some ⟨d.bd, 0, none⟩)]] :: R) (fun _ _ => False)
          (fun i H' R' h9 => by obtain ⟨_, _, _, _, rfl⟩ := h9; exact ⟨List.mem_cons_of_mem _ (List.mem_cons_of_mem _ hD.mem), List.mem_cons_of_mem _ (List.mem_cons_of_mem _ hG.mem), by simp, by simp, fun g hg => List.mem_cons_of_mem _ (List.mem_cons_of_mem _ (sR.sub g hg))⟩)
          (fun i g H' R' hg hn h9 => by obtain ⟨w2, ⟨h1, h2⟩, rfl, rfl⟩ := h9; exact ⟨w2, ⟨h1, h2.skip hg (hn.imp id fun h3 => by have := hok.gaps g (List.mem_of_getElem? hg); omega)⟩, rfl, rfl⟩)
          (fun i g q oo H' R' hg hop hinc hI => ?_) _ _ ⟨w', ⟨hri2, hrl⟩, rfl, rfl⟩) (fun v H' R' h9 => ?_), ?_⟩
      rotate_left
      · rcases h9 with ⟨w2, h1, rfl, rfl⟩ | h9
        · exact ⟨.ready, none, _, by simp, .refl _, rfl, rfl, w2, h1, rfl, rfl⟩
        · exact h9.elim
      rotate_left
      obtain ⟨w2, ⟨h1, h2⟩, rfl, rfl⟩ := hI
      have hgo := hok.gaps g (List.mem_of_getElem? hg)
      obtain ⟨v, hv, hv7, hadj, huq, _⟩ := Z83 hg hop ⟨by omega, by omega, hgo.2.2⟩ hinc
      rw [hv]
      have hk7 : k < 7 := by omega
      have hrx := h1.relax hw7 hm7 hk7 hv7 hadj
      have hak := h1.at_ k hk7
      have hnn := Z5h d.h.gaps d.cl (msk l) k
      have hfar : far = 1048576 := rfl
      have hl7 := h1.len
      refine Z7E hcp0 hca0 hcb0 hck0 rfl rfl ?_
      refine sqr 1 rfl (pur 1 rfl ?_)
      refine Z17 ?_
      refine Z4 ?_
      refine Zf [0, 0, 2, 6, 0, 16, 48, 112, 240, 510, 1023, 2047] (tks 0 3 (.ld 3 (.ld 4 (.tk 5 (.ld 6 (.tk 7 (.big 8 (.big 9 (.tk 10 (.big 11 .done)))))))))) Zy (by kernel_rfl) ?_
      refine Zg 2 rfl (tk rfl (PE.indexArr Z4m rfl rfl (by omega) (by omega)) rfl (ld rfl rfl (lh sc3 rfl (Z0y (w := w2) (k := v) (by omega) (by show 0 + ((v : Nat) : Int).toNat * 1 = v; omega))) rfl (ld rfl rfl (lh sc3 rfl rfl) rfl (tk rfl (PE.indexArr Z4m rfl rfl (by omega) (by omega)) rfl (ld rfl rfl (lh sc3 rfl (Z0y (w := w2) (k := k) (by omega) (by show 0 + ((k : Nat) : Int).toNat * 1 = k; omega))) rfl (tk rfl (PE.add rfl rfl (by omega)) rfl ?_))))))
      refine bsl (out := [_]) rfl Z0l zl3 rfl rfl rfl rfl rfl rfl (fun b44 => ?_)
      refine bg (fun w hs => ⟨trivial, trivial, (lh sc3 rfl (Z0y (w := w2) (k := v) (by omega) (by show 0 + ((v : Nat) : Int).toNat * 1 = v; omega))) w hs, trivial⟩) ?_
      refine Sy.heap (fun w h9 => St.rows (sz := 1) (rows := [[.int .i64 (na w2 k + 1)]]) (rest := []) (h9.pull b44) (by simp)) ?_
      refine clV rfl ZcM rfl rfl (Z9K (na w2 v) (na w2 k + 1) (some ⟨b44, 0, none⟩) 1 _ _) ?_
      refine bgT (tk rfl (PE.indexArr Z4m rfl rfl (by omega) (by omega)) rfl ?_)
      refine ZN (l' := Zm (w2.set v (min (na w2 v) (na w2 k + 1)))) rfl rfl rfl cn3 rfl rfl rfl (Z0O (by omega) (by show 0 + ((v : Nat) : Int).toNat * 1 = v; omega)) (by rw [Zb, hl7]; show 0 + ((v : Nat) : Int).toNat * 1 + 1 ≤ 7; omega) ?_
      refine bgT ?_
      exact Z0o (.inl ⟨rfl, _, rfl, _, ⟨hrx.1, h2.step hg huq hrx.2.1 hk7 hrx.2.2⟩, rfl, rfl⟩) (fun _ h9 => h9.ftail)
      rintro _ _ _ _ ⟨rfl, rfl, w2, ⟨h1, h2⟩, rfl, rfl⟩
      refine Zc7 ?_
      refine sqr 2 rfl (sp rfl (PE.add rfl rfl (by omega)) rfl (pur 1 rfl ?_))
      exact Z1B ⟨(k + 1, w2, bd0 :: mk2), by dsimp only; omega, h1, h2.bin⟩ (by dsimp only; omega) (by repeat' first | exact Sub.nil | apply Sub.cons | rfl | (simp [lk]; omega)) rfl (fun w h9 => St.sub ((h9.del b8).perm (Zj [_] [_, _, _] _)))
     obtain rfl : k = d.h.bins.toNat := by omega
     refine Z9 (Za (Za (Zl (sqt 3 rfl (spL rfl rfl (lhI w' Z8O rfl rfl (hri2.len)) rfl (spL rfl rfl (lhI w Z8O rfl rfl (hri.len)) rfl (sp rfl (PE.eqlAgg w' w (Z1U 10000 152 true 7 ZdF) Zer rfl rfl hri2.len hri.len) rfl ?_)))))))
     refine Z1 rfl ?_ ?_ <;> intro hc3 <;> try simp only [cS] at hc3
     subst hc3
     have hdone := Rlx.done (n := d.h.bins.toNat) (fun g hg => by have := hok.gaps g hg; omega) hw7 hm7 hri hrl
     refine sqt 2 rfl (spL rfl rfl (lhI w' Z8O rfl rfl (hri2.len)) rfl ?_)
     refine ZaO rfl rfl rfl Z75 rfl (by rw [Zb]; exact hri2.len) rfl (Z0H _) ?_
     refine Z6 ?_
     exact Z0V mk2 (H := (b4, cel 152 (Zm w')) :: H) (fun w h9 => ((h9.del b7).del b5).perm (List.perm_middle (l₁ := mkh mk2)).symm) rfl (.cons (RV.cell rfl (lhI w' Z8O rfl rfl (hri2.len))) .nil) rfl ⟨by rw [← hdone]; rfl, rfl, rfl⟩ (fun w h9 => h9.del b4)
     refine Z2 ?_
     exact Z1B ⟨(w', mk2), hri2⟩ (Zcl hri hri2 hrl.1 hc3) (by repeat' first | exact Sub.nil | apply Sub.cons | rfl | (simp [lk]; omega)) rfl (fun w h9 => h9.del b7)
theorem Z2s : apT Tryz.prog 26 = some (3, 1, 8) := by kernel_rfl
theorem Z6g : cal Tryz.prog 107 = true := by kernel_rfl
theorem Z8G : cal Tryz.prog 108 = true := by kernel_rfl
theorem Za8 : cal Tryz.prog 109 = true := by kernel_rfl
theorem ZaH : cal Tryz.prog 124 = true := by kernel_rfl
theorem Zdt : cal Tryz.prog 156 = true := by kernel_rfl
theorem Zaa : cal Tryz.prog 157 = true := by kernel_rfl
theorem Z6p : cal Tryz.prog 37 = true := by kernel_rfl
theorem Z9J : cal Tryz.prog 85 = true := by kernel_rfl
theorem Z59 : cal Tryz.prog 90 = true := by kernel_rfl
theorem Zah : Z2t Tryz.prog 67 2 = some 2 := by kernel_rfl
theorem sc4 : Z2A Tryz.prog 4 = true := by kernel_rfl
theorem ub4 : Tryz.prog.underlying 4 = some .bool := by kernel_rfl
def clK (h : Hse) (ss : List Sgt) (but week : Int) (k : Nat) : List Int := ((List.range k).filter (Z4t h.gaps ss but week)).map fun (k : Nat) => (k : Int)
theorem Z98 (h : Hse) (ss : List Sgt) (but week : Int) (k : Nat) : clK h ss but week (k + 1) = clK h ss but week k ++ (bif Z4t h.gaps ss but week k then [(k : Int)] else []) := by
  unfold clK
  rw [List.range_succ, List.filter_append, List.map_append, List.filter_cons]
  cases Z4t h.gaps ss but week k <;> rfl
theorem Z8m (h : Hse) (ss : List Sgt) (but week : Int) (k : Nat) : (clK h ss but week k).length ≤ k := by
  unfold clK
  rw [List.length_map]
  exact Nat.le_trans (List.length_filter_le _ _) (by simp)
theorem Z8S (h : Hse) (ss : List Sgt) (but week : Int) : (h.clr ss but week).length ≤ h.bins.toNat := Z8m h ss but week _
theorem Zbq (k : Nat) : msk [(k : Int)] = 2 ^ k := by unfold msk; rw [List.foldl_cons, List.foldl_nil]; unfold bit; rw [Nat.zero_or, Int.toNat_natCast]
def wkR (w : List Int) : List Int := w.map fun n => bif decide (far ≤ n) then -1 else n
theorem Z6f {w : List Int} {k : Nat} (hk : k < w.length) : wkR (w.take (k + 1)) = wkR (w.take k) ++ [bif decide (far ≤ na w k) then -1 else na w k] := by
  unfold wkR
  rw [List.take_add_one, Z0s hk, List.map_append]; rfl
def Hse.weeksV (h : Hse) (l : List Int) : List Int := (wkR (wks h.gaps 0 (msk l))).take h.bins.toNat
def Hse.lsE (h : Hse) (l : List Int) : Int := bif decide (h.check ≠ 0) then h.check else Zz h.bins l
theorem ZS {n : Int} {l : List Int} (h : Zz n l = 0) : (∀ x ∈ l, 0 ≤ x ∧ x < n) ∧ l.Nodup := by
  unfold Zz at h
  cases h1 : l.all fun k => inB k 0 (n - 1) with
  | false => rw [h1] at h; cases h
  | true =>
    rw [h1] at h
    cases h2 : (List.range l.length).any (Z4y l) with
    | true => rw [h2] at h; cases h
    | false =>
      refine ⟨fun x hx => ?_, ?_⟩
      · have := List.all_eq_true.1 h1 x hx
        simp only [inB, Bool.and_eq_true, decide_eq_true_eq] at this; omega
      · rw [List.nodup_iff_pairwise_ne]
        rw [List.pairwise_iff_getElem]
        intro i j hi hj hij e
        have h3 := List.any_eq_false.1 h2 j (List.mem_range.2 hj)
        apply h3
        unfold Z4y
        rw [hasI_iff, Z4u (List.getElem?_eq_getElem hj), ← e]
        exact List.mem_of_getElem? (by rw [List.getElem?_take, if_pos hij, List.getElem?_eq_getElem hi])
theorem ZbI (gs : List Gp) (m bw : Nat) (x : Sgt) (hx : 0 ≤ x.bin ∧ x.bin < 7) (H : Z8) (R : Z5) [hM : Mem1 bw (cel 152 (Zm (wks gs 0 m))) H] :
    FnV Tryz.prog 156 [.agg (Z4S x).toArray, .pointer (some ⟨bw, 0, none⟩)] H R (.bool (exS gs m x)) := by
 refine Ze Tryz.func156 rfl Tryz.ntmps156 rfl ?_
 refine sqt 2 rfl (bx rfl rfl rfl (fun b2 => pur 1 rfl (Z0 ?_)))
 refine Zf [0, 1, 3, 7, 0, 16, 63, 0, 128, 511, 1023] (.tk 0 (.ld 1 (.tk 2 (.ld 3 (.tk 4 (.ld 5 (.tk 6 (.tk 7 (.ld 8 (.tk 9 (.tk 10 .done))))))))))) Zy (by kernel_rfl) ?_
 refine tk rfl (PE.fA Z7h rfl) rfl (ld rfl rfl (lh sc3 rfl rfl) rfl (tk rfl (PE.indexArr Z4m rfl rfl (by omega) (by omega)) rfl (ld rfl rfl (lh sc3 rfl (Z0y (w := wks gs 0 m) (k := x.bin.toNat) (by rw [ZR]; omega) (by show 0 + x.bin.toNat * 1 = x.bin.toNat; omega))) rfl (tk rfl (PE.fA Z82 rfl) rfl (ld rfl rfl (lh sc3 rfl rfl) rfl (Zg 1 rfl (tk rfl (PE.fA Zah rfl) rfl (ld rfl rfl (lh sc4 rfl rfl) rfl (tk rfl (PE.eqlBool ub4 rfl rfl) rfl (Zg 1 rfl (Z6 ?_)))))))))))
 exact rtA rfl rfl rfl ⟨by simp only [Z05]; unfold exS; rw [Z1M (by omega)], rfl, rfl⟩ drp
theorem Z2n (d : Dk) (hd : d.Ok) (hcl : d.cl = 0) (l : List Int) (a : Option Addr) (c : Nat) (hl : l.length ≤ 9223372036854775807) (hx : ∀ x ∈ l, 0 ≤ x ∧ x < 7) (ss : List Sgt) (ax : Option Addr) (cx : Nat) (hsl : ss.length ≤ 9223372036854775807) (hss : SOk d.h ss) (H : Z8) (R : Z5) [hD : MemRows (some ⟨d.bd, 0, none⟩) 4 [d.row] R] [hG : MemRows d.ag 2 (Zk d.h.gaps) R] [hS : MemRows d.as_ 3 (Zo d.h.sights) R] [sR : SubF d.R0 R] [hR : MemRows a 1 (Z3 l) R] [hQ : MemRows ax 3 (Zo ss) R] :
    FnV Tryz.prog 108 [.pointer (some ⟨d.bd, 0, none⟩), .slice a l.length c, .slice ax ss.length cx] H R (.bool (Z3L d.h.gaps (msk l) ss)) := by
 refine Ze Tryz.func108 rfl Tryz.ntmps108 rfl ?_
 refine sqt 1 rfl (pur 1 rfl (sqt 5 rfl (pur 2 rfl ?_)))
 refine clV rfl Z6g rfl rfl (Z43 d hd l a c hl hx _ _) ?_
 rw [hcl]
 refine alc rfl Z6O rfl (fun b7 => ?_)
 refine ZaO rfl rfl rfl Z75 rfl (by rw [Zb, ZR]) rfl (Z0H _) ?_
 refine sqt 4 rfl (pur 1 rfl (sp rfl (PE.makeFunc rfl rfl) rfl ?_))
 refine clV rfl Z4A rfl rfl (Z0w ss ax cx 156 [] [_] (exS d.h.gaps (msk l)) Zdt hsl _ _ (fun _ _ x hx9 => ZbI d.h.gaps (msk l) b7 x (by have := (hss x hx9).2; have := hd.ok.bins; omega) _ _)) ?_
 refine pur 1 rfl (Z6 ?_)
 exact rtA rfl rfl rfl ⟨rfl, rfl, rfl⟩ drp
theorem Zan (gs : List Gp) (k bw : Nat) (x : Sgt) (hx : 0 ≤ x.bin ∧ x.bin < 7) (H : Z8) (R : Z5) [hM : Mem1 bw (cel 152 (Zm (wks gs 0 (2 ^ k)))) H] :
    FnV Tryz.prog 157 [.agg (Z4S x).toArray, .pointer (some ⟨bw, 0, none⟩)] H R (.bool (x.seen || decide (x.week < wk gs 0 (2 ^ k) x.bin.toNat))) := by
 refine Ze Tryz.func157 rfl Tryz.ntmps157 rfl ?_
 refine sqt 2 rfl (bx rfl rfl rfl (fun b2 => pur 1 rfl (Z0 ?_)))
 refine Zf [0, 1, 3, 7, 15, 31, 63, 7, 135, 511, 1023, 2047] (.tk 0 (.ld 1 (.tk 2 (.tk 3 (.ld 4 (.tk 5 (.ld 6 (.tk 7 (.ld 8 (tks 9 3 .done)))))))))) Zy (by kernel_rfl) ?_
 refine tk rfl (PE.fA Zah rfl) rfl (ld rfl rfl (lh sc4 rfl rfl) rfl (Zg 1 rfl ?_))
 refine Zv 6 rfl ?_ ?_ <;> intro g6
 refine Zg 1 rfl ?_
 refine ldN rfl rfl rfl rfl rfl rfl rfl rfl ?_
 refine Zg 1 rfl ?_
 refine ldN rfl rfl rfl rfl rfl rfl rfl rfl ?_
 refine Zg 1 rfl ?_
 refine ldN rfl rfl rfl rfl rfl rfl rfl rfl ?_
 refine Zg 3 rfl (Z6 ?_)
 exact rtA rfl rfl rfl ⟨by first | (simp only [Z05]; rw [g6]; rfl) | (simp only [Z05]; rw [g6, ← Z1M (k := x.bin.toNat) (by omega)]; rfl), rfl, rfl⟩ drp
 refine tkG rfl rfl rfl rfl (PE.fA Z7h rfl) rfl ?_
 refine ldG rfl rfl rfl rfl rfl (lh sc3 rfl rfl) rfl ?_
 refine tkG rfl rfl rfl rfl (PE.indexArr Z4m rfl rfl (by omega) (by omega)) rfl ?_
 refine ldG rfl rfl rfl rfl rfl (lh sc3 rfl (Z0y (w := wks gs 0 (2 ^ k)) (k := x.bin.toNat) (by rw [ZR]; omega) (by show 0 + x.bin.toNat * 1 = x.bin.toNat; omega))) rfl ?_
 refine tkG rfl rfl rfl rfl (PE.fA Z82 rfl) rfl ?_
 refine ldG rfl rfl rfl rfl rfl (lh sc3 rfl rfl) rfl (Zg 3 rfl (Z6 ?_))
 exact rtA rfl rfl rfl ⟨by first | (simp only [Z05]; rw [g6]; rfl) | (simp only [Z05]; rw [g6, ← Z1M (k := x.bin.toNat) (by omega)]; rfl), rfl, rfl⟩ drp
set_option maxHeartbeats 1000000 in
theorem Z8Q (d : Dk) (hd : d.Ok) (hcl : d.cl = 0) (ss : List Sgt) (ax : Option Addr) (cx : Nat) (hsl : ss.length ≤ 9223372036854775807) (hss : SOk d.h ss) (but week : Int) (hbut : but < 7 ∧ -1 ≤ but) (H : Z8) (R : Z5) [hD : MemRows (some ⟨d.bd, 0, none⟩) 4 [d.row] R] [hG : MemRows d.ag 2 (Zk d.h.gaps) R] [hS : MemRows d.as_ 3 (Zo d.h.sights) R] [sR : SubF d.R0 R] [hQ : MemRows ax 3 (Zo ss) R] :
    Fn Tryz.prog 109 [.pointer (some ⟨d.bd, 0, none⟩), .slice ax ss.length cx, .int .i64 but, .int .i64 week] H R (fun v H' R' => ∃ (a : Option Addr) (c : Nat), v = .slice a (d.h.clr ss but week).length c ∧ H' = H ∧ R' = RowsA a 1 (Z3 (d.h.clr ss but week)) :: R) := by
 refine Ze Tryz.func109 rfl Tryz.ntmps109 rfl ?_
 refine sqt 1 rfl (pur 1 rfl (sqt 1 rfl (pur 1 rfl (Z0 (sqt 6 rfl (pur 1 rfl (sp rfl (PE.nilCheck rfl) rfl (sp rfl (PE.fA Z0N rfl) rfl (sp rfl (PE.fA Z0I rfl) rfl (spL rfl rfl (lfB (sz := 4) sc3 rfl) rfl (pur 1 rfl (Z4 ?_))))))))))))
 have hok := hd.ok
 have hbn := hok.bins
 refine Zc (ι := (k : {k : Nat // k ≤ d.h.bins.toNat}) × OSl 3 1 (Z3 (clK d.h ss but week k.1))) (fun y => ⟨[(0, .pointer (some ⟨d.bd, 0, none⟩)), (1, .slice ax ss.length cx), (2, .int .i64 but), (3, .int .i64 week), (16, .int .i64 d.h.bins), (9, y.2.fs), (17, .int .i64 y.1.1)], y.2.G ++ H, R⟩) (fun y => d.h.bins.toNat - y.1.1) ⟨⟨0, Nat.zero_le _⟩, OSl.nil _ _⟩ ?_ (fun y => ?_)
 exact Zh idH
 obtain ⟨⟨k, hk⟩, o⟩ := y
 dsimp only at hk o ⊢
 have hcs := Z98 d.h ss but week k
 have hcn := Z8m d.h ss but week k
 refine sqt 1 rfl (pur 1 rfl (Z0 ?_))
 refine Z1 rfl ?_ ?_ <;> intro hc0 <;> try simp only [cS] at hc0
 have hk7 : k < 7 := by omega
 refine Z2 (Z0 (Z4 (sqt 2 rfl (pur 2 rfl (sqt 6 rfl (pur 2 rfl ?_))))))
 refine bsl (out := [_]) rfl Z0l zl3 rfl rfl rfl rfl rfl rfl (fun b22 => ?_)
 refine Sy.heap (fun w h9 => St.rows (sz := 1) (rows := Z3 [((k : Nat) : Int)]) (rest := []) (h9.pull b22) (by simp)) ?_
 refine clV rfl Z6g rfl rfl (Z43 d hd [(k : Int)] (some ⟨b22, 0, none⟩) 1 (by simp) (by simp; omega) _ _) ?_
 rw [hcl, Zbq]
 refine alc rfl Z6O rfl (fun b11 => ?_)
 refine ZaO rfl rfl rfl Z75 rfl (by rw [Zb, ZR]) rfl (Z0H _) ?_
 refine Z0 (sqt 9 rfl (pur 3 rfl ?_))
 refine Zv 26 rfl ?_ ?_ <;> intro g26
 try simp only [cS] at g26
 refine pur 1 rfl ?_
 refine spG rfl rfl rfl rfl (PE.indexArr Z4m rfl rfl (by omega) (by omega)) rfl ?_
 refine Z2T rfl rfl rfl rfl rfl (lh sc3 rfl (Z0y (w := wks d.h.gaps 0 (2 ^ k)) (k := but.toNat) (by rw [ZR]; omega) (by show 0 + but.toNat * 1 = but.toNat; omega))) rfl (pur 3 rfl ?_)
 refine Z1 rfl ?_ ?_ <;> intro hc1 <;> try simp only [cS] at hc1
 rw [Z1M (by omega)] at hc1
 have hb1 : Z4t d.h.gaps ss but week k = false := by unfold Z4t; rw [decide_eq_true g26, dT hc1]; rfl
 rw [hb1, cond_false, List.append_nil] at hcs
 refine Z9 (Za (Zl (sqr 2 rfl (sp rfl (PE.add rfl rfl (by omega)) rfl (pur 1 rfl ?_)))))
 exact Z7 ⟨⟨k + 1, by omega⟩, o.cast (by rw [hcs])⟩ (fun w h9 => (h9.del b11).ftail)
 rw [Z1M (by omega)] at hc1
 have hb0 : Z4t d.h.gaps ss but week k = Z6G d.h.gaps ss k := by unfold Z4t; rw [decide_eq_true g26, dF (by omega)]; rfl
 refine Z2 (sqt 3 rfl (pur 1 rfl (sp rfl (PE.makeFunc rfl rfl) rfl ?_)))
 refine clV rfl Z4A rfl rfl (Z0w ss ax cx 157 [] [_] (fun s => s.seen || decide (s.week < wk d.h.gaps 0 (2 ^ k) s.bin.toNat)) Zaa hsl _ _ (fun _ _ x hx9 => Zan d.h.gaps k b11 x (by have := (hss x hx9).2; omega) _ _)) ?_
 refine Z1 rfl ?_ ?_ <;> intro hc2
 have hb2 : Z4t d.h.gaps ss but week k = true := hb0.trans hc2
 rw [hb2, cond_true] at hcs
 refine sqr 5 rfl (pur 2 rfl ?_)
 refine bsl (out := [_]) rfl Z0l zl3 rfl rfl rfl rfl rfl rfl (fun b38 => ?_)
 refine apO (o) rfl Z2s rfl rfl (Z0C (row := [.int .i64 k]) rfl) rfl rfl ((by rw [Z0h]; simp only [List.length_singleton]; omega)) rfl (fun o39 => ?_)
 refine pur 1 rfl (sqr 2 rfl (sp rfl (PE.add rfl rfl (by omega)) rfl (pur 1 rfl ?_)))
 exact Z7 ⟨⟨k + 1, by omega⟩, o39.cast (by rw [hcs]; simp [Z3])⟩ (fun w h9 => ((h9.del b38).del b11).ftail)
 have hb2 : Z4t d.h.gaps ss but week k = false := hb0.trans hc2
 rw [hb2, cond_false, List.append_nil] at hcs
 refine Z2 (sqr 2 rfl (sp rfl (PE.add rfl rfl (by omega)) rfl (pur 1 rfl ?_)))
 exact Z7 ⟨⟨k + 1, by omega⟩, o.cast (by rw [hcs])⟩ (fun w h9 => (h9.del b11).ftail)
 try simp only [cS] at g26
 have hb0 : Z4t d.h.gaps ss but week k = Z6G d.h.gaps ss k := by unfold Z4t; rw [dF (by omega)]; rfl
 refine pur 6 rfl ?_
 refine ZA rfl ?_
 refine Z2 (sqt 3 rfl (pur 1 rfl (sp rfl (PE.makeFunc rfl rfl) rfl ?_)))
 refine clV rfl Z4A rfl rfl (Z0w ss ax cx 157 [] [_] (fun s => s.seen || decide (s.week < wk d.h.gaps 0 (2 ^ k) s.bin.toNat)) Zaa hsl _ _ (fun _ _ x hx9 => Zan d.h.gaps k b11 x (by have := (hss x hx9).2; omega) _ _)) ?_
 refine Z1 rfl ?_ ?_ <;> intro hc2
 have hb2 : Z4t d.h.gaps ss but week k = true := hb0.trans hc2
 rw [hb2, cond_true] at hcs
 refine sqr 5 rfl (pur 2 rfl ?_)
 refine bsl (out := [_]) rfl Z0l zl3 rfl rfl rfl rfl rfl rfl (fun b38 => ?_)
 refine apO (o) rfl Z2s rfl rfl (Z0C (row := [.int .i64 k]) rfl) rfl rfl ((by rw [Z0h]; simp only [List.length_singleton]; omega)) rfl (fun o39 => ?_)
 refine pur 1 rfl (sqr 2 rfl (sp rfl (PE.add rfl rfl (by omega)) rfl (pur 1 rfl ?_)))
 exact Z7 ⟨⟨k + 1, by omega⟩, o39.cast (by rw [hcs]; simp [Z3])⟩ (fun w h9 => ((h9.del b38).del b11).ftail)
 have hb2 : Z4t d.h.gaps ss but week k = false := hb0.trans hc2
 rw [hb2, cond_false, List.append_nil] at hcs
 refine Z2 (sqr 2 rfl (sp rfl (PE.add rfl rfl (by omega)) rfl (pur 1 rfl ?_)))
 exact Z7 ⟨⟨k + 1, by omega⟩, o.cast (by rw [hcs])⟩ (fun w h9 => (h9.del b11).ftail)
 obtain rfl : k = d.h.bins.toNat := by omega
 obtain ⟨ac, cc, he, hf⟩ := o.freeze
 rw [he, Z0h]
 refine Sy.heap (fun w h9 => hf h9) ?_
 refine Z9 (Za (Za (Zl (sqt 2 rfl (pur 2 rfl (Z6 ?_))))))
 exact rtA rfl rfl rfl ⟨ac, cc, rfl, rfl, rfl⟩ idH
theorem Z7c (d : Dk) (hd : d.Ok) (hcl : d.cl = 0) (ss : List Sgt) (ax : Option Addr) (cx : Nat) (hsl : ss.length ≤ 9223372036854775807) (hss : SOk d.h ss) (H : Z8) (R : Z5) [hD : MemRows (some ⟨d.bd, 0, none⟩) 4 [d.row] R] [hG : MemRows d.ag 2 (Zk d.h.gaps) R] [hS : MemRows d.as_ 3 (Zo d.h.sights) R] [sR : SubF d.R0 R] [hQ : MemRows ax 3 (Zo ss) R] :
    FnV Tryz.prog 124 [.pointer (some ⟨d.bd, 0, none⟩), .slice ax ss.length cx] H R (.bool (d.h.agr ss)) := by
 refine Ze Tryz.func124 rfl Tryz.ntmps124 rfl ?_
 refine sqt 1 rfl (pur 1 rfl (sqt 7 rfl (pur 3 rfl ?_)))
 refine cl rfl Za8 rfl rfl (Z8Q d hd hcl ss ax cx hsl hss (-1) 0 (by decide) _ _) ?_
 rintro _ _ _ ⟨ac, cc, rfl, rfl, rfl⟩
 refine pur 1 rfl ?_
 refine clV rfl Z8G rfl rfl (Z2n d hd hcl (d.h.clr ss (-1) 0) ac cc (by have := Z8S d.h ss (-1) 0; have := hd.ok.bins; omega) (fun x hx => by have := Z5z x hx; have := hd.ok.bins; omega) ss ax cx hsl hss _ _) ?_
 refine pur 1 rfl (Z6 ?_)
 exact rtA rfl rfl rfl ⟨rfl, rfl, rfl⟩ (fun w h9 => h9.ftail)
theorem Z5W (h : Hse) (ag as_ : Option Addr) (cg cs : Nat) (hlg : h.gaps.length ≤ 9223372036854775807) (hls : h.sights.length ≤ 9223372036854775807) (H : Z8) (R : Z5) [hG : MemRows ag 2 (Zk h.gaps) R] [hS : MemRows as_ 3 (Zo h.sights) R] :
    Fn Tryz.prog 114 [h.v (h.sg ag cg) (h.ss as_ cs)] H R (fun v H' R' => H' = H ∧ ((h.check ≠ 0 ∧ v = .tuple #[.pointer none, .int .i64 h.check] ∧ R' = R) ∨ (h.check = 0 ∧ h.agr h.sights = false ∧ v = .tuple #[.pointer none, .int .i64 7] ∧ R' = R) ∨ (h.check = 0 ∧ h.agr h.sights = true ∧ ∃ bd, v = .tuple #[.pointer (some ⟨bd, 0, none⟩), .int .i64 0] ∧ R' = RowsA (some ⟨bd, 0, none⟩) 4 [(dkA h ag as_ cg cs bd).row] :: R))) := by
 refine Ze Tryz.func114 rfl Tryz.ntmps114 rfl ?_
 refine sqt 3 rfl (bx rfl rfl rfl (fun b1 => pur 2 rfl (Z0 (sqt 3 rfl (spL rfl rfl (lhA (htl h (h.sg ag cg) (h.ss as_ cs)) Z06 rfl rfl rfl) rfl ?_)))))
 refine clV rfl Z6p rfl rfl (Z2l h ag as_ cg cs hlg hls _ _) ?_
 refine pur 1 rfl (sqt 2 rfl (pur 2 rfl ?_))
 refine Z1 rfl ?_ ?_ <;> intro hc0
 have hck : h.check ≠ 0 := of_decide_eq_true hc0
 refine sqt 3 rfl (pur 3 rfl (Z6 ?_))
 exact rtB rfl rfl rfl rfl ⟨rfl, .inl ⟨hck, rfl, rfl⟩⟩ drp
 have hck : h.check = 0 := Classical.byContradiction fun e => by rw [decide_eq_true e] at hc0; cases hc0
 have hok := hse_ok.1 hck
 refine Z2 (sqt 3 rfl (spL rfl rfl (lhA (htl h (h.sg ag cg) (h.ss as_ cs)) Z06 rfl rfl rfl) rfl ?_))
 refine cl rfl Z59 rfl rfl (Z5j h ag as_ cg cs _ _) ?_
 rintro _ _ _ ⟨bd, rfl, rfl, rfl⟩
 refine pur 1 rfl (Z0 (sqt 5 rfl (pur 1 rfl (sp rfl (PE.fA Z1Y rfl) rfl (spL rfl rfl (lh Z8X rfl rfl) rfl ?_)))))
 refine clV rfl ZaH rfl rfl (Z7c (dkA h ag as_ cg cs bd) (Z0J h ag as_ cg cs hok bd) rfl h.sights as_ cs hls hok.sights _ _) ?_
 refine pur 1 rfl ?_
 refine Z1 rfl ?_ ?_ <;> intro hc1 <;> try simp only [cS] at hc1
 refine sqt 2 rfl (pur 2 rfl (Z6 ?_))
 exact rtB rfl rfl rfl rfl ⟨rfl, .inr (.inl ⟨hck, hc1, rfl, rfl⟩)⟩ drp
 have hc9 : (!h.agr h.sights) = false := hc1
 have hc1 : h.agr h.sights = true := by simpa using hc9
 refine Z2 (sqt 3 rfl (pur 3 rfl (Z6 ?_)))
 exact rtB rfl rfl rfl rfl ⟨rfl, .inr (.inr ⟨hck, hc1, bd, rfl, rfl⟩)⟩ drp
theorem ZfT : apT Tryz.prog 23 = some (67, 3, 24) := by kernel_rfl
theorem ZaM : cal Tryz.prog 114 = true := by kernel_rfl
theorem Zak : cal Tryz.prog 115 = true := by kernel_rfl
theorem Zdv : cal Tryz.prog 116 = true := by kernel_rfl
theorem Z8x : cal Tryz.prog 119 = true := by kernel_rfl
theorem ZcG : cal Tryz.prog 123 = true := by kernel_rfl
theorem Z8J : cal Tryz.prog 158 = true := by kernel_rfl
theorem Z9i : Z0Z Tryz.prog 117 = some 1 := by kernel_rfl
theorem ZaF : Z0Z Tryz.prog 26 = some 1 := by kernel_rfl
theorem ZfQ : Z0Z Tryz.prog 98 = some 1 := by kernel_rfl
theorem Zdg : Z2A Tryz.prog 145 = true := by kernel_rfl
theorem Z0P : Z2A Tryz.prog 26 = true := by kernel_rfl
theorem Zaj : Z2A Tryz.prog 98 = true := by kernel_rfl
theorem ZeK : slE Tryz.prog 23 = some (67, 3) := by kernel_rfl
theorem Za0 : ZQ Tryz.prog 117 = some ([.pointer none]) := by kernel_rfl
theorem Z6m : ZQ Tryz.prog 26 = some ([.slice none 0 0]) := by kernel_rfl
theorem ZdH : ZQ Tryz.prog 67 = some ([.int .i64 0, .int .i64 0, .bool false]) := by kernel_rfl
theorem ZfV : ZQ Tryz.prog 98 = some ([.nilFunc]) := by kernel_rfl
theorem Z9k {a : Option Addr} {sz : Nat} {rows : List (List Value)} {w : World} (h : RowsA a sz rows w) (ha : a.isNone = true) : rows = [] := by
  false_or_by_contra
  rename_i h0
  obtain ⟨b, off, e⟩ := Z32 h h0
  rw [e] at ha; cases ha
theorem St.norows {sz : Nat} {H : Z8} {R : Z5} {w : World} (h : St H R w) : St H (RowsA none sz [] :: R) w := St.also h (fun _ _ i row hi => by simp at hi)
theorem Z5M {ag : List Int → Bool} {n r fr i : Nat} {l x : List Int} (h1 : ∀ j, fr ≤ j → j < i → ZI ag n r (l ++ [(j : Int)]) (j + 1) = none) (hi : fr ≤ i ∧ i < n) (h : ZI ag n r (l ++ [(i : Int)]) (i + 1) = some x) : ZI ag n (r + 1) l fr = some x := by
  unfold ZI
  obtain ⟨d, rfl⟩ : ∃ d, i = fr + d := ⟨i - fr, by omega⟩
  have key : ∀ (m fr : Nat) (d : Nat), d < m → (∀ j, fr ≤ j → j < fr + d → ZI ag n r (l ++ [(j : Int)]) (j + 1) = none) → ZI ag n r (l ++ [((fr + d : Nat) : Int)]) (fr + d + 1) = some x → (List.range' fr m).findSome? (fun (i : Nat) => ZI ag n r (l ++ [((i : Nat) : Int)]) (i + 1)) = some x := by
    intro m
    induction m with
    | zero => intro fr d hd; omega
    | succ m ih =>
      intro fr d hd hn hs
      rw [List.range'_succ, List.findSome?_cons]
      cases d with
      | zero => rw [show ZI ag n r (l ++ [((fr : Nat) : Int)]) (fr + 1) = some x from hs]
      | succ d =>
        rw [hn fr (Nat.le_refl _) (by omega)]
        exact ih (fr + 1) d (by omega) (fun j h1 h2 => hn j (by omega) (by omega)) (by rw [show fr + 1 + d = fr + (d + 1) from by omega]; exact hs)
  exact key (n - fr) fr d (by omega) h1 h
theorem Z8U {ag : List Int → Bool} {n r fr : Nat} {l : List Int} (h1 : ∀ j, fr ≤ j → j < n → ZI ag n r (l ++ [(j : Int)]) (j + 1) = none) : ZI ag n (r + 1) l fr = none := by
  unfold ZI
  rw [List.findSome?_eq_none_iff]
  intro i hi
  rw [List.mem_range'_1] at hi
  exact h1 i hi.1 (by omega)
theorem Z6e {has : List Int → Bool} {n : Nat} (h : ∀ k, k ≤ n → ZI (fun l => !has l) n k [] 0 = none) : Z2y has n = none := by
  unfold Z2y
  rw [List.findSome?_eq_none_iff]
  intro i hi
  rw [List.mem_range'_1] at hi
  exact h i (by omega)
theorem Za3 {has : List Int → Bool} {n k : Nat} {x : List Int} (h1 : ∀ j, j < k → ZI (fun l => !has l) n j [] 0 = none) (hk : k ≤ n) (h : ZI (fun l => !has l) n k [] 0 = some x) : Z2y has n = some x := by
  have key : ∀ (m fr : Nat) (d : Nat), d < m → (∀ j, fr ≤ j → j < fr + d → ZI (fun l => !has l) n j [] 0 = none) → ZI (fun l => !has l) n (fr + d) [] 0 = some x → (List.range' fr m).findSome? (fun k => ZI (fun l => !has l) n k [] 0) = some x := by
    intro m
    induction m with
    | zero => intro fr d hd; omega
    | succ m ih =>
      intro fr d hd hn hs
      rw [List.range'_succ, List.findSome?_cons]
      cases d with
      | zero => rw [show ZI (fun l => !has l) n fr [] 0 = some x from hs]
      | succ d =>
        rw [hn fr (Nat.le_refl _) (by omega)]
        exact ih (fr + 1) d (by omega) (fun j h1 h2 => hn j (by omega) (by omega)) (by rw [show fr + 1 + d = fr + (d + 1) from by omega]; exact hs)
  exact key (n + 1) 0 k (by omega) (fun j _ h2 => h1 j (by omega)) (by rw [Nat.zero_add]; exact h)
instance (priority := low) MemF.ofRows (a : Option Addr) (sz : Nat) (rows : List (List Value)) (R : Z5) [m : MemRows a sz rows R] : MemF (RowsA a sz rows) R := ⟨m.mem⟩
def ClQ (c8 : Nat) (H : Z8) (R : Z5) : Option (List Int) → Value → Z8 → Z5 → Prop
  | none, v, H', R' => v = .bool false ∧ ∃ ov, H' = (c8, cel 26 [ov]) :: H ∧ R' = R
  | some x, v, H', R' => v = .bool true ∧ ∃ a c, x.length ≤ c ∧ H' = (c8, cel 26 [.slice a x.length c]) :: H ∧ R' = RowsA a 1 (Z3 x) :: R
theorem ClQ.bool {c8 : Nat} {H H' : Z8} {R R' : Z5} {o : Option (List Int)} {v : Value} (h : ClQ c8 H R o v H' R') : ∃ b, v = .bool b := by
  cases o with
  | none => exact ⟨_, h.1⟩
  | some x => exact ⟨_, h.1⟩
def ZcP (g : Nat) (cap : List Value) (has : List Int → Bool) (n : Nat) (R0 : Z5) : Prop := cal Tryz.prog g = true ∧ ∀ (l : List Int) (a : Option Addr) (c : Nat) (H : Z8) (R : Z5), (∀ f ∈ R0, f ∈ R) → RowsA a 1 (Z3 l) ∈ R → (∀ x ∈ l, 0 ≤ x ∧ x < n) → l.length ≤ n → FnV Tryz.prog g ([] ++ [.slice a l.length c] ++ cap) H R (.bool (has l))
def Hse.orgR (h : Hse) : List Int × Int := bif decide (h.check ≠ 0) then ([], h.check) else bif !h.agr h.sights then ([], 7) else ((Z2y (fun l => Z3L h.gaps (msk l) h.sights) h.bins.toNat).getD [], 0)
def Z07 (p : Nat → Bool) (k : Nat) : List Int := ((List.range k).filter p).map fun (k : Nat) => (k : Int)
theorem Z3q (p : Nat → Bool) (k : Nat) : Z07 p (k + 1) = Z07 p k ++ (bif p k then [(k : Int)] else []) := by
  unfold Z07
  rw [List.range_succ, List.filter_append, List.map_append, List.filter_cons]
  cases p k <;> rfl
theorem ZY (p : Nat → Bool) (k : Nat) : (Z07 p k).length ≤ k := by
  unfold Z07
  rw [List.length_map]
  exact Nat.le_trans (List.length_filter_le _ _) (by simp)
theorem Z8y {p : Nat → Bool} {k : Nat} (h : p k = true) : Z07 p (k + 1) = Z07 p k ++ [(k : Int)] := by rw [Z3q, h]; rfl
theorem Z3S {p : Nat → Bool} {k : Nat} (h : p k = false) : Z07 p (k + 1) = Z07 p k := by rw [Z3q, h]; exact List.append_nil _
def Hse.surB (h : Hse) (week : Int) (k : Nat) : Bool := !Z3L h.gaps (msk (h.clr h.sights k week)) h.sights
def Hse.wkE (h : Hse) (week : Int) : Int := bif decide (h.check ≠ 0) then h.check else bif !inB week 0 9 then 3 else bif !h.agr h.sights then 7 else 0
def Hse.surR (h : Hse) (week : Int) : List Int × Int := (bif decide (h.wkE week = 0) then Z07 (h.surB week) h.bins.toNat else [], h.wkE week)
theorem ZdC {h : Hse} {week : Int} (hk : h.check ≠ 0) : h.wkE week = h.check := by unfold Hse.wkE; rw [decide_eq_true hk]; rfl
theorem Zdk {h : Hse} {week : Int} (hk : h.check = 0) (hi : (!inB week 0 9) = true) : h.wkE week = 3 := by unfold Hse.wkE; rw [decide_eq_false (fun e => e hk), hi]; rfl
theorem Zev {h : Hse} {week : Int} (hk : h.check = 0) (hi : (!inB week 0 9) = false) (ha : h.agr h.sights = false) : h.wkE week = 7 := by unfold Hse.wkE; rw [decide_eq_false (fun e => e hk), hi, ha]; rfl
theorem Ze6 {h : Hse} {week : Int} (hk : h.check = 0) (hi : (!inB week 0 9) = false) (ha : h.agr h.sights = true) : h.wkE week = 0 := by unfold Hse.wkE; rw [decide_eq_false (fun e => e hk), hi, ha]; rfl
theorem Z5t {h : Hse} {week e : Int} (h1 : h.wkE week = e) (h2 : e ≠ 0) : h.surR week = ([], e) := by unfold Hse.surR; rw [h1, decide_eq_false h2]; rfl
theorem Zc1 {h : Hse} {week : Int} (h1 : h.wkE week = 0) : h.surR week = (Z07 (h.surB week) h.bins.toNat, 0) := by unfold Hse.surR; rw [h1]; rfl
theorem Z7Z {ss : List Sgt} {l : List Int} {k : Nat} {i : Int} {s : Sgt} (hi : l[k]? = some i) (hs : ss[i.toNat]? = some s) : Z0U ss (l.take (k + 1)) = Z0U ss (l.take k) ++ [s] := by
  unfold Z0U
  rw [List.take_add_one, hi, List.filterMap_append, Option.toList_some, List.filterMap_cons, hs]; rfl
theorem Z61 (ss : List Sgt) (l : List Int) : (Z0U ss l).length ≤ l.length := List.length_filterMap_le _ _
theorem Zbm {h : Hse} {ss : List Sgt} (hs : SOk h ss) (l : List Int) : SOk h (Z0U ss l) := fun s h1 => by
  obtain ⟨i, _, h2⟩ := List.mem_filterMap.1 h1
  exact hs s (List.mem_of_getElem? h2)
def Hse.claR (h : Hse) : List Int × Int := bif decide (h.check ≠ 0) then ([], h.check) else match h.claS with | some x => (x, 0) | none => ([], 6)
theorem Z1R (xs : List Int) (a : Option Addr) (c : Nat) (hl : xs.length ≤ 1000000) (H : Z8) (R : Z5) [hR : MemRows a 1 (Z3 xs) R] :
    Fn Tryz.prog 119 [.slice a xs.length c] H R (fun v H' R' => ∃ o : OSl 3 1 (Z3 xs), v = o.fs ∧ H' = o.G ++ H ∧ R' = R ∧ (a.isSome = true → o.here)) := by
 refine Ze Tryz.func119 rfl Tryz.ntmps119 rfl ?_
 refine sqt 1 rfl (pur 1 rfl (Z0 (sqt 2 rfl (pur 1 rfl (sp rfl (PE.eqlNil Zw rfl rfl) rfl ?_)))))
 refine Z1 rfl ?_ ?_ <;> intro hc0
 refine Sy.pre (fun w h => Z9k (h.now hR.mem) hc0) (fun hnil => ?_)
 obtain rfl : xs = [] := by simpa [Z3] using hnil
 refine sqt 1 rfl (pur 1 rfl (Z6 ?_))
 first
   | exact rtA rfl rfl rfl ⟨o2.cast (by simp), rfl, rfl, rfl, fun _ => ho2⟩ idH
   | exact rtA rfl rfl rfl ⟨OSl.nil _ _, rfl, rfl, rfl, fun h => by cases a <;> simp_all⟩ idH
 refine Z2 (sqt 4 rfl ?_)
 refine ZeX rfl Z0l rfl (fun o5 ho5 => ?_)
 refine pur 1 rfl ?_
 refine ZfD (news := Z3 xs) o5 rfl Z2s rfl rfl (Z6B) (by simp [Z3]) (by simp [ZZ, Z3, Value.oneCell']) ⟨by simp [Z3]; omega, by simp [Z3]; omega⟩ rfl ho5 (fun o2 ho2 => ?_)
 refine pur 1 rfl (Z6 ?_)
 first
   | exact rtA rfl rfl rfl ⟨o2.cast (by simp), rfl, rfl, rfl, fun _ => ho2⟩ idH
   | exact rtA rfl rfl rfl ⟨OSl.nil _ _, rfl, rfl, rfl, fun h => by cases a <;> simp_all⟩ idH
def ShC (g : Nat) (cap : List Value) (has : List Int → Bool) (n : Nat) (R0 : Z5) (many bm bo bk bn bf r : Nat) : Prop := ∀ (l : List Int) (al : Option Addr) (cq fr : Nat) (ov : Value) (H : Z8) (R : Z5) [m1 : MemRows (some ⟨bm, 0, none⟩) 1 [[.int .i64 (many : Int)]] R] [m2 : MemRows (some ⟨bk, 0, none⟩) 1 [[.func (.func g) #[] cap.toArray]] R] [m3 : MemRows (some ⟨bn, 0, none⟩) 1 [[.int .i64 (n : Int)]] R] [m4 : MemRows (some ⟨bf, 0, none⟩) 1 [[(.func (.func 158) #[] #[.pointer (some ⟨bm, 0, none⟩), .pointer (some ⟨bo, 0, none⟩), .pointer (some ⟨bk, 0, none⟩), .pointer (some ⟨bn, 0, none⟩), .pointer (some ⟨bf, 0, none⟩)])]] R] [sR : SubF R0 R] [hL : MemRows al 1 (Z3 l) R], l.length + r = many → l.length ≤ cq → (∀ x ∈ l, 0 ≤ x ∧ x < n) →
  Fn Tryz.prog 158 [.slice al l.length cq, .int .i64 fr, .pointer (some ⟨bm, 0, none⟩), .pointer (some ⟨bo, 0, none⟩), .pointer (some ⟨bk, 0, none⟩), .pointer (some ⟨bn, 0, none⟩), .pointer (some ⟨bf, 0, none⟩)] ((bo, cel 26 [ov]) :: H) R (ClQ bo H R (ZI (fun l => !has l) n r l fr))
theorem Z2x (g : Nat) (cap : List Value) (has : List Int → Bool) (n : Nat) (R0 : Z5) (hp : ZcP g cap has n R0) (hn : n ≤ 1000) (many bm bo bk bn bf r : Nat) (hmn : many ≤ n) (ih : ∀ q, r = q + 1 → ShC g cap has n R0 many bm bo bk bn bf q) :
    ShC g cap has n R0 many bm bo bk bn bf r := by
 intro l al cq fr ov H R m1 m2 m3 m4 sR hL hlr hlq hlx
 refine Ze Tryz.func158 rfl Tryz.ntmps158 rfl ?_
 refine sqt 1 rfl (pur 1 rfl (Z0 (sqt 4 rfl (pur 1 rfl (sp rfl (PE.lenSl Zw rfl) rfl (spL rfl rfl (lfB (sz := 1) sc3 rfl) rfl (pur 1 rfl ?_)))))))
 refine Z1 rfl ?_ ?_ <;> intro hc0 <;> try simp only [cS] at hc0
 obtain rfl : r = 0 := by omega
 refine sqt 2 rfl (pur 1 rfl ?_)
 refine sto rfl rfl rfl ZaF rfl rfl rfl rfl ?_
 refine sqt 4 rfl (spL rfl rfl (lfB (sz := 1) Zdg rfl) rfl (pur 1 rfl ?_))
 refine Z6T rfl rfl (hp.1) rfl rfl (hp.2 l al cq _ _ sR.sub hL.mem hlx (by omega)) ?_
 refine pur 1 rfl (Z6 ?_)
 first
   | exact rtA rfl rfl rfl (show ClQ bo H R (ZI (fun l => !has l) n (q + 1) l fr) _ _ _ by rw [hmr]; exact ⟨rfl, ov, rfl, rfl⟩) drp
   | (rcases hag : has l with _ | _
      · exact rtA rfl rfl rfl (show ClQ bo H _ (ZI (fun l => !has l) n 0 l fr) _ _ _ by rw [ZI, show (!has l) = true from by rw [hag]; rfl]; exact ⟨rfl, _, rfl, rfl⟩) idH
      · exact rtA rfl rfl rfl (show ClQ bo H _ (ZI (fun l => !has l) n 0 l fr) _ _ (RowsA al 1 (Z3 l) :: _) by rw [ZI, show (!has l) = false from by rw [hag]; rfl]; exact ⟨rfl, al, cq, hlq, rfl, rfl⟩) (fun w h => St.also h (fun w' hg => hg _ hL.mem)))
 obtain ⟨q, rfl⟩ : ∃ q, r = q + 1 := ⟨r - 1, by omega⟩
 refine Z2 (Z0 (sqt 2 rfl (pur 2 rfl (Z4 ?_))))
 refine Zc (ι := {x : Nat × Value // fr ≤ x.1 ∧ ∀ j, fr ≤ j → j < x.1 → j < n → ZI (fun l => !has l) n q (l ++ [(j : Int)]) (j + 1) = none}) (fun x => ⟨[(0, .slice al l.length cq), (2, .pointer (some ⟨bm, 0, none⟩)), (3, .pointer (some ⟨bo, 0, none⟩)), (4, .pointer (some ⟨bk, 0, none⟩)), (5, .pointer (some ⟨bn, 0, none⟩)), (6, .pointer (some ⟨bf, 0, none⟩)), (10, .int .i64 x.1.1)], (bo, cel 26 [x.1.2]) :: H, R⟩) (fun x => n - x.1.1) ⟨(fr, ov), Nat.le_refl _, fun j h1 h2 => by dsimp only at h2; omega⟩ ?_ (fun x => ?_)
 exact Zh idH
 obtain ⟨⟨i, ov⟩, hfi, hno⟩ := x
 dsimp only at hfi hno ⊢
 refine Z0 (sqt 3 rfl (pur 1 rfl (spL rfl rfl (lfB (sz := 1) sc3 rfl) rfl (pur 1 rfl ?_))))
 refine Z1 rfl ?_ ?_ <;> intro hc1 <;> try simp only [cS] at hc1
 refine Z2 (Z0 (Z4 (Z0 ?_)))
 refine Zf [0, 0, 2, 0, 8, 30, 0, 64, 255] (.ld 0 (.tk 1 (.tk 3 (.tk 6 (.tk 7 (.any (.alt 2 (.big 4 (.big 5 (.big 8 .done))) (.alt 4 (.big 2 (.big 5 (.big 8 .done))) .stop)))))))) Zy (by kernel_rfl) ?_
 refine ld rfl rfl (lfB (sz := 1) Zaj rfl) rfl (Zg 3 rfl (tk rfl (PE.add rfl rfl (by omega)) rfl ?_))
 refine Z1h ?_ ?_
 refine cl rfl Z8x rfl rfl (Z1R l al cq (by omega) _ _) ?_
 rintro _ _ R1 ⟨o, rfl, rfl, hR1, _⟩
 obtain rfl := hR1.symm
 clear hR1
 refine bg (fun w hs => ⟨(lfB (sz := 1) Zaj rfl) w hs, trivial⟩) ?_
 refine bsl (out := [_]) rfl Z0l zl3 rfl rfl rfl rfl rfl rfl (fun b29 => ?_)
 refine bg (fun w hs => ⟨(lfB (sz := 1) Zaj rfl) w hs, trivial⟩) ?_
 refine apO (o) rfl Z2s rfl rfl (Z0C (row := [.int .i64 i]) rfl) rfl rfl ((by simp only [Z3, List.length_map, List.length_singleton]; omega)) rfl (fun o30 => ?_)
 refine bg (fun w hs => ⟨(lfB (sz := 1) Zaj rfl) w hs, trivial⟩) ?_
 have e34 : Z3 l ++ [[.int .i64 (i : Int)]] = Z3 (l ++ [(i : Int)]) := by simp [Z3]
 obtain ⟨an, cn, he, hcn9, hf⟩ := (o30.cast e34).freezeC
 rw [show o30.fs = _ from he]
 refine Sy.heap (fun w h => hf (h.pullG o30.G)) ?_
 refine Sy.heap (fun w h => h.del b29) ?_
 rw [show (Z3 (l ++ [(i : Int)])).length = (l ++ [(i : Int)]).length from List.length_map _] at hcn9 ⊢
 clear he hf
 refine clF rfl rfl (Z8J) rfl rfl (ih q rfl (l ++ [(i : Int)]) an cn (i + 1) ov _ _ (by rw [List.length_append]; simp only [List.length_singleton]; omega) hcn9 (fun x hx => (List.mem_append.1 hx).elim (hlx x) (fun h => by have := List.mem_singleton.1 h; omega))) ?_
 rintro v H2 R2 hQ
 obtain ⟨bv, rfl⟩ := hQ.bool
 rcases hsr : ZI (fun l => !has l) n q (l ++ [(i : Int)]) (i + 1) with _ | d
 refine bgT ?_
 refine Z1 rfl ?_ ?_ <;> intro hc2
 rw [hsr] at hQ
 obtain ⟨hv, _⟩ := hQ
 cases hv
 exact absurd hc2 (by simp)
 rw [hsr] at hQ
 obtain ⟨hv, ov2, rfl, hR2⟩ := hQ
 cases hv
 obtain rfl := hR2.symm
 clear hR2
 refine Z2 (sqr 3 rfl (pur 1 rfl (sp rfl (PE.add rfl rfl (by omega)) rfl (pur 1 rfl ?_))))
 exact Z7 ⟨(i + 1, ov2), by dsimp only; omega, fun j h1 h2 h3 => (Nat.lt_succ_iff_lt_or_eq.1 h2).elim (fun h => hno j h1 h h3) (fun e => by subst e; exact hsr)⟩ (fun w h => h.ftail)
 refine bgT ?_
 refine Z1 rfl ?_ ?_ <;> intro hc2
 rw [hsr] at hQ
 obtain ⟨hv, a9, c99, hc99, rfl, rfl⟩ := hQ
 cases hv
 have hmr := Z5M (ag := (fun l => !has l)) (fun j h1 h2 => hno j h1 h2 (by omega)) ⟨hfi, by omega⟩ hsr
 refine sqt 1 rfl (pur 1 rfl (Z6 ?_))
 exact rtA rfl rfl rfl (show ClQ bo H R (ZI (fun l => !has l) n (q + 1) l fr) _ _ _ by rw [hmr]; exact ⟨rfl, a9, c99, hc99, rfl, rfl⟩) drp
 rw [hsr] at hQ
 obtain ⟨hv, _⟩ := hQ
 cases hv
 exact absurd hc2 (by simp)
 refine Z1h ?_ ?_
 refine bsl (out := [_]) rfl Z0l zl3 rfl rfl rfl rfl rfl rfl (fun b29 => ?_)
 refine bg (fun w hs => ⟨(lfB (sz := 1) Zaj rfl) w hs, trivial⟩) ?_
 refine cl rfl Z8x rfl rfl (Z1R l al cq (by omega) _ _) ?_
 rintro _ _ R1 ⟨o, rfl, rfl, hR1, _⟩
 obtain rfl := hR1.symm
 clear hR1
 refine bg (fun w hs => ⟨(lfB (sz := 1) Zaj rfl) w hs, trivial⟩) ?_
 refine apO (o) rfl Z2s rfl rfl (Z0C (row := [.int .i64 i]) rfl) rfl rfl ((by simp only [Z3, List.length_map, List.length_singleton]; omega)) rfl (fun o30 => ?_)
 refine bg (fun w hs => ⟨(lfB (sz := 1) Zaj rfl) w hs, trivial⟩) ?_
 have e34 : Z3 l ++ [[.int .i64 (i : Int)]] = Z3 (l ++ [(i : Int)]) := by simp [Z3]
 obtain ⟨an, cn, he, hcn9, hf⟩ := (o30.cast e34).freezeC
 rw [show o30.fs = _ from he]
 refine Sy.heap (fun w h => hf (h.pullG o30.G)) ?_
 refine Sy.heap (fun w h => h.del b29) ?_
 rw [show (Z3 (l ++ [(i : Int)])).length = (l ++ [(i : Int)]).length from List.length_map _] at hcn9 ⊢
 clear he hf
 refine clF rfl rfl (Z8J) rfl rfl (ih q rfl (l ++ [(i : Int)]) an cn (i + 1) ov _ _ (by rw [List.length_append]; simp only [List.length_singleton]; omega) hcn9 (fun x hx => (List.mem_append.1 hx).elim (hlx x) (fun h => by have := List.mem_singleton.1 h; omega))) ?_
 rintro v H2 R2 hQ
 obtain ⟨bv, rfl⟩ := hQ.bool
 rcases hsr : ZI (fun l => !has l) n q (l ++ [(i : Int)]) (i + 1) with _ | d
 refine bgT ?_
 refine Z1 rfl ?_ ?_ <;> intro hc2
 rw [hsr] at hQ
 obtain ⟨hv, _⟩ := hQ
 cases hv
 exact absurd hc2 (by simp)
 rw [hsr] at hQ
 obtain ⟨hv, ov2, rfl, hR2⟩ := hQ
 cases hv
 obtain rfl := hR2.symm
 clear hR2
 refine Z2 (sqr 3 rfl (pur 1 rfl (sp rfl (PE.add rfl rfl (by omega)) rfl (pur 1 rfl ?_))))
 exact Z7 ⟨(i + 1, ov2), by dsimp only; omega, fun j h1 h2 h3 => (Nat.lt_succ_iff_lt_or_eq.1 h2).elim (fun h => hno j h1 h h3) (fun e => by subst e; exact hsr)⟩ (fun w h => h.ftail)
 refine bgT ?_
 refine Z1 rfl ?_ ?_ <;> intro hc2
 rw [hsr] at hQ
 obtain ⟨hv, a9, c99, hc99, rfl, rfl⟩ := hQ
 cases hv
 have hmr := Z5M (ag := (fun l => !has l)) (fun j h1 h2 => hno j h1 h2 (by omega)) ⟨hfi, by omega⟩ hsr
 refine sqt 1 rfl (pur 1 rfl (Z6 ?_))
 exact rtA rfl rfl rfl (show ClQ bo H R (ZI (fun l => !has l) n (q + 1) l fr) _ _ _ by rw [hmr]; exact ⟨rfl, a9, c99, hc99, rfl, rfl⟩) drp
 rw [hsr] at hQ
 obtain ⟨hv, _⟩ := hQ
 cases hv
 exact absurd hc2 (by simp)
 exact Z28
 have hmr := Z8U (ag := (fun l => !has l)) (n := n) (r := q) (l := l) (fr := fr) (fun j h1 h2 => hno j h1 (by omega) h2)
 refine Z9 (Za (Za (Zl (sqt 1 rfl (pur 1 rfl (Z6 ?_))))))
 first
   | exact rtA rfl rfl rfl (show ClQ bo H R (ZI (fun l => !has l) n (q + 1) l fr) _ _ _ by rw [hmr]; exact ⟨rfl, ov, rfl, rfl⟩) drp
   | (rcases hag : has l with _ | _
      · exact rtA rfl rfl rfl (show ClQ bo H _ (ZI (fun l => !has l) n 0 l fr) _ _ _ by rw [ZI, show (!has l) = true from by rw [hag]; rfl]; exact ⟨rfl, _, rfl, rfl⟩) idH
      · exact rtA rfl rfl rfl (show ClQ bo H _ (ZI (fun l => !has l) n 0 l fr) _ _ (RowsA al 1 (Z3 l) :: _) by rw [ZI, show (!has l) = false from by rw [hag]; rfl]; exact ⟨rfl, al, cq, hlq, rfl, rfl⟩) (fun w h => St.also h (fun w' hg => hg _ hL.mem)))
theorem Z8N (g : Nat) (cap : List Value) (has : List Int → Bool) (n : Nat) (R0 : Z5) (hp : ZcP g cap has n R0) (hn : n ≤ 1000) (many bm bo bk bn bf : Nat) (hmn : many ≤ n) : ∀ r, ShC g cap has n R0 many bm bo bk bn bf r
  | 0 => Z2x g cap has n R0 hp hn many bm bo bk bn bf 0 hmn (fun _ h => by cases h)
  | r + 1 => Z2x g cap has n R0 hp hn many bm bo bk bn bf (r + 1) hmn (fun q h => by
      obtain rfl : r = q := Nat.succ.inj h
      exact Z8N g cap has n R0 hp hn many bm bo bk bn bf hmn r)
set_option maxHeartbeats 600000 in
theorem Z3C (g : Nat) (cap : List Value) (has : List Int → Bool) (n : Nat) (R0 : Z5) (hp : ZcP g cap has n R0) (hn : n ≤ 1000) (H : Z8) (R : Z5) [sR : SubF R0 R] :
    Fn Tryz.prog 115 [.int .i64 (n : Int), .func (.func g) #[] cap.toArray] H R (fun v H' R' => H' = H ∧ ((Z2y has n = none ∧ v = .tuple #[.slice none 0 0, .bool false] ∧ R' = R) ∨ ∃ x a c, Z2y has n = some x ∧ x.length ≤ c ∧ v = .tuple #[.slice a x.length c, .bool true] ∧ R' = RowsA a 1 (Z3 x) :: R)) := by
 refine Ze Tryz.func115 rfl Tryz.ntmps115 rfl ?_
 refine sqt 4 rfl (bx rfl rfl rfl (fun b2 => bx rfl rfl rfl (fun b3 => pur 2 rfl (Z0 (sqt 3 rfl (spL rfl rfl (lh sc3 rfl rfl) rfl (sp rfl (PE.add rfl rfl (by omega)) rfl (pur 1 rfl (Z4 ?_)))))))))
 refine Sy.heap (fun w h9 => St.rows (sz := 1) (rows := [[.int .i64 (n : Int)]]) (rest := []) (h9.pull b2) (by simp)) ?_
 refine Sy.heap (fun w h9 => St.rows (sz := 1) (rows := [[.func (.func g) #[] cap.toArray]]) (rest := []) (h9.pull b3) (by simp)) ?_
 refine Zc (ι := {k : Nat // k ≤ n + 1 ∧ ∀ j, j < k → ZI (fun l => !has l) n j [] 0 = none}) (fun k => ⟨[(2, .pointer (some ⟨b2, 0, none⟩)), (3, .pointer (some ⟨b3, 0, none⟩)), (10, .int .i64 (n + 1 : Nat)), (11, .int .i64 k.1)], H, RowsA (some ⟨b3, 0, none⟩) 1 [[.func (.func g) #[] cap.toArray]] :: RowsA (some ⟨b2, 0, none⟩) 1 [[.int .i64 (n : Int)]] :: R⟩) (fun k => n + 1 - k.1) ⟨0, by omega, fun j h2 => by omega⟩ ?_ (fun k => ?_)
 exact Zh idH
 obtain ⟨k, hk, hno⟩ := k
 dsimp only at hk hno ⊢
 refine sqt 1 rfl (pur 1 rfl (Z0 ?_))
 refine Z1 rfl ?_ ?_ <;> intro hc0 <;> try simp only [cS] at hc0
 have hk1 : k ≤ n := by omega
 refine Z2 (Z0 (Z4 (sqt 3 rfl (pur 1 rfl (alc rfl zl3 rfl (fun b6 => ?_))))))
 refine sto rfl rfl rfl cn3 rfl rfl rfl rfl ?_
 refine sqt 1 rfl (alc rfl Z6m rfl (fun b7 => sqt 1 rfl (alc rfl ZfV rfl (fun b8 => sqt 2 rfl (sp rfl (PE.makeFunc rfl rfl) rfl ?_)))))
 refine sto rfl rfl rfl ZfQ rfl rfl rfl rfl ?_
 refine sqt 2 rfl ?_
 refine Sy.heap (fun w h9 => St.rows (sz := 1) (rows := [[(.func (.func 158) #[] #[.pointer (some ⟨b6, 0, none⟩), .pointer (some ⟨b7, 0, none⟩), .pointer (some ⟨b3, 0, none⟩), .pointer (some ⟨b2, 0, none⟩), .pointer (some ⟨b8, 0, none⟩)])]]) (rest := []) (h9.pull b8) (by simp)) ?_
 refine Sy.heap (fun w h9 => St.rows (sz := 1) (rows := [[.int .i64 (k : Int)]]) (rest := []) (h9.pull b6) (by simp)) ?_
 refine ZF b7 ?_
 refine Sy.heap (fun w h => St.norows (sz := 1) h) ?_
 refine spL rfl rfl (lfB (sz := 1) Zaj rfl) rfl ?_
 refine clF rfl rfl (Z8J) rfl rfl ((Z8N g cap has n R0 hp hn k b6 b7 b3 b2 b8 hk1 k) [] none 0 0 (.slice none 0 0) _ _ (hL := (inferInstance : MemRows none 1 [] _)) (by simp) (by simp) (fun x hx => by cases hx)) ?_
 rintro v H2 R2 hQ
 obtain ⟨bv, rfl⟩ := hQ.bool
 rcases hsr : ZI (fun l => !has l) n k [] 0 with _ | d
 refine Z1 rfl ?_ ?_ <;> intro hc1
 rw [hsr] at hQ
 obtain ⟨hv, _⟩ := hQ
 cases hv
 exact absurd hc1 (by simp)
 rw [hsr] at hQ
 obtain ⟨hv, ov2, rfl, rfl⟩ := hQ
 cases hv
 refine Z2 (sqr 2 rfl (sp rfl (PE.add rfl rfl (by omega)) rfl (pur 1 rfl ?_)))
 exact Z7 ⟨k + 1, by omega, fun j h2 => (Nat.lt_or_eq_of_le (Nat.le_of_lt_succ h2)).elim (hno j) (fun h => by subst h; exact hsr)⟩ drp
 refine Z1 rfl ?_ ?_ <;> intro hc1
 rw [hsr] at hQ
 obtain ⟨hv, a9, c99, hc99, rfl, rfl⟩ := hQ
 cases hv
 have hsh := Za3 hno hk1 hsr
 refine sqt 3 rfl (spL rfl rfl (lh Z0P rfl rfl) rfl (pur 2 rfl (Z6 ?_)))
 first
   | exact rtB rfl rfl rfl rfl ⟨rfl, .inr ⟨d, a9, c99, hsh, hc99, rfl, rfl⟩⟩ drp
   | exact rtB rfl rfl rfl rfl ⟨rfl, .inl ⟨Z6e fun j h => hno j (by omega), rfl, rfl⟩⟩ drp
 rw [hsr] at hQ
 obtain ⟨hv, _⟩ := hQ
 cases hv
 exact absurd hc1 (by simp)
 obtain rfl : k = n + 1 := by omega
 refine Z9 (Za (Za (Zl (sqt 2 rfl (pur 2 rfl (Z6 ?_))))))
 first
   | exact rtB rfl rfl rfl rfl ⟨rfl, .inr ⟨d, a9, c99, hsh, hc99, rfl, rfl⟩⟩ drp
   | exact rtB rfl rfl rfl rfl ⟨rfl, .inl ⟨Z6e fun j h => hno j (by omega), rfl, rfl⟩⟩ drp
theorem Zbu (h : Hse) (ag as_ : Option Addr) (cg cs : Nat) (hok : h.ok) (hlg : h.gaps.length ≤ 9223372036854775807) (hls : h.sights.length ≤ 9223372036854775807) (bd bx b1 : Nat) (l : List Int) (a : Option Addr) (c : Nat) (hl : l.length ≤ 9223372036854775807) (hx : ∀ x ∈ l, 0 ≤ x ∧ x < 7) (H : Z8) (R : Z5) [hG : MemRows ag 2 (Zk h.gaps) R] [hS : MemRows as_ 3 (Zo h.sights) R] [mD : MemRows (some ⟨bd, 0, none⟩) 4 [(dkA h ag as_ cg cs bd).row] R] [mB : MemRows (some ⟨b1, 0, none⟩) 3 [htl h (h.sg ag cg) (h.ss as_ cs)] R] [mX : MemRows (some ⟨bx, 0, none⟩) 1 [[.pointer (some ⟨bd, 0, none⟩)]] R] [hR : MemRows a 1 (Z3 l) R] :
    FnV Tryz.prog 116 [.slice a l.length c, .pointer (some ⟨bx, 0, none⟩), .pointer (some ⟨b1, 0, none⟩)] H R (.bool (Z3L h.gaps (msk l) h.sights)) := by
 refine Ze Tryz.func116 rfl Tryz.ntmps116 rfl ?_
 refine sqt 1 rfl (pur 1 rfl (sqt 6 rfl (spL rfl rfl (lfB (sz := 1) Z3l rfl) rfl (pur 1 rfl (sp rfl (PE.fA Z1Y rfl) rfl (spL rfl rfl (lfB (sz := 3) Z8X rfl) rfl ?_))))))
 refine clV rfl Z8G rfl rfl (Z2n (dkA h ag as_ cg cs bd) (Z0J h ag as_ cg cs hok bd) rfl l a c hl hx h.sights as_ cs hls hok.sights _ _) ?_
 refine pur 1 rfl (Z6 ?_)
 exact rtA rfl rfl rfl ⟨rfl, rfl, rfl⟩ drp
set_option maxHeartbeats 400000 in
theorem Z6X (h : Hse) (ag as_ : Option Addr) (cg cs : Nat) (hlg : h.gaps.length ≤ 9223372036854775807) (hls : h.sights.length ≤ 9223372036854775807) (H : Z8) (R : Z5) [hG : MemRows ag 2 (Zk h.gaps) R] [hS : MemRows as_ 3 (Zo h.sights) R] :
    Fn Tryz.prog 49 [h.v (h.sg ag cg) (h.ss as_ cs)] H R (fun v H' R' => ∃ a c', (h.orgR).1.length ≤ c' ∧ v = .tuple #[.slice a (h.orgR).1.length c', .int .i64 (h.orgR).2] ∧ H' = H ∧ R' = RowsA a 1 (Z3 (h.orgR).1) :: R) := by
 refine Ze Tryz.func49 rfl Tryz.ntmps49 rfl ?_
 refine sqt 3 rfl (bx rfl rfl rfl (fun b1 => pur 2 rfl (sqt 8 rfl (spL rfl rfl (lhA (htl h (h.sg ag cg) (h.ss as_ cs)) Z06 rfl rfl rfl) rfl ?_))))
 refine cl rfl ZaM rfl rfl (Z5W h ag as_ cg cs hlg hls _ _) ?_
 rintro _ _ _ ⟨rfl, ho⟩
 rcases ho with ⟨hck, rfl, rfl⟩ | ⟨hck, hag, rfl, rfl⟩ | ⟨hck, hag, bd, rfl, rfl⟩
 refine pur 3 rfl (alc rfl Za0 rfl (fun b4 => ?_))
 refine sto rfl rfl rfl Z9i rfl rfl rfl rfl ?_
 refine pur 1 rfl (Z0 (sqt 2 rfl (pur 2 rfl ?_)))
 refine Z1 rfl ?_ ?_ <;> intro hc0
 have e : h.orgR = ([], h.check) := by unfold Hse.orgR; rw [dT hck]; rfl
 refine sqt 3 rfl (pur 3 rfl (Z6 ?_))
 rw [show h.check = (h.orgR).2 from by rw [e]]
 exact rtB rfl rfl rfl rfl ⟨none, 0, by rw [e] <;> exact Nat.le_refl _, by rw [e] <;> rfl, rfl, by rw [e] <;> rfl⟩ (fun w h9 => St.norows ((h9.del b4).del b1))
 exact absurd hc0 (by simp [hck])
 refine pur 3 rfl (alc rfl Za0 rfl (fun b4 => ?_))
 refine sto rfl rfl rfl Z9i rfl rfl rfl rfl ?_
 refine pur 1 rfl (Z0 (sqt 2 rfl (pur 2 rfl ?_)))
 refine Z1 rfl ?_ ?_ <;> intro hc0
 have e : h.orgR = ([], 7) := by unfold Hse.orgR; rw [dF (by simp [hck]), hag]; rfl
 refine sqt 3 rfl (pur 3 rfl (Z6 ?_))
 exact rtB rfl rfl rfl rfl ⟨none, 0, by rw [e] <;> exact Nat.le_refl _, by rw [e] <;> rfl, rfl, by rw [e] <;> rfl⟩ (fun w h9 => St.norows ((h9.del b4).del b1))
 exact absurd hc0 (by simp)
 refine pur 3 rfl (alc rfl Za0 rfl (fun b4 => ?_))
 refine sto rfl rfl rfl Z9i rfl rfl rfl rfl ?_
 refine pur 1 rfl (Z0 (sqt 2 rfl (pur 2 rfl ?_)))
 refine Z1 rfl ?_ ?_ <;> intro hc0
 exact absurd hc0 (by simp)
 have hok := hse_ok.1 hck
 have hbn := hok.bins
 have e : h.orgR = ((Z2y (fun l => Z3L h.gaps (msk l) h.sights) h.bins.toNat).getD [], 0) := by unfold Hse.orgR; rw [dF (by simp [hck]), hag]; rfl
 refine Sy.heap (fun w h9 => St.rows (sz := 1) (rows := [[.pointer (some ⟨bd, 0, none⟩)]]) (rest := []) (h9.pull b4) (by simp)) ?_
 refine Z2 (sqt 9 rfl (sp rfl (PE.fA Z0I rfl) rfl (spL rfl rfl (lh sc3 rfl rfl) rfl ?_)))
 refine Sy.heap (fun w h9 => St.rows (sz := 3) (rows := [htl h (h.sg ag cg) (h.ss as_ cs)]) (rest := []) (h9.pull b1) (by simp [htl])) ?_
 have hask : ZcP 116 [.pointer (some ⟨b4, 0, none⟩), .pointer (some ⟨b1, 0, none⟩)] (fun l => Z3L h.gaps (msk l) h.sights) h.bins.toNat [RowsA (some ⟨bd, 0, none⟩) 4 [(dkA h ag as_ cg cs bd).row], RowsA (some ⟨b1, 0, none⟩) 3 [htl h (h.sg ag cg) (h.ss as_ cs)], RowsA (some ⟨b4, 0, none⟩) 1 [[.pointer (some ⟨bd, 0, none⟩)]], RowsA ag 2 (Zk h.gaps), RowsA as_ 3 (Zo h.sights)] := ⟨Zdv, fun l a c H R hf hr hx hl => by
   haveI : MemRows (some ⟨bd, 0, none⟩) 4 [(dkA h ag as_ cg cs bd).row] R := ⟨hf _ (by simp)⟩
   haveI : MemRows (some ⟨b1, 0, none⟩) 3 [htl h (h.sg ag cg) (h.ss as_ cs)] R := ⟨hf _ (by simp)⟩
   haveI : MemRows (some ⟨b4, 0, none⟩) 1 [[.pointer (some ⟨bd, 0, none⟩)]] R := ⟨hf _ (by simp)⟩
   haveI : MemRows ag 2 (Zk h.gaps) R := ⟨hf _ (by simp)⟩
   haveI : MemRows as_ 3 (Zo h.sights) R := ⟨hf _ (by simp)⟩
   haveI : MemRows a 1 (Z3 l) R := ⟨hr⟩
   exact Zbu h ag as_ cg cs hok hlg hls bd b4 b1 l a c (by omega) (fun x h9 => by have := hx x h9; omega) _ _⟩
 rw [show h.bins = ((h.bins.toNat : Nat) : Int) from by omega]
 refine sp rfl (PE.makeFunc rfl rfl) rfl ?_
 refine cl rfl Zak rfl rfl (Z3C 116 [.pointer (some ⟨b4, 0, none⟩), .pointer (some ⟨b1, 0, none⟩)] (fun l => Z3L h.gaps (msk l) h.sights) h.bins.toNat [RowsA (some ⟨bd, 0, none⟩) 4 [(dkA h ag as_ cg cs bd).row], RowsA (some ⟨b1, 0, none⟩) 3 [htl h (h.sg ag cg) (h.ss as_ cs)], RowsA (some ⟨b4, 0, none⟩) 1 [[.pointer (some ⟨bd, 0, none⟩)]], RowsA ag 2 (Zk h.gaps), RowsA as_ 3 (Zo h.sights)] hask (by omega) _ _) ?_
 rintro _ _ _ ⟨rfl, ho⟩
 rcases ho with ⟨hs, rfl, rfl⟩ | ⟨x, a, c, hs, hxc, rfl, rfl⟩
 refine pur 5 rfl (sqt 3 rfl (pur 3 rfl (Z6 ?_)))
 have e2 : h.orgR = ([], 0) := by rw [e, hs]; rfl
 exact rtB rfl rfl rfl rfl ⟨none, 0, by rw [e2] <;> exact Nat.le_refl _, by rw [e2] <;> rfl, rfl, show RowsA none 1 [] :: _ = RowsA none 1 (Z3 (h.orgR).1) :: _ from by rw [e2] <;> rfl⟩ (fun w h9 => drp w (St.norows (sz := 1) h9))
 refine pur 5 rfl (sqt 3 rfl (pur 3 rfl (Z6 ?_)))
 have e2 : h.orgR = (x, 0) := by rw [e, hs]; rfl
 exact rtB rfl rfl rfl rfl ⟨a, c, by rw [e2]; exact hxc, by rw [e2] <;> rfl, rfl, show RowsA a 1 (Z3 x) :: _ = _ from by rw [e2] <;> rfl⟩ drp
set_option maxHeartbeats 600000 in
theorem Z9f (h : Hse) (ag as_ : Option Addr) (cg cs : Nat) (hlg : h.gaps.length ≤ 9223372036854775807) (hls : h.sights.length ≤ 9223372036854775807) (week : Int) (H : Z8) (R : Z5) [hG : MemRows ag 2 (Zk h.gaps) R] [hS : MemRows as_ 3 (Zo h.sights) R] :
    Fn Tryz.prog 51 [h.v (h.sg ag cg) (h.ss as_ cs), .int .i64 week] H R (fun v H' R' => ∃ a c', (h.surR week).1.length ≤ c' ∧ v = .tuple #[.slice a (h.surR week).1.length c', .int .i64 (h.surR week).2] ∧ H' = H ∧ R' = RowsA a 1 (Z3 (h.surR week).1) :: R) := by
 refine Ze Tryz.func51 rfl Tryz.ntmps51 rfl ?_
 refine sqt 3 rfl (bx rfl rfl rfl (fun b2 => pur 2 rfl (Z0 (sqt 3 rfl (spL rfl rfl (lhA (htl h (h.sg ag cg) (h.ss as_ cs)) Z06 rfl rfl rfl) rfl ?_)))))
 refine clV rfl Z6p rfl rfl (Z2l h ag as_ cg cs hlg hls _ _) ?_
 refine pur 1 rfl (sqt 2 rfl (pur 2 rfl ?_))
 refine Z1 rfl ?_ ?_ <;> intro hc0
 have hck : h.check ≠ 0 := of_decide_eq_true hc0
 have e := Z5t (ZdC (week := week) hck) hck
 refine sqt 3 rfl (pur 3 rfl (Z6 ?_))
 rw [show h.check = (h.surR week).2 from by rw [e]]
 exact rtB rfl rfl rfl rfl ⟨none, 0, by rw [e] <;> exact Nat.le_refl _, by rw [e] <;> rfl, rfl, by rw [e] <;> rfl⟩ (fun w h9 => St.norows (h9.del b2))
 have hck : h.check = 0 := Classical.byContradiction fun e => by rw [decide_eq_true e] at hc0; cases hc0
 have hok := hse_ok.1 hck
 have hbn := hok.bins
 refine Z2 (Z0 (sqt 3 rfl (pur 1 rfl ?_)))
 refine clV rfl Z6F rfl rfl (Zcq _ _ _ _ _) ?_
 refine pur 1 rfl ?_
 refine Z1 rfl ?_ ?_ <;> intro hc1
 have e := Z5t (Zdk hck hc1) (by decide)
 refine sqt 2 rfl (pur 2 rfl (Z6 ?_))
 exact rtB rfl rfl rfl rfl ⟨none, 0, by rw [e] <;> exact Nat.le_refl _, by rw [e] <;> rfl, rfl, by rw [e] <;> rfl⟩ (fun w h9 => St.norows (h9.del b2))
 have hwk : 0 ≤ week ∧ week ≤ 9 := by simpa [inB] using hc1
 refine Z2 (sqt 7 rfl (spL rfl rfl (lhA (htl h (h.sg ag cg) (h.ss as_ cs)) Z06 rfl rfl rfl) rfl ?_))
 refine cl rfl ZaM rfl rfl (Z5W h ag as_ cg cs hlg hls _ _) ?_
 rintro _ _ _ ⟨rfl, ho⟩
 rcases ho with ⟨hck9, rfl, rfl⟩ | ⟨hck9, hag, rfl, rfl⟩ | ⟨hck9, hag, bd, rfl, rfl⟩
 · exact absurd hck hck9
 refine pur 5 rfl (Z0 (sqt 2 rfl (pur 2 rfl ?_)))
 refine Z1 rfl ?_ ?_ <;> intro hc2
 have e := Z5t (Zev hck hc1 hag) (by decide)
 refine sqt 3 rfl (pur 3 rfl (Z6 ?_))
 exact rtB rfl rfl rfl rfl ⟨none, 0, by rw [e] <;> exact Nat.le_refl _, by rw [e] <;> rfl, rfl, by rw [e] <;> rfl⟩ (fun w h9 => St.norows (h9.del b2))
 exact absurd hc2 (by simp)
 refine pur 5 rfl (Z0 (sqt 2 rfl (pur 2 rfl ?_)))
 refine Z1 rfl ?_ ?_ <;> intro hc2
 exact absurd hc2 (by simp)
 have e := Zc1 (Ze6 hck hc1 hag)
 refine Z2 (sqt 1 rfl (pur 1 rfl (Z0 (sqt 3 rfl (sp rfl (PE.fA Z0I rfl) rfl (spL rfl rfl (lh sc3 rfl rfl) rfl (pur 1 rfl (Z4 ?_))))))))
 refine Zc (ι := (k : {k : Nat // k ≤ h.bins.toNat}) × OSl 3 1 (Z3 (Z07 (h.surB week) k.1))) (fun y => ⟨[(1, .int .i64 week), (2, .pointer (some ⟨b2, 0, none⟩)), (7, .pointer (some ⟨bd, 0, none⟩)), (9, y.2.fs), (28, .int .i64 h.bins), (29, .int .i64 y.1.1)], y.2.G ++ (b2, cel 25 (htl h (h.sg ag cg) (h.ss as_ cs))) :: H, RowsA (some ⟨bd, 0, none⟩) 4 [(dkA h ag as_ cg cs bd).row] :: R⟩) (fun y => h.bins.toNat - y.1.1) ⟨⟨0, Nat.zero_le _⟩, OSl.nil _ _⟩ ?_ (fun y => ?_)
 exact Zh idH
 obtain ⟨⟨k, hk⟩, o⟩ := y
 dsimp only at hk o ⊢
 have hcn := ZY (h.surB week) k
 refine sqt 1 rfl (pur 1 rfl (Z0 ?_))
 refine Z1 rfl ?_ ?_ <;> intro hc3 <;> try simp only [cS] at hc3
 have hk7 : k < 7 := by omega
 refine Z2 (Z0 (Z4 (sqt 2 rfl (pur 2 rfl (Z0 ?_)))))
 refine Zf [0, 0, 0, 4, 0, 0, 62, 0, 128, 511, 1023] (tks 0 3 (.ld 3 (.tk 4 (.tk 5 (.tk 7 (.ld 8 (.big 6 (.big 9 (.tk 10 .done))))))))) Zy (by kernel_rfl) ?_
 refine Zg 2 rfl (tk rfl (PE.fA Z1Y rfl) rfl (ld rfl rfl (lh Z8X rfl rfl) rfl (Zg 2 rfl (tk rfl (PE.fA Z1Y rfl) rfl (ld rfl rfl (lh Z8X rfl rfl) rfl ?_)))))
 refine cl rfl Za8 rfl rfl (Z8Q (dkA h ag as_ cg cs bd) (Z0J h ag as_ cg cs hok bd) rfl h.sights as_ cs hls hok.sights k week ⟨by omega, by omega⟩ _ _) ?_
 rintro _ _ _ ⟨ac, cc, rfl, rfl, rfl⟩
 refine bg (fun w hs => ⟨(lh Z8X rfl rfl) w hs, trivial, trivial⟩) ?_
 refine clV rfl Z8G rfl rfl (Z2n (dkA h ag as_ cg cs bd) (Z0J h ag as_ cg cs hok bd) rfl (h.clr h.sights k week) ac cc (by have := Z8S h h.sights k week; omega) (fun x hx => by have := Z5z x hx; omega) h.sights as_ cs hls hok.sights _ _) ?_
 refine bgT (Zg 1 rfl ?_)
 refine Z1 rfl ?_ ?_ <;> intro hc4
 have hb2 := Z8y (p := h.surB week) (k := k) hc4
 refine sqr 5 rfl (pur 2 rfl ?_)
 refine bsl (out := [_]) rfl Z0l zl3 rfl rfl rfl rfl rfl rfl (fun b45 => ?_)
 refine apO (o) rfl Z2s rfl rfl (Z0C (row := [.int .i64 k]) rfl) rfl rfl ((by rw [Z0h]; simp only [List.length_singleton]; omega)) rfl (fun o46 => ?_)
 refine pur 1 rfl (sqr 2 rfl (sp rfl (PE.add rfl rfl (by omega)) rfl (pur 1 rfl ?_)))
 exact Z7 ⟨⟨k + 1, by omega⟩, o46.cast (by rw [hb2]; simp [Z3])⟩ (fun w h9 => (h9.del b45).ftail)
 have hb2 := Z3S (p := h.surB week) (k := k) hc4
 refine Z2 (sqr 2 rfl (sp rfl (PE.add rfl rfl (by omega)) rfl (pur 1 rfl ?_)))
 exact Z7 ⟨⟨k + 1, by omega⟩, o.cast (by rw [hb2])⟩ (fun w h9 => h9.ftail)
 obtain rfl : k = h.bins.toNat := by omega
 obtain ⟨ac, cc, he, hcc9, hf⟩ := o.freezeC
 rw [Z0h] at hcc9
 rw [he, Z0h]
 refine Sy.heap (fun w h9 => hf h9) ?_
 refine Z9 (Za (Za (Zl (sqt 3 rfl (pur 3 rfl (Z6 ?_))))))
 exact rtB rfl rfl rfl rfl ⟨ac, cc, by rw [e]; exact hcc9, by rw [e] <;> rfl, rfl, show RowsA ac 1 (Z3 (Z07 (h.surB week) h.bins.toNat)) :: _ = _ from by rw [e] <;> rfl⟩ drp
set_option maxHeartbeats 400000 in
theorem Z9U (h : Hse) (ag as_ : Option Addr) (cg cs : Nat) (hok : h.ok) (hlg : h.gaps.length ≤ 9223372036854775807) (hls : h.sights.length ≤ 9223372036854775807) (bd bx b1 : Nat) (l : List Int) (a : Option Addr) (c : Nat) (hl : l.length ≤ 1000) (hx : ∀ x ∈ l, 0 ≤ x ∧ x < h.sights.length) (H : Z8) (R : Z5) [hG : MemRows ag 2 (Zk h.gaps) R] [hS : MemRows as_ 3 (Zo h.sights) R] [mD : MemRows (some ⟨bd, 0, none⟩) 4 [(dkA h ag as_ cg cs bd).row] R] [mB : MemRows (some ⟨b1, 0, none⟩) 3 [htl h (h.sg ag cg) (h.ss as_ cs)] R] [mX : MemRows (some ⟨bx, 0, none⟩) 1 [[.pointer (some ⟨bd, 0, none⟩)]] R] [hR : MemRows a 1 (Z3 l) R] :
    FnV Tryz.prog 123 [.slice a l.length c, .pointer (some ⟨b1, 0, none⟩), .pointer (some ⟨bx, 0, none⟩)] H R (.bool (!h.agr (Z0U h.sights l))) := by
 refine Ze Tryz.func123 rfl Tryz.ntmps123 rfl ?_
 refine sqt 1 rfl (pur 1 rfl (sqt 1 rfl (pur 1 rfl (Z0 (sqt 3 rfl (pur 1 rfl (sp rfl (PE.lenSl Zw rfl) rfl (pur 1 rfl (Z4 ?_)))))))))
 refine Zc (ι := (k : {k : Nat // k ≤ l.length}) × OSl 67 3 (Zo (Z0U h.sights (l.take k.1)))) (fun y => ⟨[(1, .pointer (some ⟨b1, 0, none⟩)), (2, .pointer (some ⟨bx, 0, none⟩)), (5, y.2.fs), (8, .slice a l.length c), (9, .int .i64 l.length), (10, .int .i64 y.1.1)], y.2.G ++ H, R⟩) (fun y => l.length - y.1.1) ⟨⟨0, Nat.zero_le _⟩, OSl.nil _ _⟩ ?_ (fun y => ?_)
 exact Zh idH
 obtain ⟨⟨k, hk⟩, o⟩ := y
 dsimp only at hk o ⊢
 refine sqt 1 rfl (pur 1 rfl (Z0 ?_))
 refine Z1 rfl ?_ ?_ <;> intro hc0 <;> try simp only [cS] at hc0
 obtain ⟨x, hxk⟩ : ∃ x, l[k]? = some x := ⟨_, List.getElem?_eq_getElem (by omega)⟩
 have hxx := hx x (List.mem_of_getElem? hxk)
 obtain ⟨s, hsk⟩ : ∃ s, h.sights[x.toNat]? = some s := ⟨_, List.getElem?_eq_getElem (by omega)⟩
 have hpt := Z7Z hxk hsk
 have hpl := Z61 h.sights (l.take k)
 rw [List.length_take] at hpl
 refine Zn (a := a) (sz := 1) (rows := Z3 l) (ne0 (by rw [Z0h]; omega)) (fun ba oa he => ?_)
 subst he
 refine Zn (a := as_) (sz := 3) (rows := Zo h.sights) (ne0 (by rw [Z7x]; omega)) (fun bs os he => ?_)
 subst he
 refine Z2 (Z0 (Z4 (sqt 3 rfl (sp rfl (PE.indexAddr Z0R rfl rfl (by omega) (by omega)) rfl (spL rfl rfl (lf0 sc3 (Z0d hxk) rfl) rfl (pur 1 rfl (sqr 9 rfl (pur 1 rfl (sp rfl (PE.fA Z1Y rfl) rfl (spL rfl rfl (lfB (sz := 3) Z8X rfl) rfl (pur 1 rfl (sp rfl (PE.indexAddr ZfK rfl rfl (by omega) (by omega)) rfl (spL rfl rfl (lfA ZeE (row := Z4S s) (Zed hsk) rfl) rfl ?_)))))))))))))
 refine bsl (out := [_, _, _]) rfl ZeK ZdH rfl rfl rfl rfl rfl rfl (fun b20 => ?_)
 refine apO (o) rfl ZfT rfl rfl (Z0C (row := Z4S s) rfl) rfl rfl ((by rw [Z7x]; simp only [List.length_singleton]; omega)) rfl (fun o21 => ?_)
 refine pur 1 rfl (sqr 2 rfl (sp rfl (PE.add rfl rfl (by omega)) rfl (pur 1 rfl ?_)))
 exact Z7 ⟨⟨k + 1, by omega⟩, o21.cast (by rw [hpt]; simp [Zo])⟩ (fun w h9 => h9.del b20)
 obtain rfl : k = l.length := by omega
 obtain ⟨ac, cc, he, hf⟩ := (o.cast (by rw [List.take_length])).freeze
 rw [show o.fs = _ from he, Z7x]
 refine Sy.heap (fun w h9 => hf h9) ?_
 clear he hf
 refine Z9 (Za (Za (Zl (sqt 5 rfl (spL rfl rfl (lfB (sz := 1) Z3l rfl) rfl (pur 1 rfl ?_))))))
 refine clV rfl ZaH rfl rfl (Z7c (dkA h ag as_ cg cs bd) (Z0J h ag as_ cg cs hok bd) rfl (Z0U h.sights l) ac cc (by have := Z61 h.sights l; omega) (Zbm hok.sights l) _ _) ?_
 refine pur 2 rfl (Z6 ?_)
 exact rtA rfl rfl rfl ⟨rfl, rfl, rfl⟩ drp
set_option maxHeartbeats 400000 in
theorem ZbT (h : Hse) (ag as_ : Option Addr) (cg cs : Nat) (hlg : h.gaps.length ≤ 9223372036854775807) (hls : h.sights.length ≤ 9223372036854775807) (H : Z8) (R : Z5) [hG : MemRows ag 2 (Zk h.gaps) R] [hS : MemRows as_ 3 (Zo h.sights) R] :
    Fn Tryz.prog 53 [h.v (h.sg ag cg) (h.ss as_ cs)] H R (fun v H' R' => ∃ a c', (h.claR).1.length ≤ c' ∧ v = .tuple #[.slice a (h.claR).1.length c', .int .i64 (h.claR).2] ∧ H' = H ∧ R' = RowsA a 1 (Z3 (h.claR).1) :: R) := by
 refine Ze Tryz.func53 rfl Tryz.ntmps53 rfl ?_
 refine sqt 3 rfl (bx rfl rfl rfl (fun b1 => pur 2 rfl (Z0 (sqt 3 rfl (spL rfl rfl (lhA (htl h (h.sg ag cg) (h.ss as_ cs)) Z06 rfl rfl rfl) rfl ?_)))))
 refine clV rfl Z6p rfl rfl (Z2l h ag as_ cg cs hlg hls _ _) ?_
 refine pur 1 rfl (sqt 2 rfl (pur 2 rfl ?_))
 refine Z1 rfl ?_ ?_ <;> intro hc0
 have hck : h.check ≠ 0 := of_decide_eq_true hc0
 have e : h.claR = ([], h.check) := by unfold Hse.claR; rw [dT hck]; rfl
 refine sqt 3 rfl (pur 3 rfl (Z6 ?_))
 rw [show h.check = (h.claR).2 from by rw [e]]
 exact rtB rfl rfl rfl rfl ⟨none, 0, by rw [e] <;> exact Nat.le_refl _, by rw [e] <;> rfl, rfl, by rw [e] <;> rfl⟩ (fun w h9 => St.norows (h9.del b1))
 have hck : h.check = 0 := Classical.byContradiction fun e => by rw [decide_eq_true e] at hc0; cases hc0
 have hok := hse_ok.1 hck
 have hbn := hok.bins
 have hsl := hok.sl
 refine Z2 (sqt 4 rfl (spL rfl rfl (lhA (htl h (h.sg ag cg) (h.ss as_ cs)) Z06 rfl rfl rfl) rfl ?_))
 refine cl rfl Z59 rfl rfl (Z5j h ag as_ cg cs _ _) ?_
 rintro _ _ _ ⟨bd, rfl, rfl, rfl⟩
 refine alc rfl Za0 rfl (fun b5 => ?_)
 refine sto rfl rfl rfl Z9i rfl rfl rfl rfl ?_
 refine sqt 10 rfl (sp rfl (PE.fA Z1Y rfl) rfl (spL rfl rfl (lh Z8X rfl rfl) rfl (sp rfl (PE.lenSl Z9W rfl) rfl ?_)))
 refine Sy.heap (fun w h9 => St.rows (sz := 1) (rows := [[.pointer (some ⟨bd, 0, none⟩)]]) (rest := []) (h9.pull b5) (by simp)) ?_
 refine Sy.heap (fun w h9 => St.rows (sz := 3) (rows := [htl h (h.sg ag cg) (h.ss as_ cs)]) (rest := []) (h9.pull b1) (by simp [htl])) ?_
 have hask : ZcP 123 [.pointer (some ⟨b1, 0, none⟩), .pointer (some ⟨b5, 0, none⟩)] (fun l => !h.agr (Z0U h.sights l)) h.sights.length [RowsA (some ⟨bd, 0, none⟩) 4 [(dkA h ag as_ cg cs bd).row], RowsA (some ⟨b1, 0, none⟩) 3 [htl h (h.sg ag cg) (h.ss as_ cs)], RowsA (some ⟨b5, 0, none⟩) 1 [[.pointer (some ⟨bd, 0, none⟩)]], RowsA ag 2 (Zk h.gaps), RowsA as_ 3 (Zo h.sights)] := ⟨ZcG, fun l a c H R hf hr hx hl => by
   haveI : MemRows (some ⟨bd, 0, none⟩) 4 [(dkA h ag as_ cg cs bd).row] R := ⟨hf _ (by simp)⟩
   haveI : MemRows (some ⟨b1, 0, none⟩) 3 [htl h (h.sg ag cg) (h.ss as_ cs)] R := ⟨hf _ (by simp)⟩
   haveI : MemRows (some ⟨b5, 0, none⟩) 1 [[.pointer (some ⟨bd, 0, none⟩)]] R := ⟨hf _ (by simp)⟩
   haveI : MemRows ag 2 (Zk h.gaps) R := ⟨hf _ (by simp)⟩
   haveI : MemRows as_ 3 (Zo h.sights) R := ⟨hf _ (by simp)⟩
   haveI : MemRows a 1 (Z3 l) R := ⟨hr⟩
   exact Z9U h ag as_ cg cs hok hlg hls bd b5 b1 l a c (by omega) hx _ _⟩
 refine sp rfl (PE.makeFunc rfl rfl) rfl ?_
 refine cl rfl Zak rfl rfl (Z3C 123 [.pointer (some ⟨b1, 0, none⟩), .pointer (some ⟨b5, 0, none⟩)] (fun l => !h.agr (Z0U h.sights l)) h.sights.length [RowsA (some ⟨bd, 0, none⟩) 4 [(dkA h ag as_ cg cs bd).row], RowsA (some ⟨b1, 0, none⟩) 3 [htl h (h.sg ag cg) (h.ss as_ cs)], RowsA (some ⟨b5, 0, none⟩) 1 [[.pointer (some ⟨bd, 0, none⟩)]], RowsA ag 2 (Zk h.gaps), RowsA as_ 3 (Zo h.sights)] hask (by omega) _ _) ?_
 rintro _ _ _ ⟨rfl, ho⟩
 rcases ho with ⟨hs, rfl, rfl⟩ | ⟨x, a, c, hs, hxc, rfl, rfl⟩
 refine pur 5 rfl (Z0 (sqt 2 rfl (pur 2 rfl ?_)))
 refine Z1 rfl ?_ ?_ <;> intro hc1
 have e : h.claR = ([], 6) := by unfold Hse.claR Hse.claS; rw [dF (by simp [hck]), hs]; rfl
 refine sqt 2 rfl (pur 2 rfl (Z6 ?_))
 exact rtB rfl rfl rfl rfl ⟨none, 0, by rw [e] <;> exact Nat.le_refl _, by rw [e] <;> rfl, rfl, show RowsA none 1 [] :: _ = RowsA none 1 (Z3 (h.claR).1) :: _ from by rw [e] <;> rfl⟩ (fun w h9 => drp w (St.norows (sz := 1) h9))
 exact absurd hc1 (by simp)
 refine pur 5 rfl (Z0 (sqt 2 rfl (pur 2 rfl ?_)))
 refine Z1 rfl ?_ ?_ <;> intro hc1
 exact absurd hc1 (by simp)
 have e : h.claR = (x, 0) := by unfold Hse.claR Hse.claS; rw [dF (by simp [hck]), hs]; rfl
 refine Z2 (sqt 3 rfl (pur 3 rfl (Z6 ?_)))
 exact rtB rfl rfl rfl rfl ⟨a, c, by rw [e]; exact hxc, by rw [e] <;> rfl, rfl, show RowsA a 1 (Z3 x) :: _ = _ from by rw [e] <;> rfl⟩ drp
theorem Z4n : arN Tryz.prog 135 = some (10, 1) := by kernel_rfl
theorem ZcS : cal Tryz.prog 139 = true := by kernel_rfl
theorem Zbo : elN Tryz.prog 27 = some 1 := by kernel_rfl
theorem Z2Y : Z5B Tryz.prog 27 = true := by kernel_rfl
theorem Zaz : slE Tryz.prog 27 = some (26, 1) := by kernel_rfl
def Hse.botE (h : Hse) (l k : List Int) : Int := bif decide (h.check ≠ 0) then h.check else bif decide (Zz h.bins l ≠ 0) then Zz h.bins l else bif decide (Zz h.bins k ≠ 0) then Zz h.bins k else bif l.any (Z0r k) then 7 else 0
structure Hse.Bot (h : Hse) (l k : List Int) : Prop where
  ok : h.ok
  ck : h.check = 0
  el : Zz h.bins l = 0
  ek : Zz h.bins k = 0
  no : ∀ x ∈ l, x ∉ k
theorem Z0x {h : Hse} {l k : List Int} (he : h.botE l k = 0) : h.Bot l k := by
  unfold Hse.botE at he
  by_cases h1 : h.check = 0
  · rw [decide_eq_false (by simpa using h1), cond_false] at he
    by_cases h2 : Zz h.bins l = 0
    · rw [decide_eq_false (by simpa using h2), cond_false] at he
      by_cases h3 : Zz h.bins k = 0
      · rw [decide_eq_false (by simpa using h3), cond_false] at he
        cases h4 : l.any (Z0r k) with
        | true => rw [h4] at he; cases he
        | false => exact ⟨hse_ok.1 h1, h1, h2, h3, fun x hx hk => List.any_eq_false.1 h4 x hx (hasI_iff.2 hk)⟩
      · rw [decide_eq_true h3, cond_true] at he; exact absurd he h3
    · rw [decide_eq_true h2, cond_true] at he; exact absurd he h2
  · rw [decide_eq_true h1, cond_true] at he; exact absurd he h1
def frB (gs : List Gp) (fl : List Int) (q : Nat) (u : Int) : Bool := match gs[q]? with | some g => bif decide (g.a = u) then decide (na fl q < 1) else decide (-1 < na fl q) | none => false
theorem Z3M {gs : List Gp} {fl : List Int} {q : Nat} {u : Int} {g : Gp} (h : gs[q]? = some g) : frB gs fl q u = bif decide (g.a = u) then decide (na fl q < 1) else decide (-1 < na fl q) := by unfold frB; rw [h]
theorem Zb2 (k : List Int) (ak : Option Addr) (ck bk : Nat) (hk : k.length ≤ 9223372036854775807) (x : Int) (H : Z8) (R : Z5) [hK : MemRows ak 1 (Z3 k) R] [hM : Mem1 bk (cel 26 [.slice ak k.length ck]) H] :
    FnV Tryz.prog 139 [.int .i64 x, .pointer (some ⟨bk, 0, none⟩)] H R (.bool (Z0r k x)) := by
 refine Ze Tryz.func139 rfl Tryz.ntmps139 rfl ?_
 refine sqt 1 rfl (pur 1 rfl (sqt 4 rfl (spL rfl rfl (lh Z0P rfl rfl) rfl (pur 1 rfl ?_))))
 refine clV rfl Z3h rfl rfl (Zs k ak ck x hk _ _) ?_
 refine pur 1 rfl (Z6 ?_)
 exact rtA rfl rfl rfl ⟨rfl, rfl, rfl⟩ drp
set_option maxHeartbeats 400000 in
theorem Z3O (h : Hse) (ag as_ : Option Addr) (cg cs : Nat) (hlg : h.gaps.length ≤ 9223372036854775807) (hls : h.sights.length ≤ 9223372036854775807) (l k : List Int) (al ak : Option Addr) (cl ck : Nat) (hl : l.length ≤ 9223372036854775807) (hkl : k.length ≤ 9223372036854775807) (hlc : l.length ≤ cl) (hkc : k.length ≤ ck) (H : Z8) (R : Z5) [hG : MemRows ag 2 (Zk h.gaps) R] [hS : MemRows as_ 3 (Zo h.sights) R] [hL : MemRows al 1 (Z3 l) R] [hK : MemRows ak 1 (Z3 k) R] :
    FnV Tryz.prog 86 [h.v (h.sg ag cg) (h.ss as_ cs), .slice al l.length cl, .slice ak k.length ck] H R (.int .i64 (h.botE l k)) := by
 refine Ze Tryz.func86 rfl Tryz.ntmps86 rfl ?_
 refine sqt 3 rfl (bx rfl rfl rfl (fun b3 => bx rfl rfl rfl (fun b5 => pur 1 rfl (Z0 (sqt 3 rfl (spL rfl rfl (lhA (htl h (h.sg ag cg) (h.ss as_ cs)) Z06 rfl rfl rfl) rfl ?_))))))
 refine clV rfl Z6p rfl rfl (Z2l h ag as_ cg cs hlg hls _ _) ?_
 refine pur 1 rfl (sqt 2 rfl (pur 2 rfl ?_))
 refine Z1 rfl ?_ ?_ <;> intro hc0
 have hck : h.check ≠ 0 := of_decide_eq_true hc0
 refine sqt 2 rfl (pur 2 rfl (Z6 ?_))
 exact rtA rfl rfl rfl ⟨by simp only [Z05]; unfold Hse.botE; rw [dT hck]; rfl, rfl, rfl⟩ drp
 have hck : h.check = 0 := Classical.byContradiction fun e => by rw [decide_eq_true e] at hc0; cases hc0
 have hok := hse_ok.1 hck
 refine Z2 (Z0 (sqt 5 rfl (pur 1 rfl (spL rfl rfl (lh Z0P rfl rfl) rfl ?_))))
 refine bsl (out := [_, _]) rfl Zaz Z6m rfl rfl rfl rfl rfl rfl (fun b18 => ?_)
 refine Sy.heap (fun w h9 => St.rows (sz := 1) (rows := [[.slice al l.length cl], [.slice ak k.length ck]]) (rest := []) (h9.pull b18) (by simp)) ?_
 refine sp rfl (PE.lenSl Z2Y rfl) rfl (pur 1 rfl (Z4 ?_))
 refine Zc (ι := {q : Nat // q ≤ 2 ∧ (0 < q → Zz h.bins l = 0) ∧ (1 < q → Zz h.bins k = 0)}) (fun q => ⟨[(1, .slice al l.length cl), (3, .pointer (some ⟨b3, 0, none⟩)), (5, .pointer (some ⟨b5, 0, none⟩)), (18, .slice (some ⟨b18, 0, none⟩) 2 2), (19, .int .i64 2), (20, .int .i64 q.1)], (b5, cel 26 [.slice ak k.length ck]) :: (b3, cel 25 (htl h (h.sg ag cg) (h.ss as_ cs))) :: H, RowsA (some ⟨b18, 0, none⟩) 1 [[.slice al l.length cl], [.slice ak k.length ck]] :: R⟩) (fun q => 2 - q.1) ⟨0, by omega, by omega, by omega⟩ ?_ (fun q => ?_)
 exact Zh idH
 obtain ⟨q, hq, hq0, hq1⟩ := q
 dsimp only at hq hq0 hq1 ⊢
 refine sqt 1 rfl (pur 1 rfl (Z0 ?_))
 refine Z1 rfl ?_ ?_ <;> intro hc1 <;> try simp only [cS] at hc1
 obtain ⟨x, ax, cx, hrow, hX, hxl, hqx⟩ : ∃ (x : List Int) (ax : Option Addr) (cx : Nat), ([[.slice al l.length cl], [.slice ak k.length ck]] : List (List Value))[q]? = some [.slice ax x.length cx] ∧ RowsA ax 1 (Z3 x) ∈ R ∧ (x.length ≤ 9223372036854775807 ∧ x.length ≤ cx) ∧ ((q = 0 ∧ x = l) ∨ (q = 1 ∧ x = k)) := by
   rcases (show q = 0 ∨ q = 1 by omega) with rfl | rfl
   · exact ⟨l, al, cl, rfl, hL.mem, ⟨hl, hlc⟩, .inl ⟨rfl, rfl⟩⟩
   · exact ⟨k, ak, ck, rfl, hK.mem, ⟨hkl, hkc⟩, .inr ⟨rfl, rfl⟩⟩
 haveI : MemRows ax 1 (Z3 x) R := ⟨hX⟩
 refine Z2 (Z0 (Z4 (sqt 3 rfl (sp rfl (PE.indexAddr Zbo rfl rfl (by omega) (by omega)) rfl (spL rfl rfl (lf0 Z0P hrow rfl) rfl (pur 1 rfl (sqt 5 rfl (pur 1 rfl (spL rfl rfl (lhA (htl h (h.sg ag cg) (h.ss as_ cs)) Z06 rfl rfl rfl) rfl (sp rfl (PE.makeFunc rfl rfl) rfl ?_))))))))))
 refine clV rfl Z9J rfl rfl (Z2I x ax cx 98 [h.v (h.sg ag cg) (h.ss as_ cs)] [] (fun z => inB z 0 (h.bins - 1)) Z8g hxl.1 hxl.2 _ _ (fun _ z _ => Z8k h hok.bins (h.sg ag cg) (h.ss as_ cs) z _ _)) ?_
 refine pur 1 rfl (sqt 2 rfl (pur 2 rfl ?_))
 refine Z1 rfl ?_ ?_ <;> intro hc2
 have hle : Zz h.bins x ≠ 0 := of_decide_eq_true hc2
 refine sqt 2 rfl (pur 2 rfl (Z6 ?_))
 exact rtA rfl rfl rfl ⟨by
   simp only [Z05]
   unfold Hse.botE
   rw [dF (by simpa using hck), cond_false]
   rcases hqx with ⟨rfl, rfl⟩ | ⟨rfl, rfl⟩
   · rw [dT hle]; rfl
   · rw [dF (by simpa using hq0 (by omega)), dT hle]; rfl, rfl, rfl⟩ drp
 have hle : Zz h.bins x = 0 := Classical.byContradiction fun e => by rw [show decide (ZaC (fun z => inB z 0 (h.bins - 1)) x ≠ 0) = true from decide_eq_true e] at hc2; cases hc2
 refine Z2 (sqr 2 rfl (sp rfl (PE.add rfl rfl (by omega)) rfl (pur 1 rfl ?_)))
 exact Z7 ⟨q + 1, by omega, fun _ => by rcases hqx with ⟨rfl, rfl⟩ | ⟨rfl, rfl⟩; exact hle; exact hq0 (by omega), fun _ => by rcases hqx with ⟨rfl, rfl⟩ | ⟨rfl, rfl⟩; omega; exact hle⟩ drp
 obtain rfl : q = 2 := by omega
 have hel := hq0 (by omega)
 have hek := hq1 (by omega)
 have e7 : h.botE l k = bif l.any (Z0r k) then 7 else 0 := by unfold Hse.botE; rw [dF (by simpa using hck), dF (by simpa using hel), dF (by simpa using hek)]; rfl
 refine Z9 (Za (Za (Zl (Z0 (sqt 3 rfl (pur 1 rfl (sp rfl (PE.makeFunc rfl rfl) rfl ?_)))))))
 refine clV rfl Z6K rfl rfl (Z0W l al cl 139 [] [_] (Z0r k) ZcS hl _ _ (fun x _ => Zb2 k ak ck b5 hkl x _ _)) ?_
 refine Z1 rfl ?_ ?_ <;> intro hc3
 refine sqt 1 rfl (pur 1 rfl (Z6 ?_))
 exact rtA rfl rfl rfl ⟨by simp only [Z05]; rw [e7, hc3]; rfl, rfl, rfl⟩ drp
 refine Z2 (sqt 1 rfl (pur 1 rfl (Z6 ?_)))
 exact rtA rfl rfl rfl ⟨by simp only [Z05]; rw [e7, hc3]; rfl, rfl, rfl⟩ drp
set_option maxHeartbeats 400000 in
theorem Zdj (d : Dk) (hd : d.Ok) (fl : List Int) (hfl : fl.length = 10) (q : Nat) (g : Gp) (hg : d.h.gaps[q]? = some g) (u : Int) (H : Z8) (R : Z5) [hD : MemRows (some ⟨d.bd, 0, none⟩) 4 [d.row] R] [hG : MemRows d.ag 2 (Zk d.h.gaps) R] [hS : MemRows d.as_ 3 (Zo d.h.sights) R] [sR : SubF d.R0 R] :
    FnV Tryz.prog 146 [.pointer (some ⟨d.bd, 0, none⟩), .agg (Zm fl).toArray, .int .i64 q, .int .i64 u] H R (.bool (frB d.h.gaps fl q u)) := by
 refine Ze Tryz.func146 rfl Tryz.ntmps146 rfl ?_
 refine sqt 2 rfl (bx rfl rfl rfl (fun b5 => pur 1 rfl (Z0 (sqt 11 rfl ?_))))
 have hgl := (List.getElem?_eq_some_iff.1 hg).1
 have hg10 := hd.ok.gl
 refine Zn (a := d.ag) (sz := 2) (rows := Zk d.h.gaps) (ne0 (by rw [Z0Y]; omega)) (fun bg og he => ?_)
 haveI : MemRows (some ⟨bg, og, none⟩) 2 (Zk d.h.gaps) R := ⟨he ▸ hG.mem⟩
 refine pur 1 rfl (sp rfl (PE.nilCheck rfl) rfl (sp rfl (PE.fA Z0N rfl) rfl (sp rfl (PE.fA ZV rfl) rfl (spL rfl rfl (lfB (sz := 4) (x := .slice (some ⟨bg, og, none⟩) d.h.gaps.length d.cg) Z3Q (by show some (d.h.sg d.ag d.cg) = _; unfold Hse.sg; rw [he])) rfl (pur 1 rfl (sp rfl (PE.indexAddr Z6P rfl rfl (by omega) (by omega)) rfl (sp rfl (PE.fA ZM rfl) rfl (spL rfl rfl (lf0 sc3 (Z1g hg) rfl) rfl (pur 2 rfl ?_)))))))))
 refine Z1 rfl ?_ ?_ <;> intro hc0
 refine sqt 5 rfl (pur 1 rfl (sp rfl (PE.indexArr Z4n rfl rfl (by omega) (by omega)) rfl (spL rfl rfl (lh sc3 rfl (Z0y (w := fl) (k := q) (by omega) (by show 0 + q * 1 = q; omega))) rfl (pur 2 rfl (Z6 ?_)))))
 first
   | exact rtA rfl rfl rfl ⟨by simp only [Z05]; rw [Z3M hg, hc0]; rfl, rfl, rfl⟩ drp
   | exact rtA rfl rfl rfl ⟨by simp only [Z05]; rw [Z3M hg]; simp_all, rfl, rfl⟩ drp
 refine Z2 (sqt 5 rfl (pur 1 rfl (sp rfl (PE.indexArr Z4n rfl rfl (by omega) (by omega)) rfl (spL rfl rfl (lh sc3 rfl (Z0y (w := fl) (k := q) (by omega) (by show 0 + q * 1 = q; omega))) rfl (pur 2 rfl (Z6 ?_))))))
 first
   | exact rtA rfl rfl rfl ⟨by simp only [Z05]; rw [Z3M hg, hc0]; rfl, rfl, rfl⟩ drp
   | exact rtA rfl rfl rfl ⟨by simp only [Z05]; rw [Z3M hg]; simp_all, rfl, rfl⟩ drp
theorem Zd5 {p q s vs : List Value} (h : q.length = vs.length) : spl (p ++ (q ++ s)) p.length vs = p ++ (vs ++ s) := by
  unfold spl
  rw [List.take_left, show p.length + vs.length = (p ++ q).length by simp [h], ← List.append_assoc p q s, List.drop_left, List.append_assoc]
theorem Zek {α : Type} {xs : List α} {i : Nat} (hi : i < xs.length) : ∃ A y B, xs = A ++ y :: B ∧ i = A.length := ⟨xs.take i, xs[i], xs.drop (i + 1), by rw [← List.drop_eq_getElem_cons hi, List.take_append_drop], by rw [List.length_take]; omega⟩
theorem Z0u (l : List Int) : (Z3 l).flatten = Zm l := Z2h l
theorem Zau (l : List Int) : ∀ r ∈ Z3 l, r.length = 1 := fun r hr => by obtain ⟨z, _, rfl⟩ := List.mem_map.1 hr; rfl
theorem Z3i {xs : List Int} {junk : List Value} {k : Nat} (h : k < xs.length) (v : Int) : spl (Zm xs ++ junk) (0 + ((k : Nat) : Int).toNat * 1) [.int .i64 v] = Zm (xs.set k v) ++ junk := by
  rw [show 0 + ((k : Nat) : Int).toNat * 1 = k by omega]
  obtain ⟨A, y, B, rfl, rfl⟩ := Zek h
  have h1 := Zd5 (p := Zm A) (q := [.int .i64 y]) (s := Zm B ++ junk) (vs := [.int .i64 v]) rfl
  rw [show (Zm A).length = A.length by simp [Zm]] at h1
  rw [show Zm (A ++ y :: B) ++ junk = Zm A ++ ([.int .i64 y] ++ (Zm B ++ junk)) by simp [Zm], h1]
  simp [Zm]
theorem Zab {xs : List Int} {junk : List Value} {k : Nat} (h : k < xs.length) : (Zm xs ++ junk)[0 + ((k : Nat) : Int).toNat * 1]? = some (.int .i64 (na xs k)) := by
  rw [show 0 + ((k : Nat) : Int).toNat * 1 = k by omega, List.getElem?_append_left (by rw [Zb]; exact h), Z5O (Z0s h)]
def RevI (l xs : List Int) (i : Nat) : Prop := xs.length = l.length ∧ ∀ p < l.length, na xs p = bif decide (p < i ∨ l.length ≤ p + i) then na l (l.length - 1 - p) else na l p
theorem RevI.start (l : List Int) : RevI l l 0 := ⟨rfl, fun p hp => by rw [decide_eq_false (by omega)]; rfl⟩
theorem RevI.step {l xs : List Int} {i : Nat} (h : RevI l xs i) (hi : i + i + 1 < l.length) : RevI l ((xs.set i (na xs (l.length - 1 - i))).set (l.length - 1 - i) (na xs i)) (i + 1) := by
  have hl := h.1
  refine ⟨by rw [List.length_set, List.length_set]; exact hl, fun p hp => ?_⟩
  rw [Z1H (by rw [List.length_set]; omega)]
  by_cases h1 : l.length - 1 - i = p
  · rw [decide_eq_true h1, cond_true, h.2 i (by omega), decide_eq_false (by omega), decide_eq_true (by omega), cond_true, cond_false]
    congr 1; omega
  · rw [decide_eq_false h1, cond_false, Z1H (by omega)]
    by_cases h2 : i = p
    · subst h2
      rw [decide_eq_true rfl, cond_true, h.2 _ (by omega), decide_eq_false (by omega), cond_false, decide_eq_true (by omega)]; rfl
    · rw [decide_eq_false h2, cond_false, h.2 p hp]
      have : (p < i ∨ l.length ≤ p + i) ↔ (p < i + 1 ∨ l.length ≤ p + (i + 1)) := by omega
      rw [decide_eq_decide.2 this]
theorem RevI.done {l xs : List Int} {i : Nat} (h : RevI l xs i) (hi : l.length ≤ i + i + 1) : xs = l.reverse := by
  apply List.ext_getElem?
  intro p
  rcases Nat.lt_or_ge p l.length with hp | hp
  · rw [Z0s (by rw [h.1]; exact hp), List.getElem?_reverse hp, Z0s (by omega), h.2 p hp]
    by_cases h1 : p < i ∨ l.length ≤ p + i
    · rw [decide_eq_true h1]; rfl
    · rw [decide_eq_false h1, cond_false, show l.length - 1 - p = p by omega]
  · rw [List.getElem?_eq_none (by rw [h.1]; exact hp), List.getElem?_eq_none (by rw [List.length_reverse]; exact hp)]
theorem Zdc (l : List Int) (b cap : Nat) (junk : List Value) (hl : l.length ≤ 1000000) (H : Z8) (R : Z5) :
    Fn Tryz.prog 147 [.slice (some ⟨b, 0, none⟩) l.length cap] ((b, cel 3 (Zm l ++ junk)) :: H) R (fun v H' R' => v = .tuple #[] ∧ H' = (b, cel 3 (Zm l.reverse ++ junk)) :: H ∧ R' = R) := by
 refine Ze Tryz.func147 rfl Tryz.ntmps147 rfl ?_
 refine sqt 5 rfl (pur 1 rfl (sp rfl (PE.lenSl Zw rfl) rfl (sp rfl (PE.sub rfl rfl (by omega)) rfl ?_)))
 rw [show (l.length : Int) - 1 = (l.length : Int) - 1 - ((0 : Nat) : Int) from by omega]
 refine pur 2 rfl (Z4 ?_)
 refine Zc (ι := {x : Nat × List Int // x.1 ≤ l.length ∧ RevI l x.2 x.1}) (fun x => ⟨[(0, .slice (some ⟨b, 0, none⟩) l.length cap), (2, .int .i64 x.1.1), (3, .int .i64 ((l.length : Int) - 1 - x.1.1))], (b, cel 3 (Zm x.1.2 ++ junk)) :: H, R⟩) (fun x => l.length - x.1.1) ⟨(0, l), Nat.zero_le _, RevI.start l⟩ ?_ (fun x => ?_)
 exact Zh idH
 obtain ⟨⟨i, xs⟩, hi, hr⟩ := x
 dsimp only at hi hr ⊢
 have hxl := hr.1
 refine Z0 (sqt 3 rfl (pur 3 rfl ?_))
 refine Z1 rfl ?_ ?_ <;> intro hc0 <;> try simp only [cS] at hc0
 have hii : i + i + 1 < l.length := by omega
 rw [show (l.length : Int) - 1 - i = (((l.length - 1 - i) : Nat) : Int) from by omega]
 refine Z2 (Z0 (Z4 ?_))
 refine Zf [0, 0, 0, 0, 0, 0, 48, 112, 0, 0, 768, 1792, 4083, 8179, 16383, 32767] (tks 0 7 (.ld 7 (tks 8 3 (.ld 11 (.tk 12 (.big 13 (.tk 14 (.big 15 .done)))))))) Zy (by kernel_rfl) ?_
 refine Zg 6 rfl (tk rfl (PE.indexAddr Z0R rfl rfl (by omega) (by omega)) rfl (ld rfl rfl (lh sc3 rfl (Zab (by omega))) rfl (Zg 2 rfl (tk rfl (PE.indexAddr Z0R rfl rfl (by omega) (by omega)) rfl (ld rfl rfl (lh sc3 rfl (Zab (by omega))) rfl (tk rfl (PE.indexAddr Z0R rfl rfl (by omega) (by omega)) rfl ?_))))))
 refine ZN (l' := Zm ((xs).set i (na xs (l.length - 1 - i))) ++ junk) rfl rfl rfl cn3 rfl rfl rfl (Z3i (show i < xs.length by omega) _) (by rw [List.length_append, Zb]; show 0 + ((i : Nat) : Int).toNat * 1 + 1 ≤ _; have := (show i < xs.length by omega); omega) ?_
 refine bgT (tk rfl (PE.indexAddr Z0R rfl rfl (by omega) (by omega)) rfl ?_)
 refine ZN (l' := Zm ((xs.set i (na xs (l.length - 1 - i))).set (l.length - 1 - i) (na xs i)) ++ junk) rfl rfl rfl cn3 rfl rfl rfl (Z3i (show (l.length - 1 - i) < (xs.set i (na xs (l.length - 1 - i))).length by rw [List.length_set]; omega) _) (by rw [List.length_append, Zb]; show 0 + (((l.length - 1 - i) : Nat) : Int).toNat * 1 + 1 ≤ _; have := (show (l.length - 1 - i) < (xs.set i (na xs (l.length - 1 - i))).length by rw [List.length_set]; omega); omega) ?_
 refine bgT (sqr 6 rfl (pur 1 rfl (sp rfl (PE.add rfl rfl (by omega)) rfl (pur 1 rfl (sp rfl (PE.sub rfl rfl (by omega)) rfl (pur 2 rfl ?_))))))
 rw [show (((l.length - 1 - i) : Nat) : Int) - 1 = (l.length : Int) - 1 - ((i + 1 : Nat) : Int) from by omega]
 exact Z7 ⟨(i + 1, (xs.set i (na xs (l.length - 1 - i))).set (l.length - 1 - i) (na xs i)), by dsimp only; omega, hr.step hii⟩ idH
 obtain rfl := hr.done (by omega)
 refine Z9 (Za (Za (Zl ?_)))
 exact Z2a (vs := []) rfl .nil rfl ⟨rfl, rfl, rfl⟩ idH
theorem Zaw (H : Z8) (R : Z5) :
    FnV Tryz.prog 147 [.slice none 0 0] H R (.tuple #[]) := by
 refine Ze Tryz.func147 rfl Tryz.ntmps147 rfl ?_
 refine sqt 5 rfl (pur 1 rfl (sp rfl (PE.lenSl Zw rfl) rfl (sp rfl (PE.sub rfl rfl (by omega)) rfl (pur 2 rfl (Z4 ?_)))))
 refine Zc (ι := Unit) (fun _ => ⟨[(2, .int .i64 0), (3, .int .i64 (-1))], H, R⟩) (fun x => 0) () ?_ (fun x => ?_)
 exact Zh idH
 refine Z0 (sqt 3 rfl (pur 3 rfl ?_))
 refine Z1 rfl ?_ ?_ <;> intro hc0
 exact absurd hc0 (by decide)
 refine Z9 (Za (Za (Zl ?_)))
 exact Z2a (vs := []) rfl .nil rfl ⟨rfl, rfl, rfl⟩ idH
theorem Z89 (l : List Int) (o : OSl 3 1 (Z3 l)) (hl : l.length ≤ 1000000) (H : Z8) (R : Z5) : Fn Tryz.prog 147 [o.fs] (o.G ++ H) R (fun v H' R' => ∃ o' : OSl 3 1 (Z3 l.reverse), o'.fs = o.fs ∧ v = .tuple #[] ∧ H' = o'.G ++ H ∧ R' = R) := by
  have hir : (Z3 l).length = l.length := List.length_map _
  have hrr : (Z3 l.reverse).length = l.length := by rw [List.length_map, List.length_reverse]
  rcases o.is with ⟨h1, h2, h3⟩ | ⟨b, cap, junk, h2, h3, hj, hc, hm⟩
  · have hx : l = [] := List.map_eq_nil_iff.1 h1
    subst hx
    rw [h2, h3]
    exact Fn.mono (Zaw H R) (by rintro v H' R' ⟨rfl, rfl, rfl⟩; exact ⟨OSl.nil _ _, rfl, rfl, rfl, rfl⟩)
  · rw [hir] at h2 hj hc
    rw [h2, h3, Z0u]
    exact Fn.mono (Zdc l b cap junk hl H R) (by
      rintro v H' R' ⟨rfl, rfl, rfl⟩
      exact ⟨⟨.slice (some ⟨b, 0, none⟩) (Z3 l.reverse).length cap, [(b, cel 3 ((Z3 l.reverse).flatten ++ junk))], Zau _, .inr ⟨b, cap, junk, rfl, rfl, by rw [hrr]; exact hj, by rw [hrr]; exact hc, hm⟩⟩, congrArg (fun q => Value.slice (some ⟨b, 0, none⟩) q cap) hrr, rfl, congrArg (fun q => (b, cel 3 (q ++ junk)) :: H) (Z0u l.reverse).symm, rfl⟩)
structure OQ (e sz : Nat) (rows : List (List Value)) where
  b : Nat
  off : Nat
  cap : Nat
  pre : List Value
  junk : List Value
  len : ∀ r ∈ rows, r.length = sz
  pl : pre.length = off
  room : cap * sz ≤ rows.length * sz + junk.length
  le : rows.length ≤ cap
  mx : cap ≤ 9223372036854775807
def OQ.fs {e sz : Nat} {rows : List (List Value)} (q : OQ e sz rows) : Value := .slice (some ⟨q.b, q.off, none⟩) rows.length q.cap
def OQ.G {e sz : Nat} {rows : List (List Value)} (q : OQ e sz rows) : Z8 := [(q.b, cel e (q.pre ++ (rows.flatten ++ q.junk)))]
theorem ZbH {a r j v : List Value} {o : Nat} (e : o = a.length + r.length) (h : v.length ≤ j.length) : spl (a ++ (r ++ j)) o v = a ++ ((r ++ v) ++ j.drop v.length) := by
  subst e
  unfold spl
  rw [← List.append_assoc a r j, show a.length + r.length = (a ++ r).length by simp, List.take_left, List.drop_append, List.drop_of_length_le (by omega), List.nil_append]
  simp [List.append_assoc]
theorem Z86 {P : Program} {t ty e sz by_ : Nat} (ht : apT P t = some (e, sz, by_)) {rows news : List (List Value)} (q : OQ e sz rows) {T : Z8} {R : Z5} {w : World} (hs : St (q.G ++ T) R w)
    {ax : Option Addr} {c : Nat} (hr : RowsA ax sz news w) (h0 : news ≠ []) (h1 : ZZ news = true) (hby : (rows.length + news.length) * by_ ≤ 140737488355328) (h63 : rows.length + news.length ≤ 9223372036854775807) :
    ∃ (q' : OQ e sz (rows ++ news)) (w' : World), (Builtin.append_ #[t, t] ty #[q.fs, .slice ax news.length c]).run P w = .ok q'.fs w' ∧ St (q'.G ++ T) R w' := by
  unfold apT at ht
  split at ht
  case h_2 => cases ht
  rename_i e' hu
  split at ht
  case h_2 => cases ht
  rename_i i hi
  split at ht
  case h_2 => cases ht
  rename_i z hz
  cases hzs : Nat.beq z.cells.size i.size with
  | false => rw [hzs] at ht; cases ht
  | true =>
  rw [hzs, cond_true] at ht
  cases ht
  have hzs := Nat.eq_of_beq_eq_true hzs
  have hnl := Z6b hr
  obtain ⟨b, off, cap, pre, junk, hl, hpl, hroom0, hle, hmx⟩ := q
  have hlen' : ∀ r ∈ rows ++ news, r.length = i.size := fun r h => by rcases List.mem_append.1 h with h | h; exact hl r h; exact hnl r h
  have hnf := ZT hnl
  have hrf := ZT hl
  obtain ⟨bx, offx, rfl⟩ := Z32 hr h0
  have hcell : ∀ j v, news.flatten[j]? = some v → w.cell? ((⟨bx, offx, none⟩ : Addr).add j) = some v := fun j v h => by rw [ZD]; exact Z3m hr j v h
  have hn0 : 0 < news.length := List.length_pos_iff.2 h0
  have hb := hs.held (b, cel e (pre ++ (rows.flatten ++ junk))) (by simp [OQ.G])
  by_cases hroom : rows.length + news.length ≤ cap
  · have hm2 : (rows.length + news.length) * i.size ≤ cap * i.size := Nat.mul_le_mul_right _ hroom
    rw [Nat.add_mul] at hm2
    have hjl : news.flatten.length ≤ junk.length := by omega
    have hst := Z2c (P := P) (e := e) (od := off + rows.length * i.size) (vs := news.flatten) (List.all_eq_true.2 (Z5X h1)) (by simp only [List.length_append, hrf, hpl]; omega) hb
    have hfc := run_firstCells_some (P := P) w i.size news.length ⟨bx, offx, none⟩ news.length c news.flatten hnf hcell
    have hsp : spl (pre ++ (rows.flatten ++ junk)) (off + rows.length * i.size) news.flatten = pre ++ ((rows ++ news).flatten ++ junk.drop news.flatten.length) := by
      rw [ZbH (by rw [hpl, hrf]) hjl, List.flatten_append]
    rw [hsp] at hst
    refine ⟨⟨b, off, cap, pre, junk.drop news.flatten.length, hlen', hpl, by rw [List.length_append, List.length_drop, Nat.add_mul]; omega, by rw [List.length_append]; exact hroom, hmx⟩, { w with heap := w.heap.setIfInBounds b (cel e (pre ++ ((rows ++ news).flatten ++ junk.drop news.flatten.length))) }, ?_, St.set hs⟩
    have e0 : (⟨b, off, none⟩ : Addr).add (rows.length * i.size) = ⟨b, off + rows.length * i.size, none⟩ := by rw [ZD]
    simp [OQ.fs, Builtin.append_, run_underlying hu, sizeOf, typeInfo, hi, Builtin.lenOf, hroom, hfc, e0, hst]
  · have holds : ∀ j v, rows.flatten[j]? = some v → w.cell? ((⟨b, off, none⟩ : Addr).add j) = some v := fun j v h => by
      have hlt : j < rows.flatten.length := (List.getElem?_eq_some_iff.1 h).1
      rw [ZD, Z1t hb]
      simp only [List.getElem?_toArray]
      rw [List.getElem?_append_right (by omega), show off + j - pre.length = j by omega, List.getElem?_append_left hlt]; exact h
    have h2 := run_append_grow (P := P) w t ty e i z hu hi hz ⟨b, off, none⟩ rows.length cap rows.flatten hrf holds ⟨bx, offx, none⟩ news.length c news.flatten hnf hcell (by omega) (by omega) (growslice_fits (by omega) hby)
    have hge := grownCap_ge w (rows.length + news.length) cap e
    have hcm : grownCap w (rows.length + news.length) cap e ≤ maxLen := grownCap_le_maxLen w _ cap e (by simp only [maxLen]; omega)
    refine ⟨⟨w.heap.size, 0, grownCap w (rows.length + news.length) cap e, [], (Builtin.zeroCells z.cells (grownCap w (rows.length + news.length) cap e - (rows.length + news.length))).toList, hlen', rfl, ?_, by rw [List.length_append]; exact hge, by simp only [maxLen] at hcm; omega⟩, w.drew.alloc (.cells (rows.flatten.toArray ++ news.flatten.toArray ++ Builtin.zeroCells z.cells (grownCap w (rows.length + news.length) cap e - (rows.length + news.length))) e), ?_, ?_⟩
    · simp only [Array.length_toList, size_zeroCells, hzs, List.length_append, ← Nat.add_mul]
      exact Nat.mul_le_mul_right _ (by omega)
    · exact h2.trans (by simp only [OQ.fs, List.length_append])
    · have h3 := (St.tail hs).drew.alloc (.cells (rows.flatten.toArray ++ news.flatten.toArray ++ Builtin.zeroCells z.cells (grownCap w (rows.length + news.length) cap e - (rows.length + news.length))) e)
      rw [show w.drew.heap.size = w.heap.size from rfl] at h3
      have e1 : (cel e ([] ++ ((rows ++ news).flatten ++ (Builtin.zeroCells z.cells (grownCap w (rows.length + news.length) cap e - (rows.length + news.length))).toList))) = .cells (rows.flatten.toArray ++ news.flatten.toArray ++ Builtin.zeroCells z.cells (grownCap w (rows.length + news.length) cap e - (rows.length + news.length))) e := by
        unfold cel; congr 1; apply Array.toList_inj.1; simp
      show St ((_, _) :: T) R _
      rw [e1]; exact h3
section
variable {P : Program} {r : Option Nat} {ops : Array Oper} {n : Nat} {L : Zi} {D : List Deferred} {H : Z8} {R : Z5} {K : Act → World → Prop}
  {i d : Nat} {ty : TypeId} {pos : String} {af : Array Edge}
theorem apQ {t e sz by_ c k : Nat} {s x : Operand} {rows news : List (List Value)} (q : OQ e sz rows) {ax : Option Addr} {C : Z8 → Z8}
    (ho : ops[i]? = some ⟨some d, .call { callee := .builtin .append, args := #[s, x], argTypes := #[t, t] }, ty, pos, af, none⟩) (ht : apT P t = some (e, sz, by_))
    (hs : ev L s = some q.fs) (hx : ev L x = some (.slice ax k c)) (hr : ∀ w, St H R w → RowsA ax sz news w) (hk : news.length = k) (h0 : news ≠ []) (h1 : ZZ news = true)
    (hb : (rows.length + news.length) * by_ ≤ 140737488355328 ∧ rows.length + news.length ≤ 9223372036854775807) (hd : Nat.blt d n = true)
    [rp : RepF q.G H C]
    (h : ∀ q' : OQ e sz (rows ++ news), Sy n ((d, q'.fs) :: L) D (C q'.G) R K) : Sy n L D H R (stp P r ops i K) := fun a w ha hD hs0 => by
  subst hk
  obtain ⟨T, p1, p2⟩ := rp.rep
  obtain ⟨q', w', h2, h3⟩ := Z86 ht q (hs0.perm p1) (hr w hs0) h0 h1 hb.1 hb.2
  refine Zr ho (Zd _ rfl _) (v := q'.fs) (w' := w') ?_ (h q' _ _ (ha.put (by simpa using hd) _) hD (h3.perm (p2 _)))
  simp only [execOp, resolve, invoke, builtin, Sem.run_bind, Sem.run_pure, Result.andThen, List.map_toArray, List.map_cons, List.map_nil, ha.reads _ _ hs, ha.reads _ _ hx]
  rw [show (Builtin.append_ #[t, t] ty #[q.fs, .slice ax news.length c]).run P w = _ from h2]
end
def OQ.cast {e sz : Nat} {rows rows' : List (List Value)} (q : OQ e sz rows) (h : rows = rows') : OQ e sz rows' := h ▸ q
@[simp] theorem OQ.cast_fs {e sz : Nat} {rows rows' : List (List Value)} (q : OQ e sz rows) (h : rows = rows') : (q.cast h).fs = q.fs := by subst h; rfl
@[simp] theorem OQ.cast_G {e sz : Nat} {rows rows' : List (List Value)} (q : OQ e sz rows) (h : rows = rows') : (q.cast h).G = q.G := by subst h; rfl
theorem OQ.pop {e sz : Nat} {row : List Value} {rows : List (List Value)} (q : OQ e sz (row :: rows)) : ∃ q' : OQ e sz rows, q'.fs = .slice (if q.cap = 1 then some ⟨q.b, q.off, none⟩ else some ⟨q.b, q.off + 1 * sz, none⟩) rows.length (q.cap - 1) ∧ q'.G = q.G := by
  obtain ⟨b, off, cap, pre, junk, hl, hpl, hroom, hle, hmx⟩ := q
  have hrl := hl row (by simp)
  rw [List.length_cons] at hroom hle
  rw [Nat.add_mul] at hroom
  by_cases h1 : cap = 1
  · have hr0 : rows = [] := List.length_eq_zero_iff.1 (by omega)
    subst hr0
    refine ⟨⟨b, off, cap - 1, pre, row ++ junk, by simp, hpl, by rw [h1]; simp, by simp, by omega⟩, ?_, ?_⟩
    · unfold OQ.fs; dsimp only; rw [if_pos h1]
    · unfold OQ.G; simp
  · refine ⟨⟨b, off + 1 * sz, cap - 1, pre ++ row, junk, fun r hr => hl r (by simp [hr]), by rw [List.length_append, hpl, hrl]; omega, by rw [Nat.sub_mul]; omega, by omega, by omega⟩, ?_, ?_⟩
    · unfold OQ.fs; dsimp only; rw [if_neg h1]
    · unfold OQ.G; simp [List.append_assoc]
theorem OQ.one {e sz : Nat} (b : Nat) {row : List Value} (h : row.length = sz) : ∃ q : OQ e sz [row], q.fs = .slice (some ⟨b, 0, none⟩) 1 1 ∧ q.G = [(b, cel e row)] :=
  ⟨⟨b, 0, 1, [], [], by simp [h], rfl, by simp, by simp, by decide⟩, rfl, by unfold OQ.G; simp⟩
end Go.Proofs.YthbjpnmclokinaaGreat
