/- Walks of the functions of the program, and the laws that join them: what the last theorem of this claim needs, in order. -/
import Derived.Test.YtjoajfdnlomapaaGreatPa3
namespace Go.Proofs.YtjoajfdnlomapaaGreat.Lo
set_option linter.unusedSimpArgs false
set_option linter.unusedVariables false
open Go
theorem Zdc : Z0W Tryz.prog 189 = some 2 := by kernel_rfl
theorem ZgA : apT Tryz.prog 60 = some (189, 2, 16) := by kernel_rfl
theorem Z8W : arN Tryz.prog 173 = some (10, 1) := by kernel_rfl
theorem Zec : cal Tryz.prog 103 = true := by kernel_rfl
theorem Z9V : cal Tryz.prog 154 = true := by kernel_rfl
theorem Zbi : cal Tryz.prog 46 = true := by kernel_rfl
theorem Z8q : cal Tryz.prog 59 = true := by kernel_rfl
theorem ZcY : cal Tryz.prog 80 = true := by kernel_rfl
theorem ZaQ : cal Tryz.prog 81 = true := by kernel_rfl
theorem Z8M : Zx Tryz.prog 189 = some 2 := by kernel_rfl
theorem cn3 : Zx Tryz.prog 3 = some 1 := by kernel_rfl
theorem Zgh : Zx Tryz.prog 59 = some 3 := by kernel_rfl
theorem ZgG : Zx Tryz.prog 60 = some 1 := by kernel_rfl
theorem Zd9 : eqB Tryz.prog 10000 189 = some (true, 2) := by kernel_rfl
theorem Zdj : Tryz.prog.eqGuardType Tryz.prog.depth 189 = false := by kernel_rfl
theorem Z3y : ZJ Tryz.prog 175 1 = some 7 := by kernel_rfl
theorem Z7R : ZJ Tryz.prog 189 1 = some 1 := by kernel_rfl
theorem ZdW : ZB Tryz.prog 119 = some [(0, 1)] := by kernel_rfl
theorem Z7G : ZB Tryz.prog 189 = some [(0, 1), (1, 1)] := by kernel_rfl
theorem Zgb : Z0b Tryz.prog 60 = true := by kernel_rfl
theorem Z4a : slE Tryz.prog 47 = some (3, 1) := by kernel_rfl
theorem ZgL : slE Tryz.prog 60 = some (189, 2) := by kernel_rfl
theorem Zcy : Zs Tryz.prog 119 = some ([.nilFunc]) := by kernel_rfl
theorem Z2U : Zs Tryz.prog 189 = some ([.int .i64 0, .int .i64 0]) := by kernel_rfl
theorem zl3 : Zs Tryz.prog 3 = some ([.int .i64 0]) := by kernel_rfl
theorem Z8j : Zs Tryz.prog 59 = some ([.int .i64 0, .int .i64 0, .int .i64 0]) := by kernel_rfl
theorem ZgD : Zs Tryz.prog 60 = some ([.slice none 0 0]) := by kernel_rfl
def bkC (l : Ldg) (p : Ln) (i : Nat) : Bool := match l.loans[i]? with | some x => decide (x.who = p.who) && decide (x.year ≤ p.year) | none => false
def bkS (l : Ldg) (p : Ln) (bk : List Int) (k : Nat) : List Int × Int := ((Z19 l (bkC l p)).take k).foldl (bkI l) (bk, p.bu)
theorem Z9T {f : Nat → List Nat} {n : Nat} (h : ∀ y, (f y).length ≤ n) : ∀ ys : List Nat, (ys.flatMap f).length ≤ ys.length * n
  | [] => by simp
  | y :: ys => by
    have ih := Z9T h ys
    have h1 := h y
    rw [List.flatMap_cons, List.length_append, List.length_cons, Nat.succ_mul]; omega
theorem Z71 {l : Ldg} (h : l.ok) (p : Nat → Bool) : (Z19 l p).length ≤ 90 := by
  have h1 := Z9T (f := yrL l p) (n := 10) (fun y => by
    unfold yrL
    refine Nat.le_trans (List.length_filter_le _ _) ?_
    rw [List.length_range]; exact h.nl) (List.range l.years.toNat)
  have := h.years
  rw [List.length_range] at h1
  unfold Z19
  omega
theorem Zag (a : List Int) (i : Nat) : a.set i (na0 a i) = a := by
  apply List.ext_getElem?
  intro j
  rw [List.getElem?_set]
  by_cases h : i = j
  · subst h
    by_cases hl : i < a.length
    · simp [hl, na0]
    · simp [hl]
  · simp [h]
theorem Zcn {l : Ldg} {s : List Int × Int} {i : Nat} (h : min s.2 (l.asked i - na0 s.1 i) = 0) : bkI l s i = s := by
  obtain ⟨a, b⟩ := s
  unfold bkI
  rw [h]
  simp only [Int.add_zero, Int.sub_zero]
  rw [Zag]
theorem Z5k {l : Ldg} {p : Ln} {bk : List Int} {k i : Nat} (h : (Z19 l (bkC l p))[k]? = some i) : bkS l p bk (k + 1) = bkI l (bkS l p bk k) i := by
  unfold bkS
  rw [List.take_add_one, h, List.foldl_append]; rfl
theorem ZaG (l : Ldg) (p : Ln) (bk : List Int) : bkS l p bk (Z19 l (bkC l p)).length = bkP l bk p := by
  unfold bkS
  rw [List.take_length]; rfl
theorem Z9Y {l : Ldg} (h : l.ok) {p : Ln} {bk : List Int} (hb : BkOk l bk) (hp : 0 ≤ p.bu) : ∀ k, BkOk l (bkS l p bk k).1 ∧ 0 ≤ (bkS l p bk k).2 ∧ (bkS l p bk k).2 ≤ p.bu
  | 0 => ⟨hb, hp, Int.le_refl _⟩
  | k + 1 => by
    have ih := Z9Y h hb hp k
    cases hx : (Z19 l (bkC l p))[k]? with
    | none =>
      have e : bkS l p bk (k + 1) = bkS l p bk k := by unfold bkS; rw [List.take_add_one, hx]; simp
      rw [e]; exact ih
    | some i =>
      rw [Z5k hx]
      have hi := ((Z1v h).1 (List.mem_of_getElem? hx)).1
      have hn := h.nl
      have hbd := ih.1.bd i
      obtain ⟨h1, h2⟩ := Z9R (i := i) ih.1 ih.2.1 (by omega)
      refine ⟨h1, h2, ?_⟩
      simp only [bkI]; omega
theorem Z1W {A : List Value} {bk : List Int} {i n : Nat} (hn : n = A.length + i) (hi : i < bk.length) : (A ++ Zd bk)[n]? = some (.int .i64 (na0 bk i)) := by
  subst hn
  rw [List.getElem?_append_right (by omega), Nat.add_sub_cancel_left]
  simp [Zd, na0, hi]
theorem ZdQ {A : List Value} {bk : List Int} {i n : Nat} (v : Value) (hn : n = A.length + i) (hi : i < bk.length) : n + [v].length ≤ (A ++ Zd bk).length := by
  subst hn
  rw [List.length_append, List.length_map, List.length_singleton]; omega
theorem Zce {A : List Value} {bk : List Int} {i n : Nat} {v : Int} (hn : n = A.length + i) (hi : i < bk.length) : spl (A ++ Zd bk) n [.int .i64 v] = A ++ Zd (bk.set i v) := by
  subst hn
  unfold spl
  rw [List.take_length_add_append, List.append_assoc, List.append_assoc]
  congr 1
  rw [show A.length + i + [Value.int .i64 v].length = A.length + (i + 1) from by simp; omega, List.drop_length_add_append]
  apply List.ext_getElem?
  intro j
  simp only [Zd, List.map_set]
  rw [List.set_eq_take_append_cons_drop, if_pos (by simpa using hi)]
  simp
def ZbB (l : Ldg) (y : Int) : List Ln := l.pays.filter fun p => decide (p.year ≤ y)
theorem unt_all {l : Ldg} (h : l.ok) {y : Int} (hy : l.years - 1 ≤ y) : ZbB l y = l.pays := List.filter_eq_self.2 fun p hp => by
  have := (h.pays p hp).2.2
  exact decide_eq_true (by omega)
theorem Z2j (n m : Int) (b : Nat) (H : Z6) (R : Z3) {T : Z6} [pl : Pull b (cel 3 [.int .i64 m]) H T] : FnV Tryz.prog 59 [.int .i64 n, .slice (some ⟨b, 0, none⟩) 1 1] H R (.int .i64 (min n m)) :=
  FnV.lend (pl := pl) (sz := 1) (rows := [[.int .i64 m]]) (junk := []) (by simp) (fun B => Z99 n m (some ⟨b, 0, none⟩) 1 T _)
theorem Z7L (l : Ldg) (a1 a2 a3 a4 a5 : Option Addr) (k1 k2 k3 k4 k5 : Nat) (hl : l.ok) (bd : Nat) (p : Ln) (hp : 0 ≤ p.bu ∧ p.bu ≤ 1000000) (bk : List Int) (hb : BkOk l bk) (H : Z6) (R : Z3) [hR2 : MemRows a2 1 (irows l.forg) R] [hR3 : MemRows a3 3 (lnrows l.loans) R] :
    Fn Tryz.prog 46 [.pointer (some ⟨bd, 0, none⟩), .agg (lnrow p).toArray] ((bd, cel 175 ((lgl l a1 a2 a3 a4 a5 k1 k2 k3 k4 k5) ++ Zd (bk))) :: H) R (fun v H' R' => ∃ (rows : List (List Value)) (o : OSl 189 2 rows), v = .tuple #[o.fs, .int .i64 (bkP l bk p).2] ∧ H' = o.G ++ (bd, cel 175 ((lgl l a1 a2 a3 a4 a5 k1 k2 k3 k4 k5) ++ Zd ((bkP l bk p).1))) :: H ∧ R' = R) := by
 refine Z5u Tryz.func46 rfl Tryz.ntmps46 rfl ?_
 refine sqt 4 rfl (bx rfl rfl rfl (fun b2 => bx rfl rfl rfl (fun b3 => pur 2 rfl (sqt 1 rfl (alc rfl ZgD rfl (fun b6 => sqt 4 rfl (sp rfl (PE.fA Za9 rfl) rfl (spL rfl rfl (lh sc3 rfl rfl) rfl (alc rfl zl3 rfl (fun b7 => ?_))))))))))
 refine sto rfl rfl rfl cn3 rfl rfl rfl rfl ?_
 refine Z0 (sqt 4 rfl (spL rfl rfl (lh Z0L rfl rfl) rfl (sp rfl (PE.makeFunc rfl rfl) rfl (sp rfl (PE.build (out := [_]) ZdW Zcy rfl rfl) rfl ?_))))
 refine cl rfl ZcY rfl rfl (Z7n bd 103 [] [.pointer (some ⟨b2, 0, none⟩), .pointer (some ⟨b3, 0, none⟩)] _ _) ?_
 rintro _ _ _ ⟨q2, q3, rfl, rfl, rfl⟩
 refine Z4 ?_
 refine Z2n rfl Z9V (fun c0 bl0 bd0 hcp0 hca0 hcb0 hck0 => ?_)
 refine ⟨fun st pend T R' => st = .ready ∧ pend = none ∧ ∃ (rows : List (List Value)) (o : OSl 189 2 rows), T = (bd0, .deferred (some [])) :: (b7, cel 3 [.int .i64 (bkP l bk p).2]) :: (b6, cel 60 [o.fs]) :: (b3, cel 59 (lnrow p)) :: (b2, cel 114 [.pointer (some ⟨bd, 0, none⟩)]) :: (o.G ++ (bd, cel 175 ((lgl l a1 a2 a3 a4 a5 k1 k2 k3 k4 k5) ++ Zd ((bkP l bk p).1))) :: H) ∧ R' = RowsA (some ⟨q3, 0, none⟩) 1 [[.func (.func 103) #[] #[.pointer (some ⟨b2, 0, none⟩), .pointer (some ⟨b3, 0, none⟩)]]] :: RowsA (some ⟨q2, 0, none⟩) 1 [[.pointer (some ⟨bd, 0, none⟩)]] :: R,
   Fn.mono (Z5y l a1 a2 a3 a4 a5 k1 k2 k3 k4 k5 hl bd q2 q3 bl0 103 [] [.pointer (some ⟨b2, 0, none⟩), .pointer (some ⟨b3, 0, none⟩)] (bkC l p) Zec (fun k H' R' => ∃ (rows : List (List Value)) (o : OSl 189 2 rows), rows.length ≤ k ∧ H' = (bl0, lob c0 .ready none) :: (bd0, .deferred (some [])) :: (b7, cel 3 [.int .i64 (bkS l p bk k).2]) :: (b6, cel 60 [o.fs]) :: (b3, cel 59 (lnrow p)) :: (b2, cel 114 [.pointer (some ⟨bd, 0, none⟩)]) :: (o.G ++ (bd, cel 175 ((lgl l a1 a2 a3 a4 a5 k1 k2 k3 k4 k5) ++ Zd ((bkS l p bk k).1))) :: H) ∧ R' = RowsA (some ⟨q3, 0, none⟩) 1 [[.func (.func 103) #[] #[.pointer (some ⟨b2, 0, none⟩), .pointer (some ⟨b3, 0, none⟩)]]] :: RowsA (some ⟨q2, 0, none⟩) 1 [[.pointer (some ⟨bd, 0, none⟩)]] :: R) (fun _ _ => False)
     (fun k H' R' h => by obtain ⟨rows, o, _, rfl, rfl⟩ := h; exact ⟨⟨(bkS l p bk k).1, by simp⟩, by simp, by simp, List.mem_cons_of_mem _ (List.mem_cons_of_mem _ hR3.mem)⟩)
     (fun k H' R' i hi h => by obtain ⟨rows, o, _, rfl, rfl⟩ := h; exact ZaO l a1 a2 a3 a4 a5 k1 k2 k3 k4 k5 hl i hi bd b2 b3 p _ _ _)
     (fun k i H' R' hk hI => ?_) _ _ ⟨[], OSl.nil _ _, Nat.zero_le _, rfl, rfl⟩) (fun v H' R' h => ?_), ?_⟩
 rotate_left
 · rcases h with ⟨rows, o, _, rfl, rfl⟩ | h
   · rw [ZaG]
     exact ⟨.ready, none, _, by simp, .refl _, rfl, rfl, rows, o, rfl, rfl⟩
   · exact h.elim
 rotate_left
 obtain ⟨rows, o, hrl, rfl, rfl⟩ := hI
 have hi := ((Z1v hl).1 (List.mem_of_getElem? hk)).1
 have hnl := hl.nl
 obtain ⟨hsb, hs0, hs1⟩ := Z9Y hl hb hp.1 k
 have ha := Z2p hl i
 have hbd := hsb.bd i
 have hil : i < (bkS l p bk k).1.length := by rw [hsb.len]; omega
 have hst : bkS l p bk (k + 1) = bkI l (bkS l p bk k) i := Z5k hk
 have hkl := (List.getElem?_eq_some_iff.1 hk).1
 have hoc := Z71 hl (bkC l p)
 rw [hst]
 clear hst
 generalize bkS l p bk k = s at *
 obtain ⟨m, hm⟩ : ∃ m, m = min s.2 (l.asked i - na0 s.1 i) := ⟨_, rfl⟩
 refine Z8Z hcp0 hca0 hcb0 hck0 rfl ?_
 refine sqr 1 rfl (pur 1 rfl ?_)
 refine Z0a ?_
 refine Z4 (Z0 ?_)
 refine Z4j (ι := Nat) (fun b9 => ⟨[(8, .int .i64 (i : Int)), (2, .pointer (some ⟨b2, 0, none⟩)), (6, .pointer (some ⟨b6, 0, none⟩)), (7, .pointer (some ⟨b7, 0, none⟩)), (9, .pointer (some ⟨b9, 0, none⟩))], (b9, cel 189 [.int .i64 (i : Int), .int .i64 m]) :: (bl0, lob c0 .busy none) :: (bd0, .deferred (some [])) :: (b7, cel 3 [.int .i64 s.2]) :: (b6, cel 60 [o.fs]) :: (b3, cel 59 (lnrow p)) :: (b2, cel 114 [.pointer (some ⟨bd, 0, none⟩)]) :: (o.G ++ (bd, cel 175 ((lgl l a1 a2 a3 a4 a5 k1 k2 k3 k4 k5) ++ Zd (s.1))) :: H), RowsA (some ⟨q3, 0, none⟩) 1 [[.func (.func 103) #[] #[.pointer (some ⟨b2, 0, none⟩), .pointer (some ⟨b3, 0, none⟩)]]] :: RowsA (some ⟨q2, 0, none⟩) 1 [[.pointer (some ⟨bd, 0, none⟩)]] :: R⟩) ?_ ?_
 refine Z9 [0, 0, 0, 4, 12, 28, 0, 124, 0, 0, 256, 1280, 3840, 7936, 16380, 32764, 65534, 131071, 0, 524287] (.tk 0 (.ld 1 (.ld 2 (.tk 3 (.tk 4 (.ld 5 (.tk 6 (.ld 8 (tks 9 4 (.ld 13 (.any (.alt 7 (.tk 14 (.any (.alt 15 (.any (.alt 16 (.tk 17 (.big 18 (.big 19 .done))) (.alt 18 (.big 16 (.tk 17 (.big 19 .done))) .stop))) (.alt 18 (.big 15 (.big 16 (.tk 17 (.big 19 .done)))) .stop)))) (.alt 18 (.big 7 (.tk 14 (.big 15 (.big 16 (.tk 17 (.big 19 .done)))))) .stop))))))))))))) Zo (by kernel_rfl) ?_
 refine Zf 1 rfl (ld rfl rfl (lh sc3 rfl rfl) rfl (ld rfl rfl (lh Z0L rfl rfl) rfl (tk rfl (PE.nilCheck rfl) rfl (tk rfl (PE.fA Z0V rfl) rfl (ld rfl rfl (lhA (lgl l a1 a2 a3 a4 a5 k1 k2 k3 k4 k5) Z17 rfl rfl rfl) rfl (Zf 1 rfl (ld rfl rfl (lh Z0L rfl rfl) rfl (Zf 1 rfl (tk rfl (PE.nilCheck rfl) rfl (tk rfl (PE.fA Z3y rfl) rfl (tk rfl (PE.indexArr Z8W rfl rfl (by omega) (by omega)) rfl (ld rfl rfl (lh sc3 rfl (Z1W (by show _ = 7 + i; omega) hil)) rfl ?_))))))))))))
 refine ZH ?_ ?_
 refine clV rfl ZaQ rfl rfl (Z50 l a1 a2 a3 a4 a5 k1 k2 k3 k4 k5 hl i hi _ _) ?_
 refine bg (fun w hs => ⟨(lh sc3 rfl (Z1W (by show _ = 7 + i; omega) hil)) w hs, (lh Z0L rfl rfl) w hs, trivial, trivial, (lh sc3 rfl rfl) w hs, trivial⟩) ?_
 refine tk rfl (PE.sub rfl rfl (by omega)) rfl ?_
 refine ZH ?_ ?_
 refine bsl (out := [_]) rfl Z4a zl3 rfl rfl rfl rfl rfl rfl (fun b32 => ?_)
 refine bg (fun w hs => ⟨trivial, trivial, (lh sc3 rfl rfl) w hs, trivial⟩) ?_
 refine ZH ?_ ?_
 refine cl rfl Z8q rfl rfl (Z2j _ _ b32 _ _) ?_
 rintro _ _ _ ⟨rfl, rfl, rfl⟩
 rw [← hm]
 refine bgT (tk rfl (PE.build (out := [_, _]) Z7G Z2U rfl rfl) rfl (alc rfl Z2U rfl (fun b9 => bgT ?_)))
 refine sto rfl rfl rfl Z8M rfl rfl rfl rfl ?_
 refine bgT ?_
 exact Zv b9 (fun w h => (h.del b32).pull b9)
 refine ZH ?_ ?_
 refine alc rfl Z2U rfl (fun b9 => ?_)
 refine bg (fun w hs => ⟨(lh sc3 rfl rfl) w hs, trivial⟩) ?_
 refine cl rfl Z8q rfl rfl (Z2j _ _ b32 _ _) ?_
 rintro _ _ _ ⟨rfl, rfl, rfl⟩
 rw [← hm]
 refine bgT (tk rfl (PE.build (out := [_, _]) Z7G Z2U rfl rfl) rfl ?_)
 refine sto rfl rfl rfl Z8M rfl rfl rfl rfl ?_
 refine bgT ?_
 exact Zv b9 (fun w h => (h.del b32).pull b9)
 exact ZZ
 refine ZH ?_ ?_
 refine alc rfl Z2U rfl (fun b9 => ?_)
 refine bg (fun w hs => ⟨(lh sc3 rfl (Z1W (by show _ = 7 + i; omega) hil)) w hs, (lh Z0L rfl rfl) w hs, (lh sc3 rfl rfl) w hs, trivial⟩) ?_
 refine bsl (out := [_]) rfl Z4a zl3 rfl rfl rfl rfl rfl rfl (fun b32 => ?_)
 refine bg (fun w hs => ⟨trivial, trivial, (lh sc3 rfl rfl) w hs, trivial⟩) ?_
 refine cl rfl Z8q rfl rfl (Z2j _ _ b32 _ _) ?_
 rintro _ _ _ ⟨rfl, rfl, rfl⟩
 rw [← hm]
 refine bgT (tk rfl (PE.build (out := [_, _]) Z7G Z2U rfl rfl) rfl ?_)
 refine sto rfl rfl rfl Z8M rfl rfl rfl rfl ?_
 refine bgT ?_
 exact Zv b9 (fun w h => (h.del b32).pull b9)
 exact ZZ
 refine ZH ?_ ?_
 refine alc rfl Z2U rfl (fun b9 => ?_)
 refine bg (fun w hs => ⟨(lh sc3 rfl (Z1W (by show _ = 7 + i; omega) hil)) w hs, (lh Z0L rfl rfl) w hs, (lhA (lgl l a1 a2 a3 a4 a5 k1 k2 k3 k4 k5) Z17 rfl rfl rfl) w hs, (lh Z0L rfl rfl) w hs, (lh sc3 rfl rfl) w hs, trivial⟩) ?_
 refine clV rfl ZaQ rfl rfl (Z50 l a1 a2 a3 a4 a5 k1 k2 k3 k4 k5 hl i hi _ _) ?_
 refine bg (fun w hs => ⟨(lh sc3 rfl (Z1W (by show _ = 7 + i; omega) hil)) w hs, (lh Z0L rfl rfl) w hs, trivial, trivial, (lh sc3 rfl rfl) w hs, trivial⟩) ?_
 refine tk rfl (PE.sub rfl rfl (by omega)) rfl ?_
 refine bsl (out := [_]) rfl Z4a zl3 rfl rfl rfl rfl rfl rfl (fun b32 => ?_)
 refine bg (fun w hs => ⟨trivial, trivial, (lh sc3 rfl rfl) w hs, trivial⟩) ?_
 refine cl rfl Z8q rfl rfl (Z2j _ _ b32 _ _) ?_
 rintro _ _ _ ⟨rfl, rfl, rfl⟩
 rw [← hm]
 refine bgT (tk rfl (PE.build (out := [_, _]) Z7G Z2U rfl rfl) rfl ?_)
 refine sto rfl rfl rfl Z8M rfl rfl rfl rfl ?_
 refine bgT ?_
 exact Zv b9 (fun w h => (h.del b32).pull b9)
 exact ZZ
 intro b9
 dsimp only
 refine Z0 (sqt 4 rfl (spL rfl rfl (lhA [_, _] Zdc rfl rfl rfl) rfl (pur 1 rfl (sp rfl (PE.build (out := [_, _]) Z7G Z2U rfl rfl) rfl (sp rfl (PE.eqlAgg [(i : Int), m] [(i : Int), 0] (Z0n 10000 189 true 2 Zd9) Zdj rfl rfl rfl rfl) rfl ?_)))))
 refine Z2 rfl ?_ ?_ <;> intro hc0
 try simp only [cS] at hc0
 have hm0 : m = 0 := by simpa using hc0
 refine Za (Zb (Zr ?_))
 rw [Zcn (by rw [← hm]; exact hm0)]
 exact Zm (.inl ⟨rfl, rows, o, by omega, rfl, rfl⟩) (fun w h => h.del b9)
 refine Z5 (sqt 5 rfl (spL rfl rfl (lh Zgb rfl rfl) rfl (spL rfl rfl (lhA [_, _] Zdc rfl rfl rfl) rfl ?_)))
 refine bsl (out := [_, _]) rfl ZgL Z2U rfl rfl rfl rfl rfl rfl (fun b41 => ?_)
 refine apO (o) rfl ZgA rfl rfl (Z3N (row := [.int .i64 (i : Int), .int .i64 m]) rfl) rfl rfl ((by simp only [List.length_singleton]; omega)) rfl (fun o42 => ?_)
 refine Z02 (l' := [o42.fs]) rfl rfl rfl ZgG rfl (by rw [o42.cells.1]; first | done | rfl) (by rw [o42.cells.1]; simp [o42.cells.2]) (by rw [o42.cells.1]; first | done | rfl) (by rw [o42.cells.1]; first | done | exact Nat.le_refl _) ?_
 refine Z0 ?_
 refine Z9 [0, 0, 1, 5, 15, 31, 0, 64, 255, 1, 513, 2047, 4095] (.ld 0 (tks 1 4 (.ld 5 (.tk 6 (.ld 7 (tks 8 4 (.big 12 .done))))))) Zo (by kernel_rfl) ?_
 refine ld rfl rfl (lh Z0L rfl rfl) rfl (Zf 1 rfl (tk rfl (PE.nilCheck rfl) rfl (tk rfl (PE.fA Z3y rfl) rfl (tk rfl (PE.indexArr Z8W rfl rfl (by omega) (by omega)) rfl (ld rfl rfl (lh sc3 rfl (Z1W (by show _ = 7 + i; omega) hil)) rfl (tk rfl (PE.fA Z7R rfl) rfl (ld rfl rfl (lh sc3 rfl rfl) rfl (tk rfl (PE.add rfl rfl (by omega)) rfl (tk rfl (PE.nilCheck rfl) rfl (tk rfl (PE.fA Z3y rfl) rfl (tk rfl (PE.indexArr Z8W rfl rfl (by omega) (by omega)) rfl ?_)))))))))))
 refine Z02 (l' := (lgl l a1 a2 a3 a4 a5 k1 k2 k3 k4 k5) ++ Zd (s.1.set i (na0 s.1 i + m))) rfl rfl rfl cn3 rfl rfl rfl (Zce (by show _ = 7 + i; omega) hil) (ZdQ _ (by show _ = 7 + i; omega) hil) ?_
 refine bgT (sqr 5 rfl (spL rfl rfl (lh sc3 rfl rfl) rfl (sp rfl (PE.fA Z7R rfl) rfl (spL rfl rfl (lh sc3 rfl rfl) rfl (sp rfl (PE.sub rfl rfl (by omega)) rfl ?_)))))
 refine sto rfl rfl rfl cn3 rfl rfl rfl rfl ?_
 rw [show bkI l s i = (s.1.set i (na0 s.1 i + m), s.2 - m) from by rw [hm]; rfl]
 exact Zm (.inl ⟨rfl, _, o42, by rw [List.length_append]; simp only [List.length_singleton]; omega, rfl, rfl⟩) (fun w h => (h.del b41).del b9)
 rintro _ _ _ _ ⟨rfl, rfl, rows, o, rfl, rfl⟩
 refine Z9f ?_
 refine Z0 ?_
 refine Z9 [0, 0, 1, 7] (.ld 0 (.ld 1 (.tk 2 (.tk 3 .done)))) Zo (by kernel_rfl) ?_
 refine ld rfl rfl (lh Zgb rfl rfl) rfl (ld rfl rfl (lh sc3 rfl rfl) rfl (Zf 2 rfl (Z1 ?_)))
 exact Z0s [bd0] idH rfl (.cons (RV.tmp rfl) (.cons (RV.tmp rfl) .nil)) rfl ⟨rows, o, rfl, rfl, rfl⟩ (fun w h => ((((h.del b7).del b6).del b3).del b2).ftail.ftail)
theorem ZaA (l : Ldg) (a1 a2 a3 a4 a5 : Option Addr) (k1 k2 k3 k4 k5 : Nat) (hl : l.ok) (bd : Nat) (y : Int) (bk : List Int) (hb : BkOk l bk) (H : Z6) (R : Z3) [hR2 : MemRows a2 1 (irows l.forg) R] [hR3 : MemRows a3 3 (lnrows l.loans) R] [hR4 : MemRows a4 3 (lnrows l.pays) R] :
    Fn Tryz.prog 79 [.pointer (some ⟨bd, 0, none⟩), .int .i64 y] ((bd, cel 175 ((lgl l a1 a2 a3 a4 a5 k1 k2 k3 k4 k5) ++ Zd (bk))) :: H) R (fun v H' R' => BkOk l (bkA l bk (ZbB l y)) ∧ H' = (bd, cel 175 ((lgl l a1 a2 a3 a4 a5 k1 k2 k3 k4 k5) ++ Zd ((bkA l bk (ZbB l y))))) :: H ∧ R' = R) := by
 refine Z8 Tryz.func79 rfl Tryz.ntmps79 rfl ?_
 refine sqt 7 rfl (pur 1 rfl (sp rfl (PE.nilCheck rfl) rfl (sp rfl (PE.fA Z0V rfl) rfl (sp rfl (PE.fA Z05 rfl) rfl (spL rfl rfl (lh Z3K rfl rfl) rfl (sp rfl (PE.lenSl Z2V rfl) rfl (pur 1 rfl (Z4 ?_))))))))
 refine Zc (ι := {k : Nat // k ≤ l.pays.length}) (fun k => ⟨[(0, .pointer (some ⟨bd, 0, none⟩)), (1, .int .i64 y), (10, .slice a4 l.pays.length k4), (11, .int .i64 l.pays.length), (12, .int .i64 k.1)], (bd, cel 175 ((lgl l a1 a2 a3 a4 a5 k1 k2 k3 k4 k5) ++ Zd ((bkA l bk ((l.pays.take k.1).filter fun p => decide (p.year ≤ y)))))) :: H, R⟩) (fun k => l.pays.length - k.1) ⟨0, by omega⟩ ?_ (fun k => ?_)
 exact Zk idH
 obtain ⟨k, hk⟩ := k
 dsimp only at hk ⊢
 have hnp := hl.np
 refine sqt 1 rfl (pur 1 rfl (Z0 ?_))
 refine Z2 rfl ?_ ?_ <;> intro hc0 <;> try simp only [cS] at hc0
 obtain ⟨x, hx⟩ : ∃ x, l.pays[k]? = some x := ⟨_, List.getElem?_eq_getElem (by omega)⟩
 have hxb := (hl.pays x (List.mem_of_getElem? hx)).1
 have hkb : BkOk l (bkA l bk ((l.pays.take k).filter fun p => decide (p.year ≤ y))) := Z4m hl _ hb (fun q hq => by have := (hl.pays q (List.mem_of_mem_take (List.mem_filter.1 hq).1)).1; omega)
 refine Zl (a := a4) (sz := 3) (rows := lnrows l.pays) (by intro h0; simp [lnrows] at h0; simp [h0] at hx) (fun b off he => ?_)
 subst he
 have htk : l.pays.take (k + 1) = l.pays.take k ++ [x] := by rw [List.take_add_one, hx]; rfl
 refine Z5 (Z0 (Z4 (sqt 4 rfl (sp rfl (PE.indexAddr ZbK rfl rfl (by omega) (by omega)) rfl (spL rfl rfl (lfA Z8h (row := lnrow x) (Z0U hx) rfl) rfl (alc rfl Z8j rfl (fun b5 => ?_)))))))
 refine sto rfl rfl rfl Zgh rfl rfl rfl rfl ?_
 refine sqt 4 rfl (sp rfl (PE.fA Z4c rfl) rfl (spL rfl rfl (lh sc3 rfl rfl) rfl (pur 2 rfl ?_)))
 refine Z2 rfl ?_ ?_ <;> intro hc1 <;> try simp only [cS] at hc1
 refine sqr 3 rfl (pur 1 rfl (spL rfl rfl (lhA [_, _, _] Z8h rfl rfl rfl) rfl ?_))
 refine Zq bd ?_
 refine cl rfl Zbi rfl rfl (Z7L l a1 a2 a3 (some ⟨b, off, none⟩) a5 k1 k2 k3 k4 k5 hl bd x (by omega) _ hkb _ _) ?_
 rintro _ _ _ ⟨rows, o, rfl, rfl, rfl⟩
 refine Sy.heap (fun w h => St.drop h) ?_
 have hst : bkA l bk ((l.pays.take (k + 1)).filter fun p => decide (p.year ≤ y)) = (bkP l (bkA l bk ((l.pays.take k).filter fun p => decide (p.year ≤ y))) x).1 := by rw [htk, List.filter_append]; unfold bkA; rw [List.foldl_append]; simp [hc1]
 refine sqr 2 rfl (sp rfl (PE.add rfl rfl (by omega)) rfl (pur 1 rfl ?_))
 exact Ze ⟨k + 1, by omega⟩ (fun w h => by dsimp only; rw [hst]; exact h.del b5)
 have hst : (l.pays.take (k + 1)).filter (fun p => decide (p.year ≤ y)) = (l.pays.take k).filter (fun p => decide (p.year ≤ y)) := by rw [htk, List.filter_append]; simp; omega
 refine Z5 (sqr 2 rfl (sp rfl (PE.add rfl rfl (by omega)) rfl (pur 1 rfl ?_)))
 exact Ze ⟨k + 1, by omega⟩ (fun w h => by dsimp only; rw [hst]; exact h.del b5)
 obtain rfl : k = l.pays.length := by omega
 rw [List.take_length]
 refine Za (Zb (Zb (Zr ?_)))
 exact Z1P (vs := []) rfl .nil rfl ⟨Z4m hl _ hb (fun q hq => by have := (hl.pays q (List.mem_filter.1 hq).1).1; omega), rfl, rfl⟩ idH
theorem Zfw : Z0W Tryz.prog 119 = some 1 := by kernel_rfl
theorem ZfU : cal Tryz.prog 38 = true := by kernel_rfl
theorem ZeG : cal Tryz.prog 39 = true := by kernel_rfl
theorem Zf1 : cal Tryz.prog 40 = true := by kernel_rfl
theorem ZdA : cal Tryz.prog 44 = true := by kernel_rfl
theorem Zg3 : cal Tryz.prog 79 = true := by kernel_rfl
theorem ZbM : slE Tryz.prog 49 = some (59, 3) := by kernel_rfl
theorem Z1t {a : Option Addr} {sz : Nat} {rows : List (List Value)} {w : World} (h : RowsA a sz rows w) (ha : a.isNone = true) : rows = [] := by
  false_or_by_contra
  rename_i h0
  obtain ⟨b, off, e⟩ := Z2z h h0
  rw [e] at ha; cases ha
def Z5r (l : Ldg) (who : Int) (i : Nat) : Bool := match l.loans[i]? with | some x => decide (x.who = who) | none => false
theorem Zb5 (l : Ldg) (who : Int) (ps : List Ln) : owesL l who ps = lfO l (bkA l (List.replicate 10 0) ps) (Z19 l (Z5r l who)) := rfl
def lfS (l : Ldg) (bk : List Int) (who : Int) (k : Nat) : Int := lfO l bk ((Z19 l (Z5r l who)).take k)
theorem Z97 {l : Ldg} {bk : List Int} {who : Int} {k i : Nat} (h : (Z19 l (Z5r l who))[k]? = some i) : lfS l bk who (k + 1) = lfS l bk who k + (l.asked i - na0 bk i) := by
  unfold lfS lfO
  rw [List.take_add_one, h, List.map_append, List.sum_append]; simp
theorem Zaz (l : Ldg) (bk : List Int) (who : Int) : lfS l bk who (Z19 l (Z5r l who)).length = lfO l bk (Z19 l (Z5r l who)) := by unfold lfS; rw [List.take_length]
theorem Z9I {l : Ldg} (h : l.ok) {bk : List Int} (hb : BkOk l bk) : ∀ o : List Nat, 0 ≤ lfO l bk o ∧ lfO l bk o ≤ 550 * o.length
  | [] => by simp [lfO]
  | i :: o => by
    have ih := Z9I h hb o
    have h1 := Z2p h i
    have h2 := hb.bd i
    have e : lfO l bk (i :: o) = (l.asked i - na0 bk i) + lfO l bk o := by unfold lfO; rw [List.map_cons, List.sum_cons]
    rw [e, List.length_cons]; omega
theorem ZcG {l : Ldg} (h : l.ok) {bk : List Int} (hb : BkOk l bk) (who : Int) (k : Nat) : 0 ≤ lfS l bk who k ∧ lfS l bk who k ≤ 49500 := by
  have h1 := Z9I h hb ((Z19 l (Z5r l who)).take k)
  have h2 := Z71 h (Z5r l who)
  have h3 : ((Z19 l (Z5r l who)).take k).length ≤ 90 := by rw [List.length_take]; omega
  unfold lfS; omega
theorem Z7X {l : Ldg} (h : l.ok) : l.bad.length ≤ 1000000 ∧ l.forg.length ≤ 1000000 ∧ l.loans.length ≤ 1000000 ∧ l.pays.length ≤ 1000000 ∧ l.proms.length ≤ 1000000 := by
  have h1 := h.nl; have h2 := h.np; have h3 := h.nq; have h4 := Z6K h; have h6 := h.years
  refine ⟨?_, h4, by omega, by omega, by omega⟩
  by_cases h0 : l.bad = []
  · rw [h0]; simp
  · have := Z5i l.bad 0 _ h.rbad h.bad h0
    omega
theorem lnr_len (l : List Ln) : (lnrows l).length = l.length := List.length_map _
theorem Z2E (l : List Ln) : ∀ r ∈ lnrows l, r.length = 3 := fun r hr => by obtain ⟨x, _, rfl⟩ := List.mem_map.1 hr; rfl
theorem Z5G (l : List Ln) : (lnrows l).flatten.length = l.length * 3 := by rw [ZN (Z2E l), lnr_len]
theorem Z9n (l : List Ln) : (lnrows l).flatten.all (·.oneCell') = true := List.all_eq_true.2 fun v hv => by
  obtain ⟨r, hr, h2⟩ := List.mem_flatten.1 hv
  obtain ⟨x, _, rfl⟩ := List.mem_map.1 hr
  simp only [lnrow, List.mem_cons, List.not_mem_nil, or_false] at h2
  rcases h2 with rfl | rfl | rfl <;> rfl
theorem Z7E (n : Nat) (a b c : Value) : (Z4b n [a, b, c]).length = n * 3 := by simp [Z4b]
theorem Z7Z (l : List Ln) (a b c : Value) : spl (Z4b (l.length + 1) [a, b, c]) 0 (lnrows l).flatten = (lnrows l).flatten ++ (Z4b (l.length + 1) [a, b, c]).drop (l.length * 3) := by
  unfold spl
  rw [List.take_zero, List.nil_append, Nat.zero_add, Z5G]
theorem ZaV (l : Ldg) (a1 a2 a3 a4 a5 : Option Addr) (k1 k2 k3 k4 k5 : Nat) (hl : l.ok) (who : Int) (i : Nat) (hi : i < l.loans.length) (q1 q2 : Nat) (H : Z6) (R : Z3) [m1 : Mem1 q1 (cel 52 (lgl l a1 a2 a3 a4 a5 k1 k2 k3 k4 k5)) H] [m2 : Mem1 q2 (cel 3 [.int .i64 who]) H] [hR3 : MemRows a3 3 (lnrows l.loans) R] :
    FnV Tryz.prog 40 [.int .i64 (i : Nat), .pointer (some ⟨q1, 0, none⟩), .pointer (some ⟨q2, 0, none⟩)] H R (.bool (Z5r l who i)) := by
 refine Z8 Tryz.func40 rfl Tryz.ntmps40 rfl ?_
 refine sqt 1 rfl (pur 1 rfl (Z0 ?_))
 refine Z9 [0, 1, 0, 7, 15, 31, 0, 127, 255] (.tk 0 (.ld 1 (tks 2 3 (.ld 5 (.ld 6 (.tk 7 (.tk 8 .done))))))) Zo (by kernel_rfl) ?_
 have hnl := hl.nl
 obtain ⟨x, hx⟩ : ∃ x, l.loans[i]? = some x := ⟨_, List.getElem?_eq_getElem hi⟩
 refine Zl (a := a3) (sz := 3) (rows := lnrows l.loans) (by intro h0; simp [lnrows] at h0; simp [h0] at hx) (fun bf of he => ?_)
 subst he
 have hwc : Z5r l who i = decide (x.who = who) := by unfold Z5r; rw [hx]
 rw [hwc]
 refine tk rfl (PE.fA Z04 rfl) rfl (ld rfl rfl (lh Z40 rfl rfl) rfl (Zf 1 rfl (tk rfl (PE.indexAddr ZaL rfl rfl (by omega) (by omega)) rfl (tk rfl (PE.fA Z5h rfl) rfl (ld rfl rfl (lf (x := .int .i64 x.who) sc3 (Z0U hx) rfl) rfl (ld rfl rfl (lh sc3 rfl rfl) rfl (Zf 2 rfl (Z1 ?_))))))))
 exact rtA rfl rfl rfl ⟨rfl, rfl, rfl⟩ drp
theorem Zc8 (l : Ldg) (a1 a2 a3 a4 a5 : Option Addr) (k1 k2 k3 k4 k5 : Nat) (hl : l.ok) (bd q1 q2 : Nat) (who y : Int) (bk : List Int) (hb : BkOk l bk) (hy : ∀ x ∈ l.loans, x.year ≤ y) (H : Z6) (R : Z3) [m1 : Mem1 q1 (cel 52 (lgl l a1 a2 a3 a4 a5 k1 k2 k3 k4 k5)) H] [m2 : Mem1 q2 (cel 3 [.int .i64 who]) H] [hR2 : MemRows a2 1 (irows l.forg) R] [hR3 : MemRows a3 3 (lnrows l.loans) R] :
    Fn Tryz.prog 39 [.pointer (some ⟨bd, 0, none⟩), .int .i64 y, .agg #[.func (.func 40) #[] #[.pointer (some ⟨q1, 0, none⟩), .pointer (some ⟨q2, 0, none⟩)]]] ((bd, cel 175 ((lgl l a1 a2 a3 a4 a5 k1 k2 k3 k4 k5) ++ Zd (bk))) :: H) R (fun v H' R' => v = .int .i64 (lfO l bk (Z19 l (Z5r l who))) ∧ H' = (bd, cel 175 ((lgl l a1 a2 a3 a4 a5 k1 k2 k3 k4 k5) ++ Zd (bk))) :: H ∧ R' = R) := by
 refine Z5u Tryz.func39 rfl Tryz.ntmps39 rfl ?_
 refine sqt 4 rfl (bx rfl rfl rfl (fun b3 => bx rfl rfl rfl (fun b4 => bx rfl rfl rfl (fun b5 => pur 1 rfl (sqt 2 rfl (alc rfl zl3 rfl (fun b7 => ?_)))))))
 refine sto rfl rfl rfl cn3 rfl rfl rfl rfl ?_
 refine Z0 (sqt 3 rfl (spL rfl rfl (lh Z0L rfl rfl) rfl (spL rfl rfl (lhA [_] Zfw rfl rfl rfl) rfl ?_)))
 refine cl rfl ZcY rfl rfl (Z7n bd 40 [] [.pointer (some ⟨q1, 0, none⟩), .pointer (some ⟨q2, 0, none⟩)] _ _) ?_
 rintro _ _ _ ⟨qd, q3, rfl, rfl, rfl⟩
 refine Z4 ?_
 refine Z2n rfl Z9V (fun c0 bl0 bd0 hcp0 hca0 hcb0 hck0 => ?_)
 refine ⟨fun st pend T R' => st = .ready ∧ pend = none ∧ T = (bd0, .deferred (some [])) :: (b7, cel 3 [.int .i64 (lfO l bk (Z19 l (Z5r l who)))]) :: (b5, cel 119 [.func (.func 40) #[] #[.pointer (some ⟨q1, 0, none⟩), .pointer (some ⟨q2, 0, none⟩)]]) :: (b4, cel 3 [.int .i64 y]) :: (b3, cel 114 [.pointer (some ⟨bd, 0, none⟩)]) :: (bd, cel 175 ((lgl l a1 a2 a3 a4 a5 k1 k2 k3 k4 k5) ++ Zd (bk))) :: H ∧ R' = RowsA (some ⟨q3, 0, none⟩) 1 [[.func (.func 40) #[] #[.pointer (some ⟨q1, 0, none⟩), .pointer (some ⟨q2, 0, none⟩)]]] :: RowsA (some ⟨qd, 0, none⟩) 1 [[.pointer (some ⟨bd, 0, none⟩)]] :: R,
   Fn.mono (Z5y l a1 a2 a3 a4 a5 k1 k2 k3 k4 k5 hl bd qd q3 bl0 40 [] [.pointer (some ⟨q1, 0, none⟩), .pointer (some ⟨q2, 0, none⟩)] (Z5r l who) Zf1 (fun k H' R' => H' = (bl0, lob c0 .ready none) :: (bd0, .deferred (some [])) :: (b7, cel 3 [.int .i64 (lfS l bk who k)]) :: (b5, cel 119 [.func (.func 40) #[] #[.pointer (some ⟨q1, 0, none⟩), .pointer (some ⟨q2, 0, none⟩)]]) :: (b4, cel 3 [.int .i64 y]) :: (b3, cel 114 [.pointer (some ⟨bd, 0, none⟩)]) :: (bd, cel 175 ((lgl l a1 a2 a3 a4 a5 k1 k2 k3 k4 k5) ++ Zd (bk))) :: H ∧ R' = RowsA (some ⟨q3, 0, none⟩) 1 [[.func (.func 40) #[] #[.pointer (some ⟨q1, 0, none⟩), .pointer (some ⟨q2, 0, none⟩)]]] :: RowsA (some ⟨qd, 0, none⟩) 1 [[.pointer (some ⟨bd, 0, none⟩)]] :: R) (fun _ _ => False)
     (fun k H' R' h => by obtain ⟨rfl, rfl⟩ := h; exact ⟨⟨bk, by simp⟩, by simp, by simp, List.mem_cons_of_mem _ (List.mem_cons_of_mem _ hR3.mem)⟩)
     (fun k H' R' i hi h => by obtain ⟨rfl, rfl⟩ := h; exact ZaV l a1 a2 a3 a4 a5 k1 k2 k3 k4 k5 hl who i hi q1 q2 _ _)
     (fun k i H' R' hk hI => ?_) _ _ ⟨rfl, rfl⟩) (fun v H' R' h => ?_), ?_⟩
 rotate_left
 · rcases h with ⟨rfl, rfl⟩ | h
   · rw [Zaz]
     exact ⟨.ready, none, _, by simp, .refl _, rfl, rfl, rfl, rfl⟩
   · exact h.elim
 rotate_left
 obtain ⟨rfl, rfl⟩ := hI
 have hi := ((Z1v hl).1 (List.mem_of_getElem? hk)).1
 have hnl := hl.nl
 have ha := Z2p hl i
 have hbd := hb.bd i
 have hil : i < bk.length := by rw [hb.len]; omega
 have hsb := ZcG hl hb who k
 rw [Z97 hk]
 generalize lfS l bk who k = s at *
 refine Z8Z hcp0 hca0 hcb0 hck0 rfl ?_
 refine sqr 1 rfl (pur 1 rfl ?_)
 refine Z0a ?_
 refine Z4 (Z0 ?_)
 refine Z9 [0, 1, 3, 7, 15, 0, 63, 127, 255, 0, 1023] (.ld 0 (tks 1 3 (.ld 4 (tks 5 3 (.ld 8 (.ld 9 (.tk 10 .done))))))) Zo (by kernel_rfl) ?_
 have hnl := hl.nl
 obtain ⟨x, hx⟩ : ∃ x, l.loans[i]? = some x := ⟨_, List.getElem?_eq_getElem hi⟩
 refine Zl (a := a3) (sz := 3) (rows := lnrows l.loans) (by intro h0; simp [lnrows] at h0; simp [h0] at hx) (fun bf of he => ?_)
 subst he
 refine ld rfl rfl (lh Z0L rfl rfl) rfl (tk rfl (PE.nilCheck rfl) rfl (tk rfl (PE.fA Z0V rfl) rfl (tk rfl (PE.fA Z04 rfl) rfl (ld rfl rfl (lh Z40 rfl rfl) rfl (Zf 1 rfl (tk rfl (PE.indexAddr ZaL rfl rfl (by omega) (by omega)) rfl (tk rfl (PE.fA Z3x rfl) rfl (ld rfl rfl (lf (x := .int .i64 x.year) sc3 (Z0U hx) rfl) rfl (ld rfl rfl (lh sc3 rfl rfl) rfl (Zf 1 rfl ?_))))))))))
 refine Z2 rfl ?_ ?_ <;> intro hc0
 refine Z9 [0, 0, 2, 6, 14, 0, 62, 0, 0, 128, 640, 1920, 3968, 8190, 16383, 32767] (.ld 0 (.ld 1 (.tk 2 (.tk 3 (.ld 4 (.tk 5 (.ld 7 (tks 8 4 (.ld 12 (.big 6 (.tk 13 (.tk 14 (.big 15 .done))))))))))))) Zo (by kernel_rfl) ?_
 refine ld rfl rfl (lh sc3 rfl rfl) rfl (ld rfl rfl (lh Z0L rfl rfl) rfl (tk rfl (PE.nilCheck rfl) rfl (tk rfl (PE.fA Z0V rfl) rfl (ld rfl rfl (lhA (lgl l a1 a2 (some ⟨bf, of, none⟩) a4 a5 k1 k2 k3 k4 k5) Z17 rfl rfl rfl) rfl (Zf 1 rfl (ld rfl rfl (lh Z0L rfl rfl) rfl (Zf 1 rfl (tk rfl (PE.nilCheck rfl) rfl (tk rfl (PE.fA Z3y rfl) rfl (tk rfl (PE.indexArr Z8W rfl rfl (by omega) (by omega)) rfl (ld rfl rfl (lh sc3 rfl (Z1W (by show _ = 7 + i; omega) hil)) rfl ?_)))))))))))
 refine clV rfl ZaQ rfl rfl (Z50 l a1 a2 (some ⟨bf, of, none⟩) a4 a5 k1 k2 k3 k4 k5 hl i hi _ _) ?_
 refine bg (fun w hs => ⟨(lh sc3 rfl (Z1W (by show _ = 7 + i; omega) hil)) w hs, (lh Z0L rfl rfl) w hs, trivial, trivial, (lh sc3 rfl rfl) w hs, trivial⟩) ?_
 refine tk rfl (PE.sub rfl rfl (by omega)) rfl (tk rfl (PE.add rfl rfl (by omega)) rfl ?_)
 refine sto rfl rfl rfl cn3 rfl rfl rfl rfl ?_
 refine bgT ?_
 exact Zm (.inl ⟨rfl, rfl, rfl⟩) idH
 exact absurd hc0 (by rw [dT (hy x (List.mem_of_getElem? hx))]; simp)
 rintro _ _ _ _ ⟨rfl, rfl, rfl, rfl⟩
 refine Z9f ?_
 refine sqt 2 rfl (spL rfl rfl (lh sc3 rfl rfl) rfl (pur 1 rfl (Z1 ?_)))
 exact Z0s [bd0] idH rfl (.cons (RV.tmp rfl) .nil) rfl ⟨rfl, rfl, rfl⟩ (fun w h => ((((h.del b7).del b5).del b4).del b3).ftail.ftail)
theorem Zaf (l : Ldg) (a1 a2 a3 a4 a5 : Option Addr) (k1 k2 k3 k4 k5 : Nat) (hl : l.ok) (who y : Int) (hw : l.person who = true) (hyr : l.year y = true) (H : Z6) (R : Z3) [hR1 : MemRows a1 1 (irows l.bad) R] [hR2 : MemRows a2 1 (irows l.forg) R] [hR3 : MemRows a3 3 (lnrows l.loans) R] [hR4 : MemRows a4 3 (lnrows l.pays) R] [hR5 : MemRows a5 3 (pmrows l.proms) R] :
    Fn Tryz.prog 38 [(l.v a1 a2 a3 a4 a5 k1 k2 k3 k4 k5), .int .i64 who, .int .i64 y] H R (fun v H' R' => ∃ bd, v = .tuple #[.pointer (some ⟨bd, 0, none⟩), .int .i64 0] ∧ BkOk l (bkA l (List.replicate 10 0) (ZbB l y)) ∧ H' = (bd, cel 175 ((lgl l a1 a2 a3 a4 a5 k1 k2 k3 k4 k5) ++ Zd ((bkA l (List.replicate 10 0) (ZbB l y))))) :: H ∧ R' = R) := by
 obtain ⟨hB, hF, hN, hP, hQ⟩ := Z7X hl
 have hfo : -1000000 ≤ l.folk ∧ l.folk ≤ 1000000 := by have := hl.folk; omega
 have hye : -1000000 ≤ l.years ∧ l.years ≤ 1000000 := by have := hl.years; omega
 refine Z8 Tryz.func38 rfl Tryz.ntmps38 rfl ?_
 refine sqt 3 rfl (bx rfl rfl rfl (fun b3 => pur 2 rfl (sqt 7 rfl (spL rfl rfl (lhA (lgl l a1 a2 a3 a4 a5 k1 k2 k3 k4 k5) Z17 rfl rfl rfl) rfl ?_))))
 refine cl rfl ZdA rfl rfl (Z0y l a1 a2 a3 a4 a5 k1 k2 k3 k4 k5 hB hF hN hP hQ _ _) ?_
 rintro _ _ R1 ⟨hq, hR1⟩
 obtain rfl := hR1.symm
 clear hR1
 obtain ⟨_, bd, rfl, rfl⟩ := hq.resolve_left (fun h => h.1 (Z1u hl))
 refine pur 5 rfl (Z0 (sqt 2 rfl (pur 2 rfl ?_)))
 refine Z2 rfl ?_ ?_ <;> intro hc0
 exact absurd hc0 (by simp)
 refine Z5 (Z0 (sqt 10 rfl (spL rfl rfl (lhA (lgl l a1 a2 a3 a4 a5 k1 k2 k3 k4 k5) Z17 rfl rfl rfl) rfl (pur 1 rfl ?_))))
 refine cl rfl Zbg rfl rfl (Z3z l a1 a2 a3 a4 a5 k1 k2 k3 k4 k5 who hN hfo hye _ _) ?_
 rintro _ _ R1 ⟨rfl, rfl, hR1⟩
 obtain rfl := hR1.symm
 clear hR1
 rw [hw]
 refine pur 2 rfl ?_
 refine Zp 22 rfl ?_ ?_ <;> intro g22
 exact absurd g22 (by simp)
 refine Z0K rfl rfl rfl rfl rfl (lhA (lgl l a1 a2 a3 a4 a5 k1 k2 k3 k4 k5) Z17 rfl rfl rfl) rfl (pur 1 rfl ?_)
 refine clG rfl rfl rfl rfl Z8r rfl rfl (Z5L l a1 a2 a3 a4 a5 k1 k2 k3 k4 k5 y hN hfo hye _ _) ?_
 rintro _ _ R1 ⟨rfl, rfl, hR1⟩
 obtain rfl := hR1.symm
 clear hR1
 rw [hyr]
 refine pur 2 rfl ?_
 refine Z2 rfl ?_ ?_ <;> intro hc1
 exact absurd hc1 (by simp)
 refine Z5 (sqt 3 rfl (pur 2 rfl ?_))
 refine cl rfl Zg3 rfl rfl (ZaA l a1 a2 a3 a4 a5 k1 k2 k3 k4 k5 hl bd y _ (Z58 hl) _ _) ?_
 rintro _ _ R1 ⟨hbk, rfl, hR1⟩
 obtain rfl := hR1.symm
 clear hR1
 refine sqt 3 rfl (pur 3 rfl (Z1 ?_))
 exact rtB rfl rfl rfl rfl ⟨bd, rfl, hbk, rfl, rfl⟩ (fun w h => h.del b3)
theorem c_Owes (l : Ldg) (a1 a2 a3 a4 a5 : Option Addr) (k1 k2 k3 k4 k5 : Nat) (hl : l.ok) (who y : Int) (hw : l.person who = true) (hyr : l.year y = true) (hy : ∀ x ∈ l.loans, x.year ≤ y) (H : Z6) (R : Z3) [hR1 : MemRows a1 1 (irows l.bad) R] [hR2 : MemRows a2 1 (irows l.forg) R] [hR3 : MemRows a3 3 (lnrows l.loans) R] [hR4 : MemRows a4 3 (lnrows l.pays) R] [hR5 : MemRows a5 3 (pmrows l.proms) R] :
    FnV Tryz.prog 14 [(l.v a1 a2 a3 a4 a5 k1 k2 k3 k4 k5), .int .i64 who, .int .i64 y] H R (.tuple #[.int .i64 (owesL l who (ZbB l y)), .int .i64 0]) := by
 refine Z8 Tryz.func14 rfl Tryz.ntmps14 rfl ?_
 refine sqt 4 rfl (bx rfl rfl rfl (fun b3 => bx rfl rfl rfl (fun b4 => pur 2 rfl (sqt 9 rfl (spL rfl rfl (lhA (lgl l a1 a2 a3 a4 a5 k1 k2 k3 k4 k5) Z17 rfl rfl rfl) rfl (spL rfl rfl (lh sc3 rfl rfl) rfl (pur 1 rfl ?_)))))))
 refine cl rfl ZfU rfl rfl (Zaf l a1 a2 a3 a4 a5 k1 k2 k3 k4 k5 hl who y hw hyr _ _) ?_
 rintro _ _ R1 ⟨bd, rfl, hbk, rfl, hR1⟩
 obtain rfl := hR1.symm
 clear hR1
 refine pur 5 rfl (Z0 (sqt 2 rfl (pur 2 rfl ?_)))
 refine Z2 rfl ?_ ?_ <;> intro hc0
 exact absurd hc0 (by simp)
 refine Z5 (sqt 7 rfl (pur 2 rfl (sp rfl (PE.makeFunc rfl rfl) rfl (sp rfl (PE.build (out := [_]) ZdW Zcy rfl rfl) rfl ?_))))
 refine cl rfl ZeG rfl rfl (Zc8 l a1 a2 a3 a4 a5 k1 k2 k3 k4 k5 hl bd b3 b4 who y _ hbk hy _ _) ?_
 rintro _ _ R1 ⟨rfl, rfl, hR1⟩
 obtain rfl := hR1.symm
 clear hR1
 rw [← Zb5]
 refine pur 2 rfl (Z1 ?_)
 exact rtB rfl rfl rfl rfl ⟨rfl, rfl, rfl⟩ (fun w h => ((h.del bd).del b4).del b3)
theorem c_Booked (l : Ldg) (a1 a2 a3 a4 a5 : Option Addr) (k1 k2 k3 k4 k5 : Nat) (hl : l.ok) (k : Nat) (p : Ln) (hp : l.pays[k]? = some p) (hk4 : l.pays.length ≤ k4) (H : Z6) (R : Z3) [hR1 : MemRows a1 1 (irows l.bad) R] [hR2 : MemRows a2 1 (irows l.forg) R] [hR3 : MemRows a3 3 (lnrows l.loans) R] [hR4 : MemRows a4 3 (lnrows l.pays) R] [hR5 : MemRows a5 3 (pmrows l.proms) R] :
    Fn Tryz.prog 16 [(l.v a1 a2 a3 a4 a5 k1 k2 k3 k4 k5), .int .i64 (k : Nat)] H R (fun v H' R' => ∃ fs, v = .tuple #[fs, .int .i64 (bkP l (bkA l (List.replicate 10 0) (l.pays.take k)) p).2, .int .i64 0] ∧ H' = H ∧ R' = R) := by
 obtain ⟨hB, hF, hN, hP, hQ⟩ := Z7X hl
 have hfo : -1000000 ≤ l.folk ∧ l.folk ≤ 1000000 := by have := hl.folk; omega
 have hye : -1000000 ≤ l.years ∧ l.years ≤ 1000000 := by have := hl.years; omega
 have hkl := (List.getElem?_eq_some_iff.1 hp).1
 have hnp := hl.np
 refine Z8 Tryz.func16 rfl Tryz.ntmps16 rfl ?_
 refine sqt 4 rfl (bx rfl rfl rfl (fun b2 => pur 3 rfl (sqt 7 rfl (spL rfl rfl (lhA (lgl l a1 a2 a3 a4 a5 k1 k2 k3 k4 k5) Z17 rfl rfl rfl) rfl ?_))))
 refine cl rfl ZdA rfl rfl (Z0y l a1 a2 a3 a4 a5 k1 k2 k3 k4 k5 hB hF hN hP hQ _ _) ?_
 rintro _ _ R1 ⟨hq, hR1⟩
 obtain rfl := hR1.symm
 clear hR1
 obtain ⟨_, bd, rfl, rfl⟩ := hq.resolve_left (fun h => h.1 (Z1u hl))
 refine pur 5 rfl (Z0 (sqt 2 rfl (pur 2 rfl ?_)))
 refine Z2 rfl ?_ ?_ <;> intro hc0
 exact absurd hc0 (by simp)
 refine Z5 (Z0 (sqt 7 rfl (pur 1 rfl (sp rfl (PE.fA Z05 rfl) rfl (spL rfl rfl (lh Z3K rfl rfl) rfl (sp rfl (PE.lenSl Z2V rfl) rfl (sp rfl (PE.sub rfl rfl (by omega)) rfl ?_)))))))
 refine cl rfl Z4k rfl rfl (Z2d _ _ _ _ _) ?_
 rintro _ _ R1 ⟨rfl, rfl, hR1⟩
 obtain rfl := hR1.symm
 clear hR1
 rw [show inL (k : Int) 0 ((l.pays.length : Int) - 1) = true by unfold inL; simp; omega]
 refine pur 1 rfl ?_
 refine Z2 rfl ?_ ?_ <;> intro hc1
 exact absurd hc1 (by simp)
 refine Z5 (Z0 (sqt 6 rfl (sp rfl (PE.fA Z05 rfl) rfl (spL rfl rfl (lh Z3K rfl rfl) rfl (pur 1 rfl (sp rfl (PE.slHi ZbM rfl rfl (by omega)) rfl (sp rfl (PE.lenSl Z2V rfl) rfl (pur 1 rfl (Z4 ?_)))))))))
 refine Zc (ι := {j : Nat // j ≤ k}) (fun j => ⟨[(1, .int .i64 (k : Nat)), (2, .pointer (some ⟨b2, 0, none⟩)), (7, .pointer (some ⟨bd, 0, none⟩)), (31, .slice a4 k k4), (32, .int .i64 (k : Nat)), (33, .int .i64 j.1)], (bd, cel 175 ((lgl l a1 a2 a3 a4 a5 k1 k2 k3 k4 k5) ++ Zd ((bkA l (List.replicate 10 0) (l.pays.take j.1))))) :: (b2, cel 52 (lgl l a1 a2 a3 a4 a5 k1 k2 k3 k4 k5)) :: H, R⟩) (fun j => k - j.1) ⟨0, by omega⟩ ?_ (fun j => ?_)
 exact Zk idH
 obtain ⟨j, hj⟩ := j
 dsimp only at hj ⊢
 have hjb := Z4m hl (l.pays.take j) (Z58 hl) (fun q hq => by have := (hl.pays q (List.mem_of_mem_take hq)).1; omega)
 refine sqt 1 rfl (pur 1 rfl (Z0 ?_))
 refine Z2 rfl ?_ ?_ <;> intro hc2 <;> try simp only [cS] at hc2
 obtain ⟨x, hx⟩ : ∃ x, l.pays[j]? = some x := ⟨_, List.getElem?_eq_getElem (by omega)⟩
 have hxb := (hl.pays x (List.mem_of_getElem? hx)).1
 refine Zl (a := a4) (sz := 3) (rows := lnrows l.pays) (by intro h0; simp [lnrows] at h0; simp [h0] at hx) (fun b off he => ?_)
 subst he
 have hst : bkA l (List.replicate 10 0) (l.pays.take (j + 1)) = (bkP l (bkA l (List.replicate 10 0) (l.pays.take j)) x).1 := by rw [List.take_add_one, hx]; unfold bkA; rw [List.foldl_append]; rfl
 refine Z5 (Z0 (Z4 (sqt 4 rfl (sp rfl (PE.indexAddr ZbK rfl rfl (by omega) (by omega)) rfl (spL rfl rfl (lfA Z8h (row := lnrow x) (Z0U (by simpa using hx)) rfl) rfl (alc rfl Z8j rfl (fun b10 => ?_)))))))
 refine sto rfl rfl rfl Zgh rfl rfl rfl rfl ?_
 refine sqr 3 rfl (pur 1 rfl (spL rfl rfl (lhA [_, _, _] Z8h rfl rfl rfl) rfl ?_))
 refine Zq bd ?_
 refine cl rfl Zbi rfl rfl (Z7L l a1 a2 a3 (some ⟨b, off, none⟩) a5 k1 k2 k3 k4 k5 hl bd x (by omega) _ hjb _ _) ?_
 rintro _ _ _ ⟨rows, o, rfl, rfl, rfl⟩
 refine Sy.heap (fun w h => St.drop h) ?_
 refine sqr 2 rfl (sp rfl (PE.add rfl rfl (by omega)) rfl (pur 1 rfl ?_))
 exact Ze ⟨j + 1, by omega⟩ (fun w h => by dsimp only; rw [hst]; exact h.del b10)
 obtain rfl : j = k := by omega
 have hpb := (hl.pays p (List.mem_of_getElem? hp)).1
 refine Zl (a := a4) (sz := 3) (rows := lnrows l.pays) (by intro h0; simp [lnrows] at h0; simp [h0] at hp) (fun b off he => ?_)
 subst he
 refine Za (Zb (Zb (Zr (sqt 12 rfl (pur 1 rfl (sp rfl (PE.fA Z05 rfl) rfl (spL rfl rfl (lh Z3K rfl rfl) rfl (pur 1 rfl (sp rfl (PE.indexAddr ZbK rfl rfl (by omega) (by omega)) rfl (spL rfl rfl (lfA Z8h (row := lnrow p) (Z0U (by simpa using hp)) rfl) rfl ?_))))))))))
 refine cl rfl Zbi rfl rfl (Z7L l a1 a2 a3 (some ⟨b, off, none⟩) a5 k1 k2 k3 k4 k5 hl bd p (by omega) _ hjb _ _) ?_
 rintro _ _ _ ⟨rows, o, rfl, rfl, rfl⟩
 refine Sy.heap (fun w h => St.drop h) ?_
 refine pur 5 rfl (sqt 5 rfl (pur 5 rfl (Z1 ?_)))
 exact rtC rfl rfl rfl rfl rfl ⟨_, rfl, rfl, rfl⟩ (fun w h => (h.del bd).del b2)
theorem Zd1 : apT Tryz.prog 47 = some (3, 1, 8) := by kernel_rfl
theorem ZfZ : apT Tryz.prog 48 = some (113, 3, 24) := by kernel_rfl
theorem Zes : apT Tryz.prog 49 = some (59, 3, 24) := by kernel_rfl
theorem Zgu : apT Tryz.prog 50 = some (86, 3, 24) := by kernel_rfl
theorem Za0 : cal Tryz.prog 100 = true := by kernel_rfl
theorem Zdy : cal Tryz.prog 101 = true := by kernel_rfl
theorem Zc7 : cal Tryz.prog 102 = true := by kernel_rfl
theorem Zfa : cal Tryz.prog 42 = true := by kernel_rfl
theorem ZfL : cal Tryz.prog 43 = true := by kernel_rfl
theorem Zf4 : Zx Tryz.prog 49 = some 1 := by kernel_rfl
theorem Z8n : Zx Tryz.prog 52 = some 7 := by kernel_rfl
theorem Zen : ZB Tryz.prog 52 = some [(0, 1), (1, 1), (2, 1), (3, 1), (4, 1), (5, 1), (6, 1)] := by kernel_rfl
theorem Zek : slE Tryz.prog 48 = some (113, 3) := by kernel_rfl
theorem ZeT : slE Tryz.prog 50 = some (86, 3) := by kernel_rfl
theorem Z6i : Zs Tryz.prog 52 = some ([.int .i64 0, .int .i64 0, .slice none 0 0, .slice none 0 0, .slice none 0 0, .slice none 0 0, .slice none 0 0]) := by kernel_rfl
theorem Zfs {e sz : Nat} {rows : List (List Value)} (o : OSl e sz rows) : ∃ a c, o.fs = .slice a rows.length c := by
  rcases o.is with ⟨h1, h2, _⟩ | ⟨b, c, j, h, _⟩
  · exact ⟨none, 0, by rw [h2, h1]; rfl⟩
  · exact ⟨_, _, h⟩
theorem fz_cap {e sz : Nat} {rows : List (List Value)} (o : OSl e sz rows) {a : Option Addr} {n c : Nat} (h : o.fs = .slice a n c) : rows.length ≤ c := by
  rcases o.is with ⟨h1, h2, _⟩ | ⟨b, c2, j, h2, _, _, h3, _⟩
  · rw [h1]; exact Nat.zero_le _
  · rw [h] at h2; cases h2; exact h3
def Ldg.payd (l : Ldg) (p : Ln) : Ldg := { l with pays := l.pays ++ [p] }
theorem payd_bkP (l : Ldg) (p q : Ln) (bk : List Int) : bkP (l.payd p) bk q = bkP l bk q := rfl
theorem payd_bkA (l : Ldg) (p : Ln) (bk : List Int) (ps : List Ln) : bkA (l.payd p) bk ps = bkA l bk ps := rfl
theorem payd_owes (l : Ldg) (p : Ln) (who : Int) (ps : List Ln) : owesL (l.payd p) who ps = owesL l who ps := rfl
theorem Z2A : ∀ {l : List Ln} {p : Ln}, Z4M l = true → (∀ x ∈ l, x.year ≤ p.year) → Z4M (l ++ [p]) = true
  | [], _, _, _ => rfl
  | [x], p, _, h => by simp [Z4M, h x (by simp)]
  | x :: y :: l, p, h, hx => by
    simp only [Z4M, Bool.and_eq_true] at h
    have ih := Z2A (l := y :: l) (p := p) h.2 (fun z hz => hx z (List.mem_cons_of_mem _ hz))
    show (decide (x.year ≤ y.year) && Z4M (y :: (l ++ [p]))) = true
    rw [h.1]; exact ih
theorem payd_ok {l : Ldg} (h : l.ok) (hn : l.pays.length < 12) {p : Ln} (hp : (1 ≤ p.bu ∧ p.bu ≤ 500) ∧ (1 ≤ p.who ∧ p.who ≤ l.folk - 1) ∧ p.year = l.years - 1) : (l.payd p).ok where
  folk := h.folk
  years := h.years
  nl := h.nl
  np := by show (l.pays ++ [p]).length ≤ 12; rw [List.length_append]; simp; omega
  nq := h.nq
  loans := h.loans
  pays := fun x hx => by
    rcases List.mem_append.1 (show x ∈ l.pays ++ [p] from hx) with h1 | h1
    · exact h.pays x h1
    · rw [List.mem_singleton.1 h1]; have := h.years; exact ⟨hp.1, hp.2.1, by omega, by show p.year ≤ l.years - 1; omega⟩
  proms := h.proms
  bad := h.bad
  forg := h.forg
  rbad := h.rbad
  rforg := h.rforg
  srt := Z2A h.srt (fun x hx => by have := (h.pays x hx).2.2; omega)
theorem Z5j (xs : List Int) (a : Option Addr) (c : Nat) (hl : xs.length ≤ 1000000) (H : Z6) (R : Z3) [hR : MemRows a 1 (irows xs) R] :
    Fn Tryz.prog 100 [.slice a xs.length c] H R (fun v H' R' => ∃ o : OSl 3 1 (irows xs), v = o.fs ∧ H' = o.G ++ H ∧ R' = R) := by
 refine Z8 Tryz.func100 rfl Tryz.ntmps100 rfl ?_
 refine sqt 1 rfl (pur 1 rfl (Z0 (sqt 2 rfl (pur 1 rfl (sp rfl (PE.eqlNil Z2x rfl rfl) rfl ?_)))))
 refine Z2 rfl ?_ ?_ <;> intro hc0
 refine Sy.pre (fun w h => Z1t (h.now hR.mem) hc0) (fun hnil => ?_)
 obtain rfl : xs = [] := by simpa [irows] using hnil
 refine sqt 1 rfl (pur 1 rfl (Z1 ?_))
 first
   | exact rtA rfl rfl rfl ⟨o2.cast (by simp), rfl, rfl, rfl⟩ idH
   | exact rtA rfl rfl rfl ⟨OSl.nil _ _, rfl, rfl, rfl⟩ idH
 refine Z5 (sqt 4 rfl ?_)
 refine ZbO rfl Z4a rfl (fun o5 ho5 => ?_)
 refine pur 1 rfl ?_
 refine Zev (news := irows xs) o5 rfl Zd1 rfl rfl (Z8S) (by simp [irows]) (by simp [Z0g, irows, Value.oneCell']) ⟨by simp [irows]; omega, by simp [irows]; omega⟩ rfl ho5 (fun o2 ho2 => ?_)
 refine pur 1 rfl (Z1 ?_)
 first
   | exact rtA rfl rfl rfl ⟨o2.cast (by simp), rfl, rfl, rfl⟩ idH
   | exact rtA rfl rfl rfl ⟨OSl.nil _ _, rfl, rfl, rfl⟩ idH
theorem Z5e (xs : List Ln) (a : Option Addr) (c : Nat) (hl : xs.length ≤ 1000000) (H : Z6) (R : Z3) [hR : MemRows a 3 (lnrows xs) R] :
    Fn Tryz.prog 101 [.slice a xs.length c] H R (fun v H' R' => ∃ o : OSl 59 3 (lnrows xs), v = o.fs ∧ H' = o.G ++ H ∧ R' = R) := by
 refine Z8 Tryz.func101 rfl Tryz.ntmps101 rfl ?_
 refine sqt 1 rfl (pur 1 rfl (Z0 (sqt 2 rfl (pur 1 rfl (sp rfl (PE.eqlNil Z2V rfl rfl) rfl ?_)))))
 refine Z2 rfl ?_ ?_ <;> intro hc0
 refine Sy.pre (fun w h => Z1t (h.now hR.mem) hc0) (fun hnil => ?_)
 obtain rfl : xs = [] := by simpa [lnrows] using hnil
 refine sqt 1 rfl (pur 1 rfl (Z1 ?_))
 first
   | exact rtA rfl rfl rfl ⟨o2.cast (by simp), rfl, rfl, rfl⟩ idH
   | exact rtA rfl rfl rfl ⟨OSl.nil _ _, rfl, rfl, rfl⟩ idH
 refine Z5 (sqt 4 rfl ?_)
 refine ZbO rfl ZbM rfl (fun o5 ho5 => ?_)
 refine pur 1 rfl ?_
 refine Zev (news := lnrows xs) o5 rfl Zes rfl rfl (Z8S) (by simp [lnrows]) (by simp [Z0g, lnrows, lnrow, Value.oneCell']) ⟨by simp [lnrows]; omega, by simp [lnrows]; omega⟩ rfl ho5 (fun o2 ho2 => ?_)
 refine pur 1 rfl (Z1 ?_)
 first
   | exact rtA rfl rfl rfl ⟨o2.cast (by simp), rfl, rfl, rfl⟩ idH
   | exact rtA rfl rfl rfl ⟨OSl.nil _ _, rfl, rfl, rfl⟩ idH
theorem Z4H (xs : List Pm) (a : Option Addr) (c : Nat) (hl : xs.length ≤ 1000000) (H : Z6) (R : Z3) [hR : MemRows a 3 (pmrows xs) R] :
    Fn Tryz.prog 102 [.slice a xs.length c] H R (fun v H' R' => ∃ o : OSl 86 3 (pmrows xs), v = o.fs ∧ H' = o.G ++ H ∧ R' = R) := by
 refine Z8 Tryz.func102 rfl Tryz.ntmps102 rfl ?_
 refine sqt 1 rfl (pur 1 rfl (Z0 (sqt 2 rfl (pur 1 rfl (sp rfl (PE.eqlNil ZaR rfl rfl) rfl ?_)))))
 refine Z2 rfl ?_ ?_ <;> intro hc0
 refine Sy.pre (fun w h => Z1t (h.now hR.mem) hc0) (fun hnil => ?_)
 obtain rfl : xs = [] := by simpa [pmrows] using hnil
 refine sqt 1 rfl (pur 1 rfl (Z1 ?_))
 first
   | exact rtA rfl rfl rfl ⟨o2.cast (by simp), rfl, rfl, rfl⟩ idH
   | exact rtA rfl rfl rfl ⟨OSl.nil _ _, rfl, rfl, rfl⟩ idH
 refine Z5 (sqt 4 rfl ?_)
 refine ZbO rfl ZeT rfl (fun o5 ho5 => ?_)
 refine pur 1 rfl ?_
 refine Zev (news := pmrows xs) o5 rfl Zgu rfl rfl (Z8S) (by simp [pmrows]) (by simp [Z0g, pmrows, Z1Q, Value.oneCell']) ⟨by simp [pmrows]; omega, by simp [pmrows]; omega⟩ rfl ho5 (fun o2 ho2 => ?_)
 refine pur 1 rfl (Z1 ?_)
 first
   | exact rtA rfl rfl rfl ⟨o2.cast (by simp), rfl, rfl, rfl⟩ idH
   | exact rtA rfl rfl rfl ⟨OSl.nil _ _, rfl, rfl, rfl⟩ idH
theorem Z1Z (xs : List Int) (a : Option Addr) (c : Nat) (hl : xs.length ≤ 1000000) (H : Z6) (R : Z3) [hR : MemRows a 1 (irows xs) R] : Fn Tryz.prog 100 [.slice a xs.length c] H R (fun v H' R' => ∃ a' c', v = .slice a' xs.length c' ∧ H' = H ∧ R' = RowsA a' 1 (irows xs) :: R) := fun w hs => by
  refine CallsIn.mono (Z5j xs a c hl H R w hs) ?_
  rintro e w' ⟨v, H', R', ⟨o, rfl, rfl, rfl⟩, he, hs'⟩
  obtain ⟨a', c', h1, h2⟩ := o.freeze
  rw [show (irows xs).length = xs.length from List.length_map _] at h1
  exact ⟨_, _, _, ⟨a', c', h1, rfl, rfl⟩, he, h2 hs'⟩
theorem Z3P (xs : List Pm) (a : Option Addr) (c : Nat) (hl : xs.length ≤ 1000000) (H : Z6) (R : Z3) [hR : MemRows a 3 (pmrows xs) R] : Fn Tryz.prog 102 [.slice a xs.length c] H R (fun v H' R' => ∃ a' c', v = .slice a' xs.length c' ∧ H' = H ∧ R' = RowsA a' 3 (pmrows xs) :: R) := fun w hs => by
  refine CallsIn.mono (Z4H xs a c hl H R w hs) ?_
  rintro e w' ⟨v, H', R', ⟨o, rfl, rfl, rfl⟩, he, hs'⟩
  obtain ⟨a', c', h1, h2⟩ := o.freeze
  rw [show (pmrows xs).length = xs.length from List.length_map _] at h1
  exact ⟨_, _, _, ⟨a', c', h1, rfl, rfl⟩, he, h2 hs'⟩
theorem ZbC (l : Ldg) (a1 a2 a3 a4 a5 : Option Addr) (k1 k2 k3 k4 k5 : Nat) (hl : l.ok) (H : Z6) (R : Z3) [hR1 : MemRows a1 1 (irows l.bad) R] [hR2 : MemRows a2 1 (irows l.forg) R] [hR3 : MemRows a3 3 (lnrows l.loans) R] [hR4 : MemRows a4 3 (lnrows l.pays) R] [hR5 : MemRows a5 3 (pmrows l.proms) R] :
    Fn Tryz.prog 42 [(l.v a1 a2 a3 a4 a5 k1 k2 k3 k4 k5)] H R (fun v H' R' => ∃ (x1 x2 : Option Addr) (b11 : Nat) (x5 : Option Addr) (c1 c2 c5 : Nat) (o : OSl 59 3 (lnrows l.pays)), v = .agg ([.int .i64 l.folk, .int .i64 l.years, .slice x1 l.bad.length c1, .slice x2 l.forg.length c2, .slice (some ⟨b11, 0, none⟩) l.loans.length (l.loans.length + 1), o.fs, .slice x5 l.proms.length c5] : List Value).toArray ∧ H' = o.G ++ H ∧ R' = RowsA x1 1 (irows l.bad) :: RowsA x2 1 (irows l.forg) :: RowsA (some ⟨b11, 0, none⟩) 3 (lnrows l.loans) :: RowsA x5 3 (pmrows l.proms) :: R) := by
 obtain ⟨hB, hF, hN, hP, hQ⟩ := Z7X hl
 have hnl := hl.nl
 refine Z8 Tryz.func42 rfl Tryz.ntmps42 rfl ?_
 refine sqt 2 rfl (bx rfl rfl rfl (fun b1 => alc rfl Z6i rfl (fun b2 => sqt 9 rfl (sp rfl (PE.fA Z04 rfl) rfl (spL rfl rfl (lh Z40 rfl rfl) rfl (sp rfl (PE.lenSl Z6l rfl) rfl (sp rfl (PE.fA Z04 rfl) rfl (spL rfl rfl (lh Z40 rfl rfl) rfl (sp rfl (PE.lenSl Z6l rfl) rfl (sp rfl (PE.add rfl rfl (by omega)) rfl ?_))))))))))
 rw [show ((l.loans.length : Int) + 1) = ((l.loans.length + 1 : Nat) : Int) from by omega]
 refine mkS rfl ZfZ Z47 rfl rfl (by omega) ⟨by omega, by omega⟩ rfl (fun b11 => ?_)
 refine pur 1 rfl (sqt 4 rfl (pur 1 rfl (sp rfl (PE.fA Z04 rfl) rfl (spL rfl rfl (lh Z40 rfl rfl) rfl ?_))))
 refine Zf5 (rows := lnrows l.loans) rfl Zek rfl (by rw [lnr_len]; rfl) (Z2E _) (by rw [lnr_len]; omega) (Z9n _) (by rw [Z5G, Z7E]; omega) rfl ?_
 rw [Z7Z]
 obtain ⟨junk, hjk⟩ : ∃ junk, junk = (Z4b (l.loans.length + 1) [Value.int .i64 0, .int .i64 0, .int .i64 0]).drop (l.loans.length * 3) := ⟨_, rfl⟩
 rw [← hjk]
 refine Sy.heap (fun w h => St.rows (sz := 3) (rows := lnrows l.loans) (rest := junk) (h.pull b11) (Z2E _)) ?_
 refine Z0 ?_
 refine Z4j (ι := (Option Addr × Nat) × (Option Addr × Nat) × (Option Addr × Nat) × OSl 59 3 (lnrows l.pays)) (fun y => ⟨[(2, .pointer (some ⟨b2, 0, none⟩))], (b2, cel 52 [.int .i64 l.folk, .int .i64 l.years, .slice y.1.1 l.bad.length y.1.2, .slice y.2.1.1 l.forg.length y.2.1.2, .slice (some ⟨b11, 0, none⟩) l.loans.length (l.loans.length + 1), y.2.2.2.fs, .slice y.2.2.1.1 l.proms.length y.2.2.1.2]) :: (y.2.2.2.G ++ H), RowsA y.1.1 1 (irows l.bad) :: RowsA y.2.1.1 1 (irows l.forg) :: RowsA (some ⟨b11, 0, none⟩) 3 (lnrows l.loans) :: RowsA y.2.2.1.1 3 (pmrows l.proms) :: R⟩) ?_ ?_
 refine Z9 [0, 1, 0, 4, 0, 16, 48, 0, 128, 496, 0, 0, 2048, 7152, 0, 16384, 64496, 131071, 262143] (.tk 0 (.ld 1 (.tk 2 (.ld 3 (.tk 4 (.ld 5 (.tk 7 (.ld 8 (.tk 10 (.tk 11 (.ld 12 (.tk 14 (.ld 15 (.big 6 (.big 9 (.big 13 (.big 16 (.tk 17 (.big 18 .done))))))))))))))))))) Zo (by kernel_rfl) ?_
 refine tk rfl (PE.fA Z1Y rfl) rfl (ld rfl rfl (lh sc3 rfl rfl) rfl (tk rfl (PE.fA Z1q rfl) rfl (ld rfl rfl (lh sc3 rfl rfl) rfl (tk rfl (PE.fA Z3l rfl) rfl (ld rfl rfl (lh Z7r rfl rfl) rfl (tk rfl (PE.fA Z2D rfl) rfl (ld rfl rfl (lh Z7r rfl rfl) rfl (Zf 1 rfl (tk rfl (PE.fA Z05 rfl) rfl (ld rfl rfl (lh Z3K rfl rfl) rfl (tk rfl (PE.fA Z4n rfl) rfl (ld rfl rfl (lh Z9L rfl rfl) rfl ?_))))))))))))
 refine cl rfl Za0 rfl rfl (Z1Z l.bad a1 k1 hB _ _) ?_
 rintro _ _ R1 ⟨x1, c1, rfl, rfl, hR1⟩
 obtain rfl := hR1.symm
 clear hR1
 refine bg (fun w hs => ⟨(lh Z9L rfl rfl) w hs, (lh Z3K rfl rfl) w hs, (lh Z7r rfl rfl) w hs, trivial, (lh sc3 rfl rfl) w hs, (lh sc3 rfl rfl) w hs, trivial⟩) ?_
 refine cl rfl Za0 rfl rfl (Z1Z l.forg a2 k2 hF _ _) ?_
 rintro _ _ R1 ⟨x2, c2, rfl, rfl, hR1⟩
 obtain rfl := hR1.symm
 clear hR1
 refine bg (fun w hs => ⟨(lh Z9L rfl rfl) w hs, (lh Z3K rfl rfl) w hs, trivial, (lh sc3 rfl rfl) w hs, (lh sc3 rfl rfl) w hs, trivial⟩) ?_
 refine cl rfl Zdy rfl rfl (Z5e l.pays a4 k4 hP _ _) ?_
 rintro _ _ R1 ⟨o, rfl, rfl, hR1⟩
 obtain rfl := hR1.symm
 clear hR1
 refine bg (fun w hs => ⟨(lh Z9L rfl rfl) w hs, trivial, (lh sc3 rfl rfl) w hs, (lh sc3 rfl rfl) w hs, trivial⟩) ?_
 refine cl rfl Zc7 rfl rfl (Z3P l.proms a5 k5 hQ _ _) ?_
 rintro _ _ R1 ⟨x5, c5, rfl, rfl, hR1⟩
 obtain rfl := hR1.symm
 clear hR1
 refine bg (fun w hs => ⟨trivial, (lh sc3 rfl rfl) w hs, (lh sc3 rfl rfl) w hs, trivial⟩) ?_
 refine tk rfl (PE.build (out := [.int .i64 l.folk, .int .i64 l.years, .slice x1 l.bad.length c1, .slice x2 l.forg.length c2, .slice (some ⟨b11, 0, none⟩) l.loans.length (l.loans.length + 1), o.fs, .slice x5 l.proms.length c5]) Zen Z6i rfl (by obtain ⟨x4, c4, he4⟩ := Zfs o; rw [he4]; rfl)) rfl ?_
 refine Z02 (l' := [.int .i64 l.folk, .int .i64 l.years, .slice x1 l.bad.length c1, .slice x2 l.forg.length c2, .slice (some ⟨b11, 0, none⟩) l.loans.length (l.loans.length + 1), o.fs, .slice x5 l.proms.length c5]) rfl rfl rfl Z8n rfl rfl (by show ([.int .i64 l.folk, .int .i64 l.years, .slice x1 l.bad.length c1, .slice x2 l.forg.length c2, .slice (some ⟨b11, 0, none⟩) l.loans.length (l.loans.length + 1), o.fs, .slice x5 l.proms.length c5] : List Value).all (·.oneCell') = true; simp only [List.all_cons, List.all_nil, o.cells.2, Bool.and_true]; rfl) rfl (nl rfl) ?_
 refine bgT ?_
 exact Zv ((x1, c1), (x2, c2), (x5, c5), o) (fun w h => St.sub ((St.pullG o.G (h.del b1)).pull b2))
 rintro ⟨⟨x1, c1⟩, ⟨x2, c2⟩, ⟨x5, c5⟩, o⟩
 dsimp only
 refine Z1 ?_
 exact Z7 (vs := [_]) rfl (.cons (RV.cell rfl (lhA [.int .i64 l.folk, .int .i64 l.years, .slice x1 l.bad.length c1, .slice x2 l.forg.length c2, .slice (some ⟨b11, 0, none⟩) l.loans.length (l.loans.length + 1), o.fs, .slice x5 l.proms.length c5] Z17 rfl rfl rfl)) .nil) rfl ⟨x1, x2, b11, x5, c1, c2, c5, o, rfl, rfl, rfl⟩ (fun w h => h.del b2)
theorem ZaB (l : Ldg) (a1 a2 a3 a4 a5 : Option Addr) (k1 k2 k3 k4 k5 : Nat) (hl : l.ok) (H : Z6) (R : Z3) [hR1 : MemRows a1 1 (irows l.bad) R] [hR2 : MemRows a2 1 (irows l.forg) R] [hR3 : MemRows a3 3 (lnrows l.loans) R] [hR4 : MemRows a4 3 (lnrows l.pays) R] [hR5 : MemRows a5 3 (pmrows l.proms) R] :
    FnV Tryz.prog 43 [(l.v a1 a2 a3 a4 a5 k1 k2 k3 k4 k5)] H R (.tuple #[(l.v a1 a2 a3 a4 a5 k1 k2 k3 k4 k5), .int .i64 0]) := by
 obtain ⟨hB, hF, hN, hP, hQ⟩ := Z7X hl
 refine Z8 Tryz.func43 rfl Tryz.ntmps43 rfl ?_
 refine sqt 3 rfl (bx rfl rfl rfl (fun b1 => alc rfl Z6i rfl (fun b2 => pur 1 rfl (Z0 (sqt 3 rfl (spL rfl rfl (lhA (lgl l a1 a2 a3 a4 a5 k1 k2 k3 k4 k5) Z17 rfl rfl rfl) rfl ?_))))))
 refine cl rfl Zbu rfl rfl (Z1d l a1 a2 a3 a4 a5 k1 k2 k3 k4 k5 hB hF hN hP hQ _ _) ?_
 rintro _ _ R1 ⟨rfl, rfl, hR1⟩
 obtain rfl := hR1.symm
 clear hR1
 rw [Z1u hl]
 refine pur 1 rfl (sqt 2 rfl (pur 2 rfl ?_))
 refine Z2 rfl ?_ ?_ <;> intro hc0
 exact absurd hc0 (by simp)
 refine Z5 (sqt 3 rfl (spL rfl rfl (lhA (lgl l a1 a2 a3 a4 a5 k1 k2 k3 k4 k5) Z17 rfl rfl rfl) rfl ?_))
 refine Z02 (l' := (lgl l a1 a2 a3 a4 a5 k1 k2 k3 k4 k5)) rfl rfl rfl Z8n rfl rfl rfl rfl (nl rfl) ?_
 refine pur 1 rfl (Z1 ?_)
 exact Z7 (vs := [_, _]) rfl (.cons (RV.cell rfl (lhA (lgl l a1 a2 a3 a4 a5 k1 k2 k3 k4 k5) Z17 rfl rfl rfl)) (.cons (RV.tmp rfl) .nil)) rfl ⟨rfl, rfl, rfl⟩ (fun w h => (h.del b2).del b1)
theorem c_Pay (l : Ldg) (a1 a2 a3 a4 a5 : Option Addr) (k1 k2 k3 k4 k5 : Nat) (hl : l.ok) (p : Ln) (hn : l.pays.length < 12) (hl2 : (l.payd p).ok) (H : Z6) (R : Z3) [hR1 : MemRows a1 1 (irows l.bad) R] [hR2 : MemRows a2 1 (irows l.forg) R] [hR3 : MemRows a3 3 (lnrows l.loans) R] [hR4 : MemRows a4 3 (lnrows l.pays) R] [hR5 : MemRows a5 3 (pmrows l.proms) R] :
    Fn Tryz.prog 15 [(l.v a1 a2 a3 a4 a5 k1 k2 k3 k4 k5), .agg (lnrow p).toArray] H R (fun v H' R' => ∃ (x1 x2 x3 x4 x5 : Option Addr) (c1 c2 c3 c4 c5 : Nat), (l.payd p).pays.length ≤ c4 ∧ v = .tuple #[(l.payd p).v x1 x2 x3 x4 x5 c1 c2 c3 c4 c5, .int .i64 0] ∧ H' = H ∧ R' = RowsA x4 3 (lnrows (l.payd p).pays) :: RowsA x1 1 (irows l.bad) :: RowsA x2 1 (irows l.forg) :: RowsA x3 3 (lnrows l.loans) :: RowsA x5 3 (pmrows l.proms) :: R) := by
 obtain ⟨hB, hF, hN, hP, hQ⟩ := Z7X hl
 refine Z8 Tryz.func15 rfl Tryz.ntmps15 rfl ?_
 refine sqt 4 rfl (bx rfl rfl rfl (fun b2 => bx rfl rfl rfl (fun b3 => alc rfl Z6i rfl (fun b4 => pur 1 rfl (Z0 (sqt 3 rfl (spL rfl rfl (lhA (lgl l a1 a2 a3 a4 a5 k1 k2 k3 k4 k5) Z17 rfl rfl rfl) rfl ?_)))))))
 refine cl rfl Zbu rfl rfl (Z1d l a1 a2 a3 a4 a5 k1 k2 k3 k4 k5 hB hF hN hP hQ _ _) ?_
 rintro _ _ R1 ⟨rfl, rfl, hR1⟩
 obtain rfl := hR1.symm
 clear hR1
 rw [Z1u hl]
 refine pur 1 rfl (sqt 2 rfl (pur 2 rfl ?_))
 refine Z2 rfl ?_ ?_ <;> intro hc0
 exact absurd hc0 (by simp)
 refine Z5 (Z0 (sqt 4 rfl (sp rfl (PE.fA Z05 rfl) rfl (spL rfl rfl (lh Z3K rfl rfl) rfl (sp rfl (PE.lenSl Z2V rfl) rfl (pur 1 rfl ?_))))))
 refine Z2 rfl ?_ ?_ <;> intro hc1
 exact absurd hc1 (by simp; omega)
 refine Z5 (sqt 4 rfl (spL rfl rfl (lhA (lgl l a1 a2 a3 a4 a5 k1 k2 k3 k4 k5) Z17 rfl rfl rfl) rfl ?_))
 refine cl rfl Zfa rfl rfl (ZbC l a1 a2 a3 a4 a5 k1 k2 k3 k4 k5 hl _ _) ?_
 rintro _ _ R1 ⟨x1, x2, b11, x5, c1, c2, c5, o, rfl, rfl, hR1⟩
 obtain rfl := hR1.symm
 clear hR1
 refine alc rfl Z6i rfl (fun b7 => ?_)
 refine Z02 (l' := [.int .i64 l.folk, .int .i64 l.years, .slice x1 l.bad.length c1, .slice x2 l.forg.length c2, .slice (some ⟨b11, 0, none⟩) l.loans.length (l.loans.length + 1), o.fs, .slice x5 l.proms.length c5]) rfl rfl rfl Z8n rfl rfl (by show ([.int .i64 l.folk, .int .i64 l.years, .slice x1 l.bad.length c1, .slice x2 l.forg.length c2, .slice (some ⟨b11, 0, none⟩) l.loans.length (l.loans.length + 1), o.fs, .slice x5 l.proms.length c5] : List Value).all (·.oneCell') = true; simp only [List.all_cons, List.all_nil, o.cells.2, Bool.and_true]; rfl) rfl (nl rfl) ?_
 refine sqt 7 rfl (sp rfl (PE.fA Z05 rfl) rfl (spL rfl rfl (lh Z3K rfl rfl) rfl (spL rfl rfl (lhA [_, _, _] Z8h rfl rfl rfl) rfl ?_)))
 refine bsl (out := [_, _, _]) rfl ZbM Z8j rfl rfl rfl rfl rfl rfl (fun b24 => ?_)
 refine apO (o) rfl Zes rfl rfl (Z3N (row := lnrow p) rfl) rfl rfl ((by rw [lnr_len]; simp only [List.length_singleton]; omega)) rfl (fun o25 => ?_)
 refine sp rfl (PE.fA Z05 rfl) rfl ?_
 refine Z02 (l' := [.int .i64 l.folk, .int .i64 l.years, .slice x1 l.bad.length c1, .slice x2 l.forg.length c2, .slice (some ⟨b11, 0, none⟩) l.loans.length (l.loans.length + 1), o25.fs, .slice x5 l.proms.length c5]) rfl rfl rfl Zf4 rfl (by rw [o25.cells.1]; first | done | rfl) (by rw [o25.cells.1]; simp [o25.cells.2]) (by rw [o25.cells.1]; first | done | rfl) (by rw [o25.cells.1]; first | done | exact Nat.le_of_ble_eq_true rfl) ?_
 obtain ⟨x4, c4, he, hf⟩ := o25.freeze
 have hcap : (l.payd p).pays.length ≤ c4 := by have := fz_cap o25 he; rwa [show lnrows l.pays ++ [lnrow p] = lnrows (l.payd p).pays from (List.map_append (l₂ := [p])).symm, lnr_len] at this
 rw [he]
 refine Sy.heap (fun w h => hf (h.pullG o25.G)) ?_
 rw [show lnrows l.pays ++ [lnrow p] = lnrows (l.payd p).pays from (List.map_append (l₂ := [p])).symm, lnr_len]
 clear he hf
 simp only [List.nil_append]
 refine sqt 6 rfl (spL rfl rfl (lhA (lgl (l.payd p) x1 x2 (some ⟨b11, 0, none⟩) x4 x5 c1 c2 (l.loans.length + 1) c4 c5) Z17 rfl rfl rfl) rfl ?_)
 refine cl rfl ZfL rfl rfl (ZaB (l.payd p) x1 x2 (some ⟨b11, 0, none⟩) x4 x5 c1 c2 (l.loans.length + 1) c4 c5 hl2 _ _) ?_
 rintro _ _ R1 ⟨rfl, rfl, hR1⟩
 obtain rfl := hR1.symm
 clear hR1
 refine pur 2 rfl ?_
 refine Z02 (l' := lgl (l.payd p) x1 x2 (some ⟨b11, 0, none⟩) x4 x5 c1 c2 (l.loans.length + 1) c4 c5) rfl rfl rfl Z8n rfl rfl rfl rfl (nl rfl) ?_
 refine pur 1 rfl (Z1 ?_)
 exact Z7 (vs := [_, _]) rfl (.cons (RV.cell rfl (lhA (lgl (l.payd p) x1 x2 (some ⟨b11, 0, none⟩) x4 x5 c1 c2 (l.loans.length + 1) c4 c5) Z17 rfl rfl rfl)) (.cons (RV.tmp rfl) .nil)) rfl ⟨x1, x2, _, x4, x5, c1, c2, _, c4, c5, hcap, rfl, rfl, rfl⟩ (fun w h => St.sub (((((h.del b24).del b7).del b4).del b3).del b2))
end Go.Proofs.YtjoajfdnlomapaaGreat.Lo
namespace Go.Proofs.YtjoajfdnlomapaaGreat.Hn
set_option linter.unusedSimpArgs false
set_option linter.unusedVariables false
structure Cnt where
  hour : Int
  lo : Int
  hi : Int
structure Bkg where
  hour : Int
  sacks : Int
structure Spl where
  hand : Int
  fr : Int
  to : Int
structure Wt where
  hours : Int
  allow : Int
  hands : Int
  counts : List Cnt
  books : List Bkg
  spells : List Spl
@[reducible] def inL (n lo hi : Int) : Bool := decide (lo ≤ n) && decide (n ≤ hi)
structure Wt.ok (w : Wt) : Prop where
  hours : 1 ≤ w.hours ∧ w.hours ≤ 60
  allow : 0 ≤ w.allow ∧ w.allow ≤ 20
  hands : 1 ≤ w.hands ∧ w.hands ≤ 6
  nc : 1 ≤ w.counts.length ∧ w.counts.length ≤ 8
  nb : w.books.length ≤ 10
  ns : w.spells.length ≤ 12
  cnt : ∀ c ∈ w.counts, (0 ≤ c.hour ∧ c.hour ≤ w.hours) ∧ (0 ≤ c.lo ∧ c.lo ≤ 500) ∧ (0 ≤ c.hi ∧ c.hi ≤ 500) ∧ c.lo ≤ c.hi
  bks : ∀ b ∈ w.books, (0 ≤ b.hour ∧ b.hour ≤ w.hours) ∧ (-200 ≤ b.sacks ∧ b.sacks ≤ 200) ∧ b.sacks ≠ 0
  spl : ∀ s ∈ w.spells, (0 ≤ s.fr ∧ s.fr ≤ w.hours) ∧ (0 ≤ s.to ∧ s.to ≤ w.hours) ∧ (0 ≤ s.hand ∧ s.hand ≤ w.hands - 1) ∧ s.fr < s.to
  inc : ∀ i c d, w.counts[i]? = some c → w.counts[i + 1]? = some d → c.hour < d.hour
theorem Wt.ok.lt {w : Wt} (h : w.ok) : ∀ (k i : Nat) (c d : Cnt), w.counts[i]? = some c → w.counts[i + 1 + k]? = some d → c.hour < d.hour
  | 0, i, c, d, hc, hd => h.inc i c d hc hd
  | k + 1, i, c, d, hc, hd => by
    have hl := (List.getElem?_eq_some_iff.1 hd).1
    obtain ⟨e, he⟩ : ∃ e, w.counts[i + 1 + k]? = some e := ⟨_, List.getElem?_eq_getElem (by omega)⟩
    have h1 := h.lt k i c e hc he
    have h2 := h.inc (i + 1 + k) e d he (by rw [show i + 1 + k + 1 = i + 1 + (k + 1) by omega]; exact hd)
    omega
theorem Wt.ok.lt' {w : Wt} (h : w.ok) {i j : Nat} {c d : Cnt} (hij : i < j) (hc : w.counts[i]? = some c) (hd : w.counts[j]? = some d) : c.hour < d.hour :=
  h.lt (j - i - 1) i c d hc (by rw [show i + 1 + (j - i - 1) = j by omega]; exact hd)
theorem Wt.ok.le {w : Wt} (h : w.ok) {i j : Nat} {c d : Cnt} (hij : i ≤ j) (hc : w.counts[i]? = some c) (hd : w.counts[j]? = some d) : c.hour ≤ d.hour := by
  rcases Nat.lt_or_ge i j with h1 | h1
  · exact Int.le_of_lt (h.lt' h1 hc hd)
  · obtain rfl : i = j := by omega
    rw [hc] at hd; cases hd; exact Int.le_refl _
def Wt.pos (w : Wt) (h : Int) : Nat := w.counts.findIdx fun c => decide (h ≤ c.hour)
def na0 (l : List Int) (i : Nat) : Int := l.getD i 0
def Wt.bk1 (w : Wt) (s : List Int) (b : Bkg) : List Int := bif decide (0 < w.pos b.hour) && decide (w.pos b.hour < w.counts.length) then s.set (w.pos b.hour - 1) (na0 s (w.pos b.hour - 1) + b.sacks) else s
def Wt.sums (w : Wt) : List Int := w.books.foldl w.bk1 (List.replicate 8 0)
def Z9c (s : List Int) (f t : Nat) : Int := ((List.range' f (t - f)).map (na0 s)).sum
def Wt.bk (w : Wt) (f t : Nat) : Int := Z9c w.sums f t
def Wt.cn (w : Wt) (i : Nat) : Cnt := w.counts.getD i ⟨0, 0, 0⟩
def Wt.gap (w : Wt) (f t : Nat) : Int := (w.cn f).lo + w.bk f t - w.allow * ((w.cn t).hour - (w.cn f).hour) - (w.cn t).hi
def Wt.over (w : Wt) (f t : Nat) (x : Spl) : Bool := decide (x.fr < (w.cn t).hour) && decide ((w.cn f).hour < x.to)
def Z8l (w : Wt) (f t : Nat) (m : Nat) (x : Spl) : Nat := bif w.over f t x then m ||| 2 ^ x.hand.toNat else m
def Wt.thr (w : Wt) (f t : Nat) : Nat := w.spells.foldl (Z8l w f t) 0
def Z9m (n f : Nat) : List (Nat × Nat) := (List.range' (f + 1) (n - (f + 1))).map fun t => (f, t)
def Z10 (n : Nat) : List (Nat × Nat) := (List.range n).flatMap (Z9m n)
def Wt.bad (w : Wt) (s : Nat × Nat) : Bool := decide ((w.cn s.1).hi + w.bk s.1 s.2 < (w.cn s.2).lo) || (decide (0 < w.gap s.1 s.2) && decide (w.thr s.1 s.2 = 0))
def Wt.clash (w : Wt) : Bool := (Z10 w.counts.length).any w.bad
def Wt.own (w : Wt) (S : Nat) (i : Nat) : Bool := decide (i + 1 < w.counts.length) && decide (w.thr i (i + 1) &&& S ≠ 0)
def Z6o (own : Nat → Bool) (t : Nat) : Nat → Nat × Int → Nat × Int := fun i p => bif own i then (min p.1 i, (i : Int)) else p
def Z30 (own : Nat → Bool) (f t : Nat) : Nat × Int := (List.range' f (t - f)).foldl (fun p i => Z6o own t i p) (t, -2)
def Wt.good (w : Wt) (S e : Nat) (s : Nat × Nat) : Bool := decide ((Z30 (w.own S) s.1 s.2).2 + 1 = (e : Int)) && decide (w.thr s.1 s.2 &&& S = w.thr s.1 s.2) && decide (0 < w.gap s.1 s.2)
def Wt.try1 (w : Wt) (S e : Nat) (tb : List Int) (b : Int) (s : Nat × Nat) : Int := bif w.good S e s && decide (b < na0 tb (Z30 (w.own S) s.1 s.2).1 + w.gap s.1 s.2) then na0 tb (Z30 (w.own S) s.1 s.2).1 + w.gap s.1 s.2 else b
def Wt.prvN (w : Wt) (S e : Nat) (tb : List Int) : Int := bif w.own S (e - 1) then (Z10 w.counts.length).foldl (w.try1 S e tb) (na0 tb (e - 1)) else na0 tb (e - 1)
def Wt.prvT (w : Wt) (S : Nat) : Nat → List Int
  | 0 => [0]
  | e + 1 => w.prvT S e ++ [w.prvN S (e + 1) (w.prvT S e)]
def Wt.prv (w : Wt) (S : Nat) : Int := na0 (w.prvT S (w.counts.length - 1)) (w.counts.length - 1)
open Go
theorem Zb9 : Z0W Tryz.prog 128 = some 3 := by kernel_rfl
theorem Zbm : Z0W Tryz.prog 131 = some 2 := by kernel_rfl
theorem Z5o : Z0W Tryz.prog 71 = some 6 := by kernel_rfl
theorem Z33 : Z0W Tryz.prog 89 = some 3 := by kernel_rfl
theorem Zgt : apT Tryz.prog 67 = some (89, 3, 24) := by kernel_rfl
theorem Zcw : cal Tryz.prog 106 = true := by kernel_rfl
theorem Z1y : cal Tryz.prog 118 = true := by kernel_rfl
theorem Z9O : cal Tryz.prog 126 = true := by kernel_rfl
theorem ZcK : cal Tryz.prog 127 = true := by kernel_rfl
theorem Z5T : cal Tryz.prog 128 = true := by kernel_rfl
theorem Zcg : cal Tryz.prog 129 = true := by kernel_rfl
theorem ZbZ : cal Tryz.prog 130 = true := by kernel_rfl
theorem Z6P : cal Tryz.prog 131 = true := by kernel_rfl
theorem ZbW : cal Tryz.prog 132 = true := by kernel_rfl
theorem ZdC : cal Tryz.prog 133 = true := by kernel_rfl
theorem ZdT : cal Tryz.prog 134 = true := by kernel_rfl
theorem ZcW : cal Tryz.prog 135 = true := by kernel_rfl
theorem Zc1 : cal Tryz.prog 136 = true := by kernel_rfl
theorem ZbV : cal Tryz.prog 137 = true := by kernel_rfl
theorem Ze9 : cal Tryz.prog 138 = true := by kernel_rfl
theorem Zcv : cal Tryz.prog 139 = true := by kernel_rfl
theorem ZbU : cal Tryz.prog 140 = true := by kernel_rfl
theorem Ze0 : cal Tryz.prog 187 = true := by kernel_rfl
theorem Zd7 : cal Tryz.prog 188 = true := by kernel_rfl
theorem ZdV : cal Tryz.prog 189 = true := by kernel_rfl
theorem Zdv : cal Tryz.prog 190 = true := by kernel_rfl
theorem ZcP : cal Tryz.prog 221 = true := by kernel_rfl
theorem Zfu : cal Tryz.prog 26 = true := by kernel_rfl
theorem ZfS : cal Tryz.prog 49 = true := by kernel_rfl
theorem ZeE : cal Tryz.prog 54 = true := by kernel_rfl
theorem ZeU : cal Tryz.prog 60 = true := by kernel_rfl
theorem Zba : Zx Tryz.prog 112 = some 1 := by kernel_rfl
theorem Z6c : elN Tryz.prog 67 = some 3 := by kernel_rfl
theorem Zgg : elN Tryz.prog 68 = some 2 := by kernel_rfl
theorem Zgo : elN Tryz.prog 69 = some 3 := by kernel_rfl
theorem Z7s : ZJ Tryz.prog 128 0 = some 0 := by kernel_rfl
theorem Z4Y : ZJ Tryz.prog 128 1 = some 1 := by kernel_rfl
theorem Z5f : ZJ Tryz.prog 128 2 = some 2 := by kernel_rfl
theorem Z83 : ZJ Tryz.prog 131 0 = some 0 := by kernel_rfl
theorem Z45 : ZJ Tryz.prog 131 1 = some 1 := by kernel_rfl
theorem ZM : ZJ Tryz.prog 41 0 = some 0 := by kernel_rfl
theorem ZQ : ZJ Tryz.prog 41 1 = some 1 := by kernel_rfl
theorem Z9G : ZJ Tryz.prog 71 0 = some 0 := by kernel_rfl
theorem Z9D : ZJ Tryz.prog 71 1 = some 1 := by kernel_rfl
theorem Z6U : ZJ Tryz.prog 71 2 = some 2 := by kernel_rfl
theorem ZP : ZJ Tryz.prog 71 3 = some 3 := by kernel_rfl
theorem Z6z : ZJ Tryz.prog 71 4 = some 4 := by kernel_rfl
theorem Z4i : ZJ Tryz.prog 71 5 = some 5 := by kernel_rfl
theorem Z1a : ZJ Tryz.prog 89 0 = some 0 := by kernel_rfl
theorem Z24 : ZJ Tryz.prog 89 1 = some 1 := by kernel_rfl
theorem Z0Q : Z2X Tryz.prog 67 = true := by kernel_rfl
theorem ZaN : Z2X Tryz.prog 68 = true := by kernel_rfl
theorem ZbG : Z2X Tryz.prog 69 = true := by kernel_rfl
theorem Z3w : Z0b Tryz.prog 112 = true := by kernel_rfl
theorem ZfD : Z0b Tryz.prog 133 = true := by kernel_rfl
theorem ZfJ : Z0b Tryz.prog 225 = true := by kernel_rfl
theorem sc3 : Z0b Tryz.prog 3 = true := by kernel_rfl
theorem Z15 : Z0b Tryz.prog 67 = true := by kernel_rfl
theorem ZfC : Z0b Tryz.prog 68 = true := by kernel_rfl
theorem ZcT : Z0b Tryz.prog 69 = true := by kernel_rfl
theorem ZgO : Z0b Tryz.prog 90 = true := by kernel_rfl
theorem Zf3 : slE Tryz.prog 67 = some (89, 3) := by kernel_rfl
theorem Zbb : Zs Tryz.prog 112 = some ([.nilFunc]) := by kernel_rfl
def Z0t (c : Cnt) : List Value := [.int .i64 c.hour, .int .i64 c.lo, .int .i64 c.hi]
def crows (l : List Cnt) : List (List Value) := l.map Z0t
def Z2b (b : Bkg) : List Value := [.int .i64 b.hour, .int .i64 b.sacks]
def bkrows (l : List Bkg) : List (List Value) := l.map Z2b
def Z1s (s : Spl) : List Value := [.int .i64 s.hand, .int .i64 s.fr, .int .i64 s.to]
def sprows (l : List Spl) : List (List Value) := l.map Z1s
abbrev irows (l : List Int) : List (List Value) := l.map fun z => [.int .i64 z]
def wtl (w : Wt) (a1 a2 a3 : Option Addr) (k1 k2 k3 : Nat) : List Value := [.int .i64 w.hours, .int .i64 w.allow, .int .i64 w.hands, .slice a1 w.counts.length k1, .slice a2 w.books.length k2, .slice a3 w.spells.length k3]
def Wt.v (w : Wt) (a1 a2 a3 : Option Addr) (k1 k2 k3 : Nat) : Value := .agg (wtl w a1 a2 a3 k1 k2 k3).toArray
theorem ZK {l : List Cnt} {k : Nat} {x : Cnt} (h : l[k]? = some x) : (crows l)[k]? = some (Z0t x) := by simp [crows, h]
theorem Zcm {l : List Bkg} {k : Nat} {x : Bkg} (h : l[k]? = some x) : (bkrows l)[k]? = some (Z2b x) := by simp [bkrows, h]
theorem Zdh {l : List Spl} {k : Nat} {x : Spl} (h : l[k]? = some x) : (sprows l)[k]? = some (Z1s x) := by simp [sprows, h]
theorem Zei (l : List Cnt) : (crows l).length = l.length := List.length_map _
theorem Z5J {α : Type} (l : List α) : (l.all fun _ => true) = true := by simp
theorem Z1t {a : Option Addr} {sz : Nat} {rows : List (List Value)} {w : World} (h : RowsA a sz rows w) (ha : a.isNone = true) : rows = [] := by
  false_or_by_contra
  rename_i h0
  obtain ⟨b, off, e⟩ := Z2z h h0
  rw [e] at ha; cases ha
theorem Zn {α : Type} {xs : List α} {p : α → Bool} {k : Nat} {x : α} (hx : xs[k]? = some x) (hn : ∀ y ∈ xs.take k, p y = false) (h : p x = true) : xs.findIdx? p = some k := by
  induction xs generalizing k with
  | nil => simp at hx
  | cons y ys ih =>
    cases k with
    | zero => simp only [List.getElem?_cons_zero, Option.some.injEq] at hx; subst hx; simp [List.findIdx?_cons, h]
    | succ k =>
      have hy := hn y (by simp)
      have := ih (by simpa using hx) (fun z hz => hn z (by simp [hz]))
      simp [List.findIdx?_cons, hy, this]
theorem Zj {α : Type} {xs : List α} {p : α → Bool} (hn : ∀ y ∈ xs, p y = false) : xs.findIdx? p = none := by
  rw [List.findIdx?_eq_none_iff]; exact hn
theorem ZF {α : Type} {xs : List α} {p : α → Bool} {k : Nat} {x : α} (hx : xs[k]? = some x) (hn : ∀ y ∈ xs.take k, p y = false) (h : p x = false) : ∀ y ∈ xs.take (k + 1), p y = false := by
  intro y hy
  rw [List.take_add_one, hx] at hy
  rcases List.mem_append.1 hy with h1 | h1
  · exact hn y h1
  · simp only [Option.toList_some, List.mem_singleton] at h1; subst h1; exact h
theorem ZY {α : Type} (xs : List α) (p : α → Bool) : Value.bool (decide (0 ≤ (match xs.findIdx? p with | some k => (k : Int) | none => -1))) = .bool (xs.any p) := by
  congr 1
  cases h : xs.findIdx? p with
  | none =>
    have := List.findIdx?_eq_none_iff.1 h
    have h2 : xs.any p = false := by simpa using this
    rw [h2]; rfl
  | some k =>
    have h2 : xs.any p = true := by
      rw [← Bool.not_eq_false]; intro h3
      have : xs.findIdx? p = none := List.findIdx?_eq_none_iff.2 (by simpa using h3)
      rw [this] at h; cases h
    rw [h2]; simp
theorem Zt {α : Type} (xs : List α) (p : α → Bool) : Value.bool (!xs.any fun x => !p x) = .bool (xs.all p) := by
  congr 1
  induction xs with
  | nil => rfl
  | cons x xs ih => simp [← ih]
theorem Z2d (n lo hi : Int) (H : Z6) (R : Z3) :
    FnV Tryz.prog 118 [.int .i64 n, .int .i64 lo, .int .i64 hi] H R (.bool (inL n lo hi)) := by
 refine Z8 Tryz.func118 rfl Tryz.ntmps118 rfl ?_
 refine sqt 1 rfl (pur 1 rfl (sqt 9 rfl (pur 4 rfl ?_)))
 refine Zp 10 rfl ?_ ?_ <;> intro g10
 refine pur 5 rfl (Z1 ?_)
 exact rtA rfl rfl rfl ⟨by simp_all only [Zz, inL, Bool.true_and, Bool.false_and, cond_true, cond_false], rfl, rfl⟩ drp
 refine pur 5 rfl (Z1 ?_)
 exact rtA rfl rfl rfl ⟨by simp_all only [Zz, inL, Bool.true_and, Bool.false_and, cond_true, cond_false], rfl, rfl⟩ drp
theorem Z5b (n lo hi : Int) (h : lo ≤ n ∧ n ≤ hi) (H : Z6) (R : Z3) : FnV Tryz.prog 118 [.int .i64 n, .int .i64 lo, .int .i64 hi] H R (.bool true) := by
  have := Z2d n lo hi H R
  rwa [show inL n lo hi = true by simp [inL, h]] at this
theorem Z5R (wt : Wt) (a1 a2 a3 : Option Addr) (k1 k2 k3 : Nat) (n : Int) (H : Z6) (R : Z3) :
    FnV Tryz.prog 128 [(wt.v a1 a2 a3 k1 k2 k3), .int .i64 n] H R (.bool (inL n 0 wt.hours)) := by
 refine Z8 Tryz.func128 rfl Tryz.ntmps128 rfl ?_
 refine sqt 2 rfl (bx rfl rfl rfl (fun b2 => pur 1 rfl (sqt 5 rfl (pur 1 rfl (sp rfl (PE.fA Z9G rfl) rfl (spL rfl rfl (lh sc3 rfl rfl) rfl ?_))))))
 refine clV rfl Z1y rfl rfl (Z2d _ _ _ _ _) ?_
 refine pur 1 rfl (Z1 ?_)
 exact rtA rfl rfl rfl ⟨rfl, rfl, rfl⟩ drp
theorem Zdi (wt : Wt) (a1 a2 a3 : Option Addr) (k1 k2 k3 : Nat) (n : Int) (hh : -1000000 ≤ wt.hands ∧ wt.hands ≤ 1000000) (H : Z6) (R : Z3) :
    FnV Tryz.prog 54 [(wt.v a1 a2 a3 k1 k2 k3), .int .i64 n] H R (.bool (inL n 0 (wt.hands - 1))) := by
 refine Z8 Tryz.func54 rfl Tryz.ntmps54 rfl ?_
 refine sqt 2 rfl (bx rfl rfl rfl (fun b2 => pur 1 rfl (sqt 6 rfl (pur 1 rfl (sp rfl (PE.fA Z6U rfl) rfl (spL rfl rfl (lh sc3 rfl rfl) rfl (sp rfl (PE.sub rfl rfl (by omega)) rfl ?_)))))))
 refine clV rfl Z1y rfl rfl (Z2d _ _ _ _ _) ?_
 refine pur 1 rfl (Z1 ?_)
 exact rtA rfl rfl rfl ⟨rfl, rfl, rfl⟩ drp
theorem Z70 (xs : List Cnt) (a : Option Addr) (c g : Nat) (fst cap : List Value) (p : Cnt → Bool) (hg : cal Tryz.prog g = true) (hl : xs.length ≤ 9223372036854775807) (H : Z6) (R : Z3) [hR : MemRows a 3 (crows xs) R] (hp : ∀ x, x ∈ xs → FnV Tryz.prog g (fst ++ [.agg (Z0t x).toArray] ++ cap) H R (.bool (p x))) :
    FnV Tryz.prog 60 [.slice a xs.length c, .func (.func g) fst.toArray cap.toArray] H R (.int .i64 (match xs.findIdx? p with | some k => (k : Int) | none => -1)) := by
 refine Z8 Tryz.func60 rfl Tryz.ntmps60 rfl ?_
 refine sqt 1 rfl (pur 1 rfl (Z0 (sqt 3 rfl (pur 1 rfl (sp rfl (PE.lenSl Z0Q rfl) rfl (pur 1 rfl (Z4 ?_)))))))
 refine Zc (ι := {k : Nat // k ≤ xs.length ∧ ∀ x ∈ xs.take k, p x = false}) (fun k => ⟨[(0, .slice a xs.length c), (1, .func (.func g) fst.toArray cap.toArray), (7, .int .i64 xs.length), (8, .int .i64 k.1)], H, R⟩) (fun k => xs.length - k.1) ⟨0, by simp⟩ ?_ (fun k => ?_)
 exact Zk idH
 obtain ⟨k, hk, hn⟩ := k
 dsimp only
 refine sqt 1 rfl (pur 1 rfl (Z0 ?_))
 refine Z2 rfl ?_ ?_ <;> intro hc0
 simp only [cS] at hc0
 obtain ⟨x, hx⟩ : ∃ x, xs[k]? = some x := ⟨_, List.getElem?_eq_getElem (by omega)⟩
 have hxm := List.mem_of_getElem? hx
 refine Zl (a := a) (sz := 3) (rows := crows xs) (by cases xs <;> simp_all [crows]) (fun b off he => ?_)
 subst he
 refine Z5 (Z0 (Z4 (sqt 2 rfl (pur 2 rfl (sqt 6 rfl (pur 3 rfl (sp rfl (PE.indexAddr Z6c rfl rfl (by omega) (by omega)) rfl (spL rfl rfl (lfA Z33 (row := Z0t x) (by simp [crows, hx]) rfl) rfl ?_))))))))
 refine Z1M rfl rfl (hg) rfl rfl (hp x hxm) ?_
 refine Z2 rfl ?_ ?_ <;> intro hc1
 refine sqt 2 rfl (pur 2 rfl (Z1 ?_))
 first | (exact rtA rfl rfl rfl ⟨by rw [Zn hx hn hc1]; rfl, rfl, rfl⟩ idH) | (exact rtA rfl rfl rfl ⟨by rw [Zj (by simpa using hn)]; rfl, rfl, rfl⟩ idH)
 refine Z5 (sqr 2 rfl (sp rfl (PE.add rfl rfl (by omega)) rfl (pur 1 rfl ?_)))
 exact Ze ⟨k + 1, by omega, ZF hx hn hc1⟩ idH
 simp only [cS] at hc0
 obtain rfl : k = xs.length := by omega
 refine Za (Zb (Zb (Zr (sqt 1 rfl (pur 1 rfl (Z1 ?_))))))
 first | (exact rtA rfl rfl rfl ⟨by rw [Zn hx hn hc1]; rfl, rfl, rfl⟩ idH) | (exact rtA rfl rfl rfl ⟨by rw [Zj (by simpa using hn)]; rfl, rfl, rfl⟩ idH)
theorem Z7k (xs : List Cnt) (a : Option Addr) (c g : Nat) (fst cap : List Value) (p : Cnt → Bool) (hg : cal Tryz.prog g = true) (hl : xs.length ≤ 9223372036854775807) (H : Z6) (R : Z3) [hR : MemRows a 3 (crows xs) R] (hp : ∀ x, x ∈ xs → FnV Tryz.prog g (fst ++ [.agg (Z0t x).toArray] ++ cap) H R (.bool (p x))) :
    FnV Tryz.prog 26 [.slice a xs.length c, .func (.func g) fst.toArray cap.toArray] H R (.bool (xs.any p)) := by
 refine Z8 Tryz.func26 rfl Tryz.ntmps26 rfl ?_
 refine sqt 1 rfl (pur 1 rfl (sqt 5 rfl (pur 2 rfl ?_)))
 refine clV rfl ZeU rfl rfl (Z70 xs a c g fst cap p hg hl _ _ hp) ?_
 refine pur 2 rfl (Z1 ?_)
 exact rtA rfl rfl rfl ⟨by simp only [Zz]; exact ZY _ _, rfl, rfl⟩ drp
theorem Z7b (x : Cnt) (g bf : Nat) (fst cap : List Value) (p : Bool) (hg : cal Tryz.prog g = true) (H : Z6) (R : Z3) [hM : Mem1 bf (cel 90 [.func (.func g) fst.toArray cap.toArray]) H] (hp : ∀ b, FnV Tryz.prog g (fst ++ [.agg (Z0t x).toArray] ++ cap) ((b, cel 89 (Z0t x)) :: H) R (.bool p)) :
    FnV Tryz.prog 187 [.agg (Z0t x).toArray, .pointer (some ⟨bf, 0, none⟩)] H R (.bool !p) := by
 refine Z8 Tryz.func187 rfl Tryz.ntmps187 rfl ?_
 refine sqt 2 rfl (bx rfl rfl rfl (fun b2 => pur 1 rfl (sqt 5 rfl (spL rfl rfl (lh ZgO rfl rfl) rfl (spL rfl rfl (lhA [_, _, _] Z33 rfl rfl rfl) rfl ?_)))))
 refine Z1M rfl rfl (hg) rfl rfl (hp _) ?_
 refine pur 2 rfl (Z1 ?_)
 exact rtA rfl rfl rfl ⟨rfl, rfl, rfl⟩ drp
theorem Z2v (xs : List Cnt) (a : Option Addr) (c g : Nat) (fst cap : List Value) (p : Cnt → Bool) (hg : cal Tryz.prog g = true) (hl : xs.length ≤ 9223372036854775807) (H : Z6) (R : Z3) [hR : MemRows a 3 (crows xs) R] (hp : ∀ b b2 x, x ∈ xs → FnV Tryz.prog g (fst ++ [.agg (Z0t x).toArray] ++ cap) ((b2, cel 89 (Z0t x)) :: (b, cel 90 [.func (.func g) fst.toArray cap.toArray]) :: H) R (.bool (p x))) :
    FnV Tryz.prog 126 [.slice a xs.length c, .func (.func g) fst.toArray cap.toArray] H R (.bool (xs.all p)) := by
 refine Z8 Tryz.func126 rfl Tryz.ntmps126 rfl ?_
 refine sqt 2 rfl (bx rfl rfl rfl (fun b3 => pur 1 rfl (sqt 5 rfl (pur 1 rfl (sp rfl (PE.makeFunc rfl rfl) rfl ?_)))))
 refine clV rfl Zfu rfl rfl (Z7k xs a c 187 [] [_] (fun x => !p x) Ze0 hl _ _ (hp := fun x hx => Z7b x g _ fst cap (p x) hg _ _ (hp := fun b => hp _ _ x hx))) ?_
 refine pur 2 rfl (Z1 ?_)
 exact rtA rfl rfl rfl ⟨by simp only [Zz]; rw [Zt], rfl, rfl⟩ drp
theorem Z7w (xs : List Bkg) (a : Option Addr) (c g : Nat) (fst cap : List Value) (p : Bkg → Bool) (hg : cal Tryz.prog g = true) (hl : xs.length ≤ 9223372036854775807) (H : Z6) (R : Z3) [hR : MemRows a 2 (bkrows xs) R] (hp : ∀ x, x ∈ xs → FnV Tryz.prog g (fst ++ [.agg (Z2b x).toArray] ++ cap) H R (.bool (p x))) :
    FnV Tryz.prog 221 [.slice a xs.length c, .func (.func g) fst.toArray cap.toArray] H R (.int .i64 (match xs.findIdx? p with | some k => (k : Int) | none => -1)) := by
 refine Z8 Tryz.func221 rfl Tryz.ntmps221 rfl ?_
 refine sqt 1 rfl (pur 1 rfl (Z0 (sqt 3 rfl (pur 1 rfl (sp rfl (PE.lenSl ZaN rfl) rfl (pur 1 rfl (Z4 ?_)))))))
 refine Zc (ι := {k : Nat // k ≤ xs.length ∧ ∀ x ∈ xs.take k, p x = false}) (fun k => ⟨[(0, .slice a xs.length c), (1, .func (.func g) fst.toArray cap.toArray), (7, .int .i64 xs.length), (8, .int .i64 k.1)], H, R⟩) (fun k => xs.length - k.1) ⟨0, by simp⟩ ?_ (fun k => ?_)
 exact Zk idH
 obtain ⟨k, hk, hn⟩ := k
 dsimp only
 refine sqt 1 rfl (pur 1 rfl (Z0 ?_))
 refine Z2 rfl ?_ ?_ <;> intro hc0
 simp only [cS] at hc0
 obtain ⟨x, hx⟩ : ∃ x, xs[k]? = some x := ⟨_, List.getElem?_eq_getElem (by omega)⟩
 have hxm := List.mem_of_getElem? hx
 refine Zl (a := a) (sz := 2) (rows := bkrows xs) (by cases xs <;> simp_all [bkrows]) (fun b off he => ?_)
 subst he
 refine Z5 (Z0 (Z4 (sqt 2 rfl (pur 2 rfl (sqt 6 rfl (pur 3 rfl (sp rfl (PE.indexAddr Zgg rfl rfl (by omega) (by omega)) rfl (spL rfl rfl (lfA Zbm (row := Z2b x) (by simp [bkrows, hx]) rfl) rfl ?_))))))))
 refine Z1M rfl rfl (hg) rfl rfl (hp x hxm) ?_
 refine Z2 rfl ?_ ?_ <;> intro hc1
 refine sqt 2 rfl (pur 2 rfl (Z1 ?_))
 first | (exact rtA rfl rfl rfl ⟨by rw [Zn hx hn hc1]; rfl, rfl, rfl⟩ idH) | (exact rtA rfl rfl rfl ⟨by rw [Zj (by simpa using hn)]; rfl, rfl, rfl⟩ idH)
 refine Z5 (sqr 2 rfl (sp rfl (PE.add rfl rfl (by omega)) rfl (pur 1 rfl ?_)))
 exact Ze ⟨k + 1, by omega, ZF hx hn hc1⟩ idH
 simp only [cS] at hc0
 obtain rfl : k = xs.length := by omega
 refine Za (Zb (Zb (Zr (sqt 1 rfl (pur 1 rfl (Z1 ?_))))))
 first | (exact rtA rfl rfl rfl ⟨by rw [Zn hx hn hc1]; rfl, rfl, rfl⟩ idH) | (exact rtA rfl rfl rfl ⟨by rw [Zj (by simpa using hn)]; rfl, rfl, rfl⟩ idH)
theorem Z6W (xs : List Bkg) (a : Option Addr) (c g : Nat) (fst cap : List Value) (p : Bkg → Bool) (hg : cal Tryz.prog g = true) (hl : xs.length ≤ 9223372036854775807) (H : Z6) (R : Z3) [hR : MemRows a 2 (bkrows xs) R] (hp : ∀ x, x ∈ xs → FnV Tryz.prog g (fst ++ [.agg (Z2b x).toArray] ++ cap) H R (.bool (p x))) :
    FnV Tryz.prog 188 [.slice a xs.length c, .func (.func g) fst.toArray cap.toArray] H R (.bool (xs.any p)) := by
 refine Z8 Tryz.func188 rfl Tryz.ntmps188 rfl ?_
 refine sqt 1 rfl (pur 1 rfl (sqt 5 rfl (pur 2 rfl ?_)))
 refine clV rfl ZcP rfl rfl (Z7w xs a c g fst cap p hg hl _ _ hp) ?_
 refine pur 2 rfl (Z1 ?_)
 exact rtA rfl rfl rfl ⟨by simp only [Zz]; exact ZY _ _, rfl, rfl⟩ drp
theorem Z7a (x : Bkg) (g bf : Nat) (fst cap : List Value) (p : Bool) (hg : cal Tryz.prog g = true) (H : Z6) (R : Z3) [hM : Mem1 bf (cel 225 [.func (.func g) fst.toArray cap.toArray]) H] (hp : ∀ b, FnV Tryz.prog g (fst ++ [.agg (Z2b x).toArray] ++ cap) ((b, cel 131 (Z2b x)) :: H) R (.bool p)) :
    FnV Tryz.prog 189 [.agg (Z2b x).toArray, .pointer (some ⟨bf, 0, none⟩)] H R (.bool !p) := by
 refine Z8 Tryz.func189 rfl Tryz.ntmps189 rfl ?_
 refine sqt 2 rfl (bx rfl rfl rfl (fun b2 => pur 1 rfl (sqt 5 rfl (spL rfl rfl (lh ZfJ rfl rfl) rfl (spL rfl rfl (lhA [_, _] Zbm rfl rfl rfl) rfl ?_)))))
 refine Z1M rfl rfl (hg) rfl rfl (hp _) ?_
 refine pur 2 rfl (Z1 ?_)
 exact rtA rfl rfl rfl ⟨rfl, rfl, rfl⟩ drp
theorem Z4Z (xs : List Bkg) (a : Option Addr) (c g : Nat) (fst cap : List Value) (p : Bkg → Bool) (hg : cal Tryz.prog g = true) (hl : xs.length ≤ 9223372036854775807) (H : Z6) (R : Z3) [hR : MemRows a 2 (bkrows xs) R] (hp : ∀ b b2 x, x ∈ xs → FnV Tryz.prog g (fst ++ [.agg (Z2b x).toArray] ++ cap) ((b2, cel 131 (Z2b x)) :: (b, cel 225 [.func (.func g) fst.toArray cap.toArray]) :: H) R (.bool (p x))) :
    FnV Tryz.prog 129 [.slice a xs.length c, .func (.func g) fst.toArray cap.toArray] H R (.bool (xs.all p)) := by
 refine Z8 Tryz.func129 rfl Tryz.ntmps129 rfl ?_
 refine sqt 2 rfl (bx rfl rfl rfl (fun b3 => pur 1 rfl (sqt 5 rfl (pur 1 rfl (sp rfl (PE.makeFunc rfl rfl) rfl ?_)))))
 refine clV rfl Zd7 rfl rfl (Z6W xs a c 189 [] [_] (fun x => !p x) ZdV hl _ _ (hp := fun x hx => Z7a x g _ fst cap (p x) hg _ _ (hp := fun b => hp _ _ x hx))) ?_
 refine pur 2 rfl (Z1 ?_)
 exact rtA rfl rfl rfl ⟨by simp only [Zz]; rw [Zt], rfl, rfl⟩ drp
theorem Z6E (xs : List Spl) (a : Option Addr) (c g : Nat) (fst cap : List Value) (p : Spl → Bool) (hg : cal Tryz.prog g = true) (hl : xs.length ≤ 9223372036854775807) (H : Z6) (R : Z3) [hR : MemRows a 3 (sprows xs) R] (hp : ∀ x, x ∈ xs → FnV Tryz.prog g (fst ++ [.agg (Z1s x).toArray] ++ cap) H R (.bool (p x))) :
    FnV Tryz.prog 106 [.slice a xs.length c, .func (.func g) fst.toArray cap.toArray] H R (.int .i64 (match xs.findIdx? p with | some k => (k : Int) | none => -1)) := by
 refine Z8 Tryz.func106 rfl Tryz.ntmps106 rfl ?_
 refine sqt 1 rfl (pur 1 rfl (Z0 (sqt 3 rfl (pur 1 rfl (sp rfl (PE.lenSl ZbG rfl) rfl (pur 1 rfl (Z4 ?_)))))))
 refine Zc (ι := {k : Nat // k ≤ xs.length ∧ ∀ x ∈ xs.take k, p x = false}) (fun k => ⟨[(0, .slice a xs.length c), (1, .func (.func g) fst.toArray cap.toArray), (7, .int .i64 xs.length), (8, .int .i64 k.1)], H, R⟩) (fun k => xs.length - k.1) ⟨0, by simp⟩ ?_ (fun k => ?_)
 exact Zk idH
 obtain ⟨k, hk, hn⟩ := k
 dsimp only
 refine sqt 1 rfl (pur 1 rfl (Z0 ?_))
 refine Z2 rfl ?_ ?_ <;> intro hc0
 simp only [cS] at hc0
 obtain ⟨x, hx⟩ : ∃ x, xs[k]? = some x := ⟨_, List.getElem?_eq_getElem (by omega)⟩
 have hxm := List.mem_of_getElem? hx
 refine Zl (a := a) (sz := 3) (rows := sprows xs) (by cases xs <;> simp_all [sprows]) (fun b off he => ?_)
 subst he
 refine Z5 (Z0 (Z4 (sqt 2 rfl (pur 2 rfl (sqt 6 rfl (pur 3 rfl (sp rfl (PE.indexAddr Zgo rfl rfl (by omega) (by omega)) rfl (spL rfl rfl (lfA Zb9 (row := Z1s x) (by simp [sprows, hx]) rfl) rfl ?_))))))))
 refine Z1M rfl rfl (hg) rfl rfl (hp x hxm) ?_
 refine Z2 rfl ?_ ?_ <;> intro hc1
 refine sqt 2 rfl (pur 2 rfl (Z1 ?_))
 first | (exact rtA rfl rfl rfl ⟨by rw [Zn hx hn hc1]; rfl, rfl, rfl⟩ idH) | (exact rtA rfl rfl rfl ⟨by rw [Zj (by simpa using hn)]; rfl, rfl, rfl⟩ idH)
 refine Z5 (sqr 2 rfl (sp rfl (PE.add rfl rfl (by omega)) rfl (pur 1 rfl ?_)))
 exact Ze ⟨k + 1, by omega, ZF hx hn hc1⟩ idH
 simp only [cS] at hc0
 obtain rfl : k = xs.length := by omega
 refine Za (Zb (Zb (Zr (sqt 1 rfl (pur 1 rfl (Z1 ?_))))))
 first | (exact rtA rfl rfl rfl ⟨by rw [Zn hx hn hc1]; rfl, rfl, rfl⟩ idH) | (exact rtA rfl rfl rfl ⟨by rw [Zj (by simpa using hn)]; rfl, rfl, rfl⟩ idH)
theorem Z8d (xs : List Spl) (a : Option Addr) (c g : Nat) (fst cap : List Value) (p : Spl → Bool) (hg : cal Tryz.prog g = true) (hl : xs.length ≤ 9223372036854775807) (H : Z6) (R : Z3) [hR : MemRows a 3 (sprows xs) R] (hp : ∀ x, x ∈ xs → FnV Tryz.prog g (fst ++ [.agg (Z1s x).toArray] ++ cap) H R (.bool (p x))) :
    FnV Tryz.prog 49 [.slice a xs.length c, .func (.func g) fst.toArray cap.toArray] H R (.bool (xs.any p)) := by
 refine Z8 Tryz.func49 rfl Tryz.ntmps49 rfl ?_
 refine sqt 1 rfl (pur 1 rfl (sqt 5 rfl (pur 2 rfl ?_)))
 refine clV rfl Zcw rfl rfl (Z6E xs a c g fst cap p hg hl _ _ hp) ?_
 refine pur 2 rfl (Z1 ?_)
 exact rtA rfl rfl rfl ⟨by simp only [Zz]; exact ZY _ _, rfl, rfl⟩ drp
theorem Z6A (x : Spl) (g bf : Nat) (fst cap : List Value) (p : Bool) (hg : cal Tryz.prog g = true) (H : Z6) (R : Z3) [hM : Mem1 bf (cel 133 [.func (.func g) fst.toArray cap.toArray]) H] (hp : ∀ b, FnV Tryz.prog g (fst ++ [.agg (Z1s x).toArray] ++ cap) ((b, cel 128 (Z1s x)) :: H) R (.bool p)) :
    FnV Tryz.prog 190 [.agg (Z1s x).toArray, .pointer (some ⟨bf, 0, none⟩)] H R (.bool !p) := by
 refine Z8 Tryz.func190 rfl Tryz.ntmps190 rfl ?_
 refine sqt 2 rfl (bx rfl rfl rfl (fun b2 => pur 1 rfl (sqt 5 rfl (spL rfl rfl (lh ZfD rfl rfl) rfl (spL rfl rfl (lhA [_, _, _] Zb9 rfl rfl rfl) rfl ?_)))))
 refine Z1M rfl rfl (hg) rfl rfl (hp _) ?_
 refine pur 2 rfl (Z1 ?_)
 exact rtA rfl rfl rfl ⟨rfl, rfl, rfl⟩ drp
theorem Z1k (xs : List Spl) (a : Option Addr) (c g : Nat) (fst cap : List Value) (p : Spl → Bool) (hg : cal Tryz.prog g = true) (hl : xs.length ≤ 9223372036854775807) (H : Z6) (R : Z3) [hR : MemRows a 3 (sprows xs) R] (hp : ∀ b b2 x, x ∈ xs → FnV Tryz.prog g (fst ++ [.agg (Z1s x).toArray] ++ cap) ((b2, cel 128 (Z1s x)) :: (b, cel 133 [.func (.func g) fst.toArray cap.toArray]) :: H) R (.bool (p x))) :
    FnV Tryz.prog 131 [.slice a xs.length c, .func (.func g) fst.toArray cap.toArray] H R (.bool (xs.all p)) := by
 refine Z8 Tryz.func131 rfl Tryz.ntmps131 rfl ?_
 refine sqt 2 rfl (bx rfl rfl rfl (fun b3 => pur 1 rfl (sqt 5 rfl (pur 1 rfl (sp rfl (PE.makeFunc rfl rfl) rfl ?_)))))
 refine clV rfl ZfS rfl rfl (Z8d xs a c 190 [] [_] (fun x => !p x) Zdv hl _ _ (hp := fun x hx => Z6A x g _ fst cap (p x) hg _ _ (hp := fun b => hp _ _ x hx))) ?_
 refine pur 2 rfl (Z1 ?_)
 exact rtA rfl rfl rfl ⟨by simp only [Zz]; rw [Zt], rfl, rfl⟩ drp
theorem Z4V (xs : List Cnt) (a : Option Addr) (c : Nat) (hl : xs.length ≤ 1000000) (H : Z6) (R : Z3) [hR : MemRows a 3 (crows xs) R] :
    Fn Tryz.prog 137 [.slice a xs.length c] H R (fun v H' R' => ∃ o : OSl 89 3 (crows xs), v = o.fs ∧ H' = o.G ++ H ∧ R' = R) := by
 refine Z8 Tryz.func137 rfl Tryz.ntmps137 rfl ?_
 refine sqt 1 rfl (pur 1 rfl (Z0 (sqt 2 rfl (pur 1 rfl (sp rfl (PE.eqlNil Z0Q rfl rfl) rfl ?_)))))
 refine Z2 rfl ?_ ?_ <;> intro hc0
 refine Sy.pre (fun w h => Z1t (h.now hR.mem) hc0) (fun hnil => ?_)
 obtain rfl : xs = [] := by simpa [crows] using hnil
 refine sqt 1 rfl (pur 1 rfl (Z1 ?_))
 first
   | exact rtA rfl rfl rfl ⟨o2.cast (by simp), rfl, rfl, rfl⟩ idH
   | exact rtA rfl rfl rfl ⟨OSl.nil _ _, rfl, rfl, rfl⟩ idH
 refine Z5 (sqt 4 rfl ?_)
 refine ZbO rfl Zf3 rfl (fun o5 ho5 => ?_)
 refine pur 1 rfl ?_
 refine Zev (news := crows xs) o5 rfl Zgt rfl rfl (Z8S) (by simp [crows]) (by simp [Z0g, crows, Z0t, Value.oneCell']) ⟨by simp [crows]; omega, by simp [crows]; omega⟩ rfl ho5 (fun o2 ho2 => ?_)
 refine pur 1 rfl (Z1 ?_)
 first
   | exact rtA rfl rfl rfl ⟨o2.cast (by simp), rfl, rfl, rfl⟩ idH
   | exact rtA rfl rfl rfl ⟨OSl.nil _ _, rfl, rfl, rfl⟩ idH
theorem Z4r (xs : List Cnt) (a : Option Addr) (c : Nat) (hl : xs.length ≤ 1000000) (H : Z6) (R : Z3) [hR : MemRows a 3 (crows xs) R] : Fn Tryz.prog 137 [.slice a xs.length c] H R (fun v H' R' => ∃ a' c', v = .slice a' xs.length c' ∧ H' = H ∧ R' = RowsA a' 3 (crows xs) :: R) := fun w hs => by
  refine CallsIn.mono (Z4V xs a c hl H R w hs) ?_
  rintro e w' ⟨v, H', R', ⟨o, rfl, rfl, rfl⟩, he, hs'⟩
  obtain ⟨a', c', h1, h2⟩ := o.freeze
  rw [show (crows xs).length = xs.length from List.length_map _] at h1
  exact ⟨_, _, _, ⟨a', c', h1, rfl, rfl⟩, he, h2 hs'⟩
theorem Z4g (wt : Wt) (a1 a2 a3 : Option Addr) (k1 k2 k3 : Nat) (hw : wt.ok) (x : Cnt) (hx : x ∈ wt.counts) (b1 : Nat) (H : Z6) (R : Z3) [hB : Mem1 b1 (cel 71 (wtl wt a1 a2 a3 k1 k2 k3)) H] :
    FnV Tryz.prog 127 [.agg (Z0t x).toArray, .pointer (some ⟨b1, 0, none⟩)] H R (.bool true) := by
 have hb := hw.cnt x hx
 refine Z8 Tryz.func127 rfl Tryz.ntmps127 rfl ?_
 refine sqt 2 rfl (bx rfl rfl rfl (fun b2 => pur 1 rfl (sqt 17 rfl (spL rfl rfl (lhA (wtl wt a1 a2 a3 k1 k2 k3) Z5o rfl rfl rfl) rfl (sp rfl (PE.fA Z1a rfl) rfl (spL rfl rfl (lh sc3 rfl rfl) rfl ?_))))))
 refine cl rfl Z5T rfl rfl (Z5R wt a1 a2 a3 k1 k2 k3 x.hour _ _) ?_
 rintro _ _ R1 ⟨rfl, rfl, hR1⟩
 obtain rfl := hR1.symm
 clear hR1
 rw [show inL x.hour 0 wt.hours = true by simp [inL]; omega]
 refine pur 1 rfl ?_
 refine Zp 8 rfl ?_ ?_ <;> intro g8
 refine spG rfl rfl rfl rfl (PE.fA Z24 rfl) rfl ?_
 refine spG rfl rfl rfl rfl (PE.fA ZM rfl) rfl ?_
 refine Z0K rfl rfl rfl rfl rfl (lh sc3 rfl rfl) rfl ?_
 refine Z3c rfl rfl rfl rfl Z1y rfl rfl (Z5b _ _ _ (by omega) _ _) ?_
 refine pur 2 rfl ?_
 refine Zp 14 rfl ?_ ?_ <;> intro g14
 refine spG rfl rfl rfl rfl (PE.fA Z24 rfl) rfl ?_
 refine spG rfl rfl rfl rfl (PE.fA ZQ rfl) rfl ?_
 refine Z0K rfl rfl rfl rfl rfl (lh sc3 rfl rfl) rfl ?_
 refine Z3c rfl rfl rfl rfl Z1y rfl rfl (Z5b _ _ _ (by omega) _ _) ?_
 refine pur 2 rfl (Z1 ?_)
 exact rtA rfl rfl rfl ⟨rfl, rfl, rfl⟩ drp
 exact absurd g14 (by simp)
 exact absurd g8 (by simp)
theorem Z4t (wt : Wt) (a1 a2 a3 : Option Addr) (k1 k2 k3 : Nat) (hw : wt.ok) (x : Bkg) (hx : x ∈ wt.books) (b1 : Nat) (H : Z6) (R : Z3) [hB : Mem1 b1 (cel 71 (wtl wt a1 a2 a3 k1 k2 k3)) H] :
    FnV Tryz.prog 130 [.agg (Z2b x).toArray, .pointer (some ⟨b1, 0, none⟩)] H R (.bool true) := by
 have hb := hw.bks x hx
 refine Z8 Tryz.func130 rfl Tryz.ntmps130 rfl ?_
 refine sqt 2 rfl (bx rfl rfl rfl (fun b2 => pur 1 rfl (sqt 15 rfl (spL rfl rfl (lhA (wtl wt a1 a2 a3 k1 k2 k3) Z5o rfl rfl rfl) rfl (sp rfl (PE.fA Z83 rfl) rfl (spL rfl rfl (lh sc3 rfl rfl) rfl ?_))))))
 refine cl rfl Z5T rfl rfl (Z5R wt a1 a2 a3 k1 k2 k3 x.hour _ _) ?_
 rintro _ _ R1 ⟨rfl, rfl, hR1⟩
 obtain rfl := hR1.symm
 clear hR1
 rw [show inL x.hour 0 wt.hours = true by simp [inL]; omega]
 refine pur 1 rfl ?_
 refine Zp 8 rfl ?_ ?_ <;> intro g8
 refine spG rfl rfl rfl rfl (PE.fA Z45 rfl) rfl ?_
 refine Z0K rfl rfl rfl rfl rfl (lh sc3 rfl rfl) rfl ?_
 refine Z3c rfl rfl rfl rfl Z1y rfl rfl (Z5b _ _ _ (by omega) _ _) ?_
 refine pur 2 rfl ?_
 refine Zp 13 rfl ?_ ?_ <;> intro g13
 refine spG rfl rfl rfl rfl (PE.fA Z45 rfl) rfl ?_
 refine Z0K rfl rfl rfl rfl rfl (lh sc3 rfl rfl) rfl (pur 3 rfl (Z1 ?_))
 exact rtA rfl rfl rfl ⟨by simp only [Zz, cond_true]; rw [dT (by omega)], rfl, rfl⟩ drp
 exact absurd g13 (by simp)
 exact absurd g8 (by simp)
theorem Z6X (wt : Wt) (a1 a2 a3 : Option Addr) (k1 k2 k3 : Nat) (hw : wt.ok) (x : Spl) (hx : x ∈ wt.spells) (b1 : Nat) (H : Z6) (R : Z3) [hB : Mem1 b1 (cel 71 (wtl wt a1 a2 a3 k1 k2 k3)) H] :
    FnV Tryz.prog 132 [.agg (Z1s x).toArray, .pointer (some ⟨b1, 0, none⟩)] H R (.bool true) := by
 have hb := hw.spl x hx
 refine Z8 Tryz.func132 rfl Tryz.ntmps132 rfl ?_
 refine sqt 2 rfl (bx rfl rfl rfl (fun b2 => pur 1 rfl (sqt 11 rfl (spL rfl rfl (lhA (wtl wt a1 a2 a3 k1 k2 k3) Z5o rfl rfl rfl) rfl (sp rfl (PE.fA Z4Y rfl) rfl (spL rfl rfl (lh sc3 rfl rfl) rfl ?_))))))
 refine cl rfl Z5T rfl rfl (Z5R wt a1 a2 a3 k1 k2 k3 x.fr _ _) ?_
 rintro _ _ R1 ⟨rfl, rfl, hR1⟩
 obtain rfl := hR1.symm
 clear hR1
 rw [show inL x.fr 0 wt.hours = true by simp [inL]; omega]
 refine pur 1 rfl ?_
 refine Zp 8 rfl ?_ ?_ <;> intro g8
 refine Z0K rfl rfl rfl rfl rfl (lhA (wtl wt a1 a2 a3 k1 k2 k3) Z5o rfl rfl rfl) rfl ?_
 refine spG rfl rfl rfl rfl (PE.fA Z5f rfl) rfl ?_
 refine Z0K rfl rfl rfl rfl rfl (lh sc3 rfl rfl) rfl ?_
 refine clG rfl rfl rfl rfl Z5T rfl rfl (Z5R wt a1 a2 a3 k1 k2 k3 x.to _ _) ?_
 rintro _ _ R1 ⟨rfl, rfl, hR1⟩
 obtain rfl := hR1.symm
 clear hR1
 rw [show inL x.to 0 wt.hours = true by simp [inL]; omega]
 refine pur 2 rfl (Z1 ?_)
 exact rtA rfl rfl rfl ⟨rfl, rfl, rfl⟩ drp
 exact absurd g8 (by simp)
theorem Z7e (wt : Wt) (a1 a2 a3 : Option Addr) (k1 k2 k3 : Nat) (hw : wt.ok) (x : Spl) (hx : x ∈ wt.spells) (b3 : Nat) (H : Z6) (R : Z3) [hB : Mem1 b3 (cel 112 [.func (.func 54) #[(wt.v a1 a2 a3 k1 k2 k3)] #[]]) H] :
    FnV Tryz.prog 133 [.agg (Z1s x).toArray, .pointer (some ⟨b3, 0, none⟩)] H R (.bool true) := by
 have hb := hw.spl x hx
 have hh := hw.hands
 refine Z8 Tryz.func133 rfl Tryz.ntmps133 rfl ?_
 refine sqt 2 rfl (bx rfl rfl rfl (fun b2 => pur 1 rfl (sqt 5 rfl (spL rfl rfl (lh Z3w rfl rfl) rfl (sp rfl (PE.fA Z7s rfl) rfl (spL rfl rfl (lh sc3 rfl rfl) rfl ?_))))))
 refine clF rfl rfl (ZeE) rfl rfl (Zdi wt a1 a2 a3 k1 k2 k3 x.hand (by omega) _ _) ?_
 rintro _ _ R1 ⟨rfl, rfl, hR1⟩
 obtain rfl := hR1.symm
 clear hR1
 rw [show inL x.hand 0 (wt.hands - 1) = true by simp [inL]; omega]
 refine pur 1 rfl (Z1 ?_)
 exact rtA rfl rfl rfl ⟨rfl, rfl, rfl⟩ drp
theorem Z78 (x y : Cnt) (hx : 0 ≤ x.hour ∧ x.hour ≤ 1000) (hy : 0 ≤ y.hour ∧ y.hour ≤ 1000) (H : Z6) (R : Z3) :
    FnV Tryz.prog 135 [.agg (Z0t x).toArray, .agg (Z0t y).toArray] H R (.int .i64 (x.hour - y.hour)) := by
 refine Z8 Tryz.func135 rfl Tryz.ntmps135 rfl ?_
 refine sqt 3 rfl (bx rfl rfl rfl (fun b2 => bx rfl rfl rfl (fun b3 => pur 1 rfl (sqt 6 rfl (sp rfl (PE.fA Z1a rfl) rfl (spL rfl rfl (lh sc3 rfl rfl) rfl (sp rfl (PE.fA Z1a rfl) rfl (spL rfl rfl (lh sc3 rfl rfl) rfl (sp rfl (PE.sub rfl rfl (by omega)) rfl (pur 1 rfl (Z1 ?_)))))))))))
 exact rtA rfl rfl rfl ⟨rfl, rfl, rfl⟩ drp
theorem Z6O (x y : Cnt) (H : Z6) (R : Z3) :
    FnV Tryz.prog 138 [.agg (Z0t x).toArray, .agg (Z0t y).toArray] H R (.bool (decide (x.hour = y.hour))) := by
 refine Z8 Tryz.func138 rfl Tryz.ntmps138 rfl ?_
 refine sqt 3 rfl (bx rfl rfl rfl (fun b2 => bx rfl rfl rfl (fun b3 => pur 1 rfl (sqt 6 rfl (sp rfl (PE.fA Z1a rfl) rfl (spL rfl rfl (lh sc3 rfl rfl) rfl (sp rfl (PE.fA Z1a rfl) rfl (spL rfl rfl (lh sc3 rfl rfl) rfl (pur 2 rfl (Z1 ?_))))))))))
 exact rtA rfl rfl rfl ⟨rfl, rfl, rfl⟩ drp
theorem Z7Q (x : Cnt) (H : Z6) (R : Z3) :
    FnV Tryz.prog 139 [.agg (Z0t x).toArray] H R (.bool (decide (x.lo ≤ x.hi))) := by
 refine Z8 Tryz.func139 rfl Tryz.ntmps139 rfl ?_
 refine sqt 2 rfl (bx rfl rfl rfl (fun b1 => pur 1 rfl (sqt 8 rfl (sp rfl (PE.fA Z24 rfl) rfl (sp rfl (PE.fA ZM rfl) rfl (spL rfl rfl (lh sc3 rfl rfl) rfl (sp rfl (PE.fA Z24 rfl) rfl (sp rfl (PE.fA ZQ rfl) rfl (spL rfl rfl (lh sc3 rfl rfl) rfl (pur 2 rfl (Z1 ?_)))))))))))
 exact rtA rfl rfl rfl ⟨rfl, rfl, rfl⟩ drp
theorem Z74 (x : Spl) (H : Z6) (R : Z3) :
    FnV Tryz.prog 140 [.agg (Z1s x).toArray] H R (.bool (decide (x.fr < x.to))) := by
 refine Z8 Tryz.func140 rfl Tryz.ntmps140 rfl ?_
 refine sqt 2 rfl (bx rfl rfl rfl (fun b1 => pur 1 rfl (sqt 6 rfl (sp rfl (PE.fA Z4Y rfl) rfl (spL rfl rfl (lh sc3 rfl rfl) rfl (sp rfl (PE.fA Z5f rfl) rfl (spL rfl rfl (lh sc3 rfl rfl) rfl (pur 2 rfl (Z1 ?_)))))))))
 exact rtA rfl rfl rfl ⟨rfl, rfl, rfl⟩ drp
theorem Zbh (wt : Wt) (hw : wt.ok) (a : Option Addr) (c : Nat) (H : Z6) (R : Z3) [hR : MemRows a 3 (crows wt.counts) R] :
    FnV Tryz.prog 134 [.slice a wt.counts.length c, .func (.func 135) #[] #[]] H R (.bool true) := by
 have hnc := hw.nc
 refine Z8 Tryz.func134 rfl Tryz.ntmps134 rfl ?_
 refine sqt 1 rfl (pur 1 rfl (Z0 (sqt 4 rfl (pur 1 rfl (sp rfl (PE.lenSl Z0Q rfl) rfl (sp rfl (PE.sub rfl rfl (by omega)) rfl (pur 1 rfl (Z4 ?_))))))))
 refine Zc (ι := {k : Nat // k ≤ wt.counts.length}) (fun k => ⟨[(0, .slice a wt.counts.length c), (1, .func (.func 135) #[] #[]), (5, .int .i64 ((k.1 : Int) - 1))], H, R⟩) (fun k => k.1) ⟨wt.counts.length, by omega⟩ ?_ (fun k => ?_)
 exact Zk idH
 obtain ⟨k, hk⟩ := k
 dsimp only at hk ⊢
 refine Z0 (sqt 2 rfl (pur 2 rfl ?_))
 refine Z2 rfl ?_ ?_ <;> intro hc0 <;> try simp only [cS] at hc0
 obtain ⟨k, rfl⟩ : ∃ j, k = j + 2 := ⟨k - 2, by omega⟩
 rw [show (((k + 2 : Nat) : Int) - 1) = (k + 1 : Nat) from by omega]
 obtain ⟨y, hy⟩ : ∃ y, wt.counts[k + 1]? = some y := ⟨_, List.getElem?_eq_getElem (by omega)⟩
 obtain ⟨x, hx⟩ : ∃ x, wt.counts[k]? = some x := ⟨_, List.getElem?_eq_getElem (by omega)⟩
 have hxy := hw.inc k x y hx hy
 have hxb := hw.cnt x (List.mem_of_getElem? hx)
 have hyb := hw.cnt y (List.mem_of_getElem? hy)
 have hho := hw.hours
 refine Zl (a := a) (sz := 3) (rows := crows wt.counts) (by intro h0; simp [crows] at h0; simp [h0] at hx) (fun b off he => ?_)
 subst he
 refine Z5 (Z0 (Z4 (Z0 ?_)))
 refine Z9 [0, 0, 0, 6, 14, 0, 0, 64, 224, 480, 1023, 2047] (tks 0 4 (.ld 4 (tks 5 4 (.ld 9 (.big 10 (.tk 11 .done)))))) Zo (by kernel_rfl) ?_
 refine Zf 3 rfl (tk rfl (PE.indexAddr Z6c rfl rfl (by omega) (by omega)) rfl (ld rfl rfl (lfA Z33 (row := Z0t y) (ZK hy) rfl) rfl (Zf 2 rfl (tk rfl (PE.sub rfl rfl (by omega)) rfl (tk rfl (PE.indexAddr Z6c rfl rfl (by omega) (by omega)) rfl (ld rfl rfl (lfA Z33 (row := Z0t x) (by rw [show (((k + 1 : Nat) : Int) - 1).toNat = k from by omega]; exact ZK hx) rfl) rfl ?_))))))
 refine Z1M rfl rfl (ZcW) rfl rfl (Z78 y x (by omega) (by omega) _ _) ?_
 refine bgT (Zf 1 rfl ?_)
 refine Z2 rfl ?_ ?_ <;> intro hc1
 exact absurd hc1 (by simp; omega)
 refine Z5 (sqr 3 rfl (pur 1 rfl (sp rfl (PE.sub rfl rfl (by omega)) rfl (pur 1 rfl ?_))))
 refine Zi ⟨k + 1, by omega⟩ (by dsimp only; omega) idH
 refine Za (Zb (Zb (Zr (sqt 1 rfl (pur 1 rfl (Z1 ?_))))))
 exact rtA rfl rfl rfl ⟨rfl, rfl, rfl⟩ drp
theorem Zan (wt : Wt) (hw : wt.ok) (a : Option Addr) (c : Nat) (H : Z6) (R : Z3) [hR : MemRows a 3 (crows wt.counts) R] :
    FnV Tryz.prog 136 [.slice a wt.counts.length c, .func (.func 138) #[] #[]] H R (.slice a wt.counts.length c) := by
 have hnc := hw.nc
 refine Z8 Tryz.func136 rfl Tryz.ntmps136 rfl ?_
 refine sqt 1 rfl (pur 1 rfl (Z0 (sqt 3 rfl (pur 1 rfl (sp rfl (PE.lenSl Z0Q rfl) rfl (pur 1 rfl ?_))))))
 refine Z2 rfl ?_ ?_ <;> intro hc0
 refine sqt 2 rfl (pur 2 rfl (Z1 ?_))
 exact rtA rfl rfl rfl ⟨rfl, rfl, rfl⟩ drp
 try simp only [cS] at hc0
 refine Z5 (Z0 (sqt 1 rfl (pur 1 rfl (Z4 ?_))))
 refine Zc (ι := {k : Nat // k + 1 ≤ wt.counts.length}) (fun k => ⟨[(0, .slice a wt.counts.length c), (1, .func (.func 138) #[] #[]), (5, .int .i64 ((k.1 + 1 : Nat) : Int))], H, R⟩) (fun k => wt.counts.length - k.1) ⟨0, by omega⟩ ?_ (fun k => ?_)
 exact Zk idH
 obtain ⟨k, hk⟩ := k
 dsimp only at hk ⊢
 refine Z0 (sqt 4 rfl (pur 2 rfl (sp rfl (PE.lenSl Z0Q rfl) rfl (pur 1 rfl ?_))))
 refine Z2 rfl ?_ ?_ <;> intro hc1
 try simp only [cS] at hc1
 obtain ⟨y, hy⟩ : ∃ y, wt.counts[k + 1]? = some y := ⟨_, List.getElem?_eq_getElem (by omega)⟩
 obtain ⟨x, hx⟩ : ∃ x, wt.counts[k]? = some x := ⟨_, List.getElem?_eq_getElem (by omega)⟩
 have hxy := hw.inc k x y hx hy
 have hxb := hw.cnt x (List.mem_of_getElem? hx)
 have hyb := hw.cnt y (List.mem_of_getElem? hy)
 have hho := hw.hours
 refine Zl (a := a) (sz := 3) (rows := crows wt.counts) (by intro h0; simp [crows] at h0; simp [h0] at hx) (fun b off he => ?_)
 subst he
 refine Z5 (Z0 (Z4 (Z0 ?_)))
 refine Z9 [0, 0, 0, 6, 14, 0, 0, 64, 224, 480, 1023] (tks 0 4 (.ld 4 (tks 5 4 (.ld 9 (.big 10 .done))))) Zo (by kernel_rfl) ?_
 refine Zf 3 rfl (tk rfl (PE.indexAddr Z6c rfl rfl (by omega) (by omega)) rfl (ld rfl rfl (lfA Z33 (row := Z0t y) (ZK hy) rfl) rfl (Zf 2 rfl (tk rfl (PE.sub rfl rfl (by omega)) rfl (tk rfl (PE.indexAddr Z6c rfl rfl (by omega) (by omega)) rfl (ld rfl rfl (lfA Z33 (row := Z0t x) (by rw [show (((k + 1 : Nat) : Int) - 1).toNat = k from by omega]; exact ZK hx) rfl) rfl ?_))))))
 refine Z1M rfl rfl (Ze9) rfl rfl (Z6O y x _ _) ?_
 refine bgT ?_
 refine Z2 rfl ?_ ?_ <;> intro hc2
 exact absurd hc2 (by simp; omega)
 refine Z5 (sqr 3 rfl (pur 1 rfl (sp rfl (PE.add rfl rfl (by omega)) rfl (pur 1 rfl ?_))))
 refine Zi ⟨k + 1, by omega⟩ (by dsimp only; omega) idH
 refine Za (Zb (Zb (Zr (sqt 2 rfl (pur 2 rfl (Z1 ?_))))))
 exact rtA rfl rfl rfl ⟨rfl, rfl, rfl⟩ drp
theorem Z1d (wt : Wt) (a1 a2 a3 : Option Addr) (k1 k2 k3 : Nat) (hw : wt.ok) (H : Z6) (R : Z3) [hR1 : MemRows a1 3 (crows wt.counts) R] [hR2 : MemRows a2 2 (bkrows wt.books) R] [hR3 : MemRows a3 3 (sprows wt.spells) R] :
    FnV Tryz.prog 61 [(wt.v a1 a2 a3 k1 k2 k3)] H R (.int .i64 0) := by
 have hnc := hw.nc
 have hnb := hw.nb
 have hns := hw.ns
 have hho := hw.hours
 have hal := hw.allow
 have hha := hw.hands
 refine Z8 Tryz.func61 rfl Tryz.ntmps61 rfl ?_
 refine sqt 2 rfl (bx rfl rfl rfl (fun b1 => pur 1 rfl (sqt 4 rfl (spL rfl rfl (lhA (wtl wt a1 a2 a3 k1 k2 k3) Z5o rfl rfl rfl) rfl (sp rfl (PE.makeFunc rfl rfl) rfl (alc rfl Zbb rfl (fun b3 => ?_)))))))
 refine sto rfl rfl rfl Zba rfl rfl rfl rfl ?_
 refine Z0 (Z4 (sqt 24 rfl (sp rfl (PE.fA Z6U rfl) rfl (spL rfl rfl (lh sc3 rfl rfl) rfl ?_))))
 refine clV rfl Z1y rfl rfl (Z5b _ _ _ (by omega) _ _) ?_
 refine pur 2 rfl ?_
 refine Zp 11 rfl ?_ ?_ <;> intro g11
 exact absurd g11 (by simp)
 refine spG rfl rfl rfl rfl (PE.fA ZP rfl) rfl ?_
 refine Z0K rfl rfl rfl rfl rfl (lh Z15 rfl rfl) rfl ?_
 refine spG rfl rfl rfl rfl (PE.lenSl Z0Q rfl) rfl ?_
 refine Z3c rfl rfl rfl rfl Z1y rfl rfl (Z5b _ _ _ (by omega) _ _) ?_
 refine pur 3 rfl ?_
 refine Zp 18 rfl ?_ ?_ <;> intro g18
 exact absurd g18 (by simp)
 refine spG rfl rfl rfl rfl (PE.fA Z6z rfl) rfl ?_
 refine Z0K rfl rfl rfl rfl rfl (lh ZfC rfl rfl) rfl ?_
 refine spG rfl rfl rfl rfl (PE.lenSl ZaN rfl) rfl ?_
 refine pur 3 rfl ?_
 refine Zp 24 rfl ?_ ?_ <;> intro g24
 exact absurd g24 (by simp; omega)
 refine spG rfl rfl rfl rfl (PE.fA Z4i rfl) rfl ?_
 refine Z0K rfl rfl rfl rfl rfl (lh ZcT rfl rfl) rfl ?_
 refine spG rfl rfl rfl rfl (PE.lenSl ZbG rfl) rfl ?_
 refine pur 3 rfl ?_
 refine Z2 rfl ?_ ?_ <;> intro hc0
 exact absurd hc0 (by simp; omega)
 refine sqt 11 rfl (sp rfl (PE.fA Z9G rfl) rfl (spL rfl rfl (lh sc3 rfl rfl) rfl ?_))
 refine clV rfl Z1y rfl rfl (Z5b _ _ _ (by omega) _ _) ?_
 refine pur 2 rfl ?_
 refine Zp 35 rfl ?_ ?_ <;> intro g35
 exact absurd g35 (by simp)
 refine spG rfl rfl rfl rfl (PE.fA Z9D rfl) rfl ?_
 refine Z0K rfl rfl rfl rfl rfl (lh sc3 rfl rfl) rfl ?_
 refine Z3c rfl rfl rfl rfl Z1y rfl rfl (Z5b _ _ _ (by omega) _ _) ?_
 refine pur 3 rfl ?_
 refine Z2 rfl ?_ ?_ <;> intro hc1
 exact absurd hc1 (by simp)
 refine sqt 6 rfl (sp rfl (PE.fA ZP rfl) rfl (spL rfl rfl (lh Z15 rfl rfl) rfl (sp rfl (PE.makeFunc rfl rfl) rfl ?_)))
 refine cl rfl Z9O rfl rfl (Z2v wt.counts a1 k1 127 [] [_] (fun _ => true) ZcK (by omega) _ _ (fun _ _ x hx => Z4g wt a1 a2 a3 k1 k2 k3 hw x hx b1 _ _)) ?_
 rintro _ _ R1 ⟨rfl, rfl, hR1⟩
 obtain rfl := hR1.symm
 clear hR1
 rw [Z5J]
 refine pur 2 rfl ?_
 refine Z2 rfl ?_ ?_ <;> intro hc2
 exact absurd hc2 (by simp)
 refine sqt 6 rfl (sp rfl (PE.fA Z6z rfl) rfl (spL rfl rfl (lh ZfC rfl rfl) rfl (sp rfl (PE.makeFunc rfl rfl) rfl ?_)))
 refine cl rfl Zcg rfl rfl (Z4Z wt.books a2 k2 130 [] [_] (fun _ => true) ZbZ (by omega) _ _ (fun _ _ x hx => Z4t wt a1 a2 a3 k1 k2 k3 hw x hx b1 _ _)) ?_
 rintro _ _ R1 ⟨rfl, rfl, hR1⟩
 obtain rfl := hR1.symm
 clear hR1
 rw [Z5J]
 refine pur 2 rfl ?_
 refine Z2 rfl ?_ ?_ <;> intro hc3
 exact absurd hc3 (by simp)
 refine sqt 6 rfl (sp rfl (PE.fA Z4i rfl) rfl (spL rfl rfl (lh ZcT rfl rfl) rfl (sp rfl (PE.makeFunc rfl rfl) rfl ?_)))
 refine cl rfl Z6P rfl rfl (Z1k wt.spells a3 k3 132 [] [_] (fun _ => true) ZbW (by omega) _ _ (fun _ _ x hx => Z6X wt a1 a2 a3 k1 k2 k3 hw x hx b1 _ _)) ?_
 rintro _ _ R1 ⟨rfl, rfl, hR1⟩
 obtain rfl := hR1.symm
 clear hR1
 rw [Z5J]
 refine pur 2 rfl ?_
 refine Z2 rfl ?_ ?_ <;> intro hc4
 exact absurd hc4 (by simp)
 refine sqt 6 rfl (sp rfl (PE.fA Z4i rfl) rfl (spL rfl rfl (lh ZcT rfl rfl) rfl (sp rfl (PE.makeFunc rfl rfl) rfl ?_)))
 refine cl rfl Z6P rfl rfl (Z1k wt.spells a3 k3 133 [] [_] (fun _ => true) ZdC (by omega) _ _ (fun _ _ x hx => Z7e wt a1 a2 a3 k1 k2 k3 hw x hx b3 _ _)) ?_
 rintro _ _ R1 ⟨rfl, rfl, hR1⟩
 obtain rfl := hR1.symm
 clear hR1
 rw [Z5J]
 refine pur 2 rfl ?_
 refine Z2 rfl ?_ ?_ <;> intro hc5
 exact absurd hc5 (by simp)
 refine sqt 5 rfl (sp rfl (PE.fA ZP rfl) rfl (spL rfl rfl (lh Z15 rfl rfl) rfl ?_))
 refine clV rfl ZdT rfl rfl (Zbh wt hw a1 k1 _ _) ?_
 refine pur 2 rfl ?_
 refine Z2 rfl ?_ ?_ <;> intro hc6
 exact absurd hc6 (by simp)
 refine Z0 ?_
 refine Z9 [0, 1, 3, 7, 15, 0, 32, 96, 255, 511] (.tk 0 (.ld 1 (.tk 5 (.ld 6 (.tk 7 (.big 2 (.big 3 (.tk 4 (.tk 8 (.tk 9 .done)))))))))) Zo (by kernel_rfl) ?_
 refine tk rfl (PE.fA ZP rfl) rfl (ld rfl rfl (lh Z15 rfl rfl) rfl (tk rfl (PE.fA ZP rfl) rfl (ld rfl rfl (lh Z15 rfl rfl) rfl (tk rfl (PE.lenSl Z0Q rfl) rfl ?_))))
 refine cl rfl ZbV rfl rfl (Z4r wt.counts a1 k1 (by omega) _ _) ?_
 rintro _ _ R1 ⟨a9, k9, rfl, rfl, hR1⟩
 obtain rfl := hR1.symm
 clear hR1
 refine bg (fun w hs => ⟨(lh Z15 rfl rfl) w hs, trivial, trivial⟩) ?_
 refine clV rfl Zc1 rfl rfl (Zan wt hw a9 k9 _ _) ?_
 refine bg (fun w hs => ⟨(lh Z15 rfl rfl) w hs, trivial⟩) ?_
 refine tk rfl (PE.lenSl Z0Q rfl) rfl (Zf 2 rfl ?_)
 refine Z2 rfl ?_ ?_ <;> intro hc7
 exact absurd hc7 (by simp)
 refine sqt 11 rfl (sp rfl (PE.fA ZP rfl) rfl (spL rfl rfl (lh Z15 rfl rfl) rfl ?_))
 refine cl rfl Z9O rfl rfl (Z2v wt.counts a1 k1 139 [] [] (fun x => decide (x.lo ≤ x.hi)) Zcv (by omega) _ _ (fun _ _ x hx => Z7Q x _ _)) ?_
 rintro _ _ R1 ⟨rfl, rfl, hR1⟩
 obtain rfl := hR1.symm
 clear hR1
 rw [show (wt.counts.all fun x => decide (x.lo ≤ x.hi)) = true from List.all_eq_true.2 fun x hx => by have := hw.cnt x hx; simp; omega]
 refine pur 2 rfl ?_
 refine Zp 85 rfl ?_ ?_ <;> intro g85
 exact absurd g85 (by simp)
 refine spG rfl rfl rfl rfl (PE.fA Z4i rfl) rfl ?_
 refine Z0K rfl rfl rfl rfl rfl (lh ZcT rfl rfl) rfl ?_
 refine clG rfl rfl rfl rfl Z6P rfl rfl (Z1k wt.spells a3 k3 140 [] [] (fun x => decide (x.fr < x.to)) ZbU (by omega) _ _ (fun _ _ x hx => Z74 x _ _)) ?_
 rintro _ _ R1 ⟨rfl, rfl, hR1⟩
 obtain rfl := hR1.symm
 clear hR1
 rw [show (wt.spells.all fun x => decide (x.fr < x.to)) = true from List.all_eq_true.2 fun x hx => by have := hw.spl x hx; simp; omega]
 refine pur 3 rfl ?_
 refine Z2 rfl ?_ ?_ <;> intro hc8
 exact absurd hc8 (by simp)
 refine Z5 (sqt 1 rfl (pur 1 rfl (Z1 ?_)))
 exact rtA rfl rfl rfl ⟨rfl, rfl, rfl⟩ (fun w h => St.sub ((h.del b3).del b1))
end Go.Proofs.YtjoajfdnlomapaaGreat.Hn
namespace Go.Proofs.YtjoajfdnlomapaaGreat
set_option linter.unusedSimpArgs false
set_option linter.unusedVariables false
open Go
section pe
variable {P : Program} {L : Zh} {d : Option Tmp} {ty : TypeId} {pos : String} {af : Array Edge} {g : Option (Nat × Bool)}
theorem PE.andNotN {T U : TypeId} {x y : Operand} {m n : Nat} (hx : ev L x = some (.int .i64 (m : Int))) (hy : ev L y = some (.int .i64 (n : Int))) (hm : m ≤ 9223372036854775807) (hn : n ≤ 9223372036854775807) :
    PE P L ⟨d, .binOp .andNot T x y U, ty, pos, af, g⟩ (.int .i64 ((m &&& (18446744073709551615 - n) : Nat) : Int)) := by
  refine PE.bits (by simp) hx hy (fun w => ?_)
  show Result.ok (Value.int .i64 (IntKind.i64.wrap ((BitVec.ofInt 64 (m : Int) &&& ~~~ BitVec.ofInt 64 (n : Int)).toNat : Int))) w = _
  have : m &&& (18446744073709551615 - n) ≤ m := Nat.and_le_left
  rw [BitVec.toNat_and, BitVec.toNat_not, Z0q hm, Z0q hn, show 2 ^ 64 - 1 - n = 18446744073709551615 - n from rfl, ZO (by omega) (by omega)]
theorem PE.shr1 {T U : TypeId} {x y : Operand} {m : Int} {q : IntKind} (hx : ev L x = some (.int .u64 m)) (hy : ev L y = some (.int q 1)) (h0 : 0 ≤ m) :
    PE P L ⟨d, .binOp .shr T x y U, ty, pos, af, g⟩ (.int .u64 (m / 2)) := fun ρ hρ w => by
  have hg : ∀ w, (eqGuard .shr T x y (.int .u64 m) (.int q 1)).run P w = .ok () w := fun w => rfl
  have hbo : binOp .shr T (.int .u64 m) (.int q 1) = Op.shift .shr .u64 m q 1 := by simp [binOp]
  have hs : ∀ w, (Op.shift .shr .u64 m q 1).run P w = .ok (.int .u64 (m / 2)) w := fun w => by
    unfold Op.shift
    rw [if_neg (by omega)]
    show Result.ok (Value.int .u64 (m.fdiv (2 ^ (Min.min ((1 : Int).toNat) (IntKind.u64.bits))))) w = _
    have e : Min.min ((1 : Int).toNat) (IntKind.u64.bits) = 1 := rfl
    rw [e, Int.fdiv_eq_ediv_of_nonneg _ (by decide)]; rfl
  simp only [execOp, hρ _ _ hx, hρ _ _ hy, Sem.run_bind, hg, hbo, hs, Result.andThen, Sem.run_pure]
end pe
abbrev Z1T (l : List Bool) : List Value := l.map Value.bool
theorem Z4w {P : Program} {e : Nat} (hs : Z0b P e = true) (l : List Bool) (off : Nat) (hl : off < l.length) (w : World) : (part e (Z1T l).toArray off).run P w = .ok (.bool l[off]) w := by
  unfold part
  simp only [Sem.run_bind, Z0k hs, Result.andThen]
  simp [hl, Sem.run_pure]
theorem Z3b {P : Program} {d e : Nat} (hu : P.underlying e = some .bool) (xs ys : List Bool) : ∀ (is : List Nat), (∀ i ∈ is, i < xs.length ∧ i < ys.length) → ∀ w,
    (Op.eqItems (d + 1) e 1 (Z1T xs).toArray (Z1T ys).toArray is).run P w = .ok (decide (∀ i ∈ is, xs[i]? = ys[i]?)) w
  | [], _, w => by simp [Op.eqItems, Sem.run_pure]
  | i :: is, hi, w => by
    obtain ⟨h1, h2⟩ := hi i (by simp)
    have hs : Z0b P e = true := by simp [Z0b, hu]
    have p1 := Z4w hs xs i h1 w
    have p2 := Z4w hs ys i h2 w
    have p3 : (Op.equalIn (d + 1) e (.bool xs[i]) (.bool ys[i])).run P w = .ok (xs[i] == ys[i]) w := by
      rw [Op.equalIn]
      simp only [Sem.run_bind, run_underlying hu, Result.andThen, Sem.run_pure]
    simp only [Op.eqItems, Sem.run_bind, Nat.mul_one, p1, p2, p3, Result.andThen]
    by_cases hc : xs[i] = ys[i]
    · rw [if_neg (by simp [hc]), Z3b hu xs ys is (fun j hj => hi j (by simp [hj])) w]
      congr 1
      exact decide_eq_decide.2 ⟨fun h j hj => by
        rcases List.mem_cons.1 hj with rfl | hj
        · rw [List.getElem?_eq_getElem h1, List.getElem?_eq_getElem h2, hc]
        · exact h j hj, fun h j hj => h j (by simp [hj])⟩
    · rw [if_pos (by simp [hc])]
      simp only [Sem.run_pure]
      congr 1
      exact (decide_eq_false fun h => hc (by
        have := h i (by simp)
        rw [List.getElem?_eq_getElem h1, List.getElem?_eq_getElem h2] at this
        exact Option.some.inj this)).symm
section pb
variable {P : Program} {L : Zh} {d : Option Tmp} {ty : TypeId} {pos : String} {af : Array Edge} {g : Option (Nat × Bool)}
theorem PE.eqlBools {T U n e : Nat} {x y : Operand} (xs ys : List Bool) (hA : arE P T = some (n, e)) (hN : arN P T = some (n, 1)) (hu : P.underlying e = some .bool) (hg : P.eqGuardType P.depth T = false) (hx : ev L x = some (.agg (Z1T xs).toArray)) (hy : ev L y = some (.agg (Z1T ys).toArray)) (lx : xs.length = n) (ly : ys.length = n) :
    PE P L ⟨d, .binOp .eql T x y U, ty, pos, af, g⟩ (.bool (decide (xs = ys))) := fun ρ hρ w => by
  have hb : binOp .eql T (.agg (Z1T xs).toArray) (.agg (Z1T ys).toArray) = (do pure (.bool (← Op.equal T (.agg (Z1T xs).toArray) (.agg (Z1T ys).toArray)))) := rfl
  have he : (Op.equal T (.agg (Z1T xs).toArray) (.agg (Z1T ys).toArray)).run P w = .ok (decide (xs = ys)) w := by
    obtain ⟨e', i, h1, h2, h3⟩ := Z7T hN
    have he' : e' = e := by
      unfold arE at hA
      rw [h1] at hA
      simp only [Option.some.injEq, Prod.mk.injEq] at hA
      exact hA.2
    subst he'
    have hc : P.cellsOf e' = 1 := by simp [Program.cellsOf, h2, h3]
    show (Op.equalIn (9998 + 1 + 1) T (.agg (Z1T xs).toArray) (.agg (Z1T ys).toArray)).run P w = _
    rw [run_equalIn_array (w := w) (9998 + 1) _ _ h1 h2, hc, Z3b hu xs ys (List.range n) (fun j hj => by have := List.mem_range.1 hj; omega) w]
    congr 1
    exact decide_eq_decide.2 ⟨fun h => List.ext_getElem? fun j => by
      rcases Nat.lt_or_ge j n with hj | hj
      · exact h j (List.mem_range.2 hj)
      · rw [List.getElem?_eq_none (by omega), List.getElem?_eq_none (by omega)], fun h j _ => by rw [h]⟩
  simp only [execOp, hρ _ _ hx, hρ _ _ hy, Sem.run_bind, Z0c hg, hb, he, Result.andThen, Sem.run_pure]
end pb
theorem Z2q {m n : Nat} (hm : m ≤ 9223372036854775807) (hn : n ≤ 9223372036854775807) : (m &&& (18446744073709551615 - n) = 0) ↔ (m &&& n = m) := by
  have hb : ∀ i, (18446744073709551615 - n).testBit i = (decide (i < 64) && !(n.testBit i)) := fun i => by
    rw [show 18446744073709551615 - n = 2 ^ 64 - (n + 1) from by omega]
    exact Nat.testBit_two_pow_sub_succ (by omega) i
  constructor
  · intro h
    refine Nat.eq_of_testBit_eq fun i => ?_
    have h1 : (m &&& (18446744073709551615 - n)).testBit i = false := by rw [h]; simp
    rw [Nat.testBit_and, hb] at h1
    rw [Nat.testBit_and]
    by_cases hi : i < 64
    · simp only [hi, decide_true, Bool.true_and] at h1
      cases h2 : m.testBit i <;> simp_all
    · have : m.testBit i = false := Nat.testBit_lt_two_pow (Nat.lt_of_lt_of_le (show m < 2 ^ 64 by omega) (Nat.pow_le_pow_right (by decide) (by omega)))
      rw [this]; rfl
  · intro h
    refine Nat.eq_of_testBit_eq fun i => ?_
    rw [Nat.testBit_and, hb, Nat.zero_testBit]
    have h1 : (m &&& n).testBit i = m.testBit i := by rw [h]
    rw [Nat.testBit_and] at h1
    cases h2 : m.testBit i <;> simp_all
theorem Z2o {P : Program} {H : Z6} {R : Z3} {T KT E s m : Nat} {b : Bool} (l : KV) (k : List Int) {zv v : Value} (hT : Z2W P T = some (KT, E)) (hK : KeyT P b KT s) (hz : ∀ w, (zeroValue E).run P w = .ok zv w) (hk : k.length = s) (hl : ∀ e ∈ l, e.1.length = s)
    [mm : Mem1 m (Z0M b l) H] (hv : (l.get k).getD zv = v) : ∀ w, St H R w → Lkp P T (.map (some m)) (mkv b k) false v w := fun w hs => by
  have := ZaJ (R := R) (m := m) l k hT hK hz hk hl false w hs
  rw [cond_false, hv] at this
  exact this
theorem Z3M {P : Program} {H : Z6} {R : Z3} {T KT E s m : Nat} {b : Bool} (l : KV) (k : List Int) {zv v : Value} (hT : Z2W P T = some (KT, E)) (hK : KeyT P b KT s) (hz : ∀ w, (zeroValue E).run P w = .ok zv w) (hk : k.length = s) (hl : ∀ e ∈ l, e.1.length = s)
    (hm : ∀ w, St H R w → w.heap[m]? = some (Z0M b l)) (hv : (l.get k).getD zv = v) : ∀ w, St H R w → Lkp P T (.map (some m)) (mkv b k) false v w := fun w hs => by
  have := Zar l k hT hK hz hk hl hm false w hs
  rw [cond_false, hv] at this
  exact this
def Zay (l : KV) (k : List Int) (v : Value) (j : Nat) : Prop := l[j]? = some (k, v) ∧ ∀ u, l.put k u = l.set j (k, u)
theorem Z6D {P : Program} {T KT E s m : Nat} {b : Bool} {l : KV} {k : List Int} {zv : Value} (hT : Z2W P T = some (KT, E)) (hK : KeyT P b KT s) (hz : ∀ w, (zeroValue E).run P w = .ok zv w) (hk : k.length = s) (hl : ∀ e ∈ l, e.1.length = s) {w : World} (h : w.heap[m]? = some (Z0M b l)) :
    ∃ j : Nat, Zay (l.put k ((l.get k).getD zv)) k ((l.get k).getD zv) j ∧
      (Instr.mapEntry T (.map (some m)) (mkv b k)).run P w = .ok (.tuple #[(l.get k).getD zv, .int .i64 j]) { w with heap := w.heap.setIfInBounds m (Z0M b (l.put k ((l.get k).getD zv))) } := by
  unfold Z2W at hT
  split at hT <;> cases hT
  rename_i hu
  have h1 := Z11 (P := P) h
  have h2 := hK.ck false k hk w
  have h3 := Z1l hK k hk l hl w
  have h4 : ∀ o, (setObj m o).run P w = .ok () { w with heap := w.heap.setIfInBounds m o } := fun o => Z36 h
  unfold Instr.mapEntry
  simp only [Sem.run_bind, run_underlying hu, Result.andThen, h1, Z0M, h2, h3]
  have hg := Z3F (k := k) (l := l)
  cases hf : l.findIdx? fun e => decide (e.1 = k) with
  | none =>
    rw [hf] at hg
    simp only [Option.map_none] at hg
    rw [← hg]
    simp only [Option.map_none, Option.getD_none, hz, Result.andThen, h4, Sem.run_bind]
    refine ⟨l.length, ⟨by rw [Z2e hf]; simp, fun u => ?_⟩, ?_⟩
    · have hf2 : (l ++ [(k, zv)]).findIdx? (fun e => decide (e.1 = k)) = some l.length := by
        rw [List.findIdx?_append, hf]; simp
      rw [Z2e hf]
      exact (Z2i hf2).1
    · rw [Z2e hf, Z4f]
      simp [Sem.run_pure, goInt]
  | some j =>
    obtain ⟨h5, h6⟩ := Z2i (v := (l.getD j default).2) hf
    have hjk : (l[j]).1 = k := by
      have := (List.findIdx?_eq_some_iff_getElem.1 hf).2.1
      simpa using this
    rw [hf] at hg
    simp only [Option.map_some] at hg
    rw [← hg]
    have e0 := Z2k b l 0 j l[j] (List.getElem?_eq_getElem h6)
    have h7 : ((((Z14 b 0 l).toArray[j]?).map (·.key)).getD (mkv b k)) = mkv b k := by
      simp [e0, hjk]
    have hv : (l.getD j default).2 = (l[j]).2 := by simp [List.getD_eq_getElem?_getD, h6]
    have hself : l.set j (k, (l.getD j default).2) = l := by
      rw [hv, ← hjk]
      exact List.set_getElem_self h6
    simp only [Option.map_some, Option.getD_some, Sem.run_bind, h7, Z6t, Result.andThen, h4, Sem.run_pure]
    refine ⟨j, ⟨by rw [h5, hself, List.getElem?_eq_getElem h6, hv, ← hjk], fun u => ?_⟩, ?_⟩
    · rw [h5, hself]; exact (Z2i hf).1
    · have hm : ((Z14 b 0 l).toArray.modify j fun e => { e with key := mkv b k }) = (Z14 b 0 l).toArray := by
        apply Array.ext'
        rw [Array.toList_modify]
        refine List.ext_getElem? fun i => ?_
        rw [List.getElem?_modify]
        by_cases hij : j = i
        · subst hij
          simp only [if_true]
          rw [e0]; simp [hjk]
        · simp [hij]
      rw [hm, h5, hself]
      simp [e0, goInt]
section ops
variable {P : Program} {r : Option Nat} {ops : Array Oper} {n : Nat} {L : Zh} {D : List Deferred} {H : Z6} {R : Z3} {K : Act → World → Prop}
  {i d : Nat} {ty : TypeId} {pos : String} {af : Array Edge}
theorem mpE {T KT E s m : Nat} {x y : Operand} {b : Bool} (l : KV) (k : List Int) {zv v0 : Value} {H' : Z6} (ho : ops[i]? = some ⟨some d, .mapEntry T x y, ty, pos, af, none⟩)
    (hT : Z2W P T = some (KT, E)) (hK : KeyT P b KT s) (hz : ∀ w, (zeroValue E).run P w = .ok zv w) (hx : ev L x = some (.map (some m))) (hy : ev L y = some (mkv b k)) (hk : k.length = s) (hl : ∀ e ∈ l, e.1.length = s)
    (hv : (l.get k).getD zv = v0) (hd : Nat.blt d n = true) [mm : Mem1 m (Z0M b l) H] [rp : Rep [(m, Z0M b l)] [(m, Z0M b (l.put k v0))] H H']
    (h : ∀ j : Nat, Zay (l.put k v0) k v0 j → Sy n ((d, .tuple #[v0, .int .i64 j]) :: L) D H' R K) : Sy n L D H R (stp P r ops i K) := fun a w ha hD hs => by
  subst hv
  obtain ⟨j, hj, h1⟩ := Z6D (P := P) hT hK hz hk hl (hs.held _ mm.mem)
  refine Zw ho (Zg _ rfl _) (w' := { w with heap := w.heap.setIfInBounds m (Z0M b (l.put k ((l.get k).getD zv))) }) ?_ (h j hj _ _ (ha.put (by simpa using hd) _) hD (hs.rep (F := [(m, Z0M b l)]) (F' := [(m, Z0M b (l.put k ((l.get k).getD zv)))]) fun T hT => St.set hT))
  simp only [execOp, ha.reads _ _ hx, ha.reads _ _ hy, Sem.run_bind, h1, Result.andThen, Sem.run_pure]
theorem mpT {T m j : Nat} {x y z : Operand} {b : Bool} (l : KV) (k : List Int) {v0 v : Value} {H' : Z6} (ho : ops[i]? = some ⟨none, .entryStore T x y z, ty, pos, af, none⟩)
    (hx : ev L x = some (.map (some m))) (hy : ev L y = some (.int .i64 (j : Nat))) (hz : ev L z = some v) (he : Zay l k v0 j) [mm : Mem1 m (Z0M b l) H] [rp : Rep [(m, Z0M b l)] [(m, Z0M b (l.put k v))] H H']
    (h : Sy n L D H' R K) : Sy n L D H R (stp P r ops i K) := fun a w ha hD hs => by
  have hh := hs.held _ mm.mem
  have h1 := Z11 (P := P) hh
  have h4 : ∀ o, (setObj m o).run P w = .ok () { w with heap := w.heap.setIfInBounds m o } := fun o => Z36 hh
  have hjl := (List.getElem?_eq_some_iff.1 he.1).1
  have e0 := Z2k b l 0 j (k, v0) he.1
  have hf : (Z14 b 0 l).toArray.findIdx? (fun e => (e.born : Int) == (j : Int)) = some j := by
    rw [List.findIdx?_toArray, List.findIdx?_eq_some_iff_getElem]
    have hlen := Z5p b l 0
    refine ⟨by omega, ?_, fun q hq => ?_⟩
    · have := List.getElem?_eq_some_iff.1 e0
      obtain ⟨h5, h6⟩ := this
      rw [h6]; simp
    · have e1 := Z2k b l 0 q l[q] (List.getElem?_eq_getElem (by omega))
      obtain ⟨h5, h6⟩ := List.getElem?_eq_some_iff.1 e1
      rw [h6]; simp; omega
  have h2 : (Instr.entryStore T (.map (some m)) (.int .i64 (j : Nat)) v).run P w = .ok () { w with heap := w.heap.setIfInBounds m (Z0M b (l.put k v)) } := by
    unfold Instr.entryStore
    simp only [Sem.run_bind, Result.andThen, h1, Z0M, asInt, asIntOf, Sem.run_pure, hf, h4]
    have hm : ((Z14 b 0 l).toArray.modify j fun e => { e with val := v }) = ((Z14 b 0 l).modify j fun e => { e with key := mkv b k, val := v }).toArray := by
      apply Array.ext'
      simp only [Array.toList_modify]
      refine List.ext_getElem? fun q => ?_
      rw [List.getElem?_modify, List.getElem?_modify]
      by_cases hq : j = q
      · subst hq
        simp only [if_true]
        rw [e0]; rfl
      · simp [hq]
    rw [he.2 v, Z5N, hm, List.length_set]
  refine Z3t ho (Zg _ rfl _) (w' := { w with heap := w.heap.setIfInBounds m (Z0M b (l.put k v)) }) ?_ (h _ _ (ha.putNone undef) hD (hs.rep (F := [(m, Z0M b l)]) (F' := [(m, Z0M b (l.put k v))]) fun T hT => St.set hT))
  simp only [execOp, ha.reads _ _ hx, ha.reads _ _ hy, ha.reads _ _ hz, Sem.run_bind, h2, Result.andThen, Sem.run_pure]
end ops
end Go.Proofs.YtjoajfdnlomapaaGreat
namespace Go.Proofs.YtjoajfdnlomapaaGreat.Hn
set_option linter.unusedSimpArgs false
set_option linter.unusedVariables false
open Go
theorem Z0G : Z0W Tryz.prog 195 = some 2 := by kernel_rfl
theorem Z8X : Z0W Tryz.prog 199 = some 8 := by kernel_rfl
theorem Z72 : arN Tryz.prog 199 = some (8, 1) := by kernel_rfl
theorem Z6I : arN Tryz.prog 203 = some (8, 1) := by kernel_rfl
theorem Z9A : cal Tryz.prog 175 = true := by kernel_rfl
theorem Zdw : Zx Tryz.prog 199 = some 8 := by kernel_rfl
theorem cn4 : Zx Tryz.prog 4 = some 1 := by kernel_rfl
theorem Zej : Zx Tryz.prog 89 = some 3 := by kernel_rfl
theorem Z1r : eqB Tryz.prog 10000 195 = some (true, 2) := by kernel_rfl
theorem Z1I : ZJ Tryz.prog 195 0 = some 0 := by kernel_rfl
theorem Z1m : ZJ Tryz.prog 195 1 = some 1 := by kernel_rfl
theorem Z0e : ZJ Tryz.prog 206 0 = some 0 := by kernel_rfl
theorem Z2y : ZJ Tryz.prog 206 1 = some 6 := by kernel_rfl
theorem Z3L : ZJ Tryz.prog 206 2 = some 14 := by kernel_rfl
theorem Z20 : Z2W Tryz.prog 204 = some (195, 3) := by kernel_rfl
theorem Z1X : Z32 Tryz.prog 10000 195 = true := by kernel_rfl
theorem Z8O : ZB Tryz.prog 195 = some [(0, 1), (1, 1)] := by kernel_rfl
theorem Z8u : Z0b Tryz.prog 204 = true := by kernel_rfl
theorem Z28 : Zs Tryz.prog 195 = some ([.int .i64 0, .int .i64 0]) := by kernel_rfl
theorem Z8w : Zs Tryz.prog 199 = some ([.bool false, .bool false, .bool false, .bool false, .bool false, .bool false, .bool false, .bool false]) := by kernel_rfl
theorem Z8V : Zs Tryz.prog 89 = some ([.int .i64 0, .int .i64 0, .int .i64 0]) := by kernel_rfl
theorem zv3 : zvl Tryz.prog 3 = some (.int .i64 0) := by kernel_rfl
theorem mul_b {a b A B : Int} (h1 : 0 ≤ a) (h2 : a ≤ A) (h3 : 0 ≤ b) (h4 : b ≤ B) : 0 ≤ a * b ∧ a * b ≤ A * B := by
  have h5 := Int.mul_le_mul h2 h4 h3 (by omega)
  have h6 := Int.mul_nonneg h1 h3
  omega
def pS (n f t : Nat) : Nat := ((List.range f).flatMap (Z9m n)).length + (t - (f + 1))
theorem Z5A (n f : Nat) : (Z9m n f).length = n - (f + 1) := by simp [Z9m]
theorem Zbj {n f t : Nat} (h : f + 1 ≤ t) : pS n f (t + 1) = pS n f t + 1 := by unfold pS; omega
theorem Zbs {n f : Nat} : pS n f n = pS n (f + 1) (f + 2) := by
  unfold pS
  rw [List.range_succ, List.flatMap_append, List.length_append]
  simp only [List.flatMap_cons, List.flatMap_nil, List.append_nil, Z5A]; omega
theorem ZdI (n : Nat) : pS n n (n + 1) = (Z10 n).length := by unfold pS Z10; omega
theorem Zdk {n f t : Nat} (h1 : f + 1 ≤ t) (h2 : t < n) : (Z10 n)[pS n f t]? = some (f, t) := by
  have e1 : List.range n = List.range f ++ f :: (List.range n).drop (f + 1) := by
    have := List.drop_eq_getElem_cons (l := List.range n) (i := f) (by simp; omega)
    conv => lhs; rw [← List.take_append_drop f (List.range n)]
    rw [this, List.take_range]
    simp [Nat.min_eq_left (show f ≤ n by omega)]
  unfold Z10 pS
  rw [e1, List.flatMap_append, List.flatMap_cons, List.getElem?_append_right (by omega), Nat.add_sub_cancel_left, List.getElem?_append_left (by rw [Z5A]; omega)]
  unfold Z9m
  rw [List.getElem?_map, List.getElem?_range' (by omega)]
  simp; omega
theorem str_mem {n f t : Nat} : (f, t) ∈ Z10 n ↔ f < t ∧ t < n := by
  unfold Z10 Z9m
  simp only [List.mem_flatMap, List.mem_range, List.mem_map, Prod.mk.injEq, List.mem_range'_1]
  constructor
  · rintro ⟨a, h1, b, h2, rfl, rfl⟩; omega
  · rintro ⟨h1, h2⟩; exact ⟨f, by omega, t, by omega, rfl, rfl⟩
theorem Z8A {w : Wt} {i : Nat} {c : Cnt} (h : w.counts[i]? = some c) : w.cn i = c := by unfold Wt.cn; rw [List.getD_eq_getElem?_getD, h]; rfl
theorem Z0p {w : Wt} {i : Nat} (h : i < w.counts.length) : w.counts[i]? = some (w.cn i) := by
  obtain ⟨c, hc⟩ : ∃ c, w.counts[i]? = some c := ⟨_, List.getElem?_eq_getElem h⟩
  rw [Z8A hc, hc]
theorem Z5V {w : Wt} (hw : w.ok) {i : Nat} (h : i < w.counts.length) : (0 ≤ (w.cn i).hour ∧ (w.cn i).hour ≤ 60) ∧ (0 ≤ (w.cn i).lo ∧ (w.cn i).lo ≤ 500) ∧ (0 ≤ (w.cn i).hi ∧ (w.cn i).hi ≤ 500) ∧ (w.cn i).lo ≤ (w.cn i).hi := by
  have h1 := hw.cnt _ (List.mem_of_getElem? (Z0p h))
  have h2 := hw.hours
  omega
theorem ZdE {w : Wt} (hw : w.ok) {i j : Nat} (hij : i < j) (h : j < w.counts.length) : (w.cn i).hour < (w.cn j).hour := hw.lt' hij (Z0p (by omega)) (Z0p h)
structure SumOk (s : List Int) (B : Int) : Prop where
  len : s.length = 8
  bd : ∀ i, -B ≤ na0 s i ∧ na0 s i ≤ B
theorem Z1K {s : List Int} {i j : Nat} {v : Int} (hi : i < s.length) : na0 (s.set i v) j = bif decide (i = j) then v else na0 s j := by
  unfold na0
  rw [List.getD_eq_getElem?_getD, List.getElem?_set, List.getD_eq_getElem?_getD]
  by_cases h : i = j
  · subst h; simp [hi]
  · simp [h]
theorem Zdu {w : Wt} (hw : w.ok) {s : List Int} {B : Int} (h : SumOk s B) {b : Bkg} (hb : b ∈ w.books) : SumOk (w.bk1 s b) (B + 200) := by
  have hn := hw.nc
  have h1 := (hw.bks b hb).2.1
  have hB := h.bd 0
  unfold Wt.bk1
  cases hc : decide (0 < w.pos b.hour) && decide (w.pos b.hour < w.counts.length) with
  | false => exact ⟨h.len, fun i => by have := h.bd i; simp only [cond_false]; omega⟩
  | true =>
    simp only [Bool.and_eq_true, decide_eq_true_eq] at hc
    have hl : w.pos b.hour - 1 < s.length := by rw [h.len]; omega
    refine ⟨by simp [h.len], fun i => ?_⟩
    simp only [cond_true]
    rw [Z1K hl]
    have h2 := h.bd i
    have h3 := h.bd (w.pos b.hour - 1)
    by_cases e : w.pos b.hour - 1 = i
    · simp only [e, decide_true, cond_true]; rw [e] at h3; omega
    · simp only [e, decide_false, cond_false]; omega
theorem Z3s {w : Wt} (hw : w.ok) : ∀ k, SumOk ((w.books.take k).foldl w.bk1 (List.replicate 8 0)) (200 * (w.books.take k).length)
  | 0 => ⟨by simp, fun i => by
    have e : na0 (List.replicate 8 0) i = 0 := by unfold na0; rw [List.getD_eq_getElem?_getD, List.getElem?_replicate]; split <;> rfl
    rw [List.take_zero, List.foldl_nil, e]; simp⟩
  | k + 1 => by
    have ih := Z3s hw k
    cases hb : w.books[k]? with
    | none => rw [List.take_add_one, hb]; simpa using ih
    | some b =>
      rw [List.take_add_one, hb, List.foldl_append]
      have := Zdu hw ih (List.mem_of_getElem? hb)
      simp only [Option.toList_some, List.foldl_cons, List.foldl_nil, List.length_append, List.length_singleton]
      refine ⟨this.len, fun i => ?_⟩
      have h2 := this.bd i
      omega
theorem Z1j {w : Wt} (hw : w.ok) : SumOk w.sums 2000 := by
  have h := Z3s hw w.books.length
  have hn := hw.nb
  rw [List.take_length] at h
  exact ⟨h.len, fun i => by have := h.bd i; show _ ≤ na0 (w.books.foldl w.bk1 _) i ∧ na0 (w.books.foldl w.bk1 _) i ≤ _; omega⟩
theorem Z4y (s : List Int) (f : Nat) : Z9c s f f = 0 := by simp [Z9c]
theorem Z4I {s : List Int} {f t : Nat} (h : f ≤ t) : Z9c s f (t + 1) = Z9c s f t + na0 s t := by
  unfold Z9c
  rw [show t + 1 - f = (t - f) + 1 by omega, List.range'_1_concat, List.map_append, List.sum_append, show f + (t - f) = t by omega]
  simp
theorem Z79 {s : List Int} {B : Int} (h : SumOk s B) (f : Nat) : ∀ k, -(B * (k : Nat)) ≤ Z9c s f (f + k) ∧ Z9c s f (f + k) ≤ B * (k : Nat)
  | 0 => by simp [Z4y]
  | k + 1 => by
    have ih := Z79 h f k
    have h1 := h.bd (f + k)
    rw [show f + (k + 1) = (f + k) + 1 by omega, Z4I (by omega)]
    have e : B * ((k + 1 : Nat) : Int) = B * (k : Nat) + B := by rw [Int.natCast_add, Int.mul_add]; simp
    omega
theorem Z98 {w : Wt} (hw : w.ok) {f t : Nat} (h : f ≤ t) (ht : t ≤ 8) : -16000 ≤ w.bk f t ∧ w.bk f t ≤ 16000 := by
  have h1 := Z79 (Z1j hw) f (t - f)
  rw [show f + (t - f) = t by omega] at h1
  unfold Wt.bk
  omega
theorem Zac {w : Wt} (hw : w.ok) {f t : Nat} (h : f < t) (ht : t < w.counts.length) : -18000 ≤ w.gap f t ∧ w.gap f t ≤ 18000 := by
  have hn := hw.nc
  have h1 := Z98 hw (f := f) (t := t) (by omega) (by omega)
  have h2 := Z5V hw (i := f) (by omega)
  have h3 := Z5V hw ht
  have h4 := ZdE hw h ht
  have h5 := hw.allow
  have h6 := mul_b (a := w.allow) (b := (w.cn t).hour - (w.cn f).hour) (A := 20) (B := 60) (by omega) (by omega) (by omega) (by omega)
  unfold Wt.gap
  omega
theorem Zbc {A B : List Value} {s : List Int} {i n : Nat} (hn : n = A.length + i) (hi : i < s.length) : (A ++ (Zd s ++ B))[n]? = some (.int .i64 (na0 s i)) := by
  subst hn
  rw [List.getElem?_append_right (by omega), Nat.add_sub_cancel_left, List.getElem?_append_left (by simpa using hi)]
  simp [Zd, na0, hi]
theorem Z5E {A : List Value} {s : List Int} {v : Value} {n : Nat} (hn : n = A.length + s.length) : (A ++ (Zd s ++ [v]))[n]? = some v := by
  subst hn
  rw [List.getElem?_append_right (by omega), Nat.add_sub_cancel_left, List.getElem?_append_right (by simp)]
  simp
theorem Z9S {A B : List Value} {s : List Int} {i n : Nat} {v : Int} (hn : n = A.length + i) (hi : i < s.length) : spl (A ++ (Zd s ++ B)) n [.int .i64 v] = A ++ (Zd (s.set i v) ++ B) := by
  subst hn
  unfold spl
  rw [List.take_length_add_append, List.append_assoc, List.append_assoc]
  congr 1
  rw [show A.length + i + [Value.int .i64 v].length = A.length + (i + 1) from by simp; omega, List.drop_length_add_append, List.take_append_of_le_length (by simp; omega), List.drop_append_of_le_length (by simp; omega), ← List.append_assoc, ← List.append_assoc]
  congr 1
  apply List.ext_getElem?
  intro j
  simp only [Zd, List.map_set]
  rw [List.set_eq_take_append_cons_drop, if_pos (by simpa using hi)]
  simp
def MpF (m : Nat) (kv : KV) : World → Prop := fun w => w.heap[m]? = some (Z0M true kv)
structure KvW (w : Wt) (kv : KV) : Prop where
  len : ∀ e ∈ kv, e.1.length = 2
  at_ : ∀ f t : Nat, f < t → t < w.counts.length → (kv.get [(f : Int), (t : Int)]).getD (.int .i64 0) = .int .i64 ((w.thr f t : Nat) : Int)
theorem Z7l {own : Nat → Bool} {f t T : Nat} (h : f ≤ t) : (List.range' f (t + 1 - f)).foldl (fun p i => Z6o own T i p) (T, -2) = Z6o own T t ((List.range' f (t - f)).foldl (fun p i => Z6o own T i p) (T, -2)) := by
  rw [show t + 1 - f = (t - f) + 1 by omega, List.range'_1_concat, List.foldl_append, show f + (t - f) = t by omega]; rfl
theorem Z6H (own : Nat → Bool) {f T : Nat} (hT : T ≤ 8) : ∀ k, f + k ≤ T → (let p := (List.range' f k).foldl (fun p i => Z6o own T i p) (T, (-2 : Int)); p.1 ≤ T ∧ -2 ≤ p.2 ∧ p.2 < (f + k : Nat) ∧ (p.2 = -2 → p.1 = T) ∧ (p.2 ≠ -2 → 0 ≤ p.2 ∧ (p.1 : Int) ≤ p.2 ∧ f ≤ p.1))
  | 0, _ => by simp; omega
  | k + 1, h => by
    have ih := Z6H own hT k (f := f) (by omega)
    dsimp only at ih ⊢
    rw [List.range'_1_concat, List.foldl_append]
    generalize (List.range' f k).foldl (fun p i => Z6o own T i p) (T, (-2 : Int)) = p at ih ⊢
    simp only [List.foldl_cons, List.foldl_nil, Z6o]
    cases own (f + k) with
    | false => simp only [cond_false]; omega
    | true =>
      simp only [cond_true]
      rcases Int.lt_or_le (-2) p.2 with h2 | h2
      · have := ih.2.2.2.2 (by omega); omega
      · have := ih.2.2.2.1 (by omega); omega
theorem Z7P (own : Nat → Bool) {f t : Nat} (ht : t ≤ 8) (h : f ≤ t) : (Z30 own f t).1 ≤ t ∧ -2 ≤ (Z30 own f t).2 ∧ (Z30 own f t).2 < (t : Int) ∧ ((Z30 own f t).2 ≠ -2 → 0 ≤ (Z30 own f t).2 ∧ ((Z30 own f t).1 : Int) ≤ (Z30 own f t).2 ∧ f ≤ (Z30 own f t).1) := by
  have := Z6H own ht (t - f) (f := f) (by omega)
  dsimp only at this
  rw [show f + (t - f) = t by omega] at this
  exact ⟨this.1, this.2.1, this.2.2.1, this.2.2.2.2⟩
def ZA (own : Nat → Bool) : List Bool := (List.range 8).map own
abbrev Zu (l : List Bool) : List Value := l.map Value.bool
theorem ZC (own : Nat → Bool) : (ZA own).length = 8 := by simp [ZA]
theorem Z4z (l : List Bool) : (Zu l).all (·.oneCell') = true := List.all_eq_true.2 fun v hv => by obtain ⟨x, _, rfl⟩ := List.mem_map.1 hv; rfl
theorem Z5B {l vs : List Value} (h : l.length = vs.length) : spl l 0 vs = vs := by unfold spl; rw [List.take_zero, List.nil_append, List.drop_eq_nil_of_le (by omega), List.append_nil]
theorem Z8P {own : Nat → Bool} {i n : Nat} (hi : i < 8) (hn : n = i) : spl (Zu ((ZA own).take i ++ List.replicate (8 - i) false)) n [.bool (own i)] = Zu ((ZA own).take (i + 1) ++ List.replicate (8 - (i + 1)) false) := by
  subst hn
  unfold spl
  have e1 : (Zu ((ZA own).take n ++ List.replicate (8 - n) false)).take n = Zu ((ZA own).take n) := by
    simp only [Zu, List.map_append]
    rw [List.take_append_of_le_length (by simp [ZC]; omega), List.take_of_length_le (by simp [ZC]; omega)]
  rw [e1, List.take_add_one, show (ZA own)[n]? = some (own n) by simp [ZA, hi]]
  simp only [Zu, List.map_append, List.append_assoc]
  congr 2
  have h8 : ((ZA own).take n).length = n := by rw [List.length_take, ZC]; omega
  rw [List.drop_append, List.drop_eq_nil_of_le (by simp only [List.length_map, h8, List.length_singleton]; omega)]
  simp only [List.nil_append, List.length_map, h8, List.length_singleton, List.map_replicate, List.drop_replicate]
  congr 1; omega
theorem Z9b {w : Wt} (hw : w.ok) {Sx : Nat} : Zu ((ZA (w.own Sx)).take (w.counts.length - 1) ++ List.replicate (8 - (w.counts.length - 1)) false) = Zu (ZA (w.own Sx)) := by
  congr 1
  apply List.ext_getElem?
  intro j
  have hn := hw.nc
  rw [List.getElem?_append, List.getElem?_replicate]
  simp only [List.length_take, ZC, ZA]
  by_cases h1 : j < w.counts.length - 1
  · rw [if_pos (by simp; omega), List.getElem?_take, if_pos h1]
  · rw [if_neg (by simp; omega)]
    by_cases h2 : j < 8
    · rw [if_pos (by simp; omega)]
      have : w.own Sx j = false := by unfold Wt.own; rw [decide_eq_false (by omega)]; rfl
      simp [h2, this]
    · rw [if_neg (by simp; omega), List.getElem?_eq_none (by simp; omega)]
theorem Za2 {w : Wt} (hw : w.ok) (f t : Nat) : w.thr f t < 2 ^ 6 := by
  unfold Wt.thr
  have : ∀ (l : List Spl) (m : Nat), (∀ x ∈ l, x ∈ w.spells) → m < 2 ^ 6 → l.foldl (Z8l w f t) m < 2 ^ 6 := fun l => by
    induction l with
    | nil => exact fun m _ h => h
    | cons x l ih =>
      intro m hx hm
      refine ih _ (fun y hy => hx y (List.mem_cons_of_mem _ hy)) ?_
      have h1 := (hw.spl x (hx x (by simp))).2.2.1
      have h2 := hw.hands
      unfold Z8l
      cases w.over f t x with
      | false => exact hm
      | true => exact Nat.or_lt_two_pow hm (Nat.pow_lt_pow_right (by decide) (by omega))
  exact this w.spells 0 (fun _ h => h) (by decide)
theorem ZcF {w : Wt} (h : Int) : w.pos h ≤ w.counts.length := List.findIdx_le_length
theorem ZcB (wt : Wt) (a1 a2 a3 : Option Addr) (k1 k2 k3 : Nat) (H : Z6) (R : Z3) :
    Fn Tryz.prog 110 [(wt.v a1 a2 a3 k1 k2 k3)] H R (fun v H' R' => ∃ qw, v = .func (.func 176) #[] #[.pointer (some ⟨qw, 0, none⟩)] ∧ H' = H ∧ R' = RowsA (some ⟨qw, 0, none⟩) 6 [(wtl wt a1 a2 a3 k1 k2 k3)] :: R) := by
 refine Z8 Tryz.func110 rfl Tryz.ntmps110 rfl ?_
 refine sqt 2 rfl (bx rfl rfl rfl (fun b1 => pur 1 rfl (sqt 2 rfl (sp rfl (PE.makeFunc rfl rfl) rfl (pur 1 rfl (Z1 ?_))))))
 exact rtA rfl rfl rfl ⟨b1, rfl, rfl, rfl⟩ (fun w h => St.rows (sz := 6) (rows := [(wtl wt a1 a2 a3 k1 k2 k3)]) (rest := []) (h.pull b1) (by simp [wtl]))
theorem Z9y (wt : Wt) (a1 a2 a3 : Option Addr) (k1 k2 k3 : Nat) (hw : wt.ok) (qw lk : Nat) (I : Nat → Z6 → Z3 → Prop) (E : Z6 → Z3 → Prop) (hI : ∀ k H R, I k H R → RowsA (some ⟨qw, 0, none⟩) 6 [(wtl wt a1 a2 a3 k1 k2 k3)] ∈ R)
    (hy : ∀ k f t H R, f < t → t < wt.counts.length → (Z10 wt.counts.length)[k]? = some (f, t) → I k H R → Yd Tryz.prog lk [.agg #[.int .i64 (f : Nat), .int .i64 (t : Nat)]] H R (fun v H' R' => (v = .bool true ∧ I (k + 1) H' R') ∨ (v = .bool false ∧ E H' R'))) (H : Z6) (R : Z3) (h0 : I 0 H R) :
    Fn Tryz.prog 176 [yv lk, .pointer (some ⟨qw, 0, none⟩)] H R (fun _ H' R' => I (Z10 wt.counts.length).length H' R' ∨ E H' R') := by
 have hnc := hw.nc
 have hFq := hI _ _ _ h0
 haveI : MemRows (some ⟨qw, 0, none⟩) 6 [(wtl wt a1 a2 a3 k1 k2 k3)] R := ⟨hFq⟩
 refine Z8 Tryz.func176 rfl Tryz.ntmps176 rfl ?_
 refine sqt 4 rfl (sp rfl (PE.fA ZP rfl) rfl (spL rfl rfl (lfB (sz := 6) Z15 rfl) rfl (sp rfl (PE.lenSl Z0Q rfl) rfl (pur 1 rfl (Z4 ?_)))))
 refine Zc (ι := {x : Nat × Z6 × Z3 // x.1 ≤ wt.counts.length ∧ I (pS wt.counts.length x.1 (x.1 + 1)) x.2.1 x.2.2}) (fun x => ⟨[(0, yv lk), (1, .pointer (some ⟨qw, 0, none⟩)), (7, .int .i64 wt.counts.length), (8, .int .i64 x.1.1)], x.1.2.1, x.1.2.2⟩) (fun x => wt.counts.length - x.1.1) ⟨(0, H, R), Nat.zero_le _, by simpa [pS] using h0⟩ ?_ (fun x => ?_)
 exact Zk idH
 obtain ⟨⟨f, H0, R0⟩, hf, hI0⟩ := x
 dsimp only at hf hI0 ⊢
 refine sqt 1 rfl (pur 1 rfl (Z0 ?_))
 refine Z2 rfl ?_ ?_ <;> intro hc0 <;> try simp only [cS] at hc0
 refine Z5 (Z0 (Z4 (sqt 2 rfl (pur 2 rfl (sqt 3 rfl (pur 1 rfl (sp rfl (PE.add rfl rfl (by omega)) rfl (pur 1 rfl (Z4 ?_)))))))))
 refine Zc (ι := {x : Nat × Z6 × Z3 // f + 1 ≤ x.1 ∧ x.1 ≤ wt.counts.length ∧ I (pS wt.counts.length f x.1) x.2.1 x.2.2}) (fun x => ⟨[(0, yv lk), (1, .pointer (some ⟨qw, 0, none⟩)), (7, .int .i64 wt.counts.length), (8, .int .i64 f), (3, .int .i64 f), (4, .int .i64 x.1.1)], x.1.2.1, x.1.2.2⟩) (fun x => wt.counts.length - x.1.1) ⟨(f + 1, H0, R0), Nat.le_refl _, by dsimp only; omega, hI0⟩ ?_ (fun x => ?_)
 exact Zk idH
 obtain ⟨⟨t, H1, R1⟩, hft, ht, hI1⟩ := x
 dsimp only at hft ht hI1 ⊢
 have hFq := hI _ _ _ hI1
 haveI : MemRows (some ⟨qw, 0, none⟩) 6 [(wtl wt a1 a2 a3 k1 k2 k3)] R1 := ⟨hFq⟩
 refine Z0 (sqt 5 rfl (pur 1 rfl (sp rfl (PE.fA ZP rfl) rfl (spL rfl rfl (lfB (sz := 6) Z15 rfl) rfl (sp rfl (PE.lenSl Z0Q rfl) rfl (pur 1 rfl ?_))))))
 refine Z2 rfl ?_ ?_ <;> intro hc1 <;> try simp only [cS] at hc1
 refine Z5 (Z0 (Z4 (sqt 6 rfl (pur 3 rfl (sp rfl (PE.build (out := [_, _]) Z8O Z28 rfl rfl) rfl ?_)))))
 refine clY rfl rfl rfl rfl (hy _ f t _ _ (by omega) (by omega) (Zdk hft (by omega)) hI1) ?_
 rintro v H3 R3 (⟨rfl, hI3⟩ | ⟨rfl, hE3⟩)
 refine pur 1 rfl ?_
 refine Z01 rfl ?_
 refine Z5 (sqr 3 rfl (pur 1 rfl (sp rfl (PE.add rfl rfl (by omega)) rfl (pur 1 rfl ?_))))
 first
   | cases hc2
   | exact Zi ⟨(t + 1, H3, R3), by dsimp only; omega, by dsimp only; omega, by dsimp only; rw [Zbj hft]; exact hI3⟩ (by dsimp only; omega) idH
 refine pur 1 rfl ?_
 refine Zy rfl ?_
 refine Z1 ?_
 first | cases hc2 | exact Z7 (vs := []) rfl .nil rfl (.inr hE3) idH
 obtain rfl : t = wt.counts.length := by omega
 rw [Zbs] at hI1
 refine Za (Zb (Zb (Zr (sqr 2 rfl (sp rfl (PE.add rfl rfl (by omega)) rfl (pur 1 rfl ?_))))))
 exact Ze ⟨(f + 1, H1, R1), by dsimp only; omega, hI1⟩ idH
 obtain rfl : f = wt.counts.length := by omega
 rw [ZdI] at hI0
 refine Za (Zb (Zb (Zr ?_)))
 exact Z1P (vs := []) rfl .nil rfl (.inl hI0) idH
theorem Z7V (wt : Wt) (a1 a2 a3 : Option Addr) (k1 k2 k3 : Nat) (hw : wt.ok) (bd m : Nat) (f t : Nat) (hft : f ≤ t) (ht : t < wt.counts.length) (H : Z6) (R : Z3) [hD : MemRows (some ⟨bd, 0, none⟩) 15 [(wtl wt a1 a2 a3 k1 k2 k3 ++ (Zd (wt.sums) ++ [.map (some m)]))] R] :
    FnV Tryz.prog 175 [.pointer (some ⟨bd, 0, none⟩), .agg #[.int .i64 (f : Nat), .int .i64 (t : Nat)]] H R (.int .i64 (wt.bk f t)) := by
 have hnc := hw.nc
 have hs := Z1j hw
 refine Z8 Tryz.func175 rfl Tryz.ntmps175 rfl ?_
 refine sqt 2 rfl (bx rfl rfl rfl (fun b3 => pur 1 rfl (sqt 1 rfl (pur 1 rfl (Z0 (sqt 3 rfl (sp rfl (PE.fA Z1I rfl) rfl (spL rfl rfl (lh sc3 rfl rfl) rfl (pur 1 rfl (Z4 ?_))))))))))
 refine Zc (ι := {i : Nat // f ≤ i ∧ i ≤ t}) (fun i => ⟨[(0, .pointer (some ⟨bd, 0, none⟩)), (3, .pointer (some ⟨b3, 0, none⟩)), (5, .int .i64 (Z9c wt.sums f i.1)), (6, .int .i64 i.1)], (b3, cel 195 [.int .i64 (f : Nat), .int .i64 (t : Nat)]) :: H, R⟩) (fun i => t - i.1) ⟨f, Nat.le_refl _, hft⟩ ?_ (fun i => ?_)
 exact ZaD (by dsimp only; rw [Z4y]; exact (by repeat' first | exact Sub.nil | apply Sub.cons | rfl | (simp [lk]; omega))) idH
 obtain ⟨i, hi1, hi2⟩ := i
 dsimp only at hi1 hi2 ⊢
 have hib := Z98 hw (f := f) (t := i) hi1 (by omega)
 unfold Wt.bk at hib
 refine Z0 (sqt 4 rfl (pur 1 rfl (sp rfl (PE.fA Z1m rfl) rfl (spL rfl rfl (lh sc3 rfl rfl) rfl (pur 1 rfl ?_)))))
 refine Z2 rfl ?_ ?_ <;> intro hc0 <;> try simp only [cS] at hc0
 have hit : i < wt.sums.length := by rw [hs.len]; omega
 have hsi := hs.bd i
 refine Z5 (Z0 (Z4 (sqr 9 rfl (pur 3 rfl (sp rfl (PE.nilCheck rfl) rfl (sp rfl (PE.fA Z2y rfl) rfl (sp rfl (PE.indexArr Z6I rfl rfl (by omega) (by omega)) rfl (spL rfl rfl (lfB (sz := 15) sc3 (Zbc (by show _ = 6 + i; omega) hit)) rfl (sp rfl (PE.add rfl rfl (by omega)) rfl (pur 1 rfl (sqr 3 rfl (pur 1 rfl (sp rfl (PE.add rfl rfl (by omega)) rfl (pur 1 rfl ?_))))))))))))))
 exact ZX ⟨i + 1, by omega, by omega⟩ (by dsimp only; omega) (by dsimp only; rw [Z4I hi1]; exact (by repeat' first | exact Sub.nil | apply Sub.cons | rfl | (simp [lk]; omega))) idH
 obtain rfl : i = t := by omega
 refine Za (Zb (Zb (Zr (sqt 2 rfl (pur 2 rfl (Z1 ?_))))))
 exact rtA rfl rfl rfl ⟨rfl, rfl, rfl⟩ drp
theorem Zb3 (wt : Wt) (a1 a2 a3 : Option Addr) (k1 k2 k3 : Nat) (hw : wt.ok) (bd m : Nat) (f t : Nat) (hft : f < t) (ht : t < wt.counts.length) (H : Z6) (R : Z3) [hD : MemRows (some ⟨bd, 0, none⟩) 15 [(wtl wt a1 a2 a3 k1 k2 k3 ++ (Zd (wt.sums) ++ [.map (some m)]))] R] [hR1 : MemRows a1 3 (crows wt.counts) R] :
    FnV Tryz.prog 112 [.pointer (some ⟨bd, 0, none⟩), .agg #[.int .i64 (f : Nat), .int .i64 (t : Nat)]] H R (.int .i64 (wt.gap f t)) := by
 have hnc := hw.nc
 refine Z8 Tryz.func112 rfl Tryz.ntmps112 rfl ?_
 refine sqt 2 rfl (bx rfl rfl rfl (fun b3 => pur 1 rfl (Z0 ?_)))
 refine Z4j (ι := Nat × Nat) (fun x => ⟨[(0, .pointer (some ⟨bd, 0, none⟩)), (3, .pointer (some ⟨b3, 0, none⟩)), (5, .pointer (some ⟨x.1, 0, none⟩)), (6, .pointer (some ⟨x.2, 0, none⟩))], (x.2, cel 89 (Z0t (wt.cn t))) :: (x.1, cel 89 (Z0t (wt.cn f))) :: (b3, cel 195 [.int .i64 (f : Nat), .int .i64 (t : Nat)]) :: H, R⟩) ?_ ?_
 refine Z9 [0, 1, 3, 7, 15, 0, 32, 127, 255, 0, 512, 1536, 3584, 7680, 0, 16384, 65024, 130560, 0, 0, 786943, 2097151] (tks 0 4 (.ld 4 (.tk 5 (.ld 6 (.tk 7 (.ld 8 (tks 9 4 (.ld 13 (.tk 14 (.ld 15 (.tk 16 (.ld 17 (.any (.alt 18 (.big 19 (.big 20 (.big 21 .done))) (.alt 19 (.big 18 (.big 20 (.big 21 .done))) .stop))))))))))))))) Zo (by kernel_rfl) ?_
 have hcf : wt.counts[f]? = some (wt.cn f) := Z0p (by omega)
 have hct : wt.counts[t]? = some (wt.cn t) := Z0p (by omega)
 refine Zl (a := a1) (sz := 3) (rows := crows wt.counts) (by intro h0; simp [crows] at h0; simp [h0] at hcf) (fun bf of he => ?_)
 subst he
 refine Zf 1 rfl (tk rfl (PE.nilCheck rfl) rfl (tk rfl (PE.fA Z0e rfl) rfl (tk rfl (PE.fA ZP rfl) rfl (ld rfl rfl (lfB (sz := 15) Z15 rfl) rfl (tk rfl (PE.fA Z1I rfl) rfl (ld rfl rfl (lh sc3 rfl rfl) rfl (tk rfl (PE.indexAddr Z6c rfl rfl (by omega) (by omega)) rfl (ld rfl rfl (lfA Z33 (row := Z0t (wt.cn f)) (ZK hcf) rfl) rfl (Zf 1 rfl (tk rfl (PE.nilCheck rfl) rfl (tk rfl (PE.fA Z0e rfl) rfl (tk rfl (PE.fA ZP rfl) rfl (ld rfl rfl (lfB (sz := 15) Z15 rfl) rfl (tk rfl (PE.fA Z1m rfl) rfl (ld rfl rfl (lh sc3 rfl rfl) rfl ?_)))))))))))))))
 refine tk rfl (PE.indexAddr Z6c rfl rfl (by omega) (by omega)) rfl (ld rfl rfl (lfA Z33 (row := Z0t (wt.cn t)) (ZK hct) rfl) rfl ?_)
 refine ZH ?_ ?_
 refine alc rfl Z8V rfl (fun b5 => ?_)
 refine bg (fun w hs => ⟨(lfA Z33 (row := Z0t (wt.cn t)) (ZK hct) rfl) w hs, (lh sc3 rfl rfl) w hs, (lfB (sz := 15) Z15 rfl) w hs, (lfA Z33 (row := Z0t (wt.cn f)) (ZK hcf) rfl) w hs, (lh sc3 rfl rfl) w hs, (lfB (sz := 15) Z15 rfl) w hs, trivial⟩) ?_
 refine alc rfl Z8V rfl (fun b6 => ?_)
 refine bg (fun w hs => ⟨(lfA Z33 (row := Z0t (wt.cn t)) (ZK hct) rfl) w hs, (lh sc3 rfl rfl) w hs, (lfB (sz := 15) Z15 rfl) w hs, (lfA Z33 (row := Z0t (wt.cn f)) (ZK hcf) rfl) w hs, (lh sc3 rfl rfl) w hs, (lfB (sz := 15) Z15 rfl) w hs, trivial⟩) ?_
 refine sto rfl rfl rfl Zej rfl rfl rfl rfl ?_
 refine bg (fun w hs => ⟨(lfA Z33 (row := Z0t (wt.cn t)) (ZK hct) rfl) w hs, (lh sc3 rfl rfl) w hs, (lfB (sz := 15) Z15 rfl) w hs, trivial, trivial, trivial, trivial⟩) ?_
 refine sto rfl rfl rfl Zej rfl rfl rfl rfl ?_
 refine bgT ?_
 exact Zv (b5, b6) (fun w h => (h.pull b5).pull b6)
 refine ZH ?_ ?_
 refine alc rfl Z8V rfl (fun b6 => ?_)
 refine bg (fun w hs => ⟨(lfA Z33 (row := Z0t (wt.cn t)) (ZK hct) rfl) w hs, (lh sc3 rfl rfl) w hs, (lfB (sz := 15) Z15 rfl) w hs, (lfA Z33 (row := Z0t (wt.cn f)) (ZK hcf) rfl) w hs, (lh sc3 rfl rfl) w hs, (lfB (sz := 15) Z15 rfl) w hs, trivial⟩) ?_
 refine alc rfl Z8V rfl (fun b5 => ?_)
 refine bg (fun w hs => ⟨(lfA Z33 (row := Z0t (wt.cn t)) (ZK hct) rfl) w hs, (lh sc3 rfl rfl) w hs, (lfB (sz := 15) Z15 rfl) w hs, (lfA Z33 (row := Z0t (wt.cn f)) (ZK hcf) rfl) w hs, (lh sc3 rfl rfl) w hs, (lfB (sz := 15) Z15 rfl) w hs, trivial⟩) ?_
 refine sto rfl rfl rfl Zej rfl rfl rfl rfl ?_
 refine bg (fun w hs => ⟨(lfA Z33 (row := Z0t (wt.cn t)) (ZK hct) rfl) w hs, (lh sc3 rfl rfl) w hs, (lfB (sz := 15) Z15 rfl) w hs, trivial, trivial, trivial, trivial⟩) ?_
 refine sto rfl rfl rfl Zej rfl rfl rfl rfl ?_
 refine bgT ?_
 exact Zv (b5, b6) (fun w h => (h.pull b5).pull b6)
 exact ZZ
 rintro ⟨b5, b6⟩
 dsimp only
 have hbd := Z98 hw (f := f) (t := t) (by omega) (by omega)
 have h2 := Z5V hw (i := f) (by omega)
 have h3 := Z5V hw ht
 have h4 := ZdE hw hft ht
 have h5 := hw.allow
 have h6 := mul_b (a := wt.allow) (b := (wt.cn t).hour - (wt.cn f).hour) (A := 20) (B := 60) (by omega) (by omega) (by omega) (by omega)
 refine Z0 ?_
 refine Z9 [0, 1, 3, 0, 0, 24, 63, 0, 128, 384, 896, 1920, 0, 4096, 0, 16384, 61440, 130944, 262143, 0, 524288, 1572864, 4194303, 8388607] (.tk 0 (.tk 1 (.ld 2 (.tk 3 (.ld 4 (tks 7 4 (.ld 11 (.tk 12 (.ld 13 (.tk 14 (.ld 15 (.tk 16 (.tk 17 (.tk 19 (.tk 20 (.ld 21 (.big 5 (.tk 6 (.tk 18 (.tk 22 (.tk 23 .done))))))))))))))))))))) Zo (by kernel_rfl) ?_
 refine tk rfl (PE.fA Z24 rfl) rfl (tk rfl (PE.fA ZM rfl) rfl (ld rfl rfl (lh sc3 rfl rfl) rfl (Zf 1 rfl (ld rfl rfl (lhA [_, _] Z0G rfl rfl rfl) rfl (Zf 1 rfl (tk rfl (PE.nilCheck rfl) rfl (tk rfl (PE.fA Z0e rfl) rfl (tk rfl (PE.fA Z9D rfl) rfl (ld rfl rfl (lfB (sz := 15) sc3 rfl) rfl (tk rfl (PE.fA Z1a rfl) rfl (ld rfl rfl (lh sc3 rfl rfl) rfl (tk rfl (PE.fA Z1a rfl) rfl (ld rfl rfl (lh sc3 rfl rfl) rfl (tk rfl (PE.sub rfl rfl (by omega)) rfl (tk rfl (PE.mul rfl rfl (by omega)) rfl ?_)))))))))))))))
 refine tk rfl (PE.fA Z24 rfl) rfl (tk rfl (PE.fA ZQ rfl) rfl (ld rfl rfl (lh sc3 rfl rfl) rfl ?_))
 refine clV rfl Z9A rfl rfl (Z7V wt a1 a2 a3 k1 k2 k3 hw bd m f t (by omega) ht _ _) ?_
 refine bg (fun w hs => ⟨(lh sc3 rfl rfl) w hs, (lh sc3 rfl rfl) w hs, (lh sc3 rfl rfl) w hs, (lfB (sz := 15) sc3 rfl) w hs, trivial, (lh sc3 rfl rfl) w hs, trivial⟩) ?_
 refine tk rfl (PE.add rfl rfl (by omega)) rfl (tk rfl (PE.sub rfl rfl (by omega)) rfl (tk rfl (PE.sub rfl rfl (by omega)) rfl (Zf 1 rfl (Z1 ?_))))
 exact rtA rfl rfl rfl ⟨rfl, rfl, rfl⟩ drp
theorem Zbe (wt : Wt) (a1 a2 a3 : Option Addr) (k1 k2 k3 : Nat) (hw : wt.ok) (bd m : Nat) (kv : KV) (hkv : KvW wt kv) (Sx : Nat) (hSx : Sx < 2 ^ 6) (H : Z6) (R : Z3) [hD : MemRows (some ⟨bd, 0, none⟩) 15 [(wtl wt a1 a2 a3 k1 k2 k3 ++ (Zd (wt.sums) ++ [.map (some m)]))] R] [hK : MemF (MpF m kv) R] :
    FnV Tryz.prog 109 [.pointer (some ⟨bd, 0, none⟩), .int .i64 (Sx : Nat)] H R (.agg (Zu (ZA (wt.own Sx))).toArray) := by
 have hnc := hw.nc
 have hs := Z1j hw
 refine Z8 Tryz.func109 rfl Tryz.ntmps109 rfl ?_
 refine sqt 1 rfl (alc rfl Z8w rfl (fun b4 => sqt 1 rfl (alc rfl Z8w rfl (fun b5 => Z0 (sqt 8 rfl (pur 1 rfl (sp rfl (PE.nilCheck rfl) rfl (sp rfl (PE.fA Z0e rfl) rfl (sp rfl (PE.fA ZP rfl) rfl (spL rfl rfl (lfB (sz := 15) Z15 rfl) rfl (sp rfl (PE.lenSl Z0Q rfl) rfl (sp rfl (PE.sub rfl rfl (by omega)) rfl (pur 1 rfl (Z4 ?_))))))))))))))
 refine Zc (ι := {i : Nat // i + 1 ≤ wt.counts.length}) (fun i => ⟨[(0, .pointer (some ⟨bd, 0, none⟩)), (1, .int .i64 (Sx : Nat)), (4, .pointer (some ⟨b4, 0, none⟩)), (5, .pointer (some ⟨b5, 0, none⟩)), (13, .int .i64 ((wt.counts.length : Int) - 1)), (14, .int .i64 i.1)], (b5, cel 199 (Zu ((ZA (wt.own Sx)).take i.1 ++ List.replicate (8 - i.1) false))) :: (b4, cel 199 (Zu (List.replicate 8 false))) :: H, R⟩) (fun i => wt.counts.length - i.1) ⟨0, by omega⟩ ?_ (fun i => ?_)
 exact Zk idH
 obtain ⟨i, hi⟩ := i
 dsimp only at hi ⊢
 refine sqt 1 rfl (pur 1 rfl (Z0 ?_))
 refine Z2 rfl ?_ ?_ <;> intro hc0 <;> try simp only [cS] at hc0
 have hkw := hkv.at_ i (i + 1) (by omega) (by omega)
 have htl := Za2 hw i (i + 1)
 have hown : wt.own Sx i = decide (((wt.thr i (i + 1) &&& Sx : Nat) : Int) ≠ 0) := by unfold Wt.own; rw [dT (show i + 1 < wt.counts.length by omega), Bool.true_and]; exact decide_eq_decide.2 (by omega)
 refine Z5 (Z0 (Z4 (sqt 2 rfl (pur 2 rfl (sqr 15 rfl (pur 2 rfl (sp rfl (PE.nilCheck rfl) rfl (sp rfl (PE.fA Z3L rfl) rfl (spL rfl rfl (lfB (sz := 15) Z8u (Z5E (by rw [hs.len]; rfl))) rfl (pur 2 rfl (sp rfl (PE.add rfl rfl (by omega)) rfl (sp rfl (PE.build (out := [_, _]) Z8O Z28 rfl rfl) rfl ?_))))))))))))
 refine spK rfl rfl rfl (Z3M (b := true) kv [((i : Nat) : Int), ((i + 1 : Nat) : Int)] Z20 (KeyT.of Z1r Z1X) (Z21 zv3) rfl hkv.len (fun w hs => hs.now hK.mem) hkw) rfl ?_
 refine pur 1 rfl (sp rfl (PE.andN (m := wt.thr i (i + 1)) (n := Sx) rfl rfl rfl (by omega) (by omega)) rfl (pur 1 rfl ?_))
 rw [← hown]
 refine sp rfl (PE.indexArr Z72 rfl rfl (by omega) (by omega)) rfl ?_
 refine Z02 (l' := Zu ((ZA (wt.own Sx)).take (i + 1) ++ List.replicate (8 - (i + 1)) false)) rfl rfl rfl cn4 rfl rfl rfl (Z8P (by omega) (by omega)) (by simp only [Zu, List.length_map, List.length_append, List.length_take, List.length_replicate, ZC]; show 0 + ((i : Nat) : Int).toNat * 1 + 1 ≤ _; omega) ?_
 refine sqr 2 rfl (sp rfl (PE.add rfl rfl (by omega)) rfl (pur 1 rfl ?_))
 exact Ze ⟨i + 1, by omega⟩ idH
 obtain rfl : i = wt.counts.length - 1 := by omega
 refine Za (Zb (Zb (Zr (sqt 2 rfl ?_))))
 rw [Z9b hw]
 refine spL rfl rfl (lhA (Zu (ZA (wt.own Sx))) Z8X rfl (rest := []) (by rw [List.append_nil]; rfl) (by simp [Zu, ZC])) rfl ?_
 refine Z02 (l' := Zu (ZA (wt.own Sx))) rfl rfl rfl Zdw rfl (by show (Zu (ZA (wt.own Sx))).length = 8; simp [Zu, ZC]) (by show (Zu (ZA (wt.own Sx))).all (·.oneCell') = true; exact Z4z _) (Z5B (by show 8 = (Zu (ZA (wt.own Sx))).length; simp [Zu, ZC])) (by show 0 + (Zu (ZA (wt.own Sx))).length ≤ _; simp [Zu, ZC]) ?_
 refine Z1 ?_
 exact Z7 (vs := [_]) rfl (.cons (RV.cell rfl (lhA (Zu (ZA (wt.own Sx))) Z8X rfl (rest := []) (by rw [List.append_nil]; rfl) (by simp [Zu, ZC]))) .nil) rfl ⟨rfl, rfl, rfl⟩ (fun w h => (h.del b5).del b4)
theorem Z9Z : cal Tryz.prog 110 = true := by kernel_rfl
theorem Za4 : cal Tryz.prog 176 = true := by kernel_rfl
theorem ZdB : cal Tryz.prog 203 = true := by kernel_rfl
theorem Zfy : cal Tryz.prog 62 = true := by kernel_rfl
theorem Zfl : Zx Tryz.prog 128 = some 3 := by kernel_rfl
theorem ZeD : Zx Tryz.prog 131 = some 2 := by kernel_rfl
theorem Zfc : Zx Tryz.prog 134 = some 1 := by kernel_rfl
theorem Z4e : Zx Tryz.prog 195 = some 2 := by kernel_rfl
theorem cn3 : Zx Tryz.prog 3 = some 1 := by kernel_rfl
theorem Zd8 : Z8i Tryz.prog 167 = some .u64 := by kernel_rfl
theorem ik3 : Z8i Tryz.prog 3 = some .i64 := by kernel_rfl
theorem Zg5 : ZB Tryz.prog 206 = some [(0, 6), (6, 8), (14, 1)] := by kernel_rfl
theorem Z1O : Z0b Tryz.prog 134 = true := by kernel_rfl
theorem sc4 : Z0b Tryz.prog 4 = true := by kernel_rfl
theorem Zff : (Tryz.prog.underlying 167).isSome = true := by kernel_rfl
theorem us3 : (Tryz.prog.underlying 3).isSome = true := by kernel_rfl
theorem Z9i : Zs Tryz.prog 128 = some ([.int .i64 0, .int .i64 0, .int .i64 0]) := by kernel_rfl
theorem Zg2 : Zs Tryz.prog 131 = some ([.int .i64 0, .int .i64 0]) := by kernel_rfl
theorem Zfh : Zs Tryz.prog 134 = some ([.pointer none]) := by kernel_rfl
theorem Zfq : Zs Tryz.prog 206 = some ([.int .i64 0, .int .i64 0, .int .i64 0, .slice none 0 0, .slice none 0 0, .slice none 0 0, .int .i64 0, .int .i64 0, .int .i64 0, .int .i64 0, .int .i64 0, .int .i64 0, .int .i64 0, .int .i64 0, .map none]) := by kernel_rfl
theorem Z5C {own : Nat → Bool} {i n : Nat} (hn : n = i) (h : i < 8) : (Zu (ZA own))[n]? = some (.bool (own i)) := by subst hn; simp [Zu, ZA, h]
theorem Zco {own : Nat → Bool} {T i : Nat} {p : Nat × Int} (h : own i = true) : Z6o own T i p = (min p.1 i, (i : Int)) := by unfold Z6o; rw [h]; rfl
theorem Ze2 {own : Nat → Bool} {T i : Nat} {p : Nat × Int} (h : own i = false) : Z6o own T i p = p := by unfold Z6o; rw [h]; rfl
theorem Zfj (a b : Nat) : ((min a b : Nat) : Int) = min (a : Int) (b : Int) := by omega
theorem Zck {w : Wt} {h : Int} {i : Nat} (hi : i ≤ w.counts.length) (h1 : ∀ k, k < i → (w.cn k).hour < h) (h2 : ∀ k, i ≤ k → k < w.counts.length → h ≤ (w.cn k).hour) : w.pos h = i := by
  unfold Wt.pos
  rcases Nat.lt_or_ge i w.counts.length with h3 | h3
  · rw [List.findIdx_eq h3]
    refine ⟨?_, fun j hj => ?_⟩
    · have := h2 i (Nat.le_refl _) h3
      rw [Z8A (List.getElem?_eq_getElem h3)] at this
      exact decide_eq_true this
    · have := h1 j hj
      rw [Z8A (List.getElem?_eq_getElem (by omega))] at this
      exact decide_eq_false (by omega)
  · obtain rfl : i = w.counts.length := by omega
    rw [List.findIdx_eq_length]
    intro x hx
    obtain ⟨j, hj, rfl⟩ := List.mem_iff_getElem.1 hx
    have := h1 j hj
    rw [Z8A (List.getElem?_eq_getElem hj)] at this
    exact decide_eq_false (by omega)
theorem Z65 (n : Nat) : (Z10 n).Nodup := by
  unfold Z10
  have h1 : ∀ (ys : List Nat), ys.Nodup → (ys.flatMap (Z9m n)).Nodup := fun ys => by
    induction ys with
    | nil => simp
    | cons y ys ih =>
      intro h
      rw [List.nodup_cons] at h
      rw [List.flatMap_cons]
      refine List.nodup_append.2 ⟨?_, ih h.2, ?_⟩
      · unfold Z9m
        exact List.Pairwise.map _ (fun a b h e => h (by injection e)) (List.nodup_range' (s := y + 1) (n := n - (y + 1)))
      · intro a ha b hb e
        subst e
        obtain ⟨z, hz, h2⟩ := List.mem_flatMap.1 hb
        unfold Z9m at ha h2
        obtain ⟨t1, _, rfl⟩ := List.mem_map.1 ha
        obtain ⟨t2, _, h3⟩ := List.mem_map.1 h2
        injection h3 with h3 _
        exact h.1 (h3 ▸ hz)
  exact h1 _ List.nodup_range
theorem Z4d {n k : Nat} {s : Nat × Nat} (h : (Z10 n)[k]? = some s) : ((Z10 n).take k).contains s = false := by
  have hl := (List.getElem?_eq_some_iff.1 h).1
  rw [Bool.eq_false_iff]
  intro hc
  have hm : s ∈ (Z10 n).take k := by simpa using hc
  obtain ⟨j, hj, e⟩ := List.mem_iff_getElem.1 hm
  rw [List.length_take] at hj
  rw [List.getElem_take] at e
  have := (List.getElem_inj (h₀ := (by omega : j < (Z10 n).length)) (h₁ := hl) (Z65 n)).1 (by rw [e]; exact (List.getElem?_eq_some_iff.1 h).2.symm)
  omega
structure KvP (w : Wt) (k : Nat) (s : Nat × Nat) (m : Nat) (kv : KV) : Prop where
  len : ∀ e ∈ kv, e.1.length = 2
  at_ : ∀ f t : Nat, (kv.get [(f : Int), (t : Int)]).getD (.int .i64 0) = .int .i64 (((bif decide ((f, t) = s) then m else bif ((Z10 w.counts.length).take k).contains (f, t) then w.thr f t else 0 : Nat)) : Int)
theorem KvP.nil (w : Wt) (s : Nat × Nat) : KvP w 0 s 0 [] := ⟨by simp, fun f t => by
  have e : (bif decide ((f, t) = s) then 0 else bif ((Z10 w.counts.length).take 0).contains (f, t) then w.thr f t else 0) = 0 := by cases decide ((f, t) = s) <;> simp
  rw [e]; rfl⟩
theorem KvP.start {w : Wt} {k : Nat} {s s' : Nat × Nat} {m : Nat} {kv : KV} (h : KvP w k s m kv) (hm : m = bif ((Z10 w.counts.length).take k).contains s then w.thr s.1 s.2 else 0) (hs' : (Z10 w.counts.length)[k]? = some s') : KvP w k s' 0 kv := ⟨h.len, fun f t => by
  rw [h.at_ f t]
  congr 2
  by_cases h1 : (f, t) = s
  · subst h1
    simp only [decide_true, cond_true]
    rw [hm]
    by_cases h2 : (f, t) = s'
    · subst h2
      rw [Z4d hs']; simp
    · simp only [h2, decide_false, cond_false]
  · simp only [h1, decide_false, cond_false]
    by_cases h2 : (f, t) = s'
    · simp only [h2, decide_true, cond_true]
      rw [Z4d hs']; simp
    · simp only [h2, decide_false, cond_false]⟩
theorem KvP.done {w : Wt} {k f t : Nat} {kv : KV} (h : KvP w k (f, t) (w.thr f t) kv) (hs : (Z10 w.counts.length)[k]? = some (f, t)) : KvP w (k + 1) (f, t) (w.thr f t) kv := ⟨h.len, fun f' t' => by
  rw [h.at_ f' t']
  congr 2
  by_cases h1 : (f', t') = (f, t)
  · simp [h1]
  · simp only [h1, decide_false, cond_false]
    rw [List.take_add_one, hs]
    congr 1
    rw [Bool.eq_iff_iff]
    simp only [Option.toList_some, List.contains_iff_mem, List.mem_append, List.mem_singleton, h1, or_false]⟩
theorem KvP.put {w : Wt} {k f t m m' : Nat} {kv : KV} (h : KvP w k (f, t) m kv) : KvP w k (f, t) m' (kv.put [(f : Int), (t : Int)] (.int .i64 (m' : Int))) := ⟨fun e he => by
  rcases KV.put_mem he with rfl | he
  · rfl
  · exact h.len e he, fun f' t' => by
  rw [KV.get_put]
  by_cases h1 : (f', t') = (f, t)
  · injection h1 with e1 e2
    subst e1; subst e2; simp
  · have h2 : decide ([(f : Int), (t : Int)] = [(f' : Int), (t' : Int)]) = false := decide_eq_false fun e => by
      simp only [List.cons.injEq, and_true] at e
      exact h1 (by rw [show f = f' by omega, show t = t' by omega])
    rw [h2]
    simp only [cond_false]
    rw [h.at_ f' t']
    simp only [h1, decide_false, cond_false]⟩
theorem KvP.all {w : Wt} {s : Nat × Nat} {m : Nat} {kv : KV} (h : KvP w (Z10 w.counts.length).length s m kv) (hm : s ∈ Z10 w.counts.length → m = w.thr s.1 s.2) : KvW w kv := ⟨h.len, fun f t h1 h2 => by
  rw [h.at_ f t, List.take_length]
  have hc : (Z10 w.counts.length).contains (f, t) = true := by simpa using str_mem.2 ⟨h1, h2⟩
  congr 2
  by_cases e : (f, t) = s
  · subst e
    simp only [decide_true, cond_true]
    exact hm (by simpa using hc)
  · simp only [e, decide_false, cond_false, hc, cond_true]⟩
def Z2h (w : Wt) (f t j : Nat) : Nat := (w.spells.take j).foldl (Z8l w f t) 0
theorem Z4A {w : Wt} {f t j : Nat} {x : Spl} (h : w.spells[j]? = some x) : Z2h w f t (j + 1) = Z8l w f t (Z2h w f t j) x := by
  unfold Z2h; rw [List.take_add_one, h, List.foldl_append]; rfl
theorem Z96 (w : Wt) (f t : Nat) : Z2h w f t w.spells.length = w.thr f t := by unfold Z2h; rw [List.take_length]; rfl
theorem Z7B {w : Wt} (hw : w.ok) (f t : Nat) : ∀ j, Z2h w f t j < 2 ^ 6
  | 0 => by simp [Z2h]
  | j + 1 => by
    have ih := Z7B hw f t j
    cases hx : w.spells[j]? with
    | none => unfold Z2h at ih ⊢; rw [List.take_add_one, hx]; simpa using ih
    | some x =>
      rw [Z4A hx]
      have h1 := (hw.spl x (List.mem_of_getElem? hx)).2.2.1
      have h2 := hw.hands
      unfold Z8l
      cases w.over f t x with
      | false => exact ih
      | true => exact Nat.or_lt_two_pow ih (Nat.pow_lt_pow_right (by decide) (by omega))
def Z1F (w : Wt) (k : Nat) : List Int := (w.books.take k).foldl w.bk1 (List.replicate 8 0)
theorem Z6Y {w : Wt} {k : Nat} {b : Bkg} (h : w.books[k]? = some b) : Z1F w (k + 1) = w.bk1 (Z1F w k) b := by unfold Z1F; rw [List.take_add_one, h, List.foldl_append]; rfl
theorem Z9r (w : Wt) : Z1F w w.books.length = w.sums := by unfold Z1F; rw [List.take_length]; rfl
theorem Zai {w : Wt} (hw : w.ok) (k : Nat) : SumOk (Z1F w k) 2000 := by
  have h := Z3s hw k
  have hn := hw.nb
  have h2 : (w.books.take k).length ≤ 10 := by rw [List.length_take]; omega
  exact ⟨h.len, fun i => by have := h.bd i; show _ ≤ na0 ((w.books.take k).foldl w.bk1 _) i ∧ na0 ((w.books.take k).foldl w.bk1 _) i ≤ _; omega⟩
theorem Zci (v : Value) (own : Nat → Bool) (f t : Nat) (hft : f ≤ t) (ht : t ≤ 8) (H : Z6) (R : Z3) :
    FnV Tryz.prog 111 [v, .agg #[.int .i64 (f : Nat), .int .i64 (t : Nat)], .agg (Zu (ZA own)).toArray] H R (.tuple #[.int .i64 ((Z30 own f t).1 : Nat), .int .i64 (Z30 own f t).2]) := by
 refine Z8 Tryz.func111 rfl Tryz.ntmps111 rfl ?_
 refine sqt 4 rfl (bx rfl rfl rfl (fun b4 => bx rfl rfl rfl (fun b5 => pur 2 rfl (sqt 4 rfl (sp rfl (PE.fA Z1m rfl) rfl (spL rfl rfl (lh sc3 rfl rfl) rfl (pur 2 rfl (Z0 (sqt 3 rfl (sp rfl (PE.fA Z1I rfl) rfl (spL rfl rfl (lh sc3 rfl rfl) rfl (pur 1 rfl (Z4 ?_)))))))))))))
 refine Zc (ι := {i : Nat // f ≤ i ∧ i ≤ t}) (fun i => ⟨[(4, .pointer (some ⟨b4, 0, none⟩)), (5, .pointer (some ⟨b5, 0, none⟩)), (6, .int .i64 (((List.range' f (i.1 - f)).foldl (fun p i => Z6o own t i p) (t, (-2 : Int))).1 : Nat)), (7, .int .i64 ((List.range' f (i.1 - f)).foldl (fun p i => Z6o own t i p) (t, (-2 : Int))).2), (8, .int .i64 i.1)], (b5, cel 199 (Zu (ZA own))) :: (b4, cel 195 [.int .i64 (f : Nat), .int .i64 (t : Nat)]) :: H, R⟩) (fun i => t - i.1) ⟨f, Nat.le_refl _, hft⟩ ?_ (fun i => ?_)
 exact ZaD (by dsimp only; rw [Nat.sub_self]; exact (by repeat' first | exact Sub.nil | apply Sub.cons | rfl | (simp [lk]; omega))) idH
 obtain ⟨i, hi1, hi2⟩ := i
 dsimp only at hi1 hi2 ⊢
 have hst := Z7l (own := own) (T := t) hi1
 refine Z0 (sqt 4 rfl (pur 1 rfl (sp rfl (PE.fA Z1m rfl) rfl (spL rfl rfl (lh sc3 rfl rfl) rfl (pur 1 rfl ?_)))))
 refine Z2 rfl ?_ ?_ <;> intro hc0 <;> try simp only [cS] at hc0
 refine Z5 (Z0 (Z4 (sqt 3 rfl (pur 1 rfl (sp rfl (PE.indexArr Z72 rfl rfl (by omega) (by omega)) rfl (spL rfl rfl (lh sc4 rfl (Z5C (i := i) (by show 0 + ((i : Nat) : Int).toNat * 1 = i; omega) (by omega))) rfl ?_))))))
 refine Z2 rfl ?_ ?_ <;> intro hc1
 refine sqr 6 rfl (pur 2 rfl (sp rfl (PE.min rfl rfl) rfl (pur 3 rfl (sqr 3 rfl (pur 1 rfl (sp rfl (PE.add rfl rfl (by omega)) rfl (pur 1 rfl ?_)))))))
 exact ZX ⟨i + 1, by omega, by omega⟩ (by dsimp only; omega) (by dsimp only; rw [hst, Zco hc1]; dsimp only; rw [Zfj]; exact (by repeat' first | exact Sub.nil | apply Sub.cons | rfl | (simp [lk]; omega))) idH
 refine Z5 (sqr 3 rfl (pur 1 rfl (sp rfl (PE.add rfl rfl (by omega)) rfl (pur 1 rfl ?_))))
 exact ZX ⟨i + 1, by omega, by omega⟩ (by dsimp only; omega) (by dsimp only; rw [hst, Ze2 hc1]; exact (by repeat' first | exact Sub.nil | apply Sub.cons | rfl | (simp [lk]; omega))) idH
 obtain rfl : i = t := by omega
 refine Za (Zb (Zb (Zr (sqt 4 rfl (pur 4 rfl (Z1 ?_))))))
 exact rtB rfl rfl rfl rfl ⟨rfl, rfl, rfl⟩ drp
theorem ZgB (wt : Wt) (hw : wt.ok) (a : Option Addr) (c g : Nat) (h : Int) (hg : cal Tryz.prog g = true) (H : Z6) (R : Z3) [hR : MemRows a 3 (crows wt.counts) R] (hcm : ∀ x, x ∈ wt.counts → ∃ z : Int, FnV Tryz.prog g [.agg (Z0t x).toArray, .int .i64 h] H R (.int .i64 z) ∧ (z < 0 ↔ x.hour < h) ∧ (z = 0 ↔ x.hour = h)) :
    Fn Tryz.prog 62 [.slice a wt.counts.length c, .int .i64 h, .func (.func g) #[] #[]] H R (fun v H' R' => ∃ is : Bool, v = .tuple #[.int .i64 (wt.pos h : Nat), .bool is] ∧ (is = true → ∃ x, wt.counts[wt.pos h]? = some x ∧ x.hour = h) ∧ (is = false → ∀ x, wt.counts[wt.pos h]? = some x → x.hour ≠ h) ∧ H' = H ∧ R' = R) := by
 have hnc := hw.nc
 refine Z8 Tryz.func62 rfl Tryz.ntmps62 rfl ?_
 refine sqt 2 rfl (pur 2 rfl (sqt 3 rfl (pur 1 rfl (sp rfl (PE.lenSl Z0Q rfl) rfl (pur 1 rfl (sqt 3 rfl (pur 3 rfl (Z0 (Z4 ?_)))))))))
 refine Zc (ι := {x : Nat × Nat // x.1 ≤ x.2 ∧ x.2 ≤ wt.counts.length ∧ (∀ k, k < x.1 → (wt.cn k).hour < h) ∧ ∀ k, x.2 ≤ k → k < wt.counts.length → h ≤ (wt.cn k).hour}) (fun x => ⟨[(0, .slice a wt.counts.length c), (1, .int .i64 h), (2, .func (.func g) #[] #[]), (8, .int .i64 wt.counts.length), (9, .int .i64 x.1.1), (10, .int .i64 x.1.2)], H, R⟩) (fun x => x.1.2 - x.1.1) ⟨(0, wt.counts.length), Nat.zero_le _, Nat.le_refl _, fun k hk => by omega, fun k h1 h2 => by dsimp only at h1; omega⟩ ?_ (fun x => ?_)
 exact Zk idH
 obtain ⟨⟨i, j⟩, hij, hj, hlo, hhi⟩ := x
 dsimp only at hij hj hlo hhi ⊢
 refine Z0 (sqt 3 rfl (pur 3 rfl ?_))
 refine Z2 rfl ?_ ?_ <;> intro hc0 <;> try simp only [cS] at hc0
 refine Z5 (Z4 (sqt 7 rfl (pur 2 rfl (sp rfl (PE.add rfl rfl (by omega)) rfl ?_))))
 refine sp rfl ((PE.convert us3 Zd8 rfl).to (by rw [Z2G (by omega) (by omega)])) rfl ?_
 refine sp rfl (PE.shr1 rfl rfl (by omega)) rfl ?_
 refine sp rfl ((PE.convert Zff ik3 rfl).to (by rw [ZO (by omega) (by omega), show ((i : Int) + (j : Int)) / 2 = (((i + j) / 2 : Nat) : Int) from by omega])) rfl ?_
 refine pur 1 rfl (sqt 8 rfl (pur 3 rfl ?_))
 obtain ⟨m, hm⟩ : ∃ m, m = (i + j) / 2 := ⟨_, rfl⟩
 rw [← hm]
 have hm1 : i ≤ m ∧ m < j := by omega
 have hcx : wt.counts[m]? = some (wt.cn m) := Z0p (by omega)
 refine Zl (a := a) (sz := 3) (rows := crows wt.counts) (by intro h0; simp [crows] at h0; simp [h0] at hcx) (fun b off he => ?_)
 subst he
 obtain ⟨z, hz, hz1, hz2⟩ := hcm (wt.cn m) (List.mem_of_getElem? hcx)
 refine sp rfl (PE.indexAddr Z6c rfl rfl (by omega) (by omega)) rfl (spL rfl rfl (lfA Z33 (row := Z0t (wt.cn m)) (ZK (by simpa using hcx)) rfl) rfl (pur 1 rfl ?_))
 refine Z1M rfl rfl (hg) rfl rfl (hz) ?_
 refine pur 1 rfl ?_
 refine Z2 rfl ?_ ?_ <;> intro hc1 <;> try simp only [cS] at hc1
 have hlt := hz1.1 hc1
 refine sqr 3 rfl (pur 1 rfl (sp rfl (PE.add rfl rfl (by omega)) rfl (pur 1 rfl ?_)))
 exact Ze ⟨(m + 1, j), by dsimp only; omega, hj, fun k hk => by have := hw.le (i := k) (j := m) (by dsimp only at hk; omega) (Z0p (by dsimp only at hk; omega)) hcx; omega, hhi⟩ idH
 have hge : ¬ (wt.cn m).hour < h := fun e => by have := hz1.2 e; omega
 refine sqr 2 rfl (pur 2 rfl ?_)
 exact Ze ⟨(i, m), by dsimp only; omega, by dsimp only; omega, hlo, fun k h1 h2 => by have := hw.le (i := m) (j := k) h1 hcx (Z0p h2); omega⟩ idH
 obtain rfl : j = i := by omega
 have hpos := Zck hj hlo hhi
 subst hpos
 refine Za (Zb (Zb (Zr (sqt 16 rfl (pur 5 rfl ?_)))))
 refine Zp 39 rfl ?_ ?_ <;> intro g39
 try simp only [cS] at g39
 have hcx : wt.counts[(wt.pos h)]? = some (wt.cn (wt.pos h)) := Z0p (by omega)
 refine Zl (a := a) (sz := 3) (rows := crows wt.counts) (by intro h0; simp [crows] at h0; simp [h0] at hcx) (fun b off he => ?_)
 subst he
 obtain ⟨z, hz, hz1, hz2⟩ := hcm (wt.cn (wt.pos h)) (List.mem_of_getElem? hcx)
 refine pur 3 rfl ?_
 refine spG rfl rfl rfl rfl (PE.indexAddr Z6c rfl rfl (by omega) (by omega)) rfl ?_
 refine Z0K rfl rfl rfl rfl rfl (lfA Z33 (row := Z0t (wt.cn (wt.pos h))) (ZK (by simpa using hcx)) rfl) rfl (pur 1 rfl ?_)
 refine Zb1 rfl rfl rfl rfl rfl (hg) rfl rfl (hz) ?_
 refine pur 4 rfl (Z1 ?_)
 exact rtB rfl rfl rfl rfl ⟨decide (z = 0), rfl, (fun e => ⟨_, hcx, hz2.1 (of_decide_eq_true e)⟩), (fun e x hx => by rw [hcx] at hx; cases hx; exact fun e2 => of_decide_eq_false e (hz2.2 e2)), rfl, rfl⟩ idH
 try simp only [cS] at g39
 refine pur 11 rfl (Z1 ?_)
 exact rtB rfl rfl rfl rfl ⟨false, rfl, (fun e => by cases e), (fun _ x hx => by have := (List.getElem?_eq_some_iff.1 hx).1; omega), rfl, rfl⟩ idH
theorem ZeJ (x : Cnt) (h : Int) (hx : 0 ≤ x.hour ∧ x.hour ≤ 1000) (hh : 0 ≤ h ∧ h ≤ 1000) (H : Z6) (R : Z3) :
    FnV Tryz.prog 203 [.agg (Z0t x).toArray, .int .i64 h] H R (.int .i64 (x.hour - h)) := by
 refine Z8 Tryz.func203 rfl Tryz.ntmps203 rfl ?_
 refine sqt 2 rfl (bx rfl rfl rfl (fun b2 => pur 1 rfl (sqt 5 rfl (sp rfl (PE.fA Z1a rfl) rfl (spL rfl rfl (lh sc3 rfl rfl) rfl (pur 1 rfl (sp rfl (PE.sub rfl rfl (by omega)) rfl (pur 1 rfl (Z1 ?_)))))))))
 exact rtA rfl rfl rfl ⟨rfl, rfl, rfl⟩ drp
set_option maxHeartbeats 1000000 in
theorem Z8K (wt : Wt) (a1 a2 a3 : Option Addr) (k1 k2 k3 : Nat) (hw : wt.ok) (H : Z6) (R : Z3) [hR1 : MemRows a1 3 (crows wt.counts) R] [hR2 : MemRows a2 2 (bkrows wt.books) R] [hR3 : MemRows a3 3 (sprows wt.spells) R] :
    Fn Tryz.prog 174 [(wt.v a1 a2 a3 k1 k2 k3)] H R (fun v H' R' => ∃ (bd m : Nat) (kv : KV), v = .pointer (some ⟨bd, 0, none⟩) ∧ KvW wt kv ∧ H' = H ∧ R' = RowsA (some ⟨bd, 0, none⟩) 15 [(wtl wt a1 a2 a3 k1 k2 k3 ++ (Zd (wt.sums) ++ [.map (some m)]))] :: MpF m kv :: R) := by
 have hnc := hw.nc
 have hnb := hw.nb
 have hns := hw.ns
 have hho := hw.hours
 refine Z5u Tryz.func174 rfl Tryz.ntmps174 rfl ?_
 refine sqt 2 rfl (bx rfl rfl rfl (fun b1 => pur 1 rfl (sqt 6 rfl (spL rfl rfl (lhA (wtl wt a1 a2 a3 k1 k2 k3) Z5o rfl rfl rfl) rfl ?_))))
 refine mkm rfl rfl true (fun m => ?_)
 refine sp rfl (PE.build (out := (wtl wt a1 a2 a3 k1 k2 k3 ++ (Zd (List.replicate 8 0) ++ [.map (some m)]))) Zg5 Zfq rfl (by kernel_rfl)) rfl (bx rfl rfl rfl (fun b14 => ?_))
 refine Sy.heap (H' := (b14, cel 206 (wtl wt a1 a2 a3 k1 k2 k3 ++ (Zd (Z1F wt 0) ++ [.map (some m)]))) :: (m, Z0M true []) :: (b1, cel 71 (wtl wt a1 a2 a3 k1 k2 k3)) :: H) idH ?_
 refine alc rfl Zfh rfl (fun b3 => ?_)
 refine sto rfl rfl rfl Zfc rfl rfl rfl rfl ?_
 refine Z0 (sqt 4 rfl (sp rfl (PE.fA Z6z rfl) rfl (spL rfl rfl (lh ZfC rfl rfl) rfl (sp rfl (PE.lenSl ZaN rfl) rfl (pur 1 rfl (Z4 ?_))))))
 refine Zc (ι := {k : Nat // k ≤ wt.books.length}) (fun k => ⟨[(1, .pointer (some ⟨b1, 0, none⟩)), (3, .pointer (some ⟨b3, 0, none⟩)), (16, .slice a2 wt.books.length k2), (17, .int .i64 wt.books.length), (18, .int .i64 k.1)], (b3, cel 134 [.pointer (some ⟨b14, 0, none⟩)]) :: (b14, cel 206 (wtl wt a1 a2 a3 k1 k2 k3 ++ (Zd (Z1F wt k.1) ++ [.map (some m)]))) :: (m, Z0M true []) :: (b1, cel 71 (wtl wt a1 a2 a3 k1 k2 k3)) :: H, R⟩) (fun k => wt.books.length - k.1) ⟨0, Nat.zero_le _⟩ ?_ (fun k => ?_)
 exact Zk idH
 ·
  obtain ⟨k, hk⟩ := k
  dsimp only at hk ⊢
  have hso := Zai hw k
  refine sqt 1 rfl (pur 1 rfl (Z0 ?_))
  refine Z2 rfl ?_ ?_ <;> intro hc0 <;> try simp only [cS] at hc0
  obtain ⟨x, hx⟩ : ∃ x, wt.books[k]? = some x := ⟨_, List.getElem?_eq_getElem (by omega)⟩
  have hxb := hw.bks x (List.mem_of_getElem? hx)
  have hst := Z6Y hx
  refine Zl (a := a2) (sz := 2) (rows := bkrows wt.books) (by intro h0; simp [bkrows] at h0; simp [h0] at hx) (fun b off he => ?_)
  subst he
  refine Z5 (Z0 (Z4 (sqt 4 rfl (sp rfl (PE.indexAddr Zgg rfl rfl (by omega) (by omega)) rfl (spL rfl rfl (lfA Zbm (row := Z2b x) (Zcm hx) rfl) rfl (alc rfl Zg2 rfl (fun b5 => ?_)))))))
  refine sto rfl rfl rfl ZeD rfl rfl rfl rfl ?_
  refine sqt 10 rfl (sp rfl (PE.fA ZP rfl) rfl (spL rfl rfl (lh Z15 rfl rfl) rfl (sp rfl (PE.fA Z83 rfl) rfl (spL rfl rfl (lh sc3 rfl rfl) rfl ?_))))
  refine cl rfl Zfy rfl rfl (ZgB wt hw a1 k1 203 x.hour ZdB _ _ (fun y hy => ⟨y.hour - x.hour, ZeJ y x.hour (by have := (hw.cnt y hy).1; omega) (by omega) _ _, by omega, by omega⟩)) ?_
  rintro _ _ R1 ⟨is, rfl, his, _, rfl, hR1⟩
  obtain rfl := hR1.symm
  clear hR1
  have hpl : wt.pos x.hour ≤ wt.counts.length := ZcF _
  have hisl : is = true → wt.pos x.hour < wt.counts.length := fun e => by obtain ⟨y, hy, _⟩ := his e; exact (List.getElem?_eq_some_iff.1 hy).1
  refine pur 5 rfl (sqt 12 rfl (pur 3 rfl ?_))
  refine Zp 32 rfl ?_ ?_ <;> intro g32
  try simp only [cS] at g32
  refine pur 2 rfl ?_
  refine Zp 34 rfl ?_ ?_ <;> intro g34
  have hyes : (decide (0 < wt.pos x.hour) && decide (wt.pos x.hour < wt.counts.length)) = true := by have := hisl g34; simp; omega
  refine pur 7 rfl ?_
  refine Zy rfl ?_
  refine Z9 [0, 0, 2, 1, 9, 31, 63, 0, 128, 511, 1, 1025, 4095, 8191] (.ld 0 (tks 1 5 (.ld 6 (.tk 7 (.ld 8 (tks 9 4 (.big 13 .done))))))) Zo (by kernel_rfl) ?_
  have hyes2 := hyes
  simp only [Bool.and_eq_true, decide_eq_true_eq] at hyes2
  obtain ⟨q, hq⟩ : ∃ q, wt.pos x.hour = q + 1 := ⟨wt.pos x.hour - 1, by omega⟩
  have hql : q < (Z1F wt k).length := by rw [hso.len]; omega
  have hqb := hso.bd q
  have hst2 : Z1F wt (k + 1) = (Z1F wt k).set q (na0 (Z1F wt k) q + x.sacks) := by rw [hst]; unfold Wt.bk1; rw [hyes, hq]; rfl
  rw [hq]
  refine ld rfl rfl (lh Z1O rfl rfl) rfl (Zf 1 rfl (tk rfl (PE.sub rfl rfl (by omega)) rfl (tk rfl (PE.nilCheck rfl) rfl (tk rfl (PE.fA Z2y rfl) rfl (tk rfl (PE.indexArr Z6I rfl rfl (by omega) (by omega)) rfl (ld rfl rfl (lh sc3 rfl (Zbc (i := q) (by show _ = 6 + q; omega) hql)) rfl (tk rfl (PE.fA Z45 rfl) rfl (ld rfl rfl (lh sc3 rfl rfl) rfl (tk rfl (PE.add rfl rfl (by omega)) rfl (tk rfl (PE.nilCheck rfl) rfl (tk rfl (PE.fA Z2y rfl) rfl (tk rfl (PE.indexArr Z6I rfl rfl (by omega) (by omega)) rfl ?_))))))))))))
  refine Z02 (l' := (wtl wt a1 (some ⟨b, off, none⟩) a3 k1 k2 k3 ++ (Zd ((Z1F wt k).set q (na0 (Z1F wt k) q + x.sacks)) ++ [.map (some m)]))) rfl rfl rfl cn3 rfl rfl rfl (Z9S (i := q) (by show _ = 6 + q; omega) hql) (by rw [List.length_append, List.length_append, List.length_map]; show _ + 1 ≤ 6 + (_ + 1); omega) ?_
  refine bgT (sqr 2 rfl (sp rfl (PE.add rfl rfl (by omega)) rfl (pur 1 rfl ?_)))
  first
    | exact Zi ⟨k + 1, by omega⟩ (by dsimp only; omega) (fun w h => by dsimp only; rw [hst2]; exact h.del b5)
    | exact Zi ⟨k + 1, by omega⟩ (by dsimp only; omega) (fun w h => by dsimp only; rw [show Z1F wt (k + 1) = Z1F wt k from by rw [hst]; unfold Wt.bk1; rw [hno]; rfl]; exact h.del b5)
  refine pur 1 rfl ?_
  refine spG rfl rfl rfl rfl (PE.fA ZP rfl) rfl ?_
  refine Z0K rfl rfl rfl rfl rfl (lh Z15 rfl rfl) rfl ?_
  refine spG rfl rfl rfl rfl (PE.lenSl Z0Q rfl) rfl ?_
  refine pur 3 rfl ?_
  refine Z2 rfl ?_ ?_ <;> intro hc1 <;> try simp only [cS] at hc1
  have hyes : (decide (0 < wt.pos x.hour) && decide (wt.pos x.hour < wt.counts.length)) = true := by simp; omega
  refine Z9 [0, 0, 2, 1, 9, 31, 63, 0, 128, 511, 1, 1025, 4095, 8191] (.ld 0 (tks 1 5 (.ld 6 (.tk 7 (.ld 8 (tks 9 4 (.big 13 .done))))))) Zo (by kernel_rfl) ?_
  have hyes2 := hyes
  simp only [Bool.and_eq_true, decide_eq_true_eq] at hyes2
  obtain ⟨q, hq⟩ : ∃ q, wt.pos x.hour = q + 1 := ⟨wt.pos x.hour - 1, by omega⟩
  have hql : q < (Z1F wt k).length := by rw [hso.len]; omega
  have hqb := hso.bd q
  have hst2 : Z1F wt (k + 1) = (Z1F wt k).set q (na0 (Z1F wt k) q + x.sacks) := by rw [hst]; unfold Wt.bk1; rw [hyes, hq]; rfl
  rw [hq]
  refine ld rfl rfl (lh Z1O rfl rfl) rfl (Zf 1 rfl (tk rfl (PE.sub rfl rfl (by omega)) rfl (tk rfl (PE.nilCheck rfl) rfl (tk rfl (PE.fA Z2y rfl) rfl (tk rfl (PE.indexArr Z6I rfl rfl (by omega) (by omega)) rfl (ld rfl rfl (lh sc3 rfl (Zbc (i := q) (by show _ = 6 + q; omega) hql)) rfl (tk rfl (PE.fA Z45 rfl) rfl (ld rfl rfl (lh sc3 rfl rfl) rfl (tk rfl (PE.add rfl rfl (by omega)) rfl (tk rfl (PE.nilCheck rfl) rfl (tk rfl (PE.fA Z2y rfl) rfl (tk rfl (PE.indexArr Z6I rfl rfl (by omega) (by omega)) rfl ?_))))))))))))
  refine Z02 (l' := (wtl wt a1 (some ⟨b, off, none⟩) a3 k1 k2 k3 ++ (Zd ((Z1F wt k).set q (na0 (Z1F wt k) q + x.sacks)) ++ [.map (some m)]))) rfl rfl rfl cn3 rfl rfl rfl (Z9S (i := q) (by show _ = 6 + q; omega) hql) (by rw [List.length_append, List.length_append, List.length_map]; show _ + 1 ≤ 6 + (_ + 1); omega) ?_
  refine bgT (sqr 2 rfl (sp rfl (PE.add rfl rfl (by omega)) rfl (pur 1 rfl ?_)))
  first
    | exact Zi ⟨k + 1, by omega⟩ (by dsimp only; omega) (fun w h => by dsimp only; rw [hst2]; exact h.del b5)
    | exact Zi ⟨k + 1, by omega⟩ (by dsimp only; omega) (fun w h => by dsimp only; rw [show Z1F wt (k + 1) = Z1F wt k from by rw [hst]; unfold Wt.bk1; rw [hno]; rfl]; exact h.del b5)
  have hno : (decide (0 < wt.pos x.hour) && decide (wt.pos x.hour < wt.counts.length)) = false := by rw [dF (show ¬ wt.pos x.hour < wt.counts.length by omega), Bool.and_false]
  refine Z5 (sqr 2 rfl (sp rfl (PE.add rfl rfl (by omega)) rfl (pur 1 rfl ?_)))
  first
    | exact Zi ⟨k + 1, by omega⟩ (by dsimp only; omega) (fun w h => by dsimp only; rw [hst2]; exact h.del b5)
    | exact Zi ⟨k + 1, by omega⟩ (by dsimp only; omega) (fun w h => by dsimp only; rw [show Z1F wt (k + 1) = Z1F wt k from by rw [hst]; unfold Wt.bk1; rw [hno]; rfl]; exact h.del b5)
  try simp only [cS] at g32
  have hno : (decide (0 < wt.pos x.hour) && decide (wt.pos x.hour < wt.counts.length)) = false := by rw [dF (show ¬ 0 < wt.pos x.hour by omega)]; rfl
  refine pur 2 rfl ?_
  repeat refine spU rfl rfl rfl rfl rfl rfl rfl ?_
  refine pur 2 rfl ?_
  refine Z01 rfl ?_
  refine Z5 (sqr 2 rfl (sp rfl (PE.add rfl rfl (by omega)) rfl (pur 1 rfl ?_)))
  first
    | exact Zi ⟨k + 1, by omega⟩ (by dsimp only; omega) (fun w h => by dsimp only; rw [hst2]; exact h.del b5)
    | exact Zi ⟨k + 1, by omega⟩ (by dsimp only; omega) (fun w h => by dsimp only; rw [show Z1F wt (k + 1) = Z1F wt k from by rw [hst]; unfold Wt.bk1; rw [hno]; rfl]; exact h.del b5)
  ·
   obtain rfl : k = wt.books.length := by omega
   rw [Z9r]
   refine Za (Zb (Zb (Zr (Z0 (sqt 5 rfl (spL rfl rfl (lh Z1O rfl rfl) rfl (sp rfl (PE.nilCheck rfl) rfl (sp rfl (PE.fA Z0e rfl) rfl (spL rfl rfl (lhA (wtl wt a1 a2 a3 k1 k2 k3) Z5o rfl rfl rfl) rfl ?_)))))))))
   refine cl rfl Z9Z rfl rfl (ZcB wt a1 a2 a3 k1 k2 k3 _ _) ?_
   rintro _ _ R1 ⟨qw, rfl, rfl, hR1⟩
   subst hR1
   refine Z4 ?_
   refine Z2n rfl Za4 (fun c0 bl0 bd0 hcp0 hca0 hcb0 hck0 => ?_)
   refine ⟨fun st pend T R' => st = .ready ∧ pend = none ∧ ∃ kv : KV, KvW wt kv ∧ T = (bd0, .deferred (some [])) :: (b3, cel 134 [.pointer (some ⟨b14, 0, none⟩)]) :: (b14, cel 206 (wtl wt a1 a2 a3 k1 k2 k3 ++ (Zd (wt.sums) ++ [.map (some m)]))) :: (m, Z0M true kv) :: (b1, cel 71 (wtl wt a1 a2 a3 k1 k2 k3)) :: H ∧ R' = RowsA (some ⟨qw, 0, none⟩) 6 [(wtl wt a1 a2 a3 k1 k2 k3)] :: R,
     Fn.mono (Z9y wt a1 a2 a3 k1 k2 k3 hw qw bl0 (fun k H' R' => ∃ (kv : KV) (s : Nat × Nat) (m0 : Nat), KvP wt k s m0 kv ∧ (s ∈ (Z10 wt.counts.length).take k → m0 = wt.thr s.1 s.2) ∧ (s ∉ (Z10 wt.counts.length).take k → m0 = 0) ∧ H' = (bl0, lob c0 .ready none) :: (bd0, .deferred (some [])) :: (b3, cel 134 [.pointer (some ⟨b14, 0, none⟩)]) :: (b14, cel 206 (wtl wt a1 a2 a3 k1 k2 k3 ++ (Zd (wt.sums) ++ [.map (some m)]))) :: (m, Z0M true kv) :: (b1, cel 71 (wtl wt a1 a2 a3 k1 k2 k3)) :: H ∧ R' = RowsA (some ⟨qw, 0, none⟩) 6 [(wtl wt a1 a2 a3 k1 k2 k3)] :: R) (fun _ _ => False)
       (fun k H' R' h => by obtain ⟨kv, s, m0, _, _, _, rfl, rfl⟩ := h; simp)
       (fun k f t H' R' hft htn hk hI => ?_) _ _ ⟨[], (0, 0), 0, KvP.nil _ _, by simp, fun _ => rfl, rfl, rfl⟩) (fun v H' R' h => ?_), ?_⟩
   rotate_left
   · rcases h with ⟨kv, s, m0, hkp, hm1, hm2, rfl, rfl⟩ | h
     · exact ⟨.ready, none, _, by simp, .refl _, rfl, rfl, kv, hkp.all (fun hs => hm1 (by rw [List.take_length]; exact hs)), rfl, rfl⟩
     · exact h.elim
   rotate_left
   obtain ⟨kv, s, m0, hkp0, hm1, hm2, rfl, rfl⟩ := hI
   have hkp : KvP wt k (f, t) (Z2h wt f t 0) kv := hkp0.start (by
     by_cases hs : s ∈ (Z10 wt.counts.length).take k
     · rw [hm1 hs, show ((Z10 wt.counts.length).take k).contains s = true by simpa using hs]; rfl
     · rw [hm2 hs, show ((Z10 wt.counts.length).take k).contains s = false by simpa using hs]; rfl) hk
   clear hkp0 hm1 hm2
   refine Z8Z hcp0 hca0 hcb0 hck0 rfl ?_
   refine sqr 2 rfl (alc rfl Z28 rfl (fun b8 => ?_))
   refine Z02 (l' := [.int .i64 (f : Nat), .int .i64 (t : Nat)]) rfl rfl rfl Z4e rfl rfl rfl rfl (nl rfl) ?_
   refine Z0a ?_
   refine Z4 (sqt 4 rfl (sp rfl (PE.fA Z4i rfl) rfl (spL rfl rfl (lh ZcT rfl rfl) rfl (sp rfl (PE.lenSl ZbG rfl) rfl (pur 1 rfl (Z4 ?_))))))
   refine Zc (ι := {x : Nat × KV // x.1 ≤ wt.spells.length ∧ KvP wt k (f, t) (Z2h wt f t x.1) x.2}) (fun x => ⟨[(1, .pointer (some ⟨b1, 0, none⟩)), (3, .pointer (some ⟨b3, 0, none⟩)), (8, .pointer (some ⟨b8, 0, none⟩)), (63, .slice a3 wt.spells.length k3), (64, .int .i64 wt.spells.length), (65, .int .i64 x.1.1)], (b8, cel 195 [.int .i64 (f : Nat), .int .i64 (t : Nat)]) :: (bl0, lob c0 .busy none) :: (bd0, .deferred (some [])) :: (b3, cel 134 [.pointer (some ⟨b14, 0, none⟩)]) :: (b14, cel 206 (wtl wt a1 a2 a3 k1 k2 k3 ++ (Zd (wt.sums) ++ [.map (some m)]))) :: (m, Z0M true x.1.2) :: (b1, cel 71 (wtl wt a1 a2 a3 k1 k2 k3)) :: H, RowsA (some ⟨qw, 0, none⟩) 6 [(wtl wt a1 a2 a3 k1 k2 k3)] :: R⟩) (fun x => wt.spells.length - x.1.1) ⟨(0, kv), Nat.zero_le _, hkp⟩ ?_ (fun x => ?_)
   exact Zk idH
   obtain ⟨⟨j, kv1⟩, hj, hkp1⟩ := x
   dsimp only at hj hkp1 ⊢
   refine sqt 1 rfl (pur 1 rfl (Z0 ?_))
   refine Z2 rfl ?_ ?_ <;> intro hc2 <;> try simp only [cS] at hc2
   obtain ⟨x, hx⟩ : ∃ x, wt.spells[j]? = some x := ⟨_, List.getElem?_eq_getElem (by omega)⟩
   have hxb := hw.spl x (List.mem_of_getElem? hx)
   have hst := Z4A (f := f) (t := t) hx
   have htl := Z7B hw f t j
   have hcf : wt.counts[f]? = some (wt.cn f) := Z0p (by omega)
   have hct : wt.counts[t]? = some (wt.cn t) := Z0p (by omega)
   refine Zl (a := a3) (sz := 3) (rows := sprows wt.spells) (by intro h0; simp [sprows] at h0; simp [h0] at hx) (fun b off he => ?_)
   subst he
   refine Zl (a := a1) (sz := 3) (rows := crows wt.counts) (by intro h0; simp [crows] at h0; simp [h0] at hcf) (fun bf of he => ?_)
   subst he
   refine Z5 (Z0 (Z4 (sqt 4 rfl (sp rfl (PE.indexAddr Zgo rfl rfl (by omega) (by omega)) rfl (spL rfl rfl (lfA Zb9 (row := Z1s x) (Zdh hx) rfl) rfl (alc rfl Z9i rfl (fun b10 => ?_)))))))
   refine sto rfl rfl rfl Zfl rfl rfl rfl rfl ?_
   refine Z0 ?_
   refine Z9 [0, 1, 0, 4, 0, 16, 60, 124, 252, 511, 1023, 2047, 4095, 2047, 10239, 2047, 34815, 124927, 255999, 518143, 1048575, 2097151] (.tk 0 (.ld 1 (.tk 2 (.ld 3 (.tk 4 (.ld 5 (.tk 6 (.tk 7 (.ld 8 (tks 9 3 (.ld 12 (.tk 13 (.ld 14 (.tk 15 (.ld 16 (.tk 17 (.tk 18 (.ld 19 (.tk 20 (.tk 21 .done)))))))))))))))))))) Zo (by kernel_rfl) ?_
   refine tk rfl (PE.fA Z4Y rfl) rfl (ld rfl rfl (lh sc3 rfl rfl) rfl (tk rfl (PE.fA ZP rfl) rfl (ld rfl rfl (lh Z15 rfl rfl) rfl (tk rfl (PE.fA Z1m rfl) rfl (ld rfl rfl (lh sc3 rfl rfl) rfl (tk rfl (PE.indexAddr Z6c rfl rfl (by omega) (by omega)) rfl (tk rfl (PE.fA Z1a rfl) rfl (ld rfl rfl (lf (x := .int .i64 (wt.cn t).hour) sc3 (ZK hct) rfl) rfl (Zf 2 rfl ?_)))))))))
   refine Zp 79 rfl ?_ ?_ <;> intro g79
   try simp only [cS] at g79
   refine tkG rfl rfl rfl rfl (PE.fA Z5f rfl) rfl ?_
   refine ldG rfl rfl rfl rfl rfl (lh sc3 rfl rfl) rfl ?_
   refine tkG rfl rfl rfl rfl (PE.fA ZP rfl) rfl ?_
   refine ldG rfl rfl rfl rfl rfl (lh Z15 rfl rfl) rfl ?_
   refine tkG rfl rfl rfl rfl (PE.fA Z1I rfl) rfl ?_
   refine ldG rfl rfl rfl rfl rfl (lh sc3 rfl rfl) rfl ?_
   refine tkG rfl rfl rfl rfl (PE.indexAddr Z6c rfl rfl (by omega) (by omega)) rfl ?_
   refine tkG rfl rfl rfl rfl (PE.fA Z1a rfl) rfl ?_
   refine ldG rfl rfl rfl rfl rfl (lf (x := .int .i64 (wt.cn f).hour) sc3 (ZK hcf) rfl) rfl (Zf 2 rfl ?_)
   refine Z2 rfl ?_ ?_ <;> intro hc3 <;> try simp only [cS] at hc3
   have hyes : wt.over f t x = true := by unfold Wt.over; rw [dT (by omega), dT (by omega)]; rfl
   refine Z9 [0, 1, 3, 7, 0, 31, 0, 64, 192, 511, 479, 1503, 4095] (.ld 0 (.tk 1 (.tk 2 (.ld 3 (.ld 4 (.ld 5 (.tk 6 (.ld 7 (.tk 8 (.tk 9 (.big 10 (.tk 11 (.big 12 .done))))))))))))) Zo (by kernel_rfl) ?_
   obtain ⟨hn, hhn⟩ : ∃ hn : Nat, x.hand = hn := ⟨x.hand.toNat, by omega⟩
   have hha := hw.hands
   have hpw : (2 : Nat) ^ hn < 2 ^ 6 := Nat.pow_lt_pow_right (by decide) (by omega)
   have hor := Nat.or_lt_two_pow htl hpw
   have hst2 : Z2h wt f t (j + 1) = Z2h wt f t j ||| 1 * 2 ^ hn := by rw [hst]; unfold Z8l; rw [hyes, hhn, Nat.one_mul]; rfl
   have hgt := hkp1.at_ f t
   simp only [decide_true, cond_true] at hgt
   have hkp2 := hkp1.put (m' := Z2h wt f t j)
   have hgt2 := hkp2.at_ f t
   simp only [decide_true, cond_true] at hgt2
   refine ld rfl rfl (lh Z1O rfl rfl) rfl (tk rfl (PE.nilCheck rfl) rfl (tk rfl (PE.fA Z3L rfl) rfl (ld rfl rfl (lh Z8u rfl (Z5E (by rw [(Z1j hw).len]; rfl))) rfl (ld rfl rfl (lhA [_, _] Z0G rfl rfl rfl) rfl ?_))))
   refine ldK rfl rfl rfl (by first | exact Z2o (b := true) kv1 [(f : Int), (t : Int)] Z20 (KeyT.of Z1r Z1X) (Z21 zv3) rfl hkp1.len hgt | exact Z2o (b := true) (kv1.put [(f : Int), (t : Int)] (.int .i64 (Z2h wt f t j : Nat))) [(f : Int), (t : Int)] Z20 (KeyT.of Z1r Z1X) (Z21 zv3) rfl hkp2.len hgt2) rfl ?_
   refine tk rfl (PE.fA Z7s rfl) rfl (ld rfl rfl (lh (v := .int .i64 (hn : Nat)) sc3 rfl (by show some (Value.int .i64 x.hand) = _; rw [hhn])) rfl (tk rfl (PE.shlN (m := 1) (n := hn) rfl rfl rfl (by omega) (by omega)) rfl (tk rfl (PE.orN (m := Z2h wt f t j) (n := 1 * 2 ^ hn) rfl rfl (by omega) (by omega)) rfl ?_)))
   refine mpE kv1 [(f : Int), (t : Int)] (v0 := .int .i64 (Z2h wt f t j : Nat)) rfl Z20 (KeyT.of Z1r Z1X) (Z21 zv3) rfl rfl rfl hkp1.len hgt rfl (fun j9 hj9 => ?_)
   refine bg (fun w hs => ⟨trivial, (by first | exact (Z2o (b := true) kv1 [(f : Int), (t : Int)] Z20 (KeyT.of Z1r Z1X) (Z21 zv3) rfl hkp1.len hgt) w hs | exact (Z2o (b := true) (kv1.put [(f : Int), (t : Int)] (.int .i64 (Z2h wt f t j : Nat))) [(f : Int), (t : Int)] Z20 (KeyT.of Z1r Z1X) (Z21 zv3) rfl hkp2.len hgt2) w hs), trivial, trivial, trivial, trivial⟩) ?_
   refine Zf 1 rfl ?_
   refine mpT _ [(f : Int), (t : Int)] (v := .int .i64 ((Z2h wt f t j ||| 1 * 2 ^ hn : Nat) : Int)) rfl rfl rfl rfl hj9 ?_
   refine bgT (sqr 2 rfl (sp rfl (PE.add rfl rfl (by omega)) rfl (pur 1 rfl ?_)))
   first
     | exact Zi ⟨(j + 1, _), by dsimp only; omega, by dsimp only; rw [hst2]; exact hkp1.put.put⟩ (by dsimp only; omega) (fun w h => h.del b10)
     | exact Zi ⟨(j + 1, kv1), by dsimp only; omega, by dsimp only; rw [show Z2h wt f t (j + 1) = Z2h wt f t j from by rw [hst]; unfold Z8l; rw [hno]; rfl]; exact hkp1⟩ (by dsimp only; omega) (fun w h => h.del b10)
   have hno : wt.over f t x = false := by unfold Wt.over; rw [dF (show ¬ (wt.cn f).hour < x.to by omega), Bool.and_false]
   refine Z5 (sqr 2 rfl (sp rfl (PE.add rfl rfl (by omega)) rfl (pur 1 rfl ?_)))
   first
     | exact Zi ⟨(j + 1, _), by dsimp only; omega, by dsimp only; rw [hst2]; exact hkp1.put.put⟩ (by dsimp only; omega) (fun w h => h.del b10)
     | exact Zi ⟨(j + 1, kv1), by dsimp only; omega, by dsimp only; rw [show Z2h wt f t (j + 1) = Z2h wt f t j from by rw [hst]; unfold Z8l; rw [hno]; rfl]; exact hkp1⟩ (by dsimp only; omega) (fun w h => h.del b10)
   try simp only [cS] at g79
   have hno : wt.over f t x = false := by unfold Wt.over; rw [dF (by omega)]; rfl
   refine Zf 1 rfl ?_
   refine ldN rfl rfl rfl rfl rfl rfl rfl rfl ?_
   refine Zf 1 rfl ?_
   refine ldN rfl rfl rfl rfl rfl rfl rfl rfl ?_
   refine Zf 1 rfl ?_
   refine ldN rfl rfl rfl rfl rfl rfl rfl rfl ?_
   refine Zf 2 rfl ?_
   refine ldN rfl rfl rfl rfl rfl rfl rfl rfl ?_
   refine Zf 2 rfl ?_
   refine Z01 rfl ?_
   refine Z5 (sqr 2 rfl (sp rfl (PE.add rfl rfl (by omega)) rfl (pur 1 rfl ?_)))
   first
     | exact Zi ⟨(j + 1, _), by dsimp only; omega, by dsimp only; rw [hst2]; exact hkp1.put.put⟩ (by dsimp only; omega) (fun w h => h.del b10)
     | exact Zi ⟨(j + 1, kv1), by dsimp only; omega, by dsimp only; rw [show Z2h wt f t (j + 1) = Z2h wt f t j from by rw [hst]; unfold Z8l; rw [hno]; rfl]; exact hkp1⟩ (by dsimp only; omega) (fun w h => h.del b10)
   obtain rfl : j = wt.spells.length := by omega
   rw [Z96] at hkp1
   refine Za (Zb (Zb (Zr ?_)))
   exact Zm (.inl ⟨rfl, kv1, (f, t), wt.thr f t, hkp1.done hk, fun _ => rfl, (fun hn => absurd (by rw [List.take_add_one, hk]; simp) hn), rfl, rfl⟩) (fun w h => h.del b8)
   rintro _ _ _ _ ⟨rfl, rfl, kv, hkv, rfl, rfl⟩
   refine Z9f ?_
   refine sqt 2 rfl (spL rfl rfl (lh Z1O rfl rfl) rfl (pur 1 rfl (Z1 ?_)))
   exact Z0s [bd0] idH rfl (.cons (RV.tmp rfl) .nil) rfl ⟨b14, m, kv, rfl, hkv, rfl, rfl⟩ (fun w h => St.rows (b := b14) (e := 206) (sz := 15) (rows := [(wtl wt a1 a2 a3 k1 k2 k3 ++ (Zd (wt.sums) ++ [.map (some m)]))]) (rest := []) (by rw [show ([(wtl wt a1 a2 a3 k1 k2 k3 ++ (Zd (wt.sums) ++ [.map (some m)]))] : List (List Value)).flatten ++ [] = (wtl wt a1 a2 a3 k1 k2 k3 ++ (Zd (wt.sums) ++ [.map (some m)])) from by simp]; exact St.pull b14 (St.freeze (St.pull m (((h.del b3).del b1).ftail)))) (by simp [wtl, (Z1j hw).len]))
end Go.Proofs.YtjoajfdnlomapaaGreat.Hn
