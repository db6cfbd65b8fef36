/- Walks of the functions of the program, and the laws that join them: what the last theorem of this claim needs, in order. -/
import Derived.Test.YtjoajfdnlomapaaGreatPt4
namespace Go.Proofs.YtjoajfdnlomapaaGreat.Hn
set_option linter.unusedSimpArgs false
set_option linter.unusedVariables false
open Go
theorem Zc0 : apT Tryz.prog 137 = some (195, 2, 16) := by kernel_rfl
theorem Zhm : apT Tryz.prog 201 = some (208, 4, 32) := by kernel_rfl
theorem ZeY : arE Tryz.prog 199 = some (8, 4) := by kernel_rfl
theorem Ze5 : cal Tryz.prog 109 = true := by kernel_rfl
theorem ZdW : cal Tryz.prog 111 = true := by kernel_rfl
theorem ZeB : cal Tryz.prog 113 = true := by kernel_rfl
theorem ZgA : ZN Tryz.prog 201 = some 1 := by kernel_rfl
theorem ZdP : ZN Tryz.prog 208 = some 4 := by kernel_rfl
theorem Z3d : elN Tryz.prog 201 = some 4 := by kernel_rfl
theorem Zas : Tryz.prog.eqGuardType Tryz.prog.depth 195 = false := by kernel_rfl
theorem Zfb : Tryz.prog.eqGuardType Tryz.prog.depth 199 = false := by kernel_rfl
theorem Z3D : ZF Tryz.prog 208 0 = some 0 := by kernel_rfl
theorem Z8P : ZF Tryz.prog 208 1 = some 1 := by kernel_rfl
theorem Z8a : ZF Tryz.prog 208 2 = some 3 := by kernel_rfl
theorem Zax : Z1W Tryz.prog 201 = true := by kernel_rfl
theorem ZdU : ZJ Tryz.prog 208 = some [(0, 1), (1, 2), (3, 1)] := by kernel_rfl
theorem Z25 : Z07 Tryz.prog 201 = true := by kernel_rfl
theorem Z6y : slE Tryz.prog 137 = some (195, 2) := by kernel_rfl
theorem ub4 : Tryz.prog.underlying 4 = some .bool := by kernel_rfl
theorem Zha : Zy Tryz.prog 201 = some ([.slice none 0 0]) := by kernel_rfl
theorem ZcC : Zy Tryz.prog 208 = some ([.int .i64 0, .int .i64 0, .int .i64 0, .int .i64 0]) := by kernel_rfl
theorem zl3 : Zy Tryz.prog 3 = some ([.int .i64 0]) := by kernel_rfl
structure Pln where
  sum : Int
  fr : Int
  to : Int
  rest : Int
def plrow (p : Pln) : List Value := [.int .i64 p.sum, .int .i64 p.fr, .int .i64 p.to, .int .i64 p.rest]
def plrows (l : List Pln) : List (List Value) := l.map plrow
theorem ZaB (l : List Pln) : (plrows l).length = l.length := List.length_map _
theorem Z3Z (l : List Pln) : ∀ r ∈ plrows l, r.length = 4 := fun r hr => by obtain ⟨x, _, rfl⟩ := List.mem_map.1 hr; rfl
theorem pl_get {l : List Pln} {k : Nat} {x : Pln} (h : l[k]? = some x) : (plrows l)[k]? = some (plrow x) := by simp [plrows, h]
theorem Z8F (l : List Pln) : (plrows l).flatten.length = l.length * 4 := by rw [Z00 (Z3Z l), ZaB]
theorem Z1p {l : List Pln} {k j n : Nat} {x : Pln} {v : Value} (h : l[k]? = some x) (hv : (plrow x)[j]? = some v) (hn : n = k * 4 + j) : (plrows l).flatten[n]? = some v := by
  subst hn; exact Z1M (Z3Z l) (pl_get h) hv
theorem ZaS {l : List Pln} {k i : Nat} {x : Pln} (hk : k < l.length) (e : i = k * 4) : spl (plrows l).flatten i (plrow x) = (plrows (l.set k x)).flatten := by
  have h := Z69 (rows := plrows l) (Z3Z l) (k := k) (i := i) (row := plrow x) (by rw [ZaB]; exact hk) rfl e []
  rw [List.append_nil, List.append_nil] at h
  rw [h]; simp [plrows, List.map_set]
theorem Zb3 {l : List Pln} {k n : Nat} {x : Pln} (h : l[k]? = some x) (hn : n = k * 4 + 1) : ∃ rest, (plrows l).flatten.drop n = [.int .i64 x.fr, .int .i64 x.to] ++ rest := by
  obtain ⟨rest, hr⟩ := Z3Q (Z3Z l) (pl_get h) []
  rw [List.append_nil] at hr
  subst hn
  refine ⟨.int .i64 x.rest :: rest, ?_⟩
  rw [← List.drop_drop, hr]; rfl
theorem Zcx (n : Nat) : Z0Y n [Value.int .i64 0, .int .i64 0, .int .i64 0, .int .i64 0] = (plrows (List.replicate n ⟨0, 0, 0, 0⟩)).flatten := by
  rw [← Z1z]; simp [plrows, plrow]
def Z6G (w : Wt) (S e : Nat) (tb : List Int) (k : Nat) : Int := ((Z0n w.counts.length).take k).foldl (w.try1 S e tb) (na0 tb (e - 1))
theorem Z4N {w : Wt} {S e : Nat} {tb : List Int} {k : Nat} {s : Nat × Nat} (h : (Z0n w.counts.length)[k]? = some s) : Z6G w S e tb (k + 1) = w.try1 S e tb (Z6G w S e tb k) s := by unfold Z6G; rw [List.take_add_one, h, List.foldl_append]; rfl
theorem Z6j (w : Wt) (S e : Nat) (tb : List Int) (h : w.own S (e - 1) = true) : Z6G w S e tb (Z0n w.counts.length).length = w.prvN S e tb := by unfold Z6G Wt.prvN; rw [List.take_length, h]; rfl
theorem Z1L (w : Wt) (S : Nat) : ∀ e, (w.prvT S e).length = e + 1
  | 0 => rfl
  | e + 1 => by simp [Wt.prvT, Z1L w S e]
theorem Z2v (w : Wt) (S : Nat) {e i : Nat} (h : i ≤ e) : na0 (w.prvT S (e + 1)) i = na0 (w.prvT S e) i := by
  unfold na0
  rw [List.getD_eq_getElem?_getD, List.getD_eq_getElem?_getD]
  show ((w.prvT S e ++ _)[i]?).getD 0 = _
  rw [List.getElem?_append_left (by rw [Z1L]; omega)]
theorem Z2z (w : Wt) (S e : Nat) : na0 (w.prvT S (e + 1)) (e + 1) = w.prvN S (e + 1) (w.prvT S e) := by
  unfold na0
  rw [List.getD_eq_getElem?_getD]
  show ((w.prvT S e ++ _)[e + 1]?).getD 0 = _
  rw [List.getElem?_append_right (by rw [Z1L]; omega), Z1L]; simp
theorem Zcb {w : Wt} (hw : w.ok) {S e : Nat} {tb : List Int} (htb : ∀ i, i < e → 0 ≤ na0 tb i ∧ na0 tb i ≤ 18000 * (i : Int)) {f t : Nat} (hft : f < t) (ht : t < w.counts.length) {b : Int} (hb : 0 ≤ b ∧ b ≤ 18000 * (e : Int)) : 0 ≤ w.try1 S e tb b (f, t) ∧ w.try1 S e tb b (f, t) ≤ 18000 * (e : Int) := by
  have hn := hw.nc
  unfold Wt.try1
  cases hg : w.good S e (f, t) with
  | false => simpa using hb
  | true =>
    simp only [Wt.good, Bool.and_eq_true, decide_eq_true_eq] at hg
    have h1 := Z94 (w.own S) (f := f) (t := t) (by omega) (by omega)
    have h2 := ZaC hw hft ht
    have h3 := h1.2.2.2 (by omega)
    have h4 := htb (Z1u (w.own S) f t).1 (by omega)
    simp only [Bool.true_and]
    cases hc : decide (b < na0 tb (Z1u (w.own S) f t).1 + w.gap f t) with
    | false => simpa using hb
    | true => simp only [cond_true]; simp only [decide_eq_true_eq] at hc; omega
theorem Z5u {w : Wt} (hw : w.ok) {S e : Nat} (he : 1 ≤ e) {tb : List Int} (htb : ∀ i, i < e → 0 ≤ na0 tb i ∧ na0 tb i ≤ 18000 * (i : Int)) : ∀ k, 0 ≤ Z6G w S e tb k ∧ Z6G w S e tb k ≤ 18000 * (e : Int)
  | 0 => by have := htb (e - 1) (by omega); simp only [Z6G, List.take_zero, List.foldl_nil]; omega
  | k + 1 => by
    have ih := Z5u hw (S := S) he htb k
    cases hs : (Z0n w.counts.length)[k]? with
    | none =>
      have e1 : Z6G w S e tb (k + 1) = Z6G w S e tb k := by unfold Z6G; rw [List.take_add_one, hs]; simp
      rw [e1]; exact ih
    | some s =>
      rw [Z4N hs]
      have hm := str_mem.1 (show (s.1, s.2) ∈ Z0n w.counts.length from List.mem_of_getElem? hs)
      exact Zcb hw htb hm.1 hm.2 ih
theorem Zbg {w : Wt} (hw : w.ok) {S e : Nat} (he : 1 ≤ e) {tb : List Int} (htb : ∀ i, i < e → 0 ≤ na0 tb i ∧ na0 tb i ≤ 18000 * (i : Int)) : 0 ≤ w.prvN S e tb ∧ w.prvN S e tb ≤ 18000 * (e : Int) := by
  cases h : w.own S (e - 1) with
  | true => rw [← Z6j w S e tb h]; exact Z5u hw he htb _
  | false => have := htb (e - 1) (by omega); unfold Wt.prvN; rw [h]; simp only [cond_false]; omega
theorem Z5f {w : Wt} (hw : w.ok) (S : Nat) : ∀ e i, i ≤ e → 0 ≤ na0 (w.prvT S e) i ∧ na0 (w.prvT S e) i ≤ 18000 * (i : Int)
  | 0, i, h => by obtain rfl : i = 0 := by omega
                  simp [Wt.prvT, na0]
  | e + 1, i, h => by
    rcases Nat.lt_or_ge e i with h1 | h1
    · obtain rfl : i = e + 1 := by omega
      rw [Z2z]; exact Zbg hw (by omega) (fun j hj => Z5f hw S e j (by omega))
    · rw [Z2v w S h1]; exact Z5f hw S e i h1
structure PlI (w : Wt) (S e : Nat) (P : List Pln) : Prop where
  len : P.length = w.counts.length
  at_ : ∀ i p, P[i]? = some p → i < e → p.sum = na0 (w.prvT S (e - 1)) i ∧ (0 < i → 0 ≤ p.rest ∧ p.rest < (i : Int))
theorem PlI.start {w : Wt} (S : Nat) : PlI w S 1 (List.replicate w.counts.length ⟨0, 0, 0, 0⟩) := ⟨by simp, fun i p h hi => by
  obtain rfl : i = 0 := by omega
  rw [List.getElem?_replicate] at h
  split at h
  · cases h; exact ⟨rfl, fun h => by omega⟩
  · cases h⟩
theorem PlI.next {w : Wt} {S e : Nat} {P : List Pln} (h : PlI w S e P) (he : 1 ≤ e) {p : Pln} (hp : P[e]? = some p) (hs : p.sum = w.prvN S e (w.prvT S (e - 1))) (hr : 0 ≤ p.rest ∧ p.rest < (e : Int)) : PlI w S (e + 1) P := ⟨h.len, fun i q hq hi => by
  obtain ⟨e', rfl⟩ : ∃ e', e = e' + 1 := ⟨e - 1, by omega⟩
  rw [Nat.add_sub_cancel] at hs ⊢
  rcases Nat.lt_or_ge i (e' + 1) with h1 | h1
  · have := h.at_ i q hq h1
    rw [Nat.add_sub_cancel] at this
    rw [Z2v w S (by omega)]; exact this
  · obtain rfl : i = e' + 1 := by omega
    rw [hp] at hq; cases hq
    rw [Z2z]; exact ⟨hs, fun _ => hr⟩⟩
theorem PlI.put {w : Wt} {S e : Nat} {P : List Pln} (h : PlI w S e P) (p : Pln) : PlI w S e (P.set e p) := ⟨by simp [h.len], fun i q hq hi => by
  rw [List.getElem?_set, if_neg (by omega)] at hq
  exact h.at_ i q hq hi⟩
theorem Za4 {w : Wt} {S : Nat} (h : ∀ i, w.own S i = false) : w.prv S = 0 := by
  have : ∀ e i, na0 (w.prvT S e) i = 0 := fun e => by
    induction e with
    | zero => intro i; rcases i with _ | i <;> rfl
    | succ e ih =>
      intro i
      rcases Nat.lt_or_ge e i with h1 | h1
      · rcases Nat.lt_or_ge (e + 1) i with h2 | h2
        · unfold na0; rw [List.getD_eq_getElem?_getD, List.getElem?_eq_none (by rw [Z1L]; omega)]; rfl
        · obtain rfl : i = e + 1 := by omega
          rw [Z2z]; unfold Wt.prvN; rw [h]; exact ih _
      · rw [Z2v w S h1]; exact ih i
  exact this _ _
theorem Zaj {w : Wt} {S e f t : Nat} (hT : w.thr f t < 2 ^ 6) (hS : S < 2 ^ 6) (h1 : (Z1u (w.own S) f t).2 + 1 = (e : Int)) (h2 : w.thr f t &&& (18446744073709551615 - S) = 0) (h3 : 0 < w.gap f t) : w.good S e (f, t) = true := by
  unfold Wt.good
  rw [decide_eq_true h1, decide_eq_true ((Z0B (by omega) (by omega)).1 h2), decide_eq_true h3]; rfl
theorem Z9o {w : Wt} {S e f t : Nat} (h1 : ¬ (Z1u (w.own S) f t).2 + 1 = (e : Int)) : w.good S e (f, t) = false := by unfold Wt.good; rw [decide_eq_false h1]; rfl
theorem Z9k {w : Wt} {S e f t : Nat} (hT : w.thr f t < 2 ^ 6) (hS : S < 2 ^ 6) (h2 : ¬ w.thr f t &&& (18446744073709551615 - S) = 0) : w.good S e (f, t) = false := by unfold Wt.good; rw [decide_eq_false (fun h => h2 ((Z0B (by omega) (by omega)).2 h)), Bool.and_false]; rfl
theorem Z9H {w : Wt} {S e f t : Nat} (h3 : ¬ 0 < w.gap f t) : w.good S e (f, t) = false := by unfold Wt.good; rw [decide_eq_false h3, Bool.and_false]
theorem Z27 {w : Wt} {S e : Nat} {tb : List Int} {b : Int} {s : Nat × Nat} (h : w.good S e s = false) : w.try1 S e tb b s = b := by unfold Wt.try1; rw [h]; rfl
theorem Z5L {w : Wt} {S e : Nat} {tb : List Int} {b : Int} {s : Nat × Nat} (h : w.good S e s = true) (h2 : b < na0 tb (Z1u (w.own S) s.1 s.2).1 + w.gap s.1 s.2) : w.try1 S e tb b s = na0 tb (Z1u (w.own S) s.1 s.2).1 + w.gap s.1 s.2 := by unfold Wt.try1; rw [h, decide_eq_true h2]; rfl
theorem Z4m {w : Wt} {S e : Nat} {tb : List Int} {b : Int} {s : Nat × Nat} (h2 : ¬ b < na0 tb (Z1u (w.own S) s.1 s.2).1 + w.gap s.1 s.2) : w.try1 S e tb b s = b := by unfold Wt.try1; rw [decide_eq_false h2, Bool.and_false]; rfl
theorem Z9N (own : Nat → Bool) : (ZH own = List.replicate 8 false) → ∀ i, i < 8 → own i = false := fun h i hi => by
  have h1 : (ZH own)[i]? = (List.replicate 8 false)[i]? := by rw [h]
  rw [List.getElem?_replicate, if_pos hi] at h1
  simpa [ZH, hi] using h1
theorem Fn.heapP {P : Program} {f : FuncId} {a : List Value} {H H' : Z7} {R : Z5} {Q : Value → Z7 → Z5 → Prop} (p : H.Perm H') (h : Fn P f a H' R Q) : Fn P f a H R Q := fun w hs => h w (hs.perm p)
set_option maxHeartbeats 1000000 in
theorem Z72 (wt : Wt) (a1 a2 a3 : Option Addr) (k1 k2 k3 : Nat) (hw : wt.ok) (bd m : Nat) (kv : KV) (hkv : KvW wt kv) (Sx : Nat) (hSx : Sx < 2 ^ 6) (H : Z7) (R : Z5) [hD : MemRows (some ⟨bd, 0, none⟩) 15 [(wtl wt a1 a2 a3 k1 k2 k3 ++ (Zh (wt.sums) ++ [.map (some m)]))] R] [hR1 : MemRows a1 3 (crows wt.counts) R] [hK : MemF (MpF m kv) R] :
    Fn Tryz.prog 52 [.pointer (some ⟨bd, 0, none⟩), .int .i64 (Sx : Nat)] H R (fun v H' R' => ∃ fs, v = .tuple #[fs, .int .i64 (wt.prv Sx)] ∧ H' = H ∧ R' = R) := by
 have hnc := hw.nc
 refine Z4f Tryz.func52 rfl Tryz.ntmps52 rfl ?_
 refine sqt 4 rfl (bx rfl rfl rfl (fun b2 => bx rfl rfl rfl (fun b3 => pur 2 rfl (sqt 5 rfl (spL rfl rfl (lh Z0V rfl rfl) rfl (spL rfl rfl (lh sc3 rfl rfl) rfl ?_))))))
 refine clV rfl Ze5 rfl rfl (Zbq wt a1 a2 a3 k1 k2 k3 hw bd m kv hkv Sx hSx _ _) ?_
 refine alc rfl Z9S rfl (fun b6 => ?_)
 refine Z01 (l' := ZE (ZH (wt.own Sx))) rfl rfl rfl ZdD rfl (by show (ZE (ZH (wt.own Sx))).length = 8; simp [ZE, ZK]) (by show (ZE (ZH (wt.own Sx))).all (·.oneCell') = true; exact Z4O _) (Z6k (by show 8 = (ZE (ZH (wt.own Sx))).length; simp [ZE, ZK])) (by show 0 + (ZE (ZH (wt.own Sx))).length ≤ 8; simp [ZE, ZK]) ?_
 refine Z0 (sqt 3 rfl (spL rfl rfl (lhA (ZE (ZH (wt.own Sx))) Z9J rfl (rest := []) (by rw [List.append_nil]; rfl) (by simp [ZE, ZK])) rfl (sp rfl (PE.zero (.inr (by rw [Z7D]; rfl)) Z9S) rfl (sp rfl (PE.eqlBools (ZH (wt.own Sx)) (List.replicate 8 false) ZeY Z7D ub4 Zfb rfl rfl (ZK _) rfl) rfl ?_))))
 refine Z1 rfl ?_ ?_ <;> intro hc0
 have hno := Z9N _ (by simpa using hc0)
 have hpz : wt.prv Sx = 0 := Za4 fun i => by
   rcases Nat.lt_or_ge i 8 with h | h
   · exact hno i h
   · unfold Wt.own; rw [dF (by omega)]; rfl
 refine sqt 2 rfl (pur 2 rfl (Z4 ?_))
 exact Z0g [] idH rfl (.cons (RV.tmp rfl) (.cons (RV.tmp rfl) .nil)) rfl ⟨_, by rw [hpz]; rfl, rfl, rfl⟩ (fun w h => ((h.del b6).del b3).del b2)
 ·
  refine Z3 (sqt 9 rfl (spL rfl rfl (lh Z0V rfl rfl) rfl (sp rfl (PE.nilCheck rfl) rfl (sp rfl (PE.fA Z09 rfl) rfl (sp rfl (PE.fA Zv rfl) rfl (spL rfl rfl (lfB (sz := 15) ZV rfl) rfl (sp rfl (PE.lenSl Z0m rfl) rfl ?_)))))))
  refine mkS rfl Zhm ZcC rfl rfl (Nat.le_refl _) ⟨by omega, by omega⟩ rfl (fun b28 => ?_)
  rw [Zcx]
  refine alc rfl Zha rfl (fun b7 => ?_)
  refine Z01 (l' := [.slice (some ⟨b28, 0, none⟩) wt.counts.length wt.counts.length]) rfl rfl rfl ZgA rfl rfl rfl rfl (nl rfl) ?_
  refine Z0 (sqt 2 rfl (alc rfl zl3 rfl (fun b8 => ?_)))
  refine sto rfl rfl rfl cn3 rfl rfl rfl rfl ?_
  refine Z2 ?_
  refine Z5x (ι := {x : Nat × List Pln × Nat × List Nat // 1 ≤ x.1 ∧ x.1 ≤ wt.counts.length ∧ PlI wt Sx x.1 x.2.1}) (fun x => ⟨[(2, .pointer (some ⟨b2, 0, none⟩)), (3, .pointer (some ⟨b3, 0, none⟩)), (6, .pointer (some ⟨b6, 0, none⟩)), (7, .pointer (some ⟨b7, 0, none⟩)), (8, .pointer (some ⟨x.1.2.2.1, 0, none⟩))], mks x.1.2.2.2, mkh x.1.2.2.2 ++ (x.1.2.2.1, cel 3 [.int .i64 (x.1.1 : Nat)]) :: (b28, cel 208 (plrows x.1.2.1).flatten) :: (b7, cel 201 [.slice (some ⟨b28, 0, none⟩) wt.counts.length wt.counts.length]) :: (b6, cel 199 (ZE (ZH (wt.own Sx)))) :: (b3, cel 3 [.int .i64 (Sx : Nat)]) :: (b2, cel 134 [.pointer (some ⟨bd, 0, none⟩)]) :: H, R⟩) (fun x => wt.counts.length - x.1.1) ⟨(1, _, b8, []), Nat.le_refl _, hnc.1, PlI.start Sx⟩ ?_ (fun x => ?_)
  exact Zaq (by repeat' first | exact Sub.nil | apply Sub.cons | rfl | (simp [lk]; omega)) rfl (fun w h => (h.pull b28).pull b8)
  ·
   obtain ⟨⟨e, P, b8, ms⟩, he1, he2, hP⟩ := x
   dsimp only at he1 he2 hP ⊢
   have hPl := hP.len
   have htb : ∀ i, i < e → 0 ≤ na0 (wt.prvT Sx (e - 1)) i ∧ na0 (wt.prvT Sx (e - 1)) i ≤ 18000 * (i : Int) := fun i hi => Z5f hw Sx (e - 1) i (by omega)
   refine Z0 (Z0 ?_)
   refine Zc [0, 0, 2, 6, 14, 30, 62, 127] (.ld 0 (.ld 1 (tks 2 3 (.ld 5 (.tk 6 (.tk 7 .done)))))) Zo (by kernel_rfl) ?_
   refine ld rfl rfl (lh sc3 rfl rfl) rfl (ld rfl rfl (lh Z0V rfl rfl) rfl (tk rfl (PE.nilCheck rfl) rfl (tk rfl (PE.fA Z09 rfl) rfl (tk rfl (PE.fA Zv rfl) rfl (ld rfl rfl (lfB (sz := 15) ZV rfl) rfl (tk rfl (PE.lenSl Z0m rfl) rfl (Zd 1 rfl ?_)))))))
   refine Z1 rfl ?_ ?_ <;> intro hc1 <;> try simp only [cS] at hc1
   ·
    obtain ⟨p0, hp0⟩ : ∃ p, P[e - 1]? = some p := ⟨_, List.getElem?_eq_getElem (by omega)⟩
    have hp0s := hP.at_ _ _ hp0 (by omega)
    have hb0 := htb (e - 1) (by omega)
    refine Z3 (Z0 (Z2 (Z0 ?_)))
    refine Zc [0, 0, 0, 0, 8, 28, 60, 124, 0, 256, 1020, 2047, 4095] (.ld 0 (.ld 1 (.ld 2 (.ld 3 (tks 4 3 (.ld 7 (.ld 8 (tks 9 3 (.big 12 .done))))))))) Zo (by kernel_rfl) ?_
    refine ld rfl rfl (lh Z25 rfl rfl) rfl (ld rfl rfl (lh sc3 rfl rfl) rfl (ld rfl rfl (lh Z25 rfl rfl) rfl (ld rfl rfl (lh sc3 rfl rfl) rfl (tk rfl (PE.sub rfl rfl (by omega)) rfl ?_))))
    rw [show (e : Int) - 1 = ((e - 1 : Nat) : Int) from by omega]
    refine tk rfl (PE.indexAddr Z3d rfl rfl (by omega) (by omega)) rfl (tk rfl (PE.fA Z3D rfl) rfl (ld rfl rfl (lh sc3 rfl (Z1p (k := e - 1) (j := 0) hp0 rfl (by rw [Int.toNat_natCast]; omega))) rfl (ld rfl rfl (lh sc3 rfl rfl) rfl (tk rfl (PE.sub rfl rfl (by omega)) rfl (tk rfl (PE.build (out := [_, _, _, _]) ZdU ZcC rfl rfl) rfl (tk rfl (PE.indexAddr Z3d rfl rfl (by omega) (by omega)) rfl ?_))))))
    obtain ⟨p1, hp1⟩ : ∃ p : Pln, p = ⟨p0.sum, 0, 0, (e : Int) - 1⟩ := ⟨_, rfl⟩
    refine Z01 (l' := (plrows (P.set e p1)).flatten) rfl rfl rfl ZdP rfl rfl rfl (by rw [hp1]; exact ZaS (x := ⟨p0.sum, 0, 0, (e : Int) - 1⟩) (by omega) (by rw [Int.toNat_natCast]; omega)) (by rw [Z8F]; show 0 + ((e : Nat) : Int).toNat * 4 + 4 ≤ _; rw [Int.toNat_natCast]; omega) ?_
    have hP1 := hP.put p1
    have hPl1 := hP1.len
    have hpe : (P.set e p1)[e]? = some p1 := by rw [List.getElem?_set]; simp; omega
    have hpr : 0 ≤ p1.rest ∧ p1.rest < (e : Int) := by rw [hp1]; dsimp only; omega
    have hps : p1.sum = na0 (wt.prvT Sx (e - 1)) (e - 1) := by rw [hp1]; exact hp0s.1
    clear hp1
    generalize P.set e p1 = P at *
    refine bgT (Z0 (sqt 5 rfl (spL rfl rfl (lh sc3 rfl rfl) rfl (sp rfl (PE.sub rfl rfl (by omega)) rfl ?_))))
    rw [show (e : Int) - 1 = ((e - 1 : Nat) : Int) from by omega]
    refine sp rfl (PE.indexArr Z7D rfl rfl (by omega) (by omega)) rfl (spL rfl rfl (lh sc4 rfl (Z61 (i := e - 1) (by show 0 + ((e - 1 : Nat) : Int).toNat * 1 = e - 1; omega) (by omega))) rfl (pur 1 rfl ?_))
    refine Z1 rfl ?_ ?_ <;> intro hc2
    refine Z9 (Za (Zl (Z0 (sqt 1 rfl (spL rfl rfl (lh sc3 rfl rfl) rfl (sqr 2 rfl ?_))))))
    refine Sy.heap (fun w h => h.del b8) ?_
    refine alc rfl zl3 rfl (fun b8 => ?_)
    refine sto rfl rfl rfl cn3 rfl rfl rfl rfl ?_
    refine sqr 3 rfl (spL rfl rfl (lh sc3 rfl rfl) rfl (sp rfl (PE.add rfl rfl (by omega)) rfl ?_))
    rw [show (e : Int) + 1 = ((e + 1 : Nat) : Int) from by omega]
    refine sto rfl rfl rfl cn3 rfl rfl rfl rfl ?_
    exact Z1a ⟨(e + 1, P, b8, ms), by dsimp only; omega, by dsimp only; omega, hP1.next he1 hpe (by rw [hps]; unfold Wt.prvN; rw [show wt.own Sx (e - 1) = false by simpa using hc2]; rfl) hpr⟩ (by dsimp only; omega) (by repeat' first | exact Sub.nil | apply Sub.cons | rfl | (simp [lk]; omega)) rfl (fun w h => h.perm (List.perm_middle (l₁ := mkh ms)).symm)
    ·
     refine Z3 (sqt 5 rfl (spL rfl rfl (lh Z0V rfl rfl) rfl (sp rfl (PE.nilCheck rfl) rfl (sp rfl (PE.fA Z09 rfl) rfl (spL rfl rfl (ZhG (sz := 15) (wtl wt a1 a2 a3 k1 k2 k3) Z17 rfl rfl) rfl ?_)))))
     refine cl rfl Z6Z rfl rfl (Zcf wt a1 a2 a3 k1 k2 k3 _ _) ?_
     rintro _ _ R1 ⟨qw, rfl, rfl, hR1⟩
     subst hR1
     have hown : wt.own Sx (e - 1) = true := by simpa using hc2
     refine Z2 ?_
     refine Z1G rfl Z7y (fun c0 bl0 bd0 hcp0 hca0 hcb0 hck0 => ?_)
     refine ⟨fun st pend T R' => st = .ready ∧ pend = none ∧ ∃ (P : List Pln) (p : Pln), PlI wt Sx e P ∧ P[e]? = some p ∧ p.sum = wt.prvN Sx e (wt.prvT Sx (e - 1)) ∧ (0 ≤ p.rest ∧ p.rest < (e : Int)) ∧ T = (bd0, .deferred (some [])) :: (b8, cel 3 [.int .i64 (e : Nat)]) :: (mkh ms ++ (b28, cel 208 (plrows P).flatten) :: (b7, cel 201 [.slice (some ⟨b28, 0, none⟩) wt.counts.length wt.counts.length]) :: (b6, cel 199 (ZE (ZH (wt.own Sx)))) :: (b3, cel 3 [.int .i64 (Sx : Nat)]) :: (b2, cel 134 [.pointer (some ⟨bd, 0, none⟩)]) :: H) ∧ R' = RowsA (some ⟨qw, 0, none⟩) 6 [(wtl wt a1 a2 a3 k1 k2 k3)] :: R,
       Fn.mono (Fn.heapP (H' := (bl0, lob c0 .ready none) :: (bd0, .deferred (some [])) :: (b8, cel 3 [.int .i64 (e : Nat)]) :: (mkh ms ++ (b28, cel 208 (plrows P).flatten) :: (b7, cel 201 [.slice (some ⟨b28, 0, none⟩) wt.counts.length wt.counts.length]) :: (b6, cel 199 (ZE (ZH (wt.own Sx)))) :: (b3, cel 3 [.int .i64 (Sx : Nat)]) :: (b2, cel 134 [.pointer (some ⟨bd, 0, none⟩)]) :: H)) (List.Perm.cons _ (List.Perm.cons _ List.perm_middle)) (Z7d wt a1 a2 a3 k1 k2 k3 hw qw bl0 (fun k H' R' => ∃ (P : List Pln) (p : Pln), PlI wt Sx e P ∧ P[e]? = some p ∧ p.sum = Z6G wt Sx e (wt.prvT Sx (e - 1)) k ∧ (0 ≤ p.rest ∧ p.rest < (e : Int)) ∧ H' = (bl0, lob c0 .ready none) :: (bd0, .deferred (some [])) :: (b8, cel 3 [.int .i64 (e : Nat)]) :: (mkh ms ++ (b28, cel 208 (plrows P).flatten) :: (b7, cel 201 [.slice (some ⟨b28, 0, none⟩) wt.counts.length wt.counts.length]) :: (b6, cel 199 (ZE (ZH (wt.own Sx)))) :: (b3, cel 3 [.int .i64 (Sx : Nat)]) :: (b2, cel 134 [.pointer (some ⟨bd, 0, none⟩)]) :: H) ∧ R' = RowsA (some ⟨qw, 0, none⟩) 6 [(wtl wt a1 a2 a3 k1 k2 k3)] :: R) (fun _ _ => False)
         (fun k H' R' h => by obtain ⟨P, p, _, _, _, _, rfl, rfl⟩ := h; simp)
         (fun k f t H' R' hft htn hk hI => ?_) _ _ ⟨P, p1, hP1, hpe, hps, hpr, rfl, rfl⟩)) (fun v H' R' h => ?_), ?_⟩
     rotate_left
     · rcases h with ⟨P, p, h1, h2, h3, h4, rfl, rfl⟩ | h
       · exact ⟨.ready, none, _, by simp, .refl _, rfl, rfl, P, p, h1, h2, by rw [h3]; exact Z6j wt Sx e _ hown, h4, rfl, rfl⟩
       · exact h.elim
     rotate_left
     clear hP1 hpe hpr hps hPl hPl1
     obtain ⟨P2, p, hP2, hp, hpsum, hprest, rfl, rfl⟩ := hI
     have hPl2 := hP2.len
     have hst := Z4N (w := wt) (S := Sx) (e := e) (tb := wt.prvT Sx (e - 1)) hk
     have hvb := Z5u hw (S := Sx) he1 htb k
     have hend := Z94 (wt.own Sx) (f := f) (t := t) (by omega) (by omega)
     have hgb := ZaC hw hft htn
     have htl := Z97 hw f t
     have hkw := hkv.at_ f t hft htn
     rw [hst]
     clear hst
     generalize Z6G wt Sx e (wt.prvT Sx (e - 1)) k = V at *
     refine Z8N hcp0 hca0 hcb0 hck0 rfl ?_
     refine sqr 2 rfl (alc rfl Z1f rfl (fun b9 => ?_))
     refine Z01 (l' := [.int .i64 (f : Nat), .int .i64 (t : Nat)]) rfl rfl rfl Z2R rfl rfl rfl rfl (nl rfl) ?_
     refine ZX ?_
     refine Z2 (sqt 9 rfl (spL rfl rfl (lh Z0V rfl rfl) rfl (spL rfl rfl (lhA [_, _] Z02 rfl rfl rfl) rfl (spL rfl rfl (lhA (ZE (ZH (wt.own Sx))) Z9J rfl (rest := []) (by rw [List.append_nil]; rfl) (by simp [ZE, ZK])) rfl ?_))))
     refine clV rfl ZdW rfl rfl (Zdv _ (wt.own Sx) f t (by omega) (by omega) _ _) ?_
     refine pur 5 rfl (Z0 (Z0 ?_))
     refine Zc [0, 1, 0, 7, 15, 31, 63, 127, 255, 31, 1023, 31, 4095, 8191, 16383, 32767, 65535, 65535, 262143, 524287, 1048575] (.tk 0 (.tk 1 (.ld 2 (.tk 3 (.tk 4 (.ld 5 (.tk 6 (.tk 7 (.ld 8 (.ld 9 (.ld 10 (.ld 11 (tks 12 4 (.ld 16 (.ld 17 (.big 18 (.tk 19 (.tk 20 .done)))))))))))))))))) Zo (by kernel_rfl) ?_
     refine Zd 1 rfl (tk rfl (PE.add rfl rfl (by omega)) rfl (ld rfl rfl (lh sc3 rfl rfl) rfl (Zd 2 rfl ?_)))
     refine Zk 73 rfl ?_ ?_ <;> intro g73
     try simp only [cS] at g73
     have hng : wt.good Sx e (f, t) = false := Z9o (by omega)
     refine ldN rfl rfl rfl rfl rfl rfl rfl rfl ?_
     refine Zd 2 rfl ?_
     repeat refine ldN rfl rfl rfl rfl rfl rfl rfl rfl ?_
     refine Zd 4 rfl ?_
     repeat refine ldN rfl rfl rfl rfl rfl rfl rfl rfl ?_
     refine spN rfl rfl rfl rfl rfl rfl rfl rfl ?_
     refine bgT (Zd 2 rfl ?_)
     refine ZD rfl ?_
     refine Z9 (Za (Zl ?_))
     first
       | exact Zn (.inl ⟨rfl, P2, p, hP2, hp, by rw [Z27 hng]; exact hpsum, hprest, rfl, rfl⟩) (fun w h => h.del b9)
       | exact Zn (.inl ⟨rfl, _, ⟨pa.sum + wt.gap f t, f, t, a9⟩, hP2.put _, by rw [List.getElem?_set]; simp; omega, by rw [hv9], by dsimp only; omega, rfl, rfl⟩) (fun w h => h.del b9)
       | exact Zn (.inl ⟨rfl, P2, p, hP2, hp, by rw [hv9]; exact hpsum, hprest, rfl, rfl⟩) (fun w h => h.del b9)
     try simp only [cS] at g73
     refine ldG rfl rfl rfl rfl rfl (lh Z0V rfl rfl) rfl ?_
     refine tkG rfl rfl rfl rfl (PE.nilCheck rfl) rfl ?_
     refine tkG rfl rfl rfl rfl (PE.fA Z2H rfl) rfl ?_
     refine ldG rfl rfl rfl rfl rfl (lfB (sz := 15) Z78 (Z4q (by rw [(Z12 hw).len]; rfl))) rfl (ldG rfl rfl rfl rfl rfl (lhA [_, _] Z02 rfl rfl rfl) rfl ?_)
     refine ZhV rfl rfl rfl rfl rfl rfl (Z2s (b := true) kv [((f : Nat) : Int), ((t : Nat) : Int)] Z1Q (KeyT.of Z13 Z1T) (Z0Q zv3) rfl hkv.len (fun w hs => hs.now (MemF.mem (f := MpF m kv))) hkw) rfl ?_
     refine ldG rfl rfl rfl rfl rfl (lh sc3 rfl rfl) rfl ?_
     refine tkG rfl rfl rfl rfl (PE.andNotN (m := wt.thr f t) (n := Sx) rfl rfl (by omega) (by omega)) rfl ?_
     refine Zd 3 rfl ?_
     refine Zk 84 rfl ?_ ?_ <;> intro g84
     have hng : wt.good Sx e (f, t) = false := Z9k htl hSx (fun h => by rw [h] at g84; simp at g84)
     repeat refine ldN rfl rfl rfl rfl rfl rfl rfl rfl ?_
     refine spN rfl rfl rfl rfl rfl rfl rfl rfl ?_
     refine bgT (Zd 2 rfl ?_)
     refine ZD rfl ?_
     refine Z9 (Za (Zl ?_))
     first
       | exact Zn (.inl ⟨rfl, P2, p, hP2, hp, by rw [Z27 hng]; exact hpsum, hprest, rfl, rfl⟩) (fun w h => h.del b9)
       | exact Zn (.inl ⟨rfl, _, ⟨pa.sum + wt.gap f t, f, t, a9⟩, hP2.put _, by rw [List.getElem?_set]; simp; omega, by rw [hv9], by dsimp only; omega, rfl, rfl⟩) (fun w h => h.del b9)
       | exact Zn (.inl ⟨rfl, P2, p, hP2, hp, by rw [hv9]; exact hpsum, hprest, rfl, rfl⟩) (fun w h => h.del b9)
     have hz : wt.thr f t &&& (18446744073709551615 - Sx) = 0 := Classical.byContradiction fun h => by rw [dT (show ¬ ((wt.thr f t &&& (18446744073709551615 - Sx) : Nat) : Int) = 0 by omega)] at g84; cases g84
     refine ldG rfl rfl rfl rfl rfl (lh Z0V rfl rfl) rfl (ldG rfl rfl rfl rfl rfl (lhA [_, _] Z02 rfl rfl rfl) rfl ?_)
     refine Z3e rfl rfl rfl rfl Z6f rfl rfl (Z9u wt a1 a2 a3 k1 k2 k3 hw bd m f t hft htn _ _) ?_
     refine bgT (Zd 2 rfl ?_)
     refine Z1 rfl ?_ ?_ <;> intro hc3 <;> try simp only [cS] at hc3
     have hng : wt.good Sx e (f, t) = false := Z9H (by omega)
     refine Z9 (Za (Zl ?_))
     first
       | exact Zn (.inl ⟨rfl, P2, p, hP2, hp, by rw [Z27 hng]; exact hpsum, hprest, rfl, rfl⟩) (fun w h => h.del b9)
       | exact Zn (.inl ⟨rfl, _, ⟨pa.sum + wt.gap f t, f, t, a9⟩, hP2.put _, by rw [List.getElem?_set]; simp; omega, by rw [hv9], by dsimp only; omega, rfl, rfl⟩) (fun w h => h.del b9)
       | exact Zn (.inl ⟨rfl, P2, p, hP2, hp, by rw [hv9]; exact hpsum, hprest, rfl, rfl⟩) (fun w h => h.del b9)
     have hg : wt.good Sx e (f, t) = true := Zaj htl hSx (by omega) hz (by omega)
     obtain ⟨hl1, hl2, hl3⟩ := hend.2.2.2 (by omega)
     obtain ⟨a9, ha9⟩ : ∃ a, a = (Z1u (wt.own Sx) f t).1 := ⟨_, rfl⟩
     rw [← ha9] at hl2 hl3 ⊢
     have hae : a9 < e := by omega
     obtain ⟨pa, hpa⟩ : ∃ p, P2[a9]? = some p := ⟨_, List.getElem?_eq_getElem (by omega)⟩
     have hpas := (hP2.at_ _ _ hpa hae).1
     have hab := htb a9 hae
     refine Z3 (Z0 ?_)
     refine Zc [0, 0, 3, 7, 15, 0, 0, 96, 255, 511] (.ld 0 (tks 1 3 (.ld 4 (.ld 5 (.ld 6 (.big 7 (.tk 8 (.tk 9 .done)))))))) Zo (by kernel_rfl) ?_
     refine ld rfl rfl (lh Z25 rfl rfl) rfl (Zd 1 rfl (tk rfl (PE.indexAddr Z3d rfl rfl (by omega) (by omega)) rfl (tk rfl (PE.fA Z3D rfl) rfl (ld rfl rfl (lh sc3 rfl (Z1p (k := a9) (j := 0) hpa rfl (by rw [Int.toNat_natCast]; omega))) rfl (ld rfl rfl (lh Z0V rfl rfl) rfl (ld rfl rfl (lhA [_, _] Z02 rfl rfl rfl) rfl ?_))))))
     refine clV rfl Z6f rfl rfl (Z9u wt a1 a2 a3 k1 k2 k3 hw bd m f t hft htn _ _) ?_
     refine bg (fun w hs => ⟨trivial, trivial, (lh sc3 rfl (Z1p (k := a9) (j := 0) hpa rfl (by rw [Int.toNat_natCast]; omega))) w hs, (lh Z25 rfl rfl) w hs, trivial⟩) ?_
     refine tk rfl (PE.add rfl rfl (by omega)) rfl (Zd 1 rfl (sqt 7 rfl (pur 1 rfl (spL rfl rfl (lh Z25 rfl rfl) rfl (spL rfl rfl (lh sc3 rfl rfl) rfl (sp rfl (PE.indexAddr Z3d rfl rfl (by omega) (by omega)) rfl (sp rfl (PE.fA Z3D rfl) rfl (spL rfl rfl (lh sc3 rfl (Z1p (k := e) (j := 0) hp rfl (by rw [Int.toNat_natCast]; omega))) rfl (pur 1 rfl ?_)))))))))
     refine Z1 rfl ?_ ?_ <;> intro hc4 <;> try simp only [cS] at hc4
     have hv9 := Z5L (tb := wt.prvT Sx (e - 1)) (b := V) hg (by dsimp only; rw [← ha9, ← hpas, ← hpsum]; omega)
     dsimp only at hv9
     rw [← ha9, ← hpas] at hv9
     refine sqr 8 rfl (spL rfl rfl (lh Z25 rfl rfl) rfl (spL rfl rfl (lh sc3 rfl rfl) rfl (pur 1 rfl (spL rfl rfl (lhA [_, _] Z02 rfl rfl rfl) rfl (pur 1 rfl (sp rfl (PE.build (out := [_, _, _, _]) ZdU ZcC rfl rfl) rfl (sp rfl (PE.indexAddr Z3d rfl rfl (by omega) (by omega)) rfl ?_)))))))
     refine Z01 (l' := (plrows (P2.set e ⟨pa.sum + wt.gap f t, f, t, a9⟩)).flatten) rfl rfl rfl ZdP rfl rfl rfl (ZaS (x := ⟨pa.sum + wt.gap f t, f, t, a9⟩) (by omega) (by rw [Int.toNat_natCast]; omega)) (by rw [Z8F]; show 0 + ((e : Nat) : Int).toNat * 4 + 4 ≤ _; rw [Int.toNat_natCast]; omega) ?_
     first
       | exact Zn (.inl ⟨rfl, P2, p, hP2, hp, by rw [Z27 hng]; exact hpsum, hprest, rfl, rfl⟩) (fun w h => h.del b9)
       | exact Zn (.inl ⟨rfl, _, ⟨pa.sum + wt.gap f t, f, t, a9⟩, hP2.put _, by rw [List.getElem?_set]; simp; omega, by rw [hv9], by dsimp only; omega, rfl, rfl⟩) (fun w h => h.del b9)
       | exact Zn (.inl ⟨rfl, P2, p, hP2, hp, by rw [hv9]; exact hpsum, hprest, rfl, rfl⟩) (fun w h => h.del b9)
     have hv9 := Z4m (w := wt) (S := Sx) (e := e) (tb := wt.prvT Sx (e - 1)) (b := V) (s := (f, t)) (by dsimp only; rw [← ha9, ← hpas, ← hpsum]; omega)
     refine Z3 ?_
     first
       | exact Zn (.inl ⟨rfl, P2, p, hP2, hp, by rw [Z27 hng]; exact hpsum, hprest, rfl, rfl⟩) (fun w h => h.del b9)
       | exact Zn (.inl ⟨rfl, _, ⟨pa.sum + wt.gap f t, f, t, a9⟩, hP2.put _, by rw [List.getElem?_set]; simp; omega, by rw [hv9], by dsimp only; omega, rfl, rfl⟩) (fun w h => h.del b9)
       | exact Zn (.inl ⟨rfl, P2, p, hP2, hp, by rw [hv9]; exact hpsum, hprest, rfl, rfl⟩) (fun w h => h.del b9)
     rintro _ _ _ _ ⟨rfl, rfl, P3, p3, hP3, hp3, hs3, hr3, rfl, rfl⟩
     refine Sy.heap (fun w h => h.ftail) ?_
     refine Z8q ?_
     refine Z0 (sqt 1 rfl (spL rfl rfl (lh sc3 rfl rfl) rfl (sqr 2 rfl ?_)))
     refine Sy.heap (fun w h => h.del b8) ?_
     refine alc rfl zl3 rfl (fun b8 => ?_)
     refine sto rfl rfl rfl cn3 rfl rfl rfl rfl ?_
     refine sqr 3 rfl (spL rfl rfl (lh sc3 rfl rfl) rfl (sp rfl (PE.add rfl rfl (by omega)) rfl ?_))
     rw [show (e : Int) + 1 = ((e + 1 : Nat) : Int) from by omega]
     refine sto rfl rfl rfl cn3 rfl rfl rfl rfl ?_
     exact Z1a ⟨(e + 1, P3, b8, bd0 :: ms), by dsimp only; omega, by dsimp only; omega, hP3.next he1 hp3 hs3 hr3⟩ (by dsimp only; omega) (by repeat' first | exact Sub.nil | apply Sub.cons | rfl | (simp [lk]; omega)) rfl (fun w h => h.perm (List.perm_middle (l₁ := mkh (bd0 :: ms))).symm)
   obtain rfl : e = wt.counts.length := by omega
   refine Z9 (Za (Za (Zl (sqt 1 rfl (pur 1 rfl (Z0 (sqt 4 rfl (spL rfl rfl (lh Z25 rfl rfl) rfl (sp rfl (PE.lenSl Zax rfl) rfl (sp rfl (PE.sub rfl rfl (by omega)) rfl (pur 1 rfl (Z2 ?_))))))))))))
   have hlast : ∀ i p, P[i]? = some p → p.sum = na0 (wt.prvT Sx (wt.counts.length - 1)) i ∧ (0 < i → 0 ≤ p.rest ∧ p.rest < (i : Int)) := fun i p h => hP.at_ i p h (by have := (List.getElem?_eq_some_iff.1 h).1; omega)
   rw [show (wt.counts.length : Int) - 1 = ((wt.counts.length - 1 : Nat) : Int) from by omega]
   refine Sy.heap (H' := mkh ms ++ (b28, cel 208 (plrows P).flatten) :: (b7, cel 201 [.slice (some ⟨b28, 0, none⟩) wt.counts.length wt.counts.length]) :: (b6, cel 199 (ZE (ZH (wt.own Sx)))) :: (b3, cel 3 [.int .i64 (Sx : Nat)]) :: (b2, cel 134 [.pointer (some ⟨bd, 0, none⟩)]) :: H) (fun w h => h.del b8) ?_
   refine Z5x (ι := (x : {x : Nat × List (Int × Int) // x.1 < wt.counts.length ∧ x.2.length + x.1 < wt.counts.length}) × OSl 195 2 (Zp x.1.2)) (fun x => ⟨[(2, .pointer (some ⟨b2, 0, none⟩)), (3, .pointer (some ⟨b3, 0, none⟩)), (6, .pointer (some ⟨b6, 0, none⟩)), (7, .pointer (some ⟨b7, 0, none⟩)), (13, x.2.fs), (14, .int .i64 x.1.1.1)], mks ms, mkh ms ++ (x.2.G ++ (b28, cel 208 (plrows P).flatten) :: (b7, cel 201 [.slice (some ⟨b28, 0, none⟩) wt.counts.length wt.counts.length]) :: (b6, cel 199 (ZE (ZH (wt.own Sx)))) :: (b3, cel 3 [.int .i64 (Sx : Nat)]) :: (b2, cel 134 [.pointer (some ⟨bd, 0, none⟩)]) :: H), R⟩) (fun x => x.1.1.1) ⟨⟨(wt.counts.length - 1, []), by dsimp only; omega, by simp; omega⟩, OSl.nil _ _⟩ ?_ (fun x => ?_)
   exact Zaq (by repeat' first | exact Sub.nil | apply Sub.cons | rfl | (simp [lk]; omega)) rfl idH
   obtain ⟨⟨⟨i, l⟩, hi, hli⟩, o⟩ := x
   dsimp only at hi hli o ⊢
   obtain ⟨p, hp⟩ : ∃ p, P[i]? = some p := ⟨_, List.getElem?_eq_getElem (by omega)⟩
   have hpi := hlast i p hp
   obtain ⟨rl, hrl⟩ := Zb3 (n := 0 + ((i : Nat) : Int).toNat * 4 + 1) hp (by rw [Int.toNat_natCast]; omega)
   refine Z0 (sqt 2 rfl (pur 2 rfl ?_))
   refine Z1 rfl ?_ ?_ <;> intro hc5
   try simp only [cS] at hc5
   have hpr9 := hpi.2 (by omega)
   refine Z3 (Z0 (Z2 (sqt 3 rfl (sp rfl (PE.build (out := [_, _]) Z9z Z1f rfl rfl) rfl (alc rfl Z1f rfl (fun b15 => ?_))))))
   refine sto rfl rfl rfl Z2R rfl rfl rfl rfl ?_
   refine Z0 ?_
   refine Zc [0, 0, 3, 7, 15, 0, 63] (.ld 0 (tks 1 3 (.ld 4 (.ld 5 (.tk 6 .done))))) Zo (by kernel_rfl) ?_
   refine ld rfl rfl (lh Z25 rfl rfl) rfl (Zd 1 rfl (tk rfl (PE.indexAddr Z3d rfl rfl (by omega) (by omega)) rfl (tk rfl (PE.fA Z8P rfl) rfl (ld rfl rfl (lhA [.int .i64 p.fr, .int .i64 p.to] Z02 rfl (rest := rl) hrl rfl) rfl (ld rfl rfl (lhA [_, _] Z02 rfl rfl rfl) rfl (tk rfl (PE.neqAgg [p.fr, p.to] [0, 0] (Z1B 10000 195 true 2 Z13) Zas rfl rfl rfl rfl) rfl ?_))))))
   refine Z1 rfl ?_ ?_ <;> intro hc6
   refine sqr 9 rfl (pur 1 rfl (spL rfl rfl (lh Z25 rfl rfl) rfl (pur 1 rfl (sp rfl (PE.indexAddr Z3d rfl rfl (by omega) (by omega)) rfl (sp rfl (PE.fA Z8P rfl) rfl (spL rfl rfl (lhA [.int .i64 p.fr, .int .i64 p.to] Z02 rfl (rest := rl) hrl rfl) rfl ?_))))))
   refine bsl (out := [_, _]) rfl Z6y Z1f rfl rfl rfl rfl rfl rfl (fun b138 => ?_)
   refine apO (o) rfl Zc0 rfl rfl (Z1e (row := [.int .i64 p.fr, .int .i64 p.to]) rfl) rfl rfl ((by rw [Z0b]; simp only [List.length_singleton]; omega)) rfl (fun o139 => ?_)
   refine pur 1 rfl (sqr 6 rfl (spL rfl rfl (lh Z25 rfl rfl) rfl (pur 1 rfl (sp rfl (PE.indexAddr Z3d rfl rfl (by omega) (by omega)) rfl (sp rfl (PE.fA Z8a rfl) rfl (spL rfl rfl (lh sc3 rfl (Z1p (k := i) (j := 3) hp rfl (by rw [Int.toNat_natCast]; omega))) rfl (pur 1 rfl ?_)))))))
   obtain ⟨r9, hr9⟩ : ∃ r9 : Nat, p.rest = r9 := ⟨p.rest.toNat, by omega⟩
   rw [hr9]
   first
     | exact Z1a ⟨⟨(r9, l ++ [(p.fr, p.to)]), by dsimp only; omega, by simp; omega⟩, o139.cast (by simp [Zp])⟩ (by dsimp only; omega) (by repeat' first | exact Sub.nil | apply Sub.cons | rfl | (simp [lk]; omega)) rfl (fun w h => (h.del b138).del b15)
     | exact Z1a ⟨⟨(r9, l), by dsimp only; omega, by dsimp only; omega⟩, o⟩ (by dsimp only; omega) (by repeat' first | exact Sub.nil | apply Sub.cons | rfl | (simp [lk]; omega)) rfl (fun w h => h.del b15)
   refine Z3 (sqr 6 rfl (spL rfl rfl (lh Z25 rfl rfl) rfl (pur 1 rfl (sp rfl (PE.indexAddr Z3d rfl rfl (by omega) (by omega)) rfl (sp rfl (PE.fA Z8a rfl) rfl (spL rfl rfl (lh sc3 rfl (Z1p (k := i) (j := 3) hp rfl (by rw [Int.toNat_natCast]; omega))) rfl (pur 1 rfl ?_)))))))
   obtain ⟨r9, hr9⟩ : ∃ r9 : Nat, p.rest = r9 := ⟨p.rest.toNat, by omega⟩
   rw [hr9]
   first
     | exact Z1a ⟨⟨(r9, l ++ [(p.fr, p.to)]), by dsimp only; omega, by simp; omega⟩, o139.cast (by simp [Zp])⟩ (by dsimp only; omega) (by repeat' first | exact Sub.nil | apply Sub.cons | rfl | (simp [lk]; omega)) rfl (fun w h => (h.del b138).del b15)
     | exact Z1a ⟨⟨(r9, l), by dsimp only; omega, by dsimp only; omega⟩, o⟩ (by dsimp only; omega) (by repeat' first | exact Sub.nil | apply Sub.cons | rfl | (simp [lk]; omega)) rfl (fun w h => h.del b15)
   refine Z9 (Za (Za (Zl (sqt 2 rfl (pur 1 rfl ?_)))))
   refine Sy.heap (H' := o.G ++ (mkh ms ++ (b28, cel 208 (plrows P).flatten) :: (b7, cel 201 [.slice (some ⟨b28, 0, none⟩) wt.counts.length wt.counts.length]) :: (b6, cel 199 (ZE (ZH (wt.own Sx)))) :: (b3, cel 3 [.int .i64 (Sx : Nat)]) :: (b2, cel 134 [.pointer (some ⟨bd, 0, none⟩)]) :: H)) (fun w h => h.perm (Z0w _ _ _)) ?_
   refine cl rfl ZeB rfl rfl (ZcF l o (by omega) _ _) ?_
   rintro _ _ R1 ⟨rfl, rfl, hR1⟩
   obtain rfl := hR1.symm
   clear hR1
   obtain ⟨pz, hpz⟩ : ∃ p, P[wt.counts.length - 1]? = some p := ⟨_, List.getElem?_eq_getElem (by omega)⟩
   have hpzs := (hlast _ _ hpz).1
   refine Z0 ?_
   refine Zc [0, 0, 0, 4, 12, 30, 62, 126, 1, 511] (.tk 0 (.ld 1 (.ld 2 (tks 3 4 (.ld 7 (.tk 8 (.tk 9 .done))))))) Zo (by kernel_rfl) ?_
   refine Zd 1 rfl (ld rfl rfl (lh Z25 rfl rfl) rfl (ld rfl rfl (lh Z25 rfl rfl) rfl (tk rfl (PE.lenSl Zax rfl) rfl (tk rfl (PE.sub rfl rfl (by omega)) rfl ?_))))
   rw [show (wt.counts.length : Int) - 1 = ((wt.counts.length - 1 : Nat) : Int) from by omega]
   refine tk rfl (PE.indexAddr Z3d rfl rfl (by omega) (by omega)) rfl (tk rfl (PE.fA Z3D rfl) rfl (ld rfl rfl (lh sc3 rfl (Z1p (k := wt.counts.length - 1) (j := 0) hpz rfl (by rw [Int.toNat_natCast]; omega))) rfl (Zd 2 rfl (Z4 ?_))))
   exact Z0g ms idH rfl (.cons (RV.tmp rfl) (.cons (RV.tmp rfl) .nil)) rfl ⟨_, by rw [hpzs]; rfl, rfl, rfl⟩ (fun w h => ((((h.del b28).del b7).del b6).del b3).del b2)
theorem Zba : cal Tryz.prog 51 = true := by kernel_rfl
theorem Ze8 : cal Tryz.prog 52 = true := by kernel_rfl
theorem ZfV {n : Nat} (h : n ≤ 6) : 1 ≤ 2 ^ n ∧ 2 ^ n ≤ 64 := ⟨Nat.one_le_two_pow, Nat.pow_le_pow_right (n := 2) (by decide) h⟩
def Wt.full (w : Wt) : Nat := 2 ^ w.hands.toNat - 1
theorem Z8W {w : Wt} (hw : w.ok) : w.full < 2 ^ 6 := by have := hw.hands; have := ZfV (n := w.hands.toNat) (by omega); unfold Wt.full; omega
theorem c_Missing (wt : Wt) (a1 a2 a3 : Option Addr) (k1 k2 k3 : Nat) (hw : wt.ok) (hcl : wt.clash = false) (H : Z7) (R : Z5) [hR1 : MemRows a1 3 (crows wt.counts) R] [hR2 : MemRows a2 2 (bkrows wt.books) R] [hR3 : MemRows a3 3 (sprows wt.spells) R] :
    FnV Tryz.prog 19 [(wt.v a1 a2 a3 k1 k2 k3)] H R (.tuple #[.int .i64 (wt.prv wt.full), .int .i64 0]) := by
 refine Z8 Tryz.func19 rfl Tryz.ntmps19 rfl ?_
 refine sqt 3 rfl (bx rfl rfl rfl (fun b1 => pur 2 rfl (sqt 7 rfl (spL rfl rfl (lhA (wtl wt a1 a2 a3 k1 k2 k3) Z17 rfl rfl rfl) rfl ?_))))
 refine cl rfl Zba rfl rfl (Z8B wt a1 a2 a3 k1 k2 k3 hw hcl _ _) ?_
 rintro _ _ R1 ⟨bd, m, kv, rfl, hkv, rfl, hR1⟩
 subst hR1
 refine pur 5 rfl (Z0 (sqt 2 rfl (pur 2 rfl ?_)))
 refine Z1 rfl ?_ ?_ <;> intro hc0
 exact absurd hc0 (by simp)
 have hha := hw.hands
 obtain ⟨hn, hhn⟩ : ∃ n : Nat, wt.hands = n := ⟨wt.hands.toNat, by omega⟩
 have hfl : wt.full = 2 ^ hn - 1 := by unfold Wt.full; rw [hhn, Int.toNat_natCast]
 have hp6 := ZfV (n := hn) (by omega)
 refine Z3 (sqt 11 rfl (pur 1 rfl (sp rfl (PE.fA ZW rfl) rfl (spL rfl rfl (lh (v := .int .i64 (hn : Nat)) sc3 rfl (by show some (Value.int .i64 wt.hands) = _; rw [hhn])) rfl (sp rfl (PE.shlN (m := 1) (n := hn) rfl rfl rfl (by omega) (by omega)) rfl (sp rfl (PE.sub rfl rfl (by omega)) rfl ?_))))))
 rw [show ((1 * 2 ^ hn : Nat) : Int) - 1 = ((wt.full : Nat) : Int) from by rw [hfl]; omega]
 refine cl rfl Ze8 rfl rfl (Z72 wt a1 a2 a3 k1 k2 k3 hw bd m kv hkv wt.full (Z8W hw) _ _) ?_
 rintro _ _ R1 ⟨fs, rfl, rfl, hR1⟩
 subst hR1
 refine pur 5 rfl (sqt 3 rfl (pur 3 rfl (Z4 ?_)))
 exact rtB rfl rfl rfl rfl ⟨rfl, rfl, rfl⟩ (fun w h => (h.del b1).ftail.ftail)
theorem c_Least (wt : Wt) (a1 a2 a3 : Option Addr) (k1 k2 k3 : Nat) (hw : wt.ok) (hcl : wt.clash = false) (hd : Nat) (hhd : (hd : Int) < wt.hands) (H : Z7) (R : Z5) [hR1 : MemRows a1 3 (crows wt.counts) R] [hR2 : MemRows a2 2 (bkrows wt.books) R] [hR3 : MemRows a3 3 (sprows wt.spells) R] :
    FnV Tryz.prog 21 [(wt.v a1 a2 a3 k1 k2 k3), .int .i64 (hd : Nat)] H R (.tuple #[.int .i64 (wt.prv (2 ^ hd)), .int .i64 0]) := by
 refine Z8 Tryz.func21 rfl Tryz.ntmps21 rfl ?_
 refine sqt 3 rfl (bx rfl rfl rfl (fun b2 => pur 2 rfl (Z0 ?_)))
 refine Zc [0, 0, 0, 6, 14, 31, 63, 127, 127, 255, 1023] (.ld 0 (.ld 1 (.tk 2 (.big 3 (.tk 4 (.big 5 (tks 6 5 .done))))))) Zo (by kernel_rfl) ?_
 refine ld rfl rfl (lhA (wtl wt a1 a2 a3 k1 k2 k3) Z17 rfl rfl rfl) rfl (ld rfl rfl (lhA (wtl wt a1 a2 a3 k1 k2 k3) Z17 rfl rfl rfl) rfl (Zd 1 rfl ?_))
 refine cl rfl ZeD rfl rfl (ZaK wt a1 a2 a3 k1 k2 k3 (hd : Nat) (by have := hw.hands; omega) _ _) ?_
 rintro _ _ R1 ⟨rfl, rfl, hR1⟩
 obtain rfl := hR1.symm
 clear hR1
 rw [show inL (hd : Nat) 0 (wt.hands - 1) = true by simp [inL]; omega]
 refine bg (fun w hs => ⟨trivial, (lhA (wtl wt a1 a2 a3 k1 k2 k3) Z17 rfl rfl rfl) w hs, trivial⟩) ?_
 refine Zd 1 rfl ?_
 refine cl rfl Zba rfl rfl (Z8B wt a1 a2 a3 k1 k2 k3 hw hcl _ _) ?_
 rintro _ _ R1 ⟨bd, m, kv, rfl, hkv, rfl, hR1⟩
 subst hR1
 refine bgT (Zd 5 rfl (Z0 (sqt 2 rfl (pur 2 rfl ?_))))
 refine Z1 rfl ?_ ?_ <;> intro hc0
 exact absurd hc0 (by simp)
 have hha := hw.hands
 have hp6 : 2 ^ hd < 2 ^ 6 := Nat.pow_lt_pow_right (by decide) (by omega)
 refine Z3 (sqt 9 rfl (pur 2 rfl (sp rfl (PE.shlN (m := 1) (n := hd) rfl rfl rfl (by omega) (by omega)) rfl ?_)))
 rw [Nat.one_mul]
 refine cl rfl Ze8 rfl rfl (Z72 wt a1 a2 a3 k1 k2 k3 hw bd m kv hkv (2 ^ hd) hp6 _ _) ?_
 rintro _ _ R1 ⟨fs, rfl, rfl, hR1⟩
 subst hR1
 refine pur 5 rfl (sqt 3 rfl (pur 3 rfl (Z4 ?_)))
 exact rtB rfl rfl rfl rfl ⟨rfl, rfl, rfl⟩ (fun w h => (h.del b2).ftail.ftail)
theorem Z5F : apT Tryz.prog 47 = some (3, 1, 8) := by kernel_rfl
theorem ZaE : cal Tryz.prog 115 = true := by kernel_rfl
theorem Zf1 : cal Tryz.prog 116 = true := by kernel_rfl
theorem Zfp : cal Tryz.prog 117 = true := by kernel_rfl
theorem Zat : cal Tryz.prog 178 = true := by kernel_rfl
theorem Zfy : cal Tryz.prog 179 = true := by kernel_rfl
theorem ZeU : cal Tryz.prog 180 = true := by kernel_rfl
theorem Zf9 : cal Tryz.prog 181 = true := by kernel_rfl
theorem ZdA : cal Tryz.prog 182 = true := by kernel_rfl
theorem Zey : cal Tryz.prog 183 = true := by kernel_rfl
theorem Zhj : cal Tryz.prog 53 = true := by kernel_rfl
theorem ZdS : ZN Tryz.prog 137 = some 1 := by kernel_rfl
theorem Z9P : Z07 Tryz.prog 137 = true := by kernel_rfl
theorem Z2r : slE Tryz.prog 47 = some (3, 1) := by kernel_rfl
theorem ZfL : Zy Tryz.prog 137 = some ([.slice none 0 0]) := by kernel_rfl
theorem FnV.lendO {P : Program} {f : FuncId} {v : Value} {e sz : Nat} {rows : List (List Value)} (o : OSl e sz rows) (mk : Value → List Value) {T : Z7} {R : Z5}
    (h : ∀ (a : Option Addr) (c : Nat) (B : World → Prop), FnV P f (mk (.slice a rows.length c)) T (RowsA a sz rows :: B :: R) v) : FnV P f (mk o.fs) (o.G ++ T) R v := fun w hw => by
  obtain ⟨fs, G, hl, his⟩ := o
  rcases his with ⟨rfl, rfl, rfl⟩ | ⟨b, cap, junk, rfl, rfl, h1, h2, h3⟩
  · have h3 : St T (RowsA none sz [] :: (fun _ => True) :: R) w := St.also (St.also hw (f := fun _ => True) (fun _ _ => trivial)) (fun w' _ i row hi => by simp at hi)
    refine CallsIn.mono (h none 0 _ w h3) ?_
    rintro e' w' ⟨u, H', R', ⟨rfl, rfl, rfl⟩, he, hs'⟩
    exact ⟨_, _, R, ⟨rfl, rfl, rfl⟩, he, hs'.ftail.ftail⟩
  · exact FnV.lend (H := (b, cel e (rows.flatten ++ junk)) :: T) (b := b) (e := e) (sz := sz) (rows := rows) (junk := junk) hl (fun B => h _ cap B) w hw
theorem OSl.capC {e sz : Nat} {rows : List (List Value)} (o : OSl e sz rows) : ∃ a c, o.fs = .slice a rows.length c ∧ rows.length ≤ c ∧ ∀ {H : Z7} {R : Z5} {w : World}, St (o.G ++ H) R w → St H (RowsA a sz rows :: R) w := by
  obtain ⟨a, c, h, hf⟩ := o.freeze
  refine ⟨a, c, h, ?_, hf⟩
  rcases o.is with ⟨h1, h2, _⟩ | ⟨b, c2, j, h2, _, _, h3, _⟩
  · rw [h1]; exact Nat.zero_le _
  · rw [h] at h2; cases h2; exact h3
abbrev Z9r (x : Int × Int) : List Value := [.int .i64 x.1, .int .i64 x.2]
def Zi7 (g : Nat) (cap : List Value) (p : Int × Int → Bool) (l : List (Int × Int)) (R0 : Z5) : Prop := cal Tryz.prog g = true ∧ ∀ x ∈ l, ∀ (H : Z7) (R : Z5), (∀ f ∈ R0, f ∈ R) → FnV Tryz.prog g ([] ++ [.agg (Z9r x).toArray] ++ cap) H R (.bool (p x))
structure DelI {α : Type} (l : List α) (p : α → Bool) (i j : Nat) (c : List α) : Prop where
  len : c.length = l.length
  le : i < j ∧ j ≤ l.length
  pre : c.take i = (l.take j).filter (fun x => !p x)
  suf : ∀ q, j ≤ q → c[q]? = l[q]?
section del
variable {α : Type}
theorem Z1b {l : List α} {j : Nat} {x : α} (h : l[j]? = some x) : l.take (j + 1) = l.take j ++ [x] := by rw [List.take_add_one, h]; rfl
theorem DelI.start {l : List α} {p : α → Bool} {k : Nat} (h : l.findIdx? p = some k) : DelI l p k (k + 1) l := by
  obtain ⟨h1, h2, h3⟩ := List.findIdx?_eq_some_iff_getElem.1 h
  refine ⟨rfl, ⟨by omega, by omega⟩, ?_, fun _ _ => rfl⟩
  rw [Z1b (List.getElem?_eq_getElem h1), List.filter_append, List.filter_cons, h2]
  have : (l.take k).filter (fun x => !p x) = l.take k := List.filter_eq_self.2 fun x hx => by
    obtain ⟨q, hq, rfl⟩ := List.mem_iff_getElem.1 hx
    rw [List.length_take] at hq
    rw [List.getElem_take]
    have := h3 q (by omega)
    simpa using this
  rw [this]; simp
theorem DelI.skip {l : List α} {p : α → Bool} {i j : Nat} {c : List α} (h : DelI l p i j c) {x : α} (hx : l[j]? = some x) (hp : p x = true) : DelI l p i (j + 1) c := by
  have hj := (List.getElem?_eq_some_iff.1 hx).1
  refine ⟨h.len, ⟨by have := h.le; omega, by omega⟩, ?_, fun q hq => h.suf q (by omega)⟩
  rw [h.pre, Z1b hx, List.filter_append, List.filter_cons, hp]; simp
theorem DelI.keep {l : List α} {p : α → Bool} {i j : Nat} {c : List α} (h : DelI l p i j c) {x : α} (hx : l[j]? = some x) (hp : p x = false) : DelI l p (i + 1) (j + 1) (c.set i x) := by
  have hj := (List.getElem?_eq_some_iff.1 hx).1
  have hl := h.le
  have hn := h.len
  refine ⟨by rw [List.length_set]; exact hn, ⟨by omega, by omega⟩, ?_, fun q hq => by rw [List.getElem?_set_ne (by omega)]; exact h.suf q (by omega)⟩
  rw [Z1b hx, List.filter_append, List.filter_cons, hp, ← h.pre, Z1b (l := c.set i x) (x := x) (by rw [List.getElem?_set_self (by omega)]), List.take_set_of_le (Nat.le_refl _)]; rfl
theorem DelI.done {l : List α} {p : α → Bool} {i : Nat} {c : List α} (h : DelI l p i l.length c) : c.take i = l.filter (fun x => !p x) ∧ i = (l.filter (fun x => !p x)).length := by
  have h1 := h.pre
  rw [List.take_length] at h1
  refine ⟨h1, ?_⟩
  rw [← h1, List.length_take, h.len]
  have := h.le; omega
theorem Z5h {l : List α} {p : α → Bool} (h : l.findIdx? p = none) : l.filter (fun x => !p x) = l := List.filter_eq_self.2 fun x hx => by
  have := List.findIdx?_eq_none_iff.1 h x hx
  simp [this]
end del
theorem Z4h (n : Nat) (a b : Value) : (Z0Y n [a, b]).length = n * 2 := by simp [Z0Y]
theorem Zby {c : List (Int × Int)} {junk : List Value} {i n : Nat} (hi : i ≤ c.length) (hn : n = c.length - i) : spl ((Zp c).flatten ++ junk) (0 + i * 2) (Z0Y n [Value.int .i64 0, .int .i64 0]) = (Zp (c.take i)).flatten ++ (Z0Y n [Value.int .i64 0, .int .i64 0] ++ junk) := by
  subst hn
  have e0 : Zp c = Zp (c.take i) ++ Zp (c.drop i) := by unfold Zp; rw [← List.map_append, List.take_append_drop]
  have e1 : (Zp (c.take i)).flatten.length = i * 2 := by rw [Z1Z, List.length_take, Nat.min_eq_left hi]
  have h := Z6d (Zp (c.take i)).flatten (Zp (c.drop i)).flatten [] junk (Z0Y (c.length - i) [Value.int .i64 0, .int .i64 0]) (by rw [Z4h, Z1Z, List.length_drop])
  rw [List.append_nil, List.append_nil, e1] at h
  rw [Nat.zero_add, e0, List.flatten_append, h, List.append_assoc]
def zp (s : Nat × Nat) : Int × Int := ((s.1 : Int), (s.2 : Int))
def Wt.shortL (w : Wt) : List (Nat × Nat) := (Z0n w.counts.length).filter fun s => decide (0 < w.gap s.1 s.2)
def Z1j (x s : Int × Int) : Bool := (decide (x ≠ s) && decide (s.1 ≤ x.1)) && decide (x.2 ≤ s.2)
def Wt.smallL (w : Wt) : List (Int × Int) := (w.shortL.map zp).filter fun s => !((w.shortL.map zp).any fun x => Z1j x s)
def Wt.hitS (w : Wt) (S : Nat) (s : Int × Int) : Bool := decide (w.thr s.1.toNat s.2.toNat &&& S ≠ 0)
def Wt.leftL (w : Wt) (S : Nat) : List (Int × Int) := w.smallL.filter fun s => !(w.hitS S s)
theorem Z4s {w : Wt} {s : Int × Int} (h : s ∈ w.smallL) : ∃ f t : Nat, s = ((f : Int), (t : Int)) ∧ f < t ∧ t < w.counts.length := by
  obtain ⟨x, hx, rfl⟩ := List.mem_map.1 (List.mem_filter.1 h).1
  have := str_mem.1 (show (x.1, x.2) ∈ Z0n w.counts.length from (List.mem_filter.1 hx).1)
  exact ⟨x.1, x.2, rfl, this.1, this.2⟩
theorem Z4d {w : Wt} (hw : w.ok) : w.shortL.length ≤ 64 := Nat.le_trans (List.length_filter_le _ _) (Z8M _ hw.nc.2)
theorem Z8Q {w : Wt} (hw : w.ok) : w.smallL.length ≤ 64 := Nat.le_trans (List.length_filter_le _ _) (by rw [List.length_map]; exact Z4d hw)
def Wt.must (w : Wt) (h : Nat) : Bool := decide (0 < (w.leftL (w.full - 2 ^ h)).length)
def Wt.mustL (w : Wt) (k : Nat) : List Int := ((List.range k).filter w.must).map fun (h : Nat) => (h : Int)
theorem Z8l (w : Wt) (k : Nat) : w.mustL (k + 1) = w.mustL k ++ (bif w.must k then [(k : Int)] else []) := by
  unfold Wt.mustL
  rw [List.range_succ, List.filter_append, List.map_append]
  cases h : w.must k <;> simp [h]
theorem must_len (w : Wt) (k : Nat) : (w.mustL k).length ≤ k := by unfold Wt.mustL; rw [List.length_map]; exact Nat.le_trans (List.length_filter_le _ _) (by simp)
theorem Z4b (xs : List (Int × Int)) (a : Option Addr) (c g : Nat) (fst cap : List Value) (p : (Int × Int) → Bool) (hg : cal Tryz.prog g = true) (hl : xs.length ≤ 9223372036854775807) (H : Z7) (R : Z5) [hR : MemRows a 2 (Zp xs) R] (hp : ∀ x, x ∈ xs → FnV Tryz.prog g (fst ++ [.agg (Z9r x).toArray] ++ cap) H R (.bool (p x))) :
    FnV Tryz.prog 178 [.slice a xs.length c, .func (.func g) fst.toArray cap.toArray] H R (.int .i64 (match xs.findIdx? p with | some k => (k : Int) | none => -1)) := by
 refine Z8 Tryz.func178 rfl Tryz.ntmps178 rfl ?_
 refine sqt 1 rfl (pur 1 rfl (Z0 (sqt 3 rfl (pur 1 rfl (sp rfl (PE.lenSl Z4g rfl) rfl (pur 1 rfl (Z2 ?_)))))))
 refine Zb (ι := {k : Nat // k ≤ xs.length ∧ ∀ x ∈ xs.take k, p x = false}) (fun k => ⟨[(0, .slice a xs.length c), (1, .func (.func g) fst.toArray cap.toArray), (7, .int .i64 xs.length), (8, .int .i64 k.1)], H, R⟩) (fun k => xs.length - k.1) ⟨0, by simp⟩ ?_ (fun k => ?_)
 exact Zf idH
 obtain ⟨k, hk, hn⟩ := k
 dsimp only
 refine sqt 1 rfl (pur 1 rfl (Z0 ?_))
 refine Z1 rfl ?_ ?_ <;> intro hc0
 simp only [cS] at hc0
 obtain ⟨x, hx⟩ : ∃ x, xs[k]? = some x := ⟨_, List.getElem?_eq_getElem (by omega)⟩
 have hxm := List.mem_of_getElem? hx
 refine Zg (a := a) (sz := 2) (rows := Zp xs) (by cases xs <;> simp_all [Zp]) (fun b off he => ?_)
 subst he
 refine Z3 (Z0 (Z2 (sqt 2 rfl (pur 2 rfl (sqt 6 rfl (pur 3 rfl (sp rfl (PE.indexAddr Z3F rfl rfl (by omega) (by omega)) rfl (spL rfl rfl (lfA Z02 (row := Z9r x) (by simp [Zp, hx]) rfl) rfl ?_))))))))
 refine Z1x rfl rfl (hg) rfl rfl (hp x hxm) ?_
 refine Z1 rfl ?_ ?_ <;> intro hc1
 refine sqt 2 rfl (pur 2 rfl (Z4 ?_))
 first | (exact rtA rfl rfl rfl ⟨by rw [Zm hx hn hc1]; rfl, rfl, rfl⟩ idH) | (exact rtA rfl rfl rfl ⟨by rw [Zi (by simpa using hn)]; rfl, rfl, rfl⟩ idH)
 refine Z3 (sqr 2 rfl (sp rfl (PE.add rfl rfl (by omega)) rfl (pur 1 rfl ?_)))
 exact Z6 ⟨k + 1, by omega, ZB hx hn hc1⟩ idH
 simp only [cS] at hc0
 obtain rfl : k = xs.length := by omega
 refine Z9 (Za (Za (Zl (sqt 1 rfl (pur 1 rfl (Z4 ?_))))))
 first | (exact rtA rfl rfl rfl ⟨by rw [Zm hx hn hc1]; rfl, rfl, rfl⟩ idH) | (exact rtA rfl rfl rfl ⟨by rw [Zi (by simpa using hn)]; rfl, rfl, rfl⟩ idH)
theorem Z7L (xs : List (Int × Int)) (a : Option Addr) (c g : Nat) (fst cap : List Value) (p : (Int × Int) → Bool) (hg : cal Tryz.prog g = true) (hl : xs.length ≤ 9223372036854775807) (H : Z7) (R : Z5) [hR : MemRows a 2 (Zp xs) R] (hp : ∀ x, x ∈ xs → FnV Tryz.prog g (fst ++ [.agg (Z9r x).toArray] ++ cap) H R (.bool (p x))) :
    FnV Tryz.prog 182 [.slice a xs.length c, .func (.func g) fst.toArray cap.toArray] H R (.bool (xs.any p)) := by
 refine Z8 Tryz.func182 rfl Tryz.ntmps182 rfl ?_
 refine sqt 1 rfl (pur 1 rfl (sqt 5 rfl (pur 2 rfl ?_)))
 refine clV rfl Zat rfl rfl (Z4b xs a c g fst cap p hg hl _ _ hp) ?_
 refine pur 2 rfl (Z4 ?_)
 exact rtA rfl rfl rfl ⟨by simp only [ZA]; exact ZT _ _, rfl, rfl⟩ drp
theorem Z4R (xs : List (Int × Int)) (a : Option Addr) (c : Nat) (hl : xs.length ≤ 1000000) (H : Z7) (R : Z5) [hR : MemRows a 2 (Zp xs) R] :
    Fn Tryz.prog 180 [.slice a xs.length c] H R (fun v H' R' => ∃ o : OSl 195 2 (Zp xs), v = o.fs ∧ H' = o.G ++ H ∧ R' = R) := by
 refine Z8 Tryz.func180 rfl Tryz.ntmps180 rfl ?_
 refine sqt 1 rfl (pur 1 rfl (Z0 (sqt 2 rfl (pur 1 rfl (sp rfl (PE.eqlNil Z4g rfl rfl) rfl ?_)))))
 refine Z1 rfl ?_ ?_ <;> intro hc0
 refine Sy.pre (fun w h => Z2w (h.now hR.mem) hc0) (fun hnil => ?_)
 obtain rfl : xs = [] := by simpa [Zp] using hnil
 refine sqt 1 rfl (pur 1 rfl (Z4 ?_))
 first
   | exact rtA rfl rfl rfl ⟨o2.cast (by simp), rfl, rfl, rfl⟩ idH
   | exact rtA rfl rfl rfl ⟨OSl.nil _ _, rfl, rfl, rfl⟩ idH
 refine Z3 (sqt 4 rfl ?_)
 refine ZcX rfl Z6y rfl (fun o5 ho5 => ?_)
 refine pur 1 rfl ?_
 refine Zb6 (news := Zp xs) o5 rfl Zc0 rfl rfl (Zae) (by simp [Zp]) (by simp [Z0o, Zp, Value.oneCell']) ⟨by simp [Zp]; omega, by simp [Zp]; omega⟩ rfl ho5 (fun o2 ho2 => ?_)
 refine pur 1 rfl (Z4 ?_)
 first
   | exact rtA rfl rfl rfl ⟨o2.cast (by simp), rfl, rfl, rfl⟩ idH
   | exact rtA rfl rfl rfl ⟨OSl.nil _ _, rfl, rfl, rfl⟩ idH
set_option maxHeartbeats 400000 in
theorem ZaH (l : List (Int × Int)) (o : OSl 195 2 (Zp l)) (hl : l.length ≤ 1000000) (g : Nat) (cap : List Value) (p : Int × Int → Bool) (R0 : Z5) (hask : Zi7 g cap p l R0) (H : Z7) (R : Z5) [sR : SubF R0 R] :
    Fn Tryz.prog 115 [o.fs, .func (.func g) #[] cap.toArray] (o.G ++ H) R (fun v H' R' => ∃ o' : OSl 195 2 (Zp (l.filter (fun x => !p x))), v = o'.fs ∧ H' = o'.G ++ H ∧ R' = R) := by
 refine Z8 Tryz.func115 rfl Tryz.ntmps115 rfl ?_
 refine sqt 1 rfl (pur 1 rfl (sqt 4 rfl (pur 2 rfl ?_)))
 refine cl rfl Zat rfl rfl (FnV.lendO o (fun v => [v, .func (.func g) #[] cap.toArray]) (fun a5 c5 B9 => by rw [Z0b]; exact Z4b l a5 c5 g [] cap p hask.1 (by omega) _ _ (fun x hx => hask.2 x hx _ _ (fun f hf => by simp [sR.sub f hf])))) ?_
 rintro _ _ R1 ⟨rfl, rfl, hR1⟩
 obtain rfl := hR1.symm
 clear hR1
 rcases hfi : l.findIdx? p with _ | k
 all_goals dsimp only
 refine pur 1 rfl (Z0 (sqt 2 rfl (pur 2 rfl ?_)))
 refine Z1 rfl ?_ ?_ <;> intro hc0
 refine sqt 2 rfl (pur 2 rfl (Z4 ?_))
 exact rtA rfl rfl rfl ⟨o.cast (by rw [Z5h hfi]), rfl, rfl, rfl⟩ idH
 exact absurd hc0 (by simp)
 refine pur 1 rfl (Z0 (sqt 2 rfl (pur 2 rfl ?_)))
 refine Z1 rfl ?_ ?_ <;> intro hc0
 exact absurd hc0 (by simp <;> omega)
 have hst := DelI.start hfi
 have hstl := hst.le
 have hlp : 0 < l.length := by have := hst.le; omega
 obtain ⟨b, cp, junk, hfs, hG, hj, hcap, hmx⟩ := o.is.resolve_left (fun h9 => by have := congrArg List.length h9.1; rw [Z0b] at this; simp only [List.length_nil] at this; omega)
 rw [Z0b] at hfs hj hcap
 rw [hfs, hG]
 refine Sy.heap (H' := (b, cel 195 ((Zp (l)).flatten ++ junk)) :: H) (fun w h9 => h9) ?_
 refine Z3 (Z0 (sqt 3 rfl (pur 1 rfl (sp rfl (PE.add rfl rfl (by omega)) rfl (pur 1 rfl (Z2 ?_))))))
 refine Zb (ι := {y : Nat × Nat × List (Int × Int) // DelI l p y.1 y.2.1 y.2.2}) (fun y => ⟨[(0, .slice (some ⟨b, 0, none⟩) l.length cp), (1, .func (.func g) #[] cap.toArray), (5, .int .i64 (y.1.1 : Int)), (6, .int .i64 (y.1.2.1 : Int))], (b, cel 195 ((Zp (y.1.2.2)).flatten ++ junk)) :: H, R⟩) (fun y => l.length - y.1.2.1) ⟨(k, k + 1, l), hst⟩ ?_ (fun y => ?_)
 exact Zf idH
 clear hst
 obtain ⟨⟨i, j, c⟩, hd⟩ := y
 dsimp only at hd ⊢
 have hle := hd.le
 have hcl := hd.len
 refine Z0 (sqt 4 rfl (pur 2 rfl (sp rfl (PE.lenSl Z4g rfl) rfl (pur 1 rfl ?_))))
 refine Z1 rfl ?_ ?_ <;> intro hc1 <;> try simp only [cS] at hc1
 obtain ⟨x, hx⟩ : ∃ x, l[j]? = some x := ⟨_, List.getElem?_eq_getElem (by omega)⟩
 have hcx : c[j]? = some x := by rw [hd.suf j (Nat.le_refl _)]; exact hx
 obtain ⟨rx, hrx⟩ : ∃ rest, ((Zp c).flatten ++ junk).drop (0 + ((j : Nat) : Int).toNat * 2) = [.int .i64 x.1, .int .i64 x.2] ++ rest := by rw [Nat.zero_add, Int.toNat_natCast]; exact Z3Q (Z2i c) (Z8C hcx) junk
 refine Z3 (Z0 (Z2 (sqt 6 rfl (pur 2 rfl (sp rfl (PE.indexAddr Z3F rfl rfl (by omega) (by omega)) rfl (spL rfl rfl (lhA [.int .i64 x.1, .int .i64 x.2] Z02 rfl (rest := rx) hrx rfl) rfl (alc rfl Z1f rfl (fun b7 => ?_))))))))
 refine sto rfl rfl rfl Z2R rfl rfl rfl rfl ?_
 refine sqt 4 rfl (pur 1 rfl (spL rfl rfl (lhA [_, _] Z02 rfl rfl rfl) rfl ?_))
 refine Z1x rfl rfl (hask.1) rfl rfl (hask.2 x (List.mem_of_getElem? hx) _ _ sR.sub) ?_
 refine pur 1 rfl ?_
 refine Z1 rfl ?_ ?_ <;> intro hc2 <;> try simp only [cS] at hc2
 refine sqt 5 rfl (pur 2 rfl (spL rfl rfl (lhA [_, _] Z02 rfl rfl rfl) rfl (sp rfl (PE.indexAddr Z3F rfl rfl (by omega) (by omega)) rfl ?_)))
 refine Z01 (l := (Zp c).flatten ++ junk) (l' := (Zp (c.set i x)).flatten ++ junk) rfl rfl rfl Z2R rfl rfl rfl (by rw [← Z7z c i x]; exact Z69 (k := i) (rows := Zp c) (Z2i _) (by rw [Z0b]; omega) rfl (by rw [Nat.zero_add, Int.toNat_natCast]) junk) (by show 0 + ((i : Nat) : Int).toNat * 2 + 2 ≤ ((Zp c).flatten ++ junk).length; rw [List.length_append, Z1Z, Int.toNat_natCast]; omega) ?_
 refine sqr 3 rfl (pur 1 rfl (sp rfl (PE.add rfl rfl (by omega)) rfl (pur 1 rfl (sqr 3 rfl (pur 1 rfl (sp rfl (PE.add rfl rfl (by omega)) rfl (pur 1 rfl ?_)))))))
 exact Z6 ⟨(i + 1, j + 1, c.set i x), hd.keep hx (by simpa using hc2)⟩ (fun w h => h.del b7)
 refine Z3 (sqr 3 rfl (pur 1 rfl (sp rfl (PE.add rfl rfl (by omega)) rfl (pur 1 rfl ?_))))
 exact Z6 ⟨(i, j + 1, c), hd.skip hx (by simpa using hc2)⟩ (fun w h => h.del b7)
 obtain rfl : j = l.length := by omega
 obtain ⟨hdt, hdi⟩ := hd.done
 refine Z9 (Za (Za (Zl (sqt 4 rfl (pur 2 rfl (sp rfl (PE.slLo Z6y rfl rfl (by omega) (by omega)) rfl ?_))))))
 refine Zi5 rfl rfl Z6y Z1f rfl rfl rfl (by rw [List.length_append, Z1Z]; omega) ?_
 rw [Zby (by omega) (by omega), hdt]
 obtain ⟨jk, hjk⟩ : ∃ jk, jk = Z0Y (l.length - i) [Value.int .i64 0, .int .i64 0] ++ junk := ⟨_, rfl⟩
 rw [← hjk]
 have hjl : jk.length = (l.length - i) * 2 + junk.length := by rw [hjk, List.length_append, Z4h]
 refine sqt 4 rfl (pur 2 rfl (sp rfl (PE.slHi Z6y rfl rfl (by omega)) rfl (pur 1 rfl (Z4 ?_))))
 exact rtA rfl rfl rfl ⟨⟨.slice (some ⟨b, 0, none⟩) (Zp (l.filter (fun x => !p x))).length cp, [(b, cel 195 ((Zp (l.filter (fun x => !p x))).flatten ++ jk))], Z2i _, .inr ⟨b, cp, jk, rfl, rfl, by rw [Z0b]; omega, by rw [Z0b]; omega, hmx⟩⟩, congrArg (fun q => Value.slice (some ⟨b, 0, none⟩) q cp) (hdi.trans (Z0b _).symm), rfl, rfl⟩ idH
theorem Zc7 (wt : Wt) (a1 a2 a3 : Option Addr) (k1 k2 k3 : Nat) (hw : wt.ok) (bd m : Nat) (H : Z7) (R : Z5) [hD : MemRows (some ⟨bd, 0, none⟩) 15 [(wtl wt a1 a2 a3 k1 k2 k3 ++ (Zh (wt.sums) ++ [.map (some m)]))] R] [hR1 : MemRows a1 3 (crows wt.counts) R] :
    Fn Tryz.prog 179 [.pointer (some ⟨bd, 0, none⟩)] H R (fun v H' R' => ∃ o : OSl 195 2 (Zp (wt.shortL.map zp)), v = o.fs ∧ H' = o.G ++ H ∧ R' = R) := by
 refine Z4f Tryz.func179 rfl Tryz.ntmps179 rfl ?_
 refine sqt 2 rfl (bx rfl rfl rfl (fun b1 => pur 1 rfl (sqt 1 rfl (alc rfl ZfL rfl (fun b3 => Z0 (sqt 5 rfl (spL rfl rfl (lh Z0V rfl rfl) rfl (sp rfl (PE.nilCheck rfl) rfl (sp rfl (PE.fA Z09 rfl) rfl (spL rfl rfl (ZhG (sz := 15) (wtl wt a1 a2 a3 k1 k2 k3) Z17 rfl rfl) rfl ?_))))))))))
 refine cl rfl Z6Z rfl rfl (Zcf wt a1 a2 a3 k1 k2 k3 _ _) ?_
 rintro _ _ R1 ⟨qw, rfl, rfl, hR1⟩
 subst hR1
 refine Z2 ?_
 refine Z1G rfl Z7y (fun c0 bl0 bd0 hcp0 hca0 hcb0 hck0 => ?_)
 refine ⟨fun st pend T R' => st = .ready ∧ pend = none ∧ ∃ o : OSl 195 2 (Zp (wt.shortL.map zp)), T = (bd0, .deferred (some [])) :: (b3, cel 137 [o.fs]) :: (b1, cel 134 [.pointer (some ⟨bd, 0, none⟩)]) :: (o.G ++ H) ∧ R' = RowsA (some ⟨qw, 0, none⟩) 6 [(wtl wt a1 a2 a3 k1 k2 k3)] :: R,
   Fn.mono (Z7d wt a1 a2 a3 k1 k2 k3 hw qw bl0 (fun k H' R' => ∃ o : OSl 195 2 (Zp ((((Z0n wt.counts.length).take k).filter fun s => decide (0 < wt.gap s.1 s.2)).map zp)), H' = (bl0, lob c0 .ready none) :: (bd0, .deferred (some [])) :: (b3, cel 137 [o.fs]) :: (b1, cel 134 [.pointer (some ⟨bd, 0, none⟩)]) :: (o.G ++ H) ∧ R' = RowsA (some ⟨qw, 0, none⟩) 6 [(wtl wt a1 a2 a3 k1 k2 k3)] :: R) (fun _ _ => False)
     (fun k H' R' h => by obtain ⟨o, rfl, rfl⟩ := h; simp)
     (fun k f t H' R' hft htn hk hI => ?_) _ _ ⟨OSl.nil _ _, rfl, rfl⟩) (fun v H' R' h => ?_), ?_⟩
 rotate_left
 · rcases h with ⟨o, rfl, rfl⟩ | h
   · exact ⟨.ready, none, _, by simp, .refl _, rfl, rfl, o.cast (by rw [List.take_length]; rfl), rfl, rfl⟩
   · exact h.elim
 rotate_left
 obtain ⟨o, rfl, rfl⟩ := hI
 have hkl := (List.getElem?_eq_some_iff.1 hk).1
 have hst : (Z0n wt.counts.length).take (k + 1) = (Z0n wt.counts.length).take k ++ [(f, t)] := by rw [List.take_add_one, hk]; rfl
 have hsc := Z8M wt.counts.length hw.nc.2
 have hfl : ((((Z0n wt.counts.length).take k).filter fun s => decide (0 < wt.gap s.1 s.2)).map zp).length ≤ 64 := by rw [List.length_map]; refine Nat.le_trans (List.length_filter_le _ _) ?_; rw [List.length_take]; omega
 refine Z8N hcp0 hca0 hcb0 hck0 rfl ?_
 refine sqr 2 rfl (alc rfl Z1f rfl (fun b4 => ?_))
 refine Z01 (l' := [.int .i64 (f : Nat), .int .i64 (t : Nat)]) rfl rfl rfl Z2R rfl rfl rfl rfl (nl rfl) ?_
 refine ZX ?_
 refine Z2 (sqt 4 rfl (spL rfl rfl (lh Z0V rfl rfl) rfl (spL rfl rfl (lhA [_, _] Z02 rfl rfl rfl) rfl ?_)))
 refine clV rfl Z6f rfl rfl (Z9u wt a1 a2 a3 k1 k2 k3 hw bd m f t hft htn _ _) ?_
 refine pur 1 rfl ?_
 refine Z1 rfl ?_ ?_ <;> intro hc0 <;> try simp only [cS] at hc0
 refine sqr 5 rfl (spL rfl rfl (lh Z9P rfl rfl) rfl (spL rfl rfl (lhA [_, _] Z02 rfl rfl rfl) rfl ?_))
 refine bsl (out := [_, _]) rfl Z6y Z1f rfl rfl rfl rfl rfl rfl (fun b17 => ?_)
 refine apO (o) rfl Zc0 rfl rfl (Z1e (row := Z9r (zp (f, t))) rfl) rfl rfl ((by rw [Z0b]; simp only [List.length_singleton]; omega)) rfl (fun o18 => ?_)
 refine Z01 (l' := [o18.fs]) rfl rfl rfl ZdS rfl (by rw [o18.cells.1]; first | done | rfl) (by rw [o18.cells.1]; simp [o18.cells.2]) (by rw [o18.cells.1]; first | done | rfl) (by rw [o18.cells.1]; first | done | exact Nat.le_refl _) ?_
 exact Zn (.inl ⟨rfl, o18.cast (by rw [hst, List.filter_append, List.map_append]; simp [Zp, zp, hc0]), rfl, rfl⟩) (fun w h => (h.del b17).del b4)
 refine Z3 ?_
 exact Zn (.inl ⟨rfl, o.cast (by rw [hst, List.filter_append, show ([(f, t)].filter fun s => decide (0 < wt.gap s.1 s.2)) = [] from by simp; omega, List.append_nil]), rfl, rfl⟩) (fun w h => h.del b4)
 rintro _ _ _ _ ⟨rfl, rfl, o, rfl, rfl⟩
 refine Z8q ?_
 refine sqt 2 rfl (spL rfl rfl (lh Z9P rfl rfl) rfl (pur 1 rfl (Z4 ?_)))
 exact Z0g [bd0] idH rfl (.cons (RV.tmp rfl) .nil) rfl ⟨o, rfl, rfl, rfl⟩ (fun w h => ((h.del b3).del b1).ftail)
theorem ZbG (x s : Int × Int) (b1 : Nat) (H : Z7) (R : Z5) [hB : Mem1 b1 (cel 195 (Z9r s)) H] :
    FnV Tryz.prog 183 [.agg (Z9r x).toArray, .pointer (some ⟨b1, 0, none⟩)] H R (.bool (Z1j x s)) := by
 refine Z8 Tryz.func183 rfl Tryz.ntmps183 rfl ?_
 refine sqt 2 rfl (bx rfl rfl rfl (fun b2 => pur 1 rfl (sqt 18 rfl (spL rfl rfl (lhA [_, _] Z02 rfl rfl rfl) rfl (spL rfl rfl (lhA [_, _] Z02 rfl rfl rfl) rfl (sp rfl (PE.neqAgg [x.1, x.2] [s.1, s.2] (Z1B 10000 195 true 2 Z13) Zas rfl rfl rfl rfl) rfl ?_))))))
 have he : (!decide ([x.1, x.2] = [s.1, s.2])) = decide (x ≠ s) := by
   rw [Bool.eq_iff_iff]
   simp [Prod.ext_iff]
 rw [he]
 refine pur 1 rfl ?_
 refine Zk 7 rfl ?_ ?_ <;> intro g7
 refine spG rfl rfl rfl rfl (PE.fA Z0S rfl) rfl ?_
 refine Z0f rfl rfl rfl rfl rfl (lh sc3 rfl rfl) rfl ?_
 refine spG rfl rfl rfl rfl (PE.fA Z0S rfl) rfl ?_
 refine Z0f rfl rfl rfl rfl rfl (lh sc3 rfl rfl) rfl (pur 3 rfl ?_)
 refine Zk 14 rfl ?_ ?_ <;> intro g14
 refine spG rfl rfl rfl rfl (PE.fA Z0M rfl) rfl ?_
 refine Z0f rfl rfl rfl rfl rfl (lh sc3 rfl rfl) rfl ?_
 refine spG rfl rfl rfl rfl (PE.fA Z0M rfl) rfl ?_
 refine Z0f rfl rfl rfl rfl rfl (lh sc3 rfl rfl) rfl (pur 3 rfl (Z4 ?_))
 exact rtA rfl rfl rfl ⟨by simp_all only [ZA, Z1j, Bool.true_and, Bool.false_and, Bool.and_true, Bool.and_false, cond_true, cond_false], rfl, rfl⟩ drp
 refine pur 7 rfl (Z4 ?_)
 exact rtA rfl rfl rfl ⟨by simp_all only [ZA, Z1j, Bool.true_and, Bool.false_and, Bool.and_true, Bool.and_false, cond_true, cond_false], rfl, rfl⟩ drp
 refine pur 14 rfl (Z4 ?_)
 exact rtA rfl rfl rfl ⟨by simp_all only [ZA, Z1j, Bool.true_and, Bool.false_and, Bool.and_true, Bool.and_false, cond_true, cond_false], rfl, rfl⟩ drp
theorem Zf3 (l : List (Int × Int)) (hl : l.length ≤ 64) (al : Option Addr) (cl : Nat) (b3 : Nat) (s : Int × Int) (H : Z7) (R : Z5) [hF : MemRows (some ⟨b3, 0, none⟩) 1 [[.slice al l.length cl]] R] [hL : MemRows al 2 (Zp l) R] :
    FnV Tryz.prog 181 [.agg (Z9r s).toArray, .pointer (some ⟨b3, 0, none⟩)] H R (.bool (l.any fun x => Z1j x s)) := by
 refine Z8 Tryz.func181 rfl Tryz.ntmps181 rfl ?_
 refine sqt 2 rfl (bx rfl rfl rfl (fun b2 => pur 1 rfl (sqt 4 rfl (spL rfl rfl (lfB (sz := 1) Z9P rfl) rfl (sp rfl (PE.makeFunc rfl rfl) rfl ?_)))))
 refine clV rfl ZdA rfl rfl (Z7L l al cl 183 [] [.pointer (some ⟨b2, 0, none⟩)] (fun x => Z1j x s) Zey (by omega) _ _ (hp := fun x _ => ZbG x s b2 _ _)) ?_
 refine pur 1 rfl (Z4 ?_)
 exact rtA rfl rfl rfl ⟨rfl, rfl, rfl⟩ drp
theorem Z6Q (wt : Wt) (a1 a2 a3 : Option Addr) (k1 k2 k3 : Nat) (hw : wt.ok) (bd m : Nat) (H : Z7) (R : Z5) [hD : MemRows (some ⟨bd, 0, none⟩) 15 [(wtl wt a1 a2 a3 k1 k2 k3 ++ (Zh (wt.sums) ++ [.map (some m)]))] R] [hR1 : MemRows a1 3 (crows wt.counts) R] :
    Fn Tryz.prog 116 [.pointer (some ⟨bd, 0, none⟩)] H R (fun v H' R' => ∃ o : OSl 195 2 (Zp wt.smallL), v = o.fs ∧ H' = o.G ++ H ∧ R' = R) := by
 refine Z8 Tryz.func116 rfl Tryz.ntmps116 rfl ?_
 refine sqt 1 rfl (pur 1 rfl (sqt 4 rfl (pur 1 rfl ?_)))
 refine cl rfl Zfy rfl rfl (Zc7 wt a1 a2 a3 k1 k2 k3 hw bd m _ _) ?_
 rintro _ _ R1 ⟨o, rfl, rfl, hR1⟩
 obtain rfl := hR1.symm
 clear hR1
 have hsl := Z4d hw
 obtain ⟨al, kl, he, _, hf⟩ := OSl.capC o
 rw [Z0b] at he
 rw [he]
 refine Sy.heap (fun w h => hf h) ?_
 clear he hf
 refine alc rfl ZfL rfl (fun b3 => ?_)
 refine Z01 (l' := [.slice al (wt.shortL.map zp).length kl]) rfl rfl rfl ZdS rfl rfl rfl rfl (nl rfl) ?_
 refine Sy.heap (fun w h => St.rows (sz := 1) (rows := [[.slice al (wt.shortL.map zp).length kl]]) (rest := []) (h.pull b3) (by simp)) ?_
 refine sqt 5 rfl (spL rfl rfl (lfB (sz := 1) Z9P rfl) rfl ?_)
 refine cl rfl ZeU rfl rfl (Z4R (wt.shortL.map zp) al kl (by rw [List.length_map]; omega) _ _) ?_
 rintro _ _ R1 ⟨o2, rfl, rfl, hR1⟩
 obtain rfl := hR1.symm
 clear hR1
 refine sp rfl (PE.makeFunc rfl rfl) rfl ?_
 refine cl rfl ZaE rfl rfl (ZaH (wt.shortL.map zp) o2 (by rw [List.length_map]; omega) 181 [.pointer (some ⟨b3, 0, none⟩)] (fun s => (wt.shortL.map zp).any fun x => Z1j x s) [RowsA (some ⟨b3, 0, none⟩) 1 [[.slice al (wt.shortL.map zp).length kl]], RowsA al 2 (Zp (wt.shortL.map zp))] ⟨Zf9, fun s _ H9 R9 hs9 => by haveI : MemRows (some ⟨b3, 0, none⟩) 1 [[.slice al (wt.shortL.map zp).length kl]] R9 := ⟨hs9 _ (by simp)⟩; haveI : MemRows al 2 (Zp (wt.shortL.map zp)) R9 := ⟨hs9 _ (by simp)⟩; exact Zf3 (wt.shortL.map zp) (by rw [List.length_map]; exact hsl) al kl b3 s _ _⟩ _ _) ?_
 rintro _ _ R1 ⟨o4, rfl, rfl, hR1⟩
 obtain rfl := hR1.symm
 clear hR1
 refine pur 1 rfl (Z4 ?_)
 exact rtA rfl rfl rfl ⟨o4, rfl, rfl, rfl⟩ (fun w h => h.ftail.ftail)
theorem Zbd (wt : Wt) (a1 a2 a3 : Option Addr) (k1 k2 k3 : Nat) (hw : wt.ok) (bd m : Nat) (kv : KV) (hkv : KvW wt kv) (Sx : Nat) (hSx : Sx < 2 ^ 6) (b2 b3 : Nat) (s : Int × Int) (hs : s ∈ wt.smallL) (H : Z7) (R : Z5) [hD : MemRows (some ⟨bd, 0, none⟩) 15 [(wtl wt a1 a2 a3 k1 k2 k3 ++ (Zh (wt.sums) ++ [.map (some m)]))] R] [hK : MemF (MpF m kv) R] [h2 : MemRows (some ⟨b2, 0, none⟩) 1 [[.pointer (some ⟨bd, 0, none⟩)]] R] [h3 : MemRows (some ⟨b3, 0, none⟩) 1 [[.int .i64 (Sx : Nat)]] R] :
    FnV Tryz.prog 117 [.agg (Z9r s).toArray, .pointer (some ⟨b2, 0, none⟩), .pointer (some ⟨b3, 0, none⟩)] H R (.bool (wt.hitS Sx s)) := by
 refine Z8 Tryz.func117 rfl Tryz.ntmps117 rfl ?_
 refine sqt 2 rfl ?_
 obtain ⟨f, t, rfl, hft, htn⟩ := Z4s hs
 have hkw := hkv.at_ f t hft htn
 have htl := Z97 hw f t
 have hhit : wt.hitS Sx ((f : Int), (t : Int)) = decide (((wt.thr f t &&& Sx : Nat) : Int) ≠ 0) := by unfold Wt.hitS; exact decide_eq_decide.2 (by simp only [Int.toNat_natCast]; omega)
 rw [hhit]
 refine bx rfl rfl rfl (fun b3 => pur 1 rfl (Z0 ?_))
 refine Zc [0, 1, 3, 7, 0, 31, 0, 127, 255, 511] (.ld 0 (.tk 1 (.tk 2 (.ld 3 (.ld 4 (.ld 5 (.ld 6 (tks 7 3 .done)))))))) Zo (by kernel_rfl) ?_
 refine ld rfl rfl (lfB (sz := 1) Z0V rfl) rfl (tk rfl (PE.nilCheck rfl) rfl (tk rfl (PE.fA Z2H rfl) rfl (ld rfl rfl (lfB (sz := 15) Z78 (Z4q (by rw [(Z12 hw).len]; rfl))) rfl (ld rfl rfl (lhA [_, _] Z02 rfl rfl rfl) rfl ?_))))
 refine ldK rfl rfl rfl (Z2s (b := true) kv [((f : Nat) : Int), ((t : Nat) : Int)] Z1Q (KeyT.of Z13 Z1T) (Z0Q zv3) rfl hkv.len (fun w hs => hs.now (MemF.mem (f := MpF m kv))) hkw) rfl ?_
 refine ld rfl rfl (lfB (sz := 1) sc3 rfl) rfl (tk rfl (PE.andN (m := wt.thr f t) (n := Sx) rfl rfl rfl (by omega) (by omega)) rfl (Zd 2 rfl (Z4 ?_)))
 exact rtA rfl rfl rfl ⟨rfl, rfl, rfl⟩ drp
theorem Zcd (wt : Wt) (a1 a2 a3 : Option Addr) (k1 k2 k3 : Nat) (hw : wt.ok) (bd m : Nat) (kv : KV) (hkv : KvW wt kv) (Sx : Nat) (hSx : Sx < 2 ^ 6) (H : Z7) (R : Z5) [hD : MemRows (some ⟨bd, 0, none⟩) 15 [(wtl wt a1 a2 a3 k1 k2 k3 ++ (Zh (wt.sums) ++ [.map (some m)]))] R] [hR1 : MemRows a1 3 (crows wt.counts) R] [hK : MemF (MpF m kv) R] :
    Fn Tryz.prog 53 [.pointer (some ⟨bd, 0, none⟩), .int .i64 (Sx : Nat)] H R (fun v H' R' => ∃ a c, v = .slice a (wt.leftL Sx).length c ∧ H' = H ∧ R' = R) := by
 refine Z8 Tryz.func53 rfl Tryz.ntmps53 rfl ?_
 refine sqt 3 rfl (bx rfl rfl rfl (fun b2 => bx rfl rfl rfl (fun b3 => pur 1 rfl (sqt 5 rfl (spL rfl rfl (lh Z0V rfl rfl) rfl ?_)))))
 refine cl rfl Zf1 rfl rfl (Z6Q wt a1 a2 a3 k1 k2 k3 hw bd m _ _) ?_
 rintro _ _ R1 ⟨o, rfl, rfl, hR1⟩
 obtain rfl := hR1.symm
 clear hR1
 have hsl := Z8Q hw
 refine Sy.heap (fun w h => St.rows (sz := 1) (rows := [[.pointer (some ⟨bd, 0, none⟩)]]) (rest := []) (St.pull b2 (St.rows (sz := 1) (rows := [[.int .i64 (Sx : Nat)]]) (rest := []) (St.pull b3 h) (by simp))) (by simp)) ?_
 refine sp rfl (PE.makeFunc rfl rfl) rfl ?_
 refine cl rfl ZaE rfl rfl (ZaH wt.smallL o (by omega) 117 [.pointer (some ⟨b2, 0, none⟩), .pointer (some ⟨b3, 0, none⟩)] (wt.hitS Sx) [RowsA (some ⟨b2, 0, none⟩) 1 [[.pointer (some ⟨bd, 0, none⟩)]], RowsA (some ⟨b3, 0, none⟩) 1 [[.int .i64 (Sx : Nat)]], RowsA (some ⟨bd, 0, none⟩) 15 [(wtl wt a1 a2 a3 k1 k2 k3 ++ (Zh (wt.sums) ++ [.map (some m)]))], MpF m kv] ⟨Zfp, fun s hs9 H9 R9 hf9 => by haveI : MemRows (some ⟨b2, 0, none⟩) 1 [[.pointer (some ⟨bd, 0, none⟩)]] R9 := ⟨hf9 _ (by simp)⟩; haveI : MemRows (some ⟨b3, 0, none⟩) 1 [[.int .i64 (Sx : Nat)]] R9 := ⟨hf9 _ (by simp)⟩; haveI : MemRows (some ⟨bd, 0, none⟩) 15 [(wtl wt a1 a2 a3 k1 k2 k3 ++ (Zh (wt.sums) ++ [.map (some m)]))] R9 := ⟨hf9 _ (by simp)⟩; haveI : MemF (MpF m kv) R9 := ⟨hf9 _ (by simp)⟩; exact Zbd wt a1 a2 a3 k1 k2 k3 hw bd m kv hkv Sx hSx b2 b3 s hs9 _ _⟩ _ _ (sR := ⟨fun f hf => by simp only [List.mem_cons, List.not_mem_nil, or_false] at hf; rcases hf with rfl | rfl | rfl | rfl; exact List.mem_cons_self; exact List.mem_cons_of_mem _ List.mem_cons_self; exact List.mem_cons_of_mem _ (List.mem_cons_of_mem _ hD.mem); exact List.mem_cons_of_mem _ (List.mem_cons_of_mem _ hK.mem)⟩)) ?_
 rintro _ _ R1 ⟨o4, rfl, rfl, hR1⟩
 obtain rfl := hR1.symm
 clear hR1
 obtain ⟨a9, c9, he, _, hf⟩ := OSl.capC o4
 rw [Z0b] at he
 rw [he]
 refine pur 1 rfl (Z4 ?_)
 exact rtA rfl rfl rfl ⟨a9, c9, rfl, rfl, rfl⟩ (fun w h => (h.drop (G := o4.G)).ftail.ftail)
theorem c_Must (wt : Wt) (a1 a2 a3 : Option Addr) (k1 k2 k3 : Nat) (hw : wt.ok) (hcl : wt.clash = false) (H : Z7) (R : Z5) [hR1 : MemRows a1 3 (crows wt.counts) R] [hR2 : MemRows a2 2 (bkrows wt.books) R] [hR3 : MemRows a3 3 (sprows wt.spells) R] :
    Fn Tryz.prog 20 [(wt.v a1 a2 a3 k1 k2 k3)] H R (fun v H' R' => ∃ a c, v = .tuple #[.slice a (wt.mustL wt.hands.toNat).length c, .int .i64 0] ∧ H' = H ∧ R' = RowsA a 1 (irows (wt.mustL wt.hands.toNat)) :: R) := by
 refine Z8 Tryz.func20 rfl Tryz.ntmps20 rfl ?_
 refine sqt 3 rfl (bx rfl rfl rfl (fun b1 => pur 2 rfl (sqt 7 rfl (spL rfl rfl (lhA (wtl wt a1 a2 a3 k1 k2 k3) Z17 rfl rfl rfl) rfl ?_))))
 refine cl rfl Zba rfl rfl (Z8B wt a1 a2 a3 k1 k2 k3 hw hcl _ _) ?_
 rintro _ _ R1 ⟨bd, m, kv, rfl, hkv, rfl, hR1⟩
 subst hR1
 refine pur 5 rfl (Z0 (sqt 2 rfl (pur 2 rfl ?_)))
 refine Z1 rfl ?_ ?_ <;> intro hc0
 exact absurd hc0 (by simp)
 have hha := hw.hands
 obtain ⟨hn, hhn⟩ : ∃ n : Nat, wt.hands = n := ⟨wt.hands.toNat, by omega⟩
 have hfl : wt.full = 2 ^ hn - 1 := by unfold Wt.full; rw [hhn, Int.toNat_natCast]
 have hp6 := ZfV (n := hn) (by omega)
 have hfull := Z8W hw
 refine Z3 (sqt 1 rfl (pur 1 rfl (Z0 (sqt 3 rfl (sp rfl (PE.fA ZW rfl) rfl (spL rfl rfl (lh (v := .int .i64 (hn : Nat)) sc3 rfl (by show some (Value.int .i64 wt.hands) = _; rw [hhn])) rfl (pur 1 rfl (Z2 ?_))))))))
 refine Zb (ι := (k : {k : Nat // k ≤ hn}) × OSl 3 1 (irows (wt.mustL k.1))) (fun x => ⟨[(1, .pointer (some ⟨b1, 0, none⟩)), (4, .pointer (some ⟨bd, 0, none⟩)), (6, x.2.fs), (17, .int .i64 (hn : Nat)), (18, .int .i64 x.1.1)], x.2.G ++ ((b1, cel 71 (wtl wt a1 a2 a3 k1 k2 k3)) :: H), RowsA (some ⟨bd, 0, none⟩) 15 [(wtl wt a1 a2 a3 k1 k2 k3 ++ (Zh (wt.sums) ++ [.map (some m)]))] :: MpF m kv :: R⟩) (fun x => hn - x.1.1) ⟨⟨0, Nat.zero_le _⟩, OSl.nil _ _⟩ ?_ (fun x => ?_)
 exact Zf idH
 obtain ⟨⟨k, hk⟩, o⟩ := x
 dsimp only at hk o ⊢
 refine sqt 1 rfl (pur 1 rfl (Z0 ?_))
 refine Z1 rfl ?_ ?_ <;> intro hc1 <;> try simp only [cS] at hc1
 have hmst := Z8l wt k
 have hml := must_len wt k
 have hpk : 2 ^ k < 2 ^ hn := Nat.pow_lt_pow_right (by decide) (by omega)
 have hpk1 := ZfV (n := k) (by omega)
 have hil : (irows (wt.mustL k)).length = (wt.mustL k).length := List.length_map _
 refine Z3 (Z0 (Z2 (sqt 2 rfl (pur 2 rfl (Z0 ?_)))))
 refine Zc [0, 0, 2, 6, 14, 0, 32, 126, 255, 511, 1023] (.tk 0 (.tk 1 (.ld 2 (tks 3 5 (.big 8 (.tk 9 (.tk 10 .done))))))) Zo (by kernel_rfl) ?_
 refine Zd 1 rfl (tk rfl (PE.fA ZW rfl) rfl (ld rfl rfl (lh (v := .int .i64 (hn : Nat)) sc3 rfl (by show some (Value.int .i64 wt.hands) = _; rw [hhn])) rfl (tk rfl (PE.shlN (m := 1) (n := hn) rfl rfl rfl (by omega) (by omega)) rfl (tk rfl (PE.sub rfl rfl (by omega)) rfl (Zd 1 rfl (tk rfl (PE.shlN (m := 1) (n := k) rfl rfl rfl (by omega) (by omega)) rfl (tk rfl (PE.sub rfl rfl (by omega)) rfl ?_)))))))
 rw [show (((1 * 2 ^ hn : Nat) : Int) - 1) - ((1 * 2 ^ k : Nat) : Int) = ((wt.full - 2 ^ k : Nat) : Int) from by rw [hfl]; omega]
 refine cl rfl Zhj rfl rfl (Zcd wt a1 a2 a3 k1 k2 k3 hw bd m kv hkv (wt.full - 2 ^ k) (by omega) _ _) ?_
 rintro _ _ R1 ⟨a9, c9, rfl, rfl, hR1⟩
 obtain rfl := hR1.symm
 clear hR1
 refine bgT (tk rfl (PE.lenSl Z4g rfl) rfl (Zd 1 rfl ?_))
 refine Z1 rfl ?_ ?_ <;> intro hc2 <;> try simp only [cS] at hc2
 have hmt : wt.must k = true := by unfold Wt.must; rw [dT (by omega)]
 refine sqr 5 rfl (pur 2 rfl ?_)
 refine bsl (out := [_]) rfl Z2r zl3 rfl rfl rfl rfl rfl rfl (fun b34 => ?_)
 refine apO (o) rfl Z5F rfl rfl (Z1e (row := [.int .i64 (k : Int)]) rfl) rfl rfl ((by rw [hil]; simp only [List.length_singleton]; omega)) rfl (fun o35 => ?_)
 refine pur 1 rfl (sqr 2 rfl (sp rfl (PE.add rfl rfl (by omega)) rfl (pur 1 rfl ?_)))
 exact Z6 ⟨⟨k + 1, by omega⟩, o35.cast (by rw [hmst, hmt]; simp [irows])⟩ (fun w h => h.del b34)
 have hmt : wt.must k = false := by unfold Wt.must; rw [dF (by omega)]
 refine Z3 (sqr 2 rfl (sp rfl (PE.add rfl rfl (by omega)) rfl (pur 1 rfl ?_)))
 exact Z6 ⟨⟨k + 1, by omega⟩, o.cast (by rw [hmst, hmt]; simp)⟩ idH
 obtain rfl : k = hn := by omega
 obtain ⟨a9, c9, he, _, hf⟩ := OSl.capC o
 rw [show (irows (wt.mustL k)).length = (wt.mustL k).length from List.length_map _] at he
 rw [he]
 refine Sy.heap (fun w h => hf h) ?_
 clear he hf
 refine Z9 (Za (Za (Zl (sqt 3 rfl (pur 3 rfl (Z4 ?_))))))
 exact rtB rfl rfl rfl rfl ⟨a9, c9, by rw [hhn, Int.toNat_natCast]; rfl, rfl, by rw [hhn, Int.toNat_natCast]⟩ (fun w h => St.facts (h.del b1) (fun f hf => by simp only [List.mem_cons] at hf ⊢; rcases hf with rfl | hf; exact .inl rfl; exact .inr (.inr (.inr hf))))
theorem ZgC : apT Tryz.prog 68 = some (131, 2, 16) := by kernel_rfl
theorem Zga : apT Tryz.prog 69 = some (128, 3, 24) := by kernel_rfl
theorem ZgT : cal Tryz.prog 63 = true := by kernel_rfl
theorem Z7O : cal Tryz.prog 64 = true := by kernel_rfl
theorem Z30 : cal Tryz.prog 65 = true := by kernel_rfl
theorem Z3f : ZN Tryz.prog 71 = some 6 := by kernel_rfl
theorem Z5q : ZJ Tryz.prog 71 = some [(0, 1), (1, 1), (2, 1), (3, 1), (4, 1), (5, 1)] := by kernel_rfl
theorem Zg0 : slE Tryz.prog 68 = some (131, 2) := by kernel_rfl
theorem ZfZ : slE Tryz.prog 69 = some (128, 3) := by kernel_rfl
theorem Z1w : Zy Tryz.prog 71 = some ([.int .i64 0, .int .i64 0, .int .i64 0, .slice none 0 0, .slice none 0 0, .slice none 0 0]) := by kernel_rfl
section cpy
variable {P : Program} {r : Option Nat} {ops : Array Oper} {n : Nat} {L : Zj} {D : List Deferred} {H : Z7} {R : Z5} {K : Act → World → Prop}
  {i d : Nat} {ty : TypeId} {pos : String} {af : Array Edge}
theorem Zgg {T T2 e s od q : Nat} {x y : Operand} {b dl dc sc e2 : Nat} {l : List Value} {ax : Option Addr} {rows : List (List Value)} {H' : Z7}
    (ho : ops[i]? = some ⟨some d, .call { callee := .builtin .copy, args := #[x, y], argTypes := #[T, T2] }, ty, pos, af, none⟩) (hT : slE P T = some (e, s))
    (hx : ev L x = some (.slice (some ⟨b, od, none⟩) dl dc)) (hy : ev L y = some (.slice ax rows.length sc)) (hr0 : ∀ w, St H R w → RowsA ax s rows w) (hl : ∀ q ∈ rows, q.length = s) (hle : rows.length ≤ dl)
    (h1 : rows.flatten.all (·.oneCell') = true) (hq : rows ≠ [] → od = q) (hb : od + rows.flatten.length ≤ l.length) (hd : Nat.blt d n = true)
    [m : Mem1 b (cel e2 l) H] [rp : Rep [(b, cel e2 l)] [(b, cel e2 (spl l q rows.flatten))] H H']
    (h : Sy n ((d, .int .i64 rows.length) :: L) D H' R K) : Sy n L D H R (stp P r ops i K) := fun a w ha hD hs => by
  have hsp : spl l q rows.flatten = spl l od rows.flatten := by
    rcases rows with _ | ⟨r0, rs⟩
    · unfold spl; simp
    · rw [hq (by simp)]
  obtain ⟨ie, hu, hi, rfl⟩ := Z1v hT
  have hr := Z5U (P := P) (sc := sc) (hr0 w hs) hl hle
  have hst := Z3p (P := P) (e := e2) h1 hb (hs.held _ m.mem)
  rw [← hsp] at hst
  refine Zs ho (Ze _ rfl _) (v := .int .i64 rows.length) (w' := { w with heap := w.heap.setIfInBounds b (cel e2 (spl l q rows.flatten)) }) ?_
    (h _ _ (ha.put (by simpa using hd) _) hD (hs.rep (F := [(b, cel e2 l)]) (F' := [(b, cel e2 (spl l q rows.flatten))]) fun T hT => St.set hT))
  simp only [execOp, resolve, invoke, builtin, Sem.run_bind, Sem.run_pure, Result.andThen, List.map_toArray, List.map_cons, List.map_nil, ha.reads _ _ hx, ha.reads _ _ hy]
  have e1 : (Builtin.copy_ #[T, T2] ty #[.slice (some ⟨b, od, none⟩) dl dc, .slice ax rows.length sc]).run P w = .ok (goInt (rows.length : Nat)) { w with heap := w.heap.setIfInBounds b (cel e2 (spl l q rows.flatten)) } := by
    have e3 : (Builtin.firstCells ie.size rows.length (.slice ax rows.length sc)).run P w = .ok rows.flatten.toArray w := by
      rw [show Nat.min rows.length dl = rows.length from Nat.min_eq_left hle] at hr; exact hr
    simp [Builtin.copy_, run_underlying hu, Builtin.lenOf, sizeOf, typeInfo, hi, e3, hst, Nat.min_eq_left hle]
  rw [e1]
  rfl
end cpy
theorem Zi0 (x h : Int) : ((bif decide (x < h) then (-1 : Int) else bif decide (h < x) then 1 else 0) < 0 ↔ x < h) ∧ ((bif decide (x < h) then (-1 : Int) else bif decide (h < x) then 1 else 0) = 0 ↔ x = h) := by
  by_cases h1 : x < h
  · rw [decide_eq_true h1]; simp only [cond_true]; omega
  · by_cases h2 : h < x
    · rw [decide_eq_false h1, decide_eq_true h2]; simp only [cond_true, cond_false]; omega
    · rw [decide_eq_false h1, decide_eq_false h2]; show ((0 : Int) < 0 ↔ _) ∧ ((0 : Int) = 0 ↔ _); exact ⟨by constructor <;> intro h9 <;> omega, by constructor <;> intro h9 <;> omega⟩
theorem Z1X {a : Option Addr} {sz k p : Nat} {rows : List (List Value)} {w : World} (h : RowsA a sz rows w) (hk : rows.length ≤ k) : RowsA (if k = p then a else a.map (·.add (p * sz))) sz (rows.drop p) w := fun i row hi => by
  rw [List.getElem?_drop] at hi
  have hl := (List.getElem?_eq_some_iff.1 hi).1
  obtain ⟨h1, b, off, rfl, h2⟩ := h (p + i) row hi
  rw [if_neg (by omega)]
  refine ⟨h1, b, off + p * sz, by show some ((⟨b, off, none⟩ : Addr).add (p * sz)) = _; rw [ZQ], fun j x hx => ?_⟩
  have := h2 j x hx
  rw [show off + p * sz + i * sz + j = off + (p + i) * sz + j from by rw [Nat.add_mul]; omega]
  exact this
theorem Z85 {A B C : List Value} {n : Nat} (h : n = A.length) : spl (A ++ B) n C = A ++ (C ++ B.drop C.length) := by
  subst h
  unfold spl
  rw [List.take_left, List.drop_append, List.append_assoc]
  simp
theorem Z8O {Z A C B : List Value} {p q : Nat} (hp : p = A.length) (hq : q = A.length + C.length) (hZ : Z.length = A.length + C.length + B.length) : spl (spl (spl Z 0 A) p C) q B = A ++ (C ++ B) := by
  have e1 : spl Z 0 A = A ++ Z.drop A.length := by unfold spl; simp
  have e2 : A ++ (C ++ (Z.drop A.length).drop C.length) = (A ++ C) ++ (Z.drop A.length).drop C.length := by rw [List.append_assoc]
  rw [e1, Z85 hp, e2, Z85 (by rw [hq, List.length_append])]
  rw [List.drop_drop, List.drop_drop, List.drop_eq_nil_of_le (by omega), List.append_nil, List.append_assoc]
def Wt.addC (w : Wt) (c : Cnt) : Wt := { w with counts := w.counts.take (w.pos c.hour) ++ c :: w.counts.drop (w.pos c.hour) }
theorem Z2x (l : List Cnt) : ∀ r ∈ crows l, r.length = 3 := fun r hr => by obtain ⟨x, _, rfl⟩ := List.mem_map.1 hr; rfl
theorem Z0R (l : List Cnt) : (crows l).flatten.length = l.length * 3 := by rw [Z00 (Z2x l), cr_len]
theorem Z7b (l : List Cnt) : (crows l).flatten.all (·.oneCell') = true := List.all_eq_true.2 fun v hv => by
  obtain ⟨r, hr, h2⟩ := List.mem_flatten.1 hv
  obtain ⟨x, _, rfl⟩ := List.mem_map.1 hr
  simp only [crow, List.mem_cons, List.not_mem_nil, or_false] at h2
  rcases h2 with rfl | rfl | rfl <;> rfl
theorem Z11 (n : Nat) (a b c : Value) : (Z0Y n [a, b, c]).length = n * 3 := by simp [Z0Y]
theorem Z7e {w : Wt} {c : Cnt} {x y z : Value} : spl (spl (spl (Z0Y (w.counts.length + 1) [x, y, z]) 0 (crows (w.counts.take (w.pos c.hour))).flatten) (0 + ((w.pos c.hour : Nat) : Int).toNat * 3) (crow c)) ((w.pos c.hour + 1) * 3) (crows (w.counts.drop (w.pos c.hour))).flatten = (crows (w.addC c).counts).flatten := by
  have hp : w.pos c.hour ≤ w.counts.length := Z1h _
  rw [Nat.zero_add, Int.toNat_natCast, Z8O (by rw [Z0R, List.length_take]; omega) (by rw [Z0R, List.length_take, show (crow c).length = 3 from rfl]; omega) (by rw [Z11, Z0R, Z0R, List.length_take, List.length_drop, show (crow c).length = 3 from rfl]; omega)]
  simp [Wt.addC, crows]
theorem Z8r {l vs : List Value} {off : Nat} (h : off + vs.length ≤ l.length) : (spl l off vs).length = l.length := by
  unfold spl
  simp only [List.length_append, List.length_take, List.length_drop]; omega
theorem Z7Q {w : Wt} {c : Cnt} {x y z : Value} : (spl (spl (Z0Y (w.counts.length + 1) [x, y, z]) 0 (crows (w.counts.take (w.pos c.hour))).flatten) (0 + ((w.pos c.hour : Nat) : Int).toNat * 3) (crow c)).length = (w.counts.length + 1) * 3 := by
  have hp : w.pos c.hour ≤ w.counts.length := Z1h _
  have e : (spl (Z0Y (w.counts.length + 1) [x, y, z]) 0 (crows (w.counts.take (w.pos c.hour))).flatten).length = (w.counts.length + 1) * 3 := by
    rw [Z8r (by rw [Z0R, Z11, List.length_take]; omega), Z11]
  rw [Z8r (by rw [e, Int.toNat_natCast]; show _ + 3 ≤ _; omega), e]
theorem addC_len {w : Wt} {c : Cnt} : (w.addC c).counts.length = w.counts.length + 1 := by
  have hp : w.pos c.hour ≤ w.counts.length := Z1h _
  simp [Wt.addC]; omega
theorem Z4Y (xs : List Bkg) (a : Option Addr) (c : Nat) (hl : xs.length ≤ 1000000) (H : Z7) (R : Z5) [hR : MemRows a 2 (bkrows xs) R] :
    Fn Tryz.prog 64 [.slice a xs.length c] H R (fun v H' R' => ∃ o : OSl 131 2 (bkrows xs), v = o.fs ∧ H' = o.G ++ H ∧ R' = R) := by
 refine Z8 Tryz.func64 rfl Tryz.ntmps64 rfl ?_
 refine sqt 1 rfl (pur 1 rfl (Z0 (sqt 2 rfl (pur 1 rfl (sp rfl (PE.eqlNil Z4E rfl rfl) rfl ?_)))))
 refine Z1 rfl ?_ ?_ <;> intro hc0
 refine Sy.pre (fun w h => Z2w (h.now hR.mem) hc0) (fun hnil => ?_)
 obtain rfl : xs = [] := by simpa [bkrows] using hnil
 refine sqt 1 rfl (pur 1 rfl (Z4 ?_))
 first
   | exact rtA rfl rfl rfl ⟨o2.cast (by simp), rfl, rfl, rfl⟩ idH
   | exact rtA rfl rfl rfl ⟨OSl.nil _ _, rfl, rfl, rfl⟩ idH
 refine Z3 (sqt 4 rfl ?_)
 refine ZcX rfl Zg0 rfl (fun o5 ho5 => ?_)
 refine pur 1 rfl ?_
 refine Zb6 (news := bkrows xs) o5 rfl ZgC rfl rfl (Zae) (by simp [bkrows]) (by simp [Z0o, bkrows, bkrow, Value.oneCell']) ⟨by simp [bkrows]; omega, by simp [bkrows]; omega⟩ rfl ho5 (fun o2 ho2 => ?_)
 refine pur 1 rfl (Z4 ?_)
 first
   | exact rtA rfl rfl rfl ⟨o2.cast (by simp), rfl, rfl, rfl⟩ idH
   | exact rtA rfl rfl rfl ⟨OSl.nil _ _, rfl, rfl, rfl⟩ idH
theorem Z4V (xs : List Spl) (a : Option Addr) (c : Nat) (hl : xs.length ≤ 1000000) (H : Z7) (R : Z5) [hR : MemRows a 3 (sprows xs) R] :
    Fn Tryz.prog 65 [.slice a xs.length c] H R (fun v H' R' => ∃ o : OSl 128 3 (sprows xs), v = o.fs ∧ H' = o.G ++ H ∧ R' = R) := by
 refine Z8 Tryz.func65 rfl Tryz.ntmps65 rfl ?_
 refine sqt 1 rfl (pur 1 rfl (Z0 (sqt 2 rfl (pur 1 rfl (sp rfl (PE.eqlNil Z9Z rfl rfl) rfl ?_)))))
 refine Z1 rfl ?_ ?_ <;> intro hc0
 refine Sy.pre (fun w h => Z2w (h.now hR.mem) hc0) (fun hnil => ?_)
 obtain rfl : xs = [] := by simpa [sprows] using hnil
 refine sqt 1 rfl (pur 1 rfl (Z4 ?_))
 first
   | exact rtA rfl rfl rfl ⟨o2.cast (by simp), rfl, rfl, rfl⟩ idH
   | exact rtA rfl rfl rfl ⟨OSl.nil _ _, rfl, rfl, rfl⟩ idH
 refine Z3 (sqt 4 rfl ?_)
 refine ZcX rfl ZfZ rfl (fun o5 ho5 => ?_)
 refine pur 1 rfl ?_
 refine Zb6 (news := sprows xs) o5 rfl Zga rfl rfl (Zae) (by simp [sprows]) (by simp [Z0o, sprows, sprow, Value.oneCell']) ⟨by simp [sprows]; omega, by simp [sprows]; omega⟩ rfl ho5 (fun o2 ho2 => ?_)
 refine pur 1 rfl (Z4 ?_)
 first
   | exact rtA rfl rfl rfl ⟨o2.cast (by simp), rfl, rfl, rfl⟩ idH
   | exact rtA rfl rfl rfl ⟨OSl.nil _ _, rfl, rfl, rfl⟩ idH
theorem Z08 (xs : List Bkg) (a : Option Addr) (c : Nat) (hl : xs.length ≤ 1000000) (H : Z7) (R : Z5) [hR : MemRows a 2 (bkrows xs) R] : Fn Tryz.prog 64 [.slice a xs.length c] H R (fun v H' R' => ∃ a' c', v = .slice a' xs.length c' ∧ H' = H ∧ R' = RowsA a' 2 (bkrows xs) :: R) := fun w hs => by
  refine CallsIn.mono (Z4Y xs a c hl H R w hs) ?_
  rintro e w' ⟨v, H', R', ⟨o, rfl, rfl, rfl⟩, he, hs'⟩
  obtain ⟨a', c', h1, h2⟩ := o.freeze
  rw [show (bkrows xs).length = xs.length from List.length_map _] at h1
  exact ⟨_, _, _, ⟨a', c', h1, rfl, rfl⟩, he, h2 hs'⟩
theorem Zz (xs : List Spl) (a : Option Addr) (c : Nat) (hl : xs.length ≤ 1000000) (H : Z7) (R : Z5) [hR : MemRows a 3 (sprows xs) R] : Fn Tryz.prog 65 [.slice a xs.length c] H R (fun v H' R' => ∃ a' c', v = .slice a' xs.length c' ∧ H' = H ∧ R' = RowsA a' 3 (sprows xs) :: R) := fun w hs => by
  refine CallsIn.mono (Z4V xs a c hl H R w hs) ?_
  rintro e w' ⟨v, H', R', ⟨o, rfl, rfl, rfl⟩, he, hs'⟩
  obtain ⟨a', c', h1, h2⟩ := o.freeze
  rw [show (sprows xs).length = xs.length from List.length_map _] at h1
  exact ⟨_, _, _, ⟨a', c', h1, rfl, rfl⟩, he, h2 hs'⟩
theorem Zd8 (x : Cnt) (h : Int) (H : Z7) (R : Z5) :
    FnV Tryz.prog 63 [.agg (crow x).toArray, .int .i64 h] H R (.int .i64 (bif decide (x.hour < h) then -1 else bif decide (h < x.hour) then 1 else 0)) := by
 refine Z8 Tryz.func63 rfl Tryz.ntmps63 rfl ?_
 refine sqt 2 rfl (bx rfl rfl rfl (fun b2 => pur 1 rfl (Z0 (Z2 (sqt 5 rfl (sp rfl (PE.fA Z0h rfl) rfl (spL rfl rfl (lh sc3 rfl rfl) rfl (pur 3 rfl ?_))))))))
 refine Z1 rfl ?_ ?_ <;> intro hc0
 refine sqt 1 rfl (pur 1 rfl (Z4 ?_))
 exact rtA rfl rfl rfl ⟨by simp only [ZA]; first | (rw [hc0]; rfl) | (rw [hc0, hc1]; rfl), rfl, rfl⟩ drp
 refine sqt 5 rfl (sp rfl (PE.fA Z0h rfl) rfl (spL rfl rfl (lh sc3 rfl rfl) rfl (pur 3 rfl ?_)))
 refine Z1 rfl ?_ ?_ <;> intro hc1
 refine sqt 1 rfl (pur 1 rfl (Z4 ?_))
 exact rtA rfl rfl rfl ⟨by simp only [ZA]; first | (rw [hc0]; rfl) | (rw [hc0, hc1]; rfl), rfl, rfl⟩ drp
 refine Z3 (sqt 1 rfl (pur 1 rfl (Z4 ?_)))
 exact rtA rfl rfl rfl ⟨by simp only [ZA]; first | (rw [hc0]; rfl) | (rw [hc0, hc1]; rfl), rfl, rfl⟩ drp
set_option maxHeartbeats 600000 in
theorem c_Add (wt : Wt) (a1 a2 a3 : Option Addr) (k1 k2 k3 : Nat) (hw : wt.ok) (hk1 : wt.counts.length ≤ k1) (c : Cnt) (hn : wt.counts.length < 8) (hfr : ∀ x ∈ wt.counts, x.hour ≠ c.hour) (hw2 : (wt.addC c).ok) (H : Z7) (R : Z5) [hR1 : MemRows a1 3 (crows wt.counts) R] [hR2 : MemRows a2 2 (bkrows wt.books) R] [hR3 : MemRows a3 3 (sprows wt.spells) R] :
    Fn Tryz.prog 28 [(wt.v a1 a2 a3 k1 k2 k3), .agg (crow c).toArray] H R (fun v H' R' => ∃ (x1 x2 x3 : Option Addr) (d1 d2 d3 : Nat), v = .tuple #[(wt.addC c).v x1 x2 x3 d1 d2 d3, .int .i64 0] ∧ H' = H ∧ R' = RowsA x1 3 (crows (wt.addC c).counts) :: RowsA x2 2 (bkrows wt.books) :: RowsA x3 3 (sprows wt.spells) :: R) := by
 have hnc := hw.nc
 have hnb := hw.nb
 have hns := hw.ns
 refine Z8 Tryz.func28 rfl Tryz.ntmps28 rfl ?_
 refine sqt 4 rfl (bx rfl rfl rfl (fun b2 => bx rfl rfl rfl (fun b3 => alc rfl Z1w rfl (fun b4 => pur 1 rfl (Z0 (sqt 3 rfl (spL rfl rfl (lhA (wtl wt a1 a2 a3 k1 k2 k3) Z17 rfl rfl rfl) rfl ?_)))))))
 refine clV rfl Zco rfl rfl (Z1l wt a1 a2 a3 k1 k2 k3 hw _ _) ?_
 refine pur 1 rfl (sqt 2 rfl (pur 2 rfl ?_))
 refine Z1 rfl ?_ ?_ <;> intro hc0
 exact absurd hc0 (by simp)
 refine Z3 (Z0 (sqt 4 rfl (sp rfl (PE.fA Zv rfl) rfl (spL rfl rfl (lh ZV rfl rfl) rfl (sp rfl (PE.lenSl Z0m rfl) rfl (pur 1 rfl ?_))))))
 refine Z1 rfl ?_ ?_ <;> intro hc1
 exact absurd hc1 (by simp; omega)
 refine Z3 (sqt 10 rfl (sp rfl (PE.fA Zv rfl) rfl (spL rfl rfl (lh ZV rfl rfl) rfl (sp rfl (PE.fA Z0h rfl) rfl (spL rfl rfl (lh sc3 rfl rfl) rfl ?_)))))
 refine cl rfl Zet rfl rfl (ZhO wt hw a1 k1 63 c.hour ZgT _ _ (fun y hy => ⟨_, Zd8 y c.hour _ _, (Zi0 _ _).1, (Zi0 _ _).2⟩)) ?_
 rintro _ _ R1 ⟨is, rfl, his, _, rfl, hR1⟩
 obtain rfl := hR1.symm
 clear hR1
 have hpl : wt.pos c.hour ≤ wt.counts.length := Z1h _
 have hisf : is = false := by
   cases is with
   | false => rfl
   | true => obtain ⟨y, hy, h2⟩ := his rfl; exact absurd h2 (hfr y (List.mem_of_getElem? hy))
 subst hisf
 refine pur 5 rfl (Z0 (sqt 1 rfl (pur 1 rfl ?_)))
 refine Z1 rfl ?_ ?_ <;> intro hc2
 exact absurd hc2 (by simp)
 refine Z3 (Z0 ?_)
 refine Z8e (ι := (Option Addr × Nat) × (Option Addr × Nat) × Nat × Nat) (fun y => ⟨[(2, .pointer (some ⟨b2, 0, none⟩)), (3, .pointer (some ⟨b3, 0, none⟩)), (4, .pointer (some ⟨b4, 0, none⟩)), (7, .int .i64 (wt.pos c.hour : Nat)), (9, .pointer (some ⟨y.2.2.2, 0, none⟩))], (y.2.2.2, cel 71 [.int .i64 wt.hours, .int .i64 wt.allow, .int .i64 wt.hands, .slice (some ⟨y.2.2.1, 0, none⟩) (wt.counts.length + 1) (wt.counts.length + 1), .slice y.1.1 wt.books.length y.1.2, .slice y.2.1.1 wt.spells.length y.2.1.2]) :: (y.2.2.1, cel 89 (Z0Y (wt.counts.length + 1) [Value.int .i64 0, .int .i64 0, .int .i64 0])) :: (b4, cel 71 [.int .i64 0, .int .i64 0, .int .i64 0, .slice none 0 0, .slice none 0 0, .slice none 0 0]) :: (b3, cel 89 (crow c)) :: (b2, cel 71 (wtl wt a1 a2 a3 k1 k2 k3)) :: H, RowsA y.1.1 2 (bkrows wt.books) :: RowsA y.2.1.1 3 (sprows wt.spells) :: R⟩) ?_ ?_
 refine Zc [0, 1, 0, 4, 0, 16, 0, 64, 192, 0, 512, 1984, 0, 4096, 12288, 28672, 61440, 131071, 0, 524287] (.tk 0 (.ld 1 (.tk 2 (.ld 3 (.tk 4 (.ld 5 (.tk 6 (.ld 7 (.tk 9 (.ld 10 (.tk 12 (.ld 13 (.tk 14 (.tk 15 (.any (.alt 8 (.any (.alt 11 (.any (.alt 16 (.tk 17 (.big 18 (.big 19 .done))) (.alt 18 (.big 16 (.tk 17 (.big 19 .done))) .stop))) (.alt 16 (.any (.alt 11 (.tk 17 (.big 18 (.big 19 .done))) (.alt 18 (.big 11 (.tk 17 (.big 19 .done))) .stop))) (.alt 18 (.any (.alt 11 (.big 16 (.tk 17 (.big 19 .done))) (.alt 16 (.big 11 (.tk 17 (.big 19 .done))) .stop))) .stop)))) (.alt 16 (.any (.alt 8 (.any (.alt 11 (.tk 17 (.big 18 (.big 19 .done))) (.alt 18 (.big 11 (.tk 17 (.big 19 .done))) .stop))) (.alt 18 (.big 8 (.big 11 (.tk 17 (.big 19 .done)))) .stop))) (.alt 18 (.any (.alt 8 (.any (.alt 11 (.big 16 (.tk 17 (.big 19 .done))) (.alt 16 (.big 11 (.tk 17 (.big 19 .done))) .stop))) (.alt 16 (.big 8 (.big 11 (.tk 17 (.big 19 .done)))) .stop))) .stop)))))))))))))))))) Zo (by kernel_rfl) ?_
 refine tk rfl (PE.fA Z1E rfl) rfl (ld rfl rfl (lh sc3 rfl rfl) rfl (tk rfl (PE.fA Z32 rfl) rfl (ld rfl rfl (lh sc3 rfl rfl) rfl (tk rfl (PE.fA ZW rfl) rfl (ld rfl rfl (lh sc3 rfl rfl) rfl (tk rfl (PE.fA Z1g rfl) rfl (ld rfl rfl (lh Z5o rfl rfl) rfl (tk rfl (PE.fA Z0O rfl) rfl (ld rfl rfl (lh Z1P rfl rfl) rfl (tk rfl (PE.fA Zv rfl) rfl (ld rfl rfl (lh ZV rfl rfl) rfl (tk rfl (PE.lenSl Z0m rfl) rfl (tk rfl (PE.add rfl rfl (by omega)) rfl ?_)))))))))))))
 refine Zx ?_ ?_
 refine cl rfl Z7O rfl rfl (Z08 wt.books a2 k2 (by omega) _ _) ?_
 rintro _ _ R1 ⟨x2, d2, rfl, rfl, hR1⟩
 obtain rfl := hR1.symm
 clear hR1
 refine bg (fun w hs => ⟨(lh ZV rfl rfl) w hs, (lh Z1P rfl rfl) w hs, trivial, (lh sc3 rfl rfl) w hs, (lh sc3 rfl rfl) w hs, (lh sc3 rfl rfl) w hs, trivial⟩) ?_
 refine Zx ?_ ?_
 refine cl rfl Z30 rfl rfl (Zz wt.spells a3 k3 (by omega) _ _) ?_
 rintro _ _ R1 ⟨x3, d3, rfl, rfl, hR1⟩
 obtain rfl := hR1.symm
 clear hR1
 refine bg (fun w hs => ⟨(lh ZV rfl rfl) w hs, trivial, (lh sc3 rfl rfl) w hs, (lh sc3 rfl rfl) w hs, (lh sc3 rfl rfl) w hs, trivial⟩) ?_
 refine Zx ?_ ?_
 rw [show ((wt.counts.length : Int) + 1) = ((wt.counts.length + 1 : Nat) : Int) from by omega]
 refine mkS rfl Z5S Z2p rfl rfl (Nat.le_refl _) ⟨by omega, by omega⟩ rfl (fun b48 => ?_)
 refine bg (fun w hs => ⟨trivial, (lh sc3 rfl rfl) w hs, (lh sc3 rfl rfl) w hs, (lh sc3 rfl rfl) w hs, trivial⟩) ?_
 refine tk rfl (PE.build (out := [.int .i64 wt.hours, .int .i64 wt.allow, .int .i64 wt.hands, .slice (some ⟨b48, 0, none⟩) (wt.counts.length + 1) (wt.counts.length + 1), .slice x2 wt.books.length d2, .slice x3 wt.spells.length d3]) Z5q Z1w rfl rfl) rfl (alc rfl Z1w rfl (fun b9 => ?_))
 refine bg (fun w hs => ⟨(lh sc3 rfl rfl) w hs, (lh sc3 rfl rfl) w hs, (lh sc3 rfl rfl) w hs, trivial⟩) ?_
 refine Z01 (l' := [.int .i64 wt.hours, .int .i64 wt.allow, .int .i64 wt.hands, .slice (some ⟨b48, 0, none⟩) (wt.counts.length + 1) (wt.counts.length + 1), .slice x2 wt.books.length d2, .slice x3 wt.spells.length d3]) rfl rfl rfl Z3f rfl rfl rfl rfl (nl rfl) ?_
 refine bgT ?_
 exact Zq ((x2, d2), (x3, d3), b48, b9) (fun w h => St.sub ((h.pull b48).pull b9))
 refine Zx ?_ ?_
 refine alc rfl Z1w rfl (fun b9 => ?_)
 refine bg (fun w hs => ⟨(lh ZV rfl rfl) w hs, (lh sc3 rfl rfl) w hs, (lh sc3 rfl rfl) w hs, (lh sc3 rfl rfl) w hs, trivial⟩) ?_
 rw [show ((wt.counts.length : Int) + 1) = ((wt.counts.length + 1 : Nat) : Int) from by omega]
 refine mkS rfl Z5S Z2p rfl rfl (Nat.le_refl _) ⟨by omega, by omega⟩ rfl (fun b48 => ?_)
 refine bg (fun w hs => ⟨trivial, (lh sc3 rfl rfl) w hs, (lh sc3 rfl rfl) w hs, (lh sc3 rfl rfl) w hs, trivial⟩) ?_
 refine tk rfl (PE.build (out := [.int .i64 wt.hours, .int .i64 wt.allow, .int .i64 wt.hands, .slice (some ⟨b48, 0, none⟩) (wt.counts.length + 1) (wt.counts.length + 1), .slice x2 wt.books.length d2, .slice x3 wt.spells.length d3]) Z5q Z1w rfl rfl) rfl ?_
 refine Z01 (l' := [.int .i64 wt.hours, .int .i64 wt.allow, .int .i64 wt.hands, .slice (some ⟨b48, 0, none⟩) (wt.counts.length + 1) (wt.counts.length + 1), .slice x2 wt.books.length d2, .slice x3 wt.spells.length d3]) rfl rfl rfl Z3f rfl rfl rfl rfl (nl rfl) ?_
 refine bgT ?_
 exact Zq ((x2, d2), (x3, d3), b48, b9) (fun w h => St.sub ((h.pull b48).pull b9))
 exact ZO
 refine Zx ?_ ?_
 rw [show ((wt.counts.length : Int) + 1) = ((wt.counts.length + 1 : Nat) : Int) from by omega]
 refine mkS rfl Z5S Z2p rfl rfl (Nat.le_refl _) ⟨by omega, by omega⟩ rfl (fun b48 => ?_)
 refine bg (fun w hs => ⟨trivial, (lh Z1P rfl rfl) w hs, (lh sc3 rfl rfl) w hs, (lh sc3 rfl rfl) w hs, (lh sc3 rfl rfl) w hs, trivial⟩) ?_
 refine Zx ?_ ?_
 refine cl rfl Z30 rfl rfl (Zz wt.spells a3 k3 (by omega) _ _) ?_
 rintro _ _ R1 ⟨x3, d3, rfl, rfl, hR1⟩
 obtain rfl := hR1.symm
 clear hR1
 refine bg (fun w hs => ⟨trivial, (lh sc3 rfl rfl) w hs, (lh sc3 rfl rfl) w hs, (lh sc3 rfl rfl) w hs, trivial⟩) ?_
 refine tk rfl (PE.build (out := [.int .i64 wt.hours, .int .i64 wt.allow, .int .i64 wt.hands, .slice (some ⟨b48, 0, none⟩) (wt.counts.length + 1) (wt.counts.length + 1), .slice x2 wt.books.length d2, .slice x3 wt.spells.length d3]) Z5q Z1w rfl rfl) rfl (alc rfl Z1w rfl (fun b9 => ?_))
 refine bg (fun w hs => ⟨(lh sc3 rfl rfl) w hs, (lh sc3 rfl rfl) w hs, (lh sc3 rfl rfl) w hs, trivial⟩) ?_
 refine Z01 (l' := [.int .i64 wt.hours, .int .i64 wt.allow, .int .i64 wt.hands, .slice (some ⟨b48, 0, none⟩) (wt.counts.length + 1) (wt.counts.length + 1), .slice x2 wt.books.length d2, .slice x3 wt.spells.length d3]) rfl rfl rfl Z3f rfl rfl rfl rfl (nl rfl) ?_
 refine bgT ?_
 exact Zq ((x2, d2), (x3, d3), b48, b9) (fun w h => St.sub ((h.pull b48).pull b9))
 refine Zx ?_ ?_
 refine alc rfl Z1w rfl (fun b9 => ?_)
 refine bg (fun w hs => ⟨(lh Z1P rfl rfl) w hs, (lh sc3 rfl rfl) w hs, (lh sc3 rfl rfl) w hs, (lh sc3 rfl rfl) w hs, trivial⟩) ?_
 refine cl rfl Z30 rfl rfl (Zz wt.spells a3 k3 (by omega) _ _) ?_
 rintro _ _ R1 ⟨x3, d3, rfl, rfl, hR1⟩
 obtain rfl := hR1.symm
 clear hR1
 refine bg (fun w hs => ⟨trivial, (lh sc3 rfl rfl) w hs, (lh sc3 rfl rfl) w hs, (lh sc3 rfl rfl) w hs, trivial⟩) ?_
 refine tk rfl (PE.build (out := [.int .i64 wt.hours, .int .i64 wt.allow, .int .i64 wt.hands, .slice (some ⟨b48, 0, none⟩) (wt.counts.length + 1) (wt.counts.length + 1), .slice x2 wt.books.length d2, .slice x3 wt.spells.length d3]) Z5q Z1w rfl rfl) rfl ?_
 refine Z01 (l' := [.int .i64 wt.hours, .int .i64 wt.allow, .int .i64 wt.hands, .slice (some ⟨b48, 0, none⟩) (wt.counts.length + 1) (wt.counts.length + 1), .slice x2 wt.books.length d2, .slice x3 wt.spells.length d3]) rfl rfl rfl Z3f rfl rfl rfl rfl (nl rfl) ?_
 refine bgT ?_
 exact Zq ((x2, d2), (x3, d3), b48, b9) (fun w h => St.sub ((h.pull b48).pull b9))
 exact ZO
 refine Zx ?_ ?_
 refine alc rfl Z1w rfl (fun b9 => ?_)
 refine bg (fun w hs => ⟨(lh ZV rfl rfl) w hs, (lh Z1P rfl rfl) w hs, (lh sc3 rfl rfl) w hs, (lh sc3 rfl rfl) w hs, (lh sc3 rfl rfl) w hs, trivial⟩) ?_
 refine Zx ?_ ?_
 refine cl rfl Z30 rfl rfl (Zz wt.spells a3 k3 (by omega) _ _) ?_
 rintro _ _ R1 ⟨x3, d3, rfl, rfl, hR1⟩
 obtain rfl := hR1.symm
 clear hR1
 refine bg (fun w hs => ⟨(lh ZV rfl rfl) w hs, trivial, (lh sc3 rfl rfl) w hs, (lh sc3 rfl rfl) w hs, (lh sc3 rfl rfl) w hs, trivial⟩) ?_
 rw [show ((wt.counts.length : Int) + 1) = ((wt.counts.length + 1 : Nat) : Int) from by omega]
 refine mkS rfl Z5S Z2p rfl rfl (Nat.le_refl _) ⟨by omega, by omega⟩ rfl (fun b48 => ?_)
 refine bg (fun w hs => ⟨trivial, (lh sc3 rfl rfl) w hs, (lh sc3 rfl rfl) w hs, (lh sc3 rfl rfl) w hs, trivial⟩) ?_
 refine tk rfl (PE.build (out := [.int .i64 wt.hours, .int .i64 wt.allow, .int .i64 wt.hands, .slice (some ⟨b48, 0, none⟩) (wt.counts.length + 1) (wt.counts.length + 1), .slice x2 wt.books.length d2, .slice x3 wt.spells.length d3]) Z5q Z1w rfl rfl) rfl ?_
 refine Z01 (l' := [.int .i64 wt.hours, .int .i64 wt.allow, .int .i64 wt.hands, .slice (some ⟨b48, 0, none⟩) (wt.counts.length + 1) (wt.counts.length + 1), .slice x2 wt.books.length d2, .slice x3 wt.spells.length d3]) rfl rfl rfl Z3f rfl rfl rfl rfl (nl rfl) ?_
 refine bgT ?_
 exact Zq ((x2, d2), (x3, d3), b48, b9) (fun w h => St.sub ((h.pull b48).pull b9))
 refine Zx ?_ ?_
 rw [show ((wt.counts.length : Int) + 1) = ((wt.counts.length + 1 : Nat) : Int) from by omega]
 refine mkS rfl Z5S Z2p rfl rfl (Nat.le_refl _) ⟨by omega, by omega⟩ rfl (fun b48 => ?_)
 refine bg (fun w hs => ⟨trivial, (lh Z1P rfl rfl) w hs, (lh sc3 rfl rfl) w hs, (lh sc3 rfl rfl) w hs, (lh sc3 rfl rfl) w hs, trivial⟩) ?_
 refine cl rfl Z30 rfl rfl (Zz wt.spells a3 k3 (by omega) _ _) ?_
 rintro _ _ R1 ⟨x3, d3, rfl, rfl, hR1⟩
 obtain rfl := hR1.symm
 clear hR1
 refine bg (fun w hs => ⟨trivial, (lh sc3 rfl rfl) w hs, (lh sc3 rfl rfl) w hs, (lh sc3 rfl rfl) w hs, trivial⟩) ?_
 refine tk rfl (PE.build (out := [.int .i64 wt.hours, .int .i64 wt.allow, .int .i64 wt.hands, .slice (some ⟨b48, 0, none⟩) (wt.counts.length + 1) (wt.counts.length + 1), .slice x2 wt.books.length d2, .slice x3 wt.spells.length d3]) Z5q Z1w rfl rfl) rfl ?_
 refine Z01 (l' := [.int .i64 wt.hours, .int .i64 wt.allow, .int .i64 wt.hands, .slice (some ⟨b48, 0, none⟩) (wt.counts.length + 1) (wt.counts.length + 1), .slice x2 wt.books.length d2, .slice x3 wt.spells.length d3]) rfl rfl rfl Z3f rfl rfl rfl rfl (nl rfl) ?_
 refine bgT ?_
 exact Zq ((x2, d2), (x3, d3), b48, b9) (fun w h => St.sub ((h.pull b48).pull b9))
 exact ZO
 exact ZO
 refine Zx ?_ ?_
 rw [show ((wt.counts.length : Int) + 1) = ((wt.counts.length + 1 : Nat) : Int) from by omega]
 refine mkS rfl Z5S Z2p rfl rfl (Nat.le_refl _) ⟨by omega, by omega⟩ rfl (fun b48 => ?_)
 refine bg (fun w hs => ⟨trivial, (lh Z1P rfl rfl) w hs, (lh Z5o rfl rfl) w hs, (lh sc3 rfl rfl) w hs, (lh sc3 rfl rfl) w hs, (lh sc3 rfl rfl) w hs, trivial⟩) ?_
 refine Zx ?_ ?_
 refine cl rfl Z7O rfl rfl (Z08 wt.books a2 k2 (by omega) _ _) ?_
 rintro _ _ R1 ⟨x2, d2, rfl, rfl, hR1⟩
 obtain rfl := hR1.symm
 clear hR1
 refine bg (fun w hs => ⟨(lh Z1P rfl rfl) w hs, trivial, (lh sc3 rfl rfl) w hs, (lh sc3 rfl rfl) w hs, (lh sc3 rfl rfl) w hs, trivial⟩) ?_
 refine Zx ?_ ?_
 refine cl rfl Z30 rfl rfl (Zz wt.spells a3 k3 (by omega) _ _) ?_
 rintro _ _ R1 ⟨x3, d3, rfl, rfl, hR1⟩
 obtain rfl := hR1.symm
 clear hR1
 refine bg (fun w hs => ⟨trivial, (lh sc3 rfl rfl) w hs, (lh sc3 rfl rfl) w hs, (lh sc3 rfl rfl) w hs, trivial⟩) ?_
 refine tk rfl (PE.build (out := [.int .i64 wt.hours, .int .i64 wt.allow, .int .i64 wt.hands, .slice (some ⟨b48, 0, none⟩) (wt.counts.length + 1) (wt.counts.length + 1), .slice x2 wt.books.length d2, .slice x3 wt.spells.length d3]) Z5q Z1w rfl rfl) rfl (alc rfl Z1w rfl (fun b9 => ?_))
 refine bg (fun w hs => ⟨(lh sc3 rfl rfl) w hs, (lh sc3 rfl rfl) w hs, (lh sc3 rfl rfl) w hs, trivial⟩) ?_
 refine Z01 (l' := [.int .i64 wt.hours, .int .i64 wt.allow, .int .i64 wt.hands, .slice (some ⟨b48, 0, none⟩) (wt.counts.length + 1) (wt.counts.length + 1), .slice x2 wt.books.length d2, .slice x3 wt.spells.length d3]) rfl rfl rfl Z3f rfl rfl rfl rfl (nl rfl) ?_
 refine bgT ?_
 exact Zq ((x2, d2), (x3, d3), b48, b9) (fun w h => St.sub ((h.pull b48).pull b9))
 refine Zx ?_ ?_
 refine alc rfl Z1w rfl (fun b9 => ?_)
 refine bg (fun w hs => ⟨(lh Z1P rfl rfl) w hs, (lh sc3 rfl rfl) w hs, (lh sc3 rfl rfl) w hs, (lh sc3 rfl rfl) w hs, trivial⟩) ?_
 refine cl rfl Z30 rfl rfl (Zz wt.spells a3 k3 (by omega) _ _) ?_
 rintro _ _ R1 ⟨x3, d3, rfl, rfl, hR1⟩
 obtain rfl := hR1.symm
 clear hR1
 refine bg (fun w hs => ⟨trivial, (lh sc3 rfl rfl) w hs, (lh sc3 rfl rfl) w hs, (lh sc3 rfl rfl) w hs, trivial⟩) ?_
 refine tk rfl (PE.build (out := [.int .i64 wt.hours, .int .i64 wt.allow, .int .i64 wt.hands, .slice (some ⟨b48, 0, none⟩) (wt.counts.length + 1) (wt.counts.length + 1), .slice x2 wt.books.length d2, .slice x3 wt.spells.length d3]) Z5q Z1w rfl rfl) rfl ?_
 refine Z01 (l' := [.int .i64 wt.hours, .int .i64 wt.allow, .int .i64 wt.hands, .slice (some ⟨b48, 0, none⟩) (wt.counts.length + 1) (wt.counts.length + 1), .slice x2 wt.books.length d2, .slice x3 wt.spells.length d3]) rfl rfl rfl Z3f rfl rfl rfl rfl (nl rfl) ?_
 refine bgT ?_
 exact Zq ((x2, d2), (x3, d3), b48, b9) (fun w h => St.sub ((h.pull b48).pull b9))
 exact ZO
 refine Zx ?_ ?_
 refine alc rfl Z1w rfl (fun b9 => ?_)
 refine bg (fun w hs => ⟨(lh Z1P rfl rfl) w hs, (lh Z5o rfl rfl) w hs, (lh sc3 rfl rfl) w hs, (lh sc3 rfl rfl) w hs, (lh sc3 rfl rfl) w hs, trivial⟩) ?_
 refine cl rfl Z7O rfl rfl (Z08 wt.books a2 k2 (by omega) _ _) ?_
 rintro _ _ R1 ⟨x2, d2, rfl, rfl, hR1⟩
 obtain rfl := hR1.symm
 clear hR1
 refine bg (fun w hs => ⟨(lh Z1P rfl rfl) w hs, trivial, (lh sc3 rfl rfl) w hs, (lh sc3 rfl rfl) w hs, (lh sc3 rfl rfl) w hs, trivial⟩) ?_
 refine cl rfl Z30 rfl rfl (Zz wt.spells a3 k3 (by omega) _ _) ?_
 rintro _ _ R1 ⟨x3, d3, rfl, rfl, hR1⟩
 obtain rfl := hR1.symm
 clear hR1
 refine bg (fun w hs => ⟨trivial, (lh sc3 rfl rfl) w hs, (lh sc3 rfl rfl) w hs, (lh sc3 rfl rfl) w hs, trivial⟩) ?_
 refine tk rfl (PE.build (out := [.int .i64 wt.hours, .int .i64 wt.allow, .int .i64 wt.hands, .slice (some ⟨b48, 0, none⟩) (wt.counts.length + 1) (wt.counts.length + 1), .slice x2 wt.books.length d2, .slice x3 wt.spells.length d3]) Z5q Z1w rfl rfl) rfl ?_
 refine Z01 (l' := [.int .i64 wt.hours, .int .i64 wt.allow, .int .i64 wt.hands, .slice (some ⟨b48, 0, none⟩) (wt.counts.length + 1) (wt.counts.length + 1), .slice x2 wt.books.length d2, .slice x3 wt.spells.length d3]) rfl rfl rfl Z3f rfl rfl rfl rfl (nl rfl) ?_
 refine bgT ?_
 exact Zq ((x2, d2), (x3, d3), b48, b9) (fun w h => St.sub ((h.pull b48).pull b9))
 exact ZO
 refine Zx ?_ ?_
 refine alc rfl Z1w rfl (fun b9 => ?_)
 refine bg (fun w hs => ⟨(lh ZV rfl rfl) w hs, (lh Z1P rfl rfl) w hs, (lh Z5o rfl rfl) w hs, (lh sc3 rfl rfl) w hs, (lh sc3 rfl rfl) w hs, (lh sc3 rfl rfl) w hs, trivial⟩) ?_
 refine Zx ?_ ?_
 refine cl rfl Z7O rfl rfl (Z08 wt.books a2 k2 (by omega) _ _) ?_
 rintro _ _ R1 ⟨x2, d2, rfl, rfl, hR1⟩
 obtain rfl := hR1.symm
 clear hR1
 refine bg (fun w hs => ⟨(lh ZV rfl rfl) w hs, (lh Z1P rfl rfl) w hs, trivial, (lh sc3 rfl rfl) w hs, (lh sc3 rfl rfl) w hs, (lh sc3 rfl rfl) w hs, trivial⟩) ?_
 refine Zx ?_ ?_
 refine cl rfl Z30 rfl rfl (Zz wt.spells a3 k3 (by omega) _ _) ?_
 rintro _ _ R1 ⟨x3, d3, rfl, rfl, hR1⟩
 obtain rfl := hR1.symm
 clear hR1
 refine bg (fun w hs => ⟨(lh ZV rfl rfl) w hs, trivial, (lh sc3 rfl rfl) w hs, (lh sc3 rfl rfl) w hs, (lh sc3 rfl rfl) w hs, trivial⟩) ?_
 rw [show ((wt.counts.length : Int) + 1) = ((wt.counts.length + 1 : Nat) : Int) from by omega]
 refine mkS rfl Z5S Z2p rfl rfl (Nat.le_refl _) ⟨by omega, by omega⟩ rfl (fun b48 => ?_)
 refine bg (fun w hs => ⟨trivial, (lh sc3 rfl rfl) w hs, (lh sc3 rfl rfl) w hs, (lh sc3 rfl rfl) w hs, trivial⟩) ?_
 refine tk rfl (PE.build (out := [.int .i64 wt.hours, .int .i64 wt.allow, .int .i64 wt.hands, .slice (some ⟨b48, 0, none⟩) (wt.counts.length + 1) (wt.counts.length + 1), .slice x2 wt.books.length d2, .slice x3 wt.spells.length d3]) Z5q Z1w rfl rfl) rfl ?_
 refine Z01 (l' := [.int .i64 wt.hours, .int .i64 wt.allow, .int .i64 wt.hands, .slice (some ⟨b48, 0, none⟩) (wt.counts.length + 1) (wt.counts.length + 1), .slice x2 wt.books.length d2, .slice x3 wt.spells.length d3]) rfl rfl rfl Z3f rfl rfl rfl rfl (nl rfl) ?_
 refine bgT ?_
 exact Zq ((x2, d2), (x3, d3), b48, b9) (fun w h => St.sub ((h.pull b48).pull b9))
 refine Zx ?_ ?_
 rw [show ((wt.counts.length : Int) + 1) = ((wt.counts.length + 1 : Nat) : Int) from by omega]
 refine mkS rfl Z5S Z2p rfl rfl (Nat.le_refl _) ⟨by omega, by omega⟩ rfl (fun b48 => ?_)
 refine bg (fun w hs => ⟨trivial, (lh Z1P rfl rfl) w hs, (lh sc3 rfl rfl) w hs, (lh sc3 rfl rfl) w hs, (lh sc3 rfl rfl) w hs, trivial⟩) ?_
 refine cl rfl Z30 rfl rfl (Zz wt.spells a3 k3 (by omega) _ _) ?_
 rintro _ _ R1 ⟨x3, d3, rfl, rfl, hR1⟩
 obtain rfl := hR1.symm
 clear hR1
 refine bg (fun w hs => ⟨trivial, (lh sc3 rfl rfl) w hs, (lh sc3 rfl rfl) w hs, (lh sc3 rfl rfl) w hs, trivial⟩) ?_
 refine tk rfl (PE.build (out := [.int .i64 wt.hours, .int .i64 wt.allow, .int .i64 wt.hands, .slice (some ⟨b48, 0, none⟩) (wt.counts.length + 1) (wt.counts.length + 1), .slice x2 wt.books.length d2, .slice x3 wt.spells.length d3]) Z5q Z1w rfl rfl) rfl ?_
 refine Z01 (l' := [.int .i64 wt.hours, .int .i64 wt.allow, .int .i64 wt.hands, .slice (some ⟨b48, 0, none⟩) (wt.counts.length + 1) (wt.counts.length + 1), .slice x2 wt.books.length d2, .slice x3 wt.spells.length d3]) rfl rfl rfl Z3f rfl rfl rfl rfl (nl rfl) ?_
 refine bgT ?_
 exact Zq ((x2, d2), (x3, d3), b48, b9) (fun w h => St.sub ((h.pull b48).pull b9))
 exact ZO
 refine Zx ?_ ?_
 rw [show ((wt.counts.length : Int) + 1) = ((wt.counts.length + 1 : Nat) : Int) from by omega]
 refine mkS rfl Z5S Z2p rfl rfl (Nat.le_refl _) ⟨by omega, by omega⟩ rfl (fun b48 => ?_)
 refine bg (fun w hs => ⟨trivial, (lh Z1P rfl rfl) w hs, (lh Z5o rfl rfl) w hs, (lh sc3 rfl rfl) w hs, (lh sc3 rfl rfl) w hs, (lh sc3 rfl rfl) w hs, trivial⟩) ?_
 refine cl rfl Z7O rfl rfl (Z08 wt.books a2 k2 (by omega) _ _) ?_
 rintro _ _ R1 ⟨x2, d2, rfl, rfl, hR1⟩
 obtain rfl := hR1.symm
 clear hR1
 refine bg (fun w hs => ⟨(lh Z1P rfl rfl) w hs, trivial, (lh sc3 rfl rfl) w hs, (lh sc3 rfl rfl) w hs, (lh sc3 rfl rfl) w hs, trivial⟩) ?_
 refine cl rfl Z30 rfl rfl (Zz wt.spells a3 k3 (by omega) _ _) ?_
 rintro _ _ R1 ⟨x3, d3, rfl, rfl, hR1⟩
 obtain rfl := hR1.symm
 clear hR1
 refine bg (fun w hs => ⟨trivial, (lh sc3 rfl rfl) w hs, (lh sc3 rfl rfl) w hs, (lh sc3 rfl rfl) w hs, trivial⟩) ?_
 refine tk rfl (PE.build (out := [.int .i64 wt.hours, .int .i64 wt.allow, .int .i64 wt.hands, .slice (some ⟨b48, 0, none⟩) (wt.counts.length + 1) (wt.counts.length + 1), .slice x2 wt.books.length d2, .slice x3 wt.spells.length d3]) Z5q Z1w rfl rfl) rfl ?_
 refine Z01 (l' := [.int .i64 wt.hours, .int .i64 wt.allow, .int .i64 wt.hands, .slice (some ⟨b48, 0, none⟩) (wt.counts.length + 1) (wt.counts.length + 1), .slice x2 wt.books.length d2, .slice x3 wt.spells.length d3]) rfl rfl rfl Z3f rfl rfl rfl rfl (nl rfl) ?_
 refine bgT ?_
 exact Zq ((x2, d2), (x3, d3), b48, b9) (fun w h => St.sub ((h.pull b48).pull b9))
 exact ZO
 exact ZO
 rintro ⟨⟨x2, d2⟩, ⟨x3, d3⟩, b48, b9⟩
 dsimp only
 refine Z0 ?_
 refine Zc [0, 1, 0, 4, 0, 28, 63] (.tk 0 (.ld 1 (.tk 2 (.ld 3 (.tk 4 (.tk 5 (.big 6 .done))))))) Zo (by kernel_rfl) ?_
 refine tk rfl (PE.fA Zv rfl) rfl (ld rfl rfl (lh ZV rfl rfl) rfl (tk rfl (PE.fA Zv rfl) rfl (ld rfl rfl (lh ZV rfl rfl) rfl (Zd 1 rfl (tk rfl (PE.slHi Z7l rfl rfl (by omega)) rfl ?_)))))
 refine Sy.heap (fun w h => St.rowsTake (a := a1) (sz := 3) (rows := crows wt.counts) h (wt.pos c.hour)) ?_
 rw [show (crows wt.counts).take (wt.pos c.hour) = crows (wt.counts.take (wt.pos c.hour)) from by simp [crows, List.map_take]]
 refine Zic (rows := crows (wt.counts.take (wt.pos c.hour))) rfl Z7l rfl (by rw [cr_len, List.length_take, Nat.min_eq_left hpl]; rfl) (Z2x _) (by rw [cr_len, List.length_take]; omega) (Z7b _) (by rw [Z0R, Z11, List.length_take]; omega) rfl ?_
 refine Sy.heap (fun w h => h.ftail) ?_
 refine bgT (sqt 6 rfl (sp rfl (PE.fA Zv rfl) rfl (spL rfl rfl (lh ZV rfl rfl) rfl (pur 1 rfl (spL rfl rfl (lhA (crow c) Z3b rfl (rest := []) rfl rfl) rfl (sp rfl (PE.indexAddr Z5Y rfl rfl (by omega) (by omega)) rfl ?_))))))
 refine sto rfl rfl rfl Zd3 rfl rfl rfl (by rw [Nat.ble_eq]; unfold spl; simp only [List.length_append, List.length_take, List.length_drop, Z11, Z0R]; show 0 + ((wt.pos c.hour : Nat) : Int).toNat * 3 + 3 ≤ _; rw [Int.toNat_natCast]; omega) ?_
 refine Z0 ?_
 refine Zc [0, 1, 0, 4, 15, 0, 32, 0, 224, 511] (.tk 0 (.ld 1 (tks 2 4 (.ld 6 (.tk 7 (.tk 8 (.big 9 .done))))))) Zo (by kernel_rfl) ?_
 refine tk rfl (PE.fA Zv rfl) rfl (ld rfl rfl (lh ZV rfl rfl) rfl (Zd 1 rfl (tk rfl (PE.add rfl rfl (by omega)) rfl ?_)))
 rw [show ((wt.pos c.hour : Nat) : Int) + 1 = ((wt.pos c.hour + 1 : Nat) : Int) from by omega]
 refine tk rfl ((PE.slLoA Z7l rfl rfl (by omega)).to (show _ = Value.slice (some ⟨b48, (if wt.counts.length = wt.pos c.hour then 0 else (wt.pos c.hour + 1) * 3), none⟩) (wt.counts.length + 1 - (wt.pos c.hour + 1)) (wt.counts.length + 1 - (wt.pos c.hour + 1)) from by by_cases h : wt.counts.length = wt.pos c.hour; rw [if_pos (by omega), if_pos h]; rw [if_neg (by omega), if_neg h]; show Value.slice (some ⟨b48, 0 + (wt.pos c.hour + 1) * 3, none⟩) _ _ = _; rw [Nat.zero_add])) rfl ?_
 refine tk rfl (PE.fA Zv rfl) rfl (ld rfl rfl (lh ZV rfl rfl) rfl (Zd 1 rfl (tk rfl (PE.slLoA Z7l rfl rfl (by omega)) rfl ?_)))
 refine Zgg (q := (wt.pos c.hour + 1) * 3) (rows := crows (wt.counts.drop (wt.pos c.hour))) rfl Z7l rfl (by rw [show (crows (wt.counts.drop (wt.pos c.hour))).length = wt.counts.length - wt.pos c.hour from by rw [cr_len, List.length_drop]]; rfl) (fun w hs => by rw [show crows (wt.counts.drop (wt.pos c.hour)) = (crows wt.counts).drop (wt.pos c.hour) from by simp [crows, List.map_drop]]; exact Z1X (hs.now (MemRows.mem (a := a1) (sz := 3))) (by rw [cr_len]; exact hk1)) (Z2x _) (by rw [cr_len, List.length_drop]; omega) (Z7b _) (fun h => if_neg (fun h2 => h (by rw [← h2, List.drop_length]; rfl))) (by rw [Z0R, List.length_drop]; refine Nat.le_trans ?_ (Nat.le_of_eq (Z7Q (w := wt) (c := c) (x := .int .i64 0) (y := .int .i64 0) (z := .int .i64 0)).symm); split <;> omega) rfl ?_
 refine bgT (Z0 (sqt 3 rfl ?_))
 refine Sy.heap (H' := (b9, cel 71 [.int .i64 wt.hours, .int .i64 wt.allow, .int .i64 wt.hands, .slice (some ⟨b48, 0, none⟩) (wt.counts.length + 1) (wt.counts.length + 1), .slice x2 wt.books.length d2, .slice x3 wt.spells.length d3]) :: (b48, cel 89 (crows (wt.addC c).counts).flatten) :: (b4, cel 71 [.int .i64 0, .int .i64 0, .int .i64 0, .slice none 0 0, .slice none 0 0, .slice none 0 0]) :: (b3, cel 89 (crow c)) :: (b2, cel 71 (wtl wt a1 a2 a3 k1 k2 k3)) :: H) (fun w h => by rw [← Z7e (x := .int .i64 0) (y := .int .i64 0) (z := .int .i64 0)]; exact h) ?_
 refine Sy.heap (fun w h => St.rows (sz := 3) (rows := crows (wt.addC c).counts) (rest := []) (by rw [List.append_nil]; exact h.pull b48) (Z2x _)) ?_
 rw [show wt.counts.length + 1 = (wt.addC c).counts.length from addC_len.symm]
 refine spL rfl rfl (lhA (wtl (wt.addC c) (some ⟨b48, 0, none⟩) x2 x3 (wt.addC c).counts.length d2 d3) Z17 rfl rfl rfl) rfl ?_
 refine clV rfl Zco rfl rfl (Z1l (wt.addC c) (some ⟨b48, 0, none⟩) x2 x3 (wt.addC c).counts.length d2 d3 hw2 _ _) ?_
 refine pur 1 rfl (sqt 2 rfl (pur 2 rfl ?_))
 refine Z1 rfl ?_ ?_ <;> intro hc3
 exact absurd hc3 (by simp)
 refine Z3 (sqt 3 rfl (spL rfl rfl (lhA (wtl (wt.addC c) (some ⟨b48, 0, none⟩) x2 x3 (wt.addC c).counts.length d2 d3) Z17 rfl rfl rfl) rfl ?_))
 refine Z01 (l' := wtl (wt.addC c) (some ⟨b48, 0, none⟩) x2 x3 (wt.addC c).counts.length d2 d3) rfl rfl rfl Z3f rfl rfl rfl rfl (nl rfl) ?_
 refine pur 1 rfl (Z4 ?_)
 exact Zu (vs := [_, _]) rfl (.cons (RV.cell rfl (lhA (wtl (wt.addC c) (some ⟨b48, 0, none⟩) x2 x3 (wt.addC c).counts.length d2 d3) Z17 rfl rfl rfl)) (.cons (RV.tmp rfl) .nil)) rfl ⟨_, x2, x3, _, d2, d3, rfl, rfl, rfl⟩ (fun w h => (((h.del b9).del b4).del b3).del b2)
theorem Zfs : cal Tryz.prog 104 = true := by kernel_rfl
theorem Z5M : cal Tryz.prog 162 = true := by kernel_rfl
theorem Zdi : cal Tryz.prog 163 = true := by kernel_rfl
theorem Zd7 : cal Tryz.prog 169 = true := by kernel_rfl
theorem ZM : elN Tryz.prog 47 = some 1 := by kernel_rfl
theorem Z0i : Z1W Tryz.prog 47 = true := by kernel_rfl
def nn (l : List Int) (k : Nat) : Int := l.getD k 0
theorem Z3a {l : List Int} {i j : Nat} {v : Int} (h : i < l.length) : nn (l.set i v) j = bif i == j then v else nn l j := by
  unfold nn
  rw [List.getD_eq_getElem?_getD, List.getD_eq_getElem?_getD, List.getElem?_set]
  by_cases e : i = j
  · subst e; rw [if_pos rfl, if_pos h]; simp
  · rw [if_neg e, show (i == j) = false from by simpa using e]; rfl
theorem Z6n {p q s vs : List Value} (h : q.length = vs.length) : spl (p ++ (q ++ s)) p.length vs = p ++ (vs ++ s) := by
  unfold spl
  rw [List.take_left, show p.length + vs.length = (p ++ q).length by simp [h], ← List.append_assoc p q s, List.drop_left, List.append_assoc]
theorem Z7n {α : Type} {xs : List α} {i : Nat} (hi : i < xs.length) : ∃ A y B, xs = A ++ y :: B ∧ i = A.length := ⟨xs.take i, xs[i], xs.drop (i + 1), by rw [← List.drop_eq_getElem_cons hi, List.take_append_drop], by rw [List.length_take]; omega⟩
theorem irows_flat' (l : List Int) : (irows l).flatten = Zh l := Z18 l
theorem Z4H (l : List Int) : ∀ r ∈ irows l, r.length = 1 := fun r hr => by obtain ⟨z, _, rfl⟩ := List.mem_map.1 hr; rfl
theorem ints_length (l : List Int) : (Zh l).length = l.length := by simp [Zh]
structure InsI (l xs : List Int) (i j : Nat) : Prop where
  perm : xs.Perm l
  le : j ≤ i
  at_ : ∀ p q, p < q → q ≤ i → q ≠ j → nn xs p ≤ nn xs q
structure SrtI (l xs : List Int) (i : Nat) : Prop where
  perm : xs.Perm l
  at_ : ∀ p q, p < q → q < i → nn xs p ≤ nn xs q
theorem SrtI.start (l : List Int) : SrtI l l 1 := ⟨.refl _, fun p q h1 h2 => by omega⟩
theorem SrtI.ins {l xs : List Int} {i : Nat} (h : SrtI l xs i) : InsI l xs i i := ⟨h.perm, Nat.le_refl _, fun p q h1 h2 h3 => h.at_ p q h1 (by omega)⟩
theorem InsI.done {l xs : List Int} {i j : Nat} (h : InsI l xs i j) (hj : j = 0 ∨ nn xs (j - 1) ≤ nn xs j) : SrtI l xs (i + 1) := ⟨h.perm, fun p q h1 h2 => by
  by_cases hq : q = j
  · subst hq
    have h3 : nn xs (q - 1) ≤ nn xs q := hj.resolve_left (by omega)
    by_cases hp : p = q - 1
    · subst hp; exact h3
    · have := h.at_ p (q - 1) (by omega) (by omega) (by omega); omega
  · exact h.at_ p q h1 (by omega) hq⟩
theorem nn_at {xs : List Int} {k : Nat} (h : k < xs.length) : nn xs k = xs[k] := by unfold nn; rw [List.getD_eq_getElem?_getD, List.getElem?_eq_getElem h]; rfl
theorem InsI.swap {l xs : List Int} {i j : Nat} (h : InsI l xs i j) (hj : 0 < j) (hi : i < xs.length) (hlt : nn xs j < nn xs (j - 1)) : InsI l ((xs.set j (nn xs (j - 1))).set (j - 1) (nn xs j)) i (j - 1) := by
  have hle := h.le
  have hv : ∀ q, nn ((xs.set j (nn xs (j - 1))).set (j - 1) (nn xs j)) q = if q = j - 1 then nn xs j else if q = j then nn xs (j - 1) else nn xs q := fun q => by
    rw [Z3a (by rw [List.length_set]; omega), Z3a (by omega)]
    by_cases h1 : q = j - 1
    · subst h1; simp
    · have e1 : (j - 1 == q) = false := by simp; omega
      rw [e1, if_neg h1]
      by_cases h2 : q = j
      · subst h2; simp
      · have e2 : (j == q) = false := by simp; omega
        rw [e2, if_neg h2]; rfl
  refine ⟨?_, by omega, fun p q h1 h2 h3 => ?_⟩
  · have e := @List.set_set_perm Int xs j (j - 1) (by omega) (by omega)
    rw [nn_at (k := j - 1) (by omega), nn_at (k := j) (by omega)]
    exact e.trans h.perm
  · rw [hv p, hv q]
    have A := h.at_ p q h1 h2
    have B := h.at_ p (j - 1)
    have C := h.at_ j q
    have E := h.at_ (j - 1) q
    rw [if_neg h3]
    by_cases hq : q = j
    · rw [if_pos hq]
      split
      · omega
      · rw [if_neg (by omega)]; exact B (by omega) (by omega) (by omega)
    · rw [if_neg hq]
      split
      · exact C (by omega) h2 hq
      · split
        · exact E (by omega) h2 hq
        · exact A hq
theorem int_at {xs : List Int} {junk : List Value} {k : Nat} (h : k < xs.length) : (Zh xs ++ junk)[0 + ((k : Nat) : Int).toNat * 1]? = some (.int .i64 (nn xs k)) := by
  rw [show 0 + ((k : Nat) : Int).toNat * 1 = k by omega, List.getElem?_append_left (by rw [ints_length]; exact h), nn_at h]
  simp [Zh, h]
theorem spl_int {xs : List Int} {junk : List Value} {k : Nat} (h : k < xs.length) (v : Int) : spl (Zh xs ++ junk) (0 + ((k : Nat) : Int).toNat * 1) [.int .i64 v] = Zh (xs.set k v) ++ junk := by
  rw [show 0 + ((k : Nat) : Int).toNat * 1 = k by omega]
  obtain ⟨A, y, B, rfl, rfl⟩ := Z7n h
  have h1 := Z6n (p := Zh A) (q := [.int .i64 y]) (s := Zh B ++ junk) (vs := [.int .i64 v]) rfl
  rw [show (Zh A).length = A.length by simp [Zh]] at h1
  rw [show Zh (A ++ y :: B) ++ junk = Zh A ++ ([.int .i64 y] ++ (Zh B ++ junk)) by simp [Zh], h1]
  simp [Zh]
theorem ZbH {xs : List Int} {k : Nat} (h : k + 1 < xs.length) (hn : xs.Nodup) : nn xs k ≠ nn xs (k + 1) := by
  rw [nn_at (k := k) (by omega), nn_at h]
  exact List.pairwise_iff_getElem.1 hn k (k + 1) (by omega) h (by omega)
theorem Z9l (x : Int) (H : Z7) (R : Z5) :
    FnV Tryz.prog 162 [.int .i64 x] H R (.bool false) := by
 refine Z8 Tryz.func162 rfl Tryz.ntmps162 rfl ?_
 refine sqt 1 rfl (pur 1 rfl (sqt 4 rfl (pur 4 rfl (Z4 ?_))))
 exact rtA rfl rfl rfl ⟨by simp [ZA], rfl, rfl⟩ drp
theorem Zct (x y : Int) (H : Z7) (R : Z5) :
    FnV Tryz.prog 169 [.int .i64 x, .int .i64 y] H R (.bool (decide (x < y))) := by
 refine Z8 Tryz.func169 rfl Tryz.ntmps169 rfl ?_
 refine sqt 1 rfl (pur 1 rfl (sqt 13 rfl (pur 1 rfl ?_)))
 refine clV rfl Z5M rfl rfl (Z9l x _ _) ?_
 refine pur 11 rfl (Z4 ?_)
 exact rtA rfl rfl rfl ⟨rfl, rfl, rfl⟩ drp
theorem ZbK (l : List Int) (b cap : Nat) (junk : List Value) (hl : l.length ≤ 12) (H : Z7) (R : Z5) :
    Fn Tryz.prog 163 [.slice (some ⟨b, 0, none⟩) l.length cap, .int .i64 0, .int .i64 l.length] ((b, cel 3 (Zh l ++ junk)) :: H) R (fun v H' R' => ∃ ys, SrtI l ys l.length ∧ v = .tuple #[] ∧ H' = (b, cel 3 (Zh ys ++ junk)) :: H ∧ R' = R) := by
 refine Z8 Tryz.func163 rfl Tryz.ntmps163 rfl ?_
 refine sqt 3 rfl (pur 1 rfl (sp rfl (PE.add rfl rfl (by omega)) rfl (pur 1 rfl (Z2 ?_))))
 refine Zb (ι := {x : Nat × List Int // 1 ≤ x.1 ∧ x.1 ≤ 13 ∧ SrtI l x.2 x.1}) (fun x => ⟨[(0, .slice (some ⟨b, 0, none⟩) l.length cap), (1, .int .i64 0), (2, .int .i64 l.length), (6, .int .i64 x.1.1)], (b, cel 3 (Zh x.1.2 ++ junk)) :: H, R⟩) (fun x => l.length - x.1.1) ⟨(1, l), by omega, by omega, SrtI.start l⟩ ?_ (fun x => ?_)
 exact Zf idH
 ·
  obtain ⟨⟨i, xs⟩, hi1, hi2, hs⟩ := x
  dsimp only at hi1 hi2 hs ⊢
  have hxl := hs.perm.length_eq
  refine Z0 (sqt 3 rfl (pur 3 rfl ?_))
  refine Z1 rfl ?_ ?_ <;> intro hc0 <;> try simp only [cS] at hc0
  ·
   refine Z3 (Z0 (Z2 (sqt 2 rfl (pur 2 rfl (Z2 ?_)))))
   refine Zb (ι := {x : Nat × List Int // InsI l x.2 i x.1}) (fun x => ⟨[(0, .slice (some ⟨b, 0, none⟩) l.length cap), (1, .int .i64 0), (2, .int .i64 l.length), (6, .int .i64 i), (7, .int .i64 x.1.1)], (b, cel 3 (Zh x.1.2 ++ junk)) :: H, R⟩) (fun x => x.1.1) ⟨(i, xs), hs.ins⟩ ?_ (fun x => ?_)
   exact Zf idH
   ·
    obtain ⟨⟨j, ys⟩, hy⟩ := x
    dsimp only at hy ⊢
    have hyl := hy.perm.length_eq
    have hyj := hy.le
    refine Z0 (Z0 ?_)
    refine Zc [0, 0, 3, 7, 15, 15, 63, 127, 15, 15, 527, 1807, 3855, 8191, 16383] (tks 0 7 (.ld 7 (tks 8 4 (.ld 12 (.big 13 (.tk 14 .done)))))) Zo (by kernel_rfl) ?_
    refine Zd 4 rfl ?_
    refine Zk 19 rfl ?_ ?_ <;> intro g19
    ·
     try simp only [cS] at g19
     refine Zd 2 rfl ?_
     refine tkG rfl rfl rfl rfl (PE.indexAddr ZM rfl rfl (by omega) (by omega)) rfl ?_
     refine ldG rfl rfl rfl rfl rfl (lh sc3 rfl (int_at (by omega))) rfl (Zd 2 rfl ?_)
     refine tkG rfl rfl rfl rfl (PE.sub rfl rfl (by omega)) rfl ?_
     rw [show (j : Int) - 1 = ((j - 1 : Nat) : Int) from by omega]
     refine tkG rfl rfl rfl rfl (PE.indexAddr ZM rfl rfl (by omega) (by omega)) rfl ?_
     refine ldG rfl rfl rfl rfl rfl (lh sc3 rfl (int_at (by omega))) rfl ?_
     refine Z3e rfl rfl rfl rfl Zd7 rfl rfl (Zct _ _ _ _) ?_
     refine bgT (Zd 1 rfl ?_)
     refine Z1 rfl ?_ ?_ <;> intro hc1 <;> try simp only [cS] at hc1
     ·
      refine Z3 (Z0 (Z2 ?_))
      refine Zc [0, 0, 0, 0, 8, 0, 0, 64, 224, 480, 0, 0, 3072, 7168, 16355, 32739, 65535, 131071] (tks 0 9 (.ld 9 (tks 10 3 (.ld 13 (.tk 14 (.big 15 (.tk 16 (.big 17 .done)))))))) Zo (by kernel_rfl) ?_
      refine Zd 4 rfl (tk rfl (PE.sub rfl rfl (by omega)) rfl (Zd 2 rfl (tk rfl (PE.sub rfl rfl (by omega)) rfl ?_)))
      rw [show (j : Int) - 1 = ((j - 1 : Nat) : Int) from by omega]
      refine tk rfl (PE.indexAddr ZM rfl rfl (by omega) (by omega)) rfl (ld rfl rfl (lh sc3 rfl (int_at (by omega))) rfl (Zd 2 rfl (tk rfl (PE.indexAddr ZM rfl rfl (by omega) (by omega)) rfl (ld rfl rfl (lh sc3 rfl (int_at (by omega))) rfl (tk rfl (PE.indexAddr ZM rfl rfl (by omega) (by omega)) rfl ?_)))))
      refine Z01 (l' := Zh ((ys).set j (nn ys (j - 1))) ++ junk) rfl rfl rfl cn3 rfl rfl rfl (spl_int (show j < ys.length by omega) _) (by rw [List.length_append, ints_length]; show 0 + ((j : Nat) : Int).toNat * 1 + 1 ≤ _; have := (show j < ys.length by omega); omega) ?_
      refine bgT (tk rfl (PE.indexAddr ZM rfl rfl (by omega) (by omega)) rfl ?_)
      refine Z01 (l' := Zh ((ys.set j (nn ys (j - 1))).set (j - 1) (nn ys j)) ++ junk) rfl rfl rfl cn3 rfl rfl rfl (spl_int (show j - 1 < (ys.set j (nn ys (j - 1))).length by rw [List.length_set]; omega) _) (by rw [List.length_append, ints_length]; show 0 + (((j - 1) : Nat) : Int).toNat * 1 + 1 ≤ _; have := (show j - 1 < (ys.set j (nn ys (j - 1))).length by rw [List.length_set]; omega); omega) ?_
      refine bgT (sqr 3 rfl (pur 1 rfl (sp rfl (PE.sub rfl rfl (by omega)) rfl (pur 1 rfl ?_))))
      rw [show (j : Int) - 1 = ((j - 1 : Nat) : Int) from by omega]
      exact Z6 ⟨(j - 1, (ys.set j (nn ys (j - 1))).set (j - 1) (nn ys j)), hy.swap (by omega) (by omega) (by omega)⟩ idH
     have hfd := hy.done (.inr (by omega))
     refine Z9 (Za (Za (Zl (sqr 3 rfl (pur 1 rfl (sp rfl (PE.add rfl rfl (by omega)) rfl (pur 1 rfl ?_)))))))
     exact Z6 ⟨(i + 1, ys), by omega, by omega, hfd⟩ idH
    try simp only [cS] at g19
    have hfd := hy.done (.inl (by omega))
    refine Zd 3 rfl ?_
    refine ldN rfl rfl rfl rfl rfl rfl rfl rfl ?_
    refine Zd 4 rfl ?_
    refine ldN rfl rfl rfl rfl rfl rfl rfl rfl ?_
    refine spN rfl rfl rfl rfl rfl rfl rfl rfl ?_
    refine bgT (Zd 1 rfl ?_)
    refine ZC rfl ?_
    refine Z9 (Za (Za (Zl (sqr 3 rfl (pur 1 rfl (sp rfl (PE.add rfl rfl (by omega)) rfl (pur 1 rfl ?_)))))))
    exact Z6 ⟨(i + 1, ys), by omega, by omega, hfd⟩ idH
  have hfin : SrtI l xs l.length := ⟨hs.perm, fun p q h1 h2 => hs.at_ p q h1 (by omega)⟩
  refine Z9 (Za (Za (Zl ?_)))
  exact Z0l (vs := []) rfl .nil rfl ⟨xs, hfin, rfl, rfl, rfl⟩ idH
theorem Zc8 (H : Z7) (R : Z5) :
    FnV Tryz.prog 163 [.slice none 0 0, .int .i64 0, .int .i64 (([] : List Int).length : Nat)] H R (.tuple #[]) := by
 refine Z8 Tryz.func163 rfl Tryz.ntmps163 rfl ?_
 refine sqt 3 rfl (pur 1 rfl (sp rfl (PE.add rfl rfl (by omega)) rfl (pur 1 rfl (Z2 ?_))))
 refine Zb (ι := Unit) (fun _ => ⟨[(2, .int .i64 (([] : List Int).length : Nat)), (6, .int .i64 1)], H, R⟩) (fun x => 0) () ?_ (fun x => ?_)
 exact Zf idH
 refine Z0 (sqt 3 rfl (pur 3 rfl ?_))
 refine Z1 rfl ?_ ?_ <;> intro hc0
 exact absurd hc0 (by simp)
 refine Z9 (Za (Za (Zl ?_)))
 exact Z0l (vs := []) rfl .nil rfl ⟨rfl, rfl, rfl⟩ idH
theorem ZfH (l : List Int) (o : OSl 3 1 (irows l)) (hl : l.length ≤ 12) (H : Z7) (R : Z5) : Fn Tryz.prog 163 [o.fs, .int .i64 0, .int .i64 l.length] (o.G ++ H) R (fun v H' R' => ∃ ys, ∃ o' : OSl 3 1 (irows ys), SrtI l ys l.length ∧ o'.fs = o.fs ∧ v = .tuple #[] ∧ H' = o'.G ++ H ∧ R' = R) := by
  have hir : (irows l).length = l.length := List.length_map _
  rcases o.is with ⟨h1, h2, h3⟩ | ⟨b, cap, junk, h2, h3, hj, hc, hm⟩
  · have hx : l = [] := List.map_eq_nil_iff.1 h1
    subst hx
    rw [h2, h3]
    exact Fn.mono (Zc8 H R) (by rintro v H' R' ⟨rfl, rfl, rfl⟩; exact ⟨[], OSl.nil _ _, ⟨.refl _, fun p q h4 h5 => by simp at h5⟩, rfl, rfl, rfl, rfl⟩)
  · rw [hir] at h2 hj hc
    rw [h2, h3, irows_flat']
    exact Fn.mono (ZbK l b cap junk hl H R) (by
      rintro v H' R' ⟨ys, hs, rfl, rfl, rfl⟩
      have hyl := hs.perm.length_eq
      have hyi : (irows ys).length = l.length := by rw [List.length_map, hyl]
      exact ⟨ys, ⟨.slice (some ⟨b, 0, none⟩) (irows ys).length cap, [(b, cel 3 ((irows ys).flatten ++ junk))], Z4H _, .inr ⟨b, cap, junk, rfl, rfl, by rw [hyi]; exact hj, by rw [hyi]; exact hc, hm⟩⟩, hs, congrArg (fun q => Value.slice (some ⟨b, 0, none⟩) q cap) hyi, rfl, congrArg (fun q => (b, cel 3 (q ++ junk)) :: H) (irows_flat' ys).symm, rfl⟩)
theorem ZfD (l : List Int) (o : OSl 3 1 (irows l)) (hl : l.length ≤ 12) (z : Int) (H : Z7) (R : Z5) :
    Fn Tryz.prog 104 [o.fs, .int .i64 0, .int .i64 l.length, .int .i64 z] (o.G ++ H) R (fun v H' R' => ∃ ys, ∃ o' : OSl 3 1 (irows ys), SrtI l ys l.length ∧ o'.fs = o.fs ∧ v = .tuple #[] ∧ H' = o'.G ++ H ∧ R' = R) := by
 refine Z8 Tryz.func104 rfl Tryz.ntmps104 rfl ?_
 refine sqt 1 rfl (pur 1 rfl (sqt 1 rfl (pur 1 rfl (Z2 ?_))))
 refine Zb (ι := Unit) (fun _ => ⟨[(0, o.fs), (1, .int .i64 0), (2, .int .i64 l.length)], o.G ++ H, R⟩) (fun x => 0) () ?_ (fun x => ?_)
 exact Zf idH
 refine Z2 (sqt 4 rfl (pur 2 rfl (sp rfl (PE.sub rfl rfl (by omega)) rfl (pur 1 rfl (Z0 (sqt 2 rfl (pur 2 rfl ?_)))))))
 refine Z1 rfl ?_ ?_ <;> intro hc0
 refine sqt 4 rfl (pur 3 rfl ?_)
 refine cl rfl Zdi rfl rfl (ZfH l o hl _ _) ?_
 rintro _ _ R1 ⟨ys, o', hs, hof, rfl, rfl, hR1⟩
 obtain rfl := hR1.symm
 clear hR1
 refine Z4 ?_
 exact Zu (vs := []) rfl .nil rfl ⟨ys, o', hs, hof, rfl, rfl, rfl⟩ idH
 simp only [decide_eq_false_iff_not] at hc0
 omega
theorem Z9i (k : Nat) (hk : k ≤ 12) (H : Z7) (R : Z5) :
    Fn Tryz.prog 173 [.int .u64 k] H R (fun v H' R' => ∃ z : Int, v = .int .i64 z ∧ H' = H ∧ R' = R) := by
 refine Z8 Tryz.func173 rfl Tryz.ntmps173 rfl ?_
 refine sqt 1 rfl (pur 1 rfl (Z0 (sqt 2 rfl (pur 1 rfl (sp rfl (PE.geq  rfl rfl) rfl ?_)))))
 refine Z1 rfl ?_ ?_ <;> intro hc0
 simp only [decide_eq_true_eq] at hc0
 omega
 refine Z3 (Z0 (sqt 2 rfl (pur 1 rfl (sp rfl (PE.geq  rfl rfl) rfl ?_))))
 refine Z1 rfl ?_ ?_ <;> intro hc1
 simp only [decide_eq_true_eq] at hc1
 omega
 refine Z3 (Z0 (sqt 2 rfl (pur 1 rfl (sp rfl (PE.geq  rfl rfl) rfl ?_))))
 refine Z1 rfl ?_ ?_ <;> intro hc2
 simp only [decide_eq_true_eq] at hc2
 omega
 refine Z3 (sqt 7 rfl (pur 2 rfl ?_))
 refine sp rfl ((PE.convert Z9q ik5 rfl).to (by rw [Z24 (by omega) (by omega)])) rfl ?_
 refine spE rfl (PE.indexS (m := 256) Z9Y rfl rfl (by kernel_rfl) (by omega)) rfl ?_
 rintro _ ⟨u22, rfl, hu22⟩
 refine sp rfl (PE.conv64 us5 ik3 rfl (by omega)) rfl (sp rfl (PE.add rfl rfl (by omega)) rfl (pur 1 rfl (Z4 ?_)))
 exact rtA rfl rfl rfl ⟨_, rfl, rfl, rfl⟩ idH
theorem ZdL (k : Nat) (hk : k ≤ 12) (H : Z7) (R : Z5) :
    Fn Tryz.prog 105 [.int .u64 k] H R (fun v H' R' => ∃ z : Int, v = .int .i64 z ∧ H' = H ∧ R' = R) := by
 refine Z8 Tryz.func105 rfl Tryz.ntmps105 rfl ?_
 refine sqt 1 rfl (pur 1 rfl (Z0 ?_))
 refine ZC rfl ?_
 refine Z3 (sqt 3 rfl (pur 1 rfl ?_))
 refine cl rfl Z66 rfl rfl (Z9i k hk _ _) ?_
 rintro _ _ R1 ⟨z, rfl, rfl, hR1⟩
 obtain rfl := hR1.symm
 clear hR1
 refine pur 1 rfl (Z4 ?_)
 exact rtA rfl rfl rfl ⟨_, rfl, rfl, rfl⟩ idH
theorem c_Sort (l : List Int) (o : OSl 3 1 (irows l)) (hl : l.length ≤ 12) (H : Z7) (R : Z5) :
    Fn Tryz.prog 48 [o.fs] (o.G ++ H) R (fun v H' R' => ∃ ys, ∃ o' : OSl 3 1 (irows ys), SrtI l ys l.length ∧ o'.fs = o.fs ∧ v = .tuple #[] ∧ H' = o'.G ++ H ∧ R' = R) := by
 obtain ⟨a, c, he, hcc, _⟩ := o.freezeC
 rw [show (irows l).length = l.length from List.length_map _] at he hcc
 refine Z8 Tryz.func48 rfl Tryz.ntmps48 rfl ?_
 refine sqt 3 rfl (pur 1 rfl (sp rfl (PE.lenSl Z0i (congrArg some he)) rfl (pur 1 rfl (sqr 6 rfl (pur 3 rfl ?_)))))
 refine sp rfl ((PE.convert us3 Z6X rfl).to (by rw [Z0J (by omega) (by omega)])) rfl ?_
 refine cl rfl Z60 rfl rfl (ZdL l.length hl _ _) ?_
 rintro _ _ R1 ⟨z, rfl, rfl, hR1⟩
 obtain rfl := hR1.symm
 clear hR1
 refine cl rfl Zfs rfl rfl (ZfD l o hl z _ _) ?_
 rintro _ _ R1 ⟨ys, o', hs, hof, rfl, rfl, hR1⟩
 obtain rfl := hR1.symm
 clear hR1
 exact Z0l (vs := []) rfl .nil rfl ⟨ys, o', hs, hof, rfl, rfl, rfl⟩ idH
def Ris (hs : List Int) : Prop := ∀ q, q + 1 < hs.length → nn hs q < nn hs (q + 1)
theorem srt_ris {l ys : List Int} (h : SrtI l ys l.length) (hn : l.Nodup) : Ris ys := fun q hq => by
  have hl := h.perm.length_eq
  have h1 := h.at_ q (q + 1) (by omega) (by omega)
  have h2 := ZbH hq (h.perm.nodup_iff.2 hn)
  omega
end Go.Proofs.YtjoajfdnlomapaaGreat.Hn
namespace Go.Proofs.YtjoajfdnlomapaaGreat.Hn
set_option linter.unusedSimpArgs false
set_option linter.unusedVariables false
structure Ev where
  t : Int
  hand : Int
  n : Int
def cB (bs : List Bkg) (x : Int) : Int := (bs.map fun b => if b.hour ≤ x then b.sacks else 0).sum
def eS (es : List Ev) (x : Int) : Int := (es.map fun e => if e.t ≤ x then e.n else 0).sum
def eT (es : List Ev) : Int := (es.map fun e => e.n).sum
def eH (es : List Ev) (h : Int) : Int := (es.map fun e => if e.hand = h then e.n else 0).sum
def stB (y z : Int) (bs : List Bkg) : Int := (bs.map fun b => if y < b.hour ∧ b.hour ≤ z then b.sacks else 0).sum
theorem Z4c {y z : Int} (h : y ≤ z) : ∀ bs : List Bkg, stB y z bs = cB bs z - cB bs y
  | [] => rfl
  | b :: bs => by
    have ih := Z4c h bs
    unfold stB cB at ih ⊢
    simp only [List.map_cons, List.sum_cons]
    rw [ih]
    split <;> split <;> split <;> omega
theorem stB_snoc {y z : Int} {bs : List Bkg} {k : Nat} {b : Bkg} (h : bs[k]? = some b) : stB y z (bs.take (k + 1)) = stB y z (bs.take k) + (if y < b.hour ∧ b.hour ≤ z then b.sacks else 0) := by
  unfold stB
  rw [List.take_add_one, h]
  simp
theorem stB_bd {y z : Int} : ∀ {bs : List Bkg}, (∀ b ∈ bs, -20 ≤ b.sacks ∧ b.sacks ≤ 20) → -20 * (bs.length : Int) ≤ stB y z bs ∧ stB y z bs ≤ 20 * (bs.length : Int)
  | [], _ => by simp [stB]
  | b :: bs, h => by
    have ih := stB_bd (y := y) (z := z) (bs := bs) (fun c hc => h c (by simp [hc]))
    have hb := h b (by simp)
    unfold stB at ih ⊢
    simp only [List.map_cons, List.sum_cons, List.length_cons]
    split <;> omega
theorem cB_diff {bs : List Bkg} (h : ∀ b ∈ bs, -20 ≤ b.sacks ∧ b.sacks ≤ 20) (hl : bs.length ≤ 5) (x y : Int) : cB bs x - cB bs y ≤ 100 := by
  rcases Int.le_total x y with h1 | h1
  · have := Z4c h1 bs; have := stB_bd (y := x) (z := y) h; omega
  · have := Z4c h1 bs; have := stB_bd (y := y) (z := x) h; omega
theorem Zdf {es : List Ev} (h : ∀ e ∈ es, 0 ≤ e.n) (x : Int) : 0 ≤ eS es x ∧ eS es x ≤ eT es := by
  induction es with
  | nil => simp [eS, eT]
  | cons e es ih =>
    have h1 := ih (fun c hc => h c (by simp [hc]))
    have h2 := h e (by simp)
    unfold eS eT at h1 ⊢
    simp only [List.map_cons, List.sum_cons]
    split <;> omega
theorem ZeW {es : List Ev} {y : Int} (h : ∀ e ∈ es, e.t ≤ y) : eS es y = eT es := by
  induction es with
  | nil => rfl
  | cons e es ih =>
    have h1 := ih (fun c hc => h c (by simp [hc]))
    have h2 := h e (by simp)
    unfold eS eT at h1 ⊢
    simp only [List.map_cons, List.sum_cons]
    rw [if_pos h2, h1]
theorem ZcG (es : List Ev) (e : Ev) (x : Int) : eS (es ++ [e]) x = eS es x + (if e.t ≤ x then e.n else 0) := by simp [eS]
theorem Z8E (es : List Ev) (e : Ev) : eT (es ++ [e]) = eT es + e.n := by simp [eT]
theorem ZcJ (es : List Ev) (e : Ev) (h : Int) : eH (es ++ [e]) h = eH es h + (if e.hand = h then e.n else 0) := by simp [eH]
theorem Z7x {l : List Int} {i j : Nat} {v : Int} (h : i < l.length) : na0 (l.set i v) j = if i = j then v else na0 l j := by
  unfold na0
  rw [List.getD_eq_getElem?_getD, List.getD_eq_getElem?_getD, List.getElem?_set]
  by_cases e : i = j
  · subst e; rw [if_pos rfl, if_pos rfl, if_pos h]; rfl
  · rw [if_neg e, if_neg e]
structure TIw (al : Int) (bs : List Bkg) (sp : List Spl) (cs : List Cnt) (p y v : Int) (tk : List Int) (K : Int) (Z : Int → Int) (es : List Ev) : Prop where
  zm : ∀ x x', x ≤ x' → 0 ≤ Z x' - Z x ∧ Z x' - Z x ≤ al * x' - al * x
  z0 : ∀ x, 0 ≤ Z x
  zy : ∀ x, y ≤ x → Z x = Z y
  ev : ∀ e ∈ es, 0 ≤ e.n ∧ e.t ≤ y ∧ ∃ s ∈ sp, s.hand = e.hand ∧ s.fr < e.t ∧ e.t ≤ s.to
  up : ∀ x, K + cB bs x ≤ 500
  dn : ∀ x, 0 ≤ K + cB bs x - Z y - eT es
  cur : v = K + cB bs y - Z y - eT es
  tk : ∀ h : Nat, h < tk.length → na0 tk h = eH es h
  cnt : ∀ c ∈ cs, c.hour ≤ p ∧ c.lo ≤ K + cB bs c.hour - Z c.hour - eS es c.hour ∧ K + cB bs c.hour - Z c.hour - eS es c.hour ≤ c.hi
  py : p ≤ y
def TI (al : Int) (bs : List Bkg) (sp : List Spl) (cs : List Cnt) (p y v : Int) (tk : List Int) : Prop := ∃ K Z es, TIw al bs sp cs p y v tk K Z es
variable {al : Int} {bs : List Bkg} {sp : List Spl} {cs : List Cnt} {p y v : Int} {tk : List Int}
theorem TI.bd (h : TI al bs sp cs p y v tk) : 0 ≤ v ∧ v ≤ 500 := by
  obtain ⟨K, Z, es, h⟩ := h
  have h1 := h.cur; have h2 := h.up y; have h3 := h.dn y; have h4 := h.z0 y
  have h5 := Zdf (fun e he => (h.ev e he).1) y
  omega
theorem TI.start (hB : ∀ x x', cB bs x - cB bs x' ≤ 100) (hv : 250 ≤ v ∧ v ≤ 400) (hal : 0 ≤ al) (n : Nat) : TI al bs sp [] y y v (List.replicate n 0) := by
  refine ⟨v - cB bs y, fun _ => 0, [], ⟨fun x x' hx => ⟨by omega, ?_⟩, fun _ => Int.le_refl _, fun _ _ => rfl, fun e he => (by cases he), fun x => ?_, fun x => ?_, ?_, fun h hh => ?_, fun c hc => (by cases hc), Int.le_refl _⟩⟩
  · have := Int.mul_le_mul_of_nonneg_left hx hal; omega
  · have := hB x y; omega
  · have := hB y x; simp only [eT, List.map_nil, List.sum_nil]; omega
  · simp only [eT, List.map_nil, List.sum_nil]; omega
  · simp [na0, eH, List.getD_eq_getElem?_getD, List.getElem?_replicate]; split <;> rfl
theorem TI.eat (h : TI al bs sp cs p p v tk) (hal : 0 ≤ al) (hB : ∀ x x', cB bs x - cB bs x' ≤ 100) (hy : p < y) {z : Int} (hz : 0 ≤ z) (hz1 : z ≤ al * (y - p)) (hz2 : z ≤ max 0 (v + stB p y bs - 100)) : TI al bs sp cs p y (v + stB p y bs - z) tk := by
  rw [Z4c (Int.le_of_lt hy)] at *
  obtain ⟨K, Z, es, h⟩ := h
  rw [Int.mul_sub] at hz1
  have hcur := h.cur
  have g0 : ∀ x, x ≤ p → al * x ≤ al * p := fun x hx => Int.mul_le_mul_of_nonneg_left hx hal
  have g1 : ∀ x x', x ≤ x' → al * x ≤ al * x' := fun x x' hx => Int.mul_le_mul_of_nonneg_left hx hal
  refine ⟨K, fun x => Z x + max 0 (min z (al * x - al * p)), es, ⟨fun x x' hx => ?_, fun x => ?_, fun x hx => ?_, fun e he => ?_, h.up, fun x => ?_, ?_, h.tk, fun c hc => ?_, Int.le_of_lt hy⟩⟩
  · have k1 := h.zm x x' hx
    have k2 := g1 x x' hx
    rcases Int.le_total x' p with hp | hp
    · have k3 := g0 x' hp
      have k4 := g0 x (by omega)
      omega
    · have k3 := h.zy x' hp
      have k5 := g1 p x' hp
      rcases Int.le_total x p with hp2 | hp2
      · have k4 := g0 x hp2
        have k6 := h.zm x p hp2
        omega
      · have k4 := h.zy x hp2
        have k6 := g1 p x hp2
        omega
  · have := h.z0 x; (try dsimp only); omega
  · have k1 := h.zy x (by omega); have k2 := h.zy y (by omega)
    have k3 := g1 y x hx
    try dsimp only
    omega
  · obtain ⟨a, b, c⟩ := h.ev e he; exact ⟨a, by omega, c⟩
  · have k1 := h.zy y (by omega); have k2 := h.dn x; have k3 := hB y x
    try dsimp only
    omega
  · have k1 := h.zy y (by omega)
    try dsimp only
    omega
  · obtain ⟨k1, k2, k3⟩ := h.cnt c hc
    have k4 := g0 c.hour k1
    try dsimp only
    exact ⟨k1, by omega, by omega⟩
theorem TI.steal (h : TI al bs sp cs p y v tk) (hB : ∀ x x', cB bs x - cB bs x' ≤ 100) (hpy : p < y) {s : Spl} (hs : s ∈ sp) (h1 : s.fr < y) (h2 : p < s.to) (h3 : s.fr < s.to) {d : Nat} (hh : s.hand = d) (hd : d < tk.length) {n : Int} (hn : 0 ≤ n) (hn2 : n ≤ max 0 (v - 100)) : TI al bs sp cs p y (v - n) (tk.set d (na0 tk d + n)) := by
  obtain ⟨K, Z, es, h⟩ := h
  have hcur := h.cur
  refine ⟨K, Z, es ++ [⟨max p s.fr + 1, d, n⟩], ⟨h.zm, h.z0, h.zy, fun e he => ?_, h.up, fun x => ?_, ?_, fun j hj => ?_, fun c hc => ?_, h.py⟩⟩
  · rcases List.mem_append.1 he with he | he
    · exact h.ev e he
    · rw [List.mem_singleton.1 he]
      exact ⟨hn, by (try dsimp only); omega, s, hs, hh, by (try dsimp only); omega, by (try dsimp only); omega⟩
  · rw [Z8E]
    have k2 := h.dn x; have k3 := hB y x
    try dsimp only
    omega
  · rw [Z8E]
    try dsimp only
    omega
  · rw [List.length_set] at hj
    rw [Z7x hd, ZcJ, h.tk d hd, h.tk j hj]
    try dsimp only
    by_cases e : d = j
    · subst e; rw [if_pos rfl, if_pos rfl]
    · rw [if_neg e, if_neg (fun e2 => e (by omega)), Int.add_zero]
  · obtain ⟨k1, k2, k3⟩ := h.cnt c hc
    rw [ZcG, if_neg (by (try dsimp only); omega), Int.add_zero]
    exact ⟨k1, k2, k3⟩
theorem TI.count (h : TI al bs sp cs p y v tk) {lo hi : Int} (hlo : lo ≤ v) (hhi : v ≤ hi) : TI al bs sp (cs ++ [⟨y, lo, hi⟩]) y y v tk := by
  obtain ⟨K, Z, es, h⟩ := h
  have hcur := h.cur
  have hall := ZeW (fun e he => (h.ev e he).2.1)
  refine ⟨K, Z, es, ⟨h.zm, h.z0, h.zy, h.ev, h.up, h.dn, h.cur, h.tk, fun c hc => ?_, Int.le_refl _⟩⟩
  have hpy := h.py
  rcases List.mem_append.1 hc with hc | hc
  · obtain ⟨k1, k2, k3⟩ := h.cnt c hc
    exact ⟨by omega, k2, k3⟩
  · rw [List.mem_singleton.1 hc]
    try dsimp only
    omega
structure Tru (w : Wt) (K : Int) (Z : Int → Int) (es : List Ev) : Prop where
  zm : ∀ x x', x ≤ x' → 0 ≤ Z x' - Z x ∧ Z x' - Z x ≤ w.allow * x' - w.allow * x
  ev : ∀ e ∈ es, 0 ≤ e.n ∧ ∃ s ∈ w.spells, s.hand = e.hand ∧ s.fr < e.t ∧ e.t ≤ s.to
  stock : ∀ x, 0 ≤ K + cB w.books x - Z x - eS es x ∧ K + cB w.books x - Z x - eS es x ≤ 500
  cnt : ∀ c ∈ w.counts, c.lo ≤ K + cB w.books c.hour - Z c.hour - eS es c.hour ∧ K + cB w.books c.hour - Z c.hour - eS es c.hour ≤ c.hi
theorem TI.tru {w : Wt} (h : TI w.allow w.books w.spells w.counts p y v tk) : ∃ K Z es, Tru w K Z es ∧ ∀ d : Nat, d < tk.length → na0 tk d = eH es d := by
  obtain ⟨K, Z, es, h⟩ := h
  refine ⟨K, Z, es, ⟨h.zm, fun e he => ?_, fun x => ?_, fun c hc => (h.cnt c hc).2⟩, h.tk⟩
  · obtain ⟨a, _, c⟩ := h.ev e he; exact ⟨a, c⟩
  · have k1 := h.up x; have k2 := h.dn x; have k3 := h.z0 x
    have k4 := Zdf (fun e he => (h.ev e he).1) x
    have k5 : Z x ≤ Z y := by
      rcases Int.le_total x y with h1 | h1
      · have := h.zm x y h1; omega
      · rw [h.zy x h1]; exact Int.le_refl _
    omega
open Go
theorem Zbw (n i : Nat) : na0 (List.replicate n (0 : Int)) i = 0 := by
  unfold na0
  rw [List.getD_eq_getElem?_getD, List.getElem?_replicate]; split <;> rfl
theorem Zbn {w : Wt} {s : List Int} {b : Bkg} : (w.bk1 s b).length = s.length := by
  unfold Wt.bk1
  cases (decide (0 < w.pos b.hour) && decide (w.pos b.hour < w.counts.length)) <;> simp
theorem Z5G {w : Wt} {i : Nat} (hi : i < 8) : ∀ (bs : List Bkg) (s : List Int), s.length = 8 → na0 (bs.foldl w.bk1 s) i = na0 s i + (bs.map fun b => if w.pos b.hour = i + 1 ∧ i + 1 < w.counts.length then b.sacks else 0).sum
  | [], s, _ => by simp
  | b :: bs, s, h => by
    rw [List.foldl_cons, Z5G hi bs _ (by rw [Zbn]; exact h)]
    simp only [List.map_cons, List.sum_cons]
    have : na0 (w.bk1 s b) i = na0 s i + (if w.pos b.hour = i + 1 ∧ i + 1 < w.counts.length then b.sacks else 0) := by
      unfold Wt.bk1
      by_cases h1 : 0 < w.pos b.hour ∧ w.pos b.hour < w.counts.length
      · rw [decide_eq_true h1.1, decide_eq_true h1.2]
        show na0 (s.set _ _) i = _
        by_cases h2 : w.pos b.hour - 1 = i
        · rw [if_pos (by omega), ← h2]
          by_cases h3 : w.pos b.hour - 1 < s.length
          · rw [Z7x h3, if_pos rfl]
          · omega
        · rw [if_neg (by omega), Int.add_zero]
          by_cases h3 : w.pos b.hour - 1 < s.length
          · rw [Z7x h3, if_neg h2]
          · rw [List.set_eq_of_length_le (by omega)]
      · have h2 : (decide (0 < w.pos b.hour) && decide (w.pos b.hour < w.counts.length)) = false := by
          simp only [Bool.and_eq_false_iff, decide_eq_false_iff_not]; omega
        rw [h2, if_neg (by omega), Int.add_zero]; rfl
    rw [this]; omega
theorem ZbY {w : Wt} (hw : w.ok) {h : Int} {i : Nat} (hi : i + 1 < w.counts.length) : w.pos h = i + 1 ↔ (w.cn i).hour < h ∧ h ≤ (w.cn (i + 1)).hour := by
  constructor
  · intro hp
    have h1 : i < w.counts.findIdx (fun c => decide (h ≤ c.hour)) := by show i < w.pos h; omega
    have h2 := List.not_of_lt_findIdx h1
    have h3 := List.findIdx_getElem (xs := w.counts) (p := fun c => decide (h ≤ c.hour)) (w := by show w.pos h < _; omega)
    have e : w.counts.findIdx (fun c => decide (h ≤ c.hour)) = i + 1 := hp
    simp only [e] at h3
    have c1 := Z3c (w := w) (List.getElem?_eq_getElem (show i < w.counts.length by omega))
    have c2 := Z3c (w := w) (List.getElem?_eq_getElem hi)
    rw [c1, c2]
    have h4 := of_decide_eq_true h3
    have h5 : w.counts[i].hour < h := by simpa using h2
    omega
  · intro h1
    refine Zb0 (by omega) (fun k hk => ?_) (fun k hk1 hk2 => ?_)
    · rcases Nat.lt_or_ge k i with h2 | h2
      · have := Z4e hw h2 (by omega); omega
      · obtain rfl : k = i := by omega
        exact h1.1
    · rcases Nat.lt_or_ge (i + 1) k with h2 | h2
      · have := Z4e hw h2 hk2; omega
      · obtain rfl : k = i + 1 := by omega
        exact h1.2
theorem Z2T {w : Wt} (hw : w.ok) {i j : Nat} (h : i ≤ j) (hj : j < w.counts.length) : (w.cn i).hour ≤ (w.cn j).hour := by
  rcases Nat.lt_or_ge i j with h2 | h2
  · exact Int.le_of_lt (Z4e hw h2 hj)
  · obtain rfl : i = j := by omega
    exact Int.le_refl _
theorem Zbf {w : Wt} (hw : w.ok) {f : Nat} : ∀ k, f + k < w.counts.length → w.bk f (f + k) = cB w.books (w.cn (f + k)).hour - cB w.books (w.cn f).hour
  | 0, _ => by show Z9f _ _ _ = _; rw [Nat.add_zero, Z2O]; omega
  | k + 1, h => by
    have ih := Zbf hw (f := f) k (by omega)
    have hn := hw.nc
    have e1 : w.bk f (f + (k + 1)) = w.bk f (f + k) + na0 w.sums (f + k) := Z39 (f := f) (t := f + k) (by omega)
    rw [e1, ih]
    have e2 : na0 w.sums (f + k) = stB (w.cn (f + k)).hour (w.cn (f + k + 1)).hour w.books := by
      unfold Wt.sums stB
      rw [Z5G (by omega) _ _ List.length_replicate, Zbw, Int.zero_add]
      congr 1
      refine List.map_congr_left fun b _ => ?_
      have hp := ZbY hw (h := b.hour) (i := f + k) (by omega)
      by_cases h9 : (w.cn (f + k)).hour < b.hour ∧ b.hour ≤ (w.cn (f + k + 1)).hour
      · rw [if_pos h9, if_pos ⟨hp.2 h9, by omega⟩]
      · rw [if_neg h9, if_neg (fun h8 => h9 (hp.1 h8.1))]
    rw [e2, Z4c (Z2T hw (by omega) (by omega))]
    rw [show f + (k + 1) = f + k + 1 from rfl]; omega
theorem Z8U {w : Wt} (hw : w.ok) {f t : Nat} (h : f ≤ t) (ht : t < w.counts.length) : w.gap f t = (w.cn f).lo + (cB w.books (w.cn t).hour - cB w.books (w.cn f).hour) - (w.allow * (w.cn t).hour - w.allow * (w.cn f).hour) - (w.cn t).hi := by
  have := Zbf hw (f := f) (t - f) (by omega)
  rw [show f + (t - f) = t by omega] at this
  unfold Wt.gap
  rw [this, Int.mul_sub]
theorem Z6c {w : Wt} {f t x : Nat} : ∀ (l : List Spl) (m : Nat), (l.foldl (Z6V w f t) m).testBit x = (m.testBit x || l.any fun s => w.over f t s && decide (s.hand.toNat = x))
  | [], m => by simp
  | s :: l, m => by
    rw [List.foldl_cons, Z6c l, List.any_cons]
    unfold Z6V
    cases w.over f t s with
    | false => simp
    | true =>
      simp only [cond_true, Nat.testBit_or, Nat.testBit_two_pow, Bool.true_and]
      rw [Bool.or_assoc]
def Wt.B (w : Wt) (f t x : Nat) : Prop := ∃ s ∈ w.spells, s.hand.toNat = x ∧ s.fr < (w.cn t).hour ∧ (w.cn f).hour < s.to
theorem thr_bit {w : Wt} {f t x : Nat} : (w.thr f t).testBit x = true ↔ w.B f t x := by
  unfold Wt.thr
  rw [Z6c]
  simp only [Nat.zero_testBit, Bool.false_or, List.any_eq_true, Wt.over, Bool.and_eq_true, decide_eq_true_eq]
  constructor
  · rintro ⟨s, h1, h2, h3⟩; exact ⟨s, h1, h3, h2.1, h2.2⟩
  · rintro ⟨s, h1, h2, h3, h4⟩; exact ⟨s, h1, ⟨h3, h4⟩, h2⟩
theorem sub_bits {m n : Nat} : m &&& n = m ↔ ∀ x, m.testBit x = true → n.testBit x = true := by
  constructor
  · intro h x hx
    rw [← h, Nat.testBit_and, Bool.and_eq_true] at hx
    exact hx.2
  · intro h
    refine Nat.eq_of_testBit_eq fun i => ?_
    rw [Nat.testBit_and]
    cases hm : m.testBit i with
    | false => rfl
    | true => rw [h i hm]; rfl
theorem and_bits {m n : Nat} : m &&& n ≠ 0 ↔ ∃ x, m.testBit x = true ∧ n.testBit x = true := by
  constructor
  · intro h
    false_or_by_contra
    rename_i h2
    refine h (Nat.eq_of_testBit_eq fun i => ?_)
    rw [Nat.testBit_and, Nat.zero_testBit]
    cases hm : m.testBit i with
    | false => rfl
    | true =>
      cases hn : n.testBit i with
      | false => rfl
      | true => exact absurd ⟨i, hm, hn⟩ h2
  · rintro ⟨x, h1, h2⟩ h
    have : (m &&& n).testBit x = true := by rw [Nat.testBit_and, h1, h2]; rfl
    rw [h, Nat.zero_testBit] at this; cases this
theorem own_iff {w : Wt} {S i : Nat} : w.own S i = true ↔ i + 1 < w.counts.length ∧ ∃ x, w.B i (i + 1) x ∧ S.testBit x = true := by
  unfold Wt.own
  rw [Bool.and_eq_true, decide_eq_true_eq, decide_eq_true_eq, and_bits]
  simp only [thr_bit]
theorem ZaW {w : Wt} (hw : w.ok) {f t f' t' x : Nat} (h : w.B f' t' x) (h1 : f ≤ f') (h2 : t' ≤ t) (h3 : f' < w.counts.length) (h4 : t < w.counts.length) : w.B f t x := by
  obtain ⟨s, a, b, c, d⟩ := h
  have e1 := Z2T hw h1 h3
  have e2 := Z2T hw h2 h4
  exact ⟨s, a, b, by omega, by omega⟩
theorem Z7q {w : Wt} {f : Nat} {y : Int} : ∀ k, f + k < w.counts.length → (w.cn f).hour < y → y ≤ (w.cn (f + k)).hour → ∃ i, f ≤ i ∧ i < f + k ∧ (w.cn i).hour < y ∧ y ≤ (w.cn (i + 1)).hour
  | 0, _, h1, h2 => by rw [Nat.add_zero] at h2; omega
  | k + 1, h, h1, h2 => by
    rcases Int.lt_or_le (w.cn (f + k)).hour y with h3 | h3
    · exact ⟨f + k, by omega, by omega, h3, h2⟩
    · obtain ⟨i, a, b, c, d⟩ := Z7q k (by omega) h1 h3
      exact ⟨i, a, by omega, c, d⟩
theorem Z68 {w : Wt} {f t : Nat} {y : Int} (h : f < t) (ht : t < w.counts.length) (h1 : (w.cn f).hour < y) (h2 : y ≤ (w.cn t).hour) : ∃ i, f ≤ i ∧ i < t ∧ (w.cn i).hour < y ∧ y ≤ (w.cn (i + 1)).hour := by
  obtain ⟨i, a, b, c, d⟩ := Z7q (w := w) (f := f) (y := y) (t - f) (by omega) h1 (by rw [show f + (t - f) = t by omega]; exact h2)
  exact ⟨i, a, by omega, c, d⟩
theorem Zdl {w : Wt} (hw : w.ok) {f t x : Nat} (h : f < t) (ht : t < w.counts.length) (hB : w.B f t x) : ∃ i, f ≤ i ∧ i < t ∧ w.B i (i + 1) x := by
  obtain ⟨s, a, b, c, d⟩ := hB
  have hs := (hw.spl s a).2.2.2
  have hlt := Z4e hw h ht
  obtain ⟨i, i1, i2, i3, i4⟩ := Z68 (y := max (s.fr + 1) ((w.cn f).hour + 1)) h ht (by omega) (by omega)
  exact ⟨i, i1, i2, s, a, b, by omega, by omega⟩
theorem Z5A (own : Nat → Bool) (f T : Nat) : ∀ k, f + k ≤ T → ((List.range' f k).foldl (fun p i => Z4Z own T i p) (T, (-2 : Int)) = (T, -2) ∧ ∀ i, f ≤ i → i < f + k → own i = false) ∨ ∃ b e : Nat, (List.range' f k).foldl (fun p i => Z4Z own T i p) (T, (-2 : Int)) = (b, (e : Int)) ∧ f ≤ b ∧ b ≤ e ∧ e < f + k ∧ own b = true ∧ own e = true ∧ ∀ i, f ≤ i → i < f + k → own i = true → b ≤ i ∧ i ≤ e
  | 0, _ => .inl ⟨rfl, fun i h1 h2 => by omega⟩
  | k + 1, h => by
    have ih := Z5A own f T k (by omega)
    rw [List.range'_1_concat, List.foldl_append]
    simp only [List.foldl_cons, List.foldl_nil]
    cases ho : own (f + k) with
    | false =>
      rw [ZaX ho]
      rcases ih with ⟨h1, h2⟩ | ⟨b, e, h1, h2, h3, h4, h5, h6, h7⟩
      · refine .inl ⟨h1, fun i a b => ?_⟩
        rcases Nat.lt_or_ge i (f + k) with h8 | h8
        · exact h2 i a h8
        · obtain rfl : i = f + k := by omega
          exact ho
      · refine .inr ⟨b, e, h1, h2, h3, by omega, h5, h6, fun i a c d => ?_⟩
        rcases Nat.lt_or_ge i (f + k) with h8 | h8
        · exact h7 i a h8 d
        · obtain rfl : i = f + k := by omega
          rw [ho] at d; cases d
    | true =>
      rw [Zb1 ho]
      rcases ih with ⟨h1, h2⟩ | ⟨b, e, h1, h2, h3, h4, h5, h6, h7⟩
      · rw [h1]
        refine .inr ⟨f + k, f + k, by rw [Nat.min_eq_right (by omega)], by omega, by omega, by omega, ho, ho, fun i a c d => ?_⟩
        rcases Nat.lt_or_ge i (f + k) with h8 | h8
        · rw [h2 i a h8] at d; cases d
        · omega
      · rw [h1]
        refine .inr ⟨b, f + k, by rw [Nat.min_eq_left (by omega)], by omega, by omega, by omega, h5, ho, fun i a c d => ?_⟩
        rcases Nat.lt_or_ge i (f + k) with h8 | h8
        · have := h7 i a h8 d; omega
        · omega
theorem Z2Q (own : Nat → Bool) {f t : Nat} (h : f ≤ t) : (Z1u own f t = (t, -2) ∧ ∀ i, f ≤ i → i < t → own i = false) ∨ ∃ b e : Nat, Z1u own f t = (b, (e : Int)) ∧ f ≤ b ∧ b ≤ e ∧ e < t ∧ own b = true ∧ own e = true ∧ ∀ i, f ≤ i → i < t → own i = true → b ≤ i ∧ i ≤ e := by
  have := Z5A own f t (t - f) (by omega)
  rw [show f + (t - f) = t by omega] at this
  exact this
structure GS (w : Wt) (S e f t b : Nat) : Prop where
  lt : f < t ∧ t < w.counts.length
  be : f ≤ b ∧ b < e ∧ e ≤ t
  first : w.own S b = true
  last : w.own S (e - 1) = true
  mid : ∀ i, f ≤ i → i < t → w.own S i = true → b ≤ i ∧ i + 1 ≤ e
  sub : ∀ x, w.B f t x → S.testBit x = true
  gap : 0 < w.gap f t
theorem Zc1 {w : Wt} {S e f t : Nat} (h : f < t) (ht : t < w.counts.length) (hg : w.good S e (f, t) = true) : GS w S e f t (Z1u (w.own S) f t).1 := by
  simp only [Wt.good, Bool.and_eq_true, decide_eq_true_eq] at hg
  obtain ⟨⟨h1, h2⟩, h3⟩ := hg
  rcases Z2Q (w.own S) (Nat.le_of_lt h) with ⟨h4, _⟩ | ⟨b, e', h4, h5, h6, h7, h8, h9, h10⟩
  · rw [h4] at h1; simp only at h1; omega
  · rw [h4] at h1 ⊢
    simp only at h1 ⊢
    obtain rfl : e = e' + 1 := by omega
    exact ⟨⟨h, ht⟩, ⟨h5, by omega, by omega⟩, h8, h9, fun i a b c => by have := h10 i a b c; omega, fun x hx => sub_bits.1 h2 x (thr_bit.2 hx), h3⟩
theorem Zcv {w : Wt} {S e f t b : Nat} (g : GS w S e f t b) : w.good S e (f, t) = true ∧ (Z1u (w.own S) f t).1 = b := by
  obtain ⟨g1, g2, g3, g4, g5, g6, g7⟩ := g
  rcases Z2Q (w.own S) (Nat.le_of_lt g1.1) with ⟨h4, h5⟩ | ⟨b', e', h4, h5, h6, h7, h8, h9, h10⟩
  · have := h5 b (by omega) (by omega); rw [g3] at this; cases this
  · have a1 := h10 b (by omega) (by omega) g3
    have a2 := h10 (e - 1) (by omega) (by omega) g4
    have a3 := g5 b' (by omega) (by omega) h8
    have a4 := g5 e' (by omega) (by omega) h9
    rw [h4]
    refine ⟨?_, by dsimp only; omega⟩
    simp only [Wt.good, Bool.and_eq_true, decide_eq_true_eq]
    exact ⟨⟨by rw [h4]; simp only; omega, sub_bits.2 fun x hx => g6 x (thr_bit.1 hx)⟩, g7⟩
theorem ZdI {w : Wt} {S f t i : Nat} (h : f < t) (ht : t < w.counts.length) (hi : f ≤ i ∧ i < t) (ho : w.own S i = true) (hs : ∀ x, w.B f t x → S.testBit x = true) (hg : 0 < w.gap f t) : ∃ e b, GS w S e f t b := by
  rcases Z2Q (w.own S) (Nat.le_of_lt h) with ⟨h4, h5⟩ | ⟨b', e', h4, h5, h6, h7, h8, h9, h10⟩
  · have := h5 i hi.1 hi.2; rw [ho] at this; cases this
  · exact ⟨e' + 1, b', ⟨h, ht⟩, ⟨h5, by omega, by omega⟩, h8, h9, fun i a b c => by have := h10 i a b c; omega, hs, hg⟩
def Wt.pt (w : Wt) (S e : Nat) : Int := na0 (w.prvT S e) e
theorem Zb2 (w : Wt) (S : Nat) {i : Nat} : ∀ k, na0 (w.prvT S (i + k)) i = w.pt S i
  | 0 => rfl
  | k + 1 => by rw [show i + (k + 1) = (i + k) + 1 from rfl, Z2v w S (by omega), Zb2 w S k]
theorem Zea (w : Wt) (S : Nat) {i e : Nat} (h : i ≤ e) : na0 (w.prvT S e) i = w.pt S i := by
  have := Zb2 w S (i := i) (e - i)
  rwa [show i + (e - i) = e by omega] at this
theorem Z58 (w : Wt) (S : Nat) : w.pt S 0 = 0 := rfl
theorem Z2u {w : Wt} {S e : Nat} {tb : List Int} : ∀ (l : List (Nat × Nat)) (b : Int), b ≤ l.foldl (w.try1 S e tb) b ∧ (∀ s ∈ l, w.good S e s = true → na0 tb (Z1u (w.own S) s.1 s.2).1 + w.gap s.1 s.2 ≤ l.foldl (w.try1 S e tb) b) ∧ (l.foldl (w.try1 S e tb) b = b ∨ ∃ s ∈ l, w.good S e s = true ∧ l.foldl (w.try1 S e tb) b = na0 tb (Z1u (w.own S) s.1 s.2).1 + w.gap s.1 s.2)
  | [], b => ⟨Int.le_refl _, fun s hs => (by cases hs), .inl rfl⟩
  | s :: l, b => by
    obtain ⟨i1, i2, i3⟩ := Z2u (w := w) (S := S) (e := e) (tb := tb) l (w.try1 S e tb b s)
    rw [List.foldl_cons]
    have h1 : b ≤ w.try1 S e tb b s ∧ (w.good S e s = true → na0 tb (Z1u (w.own S) s.1 s.2).1 + w.gap s.1 s.2 ≤ w.try1 S e tb b s) ∧ (w.try1 S e tb b s = b ∨ (w.good S e s = true ∧ w.try1 S e tb b s = na0 tb (Z1u (w.own S) s.1 s.2).1 + w.gap s.1 s.2)) := by
      cases hg : w.good S e s with
      | false => rw [Z27 hg]; exact ⟨Int.le_refl _, fun h => (by cases h), .inl rfl⟩
      | true =>
        by_cases h2 : b < na0 tb (Z1u (w.own S) s.1 s.2).1 + w.gap s.1 s.2
        · rw [Z5L hg h2]; exact ⟨by omega, fun _ => Int.le_refl _, .inr ⟨rfl, rfl⟩⟩
        · rw [Z4m h2]; exact ⟨Int.le_refl _, fun _ => by omega, .inl rfl⟩
    refine ⟨by omega, fun s' hs' hg => ?_, ?_⟩
    · rcases List.mem_cons.1 hs' with rfl | h2
      · have := h1.2.1 hg; omega
      · exact i2 s' h2 hg
    · rcases i3 with h2 | ⟨s', h2, h3, h4⟩
      · rw [h2]
        rcases h1.2.2 with h3 | ⟨h3, h4⟩
        · exact .inl h3
        · exact .inr ⟨s, by simp, h3, h4⟩
      · exact .inr ⟨s', by simp [h2], h3, h4⟩
theorem Z6a (w : Wt) (S e : Nat) : w.pt S (e + 1) = w.prvN S (e + 1) (w.prvT S e) := Z2z w S e
theorem Z54 {w : Wt} {S e : Nat} (h : w.own S e = false) : w.pt S (e + 1) = w.pt S e := by
  rw [Z6a]; unfold Wt.prvN; rw [Nat.add_sub_cancel, h]; rfl
theorem Zex (w : Wt) (S e : Nat) : w.pt S e ≤ w.pt S (e + 1) := by
  cases h : w.own S e with
  | false => rw [Z54 h]; exact Int.le_refl _
  | true =>
    rw [Z6a]; unfold Wt.prvN; rw [Nat.add_sub_cancel, h]
    exact (Z2u (w := w) (S := S) (e := e + 1) (tb := w.prvT S e) (Z0n w.counts.length) (na0 (w.prvT S e) e)).1
theorem Z7T (w : Wt) (S : Nat) {i : Nat} : ∀ k, w.pt S i ≤ w.pt S (i + k)
  | 0 => Int.le_refl _
  | k + 1 => Int.le_trans (Z7T w S k) (Zex w S (i + k))
theorem Z6A (w : Wt) (S : Nat) {i j : Nat} (h : i ≤ j) : w.pt S i ≤ w.pt S j := by
  have := Z7T w S (i := i) (j - i)
  rwa [show i + (j - i) = j by omega] at this
theorem pt_nn (w : Wt) (S i : Nat) : 0 ≤ w.pt S i := Z6A w S (Nat.zero_le i)
theorem ZbF {w : Wt} {S e f t b : Nat} (g : GS w S e f t b) : w.pt S b + w.gap f t ≤ w.pt S e := by
  obtain ⟨g1, g2⟩ := Zcv g
  have hbe := g.be
  obtain ⟨e, rfl⟩ : ∃ k, e = k + 1 := ⟨e - 1, by omega⟩
  have ho := g.last
  rw [Nat.add_sub_cancel] at ho
  rw [Z6a]; unfold Wt.prvN; rw [Nat.add_sub_cancel, ho]
  have := (Z2u (w := w) (S := S) (e := e + 1) (tb := w.prvT S e) (Z0n w.counts.length) (na0 (w.prvT S e) e)).2.1 (f, t) (str_mem.2 g.lt) g1
  rw [g2, Zea w S (by omega)] at this
  exact this
theorem Z3I (w : Wt) (S e : Nat) : w.pt S (e + 1) = w.pt S e ∨ ∃ f t b, GS w S (e + 1) f t b ∧ w.pt S (e + 1) = w.pt S b + w.gap f t := by
  cases h : w.own S e with
  | false => exact .inl (Z54 h)
  | true =>
    rw [Z6a]; unfold Wt.prvN; rw [Nat.add_sub_cancel, h]
    rcases (Z2u (w := w) (S := S) (e := e + 1) (tb := w.prvT S e) (Z0n w.counts.length) (na0 (w.prvT S e) e)).2.2 with h1 | ⟨⟨f, t⟩, h1, h2, h3⟩
    · exact .inl h1
    · have h4 := str_mem.1 h1
      have g := Zc1 h4.1 h4.2 h2
      refine .inr ⟨f, t, _, g, ?_⟩
      have hbe := g.be
      rw [← Zea w S (show (Z1u (w.own S) f t).1 ≤ e by omega)]
      exact h3
theorem prv_pt (w : Wt) (S : Nat) : w.prv S = w.pt S (w.counts.length - 1) := rfl
def eSS (es : List Ev) (S : Nat) (x : Int) : Int := (es.map fun e => if e.t ≤ x ∧ S.testBit e.hand.toNat = true then e.n else 0).sum
theorem Z65 {es : List Ev} (h : ∀ e ∈ es, 0 ≤ e.n) {S : Nat} {x y : Int} (hxy : x ≤ y) : 0 ≤ eSS es S x ∧ eSS es S x ≤ eSS es S y := by
  induction es with
  | nil => simp [eSS]
  | cons e es ih =>
    have h1 := ih (fun c hc => h c (by simp [hc]))
    have h2 := h e (by simp)
    unfold eSS at h1 ⊢
    simp only [List.map_cons, List.sum_cons]
    by_cases ha : e.t ≤ x ∧ S.testBit e.hand.toNat = true
    · rw [if_pos ha, if_pos ⟨by omega, ha.2⟩]; omega
    · rw [if_neg ha]
      split <;> omega
theorem Z91 {es : List Ev} {S : Nat} {x y p q : Int} (h : ∀ e ∈ es, 0 ≤ e.n ∧ (x < e.t → e.t ≤ y → 0 < e.n → (p < e.t ∧ e.t ≤ q) ∧ S.testBit e.hand.toNat = true)) (hxy : x ≤ y) (hpq : p ≤ q) : eS es y - eS es x ≤ eSS es S q - eSS es S p := by
  induction es with
  | nil => simp [eS, eSS]
  | cons e es ih =>
    have h1 := ih (fun c hc => h c (by simp [hc]))
    obtain ⟨h2, h3⟩ := h e (by simp)
    unfold eS eSS at h1 ⊢
    simp only [List.map_cons, List.sum_cons]
    have key : (if e.t ≤ y then e.n else 0) - (if e.t ≤ x then e.n else 0) ≤ (if e.t ≤ q ∧ S.testBit e.hand.toNat = true then e.n else 0) - (if e.t ≤ p ∧ S.testBit e.hand.toNat = true then e.n else 0) := by
      by_cases ha : x < e.t ∧ e.t ≤ y ∧ 0 < e.n
      · obtain ⟨⟨h4, h5⟩, h6⟩ := h3 ha.1 ha.2.1 ha.2.2
        rw [if_pos ha.2.1, if_neg (by omega), if_pos ⟨h5, h6⟩, if_neg (by omega)]; omega
      · have hr : 0 ≤ (if e.t ≤ q ∧ S.testBit e.hand.toNat = true then e.n else 0) - (if e.t ≤ p ∧ S.testBit e.hand.toNat = true then e.n else 0) := by
          by_cases hb : e.t ≤ p ∧ S.testBit e.hand.toNat = true
          · rw [if_pos hb, if_pos ⟨by omega, hb.2⟩]; omega
          · rw [if_neg hb]; split <;> omega
        have hl : (if e.t ≤ y then e.n else 0) - (if e.t ≤ x then e.n else 0) ≤ 0 := by
          split <;> split <;> omega
        omega
    omega
theorem Z8G {w : Wt} (hw : w.ok) {K : Int} {Z : Int → Int} {es : List Ev} (h : Tru w K Z es) {f t : Nat} (hft : f < t) (ht : t < w.counts.length) : w.gap f t ≤ eS es (w.cn t).hour - eS es (w.cn f).hour ∧ (w.cn t).lo ≤ (w.cn f).hi + w.bk f t := by
  have hh := Z2T hw (Nat.le_of_lt hft) ht
  have h1 := h.cnt _ (List.mem_of_getElem? (Z0c (w := w) (i := f) (by omega)))
  have h2 := h.cnt _ (List.mem_of_getElem? (Z0c (w := w) (i := t) ht))
  have h3 := h.zm _ _ hh
  have h4 : eS es (w.cn f).hour ≤ eS es (w.cn t).hour := by
    have := Z91 (es := es) (S := 0) (x := (w.cn t).hour) (y := (w.cn t).hour) (p := 0) (q := 0) (fun e he => ⟨(h.ev e he).1, fun a b => by omega⟩) (Int.le_refl _) (Int.le_refl _)
    clear this
    have key : ∀ es : List Ev, (∀ e ∈ es, 0 ≤ e.n) → eS es (w.cn f).hour ≤ eS es (w.cn t).hour := fun es hes => by
      induction es with
      | nil => exact Int.le_refl _
      | cons e es ih =>
        have i1 := ih (fun c hc => hes c (by simp [hc]))
        have i2 := hes e (by simp)
        unfold eS at i1 ⊢
        simp only [List.map_cons, List.sum_cons]
        split <;> split <;> omega
    exact key es (fun e he => (h.ev e he).1)
  rw [Z8U hw (Nat.le_of_lt hft) ht]
  have e1 := Zbf hw (f := f) (t - f) (by omega)
  rw [show f + (t - f) = t by omega] at e1
  rw [e1]
  exact ⟨by omega, by omega⟩
theorem Zca {w : Wt} {K : Int} {Z : Int → Int} {es : List Ev} (h : Tru w K Z es) {e : Ev} (he : e ∈ es) {f t : Nat} (h1 : (w.cn f).hour < e.t) (h2 : e.t ≤ (w.cn t).hour) : w.B f t e.hand.toNat := by
  obtain ⟨_, s, a, b, c, d⟩ := h.ev e he
  exact ⟨s, a, by rw [b], by omega, by omega⟩
theorem tru_clash {w : Wt} (hw : w.ok) {K : Int} {Z : Int → Int} {es : List Ev} (h : Tru w K Z es) : w.clash = false := by
  unfold Wt.clash
  rw [List.any_eq_false]
  rintro ⟨f, t⟩ hs
  have hft := str_mem.1 hs
  obtain ⟨h1, h2⟩ := Z8G hw h hft.1 hft.2
  have hh := Z2T hw (Nat.le_of_lt hft.1) hft.2
  simp only [Wt.bad, Bool.or_eq_true, Bool.and_eq_true, decide_eq_true_eq, not_or, not_and]
  refine ⟨by omega, fun hg h0 => ?_⟩
  have h3 := Z91 (es := es) (S := 0) (x := (w.cn f).hour) (y := (w.cn t).hour) (p := 0) (q := 0) (fun e he => ⟨(h.ev e he).1, fun a b _ => by
    have := thr_bit.2 (Zca h he a b)
    rw [h0, Nat.zero_testBit] at this; cases this⟩) hh (Int.le_refl _)
  omega
theorem Z5N {w : Wt} (hw : w.ok) {K : Int} {Z : Int → Int} {es : List Ev} (h : Tru w K Z es) (S : Nat) : ∀ m e, e ≤ m → e < w.counts.length → w.pt S e ≤ eSS es S (w.cn e).hour
  | _, 0, _, _ => by rw [Z58]; exact (Z65 (fun e he => (h.ev e he).1) (Int.le_refl _)).1
  | 0, e + 1, h1, _ => by omega
  | m + 1, e + 1, h1, h2 => by
    rcases Z3I w S e with h3 | ⟨f, t, b, g, h3⟩
    · rw [h3]
      exact Int.le_trans (Z5N hw h S m e (by omega) (by omega)) (Z65 (fun e he => (h.ev e he).1) (Z2T hw (by omega) h2)).2
    · have hbe := g.be
      have hlt := g.lt
      have ih := Z5N hw h S m b (by omega) (by omega)
      have h4 := (Z8G hw h hlt.1 hlt.2).1
      have h5 := Z91 (es := es) (S := S) (x := (w.cn f).hour) (y := (w.cn t).hour) (p := (w.cn b).hour) (q := (w.cn (e + 1)).hour) (fun ev he => ⟨(h.ev ev he).1, fun a c _ => by
        obtain ⟨i, i1, i2, i3, i4⟩ := Z68 hlt.1 hlt.2 a c
        have hB := Zca h he i3 i4
        have hS := g.sub _ (Zca h he a c)
        obtain ⟨j1, j2⟩ := g.mid i i1 i2 (own_iff.2 ⟨by omega, _, hB, hS⟩)
        have k1 := Z2T hw j1 (by omega)
        have k2 := Z2T hw j2 h2
        exact ⟨⟨by omega, by omega⟩, hS⟩⟩) (Z2T hw (by omega) hlt.2) (Z2T hw (by omega) h2)
      rw [h3]; omega
def smT (k : Nat) (f : Nat → Int) : Int := ((List.range k).map f).sum
theorem smT_succ (k : Nat) (f : Nat → Int) : smT (k + 1) f = smT k f + f k := by simp [smT, List.range_succ, List.sum_append]
theorem smT_congr {k : Nat} {f g : Nat → Int} (h : ∀ x, x < k → f x = g x) : smT k f = smT k g := by
  unfold smT
  congr 1
  exact List.map_congr_left fun x hx => h x (List.mem_range.1 hx)
theorem Z5a {f g : Nat → Int} {h : Nat} {z : Int} : ∀ {k : Nat}, h < k → (∀ x, x < k → x ≠ h → f x = g x) → f h = g h + z → smT k f = smT k g + z
  | 0, hk, _, _ => by omega
  | k + 1, hk, h1, h2 => by
    rw [smT_succ, smT_succ]
    by_cases e : h = k
    · subst e
      rw [smT_congr (f := f) (g := g) (k := h) (fun x hx => h1 x (by omega) (by omega))]; omega
    · rw [Z5a (f := f) (g := g) (z := z) (k := k) (by omega) (fun x hx hne => h1 x (by omega) hne) h2, h1 k (by omega) (fun e2 => e e2.symm)]; omega
theorem Zcy {es : List Ev} {h : Nat} {x : Int} (hes : ∀ e ∈ es, 0 ≤ e.n ∧ 0 ≤ e.hand) : eSS es (2 ^ h) x ≤ eH es h := by
  induction es with
  | nil => exact Int.le_refl _
  | cons e es ih =>
    have i1 := ih (fun c hc => hes c (by simp [hc]))
    have i2 := hes e (by simp)
    unfold eSS eH at i1 ⊢
    simp only [List.map_cons, List.sum_cons]
    have key : (if e.t ≤ x ∧ (2 ^ h).testBit e.hand.toNat = true then e.n else 0) ≤ (if e.hand = (h : Int) then e.n else 0) := by
      by_cases ha : e.t ≤ x ∧ (2 ^ h).testBit e.hand.toNat = true
      · rw [if_pos ha]
        have := ha.2
        rw [Nat.testBit_two_pow, decide_eq_true_eq] at this
        rw [if_pos (by omega)]; exact Int.le_refl _
      · rw [if_neg ha]; split <;> omega
    omega
theorem ZcO {es : List Ev} {S k : Nat} {x : Int} (hes : ∀ e ∈ es, 0 ≤ e.n ∧ 0 ≤ e.hand ∧ e.hand < k) : eSS es S x ≤ smT k fun h => eH es h := by
  induction es with
  | nil => 
    have : smT k (fun h => eH [] (h : Int)) = smT k (fun _ => 0) := rfl
    rw [this]
    have : ∀ k, smT k (fun _ => (0 : Int)) = 0 := fun k => by induction k with
      | zero => rfl
      | succ k ih => rw [smT_succ, ih]; rfl
    rw [this]; exact Int.le_refl _
  | cons e es ih =>
    have i1 := ih (fun c hc => hes c (by simp [hc]))
    have i2 := hes e (by simp)
    have e1 : smT k (fun h => eH (e :: es) (h : Int)) = smT k (fun h => eH es (h : Int)) + e.n := Z5a (h := e.hand.toNat) (by omega) (fun y hy hne => by
      unfold eH; simp only [List.map_cons, List.sum_cons]; rw [if_neg (by omega), Int.zero_add]) (by
      unfold eH; simp only [List.map_cons, List.sum_cons]; rw [if_pos (by omega), Int.add_comm])
    rw [e1]
    unfold eSS at i1 ⊢
    simp only [List.map_cons, List.sum_cons]
    split <;> omega
theorem tru_one {w : Wt} (hw : w.ok) {K : Int} {Z : Int → Int} {es : List Ev} (h : Tru w K Z es) (d : Nat) : w.prv (2 ^ d) ≤ eH es d := by
  have hn := hw.nc
  refine Int.le_trans (Z5N hw h (2 ^ d) _ (w.counts.length - 1) (Nat.le_refl _) (by omega)) (Zcy fun e he => ?_)
  obtain ⟨a, s, b, c, _⟩ := h.ev e he
  have := (hw.spl s b).2.2.1
  exact ⟨a, by omega⟩
theorem tru_all {w : Wt} (hw : w.ok) {K : Int} {Z : Int → Int} {es : List Ev} (h : Tru w K Z es) : w.prv w.full ≤ smT w.hands.toNat fun d => eH es d := by
  have hn := hw.nc
  have hh := hw.hands
  refine Int.le_trans (Z5N hw h w.full _ (w.counts.length - 1) (Nat.le_refl _) (by omega)) (ZcO fun e he => ?_)
  obtain ⟨a, s, b, c, _⟩ := h.ev e he
  have := (hw.spl s b).2.2.1
  exact ⟨a, by omega, by omega⟩
theorem pow_bit {h x : Nat} : (2 ^ h).testBit x = true ↔ h = x := by rw [Nat.testBit_two_pow, decide_eq_true_eq]
theorem full_bit {k x : Nat} : (2 ^ k - 1).testBit x = true ↔ x < k := by rw [Nat.testBit_two_pow_sub_one, decide_eq_true_eq]
theorem Z6h {w : Wt} {S b : Nat} : ∀ k, (∀ j, b ≤ j → j < b + k → w.own S j = false) → w.pt S (b + k) = w.pt S b
  | 0, _ => rfl
  | k + 1, h => by
    rw [show b + (k + 1) = (b + k) + 1 from rfl, Z54 (h (b + k) (by omega) (by omega))]
    exact Z6h k (fun j h1 h2 => h j h1 (by omega))
theorem Z8h {w : Wt} (hw : w.ok) (k : Nat) : ∀ m e, e ≤ m → smT k (fun h => w.pt (2 ^ h) e) ≤ w.pt (2 ^ k - 1) e
  | m, 0, _ => by
    have : smT k (fun h => w.pt (2 ^ h) 0) = smT k (fun _ => 0) := rfl
    rw [this]
    have : ∀ k, smT k (fun _ => (0 : Int)) = 0 := fun k => by induction k with
      | zero => rfl
      | succ k ih => rw [smT_succ, ih]; rfl
    rw [this]; exact Int.le_refl _
  | 0, e + 1, h => by omega
  | m + 1, e + 1, hm => by
    by_cases hall : ∀ h, h < k → w.pt (2 ^ h) (e + 1) = w.pt (2 ^ h) e
    · rw [smT_congr (g := fun h => w.pt (2 ^ h) e) hall]
      exact Int.le_trans (Z8h hw k m e (by omega)) (Zex _ _ _)
    · obtain ⟨h, hk, hne⟩ : ∃ h, h < k ∧ ¬ w.pt (2 ^ h) (e + 1) = w.pt (2 ^ h) e := by
        false_or_by_contra
        rename_i hc
        exact hall fun h hk => by
          false_or_by_contra
          rename_i h2
          exact hc ⟨h, hk, h2⟩
      obtain ⟨f, t, b, g, he⟩ := (Z3I w (2 ^ h) e).resolve_left hne
      have hbe := g.be
      have hlt := g.lt
      have only : ∀ i x, f ≤ i → i < t → w.B i (i + 1) x → x = h := fun i x h1 h2 hB => (pow_bit.1 (g.sub x (ZaW hw hB h1 (by omega) (by omega) hlt.2))).symm
      have e1 : smT k (fun d => w.pt (2 ^ d) (e + 1)) = smT k (fun d => w.pt (2 ^ d) b) + w.gap f t := Z5a hk (fun x hx hxh => by
        have := Z6h (w := w) (S := 2 ^ x) (b := b) (e + 1 - b) (fun j h1 h2 => by
          cases ho : w.own (2 ^ x) j with
          | false => rfl
          | true =>
            obtain ⟨_, y, hy, hy2⟩ := own_iff.1 ho
            have := only j y (by omega) (by omega) hy
            have := pow_bit.1 hy2
            omega)
        rwa [show b + (e + 1 - b) = e + 1 by omega] at this) he
      rw [e1]
      have ih := Z8h hw k m b (by omega)
      have g2 : GS w (2 ^ k - 1) (e + 1) f t b := by
        have iff_ : ∀ i, f ≤ i → i < t → (w.own (2 ^ k - 1) i = true ↔ w.own (2 ^ h) i = true) := fun i h1 h2 => by
          rw [own_iff, own_iff]
          constructor
          · rintro ⟨a, x, hx, _⟩; exact ⟨a, x, hx, pow_bit.2 (only i x h1 h2 hx).symm⟩
          · rintro ⟨a, x, hx, hx2⟩; exact ⟨a, x, hx, full_bit.2 (by have := pow_bit.1 hx2; omega)⟩
        exact ⟨hlt, hbe, (iff_ b hbe.1 (by omega)).2 g.first, (iff_ _ (by omega) (by omega)).2 g.last, fun i h1 h2 ho => g.mid i h1 h2 ((iff_ i h1 h2).1 ho), fun x hx => full_bit.2 (by have := pow_bit.1 (g.sub x hx); omega), g.gap⟩
      have := ZbF g2
      omega
theorem prv_sum {w : Wt} (hw : w.ok) : smT w.hands.toNat (fun h => w.prv (2 ^ h)) ≤ w.prv w.full := Z8h hw w.hands.toNat _ _ (Nat.le_refl _)
theorem Z9m {k h x : Nat} (hh : h < k) : (2 ^ k - 1 - 2 ^ h).testBit x = true ↔ x < k ∧ x ≠ h := by
  have hp : 2 ^ h < 2 ^ k := Nat.pow_lt_pow_right (by decide) hh
  rw [show 2 ^ k - 1 - 2 ^ h = 2 ^ k - (2 ^ h + 1) by omega, Nat.testBit_two_pow_sub_succ hp, Nat.testBit_two_pow]
  simp only [Bool.and_eq_true, decide_eq_true_eq, Bool.not_eq_true', decide_eq_false_iff_not]
  omega
theorem ZdM {w : Wt} (hw : w.ok) {f t x : Nat} (h : w.B f t x) : x < w.hands.toNat := by
  obtain ⟨s, a, b, _, _⟩ := h
  have := (hw.spl s a).2.2.1
  omega
theorem Z6l {w : Wt} : ∀ (m f t : Nat), t - f ≤ m → (f, t) ∈ w.shortL → ∃ f' t', f ≤ f' ∧ t' ≤ t ∧ (f', t') ∈ w.shortL ∧ zp (f', t') ∈ w.smallL
  | m, f, t, hm, hs => by
    by_cases h : ((w.shortL.map zp).any fun x => Z1j x (zp (f, t))) = true
    · obtain ⟨x, hx, hi⟩ := List.any_eq_true.1 h
      obtain ⟨⟨a, b⟩, hab, rfl⟩ := List.mem_map.1 hx
      have hab2 := str_mem.1 (List.mem_filter.1 hab).1
      simp only [Z1j, Bool.and_eq_true] at hi
      have i1 := of_decide_eq_true hi.1.1
      have i2 : (f : Int) ≤ a := of_decide_eq_true hi.1.2
      have i3 : (b : Int) ≤ t := of_decide_eq_true hi.2
      have hne : ¬ (a = f ∧ b = t) := fun e => i1 (by rw [e.1, e.2])
      match m with
      | 0 => omega
      | m + 1 =>
        obtain ⟨f', t', h1, h2, h3, h4⟩ := Z6l m a b (by omega) hab
        exact ⟨f', t', by omega, by omega, h3, h4⟩
    · refine ⟨f, t, Nat.le_refl _, Nat.le_refl _, hs, List.mem_filter.2 ⟨List.mem_map.2 ⟨(f, t), hs, rfl⟩, ?_⟩⟩
      simp only [Bool.not_eq_true] at h
      rw [h]; rfl
theorem must_iff {w : Wt} (hw : w.ok) (hc : w.clash = false) {h : Nat} (hh : h < w.hands.toNat) : w.must h = true ↔ 0 < w.prv (2 ^ h) := by
  have key : w.must h = true ↔ ∃ f t, zp (f, t) ∈ w.smallL ∧ ∀ x, w.B f t x → x = h := by
    unfold Wt.must Wt.leftL
    rw [decide_eq_true_eq, List.length_pos_iff_exists_mem]
    have e : ∀ f t, w.hitS (w.full - 2 ^ h) (zp (f, t)) = false ↔ ∀ x, w.B f t x → x = h := fun f t => by
      unfold Wt.hitS zp
      rw [decide_eq_false_iff_not, and_bits]
      simp only [Int.toNat_natCast, Wt.full, Z9m hh, thr_bit]
      constructor
      · intro h1 x hx
        false_or_by_contra
        rename_i h2
        exact h1 ⟨x, hx, ZdM hw hx, h2⟩
      · rintro h1 ⟨x, h2, h3, h4⟩
        exact h4 (h1 x h2)
    constructor
    · rintro ⟨s, hs⟩
      obtain ⟨h1, h2⟩ := List.mem_filter.1 hs
      obtain ⟨f, t, rfl, _⟩ := Z4s h1
      refine ⟨f, t, h1, (e f t).1 ?_⟩
      simpa [zp] using h2
    · rintro ⟨f, t, h1, h2⟩
      refine ⟨_, List.mem_filter.2 ⟨h1, ?_⟩⟩
      rw [(e f t).2 h2]; rfl
  rw [key]
  constructor
  · rintro ⟨f, t, h1, h2⟩
    obtain ⟨s, hs, he⟩ := List.mem_map.1 (List.mem_filter.1 h1).1
    obtain rfl : s = (f, t) := by
      simp only [zp, Prod.mk.injEq] at he
      exact Prod.ext (by omega) (by omega)
    obtain ⟨h3, h4⟩ := List.mem_filter.1 hs
    have h5 := str_mem.1 h3
    have hg : 0 < w.gap f t := of_decide_eq_true h4
    have h6 := (Z8t hc h5.1 h5.2).2 hg
    obtain ⟨x, hx, _⟩ := and_bits.1 (show w.thr f t &&& w.thr f t ≠ 0 by rw [Nat.and_self]; exact h6)
    obtain rfl := h2 x (thr_bit.1 hx)
    obtain ⟨i, i1, i2, i3⟩ := Zdl hw h5.1 h5.2 (thr_bit.1 hx)
    obtain ⟨e, b, g⟩ := ZdI h5.1 h5.2 ⟨i1, i2⟩ (own_iff.2 ⟨by omega, x, i3, pow_bit.2 rfl⟩) (fun y hy => pow_bit.2 (h2 y hy).symm) hg
    have k1 := ZbF g
    have k2 := pt_nn w (2 ^ x) b
    have k3 := Z6A w (2 ^ x) (i := e) (j := w.counts.length - 1) (by have := g.be; omega)
    rw [prv_pt]; omega
  · intro hp
    have h1 : ∀ e, 0 < w.pt (2 ^ h) e → ∃ f t, (f, t) ∈ w.shortL ∧ ∀ x, w.B f t x → x = h := fun e => by
      induction e with
      | zero => intro h9; rw [Z58] at h9; omega
      | succ e ih =>
        intro h9
        rcases Z3I w (2 ^ h) e with h2 | ⟨f, t, b, g, _⟩
        · exact ih (by omega)
        · exact ⟨f, t, List.mem_filter.2 ⟨str_mem.2 g.lt, decide_eq_true g.gap⟩, fun x hx => (pow_bit.1 (g.sub x hx)).symm⟩
    obtain ⟨f, t, h2, h3⟩ := h1 _ hp
    have h6 := str_mem.1 (List.mem_filter.1 h2).1
    obtain ⟨f', t', h4, h5, h7, h8⟩ := Z6l (t - f) f t (Nat.le_refl _) h2
    have h9 := str_mem.1 (List.mem_filter.1 h7).1
    exact ⟨f', t', h8, fun x hx => h3 x (ZaW hw hx h4 h5 (by omega) h6.2)⟩
theorem must_any (w : Wt) (k : Nat) (h : Nat) : ((w.mustL k).any fun x => decide ((h : Int) = x)) = (decide (h < k) && w.must h) := by
  rw [Bool.eq_iff_iff, List.any_eq_true, Bool.and_eq_true, decide_eq_true_eq]
  unfold Wt.mustL
  constructor
  · rintro ⟨x, hx, he⟩
    obtain ⟨y, hy, rfl⟩ := List.mem_map.1 hx
    obtain ⟨h1, h2⟩ := List.mem_filter.1 hy
    have := of_decide_eq_true he
    obtain rfl : h = y := by omega
    exact ⟨List.mem_range.1 h1, h2⟩
  · rintro ⟨h1, h2⟩
    exact ⟨_, List.mem_map.2 ⟨h, List.mem_filter.2 ⟨List.mem_range.2 h1, h2⟩, rfl⟩, decide_eq_true rfl⟩
def sgm (p i : Nat) : Nat := if i < p then i else i + 1
section more
variable {w : Wt} {c : Cnt}
theorem Z1Y {i : Nat} (hi : i < w.counts.length) : (w.addC c).cn (sgm (w.pos c.hour) i) = w.cn i := by
  have hp : w.pos c.hour ≤ w.counts.length := Z1h _
  unfold Wt.cn Wt.addC sgm
  simp only [List.getD_eq_getElem?_getD]
  by_cases h : i < w.pos c.hour
  · rw [if_pos h, List.getElem?_append_left (by rw [List.length_take]; omega), List.getElem?_take, if_pos h]
  · rw [if_neg h, List.getElem?_append_right (by rw [List.length_take]; omega), List.length_take, Nat.min_eq_left hp, show i + 1 - w.pos c.hour = (i - w.pos c.hour) + 1 by omega, List.getElem?_cons_succ, List.getElem?_drop, show w.pos c.hour + (i - w.pos c.hour) = i by omega]
theorem Z3Y : (w.addC c).cn (w.pos c.hour) = c := by
  have hp : w.pos c.hour ≤ w.counts.length := Z1h _
  unfold Wt.cn Wt.addC
  simp only [List.getD_eq_getElem?_getD]
  rw [List.getElem?_append_right (by rw [List.length_take]; omega), List.length_take, Nat.min_eq_left hp, Nat.sub_self]; rfl
theorem ZaF (hw : w.ok) {i : Nat} (hi : i < w.pos c.hour) : (w.cn i).hour < c.hour := by
  have hp : w.pos c.hour ≤ w.counts.length := Z1h _
  have h2 := List.not_of_lt_findIdx (p := fun d : Cnt => decide (c.hour ≤ d.hour)) (xs := w.counts) hi
  rw [Z3c (w := w) (List.getElem?_eq_getElem (show i < w.counts.length by omega))]
  simpa using h2
theorem ZaN (hw : w.ok) (hfr : ∀ x ∈ w.counts, x.hour ≠ c.hour) {i : Nat} (h1 : w.pos c.hour ≤ i) (hi : i < w.counts.length) : c.hour < (w.cn i).hour := by
  have h3 := List.findIdx_getElem (xs := w.counts) (p := fun d : Cnt => decide (c.hour ≤ d.hour)) (w := by show w.pos c.hour < _; omega)
  have h4 : c.hour ≤ (w.cn (w.pos c.hour)).hour := by
    rw [Z3c (w := w) (List.getElem?_eq_getElem (show w.pos c.hour < w.counts.length by omega))]
    exact of_decide_eq_true h3
  have h5 := Z2T hw h1 hi
  have h6 := hfr _ (List.mem_of_getElem? (Z0c hi))
  omega
theorem addC_ok (hw : w.ok) (hn : w.counts.length < 8) (hfr : ∀ x ∈ w.counts, x.hour ≠ c.hour) (hc : (0 ≤ c.hour ∧ c.hour ≤ w.hours) ∧ (0 ≤ c.lo ∧ c.lo ≤ 500) ∧ (0 ≤ c.hi ∧ c.hi ≤ 500) ∧ c.lo ≤ c.hi) : (w.addC c).ok where
  hours := hw.hours
  allow := hw.allow
  hands := hw.hands
  nc := by rw [addC_len]; omega
  nb := hw.nb
  ns := hw.ns
  cnt := fun x hx => by
    rcases List.mem_append.1 hx with h | h
    · exact hw.cnt x (List.mem_of_mem_take h)
    · rcases List.mem_cons.1 h with rfl | h
      · exact hc
      · exact hw.cnt x (List.mem_of_mem_drop h)
  bks := hw.bks
  spl := hw.spl
  inc := fun i a b ha hb => by
    have hp : w.pos c.hour ≤ w.counts.length := Z1h _
    have hl := (List.getElem?_eq_some_iff.1 hb).1
    rw [addC_len] at hl
    rw [← Z3c (w := w.addC c) ha, ← Z3c (w := w.addC c) hb]
    rcases Nat.lt_trichotomy i (w.pos c.hour) with h1 | h1 | h1
    · have e1 := Z1Y (w := w) (c := c) (i := i) (by omega)
      unfold sgm at e1
      rw [if_pos h1] at e1
      rw [e1]
      by_cases h2 : i + 1 < w.pos c.hour
      · have e2 := Z1Y (w := w) (c := c) (i := i + 1) (by omega)
        unfold sgm at e2
        rw [if_pos h2] at e2
        rw [e2]
        exact Z4e hw (by omega) (by omega)
      · rw [show i + 1 = w.pos c.hour by omega, Z3Y]
        exact ZaF hw h1
    · rw [h1, Z3Y]
      have e2 := Z1Y (w := w) (c := c) (i := w.pos c.hour) (by omega)
      unfold sgm at e2
      rw [if_neg (by omega)] at e2
      rw [e2]
      exact ZaN hw hfr (Nat.le_refl _) (by omega)
    · have e1 := Z1Y (w := w) (c := c) (i := i - 1) (by omega)
      have e2 := Z1Y (w := w) (c := c) (i := i) (by omega)
      unfold sgm at e1 e2
      rw [if_neg (by omega), show i - 1 + 1 = i by omega] at e1
      rw [if_neg (by omega)] at e2
      rw [e1, e2]
      exact Z4e hw (by omega) (by omega)
theorem tru_add {K : Int} {Z : Int → Int} {es : List Ev} (h : Tru w K Z es) {x : Int} (hc : c = ⟨x, 0, 500⟩) : Tru (w.addC c) K Z es := ⟨h.zm, h.ev, h.stock, fun d hd => by
  rcases List.mem_append.1 hd with h1 | h1
  · exact h.cnt d (List.mem_of_mem_take h1)
  · rcases List.mem_cons.1 h1 with h1 | h1
    · rw [h1, hc]; exact h.stock x
    · exact h.cnt d (List.mem_of_mem_drop h1)⟩
theorem ZbC (hw : w.ok) (hw2 : (w.addC c).ok) (hfr : ∀ x ∈ w.counts, x.hour ≠ c.hour) {S e f t b : Nat} (g : GS w S e f t b) : ∃ e' b', GS (w.addC c) S e' (sgm (w.pos c.hour) f) (sgm (w.pos c.hour) t) b' ∧ sgm (w.pos c.hour) b ≤ b' ∧ e' ≤ sgm (w.pos c.hour) e ∧ (w.addC c).gap (sgm (w.pos c.hour) f) (sgm (w.pos c.hour) t) = w.gap f t := by
  obtain ⟨p, hpp⟩ : ∃ p, p = w.pos c.hour := ⟨_, rfl⟩
  have hlt := g.lt
  have hbe := g.be
  have hp : p ≤ w.counts.length := by rw [hpp]; exact Z1h _
  have hlen : (w.addC c).counts.length = w.counts.length + 1 := addC_len
  have cnO : ∀ i, i < w.counts.length → (w.addC c).cn (sgm p i) = w.cn i := fun i hi => by rw [hpp]; exact Z1Y hi
  have cnN : (w.addC c).cn p = c := by rw [hpp]; exact Z3Y
  have lo : ∀ i, i < p → (w.cn i).hour < c.hour := fun i hi => ZaF hw (by rw [← hpp]; exact hi)
  have hi : ∀ i, p ≤ i → i < w.counts.length → c.hour < (w.cn i).hour := fun i h1 h2 => ZaN hw hfr (by rw [← hpp]; exact h1) h2
  rw [← hpp]
  have sL : ∀ i, i < p → sgm p i = i := fun i h => if_pos h
  have sG : ∀ i, p ≤ i → sgm p i = i + 1 := fun i h => if_neg (by omega)
  have cnL : ∀ i, i < p → (w.addC c).cn i = w.cn i := fun i h => by have := cnO i (by omega); rwa [sL i h] at this
  have cnG : ∀ i, p ≤ i → i < w.counts.length → (w.addC c).cn (i + 1) = w.cn i := fun i h1 h2 => by have := cnO i h2; rwa [sG i h1] at this
  have sft : sgm p f < sgm p t := by unfold sgm; split <;> split <;> omega
  have stl : sgm p t < (w.addC c).counts.length := by rw [hlen]; unfold sgm; split <;> omega
  have hgap : (w.addC c).gap (sgm p f) (sgm p t) = w.gap f t := by
    rw [Z8U hw2 (Nat.le_of_lt sft) stl, Z8U hw (Nat.le_of_lt hlt.1) hlt.2, cnO f (by omega), cnO t hlt.2]; rfl
  have hB : ∀ x, (w.addC c).B (sgm p f) (sgm p t) x → S.testBit x = true := fun x hx => by
    refine g.sub x ?_
    obtain ⟨s, a, b, c1, c2⟩ := hx
    rw [cnO t hlt.2] at c1
    rw [cnO f (by omega)] at c2
    exact ⟨s, a, b, c1, c2⟩
  have Z9e : ∀ j, sgm p f ≤ j → j < sgm p t → (w.addC c).own S j = true → sgm p b ≤ j ∧ j + 1 ≤ sgm p e := fun j h1 h2 ho => by
    obtain ⟨_, x, hx, hS⟩ := own_iff.1 ho
    have fin : ∀ i, f ≤ i → i < t → w.B i (i + 1) x → b ≤ i ∧ i + 1 ≤ e := fun i i1 i2 i3 => g.mid i i1 i2 (own_iff.2 ⟨by omega, x, i3, hS⟩)
    obtain ⟨s, a, a2, c1, c2⟩ := hx
    by_cases h3 : j < p
    · have hf : f ≤ j := by
        by_cases h4 : f < p
        · rw [sL f h4] at h1; exact h1
        · rw [sG f (by omega)] at h1; omega
      have ht : j < t := by
        by_cases h4 : t < p
        · rw [sL t h4] at h2; exact h2
        · omega
      rw [cnL j h3] at c2
      have hB1 : w.B j (j + 1) x := by
        by_cases h4 : j + 1 < p
        · rw [cnL (j + 1) h4] at c1; exact ⟨s, a, a2, c1, c2⟩
        · rw [show j + 1 = p by omega, cnN] at c1
          have := hi (j + 1) (by omega) (by omega)
          exact ⟨s, a, a2, by omega, c2⟩
      have := fin j hf ht hB1
      refine ⟨?_, ?_⟩
      · rw [sL b (by omega)]; exact this.1
      · unfold sgm; split <;> omega
    · have hf : f + 1 ≤ j := by
        by_cases h4 : f < p
        · rcases Nat.lt_or_ge p j with h5 | h5
          · omega
          · omega
        · rw [sG f (by omega)] at h1; omega
      have ht : j ≤ t ∧ p ≤ t := by
        by_cases h4 : t < p
        · rw [sL t h4] at h2; omega
        · rw [sG t (by omega)] at h2; omega
      obtain ⟨i, rfl⟩ : ∃ i, j = i + 1 := ⟨j - 1, by omega⟩
      rw [cnG (i + 1) (by omega) (by omega)] at c1
      have hB1 : w.B i (i + 1) x := by
        by_cases h4 : i + 1 = p
        · rw [h4, cnN] at c2
          have := lo i (by omega)
          exact ⟨s, a, a2, c1, by omega⟩
        · rw [cnG i (by omega) (by omega)] at c2
          exact ⟨s, a, a2, c1, c2⟩
      have := fin i (by omega) (by omega) hB1
      refine ⟨?_, ?_⟩
      · unfold sgm; split <;> omega
      · rw [sG e (by omega)]; omega
  have some_ : ∃ j, sgm p f ≤ j ∧ j < sgm p t ∧ (w.addC c).own S j = true := by
    obtain ⟨_, x, ⟨s, a, a2, c1, c2⟩, hS⟩ := own_iff.1 g.first
    have hsp := (hw.spl s a).2.2.2
    by_cases h1 : b + 1 = p
    · by_cases h2 : s.fr < c.hour
      · refine ⟨b, ?_, ?_, own_iff.2 ⟨by omega, x, ⟨s, a, a2, by rw [h1, cnN]; exact h2, by rw [cnL b (by omega)]; exact c2⟩, hS⟩⟩
        · rw [sL f (by omega)]; omega
        · rw [sG t (by omega)]; omega
      · refine ⟨b + 1, ?_, ?_, own_iff.2 ⟨by omega, x, ⟨s, a, a2, by rw [cnG (b + 1) (by omega) (by omega)]; exact c1, by rw [h1, cnN]; omega⟩, hS⟩⟩
        · rw [sL f (by omega)]; omega
        · rw [sG t (by omega)]; omega
    · by_cases h2 : b < p
      · refine ⟨b, ?_, ?_, own_iff.2 ⟨by omega, x, ⟨s, a, a2, by rw [cnL (b + 1) (by omega)]; exact c1, by rw [cnL b h2]; exact c2⟩, hS⟩⟩
        · rw [sL f (by omega)]; omega
        · unfold sgm; split <;> omega
      · refine ⟨b + 1, ?_, ?_, own_iff.2 ⟨by omega, x, ⟨s, a, a2, by rw [cnG (b + 1) (by omega) (by omega)]; exact c1, by rw [cnG b (by omega) (by omega)]; exact c2⟩, hS⟩⟩
        · unfold sgm; split <;> omega
        · rw [sG t (by omega)]; omega
  obtain ⟨j, j1, j2, j3⟩ := some_
  obtain ⟨e', b', g'⟩ := ZdI sft stl ⟨j1, j2⟩ j3 hB (by rw [hgap]; exact g.gap)
  have hbe' := g'.be
  have k1 := Z9e b' hbe'.1 (by omega) g'.first
  have k2 := Z9e (e' - 1) (by omega) (by omega) g'.last
  exact ⟨e', b', g', k1.1, by omega, hgap⟩
theorem Z5t (hw : w.ok) (hw2 : (w.addC c).ok) (hfr : ∀ x ∈ w.counts, x.hour ≠ c.hour) (S : Nat) : ∀ m e, e ≤ m → w.pt S e ≤ (w.addC c).pt S (sgm (w.pos c.hour) e)
  | m, 0, _ => by rw [Z58]; exact pt_nn _ _ _
  | 0, e + 1, h => by omega
  | m + 1, e + 1, h => by
    rcases Z3I w S e with h1 | ⟨f, t, b, g, h1⟩
    · rw [h1]
      refine Int.le_trans (Z5t hw hw2 hfr S m e (by omega)) (Z6A _ _ ?_)
      unfold sgm; split <;> split <;> omega
    · obtain ⟨e', b', g', k1, k2, k3⟩ := ZbC hw hw2 hfr g
      have hbe := g.be
      have h2 := Z5t hw hw2 hfr S m b (by omega)
      have h3 := Z6A (w.addC c) S k1
      have h4 := ZbF g'
      have h5 := Z6A (w.addC c) S k2
      rw [h1]; omega
theorem addC_prv (hw : w.ok) (hw2 : (w.addC c).ok) (hfr : ∀ x ∈ w.counts, x.hour ≠ c.hour) (S : Nat) : w.prv S ≤ (w.addC c).prv S := by
  have hn := hw.nc
  rw [prv_pt, prv_pt, addC_len]
  refine Int.le_trans (Z5t hw hw2 hfr S _ _ (Nat.le_refl _)) (Z6A _ _ ?_)
  unfold sgm; split <;> omega
end more
end Go.Proofs.YtjoajfdnlomapaaGreat.Hn
namespace Go.Proofs.YtjoajfdnlomapaaGreat
set_option linter.unusedSimpArgs false
set_option linter.unusedVariables false
open Go
theorem Z46 : Z0Z Tryz.prog 52 = some 7 := by kernel_rfl
theorem Z5F : apT Tryz.prog 47 = some (3, 1, 8) := by kernel_rfl
theorem Z0E : cal Tryz.prog 11 = true := by kernel_rfl
theorem Z2Z : cal Tryz.prog 29 = true := by kernel_rfl
theorem Z9G : cal Tryz.prog 37 = true := by kernel_rfl
theorem ZhR : ZN Tryz.prog 47 = some 1 := by kernel_rfl
theorem ZhD : ZN Tryz.prog 52 = some 7 := by kernel_rfl
theorem Z5C : ZF Tryz.prog 52 0 = some 0 := by kernel_rfl
theorem Z5Q : ZF Tryz.prog 52 1 = some 1 := by kernel_rfl
theorem Z99 : ZF Tryz.prog 52 2 = some 2 := by kernel_rfl
theorem Z5z : ZF Tryz.prog 52 3 = some 3 := by kernel_rfl
theorem Z10 : ZF Tryz.prog 52 4 = some 4 := by kernel_rfl
theorem Z3s : ZF Tryz.prog 52 5 = some 5 := by kernel_rfl
theorem Zb9 : ZJ Tryz.prog 113 = some [(0, 1), (1, 1), (2, 1)] := by kernel_rfl
theorem ZhY : ZJ Tryz.prog 52 = some [(0, 1), (1, 1), (2, 1), (3, 1), (4, 1), (5, 1), (6, 1)] := by kernel_rfl
theorem ZhI : ZJ Tryz.prog 59 = some [(0, 1), (1, 1), (2, 1)] := by kernel_rfl
theorem sc3 : Z07 Tryz.prog 3 = true := by kernel_rfl
theorem Z0G : Z07 Tryz.prog 47 = true := by kernel_rfl
theorem Z7U : Z07 Tryz.prog 48 = true := by kernel_rfl
theorem Zd5 : Z07 Tryz.prog 49 = true := by kernel_rfl
theorem Z2r : slE Tryz.prog 47 = some (3, 1) := by kernel_rfl
theorem ZhU : slE Tryz.prog 48 = some (113, 3) := by kernel_rfl
theorem ZhN : slE Tryz.prog 49 = some (59, 3) := by kernel_rfl
theorem Z6J : Zy Tryz.prog 113 = some ([.int .i64 0, .int .i64 0, .int .i64 0]) := by kernel_rfl
theorem zl3 : Zy Tryz.prog 3 = some ([.int .i64 0]) := by kernel_rfl
theorem ZgU : Zy Tryz.prog 52 = some ([.int .i64 0, .int .i64 0, .slice none 0 0, .slice none 0 0, .slice none 0 0, .slice none 0 0, .slice none 0 0]) := by kernel_rfl
theorem ZeA : Zy Tryz.prog 59 = some ([.int .i64 0, .int .i64 0, .int .i64 0]) := by kernel_rfl
namespace Lo
structure RisI (l : List Int) (k : Int) : Prop where
  ris : Z2n l = true
  bd : ∀ y ∈ l, 0 ≤ y ∧ y ≤ k - 1
theorem Z6e : ∀ {l : List Int} {x : Int}, Z2n l = true → (∀ y ∈ l, y < x) → Z2n (l ++ [x]) = true
  | [], _, _, _ => rfl
  | [y], x, _, h => by simp [Z2n, h y (by simp)]
  | y :: z :: l, x, h, hx => by
    simp only [Z2n, Bool.and_eq_true] at h
    have ih := Z6e (l := z :: l) (x := x) h.2 (fun u hu => hx u (List.mem_cons_of_mem _ hu))
    show (decide (y < z) && Z2n (z :: (l ++ [x]))) = true
    rw [h.1]; exact ih
theorem RisI.snoc {l : List Int} {k : Int} (h : RisI l k) (hk : 0 ≤ k) : RisI (l ++ [k]) (k + 1) := ⟨Z6e h.ris (fun y hy => by have := h.bd y hy; omega), fun y hy => by
  rcases List.mem_append.1 hy with h1 | h1
  · have := h.bd y h1; omega
  · rw [List.mem_singleton.1 h1]; omega⟩
theorem RisI.wide {l : List Int} {k k' : Int} (h : RisI l k) (hk : k ≤ k') : RisI l k' := ⟨h.ris, fun y hy => by have := h.bd y hy; omega⟩
def LnI (folk years top : Int) (l : List Ln) : Prop := ∀ x ∈ l, (1 ≤ x.bu ∧ x.bu ≤ top) ∧ (1 ≤ x.who ∧ x.who ≤ folk - 1) ∧ 0 ≤ x.year ∧ x.year ≤ years - 1
theorem LnI.snoc {folk years top : Int} {l : List Ln} (h : LnI folk years top l) {x : Ln} (hx : (1 ≤ x.bu ∧ x.bu ≤ top) ∧ (1 ≤ x.who ∧ x.who ≤ folk - 1) ∧ 0 ≤ x.year ∧ x.year ≤ years - 1) : LnI folk years top (l ++ [x]) := fun y hy => by
  rcases List.mem_append.1 hy with h1 | h1
  · exact h y h1
  · rw [List.mem_singleton.1 h1]; exact hx
structure PayI (folk years many : Int) (l : List Ln) (k : Nat) : Prop where
  len : l.length = k
  all : LnI folk years 70 l
  srt : Z4P l = true
  top : ∀ x ∈ l, x.year ≤ (k : Int) * years / many
theorem PayI.snoc {folk years many : Int} {l : List Ln} {k : Nat} (h : PayI folk years many l k) (hy : 1 ≤ years) (hk : (k : Int) < many) {x : Ln} (h1 : 1 ≤ x.bu ∧ x.bu ≤ 70) (h2 : 1 ≤ x.who ∧ x.who ≤ folk - 1) (h3 : x.year = (k : Int) * years / many) : PayI folk years many (l ++ [x]) (k + 1) := by
  have e0 : 0 ≤ (k : Int) * years := Int.mul_nonneg (by omega) (by omega)
  have e1 : 0 ≤ (k : Int) * years / many := Int.ediv_nonneg e0 (by omega)
  have e2 : (k : Int) * years / many < years := Int.ediv_lt_of_lt_mul (by omega) (by rw [Int.mul_comm years many]; exact Int.mul_lt_mul_of_pos_right hk (by omega))
  have e3 : (k : Int) * years / many ≤ ((k + 1 : Nat) : Int) * years / many := Int.ediv_le_ediv (by omega) (Int.mul_le_mul_of_nonneg_right (by omega) (by omega))
  refine ⟨by simp [h.len], h.all.snoc ⟨h1, h2, by omega, by omega⟩, Z47 h.srt (fun y hy => by have := h.top y hy; omega), fun y hy => ?_⟩
  rcases List.mem_append.1 hy with h4 | h4
  · have := h.top y h4; omega
  · rw [List.mem_singleton.1 h4]; omega
end Lo
end Go.Proofs.YtjoajfdnlomapaaGreat
