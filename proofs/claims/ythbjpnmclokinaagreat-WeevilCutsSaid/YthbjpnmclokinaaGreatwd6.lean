/- Walks of the functions of the program, and the laws that join them: what the last theorem of this claim needs, in order. -/
import Derived.Test.YthbjpnmclokinaaGreatwd5
namespace Go.Proofs.YthbjpnmclokinaaGreat
set_option linter.unusedSimpArgs false
set_option linter.unusedVariables false
open Go
theorem ZcA : cal Tryz.prog 10 = true := by kernel_rfl
theorem ZeY : cal Tryz.prog 12 = true := by kernel_rfl
theorem Zfu : cal Tryz.prog 13 = true := by kernel_rfl
theorem Zfe : cal Tryz.prog 16 = true := by kernel_rfl
theorem ZeE : cal Tryz.prog 25 = true := by kernel_rfl
theorem Zfd : cal Tryz.prog 28 = true := by kernel_rfl
theorem ZeR : cal Tryz.prog 75 = true := by kernel_rfl
theorem Z3i {α : Type} {l : List α} {k : Nat} {x : α} (h : l[k]? = some x) : l.take (k + 1) = l.take k ++ [x] := by rw [List.take_add_one, h]; rfl
theorem Z4C (xs : List Int) (a : Option Addr) (c : Nat) (hl : xs.length ≤ 1000000) (H : Z8) (R : Z6) [hR : MemRows a 1 (Z4 xs) R] :
    Fn Tryz.prog 14 [.slice a xs.length c] H R (fun v H' R' => ∃ o : OSl 3 1 (Z4 xs), v = o.fs ∧ o.here ∧ H' = o.G ++ H ∧ R' = R) := by
 refine Zg Tryz.func14 rfl Tryz.ntmps14 rfl ?_
 refine sqt 1 rfl (pur 1 rfl (sqt 6 rfl (pur 1 rfl (sp rfl (PE.lenSl Zw rfl) rfl ?_))))
 refine mkO rfl Z2y zl3 rfl rfl ⟨by omega, by omega⟩ rfl (fun o ho => ?_)
 refine pur 1 rfl ?_
 refine ZeB (news := Z4 xs) o rfl Z2y rfl rfl (Z5t) (by simp [Z4]) (by simp [ZR, Z4, Value.oneCell']) ⟨by simp [Z4]; omega, by simp [Z4]; omega⟩ rfl ho (fun o2 ho2 => ?_)
 refine pur 1 rfl (Z5 ?_)
 exact rtA rfl rfl rfl ⟨o2.cast (by simp), rfl, ho2, rfl, rfl⟩ idH
theorem St.blkRows {rows : List (List Value)} {sz bk e : Nat} {junk : List Value} {H : Z8} {R : Z6} {w : World} (hz : ∀ r ∈ rows, r.length = sz) (hs : St ((bk, cel e (rows.flatten ++ junk)) :: H) R w) :
    St H (RowsA (some ⟨bk, 0, none⟩) sz rows :: R) w := by
  have h1 := (St.freeze hs).also (f := RowsA (some ⟨bk, 0, none⟩) sz rows) (fun w' hw => by
    have hb := hw (fun w => w.heap[bk]? = some (cel e (rows.flatten ++ junk))) (by simp)
    exact Z2d hb hz)
  exact h1.facts (fun g hg => by rcases List.mem_cons.1 hg with h3 | h3 <;> simp [h3])
theorem Z8p (l : List PL) : ∀ r ∈ Zm l, r.length = 1 := fun r hr => by obtain ⟨x, _, rfl⟩ := List.mem_map.1 hr; rfl
theorem Z6y (A B : List PL) : Zm (A ++ B) = Zm A ++ Zm B := by simp [Zm]
theorem Z5N (l : List PL) : (Zm l).flatten.length = l.length := by rw [Z0b (Z8p l), Zv]; omega
def ZaJ (ql : List PL) (n : Nat) : List Value := (Zm ql).flatten ++ (List.replicate n [Value.slice none 0 0]).flatten
theorem Za2 (ql : List PL) (n : Nat) : (ZaJ ql n).length = ql.length + n := by
  unfold ZaJ
  rw [List.length_append, Z5N, Z0b (sz := 1) (fun q hq => by rw [(List.mem_replicate.1 hq).2]; rfl), List.length_replicate]; omega
theorem Za1 (ql : List PL) (n : Nat) (x : PL) {i : Nat} (e : i = ql.length) : spl (ZaJ ql (n + 1)) i [.slice x.a x.l.length x.c] = ZaJ (ql ++ [x]) n := by
  subst e
  unfold ZaJ
  rw [List.replicate_succ, List.flatten_cons, Z6y, List.flatten_append, List.append_assoc]
  have := Zam (p := (Zm ql).flatten) (q := [Value.slice none 0 0]) (s := (List.replicate n [Value.slice none 0 0]).flatten) (vs := [.slice x.a x.l.length x.c]) rfl
  rw [Z5N] at this
  exact this
theorem St.innSnocH {a : Option Addr} {c : Nat} {l0 : List Int} {l : List PL} {H : Z8} {R : Z6} {w : World} [m1 : MemF (Inn l) R] [m2 : MemRows a 1 (Z4 l0) R] (h : St H R w) : St H (Inn (l ++ [⟨a, c, l0⟩]) :: R) w :=
  h.also fun w' hw x hx => by
    rcases List.mem_append.1 hx with hx | hx
    · exact hw _ m1.mem x hx
    · obtain rfl : x = ⟨a, c, l0⟩ := by simpa using hx
      exact hw _ m2.mem
theorem Z7c (pl : List PL) (ap : Option Addr) (cp : Nat) (hpl : pl.length ≤ 1000000) (hpi : ∀ x ∈ pl, x.l.length ≤ 1000000) (H : Z8) (R : Z6) [hP : MemRows ap 1 (Zm pl) R] [hI : MemF (Inn pl) R] :
    Fn Tryz.prog 15 [.slice ap pl.length cp] H R (fun v H' R' => ∃ (ql : List PL) (aq : Option Addr) (cq : Nat), lls ql = lls pl ∧ v = .slice aq ql.length cq ∧ H' = H ∧ R' = RowsA aq 1 (Zm ql) :: Inn ql :: R) := by
 refine Zg Tryz.func15 rfl Tryz.ntmps15 rfl ?_
 refine sqt 1 rfl (pur 1 rfl (sqt 4 rfl (pur 1 rfl (sp rfl (PE.lenSl Z1E rfl) rfl ?_))))
 refine mkS rfl ZeF Z8U rfl rfl (Nat.le_refl _) ⟨by omega, by omega⟩ rfl (fun b8 => ?_)
 refine Sy.heap (H' := (b8, cel 26 (ZaJ [] pl.length)) :: H) (R' := Inn [] :: R) (fun w h => St.inn0 (by rw [← Z1s] at h; exact h)) ?_
 refine pur 1 rfl (Z0 (sqt 3 rfl (pur 1 rfl (sp rfl (PE.lenSl Z1E rfl) rfl (pur 1 rfl (Z3 ?_))))))
 refine Zc (ι := {q : List PL // q.length ≤ pl.length ∧ lls q = (lls pl).take q.length}) (fun q => ⟨[(3, .slice (some ⟨b8, 0, none⟩) pl.length pl.length), (9, .slice ap pl.length cp), (10, .int .i64 pl.length), (11, .int .i64 q.1.length)], (b8, cel 26 (ZaJ q.1 (pl.length - q.1.length))) :: H, Inn q.1 :: R⟩) (fun q => pl.length - q.1.length) ⟨[], Nat.zero_le _, rfl⟩ ?_ (fun q => ?_)
 exact Zj idH
 obtain ⟨q, hq, hqe⟩ := q
 dsimp only at hq hqe ⊢
 refine sqt 1 rfl (pur 1 rfl (Z0 ?_))
 refine Z1 rfl ?_ ?_ <;> intro hc0 <;> try simp only [cS] at hc0
 obtain ⟨x, hx⟩ : ∃ x, pl[q.length]? = some x := ⟨_, List.getElem?_eq_getElem (by omega)⟩
 have hxm := List.mem_of_getElem? hx
 have hxl := hpi x hxm
 refine Zf (a := ap) (sz := 1) (rows := Zm pl) (ne0 (by rw [Zv]; omega)) (fun ba oa he => ?_)
 subst he
 refine Sy.heap (fun w h => St.inn (x := x) h hxm) ?_
 refine Z2 (Z0 (Z3 (sqt 5 rfl (pur 1 rfl (sp rfl (PE.indexAddr Z6r rfl rfl (by omega) (by omega)) rfl (spL rfl rfl (lf0 Z1L (Z1h hx) rfl) rfl (pur 2 rfl (sqr 6 rfl (pur 3 rfl ?_)))))))))
 refine cl rfl Z9x rfl rfl (Z4C x.l x.a x.c hxl _ _) ?_
 rintro _ _ _ ⟨o, rfl, ho, rfl, rfl⟩
 obtain ⟨ax, cx, he, hf⟩ := o.freeze
 rw [he, Z04]
 refine Sy.heap (fun w h => hf h) ?_
 clear he hf
 refine sp rfl (PE.indexAddr Z6r rfl rfl (by omega) (by omega)) rfl ?_
 refine ZT (l' := ZaJ (q ++ [⟨ax, cx, x.l⟩]) (pl.length - (q.length + 1))) rfl rfl rfl Zct rfl rfl rfl (by rw [show pl.length - q.length = (pl.length - (q.length + 1)) + 1 by omega]; exact Za1 q _ ⟨ax, cx, x.l⟩ (by show 0 + ((q.length : Nat) : Int).toNat * 1 = _; omega)) (by rw [Za2]; show 0 + ((q.length : Nat) : Int).toNat * 1 + 1 ≤ _; omega) ?_
 refine sqr 2 rfl (sp rfl (PE.add rfl rfl (by omega)) rfl (pur 1 rfl ?_))
 exact Zb ⟨q ++ [⟨ax, cx, x.l⟩], by rw [List.length_append, List.length_singleton]; omega, by rw [List.length_append, List.length_singleton, Z3i (Z1J hx), ← hqe]; simp [lls]⟩ (by dsimp only; rw [List.length_append, List.length_singleton]; omega) (by dsimp only; rw [List.length_append, List.length_singleton]; exact (by repeat' first | exact Sub.nil | apply Sub.cons | rfl | (simp [lk]; omega))) (fun w h => by dsimp only; rw [List.length_append, List.length_singleton]; exact (St.innSnocH (a := ax) (c := cx) (l0 := x.l) (l := q) h).facts (fun g hg => by rcases List.mem_cons.1 hg with h3 | h3 <;> simp [h3]))
 have hql : q.length = pl.length := by omega
 rw [hql, List.take_of_length_le (by rw [Z03]; exact Nat.le_refl _)] at hqe
 refine Sy.heap (H' := (b8, cel 26 ((Zm q).flatten ++ [])) :: H) (fun w h => by rw [hql, Nat.sub_self] at h; exact h) ?_
 refine Sy.heap (fun w h => St.blkRows (Z8p q) h) ?_
 refine Z7 (Z9 (Z9 (Zn (sqt 2 rfl (pur 2 rfl (Z5 ?_))))))
 exact rtA rfl rfl rfl ⟨q, _, _, hqe, by rw [hql]; rfl, rfl, rfl⟩ idH
theorem Za5 (pl : List PL) (ap : Option Addr) (cp : Nat) (hpl : pl.length ≤ 9223372036854775807) (hpi : ∀ x ∈ pl, x.l.length ≤ 9223372036854775807) (ql : List PL) (aq : Option Addr) (cq : Nat) (hql : ql.length ≤ 9223372036854775807) (hqi : ∀ x ∈ ql, x.l.length ≤ 9223372036854775807) (H : Z8) (R : Z6) [hP : MemRows ap 1 (Zm pl) R] [hI : MemF (Inn pl) R] [hQ : MemRows aq 1 (Zm ql) R] [hJ : MemF (Inn ql) R] :
    FnV Tryz.prog 27 [.slice ap pl.length cp, .slice aq ql.length cq] H R (.bool (decide (lls pl = lls ql))) := by
 refine Zg Tryz.func27 rfl Tryz.ntmps27 rfl ?_
 refine sqt 1 rfl (pur 1 rfl (Z0 (sqt 5 rfl (pur 1 rfl (sp rfl (PE.lenSl Z1E rfl) rfl (pur 1 rfl (sp rfl (PE.lenSl Z1E rfl) rfl (pur 1 rfl ?_))))))))
 refine Z1 rfl ?_ ?_ <;> intro hc0 <;> try simp only [cS] at hc0
 have hne : lls pl ≠ lls ql := fun e => by have := congrArg List.length e; rw [Z03, Z03] at this; omega
 refine sqt 1 rfl (pur 1 rfl (Z5 ?_))
 exact rtA rfl rfl rfl ⟨by first | (simp only [ZC]; rw [dT heq]; done) | (simp only [ZC]; rw [dF hne]), rfl, rfl⟩ drp
 have hle : pl.length = ql.length := by omega
 refine Z2 (Z0 (sqt 3 rfl (pur 1 rfl (sp rfl (PE.lenSl Z1E rfl) rfl (pur 1 rfl (Z3 ?_))))))
 refine Zc (ι := {k : Nat // k ≤ pl.length ∧ (lls pl).take k = (lls ql).take k}) (fun k => ⟨[(1, .slice aq ql.length cq), (12, .slice ap pl.length cp), (13, .int .i64 pl.length), (14, .int .i64 k.1)], H, R⟩) (fun k => pl.length - k.1) ⟨0, Nat.zero_le _, rfl⟩ ?_ (fun k => ?_)
 exact Zj idH
 obtain ⟨k, hk, hke⟩ := k
 dsimp only at hk hke ⊢
 refine sqt 1 rfl (pur 1 rfl (Z0 ?_))
 refine Z1 rfl ?_ ?_ <;> intro hc1 <;> try simp only [cS] at hc1
 obtain ⟨x, hx⟩ : ∃ x, pl[k]? = some x := ⟨_, List.getElem?_eq_getElem (by omega)⟩
 have hxm := List.mem_of_getElem? hx
 have hxl := hpi x hxm
 obtain ⟨z, hz⟩ : ∃ z, ql[k]? = some z := ⟨_, List.getElem?_eq_getElem (by omega)⟩
 have hzm := List.mem_of_getElem? hz
 have hzl := hqi z hzm
 refine Zf (a := ap) (sz := 1) (rows := Zm pl) (ne0 (by rw [Zv]; omega)) (fun ba oa he => ?_)
 subst he
 refine Zf (a := aq) (sz := 1) (rows := Zm ql) (ne0 (by rw [Zv]; omega)) (fun bq oq he => ?_)
 subst he
 refine Sy.heap (fun w h => St.inn (x := x) h hxm) ?_
 refine Sy.heap (fun w h => St.inn (x := z) h hzm) ?_
 refine Z2 (Z0 (Z3 (sqt 5 rfl (pur 1 rfl (sp rfl (PE.indexAddr Z6r rfl rfl (by omega) (by omega)) rfl (spL rfl rfl (lf0 Z1L (Z1h hx) rfl) rfl (pur 2 rfl (sqt 7 rfl (pur 3 rfl (sp rfl (PE.indexAddr Z6r rfl rfl (by omega) (by omega)) rfl (spL rfl rfl (lf0 Z1L (Z1h hz) rfl) rfl ?_)))))))))))
 refine clV rfl ZdJ rfl rfl (Z6g x.l z.l x.a z.a x.c z.c hxl hzl _ _) ?_
 refine pur 1 rfl ?_
 refine Z1 rfl ?_ ?_ <;> intro hc2
 have hne : lls pl ≠ lls ql := fun e => by
   have h1 := Z1J hx; have h2 := Z1J hz
   rw [e, h2] at h1
   have e3 := Option.some.inj h1
   rw [e3] at hc2
   simp at hc2
 refine sqt 1 rfl (pur 1 rfl (Z5 ?_))
 exact rtA rfl rfl rfl ⟨by first | (simp only [ZC]; rw [dT heq]; done) | (simp only [ZC]; rw [dF hne]), rfl, rfl⟩ drp
 have hxz : x.l = z.l := by simpa using hc2
 refine Z2 (sqr 2 rfl (sp rfl (PE.add rfl rfl (by omega)) rfl (pur 1 rfl ?_)))
 exact Za ⟨k + 1, by omega, by rw [Z3i (Z1J hx), Z3i (Z1J hz), hke, hxz]⟩ (fun w h => h.ftail.ftail)
 obtain rfl : k = pl.length := by omega
 have heq : lls pl = lls ql := by
   rw [List.take_of_length_le (by rw [Z03]; exact Nat.le_refl _), List.take_of_length_le (by rw [Z03]; omega)] at hke; exact hke
 refine Z7 (Z9 (Z9 (Zn (sqt 1 rfl (pur 1 rfl (Z5 ?_))))))
 exact rtA rfl rfl rfl ⟨by first | (simp only [ZC]; rw [dT heq]; done) | (simp only [ZC]; rw [dF hne]), rfl, rfl⟩ drp
theorem Z9L {b e : Nat} {l : List Value} {T : Z8} {R R' : Z6} {w : World} (h : St T (Z6q b (cel e l) R :: R') w) : b ∉ ids T := fun hb => by
  have h0 := (h.now (f := Z6q b (cel e l) R) (by simp)).1
  have hlt : b < w.heap.size := (Array.getElem?_eq_some_iff.1 h0).1
  have k1 : Keep (ids T) w { w with heap := w.heap.setIfInBounds b (.deferred (some [])) } := ⟨rfl, rfl, rfl, by simp, fun i hi hn => by
    show (w.heap.setIfInBounds b _)[i]? = _
    rw [Array.getElem?_setIfInBounds_ne (fun e => by subst e; exact hn hb)]⟩
  have h1 := (h.fact _ (by simp : Z6q b (cel e l) R ∈ Z6q b (cel e l) R :: R') _ k1).1
  have h2 : (w.heap.setIfInBounds b (.deferred (some [])))[b]? = some (cel e l) := h1
  rw [Array.getElem?_setIfInBounds_self_of_lt hlt] at h2
  cases h2
theorem Lm.grow {l l2 : List Int} {gs : List Gp} {c m : Nat} (h1 : Lm l m) (h2 : Lm l2 (spr gs c m)) : l.length < l2.length ↔ spr gs c m ≠ m := by
  rw [h1.len, h2.len]
  constructor
  · intro h e; rw [e] at h; exact Nat.lt_irrefl _ h
  · intro h
    have hex : ∃ k, (spr gs c m).testBit k = true ∧ m.testBit k = false := Classical.byContradiction fun hn => h (ZO fun k => by
      cases hb : m.testBit k with
      | true => exact Z0e hb
      | false =>
        cases hb2 : (spr gs c m).testBit k with
        | false => rfl
        | true => exact absurd ⟨k, hb2, hb⟩ hn)
    obtain ⟨k, h3, h4⟩ := hex
    unfold cnt
    exact Z21 (fun x _ hx => Z0e hx) ⟨k, List.mem_range.2 (Z0t h2.lt h3), h3, h4⟩
theorem Z9T (pl : List PL) : Z6e pl pl.length = (lls pl).flatten := by unfold Z6e lls; rw [List.take_length]
theorem ZdW : arE Tryz.prog 135 = some (10, 3) := by kernel_rfl
theorem Zdo : cal Tryz.prog 143 = true := by kernel_rfl
theorem Zd2 : cal Tryz.prog 144 = true := by kernel_rfl
theorem Zft : cal Tryz.prog 15 = true := by kernel_rfl
theorem ZeV : cal Tryz.prog 17 = true := by kernel_rfl
theorem Zf7 : cal Tryz.prog 27 = true := by kernel_rfl
theorem ZeZ : cal Tryz.prog 91 = true := by kernel_rfl
theorem Zf5 : cal Tryz.prog 93 = true := by kernel_rfl
theorem Fn.lendWO {P : Program} {f : FuncId} {args : List Value} {q : Value → Z8 → Prop} {b e sz : Nat} {l : List Value} {T : Z8} {R : Z6} (hz : l.length = sz)
    (h : ∀ B : World → Prop, Fn P f args T (RowsA (some ⟨b, 0, none⟩) sz [l] :: B :: R) (fun v H' R' => q v H' ∧ R' = RowsA (some ⟨b, 0, none⟩) sz [l] :: B :: R)) : Fn P f args ((b, cel e l) :: T) R (fun v H' R' => ∃ T', q v T' ∧ H' = (b, cel e l) :: T' ∧ R' = R) := fun w hw => by
  have h5 : St T (RowsA (some ⟨b, 0, none⟩) sz [l] :: Z6q b (cel e l) R :: R) w :=
    St.also hw.lend (fun w' hg => Z2d (e := e) (rows := [l]) (junk := []) (by simpa using (hg (Z6q b (cel e l) R) (by simp)).1) (fun r hr => by rw [List.mem_singleton.1 hr]; exact hz))
  refine CallsIn.mono (h _ w h5) ?_
  rintro e' w' ⟨u, H', R', ⟨hp, rfl⟩, he, hs'⟩
  have h6 := hs'.ftail
  exact ⟨u, _, R, ⟨H', hp, rfl, rfl⟩, he, h6.unlend (Z9L h6)⟩
def Z41 (l : List Int) : List Int := l.map fun x => -x
theorem ZaN (l : List Int) (i : Nat) : na (Z41 l) i = -na l i := by
  unfold na Z41
  rw [List.getD_eq_getElem?_getD, List.getD_eq_getElem?_getD, List.getElem?_map]
  cases l[i]? <;> simp
theorem Z7M (l : List Int) : (fun i => -na l i) = na (Z41 l) := by funext i; rw [ZaN]
def Z8D (l : List Int) (k : Nat) : List Int := (Z41 l).take k ++ List.replicate (l.length - k) 0
theorem Z1B (l : List Int) : (Z41 l).length = l.length := List.length_map _
theorem Z9A {l : List Int} {k : Nat} (h : k ≤ l.length) : (Z8D l k).length = l.length := by unfold Z8D; rw [List.length_append, List.length_take, Z1B, List.length_replicate]; omega
theorem Zaa {l : List Int} {k : Nat} (h : k < l.length) : (Z8D l k).set k (-na l k) = Z8D l (k + 1) := by
  unfold Z8D
  have h1 : ((Z41 l).take k).length = k := by rw [List.length_take, Z1B]; omega
  rw [List.set_append_right _ _ (by omega), h1, Nat.sub_self, show l.length - k = (l.length - (k + 1)) + 1 by omega, List.replicate_succ, List.set_cons_zero, ← ZaN, List.take_add_one, Z1n (l := Z41 l) (by rw [Z1B]; exact h), List.append_assoc]; rfl
theorem Z9W (l : List Int) : Z8D l l.length = Z41 l := by unfold Z8D; rw [Nat.sub_self, List.take_of_length_le (by rw [Z1B]; exact Nat.le_refl _)]; exact List.append_nil _
def ZeC (l : List Int) : Nat := msF (fun i => decide (na l i = 0)) 10
theorem Z8B {l : List Int} {i : Nat} (h : i < 10) : (!(ZeC l).testBit i) = decide (na l i ≠ 0) := by
  unfold ZeC
  rw [Z2L, decide_eq_true h, Bool.true_and, ← decide_not]
theorem Stp.cg {gs : List Gp} {op op2 : Nat → Bool} {f : Nat → Int} (ho : ∀ i, i < gs.length → op i = op2 i) {u i v : Nat} : Stp gs op f u i v ↔ Stp gs op2 f u i v := by
  constructor
  · rintro ⟨g, h1, h2, h3⟩; exact ⟨g, h1, by rw [← ho i (List.getElem?_eq_some_iff.1 h1).1]; exact h2, h3⟩
  · rintro ⟨g, h1, h2, h3⟩; exact ⟨g, h1, by rw [ho i (List.getElem?_eq_some_iff.1 h1).1]; exact h2, h3⟩
theorem Srch.cg {gs : List Gp} {op op2 : Nat → Bool} {f : Nat → Int} {S K : Nat} {V : List (Nat × Int)} (ho : ∀ i, i < gs.length → op i = op2 i) (h : Srch gs op f S K V) : Srch gs op2 f S K V := ⟨h.nd, h.lt, h.from_, fun q x hx => (h.par q x hx).imp id fun ⟨h1, i, p, y, h2, h3, h4, h5, h6⟩ => ⟨h1, i, p, y, h2, h3, h4, h5, (Stp.cg ho).1 h6⟩⟩
theorem Shn.cg {gs : List Gp} {op op2 : Nat → Bool} {f : Nat → Int} {S K : Nat} {V : List (Nat × Int)} (ho : ∀ i, i < gs.length → op i = op2 i) (h : Shn gs op f S K V) : Shn gs op2 f S K V := ⟨h.s.cg ho, h.no, fun u v i h1 h2 => h.cl u v i h1 ((Stp.cg ho).2 h2)⟩
theorem Way.cg {gs : List Gp} {op op2 : Nat → Bool} {f : Nat → Int} {S K : Nat} (ho : ∀ i, i < gs.length → op i = op2 i) : ∀ {l : List (Nat × Nat)} {u w : Nat}, Way gs op f S K u l w → Way gs op2 f S K u l w
  | [], u, w, h => by cases h; exact .nil _
  | (i, v) :: l, u, w, h => by
    cases h with
    | cons hg ho9 hk hsv hs h =>
      exact .cons hg (by rw [← ho i (List.getElem?_eq_some_iff.1 hg).1]; exact ho9) hk hsv hs (Way.cg ho h)
theorem WayK.cg {gs : List Gp} {op op2 : Nat → Bool} {f : Nat → Int} {S K u w : Nat} {l : List (Nat × Nat)} (ho : ∀ i, i < gs.length → op i = op2 i) (h : WayK gs op f S K u l w) : WayK gs op2 f S K u l w := ⟨h.way.cg ho, h.nd, h.from_, h.to⟩
def WyK (gs : List Gp) (S K : Nat) (p : List Int) : Prop := ∃ (op : Nat → Bool) (f : Nat → Int) (u : Nat) (l : List (Nat × Nat)) (w : Nat), WayK gs op f S K u l w ∧ l ≠ [] ∧ p = l.map fun x => (x.1 : Int)
structure WysP (gs : List Gp) (S K : Nat) (pl : List PL) : Prop where
  rng : ∀ x ∈ (lls pl).flatten, 0 ≤ x ∧ x < (gs.length : Int)
  nd : (lls pl).flatten.Nodup
  wy : ∀ p ∈ lls pl, WyK gs S K p
structure WysI (gs : List Gp) (S K : Nat) (fl : List Int) (pl : List PL) (F : Int) : Prop where
  p : WysP gs S K pl
  len : fl.length = 10
  flw : Flw (na fl) S K gs
  cnt : Z0v (na fl) S gs + pl.length = F
  zr : ∀ x ∈ (lls pl).flatten, na fl x.toNat = 0
theorem ZbE {f : Nat → Int} {l : List (Nat × Nat)} {i : Nat} (h : i ∈ l.map (·.1)) : Z5l f l i = 0 := by
  obtain ⟨x, hx, rfl⟩ := List.mem_map.1 h
  unfold Z5l
  rw [List.any_eq_true.2 ⟨x, hx, decide_eq_true rfl⟩]; rfl
theorem WysI.more {gs : List Gp} {S K : Nat} {fl fl2 : List Int} {pl : List PL} {F : Int} (h : WysI gs S K fl pl F) (ht : Two gs S K) {u w : Nat} {l : List (Nat × Nat)} (hw : WayK gs (fun i => decide (na fl i ≠ 0)) (na (Z41 fl)) S K u l w) (hl : l ≠ []) (h2 : fl2.length = 10) (he : ∀ i, na fl2 i = Z5l (na fl) l i) {x : PL} (hx : x.l = l.map fun y => (y.1 : Int)) : WysI gs S K fl2 (pl ++ [x]) F := by
  have hw2 : WayK gs (fun i => decide (na fl i ≠ 0)) (fun i => -na fl i) S K u l w := by rw [Z7M]; exact hw
  obtain ⟨h3, h4⟩ := h.flw.less ht.no ht.ab hw2
  have hfe : na fl2 = Z5l (na fl) l := funext he
  have hfn : (lls (pl ++ [x])).flatten = (lls pl).flatten ++ l.map fun y => (y.1 : Int) := by rw [Z2e, List.flatten_append, List.flatten_singleton, hx]
  have hin : ∀ y ∈ l.map fun y : Nat × Nat => (y.1 : Int), ∃ i : Nat, y = i ∧ i < gs.length ∧ na fl i ≠ 0 ∧ i ∈ l.map (·.1) := fun y hy => by
    obtain ⟨z, hz, rfl⟩ := List.mem_map.1 hy
    obtain ⟨g, _, h5, h6, _⟩ := hw.way.mem z hz
    exact ⟨z.1, rfl, (List.getElem?_eq_some_iff.1 h5).1, of_decide_eq_true h6, List.mem_map.2 ⟨z, hz, rfl⟩⟩
  refine ⟨⟨fun y hy => ?_, ?_, fun p hp => ?_⟩, h2, by rw [hfe]; exact h3, ?_, fun y hy => ?_⟩
  · rw [hfn] at hy
    rcases List.mem_append.1 hy with h5 | h5
    · exact h.p.rng y h5
    · obtain ⟨i, rfl, h6, _⟩ := hin y h5; omega
  · rw [hfn]
    refine List.nodup_append.2 ⟨h.p.nd, ?_, fun a ha b hb e => ?_⟩
    · have h5 := hw.nd
      rw [List.nodup_iff_pairwise_ne, List.pairwise_map] at h5 ⊢
      exact h5.imp fun h6 h7 => h6 (by omega)
    · subst e
      obtain ⟨i, rfl, _, h6, _⟩ := hin a hb
      have h7 := h.zr _ ha
      rw [Int.toNat_natCast] at h7
      exact h6 h7
  · rw [Z2e] at hp
    rcases List.mem_append.1 hp with h5 | h5
    · exact h.p.wy p h5
    · rw [List.mem_singleton.1 h5, hx]
      exact ⟨_, _, u, l, w, hw, hl, rfl⟩
  · rw [hfe, h4, List.length_append, List.length_singleton]
    have := h.cnt; omega
  · rw [he]
    rw [hfn] at hy
    rcases List.mem_append.1 hy with h5 | h5
    · have h6 := h.zr y h5
      unfold Z5l
      rw [h6]
      cases l.any fun x => decide (x.1 = y.toNat) <;> rfl
    · obtain ⟨i, rfl, _, _, h6⟩ := hin y h5
      rw [Int.toNat_natCast]; exact ZbE h6
theorem WysI.done {gs : List Gp} {S K : Nat} {fl : List Int} {pl : List PL} {F : Int} (h : WysI gs S K fl pl F) {V : List (Nat × Int)} (hs : Shn gs (fun i => decide (na fl i ≠ 0)) (na (Z41 fl)) S K V) : (pl.length : Int) = F := by
  have h1 := Shn.empty (f := na fl) (by rw [Z7M]; exact hs) h.flw
  have := h.cnt; omega
theorem WysI.few {gs : List Gp} {S K : Nat} {fl : List Int} {pl : List PL} {F : Int} (h : WysI gs S K fl pl F) : (pl.length : Int) ≤ F := by
  have h1 := Z7v h.flw.drc
  have := h.cnt; omega
theorem Zc4 {gs : List Gp} {S K m : Nat} (h : Cut gs S K m) : m ≤ gs.length := by
  obtain ⟨C, _, _, h3⟩ := h.1
  rw [← h3]; exact Z1Z _ _
theorem pX9 {α : Type} (a b c : α) (G T : List α) : (a :: b :: c :: (G ++ T)).Perm (G ++ (a :: b :: c :: T)) := by
  have := List.perm_append_comm_assoc [a, b, c] G T
  simpa using this
theorem ZdB {α : Type} {l : List α} {p q : α → Bool} (h : ∀ x ∈ l, p x = q x) : l.all p = l.all q := by
  rw [Bool.eq_iff_iff, List.all_eq_true, List.all_eq_true]
  exact ⟨fun h1 x hx => by rw [← h x hx]; exact h1 x hx, fun h1 x hx => by rw [h x hx]; exact h1 x hx⟩
def Hse.shB (h : Hse) (fr to_ gp : List Int) : Bool := to_.all fun k => decide (far ≤ wk h.gaps (msk gp) (msk fr) k.toNat)
def Hse.shE (h : Hse) (fr to_ gp : List Int) : Int := bif decide (h.botE fr to_ ≠ 0) then h.botE fr to_ else Zy (h.gaps.length : Int) gp
def Hse.shR (h : Hse) (fr to_ gp : List Int) : Bool × Int := (decide (h.shE fr to_ gp = 0) && h.shB fr to_ gp, h.shE fr to_ gp)
theorem Z6k {h : Hse} {fr to_ gp : List Int} {e : Int} (he : h.shE fr to_ gp = e) (h0 : e ≠ 0) : h.shR fr to_ gp = (false, e) := by unfold Hse.shR; rw [he, decide_eq_false h0]; rfl
theorem ZaD {h : Hse} {fr to_ gp : List Int} (he : h.shE fr to_ gp = 0) : h.shR fr to_ gp = (h.shB fr to_ gp, 0) := by unfold Hse.shR; rw [he]; rfl
def Zfn (h : Hse) (fr to_ : List Int) (H : Z8) (R : Z6) : Value → Z8 → Z6 → Prop := fun v H' R' => H' = H ∧ ((h.botE fr to_ ≠ 0 ∧ v = .tuple #[.slice none 0 0, .int .i64 (h.botE fr to_)] ∧ R' = R) ∨
  (h.botE fr to_ = 0 ∧ ∃ (pl : List PL) (a : Option Addr) (c : Nat), pl.length ≤ 10 ∧ pl.length ≤ c ∧ WysP h.gaps (msk fr) (msk to_) pl ∧ Cut h.gaps (msk fr) (msk to_) pl.length ∧ v = .tuple #[.slice a pl.length c, .int .i64 0] ∧ R' = RowsA a 1 (Zm pl) :: Inn pl :: R))
theorem Zco (fl : List Int) (hfl : fl.length = 10) (bw i : Nat) (hi : i < 10) (H : Z8) (R : Z6) [mF : MemRows (some ⟨bw, 0, none⟩) 10 [Zr fl] R] :
    FnV Tryz.prog 93 [.int .i64 (i : Int), .pointer (some ⟨bw, 0, none⟩)] H R (.bool (!(decide (na fl i = 0)))) := by
 refine Zg Tryz.func93 rfl Tryz.ntmps93 rfl ?_
 refine sqt 1 rfl (pur 1 rfl (sqt 5 rfl (pur 1 rfl (sp rfl (PE.indexArr Z3Z rfl rfl (by omega) (by omega)) rfl (spL rfl rfl (lfB (sz := 10) sc3 (Z0V (w := fl) (k := i) (by omega) (by show 0 + ((i : Nat) : Int).toNat * 1 = i; omega))) rfl (pur 2 rfl (Z5 ?_)))))))
 exact rtA rfl rfl rfl ⟨by simp [ZC], rfl, rfl⟩ drp
abbrev dkW (h : Hse) (ag as_ : Option Addr) (cg cs : Nat) (bd b9 : Nat) (fl : List Int) : Dk := (Dk.mk h ag as_ cg cs bd 93 [] [.pointer (some ⟨b9, 0, none⟩)] (ZeC fl) [RowsA (some ⟨b9, 0, none⟩) 10 [Zr fl]])
theorem Ze8 (h : Hse) (ag as_ : Option Addr) (cg cs : Nat) (hok : h.ok) (bd b9 : Nat) (fl : List Int) (hfl : fl.length = 10) : (dkW h ag as_ cg cs bd b9 fl).Ok := ⟨hok, Zf5, fun i H R hi hR => by
  have hi10 : i < 10 := Nat.lt_of_lt_of_le hi hok.gl
  have e : (!(dkW h ag as_ cg cs bd b9 fl).cl.testBit i) = !(decide (na fl i = 0)) := by
    show (!(ZeC fl).testBit i) = _
    rw [Z8B hi10, decide_not]
  rw [e]
  haveI : MemRows (some ⟨b9, 0, none⟩) 10 [Zr fl] R := ⟨hR _ (by simp)⟩
  exact Zco fl hfl b9 i hi10 H R⟩
set_option maxHeartbeats 1000000 in
theorem ZcC (h : Hse) (ag as_ : Option Addr) (cg cs : Nat) (hlg : h.gaps.length ≤ 9223372036854775807) (hls : h.sights.length ≤ 9223372036854775807) (fr to_ : List Int) (af at_ : Option Addr) (cf ct : Nat) (hlf : fr.length ≤ 1000000) (hlt : to_.length ≤ 1000000) (hfc : fr.length ≤ cf) (htc : to_.length ≤ ct) (H : Z8) (R : Z6) [hG : MemRows ag 2 (Zd h.gaps) R] [hS : MemRows as_ 3 (Ze h.sights) R] [hF : MemRows af 1 (Z4 fr) R] [hT : MemRows at_ 1 (Z4 to_) R] :
    Fn Tryz.prog 35 [h.v (h.sg ag cg) (h.ss as_ cs), .slice af fr.length cf, .slice at_ to_.length ct] H R (Zfn h fr to_ H R) := by
 refine Zg Tryz.func35 rfl Tryz.ntmps35 rfl ?_
 refine sqt 3 rfl (bx rfl rfl rfl (fun b3 => pur 2 rfl (Z0 (sqt 5 rfl (spL rfl rfl (lhA (htl h (h.sg ag cg) (h.ss as_ cs)) Z0y rfl rfl rfl) rfl (pur 2 rfl ?_))))))
 refine clV rfl Z6t rfl rfl (Z3H h ag as_ cg cs hlg hls fr to_ af at_ cf ct (by omega) (by omega) hfc htc _ _) ?_
 refine pur 1 rfl (sqt 2 rfl (pur 2 rfl ?_))
 refine Z1 rfl ?_ ?_ <;> intro hc0
 have hbe : h.botE fr to_ ≠ 0 := of_decide_eq_true hc0
 refine sqt 3 rfl (pur 3 rfl (Z5 ?_))
 exact rtB rfl rfl rfl rfl ⟨rfl, .inl ⟨hbe, rfl, rfl⟩⟩ (fun w h9 => h9.del b3)
 have hbe : h.botE fr to_ = 0 := Classical.byContradiction fun e => by rw [decide_eq_true e] at hc0; cases hc0
 have hb := Z0u hbe
 obtain ⟨q1, q2, q3, q4, q5, q6⟩ := ZD hb
 have hok := hb.ok
 have hgl := hok.gl
 have ht := Z2i hb
 refine Z2 (sqt 11 rfl (spL rfl rfl (lhA (htl h (h.sg ag cg) (h.ss as_ cs)) Z0y rfl rfl rfl) rfl ?_))
 refine cl rfl Z5w rfl rfl (Z5z h ag as_ cg cs _ _) ?_
 rintro _ _ _ ⟨bd, rfl, rfl, rfl⟩
 refine pur 2 rfl ?_
 refine cl rfl Zdk rfl rfl (ZaA (dkA h ag as_ cg cs bd) (Z0D h ag as_ cg cs hok bd) fr to_ af at_ cf ct q1 q2 q3 (by omega) hb.no _ _) ?_
 rintro _ _ R1 ⟨f0, V0, m0, rfl, rfl, hR1, hfl0, hfw0, hsh0⟩
 obtain rfl := hR1.symm
 clear hR1
 rw [show (dkA h ag as_ cg cs bd).h.gaps = h.gaps from rfl] at hfw0
 rw [Z7f h ag as_ cg cs bd] at hsh0
 obtain ⟨hcut, _⟩ := hsh0.cut ht hfw0
 have hfull : Z0v (na f0) (msk fr) h.gaps = (Z0P (Z0I V0) h.gaps).length := hsh0.full hfw0
 have hc10 := Zc4 hcut
 have hwi : WysI h.gaps (msk fr) (msk to_) f0 [] (Z0P (Z0I V0) h.gaps).length := ⟨⟨by simp [lls], by simp [lls], by simp [lls]⟩, hfl0, hfw0, by rw [hfull]; simp, by simp [lls]⟩
 refine pur 3 rfl (alc rfl Z81 rfl (fun b9 => ?_))
 refine ZaM rfl rfl rfl Zb3 rfl (by rw [Zk]; exact hfl0) rfl (Z0A _) ?_
 refine pur 1 rfl (sqt 1 rfl (pur 1 rfl (Z3 ?_)))
 skip
 refine Sy.heap (fun w h9 => St.inn0 h9) ?_
 refine Zc (ι := (x : {x : List Int × List PL // WysI h.gaps (msk fr) (msk to_) x.1 x.2 (Z0P (Z0I V0) h.gaps).length}) × OSl 26 1 (Zm x.1.2)) (fun y => ⟨[(1, .slice af fr.length cf), (2, .slice at_ to_.length ct), (3, .pointer (some ⟨b3, 0, none⟩)), (9, .pointer (some ⟨b9, 0, none⟩)), (11, y.2.fs)], (b9, cel 135 (Zr y.1.1.1)) :: (y.2.G ++ ((m0, Z0f false (vkv V0)) :: (b3, cel 25 (htl h (h.sg ag cg) (h.ss as_ cs))) :: H)), Inn y.1.1.2 :: RowsA (some ⟨bd, 0, none⟩) 4 [(dkA h ag as_ cg cs bd).row] :: R⟩) (fun y => (Z0P (Z0I V0) h.gaps).length - y.1.1.2.length) ⟨⟨(f0, []), hwi⟩, OSl.nil _ _⟩ ?_ (fun y => ?_)
 exact Zj idH
 obtain ⟨⟨⟨fl, pl⟩, hwi⟩, plo⟩ := y
 dsimp only at hwi plo ⊢
 have hfl := hwi.len
 have hpf := hwi.few
 refine Z3 (sqt 5 rfl (spL rfl rfl (lhA (htl h (h.sg ag cg) (h.ss as_ cs)) Z0y rfl rfl rfl) rfl (sp rfl (PE.makeFunc rfl rfl) rfl (sp rfl (PE.build (out := [_, _, _, _]) Zb1 Zc6 rfl rfl) rfl (bx rfl rfl rfl (fun b38 => pur 1 rfl (sqt 1 rfl (alc rfl Z81 rfl (fun b13 => Z0 (sqt 2 rfl (spL rfl rfl (lhI fl Z6P rfl rfl (hfl)) rfl (pur 1 rfl (Z3 ?_)))))))))))))
 refine Sy.heap (fun w h9 => St.rows (sz := 4) (rows := [(dkW h ag as_ cg cs b38 b9 fl).row]) (rest := []) (h9.pull b38) (by simp [Dk.row])) ?_
 refine Zc (ι := {k : Nat // k ≤ 10}) (fun k => ⟨[(1, .slice af fr.length cf), (2, .slice at_ to_.length ct), (3, .pointer (some ⟨b3, 0, none⟩)), (9, .pointer (some ⟨b9, 0, none⟩)), (11, plo.fs), (12, .pointer (some ⟨b38, 0, none⟩)), (13, .pointer (some ⟨b13, 0, none⟩)), (39, .agg (Zr fl).toArray), (40, .int .i64 (k.1 : Int))], (b13, cel 135 (Zr (Z8D fl k.1))) :: (b9, cel 135 (Zr fl)) :: (plo.G ++ ((m0, Z0f false (vkv V0)) :: (b3, cel 25 (htl h (h.sg ag cg) (h.ss as_ cs))) :: H)), RowsA (some ⟨b38, 0, none⟩) 4 [(dkW h ag as_ cg cs b38 b9 fl).row] :: Inn pl :: RowsA (some ⟨bd, 0, none⟩) 4 [(dkA h ag as_ cg cs bd).row] :: R⟩) (fun k => 10 - k.1) ⟨0, Nat.zero_le _⟩ ?_ (fun k => ?_)
 exact Zj (fun w h9 => by dsimp only; rw [show Zr (Z8D fl 0) = Zr (List.replicate 10 0) by unfold Z8D; rw [hfl]; rfl]; exact h9)
 obtain ⟨k, hk⟩ := k
 dsimp only at hk ⊢
 have hnl := Z9A (l := fl) (k := k) (by omega)
 have hfk := hwi.flw.one k
 refine sqt 1 rfl (pur 1 rfl (Z0 ?_))
 refine Z1 rfl ?_ ?_ <;> intro hc1 <;> try simp only [cS] at hc1
 refine Z2 (Z0 (Z3 (sqt 4 rfl (pur 1 rfl ?_))))
 refine sp rfl ((PE.indexI (l := fl) (i := k) ZdW (Z1G 10000 3 false 1 Z9u) (fun _ => rfl) rfl rfl (by omega) (by omega)).to (Z8S (by omega))) rfl ?_
 refine pur 2 rfl (sqr 5 rfl (pur 2 rfl ?_))
 refine sp rfl ((PE.negW rfl).to (show Value.int .i64 (IntKind.i64.wrap (0 - na fl k)) = Value.int .i64 (-na fl k) by rcases (show na fl k = -1 ∨ na fl k = 0 ∨ na fl k = 1 by omega) with e | e | e <;> rw [e] <;> rfl)) rfl ?_
 refine sp rfl (PE.indexArr Z3Z rfl rfl (by omega) (by omega)) rfl ?_
 refine ZT (l' := Zr ((Z8D fl k).set k (-na fl k))) rfl rfl rfl cn3 rfl rfl rfl (Z0X (by rw [hnl, hfl]; omega) (by show 0 + ((k : Nat) : Int).toNat * 1 = k; omega)) (by rw [Zk, hnl, hfl]; show 0 + ((k : Nat) : Int).toNat * 1 + 1 ≤ _; omega) ?_
 refine sqr 2 rfl (sp rfl (PE.add rfl rfl (by omega)) rfl (pur 1 rfl ?_))
 rw [Zaa (by omega)]
 exact Za ⟨k + 1, by omega⟩ idH
 obtain rfl : k = 10 := by omega
 have hna := Z9W fl
 rw [hfl] at hna
 rw [hna]
 refine Z7 (Z9 (Z9 (Zn (sqt 10 rfl (pur 1 rfl (spL rfl rfl (lhA (rest := []) (Zr (Z41 fl)) Z6P rfl (by rw [List.append_nil]; rfl) (by rw [Zk]; exact (by rw [Z1B]; exact hfl))) rfl (pur 2 rfl ?_)))))))
 refine Z2o b9 ?_
 refine cl rfl Zet rfl rfl (Fn.lendWO (q := (fun v T' => ∃ (V : List (Nat × Int)) (m : Nat) (l : List (Nat × Nat)) (o : OSl 3 1 (Z4 (l.map fun x => (x.1 : Int)))), v = .tuple #[o.fs, .map (some m)] ∧ T' = o.G ++ ((m, Z0f false (vkv V)) :: ((b13, cel 135 (Zr (Z41 fl))) :: (plo.G ++ ((m0, Z0f false (vkv V0)) :: (b3, cel 25 (htl h (h.sg ag cg) (h.ss as_ cs))) :: H)))) ∧ Srch h.gaps (fun i => !(dkW h ag as_ cg cs b38 b9 fl).cl.testBit i) (na (Z41 fl)) (msk fr) (msk to_) V ∧ ((l = [] ∧ Shn h.gaps (fun i => !(dkW h ag as_ cg cs b38 b9 fl).cl.testBit i) (na (Z41 fl)) (msk fr) (msk to_) V) ∨ (l ≠ [] ∧ ∃ u w, WayK h.gaps (fun i => !(dkW h ag as_ cg cs b38 b9 fl).cl.testBit i) (na (Z41 fl)) (msk fr) (msk to_) u l w)))) (sz := 10) (by rw [Zk]; exact hfl) (fun B => Fn.mono (Zar (dkW h ag as_ cg cs b38 b9 fl) (Ze8 h ag as_ cg cs hok b38 b9 fl hfl) (Z41 fl) (by rw [Z1B]; exact hfl) fr to_ af at_ cf ct q1 q2 q3 (by omega) hb.no _ _) (by rintro v H' R' ⟨V, m, l, o, rfl, rfl, rfl, hsr, hlw⟩; exact ⟨⟨V, m, l, o, rfl, rfl, hsr, hlw.imp id fun ⟨h1, u, w, h2, _⟩ => ⟨h1, u, w, h2⟩⟩, rfl⟩))) ?_
 rintro _ _ R1 ⟨T', ⟨V, m, l, o, rfl, rfl, hsr, hlw⟩, rfl, hR1⟩
 obtain rfl := hR1.symm
 clear hR1
 have hcg : ∀ i, i < h.gaps.length → (!(dkW h ag as_ cg cs b38 b9 fl).cl.testBit i) = decide (na fl i ≠ 0) := fun i hi => Z8B (by omega)
 obtain ⟨ao, co, heo, hfz⟩ := o.freeze
 rw [irl, List.length_map] at heo
 rw [heo]
 refine Sy.heap (H' := (b9, cel 135 (Zr fl)) :: ((m, Z0f false (vkv V)) :: (b13, cel 135 (Zr (Z41 fl))) :: (plo.G ++ ((m0, Z0f false (vkv V0)) :: (b3, cel 25 (htl h (h.sg ag cg) (h.ss as_ cs))) :: H)))) (fun w h9 => hfz (h9.perm (List.perm_middle (l₁ := o.G) (a := _)).symm)) ?_
 clear hfz heo
 refine pur 5 rfl (Z0 (sqt 3 rfl (pur 1 rfl (sp rfl (PE.lenSl Zw rfl) rfl (pur 1 rfl ?_)))))
 refine Z1 rfl ?_ ?_ <;> intro hc2 <;> try simp only [cS] at hc2
 obtain ⟨rfl, hshn⟩ := hlw.resolve_right (fun h9 => h9.1 (List.length_eq_zero_iff.1 (by omega)))
 have hdn := hwi.done (hshn.cg hcg)
 obtain ⟨ap, cp, he, hcp, hff⟩ := plo.freezeC
 rw [Zv] at hcp
 rw [he, Zv]
 refine Sy.heap (H' := (b9, cel 135 (Zr fl)) :: ((m, Z0f false (vkv V)) :: (b13, cel 135 (Zr (Z41 fl))) :: ((m0, Z0f false (vkv V0)) :: (b3, cel 25 (htl h (h.sg ag cg) (h.ss as_ cs))) :: H))) (fun w h9 => hff (h9.perm (pX9 _ _ _ plo.G _))) ?_
 clear hff he
 refine sqt 3 rfl (pur 3 rfl (Z5 ?_))
 exact rtB rfl rfl rfl rfl ⟨rfl, .inr ⟨hbe, pl, ap, cp, by omega, hcp, hwi.p, by rw [show pl.length = (Z0P (Z0I V0) h.gaps).length by omega]; exact hcut, rfl, rfl⟩⟩ (fun w h9 => ((((((h9.del b9).del m).del b13).del m0).del b3)).facts (fun g hg => by simp only [List.mem_cons] at hg ⊢; rcases hg with h8 | h8 | h8 <;> simp [h8]))
 obtain ⟨hl0, u9, w9, hwk0⟩ := hlw.resolve_left (fun h9 => by rw [h9.1] at hc2; exact hc2 rfl)
 have hwk := hwk0.cg hcg
 have hpm := hwi.p
 have hlr : ∀ x ∈ l, x.1 < h.gaps.length := fun x hx => by obtain ⟨g, _, h5, _⟩ := hwk.way.mem x hx; exact (List.getElem?_eq_some_iff.1 h5).1
 have hl10 : l.length ≤ 10 := by
   have h9 := hwk.nd.length_le_of_subset (l₂ := List.range 10) fun v hv => by
     obtain ⟨x, hx, rfl⟩ := List.mem_map.1 hv
     have := hlr x hx
     exact List.mem_range.2 (by omega)
   simpa using h9
 obtain ⟨P, hP⟩ : ∃ P : List Int, P = l.map fun x => (x.1 : Int) := ⟨_, rfl⟩
 have hPl : P.length = l.length := by rw [hP, List.length_map]
 rw [← hP]
 rw [show l.length = P.length from hPl.symm]
 have hpk : ∀ (k : Nat) (x : Nat × Nat), l[k]? = some x → P[k]? = some (x.1 : Int) := fun k x hx => by rw [hP, List.getElem?_map, hx]; rfl
 refine Z2 (Z0 (sqt 3 rfl (pur 1 rfl (sp rfl (PE.lenSl Zw rfl) rfl (pur 1 rfl (Z3 ?_))))))
 refine Zc (ι := {y : Nat × List Int // y.1 ≤ l.length ∧ y.2.length = 10 ∧ ∀ i, na y.2 i = Z5l (na fl) (l.take y.1) i}) (fun y => ⟨[(1, .slice af fr.length cf), (2, .slice at_ to_.length ct), (3, .pointer (some ⟨b3, 0, none⟩)), (9, .pointer (some ⟨b9, 0, none⟩)), (11, plo.fs), (16, .slice ao P.length co), (61, .slice ao P.length co), (62, .int .i64 (P.length : Int)), (63, .int .i64 (y.1.1 : Int))], (b9, cel 135 (Zr y.1.2)) :: ((m, Z0f false (vkv V)) :: (b13, cel 135 (Zr (Z41 fl))) :: (plo.G ++ ((m0, Z0f false (vkv V0)) :: (b3, cel 25 (htl h (h.sg ag cg) (h.ss as_ cs))) :: H))), RowsA ao 1 (Z4 P) :: Inn pl :: RowsA (some ⟨bd, 0, none⟩) 4 [(dkA h ag as_ cg cs bd).row] :: R⟩) (fun y => l.length - y.1.1) ⟨(0, fl), Nat.zero_le _, hfl, fun i => by simp [Z5l]⟩ ?_ (fun y => ?_)
 exact Zj (fun w h9 => h9.facts (fun g hg => by simp only [List.mem_cons] at hg ⊢; rcases hg with h8 | h8 | h8 | h8 <;> simp [h8]))
 obtain ⟨⟨k, f2⟩, hk, hf2, hdl⟩ := y
 dsimp only at hk hf2 hdl ⊢
 refine sqt 1 rfl (pur 1 rfl (Z0 ?_))
 refine Z1 rfl ?_ ?_ <;> intro hc3 <;> try simp only [cS] at hc3
 obtain ⟨x, hx⟩ : ∃ x, l[k]? = some x := ⟨_, List.getElem?_eq_getElem (by omega)⟩
 have hxr := hlr x (List.mem_of_getElem? hx)
 obtain ⟨gi, hgi⟩ : ∃ gi, x.1 = gi := ⟨_, rfl⟩
 have hPk := hpk k x hx
 rw [hgi] at hPk hxr
 refine Zf (a := ao) (sz := 1) (rows := Z4 P) (ne0 (by rw [irl]; omega)) (fun ba oa9 he => ?_)
 subst he
 refine Z2 (Z0 (Z3 (sqt 3 rfl (sp rfl (PE.indexAddr Z1e rfl rfl (by omega) (by omega)) rfl (spL rfl rfl (lf0 sc3 (ZH hPk) rfl) rfl (pur 1 rfl (sqr 3 rfl (pur 1 rfl (sp rfl (PE.indexArr Z3Z rfl rfl (by omega) (by omega)) rfl ?_)))))))))
 refine ZT (l' := Zr (f2.set gi 0)) rfl rfl rfl cn3 rfl rfl rfl (Z0X (by omega) (by show 0 + ((gi : Nat) : Int).toNat * 1 = gi; omega)) (by rw [Zk, hf2]; show 0 + ((gi : Nat) : Int).toNat * 1 + 1 ≤ _; omega) ?_
 refine sqr 2 rfl (sp rfl (PE.add rfl rfl (by omega)) rfl (pur 1 rfl ?_))
 exact Zb ⟨(k + 1, f2.set gi 0), by dsimp only; omega, by dsimp only; rw [List.length_set]; exact hf2, fun i => by
   dsimp only
   rw [Z1X (by omega), hdl]
   unfold Z5l
   rw [Z4f hx, List.any_append]
   by_cases e : gi = i
   · subst e; simp [hgi]
   · rw [decide_eq_false e, cond_false]
     have : ([x].any fun x => decide (x.1 = i)) = false := by simp [hgi, e]
     rw [this, Bool.or_false]⟩ (by dsimp only; omega) (by repeat' first | exact Sub.nil | apply Sub.cons | rfl | (simp [lk]; omega)) idH
 obtain rfl : k = l.length := by omega
 rw [List.take_length] at hdl
 have hmore := hwi.more ht hwk hl0 hf2 hdl (x := ⟨ao, co, P⟩) hP
 have hmf := hmore.few
 rw [List.length_append, List.length_singleton] at hmf
 refine Z7 (Z9 (Z9 (Zn (sqr 5 rfl (pur 2 rfl ?_)))))
 skip
 refine bsl (out := [_]) rfl Zcr Z8U rfl rfl rfl rfl rfl rfl (fun b72 => ?_)
 refine apO (plo) rfl ZeF rfl rfl (Z0l (row := Z37 ⟨ao, co, P⟩) rfl) rfl rfl ((by rw [Zv]; simp only [List.length_singleton]; omega)) rfl (fun o73 => ?_)
 refine pur 1 rfl ?_
 exact Zi ⟨⟨(f2, pl ++ [⟨ao, co, P⟩]), hmore⟩, o73.cast (Z0R pl ⟨ao, co, P⟩)⟩ (by dsimp only; rw [List.length_append, List.length_singleton]; omega) (fun w h9 => (St.innSnoc (l := pl) ⟨ao, co, P⟩ ((((h9.del b72).del m).del b13).pull b9)).facts (fun g hg => by simp only [List.mem_cons] at hg ⊢; rcases hg with h8 | h8 | h8 <;> simp [h8]))
theorem Z9y (gp : List Int) (ga : Option Addr) (gc bg9 : Nat) (hgl : gp.length ≤ 1000000) (i : Int) (H : Z8) (R : Z6) [mB : MemRows (some ⟨bg9, 0, none⟩) 1 [[.slice ga gp.length gc]] R] [mG : MemRows ga 1 (Z4 gp) R] :
    FnV Tryz.prog 143 [.int .i64 i, .pointer (some ⟨bg9, 0, none⟩)] H R (.bool (!(ZF gp i))) := by
 refine Zg Tryz.func143 rfl Tryz.ntmps143 rfl ?_
 refine sqt 1 rfl (pur 1 rfl (sqt 5 rfl (spL rfl rfl (lfB (sz := 1) Z1L rfl) rfl (pur 1 rfl ?_))))
 refine clV rfl Z6N rfl rfl (ZM gp ga gc i (by omega) _ _) ?_
 refine pur 2 rfl (Z5 ?_)
 exact rtA rfl rfl rfl ⟨rfl, rfl, rfl⟩ drp
theorem Z92 (ws : List Int) (bw : Nat) (hws : ws.length = 7) (x : Int) (hx : 0 ≤ x ∧ x < 7) (H : Z8) (R : Z6) [hM : Mem1 bw (cel 152 (Zr ws)) H] :
    FnV Tryz.prog 144 [.int .i64 x, .pointer (some ⟨bw, 0, none⟩)] H R (.bool (decide (far ≤ na ws x.toNat))) := by
 refine Zg Tryz.func144 rfl Tryz.ntmps144 rfl ?_
 refine sqt 1 rfl ?_
 obtain ⟨u, rfl⟩ : ∃ u : Nat, x = u := ⟨x.toNat, by omega⟩
 rw [Int.toNat_natCast]
 refine pur 1 rfl (sqt 5 rfl (pur 1 rfl (sp rfl (PE.indexArr Z4m rfl rfl (by omega) (by omega)) rfl (spL rfl rfl (lh sc3 rfl (Z0V (w := ws) (k := u) (by omega) (by show 0 + ((u : Nat) : Int).toNat * 1 = u; omega))) rfl (pur 2 rfl (Z5 ?_))))))
 exact rtA rfl rfl rfl ⟨rfl, rfl, rfl⟩ drp
abbrev dkS (h : Hse) (ag as_ : Option Addr) (cg cs : Nat) (bd b7 : Nat) (gp : List Int) (ga : Option Addr) (gc : Nat) : Dk := Dk.mk h ag as_ cg cs bd 143 [] [.pointer (some ⟨b7, 0, none⟩)] (msk gp) [RowsA (some ⟨b7, 0, none⟩) 1 [[.slice ga gp.length gc]], RowsA ga 1 (Z4 gp)]
theorem Ze6 (h : Hse) (ag as_ : Option Addr) (cg cs : Nat) (hok : h.ok) (bd b7 : Nat) (gp : List Int) (ga : Option Addr) (gc : Nat) (hgl : gp.length ≤ 1000000) (hg0 : ∀ x ∈ gp, 0 ≤ x) : (dkS h ag as_ cg cs bd b7 gp ga gc).Ok := ⟨hok, Zdo, fun i H R hi hR => by
  have e : (!(dkS h ag as_ cg cs bd b7 gp ga gc).cl.testBit i) = !(ZF gp i) := by
    show (!(msk gp).testBit i) = _
    rw [Z5d hg0]
  rw [e]
  haveI : MemRows (some ⟨b7, 0, none⟩) 1 [[.slice ga gp.length gc]] R := ⟨hR _ (by simp)⟩
  haveI : MemRows ga 1 (Z4 gp) R := ⟨hR _ (by simp)⟩
  exact Z9y gp ga gc b7 hgl i H R⟩
theorem Zc2 (h : Hse) (ag as_ : Option Addr) (cg cs : Nat) (hok : h.ok) (fr to_ gp : List Int) (af at_ ga : Option Addr) (cf ct gc : Nat) (q1 : ∀ x ∈ fr, 0 ≤ x ∧ x < 7) (q2 : ∀ x ∈ to_, 0 ≤ x ∧ x < 7) (hlf : fr.length ≤ 1000000) (hlt : to_.length ≤ 1000000) (hgl : gp.length ≤ 1000000) (hg0 : ∀ x ∈ gp, 0 ≤ x) (H : Z8) (R : Z6) [hG : MemRows ag 2 (Zd h.gaps) R] [hS : MemRows as_ 3 (Ze h.sights) R] [hF : MemRows af 1 (Z4 fr) R] [hT : MemRows at_ 1 (Z4 to_) R] [hGp : MemRows ga 1 (Z4 gp) R] :
    FnV Tryz.prog 91 [h.v (h.sg ag cg) (h.ss as_ cs), .slice af fr.length cf, .slice at_ to_.length ct, .slice ga gp.length gc] H R (.bool (h.shB fr to_ gp)) := by
 refine Zg Tryz.func91 rfl Tryz.ntmps91 rfl ?_
 refine sqt 3 rfl (bx rfl rfl rfl (fun b4 => bx rfl rfl rfl (fun b7 => pur 1 rfl (sqt 5 rfl (spL rfl rfl (lhA (htl h (h.sg ag cg) (h.ss as_ cs)) Z0y rfl rfl rfl) rfl (sp rfl (PE.makeFunc rfl rfl) rfl (sp rfl (PE.build (out := [_, _, _, _]) Zb1 Zc6 rfl rfl) rfl (bx rfl rfl rfl (fun b14 => pur 1 rfl (sqt 5 rfl ?_))))))))))
 refine Sy.heap (fun w h9 => St.rows (sz := 1) (rows := [[.slice ga gp.length gc]]) (rest := []) (h9.pull b7) (by simp)) ?_
 refine Sy.heap (fun w h9 => St.rows (sz := 4) (rows := [(dkS h ag as_ cg cs b14 b7 gp ga gc).row]) (rest := []) (h9.pull b14) (by simp [Dk.row])) ?_
 refine pur 2 rfl ?_
 refine clV rfl Z69 rfl rfl (Z4d (dkS h ag as_ cg cs b14 b7 gp ga gc) (Ze6 h ag as_ cg cs hok b14 b7 gp ga gc hgl hg0) fr af cf (by omega) q1 _ _) ?_
 refine alc rfl Z6x rfl (fun b10 => ?_)
 refine ZaM rfl rfl rfl Z8j rfl (by rw [Zk, ZQ]) rfl (Z0A _) ?_
 refine sqt 4 rfl (pur 1 rfl (sp rfl (PE.makeFunc rfl rfl) rfl ?_))
 refine clV rfl ZdX rfl rfl (Z33 to_ at_ ct 144 [] [_] (fun k => decide (far ≤ na (wks h.gaps (msk gp) (msk fr)) k.toNat)) Zd2 (by omega) _ _ (fun _ x hx => Z92 (wks h.gaps (msk gp) (msk fr)) b10 (ZQ _ _ _) x (q2 x hx) _ _)) ?_
 refine pur 1 rfl (Z5 ?_)
 exact rtA rfl rfl rfl ⟨by simp only [ZC]; unfold Hse.shB; congr 1; exact ZdB fun x hx => by rw [Z1Q (by have := q2 x hx; omega)], rfl, rfl⟩ (fun w h9 => St.sub ((h9.del b10).del b4))
theorem ZaW (h : Hse) (ag as_ : Option Addr) (cg cs : Nat) (hlg : h.gaps.length ≤ 9223372036854775807) (hls : h.sights.length ≤ 9223372036854775807) (fr to_ : List Int) (af at_ : Option Addr) (cf ct : Nat) (hlf : fr.length ≤ 1000000) (hlt : to_.length ≤ 1000000) (hfc : fr.length ≤ cf) (htc : to_.length ≤ ct) (gp : List Int) (ga : Option Addr) (gc : Nat) (hgl9 : gp.length ≤ 1000000) (hgc : gp.length ≤ gc) (H : Z8) (R : Z6) [hG : MemRows ag 2 (Zd h.gaps) R] [hS : MemRows as_ 3 (Ze h.sights) R] [hF : MemRows af 1 (Z4 fr) R] [hT : MemRows at_ 1 (Z4 to_) R] [hGp : MemRows ga 1 (Z4 gp) R] :
    FnV Tryz.prog 34 [h.v (h.sg ag cg) (h.ss as_ cs), .slice af fr.length cf, .slice at_ to_.length ct, .slice ga gp.length gc] H R (.tuple #[.bool (h.shR fr to_ gp).1, .int .i64 (h.shR fr to_ gp).2]) := by
 refine Zg Tryz.func34 rfl Tryz.ntmps34 rfl ?_
 refine sqt 3 rfl (bx rfl rfl rfl (fun b4 => pur 2 rfl (Z0 (sqt 5 rfl (spL rfl rfl (lhA (htl h (h.sg ag cg) (h.ss as_ cs)) Z0y rfl rfl rfl) rfl (pur 2 rfl ?_))))))
 refine clV rfl Z6t rfl rfl (Z3H h ag as_ cg cs hlg hls fr to_ af at_ cf ct (by omega) (by omega) hfc htc _ _) ?_
 refine pur 1 rfl (sqt 2 rfl (pur 2 rfl ?_))
 refine Z1 rfl ?_ ?_ <;> intro hc0
 have hbe : h.botE fr to_ ≠ 0 := of_decide_eq_true hc0
 have he : h.shE fr to_ gp = h.botE fr to_ := by unfold Hse.shE; rw [dT hbe]; rfl
 refine sqt 3 rfl (pur 3 rfl (Z5 ?_))
 exact rtB rfl rfl rfl rfl ⟨by rw [Z6k (he) (hbe)] <;> rfl, rfl, rfl⟩ (fun w h9 => h9.del b4)
 have hbe : h.botE fr to_ = 0 := Classical.byContradiction fun e => by rw [decide_eq_true e] at hc0; cases hc0
 have hb := Z0u hbe
 obtain ⟨q1, q2, q3, q4, q5, q6⟩ := ZD hb
 have hok := hb.ok
 have hgl := hok.gl
 have he : h.shE fr to_ gp = Zy (h.gaps.length : Int) gp := by unfold Hse.shE; rw [hbe]; rfl
 refine Z2 (Z0 (sqt 5 rfl (pur 1 rfl (spL rfl rfl (lhA (htl h (h.sg ag cg) (h.ss as_ cs)) Z0y rfl rfl rfl) rfl (sp rfl (PE.makeFunc rfl rfl) rfl ?_)))))
 refine clV rfl Z9a rfl rfl (Z2F gp ga gc 84 [h.v (h.sg ag cg) (h.ss as_ cs)] [] (fun k => inB k 0 ((h.gaps.length : Int) - 1)) ZdL (by omega) hgc _ _ (fun _ z _ => Zev h (by omega) ag cg (h.ss as_ cs) z _ _)) ?_
 refine pur 1 rfl (sqt 2 rfl (pur 2 rfl ?_))
 refine Z1 rfl ?_ ?_ <;> intro hc1 <;> try simp only [cS] at hc1
 have hle : Zy h.gaps.length gp ≠ 0 := hc1
 refine sqt 3 rfl (pur 3 rfl (Z5 ?_))
 exact rtB rfl rfl rfl rfl ⟨by rw [Z6k (he) (hle)] <;> rfl, rfl, rfl⟩ (fun w h9 => h9.del b4)
 have hle : Zy h.gaps.length gp = 0 := Classical.byContradiction hc1
 rw [hle] at he
 refine Z2 (sqt 7 rfl (spL rfl rfl (lhA (htl h (h.sg ag cg) (h.ss as_ cs)) Z0y rfl rfl rfl) rfl (pur 3 rfl ?_)))
 refine clV rfl ZeZ rfl rfl (Zc2 h ag as_ cg cs hok fr to_ gp af at_ ga cf ct gc q1 q2 hlf hlt hgl9 (fun x hx => ((ZA hle).1 x hx).1) _ _) ?_
 refine pur 2 rfl (Z5 ?_)
 exact rtB rfl rfl rfl rfl ⟨by rw [ZaD he] <;> rfl, rfl, rfl⟩ (fun w h9 => h9.del b4)
theorem Zc3 : cal Tryz.prog 30 = true := by kernel_rfl
theorem Z4h (gs : List Gp) (c S k : Nat) : wkC gs c S k < 0 ↔ far ≤ wk gs c S k := by
  unfold wkC
  by_cases h : far ≤ wk gs c S k
  · rw [decide_eq_true h]; exact ⟨fun _ => h, fun _ => by rw [cond_true]; decide⟩
  · rw [decide_eq_false h]
    have := Z5i gs c S k
    exact ⟨fun h1 => by rw [cond_false] at h1; omega, fun h1 => absurd h1 h⟩
theorem ZbM {h : Hse} {fr to_ gp : List Int} (hn : ∀ x ∈ to_, wkC h.gaps (msk gp) (msk fr) x.toNat < 0) : h.shB fr to_ gp = true := by
  unfold Hse.shB
  exact List.all_eq_true.2 fun x hx => decide_eq_true ((Z4h _ _ _ _).1 (hn x hx))
theorem ZcZ {h : Hse} {fr to_ gp : List Int} {x : Int} (hx : x ∈ to_) (hn : ¬ wkC h.gaps (msk gp) (msk fr) x.toNat < 0) : h.shB fr to_ gp = false := by
  unfold Hse.shB
  exact List.all_eq_false.2 ⟨x, hx, by rw [decide_eq_false fun h9 => hn ((Z4h _ _ _ _).2 h9)]; decide⟩
theorem Z56 {h : Hse} {fr to_ gp : List Int} (hw : Wth h.gaps 7) (hS : msk fr < 2 ^ 7) (hK : msk to_ < 2 ^ 7) (ht : ∀ x ∈ to_, 0 ≤ x) : h.shB fr to_ gp = true ↔ Shut h.gaps (msk gp) (msk fr) (msk to_) := by
  rw [Zch hw hS hK]
  unfold Hse.shB
  rw [List.all_eq_true]
  constructor
  · intro h1 k hk
    have h2 := of_decide_eq_true (h1 (k : Int) ((Zs ht k).1 hk))
    rw [Int.toNat_natCast] at h2
    exact (Z4h _ _ _ _).2 h2
  · intro h1 x hx
    refine decide_eq_true ((Z4h _ _ _ _).1 (h1 x.toNat ?_))
    rw [Zs ht, show ((x.toNat : Nat) : Int) = x by have := ht x hx; omega]; exact hx
def Z9J (now : List Int) (g : Gp) : List Int := bif ZF now g.a then [g.b] else []
def Z7E (now : List Int) (g : Gp) : List Int := Z9J now g ++ (bif ZF now g.b then [g.a] else [])
theorem Z9d (now : List Int) (g : Gp) : (Z9J now g).length ≤ 1 ∧ (Z7E now g).length ≤ 2 := by
  unfold Z7E Z9J
  cases ZF now g.a <;> cases ZF now g.b <;> simp
theorem Z9w {now : List Int} {g : Gp} {z : Int} : z ∈ Z7E now g ↔ (g.a ∈ now ∧ z = g.b) ∨ (g.b ∈ now ∧ z = g.a) := by
  unfold Z7E Z9J
  rw [List.mem_append]
  have key : ∀ (a b : Int), (z ∈ (bif ZF now a then [b] else [])) ↔ (a ∈ now ∧ z = b) := fun a b => by
    cases h1 : ZF now a with
    | true => rw [cond_true, List.mem_singleton]; exact ⟨fun h2 => ⟨hasI_iff.1 h1, h2⟩, fun h2 => h2.2⟩
    | false => rw [cond_false]; exact ⟨fun h2 => absurd h2 List.not_mem_nil, fun h2 => by rw [hasI_iff.2 h2.1] at h1; cases h1⟩
  rw [key, key]
theorem Z8X {gs : List Gp} {fr p now : List Int} {q : Nat} {g : Gp} (hg : gs[q]? = some g) (h : ∀ z, z ∈ now ↔ z ∈ Z1d gs 0 fr p) : ∀ z, z ∈ Z7E now g ↔ z ∈ Z1d gs 0 fr (p ++ [(q : Int)]) := fun z => by
  rw [Z9w, Z1V, List.mem_filterMap, Int.toNat_natCast]
  constructor
  · rintro (⟨h1, rfl⟩ | ⟨h1, rfl⟩)
    · exact ⟨g.a, (h _).1 h1, by rw [Z3G hg (Nat.zero_testBit _) (.inl rfl)]; exact congrArg some (by omega)⟩
    · exact ⟨g.b, (h _).1 h1, by rw [Z3G hg (Nat.zero_testBit _) (.inr rfl)]; exact congrArg some (by omega)⟩
  · rintro ⟨b, h1, h2⟩
    by_cases e : g.a = b ∨ g.b = b
    · rw [Z3G hg (Nat.zero_testBit _) e] at h2
      injection h2 with h2
      rcases e with e | e
      · exact .inl ⟨(h _).2 (by rw [e]; exact h1), by omega⟩
      · exact .inr ⟨(h _).2 (by rw [e]; exact h1), by omega⟩
    · rw [Z70 hg (.inr ⟨fun h3 => e (.inl h3), fun h3 => e (.inr h3)⟩)] at h2; cases h2
theorem Zc5 {l l' : List Int} {p : Int → Bool} (h : ∀ z, z ∈ l ↔ z ∈ l') : l.any p = l'.any p := by
  rw [Bool.eq_iff_iff, List.any_eq_true, List.any_eq_true]
  exact ⟨fun ⟨x, h1, h2⟩ => ⟨x, (h x).1 h1, h2⟩, fun ⟨x, h1, h2⟩ => ⟨x, (h x).2 h1, h2⟩⟩
theorem ZbY {h : Hse} {fr to_ : List Int} {ls : List (List Int)} (h0 : h.botE fr to_ = 0) (h1 : Zy h.gaps.length ls.flatten ≠ 0) : h.ledE fr to_ ls = Zy h.gaps.length ls.flatten ∧ h.ledR fr to_ ls = 0 := by
  have e : h.ledE fr to_ ls = Zy h.gaps.length ls.flatten := by unfold Hse.ledE; rw [h0, decide_eq_true h1]; rfl
  exact ⟨e, Z2k e h1⟩
theorem Z8I {h : Hse} {fr to_ : List Int} {ls : List (List Int)} {l : List Int} (h0 : h.botE fr to_ = 0) (h1 : Zy h.gaps.length ls.flatten = 0) (hl : l ∈ ls) (h2 : Z3w h.gaps 0 fr to_ l = false) : h.ledE fr to_ ls = 8 ∧ h.ledR fr to_ ls = 0 := by
  have e : h.ledE fr to_ ls = 8 := by
    unfold Hse.ledE
    have : (ls.all fun l => Z3w h.gaps 0 fr to_ l) = false := List.all_eq_false.2 ⟨l, hl, by rw [h2]; decide⟩
    rw [h0, h1, this]; rfl
  exact ⟨e, Z2k e (by decide)⟩
theorem Z7g {h : Hse} {fr to_ : List Int} {ls : List (List Int)} (h0 : h.botE fr to_ = 0) (h1 : Zy h.gaps.length ls.flatten = 0) (h2 : ∀ l ∈ ls, Z3w h.gaps 0 fr to_ l = true) : h.ledE fr to_ ls = 0 ∧ h.ledR fr to_ ls = ls.length := by
  have e : h.ledE fr to_ ls = 0 := by
    unfold Hse.ledE
    rw [h0, h1, List.all_eq_true.2 h2]; rfl
  exact ⟨e, by unfold Hse.ledR; rw [e]; rfl⟩
theorem Z7d {l : List Int} {p : Int → Bool} {k : Nat} {x : Int} (h : l[k]? = some x) : (l.take (k + 1)).any p = ((l.take k).any p || p x) := by rw [List.take_add_one, h, List.any_append]; simp
set_option maxHeartbeats 600000 in
theorem Z4o (h : Hse) (ag as_ : Option Addr) (cg cs : Nat) (hok : h.ok) (fr to_ gp : List Int) (af at_ ga : Option Addr) (cf ct gc : Nat) (hfr : Zy h.bins fr = 0) (hto : ∀ x ∈ to_, 0 ≤ x ∧ x < h.bins) (hg0 : ∀ x ∈ gp, 0 ≤ x) (htl9 : to_.length ≤ 1000000) (hgl9 : gp.length ≤ 1000000) (H : Z8) (R : Z6) [hG : MemRows ag 2 (Zd h.gaps) R] [hF : MemRows af 1 (Z4 fr) R] [hT : MemRows at_ 1 (Z4 to_) R] [hGp : MemRows ga 1 (Z4 gp) R] :
    FnV Tryz.prog 30 [h.v (h.sg ag cg) (h.ss as_ cs), .slice af fr.length cf, .slice at_ to_.length ct, .slice ga gp.length gc] H R (.bool (h.shB fr to_ gp)) := by
 refine Zg Tryz.func30 rfl Tryz.ntmps30 rfl ?_
 refine sqt 2 rfl ?_
 have hbn := hok.bins
 refine bx rfl rfl rfl (fun b4 => pur 1 rfl (sqt 5 rfl (spL rfl rfl (lhA (htl h (h.sg ag cg) (h.ss as_ cs)) Z6W rfl rfl rfl) rfl (pur 2 rfl ?_))))
 refine cl rfl Zfx rfl rfl (Z99 h ag as_ cg cs hok fr gp af ga cf gc hfr hg0 hgl9 _ _) ?_
 rintro _ _ R1 ⟨wa, wc, rfl, rfl, hR1⟩
 obtain rfl := hR1.symm
 clear hR1
 obtain ⟨W, hW⟩ : ∃ W, W = (wkL h.gaps (msk gp) (msk fr) h.bins.toNat) := ⟨_, rfl⟩
 have hWl : W.length = h.bins.toNat := by rw [hW, Z7I]
 rw [← hW, ← hWl]
 refine pur 1 rfl (Z0 (sqt 1 rfl (pur 1 rfl (Z3 ?_))))
 refine Zc (ι := {k : Nat // k ≤ to_.length ∧ ∀ x ∈ to_.take k, wkC h.gaps (msk gp) (msk fr) x.toNat < 0}) (fun k => ⟨[(2, .slice at_ to_.length ct), (4, .pointer (some ⟨b4, 0, none⟩)), (9, .slice wa W.length wc), (10, .int .i64 (k.1 : Int))], (b4, cel 35 (htl h (h.sg ag cg) (h.ss as_ cs))) :: H, RowsA wa 1 (Z4 W) :: R⟩) (fun k => to_.length - k.1) ⟨0, Nat.zero_le _, by simp⟩ ?_ (fun k => ?_)
 exact Zj idH
 obtain ⟨k, hk, hn⟩ := k
 dsimp only at hk hn ⊢
 refine Z0 (sqt 4 rfl (pur 2 rfl (sp rfl (PE.lenSl Zw rfl) rfl (pur 1 rfl ?_))))
 refine Z1 rfl ?_ ?_ <;> intro hc0 <;> try simp only [cS] at hc0
 obtain ⟨x, hx⟩ : ∃ x, to_[k]? = some x := ⟨_, List.getElem?_eq_getElem (by omega)⟩
 have hxm := List.mem_of_getElem? hx
 have hxb := hto x hxm
 obtain ⟨u, rfl⟩ : ∃ u : Nat, x = u := ⟨x.toNat, by omega⟩
 have hub : u < h.bins.toNat := by omega
 obtain ⟨y, hy⟩ : ∃ y, W[u]? = some y := ⟨_, List.getElem?_eq_getElem (by omega)⟩
 have hyc : y = wkC h.gaps (msk gp) (msk fr) u := by rw [← Z3n hy, hW, Zea hub]
 refine Zf (a := at_) (sz := 1) (rows := Z4 to_) (ne0 (by rw [irl]; omega)) (fun bt ot he => ?_)
 subst he
 refine Zf (a := wa) (sz := 1) (rows := Z4 W) (ne0 (by rw [irl]; omega)) (fun bw ow he => ?_)
 subst he
 refine Z2 (Z0 (Z3 (sqt 8 rfl (pur 3 rfl (sp rfl (PE.indexAddr Z1e rfl rfl (by omega) (by omega)) rfl (spL rfl rfl (lf0 sc3 (ZH hx) rfl) rfl (sp rfl (PE.indexAddr Z1e rfl rfl (by omega) (by omega)) rfl (spL rfl rfl (lf0 sc3 (ZH hy) rfl) rfl (pur 1 rfl ?_)))))))))
 refine Z1 rfl ?_ ?_ <;> intro hc1 <;> try simp only [cS] at hc1
 have hnn := ZcZ (h := h) (fr := fr) (gp := gp) hxm (by rw [Int.toNat_natCast, ← hyc]; omega)
 refine sqt 1 rfl (pur 1 rfl (Z5 ?_))
 exact rtA rfl rfl rfl ⟨by simp only [ZC]; rw [hnn], rfl, rfl⟩ (fun w h9 => St.sub ((h9.del b4).ftail))
 refine Z2 (sqr 3 rfl (pur 1 rfl (sp rfl (PE.add rfl rfl (by omega)) rfl (pur 1 rfl ?_))))
 exact Zb ⟨k + 1, by omega, fun z hz => by
   rw [List.take_add_one, hx] at hz
   rcases List.mem_append.1 hz with h1 | h1
   · exact hn z h1
   · rw [List.mem_singleton.1 h1, Int.toNat_natCast, ← hyc]; omega⟩ (by dsimp only; omega) (by repeat' first | exact Sub.nil | apply Sub.cons | rfl | (simp [lk]; omega)) idH
 obtain rfl : k = to_.length := by omega
 rw [List.take_length] at hn
 have hyy := ZbM hn
 refine Z7 (Z9 (Z9 (Zn (sqt 1 rfl (pur 1 rfl (Z5 ?_))))))
 exact rtA rfl rfl rfl ⟨by simp only [ZC]; rw [hyy], rfl, rfl⟩ (fun w h9 => St.sub ((h9.del b4).ftail))
set_option maxHeartbeats 600000 in
theorem ZcG (h : Hse) (ag as_ : Option Addr) (cg cs : Nat) (fr to_ : List Int) (af at_ : Option Addr) (cf ct : Nat) (hlf : fr.length ≤ 1000000) (hlt : to_.length ≤ 1000000) (hfc : fr.length ≤ cf) (htc : to_.length ≤ ct) (hbe : h.botE fr to_ = 0) (H : Z8) (R : Z6) [hG : MemRows ag 2 (Zd h.gaps) R] [hF : MemRows af 1 (Z4 fr) R] [hT : MemRows at_ 1 (Z4 to_) R] :
    Fn Tryz.prog 32 [h.v (h.sg ag cg) (h.ss as_ cs), .slice af fr.length cf, .slice at_ to_.length ct] H R (fun v H' R' => (∃ m : Nat, Cut h.gaps (msk fr) (msk to_) m ∧ v = .int .i64 (m : Int)) ∧ H' = H ∧ R' = R) := by
 refine Zg Tryz.func32 rfl Tryz.ntmps32 rfl ?_
 refine sqt 2 rfl ?_
 have hb := Z0u hbe
 obtain ⟨q1, q2, q3, q4, q5, q6⟩ := ZD hb
 have hok := hb.ok
 have hgl := hok.gl
 have hbn := hok.bins
 have ht := Z2i hb
 have hto := (ZA hb.ek).1
 have hp10 := Nat.pow_le_pow_right (show 0 < 2 by decide) hgl
 have h10 : (2 : Nat) ^ 10 = 1024 := rfl
 refine bx rfl rfl rfl (fun b3 => pur 1 rfl (sqt 4 rfl (sp rfl (PE.fA Z1q rfl) rfl (spL rfl rfl (lh Z79 rfl rfl) rfl (sp rfl (PE.lenSl Z6M rfl) rfl (pur 1 rfl (Z0 (sqt 1 rfl (pur 1 rfl (Z3 ?_))))))))))
 refine Zc (ι := {y : Nat × Nat // y.1 ≤ 2 ^ h.gaps.length ∧ CtI h.gaps (msk fr) (msk to_) y.1 y.2}) (fun y => ⟨[(1, .slice af fr.length cf), (2, .slice at_ to_.length ct), (3, .pointer (some ⟨b3, 0, none⟩)), (7, .int .i64 (y.1.2 : Int)), (8, .int .i64 (y.1.1 : Int))], (b3, cel 35 (htl h (h.sg ag cg) (h.ss as_ cs))) :: H, R⟩) (fun y => 2 ^ h.gaps.length - y.1.1) ⟨(0, h.gaps.length), Nat.zero_le _, CtI.start _ _ _⟩ ?_ (fun y => ?_)
 exact Zj idH
 obtain ⟨⟨s, b⟩, hs, hct⟩ := y
 dsimp only at hs hct ⊢
 refine Z0 (sqt 6 rfl (pur 1 rfl (sp rfl (PE.fA Z1q rfl) rfl (spL rfl rfl (lh Z79 rfl rfl) rfl (sp rfl (PE.lenSl Z6M rfl) rfl ?_)))))
 refine clV rfl ZeP rfl rfl (Zbh h.gaps.length (by omega) _ _) ?_
 refine pur 1 rfl ?_
 refine Z1 rfl ?_ ?_ <;> intro hc0 <;> try simp only [cS] at hc0
 have hsl : s < 2 ^ h.gaps.length := by omega
 have hs10 : s < 2 ^ 10 := by omega
 have hcnt : (Z1z s).length = cnt h.gaps.length s := Z44 hsl hgl
 have hml := Z64 s
 have hmm := Z5R hs10
 refine Z2 (Z0 (Z3 (sqt 3 rfl (pur 1 rfl ?_))))
 refine cl rfl ZeR rfl rfl (Zbu s hs10 _ _) ?_
 rintro _ _ R1 ⟨o22, rfl, rfl, hR1⟩
 obtain rfl := hR1.symm
 clear hR1
 obtain ⟨al, cl9, he, hcl9, hzz⟩ := o22.freezeC
 rw [irl] at hcl9
 rw [he, irl]
 refine Sy.heap (H' := _) (fun w h9 => hzz h9) ?_
 clear he hzz
 refine pur 1 rfl (sqt 11 rfl (pur 1 rfl (sp rfl (PE.lenSl Zw rfl) rfl (pur 3 rfl ?_))))
 refine Zq 27 rfl ?_ ?_ <;> intro g27
 try simp only [cS] at g27
 refine Z0O rfl rfl rfl rfl rfl (lhA (htl h (h.sg ag cg) (h.ss as_ cs)) Z6W rfl rfl rfl) rfl (pur 3 rfl ?_)
 refine Z2J rfl rfl rfl rfl Zc3 rfl rfl (Z4o h ag as_ cg cs hok fr to_ (Z1z s) af at_ al cf ct cl9 hb.el hto (fun x hx => by obtain ⟨j, _, _, rfl⟩ := memL_bit.1 hx; omega) (by omega) (by omega) _ _) ?_
 refine pur 1 rfl ?_
 refine Z1 rfl ?_ ?_ <;> intro hc1 <;> try simp only [cS] at hc1
 have hsh := (Z56 ht.w ht.s ht.k (fun x hx => (q2 x hx).1)).1 hc1
 rw [hmm] at hsh
 refine sqr 3 rfl (pur 1 rfl (sp rfl (PE.lenSl Zw rfl) rfl (pur 1 rfl (sqr 3 rfl (pur 1 rfl (sp rfl (PE.add rfl rfl (by omega)) rfl (pur 1 rfl ?_)))))))
 rw [hcnt]
 exact Za ⟨(s + 1, cnt h.gaps.length s), by dsimp only; omega, hct.take (by omega) hsh⟩ (fun w h9 => h9.ftail)
 have hsh : ¬ Shut h.gaps s (msk fr) (msk to_) := fun e => by
   have e2 := (Z56 (gp := Z1z s) ht.w ht.s ht.k (fun x hx => (q2 x hx).1)).2 (by rw [hmm]; exact e)
   rw [e2] at hc1; cases hc1
 refine Z2 (sqr 3 rfl (pur 1 rfl (sp rfl (PE.add rfl rfl (by omega)) rfl (pur 1 rfl ?_))))
 exact Za ⟨(s + 1, b), by dsimp only; omega, hct.skip (.inr hsh)⟩ (fun w h9 => h9.ftail)
 try simp only [cS] at g27
 refine pur 6 rfl ?_
 refine ZI rfl ?_
 refine Z2 (sqr 3 rfl (pur 1 rfl (sp rfl (PE.add rfl rfl (by omega)) rfl (pur 1 rfl ?_))))
 exact Za ⟨(s + 1, b), by dsimp only; omega, hct.skip (.inl (by omega))⟩ (fun w h9 => h9.ftail)
 obtain rfl : s = 2 ^ h.gaps.length := by omega
 have hcut := hct.done ht
 refine Z7 (Z9 (Z9 (Zn (sqt 2 rfl (pur 2 rfl (Z5 ?_))))))
 exact rtA rfl rfl rfl ⟨⟨b, hcut, rfl⟩, rfl, rfl⟩ (fun w h9 => h9.del b3)
set_option maxHeartbeats 1000000 in
theorem Z6h (h : Hse) (ag as_ : Option Addr) (cg cs : Nat) (fr to_ : List Int) (af at_ : Option Addr) (cf ct : Nat) (hlf : fr.length ≤ 1000000) (hlt : to_.length ≤ 1000000) (hfc : fr.length ≤ cf) (htc : to_.length ≤ ct) (hbe : h.botE fr to_ = 0) (pl : List PL) (ap : Option Addr) (cp : Nat) (hpl : pl.length ≤ 1000000) (htot : (lls pl).flatten.length ≤ 1000000) (H : Z8) (R : Z6) [hG : MemRows ag 2 (Zd h.gaps) R] [hF : MemRows af 1 (Z4 fr) R] [hT : MemRows at_ 1 (Z4 to_) R] [hP : MemRows ap 1 (Zm pl) R] [hI : MemF (Inn pl) R] :
    FnV Tryz.prog 31 [h.v (h.sg ag cg) (h.ss as_ cs), .slice af fr.length cf, .slice at_ to_.length ct, .slice ap pl.length cp] H R (.tuple #[.int .i64 (h.ledR fr to_ (lls pl)), .int .i64 (h.ledE fr to_ (lls pl))]) := by
 refine Zg Tryz.func31 rfl Tryz.ntmps31 rfl ?_
 refine sqt 3 rfl ?_
 have hb := Z0u hbe
 obtain ⟨q1, q2, q3, q4, q5, q6⟩ := ZD hb
 have hok := hb.ok
 have hgl := hok.gl
 have hll := Z03 pl
 have hxl : ∀ x ∈ pl, x.l.length ≤ 1000000 := fun x hx => by
   have hm : x.l ∈ lls pl := List.mem_map.2 ⟨x, hx, rfl⟩
   have := List.Sublist.length_le (List.sublist_flatten_of_mem hm)
   omega
 refine bx rfl rfl rfl (fun b4 => pur 2 rfl (sqt 1 rfl (pur 1 rfl (Z0 (sqt 1 rfl (pur 1 rfl (Z3 ?_)))))))
 refine Zc (ι := (k : {k : Nat // k ≤ pl.length}) × OSl 3 1 (Z4 (Z6e pl k.1))) (fun y => ⟨[(1, .slice af fr.length cf), (2, .slice at_ to_.length ct), (3, .slice ap pl.length cp), (4, .pointer (some ⟨b4, 0, none⟩)), (10, y.2.fs), (11, .int .i64 (y.1.1 : Int))], y.2.G ++ ((b4, cel 35 (htl h (h.sg ag cg) (h.ss as_ cs))) :: H), R⟩) (fun y => pl.length - y.1.1) ⟨⟨0, Nat.zero_le _⟩, OSl.nil _ _⟩ ?_ (fun y => ?_)
 exact Zj idH
 obtain ⟨⟨k, hk⟩, o⟩ := y
 dsimp only at hk o ⊢
 have hct := Z2m pl k
 have hct2 := Z2m pl (k + 1)
 refine Z0 (sqt 4 rfl (pur 2 rfl (sp rfl (PE.lenSl Z1E rfl) rfl (pur 1 rfl ?_))))
 refine Z1 rfl ?_ ?_ <;> intro hc0 <;> try simp only [cS] at hc0
 obtain ⟨x, hx⟩ : ∃ x, pl[k]? = some x := ⟨_, List.getElem?_eq_getElem (by omega)⟩
 have hst := Z3a hx
 have hsl := congrArg List.length hst
 rw [List.length_append] at hsl
 refine Sy.heap (fun w h9 => St.inn (x := x) h9 (List.mem_of_getElem? hx)) ?_
 refine Zf (a := ap) (sz := 1) (rows := Zm pl) (ne0 (by rw [Zv]; omega)) (fun bp op9 he => ?_)
 subst he
 refine Z2 (Z0 (Z3 (sqr 7 rfl (pur 3 rfl (sp rfl (PE.indexAddr Z6r rfl rfl (by omega) (by omega)) rfl (spL rfl rfl (lf0 Z1L (Z1h hx) rfl) rfl ?_))))))
 refine apO (news := Z4 x.l) o rfl Z2y rfl rfl (Z5t) (irl _) (by simp [ZR, Z4, Value.oneCell']) (by rw [irl, irl]; omega) rfl (fun o31 => ?_)
 refine pur 1 rfl (sqr 3 rfl (pur 1 rfl (sp rfl (PE.add rfl rfl (by omega)) rfl (pur 1 rfl ?_))))
 exact Za ⟨⟨k + 1, by omega⟩, o31.cast (by rw [hst]; simp [Z4])⟩ (fun w h9 => h9.ftail)
 obtain rfl : k = pl.length := by omega
 obtain ⟨a9, c9, he, hc9, hzz⟩ := (o.cast (show _ = Z4 (lls pl).flatten by rw [Z9T])).freezeC
 rw [irl] at hc9
 rw [show o.fs = _ from he, irl]
 refine Sy.heap (H' := _) (fun w h9 => hzz h9) ?_
 clear he hzz
 refine Z7 (Z9 (Z9 (Zn (Z0 (sqt 6 rfl (pur 1 rfl (sp rfl (PE.fA Z1q rfl) rfl (spL rfl rfl (lh Z79 rfl rfl) rfl (sp rfl (PE.lenSl Z6M rfl) rfl ?_)))))))))
 refine clV rfl Z7w rfl rfl (Z1f (lls pl).flatten a9 c9 (h.gaps.length : Int) (by omega) (by omega) hc9 _ _) ?_
 refine pur 1 rfl (sqt 2 rfl (pur 2 rfl ?_))
 refine Z1 rfl ?_ ?_ <;> intro hc1 <;> try simp only [cS] at hc1
 have hE := ZbY hbe hc1
 refine sqt 3 rfl (pur 3 rfl (Z5 ?_))
 exact rtB rfl rfl rfl rfl ⟨by rw [hE.1, hE.2] <;> rfl, rfl, rfl⟩ (fun w h9 => (h9.ftail).del b4)
 have hle : Zy h.gaps.length (lls pl).flatten = 0 := Classical.byContradiction hc1
 have hlx := (ZA hle).1
 refine Sy.heap (fun w h9 => h9.ftail) ?_
 refine Z2 (Z0 (sqt 1 rfl (pur 1 rfl (Z3 ?_))))
 refine Zc (ι := {k : Nat // k ≤ pl.length ∧ ∀ l ∈ (lls pl).take k, Z3w h.gaps 0 fr to_ l = true}) (fun k => ⟨[(1, .slice af fr.length cf), (2, .slice at_ to_.length ct), (3, .slice ap pl.length cp), (4, .pointer (some ⟨b4, 0, none⟩)), (13, .int .i64 (k.1 : Int))], (b4, cel 35 (htl h (h.sg ag cg) (h.ss as_ cs))) :: H, R⟩) (fun k => pl.length - k.1) ⟨0, Nat.zero_le _, by simp⟩ ?_ (fun k => ?_)
 exact Zj idH
 obtain ⟨k, hk, hkl⟩ := k
 dsimp only at hk hkl ⊢
 refine Z0 (sqt 4 rfl (pur 2 rfl (sp rfl (PE.lenSl Z1E rfl) rfl (pur 1 rfl ?_))))
 refine Z1 rfl ?_ ?_ <;> intro hc2 <;> try simp only [cS] at hc2
 obtain ⟨x, hx⟩ : ∃ x, pl[k]? = some x := ⟨_, List.getElem?_eq_getElem (by omega)⟩
 have hxm := List.mem_of_getElem? hx
 have hgx := Z1J hx
 have hlm := List.mem_of_getElem? hgx
 have hx9 := hxl x hxm
 refine Sy.heap (fun w h9 => St.inn (x := x) h9 (List.mem_of_getElem? hx)) ?_
 refine Zf (a := ap) (sz := 1) (rows := Zm pl) (ne0 (by rw [Zv]; omega)) (fun bp op9 he => ?_)
 subst he
 refine Z2 (Z0 (Z3 (Z0 (sqt 6 rfl (pur 2 rfl (sp rfl (PE.indexAddr Z6r rfl rfl (by omega) (by omega)) rfl (spL rfl rfl (lf0 Z1L (Z1h hx) rfl) rfl (sp rfl (PE.lenSl Zw rfl) rfl (pur 1 rfl ?_)))))))))
 refine Z1 rfl ?_ ?_ <;> intro hc3 <;> try simp only [cS] at hc3
 have hE := Z8I hbe hle hlm (by unfold Z3w; rw [dF (show ¬ 0 < x.l.length by omega)]; rfl)
 refine sqt 2 rfl (pur 2 rfl (Z5 ?_))
 exact rtB rfl rfl rfl rfl ⟨by rw [hE.1, hE.2] <;> rfl, rfl, rfl⟩ (fun w h9 => (h9.ftail).del b4)
 refine Z2 (sqt 2 rfl (pur 2 rfl (Z0 (sqt 1 rfl (pur 1 rfl (Z3 ?_))))))
 refine Zc (ι := {y : Nat × List Int × Option Addr × Nat // y.1 ≤ x.l.length ∧ y.2.1.length ≤ 7 ∧ ∀ z, z ∈ y.2.1 ↔ z ∈ Z1d h.gaps 0 fr (x.l.take y.1)}) (fun y => ⟨[(1, .slice af fr.length cf), (2, .slice at_ to_.length ct), (3, .slice (some ⟨bp, op9, none⟩) pl.length cp), (4, .pointer (some ⟨b4, 0, none⟩)), (13, .int .i64 (k : Int)), (14, .slice y.1.2.2.1 y.1.2.1.length y.1.2.2.2), (15, .int .i64 (y.1.1 : Int))], (b4, cel 35 (htl h (h.sg ag cg) (h.ss as_ cs))) :: H, RowsA y.1.2.2.1 1 (Z4 y.1.2.1) :: RowsA x.a 1 (Z4 x.l) :: R⟩) (fun y => x.l.length - y.1.1) ⟨(0, fr, af, cf), Nat.zero_le _, by dsimp only; omega, fun z => by simp [Z1d]⟩ ?_ (fun y => ?_)
 exact Zj (fun w h9 => h9.also (f := RowsA af 1 (Z4 fr)) (fun w9 hg => hg _ (List.mem_cons_of_mem _ hF.mem)))
 obtain ⟨⟨i, now, an, cn⟩, hi, hnl, hnw⟩ := y
 dsimp only at hi hnl hnw ⊢
 refine Z0 (sqt 7 rfl (pur 3 rfl (sp rfl (PE.indexAddr Z6r rfl rfl (by omega) (by omega)) rfl (spL rfl rfl (lf0 Z1L (Z1h hx) rfl) rfl (sp rfl (PE.lenSl Zw rfl) rfl (pur 1 rfl ?_))))))
 refine Z1 rfl ?_ ?_ <;> intro hc4 <;> try simp only [cS] at hc4
 obtain ⟨q, hq⟩ : ∃ q, x.l[i]? = some q := ⟨_, List.getElem?_eq_getElem (by omega)⟩
 have hqr := hlx q (List.mem_flatten.2 ⟨_, hlm, List.mem_of_getElem? hq⟩)
 obtain ⟨u, rfl⟩ : ∃ u : Nat, q = u := ⟨q.toNat, by omega⟩
 obtain ⟨g, hg⟩ : ∃ g, h.gaps[u]? = some g := ⟨_, List.getElem?_eq_getElem (by omega)⟩
 have hsn := Z8X hg hnw
 have htk : x.l.take (i + 1) = x.l.take i ++ [(u : Int)] := by rw [List.take_add_one, hq]; rfl
 rw [← htk] at hsn
 have hs2 := Z9d now g
 refine Zf (a := x.a) (sz := 1) (rows := Z4 x.l) (ne0 (by rw [irl]; omega)) (fun bx9 ox9 hxa => ?_)
 rw [hxa]
 refine Zf (a := ag) (sz := 2) (rows := Zd h.gaps) (ne0 (by rw [Z0m]; omega)) (fun ba bo he => ?_)
 subst he
 refine Z2 (Z0 (Z3 (Z0 ?_)))
 refine Zo [0, 1, 0, 0, 12, 28, 0, 124, 252, 511, 1023, 0, 4095] (.tk 0 (.ld 1 (tks 2 3 (.ld 5 (.tk 6 (.tk 7 (.ld 8 (.tk 9 (.ld 10 (.big 11 (.big 12 .done))))))))))) ZG (by kernel_rfl) ?_
 refine tk rfl (PE.fA Z1q rfl) rfl (ld rfl rfl (lh Z79 rfl rfl) rfl (Zx 2 rfl (tk rfl (PE.indexAddr Z6r rfl rfl (by omega) (by omega)) rfl ?_)))
 refine ld rfl rfl (lf0 Z1L (Z1h hx) (show (Z37 x)[0]? = some (Value.slice (some ⟨bx9, ox9, none⟩) x.l.length x.c) by rw [← hxa]; rfl)) rfl ?_
 refine Zx 1 rfl (tk rfl (PE.indexAddr Z1e rfl rfl (by omega) (by omega)) rfl (ld rfl rfl (lf0 sc3 (ZH hq) rfl) rfl (tk rfl (PE.indexAddr ZeM rfl rfl (by omega) (by omega)) rfl (ld rfl rfl (lfA Zae (row := grow g) (Z0C hg) rfl) rfl (alc rfl Z9P rfl (fun b16 => ?_))))))
 refine bg (fun w hs => ⟨(lfA Zae (row := grow g) (Z0C hg) rfl) w hs, (lf0 sc3 (ZH hq) rfl) w hs, (lf0 Z1L (Z1h hx) (show (Z37 x)[0]? = some (Value.slice (some ⟨bx9, ox9, none⟩) x.l.length x.c) by rw [← hxa]; rfl)) w hs, (lh Z79 rfl rfl) w hs, trivial⟩) ?_
 refine ZT (l' := grow g) rfl rfl rfl Zba rfl rfl rfl rfl (nl rfl) ?_
 refine bgT (sqt 1 rfl (pur 1 rfl (Z0 (sqt 4 rfl ?_))))
 obtain ⟨o9, he9, hg9⟩ : ∃ o : OSl 3 1 (Z4 []), (∀ T : Z8, T = o.G ++ T) ∧ Value.slice none 0 0 = o.fs := ⟨OSl.nil _ _, fun _ => rfl, rfl⟩
 rw [hg9]
 refine Sy.heap (H' := o9.G ++ ((b16, cel 110 (grow g)) :: (b4, cel 35 (htl h (h.sg (some ⟨ba, bo, none⟩) cg) (h.ss as_ cs))) :: H)) (fun w h9 => by rw [← he9]; exact h9) ?_
 refine pur 1 rfl (sp rfl (PE.fA Z0s rfl) rfl (spL rfl rfl (lh sc3 rfl rfl) rfl ?_))
 refine clV rfl Z2D rfl rfl (Z1b now an cn g.a (by omega) _ _) ?_
 refine Z1m (ι := OSl 3 1 (Z4 (Z9J now g))) (fun o => ⟨[(1, .slice af fr.length cf), (2, .slice at_ to_.length ct), (3, .slice (some ⟨bp, op9, none⟩) pl.length cp), (4, .pointer (some ⟨b4, 0, none⟩)), (13, .int .i64 (k : Int)), (14, .slice an now.length cn), (15, .int .i64 (i : Int)), (16, .pointer (some ⟨b16, 0, none⟩)), (17, o.fs)], o.G ++ ((b16, cel 110 (grow g)) :: (b4, cel 35 (htl h (h.sg (some ⟨ba, bo, none⟩) cg) (h.ss as_ cs))) :: H), RowsA an 1 (Z4 now) :: RowsA (some ⟨bx9, ox9, none⟩) 1 (Z4 x.l) :: R⟩) ?_ ?_
 refine Z1 rfl ?_ ?_ <;> intro hc5
 refine sqr 6 rfl (pur 1 rfl (sp rfl (PE.fA Z0L rfl) rfl (spL rfl rfl (lh sc3 rfl rfl) rfl ?_)))
 refine bsl (out := [_]) rfl Z0H zl3 rfl rfl rfl rfl rfl rfl (fun b80 => ?_)
 refine apO (o9) rfl Z2y rfl rfl (Z0l (row := [.int .i64 g.b]) rfl) rfl rfl ((by rw [irl]; simp only [List.length_singleton, List.length_nil]; omega)) rfl (fun o81 => ?_)
 refine pur 1 rfl ?_
 first | exact Zz (o81.cast (by unfold Z9J; simp [Z4, *])) (fun w h9 => h9.del b80) | exact Zz (o9.cast (by unfold Z9J; simp [Z4, *])) idH
 refine Z2 ?_
 first | exact Zz (o81.cast (by unfold Z9J; simp [Z4, *])) (fun w h9 => h9.del b80) | exact Zz (o9.cast (by unfold Z9J; simp [Z4, *])) idH
 intro o
 dsimp only
 refine Z0 (sqt 4 rfl (pur 1 rfl (sp rfl (PE.fA Z0L rfl) rfl (spL rfl rfl (lh sc3 rfl rfl) rfl ?_))))
 refine clV rfl Z2D rfl rfl (Z1b now an cn g.b (by omega) _ _) ?_
 refine Z1m (ι := OSl 3 1 (Z4 (Z7E now g))) (fun o => ⟨[(1, .slice af fr.length cf), (2, .slice at_ to_.length ct), (3, .slice (some ⟨bp, op9, none⟩) pl.length cp), (4, .pointer (some ⟨b4, 0, none⟩)), (13, .int .i64 (k : Int)), (15, .int .i64 (i : Int)), (17, o.fs)], o.G ++ ((b16, cel 110 (grow g)) :: (b4, cel 35 (htl h (h.sg (some ⟨ba, bo, none⟩) cg) (h.ss as_ cs))) :: H), RowsA an 1 (Z4 now) :: RowsA (some ⟨bx9, ox9, none⟩) 1 (Z4 x.l) :: R⟩) ?_ ?_
 refine Z1 rfl ?_ ?_ <;> intro hc6
 refine sqr 6 rfl (pur 1 rfl (sp rfl (PE.fA Z0s rfl) rfl (spL rfl rfl (lh sc3 rfl rfl) rfl ?_)))
 refine bsl (out := [_]) rfl Z0H zl3 rfl rfl rfl rfl rfl rfl (fun b89 => ?_)
 refine apO (o) rfl Z2y rfl rfl (Z0l (row := [.int .i64 g.a]) rfl) rfl rfl ((by rw [irl]; simp only [List.length_singleton]; omega)) rfl (fun o90 => ?_)
 refine pur 1 rfl ?_
 first | exact Zz (o90.cast (by unfold Z7E; simp [Z4, *])) (fun w h9 => h9.del b89) | exact Zz (o.cast (by unfold Z7E; simp [Z4, *])) idH
 refine Z2 ?_
 first | exact Zz (o90.cast (by unfold Z7E; simp [Z4, *])) (fun w h9 => h9.del b89) | exact Zz (o.cast (by unfold Z7E; simp [Z4, *])) idH
 intro o
 dsimp only
 obtain ⟨a8, c8, he8, hc8, hzz⟩ := o.freezeC
 rw [irl] at hc8
 rw [he8, irl]
 refine Sy.heap (H' := _) (fun w h9 => hzz h9) ?_
 clear he8 hzz
 refine sqr 2 rfl (pur 2 rfl (sqr 3 rfl (pur 1 rfl (sp rfl (PE.add rfl rfl (by omega)) rfl (pur 1 rfl ?_)))))
 exact Za ⟨(i + 1, Z7E now g, a8, c8), by dsimp only; omega, by dsimp only; omega, hsn⟩ (fun w h9 => (h9.del b16).facts (fun g hg => by simp only [List.mem_cons] at hg ⊢; rcases hg with h8 | h8 | h8 <;> simp [h8]))
 obtain rfl : i = x.l.length := by omega
 rw [List.take_length] at hnw
 refine Z7 (Z9 (Z9 (Zn (sqt 1 rfl (pur 1 rfl (Z0 (sqt 1 rfl (pur 1 rfl (Z3 ?_)))))))))
 refine Zc (ι := {j : Nat // j ≤ now.length}) (fun j => ⟨[(1, .slice af fr.length cf), (2, .slice at_ to_.length ct), (3, .slice (some ⟨bp, op9, none⟩) pl.length cp), (4, .pointer (some ⟨b4, 0, none⟩)), (13, .int .i64 (k : Int)), (14, .slice an now.length cn), (18, .bool ((now.take j.1).any (ZF to_))), (19, .int .i64 (j.1 : Int))], (b4, cel 35 (htl h (h.sg ag cg) (h.ss as_ cs))) :: H, RowsA an 1 (Z4 now) :: R⟩) (fun j => now.length - j.1) ⟨0, Nat.zero_le _⟩ ?_ (fun j => ?_)
 exact Zj (fun w h9 => h9.facts (fun g hg => by simp only [List.mem_cons] at hg ⊢; rcases hg with h8 | h8 <;> simp [h8]))
 obtain ⟨j, hj⟩ := j
 dsimp only at hj ⊢
 refine Z0 (sqt 4 rfl (pur 2 rfl (sp rfl (PE.lenSl Zw rfl) rfl (pur 1 rfl ?_))))
 refine Z1 rfl ?_ ?_ <;> intro hc7 <;> try simp only [cS] at hc7
 obtain ⟨z, hz⟩ : ∃ z, now[j]? = some z := ⟨_, List.getElem?_eq_getElem (by omega)⟩
 have has1 : (now.take (j + 1)).any (ZF to_) = ((now.take j).any (ZF to_) || ZF to_ z) := Z7d hz
 refine Zf (a := an) (sz := 1) (rows := Z4 now) (ne0 (by rw [irl]; omega)) (fun bn on he => ?_)
 subst he
 refine Z2 (Z0 (Z3 (sqr 10 rfl (pur 2 rfl ?_))))
 refine Zq 99 rfl ?_ ?_ <;> intro g99
 refine pur 8 rfl (sqr 3 rfl (pur 1 rfl (sp rfl (PE.add rfl rfl (by omega)) rfl (pur 1 rfl ?_))))
 first
   | (have f1 : (now.take (j + 1)).any (ZF to_) = true := by rw [has1, g99]; rfl
      exact Zb ⟨j + 1, by omega⟩ (by dsimp only; omega) (by rw [f1]; exact (by repeat' first | exact Sub.nil | apply Sub.cons | rfl | (simp [lk]; omega))) idH)
   | (have f1 : (now.take (j + 1)).any (ZF to_) = ZF to_ z := by rw [has1, g99]; rfl
      exact Zb ⟨j + 1, by omega⟩ (by dsimp only; omega) (by rw [f1]; exact (by repeat' first | exact Sub.nil | apply Sub.cons | rfl | (simp [lk]; omega))) idH)
 refine pur 3 rfl ?_
 refine spG rfl rfl rfl rfl (PE.indexAddr Z1e rfl rfl (by omega) (by omega)) rfl ?_
 refine Z0O rfl rfl rfl rfl rfl (lf0 sc3 (ZH hz) rfl) rfl ?_
 refine Z2J rfl rfl rfl rfl Z2D rfl rfl (Z1b to_ at_ ct z (by omega) _ _) ?_
 refine pur 2 rfl (sqr 3 rfl (pur 1 rfl (sp rfl (PE.add rfl rfl (by omega)) rfl (pur 1 rfl ?_))))
 first
   | (have f1 : (now.take (j + 1)).any (ZF to_) = true := by rw [has1, g99]; rfl
      exact Zb ⟨j + 1, by omega⟩ (by dsimp only; omega) (by rw [f1]; exact (by repeat' first | exact Sub.nil | apply Sub.cons | rfl | (simp [lk]; omega))) idH)
   | (have f1 : (now.take (j + 1)).any (ZF to_) = ZF to_ z := by rw [has1, g99]; rfl
      exact Zb ⟨j + 1, by omega⟩ (by dsimp only; omega) (by rw [f1]; exact (by repeat' first | exact Sub.nil | apply Sub.cons | rfl | (simp [lk]; omega))) idH)
 obtain rfl : j = now.length := by omega
 rw [List.take_length]
 have hld : Z3w h.gaps 0 fr to_ x.l = now.any (ZF to_) := by
   unfold Z3w
   rw [dT (show 0 < x.l.length by omega), Zc5 hnw]; rfl
 refine Z7 (Z9 (Z9 (Zn (sqt 2 rfl (pur 2 rfl ?_)))))
 refine Z1 rfl ?_ ?_ <;> intro hc8
 have hld2 : Z3w h.gaps 0 fr to_ x.l = false := by rw [hld, ← Bool.not_eq_true']; exact hc8
 have hE := Z8I hbe hle hlm hld2
 refine sqt 2 rfl (pur 2 rfl (Z5 ?_))
 exact rtB rfl rfl rfl rfl ⟨by rw [hE.1, hE.2] <;> rfl, rfl, rfl⟩ (fun w h9 => (h9.ftail).del b4)
 have hld2 : Z3w h.gaps 0 fr to_ x.l = true := by rw [hld, ← Bool.not_eq_false']; exact hc8
 refine Z2 (sqr 3 rfl (pur 1 rfl (sp rfl (PE.add rfl rfl (by omega)) rfl (pur 1 rfl ?_))))
 exact Zb ⟨k + 1, by omega, fun l hl => by
   rw [List.take_add_one, hgx] at hl
   rcases List.mem_append.1 hl with h1 | h1
   · exact hkl l h1
   · rw [List.mem_singleton.1 h1]; exact hld2⟩ (by dsimp only; omega) (by repeat' first | exact Sub.nil | apply Sub.cons | rfl | (simp [lk]; omega)) (fun w h9 => h9.ftail)
 obtain rfl : k = pl.length := by omega
 rw [List.take_of_length_le (by omega)] at hkl
 have hE := Z7g hbe hle hkl
 refine Z7 (Z9 (Z9 (Zn (sqt 4 rfl (pur 1 rfl (sp rfl (PE.lenSl Z1E rfl) rfl (pur 2 rfl (Z5 ?_))))))))
 exact rtB rfl rfl rfl rfl ⟨by rw [hE.1, hE.2, hll] <;> rfl, rfl, rfl⟩ (fun w h9 => h9.del b4)
theorem Zdm : cal Tryz.prog 31 = true := by kernel_rfl
theorem Zfk : cal Tryz.prog 32 = true := by kernel_rfl
theorem Zf2 : cal Tryz.prog 34 = true := by kernel_rfl
theorem ZfF : cal Tryz.prog 35 = true := by kernel_rfl
theorem Z7G {P : Program} {H9 : Type} {enc : TypeId × Value → H9} {w : World} {base : Nat} {spare : Nat → Bool} {held : Bool} {fuel T e : Nat} {a : Option Addr} {len cap : Nat} {x : DataW H9 × List MemPlace} (hu : P.underlying T = some (.slice e)) (h : DataW.trod enc P w base spare held fuel T [.slice a len cap] = some x) : len ≤ cap := by
  rcases DataW.trod_slice hu h with ⟨h1, _⟩ | ⟨a', len', cap', elems, rest, n, _, h1, _, hb, hl, hm, hlen, hel, _, _⟩
  · cases h1; exact Nat.le_refl 0
  · cases h1; omega
theorem ZcT (h : Hse) (ag as_ : Option Addr) (cg cs : Nat) (hlg : h.gaps.length ≤ 1000000) (hls : h.sights.length ≤ 1000000) (H : Z8) (R : Z6) [hG : MemRows ag 2 (Zd h.gaps) R] [hS : MemRows as_ 3 (Ze h.sights) R] : Fn Tryz.prog 12 [h.v (h.sg ag cg) (h.ss as_ cs)] H R (fun v H' R' => ∃ (ax ay : Option Addr) (cx cy : Nat), v = h.v (h.sg ax cx) (h.ss ay cy) ∧ H' = H ∧ R' = RowsA ay 3 (Ze h.sights) :: RowsA ax 2 (Zd h.gaps) :: R) := fun w hw => by
  refine CallsIn.mono (ZeJ h ag as_ cg cs hlg hls H R w hw) ?_
  rintro e' w' ⟨u, H', R', ⟨og, os, rfl, rfl, rfl⟩, he, hs'⟩
  obtain ⟨ay, cy, he2, hcy, hz2⟩ := os.freezeC
  obtain ⟨ax, cx, he1, hcx, hz1⟩ := og.freezeC
  rw [Z1Y] at he2
  rw [Z0m] at he1
  have h2 := hz2 hs'
  have h3 := hz1 h2
  refine ⟨_, H, _, ⟨ax, ay, cx, cy, by rw [he1, he2]; rfl, rfl, rfl⟩, he, h3.facts (fun g hg => by simp only [List.mem_cons] at hg ⊢; rcases hg with h8 | h8 | h8 <;> simp [h8])⟩
theorem Z7b (l : List Int) (a : Option Addr) (c : Nat) (hl : l.length ≤ 1000000) (H : Z8) (R : Z6) [hR : MemRows a 1 (Z4 l) R] : Fn Tryz.prog 14 [.slice a l.length c] H R (fun v H' R' => ∃ (ax : Option Addr) (cx : Nat), l.length ≤ cx ∧ v = .slice ax l.length cx ∧ H' = H ∧ R' = RowsA ax 1 (Z4 l) :: R) := fun w hw => by
  refine CallsIn.mono (Z4C l a c hl H R w hw) ?_
  rintro e' w' ⟨u, H', R', ⟨o, rfl, _, rfl, rfl⟩, he, hs'⟩
  obtain ⟨ax, cx, he1, hcx, hz1⟩ := o.freezeC
  rw [irl] at he1 hcx
  exact ⟨_, H, _, ⟨ax, cx, hcx, by rw [he1], rfl, rfl⟩, he, hz1 hs'⟩
theorem Way.on {gs : List Gp} {op : Nat → Bool} {f : Nat → Int} {S K : Nat} (hn : ∀ g ∈ gs, 0 ≤ g.a ∧ 0 ≤ g.b) : ∀ {l : List (Nat × Nat)} {u w : Nat}, Way gs op f S K u l w → ∀ here : List Int, (u : Int) ∈ here → (w : Int) ∈ (l.map fun x => (x.1 : Int)).foldl (fun here q => here.filterMap (Z4y gs 0 q.toNat)) here
  | [], u, w, h, here, hu => by cases h; exact hu
  | (i, v) :: l, u, w, h, here, hu => by
    cases h with
    | cons hg ho hk hsv hs h =>
      rename_i g
      have h0 := hn g (List.mem_of_getElem? hg)
      rw [List.map_cons, List.foldl_cons]
      refine Way.on hn h _ (List.mem_filterMap.2 ⟨(u : Int), hu, ?_⟩)
      dsimp only
      rw [Int.toNat_natCast]
      rcases hs with ⟨h1, h2, _⟩ | ⟨h1, h2, _⟩
      · rw [Z3G hg (Nat.zero_testBit _) (.inl (by omega))]; exact congrArg some (by omega)
      · rw [Z3G hg (Nat.zero_testBit _) (.inr (by omega))]; exact congrArg some (by omega)
theorem WyK.lds {gs : List Gp} {fr to_ p : List Int} (hn : ∀ g ∈ gs, 0 ≤ g.a ∧ 0 ≤ g.b) (hf : ∀ x ∈ fr, 0 ≤ x) (ht : ∀ x ∈ to_, 0 ≤ x) (h : WyK gs (msk fr) (msk to_) p) : Z3w gs 0 fr to_ p = true := by
  obtain ⟨op, f, u, l, w, h1, h2, rfl⟩ := h
  have h3 := h1.way.on hn fr ((Zs hf u).1 h1.from_)
  have h4 := (Zs ht w).1 h1.to
  have h5 := List.length_pos_iff.2 h2
  unfold Z3w Z1d
  rw [List.length_map, decide_eq_true h5, Bool.true_and, List.any_eq_true]
  exact ⟨_, h3, hasI_iff.2 h4⟩
theorem WysP.led {h : Hse} {fr to_ : List Int} {pl : List PL} (hb : h.botE fr to_ = 0) (hp : WysP h.gaps (msk fr) (msk to_) pl) : h.ledE fr to_ (lls pl) = 0 ∧ h.ledR fr to_ (lls pl) = pl.length := by
  have hbo := Z0u hb
  obtain ⟨q1, q2, _⟩ := ZD hbo
  have h1 := Z7g hb (Z4c (n := (h.gaps.length : Int)) hp.rng hp.nd) (fun l hl => (hp.wy l hl).lds (fun g hg => by have := hbo.ok.gaps g hg; omega) (fun x hx => (q1 x hx).1) (fun x hx => (q2 x hx).1))
  rw [Z03] at h1; exact h1
structure CutP (h : Hse) (fr to_ ctl : List Int) : Prop where
  ls : Zy (h.gaps.length : Int) ctl = 0
  sh : h.shB fr to_ ctl = true
  asc : ∀ i, i + 1 < ctl.length → na ctl i < na ctl (i + 1)
  few : ctl.length ≤ 10
theorem Zcd {h : Hse} {fr to_ : List Int} {f : Nat → Int} {V : List (Nat × Int)} (hb : h.botE fr to_ = 0) (hfw : Flw f (msk fr) (msk to_) h.gaps) (hsh : Shn h.gaps (fun _ => true) f (msk fr) (msk to_) V) : CutP h fr to_ (Z0P (Z0I V) h.gaps) := by
  have hbo := Z0u hb
  obtain ⟨q1, q2, _⟩ := ZD hbo
  have hgl := hbo.ok.gl
  have ht := Z2i hbo
  have hm := Z4Z hgl (Z0I V)
  obtain ⟨y, h1, h2, h3⟩ := Z43 (msk (Z0P (Z0I V) h.gaps))
  rw [hm] at h1
  have hml := Z64 (msk (Z0P (Z0I V) h.gaps))
  rw [hm] at hml
  refine ⟨Z4c (fun x hx => ?_) ?_, (Z56 ht.w ht.s ht.k (fun x hx => (q2 x hx).1)).2 (hsh.cut ht hfw).2, fun i hi => ?_, hml⟩
  · obtain ⟨i, g, h4, _, rfl⟩ := cutM_mem.1 hx
    have := (List.getElem?_eq_some_iff.1 h4).1; omega
  · rw [h1, List.nodup_iff_pairwise_ne, List.pairwise_map]
    exact h2.imp fun h4 h5 => by omega
  · rw [h1] at hi ⊢
    rw [List.length_map] at hi
    have h4 := List.pairwise_iff_getElem.1 h2 i (i + 1) (by omega) hi (by omega)
    rw [Z3n (x := (y[i] : Int)) (by rw [List.getElem?_map, List.getElem?_eq_getElem (by omega)]; rfl), Z3n (x := (y[i + 1] : Int)) (by rw [List.getElem?_map, List.getElem?_eq_getElem hi]; rfl)]
    omega
def CtS (h : Hse) (fr to_ : List Int) (m : Nat) : Prop := (h.botE fr to_ ≠ 0 → m = 0) ∧ (h.botE fr to_ = 0 → Cut h.gaps (msk fr) (msk to_) m)
theorem Zen {h : Hse} {fr to_ gp : List Int} (hb : h.botE fr to_ = 0) : h.shE fr to_ gp = Zy (h.gaps.length : Int) gp := by unfold Hse.shE; rw [hb]; rfl
theorem Zbj {h : Hse} {fr to_ gp : List Int} (hb : h.botE fr to_ ≠ 0) : h.shR fr to_ gp = (false, h.botE fr to_) := Z6k (by unfold Hse.shE; rw [decide_eq_true hb]; rfl) hb
theorem ZbW {h : Hse} {fr to_ : List Int} {ls : List (List Int)} (hb : h.botE fr to_ ≠ 0) : h.ledE fr to_ ls = h.botE fr to_ ∧ h.ledR fr to_ ls = 0 := by
  have e : h.ledE fr to_ ls = h.botE fr to_ := by unfold Hse.ledE; rw [decide_eq_true hb]; rfl
  exact ⟨e, Z2k e hb⟩
theorem ZaO : ∀ {l : List (List Int)}, (∀ x ∈ l, x.length ≤ 14) → l.flatten.length ≤ 14 * l.length
  | [], _ => Nat.zero_le _
  | x :: l, h => by
    have h1 := ZaO (l := l) (fun y hy => h y (by simp [hy]))
    have h2 := h x (by simp)
    rw [List.flatten_cons, List.length_append, List.length_cons]; omega
theorem Zas {l : List (List Int)} (h : Zca l = false) : (∀ x ∈ l, x.length ≤ 14) ∧ l.length ≤ 14 := by
  unfold Zca at h
  rw [Bool.or_eq_false_iff] at h
  refine ⟨fun x hx => ?_, by simpa using h.2⟩
  have := List.any_eq_false.1 h.1 x hx
  simpa using this
theorem Zdp (h : Hse) (ag as_ : Option Addr) (cg cs : Nat) (hlg : h.gaps.length ≤ 1000000) (hls : h.sights.length ≤ 1000000) (fr to_ : List Int) (af at_ : Option Addr) (cf ct : Nat) (hlf : fr.length ≤ 1000000) (hlt : to_.length ≤ 1000000) (hfc : fr.length ≤ cf) (htc : to_.length ≤ ct) (m : Nat) (hm : CtS h fr to_ m) (H : Z8) (R : Z6) [hG : MemRows ag 2 (Zd h.gaps) R] [hS : MemRows as_ 3 (Ze h.sights) R] [hF : MemRows af 1 (Z4 fr) R] [hT : MemRows at_ 1 (Z4 to_) R] : Fn Tryz.prog 33 [h.v (h.sg ag cg) (h.ss as_ cs), .slice af fr.length cf, .slice at_ to_.length ct] H R (fun v H' R' => ∃ (ctl : List Int) (a : Option Addr) (c : Nat), ctl.length = m ∧ ctl.length ≤ c ∧ ((h.botE fr to_) = 0 → CutP h fr to_ ctl) ∧ v = .tuple #[.slice a ctl.length c, .int .i64 (h.botE fr to_)] ∧ H' = H ∧ R' = RowsA a 1 (Z4 ctl) :: R) := fun w hw => by
  refine CallsIn.mono (Zdq h ag as_ cg cs (by omega) (by omega) fr to_ af at_ cf ct hlf hlt hfc htc H R w hw) ?_
  rintro e' w' ⟨v, H', R', ⟨rfl, hq⟩, he, hs'⟩
  rcases hq with ⟨h1, rfl, rfl⟩ | ⟨h1, f, V, a, c, h2, h3, h4, rfl, rfl⟩
  · exact ⟨_, _, _, ⟨[], none, 0, (hm.1 h1).symm, Nat.le_refl _, fun h9 => absurd h9 h1, rfl, rfl, rfl⟩, he, St.norows (sz := 1) hs'⟩
  · exact ⟨_, _, _, ⟨_, a, c, (h3.cut (Z2i (Z0u h1)) h2).1.unique (hm.2 h1), h4, fun _ => Zcd h1 h2 h3, by rw [h1], rfl, rfl⟩, he, hs'⟩
theorem Zcc (h : Hse) (ag as_ : Option Addr) (cg cs : Nat) (hlg : h.gaps.length ≤ 1000000) (hls : h.sights.length ≤ 1000000) (fr to_ : List Int) (af at_ : Option Addr) (cf ct : Nat) (hlf : fr.length ≤ 1000000) (hlt : to_.length ≤ 1000000) (hfc : fr.length ≤ cf) (htc : to_.length ≤ ct) (m : Nat) (hm : CtS h fr to_ m) (H : Z8) (R : Z6) [hG : MemRows ag 2 (Zd h.gaps) R] [hS : MemRows as_ 3 (Ze h.sights) R] [hF : MemRows af 1 (Z4 fr) R] [hT : MemRows at_ 1 (Z4 to_) R] : Fn Tryz.prog 35 [h.v (h.sg ag cg) (h.ss as_ cs), .slice af fr.length cf, .slice at_ to_.length ct] H R (fun v H' R' => ∃ (pl : List PL) (a : Option Addr) (c : Nat), pl.length = m ∧ pl.length ≤ c ∧ pl.length ≤ 10 ∧ ((h.botE fr to_) = 0 → WysP h.gaps (msk fr) (msk to_) pl) ∧ v = .tuple #[.slice a pl.length c, .int .i64 (h.botE fr to_)] ∧ H' = H ∧ R' = RowsA a 1 (Zm pl) :: Inn pl :: R) := fun w hw => by
  refine CallsIn.mono (ZcC h ag as_ cg cs (by omega) (by omega) fr to_ af at_ cf ct hlf hlt hfc htc H R w hw) ?_
  rintro e' w' ⟨v, H', R', ⟨rfl, hq⟩, he, hs'⟩
  rcases hq with ⟨h1, rfl, rfl⟩ | ⟨h1, pl, a, c, h2, h3, h4, h5, rfl, rfl⟩
  · exact ⟨_, _, _, ⟨[], none, 0, (hm.1 h1).symm, Nat.le_refl _, Nat.zero_le _, fun h9 => absurd h9 h1, rfl, rfl, rfl⟩, he, St.norows (sz := 1) (St.inn0 hs')⟩
  · exact ⟨_, _, _, ⟨pl, a, c, h5.unique (hm.2 h1), h3, h2, fun _ => h4, by rw [h1], rfl, rfl⟩, he, hs'⟩
set_option maxHeartbeats 1000000 in
theorem Z4F (h : Hse) (ag as_ : Option Addr) (cg cs : Nat) (hlg : h.gaps.length ≤ 9223372036854775807) (hls : h.sights.length ≤ 9223372036854775807) (fr to_ gp : List Int) (af at_ ga : Option Addr) (cf ct gc : Nat) (hlf : fr.length ≤ 9223372036854775807) (hlt : to_.length ≤ 9223372036854775807) (hlp : gp.length ≤ 9223372036854775807) (hfc : fr.length ≤ cf) (htc : to_.length ≤ ct) (hgc : gp.length ≤ gc) (pl : List PL) (ap : Option Addr) (cp : Nat) (hpl : pl.length ≤ 9223372036854775807) (hpi : ∀ x ∈ pl, x.l.length ≤ 9223372036854775807) (H : Z8) (R : Z6) [hG : MemRows ag 2 (Zd h.gaps) R] [hS : MemRows as_ 3 (Ze h.sights) R] [hF : MemRows af 1 (Z4 fr) R] [hT : MemRows at_ 1 (Z4 to_) R] [hGp : MemRows ga 1 (Z4 gp) R] [hP : MemRows ap 1 (Zm pl) R] [hI : MemF (Inn pl) R] :
    Fn Tryz.prog 4 [h.v (h.sg ag cg) (h.ss as_ cs), .slice af fr.length cf, .slice at_ to_.length ct, .slice ga gp.length gc, .slice ap pl.length cp] H R (fun v H' R' => v = .bool true ∧ H' = H ∧ R' = R) := by
 refine Zg Tryz.func4 rfl Tryz.ntmps4 rfl ?_
 refine sqt 2 rfl (bx rfl rfl rfl (fun b5 => pur 1 rfl (Z0 (sqt 13 rfl (spL rfl rfl (lhA (htl h (h.sg ag cg) (h.ss as_ cs)) Z0y rfl rfl rfl) rfl ?_)))))
 refine clV rfl Zfd rfl rfl (Zb8 h ag as_ cg cs (by omega) (by omega) _ _) ?_
 refine pur 1 rfl ?_
 refine Zq 36 rfl ?_ ?_ <;> intro g36
 refine pur 10 rfl ?_
 refine ZW rfl ?_
 refine sqt 2 rfl ?_
 refine clV rfl Z97 rfl rfl (Z4j _ _) ?_
 refine pur 1 rfl (Z5 ?_)
 exact rtA rfl rfl rfl ⟨rfl, rfl, rfl⟩ (fun w h9 => St.sub (h9.del b5))
 refine pur 3 rfl ?_
 refine Zds (out := [_, _, _]) rfl rfl rfl rfl Zcr Z8U rfl rfl rfl rfl rfl rfl (fun b40 => ?_)
 refine Sy.heap (fun w h9 => St.rows (sz := 1) (rows := Zm [⟨af, cf, fr⟩, ⟨at_, ct, to_⟩, ⟨ga, gc, gp⟩]) (rest := []) (h9.pull b40) (by simp [Zm, Z37])) ?_
 refine Z2J rfl rfl rfl rfl ZcA rfl rfl (ZaF [⟨af, cf, fr⟩, ⟨at_, ct, to_⟩, ⟨ga, gc, gp⟩] (some ⟨b40, 0, none⟩) 3 (by simp) (by simp; omega) _ _) ?_
 refine pur 2 rfl ?_
 refine Zq 43 rfl ?_ ?_ <;> intro g43
 refine pur 3 rfl ?_
 refine ZW rfl ?_
 refine sqt 2 rfl ?_
 refine clV rfl Z97 rfl rfl (Z4j _ _) ?_
 refine pur 1 rfl (Z5 ?_)
 exact rtA rfl rfl rfl ⟨rfl, rfl, rfl⟩ (fun w h9 => St.sub (h9.del b5))
 refine Sy.heap (fun w h9 => h9.ftail) ?_
 refine pur 1 rfl ?_
 refine Z2J rfl rfl rfl rfl ZcA rfl rfl (ZaF pl ap cp hpl hpi _ _) ?_
 refine pur 1 rfl ?_
 refine Z1 rfl ?_ ?_ <;> intro hc0
 refine sqt 2 rfl ?_
 refine clV rfl Z97 rfl rfl (Z4j _ _) ?_
 refine pur 1 rfl (Z5 ?_)
 exact rtA rfl rfl rfl ⟨rfl, rfl, rfl⟩ (fun w h9 => St.sub (h9.del b5))
 have hsm : h.gaps.length ≤ 14 ∧ h.sights.length ≤ 12 := by
   unfold Zcs at g36
   rw [Bool.or_eq_false_iff] at g36
   have := of_decide_eq_false g36.1; have := of_decide_eq_false g36.2; omega
 obtain ⟨hsg14, hss12⟩ := hsm
 obtain ⟨hx2, _⟩ := Zas g43
 have hfs : fr.length ≤ 14 := hx2 fr (by simp [lls])
 have hts : to_.length ≤ 14 := hx2 to_ (by simp [lls])
 have hps : gp.length ≤ 14 := hx2 gp (by simp [lls])
 obtain ⟨hpx, hpm⟩ := Zas hc0
 have hll := Z03 pl
 have hpf := ZaO hpx
 have hpi9 : ∀ x ∈ pl, x.l.length ≤ 14 := fun x hx => hpx x.l (List.mem_map.2 ⟨x, hx, rfl⟩)
 refine Z2 (Z0 ?_)
 refine Zcf [0, 1, 0, 7, 0, 0, 63, 127] [0, 1, 2, 3, 4, 5, 6, 7] ZG (by kernel_rfl) rfl (fun s L H1 R1 => ∃ (oa : Option Addr) (ob : Option Addr) (oc : Nat) (od : Nat) (xa : Option Addr) (xb : Option Addr) (xc : Nat) (xd : Nat) (b11 : Nat) (x11 : List Value) (b12 : Nat) (x12 : List Value), Sub [(1, .slice af fr.length cf), (2, .slice at_ to_.length ct), (3, .slice ga gp.length gc), (4, .slice ap pl.length cp), (5, .pointer (some ⟨b5, 0, none⟩))] L ∧ (∀ f ∈ (R : Z6), f ∈ R1) ∧ (s 0 = true → lk L 48 = some (h.v (h.sg ag cg) (h.ss as_ cs))) ∧ (s 1 = true → lk L 49 = some (h.v (h.sg oa oc) (h.ss ob od)) ∧ (RowsA ob 3 (Ze h.sights)) ∈ R1 ∧ (RowsA oa 2 (Zd h.gaps)) ∈ R1) ∧ (s 2 = true → lk L 50 = some (h.v (h.sg ag cg) (h.ss as_ cs))) ∧ (s 3 = true → lk L 51 = some (h.v (h.sg xa xc) (h.ss xb xd)) ∧ (RowsA xb 3 (Ze h.sights)) ∈ R1 ∧ (RowsA xa 2 (Zd h.gaps)) ∈ R1) ∧ (s 4 = true → lk L 11 = some (.pointer (some ⟨b11, 0, none⟩)) ∧ (s 6 = false → x11 = [.int .i64 0, .slice none 0 0, .slice none 0 0])) ∧ (s 5 = true → lk L 12 = some (.pointer (some ⟨b12, 0, none⟩)) ∧ (s 7 = false → x12 = [.int .i64 0, .slice none 0 0, .slice none 0 0])) ∧ (s 6 = true → x11 = htl h (h.sg oa oc) (h.ss ob od)) ∧ (s 7 = true → x12 = htl h (h.sg xa xc) (h.ss xb xd)) ∧ ∀ w, St H1 R1 w → St ((bif s 5 then [(b12, cel 35 x12)] else []) ++ ((bif s 4 then [(b11, cel 25 x11)] else []) ++ ((b5, cel 25 (htl h (h.sg ag cg) (h.ss as_ cs))) :: H))) R1 w) ?_ ?_ ?_
 exact ⟨none, none, 0, 0, none, none, 0, 0, 0, [], 0, [], (by repeat' first | exact Sub.nil | apply Sub.cons | rfl | (simp [lk]; omega)), fun _ hf => hf, ff, ff, ff, ff, ff, ff, ff, ff, fun w y9 => y9⟩
 refine ⟨?_, ?_, ?_, ?_, ?_, ?_, ?_, ?_, trivial⟩
 intro s Lz Hz Rz hdn hs hpre hI K hK
 obtain ⟨oa, ob, oc, od, xa, xb, xc, xd, b11, x11, b12, x12, hL0, hR0, q0, q1, q2, q3, q4, q5, q6, q7, hH⟩ := hI
 refine Sy.heap hH ?_
 refine spL rfl (Sub.lk hL0 _ _ rfl) ((lhA (htl h (h.sg ag cg) (h.ss as_ cs)) Z0y rfl rfl rfl)) rfl ?_
 exact hK _ _ _ ⟨oa, ob, oc, od, xa, xb, xc, xd, b11, x11, b12, x12, Z10 rfl hL0, hR0, fun _ => Z2a, lm2 q1, lm1 q2, lm2 q3, lm2 q4, lm2 q5, q6, q7, fun w y9 => y9⟩
 intro s Lz Hz Rz hdn hs hpre hI K hK
 obtain ⟨oa, ob, oc, od, xa, xb, xc, xd, b11, x11, b12, x12, hL0, hR0, q0, q1, q2, q3, q4, q5, q6, q7, hH⟩ := hI
 have h0 : s 0 = true := hpre 0 rfl
 refine Sy.heap hH ?_
 haveI m0 : MemRows ag 2 (Zd h.gaps) Rz := ⟨hR0 _ (inferInstance : MemRows ag 2 (Zd h.gaps) (R)).mem⟩
 haveI m1 : MemRows as_ 3 (Ze h.sights) Rz := ⟨hR0 _ (inferInstance : MemRows as_ 3 (Ze h.sights) (R)).mem⟩
 refine cl rfl ZeY rfl (by simp only [evs, show ev Lz (.tmp 48) = _ from (q0 h0)]) (ZcT h ag as_ cg cs (by omega) (by omega) _ _) ?_
 rintro _ _ R1 ⟨oa, ob, oc, od, rfl, rfl, hR1⟩
 obtain rfl := hR1.symm
 clear hR1
 exact hK _ _ _ ⟨oa, ob, oc, od, xa, xb, xc, xd, b11, x11, b12, x12, Z10 rfl hL0, Z2N (Z2N (hR0)), fun h => Z08 rfl (q0 h), fun _ => ⟨Z2a, (by simp), (by simp)⟩, fun h => Z08 rfl (q2 h), fun h => ⟨Z08 rfl (q3 h).1, List.mem_cons_of_mem _ (List.mem_cons_of_mem _ ((q3 h).2.1)), List.mem_cons_of_mem _ (List.mem_cons_of_mem _ ((q3 h).2.2))⟩, fun h => ⟨Z08 rfl (q4 h).1, (q4 h).2⟩, fun h => ⟨Z08 rfl (q5 h).1, (q5 h).2⟩, nof hdn hs 6, q7, fun w y9 => y9⟩
 intro s Lz Hz Rz hdn hs hpre hI K hK
 obtain ⟨oa, ob, oc, od, xa, xb, xc, xd, b11, x11, b12, x12, hL0, hR0, q0, q1, q2, q3, q4, q5, q6, q7, hH⟩ := hI
 refine Sy.heap hH ?_
 refine spL rfl (Sub.lk hL0 _ _ rfl) ((lhA (htl h (h.sg ag cg) (h.ss as_ cs)) Z0y rfl rfl rfl)) rfl ?_
 exact hK _ _ _ ⟨oa, ob, oc, od, xa, xb, xc, xd, b11, x11, b12, x12, Z10 rfl hL0, hR0, lm1 q0, lm2 q1, fun _ => Z2a, lm2 q3, lm2 q4, lm2 q5, q6, q7, fun w y9 => y9⟩
 intro s Lz Hz Rz hdn hs hpre hI K hK
 obtain ⟨oa, ob, oc, od, xa, xb, xc, xd, b11, x11, b12, x12, hL0, hR0, q0, q1, q2, q3, q4, q5, q6, q7, hH⟩ := hI
 obtain ⟨h0, h1, h2⟩ : s 0 = true ∧ s 1 = true ∧ s 2 = true := ⟨hpre 0 rfl, hpre 1 rfl, hpre 2 rfl⟩
 refine Sy.heap hH ?_
 haveI m0 : MemRows ag 2 (Zd h.gaps) Rz := ⟨hR0 _ (inferInstance : MemRows ag 2 (Zd h.gaps) (R)).mem⟩
 haveI m1 : MemRows as_ 3 (Ze h.sights) Rz := ⟨hR0 _ (inferInstance : MemRows as_ 3 (Ze h.sights) (R)).mem⟩
 refine cl rfl Zfu rfl (by simp only [evs, show ev Lz (.tmp 50) = _ from (q2 h2)]) (Z8W h ag as_ cg cs (by omega) (by omega) _ _) ?_
 rintro _ _ R1 ⟨xa, xb, xc, xd, rfl, rfl, hR1⟩
 obtain rfl := hR1.symm
 clear hR1
 exact hK _ _ _ ⟨oa, ob, oc, od, xa, xb, xc, xd, b11, x11, b12, x12, Z10 rfl hL0, Z2N (Z2N (hR0)), fun h => Z08 rfl (q0 h), fun h => ⟨Z08 rfl (q1 h).1, List.mem_cons_of_mem _ (List.mem_cons_of_mem _ ((q1 h).2.1)), List.mem_cons_of_mem _ (List.mem_cons_of_mem _ ((q1 h).2.2))⟩, fun h => Z08 rfl (q2 h), fun _ => ⟨Z2a, (by simp), (by simp)⟩, fun h => ⟨Z08 rfl (q4 h).1, (q4 h).2⟩, fun h => ⟨Z08 rfl (q5 h).1, (q5 h).2⟩, q6, nof hdn hs 7, fun w y9 => y9⟩
 intro s Lz Hz Rz hdn hs hpre hI K hK
 obtain ⟨oa, ob, oc, od, xa, xb, xc, xd, b11, x11, b12, x12, hL0, hR0, q0, q1, q2, q3, q4, q5, q6, q7, hH⟩ := hI
 refine Sy.heap hH ?_
 refine alc rfl Zew rfl (fun b11 => ?_)
 exact hK _ _ _ ⟨oa, ob, oc, od, xa, xb, xc, xd, b11, [.int .i64 0, .slice none 0 0, .slice none 0 0], b12, x12, Z10 rfl hL0, hR0, lm1 q0, lm2 q1, lm1 q2, lm2 q3, fun _ => ⟨Z2a, fun _ => rfl⟩, lm2 q5, nof hdn hs 6, q7, fun w y9 => by rw [hs] at y9; exact y9.perm (List.perm_middle.symm.trans (List.Perm.append_left _ (.refl _)))⟩
 intro s Lz Hz Rz hdn hs hpre hI K hK
 obtain ⟨oa, ob, oc, od, xa, xb, xc, xd, b11, x11, b12, x12, hL0, hR0, q0, q1, q2, q3, q4, q5, q6, q7, hH⟩ := hI
 refine Sy.heap hH ?_
 refine alc rfl Zex rfl (fun b12 => ?_)
 exact hK _ _ _ ⟨oa, ob, oc, od, xa, xb, xc, xd, b11, x11, b12, [.int .i64 0, .slice none 0 0, .slice none 0 0], Z10 rfl hL0, hR0, lm1 q0, lm2 q1, lm1 q2, lm2 q3, lm2 q4, fun _ => ⟨Z2a, fun _ => rfl⟩, q6, nof hdn hs 7, fun w y9 => by rw [hs] at y9; exact y9.perm (.refl _)⟩
 intro s Lz Hz Rz hdn hs hpre hI K hK
 obtain ⟨oa, ob, oc, od, xa, xb, xc, xd, b11, x11, b12, x12, hL0, hR0, q0, q1, q2, q3, q4, q5, q6, q7, hH⟩ := hI
 obtain ⟨h0, h1, h2, h3, h4, h5⟩ : s 0 = true ∧ s 1 = true ∧ s 2 = true ∧ s 3 = true ∧ s 4 = true ∧ s 5 = true := ⟨hpre 0 rfl, hpre 1 rfl, hpre 2 rfl, hpre 3 rfl, hpre 4 rfl, hpre 5 rfl⟩
 refine Sy.heap hH ?_
 obtain rfl := (q4 h4).2 hs
 refine Sy.heap (H' := (bif s 5 then [(b12, cel 35 x12)] else []) ++ ((b11, cel 25 [.int .i64 0, .slice none 0 0, .slice none 0 0]) :: ((b5, cel 25 (htl h (h.sg ag cg) (h.ss as_ cs))) :: H))) (fun w y9 => by rw [h4] at y9; exact y9) ?_
 refine ZT (l' := htl h (h.sg oa oc) (h.ss ob od)) rfl (q4 h4).1 (q1 h1).1 ZfD rfl rfl rfl rfl (Nat.le_refl _) ?_
 exact hK _ _ _ ⟨oa, ob, oc, od, xa, xb, xc, xd, b11, htl h (h.sg oa oc) (h.ss ob od), b12, x12, hL0, hR0, q0, q1, q2, q3, fun h => ⟨(q4 h).1, fun h => by cases (show true = false from h)⟩, q5, fun _ => rfl, q7, fun w y9 => by show St ((bif s 5 then [(b12, cel 35 x12)] else []) ++ ((bif s 4 then [(b11, cel 25 (htl h (h.sg oa oc) (h.ss ob od)))] else []) ++ ((b5, cel 25 (htl h (h.sg ag cg) (h.ss as_ cs))) :: H))) Rz w; rw [h4]; exact y9⟩
 intro s Lz Hz Rz hdn hs hpre hI K hK
 obtain ⟨oa, ob, oc, od, xa, xb, xc, xd, b11, x11, b12, x12, hL0, hR0, q0, q1, q2, q3, q4, q5, q6, q7, hH⟩ := hI
 obtain ⟨h0, h1, h2, h3, h4, h5, h6⟩ : s 0 = true ∧ s 1 = true ∧ s 2 = true ∧ s 3 = true ∧ s 4 = true ∧ s 5 = true ∧ s 6 = true := ⟨hpre 0 rfl, hpre 1 rfl, hpre 2 rfl, hpre 3 rfl, hpre 4 rfl, hpre 5 rfl, hpre 6 rfl⟩
 refine Sy.heap hH ?_
 obtain rfl := (q5 h5).2 hs
 refine Sy.heap (H' := (b12, cel 35 [.int .i64 0, .slice none 0 0, .slice none 0 0]) :: ((bif s 4 then [(b11, cel 25 x11)] else []) ++ ((b5, cel 25 (htl h (h.sg ag cg) (h.ss as_ cs))) :: H))) (fun w y9 => by rw [h5] at y9; exact y9) ?_
 refine ZT (l' := htl h (h.sg xa xc) (h.ss xb xd)) rfl (q5 h5).1 (q3 h3).1 ZeW rfl rfl rfl rfl (Nat.le_refl _) ?_
 exact hK _ _ _ ⟨oa, ob, oc, od, xa, xb, xc, xd, b11, x11, b12, htl h (h.sg xa xc) (h.ss xb xd), hL0, hR0, q0, q1, q2, q3, q4, fun h => ⟨(q5 h).1, fun h => by cases (show true = false from h)⟩, q6, fun _ => rfl, fun w y9 => by show St ((bif s 5 then [(b12, cel 35 (htl h (h.sg xa xc) (h.ss xb xd)))] else []) ++ ((bif s 4 then [(b11, cel 25 x11)] else []) ++ ((b5, cel 25 (htl h (h.sg ag cg) (h.ss as_ cs))) :: H))) Rz w; rw [h5]; exact y9⟩
 intro Lz Hz Rz hI
 obtain ⟨oa, ob, oc, od, xa, xb, xc, xd, b11, x11, b12, x12, hL0, hR0, q0, q1, q2, q3, q4, q5, q6, q7, hH⟩ := hI
 obtain rfl := q7 rfl
 obtain rfl := q6 rfl
 refine Sy.weak (L' := [(12, .pointer (some ⟨b12, 0, none⟩)), (11, .pointer (some ⟨b11, 0, none⟩)), (1, .slice af fr.length cf), (2, .slice at_ to_.length ct), (3, .slice ga gp.length gc), (4, .slice ap pl.length cp), (5, .pointer (some ⟨b5, 0, none⟩))]) (H' := (b12, cel 35 (htl h (h.sg xa xc) (h.ss xb xd))) :: (b11, cel 25 (htl h (h.sg oa oc) (h.ss ob od))) :: (b5, cel 25 (htl h (h.sg ag cg) (h.ss as_ cs))) :: H) (R' := RowsA xb 3 (Ze h.sights) :: RowsA xa 2 (Zd h.gaps) :: RowsA ob 3 (Ze h.sights) :: RowsA oa 2 (Zd h.gaps) :: R) ?_ (Sub.cons (q5 rfl).1 (Sub.cons (q4 rfl).1 hL0)).lk (fun w h => St.facts (hH w h) (Z2O (q3 rfl).2.1 (Z2O (q3 rfl).2.2 (Z2O (q1 rfl).2.1 (Z2O (q1 rfl).2.2 hR0)))))
 refine sqt 12 rfl (pur 1 rfl ?_)
 refine cl rfl Z9x rfl rfl (Z7b fr af cf (by omega) _ _) ?_
 rintro _ _ R1 ⟨la, lc, hlc, rfl, rfl, hR1⟩
 obtain rfl := hR1.symm
 clear hR1
 refine pur 1 rfl ?_
 refine cl rfl Z9x rfl rfl (Z7b to_ at_ ct (by omega) _ _) ?_
 rintro _ _ R1 ⟨ka, kc, hkc, rfl, rfl, hR1⟩
 obtain rfl := hR1.symm
 clear hR1
 refine pur 1 rfl ?_
 refine cl rfl Z9x rfl rfl (Z7b gp ga gc (by omega) _ _) ?_
 rintro _ _ R1 ⟨ja, jc, hjc, rfl, rfl, hR1⟩
 obtain rfl := hR1.symm
 clear hR1
 refine pur 1 rfl ?_
 refine cl rfl Zft rfl rfl (Z7c pl ap cp (by omega) (fun x hx => by have := hpi9 x hx; omega) _ _) ?_
 rintro _ _ R1 ⟨ql, qa, qc, hqe, rfl, rfl, hR1⟩
 obtain rfl := hR1.symm
 clear hR1
 have hqi : ∀ x ∈ ql, x.l.length ≤ 1000000 := fun x hx => by
   have h1 : x.l ∈ lls pl := hqe ▸ List.mem_map.2 ⟨x, hx, rfl⟩
   have := hpx x.l h1; omega
 have hql : ql.length = pl.length := by have := congrArg List.length hqe; rwa [Z03, Z03] at this
 refine pur 4 rfl (sqt 3 rfl (spL rfl rfl (lhA (htl h (h.sg xa xc) (h.ss xb xd)) Z6W rfl rfl rfl) rfl ?_))
 refine clV rfl Zfe rfl rfl (Z9v h xa xb xc xd (by omega) (by omega) _ _) ?_
 refine pur 1 rfl (Z0 (sqt 2 rfl (pur 2 rfl ?_)))
 refine Z1m (ι := Unit) (fun _ => ⟨[(1, .slice af fr.length cf), (2, .slice at_ to_.length ct), (3, .slice ga gp.length gc), (4, .slice ap pl.length cp), (5, .pointer (some ⟨b5, 0, none⟩)), (11, .pointer (some ⟨b11, 0, none⟩)), (12, .pointer (some ⟨b12, 0, none⟩)), (13, .slice la fr.length lc), (14, .slice ka to_.length kc), (15, .slice ja gp.length jc), (16, .slice qa ql.length qc), (17, .int .i64 (h.botE fr to_))], (b12, cel 35 (htl h (h.sg xa xc) (h.ss xb xd))) :: (b11, cel 25 (htl h (h.sg oa oc) (h.ss ob od))) :: (b5, cel 25 (htl h (h.sg ag cg) (h.ss as_ cs))) :: H, RowsA qa 1 (Zm ql) :: Inn ql :: RowsA ja 1 (Z4 gp) :: RowsA ka 1 (Z4 to_) :: RowsA la 1 (Z4 fr) :: RowsA xb 3 (Ze h.sights) :: RowsA xa 2 (Zd h.gaps) :: RowsA ob 3 (Ze h.sights) :: RowsA oa 2 (Zd h.gaps) :: R⟩) ?_ ?_
 refine Z1 rfl ?_ ?_ <;> intro hc1 <;> try simp only [cS] at hc1
 have hok := hse_ok.1 hc1
 refine sqr 5 rfl (spL rfl rfl (lhA (htl h (h.sg xa xc) (h.ss xb xd)) Z6W rfl rfl rfl) rfl (pur 2 rfl ?_))
 refine clV rfl ZeV rfl rfl (ZbA h xa xb xc xd hok fr to_ af at_ cf ct (by omega) (by omega) hfc htc _ _) ?_
 refine pur 1 rfl ?_
 exact Zz () idH
 have hbe : h.botE fr to_ = h.check := by unfold Hse.botE; rw [dT hc1]; rfl
 refine Z2 ?_
 exact Z38 () (by rw [hbe]; exact (by repeat' first | exact Sub.nil | apply Sub.cons | rfl | (simp [lk]; omega))) idH
 rintro ⟨⟩
 dsimp only
 refine sqt 7 rfl (pur 7 rfl (Z0 (sqt 2 rfl (pur 2 rfl ?_))))
 refine Z1m (ι := {m : Nat // CtS h fr to_ m}) (fun y => ⟨[(1, .slice af fr.length cf), (2, .slice at_ to_.length ct), (3, .slice ga gp.length gc), (4, .slice ap pl.length cp), (5, .pointer (some ⟨b5, 0, none⟩)), (11, .pointer (some ⟨b11, 0, none⟩)), (12, .pointer (some ⟨b12, 0, none⟩)), (13, .slice la fr.length lc), (14, .slice ka to_.length kc), (15, .slice ja gp.length jc), (16, .slice qa ql.length qc), (17, .int .i64 (h.botE fr to_)), (18, .int .i64 (h.shR fr to_ gp).2), (19, .int .i64 (h.ledE fr to_ (lls pl))), (20, .bool (h.shR fr to_ gp).1), (21, .int .i64 (h.ledR fr to_ (lls pl))), (22, .int .i64 (y.1 : Int))], (b12, cel 35 (htl h (h.sg xa xc) (h.ss xb xd))) :: (b11, cel 25 (htl h (h.sg oa oc) (h.ss ob od))) :: (b5, cel 25 (htl h (h.sg ag cg) (h.ss as_ cs))) :: H, RowsA qa 1 (Zm ql) :: Inn ql :: RowsA ja 1 (Z4 gp) :: RowsA ka 1 (Z4 to_) :: RowsA la 1 (Z4 fr) :: RowsA xb 3 (Ze h.sights) :: RowsA xa 2 (Zd h.gaps) :: RowsA ob 3 (Ze h.sights) :: RowsA oa 2 (Zd h.gaps) :: R⟩) ?_ ?_
 refine Z1 rfl ?_ ?_ <;> intro hc2 <;> try simp only [cS] at hc2
 have hb := Z0u hc2
 have hok := hb.ok
 obtain ⟨q1, q2, q3, q4, q5, q6⟩ := ZD hb
 have hgl := hok.gl
 have hto := (ZA hb.ek).1
 have hpr := Zen (gp := gp) hc2
 refine Z0 (sqt 6 rfl (pur 1 rfl (sp rfl (PE.fA Z05 rfl) rfl (spL rfl rfl (lh Z3K rfl rfl) rfl (sp rfl (PE.lenSl Z1M rfl) rfl ?_)))))
 refine clV rfl Z7w rfl rfl (Z1f gp ga gc (h.gaps.length : Int) (by omega) (by omega) hgc _ _) ?_
 refine pur 1 rfl (sqt 2 rfl (pur 2 rfl ?_))
 refine Z1m (ι := Unit) (fun _ => ⟨[(1, .slice af fr.length cf), (2, .slice at_ to_.length ct), (3, .slice ga gp.length gc), (4, .slice ap pl.length cp), (5, .pointer (some ⟨b5, 0, none⟩)), (11, .pointer (some ⟨b11, 0, none⟩)), (12, .pointer (some ⟨b12, 0, none⟩)), (13, .slice la fr.length lc), (14, .slice ka to_.length kc), (15, .slice ja gp.length jc), (16, .slice qa ql.length qc), (17, .int .i64 (h.botE fr to_)), (18, .int .i64 (h.shR fr to_ gp).2), (19, .int .i64 (h.botE fr to_)), (20, .bool (h.shR fr to_ gp).1), (21, .int .i64 0), (22, .int .i64 0)], (b12, cel 35 (htl h (h.sg xa xc) (h.ss xb xd))) :: (b11, cel 25 (htl h (h.sg oa oc) (h.ss ob od))) :: (b5, cel 25 (htl h (h.sg ag cg) (h.ss as_ cs))) :: H, RowsA qa 1 (Zm ql) :: Inn ql :: RowsA ja 1 (Z4 gp) :: RowsA ka 1 (Z4 to_) :: RowsA la 1 (Z4 fr) :: RowsA xb 3 (Ze h.sights) :: RowsA xa 2 (Zd h.gaps) :: RowsA ob 3 (Ze h.sights) :: RowsA oa 2 (Zd h.gaps) :: R⟩) ?_ ?_
 refine Z1 rfl ?_ ?_ <;> intro hc3 <;> try simp only [cS] at hc3
 have hsr := ZaD (hpr.trans hc3)
 refine sqr 6 rfl (spL rfl rfl (lhA (htl h (h.sg xa xc) (h.ss xb xd)) Z6W rfl rfl rfl) rfl (pur 3 rfl ?_))
 refine clV rfl Zc3 rfl rfl (Z4o h xa xb xc xd hok fr to_ gp af at_ ga cf ct gc hb.el hto (fun x hx => ((ZA hc3).1 x hx).1) (by omega) (by omega) _ _) ?_
 refine pur 1 rfl ?_
 exact Z38 () (by dsimp only; rw [hsr, hc3]; exact (by repeat' first | exact Sub.nil | apply Sub.cons | rfl | (simp [lk]; omega))) idH
 have hsr := Z6k hpr hc3
 refine Z2 ?_
 exact Z38 () (by dsimp only; rw [hsr]; exact (by repeat' first | exact Sub.nil | apply Sub.cons | rfl | (simp [lk]; omega))) idH
 rintro ⟨⟩
 dsimp only
 refine sqt 10 rfl (spL rfl rfl (lhA (htl h (h.sg xa xc) (h.ss xb xd)) Z6W rfl rfl rfl) rfl (pur 3 rfl ?_))
 refine clV rfl Zdm rfl rfl (Z6h h xa xb xc xd fr to_ af at_ cf ct (by omega) (by omega) hfc htc hc2 pl ap cp (by omega) (by omega) _ _) ?_
 refine pur 5 rfl (sqr 5 rfl (spL rfl rfl (lhA (htl h (h.sg xa xc) (h.ss xb xd)) Z6W rfl rfl rfl) rfl (pur 2 rfl ?_)))
 refine cl rfl Zfk rfl rfl (ZcG h xa xb xc xd fr to_ af at_ cf ct (by omega) (by omega) hfc htc hc2 _ _) ?_
 rintro _ _ R1 ⟨⟨m, hm, rfl⟩, rfl, hR1⟩
 obtain rfl := hR1.symm
 clear hR1
 refine pur 1 rfl ?_
 exact Zz ⟨m, fun h9 => absurd hc2 h9, fun _ => hm⟩ idH
 have hsb := Zbj (gp := gp) hc2
 have hlb := ZbW (ls := lls pl) hc2
 refine Z2 ?_
 exact Z38 ⟨0, fun _ => rfl, fun h9 => absurd h9 hc2⟩ (by dsimp only; rw [hsb, hlb.1, hlb.2]; exact (by repeat' first | exact Sub.nil | apply Sub.cons | rfl | (simp [lk]; omega))) idH
 rintro ⟨m, hm⟩
 dsimp only at hm ⊢
 refine sqt 9 rfl (spL rfl rfl (lhA (htl h (h.sg oa oc) (h.ss ob od)) Z0y rfl rfl rfl) rfl (pur 2 rfl ?_))
 refine cl rfl ZcM rfl rfl (Zdp h oa ob oc od (by omega) (by omega) fr to_ la ka lc kc (by omega) (by omega) hlc hkc m hm _ _) ?_
 rintro _ _ R1 ⟨ctl, va, vc, hclm, hclc, hclp, rfl, rfl, hR1⟩
 obtain rfl := hR1.symm
 clear hR1
 refine pur 5 rfl (sqt 10 rfl (spL rfl rfl (lhA (htl h (h.sg oa oc) (h.ss ob od)) Z0y rfl rfl rfl) rfl (pur 3 rfl ?_)))
 refine clV rfl Zf2 rfl rfl (ZaW h oa ob oc od (by omega) (by omega) fr to_ la ka lc kc (by omega) (by omega) hlc hkc gp ja jc (by omega) hjc _ _) ?_
 refine pur 5 rfl (sqt 9 rfl (spL rfl rfl (lhA (htl h (h.sg oa oc) (h.ss ob od)) Z0y rfl rfl rfl) rfl (pur 2 rfl ?_)))
 refine cl rfl ZfF rfl rfl (Zcc h oa ob oc od (by omega) (by omega) fr to_ la ka lc kc (by omega) (by omega) hlc hkc m hm _ _) ?_
 rintro _ _ R1 ⟨wl, wa, wc, hwlm, hwlc, hwl10, hwlp, rfl, rfl, hR1⟩
 obtain rfl := hR1.symm
 clear hR1
 refine pur 5 rfl (sqt 10 rfl (spL rfl rfl (lhA (htl h (h.sg oa oc) (h.ss ob od)) Z0y rfl rfl rfl) rfl (pur 3 rfl ?_)))
 refine cl rfl Zde rfl rfl (Z8E h oa ob oc od (by omega) (by omega) fr to_ la ka lc kc (by omega) (by omega) hlc hkc ql qa qc (by omega) (by rw [hqe]; omega) _ _) ?_
 rintro _ _ R1 ⟨rfl, rfl, hR1⟩
 obtain rfl := hR1.symm
 clear hR1
 rw [hqe]
 refine pur 5 rfl (Z0 (sqt 40 rfl (pur 4 rfl ?_)))
 refine Zq 129 rfl ?_ ?_ <;> intro g129
 first | (focus (simp only [decide_eq_true_eq] at g129; omega)) | exact absurd g129 (by simp)
 refine pur 5 rfl ?_
 refine Zq 134 rfl ?_ ?_ <;> intro g134
 first | (focus (simp only [decide_eq_true_eq] at g134; omega)) | exact absurd g134 (by simp)
 refine pur 5 rfl ?_
 refine Zq 139 rfl ?_ ?_ <;> intro g139
 first | (focus (simp only [decide_eq_true_eq] at g139; omega)) | exact absurd g139 (by simp)
 refine pur 5 rfl ?_
 refine Zq 144 rfl ?_ ?_ <;> intro g144
 first | (focus (simp only [decide_eq_true_eq] at g144; omega)) | exact absurd g144 (by simp)
 refine pur 2 rfl ?_
 refine spG rfl rfl rfl rfl (PE.neqBool ub4 rfl rfl) rfl ?_
 refine pur 2 rfl ?_
 refine Zq 149 rfl ?_ ?_ <;> intro g149
 first | (focus (simp only [decide_eq_true_eq] at g149; omega)) | exact absurd g149 (by simp)
 refine pur 5 rfl ?_
 refine Zq 154 rfl ?_ ?_ <;> intro g154
 first | (focus (simp only [decide_eq_true_eq] at g154; omega)) | exact absurd g154 (by simp)
 refine pur 1 rfl ?_
 refine spG rfl rfl rfl rfl (PE.lenSl Zw rfl) rfl ?_
 refine pur 4 rfl ?_
 refine Zq 160 rfl ?_ ?_ <;> intro g160
 first | (focus (simp only [decide_eq_true_eq] at g160; omega)) | exact absurd g160 (by simp)
 refine pur 1 rfl ?_
 refine spG rfl rfl rfl rfl (PE.lenSl Z1E rfl) rfl ?_
 refine pur 3 rfl ?_
 refine Z1 rfl ?_ ?_ <;> intro hc4
 first | (focus (simp only [decide_eq_true_eq] at hc4; omega)) | exact absurd hc4 (by simp)
 refine Z2 (Z0 (sqt 2 rfl (pur 2 rfl ?_)))
 refine Z1m (ι := Unit) (fun _ => ⟨[(1, .slice af fr.length cf), (2, .slice at_ to_.length ct), (3, .slice ga gp.length gc), (4, .slice ap pl.length cp), (5, .pointer (some ⟨b5, 0, none⟩)), (11, .pointer (some ⟨b11, 0, none⟩)), (12, .pointer (some ⟨b12, 0, none⟩)), (13, .slice la fr.length lc), (14, .slice ka to_.length kc), (15, .slice ja gp.length jc), (16, .slice qa ql.length qc)], (b12, cel 35 (htl h (h.sg xa xc) (h.ss xb xd))) :: (b11, cel 25 (htl h (h.sg oa oc) (h.ss ob od))) :: (b5, cel 25 (htl h (h.sg ag cg) (h.ss as_ cs))) :: H, RowsA qa 1 (Zm ql) :: Inn ql :: RowsA ja 1 (Z4 gp) :: RowsA ka 1 (Z4 to_) :: RowsA la 1 (Z4 fr) :: RowsA xb 3 (Ze h.sights) :: RowsA xa 2 (Zd h.gaps) :: RowsA ob 3 (Ze h.sights) :: RowsA oa 2 (Zd h.gaps) :: R⟩) ?_ ?_
 refine Z1 rfl ?_ ?_ <;> intro hc5 <;> try simp only [cS] at hc5
 have hb := Z0u hc5
 have hok := hb.ok
 obtain ⟨q1, q2, q3, q4, q5, q6⟩ := ZD hb
 have hgl := hok.gl
 have hto := (ZA hb.ek).1
 have hcp := hclp hc5
 have hwp := hwlp hc5
 have hfw := hcp.few
 have hwt : (lls wl).flatten.length ≤ 10 := by
   have h9 := hwp.nd.length_le_of_subset (l₂ := (List.range 10).map fun i : Nat => (i : Int)) fun x hx => by
     have := hwp.rng x hx
     exact List.mem_map.2 ⟨x.toNat, List.mem_range.2 (by omega), by omega⟩
   simpa using h9
 refine Z0 (sqt 14 rfl (pur 1 rfl (sp rfl (PE.fA Z05 rfl) rfl (spL rfl rfl (lh Z3K rfl rfl) rfl (sp rfl (PE.lenSl Z1M rfl) rfl ?_)))))
 refine cl rfl Z7w rfl rfl (Z1f ctl va vc (h.gaps.length : Int) (by omega) (by omega) hclc _ _) ?_
 rintro _ _ R1 ⟨rfl, rfl, hR1⟩
 obtain rfl := hR1.symm
 clear hR1
 rw [hcp.ls]
 refine pur 2 rfl ?_
 refine Zq 174 rfl ?_ ?_ <;> intro g174
 exact absurd g174 (by simp)
 refine Z0O rfl rfl rfl rfl rfl (lhA (htl h (h.sg xa xc) (h.ss xb xd)) Z6W rfl rfl rfl) rfl (pur 3 rfl ?_)
 refine clG rfl rfl rfl rfl Zc3 rfl rfl (Z4o h xa xb xc xd hok fr to_ ctl af at_ va cf ct vc hb.el hto (fun x hx => ((ZA hcp.ls).1 x hx).1) (by omega) (by omega) _ _) ?_
 rintro _ _ R1 ⟨rfl, rfl, hR1⟩
 obtain rfl := hR1.symm
 clear hR1
 rw [hcp.sh]
 refine pur 2 rfl ?_
 refine Z1 rfl ?_ ?_ <;> intro hc6
 exact absurd hc6 (by simp)
 refine Z2 (Z0 (sqt 1 rfl (pur 1 rfl (Z3 ?_))))
 refine Zc (ι := {k : Nat // 1 ≤ k ∧ k ≤ ctl.length + 1}) (fun k => ⟨[(1, .slice af fr.length cf), (2, .slice at_ to_.length ct), (3, .slice ga gp.length gc), (4, .slice ap pl.length cp), (5, .pointer (some ⟨b5, 0, none⟩)), (11, .pointer (some ⟨b11, 0, none⟩)), (12, .pointer (some ⟨b12, 0, none⟩)), (13, .slice la fr.length lc), (14, .slice ka to_.length kc), (15, .slice ja gp.length jc), (16, .slice qa ql.length qc), (22, .int .i64 (m : Int)), (23, .slice va ctl.length vc), (27, .slice wa wl.length wc), (31, .int .i64 (k.1 : Int))], (b12, cel 35 (htl h (h.sg xa xc) (h.ss xb xd))) :: (b11, cel 25 (htl h (h.sg oa oc) (h.ss ob od))) :: (b5, cel 25 (htl h (h.sg ag cg) (h.ss as_ cs))) :: H, RowsA wa 1 (Zm wl) :: Inn wl :: RowsA va 1 (Z4 ctl) :: RowsA qa 1 (Zm ql) :: Inn ql :: RowsA ja 1 (Z4 gp) :: RowsA ka 1 (Z4 to_) :: RowsA la 1 (Z4 fr) :: RowsA xb 3 (Ze h.sights) :: RowsA xa 2 (Zd h.gaps) :: RowsA ob 3 (Ze h.sights) :: RowsA oa 2 (Zd h.gaps) :: R⟩) (fun k => ctl.length + 1 - k.1) ⟨1, Nat.le_refl _, by omega⟩ ?_ (fun k => ?_)
 exact Zj idH
 obtain ⟨k, hk1, hk2⟩ := k
 dsimp only at hk1 hk2 ⊢
 refine Z0 (sqt 4 rfl (pur 2 rfl (sp rfl (PE.lenSl Zw rfl) rfl (pur 1 rfl ?_))))
 refine Z1 rfl ?_ ?_ <;> intro hc7 <;> try simp only [cS] at hc7
 obtain ⟨u, hu⟩ : ∃ u, ctl[k]? = some u := ⟨_, List.getElem?_eq_getElem (by omega)⟩
 obtain ⟨v, hv⟩ : ∃ v, ctl[k - 1]? = some v := ⟨_, List.getElem?_eq_getElem (by omega)⟩
 have hac := hcp.asc (k - 1) (by omega)
 rw [Z3n hv, show k - 1 + 1 = k by omega, Z3n hu] at hac
 refine Zf (a := va) (sz := 1) (rows := Z4 ctl) (ne0 (by rw [irl]; omega)) (fun ba oa9 he => ?_)
 subst he
 refine Z2 (Z0 (Z3 (Z0 ?_)))
 refine Zo [0, 0, 3, 7, 0, 0, 32, 112, 240, 511] (tks 0 3 (.ld 3 (tks 4 4 (.ld 8 (.tk 9 .done))))) ZG (by kernel_rfl) ?_
 refine Zx 2 rfl (tk rfl (PE.indexAddr Z1e rfl rfl (by omega) (by omega)) rfl (ld rfl rfl (lf0 sc3 (ZH hu) rfl) rfl (Zx 2 rfl (tk rfl (PE.sub rfl rfl (by omega)) rfl ?_))))
 rw [show (k : Int) - 1 = ((k - 1 : Nat) : Int) from by omega]
 refine tk rfl (PE.indexAddr Z1e rfl rfl (by omega) (by omega)) rfl (ld rfl rfl (lf0 sc3 (ZH hv) rfl) rfl (Zx 1 rfl ?_))
 refine Z1 rfl ?_ ?_ <;> intro hc8
 simp only [decide_eq_true_eq] at hc8
 omega
 refine Z2 (sqr 3 rfl (pur 1 rfl (sp rfl (PE.add rfl rfl (by omega)) rfl (pur 1 rfl ?_))))
 exact Za ⟨k + 1, by omega, by omega⟩ idH
 refine Z7 (Z9 (Z9 (Zn (sqt 10 rfl (spL rfl rfl (lhA (htl h (h.sg xa xc) (h.ss xb xd)) Z6W rfl rfl rfl) rfl (pur 3 rfl ?_))))))
 refine cl rfl Zdm rfl rfl (Z6h h xa xb xc xd fr to_ af at_ cf ct (by omega) (by omega) hfc htc hc5 wl wa wc (by omega) (by omega) _ _) ?_
 rintro _ _ R1 ⟨rfl, rfl, hR1⟩
 obtain rfl := hR1.symm
 clear hR1
 rw [(hwp.led hc5).1, (hwp.led hc5).2]
 refine pur 5 rfl (sqt 7 rfl (pur 3 rfl ?_))
 refine Zq 208 rfl ?_ ?_ <;> intro g208
 first | (focus (simp only [decide_eq_true_eq] at g208; omega)) | exact absurd g208 (by simp)
 refine pur 4 rfl ?_
 refine Z1 rfl ?_ ?_ <;> intro hc9
 first | (focus (simp only [decide_eq_true_eq] at hc9; omega)) | exact absurd hc9 (by simp)
 refine Z2 ?_
 exact Zz () (fun w h9 => h9.ftail.ftail.ftail)
 refine Z2 ?_
 exact Zz () (fun w h9 => h9.ftail.ftail.ftail)
 rintro ⟨⟩
 dsimp only
 refine sqt 27 rfl (spL rfl rfl (lhA (htl h (h.sg oa oc) (h.ss ob od)) Z0y rfl rfl rfl) rfl (spL rfl rfl (lhA (htl h (h.sg ag cg) (h.ss as_ cs)) Z0y rfl rfl rfl) rfl ?_))
 refine clV rfl ZeE rfl rfl (ZdH h h oa ob ag as_ oc od cg cs (by omega) (by omega) (by omega) (by omega) _ _) ?_
 refine pur 1 rfl ?_
 refine Zq 216 rfl ?_ ?_ <;> intro g216
 refine pur 2 rfl ?_
 refine Z2J rfl rfl rfl rfl Z55 rfl rfl (Z17 fr fr la af lc cf (by omega) (by omega) _ _) ?_
 refine pur 2 rfl ?_
 refine Zq 221 rfl ?_ ?_ <;> intro g221
 refine pur 2 rfl ?_
 refine Z2J rfl rfl rfl rfl Z55 rfl rfl (Z17 to_ to_ ka at_ kc ct (by omega) (by omega) _ _) ?_
 refine pur 2 rfl ?_
 refine Zq 226 rfl ?_ ?_ <;> intro g226
 refine pur 2 rfl ?_
 refine Z2J rfl rfl rfl rfl Z55 rfl rfl (Z17 gp gp ja ga jc gc (by omega) (by omega) _ _) ?_
 refine pur 2 rfl ?_
 refine Zq 231 rfl ?_ ?_ <;> intro g231
 refine pur 2 rfl ?_
 refine Z2J rfl rfl rfl rfl Zf7 rfl rfl (Za5 ql qa qc (by omega) (fun x hx => by have := hqi x hx; omega) pl ap cp (by omega) (fun x hx => by have := hpi9 x hx; omega) _ _) ?_
 refine pur 2 rfl ?_
 refine Zq 236 rfl ?_ ?_ <;> intro g236
 refine Z2J rfl rfl rfl rfl Z97 rfl rfl (Z4j _ _) ?_
 refine pur 2 rfl (Z5 ?_)
 exact rtA rfl rfl rfl ⟨rfl, rfl, rfl⟩ (fun w h9 => St.sub (((h9.del b12).del b11).del b5))
 exact absurd g236 (by rw [hqe]; simp)
 exact absurd g231 (by simp)
 exact absurd g226 (by simp)
 exact absurd g221 (by simp)
 rw [sameH_iff.2 rfl] at g216; exact absurd g216 (by decide)
end Go.Proofs.YthbjpnmclokinaaGreat
