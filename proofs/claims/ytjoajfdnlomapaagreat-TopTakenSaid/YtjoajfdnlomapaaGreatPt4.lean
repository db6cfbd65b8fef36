/- Walks of the functions of the program, and the laws that join them: what the last theorem of this claim needs, in order. -/
import Derived.Test.YtjoajfdnlomapaaGreatPt3
namespace Go.Proofs.YtjoajfdnlomapaaGreat.Lo
set_option linter.unusedSimpArgs false
set_option linter.unusedVariables false
open Go
theorem ZbN : cal Tryz.prog 25 = true := by kernel_rfl
theorem ZgN : cal Tryz.prog 58 = true := by kernel_rfl
theorem ZfR : ZN Tryz.prog 86 = some 3 := by kernel_rfl
theorem ZcZ : ZJ Tryz.prog 86 = some [(0, 1), (1, 1), (2, 1)] := by kernel_rfl
theorem ub4 : Tryz.prog.underlying 4 = some .bool := by kernel_rfl
theorem Z9c : Zy Tryz.prog 86 = some ([.int .i64 0, .int .i64 0, .int .i64 0]) := by kernel_rfl
theorem Z1X {a : Option Addr} {sz k p : Nat} {rows : List (List Value)} {w : World} (h : RowsA a sz rows w) (hk : rows.length ≤ k) : RowsA (if k = p then a else a.map (·.add (p * sz))) sz (rows.drop p) w := fun i row hi => by
  rw [List.getElem?_drop] at hi
  have hl := (List.getElem?_eq_some_iff.1 hi).1
  obtain ⟨h1, b, off, rfl, h2⟩ := h (p + i) row hi
  rw [if_neg (by omega)]
  refine ⟨h1, b, off + p * sz, by show some ((⟨b, off, none⟩ : Addr).add (p * sz)) = _; rw [ZQ], fun j x hx => ?_⟩
  have := h2 j x hx
  rw [show off + p * sz + i * sz + j = off + (p + i) * sz + j from by rw [Nat.add_mul]; omega]
  exact this
def msL (ns : List Int) : List Nat := (List.range 6).filter fun q => decide (0 < nn ns q)
def payL (ns : List Int) : List Pm := (msL ns).map fun (q : Nat) => ⟨(q : Int) + 1, 0, nn ns q⟩
def rest (ns : List Int) (l : List Nat) : Int := (l.map (nn ns)).sum
def gI (ns : List Int) (k : Nat) : Nat := if k = 0 then 0 else (msL ns).getD (k - 1) 0 + 1
def Z0z (ns : List Int) (m : Nat) : List Int := rest ns ((msL ns).drop m) :: (List.range ns.length).map fun q => if q ∈ (msL ns).take m then 0 else - nn ns q
theorem msL_mem {ns : List Int} {q : Nat} : q ∈ msL ns ↔ q < 6 ∧ 0 < nn ns q := by unfold msL; rw [List.mem_filter, List.mem_range, decide_eq_true_eq]
theorem Zfc (ns : List Int) : (msL ns).Nodup := List.Pairwise.sublist List.filter_sublist List.nodup_range
theorem Z5W {ns : List Int} {j : Nat} (h : j < (msL ns).length) : (msL ns)[j]? = some ((msL ns).getD j 0) := by simp [h]
theorem Z5X {ns : List Int} {j : Nat} (h : j < (msL ns).length) : (msL ns).getD j 0 ∈ msL ns := List.mem_of_getElem? (Z5W h)
theorem msL_lt {ns : List Int} {q : Nat} (h : q ∈ msL ns) : q < ns.length := by
  have h2 := (msL_mem.1 h).2
  false_or_by_contra
  rw [show nn ns q = 0 from by unfold nn; rw [List.getD_eq_getElem?_getD, List.getElem?_eq_none (by omega)]; rfl] at h2
  omega
theorem Z8y (ns : List Int) : (msL ns).length ≤ 6 := by unfold msL; exact Nat.le_trans (List.length_filter_le _ _) (by simp)
theorem Z5V {ns : List Int} {j : Nat} (h : j < (msL ns).length) : (msL ns).getD j 0 ∉ (msL ns).take j := fun hm => by
  obtain ⟨i, hi, he⟩ := List.mem_iff_getElem.1 hm
  rw [List.length_take] at hi
  rw [List.getElem_take] at he
  have e2 : (msL ns).getD j 0 = (msL ns)[j] := by simp [h]
  have := (List.pairwise_iff_getElem.1 (Zfc ns)) i j (by omega) h (by omega)
  exact this (by rw [he, e2])
theorem Zai {ns : List Int} (h1 : 1 ≤ ns.length ∧ ns.length ≤ 6) (hb : ∀ z ∈ ns, 0 ≤ z ∧ z ≤ 500) : rest ns (msL ns) = smD 6 (nn ns) := by
  have key : ∀ k, (((List.range k).filter fun q => decide (0 < nn ns q)).map (nn ns)).sum = smD k (nn ns) := fun k => by
    induction k with
    | zero => rfl
    | succ k ih =>
      rw [ZR, List.range_succ, List.filter_append, List.map_append, List.sum_append, ih]
      have := Z23 h1 hb k
      by_cases h : 0 < nn ns k
      · simp [h]
      · simp [h]; omega
  exact key 6
theorem Z59 {ns : List Int} (h1 : 1 ≤ ns.length ∧ ns.length ≤ 6) (hb : ∀ z ∈ ns, 0 ≤ z ∧ z ≤ 500) : ∀ {l : List Nat}, l.length ≤ 6 → 0 ≤ rest ns l ∧ rest ns l ≤ 500 * (l.length : Int)
  | [], _ => by simp [rest]
  | q :: l, h => by
    have ih := Z59 h1 hb (l := l) (by simp at h; omega)
    have := Z23 h1 hb q
    unfold rest at ih ⊢
    simp only [List.map_cons, List.sum_cons, List.length_cons]
    omega
theorem ZbI {ns : List Int} (h1 : 1 ≤ ns.length ∧ ns.length ≤ 6) (hb : ∀ z ∈ ns, 0 ≤ z ∧ z ≤ 500) (h0 : Z05 ns ≠ 0) : il (Z3J 7 (Z05 ns)) = 0 :: (msL ns).map fun (q : Nat) => (q : Int) + 1 := by
  have hz := Z4i h1 hb h0
  have hb0 : (Z05 ns).testBit 0 = true := by
    rw [Z0d h1 hb, Z6r h1 hb]
    intro h2
    apply h0
    refine Nat.eq_of_testBit_eq fun x => ?_
    rw [Nat.zero_testBit]
    cases hx : (Z05 ns).testBit x with
    | false => rfl
    | true =>
      exfalso
      have h3 := (Z0d h1 hb x).1 hx
      match x, h3 with
      | 0, h3 => exact h3 (by rw [Z6r h1 hb]; exact h2)
      | q + 1, h3 =>
        rw [Z1O h1 hb] at h3
        have h4 := Z23 h1 hb q
        have h5 : q < 6 := by
          false_or_by_contra
          apply h3
          unfold nn; rw [List.getD_eq_getElem?_getD, List.getElem?_eq_none (by omega)]; rfl
        have := (Z4K (f := nn ns) (k := 6) (fun y _ => (Z23 h1 hb y).1)).2 q h5 (by omega)
        omega
  unfold il Z3J
  rw [show 7 = 6 + 1 from rfl, List.range_succ_eq_map, List.filter_cons, hb0, if_pos rfl, List.map_cons, List.filter_map, List.map_map]
  congr 1
  have e : ((fun k => (Z05 ns).testBit k) ∘ Nat.succ) = fun q => decide (0 < nn ns q) := by
    funext q
    show (Z05 ns).testBit (q + 1) = _
    rw [Bool.eq_iff_iff, Z0d h1 hb, Z1O h1 hb, decide_eq_true_eq]
    have := Z23 h1 hb q
    omega
  rw [e]
  exact List.map_congr_left fun q _ => by show ((q.succ : Nat) : Int) = _; omega
theorem Zbk {ns : List Int} (h1 : 1 ≤ ns.length ∧ ns.length ≤ 6) (hb : ∀ z ∈ ns, 0 ≤ z ∧ z ≤ 500) (h0 : Z05 ns = 0) : msL ns = [] := by
  refine List.eq_nil_iff_forall_not_mem.2 fun q hq => ?_
  have h2 := (msL_mem.1 hq).2
  have := (Z0d h1 hb (q + 1)).2 (by rw [Z1O h1 hb]; omega)
  rw [h0, Nat.zero_testBit] at this; cases this
theorem Z0q {ns : List Int} (h1 : 1 ≤ ns.length ∧ ns.length ≤ 6) (hb : ∀ z ∈ ns, 0 ≤ z ∧ z ≤ 500) (m : Nat) : (Z0z ns m).length = ns.length + 1 := by simp [Z0z]
theorem Z4j {ns : List Int} (h1 : 1 ≤ ns.length ∧ ns.length ≤ 6) (hb : ∀ z ∈ ns, 0 ≤ z ∧ z ≤ 500) (m : Nat) : nn (Z0z ns m) 0 = rest ns ((msL ns).drop m) := rfl
theorem Z2J {ns : List Int} (h1 : 1 ≤ ns.length ∧ ns.length ≤ 6) (hb : ∀ z ∈ ns, 0 ≤ z ∧ z ≤ 500) (m : Nat) {q : Nat} (h : q < ns.length) : nn (Z0z ns m) (q + 1) = if q ∈ (msL ns).take m then 0 else - nn ns q := by
  unfold nn Z0z
  rw [List.getD_eq_getElem?_getD, List.getElem?_cons_succ, List.getElem?_map, List.getElem?_range h]; rfl
theorem Z6u {ns : List Int} (h1 : 1 ≤ ns.length ∧ ns.length ≤ 6) (hb : ∀ z ∈ ns, 0 ≤ z ∧ z ≤ 500) : netP ns ns.length = Z0z ns 0 := Z5E (by rw [netP_len, Z0q h1 hb]) fun k hk => by
  rw [netP_len] at hk
  match k, hk with
  | 0, _ => rw [Z4j h1 hb, List.drop_zero, Zai h1 hb, Z6r h1 hb]
  | q + 1, hk => rw [Z2J h1 hb 0 (by omega), Z1O h1 hb, List.take_zero, if_neg (by simp)]
theorem Z7Z {ns : List Int} (h1 : 1 ≤ ns.length ∧ ns.length ≤ 6) (hb : ∀ z ∈ ns, 0 ≤ z ∧ z ≤ 500) (m : Nat) {k : Nat} (hk : k ≤ ns.length) : -3000 ≤ nn (Z0z ns m) k ∧ nn (Z0z ns m) k ≤ 3000 := by
  match k, hk with
  | 0, _ =>
    rw [Z4j h1 hb]
    have hl : ((msL ns).drop m).length ≤ 6 := by have := Z8y ns; rw [List.length_drop]; omega
    have := Z59 h1 hb hl; omega
  | q + 1, hk =>
    rw [Z2J h1 hb m (by omega)]
    have := Z23 h1 hb q
    split <;> omega
theorem Z4a {ns : List Int} (h1 : 1 ≤ ns.length ∧ ns.length ≤ 6) (hb : ∀ z ∈ ns, 0 ≤ z ∧ z ≤ 500) {m : Nat} (h : m < (msL ns).length) : rest ns ((msL ns).drop m) = nn ns ((msL ns).getD m 0) + rest ns ((msL ns).drop (m + 1)) := by
  rw [List.drop_eq_getElem_cons h]
  have e2 : (msL ns).getD m 0 = (msL ns)[m] := by simp [h]
  rw [e2]; rfl
theorem Z92 {ns : List Int} (h1 : 1 ≤ ns.length ∧ ns.length ≤ 6) (hb : ∀ z ∈ ns, 0 ≤ z ∧ z ≤ 500) {m q : Nat} (h : m < (msL ns).length) (hq : q = (msL ns).getD m 0) : ((Z0z ns m).set (q + 1) (nn (Z0z ns m) (q + 1) + nn ns q)).set 0 (nn ((Z0z ns m).set (q + 1) (nn (Z0z ns m) (q + 1) + nn ns q)) 0 - nn ns q) = Z0z ns (m + 1) := by
  have hql : q < ns.length := by rw [hq]; exact msL_lt (Z5X h)
  have hqf : q ∉ (msL ns).take m := by rw [hq]; exact Z5V h
  refine Z5E (by rw [List.length_set, List.length_set, Z0q h1 hb, Z0q h1 hb]) fun k hk => ?_
  rw [List.length_set, List.length_set, Z0q h1 hb] at hk
  rw [Z4C (by rw [List.length_set, Z0q h1 hb]; omega), Z4C (by rw [Z0q h1 hb]; omega), Z4C (by rw [Z0q h1 hb]; omega)]
  have htk : ∀ x, x ∈ (msL ns).take (m + 1) ↔ x ∈ (msL ns).take m ∨ x = q := fun x => by
    rw [List.take_add_one, Z5W h, List.mem_append, hq]; simp
  match k, hk with
  | 0, _ => 
    rw [if_pos rfl, if_neg (by omega), Z4j h1 hb, Z4j h1 hb, Z4a h1 hb h, ← hq]; omega
  | r + 1, hk =>
    rw [if_neg (by omega), Z2J h1 hb m hql, if_neg hqf, Z2J h1 hb m (by omega), Z2J h1 hb (m + 1) (by omega)]
    by_cases e : q = r
    · subst e
      rw [if_pos rfl, if_pos ((htk q).2 (.inr rfl))]; omega
    · rw [if_neg (by omega)]
      by_cases hr : r ∈ (msL ns).take m
      · rw [if_pos hr, if_pos ((htk r).2 (.inl hr))]
      · rw [if_neg hr, if_neg (fun h9 => by rcases (htk r).1 h9 with h8 | h8; exact hr h8; exact e h8.symm)]
theorem Zhn {ns : List Int} (h1 : 1 ≤ ns.length ∧ ns.length ≤ 6) (hb : ∀ z ∈ ns, 0 ≤ z ∧ z ≤ 500) {k : Nat} (h : k ≤ (msL ns).length) : gI ns k ≤ ns.length := by
  unfold gI
  split
  · omega
  · have := msL_lt (Z5X (ns := ns) (j := k - 1) (by omega)); omega
theorem Zav (l : List Pm) : (pmrows l).length = l.length := List.length_map _
theorem Z9y {ns : List Int} {m : Nat} (h : m < (msL ns).length) : (payL ns).take (m + 1) = (payL ns).take m ++ [⟨(((msL ns).getD m 0 : Nat) : Int) + 1, 0, nn ns ((msL ns).getD m 0)⟩] := by
  unfold payL
  rw [List.take_add_one, List.getElem?_map, Z5W h]; rfl
set_option maxHeartbeats 800000 in
theorem c_Settle (dl : List PL) (ad : Option Addr) (cd : Nat) (ns : List Int) (hd : Dbt dl ns) (H : Z7) (R : Z5) [hP : MemRows ad 1 (plrows dl) R] [hI : MemF (Inn dl) R] :
    Fn Tryz.prog 25 [.slice ad dl.length cd] H R (fun v H' R' => ∃ (a : Option Addr) (c : Nat), v = .tuple #[.slice a (payL ns).length c, .int .i64 0] ∧ H' = H ∧ R' = RowsA a 3 (pmrows (payL ns)) :: R) := by
 have hdl := hd.dlen
 have hln := hd.len
 refine Z8 Tryz.func25 rfl Tryz.ntmps25 rfl ?_
 refine sqt 2 rfl (pur 2 rfl (Z0 (sqt 3 rfl (pur 1 rfl ?_))))
 refine clV rfl Zfn rfl rfl (Z5O dl ad cd ns hd _ _) ?_
 refine pur 1 rfl (sqt 2 rfl (pur 2 rfl ?_))
 refine Z1 rfl ?_ ?_ <;> intro hc0
 exact absurd hc0 (by simp)
 refine Z3 (sqt 3 rfl (pur 1 rfl ?_))
 refine cl rfl ZbT rfl rfl (Z76 dl ad cd ns hd _ _) ?_
 rintro _ _ R1 ⟨bn, rfl, rfl, hR1⟩
 obtain rfl := hR1.symm
 clear hR1
 rw [Z6u hln hd.bd]
 refine pur 1 rfl (sqt 1 rfl (pur 1 rfl (Z0 (sqt 4 rfl (pur 1 rfl ?_)))))
 refine cl rfl ZgN rfl rfl (Z9F dl ad cd ns hd _ _) ?_
 rintro _ _ R1 ⟨gl, ag, cg, ⟨hgl, hgc⟩, rfl, rfl, hR1⟩
 obtain rfl := hR1.symm
 clear hR1
 have hml := Z8y ns
 have hNl : ∀ m, (Z0z ns m).length = ns.length + 1 := fun m => Z0q hln hd.bd m
 have hgy : ∀ y ∈ gl, y.l = 0 :: (msL ns).map (fun (q : Nat) => (q : Int) + 1) ∧ y.l.length ≤ y.c := fun y hy => by
   refine ⟨?_, hgc y hy⟩
   have h1 : y.l ∈ ZcV ns := by rw [← hgl]; exact List.mem_map.2 ⟨y, hy, rfl⟩
   unfold ZcV at h1
   split at h1
   · cases h1
   · rename_i h2
     rw [List.mem_singleton.1 h1]; exact ZbI hln hd.bd h2
 have hg1 : gl.length ≤ 1 ∧ (gl.length = 0 → (msL ns).length = 0) := by
   have h1 := congrArg List.length hgl
   rw [Z7I] at h1
   unfold ZcV at h1
   split at h1
   · rename_i h2
     rw [h1, Zbk hln hd.bd h2]; exact ⟨Nat.zero_le _, fun _ => rfl⟩
   · rw [h1]; exact ⟨Nat.le_refl _, fun h => by cases h⟩
 refine sp rfl (PE.lenSl ZcI rfl) rfl (pur 1 rfl (Z2 ?_))
 refine Zb (ι := (x : {x : Nat × Nat // x.1 ≤ gl.length ∧ x.2 = if x.1 = 0 then 0 else (msL ns).length}) × OSl 86 3 (pmrows ((payL ns).take x.1.2))) (fun x => ⟨[(5, .slice (some ⟨bn, 0, none⟩) dl.length dl.length), (23, .slice ag gl.length cg), (24, .int .i64 gl.length), (6, x.2.fs), (25, .int .i64 x.1.1.1)], x.2.G ++ ((bn, cel 3 (Zh (Z0z ns (x.1.1.2)) ++ [])) :: H), RowsA ag 1 (plrows gl) :: Inn gl :: R⟩) (fun x => gl.length - x.1.1.1) ⟨⟨(0, 0), Nat.zero_le _, rfl⟩, OSl.nil _ _⟩ ?_ (fun x => ?_)
 exact Zf idH
 obtain ⟨⟨⟨g, m⟩, hg, hm⟩, o⟩ := x
 dsimp only at hg hm o ⊢
 refine sqt 1 rfl (pur 1 rfl (Z0 ?_))
 refine Z1 rfl ?_ ?_ <;> intro hc1 <;> try simp only [cS] at hc1
 obtain ⟨y, hy⟩ : ∃ y, gl[g]? = some y := ⟨_, List.getElem?_eq_getElem (by omega)⟩
 have hym := List.mem_of_getElem? hy
 obtain ⟨hyl, hyc⟩ := hgy y hym
 have hyn : y.l.length = (msL ns).length + 1 := by rw [hyl]; simp
 have hyat : ∀ k, k ≤ (msL ns).length → y.l[k]? = some ((gI ns k : Nat) : Int) := fun k hk => by
   rw [hyl]
   match k, hk with
   | 0, _ => rfl
   | k + 1, hk =>
     rw [List.getElem?_cons_succ, List.getElem?_map, Z5W (by omega)]
     show some ((((msL ns).getD k 0 : Nat) : Int) + 1) = _
     unfold gI; rw [if_neg (by omega), Nat.add_sub_cancel]; rfl
 have hgI : ∀ k, k ≤ (msL ns).length → gI ns k ≤ ns.length := fun k hk => Zhn hln hd.bd hk
 refine Zg (a := ag) (sz := 1) (rows := plrows gl) (ne0 (by rw [Z0u]; omega)) (fun ba oa heba => ?_)
 subst heba
 refine Sy.heap (fun w h => St.inn (x := y) h hym) ?_
 obtain ⟨ay, hay⟩ : ∃ a, a = y.a := ⟨_, rfl⟩
 rw [← hay]
 refine Zg (a := ay) (sz := 1) (rows := irows y.l) (ne0 (by rw [irows_len]; omega)) (fun by_ oy heby_ => ?_)
 subst heby_
 refine Z3 (Z0 (Z2 (sqt 3 rfl (sp rfl (PE.indexAddr ZhX rfl rfl (by omega) (by omega)) rfl (spL rfl rfl (lf0 (row := plrow y) Z0G (pl_get hy) (by show some (Value.slice y.a y.l.length y.c) = _; rw [← hay])) rfl (pur 1 rfl (sqt 3 rfl (pur 1 rfl (sp rfl (PE.lenSl Z0i rfl) rfl (pur 1 rfl (Z2 ?_)))))))))))
 refine Zb (ι := (x : {x : Nat × Nat // x.1 ≤ y.l.length ∧ x.2 = if x.1 = 0 then 0 else (msL ns).length}) × OSl 86 3 (pmrows ((payL ns).take x.1.2))) (fun x => ⟨[(5, .slice (some ⟨bn, 0, none⟩) dl.length dl.length), (23, .slice (some ⟨ba, oa, none⟩) gl.length cg), (24, .int .i64 gl.length), (25, .int .i64 (g : Nat)), (6, x.2.fs), (8, .slice (some ⟨by_, oy, none⟩) y.l.length y.c), (29, .slice (some ⟨by_, oy, none⟩) y.l.length y.c), (30, .int .i64 y.l.length), (31, .int .i64 x.1.1.1)], x.2.G ++ ((bn, cel 3 (Zh (Z0z ns (x.1.1.2)) ++ [])) :: H), RowsA (some ⟨by_, oy, none⟩) 1 (irows y.l) :: RowsA (some ⟨ba, oa, none⟩) 1 (plrows gl) :: Inn gl :: R⟩) (fun x => y.l.length - x.1.1.1) ⟨⟨(0, m), Nat.zero_le _, by rw [hm, if_pos (by omega), if_pos rfl]⟩, o⟩ ?_ (fun x => ?_)
 exact Zf idH
 obtain ⟨⟨⟨k, m2⟩, hk, hm2⟩, o2⟩ := x
 dsimp only at hk hm2 o2 ⊢
 refine sqt 1 rfl (pur 1 rfl (Z0 ?_))
 refine Z1 rfl ?_ ?_ <;> intro hc2 <;> try simp only [cS] at hc2
 have hka := hyat k (by omega)
 have hgk := hgI k (by omega)
 refine Z3 (Z0 (Z2 (sqt 5 rfl (pur 1 rfl (sp rfl (PE.indexAddr ZM rfl rfl (by omega) (by omega)) rfl (spL rfl rfl (lf0 sc3 (ir_get hka) rfl) rfl (pur 2 rfl (sqt 6 rfl (pur 2 rfl (sp rfl (PE.add rfl rfl (by omega)) rfl ?_))))))))))
 rw [show (k : Int) + 1 = ((k + 1 : Nat) : Int) from by omega]
 refine sp rfl (PE.slLoA Z2r rfl rfl (by omega)) rfl (sp rfl (PE.lenSl Z0i rfl) rfl (pur 1 rfl (Z2 ?_)))
 refine Sy.heap (fun w h => St.also h (f := RowsA (if y.c = k + 1 then (some ⟨by_, oy, none⟩ : Option Addr) else (some (⟨by_, oy, none⟩ : Addr)).map (·.add ((k + 1) * 1))) 1 ((irows y.l).drop (k + 1))) (fun w9 hw => Z1X (hw (RowsA (some ⟨by_, oy, none⟩) 1 (irows y.l)) (by simp)) (by rw [irows_len]; exact hyc))) ?_
 obtain ⟨a9, ha9⟩ : ∃ a, a = (if y.c = k + 1 then (some ⟨by_, oy, none⟩ : Option Addr) else (some (⟨by_, oy, none⟩ : Addr)).map (·.add ((k + 1) * 1))) := ⟨_, rfl⟩
 rw [← ha9]
 clear ha9
 refine Zb (ι := (x : {x : Nat × Nat // x.1 ≤ y.l.length - (k + 1) ∧ x.2 = if k = 0 then x.1 else (msL ns).length}) × OSl 86 3 (pmrows ((payL ns).take x.1.2))) (fun x => ⟨[(5, .slice (some ⟨bn, 0, none⟩) dl.length dl.length), (23, .slice (some ⟨ba, oa, none⟩) gl.length cg), (24, .int .i64 gl.length), (25, .int .i64 (g : Nat)), (6, x.2.fs), (8, .slice (some ⟨by_, oy, none⟩) y.l.length y.c), (29, .slice (some ⟨by_, oy, none⟩) y.l.length y.c), (30, .int .i64 y.l.length), (31, .int .i64 (k : Nat)), (9, .int .i64 (k : Nat)), (10, .int .i64 (gI ns k : Nat)), (39, .slice a9 (y.l.length - (k + 1)) (y.c - (k + 1))), (40, .int .i64 (y.l.length - (k + 1) : Nat)), (41, .int .i64 x.1.1.1)], x.2.G ++ ((bn, cel 3 (Zh (Z0z ns (x.1.1.2)) ++ [])) :: H), RowsA a9 1 ((irows y.l).drop (k + 1)) :: RowsA (some ⟨by_, oy, none⟩) 1 (irows y.l) :: RowsA (some ⟨ba, oa, none⟩) 1 (plrows gl) :: Inn gl :: R⟩) (fun x => y.l.length - (k + 1) - x.1.1.1) ⟨⟨(0, m2), Nat.zero_le _, hm2⟩, o2⟩ ?_ (fun x => ?_)
 exact Zf idH
 obtain ⟨⟨⟨j, m3⟩, hj, hm3⟩, o3⟩ := x
 dsimp only at hj hm3 o3 ⊢
 refine sqt 1 rfl (pur 1 rfl (Z0 ?_))
 refine Z1 rfl ?_ ?_ <;> intro hc3 <;> try simp only [cS] at hc3
 have hja := hyat (k + 1 + j) (by omega)
 have hgj := hgI (k + 1 + j) (by omega)
 have hn1 := Z7Z hln hd.bd m3 hgk
 have hn2 := Z7Z hln hd.bd m3 hgj
 have hNl3 := hNl m3
 have hat9 : ((irows y.l).drop (k + 1))[j]? = some [.int .i64 (gI ns (k + 1 + j) : Nat)] := by rw [List.getElem?_drop]; exact ir_get hja
 refine Zg (a := a9) (sz := 1) (rows := (irows y.l).drop (k + 1)) (by intro h0; rw [h0] at hat9; simp at hat9) (fun b9 o9 heb9 => ?_)
 subst heb9
 obtain ⟨a, ha⟩ : ∃ a, a = nn (Z0z ns m3) (gI ns k) := ⟨_, rfl⟩
 obtain ⟨b, hb⟩ : ∃ b, b = nn (Z0z ns m3) (gI ns (k + 1 + j)) := ⟨_, rfl⟩
 have hcase : (k = 0 ∧ ∃ q : Nat, q = (msL ns).getD j 0 ∧ gI ns (k + 1 + j) = q + 1 ∧ b = - nn ns q ∧ 0 < nn ns q ∧ nn ns q ≤ a) ∨ (0 < k ∧ a = 0) := by
   rcases Nat.eq_zero_or_pos k with h0 | h0
   · left
     rw [if_pos h0] at hm3
     subst h0
     have hjl : j < (msL ns).length := by omega
     have hq := Z5X hjl
     have e1 : gI ns (0 + 1 + j) = (msL ns).getD j 0 + 1 := by unfold gI; rw [if_neg (by omega), show 0 + 1 + j - 1 = j by omega]
     refine ⟨rfl, _, rfl, e1, ?_, (msL_mem.1 hq).2, ?_⟩
     · rw [hb, e1, Z2J hln hd.bd _ (msL_lt hq), hm3, if_neg (Z5V hjl)]
     · rw [ha, hm3, show gI ns 0 = 0 from rfl, Z4j hln hd.bd, Z4a hln hd.bd hjl]
       have := (Z59 hln hd.bd (l := (msL ns).drop (j + 1)) (by rw [List.length_drop]; omega)).1
       omega
   · right
     refine ⟨h0, ?_⟩
     rw [if_neg (by omega)] at hm3
     have hq := Z5X (ns := ns) (j := k - 1) (by omega)
     rw [ha, show gI ns k = (msL ns).getD (k - 1) 0 + 1 from by unfold gI; rw [if_neg (by omega)], Z2J hln hd.bd _ (msL_lt hq), hm3, List.take_length, if_pos hq]
 refine Z3 (Z0 (Z2 (sqt 3 rfl (sp rfl (PE.indexAddr ZM rfl rfl (by omega) (by omega)) rfl (spL rfl rfl (lf0 sc3 hat9 rfl) rfl (pur 1 rfl (Z0 ?_)))))))
 refine Zc [0, 0, 3, 7, 0, 0, 48, 112, 240, 511, 0, 0, 3072, 7168, 0, 0, 49152, 114688, 245760, 523264, 1047552, 2097151, 4194303] (tks 0 3 (.ld 3 (tks 4 3 (.ld 7 (tks 8 5 (.ld 13 (tks 14 3 (.ld 17 (.tk 18 (.tk 19 (.big 20 (.big 21 (.tk 22 .done))))))))))))) Zo (by kernel_rfl) ?_
 refine Zd 2 rfl (tk rfl (PE.indexAddr ZM rfl rfl (by omega) (by omega)) rfl (ld rfl rfl (lh (v := .int .i64 a) sc3 rfl (by rw [ha]; exact int_at (by omega))) rfl (Zd 2 rfl (tk rfl (PE.indexAddr ZM rfl rfl (by omega) (by omega)) rfl (ld rfl rfl (lh (v := .int .i64 a) sc3 rfl (by rw [ha]; exact int_at (by omega))) rfl ?_)))))
 refine tk rfl ((PE.negW rfl).to (by rw [ZI (by omega) (by omega)])) rfl ?_
 refine tk rfl (PE.max rfl rfl) rfl (Zd 2 rfl (tk rfl (PE.indexAddr ZM rfl rfl (by omega) (by omega)) rfl (ld rfl rfl (lh (v := .int .i64 b) sc3 rfl (by rw [hb]; exact int_at (by omega))) rfl (Zd 2 rfl (tk rfl (PE.indexAddr ZM rfl rfl (by omega) (by omega)) rfl (ld rfl rfl (lh (v := .int .i64 b) sc3 rfl (by rw [hb]; exact int_at (by omega))) rfl ?_))))))
 refine tk rfl ((PE.negW rfl).to (by rw [ZI (by omega) (by omega)])) rfl ?_
 refine tk rfl (PE.max rfl rfl) rfl ?_
 refine bsl (out := [_]) rfl Z2r zl3 rfl rfl rfl rfl rfl rfl (fun b65 => ?_)
 refine bg (fun w hs => ⟨trivial, trivial, (lh (v := .int .i64 a) sc3 rfl (by rw [ha]; exact int_at (by omega))) w hs, (lh (v := .int .i64 a) sc3 rfl (by rw [ha]; exact int_at (by omega))) w hs, trivial⟩) ?_
 refine cl rfl Z7m rfl rfl (Z1R _ _ b65 _ _) ?_
 rintro _ _ R1 ⟨rfl, rfl, hR1⟩
 obtain rfl := hR1.symm
 clear hR1
 refine bgT (Zd 1 rfl (sqt 6 rfl (pur 3 rfl (sp rfl (PE.build (out := [_, _, _]) ZcZ Z9c rfl rfl) rfl (alc rfl Z9c rfl (fun b14 => ?_))))))
 refine sto rfl rfl rfl ZfR rfl rfl rfl rfl ?_
 refine Z0 (sqt 5 rfl (pur 2 rfl (sp rfl (PE.indexAddr ZM rfl rfl (by omega) (by omega)) rfl (spL rfl rfl (lh (v := .int .i64 a) sc3 rfl (by rw [ha]; exact int_at (by omega))) rfl (pur 1 rfl ?_)))))
 refine Z1 rfl ?_ ?_ <;> intro hc4 <;> try simp only [cS] at hc4
 obtain ⟨hk0, q, hq, hgq, hbq, hq0, hqa⟩ := hcase.resolve_right (by omega)
 have hn : min (max a (0 - a)) (max b (0 - b)) = nn ns q := by omega
 rw [hn]
 refine sqr 5 rfl (pur 3 rfl (sp rfl (PE.build (out := [_, _, _]) ZcZ Z9c rfl rfl) rfl ?_))
 refine Z01 (l' := pmrow ⟨((gI ns (k + 1 + j) : Nat) : Int), ((gI ns k : Nat) : Int), nn ns q⟩) rfl rfl rfl ZfR rfl rfl rfl rfl (nl rfl) ?_
 refine Z0 (Z0 ?_)
 refine Zc [0, 1, 3, 7, 7, 31, 63, 127, 7, 7, 775, 1799, 3847, 8191, 16383] (tks 0 6 (.ld 6 (tks 7 4 (.ld 11 (tks 12 3 .done))))) Zo (by kernel_rfl) ?_
 refine Zd 3 rfl ?_
 refine Zk 82 rfl ?_ ?_ <;> intro g82
 simp only [decide_eq_true_eq] at g82
 omega
 refine Zd 2 rfl ?_
 refine tkG rfl rfl rfl rfl (PE.indexAddr ZM rfl rfl (by omega) (by omega)) rfl ?_
 refine ldG rfl rfl rfl rfl rfl (lh (v := .int .i64 a) sc3 rfl (by rw [ha]; exact int_at (by omega))) rfl (Zd 3 rfl ?_)
 refine tkG rfl rfl rfl rfl (PE.indexAddr ZM rfl rfl (by omega) (by omega)) rfl ?_
 refine ldG rfl rfl rfl rfl rfl (lh (v := .int .i64 b) sc3 rfl (by rw [hb]; exact int_at (by omega))) rfl (Zd 1 rfl ?_)
 refine tkG rfl rfl rfl rfl (PE.eqlBool ub4 rfl rfl) rfl ?_
 refine Zd 1 rfl ?_
 refine Z1 rfl ?_ ?_ <;> intro hc5
 exact absurd hc5 (by simp; omega)
 rw [if_pos hk0] at hm3
 have hjl0 : j < (msL ns).length := by clear hcase hn ha hb; omega
 have hjl : m3 < (msL ns).length := by rw [hm3]; exact hjl0
 have hq9 : q = (msL ns).getD m3 0 := by rw [hm3]; exact hq
 have hgk0 : gI ns k = 0 := by rw [hk0]; rfl
 refine Z3 (sqt 5 rfl (pur 1 rfl (spL rfl rfl (lhA (pmrow ⟨((gI ns (k + 1 + j) : Nat) : Int), ((gI ns k : Nat) : Int), nn ns q⟩) Zdk rfl rfl rfl) rfl ?_)))
 refine bsl (out := [_, _, _]) rfl Zgt Z9c rfl rfl rfl rfl rfl rfl (fun b97 => ?_)
 refine apO (o3) rfl Zij rfl rfl (Z1e (row := pmrow ⟨((gI ns (k + 1 + j) : Nat) : Int), ((gI ns k : Nat) : Int), nn ns q⟩) rfl) rfl rfl ((by rw [Zav]; simp only [List.length_singleton, List.length_take]; omega)) rfl (fun o98 => ?_)
 refine pur 1 rfl (sqt 9 rfl (pur 1 rfl (sp rfl (PE.fA Z38 rfl) rfl (spL rfl rfl (lh (v := .int .i64 ((gI ns (k + 1 + j) : Nat) : Int)) sc3 rfl rfl) rfl (sp rfl (PE.indexAddr ZM rfl rfl (by omega) (by omega)) rfl (spL rfl rfl (lh sc3 rfl (int_at (by omega))) rfl (pur 1 rfl (sp rfl (PE.add rfl rfl (by rw [← hb]; omega)) rfl (sp rfl (PE.indexAddr ZM rfl rfl (by omega) (by omega)) rfl ?_)))))))))
 refine Z01 (l' := Zh ((Z0z ns m3).set (gI ns (k + 1 + j)) (nn (Z0z ns m3) (gI ns (k + 1 + j)) + nn ns q)) ++ []) rfl rfl rfl cn3 rfl rfl rfl (spl_int (show gI ns (k + 1 + j) < (Z0z ns m3).length by omega) _) (by rw [List.length_append, ints_length]; show 0 + (((gI ns (k + 1 + j)) : Nat) : Int).toNat * 1 + 1 ≤ _; have := (show gI ns (k + 1 + j) < (Z0z ns m3).length by omega); omega) ?_
 have hnb2 : -4000 ≤ nn ((Z0z ns m3).set (gI ns (k + 1 + j)) (nn (Z0z ns m3) (gI ns (k + 1 + j)) + nn ns q)) (gI ns k) ∧ nn ((Z0z ns m3).set (gI ns (k + 1 + j)) (nn (Z0z ns m3) (gI ns (k + 1 + j)) + nn ns q)) (gI ns k) ≤ 4000 := by
   rw [Z4C (by omega), if_neg (by omega), ← ha]; omega
 refine sqr 9 rfl (pur 1 rfl (sp rfl (PE.fA Z4u rfl) rfl (spL rfl rfl (lh (v := .int .i64 ((gI ns k : Nat) : Int)) sc3 rfl rfl) rfl (sp rfl (PE.indexAddr ZM rfl rfl (by omega) (by omega)) rfl (spL rfl rfl (lh sc3 rfl (int_at (by rw [List.length_set]; omega))) rfl (pur 1 rfl (sp rfl (PE.sub rfl rfl (by omega)) rfl (sp rfl (PE.indexAddr ZM rfl rfl (by omega) (by omega)) rfl ?_))))))))
 refine Z01 (l' := Zh (((Z0z ns m3).set (gI ns (k + 1 + j)) (nn (Z0z ns m3) (gI ns (k + 1 + j)) + nn ns q)).set (gI ns k) (nn ((Z0z ns m3).set (gI ns (k + 1 + j)) (nn (Z0z ns m3) (gI ns (k + 1 + j)) + nn ns q)) (gI ns k) - nn ns q)) ++ []) rfl rfl rfl cn3 rfl rfl rfl (spl_int (show gI ns k < ((Z0z ns m3).set (gI ns (k + 1 + j)) (nn (Z0z ns m3) (gI ns (k + 1 + j)) + nn ns q)).length by rw [List.length_set]; omega) _) (by rw [List.length_append, ints_length]; show 0 + (((gI ns k) : Nat) : Int).toNat * 1 + 1 ≤ _; have := (show gI ns k < ((Z0z ns m3).set (gI ns (k + 1 + j)) (nn (Z0z ns m3) (gI ns (k + 1 + j)) + nn ns q)).length by rw [List.length_set]; omega); omega) ?_
 have hst : ((Z0z ns m3).set (gI ns (k + 1 + j)) (nn (Z0z ns m3) (gI ns (k + 1 + j)) + nn ns q)).set (gI ns k) (nn ((Z0z ns m3).set (gI ns (k + 1 + j)) (nn (Z0z ns m3) (gI ns (k + 1 + j)) + nn ns q)) (gI ns k) - nn ns q) = Z0z ns (m3 + 1) := by rw [hgq, hgk0]; exact Z92 hln hd.bd hjl hq9
 rw [hst]
 refine sqr 2 rfl (sp rfl (PE.add rfl rfl (by omega)) rfl (pur 1 rfl ?_))
 exact Z6 ⟨⟨(j + 1, m3 + 1), by dsimp only; omega, by dsimp only; rw [if_pos hk0, hm3]⟩, o98.cast (by dsimp only; rw [Z9y hjl, ← hq9, hgq, hgk0]; simp [pmrows])⟩ (fun w h => St.sub (((h.del b97).del b14).del b65))
 have hk0 : 0 < k ∧ a = 0 := by
   rcases hcase with ⟨_, q, _, _, _, h1, h2⟩ | h
   · omega
   · exact h
 have hn : min (max a (0 - a)) (max b (0 - b)) = 0 := by omega
 rw [hn]
 refine Z3 (Z0 (Z0 ?_))
 refine Zc [0, 1, 3, 7, 7, 31, 63, 127, 7, 7, 775, 1799, 3847, 8191, 16383] (tks 0 6 (.ld 6 (tks 7 4 (.ld 11 (tks 12 3 .done))))) Zo (by kernel_rfl) ?_
 refine Zd 3 rfl ?_
 refine Zk 82 rfl ?_ ?_ <;> intro g82
 refine Zd 3 rfl ?_
 refine ldN rfl rfl rfl rfl rfl rfl rfl rfl ?_
 refine Zd 4 rfl ?_
 refine ldN rfl rfl rfl rfl rfl rfl rfl rfl ?_
 refine Zd 3 rfl ?_
 refine ZD rfl ?_
 refine Z9 (Za (Zl (sqr 2 rfl (sp rfl (PE.add rfl rfl (by omega)) rfl (pur 1 rfl ?_)))))
 exact Z6 ⟨⟨(j + 1, m3), by dsimp only; omega, by rw [hm3, if_neg (by omega), if_neg (by omega)]⟩, o3⟩ (fun w h => St.sub ((h.del b14).del b65))
 exact absurd g82 (by simp)
 obtain rfl : j = y.l.length - (k + 1) := by omega
 refine Z9 (Za (Za (Zl (sqr 2 rfl (sp rfl (PE.add rfl rfl (by omega)) rfl (pur 1 rfl ?_))))))
 exact Z6 ⟨⟨(k + 1, m3), by dsimp only; omega, by dsimp only; rw [hm3, if_neg (show ¬ (k + 1 = 0) by omega)]; split; omega; rfl⟩, o3⟩ (fun w h => St.sub h.ftail)
 obtain rfl : k = y.l.length := by omega
 refine Z9 (Za (Za (Zl (sqr 2 rfl (sp rfl (PE.add rfl rfl (by omega)) rfl (pur 1 rfl ?_))))))
 exact Z6 ⟨⟨(g + 1, m2), by dsimp only; omega, by rw [hm2, if_neg (by omega), if_neg (by omega)]⟩, o2⟩ (fun w h => St.sub h)
 obtain rfl : g = gl.length := by omega
 have hmf : m = (msL ns).length := by rw [hm]; split; have := hg1.2 (by assumption); omega; rfl
 subst hmf
 refine Z9 (Za (Za (Zl (sqt 3 rfl ?_))))
 obtain ⟨af, cf, hef, hff⟩ := (o.cast (show _ = pmrows (payL ns) by rw [show (payL ns).take (msL ns).length = payL ns from List.take_of_length_le (by unfold payL; rw [List.length_map]; exact Nat.le_refl _)])).freeze
 rw [Zav] at hef
 rw [show o.fs = _ from hef]
 refine Sy.heap (fun w h => hff h) ?_
 refine pur 3 rfl (Z4 ?_)
 exact rtB rfl rfl rfl rfl ⟨af, cf, rfl, rfl, rfl⟩ (fun w h => St.sub (h.del bn))
theorem c_Fewest (dl : List PL) (ad : Option Addr) (cd : Nat) (ns : List Int) (hd : Dbt dl ns) (H : Z7) (R : Z5) [hP : MemRows ad 1 (plrows dl) R] [hI : MemF (Inn dl) R] :
    FnV Tryz.prog 24 [.slice ad dl.length cd] H R (.tuple #[.int .i64 (payL ns).length, .int .i64 0]) := by
 refine Z8 Tryz.func24 rfl Tryz.ntmps24 rfl ?_
 refine sqt 2 rfl (pur 2 rfl (sqt 7 rfl (pur 1 rfl ?_)))
 refine cl rfl ZbN rfl rfl (c_Settle dl ad cd ns hd _ _) ?_
 rintro _ _ R1 ⟨af, cf, rfl, rfl, hR1⟩
 obtain rfl := hR1.symm
 clear hR1
 refine pur 5 rfl (sqt 5 rfl (pur 1 rfl (sp rfl (PE.lenSl Z6t rfl) rfl (pur 3 rfl (Z4 ?_)))))
 exact rtB rfl rfl rfl rfl ⟨rfl, rfl, rfl⟩ (fun w h => h.ftail)
end Go.Proofs.YtjoajfdnlomapaaGreat.Lo
namespace Go.Proofs.YtjoajfdnlomapaaGreat.Hn
set_option linter.unusedSimpArgs false
set_option linter.unusedVariables false
structure Cnt where
  hour : Int
  lo : Int
  hi : Int
structure Bkg where
  hour : Int
  sacks : Int
structure Spl where
  hand : Int
  fr : Int
  to : Int
structure Wt where
  hours : Int
  allow : Int
  hands : Int
  counts : List Cnt
  books : List Bkg
  spells : List Spl
@[reducible] def inL (n lo hi : Int) : Bool := decide (lo ≤ n) && decide (n ≤ hi)
structure Wt.ok (w : Wt) : Prop where
  hours : 1 ≤ w.hours ∧ w.hours ≤ 60
  allow : 0 ≤ w.allow ∧ w.allow ≤ 20
  hands : 1 ≤ w.hands ∧ w.hands ≤ 6
  nc : 1 ≤ w.counts.length ∧ w.counts.length ≤ 8
  nb : w.books.length ≤ 10
  ns : w.spells.length ≤ 12
  cnt : ∀ c ∈ w.counts, (0 ≤ c.hour ∧ c.hour ≤ w.hours) ∧ (0 ≤ c.lo ∧ c.lo ≤ 500) ∧ (0 ≤ c.hi ∧ c.hi ≤ 500) ∧ c.lo ≤ c.hi
  bks : ∀ b ∈ w.books, (0 ≤ b.hour ∧ b.hour ≤ w.hours) ∧ (-200 ≤ b.sacks ∧ b.sacks ≤ 200) ∧ b.sacks ≠ 0
  spl : ∀ s ∈ w.spells, (0 ≤ s.fr ∧ s.fr ≤ w.hours) ∧ (0 ≤ s.to ∧ s.to ≤ w.hours) ∧ (0 ≤ s.hand ∧ s.hand ≤ w.hands - 1) ∧ s.fr < s.to
  inc : ∀ i c d, w.counts[i]? = some c → w.counts[i + 1]? = some d → c.hour < d.hour
theorem Wt.ok.lt {w : Wt} (h : w.ok) : ∀ (k i : Nat) (c d : Cnt), w.counts[i]? = some c → w.counts[i + 1 + k]? = some d → c.hour < d.hour
  | 0, i, c, d, hc, hd => h.inc i c d hc hd
  | k + 1, i, c, d, hc, hd => by
    have hl := (List.getElem?_eq_some_iff.1 hd).1
    obtain ⟨e, he⟩ : ∃ e, w.counts[i + 1 + k]? = some e := ⟨_, List.getElem?_eq_getElem (by omega)⟩
    have h1 := h.lt k i c e hc he
    have h2 := h.inc (i + 1 + k) e d he (by rw [show i + 1 + k + 1 = i + 1 + (k + 1) by omega]; exact hd)
    omega
theorem Wt.ok.lt' {w : Wt} (h : w.ok) {i j : Nat} {c d : Cnt} (hij : i < j) (hc : w.counts[i]? = some c) (hd : w.counts[j]? = some d) : c.hour < d.hour :=
  h.lt (j - i - 1) i c d hc (by rw [show i + 1 + (j - i - 1) = j by omega]; exact hd)
theorem Wt.ok.le {w : Wt} (h : w.ok) {i j : Nat} {c d : Cnt} (hij : i ≤ j) (hc : w.counts[i]? = some c) (hd : w.counts[j]? = some d) : c.hour ≤ d.hour := by
  rcases Nat.lt_or_ge i j with h1 | h1
  · exact Int.le_of_lt (h.lt' h1 hc hd)
  · obtain rfl : i = j := by omega
    rw [hc] at hd; cases hd; exact Int.le_refl _
def Wt.pos (w : Wt) (h : Int) : Nat := w.counts.findIdx fun c => decide (h ≤ c.hour)
def na0 (l : List Int) (i : Nat) : Int := l.getD i 0
def Wt.bk1 (w : Wt) (s : List Int) (b : Bkg) : List Int := bif decide (0 < w.pos b.hour) && decide (w.pos b.hour < w.counts.length) then s.set (w.pos b.hour - 1) (na0 s (w.pos b.hour - 1) + b.sacks) else s
def Wt.sums (w : Wt) : List Int := w.books.foldl w.bk1 (List.replicate 8 0)
def Z9f (s : List Int) (f t : Nat) : Int := ((List.range' f (t - f)).map (na0 s)).sum
def Wt.bk (w : Wt) (f t : Nat) : Int := Z9f w.sums f t
def Wt.cn (w : Wt) (i : Nat) : Cnt := w.counts.getD i ⟨0, 0, 0⟩
def Wt.gap (w : Wt) (f t : Nat) : Int := (w.cn f).lo + w.bk f t - w.allow * ((w.cn t).hour - (w.cn f).hour) - (w.cn t).hi
def Wt.over (w : Wt) (f t : Nat) (x : Spl) : Bool := decide (x.fr < (w.cn t).hour) && decide ((w.cn f).hour < x.to)
def Z6V (w : Wt) (f t : Nat) (m : Nat) (x : Spl) : Nat := bif w.over f t x then m ||| 2 ^ x.hand.toNat else m
def Wt.thr (w : Wt) (f t : Nat) : Nat := w.spells.foldl (Z6V w f t) 0
def Z9h (n f : Nat) : List (Nat × Nat) := (List.range' (f + 1) (n - (f + 1))).map fun t => (f, t)
def Z0n (n : Nat) : List (Nat × Nat) := (List.range n).flatMap (Z9h n)
def Wt.bad (w : Wt) (s : Nat × Nat) : Bool := decide ((w.cn s.1).hi + w.bk s.1 s.2 < (w.cn s.2).lo) || (decide (0 < w.gap s.1 s.2) && decide (w.thr s.1 s.2 = 0))
def Wt.clash (w : Wt) : Bool := (Z0n w.counts.length).any w.bad
def Wt.own (w : Wt) (S : Nat) (i : Nat) : Bool := decide (i + 1 < w.counts.length) && decide (w.thr i (i + 1) &&& S ≠ 0)
def Z4Z (own : Nat → Bool) (t : Nat) : Nat → Nat × Int → Nat × Int := fun i p => bif own i then (min p.1 i, (i : Int)) else p
def Z1u (own : Nat → Bool) (f t : Nat) : Nat × Int := (List.range' f (t - f)).foldl (fun p i => Z4Z own t i p) (t, -2)
def Wt.good (w : Wt) (S e : Nat) (s : Nat × Nat) : Bool := decide ((Z1u (w.own S) s.1 s.2).2 + 1 = (e : Int)) && decide (w.thr s.1 s.2 &&& S = w.thr s.1 s.2) && decide (0 < w.gap s.1 s.2)
def Wt.try1 (w : Wt) (S e : Nat) (tb : List Int) (b : Int) (s : Nat × Nat) : Int := bif w.good S e s && decide (b < na0 tb (Z1u (w.own S) s.1 s.2).1 + w.gap s.1 s.2) then na0 tb (Z1u (w.own S) s.1 s.2).1 + w.gap s.1 s.2 else b
def Wt.prvN (w : Wt) (S e : Nat) (tb : List Int) : Int := bif w.own S (e - 1) then (Z0n w.counts.length).foldl (w.try1 S e tb) (na0 tb (e - 1)) else na0 tb (e - 1)
def Wt.prvT (w : Wt) (S : Nat) : Nat → List Int
  | 0 => [0]
  | e + 1 => w.prvT S e ++ [w.prvN S (e + 1) (w.prvT S e)]
def Wt.prv (w : Wt) (S : Nat) : Int := na0 (w.prvT S (w.counts.length - 1)) (w.counts.length - 1)
open Go
theorem Zbi : Z0Z Tryz.prog 128 = some 3 := by kernel_rfl
theorem Z4X : Z0Z Tryz.prog 131 = some 2 := by kernel_rfl
theorem Z17 : Z0Z Tryz.prog 71 = some 6 := by kernel_rfl
theorem Z3b : Z0Z Tryz.prog 89 = some 3 := by kernel_rfl
theorem Z5S : apT Tryz.prog 67 = some (89, 3, 24) := by kernel_rfl
theorem Zei : cal Tryz.prog 106 = true := by kernel_rfl
theorem Z1I : cal Tryz.prog 118 = true := by kernel_rfl
theorem Zay : cal Tryz.prog 126 = true := by kernel_rfl
theorem Zde : cal Tryz.prog 127 = true := by kernel_rfl
theorem Z5B : cal Tryz.prog 128 = true := by kernel_rfl
theorem ZeQ : cal Tryz.prog 129 = true := by kernel_rfl
theorem Zdd : cal Tryz.prog 130 = true := by kernel_rfl
theorem Z83 : cal Tryz.prog 131 = true := by kernel_rfl
theorem ZeS : cal Tryz.prog 132 = true := by kernel_rfl
theorem ZdN : cal Tryz.prog 133 = true := by kernel_rfl
theorem Zfk : cal Tryz.prog 134 = true := by kernel_rfl
theorem Ze4 : cal Tryz.prog 135 = true := by kernel_rfl
theorem Zfj : cal Tryz.prog 136 = true := by kernel_rfl
theorem ZfK : cal Tryz.prog 137 = true := by kernel_rfl
theorem Zeq : cal Tryz.prog 138 = true := by kernel_rfl
theorem Zfa : cal Tryz.prog 139 = true := by kernel_rfl
theorem ZeF : cal Tryz.prog 140 = true := by kernel_rfl
theorem Zeo : cal Tryz.prog 187 = true := by kernel_rfl
theorem ZeN : cal Tryz.prog 188 = true := by kernel_rfl
theorem ZfO : cal Tryz.prog 189 = true := by kernel_rfl
theorem Zdm : cal Tryz.prog 190 = true := by kernel_rfl
theorem Zfr : cal Tryz.prog 221 = true := by kernel_rfl
theorem Zbj : cal Tryz.prog 26 = true := by kernel_rfl
theorem Z8V : cal Tryz.prog 49 = true := by kernel_rfl
theorem ZeD : cal Tryz.prog 54 = true := by kernel_rfl
theorem Zgb : cal Tryz.prog 60 = true := by kernel_rfl
theorem ZcB : ZN Tryz.prog 112 = some 1 := by kernel_rfl
theorem Z5Y : elN Tryz.prog 67 = some 3 := by kernel_rfl
theorem ZcT : elN Tryz.prog 68 = some 2 := by kernel_rfl
theorem ZhF : elN Tryz.prog 69 = some 3 := by kernel_rfl
theorem Z43 : ZF Tryz.prog 128 0 = some 0 := by kernel_rfl
theorem Z2I : ZF Tryz.prog 128 1 = some 1 := by kernel_rfl
theorem Z37 : ZF Tryz.prog 128 2 = some 2 := by kernel_rfl
theorem Z0C : ZF Tryz.prog 131 0 = some 0 := by kernel_rfl
theorem Z0X : ZF Tryz.prog 131 1 = some 1 := by kernel_rfl
theorem Z3u : ZF Tryz.prog 41 0 = some 0 := by kernel_rfl
theorem Z3m : ZF Tryz.prog 41 1 = some 1 := by kernel_rfl
theorem Z1E : ZF Tryz.prog 71 0 = some 0 := by kernel_rfl
theorem Z32 : ZF Tryz.prog 71 1 = some 1 := by kernel_rfl
theorem ZW : ZF Tryz.prog 71 2 = some 2 := by kernel_rfl
theorem Zv : ZF Tryz.prog 71 3 = some 3 := by kernel_rfl
theorem Z1g : ZF Tryz.prog 71 4 = some 4 := by kernel_rfl
theorem Z0O : ZF Tryz.prog 71 5 = some 5 := by kernel_rfl
theorem Z0h : ZF Tryz.prog 89 0 = some 0 := by kernel_rfl
theorem Z2b : ZF Tryz.prog 89 1 = some 1 := by kernel_rfl
theorem Z0m : Z1W Tryz.prog 67 = true := by kernel_rfl
theorem Z4E : Z1W Tryz.prog 68 = true := by kernel_rfl
theorem Z9Z : Z1W Tryz.prog 69 = true := by kernel_rfl
theorem Z4l : Z07 Tryz.prog 112 = true := by kernel_rfl
theorem Zgx : Z07 Tryz.prog 133 = true := by kernel_rfl
theorem Zgl : Z07 Tryz.prog 225 = true := by kernel_rfl
theorem sc3 : Z07 Tryz.prog 3 = true := by kernel_rfl
theorem ZV : Z07 Tryz.prog 67 = true := by kernel_rfl
theorem Z5o : Z07 Tryz.prog 68 = true := by kernel_rfl
theorem Z1P : Z07 Tryz.prog 69 = true := by kernel_rfl
theorem Zig : Z07 Tryz.prog 90 = true := by kernel_rfl
theorem Z7l : slE Tryz.prog 67 = some (89, 3) := by kernel_rfl
theorem Zb7 : Zy Tryz.prog 112 = some ([.nilFunc]) := by kernel_rfl
def crow (c : Cnt) : List Value := [.int .i64 c.hour, .int .i64 c.lo, .int .i64 c.hi]
def crows (l : List Cnt) : List (List Value) := l.map crow
def bkrow (b : Bkg) : List Value := [.int .i64 b.hour, .int .i64 b.sacks]
def bkrows (l : List Bkg) : List (List Value) := l.map bkrow
def sprow (s : Spl) : List Value := [.int .i64 s.hand, .int .i64 s.fr, .int .i64 s.to]
def sprows (l : List Spl) : List (List Value) := l.map sprow
abbrev irows (l : List Int) : List (List Value) := l.map fun z => [.int .i64 z]
def wtl (w : Wt) (a1 a2 a3 : Option Addr) (k1 k2 k3 : Nat) : List Value := [.int .i64 w.hours, .int .i64 w.allow, .int .i64 w.hands, .slice a1 w.counts.length k1, .slice a2 w.books.length k2, .slice a3 w.spells.length k3]
def Wt.v (w : Wt) (a1 a2 a3 : Option Addr) (k1 k2 k3 : Nat) : Value := .agg (wtl w a1 a2 a3 k1 k2 k3).toArray
theorem ZP {l : List Cnt} {k : Nat} {x : Cnt} (h : l[k]? = some x) : (crows l)[k]? = some (crow x) := by simp [crows, h]
theorem bk_get {l : List Bkg} {k : Nat} {x : Bkg} (h : l[k]? = some x) : (bkrows l)[k]? = some (bkrow x) := by simp [bkrows, h]
theorem ZdQ {l : List Spl} {k : Nat} {x : Spl} (h : l[k]? = some x) : (sprows l)[k]? = some (sprow x) := by simp [sprows, h]
theorem cr_len (l : List Cnt) : (crows l).length = l.length := List.length_map _
theorem Z62 {α : Type} (l : List α) : (l.all fun _ => true) = true := by simp
theorem Z2w {a : Option Addr} {sz : Nat} {rows : List (List Value)} {w : World} (h : RowsA a sz rows w) (ha : a.isNone = true) : rows = [] := by
  false_or_by_contra
  rename_i h0
  obtain ⟨b, off, e⟩ := Z4M h h0
  rw [e] at ha; cases ha
theorem Zm {α : Type} {xs : List α} {p : α → Bool} {k : Nat} {x : α} (hx : xs[k]? = some x) (hn : ∀ y ∈ xs.take k, p y = false) (h : p x = true) : xs.findIdx? p = some k := by
  induction xs generalizing k with
  | nil => simp at hx
  | cons y ys ih =>
    cases k with
    | zero => simp only [List.getElem?_cons_zero, Option.some.injEq] at hx; subst hx; simp [List.findIdx?_cons, h]
    | succ k =>
      have hy := hn y (by simp)
      have := ih (by simpa using hx) (fun z hz => hn z (by simp [hz]))
      simp [List.findIdx?_cons, hy, this]
theorem Zi {α : Type} {xs : List α} {p : α → Bool} (hn : ∀ y ∈ xs, p y = false) : xs.findIdx? p = none := by
  rw [List.findIdx?_eq_none_iff]; exact hn
theorem ZB {α : Type} {xs : List α} {p : α → Bool} {k : Nat} {x : α} (hx : xs[k]? = some x) (hn : ∀ y ∈ xs.take k, p y = false) (h : p x = false) : ∀ y ∈ xs.take (k + 1), p y = false := by
  intro y hy
  rw [List.take_add_one, hx] at hy
  rcases List.mem_append.1 hy with h1 | h1
  · exact hn y h1
  · simp only [Option.toList_some, List.mem_singleton] at h1; subst h1; exact h
theorem ZT {α : Type} (xs : List α) (p : α → Bool) : Value.bool (decide (0 ≤ (match xs.findIdx? p with | some k => (k : Int) | none => -1))) = .bool (xs.any p) := by
  congr 1
  cases h : xs.findIdx? p with
  | none =>
    have := List.findIdx?_eq_none_iff.1 h
    have h2 : xs.any p = false := by simpa using this
    rw [h2]; rfl
  | some k =>
    have h2 : xs.any p = true := by
      rw [← Bool.not_eq_false]; intro h3
      have : xs.findIdx? p = none := List.findIdx?_eq_none_iff.2 (by simpa using h3)
      rw [this] at h; cases h
    rw [h2]; simp
theorem Zw {α : Type} (xs : List α) (p : α → Bool) : Value.bool (!xs.any fun x => !p x) = .bool (xs.all p) := by
  congr 1
  induction xs with
  | nil => rfl
  | cons x xs ih => simp [← ih]
theorem Z2P (n lo hi : Int) (H : Z7) (R : Z5) :
    FnV Tryz.prog 118 [.int .i64 n, .int .i64 lo, .int .i64 hi] H R (.bool (inL n lo hi)) := by
 refine Z8 Tryz.func118 rfl Tryz.ntmps118 rfl ?_
 refine sqt 1 rfl (pur 1 rfl (sqt 9 rfl (pur 4 rfl ?_)))
 refine Zk 10 rfl ?_ ?_ <;> intro g10
 refine pur 5 rfl (Z4 ?_)
 exact rtA rfl rfl rfl ⟨by simp_all only [ZA, inL, Bool.true_and, Bool.false_and, cond_true, cond_false], rfl, rfl⟩ drp
 refine pur 5 rfl (Z4 ?_)
 exact rtA rfl rfl rfl ⟨by simp_all only [ZA, inL, Bool.true_and, Bool.false_and, cond_true, cond_false], rfl, rfl⟩ drp
theorem Z5l (n lo hi : Int) (h : lo ≤ n ∧ n ≤ hi) (H : Z7) (R : Z5) : FnV Tryz.prog 118 [.int .i64 n, .int .i64 lo, .int .i64 hi] H R (.bool true) := by
  have := Z2P n lo hi H R
  rwa [show inL n lo hi = true by simp [inL, h]] at this
theorem Z6o (wt : Wt) (a1 a2 a3 : Option Addr) (k1 k2 k3 : Nat) (n : Int) (H : Z7) (R : Z5) :
    FnV Tryz.prog 128 [(wt.v a1 a2 a3 k1 k2 k3), .int .i64 n] H R (.bool (inL n 0 wt.hours)) := by
 refine Z8 Tryz.func128 rfl Tryz.ntmps128 rfl ?_
 refine sqt 2 rfl (bx rfl rfl rfl (fun b2 => pur 1 rfl (sqt 5 rfl (pur 1 rfl (sp rfl (PE.fA Z1E rfl) rfl (spL rfl rfl (lh sc3 rfl rfl) rfl ?_))))))
 refine clV rfl Z1I rfl rfl (Z2P _ _ _ _ _) ?_
 refine pur 1 rfl (Z4 ?_)
 exact rtA rfl rfl rfl ⟨rfl, rfl, rfl⟩ drp
theorem ZaK (wt : Wt) (a1 a2 a3 : Option Addr) (k1 k2 k3 : Nat) (n : Int) (hh : -1000000 ≤ wt.hands ∧ wt.hands ≤ 1000000) (H : Z7) (R : Z5) :
    FnV Tryz.prog 54 [(wt.v a1 a2 a3 k1 k2 k3), .int .i64 n] H R (.bool (inL n 0 (wt.hands - 1))) := by
 refine Z8 Tryz.func54 rfl Tryz.ntmps54 rfl ?_
 refine sqt 2 rfl (bx rfl rfl rfl (fun b2 => pur 1 rfl (sqt 6 rfl (pur 1 rfl (sp rfl (PE.fA ZW rfl) rfl (spL rfl rfl (lh sc3 rfl rfl) rfl (sp rfl (PE.sub rfl rfl (by omega)) rfl ?_)))))))
 refine clV rfl Z1I rfl rfl (Z2P _ _ _ _ _) ?_
 refine pur 1 rfl (Z4 ?_)
 exact rtA rfl rfl rfl ⟨rfl, rfl, rfl⟩ drp
theorem Z7h (xs : List Cnt) (a : Option Addr) (c g : Nat) (fst cap : List Value) (p : Cnt → Bool) (hg : cal Tryz.prog g = true) (hl : xs.length ≤ 9223372036854775807) (H : Z7) (R : Z5) [hR : MemRows a 3 (crows xs) R] (hp : ∀ x, x ∈ xs → FnV Tryz.prog g (fst ++ [.agg (crow x).toArray] ++ cap) H R (.bool (p x))) :
    FnV Tryz.prog 60 [.slice a xs.length c, .func (.func g) fst.toArray cap.toArray] H R (.int .i64 (match xs.findIdx? p with | some k => (k : Int) | none => -1)) := by
 refine Z8 Tryz.func60 rfl Tryz.ntmps60 rfl ?_
 refine sqt 1 rfl (pur 1 rfl (Z0 (sqt 3 rfl (pur 1 rfl (sp rfl (PE.lenSl Z0m rfl) rfl (pur 1 rfl (Z2 ?_)))))))
 refine Zb (ι := {k : Nat // k ≤ xs.length ∧ ∀ x ∈ xs.take k, p x = false}) (fun k => ⟨[(0, .slice a xs.length c), (1, .func (.func g) fst.toArray cap.toArray), (7, .int .i64 xs.length), (8, .int .i64 k.1)], H, R⟩) (fun k => xs.length - k.1) ⟨0, by simp⟩ ?_ (fun k => ?_)
 exact Zf idH
 obtain ⟨k, hk, hn⟩ := k
 dsimp only
 refine sqt 1 rfl (pur 1 rfl (Z0 ?_))
 refine Z1 rfl ?_ ?_ <;> intro hc0
 simp only [cS] at hc0
 obtain ⟨x, hx⟩ : ∃ x, xs[k]? = some x := ⟨_, List.getElem?_eq_getElem (by omega)⟩
 have hxm := List.mem_of_getElem? hx
 refine Zg (a := a) (sz := 3) (rows := crows xs) (by cases xs <;> simp_all [crows]) (fun b off he => ?_)
 subst he
 refine Z3 (Z0 (Z2 (sqt 2 rfl (pur 2 rfl (sqt 6 rfl (pur 3 rfl (sp rfl (PE.indexAddr Z5Y rfl rfl (by omega) (by omega)) rfl (spL rfl rfl (lfA Z3b (row := crow x) (by simp [crows, hx]) rfl) rfl ?_))))))))
 refine Z1x rfl rfl (hg) rfl rfl (hp x hxm) ?_
 refine Z1 rfl ?_ ?_ <;> intro hc1
 refine sqt 2 rfl (pur 2 rfl (Z4 ?_))
 first | (exact rtA rfl rfl rfl ⟨by rw [Zm hx hn hc1]; rfl, rfl, rfl⟩ idH) | (exact rtA rfl rfl rfl ⟨by rw [Zi (by simpa using hn)]; rfl, rfl, rfl⟩ idH)
 refine Z3 (sqr 2 rfl (sp rfl (PE.add rfl rfl (by omega)) rfl (pur 1 rfl ?_)))
 exact Z6 ⟨k + 1, by omega, ZB hx hn hc1⟩ idH
 simp only [cS] at hc0
 obtain rfl : k = xs.length := by omega
 refine Z9 (Za (Za (Zl (sqt 1 rfl (pur 1 rfl (Z4 ?_))))))
 first | (exact rtA rfl rfl rfl ⟨by rw [Zm hx hn hc1]; rfl, rfl, rfl⟩ idH) | (exact rtA rfl rfl rfl ⟨by rw [Zi (by simpa using hn)]; rfl, rfl, rfl⟩ idH)
theorem c_has_cnt (xs : List Cnt) (a : Option Addr) (c g : Nat) (fst cap : List Value) (p : Cnt → Bool) (hg : cal Tryz.prog g = true) (hl : xs.length ≤ 9223372036854775807) (H : Z7) (R : Z5) [hR : MemRows a 3 (crows xs) R] (hp : ∀ x, x ∈ xs → FnV Tryz.prog g (fst ++ [.agg (crow x).toArray] ++ cap) H R (.bool (p x))) :
    FnV Tryz.prog 26 [.slice a xs.length c, .func (.func g) fst.toArray cap.toArray] H R (.bool (xs.any p)) := by
 refine Z8 Tryz.func26 rfl Tryz.ntmps26 rfl ?_
 refine sqt 1 rfl (pur 1 rfl (sqt 5 rfl (pur 2 rfl ?_)))
 refine clV rfl Zgb rfl rfl (Z7h xs a c g fst cap p hg hl _ _ hp) ?_
 refine pur 2 rfl (Z4 ?_)
 exact rtA rfl rfl rfl ⟨by simp only [ZA]; exact ZT _ _, rfl, rfl⟩ drp
theorem Z71 (x : Cnt) (g bf : Nat) (fst cap : List Value) (p : Bool) (hg : cal Tryz.prog g = true) (H : Z7) (R : Z5) [hM : Mem1 bf (cel 90 [.func (.func g) fst.toArray cap.toArray]) H] (hp : ∀ b, FnV Tryz.prog g (fst ++ [.agg (crow x).toArray] ++ cap) ((b, cel 89 (crow x)) :: H) R (.bool p)) :
    FnV Tryz.prog 187 [.agg (crow x).toArray, .pointer (some ⟨bf, 0, none⟩)] H R (.bool !p) := by
 refine Z8 Tryz.func187 rfl Tryz.ntmps187 rfl ?_
 refine sqt 2 rfl (bx rfl rfl rfl (fun b2 => pur 1 rfl (sqt 5 rfl (spL rfl rfl (lh Zig rfl rfl) rfl (spL rfl rfl (lhA [_, _, _] Z3b rfl rfl rfl) rfl ?_)))))
 refine Z1x rfl rfl (hg) rfl rfl (hp _) ?_
 refine pur 2 rfl (Z4 ?_)
 exact rtA rfl rfl rfl ⟨rfl, rfl, rfl⟩ drp
theorem Z2M (xs : List Cnt) (a : Option Addr) (c g : Nat) (fst cap : List Value) (p : Cnt → Bool) (hg : cal Tryz.prog g = true) (hl : xs.length ≤ 9223372036854775807) (H : Z7) (R : Z5) [hR : MemRows a 3 (crows xs) R] (hp : ∀ b b2 x, x ∈ xs → FnV Tryz.prog g (fst ++ [.agg (crow x).toArray] ++ cap) ((b2, cel 89 (crow x)) :: (b, cel 90 [.func (.func g) fst.toArray cap.toArray]) :: H) R (.bool (p x))) :
    FnV Tryz.prog 126 [.slice a xs.length c, .func (.func g) fst.toArray cap.toArray] H R (.bool (xs.all p)) := by
 refine Z8 Tryz.func126 rfl Tryz.ntmps126 rfl ?_
 refine sqt 2 rfl (bx rfl rfl rfl (fun b3 => pur 1 rfl (sqt 5 rfl (pur 1 rfl (sp rfl (PE.makeFunc rfl rfl) rfl ?_)))))
 refine clV rfl Zbj rfl rfl (c_has_cnt xs a c 187 [] [_] (fun x => !p x) Zeo hl _ _ (hp := fun x hx => Z71 x g _ fst cap (p x) hg _ _ (hp := fun b => hp _ _ x hx))) ?_
 refine pur 2 rfl (Z4 ?_)
 exact rtA rfl rfl rfl ⟨by simp only [ZA]; rw [Zw], rfl, rfl⟩ drp
theorem Z7f (xs : List Bkg) (a : Option Addr) (c g : Nat) (fst cap : List Value) (p : Bkg → Bool) (hg : cal Tryz.prog g = true) (hl : xs.length ≤ 9223372036854775807) (H : Z7) (R : Z5) [hR : MemRows a 2 (bkrows xs) R] (hp : ∀ x, x ∈ xs → FnV Tryz.prog g (fst ++ [.agg (bkrow x).toArray] ++ cap) H R (.bool (p x))) :
    FnV Tryz.prog 221 [.slice a xs.length c, .func (.func g) fst.toArray cap.toArray] H R (.int .i64 (match xs.findIdx? p with | some k => (k : Int) | none => -1)) := by
 refine Z8 Tryz.func221 rfl Tryz.ntmps221 rfl ?_
 refine sqt 1 rfl (pur 1 rfl (Z0 (sqt 3 rfl (pur 1 rfl (sp rfl (PE.lenSl Z4E rfl) rfl (pur 1 rfl (Z2 ?_)))))))
 refine Zb (ι := {k : Nat // k ≤ xs.length ∧ ∀ x ∈ xs.take k, p x = false}) (fun k => ⟨[(0, .slice a xs.length c), (1, .func (.func g) fst.toArray cap.toArray), (7, .int .i64 xs.length), (8, .int .i64 k.1)], H, R⟩) (fun k => xs.length - k.1) ⟨0, by simp⟩ ?_ (fun k => ?_)
 exact Zf idH
 obtain ⟨k, hk, hn⟩ := k
 dsimp only
 refine sqt 1 rfl (pur 1 rfl (Z0 ?_))
 refine Z1 rfl ?_ ?_ <;> intro hc0
 simp only [cS] at hc0
 obtain ⟨x, hx⟩ : ∃ x, xs[k]? = some x := ⟨_, List.getElem?_eq_getElem (by omega)⟩
 have hxm := List.mem_of_getElem? hx
 refine Zg (a := a) (sz := 2) (rows := bkrows xs) (by cases xs <;> simp_all [bkrows]) (fun b off he => ?_)
 subst he
 refine Z3 (Z0 (Z2 (sqt 2 rfl (pur 2 rfl (sqt 6 rfl (pur 3 rfl (sp rfl (PE.indexAddr ZcT rfl rfl (by omega) (by omega)) rfl (spL rfl rfl (lfA Z4X (row := bkrow x) (by simp [bkrows, hx]) rfl) rfl ?_))))))))
 refine Z1x rfl rfl (hg) rfl rfl (hp x hxm) ?_
 refine Z1 rfl ?_ ?_ <;> intro hc1
 refine sqt 2 rfl (pur 2 rfl (Z4 ?_))
 first | (exact rtA rfl rfl rfl ⟨by rw [Zm hx hn hc1]; rfl, rfl, rfl⟩ idH) | (exact rtA rfl rfl rfl ⟨by rw [Zi (by simpa using hn)]; rfl, rfl, rfl⟩ idH)
 refine Z3 (sqr 2 rfl (sp rfl (PE.add rfl rfl (by omega)) rfl (pur 1 rfl ?_)))
 exact Z6 ⟨k + 1, by omega, ZB hx hn hc1⟩ idH
 simp only [cS] at hc0
 obtain rfl : k = xs.length := by omega
 refine Z9 (Za (Za (Zl (sqt 1 rfl (pur 1 rfl (Z4 ?_))))))
 first | (exact rtA rfl rfl rfl ⟨by rw [Zm hx hn hc1]; rfl, rfl, rfl⟩ idH) | (exact rtA rfl rfl rfl ⟨by rw [Zi (by simpa using hn)]; rfl, rfl, rfl⟩ idH)
theorem Z7F (xs : List Bkg) (a : Option Addr) (c g : Nat) (fst cap : List Value) (p : Bkg → Bool) (hg : cal Tryz.prog g = true) (hl : xs.length ≤ 9223372036854775807) (H : Z7) (R : Z5) [hR : MemRows a 2 (bkrows xs) R] (hp : ∀ x, x ∈ xs → FnV Tryz.prog g (fst ++ [.agg (bkrow x).toArray] ++ cap) H R (.bool (p x))) :
    FnV Tryz.prog 188 [.slice a xs.length c, .func (.func g) fst.toArray cap.toArray] H R (.bool (xs.any p)) := by
 refine Z8 Tryz.func188 rfl Tryz.ntmps188 rfl ?_
 refine sqt 1 rfl (pur 1 rfl (sqt 5 rfl (pur 2 rfl ?_)))
 refine clV rfl Zfr rfl rfl (Z7f xs a c g fst cap p hg hl _ _ hp) ?_
 refine pur 2 rfl (Z4 ?_)
 exact rtA rfl rfl rfl ⟨by simp only [ZA]; exact ZT _ _, rfl, rfl⟩ drp
theorem Z7v (x : Bkg) (g bf : Nat) (fst cap : List Value) (p : Bool) (hg : cal Tryz.prog g = true) (H : Z7) (R : Z5) [hM : Mem1 bf (cel 225 [.func (.func g) fst.toArray cap.toArray]) H] (hp : ∀ b, FnV Tryz.prog g (fst ++ [.agg (bkrow x).toArray] ++ cap) ((b, cel 131 (bkrow x)) :: H) R (.bool p)) :
    FnV Tryz.prog 189 [.agg (bkrow x).toArray, .pointer (some ⟨bf, 0, none⟩)] H R (.bool !p) := by
 refine Z8 Tryz.func189 rfl Tryz.ntmps189 rfl ?_
 refine sqt 2 rfl (bx rfl rfl rfl (fun b2 => pur 1 rfl (sqt 5 rfl (spL rfl rfl (lh Zgl rfl rfl) rfl (spL rfl rfl (lhA [_, _] Z4X rfl rfl rfl) rfl ?_)))))
 refine Z1x rfl rfl (hg) rfl rfl (hp _) ?_
 refine pur 2 rfl (Z4 ?_)
 exact rtA rfl rfl rfl ⟨rfl, rfl, rfl⟩ drp
theorem Z5b (xs : List Bkg) (a : Option Addr) (c g : Nat) (fst cap : List Value) (p : Bkg → Bool) (hg : cal Tryz.prog g = true) (hl : xs.length ≤ 9223372036854775807) (H : Z7) (R : Z5) [hR : MemRows a 2 (bkrows xs) R] (hp : ∀ b b2 x, x ∈ xs → FnV Tryz.prog g (fst ++ [.agg (bkrow x).toArray] ++ cap) ((b2, cel 131 (bkrow x)) :: (b, cel 225 [.func (.func g) fst.toArray cap.toArray]) :: H) R (.bool (p x))) :
    FnV Tryz.prog 129 [.slice a xs.length c, .func (.func g) fst.toArray cap.toArray] H R (.bool (xs.all p)) := by
 refine Z8 Tryz.func129 rfl Tryz.ntmps129 rfl ?_
 refine sqt 2 rfl (bx rfl rfl rfl (fun b3 => pur 1 rfl (sqt 5 rfl (pur 1 rfl (sp rfl (PE.makeFunc rfl rfl) rfl ?_)))))
 refine clV rfl ZeN rfl rfl (Z7F xs a c 189 [] [_] (fun x => !p x) ZfO hl _ _ (hp := fun x hx => Z7v x g _ fst cap (p x) hg _ _ (hp := fun b => hp _ _ x hx))) ?_
 refine pur 2 rfl (Z4 ?_)
 exact rtA rfl rfl rfl ⟨by simp only [ZA]; rw [Zw], rfl, rfl⟩ drp
theorem Z7u (xs : List Spl) (a : Option Addr) (c g : Nat) (fst cap : List Value) (p : Spl → Bool) (hg : cal Tryz.prog g = true) (hl : xs.length ≤ 9223372036854775807) (H : Z7) (R : Z5) [hR : MemRows a 3 (sprows xs) R] (hp : ∀ x, x ∈ xs → FnV Tryz.prog g (fst ++ [.agg (sprow x).toArray] ++ cap) H R (.bool (p x))) :
    FnV Tryz.prog 106 [.slice a xs.length c, .func (.func g) fst.toArray cap.toArray] H R (.int .i64 (match xs.findIdx? p with | some k => (k : Int) | none => -1)) := by
 refine Z8 Tryz.func106 rfl Tryz.ntmps106 rfl ?_
 refine sqt 1 rfl (pur 1 rfl (Z0 (sqt 3 rfl (pur 1 rfl (sp rfl (PE.lenSl Z9Z rfl) rfl (pur 1 rfl (Z2 ?_)))))))
 refine Zb (ι := {k : Nat // k ≤ xs.length ∧ ∀ x ∈ xs.take k, p x = false}) (fun k => ⟨[(0, .slice a xs.length c), (1, .func (.func g) fst.toArray cap.toArray), (7, .int .i64 xs.length), (8, .int .i64 k.1)], H, R⟩) (fun k => xs.length - k.1) ⟨0, by simp⟩ ?_ (fun k => ?_)
 exact Zf idH
 obtain ⟨k, hk, hn⟩ := k
 dsimp only
 refine sqt 1 rfl (pur 1 rfl (Z0 ?_))
 refine Z1 rfl ?_ ?_ <;> intro hc0
 simp only [cS] at hc0
 obtain ⟨x, hx⟩ : ∃ x, xs[k]? = some x := ⟨_, List.getElem?_eq_getElem (by omega)⟩
 have hxm := List.mem_of_getElem? hx
 refine Zg (a := a) (sz := 3) (rows := sprows xs) (by cases xs <;> simp_all [sprows]) (fun b off he => ?_)
 subst he
 refine Z3 (Z0 (Z2 (sqt 2 rfl (pur 2 rfl (sqt 6 rfl (pur 3 rfl (sp rfl (PE.indexAddr ZhF rfl rfl (by omega) (by omega)) rfl (spL rfl rfl (lfA Zbi (row := sprow x) (by simp [sprows, hx]) rfl) rfl ?_))))))))
 refine Z1x rfl rfl (hg) rfl rfl (hp x hxm) ?_
 refine Z1 rfl ?_ ?_ <;> intro hc1
 refine sqt 2 rfl (pur 2 rfl (Z4 ?_))
 first | (exact rtA rfl rfl rfl ⟨by rw [Zm hx hn hc1]; rfl, rfl, rfl⟩ idH) | (exact rtA rfl rfl rfl ⟨by rw [Zi (by simpa using hn)]; rfl, rfl, rfl⟩ idH)
 refine Z3 (sqr 2 rfl (sp rfl (PE.add rfl rfl (by omega)) rfl (pur 1 rfl ?_)))
 exact Z6 ⟨k + 1, by omega, ZB hx hn hc1⟩ idH
 simp only [cS] at hc0
 obtain rfl : k = xs.length := by omega
 refine Z9 (Za (Za (Zl (sqt 1 rfl (pur 1 rfl (Z4 ?_))))))
 first | (exact rtA rfl rfl rfl ⟨by rw [Zm hx hn hc1]; rfl, rfl, rfl⟩ idH) | (exact rtA rfl rfl rfl ⟨by rw [Zi (by simpa using hn)]; rfl, rfl, rfl⟩ idH)
theorem c_has_spl (xs : List Spl) (a : Option Addr) (c g : Nat) (fst cap : List Value) (p : Spl → Bool) (hg : cal Tryz.prog g = true) (hl : xs.length ≤ 9223372036854775807) (H : Z7) (R : Z5) [hR : MemRows a 3 (sprows xs) R] (hp : ∀ x, x ∈ xs → FnV Tryz.prog g (fst ++ [.agg (sprow x).toArray] ++ cap) H R (.bool (p x))) :
    FnV Tryz.prog 49 [.slice a xs.length c, .func (.func g) fst.toArray cap.toArray] H R (.bool (xs.any p)) := by
 refine Z8 Tryz.func49 rfl Tryz.ntmps49 rfl ?_
 refine sqt 1 rfl (pur 1 rfl (sqt 5 rfl (pur 2 rfl ?_)))
 refine clV rfl Zei rfl rfl (Z7u xs a c g fst cap p hg hl _ _ hp) ?_
 refine pur 2 rfl (Z4 ?_)
 exact rtA rfl rfl rfl ⟨by simp only [ZA]; exact ZT _ _, rfl, rfl⟩ drp
theorem Z86 (x : Spl) (g bf : Nat) (fst cap : List Value) (p : Bool) (hg : cal Tryz.prog g = true) (H : Z7) (R : Z5) [hM : Mem1 bf (cel 133 [.func (.func g) fst.toArray cap.toArray]) H] (hp : ∀ b, FnV Tryz.prog g (fst ++ [.agg (sprow x).toArray] ++ cap) ((b, cel 128 (sprow x)) :: H) R (.bool p)) :
    FnV Tryz.prog 190 [.agg (sprow x).toArray, .pointer (some ⟨bf, 0, none⟩)] H R (.bool !p) := by
 refine Z8 Tryz.func190 rfl Tryz.ntmps190 rfl ?_
 refine sqt 2 rfl (bx rfl rfl rfl (fun b2 => pur 1 rfl (sqt 5 rfl (spL rfl rfl (lh Zgx rfl rfl) rfl (spL rfl rfl (lhA [_, _, _] Zbi rfl rfl rfl) rfl ?_)))))
 refine Z1x rfl rfl (hg) rfl rfl (hp _) ?_
 refine pur 2 rfl (Z4 ?_)
 exact rtA rfl rfl rfl ⟨rfl, rfl, rfl⟩ drp
theorem Z1m (xs : List Spl) (a : Option Addr) (c g : Nat) (fst cap : List Value) (p : Spl → Bool) (hg : cal Tryz.prog g = true) (hl : xs.length ≤ 9223372036854775807) (H : Z7) (R : Z5) [hR : MemRows a 3 (sprows xs) R] (hp : ∀ b b2 x, x ∈ xs → FnV Tryz.prog g (fst ++ [.agg (sprow x).toArray] ++ cap) ((b2, cel 128 (sprow x)) :: (b, cel 133 [.func (.func g) fst.toArray cap.toArray]) :: H) R (.bool (p x))) :
    FnV Tryz.prog 131 [.slice a xs.length c, .func (.func g) fst.toArray cap.toArray] H R (.bool (xs.all p)) := by
 refine Z8 Tryz.func131 rfl Tryz.ntmps131 rfl ?_
 refine sqt 2 rfl (bx rfl rfl rfl (fun b3 => pur 1 rfl (sqt 5 rfl (pur 1 rfl (sp rfl (PE.makeFunc rfl rfl) rfl ?_)))))
 refine clV rfl Z8V rfl rfl (c_has_spl xs a c 190 [] [_] (fun x => !p x) Zdm hl _ _ (hp := fun x hx => Z86 x g _ fst cap (p x) hg _ _ (hp := fun b => hp _ _ x hx))) ?_
 refine pur 2 rfl (Z4 ?_)
 exact rtA rfl rfl rfl ⟨by simp only [ZA]; rw [Zw], rfl, rfl⟩ drp
theorem Z53 (xs : List Cnt) (a : Option Addr) (c : Nat) (hl : xs.length ≤ 1000000) (H : Z7) (R : Z5) [hR : MemRows a 3 (crows xs) R] :
    Fn Tryz.prog 137 [.slice a xs.length c] H R (fun v H' R' => ∃ o : OSl 89 3 (crows xs), v = o.fs ∧ H' = o.G ++ H ∧ R' = R) := by
 refine Z8 Tryz.func137 rfl Tryz.ntmps137 rfl ?_
 refine sqt 1 rfl (pur 1 rfl (Z0 (sqt 2 rfl (pur 1 rfl (sp rfl (PE.eqlNil Z0m rfl rfl) rfl ?_)))))
 refine Z1 rfl ?_ ?_ <;> intro hc0
 refine Sy.pre (fun w h => Z2w (h.now hR.mem) hc0) (fun hnil => ?_)
 obtain rfl : xs = [] := by simpa [crows] using hnil
 refine sqt 1 rfl (pur 1 rfl (Z4 ?_))
 first
   | exact rtA rfl rfl rfl ⟨o2.cast (by simp), rfl, rfl, rfl⟩ idH
   | exact rtA rfl rfl rfl ⟨OSl.nil _ _, rfl, rfl, rfl⟩ idH
 refine Z3 (sqt 4 rfl ?_)
 refine ZcX rfl Z7l rfl (fun o5 ho5 => ?_)
 refine pur 1 rfl ?_
 refine Zb6 (news := crows xs) o5 rfl Z5S rfl rfl (Zae) (by simp [crows]) (by simp [Z0o, crows, crow, Value.oneCell']) ⟨by simp [crows]; omega, by simp [crows]; omega⟩ rfl ho5 (fun o2 ho2 => ?_)
 refine pur 1 rfl (Z4 ?_)
 first
   | exact rtA rfl rfl rfl ⟨o2.cast (by simp), rfl, rfl, rfl⟩ idH
   | exact rtA rfl rfl rfl ⟨OSl.nil _ _, rfl, rfl, rfl⟩ idH
theorem Z4n (xs : List Cnt) (a : Option Addr) (c : Nat) (hl : xs.length ≤ 1000000) (H : Z7) (R : Z5) [hR : MemRows a 3 (crows xs) R] : Fn Tryz.prog 137 [.slice a xs.length c] H R (fun v H' R' => ∃ a' c', v = .slice a' xs.length c' ∧ H' = H ∧ R' = RowsA a' 3 (crows xs) :: R) := fun w hs => by
  refine CallsIn.mono (Z53 xs a c hl H R w hs) ?_
  rintro e w' ⟨v, H', R', ⟨o, rfl, rfl, rfl⟩, he, hs'⟩
  obtain ⟨a', c', h1, h2⟩ := o.freeze
  rw [show (crows xs).length = xs.length from List.length_map _] at h1
  exact ⟨_, _, _, ⟨a', c', h1, rfl, rfl⟩, he, h2 hs'⟩
theorem Z4L (wt : Wt) (a1 a2 a3 : Option Addr) (k1 k2 k3 : Nat) (hw : wt.ok) (x : Cnt) (hx : x ∈ wt.counts) (b1 : Nat) (H : Z7) (R : Z5) [hB : Mem1 b1 (cel 71 (wtl wt a1 a2 a3 k1 k2 k3)) H] :
    FnV Tryz.prog 127 [.agg (crow x).toArray, .pointer (some ⟨b1, 0, none⟩)] H R (.bool true) := by
 have hb := hw.cnt x hx
 refine Z8 Tryz.func127 rfl Tryz.ntmps127 rfl ?_
 refine sqt 2 rfl (bx rfl rfl rfl (fun b2 => pur 1 rfl (sqt 17 rfl (spL rfl rfl (lhA (wtl wt a1 a2 a3 k1 k2 k3) Z17 rfl rfl rfl) rfl (sp rfl (PE.fA Z0h rfl) rfl (spL rfl rfl (lh sc3 rfl rfl) rfl ?_))))))
 refine cl rfl Z5B rfl rfl (Z6o wt a1 a2 a3 k1 k2 k3 x.hour _ _) ?_
 rintro _ _ R1 ⟨rfl, rfl, hR1⟩
 obtain rfl := hR1.symm
 clear hR1
 rw [show inL x.hour 0 wt.hours = true by simp [inL]; omega]
 refine pur 1 rfl ?_
 refine Zk 8 rfl ?_ ?_ <;> intro g8
 refine spG rfl rfl rfl rfl (PE.fA Z2b rfl) rfl ?_
 refine spG rfl rfl rfl rfl (PE.fA Z3u rfl) rfl ?_
 refine Z0f rfl rfl rfl rfl rfl (lh sc3 rfl rfl) rfl ?_
 refine Z3e rfl rfl rfl rfl Z1I rfl rfl (Z5l _ _ _ (by omega) _ _) ?_
 refine pur 2 rfl ?_
 refine Zk 14 rfl ?_ ?_ <;> intro g14
 refine spG rfl rfl rfl rfl (PE.fA Z2b rfl) rfl ?_
 refine spG rfl rfl rfl rfl (PE.fA Z3m rfl) rfl ?_
 refine Z0f rfl rfl rfl rfl rfl (lh sc3 rfl rfl) rfl ?_
 refine Z3e rfl rfl rfl rfl Z1I rfl rfl (Z5l _ _ _ (by omega) _ _) ?_
 refine pur 2 rfl (Z4 ?_)
 exact rtA rfl rfl rfl ⟨rfl, rfl, rfl⟩ drp
 exact absurd g14 (by simp)
 exact absurd g8 (by simp)
theorem Z4r (wt : Wt) (a1 a2 a3 : Option Addr) (k1 k2 k3 : Nat) (hw : wt.ok) (x : Bkg) (hx : x ∈ wt.books) (b1 : Nat) (H : Z7) (R : Z5) [hB : Mem1 b1 (cel 71 (wtl wt a1 a2 a3 k1 k2 k3)) H] :
    FnV Tryz.prog 130 [.agg (bkrow x).toArray, .pointer (some ⟨b1, 0, none⟩)] H R (.bool true) := by
 have hb := hw.bks x hx
 refine Z8 Tryz.func130 rfl Tryz.ntmps130 rfl ?_
 refine sqt 2 rfl (bx rfl rfl rfl (fun b2 => pur 1 rfl (sqt 15 rfl (spL rfl rfl (lhA (wtl wt a1 a2 a3 k1 k2 k3) Z17 rfl rfl rfl) rfl (sp rfl (PE.fA Z0C rfl) rfl (spL rfl rfl (lh sc3 rfl rfl) rfl ?_))))))
 refine cl rfl Z5B rfl rfl (Z6o wt a1 a2 a3 k1 k2 k3 x.hour _ _) ?_
 rintro _ _ R1 ⟨rfl, rfl, hR1⟩
 obtain rfl := hR1.symm
 clear hR1
 rw [show inL x.hour 0 wt.hours = true by simp [inL]; omega]
 refine pur 1 rfl ?_
 refine Zk 8 rfl ?_ ?_ <;> intro g8
 refine spG rfl rfl rfl rfl (PE.fA Z0X rfl) rfl ?_
 refine Z0f rfl rfl rfl rfl rfl (lh sc3 rfl rfl) rfl ?_
 refine Z3e rfl rfl rfl rfl Z1I rfl rfl (Z5l _ _ _ (by omega) _ _) ?_
 refine pur 2 rfl ?_
 refine Zk 13 rfl ?_ ?_ <;> intro g13
 refine spG rfl rfl rfl rfl (PE.fA Z0X rfl) rfl ?_
 refine Z0f rfl rfl rfl rfl rfl (lh sc3 rfl rfl) rfl (pur 3 rfl (Z4 ?_))
 exact rtA rfl rfl rfl ⟨by simp only [ZA, cond_true]; rw [dT (by omega)], rfl, rfl⟩ drp
 exact absurd g13 (by simp)
 exact absurd g8 (by simp)
theorem Z8o (wt : Wt) (a1 a2 a3 : Option Addr) (k1 k2 k3 : Nat) (hw : wt.ok) (x : Spl) (hx : x ∈ wt.spells) (b1 : Nat) (H : Z7) (R : Z5) [hB : Mem1 b1 (cel 71 (wtl wt a1 a2 a3 k1 k2 k3)) H] :
    FnV Tryz.prog 132 [.agg (sprow x).toArray, .pointer (some ⟨b1, 0, none⟩)] H R (.bool true) := by
 have hb := hw.spl x hx
 refine Z8 Tryz.func132 rfl Tryz.ntmps132 rfl ?_
 refine sqt 2 rfl (bx rfl rfl rfl (fun b2 => pur 1 rfl (sqt 11 rfl (spL rfl rfl (lhA (wtl wt a1 a2 a3 k1 k2 k3) Z17 rfl rfl rfl) rfl (sp rfl (PE.fA Z2I rfl) rfl (spL rfl rfl (lh sc3 rfl rfl) rfl ?_))))))
 refine cl rfl Z5B rfl rfl (Z6o wt a1 a2 a3 k1 k2 k3 x.fr _ _) ?_
 rintro _ _ R1 ⟨rfl, rfl, hR1⟩
 obtain rfl := hR1.symm
 clear hR1
 rw [show inL x.fr 0 wt.hours = true by simp [inL]; omega]
 refine pur 1 rfl ?_
 refine Zk 8 rfl ?_ ?_ <;> intro g8
 refine Z0f rfl rfl rfl rfl rfl (lhA (wtl wt a1 a2 a3 k1 k2 k3) Z17 rfl rfl rfl) rfl ?_
 refine spG rfl rfl rfl rfl (PE.fA Z37 rfl) rfl ?_
 refine Z0f rfl rfl rfl rfl rfl (lh sc3 rfl rfl) rfl ?_
 refine clG rfl rfl rfl rfl Z5B rfl rfl (Z6o wt a1 a2 a3 k1 k2 k3 x.to _ _) ?_
 rintro _ _ R1 ⟨rfl, rfl, hR1⟩
 obtain rfl := hR1.symm
 clear hR1
 rw [show inL x.to 0 wt.hours = true by simp [inL]; omega]
 refine pur 2 rfl (Z4 ?_)
 exact rtA rfl rfl rfl ⟨rfl, rfl, rfl⟩ drp
 exact absurd g8 (by simp)
theorem Z7H (wt : Wt) (a1 a2 a3 : Option Addr) (k1 k2 k3 : Nat) (hw : wt.ok) (x : Spl) (hx : x ∈ wt.spells) (b3 : Nat) (H : Z7) (R : Z5) [hB : Mem1 b3 (cel 112 [.func (.func 54) #[(wt.v a1 a2 a3 k1 k2 k3)] #[]]) H] :
    FnV Tryz.prog 133 [.agg (sprow x).toArray, .pointer (some ⟨b3, 0, none⟩)] H R (.bool true) := by
 have hb := hw.spl x hx
 have hh := hw.hands
 refine Z8 Tryz.func133 rfl Tryz.ntmps133 rfl ?_
 refine sqt 2 rfl (bx rfl rfl rfl (fun b2 => pur 1 rfl (sqt 5 rfl (spL rfl rfl (lh Z4l rfl rfl) rfl (sp rfl (PE.fA Z43 rfl) rfl (spL rfl rfl (lh sc3 rfl rfl) rfl ?_))))))
 refine clF rfl rfl (ZeD) rfl rfl (ZaK wt a1 a2 a3 k1 k2 k3 x.hand (by omega) _ _) ?_
 rintro _ _ R1 ⟨rfl, rfl, hR1⟩
 obtain rfl := hR1.symm
 clear hR1
 rw [show inL x.hand 0 (wt.hands - 1) = true by simp [inL]; omega]
 refine pur 1 rfl (Z4 ?_)
 exact rtA rfl rfl rfl ⟨rfl, rfl, rfl⟩ drp
theorem Z7K (x y : Cnt) (hx : 0 ≤ x.hour ∧ x.hour ≤ 1000) (hy : 0 ≤ y.hour ∧ y.hour ≤ 1000) (H : Z7) (R : Z5) :
    FnV Tryz.prog 135 [.agg (crow x).toArray, .agg (crow y).toArray] H R (.int .i64 (x.hour - y.hour)) := by
 refine Z8 Tryz.func135 rfl Tryz.ntmps135 rfl ?_
 refine sqt 3 rfl (bx rfl rfl rfl (fun b2 => bx rfl rfl rfl (fun b3 => pur 1 rfl (sqt 6 rfl (sp rfl (PE.fA Z0h rfl) rfl (spL rfl rfl (lh sc3 rfl rfl) rfl (sp rfl (PE.fA Z0h rfl) rfl (spL rfl rfl (lh sc3 rfl rfl) rfl (sp rfl (PE.sub rfl rfl (by omega)) rfl (pur 1 rfl (Z4 ?_)))))))))))
 exact rtA rfl rfl rfl ⟨rfl, rfl, rfl⟩ drp
theorem Z8D (x y : Cnt) (H : Z7) (R : Z5) :
    FnV Tryz.prog 138 [.agg (crow x).toArray, .agg (crow y).toArray] H R (.bool (decide (x.hour = y.hour))) := by
 refine Z8 Tryz.func138 rfl Tryz.ntmps138 rfl ?_
 refine sqt 3 rfl (bx rfl rfl rfl (fun b2 => bx rfl rfl rfl (fun b3 => pur 1 rfl (sqt 6 rfl (sp rfl (PE.fA Z0h rfl) rfl (spL rfl rfl (lh sc3 rfl rfl) rfl (sp rfl (PE.fA Z0h rfl) rfl (spL rfl rfl (lh sc3 rfl rfl) rfl (pur 2 rfl (Z4 ?_))))))))))
 exact rtA rfl rfl rfl ⟨rfl, rfl, rfl⟩ drp
theorem Z84 (x : Cnt) (H : Z7) (R : Z5) :
    FnV Tryz.prog 139 [.agg (crow x).toArray] H R (.bool (decide (x.lo ≤ x.hi))) := by
 refine Z8 Tryz.func139 rfl Tryz.ntmps139 rfl ?_
 refine sqt 2 rfl (bx rfl rfl rfl (fun b1 => pur 1 rfl (sqt 8 rfl (sp rfl (PE.fA Z2b rfl) rfl (sp rfl (PE.fA Z3u rfl) rfl (spL rfl rfl (lh sc3 rfl rfl) rfl (sp rfl (PE.fA Z2b rfl) rfl (sp rfl (PE.fA Z3m rfl) rfl (spL rfl rfl (lh sc3 rfl rfl) rfl (pur 2 rfl (Z4 ?_)))))))))))
 exact rtA rfl rfl rfl ⟨rfl, rfl, rfl⟩ drp
theorem Z8R (x : Spl) (H : Z7) (R : Z5) :
    FnV Tryz.prog 140 [.agg (sprow x).toArray] H R (.bool (decide (x.fr < x.to))) := by
 refine Z8 Tryz.func140 rfl Tryz.ntmps140 rfl ?_
 refine sqt 2 rfl (bx rfl rfl rfl (fun b1 => pur 1 rfl (sqt 6 rfl (sp rfl (PE.fA Z2I rfl) rfl (spL rfl rfl (lh sc3 rfl rfl) rfl (sp rfl (PE.fA Z37 rfl) rfl (spL rfl rfl (lh sc3 rfl rfl) rfl (pur 2 rfl (Z4 ?_)))))))))
 exact rtA rfl rfl rfl ⟨rfl, rfl, rfl⟩ drp
theorem Zcu (wt : Wt) (hw : wt.ok) (a : Option Addr) (c : Nat) (H : Z7) (R : Z5) [hR : MemRows a 3 (crows wt.counts) R] :
    FnV Tryz.prog 134 [.slice a wt.counts.length c, .func (.func 135) #[] #[]] H R (.bool true) := by
 have hnc := hw.nc
 refine Z8 Tryz.func134 rfl Tryz.ntmps134 rfl ?_
 refine sqt 1 rfl (pur 1 rfl (Z0 (sqt 4 rfl (pur 1 rfl (sp rfl (PE.lenSl Z0m rfl) rfl (sp rfl (PE.sub rfl rfl (by omega)) rfl (pur 1 rfl (Z2 ?_))))))))
 refine Zb (ι := {k : Nat // k ≤ wt.counts.length}) (fun k => ⟨[(0, .slice a wt.counts.length c), (1, .func (.func 135) #[] #[]), (5, .int .i64 ((k.1 : Int) - 1))], H, R⟩) (fun k => k.1) ⟨wt.counts.length, by omega⟩ ?_ (fun k => ?_)
 exact Zf idH
 obtain ⟨k, hk⟩ := k
 dsimp only at hk ⊢
 refine Z0 (sqt 2 rfl (pur 2 rfl ?_))
 refine Z1 rfl ?_ ?_ <;> intro hc0 <;> try simp only [cS] at hc0
 obtain ⟨k, rfl⟩ : ∃ j, k = j + 2 := ⟨k - 2, by omega⟩
 rw [show (((k + 2 : Nat) : Int) - 1) = (k + 1 : Nat) from by omega]
 obtain ⟨y, hy⟩ : ∃ y, wt.counts[k + 1]? = some y := ⟨_, List.getElem?_eq_getElem (by omega)⟩
 obtain ⟨x, hx⟩ : ∃ x, wt.counts[k]? = some x := ⟨_, List.getElem?_eq_getElem (by omega)⟩
 have hxy := hw.inc k x y hx hy
 have hxb := hw.cnt x (List.mem_of_getElem? hx)
 have hyb := hw.cnt y (List.mem_of_getElem? hy)
 have hho := hw.hours
 refine Zg (a := a) (sz := 3) (rows := crows wt.counts) (by intro h0; simp [crows] at h0; simp [h0] at hx) (fun b off he => ?_)
 subst he
 refine Z3 (Z0 (Z2 (Z0 ?_)))
 refine Zc [0, 0, 0, 6, 14, 0, 0, 64, 224, 480, 1023, 2047] (tks 0 4 (.ld 4 (tks 5 4 (.ld 9 (.big 10 (.tk 11 .done)))))) Zo (by kernel_rfl) ?_
 refine Zd 3 rfl (tk rfl (PE.indexAddr Z5Y rfl rfl (by omega) (by omega)) rfl (ld rfl rfl (lfA Z3b (row := crow y) (ZP hy) rfl) rfl (Zd 2 rfl (tk rfl (PE.sub rfl rfl (by omega)) rfl (tk rfl (PE.indexAddr Z5Y rfl rfl (by omega) (by omega)) rfl (ld rfl rfl (lfA Z3b (row := crow x) (by rw [show (((k + 1 : Nat) : Int) - 1).toNat = k from by omega]; exact ZP hx) rfl) rfl ?_))))))
 refine Z1x rfl rfl (Ze4) rfl rfl (Z7K y x (by omega) (by omega) _ _) ?_
 refine bgT (Zd 1 rfl ?_)
 refine Z1 rfl ?_ ?_ <;> intro hc1
 exact absurd hc1 (by simp; omega)
 refine Z3 (sqr 3 rfl (pur 1 rfl (sp rfl (PE.sub rfl rfl (by omega)) rfl (pur 1 rfl ?_))))
 refine Zr ⟨k + 1, by omega⟩ (by dsimp only; omega) idH
 refine Z9 (Za (Za (Zl (sqt 1 rfl (pur 1 rfl (Z4 ?_))))))
 exact rtA rfl rfl rfl ⟨rfl, rfl, rfl⟩ drp
theorem Zbs (wt : Wt) (hw : wt.ok) (a : Option Addr) (c : Nat) (H : Z7) (R : Z5) [hR : MemRows a 3 (crows wt.counts) R] :
    FnV Tryz.prog 136 [.slice a wt.counts.length c, .func (.func 138) #[] #[]] H R (.slice a wt.counts.length c) := by
 have hnc := hw.nc
 refine Z8 Tryz.func136 rfl Tryz.ntmps136 rfl ?_
 refine sqt 1 rfl (pur 1 rfl (Z0 (sqt 3 rfl (pur 1 rfl (sp rfl (PE.lenSl Z0m rfl) rfl (pur 1 rfl ?_))))))
 refine Z1 rfl ?_ ?_ <;> intro hc0
 refine sqt 2 rfl (pur 2 rfl (Z4 ?_))
 exact rtA rfl rfl rfl ⟨rfl, rfl, rfl⟩ drp
 try simp only [cS] at hc0
 refine Z3 (Z0 (sqt 1 rfl (pur 1 rfl (Z2 ?_))))
 refine Zb (ι := {k : Nat // k + 1 ≤ wt.counts.length}) (fun k => ⟨[(0, .slice a wt.counts.length c), (1, .func (.func 138) #[] #[]), (5, .int .i64 ((k.1 + 1 : Nat) : Int))], H, R⟩) (fun k => wt.counts.length - k.1) ⟨0, by omega⟩ ?_ (fun k => ?_)
 exact Zf idH
 obtain ⟨k, hk⟩ := k
 dsimp only at hk ⊢
 refine Z0 (sqt 4 rfl (pur 2 rfl (sp rfl (PE.lenSl Z0m rfl) rfl (pur 1 rfl ?_))))
 refine Z1 rfl ?_ ?_ <;> intro hc1
 try simp only [cS] at hc1
 obtain ⟨y, hy⟩ : ∃ y, wt.counts[k + 1]? = some y := ⟨_, List.getElem?_eq_getElem (by omega)⟩
 obtain ⟨x, hx⟩ : ∃ x, wt.counts[k]? = some x := ⟨_, List.getElem?_eq_getElem (by omega)⟩
 have hxy := hw.inc k x y hx hy
 have hxb := hw.cnt x (List.mem_of_getElem? hx)
 have hyb := hw.cnt y (List.mem_of_getElem? hy)
 have hho := hw.hours
 refine Zg (a := a) (sz := 3) (rows := crows wt.counts) (by intro h0; simp [crows] at h0; simp [h0] at hx) (fun b off he => ?_)
 subst he
 refine Z3 (Z0 (Z2 (Z0 ?_)))
 refine Zc [0, 0, 0, 6, 14, 0, 0, 64, 224, 480, 1023] (tks 0 4 (.ld 4 (tks 5 4 (.ld 9 (.big 10 .done))))) Zo (by kernel_rfl) ?_
 refine Zd 3 rfl (tk rfl (PE.indexAddr Z5Y rfl rfl (by omega) (by omega)) rfl (ld rfl rfl (lfA Z3b (row := crow y) (ZP hy) rfl) rfl (Zd 2 rfl (tk rfl (PE.sub rfl rfl (by omega)) rfl (tk rfl (PE.indexAddr Z5Y rfl rfl (by omega) (by omega)) rfl (ld rfl rfl (lfA Z3b (row := crow x) (by rw [show (((k + 1 : Nat) : Int) - 1).toNat = k from by omega]; exact ZP hx) rfl) rfl ?_))))))
 refine Z1x rfl rfl (Zeq) rfl rfl (Z8D y x _ _) ?_
 refine bgT ?_
 refine Z1 rfl ?_ ?_ <;> intro hc2
 exact absurd hc2 (by simp; omega)
 refine Z3 (sqr 3 rfl (pur 1 rfl (sp rfl (PE.add rfl rfl (by omega)) rfl (pur 1 rfl ?_))))
 refine Zr ⟨k + 1, by omega⟩ (by dsimp only; omega) idH
 refine Z9 (Za (Za (Zl (sqt 2 rfl (pur 2 rfl (Z4 ?_))))))
 exact rtA rfl rfl rfl ⟨rfl, rfl, rfl⟩ drp
theorem Z1l (wt : Wt) (a1 a2 a3 : Option Addr) (k1 k2 k3 : Nat) (hw : wt.ok) (H : Z7) (R : Z5) [hR1 : MemRows a1 3 (crows wt.counts) R] [hR2 : MemRows a2 2 (bkrows wt.books) R] [hR3 : MemRows a3 3 (sprows wt.spells) R] :
    FnV Tryz.prog 61 [(wt.v a1 a2 a3 k1 k2 k3)] H R (.int .i64 0) := by
 have hnc := hw.nc
 have hnb := hw.nb
 have hns := hw.ns
 have hho := hw.hours
 have hal := hw.allow
 have hha := hw.hands
 refine Z8 Tryz.func61 rfl Tryz.ntmps61 rfl ?_
 refine sqt 2 rfl (bx rfl rfl rfl (fun b1 => pur 1 rfl (sqt 4 rfl (spL rfl rfl (lhA (wtl wt a1 a2 a3 k1 k2 k3) Z17 rfl rfl rfl) rfl (sp rfl (PE.makeFunc rfl rfl) rfl (alc rfl Zb7 rfl (fun b3 => ?_)))))))
 refine sto rfl rfl rfl ZcB rfl rfl rfl rfl ?_
 refine Z0 (Z2 (sqt 24 rfl (sp rfl (PE.fA ZW rfl) rfl (spL rfl rfl (lh sc3 rfl rfl) rfl ?_))))
 refine clV rfl Z1I rfl rfl (Z5l _ _ _ (by omega) _ _) ?_
 refine pur 2 rfl ?_
 refine Zk 11 rfl ?_ ?_ <;> intro g11
 exact absurd g11 (by simp)
 refine spG rfl rfl rfl rfl (PE.fA Zv rfl) rfl ?_
 refine Z0f rfl rfl rfl rfl rfl (lh ZV rfl rfl) rfl ?_
 refine spG rfl rfl rfl rfl (PE.lenSl Z0m rfl) rfl ?_
 refine Z3e rfl rfl rfl rfl Z1I rfl rfl (Z5l _ _ _ (by omega) _ _) ?_
 refine pur 3 rfl ?_
 refine Zk 18 rfl ?_ ?_ <;> intro g18
 exact absurd g18 (by simp)
 refine spG rfl rfl rfl rfl (PE.fA Z1g rfl) rfl ?_
 refine Z0f rfl rfl rfl rfl rfl (lh Z5o rfl rfl) rfl ?_
 refine spG rfl rfl rfl rfl (PE.lenSl Z4E rfl) rfl ?_
 refine pur 3 rfl ?_
 refine Zk 24 rfl ?_ ?_ <;> intro g24
 exact absurd g24 (by simp; omega)
 refine spG rfl rfl rfl rfl (PE.fA Z0O rfl) rfl ?_
 refine Z0f rfl rfl rfl rfl rfl (lh Z1P rfl rfl) rfl ?_
 refine spG rfl rfl rfl rfl (PE.lenSl Z9Z rfl) rfl ?_
 refine pur 3 rfl ?_
 refine Z1 rfl ?_ ?_ <;> intro hc0
 exact absurd hc0 (by simp; omega)
 refine sqt 11 rfl (sp rfl (PE.fA Z1E rfl) rfl (spL rfl rfl (lh sc3 rfl rfl) rfl ?_))
 refine clV rfl Z1I rfl rfl (Z5l _ _ _ (by omega) _ _) ?_
 refine pur 2 rfl ?_
 refine Zk 35 rfl ?_ ?_ <;> intro g35
 exact absurd g35 (by simp)
 refine spG rfl rfl rfl rfl (PE.fA Z32 rfl) rfl ?_
 refine Z0f rfl rfl rfl rfl rfl (lh sc3 rfl rfl) rfl ?_
 refine Z3e rfl rfl rfl rfl Z1I rfl rfl (Z5l _ _ _ (by omega) _ _) ?_
 refine pur 3 rfl ?_
 refine Z1 rfl ?_ ?_ <;> intro hc1
 exact absurd hc1 (by simp)
 refine sqt 6 rfl (sp rfl (PE.fA Zv rfl) rfl (spL rfl rfl (lh ZV rfl rfl) rfl (sp rfl (PE.makeFunc rfl rfl) rfl ?_)))
 refine cl rfl Zay rfl rfl (Z2M wt.counts a1 k1 127 [] [_] (fun _ => true) Zde (by omega) _ _ (fun _ _ x hx => Z4L wt a1 a2 a3 k1 k2 k3 hw x hx b1 _ _)) ?_
 rintro _ _ R1 ⟨rfl, rfl, hR1⟩
 obtain rfl := hR1.symm
 clear hR1
 rw [Z62]
 refine pur 2 rfl ?_
 refine Z1 rfl ?_ ?_ <;> intro hc2
 exact absurd hc2 (by simp)
 refine sqt 6 rfl (sp rfl (PE.fA Z1g rfl) rfl (spL rfl rfl (lh Z5o rfl rfl) rfl (sp rfl (PE.makeFunc rfl rfl) rfl ?_)))
 refine cl rfl ZeQ rfl rfl (Z5b wt.books a2 k2 130 [] [_] (fun _ => true) Zdd (by omega) _ _ (fun _ _ x hx => Z4r wt a1 a2 a3 k1 k2 k3 hw x hx b1 _ _)) ?_
 rintro _ _ R1 ⟨rfl, rfl, hR1⟩
 obtain rfl := hR1.symm
 clear hR1
 rw [Z62]
 refine pur 2 rfl ?_
 refine Z1 rfl ?_ ?_ <;> intro hc3
 exact absurd hc3 (by simp)
 refine sqt 6 rfl (sp rfl (PE.fA Z0O rfl) rfl (spL rfl rfl (lh Z1P rfl rfl) rfl (sp rfl (PE.makeFunc rfl rfl) rfl ?_)))
 refine cl rfl Z83 rfl rfl (Z1m wt.spells a3 k3 132 [] [_] (fun _ => true) ZeS (by omega) _ _ (fun _ _ x hx => Z8o wt a1 a2 a3 k1 k2 k3 hw x hx b1 _ _)) ?_
 rintro _ _ R1 ⟨rfl, rfl, hR1⟩
 obtain rfl := hR1.symm
 clear hR1
 rw [Z62]
 refine pur 2 rfl ?_
 refine Z1 rfl ?_ ?_ <;> intro hc4
 exact absurd hc4 (by simp)
 refine sqt 6 rfl (sp rfl (PE.fA Z0O rfl) rfl (spL rfl rfl (lh Z1P rfl rfl) rfl (sp rfl (PE.makeFunc rfl rfl) rfl ?_)))
 refine cl rfl Z83 rfl rfl (Z1m wt.spells a3 k3 133 [] [_] (fun _ => true) ZdN (by omega) _ _ (fun _ _ x hx => Z7H wt a1 a2 a3 k1 k2 k3 hw x hx b3 _ _)) ?_
 rintro _ _ R1 ⟨rfl, rfl, hR1⟩
 obtain rfl := hR1.symm
 clear hR1
 rw [Z62]
 refine pur 2 rfl ?_
 refine Z1 rfl ?_ ?_ <;> intro hc5
 exact absurd hc5 (by simp)
 refine sqt 5 rfl (sp rfl (PE.fA Zv rfl) rfl (spL rfl rfl (lh ZV rfl rfl) rfl ?_))
 refine clV rfl Zfk rfl rfl (Zcu wt hw a1 k1 _ _) ?_
 refine pur 2 rfl ?_
 refine Z1 rfl ?_ ?_ <;> intro hc6
 exact absurd hc6 (by simp)
 refine Z0 ?_
 refine Zc [0, 1, 3, 7, 15, 0, 32, 96, 255, 511] (.tk 0 (.ld 1 (.tk 5 (.ld 6 (.tk 7 (.big 2 (.big 3 (.tk 4 (.tk 8 (.tk 9 .done)))))))))) Zo (by kernel_rfl) ?_
 refine tk rfl (PE.fA Zv rfl) rfl (ld rfl rfl (lh ZV rfl rfl) rfl (tk rfl (PE.fA Zv rfl) rfl (ld rfl rfl (lh ZV rfl rfl) rfl (tk rfl (PE.lenSl Z0m rfl) rfl ?_))))
 refine cl rfl ZfK rfl rfl (Z4n wt.counts a1 k1 (by omega) _ _) ?_
 rintro _ _ R1 ⟨a9, k9, rfl, rfl, hR1⟩
 obtain rfl := hR1.symm
 clear hR1
 refine bg (fun w hs => ⟨(lh ZV rfl rfl) w hs, trivial, trivial⟩) ?_
 refine clV rfl Zfj rfl rfl (Zbs wt hw a9 k9 _ _) ?_
 refine bg (fun w hs => ⟨(lh ZV rfl rfl) w hs, trivial⟩) ?_
 refine tk rfl (PE.lenSl Z0m rfl) rfl (Zd 2 rfl ?_)
 refine Z1 rfl ?_ ?_ <;> intro hc7
 exact absurd hc7 (by simp)
 refine sqt 11 rfl (sp rfl (PE.fA Zv rfl) rfl (spL rfl rfl (lh ZV rfl rfl) rfl ?_))
 refine cl rfl Zay rfl rfl (Z2M wt.counts a1 k1 139 [] [] (fun x => decide (x.lo ≤ x.hi)) Zfa (by omega) _ _ (fun _ _ x hx => Z84 x _ _)) ?_
 rintro _ _ R1 ⟨rfl, rfl, hR1⟩
 obtain rfl := hR1.symm
 clear hR1
 rw [show (wt.counts.all fun x => decide (x.lo ≤ x.hi)) = true from List.all_eq_true.2 fun x hx => by have := hw.cnt x hx; simp; omega]
 refine pur 2 rfl ?_
 refine Zk 85 rfl ?_ ?_ <;> intro g85
 exact absurd g85 (by simp)
 refine spG rfl rfl rfl rfl (PE.fA Z0O rfl) rfl ?_
 refine Z0f rfl rfl rfl rfl rfl (lh Z1P rfl rfl) rfl ?_
 refine clG rfl rfl rfl rfl Z83 rfl rfl (Z1m wt.spells a3 k3 140 [] [] (fun x => decide (x.fr < x.to)) ZeF (by omega) _ _ (fun _ _ x hx => Z8R x _ _)) ?_
 rintro _ _ R1 ⟨rfl, rfl, hR1⟩
 obtain rfl := hR1.symm
 clear hR1
 rw [show (wt.spells.all fun x => decide (x.fr < x.to)) = true from List.all_eq_true.2 fun x hx => by have := hw.spl x hx; simp; omega]
 refine pur 3 rfl ?_
 refine Z1 rfl ?_ ?_ <;> intro hc8
 exact absurd hc8 (by simp)
 refine Z3 (sqt 1 rfl (pur 1 rfl (Z4 ?_)))
 exact rtA rfl rfl rfl ⟨rfl, rfl, rfl⟩ (fun w h => St.sub ((h.del b3).del b1))
theorem Z02 : Z0Z Tryz.prog 195 = some 2 := by kernel_rfl
theorem Z9J : Z0Z Tryz.prog 199 = some 8 := by kernel_rfl
theorem Z7D : arN Tryz.prog 199 = some (8, 1) := by kernel_rfl
theorem Z90 : arN Tryz.prog 203 = some (8, 1) := by kernel_rfl
theorem ZaY : cal Tryz.prog 175 = true := by kernel_rfl
theorem ZdD : ZN Tryz.prog 199 = some 8 := by kernel_rfl
theorem cn4 : ZN Tryz.prog 4 = some 1 := by kernel_rfl
theorem Zd3 : ZN Tryz.prog 89 = some 3 := by kernel_rfl
theorem Z13 : eqB Tryz.prog 10000 195 = some (true, 2) := by kernel_rfl
theorem Z0S : ZF Tryz.prog 195 0 = some 0 := by kernel_rfl
theorem Z0M : ZF Tryz.prog 195 1 = some 1 := by kernel_rfl
theorem Z09 : ZF Tryz.prog 206 0 = some 0 := by kernel_rfl
theorem Z2F : ZF Tryz.prog 206 1 = some 6 := by kernel_rfl
theorem Z2H : ZF Tryz.prog 206 2 = some 14 := by kernel_rfl
theorem Z1Q : Z1k Tryz.prog 204 = some (195, 3) := by kernel_rfl
theorem Z1T : Z2U Tryz.prog 10000 195 = true := by kernel_rfl
theorem Z9z : ZJ Tryz.prog 195 = some [(0, 1), (1, 1)] := by kernel_rfl
theorem Z78 : Z07 Tryz.prog 204 = true := by kernel_rfl
theorem Z1f : Zy Tryz.prog 195 = some ([.int .i64 0, .int .i64 0]) := by kernel_rfl
theorem Z9S : Zy Tryz.prog 199 = some ([.bool false, .bool false, .bool false, .bool false, .bool false, .bool false, .bool false, .bool false]) := by kernel_rfl
theorem Z2p : Zy Tryz.prog 89 = some ([.int .i64 0, .int .i64 0, .int .i64 0]) := by kernel_rfl
theorem zv3 : zvl Tryz.prog 3 = some (.int .i64 0) := by kernel_rfl
theorem mul_b {a b A B : Int} (h1 : 0 ≤ a) (h2 : a ≤ A) (h3 : 0 ≤ b) (h4 : b ≤ B) : 0 ≤ a * b ∧ a * b ≤ A * B := by
  have h5 := Int.mul_le_mul h2 h4 h3 (by omega)
  have h6 := Int.mul_nonneg h1 h3
  omega
def pS (n f t : Nat) : Nat := ((List.range f).flatMap (Z9h n)).length + (t - (f + 1))
theorem Z3U (n f : Nat) : (Z9h n f).length = n - (f + 1) := by simp [Z9h]
theorem Zc3 {n f t : Nat} (h : f + 1 ≤ t) : pS n f (t + 1) = pS n f t + 1 := by unfold pS; omega
theorem Zbu {n f : Nat} : pS n f n = pS n (f + 1) (f + 2) := by
  unfold pS
  rw [List.range_succ, List.flatMap_append, List.length_append]
  simp only [List.flatMap_cons, List.flatMap_nil, List.append_nil, Z3U]; omega
theorem Zfd (n : Nat) : pS n n (n + 1) = (Z0n n).length := by unfold pS Z0n; omega
theorem Ze1 {n f t : Nat} (h1 : f + 1 ≤ t) (h2 : t < n) : (Z0n n)[pS n f t]? = some (f, t) := by
  have e1 : List.range n = List.range f ++ f :: (List.range n).drop (f + 1) := by
    have := List.drop_eq_getElem_cons (l := List.range n) (i := f) (by simp; omega)
    conv => lhs; rw [← List.take_append_drop f (List.range n)]
    rw [this, List.take_range]
    simp [Nat.min_eq_left (show f ≤ n by omega)]
  unfold Z0n pS
  rw [e1, List.flatMap_append, List.flatMap_cons, List.getElem?_append_right (by omega), Nat.add_sub_cancel_left, List.getElem?_append_left (by rw [Z3U]; omega)]
  unfold Z9h
  rw [List.getElem?_map, List.getElem?_range' (by omega)]
  simp; omega
theorem str_mem {n f t : Nat} : (f, t) ∈ Z0n n ↔ f < t ∧ t < n := by
  unfold Z0n Z9h
  simp only [List.mem_flatMap, List.mem_range, List.mem_map, Prod.mk.injEq, List.mem_range'_1]
  constructor
  · rintro ⟨a, h1, b, h2, rfl, rfl⟩; omega
  · rintro ⟨h1, h2⟩; exact ⟨f, by omega, t, by omega, rfl, rfl⟩
theorem Z8M (n : Nat) (h : n ≤ 8) : (Z0n n).length ≤ 64 := by
  have h1 : ∀ ys : List Nat, (ys.flatMap (Z9h n)).length ≤ ys.length * 8 := fun ys => by
    induction ys with
    | nil => simp
    | cons y ys ih => rw [List.flatMap_cons, List.length_append, Z3U, List.length_cons, Nat.succ_mul]; omega
  have h2 := h1 (List.range n)
  rw [List.length_range] at h2
  unfold Z0n; omega
theorem Z3c {w : Wt} {i : Nat} {c : Cnt} (h : w.counts[i]? = some c) : w.cn i = c := by unfold Wt.cn; rw [List.getD_eq_getElem?_getD, h]; rfl
theorem Z0c {w : Wt} {i : Nat} (h : i < w.counts.length) : w.counts[i]? = some (w.cn i) := by
  obtain ⟨c, hc⟩ : ∃ c, w.counts[i]? = some c := ⟨_, List.getElem?_eq_getElem h⟩
  rw [Z3c hc, hc]
theorem Z6B {w : Wt} (hw : w.ok) {i : Nat} (h : i < w.counts.length) : (0 ≤ (w.cn i).hour ∧ (w.cn i).hour ≤ 60) ∧ (0 ≤ (w.cn i).lo ∧ (w.cn i).lo ≤ 500) ∧ (0 ≤ (w.cn i).hi ∧ (w.cn i).hi ≤ 500) ∧ (w.cn i).lo ≤ (w.cn i).hi := by
  have h1 := hw.cnt _ (List.mem_of_getElem? (Z0c h))
  have h2 := hw.hours
  omega
theorem Z4e {w : Wt} (hw : w.ok) {i j : Nat} (hij : i < j) (h : j < w.counts.length) : (w.cn i).hour < (w.cn j).hour := hw.lt' hij (Z0c (by omega)) (Z0c h)
structure SumOk (s : List Int) (B : Int) : Prop where
  len : s.length = 8
  bd : ∀ i, -B ≤ na0 s i ∧ na0 s i ≤ B
theorem Z28 {s : List Int} {i j : Nat} {v : Int} (hi : i < s.length) : na0 (s.set i v) j = bif decide (i = j) then v else na0 s j := by
  unfold na0
  rw [List.getD_eq_getElem?_getD, List.getElem?_set, List.getD_eq_getElem?_getD]
  by_cases h : i = j
  · subst h; simp [hi]
  · simp [h]
theorem Zft {w : Wt} (hw : w.ok) {s : List Int} {B : Int} (h : SumOk s B) {b : Bkg} (hb : b ∈ w.books) : SumOk (w.bk1 s b) (B + 200) := by
  have hn := hw.nc
  have h1 := (hw.bks b hb).2.1
  have hB := h.bd 0
  unfold Wt.bk1
  cases hc : decide (0 < w.pos b.hour) && decide (w.pos b.hour < w.counts.length) with
  | false => exact ⟨h.len, fun i => by have := h.bd i; simp only [cond_false]; omega⟩
  | true =>
    simp only [Bool.and_eq_true, decide_eq_true_eq] at hc
    have hl : w.pos b.hour - 1 < s.length := by rw [h.len]; omega
    refine ⟨by simp [h.len], fun i => ?_⟩
    simp only [cond_true]
    rw [Z28 hl]
    have h2 := h.bd i
    have h3 := h.bd (w.pos b.hour - 1)
    by_cases e : w.pos b.hour - 1 = i
    · simp only [e, decide_true, cond_true]; rw [e] at h3; omega
    · simp only [e, decide_false, cond_false]; omega
theorem Z3N {w : Wt} (hw : w.ok) : ∀ k, SumOk ((w.books.take k).foldl w.bk1 (List.replicate 8 0)) (200 * (w.books.take k).length)
  | 0 => ⟨by simp, fun i => by
    have e : na0 (List.replicate 8 0) i = 0 := by unfold na0; rw [List.getD_eq_getElem?_getD, List.getElem?_replicate]; split <;> rfl
    rw [List.take_zero, List.foldl_nil, e]; simp⟩
  | k + 1 => by
    have ih := Z3N hw k
    cases hb : w.books[k]? with
    | none => rw [List.take_add_one, hb]; simpa using ih
    | some b =>
      rw [List.take_add_one, hb, List.foldl_append]
      have := Zft hw ih (List.mem_of_getElem? hb)
      simp only [Option.toList_some, List.foldl_cons, List.foldl_nil, List.length_append, List.length_singleton]
      refine ⟨this.len, fun i => ?_⟩
      have h2 := this.bd i
      omega
theorem Z12 {w : Wt} (hw : w.ok) : SumOk w.sums 2000 := by
  have h := Z3N hw w.books.length
  have hn := hw.nb
  rw [List.take_length] at h
  exact ⟨h.len, fun i => by have := h.bd i; show _ ≤ na0 (w.books.foldl w.bk1 _) i ∧ na0 (w.books.foldl w.bk1 _) i ≤ _; omega⟩
theorem Z2O (s : List Int) (f : Nat) : Z9f s f f = 0 := by simp [Z9f]
theorem Z39 {s : List Int} {f t : Nat} (h : f ≤ t) : Z9f s f (t + 1) = Z9f s f t + na0 s t := by
  unfold Z9f
  rw [show t + 1 - f = (t - f) + 1 by omega, List.range'_1_concat, List.map_append, List.sum_append, show f + (t - f) = t by omega]
  simp
theorem Z89 {s : List Int} {B : Int} (h : SumOk s B) (f : Nat) : ∀ k, -(B * (k : Nat)) ≤ Z9f s f (f + k) ∧ Z9f s f (f + k) ≤ B * (k : Nat)
  | 0 => by simp [Z2O]
  | k + 1 => by
    have ih := Z89 h f k
    have h1 := h.bd (f + k)
    rw [show f + (k + 1) = (f + k) + 1 by omega, Z39 (by omega)]
    have e : B * ((k + 1 : Nat) : Int) = B * (k : Nat) + B := by rw [Int.natCast_add, Int.mul_add]; simp
    omega
theorem Z9Q {w : Wt} (hw : w.ok) {f t : Nat} (h : f ≤ t) (ht : t ≤ 8) : -16000 ≤ w.bk f t ∧ w.bk f t ≤ 16000 := by
  have h1 := Z89 (Z12 hw) f (t - f)
  rw [show f + (t - f) = t by omega] at h1
  unfold Wt.bk
  omega
theorem ZaC {w : Wt} (hw : w.ok) {f t : Nat} (h : f < t) (ht : t < w.counts.length) : -18000 ≤ w.gap f t ∧ w.gap f t ≤ 18000 := by
  have hn := hw.nc
  have h1 := Z9Q hw (f := f) (t := t) (by omega) (by omega)
  have h2 := Z6B hw (i := f) (by omega)
  have h3 := Z6B hw ht
  have h4 := Z4e hw h ht
  have h5 := hw.allow
  have h6 := mul_b (a := w.allow) (b := (w.cn t).hour - (w.cn f).hour) (A := 20) (B := 60) (by omega) (by omega) (by omega) (by omega)
  unfold Wt.gap
  omega
theorem Zcn {A B : List Value} {s : List Int} {i n : Nat} (hn : n = A.length + i) (hi : i < s.length) : (A ++ (Zh s ++ B))[n]? = some (.int .i64 (na0 s i)) := by
  subst hn
  rw [List.getElem?_append_right (by omega), Nat.add_sub_cancel_left, List.getElem?_append_left (by simpa using hi)]
  simp [Zh, na0, hi]
theorem Z4q {A : List Value} {s : List Int} {v : Value} {n : Nat} (hn : n = A.length + s.length) : (A ++ (Zh s ++ [v]))[n]? = some v := by
  subst hn
  rw [List.getElem?_append_right (by omega), Nat.add_sub_cancel_left, List.getElem?_append_right (by simp)]
  simp
theorem ZaA {A B : List Value} {s : List Int} {i n : Nat} {v : Int} (hn : n = A.length + i) (hi : i < s.length) : spl (A ++ (Zh s ++ B)) n [.int .i64 v] = A ++ (Zh (s.set i v) ++ B) := by
  subst hn
  unfold spl
  rw [List.take_length_add_append, List.append_assoc, List.append_assoc]
  congr 1
  rw [show A.length + i + [Value.int .i64 v].length = A.length + (i + 1) from by simp; omega, List.drop_length_add_append, List.take_append_of_le_length (by simp; omega), List.drop_append_of_le_length (by simp; omega), ← List.append_assoc, ← List.append_assoc]
  congr 1
  apply List.ext_getElem?
  intro j
  simp only [Zh, List.map_set]
  rw [List.set_eq_take_append_cons_drop, if_pos (by simpa using hi)]
  simp
def MpF (m : Nat) (kv : KV) : World → Prop := fun w => w.heap[m]? = some (ZU true kv)
structure KvW (w : Wt) (kv : KV) : Prop where
  len : ∀ e ∈ kv, e.1.length = 2
  at_ : ∀ f t : Nat, f < t → t < w.counts.length → (kv.get [(f : Int), (t : Int)]).getD (.int .i64 0) = .int .i64 ((w.thr f t : Nat) : Int)
theorem Z7j {own : Nat → Bool} {f t T : Nat} (h : f ≤ t) : (List.range' f (t + 1 - f)).foldl (fun p i => Z4Z own T i p) (T, -2) = Z4Z own T t ((List.range' f (t - f)).foldl (fun p i => Z4Z own T i p) (T, -2)) := by
  rw [show t + 1 - f = (t - f) + 1 by omega, List.range'_1_concat, List.foldl_append, show f + (t - f) = t by omega]; rfl
theorem Z8p (own : Nat → Bool) {f T : Nat} (hT : T ≤ 8) : ∀ k, f + k ≤ T → (let p := (List.range' f k).foldl (fun p i => Z4Z own T i p) (T, (-2 : Int)); p.1 ≤ T ∧ -2 ≤ p.2 ∧ p.2 < (f + k : Nat) ∧ (p.2 = -2 → p.1 = T) ∧ (p.2 ≠ -2 → 0 ≤ p.2 ∧ (p.1 : Int) ≤ p.2 ∧ f ≤ p.1))
  | 0, _ => by simp; omega
  | k + 1, h => by
    have ih := Z8p own hT k (f := f) (by omega)
    dsimp only at ih ⊢
    rw [List.range'_1_concat, List.foldl_append]
    generalize (List.range' f k).foldl (fun p i => Z4Z own T i p) (T, (-2 : Int)) = p at ih ⊢
    simp only [List.foldl_cons, List.foldl_nil, Z4Z]
    cases own (f + k) with
    | false => simp only [cond_false]; omega
    | true =>
      simp only [cond_true]
      rcases Int.lt_or_le (-2) p.2 with h2 | h2
      · have := ih.2.2.2.2 (by omega); omega
      · have := ih.2.2.2.1 (by omega); omega
theorem Z94 (own : Nat → Bool) {f t : Nat} (ht : t ≤ 8) (h : f ≤ t) : (Z1u own f t).1 ≤ t ∧ -2 ≤ (Z1u own f t).2 ∧ (Z1u own f t).2 < (t : Int) ∧ ((Z1u own f t).2 ≠ -2 → 0 ≤ (Z1u own f t).2 ∧ ((Z1u own f t).1 : Int) ≤ (Z1u own f t).2 ∧ f ≤ (Z1u own f t).1) := by
  have := Z8p own ht (t - f) (f := f) (by omega)
  dsimp only at this
  rw [show f + (t - f) = t by omega] at this
  exact ⟨this.1, this.2.1, this.2.2.1, this.2.2.2.2⟩
def ZH (own : Nat → Bool) : List Bool := (List.range 8).map own
abbrev ZE (l : List Bool) : List Value := l.map Value.bool
theorem ZK (own : Nat → Bool) : (ZH own).length = 8 := by simp [ZH]
theorem Z4O (l : List Bool) : (ZE l).all (·.oneCell') = true := List.all_eq_true.2 fun v hv => by obtain ⟨x, _, rfl⟩ := List.mem_map.1 hv; rfl
theorem Z6k {l vs : List Value} (h : l.length = vs.length) : spl l 0 vs = vs := by unfold spl; rw [List.take_zero, List.nil_append, List.drop_eq_nil_of_le (by omega), List.append_nil]
theorem Z9v {own : Nat → Bool} {i n : Nat} (hi : i < 8) (hn : n = i) : spl (ZE ((ZH own).take i ++ List.replicate (8 - i) false)) n [.bool (own i)] = ZE ((ZH own).take (i + 1) ++ List.replicate (8 - (i + 1)) false) := by
  subst hn
  unfold spl
  have e1 : (ZE ((ZH own).take n ++ List.replicate (8 - n) false)).take n = ZE ((ZH own).take n) := by
    simp only [ZE, List.map_append]
    rw [List.take_append_of_le_length (by simp [ZK]; omega), List.take_of_length_le (by simp [ZK]; omega)]
  rw [e1, List.take_add_one, show (ZH own)[n]? = some (own n) by simp [ZH, hi]]
  simp only [ZE, List.map_append, List.append_assoc]
  congr 2
  have h8 : ((ZH own).take n).length = n := by rw [List.length_take, ZK]; omega
  rw [List.drop_append, List.drop_eq_nil_of_le (by simp only [List.length_map, h8, List.length_singleton]; omega)]
  simp only [List.nil_append, List.length_map, h8, List.length_singleton, List.map_replicate, List.drop_replicate]
  congr 1; omega
theorem Z9W {w : Wt} (hw : w.ok) {Sx : Nat} : ZE ((ZH (w.own Sx)).take (w.counts.length - 1) ++ List.replicate (8 - (w.counts.length - 1)) false) = ZE (ZH (w.own Sx)) := by
  congr 1
  apply List.ext_getElem?
  intro j
  have hn := hw.nc
  rw [List.getElem?_append, List.getElem?_replicate]
  simp only [List.length_take, ZK, ZH]
  by_cases h1 : j < w.counts.length - 1
  · rw [if_pos (by simp; omega), List.getElem?_take, if_pos h1]
  · rw [if_neg (by simp; omega)]
    by_cases h2 : j < 8
    · rw [if_pos (by simp; omega)]
      have : w.own Sx j = false := by unfold Wt.own; rw [decide_eq_false (by omega)]; rfl
      simp [h2, this]
    · rw [if_neg (by simp; omega), List.getElem?_eq_none (by simp; omega)]
theorem Z97 {w : Wt} (hw : w.ok) (f t : Nat) : w.thr f t < 2 ^ 6 := by
  unfold Wt.thr
  have : ∀ (l : List Spl) (m : Nat), (∀ x ∈ l, x ∈ w.spells) → m < 2 ^ 6 → l.foldl (Z6V w f t) m < 2 ^ 6 := fun l => by
    induction l with
    | nil => exact fun m _ h => h
    | cons x l ih =>
      intro m hx hm
      refine ih _ (fun y hy => hx y (List.mem_cons_of_mem _ hy)) ?_
      have h1 := (hw.spl x (hx x (by simp))).2.2.1
      have h2 := hw.hands
      unfold Z6V
      cases w.over f t x with
      | false => exact hm
      | true => exact Nat.or_lt_two_pow hm (Nat.pow_lt_pow_right (by decide) (by omega))
  exact this w.spells 0 (fun _ h => h) (by decide)
theorem Z1h {w : Wt} (h : Int) : w.pos h ≤ w.counts.length := List.findIdx_le_length
theorem Zcf (wt : Wt) (a1 a2 a3 : Option Addr) (k1 k2 k3 : Nat) (H : Z7) (R : Z5) :
    Fn Tryz.prog 110 [(wt.v a1 a2 a3 k1 k2 k3)] H R (fun v H' R' => ∃ qw, v = .func (.func 176) #[] #[.pointer (some ⟨qw, 0, none⟩)] ∧ H' = H ∧ R' = RowsA (some ⟨qw, 0, none⟩) 6 [(wtl wt a1 a2 a3 k1 k2 k3)] :: R) := by
 refine Z8 Tryz.func110 rfl Tryz.ntmps110 rfl ?_
 refine sqt 2 rfl (bx rfl rfl rfl (fun b1 => pur 1 rfl (sqt 2 rfl (sp rfl (PE.makeFunc rfl rfl) rfl (pur 1 rfl (Z4 ?_))))))
 exact rtA rfl rfl rfl ⟨b1, rfl, rfl, rfl⟩ (fun w h => St.rows (sz := 6) (rows := [(wtl wt a1 a2 a3 k1 k2 k3)]) (rest := []) (h.pull b1) (by simp [wtl]))
theorem Z7d (wt : Wt) (a1 a2 a3 : Option Addr) (k1 k2 k3 : Nat) (hw : wt.ok) (qw lk : Nat) (I : Nat → Z7 → Z5 → Prop) (E : Z7 → Z5 → Prop) (hI : ∀ k H R, I k H R → RowsA (some ⟨qw, 0, none⟩) 6 [(wtl wt a1 a2 a3 k1 k2 k3)] ∈ R)
    (hy : ∀ k f t H R, f < t → t < wt.counts.length → (Z0n wt.counts.length)[k]? = some (f, t) → I k H R → Yd Tryz.prog lk [.agg #[.int .i64 (f : Nat), .int .i64 (t : Nat)]] H R (fun v H' R' => (v = .bool true ∧ I (k + 1) H' R') ∨ (v = .bool false ∧ E H' R'))) (H : Z7) (R : Z5) (h0 : I 0 H R) :
    Fn Tryz.prog 176 [yv lk, .pointer (some ⟨qw, 0, none⟩)] H R (fun _ H' R' => I (Z0n wt.counts.length).length H' R' ∨ E H' R') := by
 have hnc := hw.nc
 have hFq := hI _ _ _ h0
 haveI : MemRows (some ⟨qw, 0, none⟩) 6 [(wtl wt a1 a2 a3 k1 k2 k3)] R := ⟨hFq⟩
 refine Z8 Tryz.func176 rfl Tryz.ntmps176 rfl ?_
 refine sqt 4 rfl (sp rfl (PE.fA Zv rfl) rfl (spL rfl rfl (lfB (sz := 6) ZV rfl) rfl (sp rfl (PE.lenSl Z0m rfl) rfl (pur 1 rfl (Z2 ?_)))))
 refine Zb (ι := {x : Nat × Z7 × Z5 // x.1 ≤ wt.counts.length ∧ I (pS wt.counts.length x.1 (x.1 + 1)) x.2.1 x.2.2}) (fun x => ⟨[(0, yv lk), (1, .pointer (some ⟨qw, 0, none⟩)), (7, .int .i64 wt.counts.length), (8, .int .i64 x.1.1)], x.1.2.1, x.1.2.2⟩) (fun x => wt.counts.length - x.1.1) ⟨(0, H, R), Nat.zero_le _, by simpa [pS] using h0⟩ ?_ (fun x => ?_)
 exact Zf idH
 obtain ⟨⟨f, H0, R0⟩, hf, hI0⟩ := x
 dsimp only at hf hI0 ⊢
 refine sqt 1 rfl (pur 1 rfl (Z0 ?_))
 refine Z1 rfl ?_ ?_ <;> intro hc0 <;> try simp only [cS] at hc0
 refine Z3 (Z0 (Z2 (sqt 2 rfl (pur 2 rfl (sqt 3 rfl (pur 1 rfl (sp rfl (PE.add rfl rfl (by omega)) rfl (pur 1 rfl (Z2 ?_)))))))))
 refine Zb (ι := {x : Nat × Z7 × Z5 // f + 1 ≤ x.1 ∧ x.1 ≤ wt.counts.length ∧ I (pS wt.counts.length f x.1) x.2.1 x.2.2}) (fun x => ⟨[(0, yv lk), (1, .pointer (some ⟨qw, 0, none⟩)), (7, .int .i64 wt.counts.length), (8, .int .i64 f), (3, .int .i64 f), (4, .int .i64 x.1.1)], x.1.2.1, x.1.2.2⟩) (fun x => wt.counts.length - x.1.1) ⟨(f + 1, H0, R0), Nat.le_refl _, by dsimp only; omega, hI0⟩ ?_ (fun x => ?_)
 exact Zf idH
 obtain ⟨⟨t, H1, R1⟩, hft, ht, hI1⟩ := x
 dsimp only at hft ht hI1 ⊢
 have hFq := hI _ _ _ hI1
 haveI : MemRows (some ⟨qw, 0, none⟩) 6 [(wtl wt a1 a2 a3 k1 k2 k3)] R1 := ⟨hFq⟩
 refine Z0 (sqt 5 rfl (pur 1 rfl (sp rfl (PE.fA Zv rfl) rfl (spL rfl rfl (lfB (sz := 6) ZV rfl) rfl (sp rfl (PE.lenSl Z0m rfl) rfl (pur 1 rfl ?_))))))
 refine Z1 rfl ?_ ?_ <;> intro hc1 <;> try simp only [cS] at hc1
 refine Z3 (Z0 (Z2 (sqt 6 rfl (pur 3 rfl (sp rfl (PE.build (out := [_, _]) Z9z Z1f rfl rfl) rfl ?_)))))
 refine clY rfl rfl rfl rfl (hy _ f t _ _ (by omega) (by omega) (Ze1 hft (by omega)) hI1) ?_
 rintro v H3 R3 (⟨rfl, hI3⟩ | ⟨rfl, hE3⟩)
 refine pur 1 rfl ?_
 refine ZC rfl ?_
 refine Z3 (sqr 3 rfl (pur 1 rfl (sp rfl (PE.add rfl rfl (by omega)) rfl (pur 1 rfl ?_))))
 first
   | cases hc2
   | exact Zr ⟨(t + 1, H3, R3), by dsimp only; omega, by dsimp only; omega, by dsimp only; rw [Zc3 hft]; exact hI3⟩ (by dsimp only; omega) idH
 refine pur 1 rfl ?_
 refine ZD rfl ?_
 refine Z4 ?_
 first | cases hc2 | exact Zu (vs := []) rfl .nil rfl (.inr hE3) idH
 obtain rfl : t = wt.counts.length := by omega
 rw [Zbu] at hI1
 refine Z9 (Za (Za (Zl (sqr 2 rfl (sp rfl (PE.add rfl rfl (by omega)) rfl (pur 1 rfl ?_))))))
 exact Z6 ⟨(f + 1, H1, R1), by dsimp only; omega, hI1⟩ idH
 obtain rfl : f = wt.counts.length := by omega
 rw [Zfd] at hI0
 refine Z9 (Za (Za (Zl ?_)))
 exact Z0l (vs := []) rfl .nil rfl (.inl hI0) idH
theorem Z8L (wt : Wt) (a1 a2 a3 : Option Addr) (k1 k2 k3 : Nat) (hw : wt.ok) (bd m : Nat) (f t : Nat) (hft : f ≤ t) (ht : t < wt.counts.length) (H : Z7) (R : Z5) [hD : MemRows (some ⟨bd, 0, none⟩) 15 [(wtl wt a1 a2 a3 k1 k2 k3 ++ (Zh (wt.sums) ++ [.map (some m)]))] R] :
    FnV Tryz.prog 175 [.pointer (some ⟨bd, 0, none⟩), .agg #[.int .i64 (f : Nat), .int .i64 (t : Nat)]] H R (.int .i64 (wt.bk f t)) := by
 have hnc := hw.nc
 have hs := Z12 hw
 refine Z8 Tryz.func175 rfl Tryz.ntmps175 rfl ?_
 refine sqt 2 rfl (bx rfl rfl rfl (fun b3 => pur 1 rfl (sqt 1 rfl (pur 1 rfl (Z0 (sqt 3 rfl (sp rfl (PE.fA Z0S rfl) rfl (spL rfl rfl (lh sc3 rfl rfl) rfl (pur 1 rfl (Z2 ?_))))))))))
 refine Zb (ι := {i : Nat // f ≤ i ∧ i ≤ t}) (fun i => ⟨[(0, .pointer (some ⟨bd, 0, none⟩)), (3, .pointer (some ⟨b3, 0, none⟩)), (5, .int .i64 (Z9f wt.sums f i.1)), (6, .int .i64 i.1)], (b3, cel 195 [.int .i64 (f : Nat), .int .i64 (t : Nat)]) :: H, R⟩) (fun i => t - i.1) ⟨f, Nat.le_refl _, hft⟩ ?_ (fun i => ?_)
 exact ZcE (by dsimp only; rw [Z2O]; exact (by repeat' first | exact Sub.nil | apply Sub.cons | rfl | (simp [lk]; omega))) idH
 obtain ⟨i, hi1, hi2⟩ := i
 dsimp only at hi1 hi2 ⊢
 have hib := Z9Q hw (f := f) (t := i) hi1 (by omega)
 unfold Wt.bk at hib
 refine Z0 (sqt 4 rfl (pur 1 rfl (sp rfl (PE.fA Z0M rfl) rfl (spL rfl rfl (lh sc3 rfl rfl) rfl (pur 1 rfl ?_)))))
 refine Z1 rfl ?_ ?_ <;> intro hc0 <;> try simp only [cS] at hc0
 have hit : i < wt.sums.length := by rw [hs.len]; omega
 have hsi := hs.bd i
 refine Z3 (Z0 (Z2 (sqr 9 rfl (pur 3 rfl (sp rfl (PE.nilCheck rfl) rfl (sp rfl (PE.fA Z2F rfl) rfl (sp rfl (PE.indexArr Z90 rfl rfl (by omega) (by omega)) rfl (spL rfl rfl (lfB (sz := 15) sc3 (Zcn (by show _ = 6 + i; omega) hit)) rfl (sp rfl (PE.add rfl rfl (by omega)) rfl (pur 1 rfl (sqr 3 rfl (pur 1 rfl (sp rfl (PE.add rfl rfl (by omega)) rfl (pur 1 rfl ?_))))))))))))))
 exact Z0s ⟨i + 1, by omega, by omega⟩ (by dsimp only; omega) (by dsimp only; rw [Z39 hi1]; exact (by repeat' first | exact Sub.nil | apply Sub.cons | rfl | (simp [lk]; omega))) idH
 obtain rfl : i = t := by omega
 refine Z9 (Za (Za (Zl (sqt 2 rfl (pur 2 rfl (Z4 ?_))))))
 exact rtA rfl rfl rfl ⟨rfl, rfl, rfl⟩ drp
theorem Z9u (wt : Wt) (a1 a2 a3 : Option Addr) (k1 k2 k3 : Nat) (hw : wt.ok) (bd m : Nat) (f t : Nat) (hft : f < t) (ht : t < wt.counts.length) (H : Z7) (R : Z5) [hD : MemRows (some ⟨bd, 0, none⟩) 15 [(wtl wt a1 a2 a3 k1 k2 k3 ++ (Zh (wt.sums) ++ [.map (some m)]))] R] [hR1 : MemRows a1 3 (crows wt.counts) R] :
    FnV Tryz.prog 112 [.pointer (some ⟨bd, 0, none⟩), .agg #[.int .i64 (f : Nat), .int .i64 (t : Nat)]] H R (.int .i64 (wt.gap f t)) := by
 have hnc := hw.nc
 refine Z8 Tryz.func112 rfl Tryz.ntmps112 rfl ?_
 refine sqt 2 rfl (bx rfl rfl rfl (fun b3 => pur 1 rfl (Z0 ?_)))
 refine Z8e (ι := Nat × Nat) (fun x => ⟨[(0, .pointer (some ⟨bd, 0, none⟩)), (3, .pointer (some ⟨b3, 0, none⟩)), (5, .pointer (some ⟨x.1, 0, none⟩)), (6, .pointer (some ⟨x.2, 0, none⟩))], (x.2, cel 89 (crow (wt.cn t))) :: (x.1, cel 89 (crow (wt.cn f))) :: (b3, cel 195 [.int .i64 (f : Nat), .int .i64 (t : Nat)]) :: H, R⟩) ?_ ?_
 refine Zc [0, 1, 3, 7, 15, 0, 32, 127, 255, 0, 512, 1536, 3584, 7680, 0, 16384, 65024, 130560, 0, 0, 786943, 2097151] (tks 0 4 (.ld 4 (.tk 5 (.ld 6 (.tk 7 (.ld 8 (tks 9 4 (.ld 13 (.tk 14 (.ld 15 (.tk 16 (.ld 17 (.any (.alt 18 (.big 19 (.big 20 (.big 21 .done))) (.alt 19 (.big 18 (.big 20 (.big 21 .done))) .stop))))))))))))))) Zo (by kernel_rfl) ?_
 have hcf : wt.counts[f]? = some (wt.cn f) := Z0c (by omega)
 have hct : wt.counts[t]? = some (wt.cn t) := Z0c (by omega)
 refine Zg (a := a1) (sz := 3) (rows := crows wt.counts) (by intro h0; simp [crows] at h0; simp [h0] at hcf) (fun bf of he => ?_)
 subst he
 refine Zd 1 rfl (tk rfl (PE.nilCheck rfl) rfl (tk rfl (PE.fA Z09 rfl) rfl (tk rfl (PE.fA Zv rfl) rfl (ld rfl rfl (lfB (sz := 15) ZV rfl) rfl (tk rfl (PE.fA Z0S rfl) rfl (ld rfl rfl (lh sc3 rfl rfl) rfl (tk rfl (PE.indexAddr Z5Y rfl rfl (by omega) (by omega)) rfl (ld rfl rfl (lfA Z3b (row := crow (wt.cn f)) (ZP hcf) rfl) rfl (Zd 1 rfl (tk rfl (PE.nilCheck rfl) rfl (tk rfl (PE.fA Z09 rfl) rfl (tk rfl (PE.fA Zv rfl) rfl (ld rfl rfl (lfB (sz := 15) ZV rfl) rfl (tk rfl (PE.fA Z0M rfl) rfl (ld rfl rfl (lh sc3 rfl rfl) rfl ?_)))))))))))))))
 refine tk rfl (PE.indexAddr Z5Y rfl rfl (by omega) (by omega)) rfl (ld rfl rfl (lfA Z3b (row := crow (wt.cn t)) (ZP hct) rfl) rfl ?_)
 refine Zx ?_ ?_
 refine alc rfl Z2p rfl (fun b5 => ?_)
 refine bg (fun w hs => ⟨(lfA Z3b (row := crow (wt.cn t)) (ZP hct) rfl) w hs, (lh sc3 rfl rfl) w hs, (lfB (sz := 15) ZV rfl) w hs, (lfA Z3b (row := crow (wt.cn f)) (ZP hcf) rfl) w hs, (lh sc3 rfl rfl) w hs, (lfB (sz := 15) ZV rfl) w hs, trivial⟩) ?_
 refine alc rfl Z2p rfl (fun b6 => ?_)
 refine bg (fun w hs => ⟨(lfA Z3b (row := crow (wt.cn t)) (ZP hct) rfl) w hs, (lh sc3 rfl rfl) w hs, (lfB (sz := 15) ZV rfl) w hs, (lfA Z3b (row := crow (wt.cn f)) (ZP hcf) rfl) w hs, (lh sc3 rfl rfl) w hs, (lfB (sz := 15) ZV rfl) w hs, trivial⟩) ?_
 refine sto rfl rfl rfl Zd3 rfl rfl rfl rfl ?_
 refine bg (fun w hs => ⟨(lfA Z3b (row := crow (wt.cn t)) (ZP hct) rfl) w hs, (lh sc3 rfl rfl) w hs, (lfB (sz := 15) ZV rfl) w hs, trivial, trivial, trivial, trivial⟩) ?_
 refine sto rfl rfl rfl Zd3 rfl rfl rfl rfl ?_
 refine bgT ?_
 exact Zq (b5, b6) (fun w h => (h.pull b5).pull b6)
 refine Zx ?_ ?_
 refine alc rfl Z2p rfl (fun b6 => ?_)
 refine bg (fun w hs => ⟨(lfA Z3b (row := crow (wt.cn t)) (ZP hct) rfl) w hs, (lh sc3 rfl rfl) w hs, (lfB (sz := 15) ZV rfl) w hs, (lfA Z3b (row := crow (wt.cn f)) (ZP hcf) rfl) w hs, (lh sc3 rfl rfl) w hs, (lfB (sz := 15) ZV rfl) w hs, trivial⟩) ?_
 refine alc rfl Z2p rfl (fun b5 => ?_)
 refine bg (fun w hs => ⟨(lfA Z3b (row := crow (wt.cn t)) (ZP hct) rfl) w hs, (lh sc3 rfl rfl) w hs, (lfB (sz := 15) ZV rfl) w hs, (lfA Z3b (row := crow (wt.cn f)) (ZP hcf) rfl) w hs, (lh sc3 rfl rfl) w hs, (lfB (sz := 15) ZV rfl) w hs, trivial⟩) ?_
 refine sto rfl rfl rfl Zd3 rfl rfl rfl rfl ?_
 refine bg (fun w hs => ⟨(lfA Z3b (row := crow (wt.cn t)) (ZP hct) rfl) w hs, (lh sc3 rfl rfl) w hs, (lfB (sz := 15) ZV rfl) w hs, trivial, trivial, trivial, trivial⟩) ?_
 refine sto rfl rfl rfl Zd3 rfl rfl rfl rfl ?_
 refine bgT ?_
 exact Zq (b5, b6) (fun w h => (h.pull b5).pull b6)
 exact ZO
 rintro ⟨b5, b6⟩
 dsimp only
 have hbd := Z9Q hw (f := f) (t := t) (by omega) (by omega)
 have h2 := Z6B hw (i := f) (by omega)
 have h3 := Z6B hw ht
 have h4 := Z4e hw hft ht
 have h5 := hw.allow
 have h6 := mul_b (a := wt.allow) (b := (wt.cn t).hour - (wt.cn f).hour) (A := 20) (B := 60) (by omega) (by omega) (by omega) (by omega)
 refine Z0 ?_
 refine Zc [0, 1, 3, 0, 0, 24, 63, 0, 128, 384, 896, 1920, 0, 4096, 0, 16384, 61440, 130944, 262143, 0, 524288, 1572864, 4194303, 8388607] (.tk 0 (.tk 1 (.ld 2 (.tk 3 (.ld 4 (tks 7 4 (.ld 11 (.tk 12 (.ld 13 (.tk 14 (.ld 15 (.tk 16 (.tk 17 (.tk 19 (.tk 20 (.ld 21 (.big 5 (.tk 6 (.tk 18 (.tk 22 (.tk 23 .done))))))))))))))))))))) Zo (by kernel_rfl) ?_
 refine tk rfl (PE.fA Z2b rfl) rfl (tk rfl (PE.fA Z3u rfl) rfl (ld rfl rfl (lh sc3 rfl rfl) rfl (Zd 1 rfl (ld rfl rfl (lhA [_, _] Z02 rfl rfl rfl) rfl (Zd 1 rfl (tk rfl (PE.nilCheck rfl) rfl (tk rfl (PE.fA Z09 rfl) rfl (tk rfl (PE.fA Z32 rfl) rfl (ld rfl rfl (lfB (sz := 15) sc3 rfl) rfl (tk rfl (PE.fA Z0h rfl) rfl (ld rfl rfl (lh sc3 rfl rfl) rfl (tk rfl (PE.fA Z0h rfl) rfl (ld rfl rfl (lh sc3 rfl rfl) rfl (tk rfl (PE.sub rfl rfl (by omega)) rfl (tk rfl (PE.mul rfl rfl (by omega)) rfl ?_)))))))))))))))
 refine tk rfl (PE.fA Z2b rfl) rfl (tk rfl (PE.fA Z3m rfl) rfl (ld rfl rfl (lh sc3 rfl rfl) rfl ?_))
 refine clV rfl ZaY rfl rfl (Z8L wt a1 a2 a3 k1 k2 k3 hw bd m f t (by omega) ht _ _) ?_
 refine bg (fun w hs => ⟨(lh sc3 rfl rfl) w hs, (lh sc3 rfl rfl) w hs, (lh sc3 rfl rfl) w hs, (lfB (sz := 15) sc3 rfl) w hs, trivial, (lh sc3 rfl rfl) w hs, trivial⟩) ?_
 refine tk rfl (PE.add rfl rfl (by omega)) rfl (tk rfl (PE.sub rfl rfl (by omega)) rfl (tk rfl (PE.sub rfl rfl (by omega)) rfl (Zd 1 rfl (Z4 ?_))))
 exact rtA rfl rfl rfl ⟨rfl, rfl, rfl⟩ drp
theorem Zbq (wt : Wt) (a1 a2 a3 : Option Addr) (k1 k2 k3 : Nat) (hw : wt.ok) (bd m : Nat) (kv : KV) (hkv : KvW wt kv) (Sx : Nat) (hSx : Sx < 2 ^ 6) (H : Z7) (R : Z5) [hD : MemRows (some ⟨bd, 0, none⟩) 15 [(wtl wt a1 a2 a3 k1 k2 k3 ++ (Zh (wt.sums) ++ [.map (some m)]))] R] [hK : MemF (MpF m kv) R] :
    FnV Tryz.prog 109 [.pointer (some ⟨bd, 0, none⟩), .int .i64 (Sx : Nat)] H R (.agg (ZE (ZH (wt.own Sx))).toArray) := by
 have hnc := hw.nc
 have hs := Z12 hw
 refine Z8 Tryz.func109 rfl Tryz.ntmps109 rfl ?_
 refine sqt 1 rfl (alc rfl Z9S rfl (fun b4 => sqt 1 rfl (alc rfl Z9S rfl (fun b5 => Z0 (sqt 8 rfl (pur 1 rfl (sp rfl (PE.nilCheck rfl) rfl (sp rfl (PE.fA Z09 rfl) rfl (sp rfl (PE.fA Zv rfl) rfl (spL rfl rfl (lfB (sz := 15) ZV rfl) rfl (sp rfl (PE.lenSl Z0m rfl) rfl (sp rfl (PE.sub rfl rfl (by omega)) rfl (pur 1 rfl (Z2 ?_))))))))))))))
 refine Zb (ι := {i : Nat // i + 1 ≤ wt.counts.length}) (fun i => ⟨[(0, .pointer (some ⟨bd, 0, none⟩)), (1, .int .i64 (Sx : Nat)), (4, .pointer (some ⟨b4, 0, none⟩)), (5, .pointer (some ⟨b5, 0, none⟩)), (13, .int .i64 ((wt.counts.length : Int) - 1)), (14, .int .i64 i.1)], (b5, cel 199 (ZE ((ZH (wt.own Sx)).take i.1 ++ List.replicate (8 - i.1) false))) :: (b4, cel 199 (ZE (List.replicate 8 false))) :: H, R⟩) (fun i => wt.counts.length - i.1) ⟨0, by omega⟩ ?_ (fun i => ?_)
 exact Zf idH
 obtain ⟨i, hi⟩ := i
 dsimp only at hi ⊢
 refine sqt 1 rfl (pur 1 rfl (Z0 ?_))
 refine Z1 rfl ?_ ?_ <;> intro hc0 <;> try simp only [cS] at hc0
 have hkw := hkv.at_ i (i + 1) (by omega) (by omega)
 have htl := Z97 hw i (i + 1)
 have hown : wt.own Sx i = decide (((wt.thr i (i + 1) &&& Sx : Nat) : Int) ≠ 0) := by unfold Wt.own; rw [dT (show i + 1 < wt.counts.length by omega), Bool.true_and]; exact decide_eq_decide.2 (by omega)
 refine Z3 (Z0 (Z2 (sqt 2 rfl (pur 2 rfl (sqr 15 rfl (pur 2 rfl (sp rfl (PE.nilCheck rfl) rfl (sp rfl (PE.fA Z2H rfl) rfl (spL rfl rfl (lfB (sz := 15) Z78 (Z4q (by rw [hs.len]; rfl))) rfl (pur 2 rfl (sp rfl (PE.add rfl rfl (by omega)) rfl (sp rfl (PE.build (out := [_, _]) Z9z Z1f rfl rfl) rfl ?_))))))))))))
 refine spK rfl rfl rfl (Z2s (b := true) kv [((i : Nat) : Int), ((i + 1 : Nat) : Int)] Z1Q (KeyT.of Z13 Z1T) (Z0Q zv3) rfl hkv.len (fun w hs => hs.now hK.mem) hkw) rfl ?_
 refine pur 1 rfl (sp rfl (PE.andN (m := wt.thr i (i + 1)) (n := Sx) rfl rfl rfl (by omega) (by omega)) rfl (pur 1 rfl ?_))
 rw [← hown]
 refine sp rfl (PE.indexArr Z7D rfl rfl (by omega) (by omega)) rfl ?_
 refine Z01 (l' := ZE ((ZH (wt.own Sx)).take (i + 1) ++ List.replicate (8 - (i + 1)) false)) rfl rfl rfl cn4 rfl rfl rfl (Z9v (by omega) (by omega)) (by simp only [ZE, List.length_map, List.length_append, List.length_take, List.length_replicate, ZK]; show 0 + ((i : Nat) : Int).toNat * 1 + 1 ≤ _; omega) ?_
 refine sqr 2 rfl (sp rfl (PE.add rfl rfl (by omega)) rfl (pur 1 rfl ?_))
 exact Z6 ⟨i + 1, by omega⟩ idH
 obtain rfl : i = wt.counts.length - 1 := by omega
 refine Z9 (Za (Za (Zl (sqt 2 rfl ?_))))
 rw [Z9W hw]
 refine spL rfl rfl (lhA (ZE (ZH (wt.own Sx))) Z9J rfl (rest := []) (by rw [List.append_nil]; rfl) (by simp [ZE, ZK])) rfl ?_
 refine Z01 (l' := ZE (ZH (wt.own Sx))) rfl rfl rfl ZdD rfl (by show (ZE (ZH (wt.own Sx))).length = 8; simp [ZE, ZK]) (by show (ZE (ZH (wt.own Sx))).all (·.oneCell') = true; exact Z4O _) (Z6k (by show 8 = (ZE (ZH (wt.own Sx))).length; simp [ZE, ZK])) (by show 0 + (ZE (ZH (wt.own Sx))).length ≤ _; simp [ZE, ZK]) ?_
 refine Z4 ?_
 exact Zu (vs := [_]) rfl (.cons (RV.cell rfl (lhA (ZE (ZH (wt.own Sx))) Z9J rfl (rest := []) (by rw [List.append_nil]; rfl) (by simp [ZE, ZK]))) .nil) rfl ⟨rfl, rfl, rfl⟩ (fun w h => (h.del b5).del b4)
theorem Z6Z : cal Tryz.prog 110 = true := by kernel_rfl
theorem Z7y : cal Tryz.prog 176 = true := by kernel_rfl
theorem Zes : cal Tryz.prog 203 = true := by kernel_rfl
theorem Zet : cal Tryz.prog 62 = true := by kernel_rfl
theorem Zg4 : ZN Tryz.prog 128 = some 3 := by kernel_rfl
theorem Z7k : ZN Tryz.prog 131 = some 2 := by kernel_rfl
theorem Zg9 : ZN Tryz.prog 134 = some 1 := by kernel_rfl
theorem Z2R : ZN Tryz.prog 195 = some 2 := by kernel_rfl
theorem cn3 : ZN Tryz.prog 3 = some 1 := by kernel_rfl
theorem Z6X : Z6S Tryz.prog 167 = some .u64 := by kernel_rfl
theorem ik3 : Z6S Tryz.prog 3 = some .i64 := by kernel_rfl
theorem ZgJ : ZJ Tryz.prog 206 = some [(0, 6), (6, 8), (14, 1)] := by kernel_rfl
theorem Z0V : Z07 Tryz.prog 134 = true := by kernel_rfl
theorem sc4 : Z07 Tryz.prog 4 = true := by kernel_rfl
theorem Zh4 : (Tryz.prog.underlying 167).isSome = true := by kernel_rfl
theorem us3 : (Tryz.prog.underlying 3).isSome = true := by kernel_rfl
theorem Z6x : Zy Tryz.prog 128 = some ([.int .i64 0, .int .i64 0, .int .i64 0]) := by kernel_rfl
theorem Z50 : Zy Tryz.prog 131 = some ([.int .i64 0, .int .i64 0]) := by kernel_rfl
theorem Zgv : Zy Tryz.prog 134 = some ([.pointer none]) := by kernel_rfl
theorem ZgM : Zy Tryz.prog 206 = some ([.int .i64 0, .int .i64 0, .int .i64 0, .slice none 0 0, .slice none 0 0, .slice none 0 0, .int .i64 0, .int .i64 0, .int .i64 0, .int .i64 0, .int .i64 0, .int .i64 0, .int .i64 0, .int .i64 0, .map none]) := by kernel_rfl
theorem Z61 {own : Nat → Bool} {i n : Nat} (hn : n = i) (h : i < 8) : (ZE (ZH own))[n]? = some (.bool (own i)) := by subst hn; simp [ZE, ZH, h]
theorem Zb1 {own : Nat → Bool} {T i : Nat} {p : Nat × Int} (h : own i = true) : Z4Z own T i p = (min p.1 i, (i : Int)) := by unfold Z4Z; rw [h]; rfl
theorem ZaX {own : Nat → Bool} {T i : Nat} {p : Nat × Int} (h : own i = false) : Z4Z own T i p = p := by unfold Z4Z; rw [h]; rfl
theorem Zgq (a b : Nat) : ((min a b : Nat) : Int) = min (a : Int) (b : Int) := by omega
theorem Zb0 {w : Wt} {h : Int} {i : Nat} (hi : i ≤ w.counts.length) (h1 : ∀ k, k < i → (w.cn k).hour < h) (h2 : ∀ k, i ≤ k → k < w.counts.length → h ≤ (w.cn k).hour) : w.pos h = i := by
  unfold Wt.pos
  rcases Nat.lt_or_ge i w.counts.length with h3 | h3
  · rw [List.findIdx_eq h3]
    refine ⟨?_, fun j hj => ?_⟩
    · have := h2 i (Nat.le_refl _) h3
      rw [Z3c (List.getElem?_eq_getElem h3)] at this
      exact decide_eq_true this
    · have := h1 j hj
      rw [Z3c (List.getElem?_eq_getElem (by omega))] at this
      exact decide_eq_false (by omega)
  · obtain rfl : i = w.counts.length := by omega
    rw [List.findIdx_eq_length]
    intro x hx
    obtain ⟨j, hj, rfl⟩ := List.mem_iff_getElem.1 hx
    have := h1 j hj
    rw [Z3c (List.getElem?_eq_getElem hj)] at this
    exact decide_eq_false (by omega)
theorem Z6C (n : Nat) : (Z0n n).Nodup := by
  unfold Z0n
  have h1 : ∀ (ys : List Nat), ys.Nodup → (ys.flatMap (Z9h n)).Nodup := fun ys => by
    induction ys with
    | nil => simp
    | cons y ys ih =>
      intro h
      rw [List.nodup_cons] at h
      rw [List.flatMap_cons]
      refine List.nodup_append.2 ⟨?_, ih h.2, ?_⟩
      · unfold Z9h
        exact List.Pairwise.map _ (fun a b h e => h (by injection e)) (List.nodup_range' (s := y + 1) (n := n - (y + 1)))
      · intro a ha b hb e
        subst e
        obtain ⟨z, hz, h2⟩ := List.mem_flatMap.1 hb
        unfold Z9h at ha h2
        obtain ⟨t1, _, rfl⟩ := List.mem_map.1 ha
        obtain ⟨t2, _, h3⟩ := List.mem_map.1 h2
        injection h3 with h3 _
        exact h.1 (h3 ▸ hz)
  exact h1 _ List.nodup_range
theorem Z4J {n k : Nat} {s : Nat × Nat} (h : (Z0n n)[k]? = some s) : ((Z0n n).take k).contains s = false := by
  have hl := (List.getElem?_eq_some_iff.1 h).1
  rw [Bool.eq_false_iff]
  intro hc
  have hm : s ∈ (Z0n n).take k := by simpa using hc
  obtain ⟨j, hj, e⟩ := List.mem_iff_getElem.1 hm
  rw [List.length_take] at hj
  rw [List.getElem_take] at e
  have := (List.getElem_inj (h₀ := (by omega : j < (Z0n n).length)) (h₁ := hl) (Z6C n)).1 (by rw [e]; exact (List.getElem?_eq_some_iff.1 h).2.symm)
  omega
structure KvP (w : Wt) (k : Nat) (s : Nat × Nat) (m : Nat) (kv : KV) : Prop where
  len : ∀ e ∈ kv, e.1.length = 2
  at_ : ∀ f t : Nat, (kv.get [(f : Int), (t : Int)]).getD (.int .i64 0) = .int .i64 (((bif decide ((f, t) = s) then m else bif ((Z0n w.counts.length).take k).contains (f, t) then w.thr f t else 0 : Nat)) : Int)
theorem KvP.nil (w : Wt) (s : Nat × Nat) : KvP w 0 s 0 [] := ⟨by simp, fun f t => by
  have e : (bif decide ((f, t) = s) then 0 else bif ((Z0n w.counts.length).take 0).contains (f, t) then w.thr f t else 0) = 0 := by cases decide ((f, t) = s) <;> simp
  rw [e]; rfl⟩
theorem KvP.start {w : Wt} {k : Nat} {s s' : Nat × Nat} {m : Nat} {kv : KV} (h : KvP w k s m kv) (hm : m = bif ((Z0n w.counts.length).take k).contains s then w.thr s.1 s.2 else 0) (hs' : (Z0n w.counts.length)[k]? = some s') : KvP w k s' 0 kv := ⟨h.len, fun f t => by
  rw [h.at_ f t]
  congr 2
  by_cases h1 : (f, t) = s
  · subst h1
    simp only [decide_true, cond_true]
    rw [hm]
    by_cases h2 : (f, t) = s'
    · subst h2
      rw [Z4J hs']; simp
    · simp only [h2, decide_false, cond_false]
  · simp only [h1, decide_false, cond_false]
    by_cases h2 : (f, t) = s'
    · simp only [h2, decide_true, cond_true]
      rw [Z4J hs']; simp
    · simp only [h2, decide_false, cond_false]⟩
theorem KvP.done {w : Wt} {k f t : Nat} {kv : KV} (h : KvP w k (f, t) (w.thr f t) kv) (hs : (Z0n w.counts.length)[k]? = some (f, t)) : KvP w (k + 1) (f, t) (w.thr f t) kv := ⟨h.len, fun f' t' => by
  rw [h.at_ f' t']
  congr 2
  by_cases h1 : (f', t') = (f, t)
  · simp [h1]
  · simp only [h1, decide_false, cond_false]
    rw [List.take_add_one, hs]
    congr 1
    rw [Bool.eq_iff_iff]
    simp only [Option.toList_some, List.contains_iff_mem, List.mem_append, List.mem_singleton, h1, or_false]⟩
theorem KvP.put {w : Wt} {k f t m m' : Nat} {kv : KV} (h : KvP w k (f, t) m kv) : KvP w k (f, t) m' (kv.put [(f : Int), (t : Int)] (.int .i64 (m' : Int))) := ⟨fun e he => by
  rcases KV.put_mem he with rfl | he
  · rfl
  · exact h.len e he, fun f' t' => by
  rw [KV.get_put]
  by_cases h1 : (f', t') = (f, t)
  · injection h1 with e1 e2
    subst e1; subst e2; simp
  · have h2 : decide ([(f : Int), (t : Int)] = [(f' : Int), (t' : Int)]) = false := decide_eq_false fun e => by
      simp only [List.cons.injEq, and_true] at e
      exact h1 (by rw [show f = f' by omega, show t = t' by omega])
    rw [h2]
    simp only [cond_false]
    rw [h.at_ f' t']
    simp only [h1, decide_false, cond_false]⟩
theorem KvP.all {w : Wt} {s : Nat × Nat} {m : Nat} {kv : KV} (h : KvP w (Z0n w.counts.length).length s m kv) (hm : s ∈ Z0n w.counts.length → m = w.thr s.1 s.2) : KvW w kv := ⟨h.len, fun f t h1 h2 => by
  rw [h.at_ f t, List.take_length]
  have hc : (Z0n w.counts.length).contains (f, t) = true := by simpa using str_mem.2 ⟨h1, h2⟩
  congr 2
  by_cases e : (f, t) = s
  · subst e
    simp only [decide_true, cond_true]
    exact hm (by simpa using hc)
  · simp only [e, decide_false, cond_false, hc, cond_true]⟩
def Z2y (w : Wt) (f t j : Nat) : Nat := (w.spells.take j).foldl (Z6V w f t) 0
theorem Z4F {w : Wt} {f t j : Nat} {x : Spl} (h : w.spells[j]? = some x) : Z2y w f t (j + 1) = Z6V w f t (Z2y w f t j) x := by
  unfold Z2y; rw [List.take_add_one, h, List.foldl_append]; rfl
theorem Z9O (w : Wt) (f t : Nat) : Z2y w f t w.spells.length = w.thr f t := by unfold Z2y; rw [List.take_length]; rfl
theorem Z96 {w : Wt} (hw : w.ok) (f t : Nat) : ∀ j, Z2y w f t j < 2 ^ 6
  | 0 => by simp [Z2y]
  | j + 1 => by
    have ih := Z96 hw f t j
    cases hx : w.spells[j]? with
    | none => unfold Z2y at ih ⊢; rw [List.take_add_one, hx]; simpa using ih
    | some x =>
      rw [Z4F hx]
      have h1 := (hw.spl x (List.mem_of_getElem? hx)).2.2.1
      have h2 := hw.hands
      unfold Z6V
      cases w.over f t x with
      | false => exact ih
      | true => exact Nat.or_lt_two_pow ih (Nat.pow_lt_pow_right (by decide) (by omega))
def Z1V (w : Wt) (k : Nat) : List Int := (w.books.take k).foldl w.bk1 (List.replicate 8 0)
theorem Z8d {w : Wt} {k : Nat} {b : Bkg} (h : w.books[k]? = some b) : Z1V w (k + 1) = w.bk1 (Z1V w k) b := by unfold Z1V; rw [List.take_add_one, h, List.foldl_append]; rfl
theorem Z9n (w : Wt) : Z1V w w.books.length = w.sums := by unfold Z1V; rw [List.take_length]; rfl
theorem Zcq {w : Wt} (hw : w.ok) (k : Nat) : SumOk (Z1V w k) 2000 := by
  have h := Z3N hw k
  have hn := hw.nb
  have h2 : (w.books.take k).length ≤ 10 := by rw [List.length_take]; omega
  exact ⟨h.len, fun i => by have := h.bd i; show _ ≤ na0 ((w.books.take k).foldl w.bk1 _) i ∧ na0 ((w.books.take k).foldl w.bk1 _) i ≤ _; omega⟩
theorem Zdv (v : Value) (own : Nat → Bool) (f t : Nat) (hft : f ≤ t) (ht : t ≤ 8) (H : Z7) (R : Z5) :
    FnV Tryz.prog 111 [v, .agg #[.int .i64 (f : Nat), .int .i64 (t : Nat)], .agg (ZE (ZH own)).toArray] H R (.tuple #[.int .i64 ((Z1u own f t).1 : Nat), .int .i64 (Z1u own f t).2]) := by
 refine Z8 Tryz.func111 rfl Tryz.ntmps111 rfl ?_
 refine sqt 4 rfl (bx rfl rfl rfl (fun b4 => bx rfl rfl rfl (fun b5 => pur 2 rfl (sqt 4 rfl (sp rfl (PE.fA Z0M rfl) rfl (spL rfl rfl (lh sc3 rfl rfl) rfl (pur 2 rfl (Z0 (sqt 3 rfl (sp rfl (PE.fA Z0S rfl) rfl (spL rfl rfl (lh sc3 rfl rfl) rfl (pur 1 rfl (Z2 ?_)))))))))))))
 refine Zb (ι := {i : Nat // f ≤ i ∧ i ≤ t}) (fun i => ⟨[(4, .pointer (some ⟨b4, 0, none⟩)), (5, .pointer (some ⟨b5, 0, none⟩)), (6, .int .i64 (((List.range' f (i.1 - f)).foldl (fun p i => Z4Z own t i p) (t, (-2 : Int))).1 : Nat)), (7, .int .i64 ((List.range' f (i.1 - f)).foldl (fun p i => Z4Z own t i p) (t, (-2 : Int))).2), (8, .int .i64 i.1)], (b5, cel 199 (ZE (ZH own))) :: (b4, cel 195 [.int .i64 (f : Nat), .int .i64 (t : Nat)]) :: H, R⟩) (fun i => t - i.1) ⟨f, Nat.le_refl _, hft⟩ ?_ (fun i => ?_)
 exact ZcE (by dsimp only; rw [Nat.sub_self]; exact (by repeat' first | exact Sub.nil | apply Sub.cons | rfl | (simp [lk]; omega))) idH
 obtain ⟨i, hi1, hi2⟩ := i
 dsimp only at hi1 hi2 ⊢
 have hst := Z7j (own := own) (T := t) hi1
 refine Z0 (sqt 4 rfl (pur 1 rfl (sp rfl (PE.fA Z0M rfl) rfl (spL rfl rfl (lh sc3 rfl rfl) rfl (pur 1 rfl ?_)))))
 refine Z1 rfl ?_ ?_ <;> intro hc0 <;> try simp only [cS] at hc0
 refine Z3 (Z0 (Z2 (sqt 3 rfl (pur 1 rfl (sp rfl (PE.indexArr Z7D rfl rfl (by omega) (by omega)) rfl (spL rfl rfl (lh sc4 rfl (Z61 (i := i) (by show 0 + ((i : Nat) : Int).toNat * 1 = i; omega) (by omega))) rfl ?_))))))
 refine Z1 rfl ?_ ?_ <;> intro hc1
 refine sqr 6 rfl (pur 2 rfl (sp rfl (PE.min rfl rfl) rfl (pur 3 rfl (sqr 3 rfl (pur 1 rfl (sp rfl (PE.add rfl rfl (by omega)) rfl (pur 1 rfl ?_)))))))
 exact Z0s ⟨i + 1, by omega, by omega⟩ (by dsimp only; omega) (by dsimp only; rw [hst, Zb1 hc1]; dsimp only; rw [Zgq]; exact (by repeat' first | exact Sub.nil | apply Sub.cons | rfl | (simp [lk]; omega))) idH
 refine Z3 (sqr 3 rfl (pur 1 rfl (sp rfl (PE.add rfl rfl (by omega)) rfl (pur 1 rfl ?_))))
 exact Z0s ⟨i + 1, by omega, by omega⟩ (by dsimp only; omega) (by dsimp only; rw [hst, ZaX hc1]; exact (by repeat' first | exact Sub.nil | apply Sub.cons | rfl | (simp [lk]; omega))) idH
 obtain rfl : i = t := by omega
 refine Z9 (Za (Za (Zl (sqt 4 rfl (pur 4 rfl (Z4 ?_))))))
 exact rtB rfl rfl rfl rfl ⟨rfl, rfl, rfl⟩ drp
theorem ZhO (wt : Wt) (hw : wt.ok) (a : Option Addr) (c g : Nat) (h : Int) (hg : cal Tryz.prog g = true) (H : Z7) (R : Z5) [hR : MemRows a 3 (crows wt.counts) R] (hcm : ∀ x, x ∈ wt.counts → ∃ z : Int, FnV Tryz.prog g [.agg (crow x).toArray, .int .i64 h] H R (.int .i64 z) ∧ (z < 0 ↔ x.hour < h) ∧ (z = 0 ↔ x.hour = h)) :
    Fn Tryz.prog 62 [.slice a wt.counts.length c, .int .i64 h, .func (.func g) #[] #[]] H R (fun v H' R' => ∃ is : Bool, v = .tuple #[.int .i64 (wt.pos h : Nat), .bool is] ∧ (is = true → ∃ x, wt.counts[wt.pos h]? = some x ∧ x.hour = h) ∧ (is = false → ∀ x, wt.counts[wt.pos h]? = some x → x.hour ≠ h) ∧ H' = H ∧ R' = R) := by
 have hnc := hw.nc
 refine Z8 Tryz.func62 rfl Tryz.ntmps62 rfl ?_
 refine sqt 2 rfl (pur 2 rfl (sqt 3 rfl (pur 1 rfl (sp rfl (PE.lenSl Z0m rfl) rfl (pur 1 rfl (sqt 3 rfl (pur 3 rfl (Z0 (Z2 ?_)))))))))
 refine Zb (ι := {x : Nat × Nat // x.1 ≤ x.2 ∧ x.2 ≤ wt.counts.length ∧ (∀ k, k < x.1 → (wt.cn k).hour < h) ∧ ∀ k, x.2 ≤ k → k < wt.counts.length → h ≤ (wt.cn k).hour}) (fun x => ⟨[(0, .slice a wt.counts.length c), (1, .int .i64 h), (2, .func (.func g) #[] #[]), (8, .int .i64 wt.counts.length), (9, .int .i64 x.1.1), (10, .int .i64 x.1.2)], H, R⟩) (fun x => x.1.2 - x.1.1) ⟨(0, wt.counts.length), Nat.zero_le _, Nat.le_refl _, fun k hk => by omega, fun k h1 h2 => by dsimp only at h1; omega⟩ ?_ (fun x => ?_)
 exact Zf idH
 obtain ⟨⟨i, j⟩, hij, hj, hlo, hhi⟩ := x
 dsimp only at hij hj hlo hhi ⊢
 refine Z0 (sqt 3 rfl (pur 3 rfl ?_))
 refine Z1 rfl ?_ ?_ <;> intro hc0 <;> try simp only [cS] at hc0
 refine Z3 (Z2 (sqt 7 rfl (pur 2 rfl (sp rfl (PE.add rfl rfl (by omega)) rfl ?_))))
 refine sp rfl ((PE.convert us3 Z6X rfl).to (by rw [Z0J (by omega) (by omega)])) rfl ?_
 refine sp rfl (PE.shr1 rfl rfl (by omega)) rfl ?_
 refine sp rfl ((PE.convert Zh4 ik3 rfl).to (by rw [ZI (by omega) (by omega), show ((i : Int) + (j : Int)) / 2 = (((i + j) / 2 : Nat) : Int) from by omega])) rfl ?_
 refine pur 1 rfl (sqt 8 rfl (pur 3 rfl ?_))
 obtain ⟨m, hm⟩ : ∃ m, m = (i + j) / 2 := ⟨_, rfl⟩
 rw [← hm]
 have hm1 : i ≤ m ∧ m < j := by omega
 have hcx : wt.counts[m]? = some (wt.cn m) := Z0c (by omega)
 refine Zg (a := a) (sz := 3) (rows := crows wt.counts) (by intro h0; simp [crows] at h0; simp [h0] at hcx) (fun b off he => ?_)
 subst he
 obtain ⟨z, hz, hz1, hz2⟩ := hcm (wt.cn m) (List.mem_of_getElem? hcx)
 refine sp rfl (PE.indexAddr Z5Y rfl rfl (by omega) (by omega)) rfl (spL rfl rfl (lfA Z3b (row := crow (wt.cn m)) (ZP (by simpa using hcx)) rfl) rfl (pur 1 rfl ?_))
 refine Z1x rfl rfl (hg) rfl rfl (hz) ?_
 refine pur 1 rfl ?_
 refine Z1 rfl ?_ ?_ <;> intro hc1 <;> try simp only [cS] at hc1
 have hlt := hz1.1 hc1
 refine sqr 3 rfl (pur 1 rfl (sp rfl (PE.add rfl rfl (by omega)) rfl (pur 1 rfl ?_)))
 exact Z6 ⟨(m + 1, j), by dsimp only; omega, hj, fun k hk => by have := hw.le (i := k) (j := m) (by dsimp only at hk; omega) (Z0c (by dsimp only at hk; omega)) hcx; omega, hhi⟩ idH
 have hge : ¬ (wt.cn m).hour < h := fun e => by have := hz1.2 e; omega
 refine sqr 2 rfl (pur 2 rfl ?_)
 exact Z6 ⟨(i, m), by dsimp only; omega, by dsimp only; omega, hlo, fun k h1 h2 => by have := hw.le (i := m) (j := k) h1 hcx (Z0c h2); omega⟩ idH
 obtain rfl : j = i := by omega
 have hpos := Zb0 hj hlo hhi
 subst hpos
 refine Z9 (Za (Za (Zl (sqt 16 rfl (pur 5 rfl ?_)))))
 refine Zk 39 rfl ?_ ?_ <;> intro g39
 try simp only [cS] at g39
 have hcx : wt.counts[(wt.pos h)]? = some (wt.cn (wt.pos h)) := Z0c (by omega)
 refine Zg (a := a) (sz := 3) (rows := crows wt.counts) (by intro h0; simp [crows] at h0; simp [h0] at hcx) (fun b off he => ?_)
 subst he
 obtain ⟨z, hz, hz1, hz2⟩ := hcm (wt.cn (wt.pos h)) (List.mem_of_getElem? hcx)
 refine pur 3 rfl ?_
 refine spG rfl rfl rfl rfl (PE.indexAddr Z5Y rfl rfl (by omega) (by omega)) rfl ?_
 refine Z0f rfl rfl rfl rfl rfl (lfA Z3b (row := crow (wt.cn (wt.pos h))) (ZP (by simpa using hcx)) rfl) rfl (pur 1 rfl ?_)
 refine Zbt rfl rfl rfl rfl rfl (hg) rfl rfl (hz) ?_
 refine pur 4 rfl (Z4 ?_)
 exact rtB rfl rfl rfl rfl ⟨decide (z = 0), rfl, (fun e => ⟨_, hcx, hz2.1 (of_decide_eq_true e)⟩), (fun e x hx => by rw [hcx] at hx; cases hx; exact fun e2 => of_decide_eq_false e (hz2.2 e2)), rfl, rfl⟩ idH
 try simp only [cS] at g39
 refine pur 11 rfl (Z4 ?_)
 exact rtB rfl rfl rfl rfl ⟨false, rfl, (fun e => by cases e), (fun _ x hx => by have := (List.getElem?_eq_some_iff.1 hx).1; omega), rfl, rfl⟩ idH
theorem Zhk (x : Cnt) (h : Int) (hx : 0 ≤ x.hour ∧ x.hour ≤ 1000) (hh : 0 ≤ h ∧ h ≤ 1000) (H : Z7) (R : Z5) :
    FnV Tryz.prog 203 [.agg (crow x).toArray, .int .i64 h] H R (.int .i64 (x.hour - h)) := by
 refine Z8 Tryz.func203 rfl Tryz.ntmps203 rfl ?_
 refine sqt 2 rfl (bx rfl rfl rfl (fun b2 => pur 1 rfl (sqt 5 rfl (sp rfl (PE.fA Z0h rfl) rfl (spL rfl rfl (lh sc3 rfl rfl) rfl (pur 1 rfl (sp rfl (PE.sub rfl rfl (by omega)) rfl (pur 1 rfl (Z4 ?_)))))))))
 exact rtA rfl rfl rfl ⟨rfl, rfl, rfl⟩ drp
set_option maxHeartbeats 1000000 in
theorem Z9M (wt : Wt) (a1 a2 a3 : Option Addr) (k1 k2 k3 : Nat) (hw : wt.ok) (H : Z7) (R : Z5) [hR1 : MemRows a1 3 (crows wt.counts) R] [hR2 : MemRows a2 2 (bkrows wt.books) R] [hR3 : MemRows a3 3 (sprows wt.spells) R] :
    Fn Tryz.prog 174 [(wt.v a1 a2 a3 k1 k2 k3)] H R (fun v H' R' => ∃ (bd m : Nat) (kv : KV), v = .pointer (some ⟨bd, 0, none⟩) ∧ KvW wt kv ∧ H' = H ∧ R' = RowsA (some ⟨bd, 0, none⟩) 15 [(wtl wt a1 a2 a3 k1 k2 k3 ++ (Zh (wt.sums) ++ [.map (some m)]))] :: MpF m kv :: R) := by
 have hnc := hw.nc
 have hnb := hw.nb
 have hns := hw.ns
 have hho := hw.hours
 refine Z4f Tryz.func174 rfl Tryz.ntmps174 rfl ?_
 refine sqt 2 rfl (bx rfl rfl rfl (fun b1 => pur 1 rfl (sqt 6 rfl (spL rfl rfl (lhA (wtl wt a1 a2 a3 k1 k2 k3) Z17 rfl rfl rfl) rfl ?_))))
 refine mkm rfl rfl true (fun m => ?_)
 refine sp rfl (PE.build (out := (wtl wt a1 a2 a3 k1 k2 k3 ++ (Zh (List.replicate 8 0) ++ [.map (some m)]))) ZgJ ZgM rfl (by kernel_rfl)) rfl (bx rfl rfl rfl (fun b14 => ?_))
 refine Sy.heap (H' := (b14, cel 206 (wtl wt a1 a2 a3 k1 k2 k3 ++ (Zh (Z1V wt 0) ++ [.map (some m)]))) :: (m, ZU true []) :: (b1, cel 71 (wtl wt a1 a2 a3 k1 k2 k3)) :: H) idH ?_
 refine alc rfl Zgv rfl (fun b3 => ?_)
 refine sto rfl rfl rfl Zg9 rfl rfl rfl rfl ?_
 refine Z0 (sqt 4 rfl (sp rfl (PE.fA Z1g rfl) rfl (spL rfl rfl (lh Z5o rfl rfl) rfl (sp rfl (PE.lenSl Z4E rfl) rfl (pur 1 rfl (Z2 ?_))))))
 refine Zb (ι := {k : Nat // k ≤ wt.books.length}) (fun k => ⟨[(1, .pointer (some ⟨b1, 0, none⟩)), (3, .pointer (some ⟨b3, 0, none⟩)), (16, .slice a2 wt.books.length k2), (17, .int .i64 wt.books.length), (18, .int .i64 k.1)], (b3, cel 134 [.pointer (some ⟨b14, 0, none⟩)]) :: (b14, cel 206 (wtl wt a1 a2 a3 k1 k2 k3 ++ (Zh (Z1V wt k.1) ++ [.map (some m)]))) :: (m, ZU true []) :: (b1, cel 71 (wtl wt a1 a2 a3 k1 k2 k3)) :: H, R⟩) (fun k => wt.books.length - k.1) ⟨0, Nat.zero_le _⟩ ?_ (fun k => ?_)
 exact Zf idH
 ·
  obtain ⟨k, hk⟩ := k
  dsimp only at hk ⊢
  have hso := Zcq hw k
  refine sqt 1 rfl (pur 1 rfl (Z0 ?_))
  refine Z1 rfl ?_ ?_ <;> intro hc0 <;> try simp only [cS] at hc0
  obtain ⟨x, hx⟩ : ∃ x, wt.books[k]? = some x := ⟨_, List.getElem?_eq_getElem (by omega)⟩
  have hxb := hw.bks x (List.mem_of_getElem? hx)
  have hst := Z8d hx
  refine Zg (a := a2) (sz := 2) (rows := bkrows wt.books) (by intro h0; simp [bkrows] at h0; simp [h0] at hx) (fun b off he => ?_)
  subst he
  refine Z3 (Z0 (Z2 (sqt 4 rfl (sp rfl (PE.indexAddr ZcT rfl rfl (by omega) (by omega)) rfl (spL rfl rfl (lfA Z4X (row := bkrow x) (bk_get hx) rfl) rfl (alc rfl Z50 rfl (fun b5 => ?_)))))))
  refine sto rfl rfl rfl Z7k rfl rfl rfl rfl ?_
  refine sqt 10 rfl (sp rfl (PE.fA Zv rfl) rfl (spL rfl rfl (lh ZV rfl rfl) rfl (sp rfl (PE.fA Z0C rfl) rfl (spL rfl rfl (lh sc3 rfl rfl) rfl ?_))))
  refine cl rfl Zet rfl rfl (ZhO wt hw a1 k1 203 x.hour Zes _ _ (fun y hy => ⟨y.hour - x.hour, Zhk y x.hour (by have := (hw.cnt y hy).1; omega) (by omega) _ _, by omega, by omega⟩)) ?_
  rintro _ _ R1 ⟨is, rfl, his, _, rfl, hR1⟩
  obtain rfl := hR1.symm
  clear hR1
  have hpl : wt.pos x.hour ≤ wt.counts.length := Z1h _
  have hisl : is = true → wt.pos x.hour < wt.counts.length := fun e => by obtain ⟨y, hy, _⟩ := his e; exact (List.getElem?_eq_some_iff.1 hy).1
  refine pur 5 rfl (sqt 12 rfl (pur 3 rfl ?_))
  refine Zk 32 rfl ?_ ?_ <;> intro g32
  try simp only [cS] at g32
  refine pur 2 rfl ?_
  refine Zk 34 rfl ?_ ?_ <;> intro g34
  have hyes : (decide (0 < wt.pos x.hour) && decide (wt.pos x.hour < wt.counts.length)) = true := by have := hisl g34; simp; omega
  refine pur 7 rfl ?_
  refine ZD rfl ?_
  refine Zc [0, 0, 2, 1, 9, 31, 63, 0, 128, 511, 1, 1025, 4095, 8191] (.ld 0 (tks 1 5 (.ld 6 (.tk 7 (.ld 8 (tks 9 4 (.big 13 .done))))))) Zo (by kernel_rfl) ?_
  have hyes2 := hyes
  simp only [Bool.and_eq_true, decide_eq_true_eq] at hyes2
  obtain ⟨q, hq⟩ : ∃ q, wt.pos x.hour = q + 1 := ⟨wt.pos x.hour - 1, by omega⟩
  have hql : q < (Z1V wt k).length := by rw [hso.len]; omega
  have hqb := hso.bd q
  have hst2 : Z1V wt (k + 1) = (Z1V wt k).set q (na0 (Z1V wt k) q + x.sacks) := by rw [hst]; unfold Wt.bk1; rw [hyes, hq]; rfl
  rw [hq]
  refine ld rfl rfl (lh Z0V rfl rfl) rfl (Zd 1 rfl (tk rfl (PE.sub rfl rfl (by omega)) rfl (tk rfl (PE.nilCheck rfl) rfl (tk rfl (PE.fA Z2F rfl) rfl (tk rfl (PE.indexArr Z90 rfl rfl (by omega) (by omega)) rfl (ld rfl rfl (lh sc3 rfl (Zcn (i := q) (by show _ = 6 + q; omega) hql)) rfl (tk rfl (PE.fA Z0X rfl) rfl (ld rfl rfl (lh sc3 rfl rfl) rfl (tk rfl (PE.add rfl rfl (by omega)) rfl (tk rfl (PE.nilCheck rfl) rfl (tk rfl (PE.fA Z2F rfl) rfl (tk rfl (PE.indexArr Z90 rfl rfl (by omega) (by omega)) rfl ?_))))))))))))
  refine Z01 (l' := (wtl wt a1 (some ⟨b, off, none⟩) a3 k1 k2 k3 ++ (Zh ((Z1V wt k).set q (na0 (Z1V wt k) q + x.sacks)) ++ [.map (some m)]))) rfl rfl rfl cn3 rfl rfl rfl (ZaA (i := q) (by show _ = 6 + q; omega) hql) (by rw [List.length_append, List.length_append, List.length_map]; show _ + 1 ≤ 6 + (_ + 1); omega) ?_
  refine bgT (sqr 2 rfl (sp rfl (PE.add rfl rfl (by omega)) rfl (pur 1 rfl ?_)))
  first
    | exact Zr ⟨k + 1, by omega⟩ (by dsimp only; omega) (fun w h => by dsimp only; rw [hst2]; exact h.del b5)
    | exact Zr ⟨k + 1, by omega⟩ (by dsimp only; omega) (fun w h => by dsimp only; rw [show Z1V wt (k + 1) = Z1V wt k from by rw [hst]; unfold Wt.bk1; rw [hno]; rfl]; exact h.del b5)
  refine pur 1 rfl ?_
  refine spG rfl rfl rfl rfl (PE.fA Zv rfl) rfl ?_
  refine Z0f rfl rfl rfl rfl rfl (lh ZV rfl rfl) rfl ?_
  refine spG rfl rfl rfl rfl (PE.lenSl Z0m rfl) rfl ?_
  refine pur 3 rfl ?_
  refine Z1 rfl ?_ ?_ <;> intro hc1 <;> try simp only [cS] at hc1
  have hyes : (decide (0 < wt.pos x.hour) && decide (wt.pos x.hour < wt.counts.length)) = true := by simp; omega
  refine Zc [0, 0, 2, 1, 9, 31, 63, 0, 128, 511, 1, 1025, 4095, 8191] (.ld 0 (tks 1 5 (.ld 6 (.tk 7 (.ld 8 (tks 9 4 (.big 13 .done))))))) Zo (by kernel_rfl) ?_
  have hyes2 := hyes
  simp only [Bool.and_eq_true, decide_eq_true_eq] at hyes2
  obtain ⟨q, hq⟩ : ∃ q, wt.pos x.hour = q + 1 := ⟨wt.pos x.hour - 1, by omega⟩
  have hql : q < (Z1V wt k).length := by rw [hso.len]; omega
  have hqb := hso.bd q
  have hst2 : Z1V wt (k + 1) = (Z1V wt k).set q (na0 (Z1V wt k) q + x.sacks) := by rw [hst]; unfold Wt.bk1; rw [hyes, hq]; rfl
  rw [hq]
  refine ld rfl rfl (lh Z0V rfl rfl) rfl (Zd 1 rfl (tk rfl (PE.sub rfl rfl (by omega)) rfl (tk rfl (PE.nilCheck rfl) rfl (tk rfl (PE.fA Z2F rfl) rfl (tk rfl (PE.indexArr Z90 rfl rfl (by omega) (by omega)) rfl (ld rfl rfl (lh sc3 rfl (Zcn (i := q) (by show _ = 6 + q; omega) hql)) rfl (tk rfl (PE.fA Z0X rfl) rfl (ld rfl rfl (lh sc3 rfl rfl) rfl (tk rfl (PE.add rfl rfl (by omega)) rfl (tk rfl (PE.nilCheck rfl) rfl (tk rfl (PE.fA Z2F rfl) rfl (tk rfl (PE.indexArr Z90 rfl rfl (by omega) (by omega)) rfl ?_))))))))))))
  refine Z01 (l' := (wtl wt a1 (some ⟨b, off, none⟩) a3 k1 k2 k3 ++ (Zh ((Z1V wt k).set q (na0 (Z1V wt k) q + x.sacks)) ++ [.map (some m)]))) rfl rfl rfl cn3 rfl rfl rfl (ZaA (i := q) (by show _ = 6 + q; omega) hql) (by rw [List.length_append, List.length_append, List.length_map]; show _ + 1 ≤ 6 + (_ + 1); omega) ?_
  refine bgT (sqr 2 rfl (sp rfl (PE.add rfl rfl (by omega)) rfl (pur 1 rfl ?_)))
  first
    | exact Zr ⟨k + 1, by omega⟩ (by dsimp only; omega) (fun w h => by dsimp only; rw [hst2]; exact h.del b5)
    | exact Zr ⟨k + 1, by omega⟩ (by dsimp only; omega) (fun w h => by dsimp only; rw [show Z1V wt (k + 1) = Z1V wt k from by rw [hst]; unfold Wt.bk1; rw [hno]; rfl]; exact h.del b5)
  have hno : (decide (0 < wt.pos x.hour) && decide (wt.pos x.hour < wt.counts.length)) = false := by rw [dF (show ¬ wt.pos x.hour < wt.counts.length by omega), Bool.and_false]
  refine Z3 (sqr 2 rfl (sp rfl (PE.add rfl rfl (by omega)) rfl (pur 1 rfl ?_)))
  first
    | exact Zr ⟨k + 1, by omega⟩ (by dsimp only; omega) (fun w h => by dsimp only; rw [hst2]; exact h.del b5)
    | exact Zr ⟨k + 1, by omega⟩ (by dsimp only; omega) (fun w h => by dsimp only; rw [show Z1V wt (k + 1) = Z1V wt k from by rw [hst]; unfold Wt.bk1; rw [hno]; rfl]; exact h.del b5)
  try simp only [cS] at g32
  have hno : (decide (0 < wt.pos x.hour) && decide (wt.pos x.hour < wt.counts.length)) = false := by rw [dF (show ¬ 0 < wt.pos x.hour by omega)]; rfl
  refine pur 2 rfl ?_
  repeat refine spU rfl rfl rfl rfl rfl rfl rfl ?_
  refine pur 2 rfl ?_
  refine ZC rfl ?_
  refine Z3 (sqr 2 rfl (sp rfl (PE.add rfl rfl (by omega)) rfl (pur 1 rfl ?_)))
  first
    | exact Zr ⟨k + 1, by omega⟩ (by dsimp only; omega) (fun w h => by dsimp only; rw [hst2]; exact h.del b5)
    | exact Zr ⟨k + 1, by omega⟩ (by dsimp only; omega) (fun w h => by dsimp only; rw [show Z1V wt (k + 1) = Z1V wt k from by rw [hst]; unfold Wt.bk1; rw [hno]; rfl]; exact h.del b5)
  ·
   obtain rfl : k = wt.books.length := by omega
   rw [Z9n]
   refine Z9 (Za (Za (Zl (Z0 (sqt 5 rfl (spL rfl rfl (lh Z0V rfl rfl) rfl (sp rfl (PE.nilCheck rfl) rfl (sp rfl (PE.fA Z09 rfl) rfl (spL rfl rfl (lhA (wtl wt a1 a2 a3 k1 k2 k3) Z17 rfl rfl rfl) rfl ?_)))))))))
   refine cl rfl Z6Z rfl rfl (Zcf wt a1 a2 a3 k1 k2 k3 _ _) ?_
   rintro _ _ R1 ⟨qw, rfl, rfl, hR1⟩
   subst hR1
   refine Z2 ?_
   refine Z1G rfl Z7y (fun c0 bl0 bd0 hcp0 hca0 hcb0 hck0 => ?_)
   refine ⟨fun st pend T R' => st = .ready ∧ pend = none ∧ ∃ kv : KV, KvW wt kv ∧ T = (bd0, .deferred (some [])) :: (b3, cel 134 [.pointer (some ⟨b14, 0, none⟩)]) :: (b14, cel 206 (wtl wt a1 a2 a3 k1 k2 k3 ++ (Zh (wt.sums) ++ [.map (some m)]))) :: (m, ZU true kv) :: (b1, cel 71 (wtl wt a1 a2 a3 k1 k2 k3)) :: H ∧ R' = RowsA (some ⟨qw, 0, none⟩) 6 [(wtl wt a1 a2 a3 k1 k2 k3)] :: R,
     Fn.mono (Z7d wt a1 a2 a3 k1 k2 k3 hw qw bl0 (fun k H' R' => ∃ (kv : KV) (s : Nat × Nat) (m0 : Nat), KvP wt k s m0 kv ∧ (s ∈ (Z0n wt.counts.length).take k → m0 = wt.thr s.1 s.2) ∧ (s ∉ (Z0n wt.counts.length).take k → m0 = 0) ∧ H' = (bl0, lob c0 .ready none) :: (bd0, .deferred (some [])) :: (b3, cel 134 [.pointer (some ⟨b14, 0, none⟩)]) :: (b14, cel 206 (wtl wt a1 a2 a3 k1 k2 k3 ++ (Zh (wt.sums) ++ [.map (some m)]))) :: (m, ZU true kv) :: (b1, cel 71 (wtl wt a1 a2 a3 k1 k2 k3)) :: H ∧ R' = RowsA (some ⟨qw, 0, none⟩) 6 [(wtl wt a1 a2 a3 k1 k2 k3)] :: R) (fun _ _ => False)
       (fun k H' R' h => by obtain ⟨kv, s, m0, _, _, _, rfl, rfl⟩ := h; simp)
       (fun k f t H' R' hft htn hk hI => ?_) _ _ ⟨[], (0, 0), 0, KvP.nil _ _, by simp, fun _ => rfl, rfl, rfl⟩) (fun v H' R' h => ?_), ?_⟩
   rotate_left
   · rcases h with ⟨kv, s, m0, hkp, hm1, hm2, rfl, rfl⟩ | h
     · exact ⟨.ready, none, _, by simp, .refl _, rfl, rfl, kv, hkp.all (fun hs => hm1 (by rw [List.take_length]; exact hs)), rfl, rfl⟩
     · exact h.elim
   rotate_left
   obtain ⟨kv, s, m0, hkp0, hm1, hm2, rfl, rfl⟩ := hI
   have hkp : KvP wt k (f, t) (Z2y wt f t 0) kv := hkp0.start (by
     by_cases hs : s ∈ (Z0n wt.counts.length).take k
     · rw [hm1 hs, show ((Z0n wt.counts.length).take k).contains s = true by simpa using hs]; rfl
     · rw [hm2 hs, show ((Z0n wt.counts.length).take k).contains s = false by simpa using hs]; rfl) hk
   clear hkp0 hm1 hm2
   refine Z8N hcp0 hca0 hcb0 hck0 rfl ?_
   refine sqr 2 rfl (alc rfl Z1f rfl (fun b8 => ?_))
   refine Z01 (l' := [.int .i64 (f : Nat), .int .i64 (t : Nat)]) rfl rfl rfl Z2R rfl rfl rfl rfl (nl rfl) ?_
   refine ZX ?_
   refine Z2 (sqt 4 rfl (sp rfl (PE.fA Z0O rfl) rfl (spL rfl rfl (lh Z1P rfl rfl) rfl (sp rfl (PE.lenSl Z9Z rfl) rfl (pur 1 rfl (Z2 ?_))))))
   refine Zb (ι := {x : Nat × KV // x.1 ≤ wt.spells.length ∧ KvP wt k (f, t) (Z2y wt f t x.1) x.2}) (fun x => ⟨[(1, .pointer (some ⟨b1, 0, none⟩)), (3, .pointer (some ⟨b3, 0, none⟩)), (8, .pointer (some ⟨b8, 0, none⟩)), (63, .slice a3 wt.spells.length k3), (64, .int .i64 wt.spells.length), (65, .int .i64 x.1.1)], (b8, cel 195 [.int .i64 (f : Nat), .int .i64 (t : Nat)]) :: (bl0, lob c0 .busy none) :: (bd0, .deferred (some [])) :: (b3, cel 134 [.pointer (some ⟨b14, 0, none⟩)]) :: (b14, cel 206 (wtl wt a1 a2 a3 k1 k2 k3 ++ (Zh (wt.sums) ++ [.map (some m)]))) :: (m, ZU true x.1.2) :: (b1, cel 71 (wtl wt a1 a2 a3 k1 k2 k3)) :: H, RowsA (some ⟨qw, 0, none⟩) 6 [(wtl wt a1 a2 a3 k1 k2 k3)] :: R⟩) (fun x => wt.spells.length - x.1.1) ⟨(0, kv), Nat.zero_le _, hkp⟩ ?_ (fun x => ?_)
   exact Zf idH
   obtain ⟨⟨j, kv1⟩, hj, hkp1⟩ := x
   dsimp only at hj hkp1 ⊢
   refine sqt 1 rfl (pur 1 rfl (Z0 ?_))
   refine Z1 rfl ?_ ?_ <;> intro hc2 <;> try simp only [cS] at hc2
   obtain ⟨x, hx⟩ : ∃ x, wt.spells[j]? = some x := ⟨_, List.getElem?_eq_getElem (by omega)⟩
   have hxb := hw.spl x (List.mem_of_getElem? hx)
   have hst := Z4F (f := f) (t := t) hx
   have htl := Z96 hw f t j
   have hcf : wt.counts[f]? = some (wt.cn f) := Z0c (by omega)
   have hct : wt.counts[t]? = some (wt.cn t) := Z0c (by omega)
   refine Zg (a := a3) (sz := 3) (rows := sprows wt.spells) (by intro h0; simp [sprows] at h0; simp [h0] at hx) (fun b off he => ?_)
   subst he
   refine Zg (a := a1) (sz := 3) (rows := crows wt.counts) (by intro h0; simp [crows] at h0; simp [h0] at hcf) (fun bf of he => ?_)
   subst he
   refine Z3 (Z0 (Z2 (sqt 4 rfl (sp rfl (PE.indexAddr ZhF rfl rfl (by omega) (by omega)) rfl (spL rfl rfl (lfA Zbi (row := sprow x) (ZdQ hx) rfl) rfl (alc rfl Z6x rfl (fun b10 => ?_)))))))
   refine sto rfl rfl rfl Zg4 rfl rfl rfl rfl ?_
   refine Z0 ?_
   refine Zc [0, 1, 0, 4, 0, 16, 60, 124, 252, 511, 1023, 2047, 4095, 2047, 10239, 2047, 34815, 124927, 255999, 518143, 1048575, 2097151] (.tk 0 (.ld 1 (.tk 2 (.ld 3 (.tk 4 (.ld 5 (.tk 6 (.tk 7 (.ld 8 (tks 9 3 (.ld 12 (.tk 13 (.ld 14 (.tk 15 (.ld 16 (.tk 17 (.tk 18 (.ld 19 (.tk 20 (.tk 21 .done)))))))))))))))))))) Zo (by kernel_rfl) ?_
   refine tk rfl (PE.fA Z2I rfl) rfl (ld rfl rfl (lh sc3 rfl rfl) rfl (tk rfl (PE.fA Zv rfl) rfl (ld rfl rfl (lh ZV rfl rfl) rfl (tk rfl (PE.fA Z0M rfl) rfl (ld rfl rfl (lh sc3 rfl rfl) rfl (tk rfl (PE.indexAddr Z5Y rfl rfl (by omega) (by omega)) rfl (tk rfl (PE.fA Z0h rfl) rfl (ld rfl rfl (lf (x := .int .i64 (wt.cn t).hour) sc3 (ZP hct) rfl) rfl (Zd 2 rfl ?_)))))))))
   refine Zk 79 rfl ?_ ?_ <;> intro g79
   try simp only [cS] at g79
   refine tkG rfl rfl rfl rfl (PE.fA Z37 rfl) rfl ?_
   refine ldG rfl rfl rfl rfl rfl (lh sc3 rfl rfl) rfl ?_
   refine tkG rfl rfl rfl rfl (PE.fA Zv rfl) rfl ?_
   refine ldG rfl rfl rfl rfl rfl (lh ZV rfl rfl) rfl ?_
   refine tkG rfl rfl rfl rfl (PE.fA Z0S rfl) rfl ?_
   refine ldG rfl rfl rfl rfl rfl (lh sc3 rfl rfl) rfl ?_
   refine tkG rfl rfl rfl rfl (PE.indexAddr Z5Y rfl rfl (by omega) (by omega)) rfl ?_
   refine tkG rfl rfl rfl rfl (PE.fA Z0h rfl) rfl ?_
   refine ldG rfl rfl rfl rfl rfl (lf (x := .int .i64 (wt.cn f).hour) sc3 (ZP hcf) rfl) rfl (Zd 2 rfl ?_)
   refine Z1 rfl ?_ ?_ <;> intro hc3 <;> try simp only [cS] at hc3
   have hyes : wt.over f t x = true := by unfold Wt.over; rw [dT (by omega), dT (by omega)]; rfl
   refine Zc [0, 1, 3, 7, 0, 31, 0, 64, 192, 511, 479, 1503, 4095] (.ld 0 (.tk 1 (.tk 2 (.ld 3 (.ld 4 (.ld 5 (.tk 6 (.ld 7 (.tk 8 (.tk 9 (.big 10 (.tk 11 (.big 12 .done))))))))))))) Zo (by kernel_rfl) ?_
   obtain ⟨hn, hhn⟩ : ∃ hn : Nat, x.hand = hn := ⟨x.hand.toNat, by omega⟩
   have hha := hw.hands
   have hpw : (2 : Nat) ^ hn < 2 ^ 6 := Nat.pow_lt_pow_right (by decide) (by omega)
   have hor := Nat.or_lt_two_pow htl hpw
   have hst2 : Z2y wt f t (j + 1) = Z2y wt f t j ||| 1 * 2 ^ hn := by rw [hst]; unfold Z6V; rw [hyes, hhn, Nat.one_mul]; rfl
   have hgt := hkp1.at_ f t
   simp only [decide_true, cond_true] at hgt
   have hkp2 := hkp1.put (m' := Z2y wt f t j)
   have hgt2 := hkp2.at_ f t
   simp only [decide_true, cond_true] at hgt2
   refine ld rfl rfl (lh Z0V rfl rfl) rfl (tk rfl (PE.nilCheck rfl) rfl (tk rfl (PE.fA Z2H rfl) rfl (ld rfl rfl (lh Z78 rfl (Z4q (by rw [(Z12 hw).len]; rfl))) rfl (ld rfl rfl (lhA [_, _] Z02 rfl rfl rfl) rfl ?_))))
   refine ldK rfl rfl rfl (by first | exact Z2A (b := true) kv1 [(f : Int), (t : Int)] Z1Q (KeyT.of Z13 Z1T) (Z0Q zv3) rfl hkp1.len hgt | exact Z2A (b := true) (kv1.put [(f : Int), (t : Int)] (.int .i64 (Z2y wt f t j : Nat))) [(f : Int), (t : Int)] Z1Q (KeyT.of Z13 Z1T) (Z0Q zv3) rfl hkp2.len hgt2) rfl ?_
   refine tk rfl (PE.fA Z43 rfl) rfl (ld rfl rfl (lh (v := .int .i64 (hn : Nat)) sc3 rfl (by show some (Value.int .i64 x.hand) = _; rw [hhn])) rfl (tk rfl (PE.shlN (m := 1) (n := hn) rfl rfl rfl (by omega) (by omega)) rfl (tk rfl (PE.orN (m := Z2y wt f t j) (n := 1 * 2 ^ hn) rfl rfl (by omega) (by omega)) rfl ?_)))
   refine mpE kv1 [(f : Int), (t : Int)] (v0 := .int .i64 (Z2y wt f t j : Nat)) rfl Z1Q (KeyT.of Z13 Z1T) (Z0Q zv3) rfl rfl rfl hkp1.len hgt rfl (fun j9 hj9 => ?_)
   refine bg (fun w hs => ⟨trivial, (by first | exact (Z2A (b := true) kv1 [(f : Int), (t : Int)] Z1Q (KeyT.of Z13 Z1T) (Z0Q zv3) rfl hkp1.len hgt) w hs | exact (Z2A (b := true) (kv1.put [(f : Int), (t : Int)] (.int .i64 (Z2y wt f t j : Nat))) [(f : Int), (t : Int)] Z1Q (KeyT.of Z13 Z1T) (Z0Q zv3) rfl hkp2.len hgt2) w hs), trivial, trivial, trivial, trivial⟩) ?_
   refine Zd 1 rfl ?_
   refine mpT _ [(f : Int), (t : Int)] (v := .int .i64 ((Z2y wt f t j ||| 1 * 2 ^ hn : Nat) : Int)) rfl rfl rfl rfl hj9 ?_
   refine bgT (sqr 2 rfl (sp rfl (PE.add rfl rfl (by omega)) rfl (pur 1 rfl ?_)))
   first
     | exact Zr ⟨(j + 1, _), by dsimp only; omega, by dsimp only; rw [hst2]; exact hkp1.put.put⟩ (by dsimp only; omega) (fun w h => h.del b10)
     | exact Zr ⟨(j + 1, kv1), by dsimp only; omega, by dsimp only; rw [show Z2y wt f t (j + 1) = Z2y wt f t j from by rw [hst]; unfold Z6V; rw [hno]; rfl]; exact hkp1⟩ (by dsimp only; omega) (fun w h => h.del b10)
   have hno : wt.over f t x = false := by unfold Wt.over; rw [dF (show ¬ (wt.cn f).hour < x.to by omega), Bool.and_false]
   refine Z3 (sqr 2 rfl (sp rfl (PE.add rfl rfl (by omega)) rfl (pur 1 rfl ?_)))
   first
     | exact Zr ⟨(j + 1, _), by dsimp only; omega, by dsimp only; rw [hst2]; exact hkp1.put.put⟩ (by dsimp only; omega) (fun w h => h.del b10)
     | exact Zr ⟨(j + 1, kv1), by dsimp only; omega, by dsimp only; rw [show Z2y wt f t (j + 1) = Z2y wt f t j from by rw [hst]; unfold Z6V; rw [hno]; rfl]; exact hkp1⟩ (by dsimp only; omega) (fun w h => h.del b10)
   try simp only [cS] at g79
   have hno : wt.over f t x = false := by unfold Wt.over; rw [dF (by omega)]; rfl
   refine Zd 1 rfl ?_
   refine ldN rfl rfl rfl rfl rfl rfl rfl rfl ?_
   refine Zd 1 rfl ?_
   refine ldN rfl rfl rfl rfl rfl rfl rfl rfl ?_
   refine Zd 1 rfl ?_
   refine ldN rfl rfl rfl rfl rfl rfl rfl rfl ?_
   refine Zd 2 rfl ?_
   refine ldN rfl rfl rfl rfl rfl rfl rfl rfl ?_
   refine Zd 2 rfl ?_
   refine ZC rfl ?_
   refine Z3 (sqr 2 rfl (sp rfl (PE.add rfl rfl (by omega)) rfl (pur 1 rfl ?_)))
   first
     | exact Zr ⟨(j + 1, _), by dsimp only; omega, by dsimp only; rw [hst2]; exact hkp1.put.put⟩ (by dsimp only; omega) (fun w h => h.del b10)
     | exact Zr ⟨(j + 1, kv1), by dsimp only; omega, by dsimp only; rw [show Z2y wt f t (j + 1) = Z2y wt f t j from by rw [hst]; unfold Z6V; rw [hno]; rfl]; exact hkp1⟩ (by dsimp only; omega) (fun w h => h.del b10)
   obtain rfl : j = wt.spells.length := by omega
   rw [Z9O] at hkp1
   refine Z9 (Za (Za (Zl ?_)))
   exact Zn (.inl ⟨rfl, kv1, (f, t), wt.thr f t, hkp1.done hk, fun _ => rfl, (fun hn => absurd (by rw [List.take_add_one, hk]; simp) hn), rfl, rfl⟩) (fun w h => h.del b8)
   rintro _ _ _ _ ⟨rfl, rfl, kv, hkv, rfl, rfl⟩
   refine Z8q ?_
   refine sqt 2 rfl (spL rfl rfl (lh Z0V rfl rfl) rfl (pur 1 rfl (Z4 ?_)))
   exact Z0g [bd0] idH rfl (.cons (RV.tmp rfl) .nil) rfl ⟨b14, m, kv, rfl, hkv, rfl, rfl⟩ (fun w h => St.rows (b := b14) (e := 206) (sz := 15) (rows := [(wtl wt a1 a2 a3 k1 k2 k3 ++ (Zh (wt.sums) ++ [.map (some m)]))]) (rest := []) (by rw [show ([(wtl wt a1 a2 a3 k1 k2 k3 ++ (Zh (wt.sums) ++ [.map (some m)]))] : List (List Value)).flatten ++ [] = (wtl wt a1 a2 a3 k1 k2 k3 ++ (Zh (wt.sums) ++ [.map (some m)])) from by simp]; exact St.pull b14 (St.freeze (St.pull m (((h.del b3).del b1).ftail)))) (by simp [wtl, (Z12 hw).len]))
theorem Zf8 : cal Tryz.prog 107 = true := by kernel_rfl
theorem Zfv : cal Tryz.prog 108 = true := by kernel_rfl
theorem Z6f : cal Tryz.prog 112 = true := by kernel_rfl
theorem Zek : cal Tryz.prog 174 = true := by kernel_rfl
theorem Zco : cal Tryz.prog 61 = true := by kernel_rfl
theorem Zec {α : Type} {l : List α} {p : α → Bool} (h : l.any p = false) {x : α} (hx : x ∈ l) : p x = false := by
  rw [List.any_eq_false] at h
  simpa using h x hx
theorem Z8t {w : Wt} (hc : w.clash = false) {f t : Nat} (h : f < t) (ht : t < w.counts.length) : (w.cn t).lo ≤ (w.cn f).hi + w.bk f t ∧ (0 < w.gap f t → w.thr f t ≠ 0) := by
  have h1 := Zec hc (str_mem.2 ⟨h, ht⟩)
  simp only [Wt.bad, Bool.or_eq_false_iff, Bool.and_eq_false_iff, decide_eq_false_iff_not] at h1
  exact ⟨by omega, fun h2 => by rcases h1.2 with h3 | h3; exact absurd h2 h3; exact h3⟩
theorem Z1A (wt : Wt) (a1 a2 a3 : Option Addr) (k1 k2 k3 : Nat) (hw : wt.ok) (H : Z7) (R : Z5) [hR1 : MemRows a1 3 (crows wt.counts) R] [hR2 : MemRows a2 2 (bkrows wt.books) R] [hR3 : MemRows a3 3 (sprows wt.spells) R] :
    Fn Tryz.prog 107 [(wt.v a1 a2 a3 k1 k2 k3)] H R (fun v H' R' => ∃ (bd m : Nat) (kv : KV), v = .tuple #[.pointer (some ⟨bd, 0, none⟩), .int .i64 0] ∧ KvW wt kv ∧ H' = H ∧ R' = RowsA (some ⟨bd, 0, none⟩) 15 [(wtl wt a1 a2 a3 k1 k2 k3 ++ (Zh (wt.sums) ++ [.map (some m)]))] :: MpF m kv :: R) := by
 refine Z8 Tryz.func107 rfl Tryz.ntmps107 rfl ?_
 refine sqt 3 rfl (bx rfl rfl rfl (fun b1 => pur 2 rfl (Z0 (sqt 3 rfl (spL rfl rfl (lhA (wtl wt a1 a2 a3 k1 k2 k3) Z17 rfl rfl rfl) rfl ?_)))))
 refine clV rfl Zco rfl rfl (Z1l wt a1 a2 a3 k1 k2 k3 hw _ _) ?_
 refine pur 1 rfl (sqt 2 rfl (pur 2 rfl ?_))
 refine Z1 rfl ?_ ?_ <;> intro hc0
 exact absurd hc0 (by simp)
 refine Z3 (sqt 4 rfl (spL rfl rfl (lhA (wtl wt a1 a2 a3 k1 k2 k3) Z17 rfl rfl rfl) rfl ?_))
 refine cl rfl Zek rfl rfl (Z9M wt a1 a2 a3 k1 k2 k3 hw _ _) ?_
 rintro _ _ R1 ⟨bd, m, kv, rfl, hkv, rfl, hR1⟩
 subst hR1
 refine pur 2 rfl (Z4 ?_)
 exact rtB rfl rfl rfl rfl ⟨bd, m, kv, rfl, hkv, rfl, rfl⟩ (fun w h => h.del b1)
theorem Z8s (wt : Wt) (a1 a2 a3 : Option Addr) (k1 k2 k3 : Nat) (hw : wt.ok) (bd m : Nat) (kv : KV) (hkv : KvW wt kv) (hcl : wt.clash = false) (H : Z7) (R : Z5) [hD : MemRows (some ⟨bd, 0, none⟩) 15 [(wtl wt a1 a2 a3 k1 k2 k3 ++ (Zh (wt.sums) ++ [.map (some m)]))] R] [hR1 : MemRows a1 3 (crows wt.counts) R] [hK : MemF (MpF m kv) R] :
    FnV Tryz.prog 108 [.pointer (some ⟨bd, 0, none⟩)] H R (.tuple #[.agg #[.int .i64 0, .int .i64 0], .bool false]) := by
 have hnc := hw.nc
 refine Z8 Tryz.func108 rfl Tryz.ntmps108 rfl ?_
 refine sqt 2 rfl (alc rfl Z1f rfl (fun b2 => pur 1 rfl (Z9A (sqt 1 rfl (alc rfl Z1f rfl (fun b4 => sqt 1 rfl (pur 1 rfl (Z0 (Zac (Z0 (sqt 7 rfl ?_)))))))))))
 refine Zg (a := a1) (sz := 3) (rows := crows wt.counts) (by intro h0; have h9 := congrArg List.length h0; rw [cr_len] at h9; have h8 : wt.counts.length = 0 := h9; omega) (fun bf of he => ?_)
 subst he
 refine pur 1 rfl (sp rfl (PE.nilCheck rfl) rfl (sp rfl (PE.fA Z09 rfl) rfl (sp rfl (PE.fA Zv rfl) rfl (spL rfl rfl (lfB (sz := 15) ZV rfl) rfl (sp rfl (PE.lenSl Z0m rfl) rfl (pur 1 rfl (Z2 ?_)))))))
 refine Zb (ι := {f : Nat // f ≤ wt.counts.length}) (fun f => ⟨[(0, .pointer (some ⟨bd, 0, none⟩)), (2, .pointer (some ⟨b2, 0, none⟩)), (4, .pointer (some ⟨b4, 0, none⟩)), (5, .bool false), (14, .slice (some ⟨bf, of, none⟩) wt.counts.length k1), (15, .int .i64 wt.counts.length), (16, .int .i64 f.1)], (b4, cel 195 [.int .i64 0, .int .i64 0]) :: (b2, cel 195 [.int .i64 0, .int .i64 0]) :: H, R⟩) (fun f => wt.counts.length - f.1) ⟨0, Nat.zero_le _⟩ ?_ (fun f => ?_)
 exact Zf idH
 obtain ⟨f, hf⟩ := f
 dsimp only at hf ⊢
 refine sqt 1 rfl (pur 1 rfl (Z0 ?_))
 refine Z1 rfl ?_ ?_ <;> intro hc0
 try simp only [cS] at hc0
 have hcf : wt.counts[f]? = some (wt.cn f) := Z0c (by omega)
 refine Z3 (Z0 (Z2 (sqt 6 rfl (pur 1 rfl (sp rfl (PE.indexAddr Z5Y rfl rfl (by omega) (by omega)) rfl (spL rfl rfl (lfA Z3b (row := crow (wt.cn f)) (ZP hcf) rfl) rfl (alc rfl Z2p rfl (fun b7 => pur 1 rfl ?_))))))))
 refine sto rfl rfl rfl Zd3 rfl rfl rfl rfl ?_
 refine sqt 3 rfl (pur 1 rfl (sp rfl (PE.add rfl rfl (by omega)) rfl (pur 1 rfl (Z2 ?_))))
 refine Zb (ι := {t : Nat // f + 1 ≤ t ∧ t ≤ wt.counts.length}) (fun t => ⟨[(0, .pointer (some ⟨bd, 0, none⟩)), (2, .pointer (some ⟨b2, 0, none⟩)), (4, .pointer (some ⟨b4, 0, none⟩)), (5, .bool false), (14, .slice (some ⟨bf, of, none⟩) wt.counts.length k1), (15, .int .i64 wt.counts.length), (16, .int .i64 f), (6, .int .i64 f), (7, .pointer (some ⟨b7, 0, none⟩)), (8, .int .i64 t.1)], (b7, cel 89 (crow (wt.cn f))) :: (b4, cel 195 [.int .i64 0, .int .i64 0]) :: (b2, cel 195 [.int .i64 0, .int .i64 0]) :: H, R⟩) (fun t => wt.counts.length - t.1) ⟨f + 1, Nat.le_refl _, by omega⟩ ?_ (fun t => ?_)
 exact Zf idH
 obtain ⟨t, ht1, ht2⟩ := t
 dsimp only at ht1 ht2 ⊢
 refine Z0 (sqt 8 rfl (pur 2 rfl (sp rfl (PE.nilCheck rfl) rfl (sp rfl (PE.fA Z09 rfl) rfl (sp rfl (PE.fA Zv rfl) rfl (spL rfl rfl (lfB (sz := 15) ZV rfl) rfl (sp rfl (PE.lenSl Z0m rfl) rfl (pur 1 rfl ?_))))))))
 refine Z1 rfl ?_ ?_ <;> intro hc1
 try simp only [cS] at hc1
 have hct : wt.counts[t]? = some (wt.cn t) := Z0c (by omega)
 obtain ⟨hnb1, hnb2⟩ := Z8t hcl (f := f) (t := t) (by omega) (by omega)
 have hkw := hkv.at_ f t (by omega) (by omega)
 have hbd := Z9Q hw (f := f) (t := t) (by omega) (by omega)
 have h2 := Z6B hw (i := f) (by omega)
 have h3 := Z6B hw (i := t) (by omega)
 refine Z3 (Z0 (Z2 (sqt 5 rfl (pur 2 rfl (sp rfl (PE.build (out := [_, _]) Z9z Z1f rfl rfl) rfl (alc rfl Z1f rfl (fun b9 => ?_)))))))
 refine sto rfl rfl rfl Z2R rfl rfl rfl rfl ?_
 refine Z0 ?_
 refine Zc [0, 1, 3, 7, 15, 0, 63, 127, 255, 511, 0, 1024, 3072, 0, 0, 24576, 64512, 131071, 262143, 524287, 524287, 2097151, 4194303, 8388607, 16777215, 33554431, 67108863, 134217727, 16777215, 536870911, 1073741823, 2147483647, 4294967295] (tks 0 4 (.ld 4 (tks 5 4 (.ld 9 (.tk 10 (.tk 11 (.ld 12 (.tk 13 (.ld 14 (.big 15 (tks 16 4 (.ld 20 (.big 21 (tks 22 5 (.ld 27 (.ld 28 (.ld 29 (tks 30 3 .done)))))))))))))))))) Zo (by kernel_rfl) ?_
 refine Zd 1 rfl (tk rfl (PE.nilCheck rfl) rfl (tk rfl (PE.fA Z09 rfl) rfl (tk rfl (PE.fA Zv rfl) rfl (ld rfl rfl (lfB (sz := 15) ZV rfl) rfl (Zd 1 rfl (tk rfl (PE.indexAddr Z5Y rfl rfl (by omega) (by omega)) rfl (tk rfl (PE.fA Z2b rfl) rfl (tk rfl (PE.fA Z3u rfl) rfl (ld rfl rfl (lf (j := 1) (x := .int .i64 (wt.cn t).lo) sc3 (ZP hct) rfl) rfl (tk rfl (PE.fA Z2b rfl) rfl (tk rfl (PE.fA Z3m rfl) rfl (ld rfl rfl (lh sc3 rfl rfl) rfl (Zd 1 rfl (ld rfl rfl (lhA [_, _] Z02 rfl rfl rfl) rfl ?_))))))))))))))
 refine clV rfl ZaY rfl rfl (Z8L wt (some ⟨bf, of, none⟩) a2 a3 k1 k2 k3 hw bd m f t (by omega) (by omega) _ _) ?_
 refine bg (fun w hs => ⟨trivial, (lh sc3 rfl rfl) w hs, (lf (j := 1) (x := .int .i64 (wt.cn t).lo) sc3 (ZP hct) rfl) w hs, (lfB (sz := 15) ZV rfl) w hs, trivial⟩) ?_
 refine tk rfl (PE.add rfl rfl (by omega)) rfl (Zd 2 rfl ?_)
 refine Zk 54 rfl ?_ ?_ <;> intro g54
 exact absurd g54 (by simp; omega)
 refine Zd 1 rfl (ldG rfl rfl rfl rfl rfl (lhA [_, _] Z02 rfl rfl rfl) rfl ?_)
 refine Z3e rfl rfl rfl rfl Z6f rfl rfl (Z9u wt (some ⟨bf, of, none⟩) a2 a3 k1 k2 k3 hw bd m f t (by omega) (by omega) _ _) ?_
 refine bgT (Zd 2 rfl ?_)
 refine Zk 59 rfl ?_ ?_ <;> intro g59
 try simp only [cS] at g59
 have hnz := hnb2 g59
 refine Zd 1 rfl ?_
 refine tkG rfl rfl rfl rfl (PE.nilCheck rfl) rfl ?_
 refine tkG rfl rfl rfl rfl (PE.fA Z2H rfl) rfl ?_
 refine ldG rfl rfl rfl rfl rfl (lfB (sz := 15) Z78 (Z4q (by rw [(Z12 hw).len]; rfl))) rfl (ldG rfl rfl rfl rfl rfl (lhA [_, _] Z02 rfl rfl rfl) rfl ?_)
 refine ZhV rfl rfl rfl rfl rfl rfl (Z2s (b := true) kv [((f : Nat) : Int), ((t : Nat) : Int)] Z1Q (KeyT.of Z13 Z1T) (Z0Q zv3) rfl hkv.len (fun w hs => hs.now hK.mem) hkw) rfl ?_
 refine Zd 3 rfl ?_
 refine Z1 rfl ?_ ?_ <;> intro hc2
 first | (exfalso; revert hc2; simp; done) | (exfalso; revert hc2; simp [hnz])
 refine Z3 (sqr 3 rfl (pur 1 rfl (sp rfl (PE.add rfl rfl (by omega)) rfl (pur 1 rfl ?_))))
 exact Z6 ⟨t + 1, by omega, by omega⟩ (fun w h => h.del b9)
 refine Zd 3 rfl ?_
 repeat refine ldN rfl rfl rfl rfl rfl rfl rfl rfl ?_
 refine Zd 3 rfl ?_
 refine ZC rfl ?_
 refine Z3 (sqr 3 rfl (pur 1 rfl (sp rfl (PE.add rfl rfl (by omega)) rfl (pur 1 rfl ?_))))
 exact Z6 ⟨t + 1, by omega, by omega⟩ (fun w h => h.del b9)
 refine Z9 (Za (Za (Zl (sqr 2 rfl (sp rfl (PE.add rfl rfl (by omega)) rfl (pur 1 rfl ?_))))))
 exact Z6 ⟨f + 1, by omega⟩ (fun w h => h.del b7)
 refine Z9 (Za (Za (Zl (sqt 4 rfl (spL rfl rfl (lhA [_, _] Z02 rfl rfl rfl) rfl (pur 1 rfl ?_))))))
 refine sto rfl rfl rfl Z2R rfl rfl rfl rfl ?_
 refine pur 1 rfl (Z4 ?_)
 exact Zu (vs := [_, _]) rfl (.cons (RV.cell rfl (lhA [_, _] Z02 rfl rfl rfl)) (.cons (RV.tmp rfl) .nil)) rfl ⟨rfl, rfl, rfl⟩ (fun w h => (h.del b4).del b2)
theorem Z8B (wt : Wt) (a1 a2 a3 : Option Addr) (k1 k2 k3 : Nat) (hw : wt.ok) (hcl : wt.clash = false) (H : Z7) (R : Z5) [hR1 : MemRows a1 3 (crows wt.counts) R] [hR2 : MemRows a2 2 (bkrows wt.books) R] [hR3 : MemRows a3 3 (sprows wt.spells) R] :
    Fn Tryz.prog 51 [(wt.v a1 a2 a3 k1 k2 k3), .bool false] H R (fun v H' R' => ∃ (bd m : Nat) (kv : KV), v = .tuple #[.pointer (some ⟨bd, 0, none⟩), .int .i64 0] ∧ KvW wt kv ∧ H' = H ∧ R' = RowsA (some ⟨bd, 0, none⟩) 15 [(wtl wt a1 a2 a3 k1 k2 k3 ++ (Zh (wt.sums) ++ [.map (some m)]))] :: MpF m kv :: R) := by
 refine Z8 Tryz.func51 rfl Tryz.ntmps51 rfl ?_
 refine sqt 3 rfl (bx rfl rfl rfl (fun b2 => pur 2 rfl (sqt 7 rfl (spL rfl rfl (lhA (wtl wt a1 a2 a3 k1 k2 k3) Z17 rfl rfl rfl) rfl ?_))))
 refine cl rfl Zf8 rfl rfl (Z1A wt a1 a2 a3 k1 k2 k3 hw _ _) ?_
 rintro _ _ R1 ⟨bd, m, kv, rfl, hkv, rfl, hR1⟩
 subst hR1
 refine pur 5 rfl (Z0 (Z2 (sqt 3 rfl (pur 3 rfl ?_))))
 refine Z1 rfl ?_ ?_ <;> intro hc0
 exact absurd hc0 (by simp)
 refine sqt 2 rfl (pur 2 rfl ?_)
 refine Z1 rfl ?_ ?_ <;> intro hc1
 exact absurd hc1 (by simp)
 refine Z3 (Z0 (sqt 8 rfl (pur 1 rfl ?_)))
 refine clV rfl Zfv rfl rfl (Z8s wt a1 a2 a3 k1 k2 k3 hw bd m kv hkv hcl _ _) ?_
 refine pur 3 rfl (alc rfl Z1f rfl (fun b8 => ?_))
 refine sto rfl rfl rfl Z2R rfl rfl rfl rfl ?_
 refine pur 1 rfl (sqt 1 rfl (pur 1 rfl ?_))
 refine Z1 rfl ?_ ?_ <;> intro hc2
 exact absurd hc2 (by simp)
 refine Z3 (sqt 3 rfl (pur 3 rfl (Z4 ?_)))
 exact rtB rfl rfl rfl rfl ⟨bd, m, kv, rfl, hkv, rfl, rfl⟩ (fun w h => (h.del b8).del b2)
theorem Z60 : cal Tryz.prog 105 = true := by kernel_rfl
theorem Zfo : cal Tryz.prog 114 = true := by kernel_rfl
theorem Z66 : cal Tryz.prog 173 = true := by kernel_rfl
theorem Zdy : cal Tryz.prog 177 = true := by kernel_rfl
theorem Ze9 : cal Tryz.prog 204 = true := by kernel_rfl
theorem Z3F : elN Tryz.prog 137 = some 2 := by kernel_rfl
theorem ik5 : Z6S Tryz.prog 5 = some .u8 := by kernel_rfl
theorem Z4g : Z1W Tryz.prog 137 = true := by kernel_rfl
theorem Z9Y : Z9x Tryz.prog 9 = true := by kernel_rfl
theorem Z9q : (Tryz.prog.underlying 247).isSome = true := by kernel_rfl
theorem us5 : (Tryz.prog.underlying 5).isSome = true := by kernel_rfl
def Zp (l : List (Int × Int)) : List (List Value) := l.map fun x => [.int .i64 x.1, .int .i64 x.2]
theorem Z0b (l : List (Int × Int)) : (Zp l).length = l.length := List.length_map _
theorem Z2i (l : List (Int × Int)) : ∀ r ∈ Zp l, r.length = 2 := fun r hr => by obtain ⟨x, _, rfl⟩ := List.mem_map.1 hr; rfl
theorem Z8C {l : List (Int × Int)} {k : Nat} {x : Int × Int} (h : l[k]? = some x) : (Zp l)[k]? = some [.int .i64 x.1, .int .i64 x.2] := by simp [Zp, h]
theorem Z3Q {sz : Nat} {rows : List (List Value)} (hs : ∀ r ∈ rows, r.length = sz) {k : Nat} {row : List Value} (h : rows[k]? = some row) (junk : List Value) : ∃ rest, (rows.flatten ++ junk).drop (k * sz) = row ++ rest := by
  have hk := (List.getElem?_eq_some_iff.1 h).1
  have e : rows = rows.take k ++ row :: rows.drop (k + 1) := by
    conv => lhs; rw [← List.take_append_drop k rows]
    rw [List.drop_eq_getElem_cons hk, (List.getElem?_eq_some_iff.1 h).2]
  have hl : (rows.take k).flatten.length = k * sz := by rw [Z00 fun r hr => hs r (List.mem_of_mem_take hr), List.length_take, Nat.min_eq_left (by omega)]
  refine ⟨(rows.drop (k + 1)).flatten ++ junk, ?_⟩
  conv => lhs; rw [e]
  rw [List.flatten_append, List.flatten_cons, List.append_assoc, List.append_assoc, ← hl, List.drop_left]
theorem Z6d (A M B J row : List Value) (h : row.length = M.length) : spl ((A ++ (M ++ B)) ++ J) A.length row = (A ++ (row ++ B)) ++ J := by
  unfold spl
  rw [List.append_assoc A, List.take_left, List.drop_length_add_append, h, List.append_assoc M, List.drop_left]
  simp only [List.append_assoc]
theorem Z69 {sz : Nat} {rows : List (List Value)} (hs : ∀ r ∈ rows, r.length = sz) {k i : Nat} {row : List Value} (hk : k < rows.length) (hr : row.length = sz) (e : i = k * sz) (junk : List Value) : spl (rows.flatten ++ junk) i row = (rows.set k row).flatten ++ junk := by
  have hl : (rows.take k).flatten.length = k * sz := by rw [Z00 fun r hr => hs r (List.mem_of_mem_take hr), List.length_take, Nat.min_eq_left (by omega)]
  have e1 : rows.flatten = (rows.take k).flatten ++ (rows[k] ++ (rows.drop (k + 1)).flatten) := by
    conv => lhs; rw [← List.take_append_drop k rows]
    rw [List.drop_eq_getElem_cons hk, List.flatten_append, List.flatten_cons]
  have h2 : rows[k].length = sz := hs _ (List.getElem_mem hk)
  rw [List.set_eq_take_append_cons_drop, if_pos hk, List.flatten_append, List.flatten_cons, e1, e, ← hl]
  exact Z6d _ _ _ _ _ (by rw [hr, h2])
theorem Z7z (l : List (Int × Int)) (k : Nat) (x : Int × Int) : (Zp l).set k [.int .i64 x.1, .int .i64 x.2] = Zp (l.set k x) := by simp [Zp, List.map_set]
theorem Z1Z (l : List (Int × Int)) : (Zp l).flatten.length = l.length * 2 := by rw [Z00 (Z2i l), Z0b]
theorem Z4S (k : Nat) (hk : k ≤ 12) (H : Z7) (R : Z5) :
    Fn Tryz.prog 173 [.int .u64 k] H R (fun v H' R' => ∃ z : Int, v = .int .i64 z ∧ H' = H ∧ R' = R) := by
 refine Z8 Tryz.func173 rfl Tryz.ntmps173 rfl ?_
 refine sqt 1 rfl (pur 1 rfl (Z0 (sqt 2 rfl (pur 1 rfl (sp rfl (PE.geq  rfl rfl) rfl ?_)))))
 refine Z1 rfl ?_ ?_ <;> intro hc0
 simp only [decide_eq_true_eq] at hc0
 omega
 refine Z3 (Z0 (sqt 2 rfl (pur 1 rfl (sp rfl (PE.geq  rfl rfl) rfl ?_))))
 refine Z1 rfl ?_ ?_ <;> intro hc1
 simp only [decide_eq_true_eq] at hc1
 omega
 refine Z3 (Z0 (sqt 2 rfl (pur 1 rfl (sp rfl (PE.geq  rfl rfl) rfl ?_))))
 refine Z1 rfl ?_ ?_ <;> intro hc2
 simp only [decide_eq_true_eq] at hc2
 omega
 refine Z3 (sqt 7 rfl (pur 2 rfl ?_))
 refine sp rfl ((PE.convert Z9q ik5 rfl).to (by rw [Z24 (by omega) (by omega)])) rfl ?_
 refine spE rfl (PE.indexS (m := 256) Z9Y rfl rfl (by kernel_rfl) (by omega)) rfl ?_
 rintro _ ⟨u22, rfl, hu22⟩
 refine sp rfl (PE.conv64 us5 ik3 rfl (by omega)) rfl (sp rfl (PE.add rfl rfl (by omega)) rfl (pur 1 rfl (Z4 ?_)))
 exact rtA rfl rfl rfl ⟨_, rfl, rfl, rfl⟩ idH
theorem ZcR (k : Nat) (hk : k ≤ 12) (H : Z7) (R : Z5) :
    Fn Tryz.prog 105 [.int .u64 k] H R (fun v H' R' => ∃ z : Int, v = .int .i64 z ∧ H' = H ∧ R' = R) := by
 refine Z8 Tryz.func105 rfl Tryz.ntmps105 rfl ?_
 refine sqt 1 rfl (pur 1 rfl (Z0 ?_))
 refine ZC rfl ?_
 refine Z3 (sqt 3 rfl (pur 1 rfl ?_))
 refine cl rfl Z66 rfl rfl (Z4S k hk _ _) ?_
 rintro _ _ R1 ⟨z, rfl, rfl, hR1⟩
 obtain rfl := hR1.symm
 clear hR1
 refine pur 1 rfl (Z4 ?_)
 exact rtA rfl rfl rfl ⟨_, rfl, rfl, rfl⟩ idH
theorem Zdq (x y : Int × Int) (H : Z7) (R : Z5) :
    Fn Tryz.prog 114 [.agg #[.int .i64 x.1, .int .i64 x.2], .agg #[.int .i64 y.1, .int .i64 y.2]] H R (fun v H' R' => ∃ z : Int, v = .int .i64 z ∧ H' = H ∧ R' = R) := by
 refine Z8 Tryz.func114 rfl Tryz.ntmps114 rfl ?_
 refine sqt 3 rfl (bx rfl rfl rfl (fun b2 => bx rfl rfl rfl (fun b3 => pur 1 rfl (sqt 13 rfl (sp rfl (PE.fA Z0S rfl) rfl (spL rfl rfl (lh sc3 rfl rfl) rfl (sp rfl (PE.fA Z0S rfl) rfl (spL rfl rfl (lh sc3 rfl rfl) rfl (sp rfl (PE.subW rfl rfl) rfl (sp rfl (PE.mulW rfl rfl) rfl (sp rfl (PE.fA Z0M rfl) rfl (spL rfl rfl (lh sc3 rfl rfl) rfl (sp rfl (PE.addW rfl rfl) rfl (sp rfl (PE.fA Z0M rfl) rfl (spL rfl rfl (lh sc3 rfl rfl) rfl ?_)))))))))))))))
 refine sp rfl (PE.subW rfl rfl) rfl (pur 1 rfl (Z4 ?_))
 exact rtA rfl rfl rfl ⟨_, rfl, rfl, rfl⟩ drp
theorem ZeK (l : List (Int × Int)) (n b cap : Nat) (junk : List Value) (hl : l.length = n) (hn : n ≤ 12) (H : Z7) (R : Z5) :
    Fn Tryz.prog 204 [.slice (some ⟨b, 0, none⟩) n cap, .int .i64 0, .int .i64 n, .func (.func 114) #[] #[]] ((b, cel 195 ((Zp l).flatten ++ junk)) :: H) R (fun v H' R' => v = .tuple #[] ∧ H' = H ∧ R' = R) := by
 refine Z8 Tryz.func204 rfl Tryz.ntmps204 rfl ?_
 refine sqt 3 rfl (pur 1 rfl (sp rfl (PE.add rfl rfl (by omega)) rfl (pur 1 rfl (Z2 ?_))))
 refine Zb (ι := {x : Nat × List (Int × Int) // 1 ≤ x.1 ∧ x.1 ≤ 13 ∧ x.2.length = n}) (fun x => ⟨[(0, .slice (some ⟨b, 0, none⟩) n cap), (1, .int .i64 0), (2, .int .i64 n), (3, .func (.func 114) #[] #[]), (8, .int .i64 x.1.1)], (b, cel 195 ((Zp x.1.2).flatten ++ junk)) :: H, R⟩) (fun x => n - x.1.1) ⟨(1, l), by omega, by omega, hl⟩ ?_ (fun x => ?_)
 exact Zf idH
 obtain ⟨⟨i, xs⟩, hi1, hi2, hxl⟩ := x
 dsimp only at hi1 hi2 hxl ⊢
 refine Z0 (sqt 3 rfl (pur 3 rfl ?_))
 refine Z1 rfl ?_ ?_ <;> intro hc0
 try simp only [cS] at hc0
 refine Z3 (Z0 (Z2 (sqt 2 rfl (pur 2 rfl (Z2 ?_)))))
 refine Zb (ι := {x : Nat × List (Int × Int) // x.1 ≤ i ∧ x.2.length = n}) (fun x => ⟨[(0, .slice (some ⟨b, 0, none⟩) n cap), (1, .int .i64 0), (2, .int .i64 n), (3, .func (.func 114) #[] #[]), (8, .int .i64 i), (9, .int .i64 x.1.1)], (b, cel 195 ((Zp x.1.2).flatten ++ junk)) :: H, R⟩) (fun x => x.1.1) ⟨(i, xs), Nat.le_refl _, hxl⟩ ?_ (fun x => ?_)
 exact Zf idH
 obtain ⟨⟨j, ys⟩, hji, hyl⟩ := x
 dsimp only at hji hyl ⊢
 refine Z0 (Z0 ?_)
 refine Zc [0, 0, 3, 7, 15, 15, 15, 111, 239, 15, 15, 1039, 3599, 7695, 16383, 32767, 65535] (tks 0 8 (.ld 8 (tks 9 4 (.ld 13 (.big 14 (.tk 15 (.tk 16 .done))))))) Zo (by kernel_rfl) ?_
 refine Zd 4 rfl ?_
 refine Zk 21 rfl ?_ ?_ <;> intro g21
 try simp only [cS] at g21
 obtain ⟨x, hx⟩ : ∃ x, ys[j]? = some x := ⟨_, List.getElem?_eq_getElem (by omega)⟩
 obtain ⟨y, hy⟩ : ∃ y, ys[j - 1]? = some y := ⟨_, List.getElem?_eq_getElem (by omega)⟩
 obtain ⟨rx, hrx⟩ : ∃ rest, ((Zp ys).flatten ++ junk).drop (0 + ((j : Nat) : Int).toNat * 2) = [.int .i64 x.1, .int .i64 x.2] ++ rest := by rw [Nat.zero_add, Int.toNat_natCast]; exact Z3Q (Z2i ys) (Z8C hx) junk
 obtain ⟨ry, hry⟩ : ∃ rest, ((Zp ys).flatten ++ junk).drop (0 + ((j - 1 : Nat) : Int).toNat * 2) = [.int .i64 y.1, .int .i64 y.2] ++ rest := by rw [Nat.zero_add, Int.toNat_natCast]; exact Z3Q (Z2i ys) (Z8C hy) junk
 refine Zd 3 rfl ?_
 refine tkG rfl rfl rfl rfl (PE.indexAddr Z3F rfl rfl (by omega) (by omega)) rfl ?_
 refine ldG rfl rfl rfl rfl rfl (lhA [.int .i64 x.1, .int .i64 x.2] Z02 rfl (rest := rx) hrx rfl) rfl (Zd 2 rfl ?_)
 refine tkG rfl rfl rfl rfl (PE.sub rfl rfl (by omega)) rfl ?_
 rw [show (j : Int) - 1 = ((j - 1 : Nat) : Int) from by omega]
 refine tkG rfl rfl rfl rfl (PE.indexAddr Z3F rfl rfl (by omega) (by omega)) rfl ?_
 refine ldG rfl rfl rfl rfl rfl (lhA [.int .i64 y.1, .int .i64 y.2] Z02 rfl (rest := ry) hry rfl) rfl ?_
 refine ZhS rfl rfl rfl rfl rfl (Zfo) rfl rfl (Zdq x y _ _) ?_
 rintro _ _ R1 ⟨z, rfl, rfl, hR1⟩
 obtain rfl := hR1.symm
 clear hR1
 refine bgT (Zd 2 rfl ?_)
 refine Z1 rfl ?_ ?_ <;> intro hc1
 refine Z3 (Z0 (Z2 ?_))
 refine Zc [0, 0, 0, 0, 8, 0, 0, 64, 224, 480, 0, 0, 3072, 7168, 16355, 32739, 65535, 131071] (tks 0 9 (.ld 9 (tks 10 3 (.ld 13 (.tk 14 (.big 15 (.tk 16 (.big 17 .done)))))))) Zo (by kernel_rfl) ?_
 refine Zd 4 rfl (tk rfl (PE.sub rfl rfl (by omega)) rfl (Zd 2 rfl (tk rfl (PE.sub rfl rfl (by omega)) rfl ?_)))
 rw [show (j : Int) - 1 = ((j - 1 : Nat) : Int) from by omega]
 refine tk rfl (PE.indexAddr Z3F rfl rfl (by omega) (by omega)) rfl (ld rfl rfl (lhA [.int .i64 y.1, .int .i64 y.2] Z02 rfl (rest := ry) hry rfl) rfl (Zd 2 rfl (tk rfl (PE.indexAddr Z3F rfl rfl (by omega) (by omega)) rfl (ld rfl rfl (lhA [.int .i64 x.1, .int .i64 x.2] Z02 rfl (rest := rx) hrx rfl) rfl (tk rfl (PE.indexAddr Z3F rfl rfl (by omega) (by omega)) rfl ?_)))))
 refine Z01 (l := (Zp (ys)).flatten ++ junk) (l' := (Zp ((ys).set j y)).flatten ++ junk) rfl rfl rfl Z2R rfl rfl rfl (by rw [← Z7z (ys) j y]; exact Z69 (k := j) (rows := Zp (ys)) (Z2i _) (by rw [Z0b]; omega) rfl (by rw [Nat.zero_add, Int.toNat_natCast]) junk) (by show 0 + ((j : Nat) : Int).toNat * 2 + 2 ≤ ((Zp (ys)).flatten ++ junk).length; rw [List.length_append, Z1Z, Int.toNat_natCast]; omega) ?_
 refine bgT (tk rfl (PE.indexAddr Z3F rfl rfl (by omega) (by omega)) rfl ?_)
 refine Z01 (l := (Zp (ys.set j y)).flatten ++ junk) (l' := (Zp ((ys.set j y).set (j - 1) x)).flatten ++ junk) rfl rfl rfl Z2R rfl rfl rfl (by rw [← Z7z (ys.set j y) (j - 1) x]; exact Z69 (k := (j - 1)) (rows := Zp (ys.set j y)) (Z2i _) (by rw [Z0b, List.length_set]; omega) rfl (by rw [Nat.zero_add, Int.toNat_natCast]) junk) (by show 0 + (((j - 1) : Nat) : Int).toNat * 2 + 2 ≤ ((Zp (ys.set j y)).flatten ++ junk).length; rw [List.length_append, Z1Z, List.length_set, Int.toNat_natCast]; omega) ?_
 refine bgT (sqr 3 rfl (pur 1 rfl (sp rfl (PE.sub rfl rfl (by omega)) rfl (pur 1 rfl ?_))))
 rw [show (j : Int) - 1 = ((j - 1 : Nat) : Int) from by omega]
 exact Z6 ⟨(j - 1, (ys.set j y).set (j - 1) x), by dsimp only; omega, by simp [hyl]⟩ idH
 refine Z9 (Za (Za (Zl (sqr 3 rfl (pur 1 rfl (sp rfl (PE.add rfl rfl (by omega)) rfl (pur 1 rfl ?_)))))))
 exact Z6 ⟨(i + 1, ys), by dsimp only; omega, by dsimp only; omega, hyl⟩ idH
 refine Zd 4 rfl ?_
 refine ldN rfl rfl rfl rfl rfl rfl rfl rfl ?_
 refine Zd 4 rfl ?_
 refine ldN rfl rfl rfl rfl rfl rfl rfl rfl ?_
 refine spN rfl rfl rfl rfl rfl rfl rfl rfl ?_
 refine bgT (Zd 2 rfl ?_)
 refine ZC rfl ?_
 refine Z9 (Za (Za (Zl (sqr 3 rfl (pur 1 rfl (sp rfl (PE.add rfl rfl (by omega)) rfl (pur 1 rfl ?_)))))))
 exact Z6 ⟨(i + 1, ys), by dsimp only; omega, by dsimp only; omega, hyl⟩ idH
 refine Z9 (Za (Za (Zl ?_)))
 exact Z0l (vs := []) rfl .nil rfl ⟨rfl, rfl, rfl⟩ (fun w h => h.tail)
theorem Zez (H : Z7) (R : Z5) :
    FnV Tryz.prog 204 [.slice none 0 0, .int .i64 0, .int .i64 ((0 : Nat) : Int), .func (.func 114) #[] #[]] H R (.tuple #[]) := by
 refine Z8 Tryz.func204 rfl Tryz.ntmps204 rfl ?_
 refine sqt 3 rfl (pur 1 rfl (sp rfl (PE.add rfl rfl (by omega)) rfl (pur 1 rfl (Z2 ?_))))
 refine Zb (ι := Unit) (fun _ => ⟨[(2, .int .i64 ((0 : Nat) : Int)), (8, .int .i64 1)], H, R⟩) (fun x => 0) () ?_ (fun x => ?_)
 exact Zf idH
 refine Z0 (sqt 3 rfl (pur 3 rfl ?_))
 refine Z1 rfl ?_ ?_ <;> intro hc0
 exact absurd hc0 (by simp)
 refine Z9 (Za (Za (Zl ?_)))
 exact Z0l (vs := []) rfl .nil rfl ⟨rfl, rfl, rfl⟩ idH
theorem Zg5 (l : List (Int × Int)) (o : OSl 195 2 (Zp l)) (hl : l.length ≤ 12) (H : Z7) (R : Z5) : Fn Tryz.prog 204 [o.fs, .int .i64 0, .int .i64 l.length, .func (.func 114) #[] #[]] (o.G ++ H) R (fun v H' R' => v = .tuple #[] ∧ H' = H ∧ R' = R) := by
  rcases o.is with ⟨h1, h2, h3⟩ | ⟨b, cap, junk, h2, h3, hj, hc, hm⟩
  · have hx : l = [] := List.map_eq_nil_iff.1 h1
    subst hx
    rw [h2, h3]
    exact Zez H R
  · rw [Z0b] at h2
    rw [h2, h3]
    exact ZeK l l.length b cap junk rfl hl H R
theorem Zhh (l : List (Int × Int)) (o : OSl 195 2 (Zp l)) (hl : l.length ≤ 12) (z : Int) (H : Z7) (R : Z5) :
    Fn Tryz.prog 177 [o.fs, .int .i64 0, .int .i64 l.length, .int .i64 z, .func (.func 114) #[] #[]] (o.G ++ H) R (fun v H' R' => v = .tuple #[] ∧ H' = H ∧ R' = R) := by
 refine Z8 Tryz.func177 rfl Tryz.ntmps177 rfl ?_
 refine sqt 1 rfl (pur 1 rfl (sqt 1 rfl (pur 1 rfl (Z2 ?_))))
 refine Zb (ι := Unit) (fun _ => ⟨[(0, o.fs), (1, .int .i64 0), (2, .int .i64 l.length), (4, .func (.func 114) #[] #[])], o.G ++ H, R⟩) (fun x => 0) () ?_ (fun x => ?_)
 exact Zf idH
 refine Z2 (sqt 4 rfl (pur 2 rfl (sp rfl (PE.sub rfl rfl (by omega)) rfl (pur 1 rfl (Z0 (sqt 2 rfl (pur 2 rfl ?_)))))))
 refine Z1 rfl ?_ ?_ <;> intro hc0
 refine sqt 5 rfl (pur 4 rfl ?_)
 refine cl rfl Ze9 rfl rfl (Zg5 l o hl _ _) ?_
 rintro _ _ R1 ⟨rfl, rfl, hR1⟩
 obtain rfl := hR1.symm
 clear hR1
 refine Z4 ?_
 exact Zu (vs := []) rfl .nil rfl ⟨rfl, rfl, rfl⟩ idH
 simp only [decide_eq_false_iff_not] at hc0
 omega
theorem ZcF (l : List (Int × Int)) (o : OSl 195 2 (Zp l)) (hl : l.length ≤ 12) (H : Z7) (R : Z5) :
    Fn Tryz.prog 113 [o.fs, .func (.func 114) #[] #[]] (o.G ++ H) R (fun v H' R' => v = .tuple #[] ∧ H' = H ∧ R' = R) := by
 obtain ⟨a, c, he⟩ : ∃ a c, o.fs = .slice a l.length c := by
   rcases o.is with ⟨h1, h2, _⟩ | ⟨b, c, j, h, _⟩
   · exact ⟨none, 0, by rw [h2, show l = [] from List.map_eq_nil_iff.1 h1]; rfl⟩
   · rw [Z0b] at h; exact ⟨_, _, h⟩
 refine Z8 Tryz.func113 rfl Tryz.ntmps113 rfl ?_
 refine sqt 3 rfl (pur 1 rfl (sp rfl (PE.lenSl Z4g (congrArg some he)) rfl (pur 1 rfl (sqr 7 rfl (pur 3 rfl ?_)))))
 refine sp rfl ((PE.convert us3 Z6X rfl).to (by rw [Z0J (by omega) (by omega)])) rfl ?_
 refine cl rfl Z60 rfl rfl (ZcR l.length hl _ _) ?_
 rintro _ _ R1 ⟨z, rfl, rfl, hR1⟩
 obtain rfl := hR1.symm
 clear hR1
 refine pur 1 rfl ?_
 refine cl rfl Zdy rfl rfl (Zhh l o hl z _ _) ?_
 rintro _ _ R1 ⟨rfl, rfl, hR1⟩
 obtain rfl := hR1.symm
 clear hR1
 exact Z0l (vs := []) rfl .nil rfl ⟨rfl, rfl, rfl⟩ idH
end Go.Proofs.YtjoajfdnlomapaaGreat.Hn
