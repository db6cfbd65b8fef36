/- Walks of the functions of the program: what each returns and leaves in memory, under the conditions that its theorem names. -/
import Derived.Test.YtaldphhdkmchhaaTy
import Derived.Test.YtaldphhdkmchhaaMa
import Derived.Test.YtaldphhdkmchhaaWk27
import Derived.Test.YtaldphhdkmchhaaMl
namespace Go.Proofs.Ytaldphhdkmchhaa
set_option linter.unusedSimpArgs false
set_option linter.unusedVariables false
open Go
theorem cal73 : cal Try.prog 73 = true := by kernel_rfl
theorem badAt_snoc {l : List Rn} {x : Rn} (h : ∀ i, badAt l i = false) (hx : ∀ q ∈ l, x.sacks < q.sacks ∧ q.price < x.price) : ∀ i, badAt (l ++ [x]) i = false := fun i => by
  rcases Nat.lt_trichotomy (i + 1) l.length with h1 | h1 | h1
  · have := h i
    unfold badAt at this ⊢
    rw [List.getElem?_append_left (by omega), List.getElem?_append_left (by omega)]; exact this
  · obtain ⟨q, hq⟩ : ∃ q, l[i]? = some q := ⟨_, List.getElem?_eq_getElem (by omega)⟩
    have h2 := hx q (List.mem_of_getElem? hq)
    unfold badAt
    rw [List.getElem?_append_left (by omega), hq, List.getElem?_append_right (by omega), show i + 1 - l.length = 0 from by omega]
    simp only [List.getElem?_cons_zero]
    rw [decide_eq_false (by omega), decide_eq_false (by omega)]; rfl
  · unfold badAt
    rw [List.getElem?_eq_none (l := l ++ [x]) (i := i + 1) (by simp; omega)]
    split <;> simp_all
/-- Rations as they are made. -/
structure RatI (l : List Rn) (k : Nat) (sk pr : Int) : Prop where
  len : l.length ≤ k
  one : 0 < k → 1 ≤ l.length
  slo : -3 * k ≤ sk ∧ sk ≤ 7
  phi : 0 ≤ pr ∧ pr ≤ 19 + 9 * k
  q : ∀ q ∈ l, (0 ≤ q.sacks ∧ q.sacks ≤ 7 ∧ 0 ≤ q.price ∧ q.price ≤ 100) ∧ sk < q.sacks ∧ q.price < pr
  bad : ∀ i, badAt l i = false
  zero : k = 0 → 0 ≤ sk
theorem RatI.more {l : List Rn} {k : Nat} {sk pr a b : Int} (h : RatI l k sk pr) (hk : k < 4) (h0 : 0 ≤ sk) (ha : 1 ≤ a ∧ a ≤ 3) (hb : 1 ≤ b ∧ b ≤ 9) : RatI (l ++ [⟨sk, pr⟩]) (k + 1) (sk - a) (pr + b) := by
  have h1 := h.slo
  have h2 := h.phi
  have h3 := h.len
  refine ⟨by simp; omega, fun _ => by simp, by omega, by omega, fun q hq => ?_, badAt_snoc h.bad (fun q hq => (h.q q hq).2), fun h => by omega⟩
  rcases List.mem_append.1 hq with hq | hq
  · have := h.q q hq; omega
  · simp only [List.mem_singleton] at hq; subst hq; simp only; omega
theorem RatI.less {l : List Rn} {k : Nat} {sk pr a b : Int} (h : RatI l k sk pr) (hk : k < 4) (h0 : sk < 0) (ha : 1 ≤ a ∧ a ≤ 3) (hb : 1 ≤ b ∧ b ≤ 9) : RatI l (k + 1) (sk - a) (pr + b) := by
  have h1 := h.slo
  have h2 := h.phi
  have h3 := h.len
  refine ⟨by omega, fun _ => h.one ?_, by omega, by omega, fun q hq => by have := h.q q hq; omega, h.bad, fun h => by omega⟩
  rcases Nat.eq_zero_or_pos k with h4 | h4
  · have := h.zero h4; omega
  · exact h4

theorem c_Made (g : List Int) (ag : Option Addr) (cg bk : Nat) (hgl : g.length ≤ 9223372036854775807) (tq mx : Int) (htq : 0 ≤ tq ∧ tq ≤ 1000000) (hmx : 0 ≤ mx ∧ mx ≤ 4294967295) (hs : Int) (hhs : 4 ≤ hs ∧ hs ≤ 30) (H : Heap) (R : Facts) [hG : MemRows ag 1 (urows g) R] :
    Fn Try.prog 46 [.pointer (some ⟨bk, 0, none⟩), .int .i64 hs] ((bk, cel 168 [.slice ag g.length cg, .int .i64 (tq), .int .u32 (mx)]) :: H) R (fun v H' R' => ∃ (t : Twn) (ba oa ca : Nat) (tq' mx' : Int), MadeOk t hs ∧ v = t.v (t.sl (some ⟨ba, oa, none⟩) ca) ∧ (tq ≤ tq' ∧ tq' ≤ tq + 40) ∧ (0 ≤ mx' ∧ mx' ≤ 4294967295) ∧
      H' = (bk, cel 168 [.slice ag g.length cg, .int .i64 (tq'), .int .u32 (mx')]) :: H ∧ R' = RowsA (some ⟨ba, oa, none⟩) 2 (rrows t.rats) :: R) := by
  refine fn_of Try.func46 rfl Try.ntmps46 rfl ?_
  refine sy_seq ?_
  refine sy_tx' [0] rfl ?_
  refine sy_sq ?_
  refine alc rfl zl26 rfl (fun b4 => ?_)
  refine sy_sn ?_
  refine sy_nx ?_
  refine sy_seq ?_
  refine sy_tx' [0, 1, 2, 3, 4, 5, 6, 7, 8, 9, 10, 11, 12, 13, 14, 15, 16, 17] rfl ?_
  refine sy_sq ?_
  refine sp rfl (PE.move rfl) rfl ?_
  refine sy_sq ?_
  refine sp rfl (PE.move rfl) rfl ?_
  refine sy_sq ?_
  refine sy_pull bk ?_
  refine cl rfl cal73 rfl rfl (c_Among g ag cg bk hgl _ _ (by omega) (by assumption) (4) (hs) (by first | omega | (dsimp only; omega)) _ _) ?_
  rintro _ _ R1 ⟨x10, m10, hx10, rfl, hm10, rfl, hR1⟩
  obtain rfl := hR1.symm
  refine sy_sq ?_
  refine sp rfl (PE.move rfl) rfl ?_
  refine sy_sq ?_
  refine cl rfl cal73 rfl rfl (c_Among g ag cg bk hgl _ _ (by omega) (by assumption) (1) (6) (by first | omega | (dsimp only; omega)) _ _) ?_
  rintro _ _ R1 ⟨x12, m12, hx12, rfl, hm12, rfl, hR1⟩
  obtain rfl := hR1.symm
  refine sy_sq ?_
  refine sp rfl (PE.move rfl) rfl ?_
  refine sy_sq ?_
  refine cl rfl cal48 rfl rfl (c_Below g ag cg bk hgl _ _ (by omega) (by assumption) (3) _ _) ?_
  rintro _ _ R1 ⟨x14, m14, hx14, rfl, hm14, rfl, hR1⟩
  obtain rfl := hR1.symm
  refine sy_sq ?_
  refine sp rfl (PE.move rfl) rfl ?_
  refine sy_sq ?_
  refine cl rfl cal48 rfl rfl (c_Below g ag cg bk hgl _ _ (by omega) (by assumption) (4) _ _) ?_
  rintro _ _ R1 ⟨x16, m16, hx16, rfl, hm16, rfl, hR1⟩
  obtain rfl := hR1.symm
  refine sy_sq ?_
  refine sp rfl (PE.move rfl) rfl ?_
  refine sy_sq ?_
  refine cl rfl cal48 rfl rfl (c_Below g ag cg bk hgl _ _ (by omega) (by assumption) (9) _ _) ?_
  rintro _ _ R1 ⟨x18, m18, hx18, rfl, hm18, rfl, hR1⟩
  obtain rfl := hR1.symm
  refine sy_sq ?_
  refine sp rfl (PE.quo rfl rfl (by omega)) rfl ?_
  refine sy_sq ?_
  refine sp rfl (PE.move rfl) rfl ?_
  refine sy_sq ?_
  refine cl rfl cal48 rfl rfl (c_Below g ag cg bk hgl _ _ (by omega) (by assumption) (3) _ _) ?_
  rintro _ _ R1 ⟨x21, m21, hx21, rfl, hm21, rfl, hR1⟩
  obtain rfl := hR1.symm
  refine sy_sq ?_
  have hm22 := mul_b (a := x18 / 5) (b := x21) (A := 1) (B := 2) (by omega) (by omega) (by omega) (by omega)
  refine sp rfl (PE.mul rfl rfl (by omega)) rfl ?_
  refine sy_sq ?_
  refine sp rfl (PE.build (out := twl ⟨⟨0, 0, 0⟩, x10, x12, x14, x16, 0, 0, x18 / 5 * x21, []⟩ (.slice none 0 0)) pl26 zl26 rfl (by kernel_rfl)) rfl ?_
  refine sy_sq ?_
  refine alc rfl zl26 rfl (fun b5 => ?_)
  refine sy_sq ?_
  refine sto rfl rfl rfl cn26 rfl rfl rfl rfl ?_
  refine sy_sn ?_
  refine sy_nx ?_
  refine sy_seq ?_
  refine sy_tx' [0, 1, 2, 3, 4, 5, 6, 7, 8] rfl ?_
  refine sy_sq ?_
  refine sp rfl (PE.move rfl) rfl ?_
  refine sy_sq ?_
  refine sp rfl (PE.fieldAddr fo26_2 rfl) rfl ?_
  refine sy_sq ?_
  refine spL rfl rfl (lh sc3 rfl rfl) rfl ?_
  refine sy_sq ?_
  refine sp rfl (PE.fieldAddr fo26_2 rfl) rfl ?_
  refine sy_sq ?_
  refine spL rfl rfl (lh sc3 rfl rfl) rfl ?_
  refine sy_sq ?_
  refine sp rfl (PE.add rfl rfl (by first | omega | (dsimp only; omega))) rfl ?_
  refine sy_sq ?_
  refine sy_pull bk ?_
  refine cl rfl cal73 rfl rfl (c_Among g ag cg bk hgl _ _ (by omega) (by assumption) (x12) (x12 + 4) (by first | omega | (dsimp only; omega)) _ _) ?_
  rintro _ _ R1 ⟨x30, m30, hx30, rfl, hm30, rfl, hR1⟩
  obtain rfl := hR1.symm
  refine sy_sq ?_
  refine sp rfl (PE.fieldAddr fo26_5 rfl) rfl ?_
  refine sy_sq ?_
  refine sto rfl rfl rfl cn3 rfl rfl rfl rfl ?_
  refine sy_sn ?_
  refine sy_nx ?_
  refine sy_seq ?_
  refine sy_tx' [0, 1, 2, 3, 4, 5, 6] rfl ?_
  refine sy_sq ?_
  refine sp rfl (PE.move rfl) rfl ?_
  refine sy_sq ?_
  refine sp rfl (PE.fieldAddr fo26_2 rfl) rfl ?_
  refine sy_sq ?_
  refine spL rfl rfl (lh sc3 rfl rfl) rfl ?_
  refine sy_sq ?_
  refine sp rfl (PE.add rfl rfl (by first | omega | (dsimp only; omega))) rfl ?_
  refine sy_sq ?_
  refine cl rfl cal48 rfl rfl (c_Below g ag cg bk hgl _ _ (by omega) (by assumption) (x12 + 1) _ _) ?_
  rintro _ _ R1 ⟨x36, m36, hx36, rfl, hm36, rfl, hR1⟩
  obtain rfl := hR1.symm
  refine sy_sq ?_
  refine sp rfl (PE.fieldAddr fo26_6 rfl) rfl ?_
  refine sy_sq ?_
  refine sto rfl rfl rfl cn3 rfl rfl rfl rfl ?_
  refine sy_sn ?_
  refine sy_nx ?_
  refine sy_seq ?_
  refine sy_draw [0, 1, 0, 4, 12, 31, 0, 76, 255, 511] (.tk 0 (.ld 1 (.tk 2 (.tk 6 (.big 3 (.tk 4 (.tk 5 (.big 7 (.tk 8 (.tk 9 .done)))))))))) mixed (by kernel_rfl) ?_
  refine tk rfl (PE.fieldAddr fo26_2 rfl) rfl ?_
  refine ld rfl rfl (lh sc3 rfl rfl) rfl ?_
  refine tk rfl (PE.move rfl) rfl ?_
  refine tk rfl (PE.move rfl) rfl ?_
  refine sy_bg ?_
  refine cl rfl cal48 rfl rfl (c_Below g ag cg bk hgl _ _ (by omega) (by assumption) (3) _ _) ?_
  rintro _ _ R1 ⟨x41, m41, hx41, rfl, hm41, rfl, hR1⟩
  obtain rfl := hR1.symm
  refine bg (fun w hs => ⟨(lh sc3 rfl rfl) w hs, trivial⟩) ?_
  refine tk rfl (PE.quo rfl rfl (by omega)) rfl ?_
  refine tk rfl (PE.add rfl rfl (by first | omega | (dsimp only; omega))) rfl ?_
  refine sy_bg ?_
  refine cl rfl cal48 rfl rfl (c_Below g ag cg bk hgl _ _ (by omega) (by assumption) (20) _ _) ?_
  rintro _ _ R1 ⟨x45, m45, hx45, rfl, hm45, rfl, hR1⟩
  obtain rfl := hR1.symm
  refine bg (fun w hs => ⟨(lh sc3 rfl rfl) w hs, trivial⟩) ?_
  refine tk rfl (PE.assign rfl) rfl ?_
  refine tk rfl (PE.assign rfl) rfl ?_
  refine sy_dn ?_
  refine sy_nx ?_
  refine sy_seq ?_
  refine sy_seq ?_
  refine sy_tx' [0, 1, 2] rfl ?_
  refine sy_sq ?_
  refine sp rfl (PE.move rfl) rfl ?_
  refine sy_sq ?_
  refine cl rfl cal73 rfl rfl (c_Among g ag cg bk hgl _ _ (by omega) (by assumption) (1) (4) (by first | omega | (dsimp only; omega)) _ _) ?_
  rintro _ _ R1 ⟨x47, m47, hx47, rfl, hm47, rfl, hR1⟩
  obtain rfl := hR1.symm
  refine sy_sq ?_
  refine sp rfl (PE.move rfl) rfl ?_
  refine sy_sn ?_
  refine sy_nx ?_
  refine sy_block ?_
  obtain ⟨n47, rfl⟩ : ∃ n : Nat, x47 = n := ⟨x47.toNat, by omega⟩
  refine sy_loop (ι := (x : {x : Nat × Int × Int × List Rn × Int × Int // x.1 ≤ n47 ∧ RatI x.2.2.2.1 x.1 x.2.1 x.2.2.1 ∧ (tq ≤ x.2.2.2.2.1 ∧ x.2.2.2.2.1 ≤ tq + 20 + 2 * x.1) ∧ (0 ≤ x.2.2.2.2.2 ∧ x.2.2.2.2.2 ≤ 4294967295)}) × OSl 91 2 (rrows x.1.2.2.2.1)) (fun x => ⟨[(0, .pointer (some ⟨bk, 0, none⟩)), (4, .pointer (some ⟨b4, 0, none⟩)), (5, .pointer (some ⟨b5, 0, none⟩)), (6, .int .i64 x.1.1.2.1), (7, .int .i64 x.1.1.2.2.1), (47, .int .i64 n47), (48, .int .i64 x.1.1.1)],
    (bk, cel 168 [.slice ag g.length cg, .int .i64 (x.1.1.2.2.2.2.1), .int .u32 (x.1.1.2.2.2.2.2)]) :: (x.2.G ++ (b5, cel 26 (twl ⟨⟨0, 0, 0⟩, x10, x12, x14, x16, x30, x36, x18 / 5 * x21, x.1.1.2.2.2.1⟩ x.2.fs)) :: (b4, cel 26 [.int .i64 0, .int .i64 0, .int .i64 0, .int .i64 0, .int .i64 0, .int .i64 0, .int .i64 0, .int .i64 0, .int .i64 0, .int .i64 0, .slice none 0 0]) :: H), R⟩) (fun x => n47 - x.1.1.1) ⟨⟨(0, x12 + x41 / 2, x45, [], tq + 1 + 1 + 1 + 1 + 1 + 1 + 1 + 1 + 1 + 1 + 1, m47), by omega, ⟨by simp, by dsimp only; omega, by dsimp only; omega, by dsimp only; omega, by simp, fun i => by simp [badAt], by dsimp only; omega⟩, by dsimp only; omega, by assumption⟩, OSl.nil _ _⟩ ?_ (fun x => ?_)
  ·
   exact sy_at (by repeat' first | exact Sub.nil | apply Sub.cons | rfl | (simp [lk]; omega)) (fun _ h => h)
  ·
   obtain ⟨⟨⟨k, sk, pr, l, tq2, mx2⟩, hk, hri, htq2, hmx2⟩, o'⟩ := x
   dsimp only at hk hri htq2 hmx2 o' ⊢
   have h1 := hri.slo
   have h2 := hri.phi
   have h3 := hri.len
   refine sy_seq ?_
   refine sy_tx' [0] rfl ?_
   refine sy_sq ?_
   refine sp rfl (PE.lss rfl rfl) rfl ?_
   refine sy_sn ?_
   refine sy_nx ?_
   refine sy_seq ?_
   refine sy_cond rfl (fun hc0 => ?_) (fun hc0 => ?_)
   ·
    try simp only [decide_eq_true_eq, decide_eq_false_iff_not, Bool.and_eq_true, Bool.or_eq_true, Bool.not_eq_true', Int.not_le, Int.not_lt] at hc0
    
    refine sy_skip ?_
    refine sy_nx ?_
    refine sy_seq ?_
    refine sy_block ?_
    refine sy_seq ?_
    refine sy_seq ?_
    refine sy_tx' [0, 1] rfl ?_
    refine sy_sq ?_
    refine sp rfl (PE.move rfl) rfl ?_
    refine sy_sq ?_
    refine sp rfl (PE.geq rfl rfl) rfl ?_
    refine sy_sn ?_
    refine sy_nx ?_
    refine sy_cond rfl (fun hc1 => ?_) (fun hc1 => ?_)
    ·
     try simp only [decide_eq_true_eq, decide_eq_false_iff_not, Bool.and_eq_true, Bool.or_eq_true, Bool.not_eq_true', Int.not_le, Int.not_lt] at hc1
     refine sy_tx' [0, 1, 2, 3, 4, 5, 6, 7, 8] rfl ?_
     refine sy_sq ?_
     refine sp rfl (PE.fieldAddr fo26_8 rfl) rfl ?_
     refine sy_sq ?_
     refine spL rfl rfl (lh sc24 rfl rfl) rfl ?_
     refine sy_sq ?_
     refine sp rfl (PE.move rfl) rfl ?_
     refine sy_sq ?_
     refine sp rfl (PE.move rfl) rfl ?_
     refine sy_sq ?_
     refine sp rfl (PE.build (out := [_, _]) pl91 zl91 rfl rfl) rfl ?_
     refine sy_sq ?_
     refine bsl (out := [_, _]) rfl sl24 zl91 rfl rfl rfl rfl rfl rfl (fun b57 => ?_)
     refine sy_sq ?_
     refine apO (o') rfl ap24 rfl rfl (rowsH (row := rrow ⟨sk, pr⟩) rfl) rfl rfl ((by simp only [rrows, List.length_map, List.length_singleton]; omega)) rfl (fun o58 => ?_)
     refine sy_sq ?_
     refine sp rfl (PE.fieldAddr fo26_8 rfl) rfl ?_
     refine sy_sq ?_
     refine stoE (l' := twl ⟨⟨0, 0, 0⟩, x10, x12, x14, x16, x30, x36, x18 / 5 * x21, (l ++ [⟨sk, pr⟩])⟩ o58.fs) rfl rfl rfl cn24 rfl (by rw [o58.cells.1]; first | done | rfl) (by rw [o58.cells.1]; simp [o58.cells.2]) (by rw [o58.cells.1]; first | done | rfl) (by rw [o58.cells.1]; first | done | exact Nat.le_refl _) ?_
     refine sy_sn ?_
     refine sy_nx ?_
     refine sy_tx' [0, 1, 2, 3, 4, 5, 6, 7, 8, 9] rfl ?_
     refine sy_sq ?_
     refine sp rfl (PE.move rfl) rfl ?_
     refine sy_sq ?_
     refine sp rfl (PE.move rfl) rfl ?_
     refine sy_sq ?_
     refine sy_pull bk ?_
     refine cl rfl cal73 rfl rfl (c_Among g ag cg bk hgl _ _ (by omega) (by assumption) (1) (3) (by first | omega | (dsimp only; omega)) _ _) ?_
     rintro _ _ R1 ⟨x62, m62, hx62, rfl, hm62, rfl, hR1⟩
     obtain rfl := hR1.symm
     refine sy_sq ?_
     refine sp rfl (PE.sub rfl rfl (by omega)) rfl ?_
     refine sy_sq ?_
     refine sp rfl (PE.move rfl) rfl ?_
     refine sy_sq ?_
     refine sp rfl (PE.move rfl) rfl ?_
     refine sy_sq ?_
     refine cl rfl cal73 rfl rfl (c_Among g ag cg bk hgl _ _ (by omega) (by assumption) (1) (9) (by first | omega | (dsimp only; omega)) _ _) ?_
     rintro _ _ R1 ⟨x66, m66, hx66, rfl, hm66, rfl, hR1⟩
     obtain rfl := hR1.symm
     refine sy_sq ?_
     refine sp rfl (PE.add rfl rfl (by omega)) rfl ?_
     refine sy_sq ?_
     refine sp rfl (PE.assign rfl) rfl ?_
     refine sy_sq ?_
     refine sp rfl (PE.assign rfl) rfl ?_
     refine sy_sn ?_
     refine sy_bn ?_
     refine sy_nx ?_
     refine sy_tx' [0, 1] rfl ?_
     refine sy_sq ?_
     refine sp rfl (PE.add rfl rfl (by omega)) rfl ?_
     refine sy_sq ?_
     refine sp rfl (PE.move rfl) rfl ?_
     refine sy_sn ?_
     refine sy_nx ?_
     first
       | exact sy_next ⟨⟨(k + 1, sk - x62, pr + x66, l ++ [⟨sk, pr⟩], tq2 + 1 + 1, m66), by omega, hri.more (a := x62) (b := x66) (by omega) (by omega) (by omega) (by omega), by dsimp only; omega, by assumption⟩, o58.cast (by simp [rrows])⟩ (by dsimp only; omega) (by repeat' first | exact Sub.nil | apply Sub.cons | rfl | (simp [lk]; omega)) (fun w h => (h.del b57).perm (by first | exact .refl _ | exact List.Perm.cons _ (.refl _)))
       | exact sy_next ⟨⟨(k + 1, sk - x62, pr + x66, l, tq2 + 1 + 1, m66), by omega, hri.less (a := x62) (b := x66) (by omega) (by omega) (by omega) (by omega), by dsimp only; omega, by assumption⟩, o'⟩ (by dsimp only; omega) (by repeat' first | exact Sub.nil | apply Sub.cons | rfl | (simp [lk]; omega)) (fun _ h => h)
    ·
     try simp only [decide_eq_true_eq, decide_eq_false_iff_not, Bool.and_eq_true, Bool.or_eq_true, Bool.not_eq_true', Int.not_le, Int.not_lt] at hc1
     refine sy_skip ?_
     refine sy_nx ?_
     refine sy_tx' [0, 1, 2, 3, 4, 5, 6, 7, 8, 9] rfl ?_
     refine sy_sq ?_
     refine sp rfl (PE.move rfl) rfl ?_
     refine sy_sq ?_
     refine sp rfl (PE.move rfl) rfl ?_
     refine sy_sq ?_
     refine sy_pull bk ?_
     refine cl rfl cal73 rfl rfl (c_Among g ag cg bk hgl _ _ (by omega) (by assumption) (1) (3) (by first | omega | (dsimp only; omega)) _ _) ?_
     rintro _ _ R1 ⟨x62, m62, hx62, rfl, hm62, rfl, hR1⟩
     obtain rfl := hR1.symm
     refine sy_sq ?_
     refine sp rfl (PE.sub rfl rfl (by omega)) rfl ?_
     refine sy_sq ?_
     refine sp rfl (PE.move rfl) rfl ?_
     refine sy_sq ?_
     refine sp rfl (PE.move rfl) rfl ?_
     refine sy_sq ?_
     refine cl rfl cal73 rfl rfl (c_Among g ag cg bk hgl _ _ (by omega) (by assumption) (1) (9) (by first | omega | (dsimp only; omega)) _ _) ?_
     rintro _ _ R1 ⟨x66, m66, hx66, rfl, hm66, rfl, hR1⟩
     obtain rfl := hR1.symm
     refine sy_sq ?_
     refine sp rfl (PE.add rfl rfl (by omega)) rfl ?_
     refine sy_sq ?_
     refine sp rfl (PE.assign rfl) rfl ?_
     refine sy_sq ?_
     refine sp rfl (PE.assign rfl) rfl ?_
     refine sy_sn ?_
     refine sy_bn ?_
     refine sy_nx ?_
     refine sy_tx' [0, 1] rfl ?_
     refine sy_sq ?_
     refine sp rfl (PE.add rfl rfl (by omega)) rfl ?_
     refine sy_sq ?_
     refine sp rfl (PE.move rfl) rfl ?_
     refine sy_sn ?_
     refine sy_nx ?_
     first
       | exact sy_next ⟨⟨(k + 1, sk - x62, pr + x66, l ++ [⟨sk, pr⟩], tq2 + 1 + 1, m66), by omega, hri.more (a := x62) (b := x66) (by omega) (by omega) (by omega) (by omega), by dsimp only; omega, by assumption⟩, o58.cast (by simp [rrows])⟩ (by dsimp only; omega) (by repeat' first | exact Sub.nil | apply Sub.cons | rfl | (simp [lk]; omega)) (fun w h => (h.del b57).perm (by first | exact .refl _ | exact List.Perm.cons _ (.refl _)))
       | exact sy_next ⟨⟨(k + 1, sk - x62, pr + x66, l, tq2 + 1 + 1, m66), by omega, hri.less (a := x62) (b := x66) (by omega) (by omega) (by omega) (by omega), by dsimp only; omega, by assumption⟩, o'⟩ (by dsimp only; omega) (by repeat' first | exact Sub.nil | apply Sub.cons | rfl | (simp [lk]; omega)) (fun _ h => h)
   ·
    try simp only [decide_eq_true_eq, decide_eq_false_iff_not, Bool.and_eq_true, Bool.or_eq_true, Bool.not_eq_true', Int.not_le, Int.not_lt] at hc0
    obtain rfl : k = n47 := by omega
    obtain ⟨a', c', he, hf⟩ := o'.freeze
    rw [he]
    refine sy_pull bk ?_
    refine Sy.heap (H' := _) (fun w h => hf (h.perm (List.perm_middle (l₁ := o'.G) (a := _)).symm)) ?_
    rw [show (rrows l).length = l.length from List.length_map _]
    refine sy_addr (a := a') (sz := 2) (rows := rrows l) (by have := hri.one (by omega); intro h0; simp [rrows] at h0; simp [h0] at this) (fun ba oa hea => ?_)
    subst hea
    refine sy_exit ?_
    refine sy_tx ?_
    refine sy_tx ?_
    refine sy_bx ?_
    refine sy_nx ?_
    refine sy_seq ?_
    refine sy_draw [0, 0, 2, 6, 15, 0, 0, 64, 192, 511, 0, 2047, 4095, 0, 0, 16384, 49152, 126975, 0, 520191, 1044479, 2097151, 4194303, 8388607] (.tk 0 (.tk 1 (.ld 2 (.tk 3 (.tk 5 (.tk 6 (.ld 7 (.tk 8 (.tk 10 (.tk 13 (.tk 14 (.ld 15 (.tk 16 (.tk 18 (.big 4 (.big 9 (.big 11 (.tk 12 (.big 17 (.big 19 (.tk 20 (.tk 21 (.tk 22 (.big 23 .done)))))))))))))))))))))))) mixed (by kernel_rfl) ?_
    refine tk rfl (PE.move rfl) rfl ?_
    refine tk rfl (PE.fieldAddr fo26_1 rfl) rfl ?_
    refine ld rfl rfl (lh sc3 rfl rfl) rfl ?_
    refine tk rfl (PE.add rfl rfl (by first | omega | (dsimp only; omega))) rfl ?_
    refine tk rfl (PE.move rfl) rfl ?_
    refine tk rfl (PE.fieldAddr fo26_3 rfl) rfl ?_
    refine ld rfl rfl (lh sc3 rfl rfl) rfl ?_
    refine tk rfl (PE.add rfl rfl (by first | omega | (dsimp only; omega))) rfl ?_
    refine tk rfl (PE.move rfl) rfl ?_
    refine tk rfl (PE.move rfl) rfl ?_
    refine tk rfl (PE.fieldAddr fo26_4 rfl) rfl ?_
    refine ld rfl rfl (lh sc3 rfl rfl) rfl ?_
    refine tk rfl (PE.add rfl rfl (by first | omega | (dsimp only; omega))) rfl ?_
    refine tk rfl (PE.move rfl) rfl ?_
    refine sy_bg ?_
    refine cl rfl cal48 rfl rfl (c_Below g ag cg bk hgl _ _ (by omega) (by assumption) (x10 + 1) _ _) ?_
    rintro _ _ R1 ⟨x73, m73, hx73, rfl, hm73, rfl, hR1⟩
    obtain rfl := hR1.symm
    refine bg (fun w hs => ⟨(lh sc3 rfl rfl) w hs, (lh sc3 rfl rfl) w hs, trivial, trivial⟩) ?_
    refine sy_bg ?_
    refine cl rfl cal48 rfl rfl (c_Below g ag cg bk hgl _ _ (by omega) (by assumption) (x14 + 1) _ _) ?_
    rintro _ _ R1 ⟨x78, m78, hx78, rfl, hm78, rfl, hR1⟩
    obtain rfl := hR1.symm
    refine bg (fun w hs => ⟨(lh sc3 rfl rfl) w hs, trivial, trivial⟩) ?_
    refine sy_bg ?_
    refine cl rfl cal48 rfl rfl (c_Below g ag cg bk hgl _ _ (by omega) (by assumption) (2) _ _) ?_
    rintro _ _ R1 ⟨x80, m80, hx80, rfl, hm80, rfl, hR1⟩
    obtain rfl := hR1.symm
    have hm81 := mul_b (a := x78) (b := x80) (A := x14) (B := 1) (by omega) (by omega) (by omega) (by omega)
    refine bg (fun w hs => ⟨(lh sc3 rfl rfl) w hs, trivial⟩) ?_
    refine tk rfl (PE.mul rfl rfl (by omega)) rfl ?_
    refine sy_bg ?_
    refine cl rfl cal48 rfl rfl (c_Below g ag cg bk hgl _ _ (by omega) (by assumption) (x16 + 1) _ _) ?_
    rintro _ _ R1 ⟨x86, m86, hx86, rfl, hm86, rfl, hR1⟩
    obtain rfl := hR1.symm
    refine bg (fun w hs => ⟨trivial, trivial⟩) ?_
    refine sy_bg ?_
    refine cl rfl cal48 rfl rfl (c_Below g ag cg bk hgl _ _ (by omega) (by assumption) (2) _ _) ?_
    rintro _ _ R1 ⟨x88, m88, hx88, rfl, hm88, rfl, hR1⟩
    obtain rfl := hR1.symm
    have hm89 := mul_b (a := x86) (b := x88) (A := x16) (B := 1) (by omega) (by omega) (by omega) (by omega)
    refine bg (fun w hs => trivial) ?_
    refine tk rfl (PE.mul rfl rfl (by omega)) rfl ?_
    refine tk rfl (PE.build (out := [_, _, _]) pl23 zl23 rfl rfl) rfl ?_
    refine tk rfl (PE.fieldAddr fo26_0 rfl) rfl ?_
    refine sy_bg ?_
    refine sto rfl rfl rfl cn23 rfl rfl rfl rfl ?_
    refine bg (fun w hs => trivial) ?_
    refine sy_dn ?_
    refine sy_nx ?_
    refine sy_seq ?_
    refine sy_tx' [0, 1] rfl ?_
    refine sy_sq ?_
    refine spL rfl rfl (lhA [_, _, _, _, _, _, _, _, _, _, _] ag26 rfl rfl rfl) rfl ?_
    refine sy_sq ?_
    refine sto rfl rfl rfl cn26 rfl rfl rfl rfl ?_
    refine sy_sn ?_
    refine sy_nx ?_
    refine sy_ret ?_
    have hok : Twn.ok ⟨⟨x73, x78 * x80, x86 * x88⟩, x10, x12, x14, x16, x30, x36, x18 / 5 * x21, l⟩ := ⟨by simp only; omega, by simp only; omega, by simp only; omega, by simp only; omega, by simp only; omega, by simp only; omega, by simp only; omega, fun q hq => by have := hri.q q hq; omega, right_iff.2 ⟨by simp only; omega, by simp only; omega, by simp only; omega⟩, ⟨hri.one (by omega), by simp only; omega⟩⟩
    exact sy_return (vs := [_]) rfl (.cons (RV.cell rfl (lhA [_, _, _, _, _, _, _, _, _, _, _] ag26 rfl rfl rfl)) .nil) rfl ⟨⟨⟨x73, x78 * x80, x86 * x88⟩, x10, x12, x14, x16, x30, x36, x18 / 5 * x21, l⟩, ba, oa, c', _, _, ⟨check_ok hok hri.bad, by simp only; omega, by simp only; omega⟩, rfl, ⟨by omega, by omega⟩, by assumption, rfl, rfl⟩ (fun w h => ((h.del b5).del b4))
end Go.Proofs.Ytaldphhdkmchhaa
