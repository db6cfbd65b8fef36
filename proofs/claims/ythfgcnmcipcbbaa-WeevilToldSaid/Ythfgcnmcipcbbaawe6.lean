/- Walks of the functions of the program, and the laws that join them: what the last theorem of this claim needs, in order. -/
import Derived.Test.Ythfgcnmcipcbbaawe5
namespace Go.Proofs.Ythfgcnmcipcbbaa
set_option linter.unusedSimpArgs false
set_option linter.unusedVariables false
open Go
theorem Zb7 : cal Try.prog 31 = true := by kernel_rfl
theorem Zdw : cal Try.prog 32 = true := by kernel_rfl
theorem ZdJ : cal Try.prog 33 = true := by kernel_rfl
theorem ZaK : cal Try.prog 34 = true := by kernel_rfl
theorem Zao {h : Hse} {few : List Int} (hk : h.ok) (hf : Org h few) {s : Sgt} (hs : s ∈ h.sights) (hsn : s.seen = true) : ∃ k ∈ few, k ∈ h.byL s := by
  have hb := hk.bins
  have hso := hk.sights s hs
  have hm : msk few < 2 ^ h.bins.toNat := Z0w fun x hx => by have := hf.lt x hx; omega
  have h1 := (Z5d hk (ZaH (Hse.ok.lt h hk).1 hm) hso.1).1 (List.all_eq_true.1 hf.ex s hs)
  rw [hsn] at h1
  obtain ⟨u, hu, hv⟩ := lv_bit.1 h1
  have hmem := (Zs (fun k hk => (hf.lt k hk).1) u).1 hu
  have hul := hf.lt _ hmem
  refine ⟨(u : Int), hmem, List.mem_filter.2 ⟨?_, ?_⟩⟩
  · have h2 := Z2D hk hk.sights hm hf.ex (but := -1) (week := 0) (by decide) (fun h => absurd h (by decide)) u hu
    exact (Zs (fun j hj => (Z1F j hj).1) u).1 h2
  · unfold Hse.byP
    have : Z19 h.gaps (msk [(u : Int)]) [s] = true := by
      unfold Z19
      rw [List.all_cons, List.all_nil, Bool.and_true, Z7R]
      exact (Z5d hk (Z7t (by omega)) hso.1).2 (hv.trans hsn.symm)
    rw [this]; rfl
theorem Z72 {h : Hse} {few : List Int} (hk : h.ok) (hf : Org h few) : ∀ (l met : List Int), h.aptB met l = true → l.length ≤ (few.filter fun x => !Z02 met x).length
  | [], _, _ => Nat.zero_le _
  | i :: l, met, ha => by
    unfold Hse.aptB at ha
    cases hs : h.sights[i.toNat]? with
    | none => rw [hs] at ha; cases ha
    | some s =>
      rw [hs] at ha
      dsimp only at ha
      rw [Bool.and_eq_true, Bool.and_eq_true, Bool.not_eq_true'] at ha
      obtain ⟨⟨h1, h2⟩, h3⟩ := ha
      have ih := Z72 hk hf l _ h3
      obtain ⟨k, h4, h5⟩ := Zao hk hf (List.mem_of_getElem? hs) h1
      have h6 := List.any_eq_false.1 h2 k h5
      have h7 : (few.filter fun x => !Z02 (met ++ h.byL s) x).length < (few.filter fun x => !Z02 met x).length := by
        rw [← List.countP_eq_length_filter, ← List.countP_eq_length_filter]
        refine Z3b (fun x _ hx => ?_) ⟨k, h4, by simpa using h6, ?_⟩
        · rw [Bool.not_eq_true'] at hx ⊢
          cases h8 : Z02 met x with
          | false => rfl
          | true => rw [show Z02 (met ++ h.byL s) x = true from hasI_iff.2 (List.mem_append_left _ (hasI_iff.1 h8))] at hx; cases hx
        · rw [show Z02 (met ++ h.byL s) k = true from hasI_iff.2 (List.mem_append_right _ h5)]; rfl
      rw [List.length_cons]; omega
theorem Z7Q (h : Hse) : ∀ k, h.aptB [] (h.aptK k) = true
  | 0 => rfl
  | k + 1 => by
    unfold Hse.aptK
    cases hs : Z0A (h.aptH k) h.sights.length with
    | none => exact Z7Q h k
    | some x =>
      obtain ⟨⟨_, _, _, _, h3⟩, _⟩ := Z3g hs
      unfold Hse.aptH at h3
      rw [Bool.and_eq_true] at h3
      exact h3.2
theorem ZbK {h : Hse} (hk : h.ok) (ha : h.agr h.sights = true) {few : List Int} (hf : Org h few) : ∃ l, h.aptR = (l, 0) ∧ l.length ≤ few.length := by
  refine ⟨h.aptK (h.sights.length + 1), ?_, Nat.le_trans (Z72 hk hf _ [] (Z7Q h _)) (List.length_filter_le _ _)⟩
  unfold Hse.aptR
  rw [hse_ok.2 hk, ha]; rfl
theorem Z5T {h : Hse} (hk : h.ok) : h.clrR = (Z0h (fun k => !Z02 (h.clr h.sights (-1) 0) k) h.bins.toNat, 0) := by
  unfold Hse.clrR
  rw [hse_ok.2 hk]; rfl
theorem Zc9 {h : Hse} (hk : h.ok) {l : List Int} (hl : ∀ x ∈ l, 0 ≤ x ∧ x < h.bins) (he : Z19 h.gaps (msk l) h.sights = true) : ∀ x ∈ l, x ∈ h.clr h.sights (-1) 0 := fun x hx => by
  have hxr := hl x hx
  have hm : msk l < 2 ^ h.bins.toNat := Z0w fun x hx => by have := hl x hx; omega
  have hb : (msk l).testBit x.toNat = true := (Zs (fun k hk => (hl k hk).1) x.toNat).2 (by rw [show ((x.toNat : Nat) : Int) = x by omega]; exact hx)
  have h2 := (Zs (fun j hj => (Z1F j hj).1) x.toNat).1 (Z2D hk hk.sights hm he (but := -1) (week := 0) (by decide) (fun h => absurd h (by decide)) x.toNat hb)
  rw [show ((x.toNat : Nat) : Int) = x by omega] at h2; exact h2
theorem Z5G {h : Hse} (hk : h.ok) {l : List Int} (hl : ∀ x ∈ l, 0 ≤ x ∧ x < h.bins) (he : Z19 h.gaps (msk l) h.sights = true) {b : Nat} (hc : Z02 h.clrR.1 (b : Int) = true) : Z02 l (b : Int) = false := by
  cases hb : Z02 l (b : Int) with
  | false => rfl
  | true =>
    rw [Z5T hk, hasI_iff] at hc
    obtain ⟨k, _, h2, h3⟩ := fltK_mem.1 hc
    obtain rfl : b = k := by omega
    rw [Bool.not_eq_true'] at h2
    rw [hasI_iff.2 (Zc9 hk hl he _ (hasI_iff.1 hb))] at h2; cases h2
theorem Z7W {h : Hse} (hk : h.ok) (ha : h.agr h.sights = true) {l : List Int} (hl : ∀ x ∈ l, 0 ≤ x ∧ x < h.bins) (he : Z19 h.gaps (msk l) h.sights = true) {w : Int} (hw : 0 ≤ w ∧ w ≤ 9) {b : Nat} (hb : b < h.bins.toNat) :
    (Z02 (h.surR w).1 (b : Int) = true → na (Z1x h.gaps (clP []) (msk l) h.bins.toNat) b ≤ w) ∧ (na (Z1x h.gaps (clP []) (msk l) h.bins.toNat) b ≤ w → Z02 (h.perR w).1 (b : Int) = true) ∧ (Z02 (h.surR w).1 (b : Int) = true → Z02 (h.perR w).1 (b : Int) = true) := by
  have hbn := hk.bins
  have hm : msk l < 2 ^ h.bins.toNat := Z0w fun x hx => by have := hl x hx; omega
  have hf : na (Z1x h.gaps (clP []) (msk l) h.bins.toNat) b ≤ w ↔ (lv h.gaps 0 (msk l) w.toNat).testBit b = true := by
    rw [Z2W hb, show clP [] = fun _ => 0 from rfl, ← Z9J hk.wth (ZaH (Hse.ok.lt h hk).1 hm) (show w.toNat < 100 by omega), show ((w.toNat : Nat) : Int) = w by omega]
  have h1 : Z02 (h.surR w).1 (b : Int) = true → (lv h.gaps 0 (msk l) w.toNat).testBit b = true := fun hs => by
    obtain ⟨k, _, h3, h4⟩ := ((Z9u hk ha hw).2 _).1 (hasI_iff.1 hs)
    obtain rfl : b = k := by omega
    exact h4 _ hm he
  have h2 : (lv h.gaps 0 (msk l) w.toNat).testBit b = true → Z02 (h.perR w).1 (b : Int) = true := fun hv => hasI_iff.2 (((Z7m hk ha hw).2 _).2 ⟨b, hb, rfl, _, hm, he, hv⟩)
  exact ⟨fun hs => hf.2 (h1 hs), fun hv => h2 (hf.1 hv), fun hs => h2 (h1 hs)⟩
def Hse.rst (h : Hse) (k : Nat) : List Int := Z0h (fun b => !Z02 h.clrR.1 (b : Int)) k
theorem Z6N {h : Hse} (hk : h.ok) : msk (h.rst h.bins.toNat) = msk (h.clr h.sights (-1) 0) := ZW fun k => by
  rw [Bool.eq_iff_iff, Zs (fun j hj => by obtain ⟨q, _, _, rfl⟩ := fltK_mem.1 hj; omega), Zs (fun j hj => (Z1F j hj).1)]
  unfold Hse.rst
  rw [fltK_mem, Z5T hk]
  constructor
  · rintro ⟨q, h1, h2, h3⟩
    obtain rfl : k = q := by omega
    rw [Bool.not_eq_true'] at h2
    cases h4 : Z02 (h.clr h.sights (-1) 0) (k : Int) with
    | true => exact hasI_iff.1 h4
    | false =>
      rw [show Z02 (Z0h (fun k => !Z02 (h.clr h.sights (-1) 0) k) h.bins.toNat) (k : Int) = true from hasI_iff.2 (fltK_mem.2 ⟨k, h1, by rw [h4]; rfl, rfl⟩)] at h2
      cases h2
  · intro h1
    have hr := Z1F _ h1
    refine ⟨k, by omega, ?_, rfl⟩
    rw [Bool.not_eq_true']
    cases h4 : Z02 (Z0h (fun k => !Z02 (h.clr h.sights (-1) 0) k) h.bins.toNat) (k : Int) with
    | false => rfl
    | true =>
      obtain ⟨q, _, h5, h6⟩ := fltK_mem.1 (hasI_iff.1 h4)
      obtain rfl : k = q := by omega
      rw [hasI_iff.2 h1] at h5; cases h5
theorem ZaE {h : Hse} (hk : h.ok) (ha : h.agr h.sights = true) {w : Int} (hw : 0 ≤ w ∧ w ≤ 9) {b : Nat} (hb : b < h.bins.toNat) : decide (na (Z1x h.gaps (clP []) (msk (h.rst h.bins.toNat)) h.bins.toNat) b ≤ w) = Z02 (h.perR w).1 (b : Int) := by
  have hm := Z3z hk (ss := h.sights) (but := -1) (week := 0)
  rw [Z6N hk, Bool.eq_iff_iff, decide_eq_true_eq, hasI_iff, (Z7m hk ha hw).2, Z2W hb, show clP [] = fun _ => 0 from rfl]
  have hf := Z9J (k := b) hk.wth (ZaH (Hse.ok.lt h hk).1 hm) (show w.toNat < 100 by omega)
  rw [show ((w.toNat : Nat) : Int) = w by omega] at hf
  rw [hf, Z5A hk hk.sights ha]
  constructor
  · rintro ⟨m, h1, h2, h3⟩; exact ⟨b, hb, rfl, m, h1, h2, h3⟩
  · rintro ⟨k, _, h0, m, h1, h2, h3⟩
    obtain rfl : b = k := by omega
    exact ⟨m, h1, h2, h3⟩
theorem Zb4 (h : Hse) (w : Int) : (h.surR w).1.Pairwise (· < ·) := by
  unfold Hse.surR
  cases decide (h.wkE w = 0) with
  | true => exact Z41 _ _
  | false => exact List.Pairwise.nil
theorem ZaM (h : Hse) (w : Int) : (h.perR w).1.Pairwise (· < ·) := by
  unfold Hse.perR
  cases decide (h.wkE w = 0) with
  | true => exact Z41 _ _
  | false => exact List.Pairwise.nil
theorem Z8y {h : Hse} {few : List Int} (hf : Org h few) {p : Nat → Bool} (he : Z19 h.gaps (msk (Z0h p h.bins.toNat)) h.sights = true) : few.length ≤ (Z0h p h.bins.toNat).length := by
  have h1 : ∀ j ∈ (List.range h.bins.toNat).filter p, j < h.bins.toNat := fun j hj => List.mem_range.1 (List.mem_filter.1 hj).1
  have h2 := Z7L (n := h.bins.toNat) (y := (List.range h.bins.toNat).filter p) (List.pairwise_lt_range.filter _) h1
  have h3 := hf.min (msk (Z0h p h.bins.toNat)) (Z0w fun x hx => by obtain ⟨k, h5, _, rfl⟩ := fltK_mem.1 hx; omega) he
  rw [show msk (Z0h p h.bins.toNat) = msk (((List.range h.bins.toNat).filter p).map fun (j : Nat) => (j : Int)) from rfl, h2] at h3
  unfold Z0h; rw [List.length_map]; exact h3
theorem Zcj {n : Int} {l : List Int} (h : ∀ x ∈ l, 0 ≤ x ∧ x < n) (hp : l.Pairwise (· < ·)) : ZT n l = 0 := Z68 h (List.nodup_iff_pairwise_ne.2 (hp.imp fun h => by omega))
theorem Z1I (h : Hse) (ag as_ : Option Addr) (cg cs : Nat) (hok : h.ok) (l : List Int) (a : Option Addr) (c : Nat) (hle : ZT h.bins l = 0) (he : Z19 h.gaps (msk l) h.sights = true) (hl : l.length ≤ 1000000) (hlc : l.length ≤ c) (H : Z8) (R : Z6) [hG : MemRows ag 2 (Zi h.gaps) R] [hS : MemRows as_ 3 (Zh h.sights) R] [hR : MemRows a 1 (Z4 l) R] : FnV Try.prog 31 [h.v (h.sg ag cg) (h.ss as_ cs), .slice a l.length c] H R (.tuple #[.bool true, .int .i64 0]) := by
  have h1 := Z6f h ag as_ cg cs (by have := hok.gl; omega) (by have := hok.sl; omega) l a c (by omega) hlc H R
  rw [(Z9p (hse_ok.2 hok)).trans hle, he] at h1
  exact h1
set_option maxHeartbeats 1000000 in
theorem Z4B (l0 : List Int) (a0 : Option Addr) (c0 : Nat) (hl0 : l0.length ≤ 9223372036854775807) (l1 : List Int) (a1 : Option Addr) (c1 : Nat) (hl1 : l1.length ≤ 9223372036854775807) (n2 : Int) (hn2 : 0 ≤ n2 ∧ n2 ≤ 255) (H : Z8) (R : Z6) [hG0 : MemRows a0 1 (Z2O l0) R] [hG1 : MemRows a1 1 (Z2O l1) R] :
    Fn Try.prog 8 [.slice a0 l0.length c0, .slice a1 l1.length c1, .int .u8 n2] H R (fun v H' R' => v = .bool true ∧ H' = H ∧ R' = R) := by
 refine Zg Try.func8 rfl Try.ntmps8 rfl ?_
 refine sqt 1 rfl (pur 1 rfl (sqt 9 rfl (pur 1 rfl ?_)))
 refine cl rfl Zce rfl rfl (Z9v l0 a0 c0 hl0 _ _) ?_
 rintro _ _ R1 ⟨bk, mk, hmk, rfl, rfl, hR1⟩
 obtain rfl := hR1.symm
 clear hR1
 refine cl rfl Zen rfl rfl (ZbQ l0 a0 c0 bk hl0 0 mk (by omega) hmk 7 10 (by omega) (by omega) _ _) ?_
 rintro _ _ R1 ⟨h, p, ag, ar, cg, cr, tqb, mxb, hmd, hcg, hcr, rfl, htqb, hmxb, rfl, hR1⟩
 obtain rfl := hR1.symm
 clear hR1
 have hok := hmd.ok (by omega) (by omega)
 have hck := hse_ok.2 hok
 have hbn := hok.bins
 have hgl := hok.gl
 have hsl := hok.sl
 have hnb := hmd.bins
 have hng := hmd.gl
 have hss := hmd.none
 obtain ⟨B, hB⟩ : ∃ B : Nat, h.bins = B := ⟨h.bins.toNat, by omega⟩
 have hBt : h.bins.toNat = B := by omega
 have hfb := Z0a p h.bins.toNat
 have hfr := Z5f p (show 0 ≤ h.bins by omega)
 have hfe := Z82 p (show 0 ≤ h.bins by omega)
 have hm7 : msk (Z0h p h.bins.toNat) < 2 ^ 7 := Z0w fun x hx => by have := hfr x hx; omega
 refine pur 3 rfl (alc rfl Zbb rfl (fun b7 => ?_))
 refine ZF (l' := htl h (h.sg ag cg) (h.ss none 0)) rfl rfl rfl Zbk rfl rfl rfl rfl (nl rfl) ?_
 refine pur 1 rfl (Z1 ?_)
 refine Zc [0, 1, 0, 0, 15, 31] (.tk 0 (.ld 2 (.tk 3 (.big 1 (.big 4 (.big 5 .done)))))) Zw (by kernel_rfl) ?_
 refine Zr 1 rfl (ld rfl rfl (lhA (htl h (h.sg ag cg) (h.ss none 0)) Z0g rfl rfl rfl) rfl (Zr 1 rfl ?_))
 refine cl rfl Zce rfl rfl (Z9v l1 a1 c1 hl1 _ _) ?_
 rintro _ _ R1 ⟨bq, mq, hmq, rfl, rfl, hR1⟩
 obtain rfl := hR1.symm
 clear hR1
 refine bg (fun w hs => ⟨(lhA (htl h (h.sg ag cg) (h.ss none 0)) Z0g rfl rfl rfl) w hs, trivial⟩) ?_
 refine ZA bq ?_
 refine cl rfl Zdl rfl rfl (Zb0 l1 a1 c1 bq hl1 0 mq (by omega) hmq h ag cg hok hss (Z0h p h.bins.toNat) ar cr (by omega) hfr 8 (by omega) _ _) ?_
 rintro _ _ R1 ⟨ss, o, tqc, mxc, htr, hsn, rfl, htqc, hmxc, rfl, hR1⟩
 obtain rfl := hR1.symm
 clear hR1
 obtain ⟨aS, cSg, he, hcS, hzz⟩ := o.freezeC
 rw [Z1E] at hcS
 rw [he, Z1E]
 refine Sy.heap (H' := _) (fun w h9 => hzz (h9.perm (List.perm_middle (l₁ := o.G) (a := _)).symm)) ?_
 clear he hzz
 obtain ⟨q, hq⟩ : ∃ q : Hse, q = ⟨h.bins, h.gaps, ss⟩ := ⟨_, rfl⟩
 obtain ⟨fr, hfq⟩ : ∃ fr, fr = Z0h p h.bins.toNat := ⟨_, rfl⟩
 rw [show Hse.v ⟨h.bins, h.gaps, ss⟩ (h.sg ag cg) (.slice aS ss.length cSg) = q.v (q.sg ag cg) (q.ss aS cSg) from by rw [hq]; rfl, show Zh ss = Zh q.sights from by rw [hq], show RowsA ag 2 (Zi h.gaps) = RowsA ag 2 (Zi q.gaps) from by rw [hq], ← hfq]
 rw [← hfq] at hfr hfe hm7 hcr hfb htr
 have hokq : q.ok := by rw [hq]; exact Z70 hok (by omega) htr.ok
 have hqgl := hokq.gl
 have hqsl := hokq.sl
 have hqb : q.bins = h.bins := by rw [hq]
 have hqg : q.gaps = h.gaps := by rw [hq]
 have hqs : (q.sights.length : Int) ≤ 8 := by rw [hq]; exact hsn
 have hqf : fr = Z0h p q.bins.toNat := by rw [hqb]; exact hfq
 have htq : Tru q fr q.sights := by rw [hq]; exact ⟨htr.ok, htr.ex⟩
 have hfrq : ∀ x ∈ fr, 0 ≤ x ∧ x < q.bins := by rw [hqb]; exact hfr
 have hfrl : fr.length ≤ 7 := by omega
 have hqbn := hokq.bins
 have haq : q.agr q.sights = true := htq.agr hokq hfrq
 refine bgT ?_
 refine ZF (l' := htl q (q.sg ag cg) (q.ss aS cSg)) rfl rfl rfl Zbk rfl rfl rfl rfl (nl rfl) ?_
 refine bgT (sqt 4 rfl (pur 1 rfl (sp rfl (PE.conv64 us5 ik3 rfl (by omega)) rfl (sp rfl (PE.rem rfl rfl (by omega)) rfl (pur 1 rfl (sqt 8 rfl ?_))))))
 have hw4 : 0 ≤ n2 % 10 ∧ n2 % 10 ≤ 9 := ⟨Int.emod_nonneg _ (by decide), by have := Int.emod_lt_of_pos n2 (show (0 : Int) < 10 by decide); omega⟩
 have hsq := Zbd q (n2 % 10)
 have hpq := Za0 q (n2 % 10)
 have hfeq : ZT q.bins fr = 0 := by rw [hqb]; exact hfe
 refine spL rfl rfl (lhA (htl q (q.sg ag cg) (q.ss aS cSg)) Z0g rfl rfl rfl) rfl (pur 1 rfl ?_)
 refine clV rfl Zb7 rfl rfl (Z1I q ag aS cg cSg hokq fr ar cr hfeq htq.ex (by omega) hcr _ _) ?_
 refine pur 5 rfl (sqt 7 rfl (spL rfl rfl (lhA (htl q (q.sg ag cg) (q.ss aS cSg)) Z0g rfl rfl rfl) rfl ?_))
 refine cl rfl ZbI rfl rfl (Z4C q ag aS cg cSg (by omega) (by omega) _ _) ?_
 rintro _ _ R1 ⟨aor, cor, hcor9, rfl, rfl, hR1⟩
 obtain rfl := hR1.symm
 clear hR1
 obtain ⟨few, hfew, horg⟩ := Zbv hokq haq
 rw [hfew] at hcor9 ⊢
 dsimp only at hcor9 ⊢
 have hfr2 : few.length ≤ fr.length := by rw [hqf]; exact Z8y horg (by rw [← hqf]; exact htq.ex)
 refine pur 5 rfl (sqt 7 rfl (spL rfl rfl (lhA (htl q (q.sg ag cg) (q.ss aS cSg)) Z0g rfl rfl rfl) rfl ?_))
 refine cl rfl Zdw rfl rfl (Zb9 q ag aS cg cSg (by omega) (by omega) _ _) ?_
 rintro _ _ R1 ⟨aap, cap, hcap9, rfl, rfl, hR1⟩
 obtain rfl := hR1.symm
 clear hR1
 obtain ⟨apt, hapt, hal⟩ := ZbK hokq haq horg
 rw [hapt] at hcap9 ⊢
 dsimp only at hcap9 ⊢
 refine pur 5 rfl (sqt 8 rfl (spL rfl rfl (lhA (htl q (q.sg ag cg) (q.ss aS cSg)) Z0g rfl rfl rfl) rfl (pur 1 rfl ?_)))
 refine cl rfl ZbX rfl rfl (Z5W q ag aS cg cSg (by omega) (by omega) (n2 % 10) _ _) ?_
 rintro _ _ R1 ⟨asr, csr, hcsr9, rfl, rfl, hR1⟩
 obtain rfl := hR1.symm
 clear hR1
 rw [(Z9u hokq haq hw4).1]
 refine pur 5 rfl (sqt 8 rfl (spL rfl rfl (lhA (htl q (q.sg ag cg) (q.ss aS cSg)) Z0g rfl rfl rfl) rfl (pur 1 rfl ?_)))
 refine cl rfl Zdb rfl rfl (Z84 q ag aS cg cSg (by omega) (by omega) (n2 % 10) _ _) ?_
 rintro _ _ R1 ⟨apr, cpr, hcpr9, rfl, rfl, hR1⟩
 obtain rfl := hR1.symm
 clear hR1
 rw [(Z7m hokq haq hw4).1]
 refine pur 5 rfl (sqt 7 rfl (spL rfl rfl (lhA (htl q (q.sg ag cg) (q.ss aS cSg)) Z0g rfl rfl rfl) rfl ?_))
 refine cl rfl ZdJ rfl rfl (Z7h q ag aS cg cSg (by omega) (by omega) _ _) ?_
 rintro _ _ R1 ⟨acl, ccl, hccl9, rfl, rfl, hR1⟩
 obtain rfl := hR1.symm
 clear hR1
 have hcl2 : q.clrR.2 = 0 := by rw [Z5T hokq]
 have hcll : q.clrR.1.length ≤ q.bins.toNat := by rw [Z5T hokq]; exact Z0a _ _
 rw [hcl2]
 refine pur 5 rfl (Z1 (sqt 40 rfl (pur 3 rfl ?_)))
 refine Zl 79 rfl ?_ ?_ <;> intro g79
 exact absurd g79 (by simp)
 refine pur 4 rfl ?_
 refine Zl 83 rfl ?_ ?_ <;> intro g83
 exact absurd g83 (by simp)
 refine pur 4 rfl ?_
 refine Zl 87 rfl ?_ ?_ <;> intro g87
 exact absurd g87 (by simp)
 refine pur 4 rfl ?_
 refine Zl 91 rfl ?_ ?_ <;> intro g91
 exact absurd g91 (by simp)
 refine pur 4 rfl ?_
 refine Zl 95 rfl ?_ ?_ <;> intro g95
 exact absurd g95 (by simp)
 refine pur 4 rfl ?_
 refine Zl 99 rfl ?_ ?_ <;> intro g99
 exact absurd g99 (by simp)
 refine pur 4 rfl ?_
 refine Zl 103 rfl ?_ ?_ <;> intro g103
 exact absurd g103 (by simp)
 refine pur 1 rfl ?_
 refine spG rfl rfl rfl rfl (PE.lenSl ZC rfl) rfl ?_
 refine pur 1 rfl ?_
 refine spG rfl rfl rfl rfl (PE.lenSl ZC rfl) rfl ?_
 refine pur 3 rfl ?_
 refine Zl 110 rfl ?_ ?_ <;> intro g110
 simp only [decide_eq_true_eq] at g110; omega
 refine pur 1 rfl ?_
 refine spG rfl rfl rfl rfl (PE.lenSl ZC rfl) rfl ?_
 refine pur 1 rfl ?_
 refine spG rfl rfl rfl rfl (PE.lenSl ZC rfl) rfl ?_
 refine pur 2 rfl ?_
 refine Z0 rfl ?_ ?_ <;> intro hc0
 exact absurd hc0 (by simp; omega)
 refine Z2 (sqt 4 rfl (spL rfl rfl (lhA (htl q (q.sg ag cg) (q.ss aS cSg)) Z0g rfl rfl rfl) rfl (pur 1 rfl ?_)))
 refine Sy.heap (fun w h9 => St.norows9 (sz := 1) h9) ?_
 refine cl rfl ZaL rfl rfl (Z4a q ag aS cg cSg hokq fr ar cr (by omega) (fun x hx => (hfr x hx).1) [] none 0 (by decide) (by decide) (by simp [lls]) _ _) ?_
 rintro _ _ R1 ⟨aw, cw, rfl, rfl, hR1⟩
 obtain rfl := hR1.symm
 clear hR1
 refine pur 1 rfl (Z1 (sqt 3 rfl (sp rfl (PE.fA Z05 rfl) rfl (spL rfl rfl (lh (v := .int .i64 q.bins) sc3 rfl rfl) rfl (pur 1 rfl (Z3 ?_))))))
 refine Ze (ι := {b : Nat // b ≤ q.bins.toNat}) (fun b => ⟨[(7, .pointer (some ⟨b7, 0, none⟩)), (8, .slice ar fr.length cr), (9, .int .i64 (n2 % 10)), (12, .slice aor few.length cor), (16, .slice asr (q.surR (n2 % 10)).1.length csr), (18, .slice apr (q.perR (n2 % 10)).1.length cpr), (20, .slice acl q.clrR.1.length ccl), (22, .slice aw q.bins.toNat cw), (121, .int .i64 q.bins), (122, .int .i64 b.1)], (bq, cel 72 [.slice a1 l1.length c1, .int .i64 (tqc), .int .u32 (mxc)]) :: (b7, cel 26 (htl q (q.sg ag cg) (q.ss aS cSg))) :: (bk, cel 72 [.slice a0 l0.length c0, .int .i64 (tqb), .int .u32 (mxb)]) :: H, RowsA aw 1 (Z4 (Z1x q.gaps (clP []) (msk fr) q.bins.toNat)) :: RowsA acl 1 (Z4 q.clrR.1) :: RowsA apr 1 (Z4 (q.perR (n2 % 10)).1) :: RowsA asr 1 (Z4 (q.surR (n2 % 10)).1) :: RowsA aap 1 (Z4 apt) :: RowsA aor 1 (Z4 few) :: RowsA aS 3 (Zh q.sights) :: RowsA none 3 (Zh h.sights) :: RowsA ar 1 (Z4 fr) :: RowsA ag 2 (Zi q.gaps) :: R⟩) (fun b => q.bins.toNat - b.1) ⟨0, Nat.zero_le _⟩ ?_ (fun b => ?_)
 exact Zn (fun w h9 => h9.facts (fun g hg => by simp only [List.mem_cons] at hg ⊢; rcases hg with h8 | h8 | h8 | h8 | h8 | h8 | h8 | h8 | h8 | h8 | h8 <;> simp [h8]))
 obtain ⟨b, hb⟩ := b
 dsimp only at hb ⊢
 refine sqt 1 rfl (pur 1 rfl (Z1 ?_))
 refine Z0 rfl ?_ ?_ <;> intro hc1 <;> try simp only [cS] at hc1
 have hbB : b < q.bins.toNat := by omega
 obtain ⟨h1, h2, h3⟩ := Z7W hokq haq hfrq htq.ex hw4 hbB
 have h4 : Z02 q.clrR.1 (b : Int) = true → Z02 fr (b : Int) = false ∧ Z02 few (b : Int) = false := fun h => ⟨Z5G hokq hfrq htq.ex h, Z5G hokq horg.lt horg.ex h⟩
 have hgf := Z07 (l := (Z1x q.gaps (clP []) (msk fr) q.bins.toNat)) (k := b) (by rw [Z04]; exact hbB)
 generalize na (Z1x q.gaps (clP []) (msk fr) q.bins.toNat) b = fv at *
 refine Zm (a := aw) (sz := 1) (rows := Z4 (Z1x q.gaps (clP []) (msk fr) q.bins.toNat)) (by intro h0; have := congrArg List.length h0; rw [irl] at this; simp only [List.length_nil] at this; rw [Z04] at this; omega) (fun bw bwo hebw => ?_)
 subst hebw
 refine Z2 (Z1 (Z3 (sqt 2 rfl (pur 2 rfl (sqt 8 rfl (pur 2 rfl ?_))))))
 refine clV rfl ZJ rfl rfl (Zb (q.surR (n2 % 10)).1 _ rfl asr csr (b : Int) (by omega) _ _) ?_
 refine pur 2 rfl ?_
 refine clV rfl ZJ rfl rfl (Zb (q.perR (n2 % 10)).1 _ rfl apr cpr (b : Int) (by omega) _ _) ?_
 refine pur 2 rfl (sqt 43 rfl (pur 2 rfl ?_))
 refine Zl 132 rfl ?_ ?_ <;> intro g132
 refine pur 2 rfl ?_
 refine spG rfl rfl rfl rfl (PE.indexAddr Z1c rfl rfl (by omega) (by omega)) rfl ?_
 refine Z2o rfl rfl rfl rfl rfl (lf0 sc3 (ZQ hgf) rfl) rfl (pur 4 rfl ?_)
 refine Zl 140 rfl ?_ ?_ <;> intro g140
 first | (focus (simp at g140; done)) | exact absurd (h1 g132) (by simp only [decide_eq_true_eq] at g140; omega)
 refine pur 2 rfl ?_
 refine spG rfl rfl rfl rfl (PE.indexAddr Z1c rfl rfl (by omega) (by omega)) rfl ?_
 refine Z2o rfl rfl rfl rfl rfl (lf0 sc3 (ZQ hgf) rfl) rfl (pur 3 rfl ?_)
 refine Zl 147 rfl ?_ ?_ <;> intro g147
 refine pur 5 rfl ?_
 refine Zl 152 rfl ?_ ?_ <;> intro g152
 first | (focus (simp at g152; done)) | (rw [h2 (of_decide_eq_true g147)] at g152; (focus (simp at g152; done)))
 refine pur 2 rfl ?_
 refine Zl 154 rfl ?_ ?_ <;> intro g154
 refine pur 5 rfl ?_
 refine Zl 159 rfl ?_ ?_ <;> intro g159
 first | (focus (simp at g159; done)) | (rw [h3 g154] at g159; (focus (simp at g159; done)))
 refine pur 2 rfl ?_
 refine Z1f rfl rfl rfl rfl ZJ rfl rfl (Zb q.clrR.1 _ rfl acl ccl (b : Int) (by omega) _ _) ?_
 refine pur 1 rfl ?_
 refine Zl 163 rfl ?_ ?_ <;> intro g163
 refine pur 2 rfl ?_
 refine Z1f rfl rfl rfl rfl ZJ rfl rfl (Zb fr _ rfl ar cr (b : Int) (by omega) _ _) ?_
 refine pur 1 rfl ?_
 refine Zl 167 rfl ?_ ?_ <;> intro g167
 rw [(h4 g163).1] at g167; (focus (simp at g167; done))
 refine pur 2 rfl ?_
 refine Z1f rfl rfl rfl rfl ZJ rfl rfl (Zb few _ rfl aor cor (b : Int) (by omega) _ _) ?_
 refine pur 3 rfl ?_
 refine Z0 rfl ?_ ?_ <;> intro hc2
 first | (focus (simp at hc2; done)) | (rw [(h4 g163).2] at hc2; simp at hc2)
 refine Z2 (sqr 2 rfl (sp rfl (PE.add rfl rfl (by omega)) rfl (pur 1 rfl ?_)))
 exact Z7 ⟨b + 1, by omega⟩ idH
 refine pur 4 rfl ?_
 repeat refine spU rfl rfl rfl rfl rfl rfl rfl ?_
 refine pur 3 rfl ?_
 refine Zv rfl ?_
 refine Z2 (sqr 2 rfl (sp rfl (PE.add rfl rfl (by omega)) rfl (pur 1 rfl ?_)))
 exact Z7 ⟨b + 1, by omega⟩ idH
 refine pur 7 rfl ?_
 refine Z1f rfl rfl rfl rfl ZJ rfl rfl (Zb q.clrR.1 _ rfl acl ccl (b : Int) (by omega) _ _) ?_
 refine pur 1 rfl ?_
 refine Zl 163 rfl ?_ ?_ <;> intro g163
 refine pur 2 rfl ?_
 refine Z1f rfl rfl rfl rfl ZJ rfl rfl (Zb fr _ rfl ar cr (b : Int) (by omega) _ _) ?_
 refine pur 1 rfl ?_
 refine Zl 167 rfl ?_ ?_ <;> intro g167
 rw [(h4 g163).1] at g167; (focus (simp at g167; done))
 refine pur 2 rfl ?_
 refine Z1f rfl rfl rfl rfl ZJ rfl rfl (Zb few _ rfl aor cor (b : Int) (by omega) _ _) ?_
 refine pur 3 rfl ?_
 refine Z0 rfl ?_ ?_ <;> intro hc2
 first | (focus (simp at hc2; done)) | (rw [(h4 g163).2] at hc2; simp at hc2)
 refine Z2 (sqr 2 rfl (sp rfl (PE.add rfl rfl (by omega)) rfl (pur 1 rfl ?_)))
 exact Z7 ⟨b + 1, by omega⟩ idH
 refine pur 4 rfl ?_
 repeat refine spU rfl rfl rfl rfl rfl rfl rfl ?_
 refine pur 3 rfl ?_
 refine Zv rfl ?_
 refine Z2 (sqr 2 rfl (sp rfl (PE.add rfl rfl (by omega)) rfl (pur 1 rfl ?_)))
 exact Z7 ⟨b + 1, by omega⟩ idH
 refine pur 7 rfl ?_
 refine Zl 154 rfl ?_ ?_ <;> intro g154
 refine pur 5 rfl ?_
 refine Zl 159 rfl ?_ ?_ <;> intro g159
 first | (focus (simp at g159; done)) | (rw [h3 g154] at g159; (focus (simp at g159; done)))
 refine pur 2 rfl ?_
 refine Z1f rfl rfl rfl rfl ZJ rfl rfl (Zb q.clrR.1 _ rfl acl ccl (b : Int) (by omega) _ _) ?_
 refine pur 1 rfl ?_
 refine Zl 163 rfl ?_ ?_ <;> intro g163
 refine pur 2 rfl ?_
 refine Z1f rfl rfl rfl rfl ZJ rfl rfl (Zb fr _ rfl ar cr (b : Int) (by omega) _ _) ?_
 refine pur 1 rfl ?_
 refine Zl 167 rfl ?_ ?_ <;> intro g167
 rw [(h4 g163).1] at g167; (focus (simp at g167; done))
 refine pur 2 rfl ?_
 refine Z1f rfl rfl rfl rfl ZJ rfl rfl (Zb few _ rfl aor cor (b : Int) (by omega) _ _) ?_
 refine pur 3 rfl ?_
 refine Z0 rfl ?_ ?_ <;> intro hc2
 first | (focus (simp at hc2; done)) | (rw [(h4 g163).2] at hc2; simp at hc2)
 refine Z2 (sqr 2 rfl (sp rfl (PE.add rfl rfl (by omega)) rfl (pur 1 rfl ?_)))
 exact Z7 ⟨b + 1, by omega⟩ idH
 refine pur 4 rfl ?_
 repeat refine spU rfl rfl rfl rfl rfl rfl rfl ?_
 refine pur 3 rfl ?_
 refine Zv rfl ?_
 refine Z2 (sqr 2 rfl (sp rfl (PE.add rfl rfl (by omega)) rfl (pur 1 rfl ?_)))
 exact Z7 ⟨b + 1, by omega⟩ idH
 refine pur 7 rfl ?_
 refine Z1f rfl rfl rfl rfl ZJ rfl rfl (Zb q.clrR.1 _ rfl acl ccl (b : Int) (by omega) _ _) ?_
 refine pur 1 rfl ?_
 refine Zl 163 rfl ?_ ?_ <;> intro g163
 refine pur 2 rfl ?_
 refine Z1f rfl rfl rfl rfl ZJ rfl rfl (Zb fr _ rfl ar cr (b : Int) (by omega) _ _) ?_
 refine pur 1 rfl ?_
 refine Zl 167 rfl ?_ ?_ <;> intro g167
 rw [(h4 g163).1] at g167; (focus (simp at g167; done))
 refine pur 2 rfl ?_
 refine Z1f rfl rfl rfl rfl ZJ rfl rfl (Zb few _ rfl aor cor (b : Int) (by omega) _ _) ?_
 refine pur 3 rfl ?_
 refine Z0 rfl ?_ ?_ <;> intro hc2
 first | (focus (simp at hc2; done)) | (rw [(h4 g163).2] at hc2; simp at hc2)
 refine Z2 (sqr 2 rfl (sp rfl (PE.add rfl rfl (by omega)) rfl (pur 1 rfl ?_)))
 exact Z7 ⟨b + 1, by omega⟩ idH
 refine pur 4 rfl ?_
 repeat refine spU rfl rfl rfl rfl rfl rfl rfl ?_
 refine pur 3 rfl ?_
 refine Zv rfl ?_
 refine Z2 (sqr 2 rfl (sp rfl (PE.add rfl rfl (by omega)) rfl (pur 1 rfl ?_)))
 exact Z7 ⟨b + 1, by omega⟩ idH
 refine pur 10 rfl ?_
 refine spG rfl rfl rfl rfl (PE.indexAddr Z1c rfl rfl (by omega) (by omega)) rfl ?_
 refine Z2o rfl rfl rfl rfl rfl (lf0 sc3 (ZQ hgf) rfl) rfl (pur 3 rfl ?_)
 refine Zl 147 rfl ?_ ?_ <;> intro g147
 refine pur 5 rfl ?_
 refine Zl 152 rfl ?_ ?_ <;> intro g152
 first | (focus (simp at g152; done)) | (rw [h2 (of_decide_eq_true g147)] at g152; (focus (simp at g152; done)))
 refine pur 2 rfl ?_
 refine Zl 154 rfl ?_ ?_ <;> intro g154
 refine pur 5 rfl ?_
 refine Zl 159 rfl ?_ ?_ <;> intro g159
 first | (focus (simp at g159; done)) | (rw [h3 g154] at g159; (focus (simp at g159; done)))
 refine pur 2 rfl ?_
 refine Z1f rfl rfl rfl rfl ZJ rfl rfl (Zb q.clrR.1 _ rfl acl ccl (b : Int) (by omega) _ _) ?_
 refine pur 1 rfl ?_
 refine Zl 163 rfl ?_ ?_ <;> intro g163
 refine pur 2 rfl ?_
 refine Z1f rfl rfl rfl rfl ZJ rfl rfl (Zb fr _ rfl ar cr (b : Int) (by omega) _ _) ?_
 refine pur 1 rfl ?_
 refine Zl 167 rfl ?_ ?_ <;> intro g167
 rw [(h4 g163).1] at g167; (focus (simp at g167; done))
 refine pur 2 rfl ?_
 refine Z1f rfl rfl rfl rfl ZJ rfl rfl (Zb few _ rfl aor cor (b : Int) (by omega) _ _) ?_
 refine pur 3 rfl ?_
 refine Z0 rfl ?_ ?_ <;> intro hc2
 first | (focus (simp at hc2; done)) | (rw [(h4 g163).2] at hc2; simp at hc2)
 refine Z2 (sqr 2 rfl (sp rfl (PE.add rfl rfl (by omega)) rfl (pur 1 rfl ?_)))
 exact Z7 ⟨b + 1, by omega⟩ idH
 refine pur 4 rfl ?_
 repeat refine spU rfl rfl rfl rfl rfl rfl rfl ?_
 refine pur 3 rfl ?_
 refine Zv rfl ?_
 refine Z2 (sqr 2 rfl (sp rfl (PE.add rfl rfl (by omega)) rfl (pur 1 rfl ?_)))
 exact Z7 ⟨b + 1, by omega⟩ idH
 refine pur 7 rfl ?_
 refine Z1f rfl rfl rfl rfl ZJ rfl rfl (Zb q.clrR.1 _ rfl acl ccl (b : Int) (by omega) _ _) ?_
 refine pur 1 rfl ?_
 refine Zl 163 rfl ?_ ?_ <;> intro g163
 refine pur 2 rfl ?_
 refine Z1f rfl rfl rfl rfl ZJ rfl rfl (Zb fr _ rfl ar cr (b : Int) (by omega) _ _) ?_
 refine pur 1 rfl ?_
 refine Zl 167 rfl ?_ ?_ <;> intro g167
 rw [(h4 g163).1] at g167; (focus (simp at g167; done))
 refine pur 2 rfl ?_
 refine Z1f rfl rfl rfl rfl ZJ rfl rfl (Zb few _ rfl aor cor (b : Int) (by omega) _ _) ?_
 refine pur 3 rfl ?_
 refine Z0 rfl ?_ ?_ <;> intro hc2
 first | (focus (simp at hc2; done)) | (rw [(h4 g163).2] at hc2; simp at hc2)
 refine Z2 (sqr 2 rfl (sp rfl (PE.add rfl rfl (by omega)) rfl (pur 1 rfl ?_)))
 exact Z7 ⟨b + 1, by omega⟩ idH
 refine pur 4 rfl ?_
 repeat refine spU rfl rfl rfl rfl rfl rfl rfl ?_
 refine pur 3 rfl ?_
 refine Zv rfl ?_
 refine Z2 (sqr 2 rfl (sp rfl (PE.add rfl rfl (by omega)) rfl (pur 1 rfl ?_)))
 exact Z7 ⟨b + 1, by omega⟩ idH
 refine pur 7 rfl ?_
 refine Zl 154 rfl ?_ ?_ <;> intro g154
 refine pur 5 rfl ?_
 refine Zl 159 rfl ?_ ?_ <;> intro g159
 first | (focus (simp at g159; done)) | (rw [h3 g154] at g159; (focus (simp at g159; done)))
 refine pur 2 rfl ?_
 refine Z1f rfl rfl rfl rfl ZJ rfl rfl (Zb q.clrR.1 _ rfl acl ccl (b : Int) (by omega) _ _) ?_
 refine pur 1 rfl ?_
 refine Zl 163 rfl ?_ ?_ <;> intro g163
 refine pur 2 rfl ?_
 refine Z1f rfl rfl rfl rfl ZJ rfl rfl (Zb fr _ rfl ar cr (b : Int) (by omega) _ _) ?_
 refine pur 1 rfl ?_
 refine Zl 167 rfl ?_ ?_ <;> intro g167
 rw [(h4 g163).1] at g167; (focus (simp at g167; done))
 refine pur 2 rfl ?_
 refine Z1f rfl rfl rfl rfl ZJ rfl rfl (Zb few _ rfl aor cor (b : Int) (by omega) _ _) ?_
 refine pur 3 rfl ?_
 refine Z0 rfl ?_ ?_ <;> intro hc2
 first | (focus (simp at hc2; done)) | (rw [(h4 g163).2] at hc2; simp at hc2)
 refine Z2 (sqr 2 rfl (sp rfl (PE.add rfl rfl (by omega)) rfl (pur 1 rfl ?_)))
 exact Z7 ⟨b + 1, by omega⟩ idH
 refine pur 4 rfl ?_
 repeat refine spU rfl rfl rfl rfl rfl rfl rfl ?_
 refine pur 3 rfl ?_
 refine Zv rfl ?_
 refine Z2 (sqr 2 rfl (sp rfl (PE.add rfl rfl (by omega)) rfl (pur 1 rfl ?_)))
 exact Z7 ⟨b + 1, by omega⟩ idH
 refine pur 7 rfl ?_
 refine Z1f rfl rfl rfl rfl ZJ rfl rfl (Zb q.clrR.1 _ rfl acl ccl (b : Int) (by omega) _ _) ?_
 refine pur 1 rfl ?_
 refine Zl 163 rfl ?_ ?_ <;> intro g163
 refine pur 2 rfl ?_
 refine Z1f rfl rfl rfl rfl ZJ rfl rfl (Zb fr _ rfl ar cr (b : Int) (by omega) _ _) ?_
 refine pur 1 rfl ?_
 refine Zl 167 rfl ?_ ?_ <;> intro g167
 rw [(h4 g163).1] at g167; (focus (simp at g167; done))
 refine pur 2 rfl ?_
 refine Z1f rfl rfl rfl rfl ZJ rfl rfl (Zb few _ rfl aor cor (b : Int) (by omega) _ _) ?_
 refine pur 3 rfl ?_
 refine Z0 rfl ?_ ?_ <;> intro hc2
 first | (focus (simp at hc2; done)) | (rw [(h4 g163).2] at hc2; simp at hc2)
 refine Z2 (sqr 2 rfl (sp rfl (PE.add rfl rfl (by omega)) rfl (pur 1 rfl ?_)))
 exact Z7 ⟨b + 1, by omega⟩ idH
 refine pur 4 rfl ?_
 repeat refine spU rfl rfl rfl rfl rfl rfl rfl ?_
 refine pur 3 rfl ?_
 refine Zv rfl ?_
 refine Z2 (sqr 2 rfl (sp rfl (PE.add rfl rfl (by omega)) rfl (pur 1 rfl ?_)))
 exact Z7 ⟨b + 1, by omega⟩ idH
 refine Z9 (Za (Za (Zo (sqt 8 rfl ?_))))
 have hflr : ZT q.bins few = 0 := Zcj horg.lt horg.srt
 refine spL rfl rfl (lhA (htl q (q.sg ag cg) (q.ss aS cSg)) Z0g rfl rfl rfl) rfl (pur 1 rfl ?_)
 refine clV rfl Zb7 rfl rfl (Z1I q ag aS cg cSg hokq few aor cor hflr horg.ex (by omega) hcor9 _ _) ?_
 refine pur 5 rfl (Z1 (sqt 21 rfl (pur 3 rfl ?_)))
 refine Zl 183 rfl ?_ ?_ <;> intro g183
 exact absurd g183 (by simp)
 refine pur 4 rfl ?_
 refine Zl 187 rfl ?_ ?_ <;> intro g187
 exact absurd g187 (by simp)
 refine pur 1 rfl ?_
 refine Z1f rfl rfl rfl rfl ZaK rfl rfl (Z1M few aor cor (by omega) horg.srt _ _) ?_
 refine pur 3 rfl ?_
 refine Zl 192 rfl ?_ ?_ <;> intro g192
 exact absurd g192 (by simp)
 refine pur 1 rfl ?_
 refine Z1f rfl rfl rfl rfl ZaK rfl rfl (Z1M (q.surR (n2 % 10)).1 asr csr (by omega) (Zb4 _ _) _ _) ?_
 refine pur 3 rfl ?_
 refine Zl 197 rfl ?_ ?_ <;> intro g197
 exact absurd g197 (by simp)
 refine pur 1 rfl ?_
 refine Z1f rfl rfl rfl rfl ZaK rfl rfl (Z1M (q.perR (n2 % 10)).1 apr cpr (by omega) (ZaM _ _) _ _) ?_
 refine pur 2 rfl ?_
 refine Z0 rfl ?_ ?_ <;> intro hc3
 exact absurd hc3 (by simp)
 refine Z2 (sqt 1 rfl (pur 1 rfl (Z1 (sqt 3 rfl (sp rfl (PE.fA Z05 rfl) rfl (spL rfl rfl (lh (v := .int .i64 q.bins) sc3 rfl rfl) rfl (pur 1 rfl (Z3 ?_))))))))
 refine Ze (ι := (b : {b : Nat // b ≤ q.bins.toNat}) × OSl 3 1 (Z4 (q.rst b.1))) (fun y => ⟨[(7, .pointer (some ⟨b7, 0, none⟩)), (8, .slice ar fr.length cr), (9, .int .i64 (n2 % 10)), (12, .slice aor few.length cor), (16, .slice asr (q.surR (n2 % 10)).1.length csr), (18, .slice apr (q.perR (n2 % 10)).1.length cpr), (20, .slice acl q.clrR.1.length ccl), (26, y.2.fs), (203, .int .i64 q.bins), (204, .int .i64 y.1.1)], y.2.G ++ ((bq, cel 72 [.slice a1 l1.length c1, .int .i64 (tqc), .int .u32 (mxc)]) :: (b7, cel 26 (htl q (q.sg ag cg) (q.ss aS cSg))) :: (bk, cel 72 [.slice a0 l0.length c0, .int .i64 (tqb), .int .u32 (mxb)]) :: H), RowsA aw 1 (Z4 (Z1x q.gaps (clP []) (msk fr) q.bins.toNat)) :: RowsA acl 1 (Z4 q.clrR.1) :: RowsA apr 1 (Z4 (q.perR (n2 % 10)).1) :: RowsA asr 1 (Z4 (q.surR (n2 % 10)).1) :: RowsA aap 1 (Z4 apt) :: RowsA aor 1 (Z4 few) :: RowsA aS 3 (Zh q.sights) :: RowsA none 3 (Zh h.sights) :: RowsA ar 1 (Z4 fr) :: RowsA ag 2 (Zi q.gaps) :: R⟩) (fun y => q.bins.toNat - y.1.1) ⟨⟨0, Nat.zero_le _⟩, OSl.nil _ _⟩ ?_ (fun y => ?_)
 exact Zn idH
 obtain ⟨⟨b, hb⟩, o⟩ := y
 dsimp only at hb o ⊢
 have hrl : (q.rst b).length ≤ b := Z0a _ _
 refine sqt 1 rfl (pur 1 rfl (Z1 ?_))
 refine Z0 rfl ?_ ?_ <;> intro hc4 <;> try simp only [cS] at hc4
 refine Z2 (Z1 (Z3 (sqt 2 rfl (pur 2 rfl (sqt 4 rfl (pur 2 rfl ?_))))))
 refine clV rfl ZJ rfl rfl (Zb q.clrR.1 _ rfl acl ccl (b : Int) (by omega) _ _) ?_
 refine pur 1 rfl ?_
 refine Z0 rfl ?_ ?_ <;> intro hc5 <;> try simp only [cS] at hc5
 have hb2 : q.rst (b + 1) = q.rst b ++ [(b : Int)] := Z3i (p := fun b => !Z02 q.clrR.1 (b : Int)) (by first | exact hc5 | (rw [hc5]; rfl))
 refine sqr 5 rfl (pur 2 rfl ?_)
 refine bsl (out := [_]) rfl Z0E zl3 rfl rfl rfl rfl rfl rfl (fun b213 => ?_)
 refine apO (o) rfl Z3l rfl rfl (Z0r (row := [.int .i64 b]) rfl) rfl rfl ((by rw [irl]; simp only [List.length_singleton]; omega)) rfl (fun o214 => ?_)
 refine pur 1 rfl (sqr 2 rfl (sp rfl (PE.add rfl rfl (by omega)) rfl (pur 1 rfl ?_)))
 exact Z7 ⟨⟨b + 1, by omega⟩, o214.cast (by rw [hb2]; simp [Z4])⟩ (fun w h9 => h9.del b213)
 have hb2 : q.rst (b + 1) = q.rst b := Z1z (p := fun b => !Z02 q.clrR.1 (b : Int)) (by first | exact hc5 | (rw [hc5]; rfl))
 refine Z2 (sqr 2 rfl (sp rfl (PE.add rfl rfl (by omega)) rfl (pur 1 rfl ?_)))
 exact Z7 ⟨⟨b + 1, by omega⟩, o.cast (by rw [hb2])⟩ idH
 obtain rfl : b = q.bins.toNat := by omega
 obtain ⟨are, cre, he, hcre, hzz⟩ := o.freezeC
 rw [irl] at hcre
 rw [he, irl]
 refine Sy.heap (fun w h9 => hzz h9) ?_
 clear he hzz
 have hrin : ∀ x ∈ q.rst q.bins.toNat, 0 ≤ x ∧ x < q.bins := Z5f _ (by omega)
 have hrex : Z19 q.gaps (msk (q.rst q.bins.toNat)) q.sights = true := by rw [Z6N hokq]; exact haq
 refine Z9 (Za (Za (Zo (sqt 8 rfl (spL rfl rfl (lhA (htl q (q.sg ag cg) (q.ss aS cSg)) Z0g rfl rfl rfl) rfl (pur 1 rfl ?_))))))
 refine clV rfl Zb7 rfl rfl (Z1I q ag aS cg cSg hokq (q.rst q.bins.toNat) are cre (Z82 _ (by omega)) hrex (by omega) hcre _ _) ?_
 refine pur 5 rfl (sqt 4 rfl (spL rfl rfl (lhA (htl q (q.sg ag cg) (q.ss aS cSg)) Z0g rfl rfl rfl) rfl (pur 1 rfl ?_)))
 refine Sy.heap (fun w h9 => St.norows9 (sz := 1) h9) ?_
 refine cl rfl ZaL rfl rfl (Z4a q ag aS cg cSg hokq (q.rst q.bins.toNat) are cre (by omega) (fun x hx => (hrin x hx).1) [] none 0 (by decide) (by decide) (by simp [lls]) _ _) ?_
 rintro _ _ R1 ⟨av, cv, rfl, rfl, hR1⟩
 obtain rfl := hR1.symm
 clear hR1
 refine pur 1 rfl (Z1 (sqt 3 rfl (sp rfl (PE.fA Z05 rfl) rfl (spL rfl rfl (lh (v := .int .i64 q.bins) sc3 rfl rfl) rfl (pur 1 rfl (Z3 ?_))))))
 refine Ze (ι := {b : Nat // b ≤ q.bins.toNat}) (fun b => ⟨[(9, .int .i64 (n2 % 10)), (10, .bool true), (11, .int .i64 0), (18, .slice apr (q.perR (n2 % 10)).1.length cpr), (28, .slice av q.bins.toNat cv), (226, .int .i64 q.bins), (227, .int .i64 b.1)], (bq, cel 72 [.slice a1 l1.length c1, .int .i64 (tqc), .int .u32 (mxc)]) :: (b7, cel 26 (htl q (q.sg ag cg) (q.ss aS cSg))) :: (bk, cel 72 [.slice a0 l0.length c0, .int .i64 (tqb), .int .u32 (mxb)]) :: H, RowsA av 1 (Z4 (Z1x q.gaps (clP []) (msk (q.rst q.bins.toNat)) q.bins.toNat)) :: RowsA aw 1 (Z4 (Z1x q.gaps (clP []) (msk fr) q.bins.toNat)) :: RowsA acl 1 (Z4 q.clrR.1) :: RowsA apr 1 (Z4 (q.perR (n2 % 10)).1) :: RowsA asr 1 (Z4 (q.surR (n2 % 10)).1) :: RowsA aap 1 (Z4 apt) :: RowsA aor 1 (Z4 few) :: RowsA aS 3 (Zh q.sights) :: RowsA none 3 (Zh h.sights) :: RowsA ar 1 (Z4 fr) :: RowsA ag 2 (Zi q.gaps) :: R⟩) (fun b => q.bins.toNat - b.1) ⟨0, Nat.zero_le _⟩ ?_ (fun b => ?_)
 exact Zn (fun w h9 => h9.facts (fun g hg => by simp only [List.mem_cons] at hg ⊢; rcases hg with h8 | h8 | h8 | h8 | h8 | h8 | h8 | h8 | h8 | h8 | h8 | h8 <;> simp [h8]))
 obtain ⟨b, hb⟩ := b
 dsimp only at hb ⊢
 refine sqt 1 rfl (pur 1 rfl (Z1 ?_))
 refine Z0 rfl ?_ ?_ <;> intro hc6 <;> try simp only [cS] at hc6
 have hbB : b < q.bins.toNat := by omega
 have hrc := ZaE hokq haq hw4 hbB
 have hgf := Z07 (l := (Z1x q.gaps (clP []) (msk (q.rst q.bins.toNat)) q.bins.toNat)) (k := b) (by rw [Z04]; exact hbB)
 generalize na (Z1x q.gaps (clP []) (msk (q.rst q.bins.toNat)) q.bins.toNat) b = vv at *
 refine Zm (a := av) (sz := 1) (rows := Z4 (Z1x q.gaps (clP []) (msk (q.rst q.bins.toNat)) q.bins.toNat)) (by intro h0; have := congrArg List.length h0; rw [irl] at this; simp only [List.length_nil] at this; rw [Z04] at this; omega) (fun bv bvo hebv => ?_)
 subst hebv
 refine Z2 (Z1 (Z3 (sqt 2 rfl (pur 2 rfl (Z1 ?_)))))
 refine Zc [0, 0, 3, 7, 0, 31, 0, 0, 192, 511] (tks 0 3 (.ld 3 (tks 4 4 (.big 8 (.tk 9 .done))))) Zw (by kernel_rfl) ?_
 refine Zr 2 rfl (tk rfl (PE.indexAddr Z1c rfl rfl (by omega) (by omega)) rfl (ld rfl rfl (lf0 sc3 (ZQ hgf) rfl) rfl (Zr 4 rfl ?_)))
 refine clV rfl ZJ rfl rfl (Zb (q.perR (n2 % 10)).1 _ rfl apr cpr (b : Int) (by omega) _ _) ?_
 refine bg (fun w hs => ⟨(lf0 sc3 (ZQ hgf) rfl) w hs, trivial⟩) ?_
 refine tk rfl (PE.neqBool ub4 rfl rfl) rfl ?_
 refine Z0 rfl ?_ ?_ <;> intro hc7
 rw [hrc] at hc7; simp at hc7
 refine Z2 (sqr 2 rfl (sp rfl (PE.add rfl rfl (by omega)) rfl (pur 1 rfl ?_)))
 exact Z7 ⟨b + 1, by omega⟩ idH
 refine Z9 (Za (Za (Zo (sqt 9 rfl (pur 3 rfl ?_)))))
 refine Zl 243 rfl ?_ ?_ <;> intro g243
 refine pur 3 rfl ?_
 refine Zl 246 rfl ?_ ?_ <;> intro g246
 refine Z1f rfl rfl rfl rfl Zda rfl rfl (Zal _ _) ?_
 refine pur 2 rfl (Z5 ?_)
 exact rtA rfl rfl rfl ⟨rfl, rfl, rfl⟩ (fun w h9 => (((h9.del bq).del b7).del bk).sub)
 exact absurd g246 (by simp)
 exact absurd g243 (by simp)
end Go.Proofs.Ythfgcnmcipcbbaa
