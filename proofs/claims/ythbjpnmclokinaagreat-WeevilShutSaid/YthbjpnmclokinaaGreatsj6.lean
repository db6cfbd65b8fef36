/- Walks of the functions of the program, and the laws that join them: what the last theorem of this claim needs, in order. -/
import Derived.Test.YthbjpnmclokinaaGreatsj5
namespace Go.Proofs.YthbjpnmclokinaaGreat
set_option linter.unusedSimpArgs false
set_option linter.unusedVariables false
open Go
theorem Zd9 : arE Tryz.prog 135 = some (10, 3) := by kernel_rfl
theorem ZcW : cal Tryz.prog 143 = true := by kernel_rfl
theorem Zcx : cal Tryz.prog 144 = true := by kernel_rfl
theorem Zf7 : cal Tryz.prog 91 = true := by kernel_rfl
theorem ZeH : cal Tryz.prog 93 = true := by kernel_rfl
theorem Fn.lendWO {P : Program} {f : FuncId} {args : List Value} {q : Value → Z8 → Prop} {b e sz : Nat} {l : List Value} {T : Z8} {R : Z5} (hz : l.length = sz)
    (h : ∀ B : World → Prop, Fn P f args T (RowsA (some ⟨b, 0, none⟩) sz [l] :: B :: R) (fun v H' R' => q v H' ∧ R' = RowsA (some ⟨b, 0, none⟩) sz [l] :: B :: R)) : Fn P f args ((b, cel e l) :: T) R (fun v H' R' => ∃ T', q v T' ∧ H' = (b, cel e l) :: T' ∧ R' = R) := fun w hw => by
  have h5 : St T (RowsA (some ⟨b, 0, none⟩) sz [l] :: Z6H b (cel e l) R :: R) w :=
    St.also hw.lend (fun w' hg => Z3J (e := e) (rows := [l]) (junk := []) (by simpa using (hg (Z6H b (cel e l) R) (by simp)).1) (fun r hr => by rw [List.mem_singleton.1 hr]; exact hz))
  refine CallsIn.mono (h _ w h5) ?_
  rintro e' w' ⟨u, H', R', ⟨hp, rfl⟩, he, hs'⟩
  have h6 := hs'.ftail
  exact ⟨u, _, R, ⟨H', hp, rfl, rfl⟩, he, h6.unlend (Z94 h6)⟩
def Z4r (l : List Int) : List Int := l.map fun x => -x
theorem Zal (l : List Int) (i : Nat) : na (Z4r l) i = -na l i := by
  unfold na Z4r
  rw [List.getD_eq_getElem?_getD, List.getD_eq_getElem?_getD, List.getElem?_map]
  cases l[i]? <;> simp
theorem Z7Y (l : List Int) : (fun i => -na l i) = na (Z4r l) := by funext i; rw [Zal]
def Z7z (l : List Int) (k : Nat) : List Int := (Z4r l).take k ++ List.replicate (l.length - k) 0
theorem Z1A (l : List Int) : (Z4r l).length = l.length := List.length_map _
theorem Z9R {l : List Int} {k : Nat} (h : k ≤ l.length) : (Z7z l k).length = l.length := by unfold Z7z; rw [List.length_append, List.length_take, Z1A, List.length_replicate]; omega
theorem Za4 {l : List Int} {k : Nat} (h : k < l.length) : (Z7z l k).set k (-na l k) = Z7z l (k + 1) := by
  unfold Z7z
  have h1 : ((Z4r l).take k).length = k := by rw [List.length_take, Z1A]; omega
  rw [List.set_append_right _ _ (by omega), h1, Nat.sub_self, show l.length - k = (l.length - (k + 1)) + 1 by omega, List.replicate_succ, List.set_cons_zero, ← Zal, List.take_add_one, Z0s (l := Z4r l) (by rw [Z1A]; exact h), List.append_assoc]; rfl
theorem Z9q (l : List Int) : Z7z l l.length = Z4r l := by unfold Z7z; rw [Nat.sub_self, List.take_of_length_le (by rw [Z1A]; exact Nat.le_refl _)]; exact List.append_nil _
def Zex (l : List Int) : Nat := msF (fun i => decide (na l i = 0)) 10
theorem Z6Z {l : List Int} {i : Nat} (h : i < 10) : (!(Zex l).testBit i) = decide (na l i ≠ 0) := by
  unfold Zex
  rw [Z2L, decide_eq_true h, Bool.true_and, ← decide_not]
theorem Stp.cg {gs : List Gp} {op op2 : Nat → Bool} {f : Nat → Int} (ho : ∀ i, i < gs.length → op i = op2 i) {u i v : Nat} : Stp gs op f u i v ↔ Stp gs op2 f u i v := by
  constructor
  · rintro ⟨g, h1, h2, h3⟩; exact ⟨g, h1, by rw [← ho i (List.getElem?_eq_some_iff.1 h1).1]; exact h2, h3⟩
  · rintro ⟨g, h1, h2, h3⟩; exact ⟨g, h1, by rw [ho i (List.getElem?_eq_some_iff.1 h1).1]; exact h2, h3⟩
theorem Srch.cg {gs : List Gp} {op op2 : Nat → Bool} {f : Nat → Int} {S K : Nat} {V : List (Nat × Int)} (ho : ∀ i, i < gs.length → op i = op2 i) (h : Srch gs op f S K V) : Srch gs op2 f S K V := ⟨h.nd, h.lt, h.from_, fun q x hx => (h.par q x hx).imp id fun ⟨h1, i, p, y, h2, h3, h4, h5, h6⟩ => ⟨h1, i, p, y, h2, h3, h4, h5, (Stp.cg ho).1 h6⟩⟩
theorem Shn.cg {gs : List Gp} {op op2 : Nat → Bool} {f : Nat → Int} {S K : Nat} {V : List (Nat × Int)} (ho : ∀ i, i < gs.length → op i = op2 i) (h : Shn gs op f S K V) : Shn gs op2 f S K V := ⟨h.s.cg ho, h.no, fun u v i h1 h2 => h.cl u v i h1 ((Stp.cg ho).2 h2)⟩
theorem Way.cg {gs : List Gp} {op op2 : Nat → Bool} {f : Nat → Int} {S K : Nat} (ho : ∀ i, i < gs.length → op i = op2 i) : ∀ {l : List (Nat × Nat)} {u w : Nat}, Way gs op f S K u l w → Way gs op2 f S K u l w
  | [], u, w, h => by cases h; exact .nil _
  | (i, v) :: l, u, w, h => by
    cases h with
    | cons hg ho9 hk hsv hs h =>
      exact .cons hg (by rw [← ho i (List.getElem?_eq_some_iff.1 hg).1]; exact ho9) hk hsv hs (Way.cg ho h)
theorem WayK.cg {gs : List Gp} {op op2 : Nat → Bool} {f : Nat → Int} {S K u w : Nat} {l : List (Nat × Nat)} (ho : ∀ i, i < gs.length → op i = op2 i) (h : WayK gs op f S K u l w) : WayK gs op2 f S K u l w := ⟨h.way.cg ho, h.nd, h.from_, h.to⟩
def WyK (gs : List Gp) (S K : Nat) (p : List Int) : Prop := ∃ (op : Nat → Bool) (f : Nat → Int) (u : Nat) (l : List (Nat × Nat)) (w : Nat), WayK gs op f S K u l w ∧ l ≠ [] ∧ p = l.map fun x => (x.1 : Int)
structure WysP (gs : List Gp) (S K : Nat) (pl : List PL) : Prop where
  rng : ∀ x ∈ (lls pl).flatten, 0 ≤ x ∧ x < (gs.length : Int)
  nd : (lls pl).flatten.Nodup
  wy : ∀ p ∈ lls pl, WyK gs S K p
structure WysI (gs : List Gp) (S K : Nat) (fl : List Int) (pl : List PL) (F : Int) : Prop where
  p : WysP gs S K pl
  len : fl.length = 10
  flw : Flw (na fl) S K gs
  cnt : Z0A (na fl) S gs + pl.length = F
  zr : ∀ x ∈ (lls pl).flatten, na fl x.toNat = 0
theorem Zb9 {f : Nat → Int} {l : List (Nat × Nat)} {i : Nat} (h : i ∈ l.map (·.1)) : Z57 f l i = 0 := by
  obtain ⟨x, hx, rfl⟩ := List.mem_map.1 h
  unfold Z57
  rw [List.any_eq_true.2 ⟨x, hx, decide_eq_true rfl⟩]; rfl
theorem WysI.more {gs : List Gp} {S K : Nat} {fl fl2 : List Int} {pl : List PL} {F : Int} (h : WysI gs S K fl pl F) (ht : Two gs S K) {u w : Nat} {l : List (Nat × Nat)} (hw : WayK gs (fun i => decide (na fl i ≠ 0)) (na (Z4r fl)) S K u l w) (hl : l ≠ []) (h2 : fl2.length = 10) (he : ∀ i, na fl2 i = Z57 (na fl) l i) {x : PL} (hx : x.l = l.map fun y => (y.1 : Int)) : WysI gs S K fl2 (pl ++ [x]) F := by
  have hw2 : WayK gs (fun i => decide (na fl i ≠ 0)) (fun i => -na fl i) S K u l w := by rw [Z7Y]; exact hw
  obtain ⟨h3, h4⟩ := h.flw.less ht.no ht.ab hw2
  have hfe : na fl2 = Z57 (na fl) l := funext he
  have hfn : (lls (pl ++ [x])).flatten = (lls pl).flatten ++ l.map fun y => (y.1 : Int) := by rw [Z2g, List.flatten_append, List.flatten_singleton, hx]
  have hin : ∀ y ∈ l.map fun y : Nat × Nat => (y.1 : Int), ∃ i : Nat, y = i ∧ i < gs.length ∧ na fl i ≠ 0 ∧ i ∈ l.map (·.1) := fun y hy => by
    obtain ⟨z, hz, rfl⟩ := List.mem_map.1 hy
    obtain ⟨g, _, h5, h6, _⟩ := hw.way.mem z hz
    exact ⟨z.1, rfl, (List.getElem?_eq_some_iff.1 h5).1, of_decide_eq_true h6, List.mem_map.2 ⟨z, hz, rfl⟩⟩
  refine ⟨⟨fun y hy => ?_, ?_, fun p hp => ?_⟩, h2, by rw [hfe]; exact h3, ?_, fun y hy => ?_⟩
  · rw [hfn] at hy
    rcases List.mem_append.1 hy with h5 | h5
    · exact h.p.rng y h5
    · obtain ⟨i, rfl, h6, _⟩ := hin y h5; omega
  · rw [hfn]
    refine List.nodup_append.2 ⟨h.p.nd, ?_, fun a ha b hb e => ?_⟩
    · have h5 := hw.nd
      rw [List.nodup_iff_pairwise_ne, List.pairwise_map] at h5 ⊢
      exact h5.imp fun h6 h7 => h6 (by omega)
    · subst e
      obtain ⟨i, rfl, _, h6, _⟩ := hin a hb
      have h7 := h.zr _ ha
      rw [Int.toNat_natCast] at h7
      exact h6 h7
  · rw [Z2g] at hp
    rcases List.mem_append.1 hp with h5 | h5
    · exact h.p.wy p h5
    · rw [List.mem_singleton.1 h5, hx]
      exact ⟨_, _, u, l, w, hw, hl, rfl⟩
  · rw [hfe, h4, List.length_append, List.length_singleton]
    have := h.cnt; omega
  · rw [he]
    rw [hfn] at hy
    rcases List.mem_append.1 hy with h5 | h5
    · have h6 := h.zr y h5
      unfold Z57
      rw [h6]
      cases l.any fun x => decide (x.1 = y.toNat) <;> rfl
    · obtain ⟨i, rfl, _, _, h6⟩ := hin y h5
      rw [Int.toNat_natCast]; exact Zb9 h6
theorem WysI.done {gs : List Gp} {S K : Nat} {fl : List Int} {pl : List PL} {F : Int} (h : WysI gs S K fl pl F) {V : List (Nat × Int)} (hs : Shn gs (fun i => decide (na fl i ≠ 0)) (na (Z4r fl)) S K V) : (pl.length : Int) = F := by
  have h1 := Shn.empty (f := na fl) (by rw [Z7Y]; exact hs) h.flw
  have := h.cnt; omega
theorem WysI.few {gs : List Gp} {S K : Nat} {fl : List Int} {pl : List PL} {F : Int} (h : WysI gs S K fl pl F) : (pl.length : Int) ≤ F := by
  have h1 := Z7S h.flw.drc
  have := h.cnt; omega
theorem ZbB {gs : List Gp} {S K m : Nat} (h : Cut gs S K m) : m ≤ gs.length := by
  obtain ⟨C, _, _, h3⟩ := h.1
  rw [← h3]; exact Z1L _ _
theorem pX9 {α : Type} (a b c : α) (G T : List α) : (a :: b :: c :: (G ++ T)).Perm (G ++ (a :: b :: c :: T)) := by
  have := List.perm_append_comm_assoc [a, b, c] G T
  simpa using this
theorem ZcV {α : Type} {l : List α} {p q : α → Bool} (h : ∀ x ∈ l, p x = q x) : l.all p = l.all q := by
  rw [Bool.eq_iff_iff, List.all_eq_true, List.all_eq_true]
  exact ⟨fun h1 x hx => by rw [← h x hx]; exact h1 x hx, fun h1 x hx => by rw [h x hx]; exact h1 x hx⟩
def Hse.shB (h : Hse) (fr to_ gp : List Int) : Bool := to_.all fun k => decide (far ≤ wk h.gaps (msk gp) (msk fr) k.toNat)
def Hse.shE (h : Hse) (fr to_ gp : List Int) : Int := bif decide (h.botE fr to_ ≠ 0) then h.botE fr to_ else Zz (h.gaps.length : Int) gp
def Hse.shR (h : Hse) (fr to_ gp : List Int) : Bool × Int := (decide (h.shE fr to_ gp = 0) && h.shB fr to_ gp, h.shE fr to_ gp)
theorem Za5 {h : Hse} {fr to_ gp : List Int} {e : Int} (he : h.shE fr to_ gp = e) (h0 : e ≠ 0) : h.shR fr to_ gp = (false, e) := by unfold Hse.shR; rw [he, decide_eq_false h0]; rfl
theorem Zav {h : Hse} {fr to_ gp : List Int} (he : h.shE fr to_ gp = 0) : h.shR fr to_ gp = (h.shB fr to_ gp, 0) := by unfold Hse.shR; rw [he]; rfl
def ZeJ (h : Hse) (fr to_ : List Int) (H : Z8) (R : Z5) : Value → Z8 → Z5 → Prop := fun v H' R' => H' = H ∧ ((h.botE fr to_ ≠ 0 ∧ v = .tuple #[.slice none 0 0, .int .i64 (h.botE fr to_)] ∧ R' = R) ∨
  (h.botE fr to_ = 0 ∧ ∃ (pl : List PL) (a : Option Addr) (c : Nat), pl.length ≤ 10 ∧ pl.length ≤ c ∧ WysP h.gaps (msk fr) (msk to_) pl ∧ Cut h.gaps (msk fr) (msk to_) pl.length ∧ v = .tuple #[.slice a pl.length c, .int .i64 0] ∧ R' = RowsA a 1 (Zt pl) :: Inn pl :: R))
theorem Zbj (fl : List Int) (hfl : fl.length = 10) (bw i : Nat) (hi : i < 10) (H : Z8) (R : Z5) [mF : MemRows (some ⟨bw, 0, none⟩) 10 [Zm fl] R] :
    FnV Tryz.prog 93 [.int .i64 (i : Int), .pointer (some ⟨bw, 0, none⟩)] H R (.bool (!(decide (na fl i = 0)))) := by
 refine Ze Tryz.func93 rfl Tryz.ntmps93 rfl ?_
 refine sqt 1 rfl (pur 1 rfl (sqt 5 rfl (pur 1 rfl (sp rfl (PE.indexArr Z4n rfl rfl (by omega) (by omega)) rfl (spL rfl rfl (lfB (sz := 10) sc3 (Z0y (w := fl) (k := i) (by omega) (by show 0 + ((i : Nat) : Int).toNat * 1 = i; omega))) rfl (pur 2 rfl (Z6 ?_)))))))
 exact rtA rfl rfl rfl ⟨by simp [Z05], rfl, rfl⟩ drp
abbrev dkW (h : Hse) (ag as_ : Option Addr) (cg cs : Nat) (bd b9 : Nat) (fl : List Int) : Dk := (Dk.mk h ag as_ cg cs bd 93 [] [.pointer (some ⟨b9, 0, none⟩)] (Zex fl) [RowsA (some ⟨b9, 0, none⟩) 10 [Zm fl]])
theorem Zdo (h : Hse) (ag as_ : Option Addr) (cg cs : Nat) (hok : h.ok) (bd b9 : Nat) (fl : List Int) (hfl : fl.length = 10) : (dkW h ag as_ cg cs bd b9 fl).Ok := ⟨hok, ZeH, fun i H R hi hR => by
  have hi10 : i < 10 := Nat.lt_of_lt_of_le hi hok.gl
  have e : (!(dkW h ag as_ cg cs bd b9 fl).cl.testBit i) = !(decide (na fl i = 0)) := by
    show (!(Zex fl).testBit i) = _
    rw [Z6Z hi10, decide_not]
  rw [e]
  haveI : MemRows (some ⟨b9, 0, none⟩) 10 [Zm fl] R := ⟨hR _ (by simp)⟩
  exact Zbj fl hfl b9 i hi10 H R⟩
set_option maxHeartbeats 1000000 in
theorem Zdu (h : Hse) (ag as_ : Option Addr) (cg cs : Nat) (hlg : h.gaps.length ≤ 9223372036854775807) (hls : h.sights.length ≤ 9223372036854775807) (fr to_ : List Int) (af at_ : Option Addr) (cf ct : Nat) (hlf : fr.length ≤ 1000000) (hlt : to_.length ≤ 1000000) (hfc : fr.length ≤ cf) (htc : to_.length ≤ ct) (H : Z8) (R : Z5) [hG : MemRows ag 2 (Zk h.gaps) R] [hS : MemRows as_ 3 (Zo h.sights) R] [hF : MemRows af 1 (Z3 fr) R] [hT : MemRows at_ 1 (Z3 to_) R] :
    Fn Tryz.prog 35 [h.v (h.sg ag cg) (h.ss as_ cs), .slice af fr.length cf, .slice at_ to_.length ct] H R (ZeJ h fr to_ H R) := by
 refine Ze Tryz.func35 rfl Tryz.ntmps35 rfl ?_
 refine sqt 3 rfl (bx rfl rfl rfl (fun b3 => pur 2 rfl (Z0 (sqt 5 rfl (spL rfl rfl (lhA (htl h (h.sg ag cg) (h.ss as_ cs)) Z06 rfl rfl rfl) rfl (pur 2 rfl ?_))))))
 refine clV rfl Z6t rfl rfl (Z3O h ag as_ cg cs hlg hls fr to_ af at_ cf ct (by omega) (by omega) hfc htc _ _) ?_
 refine pur 1 rfl (sqt 2 rfl (pur 2 rfl ?_))
 refine Z1 rfl ?_ ?_ <;> intro hc0
 have hbe : h.botE fr to_ ≠ 0 := of_decide_eq_true hc0
 refine sqt 3 rfl (pur 3 rfl (Z6 ?_))
 exact rtB rfl rfl rfl rfl ⟨rfl, .inl ⟨hbe, rfl, rfl⟩⟩ (fun w h9 => h9.del b3)
 have hbe : h.botE fr to_ = 0 := Classical.byContradiction fun e => by rw [decide_eq_true e] at hc0; cases hc0
 have hb := Z0x hbe
 obtain ⟨q1, q2, q3, q4, q5, q6⟩ := Z0g hb
 have hok := hb.ok
 have hgl := hok.gl
 have ht := Z19 hb
 refine Z2 (sqt 11 rfl (spL rfl rfl (lhA (htl h (h.sg ag cg) (h.ss as_ cs)) Z06 rfl rfl rfl) rfl ?_))
 refine cl rfl Z59 rfl rfl (Z5j h ag as_ cg cs _ _) ?_
 rintro _ _ _ ⟨bd, rfl, rfl, rfl⟩
 refine pur 2 rfl ?_
 refine cl rfl Zdf rfl rfl (Zay (dkA h ag as_ cg cs bd) (Z0J h ag as_ cg cs hok bd) fr to_ af at_ cf ct q1 q2 q3 (by omega) hb.no _ _) ?_
 rintro _ _ R1 ⟨f0, V0, m0, rfl, rfl, hR1, hfl0, hfw0, hsh0⟩
 obtain rfl := hR1.symm
 clear hR1
 rw [show (dkA h ag as_ cg cs bd).h.gaps = h.gaps from rfl] at hfw0
 rw [Z7Q h ag as_ cg cs bd] at hsh0
 obtain ⟨hcut, _⟩ := hsh0.cut ht hfw0
 have hfull : Z0A (na f0) (msk fr) h.gaps = (Z0p (Z10 V0) h.gaps).length := hsh0.full hfw0
 have hc10 := ZbB hcut
 have hwi : WysI h.gaps (msk fr) (msk to_) f0 [] (Z0p (Z10 V0) h.gaps).length := ⟨⟨by simp [lls], by simp [lls], by simp [lls]⟩, hfl0, hfw0, by rw [hfull]; simp, by simp [lls]⟩
 refine pur 3 rfl (alc rfl Z8u rfl (fun b9 => ?_))
 refine ZaO rfl rfl rfl Zbp rfl (by rw [Zb]; exact hfl0) rfl (Z0H _) ?_
 refine pur 1 rfl (sqt 1 rfl (pur 1 rfl (Z4 ?_)))
 skip
 refine Sy.heap (fun w h9 => St.inn0 h9) ?_
 refine Zc (ι := (x : {x : List Int × List PL // WysI h.gaps (msk fr) (msk to_) x.1 x.2 (Z0p (Z10 V0) h.gaps).length}) × OSl 26 1 (Zt x.1.2)) (fun y => ⟨[(1, .slice af fr.length cf), (2, .slice at_ to_.length ct), (3, .pointer (some ⟨b3, 0, none⟩)), (9, .pointer (some ⟨b9, 0, none⟩)), (11, y.2.fs)], (b9, cel 135 (Zm y.1.1.1)) :: (y.2.G ++ ((m0, Z0c false (vkv V0)) :: (b3, cel 25 (htl h (h.sg ag cg) (h.ss as_ cs))) :: H)), Inn y.1.1.2 :: RowsA (some ⟨bd, 0, none⟩) 4 [(dkA h ag as_ cg cs bd).row] :: R⟩) (fun y => (Z0p (Z10 V0) h.gaps).length - y.1.1.2.length) ⟨⟨(f0, []), hwi⟩, OSl.nil _ _⟩ ?_ (fun y => ?_)
 exact Zh idH
 obtain ⟨⟨⟨fl, pl⟩, hwi⟩, plo⟩ := y
 dsimp only at hwi plo ⊢
 have hfl := hwi.len
 have hpf := hwi.few
 refine Z4 (sqt 5 rfl (spL rfl rfl (lhA (htl h (h.sg ag cg) (h.ss as_ cs)) Z06 rfl rfl rfl) rfl (sp rfl (PE.makeFunc rfl rfl) rfl (sp rfl (PE.build (out := [_, _, _, _]) ZbL Zbv rfl rfl) rfl (bx rfl rfl rfl (fun b38 => pur 1 rfl (sqt 1 rfl (alc rfl Z8u rfl (fun b13 => Z0 (sqt 2 rfl (spL rfl rfl (lhI fl Z6r rfl rfl (hfl)) rfl (pur 1 rfl (Z4 ?_)))))))))))))
 refine Sy.heap (fun w h9 => St.rows (sz := 4) (rows := [(dkW h ag as_ cg cs b38 b9 fl).row]) (rest := []) (h9.pull b38) (by simp [Dk.row])) ?_
 refine Zc (ι := {k : Nat // k ≤ 10}) (fun k => ⟨[(1, .slice af fr.length cf), (2, .slice at_ to_.length ct), (3, .pointer (some ⟨b3, 0, none⟩)), (9, .pointer (some ⟨b9, 0, none⟩)), (11, plo.fs), (12, .pointer (some ⟨b38, 0, none⟩)), (13, .pointer (some ⟨b13, 0, none⟩)), (39, .agg (Zm fl).toArray), (40, .int .i64 (k.1 : Int))], (b13, cel 135 (Zm (Z7z fl k.1))) :: (b9, cel 135 (Zm fl)) :: (plo.G ++ ((m0, Z0c false (vkv V0)) :: (b3, cel 25 (htl h (h.sg ag cg) (h.ss as_ cs))) :: H)), RowsA (some ⟨b38, 0, none⟩) 4 [(dkW h ag as_ cg cs b38 b9 fl).row] :: Inn pl :: RowsA (some ⟨bd, 0, none⟩) 4 [(dkA h ag as_ cg cs bd).row] :: R⟩) (fun k => 10 - k.1) ⟨0, Nat.zero_le _⟩ ?_ (fun k => ?_)
 exact Zh (fun w h9 => by dsimp only; rw [show Zm (Z7z fl 0) = Zm (List.replicate 10 0) by unfold Z7z; rw [hfl]; rfl]; exact h9)
 obtain ⟨k, hk⟩ := k
 dsimp only at hk ⊢
 have hnl := Z9R (l := fl) (k := k) (by omega)
 have hfk := hwi.flw.one k
 refine sqt 1 rfl (pur 1 rfl (Z0 ?_))
 refine Z1 rfl ?_ ?_ <;> intro hc1 <;> try simp only [cS] at hc1
 refine Z2 (Z0 (Z4 (sqt 4 rfl (pur 1 rfl ?_))))
 refine sp rfl ((PE.indexI (l := fl) (i := k) Zd9 (Z1U 10000 3 false 1 Z9b) (fun _ => rfl) rfl rfl (by omega) (by omega)).to (Z8D (by omega))) rfl ?_
 refine pur 2 rfl (sqr 5 rfl (pur 2 rfl ?_))
 refine sp rfl ((PE.negW rfl).to (show Value.int .i64 (IntKind.i64.wrap (0 - na fl k)) = Value.int .i64 (-na fl k) by rcases (show na fl k = -1 ∨ na fl k = 0 ∨ na fl k = 1 by omega) with e | e | e <;> rw [e] <;> rfl)) rfl ?_
 refine sp rfl (PE.indexArr Z4n rfl rfl (by omega) (by omega)) rfl ?_
 refine ZN (l' := Zm ((Z7z fl k).set k (-na fl k))) rfl rfl rfl cn3 rfl rfl rfl (Z0O (by rw [hnl, hfl]; omega) (by show 0 + ((k : Nat) : Int).toNat * 1 = k; omega)) (by rw [Zb, hnl, hfl]; show 0 + ((k : Nat) : Int).toNat * 1 + 1 ≤ _; omega) ?_
 refine sqr 2 rfl (sp rfl (PE.add rfl rfl (by omega)) rfl (pur 1 rfl ?_))
 rw [Za4 (by omega)]
 exact Z7 ⟨k + 1, by omega⟩ idH
 obtain rfl : k = 10 := by omega
 have hna := Z9q fl
 rw [hfl] at hna
 rw [hna]
 refine Z9 (Za (Za (Zl (sqt 10 rfl (pur 1 rfl (spL rfl rfl (lhA (rest := []) (Zm (Z4r fl)) Z6r rfl (by rw [List.append_nil]; rfl) (by rw [Zb]; exact (by rw [Z1A]; exact hfl))) rfl (pur 2 rfl ?_)))))))
 refine ZF b9 ?_
 refine cl rfl Ze5 rfl rfl (Fn.lendWO (q := (fun v T' => ∃ (V : List (Nat × Int)) (m : Nat) (l : List (Nat × Nat)) (o : OSl 3 1 (Z3 (l.map fun x => (x.1 : Int)))), v = .tuple #[o.fs, .map (some m)] ∧ T' = o.G ++ ((m, Z0c false (vkv V)) :: ((b13, cel 135 (Zm (Z4r fl))) :: (plo.G ++ ((m0, Z0c false (vkv V0)) :: (b3, cel 25 (htl h (h.sg ag cg) (h.ss as_ cs))) :: H)))) ∧ Srch h.gaps (fun i => !(dkW h ag as_ cg cs b38 b9 fl).cl.testBit i) (na (Z4r fl)) (msk fr) (msk to_) V ∧ ((l = [] ∧ Shn h.gaps (fun i => !(dkW h ag as_ cg cs b38 b9 fl).cl.testBit i) (na (Z4r fl)) (msk fr) (msk to_) V) ∨ (l ≠ [] ∧ ∃ u w, WayK h.gaps (fun i => !(dkW h ag as_ cg cs b38 b9 fl).cl.testBit i) (na (Z4r fl)) (msk fr) (msk to_) u l w)))) (sz := 10) (by rw [Zb]; exact hfl) (fun B => Fn.mono (ZaJ (dkW h ag as_ cg cs b38 b9 fl) (Zdo h ag as_ cg cs hok b38 b9 fl hfl) (Z4r fl) (by rw [Z1A]; exact hfl) fr to_ af at_ cf ct q1 q2 q3 (by omega) hb.no _ _) (by rintro v H' R' ⟨V, m, l, o, rfl, rfl, rfl, hsr, hlw⟩; exact ⟨⟨V, m, l, o, rfl, rfl, hsr, hlw.imp id fun ⟨h1, u, w, h2, _⟩ => ⟨h1, u, w, h2⟩⟩, rfl⟩))) ?_
 rintro _ _ R1 ⟨T', ⟨V, m, l, o, rfl, rfl, hsr, hlw⟩, rfl, hR1⟩
 obtain rfl := hR1.symm
 clear hR1
 have hcg : ∀ i, i < h.gaps.length → (!(dkW h ag as_ cg cs b38 b9 fl).cl.testBit i) = decide (na fl i ≠ 0) := fun i hi => Z6Z (by omega)
 obtain ⟨ao, co, heo, hfz⟩ := o.freeze
 rw [irl, List.length_map] at heo
 rw [heo]
 refine Sy.heap (H' := (b9, cel 135 (Zm fl)) :: ((m, Z0c false (vkv V)) :: (b13, cel 135 (Zm (Z4r fl))) :: (plo.G ++ ((m0, Z0c false (vkv V0)) :: (b3, cel 25 (htl h (h.sg ag cg) (h.ss as_ cs))) :: H)))) (fun w h9 => hfz (h9.perm (List.perm_middle (l₁ := o.G) (a := _)).symm)) ?_
 clear hfz heo
 refine pur 5 rfl (Z0 (sqt 3 rfl (pur 1 rfl (sp rfl (PE.lenSl Zw rfl) rfl (pur 1 rfl ?_)))))
 refine Z1 rfl ?_ ?_ <;> intro hc2 <;> try simp only [cS] at hc2
 obtain ⟨rfl, hshn⟩ := hlw.resolve_right (fun h9 => h9.1 (List.length_eq_zero_iff.1 (by omega)))
 have hdn := hwi.done (hshn.cg hcg)
 obtain ⟨ap, cp, he, hcp, hff⟩ := plo.freezeC
 rw [ZG] at hcp
 rw [he, ZG]
 refine Sy.heap (H' := (b9, cel 135 (Zm fl)) :: ((m, Z0c false (vkv V)) :: (b13, cel 135 (Zm (Z4r fl))) :: ((m0, Z0c false (vkv V0)) :: (b3, cel 25 (htl h (h.sg ag cg) (h.ss as_ cs))) :: H))) (fun w h9 => hff (h9.perm (pX9 _ _ _ plo.G _))) ?_
 clear hff he
 refine sqt 3 rfl (pur 3 rfl (Z6 ?_))
 exact rtB rfl rfl rfl rfl ⟨rfl, .inr ⟨hbe, pl, ap, cp, by omega, hcp, hwi.p, by rw [show pl.length = (Z0p (Z10 V0) h.gaps).length by omega]; exact hcut, rfl, rfl⟩⟩ (fun w h9 => ((((((h9.del b9).del m).del b13).del m0).del b3)).facts (fun g hg => by simp only [List.mem_cons] at hg ⊢; rcases hg with h8 | h8 | h8 <;> simp [h8]))
 obtain ⟨hl0, u9, w9, hwk0⟩ := hlw.resolve_left (fun h9 => by rw [h9.1] at hc2; exact hc2 rfl)
 have hwk := hwk0.cg hcg
 have hpm := hwi.p
 have hlr : ∀ x ∈ l, x.1 < h.gaps.length := fun x hx => by obtain ⟨g, _, h5, _⟩ := hwk.way.mem x hx; exact (List.getElem?_eq_some_iff.1 h5).1
 have hl10 : l.length ≤ 10 := by
   have h9 := hwk.nd.length_le_of_subset (l₂ := List.range 10) fun v hv => by
     obtain ⟨x, hx, rfl⟩ := List.mem_map.1 hv
     have := hlr x hx
     exact List.mem_range.2 (by omega)
   simpa using h9
 obtain ⟨P, hP⟩ : ∃ P : List Int, P = l.map fun x => (x.1 : Int) := ⟨_, rfl⟩
 have hPl : P.length = l.length := by rw [hP, List.length_map]
 rw [← hP]
 rw [show l.length = P.length from hPl.symm]
 have hpk : ∀ (k : Nat) (x : Nat × Nat), l[k]? = some x → P[k]? = some (x.1 : Int) := fun k x hx => by rw [hP, List.getElem?_map, hx]; rfl
 refine Z2 (Z0 (sqt 3 rfl (pur 1 rfl (sp rfl (PE.lenSl Zw rfl) rfl (pur 1 rfl (Z4 ?_))))))
 refine Zc (ι := {y : Nat × List Int // y.1 ≤ l.length ∧ y.2.length = 10 ∧ ∀ i, na y.2 i = Z57 (na fl) (l.take y.1) i}) (fun y => ⟨[(1, .slice af fr.length cf), (2, .slice at_ to_.length ct), (3, .pointer (some ⟨b3, 0, none⟩)), (9, .pointer (some ⟨b9, 0, none⟩)), (11, plo.fs), (16, .slice ao P.length co), (61, .slice ao P.length co), (62, .int .i64 (P.length : Int)), (63, .int .i64 (y.1.1 : Int))], (b9, cel 135 (Zm y.1.2)) :: ((m, Z0c false (vkv V)) :: (b13, cel 135 (Zm (Z4r fl))) :: (plo.G ++ ((m0, Z0c false (vkv V0)) :: (b3, cel 25 (htl h (h.sg ag cg) (h.ss as_ cs))) :: H))), RowsA ao 1 (Z3 P) :: Inn pl :: RowsA (some ⟨bd, 0, none⟩) 4 [(dkA h ag as_ cg cs bd).row] :: R⟩) (fun y => l.length - y.1.1) ⟨(0, fl), Nat.zero_le _, hfl, fun i => by simp [Z57]⟩ ?_ (fun y => ?_)
 exact Zh (fun w h9 => h9.facts (fun g hg => by simp only [List.mem_cons] at hg ⊢; rcases hg with h8 | h8 | h8 | h8 <;> simp [h8]))
 obtain ⟨⟨k, f2⟩, hk, hf2, hdl⟩ := y
 dsimp only at hk hf2 hdl ⊢
 refine sqt 1 rfl (pur 1 rfl (Z0 ?_))
 refine Z1 rfl ?_ ?_ <;> intro hc3 <;> try simp only [cS] at hc3
 obtain ⟨x, hx⟩ : ∃ x, l[k]? = some x := ⟨_, List.getElem?_eq_getElem (by omega)⟩
 have hxr := hlr x (List.mem_of_getElem? hx)
 obtain ⟨gi, hgi⟩ : ∃ gi, x.1 = gi := ⟨_, rfl⟩
 have hPk := hpk k x hx
 rw [hgi] at hPk hxr
 refine Zn (a := ao) (sz := 1) (rows := Z3 P) (ne0 (by rw [irl]; omega)) (fun ba oa9 he => ?_)
 subst he
 refine Z2 (Z0 (Z4 (sqt 3 rfl (sp rfl (PE.indexAddr Z0R rfl rfl (by omega) (by omega)) rfl (spL rfl rfl (lf0 sc3 (Z0d hPk) rfl) rfl (pur 1 rfl (sqr 3 rfl (pur 1 rfl (sp rfl (PE.indexArr Z4n rfl rfl (by omega) (by omega)) rfl ?_)))))))))
 refine ZN (l' := Zm (f2.set gi 0)) rfl rfl rfl cn3 rfl rfl rfl (Z0O (by omega) (by show 0 + ((gi : Nat) : Int).toNat * 1 = gi; omega)) (by rw [Zb, hf2]; show 0 + ((gi : Nat) : Int).toNat * 1 + 1 ≤ _; omega) ?_
 refine sqr 2 rfl (sp rfl (PE.add rfl rfl (by omega)) rfl (pur 1 rfl ?_))
 exact ZO ⟨(k + 1, f2.set gi 0), by dsimp only; omega, by dsimp only; rw [List.length_set]; exact hf2, fun i => by
   dsimp only
   rw [Z1H (by omega), hdl]
   unfold Z57
   rw [Zc9 hx, List.any_append]
   by_cases e : gi = i
   · subst e; simp [hgi]
   · rw [decide_eq_false e, cond_false]
     have : ([x].any fun x => decide (x.1 = i)) = false := by simp [hgi, e]
     rw [this, Bool.or_false]⟩ (by dsimp only; omega) (by repeat' first | exact Sub.nil | apply Sub.cons | rfl | (simp [lk]; omega)) idH
 obtain rfl : k = l.length := by omega
 rw [List.take_length] at hdl
 have hmore := hwi.more ht hwk hl0 hf2 hdl (x := ⟨ao, co, P⟩) hP
 have hmf := hmore.few
 rw [List.length_append, List.length_singleton] at hmf
 refine Z9 (Za (Za (Zl (sqr 5 rfl (pur 2 rfl ?_)))))
 skip
 refine bsl (out := [_]) rfl Zaz Z6m rfl rfl rfl rfl rfl rfl (fun b72 => ?_)
 refine apO (plo) rfl ZfG rfl rfl (Z0C (row := Z3u ⟨ao, co, P⟩) rfl) rfl rfl ((by rw [ZG]; simp only [List.length_singleton]; omega)) rfl (fun o73 => ?_)
 refine pur 1 rfl ?_
 exact Zx ⟨⟨(f2, pl ++ [⟨ao, co, P⟩]), hmore⟩, o73.cast (Z0T pl ⟨ao, co, P⟩)⟩ (by dsimp only; rw [List.length_append, List.length_singleton]; omega) (fun w h9 => (St.innSnoc (l := pl) ⟨ao, co, P⟩ ((((h9.del b72).del m).del b13).pull b9)).facts (fun g hg => by simp only [List.mem_cons] at hg ⊢; rcases hg with h8 | h8 | h8 <;> simp [h8]))
theorem Za1 (gp : List Int) (ga : Option Addr) (gc bg9 : Nat) (hgl : gp.length ≤ 1000000) (i : Int) (H : Z8) (R : Z5) [mB : MemRows (some ⟨bg9, 0, none⟩) 1 [[.slice ga gp.length gc]] R] [mG : MemRows ga 1 (Z3 gp) R] :
    FnV Tryz.prog 143 [.int .i64 i, .pointer (some ⟨bg9, 0, none⟩)] H R (.bool (!(Z0r gp i))) := by
 refine Ze Tryz.func143 rfl Tryz.ntmps143 rfl ?_
 refine sqt 1 rfl (pur 1 rfl (sqt 5 rfl (spL rfl rfl (lfB (sz := 1) Z0P rfl) rfl (pur 1 rfl ?_))))
 refine clV rfl Z3h rfl rfl (Zs gp ga gc i (by omega) _ _) ?_
 refine pur 2 rfl (Z6 ?_)
 exact rtA rfl rfl rfl ⟨rfl, rfl, rfl⟩ drp
theorem Z93 (ws : List Int) (bw : Nat) (hws : ws.length = 7) (x : Int) (hx : 0 ≤ x ∧ x < 7) (H : Z8) (R : Z5) [hM : Mem1 bw (cel 152 (Zm ws)) H] :
    FnV Tryz.prog 144 [.int .i64 x, .pointer (some ⟨bw, 0, none⟩)] H R (.bool (decide (far ≤ na ws x.toNat))) := by
 refine Ze Tryz.func144 rfl Tryz.ntmps144 rfl ?_
 refine sqt 1 rfl ?_
 obtain ⟨u, rfl⟩ : ∃ u : Nat, x = u := ⟨x.toNat, by omega⟩
 rw [Int.toNat_natCast]
 refine pur 1 rfl (sqt 5 rfl (pur 1 rfl (sp rfl (PE.indexArr Z4m rfl rfl (by omega) (by omega)) rfl (spL rfl rfl (lh sc3 rfl (Z0y (w := ws) (k := u) (by omega) (by show 0 + ((u : Nat) : Int).toNat * 1 = u; omega))) rfl (pur 2 rfl (Z6 ?_))))))
 exact rtA rfl rfl rfl ⟨rfl, rfl, rfl⟩ drp
abbrev dkS (h : Hse) (ag as_ : Option Addr) (cg cs : Nat) (bd b7 : Nat) (gp : List Int) (ga : Option Addr) (gc : Nat) : Dk := Dk.mk h ag as_ cg cs bd 143 [] [.pointer (some ⟨b7, 0, none⟩)] (msk gp) [RowsA (some ⟨b7, 0, none⟩) 1 [[.slice ga gp.length gc]], RowsA ga 1 (Z3 gp)]
theorem Zem (h : Hse) (ag as_ : Option Addr) (cg cs : Nat) (hok : h.ok) (bd b7 : Nat) (gp : List Int) (ga : Option Addr) (gc : Nat) (hgl : gp.length ≤ 1000000) (hg0 : ∀ x ∈ gp, 0 ≤ x) : (dkS h ag as_ cg cs bd b7 gp ga gc).Ok := ⟨hok, ZcW, fun i H R hi hR => by
  have e : (!(dkS h ag as_ cg cs bd b7 gp ga gc).cl.testBit i) = !(Z0r gp i) := by
    show (!(msk gp).testBit i) = _
    rw [Z4a hg0]
  rw [e]
  haveI : MemRows (some ⟨b7, 0, none⟩) 1 [[.slice ga gp.length gc]] R := ⟨hR _ (by simp)⟩
  haveI : MemRows ga 1 (Z3 gp) R := ⟨hR _ (by simp)⟩
  exact Za1 gp ga gc b7 hgl i H R⟩
theorem Zbn (h : Hse) (ag as_ : Option Addr) (cg cs : Nat) (hok : h.ok) (fr to_ gp : List Int) (af at_ ga : Option Addr) (cf ct gc : Nat) (q1 : ∀ x ∈ fr, 0 ≤ x ∧ x < 7) (q2 : ∀ x ∈ to_, 0 ≤ x ∧ x < 7) (hlf : fr.length ≤ 1000000) (hlt : to_.length ≤ 1000000) (hgl : gp.length ≤ 1000000) (hg0 : ∀ x ∈ gp, 0 ≤ x) (H : Z8) (R : Z5) [hG : MemRows ag 2 (Zk h.gaps) R] [hS : MemRows as_ 3 (Zo h.sights) R] [hF : MemRows af 1 (Z3 fr) R] [hT : MemRows at_ 1 (Z3 to_) R] [hGp : MemRows ga 1 (Z3 gp) R] :
    FnV Tryz.prog 91 [h.v (h.sg ag cg) (h.ss as_ cs), .slice af fr.length cf, .slice at_ to_.length ct, .slice ga gp.length gc] H R (.bool (h.shB fr to_ gp)) := by
 refine Ze Tryz.func91 rfl Tryz.ntmps91 rfl ?_
 refine sqt 3 rfl (bx rfl rfl rfl (fun b4 => bx rfl rfl rfl (fun b7 => pur 1 rfl (sqt 5 rfl (spL rfl rfl (lhA (htl h (h.sg ag cg) (h.ss as_ cs)) Z06 rfl rfl rfl) rfl (sp rfl (PE.makeFunc rfl rfl) rfl (sp rfl (PE.build (out := [_, _, _, _]) ZbL Zbv rfl rfl) rfl (bx rfl rfl rfl (fun b14 => pur 1 rfl (sqt 5 rfl ?_))))))))))
 refine Sy.heap (fun w h9 => St.rows (sz := 1) (rows := [[.slice ga gp.length gc]]) (rest := []) (h9.pull b7) (by simp)) ?_
 refine Sy.heap (fun w h9 => St.rows (sz := 4) (rows := [(dkS h ag as_ cg cs b14 b7 gp ga gc).row]) (rest := []) (h9.pull b14) (by simp [Dk.row])) ?_
 refine pur 2 rfl ?_
 refine clV rfl Z6g rfl rfl (Z43 (dkS h ag as_ cg cs b14 b7 gp ga gc) (Zem h ag as_ cg cs hok b14 b7 gp ga gc hgl hg0) fr af cf (by omega) q1 _ _) ?_
 refine alc rfl Z6O rfl (fun b10 => ?_)
 refine ZaO rfl rfl rfl Z75 rfl (by rw [Zb, ZR]) rfl (Z0H _) ?_
 refine sqt 4 rfl (pur 1 rfl (sp rfl (PE.makeFunc rfl rfl) rfl ?_))
 refine clV rfl Ze3 rfl rfl (Z2X to_ at_ ct 144 [] [_] (fun k => decide (far ≤ na (wks h.gaps (msk gp) (msk fr)) k.toNat)) Zcx (by omega) _ _ (fun _ x hx => Z93 (wks h.gaps (msk gp) (msk fr)) b10 (ZR _ _ _) x (q2 x hx) _ _)) ?_
 refine pur 1 rfl (Z6 ?_)
 exact rtA rfl rfl rfl ⟨by simp only [Z05]; unfold Hse.shB; congr 1; exact ZcV fun x hx => by rw [Z1M (by have := q2 x hx; omega)], rfl, rfl⟩ (fun w h9 => St.sub ((h9.del b10).del b4))
theorem ZbZ (h : Hse) (ag as_ : Option Addr) (cg cs : Nat) (hlg : h.gaps.length ≤ 9223372036854775807) (hls : h.sights.length ≤ 9223372036854775807) (fr to_ : List Int) (af at_ : Option Addr) (cf ct : Nat) (hlf : fr.length ≤ 1000000) (hlt : to_.length ≤ 1000000) (hfc : fr.length ≤ cf) (htc : to_.length ≤ ct) (gp : List Int) (ga : Option Addr) (gc : Nat) (hgl9 : gp.length ≤ 1000000) (hgc : gp.length ≤ gc) (H : Z8) (R : Z5) [hG : MemRows ag 2 (Zk h.gaps) R] [hS : MemRows as_ 3 (Zo h.sights) R] [hF : MemRows af 1 (Z3 fr) R] [hT : MemRows at_ 1 (Z3 to_) R] [hGp : MemRows ga 1 (Z3 gp) R] :
    FnV Tryz.prog 34 [h.v (h.sg ag cg) (h.ss as_ cs), .slice af fr.length cf, .slice at_ to_.length ct, .slice ga gp.length gc] H R (.tuple #[.bool (h.shR fr to_ gp).1, .int .i64 (h.shR fr to_ gp).2]) := by
 refine Ze Tryz.func34 rfl Tryz.ntmps34 rfl ?_
 refine sqt 3 rfl (bx rfl rfl rfl (fun b4 => pur 2 rfl (Z0 (sqt 5 rfl (spL rfl rfl (lhA (htl h (h.sg ag cg) (h.ss as_ cs)) Z06 rfl rfl rfl) rfl (pur 2 rfl ?_))))))
 refine clV rfl Z6t rfl rfl (Z3O h ag as_ cg cs hlg hls fr to_ af at_ cf ct (by omega) (by omega) hfc htc _ _) ?_
 refine pur 1 rfl (sqt 2 rfl (pur 2 rfl ?_))
 refine Z1 rfl ?_ ?_ <;> intro hc0
 have hbe : h.botE fr to_ ≠ 0 := of_decide_eq_true hc0
 have he : h.shE fr to_ gp = h.botE fr to_ := by unfold Hse.shE; rw [dT hbe]; rfl
 refine sqt 3 rfl (pur 3 rfl (Z6 ?_))
 exact rtB rfl rfl rfl rfl ⟨by rw [Za5 (he) (hbe)] <;> rfl, rfl, rfl⟩ (fun w h9 => h9.del b4)
 have hbe : h.botE fr to_ = 0 := Classical.byContradiction fun e => by rw [decide_eq_true e] at hc0; cases hc0
 have hb := Z0x hbe
 obtain ⟨q1, q2, q3, q4, q5, q6⟩ := Z0g hb
 have hok := hb.ok
 have hgl := hok.gl
 have he : h.shE fr to_ gp = Zz (h.gaps.length : Int) gp := by unfold Hse.shE; rw [hbe]; rfl
 refine Z2 (Z0 (sqt 5 rfl (pur 1 rfl (spL rfl rfl (lhA (htl h (h.sg ag cg) (h.ss as_ cs)) Z06 rfl rfl rfl) rfl (sp rfl (PE.makeFunc rfl rfl) rfl ?_)))))
 refine clV rfl Z9J rfl rfl (Z2I gp ga gc 84 [h.v (h.sg ag cg) (h.ss as_ cs)] [] (fun k => inB k 0 ((h.gaps.length : Int) - 1)) Zct (by omega) hgc _ _ (fun _ z _ => Ze0 h (by omega) ag cg (h.ss as_ cs) z _ _)) ?_
 refine pur 1 rfl (sqt 2 rfl (pur 2 rfl ?_))
 refine Z1 rfl ?_ ?_ <;> intro hc1 <;> try simp only [cS] at hc1
 have hle : Zz h.gaps.length gp ≠ 0 := hc1
 refine sqt 3 rfl (pur 3 rfl (Z6 ?_))
 exact rtB rfl rfl rfl rfl ⟨by rw [Za5 (he) (hle)] <;> rfl, rfl, rfl⟩ (fun w h9 => h9.del b4)
 have hle : Zz h.gaps.length gp = 0 := Classical.byContradiction hc1
 rw [hle] at he
 refine Z2 (sqt 7 rfl (spL rfl rfl (lhA (htl h (h.sg ag cg) (h.ss as_ cs)) Z06 rfl rfl rfl) rfl (pur 3 rfl ?_)))
 refine clV rfl Zf7 rfl rfl (Zbn h ag as_ cg cs hok fr to_ gp af at_ ga cf ct gc q1 q2 hlf hlt hgl9 (fun x hx => ((ZS hle).1 x hx).1) _ _) ?_
 refine pur 2 rfl (Z6 ?_)
 exact rtB rfl rfl rfl rfl ⟨by rw [Zav he] <;> rfl, rfl, rfl⟩ (fun w h9 => h9.del b4)
theorem Z7B (gs : List Gp) (c S k : Nat) : wkC gs c S k < 0 ↔ far ≤ wk gs c S k := by
  unfold wkC
  by_cases h : far ≤ wk gs c S k
  · rw [decide_eq_true h]; exact ⟨fun _ => h, fun _ => by rw [cond_true]; decide⟩
  · rw [decide_eq_false h]
    have := Z5h gs c S k
    exact ⟨fun h1 => by rw [cond_false] at h1; omega, fun h1 => absurd h1 h⟩
theorem ZaQ {h : Hse} {fr to_ gp : List Int} (hw : Wth h.gaps 7) (hS : msk fr < 2 ^ 7) (hK : msk to_ < 2 ^ 7) (ht : ∀ x ∈ to_, 0 ≤ x) : h.shB fr to_ gp = true ↔ Shut h.gaps (msk gp) (msk fr) (msk to_) := by
  rw [ZbM hw hS hK]
  unfold Hse.shB
  rw [List.all_eq_true]
  constructor
  · intro h1 k hk
    have h2 := of_decide_eq_true (h1 (k : Int) ((Zq ht k).1 hk))
    rw [Int.toNat_natCast] at h2
    exact (Z7B _ _ _ _).2 h2
  · intro h1 x hx
    refine decide_eq_true ((Z7B _ _ _ _).1 (h1 x.toNat ?_))
    rw [Zq ht, show ((x.toNat : Nat) : Int) = x by have := ht x hx; omega]; exact hx
def Z9l (now : List Int) (g : Gp) : List Int := bif Z0r now g.a then [g.b] else []
def Z8V (now : List Int) (g : Gp) : List Int := Z9l now g ++ (bif Z0r now g.b then [g.a] else [])
theorem Z9Y (now : List Int) (g : Gp) : (Z9l now g).length ≤ 1 ∧ (Z8V now g).length ≤ 2 := by
  unfold Z8V Z9l
  cases Z0r now g.a <;> cases Z0r now g.b <;> simp
theorem Z9d {now : List Int} {g : Gp} {z : Int} : z ∈ Z8V now g ↔ (g.a ∈ now ∧ z = g.b) ∨ (g.b ∈ now ∧ z = g.a) := by
  unfold Z8V Z9l
  rw [List.mem_append]
  have key : ∀ (a b : Int), (z ∈ (bif Z0r now a then [b] else [])) ↔ (a ∈ now ∧ z = b) := fun a b => by
    cases h1 : Z0r now a with
    | true => rw [cond_true, List.mem_singleton]; exact ⟨fun h2 => ⟨hasI_iff.1 h1, h2⟩, fun h2 => h2.2⟩
    | false => rw [cond_false]; exact ⟨fun h2 => absurd h2 List.not_mem_nil, fun h2 => by rw [hasI_iff.2 h2.1] at h1; cases h1⟩
  rw [key, key]
theorem Z9A {gs : List Gp} {fr p now : List Int} {q : Nat} {g : Gp} (hg : gs[q]? = some g) (h : ∀ z, z ∈ now ↔ z ∈ Z1j gs 0 fr p) : ∀ z, z ∈ Z8V now g ↔ z ∈ Z1j gs 0 fr (p ++ [(q : Int)]) := fun z => by
  rw [Z9d, Z22, List.mem_filterMap, Int.toNat_natCast]
  constructor
  · rintro (⟨h1, rfl⟩ | ⟨h1, rfl⟩)
    · exact ⟨g.a, (h _).1 h1, by rw [Z3K hg (Nat.zero_testBit _) (.inl rfl)]; exact congrArg some (by omega)⟩
    · exact ⟨g.b, (h _).1 h1, by rw [Z3K hg (Nat.zero_testBit _) (.inr rfl)]; exact congrArg some (by omega)⟩
  · rintro ⟨b, h1, h2⟩
    by_cases e : g.a = b ∨ g.b = b
    · rw [Z3K hg (Nat.zero_testBit _) e] at h2
      injection h2 with h2
      rcases e with e | e
      · exact .inl ⟨(h _).2 (by rw [e]; exact h1), by omega⟩
      · exact .inr ⟨(h _).2 (by rw [e]; exact h1), by omega⟩
    · rw [Z8W hg (.inr ⟨fun h3 => e (.inl h3), fun h3 => e (.inr h3)⟩)] at h2; cases h2
theorem ZaX {l l' : List Int} {p : Int → Bool} (h : ∀ z, z ∈ l ↔ z ∈ l') : l.any p = l'.any p := by
  rw [Bool.eq_iff_iff, List.any_eq_true, List.any_eq_true]
  exact ⟨fun ⟨x, h1, h2⟩ => ⟨x, (h x).1 h1, h2⟩, fun ⟨x, h1, h2⟩ => ⟨x, (h x).2 h1, h2⟩⟩
theorem ZbU {h : Hse} {fr to_ : List Int} {ls : List (List Int)} (h0 : h.botE fr to_ = 0) (h1 : Zz h.gaps.length ls.flatten = 0) (h2 : ∀ l ∈ ls, Z5N h.gaps 0 fr to_ l = true) : h.ledE fr to_ ls = 0 ∧ h.ledR fr to_ ls = ls.length := by
  have e : h.ledE fr to_ ls = 0 := by
    unfold Hse.ledE
    rw [h0, h1, List.all_eq_true.2 h2]; rfl
  exact ⟨e, by unfold Hse.ledR; rw [e]; rfl⟩
theorem Zf8 : cal Tryz.prog 34 = true := by kernel_rfl
theorem Zfs : cal Tryz.prog 35 = true := by kernel_rfl
structure MinI (P : Nat → Bool) (k : Nat) (f : Bool) (b : List Int) : Prop where
  no : f = false → (∀ t, t < k → P t = false) ∧ b = []
  yes : f = true → (∃ t, t < k ∧ P t = true ∧ b = Z08 t) ∧ ∀ t, t < k → P t = true → ahB (Z08 t) b = false
theorem MinI.start (P : Nat → Bool) : MinI P 0 false [] := ⟨fun _ => ⟨fun t h1 => by omega, rfl⟩, (fun h => by cases h)⟩
theorem MinI.take {P : Nat → Bool} {k : Nat} {f : Bool} {b : List Int} (h : MinI P k f b) (h1 : f = false ∨ ahB (Z08 k) b = true) (h2 : P k = true) : MinI P (k + 1) true (Z08 k) := by
  refine ⟨(fun h => by cases h), fun _ => ⟨⟨k, by omega, h2, rfl⟩, fun t t2 t3 => ?_⟩⟩
  by_cases e : t = k
  · subst e; exact Z56 _
  · cases hf : f with
    | false => rw [(h.no hf).1 t (by omega)] at t3; cases t3
    | true =>
      have h3 := (h.yes hf).2 t (by omega) t3
      have h4 := h1.resolve_left (by rw [hf]; simp)
      exact Z5g (Z4p h4 h3)
theorem MinI.skip {P : Nat → Bool} {k : Nat} {f : Bool} {b : List Int} (h : MinI P k f b) (h1 : P k = false ∨ (f = true ∧ ahB (Z08 k) b = false)) : MinI P (k + 1) f b := by
  refine ⟨fun hf => ⟨fun t t2 => ?_, (h.no hf).2⟩, fun hf => ⟨?_, fun t t2 t3 => ?_⟩⟩
  · by_cases e : t = k
    · subst e
      rcases h1 with h1 | h1
      · exact h1
      · rw [h1.1] at hf; cases hf
    · exact (h.no hf).1 t (by omega)
  · obtain ⟨t, t2, t3⟩ := (h.yes hf).1
    exact ⟨t, by omega, t3⟩
  · by_cases e : t = k
    · subst e
      rcases h1 with h1 | h1
      · rw [h1] at t3; cases t3
      · exact h1.2
    · exact (h.yes hf).2 t (by omega) t3
theorem MinI.cg {P Q : Nat → Bool} {k : Nat} {f : Bool} {b : List Int} (h : MinI P k f b) (e : ∀ t, t < k → P t = Q t) : MinI Q k f b := by
  refine ⟨fun hf => ⟨fun t ht => by rw [← e t ht]; exact (h.no hf).1 t ht, (h.no hf).2⟩, fun hf => ?_⟩
  obtain ⟨⟨t, t1, t2, t3⟩, h2⟩ := h.yes hf
  exact ⟨⟨t, t1, by rw [← e t t1]; exact t2, t3⟩, fun t ht h3 => h2 t ht (by rw [e t ht]; exact h3)⟩
structure LonI (P : Nat → Bool) (k : Nat) (b : List Int) : Prop where
  is : b = [] ∨ ∃ t, 1 ≤ t ∧ t < k ∧ P t = true ∧ b = Z08 t
  le : ∀ t, 1 ≤ t → t < k → P t = true → (Z08 t).length < b.length ∨ ((Z08 t).length = b.length ∧ ahB (Z08 t) b = false)
theorem LonI.start (P : Nat → Bool) : LonI P 1 [] := ⟨.inl rfl, fun t h1 h2 => by omega⟩
theorem LonI.take {P : Nat → Bool} {k : Nat} {b : List Int} (h : LonI P k b) (hk : 1 ≤ k) (h1 : b.length < (Z08 k).length ∨ ((Z08 k).length = b.length ∧ ahB (Z08 k) b = true)) (h2 : P k = true) : LonI P (k + 1) (Z08 k) := by
  refine ⟨.inr ⟨k, hk, by omega, h2, rfl⟩, fun t t1 t2 t3 => ?_⟩
  by_cases e : t = k
  · subst e; exact .inr ⟨rfl, Z56 _⟩
  · have h3 := h.le t t1 (by omega) t3
    rcases h1 with h1 | ⟨h1, h4⟩
    · exact .inl (by omega)
    · rcases h3 with h3 | ⟨h3, h5⟩
      · exact .inl (by omega)
      · exact .inr ⟨by omega, Z5g (Z4p h4 h5)⟩
theorem LonI.skip {P : Nat → Bool} {k : Nat} {b : List Int} (h : LonI P k b) (h1 : P k = false ∨ (¬ b.length < (Z08 k).length ∧ ((Z08 k).length = b.length → ahB (Z08 k) b = false))) : LonI P (k + 1) b := by
  refine ⟨h.is.imp id fun ⟨t, t1, t2, t3⟩ => ⟨t, t1, by omega, t3⟩, fun t t1 t2 t3 => ?_⟩
  by_cases e : t = k
  · subst e
    rcases h1 with h1 | ⟨h1, h4⟩
    · rw [h1] at t3; cases t3
    · rcases Nat.lt_or_ge (Z08 t).length b.length with h5 | h5
      · exact .inl h5
      · exact .inr ⟨by omega, h4 (by omega)⟩
  · exact h.le t t1 (by omega) t3
theorem Ze2 : cal Tryz.prog 127 = true := by kernel_rfl
theorem ZdK : cal Tryz.prog 128 = true := by kernel_rfl
theorem ZdB : cal Tryz.prog 57 = true := by kernel_rfl
theorem Zfa : cal Tryz.prog 60 = true := by kernel_rfl
theorem Zf5 : cal Tryz.prog 63 = true := by kernel_rfl
theorem Zeo : cal Tryz.prog 65 = true := by kernel_rfl
def nn (l : List Int) (k : Nat) : Int := l.getD k 0
theorem Zam {l : List Int} {i j : Nat} {v : Int} (h : i < l.length) : nn (l.set i v) j = bif i == j then v else nn l j := by
  unfold nn
  rw [List.getD_eq_getElem?_getD, List.getD_eq_getElem?_getD, List.getElem?_set]
  by_cases e : i = j
  · subst e; rw [if_pos rfl, if_pos h]; simp
  · rw [if_neg e, show (i == j) = false from by simpa using e]; rfl
structure InsI (l xs : List Int) (i j : Nat) : Prop where
  perm : xs.Perm l
  le : j ≤ i
  at_ : ∀ p q, p < q → q ≤ i → q ≠ j → nn xs p ≤ nn xs q
structure SrtI (l xs : List Int) (i : Nat) : Prop where
  perm : xs.Perm l
  at_ : ∀ p q, p < q → q < i → nn xs p ≤ nn xs q
theorem SrtI.start (l : List Int) : SrtI l l 1 := ⟨.refl _, fun p q h1 h2 => by omega⟩
theorem SrtI.ins {l xs : List Int} {i : Nat} (h : SrtI l xs i) : InsI l xs i i := ⟨h.perm, Nat.le_refl _, fun p q h1 h2 h3 => h.at_ p q h1 (by omega)⟩
theorem InsI.done {l xs : List Int} {i j : Nat} (h : InsI l xs i j) (hj : j = 0 ∨ nn xs (j - 1) ≤ nn xs j) : SrtI l xs (i + 1) := ⟨h.perm, fun p q h1 h2 => by
  by_cases hq : q = j
  · subst hq
    have h3 : nn xs (q - 1) ≤ nn xs q := hj.resolve_left (by omega)
    by_cases hp : p = q - 1
    · subst hp; exact h3
    · have := h.at_ p (q - 1) (by omega) (by omega) (by omega); omega
  · exact h.at_ p q h1 (by omega) hq⟩
theorem Z7d {xs : List Int} {k : Nat} (h : k < xs.length) : nn xs k = xs[k] := by unfold nn; rw [List.getD_eq_getElem?_getD, List.getElem?_eq_getElem h]; rfl
theorem InsI.swap {l xs : List Int} {i j : Nat} (h : InsI l xs i j) (hj : 0 < j) (hi : i < xs.length) (hlt : nn xs j < nn xs (j - 1)) : InsI l ((xs.set j (nn xs (j - 1))).set (j - 1) (nn xs j)) i (j - 1) := by
  have hle := h.le
  have hv : ∀ q, nn ((xs.set j (nn xs (j - 1))).set (j - 1) (nn xs j)) q = if q = j - 1 then nn xs j else if q = j then nn xs (j - 1) else nn xs q := fun q => by
    rw [Zam (by rw [List.length_set]; omega), Zam (by omega)]
    by_cases h1 : q = j - 1
    · subst h1; simp
    · have e1 : (j - 1 == q) = false := by simp; omega
      rw [e1, if_neg h1]
      by_cases h2 : q = j
      · subst h2; simp
      · have e2 : (j == q) = false := by simp; omega
        rw [e2, if_neg h2]; rfl
  refine ⟨?_, by omega, fun p q h1 h2 h3 => ?_⟩
  · have e := @List.set_set_perm Int xs j (j - 1) (by omega) (by omega)
    rw [Z7d (k := j - 1) (by omega), Z7d (k := j) (by omega)]
    exact e.trans h.perm
  · rw [hv p, hv q]
    have A := h.at_ p q h1 h2
    have B := h.at_ p (j - 1)
    have C := h.at_ j q
    have E := h.at_ (j - 1) q
    rw [if_neg h3]
    by_cases hq : q = j
    · rw [if_pos hq]
      split
      · omega
      · rw [if_neg (by omega)]; exact B (by omega) (by omega) (by omega)
    · rw [if_neg hq]
      split
      · exact C (by omega) h2 hq
      · split
        · exact E (by omega) h2 hq
        · exact A hq
theorem Z3s {xs : List Int} {junk : List Value} {k : Nat} (h : k < xs.length) : (Zm xs ++ junk)[0 + ((k : Nat) : Int).toNat * 1]? = some (.int .i64 (nn xs k)) := by
  rw [show 0 + ((k : Nat) : Int).toNat * 1 = k by omega, List.getElem?_append_left (by rw [Zb]; exact h), Z7d h]
  simp [Zm, h]
theorem Z5b {xs : List Int} {junk : List Value} {q k : Nat} (h : q + k < xs.length) : (Zm xs ++ junk)[0 + q * 1 + ((k : Nat) : Int).toNat * 1]? = some (.int .i64 (nn xs (q + k))) := by
  have := Z3s (junk := junk) h
  rw [show 0 + q * 1 + ((k : Nat) : Int).toNat * 1 = 0 + ((q + k : Nat) : Int).toNat * 1 by omega]; exact this
theorem Zce {xs : List Int} {k : Nat} (h : k + 1 < xs.length) (hn : xs.Nodup) : nn xs k ≠ nn xs (k + 1) := by
  rw [Z7d (k := k) (by omega), Z7d h]
  exact List.pairwise_iff_getElem.1 hn k (k + 1) (by omega) h (by omega)
theorem ZdM (x y : Int) (H : Z8) (R : Z5) :
    FnV Tryz.prog 159 [.int .i64 x, .int .i64 y] H R (.bool (decide (x < y))) := by
 refine Ze Tryz.func159 rfl Tryz.ntmps159 rfl ?_
 refine sqt 1 rfl (pur 1 rfl (sqt 13 rfl (pur 1 rfl ?_)))
 refine clV rfl Zaf rfl rfl (Z7p x _ _) ?_
 refine pur 11 rfl (Z6 ?_)
 exact rtA rfl rfl rfl ⟨rfl, rfl, rfl⟩ drp
theorem Zeh (l : List Int) (b cap : Nat) (junk : List Value) (hl : l.length ≤ 12) (H : Z8) (R : Z5) :
    Fn Tryz.prog 160 [.slice (some ⟨b, 0, none⟩) l.length cap, .int .i64 0, .int .i64 l.length] ((b, cel 3 (Zm l ++ junk)) :: H) R (fun v H' R' => ∃ ys, SrtI l ys l.length ∧ v = .tuple #[] ∧ H' = (b, cel 3 (Zm ys ++ junk)) :: H ∧ R' = R) := by
 refine Ze Tryz.func160 rfl Tryz.ntmps160 rfl ?_
 refine sqt 3 rfl (pur 1 rfl (sp rfl (PE.add rfl rfl (by omega)) rfl (pur 1 rfl (Z4 ?_))))
 refine Zc (ι := {x : Nat × List Int // 1 ≤ x.1 ∧ x.1 ≤ 13 ∧ SrtI l x.2 x.1}) (fun x => ⟨[(0, .slice (some ⟨b, 0, none⟩) l.length cap), (1, .int .i64 0), (2, .int .i64 l.length), (6, .int .i64 x.1.1)], (b, cel 3 (Zm x.1.2 ++ junk)) :: H, R⟩) (fun x => l.length - x.1.1) ⟨(1, l), by omega, by omega, SrtI.start l⟩ ?_ (fun x => ?_)
 exact Zh idH
 ·
  obtain ⟨⟨i, xs⟩, hi1, hi2, hs⟩ := x
  dsimp only at hi1 hi2 hs ⊢
  have hxl := hs.perm.length_eq
  refine Z0 (sqt 3 rfl (pur 3 rfl ?_))
  refine Z1 rfl ?_ ?_ <;> intro hc0 <;> try simp only [cS] at hc0
  ·
   refine Z2 (Z0 (Z4 (sqt 2 rfl (pur 2 rfl (Z4 ?_)))))
   refine Zc (ι := {x : Nat × List Int // InsI l x.2 i x.1}) (fun x => ⟨[(0, .slice (some ⟨b, 0, none⟩) l.length cap), (1, .int .i64 0), (2, .int .i64 l.length), (6, .int .i64 i), (7, .int .i64 x.1.1)], (b, cel 3 (Zm x.1.2 ++ junk)) :: H, R⟩) (fun x => x.1.1) ⟨(i, xs), hs.ins⟩ ?_ (fun x => ?_)
   exact Zh idH
   ·
    obtain ⟨⟨j, ys⟩, hy⟩ := x
    dsimp only at hy ⊢
    have hyl := hy.perm.length_eq
    have hyj := hy.le
    refine Z0 (Z0 ?_)
    refine Zf [0, 0, 3, 7, 15, 15, 63, 127, 15, 15, 527, 1807, 3855, 8191, 16383] (tks 0 7 (.ld 7 (tks 8 4 (.ld 12 (.big 13 (.tk 14 .done)))))) Zy (by kernel_rfl) ?_
    refine Zg 4 rfl ?_
    refine Zv 19 rfl ?_ ?_ <;> intro g19
    ·
     try simp only [cS] at g19
     refine Zg 2 rfl ?_
     refine tkG rfl rfl rfl rfl (PE.indexAddr Z0R rfl rfl (by omega) (by omega)) rfl ?_
     refine ldG rfl rfl rfl rfl rfl (lh sc3 rfl (Z3s (by omega))) rfl (Zg 2 rfl ?_)
     refine tkG rfl rfl rfl rfl (PE.sub rfl rfl (by omega)) rfl ?_
     rw [show (j : Int) - 1 = ((j - 1 : Nat) : Int) from by omega]
     refine tkG rfl rfl rfl rfl (PE.indexAddr Z0R rfl rfl (by omega) (by omega)) rfl ?_
     refine ldG rfl rfl rfl rfl rfl (lh sc3 rfl (Z3s (by omega))) rfl ?_
     refine Z6U rfl rfl rfl rfl Zat rfl rfl (ZdM _ _ _ _) ?_
     refine bgT (Zg 1 rfl ?_)
     refine Z1 rfl ?_ ?_ <;> intro hc1 <;> try simp only [cS] at hc1
     ·
      refine Z2 (Z0 (Z4 ?_))
      refine Zf [0, 0, 0, 0, 8, 0, 0, 64, 224, 480, 0, 0, 3072, 7168, 16355, 32739, 65535, 131071] (tks 0 9 (.ld 9 (tks 10 3 (.ld 13 (.tk 14 (.big 15 (.tk 16 (.big 17 .done)))))))) Zy (by kernel_rfl) ?_
      refine Zg 4 rfl (tk rfl (PE.sub rfl rfl (by omega)) rfl (Zg 2 rfl (tk rfl (PE.sub rfl rfl (by omega)) rfl ?_)))
      rw [show (j : Int) - 1 = ((j - 1 : Nat) : Int) from by omega]
      refine tk rfl (PE.indexAddr Z0R rfl rfl (by omega) (by omega)) rfl (ld rfl rfl (lh sc3 rfl (Z3s (by omega))) rfl (Zg 2 rfl (tk rfl (PE.indexAddr Z0R rfl rfl (by omega) (by omega)) rfl (ld rfl rfl (lh sc3 rfl (Z3s (by omega))) rfl (tk rfl (PE.indexAddr Z0R rfl rfl (by omega) (by omega)) rfl ?_)))))
      refine ZN (l' := Zm ((ys).set j (nn ys (j - 1))) ++ junk) rfl rfl rfl cn3 rfl rfl rfl (Z3i (show j < ys.length by omega) _) (by rw [List.length_append, Zb]; show 0 + ((j : Nat) : Int).toNat * 1 + 1 ≤ _; have := (show j < ys.length by omega); omega) ?_
      refine bgT (tk rfl (PE.indexAddr Z0R rfl rfl (by omega) (by omega)) rfl ?_)
      refine ZN (l' := Zm ((ys.set j (nn ys (j - 1))).set (j - 1) (nn ys j)) ++ junk) rfl rfl rfl cn3 rfl rfl rfl (Z3i (show j - 1 < (ys.set j (nn ys (j - 1))).length by rw [List.length_set]; omega) _) (by rw [List.length_append, Zb]; show 0 + (((j - 1) : Nat) : Int).toNat * 1 + 1 ≤ _; have := (show j - 1 < (ys.set j (nn ys (j - 1))).length by rw [List.length_set]; omega); omega) ?_
      refine bgT (sqr 3 rfl (pur 1 rfl (sp rfl (PE.sub rfl rfl (by omega)) rfl (pur 1 rfl ?_))))
      rw [show (j : Int) - 1 = ((j - 1 : Nat) : Int) from by omega]
      exact Z7 ⟨(j - 1, (ys.set j (nn ys (j - 1))).set (j - 1) (nn ys j)), hy.swap (by omega) (by omega) (by omega)⟩ idH
     have hfd := hy.done (.inr (by omega))
     refine Z9 (Za (Za (Zl (sqr 3 rfl (pur 1 rfl (sp rfl (PE.add rfl rfl (by omega)) rfl (pur 1 rfl ?_)))))))
     exact Z7 ⟨(i + 1, ys), by omega, by omega, hfd⟩ idH
    try simp only [cS] at g19
    have hfd := hy.done (.inl (by omega))
    refine Zg 3 rfl ?_
    refine ldN rfl rfl rfl rfl rfl rfl rfl rfl ?_
    refine Zg 4 rfl ?_
    refine ldN rfl rfl rfl rfl rfl rfl rfl rfl ?_
    refine spN rfl rfl rfl rfl rfl rfl rfl rfl ?_
    refine bgT (Zg 1 rfl ?_)
    refine ZA rfl ?_
    refine Z9 (Za (Za (Zl (sqr 3 rfl (pur 1 rfl (sp rfl (PE.add rfl rfl (by omega)) rfl (pur 1 rfl ?_)))))))
    exact Z7 ⟨(i + 1, ys), by omega, by omega, hfd⟩ idH
  have hfin : SrtI l xs l.length := ⟨hs.perm, fun p q h1 h2 => hs.at_ p q h1 (by omega)⟩
  refine Z9 (Za (Za (Zl ?_)))
  exact Z2a (vs := []) rfl .nil rfl ⟨xs, hfin, rfl, rfl, rfl⟩ idH
theorem Zdl (H : Z8) (R : Z5) :
    FnV Tryz.prog 160 [.slice none 0 0, .int .i64 0, .int .i64 (([] : List Int).length : Nat)] H R (.tuple #[]) := by
 refine Ze Tryz.func160 rfl Tryz.ntmps160 rfl ?_
 refine sqt 3 rfl (pur 1 rfl (sp rfl (PE.add rfl rfl (by omega)) rfl (pur 1 rfl (Z4 ?_))))
 refine Zc (ι := Unit) (fun _ => ⟨[(2, .int .i64 (([] : List Int).length : Nat)), (6, .int .i64 1)], H, R⟩) (fun x => 0) () ?_ (fun x => ?_)
 exact Zh idH
 refine Z0 (sqt 3 rfl (pur 3 rfl ?_))
 refine Z1 rfl ?_ ?_ <;> intro hc0
 exact absurd hc0 (by simp)
 refine Z9 (Za (Za (Zl ?_)))
 exact Z2a (vs := []) rfl .nil rfl ⟨rfl, rfl, rfl⟩ idH
theorem ZeC (l : List Int) (o : OSl 3 1 (Z3 l)) (hl : l.length ≤ 12) (H : Z8) (R : Z5) : Fn Tryz.prog 160 [o.fs, .int .i64 0, .int .i64 l.length] (o.G ++ H) R (fun v H' R' => ∃ ys, ∃ o' : OSl 3 1 (Z3 ys), SrtI l ys l.length ∧ o'.fs = o.fs ∧ v = .tuple #[] ∧ H' = o'.G ++ H ∧ R' = R) := by
  have hir : (Z3 l).length = l.length := List.length_map _
  rcases o.is with ⟨h1, h2, h3⟩ | ⟨b, cap, junk, h2, h3, hj, hc, hm⟩
  · have hx : l = [] := List.map_eq_nil_iff.1 h1
    subst hx
    rw [h2, h3]
    exact Fn.mono (Zdl H R) (by rintro v H' R' ⟨rfl, rfl, rfl⟩; exact ⟨[], OSl.nil _ _, ⟨.refl _, fun p q h4 h5 => by simp at h5⟩, rfl, rfl, rfl, rfl⟩)
  · rw [hir] at h2 hj hc
    rw [h2, h3, Z0u]
    exact Fn.mono (Zeh l b cap junk hl H R) (by
      rintro v H' R' ⟨ys, hs, rfl, rfl, rfl⟩
      have hyl := hs.perm.length_eq
      have hyi : (Z3 ys).length = l.length := by rw [List.length_map, hyl]
      exact ⟨ys, ⟨.slice (some ⟨b, 0, none⟩) (Z3 ys).length cap, [(b, cel 3 ((Z3 ys).flatten ++ junk))], Zau _, .inr ⟨b, cap, junk, rfl, rfl, by rw [hyi]; exact hj, by rw [hyi]; exact hc, hm⟩⟩, hs, congrArg (fun q => Value.slice (some ⟨b, 0, none⟩) q cap) hyi, rfl, congrArg (fun q => (b, cel 3 (q ++ junk)) :: H) (Z0u ys).symm, rfl⟩)
theorem ZeG (l : List Int) (o : OSl 3 1 (Z3 l)) (hl : l.length ≤ 12) (z : Int) (H : Z8) (R : Z5) :
    Fn Tryz.prog 132 [o.fs, .int .i64 0, .int .i64 l.length, .int .i64 z] (o.G ++ H) R (fun v H' R' => ∃ ys, ∃ o' : OSl 3 1 (Z3 ys), SrtI l ys l.length ∧ o'.fs = o.fs ∧ v = .tuple #[] ∧ H' = o'.G ++ H ∧ R' = R) := by
 refine Ze Tryz.func132 rfl Tryz.ntmps132 rfl ?_
 refine sqt 1 rfl (pur 1 rfl (sqt 1 rfl (pur 1 rfl (Z4 ?_))))
 refine Zc (ι := Unit) (fun _ => ⟨[(0, o.fs), (1, .int .i64 0), (2, .int .i64 l.length)], o.G ++ H, R⟩) (fun x => 0) () ?_ (fun x => ?_)
 exact Zh idH
 refine Z4 (sqt 4 rfl (pur 2 rfl (sp rfl (PE.sub rfl rfl (by omega)) rfl (pur 1 rfl (Z0 (sqt 2 rfl (pur 2 rfl ?_)))))))
 refine Z1 rfl ?_ ?_ <;> intro hc0
 refine sqt 4 rfl (pur 3 rfl ?_)
 refine cl rfl Zej rfl rfl (ZeC l o hl _ _) ?_
 rintro _ _ R1 ⟨ys, o', hs, hof, rfl, rfl, hR1⟩
 obtain rfl := hR1.symm
 clear hR1
 refine Z6 ?_
 exact Zp (vs := []) rfl .nil rfl ⟨ys, o', hs, hof, rfl, rfl, rfl⟩ idH
 simp only [decide_eq_false_iff_not] at hc0
 omega
theorem ZbF (k : Nat) (hk : k ≤ 12) (H : Z8) (R : Z5) :
    Fn Tryz.prog 169 [.int .u64 k] H R (fun v H' R' => ∃ z : Int, v = .int .i64 z ∧ H' = H ∧ R' = R) := by
 refine Ze Tryz.func169 rfl Tryz.ntmps169 rfl ?_
 refine sqt 1 rfl (pur 1 rfl (Z0 (sqt 2 rfl (pur 1 rfl (sp rfl (PE.geq  rfl rfl) rfl ?_)))))
 refine Z1 rfl ?_ ?_ <;> intro hc0
 simp only [decide_eq_true_eq] at hc0
 omega
 refine Z2 (Z0 (sqt 2 rfl (pur 1 rfl (sp rfl (PE.geq  rfl rfl) rfl ?_))))
 refine Z1 rfl ?_ ?_ <;> intro hc1
 simp only [decide_eq_true_eq] at hc1
 omega
 refine Z2 (Z0 (sqt 2 rfl (pur 1 rfl (sp rfl (PE.geq  rfl rfl) rfl ?_))))
 refine Z1 rfl ?_ ?_ <;> intro hc2
 simp only [decide_eq_true_eq] at hc2
 omega
 refine Z2 (sqt 7 rfl (pur 2 rfl ?_))
 refine sp rfl ((PE.convert Zf1 ik5 rfl).to (by rw [Z6N (by omega) (by omega)])) rfl ?_
 refine spE rfl (PE.indexS (m := 256) Zfb rfl rfl (by kernel_rfl) (by omega)) rfl ?_
 rintro _ ⟨u22, rfl, hu22⟩
 refine sp rfl (PE.conv64 us5 ik3 rfl (by omega)) rfl (sp rfl (PE.add rfl rfl (by omega)) rfl (pur 1 rfl (Z6 ?_)))
 exact rtA rfl rfl rfl ⟨_, rfl, rfl, rfl⟩ idH
theorem ZfA (k : Nat) (hk : k ≤ 12) (H : Z8) (R : Z5) :
    Fn Tryz.prog 133 [.int .u64 k] H R (fun v H' R' => ∃ z : Int, v = .int .i64 z ∧ H' = H ∧ R' = R) := by
 refine Ze Tryz.func133 rfl Tryz.ntmps133 rfl ?_
 refine sqt 1 rfl (pur 1 rfl (Z0 ?_))
 refine ZA rfl ?_
 refine Z2 (sqt 3 rfl (pur 1 rfl ?_))
 refine cl rfl Zdd rfl rfl (ZbF k hk _ _) ?_
 rintro _ _ R1 ⟨z, rfl, rfl, hR1⟩
 obtain rfl := hR1.symm
 clear hR1
 refine pur 1 rfl (Z6 ?_)
 exact rtA rfl rfl rfl ⟨_, rfl, rfl, rfl⟩ idH
theorem Zax (l : List Int) (o : OSl 3 1 (Z3 l)) (hl : l.length ≤ 12) (H : Z8) (R : Z5) :
    Fn Tryz.prog 64 [o.fs] (o.G ++ H) R (fun v H' R' => ∃ ys, ∃ o' : OSl 3 1 (Z3 ys), SrtI l ys l.length ∧ o'.fs = o.fs ∧ v = .tuple #[] ∧ H' = o'.G ++ H ∧ R' = R) := by
 obtain ⟨a, c, he, hcc, _⟩ := o.freezeC
 rw [show (Z3 l).length = l.length from List.length_map _] at he hcc
 refine Ze Tryz.func64 rfl Tryz.ntmps64 rfl ?_
 refine sqt 3 rfl (pur 1 rfl (sp rfl (PE.lenSl Zw (congrArg some he)) rfl (pur 1 rfl (sqr 6 rfl (pur 3 rfl ?_)))))
 refine sp rfl ((PE.convert us3 Zf0 rfl).to (by rw [Z5r (by omega) (by omega)])) rfl ?_
 refine cl rfl ZdA rfl rfl (ZfA l.length hl _ _) ?_
 rintro _ _ R1 ⟨z, rfl, rfl, hR1⟩
 obtain rfl := hR1.symm
 clear hR1
 refine cl rfl ZdL rfl rfl (ZeG l o hl z _ _) ?_
 rintro _ _ R1 ⟨ys, o', hs, hof, rfl, rfl, hR1⟩
 obtain rfl := hR1.symm
 clear hR1
 exact Z2a (vs := []) rfl .nil rfl ⟨ys, o', hs, hof, rfl, rfl, rfl⟩ idH
theorem Z4v (l : List Int) (o : OSl 3 1 (Z3 l)) (hl : l.length ≤ 1000) (H : Z8) (R : Z5) :
    Fn Tryz.prog 65 [o.fs] (o.G ++ H) R (fun v H' R' => ∃ a m c', v = .slice a m c' ∧ ((m = l.length ∧ ∀ p, p + 1 < l.length → nn l p ≠ nn l (p + 1)) ∨ (m < l.length ∧ ∃ p, p + 1 < l.length ∧ nn l p = nn l (p + 1))) ∧ H' = H ∧ R' = R) := by
 obtain ⟨a, c, he, hcc, _⟩ := o.freezeC
 rw [show (Z3 l).length = l.length from List.length_map _] at he hcc
 refine Ze Tryz.func65 rfl Tryz.ntmps65 rfl ?_
 refine sqt 1 rfl (pur 1 rfl (Z0 (sqt 3 rfl (pur 1 rfl (sp rfl (PE.lenSl Zw (congrArg some he)) rfl (pur 1 rfl ?_))))))
 refine Z1 rfl ?_ ?_ <;> intro hc0 <;> try simp only [cS] at hc0
 rw [he]
 refine sqt 2 rfl (pur 2 rfl (Z6 ?_))
 exact rtA rfl rfl rfl ⟨a, l.length, c, rfl, .inl ⟨rfl, fun p hp => by omega⟩, rfl, rfl⟩ (fun w h => St.drop h)
 have hir : (Z3 l).length = l.length := List.length_map _
 obtain ⟨b, cap, junk, hfs, hG, hj, hcap, hmx⟩ := o.is.resolve_left (fun h => by rw [h.1] at hir; simp at hir; omega)
 rw [hir] at hfs hcap hj
 rw [hfs, hG, Z0u]
 refine Sy.heap (H' := (b, cel 3 (Zm l ++ junk)) :: H) idH ?_
 clear he
 refine Z2 (Z0 (sqt 1 rfl (pur 1 rfl (Z4 ?_))))
 refine Zc (ι := {k : Nat // 1 ≤ k ∧ k ≤ l.length ∧ ∀ p, p + 1 < k → nn l p ≠ nn l (p + 1)}) (fun k => ⟨[(0, .slice (some ⟨b, 0, none⟩) l.length cap), (3, .int .i64 k.1)], (b, cel 3 (Zm l ++ junk)) :: H, R⟩) (fun k => l.length - k.1) ⟨1, by omega, by omega, fun p hp => by omega⟩ ?_ (fun k => ?_)
 exact Zh idH
 obtain ⟨k, hk1, hk2, hne⟩ := k
 dsimp only at hk1 hk2 hne ⊢
 refine Z0 (sqt 4 rfl (pur 2 rfl (sp rfl (PE.lenSl Zw rfl) rfl (pur 1 rfl ?_))))
 refine Z1 rfl ?_ ?_ <;> intro hc1 <;> try simp only [cS] at hc1
 refine Z2 (Z0 (Z4 (Z0 ?_)))
 refine Zf [0, 0, 3, 7, 0, 0, 32, 112, 240, 511] (tks 0 3 (.ld 3 (tks 4 4 (.ld 8 (.tk 9 .done))))) Zy (by kernel_rfl) ?_
 refine Zg 2 rfl (tk rfl (PE.indexAddr Z0R rfl rfl (by omega) (by omega)) rfl (ld rfl rfl (lh sc3 rfl (Z3s (by omega))) rfl (Zg 2 rfl (tk rfl (PE.sub rfl rfl (by omega)) rfl ?_))))
 rw [show (k : Int) - 1 = ((k - 1 : Nat) : Int) from by omega]
 refine tk rfl (PE.indexAddr Z0R rfl rfl (by omega) (by omega)) rfl (ld rfl rfl (lh sc3 rfl (Z3s (by omega))) rfl (Zg 1 rfl ?_))
 refine Z1 rfl ?_ ?_ <;> intro hc2 <;> try simp only [cS] at hc2
 refine sqt 4 rfl (pur 2 rfl (sp rfl (PE.slLo Z0l rfl rfl (by omega) (by omega)) rfl (pur 1 rfl (Z0 (sqt 1 rfl (pur 1 rfl (Z4 ?_)))))))
 refine Zc (ι := {x : Nat × Nat × List Int // k ≤ x.1 ∧ x.1 + 1 ≤ k + x.2.1 ∧ 1 ≤ x.2.1 ∧ x.2.1 ≤ l.length - k ∧ x.2.2.length = l.length}) (fun x => ⟨[(0, .slice (some ⟨b, 0, none⟩) l.length cap), (3, .int .i64 x.1.1), (4, .slice (some ⟨b, 0 + k * 1, none⟩) (l.length - k) (cap - k)), (5, .int .i64 x.1.2.1)], (b, cel 3 (Zm x.1.2.2 ++ junk)) :: H, R⟩) (fun x => l.length - x.1.2.1) ⟨(k, 1, l), by dsimp only; omega, by dsimp only; omega, by dsimp only; omega, by dsimp only; omega, rfl⟩ ?_ (fun x => ?_)
 exact Zh idH
 obtain ⟨⟨m, q, ys⟩, hm1, hm2, hq1, hq2, hyl⟩ := x
 dsimp only at hm1 hm2 hq1 hq2 hyl ⊢
 refine Z0 (sqt 4 rfl (pur 2 rfl (sp rfl (PE.lenSl Zw rfl) rfl (pur 1 rfl ?_))))
 refine Z1 rfl ?_ ?_ <;> intro hc3 <;> try simp only [cS] at hc3
 refine Z2 (Z0 (Z4 (Z0 ?_)))
 refine Zf [0, 0, 3, 7, 0, 0, 32, 112, 240, 511] (tks 0 3 (.ld 3 (tks 4 4 (.ld 8 (.tk 9 .done))))) Zy (by kernel_rfl) ?_
 refine Zg 2 rfl (tk rfl (PE.indexAddr Z0R rfl rfl (by omega) (by omega)) rfl (ld rfl rfl (lh sc3 rfl (Z5b (by omega))) rfl (Zg 2 rfl (tk rfl (PE.sub rfl rfl (by omega)) rfl ?_))))
 rw [show (q : Int) - 1 = ((q - 1 : Nat) : Int) from by omega]
 refine tk rfl (PE.indexAddr Z0R rfl rfl (by omega) (by omega)) rfl (ld rfl rfl (lh sc3 rfl (Z5b (by omega))) rfl (Zg 1 rfl ?_))
 refine Z1 rfl ?_ ?_ <;> intro hc4 <;> try simp only [cS] at hc4
 refine sqt 8 rfl (pur 4 rfl (sp rfl (PE.indexAddr Z0R rfl rfl (by omega) (by omega)) rfl (spL rfl rfl (lh sc3 rfl (Z5b (by omega))) rfl (sp rfl (PE.indexAddr Z0R rfl rfl (by omega) (by omega)) rfl ?_))))
 refine ZN (l' := Zm ((ys).set m (nn ys (k + q))) ++ junk) rfl rfl rfl cn3 rfl rfl rfl (Z3i (show m < ys.length by omega) _) (by rw [List.length_append, Zb]; show 0 + ((m : Nat) : Int).toNat * 1 + 1 ≤ _; have := (show m < ys.length by omega); omega) ?_
 refine sqr 3 rfl (pur 1 rfl (sp rfl (PE.add rfl rfl (by omega)) rfl (pur 1 rfl (sqr 3 rfl (pur 1 rfl (sp rfl (PE.add rfl rfl (by omega)) rfl (pur 1 rfl ?_)))))))
 exact Z7 ⟨(m + 1, q + 1, ys.set m (nn ys (k + q))), by dsimp only; omega, by dsimp only; omega, by dsimp only; omega, by dsimp only; omega, by rw [List.length_set]; exact hyl⟩ idH
 refine Z2 (sqr 3 rfl (pur 1 rfl (sp rfl (PE.add rfl rfl (by omega)) rfl (pur 1 rfl ?_))))
 exact Z7 ⟨(m, q + 1, ys), by dsimp only; omega, by dsimp only; omega, by dsimp only; omega, by dsimp only; omega, hyl⟩ idH
 refine Z9 (Za (Za (Zl (sqt 4 rfl (pur 2 rfl (sp rfl (PE.slLo Z0l rfl rfl (by omega) (by omega)) rfl ?_))))))
 refine ZfH rfl rfl Z0l zl3 rfl rfl rfl (by rw [List.length_append, Zb]; omega) ?_
 refine sqt 4 rfl (pur 2 rfl (sp rfl (PE.slHi Z0l rfl rfl (by omega)) rfl (pur 1 rfl (Z6 ?_))))
 first
   | exact rtA rfl rfl rfl ⟨_, m, cap, rfl, .inr ⟨by omega, k - 1, by omega, by rw [show k - 1 + 1 = k from by omega]; exact hc2.symm⟩, rfl, rfl⟩ (fun w h => h.del b)
   | exact rtA rfl rfl rfl ⟨_, l.length, cap, rfl, .inl ⟨rfl, hne⟩, rfl, rfl⟩ (fun w h => h.del b)
 refine Z2 (sqr 3 rfl (pur 1 rfl (sp rfl (PE.add rfl rfl (by omega)) rfl (pur 1 rfl ?_))))
 exact Z7 ⟨k + 1, by omega, by omega, fun p hp => by rcases Nat.lt_or_ge (p + 1) k with h1 | h1; exact hne p h1; obtain rfl : p + 1 = k := (by omega); simp only [Nat.add_sub_cancel] at hc2; exact fun e => hc2 e.symm⟩ idH
 obtain rfl : k = l.length := by omega
 refine Z9 (Za (Za (Zl (sqt 2 rfl (pur 2 rfl (Z6 ?_))))))
 first
   | exact rtA rfl rfl rfl ⟨_, m, cap, rfl, .inr ⟨by omega, k - 1, by omega, by rw [show k - 1 + 1 = k from by omega]; exact hc2.symm⟩, rfl, rfl⟩ (fun w h => h.del b)
   | exact rtA rfl rfl rfl ⟨_, l.length, cap, rfl, .inl ⟨rfl, hne⟩, rfl, rfl⟩ (fun w h => h.del b)
theorem Z5w {gs : List Gp} {cl : Nat → Nat} {m n : Nat} {ks : List Int} (hk : ∀ k ∈ ks, 0 ≤ k ∧ k < (n : Int)) : (!(ks.any fun k => decide (na (Z5o gs cl m n) k.toNat < 100))) = decide (lvp gs cl m 20 &&& msk ks = 0) := by
  have key : ∀ k ∈ ks, (na (Z5o gs cl m n) k.toNat < 100 ↔ (lvp gs cl m 20).testBit k.toNat = true) := fun k hx => by
    have h1 := hk k hx
    rw [Zb3 (by omega)]
    constructor
    · intro h2
      cases hb : (lvp gs cl m 20).testBit k.toNat with
      | true => rfl
      | false => rw [Z4Z hb] at h2; omega
    · intro h2
      obtain ⟨t, h3, h4, _⟩ := Z4W h2
      omega
  rw [Bool.eq_iff_iff, Bool.not_eq_true', List.any_eq_false, decide_eq_true_eq, and_zero]
  constructor
  · intro h1 j hj
    cases hb : (msk ks).testBit j with
    | false => rfl
    | true =>
      have h2 := (Zq (fun k hx => (hk k hx).1) j).1 hb
      exact absurd (decide_eq_true ((key _ h2).2 (by rw [Int.toNat_natCast]; exact hj))) (h1 _ h2)
  · intro h1 k hx h2
    have h3 := (key k hx).1 (of_decide_eq_true h2)
    have h4 := (Zq (fun k hx => (hk k hx).1) k.toNat).2 (by rw [show ((k.toNat : Nat) : Int) = k by have := hk k hx; omega]; exact hx)
    rw [h1 _ h3] at h4; cases h4
theorem Z8b {gs : List Gp} {K sp : Nat} : ∀ {ls : List Nat} {m c m' c' : Nat}, Seg gs K sp m c ls m' c' → m' = Z7F gs m c ls ∧ c' = Z6C c ls
  | [], _, _, _, _, ⟨h1, h2⟩ => ⟨h1, h2⟩
  | l :: ls, _, _, _, _, ⟨_, h2⟩ => Z8b (ls := ls) h2
theorem Zao {gs : List Gp} {K sp : Nat} (hg : gs.length ≤ 10) : ∀ {ls : List Nat} {m c m' c' : Nat}, Seg gs K sp m c ls m' c' → ((ls.map Z08).flatten).Nodup ∧ (∀ x ∈ (ls.map Z08).flatten, c.testBit x.toNat = false) ∧ ∀ l ∈ ls, l < 2 ^ gs.length ∧ cnt gs.length l ≤ sp
  | [], _, _, _, _, _ => ⟨List.nodup_nil, by simp, by simp⟩
  | l :: ls, m, c, m', c', ⟨⟨h1, h2, h3, _⟩, h4⟩ => by
    obtain ⟨i1, i2, i3⟩ := Zao hg (ls := ls) h4
    rw [List.map_cons, List.flatten_cons]
    have key : ∀ x ∈ Z08 l, ∃ k : Nat, x = k ∧ l.testBit k = true := fun x hx => by
      obtain ⟨k, _, h6, rfl⟩ := memL_bit.1 hx; exact ⟨k, rfl, h6⟩
    refine ⟨List.nodup_append.2 ⟨Zbi l, i1, fun a ha b hb e => ?_⟩, fun x hx => ?_, fun x hx => ?_⟩
    · subst e
      obtain ⟨k, rfl, h6⟩ := key a ha
      have h7 := i2 _ hb
      rw [Int.toNat_natCast, Nat.testBit_or, h6, Bool.or_true] at h7; cases h7
    · rcases List.mem_append.1 hx with h5 | h5
      · obtain ⟨k, rfl, h6⟩ := key x h5
        rw [Int.toNat_natCast]
        exact and_zero.1 h2 k h6
      · have h7 := i2 x h5
        rw [Nat.testBit_or, Bool.or_eq_false_iff] at h7; exact h7.1
    · rcases List.mem_cons.1 hx with rfl | h5
      · exact ⟨h1, h3⟩
      · exact i3 x h5
theorem Z9z (s : Nat) : Z90 (Z08 s) = true := by
  obtain ⟨y, h1, h2, _⟩ := Z2N s
  rw [h1]
  refine ZbR fun i hi => ?_
  rw [List.length_map] at hi
  have h3 := List.pairwise_iff_getElem.1 h2 i (i + 1) (by omega) hi (by omega)
  rw [Z4u (x := (y[i] : Int)) (by rw [List.getElem?_map, List.getElem?_eq_getElem (by omega)]; rfl), Z4u (x := (y[i + 1] : Int)) (by rw [List.getElem?_map, List.getElem?_eq_getElem hi]; rfl)]
  omega
structure SvP (h : Hse) (fr to_ : List Int) (sp ls : Int) (pl : List PL) : Prop where
  pln : ZaN h.gaps.length sp (lls pl) = 0
  sv : h.svB fr to_ (lls pl) = true
  len : ((lls pl).flatten.length : Int) = ls
  few : pl.length ≤ 8
  nn : ∀ x ∈ (lls pl).flatten, 0 ≤ x
  tot : (lls pl).flatten.length ≤ 1000
theorem Zd7 {h : Hse} {fr to_ : List Int} {sp : Int} {ls : List Nat} {pl : List PL} (hre : h.rcE fr to_ sp = 0) (hll : lls pl = ls.map Z08) (hpl : pl.length ≤ 8) (hlt : ∀ l ∈ ls, l < 2 ^ h.gaps.length) (hr : RunP h.gaps (msk to_) sp.toNat (msk fr) 0 ls) : SvP h fr to_ sp (Z6V h.gaps ls) pl := by
  obtain ⟨hb, hs0, hs1⟩ := Zbg hre
  have hk := hb.ok
  have hgl := hk.gl
  obtain ⟨m', c', hseg, hsh⟩ := hr
  obtain ⟨n1, n2, n3⟩ := Zao hgl hseg
  obtain ⟨r1, r2⟩ := Z8b hseg
  have hmm : (lls pl).map msk = ls := by
    rw [hll, List.map_map]
    exact (List.map_congr_left (g := id) fun t ht => Z5Y (Nat.lt_of_lt_of_le (hlt t ht) (Nat.pow_le_pow_right (by decide) hgl))).trans (List.map_id _)
  have hrg : ∀ l ∈ ls, ∀ x ∈ Z08 l, 0 ≤ x ∧ x < (h.gaps.length : Int) := fun l hl x hx => by
    obtain ⟨k, _, h6, rfl⟩ := memL_bit.1 hx
    have := Z0j (hlt l hl) h6; omega
  have hfl : (lls pl).flatten.length = Z6V h.gaps ls := by rw [hll]; exact Z3Y hgl hlt
  have hnn : ∀ x ∈ (lls pl).flatten, 0 ≤ x ∧ x < (h.gaps.length : Int) := fun x hx => by
    rw [hll] at hx
    obtain ⟨l, h1, h2⟩ := List.mem_flatten.1 hx
    obtain ⟨t, ht, rfl⟩ := List.mem_map.1 h1
    exact hrg t ht x h2
  have hpe : plE h.gaps.length sp (lls pl) = 0 := plE_zero.2 fun l hl => by
    rw [hll] at hl
    obtain ⟨t, ht, rfl⟩ := List.mem_map.1 hl
    have h1 : (!((Z08 t).all fun k => inB k 0 ((h.gaps.length : Int) - 1))) = false := by
      rw [Bool.not_eq_false', List.all_eq_true]
      intro x hx
      have := hrg t ht x hx
      simp [inB]; omega
    rw [ZaU h1 (Z9z t), Z4j (hlt t ht) hgl, decide_eq_false (by have := (n3 t ht).2; omega)]; rfl
  refine ⟨?_, ?_, by rw [hfl], hpl, fun x hx => (hnn x hx).1, ?_⟩
  · rw [Z7e (by rw [Z2k]; omega) hpe]
    exact Z24 hnn (by rw [hll]; exact n1)
  · refine (Z7v hk (to_ := to_) (fun x hx => (ZS hb.el).1 x hx) (pl := pl) (by omega)).1.2 ?_
    rw [hmm, ← r1, ← r2]; exact hsh
  · have h1 := ZaI hnn (by rw [hll]; exact n1)
    omega
def SvU (h : Hse) (fr to_ : List Int) (sp u ls : Int) : Prop := (h.rcE fr to_ sp ≠ 0 ∧ u = h.rcE fr to_ sp ∧ ls = 0) ∨ (h.rcE fr to_ sp = 0 ∧ (∀ n, ¬ Pl h.gaps (msk to_) sp.toNat (msk fr) 0 n) ∧ u = 6 ∧ ls = 0) ∨ (h.rcE fr to_ sp = 0 ∧ u = 0 ∧ ∃ n : Nat, Lst (Pl h.gaps (msk to_) sp.toNat (msk fr) 0) n ∧ ls = n)
theorem Zbt (h : Hse) (ag as_ : Option Addr) (cg cs : Nat) (hlg : h.gaps.length ≤ 1000000) (hls : h.sights.length ≤ 1000000) (fr to_ : List Int) (af at_ : Option Addr) (cf ct : Nat) (hlf : fr.length ≤ 1000000) (hlt : to_.length ≤ 1000000) (hfc : fr.length ≤ cf) (htc : to_.length ≤ ct) (sp u ls : Int) (hU : SvU h fr to_ sp u ls) (H : Z8) (R : Z5) [hG : MemRows ag 2 (Zk h.gaps) R] [hS : MemRows as_ 3 (Zo h.sights) R] [hF : MemRows af 1 (Z3 fr) R] [hT : MemRows at_ 1 (Z3 to_) R] : Fn Tryz.prog 21 [h.v (h.sg ag cg) (h.ss as_ cs), .slice af fr.length cf, .slice at_ to_.length ct, .int .i64 sp] H R (fun v H' R' => ∃ (pl : List PL) (a : Option Addr) (c : Nat), (u ≠ 0 → pl.length = 0) ∧ (u = 0 → SvP h fr to_ sp ls pl) ∧ pl.length ≤ 8 ∧ pl.length ≤ c ∧ v = .tuple #[.slice a pl.length c, .int .i64 u] ∧ H' = H ∧ R' = RowsA a 1 (Zt pl) :: Inn pl :: R) := fun w hw => by
  refine CallsIn.mono (Z7C h ag as_ cg cs (by omega) (by omega) fr to_ af at_ cf ct hlf hlt hfc htc sp H R w hw) ?_
  rintro e' w' ⟨v, H', R', ⟨rfl, hq⟩, he, hs'⟩
  rcases hq with ⟨h1, rfl, rfl⟩ | ⟨h1, h2, rfl, rfl⟩ | ⟨h1, ls9, pl, a, c, h2, h3, h4, h5, h6, h7, rfl, rfl⟩
  · rcases hU with ⟨_, rfl, rfl⟩ | ⟨g1, _⟩ | ⟨g1, _⟩
    · exact ⟨_, _, _, ⟨[], none, 0, fun _ => rfl, fun h9 => absurd h9 h1, Nat.zero_le _, Nat.le_refl _, rfl, rfl, rfl⟩, he, St.norows (sz := 1) (St.inn0 hs')⟩
    · exact absurd g1 h1
    · exact absurd g1 h1
  · rcases hU with ⟨g1, _⟩ | ⟨_, _, rfl, rfl⟩ | ⟨_, _, n, g2, _⟩
    · exact absurd h1 g1
    · exact ⟨_, _, _, ⟨[], none, 0, fun _ => rfl, fun h9 => absurd h9 (by decide), Nat.zero_le _, Nat.le_refl _, rfl, rfl, rfl⟩, he, St.norows (sz := 1) (St.inn0 hs')⟩
    · exact absurd g2.1 (h2 n)
  · rcases hU with ⟨g1, _⟩ | ⟨_, g1, _⟩ | ⟨_, rfl, n, g2, rfl⟩
    · exact absurd h1 g1
    · exact absurd h7.1 (g1 _)
    · obtain rfl := g2.unique h7
      exact ⟨_, _, _, ⟨pl, a, c, fun h9 => absurd rfl h9, fun _ => Zd7 h1 h2 h3 h5 h6, h3, h4, rfl, rfl, rfl⟩, he, hs'⟩
theorem Z85 (h : Hse) (ag as_ : Option Addr) (cg cs : Nat) (hlg : h.gaps.length ≤ 1000000) (hls : h.sights.length ≤ 1000000) (fr to_ : List Int) (af at_ : Option Addr) (cf ct : Nat) (hlf : fr.length ≤ 1000000) (hlt : to_.length ≤ 1000000) (hfc : fr.length ≤ cf) (htc : to_.length ≤ ct) (sp u ls : Int) (hU : SvU h fr to_ sp u ls) (H : Z8) (R : Z5) [hG : MemRows ag 2 (Zk h.gaps) R] [hS : MemRows as_ 3 (Zo h.sights) R] [hF : MemRows af 1 (Z3 fr) R] [hT : MemRows at_ 1 (Z3 to_) R] : Fn Tryz.prog 22 [h.v (h.sg ag cg) (h.ss as_ cs), .slice af fr.length cf, .slice at_ to_.length ct, .int .i64 sp] H R (fun v H' R' => v = .tuple #[.int .i64 ls, .int .i64 u] ∧ H' = H ∧ R' = R) := fun w hw => by
  refine CallsIn.mono (Z5I h ag as_ cg cs (by omega) (by omega) fr to_ af at_ cf ct hlf hlt hfc htc sp H R w hw) ?_
  rintro e' w' ⟨v, H', R', ⟨rfl, hq⟩, he, hs'⟩
  obtain ⟨rfl, hq⟩ := hq
  rcases hq with ⟨h1, rfl⟩ | ⟨h1, h2, rfl⟩ | ⟨h1, n9, _, h7, rfl⟩
  · rcases hU with ⟨_, rfl, rfl⟩ | ⟨g1, _⟩ | ⟨g1, _⟩
    · exact ⟨_, _, _, ⟨rfl, rfl, rfl⟩, he, hs'⟩
    · exact absurd g1 h1
    · exact absurd g1 h1
  · rcases hU with ⟨g1, _⟩ | ⟨_, _, rfl, rfl⟩ | ⟨_, _, n, g2, _⟩
    · exact absurd h1 g1
    · exact ⟨_, _, _, ⟨rfl, rfl, rfl⟩, he, hs'⟩
    · exact absurd g2.1 (h2 n)
  · rcases hU with ⟨g1, _⟩ | ⟨_, g1, _⟩ | ⟨_, rfl, n, g2, rfl⟩
    · exact absurd h1 g1
    · exact absurd h7.1 (g1 _)
    · obtain rfl := g2.unique h7
      exact ⟨_, _, _, ⟨rfl, rfl, rfl⟩, he, hs'⟩
theorem Way.on {gs : List Gp} {op : Nat → Bool} {f : Nat → Int} {S K : Nat} (hn : ∀ g ∈ gs, 0 ≤ g.a ∧ 0 ≤ g.b) : ∀ {l : List (Nat × Nat)} {u w : Nat}, Way gs op f S K u l w → ∀ here : List Int, (u : Int) ∈ here → (w : Int) ∈ (l.map fun x => (x.1 : Int)).foldl (fun here q => here.filterMap (Z4s gs 0 q.toNat)) here
  | [], u, w, h, here, hu => by cases h; exact hu
  | (i, v) :: l, u, w, h, here, hu => by
    cases h with
    | cons hg ho hk hsv hs h =>
      rename_i g
      have h0 := hn g (List.mem_of_getElem? hg)
      rw [List.map_cons, List.foldl_cons]
      refine Way.on hn h _ (List.mem_filterMap.2 ⟨(u : Int), hu, ?_⟩)
      dsimp only
      rw [Int.toNat_natCast]
      rcases hs with ⟨h1, h2, _⟩ | ⟨h1, h2, _⟩
      · rw [Z3K hg (Nat.zero_testBit _) (.inl (by omega))]; exact congrArg some (by omega)
      · rw [Z3K hg (Nat.zero_testBit _) (.inr (by omega))]; exact congrArg some (by omega)
theorem WyK.lds {gs : List Gp} {fr to_ p : List Int} (hn : ∀ g ∈ gs, 0 ≤ g.a ∧ 0 ≤ g.b) (hf : ∀ x ∈ fr, 0 ≤ x) (ht : ∀ x ∈ to_, 0 ≤ x) (h : WyK gs (msk fr) (msk to_) p) : Z5N gs 0 fr to_ p = true := by
  obtain ⟨op, f, u, l, w, h1, h2, rfl⟩ := h
  have h3 := h1.way.on hn fr ((Zq hf u).1 h1.from_)
  have h4 := (Zq ht w).1 h1.to
  have h5 := List.length_pos_iff.2 h2
  unfold Z5N Z1j
  rw [List.length_map, decide_eq_true h5, Bool.true_and, List.any_eq_true]
  exact ⟨_, h3, hasI_iff.2 h4⟩
theorem WysP.led {h : Hse} {fr to_ : List Int} {pl : List PL} (hb : h.botE fr to_ = 0) (hp : WysP h.gaps (msk fr) (msk to_) pl) : h.ledE fr to_ (lls pl) = 0 ∧ h.ledR fr to_ (lls pl) = pl.length := by
  have hbo := Z0x hb
  obtain ⟨q1, q2, _⟩ := Z0g hbo
  have h1 := ZbU hb (Z24 (n := (h.gaps.length : Int)) hp.rng hp.nd) (fun l hl => (hp.wy l hl).lds (fun g hg => by have := hbo.ok.gaps g hg; omega) (fun x hx => (q1 x hx).1) (fun x hx => (q2 x hx).1))
  rw [Z2k] at h1; exact h1
theorem Zdn {h : Hse} {fr to_ gp : List Int} (hb : h.botE fr to_ = 0) : h.shE fr to_ gp = Zz (h.gaps.length : Int) gp := by unfold Hse.shE; rw [hb]; rfl
theorem St.inn1 {H : Z8} {R : Z5} {w : World} (x : PL) (h : St H R w) (hm : RowsA x.a 1 (Z3 x.l) ∈ R) : St H (Inn [x] :: R) w := by
  have h1 : St H (Inn [] :: R) w := St.inn0 h
  haveI : MemF (Inn []) (Inn [] :: R) := ⟨by simp⟩
  haveI : MemRows x.a 1 (Z3 x.l) (Inn [] :: R) := ⟨List.mem_cons_of_mem _ hm⟩
  exact (St.innSnoc (l := []) x h1).facts (fun g hg => by simp only [List.mem_cons] at hg ⊢; rcases hg with h8 | h8 <;> simp [h8])
theorem Z1E (l : List Int) (i : Nat) : (Z3 l).drop i = Z3 (l.drop i) := by unfold Z3; rw [List.map_drop]
theorem Z5v (l : List Int) (i : Nat) : (Z3 l).eraseIdx i = Z3 (l.eraseIdx i) := by
  unfold Z3
  rw [List.eraseIdx_eq_take_drop_succ, List.eraseIdx_eq_take_drop_succ, List.map_append, List.map_take, List.map_drop]
theorem Z3T (l : List Int) : ∀ r ∈ Z3 l, r.length = 1 := fun r hr => by obtain ⟨x, _, rfl⟩ := List.mem_map.1 hr; rfl
theorem Z1b (l : List Int) : (Z3 l).flatten.length = l.length * 1 := by rw [ZT (Z3T l), irl]
theorem Z9S (l : List Int) : (Z3 l).flatten.all (·.oneCell') = true := List.all_eq_true.2 fun v hv => by
  obtain ⟨r, hr, h2⟩ := List.mem_flatten.1 hv
  obtain ⟨x, _, rfl⟩ := List.mem_map.1 hr
  simp only [List.mem_cons, List.not_mem_nil, or_false] at h2
  rw [h2]; rfl
theorem Z8q (x : PL) : clP [x] = fun _ => msk x.l := by
  funext t
  unfold clP Z2w
  simp [lls]
theorem Z5J {gs : List Gp} {cl : Nat → Nat} {S K c : Nat} (hw : Wth gs 7) (hS : S < 2 ^ 7) (hc : ∀ t, cl t = c) : lvp gs cl S 20 &&& K = 0 ↔ Shut gs c S K := by
  have e : lvp gs cl S 20 = lv gs c S 20 := Z3R (t := 0) (fun i _ => hc i) 20
  rw [e, and_zero]
  constructor
  · intro h t v hv
    refine h v ?_
    rcases Nat.le_total t 20 with h1 | h1
    · exact Z6A h1 hv
    · rw [← Z29 hw hS (t := 20) (by decide) h1]; exact hv
  · intro h v hv; exact h 20 v hv
structure CtX (gl : Nat) (l : List Int) : Prop where
  rng : ∀ x ∈ l, 0 ≤ x ∧ x < (gl : Int)
  nd : l.Nodup
  asc : l.Pairwise (· < ·)
  few : l.length ≤ 10
theorem ZfP {gs : List Gp} (hg : gs.length ≤ 10) (X : Nat) : CtX gs.length (Z0p X gs) := by
  have hm := Z4x hg X
  obtain ⟨y, h1, h2, h3⟩ := Z2N (msk (Z0p X gs))
  rw [hm] at h1
  have hml := Z9o (msk (Z0p X gs))
  rw [hm] at hml
  have hp : (Z0p X gs).Pairwise (· < ·) := by rw [h1, List.pairwise_map]; exact h2.imp fun h4 => by omega
  refine ⟨fun x hx => ?_, ?_, hp, hml⟩
  · obtain ⟨i, g, h4, _, rfl⟩ := cutM_mem.1 hx
    have := (List.getElem?_eq_some_iff.1 h4).1; omega
  · rw [List.nodup_iff_pairwise_ne]; exact hp.imp fun h4 h5 => by omega
theorem Z8e {gs : List Gp} {S K : Nat} {l : List Int} {k : Nat} (hx : CtX gs.length l) (hc : Cut gs S K l.length) (hk : k < l.length) : ¬ Shut gs (msk (l.eraseIdx k)) S K := fun hs => by
  have hsub : (l.eraseIdx k).Sublist l := List.eraseIdx_sublist _ _
  have h1 : ∀ x ∈ l.eraseIdx k, 0 ≤ x ∧ x < (gs.length : Int) := fun x h => hx.rng x (hsub.subset h)
  have h2 := Za9 h1 (hx.nd.sublist hsub)
  have h3 := hc.2 (l.length - 1) ⟨msk (l.eraseIdx k), Z0k h1, hs, by rw [h2, List.length_eraseIdx_of_lt hk]⟩
  omega
theorem Zcy {l : List Int} (h : Z90 l = true) : l.Pairwise (· < ·) := by
  have key : ∀ i, i + 1 < l.length → na l i < na l (i + 1) := fun i hi => by
    exact Classical.byContradiction fun h1 => by rw [Ze1 hi (by omega)] at h; cases h
  have key2 : ∀ d i, i + d + 1 < l.length → na l i < na l (i + d + 1) := fun d => by
    induction d with
    | zero => exact fun i hi => key i hi
    | succ d ih =>
      intro i hi
      have h1 := ih i (by omega)
      have h2 := key (i + d + 1) (by omega)
      rw [show i + (d + 1) + 1 = i + d + 1 + 1 by omega]; omega
  rw [List.pairwise_iff_getElem]
  intro i j hi hj hij
  have h1 := key2 (j - i - 1) i (by omega)
  rw [show i + (j - i - 1) + 1 = j by omega, Z4u (List.getElem?_eq_getElem hi), Z4u (List.getElem?_eq_getElem hj)] at h1
  exact h1
theorem Z23 {gl : Nat} {sp : Int} {pl : List (List Int)} (h : ZaN gl sp pl = 0) : (∀ l ∈ pl, l.Pairwise (· < ·) ∧ (l.length : Int) ≤ sp) ∧ (∀ x ∈ pl.flatten, 0 ≤ x ∧ x < (gl : Int)) ∧ pl.flatten.Nodup := by
  by_cases h1 : 9 < pl.length
  · rw [Z84 h1] at h; cases h
  · by_cases h2 : plE gl sp pl = 0
    · rw [Z7e h1 h2] at h
      obtain ⟨h3, h4⟩ := ZS h
      exact ⟨fun l hl => by obtain ⟨_, h5, h6⟩ := Zbd (plE_zero.1 h2 l hl); exact ⟨Zcy h5, h6⟩, h3, h4⟩
    · rw [Zb1 h1 h2] at h; exact absurd h h2
theorem Z7T {l ys : List Int} {n : Nat} (hs : SrtI l ys n) (hd : l.Nodup) : ∀ p, p + 1 < ys.length → nn ys p ≠ nn ys (p + 1) := fun p hp => Zce hp (hs.perm.nodup_iff.2 hd)
theorem Zec {gl : Nat} {l : List Int} (hg : gl ≤ 10) (hr : ∀ x ∈ l, 0 ≤ x ∧ x < (gl : Int)) (hn : l.Nodup) : l.length ≤ 10 := by
  have := ZaI hr hn; omega
theorem ZaY {gl : Nat} {l ys : List Int} (hp : ys.Perm l) (hr : ∀ x ∈ l, 0 ≤ x ∧ x < (gl : Int)) : (ys.any fun k => decide (k < 0) || decide ((gl : Int) ≤ k)) = false := List.any_eq_false.2 fun x hx => by
  have := hr x (hp.mem_iff.1 hx)
  rw [decide_eq_false (by omega), decide_eq_false (by omega)]; decide
theorem ZdS {h : Hse} {fr to_ : List Int} (hb : h.botE fr to_ = 0) {spd m : Nat} (hsp : spd ≤ 10) (hc : Cut h.gaps (msk fr) (msk to_) m) : ∃ u ls : Int, SvU h fr to_ (spd : Int) u ls ∧ (u ≠ 0 → u = 6 ∧ spd ≠ m) ∧ (u = 0 → (m : Int) ≤ ls ∧ (spd = m → ls = m)) := by
  have hrz := Z7u hb hsp
  have ht := Z19 (Z0x hb)
  by_cases hex : ∃ n, Pl h.gaps (msk to_) spd (msk fr) 0 n
  · obtain ⟨n, hn⟩ := hex
    obtain ⟨k, hk, _⟩ := Lst.ex hn
    refine ⟨0, k, .inr (.inr ⟨hrz, rfl, k, by rw [Int.toNat_natCast]; exact hk, rfl⟩), fun h9 => absurd rfl h9, fun _ => ⟨by have := hk.1.cut hc; omega, fun e => ?_⟩⟩
    subst e
    rw [hk.unique (hc.plan ht.w ht.s (Nat.le_refl _))]
  · refine ⟨6, 0, .inr (.inl ⟨hrz, fun n hn => hex ⟨n, by rw [Int.toNat_natCast] at hn; exact hn⟩, rfl, rfl⟩), fun _ => ⟨rfl, fun e => ?_⟩, fun h9 => by cases h9⟩
    subst e
    exact hex ⟨_, (hc.plan ht.w ht.s (Nat.le_refl _)).1⟩
theorem Z9n (ws : List Int) (aw : Option Addr) (cw n bw : Nat) (hn : ws.length = n) (x : Int) (hx : 0 ≤ x ∧ x < n) (H : Z8) (R : Z5) [hW : MemRows aw 1 (Z3 ws) R] [hM : Mem1 bw (cel 26 [.slice aw n cw]) H] :
    FnV Tryz.prog 129 [.int .i64 x, .pointer (some ⟨bw, 0, none⟩)] H R (.bool (decide (na ws x.toNat < 100))) := by
 refine Ze Tryz.func129 rfl Tryz.ntmps129 rfl ?_
 refine sqt 1 rfl ?_
 obtain ⟨u, rfl⟩ : ∃ u : Nat, x = u := ⟨x.toNat, by omega⟩
 have hu := Z0s (l := ws) (k := u) (by omega)
 rw [Int.toNat_natCast]
 refine pur 1 rfl (sqt 6 rfl (spL rfl rfl (lh Z0P rfl rfl) rfl (pur 1 rfl ?_)))
 refine Zn (a := aw) (sz := 1) (rows := Z3 ws) (ne0 (by rw [irl]; omega)) (fun ba oa he => ?_)
 subst he
 refine sp rfl (PE.indexAddr Z0R rfl rfl (by omega) (by omega)) rfl (spL rfl rfl (lf0 sc3 (Z0d hu) rfl) rfl (pur 2 rfl (Z6 ?_)))
 exact rtA rfl rfl rfl ⟨rfl, rfl, rfl⟩ drp
theorem Z5q (ws ks : List Int) (aw ak : Option Addr) (cw ck n : Nat) (hn : ws.length = n) (hk : ∀ x ∈ ks, 0 ≤ x ∧ x < (n : Int)) (hkl : ks.length ≤ 1000000) (H : Z8) (R : Z5) [hW : MemRows aw 1 (Z3 ws) R] [hK : MemRows ak 1 (Z3 ks) R] :
    FnV Tryz.prog 58 [.slice aw n cw, .slice ak ks.length ck] H R (.bool (!(ks.any fun k => decide (na ws k.toNat < 100)))) := by
 refine Ze Tryz.func58 rfl Tryz.ntmps58 rfl ?_
 refine sqt 2 rfl (bx rfl rfl rfl (fun b2 => pur 1 rfl (sqt 5 rfl (pur 1 rfl (sp rfl (PE.makeFunc rfl rfl) rfl ?_)))))
 refine clV rfl Z6K rfl rfl (Z0W ks ak ck 129 [] [_] (fun k => decide (na ws k.toNat < 100)) Zd0 (by omega) _ _ (fun x hx => Z9n ws aw cw n b2 hn x (hk x hx) _ _)) ?_
 refine pur 2 rfl (Z6 ?_)
 exact rtA rfl rfl rfl ⟨rfl, rfl, rfl⟩ (fun w h9 => h9.del b2)
theorem Z88 (l : List Int) (o : OSl 3 1 (Z3 l)) (hl : l.length ≤ 1000000) (i : Nat) (hi : i < l.length) (H : Z8) (R : Z5) :
    Fn Tryz.prog 60 [o.fs, .int .i64 i, .int .i64 ((i + 1 : Nat) : Int)] (o.G ++ H) R (fun v H' R' => ∃ a c', (l.eraseIdx i).length ≤ c' ∧ v = .slice a (l.eraseIdx i).length c' ∧ H' = H ∧ R' = RowsA a 1 (Z3 (l.eraseIdx i)) :: R) := by
 have hgl9 : (Z3 l).length = l.length := irl l
 obtain ⟨b, cap, junk, hfs, hG, hj, hcap, hmx⟩ := o.is.resolve_left (fun h => by have := congrArg List.length h.1; rw [hgl9] at this; simp only [List.length_nil] at this; omega)
 rw [hgl9] at hfs hcap hj
 rw [hfs, hG]
 refine Ze Tryz.func60 rfl Tryz.ntmps60 rfl ?_
 refine sqt 1 rfl ?_
 refine Sy.heap (H' := (b, cel 3 ((Z3 l).flatten ++ junk)) :: H) idH ?_
 refine pur 1 rfl (sqt 6 rfl (pur 4 rfl (sp rfl (PE.lenSl Zw rfl) rfl (sp rfl (PE.slLHM Z0l rfl rfl rfl rfl (by omega) (by omega) (by omega)) rfl (Z0 (sqt 3 rfl (pur 3 rfl ?_)))))))
 refine Z1 rfl ?_ ?_ <;> intro hc0
 exact absurd hc0 (by simp; omega)
 refine Z2 (sqt 3 rfl (pur 1 rfl (sp rfl (PE.lenSl Zw rfl) rfl (pur 1 rfl (Z0 ?_)))))
 refine Zf [0, 0, 3, 0, 0, 24, 63, 127] (tks 0 6 (.big 6 (.tk 7 .done))) Zy (by kernel_rfl) ?_
 refine Zg 2 rfl (tk rfl (PE.slHi Z0l rfl rfl (by omega)) rfl (Zg 2 rfl (tk rfl (PE.slLoA Z0l rfl rfl (by omega)) rfl ?_)))
 obtain ⟨ax, hax, hsrc⟩ : ∃ ax : Addr, (if cap = i + 1 then some (⟨b, 0, none⟩ : Addr) else (some (⟨b, 0, none⟩ : Addr)).map (·.add ((i + 1) * 1))) = some ax ∧ ∀ j v, (((Z3 l).drop (i + 1)).flatten)[j]? = some v → ax.add j = ⟨b, (i + 1) * 1 + j, none⟩ := by
   by_cases h9 : cap = i + 1
   · refine ⟨_, if_pos h9, fun j v hj => ?_⟩
     have := (List.getElem?_eq_some_iff.1 hj).1
     rw [Z1E, Z1b, List.length_drop] at this; omega
   · exact ⟨_, if_neg h9, fun j v hj => by show ((⟨b, 0, none⟩ : Addr).add ((i + 1) * 1)).add j = _; rw [ZD, ZD]; simp⟩
 rw [hax]
 refine apI (((Z3 l).drop (i + 1)).flatten) rfl Z0l rfl rfl (by rw [Z1E, Z1b, List.length_drop]) (fun w hs j v hj => by rw [hsrc j v hj, Z1t (hs.held (b, cel 3 ((Z3 l).flatten ++ junk)) (by simp))]; simpa using ZbE (junk := junk) (Z3T l) (by rw [irl]; omega) hj) (by rw [Z1E]; exact Z9S _) (by omega) (by rw [Z1E, Z1b, List.length_drop, List.length_append, Z1b]; omega) rfl ?_
 rw [Z6E (Z3T l) (by rw [irl]; exact hi), irl, Z5v, show i + (l.length - (i + 1)) = l.length - 1 from by omega]
 obtain ⟨jk, hjk⟩ : ∃ jk, jk = ((Z3 l).flatten ++ junk).drop ((l.length - 1) * 1) := ⟨_, rfl⟩
 rw [← hjk]
 have hel : (l.eraseIdx i).length = l.length - 1 := List.length_eraseIdx_of_lt hi
 refine bgT (Zg 1 rfl (sqt 6 rfl (pur 2 rfl (sp rfl (PE.lenSl Zw rfl) rfl (pur 1 rfl (sp rfl (PE.slLH Z0l rfl rfl rfl (by omega) (by omega) (by omega)) rfl ?_))))))
 refine ZfH rfl rfl Z0l zl3 rfl rfl rfl (by rw [hjk, List.length_append, Z1b, List.length_drop, List.length_append, Z1b]; omega) ?_
 rw [ZbG (by rw [Z1b, hel]; omega)]
 obtain ⟨jk2, hjk2⟩ : ∃ jk2, jk2 = (Z0B (l.length - (l.length - 1)) [Value.int .i64 0] ++ jk.drop (Z0B (l.length - (l.length - 1)) [Value.int .i64 0]).length) := ⟨_, rfl⟩
 rw [← hjk2]
 refine sqt 2 rfl (pur 2 rfl (Z6 ?_))
 refine Sy.heap (fun w h => St.rows (sz := 1) (rows := Z3 (l.eraseIdx i)) (rest := jk2) h (Z3T _)) ?_
 rw [← hel]
 exact rtA rfl rfl rfl ⟨_, cap, by omega, rfl, rfl, rfl⟩ drp
theorem Zdh (h : Hse) (ag as_ : Option Addr) (cg cs : Nat) (b : Nat) (x : Int) (H : Z8) (R : Z5) [mB : Mem1 b (cel 25 (htl h (h.sg ag cg) (h.ss as_ cs))) H] :
    FnV Tryz.prog 128 [.int .i64 x, .pointer (some ⟨b, 0, none⟩)] H R (.bool (decide (x < 0) || decide ((h.gaps.length : Int) ≤ x))) := by
 refine Ze Tryz.func128 rfl Tryz.ntmps128 rfl ?_
 refine sqt 1 rfl (pur 1 rfl (sqt 10 rfl (pur 3 rfl ?_)))
 refine Zv 6 rfl ?_ ?_ <;> intro g6
 refine pur 7 rfl (Z6 ?_)
 first
   | exact rtA rfl rfl rfl ⟨by simp only [Z05]; rw [g6]; rfl, rfl, rfl⟩ drp
 refine pur 1 rfl ?_
 refine spG rfl rfl rfl rfl (PE.fA ZV rfl) rfl ?_
 refine Z2T rfl rfl rfl rfl rfl (lh Z3Q rfl rfl) rfl ?_
 refine spG rfl rfl rfl rfl (PE.lenSl Z3w rfl) rfl ?_
 refine pur 3 rfl (Z6 ?_)
 first
   | exact rtA rfl rfl rfl ⟨by simp only [Z05]; rw [g6]; rfl, rfl, rfl⟩ drp
set_option maxHeartbeats 400000 in
theorem Zar (h : Hse) (ag as_ : Option Addr) (cg cs : Nat) (spd : Int) (pl : List PL) (ap : Option Addr) (cp : Nat) (hpl : pl.length ≤ 1000) (h1 : ∀ l ∈ lls pl, l.Pairwise (· < ·) ∧ (l.length : Int) ≤ spd) (h3 : ∀ x ∈ (lls pl).flatten, 0 ≤ x ∧ x < (h.gaps.length : Int)) (h2 : (lls pl).flatten.Nodup) (h4 : (lls pl).flatten.length ≤ 10) (H : Z8) (R : Z5) [hP : MemRows ap 1 (Zt pl) R] [hI : MemF (Inn pl) R] :
    FnV Tryz.prog 57 [h.v (h.sg ag cg) (h.ss as_ cs), .slice ap pl.length cp, .int .i64 spd] H R (.bool true) := by
 refine Ze Tryz.func57 rfl Tryz.ntmps57 rfl ?_
 refine sqt 2 rfl (bx rfl rfl rfl (fun b3 => pur 1 rfl (sqt 1 rfl (pur 1 rfl (Z0 (sqt 3 rfl (pur 1 rfl (sp rfl (PE.lenSl Z2Y rfl) rfl (pur 1 rfl (Z4 ?_))))))))))
 refine Zc (ι := (k : {k : Nat // k ≤ pl.length}) × OSl 3 1 (Z3 (Z2w pl k.1))) (fun y => ⟨[(2, .int .i64 spd), (3, .pointer (some ⟨b3, 0, none⟩)), (7, y.2.fs), (10, .slice ap pl.length cp), (11, .int .i64 (pl.length : Int)), (12, .int .i64 (y.1.1 : Int))], y.2.G ++ ((b3, cel 25 (htl h (h.sg ag cg) (h.ss as_ cs))) :: H), R⟩) (fun y => pl.length - y.1.1) ⟨⟨0, Nat.zero_le _⟩, OSl.nil _ _⟩ ?_ (fun y => ?_)
 exact Zh idH
 obtain ⟨⟨k, hk⟩, o⟩ := y
 dsimp only at hk o ⊢
 have hct := Z0Q pl k
 have hct2 := Z0Q pl (k + 1)
 refine sqt 1 rfl (pur 1 rfl (Z0 ?_))
 refine Z1 rfl ?_ ?_ <;> intro hc0 <;> try simp only [cS] at hc0
 obtain ⟨x, hx⟩ : ∃ x, pl[k]? = some x := ⟨_, List.getElem?_eq_getElem (by omega)⟩
 have hst := Z1k hx
 have hsl := congrArg List.length hst
 rw [List.length_append] at hsl
 have hx1 := h1 x.l (List.mem_of_getElem? (Z8z hx))
 refine Sy.heap (fun w h9 => St.inn (x := x) h9 (List.mem_of_getElem? hx)) ?_
 refine Zn (a := ap) (sz := 1) (rows := Zt pl) (ne0 (by rw [ZG]; omega)) (fun ba oa he => ?_)
 subst he
 refine Z2 (Z0 (Z4 (sqt 3 rfl (sp rfl (PE.indexAddr Zbo rfl rfl (by omega) (by omega)) rfl (spL rfl rfl (lf0 Z0P (Z4B hx) rfl) rfl (pur 1 rfl (Z0 (sqt 9 rfl (pur 1 rfl (sp rfl (PE.lenSl Zw rfl) rfl (pur 3 rfl ?_)))))))))))
 refine Zv 20 rfl ?_ ?_ <;> intro g20
 simp only [decide_eq_true_eq] at g20
 omega
 refine pur 1 rfl ?_
 refine Z6U rfl rfl rfl rfl Ze2 rfl rfl (Z52 x.l x.a x.c (by omega) hx1.1 _ _) ?_
 refine pur 2 rfl ?_
 refine Z1 rfl ?_ ?_ <;> intro hc1
 exact absurd hc1 (by simp)
 refine Z2 (sqr 4 rfl (pur 2 rfl ?_))
 refine apO (news := Z3 x.l) o rfl Z2s rfl rfl (Z6B) (irl _) (by simp [ZZ, Z3, Value.oneCell']) (by rw [irl, irl]; omega) rfl (fun o27 => ?_)
 refine pur 1 rfl (sqr 2 rfl (sp rfl (PE.add rfl rfl (by omega)) rfl (pur 1 rfl ?_)))
 exact Z7 ⟨⟨k + 1, by omega⟩, o27.cast (by rw [hst]; simp [Z3])⟩ (fun w h9 => h9.ftail)
 obtain rfl : k = pl.length := by omega
 obtain ⟨o9, ho9, ho8⟩ : ∃ o9 : OSl 3 1 (Z3 (lls pl).flatten), o9.fs = o.fs ∧ o9.G = o.G := ⟨o.cast (show _ = Z3 (lls pl).flatten by rw [Z5U]), rfl, rfl⟩
 rw [← ho9, ← ho8]
 clear ho9 ho8
 refine Z9 (Za (Za (Zl (sqt 2 rfl (pur 1 rfl ?_)))))
 refine cl rfl ZdD rfl rfl (Zax (lls pl).flatten o9 (by omega) _ _) ?_
 rintro _ _ R1 ⟨ys, od2, hsr, hof, rfl, rfl, hR1⟩
 obtain rfl := hR1.symm
 clear hR1
 rw [← hof]
 have hyl := hsr.perm.length_eq
 obtain ⟨al, c7, he, hc7, hf⟩ := od2.freezeC
 rw [irl] at hc7
 rw [he, irl]
 refine Sy.heap (H' := _) (fun w h => hf h) ?_
 clear he hf
 refine sqt 14 rfl (pur 1 rfl ?_)
 refine cl rfl Zbz rfl rfl (Z3a ys al c7 (by omega) _ _) ?_
 rintro _ _ R1 ⟨od, rfl, _, rfl, hR1⟩
 obtain rfl := hR1.symm
 clear hR1
 refine cl rfl Zeo rfl rfl (Z4v ys od (by omega) _ _) ?_
 rintro _ _ R1 ⟨a8, m8, c8, rfl, hcp, rfl, hR1⟩
 obtain rfl := hR1.symm
 clear hR1
 obtain rfl : m8 = ys.length := by
   rcases hcp with ⟨v1, _⟩ | ⟨_, p, v1, v2⟩
   · exact v1
   · exact absurd v2 (Z7T hsr h2 p v1)
 refine sp rfl (PE.lenSl Zw rfl) rfl (pur 1 rfl (sp rfl (PE.lenSl Zw rfl) rfl (pur 2 rfl ?_)))
 refine Zv 38 rfl ?_ ?_ <;> intro g38
 refine pur 1 rfl ?_
 refine spG rfl rfl rfl rfl (PE.makeFunc rfl rfl) rfl ?_
 refine Z6U rfl rfl rfl rfl Z6K rfl rfl (Z0W ys al c7 128 [] [_] (fun k => decide (k < 0) || decide ((h.gaps.length : Int) ≤ k)) ZdK (by omega) _ _ (fun x hx => Zdh h ag as_ cg cs b3 x _ _)) ?_
 refine pur 3 rfl (Z6 ?_)
 exact rtA rfl rfl rfl ⟨by simp only [Z05]; rw [ZaY hsr.perm h3]; rfl, rfl, rfl⟩ (fun w h9 => St.sub (h9.ftail.del b3))
 exact absurd g38 (by simp)
theorem Zck (ks : List Int) (ak : Option Addr) (ck b : Nat) (hkl : ks.length ≤ 1000000) (x : Int) (H : Z8) (R : Z5) [hK : MemRows ak 1 (Z3 ks) R] [mB : Mem1 b (cel 26 [.slice ak ks.length ck]) H] :
    FnV Tryz.prog 63 [.int .i64 x, .pointer (some ⟨b, 0, none⟩)] H R (.bool (Z0r ks x)) := by
 refine Ze Tryz.func63 rfl Tryz.ntmps63 rfl ?_
 refine sqt 1 rfl (pur 1 rfl (sqt 4 rfl (spL rfl rfl (lh Z0P rfl rfl) rfl (pur 1 rfl ?_))))
 refine clV rfl Z3h rfl rfl (Zs ks ak ck x (by omega) _ _) ?_
 refine pur 1 rfl (Z6 ?_)
 exact rtA rfl rfl rfl ⟨rfl, rfl, rfl⟩ drp
set_option maxHeartbeats 1000000 in
theorem Z4U (l0 : List Int) (a0 : Option Addr) (c0 : Nat) (hl0 : l0.length ≤ 9223372036854775807) (l1 : List Int) (a1 : Option Addr) (c1 : Nat) (hl1 : l1.length ≤ 9223372036854775807) (H : Z8) (R : Z5) [hG0 : MemRows a0 1 (Z36 l0) R] [hG1 : MemRows a1 1 (Z36 l1) R] :
    Fn Tryz.prog 7 [.slice a0 l0.length c0, .slice a1 l1.length c1] H R (fun v H' R' => v = .bool true ∧ H' = H ∧ R' = R) := by
 refine Ze Tryz.func7 rfl Tryz.ntmps7 rfl ?_
 refine sqt 1 rfl (pur 1 rfl (sqt 9 rfl (pur 1 rfl ?_)))
 refine cl rfl ZbY rfl rfl (Z81 l0 a0 c0 hl0 _ _) ?_
 rintro _ _ R1 ⟨bk, mk, hmk, rfl, rfl, hR1⟩
 obtain rfl := hR1.symm
 clear hR1
 refine cl rfl Zff rfl rfl (ZdI l0 a0 c0 bk hl0 0 mk (by omega) hmk 7 10 (by omega) (by omega) _ _) ?_
 rintro _ _ R1 ⟨h, p, ag, ar, cg, cr, tqb, mxb, hmd, hcg, hcr, rfl, htqb, hmxb, rfl, hR1⟩
 obtain rfl := hR1.symm
 clear hR1
 have hok := hmd.ok (by omega) (by omega)
 have hck := hse_ok.2 hok
 have hbn := hok.bins
 have hgl := hok.gl
 have hsl := hok.sl
 have hnb := hmd.bins
 have hng := hmd.gl
 have hss := hmd.none
 obtain ⟨B, hB⟩ : ∃ B : Nat, h.bins = B := ⟨h.bins.toNat, by omega⟩
 have hBt : h.bins.toNat = B := by omega
 have hfb := ZY p h.bins.toNat
 have hfr := Z77 p (show 0 ≤ h.bins by omega)
 have hfe := Z1O p (show 0 ≤ h.bins by omega)
 have hm7 : msk (Z07 p h.bins.toNat) < 2 ^ 7 := Z0k fun x hx => by have := hfr x hx; omega
 refine pur 3 rfl (alc rfl Zcn rfl (fun b5 => ?_))
 refine ZN (l' := htl h (h.sg ag cg) (h.ss none 0)) rfl rfl rfl Zey rfl rfl rfl rfl (nl rfl) ?_
 refine pur 1 rfl (Z0 ?_)
 refine ZcC (ι := {z : (List Int × List Int) × (Option Addr × Option Addr) × (Nat × Nat) × (Int × Int) × Nat × Nat // z.1.1.length ≤ 7 ∧ z.1.2.length ≤ 7 ∧ Zz h.bins z.1.1 = 0 ∧ Zz h.bins z.1.2 = 0 ∧ h.botE z.1.1 z.1.2 = 0 ∧ z.1.1.length ≤ z.2.2.1.1 ∧ z.1.2.length ≤ z.2.2.1.2}) (fun z => ⟨[(5, .pointer (some ⟨b5, 0, none⟩)), (7, .slice z.1.2.1.1 z.1.1.1.length z.1.2.2.1.1), (8, .pointer (some ⟨z.1.2.2.2.2.1, 0, none⟩))],
   (z.1.2.2.2.2.1, cel 26 [.slice z.1.2.1.2 z.1.1.2.length z.1.2.2.1.2]) :: (z.1.2.2.2.2.2, cel 165 [.slice a1 l1.length c1, .int .i64 (z.1.2.2.2.1.1), .int .u32 (z.1.2.2.2.1.2)]) :: (b5, cel 25 (htl h ((h).sg ag cg) ((h).ss none 0))) :: (bk, cel 165 [.slice a0 l0.length c0, .int .i64 (tqb), .int .u32 (mxb)]) :: H, RowsA z.1.2.1.2 1 (Z3 z.1.1.2) :: RowsA z.1.2.1.1 1 (Z3 z.1.1.1) :: RowsA none 3 (Zo h.sights) :: RowsA ar 1 (Z3 (Z07 p h.bins.toNat)) :: RowsA ag 2 (Zk h.gaps) :: R⟩) ?_ ?_
 ·
  refine Zf [0, 1, 0, 7, 15, 31, 31, 0, 191, 511] (.tk 0 (.ld 2 (.any (.alt 1 (.any (.alt 3 (tks 4 3 (.big 7 (.tk 8 (.big 9 .done)))) (.alt 7 (.big 3 (tks 4 3 (.tk 8 (.big 9 .done)))) .stop))) (.alt 7 (.big 1 (.big 3 (tks 4 3 (.tk 8 (.big 9 .done))))) .stop))))) Zy (by kernel_rfl) ?_
  refine Zg 1 rfl (ld rfl rfl (lhA (htl h (h.sg ag cg) (h.ss none 0)) Z06 rfl rfl rfl) rfl ?_)
  refine Z1h ?_ ?_
  ·
   refine cl rfl ZbY rfl rfl (Z81 l1 a1 c1 hl1 _ _) ?_
   rintro _ _ R1 ⟨bq, mq, hmq, rfl, rfl, hR1⟩
   obtain rfl := hR1.symm
   clear hR1
   refine bg (fun w hs => ⟨(lhA (htl h (h.sg ag cg) (h.ss none 0)) Z06 rfl rfl rfl) w hs, trivial⟩) ?_
   refine Z1h ?_ ?_
   ·
    refine ZF bq ?_
    refine cl rfl ZbC rfl rfl (Zbc l1 a1 c1 bq hl1 0 mq (by omega) hmq h ag none cg 0 hok _ _) ?_
    rintro _ _ R1 ⟨d, af, ak, cf, ck, tqd, mxd, hcf, hck9, rfl, htqd, hmxd, rfl, hR1⟩
    obtain rfl := hR1.symm
    clear hR1
    obtain ⟨fr, hfr9⟩ : ∃ fr, fr = Z07 (fun j => decide (d j = 0)) h.bins.toNat := ⟨_, rfl⟩
    obtain ⟨to_, hto9⟩ : ∃ to_, to_ = Z07 (fun j => decide (d j = 1)) h.bins.toNat := ⟨_, rfl⟩
    rw [← hfr9, ← hto9]
    rw [← hfr9] at hcf
    rw [← hto9] at hck9
    have hfl : fr.length ≤ 7 := by rw [hfr9]; have := ZY (fun j => decide (d j = 0)) h.bins.toNat; omega
    have htl9 : to_.length ≤ 7 := by rw [hto9]; have := ZY (fun j => decide (d j = 1)) h.bins.toNat; omega
    have hfe9 : Zz h.bins fr = 0 := by rw [hfr9]; exact Z1O _ (by omega)
    have hte9 : Zz h.bins to_ = 0 := by rw [hto9]; exact Z1O _ (by omega)
    have hap : ∀ x ∈ fr, x ∉ to_ := by rw [hfr9, hto9]; exact Z3j
    have hbot := Z7t hok hfe9 hte9 hap
    have htw := Z19 (Z0x hbot)
    refine bgT (Zg 3 rfl (alc rfl Z6m rfl (fun b8 => bgT (Zg 1 rfl ?_))))
    refine ZN (l' := [.slice ak to_.length ck]) rfl rfl rfl ZaF rfl rfl rfl rfl (nl rfl) ?_
    refine bgT ?_
    exact Z27 ⟨((fr, to_), (af, ak), (cf, ck), (tqd, mxd), b8, bq), hfl, htl9, hfe9, hte9, hbot, hcf, hck9⟩ (fun w h9 => by first | exact h9 | exact h9.perm (.swap _ _ _))
   refine Z1h ?_ ?_
   ·
    refine alc rfl Z6m rfl (fun b8 => ?_)
    refine bg (fun w hs => ⟨(lhA (htl h (h.sg ag cg) (h.ss none 0)) Z06 rfl rfl rfl) w hs, trivial⟩) ?_
    refine ZF bq ?_
    refine cl rfl ZbC rfl rfl (Zbc l1 a1 c1 bq hl1 0 mq (by omega) hmq h ag none cg 0 hok _ _) ?_
    rintro _ _ R1 ⟨d, af, ak, cf, ck, tqd, mxd, hcf, hck9, rfl, htqd, hmxd, rfl, hR1⟩
    obtain rfl := hR1.symm
    clear hR1
    obtain ⟨fr, hfr9⟩ : ∃ fr, fr = Z07 (fun j => decide (d j = 0)) h.bins.toNat := ⟨_, rfl⟩
    obtain ⟨to_, hto9⟩ : ∃ to_, to_ = Z07 (fun j => decide (d j = 1)) h.bins.toNat := ⟨_, rfl⟩
    rw [← hfr9, ← hto9]
    rw [← hfr9] at hcf
    rw [← hto9] at hck9
    have hfl : fr.length ≤ 7 := by rw [hfr9]; have := ZY (fun j => decide (d j = 0)) h.bins.toNat; omega
    have htl9 : to_.length ≤ 7 := by rw [hto9]; have := ZY (fun j => decide (d j = 1)) h.bins.toNat; omega
    have hfe9 : Zz h.bins fr = 0 := by rw [hfr9]; exact Z1O _ (by omega)
    have hte9 : Zz h.bins to_ = 0 := by rw [hto9]; exact Z1O _ (by omega)
    have hap : ∀ x ∈ fr, x ∉ to_ := by rw [hfr9, hto9]; exact Z3j
    have hbot := Z7t hok hfe9 hte9 hap
    have htw := Z19 (Z0x hbot)
    refine bgT (Zg 4 rfl ?_)
    refine ZN (l' := [.slice ak to_.length ck]) rfl rfl rfl ZaF rfl rfl rfl rfl (nl rfl) ?_
    refine bgT ?_
    exact Z27 ⟨((fr, to_), (af, ak), (cf, ck), (tqd, mxd), b8, bq), hfl, htl9, hfe9, hte9, hbot, hcf, hck9⟩ (fun w h9 => by first | exact h9 | exact h9.perm (.swap _ _ _))
   exact Z28
  refine Z1h ?_ ?_
  ·
   refine alc rfl Z6m rfl (fun b8 => ?_)
   refine bg (fun w hs => ⟨(lhA (htl h (h.sg ag cg) (h.ss none 0)) Z06 rfl rfl rfl) w hs, trivial⟩) ?_
   refine cl rfl ZbY rfl rfl (Z81 l1 a1 c1 hl1 _ _) ?_
   rintro _ _ R1 ⟨bq, mq, hmq, rfl, rfl, hR1⟩
   obtain rfl := hR1.symm
   clear hR1
   refine bg (fun w hs => ⟨(lhA (htl h (h.sg ag cg) (h.ss none 0)) Z06 rfl rfl rfl) w hs, trivial⟩) ?_
   refine ZF bq ?_
   refine cl rfl ZbC rfl rfl (Zbc l1 a1 c1 bq hl1 0 mq (by omega) hmq h ag none cg 0 hok _ _) ?_
   rintro _ _ R1 ⟨d, af, ak, cf, ck, tqd, mxd, hcf, hck9, rfl, htqd, hmxd, rfl, hR1⟩
   obtain rfl := hR1.symm
   clear hR1
   obtain ⟨fr, hfr9⟩ : ∃ fr, fr = Z07 (fun j => decide (d j = 0)) h.bins.toNat := ⟨_, rfl⟩
   obtain ⟨to_, hto9⟩ : ∃ to_, to_ = Z07 (fun j => decide (d j = 1)) h.bins.toNat := ⟨_, rfl⟩
   rw [← hfr9, ← hto9]
   rw [← hfr9] at hcf
   rw [← hto9] at hck9
   have hfl : fr.length ≤ 7 := by rw [hfr9]; have := ZY (fun j => decide (d j = 0)) h.bins.toNat; omega
   have htl9 : to_.length ≤ 7 := by rw [hto9]; have := ZY (fun j => decide (d j = 1)) h.bins.toNat; omega
   have hfe9 : Zz h.bins fr = 0 := by rw [hfr9]; exact Z1O _ (by omega)
   have hte9 : Zz h.bins to_ = 0 := by rw [hto9]; exact Z1O _ (by omega)
   have hap : ∀ x ∈ fr, x ∉ to_ := by rw [hfr9, hto9]; exact Z3j
   have hbot := Z7t hok hfe9 hte9 hap
   have htw := Z19 (Z0x hbot)
   refine bgT (Zg 4 rfl ?_)
   refine ZN (l' := [.slice ak to_.length ck]) rfl rfl rfl ZaF rfl rfl rfl rfl (nl rfl) ?_
   refine bgT ?_
   exact Z27 ⟨((fr, to_), (af, ak), (cf, ck), (tqd, mxd), b8, bq), hfl, htl9, hfe9, hte9, hbot, hcf, hck9⟩ (fun w h9 => by first | exact h9 | exact h9.perm (.swap _ _ _))
  exact Z28
 rintro ⟨⟨⟨fr, to_⟩, ⟨af, ak⟩, ⟨cf, ck⟩, ⟨tqd, mxd⟩, b8, bq⟩, hfl, htl9, hfe9, hte9, hbot, hcf, hck9⟩
 dsimp only at hfl htl9 hfe9 hte9 hbot hcf hck9 ⊢
 have htw := Z19 (Z0x hbot)
 refine sqt 9 rfl ?_
 have hfrr : ∀ x ∈ fr, 0 ≤ x ∧ x < h.bins := (ZS hfe9).1
 have htor : ∀ x ∈ to_, 0 ≤ x ∧ x < (h.bins.toNat : Int) := fun x hx => by have := (ZS hte9).1 x hx; omega
 have hto0 : ∀ x ∈ to_, 0 ≤ x := fun x hx => (htor x hx).1
 refine spL rfl rfl (lhA (htl h (h.sg ag cg) (h.ss none 0)) Z06 rfl rfl rfl) rfl (pur 1 rfl (spL rfl rfl (lh Z0P rfl rfl) rfl ?_))
 refine cl rfl Zdi rfl rfl (ZdR h ag none cg 0 hok fr to_ af ak cf ck (by omega) (by omega) hcf hck9 hbot _ _) ?_
 rintro _ _ R1 ⟨X, va, vc, hcut, hshut, hvc, rfl, rfl, hR1⟩
 obtain rfl := hR1.symm
 clear hR1
 obtain ⟨ctl, hctl⟩ : ∃ l, l = Z0p X h.gaps := ⟨_, rfl⟩
 have hcx : CtX h.gaps.length ctl := by rw [hctl]; exact ZfP hok.gl X
 rw [← hctl] at hcut hshut hvc ⊢
 have hcf9 := hcx.few
 have hsb : h.shB fr to_ ctl = true := (ZaQ htw.w htw.s htw.k hto0).2 hshut
 have hone : (lls [(⟨va, vc, ctl⟩ : PL)]).flatten = ctl := by simp [lls]
 have honer : ∀ x ∈ ctl, 0 ≤ x := fun x hx => (hcx.rng x hx).1
 refine pur 5 rfl (sqt 9 rfl (spL rfl rfl (lhA (htl h (h.sg ag cg) (h.ss none 0)) Z06 rfl rfl rfl) rfl (pur 1 rfl (spL rfl rfl (lh Z0P rfl rfl) rfl ?_))))
 refine cl rfl Zfs rfl rfl (Zdu h ag none cg 0 (by omega) (by omega) fr to_ af ak cf ck (by omega) (by omega) hcf hck9 _ _) ?_
 rintro _ _ R1 ⟨rfl, hq⟩
 obtain ⟨_, wl, wa, wc, hwl10, hwlc, hwp, hwcut, rfl, hR1⟩ := hq.resolve_left (fun h9 => h9.1 hbot)
 obtain rfl := hR1.symm
 clear hR1 hq
 have hwm := hwcut.unique hcut
 have hwt : (lls wl).flatten.length ≤ 10 := by
   have h9 := hwp.nd.length_le_of_subset (l₂ := (List.range 10).map fun i : Nat => (i : Int)) fun x hx => by
     have := hwp.rng x hx
     exact List.mem_map.2 ⟨x.toNat, List.mem_range.2 (by omega), by omega⟩
   simpa using h9
 obtain ⟨hwd1, hwd2⟩ := hwp.led hbot
 refine pur 5 rfl (sqt 10 rfl (spL rfl rfl (lhA (htl h (h.sg ag cg) (h.ss none 0)) Z06 rfl rfl rfl) rfl (pur 1 rfl (spL rfl rfl (lh Z0P rfl rfl) rfl (pur 1 rfl ?_)))))
 refine cl rfl Zeg rfl rfl (Z8w h ag none cg 0 (by omega) (by omega) fr to_ af ak cf ck (by omega) (by omega) hcf hck9 wl wa wc (by omega) (by omega) _ _) ?_
 rintro _ _ R1 ⟨rfl, rfl, hR1⟩
 obtain rfl := hR1.symm
 clear hR1
 rw [hwd1, hwd2]
 refine pur 5 rfl (sqt 10 rfl (spL rfl rfl (lhA (htl h (h.sg ag cg) (h.ss none 0)) Z06 rfl rfl rfl) rfl (pur 1 rfl (spL rfl rfl (lh Z0P rfl rfl) rfl (pur 1 rfl ?_)))))
 refine cl rfl Zf8 rfl rfl (ZbZ h ag none cg 0 (by omega) (by omega) fr to_ af ak cf ck (by omega) (by omega) hcf hck9 ctl va vc (by omega) hvc _ _) ?_
 rintro _ _ R1 ⟨rfl, rfl, hR1⟩
 obtain rfl := hR1.symm
 clear hR1
 rw [Zav ((Zdn hbot).trans (Z24 hcx.rng hcx.nd))]
 dsimp only
 rw [hsb]
 refine pur 5 rfl (Z0 (Z0 ?_))
 refine Zf [0, 1, 3, 7, 15, 31, 63, 127, 255, 511, 1023, 2047, 4095, 8191, 16383, 32767, 65535, 131071, 262143, 524287, 1048575, 2097151, 4194303, 8388607, 16777215, 16777215, 50331647, 134217727, 268435455, 536870911, 1073741823, 2147483647, 1073741823, 8589934591, 17179869183, 34359738367, 68719476735, 68719476735, 206158430207, 68719476735, 618475290623, 2199023255551, 4398046511103, 8796093022207, 17592186044415, 35184372088831, 35184372088831, 35184372088831, 175921860444159, 562949953421311, 35184372088831, 2251799813685247, 4503599627370495, 9007199254740991] (.ld 0 (.big 1 (tks 2 34 (.ld 36 (.tk 37 (.tk 39 (.tk 40 (.big 38 (.big 41 (tks 42 3 (.ld 45 (.tk 46 (.tk 47 (.ld 50 (.big 48 (.big 49 (.big 51 (.tk 52 (.tk 53 .done))))))))))))))))))) Zy (by kernel_rfl) ?_
 refine ld rfl rfl (lhA (htl h (h.sg ag cg) (h.ss none 0)) Z06 rfl rfl rfl) rfl ?_
 refine cl rfl Z6p rfl rfl (Z2l h ag none cg 0 (by omega) (by omega) _ _) ?_
 rintro _ _ R1 ⟨rfl, rfl, hR1⟩
 obtain rfl := hR1.symm
 clear hR1
 rw [hck]
 refine bgT (Zg 2 rfl ?_)
 refine Zv 78 rfl ?_ ?_ <;> intro g78
 first | (focus (simp only [decide_eq_true_eq] at g78; omega)) | exact absurd g78 (by simp)
 refine Zg 4 rfl ?_
 refine Zv 82 rfl ?_ ?_ <;> intro g82
 first | (focus (simp only [decide_eq_true_eq] at g82; omega)) | exact absurd g82 (by simp)
 refine Zg 4 rfl ?_
 refine Zv 86 rfl ?_ ?_ <;> intro g86
 first | (focus (simp only [decide_eq_true_eq] at g86; omega)) | exact absurd g86 (by simp)
 refine Zg 4 rfl ?_
 refine Zv 90 rfl ?_ ?_ <;> intro g90
 first | (focus (simp only [decide_eq_true_eq] at g90; omega)) | exact absurd g90 (by simp)
 refine Zg 4 rfl ?_
 refine Zv 94 rfl ?_ ?_ <;> intro g94
 first | (focus (simp only [decide_eq_true_eq] at g94; omega)) | exact absurd g94 (by simp)
 refine Zg 4 rfl ?_
 refine Zv 98 rfl ?_ ?_ <;> intro g98
 first | (focus (simp only [decide_eq_true_eq] at g98; omega)) | exact absurd g98 (by simp)
 refine Zg 2 rfl ?_
 refine tkG rfl rfl rfl rfl (PE.lenSl Zw rfl) rfl ?_
 refine Zg 3 rfl ?_
 refine Zv 104 rfl ?_ ?_ <;> intro g104
 first | (focus (simp only [decide_eq_true_eq] at g104; omega)) | exact absurd g104 (by simp)
 refine Zg 1 rfl ?_
 refine tkG rfl rfl rfl rfl (PE.lenSl Z2Y rfl) rfl ?_
 refine Zg 4 rfl ?_
 refine Zv 110 rfl ?_ ?_ <;> intro g110
 first | (focus (simp only [decide_eq_true_eq] at g110; omega)) | exact absurd g110 (by simp)
 refine ldG rfl rfl rfl rfl rfl (lhA (htl h (h.sg ag cg) (h.ss none 0)) Z06 rfl rfl rfl) rfl (Zg 2 rfl ?_)
 refine tkG rfl rfl rfl rfl (PE.lenSl Zw rfl) rfl ?_
 refine Zco (out := [_]) rfl rfl rfl rfl Zaz Z6m rfl rfl rfl rfl rfl rfl (fun b113 => ?_)
 refine bg (fun w hs => ⟨(lhA (htl h (h.sg ag cg) (h.ss none 0)) Z06 rfl rfl rfl) w hs, trivial⟩) ?_
 refine Sy.heap (fun w h9 => St.rows (sz := 1) (rows := Zt [⟨va, vc, ctl⟩]) (rest := []) (h9.pull b113) (by simp [Zt, Z3u])) ?_
 refine Sy.heap (fun w h9 => St.inn1 ⟨va, vc, ctl⟩ h9 (by simp)) ?_
 refine Z6U rfl rfl rfl rfl ZdB rfl rfl (Zar h ag none cg 0 (ctl.length : Int) [⟨va, vc, ctl⟩] (some ⟨b113, 0, none⟩) 1 (by simp) (fun l hl => by obtain rfl : l = ctl := (by simpa [lls] using hl); exact ⟨hcx.asc, Int.le_refl _⟩) (fun x hx => by rw [hone] at hx; exact hcx.rng x hx) (by rw [hone]; exact hcx.nd) (by rw [hone]; omega) _ _) ?_
 refine bgT (Zg 3 rfl ?_)
 refine Zv 119 rfl ?_ ?_ <;> intro g119
 first | (focus (simp only [decide_eq_true_eq] at g119; omega)) | exact absurd g119 (by simp)
 refine ldG rfl rfl rfl rfl rfl (lhA (htl h (h.sg ag cg) (h.ss none 0)) Z06 rfl rfl rfl) rfl (Zg 2 rfl (ldG rfl rfl rfl rfl rfl (lh Z0P rfl rfl) rfl ?_))
 refine Zco (out := [_]) rfl rfl rfl rfl Zaz Z6m rfl rfl rfl rfl rfl rfl (fun b123 => ?_)
 refine bg (fun w hs => ⟨(lh Z0P rfl rfl) w hs, (lhA (htl h (h.sg ag cg) (h.ss none 0)) Z06 rfl rfl rfl) w hs, trivial⟩) ?_
 refine Sy.heap (fun w h9 => St.rows (sz := 1) (rows := Zt [⟨va, vc, ctl⟩]) (rest := []) (h9.pull b123) (by simp [Zt, Z3u])) ?_
 refine clG rfl rfl rfl rfl Zbe rfl rfl (Z4d h ag none cg 0 hok fr af cf (by omega) (fun x hx => (hfrr x hx).1) [⟨va, vc, ctl⟩] (some ⟨b123, 0, none⟩) 1 (by simp) (by rw [hone]; omega) (fun x hx => by rw [hone] at hx; exact honer x hx) _ _) ?_
 rintro _ _ R1 ⟨aw, cw, rfl, rfl, hR1⟩
 obtain rfl := hR1.symm
 clear hR1
 refine bg (fun w hs => ⟨(lh Z0P rfl rfl) w hs, trivial, trivial⟩) ?_
 refine clG rfl rfl rfl rfl Zcb rfl rfl (Z5q (Z5o h.gaps (clP [⟨va, vc, ctl⟩]) (msk fr) h.bins.toNat) to_ aw ak cw ck h.bins.toNat (Z2Q _ _ _ _) htor (by omega) _ _) ?_
 rintro _ _ R1 ⟨rfl, rfl, hR1⟩
 obtain rfl := hR1.symm
 clear hR1
 rw [Z5w htor]
 rw [dT ((Z5J htw.w htw.s (fun t => by rw [Z8q])).2 hshut : lvp h.gaps (clP [⟨va, vc, ctl⟩]) (msk fr) 20 &&& msk to_ = 0)]
 refine bgT (Zg 2 rfl ?_)
 refine Z1 rfl ?_ ?_ <;> intro hc0
 first | (focus (simp only [decide_eq_true_eq] at hc0; omega)) | exact absurd hc0 (by simp)
 refine Z2 (Z0 (sqt 3 rfl (pur 1 rfl (sp rfl (PE.lenSl Zw rfl) rfl (pur 1 rfl (Z4 ?_))))))
 refine Zc (ι := {k : Nat // k ≤ ctl.length}) (fun k => ⟨[(5, .pointer (some ⟨b5, 0, none⟩)), (7, .slice af fr.length cf), (8, .pointer (some ⟨b8, 0, none⟩)), (9, .slice va ctl.length vc), (11, .slice wa wl.length wc), (130, .int .i64 (ctl.length : Int)), (131, .int .i64 (k.1 : Int))], (b8, cel 26 [.slice ak to_.length ck]) :: (bq, cel 165 [.slice a1 l1.length c1, .int .i64 (tqd), .int .u32 (mxd)]) :: (b5, cel 25 (htl h ((h).sg ag cg) ((h).ss none 0))) :: (bk, cel 165 [.slice a0 l0.length c0, .int .i64 (tqb), .int .u32 (mxb)]) :: H, RowsA wa 1 (Zt wl) :: Inn wl :: RowsA va 1 (Z3 ctl) :: RowsA ak 1 (Z3 to_) :: RowsA af 1 (Z3 fr) :: RowsA none 3 (Zo h.sights) :: RowsA ar 1 (Z3 (Z07 p h.bins.toNat)) :: RowsA ag 2 (Zk h.gaps) :: R⟩) (fun k => ctl.length - k.1) ⟨0, Nat.zero_le _⟩ ?_ (fun k => ?_)
 exact Zh (fun w h9 => h9.facts (fun g hg => by simp only [List.mem_cons] at hg ⊢; rcases hg with h8 | h8 | h8 | h8 | h8 | h8 | h8 | h8 | h8 <;> simp [h8]))
 obtain ⟨k, hk⟩ := k
 dsimp only at hk ⊢
 refine sqt 1 rfl (pur 1 rfl (Z0 ?_))
 refine Z1 rfl ?_ ?_ <;> intro hc1 <;> try simp only [cS] at hc1
 have hkl : k < ctl.length := by omega
 have hel := List.length_eraseIdx_of_lt hkl
 refine Z2 (Z0 (Z4 (sqt 2 rfl (pur 2 rfl (Z0 ?_)))))
 refine Zf [0, 0, 0, 4, 0, 0, 32, 124, 252, 511, 0, 2047] (.ld 0 (.tk 1 (.tk 2 (tks 4 3 (.ld 10 (.big 3 (.big 7 (.big 8 (.big 9 (.big 11 .done)))))))))) Zy (by kernel_rfl) ?_
 refine ld rfl rfl (lhA (htl h (h.sg ag cg) (h.ss none 0)) Z06 rfl rfl rfl) rfl (Zg 4 rfl (tk rfl (PE.add rfl rfl (by omega)) rfl (ld rfl rfl (lh Z0P rfl rfl) rfl ?_)))
 refine cl rfl Zbz rfl rfl (Z3a ctl va vc (by omega) _ _) ?_
 rintro _ _ R1 ⟨od, rfl, _, rfl, hR1⟩
 obtain rfl := hR1.symm
 clear hR1
 refine bg (fun w hs => ⟨(lh Z0P rfl rfl) w hs, (lhA (htl h (h.sg ag cg) (h.ss none 0)) Z06 rfl rfl rfl) w hs, trivial⟩) ?_
 rw [show (k : Int) + 1 = ((k + 1 : Nat) : Int) by omega]
 refine cl rfl Zfa rfl rfl (Z88 ctl od (by omega) k hkl _ _) ?_
 rintro _ _ R1 ⟨ad, cd, hcd, rfl, rfl, hR1⟩
 obtain rfl := hR1.symm
 clear hR1
 have htwo : (lls [(⟨ad, cd, ctl.eraseIdx k⟩ : PL)]).flatten = ctl.eraseIdx k := by simp [lls]
 have htwor : ∀ x ∈ ctl.eraseIdx k, 0 ≤ x := fun x hx => honer x ((List.eraseIdx_sublist _ _).subset hx)
 have hnos := Z8e hcx hcut hkl
 refine bg (fun w hs => ⟨(lh Z0P rfl rfl) w hs, (lhA (htl h (h.sg ag cg) (h.ss none 0)) Z06 rfl rfl rfl) w hs, trivial⟩) ?_
 refine bsl (out := [_]) rfl Zaz Z6m rfl rfl rfl rfl rfl rfl (fun b142 => ?_)
 refine bg (fun w hs => ⟨(lh Z0P rfl rfl) w hs, (lhA (htl h (h.sg ag cg) (h.ss none 0)) Z06 rfl rfl rfl) w hs, trivial⟩) ?_
 refine Sy.heap (fun w h9 => St.rows (sz := 1) (rows := Zt [⟨ad, cd, ctl.eraseIdx k⟩]) (rest := []) (h9.pull b142) (by simp [Zt, Z3u])) ?_
 refine Sy.heap (fun w h9 => St.inn1 ⟨ad, cd, ctl.eraseIdx k⟩ h9 (by simp)) ?_
 refine cl rfl Zbe rfl rfl (Z4d h ag none cg 0 hok fr af cf (by omega) (fun x hx => (hfrr x hx).1) [⟨ad, cd, ctl.eraseIdx k⟩] (some ⟨b142, 0, none⟩) 1 (by simp) (by rw [htwo]; omega) (fun x hx => by rw [htwo] at hx; exact htwor x hx) _ _) ?_
 rintro _ _ R1 ⟨aw, cw, rfl, rfl, hR1⟩
 obtain rfl := hR1.symm
 clear hR1
 refine bg (fun w hs => ⟨(lh Z0P rfl rfl) w hs, trivial, trivial⟩) ?_
 refine cl rfl Zcb rfl rfl (Z5q (Z5o h.gaps (clP [⟨ad, cd, ctl.eraseIdx k⟩]) (msk fr) h.bins.toNat) to_ aw ak cw ck h.bins.toNat (Z2Q _ _ _ _) htor (by omega) _ _) ?_
 rintro _ _ R1 ⟨rfl, rfl, hR1⟩
 obtain rfl := hR1.symm
 clear hR1
 rw [Z5w htor]
 rw [dF (fun e => hnos ((Z5J htw.w htw.s (fun t => by rw [Z8q])).1 e) : ¬ (lvp h.gaps (clP [⟨ad, cd, ctl.eraseIdx k⟩]) (msk fr) 20 &&& msk to_ = 0))]
 refine bgT ?_
 refine Z1 rfl ?_ ?_ <;> intro hc2
 exact absurd hc2 (by simp)
 refine Z2 (sqr 2 rfl (sp rfl (PE.add rfl rfl (by omega)) rfl (pur 1 rfl ?_)))
 exact Z7 ⟨k + 1, by omega⟩ (fun w h9 => h9.facts (fun g hg => by simp only [List.mem_cons] at hg ⊢; rcases hg with h8 | h8 | h8 | h8 | h8 | h8 | h8 | h8 | h8 <;> simp [h8]))
 refine Z9 (Za (Za (Zl (sqt 1 rfl (pur 1 rfl (Z0 (sqt 3 rfl (pur 1 rfl (sp rfl (PE.lenSl Z2Y rfl) rfl (pur 1 rfl (Z4 ?_)))))))))))
 refine Zc (ι := (i : {i : Nat // i ≤ wl.length}) × OSl 3 1 (Z3 (Z2w wl i.1))) (fun y => ⟨[(5, .pointer (some ⟨b5, 0, none⟩)), (7, .slice af fr.length cf), (8, .pointer (some ⟨b8, 0, none⟩)), (9, .slice va ctl.length vc), (11, .slice wa wl.length wc), (147, .slice wa wl.length wc), (148, .int .i64 (wl.length : Int)), (149, .int .i64 (y.1.1 : Int)), (18, y.2.fs)], y.2.G ++ ((b8, cel 26 [.slice ak to_.length ck]) :: (bq, cel 165 [.slice a1 l1.length c1, .int .i64 (tqd), .int .u32 (mxd)]) :: (b5, cel 25 (htl h ((h).sg ag cg) ((h).ss none 0))) :: (bk, cel 165 [.slice a0 l0.length c0, .int .i64 (tqb), .int .u32 (mxb)]) :: H), RowsA wa 1 (Zt wl) :: Inn wl :: RowsA va 1 (Z3 ctl) :: RowsA ak 1 (Z3 to_) :: RowsA af 1 (Z3 fr) :: RowsA none 3 (Zo h.sights) :: RowsA ar 1 (Z3 (Z07 p h.bins.toNat)) :: RowsA ag 2 (Zk h.gaps) :: R⟩) (fun y => wl.length - y.1.1) ⟨⟨0, Nat.zero_le _⟩, OSl.nil _ _⟩ ?_ (fun y => ?_)
 exact Zh idH
 obtain ⟨⟨i, hi⟩, oA⟩ := y
 dsimp only at hi oA ⊢
 have hct := Z0Q wl i
 have hct2 := Z0Q wl (i + 1)
 refine sqt 1 rfl (pur 1 rfl (Z0 ?_))
 refine Z1 rfl ?_ ?_ <;> intro hc3 <;> try simp only [cS] at hc3
 obtain ⟨x, hx⟩ : ∃ x, wl[i]? = some x := ⟨_, List.getElem?_eq_getElem (by omega)⟩
 have hst := Z1k hx
 have hsl := congrArg List.length hst
 rw [List.length_append] at hsl
 have hxm := List.mem_of_getElem? (Z8z hx)
 have hld := (hwp.wy x.l hxm).lds (fun g hg => by have := hok.gaps g hg; omega) (fun x hx => (hfrr x hx).1) hto0
 unfold Z5N at hld
 rw [Bool.and_eq_true, decide_eq_true_eq] at hld
 refine Sy.heap (fun w h9 => St.inn (x := x) h9 (List.mem_of_getElem? hx)) ?_
 refine Zn (a := wa) (sz := 1) (rows := Zt wl) (ne0 (by rw [ZG]; omega)) (fun bp op9 he => ?_)
 subst he
 refine Z2 (Z0 (Z4 (sqt 3 rfl (sp rfl (PE.indexAddr Zbo rfl rfl (by omega) (by omega)) rfl (spL rfl rfl (lf0 Z0P (Z4B hx) rfl) rfl (pur 1 rfl (sqt 4 rfl (pur 2 rfl ?_))))))))
 refine apO (news := Z3 x.l) oA rfl Z2s rfl rfl (Z6B) (irl _) (by simp [ZZ, Z3, Value.oneCell']) (by rw [irl, irl]; omega) rfl (fun o155 => ?_)
 refine pur 1 rfl (sqt 2 rfl (pur 2 rfl (Z0 (sqt 3 rfl (pur 1 rfl (sp rfl (PE.lenSl Zw rfl) rfl (pur 1 rfl (Z4 ?_))))))))
 refine Zc (ι := {y : Nat × List Int × Option Addr × Nat // y.1 ≤ x.l.length ∧ y.2.1.length ≤ 7 ∧ ∀ z, z ∈ y.2.1 ↔ z ∈ Z1j h.gaps 0 fr (x.l.take y.1)}) (fun y => ⟨[(5, .pointer (some ⟨b5, 0, none⟩)), (7, .slice af fr.length cf), (8, .pointer (some ⟨b8, 0, none⟩)), (9, .slice va ctl.length vc), (11, .slice (some ⟨bp, op9, none⟩) wl.length wc), (147, .slice (some ⟨bp, op9, none⟩) wl.length wc), (148, .int .i64 (wl.length : Int)), (149, .int .i64 (i : Int)), (18, o155.fs), (20, .slice x.a x.l.length x.c), (21, .slice y.1.2.2.1 y.1.2.1.length y.1.2.2.2), (157, .slice x.a x.l.length x.c), (158, .int .i64 (x.l.length : Int)), (159, .int .i64 (y.1.1 : Int))], o155.G ++ ((b8, cel 26 [.slice ak to_.length ck]) :: (bq, cel 165 [.slice a1 l1.length c1, .int .i64 (tqd), .int .u32 (mxd)]) :: (b5, cel 25 (htl h ((h).sg ag cg) ((h).ss none 0))) :: (bk, cel 165 [.slice a0 l0.length c0, .int .i64 (tqb), .int .u32 (mxb)]) :: H), RowsA y.1.2.2.1 1 (Z3 y.1.2.1) :: RowsA x.a 1 (Z3 x.l) :: RowsA (some ⟨bp, op9, none⟩) 1 (Zt wl) :: Inn wl :: RowsA va 1 (Z3 ctl) :: RowsA ak 1 (Z3 to_) :: RowsA af 1 (Z3 fr) :: RowsA none 3 (Zo h.sights) :: RowsA ar 1 (Z3 (Z07 p h.bins.toNat)) :: RowsA ag 2 (Zk h.gaps) :: R⟩) (fun y => x.l.length - y.1.1) ⟨(0, fr, af, cf), Nat.zero_le _, by dsimp only; omega, fun z => by simp [Z1j]⟩ ?_ (fun y => ?_)
 exact Zh (fun w h9 => h9.also (f := RowsA af 1 (Z3 fr)) (fun w9 hg => hg _ (by simp)))
 obtain ⟨⟨j, now, an, cn⟩, hj, hnl, hnw⟩ := y
 dsimp only at hj hnl hnw ⊢
 refine sqt 1 rfl (pur 1 rfl (Z0 ?_))
 refine Z1 rfl ?_ ?_ <;> intro hc4 <;> try simp only [cS] at hc4
 obtain ⟨q, hq⟩ : ∃ q, x.l[j]? = some q := ⟨_, List.getElem?_eq_getElem (by omega)⟩
 have hqr := hwp.rng q (List.mem_flatten.2 ⟨_, hxm, List.mem_of_getElem? hq⟩)
 obtain ⟨u, rfl⟩ : ∃ u : Nat, q = u := ⟨q.toNat, by omega⟩
 obtain ⟨g, hg⟩ : ∃ g, h.gaps[u]? = some g := ⟨_, List.getElem?_eq_getElem (by omega)⟩
 have hsn := Z9A hg hnw
 have htk : x.l.take (j + 1) = x.l.take j ++ [(u : Int)] := by rw [List.take_add_one, hq]; rfl
 rw [← htk] at hsn
 have hs2 := Z9Y now g
 refine Zn (a := x.a) (sz := 1) (rows := Z3 x.l) (ne0 (by rw [irl]; omega)) (fun bx9 ox9 hxa => ?_)
 rw [hxa]
 refine Zn (a := ag) (sz := 2) (rows := Zk h.gaps) (ne0 (by rw [Z0Y]; omega)) (fun bg9 og9 he => ?_)
 subst he
 refine Z2 (Z0 (Z4 (sqt 3 rfl (sp rfl (PE.indexAddr Z0R rfl rfl (by omega) (by omega)) rfl (spL rfl rfl (lf0 sc3 (Z0d hq) rfl) rfl (pur 1 rfl (Z0 (sqt 9 rfl (pur 3 rfl ?_)))))))))
 refine Zv 165 rfl ?_ ?_ <;> intro g165
 simp only [decide_eq_true_eq] at g165
 omega
 refine pur 1 rfl ?_
 refine spG rfl rfl rfl rfl (PE.fA ZV rfl) rfl ?_
 refine Z2T rfl rfl rfl rfl rfl (lh Z3Q rfl rfl) rfl ?_
 refine spG rfl rfl rfl rfl (PE.lenSl Z3w rfl) rfl ?_
 refine pur 2 rfl ?_
 refine Z1 rfl ?_ ?_ <;> intro hc5
 simp only [decide_eq_true_eq] at hc5
 omega
 refine Z2 (sqt 1 rfl (pur 1 rfl (Z0 (sqt 7 rfl (sp rfl (PE.fA ZV rfl) rfl (spL rfl rfl (lh Z3Q rfl rfl) rfl (pur 1 rfl (sp rfl (PE.indexAddr Z6P rfl rfl (by omega) (by omega)) rfl (spL rfl rfl (lfA Z5P (row := grow g) (Z1g hg) rfl) rfl (alc rfl Z2W rfl (fun b25 => ?_)))))))))))
 refine ZN (l' := grow g) rfl rfl rfl Z8Z rfl rfl rfl rfl (nl rfl) ?_
 refine sqt 4 rfl ?_
 obtain ⟨o9, he9, hg9⟩ : ∃ o : OSl 3 1 (Z3 []), (∀ T : Z8, T = o.G ++ T) ∧ Value.slice none 0 0 = o.fs := ⟨OSl.nil _ _, fun _ => rfl, rfl⟩
 rw [show ∀ V, (24, Value.slice none 0 0) :: V = (24, o9.fs) :: V from fun V => by rw [hg9]]
 refine Sy.heap (H' := o9.G ++ ((b25, cel 97 (grow g)) :: (o155.G ++ ((b8, cel 26 [.slice ak to_.length ck]) :: (bq, cel 165 [.slice a1 l1.length c1, .int .i64 (tqd), .int .u32 (mxd)]) :: (b5, cel 25 (htl h ((h).sg (some ⟨bg9, og9, none⟩) cg) ((h).ss none 0))) :: (bk, cel 165 [.slice a0 l0.length c0, .int .i64 (tqb), .int .u32 (mxb)]) :: H)))) (fun w h9 => by rw [← he9]; exact h9) ?_
 refine pur 1 rfl (sp rfl (PE.fA ZM rfl) rfl (spL rfl rfl (lh sc3 rfl rfl) rfl ?_))
 refine clV rfl Z3h rfl rfl (Zs now an cn g.a (by omega) _ _) ?_
 refine Z1Q (ι := OSl 3 1 (Z3 (Z9l now g))) (fun o => ⟨[(5, .pointer (some ⟨b5, 0, none⟩)), (7, .slice af fr.length cf), (8, .pointer (some ⟨b8, 0, none⟩)), (9, .slice va ctl.length vc), (11, .slice (some ⟨bp, op9, none⟩) wl.length wc), (147, .slice (some ⟨bp, op9, none⟩) wl.length wc), (148, .int .i64 (wl.length : Int)), (149, .int .i64 (i : Int)), (18, o155.fs), (20, .slice (some ⟨bx9, ox9, none⟩) x.l.length x.c), (21, .slice an now.length cn), (157, .slice (some ⟨bx9, ox9, none⟩) x.l.length x.c), (158, .int .i64 (x.l.length : Int)), (159, .int .i64 (j : Int)), (23, .int .i64 (u : Int)), (24, o.fs)], o.G ++ ((b25, cel 97 (grow g)) :: (o155.G ++ ((b8, cel 26 [.slice ak to_.length ck]) :: (bq, cel 165 [.slice a1 l1.length c1, .int .i64 (tqd), .int .u32 (mxd)]) :: (b5, cel 25 (htl h ((h).sg (some ⟨bg9, og9, none⟩) cg) ((h).ss none 0))) :: (bk, cel 165 [.slice a0 l0.length c0, .int .i64 (tqb), .int .u32 (mxb)]) :: H))), RowsA an 1 (Z3 now) :: RowsA (some ⟨bx9, ox9, none⟩) 1 (Z3 x.l) :: RowsA (some ⟨bp, op9, none⟩) 1 (Zt wl) :: Inn wl :: RowsA va 1 (Z3 ctl) :: RowsA ak 1 (Z3 to_) :: RowsA af 1 (Z3 fr) :: RowsA none 3 (Zo h.sights) :: RowsA ar 1 (Z3 (Z07 p h.bins.toNat)) :: RowsA (some ⟨bg9, og9, none⟩) 2 (Zk h.gaps) :: R⟩) ?_ ?_
 refine Z1 rfl ?_ ?_ <;> intro hc6
 have hh6 : Z0r now g.a = true := hc6
 refine sqr 6 rfl (pur 1 rfl (sp rfl (PE.fA ZC rfl) rfl (spL rfl rfl (lh sc3 rfl rfl) rfl ?_)))
 refine bsl (out := [_]) rfl Z0l zl3 rfl rfl rfl rfl rfl rfl (fun b184 => ?_)
 refine apO (o9) rfl Z2s rfl rfl (Z0C (row := [.int .i64 g.b]) rfl) rfl rfl ((by rw [irl]; simp only [List.length_singleton, List.length_nil]; omega)) rfl (fun o185 => ?_)
 refine pur 1 rfl ?_
 first | exact Zu (o185.cast (by unfold Z9l; simp [Z3, hh6])) (fun w h9 => h9.del b184) | exact Zu (o9.cast (by unfold Z9l; simp [Z3, hh6])) idH
 have hh6 : Z0r now g.a = false := hc6
 refine Z2 ?_
 first | exact Zu (o185.cast (by unfold Z9l; simp [Z3, hh6])) (fun w h9 => h9.del b184) | exact Zu (o9.cast (by unfold Z9l; simp [Z3, hh6])) idH
 intro o
 dsimp only
 refine Z0 (sqt 7 rfl (sp rfl (PE.fA ZV rfl) rfl (spL rfl rfl (lh Z3Q rfl rfl) rfl (pur 1 rfl (sp rfl (PE.indexAddr Z6P rfl rfl (by omega) (by omega)) rfl (spL rfl rfl (lfA Z5P (row := grow g) (Z1g hg) rfl) rfl (alc rfl Z2W rfl (fun b26 => ?_))))))))
 refine ZN (l' := grow g) rfl rfl rfl Z8Z rfl rfl rfl rfl (nl rfl) ?_
 refine sqt 4 rfl (pur 1 rfl (sp rfl (PE.fA ZC rfl) rfl (spL rfl rfl (lh sc3 rfl rfl) rfl ?_)))
 refine clV rfl Z3h rfl rfl (Zs now an cn g.b (by omega) _ _) ?_
 refine Z1Q (ι := OSl 3 1 (Z3 (Z8V now g))) (fun o => ⟨[(5, .pointer (some ⟨b5, 0, none⟩)), (7, .slice af fr.length cf), (8, .pointer (some ⟨b8, 0, none⟩)), (9, .slice va ctl.length vc), (11, .slice (some ⟨bp, op9, none⟩) wl.length wc), (147, .slice (some ⟨bp, op9, none⟩) wl.length wc), (148, .int .i64 (wl.length : Int)), (149, .int .i64 (i : Int)), (18, o155.fs), (20, .slice (some ⟨bx9, ox9, none⟩) x.l.length x.c), (21, .slice an now.length cn), (157, .slice (some ⟨bx9, ox9, none⟩) x.l.length x.c), (158, .int .i64 (x.l.length : Int)), (159, .int .i64 (j : Int)), (23, .int .i64 (u : Int)), (24, o.fs)], (b26, cel 97 (grow g)) :: (o.G ++ ((b25, cel 97 (grow g)) :: (o155.G ++ ((b8, cel 26 [.slice ak to_.length ck]) :: (bq, cel 165 [.slice a1 l1.length c1, .int .i64 (tqd), .int .u32 (mxd)]) :: (b5, cel 25 (htl h ((h).sg (some ⟨bg9, og9, none⟩) cg) ((h).ss none 0))) :: (bk, cel 165 [.slice a0 l0.length c0, .int .i64 (tqb), .int .u32 (mxb)]) :: H)))), RowsA an 1 (Z3 now) :: RowsA (some ⟨bx9, ox9, none⟩) 1 (Z3 x.l) :: RowsA (some ⟨bp, op9, none⟩) 1 (Zt wl) :: Inn wl :: RowsA va 1 (Z3 ctl) :: RowsA ak 1 (Z3 to_) :: RowsA af 1 (Z3 fr) :: RowsA none 3 (Zo h.sights) :: RowsA ar 1 (Z3 (Z07 p h.bins.toNat)) :: RowsA (some ⟨bg9, og9, none⟩) 2 (Zk h.gaps) :: R⟩) ?_ ?_
 refine Z1 rfl ?_ ?_ <;> intro hc7
 have hh7 : Z0r now g.b = true := hc7
 refine sqr 6 rfl (pur 1 rfl (sp rfl (PE.fA ZM rfl) rfl (spL rfl rfl (lh sc3 rfl rfl) rfl ?_)))
 refine bsl (out := [_]) rfl Z0l zl3 rfl rfl rfl rfl rfl rfl (fun b198 => ?_)
 refine apO (o) rfl Z2s rfl rfl (Z0C (row := [.int .i64 g.a]) rfl) rfl rfl ((by rw [irl]; simp only [List.length_singleton]; omega)) rfl (fun o199 => ?_)
 refine pur 1 rfl ?_
 first | exact Zu (o199.cast (by unfold Z8V; simp [Z3, hh7])) (fun w h9 => h9.del b198) | exact Zu (o.cast (by unfold Z8V; simp [Z3, hh7])) idH
 have hh7 : Z0r now g.b = false := hc7
 refine Z2 ?_
 first | exact Zu (o199.cast (by unfold Z8V; simp [Z3, hh7])) (fun w h9 => h9.del b198) | exact Zu (o.cast (by unfold Z8V; simp [Z3, hh7])) idH
 intro o7
 dsimp only
 obtain ⟨a8, c8, he8, hc8, hzz⟩ := o7.freezeC
 rw [irl] at hc8
 rw [he8, irl]
 refine Sy.heap (H' := _) (fun w h9 => hzz (h9.perm (List.perm_middle (l₁ := o7.G) (a := _)).symm)) ?_
 clear he8 hzz
 refine sqr 2 rfl (pur 2 rfl (sqr 2 rfl (sp rfl (PE.add rfl rfl (by omega)) rfl (pur 1 rfl ?_))))
 exact Z7 ⟨(j + 1, Z8V now g, a8, c8), by dsimp only; omega, by dsimp only; omega, hsn⟩ (fun w h9 => ((h9.del b26).del b25).facts (fun g hg => by simp only [List.mem_cons] at hg ⊢; rcases hg with h8 | h8 | h8 | h8 | h8 | h8 | h8 | h8 | h8 | h8 | h8 <;> simp [h8]))
 obtain rfl : j = x.l.length := by omega
 rw [List.take_length] at hnw
 have hany : now.any (Z0r to_) = true := by rw [ZaX hnw]; exact hld.2
 refine Z9 (Za (Za (Zl (sqt 9 rfl (pur 1 rfl (sp rfl (PE.lenSl Zw rfl) rfl (pur 2 rfl ?_)))))))
 refine Zv 205 rfl ?_ ?_ <;> intro g205
 simp only [decide_eq_true_eq] at g205
 omega
 refine pur 1 rfl ?_
 refine spG rfl rfl rfl rfl (PE.makeFunc rfl rfl) rfl ?_
 refine clG rfl rfl rfl rfl Z6K rfl rfl (Z0W now an cn 63 [] [_] (Z0r to_) Zf5 (by omega) _ _ (fun x hx => Zck to_ ak ck b8 (by omega) x _ _)) ?_
 rintro _ _ R1 ⟨rfl, rfl, hR1⟩
 obtain rfl := hR1.symm
 clear hR1
 rw [hany]
 refine pur 2 rfl ?_
 refine Z1 rfl ?_ ?_ <;> intro hc8
 exact absurd hc8 (by simp)
 refine Z2 (sqr 2 rfl (sp rfl (PE.add rfl rfl (by omega)) rfl (pur 1 rfl ?_)))
 exact Z7 ⟨⟨i + 1, by omega⟩, o155.cast (by rw [hst]; simp [Z3])⟩ (fun w h9 => h9.ftail.ftail)
 obtain rfl : i = wl.length := by omega
 obtain ⟨o9, ho9, ho8⟩ : ∃ o9 : OSl 3 1 (Z3 (lls wl).flatten), o9.fs = oA.fs ∧ o9.G = oA.G := ⟨oA.cast (show _ = Z3 (lls wl).flatten by rw [Z5U]), rfl, rfl⟩
 rw [← ho9, ← ho8]
 clear ho9 ho8
 refine Z9 (Za (Za (Zl (sqt 2 rfl (pur 1 rfl ?_)))))
 refine cl rfl ZdD rfl rfl (Zax (lls wl).flatten o9 (by omega) _ _) ?_
 rintro _ _ R1 ⟨ys, od2, hsr, hof, rfl, rfl, hR1⟩
 obtain rfl := hR1.symm
 clear hR1
 rw [← hof]
 have hyl := hsr.perm.length_eq
 obtain ⟨al, c7, he, hc7, hf⟩ := od2.freezeC
 rw [irl] at hc7
 rw [he, irl]
 refine Sy.heap (H' := _) (fun w h => hf h) ?_
 clear he hf
 refine Z0 (sqt 7 rfl (pur 1 rfl ?_))
 refine cl rfl Zbz rfl rfl (Z3a ys al c7 (by omega) _ _) ?_
 rintro _ _ R1 ⟨od, rfl, _, rfl, hR1⟩
 obtain rfl := hR1.symm
 clear hR1
 refine cl rfl Zeo rfl rfl (Z4v ys od (by omega) _ _) ?_
 rintro _ _ R1 ⟨a8, m8, c8, rfl, hcp, rfl, hR1⟩
 obtain rfl := hR1.symm
 clear hR1
 obtain rfl : m8 = ys.length := by
   rcases hcp with ⟨v1, _⟩ | ⟨_, p, v1, v2⟩
   · exact v1
   · exact absurd v2 (Z7T hsr hwp.nd p v1)
 refine sp rfl (PE.lenSl Zw rfl) rfl (pur 1 rfl (sp rfl (PE.lenSl Zw rfl) rfl (pur 1 rfl ?_)))
 refine Z1 rfl ?_ ?_ <;> intro hc9
 first | (focus (simp only [decide_eq_true_eq] at hc9; omega)) | exact absurd hc9 (by simp)
 refine Z2 (Z0 (sqt 4 rfl (pur 1 rfl (sp rfl (PE.lenSl Zw rfl) rfl (sp rfl (PE.add rfl rfl (by omega)) rfl (pur 1 rfl (Z4 ?_)))))))
 refine Zc (ι := {k : Nat // k ≤ ctl.length + 1}) (fun k => ⟨[(5, .pointer (some ⟨b5, 0, none⟩)), (7, .slice af fr.length cf), (8, .pointer (some ⟨b8, 0, none⟩)), (9, .slice va ctl.length vc), (223, .int .i64 ((ctl.length : Int) + 1)), (224, .int .i64 (k.1 : Int))], (b8, cel 26 [.slice ak to_.length ck]) :: (bq, cel 165 [.slice a1 l1.length c1, .int .i64 (tqd), .int .u32 (mxd)]) :: (b5, cel 25 (htl h ((h).sg ag cg) ((h).ss none 0))) :: (bk, cel 165 [.slice a0 l0.length c0, .int .i64 (tqb), .int .u32 (mxb)]) :: H, RowsA va 1 (Z3 ctl) :: RowsA ak 1 (Z3 to_) :: RowsA af 1 (Z3 fr) :: RowsA none 3 (Zo h.sights) :: RowsA ar 1 (Z3 (Z07 p h.bins.toNat)) :: RowsA ag 2 (Zk h.gaps) :: R⟩) (fun k => ctl.length + 1 - k.1) ⟨0, Nat.zero_le _⟩ ?_ (fun k => ?_)
 exact Zh (fun w h9 => h9.facts (fun g hg => by simp only [List.mem_cons] at hg ⊢; rcases hg with h8 | h8 | h8 | h8 | h8 | h8 | h8 <;> simp [h8]))
 obtain ⟨k, hk⟩ := k
 dsimp only at hk ⊢
 refine sqt 1 rfl (pur 1 rfl (Z0 ?_))
 refine Z1 rfl ?_ ?_ <;> intro hc10 <;> try simp only [cS] at hc10
 have hk10 : k ≤ 10 := by omega
 obtain ⟨u, ls, hU, hu1, hu2⟩ := ZdS hbot hk10 hcut
 refine Z2 (Z0 (Z4 (sqt 2 rfl (pur 2 rfl (sqt 10 rfl (spL rfl rfl (lhA (htl h (h.sg ag cg) (h.ss none 0)) Z06 rfl rfl rfl) rfl (pur 1 rfl (spL rfl rfl (lh Z0P rfl rfl) rfl (pur 1 rfl ?_)))))))))
 refine cl rfl ZbP rfl rfl (Zbt h ag none cg 0 (by omega) (by omega) fr to_ af ak cf ck (by omega) (by omega) hcf hck9 (k : Int) u ls hU _ _) ?_
 rintro _ _ R1 ⟨pv, pa, pc, hpv0, hpv1, hpv8, hpvc, rfl, rfl, hR1⟩
 obtain rfl := hR1.symm
 clear hR1
 refine pur 5 rfl (sqt 10 rfl (spL rfl rfl (lhA (htl h (h.sg ag cg) (h.ss none 0)) Z06 rfl rfl rfl) rfl (pur 1 rfl (spL rfl rfl (lh Z0P rfl rfl) rfl (pur 1 rfl ?_)))))
 refine clV rfl Zcv rfl rfl (Z85 h ag none cg 0 (by omega) (by omega) fr to_ af ak cf ck (by omega) (by omega) hcf hck9 (k : Int) u ls hU _ _) ?_
 refine pur 5 rfl (Z0 (sqt 17 rfl (pur 4 rfl ?_)))
 refine Zv 246 rfl ?_ ?_ <;> intro g246
 first | (focus (simp only [decide_eq_true_eq] at g246; omega)) | exact absurd g246 (by simp)
 refine pur 3 rfl ?_
 refine Zv 249 rfl ?_ ?_ <;> intro g249
 have hu9 : u ≠ 0 := of_decide_eq_true g249
 obtain ⟨hu7, hu8⟩ := hu1 hu9
 refine pur 3 rfl ?_
 refine Zv 252 rfl ?_ ?_ <;> intro g252
 first | (focus (simp only [decide_eq_true_eq] at g252; omega)) | exact absurd g252 (by simp)
 refine pur 2 rfl ?_
 refine spG rfl rfl rfl rfl (PE.lenSl Zw rfl) rfl ?_
 refine pur 4 rfl ?_
 refine Z1 rfl ?_ ?_ <;> intro hc11
 simp only [decide_eq_true_eq] at hc11
 omega
 refine Z2 (Z0 ?_)
 refine Zf [0, 1, 3, 7, 7, 7, 63, 127, 255, 511, 511, 511, 4095, 511, 16383, 32767, 65535, 131071, 262143, 262143, 786431, 2097151, 4194303, 8388607, 16777215, 16777215, 50331647, 134217727, 268435455, 536870911, 536870911, 1610612735, 4294967295, 8589934591, 17179869183, 34359738367, 68719476735, 137438953471, 274877906943, 549755813887, 1099511627775] (tks 0 3 (.ld 3 (.tk 4 (.tk 5 (.big 6 (.tk 7 (.tk 8 (.ld 9 (.tk 10 (.tk 11 (.ld 13 (.big 12 (.big 14 (tks 15 26 .done)))))))))))))) Zy (by kernel_rfl) ?_
 refine Zg 3 rfl ?_
 refine Zv 262 rfl ?_ ?_ <;> intro g262
 simp only [decide_eq_true_eq] at g262
 omega
 refine ldN rfl rfl rfl rfl rfl rfl rfl rfl ?_
 refine Zg 2 rfl ?_
 refine spN rfl rfl rfl rfl rfl rfl rfl rfl ?_
 refine bgT (Zg 2 rfl ?_)
 refine ldU rfl rfl rfl rfl rfl rfl rfl ?_
 repeat refine tkU rfl rfl rfl rfl rfl rfl rfl ?_
 refine ldU rfl rfl rfl rfl rfl rfl rfl ?_
 refine spU rfl rfl rfl rfl rfl rfl rfl ?_
 refine bg (fun w hs => ⟨((fun _ _ => True.intro)) w hs, trivial, trivial⟩) ?_
 refine spU rfl rfl rfl rfl rfl rfl rfl ?_
 refine bgT ?_
 refine tkU rfl rfl rfl rfl rfl rfl rfl ?_
 refine Zg 2 rfl ?_
 repeat refine tkU rfl rfl rfl rfl rfl rfl rfl ?_
 refine Zg 2 rfl ?_
 repeat refine tkU rfl rfl rfl rfl rfl rfl rfl ?_
 refine Zg 2 rfl ?_
 repeat refine tkU rfl rfl rfl rfl rfl rfl rfl ?_
 refine Zg 2 rfl ?_
 refine ZA rfl ?_
 refine Z2 (sqr 2 rfl (sp rfl (PE.add rfl rfl (by omega)) rfl (pur 1 rfl ?_)))
 exact Z7 ⟨k + 1, by omega⟩ (fun w h9 => h9.facts (fun g hg => by simp only [List.mem_cons] at hg ⊢; rcases hg with h8 | h8 | h8 | h8 | h8 | h8 | h8 <;> simp [h8]))
 have hu9 : u = 0 := Classical.byContradiction fun e => by rw [decide_eq_true e] at g249; cases g249
 refine pur 3 rfl ?_
 repeat refine spU rfl rfl rfl rfl rfl rfl rfl ?_
 refine pur 3 rfl ?_
 refine ZA rfl ?_
 refine Z2 (Z0 ?_)
 refine Zf [0, 1, 3, 7, 7, 7, 63, 127, 255, 511, 511, 511, 4095, 511, 16383, 32767, 65535, 131071, 262143, 262143, 786431, 2097151, 4194303, 8388607, 16777215, 16777215, 50331647, 134217727, 268435455, 536870911, 536870911, 1610612735, 4294967295, 8589934591, 17179869183, 34359738367, 68719476735, 137438953471, 274877906943, 549755813887, 1099511627775] (tks 0 3 (.ld 3 (.tk 4 (.tk 5 (.big 6 (.tk 7 (.tk 8 (.ld 9 (.tk 10 (.tk 11 (.ld 13 (.big 12 (.big 14 (tks 15 26 .done)))))))))))))) Zy (by kernel_rfl) ?_
 refine Zg 3 rfl ?_
 refine Zv 262 rfl ?_ ?_ <;> intro g262
 have hu0 : u = 0 := of_decide_eq_true g262
 subst hu0
 have hvp := hpv1 rfl
 have hvt := hvp.len
 have hu2 := hu2 rfl
 have hvn : (lls pv).flatten.length ≤ 10 := Zec hgl (Z23 hvp.pln).2.1 (Z23 hvp.pln).2.2
 refine ldG rfl rfl rfl rfl rfl (lhA (htl h (h.sg ag cg) (h.ss none 0)) Z06 rfl rfl rfl) rfl (Zg 2 rfl ?_)
 refine Z6U rfl rfl rfl rfl ZdB rfl rfl (Zar h ag none cg 0 (k : Int) pv pa pc (by omega) (Z23 hvp.pln).1 (Z23 hvp.pln).2.1 (Z23 hvp.pln).2.2 (by omega) _ _) ?_
 refine bgT (Zg 2 rfl ?_)
 refine Zv 268 rfl ?_ ?_ <;> intro g268
 first | (focus (simp only [decide_eq_true_eq] at g268; omega)) | exact absurd g268 (by simp)
 refine ldG rfl rfl rfl rfl rfl (lhA (htl h (h.sg ag cg) (h.ss none 0)) Z06 rfl rfl rfl) rfl (Zg 2 rfl (ldG rfl rfl rfl rfl rfl (lh Z0P rfl rfl) rfl ?_))
 refine clG rfl rfl rfl rfl Zbe rfl rfl (Z4d h ag none cg 0 hok fr af cf (by omega) (fun x hx => (hfrr x hx).1) pv pa pc (by omega) (by omega) hvp.nn _ _) ?_
 rintro _ _ R1 ⟨aw, cw, rfl, rfl, hR1⟩
 obtain rfl := hR1.symm
 clear hR1
 refine bg (fun w hs => ⟨(lh Z0P rfl rfl) w hs, trivial, trivial⟩) ?_
 refine clG rfl rfl rfl rfl Zcb rfl rfl (Z5q (Z5o h.gaps (clP pv) (msk fr) h.bins.toNat) to_ aw ak cw ck h.bins.toNat (Z2Q _ _ _ _) htor (by omega) _ _) ?_
 rintro _ _ R1 ⟨rfl, rfl, hR1⟩
 obtain rfl := hR1.symm
 clear hR1
 rw [Z5w htor]
 rw [dT ((Z7v hok (to_ := to_) hfrr (pl := pv) (by omega)).2.1 hvp.sv)]
 refine bgT (Zg 3 rfl ?_)
 refine Zv 277 rfl ?_ ?_ <;> intro g277
 first | (focus (simp only [decide_eq_true_eq] at g277; omega)) | exact absurd g277 (by simp)
 refine Zg 2 rfl ?_
 refine tkG rfl rfl rfl rfl (PE.lenSl Zw rfl) rfl ?_
 refine Zg 3 rfl ?_
 refine Zv 283 rfl ?_ ?_ <;> intro g283
 first | (focus (simp only [decide_eq_true_eq] at g283; omega)) | exact absurd g283 (by simp)
 refine Zg 2 rfl ?_
 refine tkG rfl rfl rfl rfl (PE.lenSl Zw rfl) rfl ?_
 refine Zg 2 rfl ?_
 refine Zv 288 rfl ?_ ?_ <;> intro g288
 have hkc : k = ctl.length := by have := of_decide_eq_true g288; omega
 have hls := hu2.2 hkc
 refine Zg 2 rfl ?_
 refine tkG rfl rfl rfl rfl (PE.lenSl Zw rfl) rfl ?_
 refine Zg 4 rfl ?_
 refine Zv 295 rfl ?_ ?_ <;> intro g295
 first | (focus (simp only [decide_eq_true_eq] at g295; omega)) | exact absurd g295 (by simp)
 refine Zg 1 rfl ?_
 refine tkG rfl rfl rfl rfl (PE.lenSl Z2Y rfl) rfl ?_
 refine Zg 3 rfl ?_
 refine Z1 rfl ?_ ?_ <;> intro hc12
 first | (focus (simp only [decide_eq_true_eq] at hc12; omega)) | exact absurd hc12 (by simp)
 refine Z2 (sqr 2 rfl (sp rfl (PE.add rfl rfl (by omega)) rfl (pur 1 rfl ?_)))
 exact Z7 ⟨k + 1, by omega⟩ (fun w h9 => h9.facts (fun g hg => by simp only [List.mem_cons] at hg ⊢; rcases hg with h8 | h8 | h8 | h8 | h8 | h8 | h8 <;> simp [h8]))
 refine Zg 8 rfl ?_
 refine tkG rfl rfl rfl rfl (PE.lenSl Z2Y rfl) rfl ?_
 refine Zg 3 rfl ?_
 refine Z1 rfl ?_ ?_ <;> intro hc12
 first | (focus (simp only [decide_eq_true_eq] at hc12; omega)) | exact absurd hc12 (by simp)
 refine Z2 (sqr 2 rfl (sp rfl (PE.add rfl rfl (by omega)) rfl (pur 1 rfl ?_)))
 exact Z7 ⟨k + 1, by omega⟩ (fun w h9 => h9.facts (fun g hg => by simp only [List.mem_cons] at hg ⊢; rcases hg with h8 | h8 | h8 | h8 | h8 | h8 | h8 <;> simp [h8]))
 refine ldN rfl rfl rfl rfl rfl rfl rfl rfl ?_
 refine Zg 2 rfl ?_
 refine spN rfl rfl rfl rfl rfl rfl rfl rfl ?_
 refine bgT (Zg 2 rfl ?_)
 refine ldU rfl rfl rfl rfl rfl rfl rfl ?_
 repeat refine tkU rfl rfl rfl rfl rfl rfl rfl ?_
 refine ldU rfl rfl rfl rfl rfl rfl rfl ?_
 refine spU rfl rfl rfl rfl rfl rfl rfl ?_
 refine bg (fun w hs => ⟨((fun _ _ => True.intro)) w hs, trivial, trivial⟩) ?_
 refine spU rfl rfl rfl rfl rfl rfl rfl ?_
 refine bgT ?_
 refine tkU rfl rfl rfl rfl rfl rfl rfl ?_
 refine Zg 2 rfl ?_
 repeat refine tkU rfl rfl rfl rfl rfl rfl rfl ?_
 refine Zg 2 rfl ?_
 repeat refine tkU rfl rfl rfl rfl rfl rfl rfl ?_
 refine Zg 2 rfl ?_
 repeat refine tkU rfl rfl rfl rfl rfl rfl rfl ?_
 refine Zg 2 rfl ?_
 refine ZA rfl ?_
 refine Z2 (sqr 2 rfl (sp rfl (PE.add rfl rfl (by omega)) rfl (pur 1 rfl ?_)))
 exact Z7 ⟨k + 1, by omega⟩ (fun w h9 => h9.facts (fun g hg => by simp only [List.mem_cons] at hg ⊢; rcases hg with h8 | h8 | h8 | h8 | h8 | h8 | h8 <;> simp [h8]))
 refine Z9 (Za (Za (Zl (sqt 2 rfl ?_))))
 refine clV rfl Zfd rfl rfl (Zc0 _ _) ?_
 refine pur 1 rfl (Z6 ?_)
 exact rtA rfl rfl rfl ⟨rfl, rfl, rfl⟩ (fun w h9 => (((((h9.del b8).del bq).del b5).del bk)).sub)
end Go.Proofs.YthbjpnmclokinaaGreat
