/- Walks of the functions of the program, and the laws that join them: what the last theorem of this claim needs, in order. -/
import Derived.Test.YtknoaljnelfklaaDa4
namespace Go.Proofs.Ytknoaljnelfklaa
set_option linter.unusedSimpArgs false
set_option linter.unusedVariables false
open Go
theorem cal30 : cal Try.prog 30 = true := by kernel_rfl
theorem cal48 : cal Try.prog 48 = true := by kernel_rfl
theorem eqf29 : eqB Try.prog 10000 29 = some (true, 4) := by kernel_rfl
theorem eqg29 : Try.prog.eqGuardType Try.prog.depth 29 = false := by kernel_rfl
def wgtP (g : Gat) (c : Crt) (k : Int) : Int × Int := bif decide (toldE g c (!(inb k 0 3)) ≠ 0) then (0, 0) else ((netP g c).1 * bl (bndB g c) k.toNat / 40, (netP g c).2 * bh (bndB g c) k.toNat / 40)
theorem wgtR_eq (g : Gat) (c : Crt) (k : Int) : wgtR g c k = .tuple #[spv (wgtP g c k).1 (wgtP g c k).2, .int .i64 (toldE g c (!(inb k 0 3)))] := by
  unfold wgtR wgtP
  by_cases h : toldE g c (!(inb k 0 3)) = 0
  · rw [decide_eq_false (show ¬ toldE g c (!(inb k 0 3)) ≠ 0 by omega), h]; rfl
  · rw [decide_eq_true h]; rfl
theorem told_err {g : Gat} {c : Crt} (h : bothE g c ≠ 0) (bad : Bool) : toldE g c bad = bothE g c := by unfold toldE; rw [decide_eq_true h]; rfl
theorem told_one {g : Gat} {c : Crt} (h : bothE g c = 0) : toldE g c true = 1 := by unfold toldE; rw [decide_eq_false (show ¬ bothE g c ≠ 0 by omega)]; rfl
theorem bnd_err {g : Gat} {c : Crt} (h : toldE g c false ≠ 0) : bndB g c = zbx ∧ mixP g c = [0, 0, 0, 0] := by
  unfold bndB mixP; rw [decide_eq_true h]; exact ⟨rfl, rfl⟩
theorem wgt_err {g : Gat} {c : Crt} {k : Int} (h : toldE g c (!(inb k 0 3)) ≠ 0) : wgtP g c k = (0, 0) := by
  unfold wgtP; rw [decide_eq_true h]; rfl
theorem wgt_ok {g : Gat} {c : Crt} {q : Nat} (hq : q < 4) (h : toldE g c false = 0) : toldE g c (!(inb (q : Int) 0 3)) = 0 ∧ wgtP g c q = ((netP g c).1 * bl (bndB g c) q / 40, (netP g c).2 * bh (bndB g c) q / 40) := by
  have e : inb (q : Int) 0 3 = true := by simp [inb]; omega
  refine ⟨by rw [e]; exact h, ?_⟩
  unfold wgtP
  rw [e, decide_eq_false (show ¬ toldE g c (!true) ≠ 0 by rw [show (!true) = false from rfl, h]; decide), Int.toNat_natCast]; rfl
theorem told_0 {g : Gat} {c : Crt} (h : toldE g c false = 0) : bothE g c = 0 ∧ ∃ b, clo (boxF g.miss c.hs fun _ => true) = some b ∧ mixP g c = mixt b ∧ bndB g c = b ∧ Tight b := by
  have hb : bothE g c = 0 := by
    by_cases h1 : bothE g c = 0
    · exact h1
    · rw [told_err h1] at h; exact h
  cases hc : clo (boxF g.miss c.hs fun _ => true) with
  | none => unfold toldE at h; rw [decide_eq_false (show ¬ bothE g c ≠ 0 by omega), hc] at h; cases h
  | some b => exact ⟨hb, b, rfl, by unfold mixP; rw [decide_eq_false (show ¬ toldE g c false ≠ 0 by omega), hc]; rfl, bnd_of h hc, told_tight hc⟩
theorem both_ok {g : Gat} {c : Crt} (h : bothE g c = 0) : g.ok ∧ c.ok := by
  have hg : g.check = 0 := by
    by_cases h1 : g.check = 0
    · exact h1
    · unfold bothE at h; rw [decide_eq_true h1] at h; exact absurd h h1
  refine ⟨gat_ok.1 hg, crt_ok.1 ?_⟩
  unfold bothE at h; rw [hg] at h; exact h
theorem box_all {g : Gat} {c : Crt} (hg : g.ok) (hc : c.ok) (m : Mix) : Mx (boxF g.miss c.hs fun _ => true) m ↔ (Mxt m ∧ ∀ x ∈ c.hs, fitB g.miss x m = true) := by
  rw [boxF_mx hg.miss.1 hc.hs]
  constructor
  · rintro ⟨h1, h2⟩
    refine ⟨h1, fun x hx => ?_⟩
    obtain ⟨i, hi⟩ := List.getElem?_of_mem hx
    exact h2 i x hi rfl
  · rintro ⟨h1, h2⟩
    exact ⟨h1, fun i x hi _ => h2 x (List.mem_of_getElem? hi)⟩
theorem mix_0 {g : Gat} {c : Crt} (h : toldE g c false = 0) : Mxt (mixP g c) ∧ (c.hs.all fun x => fitB g.miss x (mixP g c)) = true ∧ mixE (mixP g c) = 0 := by
  obtain ⟨hb, b, h1, h2, _, h3⟩ := told_0 h
  obtain ⟨hg, hc⟩ := both_ok hb
  have h4 := (box_all hg hc (mixt b)).1 (((clo_some (boxF_ok _ _ _) h1).2 _).1 (mixt_mx h3))
  rw [h2]
  exact ⟨h4.1, List.all_eq_true.2 h4.2, (mix_ok h4.1.len).2 h4.1⟩
theorem all_link {g : Gat} {c : Crt} (h0 : bothE g c = 0) {ms l : List Mix} (hms : ∀ m, m ∈ ms ↔ Mxt m) (hl : l = partS g.miss c.hs ms 0) : (∀ m ∈ l, Mxt m) ∧ l.length ≤ ms.length ∧ (0 < l.length → toldE g c false = 0 ∧ Tight (bndB g c) ∧ ∀ m, m ∈ l ↔ Mx (bndB g c) m) ∧ (¬ 0 < l.length → toldE g c false = 7) := by
  obtain ⟨hg, hc⟩ := both_ok h0
  have hmem : ∀ m, m ∈ l ↔ Mx (boxF g.miss c.hs fun _ => true) m := fun m => by
    rw [hl, box_all hg hc]
    unfold partS
    rw [List.mem_filter, hms, decide_eq_true_eq, missQ_0]
  refine ⟨fun m hm => ((box_all hg hc m).1 ((hmem m).1 hm)).1, by rw [hl]; exact List.length_filter_le _ _, fun hp => ?_, fun hn => ?_⟩
  · cases hcl : clo (boxF g.miss c.hs fun _ => true) with
    | none =>
      obtain ⟨m, hm⟩ := List.exists_mem_of_length_pos hp
      exact absurd ((hmem m).1 hm) (clo_none (boxF_ok _ _ _) hcl m)
    | some b =>
      have ht : toldE g c false = 0 := by unfold toldE; rw [decide_eq_false (show ¬ bothE g c ≠ 0 by omega), hcl]; rfl
      obtain ⟨h3, h4⟩ := clo_some (boxF_ok _ _ _) hcl
      rw [bnd_of ht hcl]
      exact ⟨ht, h3, fun m => (hmem m).trans (h4 m).symm⟩
  · cases hcl : clo (boxF g.miss c.hs fun _ => true) with
    | none => unfold toldE; rw [decide_eq_false (show ¬ bothE g c ≠ 0 by omega), hcl]; rfl
    | some b =>
      obtain ⟨h3, h4⟩ := clo_some (boxF_ok _ _ _) hcl
      exact absurd (List.length_pos_of_mem ((hmem _).2 ((h4 _).1 (mixt_mx h3)))) hn
theorem mixP_len (g : Gat) (c : Crt) : (mixP g c).length = 4 := by
  by_cases h : toldE g c false = 0
  · exact (mix_0 h).1.len
  · rw [(bnd_err h).2]; rfl
def pl7_3_1111111111110000 : Plan := (.big 12 (.big 13 (.big 14 (.big 15 .done))))
def pl7_3_1111111111100000 : Plan := (.big 11 pl7_3_1111111111110000)
def pl7_3_1111111111010000 : Plan := (.big 10 pl7_3_1111111111110000)
def pl7_3_1111111111000000 : Plan := (.any (.alt 10 pl7_3_1111111111100000 (.alt 11 pl7_3_1111111111010000 .stop)))
def pl7_3_1111111110110000 : Plan := (.big 9 pl7_3_1111111111110000)
def pl7_3_1111111110100000 : Plan := (.any (.alt 9 pl7_3_1111111111100000 (.alt 11 pl7_3_1111111110110000 .stop)))
def pl7_3_1111111110010000 : Plan := (.any (.alt 9 pl7_3_1111111111010000 (.alt 10 pl7_3_1111111110110000 .stop)))
def pl7_3_1111111110000000 : Plan := (.any (.alt 9 pl7_3_1111111111000000 (.alt 10 pl7_3_1111111110100000 (.alt 11 pl7_3_1111111110010000 .stop))))
def pl7_3_1111111101110000 : Plan := (.big 8 pl7_3_1111111111110000)
def pl7_3_1111111101100000 : Plan := (.any (.alt 8 pl7_3_1111111111100000 (.alt 11 pl7_3_1111111101110000 .stop)))
def pl7_3_1111111101010000 : Plan := (.any (.alt 8 pl7_3_1111111111010000 (.alt 10 pl7_3_1111111101110000 .stop)))
def pl7_3_1111111101000000 : Plan := (.any (.alt 8 pl7_3_1111111111000000 (.alt 10 pl7_3_1111111101100000 (.alt 11 pl7_3_1111111101010000 .stop))))
def pl7_3_1111111100110000 : Plan := (.any (.alt 8 pl7_3_1111111110110000 (.alt 9 pl7_3_1111111101110000 .stop)))
def pl7_3_1111111100100000 : Plan := (.any (.alt 8 pl7_3_1111111110100000 (.alt 9 pl7_3_1111111101100000 (.alt 11 pl7_3_1111111100110000 .stop))))
def pl7_3_1111111100010000 : Plan := (.any (.alt 8 pl7_3_1111111110010000 (.alt 9 pl7_3_1111111101010000 (.alt 10 pl7_3_1111111100110000 .stop))))
def pl7_3_1111111011110000 : Plan := (.big 7 pl7_3_1111111111110000)
def pl7_3_1111111011100000 : Plan := (.any (.alt 7 pl7_3_1111111111100000 (.alt 11 pl7_3_1111111011110000 .stop)))
def pl7_3_1111111011010000 : Plan := (.any (.alt 7 pl7_3_1111111111010000 (.alt 10 pl7_3_1111111011110000 .stop)))
def pl7_3_1111111011000000 : Plan := (.any (.alt 7 pl7_3_1111111111000000 (.alt 10 pl7_3_1111111011100000 (.alt 11 pl7_3_1111111011010000 .stop))))
def pl7_3_1111111010110000 : Plan := (.any (.alt 7 pl7_3_1111111110110000 (.alt 9 pl7_3_1111111011110000 .stop)))
def pl7_3_1111111010100000 : Plan := (.any (.alt 7 pl7_3_1111111110100000 (.alt 9 pl7_3_1111111011100000 (.alt 11 pl7_3_1111111010110000 .stop))))
def pl7_3_1111111010010000 : Plan := (.any (.alt 7 pl7_3_1111111110010000 (.alt 9 pl7_3_1111111011010000 (.alt 10 pl7_3_1111111010110000 .stop))))
def pl7_3_1111111010000000 : Plan := (.any (.alt 7 pl7_3_1111111110000000 (.alt 9 pl7_3_1111111011000000 (.alt 10 pl7_3_1111111010100000 (.alt 11 pl7_3_1111111010010000 .stop)))))
def pl7_3_1111111001110000 : Plan := (.any (.alt 7 pl7_3_1111111101110000 (.alt 8 pl7_3_1111111011110000 .stop)))
def pl7_3_1111111001100000 : Plan := (.any (.alt 7 pl7_3_1111111101100000 (.alt 8 pl7_3_1111111011100000 (.alt 11 pl7_3_1111111001110000 .stop))))
def pl7_3_1111111001010000 : Plan := (.any (.alt 7 pl7_3_1111111101010000 (.alt 8 pl7_3_1111111011010000 (.alt 10 pl7_3_1111111001110000 .stop))))
def pl7_3_1111111001000000 : Plan := (.any (.alt 7 pl7_3_1111111101000000 (.alt 8 pl7_3_1111111011000000 (.alt 10 pl7_3_1111111001100000 (.alt 11 pl7_3_1111111001010000 .stop)))))
def pl7_3_1111111000110000 : Plan := (.any (.alt 7 pl7_3_1111111100110000 (.alt 8 pl7_3_1111111010110000 (.alt 9 pl7_3_1111111001110000 .stop))))
def pl7_3_1111111000100000 : Plan := (.any (.alt 7 pl7_3_1111111100100000 (.alt 8 pl7_3_1111111010100000 (.alt 9 pl7_3_1111111001100000 (.alt 11 pl7_3_1111111000110000 .stop)))))
def pl7_3_1111111000010000 : Plan := (.any (.alt 7 pl7_3_1111111100010000 (.alt 8 pl7_3_1111111010010000 (.alt 9 pl7_3_1111111001010000 (.alt 10 pl7_3_1111111000110000 .stop)))))
def pl7_3_1111101011110000 : Plan := (.big 5 pl7_3_1111111011110000)
def pl7_3_1111101011100000 : Plan := (.any (.alt 5 pl7_3_1111111011100000 (.alt 11 pl7_3_1111101011110000 .stop)))
def pl7_3_1111101011010000 : Plan := (.any (.alt 5 pl7_3_1111111011010000 (.alt 10 pl7_3_1111101011110000 .stop)))
def pl7_3_1111101011000000 : Plan := (.any (.alt 5 pl7_3_1111111011000000 (.alt 10 pl7_3_1111101011100000 (.alt 11 pl7_3_1111101011010000 .stop))))
def pl7_3_1111101010110000 : Plan := (.any (.alt 5 pl7_3_1111111010110000 (.alt 9 pl7_3_1111101011110000 .stop)))
def pl7_3_1111101010100000 : Plan := (.any (.alt 5 pl7_3_1111111010100000 (.alt 9 pl7_3_1111101011100000 (.alt 11 pl7_3_1111101010110000 .stop))))
def pl7_3_1111101010010000 : Plan := (.any (.alt 5 pl7_3_1111111010010000 (.alt 9 pl7_3_1111101011010000 (.alt 10 pl7_3_1111101010110000 .stop))))
def pl7_3_1111101010000000 : Plan := (.any (.alt 5 pl7_3_1111111010000000 (.alt 9 pl7_3_1111101011000000 (.alt 10 pl7_3_1111101010100000 (.alt 11 pl7_3_1111101010010000 .stop)))))
def pl7_3_1111101001110000 : Plan := (.any (.alt 5 pl7_3_1111111001110000 (.alt 8 pl7_3_1111101011110000 .stop)))
def pl7_3_1111101001100000 : Plan := (.any (.alt 5 pl7_3_1111111001100000 (.alt 8 pl7_3_1111101011100000 (.alt 11 pl7_3_1111101001110000 .stop))))
def pl7_3_1111101001010000 : Plan := (.any (.alt 5 pl7_3_1111111001010000 (.alt 8 pl7_3_1111101011010000 (.alt 10 pl7_3_1111101001110000 .stop))))
def pl7_3_1111101001000000 : Plan := (.any (.alt 5 pl7_3_1111111001000000 (.alt 8 pl7_3_1111101011000000 (.alt 10 pl7_3_1111101001100000 (.alt 11 pl7_3_1111101001010000 .stop)))))
def pl7_3_1111101000110000 : Plan := (.any (.alt 5 pl7_3_1111111000110000 (.alt 8 pl7_3_1111101010110000 (.alt 9 pl7_3_1111101001110000 .stop))))
def pl7_3_1111101000100000 : Plan := (.any (.alt 5 pl7_3_1111111000100000 (.alt 8 pl7_3_1111101010100000 (.alt 9 pl7_3_1111101001100000 (.alt 11 pl7_3_1111101000110000 .stop)))))
def pl7_3_1111101000010000 : Plan := (.any (.alt 5 pl7_3_1111111000010000 (.alt 8 pl7_3_1111101010010000 (.alt 9 pl7_3_1111101001010000 (.alt 10 pl7_3_1111101000110000 .stop)))))
def pl7_3_1110101011110000 : Plan := (.big 3 pl7_3_1111101011110000)
def pl7_3_1110101011100000 : Plan := (.any (.alt 3 pl7_3_1111101011100000 (.alt 11 pl7_3_1110101011110000 .stop)))
def pl7_3_1110101011010000 : Plan := (.any (.alt 3 pl7_3_1111101011010000 (.alt 10 pl7_3_1110101011110000 .stop)))
def pl7_3_1110101011000000 : Plan := (.any (.alt 3 pl7_3_1111101011000000 (.alt 10 pl7_3_1110101011100000 (.alt 11 pl7_3_1110101011010000 .stop))))
def pl7_3_1110101010110000 : Plan := (.any (.alt 3 pl7_3_1111101010110000 (.alt 9 pl7_3_1110101011110000 .stop)))
def pl7_3_1110101010100000 : Plan := (.any (.alt 3 pl7_3_1111101010100000 (.alt 9 pl7_3_1110101011100000 (.alt 11 pl7_3_1110101010110000 .stop))))
def pl7_3_1110101010010000 : Plan := (.any (.alt 3 pl7_3_1111101010010000 (.alt 9 pl7_3_1110101011010000 (.alt 10 pl7_3_1110101010110000 .stop))))
def pl7_3_1110101010000000 : Plan := (.any (.alt 3 pl7_3_1111101010000000 (.alt 9 pl7_3_1110101011000000 (.alt 10 pl7_3_1110101010100000 (.alt 11 pl7_3_1110101010010000 .stop)))))
def pl7_3_1110101001110000 : Plan := (.any (.alt 3 pl7_3_1111101001110000 (.alt 8 pl7_3_1110101011110000 .stop)))
def pl7_3_1110101001100000 : Plan := (.any (.alt 3 pl7_3_1111101001100000 (.alt 8 pl7_3_1110101011100000 (.alt 11 pl7_3_1110101001110000 .stop))))
def pl7_3_1110101001010000 : Plan := (.any (.alt 3 pl7_3_1111101001010000 (.alt 8 pl7_3_1110101011010000 (.alt 10 pl7_3_1110101001110000 .stop))))
def pl7_3_1110101001000000 : Plan := (.any (.alt 3 pl7_3_1111101001000000 (.alt 8 pl7_3_1110101011000000 (.alt 10 pl7_3_1110101001100000 (.alt 11 pl7_3_1110101001010000 .stop)))))
def pl7_3_1110101000110000 : Plan := (.any (.alt 3 pl7_3_1111101000110000 (.alt 8 pl7_3_1110101010110000 (.alt 9 pl7_3_1110101001110000 .stop))))
def pl7_3_1110101000100000 : Plan := (.any (.alt 3 pl7_3_1111101000100000 (.alt 8 pl7_3_1110101010100000 (.alt 9 pl7_3_1110101001100000 (.alt 11 pl7_3_1110101000110000 .stop)))))
def pl7_3_1110101000010000 : Plan := (.any (.alt 3 pl7_3_1111101000010000 (.alt 8 pl7_3_1110101010010000 (.alt 9 pl7_3_1110101001010000 (.alt 10 pl7_3_1110101000110000 .stop)))))
def pl7_3_1010101011110000 : Plan := (.big 1 pl7_3_1110101011110000)
def pl7_3_1010101011100000 : Plan := (.any (.alt 1 pl7_3_1110101011100000 (.alt 11 pl7_3_1010101011110000 .stop)))
def pl7_3_1010101011010000 : Plan := (.any (.alt 1 pl7_3_1110101011010000 (.alt 10 pl7_3_1010101011110000 .stop)))
def pl7_3_1010101011000000 : Plan := (.any (.alt 1 pl7_3_1110101011000000 (.alt 10 pl7_3_1010101011100000 (.alt 11 pl7_3_1010101011010000 .stop))))
def pl7_3_1010101010110000 : Plan := (.any (.alt 1 pl7_3_1110101010110000 (.alt 9 pl7_3_1010101011110000 .stop)))
def pl7_3_1010101010100000 : Plan := (.any (.alt 1 pl7_3_1110101010100000 (.alt 9 pl7_3_1010101011100000 (.alt 11 pl7_3_1010101010110000 .stop))))
def pl7_3_1010101010010000 : Plan := (.any (.alt 1 pl7_3_1110101010010000 (.alt 9 pl7_3_1010101011010000 (.alt 10 pl7_3_1010101010110000 .stop))))
def pl7_3_1010101001110000 : Plan := (.any (.alt 1 pl7_3_1110101001110000 (.alt 8 pl7_3_1010101011110000 .stop)))
def pl7_3_1010101001100000 : Plan := (.any (.alt 1 pl7_3_1110101001100000 (.alt 8 pl7_3_1010101011100000 (.alt 11 pl7_3_1010101001110000 .stop))))
def pl7_3_1010101001010000 : Plan := (.any (.alt 1 pl7_3_1110101001010000 (.alt 8 pl7_3_1010101011010000 (.alt 10 pl7_3_1010101001110000 .stop))))
def pl7_3_1010101000110000 : Plan := (.any (.alt 1 pl7_3_1110101000110000 (.alt 8 pl7_3_1010101010110000 (.alt 9 pl7_3_1010101001110000 .stop))))
def pl7_3_0000000000000000 : Plan := (.ld 0 (.ld 2 (.ld 4 (.ld 6 (.any (.alt 1 (.any (.alt 3 (.any (.alt 5 (.any (.alt 7 (.any (.alt 8 pl7_3_1111111110000000 (.alt 9 pl7_3_1111111101000000 (.alt 10 pl7_3_1111111100100000 (.alt 11 pl7_3_1111111100010000 .stop))))) (.alt 8 pl7_3_1111111010000000 (.alt 9 pl7_3_1111111001000000 (.alt 10 pl7_3_1111111000100000 (.alt 11 pl7_3_1111111000010000 .stop)))))) (.alt 8 pl7_3_1111101010000000 (.alt 9 pl7_3_1111101001000000 (.alt 10 pl7_3_1111101000100000 (.alt 11 pl7_3_1111101000010000 .stop)))))) (.alt 8 pl7_3_1110101010000000 (.alt 9 pl7_3_1110101001000000 (.alt 10 pl7_3_1110101000100000 (.alt 11 pl7_3_1110101000010000 .stop)))))) (.alt 8 (.any (.alt 1 pl7_3_1110101010000000 (.alt 9 pl7_3_1010101011000000 (.alt 10 pl7_3_1010101010100000 (.alt 11 pl7_3_1010101010010000 .stop))))) (.alt 9 (.any (.alt 1 pl7_3_1110101001000000 (.alt 8 pl7_3_1010101011000000 (.alt 10 pl7_3_1010101001100000 (.alt 11 pl7_3_1010101001010000 .stop))))) (.alt 10 (.any (.alt 1 pl7_3_1110101000100000 (.alt 8 pl7_3_1010101010100000 (.alt 9 pl7_3_1010101001100000 (.alt 11 pl7_3_1010101000110000 .stop))))) (.alt 11 (.any (.alt 1 pl7_3_1110101000010000 (.alt 8 pl7_3_1010101010010000 (.alt 9 pl7_3_1010101001010000 (.alt 10 pl7_3_1010101000110000 .stop))))) .stop))))))))))
set_option maxHeartbeats 4000000 in
theorem c_GateBounds (g : Gat) (ag : Option Addr) (cg : Nat) (hlg : g.grs.length ≤ 9223372036854775807) (c : Crt) (ah : Option Addr) (ch : Nat) (hlh : c.hs.length ≤ 9223372036854775807) (k : Int) (hk0 : -9223372036854775808 ≤ k ∧ k ≤ 9223372036854775807) (H : Heap) (R : Facts) [hG : MemRows ag 5 (grows g.grs) R] [hA : MemRows ah 5 (hrows c.hs) R] :
    Fn Try.prog 7 [g.v (g.sl ag cg), c.v (c.sl ah ch), .int .i64 k] H R (fun v H' R' => v = .bool true ∧ H' = H ∧ R' = R) := by
 refine fn_of Try.func7 rfl Try.ntmps7 rfl ?_
 refine sy_seq ?_
 refine sy_tx' [0, 1, 2] rfl ?_
 refine bx rfl rfl rfl (fun b3 => ?_)
 refine bx rfl rfl rfl (fun b4 => ?_)
 refine sp rfl (PE.assign rfl) rfl ?_
 refine sy_seq ?_
 refine sy_seq ?_
 refine sy_tx' [0, 1, 2] rfl ?_
 refine spL rfl rfl (lhA [_, _, _] ag25 rfl rfl rfl) rfl ?_
 refine spL rfl rfl (lhA [_, _, _] ag28 rfl rfl rfl) rfl ?_
 refine clV rfl cal24 rfl rfl (c_grt g ag cg hlg c ah ch hlh _ _) ?_
 refine sy_cond rfl (fun hc0 => ?_) (fun hc0 => ?_)
 refine sy_seq ?_
 refine sy_tx' [0, 1] rfl ?_
 refine clV rfl cal22 rfl rfl (c_awake _ _) ?_
 refine sp rfl (PE.assign rfl) rfl ?_
 refine sy_ret ?_
 exact sy_return (vs := [_]) rfl (.cons (RV.tmp rfl) .nil) rfl ⟨rfl, rfl, rfl⟩ drp
 have h79 : ¬ 7 < g.grs.length ∧ ¬ 9 < c.hs.length := by simpa using hc0
 refine sy_skip ?_
 refine sy_seq ?_
 refine sy_draw [0, 1, 0, 7, 0, 31, 0, 127, 0, 0, 0, 0, 4095, 8191, 16383, 32767] pl7_3_0000000000000000 mixed ?_ ?_
 refine reg_ok (fuel := 16) (listed := #[false, false, false, false, false, false, false, false, false, false, false, false, false, false, false, false]) (by kernel_rfl) (by kernel_rfl) (by kernel_rfl) ?_
 refine ok_have pl7_3_1111111111110000 4 #[true, true, true, true, true, true, true, true, true, true, true, true, false, false, false, false] ?_ (fun ok1111111111110000 => ?_)
 refine ok_big (l2 := #[true, true, true, true, true, true, true, true, true, true, true, true, true, false, false, false]) (by kernel_rfl) (by kernel_rfl) ?_
 refine ok_big (l2 := #[true, true, true, true, true, true, true, true, true, true, true, true, true, true, false, false]) (by kernel_rfl) (by kernel_rfl) ?_
 refine ok_big (l2 := #[true, true, true, true, true, true, true, true, true, true, true, true, true, true, true, false]) (by kernel_rfl) (by kernel_rfl) ?_
 refine ok_big (l2 := #[true, true, true, true, true, true, true, true, true, true, true, true, true, true, true, true]) (by kernel_rfl) (by kernel_rfl) ?_
 exact ok_done (by kernel_rfl)
 refine ok_have pl7_3_1111111111100000 5 #[true, true, true, true, true, true, true, true, true, true, true, false, false, false, false, false] ?_ (fun ok1111111111100000 => ?_)
 refine ok_big (l2 := #[true, true, true, true, true, true, true, true, true, true, true, true, false, false, false, false]) (by kernel_rfl) (by kernel_rfl) ?_
 exact ok1111111111110000
 refine ok_have pl7_3_1111111111010000 5 #[true, true, true, true, true, true, true, true, true, true, false, true, false, false, false, false] ?_ (fun ok1111111111010000 => ?_)
 refine ok_big (l2 := #[true, true, true, true, true, true, true, true, true, true, true, true, false, false, false, false]) (by kernel_rfl) (by kernel_rfl) ?_
 exact ok1111111111110000
 refine ok_have pl7_3_1111111111000000 6 #[true, true, true, true, true, true, true, true, true, true, false, false, false, false, false, false] ?_ (fun ok1111111111000000 => ?_)
 refine ok_any (by kernel_rfl) ?_
 refine ok_alt (l2 := #[true, true, true, true, true, true, true, true, true, true, true, false, false, false, false, false]) (by kernel_rfl) ?_ ?_
 exact ok1111111111100000
 refine ok_alt (l2 := #[true, true, true, true, true, true, true, true, true, true, false, true, false, false, false, false]) (by kernel_rfl) ?_ ?_
 exact ok1111111111010000
 exact ok_stop
 refine ok_have pl7_3_1111111110110000 5 #[true, true, true, true, true, true, true, true, true, false, true, true, false, false, false, false] ?_ (fun ok1111111110110000 => ?_)
 refine ok_big (l2 := #[true, true, true, true, true, true, true, true, true, true, true, true, false, false, false, false]) (by kernel_rfl) (by kernel_rfl) ?_
 exact ok1111111111110000
 refine ok_have pl7_3_1111111110100000 6 #[true, true, true, true, true, true, true, true, true, false, true, false, false, false, false, false] ?_ (fun ok1111111110100000 => ?_)
 refine ok_any (by kernel_rfl) ?_
 refine ok_alt (l2 := #[true, true, true, true, true, true, true, true, true, true, true, false, false, false, false, false]) (by kernel_rfl) ?_ ?_
 exact ok1111111111100000
 refine ok_alt (l2 := #[true, true, true, true, true, true, true, true, true, false, true, true, false, false, false, false]) (by kernel_rfl) ?_ ?_
 exact ok1111111110110000
 exact ok_stop
 refine ok_have pl7_3_1111111110010000 6 #[true, true, true, true, true, true, true, true, true, false, false, true, false, false, false, false] ?_ (fun ok1111111110010000 => ?_)
 refine ok_any (by kernel_rfl) ?_
 refine ok_alt (l2 := #[true, true, true, true, true, true, true, true, true, true, false, true, false, false, false, false]) (by kernel_rfl) ?_ ?_
 exact ok1111111111010000
 refine ok_alt (l2 := #[true, true, true, true, true, true, true, true, true, false, true, true, false, false, false, false]) (by kernel_rfl) ?_ ?_
 exact ok1111111110110000
 exact ok_stop
 refine ok_have pl7_3_1111111110000000 7 #[true, true, true, true, true, true, true, true, true, false, false, false, false, false, false, false] ?_ (fun ok1111111110000000 => ?_)
 refine ok_any (by kernel_rfl) ?_
 refine ok_alt (l2 := #[true, true, true, true, true, true, true, true, true, true, false, false, false, false, false, false]) (by kernel_rfl) ?_ ?_
 exact ok1111111111000000
 refine ok_alt (l2 := #[true, true, true, true, true, true, true, true, true, false, true, false, false, false, false, false]) (by kernel_rfl) ?_ ?_
 exact ok1111111110100000
 refine ok_alt (l2 := #[true, true, true, true, true, true, true, true, true, false, false, true, false, false, false, false]) (by kernel_rfl) ?_ ?_
 exact ok1111111110010000
 exact ok_stop
 refine ok_have pl7_3_1111111101110000 5 #[true, true, true, true, true, true, true, true, false, true, true, true, false, false, false, false] ?_ (fun ok1111111101110000 => ?_)
 refine ok_big (l2 := #[true, true, true, true, true, true, true, true, true, true, true, true, false, false, false, false]) (by kernel_rfl) (by kernel_rfl) ?_
 exact ok1111111111110000
 refine ok_have pl7_3_1111111101100000 6 #[true, true, true, true, true, true, true, true, false, true, true, false, false, false, false, false] ?_ (fun ok1111111101100000 => ?_)
 refine ok_any (by kernel_rfl) ?_
 refine ok_alt (l2 := #[true, true, true, true, true, true, true, true, true, true, true, false, false, false, false, false]) (by kernel_rfl) ?_ ?_
 exact ok1111111111100000
 refine ok_alt (l2 := #[true, true, true, true, true, true, true, true, false, true, true, true, false, false, false, false]) (by kernel_rfl) ?_ ?_
 exact ok1111111101110000
 exact ok_stop
 refine ok_have pl7_3_1111111101010000 6 #[true, true, true, true, true, true, true, true, false, true, false, true, false, false, false, false] ?_ (fun ok1111111101010000 => ?_)
 refine ok_any (by kernel_rfl) ?_
 refine ok_alt (l2 := #[true, true, true, true, true, true, true, true, true, true, false, true, false, false, false, false]) (by kernel_rfl) ?_ ?_
 exact ok1111111111010000
 refine ok_alt (l2 := #[true, true, true, true, true, true, true, true, false, true, true, true, false, false, false, false]) (by kernel_rfl) ?_ ?_
 exact ok1111111101110000
 exact ok_stop
 refine ok_have pl7_3_1111111101000000 7 #[true, true, true, true, true, true, true, true, false, true, false, false, false, false, false, false] ?_ (fun ok1111111101000000 => ?_)
 refine ok_any (by kernel_rfl) ?_
 refine ok_alt (l2 := #[true, true, true, true, true, true, true, true, true, true, false, false, false, false, false, false]) (by kernel_rfl) ?_ ?_
 exact ok1111111111000000
 refine ok_alt (l2 := #[true, true, true, true, true, true, true, true, false, true, true, false, false, false, false, false]) (by kernel_rfl) ?_ ?_
 exact ok1111111101100000
 refine ok_alt (l2 := #[true, true, true, true, true, true, true, true, false, true, false, true, false, false, false, false]) (by kernel_rfl) ?_ ?_
 exact ok1111111101010000
 exact ok_stop
 refine ok_have pl7_3_1111111100110000 6 #[true, true, true, true, true, true, true, true, false, false, true, true, false, false, false, false] ?_ (fun ok1111111100110000 => ?_)
 refine ok_any (by kernel_rfl) ?_
 refine ok_alt (l2 := #[true, true, true, true, true, true, true, true, true, false, true, true, false, false, false, false]) (by kernel_rfl) ?_ ?_
 exact ok1111111110110000
 refine ok_alt (l2 := #[true, true, true, true, true, true, true, true, false, true, true, true, false, false, false, false]) (by kernel_rfl) ?_ ?_
 exact ok1111111101110000
 exact ok_stop
 refine ok_have pl7_3_1111111100100000 7 #[true, true, true, true, true, true, true, true, false, false, true, false, false, false, false, false] ?_ (fun ok1111111100100000 => ?_)
 refine ok_any (by kernel_rfl) ?_
 refine ok_alt (l2 := #[true, true, true, true, true, true, true, true, true, false, true, false, false, false, false, false]) (by kernel_rfl) ?_ ?_
 exact ok1111111110100000
 refine ok_alt (l2 := #[true, true, true, true, true, true, true, true, false, true, true, false, false, false, false, false]) (by kernel_rfl) ?_ ?_
 exact ok1111111101100000
 refine ok_alt (l2 := #[true, true, true, true, true, true, true, true, false, false, true, true, false, false, false, false]) (by kernel_rfl) ?_ ?_
 exact ok1111111100110000
 exact ok_stop
 refine ok_have pl7_3_1111111100010000 7 #[true, true, true, true, true, true, true, true, false, false, false, true, false, false, false, false] ?_ (fun ok1111111100010000 => ?_)
 refine ok_any (by kernel_rfl) ?_
 refine ok_alt (l2 := #[true, true, true, true, true, true, true, true, true, false, false, true, false, false, false, false]) (by kernel_rfl) ?_ ?_
 exact ok1111111110010000
 refine ok_alt (l2 := #[true, true, true, true, true, true, true, true, false, true, false, true, false, false, false, false]) (by kernel_rfl) ?_ ?_
 exact ok1111111101010000
 refine ok_alt (l2 := #[true, true, true, true, true, true, true, true, false, false, true, true, false, false, false, false]) (by kernel_rfl) ?_ ?_
 exact ok1111111100110000
 exact ok_stop
 refine ok_have pl7_3_1111111011110000 5 #[true, true, true, true, true, true, true, false, true, true, true, true, false, false, false, false] ?_ (fun ok1111111011110000 => ?_)
 refine ok_big (l2 := #[true, true, true, true, true, true, true, true, true, true, true, true, false, false, false, false]) (by kernel_rfl) (by kernel_rfl) ?_
 exact ok1111111111110000
 refine ok_have pl7_3_1111111011100000 6 #[true, true, true, true, true, true, true, false, true, true, true, false, false, false, false, false] ?_ (fun ok1111111011100000 => ?_)
 refine ok_any (by kernel_rfl) ?_
 refine ok_alt (l2 := #[true, true, true, true, true, true, true, true, true, true, true, false, false, false, false, false]) (by kernel_rfl) ?_ ?_
 exact ok1111111111100000
 refine ok_alt (l2 := #[true, true, true, true, true, true, true, false, true, true, true, true, false, false, false, false]) (by kernel_rfl) ?_ ?_
 exact ok1111111011110000
 exact ok_stop
 refine ok_have pl7_3_1111111011010000 6 #[true, true, true, true, true, true, true, false, true, true, false, true, false, false, false, false] ?_ (fun ok1111111011010000 => ?_)
 refine ok_any (by kernel_rfl) ?_
 refine ok_alt (l2 := #[true, true, true, true, true, true, true, true, true, true, false, true, false, false, false, false]) (by kernel_rfl) ?_ ?_
 exact ok1111111111010000
 refine ok_alt (l2 := #[true, true, true, true, true, true, true, false, true, true, true, true, false, false, false, false]) (by kernel_rfl) ?_ ?_
 exact ok1111111011110000
 exact ok_stop
 refine ok_have pl7_3_1111111011000000 7 #[true, true, true, true, true, true, true, false, true, true, false, false, false, false, false, false] ?_ (fun ok1111111011000000 => ?_)
 refine ok_any (by kernel_rfl) ?_
 refine ok_alt (l2 := #[true, true, true, true, true, true, true, true, true, true, false, false, false, false, false, false]) (by kernel_rfl) ?_ ?_
 exact ok1111111111000000
 refine ok_alt (l2 := #[true, true, true, true, true, true, true, false, true, true, true, false, false, false, false, false]) (by kernel_rfl) ?_ ?_
 exact ok1111111011100000
 refine ok_alt (l2 := #[true, true, true, true, true, true, true, false, true, true, false, true, false, false, false, false]) (by kernel_rfl) ?_ ?_
 exact ok1111111011010000
 exact ok_stop
 refine ok_have pl7_3_1111111010110000 6 #[true, true, true, true, true, true, true, false, true, false, true, true, false, false, false, false] ?_ (fun ok1111111010110000 => ?_)
 refine ok_any (by kernel_rfl) ?_
 refine ok_alt (l2 := #[true, true, true, true, true, true, true, true, true, false, true, true, false, false, false, false]) (by kernel_rfl) ?_ ?_
 exact ok1111111110110000
 refine ok_alt (l2 := #[true, true, true, true, true, true, true, false, true, true, true, true, false, false, false, false]) (by kernel_rfl) ?_ ?_
 exact ok1111111011110000
 exact ok_stop
 refine ok_have pl7_3_1111111010100000 7 #[true, true, true, true, true, true, true, false, true, false, true, false, false, false, false, false] ?_ (fun ok1111111010100000 => ?_)
 refine ok_any (by kernel_rfl) ?_
 refine ok_alt (l2 := #[true, true, true, true, true, true, true, true, true, false, true, false, false, false, false, false]) (by kernel_rfl) ?_ ?_
 exact ok1111111110100000
 refine ok_alt (l2 := #[true, true, true, true, true, true, true, false, true, true, true, false, false, false, false, false]) (by kernel_rfl) ?_ ?_
 exact ok1111111011100000
 refine ok_alt (l2 := #[true, true, true, true, true, true, true, false, true, false, true, true, false, false, false, false]) (by kernel_rfl) ?_ ?_
 exact ok1111111010110000
 exact ok_stop
 refine ok_have pl7_3_1111111010010000 7 #[true, true, true, true, true, true, true, false, true, false, false, true, false, false, false, false] ?_ (fun ok1111111010010000 => ?_)
 refine ok_any (by kernel_rfl) ?_
 refine ok_alt (l2 := #[true, true, true, true, true, true, true, true, true, false, false, true, false, false, false, false]) (by kernel_rfl) ?_ ?_
 exact ok1111111110010000
 refine ok_alt (l2 := #[true, true, true, true, true, true, true, false, true, true, false, true, false, false, false, false]) (by kernel_rfl) ?_ ?_
 exact ok1111111011010000
 refine ok_alt (l2 := #[true, true, true, true, true, true, true, false, true, false, true, true, false, false, false, false]) (by kernel_rfl) ?_ ?_
 exact ok1111111010110000
 exact ok_stop
 refine ok_have pl7_3_1111111010000000 8 #[true, true, true, true, true, true, true, false, true, false, false, false, false, false, false, false] ?_ (fun ok1111111010000000 => ?_)
 refine ok_any (by kernel_rfl) ?_
 refine ok_alt (l2 := #[true, true, true, true, true, true, true, true, true, false, false, false, false, false, false, false]) (by kernel_rfl) ?_ ?_
 exact ok1111111110000000
 refine ok_alt (l2 := #[true, true, true, true, true, true, true, false, true, true, false, false, false, false, false, false]) (by kernel_rfl) ?_ ?_
 exact ok1111111011000000
 refine ok_alt (l2 := #[true, true, true, true, true, true, true, false, true, false, true, false, false, false, false, false]) (by kernel_rfl) ?_ ?_
 exact ok1111111010100000
 refine ok_alt (l2 := #[true, true, true, true, true, true, true, false, true, false, false, true, false, false, false, false]) (by kernel_rfl) ?_ ?_
 exact ok1111111010010000
 exact ok_stop
 refine ok_have pl7_3_1111111001110000 6 #[true, true, true, true, true, true, true, false, false, true, true, true, false, false, false, false] ?_ (fun ok1111111001110000 => ?_)
 refine ok_any (by kernel_rfl) ?_
 refine ok_alt (l2 := #[true, true, true, true, true, true, true, true, false, true, true, true, false, false, false, false]) (by kernel_rfl) ?_ ?_
 exact ok1111111101110000
 refine ok_alt (l2 := #[true, true, true, true, true, true, true, false, true, true, true, true, false, false, false, false]) (by kernel_rfl) ?_ ?_
 exact ok1111111011110000
 exact ok_stop
 refine ok_have pl7_3_1111111001100000 7 #[true, true, true, true, true, true, true, false, false, true, true, false, false, false, false, false] ?_ (fun ok1111111001100000 => ?_)
 refine ok_any (by kernel_rfl) ?_
 refine ok_alt (l2 := #[true, true, true, true, true, true, true, true, false, true, true, false, false, false, false, false]) (by kernel_rfl) ?_ ?_
 exact ok1111111101100000
 refine ok_alt (l2 := #[true, true, true, true, true, true, true, false, true, true, true, false, false, false, false, false]) (by kernel_rfl) ?_ ?_
 exact ok1111111011100000
 refine ok_alt (l2 := #[true, true, true, true, true, true, true, false, false, true, true, true, false, false, false, false]) (by kernel_rfl) ?_ ?_
 exact ok1111111001110000
 exact ok_stop
 refine ok_have pl7_3_1111111001010000 7 #[true, true, true, true, true, true, true, false, false, true, false, true, false, false, false, false] ?_ (fun ok1111111001010000 => ?_)
 refine ok_any (by kernel_rfl) ?_
 refine ok_alt (l2 := #[true, true, true, true, true, true, true, true, false, true, false, true, false, false, false, false]) (by kernel_rfl) ?_ ?_
 exact ok1111111101010000
 refine ok_alt (l2 := #[true, true, true, true, true, true, true, false, true, true, false, true, false, false, false, false]) (by kernel_rfl) ?_ ?_
 exact ok1111111011010000
 refine ok_alt (l2 := #[true, true, true, true, true, true, true, false, false, true, true, true, false, false, false, false]) (by kernel_rfl) ?_ ?_
 exact ok1111111001110000
 exact ok_stop
 refine ok_have pl7_3_1111111001000000 8 #[true, true, true, true, true, true, true, false, false, true, false, false, false, false, false, false] ?_ (fun ok1111111001000000 => ?_)
 refine ok_any (by kernel_rfl) ?_
 refine ok_alt (l2 := #[true, true, true, true, true, true, true, true, false, true, false, false, false, false, false, false]) (by kernel_rfl) ?_ ?_
 exact ok1111111101000000
 refine ok_alt (l2 := #[true, true, true, true, true, true, true, false, true, true, false, false, false, false, false, false]) (by kernel_rfl) ?_ ?_
 exact ok1111111011000000
 refine ok_alt (l2 := #[true, true, true, true, true, true, true, false, false, true, true, false, false, false, false, false]) (by kernel_rfl) ?_ ?_
 exact ok1111111001100000
 refine ok_alt (l2 := #[true, true, true, true, true, true, true, false, false, true, false, true, false, false, false, false]) (by kernel_rfl) ?_ ?_
 exact ok1111111001010000
 exact ok_stop
 refine ok_have pl7_3_1111111000110000 7 #[true, true, true, true, true, true, true, false, false, false, true, true, false, false, false, false] ?_ (fun ok1111111000110000 => ?_)
 refine ok_any (by kernel_rfl) ?_
 refine ok_alt (l2 := #[true, true, true, true, true, true, true, true, false, false, true, true, false, false, false, false]) (by kernel_rfl) ?_ ?_
 exact ok1111111100110000
 refine ok_alt (l2 := #[true, true, true, true, true, true, true, false, true, false, true, true, false, false, false, false]) (by kernel_rfl) ?_ ?_
 exact ok1111111010110000
 refine ok_alt (l2 := #[true, true, true, true, true, true, true, false, false, true, true, true, false, false, false, false]) (by kernel_rfl) ?_ ?_
 exact ok1111111001110000
 exact ok_stop
 refine ok_have pl7_3_1111111000100000 8 #[true, true, true, true, true, true, true, false, false, false, true, false, false, false, false, false] ?_ (fun ok1111111000100000 => ?_)
 refine ok_any (by kernel_rfl) ?_
 refine ok_alt (l2 := #[true, true, true, true, true, true, true, true, false, false, true, false, false, false, false, false]) (by kernel_rfl) ?_ ?_
 exact ok1111111100100000
 refine ok_alt (l2 := #[true, true, true, true, true, true, true, false, true, false, true, false, false, false, false, false]) (by kernel_rfl) ?_ ?_
 exact ok1111111010100000
 refine ok_alt (l2 := #[true, true, true, true, true, true, true, false, false, true, true, false, false, false, false, false]) (by kernel_rfl) ?_ ?_
 exact ok1111111001100000
 refine ok_alt (l2 := #[true, true, true, true, true, true, true, false, false, false, true, true, false, false, false, false]) (by kernel_rfl) ?_ ?_
 exact ok1111111000110000
 exact ok_stop
 refine ok_have pl7_3_1111111000010000 8 #[true, true, true, true, true, true, true, false, false, false, false, true, false, false, false, false] ?_ (fun ok1111111000010000 => ?_)
 refine ok_any (by kernel_rfl) ?_
 refine ok_alt (l2 := #[true, true, true, true, true, true, true, true, false, false, false, true, false, false, false, false]) (by kernel_rfl) ?_ ?_
 exact ok1111111100010000
 refine ok_alt (l2 := #[true, true, true, true, true, true, true, false, true, false, false, true, false, false, false, false]) (by kernel_rfl) ?_ ?_
 exact ok1111111010010000
 refine ok_alt (l2 := #[true, true, true, true, true, true, true, false, false, true, false, true, false, false, false, false]) (by kernel_rfl) ?_ ?_
 exact ok1111111001010000
 refine ok_alt (l2 := #[true, true, true, true, true, true, true, false, false, false, true, true, false, false, false, false]) (by kernel_rfl) ?_ ?_
 exact ok1111111000110000
 exact ok_stop
 refine ok_have pl7_3_1111101011110000 6 #[true, true, true, true, true, false, true, false, true, true, true, true, false, false, false, false] ?_ (fun ok1111101011110000 => ?_)
 refine ok_big (l2 := #[true, true, true, true, true, true, true, false, true, true, true, true, false, false, false, false]) (by kernel_rfl) (by kernel_rfl) ?_
 exact ok1111111011110000
 refine ok_have pl7_3_1111101011100000 7 #[true, true, true, true, true, false, true, false, true, true, true, false, false, false, false, false] ?_ (fun ok1111101011100000 => ?_)
 refine ok_any (by kernel_rfl) ?_
 refine ok_alt (l2 := #[true, true, true, true, true, true, true, false, true, true, true, false, false, false, false, false]) (by kernel_rfl) ?_ ?_
 exact ok1111111011100000
 refine ok_alt (l2 := #[true, true, true, true, true, false, true, false, true, true, true, true, false, false, false, false]) (by kernel_rfl) ?_ ?_
 exact ok1111101011110000
 exact ok_stop
 refine ok_have pl7_3_1111101011010000 7 #[true, true, true, true, true, false, true, false, true, true, false, true, false, false, false, false] ?_ (fun ok1111101011010000 => ?_)
 refine ok_any (by kernel_rfl) ?_
 refine ok_alt (l2 := #[true, true, true, true, true, true, true, false, true, true, false, true, false, false, false, false]) (by kernel_rfl) ?_ ?_
 exact ok1111111011010000
 refine ok_alt (l2 := #[true, true, true, true, true, false, true, false, true, true, true, true, false, false, false, false]) (by kernel_rfl) ?_ ?_
 exact ok1111101011110000
 exact ok_stop
 refine ok_have pl7_3_1111101011000000 8 #[true, true, true, true, true, false, true, false, true, true, false, false, false, false, false, false] ?_ (fun ok1111101011000000 => ?_)
 refine ok_any (by kernel_rfl) ?_
 refine ok_alt (l2 := #[true, true, true, true, true, true, true, false, true, true, false, false, false, false, false, false]) (by kernel_rfl) ?_ ?_
 exact ok1111111011000000
 refine ok_alt (l2 := #[true, true, true, true, true, false, true, false, true, true, true, false, false, false, false, false]) (by kernel_rfl) ?_ ?_
 exact ok1111101011100000
 refine ok_alt (l2 := #[true, true, true, true, true, false, true, false, true, true, false, true, false, false, false, false]) (by kernel_rfl) ?_ ?_
 exact ok1111101011010000
 exact ok_stop
 refine ok_have pl7_3_1111101010110000 7 #[true, true, true, true, true, false, true, false, true, false, true, true, false, false, false, false] ?_ (fun ok1111101010110000 => ?_)
 refine ok_any (by kernel_rfl) ?_
 refine ok_alt (l2 := #[true, true, true, true, true, true, true, false, true, false, true, true, false, false, false, false]) (by kernel_rfl) ?_ ?_
 exact ok1111111010110000
 refine ok_alt (l2 := #[true, true, true, true, true, false, true, false, true, true, true, true, false, false, false, false]) (by kernel_rfl) ?_ ?_
 exact ok1111101011110000
 exact ok_stop
 refine ok_have pl7_3_1111101010100000 8 #[true, true, true, true, true, false, true, false, true, false, true, false, false, false, false, false] ?_ (fun ok1111101010100000 => ?_)
 refine ok_any (by kernel_rfl) ?_
 refine ok_alt (l2 := #[true, true, true, true, true, true, true, false, true, false, true, false, false, false, false, false]) (by kernel_rfl) ?_ ?_
 exact ok1111111010100000
 refine ok_alt (l2 := #[true, true, true, true, true, false, true, false, true, true, true, false, false, false, false, false]) (by kernel_rfl) ?_ ?_
 exact ok1111101011100000
 refine ok_alt (l2 := #[true, true, true, true, true, false, true, false, true, false, true, true, false, false, false, false]) (by kernel_rfl) ?_ ?_
 exact ok1111101010110000
 exact ok_stop
 refine ok_have pl7_3_1111101010010000 8 #[true, true, true, true, true, false, true, false, true, false, false, true, false, false, false, false] ?_ (fun ok1111101010010000 => ?_)
 refine ok_any (by kernel_rfl) ?_
 refine ok_alt (l2 := #[true, true, true, true, true, true, true, false, true, false, false, true, false, false, false, false]) (by kernel_rfl) ?_ ?_
 exact ok1111111010010000
 refine ok_alt (l2 := #[true, true, true, true, true, false, true, false, true, true, false, true, false, false, false, false]) (by kernel_rfl) ?_ ?_
 exact ok1111101011010000
 refine ok_alt (l2 := #[true, true, true, true, true, false, true, false, true, false, true, true, false, false, false, false]) (by kernel_rfl) ?_ ?_
 exact ok1111101010110000
 exact ok_stop
 refine ok_have pl7_3_1111101010000000 9 #[true, true, true, true, true, false, true, false, true, false, false, false, false, false, false, false] ?_ (fun ok1111101010000000 => ?_)
 refine ok_any (by kernel_rfl) ?_
 refine ok_alt (l2 := #[true, true, true, true, true, true, true, false, true, false, false, false, false, false, false, false]) (by kernel_rfl) ?_ ?_
 exact ok1111111010000000
 refine ok_alt (l2 := #[true, true, true, true, true, false, true, false, true, true, false, false, false, false, false, false]) (by kernel_rfl) ?_ ?_
 exact ok1111101011000000
 refine ok_alt (l2 := #[true, true, true, true, true, false, true, false, true, false, true, false, false, false, false, false]) (by kernel_rfl) ?_ ?_
 exact ok1111101010100000
 refine ok_alt (l2 := #[true, true, true, true, true, false, true, false, true, false, false, true, false, false, false, false]) (by kernel_rfl) ?_ ?_
 exact ok1111101010010000
 exact ok_stop
 refine ok_have pl7_3_1111101001110000 7 #[true, true, true, true, true, false, true, false, false, true, true, true, false, false, false, false] ?_ (fun ok1111101001110000 => ?_)
 refine ok_any (by kernel_rfl) ?_
 refine ok_alt (l2 := #[true, true, true, true, true, true, true, false, false, true, true, true, false, false, false, false]) (by kernel_rfl) ?_ ?_
 exact ok1111111001110000
 refine ok_alt (l2 := #[true, true, true, true, true, false, true, false, true, true, true, true, false, false, false, false]) (by kernel_rfl) ?_ ?_
 exact ok1111101011110000
 exact ok_stop
 refine ok_have pl7_3_1111101001100000 8 #[true, true, true, true, true, false, true, false, false, true, true, false, false, false, false, false] ?_ (fun ok1111101001100000 => ?_)
 refine ok_any (by kernel_rfl) ?_
 refine ok_alt (l2 := #[true, true, true, true, true, true, true, false, false, true, true, false, false, false, false, false]) (by kernel_rfl) ?_ ?_
 exact ok1111111001100000
 refine ok_alt (l2 := #[true, true, true, true, true, false, true, false, true, true, true, false, false, false, false, false]) (by kernel_rfl) ?_ ?_
 exact ok1111101011100000
 refine ok_alt (l2 := #[true, true, true, true, true, false, true, false, false, true, true, true, false, false, false, false]) (by kernel_rfl) ?_ ?_
 exact ok1111101001110000
 exact ok_stop
 refine ok_have pl7_3_1111101001010000 8 #[true, true, true, true, true, false, true, false, false, true, false, true, false, false, false, false] ?_ (fun ok1111101001010000 => ?_)
 refine ok_any (by kernel_rfl) ?_
 refine ok_alt (l2 := #[true, true, true, true, true, true, true, false, false, true, false, true, false, false, false, false]) (by kernel_rfl) ?_ ?_
 exact ok1111111001010000
 refine ok_alt (l2 := #[true, true, true, true, true, false, true, false, true, true, false, true, false, false, false, false]) (by kernel_rfl) ?_ ?_
 exact ok1111101011010000
 refine ok_alt (l2 := #[true, true, true, true, true, false, true, false, false, true, true, true, false, false, false, false]) (by kernel_rfl) ?_ ?_
 exact ok1111101001110000
 exact ok_stop
 refine ok_have pl7_3_1111101001000000 9 #[true, true, true, true, true, false, true, false, false, true, false, false, false, false, false, false] ?_ (fun ok1111101001000000 => ?_)
 refine ok_any (by kernel_rfl) ?_
 refine ok_alt (l2 := #[true, true, true, true, true, true, true, false, false, true, false, false, false, false, false, false]) (by kernel_rfl) ?_ ?_
 exact ok1111111001000000
 refine ok_alt (l2 := #[true, true, true, true, true, false, true, false, true, true, false, false, false, false, false, false]) (by kernel_rfl) ?_ ?_
 exact ok1111101011000000
 refine ok_alt (l2 := #[true, true, true, true, true, false, true, false, false, true, true, false, false, false, false, false]) (by kernel_rfl) ?_ ?_
 exact ok1111101001100000
 refine ok_alt (l2 := #[true, true, true, true, true, false, true, false, false, true, false, true, false, false, false, false]) (by kernel_rfl) ?_ ?_
 exact ok1111101001010000
 exact ok_stop
 refine ok_have pl7_3_1111101000110000 8 #[true, true, true, true, true, false, true, false, false, false, true, true, false, false, false, false] ?_ (fun ok1111101000110000 => ?_)
 refine ok_any (by kernel_rfl) ?_
 refine ok_alt (l2 := #[true, true, true, true, true, true, true, false, false, false, true, true, false, false, false, false]) (by kernel_rfl) ?_ ?_
 exact ok1111111000110000
 refine ok_alt (l2 := #[true, true, true, true, true, false, true, false, true, false, true, true, false, false, false, false]) (by kernel_rfl) ?_ ?_
 exact ok1111101010110000
 refine ok_alt (l2 := #[true, true, true, true, true, false, true, false, false, true, true, true, false, false, false, false]) (by kernel_rfl) ?_ ?_
 exact ok1111101001110000
 exact ok_stop
 refine ok_have pl7_3_1111101000100000 9 #[true, true, true, true, true, false, true, false, false, false, true, false, false, false, false, false] ?_ (fun ok1111101000100000 => ?_)
 refine ok_any (by kernel_rfl) ?_
 refine ok_alt (l2 := #[true, true, true, true, true, true, true, false, false, false, true, false, false, false, false, false]) (by kernel_rfl) ?_ ?_
 exact ok1111111000100000
 refine ok_alt (l2 := #[true, true, true, true, true, false, true, false, true, false, true, false, false, false, false, false]) (by kernel_rfl) ?_ ?_
 exact ok1111101010100000
 refine ok_alt (l2 := #[true, true, true, true, true, false, true, false, false, true, true, false, false, false, false, false]) (by kernel_rfl) ?_ ?_
 exact ok1111101001100000
 refine ok_alt (l2 := #[true, true, true, true, true, false, true, false, false, false, true, true, false, false, false, false]) (by kernel_rfl) ?_ ?_
 exact ok1111101000110000
 exact ok_stop
 refine ok_have pl7_3_1111101000010000 9 #[true, true, true, true, true, false, true, false, false, false, false, true, false, false, false, false] ?_ (fun ok1111101000010000 => ?_)
 refine ok_any (by kernel_rfl) ?_
 refine ok_alt (l2 := #[true, true, true, true, true, true, true, false, false, false, false, true, false, false, false, false]) (by kernel_rfl) ?_ ?_
 exact ok1111111000010000
 refine ok_alt (l2 := #[true, true, true, true, true, false, true, false, true, false, false, true, false, false, false, false]) (by kernel_rfl) ?_ ?_
 exact ok1111101010010000
 refine ok_alt (l2 := #[true, true, true, true, true, false, true, false, false, true, false, true, false, false, false, false]) (by kernel_rfl) ?_ ?_
 exact ok1111101001010000
 refine ok_alt (l2 := #[true, true, true, true, true, false, true, false, false, false, true, true, false, false, false, false]) (by kernel_rfl) ?_ ?_
 exact ok1111101000110000
 exact ok_stop
 refine ok_have pl7_3_1110101011110000 7 #[true, true, true, false, true, false, true, false, true, true, true, true, false, false, false, false] ?_ (fun ok1110101011110000 => ?_)
 refine ok_big (l2 := #[true, true, true, true, true, false, true, false, true, true, true, true, false, false, false, false]) (by kernel_rfl) (by kernel_rfl) ?_
 exact ok1111101011110000
 refine ok_have pl7_3_1110101011100000 8 #[true, true, true, false, true, false, true, false, true, true, true, false, false, false, false, false] ?_ (fun ok1110101011100000 => ?_)
 refine ok_any (by kernel_rfl) ?_
 refine ok_alt (l2 := #[true, true, true, true, true, false, true, false, true, true, true, false, false, false, false, false]) (by kernel_rfl) ?_ ?_
 exact ok1111101011100000
 refine ok_alt (l2 := #[true, true, true, false, true, false, true, false, true, true, true, true, false, false, false, false]) (by kernel_rfl) ?_ ?_
 exact ok1110101011110000
 exact ok_stop
 refine ok_have pl7_3_1110101011010000 8 #[true, true, true, false, true, false, true, false, true, true, false, true, false, false, false, false] ?_ (fun ok1110101011010000 => ?_)
 refine ok_any (by kernel_rfl) ?_
 refine ok_alt (l2 := #[true, true, true, true, true, false, true, false, true, true, false, true, false, false, false, false]) (by kernel_rfl) ?_ ?_
 exact ok1111101011010000
 refine ok_alt (l2 := #[true, true, true, false, true, false, true, false, true, true, true, true, false, false, false, false]) (by kernel_rfl) ?_ ?_
 exact ok1110101011110000
 exact ok_stop
 refine ok_have pl7_3_1110101011000000 9 #[true, true, true, false, true, false, true, false, true, true, false, false, false, false, false, false] ?_ (fun ok1110101011000000 => ?_)
 refine ok_any (by kernel_rfl) ?_
 refine ok_alt (l2 := #[true, true, true, true, true, false, true, false, true, true, false, false, false, false, false, false]) (by kernel_rfl) ?_ ?_
 exact ok1111101011000000
 refine ok_alt (l2 := #[true, true, true, false, true, false, true, false, true, true, true, false, false, false, false, false]) (by kernel_rfl) ?_ ?_
 exact ok1110101011100000
 refine ok_alt (l2 := #[true, true, true, false, true, false, true, false, true, true, false, true, false, false, false, false]) (by kernel_rfl) ?_ ?_
 exact ok1110101011010000
 exact ok_stop
 refine ok_have pl7_3_1110101010110000 8 #[true, true, true, false, true, false, true, false, true, false, true, true, false, false, false, false] ?_ (fun ok1110101010110000 => ?_)
 refine ok_any (by kernel_rfl) ?_
 refine ok_alt (l2 := #[true, true, true, true, true, false, true, false, true, false, true, true, false, false, false, false]) (by kernel_rfl) ?_ ?_
 exact ok1111101010110000
 refine ok_alt (l2 := #[true, true, true, false, true, false, true, false, true, true, true, true, false, false, false, false]) (by kernel_rfl) ?_ ?_
 exact ok1110101011110000
 exact ok_stop
 refine ok_have pl7_3_1110101010100000 9 #[true, true, true, false, true, false, true, false, true, false, true, false, false, false, false, false] ?_ (fun ok1110101010100000 => ?_)
 refine ok_any (by kernel_rfl) ?_
 refine ok_alt (l2 := #[true, true, true, true, true, false, true, false, true, false, true, false, false, false, false, false]) (by kernel_rfl) ?_ ?_
 exact ok1111101010100000
 refine ok_alt (l2 := #[true, true, true, false, true, false, true, false, true, true, true, false, false, false, false, false]) (by kernel_rfl) ?_ ?_
 exact ok1110101011100000
 refine ok_alt (l2 := #[true, true, true, false, true, false, true, false, true, false, true, true, false, false, false, false]) (by kernel_rfl) ?_ ?_
 exact ok1110101010110000
 exact ok_stop
 refine ok_have pl7_3_1110101010010000 9 #[true, true, true, false, true, false, true, false, true, false, false, true, false, false, false, false] ?_ (fun ok1110101010010000 => ?_)
 refine ok_any (by kernel_rfl) ?_
 refine ok_alt (l2 := #[true, true, true, true, true, false, true, false, true, false, false, true, false, false, false, false]) (by kernel_rfl) ?_ ?_
 exact ok1111101010010000
 refine ok_alt (l2 := #[true, true, true, false, true, false, true, false, true, true, false, true, false, false, false, false]) (by kernel_rfl) ?_ ?_
 exact ok1110101011010000
 refine ok_alt (l2 := #[true, true, true, false, true, false, true, false, true, false, true, true, false, false, false, false]) (by kernel_rfl) ?_ ?_
 exact ok1110101010110000
 exact ok_stop
 refine ok_have pl7_3_1110101010000000 10 #[true, true, true, false, true, false, true, false, true, false, false, false, false, false, false, false] ?_ (fun ok1110101010000000 => ?_)
 refine ok_any (by kernel_rfl) ?_
 refine ok_alt (l2 := #[true, true, true, true, true, false, true, false, true, false, false, false, false, false, false, false]) (by kernel_rfl) ?_ ?_
 exact ok1111101010000000
 refine ok_alt (l2 := #[true, true, true, false, true, false, true, false, true, true, false, false, false, false, false, false]) (by kernel_rfl) ?_ ?_
 exact ok1110101011000000
 refine ok_alt (l2 := #[true, true, true, false, true, false, true, false, true, false, true, false, false, false, false, false]) (by kernel_rfl) ?_ ?_
 exact ok1110101010100000
 refine ok_alt (l2 := #[true, true, true, false, true, false, true, false, true, false, false, true, false, false, false, false]) (by kernel_rfl) ?_ ?_
 exact ok1110101010010000
 exact ok_stop
 refine ok_have pl7_3_1110101001110000 8 #[true, true, true, false, true, false, true, false, false, true, true, true, false, false, false, false] ?_ (fun ok1110101001110000 => ?_)
 refine ok_any (by kernel_rfl) ?_
 refine ok_alt (l2 := #[true, true, true, true, true, false, true, false, false, true, true, true, false, false, false, false]) (by kernel_rfl) ?_ ?_
 exact ok1111101001110000
 refine ok_alt (l2 := #[true, true, true, false, true, false, true, false, true, true, true, true, false, false, false, false]) (by kernel_rfl) ?_ ?_
 exact ok1110101011110000
 exact ok_stop
 refine ok_have pl7_3_1110101001100000 9 #[true, true, true, false, true, false, true, false, false, true, true, false, false, false, false, false] ?_ (fun ok1110101001100000 => ?_)
 refine ok_any (by kernel_rfl) ?_
 refine ok_alt (l2 := #[true, true, true, true, true, false, true, false, false, true, true, false, false, false, false, false]) (by kernel_rfl) ?_ ?_
 exact ok1111101001100000
 refine ok_alt (l2 := #[true, true, true, false, true, false, true, false, true, true, true, false, false, false, false, false]) (by kernel_rfl) ?_ ?_
 exact ok1110101011100000
 refine ok_alt (l2 := #[true, true, true, false, true, false, true, false, false, true, true, true, false, false, false, false]) (by kernel_rfl) ?_ ?_
 exact ok1110101001110000
 exact ok_stop
 refine ok_have pl7_3_1110101001010000 9 #[true, true, true, false, true, false, true, false, false, true, false, true, false, false, false, false] ?_ (fun ok1110101001010000 => ?_)
 refine ok_any (by kernel_rfl) ?_
 refine ok_alt (l2 := #[true, true, true, true, true, false, true, false, false, true, false, true, false, false, false, false]) (by kernel_rfl) ?_ ?_
 exact ok1111101001010000
 refine ok_alt (l2 := #[true, true, true, false, true, false, true, false, true, true, false, true, false, false, false, false]) (by kernel_rfl) ?_ ?_
 exact ok1110101011010000
 refine ok_alt (l2 := #[true, true, true, false, true, false, true, false, false, true, true, true, false, false, false, false]) (by kernel_rfl) ?_ ?_
 exact ok1110101001110000
 exact ok_stop
 refine ok_have pl7_3_1110101001000000 10 #[true, true, true, false, true, false, true, false, false, true, false, false, false, false, false, false] ?_ (fun ok1110101001000000 => ?_)
 refine ok_any (by kernel_rfl) ?_
 refine ok_alt (l2 := #[true, true, true, true, true, false, true, false, false, true, false, false, false, false, false, false]) (by kernel_rfl) ?_ ?_
 exact ok1111101001000000
 refine ok_alt (l2 := #[true, true, true, false, true, false, true, false, true, true, false, false, false, false, false, false]) (by kernel_rfl) ?_ ?_
 exact ok1110101011000000
 refine ok_alt (l2 := #[true, true, true, false, true, false, true, false, false, true, true, false, false, false, false, false]) (by kernel_rfl) ?_ ?_
 exact ok1110101001100000
 refine ok_alt (l2 := #[true, true, true, false, true, false, true, false, false, true, false, true, false, false, false, false]) (by kernel_rfl) ?_ ?_
 exact ok1110101001010000
 exact ok_stop
 refine ok_have pl7_3_1110101000110000 9 #[true, true, true, false, true, false, true, false, false, false, true, true, false, false, false, false] ?_ (fun ok1110101000110000 => ?_)
 refine ok_any (by kernel_rfl) ?_
 refine ok_alt (l2 := #[true, true, true, true, true, false, true, false, false, false, true, true, false, false, false, false]) (by kernel_rfl) ?_ ?_
 exact ok1111101000110000
 refine ok_alt (l2 := #[true, true, true, false, true, false, true, false, true, false, true, true, false, false, false, false]) (by kernel_rfl) ?_ ?_
 exact ok1110101010110000
 refine ok_alt (l2 := #[true, true, true, false, true, false, true, false, false, true, true, true, false, false, false, false]) (by kernel_rfl) ?_ ?_
 exact ok1110101001110000
 exact ok_stop
 refine ok_have pl7_3_1110101000100000 10 #[true, true, true, false, true, false, true, false, false, false, true, false, false, false, false, false] ?_ (fun ok1110101000100000 => ?_)
 refine ok_any (by kernel_rfl) ?_
 refine ok_alt (l2 := #[true, true, true, true, true, false, true, false, false, false, true, false, false, false, false, false]) (by kernel_rfl) ?_ ?_
 exact ok1111101000100000
 refine ok_alt (l2 := #[true, true, true, false, true, false, true, false, true, false, true, false, false, false, false, false]) (by kernel_rfl) ?_ ?_
 exact ok1110101010100000
 refine ok_alt (l2 := #[true, true, true, false, true, false, true, false, false, true, true, false, false, false, false, false]) (by kernel_rfl) ?_ ?_
 exact ok1110101001100000
 refine ok_alt (l2 := #[true, true, true, false, true, false, true, false, false, false, true, true, false, false, false, false]) (by kernel_rfl) ?_ ?_
 exact ok1110101000110000
 exact ok_stop
 refine ok_have pl7_3_1110101000010000 10 #[true, true, true, false, true, false, true, false, false, false, false, true, false, false, false, false] ?_ (fun ok1110101000010000 => ?_)
 refine ok_any (by kernel_rfl) ?_
 refine ok_alt (l2 := #[true, true, true, true, true, false, true, false, false, false, false, true, false, false, false, false]) (by kernel_rfl) ?_ ?_
 exact ok1111101000010000
 refine ok_alt (l2 := #[true, true, true, false, true, false, true, false, true, false, false, true, false, false, false, false]) (by kernel_rfl) ?_ ?_
 exact ok1110101010010000
 refine ok_alt (l2 := #[true, true, true, false, true, false, true, false, false, true, false, true, false, false, false, false]) (by kernel_rfl) ?_ ?_
 exact ok1110101001010000
 refine ok_alt (l2 := #[true, true, true, false, true, false, true, false, false, false, true, true, false, false, false, false]) (by kernel_rfl) ?_ ?_
 exact ok1110101000110000
 exact ok_stop
 refine ok_have pl7_3_1010101011110000 8 #[true, false, true, false, true, false, true, false, true, true, true, true, false, false, false, false] ?_ (fun ok1010101011110000 => ?_)
 refine ok_big (l2 := #[true, true, true, false, true, false, true, false, true, true, true, true, false, false, false, false]) (by kernel_rfl) (by kernel_rfl) ?_
 exact ok1110101011110000
 refine ok_have pl7_3_1010101011100000 9 #[true, false, true, false, true, false, true, false, true, true, true, false, false, false, false, false] ?_ (fun ok1010101011100000 => ?_)
 refine ok_any (by kernel_rfl) ?_
 refine ok_alt (l2 := #[true, true, true, false, true, false, true, false, true, true, true, false, false, false, false, false]) (by kernel_rfl) ?_ ?_
 exact ok1110101011100000
 refine ok_alt (l2 := #[true, false, true, false, true, false, true, false, true, true, true, true, false, false, false, false]) (by kernel_rfl) ?_ ?_
 exact ok1010101011110000
 exact ok_stop
 refine ok_have pl7_3_1010101011010000 9 #[true, false, true, false, true, false, true, false, true, true, false, true, false, false, false, false] ?_ (fun ok1010101011010000 => ?_)
 refine ok_any (by kernel_rfl) ?_
 refine ok_alt (l2 := #[true, true, true, false, true, false, true, false, true, true, false, true, false, false, false, false]) (by kernel_rfl) ?_ ?_
 exact ok1110101011010000
 refine ok_alt (l2 := #[true, false, true, false, true, false, true, false, true, true, true, true, false, false, false, false]) (by kernel_rfl) ?_ ?_
 exact ok1010101011110000
 exact ok_stop
 refine ok_have pl7_3_1010101011000000 10 #[true, false, true, false, true, false, true, false, true, true, false, false, false, false, false, false] ?_ (fun ok1010101011000000 => ?_)
 refine ok_any (by kernel_rfl) ?_
 refine ok_alt (l2 := #[true, true, true, false, true, false, true, false, true, true, false, false, false, false, false, false]) (by kernel_rfl) ?_ ?_
 exact ok1110101011000000
 refine ok_alt (l2 := #[true, false, true, false, true, false, true, false, true, true, true, false, false, false, false, false]) (by kernel_rfl) ?_ ?_
 exact ok1010101011100000
 refine ok_alt (l2 := #[true, false, true, false, true, false, true, false, true, true, false, true, false, false, false, false]) (by kernel_rfl) ?_ ?_
 exact ok1010101011010000
 exact ok_stop
 refine ok_have pl7_3_1010101010110000 9 #[true, false, true, false, true, false, true, false, true, false, true, true, false, false, false, false] ?_ (fun ok1010101010110000 => ?_)
 refine ok_any (by kernel_rfl) ?_
 refine ok_alt (l2 := #[true, true, true, false, true, false, true, false, true, false, true, true, false, false, false, false]) (by kernel_rfl) ?_ ?_
 exact ok1110101010110000
 refine ok_alt (l2 := #[true, false, true, false, true, false, true, false, true, true, true, true, false, false, false, false]) (by kernel_rfl) ?_ ?_
 exact ok1010101011110000
 exact ok_stop
 refine ok_have pl7_3_1010101010100000 10 #[true, false, true, false, true, false, true, false, true, false, true, false, false, false, false, false] ?_ (fun ok1010101010100000 => ?_)
 refine ok_any (by kernel_rfl) ?_
 refine ok_alt (l2 := #[true, true, true, false, true, false, true, false, true, false, true, false, false, false, false, false]) (by kernel_rfl) ?_ ?_
 exact ok1110101010100000
 refine ok_alt (l2 := #[true, false, true, false, true, false, true, false, true, true, true, false, false, false, false, false]) (by kernel_rfl) ?_ ?_
 exact ok1010101011100000
 refine ok_alt (l2 := #[true, false, true, false, true, false, true, false, true, false, true, true, false, false, false, false]) (by kernel_rfl) ?_ ?_
 exact ok1010101010110000
 exact ok_stop
 refine ok_have pl7_3_1010101010010000 10 #[true, false, true, false, true, false, true, false, true, false, false, true, false, false, false, false] ?_ (fun ok1010101010010000 => ?_)
 refine ok_any (by kernel_rfl) ?_
 refine ok_alt (l2 := #[true, true, true, false, true, false, true, false, true, false, false, true, false, false, false, false]) (by kernel_rfl) ?_ ?_
 exact ok1110101010010000
 refine ok_alt (l2 := #[true, false, true, false, true, false, true, false, true, true, false, true, false, false, false, false]) (by kernel_rfl) ?_ ?_
 exact ok1010101011010000
 refine ok_alt (l2 := #[true, false, true, false, true, false, true, false, true, false, true, true, false, false, false, false]) (by kernel_rfl) ?_ ?_
 exact ok1010101010110000
 exact ok_stop
 refine ok_have pl7_3_1010101001110000 9 #[true, false, true, false, true, false, true, false, false, true, true, true, false, false, false, false] ?_ (fun ok1010101001110000 => ?_)
 refine ok_any (by kernel_rfl) ?_
 refine ok_alt (l2 := #[true, true, true, false, true, false, true, false, false, true, true, true, false, false, false, false]) (by kernel_rfl) ?_ ?_
 exact ok1110101001110000
 refine ok_alt (l2 := #[true, false, true, false, true, false, true, false, true, true, true, true, false, false, false, false]) (by kernel_rfl) ?_ ?_
 exact ok1010101011110000
 exact ok_stop
 refine ok_have pl7_3_1010101001100000 10 #[true, false, true, false, true, false, true, false, false, true, true, false, false, false, false, false] ?_ (fun ok1010101001100000 => ?_)
 refine ok_any (by kernel_rfl) ?_
 refine ok_alt (l2 := #[true, true, true, false, true, false, true, false, false, true, true, false, false, false, false, false]) (by kernel_rfl) ?_ ?_
 exact ok1110101001100000
 refine ok_alt (l2 := #[true, false, true, false, true, false, true, false, true, true, true, false, false, false, false, false]) (by kernel_rfl) ?_ ?_
 exact ok1010101011100000
 refine ok_alt (l2 := #[true, false, true, false, true, false, true, false, false, true, true, true, false, false, false, false]) (by kernel_rfl) ?_ ?_
 exact ok1010101001110000
 exact ok_stop
 refine ok_have pl7_3_1010101001010000 10 #[true, false, true, false, true, false, true, false, false, true, false, true, false, false, false, false] ?_ (fun ok1010101001010000 => ?_)
 refine ok_any (by kernel_rfl) ?_
 refine ok_alt (l2 := #[true, true, true, false, true, false, true, false, false, true, false, true, false, false, false, false]) (by kernel_rfl) ?_ ?_
 exact ok1110101001010000
 refine ok_alt (l2 := #[true, false, true, false, true, false, true, false, true, true, false, true, false, false, false, false]) (by kernel_rfl) ?_ ?_
 exact ok1010101011010000
 refine ok_alt (l2 := #[true, false, true, false, true, false, true, false, false, true, true, true, false, false, false, false]) (by kernel_rfl) ?_ ?_
 exact ok1010101001110000
 exact ok_stop
 refine ok_have pl7_3_1010101000110000 10 #[true, false, true, false, true, false, true, false, false, false, true, true, false, false, false, false] ?_ (fun ok1010101000110000 => ?_)
 refine ok_any (by kernel_rfl) ?_
 refine ok_alt (l2 := #[true, true, true, false, true, false, true, false, false, false, true, true, false, false, false, false]) (by kernel_rfl) ?_ ?_
 exact ok1110101000110000
 refine ok_alt (l2 := #[true, false, true, false, true, false, true, false, true, false, true, true, false, false, false, false]) (by kernel_rfl) ?_ ?_
 exact ok1010101010110000
 refine ok_alt (l2 := #[true, false, true, false, true, false, true, false, false, true, true, true, false, false, false, false]) (by kernel_rfl) ?_ ?_
 exact ok1010101001110000
 exact ok_stop
 refine ok_ld (l2 := #[true, false, false, false, false, false, false, false, false, false, false, false, false, false, false, false]) (by kernel_rfl) (by kernel_rfl) ?_
 refine ok_ld (l2 := #[true, false, true, false, false, false, false, false, false, false, false, false, false, false, false, false]) (by kernel_rfl) (by kernel_rfl) ?_
 refine ok_ld (l2 := #[true, false, true, false, true, false, false, false, false, false, false, false, false, false, false, false]) (by kernel_rfl) (by kernel_rfl) ?_
 refine ok_ld (l2 := #[true, false, true, false, true, false, true, false, false, false, false, false, false, false, false, false]) (by kernel_rfl) (by kernel_rfl) ?_
 refine ok_any (by kernel_rfl) ?_
 refine ok_alt (l2 := #[true, true, true, false, true, false, true, false, false, false, false, false, false, false, false, false]) (by kernel_rfl) ?_ ?_
 refine ok_any (by kernel_rfl) ?_
 refine ok_alt (l2 := #[true, true, true, true, true, false, true, false, false, false, false, false, false, false, false, false]) (by kernel_rfl) ?_ ?_
 refine ok_any (by kernel_rfl) ?_
 refine ok_alt (l2 := #[true, true, true, true, true, true, true, false, false, false, false, false, false, false, false, false]) (by kernel_rfl) ?_ ?_
 refine ok_any (by kernel_rfl) ?_
 refine ok_alt (l2 := #[true, true, true, true, true, true, true, true, false, false, false, false, false, false, false, false]) (by kernel_rfl) ?_ ?_
 refine ok_any (by kernel_rfl) ?_
 refine ok_alt (l2 := #[true, true, true, true, true, true, true, true, true, false, false, false, false, false, false, false]) (by kernel_rfl) ?_ ?_
 exact ok1111111110000000
 refine ok_alt (l2 := #[true, true, true, true, true, true, true, true, false, true, false, false, false, false, false, false]) (by kernel_rfl) ?_ ?_
 exact ok1111111101000000
 refine ok_alt (l2 := #[true, true, true, true, true, true, true, true, false, false, true, false, false, false, false, false]) (by kernel_rfl) ?_ ?_
 exact ok1111111100100000
 refine ok_alt (l2 := #[true, true, true, true, true, true, true, true, false, false, false, true, false, false, false, false]) (by kernel_rfl) ?_ ?_
 exact ok1111111100010000
 exact ok_stop
 refine ok_alt (l2 := #[true, true, true, true, true, true, true, false, true, false, false, false, false, false, false, false]) (by kernel_rfl) ?_ ?_
 exact ok1111111010000000
 refine ok_alt (l2 := #[true, true, true, true, true, true, true, false, false, true, false, false, false, false, false, false]) (by kernel_rfl) ?_ ?_
 exact ok1111111001000000
 refine ok_alt (l2 := #[true, true, true, true, true, true, true, false, false, false, true, false, false, false, false, false]) (by kernel_rfl) ?_ ?_
 exact ok1111111000100000
 refine ok_alt (l2 := #[true, true, true, true, true, true, true, false, false, false, false, true, false, false, false, false]) (by kernel_rfl) ?_ ?_
 exact ok1111111000010000
 exact ok_stop
 refine ok_alt (l2 := #[true, true, true, true, true, false, true, false, true, false, false, false, false, false, false, false]) (by kernel_rfl) ?_ ?_
 exact ok1111101010000000
 refine ok_alt (l2 := #[true, true, true, true, true, false, true, false, false, true, false, false, false, false, false, false]) (by kernel_rfl) ?_ ?_
 exact ok1111101001000000
 refine ok_alt (l2 := #[true, true, true, true, true, false, true, false, false, false, true, false, false, false, false, false]) (by kernel_rfl) ?_ ?_
 exact ok1111101000100000
 refine ok_alt (l2 := #[true, true, true, true, true, false, true, false, false, false, false, true, false, false, false, false]) (by kernel_rfl) ?_ ?_
 exact ok1111101000010000
 exact ok_stop
 refine ok_alt (l2 := #[true, true, true, false, true, false, true, false, true, false, false, false, false, false, false, false]) (by kernel_rfl) ?_ ?_
 exact ok1110101010000000
 refine ok_alt (l2 := #[true, true, true, false, true, false, true, false, false, true, false, false, false, false, false, false]) (by kernel_rfl) ?_ ?_
 exact ok1110101001000000
 refine ok_alt (l2 := #[true, true, true, false, true, false, true, false, false, false, true, false, false, false, false, false]) (by kernel_rfl) ?_ ?_
 exact ok1110101000100000
 refine ok_alt (l2 := #[true, true, true, false, true, false, true, false, false, false, false, true, false, false, false, false]) (by kernel_rfl) ?_ ?_
 exact ok1110101000010000
 exact ok_stop
 refine ok_alt (l2 := #[true, false, true, false, true, false, true, false, true, false, false, false, false, false, false, false]) (by kernel_rfl) ?_ ?_
 refine ok_any (by kernel_rfl) ?_
 refine ok_alt (l2 := #[true, true, true, false, true, false, true, false, true, false, false, false, false, false, false, false]) (by kernel_rfl) ?_ ?_
 exact ok1110101010000000
 refine ok_alt (l2 := #[true, false, true, false, true, false, true, false, true, true, false, false, false, false, false, false]) (by kernel_rfl) ?_ ?_
 exact ok1010101011000000
 refine ok_alt (l2 := #[true, false, true, false, true, false, true, false, true, false, true, false, false, false, false, false]) (by kernel_rfl) ?_ ?_
 exact ok1010101010100000
 refine ok_alt (l2 := #[true, false, true, false, true, false, true, false, true, false, false, true, false, false, false, false]) (by kernel_rfl) ?_ ?_
 exact ok1010101010010000
 exact ok_stop
 refine ok_alt (l2 := #[true, false, true, false, true, false, true, false, false, true, false, false, false, false, false, false]) (by kernel_rfl) ?_ ?_
 refine ok_any (by kernel_rfl) ?_
 refine ok_alt (l2 := #[true, true, true, false, true, false, true, false, false, true, false, false, false, false, false, false]) (by kernel_rfl) ?_ ?_
 exact ok1110101001000000
 refine ok_alt (l2 := #[true, false, true, false, true, false, true, false, true, true, false, false, false, false, false, false]) (by kernel_rfl) ?_ ?_
 exact ok1010101011000000
 refine ok_alt (l2 := #[true, false, true, false, true, false, true, false, false, true, true, false, false, false, false, false]) (by kernel_rfl) ?_ ?_
 exact ok1010101001100000
 refine ok_alt (l2 := #[true, false, true, false, true, false, true, false, false, true, false, true, false, false, false, false]) (by kernel_rfl) ?_ ?_
 exact ok1010101001010000
 exact ok_stop
 refine ok_alt (l2 := #[true, false, true, false, true, false, true, false, false, false, true, false, false, false, false, false]) (by kernel_rfl) ?_ ?_
 refine ok_any (by kernel_rfl) ?_
 refine ok_alt (l2 := #[true, true, true, false, true, false, true, false, false, false, true, false, false, false, false, false]) (by kernel_rfl) ?_ ?_
 exact ok1110101000100000
 refine ok_alt (l2 := #[true, false, true, false, true, false, true, false, true, false, true, false, false, false, false, false]) (by kernel_rfl) ?_ ?_
 exact ok1010101010100000
 refine ok_alt (l2 := #[true, false, true, false, true, false, true, false, false, true, true, false, false, false, false, false]) (by kernel_rfl) ?_ ?_
 exact ok1010101001100000
 refine ok_alt (l2 := #[true, false, true, false, true, false, true, false, false, false, true, true, false, false, false, false]) (by kernel_rfl) ?_ ?_
 exact ok1010101000110000
 exact ok_stop
 refine ok_alt (l2 := #[true, false, true, false, true, false, true, false, false, false, false, true, false, false, false, false]) (by kernel_rfl) ?_ ?_
 refine ok_any (by kernel_rfl) ?_
 refine ok_alt (l2 := #[true, true, true, false, true, false, true, false, false, false, false, true, false, false, false, false]) (by kernel_rfl) ?_ ?_
 exact ok1110101000010000
 refine ok_alt (l2 := #[true, false, true, false, true, false, true, false, true, false, false, true, false, false, false, false]) (by kernel_rfl) ?_ ?_
 exact ok1010101010010000
 refine ok_alt (l2 := #[true, false, true, false, true, false, true, false, false, true, false, true, false, false, false, false]) (by kernel_rfl) ?_ ?_
 exact ok1010101001010000
 refine ok_alt (l2 := #[true, false, true, false, true, false, true, false, false, false, true, true, false, false, false, false]) (by kernel_rfl) ?_ ?_
 exact ok1010101000110000
 exact ok_stop
 exact ok_stop
 refine ld rfl rfl (lhA [_, _, _] ag25 rfl rfl rfl) rfl ?_
 refine ld rfl rfl (lhA [_, _, _] ag28 rfl rfl rfl) rfl ?_
 refine ld rfl rfl (lhA [_, _, _] ag25 rfl rfl rfl) rfl ?_
 refine ld rfl rfl (lhA [_, _, _] ag28 rfl rfl rfl) rfl ?_
 refine sy_have (β := Option Addr × Nat × Option Addr × Nat × Option Addr × Nat × Option Addr × Nat × Nat × Nat × Nat × Nat) pl7_3_1111111111110000 (fun ⟨a1, c1, a2, c2, a3, c3, a4, c4, b7, b8, b9, b10⟩ => ([(10, .pointer (some ⟨b10, 0, none⟩)), (9, .pointer (some ⟨b9, 0, none⟩)), (8, .pointer (some ⟨b8, 0, none⟩)), (7, .pointer (some ⟨b7, 0, none⟩)), (34, c.v (c.sl a4 c4)), (32, g.v (g.sl a3 c3)), (30, c.v (c.sl a2 c2)), (28, g.v (g.sl a1 c1)), (2, .int .i64 k), (3, .pointer (some ⟨b3, 0, none⟩)), (4, .pointer (some ⟨b4, 0, none⟩)), (27, g.v (g.sl ag cg)), (29, c.v (c.sl ah ch)), (31, g.v (g.sl ag cg)), (33, c.v (c.sl ah ch))], (b10, cel 63 ([.int .i64 0, .int .i64 0, .slice none 0 0])) :: (b9, cel 59 ([.int .i64 0, .int .i64 0, .slice none 0 0])) :: (b8, cel 28 ([.int .i64 0, .int .i64 0, .slice none 0 0])) :: (b7, cel 25 ([.int .i64 0, .int .i64 0, .slice none 0 0])) :: (b4, cel 28 (ctl c (c.sl ah ch))) :: (b3, cel 25 (gtl g (g.sl ag cg))) :: H, RowsA a4 5 (hrows c.hs) :: RowsA a3 5 (grows g.grs) :: RowsA a2 5 (hrows c.hs) :: RowsA a1 5 (grows g.grs) :: R, [])) (fun v9 => ?_) (fun h1111111111110000 => ?_)
 obtain ⟨a1, c1, a2, c2, a3, c3, a4, c4, b7, b8, b9, b10⟩ := v9
 dsimp only
 unfold pl7_3_1111111111110000
 refine sto rfl rfl rfl cn25 rfl rfl rfl rfl ?_
 refine bg (fun w hs => trivial) ?_
 refine sto rfl rfl rfl cn28 rfl rfl rfl rfl ?_
 refine bg (fun w hs => trivial) ?_
 refine sto rfl rfl rfl cn59 rfl rfl rfl rfl ?_
 refine bg (fun w hs => trivial) ?_
 refine sto rfl rfl rfl cn63 rfl rfl rfl rfl ?_
 refine bg (fun w hs => trivial) ?_
 refine sy_seq ?_
 refine sy_tx' [0, 1, 2, 3] rfl ?_
 refine spL rfl rfl (lhA [_, _, _] ag59 rfl rfl rfl) rfl ?_
 refine spL rfl rfl (lhA [_, _, _] ag63 rfl rfl rfl) rfl ?_
 refine clV rfl cal29 rfl rfl (c_rBoth g a3 c3 (by omega) c a4 c4 (by omega) _ _) ?_
 refine sp rfl (PE.assign rfl) rfl ?_
 refine sy_seq ?_
 refine sy_tx' [0, 1] rfl ?_
 refine sp rfl (PE.move rfl) rfl ?_
 refine sp rfl (PE.assign rfl) rfl ?_
 refine sy_seq ?_
 refine sy_tx' [0] rfl ?_
 refine alc rfl zl94 rfl (fun b13 => ?_)
 refine sy_seq ?_
 refine sy_tx' [0] rfl ?_
 refine alc rfl zl41 rfl (fun b14 => ?_)
 refine sy_seq ?_
 refine sy_seq ?_
 refine sy_tx' [0, 1] rfl ?_
 refine sp rfl (PE.move rfl) rfl ?_
 refine sp rfl (PE.eql rfl rfl) rfl ?_
 refine sy_join (ι := Unit) (fun _ => ⟨[(2, .int .i64 k), (3, .pointer (some ⟨b3, 0, none⟩)), (4, .pointer (some ⟨b4, 0, none⟩)), (7, .pointer (some ⟨b7, 0, none⟩)), (8, .pointer (some ⟨b8, 0, none⟩)), (9, .pointer (some ⟨b9, 0, none⟩)), (10, .pointer (some ⟨b10, 0, none⟩)), (13, .pointer (some ⟨b13, 0, none⟩)), (14, .pointer (some ⟨b14, 0, none⟩)), (11, .int .i64 (toldE g c false)), (12, .int .i64 (toldE g c (!(inb k 0 3))))], (b14, cel 41 [.int .i64 (wgtP g c k).1, .int .i64 (wgtP g c k).2]) :: (b13, cel 94 (ints (bndB g c))) :: (b10, cel 63 (ctl c (c.sl a4 c4))) :: (b9, cel 59 (gtl g (g.sl a3 c3))) :: (b8, cel 28 (ctl c (c.sl a2 c2))) :: (b7, cel 25 (gtl g (g.sl a1 c1))) :: (b4, cel 28 (ctl c (c.sl ah ch))) :: (b3, cel 25 (gtl g (g.sl ag cg))) :: H, RowsA a4 5 (hrows c.hs) :: RowsA a3 5 (grows g.grs) :: RowsA a2 5 (hrows c.hs) :: RowsA a1 5 (grows g.grs) :: R⟩) ?_ ?_
 refine sy_cond rfl (fun hc1 => ?_) (fun hc1 => ?_)
 have hw0 : bothE g c = 0 := by simpa using hc1
 obtain ⟨hgo, hco⟩ := both_ok hw0
 refine sy_seq ?_
 refine sy_tx' [0, 1, 2, 3, 4, 5] rfl ?_
 refine spL rfl rfl (lhA [_, _, _] ag59 rfl rfl rfl) rfl ?_
 refine spL rfl rfl (lhA [_, _, _] ag63 rfl rfl rfl) rfl ?_
 refine cl rfl cal30 rfl rfl (c_All g hgo.miss (g.sl a3 c3) c hco a4 c4 _ _) ?_
 rintro _ _ R1 ⟨ms, bq, aa, cc, hms, hml, rfl, rfl, hR1⟩
 obtain rfl := hR1.symm
 clear hR1
 refine Sy.heap (fun w h => St.also h (f := RowsA (aa 0) 4 (mrows (partS g.miss c.hs ms 0))) (fun w' hg => hg (fun w => ∀ s < 64, RowsA (aa s) 4 (mrows (partS g.miss c.hs ms s)) w) (by simp) 0 (by decide))) ?_
 obtain ⟨l, hl⟩ : ∃ l, l = partS g.miss c.hs ms 0 := ⟨_, rfl⟩
 obtain ⟨hl1, hl2, hl3, hl4⟩ := all_link hw0 hms hl
 refine sp rfl (PE.indexAddr el67 rfl rfl (by omega) (by omega)) rfl ?_
 refine spL rfl rfl (lf0 (x := .slice (aa 0) (partS g.miss c.hs ms 0).length (cc 0)) sc66 (by rfl) rfl) rfl ?_
 refine sp rfl (PE.assign rfl) rfl ?_
 refine sy_seq ?_
 refine sy_seq ?_
 refine sy_tx' [0] rfl ?_
 rw [← hl]
 refine sp rfl (PE.assign rfl) rfl ?_
 refine sy_seq ?_
 refine sy_tx' [0, 1, 2] rfl ?_
 refine sp rfl (PE.move rfl) rfl ?_
 refine sp rfl (PE.lenSl isl66 rfl) rfl ?_
 refine sp rfl (PE.gtr rfl rfl) rfl ?_
 refine sy_join (ι := Unit) (fun _ => ⟨[(2, .int .i64 k), (3, .pointer (some ⟨b3, 0, none⟩)), (4, .pointer (some ⟨b4, 0, none⟩)), (7, .pointer (some ⟨b7, 0, none⟩)), (8, .pointer (some ⟨b8, 0, none⟩)), (9, .pointer (some ⟨b9, 0, none⟩)), (10, .pointer (some ⟨b10, 0, none⟩)), (13, .pointer (some ⟨b13, 0, none⟩)), (14, .pointer (some ⟨b14, 0, none⟩)), (11, .int .i64 (toldE g c false))], (b14, cel 41 [.int .i64 0, .int .i64 0]) :: (b13, cel 94 (ints (bndB g c))) :: (b10, cel 63 (ctl c (c.sl a4 c4))) :: (b9, cel 59 (gtl g (g.sl a3 c3))) :: (b8, cel 28 (ctl c (c.sl a2 c2))) :: (b7, cel 25 (gtl g (g.sl a1 c1))) :: (b4, cel 28 (ctl c (c.sl ah ch))) :: (b3, cel 25 (gtl g (g.sl ag cg))) :: H, RowsA a4 5 (hrows c.hs) :: RowsA a3 5 (grows g.grs) :: RowsA a2 5 (hrows c.hs) :: RowsA a1 5 (grows g.grs) :: R⟩) ?_ ?_
 refine sy_cond rfl (fun hc2 => ?_) (fun hc2 => ?_)
 try simp only [decide_eq_true_eq, decide_eq_false_iff_not, Bool.and_eq_true, Bool.or_eq_true, Bool.not_eq_true', Int.not_le, Int.not_lt] at hc2
 obtain ⟨ht0, htt, hmm⟩ := hl3 (by omega)
 have hbr := bnd_ref htt hmm (by omega)
 refine sy_tx' [0, 1, 2, 3] rfl ?_
 refine sp rfl (PE.move rfl) rfl ?_
 refine cl rfl cal48 rfl rfl (c_rBounds l hl1 (by omega) (by omega) (aa 0) (cc 0) _ _ (hA := (by rw [hl]; infer_instance))) ?_
 rintro _ _ _ ⟨rfl, rfl, rfl⟩
 rw [hbr]
 refine sp rfl (PE.assign rfl) rfl ?_
 refine stoA rfl rfl rfl cn94 rfl (by rw [ints_length]; exact bnd_len g c) rfl (ints_one _) ?_
 exact sy_jend () (by dsimp only; rw [ht0]; exact (by repeat' first | exact Sub.nil | apply Sub.cons | rfl | (simp [lk]; omega))) (fun w h => St.sub (by dsimp only; exact h))
 try simp only [decide_eq_true_eq, decide_eq_false_iff_not, Bool.and_eq_true, Bool.or_eq_true, Bool.not_eq_true', Int.not_le, Int.not_lt] at hc2
 have ht0 := hl4 (by omega)
 obtain ⟨eb, _⟩ := bnd_err (g := g) (c := c) (by rw [ht0]; decide)
 refine sy_skip ?_
 exact sy_jend () (by dsimp only; rw [ht0]; exact (by repeat' first | exact Sub.nil | apply Sub.cons | rfl | (simp [lk]; omega))) (fun w h => St.sub (by dsimp only; rw [eb]; exact h))
 rintro ⟨⟩
 dsimp only
 refine sy_seq ?_
 refine sy_tx' [0] rfl ?_
 refine sp rfl (PE.assign rfl) rfl ?_
 refine sy_seq ?_
 refine sy_tx' [0, 1, 2, 3, 4, 5] rfl ?_
 refine sp rfl (PE.move rfl) rfl ?_
 refine sp rfl (PE.geq rfl rfl) rfl ?_
 refine sp rfl (PE.move rfl) rfl ?_
 refine sy_case (t := 53) rfl (fun g53 => ?_) (fun g53 => ?_)
 try simp only [decide_eq_true_eq, decide_eq_false_iff_not, Bool.and_eq_true, Bool.or_eq_true, Bool.not_eq_true', Int.not_le, Int.not_lt] at g53
 refine spG rfl rfl rfl rfl (PE.move rfl) rfl ?_
 refine spG rfl rfl rfl rfl (PE.leq rfl rfl) rfl ?_
 refine sp rfl (PE.pick rfl rfl rfl) rfl ?_
 refine sy_join (ι := Unit) (fun _ => ⟨[(2, .int .i64 k), (3, .pointer (some ⟨b3, 0, none⟩)), (4, .pointer (some ⟨b4, 0, none⟩)), (7, .pointer (some ⟨b7, 0, none⟩)), (8, .pointer (some ⟨b8, 0, none⟩)), (9, .pointer (some ⟨b9, 0, none⟩)), (10, .pointer (some ⟨b10, 0, none⟩)), (13, .pointer (some ⟨b13, 0, none⟩)), (14, .pointer (some ⟨b14, 0, none⟩)), (11, .int .i64 (toldE g c false)), (12, .int .i64 (toldE g c (!(inb k 0 3))))], (b14, cel 41 [.int .i64 (wgtP g c k).1, .int .i64 (wgtP g c k).2]) :: (b13, cel 94 (ints (bndB g c))) :: (b10, cel 63 (ctl c (c.sl a4 c4))) :: (b9, cel 59 (gtl g (g.sl a3 c3))) :: (b8, cel 28 (ctl c (c.sl a2 c2))) :: (b7, cel 25 (gtl g (g.sl a1 c1))) :: (b4, cel 28 (ctl c (c.sl ah ch))) :: (b3, cel 25 (gtl g (g.sl ag cg))) :: H, RowsA a4 5 (hrows c.hs) :: RowsA a3 5 (grows g.grs) :: RowsA a2 5 (hrows c.hs) :: RowsA a1 5 (grows g.grs) :: R⟩) ?_ ?_
 refine sy_cond rfl (fun hc3 => ?_) (fun hc3 => ?_)
 try simp only [decide_eq_true_eq, decide_eq_false_iff_not, Bool.and_eq_true, Bool.or_eq_true, Bool.not_eq_true', Int.not_le, Int.not_lt] at hc3
 obtain ⟨q, rfl⟩ : ∃ q : Nat, k = q := ⟨k.toNat, by omega⟩
 have hq4 : q < 4 := by omega
 refine sy_seq ?_
 refine sy_tx' [0, 1] rfl ?_
 refine sp rfl (PE.move rfl) rfl ?_
 refine sp rfl (PE.assign rfl) rfl ?_
 refine sy_seq ?_
 refine sy_tx' [0, 1] rfl ?_
 refine sp rfl (PE.move rfl) rfl ?_
 refine sp rfl (PE.eql rfl rfl) rfl ?_
 refine sy_cond rfl (fun hc4 => ?_) (fun hc4 => ?_)
 try simp only [decide_eq_true_eq, decide_eq_false_iff_not, Bool.and_eq_true, Bool.or_eq_true, Bool.not_eq_true', Int.not_le, Int.not_lt] at hc4
 have ht0 : toldE g c false = 0 := by omega
 obtain ⟨e1, e2⟩ := wgt_ok hq4 ht0
 obtain ⟨_, bb, _, _, ebb, htt⟩ := told_0 ht0
 have hbq := (ebb ▸ htt).ok.at_ q hq4
 obtain ⟨hv1, hv2⟩ := net_bd hgo hco
 have hfq := (ebb ▸ htt).fit q hq4
 have hm1 := mul_b hv1.1 hv1.2 (show 0 ≤ bl (bndB g c) q by omega) (show bl (bndB g c) q ≤ 40 by omega)
 have hm2 := mul_b hv2.1 hv2.2 (show 0 ≤ bh (bndB g c) q by omega) (show bh (bndB g c) q ≤ 40 by omega)
 refine sy_seq ?_
 refine sy_tx' [0, 1, 2, 3, 4] rfl ?_
 refine spL rfl rfl (lhA [_, _, _] ag59 rfl rfl rfl) rfl ?_
 refine spL rfl rfl (lhA [_, _, _] ag63 rfl rfl rfl) rfl ?_
 refine clV rfl cal49 rfl rfl (c_rNet g hgo (g.sl a3 c3) c hco (c.sl a4 c4) _ _) ?_
 refine alc rfl zl41 rfl (fun b16 => ?_)
 refine sto rfl rfl rfl cn41 rfl rfl rfl rfl ?_
 refine sy_draw [0, 1, 0, 4, 12, 28, 63, 127, 0, 256, 0, 1024, 3072, 7168, 16128, 32512, 65535, 131071] (.tk 0 (.ld 1 (.tk 2 (.tk 3 (.tk 4 (.ld 5 (.tk 6 (.tk 7 (.tk 8 (.ld 9 (.tk 10 (.tk 11 (.tk 12 (.ld 13 (.tk 14 (.tk 15 (.tk 16 (.big 17 .done)))))))))))))))))) mixed (by kernel_rfl) ?_
 refine tk rfl (PE.fieldAddr fo41_0 rfl) rfl ?_
 refine ld rfl rfl (lh sc3 rfl rfl) rfl ?_
 refine tk rfl (PE.move rfl) rfl ?_
 refine tk rfl (PE.indexArr ar94 rfl rfl (by omega) (by omega)) rfl ?_
 refine tk rfl (PE.fieldAddr fo41_0 rfl) rfl ?_
 refine ld rfl rfl (lh sc3 rfl (bx_lo (bnd_len g c) hq4)) rfl ?_
 refine tk rfl (PE.mul rfl rfl (by omega)) rfl ?_
 refine tk rfl (PE.quo rfl rfl (by omega)) rfl ?_
 refine tk rfl (PE.fieldAddr fo41_1 rfl) rfl ?_
 refine ld rfl rfl (lh sc3 rfl rfl) rfl ?_
 refine tk rfl (PE.move rfl) rfl ?_
 refine tk rfl (PE.indexArr ar94 rfl rfl (by omega) (by omega)) rfl ?_
 refine tk rfl (PE.fieldAddr fo41_1 rfl) rfl ?_
 refine ld rfl rfl (lh sc3 rfl (bx_hi (bnd_len g c) hq4)) rfl ?_
 refine tk rfl (PE.mul rfl rfl (by omega)) rfl ?_
 refine tk rfl (PE.quo rfl rfl (by omega)) rfl ?_
 refine tk rfl (PE.build (out := [_, _]) pl41 zl41 rfl rfl) rfl ?_
 refine sto rfl rfl rfl cn41 rfl rfl rfl rfl ?_
 refine bg (fun w hs => ⟨trivial, trivial, trivial, trivial, trivial⟩) ?_
 exact sy_jend () (by dsimp only; rw [e1, ht0]; exact (by repeat' first | exact Sub.nil | apply Sub.cons | rfl | (simp [lk]; omega))) (fun w h => by dsimp only; rw [e2]; exact h.del b16)
 try simp only [decide_eq_true_eq, decide_eq_false_iff_not, Bool.and_eq_true, Bool.or_eq_true, Bool.not_eq_true', Int.not_le, Int.not_lt] at hc4
 have ht0 : toldE g c false ≠ 0 := by omega
 have hik : inb (q : Int) 0 3 = true := by simp [inb]; omega
 have e1 : toldE g c (!(inb (q : Int) 0 3)) = toldE g c false := by rw [hik]; rfl
 have e2 := wgt_err (g := g) (c := c) (k := q) (by rw [e1]; exact ht0)
 refine sy_skip ?_
 exact sy_jend () (by dsimp only; rw [e1]; exact (by repeat' first | exact Sub.nil | apply Sub.cons | rfl | (simp [lk]; omega))) (fun w h => St.sub (by dsimp only; rw [e2]; exact h))
 try simp only [decide_eq_true_eq, decide_eq_false_iff_not, Bool.and_eq_true, Bool.or_eq_true, Bool.not_eq_true', Int.not_le, Int.not_lt] at hc3
 have hik : inb k 0 3 = false := by simp [inb]; omega
 have e1 : toldE g c (!(inb k 0 3)) = 1 := by rw [hik]; exact told_one hw0
 have e2 := wgt_err (g := g) (c := c) (k := k) (by rw [e1]; decide)
 refine sy_skip ?_
 exact sy_jend () (by dsimp only; rw [e1]; exact (by repeat' first | exact Sub.nil | apply Sub.cons | rfl | (simp [lk]; omega))) (fun w h => St.sub (by dsimp only; rw [e2]; exact h))
 rintro ⟨⟩
 dsimp only
 exact sy_jend () (by dsimp only; exact (by repeat' first | exact Sub.nil | apply Sub.cons | rfl | (simp [lk]; omega))) (fun w h => St.sub (by dsimp only; exact h))
 try simp only [decide_eq_true_eq, decide_eq_false_iff_not, Bool.and_eq_true, Bool.or_eq_true, Bool.not_eq_true', Int.not_le, Int.not_lt] at g53
 have hik : inb k 0 3 = false := by simp [inb]; omega
 have e1 : toldE g c (!(inb k 0 3)) = 1 := by rw [hik]; exact told_one hw0
 have e2 := wgt_err (g := g) (c := c) (k := k) (by rw [e1]; decide)
 repeat refine spN rfl rfl rfl rfl rfl rfl rfl rfl ?_
 refine sp rfl (PE.pick rfl rfl rfl) rfl ?_
 refine sy_join (ι := Unit) (fun _ => ⟨[(2, .int .i64 k), (3, .pointer (some ⟨b3, 0, none⟩)), (4, .pointer (some ⟨b4, 0, none⟩)), (7, .pointer (some ⟨b7, 0, none⟩)), (8, .pointer (some ⟨b8, 0, none⟩)), (9, .pointer (some ⟨b9, 0, none⟩)), (10, .pointer (some ⟨b10, 0, none⟩)), (13, .pointer (some ⟨b13, 0, none⟩)), (14, .pointer (some ⟨b14, 0, none⟩)), (11, .int .i64 (toldE g c false)), (12, .int .i64 (toldE g c (!(inb k 0 3))))], (b14, cel 41 [.int .i64 (wgtP g c k).1, .int .i64 (wgtP g c k).2]) :: (b13, cel 94 (ints (bndB g c))) :: (b10, cel 63 (ctl c (c.sl a4 c4))) :: (b9, cel 59 (gtl g (g.sl a3 c3))) :: (b8, cel 28 (ctl c (c.sl a2 c2))) :: (b7, cel 25 (gtl g (g.sl a1 c1))) :: (b4, cel 28 (ctl c (c.sl ah ch))) :: (b3, cel 25 (gtl g (g.sl ag cg))) :: H, RowsA a4 5 (hrows c.hs) :: RowsA a3 5 (grows g.grs) :: RowsA a2 5 (hrows c.hs) :: RowsA a1 5 (grows g.grs) :: R⟩) ?_ ?_
 refine sy_condF rfl ?_
 refine sy_skip ?_
 exact sy_jend () (by dsimp only; rw [e1]; exact (by repeat' first | exact Sub.nil | apply Sub.cons | rfl | (simp [lk]; omega))) (fun w h => St.sub (by dsimp only; rw [e2]; exact h))
 rintro ⟨⟩
 dsimp only
 exact sy_jend () (by dsimp only; exact (by repeat' first | exact Sub.nil | apply Sub.cons | rfl | (simp [lk]; omega))) (fun w h => St.sub (by dsimp only; exact h))
 have hw0 : bothE g c ≠ 0 := by simpa using hc1
 have ht0 := told_err hw0 false
 have htk := told_err hw0 (!(inb k 0 3))
 obtain ⟨eb, _⟩ := bnd_err (g := g) (c := c) (by rw [ht0]; exact hw0)
 have ew := wgt_err (g := g) (c := c) (k := k) (by rw [htk]; exact hw0)
 refine sy_skip ?_
 exact sy_jend () (by dsimp only; rw [ht0, htk]; exact (by repeat' first | exact Sub.nil | apply Sub.cons | rfl | (simp [lk]; omega))) (fun w h => St.sub (by dsimp only; rw [ew, eb]; exact h))
 rintro ⟨⟩
 dsimp only
 refine sy_seq ?_
 refine sy_tx' [0, 1, 2, 3, 4, 5, 6, 7, 8] rfl ?_
 refine spL rfl rfl (lhA [_, _, _] ag25 rfl rfl rfl) rfl ?_
 refine spL rfl rfl (lhA [_, _, _] ag28 rfl rfl rfl) rfl ?_
 refine cl rfl cal50 rfl rfl (c_Bounds g a1 c1 (by omega) c a2 c2 (by omega) _ _) ?_
 rintro _ _ _ ⟨rfl, rfl, rfl⟩
 refine sp rfl (PE.move rfl) rfl ?_
 refine sp rfl (PE.extract rfl rfl) rfl ?_
 refine sp rfl (PE.extract rfl rfl) rfl ?_
 refine alc rfl zl94 rfl (fun b17 => ?_)
 refine stoA rfl rfl rfl cn94 rfl (by rw [ints_length]; exact bnd_len g c) rfl (ints_one _) ?_
 refine sp rfl (PE.assign rfl) rfl ?_
 refine sy_seq ?_
 refine sy_tx' [0, 1, 2, 3, 4, 5, 6, 7, 8] rfl ?_
 refine spL rfl rfl (lhA [_, _, _] ag25 rfl rfl rfl) rfl ?_
 refine spL rfl rfl (lhA [_, _, _] ag28 rfl rfl rfl) rfl ?_
 refine cl rfl cal51 rfl rfl (c_Mixture g a1 c1 (by omega) c a2 c2 (by omega) _ _) ?_
 rintro _ _ _ ⟨rfl, rfl, rfl⟩
 refine sp rfl (PE.move rfl) rfl ?_
 refine sp rfl (PE.extract rfl rfl) rfl ?_
 refine sp rfl (PE.extract rfl rfl) rfl ?_
 refine alc rfl zl29 rfl (fun b19 => ?_)
 refine stoA rfl rfl rfl cn29 rfl (by rw [ints_length]; exact mixP_len g c) rfl (ints_one _) ?_
 refine sp rfl (PE.assign rfl) rfl ?_
 refine sy_seq ?_
 refine sy_tx' [0, 1, 2, 3, 4, 5, 6, 7, 8, 9] rfl ?_
 refine spL rfl rfl (lhA [_, _, _] ag25 rfl rfl rfl) rfl ?_
 refine spL rfl rfl (lhA [_, _, _] ag28 rfl rfl rfl) rfl ?_
 refine sp rfl (PE.move rfl) rfl ?_
 refine cl rfl cal23 rfl rfl (c_Weight g a1 c1 (by omega) c a2 c2 (by omega) k _ _) ?_
 rintro _ _ _ ⟨rfl, rfl, rfl⟩
 rw [wgtR_eq]
 refine sp rfl (PE.move rfl) rfl ?_
 refine sp rfl (PE.extract rfl rfl) rfl ?_
 refine sp rfl (PE.extract rfl rfl) rfl ?_
 refine alc rfl zl41 rfl (fun b21 => ?_)
 refine sto rfl rfl rfl cn41 rfl rfl rfl rfl ?_
 refine sp rfl (PE.assign rfl) rfl ?_
 refine sy_seq ?_
 refine sy_seq ?_
 refine sy_tx' [0, 1, 2, 3, 4, 5, 6, 7, 8, 9, 10, 11, 12, 13, 14, 15, 16, 17, 18, 19, 20, 21, 22] rfl ?_
 refine sp rfl (PE.move rfl) rfl ?_
 refine sp rfl (PE.move rfl) rfl ?_
 refine sp rfl (PE.neq rfl rfl) rfl ?_
 refine sp rfl (PE.move rfl) rfl ?_
 refine sy_case (t := 102) rfl (fun g102 => ?_) (fun g102 => ?_)
 exact absurd g102 (by simp)
 refine spG rfl rfl rfl rfl (PE.move rfl) rfl ?_
 refine spG rfl rfl rfl rfl (PE.move rfl) rfl ?_
 refine spG rfl rfl rfl rfl (PE.neq rfl rfl) rfl ?_
 refine sp rfl (PE.pick rfl rfl rfl) rfl ?_
 refine sp rfl (PE.move rfl) rfl ?_
 refine sy_case (t := 107) rfl (fun g107 => ?_) (fun g107 => ?_)
 exact absurd g107 (by simp)
 refine spG rfl rfl rfl rfl (PE.move rfl) rfl ?_
 refine spG rfl rfl rfl rfl (PE.move rfl) rfl ?_
 refine spG rfl rfl rfl rfl (PE.neq rfl rfl) rfl ?_
 refine sp rfl (PE.pick rfl rfl rfl) rfl ?_
 refine sp rfl (PE.move rfl) rfl ?_
 refine sy_case (t := 112) rfl (fun g112 => ?_) (fun g112 => ?_)
 exact absurd g112 (by simp)
 refine spLG rfl rfl rfl rfl rfl (lhA (ints (bndB g c)) ag94 rfl (rest := []) (by rw [List.append_nil]; rfl) (by rw [ints_length]; exact bnd_len g c)) rfl ?_
 refine spLG rfl rfl rfl rfl rfl (lhA (ints (bndB g c)) ag94 rfl (rest := []) (by rw [List.append_nil]; rfl) (by rw [ints_length]; exact bnd_len g c)) rfl ?_
 refine spG rfl rfl rfl rfl (PE.neqAgg (bndB g c) (bndB g c) (eqB_ok 10000 94 true 8 eqf94) eqg94 rfl rfl (bnd_len g c) (bnd_len g c)) rfl ?_
 refine sp rfl (PE.pick rfl rfl rfl) rfl ?_
 refine sp rfl (PE.move rfl) rfl ?_
 refine sy_case (t := 117) rfl (fun g117 => ?_) (fun g117 => ?_)
 exact absurd g117 (by simp)
 refine spLG rfl rfl rfl rfl rfl (lhA [_, _] ag41 rfl rfl rfl) rfl ?_
 refine spLG rfl rfl rfl rfl rfl (lhA [_, _] ag41 rfl rfl rfl) rfl ?_
 refine spG rfl rfl rfl rfl (PE.neqAgg [(wgtP g c k).1, (wgtP g c k).2] [(wgtP g c k).1, (wgtP g c k).2] (eqB_ok 10000 41 true 2 eqf41) eqg41 rfl rfl rfl rfl) rfl ?_
 refine sp rfl (PE.pick rfl rfl rfl) rfl ?_
 refine sy_cond rfl (fun hc5 => ?_) (fun hc5 => ?_)
 exact absurd hc5 (by first | (simp; done) | (rw [decide_eq_false (by omega)]; simp))
 refine sy_skip ?_
 refine sy_seq ?_
 refine sy_seq ?_
 refine sy_tx' [0, 1] rfl ?_
 refine sp rfl (PE.move rfl) rfl ?_
 refine sp rfl (PE.neq rfl rfl) rfl ?_
 refine sy_cond rfl (fun hc6 => ?_) (fun hc6 => ?_)
 try simp only [decide_eq_true_eq, decide_eq_false_iff_not, Bool.and_eq_true, Bool.or_eq_true, Bool.not_eq_true', Int.not_le, Int.not_lt] at hc6
 obtain ⟨_, em⟩ := bnd_err (g := g) (c := c) (by omega)
 rw [em]
 refine sy_seq ?_
 refine sy_tx' [0, 1, 2, 3, 4, 5, 6] rfl ?_
 refine spL rfl rfl (lhA (ints ([0, 0, 0, 0])) ag29 rfl (rest := []) (by rw [List.append_nil]; rfl) (by rw [ints_length]; exact rfl)) rfl ?_
 refine sp rfl (PE.zero (.inr (by rw [ar29]; rfl)) zl29) rfl ?_
 refine sp rfl (PE.eqlAgg [0, 0, 0, 0] [0, 0, 0, 0] (eqB_ok 10000 29 true 4 eqf29) eqg29 rfl rfl rfl rfl) rfl ?_
 refine sp rfl (PE.move rfl) rfl ?_
 refine sy_case (t := 127) rfl (fun g127 => ?_) (fun g127 => ?_)
 refine clVG rfl rfl rfl rfl cal22 rfl rfl (c_awake _ _) ?_
 refine sp rfl (PE.pick rfl rfl rfl) rfl ?_
 refine sp rfl (PE.assign rfl) rfl ?_
 refine sy_ret ?_
 exact sy_return (vs := [_]) rfl (.cons (RV.tmp rfl) .nil) rfl ⟨rfl, rfl, rfl⟩ drp
 exact absurd g127 (by simp)
 try simp only [decide_eq_true_eq, decide_eq_false_iff_not, Bool.and_eq_true, Bool.or_eq_true, Bool.not_eq_true', Int.not_le, Int.not_lt] at hc6
 have ht0 : toldE g c false = 0 := by omega
 obtain ⟨hmx, hma, hme⟩ := mix_0 ht0
 obtain ⟨hgo, hco⟩ := both_ok (told_0 ht0).1
 refine sy_skip ?_
 refine sy_seq ?_
 refine sy_tx' [0, 1, 2, 3, 4, 5, 6, 7, 8, 9, 10, 11, 12, 13, 14, 15, 16, 17, 18, 19, 20, 21, 22] rfl ?_
 refine spL rfl rfl (lhA (ints (mixP g c)) ag29 rfl (rest := []) (by rw [List.append_nil]; rfl) (by rw [ints_length]; exact hmx.len)) rfl ?_
 refine cl rfl cal36 rfl rfl (c_rMixed (mixP g c) hmx.len _ _) ?_
 rintro _ _ _ ⟨rfl, rfl, rfl⟩
 rw [hme]
 refine sp rfl (PE.eql rfl rfl) rfl ?_
 refine sp rfl (PE.move rfl) rfl ?_
 refine sy_case (t := 133) rfl (fun g133 => ?_) (fun g133 => ?_)
 refine spLG rfl rfl rfl rfl rfl (lhA [_, _, _] ag59 rfl rfl rfl) rfl ?_
 refine spLG rfl rfl rfl rfl rfl (lhA [_, _, _] ag63 rfl rfl rfl) rfl ?_
 refine spLG rfl rfl rfl rfl rfl (lhA (ints (mixP g c)) ag29 rfl (rest := []) (by rw [List.append_nil]; rfl) (by rw [ints_length]; exact hmx.len)) rfl ?_
 refine clG rfl rfl rfl rfl cal37 rfl rfl (c_rFits g hgo.miss (g.sl a3 c3) c hco a4 c4 (mixP g c) hmx _ _) ?_
 rintro _ _ _ ⟨rfl, rfl, rfl⟩
 rw [hma]
 refine sp rfl (PE.pick rfl rfl rfl) rfl ?_
 refine sp rfl (PE.move rfl) rfl ?_
 refine sy_case (t := 139) rfl (fun g139 => ?_) (fun g139 => ?_)
 refine spLG rfl rfl rfl rfl rfl (lhA [_, _, _] ag25 rfl rfl rfl) rfl ?_
 refine spLG rfl rfl rfl rfl rfl (lhA [_, _, _] ag25 rfl rfl rfl) rfl ?_
 refine clVG rfl rfl rfl rfl cal39 rfl rfl (c_same g a1 ag c1 cg (by omega) _ _) ?_
 refine sp rfl (PE.pick rfl rfl rfl) rfl ?_
 refine sp rfl (PE.move rfl) rfl ?_
 refine sy_case (t := 144) rfl (fun g144 => ?_) (fun g144 => ?_)
 refine spLG rfl rfl rfl rfl rfl (lhA [_, _, _] ag28 rfl rfl rfl) rfl ?_
 refine spLG rfl rfl rfl rfl rfl (lhA [_, _, _] ag28 rfl rfl rfl) rfl ?_
 refine clVG rfl rfl rfl rfl cal40 rfl rfl (c_alike c a2 ah c2 ch (by omega) _ _) ?_
 refine sp rfl (PE.pick rfl rfl rfl) rfl ?_
 refine sp rfl (PE.move rfl) rfl ?_
 refine sy_case (t := 149) rfl (fun g149 => ?_) (fun g149 => ?_)
 refine clVG rfl rfl rfl rfl cal22 rfl rfl (c_awake _ _) ?_
 refine sp rfl (PE.pick rfl rfl rfl) rfl ?_
 refine sp rfl (PE.assign rfl) rfl ?_
 refine sy_ret ?_
 exact sy_return (vs := [_]) rfl (.cons (RV.tmp rfl) .nil) rfl ⟨rfl, rfl, rfl⟩ drp
 exact absurd g149 (by simp)
 exact absurd g144 (by simp)
 exact absurd g139 (by simp)
 exact absurd g133 (by simp)
 refine sy_have (β := Option Addr × Nat × Option Addr × Nat × Option Addr × Nat × Option Addr × Nat × Nat × Nat × Nat) pl7_3_1111111111100000 (fun ⟨a1, c1, a2, c2, a3, c3, a4, c4, b7, b8, b9⟩ => ([(9, .pointer (some ⟨b9, 0, none⟩)), (8, .pointer (some ⟨b8, 0, none⟩)), (7, .pointer (some ⟨b7, 0, none⟩)), (34, c.v (c.sl a4 c4)), (32, g.v (g.sl a3 c3)), (30, c.v (c.sl a2 c2)), (28, g.v (g.sl a1 c1)), (2, .int .i64 k), (3, .pointer (some ⟨b3, 0, none⟩)), (4, .pointer (some ⟨b4, 0, none⟩)), (27, g.v (g.sl ag cg)), (29, c.v (c.sl ah ch)), (31, g.v (g.sl ag cg)), (33, c.v (c.sl ah ch))], (b9, cel 59 ([.int .i64 0, .int .i64 0, .slice none 0 0])) :: (b8, cel 28 ([.int .i64 0, .int .i64 0, .slice none 0 0])) :: (b7, cel 25 ([.int .i64 0, .int .i64 0, .slice none 0 0])) :: (b4, cel 28 (ctl c (c.sl ah ch))) :: (b3, cel 25 (gtl g (g.sl ag cg))) :: H, RowsA a4 5 (hrows c.hs) :: RowsA a3 5 (grows g.grs) :: RowsA a2 5 (hrows c.hs) :: RowsA a1 5 (grows g.grs) :: R, [])) (fun v9 => ?_) (fun h1111111111100000 => ?_)
 obtain ⟨a1, c1, a2, c2, a3, c3, a4, c4, b7, b8, b9⟩ := v9
 dsimp only
 unfold pl7_3_1111111111100000
 refine alc rfl zl63 rfl (fun b10 => ?_)
 refine bg (fun w hs => trivial) ?_
 exact sy_to (h1111111111110000 (a1, c1, a2, c2, a3, c3, a4, c4, b7, b8, b9, b10)) (by repeat' first | exact Sub.nil | apply Sub.cons | rfl | (simp [lk]; omega)) (fun _ h => St.sub ((((h.pull b7).pull b8).pull b9).pull b10))
 refine sy_have (β := Option Addr × Nat × Option Addr × Nat × Option Addr × Nat × Option Addr × Nat × Nat × Nat × Nat) pl7_3_1111111111010000 (fun ⟨a1, c1, a2, c2, a3, c3, a4, c4, b7, b8, b10⟩ => ([(10, .pointer (some ⟨b10, 0, none⟩)), (8, .pointer (some ⟨b8, 0, none⟩)), (7, .pointer (some ⟨b7, 0, none⟩)), (34, c.v (c.sl a4 c4)), (32, g.v (g.sl a3 c3)), (30, c.v (c.sl a2 c2)), (28, g.v (g.sl a1 c1)), (2, .int .i64 k), (3, .pointer (some ⟨b3, 0, none⟩)), (4, .pointer (some ⟨b4, 0, none⟩)), (27, g.v (g.sl ag cg)), (29, c.v (c.sl ah ch)), (31, g.v (g.sl ag cg)), (33, c.v (c.sl ah ch))], (b10, cel 63 ([.int .i64 0, .int .i64 0, .slice none 0 0])) :: (b8, cel 28 ([.int .i64 0, .int .i64 0, .slice none 0 0])) :: (b7, cel 25 ([.int .i64 0, .int .i64 0, .slice none 0 0])) :: (b4, cel 28 (ctl c (c.sl ah ch))) :: (b3, cel 25 (gtl g (g.sl ag cg))) :: H, RowsA a4 5 (hrows c.hs) :: RowsA a3 5 (grows g.grs) :: RowsA a2 5 (hrows c.hs) :: RowsA a1 5 (grows g.grs) :: R, [])) (fun v9 => ?_) (fun h1111111111010000 => ?_)
 obtain ⟨a1, c1, a2, c2, a3, c3, a4, c4, b7, b8, b10⟩ := v9
 dsimp only
 unfold pl7_3_1111111111010000
 refine alc rfl zl59 rfl (fun b9 => ?_)
 refine bg (fun w hs => trivial) ?_
 exact sy_to (h1111111111110000 (a1, c1, a2, c2, a3, c3, a4, c4, b7, b8, b9, b10)) (by repeat' first | exact Sub.nil | apply Sub.cons | rfl | (simp [lk]; omega)) (fun _ h => St.sub ((((h.pull b7).pull b8).pull b9).pull b10))
 refine sy_have (β := Option Addr × Nat × Option Addr × Nat × Option Addr × Nat × Option Addr × Nat × Nat × Nat) pl7_3_1111111111000000 (fun ⟨a1, c1, a2, c2, a3, c3, a4, c4, b7, b8⟩ => ([(8, .pointer (some ⟨b8, 0, none⟩)), (7, .pointer (some ⟨b7, 0, none⟩)), (34, c.v (c.sl a4 c4)), (32, g.v (g.sl a3 c3)), (30, c.v (c.sl a2 c2)), (28, g.v (g.sl a1 c1)), (2, .int .i64 k), (3, .pointer (some ⟨b3, 0, none⟩)), (4, .pointer (some ⟨b4, 0, none⟩)), (27, g.v (g.sl ag cg)), (29, c.v (c.sl ah ch)), (31, g.v (g.sl ag cg)), (33, c.v (c.sl ah ch))], (b8, cel 28 ([.int .i64 0, .int .i64 0, .slice none 0 0])) :: (b7, cel 25 ([.int .i64 0, .int .i64 0, .slice none 0 0])) :: (b4, cel 28 (ctl c (c.sl ah ch))) :: (b3, cel 25 (gtl g (g.sl ag cg))) :: H, RowsA a4 5 (hrows c.hs) :: RowsA a3 5 (grows g.grs) :: RowsA a2 5 (hrows c.hs) :: RowsA a1 5 (grows g.grs) :: R, [])) (fun v9 => ?_) (fun h1111111111000000 => ?_)
 obtain ⟨a1, c1, a2, c2, a3, c3, a4, c4, b7, b8⟩ := v9
 dsimp only
 unfold pl7_3_1111111111000000
 refine sy_any ?_
 refine sy_alt ?_ ?_
 refine alc rfl zl59 rfl (fun b9 => ?_)
 refine bg (fun w hs => trivial) ?_
 exact sy_to (h1111111111100000 (a1, c1, a2, c2, a3, c3, a4, c4, b7, b8, b9)) (by repeat' first | exact Sub.nil | apply Sub.cons | rfl | (simp [lk]; omega)) (fun _ h => St.sub (((h.pull b7).pull b8).pull b9))
 refine sy_alt ?_ ?_
 refine alc rfl zl63 rfl (fun b10 => ?_)
 refine bg (fun w hs => trivial) ?_
 exact sy_to (h1111111111010000 (a1, c1, a2, c2, a3, c3, a4, c4, b7, b8, b10)) (by repeat' first | exact Sub.nil | apply Sub.cons | rfl | (simp [lk]; omega)) (fun _ h => St.sub (((h.pull b7).pull b8).pull b10))
 exact sy_stop
 refine sy_have (β := Option Addr × Nat × Option Addr × Nat × Option Addr × Nat × Option Addr × Nat × Nat × Nat × Nat) pl7_3_1111111110110000 (fun ⟨a1, c1, a2, c2, a3, c3, a4, c4, b7, b9, b10⟩ => ([(10, .pointer (some ⟨b10, 0, none⟩)), (9, .pointer (some ⟨b9, 0, none⟩)), (7, .pointer (some ⟨b7, 0, none⟩)), (34, c.v (c.sl a4 c4)), (32, g.v (g.sl a3 c3)), (30, c.v (c.sl a2 c2)), (28, g.v (g.sl a1 c1)), (2, .int .i64 k), (3, .pointer (some ⟨b3, 0, none⟩)), (4, .pointer (some ⟨b4, 0, none⟩)), (27, g.v (g.sl ag cg)), (29, c.v (c.sl ah ch)), (31, g.v (g.sl ag cg)), (33, c.v (c.sl ah ch))], (b10, cel 63 ([.int .i64 0, .int .i64 0, .slice none 0 0])) :: (b9, cel 59 ([.int .i64 0, .int .i64 0, .slice none 0 0])) :: (b7, cel 25 ([.int .i64 0, .int .i64 0, .slice none 0 0])) :: (b4, cel 28 (ctl c (c.sl ah ch))) :: (b3, cel 25 (gtl g (g.sl ag cg))) :: H, RowsA a4 5 (hrows c.hs) :: RowsA a3 5 (grows g.grs) :: RowsA a2 5 (hrows c.hs) :: RowsA a1 5 (grows g.grs) :: R, [])) (fun v9 => ?_) (fun h1111111110110000 => ?_)
 obtain ⟨a1, c1, a2, c2, a3, c3, a4, c4, b7, b9, b10⟩ := v9
 dsimp only
 unfold pl7_3_1111111110110000
 refine alc rfl zl28 rfl (fun b8 => ?_)
 refine bg (fun w hs => trivial) ?_
 exact sy_to (h1111111111110000 (a1, c1, a2, c2, a3, c3, a4, c4, b7, b8, b9, b10)) (by repeat' first | exact Sub.nil | apply Sub.cons | rfl | (simp [lk]; omega)) (fun _ h => St.sub ((((h.pull b7).pull b8).pull b9).pull b10))
 refine sy_have (β := Option Addr × Nat × Option Addr × Nat × Option Addr × Nat × Option Addr × Nat × Nat × Nat) pl7_3_1111111110100000 (fun ⟨a1, c1, a2, c2, a3, c3, a4, c4, b7, b9⟩ => ([(9, .pointer (some ⟨b9, 0, none⟩)), (7, .pointer (some ⟨b7, 0, none⟩)), (34, c.v (c.sl a4 c4)), (32, g.v (g.sl a3 c3)), (30, c.v (c.sl a2 c2)), (28, g.v (g.sl a1 c1)), (2, .int .i64 k), (3, .pointer (some ⟨b3, 0, none⟩)), (4, .pointer (some ⟨b4, 0, none⟩)), (27, g.v (g.sl ag cg)), (29, c.v (c.sl ah ch)), (31, g.v (g.sl ag cg)), (33, c.v (c.sl ah ch))], (b9, cel 59 ([.int .i64 0, .int .i64 0, .slice none 0 0])) :: (b7, cel 25 ([.int .i64 0, .int .i64 0, .slice none 0 0])) :: (b4, cel 28 (ctl c (c.sl ah ch))) :: (b3, cel 25 (gtl g (g.sl ag cg))) :: H, RowsA a4 5 (hrows c.hs) :: RowsA a3 5 (grows g.grs) :: RowsA a2 5 (hrows c.hs) :: RowsA a1 5 (grows g.grs) :: R, [])) (fun v9 => ?_) (fun h1111111110100000 => ?_)
 obtain ⟨a1, c1, a2, c2, a3, c3, a4, c4, b7, b9⟩ := v9
 dsimp only
 unfold pl7_3_1111111110100000
 refine sy_any ?_
 refine sy_alt ?_ ?_
 refine alc rfl zl28 rfl (fun b8 => ?_)
 refine bg (fun w hs => trivial) ?_
 exact sy_to (h1111111111100000 (a1, c1, a2, c2, a3, c3, a4, c4, b7, b8, b9)) (by repeat' first | exact Sub.nil | apply Sub.cons | rfl | (simp [lk]; omega)) (fun _ h => St.sub (((h.pull b7).pull b8).pull b9))
 refine sy_alt ?_ ?_
 refine alc rfl zl63 rfl (fun b10 => ?_)
 refine bg (fun w hs => trivial) ?_
 exact sy_to (h1111111110110000 (a1, c1, a2, c2, a3, c3, a4, c4, b7, b9, b10)) (by repeat' first | exact Sub.nil | apply Sub.cons | rfl | (simp [lk]; omega)) (fun _ h => St.sub (((h.pull b7).pull b9).pull b10))
 exact sy_stop
 refine sy_have (β := Option Addr × Nat × Option Addr × Nat × Option Addr × Nat × Option Addr × Nat × Nat × Nat) pl7_3_1111111110010000 (fun ⟨a1, c1, a2, c2, a3, c3, a4, c4, b7, b10⟩ => ([(10, .pointer (some ⟨b10, 0, none⟩)), (7, .pointer (some ⟨b7, 0, none⟩)), (34, c.v (c.sl a4 c4)), (32, g.v (g.sl a3 c3)), (30, c.v (c.sl a2 c2)), (28, g.v (g.sl a1 c1)), (2, .int .i64 k), (3, .pointer (some ⟨b3, 0, none⟩)), (4, .pointer (some ⟨b4, 0, none⟩)), (27, g.v (g.sl ag cg)), (29, c.v (c.sl ah ch)), (31, g.v (g.sl ag cg)), (33, c.v (c.sl ah ch))], (b10, cel 63 ([.int .i64 0, .int .i64 0, .slice none 0 0])) :: (b7, cel 25 ([.int .i64 0, .int .i64 0, .slice none 0 0])) :: (b4, cel 28 (ctl c (c.sl ah ch))) :: (b3, cel 25 (gtl g (g.sl ag cg))) :: H, RowsA a4 5 (hrows c.hs) :: RowsA a3 5 (grows g.grs) :: RowsA a2 5 (hrows c.hs) :: RowsA a1 5 (grows g.grs) :: R, [])) (fun v9 => ?_) (fun h1111111110010000 => ?_)
 obtain ⟨a1, c1, a2, c2, a3, c3, a4, c4, b7, b10⟩ := v9
 dsimp only
 unfold pl7_3_1111111110010000
 refine sy_any ?_
 refine sy_alt ?_ ?_
 refine alc rfl zl28 rfl (fun b8 => ?_)
 refine bg (fun w hs => trivial) ?_
 exact sy_to (h1111111111010000 (a1, c1, a2, c2, a3, c3, a4, c4, b7, b8, b10)) (by repeat' first | exact Sub.nil | apply Sub.cons | rfl | (simp [lk]; omega)) (fun _ h => St.sub (((h.pull b7).pull b8).pull b10))
 refine sy_alt ?_ ?_
 refine alc rfl zl59 rfl (fun b9 => ?_)
 refine bg (fun w hs => trivial) ?_
 exact sy_to (h1111111110110000 (a1, c1, a2, c2, a3, c3, a4, c4, b7, b9, b10)) (by repeat' first | exact Sub.nil | apply Sub.cons | rfl | (simp [lk]; omega)) (fun _ h => St.sub (((h.pull b7).pull b9).pull b10))
 exact sy_stop
 refine sy_have (β := Option Addr × Nat × Option Addr × Nat × Option Addr × Nat × Option Addr × Nat × Nat) pl7_3_1111111110000000 (fun ⟨a1, c1, a2, c2, a3, c3, a4, c4, b7⟩ => ([(7, .pointer (some ⟨b7, 0, none⟩)), (34, c.v (c.sl a4 c4)), (32, g.v (g.sl a3 c3)), (30, c.v (c.sl a2 c2)), (28, g.v (g.sl a1 c1)), (2, .int .i64 k), (3, .pointer (some ⟨b3, 0, none⟩)), (4, .pointer (some ⟨b4, 0, none⟩)), (27, g.v (g.sl ag cg)), (29, c.v (c.sl ah ch)), (31, g.v (g.sl ag cg)), (33, c.v (c.sl ah ch))], (b7, cel 25 ([.int .i64 0, .int .i64 0, .slice none 0 0])) :: (b4, cel 28 (ctl c (c.sl ah ch))) :: (b3, cel 25 (gtl g (g.sl ag cg))) :: H, RowsA a4 5 (hrows c.hs) :: RowsA a3 5 (grows g.grs) :: RowsA a2 5 (hrows c.hs) :: RowsA a1 5 (grows g.grs) :: R, [])) (fun v9 => ?_) (fun h1111111110000000 => ?_)
 obtain ⟨a1, c1, a2, c2, a3, c3, a4, c4, b7⟩ := v9
 dsimp only
 unfold pl7_3_1111111110000000
 refine sy_any ?_
 refine sy_alt ?_ ?_
 refine alc rfl zl28 rfl (fun b8 => ?_)
 refine bg (fun w hs => trivial) ?_
 exact sy_to (h1111111111000000 (a1, c1, a2, c2, a3, c3, a4, c4, b7, b8)) (by repeat' first | exact Sub.nil | apply Sub.cons | rfl | (simp [lk]; omega)) (fun _ h => St.sub ((h.pull b7).pull b8))
 refine sy_alt ?_ ?_
 refine alc rfl zl59 rfl (fun b9 => ?_)
 refine bg (fun w hs => trivial) ?_
 exact sy_to (h1111111110100000 (a1, c1, a2, c2, a3, c3, a4, c4, b7, b9)) (by repeat' first | exact Sub.nil | apply Sub.cons | rfl | (simp [lk]; omega)) (fun _ h => St.sub ((h.pull b7).pull b9))
 refine sy_alt ?_ ?_
 refine alc rfl zl63 rfl (fun b10 => ?_)
 refine bg (fun w hs => trivial) ?_
 exact sy_to (h1111111110010000 (a1, c1, a2, c2, a3, c3, a4, c4, b7, b10)) (by repeat' first | exact Sub.nil | apply Sub.cons | rfl | (simp [lk]; omega)) (fun _ h => St.sub ((h.pull b7).pull b10))
 exact sy_stop
 refine sy_have (β := Option Addr × Nat × Option Addr × Nat × Option Addr × Nat × Option Addr × Nat × Nat × Nat × Nat) pl7_3_1111111101110000 (fun ⟨a1, c1, a2, c2, a3, c3, a4, c4, b8, b9, b10⟩ => ([(10, .pointer (some ⟨b10, 0, none⟩)), (9, .pointer (some ⟨b9, 0, none⟩)), (8, .pointer (some ⟨b8, 0, none⟩)), (34, c.v (c.sl a4 c4)), (32, g.v (g.sl a3 c3)), (30, c.v (c.sl a2 c2)), (28, g.v (g.sl a1 c1)), (2, .int .i64 k), (3, .pointer (some ⟨b3, 0, none⟩)), (4, .pointer (some ⟨b4, 0, none⟩)), (27, g.v (g.sl ag cg)), (29, c.v (c.sl ah ch)), (31, g.v (g.sl ag cg)), (33, c.v (c.sl ah ch))], (b10, cel 63 ([.int .i64 0, .int .i64 0, .slice none 0 0])) :: (b9, cel 59 ([.int .i64 0, .int .i64 0, .slice none 0 0])) :: (b8, cel 28 ([.int .i64 0, .int .i64 0, .slice none 0 0])) :: (b4, cel 28 (ctl c (c.sl ah ch))) :: (b3, cel 25 (gtl g (g.sl ag cg))) :: H, RowsA a4 5 (hrows c.hs) :: RowsA a3 5 (grows g.grs) :: RowsA a2 5 (hrows c.hs) :: RowsA a1 5 (grows g.grs) :: R, [])) (fun v9 => ?_) (fun h1111111101110000 => ?_)
 obtain ⟨a1, c1, a2, c2, a3, c3, a4, c4, b8, b9, b10⟩ := v9
 dsimp only
 unfold pl7_3_1111111101110000
 refine alc rfl zl25 rfl (fun b7 => ?_)
 refine bg (fun w hs => trivial) ?_
 exact sy_to (h1111111111110000 (a1, c1, a2, c2, a3, c3, a4, c4, b7, b8, b9, b10)) (by repeat' first | exact Sub.nil | apply Sub.cons | rfl | (simp [lk]; omega)) (fun _ h => St.sub ((((h.pull b7).pull b8).pull b9).pull b10))
 refine sy_have (β := Option Addr × Nat × Option Addr × Nat × Option Addr × Nat × Option Addr × Nat × Nat × Nat) pl7_3_1111111101100000 (fun ⟨a1, c1, a2, c2, a3, c3, a4, c4, b8, b9⟩ => ([(9, .pointer (some ⟨b9, 0, none⟩)), (8, .pointer (some ⟨b8, 0, none⟩)), (34, c.v (c.sl a4 c4)), (32, g.v (g.sl a3 c3)), (30, c.v (c.sl a2 c2)), (28, g.v (g.sl a1 c1)), (2, .int .i64 k), (3, .pointer (some ⟨b3, 0, none⟩)), (4, .pointer (some ⟨b4, 0, none⟩)), (27, g.v (g.sl ag cg)), (29, c.v (c.sl ah ch)), (31, g.v (g.sl ag cg)), (33, c.v (c.sl ah ch))], (b9, cel 59 ([.int .i64 0, .int .i64 0, .slice none 0 0])) :: (b8, cel 28 ([.int .i64 0, .int .i64 0, .slice none 0 0])) :: (b4, cel 28 (ctl c (c.sl ah ch))) :: (b3, cel 25 (gtl g (g.sl ag cg))) :: H, RowsA a4 5 (hrows c.hs) :: RowsA a3 5 (grows g.grs) :: RowsA a2 5 (hrows c.hs) :: RowsA a1 5 (grows g.grs) :: R, [])) (fun v9 => ?_) (fun h1111111101100000 => ?_)
 obtain ⟨a1, c1, a2, c2, a3, c3, a4, c4, b8, b9⟩ := v9
 dsimp only
 unfold pl7_3_1111111101100000
 refine sy_any ?_
 refine sy_alt ?_ ?_
 refine alc rfl zl25 rfl (fun b7 => ?_)
 refine bg (fun w hs => trivial) ?_
 exact sy_to (h1111111111100000 (a1, c1, a2, c2, a3, c3, a4, c4, b7, b8, b9)) (by repeat' first | exact Sub.nil | apply Sub.cons | rfl | (simp [lk]; omega)) (fun _ h => St.sub (((h.pull b7).pull b8).pull b9))
 refine sy_alt ?_ ?_
 refine alc rfl zl63 rfl (fun b10 => ?_)
 refine bg (fun w hs => trivial) ?_
 exact sy_to (h1111111101110000 (a1, c1, a2, c2, a3, c3, a4, c4, b8, b9, b10)) (by repeat' first | exact Sub.nil | apply Sub.cons | rfl | (simp [lk]; omega)) (fun _ h => St.sub (((h.pull b8).pull b9).pull b10))
 exact sy_stop
 refine sy_have (β := Option Addr × Nat × Option Addr × Nat × Option Addr × Nat × Option Addr × Nat × Nat × Nat) pl7_3_1111111101010000 (fun ⟨a1, c1, a2, c2, a3, c3, a4, c4, b8, b10⟩ => ([(10, .pointer (some ⟨b10, 0, none⟩)), (8, .pointer (some ⟨b8, 0, none⟩)), (34, c.v (c.sl a4 c4)), (32, g.v (g.sl a3 c3)), (30, c.v (c.sl a2 c2)), (28, g.v (g.sl a1 c1)), (2, .int .i64 k), (3, .pointer (some ⟨b3, 0, none⟩)), (4, .pointer (some ⟨b4, 0, none⟩)), (27, g.v (g.sl ag cg)), (29, c.v (c.sl ah ch)), (31, g.v (g.sl ag cg)), (33, c.v (c.sl ah ch))], (b10, cel 63 ([.int .i64 0, .int .i64 0, .slice none 0 0])) :: (b8, cel 28 ([.int .i64 0, .int .i64 0, .slice none 0 0])) :: (b4, cel 28 (ctl c (c.sl ah ch))) :: (b3, cel 25 (gtl g (g.sl ag cg))) :: H, RowsA a4 5 (hrows c.hs) :: RowsA a3 5 (grows g.grs) :: RowsA a2 5 (hrows c.hs) :: RowsA a1 5 (grows g.grs) :: R, [])) (fun v9 => ?_) (fun h1111111101010000 => ?_)
 obtain ⟨a1, c1, a2, c2, a3, c3, a4, c4, b8, b10⟩ := v9
 dsimp only
 unfold pl7_3_1111111101010000
 refine sy_any ?_
 refine sy_alt ?_ ?_
 refine alc rfl zl25 rfl (fun b7 => ?_)
 refine bg (fun w hs => trivial) ?_
 exact sy_to (h1111111111010000 (a1, c1, a2, c2, a3, c3, a4, c4, b7, b8, b10)) (by repeat' first | exact Sub.nil | apply Sub.cons | rfl | (simp [lk]; omega)) (fun _ h => St.sub (((h.pull b7).pull b8).pull b10))
 refine sy_alt ?_ ?_
 refine alc rfl zl59 rfl (fun b9 => ?_)
 refine bg (fun w hs => trivial) ?_
 exact sy_to (h1111111101110000 (a1, c1, a2, c2, a3, c3, a4, c4, b8, b9, b10)) (by repeat' first | exact Sub.nil | apply Sub.cons | rfl | (simp [lk]; omega)) (fun _ h => St.sub (((h.pull b8).pull b9).pull b10))
 exact sy_stop
 refine sy_have (β := Option Addr × Nat × Option Addr × Nat × Option Addr × Nat × Option Addr × Nat × Nat) pl7_3_1111111101000000 (fun ⟨a1, c1, a2, c2, a3, c3, a4, c4, b8⟩ => ([(8, .pointer (some ⟨b8, 0, none⟩)), (34, c.v (c.sl a4 c4)), (32, g.v (g.sl a3 c3)), (30, c.v (c.sl a2 c2)), (28, g.v (g.sl a1 c1)), (2, .int .i64 k), (3, .pointer (some ⟨b3, 0, none⟩)), (4, .pointer (some ⟨b4, 0, none⟩)), (27, g.v (g.sl ag cg)), (29, c.v (c.sl ah ch)), (31, g.v (g.sl ag cg)), (33, c.v (c.sl ah ch))], (b8, cel 28 ([.int .i64 0, .int .i64 0, .slice none 0 0])) :: (b4, cel 28 (ctl c (c.sl ah ch))) :: (b3, cel 25 (gtl g (g.sl ag cg))) :: H, RowsA a4 5 (hrows c.hs) :: RowsA a3 5 (grows g.grs) :: RowsA a2 5 (hrows c.hs) :: RowsA a1 5 (grows g.grs) :: R, [])) (fun v9 => ?_) (fun h1111111101000000 => ?_)
 obtain ⟨a1, c1, a2, c2, a3, c3, a4, c4, b8⟩ := v9
 dsimp only
 unfold pl7_3_1111111101000000
 refine sy_any ?_
 refine sy_alt ?_ ?_
 refine alc rfl zl25 rfl (fun b7 => ?_)
 refine bg (fun w hs => trivial) ?_
 exact sy_to (h1111111111000000 (a1, c1, a2, c2, a3, c3, a4, c4, b7, b8)) (by repeat' first | exact Sub.nil | apply Sub.cons | rfl | (simp [lk]; omega)) (fun _ h => St.sub ((h.pull b7).pull b8))
 refine sy_alt ?_ ?_
 refine alc rfl zl59 rfl (fun b9 => ?_)
 refine bg (fun w hs => trivial) ?_
 exact sy_to (h1111111101100000 (a1, c1, a2, c2, a3, c3, a4, c4, b8, b9)) (by repeat' first | exact Sub.nil | apply Sub.cons | rfl | (simp [lk]; omega)) (fun _ h => St.sub ((h.pull b8).pull b9))
 refine sy_alt ?_ ?_
 refine alc rfl zl63 rfl (fun b10 => ?_)
 refine bg (fun w hs => trivial) ?_
 exact sy_to (h1111111101010000 (a1, c1, a2, c2, a3, c3, a4, c4, b8, b10)) (by repeat' first | exact Sub.nil | apply Sub.cons | rfl | (simp [lk]; omega)) (fun _ h => St.sub ((h.pull b8).pull b10))
 exact sy_stop
 refine sy_have (β := Option Addr × Nat × Option Addr × Nat × Option Addr × Nat × Option Addr × Nat × Nat × Nat) pl7_3_1111111100110000 (fun ⟨a1, c1, a2, c2, a3, c3, a4, c4, b9, b10⟩ => ([(10, .pointer (some ⟨b10, 0, none⟩)), (9, .pointer (some ⟨b9, 0, none⟩)), (34, c.v (c.sl a4 c4)), (32, g.v (g.sl a3 c3)), (30, c.v (c.sl a2 c2)), (28, g.v (g.sl a1 c1)), (2, .int .i64 k), (3, .pointer (some ⟨b3, 0, none⟩)), (4, .pointer (some ⟨b4, 0, none⟩)), (27, g.v (g.sl ag cg)), (29, c.v (c.sl ah ch)), (31, g.v (g.sl ag cg)), (33, c.v (c.sl ah ch))], (b10, cel 63 ([.int .i64 0, .int .i64 0, .slice none 0 0])) :: (b9, cel 59 ([.int .i64 0, .int .i64 0, .slice none 0 0])) :: (b4, cel 28 (ctl c (c.sl ah ch))) :: (b3, cel 25 (gtl g (g.sl ag cg))) :: H, RowsA a4 5 (hrows c.hs) :: RowsA a3 5 (grows g.grs) :: RowsA a2 5 (hrows c.hs) :: RowsA a1 5 (grows g.grs) :: R, [])) (fun v9 => ?_) (fun h1111111100110000 => ?_)
 obtain ⟨a1, c1, a2, c2, a3, c3, a4, c4, b9, b10⟩ := v9
 dsimp only
 unfold pl7_3_1111111100110000
 refine sy_any ?_
 refine sy_alt ?_ ?_
 refine alc rfl zl25 rfl (fun b7 => ?_)
 refine bg (fun w hs => trivial) ?_
 exact sy_to (h1111111110110000 (a1, c1, a2, c2, a3, c3, a4, c4, b7, b9, b10)) (by repeat' first | exact Sub.nil | apply Sub.cons | rfl | (simp [lk]; omega)) (fun _ h => St.sub (((h.pull b7).pull b9).pull b10))
 refine sy_alt ?_ ?_
 refine alc rfl zl28 rfl (fun b8 => ?_)
 refine bg (fun w hs => trivial) ?_
 exact sy_to (h1111111101110000 (a1, c1, a2, c2, a3, c3, a4, c4, b8, b9, b10)) (by repeat' first | exact Sub.nil | apply Sub.cons | rfl | (simp [lk]; omega)) (fun _ h => St.sub (((h.pull b8).pull b9).pull b10))
 exact sy_stop
 refine sy_have (β := Option Addr × Nat × Option Addr × Nat × Option Addr × Nat × Option Addr × Nat × Nat) pl7_3_1111111100100000 (fun ⟨a1, c1, a2, c2, a3, c3, a4, c4, b9⟩ => ([(9, .pointer (some ⟨b9, 0, none⟩)), (34, c.v (c.sl a4 c4)), (32, g.v (g.sl a3 c3)), (30, c.v (c.sl a2 c2)), (28, g.v (g.sl a1 c1)), (2, .int .i64 k), (3, .pointer (some ⟨b3, 0, none⟩)), (4, .pointer (some ⟨b4, 0, none⟩)), (27, g.v (g.sl ag cg)), (29, c.v (c.sl ah ch)), (31, g.v (g.sl ag cg)), (33, c.v (c.sl ah ch))], (b9, cel 59 ([.int .i64 0, .int .i64 0, .slice none 0 0])) :: (b4, cel 28 (ctl c (c.sl ah ch))) :: (b3, cel 25 (gtl g (g.sl ag cg))) :: H, RowsA a4 5 (hrows c.hs) :: RowsA a3 5 (grows g.grs) :: RowsA a2 5 (hrows c.hs) :: RowsA a1 5 (grows g.grs) :: R, [])) (fun v9 => ?_) (fun h1111111100100000 => ?_)
 obtain ⟨a1, c1, a2, c2, a3, c3, a4, c4, b9⟩ := v9
 dsimp only
 unfold pl7_3_1111111100100000
 refine sy_any ?_
 refine sy_alt ?_ ?_
 refine alc rfl zl25 rfl (fun b7 => ?_)
 refine bg (fun w hs => trivial) ?_
 exact sy_to (h1111111110100000 (a1, c1, a2, c2, a3, c3, a4, c4, b7, b9)) (by repeat' first | exact Sub.nil | apply Sub.cons | rfl | (simp [lk]; omega)) (fun _ h => St.sub ((h.pull b7).pull b9))
 refine sy_alt ?_ ?_
 refine alc rfl zl28 rfl (fun b8 => ?_)
 refine bg (fun w hs => trivial) ?_
 exact sy_to (h1111111101100000 (a1, c1, a2, c2, a3, c3, a4, c4, b8, b9)) (by repeat' first | exact Sub.nil | apply Sub.cons | rfl | (simp [lk]; omega)) (fun _ h => St.sub ((h.pull b8).pull b9))
 refine sy_alt ?_ ?_
 refine alc rfl zl63 rfl (fun b10 => ?_)
 refine bg (fun w hs => trivial) ?_
 exact sy_to (h1111111100110000 (a1, c1, a2, c2, a3, c3, a4, c4, b9, b10)) (by repeat' first | exact Sub.nil | apply Sub.cons | rfl | (simp [lk]; omega)) (fun _ h => St.sub ((h.pull b9).pull b10))
 exact sy_stop
 refine sy_have (β := Option Addr × Nat × Option Addr × Nat × Option Addr × Nat × Option Addr × Nat × Nat) pl7_3_1111111100010000 (fun ⟨a1, c1, a2, c2, a3, c3, a4, c4, b10⟩ => ([(10, .pointer (some ⟨b10, 0, none⟩)), (34, c.v (c.sl a4 c4)), (32, g.v (g.sl a3 c3)), (30, c.v (c.sl a2 c2)), (28, g.v (g.sl a1 c1)), (2, .int .i64 k), (3, .pointer (some ⟨b3, 0, none⟩)), (4, .pointer (some ⟨b4, 0, none⟩)), (27, g.v (g.sl ag cg)), (29, c.v (c.sl ah ch)), (31, g.v (g.sl ag cg)), (33, c.v (c.sl ah ch))], (b10, cel 63 ([.int .i64 0, .int .i64 0, .slice none 0 0])) :: (b4, cel 28 (ctl c (c.sl ah ch))) :: (b3, cel 25 (gtl g (g.sl ag cg))) :: H, RowsA a4 5 (hrows c.hs) :: RowsA a3 5 (grows g.grs) :: RowsA a2 5 (hrows c.hs) :: RowsA a1 5 (grows g.grs) :: R, [])) (fun v9 => ?_) (fun h1111111100010000 => ?_)
 obtain ⟨a1, c1, a2, c2, a3, c3, a4, c4, b10⟩ := v9
 dsimp only
 unfold pl7_3_1111111100010000
 refine sy_any ?_
 refine sy_alt ?_ ?_
 refine alc rfl zl25 rfl (fun b7 => ?_)
 refine bg (fun w hs => trivial) ?_
 exact sy_to (h1111111110010000 (a1, c1, a2, c2, a3, c3, a4, c4, b7, b10)) (by repeat' first | exact Sub.nil | apply Sub.cons | rfl | (simp [lk]; omega)) (fun _ h => St.sub ((h.pull b7).pull b10))
 refine sy_alt ?_ ?_
 refine alc rfl zl28 rfl (fun b8 => ?_)
 refine bg (fun w hs => trivial) ?_
 exact sy_to (h1111111101010000 (a1, c1, a2, c2, a3, c3, a4, c4, b8, b10)) (by repeat' first | exact Sub.nil | apply Sub.cons | rfl | (simp [lk]; omega)) (fun _ h => St.sub ((h.pull b8).pull b10))
 refine sy_alt ?_ ?_
 refine alc rfl zl59 rfl (fun b9 => ?_)
 refine bg (fun w hs => trivial) ?_
 exact sy_to (h1111111100110000 (a1, c1, a2, c2, a3, c3, a4, c4, b9, b10)) (by repeat' first | exact Sub.nil | apply Sub.cons | rfl | (simp [lk]; omega)) (fun _ h => St.sub ((h.pull b9).pull b10))
 exact sy_stop
 refine sy_have (β := Option Addr × Nat × Option Addr × Nat × Option Addr × Nat × Nat × Nat × Nat × Nat) pl7_3_1111111011110000 (fun ⟨a1, c1, a2, c2, a3, c3, b7, b8, b9, b10⟩ => ([(10, .pointer (some ⟨b10, 0, none⟩)), (9, .pointer (some ⟨b9, 0, none⟩)), (8, .pointer (some ⟨b8, 0, none⟩)), (7, .pointer (some ⟨b7, 0, none⟩)), (32, g.v (g.sl a3 c3)), (30, c.v (c.sl a2 c2)), (28, g.v (g.sl a1 c1)), (2, .int .i64 k), (3, .pointer (some ⟨b3, 0, none⟩)), (4, .pointer (some ⟨b4, 0, none⟩)), (27, g.v (g.sl ag cg)), (29, c.v (c.sl ah ch)), (31, g.v (g.sl ag cg)), (33, c.v (c.sl ah ch))], (b10, cel 63 ([.int .i64 0, .int .i64 0, .slice none 0 0])) :: (b9, cel 59 ([.int .i64 0, .int .i64 0, .slice none 0 0])) :: (b8, cel 28 ([.int .i64 0, .int .i64 0, .slice none 0 0])) :: (b7, cel 25 ([.int .i64 0, .int .i64 0, .slice none 0 0])) :: (b4, cel 28 (ctl c (c.sl ah ch))) :: (b3, cel 25 (gtl g (g.sl ag cg))) :: H, RowsA a3 5 (grows g.grs) :: RowsA a2 5 (hrows c.hs) :: RowsA a1 5 (grows g.grs) :: R, [(6, Ld Try.prog 28 ⟨b4, 0, none⟩ (c.v (c.sl ah ch)))])) (fun v9 => ?_) (fun h1111111011110000 => ?_)
 obtain ⟨a1, c1, a2, c2, a3, c3, b7, b8, b9, b10⟩ := v9
 dsimp only
 unfold pl7_3_1111111011110000
 refine cl rfl cal28 rfl rfl (c_come c ah ch (by omega) _ _) ?_
 rintro _ _ R1 ⟨a4, c4, rfl, rfl, hR1⟩
 obtain rfl := hR1.symm
 clear hR1
 refine bg (fun w hs => ⟨trivial, trivial⟩) ?_
 exact sy_to (h1111111111110000 (a1, c1, a2, c2, a3, c3, a4, c4, b7, b8, b9, b10)) (by repeat' first | exact Sub.nil | apply Sub.cons | rfl | (simp [lk]; omega)) (fun _ h => St.sub ((((h.pull b7).pull b8).pull b9).pull b10))
 refine sy_have (β := Option Addr × Nat × Option Addr × Nat × Option Addr × Nat × Nat × Nat × Nat) pl7_3_1111111011100000 (fun ⟨a1, c1, a2, c2, a3, c3, b7, b8, b9⟩ => ([(9, .pointer (some ⟨b9, 0, none⟩)), (8, .pointer (some ⟨b8, 0, none⟩)), (7, .pointer (some ⟨b7, 0, none⟩)), (32, g.v (g.sl a3 c3)), (30, c.v (c.sl a2 c2)), (28, g.v (g.sl a1 c1)), (2, .int .i64 k), (3, .pointer (some ⟨b3, 0, none⟩)), (4, .pointer (some ⟨b4, 0, none⟩)), (27, g.v (g.sl ag cg)), (29, c.v (c.sl ah ch)), (31, g.v (g.sl ag cg)), (33, c.v (c.sl ah ch))], (b9, cel 59 ([.int .i64 0, .int .i64 0, .slice none 0 0])) :: (b8, cel 28 ([.int .i64 0, .int .i64 0, .slice none 0 0])) :: (b7, cel 25 ([.int .i64 0, .int .i64 0, .slice none 0 0])) :: (b4, cel 28 (ctl c (c.sl ah ch))) :: (b3, cel 25 (gtl g (g.sl ag cg))) :: H, RowsA a3 5 (grows g.grs) :: RowsA a2 5 (hrows c.hs) :: RowsA a1 5 (grows g.grs) :: R, [(6, Ld Try.prog 28 ⟨b4, 0, none⟩ (c.v (c.sl ah ch)))])) (fun v9 => ?_) (fun h1111111011100000 => ?_)
 obtain ⟨a1, c1, a2, c2, a3, c3, b7, b8, b9⟩ := v9
 dsimp only
 unfold pl7_3_1111111011100000
 refine sy_any ?_
 refine sy_alt ?_ ?_
 refine cl rfl cal28 rfl rfl (c_come c ah ch (by omega) _ _) ?_
 rintro _ _ R1 ⟨a4, c4, rfl, rfl, hR1⟩
 obtain rfl := hR1.symm
 clear hR1
 refine bg (fun w hs => ⟨trivial, trivial⟩) ?_
 exact sy_to (h1111111111100000 (a1, c1, a2, c2, a3, c3, a4, c4, b7, b8, b9)) (by repeat' first | exact Sub.nil | apply Sub.cons | rfl | (simp [lk]; omega)) (fun _ h => St.sub (((h.pull b7).pull b8).pull b9))
 refine sy_alt ?_ ?_
 refine alc rfl zl63 rfl (fun b10 => ?_)
 refine bg (fun w hs => ⟨((lhA (ctl c (c.sl ah ch)) ag28 rfl rfl rfl)) w hs, trivial⟩) ?_
 exact sy_to (h1111111011110000 (a1, c1, a2, c2, a3, c3, b7, b8, b9, b10)) (by repeat' first | exact Sub.nil | apply Sub.cons | rfl | (simp [lk]; omega)) (fun _ h => St.sub ((((h.pull b7).pull b8).pull b9).pull b10))
 exact sy_stop
 refine sy_have (β := Option Addr × Nat × Option Addr × Nat × Option Addr × Nat × Nat × Nat × Nat) pl7_3_1111111011010000 (fun ⟨a1, c1, a2, c2, a3, c3, b7, b8, b10⟩ => ([(10, .pointer (some ⟨b10, 0, none⟩)), (8, .pointer (some ⟨b8, 0, none⟩)), (7, .pointer (some ⟨b7, 0, none⟩)), (32, g.v (g.sl a3 c3)), (30, c.v (c.sl a2 c2)), (28, g.v (g.sl a1 c1)), (2, .int .i64 k), (3, .pointer (some ⟨b3, 0, none⟩)), (4, .pointer (some ⟨b4, 0, none⟩)), (27, g.v (g.sl ag cg)), (29, c.v (c.sl ah ch)), (31, g.v (g.sl ag cg)), (33, c.v (c.sl ah ch))], (b10, cel 63 ([.int .i64 0, .int .i64 0, .slice none 0 0])) :: (b8, cel 28 ([.int .i64 0, .int .i64 0, .slice none 0 0])) :: (b7, cel 25 ([.int .i64 0, .int .i64 0, .slice none 0 0])) :: (b4, cel 28 (ctl c (c.sl ah ch))) :: (b3, cel 25 (gtl g (g.sl ag cg))) :: H, RowsA a3 5 (grows g.grs) :: RowsA a2 5 (hrows c.hs) :: RowsA a1 5 (grows g.grs) :: R, [(6, Ld Try.prog 28 ⟨b4, 0, none⟩ (c.v (c.sl ah ch)))])) (fun v9 => ?_) (fun h1111111011010000 => ?_)
 obtain ⟨a1, c1, a2, c2, a3, c3, b7, b8, b10⟩ := v9
 dsimp only
 unfold pl7_3_1111111011010000
 refine sy_any ?_
 refine sy_alt ?_ ?_
 refine cl rfl cal28 rfl rfl (c_come c ah ch (by omega) _ _) ?_
 rintro _ _ R1 ⟨a4, c4, rfl, rfl, hR1⟩
 obtain rfl := hR1.symm
 clear hR1
 refine bg (fun w hs => ⟨trivial, trivial⟩) ?_
 exact sy_to (h1111111111010000 (a1, c1, a2, c2, a3, c3, a4, c4, b7, b8, b10)) (by repeat' first | exact Sub.nil | apply Sub.cons | rfl | (simp [lk]; omega)) (fun _ h => St.sub (((h.pull b7).pull b8).pull b10))
 refine sy_alt ?_ ?_
 refine alc rfl zl59 rfl (fun b9 => ?_)
 refine bg (fun w hs => ⟨((lhA (ctl c (c.sl ah ch)) ag28 rfl rfl rfl)) w hs, trivial⟩) ?_
 exact sy_to (h1111111011110000 (a1, c1, a2, c2, a3, c3, b7, b8, b9, b10)) (by repeat' first | exact Sub.nil | apply Sub.cons | rfl | (simp [lk]; omega)) (fun _ h => St.sub ((((h.pull b7).pull b8).pull b9).pull b10))
 exact sy_stop
 refine sy_have (β := Option Addr × Nat × Option Addr × Nat × Option Addr × Nat × Nat × Nat) pl7_3_1111111011000000 (fun ⟨a1, c1, a2, c2, a3, c3, b7, b8⟩ => ([(8, .pointer (some ⟨b8, 0, none⟩)), (7, .pointer (some ⟨b7, 0, none⟩)), (32, g.v (g.sl a3 c3)), (30, c.v (c.sl a2 c2)), (28, g.v (g.sl a1 c1)), (2, .int .i64 k), (3, .pointer (some ⟨b3, 0, none⟩)), (4, .pointer (some ⟨b4, 0, none⟩)), (27, g.v (g.sl ag cg)), (29, c.v (c.sl ah ch)), (31, g.v (g.sl ag cg)), (33, c.v (c.sl ah ch))], (b8, cel 28 ([.int .i64 0, .int .i64 0, .slice none 0 0])) :: (b7, cel 25 ([.int .i64 0, .int .i64 0, .slice none 0 0])) :: (b4, cel 28 (ctl c (c.sl ah ch))) :: (b3, cel 25 (gtl g (g.sl ag cg))) :: H, RowsA a3 5 (grows g.grs) :: RowsA a2 5 (hrows c.hs) :: RowsA a1 5 (grows g.grs) :: R, [(6, Ld Try.prog 28 ⟨b4, 0, none⟩ (c.v (c.sl ah ch)))])) (fun v9 => ?_) (fun h1111111011000000 => ?_)
 obtain ⟨a1, c1, a2, c2, a3, c3, b7, b8⟩ := v9
 dsimp only
 unfold pl7_3_1111111011000000
 refine sy_any ?_
 refine sy_alt ?_ ?_
 refine cl rfl cal28 rfl rfl (c_come c ah ch (by omega) _ _) ?_
 rintro _ _ R1 ⟨a4, c4, rfl, rfl, hR1⟩
 obtain rfl := hR1.symm
 clear hR1
 refine bg (fun w hs => ⟨trivial, trivial⟩) ?_
 exact sy_to (h1111111111000000 (a1, c1, a2, c2, a3, c3, a4, c4, b7, b8)) (by repeat' first | exact Sub.nil | apply Sub.cons | rfl | (simp [lk]; omega)) (fun _ h => St.sub ((h.pull b7).pull b8))
 refine sy_alt ?_ ?_
 refine alc rfl zl59 rfl (fun b9 => ?_)
 refine bg (fun w hs => ⟨((lhA (ctl c (c.sl ah ch)) ag28 rfl rfl rfl)) w hs, trivial⟩) ?_
 exact sy_to (h1111111011100000 (a1, c1, a2, c2, a3, c3, b7, b8, b9)) (by repeat' first | exact Sub.nil | apply Sub.cons | rfl | (simp [lk]; omega)) (fun _ h => St.sub (((h.pull b7).pull b8).pull b9))
 refine sy_alt ?_ ?_
 refine alc rfl zl63 rfl (fun b10 => ?_)
 refine bg (fun w hs => ⟨((lhA (ctl c (c.sl ah ch)) ag28 rfl rfl rfl)) w hs, trivial⟩) ?_
 exact sy_to (h1111111011010000 (a1, c1, a2, c2, a3, c3, b7, b8, b10)) (by repeat' first | exact Sub.nil | apply Sub.cons | rfl | (simp [lk]; omega)) (fun _ h => St.sub (((h.pull b7).pull b8).pull b10))
 exact sy_stop
 refine sy_have (β := Option Addr × Nat × Option Addr × Nat × Option Addr × Nat × Nat × Nat × Nat) pl7_3_1111111010110000 (fun ⟨a1, c1, a2, c2, a3, c3, b7, b9, b10⟩ => ([(10, .pointer (some ⟨b10, 0, none⟩)), (9, .pointer (some ⟨b9, 0, none⟩)), (7, .pointer (some ⟨b7, 0, none⟩)), (32, g.v (g.sl a3 c3)), (30, c.v (c.sl a2 c2)), (28, g.v (g.sl a1 c1)), (2, .int .i64 k), (3, .pointer (some ⟨b3, 0, none⟩)), (4, .pointer (some ⟨b4, 0, none⟩)), (27, g.v (g.sl ag cg)), (29, c.v (c.sl ah ch)), (31, g.v (g.sl ag cg)), (33, c.v (c.sl ah ch))], (b10, cel 63 ([.int .i64 0, .int .i64 0, .slice none 0 0])) :: (b9, cel 59 ([.int .i64 0, .int .i64 0, .slice none 0 0])) :: (b7, cel 25 ([.int .i64 0, .int .i64 0, .slice none 0 0])) :: (b4, cel 28 (ctl c (c.sl ah ch))) :: (b3, cel 25 (gtl g (g.sl ag cg))) :: H, RowsA a3 5 (grows g.grs) :: RowsA a2 5 (hrows c.hs) :: RowsA a1 5 (grows g.grs) :: R, [(6, Ld Try.prog 28 ⟨b4, 0, none⟩ (c.v (c.sl ah ch)))])) (fun v9 => ?_) (fun h1111111010110000 => ?_)
 obtain ⟨a1, c1, a2, c2, a3, c3, b7, b9, b10⟩ := v9
 dsimp only
 unfold pl7_3_1111111010110000
 refine sy_any ?_
 refine sy_alt ?_ ?_
 refine cl rfl cal28 rfl rfl (c_come c ah ch (by omega) _ _) ?_
 rintro _ _ R1 ⟨a4, c4, rfl, rfl, hR1⟩
 obtain rfl := hR1.symm
 clear hR1
 refine bg (fun w hs => ⟨trivial, trivial⟩) ?_
 exact sy_to (h1111111110110000 (a1, c1, a2, c2, a3, c3, a4, c4, b7, b9, b10)) (by repeat' first | exact Sub.nil | apply Sub.cons | rfl | (simp [lk]; omega)) (fun _ h => St.sub (((h.pull b7).pull b9).pull b10))
 refine sy_alt ?_ ?_
 refine alc rfl zl28 rfl (fun b8 => ?_)
 refine bg (fun w hs => ⟨((lhA (ctl c (c.sl ah ch)) ag28 rfl rfl rfl)) w hs, trivial⟩) ?_
 exact sy_to (h1111111011110000 (a1, c1, a2, c2, a3, c3, b7, b8, b9, b10)) (by repeat' first | exact Sub.nil | apply Sub.cons | rfl | (simp [lk]; omega)) (fun _ h => St.sub ((((h.pull b7).pull b8).pull b9).pull b10))
 exact sy_stop
 refine sy_have (β := Option Addr × Nat × Option Addr × Nat × Option Addr × Nat × Nat × Nat) pl7_3_1111111010100000 (fun ⟨a1, c1, a2, c2, a3, c3, b7, b9⟩ => ([(9, .pointer (some ⟨b9, 0, none⟩)), (7, .pointer (some ⟨b7, 0, none⟩)), (32, g.v (g.sl a3 c3)), (30, c.v (c.sl a2 c2)), (28, g.v (g.sl a1 c1)), (2, .int .i64 k), (3, .pointer (some ⟨b3, 0, none⟩)), (4, .pointer (some ⟨b4, 0, none⟩)), (27, g.v (g.sl ag cg)), (29, c.v (c.sl ah ch)), (31, g.v (g.sl ag cg)), (33, c.v (c.sl ah ch))], (b9, cel 59 ([.int .i64 0, .int .i64 0, .slice none 0 0])) :: (b7, cel 25 ([.int .i64 0, .int .i64 0, .slice none 0 0])) :: (b4, cel 28 (ctl c (c.sl ah ch))) :: (b3, cel 25 (gtl g (g.sl ag cg))) :: H, RowsA a3 5 (grows g.grs) :: RowsA a2 5 (hrows c.hs) :: RowsA a1 5 (grows g.grs) :: R, [(6, Ld Try.prog 28 ⟨b4, 0, none⟩ (c.v (c.sl ah ch)))])) (fun v9 => ?_) (fun h1111111010100000 => ?_)
 obtain ⟨a1, c1, a2, c2, a3, c3, b7, b9⟩ := v9
 dsimp only
 unfold pl7_3_1111111010100000
 refine sy_any ?_
 refine sy_alt ?_ ?_
 refine cl rfl cal28 rfl rfl (c_come c ah ch (by omega) _ _) ?_
 rintro _ _ R1 ⟨a4, c4, rfl, rfl, hR1⟩
 obtain rfl := hR1.symm
 clear hR1
 refine bg (fun w hs => ⟨trivial, trivial⟩) ?_
 exact sy_to (h1111111110100000 (a1, c1, a2, c2, a3, c3, a4, c4, b7, b9)) (by repeat' first | exact Sub.nil | apply Sub.cons | rfl | (simp [lk]; omega)) (fun _ h => St.sub ((h.pull b7).pull b9))
 refine sy_alt ?_ ?_
 refine alc rfl zl28 rfl (fun b8 => ?_)
 refine bg (fun w hs => ⟨((lhA (ctl c (c.sl ah ch)) ag28 rfl rfl rfl)) w hs, trivial⟩) ?_
 exact sy_to (h1111111011100000 (a1, c1, a2, c2, a3, c3, b7, b8, b9)) (by repeat' first | exact Sub.nil | apply Sub.cons | rfl | (simp [lk]; omega)) (fun _ h => St.sub (((h.pull b7).pull b8).pull b9))
 refine sy_alt ?_ ?_
 refine alc rfl zl63 rfl (fun b10 => ?_)
 refine bg (fun w hs => ⟨((lhA (ctl c (c.sl ah ch)) ag28 rfl rfl rfl)) w hs, trivial⟩) ?_
 exact sy_to (h1111111010110000 (a1, c1, a2, c2, a3, c3, b7, b9, b10)) (by repeat' first | exact Sub.nil | apply Sub.cons | rfl | (simp [lk]; omega)) (fun _ h => St.sub (((h.pull b7).pull b9).pull b10))
 exact sy_stop
 refine sy_have (β := Option Addr × Nat × Option Addr × Nat × Option Addr × Nat × Nat × Nat) pl7_3_1111111010010000 (fun ⟨a1, c1, a2, c2, a3, c3, b7, b10⟩ => ([(10, .pointer (some ⟨b10, 0, none⟩)), (7, .pointer (some ⟨b7, 0, none⟩)), (32, g.v (g.sl a3 c3)), (30, c.v (c.sl a2 c2)), (28, g.v (g.sl a1 c1)), (2, .int .i64 k), (3, .pointer (some ⟨b3, 0, none⟩)), (4, .pointer (some ⟨b4, 0, none⟩)), (27, g.v (g.sl ag cg)), (29, c.v (c.sl ah ch)), (31, g.v (g.sl ag cg)), (33, c.v (c.sl ah ch))], (b10, cel 63 ([.int .i64 0, .int .i64 0, .slice none 0 0])) :: (b7, cel 25 ([.int .i64 0, .int .i64 0, .slice none 0 0])) :: (b4, cel 28 (ctl c (c.sl ah ch))) :: (b3, cel 25 (gtl g (g.sl ag cg))) :: H, RowsA a3 5 (grows g.grs) :: RowsA a2 5 (hrows c.hs) :: RowsA a1 5 (grows g.grs) :: R, [(6, Ld Try.prog 28 ⟨b4, 0, none⟩ (c.v (c.sl ah ch)))])) (fun v9 => ?_) (fun h1111111010010000 => ?_)
 obtain ⟨a1, c1, a2, c2, a3, c3, b7, b10⟩ := v9
 dsimp only
 unfold pl7_3_1111111010010000
 refine sy_any ?_
 refine sy_alt ?_ ?_
 refine cl rfl cal28 rfl rfl (c_come c ah ch (by omega) _ _) ?_
 rintro _ _ R1 ⟨a4, c4, rfl, rfl, hR1⟩
 obtain rfl := hR1.symm
 clear hR1
 refine bg (fun w hs => ⟨trivial, trivial⟩) ?_
 exact sy_to (h1111111110010000 (a1, c1, a2, c2, a3, c3, a4, c4, b7, b10)) (by repeat' first | exact Sub.nil | apply Sub.cons | rfl | (simp [lk]; omega)) (fun _ h => St.sub ((h.pull b7).pull b10))
 refine sy_alt ?_ ?_
 refine alc rfl zl28 rfl (fun b8 => ?_)
 refine bg (fun w hs => ⟨((lhA (ctl c (c.sl ah ch)) ag28 rfl rfl rfl)) w hs, trivial⟩) ?_
 exact sy_to (h1111111011010000 (a1, c1, a2, c2, a3, c3, b7, b8, b10)) (by repeat' first | exact Sub.nil | apply Sub.cons | rfl | (simp [lk]; omega)) (fun _ h => St.sub (((h.pull b7).pull b8).pull b10))
 refine sy_alt ?_ ?_
 refine alc rfl zl59 rfl (fun b9 => ?_)
 refine bg (fun w hs => ⟨((lhA (ctl c (c.sl ah ch)) ag28 rfl rfl rfl)) w hs, trivial⟩) ?_
 exact sy_to (h1111111010110000 (a1, c1, a2, c2, a3, c3, b7, b9, b10)) (by repeat' first | exact Sub.nil | apply Sub.cons | rfl | (simp [lk]; omega)) (fun _ h => St.sub (((h.pull b7).pull b9).pull b10))
 exact sy_stop
 refine sy_have (β := Option Addr × Nat × Option Addr × Nat × Option Addr × Nat × Nat) pl7_3_1111111010000000 (fun ⟨a1, c1, a2, c2, a3, c3, b7⟩ => ([(7, .pointer (some ⟨b7, 0, none⟩)), (32, g.v (g.sl a3 c3)), (30, c.v (c.sl a2 c2)), (28, g.v (g.sl a1 c1)), (2, .int .i64 k), (3, .pointer (some ⟨b3, 0, none⟩)), (4, .pointer (some ⟨b4, 0, none⟩)), (27, g.v (g.sl ag cg)), (29, c.v (c.sl ah ch)), (31, g.v (g.sl ag cg)), (33, c.v (c.sl ah ch))], (b7, cel 25 ([.int .i64 0, .int .i64 0, .slice none 0 0])) :: (b4, cel 28 (ctl c (c.sl ah ch))) :: (b3, cel 25 (gtl g (g.sl ag cg))) :: H, RowsA a3 5 (grows g.grs) :: RowsA a2 5 (hrows c.hs) :: RowsA a1 5 (grows g.grs) :: R, [(6, Ld Try.prog 28 ⟨b4, 0, none⟩ (c.v (c.sl ah ch)))])) (fun v9 => ?_) (fun h1111111010000000 => ?_)
 obtain ⟨a1, c1, a2, c2, a3, c3, b7⟩ := v9
 dsimp only
 unfold pl7_3_1111111010000000
 refine sy_any ?_
 refine sy_alt ?_ ?_
 refine cl rfl cal28 rfl rfl (c_come c ah ch (by omega) _ _) ?_
 rintro _ _ R1 ⟨a4, c4, rfl, rfl, hR1⟩
 obtain rfl := hR1.symm
 clear hR1
 refine bg (fun w hs => ⟨trivial, trivial⟩) ?_
 exact sy_to (h1111111110000000 (a1, c1, a2, c2, a3, c3, a4, c4, b7)) (by repeat' first | exact Sub.nil | apply Sub.cons | rfl | (simp [lk]; omega)) (fun _ h => St.sub (h.pull b7))
 refine sy_alt ?_ ?_
 refine alc rfl zl28 rfl (fun b8 => ?_)
 refine bg (fun w hs => ⟨((lhA (ctl c (c.sl ah ch)) ag28 rfl rfl rfl)) w hs, trivial⟩) ?_
 exact sy_to (h1111111011000000 (a1, c1, a2, c2, a3, c3, b7, b8)) (by repeat' first | exact Sub.nil | apply Sub.cons | rfl | (simp [lk]; omega)) (fun _ h => St.sub ((h.pull b7).pull b8))
 refine sy_alt ?_ ?_
 refine alc rfl zl59 rfl (fun b9 => ?_)
 refine bg (fun w hs => ⟨((lhA (ctl c (c.sl ah ch)) ag28 rfl rfl rfl)) w hs, trivial⟩) ?_
 exact sy_to (h1111111010100000 (a1, c1, a2, c2, a3, c3, b7, b9)) (by repeat' first | exact Sub.nil | apply Sub.cons | rfl | (simp [lk]; omega)) (fun _ h => St.sub ((h.pull b7).pull b9))
 refine sy_alt ?_ ?_
 refine alc rfl zl63 rfl (fun b10 => ?_)
 refine bg (fun w hs => ⟨((lhA (ctl c (c.sl ah ch)) ag28 rfl rfl rfl)) w hs, trivial⟩) ?_
 exact sy_to (h1111111010010000 (a1, c1, a2, c2, a3, c3, b7, b10)) (by repeat' first | exact Sub.nil | apply Sub.cons | rfl | (simp [lk]; omega)) (fun _ h => St.sub ((h.pull b7).pull b10))
 exact sy_stop
 refine sy_have (β := Option Addr × Nat × Option Addr × Nat × Option Addr × Nat × Nat × Nat × Nat) pl7_3_1111111001110000 (fun ⟨a1, c1, a2, c2, a3, c3, b8, b9, b10⟩ => ([(10, .pointer (some ⟨b10, 0, none⟩)), (9, .pointer (some ⟨b9, 0, none⟩)), (8, .pointer (some ⟨b8, 0, none⟩)), (32, g.v (g.sl a3 c3)), (30, c.v (c.sl a2 c2)), (28, g.v (g.sl a1 c1)), (2, .int .i64 k), (3, .pointer (some ⟨b3, 0, none⟩)), (4, .pointer (some ⟨b4, 0, none⟩)), (27, g.v (g.sl ag cg)), (29, c.v (c.sl ah ch)), (31, g.v (g.sl ag cg)), (33, c.v (c.sl ah ch))], (b10, cel 63 ([.int .i64 0, .int .i64 0, .slice none 0 0])) :: (b9, cel 59 ([.int .i64 0, .int .i64 0, .slice none 0 0])) :: (b8, cel 28 ([.int .i64 0, .int .i64 0, .slice none 0 0])) :: (b4, cel 28 (ctl c (c.sl ah ch))) :: (b3, cel 25 (gtl g (g.sl ag cg))) :: H, RowsA a3 5 (grows g.grs) :: RowsA a2 5 (hrows c.hs) :: RowsA a1 5 (grows g.grs) :: R, [(6, Ld Try.prog 28 ⟨b4, 0, none⟩ (c.v (c.sl ah ch)))])) (fun v9 => ?_) (fun h1111111001110000 => ?_)
 obtain ⟨a1, c1, a2, c2, a3, c3, b8, b9, b10⟩ := v9
 dsimp only
 unfold pl7_3_1111111001110000
 refine sy_any ?_
 refine sy_alt ?_ ?_
 refine cl rfl cal28 rfl rfl (c_come c ah ch (by omega) _ _) ?_
 rintro _ _ R1 ⟨a4, c4, rfl, rfl, hR1⟩
 obtain rfl := hR1.symm
 clear hR1
 refine bg (fun w hs => ⟨trivial, trivial⟩) ?_
 exact sy_to (h1111111101110000 (a1, c1, a2, c2, a3, c3, a4, c4, b8, b9, b10)) (by repeat' first | exact Sub.nil | apply Sub.cons | rfl | (simp [lk]; omega)) (fun _ h => St.sub (((h.pull b8).pull b9).pull b10))
 refine sy_alt ?_ ?_
 refine alc rfl zl25 rfl (fun b7 => ?_)
 refine bg (fun w hs => ⟨((lhA (ctl c (c.sl ah ch)) ag28 rfl rfl rfl)) w hs, trivial⟩) ?_
 exact sy_to (h1111111011110000 (a1, c1, a2, c2, a3, c3, b7, b8, b9, b10)) (by repeat' first | exact Sub.nil | apply Sub.cons | rfl | (simp [lk]; omega)) (fun _ h => St.sub ((((h.pull b7).pull b8).pull b9).pull b10))
 exact sy_stop
 refine sy_have (β := Option Addr × Nat × Option Addr × Nat × Option Addr × Nat × Nat × Nat) pl7_3_1111111001100000 (fun ⟨a1, c1, a2, c2, a3, c3, b8, b9⟩ => ([(9, .pointer (some ⟨b9, 0, none⟩)), (8, .pointer (some ⟨b8, 0, none⟩)), (32, g.v (g.sl a3 c3)), (30, c.v (c.sl a2 c2)), (28, g.v (g.sl a1 c1)), (2, .int .i64 k), (3, .pointer (some ⟨b3, 0, none⟩)), (4, .pointer (some ⟨b4, 0, none⟩)), (27, g.v (g.sl ag cg)), (29, c.v (c.sl ah ch)), (31, g.v (g.sl ag cg)), (33, c.v (c.sl ah ch))], (b9, cel 59 ([.int .i64 0, .int .i64 0, .slice none 0 0])) :: (b8, cel 28 ([.int .i64 0, .int .i64 0, .slice none 0 0])) :: (b4, cel 28 (ctl c (c.sl ah ch))) :: (b3, cel 25 (gtl g (g.sl ag cg))) :: H, RowsA a3 5 (grows g.grs) :: RowsA a2 5 (hrows c.hs) :: RowsA a1 5 (grows g.grs) :: R, [(6, Ld Try.prog 28 ⟨b4, 0, none⟩ (c.v (c.sl ah ch)))])) (fun v9 => ?_) (fun h1111111001100000 => ?_)
 obtain ⟨a1, c1, a2, c2, a3, c3, b8, b9⟩ := v9
 dsimp only
 unfold pl7_3_1111111001100000
 refine sy_any ?_
 refine sy_alt ?_ ?_
 refine cl rfl cal28 rfl rfl (c_come c ah ch (by omega) _ _) ?_
 rintro _ _ R1 ⟨a4, c4, rfl, rfl, hR1⟩
 obtain rfl := hR1.symm
 clear hR1
 refine bg (fun w hs => ⟨trivial, trivial⟩) ?_
 exact sy_to (h1111111101100000 (a1, c1, a2, c2, a3, c3, a4, c4, b8, b9)) (by repeat' first | exact Sub.nil | apply Sub.cons | rfl | (simp [lk]; omega)) (fun _ h => St.sub ((h.pull b8).pull b9))
 refine sy_alt ?_ ?_
 refine alc rfl zl25 rfl (fun b7 => ?_)
 refine bg (fun w hs => ⟨((lhA (ctl c (c.sl ah ch)) ag28 rfl rfl rfl)) w hs, trivial⟩) ?_
 exact sy_to (h1111111011100000 (a1, c1, a2, c2, a3, c3, b7, b8, b9)) (by repeat' first | exact Sub.nil | apply Sub.cons | rfl | (simp [lk]; omega)) (fun _ h => St.sub (((h.pull b7).pull b8).pull b9))
 refine sy_alt ?_ ?_
 refine alc rfl zl63 rfl (fun b10 => ?_)
 refine bg (fun w hs => ⟨((lhA (ctl c (c.sl ah ch)) ag28 rfl rfl rfl)) w hs, trivial⟩) ?_
 exact sy_to (h1111111001110000 (a1, c1, a2, c2, a3, c3, b8, b9, b10)) (by repeat' first | exact Sub.nil | apply Sub.cons | rfl | (simp [lk]; omega)) (fun _ h => St.sub (((h.pull b8).pull b9).pull b10))
 exact sy_stop
 refine sy_have (β := Option Addr × Nat × Option Addr × Nat × Option Addr × Nat × Nat × Nat) pl7_3_1111111001010000 (fun ⟨a1, c1, a2, c2, a3, c3, b8, b10⟩ => ([(10, .pointer (some ⟨b10, 0, none⟩)), (8, .pointer (some ⟨b8, 0, none⟩)), (32, g.v (g.sl a3 c3)), (30, c.v (c.sl a2 c2)), (28, g.v (g.sl a1 c1)), (2, .int .i64 k), (3, .pointer (some ⟨b3, 0, none⟩)), (4, .pointer (some ⟨b4, 0, none⟩)), (27, g.v (g.sl ag cg)), (29, c.v (c.sl ah ch)), (31, g.v (g.sl ag cg)), (33, c.v (c.sl ah ch))], (b10, cel 63 ([.int .i64 0, .int .i64 0, .slice none 0 0])) :: (b8, cel 28 ([.int .i64 0, .int .i64 0, .slice none 0 0])) :: (b4, cel 28 (ctl c (c.sl ah ch))) :: (b3, cel 25 (gtl g (g.sl ag cg))) :: H, RowsA a3 5 (grows g.grs) :: RowsA a2 5 (hrows c.hs) :: RowsA a1 5 (grows g.grs) :: R, [(6, Ld Try.prog 28 ⟨b4, 0, none⟩ (c.v (c.sl ah ch)))])) (fun v9 => ?_) (fun h1111111001010000 => ?_)
 obtain ⟨a1, c1, a2, c2, a3, c3, b8, b10⟩ := v9
 dsimp only
 unfold pl7_3_1111111001010000
 refine sy_any ?_
 refine sy_alt ?_ ?_
 refine cl rfl cal28 rfl rfl (c_come c ah ch (by omega) _ _) ?_
 rintro _ _ R1 ⟨a4, c4, rfl, rfl, hR1⟩
 obtain rfl := hR1.symm
 clear hR1
 refine bg (fun w hs => ⟨trivial, trivial⟩) ?_
 exact sy_to (h1111111101010000 (a1, c1, a2, c2, a3, c3, a4, c4, b8, b10)) (by repeat' first | exact Sub.nil | apply Sub.cons | rfl | (simp [lk]; omega)) (fun _ h => St.sub ((h.pull b8).pull b10))
 refine sy_alt ?_ ?_
 refine alc rfl zl25 rfl (fun b7 => ?_)
 refine bg (fun w hs => ⟨((lhA (ctl c (c.sl ah ch)) ag28 rfl rfl rfl)) w hs, trivial⟩) ?_
 exact sy_to (h1111111011010000 (a1, c1, a2, c2, a3, c3, b7, b8, b10)) (by repeat' first | exact Sub.nil | apply Sub.cons | rfl | (simp [lk]; omega)) (fun _ h => St.sub (((h.pull b7).pull b8).pull b10))
 refine sy_alt ?_ ?_
 refine alc rfl zl59 rfl (fun b9 => ?_)
 refine bg (fun w hs => ⟨((lhA (ctl c (c.sl ah ch)) ag28 rfl rfl rfl)) w hs, trivial⟩) ?_
 exact sy_to (h1111111001110000 (a1, c1, a2, c2, a3, c3, b8, b9, b10)) (by repeat' first | exact Sub.nil | apply Sub.cons | rfl | (simp [lk]; omega)) (fun _ h => St.sub (((h.pull b8).pull b9).pull b10))
 exact sy_stop
 refine sy_have (β := Option Addr × Nat × Option Addr × Nat × Option Addr × Nat × Nat) pl7_3_1111111001000000 (fun ⟨a1, c1, a2, c2, a3, c3, b8⟩ => ([(8, .pointer (some ⟨b8, 0, none⟩)), (32, g.v (g.sl a3 c3)), (30, c.v (c.sl a2 c2)), (28, g.v (g.sl a1 c1)), (2, .int .i64 k), (3, .pointer (some ⟨b3, 0, none⟩)), (4, .pointer (some ⟨b4, 0, none⟩)), (27, g.v (g.sl ag cg)), (29, c.v (c.sl ah ch)), (31, g.v (g.sl ag cg)), (33, c.v (c.sl ah ch))], (b8, cel 28 ([.int .i64 0, .int .i64 0, .slice none 0 0])) :: (b4, cel 28 (ctl c (c.sl ah ch))) :: (b3, cel 25 (gtl g (g.sl ag cg))) :: H, RowsA a3 5 (grows g.grs) :: RowsA a2 5 (hrows c.hs) :: RowsA a1 5 (grows g.grs) :: R, [(6, Ld Try.prog 28 ⟨b4, 0, none⟩ (c.v (c.sl ah ch)))])) (fun v9 => ?_) (fun h1111111001000000 => ?_)
 obtain ⟨a1, c1, a2, c2, a3, c3, b8⟩ := v9
 dsimp only
 unfold pl7_3_1111111001000000
 refine sy_any ?_
 refine sy_alt ?_ ?_
 refine cl rfl cal28 rfl rfl (c_come c ah ch (by omega) _ _) ?_
 rintro _ _ R1 ⟨a4, c4, rfl, rfl, hR1⟩
 obtain rfl := hR1.symm
 clear hR1
 refine bg (fun w hs => ⟨trivial, trivial⟩) ?_
 exact sy_to (h1111111101000000 (a1, c1, a2, c2, a3, c3, a4, c4, b8)) (by repeat' first | exact Sub.nil | apply Sub.cons | rfl | (simp [lk]; omega)) (fun _ h => St.sub (h.pull b8))
 refine sy_alt ?_ ?_
 refine alc rfl zl25 rfl (fun b7 => ?_)
 refine bg (fun w hs => ⟨((lhA (ctl c (c.sl ah ch)) ag28 rfl rfl rfl)) w hs, trivial⟩) ?_
 exact sy_to (h1111111011000000 (a1, c1, a2, c2, a3, c3, b7, b8)) (by repeat' first | exact Sub.nil | apply Sub.cons | rfl | (simp [lk]; omega)) (fun _ h => St.sub ((h.pull b7).pull b8))
 refine sy_alt ?_ ?_
 refine alc rfl zl59 rfl (fun b9 => ?_)
 refine bg (fun w hs => ⟨((lhA (ctl c (c.sl ah ch)) ag28 rfl rfl rfl)) w hs, trivial⟩) ?_
 exact sy_to (h1111111001100000 (a1, c1, a2, c2, a3, c3, b8, b9)) (by repeat' first | exact Sub.nil | apply Sub.cons | rfl | (simp [lk]; omega)) (fun _ h => St.sub ((h.pull b8).pull b9))
 refine sy_alt ?_ ?_
 refine alc rfl zl63 rfl (fun b10 => ?_)
 refine bg (fun w hs => ⟨((lhA (ctl c (c.sl ah ch)) ag28 rfl rfl rfl)) w hs, trivial⟩) ?_
 exact sy_to (h1111111001010000 (a1, c1, a2, c2, a3, c3, b8, b10)) (by repeat' first | exact Sub.nil | apply Sub.cons | rfl | (simp [lk]; omega)) (fun _ h => St.sub ((h.pull b8).pull b10))
 exact sy_stop
 refine sy_have (β := Option Addr × Nat × Option Addr × Nat × Option Addr × Nat × Nat × Nat) pl7_3_1111111000110000 (fun ⟨a1, c1, a2, c2, a3, c3, b9, b10⟩ => ([(10, .pointer (some ⟨b10, 0, none⟩)), (9, .pointer (some ⟨b9, 0, none⟩)), (32, g.v (g.sl a3 c3)), (30, c.v (c.sl a2 c2)), (28, g.v (g.sl a1 c1)), (2, .int .i64 k), (3, .pointer (some ⟨b3, 0, none⟩)), (4, .pointer (some ⟨b4, 0, none⟩)), (27, g.v (g.sl ag cg)), (29, c.v (c.sl ah ch)), (31, g.v (g.sl ag cg)), (33, c.v (c.sl ah ch))], (b10, cel 63 ([.int .i64 0, .int .i64 0, .slice none 0 0])) :: (b9, cel 59 ([.int .i64 0, .int .i64 0, .slice none 0 0])) :: (b4, cel 28 (ctl c (c.sl ah ch))) :: (b3, cel 25 (gtl g (g.sl ag cg))) :: H, RowsA a3 5 (grows g.grs) :: RowsA a2 5 (hrows c.hs) :: RowsA a1 5 (grows g.grs) :: R, [(6, Ld Try.prog 28 ⟨b4, 0, none⟩ (c.v (c.sl ah ch)))])) (fun v9 => ?_) (fun h1111111000110000 => ?_)
 obtain ⟨a1, c1, a2, c2, a3, c3, b9, b10⟩ := v9
 dsimp only
 unfold pl7_3_1111111000110000
 refine sy_any ?_
 refine sy_alt ?_ ?_
 refine cl rfl cal28 rfl rfl (c_come c ah ch (by omega) _ _) ?_
 rintro _ _ R1 ⟨a4, c4, rfl, rfl, hR1⟩
 obtain rfl := hR1.symm
 clear hR1
 refine bg (fun w hs => ⟨trivial, trivial⟩) ?_
 exact sy_to (h1111111100110000 (a1, c1, a2, c2, a3, c3, a4, c4, b9, b10)) (by repeat' first | exact Sub.nil | apply Sub.cons | rfl | (simp [lk]; omega)) (fun _ h => St.sub ((h.pull b9).pull b10))
 refine sy_alt ?_ ?_
 refine alc rfl zl25 rfl (fun b7 => ?_)
 refine bg (fun w hs => ⟨((lhA (ctl c (c.sl ah ch)) ag28 rfl rfl rfl)) w hs, trivial⟩) ?_
 exact sy_to (h1111111010110000 (a1, c1, a2, c2, a3, c3, b7, b9, b10)) (by repeat' first | exact Sub.nil | apply Sub.cons | rfl | (simp [lk]; omega)) (fun _ h => St.sub (((h.pull b7).pull b9).pull b10))
 refine sy_alt ?_ ?_
 refine alc rfl zl28 rfl (fun b8 => ?_)
 refine bg (fun w hs => ⟨((lhA (ctl c (c.sl ah ch)) ag28 rfl rfl rfl)) w hs, trivial⟩) ?_
 exact sy_to (h1111111001110000 (a1, c1, a2, c2, a3, c3, b8, b9, b10)) (by repeat' first | exact Sub.nil | apply Sub.cons | rfl | (simp [lk]; omega)) (fun _ h => St.sub (((h.pull b8).pull b9).pull b10))
 exact sy_stop
 refine sy_have (β := Option Addr × Nat × Option Addr × Nat × Option Addr × Nat × Nat) pl7_3_1111111000100000 (fun ⟨a1, c1, a2, c2, a3, c3, b9⟩ => ([(9, .pointer (some ⟨b9, 0, none⟩)), (32, g.v (g.sl a3 c3)), (30, c.v (c.sl a2 c2)), (28, g.v (g.sl a1 c1)), (2, .int .i64 k), (3, .pointer (some ⟨b3, 0, none⟩)), (4, .pointer (some ⟨b4, 0, none⟩)), (27, g.v (g.sl ag cg)), (29, c.v (c.sl ah ch)), (31, g.v (g.sl ag cg)), (33, c.v (c.sl ah ch))], (b9, cel 59 ([.int .i64 0, .int .i64 0, .slice none 0 0])) :: (b4, cel 28 (ctl c (c.sl ah ch))) :: (b3, cel 25 (gtl g (g.sl ag cg))) :: H, RowsA a3 5 (grows g.grs) :: RowsA a2 5 (hrows c.hs) :: RowsA a1 5 (grows g.grs) :: R, [(6, Ld Try.prog 28 ⟨b4, 0, none⟩ (c.v (c.sl ah ch)))])) (fun v9 => ?_) (fun h1111111000100000 => ?_)
 obtain ⟨a1, c1, a2, c2, a3, c3, b9⟩ := v9
 dsimp only
 unfold pl7_3_1111111000100000
 refine sy_any ?_
 refine sy_alt ?_ ?_
 refine cl rfl cal28 rfl rfl (c_come c ah ch (by omega) _ _) ?_
 rintro _ _ R1 ⟨a4, c4, rfl, rfl, hR1⟩
 obtain rfl := hR1.symm
 clear hR1
 refine bg (fun w hs => ⟨trivial, trivial⟩) ?_
 exact sy_to (h1111111100100000 (a1, c1, a2, c2, a3, c3, a4, c4, b9)) (by repeat' first | exact Sub.nil | apply Sub.cons | rfl | (simp [lk]; omega)) (fun _ h => St.sub (h.pull b9))
 refine sy_alt ?_ ?_
 refine alc rfl zl25 rfl (fun b7 => ?_)
 refine bg (fun w hs => ⟨((lhA (ctl c (c.sl ah ch)) ag28 rfl rfl rfl)) w hs, trivial⟩) ?_
 exact sy_to (h1111111010100000 (a1, c1, a2, c2, a3, c3, b7, b9)) (by repeat' first | exact Sub.nil | apply Sub.cons | rfl | (simp [lk]; omega)) (fun _ h => St.sub ((h.pull b7).pull b9))
 refine sy_alt ?_ ?_
 refine alc rfl zl28 rfl (fun b8 => ?_)
 refine bg (fun w hs => ⟨((lhA (ctl c (c.sl ah ch)) ag28 rfl rfl rfl)) w hs, trivial⟩) ?_
 exact sy_to (h1111111001100000 (a1, c1, a2, c2, a3, c3, b8, b9)) (by repeat' first | exact Sub.nil | apply Sub.cons | rfl | (simp [lk]; omega)) (fun _ h => St.sub ((h.pull b8).pull b9))
 refine sy_alt ?_ ?_
 refine alc rfl zl63 rfl (fun b10 => ?_)
 refine bg (fun w hs => ⟨((lhA (ctl c (c.sl ah ch)) ag28 rfl rfl rfl)) w hs, trivial⟩) ?_
 exact sy_to (h1111111000110000 (a1, c1, a2, c2, a3, c3, b9, b10)) (by repeat' first | exact Sub.nil | apply Sub.cons | rfl | (simp [lk]; omega)) (fun _ h => St.sub ((h.pull b9).pull b10))
 exact sy_stop
 refine sy_have (β := Option Addr × Nat × Option Addr × Nat × Option Addr × Nat × Nat) pl7_3_1111111000010000 (fun ⟨a1, c1, a2, c2, a3, c3, b10⟩ => ([(10, .pointer (some ⟨b10, 0, none⟩)), (32, g.v (g.sl a3 c3)), (30, c.v (c.sl a2 c2)), (28, g.v (g.sl a1 c1)), (2, .int .i64 k), (3, .pointer (some ⟨b3, 0, none⟩)), (4, .pointer (some ⟨b4, 0, none⟩)), (27, g.v (g.sl ag cg)), (29, c.v (c.sl ah ch)), (31, g.v (g.sl ag cg)), (33, c.v (c.sl ah ch))], (b10, cel 63 ([.int .i64 0, .int .i64 0, .slice none 0 0])) :: (b4, cel 28 (ctl c (c.sl ah ch))) :: (b3, cel 25 (gtl g (g.sl ag cg))) :: H, RowsA a3 5 (grows g.grs) :: RowsA a2 5 (hrows c.hs) :: RowsA a1 5 (grows g.grs) :: R, [(6, Ld Try.prog 28 ⟨b4, 0, none⟩ (c.v (c.sl ah ch)))])) (fun v9 => ?_) (fun h1111111000010000 => ?_)
 obtain ⟨a1, c1, a2, c2, a3, c3, b10⟩ := v9
 dsimp only
 unfold pl7_3_1111111000010000
 refine sy_any ?_
 refine sy_alt ?_ ?_
 refine cl rfl cal28 rfl rfl (c_come c ah ch (by omega) _ _) ?_
 rintro _ _ R1 ⟨a4, c4, rfl, rfl, hR1⟩
 obtain rfl := hR1.symm
 clear hR1
 refine bg (fun w hs => ⟨trivial, trivial⟩) ?_
 exact sy_to (h1111111100010000 (a1, c1, a2, c2, a3, c3, a4, c4, b10)) (by repeat' first | exact Sub.nil | apply Sub.cons | rfl | (simp [lk]; omega)) (fun _ h => St.sub (h.pull b10))
 refine sy_alt ?_ ?_
 refine alc rfl zl25 rfl (fun b7 => ?_)
 refine bg (fun w hs => ⟨((lhA (ctl c (c.sl ah ch)) ag28 rfl rfl rfl)) w hs, trivial⟩) ?_
 exact sy_to (h1111111010010000 (a1, c1, a2, c2, a3, c3, b7, b10)) (by repeat' first | exact Sub.nil | apply Sub.cons | rfl | (simp [lk]; omega)) (fun _ h => St.sub ((h.pull b7).pull b10))
 refine sy_alt ?_ ?_
 refine alc rfl zl28 rfl (fun b8 => ?_)
 refine bg (fun w hs => ⟨((lhA (ctl c (c.sl ah ch)) ag28 rfl rfl rfl)) w hs, trivial⟩) ?_
 exact sy_to (h1111111001010000 (a1, c1, a2, c2, a3, c3, b8, b10)) (by repeat' first | exact Sub.nil | apply Sub.cons | rfl | (simp [lk]; omega)) (fun _ h => St.sub ((h.pull b8).pull b10))
 refine sy_alt ?_ ?_
 refine alc rfl zl59 rfl (fun b9 => ?_)
 refine bg (fun w hs => ⟨((lhA (ctl c (c.sl ah ch)) ag28 rfl rfl rfl)) w hs, trivial⟩) ?_
 exact sy_to (h1111111000110000 (a1, c1, a2, c2, a3, c3, b9, b10)) (by repeat' first | exact Sub.nil | apply Sub.cons | rfl | (simp [lk]; omega)) (fun _ h => St.sub ((h.pull b9).pull b10))
 exact sy_stop
 refine sy_have (β := Option Addr × Nat × Option Addr × Nat × Nat × Nat × Nat × Nat) pl7_3_1111101011110000 (fun ⟨a1, c1, a2, c2, b7, b8, b9, b10⟩ => ([(10, .pointer (some ⟨b10, 0, none⟩)), (9, .pointer (some ⟨b9, 0, none⟩)), (8, .pointer (some ⟨b8, 0, none⟩)), (7, .pointer (some ⟨b7, 0, none⟩)), (30, c.v (c.sl a2 c2)), (28, g.v (g.sl a1 c1)), (2, .int .i64 k), (3, .pointer (some ⟨b3, 0, none⟩)), (4, .pointer (some ⟨b4, 0, none⟩)), (27, g.v (g.sl ag cg)), (29, c.v (c.sl ah ch)), (31, g.v (g.sl ag cg)), (33, c.v (c.sl ah ch))], (b10, cel 63 ([.int .i64 0, .int .i64 0, .slice none 0 0])) :: (b9, cel 59 ([.int .i64 0, .int .i64 0, .slice none 0 0])) :: (b8, cel 28 ([.int .i64 0, .int .i64 0, .slice none 0 0])) :: (b7, cel 25 ([.int .i64 0, .int .i64 0, .slice none 0 0])) :: (b4, cel 28 (ctl c (c.sl ah ch))) :: (b3, cel 25 (gtl g (g.sl ag cg))) :: H, RowsA a2 5 (hrows c.hs) :: RowsA a1 5 (grows g.grs) :: R, [(6, Ld Try.prog 28 ⟨b4, 0, none⟩ (c.v (c.sl ah ch))), (4, Ld Try.prog 25 ⟨b3, 0, none⟩ (g.v (g.sl ag cg)))])) (fun v9 => ?_) (fun h1111101011110000 => ?_)
 obtain ⟨a1, c1, a2, c2, b7, b8, b9, b10⟩ := v9
 dsimp only
 unfold pl7_3_1111101011110000
 refine cl rfl cal27 rfl rfl (c_theirs g ag cg (by omega) _ _) ?_
 rintro _ _ R1 ⟨a3, c3, rfl, rfl, hR1⟩
 obtain rfl := hR1.symm
 clear hR1
 refine bg (fun w hs => ⟨((lhA (ctl c (c.sl ah ch)) ag28 rfl rfl rfl)) w hs, trivial, trivial⟩) ?_
 exact sy_to (h1111111011110000 (a1, c1, a2, c2, a3, c3, b7, b8, b9, b10)) (by repeat' first | exact Sub.nil | apply Sub.cons | rfl | (simp [lk]; omega)) (fun _ h => St.sub ((((h.pull b7).pull b8).pull b9).pull b10))
 refine sy_have (β := Option Addr × Nat × Option Addr × Nat × Nat × Nat × Nat) pl7_3_1111101011100000 (fun ⟨a1, c1, a2, c2, b7, b8, b9⟩ => ([(9, .pointer (some ⟨b9, 0, none⟩)), (8, .pointer (some ⟨b8, 0, none⟩)), (7, .pointer (some ⟨b7, 0, none⟩)), (30, c.v (c.sl a2 c2)), (28, g.v (g.sl a1 c1)), (2, .int .i64 k), (3, .pointer (some ⟨b3, 0, none⟩)), (4, .pointer (some ⟨b4, 0, none⟩)), (27, g.v (g.sl ag cg)), (29, c.v (c.sl ah ch)), (31, g.v (g.sl ag cg)), (33, c.v (c.sl ah ch))], (b9, cel 59 ([.int .i64 0, .int .i64 0, .slice none 0 0])) :: (b8, cel 28 ([.int .i64 0, .int .i64 0, .slice none 0 0])) :: (b7, cel 25 ([.int .i64 0, .int .i64 0, .slice none 0 0])) :: (b4, cel 28 (ctl c (c.sl ah ch))) :: (b3, cel 25 (gtl g (g.sl ag cg))) :: H, RowsA a2 5 (hrows c.hs) :: RowsA a1 5 (grows g.grs) :: R, [(6, Ld Try.prog 28 ⟨b4, 0, none⟩ (c.v (c.sl ah ch))), (4, Ld Try.prog 25 ⟨b3, 0, none⟩ (g.v (g.sl ag cg)))])) (fun v9 => ?_) (fun h1111101011100000 => ?_)
 obtain ⟨a1, c1, a2, c2, b7, b8, b9⟩ := v9
 dsimp only
 unfold pl7_3_1111101011100000
 refine sy_any ?_
 refine sy_alt ?_ ?_
 refine cl rfl cal27 rfl rfl (c_theirs g ag cg (by omega) _ _) ?_
 rintro _ _ R1 ⟨a3, c3, rfl, rfl, hR1⟩
 obtain rfl := hR1.symm
 clear hR1
 refine bg (fun w hs => ⟨((lhA (ctl c (c.sl ah ch)) ag28 rfl rfl rfl)) w hs, trivial, trivial⟩) ?_
 exact sy_to (h1111111011100000 (a1, c1, a2, c2, a3, c3, b7, b8, b9)) (by repeat' first | exact Sub.nil | apply Sub.cons | rfl | (simp [lk]; omega)) (fun _ h => St.sub (((h.pull b7).pull b8).pull b9))
 refine sy_alt ?_ ?_
 refine alc rfl zl63 rfl (fun b10 => ?_)
 refine bg (fun w hs => ⟨((lhA (ctl c (c.sl ah ch)) ag28 rfl rfl rfl)) w hs, ((lhA (gtl g (g.sl ag cg)) ag25 rfl rfl rfl)) w hs, trivial⟩) ?_
 exact sy_to (h1111101011110000 (a1, c1, a2, c2, b7, b8, b9, b10)) (by repeat' first | exact Sub.nil | apply Sub.cons | rfl | (simp [lk]; omega)) (fun _ h => St.sub ((((h.pull b7).pull b8).pull b9).pull b10))
 exact sy_stop
 refine sy_have (β := Option Addr × Nat × Option Addr × Nat × Nat × Nat × Nat) pl7_3_1111101011010000 (fun ⟨a1, c1, a2, c2, b7, b8, b10⟩ => ([(10, .pointer (some ⟨b10, 0, none⟩)), (8, .pointer (some ⟨b8, 0, none⟩)), (7, .pointer (some ⟨b7, 0, none⟩)), (30, c.v (c.sl a2 c2)), (28, g.v (g.sl a1 c1)), (2, .int .i64 k), (3, .pointer (some ⟨b3, 0, none⟩)), (4, .pointer (some ⟨b4, 0, none⟩)), (27, g.v (g.sl ag cg)), (29, c.v (c.sl ah ch)), (31, g.v (g.sl ag cg)), (33, c.v (c.sl ah ch))], (b10, cel 63 ([.int .i64 0, .int .i64 0, .slice none 0 0])) :: (b8, cel 28 ([.int .i64 0, .int .i64 0, .slice none 0 0])) :: (b7, cel 25 ([.int .i64 0, .int .i64 0, .slice none 0 0])) :: (b4, cel 28 (ctl c (c.sl ah ch))) :: (b3, cel 25 (gtl g (g.sl ag cg))) :: H, RowsA a2 5 (hrows c.hs) :: RowsA a1 5 (grows g.grs) :: R, [(6, Ld Try.prog 28 ⟨b4, 0, none⟩ (c.v (c.sl ah ch))), (4, Ld Try.prog 25 ⟨b3, 0, none⟩ (g.v (g.sl ag cg)))])) (fun v9 => ?_) (fun h1111101011010000 => ?_)
 obtain ⟨a1, c1, a2, c2, b7, b8, b10⟩ := v9
 dsimp only
 unfold pl7_3_1111101011010000
 refine sy_any ?_
 refine sy_alt ?_ ?_
 refine cl rfl cal27 rfl rfl (c_theirs g ag cg (by omega) _ _) ?_
 rintro _ _ R1 ⟨a3, c3, rfl, rfl, hR1⟩
 obtain rfl := hR1.symm
 clear hR1
 refine bg (fun w hs => ⟨((lhA (ctl c (c.sl ah ch)) ag28 rfl rfl rfl)) w hs, trivial, trivial⟩) ?_
 exact sy_to (h1111111011010000 (a1, c1, a2, c2, a3, c3, b7, b8, b10)) (by repeat' first | exact Sub.nil | apply Sub.cons | rfl | (simp [lk]; omega)) (fun _ h => St.sub (((h.pull b7).pull b8).pull b10))
 refine sy_alt ?_ ?_
 refine alc rfl zl59 rfl (fun b9 => ?_)
 refine bg (fun w hs => ⟨((lhA (ctl c (c.sl ah ch)) ag28 rfl rfl rfl)) w hs, ((lhA (gtl g (g.sl ag cg)) ag25 rfl rfl rfl)) w hs, trivial⟩) ?_
 exact sy_to (h1111101011110000 (a1, c1, a2, c2, b7, b8, b9, b10)) (by repeat' first | exact Sub.nil | apply Sub.cons | rfl | (simp [lk]; omega)) (fun _ h => St.sub ((((h.pull b7).pull b8).pull b9).pull b10))
 exact sy_stop
 refine sy_have (β := Option Addr × Nat × Option Addr × Nat × Nat × Nat) pl7_3_1111101011000000 (fun ⟨a1, c1, a2, c2, b7, b8⟩ => ([(8, .pointer (some ⟨b8, 0, none⟩)), (7, .pointer (some ⟨b7, 0, none⟩)), (30, c.v (c.sl a2 c2)), (28, g.v (g.sl a1 c1)), (2, .int .i64 k), (3, .pointer (some ⟨b3, 0, none⟩)), (4, .pointer (some ⟨b4, 0, none⟩)), (27, g.v (g.sl ag cg)), (29, c.v (c.sl ah ch)), (31, g.v (g.sl ag cg)), (33, c.v (c.sl ah ch))], (b8, cel 28 ([.int .i64 0, .int .i64 0, .slice none 0 0])) :: (b7, cel 25 ([.int .i64 0, .int .i64 0, .slice none 0 0])) :: (b4, cel 28 (ctl c (c.sl ah ch))) :: (b3, cel 25 (gtl g (g.sl ag cg))) :: H, RowsA a2 5 (hrows c.hs) :: RowsA a1 5 (grows g.grs) :: R, [(6, Ld Try.prog 28 ⟨b4, 0, none⟩ (c.v (c.sl ah ch))), (4, Ld Try.prog 25 ⟨b3, 0, none⟩ (g.v (g.sl ag cg)))])) (fun v9 => ?_) (fun h1111101011000000 => ?_)
 obtain ⟨a1, c1, a2, c2, b7, b8⟩ := v9
 dsimp only
 unfold pl7_3_1111101011000000
 refine sy_any ?_
 refine sy_alt ?_ ?_
 refine cl rfl cal27 rfl rfl (c_theirs g ag cg (by omega) _ _) ?_
 rintro _ _ R1 ⟨a3, c3, rfl, rfl, hR1⟩
 obtain rfl := hR1.symm
 clear hR1
 refine bg (fun w hs => ⟨((lhA (ctl c (c.sl ah ch)) ag28 rfl rfl rfl)) w hs, trivial, trivial⟩) ?_
 exact sy_to (h1111111011000000 (a1, c1, a2, c2, a3, c3, b7, b8)) (by repeat' first | exact Sub.nil | apply Sub.cons | rfl | (simp [lk]; omega)) (fun _ h => St.sub ((h.pull b7).pull b8))
 refine sy_alt ?_ ?_
 refine alc rfl zl59 rfl (fun b9 => ?_)
 refine bg (fun w hs => ⟨((lhA (ctl c (c.sl ah ch)) ag28 rfl rfl rfl)) w hs, ((lhA (gtl g (g.sl ag cg)) ag25 rfl rfl rfl)) w hs, trivial⟩) ?_
 exact sy_to (h1111101011100000 (a1, c1, a2, c2, b7, b8, b9)) (by repeat' first | exact Sub.nil | apply Sub.cons | rfl | (simp [lk]; omega)) (fun _ h => St.sub (((h.pull b7).pull b8).pull b9))
 refine sy_alt ?_ ?_
 refine alc rfl zl63 rfl (fun b10 => ?_)
 refine bg (fun w hs => ⟨((lhA (ctl c (c.sl ah ch)) ag28 rfl rfl rfl)) w hs, ((lhA (gtl g (g.sl ag cg)) ag25 rfl rfl rfl)) w hs, trivial⟩) ?_
 exact sy_to (h1111101011010000 (a1, c1, a2, c2, b7, b8, b10)) (by repeat' first | exact Sub.nil | apply Sub.cons | rfl | (simp [lk]; omega)) (fun _ h => St.sub (((h.pull b7).pull b8).pull b10))
 exact sy_stop
 refine sy_have (β := Option Addr × Nat × Option Addr × Nat × Nat × Nat × Nat) pl7_3_1111101010110000 (fun ⟨a1, c1, a2, c2, b7, b9, b10⟩ => ([(10, .pointer (some ⟨b10, 0, none⟩)), (9, .pointer (some ⟨b9, 0, none⟩)), (7, .pointer (some ⟨b7, 0, none⟩)), (30, c.v (c.sl a2 c2)), (28, g.v (g.sl a1 c1)), (2, .int .i64 k), (3, .pointer (some ⟨b3, 0, none⟩)), (4, .pointer (some ⟨b4, 0, none⟩)), (27, g.v (g.sl ag cg)), (29, c.v (c.sl ah ch)), (31, g.v (g.sl ag cg)), (33, c.v (c.sl ah ch))], (b10, cel 63 ([.int .i64 0, .int .i64 0, .slice none 0 0])) :: (b9, cel 59 ([.int .i64 0, .int .i64 0, .slice none 0 0])) :: (b7, cel 25 ([.int .i64 0, .int .i64 0, .slice none 0 0])) :: (b4, cel 28 (ctl c (c.sl ah ch))) :: (b3, cel 25 (gtl g (g.sl ag cg))) :: H, RowsA a2 5 (hrows c.hs) :: RowsA a1 5 (grows g.grs) :: R, [(6, Ld Try.prog 28 ⟨b4, 0, none⟩ (c.v (c.sl ah ch))), (4, Ld Try.prog 25 ⟨b3, 0, none⟩ (g.v (g.sl ag cg)))])) (fun v9 => ?_) (fun h1111101010110000 => ?_)
 obtain ⟨a1, c1, a2, c2, b7, b9, b10⟩ := v9
 dsimp only
 unfold pl7_3_1111101010110000
 refine sy_any ?_
 refine sy_alt ?_ ?_
 refine cl rfl cal27 rfl rfl (c_theirs g ag cg (by omega) _ _) ?_
 rintro _ _ R1 ⟨a3, c3, rfl, rfl, hR1⟩
 obtain rfl := hR1.symm
 clear hR1
 refine bg (fun w hs => ⟨((lhA (ctl c (c.sl ah ch)) ag28 rfl rfl rfl)) w hs, trivial, trivial⟩) ?_
 exact sy_to (h1111111010110000 (a1, c1, a2, c2, a3, c3, b7, b9, b10)) (by repeat' first | exact Sub.nil | apply Sub.cons | rfl | (simp [lk]; omega)) (fun _ h => St.sub (((h.pull b7).pull b9).pull b10))
 refine sy_alt ?_ ?_
 refine alc rfl zl28 rfl (fun b8 => ?_)
 refine bg (fun w hs => ⟨((lhA (ctl c (c.sl ah ch)) ag28 rfl rfl rfl)) w hs, ((lhA (gtl g (g.sl ag cg)) ag25 rfl rfl rfl)) w hs, trivial⟩) ?_
 exact sy_to (h1111101011110000 (a1, c1, a2, c2, b7, b8, b9, b10)) (by repeat' first | exact Sub.nil | apply Sub.cons | rfl | (simp [lk]; omega)) (fun _ h => St.sub ((((h.pull b7).pull b8).pull b9).pull b10))
 exact sy_stop
 refine sy_have (β := Option Addr × Nat × Option Addr × Nat × Nat × Nat) pl7_3_1111101010100000 (fun ⟨a1, c1, a2, c2, b7, b9⟩ => ([(9, .pointer (some ⟨b9, 0, none⟩)), (7, .pointer (some ⟨b7, 0, none⟩)), (30, c.v (c.sl a2 c2)), (28, g.v (g.sl a1 c1)), (2, .int .i64 k), (3, .pointer (some ⟨b3, 0, none⟩)), (4, .pointer (some ⟨b4, 0, none⟩)), (27, g.v (g.sl ag cg)), (29, c.v (c.sl ah ch)), (31, g.v (g.sl ag cg)), (33, c.v (c.sl ah ch))], (b9, cel 59 ([.int .i64 0, .int .i64 0, .slice none 0 0])) :: (b7, cel 25 ([.int .i64 0, .int .i64 0, .slice none 0 0])) :: (b4, cel 28 (ctl c (c.sl ah ch))) :: (b3, cel 25 (gtl g (g.sl ag cg))) :: H, RowsA a2 5 (hrows c.hs) :: RowsA a1 5 (grows g.grs) :: R, [(6, Ld Try.prog 28 ⟨b4, 0, none⟩ (c.v (c.sl ah ch))), (4, Ld Try.prog 25 ⟨b3, 0, none⟩ (g.v (g.sl ag cg)))])) (fun v9 => ?_) (fun h1111101010100000 => ?_)
 obtain ⟨a1, c1, a2, c2, b7, b9⟩ := v9
 dsimp only
 unfold pl7_3_1111101010100000
 refine sy_any ?_
 refine sy_alt ?_ ?_
 refine cl rfl cal27 rfl rfl (c_theirs g ag cg (by omega) _ _) ?_
 rintro _ _ R1 ⟨a3, c3, rfl, rfl, hR1⟩
 obtain rfl := hR1.symm
 clear hR1
 refine bg (fun w hs => ⟨((lhA (ctl c (c.sl ah ch)) ag28 rfl rfl rfl)) w hs, trivial, trivial⟩) ?_
 exact sy_to (h1111111010100000 (a1, c1, a2, c2, a3, c3, b7, b9)) (by repeat' first | exact Sub.nil | apply Sub.cons | rfl | (simp [lk]; omega)) (fun _ h => St.sub ((h.pull b7).pull b9))
 refine sy_alt ?_ ?_
 refine alc rfl zl28 rfl (fun b8 => ?_)
 refine bg (fun w hs => ⟨((lhA (ctl c (c.sl ah ch)) ag28 rfl rfl rfl)) w hs, ((lhA (gtl g (g.sl ag cg)) ag25 rfl rfl rfl)) w hs, trivial⟩) ?_
 exact sy_to (h1111101011100000 (a1, c1, a2, c2, b7, b8, b9)) (by repeat' first | exact Sub.nil | apply Sub.cons | rfl | (simp [lk]; omega)) (fun _ h => St.sub (((h.pull b7).pull b8).pull b9))
 refine sy_alt ?_ ?_
 refine alc rfl zl63 rfl (fun b10 => ?_)
 refine bg (fun w hs => ⟨((lhA (ctl c (c.sl ah ch)) ag28 rfl rfl rfl)) w hs, ((lhA (gtl g (g.sl ag cg)) ag25 rfl rfl rfl)) w hs, trivial⟩) ?_
 exact sy_to (h1111101010110000 (a1, c1, a2, c2, b7, b9, b10)) (by repeat' first | exact Sub.nil | apply Sub.cons | rfl | (simp [lk]; omega)) (fun _ h => St.sub (((h.pull b7).pull b9).pull b10))
 exact sy_stop
 refine sy_have (β := Option Addr × Nat × Option Addr × Nat × Nat × Nat) pl7_3_1111101010010000 (fun ⟨a1, c1, a2, c2, b7, b10⟩ => ([(10, .pointer (some ⟨b10, 0, none⟩)), (7, .pointer (some ⟨b7, 0, none⟩)), (30, c.v (c.sl a2 c2)), (28, g.v (g.sl a1 c1)), (2, .int .i64 k), (3, .pointer (some ⟨b3, 0, none⟩)), (4, .pointer (some ⟨b4, 0, none⟩)), (27, g.v (g.sl ag cg)), (29, c.v (c.sl ah ch)), (31, g.v (g.sl ag cg)), (33, c.v (c.sl ah ch))], (b10, cel 63 ([.int .i64 0, .int .i64 0, .slice none 0 0])) :: (b7, cel 25 ([.int .i64 0, .int .i64 0, .slice none 0 0])) :: (b4, cel 28 (ctl c (c.sl ah ch))) :: (b3, cel 25 (gtl g (g.sl ag cg))) :: H, RowsA a2 5 (hrows c.hs) :: RowsA a1 5 (grows g.grs) :: R, [(6, Ld Try.prog 28 ⟨b4, 0, none⟩ (c.v (c.sl ah ch))), (4, Ld Try.prog 25 ⟨b3, 0, none⟩ (g.v (g.sl ag cg)))])) (fun v9 => ?_) (fun h1111101010010000 => ?_)
 obtain ⟨a1, c1, a2, c2, b7, b10⟩ := v9
 dsimp only
 unfold pl7_3_1111101010010000
 refine sy_any ?_
 refine sy_alt ?_ ?_
 refine cl rfl cal27 rfl rfl (c_theirs g ag cg (by omega) _ _) ?_
 rintro _ _ R1 ⟨a3, c3, rfl, rfl, hR1⟩
 obtain rfl := hR1.symm
 clear hR1
 refine bg (fun w hs => ⟨((lhA (ctl c (c.sl ah ch)) ag28 rfl rfl rfl)) w hs, trivial, trivial⟩) ?_
 exact sy_to (h1111111010010000 (a1, c1, a2, c2, a3, c3, b7, b10)) (by repeat' first | exact Sub.nil | apply Sub.cons | rfl | (simp [lk]; omega)) (fun _ h => St.sub ((h.pull b7).pull b10))
 refine sy_alt ?_ ?_
 refine alc rfl zl28 rfl (fun b8 => ?_)
 refine bg (fun w hs => ⟨((lhA (ctl c (c.sl ah ch)) ag28 rfl rfl rfl)) w hs, ((lhA (gtl g (g.sl ag cg)) ag25 rfl rfl rfl)) w hs, trivial⟩) ?_
 exact sy_to (h1111101011010000 (a1, c1, a2, c2, b7, b8, b10)) (by repeat' first | exact Sub.nil | apply Sub.cons | rfl | (simp [lk]; omega)) (fun _ h => St.sub (((h.pull b7).pull b8).pull b10))
 refine sy_alt ?_ ?_
 refine alc rfl zl59 rfl (fun b9 => ?_)
 refine bg (fun w hs => ⟨((lhA (ctl c (c.sl ah ch)) ag28 rfl rfl rfl)) w hs, ((lhA (gtl g (g.sl ag cg)) ag25 rfl rfl rfl)) w hs, trivial⟩) ?_
 exact sy_to (h1111101010110000 (a1, c1, a2, c2, b7, b9, b10)) (by repeat' first | exact Sub.nil | apply Sub.cons | rfl | (simp [lk]; omega)) (fun _ h => St.sub (((h.pull b7).pull b9).pull b10))
 exact sy_stop
 refine sy_have (β := Option Addr × Nat × Option Addr × Nat × Nat) pl7_3_1111101010000000 (fun ⟨a1, c1, a2, c2, b7⟩ => ([(7, .pointer (some ⟨b7, 0, none⟩)), (30, c.v (c.sl a2 c2)), (28, g.v (g.sl a1 c1)), (2, .int .i64 k), (3, .pointer (some ⟨b3, 0, none⟩)), (4, .pointer (some ⟨b4, 0, none⟩)), (27, g.v (g.sl ag cg)), (29, c.v (c.sl ah ch)), (31, g.v (g.sl ag cg)), (33, c.v (c.sl ah ch))], (b7, cel 25 ([.int .i64 0, .int .i64 0, .slice none 0 0])) :: (b4, cel 28 (ctl c (c.sl ah ch))) :: (b3, cel 25 (gtl g (g.sl ag cg))) :: H, RowsA a2 5 (hrows c.hs) :: RowsA a1 5 (grows g.grs) :: R, [(6, Ld Try.prog 28 ⟨b4, 0, none⟩ (c.v (c.sl ah ch))), (4, Ld Try.prog 25 ⟨b3, 0, none⟩ (g.v (g.sl ag cg)))])) (fun v9 => ?_) (fun h1111101010000000 => ?_)
 obtain ⟨a1, c1, a2, c2, b7⟩ := v9
 dsimp only
 unfold pl7_3_1111101010000000
 refine sy_any ?_
 refine sy_alt ?_ ?_
 refine cl rfl cal27 rfl rfl (c_theirs g ag cg (by omega) _ _) ?_
 rintro _ _ R1 ⟨a3, c3, rfl, rfl, hR1⟩
 obtain rfl := hR1.symm
 clear hR1
 refine bg (fun w hs => ⟨((lhA (ctl c (c.sl ah ch)) ag28 rfl rfl rfl)) w hs, trivial, trivial⟩) ?_
 exact sy_to (h1111111010000000 (a1, c1, a2, c2, a3, c3, b7)) (by repeat' first | exact Sub.nil | apply Sub.cons | rfl | (simp [lk]; omega)) (fun _ h => St.sub (h.pull b7))
 refine sy_alt ?_ ?_
 refine alc rfl zl28 rfl (fun b8 => ?_)
 refine bg (fun w hs => ⟨((lhA (ctl c (c.sl ah ch)) ag28 rfl rfl rfl)) w hs, ((lhA (gtl g (g.sl ag cg)) ag25 rfl rfl rfl)) w hs, trivial⟩) ?_
 exact sy_to (h1111101011000000 (a1, c1, a2, c2, b7, b8)) (by repeat' first | exact Sub.nil | apply Sub.cons | rfl | (simp [lk]; omega)) (fun _ h => St.sub ((h.pull b7).pull b8))
 refine sy_alt ?_ ?_
 refine alc rfl zl59 rfl (fun b9 => ?_)
 refine bg (fun w hs => ⟨((lhA (ctl c (c.sl ah ch)) ag28 rfl rfl rfl)) w hs, ((lhA (gtl g (g.sl ag cg)) ag25 rfl rfl rfl)) w hs, trivial⟩) ?_
 exact sy_to (h1111101010100000 (a1, c1, a2, c2, b7, b9)) (by repeat' first | exact Sub.nil | apply Sub.cons | rfl | (simp [lk]; omega)) (fun _ h => St.sub ((h.pull b7).pull b9))
 refine sy_alt ?_ ?_
 refine alc rfl zl63 rfl (fun b10 => ?_)
 refine bg (fun w hs => ⟨((lhA (ctl c (c.sl ah ch)) ag28 rfl rfl rfl)) w hs, ((lhA (gtl g (g.sl ag cg)) ag25 rfl rfl rfl)) w hs, trivial⟩) ?_
 exact sy_to (h1111101010010000 (a1, c1, a2, c2, b7, b10)) (by repeat' first | exact Sub.nil | apply Sub.cons | rfl | (simp [lk]; omega)) (fun _ h => St.sub ((h.pull b7).pull b10))
 exact sy_stop
 refine sy_have (β := Option Addr × Nat × Option Addr × Nat × Nat × Nat × Nat) pl7_3_1111101001110000 (fun ⟨a1, c1, a2, c2, b8, b9, b10⟩ => ([(10, .pointer (some ⟨b10, 0, none⟩)), (9, .pointer (some ⟨b9, 0, none⟩)), (8, .pointer (some ⟨b8, 0, none⟩)), (30, c.v (c.sl a2 c2)), (28, g.v (g.sl a1 c1)), (2, .int .i64 k), (3, .pointer (some ⟨b3, 0, none⟩)), (4, .pointer (some ⟨b4, 0, none⟩)), (27, g.v (g.sl ag cg)), (29, c.v (c.sl ah ch)), (31, g.v (g.sl ag cg)), (33, c.v (c.sl ah ch))], (b10, cel 63 ([.int .i64 0, .int .i64 0, .slice none 0 0])) :: (b9, cel 59 ([.int .i64 0, .int .i64 0, .slice none 0 0])) :: (b8, cel 28 ([.int .i64 0, .int .i64 0, .slice none 0 0])) :: (b4, cel 28 (ctl c (c.sl ah ch))) :: (b3, cel 25 (gtl g (g.sl ag cg))) :: H, RowsA a2 5 (hrows c.hs) :: RowsA a1 5 (grows g.grs) :: R, [(6, Ld Try.prog 28 ⟨b4, 0, none⟩ (c.v (c.sl ah ch))), (4, Ld Try.prog 25 ⟨b3, 0, none⟩ (g.v (g.sl ag cg)))])) (fun v9 => ?_) (fun h1111101001110000 => ?_)
 obtain ⟨a1, c1, a2, c2, b8, b9, b10⟩ := v9
 dsimp only
 unfold pl7_3_1111101001110000
 refine sy_any ?_
 refine sy_alt ?_ ?_
 refine cl rfl cal27 rfl rfl (c_theirs g ag cg (by omega) _ _) ?_
 rintro _ _ R1 ⟨a3, c3, rfl, rfl, hR1⟩
 obtain rfl := hR1.symm
 clear hR1
 refine bg (fun w hs => ⟨((lhA (ctl c (c.sl ah ch)) ag28 rfl rfl rfl)) w hs, trivial, trivial⟩) ?_
 exact sy_to (h1111111001110000 (a1, c1, a2, c2, a3, c3, b8, b9, b10)) (by repeat' first | exact Sub.nil | apply Sub.cons | rfl | (simp [lk]; omega)) (fun _ h => St.sub (((h.pull b8).pull b9).pull b10))
 refine sy_alt ?_ ?_
 refine alc rfl zl25 rfl (fun b7 => ?_)
 refine bg (fun w hs => ⟨((lhA (ctl c (c.sl ah ch)) ag28 rfl rfl rfl)) w hs, ((lhA (gtl g (g.sl ag cg)) ag25 rfl rfl rfl)) w hs, trivial⟩) ?_
 exact sy_to (h1111101011110000 (a1, c1, a2, c2, b7, b8, b9, b10)) (by repeat' first | exact Sub.nil | apply Sub.cons | rfl | (simp [lk]; omega)) (fun _ h => St.sub ((((h.pull b7).pull b8).pull b9).pull b10))
 exact sy_stop
 refine sy_have (β := Option Addr × Nat × Option Addr × Nat × Nat × Nat) pl7_3_1111101001100000 (fun ⟨a1, c1, a2, c2, b8, b9⟩ => ([(9, .pointer (some ⟨b9, 0, none⟩)), (8, .pointer (some ⟨b8, 0, none⟩)), (30, c.v (c.sl a2 c2)), (28, g.v (g.sl a1 c1)), (2, .int .i64 k), (3, .pointer (some ⟨b3, 0, none⟩)), (4, .pointer (some ⟨b4, 0, none⟩)), (27, g.v (g.sl ag cg)), (29, c.v (c.sl ah ch)), (31, g.v (g.sl ag cg)), (33, c.v (c.sl ah ch))], (b9, cel 59 ([.int .i64 0, .int .i64 0, .slice none 0 0])) :: (b8, cel 28 ([.int .i64 0, .int .i64 0, .slice none 0 0])) :: (b4, cel 28 (ctl c (c.sl ah ch))) :: (b3, cel 25 (gtl g (g.sl ag cg))) :: H, RowsA a2 5 (hrows c.hs) :: RowsA a1 5 (grows g.grs) :: R, [(6, Ld Try.prog 28 ⟨b4, 0, none⟩ (c.v (c.sl ah ch))), (4, Ld Try.prog 25 ⟨b3, 0, none⟩ (g.v (g.sl ag cg)))])) (fun v9 => ?_) (fun h1111101001100000 => ?_)
 obtain ⟨a1, c1, a2, c2, b8, b9⟩ := v9
 dsimp only
 unfold pl7_3_1111101001100000
 refine sy_any ?_
 refine sy_alt ?_ ?_
 refine cl rfl cal27 rfl rfl (c_theirs g ag cg (by omega) _ _) ?_
 rintro _ _ R1 ⟨a3, c3, rfl, rfl, hR1⟩
 obtain rfl := hR1.symm
 clear hR1
 refine bg (fun w hs => ⟨((lhA (ctl c (c.sl ah ch)) ag28 rfl rfl rfl)) w hs, trivial, trivial⟩) ?_
 exact sy_to (h1111111001100000 (a1, c1, a2, c2, a3, c3, b8, b9)) (by repeat' first | exact Sub.nil | apply Sub.cons | rfl | (simp [lk]; omega)) (fun _ h => St.sub ((h.pull b8).pull b9))
 refine sy_alt ?_ ?_
 refine alc rfl zl25 rfl (fun b7 => ?_)
 refine bg (fun w hs => ⟨((lhA (ctl c (c.sl ah ch)) ag28 rfl rfl rfl)) w hs, ((lhA (gtl g (g.sl ag cg)) ag25 rfl rfl rfl)) w hs, trivial⟩) ?_
 exact sy_to (h1111101011100000 (a1, c1, a2, c2, b7, b8, b9)) (by repeat' first | exact Sub.nil | apply Sub.cons | rfl | (simp [lk]; omega)) (fun _ h => St.sub (((h.pull b7).pull b8).pull b9))
 refine sy_alt ?_ ?_
 refine alc rfl zl63 rfl (fun b10 => ?_)
 refine bg (fun w hs => ⟨((lhA (ctl c (c.sl ah ch)) ag28 rfl rfl rfl)) w hs, ((lhA (gtl g (g.sl ag cg)) ag25 rfl rfl rfl)) w hs, trivial⟩) ?_
 exact sy_to (h1111101001110000 (a1, c1, a2, c2, b8, b9, b10)) (by repeat' first | exact Sub.nil | apply Sub.cons | rfl | (simp [lk]; omega)) (fun _ h => St.sub (((h.pull b8).pull b9).pull b10))
 exact sy_stop
 refine sy_have (β := Option Addr × Nat × Option Addr × Nat × Nat × Nat) pl7_3_1111101001010000 (fun ⟨a1, c1, a2, c2, b8, b10⟩ => ([(10, .pointer (some ⟨b10, 0, none⟩)), (8, .pointer (some ⟨b8, 0, none⟩)), (30, c.v (c.sl a2 c2)), (28, g.v (g.sl a1 c1)), (2, .int .i64 k), (3, .pointer (some ⟨b3, 0, none⟩)), (4, .pointer (some ⟨b4, 0, none⟩)), (27, g.v (g.sl ag cg)), (29, c.v (c.sl ah ch)), (31, g.v (g.sl ag cg)), (33, c.v (c.sl ah ch))], (b10, cel 63 ([.int .i64 0, .int .i64 0, .slice none 0 0])) :: (b8, cel 28 ([.int .i64 0, .int .i64 0, .slice none 0 0])) :: (b4, cel 28 (ctl c (c.sl ah ch))) :: (b3, cel 25 (gtl g (g.sl ag cg))) :: H, RowsA a2 5 (hrows c.hs) :: RowsA a1 5 (grows g.grs) :: R, [(6, Ld Try.prog 28 ⟨b4, 0, none⟩ (c.v (c.sl ah ch))), (4, Ld Try.prog 25 ⟨b3, 0, none⟩ (g.v (g.sl ag cg)))])) (fun v9 => ?_) (fun h1111101001010000 => ?_)
 obtain ⟨a1, c1, a2, c2, b8, b10⟩ := v9
 dsimp only
 unfold pl7_3_1111101001010000
 refine sy_any ?_
 refine sy_alt ?_ ?_
 refine cl rfl cal27 rfl rfl (c_theirs g ag cg (by omega) _ _) ?_
 rintro _ _ R1 ⟨a3, c3, rfl, rfl, hR1⟩
 obtain rfl := hR1.symm
 clear hR1
 refine bg (fun w hs => ⟨((lhA (ctl c (c.sl ah ch)) ag28 rfl rfl rfl)) w hs, trivial, trivial⟩) ?_
 exact sy_to (h1111111001010000 (a1, c1, a2, c2, a3, c3, b8, b10)) (by repeat' first | exact Sub.nil | apply Sub.cons | rfl | (simp [lk]; omega)) (fun _ h => St.sub ((h.pull b8).pull b10))
 refine sy_alt ?_ ?_
 refine alc rfl zl25 rfl (fun b7 => ?_)
 refine bg (fun w hs => ⟨((lhA (ctl c (c.sl ah ch)) ag28 rfl rfl rfl)) w hs, ((lhA (gtl g (g.sl ag cg)) ag25 rfl rfl rfl)) w hs, trivial⟩) ?_
 exact sy_to (h1111101011010000 (a1, c1, a2, c2, b7, b8, b10)) (by repeat' first | exact Sub.nil | apply Sub.cons | rfl | (simp [lk]; omega)) (fun _ h => St.sub (((h.pull b7).pull b8).pull b10))
 refine sy_alt ?_ ?_
 refine alc rfl zl59 rfl (fun b9 => ?_)
 refine bg (fun w hs => ⟨((lhA (ctl c (c.sl ah ch)) ag28 rfl rfl rfl)) w hs, ((lhA (gtl g (g.sl ag cg)) ag25 rfl rfl rfl)) w hs, trivial⟩) ?_
 exact sy_to (h1111101001110000 (a1, c1, a2, c2, b8, b9, b10)) (by repeat' first | exact Sub.nil | apply Sub.cons | rfl | (simp [lk]; omega)) (fun _ h => St.sub (((h.pull b8).pull b9).pull b10))
 exact sy_stop
 refine sy_have (β := Option Addr × Nat × Option Addr × Nat × Nat) pl7_3_1111101001000000 (fun ⟨a1, c1, a2, c2, b8⟩ => ([(8, .pointer (some ⟨b8, 0, none⟩)), (30, c.v (c.sl a2 c2)), (28, g.v (g.sl a1 c1)), (2, .int .i64 k), (3, .pointer (some ⟨b3, 0, none⟩)), (4, .pointer (some ⟨b4, 0, none⟩)), (27, g.v (g.sl ag cg)), (29, c.v (c.sl ah ch)), (31, g.v (g.sl ag cg)), (33, c.v (c.sl ah ch))], (b8, cel 28 ([.int .i64 0, .int .i64 0, .slice none 0 0])) :: (b4, cel 28 (ctl c (c.sl ah ch))) :: (b3, cel 25 (gtl g (g.sl ag cg))) :: H, RowsA a2 5 (hrows c.hs) :: RowsA a1 5 (grows g.grs) :: R, [(6, Ld Try.prog 28 ⟨b4, 0, none⟩ (c.v (c.sl ah ch))), (4, Ld Try.prog 25 ⟨b3, 0, none⟩ (g.v (g.sl ag cg)))])) (fun v9 => ?_) (fun h1111101001000000 => ?_)
 obtain ⟨a1, c1, a2, c2, b8⟩ := v9
 dsimp only
 unfold pl7_3_1111101001000000
 refine sy_any ?_
 refine sy_alt ?_ ?_
 refine cl rfl cal27 rfl rfl (c_theirs g ag cg (by omega) _ _) ?_
 rintro _ _ R1 ⟨a3, c3, rfl, rfl, hR1⟩
 obtain rfl := hR1.symm
 clear hR1
 refine bg (fun w hs => ⟨((lhA (ctl c (c.sl ah ch)) ag28 rfl rfl rfl)) w hs, trivial, trivial⟩) ?_
 exact sy_to (h1111111001000000 (a1, c1, a2, c2, a3, c3, b8)) (by repeat' first | exact Sub.nil | apply Sub.cons | rfl | (simp [lk]; omega)) (fun _ h => St.sub (h.pull b8))
 refine sy_alt ?_ ?_
 refine alc rfl zl25 rfl (fun b7 => ?_)
 refine bg (fun w hs => ⟨((lhA (ctl c (c.sl ah ch)) ag28 rfl rfl rfl)) w hs, ((lhA (gtl g (g.sl ag cg)) ag25 rfl rfl rfl)) w hs, trivial⟩) ?_
 exact sy_to (h1111101011000000 (a1, c1, a2, c2, b7, b8)) (by repeat' first | exact Sub.nil | apply Sub.cons | rfl | (simp [lk]; omega)) (fun _ h => St.sub ((h.pull b7).pull b8))
 refine sy_alt ?_ ?_
 refine alc rfl zl59 rfl (fun b9 => ?_)
 refine bg (fun w hs => ⟨((lhA (ctl c (c.sl ah ch)) ag28 rfl rfl rfl)) w hs, ((lhA (gtl g (g.sl ag cg)) ag25 rfl rfl rfl)) w hs, trivial⟩) ?_
 exact sy_to (h1111101001100000 (a1, c1, a2, c2, b8, b9)) (by repeat' first | exact Sub.nil | apply Sub.cons | rfl | (simp [lk]; omega)) (fun _ h => St.sub ((h.pull b8).pull b9))
 refine sy_alt ?_ ?_
 refine alc rfl zl63 rfl (fun b10 => ?_)
 refine bg (fun w hs => ⟨((lhA (ctl c (c.sl ah ch)) ag28 rfl rfl rfl)) w hs, ((lhA (gtl g (g.sl ag cg)) ag25 rfl rfl rfl)) w hs, trivial⟩) ?_
 exact sy_to (h1111101001010000 (a1, c1, a2, c2, b8, b10)) (by repeat' first | exact Sub.nil | apply Sub.cons | rfl | (simp [lk]; omega)) (fun _ h => St.sub ((h.pull b8).pull b10))
 exact sy_stop
 refine sy_have (β := Option Addr × Nat × Option Addr × Nat × Nat × Nat) pl7_3_1111101000110000 (fun ⟨a1, c1, a2, c2, b9, b10⟩ => ([(10, .pointer (some ⟨b10, 0, none⟩)), (9, .pointer (some ⟨b9, 0, none⟩)), (30, c.v (c.sl a2 c2)), (28, g.v (g.sl a1 c1)), (2, .int .i64 k), (3, .pointer (some ⟨b3, 0, none⟩)), (4, .pointer (some ⟨b4, 0, none⟩)), (27, g.v (g.sl ag cg)), (29, c.v (c.sl ah ch)), (31, g.v (g.sl ag cg)), (33, c.v (c.sl ah ch))], (b10, cel 63 ([.int .i64 0, .int .i64 0, .slice none 0 0])) :: (b9, cel 59 ([.int .i64 0, .int .i64 0, .slice none 0 0])) :: (b4, cel 28 (ctl c (c.sl ah ch))) :: (b3, cel 25 (gtl g (g.sl ag cg))) :: H, RowsA a2 5 (hrows c.hs) :: RowsA a1 5 (grows g.grs) :: R, [(6, Ld Try.prog 28 ⟨b4, 0, none⟩ (c.v (c.sl ah ch))), (4, Ld Try.prog 25 ⟨b3, 0, none⟩ (g.v (g.sl ag cg)))])) (fun v9 => ?_) (fun h1111101000110000 => ?_)
 obtain ⟨a1, c1, a2, c2, b9, b10⟩ := v9
 dsimp only
 unfold pl7_3_1111101000110000
 refine sy_any ?_
 refine sy_alt ?_ ?_
 refine cl rfl cal27 rfl rfl (c_theirs g ag cg (by omega) _ _) ?_
 rintro _ _ R1 ⟨a3, c3, rfl, rfl, hR1⟩
 obtain rfl := hR1.symm
 clear hR1
 refine bg (fun w hs => ⟨((lhA (ctl c (c.sl ah ch)) ag28 rfl rfl rfl)) w hs, trivial, trivial⟩) ?_
 exact sy_to (h1111111000110000 (a1, c1, a2, c2, a3, c3, b9, b10)) (by repeat' first | exact Sub.nil | apply Sub.cons | rfl | (simp [lk]; omega)) (fun _ h => St.sub ((h.pull b9).pull b10))
 refine sy_alt ?_ ?_
 refine alc rfl zl25 rfl (fun b7 => ?_)
 refine bg (fun w hs => ⟨((lhA (ctl c (c.sl ah ch)) ag28 rfl rfl rfl)) w hs, ((lhA (gtl g (g.sl ag cg)) ag25 rfl rfl rfl)) w hs, trivial⟩) ?_
 exact sy_to (h1111101010110000 (a1, c1, a2, c2, b7, b9, b10)) (by repeat' first | exact Sub.nil | apply Sub.cons | rfl | (simp [lk]; omega)) (fun _ h => St.sub (((h.pull b7).pull b9).pull b10))
 refine sy_alt ?_ ?_
 refine alc rfl zl28 rfl (fun b8 => ?_)
 refine bg (fun w hs => ⟨((lhA (ctl c (c.sl ah ch)) ag28 rfl rfl rfl)) w hs, ((lhA (gtl g (g.sl ag cg)) ag25 rfl rfl rfl)) w hs, trivial⟩) ?_
 exact sy_to (h1111101001110000 (a1, c1, a2, c2, b8, b9, b10)) (by repeat' first | exact Sub.nil | apply Sub.cons | rfl | (simp [lk]; omega)) (fun _ h => St.sub (((h.pull b8).pull b9).pull b10))
 exact sy_stop
 refine sy_have (β := Option Addr × Nat × Option Addr × Nat × Nat) pl7_3_1111101000100000 (fun ⟨a1, c1, a2, c2, b9⟩ => ([(9, .pointer (some ⟨b9, 0, none⟩)), (30, c.v (c.sl a2 c2)), (28, g.v (g.sl a1 c1)), (2, .int .i64 k), (3, .pointer (some ⟨b3, 0, none⟩)), (4, .pointer (some ⟨b4, 0, none⟩)), (27, g.v (g.sl ag cg)), (29, c.v (c.sl ah ch)), (31, g.v (g.sl ag cg)), (33, c.v (c.sl ah ch))], (b9, cel 59 ([.int .i64 0, .int .i64 0, .slice none 0 0])) :: (b4, cel 28 (ctl c (c.sl ah ch))) :: (b3, cel 25 (gtl g (g.sl ag cg))) :: H, RowsA a2 5 (hrows c.hs) :: RowsA a1 5 (grows g.grs) :: R, [(6, Ld Try.prog 28 ⟨b4, 0, none⟩ (c.v (c.sl ah ch))), (4, Ld Try.prog 25 ⟨b3, 0, none⟩ (g.v (g.sl ag cg)))])) (fun v9 => ?_) (fun h1111101000100000 => ?_)
 obtain ⟨a1, c1, a2, c2, b9⟩ := v9
 dsimp only
 unfold pl7_3_1111101000100000
 refine sy_any ?_
 refine sy_alt ?_ ?_
 refine cl rfl cal27 rfl rfl (c_theirs g ag cg (by omega) _ _) ?_
 rintro _ _ R1 ⟨a3, c3, rfl, rfl, hR1⟩
 obtain rfl := hR1.symm
 clear hR1
 refine bg (fun w hs => ⟨((lhA (ctl c (c.sl ah ch)) ag28 rfl rfl rfl)) w hs, trivial, trivial⟩) ?_
 exact sy_to (h1111111000100000 (a1, c1, a2, c2, a3, c3, b9)) (by repeat' first | exact Sub.nil | apply Sub.cons | rfl | (simp [lk]; omega)) (fun _ h => St.sub (h.pull b9))
 refine sy_alt ?_ ?_
 refine alc rfl zl25 rfl (fun b7 => ?_)
 refine bg (fun w hs => ⟨((lhA (ctl c (c.sl ah ch)) ag28 rfl rfl rfl)) w hs, ((lhA (gtl g (g.sl ag cg)) ag25 rfl rfl rfl)) w hs, trivial⟩) ?_
 exact sy_to (h1111101010100000 (a1, c1, a2, c2, b7, b9)) (by repeat' first | exact Sub.nil | apply Sub.cons | rfl | (simp [lk]; omega)) (fun _ h => St.sub ((h.pull b7).pull b9))
 refine sy_alt ?_ ?_
 refine alc rfl zl28 rfl (fun b8 => ?_)
 refine bg (fun w hs => ⟨((lhA (ctl c (c.sl ah ch)) ag28 rfl rfl rfl)) w hs, ((lhA (gtl g (g.sl ag cg)) ag25 rfl rfl rfl)) w hs, trivial⟩) ?_
 exact sy_to (h1111101001100000 (a1, c1, a2, c2, b8, b9)) (by repeat' first | exact Sub.nil | apply Sub.cons | rfl | (simp [lk]; omega)) (fun _ h => St.sub ((h.pull b8).pull b9))
 refine sy_alt ?_ ?_
 refine alc rfl zl63 rfl (fun b10 => ?_)
 refine bg (fun w hs => ⟨((lhA (ctl c (c.sl ah ch)) ag28 rfl rfl rfl)) w hs, ((lhA (gtl g (g.sl ag cg)) ag25 rfl rfl rfl)) w hs, trivial⟩) ?_
 exact sy_to (h1111101000110000 (a1, c1, a2, c2, b9, b10)) (by repeat' first | exact Sub.nil | apply Sub.cons | rfl | (simp [lk]; omega)) (fun _ h => St.sub ((h.pull b9).pull b10))
 exact sy_stop
 refine sy_have (β := Option Addr × Nat × Option Addr × Nat × Nat) pl7_3_1111101000010000 (fun ⟨a1, c1, a2, c2, b10⟩ => ([(10, .pointer (some ⟨b10, 0, none⟩)), (30, c.v (c.sl a2 c2)), (28, g.v (g.sl a1 c1)), (2, .int .i64 k), (3, .pointer (some ⟨b3, 0, none⟩)), (4, .pointer (some ⟨b4, 0, none⟩)), (27, g.v (g.sl ag cg)), (29, c.v (c.sl ah ch)), (31, g.v (g.sl ag cg)), (33, c.v (c.sl ah ch))], (b10, cel 63 ([.int .i64 0, .int .i64 0, .slice none 0 0])) :: (b4, cel 28 (ctl c (c.sl ah ch))) :: (b3, cel 25 (gtl g (g.sl ag cg))) :: H, RowsA a2 5 (hrows c.hs) :: RowsA a1 5 (grows g.grs) :: R, [(6, Ld Try.prog 28 ⟨b4, 0, none⟩ (c.v (c.sl ah ch))), (4, Ld Try.prog 25 ⟨b3, 0, none⟩ (g.v (g.sl ag cg)))])) (fun v9 => ?_) (fun h1111101000010000 => ?_)
 obtain ⟨a1, c1, a2, c2, b10⟩ := v9
 dsimp only
 unfold pl7_3_1111101000010000
 refine sy_any ?_
 refine sy_alt ?_ ?_
 refine cl rfl cal27 rfl rfl (c_theirs g ag cg (by omega) _ _) ?_
 rintro _ _ R1 ⟨a3, c3, rfl, rfl, hR1⟩
 obtain rfl := hR1.symm
 clear hR1
 refine bg (fun w hs => ⟨((lhA (ctl c (c.sl ah ch)) ag28 rfl rfl rfl)) w hs, trivial, trivial⟩) ?_
 exact sy_to (h1111111000010000 (a1, c1, a2, c2, a3, c3, b10)) (by repeat' first | exact Sub.nil | apply Sub.cons | rfl | (simp [lk]; omega)) (fun _ h => St.sub (h.pull b10))
 refine sy_alt ?_ ?_
 refine alc rfl zl25 rfl (fun b7 => ?_)
 refine bg (fun w hs => ⟨((lhA (ctl c (c.sl ah ch)) ag28 rfl rfl rfl)) w hs, ((lhA (gtl g (g.sl ag cg)) ag25 rfl rfl rfl)) w hs, trivial⟩) ?_
 exact sy_to (h1111101010010000 (a1, c1, a2, c2, b7, b10)) (by repeat' first | exact Sub.nil | apply Sub.cons | rfl | (simp [lk]; omega)) (fun _ h => St.sub ((h.pull b7).pull b10))
 refine sy_alt ?_ ?_
 refine alc rfl zl28 rfl (fun b8 => ?_)
 refine bg (fun w hs => ⟨((lhA (ctl c (c.sl ah ch)) ag28 rfl rfl rfl)) w hs, ((lhA (gtl g (g.sl ag cg)) ag25 rfl rfl rfl)) w hs, trivial⟩) ?_
 exact sy_to (h1111101001010000 (a1, c1, a2, c2, b8, b10)) (by repeat' first | exact Sub.nil | apply Sub.cons | rfl | (simp [lk]; omega)) (fun _ h => St.sub ((h.pull b8).pull b10))
 refine sy_alt ?_ ?_
 refine alc rfl zl59 rfl (fun b9 => ?_)
 refine bg (fun w hs => ⟨((lhA (ctl c (c.sl ah ch)) ag28 rfl rfl rfl)) w hs, ((lhA (gtl g (g.sl ag cg)) ag25 rfl rfl rfl)) w hs, trivial⟩) ?_
 exact sy_to (h1111101000110000 (a1, c1, a2, c2, b9, b10)) (by repeat' first | exact Sub.nil | apply Sub.cons | rfl | (simp [lk]; omega)) (fun _ h => St.sub ((h.pull b9).pull b10))
 exact sy_stop
 refine sy_have (β := Option Addr × Nat × Nat × Nat × Nat × Nat) pl7_3_1110101011110000 (fun ⟨a1, c1, b7, b8, b9, b10⟩ => ([(10, .pointer (some ⟨b10, 0, none⟩)), (9, .pointer (some ⟨b9, 0, none⟩)), (8, .pointer (some ⟨b8, 0, none⟩)), (7, .pointer (some ⟨b7, 0, none⟩)), (28, g.v (g.sl a1 c1)), (2, .int .i64 k), (3, .pointer (some ⟨b3, 0, none⟩)), (4, .pointer (some ⟨b4, 0, none⟩)), (27, g.v (g.sl ag cg)), (29, c.v (c.sl ah ch)), (31, g.v (g.sl ag cg)), (33, c.v (c.sl ah ch))], (b10, cel 63 ([.int .i64 0, .int .i64 0, .slice none 0 0])) :: (b9, cel 59 ([.int .i64 0, .int .i64 0, .slice none 0 0])) :: (b8, cel 28 ([.int .i64 0, .int .i64 0, .slice none 0 0])) :: (b7, cel 25 ([.int .i64 0, .int .i64 0, .slice none 0 0])) :: (b4, cel 28 (ctl c (c.sl ah ch))) :: (b3, cel 25 (gtl g (g.sl ag cg))) :: H, RowsA a1 5 (grows g.grs) :: R, [(6, Ld Try.prog 28 ⟨b4, 0, none⟩ (c.v (c.sl ah ch))), (4, Ld Try.prog 25 ⟨b3, 0, none⟩ (g.v (g.sl ag cg))), (2, Ld Try.prog 28 ⟨b4, 0, none⟩ (c.v (c.sl ah ch)))])) (fun v9 => ?_) (fun h1110101011110000 => ?_)
 obtain ⟨a1, c1, b7, b8, b9, b10⟩ := v9
 dsimp only
 unfold pl7_3_1110101011110000
 refine cl rfl cal26 rfl rfl (c_Owned c ah ch (by omega) _ _) ?_
 rintro _ _ R1 ⟨o, rfl, ho, rfl, hR1⟩
 obtain rfl := hR1.symm
 clear hR1
 obtain ⟨a2, c2, he, hf⟩ := o.freeze
 rw [he]
 refine Sy.heap (H' := _) (fun w h => hf h) ?_
 rw [show (hrows c.hs).length = c.hs.length from List.length_map _]
 clear he hf
 refine bg (fun w hs => ⟨((lhA (ctl c (c.sl ah ch)) ag28 rfl rfl rfl)) w hs, ((lhA (gtl g (g.sl ag cg)) ag25 rfl rfl rfl)) w hs, trivial, trivial⟩) ?_
 exact sy_to (h1111101011110000 (a1, c1, a2, c2, b7, b8, b9, b10)) (by repeat' first | exact Sub.nil | apply Sub.cons | rfl | (simp [lk]; omega)) (fun _ h => St.sub ((((h.pull b7).pull b8).pull b9).pull b10))
 refine sy_have (β := Option Addr × Nat × Nat × Nat × Nat) pl7_3_1110101011100000 (fun ⟨a1, c1, b7, b8, b9⟩ => ([(9, .pointer (some ⟨b9, 0, none⟩)), (8, .pointer (some ⟨b8, 0, none⟩)), (7, .pointer (some ⟨b7, 0, none⟩)), (28, g.v (g.sl a1 c1)), (2, .int .i64 k), (3, .pointer (some ⟨b3, 0, none⟩)), (4, .pointer (some ⟨b4, 0, none⟩)), (27, g.v (g.sl ag cg)), (29, c.v (c.sl ah ch)), (31, g.v (g.sl ag cg)), (33, c.v (c.sl ah ch))], (b9, cel 59 ([.int .i64 0, .int .i64 0, .slice none 0 0])) :: (b8, cel 28 ([.int .i64 0, .int .i64 0, .slice none 0 0])) :: (b7, cel 25 ([.int .i64 0, .int .i64 0, .slice none 0 0])) :: (b4, cel 28 (ctl c (c.sl ah ch))) :: (b3, cel 25 (gtl g (g.sl ag cg))) :: H, RowsA a1 5 (grows g.grs) :: R, [(6, Ld Try.prog 28 ⟨b4, 0, none⟩ (c.v (c.sl ah ch))), (4, Ld Try.prog 25 ⟨b3, 0, none⟩ (g.v (g.sl ag cg))), (2, Ld Try.prog 28 ⟨b4, 0, none⟩ (c.v (c.sl ah ch)))])) (fun v9 => ?_) (fun h1110101011100000 => ?_)
 obtain ⟨a1, c1, b7, b8, b9⟩ := v9
 dsimp only
 unfold pl7_3_1110101011100000
 refine sy_any ?_
 refine sy_alt ?_ ?_
 refine cl rfl cal26 rfl rfl (c_Owned c ah ch (by omega) _ _) ?_
 rintro _ _ R1 ⟨o, rfl, ho, rfl, hR1⟩
 obtain rfl := hR1.symm
 clear hR1
 obtain ⟨a2, c2, he, hf⟩ := o.freeze
 rw [he]
 refine Sy.heap (H' := _) (fun w h => hf h) ?_
 rw [show (hrows c.hs).length = c.hs.length from List.length_map _]
 clear he hf
 refine bg (fun w hs => ⟨((lhA (ctl c (c.sl ah ch)) ag28 rfl rfl rfl)) w hs, ((lhA (gtl g (g.sl ag cg)) ag25 rfl rfl rfl)) w hs, trivial, trivial⟩) ?_
 exact sy_to (h1111101011100000 (a1, c1, a2, c2, b7, b8, b9)) (by repeat' first | exact Sub.nil | apply Sub.cons | rfl | (simp [lk]; omega)) (fun _ h => St.sub (((h.pull b7).pull b8).pull b9))
 refine sy_alt ?_ ?_
 refine alc rfl zl63 rfl (fun b10 => ?_)
 refine bg (fun w hs => ⟨((lhA (ctl c (c.sl ah ch)) ag28 rfl rfl rfl)) w hs, ((lhA (gtl g (g.sl ag cg)) ag25 rfl rfl rfl)) w hs, ((lhA (ctl c (c.sl ah ch)) ag28 rfl rfl rfl)) w hs, trivial⟩) ?_
 exact sy_to (h1110101011110000 (a1, c1, b7, b8, b9, b10)) (by repeat' first | exact Sub.nil | apply Sub.cons | rfl | (simp [lk]; omega)) (fun _ h => St.sub ((((h.pull b7).pull b8).pull b9).pull b10))
 exact sy_stop
 refine sy_have (β := Option Addr × Nat × Nat × Nat × Nat) pl7_3_1110101011010000 (fun ⟨a1, c1, b7, b8, b10⟩ => ([(10, .pointer (some ⟨b10, 0, none⟩)), (8, .pointer (some ⟨b8, 0, none⟩)), (7, .pointer (some ⟨b7, 0, none⟩)), (28, g.v (g.sl a1 c1)), (2, .int .i64 k), (3, .pointer (some ⟨b3, 0, none⟩)), (4, .pointer (some ⟨b4, 0, none⟩)), (27, g.v (g.sl ag cg)), (29, c.v (c.sl ah ch)), (31, g.v (g.sl ag cg)), (33, c.v (c.sl ah ch))], (b10, cel 63 ([.int .i64 0, .int .i64 0, .slice none 0 0])) :: (b8, cel 28 ([.int .i64 0, .int .i64 0, .slice none 0 0])) :: (b7, cel 25 ([.int .i64 0, .int .i64 0, .slice none 0 0])) :: (b4, cel 28 (ctl c (c.sl ah ch))) :: (b3, cel 25 (gtl g (g.sl ag cg))) :: H, RowsA a1 5 (grows g.grs) :: R, [(6, Ld Try.prog 28 ⟨b4, 0, none⟩ (c.v (c.sl ah ch))), (4, Ld Try.prog 25 ⟨b3, 0, none⟩ (g.v (g.sl ag cg))), (2, Ld Try.prog 28 ⟨b4, 0, none⟩ (c.v (c.sl ah ch)))])) (fun v9 => ?_) (fun h1110101011010000 => ?_)
 obtain ⟨a1, c1, b7, b8, b10⟩ := v9
 dsimp only
 unfold pl7_3_1110101011010000
 refine sy_any ?_
 refine sy_alt ?_ ?_
 refine cl rfl cal26 rfl rfl (c_Owned c ah ch (by omega) _ _) ?_
 rintro _ _ R1 ⟨o, rfl, ho, rfl, hR1⟩
 obtain rfl := hR1.symm
 clear hR1
 obtain ⟨a2, c2, he, hf⟩ := o.freeze
 rw [he]
 refine Sy.heap (H' := _) (fun w h => hf h) ?_
 rw [show (hrows c.hs).length = c.hs.length from List.length_map _]
 clear he hf
 refine bg (fun w hs => ⟨((lhA (ctl c (c.sl ah ch)) ag28 rfl rfl rfl)) w hs, ((lhA (gtl g (g.sl ag cg)) ag25 rfl rfl rfl)) w hs, trivial, trivial⟩) ?_
 exact sy_to (h1111101011010000 (a1, c1, a2, c2, b7, b8, b10)) (by repeat' first | exact Sub.nil | apply Sub.cons | rfl | (simp [lk]; omega)) (fun _ h => St.sub (((h.pull b7).pull b8).pull b10))
 refine sy_alt ?_ ?_
 refine alc rfl zl59 rfl (fun b9 => ?_)
 refine bg (fun w hs => ⟨((lhA (ctl c (c.sl ah ch)) ag28 rfl rfl rfl)) w hs, ((lhA (gtl g (g.sl ag cg)) ag25 rfl rfl rfl)) w hs, ((lhA (ctl c (c.sl ah ch)) ag28 rfl rfl rfl)) w hs, trivial⟩) ?_
 exact sy_to (h1110101011110000 (a1, c1, b7, b8, b9, b10)) (by repeat' first | exact Sub.nil | apply Sub.cons | rfl | (simp [lk]; omega)) (fun _ h => St.sub ((((h.pull b7).pull b8).pull b9).pull b10))
 exact sy_stop
 refine sy_have (β := Option Addr × Nat × Nat × Nat) pl7_3_1110101011000000 (fun ⟨a1, c1, b7, b8⟩ => ([(8, .pointer (some ⟨b8, 0, none⟩)), (7, .pointer (some ⟨b7, 0, none⟩)), (28, g.v (g.sl a1 c1)), (2, .int .i64 k), (3, .pointer (some ⟨b3, 0, none⟩)), (4, .pointer (some ⟨b4, 0, none⟩)), (27, g.v (g.sl ag cg)), (29, c.v (c.sl ah ch)), (31, g.v (g.sl ag cg)), (33, c.v (c.sl ah ch))], (b8, cel 28 ([.int .i64 0, .int .i64 0, .slice none 0 0])) :: (b7, cel 25 ([.int .i64 0, .int .i64 0, .slice none 0 0])) :: (b4, cel 28 (ctl c (c.sl ah ch))) :: (b3, cel 25 (gtl g (g.sl ag cg))) :: H, RowsA a1 5 (grows g.grs) :: R, [(6, Ld Try.prog 28 ⟨b4, 0, none⟩ (c.v (c.sl ah ch))), (4, Ld Try.prog 25 ⟨b3, 0, none⟩ (g.v (g.sl ag cg))), (2, Ld Try.prog 28 ⟨b4, 0, none⟩ (c.v (c.sl ah ch)))])) (fun v9 => ?_) (fun h1110101011000000 => ?_)
 obtain ⟨a1, c1, b7, b8⟩ := v9
 dsimp only
 unfold pl7_3_1110101011000000
 refine sy_any ?_
 refine sy_alt ?_ ?_
 refine cl rfl cal26 rfl rfl (c_Owned c ah ch (by omega) _ _) ?_
 rintro _ _ R1 ⟨o, rfl, ho, rfl, hR1⟩
 obtain rfl := hR1.symm
 clear hR1
 obtain ⟨a2, c2, he, hf⟩ := o.freeze
 rw [he]
 refine Sy.heap (H' := _) (fun w h => hf h) ?_
 rw [show (hrows c.hs).length = c.hs.length from List.length_map _]
 clear he hf
 refine bg (fun w hs => ⟨((lhA (ctl c (c.sl ah ch)) ag28 rfl rfl rfl)) w hs, ((lhA (gtl g (g.sl ag cg)) ag25 rfl rfl rfl)) w hs, trivial, trivial⟩) ?_
 exact sy_to (h1111101011000000 (a1, c1, a2, c2, b7, b8)) (by repeat' first | exact Sub.nil | apply Sub.cons | rfl | (simp [lk]; omega)) (fun _ h => St.sub ((h.pull b7).pull b8))
 refine sy_alt ?_ ?_
 refine alc rfl zl59 rfl (fun b9 => ?_)
 refine bg (fun w hs => ⟨((lhA (ctl c (c.sl ah ch)) ag28 rfl rfl rfl)) w hs, ((lhA (gtl g (g.sl ag cg)) ag25 rfl rfl rfl)) w hs, ((lhA (ctl c (c.sl ah ch)) ag28 rfl rfl rfl)) w hs, trivial⟩) ?_
 exact sy_to (h1110101011100000 (a1, c1, b7, b8, b9)) (by repeat' first | exact Sub.nil | apply Sub.cons | rfl | (simp [lk]; omega)) (fun _ h => St.sub (((h.pull b7).pull b8).pull b9))
 refine sy_alt ?_ ?_
 refine alc rfl zl63 rfl (fun b10 => ?_)
 refine bg (fun w hs => ⟨((lhA (ctl c (c.sl ah ch)) ag28 rfl rfl rfl)) w hs, ((lhA (gtl g (g.sl ag cg)) ag25 rfl rfl rfl)) w hs, ((lhA (ctl c (c.sl ah ch)) ag28 rfl rfl rfl)) w hs, trivial⟩) ?_
 exact sy_to (h1110101011010000 (a1, c1, b7, b8, b10)) (by repeat' first | exact Sub.nil | apply Sub.cons | rfl | (simp [lk]; omega)) (fun _ h => St.sub (((h.pull b7).pull b8).pull b10))
 exact sy_stop
 refine sy_have (β := Option Addr × Nat × Nat × Nat × Nat) pl7_3_1110101010110000 (fun ⟨a1, c1, b7, b9, b10⟩ => ([(10, .pointer (some ⟨b10, 0, none⟩)), (9, .pointer (some ⟨b9, 0, none⟩)), (7, .pointer (some ⟨b7, 0, none⟩)), (28, g.v (g.sl a1 c1)), (2, .int .i64 k), (3, .pointer (some ⟨b3, 0, none⟩)), (4, .pointer (some ⟨b4, 0, none⟩)), (27, g.v (g.sl ag cg)), (29, c.v (c.sl ah ch)), (31, g.v (g.sl ag cg)), (33, c.v (c.sl ah ch))], (b10, cel 63 ([.int .i64 0, .int .i64 0, .slice none 0 0])) :: (b9, cel 59 ([.int .i64 0, .int .i64 0, .slice none 0 0])) :: (b7, cel 25 ([.int .i64 0, .int .i64 0, .slice none 0 0])) :: (b4, cel 28 (ctl c (c.sl ah ch))) :: (b3, cel 25 (gtl g (g.sl ag cg))) :: H, RowsA a1 5 (grows g.grs) :: R, [(6, Ld Try.prog 28 ⟨b4, 0, none⟩ (c.v (c.sl ah ch))), (4, Ld Try.prog 25 ⟨b3, 0, none⟩ (g.v (g.sl ag cg))), (2, Ld Try.prog 28 ⟨b4, 0, none⟩ (c.v (c.sl ah ch)))])) (fun v9 => ?_) (fun h1110101010110000 => ?_)
 obtain ⟨a1, c1, b7, b9, b10⟩ := v9
 dsimp only
 unfold pl7_3_1110101010110000
 refine sy_any ?_
 refine sy_alt ?_ ?_
 refine cl rfl cal26 rfl rfl (c_Owned c ah ch (by omega) _ _) ?_
 rintro _ _ R1 ⟨o, rfl, ho, rfl, hR1⟩
 obtain rfl := hR1.symm
 clear hR1
 obtain ⟨a2, c2, he, hf⟩ := o.freeze
 rw [he]
 refine Sy.heap (H' := _) (fun w h => hf h) ?_
 rw [show (hrows c.hs).length = c.hs.length from List.length_map _]
 clear he hf
 refine bg (fun w hs => ⟨((lhA (ctl c (c.sl ah ch)) ag28 rfl rfl rfl)) w hs, ((lhA (gtl g (g.sl ag cg)) ag25 rfl rfl rfl)) w hs, trivial, trivial⟩) ?_
 exact sy_to (h1111101010110000 (a1, c1, a2, c2, b7, b9, b10)) (by repeat' first | exact Sub.nil | apply Sub.cons | rfl | (simp [lk]; omega)) (fun _ h => St.sub (((h.pull b7).pull b9).pull b10))
 refine sy_alt ?_ ?_
 refine alc rfl zl28 rfl (fun b8 => ?_)
 refine bg (fun w hs => ⟨((lhA (ctl c (c.sl ah ch)) ag28 rfl rfl rfl)) w hs, ((lhA (gtl g (g.sl ag cg)) ag25 rfl rfl rfl)) w hs, ((lhA (ctl c (c.sl ah ch)) ag28 rfl rfl rfl)) w hs, trivial⟩) ?_
 exact sy_to (h1110101011110000 (a1, c1, b7, b8, b9, b10)) (by repeat' first | exact Sub.nil | apply Sub.cons | rfl | (simp [lk]; omega)) (fun _ h => St.sub ((((h.pull b7).pull b8).pull b9).pull b10))
 exact sy_stop
 refine sy_have (β := Option Addr × Nat × Nat × Nat) pl7_3_1110101010100000 (fun ⟨a1, c1, b7, b9⟩ => ([(9, .pointer (some ⟨b9, 0, none⟩)), (7, .pointer (some ⟨b7, 0, none⟩)), (28, g.v (g.sl a1 c1)), (2, .int .i64 k), (3, .pointer (some ⟨b3, 0, none⟩)), (4, .pointer (some ⟨b4, 0, none⟩)), (27, g.v (g.sl ag cg)), (29, c.v (c.sl ah ch)), (31, g.v (g.sl ag cg)), (33, c.v (c.sl ah ch))], (b9, cel 59 ([.int .i64 0, .int .i64 0, .slice none 0 0])) :: (b7, cel 25 ([.int .i64 0, .int .i64 0, .slice none 0 0])) :: (b4, cel 28 (ctl c (c.sl ah ch))) :: (b3, cel 25 (gtl g (g.sl ag cg))) :: H, RowsA a1 5 (grows g.grs) :: R, [(6, Ld Try.prog 28 ⟨b4, 0, none⟩ (c.v (c.sl ah ch))), (4, Ld Try.prog 25 ⟨b3, 0, none⟩ (g.v (g.sl ag cg))), (2, Ld Try.prog 28 ⟨b4, 0, none⟩ (c.v (c.sl ah ch)))])) (fun v9 => ?_) (fun h1110101010100000 => ?_)
 obtain ⟨a1, c1, b7, b9⟩ := v9
 dsimp only
 unfold pl7_3_1110101010100000
 refine sy_any ?_
 refine sy_alt ?_ ?_
 refine cl rfl cal26 rfl rfl (c_Owned c ah ch (by omega) _ _) ?_
 rintro _ _ R1 ⟨o, rfl, ho, rfl, hR1⟩
 obtain rfl := hR1.symm
 clear hR1
 obtain ⟨a2, c2, he, hf⟩ := o.freeze
 rw [he]
 refine Sy.heap (H' := _) (fun w h => hf h) ?_
 rw [show (hrows c.hs).length = c.hs.length from List.length_map _]
 clear he hf
 refine bg (fun w hs => ⟨((lhA (ctl c (c.sl ah ch)) ag28 rfl rfl rfl)) w hs, ((lhA (gtl g (g.sl ag cg)) ag25 rfl rfl rfl)) w hs, trivial, trivial⟩) ?_
 exact sy_to (h1111101010100000 (a1, c1, a2, c2, b7, b9)) (by repeat' first | exact Sub.nil | apply Sub.cons | rfl | (simp [lk]; omega)) (fun _ h => St.sub ((h.pull b7).pull b9))
 refine sy_alt ?_ ?_
 refine alc rfl zl28 rfl (fun b8 => ?_)
 refine bg (fun w hs => ⟨((lhA (ctl c (c.sl ah ch)) ag28 rfl rfl rfl)) w hs, ((lhA (gtl g (g.sl ag cg)) ag25 rfl rfl rfl)) w hs, ((lhA (ctl c (c.sl ah ch)) ag28 rfl rfl rfl)) w hs, trivial⟩) ?_
 exact sy_to (h1110101011100000 (a1, c1, b7, b8, b9)) (by repeat' first | exact Sub.nil | apply Sub.cons | rfl | (simp [lk]; omega)) (fun _ h => St.sub (((h.pull b7).pull b8).pull b9))
 refine sy_alt ?_ ?_
 refine alc rfl zl63 rfl (fun b10 => ?_)
 refine bg (fun w hs => ⟨((lhA (ctl c (c.sl ah ch)) ag28 rfl rfl rfl)) w hs, ((lhA (gtl g (g.sl ag cg)) ag25 rfl rfl rfl)) w hs, ((lhA (ctl c (c.sl ah ch)) ag28 rfl rfl rfl)) w hs, trivial⟩) ?_
 exact sy_to (h1110101010110000 (a1, c1, b7, b9, b10)) (by repeat' first | exact Sub.nil | apply Sub.cons | rfl | (simp [lk]; omega)) (fun _ h => St.sub (((h.pull b7).pull b9).pull b10))
 exact sy_stop
 refine sy_have (β := Option Addr × Nat × Nat × Nat) pl7_3_1110101010010000 (fun ⟨a1, c1, b7, b10⟩ => ([(10, .pointer (some ⟨b10, 0, none⟩)), (7, .pointer (some ⟨b7, 0, none⟩)), (28, g.v (g.sl a1 c1)), (2, .int .i64 k), (3, .pointer (some ⟨b3, 0, none⟩)), (4, .pointer (some ⟨b4, 0, none⟩)), (27, g.v (g.sl ag cg)), (29, c.v (c.sl ah ch)), (31, g.v (g.sl ag cg)), (33, c.v (c.sl ah ch))], (b10, cel 63 ([.int .i64 0, .int .i64 0, .slice none 0 0])) :: (b7, cel 25 ([.int .i64 0, .int .i64 0, .slice none 0 0])) :: (b4, cel 28 (ctl c (c.sl ah ch))) :: (b3, cel 25 (gtl g (g.sl ag cg))) :: H, RowsA a1 5 (grows g.grs) :: R, [(6, Ld Try.prog 28 ⟨b4, 0, none⟩ (c.v (c.sl ah ch))), (4, Ld Try.prog 25 ⟨b3, 0, none⟩ (g.v (g.sl ag cg))), (2, Ld Try.prog 28 ⟨b4, 0, none⟩ (c.v (c.sl ah ch)))])) (fun v9 => ?_) (fun h1110101010010000 => ?_)
 obtain ⟨a1, c1, b7, b10⟩ := v9
 dsimp only
 unfold pl7_3_1110101010010000
 refine sy_any ?_
 refine sy_alt ?_ ?_
 refine cl rfl cal26 rfl rfl (c_Owned c ah ch (by omega) _ _) ?_
 rintro _ _ R1 ⟨o, rfl, ho, rfl, hR1⟩
 obtain rfl := hR1.symm
 clear hR1
 obtain ⟨a2, c2, he, hf⟩ := o.freeze
 rw [he]
 refine Sy.heap (H' := _) (fun w h => hf h) ?_
 rw [show (hrows c.hs).length = c.hs.length from List.length_map _]
 clear he hf
 refine bg (fun w hs => ⟨((lhA (ctl c (c.sl ah ch)) ag28 rfl rfl rfl)) w hs, ((lhA (gtl g (g.sl ag cg)) ag25 rfl rfl rfl)) w hs, trivial, trivial⟩) ?_
 exact sy_to (h1111101010010000 (a1, c1, a2, c2, b7, b10)) (by repeat' first | exact Sub.nil | apply Sub.cons | rfl | (simp [lk]; omega)) (fun _ h => St.sub ((h.pull b7).pull b10))
 refine sy_alt ?_ ?_
 refine alc rfl zl28 rfl (fun b8 => ?_)
 refine bg (fun w hs => ⟨((lhA (ctl c (c.sl ah ch)) ag28 rfl rfl rfl)) w hs, ((lhA (gtl g (g.sl ag cg)) ag25 rfl rfl rfl)) w hs, ((lhA (ctl c (c.sl ah ch)) ag28 rfl rfl rfl)) w hs, trivial⟩) ?_
 exact sy_to (h1110101011010000 (a1, c1, b7, b8, b10)) (by repeat' first | exact Sub.nil | apply Sub.cons | rfl | (simp [lk]; omega)) (fun _ h => St.sub (((h.pull b7).pull b8).pull b10))
 refine sy_alt ?_ ?_
 refine alc rfl zl59 rfl (fun b9 => ?_)
 refine bg (fun w hs => ⟨((lhA (ctl c (c.sl ah ch)) ag28 rfl rfl rfl)) w hs, ((lhA (gtl g (g.sl ag cg)) ag25 rfl rfl rfl)) w hs, ((lhA (ctl c (c.sl ah ch)) ag28 rfl rfl rfl)) w hs, trivial⟩) ?_
 exact sy_to (h1110101010110000 (a1, c1, b7, b9, b10)) (by repeat' first | exact Sub.nil | apply Sub.cons | rfl | (simp [lk]; omega)) (fun _ h => St.sub (((h.pull b7).pull b9).pull b10))
 exact sy_stop
 refine sy_have (β := Option Addr × Nat × Nat) pl7_3_1110101010000000 (fun ⟨a1, c1, b7⟩ => ([(7, .pointer (some ⟨b7, 0, none⟩)), (28, g.v (g.sl a1 c1)), (2, .int .i64 k), (3, .pointer (some ⟨b3, 0, none⟩)), (4, .pointer (some ⟨b4, 0, none⟩)), (27, g.v (g.sl ag cg)), (29, c.v (c.sl ah ch)), (31, g.v (g.sl ag cg)), (33, c.v (c.sl ah ch))], (b7, cel 25 ([.int .i64 0, .int .i64 0, .slice none 0 0])) :: (b4, cel 28 (ctl c (c.sl ah ch))) :: (b3, cel 25 (gtl g (g.sl ag cg))) :: H, RowsA a1 5 (grows g.grs) :: R, [(6, Ld Try.prog 28 ⟨b4, 0, none⟩ (c.v (c.sl ah ch))), (4, Ld Try.prog 25 ⟨b3, 0, none⟩ (g.v (g.sl ag cg))), (2, Ld Try.prog 28 ⟨b4, 0, none⟩ (c.v (c.sl ah ch)))])) (fun v9 => ?_) (fun h1110101010000000 => ?_)
 obtain ⟨a1, c1, b7⟩ := v9
 dsimp only
 unfold pl7_3_1110101010000000
 refine sy_any ?_
 refine sy_alt ?_ ?_
 refine cl rfl cal26 rfl rfl (c_Owned c ah ch (by omega) _ _) ?_
 rintro _ _ R1 ⟨o, rfl, ho, rfl, hR1⟩
 obtain rfl := hR1.symm
 clear hR1
 obtain ⟨a2, c2, he, hf⟩ := o.freeze
 rw [he]
 refine Sy.heap (H' := _) (fun w h => hf h) ?_
 rw [show (hrows c.hs).length = c.hs.length from List.length_map _]
 clear he hf
 refine bg (fun w hs => ⟨((lhA (ctl c (c.sl ah ch)) ag28 rfl rfl rfl)) w hs, ((lhA (gtl g (g.sl ag cg)) ag25 rfl rfl rfl)) w hs, trivial, trivial⟩) ?_
 exact sy_to (h1111101010000000 (a1, c1, a2, c2, b7)) (by repeat' first | exact Sub.nil | apply Sub.cons | rfl | (simp [lk]; omega)) (fun _ h => St.sub (h.pull b7))
 refine sy_alt ?_ ?_
 refine alc rfl zl28 rfl (fun b8 => ?_)
 refine bg (fun w hs => ⟨((lhA (ctl c (c.sl ah ch)) ag28 rfl rfl rfl)) w hs, ((lhA (gtl g (g.sl ag cg)) ag25 rfl rfl rfl)) w hs, ((lhA (ctl c (c.sl ah ch)) ag28 rfl rfl rfl)) w hs, trivial⟩) ?_
 exact sy_to (h1110101011000000 (a1, c1, b7, b8)) (by repeat' first | exact Sub.nil | apply Sub.cons | rfl | (simp [lk]; omega)) (fun _ h => St.sub ((h.pull b7).pull b8))
 refine sy_alt ?_ ?_
 refine alc rfl zl59 rfl (fun b9 => ?_)
 refine bg (fun w hs => ⟨((lhA (ctl c (c.sl ah ch)) ag28 rfl rfl rfl)) w hs, ((lhA (gtl g (g.sl ag cg)) ag25 rfl rfl rfl)) w hs, ((lhA (ctl c (c.sl ah ch)) ag28 rfl rfl rfl)) w hs, trivial⟩) ?_
 exact sy_to (h1110101010100000 (a1, c1, b7, b9)) (by repeat' first | exact Sub.nil | apply Sub.cons | rfl | (simp [lk]; omega)) (fun _ h => St.sub ((h.pull b7).pull b9))
 refine sy_alt ?_ ?_
 refine alc rfl zl63 rfl (fun b10 => ?_)
 refine bg (fun w hs => ⟨((lhA (ctl c (c.sl ah ch)) ag28 rfl rfl rfl)) w hs, ((lhA (gtl g (g.sl ag cg)) ag25 rfl rfl rfl)) w hs, ((lhA (ctl c (c.sl ah ch)) ag28 rfl rfl rfl)) w hs, trivial⟩) ?_
 exact sy_to (h1110101010010000 (a1, c1, b7, b10)) (by repeat' first | exact Sub.nil | apply Sub.cons | rfl | (simp [lk]; omega)) (fun _ h => St.sub ((h.pull b7).pull b10))
 exact sy_stop
 refine sy_have (β := Option Addr × Nat × Nat × Nat × Nat) pl7_3_1110101001110000 (fun ⟨a1, c1, b8, b9, b10⟩ => ([(10, .pointer (some ⟨b10, 0, none⟩)), (9, .pointer (some ⟨b9, 0, none⟩)), (8, .pointer (some ⟨b8, 0, none⟩)), (28, g.v (g.sl a1 c1)), (2, .int .i64 k), (3, .pointer (some ⟨b3, 0, none⟩)), (4, .pointer (some ⟨b4, 0, none⟩)), (27, g.v (g.sl ag cg)), (29, c.v (c.sl ah ch)), (31, g.v (g.sl ag cg)), (33, c.v (c.sl ah ch))], (b10, cel 63 ([.int .i64 0, .int .i64 0, .slice none 0 0])) :: (b9, cel 59 ([.int .i64 0, .int .i64 0, .slice none 0 0])) :: (b8, cel 28 ([.int .i64 0, .int .i64 0, .slice none 0 0])) :: (b4, cel 28 (ctl c (c.sl ah ch))) :: (b3, cel 25 (gtl g (g.sl ag cg))) :: H, RowsA a1 5 (grows g.grs) :: R, [(6, Ld Try.prog 28 ⟨b4, 0, none⟩ (c.v (c.sl ah ch))), (4, Ld Try.prog 25 ⟨b3, 0, none⟩ (g.v (g.sl ag cg))), (2, Ld Try.prog 28 ⟨b4, 0, none⟩ (c.v (c.sl ah ch)))])) (fun v9 => ?_) (fun h1110101001110000 => ?_)
 obtain ⟨a1, c1, b8, b9, b10⟩ := v9
 dsimp only
 unfold pl7_3_1110101001110000
 refine sy_any ?_
 refine sy_alt ?_ ?_
 refine cl rfl cal26 rfl rfl (c_Owned c ah ch (by omega) _ _) ?_
 rintro _ _ R1 ⟨o, rfl, ho, rfl, hR1⟩
 obtain rfl := hR1.symm
 clear hR1
 obtain ⟨a2, c2, he, hf⟩ := o.freeze
 rw [he]
 refine Sy.heap (H' := _) (fun w h => hf h) ?_
 rw [show (hrows c.hs).length = c.hs.length from List.length_map _]
 clear he hf
 refine bg (fun w hs => ⟨((lhA (ctl c (c.sl ah ch)) ag28 rfl rfl rfl)) w hs, ((lhA (gtl g (g.sl ag cg)) ag25 rfl rfl rfl)) w hs, trivial, trivial⟩) ?_
 exact sy_to (h1111101001110000 (a1, c1, a2, c2, b8, b9, b10)) (by repeat' first | exact Sub.nil | apply Sub.cons | rfl | (simp [lk]; omega)) (fun _ h => St.sub (((h.pull b8).pull b9).pull b10))
 refine sy_alt ?_ ?_
 refine alc rfl zl25 rfl (fun b7 => ?_)
 refine bg (fun w hs => ⟨((lhA (ctl c (c.sl ah ch)) ag28 rfl rfl rfl)) w hs, ((lhA (gtl g (g.sl ag cg)) ag25 rfl rfl rfl)) w hs, ((lhA (ctl c (c.sl ah ch)) ag28 rfl rfl rfl)) w hs, trivial⟩) ?_
 exact sy_to (h1110101011110000 (a1, c1, b7, b8, b9, b10)) (by repeat' first | exact Sub.nil | apply Sub.cons | rfl | (simp [lk]; omega)) (fun _ h => St.sub ((((h.pull b7).pull b8).pull b9).pull b10))
 exact sy_stop
 refine sy_have (β := Option Addr × Nat × Nat × Nat) pl7_3_1110101001100000 (fun ⟨a1, c1, b8, b9⟩ => ([(9, .pointer (some ⟨b9, 0, none⟩)), (8, .pointer (some ⟨b8, 0, none⟩)), (28, g.v (g.sl a1 c1)), (2, .int .i64 k), (3, .pointer (some ⟨b3, 0, none⟩)), (4, .pointer (some ⟨b4, 0, none⟩)), (27, g.v (g.sl ag cg)), (29, c.v (c.sl ah ch)), (31, g.v (g.sl ag cg)), (33, c.v (c.sl ah ch))], (b9, cel 59 ([.int .i64 0, .int .i64 0, .slice none 0 0])) :: (b8, cel 28 ([.int .i64 0, .int .i64 0, .slice none 0 0])) :: (b4, cel 28 (ctl c (c.sl ah ch))) :: (b3, cel 25 (gtl g (g.sl ag cg))) :: H, RowsA a1 5 (grows g.grs) :: R, [(6, Ld Try.prog 28 ⟨b4, 0, none⟩ (c.v (c.sl ah ch))), (4, Ld Try.prog 25 ⟨b3, 0, none⟩ (g.v (g.sl ag cg))), (2, Ld Try.prog 28 ⟨b4, 0, none⟩ (c.v (c.sl ah ch)))])) (fun v9 => ?_) (fun h1110101001100000 => ?_)
 obtain ⟨a1, c1, b8, b9⟩ := v9
 dsimp only
 unfold pl7_3_1110101001100000
 refine sy_any ?_
 refine sy_alt ?_ ?_
 refine cl rfl cal26 rfl rfl (c_Owned c ah ch (by omega) _ _) ?_
 rintro _ _ R1 ⟨o, rfl, ho, rfl, hR1⟩
 obtain rfl := hR1.symm
 clear hR1
 obtain ⟨a2, c2, he, hf⟩ := o.freeze
 rw [he]
 refine Sy.heap (H' := _) (fun w h => hf h) ?_
 rw [show (hrows c.hs).length = c.hs.length from List.length_map _]
 clear he hf
 refine bg (fun w hs => ⟨((lhA (ctl c (c.sl ah ch)) ag28 rfl rfl rfl)) w hs, ((lhA (gtl g (g.sl ag cg)) ag25 rfl rfl rfl)) w hs, trivial, trivial⟩) ?_
 exact sy_to (h1111101001100000 (a1, c1, a2, c2, b8, b9)) (by repeat' first | exact Sub.nil | apply Sub.cons | rfl | (simp [lk]; omega)) (fun _ h => St.sub ((h.pull b8).pull b9))
 refine sy_alt ?_ ?_
 refine alc rfl zl25 rfl (fun b7 => ?_)
 refine bg (fun w hs => ⟨((lhA (ctl c (c.sl ah ch)) ag28 rfl rfl rfl)) w hs, ((lhA (gtl g (g.sl ag cg)) ag25 rfl rfl rfl)) w hs, ((lhA (ctl c (c.sl ah ch)) ag28 rfl rfl rfl)) w hs, trivial⟩) ?_
 exact sy_to (h1110101011100000 (a1, c1, b7, b8, b9)) (by repeat' first | exact Sub.nil | apply Sub.cons | rfl | (simp [lk]; omega)) (fun _ h => St.sub (((h.pull b7).pull b8).pull b9))
 refine sy_alt ?_ ?_
 refine alc rfl zl63 rfl (fun b10 => ?_)
 refine bg (fun w hs => ⟨((lhA (ctl c (c.sl ah ch)) ag28 rfl rfl rfl)) w hs, ((lhA (gtl g (g.sl ag cg)) ag25 rfl rfl rfl)) w hs, ((lhA (ctl c (c.sl ah ch)) ag28 rfl rfl rfl)) w hs, trivial⟩) ?_
 exact sy_to (h1110101001110000 (a1, c1, b8, b9, b10)) (by repeat' first | exact Sub.nil | apply Sub.cons | rfl | (simp [lk]; omega)) (fun _ h => St.sub (((h.pull b8).pull b9).pull b10))
 exact sy_stop
 refine sy_have (β := Option Addr × Nat × Nat × Nat) pl7_3_1110101001010000 (fun ⟨a1, c1, b8, b10⟩ => ([(10, .pointer (some ⟨b10, 0, none⟩)), (8, .pointer (some ⟨b8, 0, none⟩)), (28, g.v (g.sl a1 c1)), (2, .int .i64 k), (3, .pointer (some ⟨b3, 0, none⟩)), (4, .pointer (some ⟨b4, 0, none⟩)), (27, g.v (g.sl ag cg)), (29, c.v (c.sl ah ch)), (31, g.v (g.sl ag cg)), (33, c.v (c.sl ah ch))], (b10, cel 63 ([.int .i64 0, .int .i64 0, .slice none 0 0])) :: (b8, cel 28 ([.int .i64 0, .int .i64 0, .slice none 0 0])) :: (b4, cel 28 (ctl c (c.sl ah ch))) :: (b3, cel 25 (gtl g (g.sl ag cg))) :: H, RowsA a1 5 (grows g.grs) :: R, [(6, Ld Try.prog 28 ⟨b4, 0, none⟩ (c.v (c.sl ah ch))), (4, Ld Try.prog 25 ⟨b3, 0, none⟩ (g.v (g.sl ag cg))), (2, Ld Try.prog 28 ⟨b4, 0, none⟩ (c.v (c.sl ah ch)))])) (fun v9 => ?_) (fun h1110101001010000 => ?_)
 obtain ⟨a1, c1, b8, b10⟩ := v9
 dsimp only
 unfold pl7_3_1110101001010000
 refine sy_any ?_
 refine sy_alt ?_ ?_
 refine cl rfl cal26 rfl rfl (c_Owned c ah ch (by omega) _ _) ?_
 rintro _ _ R1 ⟨o, rfl, ho, rfl, hR1⟩
 obtain rfl := hR1.symm
 clear hR1
 obtain ⟨a2, c2, he, hf⟩ := o.freeze
 rw [he]
 refine Sy.heap (H' := _) (fun w h => hf h) ?_
 rw [show (hrows c.hs).length = c.hs.length from List.length_map _]
 clear he hf
 refine bg (fun w hs => ⟨((lhA (ctl c (c.sl ah ch)) ag28 rfl rfl rfl)) w hs, ((lhA (gtl g (g.sl ag cg)) ag25 rfl rfl rfl)) w hs, trivial, trivial⟩) ?_
 exact sy_to (h1111101001010000 (a1, c1, a2, c2, b8, b10)) (by repeat' first | exact Sub.nil | apply Sub.cons | rfl | (simp [lk]; omega)) (fun _ h => St.sub ((h.pull b8).pull b10))
 refine sy_alt ?_ ?_
 refine alc rfl zl25 rfl (fun b7 => ?_)
 refine bg (fun w hs => ⟨((lhA (ctl c (c.sl ah ch)) ag28 rfl rfl rfl)) w hs, ((lhA (gtl g (g.sl ag cg)) ag25 rfl rfl rfl)) w hs, ((lhA (ctl c (c.sl ah ch)) ag28 rfl rfl rfl)) w hs, trivial⟩) ?_
 exact sy_to (h1110101011010000 (a1, c1, b7, b8, b10)) (by repeat' first | exact Sub.nil | apply Sub.cons | rfl | (simp [lk]; omega)) (fun _ h => St.sub (((h.pull b7).pull b8).pull b10))
 refine sy_alt ?_ ?_
 refine alc rfl zl59 rfl (fun b9 => ?_)
 refine bg (fun w hs => ⟨((lhA (ctl c (c.sl ah ch)) ag28 rfl rfl rfl)) w hs, ((lhA (gtl g (g.sl ag cg)) ag25 rfl rfl rfl)) w hs, ((lhA (ctl c (c.sl ah ch)) ag28 rfl rfl rfl)) w hs, trivial⟩) ?_
 exact sy_to (h1110101001110000 (a1, c1, b8, b9, b10)) (by repeat' first | exact Sub.nil | apply Sub.cons | rfl | (simp [lk]; omega)) (fun _ h => St.sub (((h.pull b8).pull b9).pull b10))
 exact sy_stop
 refine sy_have (β := Option Addr × Nat × Nat) pl7_3_1110101001000000 (fun ⟨a1, c1, b8⟩ => ([(8, .pointer (some ⟨b8, 0, none⟩)), (28, g.v (g.sl a1 c1)), (2, .int .i64 k), (3, .pointer (some ⟨b3, 0, none⟩)), (4, .pointer (some ⟨b4, 0, none⟩)), (27, g.v (g.sl ag cg)), (29, c.v (c.sl ah ch)), (31, g.v (g.sl ag cg)), (33, c.v (c.sl ah ch))], (b8, cel 28 ([.int .i64 0, .int .i64 0, .slice none 0 0])) :: (b4, cel 28 (ctl c (c.sl ah ch))) :: (b3, cel 25 (gtl g (g.sl ag cg))) :: H, RowsA a1 5 (grows g.grs) :: R, [(6, Ld Try.prog 28 ⟨b4, 0, none⟩ (c.v (c.sl ah ch))), (4, Ld Try.prog 25 ⟨b3, 0, none⟩ (g.v (g.sl ag cg))), (2, Ld Try.prog 28 ⟨b4, 0, none⟩ (c.v (c.sl ah ch)))])) (fun v9 => ?_) (fun h1110101001000000 => ?_)
 obtain ⟨a1, c1, b8⟩ := v9
 dsimp only
 unfold pl7_3_1110101001000000
 refine sy_any ?_
 refine sy_alt ?_ ?_
 refine cl rfl cal26 rfl rfl (c_Owned c ah ch (by omega) _ _) ?_
 rintro _ _ R1 ⟨o, rfl, ho, rfl, hR1⟩
 obtain rfl := hR1.symm
 clear hR1
 obtain ⟨a2, c2, he, hf⟩ := o.freeze
 rw [he]
 refine Sy.heap (H' := _) (fun w h => hf h) ?_
 rw [show (hrows c.hs).length = c.hs.length from List.length_map _]
 clear he hf
 refine bg (fun w hs => ⟨((lhA (ctl c (c.sl ah ch)) ag28 rfl rfl rfl)) w hs, ((lhA (gtl g (g.sl ag cg)) ag25 rfl rfl rfl)) w hs, trivial, trivial⟩) ?_
 exact sy_to (h1111101001000000 (a1, c1, a2, c2, b8)) (by repeat' first | exact Sub.nil | apply Sub.cons | rfl | (simp [lk]; omega)) (fun _ h => St.sub (h.pull b8))
 refine sy_alt ?_ ?_
 refine alc rfl zl25 rfl (fun b7 => ?_)
 refine bg (fun w hs => ⟨((lhA (ctl c (c.sl ah ch)) ag28 rfl rfl rfl)) w hs, ((lhA (gtl g (g.sl ag cg)) ag25 rfl rfl rfl)) w hs, ((lhA (ctl c (c.sl ah ch)) ag28 rfl rfl rfl)) w hs, trivial⟩) ?_
 exact sy_to (h1110101011000000 (a1, c1, b7, b8)) (by repeat' first | exact Sub.nil | apply Sub.cons | rfl | (simp [lk]; omega)) (fun _ h => St.sub ((h.pull b7).pull b8))
 refine sy_alt ?_ ?_
 refine alc rfl zl59 rfl (fun b9 => ?_)
 refine bg (fun w hs => ⟨((lhA (ctl c (c.sl ah ch)) ag28 rfl rfl rfl)) w hs, ((lhA (gtl g (g.sl ag cg)) ag25 rfl rfl rfl)) w hs, ((lhA (ctl c (c.sl ah ch)) ag28 rfl rfl rfl)) w hs, trivial⟩) ?_
 exact sy_to (h1110101001100000 (a1, c1, b8, b9)) (by repeat' first | exact Sub.nil | apply Sub.cons | rfl | (simp [lk]; omega)) (fun _ h => St.sub ((h.pull b8).pull b9))
 refine sy_alt ?_ ?_
 refine alc rfl zl63 rfl (fun b10 => ?_)
 refine bg (fun w hs => ⟨((lhA (ctl c (c.sl ah ch)) ag28 rfl rfl rfl)) w hs, ((lhA (gtl g (g.sl ag cg)) ag25 rfl rfl rfl)) w hs, ((lhA (ctl c (c.sl ah ch)) ag28 rfl rfl rfl)) w hs, trivial⟩) ?_
 exact sy_to (h1110101001010000 (a1, c1, b8, b10)) (by repeat' first | exact Sub.nil | apply Sub.cons | rfl | (simp [lk]; omega)) (fun _ h => St.sub ((h.pull b8).pull b10))
 exact sy_stop
 refine sy_have (β := Option Addr × Nat × Nat × Nat) pl7_3_1110101000110000 (fun ⟨a1, c1, b9, b10⟩ => ([(10, .pointer (some ⟨b10, 0, none⟩)), (9, .pointer (some ⟨b9, 0, none⟩)), (28, g.v (g.sl a1 c1)), (2, .int .i64 k), (3, .pointer (some ⟨b3, 0, none⟩)), (4, .pointer (some ⟨b4, 0, none⟩)), (27, g.v (g.sl ag cg)), (29, c.v (c.sl ah ch)), (31, g.v (g.sl ag cg)), (33, c.v (c.sl ah ch))], (b10, cel 63 ([.int .i64 0, .int .i64 0, .slice none 0 0])) :: (b9, cel 59 ([.int .i64 0, .int .i64 0, .slice none 0 0])) :: (b4, cel 28 (ctl c (c.sl ah ch))) :: (b3, cel 25 (gtl g (g.sl ag cg))) :: H, RowsA a1 5 (grows g.grs) :: R, [(6, Ld Try.prog 28 ⟨b4, 0, none⟩ (c.v (c.sl ah ch))), (4, Ld Try.prog 25 ⟨b3, 0, none⟩ (g.v (g.sl ag cg))), (2, Ld Try.prog 28 ⟨b4, 0, none⟩ (c.v (c.sl ah ch)))])) (fun v9 => ?_) (fun h1110101000110000 => ?_)
 obtain ⟨a1, c1, b9, b10⟩ := v9
 dsimp only
 unfold pl7_3_1110101000110000
 refine sy_any ?_
 refine sy_alt ?_ ?_
 refine cl rfl cal26 rfl rfl (c_Owned c ah ch (by omega) _ _) ?_
 rintro _ _ R1 ⟨o, rfl, ho, rfl, hR1⟩
 obtain rfl := hR1.symm
 clear hR1
 obtain ⟨a2, c2, he, hf⟩ := o.freeze
 rw [he]
 refine Sy.heap (H' := _) (fun w h => hf h) ?_
 rw [show (hrows c.hs).length = c.hs.length from List.length_map _]
 clear he hf
 refine bg (fun w hs => ⟨((lhA (ctl c (c.sl ah ch)) ag28 rfl rfl rfl)) w hs, ((lhA (gtl g (g.sl ag cg)) ag25 rfl rfl rfl)) w hs, trivial, trivial⟩) ?_
 exact sy_to (h1111101000110000 (a1, c1, a2, c2, b9, b10)) (by repeat' first | exact Sub.nil | apply Sub.cons | rfl | (simp [lk]; omega)) (fun _ h => St.sub ((h.pull b9).pull b10))
 refine sy_alt ?_ ?_
 refine alc rfl zl25 rfl (fun b7 => ?_)
 refine bg (fun w hs => ⟨((lhA (ctl c (c.sl ah ch)) ag28 rfl rfl rfl)) w hs, ((lhA (gtl g (g.sl ag cg)) ag25 rfl rfl rfl)) w hs, ((lhA (ctl c (c.sl ah ch)) ag28 rfl rfl rfl)) w hs, trivial⟩) ?_
 exact sy_to (h1110101010110000 (a1, c1, b7, b9, b10)) (by repeat' first | exact Sub.nil | apply Sub.cons | rfl | (simp [lk]; omega)) (fun _ h => St.sub (((h.pull b7).pull b9).pull b10))
 refine sy_alt ?_ ?_
 refine alc rfl zl28 rfl (fun b8 => ?_)
 refine bg (fun w hs => ⟨((lhA (ctl c (c.sl ah ch)) ag28 rfl rfl rfl)) w hs, ((lhA (gtl g (g.sl ag cg)) ag25 rfl rfl rfl)) w hs, ((lhA (ctl c (c.sl ah ch)) ag28 rfl rfl rfl)) w hs, trivial⟩) ?_
 exact sy_to (h1110101001110000 (a1, c1, b8, b9, b10)) (by repeat' first | exact Sub.nil | apply Sub.cons | rfl | (simp [lk]; omega)) (fun _ h => St.sub (((h.pull b8).pull b9).pull b10))
 exact sy_stop
 refine sy_have (β := Option Addr × Nat × Nat) pl7_3_1110101000100000 (fun ⟨a1, c1, b9⟩ => ([(9, .pointer (some ⟨b9, 0, none⟩)), (28, g.v (g.sl a1 c1)), (2, .int .i64 k), (3, .pointer (some ⟨b3, 0, none⟩)), (4, .pointer (some ⟨b4, 0, none⟩)), (27, g.v (g.sl ag cg)), (29, c.v (c.sl ah ch)), (31, g.v (g.sl ag cg)), (33, c.v (c.sl ah ch))], (b9, cel 59 ([.int .i64 0, .int .i64 0, .slice none 0 0])) :: (b4, cel 28 (ctl c (c.sl ah ch))) :: (b3, cel 25 (gtl g (g.sl ag cg))) :: H, RowsA a1 5 (grows g.grs) :: R, [(6, Ld Try.prog 28 ⟨b4, 0, none⟩ (c.v (c.sl ah ch))), (4, Ld Try.prog 25 ⟨b3, 0, none⟩ (g.v (g.sl ag cg))), (2, Ld Try.prog 28 ⟨b4, 0, none⟩ (c.v (c.sl ah ch)))])) (fun v9 => ?_) (fun h1110101000100000 => ?_)
 obtain ⟨a1, c1, b9⟩ := v9
 dsimp only
 unfold pl7_3_1110101000100000
 refine sy_any ?_
 refine sy_alt ?_ ?_
 refine cl rfl cal26 rfl rfl (c_Owned c ah ch (by omega) _ _) ?_
 rintro _ _ R1 ⟨o, rfl, ho, rfl, hR1⟩
 obtain rfl := hR1.symm
 clear hR1
 obtain ⟨a2, c2, he, hf⟩ := o.freeze
 rw [he]
 refine Sy.heap (H' := _) (fun w h => hf h) ?_
 rw [show (hrows c.hs).length = c.hs.length from List.length_map _]
 clear he hf
 refine bg (fun w hs => ⟨((lhA (ctl c (c.sl ah ch)) ag28 rfl rfl rfl)) w hs, ((lhA (gtl g (g.sl ag cg)) ag25 rfl rfl rfl)) w hs, trivial, trivial⟩) ?_
 exact sy_to (h1111101000100000 (a1, c1, a2, c2, b9)) (by repeat' first | exact Sub.nil | apply Sub.cons | rfl | (simp [lk]; omega)) (fun _ h => St.sub (h.pull b9))
 refine sy_alt ?_ ?_
 refine alc rfl zl25 rfl (fun b7 => ?_)
 refine bg (fun w hs => ⟨((lhA (ctl c (c.sl ah ch)) ag28 rfl rfl rfl)) w hs, ((lhA (gtl g (g.sl ag cg)) ag25 rfl rfl rfl)) w hs, ((lhA (ctl c (c.sl ah ch)) ag28 rfl rfl rfl)) w hs, trivial⟩) ?_
 exact sy_to (h1110101010100000 (a1, c1, b7, b9)) (by repeat' first | exact Sub.nil | apply Sub.cons | rfl | (simp [lk]; omega)) (fun _ h => St.sub ((h.pull b7).pull b9))
 refine sy_alt ?_ ?_
 refine alc rfl zl28 rfl (fun b8 => ?_)
 refine bg (fun w hs => ⟨((lhA (ctl c (c.sl ah ch)) ag28 rfl rfl rfl)) w hs, ((lhA (gtl g (g.sl ag cg)) ag25 rfl rfl rfl)) w hs, ((lhA (ctl c (c.sl ah ch)) ag28 rfl rfl rfl)) w hs, trivial⟩) ?_
 exact sy_to (h1110101001100000 (a1, c1, b8, b9)) (by repeat' first | exact Sub.nil | apply Sub.cons | rfl | (simp [lk]; omega)) (fun _ h => St.sub ((h.pull b8).pull b9))
 refine sy_alt ?_ ?_
 refine alc rfl zl63 rfl (fun b10 => ?_)
 refine bg (fun w hs => ⟨((lhA (ctl c (c.sl ah ch)) ag28 rfl rfl rfl)) w hs, ((lhA (gtl g (g.sl ag cg)) ag25 rfl rfl rfl)) w hs, ((lhA (ctl c (c.sl ah ch)) ag28 rfl rfl rfl)) w hs, trivial⟩) ?_
 exact sy_to (h1110101000110000 (a1, c1, b9, b10)) (by repeat' first | exact Sub.nil | apply Sub.cons | rfl | (simp [lk]; omega)) (fun _ h => St.sub ((h.pull b9).pull b10))
 exact sy_stop
 refine sy_have (β := Option Addr × Nat × Nat) pl7_3_1110101000010000 (fun ⟨a1, c1, b10⟩ => ([(10, .pointer (some ⟨b10, 0, none⟩)), (28, g.v (g.sl a1 c1)), (2, .int .i64 k), (3, .pointer (some ⟨b3, 0, none⟩)), (4, .pointer (some ⟨b4, 0, none⟩)), (27, g.v (g.sl ag cg)), (29, c.v (c.sl ah ch)), (31, g.v (g.sl ag cg)), (33, c.v (c.sl ah ch))], (b10, cel 63 ([.int .i64 0, .int .i64 0, .slice none 0 0])) :: (b4, cel 28 (ctl c (c.sl ah ch))) :: (b3, cel 25 (gtl g (g.sl ag cg))) :: H, RowsA a1 5 (grows g.grs) :: R, [(6, Ld Try.prog 28 ⟨b4, 0, none⟩ (c.v (c.sl ah ch))), (4, Ld Try.prog 25 ⟨b3, 0, none⟩ (g.v (g.sl ag cg))), (2, Ld Try.prog 28 ⟨b4, 0, none⟩ (c.v (c.sl ah ch)))])) (fun v9 => ?_) (fun h1110101000010000 => ?_)
 obtain ⟨a1, c1, b10⟩ := v9
 dsimp only
 unfold pl7_3_1110101000010000
 refine sy_any ?_
 refine sy_alt ?_ ?_
 refine cl rfl cal26 rfl rfl (c_Owned c ah ch (by omega) _ _) ?_
 rintro _ _ R1 ⟨o, rfl, ho, rfl, hR1⟩
 obtain rfl := hR1.symm
 clear hR1
 obtain ⟨a2, c2, he, hf⟩ := o.freeze
 rw [he]
 refine Sy.heap (H' := _) (fun w h => hf h) ?_
 rw [show (hrows c.hs).length = c.hs.length from List.length_map _]
 clear he hf
 refine bg (fun w hs => ⟨((lhA (ctl c (c.sl ah ch)) ag28 rfl rfl rfl)) w hs, ((lhA (gtl g (g.sl ag cg)) ag25 rfl rfl rfl)) w hs, trivial, trivial⟩) ?_
 exact sy_to (h1111101000010000 (a1, c1, a2, c2, b10)) (by repeat' first | exact Sub.nil | apply Sub.cons | rfl | (simp [lk]; omega)) (fun _ h => St.sub (h.pull b10))
 refine sy_alt ?_ ?_
 refine alc rfl zl25 rfl (fun b7 => ?_)
 refine bg (fun w hs => ⟨((lhA (ctl c (c.sl ah ch)) ag28 rfl rfl rfl)) w hs, ((lhA (gtl g (g.sl ag cg)) ag25 rfl rfl rfl)) w hs, ((lhA (ctl c (c.sl ah ch)) ag28 rfl rfl rfl)) w hs, trivial⟩) ?_
 exact sy_to (h1110101010010000 (a1, c1, b7, b10)) (by repeat' first | exact Sub.nil | apply Sub.cons | rfl | (simp [lk]; omega)) (fun _ h => St.sub ((h.pull b7).pull b10))
 refine sy_alt ?_ ?_
 refine alc rfl zl28 rfl (fun b8 => ?_)
 refine bg (fun w hs => ⟨((lhA (ctl c (c.sl ah ch)) ag28 rfl rfl rfl)) w hs, ((lhA (gtl g (g.sl ag cg)) ag25 rfl rfl rfl)) w hs, ((lhA (ctl c (c.sl ah ch)) ag28 rfl rfl rfl)) w hs, trivial⟩) ?_
 exact sy_to (h1110101001010000 (a1, c1, b8, b10)) (by repeat' first | exact Sub.nil | apply Sub.cons | rfl | (simp [lk]; omega)) (fun _ h => St.sub ((h.pull b8).pull b10))
 refine sy_alt ?_ ?_
 refine alc rfl zl59 rfl (fun b9 => ?_)
 refine bg (fun w hs => ⟨((lhA (ctl c (c.sl ah ch)) ag28 rfl rfl rfl)) w hs, ((lhA (gtl g (g.sl ag cg)) ag25 rfl rfl rfl)) w hs, ((lhA (ctl c (c.sl ah ch)) ag28 rfl rfl rfl)) w hs, trivial⟩) ?_
 exact sy_to (h1110101000110000 (a1, c1, b9, b10)) (by repeat' first | exact Sub.nil | apply Sub.cons | rfl | (simp [lk]; omega)) (fun _ h => St.sub ((h.pull b9).pull b10))
 exact sy_stop
 refine sy_have (β := Nat × Nat × Nat × Nat) pl7_3_1010101011110000 (fun ⟨b7, b8, b9, b10⟩ => ([(10, .pointer (some ⟨b10, 0, none⟩)), (9, .pointer (some ⟨b9, 0, none⟩)), (8, .pointer (some ⟨b8, 0, none⟩)), (7, .pointer (some ⟨b7, 0, none⟩)), (2, .int .i64 k), (3, .pointer (some ⟨b3, 0, none⟩)), (4, .pointer (some ⟨b4, 0, none⟩)), (27, g.v (g.sl ag cg)), (29, c.v (c.sl ah ch)), (31, g.v (g.sl ag cg)), (33, c.v (c.sl ah ch))], (b10, cel 63 ([.int .i64 0, .int .i64 0, .slice none 0 0])) :: (b9, cel 59 ([.int .i64 0, .int .i64 0, .slice none 0 0])) :: (b8, cel 28 ([.int .i64 0, .int .i64 0, .slice none 0 0])) :: (b7, cel 25 ([.int .i64 0, .int .i64 0, .slice none 0 0])) :: (b4, cel 28 (ctl c (c.sl ah ch))) :: (b3, cel 25 (gtl g (g.sl ag cg))) :: H, R, [(6, Ld Try.prog 28 ⟨b4, 0, none⟩ (c.v (c.sl ah ch))), (4, Ld Try.prog 25 ⟨b3, 0, none⟩ (g.v (g.sl ag cg))), (2, Ld Try.prog 28 ⟨b4, 0, none⟩ (c.v (c.sl ah ch))), (0, Ld Try.prog 25 ⟨b3, 0, none⟩ (g.v (g.sl ag cg)))])) (fun v9 => ?_) (fun h1010101011110000 => ?_)
 obtain ⟨b7, b8, b9, b10⟩ := v9
 dsimp only
 unfold pl7_3_1010101011110000
 refine cl rfl cal25 rfl rfl (c_Own g ag cg (by omega) _ _) ?_
 rintro _ _ R1 ⟨o, rfl, ho, rfl, hR1⟩
 obtain rfl := hR1.symm
 clear hR1
 obtain ⟨a1, c1, he, hf⟩ := o.freeze
 rw [he]
 refine Sy.heap (H' := _) (fun w h => hf h) ?_
 rw [show (grows g.grs).length = g.grs.length from List.length_map _]
 clear he hf
 refine bg (fun w hs => ⟨((lhA (ctl c (c.sl ah ch)) ag28 rfl rfl rfl)) w hs, ((lhA (gtl g (g.sl ag cg)) ag25 rfl rfl rfl)) w hs, ((lhA (ctl c (c.sl ah ch)) ag28 rfl rfl rfl)) w hs, trivial, trivial⟩) ?_
 exact sy_to (h1110101011110000 (a1, c1, b7, b8, b9, b10)) (by repeat' first | exact Sub.nil | apply Sub.cons | rfl | (simp [lk]; omega)) (fun _ h => St.sub ((((h.pull b7).pull b8).pull b9).pull b10))
 refine sy_have (β := Nat × Nat × Nat) pl7_3_1010101011100000 (fun ⟨b7, b8, b9⟩ => ([(9, .pointer (some ⟨b9, 0, none⟩)), (8, .pointer (some ⟨b8, 0, none⟩)), (7, .pointer (some ⟨b7, 0, none⟩)), (2, .int .i64 k), (3, .pointer (some ⟨b3, 0, none⟩)), (4, .pointer (some ⟨b4, 0, none⟩)), (27, g.v (g.sl ag cg)), (29, c.v (c.sl ah ch)), (31, g.v (g.sl ag cg)), (33, c.v (c.sl ah ch))], (b9, cel 59 ([.int .i64 0, .int .i64 0, .slice none 0 0])) :: (b8, cel 28 ([.int .i64 0, .int .i64 0, .slice none 0 0])) :: (b7, cel 25 ([.int .i64 0, .int .i64 0, .slice none 0 0])) :: (b4, cel 28 (ctl c (c.sl ah ch))) :: (b3, cel 25 (gtl g (g.sl ag cg))) :: H, R, [(6, Ld Try.prog 28 ⟨b4, 0, none⟩ (c.v (c.sl ah ch))), (4, Ld Try.prog 25 ⟨b3, 0, none⟩ (g.v (g.sl ag cg))), (2, Ld Try.prog 28 ⟨b4, 0, none⟩ (c.v (c.sl ah ch))), (0, Ld Try.prog 25 ⟨b3, 0, none⟩ (g.v (g.sl ag cg)))])) (fun v9 => ?_) (fun h1010101011100000 => ?_)
 obtain ⟨b7, b8, b9⟩ := v9
 dsimp only
 unfold pl7_3_1010101011100000
 refine sy_any ?_
 refine sy_alt ?_ ?_
 refine cl rfl cal25 rfl rfl (c_Own g ag cg (by omega) _ _) ?_
 rintro _ _ R1 ⟨o, rfl, ho, rfl, hR1⟩
 obtain rfl := hR1.symm
 clear hR1
 obtain ⟨a1, c1, he, hf⟩ := o.freeze
 rw [he]
 refine Sy.heap (H' := _) (fun w h => hf h) ?_
 rw [show (grows g.grs).length = g.grs.length from List.length_map _]
 clear he hf
 refine bg (fun w hs => ⟨((lhA (ctl c (c.sl ah ch)) ag28 rfl rfl rfl)) w hs, ((lhA (gtl g (g.sl ag cg)) ag25 rfl rfl rfl)) w hs, ((lhA (ctl c (c.sl ah ch)) ag28 rfl rfl rfl)) w hs, trivial, trivial⟩) ?_
 exact sy_to (h1110101011100000 (a1, c1, b7, b8, b9)) (by repeat' first | exact Sub.nil | apply Sub.cons | rfl | (simp [lk]; omega)) (fun _ h => St.sub (((h.pull b7).pull b8).pull b9))
 refine sy_alt ?_ ?_
 refine alc rfl zl63 rfl (fun b10 => ?_)
 refine bg (fun w hs => ⟨((lhA (ctl c (c.sl ah ch)) ag28 rfl rfl rfl)) w hs, ((lhA (gtl g (g.sl ag cg)) ag25 rfl rfl rfl)) w hs, ((lhA (ctl c (c.sl ah ch)) ag28 rfl rfl rfl)) w hs, ((lhA (gtl g (g.sl ag cg)) ag25 rfl rfl rfl)) w hs, trivial⟩) ?_
 exact sy_to (h1010101011110000 (b7, b8, b9, b10)) (by repeat' first | exact Sub.nil | apply Sub.cons | rfl | (simp [lk]; omega)) (fun _ h => St.sub ((((h.pull b7).pull b8).pull b9).pull b10))
 exact sy_stop
 refine sy_have (β := Nat × Nat × Nat) pl7_3_1010101011010000 (fun ⟨b7, b8, b10⟩ => ([(10, .pointer (some ⟨b10, 0, none⟩)), (8, .pointer (some ⟨b8, 0, none⟩)), (7, .pointer (some ⟨b7, 0, none⟩)), (2, .int .i64 k), (3, .pointer (some ⟨b3, 0, none⟩)), (4, .pointer (some ⟨b4, 0, none⟩)), (27, g.v (g.sl ag cg)), (29, c.v (c.sl ah ch)), (31, g.v (g.sl ag cg)), (33, c.v (c.sl ah ch))], (b10, cel 63 ([.int .i64 0, .int .i64 0, .slice none 0 0])) :: (b8, cel 28 ([.int .i64 0, .int .i64 0, .slice none 0 0])) :: (b7, cel 25 ([.int .i64 0, .int .i64 0, .slice none 0 0])) :: (b4, cel 28 (ctl c (c.sl ah ch))) :: (b3, cel 25 (gtl g (g.sl ag cg))) :: H, R, [(6, Ld Try.prog 28 ⟨b4, 0, none⟩ (c.v (c.sl ah ch))), (4, Ld Try.prog 25 ⟨b3, 0, none⟩ (g.v (g.sl ag cg))), (2, Ld Try.prog 28 ⟨b4, 0, none⟩ (c.v (c.sl ah ch))), (0, Ld Try.prog 25 ⟨b3, 0, none⟩ (g.v (g.sl ag cg)))])) (fun v9 => ?_) (fun h1010101011010000 => ?_)
 obtain ⟨b7, b8, b10⟩ := v9
 dsimp only
 unfold pl7_3_1010101011010000
 refine sy_any ?_
 refine sy_alt ?_ ?_
 refine cl rfl cal25 rfl rfl (c_Own g ag cg (by omega) _ _) ?_
 rintro _ _ R1 ⟨o, rfl, ho, rfl, hR1⟩
 obtain rfl := hR1.symm
 clear hR1
 obtain ⟨a1, c1, he, hf⟩ := o.freeze
 rw [he]
 refine Sy.heap (H' := _) (fun w h => hf h) ?_
 rw [show (grows g.grs).length = g.grs.length from List.length_map _]
 clear he hf
 refine bg (fun w hs => ⟨((lhA (ctl c (c.sl ah ch)) ag28 rfl rfl rfl)) w hs, ((lhA (gtl g (g.sl ag cg)) ag25 rfl rfl rfl)) w hs, ((lhA (ctl c (c.sl ah ch)) ag28 rfl rfl rfl)) w hs, trivial, trivial⟩) ?_
 exact sy_to (h1110101011010000 (a1, c1, b7, b8, b10)) (by repeat' first | exact Sub.nil | apply Sub.cons | rfl | (simp [lk]; omega)) (fun _ h => St.sub (((h.pull b7).pull b8).pull b10))
 refine sy_alt ?_ ?_
 refine alc rfl zl59 rfl (fun b9 => ?_)
 refine bg (fun w hs => ⟨((lhA (ctl c (c.sl ah ch)) ag28 rfl rfl rfl)) w hs, ((lhA (gtl g (g.sl ag cg)) ag25 rfl rfl rfl)) w hs, ((lhA (ctl c (c.sl ah ch)) ag28 rfl rfl rfl)) w hs, ((lhA (gtl g (g.sl ag cg)) ag25 rfl rfl rfl)) w hs, trivial⟩) ?_
 exact sy_to (h1010101011110000 (b7, b8, b9, b10)) (by repeat' first | exact Sub.nil | apply Sub.cons | rfl | (simp [lk]; omega)) (fun _ h => St.sub ((((h.pull b7).pull b8).pull b9).pull b10))
 exact sy_stop
 refine sy_have (β := Nat × Nat) pl7_3_1010101011000000 (fun ⟨b7, b8⟩ => ([(8, .pointer (some ⟨b8, 0, none⟩)), (7, .pointer (some ⟨b7, 0, none⟩)), (2, .int .i64 k), (3, .pointer (some ⟨b3, 0, none⟩)), (4, .pointer (some ⟨b4, 0, none⟩)), (27, g.v (g.sl ag cg)), (29, c.v (c.sl ah ch)), (31, g.v (g.sl ag cg)), (33, c.v (c.sl ah ch))], (b8, cel 28 ([.int .i64 0, .int .i64 0, .slice none 0 0])) :: (b7, cel 25 ([.int .i64 0, .int .i64 0, .slice none 0 0])) :: (b4, cel 28 (ctl c (c.sl ah ch))) :: (b3, cel 25 (gtl g (g.sl ag cg))) :: H, R, [(6, Ld Try.prog 28 ⟨b4, 0, none⟩ (c.v (c.sl ah ch))), (4, Ld Try.prog 25 ⟨b3, 0, none⟩ (g.v (g.sl ag cg))), (2, Ld Try.prog 28 ⟨b4, 0, none⟩ (c.v (c.sl ah ch))), (0, Ld Try.prog 25 ⟨b3, 0, none⟩ (g.v (g.sl ag cg)))])) (fun v9 => ?_) (fun h1010101011000000 => ?_)
 obtain ⟨b7, b8⟩ := v9
 dsimp only
 unfold pl7_3_1010101011000000
 refine sy_any ?_
 refine sy_alt ?_ ?_
 refine cl rfl cal25 rfl rfl (c_Own g ag cg (by omega) _ _) ?_
 rintro _ _ R1 ⟨o, rfl, ho, rfl, hR1⟩
 obtain rfl := hR1.symm
 clear hR1
 obtain ⟨a1, c1, he, hf⟩ := o.freeze
 rw [he]
 refine Sy.heap (H' := _) (fun w h => hf h) ?_
 rw [show (grows g.grs).length = g.grs.length from List.length_map _]
 clear he hf
 refine bg (fun w hs => ⟨((lhA (ctl c (c.sl ah ch)) ag28 rfl rfl rfl)) w hs, ((lhA (gtl g (g.sl ag cg)) ag25 rfl rfl rfl)) w hs, ((lhA (ctl c (c.sl ah ch)) ag28 rfl rfl rfl)) w hs, trivial, trivial⟩) ?_
 exact sy_to (h1110101011000000 (a1, c1, b7, b8)) (by repeat' first | exact Sub.nil | apply Sub.cons | rfl | (simp [lk]; omega)) (fun _ h => St.sub ((h.pull b7).pull b8))
 refine sy_alt ?_ ?_
 refine alc rfl zl59 rfl (fun b9 => ?_)
 refine bg (fun w hs => ⟨((lhA (ctl c (c.sl ah ch)) ag28 rfl rfl rfl)) w hs, ((lhA (gtl g (g.sl ag cg)) ag25 rfl rfl rfl)) w hs, ((lhA (ctl c (c.sl ah ch)) ag28 rfl rfl rfl)) w hs, ((lhA (gtl g (g.sl ag cg)) ag25 rfl rfl rfl)) w hs, trivial⟩) ?_
 exact sy_to (h1010101011100000 (b7, b8, b9)) (by repeat' first | exact Sub.nil | apply Sub.cons | rfl | (simp [lk]; omega)) (fun _ h => St.sub (((h.pull b7).pull b8).pull b9))
 refine sy_alt ?_ ?_
 refine alc rfl zl63 rfl (fun b10 => ?_)
 refine bg (fun w hs => ⟨((lhA (ctl c (c.sl ah ch)) ag28 rfl rfl rfl)) w hs, ((lhA (gtl g (g.sl ag cg)) ag25 rfl rfl rfl)) w hs, ((lhA (ctl c (c.sl ah ch)) ag28 rfl rfl rfl)) w hs, ((lhA (gtl g (g.sl ag cg)) ag25 rfl rfl rfl)) w hs, trivial⟩) ?_
 exact sy_to (h1010101011010000 (b7, b8, b10)) (by repeat' first | exact Sub.nil | apply Sub.cons | rfl | (simp [lk]; omega)) (fun _ h => St.sub (((h.pull b7).pull b8).pull b10))
 exact sy_stop
 refine sy_have (β := Nat × Nat × Nat) pl7_3_1010101010110000 (fun ⟨b7, b9, b10⟩ => ([(10, .pointer (some ⟨b10, 0, none⟩)), (9, .pointer (some ⟨b9, 0, none⟩)), (7, .pointer (some ⟨b7, 0, none⟩)), (2, .int .i64 k), (3, .pointer (some ⟨b3, 0, none⟩)), (4, .pointer (some ⟨b4, 0, none⟩)), (27, g.v (g.sl ag cg)), (29, c.v (c.sl ah ch)), (31, g.v (g.sl ag cg)), (33, c.v (c.sl ah ch))], (b10, cel 63 ([.int .i64 0, .int .i64 0, .slice none 0 0])) :: (b9, cel 59 ([.int .i64 0, .int .i64 0, .slice none 0 0])) :: (b7, cel 25 ([.int .i64 0, .int .i64 0, .slice none 0 0])) :: (b4, cel 28 (ctl c (c.sl ah ch))) :: (b3, cel 25 (gtl g (g.sl ag cg))) :: H, R, [(6, Ld Try.prog 28 ⟨b4, 0, none⟩ (c.v (c.sl ah ch))), (4, Ld Try.prog 25 ⟨b3, 0, none⟩ (g.v (g.sl ag cg))), (2, Ld Try.prog 28 ⟨b4, 0, none⟩ (c.v (c.sl ah ch))), (0, Ld Try.prog 25 ⟨b3, 0, none⟩ (g.v (g.sl ag cg)))])) (fun v9 => ?_) (fun h1010101010110000 => ?_)
 obtain ⟨b7, b9, b10⟩ := v9
 dsimp only
 unfold pl7_3_1010101010110000
 refine sy_any ?_
 refine sy_alt ?_ ?_
 refine cl rfl cal25 rfl rfl (c_Own g ag cg (by omega) _ _) ?_
 rintro _ _ R1 ⟨o, rfl, ho, rfl, hR1⟩
 obtain rfl := hR1.symm
 clear hR1
 obtain ⟨a1, c1, he, hf⟩ := o.freeze
 rw [he]
 refine Sy.heap (H' := _) (fun w h => hf h) ?_
 rw [show (grows g.grs).length = g.grs.length from List.length_map _]
 clear he hf
 refine bg (fun w hs => ⟨((lhA (ctl c (c.sl ah ch)) ag28 rfl rfl rfl)) w hs, ((lhA (gtl g (g.sl ag cg)) ag25 rfl rfl rfl)) w hs, ((lhA (ctl c (c.sl ah ch)) ag28 rfl rfl rfl)) w hs, trivial, trivial⟩) ?_
 exact sy_to (h1110101010110000 (a1, c1, b7, b9, b10)) (by repeat' first | exact Sub.nil | apply Sub.cons | rfl | (simp [lk]; omega)) (fun _ h => St.sub (((h.pull b7).pull b9).pull b10))
 refine sy_alt ?_ ?_
 refine alc rfl zl28 rfl (fun b8 => ?_)
 refine bg (fun w hs => ⟨((lhA (ctl c (c.sl ah ch)) ag28 rfl rfl rfl)) w hs, ((lhA (gtl g (g.sl ag cg)) ag25 rfl rfl rfl)) w hs, ((lhA (ctl c (c.sl ah ch)) ag28 rfl rfl rfl)) w hs, ((lhA (gtl g (g.sl ag cg)) ag25 rfl rfl rfl)) w hs, trivial⟩) ?_
 exact sy_to (h1010101011110000 (b7, b8, b9, b10)) (by repeat' first | exact Sub.nil | apply Sub.cons | rfl | (simp [lk]; omega)) (fun _ h => St.sub ((((h.pull b7).pull b8).pull b9).pull b10))
 exact sy_stop
 refine sy_have (β := Nat × Nat) pl7_3_1010101010100000 (fun ⟨b7, b9⟩ => ([(9, .pointer (some ⟨b9, 0, none⟩)), (7, .pointer (some ⟨b7, 0, none⟩)), (2, .int .i64 k), (3, .pointer (some ⟨b3, 0, none⟩)), (4, .pointer (some ⟨b4, 0, none⟩)), (27, g.v (g.sl ag cg)), (29, c.v (c.sl ah ch)), (31, g.v (g.sl ag cg)), (33, c.v (c.sl ah ch))], (b9, cel 59 ([.int .i64 0, .int .i64 0, .slice none 0 0])) :: (b7, cel 25 ([.int .i64 0, .int .i64 0, .slice none 0 0])) :: (b4, cel 28 (ctl c (c.sl ah ch))) :: (b3, cel 25 (gtl g (g.sl ag cg))) :: H, R, [(6, Ld Try.prog 28 ⟨b4, 0, none⟩ (c.v (c.sl ah ch))), (4, Ld Try.prog 25 ⟨b3, 0, none⟩ (g.v (g.sl ag cg))), (2, Ld Try.prog 28 ⟨b4, 0, none⟩ (c.v (c.sl ah ch))), (0, Ld Try.prog 25 ⟨b3, 0, none⟩ (g.v (g.sl ag cg)))])) (fun v9 => ?_) (fun h1010101010100000 => ?_)
 obtain ⟨b7, b9⟩ := v9
 dsimp only
 unfold pl7_3_1010101010100000
 refine sy_any ?_
 refine sy_alt ?_ ?_
 refine cl rfl cal25 rfl rfl (c_Own g ag cg (by omega) _ _) ?_
 rintro _ _ R1 ⟨o, rfl, ho, rfl, hR1⟩
 obtain rfl := hR1.symm
 clear hR1
 obtain ⟨a1, c1, he, hf⟩ := o.freeze
 rw [he]
 refine Sy.heap (H' := _) (fun w h => hf h) ?_
 rw [show (grows g.grs).length = g.grs.length from List.length_map _]
 clear he hf
 refine bg (fun w hs => ⟨((lhA (ctl c (c.sl ah ch)) ag28 rfl rfl rfl)) w hs, ((lhA (gtl g (g.sl ag cg)) ag25 rfl rfl rfl)) w hs, ((lhA (ctl c (c.sl ah ch)) ag28 rfl rfl rfl)) w hs, trivial, trivial⟩) ?_
 exact sy_to (h1110101010100000 (a1, c1, b7, b9)) (by repeat' first | exact Sub.nil | apply Sub.cons | rfl | (simp [lk]; omega)) (fun _ h => St.sub ((h.pull b7).pull b9))
 refine sy_alt ?_ ?_
 refine alc rfl zl28 rfl (fun b8 => ?_)
 refine bg (fun w hs => ⟨((lhA (ctl c (c.sl ah ch)) ag28 rfl rfl rfl)) w hs, ((lhA (gtl g (g.sl ag cg)) ag25 rfl rfl rfl)) w hs, ((lhA (ctl c (c.sl ah ch)) ag28 rfl rfl rfl)) w hs, ((lhA (gtl g (g.sl ag cg)) ag25 rfl rfl rfl)) w hs, trivial⟩) ?_
 exact sy_to (h1010101011100000 (b7, b8, b9)) (by repeat' first | exact Sub.nil | apply Sub.cons | rfl | (simp [lk]; omega)) (fun _ h => St.sub (((h.pull b7).pull b8).pull b9))
 refine sy_alt ?_ ?_
 refine alc rfl zl63 rfl (fun b10 => ?_)
 refine bg (fun w hs => ⟨((lhA (ctl c (c.sl ah ch)) ag28 rfl rfl rfl)) w hs, ((lhA (gtl g (g.sl ag cg)) ag25 rfl rfl rfl)) w hs, ((lhA (ctl c (c.sl ah ch)) ag28 rfl rfl rfl)) w hs, ((lhA (gtl g (g.sl ag cg)) ag25 rfl rfl rfl)) w hs, trivial⟩) ?_
 exact sy_to (h1010101010110000 (b7, b9, b10)) (by repeat' first | exact Sub.nil | apply Sub.cons | rfl | (simp [lk]; omega)) (fun _ h => St.sub (((h.pull b7).pull b9).pull b10))
 exact sy_stop
 refine sy_have (β := Nat × Nat) pl7_3_1010101010010000 (fun ⟨b7, b10⟩ => ([(10, .pointer (some ⟨b10, 0, none⟩)), (7, .pointer (some ⟨b7, 0, none⟩)), (2, .int .i64 k), (3, .pointer (some ⟨b3, 0, none⟩)), (4, .pointer (some ⟨b4, 0, none⟩)), (27, g.v (g.sl ag cg)), (29, c.v (c.sl ah ch)), (31, g.v (g.sl ag cg)), (33, c.v (c.sl ah ch))], (b10, cel 63 ([.int .i64 0, .int .i64 0, .slice none 0 0])) :: (b7, cel 25 ([.int .i64 0, .int .i64 0, .slice none 0 0])) :: (b4, cel 28 (ctl c (c.sl ah ch))) :: (b3, cel 25 (gtl g (g.sl ag cg))) :: H, R, [(6, Ld Try.prog 28 ⟨b4, 0, none⟩ (c.v (c.sl ah ch))), (4, Ld Try.prog 25 ⟨b3, 0, none⟩ (g.v (g.sl ag cg))), (2, Ld Try.prog 28 ⟨b4, 0, none⟩ (c.v (c.sl ah ch))), (0, Ld Try.prog 25 ⟨b3, 0, none⟩ (g.v (g.sl ag cg)))])) (fun v9 => ?_) (fun h1010101010010000 => ?_)
 obtain ⟨b7, b10⟩ := v9
 dsimp only
 unfold pl7_3_1010101010010000
 refine sy_any ?_
 refine sy_alt ?_ ?_
 refine cl rfl cal25 rfl rfl (c_Own g ag cg (by omega) _ _) ?_
 rintro _ _ R1 ⟨o, rfl, ho, rfl, hR1⟩
 obtain rfl := hR1.symm
 clear hR1
 obtain ⟨a1, c1, he, hf⟩ := o.freeze
 rw [he]
 refine Sy.heap (H' := _) (fun w h => hf h) ?_
 rw [show (grows g.grs).length = g.grs.length from List.length_map _]
 clear he hf
 refine bg (fun w hs => ⟨((lhA (ctl c (c.sl ah ch)) ag28 rfl rfl rfl)) w hs, ((lhA (gtl g (g.sl ag cg)) ag25 rfl rfl rfl)) w hs, ((lhA (ctl c (c.sl ah ch)) ag28 rfl rfl rfl)) w hs, trivial, trivial⟩) ?_
 exact sy_to (h1110101010010000 (a1, c1, b7, b10)) (by repeat' first | exact Sub.nil | apply Sub.cons | rfl | (simp [lk]; omega)) (fun _ h => St.sub ((h.pull b7).pull b10))
 refine sy_alt ?_ ?_
 refine alc rfl zl28 rfl (fun b8 => ?_)
 refine bg (fun w hs => ⟨((lhA (ctl c (c.sl ah ch)) ag28 rfl rfl rfl)) w hs, ((lhA (gtl g (g.sl ag cg)) ag25 rfl rfl rfl)) w hs, ((lhA (ctl c (c.sl ah ch)) ag28 rfl rfl rfl)) w hs, ((lhA (gtl g (g.sl ag cg)) ag25 rfl rfl rfl)) w hs, trivial⟩) ?_
 exact sy_to (h1010101011010000 (b7, b8, b10)) (by repeat' first | exact Sub.nil | apply Sub.cons | rfl | (simp [lk]; omega)) (fun _ h => St.sub (((h.pull b7).pull b8).pull b10))
 refine sy_alt ?_ ?_
 refine alc rfl zl59 rfl (fun b9 => ?_)
 refine bg (fun w hs => ⟨((lhA (ctl c (c.sl ah ch)) ag28 rfl rfl rfl)) w hs, ((lhA (gtl g (g.sl ag cg)) ag25 rfl rfl rfl)) w hs, ((lhA (ctl c (c.sl ah ch)) ag28 rfl rfl rfl)) w hs, ((lhA (gtl g (g.sl ag cg)) ag25 rfl rfl rfl)) w hs, trivial⟩) ?_
 exact sy_to (h1010101010110000 (b7, b9, b10)) (by repeat' first | exact Sub.nil | apply Sub.cons | rfl | (simp [lk]; omega)) (fun _ h => St.sub (((h.pull b7).pull b9).pull b10))
 exact sy_stop
 refine sy_have (β := Nat × Nat × Nat) pl7_3_1010101001110000 (fun ⟨b8, b9, b10⟩ => ([(10, .pointer (some ⟨b10, 0, none⟩)), (9, .pointer (some ⟨b9, 0, none⟩)), (8, .pointer (some ⟨b8, 0, none⟩)), (2, .int .i64 k), (3, .pointer (some ⟨b3, 0, none⟩)), (4, .pointer (some ⟨b4, 0, none⟩)), (27, g.v (g.sl ag cg)), (29, c.v (c.sl ah ch)), (31, g.v (g.sl ag cg)), (33, c.v (c.sl ah ch))], (b10, cel 63 ([.int .i64 0, .int .i64 0, .slice none 0 0])) :: (b9, cel 59 ([.int .i64 0, .int .i64 0, .slice none 0 0])) :: (b8, cel 28 ([.int .i64 0, .int .i64 0, .slice none 0 0])) :: (b4, cel 28 (ctl c (c.sl ah ch))) :: (b3, cel 25 (gtl g (g.sl ag cg))) :: H, R, [(6, Ld Try.prog 28 ⟨b4, 0, none⟩ (c.v (c.sl ah ch))), (4, Ld Try.prog 25 ⟨b3, 0, none⟩ (g.v (g.sl ag cg))), (2, Ld Try.prog 28 ⟨b4, 0, none⟩ (c.v (c.sl ah ch))), (0, Ld Try.prog 25 ⟨b3, 0, none⟩ (g.v (g.sl ag cg)))])) (fun v9 => ?_) (fun h1010101001110000 => ?_)
 obtain ⟨b8, b9, b10⟩ := v9
 dsimp only
 unfold pl7_3_1010101001110000
 refine sy_any ?_
 refine sy_alt ?_ ?_
 refine cl rfl cal25 rfl rfl (c_Own g ag cg (by omega) _ _) ?_
 rintro _ _ R1 ⟨o, rfl, ho, rfl, hR1⟩
 obtain rfl := hR1.symm
 clear hR1
 obtain ⟨a1, c1, he, hf⟩ := o.freeze
 rw [he]
 refine Sy.heap (H' := _) (fun w h => hf h) ?_
 rw [show (grows g.grs).length = g.grs.length from List.length_map _]
 clear he hf
 refine bg (fun w hs => ⟨((lhA (ctl c (c.sl ah ch)) ag28 rfl rfl rfl)) w hs, ((lhA (gtl g (g.sl ag cg)) ag25 rfl rfl rfl)) w hs, ((lhA (ctl c (c.sl ah ch)) ag28 rfl rfl rfl)) w hs, trivial, trivial⟩) ?_
 exact sy_to (h1110101001110000 (a1, c1, b8, b9, b10)) (by repeat' first | exact Sub.nil | apply Sub.cons | rfl | (simp [lk]; omega)) (fun _ h => St.sub (((h.pull b8).pull b9).pull b10))
 refine sy_alt ?_ ?_
 refine alc rfl zl25 rfl (fun b7 => ?_)
 refine bg (fun w hs => ⟨((lhA (ctl c (c.sl ah ch)) ag28 rfl rfl rfl)) w hs, ((lhA (gtl g (g.sl ag cg)) ag25 rfl rfl rfl)) w hs, ((lhA (ctl c (c.sl ah ch)) ag28 rfl rfl rfl)) w hs, ((lhA (gtl g (g.sl ag cg)) ag25 rfl rfl rfl)) w hs, trivial⟩) ?_
 exact sy_to (h1010101011110000 (b7, b8, b9, b10)) (by repeat' first | exact Sub.nil | apply Sub.cons | rfl | (simp [lk]; omega)) (fun _ h => St.sub ((((h.pull b7).pull b8).pull b9).pull b10))
 exact sy_stop
 refine sy_have (β := Nat × Nat) pl7_3_1010101001100000 (fun ⟨b8, b9⟩ => ([(9, .pointer (some ⟨b9, 0, none⟩)), (8, .pointer (some ⟨b8, 0, none⟩)), (2, .int .i64 k), (3, .pointer (some ⟨b3, 0, none⟩)), (4, .pointer (some ⟨b4, 0, none⟩)), (27, g.v (g.sl ag cg)), (29, c.v (c.sl ah ch)), (31, g.v (g.sl ag cg)), (33, c.v (c.sl ah ch))], (b9, cel 59 ([.int .i64 0, .int .i64 0, .slice none 0 0])) :: (b8, cel 28 ([.int .i64 0, .int .i64 0, .slice none 0 0])) :: (b4, cel 28 (ctl c (c.sl ah ch))) :: (b3, cel 25 (gtl g (g.sl ag cg))) :: H, R, [(6, Ld Try.prog 28 ⟨b4, 0, none⟩ (c.v (c.sl ah ch))), (4, Ld Try.prog 25 ⟨b3, 0, none⟩ (g.v (g.sl ag cg))), (2, Ld Try.prog 28 ⟨b4, 0, none⟩ (c.v (c.sl ah ch))), (0, Ld Try.prog 25 ⟨b3, 0, none⟩ (g.v (g.sl ag cg)))])) (fun v9 => ?_) (fun h1010101001100000 => ?_)
 obtain ⟨b8, b9⟩ := v9
 dsimp only
 unfold pl7_3_1010101001100000
 refine sy_any ?_
 refine sy_alt ?_ ?_
 refine cl rfl cal25 rfl rfl (c_Own g ag cg (by omega) _ _) ?_
 rintro _ _ R1 ⟨o, rfl, ho, rfl, hR1⟩
 obtain rfl := hR1.symm
 clear hR1
 obtain ⟨a1, c1, he, hf⟩ := o.freeze
 rw [he]
 refine Sy.heap (H' := _) (fun w h => hf h) ?_
 rw [show (grows g.grs).length = g.grs.length from List.length_map _]
 clear he hf
 refine bg (fun w hs => ⟨((lhA (ctl c (c.sl ah ch)) ag28 rfl rfl rfl)) w hs, ((lhA (gtl g (g.sl ag cg)) ag25 rfl rfl rfl)) w hs, ((lhA (ctl c (c.sl ah ch)) ag28 rfl rfl rfl)) w hs, trivial, trivial⟩) ?_
 exact sy_to (h1110101001100000 (a1, c1, b8, b9)) (by repeat' first | exact Sub.nil | apply Sub.cons | rfl | (simp [lk]; omega)) (fun _ h => St.sub ((h.pull b8).pull b9))
 refine sy_alt ?_ ?_
 refine alc rfl zl25 rfl (fun b7 => ?_)
 refine bg (fun w hs => ⟨((lhA (ctl c (c.sl ah ch)) ag28 rfl rfl rfl)) w hs, ((lhA (gtl g (g.sl ag cg)) ag25 rfl rfl rfl)) w hs, ((lhA (ctl c (c.sl ah ch)) ag28 rfl rfl rfl)) w hs, ((lhA (gtl g (g.sl ag cg)) ag25 rfl rfl rfl)) w hs, trivial⟩) ?_
 exact sy_to (h1010101011100000 (b7, b8, b9)) (by repeat' first | exact Sub.nil | apply Sub.cons | rfl | (simp [lk]; omega)) (fun _ h => St.sub (((h.pull b7).pull b8).pull b9))
 refine sy_alt ?_ ?_
 refine alc rfl zl63 rfl (fun b10 => ?_)
 refine bg (fun w hs => ⟨((lhA (ctl c (c.sl ah ch)) ag28 rfl rfl rfl)) w hs, ((lhA (gtl g (g.sl ag cg)) ag25 rfl rfl rfl)) w hs, ((lhA (ctl c (c.sl ah ch)) ag28 rfl rfl rfl)) w hs, ((lhA (gtl g (g.sl ag cg)) ag25 rfl rfl rfl)) w hs, trivial⟩) ?_
 exact sy_to (h1010101001110000 (b8, b9, b10)) (by repeat' first | exact Sub.nil | apply Sub.cons | rfl | (simp [lk]; omega)) (fun _ h => St.sub (((h.pull b8).pull b9).pull b10))
 exact sy_stop
 refine sy_have (β := Nat × Nat) pl7_3_1010101001010000 (fun ⟨b8, b10⟩ => ([(10, .pointer (some ⟨b10, 0, none⟩)), (8, .pointer (some ⟨b8, 0, none⟩)), (2, .int .i64 k), (3, .pointer (some ⟨b3, 0, none⟩)), (4, .pointer (some ⟨b4, 0, none⟩)), (27, g.v (g.sl ag cg)), (29, c.v (c.sl ah ch)), (31, g.v (g.sl ag cg)), (33, c.v (c.sl ah ch))], (b10, cel 63 ([.int .i64 0, .int .i64 0, .slice none 0 0])) :: (b8, cel 28 ([.int .i64 0, .int .i64 0, .slice none 0 0])) :: (b4, cel 28 (ctl c (c.sl ah ch))) :: (b3, cel 25 (gtl g (g.sl ag cg))) :: H, R, [(6, Ld Try.prog 28 ⟨b4, 0, none⟩ (c.v (c.sl ah ch))), (4, Ld Try.prog 25 ⟨b3, 0, none⟩ (g.v (g.sl ag cg))), (2, Ld Try.prog 28 ⟨b4, 0, none⟩ (c.v (c.sl ah ch))), (0, Ld Try.prog 25 ⟨b3, 0, none⟩ (g.v (g.sl ag cg)))])) (fun v9 => ?_) (fun h1010101001010000 => ?_)
 obtain ⟨b8, b10⟩ := v9
 dsimp only
 unfold pl7_3_1010101001010000
 refine sy_any ?_
 refine sy_alt ?_ ?_
 refine cl rfl cal25 rfl rfl (c_Own g ag cg (by omega) _ _) ?_
 rintro _ _ R1 ⟨o, rfl, ho, rfl, hR1⟩
 obtain rfl := hR1.symm
 clear hR1
 obtain ⟨a1, c1, he, hf⟩ := o.freeze
 rw [he]
 refine Sy.heap (H' := _) (fun w h => hf h) ?_
 rw [show (grows g.grs).length = g.grs.length from List.length_map _]
 clear he hf
 refine bg (fun w hs => ⟨((lhA (ctl c (c.sl ah ch)) ag28 rfl rfl rfl)) w hs, ((lhA (gtl g (g.sl ag cg)) ag25 rfl rfl rfl)) w hs, ((lhA (ctl c (c.sl ah ch)) ag28 rfl rfl rfl)) w hs, trivial, trivial⟩) ?_
 exact sy_to (h1110101001010000 (a1, c1, b8, b10)) (by repeat' first | exact Sub.nil | apply Sub.cons | rfl | (simp [lk]; omega)) (fun _ h => St.sub ((h.pull b8).pull b10))
 refine sy_alt ?_ ?_
 refine alc rfl zl25 rfl (fun b7 => ?_)
 refine bg (fun w hs => ⟨((lhA (ctl c (c.sl ah ch)) ag28 rfl rfl rfl)) w hs, ((lhA (gtl g (g.sl ag cg)) ag25 rfl rfl rfl)) w hs, ((lhA (ctl c (c.sl ah ch)) ag28 rfl rfl rfl)) w hs, ((lhA (gtl g (g.sl ag cg)) ag25 rfl rfl rfl)) w hs, trivial⟩) ?_
 exact sy_to (h1010101011010000 (b7, b8, b10)) (by repeat' first | exact Sub.nil | apply Sub.cons | rfl | (simp [lk]; omega)) (fun _ h => St.sub (((h.pull b7).pull b8).pull b10))
 refine sy_alt ?_ ?_
 refine alc rfl zl59 rfl (fun b9 => ?_)
 refine bg (fun w hs => ⟨((lhA (ctl c (c.sl ah ch)) ag28 rfl rfl rfl)) w hs, ((lhA (gtl g (g.sl ag cg)) ag25 rfl rfl rfl)) w hs, ((lhA (ctl c (c.sl ah ch)) ag28 rfl rfl rfl)) w hs, ((lhA (gtl g (g.sl ag cg)) ag25 rfl rfl rfl)) w hs, trivial⟩) ?_
 exact sy_to (h1010101001110000 (b8, b9, b10)) (by repeat' first | exact Sub.nil | apply Sub.cons | rfl | (simp [lk]; omega)) (fun _ h => St.sub (((h.pull b8).pull b9).pull b10))
 exact sy_stop
 refine sy_have (β := Nat × Nat) pl7_3_1010101000110000 (fun ⟨b9, b10⟩ => ([(10, .pointer (some ⟨b10, 0, none⟩)), (9, .pointer (some ⟨b9, 0, none⟩)), (2, .int .i64 k), (3, .pointer (some ⟨b3, 0, none⟩)), (4, .pointer (some ⟨b4, 0, none⟩)), (27, g.v (g.sl ag cg)), (29, c.v (c.sl ah ch)), (31, g.v (g.sl ag cg)), (33, c.v (c.sl ah ch))], (b10, cel 63 ([.int .i64 0, .int .i64 0, .slice none 0 0])) :: (b9, cel 59 ([.int .i64 0, .int .i64 0, .slice none 0 0])) :: (b4, cel 28 (ctl c (c.sl ah ch))) :: (b3, cel 25 (gtl g (g.sl ag cg))) :: H, R, [(6, Ld Try.prog 28 ⟨b4, 0, none⟩ (c.v (c.sl ah ch))), (4, Ld Try.prog 25 ⟨b3, 0, none⟩ (g.v (g.sl ag cg))), (2, Ld Try.prog 28 ⟨b4, 0, none⟩ (c.v (c.sl ah ch))), (0, Ld Try.prog 25 ⟨b3, 0, none⟩ (g.v (g.sl ag cg)))])) (fun v9 => ?_) (fun h1010101000110000 => ?_)
 obtain ⟨b9, b10⟩ := v9
 dsimp only
 unfold pl7_3_1010101000110000
 refine sy_any ?_
 refine sy_alt ?_ ?_
 refine cl rfl cal25 rfl rfl (c_Own g ag cg (by omega) _ _) ?_
 rintro _ _ R1 ⟨o, rfl, ho, rfl, hR1⟩
 obtain rfl := hR1.symm
 clear hR1
 obtain ⟨a1, c1, he, hf⟩ := o.freeze
 rw [he]
 refine Sy.heap (H' := _) (fun w h => hf h) ?_
 rw [show (grows g.grs).length = g.grs.length from List.length_map _]
 clear he hf
 refine bg (fun w hs => ⟨((lhA (ctl c (c.sl ah ch)) ag28 rfl rfl rfl)) w hs, ((lhA (gtl g (g.sl ag cg)) ag25 rfl rfl rfl)) w hs, ((lhA (ctl c (c.sl ah ch)) ag28 rfl rfl rfl)) w hs, trivial, trivial⟩) ?_
 exact sy_to (h1110101000110000 (a1, c1, b9, b10)) (by repeat' first | exact Sub.nil | apply Sub.cons | rfl | (simp [lk]; omega)) (fun _ h => St.sub ((h.pull b9).pull b10))
 refine sy_alt ?_ ?_
 refine alc rfl zl25 rfl (fun b7 => ?_)
 refine bg (fun w hs => ⟨((lhA (ctl c (c.sl ah ch)) ag28 rfl rfl rfl)) w hs, ((lhA (gtl g (g.sl ag cg)) ag25 rfl rfl rfl)) w hs, ((lhA (ctl c (c.sl ah ch)) ag28 rfl rfl rfl)) w hs, ((lhA (gtl g (g.sl ag cg)) ag25 rfl rfl rfl)) w hs, trivial⟩) ?_
 exact sy_to (h1010101010110000 (b7, b9, b10)) (by repeat' first | exact Sub.nil | apply Sub.cons | rfl | (simp [lk]; omega)) (fun _ h => St.sub (((h.pull b7).pull b9).pull b10))
 refine sy_alt ?_ ?_
 refine alc rfl zl28 rfl (fun b8 => ?_)
 refine bg (fun w hs => ⟨((lhA (ctl c (c.sl ah ch)) ag28 rfl rfl rfl)) w hs, ((lhA (gtl g (g.sl ag cg)) ag25 rfl rfl rfl)) w hs, ((lhA (ctl c (c.sl ah ch)) ag28 rfl rfl rfl)) w hs, ((lhA (gtl g (g.sl ag cg)) ag25 rfl rfl rfl)) w hs, trivial⟩) ?_
 exact sy_to (h1010101001110000 (b8, b9, b10)) (by repeat' first | exact Sub.nil | apply Sub.cons | rfl | (simp [lk]; omega)) (fun _ h => St.sub (((h.pull b8).pull b9).pull b10))
 exact sy_stop
 refine sy_any ?_
 refine sy_alt ?_ ?_
 refine cl rfl cal25 rfl rfl (c_Own g ag cg (by omega) _ _) ?_
 rintro _ _ R1 ⟨o, rfl, ho, rfl, hR1⟩
 obtain rfl := hR1.symm
 clear hR1
 obtain ⟨a1, c1, he, hf⟩ := o.freeze
 rw [he]
 refine Sy.heap (H' := _) (fun w h => hf h) ?_
 rw [show (grows g.grs).length = g.grs.length from List.length_map _]
 clear he hf
 refine bg (fun w hs => ⟨(lhA [_, _, _] ag28 rfl rfl rfl) w hs, (lhA [_, _, _] ag25 rfl rfl rfl) w hs, (lhA [_, _, _] ag28 rfl rfl rfl) w hs, trivial, trivial⟩) ?_
 refine sy_any ?_
 refine sy_alt ?_ ?_
 refine cl rfl cal26 rfl rfl (c_Owned c ah ch (by omega) _ _) ?_
 rintro _ _ R1 ⟨o, rfl, ho, rfl, hR1⟩
 obtain rfl := hR1.symm
 clear hR1
 obtain ⟨a2, c2, he, hf⟩ := o.freeze
 rw [he]
 refine Sy.heap (H' := _) (fun w h => hf h) ?_
 rw [show (hrows c.hs).length = c.hs.length from List.length_map _]
 clear he hf
 refine bg (fun w hs => ⟨(lhA [_, _, _] ag28 rfl rfl rfl) w hs, (lhA [_, _, _] ag25 rfl rfl rfl) w hs, trivial, trivial⟩) ?_
 refine sy_any ?_
 refine sy_alt ?_ ?_
 refine cl rfl cal27 rfl rfl (c_theirs g ag cg (by omega) _ _) ?_
 rintro _ _ R1 ⟨a3, c3, rfl, rfl, hR1⟩
 obtain rfl := hR1.symm
 clear hR1
 refine bg (fun w hs => ⟨(lhA [_, _, _] ag28 rfl rfl rfl) w hs, trivial, trivial⟩) ?_
 refine sy_any ?_
 refine sy_alt ?_ ?_
 refine cl rfl cal28 rfl rfl (c_come c ah ch (by omega) _ _) ?_
 rintro _ _ R1 ⟨a4, c4, rfl, rfl, hR1⟩
 obtain rfl := hR1.symm
 clear hR1
 refine bg (fun w hs => ⟨trivial, trivial⟩) ?_
 refine sy_any ?_
 refine sy_alt ?_ ?_
 refine alc rfl zl25 rfl (fun b7 => ?_)
 refine bg (fun w hs => trivial) ?_
 exact sy_to (h1111111110000000 (a1, c1, a2, c2, a3, c3, a4, c4, b7)) (by repeat' first | exact Sub.nil | apply Sub.cons | rfl | (simp [lk]; omega)) (fun _ h => St.sub (h.pull b7))
 refine sy_alt ?_ ?_
 refine alc rfl zl28 rfl (fun b8 => ?_)
 refine bg (fun w hs => trivial) ?_
 exact sy_to (h1111111101000000 (a1, c1, a2, c2, a3, c3, a4, c4, b8)) (by repeat' first | exact Sub.nil | apply Sub.cons | rfl | (simp [lk]; omega)) (fun _ h => St.sub (h.pull b8))
 refine sy_alt ?_ ?_
 refine alc rfl zl59 rfl (fun b9 => ?_)
 refine bg (fun w hs => trivial) ?_
 exact sy_to (h1111111100100000 (a1, c1, a2, c2, a3, c3, a4, c4, b9)) (by repeat' first | exact Sub.nil | apply Sub.cons | rfl | (simp [lk]; omega)) (fun _ h => St.sub (h.pull b9))
 refine sy_alt ?_ ?_
 refine alc rfl zl63 rfl (fun b10 => ?_)
 refine bg (fun w hs => trivial) ?_
 exact sy_to (h1111111100010000 (a1, c1, a2, c2, a3, c3, a4, c4, b10)) (by repeat' first | exact Sub.nil | apply Sub.cons | rfl | (simp [lk]; omega)) (fun _ h => St.sub (h.pull b10))
 exact sy_stop
 refine sy_alt ?_ ?_
 refine alc rfl zl25 rfl (fun b7 => ?_)
 refine bg (fun w hs => ⟨(lhA [_, _, _] ag28 rfl rfl rfl) w hs, trivial⟩) ?_
 exact sy_to (h1111111010000000 (a1, c1, a2, c2, a3, c3, b7)) (by repeat' first | exact Sub.nil | apply Sub.cons | rfl | (simp [lk]; omega)) (fun _ h => St.sub (h.pull b7))
 refine sy_alt ?_ ?_
 refine alc rfl zl28 rfl (fun b8 => ?_)
 refine bg (fun w hs => ⟨(lhA [_, _, _] ag28 rfl rfl rfl) w hs, trivial⟩) ?_
 exact sy_to (h1111111001000000 (a1, c1, a2, c2, a3, c3, b8)) (by repeat' first | exact Sub.nil | apply Sub.cons | rfl | (simp [lk]; omega)) (fun _ h => St.sub (h.pull b8))
 refine sy_alt ?_ ?_
 refine alc rfl zl59 rfl (fun b9 => ?_)
 refine bg (fun w hs => ⟨(lhA [_, _, _] ag28 rfl rfl rfl) w hs, trivial⟩) ?_
 exact sy_to (h1111111000100000 (a1, c1, a2, c2, a3, c3, b9)) (by repeat' first | exact Sub.nil | apply Sub.cons | rfl | (simp [lk]; omega)) (fun _ h => St.sub (h.pull b9))
 refine sy_alt ?_ ?_
 refine alc rfl zl63 rfl (fun b10 => ?_)
 refine bg (fun w hs => ⟨(lhA [_, _, _] ag28 rfl rfl rfl) w hs, trivial⟩) ?_
 exact sy_to (h1111111000010000 (a1, c1, a2, c2, a3, c3, b10)) (by repeat' first | exact Sub.nil | apply Sub.cons | rfl | (simp [lk]; omega)) (fun _ h => St.sub (h.pull b10))
 exact sy_stop
 refine sy_alt ?_ ?_
 refine alc rfl zl25 rfl (fun b7 => ?_)
 refine bg (fun w hs => ⟨(lhA [_, _, _] ag28 rfl rfl rfl) w hs, (lhA [_, _, _] ag25 rfl rfl rfl) w hs, trivial⟩) ?_
 exact sy_to (h1111101010000000 (a1, c1, a2, c2, b7)) (by repeat' first | exact Sub.nil | apply Sub.cons | rfl | (simp [lk]; omega)) (fun _ h => St.sub (h.pull b7))
 refine sy_alt ?_ ?_
 refine alc rfl zl28 rfl (fun b8 => ?_)
 refine bg (fun w hs => ⟨(lhA [_, _, _] ag28 rfl rfl rfl) w hs, (lhA [_, _, _] ag25 rfl rfl rfl) w hs, trivial⟩) ?_
 exact sy_to (h1111101001000000 (a1, c1, a2, c2, b8)) (by repeat' first | exact Sub.nil | apply Sub.cons | rfl | (simp [lk]; omega)) (fun _ h => St.sub (h.pull b8))
 refine sy_alt ?_ ?_
 refine alc rfl zl59 rfl (fun b9 => ?_)
 refine bg (fun w hs => ⟨(lhA [_, _, _] ag28 rfl rfl rfl) w hs, (lhA [_, _, _] ag25 rfl rfl rfl) w hs, trivial⟩) ?_
 exact sy_to (h1111101000100000 (a1, c1, a2, c2, b9)) (by repeat' first | exact Sub.nil | apply Sub.cons | rfl | (simp [lk]; omega)) (fun _ h => St.sub (h.pull b9))
 refine sy_alt ?_ ?_
 refine alc rfl zl63 rfl (fun b10 => ?_)
 refine bg (fun w hs => ⟨(lhA [_, _, _] ag28 rfl rfl rfl) w hs, (lhA [_, _, _] ag25 rfl rfl rfl) w hs, trivial⟩) ?_
 exact sy_to (h1111101000010000 (a1, c1, a2, c2, b10)) (by repeat' first | exact Sub.nil | apply Sub.cons | rfl | (simp [lk]; omega)) (fun _ h => St.sub (h.pull b10))
 exact sy_stop
 refine sy_alt ?_ ?_
 refine alc rfl zl25 rfl (fun b7 => ?_)
 refine bg (fun w hs => ⟨(lhA [_, _, _] ag28 rfl rfl rfl) w hs, (lhA [_, _, _] ag25 rfl rfl rfl) w hs, (lhA [_, _, _] ag28 rfl rfl rfl) w hs, trivial⟩) ?_
 exact sy_to (h1110101010000000 (a1, c1, b7)) (by repeat' first | exact Sub.nil | apply Sub.cons | rfl | (simp [lk]; omega)) (fun _ h => St.sub (h.pull b7))
 refine sy_alt ?_ ?_
 refine alc rfl zl28 rfl (fun b8 => ?_)
 refine bg (fun w hs => ⟨(lhA [_, _, _] ag28 rfl rfl rfl) w hs, (lhA [_, _, _] ag25 rfl rfl rfl) w hs, (lhA [_, _, _] ag28 rfl rfl rfl) w hs, trivial⟩) ?_
 exact sy_to (h1110101001000000 (a1, c1, b8)) (by repeat' first | exact Sub.nil | apply Sub.cons | rfl | (simp [lk]; omega)) (fun _ h => St.sub (h.pull b8))
 refine sy_alt ?_ ?_
 refine alc rfl zl59 rfl (fun b9 => ?_)
 refine bg (fun w hs => ⟨(lhA [_, _, _] ag28 rfl rfl rfl) w hs, (lhA [_, _, _] ag25 rfl rfl rfl) w hs, (lhA [_, _, _] ag28 rfl rfl rfl) w hs, trivial⟩) ?_
 exact sy_to (h1110101000100000 (a1, c1, b9)) (by repeat' first | exact Sub.nil | apply Sub.cons | rfl | (simp [lk]; omega)) (fun _ h => St.sub (h.pull b9))
 refine sy_alt ?_ ?_
 refine alc rfl zl63 rfl (fun b10 => ?_)
 refine bg (fun w hs => ⟨(lhA [_, _, _] ag28 rfl rfl rfl) w hs, (lhA [_, _, _] ag25 rfl rfl rfl) w hs, (lhA [_, _, _] ag28 rfl rfl rfl) w hs, trivial⟩) ?_
 exact sy_to (h1110101000010000 (a1, c1, b10)) (by repeat' first | exact Sub.nil | apply Sub.cons | rfl | (simp [lk]; omega)) (fun _ h => St.sub (h.pull b10))
 exact sy_stop
 refine sy_alt ?_ ?_
 refine alc rfl zl25 rfl (fun b7 => ?_)
 refine bg (fun w hs => ⟨(lhA [_, _, _] ag28 rfl rfl rfl) w hs, (lhA [_, _, _] ag25 rfl rfl rfl) w hs, (lhA [_, _, _] ag28 rfl rfl rfl) w hs, (lhA [_, _, _] ag25 rfl rfl rfl) w hs, trivial⟩) ?_
 refine sy_any ?_
 refine sy_alt ?_ ?_
 refine cl rfl cal25 rfl rfl (c_Own g ag cg (by omega) _ _) ?_
 rintro _ _ R1 ⟨o, rfl, ho, rfl, hR1⟩
 obtain rfl := hR1.symm
 clear hR1
 obtain ⟨a1, c1, he, hf⟩ := o.freeze
 rw [he]
 refine Sy.heap (H' := _) (fun w h => hf h) ?_
 rw [show (grows g.grs).length = g.grs.length from List.length_map _]
 clear he hf
 refine bg (fun w hs => ⟨(lhA [_, _, _] ag28 rfl rfl rfl) w hs, (lhA [_, _, _] ag25 rfl rfl rfl) w hs, (lhA [_, _, _] ag28 rfl rfl rfl) w hs, trivial, trivial⟩) ?_
 exact sy_to (h1110101010000000 (a1, c1, b7)) (by repeat' first | exact Sub.nil | apply Sub.cons | rfl | (simp [lk]; omega)) (fun _ h => St.sub (h.pull b7))
 refine sy_alt ?_ ?_
 refine alc rfl zl28 rfl (fun b8 => ?_)
 refine bg (fun w hs => ⟨(lhA [_, _, _] ag28 rfl rfl rfl) w hs, (lhA [_, _, _] ag25 rfl rfl rfl) w hs, (lhA [_, _, _] ag28 rfl rfl rfl) w hs, (lhA [_, _, _] ag25 rfl rfl rfl) w hs, trivial⟩) ?_
 exact sy_to (h1010101011000000 (b7, b8)) (by repeat' first | exact Sub.nil | apply Sub.cons | rfl | (simp [lk]; omega)) (fun _ h => St.sub ((h.pull b7).pull b8))
 refine sy_alt ?_ ?_
 refine alc rfl zl59 rfl (fun b9 => ?_)
 refine bg (fun w hs => ⟨(lhA [_, _, _] ag28 rfl rfl rfl) w hs, (lhA [_, _, _] ag25 rfl rfl rfl) w hs, (lhA [_, _, _] ag28 rfl rfl rfl) w hs, (lhA [_, _, _] ag25 rfl rfl rfl) w hs, trivial⟩) ?_
 exact sy_to (h1010101010100000 (b7, b9)) (by repeat' first | exact Sub.nil | apply Sub.cons | rfl | (simp [lk]; omega)) (fun _ h => St.sub ((h.pull b7).pull b9))
 refine sy_alt ?_ ?_
 refine alc rfl zl63 rfl (fun b10 => ?_)
 refine bg (fun w hs => ⟨(lhA [_, _, _] ag28 rfl rfl rfl) w hs, (lhA [_, _, _] ag25 rfl rfl rfl) w hs, (lhA [_, _, _] ag28 rfl rfl rfl) w hs, (lhA [_, _, _] ag25 rfl rfl rfl) w hs, trivial⟩) ?_
 exact sy_to (h1010101010010000 (b7, b10)) (by repeat' first | exact Sub.nil | apply Sub.cons | rfl | (simp [lk]; omega)) (fun _ h => St.sub ((h.pull b7).pull b10))
 exact sy_stop
 refine sy_alt ?_ ?_
 refine alc rfl zl28 rfl (fun b8 => ?_)
 refine bg (fun w hs => ⟨(lhA [_, _, _] ag28 rfl rfl rfl) w hs, (lhA [_, _, _] ag25 rfl rfl rfl) w hs, (lhA [_, _, _] ag28 rfl rfl rfl) w hs, (lhA [_, _, _] ag25 rfl rfl rfl) w hs, trivial⟩) ?_
 refine sy_any ?_
 refine sy_alt ?_ ?_
 refine cl rfl cal25 rfl rfl (c_Own g ag cg (by omega) _ _) ?_
 rintro _ _ R1 ⟨o, rfl, ho, rfl, hR1⟩
 obtain rfl := hR1.symm
 clear hR1
 obtain ⟨a1, c1, he, hf⟩ := o.freeze
 rw [he]
 refine Sy.heap (H' := _) (fun w h => hf h) ?_
 rw [show (grows g.grs).length = g.grs.length from List.length_map _]
 clear he hf
 refine bg (fun w hs => ⟨(lhA [_, _, _] ag28 rfl rfl rfl) w hs, (lhA [_, _, _] ag25 rfl rfl rfl) w hs, (lhA [_, _, _] ag28 rfl rfl rfl) w hs, trivial, trivial⟩) ?_
 exact sy_to (h1110101001000000 (a1, c1, b8)) (by repeat' first | exact Sub.nil | apply Sub.cons | rfl | (simp [lk]; omega)) (fun _ h => St.sub (h.pull b8))
 refine sy_alt ?_ ?_
 refine alc rfl zl25 rfl (fun b7 => ?_)
 refine bg (fun w hs => ⟨(lhA [_, _, _] ag28 rfl rfl rfl) w hs, (lhA [_, _, _] ag25 rfl rfl rfl) w hs, (lhA [_, _, _] ag28 rfl rfl rfl) w hs, (lhA [_, _, _] ag25 rfl rfl rfl) w hs, trivial⟩) ?_
 exact sy_to (h1010101011000000 (b7, b8)) (by repeat' first | exact Sub.nil | apply Sub.cons | rfl | (simp [lk]; omega)) (fun _ h => St.sub ((h.pull b7).pull b8))
 refine sy_alt ?_ ?_
 refine alc rfl zl59 rfl (fun b9 => ?_)
 refine bg (fun w hs => ⟨(lhA [_, _, _] ag28 rfl rfl rfl) w hs, (lhA [_, _, _] ag25 rfl rfl rfl) w hs, (lhA [_, _, _] ag28 rfl rfl rfl) w hs, (lhA [_, _, _] ag25 rfl rfl rfl) w hs, trivial⟩) ?_
 exact sy_to (h1010101001100000 (b8, b9)) (by repeat' first | exact Sub.nil | apply Sub.cons | rfl | (simp [lk]; omega)) (fun _ h => St.sub ((h.pull b8).pull b9))
 refine sy_alt ?_ ?_
 refine alc rfl zl63 rfl (fun b10 => ?_)
 refine bg (fun w hs => ⟨(lhA [_, _, _] ag28 rfl rfl rfl) w hs, (lhA [_, _, _] ag25 rfl rfl rfl) w hs, (lhA [_, _, _] ag28 rfl rfl rfl) w hs, (lhA [_, _, _] ag25 rfl rfl rfl) w hs, trivial⟩) ?_
 exact sy_to (h1010101001010000 (b8, b10)) (by repeat' first | exact Sub.nil | apply Sub.cons | rfl | (simp [lk]; omega)) (fun _ h => St.sub ((h.pull b8).pull b10))
 exact sy_stop
 refine sy_alt ?_ ?_
 refine alc rfl zl59 rfl (fun b9 => ?_)
 refine bg (fun w hs => ⟨(lhA [_, _, _] ag28 rfl rfl rfl) w hs, (lhA [_, _, _] ag25 rfl rfl rfl) w hs, (lhA [_, _, _] ag28 rfl rfl rfl) w hs, (lhA [_, _, _] ag25 rfl rfl rfl) w hs, trivial⟩) ?_
 refine sy_any ?_
 refine sy_alt ?_ ?_
 refine cl rfl cal25 rfl rfl (c_Own g ag cg (by omega) _ _) ?_
 rintro _ _ R1 ⟨o, rfl, ho, rfl, hR1⟩
 obtain rfl := hR1.symm
 clear hR1
 obtain ⟨a1, c1, he, hf⟩ := o.freeze
 rw [he]
 refine Sy.heap (H' := _) (fun w h => hf h) ?_
 rw [show (grows g.grs).length = g.grs.length from List.length_map _]
 clear he hf
 refine bg (fun w hs => ⟨(lhA [_, _, _] ag28 rfl rfl rfl) w hs, (lhA [_, _, _] ag25 rfl rfl rfl) w hs, (lhA [_, _, _] ag28 rfl rfl rfl) w hs, trivial, trivial⟩) ?_
 exact sy_to (h1110101000100000 (a1, c1, b9)) (by repeat' first | exact Sub.nil | apply Sub.cons | rfl | (simp [lk]; omega)) (fun _ h => St.sub (h.pull b9))
 refine sy_alt ?_ ?_
 refine alc rfl zl25 rfl (fun b7 => ?_)
 refine bg (fun w hs => ⟨(lhA [_, _, _] ag28 rfl rfl rfl) w hs, (lhA [_, _, _] ag25 rfl rfl rfl) w hs, (lhA [_, _, _] ag28 rfl rfl rfl) w hs, (lhA [_, _, _] ag25 rfl rfl rfl) w hs, trivial⟩) ?_
 exact sy_to (h1010101010100000 (b7, b9)) (by repeat' first | exact Sub.nil | apply Sub.cons | rfl | (simp [lk]; omega)) (fun _ h => St.sub ((h.pull b7).pull b9))
 refine sy_alt ?_ ?_
 refine alc rfl zl28 rfl (fun b8 => ?_)
 refine bg (fun w hs => ⟨(lhA [_, _, _] ag28 rfl rfl rfl) w hs, (lhA [_, _, _] ag25 rfl rfl rfl) w hs, (lhA [_, _, _] ag28 rfl rfl rfl) w hs, (lhA [_, _, _] ag25 rfl rfl rfl) w hs, trivial⟩) ?_
 exact sy_to (h1010101001100000 (b8, b9)) (by repeat' first | exact Sub.nil | apply Sub.cons | rfl | (simp [lk]; omega)) (fun _ h => St.sub ((h.pull b8).pull b9))
 refine sy_alt ?_ ?_
 refine alc rfl zl63 rfl (fun b10 => ?_)
 refine bg (fun w hs => ⟨(lhA [_, _, _] ag28 rfl rfl rfl) w hs, (lhA [_, _, _] ag25 rfl rfl rfl) w hs, (lhA [_, _, _] ag28 rfl rfl rfl) w hs, (lhA [_, _, _] ag25 rfl rfl rfl) w hs, trivial⟩) ?_
 exact sy_to (h1010101000110000 (b9, b10)) (by repeat' first | exact Sub.nil | apply Sub.cons | rfl | (simp [lk]; omega)) (fun _ h => St.sub ((h.pull b9).pull b10))
 exact sy_stop
 refine sy_alt ?_ ?_
 refine alc rfl zl63 rfl (fun b10 => ?_)
 refine bg (fun w hs => ⟨(lhA [_, _, _] ag28 rfl rfl rfl) w hs, (lhA [_, _, _] ag25 rfl rfl rfl) w hs, (lhA [_, _, _] ag28 rfl rfl rfl) w hs, (lhA [_, _, _] ag25 rfl rfl rfl) w hs, trivial⟩) ?_
 refine sy_any ?_
 refine sy_alt ?_ ?_
 refine cl rfl cal25 rfl rfl (c_Own g ag cg (by omega) _ _) ?_
 rintro _ _ R1 ⟨o, rfl, ho, rfl, hR1⟩
 obtain rfl := hR1.symm
 clear hR1
 obtain ⟨a1, c1, he, hf⟩ := o.freeze
 rw [he]
 refine Sy.heap (H' := _) (fun w h => hf h) ?_
 rw [show (grows g.grs).length = g.grs.length from List.length_map _]
 clear he hf
 refine bg (fun w hs => ⟨(lhA [_, _, _] ag28 rfl rfl rfl) w hs, (lhA [_, _, _] ag25 rfl rfl rfl) w hs, (lhA [_, _, _] ag28 rfl rfl rfl) w hs, trivial, trivial⟩) ?_
 exact sy_to (h1110101000010000 (a1, c1, b10)) (by repeat' first | exact Sub.nil | apply Sub.cons | rfl | (simp [lk]; omega)) (fun _ h => St.sub (h.pull b10))
 refine sy_alt ?_ ?_
 refine alc rfl zl25 rfl (fun b7 => ?_)
 refine bg (fun w hs => ⟨(lhA [_, _, _] ag28 rfl rfl rfl) w hs, (lhA [_, _, _] ag25 rfl rfl rfl) w hs, (lhA [_, _, _] ag28 rfl rfl rfl) w hs, (lhA [_, _, _] ag25 rfl rfl rfl) w hs, trivial⟩) ?_
 exact sy_to (h1010101010010000 (b7, b10)) (by repeat' first | exact Sub.nil | apply Sub.cons | rfl | (simp [lk]; omega)) (fun _ h => St.sub ((h.pull b7).pull b10))
 refine sy_alt ?_ ?_
 refine alc rfl zl28 rfl (fun b8 => ?_)
 refine bg (fun w hs => ⟨(lhA [_, _, _] ag28 rfl rfl rfl) w hs, (lhA [_, _, _] ag25 rfl rfl rfl) w hs, (lhA [_, _, _] ag28 rfl rfl rfl) w hs, (lhA [_, _, _] ag25 rfl rfl rfl) w hs, trivial⟩) ?_
 exact sy_to (h1010101001010000 (b8, b10)) (by repeat' first | exact Sub.nil | apply Sub.cons | rfl | (simp [lk]; omega)) (fun _ h => St.sub ((h.pull b8).pull b10))
 refine sy_alt ?_ ?_
 refine alc rfl zl59 rfl (fun b9 => ?_)
 refine bg (fun w hs => ⟨(lhA [_, _, _] ag28 rfl rfl rfl) w hs, (lhA [_, _, _] ag25 rfl rfl rfl) w hs, (lhA [_, _, _] ag28 rfl rfl rfl) w hs, (lhA [_, _, _] ag25 rfl rfl rfl) w hs, trivial⟩) ?_
 exact sy_to (h1010101000110000 (b9, b10)) (by repeat' first | exact Sub.nil | apply Sub.cons | rfl | (simp [lk]; omega)) (fun _ h => St.sub ((h.pull b9).pull b10))
 exact sy_stop
 exact sy_stop
end Go.Proofs.Ytknoaljnelfklaa
