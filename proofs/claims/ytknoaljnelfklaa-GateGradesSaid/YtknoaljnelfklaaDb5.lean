/- Walks of the functions of the program, and the laws that join them: what the last theorem of this claim needs, in order. -/
import Derived.Test.YtknoaljnelfklaaDb4
namespace Go.Proofs.Ytknoaljnelfklaa
set_option linter.unusedSimpArgs false
set_option linter.unusedVariables false
open Go
theorem cal31 : cal Try.prog 31 = true := by kernel_rfl
theorem cal32 : cal Try.prog 32 = true := by kernel_rfl
theorem cal35 : cal Try.prog 35 = true := by kernel_rfl
def payP (g : Gat) (c : Crt) : Int × Int := bif decide (toldE g c false ≠ 0) then (0, 0) else ((netP g c).1 * leastP g.grs (canR g c), (netP g c).2 * mostP g.grs (canR g c))
theorem payR_eq (g : Gat) (c : Crt) : payR g c = .tuple #[spv (payP g c).1 (payP g c).2, .int .i64 (toldE g c false)] := by
  unfold payR payP
  by_cases h : toldE g c false = 0
  · rw [decide_eq_false (show ¬ toldE g c false ≠ 0 by omega), h]; rfl
  · rw [decide_eq_true h]; rfl
theorem grd_err {g : Gat} {c : Crt} (h : toldE g c false ≠ 0) : canR g c = [] ∧ sureR g c = (0, toldE g c false) ∧ payP g c = (0, 0) := by
  unfold canR sureR payP; rw [decide_eq_true h]; exact ⟨rfl, rfl, rfl⟩
theorem pay_ok {g : Gat} {c : Crt} (h : toldE g c false = 0) : payP g c = ((netP g c).1 * leastP g.grs (canR g c), (netP g c).2 * mostP g.grs (canR g c)) := by
  unfold payP; rw [decide_eq_false (show ¬ toldE g c false ≠ 0 by omega)]; rfl
theorem can_told {g : Gat} {c : Crt} (h : toldE g c false = 0) : canR g c = canG g.grs (bndB g c) := by
  unfold canR; rw [decide_eq_false (show ¬ toldE g c false ≠ 0 by omega)]; rfl
theorem sure_many {g : Gat} {c : Crt} (h : 1 < (canR g c).length) : sureR g c = (0, 6) := by
  have h0 : toldE g c false = 0 := by
    by_cases h1 : toldE g c false = 0
    · exact h1
    · rw [(grd_err h1).1] at h; simp at h
  unfold sureR; rw [decide_eq_false (show ¬ toldE g c false ≠ 0 by omega), decide_eq_true h]; rfl
theorem sure_one {g : Gat} {c : Crt} (h0 : toldE g c false = 0) (h : ¬ 1 < (canR g c).length) : ∃ x, canR g c = [x] ∧ sureR g c = (x, 0) := by
  obtain ⟨_, b, _, _, e, ht⟩ := told_0 h0
  have hp := can_pos (l := g.grs) ht
  rw [← e, ← can_told h0] at hp
  obtain ⟨x, hx⟩ := List.length_eq_one_iff.1 (show (canR g c).length = 1 by omega)
  refine ⟨x, hx, ?_⟩
  unfold sureR; rw [decide_eq_false (show ¬ toldE g c false ≠ 0 by omega), decide_eq_false h, hx]; rfl
theorem can_rng {g : Gat} {c : Crt} : ∀ gr ∈ canR g c, gr = -1 ∨ ∃ i x, g.grs[i]? = some x ∧ gr = (i : Nat) := fun gr hgr => by
  by_cases h0 : toldE g c false = 0
  · obtain ⟨_, b, _, _, e, ht⟩ := told_0 h0
    rw [can_told h0, e] at hgr
    obtain ⟨m, _, rfl⟩ := (can_iff ht.ok).1 hgr
    exact hasG_rg _ m
  · rw [(grd_err h0).1] at hgr; cases hgr
theorem show_err {g : Gat} {c : Crt} {gr : Int} (h : toldE g c (!(inb gr (-1) ((g.grs.length : Int) - 1))) ≠ 0) : showR g c gr = ([0, 0, 0, 0], toldE g c (!(inb gr (-1) ((g.grs.length : Int) - 1)))) := by
  unfold showR; rw [decide_eq_true h]; rfl
theorem show_in {g : Gat} {c : Crt} {gr : Int} (h0 : toldE g c false = 0) (hg : -1 ≤ gr ∧ gr < g.grs.length) : (gr ∈ canR g c ∧ ∃ q, showR g c gr = (q, 0) ∧ Mxt q ∧ (c.hs.all fun x => fitB g.miss x q) = true ∧ hasG g.grs q = gr) ∨ (gr ∉ canR g c ∧ showR g c gr = ([0, 0, 0, 0], 6)) := by
  obtain ⟨hb, b, hcl, _, e, ht⟩ := told_0 h0
  obtain ⟨hgo, hco⟩ := both_ok hb
  have hin : (!(inb gr (-1) ((g.grs.length : Int) - 1))) = false := by simp [inb]; omega
  have hj : gr = -1 ∨ ∃ i x, g.grs[i]? = some x ∧ gr = (i : Nat) := by
    by_cases h9 : gr = -1
    · exact .inl h9
    · exact .inr ⟨gr.toNat, _, List.getElem?_eq_getElem (by omega), by omega⟩
  have e2 : showR g c gr = match shwB g.grs b gr with
    | some x => (mixt x, 0)
    | none => ([0, 0, 0, 0], 6) := by
    unfold showR
    rw [hin, decide_eq_false (show ¬ toldE g c false ≠ 0 by omega), e]; rfl
  obtain ⟨h1, h2⟩ := shw_ok ht.ok hj
  rw [can_told h0, e]
  have hmx : ∀ m, Mx b m ↔ (Mxt m ∧ ∀ x ∈ c.hs, fitB g.miss x m = true) := fun m => ((clo_some (boxF_ok _ _ _) hcl).2 m).trans (box_all hgo hco m)
  cases hs : shwB g.grs b gr with
  | none =>
    rw [hs] at e2
    refine .inr ⟨fun h3 => ?_, e2⟩
    obtain ⟨q, h4, h5⟩ := (can_iff ht.ok).1 h3
    exact h2 hs q h4 h5
  | some x =>
    rw [hs] at e2
    obtain ⟨h3, h4, h5⟩ := h1 x hs
    obtain ⟨h6, h7⟩ := (hmx _).1 h3
    exact .inl ⟨(can_iff ht.ok).2 ⟨_, h3, h4⟩, mixt x, e2, h6, List.all_eq_true.2 h7, h4⟩
theorem show_rng {g : Gat} {c : Crt} {gr : Int} (h : (showR g c gr).2 = 0) : toldE g c false = 0 ∧ -1 ≤ gr ∧ gr < g.grs.length := by
  by_cases h1 : toldE g c (!(inb gr (-1) ((g.grs.length : Int) - 1))) = 0
  · have hin : inb gr (-1) ((g.grs.length : Int) - 1) = true := by
      cases hi : inb gr (-1) ((g.grs.length : Int) - 1) with
      | true => rfl
      | false => rw [hi] at h1; exact (told_bad h1).elim
    rw [hin] at h1
    simp only [inb, Bool.and_eq_true, decide_eq_true_eq] at hin
    exact ⟨h1, by omega⟩
  · rw [show_err h1] at h; exact absurd h h1
theorem show_len (g : Gat) (c : Crt) (gr : Int) : (showR g c gr).1.length = 4 ∧ ((showR g c gr).2 ≠ 0 → (showR g c gr).1 = [0, 0, 0, 0]) ∧ ((showR g c gr).2 = 0 → Mxt (showR g c gr).1 ∧ (c.hs.all fun x => fitB g.miss x (showR g c gr).1) = true ∧ hasG g.grs (showR g c gr).1 = gr ∧ mixE (showR g c gr).1 = 0) := by
  by_cases h : (showR g c gr).2 = 0
  · obtain ⟨h0, hg⟩ := show_rng h
    rcases show_in h0 hg with ⟨_, q, e, h1, h2, h3⟩ | ⟨_, e⟩
    · rw [e]; exact ⟨h1.len, fun h9 => absurd rfl h9, fun _ => ⟨h1, h2, h3, (mix_ok h1.len).2 h1⟩⟩
    · rw [e] at h; exact absurd h (by decide)
  · have hz : (showR g c gr).1 = [0, 0, 0, 0] := by
      by_cases h1 : toldE g c (!(inb gr (-1) ((g.grs.length : Int) - 1))) = 0
      · have hin : inb gr (-1) ((g.grs.length : Int) - 1) = true := by
          cases hi : inb gr (-1) ((g.grs.length : Int) - 1) with
          | true => rfl
          | false => rw [hi] at h1; exact (told_bad h1).elim
        rw [hin] at h1
        simp only [inb, Bool.and_eq_true, decide_eq_true_eq] at hin
        rcases show_in (gr := gr) h1 (by omega) with ⟨_, q, e, _⟩ | ⟨_, e⟩
        · rw [e] at h; exact absurd rfl h
        · rw [e]
      · rw [show_err h1]
    exact ⟨by rw [hz]; rfl, fun _ => hz, fun h9 => absurd h9 h⟩
theorem c_Eq_int (xs ys : List Int) (a a2 : Option Addr) (c c2 : Nat) (hl : xs.length ≤ 9223372036854775807) (hl2 : ys.length ≤ 9223372036854775807) (H : Heap) (R : Facts) [hR : MemRows a 1 (irows xs) R] [hR2 : MemRows a2 1 (irows ys) R] :
    FnV Try.prog 35 [.slice a xs.length c, .slice a2 ys.length c2] H R (.bool (decide (xs = ys))) := by
 refine fn_of Try.func35 rfl Try.ntmps35 rfl ?_
 refine sy_seq ?_
 refine sy_tx' [0] rfl ?_
 refine sp rfl (PE.assign rfl) rfl ?_
 refine sy_seq ?_
 refine sy_tx' [0, 1, 2, 3] rfl ?_
 refine sp rfl (PE.move rfl) rfl ?_
 refine sp rfl (PE.move rfl) rfl ?_
 refine clV rfl cal66 rfl rfl (c_eq_int xs ys a a2 c c2 hl hl2 _ _) ?_
 refine sp rfl (PE.assign rfl) rfl ?_
 refine sy_ret ?_
 exact sy_return (vs := [_]) rfl (.cons (RV.tmp rfl) .nil) rfl ⟨rfl, rfl, rfl⟩ drp
def pl5_3_1111111111110000 : Plan := (.big 12 (.big 13 (.big 14 (.big 15 .done))))
def pl5_3_1111111111100000 : Plan := (.big 11 pl5_3_1111111111110000)
def pl5_3_1111111111010000 : Plan := (.big 10 pl5_3_1111111111110000)
def pl5_3_1111111111000000 : Plan := (.any (.alt 10 pl5_3_1111111111100000 (.alt 11 pl5_3_1111111111010000 .stop)))
def pl5_3_1111111110110000 : Plan := (.big 9 pl5_3_1111111111110000)
def pl5_3_1111111110100000 : Plan := (.any (.alt 9 pl5_3_1111111111100000 (.alt 11 pl5_3_1111111110110000 .stop)))
def pl5_3_1111111110010000 : Plan := (.any (.alt 9 pl5_3_1111111111010000 (.alt 10 pl5_3_1111111110110000 .stop)))
def pl5_3_1111111110000000 : Plan := (.any (.alt 9 pl5_3_1111111111000000 (.alt 10 pl5_3_1111111110100000 (.alt 11 pl5_3_1111111110010000 .stop))))
def pl5_3_1111111101110000 : Plan := (.big 8 pl5_3_1111111111110000)
def pl5_3_1111111101100000 : Plan := (.any (.alt 8 pl5_3_1111111111100000 (.alt 11 pl5_3_1111111101110000 .stop)))
def pl5_3_1111111101010000 : Plan := (.any (.alt 8 pl5_3_1111111111010000 (.alt 10 pl5_3_1111111101110000 .stop)))
def pl5_3_1111111101000000 : Plan := (.any (.alt 8 pl5_3_1111111111000000 (.alt 10 pl5_3_1111111101100000 (.alt 11 pl5_3_1111111101010000 .stop))))
def pl5_3_1111111100110000 : Plan := (.any (.alt 8 pl5_3_1111111110110000 (.alt 9 pl5_3_1111111101110000 .stop)))
def pl5_3_1111111100100000 : Plan := (.any (.alt 8 pl5_3_1111111110100000 (.alt 9 pl5_3_1111111101100000 (.alt 11 pl5_3_1111111100110000 .stop))))
def pl5_3_1111111100010000 : Plan := (.any (.alt 8 pl5_3_1111111110010000 (.alt 9 pl5_3_1111111101010000 (.alt 10 pl5_3_1111111100110000 .stop))))
def pl5_3_1111111011110000 : Plan := (.big 7 pl5_3_1111111111110000)
def pl5_3_1111111011100000 : Plan := (.any (.alt 7 pl5_3_1111111111100000 (.alt 11 pl5_3_1111111011110000 .stop)))
def pl5_3_1111111011010000 : Plan := (.any (.alt 7 pl5_3_1111111111010000 (.alt 10 pl5_3_1111111011110000 .stop)))
def pl5_3_1111111011000000 : Plan := (.any (.alt 7 pl5_3_1111111111000000 (.alt 10 pl5_3_1111111011100000 (.alt 11 pl5_3_1111111011010000 .stop))))
def pl5_3_1111111010110000 : Plan := (.any (.alt 7 pl5_3_1111111110110000 (.alt 9 pl5_3_1111111011110000 .stop)))
def pl5_3_1111111010100000 : Plan := (.any (.alt 7 pl5_3_1111111110100000 (.alt 9 pl5_3_1111111011100000 (.alt 11 pl5_3_1111111010110000 .stop))))
def pl5_3_1111111010010000 : Plan := (.any (.alt 7 pl5_3_1111111110010000 (.alt 9 pl5_3_1111111011010000 (.alt 10 pl5_3_1111111010110000 .stop))))
def pl5_3_1111111010000000 : Plan := (.any (.alt 7 pl5_3_1111111110000000 (.alt 9 pl5_3_1111111011000000 (.alt 10 pl5_3_1111111010100000 (.alt 11 pl5_3_1111111010010000 .stop)))))
def pl5_3_1111111001110000 : Plan := (.any (.alt 7 pl5_3_1111111101110000 (.alt 8 pl5_3_1111111011110000 .stop)))
def pl5_3_1111111001100000 : Plan := (.any (.alt 7 pl5_3_1111111101100000 (.alt 8 pl5_3_1111111011100000 (.alt 11 pl5_3_1111111001110000 .stop))))
def pl5_3_1111111001010000 : Plan := (.any (.alt 7 pl5_3_1111111101010000 (.alt 8 pl5_3_1111111011010000 (.alt 10 pl5_3_1111111001110000 .stop))))
def pl5_3_1111111001000000 : Plan := (.any (.alt 7 pl5_3_1111111101000000 (.alt 8 pl5_3_1111111011000000 (.alt 10 pl5_3_1111111001100000 (.alt 11 pl5_3_1111111001010000 .stop)))))
def pl5_3_1111111000110000 : Plan := (.any (.alt 7 pl5_3_1111111100110000 (.alt 8 pl5_3_1111111010110000 (.alt 9 pl5_3_1111111001110000 .stop))))
def pl5_3_1111111000100000 : Plan := (.any (.alt 7 pl5_3_1111111100100000 (.alt 8 pl5_3_1111111010100000 (.alt 9 pl5_3_1111111001100000 (.alt 11 pl5_3_1111111000110000 .stop)))))
def pl5_3_1111111000010000 : Plan := (.any (.alt 7 pl5_3_1111111100010000 (.alt 8 pl5_3_1111111010010000 (.alt 9 pl5_3_1111111001010000 (.alt 10 pl5_3_1111111000110000 .stop)))))
def pl5_3_1111101011110000 : Plan := (.big 5 pl5_3_1111111011110000)
def pl5_3_1111101011100000 : Plan := (.any (.alt 5 pl5_3_1111111011100000 (.alt 11 pl5_3_1111101011110000 .stop)))
def pl5_3_1111101011010000 : Plan := (.any (.alt 5 pl5_3_1111111011010000 (.alt 10 pl5_3_1111101011110000 .stop)))
def pl5_3_1111101011000000 : Plan := (.any (.alt 5 pl5_3_1111111011000000 (.alt 10 pl5_3_1111101011100000 (.alt 11 pl5_3_1111101011010000 .stop))))
def pl5_3_1111101010110000 : Plan := (.any (.alt 5 pl5_3_1111111010110000 (.alt 9 pl5_3_1111101011110000 .stop)))
def pl5_3_1111101010100000 : Plan := (.any (.alt 5 pl5_3_1111111010100000 (.alt 9 pl5_3_1111101011100000 (.alt 11 pl5_3_1111101010110000 .stop))))
def pl5_3_1111101010010000 : Plan := (.any (.alt 5 pl5_3_1111111010010000 (.alt 9 pl5_3_1111101011010000 (.alt 10 pl5_3_1111101010110000 .stop))))
def pl5_3_1111101010000000 : Plan := (.any (.alt 5 pl5_3_1111111010000000 (.alt 9 pl5_3_1111101011000000 (.alt 10 pl5_3_1111101010100000 (.alt 11 pl5_3_1111101010010000 .stop)))))
def pl5_3_1111101001110000 : Plan := (.any (.alt 5 pl5_3_1111111001110000 (.alt 8 pl5_3_1111101011110000 .stop)))
def pl5_3_1111101001100000 : Plan := (.any (.alt 5 pl5_3_1111111001100000 (.alt 8 pl5_3_1111101011100000 (.alt 11 pl5_3_1111101001110000 .stop))))
def pl5_3_1111101001010000 : Plan := (.any (.alt 5 pl5_3_1111111001010000 (.alt 8 pl5_3_1111101011010000 (.alt 10 pl5_3_1111101001110000 .stop))))
def pl5_3_1111101001000000 : Plan := (.any (.alt 5 pl5_3_1111111001000000 (.alt 8 pl5_3_1111101011000000 (.alt 10 pl5_3_1111101001100000 (.alt 11 pl5_3_1111101001010000 .stop)))))
def pl5_3_1111101000110000 : Plan := (.any (.alt 5 pl5_3_1111111000110000 (.alt 8 pl5_3_1111101010110000 (.alt 9 pl5_3_1111101001110000 .stop))))
def pl5_3_1111101000100000 : Plan := (.any (.alt 5 pl5_3_1111111000100000 (.alt 8 pl5_3_1111101010100000 (.alt 9 pl5_3_1111101001100000 (.alt 11 pl5_3_1111101000110000 .stop)))))
def pl5_3_1111101000010000 : Plan := (.any (.alt 5 pl5_3_1111111000010000 (.alt 8 pl5_3_1111101010010000 (.alt 9 pl5_3_1111101001010000 (.alt 10 pl5_3_1111101000110000 .stop)))))
def pl5_3_1110101011110000 : Plan := (.big 3 pl5_3_1111101011110000)
def pl5_3_1110101011100000 : Plan := (.any (.alt 3 pl5_3_1111101011100000 (.alt 11 pl5_3_1110101011110000 .stop)))
def pl5_3_1110101011010000 : Plan := (.any (.alt 3 pl5_3_1111101011010000 (.alt 10 pl5_3_1110101011110000 .stop)))
def pl5_3_1110101011000000 : Plan := (.any (.alt 3 pl5_3_1111101011000000 (.alt 10 pl5_3_1110101011100000 (.alt 11 pl5_3_1110101011010000 .stop))))
def pl5_3_1110101010110000 : Plan := (.any (.alt 3 pl5_3_1111101010110000 (.alt 9 pl5_3_1110101011110000 .stop)))
def pl5_3_1110101010100000 : Plan := (.any (.alt 3 pl5_3_1111101010100000 (.alt 9 pl5_3_1110101011100000 (.alt 11 pl5_3_1110101010110000 .stop))))
def pl5_3_1110101010010000 : Plan := (.any (.alt 3 pl5_3_1111101010010000 (.alt 9 pl5_3_1110101011010000 (.alt 10 pl5_3_1110101010110000 .stop))))
def pl5_3_1110101010000000 : Plan := (.any (.alt 3 pl5_3_1111101010000000 (.alt 9 pl5_3_1110101011000000 (.alt 10 pl5_3_1110101010100000 (.alt 11 pl5_3_1110101010010000 .stop)))))
def pl5_3_1110101001110000 : Plan := (.any (.alt 3 pl5_3_1111101001110000 (.alt 8 pl5_3_1110101011110000 .stop)))
def pl5_3_1110101001100000 : Plan := (.any (.alt 3 pl5_3_1111101001100000 (.alt 8 pl5_3_1110101011100000 (.alt 11 pl5_3_1110101001110000 .stop))))
def pl5_3_1110101001010000 : Plan := (.any (.alt 3 pl5_3_1111101001010000 (.alt 8 pl5_3_1110101011010000 (.alt 10 pl5_3_1110101001110000 .stop))))
def pl5_3_1110101001000000 : Plan := (.any (.alt 3 pl5_3_1111101001000000 (.alt 8 pl5_3_1110101011000000 (.alt 10 pl5_3_1110101001100000 (.alt 11 pl5_3_1110101001010000 .stop)))))
def pl5_3_1110101000110000 : Plan := (.any (.alt 3 pl5_3_1111101000110000 (.alt 8 pl5_3_1110101010110000 (.alt 9 pl5_3_1110101001110000 .stop))))
def pl5_3_1110101000100000 : Plan := (.any (.alt 3 pl5_3_1111101000100000 (.alt 8 pl5_3_1110101010100000 (.alt 9 pl5_3_1110101001100000 (.alt 11 pl5_3_1110101000110000 .stop)))))
def pl5_3_1110101000010000 : Plan := (.any (.alt 3 pl5_3_1111101000010000 (.alt 8 pl5_3_1110101010010000 (.alt 9 pl5_3_1110101001010000 (.alt 10 pl5_3_1110101000110000 .stop)))))
def pl5_3_1010101011110000 : Plan := (.big 1 pl5_3_1110101011110000)
def pl5_3_1010101011100000 : Plan := (.any (.alt 1 pl5_3_1110101011100000 (.alt 11 pl5_3_1010101011110000 .stop)))
def pl5_3_1010101011010000 : Plan := (.any (.alt 1 pl5_3_1110101011010000 (.alt 10 pl5_3_1010101011110000 .stop)))
def pl5_3_1010101011000000 : Plan := (.any (.alt 1 pl5_3_1110101011000000 (.alt 10 pl5_3_1010101011100000 (.alt 11 pl5_3_1010101011010000 .stop))))
def pl5_3_1010101010110000 : Plan := (.any (.alt 1 pl5_3_1110101010110000 (.alt 9 pl5_3_1010101011110000 .stop)))
def pl5_3_1010101010100000 : Plan := (.any (.alt 1 pl5_3_1110101010100000 (.alt 9 pl5_3_1010101011100000 (.alt 11 pl5_3_1010101010110000 .stop))))
def pl5_3_1010101010010000 : Plan := (.any (.alt 1 pl5_3_1110101010010000 (.alt 9 pl5_3_1010101011010000 (.alt 10 pl5_3_1010101010110000 .stop))))
def pl5_3_1010101001110000 : Plan := (.any (.alt 1 pl5_3_1110101001110000 (.alt 8 pl5_3_1010101011110000 .stop)))
def pl5_3_1010101001100000 : Plan := (.any (.alt 1 pl5_3_1110101001100000 (.alt 8 pl5_3_1010101011100000 (.alt 11 pl5_3_1010101001110000 .stop))))
def pl5_3_1010101001010000 : Plan := (.any (.alt 1 pl5_3_1110101001010000 (.alt 8 pl5_3_1010101011010000 (.alt 10 pl5_3_1010101001110000 .stop))))
def pl5_3_1010101000110000 : Plan := (.any (.alt 1 pl5_3_1110101000110000 (.alt 8 pl5_3_1010101010110000 (.alt 9 pl5_3_1010101001110000 .stop))))
def pl5_3_0000000000000000 : Plan := (.ld 0 (.ld 2 (.ld 4 (.ld 6 (.any (.alt 1 (.any (.alt 3 (.any (.alt 5 (.any (.alt 7 (.any (.alt 8 pl5_3_1111111110000000 (.alt 9 pl5_3_1111111101000000 (.alt 10 pl5_3_1111111100100000 (.alt 11 pl5_3_1111111100010000 .stop))))) (.alt 8 pl5_3_1111111010000000 (.alt 9 pl5_3_1111111001000000 (.alt 10 pl5_3_1111111000100000 (.alt 11 pl5_3_1111111000010000 .stop)))))) (.alt 8 pl5_3_1111101010000000 (.alt 9 pl5_3_1111101001000000 (.alt 10 pl5_3_1111101000100000 (.alt 11 pl5_3_1111101000010000 .stop)))))) (.alt 8 pl5_3_1110101010000000 (.alt 9 pl5_3_1110101001000000 (.alt 10 pl5_3_1110101000100000 (.alt 11 pl5_3_1110101000010000 .stop)))))) (.alt 8 (.any (.alt 1 pl5_3_1110101010000000 (.alt 9 pl5_3_1010101011000000 (.alt 10 pl5_3_1010101010100000 (.alt 11 pl5_3_1010101010010000 .stop))))) (.alt 9 (.any (.alt 1 pl5_3_1110101001000000 (.alt 8 pl5_3_1010101011000000 (.alt 10 pl5_3_1010101001100000 (.alt 11 pl5_3_1010101001010000 .stop))))) (.alt 10 (.any (.alt 1 pl5_3_1110101000100000 (.alt 8 pl5_3_1010101010100000 (.alt 9 pl5_3_1010101001100000 (.alt 11 pl5_3_1010101000110000 .stop))))) (.alt 11 (.any (.alt 1 pl5_3_1110101000010000 (.alt 8 pl5_3_1010101010010000 (.alt 9 pl5_3_1010101001010000 (.alt 10 pl5_3_1010101000110000 .stop))))) .stop))))))))))
set_option maxHeartbeats 4000000 in
theorem c_GateGrades (g : Gat) (ag : Option Addr) (cg : Nat) (hlg : g.grs.length ≤ 9223372036854775807) (c : Crt) (ah : Option Addr) (ch : Nat) (hlh : c.hs.length ≤ 9223372036854775807) (gr : Int) (hgr : -9223372036854775808 ≤ gr ∧ gr ≤ 9223372036854775807) (H : Heap) (R : Facts) [hG : MemRows ag 5 (grows g.grs) R] [hA : MemRows ah 5 (hrows c.hs) R] :
    Fn Try.prog 5 [g.v (g.sl ag cg), c.v (c.sl ah ch), .int .i64 gr] H R (fun v H' R' => v = .bool true ∧ H' = H ∧ R' = R) := by
 refine fn_of Try.func5 rfl Try.ntmps5 rfl ?_
 refine sy_seq ?_
 refine sy_tx' [0, 1, 2] rfl ?_
 refine bx rfl rfl rfl (fun b3 => ?_)
 refine bx rfl rfl rfl (fun b4 => ?_)
 refine sp rfl (PE.assign rfl) rfl ?_
 refine sy_seq ?_
 refine sy_seq ?_
 refine sy_tx' [0, 1, 2] rfl ?_
 refine spL rfl rfl (lhA [_, _, _] ag25 rfl rfl rfl) rfl ?_
 refine spL rfl rfl (lhA [_, _, _] ag28 rfl rfl rfl) rfl ?_
 refine clV rfl cal24 rfl rfl (c_grt g ag cg hlg c ah ch hlh _ _) ?_
 refine sy_cond rfl (fun hc0 => ?_) (fun hc0 => ?_)
 refine sy_seq ?_
 refine sy_tx' [0, 1] rfl ?_
 refine clV rfl cal22 rfl rfl (c_awake _ _) ?_
 refine sp rfl (PE.assign rfl) rfl ?_
 refine sy_ret ?_
 exact sy_return (vs := [_]) rfl (.cons (RV.tmp rfl) .nil) rfl ⟨rfl, rfl, rfl⟩ drp
 have h79 : ¬ 7 < g.grs.length ∧ ¬ 9 < c.hs.length := by simpa using hc0
 refine sy_skip ?_
 refine sy_seq ?_
 refine sy_draw [0, 1, 0, 7, 0, 31, 0, 127, 0, 0, 0, 0, 4095, 8191, 16383, 32767] pl5_3_0000000000000000 mixed ?_ ?_
 refine reg_ok (fuel := 16) (listed := #[false, false, false, false, false, false, false, false, false, false, false, false, false, false, false, false]) (by kernel_rfl) (by kernel_rfl) (by kernel_rfl) ?_
 refine ok_have pl5_3_1111111111110000 4 #[true, true, true, true, true, true, true, true, true, true, true, true, false, false, false, false] ?_ (fun ok1111111111110000 => ?_)
 refine ok_big (l2 := #[true, true, true, true, true, true, true, true, true, true, true, true, true, false, false, false]) (by kernel_rfl) (by kernel_rfl) ?_
 refine ok_big (l2 := #[true, true, true, true, true, true, true, true, true, true, true, true, true, true, false, false]) (by kernel_rfl) (by kernel_rfl) ?_
 refine ok_big (l2 := #[true, true, true, true, true, true, true, true, true, true, true, true, true, true, true, false]) (by kernel_rfl) (by kernel_rfl) ?_
 refine ok_big (l2 := #[true, true, true, true, true, true, true, true, true, true, true, true, true, true, true, true]) (by kernel_rfl) (by kernel_rfl) ?_
 exact ok_done (by kernel_rfl)
 refine ok_have pl5_3_1111111111100000 5 #[true, true, true, true, true, true, true, true, true, true, true, false, false, false, false, false] ?_ (fun ok1111111111100000 => ?_)
 refine ok_big (l2 := #[true, true, true, true, true, true, true, true, true, true, true, true, false, false, false, false]) (by kernel_rfl) (by kernel_rfl) ?_
 exact ok1111111111110000
 refine ok_have pl5_3_1111111111010000 5 #[true, true, true, true, true, true, true, true, true, true, false, true, false, false, false, false] ?_ (fun ok1111111111010000 => ?_)
 refine ok_big (l2 := #[true, true, true, true, true, true, true, true, true, true, true, true, false, false, false, false]) (by kernel_rfl) (by kernel_rfl) ?_
 exact ok1111111111110000
 refine ok_have pl5_3_1111111111000000 6 #[true, true, true, true, true, true, true, true, true, true, false, false, false, false, false, false] ?_ (fun ok1111111111000000 => ?_)
 refine ok_any (by kernel_rfl) ?_
 refine ok_alt (l2 := #[true, true, true, true, true, true, true, true, true, true, true, false, false, false, false, false]) (by kernel_rfl) ?_ ?_
 exact ok1111111111100000
 refine ok_alt (l2 := #[true, true, true, true, true, true, true, true, true, true, false, true, false, false, false, false]) (by kernel_rfl) ?_ ?_
 exact ok1111111111010000
 exact ok_stop
 refine ok_have pl5_3_1111111110110000 5 #[true, true, true, true, true, true, true, true, true, false, true, true, false, false, false, false] ?_ (fun ok1111111110110000 => ?_)
 refine ok_big (l2 := #[true, true, true, true, true, true, true, true, true, true, true, true, false, false, false, false]) (by kernel_rfl) (by kernel_rfl) ?_
 exact ok1111111111110000
 refine ok_have pl5_3_1111111110100000 6 #[true, true, true, true, true, true, true, true, true, false, true, false, false, false, false, false] ?_ (fun ok1111111110100000 => ?_)
 refine ok_any (by kernel_rfl) ?_
 refine ok_alt (l2 := #[true, true, true, true, true, true, true, true, true, true, true, false, false, false, false, false]) (by kernel_rfl) ?_ ?_
 exact ok1111111111100000
 refine ok_alt (l2 := #[true, true, true, true, true, true, true, true, true, false, true, true, false, false, false, false]) (by kernel_rfl) ?_ ?_
 exact ok1111111110110000
 exact ok_stop
 refine ok_have pl5_3_1111111110010000 6 #[true, true, true, true, true, true, true, true, true, false, false, true, false, false, false, false] ?_ (fun ok1111111110010000 => ?_)
 refine ok_any (by kernel_rfl) ?_
 refine ok_alt (l2 := #[true, true, true, true, true, true, true, true, true, true, false, true, false, false, false, false]) (by kernel_rfl) ?_ ?_
 exact ok1111111111010000
 refine ok_alt (l2 := #[true, true, true, true, true, true, true, true, true, false, true, true, false, false, false, false]) (by kernel_rfl) ?_ ?_
 exact ok1111111110110000
 exact ok_stop
 refine ok_have pl5_3_1111111110000000 7 #[true, true, true, true, true, true, true, true, true, false, false, false, false, false, false, false] ?_ (fun ok1111111110000000 => ?_)
 refine ok_any (by kernel_rfl) ?_
 refine ok_alt (l2 := #[true, true, true, true, true, true, true, true, true, true, false, false, false, false, false, false]) (by kernel_rfl) ?_ ?_
 exact ok1111111111000000
 refine ok_alt (l2 := #[true, true, true, true, true, true, true, true, true, false, true, false, false, false, false, false]) (by kernel_rfl) ?_ ?_
 exact ok1111111110100000
 refine ok_alt (l2 := #[true, true, true, true, true, true, true, true, true, false, false, true, false, false, false, false]) (by kernel_rfl) ?_ ?_
 exact ok1111111110010000
 exact ok_stop
 refine ok_have pl5_3_1111111101110000 5 #[true, true, true, true, true, true, true, true, false, true, true, true, false, false, false, false] ?_ (fun ok1111111101110000 => ?_)
 refine ok_big (l2 := #[true, true, true, true, true, true, true, true, true, true, true, true, false, false, false, false]) (by kernel_rfl) (by kernel_rfl) ?_
 exact ok1111111111110000
 refine ok_have pl5_3_1111111101100000 6 #[true, true, true, true, true, true, true, true, false, true, true, false, false, false, false, false] ?_ (fun ok1111111101100000 => ?_)
 refine ok_any (by kernel_rfl) ?_
 refine ok_alt (l2 := #[true, true, true, true, true, true, true, true, true, true, true, false, false, false, false, false]) (by kernel_rfl) ?_ ?_
 exact ok1111111111100000
 refine ok_alt (l2 := #[true, true, true, true, true, true, true, true, false, true, true, true, false, false, false, false]) (by kernel_rfl) ?_ ?_
 exact ok1111111101110000
 exact ok_stop
 refine ok_have pl5_3_1111111101010000 6 #[true, true, true, true, true, true, true, true, false, true, false, true, false, false, false, false] ?_ (fun ok1111111101010000 => ?_)
 refine ok_any (by kernel_rfl) ?_
 refine ok_alt (l2 := #[true, true, true, true, true, true, true, true, true, true, false, true, false, false, false, false]) (by kernel_rfl) ?_ ?_
 exact ok1111111111010000
 refine ok_alt (l2 := #[true, true, true, true, true, true, true, true, false, true, true, true, false, false, false, false]) (by kernel_rfl) ?_ ?_
 exact ok1111111101110000
 exact ok_stop
 refine ok_have pl5_3_1111111101000000 7 #[true, true, true, true, true, true, true, true, false, true, false, false, false, false, false, false] ?_ (fun ok1111111101000000 => ?_)
 refine ok_any (by kernel_rfl) ?_
 refine ok_alt (l2 := #[true, true, true, true, true, true, true, true, true, true, false, false, false, false, false, false]) (by kernel_rfl) ?_ ?_
 exact ok1111111111000000
 refine ok_alt (l2 := #[true, true, true, true, true, true, true, true, false, true, true, false, false, false, false, false]) (by kernel_rfl) ?_ ?_
 exact ok1111111101100000
 refine ok_alt (l2 := #[true, true, true, true, true, true, true, true, false, true, false, true, false, false, false, false]) (by kernel_rfl) ?_ ?_
 exact ok1111111101010000
 exact ok_stop
 refine ok_have pl5_3_1111111100110000 6 #[true, true, true, true, true, true, true, true, false, false, true, true, false, false, false, false] ?_ (fun ok1111111100110000 => ?_)
 refine ok_any (by kernel_rfl) ?_
 refine ok_alt (l2 := #[true, true, true, true, true, true, true, true, true, false, true, true, false, false, false, false]) (by kernel_rfl) ?_ ?_
 exact ok1111111110110000
 refine ok_alt (l2 := #[true, true, true, true, true, true, true, true, false, true, true, true, false, false, false, false]) (by kernel_rfl) ?_ ?_
 exact ok1111111101110000
 exact ok_stop
 refine ok_have pl5_3_1111111100100000 7 #[true, true, true, true, true, true, true, true, false, false, true, false, false, false, false, false] ?_ (fun ok1111111100100000 => ?_)
 refine ok_any (by kernel_rfl) ?_
 refine ok_alt (l2 := #[true, true, true, true, true, true, true, true, true, false, true, false, false, false, false, false]) (by kernel_rfl) ?_ ?_
 exact ok1111111110100000
 refine ok_alt (l2 := #[true, true, true, true, true, true, true, true, false, true, true, false, false, false, false, false]) (by kernel_rfl) ?_ ?_
 exact ok1111111101100000
 refine ok_alt (l2 := #[true, true, true, true, true, true, true, true, false, false, true, true, false, false, false, false]) (by kernel_rfl) ?_ ?_
 exact ok1111111100110000
 exact ok_stop
 refine ok_have pl5_3_1111111100010000 7 #[true, true, true, true, true, true, true, true, false, false, false, true, false, false, false, false] ?_ (fun ok1111111100010000 => ?_)
 refine ok_any (by kernel_rfl) ?_
 refine ok_alt (l2 := #[true, true, true, true, true, true, true, true, true, false, false, true, false, false, false, false]) (by kernel_rfl) ?_ ?_
 exact ok1111111110010000
 refine ok_alt (l2 := #[true, true, true, true, true, true, true, true, false, true, false, true, false, false, false, false]) (by kernel_rfl) ?_ ?_
 exact ok1111111101010000
 refine ok_alt (l2 := #[true, true, true, true, true, true, true, true, false, false, true, true, false, false, false, false]) (by kernel_rfl) ?_ ?_
 exact ok1111111100110000
 exact ok_stop
 refine ok_have pl5_3_1111111011110000 5 #[true, true, true, true, true, true, true, false, true, true, true, true, false, false, false, false] ?_ (fun ok1111111011110000 => ?_)
 refine ok_big (l2 := #[true, true, true, true, true, true, true, true, true, true, true, true, false, false, false, false]) (by kernel_rfl) (by kernel_rfl) ?_
 exact ok1111111111110000
 refine ok_have pl5_3_1111111011100000 6 #[true, true, true, true, true, true, true, false, true, true, true, false, false, false, false, false] ?_ (fun ok1111111011100000 => ?_)
 refine ok_any (by kernel_rfl) ?_
 refine ok_alt (l2 := #[true, true, true, true, true, true, true, true, true, true, true, false, false, false, false, false]) (by kernel_rfl) ?_ ?_
 exact ok1111111111100000
 refine ok_alt (l2 := #[true, true, true, true, true, true, true, false, true, true, true, true, false, false, false, false]) (by kernel_rfl) ?_ ?_
 exact ok1111111011110000
 exact ok_stop
 refine ok_have pl5_3_1111111011010000 6 #[true, true, true, true, true, true, true, false, true, true, false, true, false, false, false, false] ?_ (fun ok1111111011010000 => ?_)
 refine ok_any (by kernel_rfl) ?_
 refine ok_alt (l2 := #[true, true, true, true, true, true, true, true, true, true, false, true, false, false, false, false]) (by kernel_rfl) ?_ ?_
 exact ok1111111111010000
 refine ok_alt (l2 := #[true, true, true, true, true, true, true, false, true, true, true, true, false, false, false, false]) (by kernel_rfl) ?_ ?_
 exact ok1111111011110000
 exact ok_stop
 refine ok_have pl5_3_1111111011000000 7 #[true, true, true, true, true, true, true, false, true, true, false, false, false, false, false, false] ?_ (fun ok1111111011000000 => ?_)
 refine ok_any (by kernel_rfl) ?_
 refine ok_alt (l2 := #[true, true, true, true, true, true, true, true, true, true, false, false, false, false, false, false]) (by kernel_rfl) ?_ ?_
 exact ok1111111111000000
 refine ok_alt (l2 := #[true, true, true, true, true, true, true, false, true, true, true, false, false, false, false, false]) (by kernel_rfl) ?_ ?_
 exact ok1111111011100000
 refine ok_alt (l2 := #[true, true, true, true, true, true, true, false, true, true, false, true, false, false, false, false]) (by kernel_rfl) ?_ ?_
 exact ok1111111011010000
 exact ok_stop
 refine ok_have pl5_3_1111111010110000 6 #[true, true, true, true, true, true, true, false, true, false, true, true, false, false, false, false] ?_ (fun ok1111111010110000 => ?_)
 refine ok_any (by kernel_rfl) ?_
 refine ok_alt (l2 := #[true, true, true, true, true, true, true, true, true, false, true, true, false, false, false, false]) (by kernel_rfl) ?_ ?_
 exact ok1111111110110000
 refine ok_alt (l2 := #[true, true, true, true, true, true, true, false, true, true, true, true, false, false, false, false]) (by kernel_rfl) ?_ ?_
 exact ok1111111011110000
 exact ok_stop
 refine ok_have pl5_3_1111111010100000 7 #[true, true, true, true, true, true, true, false, true, false, true, false, false, false, false, false] ?_ (fun ok1111111010100000 => ?_)
 refine ok_any (by kernel_rfl) ?_
 refine ok_alt (l2 := #[true, true, true, true, true, true, true, true, true, false, true, false, false, false, false, false]) (by kernel_rfl) ?_ ?_
 exact ok1111111110100000
 refine ok_alt (l2 := #[true, true, true, true, true, true, true, false, true, true, true, false, false, false, false, false]) (by kernel_rfl) ?_ ?_
 exact ok1111111011100000
 refine ok_alt (l2 := #[true, true, true, true, true, true, true, false, true, false, true, true, false, false, false, false]) (by kernel_rfl) ?_ ?_
 exact ok1111111010110000
 exact ok_stop
 refine ok_have pl5_3_1111111010010000 7 #[true, true, true, true, true, true, true, false, true, false, false, true, false, false, false, false] ?_ (fun ok1111111010010000 => ?_)
 refine ok_any (by kernel_rfl) ?_
 refine ok_alt (l2 := #[true, true, true, true, true, true, true, true, true, false, false, true, false, false, false, false]) (by kernel_rfl) ?_ ?_
 exact ok1111111110010000
 refine ok_alt (l2 := #[true, true, true, true, true, true, true, false, true, true, false, true, false, false, false, false]) (by kernel_rfl) ?_ ?_
 exact ok1111111011010000
 refine ok_alt (l2 := #[true, true, true, true, true, true, true, false, true, false, true, true, false, false, false, false]) (by kernel_rfl) ?_ ?_
 exact ok1111111010110000
 exact ok_stop
 refine ok_have pl5_3_1111111010000000 8 #[true, true, true, true, true, true, true, false, true, false, false, false, false, false, false, false] ?_ (fun ok1111111010000000 => ?_)
 refine ok_any (by kernel_rfl) ?_
 refine ok_alt (l2 := #[true, true, true, true, true, true, true, true, true, false, false, false, false, false, false, false]) (by kernel_rfl) ?_ ?_
 exact ok1111111110000000
 refine ok_alt (l2 := #[true, true, true, true, true, true, true, false, true, true, false, false, false, false, false, false]) (by kernel_rfl) ?_ ?_
 exact ok1111111011000000
 refine ok_alt (l2 := #[true, true, true, true, true, true, true, false, true, false, true, false, false, false, false, false]) (by kernel_rfl) ?_ ?_
 exact ok1111111010100000
 refine ok_alt (l2 := #[true, true, true, true, true, true, true, false, true, false, false, true, false, false, false, false]) (by kernel_rfl) ?_ ?_
 exact ok1111111010010000
 exact ok_stop
 refine ok_have pl5_3_1111111001110000 6 #[true, true, true, true, true, true, true, false, false, true, true, true, false, false, false, false] ?_ (fun ok1111111001110000 => ?_)
 refine ok_any (by kernel_rfl) ?_
 refine ok_alt (l2 := #[true, true, true, true, true, true, true, true, false, true, true, true, false, false, false, false]) (by kernel_rfl) ?_ ?_
 exact ok1111111101110000
 refine ok_alt (l2 := #[true, true, true, true, true, true, true, false, true, true, true, true, false, false, false, false]) (by kernel_rfl) ?_ ?_
 exact ok1111111011110000
 exact ok_stop
 refine ok_have pl5_3_1111111001100000 7 #[true, true, true, true, true, true, true, false, false, true, true, false, false, false, false, false] ?_ (fun ok1111111001100000 => ?_)
 refine ok_any (by kernel_rfl) ?_
 refine ok_alt (l2 := #[true, true, true, true, true, true, true, true, false, true, true, false, false, false, false, false]) (by kernel_rfl) ?_ ?_
 exact ok1111111101100000
 refine ok_alt (l2 := #[true, true, true, true, true, true, true, false, true, true, true, false, false, false, false, false]) (by kernel_rfl) ?_ ?_
 exact ok1111111011100000
 refine ok_alt (l2 := #[true, true, true, true, true, true, true, false, false, true, true, true, false, false, false, false]) (by kernel_rfl) ?_ ?_
 exact ok1111111001110000
 exact ok_stop
 refine ok_have pl5_3_1111111001010000 7 #[true, true, true, true, true, true, true, false, false, true, false, true, false, false, false, false] ?_ (fun ok1111111001010000 => ?_)
 refine ok_any (by kernel_rfl) ?_
 refine ok_alt (l2 := #[true, true, true, true, true, true, true, true, false, true, false, true, false, false, false, false]) (by kernel_rfl) ?_ ?_
 exact ok1111111101010000
 refine ok_alt (l2 := #[true, true, true, true, true, true, true, false, true, true, false, true, false, false, false, false]) (by kernel_rfl) ?_ ?_
 exact ok1111111011010000
 refine ok_alt (l2 := #[true, true, true, true, true, true, true, false, false, true, true, true, false, false, false, false]) (by kernel_rfl) ?_ ?_
 exact ok1111111001110000
 exact ok_stop
 refine ok_have pl5_3_1111111001000000 8 #[true, true, true, true, true, true, true, false, false, true, false, false, false, false, false, false] ?_ (fun ok1111111001000000 => ?_)
 refine ok_any (by kernel_rfl) ?_
 refine ok_alt (l2 := #[true, true, true, true, true, true, true, true, false, true, false, false, false, false, false, false]) (by kernel_rfl) ?_ ?_
 exact ok1111111101000000
 refine ok_alt (l2 := #[true, true, true, true, true, true, true, false, true, true, false, false, false, false, false, false]) (by kernel_rfl) ?_ ?_
 exact ok1111111011000000
 refine ok_alt (l2 := #[true, true, true, true, true, true, true, false, false, true, true, false, false, false, false, false]) (by kernel_rfl) ?_ ?_
 exact ok1111111001100000
 refine ok_alt (l2 := #[true, true, true, true, true, true, true, false, false, true, false, true, false, false, false, false]) (by kernel_rfl) ?_ ?_
 exact ok1111111001010000
 exact ok_stop
 refine ok_have pl5_3_1111111000110000 7 #[true, true, true, true, true, true, true, false, false, false, true, true, false, false, false, false] ?_ (fun ok1111111000110000 => ?_)
 refine ok_any (by kernel_rfl) ?_
 refine ok_alt (l2 := #[true, true, true, true, true, true, true, true, false, false, true, true, false, false, false, false]) (by kernel_rfl) ?_ ?_
 exact ok1111111100110000
 refine ok_alt (l2 := #[true, true, true, true, true, true, true, false, true, false, true, true, false, false, false, false]) (by kernel_rfl) ?_ ?_
 exact ok1111111010110000
 refine ok_alt (l2 := #[true, true, true, true, true, true, true, false, false, true, true, true, false, false, false, false]) (by kernel_rfl) ?_ ?_
 exact ok1111111001110000
 exact ok_stop
 refine ok_have pl5_3_1111111000100000 8 #[true, true, true, true, true, true, true, false, false, false, true, false, false, false, false, false] ?_ (fun ok1111111000100000 => ?_)
 refine ok_any (by kernel_rfl) ?_
 refine ok_alt (l2 := #[true, true, true, true, true, true, true, true, false, false, true, false, false, false, false, false]) (by kernel_rfl) ?_ ?_
 exact ok1111111100100000
 refine ok_alt (l2 := #[true, true, true, true, true, true, true, false, true, false, true, false, false, false, false, false]) (by kernel_rfl) ?_ ?_
 exact ok1111111010100000
 refine ok_alt (l2 := #[true, true, true, true, true, true, true, false, false, true, true, false, false, false, false, false]) (by kernel_rfl) ?_ ?_
 exact ok1111111001100000
 refine ok_alt (l2 := #[true, true, true, true, true, true, true, false, false, false, true, true, false, false, false, false]) (by kernel_rfl) ?_ ?_
 exact ok1111111000110000
 exact ok_stop
 refine ok_have pl5_3_1111111000010000 8 #[true, true, true, true, true, true, true, false, false, false, false, true, false, false, false, false] ?_ (fun ok1111111000010000 => ?_)
 refine ok_any (by kernel_rfl) ?_
 refine ok_alt (l2 := #[true, true, true, true, true, true, true, true, false, false, false, true, false, false, false, false]) (by kernel_rfl) ?_ ?_
 exact ok1111111100010000
 refine ok_alt (l2 := #[true, true, true, true, true, true, true, false, true, false, false, true, false, false, false, false]) (by kernel_rfl) ?_ ?_
 exact ok1111111010010000
 refine ok_alt (l2 := #[true, true, true, true, true, true, true, false, false, true, false, true, false, false, false, false]) (by kernel_rfl) ?_ ?_
 exact ok1111111001010000
 refine ok_alt (l2 := #[true, true, true, true, true, true, true, false, false, false, true, true, false, false, false, false]) (by kernel_rfl) ?_ ?_
 exact ok1111111000110000
 exact ok_stop
 refine ok_have pl5_3_1111101011110000 6 #[true, true, true, true, true, false, true, false, true, true, true, true, false, false, false, false] ?_ (fun ok1111101011110000 => ?_)
 refine ok_big (l2 := #[true, true, true, true, true, true, true, false, true, true, true, true, false, false, false, false]) (by kernel_rfl) (by kernel_rfl) ?_
 exact ok1111111011110000
 refine ok_have pl5_3_1111101011100000 7 #[true, true, true, true, true, false, true, false, true, true, true, false, false, false, false, false] ?_ (fun ok1111101011100000 => ?_)
 refine ok_any (by kernel_rfl) ?_
 refine ok_alt (l2 := #[true, true, true, true, true, true, true, false, true, true, true, false, false, false, false, false]) (by kernel_rfl) ?_ ?_
 exact ok1111111011100000
 refine ok_alt (l2 := #[true, true, true, true, true, false, true, false, true, true, true, true, false, false, false, false]) (by kernel_rfl) ?_ ?_
 exact ok1111101011110000
 exact ok_stop
 refine ok_have pl5_3_1111101011010000 7 #[true, true, true, true, true, false, true, false, true, true, false, true, false, false, false, false] ?_ (fun ok1111101011010000 => ?_)
 refine ok_any (by kernel_rfl) ?_
 refine ok_alt (l2 := #[true, true, true, true, true, true, true, false, true, true, false, true, false, false, false, false]) (by kernel_rfl) ?_ ?_
 exact ok1111111011010000
 refine ok_alt (l2 := #[true, true, true, true, true, false, true, false, true, true, true, true, false, false, false, false]) (by kernel_rfl) ?_ ?_
 exact ok1111101011110000
 exact ok_stop
 refine ok_have pl5_3_1111101011000000 8 #[true, true, true, true, true, false, true, false, true, true, false, false, false, false, false, false] ?_ (fun ok1111101011000000 => ?_)
 refine ok_any (by kernel_rfl) ?_
 refine ok_alt (l2 := #[true, true, true, true, true, true, true, false, true, true, false, false, false, false, false, false]) (by kernel_rfl) ?_ ?_
 exact ok1111111011000000
 refine ok_alt (l2 := #[true, true, true, true, true, false, true, false, true, true, true, false, false, false, false, false]) (by kernel_rfl) ?_ ?_
 exact ok1111101011100000
 refine ok_alt (l2 := #[true, true, true, true, true, false, true, false, true, true, false, true, false, false, false, false]) (by kernel_rfl) ?_ ?_
 exact ok1111101011010000
 exact ok_stop
 refine ok_have pl5_3_1111101010110000 7 #[true, true, true, true, true, false, true, false, true, false, true, true, false, false, false, false] ?_ (fun ok1111101010110000 => ?_)
 refine ok_any (by kernel_rfl) ?_
 refine ok_alt (l2 := #[true, true, true, true, true, true, true, false, true, false, true, true, false, false, false, false]) (by kernel_rfl) ?_ ?_
 exact ok1111111010110000
 refine ok_alt (l2 := #[true, true, true, true, true, false, true, false, true, true, true, true, false, false, false, false]) (by kernel_rfl) ?_ ?_
 exact ok1111101011110000
 exact ok_stop
 refine ok_have pl5_3_1111101010100000 8 #[true, true, true, true, true, false, true, false, true, false, true, false, false, false, false, false] ?_ (fun ok1111101010100000 => ?_)
 refine ok_any (by kernel_rfl) ?_
 refine ok_alt (l2 := #[true, true, true, true, true, true, true, false, true, false, true, false, false, false, false, false]) (by kernel_rfl) ?_ ?_
 exact ok1111111010100000
 refine ok_alt (l2 := #[true, true, true, true, true, false, true, false, true, true, true, false, false, false, false, false]) (by kernel_rfl) ?_ ?_
 exact ok1111101011100000
 refine ok_alt (l2 := #[true, true, true, true, true, false, true, false, true, false, true, true, false, false, false, false]) (by kernel_rfl) ?_ ?_
 exact ok1111101010110000
 exact ok_stop
 refine ok_have pl5_3_1111101010010000 8 #[true, true, true, true, true, false, true, false, true, false, false, true, false, false, false, false] ?_ (fun ok1111101010010000 => ?_)
 refine ok_any (by kernel_rfl) ?_
 refine ok_alt (l2 := #[true, true, true, true, true, true, true, false, true, false, false, true, false, false, false, false]) (by kernel_rfl) ?_ ?_
 exact ok1111111010010000
 refine ok_alt (l2 := #[true, true, true, true, true, false, true, false, true, true, false, true, false, false, false, false]) (by kernel_rfl) ?_ ?_
 exact ok1111101011010000
 refine ok_alt (l2 := #[true, true, true, true, true, false, true, false, true, false, true, true, false, false, false, false]) (by kernel_rfl) ?_ ?_
 exact ok1111101010110000
 exact ok_stop
 refine ok_have pl5_3_1111101010000000 9 #[true, true, true, true, true, false, true, false, true, false, false, false, false, false, false, false] ?_ (fun ok1111101010000000 => ?_)
 refine ok_any (by kernel_rfl) ?_
 refine ok_alt (l2 := #[true, true, true, true, true, true, true, false, true, false, false, false, false, false, false, false]) (by kernel_rfl) ?_ ?_
 exact ok1111111010000000
 refine ok_alt (l2 := #[true, true, true, true, true, false, true, false, true, true, false, false, false, false, false, false]) (by kernel_rfl) ?_ ?_
 exact ok1111101011000000
 refine ok_alt (l2 := #[true, true, true, true, true, false, true, false, true, false, true, false, false, false, false, false]) (by kernel_rfl) ?_ ?_
 exact ok1111101010100000
 refine ok_alt (l2 := #[true, true, true, true, true, false, true, false, true, false, false, true, false, false, false, false]) (by kernel_rfl) ?_ ?_
 exact ok1111101010010000
 exact ok_stop
 refine ok_have pl5_3_1111101001110000 7 #[true, true, true, true, true, false, true, false, false, true, true, true, false, false, false, false] ?_ (fun ok1111101001110000 => ?_)
 refine ok_any (by kernel_rfl) ?_
 refine ok_alt (l2 := #[true, true, true, true, true, true, true, false, false, true, true, true, false, false, false, false]) (by kernel_rfl) ?_ ?_
 exact ok1111111001110000
 refine ok_alt (l2 := #[true, true, true, true, true, false, true, false, true, true, true, true, false, false, false, false]) (by kernel_rfl) ?_ ?_
 exact ok1111101011110000
 exact ok_stop
 refine ok_have pl5_3_1111101001100000 8 #[true, true, true, true, true, false, true, false, false, true, true, false, false, false, false, false] ?_ (fun ok1111101001100000 => ?_)
 refine ok_any (by kernel_rfl) ?_
 refine ok_alt (l2 := #[true, true, true, true, true, true, true, false, false, true, true, false, false, false, false, false]) (by kernel_rfl) ?_ ?_
 exact ok1111111001100000
 refine ok_alt (l2 := #[true, true, true, true, true, false, true, false, true, true, true, false, false, false, false, false]) (by kernel_rfl) ?_ ?_
 exact ok1111101011100000
 refine ok_alt (l2 := #[true, true, true, true, true, false, true, false, false, true, true, true, false, false, false, false]) (by kernel_rfl) ?_ ?_
 exact ok1111101001110000
 exact ok_stop
 refine ok_have pl5_3_1111101001010000 8 #[true, true, true, true, true, false, true, false, false, true, false, true, false, false, false, false] ?_ (fun ok1111101001010000 => ?_)
 refine ok_any (by kernel_rfl) ?_
 refine ok_alt (l2 := #[true, true, true, true, true, true, true, false, false, true, false, true, false, false, false, false]) (by kernel_rfl) ?_ ?_
 exact ok1111111001010000
 refine ok_alt (l2 := #[true, true, true, true, true, false, true, false, true, true, false, true, false, false, false, false]) (by kernel_rfl) ?_ ?_
 exact ok1111101011010000
 refine ok_alt (l2 := #[true, true, true, true, true, false, true, false, false, true, true, true, false, false, false, false]) (by kernel_rfl) ?_ ?_
 exact ok1111101001110000
 exact ok_stop
 refine ok_have pl5_3_1111101001000000 9 #[true, true, true, true, true, false, true, false, false, true, false, false, false, false, false, false] ?_ (fun ok1111101001000000 => ?_)
 refine ok_any (by kernel_rfl) ?_
 refine ok_alt (l2 := #[true, true, true, true, true, true, true, false, false, true, false, false, false, false, false, false]) (by kernel_rfl) ?_ ?_
 exact ok1111111001000000
 refine ok_alt (l2 := #[true, true, true, true, true, false, true, false, true, true, false, false, false, false, false, false]) (by kernel_rfl) ?_ ?_
 exact ok1111101011000000
 refine ok_alt (l2 := #[true, true, true, true, true, false, true, false, false, true, true, false, false, false, false, false]) (by kernel_rfl) ?_ ?_
 exact ok1111101001100000
 refine ok_alt (l2 := #[true, true, true, true, true, false, true, false, false, true, false, true, false, false, false, false]) (by kernel_rfl) ?_ ?_
 exact ok1111101001010000
 exact ok_stop
 refine ok_have pl5_3_1111101000110000 8 #[true, true, true, true, true, false, true, false, false, false, true, true, false, false, false, false] ?_ (fun ok1111101000110000 => ?_)
 refine ok_any (by kernel_rfl) ?_
 refine ok_alt (l2 := #[true, true, true, true, true, true, true, false, false, false, true, true, false, false, false, false]) (by kernel_rfl) ?_ ?_
 exact ok1111111000110000
 refine ok_alt (l2 := #[true, true, true, true, true, false, true, false, true, false, true, true, false, false, false, false]) (by kernel_rfl) ?_ ?_
 exact ok1111101010110000
 refine ok_alt (l2 := #[true, true, true, true, true, false, true, false, false, true, true, true, false, false, false, false]) (by kernel_rfl) ?_ ?_
 exact ok1111101001110000
 exact ok_stop
 refine ok_have pl5_3_1111101000100000 9 #[true, true, true, true, true, false, true, false, false, false, true, false, false, false, false, false] ?_ (fun ok1111101000100000 => ?_)
 refine ok_any (by kernel_rfl) ?_
 refine ok_alt (l2 := #[true, true, true, true, true, true, true, false, false, false, true, false, false, false, false, false]) (by kernel_rfl) ?_ ?_
 exact ok1111111000100000
 refine ok_alt (l2 := #[true, true, true, true, true, false, true, false, true, false, true, false, false, false, false, false]) (by kernel_rfl) ?_ ?_
 exact ok1111101010100000
 refine ok_alt (l2 := #[true, true, true, true, true, false, true, false, false, true, true, false, false, false, false, false]) (by kernel_rfl) ?_ ?_
 exact ok1111101001100000
 refine ok_alt (l2 := #[true, true, true, true, true, false, true, false, false, false, true, true, false, false, false, false]) (by kernel_rfl) ?_ ?_
 exact ok1111101000110000
 exact ok_stop
 refine ok_have pl5_3_1111101000010000 9 #[true, true, true, true, true, false, true, false, false, false, false, true, false, false, false, false] ?_ (fun ok1111101000010000 => ?_)
 refine ok_any (by kernel_rfl) ?_
 refine ok_alt (l2 := #[true, true, true, true, true, true, true, false, false, false, false, true, false, false, false, false]) (by kernel_rfl) ?_ ?_
 exact ok1111111000010000
 refine ok_alt (l2 := #[true, true, true, true, true, false, true, false, true, false, false, true, false, false, false, false]) (by kernel_rfl) ?_ ?_
 exact ok1111101010010000
 refine ok_alt (l2 := #[true, true, true, true, true, false, true, false, false, true, false, true, false, false, false, false]) (by kernel_rfl) ?_ ?_
 exact ok1111101001010000
 refine ok_alt (l2 := #[true, true, true, true, true, false, true, false, false, false, true, true, false, false, false, false]) (by kernel_rfl) ?_ ?_
 exact ok1111101000110000
 exact ok_stop
 refine ok_have pl5_3_1110101011110000 7 #[true, true, true, false, true, false, true, false, true, true, true, true, false, false, false, false] ?_ (fun ok1110101011110000 => ?_)
 refine ok_big (l2 := #[true, true, true, true, true, false, true, false, true, true, true, true, false, false, false, false]) (by kernel_rfl) (by kernel_rfl) ?_
 exact ok1111101011110000
 refine ok_have pl5_3_1110101011100000 8 #[true, true, true, false, true, false, true, false, true, true, true, false, false, false, false, false] ?_ (fun ok1110101011100000 => ?_)
 refine ok_any (by kernel_rfl) ?_
 refine ok_alt (l2 := #[true, true, true, true, true, false, true, false, true, true, true, false, false, false, false, false]) (by kernel_rfl) ?_ ?_
 exact ok1111101011100000
 refine ok_alt (l2 := #[true, true, true, false, true, false, true, false, true, true, true, true, false, false, false, false]) (by kernel_rfl) ?_ ?_
 exact ok1110101011110000
 exact ok_stop
 refine ok_have pl5_3_1110101011010000 8 #[true, true, true, false, true, false, true, false, true, true, false, true, false, false, false, false] ?_ (fun ok1110101011010000 => ?_)
 refine ok_any (by kernel_rfl) ?_
 refine ok_alt (l2 := #[true, true, true, true, true, false, true, false, true, true, false, true, false, false, false, false]) (by kernel_rfl) ?_ ?_
 exact ok1111101011010000
 refine ok_alt (l2 := #[true, true, true, false, true, false, true, false, true, true, true, true, false, false, false, false]) (by kernel_rfl) ?_ ?_
 exact ok1110101011110000
 exact ok_stop
 refine ok_have pl5_3_1110101011000000 9 #[true, true, true, false, true, false, true, false, true, true, false, false, false, false, false, false] ?_ (fun ok1110101011000000 => ?_)
 refine ok_any (by kernel_rfl) ?_
 refine ok_alt (l2 := #[true, true, true, true, true, false, true, false, true, true, false, false, false, false, false, false]) (by kernel_rfl) ?_ ?_
 exact ok1111101011000000
 refine ok_alt (l2 := #[true, true, true, false, true, false, true, false, true, true, true, false, false, false, false, false]) (by kernel_rfl) ?_ ?_
 exact ok1110101011100000
 refine ok_alt (l2 := #[true, true, true, false, true, false, true, false, true, true, false, true, false, false, false, false]) (by kernel_rfl) ?_ ?_
 exact ok1110101011010000
 exact ok_stop
 refine ok_have pl5_3_1110101010110000 8 #[true, true, true, false, true, false, true, false, true, false, true, true, false, false, false, false] ?_ (fun ok1110101010110000 => ?_)
 refine ok_any (by kernel_rfl) ?_
 refine ok_alt (l2 := #[true, true, true, true, true, false, true, false, true, false, true, true, false, false, false, false]) (by kernel_rfl) ?_ ?_
 exact ok1111101010110000
 refine ok_alt (l2 := #[true, true, true, false, true, false, true, false, true, true, true, true, false, false, false, false]) (by kernel_rfl) ?_ ?_
 exact ok1110101011110000
 exact ok_stop
 refine ok_have pl5_3_1110101010100000 9 #[true, true, true, false, true, false, true, false, true, false, true, false, false, false, false, false] ?_ (fun ok1110101010100000 => ?_)
 refine ok_any (by kernel_rfl) ?_
 refine ok_alt (l2 := #[true, true, true, true, true, false, true, false, true, false, true, false, false, false, false, false]) (by kernel_rfl) ?_ ?_
 exact ok1111101010100000
 refine ok_alt (l2 := #[true, true, true, false, true, false, true, false, true, true, true, false, false, false, false, false]) (by kernel_rfl) ?_ ?_
 exact ok1110101011100000
 refine ok_alt (l2 := #[true, true, true, false, true, false, true, false, true, false, true, true, false, false, false, false]) (by kernel_rfl) ?_ ?_
 exact ok1110101010110000
 exact ok_stop
 refine ok_have pl5_3_1110101010010000 9 #[true, true, true, false, true, false, true, false, true, false, false, true, false, false, false, false] ?_ (fun ok1110101010010000 => ?_)
 refine ok_any (by kernel_rfl) ?_
 refine ok_alt (l2 := #[true, true, true, true, true, false, true, false, true, false, false, true, false, false, false, false]) (by kernel_rfl) ?_ ?_
 exact ok1111101010010000
 refine ok_alt (l2 := #[true, true, true, false, true, false, true, false, true, true, false, true, false, false, false, false]) (by kernel_rfl) ?_ ?_
 exact ok1110101011010000
 refine ok_alt (l2 := #[true, true, true, false, true, false, true, false, true, false, true, true, false, false, false, false]) (by kernel_rfl) ?_ ?_
 exact ok1110101010110000
 exact ok_stop
 refine ok_have pl5_3_1110101010000000 10 #[true, true, true, false, true, false, true, false, true, false, false, false, false, false, false, false] ?_ (fun ok1110101010000000 => ?_)
 refine ok_any (by kernel_rfl) ?_
 refine ok_alt (l2 := #[true, true, true, true, true, false, true, false, true, false, false, false, false, false, false, false]) (by kernel_rfl) ?_ ?_
 exact ok1111101010000000
 refine ok_alt (l2 := #[true, true, true, false, true, false, true, false, true, true, false, false, false, false, false, false]) (by kernel_rfl) ?_ ?_
 exact ok1110101011000000
 refine ok_alt (l2 := #[true, true, true, false, true, false, true, false, true, false, true, false, false, false, false, false]) (by kernel_rfl) ?_ ?_
 exact ok1110101010100000
 refine ok_alt (l2 := #[true, true, true, false, true, false, true, false, true, false, false, true, false, false, false, false]) (by kernel_rfl) ?_ ?_
 exact ok1110101010010000
 exact ok_stop
 refine ok_have pl5_3_1110101001110000 8 #[true, true, true, false, true, false, true, false, false, true, true, true, false, false, false, false] ?_ (fun ok1110101001110000 => ?_)
 refine ok_any (by kernel_rfl) ?_
 refine ok_alt (l2 := #[true, true, true, true, true, false, true, false, false, true, true, true, false, false, false, false]) (by kernel_rfl) ?_ ?_
 exact ok1111101001110000
 refine ok_alt (l2 := #[true, true, true, false, true, false, true, false, true, true, true, true, false, false, false, false]) (by kernel_rfl) ?_ ?_
 exact ok1110101011110000
 exact ok_stop
 refine ok_have pl5_3_1110101001100000 9 #[true, true, true, false, true, false, true, false, false, true, true, false, false, false, false, false] ?_ (fun ok1110101001100000 => ?_)
 refine ok_any (by kernel_rfl) ?_
 refine ok_alt (l2 := #[true, true, true, true, true, false, true, false, false, true, true, false, false, false, false, false]) (by kernel_rfl) ?_ ?_
 exact ok1111101001100000
 refine ok_alt (l2 := #[true, true, true, false, true, false, true, false, true, true, true, false, false, false, false, false]) (by kernel_rfl) ?_ ?_
 exact ok1110101011100000
 refine ok_alt (l2 := #[true, true, true, false, true, false, true, false, false, true, true, true, false, false, false, false]) (by kernel_rfl) ?_ ?_
 exact ok1110101001110000
 exact ok_stop
 refine ok_have pl5_3_1110101001010000 9 #[true, true, true, false, true, false, true, false, false, true, false, true, false, false, false, false] ?_ (fun ok1110101001010000 => ?_)
 refine ok_any (by kernel_rfl) ?_
 refine ok_alt (l2 := #[true, true, true, true, true, false, true, false, false, true, false, true, false, false, false, false]) (by kernel_rfl) ?_ ?_
 exact ok1111101001010000
 refine ok_alt (l2 := #[true, true, true, false, true, false, true, false, true, true, false, true, false, false, false, false]) (by kernel_rfl) ?_ ?_
 exact ok1110101011010000
 refine ok_alt (l2 := #[true, true, true, false, true, false, true, false, false, true, true, true, false, false, false, false]) (by kernel_rfl) ?_ ?_
 exact ok1110101001110000
 exact ok_stop
 refine ok_have pl5_3_1110101001000000 10 #[true, true, true, false, true, false, true, false, false, true, false, false, false, false, false, false] ?_ (fun ok1110101001000000 => ?_)
 refine ok_any (by kernel_rfl) ?_
 refine ok_alt (l2 := #[true, true, true, true, true, false, true, false, false, true, false, false, false, false, false, false]) (by kernel_rfl) ?_ ?_
 exact ok1111101001000000
 refine ok_alt (l2 := #[true, true, true, false, true, false, true, false, true, true, false, false, false, false, false, false]) (by kernel_rfl) ?_ ?_
 exact ok1110101011000000
 refine ok_alt (l2 := #[true, true, true, false, true, false, true, false, false, true, true, false, false, false, false, false]) (by kernel_rfl) ?_ ?_
 exact ok1110101001100000
 refine ok_alt (l2 := #[true, true, true, false, true, false, true, false, false, true, false, true, false, false, false, false]) (by kernel_rfl) ?_ ?_
 exact ok1110101001010000
 exact ok_stop
 refine ok_have pl5_3_1110101000110000 9 #[true, true, true, false, true, false, true, false, false, false, true, true, false, false, false, false] ?_ (fun ok1110101000110000 => ?_)
 refine ok_any (by kernel_rfl) ?_
 refine ok_alt (l2 := #[true, true, true, true, true, false, true, false, false, false, true, true, false, false, false, false]) (by kernel_rfl) ?_ ?_
 exact ok1111101000110000
 refine ok_alt (l2 := #[true, true, true, false, true, false, true, false, true, false, true, true, false, false, false, false]) (by kernel_rfl) ?_ ?_
 exact ok1110101010110000
 refine ok_alt (l2 := #[true, true, true, false, true, false, true, false, false, true, true, true, false, false, false, false]) (by kernel_rfl) ?_ ?_
 exact ok1110101001110000
 exact ok_stop
 refine ok_have pl5_3_1110101000100000 10 #[true, true, true, false, true, false, true, false, false, false, true, false, false, false, false, false] ?_ (fun ok1110101000100000 => ?_)
 refine ok_any (by kernel_rfl) ?_
 refine ok_alt (l2 := #[true, true, true, true, true, false, true, false, false, false, true, false, false, false, false, false]) (by kernel_rfl) ?_ ?_
 exact ok1111101000100000
 refine ok_alt (l2 := #[true, true, true, false, true, false, true, false, true, false, true, false, false, false, false, false]) (by kernel_rfl) ?_ ?_
 exact ok1110101010100000
 refine ok_alt (l2 := #[true, true, true, false, true, false, true, false, false, true, true, false, false, false, false, false]) (by kernel_rfl) ?_ ?_
 exact ok1110101001100000
 refine ok_alt (l2 := #[true, true, true, false, true, false, true, false, false, false, true, true, false, false, false, false]) (by kernel_rfl) ?_ ?_
 exact ok1110101000110000
 exact ok_stop
 refine ok_have pl5_3_1110101000010000 10 #[true, true, true, false, true, false, true, false, false, false, false, true, false, false, false, false] ?_ (fun ok1110101000010000 => ?_)
 refine ok_any (by kernel_rfl) ?_
 refine ok_alt (l2 := #[true, true, true, true, true, false, true, false, false, false, false, true, false, false, false, false]) (by kernel_rfl) ?_ ?_
 exact ok1111101000010000
 refine ok_alt (l2 := #[true, true, true, false, true, false, true, false, true, false, false, true, false, false, false, false]) (by kernel_rfl) ?_ ?_
 exact ok1110101010010000
 refine ok_alt (l2 := #[true, true, true, false, true, false, true, false, false, true, false, true, false, false, false, false]) (by kernel_rfl) ?_ ?_
 exact ok1110101001010000
 refine ok_alt (l2 := #[true, true, true, false, true, false, true, false, false, false, true, true, false, false, false, false]) (by kernel_rfl) ?_ ?_
 exact ok1110101000110000
 exact ok_stop
 refine ok_have pl5_3_1010101011110000 8 #[true, false, true, false, true, false, true, false, true, true, true, true, false, false, false, false] ?_ (fun ok1010101011110000 => ?_)
 refine ok_big (l2 := #[true, true, true, false, true, false, true, false, true, true, true, true, false, false, false, false]) (by kernel_rfl) (by kernel_rfl) ?_
 exact ok1110101011110000
 refine ok_have pl5_3_1010101011100000 9 #[true, false, true, false, true, false, true, false, true, true, true, false, false, false, false, false] ?_ (fun ok1010101011100000 => ?_)
 refine ok_any (by kernel_rfl) ?_
 refine ok_alt (l2 := #[true, true, true, false, true, false, true, false, true, true, true, false, false, false, false, false]) (by kernel_rfl) ?_ ?_
 exact ok1110101011100000
 refine ok_alt (l2 := #[true, false, true, false, true, false, true, false, true, true, true, true, false, false, false, false]) (by kernel_rfl) ?_ ?_
 exact ok1010101011110000
 exact ok_stop
 refine ok_have pl5_3_1010101011010000 9 #[true, false, true, false, true, false, true, false, true, true, false, true, false, false, false, false] ?_ (fun ok1010101011010000 => ?_)
 refine ok_any (by kernel_rfl) ?_
 refine ok_alt (l2 := #[true, true, true, false, true, false, true, false, true, true, false, true, false, false, false, false]) (by kernel_rfl) ?_ ?_
 exact ok1110101011010000
 refine ok_alt (l2 := #[true, false, true, false, true, false, true, false, true, true, true, true, false, false, false, false]) (by kernel_rfl) ?_ ?_
 exact ok1010101011110000
 exact ok_stop
 refine ok_have pl5_3_1010101011000000 10 #[true, false, true, false, true, false, true, false, true, true, false, false, false, false, false, false] ?_ (fun ok1010101011000000 => ?_)
 refine ok_any (by kernel_rfl) ?_
 refine ok_alt (l2 := #[true, true, true, false, true, false, true, false, true, true, false, false, false, false, false, false]) (by kernel_rfl) ?_ ?_
 exact ok1110101011000000
 refine ok_alt (l2 := #[true, false, true, false, true, false, true, false, true, true, true, false, false, false, false, false]) (by kernel_rfl) ?_ ?_
 exact ok1010101011100000
 refine ok_alt (l2 := #[true, false, true, false, true, false, true, false, true, true, false, true, false, false, false, false]) (by kernel_rfl) ?_ ?_
 exact ok1010101011010000
 exact ok_stop
 refine ok_have pl5_3_1010101010110000 9 #[true, false, true, false, true, false, true, false, true, false, true, true, false, false, false, false] ?_ (fun ok1010101010110000 => ?_)
 refine ok_any (by kernel_rfl) ?_
 refine ok_alt (l2 := #[true, true, true, false, true, false, true, false, true, false, true, true, false, false, false, false]) (by kernel_rfl) ?_ ?_
 exact ok1110101010110000
 refine ok_alt (l2 := #[true, false, true, false, true, false, true, false, true, true, true, true, false, false, false, false]) (by kernel_rfl) ?_ ?_
 exact ok1010101011110000
 exact ok_stop
 refine ok_have pl5_3_1010101010100000 10 #[true, false, true, false, true, false, true, false, true, false, true, false, false, false, false, false] ?_ (fun ok1010101010100000 => ?_)
 refine ok_any (by kernel_rfl) ?_
 refine ok_alt (l2 := #[true, true, true, false, true, false, true, false, true, false, true, false, false, false, false, false]) (by kernel_rfl) ?_ ?_
 exact ok1110101010100000
 refine ok_alt (l2 := #[true, false, true, false, true, false, true, false, true, true, true, false, false, false, false, false]) (by kernel_rfl) ?_ ?_
 exact ok1010101011100000
 refine ok_alt (l2 := #[true, false, true, false, true, false, true, false, true, false, true, true, false, false, false, false]) (by kernel_rfl) ?_ ?_
 exact ok1010101010110000
 exact ok_stop
 refine ok_have pl5_3_1010101010010000 10 #[true, false, true, false, true, false, true, false, true, false, false, true, false, false, false, false] ?_ (fun ok1010101010010000 => ?_)
 refine ok_any (by kernel_rfl) ?_
 refine ok_alt (l2 := #[true, true, true, false, true, false, true, false, true, false, false, true, false, false, false, false]) (by kernel_rfl) ?_ ?_
 exact ok1110101010010000
 refine ok_alt (l2 := #[true, false, true, false, true, false, true, false, true, true, false, true, false, false, false, false]) (by kernel_rfl) ?_ ?_
 exact ok1010101011010000
 refine ok_alt (l2 := #[true, false, true, false, true, false, true, false, true, false, true, true, false, false, false, false]) (by kernel_rfl) ?_ ?_
 exact ok1010101010110000
 exact ok_stop
 refine ok_have pl5_3_1010101001110000 9 #[true, false, true, false, true, false, true, false, false, true, true, true, false, false, false, false] ?_ (fun ok1010101001110000 => ?_)
 refine ok_any (by kernel_rfl) ?_
 refine ok_alt (l2 := #[true, true, true, false, true, false, true, false, false, true, true, true, false, false, false, false]) (by kernel_rfl) ?_ ?_
 exact ok1110101001110000
 refine ok_alt (l2 := #[true, false, true, false, true, false, true, false, true, true, true, true, false, false, false, false]) (by kernel_rfl) ?_ ?_
 exact ok1010101011110000
 exact ok_stop
 refine ok_have pl5_3_1010101001100000 10 #[true, false, true, false, true, false, true, false, false, true, true, false, false, false, false, false] ?_ (fun ok1010101001100000 => ?_)
 refine ok_any (by kernel_rfl) ?_
 refine ok_alt (l2 := #[true, true, true, false, true, false, true, false, false, true, true, false, false, false, false, false]) (by kernel_rfl) ?_ ?_
 exact ok1110101001100000
 refine ok_alt (l2 := #[true, false, true, false, true, false, true, false, true, true, true, false, false, false, false, false]) (by kernel_rfl) ?_ ?_
 exact ok1010101011100000
 refine ok_alt (l2 := #[true, false, true, false, true, false, true, false, false, true, true, true, false, false, false, false]) (by kernel_rfl) ?_ ?_
 exact ok1010101001110000
 exact ok_stop
 refine ok_have pl5_3_1010101001010000 10 #[true, false, true, false, true, false, true, false, false, true, false, true, false, false, false, false] ?_ (fun ok1010101001010000 => ?_)
 refine ok_any (by kernel_rfl) ?_
 refine ok_alt (l2 := #[true, true, true, false, true, false, true, false, false, true, false, true, false, false, false, false]) (by kernel_rfl) ?_ ?_
 exact ok1110101001010000
 refine ok_alt (l2 := #[true, false, true, false, true, false, true, false, true, true, false, true, false, false, false, false]) (by kernel_rfl) ?_ ?_
 exact ok1010101011010000
 refine ok_alt (l2 := #[true, false, true, false, true, false, true, false, false, true, true, true, false, false, false, false]) (by kernel_rfl) ?_ ?_
 exact ok1010101001110000
 exact ok_stop
 refine ok_have pl5_3_1010101000110000 10 #[true, false, true, false, true, false, true, false, false, false, true, true, false, false, false, false] ?_ (fun ok1010101000110000 => ?_)
 refine ok_any (by kernel_rfl) ?_
 refine ok_alt (l2 := #[true, true, true, false, true, false, true, false, false, false, true, true, false, false, false, false]) (by kernel_rfl) ?_ ?_
 exact ok1110101000110000
 refine ok_alt (l2 := #[true, false, true, false, true, false, true, false, true, false, true, true, false, false, false, false]) (by kernel_rfl) ?_ ?_
 exact ok1010101010110000
 refine ok_alt (l2 := #[true, false, true, false, true, false, true, false, false, true, true, true, false, false, false, false]) (by kernel_rfl) ?_ ?_
 exact ok1010101001110000
 exact ok_stop
 refine ok_ld (l2 := #[true, false, false, false, false, false, false, false, false, false, false, false, false, false, false, false]) (by kernel_rfl) (by kernel_rfl) ?_
 refine ok_ld (l2 := #[true, false, true, false, false, false, false, false, false, false, false, false, false, false, false, false]) (by kernel_rfl) (by kernel_rfl) ?_
 refine ok_ld (l2 := #[true, false, true, false, true, false, false, false, false, false, false, false, false, false, false, false]) (by kernel_rfl) (by kernel_rfl) ?_
 refine ok_ld (l2 := #[true, false, true, false, true, false, true, false, false, false, false, false, false, false, false, false]) (by kernel_rfl) (by kernel_rfl) ?_
 refine ok_any (by kernel_rfl) ?_
 refine ok_alt (l2 := #[true, true, true, false, true, false, true, false, false, false, false, false, false, false, false, false]) (by kernel_rfl) ?_ ?_
 refine ok_any (by kernel_rfl) ?_
 refine ok_alt (l2 := #[true, true, true, true, true, false, true, false, false, false, false, false, false, false, false, false]) (by kernel_rfl) ?_ ?_
 refine ok_any (by kernel_rfl) ?_
 refine ok_alt (l2 := #[true, true, true, true, true, true, true, false, false, false, false, false, false, false, false, false]) (by kernel_rfl) ?_ ?_
 refine ok_any (by kernel_rfl) ?_
 refine ok_alt (l2 := #[true, true, true, true, true, true, true, true, false, false, false, false, false, false, false, false]) (by kernel_rfl) ?_ ?_
 refine ok_any (by kernel_rfl) ?_
 refine ok_alt (l2 := #[true, true, true, true, true, true, true, true, true, false, false, false, false, false, false, false]) (by kernel_rfl) ?_ ?_
 exact ok1111111110000000
 refine ok_alt (l2 := #[true, true, true, true, true, true, true, true, false, true, false, false, false, false, false, false]) (by kernel_rfl) ?_ ?_
 exact ok1111111101000000
 refine ok_alt (l2 := #[true, true, true, true, true, true, true, true, false, false, true, false, false, false, false, false]) (by kernel_rfl) ?_ ?_
 exact ok1111111100100000
 refine ok_alt (l2 := #[true, true, true, true, true, true, true, true, false, false, false, true, false, false, false, false]) (by kernel_rfl) ?_ ?_
 exact ok1111111100010000
 exact ok_stop
 refine ok_alt (l2 := #[true, true, true, true, true, true, true, false, true, false, false, false, false, false, false, false]) (by kernel_rfl) ?_ ?_
 exact ok1111111010000000
 refine ok_alt (l2 := #[true, true, true, true, true, true, true, false, false, true, false, false, false, false, false, false]) (by kernel_rfl) ?_ ?_
 exact ok1111111001000000
 refine ok_alt (l2 := #[true, true, true, true, true, true, true, false, false, false, true, false, false, false, false, false]) (by kernel_rfl) ?_ ?_
 exact ok1111111000100000
 refine ok_alt (l2 := #[true, true, true, true, true, true, true, false, false, false, false, true, false, false, false, false]) (by kernel_rfl) ?_ ?_
 exact ok1111111000010000
 exact ok_stop
 refine ok_alt (l2 := #[true, true, true, true, true, false, true, false, true, false, false, false, false, false, false, false]) (by kernel_rfl) ?_ ?_
 exact ok1111101010000000
 refine ok_alt (l2 := #[true, true, true, true, true, false, true, false, false, true, false, false, false, false, false, false]) (by kernel_rfl) ?_ ?_
 exact ok1111101001000000
 refine ok_alt (l2 := #[true, true, true, true, true, false, true, false, false, false, true, false, false, false, false, false]) (by kernel_rfl) ?_ ?_
 exact ok1111101000100000
 refine ok_alt (l2 := #[true, true, true, true, true, false, true, false, false, false, false, true, false, false, false, false]) (by kernel_rfl) ?_ ?_
 exact ok1111101000010000
 exact ok_stop
 refine ok_alt (l2 := #[true, true, true, false, true, false, true, false, true, false, false, false, false, false, false, false]) (by kernel_rfl) ?_ ?_
 exact ok1110101010000000
 refine ok_alt (l2 := #[true, true, true, false, true, false, true, false, false, true, false, false, false, false, false, false]) (by kernel_rfl) ?_ ?_
 exact ok1110101001000000
 refine ok_alt (l2 := #[true, true, true, false, true, false, true, false, false, false, true, false, false, false, false, false]) (by kernel_rfl) ?_ ?_
 exact ok1110101000100000
 refine ok_alt (l2 := #[true, true, true, false, true, false, true, false, false, false, false, true, false, false, false, false]) (by kernel_rfl) ?_ ?_
 exact ok1110101000010000
 exact ok_stop
 refine ok_alt (l2 := #[true, false, true, false, true, false, true, false, true, false, false, false, false, false, false, false]) (by kernel_rfl) ?_ ?_
 refine ok_any (by kernel_rfl) ?_
 refine ok_alt (l2 := #[true, true, true, false, true, false, true, false, true, false, false, false, false, false, false, false]) (by kernel_rfl) ?_ ?_
 exact ok1110101010000000
 refine ok_alt (l2 := #[true, false, true, false, true, false, true, false, true, true, false, false, false, false, false, false]) (by kernel_rfl) ?_ ?_
 exact ok1010101011000000
 refine ok_alt (l2 := #[true, false, true, false, true, false, true, false, true, false, true, false, false, false, false, false]) (by kernel_rfl) ?_ ?_
 exact ok1010101010100000
 refine ok_alt (l2 := #[true, false, true, false, true, false, true, false, true, false, false, true, false, false, false, false]) (by kernel_rfl) ?_ ?_
 exact ok1010101010010000
 exact ok_stop
 refine ok_alt (l2 := #[true, false, true, false, true, false, true, false, false, true, false, false, false, false, false, false]) (by kernel_rfl) ?_ ?_
 refine ok_any (by kernel_rfl) ?_
 refine ok_alt (l2 := #[true, true, true, false, true, false, true, false, false, true, false, false, false, false, false, false]) (by kernel_rfl) ?_ ?_
 exact ok1110101001000000
 refine ok_alt (l2 := #[true, false, true, false, true, false, true, false, true, true, false, false, false, false, false, false]) (by kernel_rfl) ?_ ?_
 exact ok1010101011000000
 refine ok_alt (l2 := #[true, false, true, false, true, false, true, false, false, true, true, false, false, false, false, false]) (by kernel_rfl) ?_ ?_
 exact ok1010101001100000
 refine ok_alt (l2 := #[true, false, true, false, true, false, true, false, false, true, false, true, false, false, false, false]) (by kernel_rfl) ?_ ?_
 exact ok1010101001010000
 exact ok_stop
 refine ok_alt (l2 := #[true, false, true, false, true, false, true, false, false, false, true, false, false, false, false, false]) (by kernel_rfl) ?_ ?_
 refine ok_any (by kernel_rfl) ?_
 refine ok_alt (l2 := #[true, true, true, false, true, false, true, false, false, false, true, false, false, false, false, false]) (by kernel_rfl) ?_ ?_
 exact ok1110101000100000
 refine ok_alt (l2 := #[true, false, true, false, true, false, true, false, true, false, true, false, false, false, false, false]) (by kernel_rfl) ?_ ?_
 exact ok1010101010100000
 refine ok_alt (l2 := #[true, false, true, false, true, false, true, false, false, true, true, false, false, false, false, false]) (by kernel_rfl) ?_ ?_
 exact ok1010101001100000
 refine ok_alt (l2 := #[true, false, true, false, true, false, true, false, false, false, true, true, false, false, false, false]) (by kernel_rfl) ?_ ?_
 exact ok1010101000110000
 exact ok_stop
 refine ok_alt (l2 := #[true, false, true, false, true, false, true, false, false, false, false, true, false, false, false, false]) (by kernel_rfl) ?_ ?_
 refine ok_any (by kernel_rfl) ?_
 refine ok_alt (l2 := #[true, true, true, false, true, false, true, false, false, false, false, true, false, false, false, false]) (by kernel_rfl) ?_ ?_
 exact ok1110101000010000
 refine ok_alt (l2 := #[true, false, true, false, true, false, true, false, true, false, false, true, false, false, false, false]) (by kernel_rfl) ?_ ?_
 exact ok1010101010010000
 refine ok_alt (l2 := #[true, false, true, false, true, false, true, false, false, true, false, true, false, false, false, false]) (by kernel_rfl) ?_ ?_
 exact ok1010101001010000
 refine ok_alt (l2 := #[true, false, true, false, true, false, true, false, false, false, true, true, false, false, false, false]) (by kernel_rfl) ?_ ?_
 exact ok1010101000110000
 exact ok_stop
 exact ok_stop
 refine ld rfl rfl (lhA [_, _, _] ag25 rfl rfl rfl) rfl ?_
 refine ld rfl rfl (lhA [_, _, _] ag28 rfl rfl rfl) rfl ?_
 refine ld rfl rfl (lhA [_, _, _] ag25 rfl rfl rfl) rfl ?_
 refine ld rfl rfl (lhA [_, _, _] ag28 rfl rfl rfl) rfl ?_
 refine sy_have (β := Option Addr × {n : Nat // g.grs.length ≤ n} × Option Addr × Nat × Option Addr × Nat × Option Addr × Nat × Nat × Nat × Nat × Nat) pl5_3_1111111111110000 (fun ⟨a1, c1, a2, c2, a3, c3, a4, c4, b7, b8, b9, b10⟩ => ([(10, .pointer (some ⟨b10, 0, none⟩)), (9, .pointer (some ⟨b9, 0, none⟩)), (8, .pointer (some ⟨b8, 0, none⟩)), (7, .pointer (some ⟨b7, 0, none⟩)), (37, c.v (c.sl a4 c4)), (35, g.v (g.sl a3 c3)), (33, c.v (c.sl a2 c2)), (31, g.v (g.sl a1 c1.1)), (2, .int .i64 gr), (3, .pointer (some ⟨b3, 0, none⟩)), (4, .pointer (some ⟨b4, 0, none⟩)), (30, g.v (g.sl ag cg)), (32, c.v (c.sl ah ch)), (34, g.v (g.sl ag cg)), (36, c.v (c.sl ah ch))], (b10, cel 63 ([.int .i64 0, .int .i64 0, .slice none 0 0])) :: (b9, cel 59 ([.int .i64 0, .int .i64 0, .slice none 0 0])) :: (b8, cel 28 ([.int .i64 0, .int .i64 0, .slice none 0 0])) :: (b7, cel 25 ([.int .i64 0, .int .i64 0, .slice none 0 0])) :: (b4, cel 28 (ctl c (c.sl ah ch))) :: (b3, cel 25 (gtl g (g.sl ag cg))) :: H, RowsA a4 5 (hrows c.hs) :: RowsA a3 5 (grows g.grs) :: RowsA a2 5 (hrows c.hs) :: RowsA a1 5 (grows g.grs) :: R, [])) (fun v9 => ?_) (fun h1111111111110000 => ?_)
 obtain ⟨a1, c1, a2, c2, a3, c3, a4, c4, b7, b8, b9, b10⟩ := v9
 dsimp only
 unfold pl5_3_1111111111110000
 refine sto rfl rfl rfl cn25 rfl rfl rfl rfl ?_
 refine bg (fun w hs => trivial) ?_
 refine sto rfl rfl rfl cn28 rfl rfl rfl rfl ?_
 refine bg (fun w hs => trivial) ?_
 refine sto rfl rfl rfl cn59 rfl rfl rfl rfl ?_
 refine bg (fun w hs => trivial) ?_
 refine sto rfl rfl rfl cn63 rfl rfl rfl rfl ?_
 refine bg (fun w hs => trivial) ?_
 refine sy_seq ?_
 refine sy_tx' [0, 1, 2, 3] rfl ?_
 refine spL rfl rfl (lhA [_, _, _] ag59 rfl rfl rfl) rfl ?_
 refine spL rfl rfl (lhA [_, _, _] ag63 rfl rfl rfl) rfl ?_
 refine clV rfl cal29 rfl rfl (c_rBoth g a3 c3 (by omega) c a4 c4 (by omega) _ _) ?_
 refine sp rfl (PE.assign rfl) rfl ?_
 refine sy_seq ?_
 refine sy_tx' [0, 1, 2, 3] rfl ?_
 refine sp rfl (PE.move rfl) rfl ?_
 refine sp rfl (PE.move rfl) rfl ?_
 refine sp rfl (PE.assign rfl) rfl ?_
 refine sp rfl (PE.assign rfl) rfl ?_
 refine sy_seq ?_
 refine sy_tx' [0] rfl ?_
 refine sp rfl (PE.assign rfl) rfl ?_
 refine sy_seq ?_
 refine sy_tx' [0] rfl ?_
 refine alc rfl zl41 rfl (fun b15 => ?_)
 refine sy_seq ?_
 refine sy_tx' [0] rfl ?_
 refine sp rfl (PE.assign rfl) rfl ?_
 refine sy_seq ?_
 refine sy_seq ?_
 refine sy_tx' [0, 1] rfl ?_
 refine sp rfl (PE.move rfl) rfl ?_
 refine sp rfl (PE.eql rfl rfl) rfl ?_
 refine sy_join (ι := Option Addr × Nat) (fun x => ⟨[(2, .int .i64 gr), (3, .pointer (some ⟨b3, 0, none⟩)), (4, .pointer (some ⟨b4, 0, none⟩)), (7, .pointer (some ⟨b7, 0, none⟩)), (8, .pointer (some ⟨b8, 0, none⟩)), (9, .pointer (some ⟨b9, 0, none⟩)), (10, .pointer (some ⟨b10, 0, none⟩)), (15, .pointer (some ⟨b15, 0, none⟩)), (11, .int .i64 (toldE g c false)), (13, .int .i64 (showR g c gr).2), (12, .int .i64 (sureR g c).2), (14, .slice x.1 (canR g c).length x.2), (16, .int .i64 (sureR g c).1)], (b15, cel 41 [.int .i64 (payP g c).1, .int .i64 (payP g c).2]) :: (b10, cel 63 (ctl c (c.sl a4 c4))) :: (b9, cel 59 (gtl g (g.sl a3 c3))) :: (b8, cel 28 (ctl c (c.sl a2 c2))) :: (b7, cel 25 (gtl g (g.sl a1 c1.1))) :: (b4, cel 28 (ctl c (c.sl ah ch))) :: (b3, cel 25 (gtl g (g.sl ag cg))) :: H, RowsA x.1 1 (irows (canR g c)) :: RowsA a4 5 (hrows c.hs) :: RowsA a3 5 (grows g.grs) :: RowsA a2 5 (hrows c.hs) :: RowsA a1 5 (grows g.grs) :: R⟩) ?_ ?_
 refine sy_cond rfl (fun hc1 => ?_) (fun hc1 => ?_)
 have hw0 : bothE g c = 0 := by simpa using hc1
 obtain ⟨hgo, hco⟩ := both_ok hw0
 have hmany := hgo.many
 refine sy_seq ?_
 refine sy_seq ?_
 refine sy_tx' [0, 1, 2, 3, 4, 5] rfl ?_
 refine spL rfl rfl (lhA [_, _, _] ag59 rfl rfl rfl) rfl ?_
 refine spL rfl rfl (lhA [_, _, _] ag63 rfl rfl rfl) rfl ?_
 refine cl rfl cal30 rfl rfl (c_All g hgo.miss (g.sl a3 c3) c hco a4 c4 _ _) ?_
 rintro _ _ R1 ⟨ms, bq, aa, cc, hms, hml, rfl, rfl, hR1⟩
 obtain rfl := hR1.symm
 clear hR1
 refine Sy.heap (fun w h => St.also h (f := RowsA (aa 0) 4 (mrows (partS g.miss c.hs ms 0))) (fun w' hg => hg (fun w => ∀ s < 64, RowsA (aa s) 4 (mrows (partS g.miss c.hs ms s)) w) (by simp) 0 (by decide))) ?_
 obtain ⟨l, hl⟩ : ∃ l, l = partS g.miss c.hs ms 0 := ⟨_, rfl⟩
 obtain ⟨hl1, hl2, hl3, hl4⟩ := all_link hw0 hms hl
 refine sp rfl (PE.indexAddr el67 rfl rfl (by omega) (by omega)) rfl ?_
 refine spL rfl rfl (lf0 (x := .slice (aa 0) (partS g.miss c.hs ms 0).length (cc 0)) sc66 (by rfl) rfl) rfl ?_
 refine sp rfl (PE.assign rfl) rfl ?_
 refine sy_seq ?_
 refine sy_tx' [0, 1, 2] rfl ?_
 rw [← hl]
 refine sp rfl (PE.move rfl) rfl ?_
 refine sp rfl (PE.lenSl isl66 rfl) rfl ?_
 refine sp rfl (PE.gtr rfl rfl) rfl ?_
 refine sy_join (ι := Option Addr × Nat) (fun x => ⟨[(2, .int .i64 gr), (3, .pointer (some ⟨b3, 0, none⟩)), (4, .pointer (some ⟨b4, 0, none⟩)), (7, .pointer (some ⟨b7, 0, none⟩)), (8, .pointer (some ⟨b8, 0, none⟩)), (9, .pointer (some ⟨b9, 0, none⟩)), (10, .pointer (some ⟨b10, 0, none⟩)), (15, .pointer (some ⟨b15, 0, none⟩)), (11, .int .i64 (toldE g c false)), (14, .slice x.1 (canR g c).length x.2), (16, .int .i64 0)], (b15, cel 41 [.int .i64 (payP g c).1, .int .i64 (payP g c).2]) :: (b10, cel 63 (ctl c (c.sl a4 c4))) :: (b9, cel 59 (gtl g (g.sl a3 c3))) :: (b8, cel 28 (ctl c (c.sl a2 c2))) :: (b7, cel 25 (gtl g (g.sl a1 c1.1))) :: (b4, cel 28 (ctl c (c.sl ah ch))) :: (b3, cel 25 (gtl g (g.sl ag cg))) :: H, RowsA x.1 1 (irows (canR g c)) :: RowsA a4 5 (hrows c.hs) :: RowsA a3 5 (grows g.grs) :: RowsA a2 5 (hrows c.hs) :: RowsA a1 5 (grows g.grs) :: R⟩) ?_ ?_
 refine sy_cond rfl (fun hc2 => ?_) (fun hc2 => ?_)
 try simp only [decide_eq_true_eq, decide_eq_false_iff_not, Bool.and_eq_true, Bool.or_eq_true, Bool.not_eq_true', Int.not_le, Int.not_lt] at hc2
 obtain ⟨ht0, htt, hmm⟩ := hl3 (by omega)
 have hcr := can_ref htt.ok hmm (l := g.grs)
 rw [← can_told ht0] at hcr
 have hcl := canR_len g c
 have hcp := can_pos (l := g.grs) htt
 rw [← can_told ht0] at hcp
 rw [hw0]
 refine sy_seq ?_
 refine sy_tx' [0, 1, 2, 3] rfl ?_
 refine spL rfl rfl (lhA [_, _, _] ag59 rfl rfl rfl) rfl ?_
 refine sp rfl (PE.move rfl) rfl ?_
 refine cl rfl cal31 rfl rfl (c_rCan g a3 c3 (by omega) (by omega) l hl1 (by omega) (aa 0) (cc 0) _ _ (hA := (by rw [hl]; infer_instance))) ?_
 rintro _ _ R1 ⟨a9, c9, rfl, rfl, hR1⟩
 obtain rfl := hR1.symm
 clear hR1
 rw [hcr]
 refine sp rfl (PE.assign rfl) rfl ?_
 refine sy_tx' [0, 1, 2, 3, 4] rfl ?_
 refine spL rfl rfl (lhA [_, _, _] ag59 rfl rfl rfl) rfl ?_
 refine spL rfl rfl (lhA [_, _, _] ag63 rfl rfl rfl) rfl ?_
 refine sp rfl (PE.move rfl) rfl ?_
 refine cl rfl cal32 rfl rfl (c_rPay g a3 c3 (by omega) hgo c hco (c.sl a4 c4) (canR g c) can_rng (by omega) a9 c9 _ _) ?_
 rintro _ _ _ ⟨rfl, rfl, rfl⟩
 rw [pay_ref hcp (fun q => (prc_bd hgo q).2)]
 refine sto rfl rfl rfl cn41 rfl rfl rfl rfl ?_
 exact sy_jend (a9, c9) (by dsimp only; rw [ht0]; exact (by repeat' first | exact Sub.nil | apply Sub.cons | rfl | (simp [lk]; omega))) (fun w h => by dsimp only; rw [pay_ok ht0]; exact St.sub h)
 try simp only [decide_eq_true_eq, decide_eq_false_iff_not, Bool.and_eq_true, Bool.or_eq_true, Bool.not_eq_true', Int.not_le, Int.not_lt] at hc2
 have ht0 := hl4 (by omega)
 obtain ⟨e1, e2, e3⟩ := grd_err (g := g) (c := c) (by rw [ht0]; decide)
 refine sy_tx' [0] rfl ?_
 refine sp rfl (PE.assign rfl) rfl ?_
 refine Sy.heap (fun w h => St.norows (sz := 1) h) ?_
 exact sy_jend (none, 0) (by dsimp only; rw [e1, ht0]; exact (by repeat' first | exact Sub.nil | apply Sub.cons | rfl | (simp [lk]; omega))) (fun w h => by dsimp only; rw [e1, e3, show irows [] = ([] : List (List Value)) from rfl]; exact St.sub h)
 rintro ⟨a9, c9⟩
 dsimp only
 refine sy_seq ?_
 refine sy_seq ?_
 refine sy_tx' [0, 1] rfl ?_
 refine sp rfl (PE.move rfl) rfl ?_
 refine sp rfl (PE.assign rfl) rfl ?_
 refine sy_seq ?_
 refine sy_tx' [0, 1, 2] rfl ?_
 refine sp rfl (PE.move rfl) rfl ?_
 refine sp rfl (PE.lenSl isl34 rfl) rfl ?_
 refine sp rfl (PE.gtr rfl rfl) rfl ?_
 refine sy_join (ι := Unit) (fun _ => ⟨[(2, .int .i64 gr), (3, .pointer (some ⟨b3, 0, none⟩)), (4, .pointer (some ⟨b4, 0, none⟩)), (7, .pointer (some ⟨b7, 0, none⟩)), (8, .pointer (some ⟨b8, 0, none⟩)), (9, .pointer (some ⟨b9, 0, none⟩)), (10, .pointer (some ⟨b10, 0, none⟩)), (15, .pointer (some ⟨b15, 0, none⟩)), (11, .int .i64 (toldE g c false)), (12, .int .i64 (sureR g c).2), (14, .slice a9 (canR g c).length c9), (16, .int .i64 (sureR g c).1)], (b15, cel 41 [.int .i64 (payP g c).1, .int .i64 (payP g c).2]) :: (b10, cel 63 (ctl c (c.sl a4 c4))) :: (b9, cel 59 (gtl g (g.sl a3 c3))) :: (b8, cel 28 (ctl c (c.sl a2 c2))) :: (b7, cel 25 (gtl g (g.sl a1 c1.1))) :: (b4, cel 28 (ctl c (c.sl ah ch))) :: (b3, cel 25 (gtl g (g.sl ag cg))) :: H, RowsA a9 1 (irows (canR g c)) :: RowsA a4 5 (hrows c.hs) :: RowsA a3 5 (grows g.grs) :: RowsA a2 5 (hrows c.hs) :: RowsA a1 5 (grows g.grs) :: R⟩) ?_ ?_
 refine sy_cond rfl (fun hc3 => ?_) (fun hc3 => ?_)
 try simp only [decide_eq_true_eq, decide_eq_false_iff_not, Bool.and_eq_true, Bool.or_eq_true, Bool.not_eq_true', Int.not_le, Int.not_lt] at hc3
 have hsm := sure_many (g := g) (c := c) (by omega)
 refine sy_tx' [0] rfl ?_
 refine sp rfl (PE.assign rfl) rfl ?_
 exact sy_jend () (by dsimp only; rw [hsm]; exact (by repeat' first | exact Sub.nil | apply Sub.cons | rfl | (simp [lk]; omega))) (fun w h => by dsimp only; exact St.sub h)
 try simp only [decide_eq_true_eq, decide_eq_false_iff_not, Bool.and_eq_true, Bool.or_eq_true, Bool.not_eq_true', Int.not_le, Int.not_lt] at hc3
 refine sy_seq ?_
 refine sy_tx' [0, 1] rfl ?_
 refine sp rfl (PE.move rfl) rfl ?_
 refine sp rfl (PE.eql rfl rfl) rfl ?_
 refine sy_cond rfl (fun hc4 => ?_) (fun hc4 => ?_)
 try simp only [decide_eq_true_eq, decide_eq_false_iff_not, Bool.and_eq_true, Bool.or_eq_true, Bool.not_eq_true', Int.not_le, Int.not_lt] at hc4
 have ht0 : toldE g c false = 0 := by omega
 obtain ⟨x, hx, hsx⟩ := sure_one ht0 (by omega)
 refine sy_addr (a := a9) (sz := 1) (rows := irows (canR g c)) (by rw [hx]; simp) (fun b9x o9x hea => ?_)
 subst hea
 refine sy_tx' [0, 1, 2, 3] rfl ?_
 refine sp rfl (PE.move rfl) rfl ?_
 refine sp rfl (PE.indexAddr el34 rfl rfl (by omega) (by rw [hx]; show (0 : Int) < ((1 : Nat) : Int); omega)) rfl ?_
 refine spL rfl rfl (lf0 (x := .int .i64 x) sc3 (by rw [hx]; rfl) rfl) rfl ?_
 refine sp rfl (PE.assign rfl) rfl ?_
 exact sy_jend () (by dsimp only; rw [hsx, ht0]; exact (by repeat' first | exact Sub.nil | apply Sub.cons | rfl | (simp [lk]; omega))) (fun w h => by dsimp only; exact St.sub h)
 try simp only [decide_eq_true_eq, decide_eq_false_iff_not, Bool.and_eq_true, Bool.or_eq_true, Bool.not_eq_true', Int.not_le, Int.not_lt] at hc4
 obtain ⟨e1, e2, e3⟩ := grd_err (g := g) (c := c) (by omega)
 refine sy_skip ?_
 exact sy_jend () (by dsimp only; rw [e2]; exact (by repeat' first | exact Sub.nil | apply Sub.cons | rfl | (simp [lk]; omega))) (fun w h => by dsimp only; exact St.sub h)
 rintro ⟨⟩
 dsimp only
 refine sy_seq ?_
 refine sy_tx' [0] rfl ?_
 refine sp rfl (PE.assign rfl) rfl ?_
 refine sy_seq ?_
 refine sy_tx' [0, 1, 2, 3, 4, 5, 6, 7, 8] rfl ?_
 refine sp rfl (PE.move rfl) rfl ?_
 refine sp rfl (PE.geq rfl rfl) rfl ?_
 refine sp rfl (PE.move rfl) rfl ?_
 refine sy_case (t := 71) rfl (fun g71 => ?_) (fun g71 => ?_)
 try simp only [decide_eq_true_eq, decide_eq_false_iff_not, Bool.and_eq_true, Bool.or_eq_true, Bool.not_eq_true', Int.not_le, Int.not_lt] at g71
 refine spG rfl rfl rfl rfl (PE.move rfl) rfl ?_
 refine spG rfl rfl rfl rfl (PE.fieldAddr fo25_2 rfl) rfl ?_
 refine spLG rfl rfl rfl rfl rfl (lh sc23 rfl rfl) rfl ?_
 refine spG rfl rfl rfl rfl (PE.lenSl isl23 rfl) rfl ?_
 refine spG rfl rfl rfl rfl (PE.lss rfl rfl) rfl ?_
 refine sp rfl (PE.pick rfl rfl rfl) rfl ?_
 refine sy_join (ι := Unit) (fun _ => ⟨[(2, .int .i64 gr), (3, .pointer (some ⟨b3, 0, none⟩)), (4, .pointer (some ⟨b4, 0, none⟩)), (7, .pointer (some ⟨b7, 0, none⟩)), (8, .pointer (some ⟨b8, 0, none⟩)), (9, .pointer (some ⟨b9, 0, none⟩)), (10, .pointer (some ⟨b10, 0, none⟩)), (15, .pointer (some ⟨b15, 0, none⟩)), (11, .int .i64 (toldE g c false)), (13, .int .i64 (showR g c gr).2), (12, .int .i64 (sureR g c).2), (14, .slice a9 (canR g c).length c9), (16, .int .i64 (sureR g c).1)], (b15, cel 41 [.int .i64 (payP g c).1, .int .i64 (payP g c).2]) :: (b10, cel 63 (ctl c (c.sl a4 c4))) :: (b9, cel 59 (gtl g (g.sl a3 c3))) :: (b8, cel 28 (ctl c (c.sl a2 c2))) :: (b7, cel 25 (gtl g (g.sl a1 c1.1))) :: (b4, cel 28 (ctl c (c.sl ah ch))) :: (b3, cel 25 (gtl g (g.sl ag cg))) :: H, RowsA a9 1 (irows (canR g c)) :: RowsA a4 5 (hrows c.hs) :: RowsA a3 5 (grows g.grs) :: RowsA a2 5 (hrows c.hs) :: RowsA a1 5 (grows g.grs) :: R⟩) ?_ ?_
 refine sy_cond rfl (fun hc5 => ?_) (fun hc5 => ?_)
 try simp only [decide_eq_true_eq, decide_eq_false_iff_not, Bool.and_eq_true, Bool.or_eq_true, Bool.not_eq_true', Int.not_le, Int.not_lt] at hc5
 have hin : inb gr (-1) ((g.grs.length : Int) - 1) = true := by simp [inb]; omega
 have hcl := canR_len g c
 refine sy_seq ?_
 refine sy_tx' [0, 1] rfl ?_
 refine sp rfl (PE.move rfl) rfl ?_
 refine sp rfl (PE.assign rfl) rfl ?_
 refine sy_seq ?_
 refine sy_tx' [0, 1, 2, 3, 4, 5, 6, 7] rfl ?_
 refine sp rfl (PE.move rfl) rfl ?_
 refine sp rfl (PE.eql rfl rfl) rfl ?_
 refine sp rfl (PE.move rfl) rfl ?_
 refine sy_case (t := 81) rfl (fun g81 => ?_) (fun g81 => ?_)
 try simp only [decide_eq_true_eq, decide_eq_false_iff_not, Bool.and_eq_true, Bool.or_eq_true, Bool.not_eq_true', Int.not_le, Int.not_lt] at g81
 have ht0 : toldE g c false = 0 := by omega
 have hsi := show_in (gr := gr) ht0 (by omega)
 refine spG rfl rfl rfl rfl (PE.move rfl) rfl ?_
 refine spG rfl rfl rfl rfl (PE.move rfl) rfl ?_
 refine clVG rfl rfl rfl rfl cal33 rfl rfl (c_contains_int (canR g c) a9 c9 gr (by omega) _ _) ?_
 refine spG rfl rfl rfl rfl (PE.not rfl) rfl ?_
 refine sp rfl (PE.pick rfl rfl rfl) rfl ?_
 refine sy_cond rfl (fun hc6 => ?_) (fun hc6 => ?_)
 have hni : gr ∉ canR g c := by
   intro h9
   simp at hc6
   exact hc6 gr h9 rfl
 obtain ⟨_, hse⟩ := hsi.resolve_left (fun h => hni h.1)
 have es : (showR g c gr).2 = 6 := by rw [hse]
 refine sy_tx' [0] rfl ?_
 refine sp rfl (PE.assign rfl) rfl ?_
 exact sy_jend () (by dsimp only; rw [es]; exact (by repeat' first | exact Sub.nil | apply Sub.cons | rfl | (simp [lk]; omega))) (fun w h => by dsimp only; exact St.sub h)
 have hni : gr ∈ canR g c := by simpa using hc6
 obtain ⟨_, q9, hse, _⟩ := hsi.resolve_right (fun h => h.1 hni)
 have es : (showR g c gr).2 = toldE g c false := by rw [hse, ht0]
 refine sy_skip ?_
 exact sy_jend () (by dsimp only; rw [es]; exact (by repeat' first | exact Sub.nil | apply Sub.cons | rfl | (simp [lk]; omega))) (fun w h => by dsimp only; exact St.sub h)
 try simp only [decide_eq_true_eq, decide_eq_false_iff_not, Bool.and_eq_true, Bool.or_eq_true, Bool.not_eq_true', Int.not_le, Int.not_lt] at g81
 have es : (showR g c gr).2 = toldE g c false := by rw [show_err (by rw [hin]; exact g81), hin]; rfl
 repeat refine spN rfl rfl rfl rfl rfl rfl rfl rfl ?_
 refine sp rfl (PE.pick rfl rfl rfl) rfl ?_
 refine sy_condF rfl ?_
 refine sy_skip ?_
 exact sy_jend () (by dsimp only; rw [es]; exact (by repeat' first | exact Sub.nil | apply Sub.cons | rfl | (simp [lk]; omega))) (fun w h => by dsimp only; exact St.sub h)
 try simp only [decide_eq_true_eq, decide_eq_false_iff_not, Bool.and_eq_true, Bool.or_eq_true, Bool.not_eq_true', Int.not_le, Int.not_lt] at hc5
 have hin : inb gr (-1) ((g.grs.length : Int) - 1) = false := by simp [inb]; omega
 have es : (showR g c gr).2 = 1 := by
   have e9 : toldE g c (!(inb gr (-1) ((g.grs.length : Int) - 1))) = 1 := by rw [hin]; exact told_one hw0
   rw [show_err (by rw [e9]; decide), e9]
 refine sy_skip ?_
 exact sy_jend () (by dsimp only; rw [es]; exact (by repeat' first | exact Sub.nil | apply Sub.cons | rfl | (simp [lk]; omega))) (fun w h => by dsimp only; exact St.sub h)
 rintro ⟨⟩
 dsimp only
 exact sy_jend (a9, c9) (by dsimp only; exact (by repeat' first | exact Sub.nil | apply Sub.cons | rfl | (simp [lk]; omega))) (fun w h => by dsimp only; exact St.sub h)
 try simp only [decide_eq_true_eq, decide_eq_false_iff_not, Bool.and_eq_true, Bool.or_eq_true, Bool.not_eq_true', Int.not_le, Int.not_lt] at g71
 have hin : inb gr (-1) ((g.grs.length : Int) - 1) = false := by simp [inb]; omega
 have es : (showR g c gr).2 = 1 := by
   have e9 : toldE g c (!(inb gr (-1) ((g.grs.length : Int) - 1))) = 1 := by rw [hin]; exact told_one hw0
   rw [show_err (by rw [e9]; decide), e9]
 repeat refine spN rfl rfl rfl rfl rfl rfl rfl rfl ?_
 refine sp rfl (PE.pick rfl rfl rfl) rfl ?_
 refine sy_join (ι := Unit) (fun _ => ⟨[(2, .int .i64 gr), (3, .pointer (some ⟨b3, 0, none⟩)), (4, .pointer (some ⟨b4, 0, none⟩)), (7, .pointer (some ⟨b7, 0, none⟩)), (8, .pointer (some ⟨b8, 0, none⟩)), (9, .pointer (some ⟨b9, 0, none⟩)), (10, .pointer (some ⟨b10, 0, none⟩)), (15, .pointer (some ⟨b15, 0, none⟩)), (11, .int .i64 (toldE g c false)), (13, .int .i64 (showR g c gr).2), (12, .int .i64 (sureR g c).2), (14, .slice a9 (canR g c).length c9), (16, .int .i64 (sureR g c).1)], (b15, cel 41 [.int .i64 (payP g c).1, .int .i64 (payP g c).2]) :: (b10, cel 63 (ctl c (c.sl a4 c4))) :: (b9, cel 59 (gtl g (g.sl a3 c3))) :: (b8, cel 28 (ctl c (c.sl a2 c2))) :: (b7, cel 25 (gtl g (g.sl a1 c1.1))) :: (b4, cel 28 (ctl c (c.sl ah ch))) :: (b3, cel 25 (gtl g (g.sl ag cg))) :: H, RowsA a9 1 (irows (canR g c)) :: RowsA a4 5 (hrows c.hs) :: RowsA a3 5 (grows g.grs) :: RowsA a2 5 (hrows c.hs) :: RowsA a1 5 (grows g.grs) :: R⟩) ?_ ?_
 refine sy_condF rfl ?_
 refine sy_skip ?_
 exact sy_jend () (by dsimp only; rw [es]; exact (by repeat' first | exact Sub.nil | apply Sub.cons | rfl | (simp [lk]; omega))) (fun w h => by dsimp only; exact St.sub h)
 rintro ⟨⟩
 dsimp only
 exact sy_jend (a9, c9) (by dsimp only; exact (by repeat' first | exact Sub.nil | apply Sub.cons | rfl | (simp [lk]; omega))) (fun w h => by dsimp only; exact St.sub h)
 have hw0 : bothE g c ≠ 0 := by simpa using hc1
 have ht0 := told_err hw0 false
 obtain ⟨e1, e2, e3⟩ := grd_err (g := g) (c := c) (by rw [ht0]; exact hw0)
 have es : (showR g c gr).2 = bothE g c := by rw [show_err (by rw [told_err hw0]; exact hw0), told_err hw0]
 refine sy_skip ?_
 refine Sy.heap (fun w h => St.norows (sz := 1) h) ?_
 exact sy_jend (none, 0) (by dsimp only; rw [e1, e2, es, ht0]; exact (by repeat' first | exact Sub.nil | apply Sub.cons | rfl | (simp [lk]; omega))) (fun w h => by dsimp only; rw [e1, e3, show irows [] = ([] : List (List Value)) from rfl]; exact St.sub h)
 rintro ⟨a9, c9⟩
 dsimp only
 refine sy_seq ?_
 refine sy_tx' [0, 1, 2, 3, 4, 5, 6, 7] rfl ?_
 refine spL rfl rfl (lhA [_, _, _] ag25 rfl rfl rfl) rfl ?_
 refine spL rfl rfl (lhA [_, _, _] ag28 rfl rfl rfl) rfl ?_
 refine cl rfl cal15 rfl rfl (c_Can g a1 c1.1 (by omega) c1.2 c a2 c2 (by omega) _ _) ?_
 rintro _ _ R1 ⟨o, rfl, rfl, hR1⟩
 obtain rfl := hR1.symm
 clear hR1
 obtain ⟨a8, c8, he, hf⟩ := o.freeze
 rw [he]
 refine Sy.heap (fun w h => hf h) ?_
 rw [show ∀ l : List Int, (irows l).length = l.length from fun l => List.length_map _]
 clear he hf
 have hcl := canR_len g c
 obtain ⟨hsl, hsz, hso⟩ := show_len g c gr
 refine sp rfl (PE.move rfl) rfl ?_
 refine sp rfl (PE.extract rfl rfl) rfl ?_
 refine sp rfl (PE.extract rfl rfl) rfl ?_
 refine sp rfl (PE.assign rfl) rfl ?_
 refine sp rfl (PE.assign rfl) rfl ?_
 refine sy_seq ?_
 refine sy_tx' [0, 1, 2, 3, 4, 5, 6, 7] rfl ?_
 refine spL rfl rfl (lhA [_, _, _] ag25 rfl rfl rfl) rfl ?_
 refine spL rfl rfl (lhA [_, _, _] ag28 rfl rfl rfl) rfl ?_
 refine clV rfl cal16 rfl rfl (c_Sure g a1 c1.1 (by omega) c1.2 c a2 c2 (by omega) _ _) ?_
 refine sp rfl (PE.move rfl) rfl ?_
 refine sp rfl (PE.extract rfl rfl) rfl ?_
 refine sp rfl (PE.extract rfl rfl) rfl ?_
 refine sp rfl (PE.assign rfl) rfl ?_
 refine sp rfl (PE.assign rfl) rfl ?_
 refine sy_seq ?_
 refine sy_tx' [0, 1, 2, 3, 4, 5, 6, 7, 8, 9] rfl ?_
 refine spL rfl rfl (lhA [_, _, _] ag25 rfl rfl rfl) rfl ?_
 refine spL rfl rfl (lhA [_, _, _] ag28 rfl rfl rfl) rfl ?_
 refine sp rfl (PE.move rfl) rfl ?_
 refine cl rfl cal34 rfl rfl (c_Show g a1 c1.1 (by omega) c1.2 c a2 c2 (by omega) gr _ _) ?_
 rintro _ _ _ ⟨rfl, rfl, rfl⟩
 refine sp rfl (PE.move rfl) rfl ?_
 refine sp rfl (PE.extract rfl rfl) rfl ?_
 refine sp rfl (PE.extract rfl rfl) rfl ?_
 refine alc rfl zl29 rfl (fun b22 => ?_)
 refine stoA rfl rfl rfl cn29 rfl (by rw [ints_length]; exact hsl) rfl (ints_one _) ?_
 refine sp rfl (PE.assign rfl) rfl ?_
 refine sy_seq ?_
 refine sy_tx' [0, 1, 2, 3, 4, 5, 6, 7, 8] rfl ?_
 refine spL rfl rfl (lhA [_, _, _] ag25 rfl rfl rfl) rfl ?_
 refine spL rfl rfl (lhA [_, _, _] ag28 rfl rfl rfl) rfl ?_
 refine cl rfl cal17 rfl rfl (c_Pay g a1 c1.1 (by omega) c1.2 c a2 c2 (by omega) _ _) ?_
 rintro _ _ _ ⟨rfl, rfl, rfl⟩
 rw [payR_eq]
 refine sp rfl (PE.move rfl) rfl ?_
 refine sp rfl (PE.extract rfl rfl) rfl ?_
 refine sp rfl (PE.extract rfl rfl) rfl ?_
 refine alc rfl zl41 rfl (fun b24 => ?_)
 refine sto rfl rfl rfl cn41 rfl rfl rfl rfl ?_
 refine sp rfl (PE.assign rfl) rfl ?_
 refine sy_seq ?_
 refine sy_seq ?_
 refine sy_tx' [0, 1, 2, 3, 4, 5, 6, 7, 8, 9, 10, 11, 12, 13, 14, 15, 16, 17, 18, 19, 20, 21, 22, 23, 24, 25, 26, 27, 28, 29, 30, 31, 32, 33] rfl ?_
 refine sp rfl (PE.move rfl) rfl ?_
 refine sp rfl (PE.move rfl) rfl ?_
 refine sp rfl (PE.neq rfl rfl) rfl ?_
 refine sp rfl (PE.move rfl) rfl ?_
 refine sy_case (t := 115) rfl (fun g115 => ?_) (fun g115 => ?_)
 exact absurd g115 (by simp)
 refine spG rfl rfl rfl rfl (PE.move rfl) rfl ?_
 refine spG rfl rfl rfl rfl (PE.move rfl) rfl ?_
 refine spG rfl rfl rfl rfl (PE.neq rfl rfl) rfl ?_
 refine sp rfl (PE.pick rfl rfl rfl) rfl ?_
 refine sp rfl (PE.move rfl) rfl ?_
 refine sy_case (t := 120) rfl (fun g120 => ?_) (fun g120 => ?_)
 exact absurd g120 (by simp)
 refine spG rfl rfl rfl rfl (PE.move rfl) rfl ?_
 refine spG rfl rfl rfl rfl (PE.move rfl) rfl ?_
 refine spG rfl rfl rfl rfl (PE.neq rfl rfl) rfl ?_
 refine sp rfl (PE.pick rfl rfl rfl) rfl ?_
 refine sp rfl (PE.move rfl) rfl ?_
 refine sy_case (t := 125) rfl (fun g125 => ?_) (fun g125 => ?_)
 exact absurd g125 (by simp)
 refine spG rfl rfl rfl rfl (PE.move rfl) rfl ?_
 refine spG rfl rfl rfl rfl (PE.move rfl) rfl ?_
 refine spG rfl rfl rfl rfl (PE.neq rfl rfl) rfl ?_
 refine sp rfl (PE.pick rfl rfl rfl) rfl ?_
 refine sp rfl (PE.move rfl) rfl ?_
 refine sy_case (t := 130) rfl (fun g130 => ?_) (fun g130 => ?_)
 exact absurd g130 (by simp)
 refine spG rfl rfl rfl rfl (PE.move rfl) rfl ?_
 refine spG rfl rfl rfl rfl (PE.move rfl) rfl ?_
 refine clVG rfl rfl rfl rfl cal35 rfl rfl (c_Eq_int (canR g c) (canR g c) a8 a9 c8 c9 (by omega) (by omega) _ _) ?_
 refine spG rfl rfl rfl rfl (PE.not rfl) rfl ?_
 refine sp rfl (PE.pick rfl rfl rfl) rfl ?_
 refine sp rfl (PE.move rfl) rfl ?_
 refine sy_case (t := 136) rfl (fun g136 => ?_) (fun g136 => ?_)
 exact absurd g136 (by simp)
 refine spG rfl rfl rfl rfl (PE.move rfl) rfl ?_
 refine spG rfl rfl rfl rfl (PE.move rfl) rfl ?_
 refine spG rfl rfl rfl rfl (PE.neq rfl rfl) rfl ?_
 refine sp rfl (PE.pick rfl rfl rfl) rfl ?_
 refine sp rfl (PE.move rfl) rfl ?_
 refine sy_case (t := 141) rfl (fun g141 => ?_) (fun g141 => ?_)
 exact absurd g141 (by simp)
 refine spLG rfl rfl rfl rfl rfl (lhA [_, _] ag41 rfl rfl rfl) rfl ?_
 refine spLG rfl rfl rfl rfl rfl (lhA [_, _] ag41 rfl rfl rfl) rfl ?_
 refine spG rfl rfl rfl rfl (PE.neqAgg [(payP g c).1, (payP g c).2] [(payP g c).1, (payP g c).2] (eqB_ok 10000 41 true 2 eqf41) eqg41 rfl rfl rfl rfl) rfl ?_
 refine sp rfl (PE.pick rfl rfl rfl) rfl ?_
 refine sy_cond rfl (fun hc7 => ?_) (fun hc7 => ?_)
 exact absurd hc7 (by first | (simp; done) | (rw [decide_eq_false (by omega)]; simp))
 refine sy_skip ?_
 refine sy_seq ?_
 refine sy_seq ?_
 refine sy_tx' [0, 1] rfl ?_
 refine sp rfl (PE.move rfl) rfl ?_
 refine sp rfl (PE.neq rfl rfl) rfl ?_
 refine sy_cond rfl (fun hc8 => ?_) (fun hc8 => ?_)
 try simp only [decide_eq_true_eq, decide_eq_false_iff_not, Bool.and_eq_true, Bool.or_eq_true, Bool.not_eq_true', Int.not_le, Int.not_lt] at hc8
 rw [hsz (by omega)]
 refine sy_seq ?_
 refine sy_tx' [0, 1, 2, 3, 4, 5, 6] rfl ?_
 refine spL rfl rfl (lhA (ints ([0, 0, 0, 0])) ag29 rfl (rest := []) (by rw [List.append_nil]; rfl) (by rw [ints_length]; exact rfl)) rfl ?_
 refine sp rfl (PE.zero (.inr (by rw [ar29]; rfl)) zl29) rfl ?_
 refine sp rfl (PE.eqlAgg [0, 0, 0, 0] [0, 0, 0, 0] (eqB_ok 10000 29 true 4 eqf29) eqg29 rfl rfl rfl rfl) rfl ?_
 refine sp rfl (PE.move rfl) rfl ?_
 refine sy_case (t := 151) rfl (fun g151 => ?_) (fun g151 => ?_)
 refine clVG rfl rfl rfl rfl cal22 rfl rfl (c_awake _ _) ?_
 refine sp rfl (PE.pick rfl rfl rfl) rfl ?_
 refine sp rfl (PE.assign rfl) rfl ?_
 refine sy_ret ?_
 exact sy_return (vs := [_]) rfl (.cons (RV.tmp rfl) .nil) rfl ⟨rfl, rfl, rfl⟩ drp
 exact absurd g151 (by simp)
 try simp only [decide_eq_true_eq, decide_eq_false_iff_not, Bool.and_eq_true, Bool.or_eq_true, Bool.not_eq_true', Int.not_le, Int.not_lt] at hc8
 obtain ⟨hmx, hma, hmh, hme⟩ := hso (by omega)
 obtain ⟨hgo, hco⟩ := both_ok (told_0 (show_rng (g := g) (c := c) (gr := gr) (by omega)).1).1
 refine sy_skip ?_
 refine sy_seq ?_
 refine sy_tx' [0, 1, 2, 3, 4, 5, 6, 7, 8, 9, 10, 11, 12, 13, 14, 15, 16, 17, 18, 19, 20, 21, 22, 23, 24, 25, 26, 27, 28, 29] rfl ?_
 refine spL rfl rfl (lhA (ints ((showR g c gr).1)) ag29 rfl (rest := []) (by rw [List.append_nil]; rfl) (by rw [ints_length]; exact hmx.len)) rfl ?_
 refine cl rfl cal36 rfl rfl (c_rMixed (showR g c gr).1 hmx.len _ _) ?_
 rintro _ _ _ ⟨rfl, rfl, rfl⟩
 rw [hme]
 refine sp rfl (PE.eql rfl rfl) rfl ?_
 refine sp rfl (PE.move rfl) rfl ?_
 refine sy_case (t := 157) rfl (fun g157 => ?_) (fun g157 => ?_)
 refine spLG rfl rfl rfl rfl rfl (lhA [_, _, _] ag59 rfl rfl rfl) rfl ?_
 refine spLG rfl rfl rfl rfl rfl (lhA [_, _, _] ag63 rfl rfl rfl) rfl ?_
 refine spLG rfl rfl rfl rfl rfl (lhA (ints ((showR g c gr).1)) ag29 rfl (rest := []) (by rw [List.append_nil]; rfl) (by rw [ints_length]; exact hmx.len)) rfl ?_
 refine clG rfl rfl rfl rfl cal37 rfl rfl (c_rFits g hgo.miss (g.sl a3 c3) c hco a4 c4 (showR g c gr).1 hmx _ _) ?_
 rintro _ _ _ ⟨rfl, rfl, rfl⟩
 rw [hma]
 refine sp rfl (PE.pick rfl rfl rfl) rfl ?_
 refine sp rfl (PE.move rfl) rfl ?_
 refine sy_case (t := 163) rfl (fun g163 => ?_) (fun g163 => ?_)
 refine spLG rfl rfl rfl rfl rfl (lhA [_, _, _] ag59 rfl rfl rfl) rfl ?_
 refine spLG rfl rfl rfl rfl rfl (lhA (ints ((showR g c gr).1)) ag29 rfl (rest := []) (by rw [List.append_nil]; rfl) (by rw [ints_length]; exact hmx.len)) rfl ?_
 refine clG rfl rfl rfl rfl cal38 rfl rfl (c_rHas g a3 c3 (by omega) (by omega) (showR g c gr).1 hmx _ _) ?_
 rintro _ _ _ ⟨rfl, rfl, rfl⟩
 rw [hmh]
 refine spG rfl rfl rfl rfl (PE.move rfl) rfl ?_
 refine spG rfl rfl rfl rfl (PE.eql rfl rfl) rfl ?_
 refine sp rfl (PE.pick rfl rfl rfl) rfl ?_
 refine sp rfl (PE.move rfl) rfl ?_
 refine sy_case (t := 170) rfl (fun g170 => ?_) (fun g170 => ?_)
 refine spLG rfl rfl rfl rfl rfl (lhA [_, _, _] ag25 rfl rfl rfl) rfl ?_
 refine spLG rfl rfl rfl rfl rfl (lhA [_, _, _] ag25 rfl rfl rfl) rfl ?_
 refine clVG rfl rfl rfl rfl cal39 rfl rfl (c_same g a1 ag c1.1 cg (by omega) _ _) ?_
 refine sp rfl (PE.pick rfl rfl rfl) rfl ?_
 refine sp rfl (PE.move rfl) rfl ?_
 refine sy_case (t := 175) rfl (fun g175 => ?_) (fun g175 => ?_)
 refine spLG rfl rfl rfl rfl rfl (lhA [_, _, _] ag28 rfl rfl rfl) rfl ?_
 refine spLG rfl rfl rfl rfl rfl (lhA [_, _, _] ag28 rfl rfl rfl) rfl ?_
 refine clVG rfl rfl rfl rfl cal40 rfl rfl (c_alike c a2 ah c2 ch (by omega) _ _) ?_
 refine sp rfl (PE.pick rfl rfl rfl) rfl ?_
 refine sp rfl (PE.move rfl) rfl ?_
 refine sy_case (t := 180) rfl (fun g180 => ?_) (fun g180 => ?_)
 refine clVG rfl rfl rfl rfl cal22 rfl rfl (c_awake _ _) ?_
 refine sp rfl (PE.pick rfl rfl rfl) rfl ?_
 refine sp rfl (PE.assign rfl) rfl ?_
 refine sy_ret ?_
 exact sy_return (vs := [_]) rfl (.cons (RV.tmp rfl) .nil) rfl ⟨rfl, rfl, rfl⟩ drp
 exact absurd g180 (by simp)
 exact absurd g175 (by simp)
 exact absurd g170 (by simp)
 exact absurd g163 (by simp)
 exact absurd g157 (by simp)
 refine sy_have (β := Option Addr × {n : Nat // g.grs.length ≤ n} × Option Addr × Nat × Option Addr × Nat × Option Addr × Nat × Nat × Nat × Nat) pl5_3_1111111111100000 (fun ⟨a1, c1, a2, c2, a3, c3, a4, c4, b7, b8, b9⟩ => ([(9, .pointer (some ⟨b9, 0, none⟩)), (8, .pointer (some ⟨b8, 0, none⟩)), (7, .pointer (some ⟨b7, 0, none⟩)), (37, c.v (c.sl a4 c4)), (35, g.v (g.sl a3 c3)), (33, c.v (c.sl a2 c2)), (31, g.v (g.sl a1 c1.1)), (2, .int .i64 gr), (3, .pointer (some ⟨b3, 0, none⟩)), (4, .pointer (some ⟨b4, 0, none⟩)), (30, g.v (g.sl ag cg)), (32, c.v (c.sl ah ch)), (34, g.v (g.sl ag cg)), (36, c.v (c.sl ah ch))], (b9, cel 59 ([.int .i64 0, .int .i64 0, .slice none 0 0])) :: (b8, cel 28 ([.int .i64 0, .int .i64 0, .slice none 0 0])) :: (b7, cel 25 ([.int .i64 0, .int .i64 0, .slice none 0 0])) :: (b4, cel 28 (ctl c (c.sl ah ch))) :: (b3, cel 25 (gtl g (g.sl ag cg))) :: H, RowsA a4 5 (hrows c.hs) :: RowsA a3 5 (grows g.grs) :: RowsA a2 5 (hrows c.hs) :: RowsA a1 5 (grows g.grs) :: R, [])) (fun v9 => ?_) (fun h1111111111100000 => ?_)
 obtain ⟨a1, c1, a2, c2, a3, c3, a4, c4, b7, b8, b9⟩ := v9
 dsimp only
 unfold pl5_3_1111111111100000
 refine alc rfl zl63 rfl (fun b10 => ?_)
 refine bg (fun w hs => trivial) ?_
 exact sy_to (h1111111111110000 (a1, c1, a2, c2, a3, c3, a4, c4, b7, b8, b9, b10)) (by repeat' first | exact Sub.nil | apply Sub.cons | rfl | (simp [lk]; omega)) (fun _ h => St.sub ((((h.pull b7).pull b8).pull b9).pull b10))
 refine sy_have (β := Option Addr × {n : Nat // g.grs.length ≤ n} × Option Addr × Nat × Option Addr × Nat × Option Addr × Nat × Nat × Nat × Nat) pl5_3_1111111111010000 (fun ⟨a1, c1, a2, c2, a3, c3, a4, c4, b7, b8, b10⟩ => ([(10, .pointer (some ⟨b10, 0, none⟩)), (8, .pointer (some ⟨b8, 0, none⟩)), (7, .pointer (some ⟨b7, 0, none⟩)), (37, c.v (c.sl a4 c4)), (35, g.v (g.sl a3 c3)), (33, c.v (c.sl a2 c2)), (31, g.v (g.sl a1 c1.1)), (2, .int .i64 gr), (3, .pointer (some ⟨b3, 0, none⟩)), (4, .pointer (some ⟨b4, 0, none⟩)), (30, g.v (g.sl ag cg)), (32, c.v (c.sl ah ch)), (34, g.v (g.sl ag cg)), (36, c.v (c.sl ah ch))], (b10, cel 63 ([.int .i64 0, .int .i64 0, .slice none 0 0])) :: (b8, cel 28 ([.int .i64 0, .int .i64 0, .slice none 0 0])) :: (b7, cel 25 ([.int .i64 0, .int .i64 0, .slice none 0 0])) :: (b4, cel 28 (ctl c (c.sl ah ch))) :: (b3, cel 25 (gtl g (g.sl ag cg))) :: H, RowsA a4 5 (hrows c.hs) :: RowsA a3 5 (grows g.grs) :: RowsA a2 5 (hrows c.hs) :: RowsA a1 5 (grows g.grs) :: R, [])) (fun v9 => ?_) (fun h1111111111010000 => ?_)
 obtain ⟨a1, c1, a2, c2, a3, c3, a4, c4, b7, b8, b10⟩ := v9
 dsimp only
 unfold pl5_3_1111111111010000
 refine alc rfl zl59 rfl (fun b9 => ?_)
 refine bg (fun w hs => trivial) ?_
 exact sy_to (h1111111111110000 (a1, c1, a2, c2, a3, c3, a4, c4, b7, b8, b9, b10)) (by repeat' first | exact Sub.nil | apply Sub.cons | rfl | (simp [lk]; omega)) (fun _ h => St.sub ((((h.pull b7).pull b8).pull b9).pull b10))
 refine sy_have (β := Option Addr × {n : Nat // g.grs.length ≤ n} × Option Addr × Nat × Option Addr × Nat × Option Addr × Nat × Nat × Nat) pl5_3_1111111111000000 (fun ⟨a1, c1, a2, c2, a3, c3, a4, c4, b7, b8⟩ => ([(8, .pointer (some ⟨b8, 0, none⟩)), (7, .pointer (some ⟨b7, 0, none⟩)), (37, c.v (c.sl a4 c4)), (35, g.v (g.sl a3 c3)), (33, c.v (c.sl a2 c2)), (31, g.v (g.sl a1 c1.1)), (2, .int .i64 gr), (3, .pointer (some ⟨b3, 0, none⟩)), (4, .pointer (some ⟨b4, 0, none⟩)), (30, g.v (g.sl ag cg)), (32, c.v (c.sl ah ch)), (34, g.v (g.sl ag cg)), (36, c.v (c.sl ah ch))], (b8, cel 28 ([.int .i64 0, .int .i64 0, .slice none 0 0])) :: (b7, cel 25 ([.int .i64 0, .int .i64 0, .slice none 0 0])) :: (b4, cel 28 (ctl c (c.sl ah ch))) :: (b3, cel 25 (gtl g (g.sl ag cg))) :: H, RowsA a4 5 (hrows c.hs) :: RowsA a3 5 (grows g.grs) :: RowsA a2 5 (hrows c.hs) :: RowsA a1 5 (grows g.grs) :: R, [])) (fun v9 => ?_) (fun h1111111111000000 => ?_)
 obtain ⟨a1, c1, a2, c2, a3, c3, a4, c4, b7, b8⟩ := v9
 dsimp only
 unfold pl5_3_1111111111000000
 refine sy_any ?_
 refine sy_alt ?_ ?_
 refine alc rfl zl59 rfl (fun b9 => ?_)
 refine bg (fun w hs => trivial) ?_
 exact sy_to (h1111111111100000 (a1, c1, a2, c2, a3, c3, a4, c4, b7, b8, b9)) (by repeat' first | exact Sub.nil | apply Sub.cons | rfl | (simp [lk]; omega)) (fun _ h => St.sub (((h.pull b7).pull b8).pull b9))
 refine sy_alt ?_ ?_
 refine alc rfl zl63 rfl (fun b10 => ?_)
 refine bg (fun w hs => trivial) ?_
 exact sy_to (h1111111111010000 (a1, c1, a2, c2, a3, c3, a4, c4, b7, b8, b10)) (by repeat' first | exact Sub.nil | apply Sub.cons | rfl | (simp [lk]; omega)) (fun _ h => St.sub (((h.pull b7).pull b8).pull b10))
 exact sy_stop
 refine sy_have (β := Option Addr × {n : Nat // g.grs.length ≤ n} × Option Addr × Nat × Option Addr × Nat × Option Addr × Nat × Nat × Nat × Nat) pl5_3_1111111110110000 (fun ⟨a1, c1, a2, c2, a3, c3, a4, c4, b7, b9, b10⟩ => ([(10, .pointer (some ⟨b10, 0, none⟩)), (9, .pointer (some ⟨b9, 0, none⟩)), (7, .pointer (some ⟨b7, 0, none⟩)), (37, c.v (c.sl a4 c4)), (35, g.v (g.sl a3 c3)), (33, c.v (c.sl a2 c2)), (31, g.v (g.sl a1 c1.1)), (2, .int .i64 gr), (3, .pointer (some ⟨b3, 0, none⟩)), (4, .pointer (some ⟨b4, 0, none⟩)), (30, g.v (g.sl ag cg)), (32, c.v (c.sl ah ch)), (34, g.v (g.sl ag cg)), (36, c.v (c.sl ah ch))], (b10, cel 63 ([.int .i64 0, .int .i64 0, .slice none 0 0])) :: (b9, cel 59 ([.int .i64 0, .int .i64 0, .slice none 0 0])) :: (b7, cel 25 ([.int .i64 0, .int .i64 0, .slice none 0 0])) :: (b4, cel 28 (ctl c (c.sl ah ch))) :: (b3, cel 25 (gtl g (g.sl ag cg))) :: H, RowsA a4 5 (hrows c.hs) :: RowsA a3 5 (grows g.grs) :: RowsA a2 5 (hrows c.hs) :: RowsA a1 5 (grows g.grs) :: R, [])) (fun v9 => ?_) (fun h1111111110110000 => ?_)
 obtain ⟨a1, c1, a2, c2, a3, c3, a4, c4, b7, b9, b10⟩ := v9
 dsimp only
 unfold pl5_3_1111111110110000
 refine alc rfl zl28 rfl (fun b8 => ?_)
 refine bg (fun w hs => trivial) ?_
 exact sy_to (h1111111111110000 (a1, c1, a2, c2, a3, c3, a4, c4, b7, b8, b9, b10)) (by repeat' first | exact Sub.nil | apply Sub.cons | rfl | (simp [lk]; omega)) (fun _ h => St.sub ((((h.pull b7).pull b8).pull b9).pull b10))
 refine sy_have (β := Option Addr × {n : Nat // g.grs.length ≤ n} × Option Addr × Nat × Option Addr × Nat × Option Addr × Nat × Nat × Nat) pl5_3_1111111110100000 (fun ⟨a1, c1, a2, c2, a3, c3, a4, c4, b7, b9⟩ => ([(9, .pointer (some ⟨b9, 0, none⟩)), (7, .pointer (some ⟨b7, 0, none⟩)), (37, c.v (c.sl a4 c4)), (35, g.v (g.sl a3 c3)), (33, c.v (c.sl a2 c2)), (31, g.v (g.sl a1 c1.1)), (2, .int .i64 gr), (3, .pointer (some ⟨b3, 0, none⟩)), (4, .pointer (some ⟨b4, 0, none⟩)), (30, g.v (g.sl ag cg)), (32, c.v (c.sl ah ch)), (34, g.v (g.sl ag cg)), (36, c.v (c.sl ah ch))], (b9, cel 59 ([.int .i64 0, .int .i64 0, .slice none 0 0])) :: (b7, cel 25 ([.int .i64 0, .int .i64 0, .slice none 0 0])) :: (b4, cel 28 (ctl c (c.sl ah ch))) :: (b3, cel 25 (gtl g (g.sl ag cg))) :: H, RowsA a4 5 (hrows c.hs) :: RowsA a3 5 (grows g.grs) :: RowsA a2 5 (hrows c.hs) :: RowsA a1 5 (grows g.grs) :: R, [])) (fun v9 => ?_) (fun h1111111110100000 => ?_)
 obtain ⟨a1, c1, a2, c2, a3, c3, a4, c4, b7, b9⟩ := v9
 dsimp only
 unfold pl5_3_1111111110100000
 refine sy_any ?_
 refine sy_alt ?_ ?_
 refine alc rfl zl28 rfl (fun b8 => ?_)
 refine bg (fun w hs => trivial) ?_
 exact sy_to (h1111111111100000 (a1, c1, a2, c2, a3, c3, a4, c4, b7, b8, b9)) (by repeat' first | exact Sub.nil | apply Sub.cons | rfl | (simp [lk]; omega)) (fun _ h => St.sub (((h.pull b7).pull b8).pull b9))
 refine sy_alt ?_ ?_
 refine alc rfl zl63 rfl (fun b10 => ?_)
 refine bg (fun w hs => trivial) ?_
 exact sy_to (h1111111110110000 (a1, c1, a2, c2, a3, c3, a4, c4, b7, b9, b10)) (by repeat' first | exact Sub.nil | apply Sub.cons | rfl | (simp [lk]; omega)) (fun _ h => St.sub (((h.pull b7).pull b9).pull b10))
 exact sy_stop
 refine sy_have (β := Option Addr × {n : Nat // g.grs.length ≤ n} × Option Addr × Nat × Option Addr × Nat × Option Addr × Nat × Nat × Nat) pl5_3_1111111110010000 (fun ⟨a1, c1, a2, c2, a3, c3, a4, c4, b7, b10⟩ => ([(10, .pointer (some ⟨b10, 0, none⟩)), (7, .pointer (some ⟨b7, 0, none⟩)), (37, c.v (c.sl a4 c4)), (35, g.v (g.sl a3 c3)), (33, c.v (c.sl a2 c2)), (31, g.v (g.sl a1 c1.1)), (2, .int .i64 gr), (3, .pointer (some ⟨b3, 0, none⟩)), (4, .pointer (some ⟨b4, 0, none⟩)), (30, g.v (g.sl ag cg)), (32, c.v (c.sl ah ch)), (34, g.v (g.sl ag cg)), (36, c.v (c.sl ah ch))], (b10, cel 63 ([.int .i64 0, .int .i64 0, .slice none 0 0])) :: (b7, cel 25 ([.int .i64 0, .int .i64 0, .slice none 0 0])) :: (b4, cel 28 (ctl c (c.sl ah ch))) :: (b3, cel 25 (gtl g (g.sl ag cg))) :: H, RowsA a4 5 (hrows c.hs) :: RowsA a3 5 (grows g.grs) :: RowsA a2 5 (hrows c.hs) :: RowsA a1 5 (grows g.grs) :: R, [])) (fun v9 => ?_) (fun h1111111110010000 => ?_)
 obtain ⟨a1, c1, a2, c2, a3, c3, a4, c4, b7, b10⟩ := v9
 dsimp only
 unfold pl5_3_1111111110010000
 refine sy_any ?_
 refine sy_alt ?_ ?_
 refine alc rfl zl28 rfl (fun b8 => ?_)
 refine bg (fun w hs => trivial) ?_
 exact sy_to (h1111111111010000 (a1, c1, a2, c2, a3, c3, a4, c4, b7, b8, b10)) (by repeat' first | exact Sub.nil | apply Sub.cons | rfl | (simp [lk]; omega)) (fun _ h => St.sub (((h.pull b7).pull b8).pull b10))
 refine sy_alt ?_ ?_
 refine alc rfl zl59 rfl (fun b9 => ?_)
 refine bg (fun w hs => trivial) ?_
 exact sy_to (h1111111110110000 (a1, c1, a2, c2, a3, c3, a4, c4, b7, b9, b10)) (by repeat' first | exact Sub.nil | apply Sub.cons | rfl | (simp [lk]; omega)) (fun _ h => St.sub (((h.pull b7).pull b9).pull b10))
 exact sy_stop
 refine sy_have (β := Option Addr × {n : Nat // g.grs.length ≤ n} × Option Addr × Nat × Option Addr × Nat × Option Addr × Nat × Nat) pl5_3_1111111110000000 (fun ⟨a1, c1, a2, c2, a3, c3, a4, c4, b7⟩ => ([(7, .pointer (some ⟨b7, 0, none⟩)), (37, c.v (c.sl a4 c4)), (35, g.v (g.sl a3 c3)), (33, c.v (c.sl a2 c2)), (31, g.v (g.sl a1 c1.1)), (2, .int .i64 gr), (3, .pointer (some ⟨b3, 0, none⟩)), (4, .pointer (some ⟨b4, 0, none⟩)), (30, g.v (g.sl ag cg)), (32, c.v (c.sl ah ch)), (34, g.v (g.sl ag cg)), (36, c.v (c.sl ah ch))], (b7, cel 25 ([.int .i64 0, .int .i64 0, .slice none 0 0])) :: (b4, cel 28 (ctl c (c.sl ah ch))) :: (b3, cel 25 (gtl g (g.sl ag cg))) :: H, RowsA a4 5 (hrows c.hs) :: RowsA a3 5 (grows g.grs) :: RowsA a2 5 (hrows c.hs) :: RowsA a1 5 (grows g.grs) :: R, [])) (fun v9 => ?_) (fun h1111111110000000 => ?_)
 obtain ⟨a1, c1, a2, c2, a3, c3, a4, c4, b7⟩ := v9
 dsimp only
 unfold pl5_3_1111111110000000
 refine sy_any ?_
 refine sy_alt ?_ ?_
 refine alc rfl zl28 rfl (fun b8 => ?_)
 refine bg (fun w hs => trivial) ?_
 exact sy_to (h1111111111000000 (a1, c1, a2, c2, a3, c3, a4, c4, b7, b8)) (by repeat' first | exact Sub.nil | apply Sub.cons | rfl | (simp [lk]; omega)) (fun _ h => St.sub ((h.pull b7).pull b8))
 refine sy_alt ?_ ?_
 refine alc rfl zl59 rfl (fun b9 => ?_)
 refine bg (fun w hs => trivial) ?_
 exact sy_to (h1111111110100000 (a1, c1, a2, c2, a3, c3, a4, c4, b7, b9)) (by repeat' first | exact Sub.nil | apply Sub.cons | rfl | (simp [lk]; omega)) (fun _ h => St.sub ((h.pull b7).pull b9))
 refine sy_alt ?_ ?_
 refine alc rfl zl63 rfl (fun b10 => ?_)
 refine bg (fun w hs => trivial) ?_
 exact sy_to (h1111111110010000 (a1, c1, a2, c2, a3, c3, a4, c4, b7, b10)) (by repeat' first | exact Sub.nil | apply Sub.cons | rfl | (simp [lk]; omega)) (fun _ h => St.sub ((h.pull b7).pull b10))
 exact sy_stop
 refine sy_have (β := Option Addr × {n : Nat // g.grs.length ≤ n} × Option Addr × Nat × Option Addr × Nat × Option Addr × Nat × Nat × Nat × Nat) pl5_3_1111111101110000 (fun ⟨a1, c1, a2, c2, a3, c3, a4, c4, b8, b9, b10⟩ => ([(10, .pointer (some ⟨b10, 0, none⟩)), (9, .pointer (some ⟨b9, 0, none⟩)), (8, .pointer (some ⟨b8, 0, none⟩)), (37, c.v (c.sl a4 c4)), (35, g.v (g.sl a3 c3)), (33, c.v (c.sl a2 c2)), (31, g.v (g.sl a1 c1.1)), (2, .int .i64 gr), (3, .pointer (some ⟨b3, 0, none⟩)), (4, .pointer (some ⟨b4, 0, none⟩)), (30, g.v (g.sl ag cg)), (32, c.v (c.sl ah ch)), (34, g.v (g.sl ag cg)), (36, c.v (c.sl ah ch))], (b10, cel 63 ([.int .i64 0, .int .i64 0, .slice none 0 0])) :: (b9, cel 59 ([.int .i64 0, .int .i64 0, .slice none 0 0])) :: (b8, cel 28 ([.int .i64 0, .int .i64 0, .slice none 0 0])) :: (b4, cel 28 (ctl c (c.sl ah ch))) :: (b3, cel 25 (gtl g (g.sl ag cg))) :: H, RowsA a4 5 (hrows c.hs) :: RowsA a3 5 (grows g.grs) :: RowsA a2 5 (hrows c.hs) :: RowsA a1 5 (grows g.grs) :: R, [])) (fun v9 => ?_) (fun h1111111101110000 => ?_)
 obtain ⟨a1, c1, a2, c2, a3, c3, a4, c4, b8, b9, b10⟩ := v9
 dsimp only
 unfold pl5_3_1111111101110000
 refine alc rfl zl25 rfl (fun b7 => ?_)
 refine bg (fun w hs => trivial) ?_
 exact sy_to (h1111111111110000 (a1, c1, a2, c2, a3, c3, a4, c4, b7, b8, b9, b10)) (by repeat' first | exact Sub.nil | apply Sub.cons | rfl | (simp [lk]; omega)) (fun _ h => St.sub ((((h.pull b7).pull b8).pull b9).pull b10))
 refine sy_have (β := Option Addr × {n : Nat // g.grs.length ≤ n} × Option Addr × Nat × Option Addr × Nat × Option Addr × Nat × Nat × Nat) pl5_3_1111111101100000 (fun ⟨a1, c1, a2, c2, a3, c3, a4, c4, b8, b9⟩ => ([(9, .pointer (some ⟨b9, 0, none⟩)), (8, .pointer (some ⟨b8, 0, none⟩)), (37, c.v (c.sl a4 c4)), (35, g.v (g.sl a3 c3)), (33, c.v (c.sl a2 c2)), (31, g.v (g.sl a1 c1.1)), (2, .int .i64 gr), (3, .pointer (some ⟨b3, 0, none⟩)), (4, .pointer (some ⟨b4, 0, none⟩)), (30, g.v (g.sl ag cg)), (32, c.v (c.sl ah ch)), (34, g.v (g.sl ag cg)), (36, c.v (c.sl ah ch))], (b9, cel 59 ([.int .i64 0, .int .i64 0, .slice none 0 0])) :: (b8, cel 28 ([.int .i64 0, .int .i64 0, .slice none 0 0])) :: (b4, cel 28 (ctl c (c.sl ah ch))) :: (b3, cel 25 (gtl g (g.sl ag cg))) :: H, RowsA a4 5 (hrows c.hs) :: RowsA a3 5 (grows g.grs) :: RowsA a2 5 (hrows c.hs) :: RowsA a1 5 (grows g.grs) :: R, [])) (fun v9 => ?_) (fun h1111111101100000 => ?_)
 obtain ⟨a1, c1, a2, c2, a3, c3, a4, c4, b8, b9⟩ := v9
 dsimp only
 unfold pl5_3_1111111101100000
 refine sy_any ?_
 refine sy_alt ?_ ?_
 refine alc rfl zl25 rfl (fun b7 => ?_)
 refine bg (fun w hs => trivial) ?_
 exact sy_to (h1111111111100000 (a1, c1, a2, c2, a3, c3, a4, c4, b7, b8, b9)) (by repeat' first | exact Sub.nil | apply Sub.cons | rfl | (simp [lk]; omega)) (fun _ h => St.sub (((h.pull b7).pull b8).pull b9))
 refine sy_alt ?_ ?_
 refine alc rfl zl63 rfl (fun b10 => ?_)
 refine bg (fun w hs => trivial) ?_
 exact sy_to (h1111111101110000 (a1, c1, a2, c2, a3, c3, a4, c4, b8, b9, b10)) (by repeat' first | exact Sub.nil | apply Sub.cons | rfl | (simp [lk]; omega)) (fun _ h => St.sub (((h.pull b8).pull b9).pull b10))
 exact sy_stop
 refine sy_have (β := Option Addr × {n : Nat // g.grs.length ≤ n} × Option Addr × Nat × Option Addr × Nat × Option Addr × Nat × Nat × Nat) pl5_3_1111111101010000 (fun ⟨a1, c1, a2, c2, a3, c3, a4, c4, b8, b10⟩ => ([(10, .pointer (some ⟨b10, 0, none⟩)), (8, .pointer (some ⟨b8, 0, none⟩)), (37, c.v (c.sl a4 c4)), (35, g.v (g.sl a3 c3)), (33, c.v (c.sl a2 c2)), (31, g.v (g.sl a1 c1.1)), (2, .int .i64 gr), (3, .pointer (some ⟨b3, 0, none⟩)), (4, .pointer (some ⟨b4, 0, none⟩)), (30, g.v (g.sl ag cg)), (32, c.v (c.sl ah ch)), (34, g.v (g.sl ag cg)), (36, c.v (c.sl ah ch))], (b10, cel 63 ([.int .i64 0, .int .i64 0, .slice none 0 0])) :: (b8, cel 28 ([.int .i64 0, .int .i64 0, .slice none 0 0])) :: (b4, cel 28 (ctl c (c.sl ah ch))) :: (b3, cel 25 (gtl g (g.sl ag cg))) :: H, RowsA a4 5 (hrows c.hs) :: RowsA a3 5 (grows g.grs) :: RowsA a2 5 (hrows c.hs) :: RowsA a1 5 (grows g.grs) :: R, [])) (fun v9 => ?_) (fun h1111111101010000 => ?_)
 obtain ⟨a1, c1, a2, c2, a3, c3, a4, c4, b8, b10⟩ := v9
 dsimp only
 unfold pl5_3_1111111101010000
 refine sy_any ?_
 refine sy_alt ?_ ?_
 refine alc rfl zl25 rfl (fun b7 => ?_)
 refine bg (fun w hs => trivial) ?_
 exact sy_to (h1111111111010000 (a1, c1, a2, c2, a3, c3, a4, c4, b7, b8, b10)) (by repeat' first | exact Sub.nil | apply Sub.cons | rfl | (simp [lk]; omega)) (fun _ h => St.sub (((h.pull b7).pull b8).pull b10))
 refine sy_alt ?_ ?_
 refine alc rfl zl59 rfl (fun b9 => ?_)
 refine bg (fun w hs => trivial) ?_
 exact sy_to (h1111111101110000 (a1, c1, a2, c2, a3, c3, a4, c4, b8, b9, b10)) (by repeat' first | exact Sub.nil | apply Sub.cons | rfl | (simp [lk]; omega)) (fun _ h => St.sub (((h.pull b8).pull b9).pull b10))
 exact sy_stop
 refine sy_have (β := Option Addr × {n : Nat // g.grs.length ≤ n} × Option Addr × Nat × Option Addr × Nat × Option Addr × Nat × Nat) pl5_3_1111111101000000 (fun ⟨a1, c1, a2, c2, a3, c3, a4, c4, b8⟩ => ([(8, .pointer (some ⟨b8, 0, none⟩)), (37, c.v (c.sl a4 c4)), (35, g.v (g.sl a3 c3)), (33, c.v (c.sl a2 c2)), (31, g.v (g.sl a1 c1.1)), (2, .int .i64 gr), (3, .pointer (some ⟨b3, 0, none⟩)), (4, .pointer (some ⟨b4, 0, none⟩)), (30, g.v (g.sl ag cg)), (32, c.v (c.sl ah ch)), (34, g.v (g.sl ag cg)), (36, c.v (c.sl ah ch))], (b8, cel 28 ([.int .i64 0, .int .i64 0, .slice none 0 0])) :: (b4, cel 28 (ctl c (c.sl ah ch))) :: (b3, cel 25 (gtl g (g.sl ag cg))) :: H, RowsA a4 5 (hrows c.hs) :: RowsA a3 5 (grows g.grs) :: RowsA a2 5 (hrows c.hs) :: RowsA a1 5 (grows g.grs) :: R, [])) (fun v9 => ?_) (fun h1111111101000000 => ?_)
 obtain ⟨a1, c1, a2, c2, a3, c3, a4, c4, b8⟩ := v9
 dsimp only
 unfold pl5_3_1111111101000000
 refine sy_any ?_
 refine sy_alt ?_ ?_
 refine alc rfl zl25 rfl (fun b7 => ?_)
 refine bg (fun w hs => trivial) ?_
 exact sy_to (h1111111111000000 (a1, c1, a2, c2, a3, c3, a4, c4, b7, b8)) (by repeat' first | exact Sub.nil | apply Sub.cons | rfl | (simp [lk]; omega)) (fun _ h => St.sub ((h.pull b7).pull b8))
 refine sy_alt ?_ ?_
 refine alc rfl zl59 rfl (fun b9 => ?_)
 refine bg (fun w hs => trivial) ?_
 exact sy_to (h1111111101100000 (a1, c1, a2, c2, a3, c3, a4, c4, b8, b9)) (by repeat' first | exact Sub.nil | apply Sub.cons | rfl | (simp [lk]; omega)) (fun _ h => St.sub ((h.pull b8).pull b9))
 refine sy_alt ?_ ?_
 refine alc rfl zl63 rfl (fun b10 => ?_)
 refine bg (fun w hs => trivial) ?_
 exact sy_to (h1111111101010000 (a1, c1, a2, c2, a3, c3, a4, c4, b8, b10)) (by repeat' first | exact Sub.nil | apply Sub.cons | rfl | (simp [lk]; omega)) (fun _ h => St.sub ((h.pull b8).pull b10))
 exact sy_stop
 refine sy_have (β := Option Addr × {n : Nat // g.grs.length ≤ n} × Option Addr × Nat × Option Addr × Nat × Option Addr × Nat × Nat × Nat) pl5_3_1111111100110000 (fun ⟨a1, c1, a2, c2, a3, c3, a4, c4, b9, b10⟩ => ([(10, .pointer (some ⟨b10, 0, none⟩)), (9, .pointer (some ⟨b9, 0, none⟩)), (37, c.v (c.sl a4 c4)), (35, g.v (g.sl a3 c3)), (33, c.v (c.sl a2 c2)), (31, g.v (g.sl a1 c1.1)), (2, .int .i64 gr), (3, .pointer (some ⟨b3, 0, none⟩)), (4, .pointer (some ⟨b4, 0, none⟩)), (30, g.v (g.sl ag cg)), (32, c.v (c.sl ah ch)), (34, g.v (g.sl ag cg)), (36, c.v (c.sl ah ch))], (b10, cel 63 ([.int .i64 0, .int .i64 0, .slice none 0 0])) :: (b9, cel 59 ([.int .i64 0, .int .i64 0, .slice none 0 0])) :: (b4, cel 28 (ctl c (c.sl ah ch))) :: (b3, cel 25 (gtl g (g.sl ag cg))) :: H, RowsA a4 5 (hrows c.hs) :: RowsA a3 5 (grows g.grs) :: RowsA a2 5 (hrows c.hs) :: RowsA a1 5 (grows g.grs) :: R, [])) (fun v9 => ?_) (fun h1111111100110000 => ?_)
 obtain ⟨a1, c1, a2, c2, a3, c3, a4, c4, b9, b10⟩ := v9
 dsimp only
 unfold pl5_3_1111111100110000
 refine sy_any ?_
 refine sy_alt ?_ ?_
 refine alc rfl zl25 rfl (fun b7 => ?_)
 refine bg (fun w hs => trivial) ?_
 exact sy_to (h1111111110110000 (a1, c1, a2, c2, a3, c3, a4, c4, b7, b9, b10)) (by repeat' first | exact Sub.nil | apply Sub.cons | rfl | (simp [lk]; omega)) (fun _ h => St.sub (((h.pull b7).pull b9).pull b10))
 refine sy_alt ?_ ?_
 refine alc rfl zl28 rfl (fun b8 => ?_)
 refine bg (fun w hs => trivial) ?_
 exact sy_to (h1111111101110000 (a1, c1, a2, c2, a3, c3, a4, c4, b8, b9, b10)) (by repeat' first | exact Sub.nil | apply Sub.cons | rfl | (simp [lk]; omega)) (fun _ h => St.sub (((h.pull b8).pull b9).pull b10))
 exact sy_stop
 refine sy_have (β := Option Addr × {n : Nat // g.grs.length ≤ n} × Option Addr × Nat × Option Addr × Nat × Option Addr × Nat × Nat) pl5_3_1111111100100000 (fun ⟨a1, c1, a2, c2, a3, c3, a4, c4, b9⟩ => ([(9, .pointer (some ⟨b9, 0, none⟩)), (37, c.v (c.sl a4 c4)), (35, g.v (g.sl a3 c3)), (33, c.v (c.sl a2 c2)), (31, g.v (g.sl a1 c1.1)), (2, .int .i64 gr), (3, .pointer (some ⟨b3, 0, none⟩)), (4, .pointer (some ⟨b4, 0, none⟩)), (30, g.v (g.sl ag cg)), (32, c.v (c.sl ah ch)), (34, g.v (g.sl ag cg)), (36, c.v (c.sl ah ch))], (b9, cel 59 ([.int .i64 0, .int .i64 0, .slice none 0 0])) :: (b4, cel 28 (ctl c (c.sl ah ch))) :: (b3, cel 25 (gtl g (g.sl ag cg))) :: H, RowsA a4 5 (hrows c.hs) :: RowsA a3 5 (grows g.grs) :: RowsA a2 5 (hrows c.hs) :: RowsA a1 5 (grows g.grs) :: R, [])) (fun v9 => ?_) (fun h1111111100100000 => ?_)
 obtain ⟨a1, c1, a2, c2, a3, c3, a4, c4, b9⟩ := v9
 dsimp only
 unfold pl5_3_1111111100100000
 refine sy_any ?_
 refine sy_alt ?_ ?_
 refine alc rfl zl25 rfl (fun b7 => ?_)
 refine bg (fun w hs => trivial) ?_
 exact sy_to (h1111111110100000 (a1, c1, a2, c2, a3, c3, a4, c4, b7, b9)) (by repeat' first | exact Sub.nil | apply Sub.cons | rfl | (simp [lk]; omega)) (fun _ h => St.sub ((h.pull b7).pull b9))
 refine sy_alt ?_ ?_
 refine alc rfl zl28 rfl (fun b8 => ?_)
 refine bg (fun w hs => trivial) ?_
 exact sy_to (h1111111101100000 (a1, c1, a2, c2, a3, c3, a4, c4, b8, b9)) (by repeat' first | exact Sub.nil | apply Sub.cons | rfl | (simp [lk]; omega)) (fun _ h => St.sub ((h.pull b8).pull b9))
 refine sy_alt ?_ ?_
 refine alc rfl zl63 rfl (fun b10 => ?_)
 refine bg (fun w hs => trivial) ?_
 exact sy_to (h1111111100110000 (a1, c1, a2, c2, a3, c3, a4, c4, b9, b10)) (by repeat' first | exact Sub.nil | apply Sub.cons | rfl | (simp [lk]; omega)) (fun _ h => St.sub ((h.pull b9).pull b10))
 exact sy_stop
 refine sy_have (β := Option Addr × {n : Nat // g.grs.length ≤ n} × Option Addr × Nat × Option Addr × Nat × Option Addr × Nat × Nat) pl5_3_1111111100010000 (fun ⟨a1, c1, a2, c2, a3, c3, a4, c4, b10⟩ => ([(10, .pointer (some ⟨b10, 0, none⟩)), (37, c.v (c.sl a4 c4)), (35, g.v (g.sl a3 c3)), (33, c.v (c.sl a2 c2)), (31, g.v (g.sl a1 c1.1)), (2, .int .i64 gr), (3, .pointer (some ⟨b3, 0, none⟩)), (4, .pointer (some ⟨b4, 0, none⟩)), (30, g.v (g.sl ag cg)), (32, c.v (c.sl ah ch)), (34, g.v (g.sl ag cg)), (36, c.v (c.sl ah ch))], (b10, cel 63 ([.int .i64 0, .int .i64 0, .slice none 0 0])) :: (b4, cel 28 (ctl c (c.sl ah ch))) :: (b3, cel 25 (gtl g (g.sl ag cg))) :: H, RowsA a4 5 (hrows c.hs) :: RowsA a3 5 (grows g.grs) :: RowsA a2 5 (hrows c.hs) :: RowsA a1 5 (grows g.grs) :: R, [])) (fun v9 => ?_) (fun h1111111100010000 => ?_)
 obtain ⟨a1, c1, a2, c2, a3, c3, a4, c4, b10⟩ := v9
 dsimp only
 unfold pl5_3_1111111100010000
 refine sy_any ?_
 refine sy_alt ?_ ?_
 refine alc rfl zl25 rfl (fun b7 => ?_)
 refine bg (fun w hs => trivial) ?_
 exact sy_to (h1111111110010000 (a1, c1, a2, c2, a3, c3, a4, c4, b7, b10)) (by repeat' first | exact Sub.nil | apply Sub.cons | rfl | (simp [lk]; omega)) (fun _ h => St.sub ((h.pull b7).pull b10))
 refine sy_alt ?_ ?_
 refine alc rfl zl28 rfl (fun b8 => ?_)
 refine bg (fun w hs => trivial) ?_
 exact sy_to (h1111111101010000 (a1, c1, a2, c2, a3, c3, a4, c4, b8, b10)) (by repeat' first | exact Sub.nil | apply Sub.cons | rfl | (simp [lk]; omega)) (fun _ h => St.sub ((h.pull b8).pull b10))
 refine sy_alt ?_ ?_
 refine alc rfl zl59 rfl (fun b9 => ?_)
 refine bg (fun w hs => trivial) ?_
 exact sy_to (h1111111100110000 (a1, c1, a2, c2, a3, c3, a4, c4, b9, b10)) (by repeat' first | exact Sub.nil | apply Sub.cons | rfl | (simp [lk]; omega)) (fun _ h => St.sub ((h.pull b9).pull b10))
 exact sy_stop
 refine sy_have (β := Option Addr × {n : Nat // g.grs.length ≤ n} × Option Addr × Nat × Option Addr × Nat × Nat × Nat × Nat × Nat) pl5_3_1111111011110000 (fun ⟨a1, c1, a2, c2, a3, c3, b7, b8, b9, b10⟩ => ([(10, .pointer (some ⟨b10, 0, none⟩)), (9, .pointer (some ⟨b9, 0, none⟩)), (8, .pointer (some ⟨b8, 0, none⟩)), (7, .pointer (some ⟨b7, 0, none⟩)), (35, g.v (g.sl a3 c3)), (33, c.v (c.sl a2 c2)), (31, g.v (g.sl a1 c1.1)), (2, .int .i64 gr), (3, .pointer (some ⟨b3, 0, none⟩)), (4, .pointer (some ⟨b4, 0, none⟩)), (30, g.v (g.sl ag cg)), (32, c.v (c.sl ah ch)), (34, g.v (g.sl ag cg)), (36, c.v (c.sl ah ch))], (b10, cel 63 ([.int .i64 0, .int .i64 0, .slice none 0 0])) :: (b9, cel 59 ([.int .i64 0, .int .i64 0, .slice none 0 0])) :: (b8, cel 28 ([.int .i64 0, .int .i64 0, .slice none 0 0])) :: (b7, cel 25 ([.int .i64 0, .int .i64 0, .slice none 0 0])) :: (b4, cel 28 (ctl c (c.sl ah ch))) :: (b3, cel 25 (gtl g (g.sl ag cg))) :: H, RowsA a3 5 (grows g.grs) :: RowsA a2 5 (hrows c.hs) :: RowsA a1 5 (grows g.grs) :: R, [(6, Ld Try.prog 28 ⟨b4, 0, none⟩ (c.v (c.sl ah ch)))])) (fun v9 => ?_) (fun h1111111011110000 => ?_)
 obtain ⟨a1, c1, a2, c2, a3, c3, b7, b8, b9, b10⟩ := v9
 dsimp only
 unfold pl5_3_1111111011110000
 refine cl rfl cal28 rfl rfl (c_come c ah ch (by omega) _ _) ?_
 rintro _ _ R1 ⟨a4, c4, rfl, rfl, hR1⟩
 obtain rfl := hR1.symm
 clear hR1
 refine bg (fun w hs => ⟨trivial, trivial⟩) ?_
 exact sy_to (h1111111111110000 (a1, c1, a2, c2, a3, c3, a4, c4, b7, b8, b9, b10)) (by repeat' first | exact Sub.nil | apply Sub.cons | rfl | (simp [lk]; omega)) (fun _ h => St.sub ((((h.pull b7).pull b8).pull b9).pull b10))
 refine sy_have (β := Option Addr × {n : Nat // g.grs.length ≤ n} × Option Addr × Nat × Option Addr × Nat × Nat × Nat × Nat) pl5_3_1111111011100000 (fun ⟨a1, c1, a2, c2, a3, c3, b7, b8, b9⟩ => ([(9, .pointer (some ⟨b9, 0, none⟩)), (8, .pointer (some ⟨b8, 0, none⟩)), (7, .pointer (some ⟨b7, 0, none⟩)), (35, g.v (g.sl a3 c3)), (33, c.v (c.sl a2 c2)), (31, g.v (g.sl a1 c1.1)), (2, .int .i64 gr), (3, .pointer (some ⟨b3, 0, none⟩)), (4, .pointer (some ⟨b4, 0, none⟩)), (30, g.v (g.sl ag cg)), (32, c.v (c.sl ah ch)), (34, g.v (g.sl ag cg)), (36, c.v (c.sl ah ch))], (b9, cel 59 ([.int .i64 0, .int .i64 0, .slice none 0 0])) :: (b8, cel 28 ([.int .i64 0, .int .i64 0, .slice none 0 0])) :: (b7, cel 25 ([.int .i64 0, .int .i64 0, .slice none 0 0])) :: (b4, cel 28 (ctl c (c.sl ah ch))) :: (b3, cel 25 (gtl g (g.sl ag cg))) :: H, RowsA a3 5 (grows g.grs) :: RowsA a2 5 (hrows c.hs) :: RowsA a1 5 (grows g.grs) :: R, [(6, Ld Try.prog 28 ⟨b4, 0, none⟩ (c.v (c.sl ah ch)))])) (fun v9 => ?_) (fun h1111111011100000 => ?_)
 obtain ⟨a1, c1, a2, c2, a3, c3, b7, b8, b9⟩ := v9
 dsimp only
 unfold pl5_3_1111111011100000
 refine sy_any ?_
 refine sy_alt ?_ ?_
 refine cl rfl cal28 rfl rfl (c_come c ah ch (by omega) _ _) ?_
 rintro _ _ R1 ⟨a4, c4, rfl, rfl, hR1⟩
 obtain rfl := hR1.symm
 clear hR1
 refine bg (fun w hs => ⟨trivial, trivial⟩) ?_
 exact sy_to (h1111111111100000 (a1, c1, a2, c2, a3, c3, a4, c4, b7, b8, b9)) (by repeat' first | exact Sub.nil | apply Sub.cons | rfl | (simp [lk]; omega)) (fun _ h => St.sub (((h.pull b7).pull b8).pull b9))
 refine sy_alt ?_ ?_
 refine alc rfl zl63 rfl (fun b10 => ?_)
 refine bg (fun w hs => ⟨((lhA (ctl c (c.sl ah ch)) ag28 rfl rfl rfl)) w hs, trivial⟩) ?_
 exact sy_to (h1111111011110000 (a1, c1, a2, c2, a3, c3, b7, b8, b9, b10)) (by repeat' first | exact Sub.nil | apply Sub.cons | rfl | (simp [lk]; omega)) (fun _ h => St.sub ((((h.pull b7).pull b8).pull b9).pull b10))
 exact sy_stop
 refine sy_have (β := Option Addr × {n : Nat // g.grs.length ≤ n} × Option Addr × Nat × Option Addr × Nat × Nat × Nat × Nat) pl5_3_1111111011010000 (fun ⟨a1, c1, a2, c2, a3, c3, b7, b8, b10⟩ => ([(10, .pointer (some ⟨b10, 0, none⟩)), (8, .pointer (some ⟨b8, 0, none⟩)), (7, .pointer (some ⟨b7, 0, none⟩)), (35, g.v (g.sl a3 c3)), (33, c.v (c.sl a2 c2)), (31, g.v (g.sl a1 c1.1)), (2, .int .i64 gr), (3, .pointer (some ⟨b3, 0, none⟩)), (4, .pointer (some ⟨b4, 0, none⟩)), (30, g.v (g.sl ag cg)), (32, c.v (c.sl ah ch)), (34, g.v (g.sl ag cg)), (36, c.v (c.sl ah ch))], (b10, cel 63 ([.int .i64 0, .int .i64 0, .slice none 0 0])) :: (b8, cel 28 ([.int .i64 0, .int .i64 0, .slice none 0 0])) :: (b7, cel 25 ([.int .i64 0, .int .i64 0, .slice none 0 0])) :: (b4, cel 28 (ctl c (c.sl ah ch))) :: (b3, cel 25 (gtl g (g.sl ag cg))) :: H, RowsA a3 5 (grows g.grs) :: RowsA a2 5 (hrows c.hs) :: RowsA a1 5 (grows g.grs) :: R, [(6, Ld Try.prog 28 ⟨b4, 0, none⟩ (c.v (c.sl ah ch)))])) (fun v9 => ?_) (fun h1111111011010000 => ?_)
 obtain ⟨a1, c1, a2, c2, a3, c3, b7, b8, b10⟩ := v9
 dsimp only
 unfold pl5_3_1111111011010000
 refine sy_any ?_
 refine sy_alt ?_ ?_
 refine cl rfl cal28 rfl rfl (c_come c ah ch (by omega) _ _) ?_
 rintro _ _ R1 ⟨a4, c4, rfl, rfl, hR1⟩
 obtain rfl := hR1.symm
 clear hR1
 refine bg (fun w hs => ⟨trivial, trivial⟩) ?_
 exact sy_to (h1111111111010000 (a1, c1, a2, c2, a3, c3, a4, c4, b7, b8, b10)) (by repeat' first | exact Sub.nil | apply Sub.cons | rfl | (simp [lk]; omega)) (fun _ h => St.sub (((h.pull b7).pull b8).pull b10))
 refine sy_alt ?_ ?_
 refine alc rfl zl59 rfl (fun b9 => ?_)
 refine bg (fun w hs => ⟨((lhA (ctl c (c.sl ah ch)) ag28 rfl rfl rfl)) w hs, trivial⟩) ?_
 exact sy_to (h1111111011110000 (a1, c1, a2, c2, a3, c3, b7, b8, b9, b10)) (by repeat' first | exact Sub.nil | apply Sub.cons | rfl | (simp [lk]; omega)) (fun _ h => St.sub ((((h.pull b7).pull b8).pull b9).pull b10))
 exact sy_stop
 refine sy_have (β := Option Addr × {n : Nat // g.grs.length ≤ n} × Option Addr × Nat × Option Addr × Nat × Nat × Nat) pl5_3_1111111011000000 (fun ⟨a1, c1, a2, c2, a3, c3, b7, b8⟩ => ([(8, .pointer (some ⟨b8, 0, none⟩)), (7, .pointer (some ⟨b7, 0, none⟩)), (35, g.v (g.sl a3 c3)), (33, c.v (c.sl a2 c2)), (31, g.v (g.sl a1 c1.1)), (2, .int .i64 gr), (3, .pointer (some ⟨b3, 0, none⟩)), (4, .pointer (some ⟨b4, 0, none⟩)), (30, g.v (g.sl ag cg)), (32, c.v (c.sl ah ch)), (34, g.v (g.sl ag cg)), (36, c.v (c.sl ah ch))], (b8, cel 28 ([.int .i64 0, .int .i64 0, .slice none 0 0])) :: (b7, cel 25 ([.int .i64 0, .int .i64 0, .slice none 0 0])) :: (b4, cel 28 (ctl c (c.sl ah ch))) :: (b3, cel 25 (gtl g (g.sl ag cg))) :: H, RowsA a3 5 (grows g.grs) :: RowsA a2 5 (hrows c.hs) :: RowsA a1 5 (grows g.grs) :: R, [(6, Ld Try.prog 28 ⟨b4, 0, none⟩ (c.v (c.sl ah ch)))])) (fun v9 => ?_) (fun h1111111011000000 => ?_)
 obtain ⟨a1, c1, a2, c2, a3, c3, b7, b8⟩ := v9
 dsimp only
 unfold pl5_3_1111111011000000
 refine sy_any ?_
 refine sy_alt ?_ ?_
 refine cl rfl cal28 rfl rfl (c_come c ah ch (by omega) _ _) ?_
 rintro _ _ R1 ⟨a4, c4, rfl, rfl, hR1⟩
 obtain rfl := hR1.symm
 clear hR1
 refine bg (fun w hs => ⟨trivial, trivial⟩) ?_
 exact sy_to (h1111111111000000 (a1, c1, a2, c2, a3, c3, a4, c4, b7, b8)) (by repeat' first | exact Sub.nil | apply Sub.cons | rfl | (simp [lk]; omega)) (fun _ h => St.sub ((h.pull b7).pull b8))
 refine sy_alt ?_ ?_
 refine alc rfl zl59 rfl (fun b9 => ?_)
 refine bg (fun w hs => ⟨((lhA (ctl c (c.sl ah ch)) ag28 rfl rfl rfl)) w hs, trivial⟩) ?_
 exact sy_to (h1111111011100000 (a1, c1, a2, c2, a3, c3, b7, b8, b9)) (by repeat' first | exact Sub.nil | apply Sub.cons | rfl | (simp [lk]; omega)) (fun _ h => St.sub (((h.pull b7).pull b8).pull b9))
 refine sy_alt ?_ ?_
 refine alc rfl zl63 rfl (fun b10 => ?_)
 refine bg (fun w hs => ⟨((lhA (ctl c (c.sl ah ch)) ag28 rfl rfl rfl)) w hs, trivial⟩) ?_
 exact sy_to (h1111111011010000 (a1, c1, a2, c2, a3, c3, b7, b8, b10)) (by repeat' first | exact Sub.nil | apply Sub.cons | rfl | (simp [lk]; omega)) (fun _ h => St.sub (((h.pull b7).pull b8).pull b10))
 exact sy_stop
 refine sy_have (β := Option Addr × {n : Nat // g.grs.length ≤ n} × Option Addr × Nat × Option Addr × Nat × Nat × Nat × Nat) pl5_3_1111111010110000 (fun ⟨a1, c1, a2, c2, a3, c3, b7, b9, b10⟩ => ([(10, .pointer (some ⟨b10, 0, none⟩)), (9, .pointer (some ⟨b9, 0, none⟩)), (7, .pointer (some ⟨b7, 0, none⟩)), (35, g.v (g.sl a3 c3)), (33, c.v (c.sl a2 c2)), (31, g.v (g.sl a1 c1.1)), (2, .int .i64 gr), (3, .pointer (some ⟨b3, 0, none⟩)), (4, .pointer (some ⟨b4, 0, none⟩)), (30, g.v (g.sl ag cg)), (32, c.v (c.sl ah ch)), (34, g.v (g.sl ag cg)), (36, c.v (c.sl ah ch))], (b10, cel 63 ([.int .i64 0, .int .i64 0, .slice none 0 0])) :: (b9, cel 59 ([.int .i64 0, .int .i64 0, .slice none 0 0])) :: (b7, cel 25 ([.int .i64 0, .int .i64 0, .slice none 0 0])) :: (b4, cel 28 (ctl c (c.sl ah ch))) :: (b3, cel 25 (gtl g (g.sl ag cg))) :: H, RowsA a3 5 (grows g.grs) :: RowsA a2 5 (hrows c.hs) :: RowsA a1 5 (grows g.grs) :: R, [(6, Ld Try.prog 28 ⟨b4, 0, none⟩ (c.v (c.sl ah ch)))])) (fun v9 => ?_) (fun h1111111010110000 => ?_)
 obtain ⟨a1, c1, a2, c2, a3, c3, b7, b9, b10⟩ := v9
 dsimp only
 unfold pl5_3_1111111010110000
 refine sy_any ?_
 refine sy_alt ?_ ?_
 refine cl rfl cal28 rfl rfl (c_come c ah ch (by omega) _ _) ?_
 rintro _ _ R1 ⟨a4, c4, rfl, rfl, hR1⟩
 obtain rfl := hR1.symm
 clear hR1
 refine bg (fun w hs => ⟨trivial, trivial⟩) ?_
 exact sy_to (h1111111110110000 (a1, c1, a2, c2, a3, c3, a4, c4, b7, b9, b10)) (by repeat' first | exact Sub.nil | apply Sub.cons | rfl | (simp [lk]; omega)) (fun _ h => St.sub (((h.pull b7).pull b9).pull b10))
 refine sy_alt ?_ ?_
 refine alc rfl zl28 rfl (fun b8 => ?_)
 refine bg (fun w hs => ⟨((lhA (ctl c (c.sl ah ch)) ag28 rfl rfl rfl)) w hs, trivial⟩) ?_
 exact sy_to (h1111111011110000 (a1, c1, a2, c2, a3, c3, b7, b8, b9, b10)) (by repeat' first | exact Sub.nil | apply Sub.cons | rfl | (simp [lk]; omega)) (fun _ h => St.sub ((((h.pull b7).pull b8).pull b9).pull b10))
 exact sy_stop
 refine sy_have (β := Option Addr × {n : Nat // g.grs.length ≤ n} × Option Addr × Nat × Option Addr × Nat × Nat × Nat) pl5_3_1111111010100000 (fun ⟨a1, c1, a2, c2, a3, c3, b7, b9⟩ => ([(9, .pointer (some ⟨b9, 0, none⟩)), (7, .pointer (some ⟨b7, 0, none⟩)), (35, g.v (g.sl a3 c3)), (33, c.v (c.sl a2 c2)), (31, g.v (g.sl a1 c1.1)), (2, .int .i64 gr), (3, .pointer (some ⟨b3, 0, none⟩)), (4, .pointer (some ⟨b4, 0, none⟩)), (30, g.v (g.sl ag cg)), (32, c.v (c.sl ah ch)), (34, g.v (g.sl ag cg)), (36, c.v (c.sl ah ch))], (b9, cel 59 ([.int .i64 0, .int .i64 0, .slice none 0 0])) :: (b7, cel 25 ([.int .i64 0, .int .i64 0, .slice none 0 0])) :: (b4, cel 28 (ctl c (c.sl ah ch))) :: (b3, cel 25 (gtl g (g.sl ag cg))) :: H, RowsA a3 5 (grows g.grs) :: RowsA a2 5 (hrows c.hs) :: RowsA a1 5 (grows g.grs) :: R, [(6, Ld Try.prog 28 ⟨b4, 0, none⟩ (c.v (c.sl ah ch)))])) (fun v9 => ?_) (fun h1111111010100000 => ?_)
 obtain ⟨a1, c1, a2, c2, a3, c3, b7, b9⟩ := v9
 dsimp only
 unfold pl5_3_1111111010100000
 refine sy_any ?_
 refine sy_alt ?_ ?_
 refine cl rfl cal28 rfl rfl (c_come c ah ch (by omega) _ _) ?_
 rintro _ _ R1 ⟨a4, c4, rfl, rfl, hR1⟩
 obtain rfl := hR1.symm
 clear hR1
 refine bg (fun w hs => ⟨trivial, trivial⟩) ?_
 exact sy_to (h1111111110100000 (a1, c1, a2, c2, a3, c3, a4, c4, b7, b9)) (by repeat' first | exact Sub.nil | apply Sub.cons | rfl | (simp [lk]; omega)) (fun _ h => St.sub ((h.pull b7).pull b9))
 refine sy_alt ?_ ?_
 refine alc rfl zl28 rfl (fun b8 => ?_)
 refine bg (fun w hs => ⟨((lhA (ctl c (c.sl ah ch)) ag28 rfl rfl rfl)) w hs, trivial⟩) ?_
 exact sy_to (h1111111011100000 (a1, c1, a2, c2, a3, c3, b7, b8, b9)) (by repeat' first | exact Sub.nil | apply Sub.cons | rfl | (simp [lk]; omega)) (fun _ h => St.sub (((h.pull b7).pull b8).pull b9))
 refine sy_alt ?_ ?_
 refine alc rfl zl63 rfl (fun b10 => ?_)
 refine bg (fun w hs => ⟨((lhA (ctl c (c.sl ah ch)) ag28 rfl rfl rfl)) w hs, trivial⟩) ?_
 exact sy_to (h1111111010110000 (a1, c1, a2, c2, a3, c3, b7, b9, b10)) (by repeat' first | exact Sub.nil | apply Sub.cons | rfl | (simp [lk]; omega)) (fun _ h => St.sub (((h.pull b7).pull b9).pull b10))
 exact sy_stop
 refine sy_have (β := Option Addr × {n : Nat // g.grs.length ≤ n} × Option Addr × Nat × Option Addr × Nat × Nat × Nat) pl5_3_1111111010010000 (fun ⟨a1, c1, a2, c2, a3, c3, b7, b10⟩ => ([(10, .pointer (some ⟨b10, 0, none⟩)), (7, .pointer (some ⟨b7, 0, none⟩)), (35, g.v (g.sl a3 c3)), (33, c.v (c.sl a2 c2)), (31, g.v (g.sl a1 c1.1)), (2, .int .i64 gr), (3, .pointer (some ⟨b3, 0, none⟩)), (4, .pointer (some ⟨b4, 0, none⟩)), (30, g.v (g.sl ag cg)), (32, c.v (c.sl ah ch)), (34, g.v (g.sl ag cg)), (36, c.v (c.sl ah ch))], (b10, cel 63 ([.int .i64 0, .int .i64 0, .slice none 0 0])) :: (b7, cel 25 ([.int .i64 0, .int .i64 0, .slice none 0 0])) :: (b4, cel 28 (ctl c (c.sl ah ch))) :: (b3, cel 25 (gtl g (g.sl ag cg))) :: H, RowsA a3 5 (grows g.grs) :: RowsA a2 5 (hrows c.hs) :: RowsA a1 5 (grows g.grs) :: R, [(6, Ld Try.prog 28 ⟨b4, 0, none⟩ (c.v (c.sl ah ch)))])) (fun v9 => ?_) (fun h1111111010010000 => ?_)
 obtain ⟨a1, c1, a2, c2, a3, c3, b7, b10⟩ := v9
 dsimp only
 unfold pl5_3_1111111010010000
 refine sy_any ?_
 refine sy_alt ?_ ?_
 refine cl rfl cal28 rfl rfl (c_come c ah ch (by omega) _ _) ?_
 rintro _ _ R1 ⟨a4, c4, rfl, rfl, hR1⟩
 obtain rfl := hR1.symm
 clear hR1
 refine bg (fun w hs => ⟨trivial, trivial⟩) ?_
 exact sy_to (h1111111110010000 (a1, c1, a2, c2, a3, c3, a4, c4, b7, b10)) (by repeat' first | exact Sub.nil | apply Sub.cons | rfl | (simp [lk]; omega)) (fun _ h => St.sub ((h.pull b7).pull b10))
 refine sy_alt ?_ ?_
 refine alc rfl zl28 rfl (fun b8 => ?_)
 refine bg (fun w hs => ⟨((lhA (ctl c (c.sl ah ch)) ag28 rfl rfl rfl)) w hs, trivial⟩) ?_
 exact sy_to (h1111111011010000 (a1, c1, a2, c2, a3, c3, b7, b8, b10)) (by repeat' first | exact Sub.nil | apply Sub.cons | rfl | (simp [lk]; omega)) (fun _ h => St.sub (((h.pull b7).pull b8).pull b10))
 refine sy_alt ?_ ?_
 refine alc rfl zl59 rfl (fun b9 => ?_)
 refine bg (fun w hs => ⟨((lhA (ctl c (c.sl ah ch)) ag28 rfl rfl rfl)) w hs, trivial⟩) ?_
 exact sy_to (h1111111010110000 (a1, c1, a2, c2, a3, c3, b7, b9, b10)) (by repeat' first | exact Sub.nil | apply Sub.cons | rfl | (simp [lk]; omega)) (fun _ h => St.sub (((h.pull b7).pull b9).pull b10))
 exact sy_stop
 refine sy_have (β := Option Addr × {n : Nat // g.grs.length ≤ n} × Option Addr × Nat × Option Addr × Nat × Nat) pl5_3_1111111010000000 (fun ⟨a1, c1, a2, c2, a3, c3, b7⟩ => ([(7, .pointer (some ⟨b7, 0, none⟩)), (35, g.v (g.sl a3 c3)), (33, c.v (c.sl a2 c2)), (31, g.v (g.sl a1 c1.1)), (2, .int .i64 gr), (3, .pointer (some ⟨b3, 0, none⟩)), (4, .pointer (some ⟨b4, 0, none⟩)), (30, g.v (g.sl ag cg)), (32, c.v (c.sl ah ch)), (34, g.v (g.sl ag cg)), (36, c.v (c.sl ah ch))], (b7, cel 25 ([.int .i64 0, .int .i64 0, .slice none 0 0])) :: (b4, cel 28 (ctl c (c.sl ah ch))) :: (b3, cel 25 (gtl g (g.sl ag cg))) :: H, RowsA a3 5 (grows g.grs) :: RowsA a2 5 (hrows c.hs) :: RowsA a1 5 (grows g.grs) :: R, [(6, Ld Try.prog 28 ⟨b4, 0, none⟩ (c.v (c.sl ah ch)))])) (fun v9 => ?_) (fun h1111111010000000 => ?_)
 obtain ⟨a1, c1, a2, c2, a3, c3, b7⟩ := v9
 dsimp only
 unfold pl5_3_1111111010000000
 refine sy_any ?_
 refine sy_alt ?_ ?_
 refine cl rfl cal28 rfl rfl (c_come c ah ch (by omega) _ _) ?_
 rintro _ _ R1 ⟨a4, c4, rfl, rfl, hR1⟩
 obtain rfl := hR1.symm
 clear hR1
 refine bg (fun w hs => ⟨trivial, trivial⟩) ?_
 exact sy_to (h1111111110000000 (a1, c1, a2, c2, a3, c3, a4, c4, b7)) (by repeat' first | exact Sub.nil | apply Sub.cons | rfl | (simp [lk]; omega)) (fun _ h => St.sub (h.pull b7))
 refine sy_alt ?_ ?_
 refine alc rfl zl28 rfl (fun b8 => ?_)
 refine bg (fun w hs => ⟨((lhA (ctl c (c.sl ah ch)) ag28 rfl rfl rfl)) w hs, trivial⟩) ?_
 exact sy_to (h1111111011000000 (a1, c1, a2, c2, a3, c3, b7, b8)) (by repeat' first | exact Sub.nil | apply Sub.cons | rfl | (simp [lk]; omega)) (fun _ h => St.sub ((h.pull b7).pull b8))
 refine sy_alt ?_ ?_
 refine alc rfl zl59 rfl (fun b9 => ?_)
 refine bg (fun w hs => ⟨((lhA (ctl c (c.sl ah ch)) ag28 rfl rfl rfl)) w hs, trivial⟩) ?_
 exact sy_to (h1111111010100000 (a1, c1, a2, c2, a3, c3, b7, b9)) (by repeat' first | exact Sub.nil | apply Sub.cons | rfl | (simp [lk]; omega)) (fun _ h => St.sub ((h.pull b7).pull b9))
 refine sy_alt ?_ ?_
 refine alc rfl zl63 rfl (fun b10 => ?_)
 refine bg (fun w hs => ⟨((lhA (ctl c (c.sl ah ch)) ag28 rfl rfl rfl)) w hs, trivial⟩) ?_
 exact sy_to (h1111111010010000 (a1, c1, a2, c2, a3, c3, b7, b10)) (by repeat' first | exact Sub.nil | apply Sub.cons | rfl | (simp [lk]; omega)) (fun _ h => St.sub ((h.pull b7).pull b10))
 exact sy_stop
 refine sy_have (β := Option Addr × {n : Nat // g.grs.length ≤ n} × Option Addr × Nat × Option Addr × Nat × Nat × Nat × Nat) pl5_3_1111111001110000 (fun ⟨a1, c1, a2, c2, a3, c3, b8, b9, b10⟩ => ([(10, .pointer (some ⟨b10, 0, none⟩)), (9, .pointer (some ⟨b9, 0, none⟩)), (8, .pointer (some ⟨b8, 0, none⟩)), (35, g.v (g.sl a3 c3)), (33, c.v (c.sl a2 c2)), (31, g.v (g.sl a1 c1.1)), (2, .int .i64 gr), (3, .pointer (some ⟨b3, 0, none⟩)), (4, .pointer (some ⟨b4, 0, none⟩)), (30, g.v (g.sl ag cg)), (32, c.v (c.sl ah ch)), (34, g.v (g.sl ag cg)), (36, c.v (c.sl ah ch))], (b10, cel 63 ([.int .i64 0, .int .i64 0, .slice none 0 0])) :: (b9, cel 59 ([.int .i64 0, .int .i64 0, .slice none 0 0])) :: (b8, cel 28 ([.int .i64 0, .int .i64 0, .slice none 0 0])) :: (b4, cel 28 (ctl c (c.sl ah ch))) :: (b3, cel 25 (gtl g (g.sl ag cg))) :: H, RowsA a3 5 (grows g.grs) :: RowsA a2 5 (hrows c.hs) :: RowsA a1 5 (grows g.grs) :: R, [(6, Ld Try.prog 28 ⟨b4, 0, none⟩ (c.v (c.sl ah ch)))])) (fun v9 => ?_) (fun h1111111001110000 => ?_)
 obtain ⟨a1, c1, a2, c2, a3, c3, b8, b9, b10⟩ := v9
 dsimp only
 unfold pl5_3_1111111001110000
 refine sy_any ?_
 refine sy_alt ?_ ?_
 refine cl rfl cal28 rfl rfl (c_come c ah ch (by omega) _ _) ?_
 rintro _ _ R1 ⟨a4, c4, rfl, rfl, hR1⟩
 obtain rfl := hR1.symm
 clear hR1
 refine bg (fun w hs => ⟨trivial, trivial⟩) ?_
 exact sy_to (h1111111101110000 (a1, c1, a2, c2, a3, c3, a4, c4, b8, b9, b10)) (by repeat' first | exact Sub.nil | apply Sub.cons | rfl | (simp [lk]; omega)) (fun _ h => St.sub (((h.pull b8).pull b9).pull b10))
 refine sy_alt ?_ ?_
 refine alc rfl zl25 rfl (fun b7 => ?_)
 refine bg (fun w hs => ⟨((lhA (ctl c (c.sl ah ch)) ag28 rfl rfl rfl)) w hs, trivial⟩) ?_
 exact sy_to (h1111111011110000 (a1, c1, a2, c2, a3, c3, b7, b8, b9, b10)) (by repeat' first | exact Sub.nil | apply Sub.cons | rfl | (simp [lk]; omega)) (fun _ h => St.sub ((((h.pull b7).pull b8).pull b9).pull b10))
 exact sy_stop
 refine sy_have (β := Option Addr × {n : Nat // g.grs.length ≤ n} × Option Addr × Nat × Option Addr × Nat × Nat × Nat) pl5_3_1111111001100000 (fun ⟨a1, c1, a2, c2, a3, c3, b8, b9⟩ => ([(9, .pointer (some ⟨b9, 0, none⟩)), (8, .pointer (some ⟨b8, 0, none⟩)), (35, g.v (g.sl a3 c3)), (33, c.v (c.sl a2 c2)), (31, g.v (g.sl a1 c1.1)), (2, .int .i64 gr), (3, .pointer (some ⟨b3, 0, none⟩)), (4, .pointer (some ⟨b4, 0, none⟩)), (30, g.v (g.sl ag cg)), (32, c.v (c.sl ah ch)), (34, g.v (g.sl ag cg)), (36, c.v (c.sl ah ch))], (b9, cel 59 ([.int .i64 0, .int .i64 0, .slice none 0 0])) :: (b8, cel 28 ([.int .i64 0, .int .i64 0, .slice none 0 0])) :: (b4, cel 28 (ctl c (c.sl ah ch))) :: (b3, cel 25 (gtl g (g.sl ag cg))) :: H, RowsA a3 5 (grows g.grs) :: RowsA a2 5 (hrows c.hs) :: RowsA a1 5 (grows g.grs) :: R, [(6, Ld Try.prog 28 ⟨b4, 0, none⟩ (c.v (c.sl ah ch)))])) (fun v9 => ?_) (fun h1111111001100000 => ?_)
 obtain ⟨a1, c1, a2, c2, a3, c3, b8, b9⟩ := v9
 dsimp only
 unfold pl5_3_1111111001100000
 refine sy_any ?_
 refine sy_alt ?_ ?_
 refine cl rfl cal28 rfl rfl (c_come c ah ch (by omega) _ _) ?_
 rintro _ _ R1 ⟨a4, c4, rfl, rfl, hR1⟩
 obtain rfl := hR1.symm
 clear hR1
 refine bg (fun w hs => ⟨trivial, trivial⟩) ?_
 exact sy_to (h1111111101100000 (a1, c1, a2, c2, a3, c3, a4, c4, b8, b9)) (by repeat' first | exact Sub.nil | apply Sub.cons | rfl | (simp [lk]; omega)) (fun _ h => St.sub ((h.pull b8).pull b9))
 refine sy_alt ?_ ?_
 refine alc rfl zl25 rfl (fun b7 => ?_)
 refine bg (fun w hs => ⟨((lhA (ctl c (c.sl ah ch)) ag28 rfl rfl rfl)) w hs, trivial⟩) ?_
 exact sy_to (h1111111011100000 (a1, c1, a2, c2, a3, c3, b7, b8, b9)) (by repeat' first | exact Sub.nil | apply Sub.cons | rfl | (simp [lk]; omega)) (fun _ h => St.sub (((h.pull b7).pull b8).pull b9))
 refine sy_alt ?_ ?_
 refine alc rfl zl63 rfl (fun b10 => ?_)
 refine bg (fun w hs => ⟨((lhA (ctl c (c.sl ah ch)) ag28 rfl rfl rfl)) w hs, trivial⟩) ?_
 exact sy_to (h1111111001110000 (a1, c1, a2, c2, a3, c3, b8, b9, b10)) (by repeat' first | exact Sub.nil | apply Sub.cons | rfl | (simp [lk]; omega)) (fun _ h => St.sub (((h.pull b8).pull b9).pull b10))
 exact sy_stop
 refine sy_have (β := Option Addr × {n : Nat // g.grs.length ≤ n} × Option Addr × Nat × Option Addr × Nat × Nat × Nat) pl5_3_1111111001010000 (fun ⟨a1, c1, a2, c2, a3, c3, b8, b10⟩ => ([(10, .pointer (some ⟨b10, 0, none⟩)), (8, .pointer (some ⟨b8, 0, none⟩)), (35, g.v (g.sl a3 c3)), (33, c.v (c.sl a2 c2)), (31, g.v (g.sl a1 c1.1)), (2, .int .i64 gr), (3, .pointer (some ⟨b3, 0, none⟩)), (4, .pointer (some ⟨b4, 0, none⟩)), (30, g.v (g.sl ag cg)), (32, c.v (c.sl ah ch)), (34, g.v (g.sl ag cg)), (36, c.v (c.sl ah ch))], (b10, cel 63 ([.int .i64 0, .int .i64 0, .slice none 0 0])) :: (b8, cel 28 ([.int .i64 0, .int .i64 0, .slice none 0 0])) :: (b4, cel 28 (ctl c (c.sl ah ch))) :: (b3, cel 25 (gtl g (g.sl ag cg))) :: H, RowsA a3 5 (grows g.grs) :: RowsA a2 5 (hrows c.hs) :: RowsA a1 5 (grows g.grs) :: R, [(6, Ld Try.prog 28 ⟨b4, 0, none⟩ (c.v (c.sl ah ch)))])) (fun v9 => ?_) (fun h1111111001010000 => ?_)
 obtain ⟨a1, c1, a2, c2, a3, c3, b8, b10⟩ := v9
 dsimp only
 unfold pl5_3_1111111001010000
 refine sy_any ?_
 refine sy_alt ?_ ?_
 refine cl rfl cal28 rfl rfl (c_come c ah ch (by omega) _ _) ?_
 rintro _ _ R1 ⟨a4, c4, rfl, rfl, hR1⟩
 obtain rfl := hR1.symm
 clear hR1
 refine bg (fun w hs => ⟨trivial, trivial⟩) ?_
 exact sy_to (h1111111101010000 (a1, c1, a2, c2, a3, c3, a4, c4, b8, b10)) (by repeat' first | exact Sub.nil | apply Sub.cons | rfl | (simp [lk]; omega)) (fun _ h => St.sub ((h.pull b8).pull b10))
 refine sy_alt ?_ ?_
 refine alc rfl zl25 rfl (fun b7 => ?_)
 refine bg (fun w hs => ⟨((lhA (ctl c (c.sl ah ch)) ag28 rfl rfl rfl)) w hs, trivial⟩) ?_
 exact sy_to (h1111111011010000 (a1, c1, a2, c2, a3, c3, b7, b8, b10)) (by repeat' first | exact Sub.nil | apply Sub.cons | rfl | (simp [lk]; omega)) (fun _ h => St.sub (((h.pull b7).pull b8).pull b10))
 refine sy_alt ?_ ?_
 refine alc rfl zl59 rfl (fun b9 => ?_)
 refine bg (fun w hs => ⟨((lhA (ctl c (c.sl ah ch)) ag28 rfl rfl rfl)) w hs, trivial⟩) ?_
 exact sy_to (h1111111001110000 (a1, c1, a2, c2, a3, c3, b8, b9, b10)) (by repeat' first | exact Sub.nil | apply Sub.cons | rfl | (simp [lk]; omega)) (fun _ h => St.sub (((h.pull b8).pull b9).pull b10))
 exact sy_stop
 refine sy_have (β := Option Addr × {n : Nat // g.grs.length ≤ n} × Option Addr × Nat × Option Addr × Nat × Nat) pl5_3_1111111001000000 (fun ⟨a1, c1, a2, c2, a3, c3, b8⟩ => ([(8, .pointer (some ⟨b8, 0, none⟩)), (35, g.v (g.sl a3 c3)), (33, c.v (c.sl a2 c2)), (31, g.v (g.sl a1 c1.1)), (2, .int .i64 gr), (3, .pointer (some ⟨b3, 0, none⟩)), (4, .pointer (some ⟨b4, 0, none⟩)), (30, g.v (g.sl ag cg)), (32, c.v (c.sl ah ch)), (34, g.v (g.sl ag cg)), (36, c.v (c.sl ah ch))], (b8, cel 28 ([.int .i64 0, .int .i64 0, .slice none 0 0])) :: (b4, cel 28 (ctl c (c.sl ah ch))) :: (b3, cel 25 (gtl g (g.sl ag cg))) :: H, RowsA a3 5 (grows g.grs) :: RowsA a2 5 (hrows c.hs) :: RowsA a1 5 (grows g.grs) :: R, [(6, Ld Try.prog 28 ⟨b4, 0, none⟩ (c.v (c.sl ah ch)))])) (fun v9 => ?_) (fun h1111111001000000 => ?_)
 obtain ⟨a1, c1, a2, c2, a3, c3, b8⟩ := v9
 dsimp only
 unfold pl5_3_1111111001000000
 refine sy_any ?_
 refine sy_alt ?_ ?_
 refine cl rfl cal28 rfl rfl (c_come c ah ch (by omega) _ _) ?_
 rintro _ _ R1 ⟨a4, c4, rfl, rfl, hR1⟩
 obtain rfl := hR1.symm
 clear hR1
 refine bg (fun w hs => ⟨trivial, trivial⟩) ?_
 exact sy_to (h1111111101000000 (a1, c1, a2, c2, a3, c3, a4, c4, b8)) (by repeat' first | exact Sub.nil | apply Sub.cons | rfl | (simp [lk]; omega)) (fun _ h => St.sub (h.pull b8))
 refine sy_alt ?_ ?_
 refine alc rfl zl25 rfl (fun b7 => ?_)
 refine bg (fun w hs => ⟨((lhA (ctl c (c.sl ah ch)) ag28 rfl rfl rfl)) w hs, trivial⟩) ?_
 exact sy_to (h1111111011000000 (a1, c1, a2, c2, a3, c3, b7, b8)) (by repeat' first | exact Sub.nil | apply Sub.cons | rfl | (simp [lk]; omega)) (fun _ h => St.sub ((h.pull b7).pull b8))
 refine sy_alt ?_ ?_
 refine alc rfl zl59 rfl (fun b9 => ?_)
 refine bg (fun w hs => ⟨((lhA (ctl c (c.sl ah ch)) ag28 rfl rfl rfl)) w hs, trivial⟩) ?_
 exact sy_to (h1111111001100000 (a1, c1, a2, c2, a3, c3, b8, b9)) (by repeat' first | exact Sub.nil | apply Sub.cons | rfl | (simp [lk]; omega)) (fun _ h => St.sub ((h.pull b8).pull b9))
 refine sy_alt ?_ ?_
 refine alc rfl zl63 rfl (fun b10 => ?_)
 refine bg (fun w hs => ⟨((lhA (ctl c (c.sl ah ch)) ag28 rfl rfl rfl)) w hs, trivial⟩) ?_
 exact sy_to (h1111111001010000 (a1, c1, a2, c2, a3, c3, b8, b10)) (by repeat' first | exact Sub.nil | apply Sub.cons | rfl | (simp [lk]; omega)) (fun _ h => St.sub ((h.pull b8).pull b10))
 exact sy_stop
 refine sy_have (β := Option Addr × {n : Nat // g.grs.length ≤ n} × Option Addr × Nat × Option Addr × Nat × Nat × Nat) pl5_3_1111111000110000 (fun ⟨a1, c1, a2, c2, a3, c3, b9, b10⟩ => ([(10, .pointer (some ⟨b10, 0, none⟩)), (9, .pointer (some ⟨b9, 0, none⟩)), (35, g.v (g.sl a3 c3)), (33, c.v (c.sl a2 c2)), (31, g.v (g.sl a1 c1.1)), (2, .int .i64 gr), (3, .pointer (some ⟨b3, 0, none⟩)), (4, .pointer (some ⟨b4, 0, none⟩)), (30, g.v (g.sl ag cg)), (32, c.v (c.sl ah ch)), (34, g.v (g.sl ag cg)), (36, c.v (c.sl ah ch))], (b10, cel 63 ([.int .i64 0, .int .i64 0, .slice none 0 0])) :: (b9, cel 59 ([.int .i64 0, .int .i64 0, .slice none 0 0])) :: (b4, cel 28 (ctl c (c.sl ah ch))) :: (b3, cel 25 (gtl g (g.sl ag cg))) :: H, RowsA a3 5 (grows g.grs) :: RowsA a2 5 (hrows c.hs) :: RowsA a1 5 (grows g.grs) :: R, [(6, Ld Try.prog 28 ⟨b4, 0, none⟩ (c.v (c.sl ah ch)))])) (fun v9 => ?_) (fun h1111111000110000 => ?_)
 obtain ⟨a1, c1, a2, c2, a3, c3, b9, b10⟩ := v9
 dsimp only
 unfold pl5_3_1111111000110000
 refine sy_any ?_
 refine sy_alt ?_ ?_
 refine cl rfl cal28 rfl rfl (c_come c ah ch (by omega) _ _) ?_
 rintro _ _ R1 ⟨a4, c4, rfl, rfl, hR1⟩
 obtain rfl := hR1.symm
 clear hR1
 refine bg (fun w hs => ⟨trivial, trivial⟩) ?_
 exact sy_to (h1111111100110000 (a1, c1, a2, c2, a3, c3, a4, c4, b9, b10)) (by repeat' first | exact Sub.nil | apply Sub.cons | rfl | (simp [lk]; omega)) (fun _ h => St.sub ((h.pull b9).pull b10))
 refine sy_alt ?_ ?_
 refine alc rfl zl25 rfl (fun b7 => ?_)
 refine bg (fun w hs => ⟨((lhA (ctl c (c.sl ah ch)) ag28 rfl rfl rfl)) w hs, trivial⟩) ?_
 exact sy_to (h1111111010110000 (a1, c1, a2, c2, a3, c3, b7, b9, b10)) (by repeat' first | exact Sub.nil | apply Sub.cons | rfl | (simp [lk]; omega)) (fun _ h => St.sub (((h.pull b7).pull b9).pull b10))
 refine sy_alt ?_ ?_
 refine alc rfl zl28 rfl (fun b8 => ?_)
 refine bg (fun w hs => ⟨((lhA (ctl c (c.sl ah ch)) ag28 rfl rfl rfl)) w hs, trivial⟩) ?_
 exact sy_to (h1111111001110000 (a1, c1, a2, c2, a3, c3, b8, b9, b10)) (by repeat' first | exact Sub.nil | apply Sub.cons | rfl | (simp [lk]; omega)) (fun _ h => St.sub (((h.pull b8).pull b9).pull b10))
 exact sy_stop
 refine sy_have (β := Option Addr × {n : Nat // g.grs.length ≤ n} × Option Addr × Nat × Option Addr × Nat × Nat) pl5_3_1111111000100000 (fun ⟨a1, c1, a2, c2, a3, c3, b9⟩ => ([(9, .pointer (some ⟨b9, 0, none⟩)), (35, g.v (g.sl a3 c3)), (33, c.v (c.sl a2 c2)), (31, g.v (g.sl a1 c1.1)), (2, .int .i64 gr), (3, .pointer (some ⟨b3, 0, none⟩)), (4, .pointer (some ⟨b4, 0, none⟩)), (30, g.v (g.sl ag cg)), (32, c.v (c.sl ah ch)), (34, g.v (g.sl ag cg)), (36, c.v (c.sl ah ch))], (b9, cel 59 ([.int .i64 0, .int .i64 0, .slice none 0 0])) :: (b4, cel 28 (ctl c (c.sl ah ch))) :: (b3, cel 25 (gtl g (g.sl ag cg))) :: H, RowsA a3 5 (grows g.grs) :: RowsA a2 5 (hrows c.hs) :: RowsA a1 5 (grows g.grs) :: R, [(6, Ld Try.prog 28 ⟨b4, 0, none⟩ (c.v (c.sl ah ch)))])) (fun v9 => ?_) (fun h1111111000100000 => ?_)
 obtain ⟨a1, c1, a2, c2, a3, c3, b9⟩ := v9
 dsimp only
 unfold pl5_3_1111111000100000
 refine sy_any ?_
 refine sy_alt ?_ ?_
 refine cl rfl cal28 rfl rfl (c_come c ah ch (by omega) _ _) ?_
 rintro _ _ R1 ⟨a4, c4, rfl, rfl, hR1⟩
 obtain rfl := hR1.symm
 clear hR1
 refine bg (fun w hs => ⟨trivial, trivial⟩) ?_
 exact sy_to (h1111111100100000 (a1, c1, a2, c2, a3, c3, a4, c4, b9)) (by repeat' first | exact Sub.nil | apply Sub.cons | rfl | (simp [lk]; omega)) (fun _ h => St.sub (h.pull b9))
 refine sy_alt ?_ ?_
 refine alc rfl zl25 rfl (fun b7 => ?_)
 refine bg (fun w hs => ⟨((lhA (ctl c (c.sl ah ch)) ag28 rfl rfl rfl)) w hs, trivial⟩) ?_
 exact sy_to (h1111111010100000 (a1, c1, a2, c2, a3, c3, b7, b9)) (by repeat' first | exact Sub.nil | apply Sub.cons | rfl | (simp [lk]; omega)) (fun _ h => St.sub ((h.pull b7).pull b9))
 refine sy_alt ?_ ?_
 refine alc rfl zl28 rfl (fun b8 => ?_)
 refine bg (fun w hs => ⟨((lhA (ctl c (c.sl ah ch)) ag28 rfl rfl rfl)) w hs, trivial⟩) ?_
 exact sy_to (h1111111001100000 (a1, c1, a2, c2, a3, c3, b8, b9)) (by repeat' first | exact Sub.nil | apply Sub.cons | rfl | (simp [lk]; omega)) (fun _ h => St.sub ((h.pull b8).pull b9))
 refine sy_alt ?_ ?_
 refine alc rfl zl63 rfl (fun b10 => ?_)
 refine bg (fun w hs => ⟨((lhA (ctl c (c.sl ah ch)) ag28 rfl rfl rfl)) w hs, trivial⟩) ?_
 exact sy_to (h1111111000110000 (a1, c1, a2, c2, a3, c3, b9, b10)) (by repeat' first | exact Sub.nil | apply Sub.cons | rfl | (simp [lk]; omega)) (fun _ h => St.sub ((h.pull b9).pull b10))
 exact sy_stop
 refine sy_have (β := Option Addr × {n : Nat // g.grs.length ≤ n} × Option Addr × Nat × Option Addr × Nat × Nat) pl5_3_1111111000010000 (fun ⟨a1, c1, a2, c2, a3, c3, b10⟩ => ([(10, .pointer (some ⟨b10, 0, none⟩)), (35, g.v (g.sl a3 c3)), (33, c.v (c.sl a2 c2)), (31, g.v (g.sl a1 c1.1)), (2, .int .i64 gr), (3, .pointer (some ⟨b3, 0, none⟩)), (4, .pointer (some ⟨b4, 0, none⟩)), (30, g.v (g.sl ag cg)), (32, c.v (c.sl ah ch)), (34, g.v (g.sl ag cg)), (36, c.v (c.sl ah ch))], (b10, cel 63 ([.int .i64 0, .int .i64 0, .slice none 0 0])) :: (b4, cel 28 (ctl c (c.sl ah ch))) :: (b3, cel 25 (gtl g (g.sl ag cg))) :: H, RowsA a3 5 (grows g.grs) :: RowsA a2 5 (hrows c.hs) :: RowsA a1 5 (grows g.grs) :: R, [(6, Ld Try.prog 28 ⟨b4, 0, none⟩ (c.v (c.sl ah ch)))])) (fun v9 => ?_) (fun h1111111000010000 => ?_)
 obtain ⟨a1, c1, a2, c2, a3, c3, b10⟩ := v9
 dsimp only
 unfold pl5_3_1111111000010000
 refine sy_any ?_
 refine sy_alt ?_ ?_
 refine cl rfl cal28 rfl rfl (c_come c ah ch (by omega) _ _) ?_
 rintro _ _ R1 ⟨a4, c4, rfl, rfl, hR1⟩
 obtain rfl := hR1.symm
 clear hR1
 refine bg (fun w hs => ⟨trivial, trivial⟩) ?_
 exact sy_to (h1111111100010000 (a1, c1, a2, c2, a3, c3, a4, c4, b10)) (by repeat' first | exact Sub.nil | apply Sub.cons | rfl | (simp [lk]; omega)) (fun _ h => St.sub (h.pull b10))
 refine sy_alt ?_ ?_
 refine alc rfl zl25 rfl (fun b7 => ?_)
 refine bg (fun w hs => ⟨((lhA (ctl c (c.sl ah ch)) ag28 rfl rfl rfl)) w hs, trivial⟩) ?_
 exact sy_to (h1111111010010000 (a1, c1, a2, c2, a3, c3, b7, b10)) (by repeat' first | exact Sub.nil | apply Sub.cons | rfl | (simp [lk]; omega)) (fun _ h => St.sub ((h.pull b7).pull b10))
 refine sy_alt ?_ ?_
 refine alc rfl zl28 rfl (fun b8 => ?_)
 refine bg (fun w hs => ⟨((lhA (ctl c (c.sl ah ch)) ag28 rfl rfl rfl)) w hs, trivial⟩) ?_
 exact sy_to (h1111111001010000 (a1, c1, a2, c2, a3, c3, b8, b10)) (by repeat' first | exact Sub.nil | apply Sub.cons | rfl | (simp [lk]; omega)) (fun _ h => St.sub ((h.pull b8).pull b10))
 refine sy_alt ?_ ?_
 refine alc rfl zl59 rfl (fun b9 => ?_)
 refine bg (fun w hs => ⟨((lhA (ctl c (c.sl ah ch)) ag28 rfl rfl rfl)) w hs, trivial⟩) ?_
 exact sy_to (h1111111000110000 (a1, c1, a2, c2, a3, c3, b9, b10)) (by repeat' first | exact Sub.nil | apply Sub.cons | rfl | (simp [lk]; omega)) (fun _ h => St.sub ((h.pull b9).pull b10))
 exact sy_stop
 refine sy_have (β := Option Addr × {n : Nat // g.grs.length ≤ n} × Option Addr × Nat × Nat × Nat × Nat × Nat) pl5_3_1111101011110000 (fun ⟨a1, c1, a2, c2, b7, b8, b9, b10⟩ => ([(10, .pointer (some ⟨b10, 0, none⟩)), (9, .pointer (some ⟨b9, 0, none⟩)), (8, .pointer (some ⟨b8, 0, none⟩)), (7, .pointer (some ⟨b7, 0, none⟩)), (33, c.v (c.sl a2 c2)), (31, g.v (g.sl a1 c1.1)), (2, .int .i64 gr), (3, .pointer (some ⟨b3, 0, none⟩)), (4, .pointer (some ⟨b4, 0, none⟩)), (30, g.v (g.sl ag cg)), (32, c.v (c.sl ah ch)), (34, g.v (g.sl ag cg)), (36, c.v (c.sl ah ch))], (b10, cel 63 ([.int .i64 0, .int .i64 0, .slice none 0 0])) :: (b9, cel 59 ([.int .i64 0, .int .i64 0, .slice none 0 0])) :: (b8, cel 28 ([.int .i64 0, .int .i64 0, .slice none 0 0])) :: (b7, cel 25 ([.int .i64 0, .int .i64 0, .slice none 0 0])) :: (b4, cel 28 (ctl c (c.sl ah ch))) :: (b3, cel 25 (gtl g (g.sl ag cg))) :: H, RowsA a2 5 (hrows c.hs) :: RowsA a1 5 (grows g.grs) :: R, [(6, Ld Try.prog 28 ⟨b4, 0, none⟩ (c.v (c.sl ah ch))), (4, Ld Try.prog 25 ⟨b3, 0, none⟩ (g.v (g.sl ag cg)))])) (fun v9 => ?_) (fun h1111101011110000 => ?_)
 obtain ⟨a1, c1, a2, c2, b7, b8, b9, b10⟩ := v9
 dsimp only
 unfold pl5_3_1111101011110000
 refine cl rfl cal27 rfl rfl (c_theirs g ag cg (by omega) _ _) ?_
 rintro _ _ R1 ⟨a3, c3, rfl, rfl, hR1⟩
 obtain rfl := hR1.symm
 clear hR1
 refine bg (fun w hs => ⟨((lhA (ctl c (c.sl ah ch)) ag28 rfl rfl rfl)) w hs, trivial, trivial⟩) ?_
 exact sy_to (h1111111011110000 (a1, c1, a2, c2, a3, c3, b7, b8, b9, b10)) (by repeat' first | exact Sub.nil | apply Sub.cons | rfl | (simp [lk]; omega)) (fun _ h => St.sub ((((h.pull b7).pull b8).pull b9).pull b10))
 refine sy_have (β := Option Addr × {n : Nat // g.grs.length ≤ n} × Option Addr × Nat × Nat × Nat × Nat) pl5_3_1111101011100000 (fun ⟨a1, c1, a2, c2, b7, b8, b9⟩ => ([(9, .pointer (some ⟨b9, 0, none⟩)), (8, .pointer (some ⟨b8, 0, none⟩)), (7, .pointer (some ⟨b7, 0, none⟩)), (33, c.v (c.sl a2 c2)), (31, g.v (g.sl a1 c1.1)), (2, .int .i64 gr), (3, .pointer (some ⟨b3, 0, none⟩)), (4, .pointer (some ⟨b4, 0, none⟩)), (30, g.v (g.sl ag cg)), (32, c.v (c.sl ah ch)), (34, g.v (g.sl ag cg)), (36, c.v (c.sl ah ch))], (b9, cel 59 ([.int .i64 0, .int .i64 0, .slice none 0 0])) :: (b8, cel 28 ([.int .i64 0, .int .i64 0, .slice none 0 0])) :: (b7, cel 25 ([.int .i64 0, .int .i64 0, .slice none 0 0])) :: (b4, cel 28 (ctl c (c.sl ah ch))) :: (b3, cel 25 (gtl g (g.sl ag cg))) :: H, RowsA a2 5 (hrows c.hs) :: RowsA a1 5 (grows g.grs) :: R, [(6, Ld Try.prog 28 ⟨b4, 0, none⟩ (c.v (c.sl ah ch))), (4, Ld Try.prog 25 ⟨b3, 0, none⟩ (g.v (g.sl ag cg)))])) (fun v9 => ?_) (fun h1111101011100000 => ?_)
 obtain ⟨a1, c1, a2, c2, b7, b8, b9⟩ := v9
 dsimp only
 unfold pl5_3_1111101011100000
 refine sy_any ?_
 refine sy_alt ?_ ?_
 refine cl rfl cal27 rfl rfl (c_theirs g ag cg (by omega) _ _) ?_
 rintro _ _ R1 ⟨a3, c3, rfl, rfl, hR1⟩
 obtain rfl := hR1.symm
 clear hR1
 refine bg (fun w hs => ⟨((lhA (ctl c (c.sl ah ch)) ag28 rfl rfl rfl)) w hs, trivial, trivial⟩) ?_
 exact sy_to (h1111111011100000 (a1, c1, a2, c2, a3, c3, b7, b8, b9)) (by repeat' first | exact Sub.nil | apply Sub.cons | rfl | (simp [lk]; omega)) (fun _ h => St.sub (((h.pull b7).pull b8).pull b9))
 refine sy_alt ?_ ?_
 refine alc rfl zl63 rfl (fun b10 => ?_)
 refine bg (fun w hs => ⟨((lhA (ctl c (c.sl ah ch)) ag28 rfl rfl rfl)) w hs, ((lhA (gtl g (g.sl ag cg)) ag25 rfl rfl rfl)) w hs, trivial⟩) ?_
 exact sy_to (h1111101011110000 (a1, c1, a2, c2, b7, b8, b9, b10)) (by repeat' first | exact Sub.nil | apply Sub.cons | rfl | (simp [lk]; omega)) (fun _ h => St.sub ((((h.pull b7).pull b8).pull b9).pull b10))
 exact sy_stop
 refine sy_have (β := Option Addr × {n : Nat // g.grs.length ≤ n} × Option Addr × Nat × Nat × Nat × Nat) pl5_3_1111101011010000 (fun ⟨a1, c1, a2, c2, b7, b8, b10⟩ => ([(10, .pointer (some ⟨b10, 0, none⟩)), (8, .pointer (some ⟨b8, 0, none⟩)), (7, .pointer (some ⟨b7, 0, none⟩)), (33, c.v (c.sl a2 c2)), (31, g.v (g.sl a1 c1.1)), (2, .int .i64 gr), (3, .pointer (some ⟨b3, 0, none⟩)), (4, .pointer (some ⟨b4, 0, none⟩)), (30, g.v (g.sl ag cg)), (32, c.v (c.sl ah ch)), (34, g.v (g.sl ag cg)), (36, c.v (c.sl ah ch))], (b10, cel 63 ([.int .i64 0, .int .i64 0, .slice none 0 0])) :: (b8, cel 28 ([.int .i64 0, .int .i64 0, .slice none 0 0])) :: (b7, cel 25 ([.int .i64 0, .int .i64 0, .slice none 0 0])) :: (b4, cel 28 (ctl c (c.sl ah ch))) :: (b3, cel 25 (gtl g (g.sl ag cg))) :: H, RowsA a2 5 (hrows c.hs) :: RowsA a1 5 (grows g.grs) :: R, [(6, Ld Try.prog 28 ⟨b4, 0, none⟩ (c.v (c.sl ah ch))), (4, Ld Try.prog 25 ⟨b3, 0, none⟩ (g.v (g.sl ag cg)))])) (fun v9 => ?_) (fun h1111101011010000 => ?_)
 obtain ⟨a1, c1, a2, c2, b7, b8, b10⟩ := v9
 dsimp only
 unfold pl5_3_1111101011010000
 refine sy_any ?_
 refine sy_alt ?_ ?_
 refine cl rfl cal27 rfl rfl (c_theirs g ag cg (by omega) _ _) ?_
 rintro _ _ R1 ⟨a3, c3, rfl, rfl, hR1⟩
 obtain rfl := hR1.symm
 clear hR1
 refine bg (fun w hs => ⟨((lhA (ctl c (c.sl ah ch)) ag28 rfl rfl rfl)) w hs, trivial, trivial⟩) ?_
 exact sy_to (h1111111011010000 (a1, c1, a2, c2, a3, c3, b7, b8, b10)) (by repeat' first | exact Sub.nil | apply Sub.cons | rfl | (simp [lk]; omega)) (fun _ h => St.sub (((h.pull b7).pull b8).pull b10))
 refine sy_alt ?_ ?_
 refine alc rfl zl59 rfl (fun b9 => ?_)
 refine bg (fun w hs => ⟨((lhA (ctl c (c.sl ah ch)) ag28 rfl rfl rfl)) w hs, ((lhA (gtl g (g.sl ag cg)) ag25 rfl rfl rfl)) w hs, trivial⟩) ?_
 exact sy_to (h1111101011110000 (a1, c1, a2, c2, b7, b8, b9, b10)) (by repeat' first | exact Sub.nil | apply Sub.cons | rfl | (simp [lk]; omega)) (fun _ h => St.sub ((((h.pull b7).pull b8).pull b9).pull b10))
 exact sy_stop
 refine sy_have (β := Option Addr × {n : Nat // g.grs.length ≤ n} × Option Addr × Nat × Nat × Nat) pl5_3_1111101011000000 (fun ⟨a1, c1, a2, c2, b7, b8⟩ => ([(8, .pointer (some ⟨b8, 0, none⟩)), (7, .pointer (some ⟨b7, 0, none⟩)), (33, c.v (c.sl a2 c2)), (31, g.v (g.sl a1 c1.1)), (2, .int .i64 gr), (3, .pointer (some ⟨b3, 0, none⟩)), (4, .pointer (some ⟨b4, 0, none⟩)), (30, g.v (g.sl ag cg)), (32, c.v (c.sl ah ch)), (34, g.v (g.sl ag cg)), (36, c.v (c.sl ah ch))], (b8, cel 28 ([.int .i64 0, .int .i64 0, .slice none 0 0])) :: (b7, cel 25 ([.int .i64 0, .int .i64 0, .slice none 0 0])) :: (b4, cel 28 (ctl c (c.sl ah ch))) :: (b3, cel 25 (gtl g (g.sl ag cg))) :: H, RowsA a2 5 (hrows c.hs) :: RowsA a1 5 (grows g.grs) :: R, [(6, Ld Try.prog 28 ⟨b4, 0, none⟩ (c.v (c.sl ah ch))), (4, Ld Try.prog 25 ⟨b3, 0, none⟩ (g.v (g.sl ag cg)))])) (fun v9 => ?_) (fun h1111101011000000 => ?_)
 obtain ⟨a1, c1, a2, c2, b7, b8⟩ := v9
 dsimp only
 unfold pl5_3_1111101011000000
 refine sy_any ?_
 refine sy_alt ?_ ?_
 refine cl rfl cal27 rfl rfl (c_theirs g ag cg (by omega) _ _) ?_
 rintro _ _ R1 ⟨a3, c3, rfl, rfl, hR1⟩
 obtain rfl := hR1.symm
 clear hR1
 refine bg (fun w hs => ⟨((lhA (ctl c (c.sl ah ch)) ag28 rfl rfl rfl)) w hs, trivial, trivial⟩) ?_
 exact sy_to (h1111111011000000 (a1, c1, a2, c2, a3, c3, b7, b8)) (by repeat' first | exact Sub.nil | apply Sub.cons | rfl | (simp [lk]; omega)) (fun _ h => St.sub ((h.pull b7).pull b8))
 refine sy_alt ?_ ?_
 refine alc rfl zl59 rfl (fun b9 => ?_)
 refine bg (fun w hs => ⟨((lhA (ctl c (c.sl ah ch)) ag28 rfl rfl rfl)) w hs, ((lhA (gtl g (g.sl ag cg)) ag25 rfl rfl rfl)) w hs, trivial⟩) ?_
 exact sy_to (h1111101011100000 (a1, c1, a2, c2, b7, b8, b9)) (by repeat' first | exact Sub.nil | apply Sub.cons | rfl | (simp [lk]; omega)) (fun _ h => St.sub (((h.pull b7).pull b8).pull b9))
 refine sy_alt ?_ ?_
 refine alc rfl zl63 rfl (fun b10 => ?_)
 refine bg (fun w hs => ⟨((lhA (ctl c (c.sl ah ch)) ag28 rfl rfl rfl)) w hs, ((lhA (gtl g (g.sl ag cg)) ag25 rfl rfl rfl)) w hs, trivial⟩) ?_
 exact sy_to (h1111101011010000 (a1, c1, a2, c2, b7, b8, b10)) (by repeat' first | exact Sub.nil | apply Sub.cons | rfl | (simp [lk]; omega)) (fun _ h => St.sub (((h.pull b7).pull b8).pull b10))
 exact sy_stop
 refine sy_have (β := Option Addr × {n : Nat // g.grs.length ≤ n} × Option Addr × Nat × Nat × Nat × Nat) pl5_3_1111101010110000 (fun ⟨a1, c1, a2, c2, b7, b9, b10⟩ => ([(10, .pointer (some ⟨b10, 0, none⟩)), (9, .pointer (some ⟨b9, 0, none⟩)), (7, .pointer (some ⟨b7, 0, none⟩)), (33, c.v (c.sl a2 c2)), (31, g.v (g.sl a1 c1.1)), (2, .int .i64 gr), (3, .pointer (some ⟨b3, 0, none⟩)), (4, .pointer (some ⟨b4, 0, none⟩)), (30, g.v (g.sl ag cg)), (32, c.v (c.sl ah ch)), (34, g.v (g.sl ag cg)), (36, c.v (c.sl ah ch))], (b10, cel 63 ([.int .i64 0, .int .i64 0, .slice none 0 0])) :: (b9, cel 59 ([.int .i64 0, .int .i64 0, .slice none 0 0])) :: (b7, cel 25 ([.int .i64 0, .int .i64 0, .slice none 0 0])) :: (b4, cel 28 (ctl c (c.sl ah ch))) :: (b3, cel 25 (gtl g (g.sl ag cg))) :: H, RowsA a2 5 (hrows c.hs) :: RowsA a1 5 (grows g.grs) :: R, [(6, Ld Try.prog 28 ⟨b4, 0, none⟩ (c.v (c.sl ah ch))), (4, Ld Try.prog 25 ⟨b3, 0, none⟩ (g.v (g.sl ag cg)))])) (fun v9 => ?_) (fun h1111101010110000 => ?_)
 obtain ⟨a1, c1, a2, c2, b7, b9, b10⟩ := v9
 dsimp only
 unfold pl5_3_1111101010110000
 refine sy_any ?_
 refine sy_alt ?_ ?_
 refine cl rfl cal27 rfl rfl (c_theirs g ag cg (by omega) _ _) ?_
 rintro _ _ R1 ⟨a3, c3, rfl, rfl, hR1⟩
 obtain rfl := hR1.symm
 clear hR1
 refine bg (fun w hs => ⟨((lhA (ctl c (c.sl ah ch)) ag28 rfl rfl rfl)) w hs, trivial, trivial⟩) ?_
 exact sy_to (h1111111010110000 (a1, c1, a2, c2, a3, c3, b7, b9, b10)) (by repeat' first | exact Sub.nil | apply Sub.cons | rfl | (simp [lk]; omega)) (fun _ h => St.sub (((h.pull b7).pull b9).pull b10))
 refine sy_alt ?_ ?_
 refine alc rfl zl28 rfl (fun b8 => ?_)
 refine bg (fun w hs => ⟨((lhA (ctl c (c.sl ah ch)) ag28 rfl rfl rfl)) w hs, ((lhA (gtl g (g.sl ag cg)) ag25 rfl rfl rfl)) w hs, trivial⟩) ?_
 exact sy_to (h1111101011110000 (a1, c1, a2, c2, b7, b8, b9, b10)) (by repeat' first | exact Sub.nil | apply Sub.cons | rfl | (simp [lk]; omega)) (fun _ h => St.sub ((((h.pull b7).pull b8).pull b9).pull b10))
 exact sy_stop
 refine sy_have (β := Option Addr × {n : Nat // g.grs.length ≤ n} × Option Addr × Nat × Nat × Nat) pl5_3_1111101010100000 (fun ⟨a1, c1, a2, c2, b7, b9⟩ => ([(9, .pointer (some ⟨b9, 0, none⟩)), (7, .pointer (some ⟨b7, 0, none⟩)), (33, c.v (c.sl a2 c2)), (31, g.v (g.sl a1 c1.1)), (2, .int .i64 gr), (3, .pointer (some ⟨b3, 0, none⟩)), (4, .pointer (some ⟨b4, 0, none⟩)), (30, g.v (g.sl ag cg)), (32, c.v (c.sl ah ch)), (34, g.v (g.sl ag cg)), (36, c.v (c.sl ah ch))], (b9, cel 59 ([.int .i64 0, .int .i64 0, .slice none 0 0])) :: (b7, cel 25 ([.int .i64 0, .int .i64 0, .slice none 0 0])) :: (b4, cel 28 (ctl c (c.sl ah ch))) :: (b3, cel 25 (gtl g (g.sl ag cg))) :: H, RowsA a2 5 (hrows c.hs) :: RowsA a1 5 (grows g.grs) :: R, [(6, Ld Try.prog 28 ⟨b4, 0, none⟩ (c.v (c.sl ah ch))), (4, Ld Try.prog 25 ⟨b3, 0, none⟩ (g.v (g.sl ag cg)))])) (fun v9 => ?_) (fun h1111101010100000 => ?_)
 obtain ⟨a1, c1, a2, c2, b7, b9⟩ := v9
 dsimp only
 unfold pl5_3_1111101010100000
 refine sy_any ?_
 refine sy_alt ?_ ?_
 refine cl rfl cal27 rfl rfl (c_theirs g ag cg (by omega) _ _) ?_
 rintro _ _ R1 ⟨a3, c3, rfl, rfl, hR1⟩
 obtain rfl := hR1.symm
 clear hR1
 refine bg (fun w hs => ⟨((lhA (ctl c (c.sl ah ch)) ag28 rfl rfl rfl)) w hs, trivial, trivial⟩) ?_
 exact sy_to (h1111111010100000 (a1, c1, a2, c2, a3, c3, b7, b9)) (by repeat' first | exact Sub.nil | apply Sub.cons | rfl | (simp [lk]; omega)) (fun _ h => St.sub ((h.pull b7).pull b9))
 refine sy_alt ?_ ?_
 refine alc rfl zl28 rfl (fun b8 => ?_)
 refine bg (fun w hs => ⟨((lhA (ctl c (c.sl ah ch)) ag28 rfl rfl rfl)) w hs, ((lhA (gtl g (g.sl ag cg)) ag25 rfl rfl rfl)) w hs, trivial⟩) ?_
 exact sy_to (h1111101011100000 (a1, c1, a2, c2, b7, b8, b9)) (by repeat' first | exact Sub.nil | apply Sub.cons | rfl | (simp [lk]; omega)) (fun _ h => St.sub (((h.pull b7).pull b8).pull b9))
 refine sy_alt ?_ ?_
 refine alc rfl zl63 rfl (fun b10 => ?_)
 refine bg (fun w hs => ⟨((lhA (ctl c (c.sl ah ch)) ag28 rfl rfl rfl)) w hs, ((lhA (gtl g (g.sl ag cg)) ag25 rfl rfl rfl)) w hs, trivial⟩) ?_
 exact sy_to (h1111101010110000 (a1, c1, a2, c2, b7, b9, b10)) (by repeat' first | exact Sub.nil | apply Sub.cons | rfl | (simp [lk]; omega)) (fun _ h => St.sub (((h.pull b7).pull b9).pull b10))
 exact sy_stop
 refine sy_have (β := Option Addr × {n : Nat // g.grs.length ≤ n} × Option Addr × Nat × Nat × Nat) pl5_3_1111101010010000 (fun ⟨a1, c1, a2, c2, b7, b10⟩ => ([(10, .pointer (some ⟨b10, 0, none⟩)), (7, .pointer (some ⟨b7, 0, none⟩)), (33, c.v (c.sl a2 c2)), (31, g.v (g.sl a1 c1.1)), (2, .int .i64 gr), (3, .pointer (some ⟨b3, 0, none⟩)), (4, .pointer (some ⟨b4, 0, none⟩)), (30, g.v (g.sl ag cg)), (32, c.v (c.sl ah ch)), (34, g.v (g.sl ag cg)), (36, c.v (c.sl ah ch))], (b10, cel 63 ([.int .i64 0, .int .i64 0, .slice none 0 0])) :: (b7, cel 25 ([.int .i64 0, .int .i64 0, .slice none 0 0])) :: (b4, cel 28 (ctl c (c.sl ah ch))) :: (b3, cel 25 (gtl g (g.sl ag cg))) :: H, RowsA a2 5 (hrows c.hs) :: RowsA a1 5 (grows g.grs) :: R, [(6, Ld Try.prog 28 ⟨b4, 0, none⟩ (c.v (c.sl ah ch))), (4, Ld Try.prog 25 ⟨b3, 0, none⟩ (g.v (g.sl ag cg)))])) (fun v9 => ?_) (fun h1111101010010000 => ?_)
 obtain ⟨a1, c1, a2, c2, b7, b10⟩ := v9
 dsimp only
 unfold pl5_3_1111101010010000
 refine sy_any ?_
 refine sy_alt ?_ ?_
 refine cl rfl cal27 rfl rfl (c_theirs g ag cg (by omega) _ _) ?_
 rintro _ _ R1 ⟨a3, c3, rfl, rfl, hR1⟩
 obtain rfl := hR1.symm
 clear hR1
 refine bg (fun w hs => ⟨((lhA (ctl c (c.sl ah ch)) ag28 rfl rfl rfl)) w hs, trivial, trivial⟩) ?_
 exact sy_to (h1111111010010000 (a1, c1, a2, c2, a3, c3, b7, b10)) (by repeat' first | exact Sub.nil | apply Sub.cons | rfl | (simp [lk]; omega)) (fun _ h => St.sub ((h.pull b7).pull b10))
 refine sy_alt ?_ ?_
 refine alc rfl zl28 rfl (fun b8 => ?_)
 refine bg (fun w hs => ⟨((lhA (ctl c (c.sl ah ch)) ag28 rfl rfl rfl)) w hs, ((lhA (gtl g (g.sl ag cg)) ag25 rfl rfl rfl)) w hs, trivial⟩) ?_
 exact sy_to (h1111101011010000 (a1, c1, a2, c2, b7, b8, b10)) (by repeat' first | exact Sub.nil | apply Sub.cons | rfl | (simp [lk]; omega)) (fun _ h => St.sub (((h.pull b7).pull b8).pull b10))
 refine sy_alt ?_ ?_
 refine alc rfl zl59 rfl (fun b9 => ?_)
 refine bg (fun w hs => ⟨((lhA (ctl c (c.sl ah ch)) ag28 rfl rfl rfl)) w hs, ((lhA (gtl g (g.sl ag cg)) ag25 rfl rfl rfl)) w hs, trivial⟩) ?_
 exact sy_to (h1111101010110000 (a1, c1, a2, c2, b7, b9, b10)) (by repeat' first | exact Sub.nil | apply Sub.cons | rfl | (simp [lk]; omega)) (fun _ h => St.sub (((h.pull b7).pull b9).pull b10))
 exact sy_stop
 refine sy_have (β := Option Addr × {n : Nat // g.grs.length ≤ n} × Option Addr × Nat × Nat) pl5_3_1111101010000000 (fun ⟨a1, c1, a2, c2, b7⟩ => ([(7, .pointer (some ⟨b7, 0, none⟩)), (33, c.v (c.sl a2 c2)), (31, g.v (g.sl a1 c1.1)), (2, .int .i64 gr), (3, .pointer (some ⟨b3, 0, none⟩)), (4, .pointer (some ⟨b4, 0, none⟩)), (30, g.v (g.sl ag cg)), (32, c.v (c.sl ah ch)), (34, g.v (g.sl ag cg)), (36, c.v (c.sl ah ch))], (b7, cel 25 ([.int .i64 0, .int .i64 0, .slice none 0 0])) :: (b4, cel 28 (ctl c (c.sl ah ch))) :: (b3, cel 25 (gtl g (g.sl ag cg))) :: H, RowsA a2 5 (hrows c.hs) :: RowsA a1 5 (grows g.grs) :: R, [(6, Ld Try.prog 28 ⟨b4, 0, none⟩ (c.v (c.sl ah ch))), (4, Ld Try.prog 25 ⟨b3, 0, none⟩ (g.v (g.sl ag cg)))])) (fun v9 => ?_) (fun h1111101010000000 => ?_)
 obtain ⟨a1, c1, a2, c2, b7⟩ := v9
 dsimp only
 unfold pl5_3_1111101010000000
 refine sy_any ?_
 refine sy_alt ?_ ?_
 refine cl rfl cal27 rfl rfl (c_theirs g ag cg (by omega) _ _) ?_
 rintro _ _ R1 ⟨a3, c3, rfl, rfl, hR1⟩
 obtain rfl := hR1.symm
 clear hR1
 refine bg (fun w hs => ⟨((lhA (ctl c (c.sl ah ch)) ag28 rfl rfl rfl)) w hs, trivial, trivial⟩) ?_
 exact sy_to (h1111111010000000 (a1, c1, a2, c2, a3, c3, b7)) (by repeat' first | exact Sub.nil | apply Sub.cons | rfl | (simp [lk]; omega)) (fun _ h => St.sub (h.pull b7))
 refine sy_alt ?_ ?_
 refine alc rfl zl28 rfl (fun b8 => ?_)
 refine bg (fun w hs => ⟨((lhA (ctl c (c.sl ah ch)) ag28 rfl rfl rfl)) w hs, ((lhA (gtl g (g.sl ag cg)) ag25 rfl rfl rfl)) w hs, trivial⟩) ?_
 exact sy_to (h1111101011000000 (a1, c1, a2, c2, b7, b8)) (by repeat' first | exact Sub.nil | apply Sub.cons | rfl | (simp [lk]; omega)) (fun _ h => St.sub ((h.pull b7).pull b8))
 refine sy_alt ?_ ?_
 refine alc rfl zl59 rfl (fun b9 => ?_)
 refine bg (fun w hs => ⟨((lhA (ctl c (c.sl ah ch)) ag28 rfl rfl rfl)) w hs, ((lhA (gtl g (g.sl ag cg)) ag25 rfl rfl rfl)) w hs, trivial⟩) ?_
 exact sy_to (h1111101010100000 (a1, c1, a2, c2, b7, b9)) (by repeat' first | exact Sub.nil | apply Sub.cons | rfl | (simp [lk]; omega)) (fun _ h => St.sub ((h.pull b7).pull b9))
 refine sy_alt ?_ ?_
 refine alc rfl zl63 rfl (fun b10 => ?_)
 refine bg (fun w hs => ⟨((lhA (ctl c (c.sl ah ch)) ag28 rfl rfl rfl)) w hs, ((lhA (gtl g (g.sl ag cg)) ag25 rfl rfl rfl)) w hs, trivial⟩) ?_
 exact sy_to (h1111101010010000 (a1, c1, a2, c2, b7, b10)) (by repeat' first | exact Sub.nil | apply Sub.cons | rfl | (simp [lk]; omega)) (fun _ h => St.sub ((h.pull b7).pull b10))
 exact sy_stop
 refine sy_have (β := Option Addr × {n : Nat // g.grs.length ≤ n} × Option Addr × Nat × Nat × Nat × Nat) pl5_3_1111101001110000 (fun ⟨a1, c1, a2, c2, b8, b9, b10⟩ => ([(10, .pointer (some ⟨b10, 0, none⟩)), (9, .pointer (some ⟨b9, 0, none⟩)), (8, .pointer (some ⟨b8, 0, none⟩)), (33, c.v (c.sl a2 c2)), (31, g.v (g.sl a1 c1.1)), (2, .int .i64 gr), (3, .pointer (some ⟨b3, 0, none⟩)), (4, .pointer (some ⟨b4, 0, none⟩)), (30, g.v (g.sl ag cg)), (32, c.v (c.sl ah ch)), (34, g.v (g.sl ag cg)), (36, c.v (c.sl ah ch))], (b10, cel 63 ([.int .i64 0, .int .i64 0, .slice none 0 0])) :: (b9, cel 59 ([.int .i64 0, .int .i64 0, .slice none 0 0])) :: (b8, cel 28 ([.int .i64 0, .int .i64 0, .slice none 0 0])) :: (b4, cel 28 (ctl c (c.sl ah ch))) :: (b3, cel 25 (gtl g (g.sl ag cg))) :: H, RowsA a2 5 (hrows c.hs) :: RowsA a1 5 (grows g.grs) :: R, [(6, Ld Try.prog 28 ⟨b4, 0, none⟩ (c.v (c.sl ah ch))), (4, Ld Try.prog 25 ⟨b3, 0, none⟩ (g.v (g.sl ag cg)))])) (fun v9 => ?_) (fun h1111101001110000 => ?_)
 obtain ⟨a1, c1, a2, c2, b8, b9, b10⟩ := v9
 dsimp only
 unfold pl5_3_1111101001110000
 refine sy_any ?_
 refine sy_alt ?_ ?_
 refine cl rfl cal27 rfl rfl (c_theirs g ag cg (by omega) _ _) ?_
 rintro _ _ R1 ⟨a3, c3, rfl, rfl, hR1⟩
 obtain rfl := hR1.symm
 clear hR1
 refine bg (fun w hs => ⟨((lhA (ctl c (c.sl ah ch)) ag28 rfl rfl rfl)) w hs, trivial, trivial⟩) ?_
 exact sy_to (h1111111001110000 (a1, c1, a2, c2, a3, c3, b8, b9, b10)) (by repeat' first | exact Sub.nil | apply Sub.cons | rfl | (simp [lk]; omega)) (fun _ h => St.sub (((h.pull b8).pull b9).pull b10))
 refine sy_alt ?_ ?_
 refine alc rfl zl25 rfl (fun b7 => ?_)
 refine bg (fun w hs => ⟨((lhA (ctl c (c.sl ah ch)) ag28 rfl rfl rfl)) w hs, ((lhA (gtl g (g.sl ag cg)) ag25 rfl rfl rfl)) w hs, trivial⟩) ?_
 exact sy_to (h1111101011110000 (a1, c1, a2, c2, b7, b8, b9, b10)) (by repeat' first | exact Sub.nil | apply Sub.cons | rfl | (simp [lk]; omega)) (fun _ h => St.sub ((((h.pull b7).pull b8).pull b9).pull b10))
 exact sy_stop
 refine sy_have (β := Option Addr × {n : Nat // g.grs.length ≤ n} × Option Addr × Nat × Nat × Nat) pl5_3_1111101001100000 (fun ⟨a1, c1, a2, c2, b8, b9⟩ => ([(9, .pointer (some ⟨b9, 0, none⟩)), (8, .pointer (some ⟨b8, 0, none⟩)), (33, c.v (c.sl a2 c2)), (31, g.v (g.sl a1 c1.1)), (2, .int .i64 gr), (3, .pointer (some ⟨b3, 0, none⟩)), (4, .pointer (some ⟨b4, 0, none⟩)), (30, g.v (g.sl ag cg)), (32, c.v (c.sl ah ch)), (34, g.v (g.sl ag cg)), (36, c.v (c.sl ah ch))], (b9, cel 59 ([.int .i64 0, .int .i64 0, .slice none 0 0])) :: (b8, cel 28 ([.int .i64 0, .int .i64 0, .slice none 0 0])) :: (b4, cel 28 (ctl c (c.sl ah ch))) :: (b3, cel 25 (gtl g (g.sl ag cg))) :: H, RowsA a2 5 (hrows c.hs) :: RowsA a1 5 (grows g.grs) :: R, [(6, Ld Try.prog 28 ⟨b4, 0, none⟩ (c.v (c.sl ah ch))), (4, Ld Try.prog 25 ⟨b3, 0, none⟩ (g.v (g.sl ag cg)))])) (fun v9 => ?_) (fun h1111101001100000 => ?_)
 obtain ⟨a1, c1, a2, c2, b8, b9⟩ := v9
 dsimp only
 unfold pl5_3_1111101001100000
 refine sy_any ?_
 refine sy_alt ?_ ?_
 refine cl rfl cal27 rfl rfl (c_theirs g ag cg (by omega) _ _) ?_
 rintro _ _ R1 ⟨a3, c3, rfl, rfl, hR1⟩
 obtain rfl := hR1.symm
 clear hR1
 refine bg (fun w hs => ⟨((lhA (ctl c (c.sl ah ch)) ag28 rfl rfl rfl)) w hs, trivial, trivial⟩) ?_
 exact sy_to (h1111111001100000 (a1, c1, a2, c2, a3, c3, b8, b9)) (by repeat' first | exact Sub.nil | apply Sub.cons | rfl | (simp [lk]; omega)) (fun _ h => St.sub ((h.pull b8).pull b9))
 refine sy_alt ?_ ?_
 refine alc rfl zl25 rfl (fun b7 => ?_)
 refine bg (fun w hs => ⟨((lhA (ctl c (c.sl ah ch)) ag28 rfl rfl rfl)) w hs, ((lhA (gtl g (g.sl ag cg)) ag25 rfl rfl rfl)) w hs, trivial⟩) ?_
 exact sy_to (h1111101011100000 (a1, c1, a2, c2, b7, b8, b9)) (by repeat' first | exact Sub.nil | apply Sub.cons | rfl | (simp [lk]; omega)) (fun _ h => St.sub (((h.pull b7).pull b8).pull b9))
 refine sy_alt ?_ ?_
 refine alc rfl zl63 rfl (fun b10 => ?_)
 refine bg (fun w hs => ⟨((lhA (ctl c (c.sl ah ch)) ag28 rfl rfl rfl)) w hs, ((lhA (gtl g (g.sl ag cg)) ag25 rfl rfl rfl)) w hs, trivial⟩) ?_
 exact sy_to (h1111101001110000 (a1, c1, a2, c2, b8, b9, b10)) (by repeat' first | exact Sub.nil | apply Sub.cons | rfl | (simp [lk]; omega)) (fun _ h => St.sub (((h.pull b8).pull b9).pull b10))
 exact sy_stop
 refine sy_have (β := Option Addr × {n : Nat // g.grs.length ≤ n} × Option Addr × Nat × Nat × Nat) pl5_3_1111101001010000 (fun ⟨a1, c1, a2, c2, b8, b10⟩ => ([(10, .pointer (some ⟨b10, 0, none⟩)), (8, .pointer (some ⟨b8, 0, none⟩)), (33, c.v (c.sl a2 c2)), (31, g.v (g.sl a1 c1.1)), (2, .int .i64 gr), (3, .pointer (some ⟨b3, 0, none⟩)), (4, .pointer (some ⟨b4, 0, none⟩)), (30, g.v (g.sl ag cg)), (32, c.v (c.sl ah ch)), (34, g.v (g.sl ag cg)), (36, c.v (c.sl ah ch))], (b10, cel 63 ([.int .i64 0, .int .i64 0, .slice none 0 0])) :: (b8, cel 28 ([.int .i64 0, .int .i64 0, .slice none 0 0])) :: (b4, cel 28 (ctl c (c.sl ah ch))) :: (b3, cel 25 (gtl g (g.sl ag cg))) :: H, RowsA a2 5 (hrows c.hs) :: RowsA a1 5 (grows g.grs) :: R, [(6, Ld Try.prog 28 ⟨b4, 0, none⟩ (c.v (c.sl ah ch))), (4, Ld Try.prog 25 ⟨b3, 0, none⟩ (g.v (g.sl ag cg)))])) (fun v9 => ?_) (fun h1111101001010000 => ?_)
 obtain ⟨a1, c1, a2, c2, b8, b10⟩ := v9
 dsimp only
 unfold pl5_3_1111101001010000
 refine sy_any ?_
 refine sy_alt ?_ ?_
 refine cl rfl cal27 rfl rfl (c_theirs g ag cg (by omega) _ _) ?_
 rintro _ _ R1 ⟨a3, c3, rfl, rfl, hR1⟩
 obtain rfl := hR1.symm
 clear hR1
 refine bg (fun w hs => ⟨((lhA (ctl c (c.sl ah ch)) ag28 rfl rfl rfl)) w hs, trivial, trivial⟩) ?_
 exact sy_to (h1111111001010000 (a1, c1, a2, c2, a3, c3, b8, b10)) (by repeat' first | exact Sub.nil | apply Sub.cons | rfl | (simp [lk]; omega)) (fun _ h => St.sub ((h.pull b8).pull b10))
 refine sy_alt ?_ ?_
 refine alc rfl zl25 rfl (fun b7 => ?_)
 refine bg (fun w hs => ⟨((lhA (ctl c (c.sl ah ch)) ag28 rfl rfl rfl)) w hs, ((lhA (gtl g (g.sl ag cg)) ag25 rfl rfl rfl)) w hs, trivial⟩) ?_
 exact sy_to (h1111101011010000 (a1, c1, a2, c2, b7, b8, b10)) (by repeat' first | exact Sub.nil | apply Sub.cons | rfl | (simp [lk]; omega)) (fun _ h => St.sub (((h.pull b7).pull b8).pull b10))
 refine sy_alt ?_ ?_
 refine alc rfl zl59 rfl (fun b9 => ?_)
 refine bg (fun w hs => ⟨((lhA (ctl c (c.sl ah ch)) ag28 rfl rfl rfl)) w hs, ((lhA (gtl g (g.sl ag cg)) ag25 rfl rfl rfl)) w hs, trivial⟩) ?_
 exact sy_to (h1111101001110000 (a1, c1, a2, c2, b8, b9, b10)) (by repeat' first | exact Sub.nil | apply Sub.cons | rfl | (simp [lk]; omega)) (fun _ h => St.sub (((h.pull b8).pull b9).pull b10))
 exact sy_stop
 refine sy_have (β := Option Addr × {n : Nat // g.grs.length ≤ n} × Option Addr × Nat × Nat) pl5_3_1111101001000000 (fun ⟨a1, c1, a2, c2, b8⟩ => ([(8, .pointer (some ⟨b8, 0, none⟩)), (33, c.v (c.sl a2 c2)), (31, g.v (g.sl a1 c1.1)), (2, .int .i64 gr), (3, .pointer (some ⟨b3, 0, none⟩)), (4, .pointer (some ⟨b4, 0, none⟩)), (30, g.v (g.sl ag cg)), (32, c.v (c.sl ah ch)), (34, g.v (g.sl ag cg)), (36, c.v (c.sl ah ch))], (b8, cel 28 ([.int .i64 0, .int .i64 0, .slice none 0 0])) :: (b4, cel 28 (ctl c (c.sl ah ch))) :: (b3, cel 25 (gtl g (g.sl ag cg))) :: H, RowsA a2 5 (hrows c.hs) :: RowsA a1 5 (grows g.grs) :: R, [(6, Ld Try.prog 28 ⟨b4, 0, none⟩ (c.v (c.sl ah ch))), (4, Ld Try.prog 25 ⟨b3, 0, none⟩ (g.v (g.sl ag cg)))])) (fun v9 => ?_) (fun h1111101001000000 => ?_)
 obtain ⟨a1, c1, a2, c2, b8⟩ := v9
 dsimp only
 unfold pl5_3_1111101001000000
 refine sy_any ?_
 refine sy_alt ?_ ?_
 refine cl rfl cal27 rfl rfl (c_theirs g ag cg (by omega) _ _) ?_
 rintro _ _ R1 ⟨a3, c3, rfl, rfl, hR1⟩
 obtain rfl := hR1.symm
 clear hR1
 refine bg (fun w hs => ⟨((lhA (ctl c (c.sl ah ch)) ag28 rfl rfl rfl)) w hs, trivial, trivial⟩) ?_
 exact sy_to (h1111111001000000 (a1, c1, a2, c2, a3, c3, b8)) (by repeat' first | exact Sub.nil | apply Sub.cons | rfl | (simp [lk]; omega)) (fun _ h => St.sub (h.pull b8))
 refine sy_alt ?_ ?_
 refine alc rfl zl25 rfl (fun b7 => ?_)
 refine bg (fun w hs => ⟨((lhA (ctl c (c.sl ah ch)) ag28 rfl rfl rfl)) w hs, ((lhA (gtl g (g.sl ag cg)) ag25 rfl rfl rfl)) w hs, trivial⟩) ?_
 exact sy_to (h1111101011000000 (a1, c1, a2, c2, b7, b8)) (by repeat' first | exact Sub.nil | apply Sub.cons | rfl | (simp [lk]; omega)) (fun _ h => St.sub ((h.pull b7).pull b8))
 refine sy_alt ?_ ?_
 refine alc rfl zl59 rfl (fun b9 => ?_)
 refine bg (fun w hs => ⟨((lhA (ctl c (c.sl ah ch)) ag28 rfl rfl rfl)) w hs, ((lhA (gtl g (g.sl ag cg)) ag25 rfl rfl rfl)) w hs, trivial⟩) ?_
 exact sy_to (h1111101001100000 (a1, c1, a2, c2, b8, b9)) (by repeat' first | exact Sub.nil | apply Sub.cons | rfl | (simp [lk]; omega)) (fun _ h => St.sub ((h.pull b8).pull b9))
 refine sy_alt ?_ ?_
 refine alc rfl zl63 rfl (fun b10 => ?_)
 refine bg (fun w hs => ⟨((lhA (ctl c (c.sl ah ch)) ag28 rfl rfl rfl)) w hs, ((lhA (gtl g (g.sl ag cg)) ag25 rfl rfl rfl)) w hs, trivial⟩) ?_
 exact sy_to (h1111101001010000 (a1, c1, a2, c2, b8, b10)) (by repeat' first | exact Sub.nil | apply Sub.cons | rfl | (simp [lk]; omega)) (fun _ h => St.sub ((h.pull b8).pull b10))
 exact sy_stop
 refine sy_have (β := Option Addr × {n : Nat // g.grs.length ≤ n} × Option Addr × Nat × Nat × Nat) pl5_3_1111101000110000 (fun ⟨a1, c1, a2, c2, b9, b10⟩ => ([(10, .pointer (some ⟨b10, 0, none⟩)), (9, .pointer (some ⟨b9, 0, none⟩)), (33, c.v (c.sl a2 c2)), (31, g.v (g.sl a1 c1.1)), (2, .int .i64 gr), (3, .pointer (some ⟨b3, 0, none⟩)), (4, .pointer (some ⟨b4, 0, none⟩)), (30, g.v (g.sl ag cg)), (32, c.v (c.sl ah ch)), (34, g.v (g.sl ag cg)), (36, c.v (c.sl ah ch))], (b10, cel 63 ([.int .i64 0, .int .i64 0, .slice none 0 0])) :: (b9, cel 59 ([.int .i64 0, .int .i64 0, .slice none 0 0])) :: (b4, cel 28 (ctl c (c.sl ah ch))) :: (b3, cel 25 (gtl g (g.sl ag cg))) :: H, RowsA a2 5 (hrows c.hs) :: RowsA a1 5 (grows g.grs) :: R, [(6, Ld Try.prog 28 ⟨b4, 0, none⟩ (c.v (c.sl ah ch))), (4, Ld Try.prog 25 ⟨b3, 0, none⟩ (g.v (g.sl ag cg)))])) (fun v9 => ?_) (fun h1111101000110000 => ?_)
 obtain ⟨a1, c1, a2, c2, b9, b10⟩ := v9
 dsimp only
 unfold pl5_3_1111101000110000
 refine sy_any ?_
 refine sy_alt ?_ ?_
 refine cl rfl cal27 rfl rfl (c_theirs g ag cg (by omega) _ _) ?_
 rintro _ _ R1 ⟨a3, c3, rfl, rfl, hR1⟩
 obtain rfl := hR1.symm
 clear hR1
 refine bg (fun w hs => ⟨((lhA (ctl c (c.sl ah ch)) ag28 rfl rfl rfl)) w hs, trivial, trivial⟩) ?_
 exact sy_to (h1111111000110000 (a1, c1, a2, c2, a3, c3, b9, b10)) (by repeat' first | exact Sub.nil | apply Sub.cons | rfl | (simp [lk]; omega)) (fun _ h => St.sub ((h.pull b9).pull b10))
 refine sy_alt ?_ ?_
 refine alc rfl zl25 rfl (fun b7 => ?_)
 refine bg (fun w hs => ⟨((lhA (ctl c (c.sl ah ch)) ag28 rfl rfl rfl)) w hs, ((lhA (gtl g (g.sl ag cg)) ag25 rfl rfl rfl)) w hs, trivial⟩) ?_
 exact sy_to (h1111101010110000 (a1, c1, a2, c2, b7, b9, b10)) (by repeat' first | exact Sub.nil | apply Sub.cons | rfl | (simp [lk]; omega)) (fun _ h => St.sub (((h.pull b7).pull b9).pull b10))
 refine sy_alt ?_ ?_
 refine alc rfl zl28 rfl (fun b8 => ?_)
 refine bg (fun w hs => ⟨((lhA (ctl c (c.sl ah ch)) ag28 rfl rfl rfl)) w hs, ((lhA (gtl g (g.sl ag cg)) ag25 rfl rfl rfl)) w hs, trivial⟩) ?_
 exact sy_to (h1111101001110000 (a1, c1, a2, c2, b8, b9, b10)) (by repeat' first | exact Sub.nil | apply Sub.cons | rfl | (simp [lk]; omega)) (fun _ h => St.sub (((h.pull b8).pull b9).pull b10))
 exact sy_stop
 refine sy_have (β := Option Addr × {n : Nat // g.grs.length ≤ n} × Option Addr × Nat × Nat) pl5_3_1111101000100000 (fun ⟨a1, c1, a2, c2, b9⟩ => ([(9, .pointer (some ⟨b9, 0, none⟩)), (33, c.v (c.sl a2 c2)), (31, g.v (g.sl a1 c1.1)), (2, .int .i64 gr), (3, .pointer (some ⟨b3, 0, none⟩)), (4, .pointer (some ⟨b4, 0, none⟩)), (30, g.v (g.sl ag cg)), (32, c.v (c.sl ah ch)), (34, g.v (g.sl ag cg)), (36, c.v (c.sl ah ch))], (b9, cel 59 ([.int .i64 0, .int .i64 0, .slice none 0 0])) :: (b4, cel 28 (ctl c (c.sl ah ch))) :: (b3, cel 25 (gtl g (g.sl ag cg))) :: H, RowsA a2 5 (hrows c.hs) :: RowsA a1 5 (grows g.grs) :: R, [(6, Ld Try.prog 28 ⟨b4, 0, none⟩ (c.v (c.sl ah ch))), (4, Ld Try.prog 25 ⟨b3, 0, none⟩ (g.v (g.sl ag cg)))])) (fun v9 => ?_) (fun h1111101000100000 => ?_)
 obtain ⟨a1, c1, a2, c2, b9⟩ := v9
 dsimp only
 unfold pl5_3_1111101000100000
 refine sy_any ?_
 refine sy_alt ?_ ?_
 refine cl rfl cal27 rfl rfl (c_theirs g ag cg (by omega) _ _) ?_
 rintro _ _ R1 ⟨a3, c3, rfl, rfl, hR1⟩
 obtain rfl := hR1.symm
 clear hR1
 refine bg (fun w hs => ⟨((lhA (ctl c (c.sl ah ch)) ag28 rfl rfl rfl)) w hs, trivial, trivial⟩) ?_
 exact sy_to (h1111111000100000 (a1, c1, a2, c2, a3, c3, b9)) (by repeat' first | exact Sub.nil | apply Sub.cons | rfl | (simp [lk]; omega)) (fun _ h => St.sub (h.pull b9))
 refine sy_alt ?_ ?_
 refine alc rfl zl25 rfl (fun b7 => ?_)
 refine bg (fun w hs => ⟨((lhA (ctl c (c.sl ah ch)) ag28 rfl rfl rfl)) w hs, ((lhA (gtl g (g.sl ag cg)) ag25 rfl rfl rfl)) w hs, trivial⟩) ?_
 exact sy_to (h1111101010100000 (a1, c1, a2, c2, b7, b9)) (by repeat' first | exact Sub.nil | apply Sub.cons | rfl | (simp [lk]; omega)) (fun _ h => St.sub ((h.pull b7).pull b9))
 refine sy_alt ?_ ?_
 refine alc rfl zl28 rfl (fun b8 => ?_)
 refine bg (fun w hs => ⟨((lhA (ctl c (c.sl ah ch)) ag28 rfl rfl rfl)) w hs, ((lhA (gtl g (g.sl ag cg)) ag25 rfl rfl rfl)) w hs, trivial⟩) ?_
 exact sy_to (h1111101001100000 (a1, c1, a2, c2, b8, b9)) (by repeat' first | exact Sub.nil | apply Sub.cons | rfl | (simp [lk]; omega)) (fun _ h => St.sub ((h.pull b8).pull b9))
 refine sy_alt ?_ ?_
 refine alc rfl zl63 rfl (fun b10 => ?_)
 refine bg (fun w hs => ⟨((lhA (ctl c (c.sl ah ch)) ag28 rfl rfl rfl)) w hs, ((lhA (gtl g (g.sl ag cg)) ag25 rfl rfl rfl)) w hs, trivial⟩) ?_
 exact sy_to (h1111101000110000 (a1, c1, a2, c2, b9, b10)) (by repeat' first | exact Sub.nil | apply Sub.cons | rfl | (simp [lk]; omega)) (fun _ h => St.sub ((h.pull b9).pull b10))
 exact sy_stop
 refine sy_have (β := Option Addr × {n : Nat // g.grs.length ≤ n} × Option Addr × Nat × Nat) pl5_3_1111101000010000 (fun ⟨a1, c1, a2, c2, b10⟩ => ([(10, .pointer (some ⟨b10, 0, none⟩)), (33, c.v (c.sl a2 c2)), (31, g.v (g.sl a1 c1.1)), (2, .int .i64 gr), (3, .pointer (some ⟨b3, 0, none⟩)), (4, .pointer (some ⟨b4, 0, none⟩)), (30, g.v (g.sl ag cg)), (32, c.v (c.sl ah ch)), (34, g.v (g.sl ag cg)), (36, c.v (c.sl ah ch))], (b10, cel 63 ([.int .i64 0, .int .i64 0, .slice none 0 0])) :: (b4, cel 28 (ctl c (c.sl ah ch))) :: (b3, cel 25 (gtl g (g.sl ag cg))) :: H, RowsA a2 5 (hrows c.hs) :: RowsA a1 5 (grows g.grs) :: R, [(6, Ld Try.prog 28 ⟨b4, 0, none⟩ (c.v (c.sl ah ch))), (4, Ld Try.prog 25 ⟨b3, 0, none⟩ (g.v (g.sl ag cg)))])) (fun v9 => ?_) (fun h1111101000010000 => ?_)
 obtain ⟨a1, c1, a2, c2, b10⟩ := v9
 dsimp only
 unfold pl5_3_1111101000010000
 refine sy_any ?_
 refine sy_alt ?_ ?_
 refine cl rfl cal27 rfl rfl (c_theirs g ag cg (by omega) _ _) ?_
 rintro _ _ R1 ⟨a3, c3, rfl, rfl, hR1⟩
 obtain rfl := hR1.symm
 clear hR1
 refine bg (fun w hs => ⟨((lhA (ctl c (c.sl ah ch)) ag28 rfl rfl rfl)) w hs, trivial, trivial⟩) ?_
 exact sy_to (h1111111000010000 (a1, c1, a2, c2, a3, c3, b10)) (by repeat' first | exact Sub.nil | apply Sub.cons | rfl | (simp [lk]; omega)) (fun _ h => St.sub (h.pull b10))
 refine sy_alt ?_ ?_
 refine alc rfl zl25 rfl (fun b7 => ?_)
 refine bg (fun w hs => ⟨((lhA (ctl c (c.sl ah ch)) ag28 rfl rfl rfl)) w hs, ((lhA (gtl g (g.sl ag cg)) ag25 rfl rfl rfl)) w hs, trivial⟩) ?_
 exact sy_to (h1111101010010000 (a1, c1, a2, c2, b7, b10)) (by repeat' first | exact Sub.nil | apply Sub.cons | rfl | (simp [lk]; omega)) (fun _ h => St.sub ((h.pull b7).pull b10))
 refine sy_alt ?_ ?_
 refine alc rfl zl28 rfl (fun b8 => ?_)
 refine bg (fun w hs => ⟨((lhA (ctl c (c.sl ah ch)) ag28 rfl rfl rfl)) w hs, ((lhA (gtl g (g.sl ag cg)) ag25 rfl rfl rfl)) w hs, trivial⟩) ?_
 exact sy_to (h1111101001010000 (a1, c1, a2, c2, b8, b10)) (by repeat' first | exact Sub.nil | apply Sub.cons | rfl | (simp [lk]; omega)) (fun _ h => St.sub ((h.pull b8).pull b10))
 refine sy_alt ?_ ?_
 refine alc rfl zl59 rfl (fun b9 => ?_)
 refine bg (fun w hs => ⟨((lhA (ctl c (c.sl ah ch)) ag28 rfl rfl rfl)) w hs, ((lhA (gtl g (g.sl ag cg)) ag25 rfl rfl rfl)) w hs, trivial⟩) ?_
 exact sy_to (h1111101000110000 (a1, c1, a2, c2, b9, b10)) (by repeat' first | exact Sub.nil | apply Sub.cons | rfl | (simp [lk]; omega)) (fun _ h => St.sub ((h.pull b9).pull b10))
 exact sy_stop
 refine sy_have (β := Option Addr × {n : Nat // g.grs.length ≤ n} × Nat × Nat × Nat × Nat) pl5_3_1110101011110000 (fun ⟨a1, c1, b7, b8, b9, b10⟩ => ([(10, .pointer (some ⟨b10, 0, none⟩)), (9, .pointer (some ⟨b9, 0, none⟩)), (8, .pointer (some ⟨b8, 0, none⟩)), (7, .pointer (some ⟨b7, 0, none⟩)), (31, g.v (g.sl a1 c1.1)), (2, .int .i64 gr), (3, .pointer (some ⟨b3, 0, none⟩)), (4, .pointer (some ⟨b4, 0, none⟩)), (30, g.v (g.sl ag cg)), (32, c.v (c.sl ah ch)), (34, g.v (g.sl ag cg)), (36, c.v (c.sl ah ch))], (b10, cel 63 ([.int .i64 0, .int .i64 0, .slice none 0 0])) :: (b9, cel 59 ([.int .i64 0, .int .i64 0, .slice none 0 0])) :: (b8, cel 28 ([.int .i64 0, .int .i64 0, .slice none 0 0])) :: (b7, cel 25 ([.int .i64 0, .int .i64 0, .slice none 0 0])) :: (b4, cel 28 (ctl c (c.sl ah ch))) :: (b3, cel 25 (gtl g (g.sl ag cg))) :: H, RowsA a1 5 (grows g.grs) :: R, [(6, Ld Try.prog 28 ⟨b4, 0, none⟩ (c.v (c.sl ah ch))), (4, Ld Try.prog 25 ⟨b3, 0, none⟩ (g.v (g.sl ag cg))), (2, Ld Try.prog 28 ⟨b4, 0, none⟩ (c.v (c.sl ah ch)))])) (fun v9 => ?_) (fun h1110101011110000 => ?_)
 obtain ⟨a1, c1, b7, b8, b9, b10⟩ := v9
 dsimp only
 unfold pl5_3_1110101011110000
 refine cl rfl cal26 rfl rfl (c_Owned c ah ch (by omega) _ _) ?_
 rintro _ _ R1 ⟨o, rfl, ho, rfl, hR1⟩
 obtain rfl := hR1.symm
 clear hR1
 obtain ⟨a2, c2, he, hf⟩ := o.freeze
 rw [he]
 refine Sy.heap (H' := _) (fun w h => hf h) ?_
 rw [show (hrows c.hs).length = c.hs.length from List.length_map _]
 clear he hf
 refine bg (fun w hs => ⟨((lhA (ctl c (c.sl ah ch)) ag28 rfl rfl rfl)) w hs, ((lhA (gtl g (g.sl ag cg)) ag25 rfl rfl rfl)) w hs, trivial, trivial⟩) ?_
 exact sy_to (h1111101011110000 (a1, c1, a2, c2, b7, b8, b9, b10)) (by repeat' first | exact Sub.nil | apply Sub.cons | rfl | (simp [lk]; omega)) (fun _ h => St.sub ((((h.pull b7).pull b8).pull b9).pull b10))
 refine sy_have (β := Option Addr × {n : Nat // g.grs.length ≤ n} × Nat × Nat × Nat) pl5_3_1110101011100000 (fun ⟨a1, c1, b7, b8, b9⟩ => ([(9, .pointer (some ⟨b9, 0, none⟩)), (8, .pointer (some ⟨b8, 0, none⟩)), (7, .pointer (some ⟨b7, 0, none⟩)), (31, g.v (g.sl a1 c1.1)), (2, .int .i64 gr), (3, .pointer (some ⟨b3, 0, none⟩)), (4, .pointer (some ⟨b4, 0, none⟩)), (30, g.v (g.sl ag cg)), (32, c.v (c.sl ah ch)), (34, g.v (g.sl ag cg)), (36, c.v (c.sl ah ch))], (b9, cel 59 ([.int .i64 0, .int .i64 0, .slice none 0 0])) :: (b8, cel 28 ([.int .i64 0, .int .i64 0, .slice none 0 0])) :: (b7, cel 25 ([.int .i64 0, .int .i64 0, .slice none 0 0])) :: (b4, cel 28 (ctl c (c.sl ah ch))) :: (b3, cel 25 (gtl g (g.sl ag cg))) :: H, RowsA a1 5 (grows g.grs) :: R, [(6, Ld Try.prog 28 ⟨b4, 0, none⟩ (c.v (c.sl ah ch))), (4, Ld Try.prog 25 ⟨b3, 0, none⟩ (g.v (g.sl ag cg))), (2, Ld Try.prog 28 ⟨b4, 0, none⟩ (c.v (c.sl ah ch)))])) (fun v9 => ?_) (fun h1110101011100000 => ?_)
 obtain ⟨a1, c1, b7, b8, b9⟩ := v9
 dsimp only
 unfold pl5_3_1110101011100000
 refine sy_any ?_
 refine sy_alt ?_ ?_
 refine cl rfl cal26 rfl rfl (c_Owned c ah ch (by omega) _ _) ?_
 rintro _ _ R1 ⟨o, rfl, ho, rfl, hR1⟩
 obtain rfl := hR1.symm
 clear hR1
 obtain ⟨a2, c2, he, hf⟩ := o.freeze
 rw [he]
 refine Sy.heap (H' := _) (fun w h => hf h) ?_
 rw [show (hrows c.hs).length = c.hs.length from List.length_map _]
 clear he hf
 refine bg (fun w hs => ⟨((lhA (ctl c (c.sl ah ch)) ag28 rfl rfl rfl)) w hs, ((lhA (gtl g (g.sl ag cg)) ag25 rfl rfl rfl)) w hs, trivial, trivial⟩) ?_
 exact sy_to (h1111101011100000 (a1, c1, a2, c2, b7, b8, b9)) (by repeat' first | exact Sub.nil | apply Sub.cons | rfl | (simp [lk]; omega)) (fun _ h => St.sub (((h.pull b7).pull b8).pull b9))
 refine sy_alt ?_ ?_
 refine alc rfl zl63 rfl (fun b10 => ?_)
 refine bg (fun w hs => ⟨((lhA (ctl c (c.sl ah ch)) ag28 rfl rfl rfl)) w hs, ((lhA (gtl g (g.sl ag cg)) ag25 rfl rfl rfl)) w hs, ((lhA (ctl c (c.sl ah ch)) ag28 rfl rfl rfl)) w hs, trivial⟩) ?_
 exact sy_to (h1110101011110000 (a1, c1, b7, b8, b9, b10)) (by repeat' first | exact Sub.nil | apply Sub.cons | rfl | (simp [lk]; omega)) (fun _ h => St.sub ((((h.pull b7).pull b8).pull b9).pull b10))
 exact sy_stop
 refine sy_have (β := Option Addr × {n : Nat // g.grs.length ≤ n} × Nat × Nat × Nat) pl5_3_1110101011010000 (fun ⟨a1, c1, b7, b8, b10⟩ => ([(10, .pointer (some ⟨b10, 0, none⟩)), (8, .pointer (some ⟨b8, 0, none⟩)), (7, .pointer (some ⟨b7, 0, none⟩)), (31, g.v (g.sl a1 c1.1)), (2, .int .i64 gr), (3, .pointer (some ⟨b3, 0, none⟩)), (4, .pointer (some ⟨b4, 0, none⟩)), (30, g.v (g.sl ag cg)), (32, c.v (c.sl ah ch)), (34, g.v (g.sl ag cg)), (36, c.v (c.sl ah ch))], (b10, cel 63 ([.int .i64 0, .int .i64 0, .slice none 0 0])) :: (b8, cel 28 ([.int .i64 0, .int .i64 0, .slice none 0 0])) :: (b7, cel 25 ([.int .i64 0, .int .i64 0, .slice none 0 0])) :: (b4, cel 28 (ctl c (c.sl ah ch))) :: (b3, cel 25 (gtl g (g.sl ag cg))) :: H, RowsA a1 5 (grows g.grs) :: R, [(6, Ld Try.prog 28 ⟨b4, 0, none⟩ (c.v (c.sl ah ch))), (4, Ld Try.prog 25 ⟨b3, 0, none⟩ (g.v (g.sl ag cg))), (2, Ld Try.prog 28 ⟨b4, 0, none⟩ (c.v (c.sl ah ch)))])) (fun v9 => ?_) (fun h1110101011010000 => ?_)
 obtain ⟨a1, c1, b7, b8, b10⟩ := v9
 dsimp only
 unfold pl5_3_1110101011010000
 refine sy_any ?_
 refine sy_alt ?_ ?_
 refine cl rfl cal26 rfl rfl (c_Owned c ah ch (by omega) _ _) ?_
 rintro _ _ R1 ⟨o, rfl, ho, rfl, hR1⟩
 obtain rfl := hR1.symm
 clear hR1
 obtain ⟨a2, c2, he, hf⟩ := o.freeze
 rw [he]
 refine Sy.heap (H' := _) (fun w h => hf h) ?_
 rw [show (hrows c.hs).length = c.hs.length from List.length_map _]
 clear he hf
 refine bg (fun w hs => ⟨((lhA (ctl c (c.sl ah ch)) ag28 rfl rfl rfl)) w hs, ((lhA (gtl g (g.sl ag cg)) ag25 rfl rfl rfl)) w hs, trivial, trivial⟩) ?_
 exact sy_to (h1111101011010000 (a1, c1, a2, c2, b7, b8, b10)) (by repeat' first | exact Sub.nil | apply Sub.cons | rfl | (simp [lk]; omega)) (fun _ h => St.sub (((h.pull b7).pull b8).pull b10))
 refine sy_alt ?_ ?_
 refine alc rfl zl59 rfl (fun b9 => ?_)
 refine bg (fun w hs => ⟨((lhA (ctl c (c.sl ah ch)) ag28 rfl rfl rfl)) w hs, ((lhA (gtl g (g.sl ag cg)) ag25 rfl rfl rfl)) w hs, ((lhA (ctl c (c.sl ah ch)) ag28 rfl rfl rfl)) w hs, trivial⟩) ?_
 exact sy_to (h1110101011110000 (a1, c1, b7, b8, b9, b10)) (by repeat' first | exact Sub.nil | apply Sub.cons | rfl | (simp [lk]; omega)) (fun _ h => St.sub ((((h.pull b7).pull b8).pull b9).pull b10))
 exact sy_stop
 refine sy_have (β := Option Addr × {n : Nat // g.grs.length ≤ n} × Nat × Nat) pl5_3_1110101011000000 (fun ⟨a1, c1, b7, b8⟩ => ([(8, .pointer (some ⟨b8, 0, none⟩)), (7, .pointer (some ⟨b7, 0, none⟩)), (31, g.v (g.sl a1 c1.1)), (2, .int .i64 gr), (3, .pointer (some ⟨b3, 0, none⟩)), (4, .pointer (some ⟨b4, 0, none⟩)), (30, g.v (g.sl ag cg)), (32, c.v (c.sl ah ch)), (34, g.v (g.sl ag cg)), (36, c.v (c.sl ah ch))], (b8, cel 28 ([.int .i64 0, .int .i64 0, .slice none 0 0])) :: (b7, cel 25 ([.int .i64 0, .int .i64 0, .slice none 0 0])) :: (b4, cel 28 (ctl c (c.sl ah ch))) :: (b3, cel 25 (gtl g (g.sl ag cg))) :: H, RowsA a1 5 (grows g.grs) :: R, [(6, Ld Try.prog 28 ⟨b4, 0, none⟩ (c.v (c.sl ah ch))), (4, Ld Try.prog 25 ⟨b3, 0, none⟩ (g.v (g.sl ag cg))), (2, Ld Try.prog 28 ⟨b4, 0, none⟩ (c.v (c.sl ah ch)))])) (fun v9 => ?_) (fun h1110101011000000 => ?_)
 obtain ⟨a1, c1, b7, b8⟩ := v9
 dsimp only
 unfold pl5_3_1110101011000000
 refine sy_any ?_
 refine sy_alt ?_ ?_
 refine cl rfl cal26 rfl rfl (c_Owned c ah ch (by omega) _ _) ?_
 rintro _ _ R1 ⟨o, rfl, ho, rfl, hR1⟩
 obtain rfl := hR1.symm
 clear hR1
 obtain ⟨a2, c2, he, hf⟩ := o.freeze
 rw [he]
 refine Sy.heap (H' := _) (fun w h => hf h) ?_
 rw [show (hrows c.hs).length = c.hs.length from List.length_map _]
 clear he hf
 refine bg (fun w hs => ⟨((lhA (ctl c (c.sl ah ch)) ag28 rfl rfl rfl)) w hs, ((lhA (gtl g (g.sl ag cg)) ag25 rfl rfl rfl)) w hs, trivial, trivial⟩) ?_
 exact sy_to (h1111101011000000 (a1, c1, a2, c2, b7, b8)) (by repeat' first | exact Sub.nil | apply Sub.cons | rfl | (simp [lk]; omega)) (fun _ h => St.sub ((h.pull b7).pull b8))
 refine sy_alt ?_ ?_
 refine alc rfl zl59 rfl (fun b9 => ?_)
 refine bg (fun w hs => ⟨((lhA (ctl c (c.sl ah ch)) ag28 rfl rfl rfl)) w hs, ((lhA (gtl g (g.sl ag cg)) ag25 rfl rfl rfl)) w hs, ((lhA (ctl c (c.sl ah ch)) ag28 rfl rfl rfl)) w hs, trivial⟩) ?_
 exact sy_to (h1110101011100000 (a1, c1, b7, b8, b9)) (by repeat' first | exact Sub.nil | apply Sub.cons | rfl | (simp [lk]; omega)) (fun _ h => St.sub (((h.pull b7).pull b8).pull b9))
 refine sy_alt ?_ ?_
 refine alc rfl zl63 rfl (fun b10 => ?_)
 refine bg (fun w hs => ⟨((lhA (ctl c (c.sl ah ch)) ag28 rfl rfl rfl)) w hs, ((lhA (gtl g (g.sl ag cg)) ag25 rfl rfl rfl)) w hs, ((lhA (ctl c (c.sl ah ch)) ag28 rfl rfl rfl)) w hs, trivial⟩) ?_
 exact sy_to (h1110101011010000 (a1, c1, b7, b8, b10)) (by repeat' first | exact Sub.nil | apply Sub.cons | rfl | (simp [lk]; omega)) (fun _ h => St.sub (((h.pull b7).pull b8).pull b10))
 exact sy_stop
 refine sy_have (β := Option Addr × {n : Nat // g.grs.length ≤ n} × Nat × Nat × Nat) pl5_3_1110101010110000 (fun ⟨a1, c1, b7, b9, b10⟩ => ([(10, .pointer (some ⟨b10, 0, none⟩)), (9, .pointer (some ⟨b9, 0, none⟩)), (7, .pointer (some ⟨b7, 0, none⟩)), (31, g.v (g.sl a1 c1.1)), (2, .int .i64 gr), (3, .pointer (some ⟨b3, 0, none⟩)), (4, .pointer (some ⟨b4, 0, none⟩)), (30, g.v (g.sl ag cg)), (32, c.v (c.sl ah ch)), (34, g.v (g.sl ag cg)), (36, c.v (c.sl ah ch))], (b10, cel 63 ([.int .i64 0, .int .i64 0, .slice none 0 0])) :: (b9, cel 59 ([.int .i64 0, .int .i64 0, .slice none 0 0])) :: (b7, cel 25 ([.int .i64 0, .int .i64 0, .slice none 0 0])) :: (b4, cel 28 (ctl c (c.sl ah ch))) :: (b3, cel 25 (gtl g (g.sl ag cg))) :: H, RowsA a1 5 (grows g.grs) :: R, [(6, Ld Try.prog 28 ⟨b4, 0, none⟩ (c.v (c.sl ah ch))), (4, Ld Try.prog 25 ⟨b3, 0, none⟩ (g.v (g.sl ag cg))), (2, Ld Try.prog 28 ⟨b4, 0, none⟩ (c.v (c.sl ah ch)))])) (fun v9 => ?_) (fun h1110101010110000 => ?_)
 obtain ⟨a1, c1, b7, b9, b10⟩ := v9
 dsimp only
 unfold pl5_3_1110101010110000
 refine sy_any ?_
 refine sy_alt ?_ ?_
 refine cl rfl cal26 rfl rfl (c_Owned c ah ch (by omega) _ _) ?_
 rintro _ _ R1 ⟨o, rfl, ho, rfl, hR1⟩
 obtain rfl := hR1.symm
 clear hR1
 obtain ⟨a2, c2, he, hf⟩ := o.freeze
 rw [he]
 refine Sy.heap (H' := _) (fun w h => hf h) ?_
 rw [show (hrows c.hs).length = c.hs.length from List.length_map _]
 clear he hf
 refine bg (fun w hs => ⟨((lhA (ctl c (c.sl ah ch)) ag28 rfl rfl rfl)) w hs, ((lhA (gtl g (g.sl ag cg)) ag25 rfl rfl rfl)) w hs, trivial, trivial⟩) ?_
 exact sy_to (h1111101010110000 (a1, c1, a2, c2, b7, b9, b10)) (by repeat' first | exact Sub.nil | apply Sub.cons | rfl | (simp [lk]; omega)) (fun _ h => St.sub (((h.pull b7).pull b9).pull b10))
 refine sy_alt ?_ ?_
 refine alc rfl zl28 rfl (fun b8 => ?_)
 refine bg (fun w hs => ⟨((lhA (ctl c (c.sl ah ch)) ag28 rfl rfl rfl)) w hs, ((lhA (gtl g (g.sl ag cg)) ag25 rfl rfl rfl)) w hs, ((lhA (ctl c (c.sl ah ch)) ag28 rfl rfl rfl)) w hs, trivial⟩) ?_
 exact sy_to (h1110101011110000 (a1, c1, b7, b8, b9, b10)) (by repeat' first | exact Sub.nil | apply Sub.cons | rfl | (simp [lk]; omega)) (fun _ h => St.sub ((((h.pull b7).pull b8).pull b9).pull b10))
 exact sy_stop
 refine sy_have (β := Option Addr × {n : Nat // g.grs.length ≤ n} × Nat × Nat) pl5_3_1110101010100000 (fun ⟨a1, c1, b7, b9⟩ => ([(9, .pointer (some ⟨b9, 0, none⟩)), (7, .pointer (some ⟨b7, 0, none⟩)), (31, g.v (g.sl a1 c1.1)), (2, .int .i64 gr), (3, .pointer (some ⟨b3, 0, none⟩)), (4, .pointer (some ⟨b4, 0, none⟩)), (30, g.v (g.sl ag cg)), (32, c.v (c.sl ah ch)), (34, g.v (g.sl ag cg)), (36, c.v (c.sl ah ch))], (b9, cel 59 ([.int .i64 0, .int .i64 0, .slice none 0 0])) :: (b7, cel 25 ([.int .i64 0, .int .i64 0, .slice none 0 0])) :: (b4, cel 28 (ctl c (c.sl ah ch))) :: (b3, cel 25 (gtl g (g.sl ag cg))) :: H, RowsA a1 5 (grows g.grs) :: R, [(6, Ld Try.prog 28 ⟨b4, 0, none⟩ (c.v (c.sl ah ch))), (4, Ld Try.prog 25 ⟨b3, 0, none⟩ (g.v (g.sl ag cg))), (2, Ld Try.prog 28 ⟨b4, 0, none⟩ (c.v (c.sl ah ch)))])) (fun v9 => ?_) (fun h1110101010100000 => ?_)
 obtain ⟨a1, c1, b7, b9⟩ := v9
 dsimp only
 unfold pl5_3_1110101010100000
 refine sy_any ?_
 refine sy_alt ?_ ?_
 refine cl rfl cal26 rfl rfl (c_Owned c ah ch (by omega) _ _) ?_
 rintro _ _ R1 ⟨o, rfl, ho, rfl, hR1⟩
 obtain rfl := hR1.symm
 clear hR1
 obtain ⟨a2, c2, he, hf⟩ := o.freeze
 rw [he]
 refine Sy.heap (H' := _) (fun w h => hf h) ?_
 rw [show (hrows c.hs).length = c.hs.length from List.length_map _]
 clear he hf
 refine bg (fun w hs => ⟨((lhA (ctl c (c.sl ah ch)) ag28 rfl rfl rfl)) w hs, ((lhA (gtl g (g.sl ag cg)) ag25 rfl rfl rfl)) w hs, trivial, trivial⟩) ?_
 exact sy_to (h1111101010100000 (a1, c1, a2, c2, b7, b9)) (by repeat' first | exact Sub.nil | apply Sub.cons | rfl | (simp [lk]; omega)) (fun _ h => St.sub ((h.pull b7).pull b9))
 refine sy_alt ?_ ?_
 refine alc rfl zl28 rfl (fun b8 => ?_)
 refine bg (fun w hs => ⟨((lhA (ctl c (c.sl ah ch)) ag28 rfl rfl rfl)) w hs, ((lhA (gtl g (g.sl ag cg)) ag25 rfl rfl rfl)) w hs, ((lhA (ctl c (c.sl ah ch)) ag28 rfl rfl rfl)) w hs, trivial⟩) ?_
 exact sy_to (h1110101011100000 (a1, c1, b7, b8, b9)) (by repeat' first | exact Sub.nil | apply Sub.cons | rfl | (simp [lk]; omega)) (fun _ h => St.sub (((h.pull b7).pull b8).pull b9))
 refine sy_alt ?_ ?_
 refine alc rfl zl63 rfl (fun b10 => ?_)
 refine bg (fun w hs => ⟨((lhA (ctl c (c.sl ah ch)) ag28 rfl rfl rfl)) w hs, ((lhA (gtl g (g.sl ag cg)) ag25 rfl rfl rfl)) w hs, ((lhA (ctl c (c.sl ah ch)) ag28 rfl rfl rfl)) w hs, trivial⟩) ?_
 exact sy_to (h1110101010110000 (a1, c1, b7, b9, b10)) (by repeat' first | exact Sub.nil | apply Sub.cons | rfl | (simp [lk]; omega)) (fun _ h => St.sub (((h.pull b7).pull b9).pull b10))
 exact sy_stop
 refine sy_have (β := Option Addr × {n : Nat // g.grs.length ≤ n} × Nat × Nat) pl5_3_1110101010010000 (fun ⟨a1, c1, b7, b10⟩ => ([(10, .pointer (some ⟨b10, 0, none⟩)), (7, .pointer (some ⟨b7, 0, none⟩)), (31, g.v (g.sl a1 c1.1)), (2, .int .i64 gr), (3, .pointer (some ⟨b3, 0, none⟩)), (4, .pointer (some ⟨b4, 0, none⟩)), (30, g.v (g.sl ag cg)), (32, c.v (c.sl ah ch)), (34, g.v (g.sl ag cg)), (36, c.v (c.sl ah ch))], (b10, cel 63 ([.int .i64 0, .int .i64 0, .slice none 0 0])) :: (b7, cel 25 ([.int .i64 0, .int .i64 0, .slice none 0 0])) :: (b4, cel 28 (ctl c (c.sl ah ch))) :: (b3, cel 25 (gtl g (g.sl ag cg))) :: H, RowsA a1 5 (grows g.grs) :: R, [(6, Ld Try.prog 28 ⟨b4, 0, none⟩ (c.v (c.sl ah ch))), (4, Ld Try.prog 25 ⟨b3, 0, none⟩ (g.v (g.sl ag cg))), (2, Ld Try.prog 28 ⟨b4, 0, none⟩ (c.v (c.sl ah ch)))])) (fun v9 => ?_) (fun h1110101010010000 => ?_)
 obtain ⟨a1, c1, b7, b10⟩ := v9
 dsimp only
 unfold pl5_3_1110101010010000
 refine sy_any ?_
 refine sy_alt ?_ ?_
 refine cl rfl cal26 rfl rfl (c_Owned c ah ch (by omega) _ _) ?_
 rintro _ _ R1 ⟨o, rfl, ho, rfl, hR1⟩
 obtain rfl := hR1.symm
 clear hR1
 obtain ⟨a2, c2, he, hf⟩ := o.freeze
 rw [he]
 refine Sy.heap (H' := _) (fun w h => hf h) ?_
 rw [show (hrows c.hs).length = c.hs.length from List.length_map _]
 clear he hf
 refine bg (fun w hs => ⟨((lhA (ctl c (c.sl ah ch)) ag28 rfl rfl rfl)) w hs, ((lhA (gtl g (g.sl ag cg)) ag25 rfl rfl rfl)) w hs, trivial, trivial⟩) ?_
 exact sy_to (h1111101010010000 (a1, c1, a2, c2, b7, b10)) (by repeat' first | exact Sub.nil | apply Sub.cons | rfl | (simp [lk]; omega)) (fun _ h => St.sub ((h.pull b7).pull b10))
 refine sy_alt ?_ ?_
 refine alc rfl zl28 rfl (fun b8 => ?_)
 refine bg (fun w hs => ⟨((lhA (ctl c (c.sl ah ch)) ag28 rfl rfl rfl)) w hs, ((lhA (gtl g (g.sl ag cg)) ag25 rfl rfl rfl)) w hs, ((lhA (ctl c (c.sl ah ch)) ag28 rfl rfl rfl)) w hs, trivial⟩) ?_
 exact sy_to (h1110101011010000 (a1, c1, b7, b8, b10)) (by repeat' first | exact Sub.nil | apply Sub.cons | rfl | (simp [lk]; omega)) (fun _ h => St.sub (((h.pull b7).pull b8).pull b10))
 refine sy_alt ?_ ?_
 refine alc rfl zl59 rfl (fun b9 => ?_)
 refine bg (fun w hs => ⟨((lhA (ctl c (c.sl ah ch)) ag28 rfl rfl rfl)) w hs, ((lhA (gtl g (g.sl ag cg)) ag25 rfl rfl rfl)) w hs, ((lhA (ctl c (c.sl ah ch)) ag28 rfl rfl rfl)) w hs, trivial⟩) ?_
 exact sy_to (h1110101010110000 (a1, c1, b7, b9, b10)) (by repeat' first | exact Sub.nil | apply Sub.cons | rfl | (simp [lk]; omega)) (fun _ h => St.sub (((h.pull b7).pull b9).pull b10))
 exact sy_stop
 refine sy_have (β := Option Addr × {n : Nat // g.grs.length ≤ n} × Nat) pl5_3_1110101010000000 (fun ⟨a1, c1, b7⟩ => ([(7, .pointer (some ⟨b7, 0, none⟩)), (31, g.v (g.sl a1 c1.1)), (2, .int .i64 gr), (3, .pointer (some ⟨b3, 0, none⟩)), (4, .pointer (some ⟨b4, 0, none⟩)), (30, g.v (g.sl ag cg)), (32, c.v (c.sl ah ch)), (34, g.v (g.sl ag cg)), (36, c.v (c.sl ah ch))], (b7, cel 25 ([.int .i64 0, .int .i64 0, .slice none 0 0])) :: (b4, cel 28 (ctl c (c.sl ah ch))) :: (b3, cel 25 (gtl g (g.sl ag cg))) :: H, RowsA a1 5 (grows g.grs) :: R, [(6, Ld Try.prog 28 ⟨b4, 0, none⟩ (c.v (c.sl ah ch))), (4, Ld Try.prog 25 ⟨b3, 0, none⟩ (g.v (g.sl ag cg))), (2, Ld Try.prog 28 ⟨b4, 0, none⟩ (c.v (c.sl ah ch)))])) (fun v9 => ?_) (fun h1110101010000000 => ?_)
 obtain ⟨a1, c1, b7⟩ := v9
 dsimp only
 unfold pl5_3_1110101010000000
 refine sy_any ?_
 refine sy_alt ?_ ?_
 refine cl rfl cal26 rfl rfl (c_Owned c ah ch (by omega) _ _) ?_
 rintro _ _ R1 ⟨o, rfl, ho, rfl, hR1⟩
 obtain rfl := hR1.symm
 clear hR1
 obtain ⟨a2, c2, he, hf⟩ := o.freeze
 rw [he]
 refine Sy.heap (H' := _) (fun w h => hf h) ?_
 rw [show (hrows c.hs).length = c.hs.length from List.length_map _]
 clear he hf
 refine bg (fun w hs => ⟨((lhA (ctl c (c.sl ah ch)) ag28 rfl rfl rfl)) w hs, ((lhA (gtl g (g.sl ag cg)) ag25 rfl rfl rfl)) w hs, trivial, trivial⟩) ?_
 exact sy_to (h1111101010000000 (a1, c1, a2, c2, b7)) (by repeat' first | exact Sub.nil | apply Sub.cons | rfl | (simp [lk]; omega)) (fun _ h => St.sub (h.pull b7))
 refine sy_alt ?_ ?_
 refine alc rfl zl28 rfl (fun b8 => ?_)
 refine bg (fun w hs => ⟨((lhA (ctl c (c.sl ah ch)) ag28 rfl rfl rfl)) w hs, ((lhA (gtl g (g.sl ag cg)) ag25 rfl rfl rfl)) w hs, ((lhA (ctl c (c.sl ah ch)) ag28 rfl rfl rfl)) w hs, trivial⟩) ?_
 exact sy_to (h1110101011000000 (a1, c1, b7, b8)) (by repeat' first | exact Sub.nil | apply Sub.cons | rfl | (simp [lk]; omega)) (fun _ h => St.sub ((h.pull b7).pull b8))
 refine sy_alt ?_ ?_
 refine alc rfl zl59 rfl (fun b9 => ?_)
 refine bg (fun w hs => ⟨((lhA (ctl c (c.sl ah ch)) ag28 rfl rfl rfl)) w hs, ((lhA (gtl g (g.sl ag cg)) ag25 rfl rfl rfl)) w hs, ((lhA (ctl c (c.sl ah ch)) ag28 rfl rfl rfl)) w hs, trivial⟩) ?_
 exact sy_to (h1110101010100000 (a1, c1, b7, b9)) (by repeat' first | exact Sub.nil | apply Sub.cons | rfl | (simp [lk]; omega)) (fun _ h => St.sub ((h.pull b7).pull b9))
 refine sy_alt ?_ ?_
 refine alc rfl zl63 rfl (fun b10 => ?_)
 refine bg (fun w hs => ⟨((lhA (ctl c (c.sl ah ch)) ag28 rfl rfl rfl)) w hs, ((lhA (gtl g (g.sl ag cg)) ag25 rfl rfl rfl)) w hs, ((lhA (ctl c (c.sl ah ch)) ag28 rfl rfl rfl)) w hs, trivial⟩) ?_
 exact sy_to (h1110101010010000 (a1, c1, b7, b10)) (by repeat' first | exact Sub.nil | apply Sub.cons | rfl | (simp [lk]; omega)) (fun _ h => St.sub ((h.pull b7).pull b10))
 exact sy_stop
 refine sy_have (β := Option Addr × {n : Nat // g.grs.length ≤ n} × Nat × Nat × Nat) pl5_3_1110101001110000 (fun ⟨a1, c1, b8, b9, b10⟩ => ([(10, .pointer (some ⟨b10, 0, none⟩)), (9, .pointer (some ⟨b9, 0, none⟩)), (8, .pointer (some ⟨b8, 0, none⟩)), (31, g.v (g.sl a1 c1.1)), (2, .int .i64 gr), (3, .pointer (some ⟨b3, 0, none⟩)), (4, .pointer (some ⟨b4, 0, none⟩)), (30, g.v (g.sl ag cg)), (32, c.v (c.sl ah ch)), (34, g.v (g.sl ag cg)), (36, c.v (c.sl ah ch))], (b10, cel 63 ([.int .i64 0, .int .i64 0, .slice none 0 0])) :: (b9, cel 59 ([.int .i64 0, .int .i64 0, .slice none 0 0])) :: (b8, cel 28 ([.int .i64 0, .int .i64 0, .slice none 0 0])) :: (b4, cel 28 (ctl c (c.sl ah ch))) :: (b3, cel 25 (gtl g (g.sl ag cg))) :: H, RowsA a1 5 (grows g.grs) :: R, [(6, Ld Try.prog 28 ⟨b4, 0, none⟩ (c.v (c.sl ah ch))), (4, Ld Try.prog 25 ⟨b3, 0, none⟩ (g.v (g.sl ag cg))), (2, Ld Try.prog 28 ⟨b4, 0, none⟩ (c.v (c.sl ah ch)))])) (fun v9 => ?_) (fun h1110101001110000 => ?_)
 obtain ⟨a1, c1, b8, b9, b10⟩ := v9
 dsimp only
 unfold pl5_3_1110101001110000
 refine sy_any ?_
 refine sy_alt ?_ ?_
 refine cl rfl cal26 rfl rfl (c_Owned c ah ch (by omega) _ _) ?_
 rintro _ _ R1 ⟨o, rfl, ho, rfl, hR1⟩
 obtain rfl := hR1.symm
 clear hR1
 obtain ⟨a2, c2, he, hf⟩ := o.freeze
 rw [he]
 refine Sy.heap (H' := _) (fun w h => hf h) ?_
 rw [show (hrows c.hs).length = c.hs.length from List.length_map _]
 clear he hf
 refine bg (fun w hs => ⟨((lhA (ctl c (c.sl ah ch)) ag28 rfl rfl rfl)) w hs, ((lhA (gtl g (g.sl ag cg)) ag25 rfl rfl rfl)) w hs, trivial, trivial⟩) ?_
 exact sy_to (h1111101001110000 (a1, c1, a2, c2, b8, b9, b10)) (by repeat' first | exact Sub.nil | apply Sub.cons | rfl | (simp [lk]; omega)) (fun _ h => St.sub (((h.pull b8).pull b9).pull b10))
 refine sy_alt ?_ ?_
 refine alc rfl zl25 rfl (fun b7 => ?_)
 refine bg (fun w hs => ⟨((lhA (ctl c (c.sl ah ch)) ag28 rfl rfl rfl)) w hs, ((lhA (gtl g (g.sl ag cg)) ag25 rfl rfl rfl)) w hs, ((lhA (ctl c (c.sl ah ch)) ag28 rfl rfl rfl)) w hs, trivial⟩) ?_
 exact sy_to (h1110101011110000 (a1, c1, b7, b8, b9, b10)) (by repeat' first | exact Sub.nil | apply Sub.cons | rfl | (simp [lk]; omega)) (fun _ h => St.sub ((((h.pull b7).pull b8).pull b9).pull b10))
 exact sy_stop
 refine sy_have (β := Option Addr × {n : Nat // g.grs.length ≤ n} × Nat × Nat) pl5_3_1110101001100000 (fun ⟨a1, c1, b8, b9⟩ => ([(9, .pointer (some ⟨b9, 0, none⟩)), (8, .pointer (some ⟨b8, 0, none⟩)), (31, g.v (g.sl a1 c1.1)), (2, .int .i64 gr), (3, .pointer (some ⟨b3, 0, none⟩)), (4, .pointer (some ⟨b4, 0, none⟩)), (30, g.v (g.sl ag cg)), (32, c.v (c.sl ah ch)), (34, g.v (g.sl ag cg)), (36, c.v (c.sl ah ch))], (b9, cel 59 ([.int .i64 0, .int .i64 0, .slice none 0 0])) :: (b8, cel 28 ([.int .i64 0, .int .i64 0, .slice none 0 0])) :: (b4, cel 28 (ctl c (c.sl ah ch))) :: (b3, cel 25 (gtl g (g.sl ag cg))) :: H, RowsA a1 5 (grows g.grs) :: R, [(6, Ld Try.prog 28 ⟨b4, 0, none⟩ (c.v (c.sl ah ch))), (4, Ld Try.prog 25 ⟨b3, 0, none⟩ (g.v (g.sl ag cg))), (2, Ld Try.prog 28 ⟨b4, 0, none⟩ (c.v (c.sl ah ch)))])) (fun v9 => ?_) (fun h1110101001100000 => ?_)
 obtain ⟨a1, c1, b8, b9⟩ := v9
 dsimp only
 unfold pl5_3_1110101001100000
 refine sy_any ?_
 refine sy_alt ?_ ?_
 refine cl rfl cal26 rfl rfl (c_Owned c ah ch (by omega) _ _) ?_
 rintro _ _ R1 ⟨o, rfl, ho, rfl, hR1⟩
 obtain rfl := hR1.symm
 clear hR1
 obtain ⟨a2, c2, he, hf⟩ := o.freeze
 rw [he]
 refine Sy.heap (H' := _) (fun w h => hf h) ?_
 rw [show (hrows c.hs).length = c.hs.length from List.length_map _]
 clear he hf
 refine bg (fun w hs => ⟨((lhA (ctl c (c.sl ah ch)) ag28 rfl rfl rfl)) w hs, ((lhA (gtl g (g.sl ag cg)) ag25 rfl rfl rfl)) w hs, trivial, trivial⟩) ?_
 exact sy_to (h1111101001100000 (a1, c1, a2, c2, b8, b9)) (by repeat' first | exact Sub.nil | apply Sub.cons | rfl | (simp [lk]; omega)) (fun _ h => St.sub ((h.pull b8).pull b9))
 refine sy_alt ?_ ?_
 refine alc rfl zl25 rfl (fun b7 => ?_)
 refine bg (fun w hs => ⟨((lhA (ctl c (c.sl ah ch)) ag28 rfl rfl rfl)) w hs, ((lhA (gtl g (g.sl ag cg)) ag25 rfl rfl rfl)) w hs, ((lhA (ctl c (c.sl ah ch)) ag28 rfl rfl rfl)) w hs, trivial⟩) ?_
 exact sy_to (h1110101011100000 (a1, c1, b7, b8, b9)) (by repeat' first | exact Sub.nil | apply Sub.cons | rfl | (simp [lk]; omega)) (fun _ h => St.sub (((h.pull b7).pull b8).pull b9))
 refine sy_alt ?_ ?_
 refine alc rfl zl63 rfl (fun b10 => ?_)
 refine bg (fun w hs => ⟨((lhA (ctl c (c.sl ah ch)) ag28 rfl rfl rfl)) w hs, ((lhA (gtl g (g.sl ag cg)) ag25 rfl rfl rfl)) w hs, ((lhA (ctl c (c.sl ah ch)) ag28 rfl rfl rfl)) w hs, trivial⟩) ?_
 exact sy_to (h1110101001110000 (a1, c1, b8, b9, b10)) (by repeat' first | exact Sub.nil | apply Sub.cons | rfl | (simp [lk]; omega)) (fun _ h => St.sub (((h.pull b8).pull b9).pull b10))
 exact sy_stop
 refine sy_have (β := Option Addr × {n : Nat // g.grs.length ≤ n} × Nat × Nat) pl5_3_1110101001010000 (fun ⟨a1, c1, b8, b10⟩ => ([(10, .pointer (some ⟨b10, 0, none⟩)), (8, .pointer (some ⟨b8, 0, none⟩)), (31, g.v (g.sl a1 c1.1)), (2, .int .i64 gr), (3, .pointer (some ⟨b3, 0, none⟩)), (4, .pointer (some ⟨b4, 0, none⟩)), (30, g.v (g.sl ag cg)), (32, c.v (c.sl ah ch)), (34, g.v (g.sl ag cg)), (36, c.v (c.sl ah ch))], (b10, cel 63 ([.int .i64 0, .int .i64 0, .slice none 0 0])) :: (b8, cel 28 ([.int .i64 0, .int .i64 0, .slice none 0 0])) :: (b4, cel 28 (ctl c (c.sl ah ch))) :: (b3, cel 25 (gtl g (g.sl ag cg))) :: H, RowsA a1 5 (grows g.grs) :: R, [(6, Ld Try.prog 28 ⟨b4, 0, none⟩ (c.v (c.sl ah ch))), (4, Ld Try.prog 25 ⟨b3, 0, none⟩ (g.v (g.sl ag cg))), (2, Ld Try.prog 28 ⟨b4, 0, none⟩ (c.v (c.sl ah ch)))])) (fun v9 => ?_) (fun h1110101001010000 => ?_)
 obtain ⟨a1, c1, b8, b10⟩ := v9
 dsimp only
 unfold pl5_3_1110101001010000
 refine sy_any ?_
 refine sy_alt ?_ ?_
 refine cl rfl cal26 rfl rfl (c_Owned c ah ch (by omega) _ _) ?_
 rintro _ _ R1 ⟨o, rfl, ho, rfl, hR1⟩
 obtain rfl := hR1.symm
 clear hR1
 obtain ⟨a2, c2, he, hf⟩ := o.freeze
 rw [he]
 refine Sy.heap (H' := _) (fun w h => hf h) ?_
 rw [show (hrows c.hs).length = c.hs.length from List.length_map _]
 clear he hf
 refine bg (fun w hs => ⟨((lhA (ctl c (c.sl ah ch)) ag28 rfl rfl rfl)) w hs, ((lhA (gtl g (g.sl ag cg)) ag25 rfl rfl rfl)) w hs, trivial, trivial⟩) ?_
 exact sy_to (h1111101001010000 (a1, c1, a2, c2, b8, b10)) (by repeat' first | exact Sub.nil | apply Sub.cons | rfl | (simp [lk]; omega)) (fun _ h => St.sub ((h.pull b8).pull b10))
 refine sy_alt ?_ ?_
 refine alc rfl zl25 rfl (fun b7 => ?_)
 refine bg (fun w hs => ⟨((lhA (ctl c (c.sl ah ch)) ag28 rfl rfl rfl)) w hs, ((lhA (gtl g (g.sl ag cg)) ag25 rfl rfl rfl)) w hs, ((lhA (ctl c (c.sl ah ch)) ag28 rfl rfl rfl)) w hs, trivial⟩) ?_
 exact sy_to (h1110101011010000 (a1, c1, b7, b8, b10)) (by repeat' first | exact Sub.nil | apply Sub.cons | rfl | (simp [lk]; omega)) (fun _ h => St.sub (((h.pull b7).pull b8).pull b10))
 refine sy_alt ?_ ?_
 refine alc rfl zl59 rfl (fun b9 => ?_)
 refine bg (fun w hs => ⟨((lhA (ctl c (c.sl ah ch)) ag28 rfl rfl rfl)) w hs, ((lhA (gtl g (g.sl ag cg)) ag25 rfl rfl rfl)) w hs, ((lhA (ctl c (c.sl ah ch)) ag28 rfl rfl rfl)) w hs, trivial⟩) ?_
 exact sy_to (h1110101001110000 (a1, c1, b8, b9, b10)) (by repeat' first | exact Sub.nil | apply Sub.cons | rfl | (simp [lk]; omega)) (fun _ h => St.sub (((h.pull b8).pull b9).pull b10))
 exact sy_stop
 refine sy_have (β := Option Addr × {n : Nat // g.grs.length ≤ n} × Nat) pl5_3_1110101001000000 (fun ⟨a1, c1, b8⟩ => ([(8, .pointer (some ⟨b8, 0, none⟩)), (31, g.v (g.sl a1 c1.1)), (2, .int .i64 gr), (3, .pointer (some ⟨b3, 0, none⟩)), (4, .pointer (some ⟨b4, 0, none⟩)), (30, g.v (g.sl ag cg)), (32, c.v (c.sl ah ch)), (34, g.v (g.sl ag cg)), (36, c.v (c.sl ah ch))], (b8, cel 28 ([.int .i64 0, .int .i64 0, .slice none 0 0])) :: (b4, cel 28 (ctl c (c.sl ah ch))) :: (b3, cel 25 (gtl g (g.sl ag cg))) :: H, RowsA a1 5 (grows g.grs) :: R, [(6, Ld Try.prog 28 ⟨b4, 0, none⟩ (c.v (c.sl ah ch))), (4, Ld Try.prog 25 ⟨b3, 0, none⟩ (g.v (g.sl ag cg))), (2, Ld Try.prog 28 ⟨b4, 0, none⟩ (c.v (c.sl ah ch)))])) (fun v9 => ?_) (fun h1110101001000000 => ?_)
 obtain ⟨a1, c1, b8⟩ := v9
 dsimp only
 unfold pl5_3_1110101001000000
 refine sy_any ?_
 refine sy_alt ?_ ?_
 refine cl rfl cal26 rfl rfl (c_Owned c ah ch (by omega) _ _) ?_
 rintro _ _ R1 ⟨o, rfl, ho, rfl, hR1⟩
 obtain rfl := hR1.symm
 clear hR1
 obtain ⟨a2, c2, he, hf⟩ := o.freeze
 rw [he]
 refine Sy.heap (H' := _) (fun w h => hf h) ?_
 rw [show (hrows c.hs).length = c.hs.length from List.length_map _]
 clear he hf
 refine bg (fun w hs => ⟨((lhA (ctl c (c.sl ah ch)) ag28 rfl rfl rfl)) w hs, ((lhA (gtl g (g.sl ag cg)) ag25 rfl rfl rfl)) w hs, trivial, trivial⟩) ?_
 exact sy_to (h1111101001000000 (a1, c1, a2, c2, b8)) (by repeat' first | exact Sub.nil | apply Sub.cons | rfl | (simp [lk]; omega)) (fun _ h => St.sub (h.pull b8))
 refine sy_alt ?_ ?_
 refine alc rfl zl25 rfl (fun b7 => ?_)
 refine bg (fun w hs => ⟨((lhA (ctl c (c.sl ah ch)) ag28 rfl rfl rfl)) w hs, ((lhA (gtl g (g.sl ag cg)) ag25 rfl rfl rfl)) w hs, ((lhA (ctl c (c.sl ah ch)) ag28 rfl rfl rfl)) w hs, trivial⟩) ?_
 exact sy_to (h1110101011000000 (a1, c1, b7, b8)) (by repeat' first | exact Sub.nil | apply Sub.cons | rfl | (simp [lk]; omega)) (fun _ h => St.sub ((h.pull b7).pull b8))
 refine sy_alt ?_ ?_
 refine alc rfl zl59 rfl (fun b9 => ?_)
 refine bg (fun w hs => ⟨((lhA (ctl c (c.sl ah ch)) ag28 rfl rfl rfl)) w hs, ((lhA (gtl g (g.sl ag cg)) ag25 rfl rfl rfl)) w hs, ((lhA (ctl c (c.sl ah ch)) ag28 rfl rfl rfl)) w hs, trivial⟩) ?_
 exact sy_to (h1110101001100000 (a1, c1, b8, b9)) (by repeat' first | exact Sub.nil | apply Sub.cons | rfl | (simp [lk]; omega)) (fun _ h => St.sub ((h.pull b8).pull b9))
 refine sy_alt ?_ ?_
 refine alc rfl zl63 rfl (fun b10 => ?_)
 refine bg (fun w hs => ⟨((lhA (ctl c (c.sl ah ch)) ag28 rfl rfl rfl)) w hs, ((lhA (gtl g (g.sl ag cg)) ag25 rfl rfl rfl)) w hs, ((lhA (ctl c (c.sl ah ch)) ag28 rfl rfl rfl)) w hs, trivial⟩) ?_
 exact sy_to (h1110101001010000 (a1, c1, b8, b10)) (by repeat' first | exact Sub.nil | apply Sub.cons | rfl | (simp [lk]; omega)) (fun _ h => St.sub ((h.pull b8).pull b10))
 exact sy_stop
 refine sy_have (β := Option Addr × {n : Nat // g.grs.length ≤ n} × Nat × Nat) pl5_3_1110101000110000 (fun ⟨a1, c1, b9, b10⟩ => ([(10, .pointer (some ⟨b10, 0, none⟩)), (9, .pointer (some ⟨b9, 0, none⟩)), (31, g.v (g.sl a1 c1.1)), (2, .int .i64 gr), (3, .pointer (some ⟨b3, 0, none⟩)), (4, .pointer (some ⟨b4, 0, none⟩)), (30, g.v (g.sl ag cg)), (32, c.v (c.sl ah ch)), (34, g.v (g.sl ag cg)), (36, c.v (c.sl ah ch))], (b10, cel 63 ([.int .i64 0, .int .i64 0, .slice none 0 0])) :: (b9, cel 59 ([.int .i64 0, .int .i64 0, .slice none 0 0])) :: (b4, cel 28 (ctl c (c.sl ah ch))) :: (b3, cel 25 (gtl g (g.sl ag cg))) :: H, RowsA a1 5 (grows g.grs) :: R, [(6, Ld Try.prog 28 ⟨b4, 0, none⟩ (c.v (c.sl ah ch))), (4, Ld Try.prog 25 ⟨b3, 0, none⟩ (g.v (g.sl ag cg))), (2, Ld Try.prog 28 ⟨b4, 0, none⟩ (c.v (c.sl ah ch)))])) (fun v9 => ?_) (fun h1110101000110000 => ?_)
 obtain ⟨a1, c1, b9, b10⟩ := v9
 dsimp only
 unfold pl5_3_1110101000110000
 refine sy_any ?_
 refine sy_alt ?_ ?_
 refine cl rfl cal26 rfl rfl (c_Owned c ah ch (by omega) _ _) ?_
 rintro _ _ R1 ⟨o, rfl, ho, rfl, hR1⟩
 obtain rfl := hR1.symm
 clear hR1
 obtain ⟨a2, c2, he, hf⟩ := o.freeze
 rw [he]
 refine Sy.heap (H' := _) (fun w h => hf h) ?_
 rw [show (hrows c.hs).length = c.hs.length from List.length_map _]
 clear he hf
 refine bg (fun w hs => ⟨((lhA (ctl c (c.sl ah ch)) ag28 rfl rfl rfl)) w hs, ((lhA (gtl g (g.sl ag cg)) ag25 rfl rfl rfl)) w hs, trivial, trivial⟩) ?_
 exact sy_to (h1111101000110000 (a1, c1, a2, c2, b9, b10)) (by repeat' first | exact Sub.nil | apply Sub.cons | rfl | (simp [lk]; omega)) (fun _ h => St.sub ((h.pull b9).pull b10))
 refine sy_alt ?_ ?_
 refine alc rfl zl25 rfl (fun b7 => ?_)
 refine bg (fun w hs => ⟨((lhA (ctl c (c.sl ah ch)) ag28 rfl rfl rfl)) w hs, ((lhA (gtl g (g.sl ag cg)) ag25 rfl rfl rfl)) w hs, ((lhA (ctl c (c.sl ah ch)) ag28 rfl rfl rfl)) w hs, trivial⟩) ?_
 exact sy_to (h1110101010110000 (a1, c1, b7, b9, b10)) (by repeat' first | exact Sub.nil | apply Sub.cons | rfl | (simp [lk]; omega)) (fun _ h => St.sub (((h.pull b7).pull b9).pull b10))
 refine sy_alt ?_ ?_
 refine alc rfl zl28 rfl (fun b8 => ?_)
 refine bg (fun w hs => ⟨((lhA (ctl c (c.sl ah ch)) ag28 rfl rfl rfl)) w hs, ((lhA (gtl g (g.sl ag cg)) ag25 rfl rfl rfl)) w hs, ((lhA (ctl c (c.sl ah ch)) ag28 rfl rfl rfl)) w hs, trivial⟩) ?_
 exact sy_to (h1110101001110000 (a1, c1, b8, b9, b10)) (by repeat' first | exact Sub.nil | apply Sub.cons | rfl | (simp [lk]; omega)) (fun _ h => St.sub (((h.pull b8).pull b9).pull b10))
 exact sy_stop
 refine sy_have (β := Option Addr × {n : Nat // g.grs.length ≤ n} × Nat) pl5_3_1110101000100000 (fun ⟨a1, c1, b9⟩ => ([(9, .pointer (some ⟨b9, 0, none⟩)), (31, g.v (g.sl a1 c1.1)), (2, .int .i64 gr), (3, .pointer (some ⟨b3, 0, none⟩)), (4, .pointer (some ⟨b4, 0, none⟩)), (30, g.v (g.sl ag cg)), (32, c.v (c.sl ah ch)), (34, g.v (g.sl ag cg)), (36, c.v (c.sl ah ch))], (b9, cel 59 ([.int .i64 0, .int .i64 0, .slice none 0 0])) :: (b4, cel 28 (ctl c (c.sl ah ch))) :: (b3, cel 25 (gtl g (g.sl ag cg))) :: H, RowsA a1 5 (grows g.grs) :: R, [(6, Ld Try.prog 28 ⟨b4, 0, none⟩ (c.v (c.sl ah ch))), (4, Ld Try.prog 25 ⟨b3, 0, none⟩ (g.v (g.sl ag cg))), (2, Ld Try.prog 28 ⟨b4, 0, none⟩ (c.v (c.sl ah ch)))])) (fun v9 => ?_) (fun h1110101000100000 => ?_)
 obtain ⟨a1, c1, b9⟩ := v9
 dsimp only
 unfold pl5_3_1110101000100000
 refine sy_any ?_
 refine sy_alt ?_ ?_
 refine cl rfl cal26 rfl rfl (c_Owned c ah ch (by omega) _ _) ?_
 rintro _ _ R1 ⟨o, rfl, ho, rfl, hR1⟩
 obtain rfl := hR1.symm
 clear hR1
 obtain ⟨a2, c2, he, hf⟩ := o.freeze
 rw [he]
 refine Sy.heap (H' := _) (fun w h => hf h) ?_
 rw [show (hrows c.hs).length = c.hs.length from List.length_map _]
 clear he hf
 refine bg (fun w hs => ⟨((lhA (ctl c (c.sl ah ch)) ag28 rfl rfl rfl)) w hs, ((lhA (gtl g (g.sl ag cg)) ag25 rfl rfl rfl)) w hs, trivial, trivial⟩) ?_
 exact sy_to (h1111101000100000 (a1, c1, a2, c2, b9)) (by repeat' first | exact Sub.nil | apply Sub.cons | rfl | (simp [lk]; omega)) (fun _ h => St.sub (h.pull b9))
 refine sy_alt ?_ ?_
 refine alc rfl zl25 rfl (fun b7 => ?_)
 refine bg (fun w hs => ⟨((lhA (ctl c (c.sl ah ch)) ag28 rfl rfl rfl)) w hs, ((lhA (gtl g (g.sl ag cg)) ag25 rfl rfl rfl)) w hs, ((lhA (ctl c (c.sl ah ch)) ag28 rfl rfl rfl)) w hs, trivial⟩) ?_
 exact sy_to (h1110101010100000 (a1, c1, b7, b9)) (by repeat' first | exact Sub.nil | apply Sub.cons | rfl | (simp [lk]; omega)) (fun _ h => St.sub ((h.pull b7).pull b9))
 refine sy_alt ?_ ?_
 refine alc rfl zl28 rfl (fun b8 => ?_)
 refine bg (fun w hs => ⟨((lhA (ctl c (c.sl ah ch)) ag28 rfl rfl rfl)) w hs, ((lhA (gtl g (g.sl ag cg)) ag25 rfl rfl rfl)) w hs, ((lhA (ctl c (c.sl ah ch)) ag28 rfl rfl rfl)) w hs, trivial⟩) ?_
 exact sy_to (h1110101001100000 (a1, c1, b8, b9)) (by repeat' first | exact Sub.nil | apply Sub.cons | rfl | (simp [lk]; omega)) (fun _ h => St.sub ((h.pull b8).pull b9))
 refine sy_alt ?_ ?_
 refine alc rfl zl63 rfl (fun b10 => ?_)
 refine bg (fun w hs => ⟨((lhA (ctl c (c.sl ah ch)) ag28 rfl rfl rfl)) w hs, ((lhA (gtl g (g.sl ag cg)) ag25 rfl rfl rfl)) w hs, ((lhA (ctl c (c.sl ah ch)) ag28 rfl rfl rfl)) w hs, trivial⟩) ?_
 exact sy_to (h1110101000110000 (a1, c1, b9, b10)) (by repeat' first | exact Sub.nil | apply Sub.cons | rfl | (simp [lk]; omega)) (fun _ h => St.sub ((h.pull b9).pull b10))
 exact sy_stop
 refine sy_have (β := Option Addr × {n : Nat // g.grs.length ≤ n} × Nat) pl5_3_1110101000010000 (fun ⟨a1, c1, b10⟩ => ([(10, .pointer (some ⟨b10, 0, none⟩)), (31, g.v (g.sl a1 c1.1)), (2, .int .i64 gr), (3, .pointer (some ⟨b3, 0, none⟩)), (4, .pointer (some ⟨b4, 0, none⟩)), (30, g.v (g.sl ag cg)), (32, c.v (c.sl ah ch)), (34, g.v (g.sl ag cg)), (36, c.v (c.sl ah ch))], (b10, cel 63 ([.int .i64 0, .int .i64 0, .slice none 0 0])) :: (b4, cel 28 (ctl c (c.sl ah ch))) :: (b3, cel 25 (gtl g (g.sl ag cg))) :: H, RowsA a1 5 (grows g.grs) :: R, [(6, Ld Try.prog 28 ⟨b4, 0, none⟩ (c.v (c.sl ah ch))), (4, Ld Try.prog 25 ⟨b3, 0, none⟩ (g.v (g.sl ag cg))), (2, Ld Try.prog 28 ⟨b4, 0, none⟩ (c.v (c.sl ah ch)))])) (fun v9 => ?_) (fun h1110101000010000 => ?_)
 obtain ⟨a1, c1, b10⟩ := v9
 dsimp only
 unfold pl5_3_1110101000010000
 refine sy_any ?_
 refine sy_alt ?_ ?_
 refine cl rfl cal26 rfl rfl (c_Owned c ah ch (by omega) _ _) ?_
 rintro _ _ R1 ⟨o, rfl, ho, rfl, hR1⟩
 obtain rfl := hR1.symm
 clear hR1
 obtain ⟨a2, c2, he, hf⟩ := o.freeze
 rw [he]
 refine Sy.heap (H' := _) (fun w h => hf h) ?_
 rw [show (hrows c.hs).length = c.hs.length from List.length_map _]
 clear he hf
 refine bg (fun w hs => ⟨((lhA (ctl c (c.sl ah ch)) ag28 rfl rfl rfl)) w hs, ((lhA (gtl g (g.sl ag cg)) ag25 rfl rfl rfl)) w hs, trivial, trivial⟩) ?_
 exact sy_to (h1111101000010000 (a1, c1, a2, c2, b10)) (by repeat' first | exact Sub.nil | apply Sub.cons | rfl | (simp [lk]; omega)) (fun _ h => St.sub (h.pull b10))
 refine sy_alt ?_ ?_
 refine alc rfl zl25 rfl (fun b7 => ?_)
 refine bg (fun w hs => ⟨((lhA (ctl c (c.sl ah ch)) ag28 rfl rfl rfl)) w hs, ((lhA (gtl g (g.sl ag cg)) ag25 rfl rfl rfl)) w hs, ((lhA (ctl c (c.sl ah ch)) ag28 rfl rfl rfl)) w hs, trivial⟩) ?_
 exact sy_to (h1110101010010000 (a1, c1, b7, b10)) (by repeat' first | exact Sub.nil | apply Sub.cons | rfl | (simp [lk]; omega)) (fun _ h => St.sub ((h.pull b7).pull b10))
 refine sy_alt ?_ ?_
 refine alc rfl zl28 rfl (fun b8 => ?_)
 refine bg (fun w hs => ⟨((lhA (ctl c (c.sl ah ch)) ag28 rfl rfl rfl)) w hs, ((lhA (gtl g (g.sl ag cg)) ag25 rfl rfl rfl)) w hs, ((lhA (ctl c (c.sl ah ch)) ag28 rfl rfl rfl)) w hs, trivial⟩) ?_
 exact sy_to (h1110101001010000 (a1, c1, b8, b10)) (by repeat' first | exact Sub.nil | apply Sub.cons | rfl | (simp [lk]; omega)) (fun _ h => St.sub ((h.pull b8).pull b10))
 refine sy_alt ?_ ?_
 refine alc rfl zl59 rfl (fun b9 => ?_)
 refine bg (fun w hs => ⟨((lhA (ctl c (c.sl ah ch)) ag28 rfl rfl rfl)) w hs, ((lhA (gtl g (g.sl ag cg)) ag25 rfl rfl rfl)) w hs, ((lhA (ctl c (c.sl ah ch)) ag28 rfl rfl rfl)) w hs, trivial⟩) ?_
 exact sy_to (h1110101000110000 (a1, c1, b9, b10)) (by repeat' first | exact Sub.nil | apply Sub.cons | rfl | (simp [lk]; omega)) (fun _ h => St.sub ((h.pull b9).pull b10))
 exact sy_stop
 refine sy_have (β := Nat × Nat × Nat × Nat) pl5_3_1010101011110000 (fun ⟨b7, b8, b9, b10⟩ => ([(10, .pointer (some ⟨b10, 0, none⟩)), (9, .pointer (some ⟨b9, 0, none⟩)), (8, .pointer (some ⟨b8, 0, none⟩)), (7, .pointer (some ⟨b7, 0, none⟩)), (2, .int .i64 gr), (3, .pointer (some ⟨b3, 0, none⟩)), (4, .pointer (some ⟨b4, 0, none⟩)), (30, g.v (g.sl ag cg)), (32, c.v (c.sl ah ch)), (34, g.v (g.sl ag cg)), (36, c.v (c.sl ah ch))], (b10, cel 63 ([.int .i64 0, .int .i64 0, .slice none 0 0])) :: (b9, cel 59 ([.int .i64 0, .int .i64 0, .slice none 0 0])) :: (b8, cel 28 ([.int .i64 0, .int .i64 0, .slice none 0 0])) :: (b7, cel 25 ([.int .i64 0, .int .i64 0, .slice none 0 0])) :: (b4, cel 28 (ctl c (c.sl ah ch))) :: (b3, cel 25 (gtl g (g.sl ag cg))) :: H, R, [(6, Ld Try.prog 28 ⟨b4, 0, none⟩ (c.v (c.sl ah ch))), (4, Ld Try.prog 25 ⟨b3, 0, none⟩ (g.v (g.sl ag cg))), (2, Ld Try.prog 28 ⟨b4, 0, none⟩ (c.v (c.sl ah ch))), (0, Ld Try.prog 25 ⟨b3, 0, none⟩ (g.v (g.sl ag cg)))])) (fun v9 => ?_) (fun h1010101011110000 => ?_)
 obtain ⟨b7, b8, b9, b10⟩ := v9
 dsimp only
 unfold pl5_3_1010101011110000
 refine cl rfl cal25 rfl rfl (c_Own g ag cg (by omega) _ _) ?_
 rintro _ _ R1 ⟨o, rfl, ho, rfl, hR1⟩
 obtain rfl := hR1.symm
 clear hR1
 obtain ⟨a1, c1n, he, hcc, hf⟩ := o.freezeC
 rw [he]
 refine Sy.heap (H' := _) (fun w h => hf h) ?_
 rw [show (grows g.grs).length = g.grs.length from List.length_map _] at hcc ⊢
 obtain ⟨c1, rfl⟩ : ∃ c1 : {n : Nat // g.grs.length ≤ n}, c1.1 = c1n := ⟨⟨c1n, hcc⟩, rfl⟩
 clear he hf
 refine bg (fun w hs => ⟨((lhA (ctl c (c.sl ah ch)) ag28 rfl rfl rfl)) w hs, ((lhA (gtl g (g.sl ag cg)) ag25 rfl rfl rfl)) w hs, ((lhA (ctl c (c.sl ah ch)) ag28 rfl rfl rfl)) w hs, trivial, trivial⟩) ?_
 exact sy_to (h1110101011110000 (a1, c1, b7, b8, b9, b10)) (by repeat' first | exact Sub.nil | apply Sub.cons | rfl | (simp [lk]; omega)) (fun _ h => St.sub ((((h.pull b7).pull b8).pull b9).pull b10))
 refine sy_have (β := Nat × Nat × Nat) pl5_3_1010101011100000 (fun ⟨b7, b8, b9⟩ => ([(9, .pointer (some ⟨b9, 0, none⟩)), (8, .pointer (some ⟨b8, 0, none⟩)), (7, .pointer (some ⟨b7, 0, none⟩)), (2, .int .i64 gr), (3, .pointer (some ⟨b3, 0, none⟩)), (4, .pointer (some ⟨b4, 0, none⟩)), (30, g.v (g.sl ag cg)), (32, c.v (c.sl ah ch)), (34, g.v (g.sl ag cg)), (36, c.v (c.sl ah ch))], (b9, cel 59 ([.int .i64 0, .int .i64 0, .slice none 0 0])) :: (b8, cel 28 ([.int .i64 0, .int .i64 0, .slice none 0 0])) :: (b7, cel 25 ([.int .i64 0, .int .i64 0, .slice none 0 0])) :: (b4, cel 28 (ctl c (c.sl ah ch))) :: (b3, cel 25 (gtl g (g.sl ag cg))) :: H, R, [(6, Ld Try.prog 28 ⟨b4, 0, none⟩ (c.v (c.sl ah ch))), (4, Ld Try.prog 25 ⟨b3, 0, none⟩ (g.v (g.sl ag cg))), (2, Ld Try.prog 28 ⟨b4, 0, none⟩ (c.v (c.sl ah ch))), (0, Ld Try.prog 25 ⟨b3, 0, none⟩ (g.v (g.sl ag cg)))])) (fun v9 => ?_) (fun h1010101011100000 => ?_)
 obtain ⟨b7, b8, b9⟩ := v9
 dsimp only
 unfold pl5_3_1010101011100000
 refine sy_any ?_
 refine sy_alt ?_ ?_
 refine cl rfl cal25 rfl rfl (c_Own g ag cg (by omega) _ _) ?_
 rintro _ _ R1 ⟨o, rfl, ho, rfl, hR1⟩
 obtain rfl := hR1.symm
 clear hR1
 obtain ⟨a1, c1n, he, hcc, hf⟩ := o.freezeC
 rw [he]
 refine Sy.heap (H' := _) (fun w h => hf h) ?_
 rw [show (grows g.grs).length = g.grs.length from List.length_map _] at hcc ⊢
 obtain ⟨c1, rfl⟩ : ∃ c1 : {n : Nat // g.grs.length ≤ n}, c1.1 = c1n := ⟨⟨c1n, hcc⟩, rfl⟩
 clear he hf
 refine bg (fun w hs => ⟨((lhA (ctl c (c.sl ah ch)) ag28 rfl rfl rfl)) w hs, ((lhA (gtl g (g.sl ag cg)) ag25 rfl rfl rfl)) w hs, ((lhA (ctl c (c.sl ah ch)) ag28 rfl rfl rfl)) w hs, trivial, trivial⟩) ?_
 exact sy_to (h1110101011100000 (a1, c1, b7, b8, b9)) (by repeat' first | exact Sub.nil | apply Sub.cons | rfl | (simp [lk]; omega)) (fun _ h => St.sub (((h.pull b7).pull b8).pull b9))
 refine sy_alt ?_ ?_
 refine alc rfl zl63 rfl (fun b10 => ?_)
 refine bg (fun w hs => ⟨((lhA (ctl c (c.sl ah ch)) ag28 rfl rfl rfl)) w hs, ((lhA (gtl g (g.sl ag cg)) ag25 rfl rfl rfl)) w hs, ((lhA (ctl c (c.sl ah ch)) ag28 rfl rfl rfl)) w hs, ((lhA (gtl g (g.sl ag cg)) ag25 rfl rfl rfl)) w hs, trivial⟩) ?_
 exact sy_to (h1010101011110000 (b7, b8, b9, b10)) (by repeat' first | exact Sub.nil | apply Sub.cons | rfl | (simp [lk]; omega)) (fun _ h => St.sub ((((h.pull b7).pull b8).pull b9).pull b10))
 exact sy_stop
 refine sy_have (β := Nat × Nat × Nat) pl5_3_1010101011010000 (fun ⟨b7, b8, b10⟩ => ([(10, .pointer (some ⟨b10, 0, none⟩)), (8, .pointer (some ⟨b8, 0, none⟩)), (7, .pointer (some ⟨b7, 0, none⟩)), (2, .int .i64 gr), (3, .pointer (some ⟨b3, 0, none⟩)), (4, .pointer (some ⟨b4, 0, none⟩)), (30, g.v (g.sl ag cg)), (32, c.v (c.sl ah ch)), (34, g.v (g.sl ag cg)), (36, c.v (c.sl ah ch))], (b10, cel 63 ([.int .i64 0, .int .i64 0, .slice none 0 0])) :: (b8, cel 28 ([.int .i64 0, .int .i64 0, .slice none 0 0])) :: (b7, cel 25 ([.int .i64 0, .int .i64 0, .slice none 0 0])) :: (b4, cel 28 (ctl c (c.sl ah ch))) :: (b3, cel 25 (gtl g (g.sl ag cg))) :: H, R, [(6, Ld Try.prog 28 ⟨b4, 0, none⟩ (c.v (c.sl ah ch))), (4, Ld Try.prog 25 ⟨b3, 0, none⟩ (g.v (g.sl ag cg))), (2, Ld Try.prog 28 ⟨b4, 0, none⟩ (c.v (c.sl ah ch))), (0, Ld Try.prog 25 ⟨b3, 0, none⟩ (g.v (g.sl ag cg)))])) (fun v9 => ?_) (fun h1010101011010000 => ?_)
 obtain ⟨b7, b8, b10⟩ := v9
 dsimp only
 unfold pl5_3_1010101011010000
 refine sy_any ?_
 refine sy_alt ?_ ?_
 refine cl rfl cal25 rfl rfl (c_Own g ag cg (by omega) _ _) ?_
 rintro _ _ R1 ⟨o, rfl, ho, rfl, hR1⟩
 obtain rfl := hR1.symm
 clear hR1
 obtain ⟨a1, c1n, he, hcc, hf⟩ := o.freezeC
 rw [he]
 refine Sy.heap (H' := _) (fun w h => hf h) ?_
 rw [show (grows g.grs).length = g.grs.length from List.length_map _] at hcc ⊢
 obtain ⟨c1, rfl⟩ : ∃ c1 : {n : Nat // g.grs.length ≤ n}, c1.1 = c1n := ⟨⟨c1n, hcc⟩, rfl⟩
 clear he hf
 refine bg (fun w hs => ⟨((lhA (ctl c (c.sl ah ch)) ag28 rfl rfl rfl)) w hs, ((lhA (gtl g (g.sl ag cg)) ag25 rfl rfl rfl)) w hs, ((lhA (ctl c (c.sl ah ch)) ag28 rfl rfl rfl)) w hs, trivial, trivial⟩) ?_
 exact sy_to (h1110101011010000 (a1, c1, b7, b8, b10)) (by repeat' first | exact Sub.nil | apply Sub.cons | rfl | (simp [lk]; omega)) (fun _ h => St.sub (((h.pull b7).pull b8).pull b10))
 refine sy_alt ?_ ?_
 refine alc rfl zl59 rfl (fun b9 => ?_)
 refine bg (fun w hs => ⟨((lhA (ctl c (c.sl ah ch)) ag28 rfl rfl rfl)) w hs, ((lhA (gtl g (g.sl ag cg)) ag25 rfl rfl rfl)) w hs, ((lhA (ctl c (c.sl ah ch)) ag28 rfl rfl rfl)) w hs, ((lhA (gtl g (g.sl ag cg)) ag25 rfl rfl rfl)) w hs, trivial⟩) ?_
 exact sy_to (h1010101011110000 (b7, b8, b9, b10)) (by repeat' first | exact Sub.nil | apply Sub.cons | rfl | (simp [lk]; omega)) (fun _ h => St.sub ((((h.pull b7).pull b8).pull b9).pull b10))
 exact sy_stop
 refine sy_have (β := Nat × Nat) pl5_3_1010101011000000 (fun ⟨b7, b8⟩ => ([(8, .pointer (some ⟨b8, 0, none⟩)), (7, .pointer (some ⟨b7, 0, none⟩)), (2, .int .i64 gr), (3, .pointer (some ⟨b3, 0, none⟩)), (4, .pointer (some ⟨b4, 0, none⟩)), (30, g.v (g.sl ag cg)), (32, c.v (c.sl ah ch)), (34, g.v (g.sl ag cg)), (36, c.v (c.sl ah ch))], (b8, cel 28 ([.int .i64 0, .int .i64 0, .slice none 0 0])) :: (b7, cel 25 ([.int .i64 0, .int .i64 0, .slice none 0 0])) :: (b4, cel 28 (ctl c (c.sl ah ch))) :: (b3, cel 25 (gtl g (g.sl ag cg))) :: H, R, [(6, Ld Try.prog 28 ⟨b4, 0, none⟩ (c.v (c.sl ah ch))), (4, Ld Try.prog 25 ⟨b3, 0, none⟩ (g.v (g.sl ag cg))), (2, Ld Try.prog 28 ⟨b4, 0, none⟩ (c.v (c.sl ah ch))), (0, Ld Try.prog 25 ⟨b3, 0, none⟩ (g.v (g.sl ag cg)))])) (fun v9 => ?_) (fun h1010101011000000 => ?_)
 obtain ⟨b7, b8⟩ := v9
 dsimp only
 unfold pl5_3_1010101011000000
 refine sy_any ?_
 refine sy_alt ?_ ?_
 refine cl rfl cal25 rfl rfl (c_Own g ag cg (by omega) _ _) ?_
 rintro _ _ R1 ⟨o, rfl, ho, rfl, hR1⟩
 obtain rfl := hR1.symm
 clear hR1
 obtain ⟨a1, c1n, he, hcc, hf⟩ := o.freezeC
 rw [he]
 refine Sy.heap (H' := _) (fun w h => hf h) ?_
 rw [show (grows g.grs).length = g.grs.length from List.length_map _] at hcc ⊢
 obtain ⟨c1, rfl⟩ : ∃ c1 : {n : Nat // g.grs.length ≤ n}, c1.1 = c1n := ⟨⟨c1n, hcc⟩, rfl⟩
 clear he hf
 refine bg (fun w hs => ⟨((lhA (ctl c (c.sl ah ch)) ag28 rfl rfl rfl)) w hs, ((lhA (gtl g (g.sl ag cg)) ag25 rfl rfl rfl)) w hs, ((lhA (ctl c (c.sl ah ch)) ag28 rfl rfl rfl)) w hs, trivial, trivial⟩) ?_
 exact sy_to (h1110101011000000 (a1, c1, b7, b8)) (by repeat' first | exact Sub.nil | apply Sub.cons | rfl | (simp [lk]; omega)) (fun _ h => St.sub ((h.pull b7).pull b8))
 refine sy_alt ?_ ?_
 refine alc rfl zl59 rfl (fun b9 => ?_)
 refine bg (fun w hs => ⟨((lhA (ctl c (c.sl ah ch)) ag28 rfl rfl rfl)) w hs, ((lhA (gtl g (g.sl ag cg)) ag25 rfl rfl rfl)) w hs, ((lhA (ctl c (c.sl ah ch)) ag28 rfl rfl rfl)) w hs, ((lhA (gtl g (g.sl ag cg)) ag25 rfl rfl rfl)) w hs, trivial⟩) ?_
 exact sy_to (h1010101011100000 (b7, b8, b9)) (by repeat' first | exact Sub.nil | apply Sub.cons | rfl | (simp [lk]; omega)) (fun _ h => St.sub (((h.pull b7).pull b8).pull b9))
 refine sy_alt ?_ ?_
 refine alc rfl zl63 rfl (fun b10 => ?_)
 refine bg (fun w hs => ⟨((lhA (ctl c (c.sl ah ch)) ag28 rfl rfl rfl)) w hs, ((lhA (gtl g (g.sl ag cg)) ag25 rfl rfl rfl)) w hs, ((lhA (ctl c (c.sl ah ch)) ag28 rfl rfl rfl)) w hs, ((lhA (gtl g (g.sl ag cg)) ag25 rfl rfl rfl)) w hs, trivial⟩) ?_
 exact sy_to (h1010101011010000 (b7, b8, b10)) (by repeat' first | exact Sub.nil | apply Sub.cons | rfl | (simp [lk]; omega)) (fun _ h => St.sub (((h.pull b7).pull b8).pull b10))
 exact sy_stop
 refine sy_have (β := Nat × Nat × Nat) pl5_3_1010101010110000 (fun ⟨b7, b9, b10⟩ => ([(10, .pointer (some ⟨b10, 0, none⟩)), (9, .pointer (some ⟨b9, 0, none⟩)), (7, .pointer (some ⟨b7, 0, none⟩)), (2, .int .i64 gr), (3, .pointer (some ⟨b3, 0, none⟩)), (4, .pointer (some ⟨b4, 0, none⟩)), (30, g.v (g.sl ag cg)), (32, c.v (c.sl ah ch)), (34, g.v (g.sl ag cg)), (36, c.v (c.sl ah ch))], (b10, cel 63 ([.int .i64 0, .int .i64 0, .slice none 0 0])) :: (b9, cel 59 ([.int .i64 0, .int .i64 0, .slice none 0 0])) :: (b7, cel 25 ([.int .i64 0, .int .i64 0, .slice none 0 0])) :: (b4, cel 28 (ctl c (c.sl ah ch))) :: (b3, cel 25 (gtl g (g.sl ag cg))) :: H, R, [(6, Ld Try.prog 28 ⟨b4, 0, none⟩ (c.v (c.sl ah ch))), (4, Ld Try.prog 25 ⟨b3, 0, none⟩ (g.v (g.sl ag cg))), (2, Ld Try.prog 28 ⟨b4, 0, none⟩ (c.v (c.sl ah ch))), (0, Ld Try.prog 25 ⟨b3, 0, none⟩ (g.v (g.sl ag cg)))])) (fun v9 => ?_) (fun h1010101010110000 => ?_)
 obtain ⟨b7, b9, b10⟩ := v9
 dsimp only
 unfold pl5_3_1010101010110000
 refine sy_any ?_
 refine sy_alt ?_ ?_
 refine cl rfl cal25 rfl rfl (c_Own g ag cg (by omega) _ _) ?_
 rintro _ _ R1 ⟨o, rfl, ho, rfl, hR1⟩
 obtain rfl := hR1.symm
 clear hR1
 obtain ⟨a1, c1n, he, hcc, hf⟩ := o.freezeC
 rw [he]
 refine Sy.heap (H' := _) (fun w h => hf h) ?_
 rw [show (grows g.grs).length = g.grs.length from List.length_map _] at hcc ⊢
 obtain ⟨c1, rfl⟩ : ∃ c1 : {n : Nat // g.grs.length ≤ n}, c1.1 = c1n := ⟨⟨c1n, hcc⟩, rfl⟩
 clear he hf
 refine bg (fun w hs => ⟨((lhA (ctl c (c.sl ah ch)) ag28 rfl rfl rfl)) w hs, ((lhA (gtl g (g.sl ag cg)) ag25 rfl rfl rfl)) w hs, ((lhA (ctl c (c.sl ah ch)) ag28 rfl rfl rfl)) w hs, trivial, trivial⟩) ?_
 exact sy_to (h1110101010110000 (a1, c1, b7, b9, b10)) (by repeat' first | exact Sub.nil | apply Sub.cons | rfl | (simp [lk]; omega)) (fun _ h => St.sub (((h.pull b7).pull b9).pull b10))
 refine sy_alt ?_ ?_
 refine alc rfl zl28 rfl (fun b8 => ?_)
 refine bg (fun w hs => ⟨((lhA (ctl c (c.sl ah ch)) ag28 rfl rfl rfl)) w hs, ((lhA (gtl g (g.sl ag cg)) ag25 rfl rfl rfl)) w hs, ((lhA (ctl c (c.sl ah ch)) ag28 rfl rfl rfl)) w hs, ((lhA (gtl g (g.sl ag cg)) ag25 rfl rfl rfl)) w hs, trivial⟩) ?_
 exact sy_to (h1010101011110000 (b7, b8, b9, b10)) (by repeat' first | exact Sub.nil | apply Sub.cons | rfl | (simp [lk]; omega)) (fun _ h => St.sub ((((h.pull b7).pull b8).pull b9).pull b10))
 exact sy_stop
 refine sy_have (β := Nat × Nat) pl5_3_1010101010100000 (fun ⟨b7, b9⟩ => ([(9, .pointer (some ⟨b9, 0, none⟩)), (7, .pointer (some ⟨b7, 0, none⟩)), (2, .int .i64 gr), (3, .pointer (some ⟨b3, 0, none⟩)), (4, .pointer (some ⟨b4, 0, none⟩)), (30, g.v (g.sl ag cg)), (32, c.v (c.sl ah ch)), (34, g.v (g.sl ag cg)), (36, c.v (c.sl ah ch))], (b9, cel 59 ([.int .i64 0, .int .i64 0, .slice none 0 0])) :: (b7, cel 25 ([.int .i64 0, .int .i64 0, .slice none 0 0])) :: (b4, cel 28 (ctl c (c.sl ah ch))) :: (b3, cel 25 (gtl g (g.sl ag cg))) :: H, R, [(6, Ld Try.prog 28 ⟨b4, 0, none⟩ (c.v (c.sl ah ch))), (4, Ld Try.prog 25 ⟨b3, 0, none⟩ (g.v (g.sl ag cg))), (2, Ld Try.prog 28 ⟨b4, 0, none⟩ (c.v (c.sl ah ch))), (0, Ld Try.prog 25 ⟨b3, 0, none⟩ (g.v (g.sl ag cg)))])) (fun v9 => ?_) (fun h1010101010100000 => ?_)
 obtain ⟨b7, b9⟩ := v9
 dsimp only
 unfold pl5_3_1010101010100000
 refine sy_any ?_
 refine sy_alt ?_ ?_
 refine cl rfl cal25 rfl rfl (c_Own g ag cg (by omega) _ _) ?_
 rintro _ _ R1 ⟨o, rfl, ho, rfl, hR1⟩
 obtain rfl := hR1.symm
 clear hR1
 obtain ⟨a1, c1n, he, hcc, hf⟩ := o.freezeC
 rw [he]
 refine Sy.heap (H' := _) (fun w h => hf h) ?_
 rw [show (grows g.grs).length = g.grs.length from List.length_map _] at hcc ⊢
 obtain ⟨c1, rfl⟩ : ∃ c1 : {n : Nat // g.grs.length ≤ n}, c1.1 = c1n := ⟨⟨c1n, hcc⟩, rfl⟩
 clear he hf
 refine bg (fun w hs => ⟨((lhA (ctl c (c.sl ah ch)) ag28 rfl rfl rfl)) w hs, ((lhA (gtl g (g.sl ag cg)) ag25 rfl rfl rfl)) w hs, ((lhA (ctl c (c.sl ah ch)) ag28 rfl rfl rfl)) w hs, trivial, trivial⟩) ?_
 exact sy_to (h1110101010100000 (a1, c1, b7, b9)) (by repeat' first | exact Sub.nil | apply Sub.cons | rfl | (simp [lk]; omega)) (fun _ h => St.sub ((h.pull b7).pull b9))
 refine sy_alt ?_ ?_
 refine alc rfl zl28 rfl (fun b8 => ?_)
 refine bg (fun w hs => ⟨((lhA (ctl c (c.sl ah ch)) ag28 rfl rfl rfl)) w hs, ((lhA (gtl g (g.sl ag cg)) ag25 rfl rfl rfl)) w hs, ((lhA (ctl c (c.sl ah ch)) ag28 rfl rfl rfl)) w hs, ((lhA (gtl g (g.sl ag cg)) ag25 rfl rfl rfl)) w hs, trivial⟩) ?_
 exact sy_to (h1010101011100000 (b7, b8, b9)) (by repeat' first | exact Sub.nil | apply Sub.cons | rfl | (simp [lk]; omega)) (fun _ h => St.sub (((h.pull b7).pull b8).pull b9))
 refine sy_alt ?_ ?_
 refine alc rfl zl63 rfl (fun b10 => ?_)
 refine bg (fun w hs => ⟨((lhA (ctl c (c.sl ah ch)) ag28 rfl rfl rfl)) w hs, ((lhA (gtl g (g.sl ag cg)) ag25 rfl rfl rfl)) w hs, ((lhA (ctl c (c.sl ah ch)) ag28 rfl rfl rfl)) w hs, ((lhA (gtl g (g.sl ag cg)) ag25 rfl rfl rfl)) w hs, trivial⟩) ?_
 exact sy_to (h1010101010110000 (b7, b9, b10)) (by repeat' first | exact Sub.nil | apply Sub.cons | rfl | (simp [lk]; omega)) (fun _ h => St.sub (((h.pull b7).pull b9).pull b10))
 exact sy_stop
 refine sy_have (β := Nat × Nat) pl5_3_1010101010010000 (fun ⟨b7, b10⟩ => ([(10, .pointer (some ⟨b10, 0, none⟩)), (7, .pointer (some ⟨b7, 0, none⟩)), (2, .int .i64 gr), (3, .pointer (some ⟨b3, 0, none⟩)), (4, .pointer (some ⟨b4, 0, none⟩)), (30, g.v (g.sl ag cg)), (32, c.v (c.sl ah ch)), (34, g.v (g.sl ag cg)), (36, c.v (c.sl ah ch))], (b10, cel 63 ([.int .i64 0, .int .i64 0, .slice none 0 0])) :: (b7, cel 25 ([.int .i64 0, .int .i64 0, .slice none 0 0])) :: (b4, cel 28 (ctl c (c.sl ah ch))) :: (b3, cel 25 (gtl g (g.sl ag cg))) :: H, R, [(6, Ld Try.prog 28 ⟨b4, 0, none⟩ (c.v (c.sl ah ch))), (4, Ld Try.prog 25 ⟨b3, 0, none⟩ (g.v (g.sl ag cg))), (2, Ld Try.prog 28 ⟨b4, 0, none⟩ (c.v (c.sl ah ch))), (0, Ld Try.prog 25 ⟨b3, 0, none⟩ (g.v (g.sl ag cg)))])) (fun v9 => ?_) (fun h1010101010010000 => ?_)
 obtain ⟨b7, b10⟩ := v9
 dsimp only
 unfold pl5_3_1010101010010000
 refine sy_any ?_
 refine sy_alt ?_ ?_
 refine cl rfl cal25 rfl rfl (c_Own g ag cg (by omega) _ _) ?_
 rintro _ _ R1 ⟨o, rfl, ho, rfl, hR1⟩
 obtain rfl := hR1.symm
 clear hR1
 obtain ⟨a1, c1n, he, hcc, hf⟩ := o.freezeC
 rw [he]
 refine Sy.heap (H' := _) (fun w h => hf h) ?_
 rw [show (grows g.grs).length = g.grs.length from List.length_map _] at hcc ⊢
 obtain ⟨c1, rfl⟩ : ∃ c1 : {n : Nat // g.grs.length ≤ n}, c1.1 = c1n := ⟨⟨c1n, hcc⟩, rfl⟩
 clear he hf
 refine bg (fun w hs => ⟨((lhA (ctl c (c.sl ah ch)) ag28 rfl rfl rfl)) w hs, ((lhA (gtl g (g.sl ag cg)) ag25 rfl rfl rfl)) w hs, ((lhA (ctl c (c.sl ah ch)) ag28 rfl rfl rfl)) w hs, trivial, trivial⟩) ?_
 exact sy_to (h1110101010010000 (a1, c1, b7, b10)) (by repeat' first | exact Sub.nil | apply Sub.cons | rfl | (simp [lk]; omega)) (fun _ h => St.sub ((h.pull b7).pull b10))
 refine sy_alt ?_ ?_
 refine alc rfl zl28 rfl (fun b8 => ?_)
 refine bg (fun w hs => ⟨((lhA (ctl c (c.sl ah ch)) ag28 rfl rfl rfl)) w hs, ((lhA (gtl g (g.sl ag cg)) ag25 rfl rfl rfl)) w hs, ((lhA (ctl c (c.sl ah ch)) ag28 rfl rfl rfl)) w hs, ((lhA (gtl g (g.sl ag cg)) ag25 rfl rfl rfl)) w hs, trivial⟩) ?_
 exact sy_to (h1010101011010000 (b7, b8, b10)) (by repeat' first | exact Sub.nil | apply Sub.cons | rfl | (simp [lk]; omega)) (fun _ h => St.sub (((h.pull b7).pull b8).pull b10))
 refine sy_alt ?_ ?_
 refine alc rfl zl59 rfl (fun b9 => ?_)
 refine bg (fun w hs => ⟨((lhA (ctl c (c.sl ah ch)) ag28 rfl rfl rfl)) w hs, ((lhA (gtl g (g.sl ag cg)) ag25 rfl rfl rfl)) w hs, ((lhA (ctl c (c.sl ah ch)) ag28 rfl rfl rfl)) w hs, ((lhA (gtl g (g.sl ag cg)) ag25 rfl rfl rfl)) w hs, trivial⟩) ?_
 exact sy_to (h1010101010110000 (b7, b9, b10)) (by repeat' first | exact Sub.nil | apply Sub.cons | rfl | (simp [lk]; omega)) (fun _ h => St.sub (((h.pull b7).pull b9).pull b10))
 exact sy_stop
 refine sy_have (β := Nat × Nat × Nat) pl5_3_1010101001110000 (fun ⟨b8, b9, b10⟩ => ([(10, .pointer (some ⟨b10, 0, none⟩)), (9, .pointer (some ⟨b9, 0, none⟩)), (8, .pointer (some ⟨b8, 0, none⟩)), (2, .int .i64 gr), (3, .pointer (some ⟨b3, 0, none⟩)), (4, .pointer (some ⟨b4, 0, none⟩)), (30, g.v (g.sl ag cg)), (32, c.v (c.sl ah ch)), (34, g.v (g.sl ag cg)), (36, c.v (c.sl ah ch))], (b10, cel 63 ([.int .i64 0, .int .i64 0, .slice none 0 0])) :: (b9, cel 59 ([.int .i64 0, .int .i64 0, .slice none 0 0])) :: (b8, cel 28 ([.int .i64 0, .int .i64 0, .slice none 0 0])) :: (b4, cel 28 (ctl c (c.sl ah ch))) :: (b3, cel 25 (gtl g (g.sl ag cg))) :: H, R, [(6, Ld Try.prog 28 ⟨b4, 0, none⟩ (c.v (c.sl ah ch))), (4, Ld Try.prog 25 ⟨b3, 0, none⟩ (g.v (g.sl ag cg))), (2, Ld Try.prog 28 ⟨b4, 0, none⟩ (c.v (c.sl ah ch))), (0, Ld Try.prog 25 ⟨b3, 0, none⟩ (g.v (g.sl ag cg)))])) (fun v9 => ?_) (fun h1010101001110000 => ?_)
 obtain ⟨b8, b9, b10⟩ := v9
 dsimp only
 unfold pl5_3_1010101001110000
 refine sy_any ?_
 refine sy_alt ?_ ?_
 refine cl rfl cal25 rfl rfl (c_Own g ag cg (by omega) _ _) ?_
 rintro _ _ R1 ⟨o, rfl, ho, rfl, hR1⟩
 obtain rfl := hR1.symm
 clear hR1
 obtain ⟨a1, c1n, he, hcc, hf⟩ := o.freezeC
 rw [he]
 refine Sy.heap (H' := _) (fun w h => hf h) ?_
 rw [show (grows g.grs).length = g.grs.length from List.length_map _] at hcc ⊢
 obtain ⟨c1, rfl⟩ : ∃ c1 : {n : Nat // g.grs.length ≤ n}, c1.1 = c1n := ⟨⟨c1n, hcc⟩, rfl⟩
 clear he hf
 refine bg (fun w hs => ⟨((lhA (ctl c (c.sl ah ch)) ag28 rfl rfl rfl)) w hs, ((lhA (gtl g (g.sl ag cg)) ag25 rfl rfl rfl)) w hs, ((lhA (ctl c (c.sl ah ch)) ag28 rfl rfl rfl)) w hs, trivial, trivial⟩) ?_
 exact sy_to (h1110101001110000 (a1, c1, b8, b9, b10)) (by repeat' first | exact Sub.nil | apply Sub.cons | rfl | (simp [lk]; omega)) (fun _ h => St.sub (((h.pull b8).pull b9).pull b10))
 refine sy_alt ?_ ?_
 refine alc rfl zl25 rfl (fun b7 => ?_)
 refine bg (fun w hs => ⟨((lhA (ctl c (c.sl ah ch)) ag28 rfl rfl rfl)) w hs, ((lhA (gtl g (g.sl ag cg)) ag25 rfl rfl rfl)) w hs, ((lhA (ctl c (c.sl ah ch)) ag28 rfl rfl rfl)) w hs, ((lhA (gtl g (g.sl ag cg)) ag25 rfl rfl rfl)) w hs, trivial⟩) ?_
 exact sy_to (h1010101011110000 (b7, b8, b9, b10)) (by repeat' first | exact Sub.nil | apply Sub.cons | rfl | (simp [lk]; omega)) (fun _ h => St.sub ((((h.pull b7).pull b8).pull b9).pull b10))
 exact sy_stop
 refine sy_have (β := Nat × Nat) pl5_3_1010101001100000 (fun ⟨b8, b9⟩ => ([(9, .pointer (some ⟨b9, 0, none⟩)), (8, .pointer (some ⟨b8, 0, none⟩)), (2, .int .i64 gr), (3, .pointer (some ⟨b3, 0, none⟩)), (4, .pointer (some ⟨b4, 0, none⟩)), (30, g.v (g.sl ag cg)), (32, c.v (c.sl ah ch)), (34, g.v (g.sl ag cg)), (36, c.v (c.sl ah ch))], (b9, cel 59 ([.int .i64 0, .int .i64 0, .slice none 0 0])) :: (b8, cel 28 ([.int .i64 0, .int .i64 0, .slice none 0 0])) :: (b4, cel 28 (ctl c (c.sl ah ch))) :: (b3, cel 25 (gtl g (g.sl ag cg))) :: H, R, [(6, Ld Try.prog 28 ⟨b4, 0, none⟩ (c.v (c.sl ah ch))), (4, Ld Try.prog 25 ⟨b3, 0, none⟩ (g.v (g.sl ag cg))), (2, Ld Try.prog 28 ⟨b4, 0, none⟩ (c.v (c.sl ah ch))), (0, Ld Try.prog 25 ⟨b3, 0, none⟩ (g.v (g.sl ag cg)))])) (fun v9 => ?_) (fun h1010101001100000 => ?_)
 obtain ⟨b8, b9⟩ := v9
 dsimp only
 unfold pl5_3_1010101001100000
 refine sy_any ?_
 refine sy_alt ?_ ?_
 refine cl rfl cal25 rfl rfl (c_Own g ag cg (by omega) _ _) ?_
 rintro _ _ R1 ⟨o, rfl, ho, rfl, hR1⟩
 obtain rfl := hR1.symm
 clear hR1
 obtain ⟨a1, c1n, he, hcc, hf⟩ := o.freezeC
 rw [he]
 refine Sy.heap (H' := _) (fun w h => hf h) ?_
 rw [show (grows g.grs).length = g.grs.length from List.length_map _] at hcc ⊢
 obtain ⟨c1, rfl⟩ : ∃ c1 : {n : Nat // g.grs.length ≤ n}, c1.1 = c1n := ⟨⟨c1n, hcc⟩, rfl⟩
 clear he hf
 refine bg (fun w hs => ⟨((lhA (ctl c (c.sl ah ch)) ag28 rfl rfl rfl)) w hs, ((lhA (gtl g (g.sl ag cg)) ag25 rfl rfl rfl)) w hs, ((lhA (ctl c (c.sl ah ch)) ag28 rfl rfl rfl)) w hs, trivial, trivial⟩) ?_
 exact sy_to (h1110101001100000 (a1, c1, b8, b9)) (by repeat' first | exact Sub.nil | apply Sub.cons | rfl | (simp [lk]; omega)) (fun _ h => St.sub ((h.pull b8).pull b9))
 refine sy_alt ?_ ?_
 refine alc rfl zl25 rfl (fun b7 => ?_)
 refine bg (fun w hs => ⟨((lhA (ctl c (c.sl ah ch)) ag28 rfl rfl rfl)) w hs, ((lhA (gtl g (g.sl ag cg)) ag25 rfl rfl rfl)) w hs, ((lhA (ctl c (c.sl ah ch)) ag28 rfl rfl rfl)) w hs, ((lhA (gtl g (g.sl ag cg)) ag25 rfl rfl rfl)) w hs, trivial⟩) ?_
 exact sy_to (h1010101011100000 (b7, b8, b9)) (by repeat' first | exact Sub.nil | apply Sub.cons | rfl | (simp [lk]; omega)) (fun _ h => St.sub (((h.pull b7).pull b8).pull b9))
 refine sy_alt ?_ ?_
 refine alc rfl zl63 rfl (fun b10 => ?_)
 refine bg (fun w hs => ⟨((lhA (ctl c (c.sl ah ch)) ag28 rfl rfl rfl)) w hs, ((lhA (gtl g (g.sl ag cg)) ag25 rfl rfl rfl)) w hs, ((lhA (ctl c (c.sl ah ch)) ag28 rfl rfl rfl)) w hs, ((lhA (gtl g (g.sl ag cg)) ag25 rfl rfl rfl)) w hs, trivial⟩) ?_
 exact sy_to (h1010101001110000 (b8, b9, b10)) (by repeat' first | exact Sub.nil | apply Sub.cons | rfl | (simp [lk]; omega)) (fun _ h => St.sub (((h.pull b8).pull b9).pull b10))
 exact sy_stop
 refine sy_have (β := Nat × Nat) pl5_3_1010101001010000 (fun ⟨b8, b10⟩ => ([(10, .pointer (some ⟨b10, 0, none⟩)), (8, .pointer (some ⟨b8, 0, none⟩)), (2, .int .i64 gr), (3, .pointer (some ⟨b3, 0, none⟩)), (4, .pointer (some ⟨b4, 0, none⟩)), (30, g.v (g.sl ag cg)), (32, c.v (c.sl ah ch)), (34, g.v (g.sl ag cg)), (36, c.v (c.sl ah ch))], (b10, cel 63 ([.int .i64 0, .int .i64 0, .slice none 0 0])) :: (b8, cel 28 ([.int .i64 0, .int .i64 0, .slice none 0 0])) :: (b4, cel 28 (ctl c (c.sl ah ch))) :: (b3, cel 25 (gtl g (g.sl ag cg))) :: H, R, [(6, Ld Try.prog 28 ⟨b4, 0, none⟩ (c.v (c.sl ah ch))), (4, Ld Try.prog 25 ⟨b3, 0, none⟩ (g.v (g.sl ag cg))), (2, Ld Try.prog 28 ⟨b4, 0, none⟩ (c.v (c.sl ah ch))), (0, Ld Try.prog 25 ⟨b3, 0, none⟩ (g.v (g.sl ag cg)))])) (fun v9 => ?_) (fun h1010101001010000 => ?_)
 obtain ⟨b8, b10⟩ := v9
 dsimp only
 unfold pl5_3_1010101001010000
 refine sy_any ?_
 refine sy_alt ?_ ?_
 refine cl rfl cal25 rfl rfl (c_Own g ag cg (by omega) _ _) ?_
 rintro _ _ R1 ⟨o, rfl, ho, rfl, hR1⟩
 obtain rfl := hR1.symm
 clear hR1
 obtain ⟨a1, c1n, he, hcc, hf⟩ := o.freezeC
 rw [he]
 refine Sy.heap (H' := _) (fun w h => hf h) ?_
 rw [show (grows g.grs).length = g.grs.length from List.length_map _] at hcc ⊢
 obtain ⟨c1, rfl⟩ : ∃ c1 : {n : Nat // g.grs.length ≤ n}, c1.1 = c1n := ⟨⟨c1n, hcc⟩, rfl⟩
 clear he hf
 refine bg (fun w hs => ⟨((lhA (ctl c (c.sl ah ch)) ag28 rfl rfl rfl)) w hs, ((lhA (gtl g (g.sl ag cg)) ag25 rfl rfl rfl)) w hs, ((lhA (ctl c (c.sl ah ch)) ag28 rfl rfl rfl)) w hs, trivial, trivial⟩) ?_
 exact sy_to (h1110101001010000 (a1, c1, b8, b10)) (by repeat' first | exact Sub.nil | apply Sub.cons | rfl | (simp [lk]; omega)) (fun _ h => St.sub ((h.pull b8).pull b10))
 refine sy_alt ?_ ?_
 refine alc rfl zl25 rfl (fun b7 => ?_)
 refine bg (fun w hs => ⟨((lhA (ctl c (c.sl ah ch)) ag28 rfl rfl rfl)) w hs, ((lhA (gtl g (g.sl ag cg)) ag25 rfl rfl rfl)) w hs, ((lhA (ctl c (c.sl ah ch)) ag28 rfl rfl rfl)) w hs, ((lhA (gtl g (g.sl ag cg)) ag25 rfl rfl rfl)) w hs, trivial⟩) ?_
 exact sy_to (h1010101011010000 (b7, b8, b10)) (by repeat' first | exact Sub.nil | apply Sub.cons | rfl | (simp [lk]; omega)) (fun _ h => St.sub (((h.pull b7).pull b8).pull b10))
 refine sy_alt ?_ ?_
 refine alc rfl zl59 rfl (fun b9 => ?_)
 refine bg (fun w hs => ⟨((lhA (ctl c (c.sl ah ch)) ag28 rfl rfl rfl)) w hs, ((lhA (gtl g (g.sl ag cg)) ag25 rfl rfl rfl)) w hs, ((lhA (ctl c (c.sl ah ch)) ag28 rfl rfl rfl)) w hs, ((lhA (gtl g (g.sl ag cg)) ag25 rfl rfl rfl)) w hs, trivial⟩) ?_
 exact sy_to (h1010101001110000 (b8, b9, b10)) (by repeat' first | exact Sub.nil | apply Sub.cons | rfl | (simp [lk]; omega)) (fun _ h => St.sub (((h.pull b8).pull b9).pull b10))
 exact sy_stop
 refine sy_have (β := Nat × Nat) pl5_3_1010101000110000 (fun ⟨b9, b10⟩ => ([(10, .pointer (some ⟨b10, 0, none⟩)), (9, .pointer (some ⟨b9, 0, none⟩)), (2, .int .i64 gr), (3, .pointer (some ⟨b3, 0, none⟩)), (4, .pointer (some ⟨b4, 0, none⟩)), (30, g.v (g.sl ag cg)), (32, c.v (c.sl ah ch)), (34, g.v (g.sl ag cg)), (36, c.v (c.sl ah ch))], (b10, cel 63 ([.int .i64 0, .int .i64 0, .slice none 0 0])) :: (b9, cel 59 ([.int .i64 0, .int .i64 0, .slice none 0 0])) :: (b4, cel 28 (ctl c (c.sl ah ch))) :: (b3, cel 25 (gtl g (g.sl ag cg))) :: H, R, [(6, Ld Try.prog 28 ⟨b4, 0, none⟩ (c.v (c.sl ah ch))), (4, Ld Try.prog 25 ⟨b3, 0, none⟩ (g.v (g.sl ag cg))), (2, Ld Try.prog 28 ⟨b4, 0, none⟩ (c.v (c.sl ah ch))), (0, Ld Try.prog 25 ⟨b3, 0, none⟩ (g.v (g.sl ag cg)))])) (fun v9 => ?_) (fun h1010101000110000 => ?_)
 obtain ⟨b9, b10⟩ := v9
 dsimp only
 unfold pl5_3_1010101000110000
 refine sy_any ?_
 refine sy_alt ?_ ?_
 refine cl rfl cal25 rfl rfl (c_Own g ag cg (by omega) _ _) ?_
 rintro _ _ R1 ⟨o, rfl, ho, rfl, hR1⟩
 obtain rfl := hR1.symm
 clear hR1
 obtain ⟨a1, c1n, he, hcc, hf⟩ := o.freezeC
 rw [he]
 refine Sy.heap (H' := _) (fun w h => hf h) ?_
 rw [show (grows g.grs).length = g.grs.length from List.length_map _] at hcc ⊢
 obtain ⟨c1, rfl⟩ : ∃ c1 : {n : Nat // g.grs.length ≤ n}, c1.1 = c1n := ⟨⟨c1n, hcc⟩, rfl⟩
 clear he hf
 refine bg (fun w hs => ⟨((lhA (ctl c (c.sl ah ch)) ag28 rfl rfl rfl)) w hs, ((lhA (gtl g (g.sl ag cg)) ag25 rfl rfl rfl)) w hs, ((lhA (ctl c (c.sl ah ch)) ag28 rfl rfl rfl)) w hs, trivial, trivial⟩) ?_
 exact sy_to (h1110101000110000 (a1, c1, b9, b10)) (by repeat' first | exact Sub.nil | apply Sub.cons | rfl | (simp [lk]; omega)) (fun _ h => St.sub ((h.pull b9).pull b10))
 refine sy_alt ?_ ?_
 refine alc rfl zl25 rfl (fun b7 => ?_)
 refine bg (fun w hs => ⟨((lhA (ctl c (c.sl ah ch)) ag28 rfl rfl rfl)) w hs, ((lhA (gtl g (g.sl ag cg)) ag25 rfl rfl rfl)) w hs, ((lhA (ctl c (c.sl ah ch)) ag28 rfl rfl rfl)) w hs, ((lhA (gtl g (g.sl ag cg)) ag25 rfl rfl rfl)) w hs, trivial⟩) ?_
 exact sy_to (h1010101010110000 (b7, b9, b10)) (by repeat' first | exact Sub.nil | apply Sub.cons | rfl | (simp [lk]; omega)) (fun _ h => St.sub (((h.pull b7).pull b9).pull b10))
 refine sy_alt ?_ ?_
 refine alc rfl zl28 rfl (fun b8 => ?_)
 refine bg (fun w hs => ⟨((lhA (ctl c (c.sl ah ch)) ag28 rfl rfl rfl)) w hs, ((lhA (gtl g (g.sl ag cg)) ag25 rfl rfl rfl)) w hs, ((lhA (ctl c (c.sl ah ch)) ag28 rfl rfl rfl)) w hs, ((lhA (gtl g (g.sl ag cg)) ag25 rfl rfl rfl)) w hs, trivial⟩) ?_
 exact sy_to (h1010101001110000 (b8, b9, b10)) (by repeat' first | exact Sub.nil | apply Sub.cons | rfl | (simp [lk]; omega)) (fun _ h => St.sub (((h.pull b8).pull b9).pull b10))
 exact sy_stop
 refine sy_any ?_
 refine sy_alt ?_ ?_
 refine cl rfl cal25 rfl rfl (c_Own g ag cg (by omega) _ _) ?_
 rintro _ _ R1 ⟨o, rfl, ho, rfl, hR1⟩
 obtain rfl := hR1.symm
 clear hR1
 obtain ⟨a1, c1n, he, hcc, hf⟩ := o.freezeC
 rw [he]
 refine Sy.heap (H' := _) (fun w h => hf h) ?_
 rw [show (grows g.grs).length = g.grs.length from List.length_map _] at hcc ⊢
 obtain ⟨c1, rfl⟩ : ∃ c1 : {n : Nat // g.grs.length ≤ n}, c1.1 = c1n := ⟨⟨c1n, hcc⟩, rfl⟩
 clear he hf
 refine bg (fun w hs => ⟨(lhA [_, _, _] ag28 rfl rfl rfl) w hs, (lhA [_, _, _] ag25 rfl rfl rfl) w hs, (lhA [_, _, _] ag28 rfl rfl rfl) w hs, trivial, trivial⟩) ?_
 refine sy_any ?_
 refine sy_alt ?_ ?_
 refine cl rfl cal26 rfl rfl (c_Owned c ah ch (by omega) _ _) ?_
 rintro _ _ R1 ⟨o, rfl, ho, rfl, hR1⟩
 obtain rfl := hR1.symm
 clear hR1
 obtain ⟨a2, c2, he, hf⟩ := o.freeze
 rw [he]
 refine Sy.heap (H' := _) (fun w h => hf h) ?_
 rw [show (hrows c.hs).length = c.hs.length from List.length_map _]
 clear he hf
 refine bg (fun w hs => ⟨(lhA [_, _, _] ag28 rfl rfl rfl) w hs, (lhA [_, _, _] ag25 rfl rfl rfl) w hs, trivial, trivial⟩) ?_
 refine sy_any ?_
 refine sy_alt ?_ ?_
 refine cl rfl cal27 rfl rfl (c_theirs g ag cg (by omega) _ _) ?_
 rintro _ _ R1 ⟨a3, c3, rfl, rfl, hR1⟩
 obtain rfl := hR1.symm
 clear hR1
 refine bg (fun w hs => ⟨(lhA [_, _, _] ag28 rfl rfl rfl) w hs, trivial, trivial⟩) ?_
 refine sy_any ?_
 refine sy_alt ?_ ?_
 refine cl rfl cal28 rfl rfl (c_come c ah ch (by omega) _ _) ?_
 rintro _ _ R1 ⟨a4, c4, rfl, rfl, hR1⟩
 obtain rfl := hR1.symm
 clear hR1
 refine bg (fun w hs => ⟨trivial, trivial⟩) ?_
 refine sy_any ?_
 refine sy_alt ?_ ?_
 refine alc rfl zl25 rfl (fun b7 => ?_)
 refine bg (fun w hs => trivial) ?_
 exact sy_to (h1111111110000000 (a1, c1, a2, c2, a3, c3, a4, c4, b7)) (by repeat' first | exact Sub.nil | apply Sub.cons | rfl | (simp [lk]; omega)) (fun _ h => St.sub (h.pull b7))
 refine sy_alt ?_ ?_
 refine alc rfl zl28 rfl (fun b8 => ?_)
 refine bg (fun w hs => trivial) ?_
 exact sy_to (h1111111101000000 (a1, c1, a2, c2, a3, c3, a4, c4, b8)) (by repeat' first | exact Sub.nil | apply Sub.cons | rfl | (simp [lk]; omega)) (fun _ h => St.sub (h.pull b8))
 refine sy_alt ?_ ?_
 refine alc rfl zl59 rfl (fun b9 => ?_)
 refine bg (fun w hs => trivial) ?_
 exact sy_to (h1111111100100000 (a1, c1, a2, c2, a3, c3, a4, c4, b9)) (by repeat' first | exact Sub.nil | apply Sub.cons | rfl | (simp [lk]; omega)) (fun _ h => St.sub (h.pull b9))
 refine sy_alt ?_ ?_
 refine alc rfl zl63 rfl (fun b10 => ?_)
 refine bg (fun w hs => trivial) ?_
 exact sy_to (h1111111100010000 (a1, c1, a2, c2, a3, c3, a4, c4, b10)) (by repeat' first | exact Sub.nil | apply Sub.cons | rfl | (simp [lk]; omega)) (fun _ h => St.sub (h.pull b10))
 exact sy_stop
 refine sy_alt ?_ ?_
 refine alc rfl zl25 rfl (fun b7 => ?_)
 refine bg (fun w hs => ⟨(lhA [_, _, _] ag28 rfl rfl rfl) w hs, trivial⟩) ?_
 exact sy_to (h1111111010000000 (a1, c1, a2, c2, a3, c3, b7)) (by repeat' first | exact Sub.nil | apply Sub.cons | rfl | (simp [lk]; omega)) (fun _ h => St.sub (h.pull b7))
 refine sy_alt ?_ ?_
 refine alc rfl zl28 rfl (fun b8 => ?_)
 refine bg (fun w hs => ⟨(lhA [_, _, _] ag28 rfl rfl rfl) w hs, trivial⟩) ?_
 exact sy_to (h1111111001000000 (a1, c1, a2, c2, a3, c3, b8)) (by repeat' first | exact Sub.nil | apply Sub.cons | rfl | (simp [lk]; omega)) (fun _ h => St.sub (h.pull b8))
 refine sy_alt ?_ ?_
 refine alc rfl zl59 rfl (fun b9 => ?_)
 refine bg (fun w hs => ⟨(lhA [_, _, _] ag28 rfl rfl rfl) w hs, trivial⟩) ?_
 exact sy_to (h1111111000100000 (a1, c1, a2, c2, a3, c3, b9)) (by repeat' first | exact Sub.nil | apply Sub.cons | rfl | (simp [lk]; omega)) (fun _ h => St.sub (h.pull b9))
 refine sy_alt ?_ ?_
 refine alc rfl zl63 rfl (fun b10 => ?_)
 refine bg (fun w hs => ⟨(lhA [_, _, _] ag28 rfl rfl rfl) w hs, trivial⟩) ?_
 exact sy_to (h1111111000010000 (a1, c1, a2, c2, a3, c3, b10)) (by repeat' first | exact Sub.nil | apply Sub.cons | rfl | (simp [lk]; omega)) (fun _ h => St.sub (h.pull b10))
 exact sy_stop
 refine sy_alt ?_ ?_
 refine alc rfl zl25 rfl (fun b7 => ?_)
 refine bg (fun w hs => ⟨(lhA [_, _, _] ag28 rfl rfl rfl) w hs, (lhA [_, _, _] ag25 rfl rfl rfl) w hs, trivial⟩) ?_
 exact sy_to (h1111101010000000 (a1, c1, a2, c2, b7)) (by repeat' first | exact Sub.nil | apply Sub.cons | rfl | (simp [lk]; omega)) (fun _ h => St.sub (h.pull b7))
 refine sy_alt ?_ ?_
 refine alc rfl zl28 rfl (fun b8 => ?_)
 refine bg (fun w hs => ⟨(lhA [_, _, _] ag28 rfl rfl rfl) w hs, (lhA [_, _, _] ag25 rfl rfl rfl) w hs, trivial⟩) ?_
 exact sy_to (h1111101001000000 (a1, c1, a2, c2, b8)) (by repeat' first | exact Sub.nil | apply Sub.cons | rfl | (simp [lk]; omega)) (fun _ h => St.sub (h.pull b8))
 refine sy_alt ?_ ?_
 refine alc rfl zl59 rfl (fun b9 => ?_)
 refine bg (fun w hs => ⟨(lhA [_, _, _] ag28 rfl rfl rfl) w hs, (lhA [_, _, _] ag25 rfl rfl rfl) w hs, trivial⟩) ?_
 exact sy_to (h1111101000100000 (a1, c1, a2, c2, b9)) (by repeat' first | exact Sub.nil | apply Sub.cons | rfl | (simp [lk]; omega)) (fun _ h => St.sub (h.pull b9))
 refine sy_alt ?_ ?_
 refine alc rfl zl63 rfl (fun b10 => ?_)
 refine bg (fun w hs => ⟨(lhA [_, _, _] ag28 rfl rfl rfl) w hs, (lhA [_, _, _] ag25 rfl rfl rfl) w hs, trivial⟩) ?_
 exact sy_to (h1111101000010000 (a1, c1, a2, c2, b10)) (by repeat' first | exact Sub.nil | apply Sub.cons | rfl | (simp [lk]; omega)) (fun _ h => St.sub (h.pull b10))
 exact sy_stop
 refine sy_alt ?_ ?_
 refine alc rfl zl25 rfl (fun b7 => ?_)
 refine bg (fun w hs => ⟨(lhA [_, _, _] ag28 rfl rfl rfl) w hs, (lhA [_, _, _] ag25 rfl rfl rfl) w hs, (lhA [_, _, _] ag28 rfl rfl rfl) w hs, trivial⟩) ?_
 exact sy_to (h1110101010000000 (a1, c1, b7)) (by repeat' first | exact Sub.nil | apply Sub.cons | rfl | (simp [lk]; omega)) (fun _ h => St.sub (h.pull b7))
 refine sy_alt ?_ ?_
 refine alc rfl zl28 rfl (fun b8 => ?_)
 refine bg (fun w hs => ⟨(lhA [_, _, _] ag28 rfl rfl rfl) w hs, (lhA [_, _, _] ag25 rfl rfl rfl) w hs, (lhA [_, _, _] ag28 rfl rfl rfl) w hs, trivial⟩) ?_
 exact sy_to (h1110101001000000 (a1, c1, b8)) (by repeat' first | exact Sub.nil | apply Sub.cons | rfl | (simp [lk]; omega)) (fun _ h => St.sub (h.pull b8))
 refine sy_alt ?_ ?_
 refine alc rfl zl59 rfl (fun b9 => ?_)
 refine bg (fun w hs => ⟨(lhA [_, _, _] ag28 rfl rfl rfl) w hs, (lhA [_, _, _] ag25 rfl rfl rfl) w hs, (lhA [_, _, _] ag28 rfl rfl rfl) w hs, trivial⟩) ?_
 exact sy_to (h1110101000100000 (a1, c1, b9)) (by repeat' first | exact Sub.nil | apply Sub.cons | rfl | (simp [lk]; omega)) (fun _ h => St.sub (h.pull b9))
 refine sy_alt ?_ ?_
 refine alc rfl zl63 rfl (fun b10 => ?_)
 refine bg (fun w hs => ⟨(lhA [_, _, _] ag28 rfl rfl rfl) w hs, (lhA [_, _, _] ag25 rfl rfl rfl) w hs, (lhA [_, _, _] ag28 rfl rfl rfl) w hs, trivial⟩) ?_
 exact sy_to (h1110101000010000 (a1, c1, b10)) (by repeat' first | exact Sub.nil | apply Sub.cons | rfl | (simp [lk]; omega)) (fun _ h => St.sub (h.pull b10))
 exact sy_stop
 refine sy_alt ?_ ?_
 refine alc rfl zl25 rfl (fun b7 => ?_)
 refine bg (fun w hs => ⟨(lhA [_, _, _] ag28 rfl rfl rfl) w hs, (lhA [_, _, _] ag25 rfl rfl rfl) w hs, (lhA [_, _, _] ag28 rfl rfl rfl) w hs, (lhA [_, _, _] ag25 rfl rfl rfl) w hs, trivial⟩) ?_
 refine sy_any ?_
 refine sy_alt ?_ ?_
 refine cl rfl cal25 rfl rfl (c_Own g ag cg (by omega) _ _) ?_
 rintro _ _ R1 ⟨o, rfl, ho, rfl, hR1⟩
 obtain rfl := hR1.symm
 clear hR1
 obtain ⟨a1, c1n, he, hcc, hf⟩ := o.freezeC
 rw [he]
 refine Sy.heap (H' := _) (fun w h => hf h) ?_
 rw [show (grows g.grs).length = g.grs.length from List.length_map _] at hcc ⊢
 obtain ⟨c1, rfl⟩ : ∃ c1 : {n : Nat // g.grs.length ≤ n}, c1.1 = c1n := ⟨⟨c1n, hcc⟩, rfl⟩
 clear he hf
 refine bg (fun w hs => ⟨(lhA [_, _, _] ag28 rfl rfl rfl) w hs, (lhA [_, _, _] ag25 rfl rfl rfl) w hs, (lhA [_, _, _] ag28 rfl rfl rfl) w hs, trivial, trivial⟩) ?_
 exact sy_to (h1110101010000000 (a1, c1, b7)) (by repeat' first | exact Sub.nil | apply Sub.cons | rfl | (simp [lk]; omega)) (fun _ h => St.sub (h.pull b7))
 refine sy_alt ?_ ?_
 refine alc rfl zl28 rfl (fun b8 => ?_)
 refine bg (fun w hs => ⟨(lhA [_, _, _] ag28 rfl rfl rfl) w hs, (lhA [_, _, _] ag25 rfl rfl rfl) w hs, (lhA [_, _, _] ag28 rfl rfl rfl) w hs, (lhA [_, _, _] ag25 rfl rfl rfl) w hs, trivial⟩) ?_
 exact sy_to (h1010101011000000 (b7, b8)) (by repeat' first | exact Sub.nil | apply Sub.cons | rfl | (simp [lk]; omega)) (fun _ h => St.sub ((h.pull b7).pull b8))
 refine sy_alt ?_ ?_
 refine alc rfl zl59 rfl (fun b9 => ?_)
 refine bg (fun w hs => ⟨(lhA [_, _, _] ag28 rfl rfl rfl) w hs, (lhA [_, _, _] ag25 rfl rfl rfl) w hs, (lhA [_, _, _] ag28 rfl rfl rfl) w hs, (lhA [_, _, _] ag25 rfl rfl rfl) w hs, trivial⟩) ?_
 exact sy_to (h1010101010100000 (b7, b9)) (by repeat' first | exact Sub.nil | apply Sub.cons | rfl | (simp [lk]; omega)) (fun _ h => St.sub ((h.pull b7).pull b9))
 refine sy_alt ?_ ?_
 refine alc rfl zl63 rfl (fun b10 => ?_)
 refine bg (fun w hs => ⟨(lhA [_, _, _] ag28 rfl rfl rfl) w hs, (lhA [_, _, _] ag25 rfl rfl rfl) w hs, (lhA [_, _, _] ag28 rfl rfl rfl) w hs, (lhA [_, _, _] ag25 rfl rfl rfl) w hs, trivial⟩) ?_
 exact sy_to (h1010101010010000 (b7, b10)) (by repeat' first | exact Sub.nil | apply Sub.cons | rfl | (simp [lk]; omega)) (fun _ h => St.sub ((h.pull b7).pull b10))
 exact sy_stop
 refine sy_alt ?_ ?_
 refine alc rfl zl28 rfl (fun b8 => ?_)
 refine bg (fun w hs => ⟨(lhA [_, _, _] ag28 rfl rfl rfl) w hs, (lhA [_, _, _] ag25 rfl rfl rfl) w hs, (lhA [_, _, _] ag28 rfl rfl rfl) w hs, (lhA [_, _, _] ag25 rfl rfl rfl) w hs, trivial⟩) ?_
 refine sy_any ?_
 refine sy_alt ?_ ?_
 refine cl rfl cal25 rfl rfl (c_Own g ag cg (by omega) _ _) ?_
 rintro _ _ R1 ⟨o, rfl, ho, rfl, hR1⟩
 obtain rfl := hR1.symm
 clear hR1
 obtain ⟨a1, c1n, he, hcc, hf⟩ := o.freezeC
 rw [he]
 refine Sy.heap (H' := _) (fun w h => hf h) ?_
 rw [show (grows g.grs).length = g.grs.length from List.length_map _] at hcc ⊢
 obtain ⟨c1, rfl⟩ : ∃ c1 : {n : Nat // g.grs.length ≤ n}, c1.1 = c1n := ⟨⟨c1n, hcc⟩, rfl⟩
 clear he hf
 refine bg (fun w hs => ⟨(lhA [_, _, _] ag28 rfl rfl rfl) w hs, (lhA [_, _, _] ag25 rfl rfl rfl) w hs, (lhA [_, _, _] ag28 rfl rfl rfl) w hs, trivial, trivial⟩) ?_
 exact sy_to (h1110101001000000 (a1, c1, b8)) (by repeat' first | exact Sub.nil | apply Sub.cons | rfl | (simp [lk]; omega)) (fun _ h => St.sub (h.pull b8))
 refine sy_alt ?_ ?_
 refine alc rfl zl25 rfl (fun b7 => ?_)
 refine bg (fun w hs => ⟨(lhA [_, _, _] ag28 rfl rfl rfl) w hs, (lhA [_, _, _] ag25 rfl rfl rfl) w hs, (lhA [_, _, _] ag28 rfl rfl rfl) w hs, (lhA [_, _, _] ag25 rfl rfl rfl) w hs, trivial⟩) ?_
 exact sy_to (h1010101011000000 (b7, b8)) (by repeat' first | exact Sub.nil | apply Sub.cons | rfl | (simp [lk]; omega)) (fun _ h => St.sub ((h.pull b7).pull b8))
 refine sy_alt ?_ ?_
 refine alc rfl zl59 rfl (fun b9 => ?_)
 refine bg (fun w hs => ⟨(lhA [_, _, _] ag28 rfl rfl rfl) w hs, (lhA [_, _, _] ag25 rfl rfl rfl) w hs, (lhA [_, _, _] ag28 rfl rfl rfl) w hs, (lhA [_, _, _] ag25 rfl rfl rfl) w hs, trivial⟩) ?_
 exact sy_to (h1010101001100000 (b8, b9)) (by repeat' first | exact Sub.nil | apply Sub.cons | rfl | (simp [lk]; omega)) (fun _ h => St.sub ((h.pull b8).pull b9))
 refine sy_alt ?_ ?_
 refine alc rfl zl63 rfl (fun b10 => ?_)
 refine bg (fun w hs => ⟨(lhA [_, _, _] ag28 rfl rfl rfl) w hs, (lhA [_, _, _] ag25 rfl rfl rfl) w hs, (lhA [_, _, _] ag28 rfl rfl rfl) w hs, (lhA [_, _, _] ag25 rfl rfl rfl) w hs, trivial⟩) ?_
 exact sy_to (h1010101001010000 (b8, b10)) (by repeat' first | exact Sub.nil | apply Sub.cons | rfl | (simp [lk]; omega)) (fun _ h => St.sub ((h.pull b8).pull b10))
 exact sy_stop
 refine sy_alt ?_ ?_
 refine alc rfl zl59 rfl (fun b9 => ?_)
 refine bg (fun w hs => ⟨(lhA [_, _, _] ag28 rfl rfl rfl) w hs, (lhA [_, _, _] ag25 rfl rfl rfl) w hs, (lhA [_, _, _] ag28 rfl rfl rfl) w hs, (lhA [_, _, _] ag25 rfl rfl rfl) w hs, trivial⟩) ?_
 refine sy_any ?_
 refine sy_alt ?_ ?_
 refine cl rfl cal25 rfl rfl (c_Own g ag cg (by omega) _ _) ?_
 rintro _ _ R1 ⟨o, rfl, ho, rfl, hR1⟩
 obtain rfl := hR1.symm
 clear hR1
 obtain ⟨a1, c1n, he, hcc, hf⟩ := o.freezeC
 rw [he]
 refine Sy.heap (H' := _) (fun w h => hf h) ?_
 rw [show (grows g.grs).length = g.grs.length from List.length_map _] at hcc ⊢
 obtain ⟨c1, rfl⟩ : ∃ c1 : {n : Nat // g.grs.length ≤ n}, c1.1 = c1n := ⟨⟨c1n, hcc⟩, rfl⟩
 clear he hf
 refine bg (fun w hs => ⟨(lhA [_, _, _] ag28 rfl rfl rfl) w hs, (lhA [_, _, _] ag25 rfl rfl rfl) w hs, (lhA [_, _, _] ag28 rfl rfl rfl) w hs, trivial, trivial⟩) ?_
 exact sy_to (h1110101000100000 (a1, c1, b9)) (by repeat' first | exact Sub.nil | apply Sub.cons | rfl | (simp [lk]; omega)) (fun _ h => St.sub (h.pull b9))
 refine sy_alt ?_ ?_
 refine alc rfl zl25 rfl (fun b7 => ?_)
 refine bg (fun w hs => ⟨(lhA [_, _, _] ag28 rfl rfl rfl) w hs, (lhA [_, _, _] ag25 rfl rfl rfl) w hs, (lhA [_, _, _] ag28 rfl rfl rfl) w hs, (lhA [_, _, _] ag25 rfl rfl rfl) w hs, trivial⟩) ?_
 exact sy_to (h1010101010100000 (b7, b9)) (by repeat' first | exact Sub.nil | apply Sub.cons | rfl | (simp [lk]; omega)) (fun _ h => St.sub ((h.pull b7).pull b9))
 refine sy_alt ?_ ?_
 refine alc rfl zl28 rfl (fun b8 => ?_)
 refine bg (fun w hs => ⟨(lhA [_, _, _] ag28 rfl rfl rfl) w hs, (lhA [_, _, _] ag25 rfl rfl rfl) w hs, (lhA [_, _, _] ag28 rfl rfl rfl) w hs, (lhA [_, _, _] ag25 rfl rfl rfl) w hs, trivial⟩) ?_
 exact sy_to (h1010101001100000 (b8, b9)) (by repeat' first | exact Sub.nil | apply Sub.cons | rfl | (simp [lk]; omega)) (fun _ h => St.sub ((h.pull b8).pull b9))
 refine sy_alt ?_ ?_
 refine alc rfl zl63 rfl (fun b10 => ?_)
 refine bg (fun w hs => ⟨(lhA [_, _, _] ag28 rfl rfl rfl) w hs, (lhA [_, _, _] ag25 rfl rfl rfl) w hs, (lhA [_, _, _] ag28 rfl rfl rfl) w hs, (lhA [_, _, _] ag25 rfl rfl rfl) w hs, trivial⟩) ?_
 exact sy_to (h1010101000110000 (b9, b10)) (by repeat' first | exact Sub.nil | apply Sub.cons | rfl | (simp [lk]; omega)) (fun _ h => St.sub ((h.pull b9).pull b10))
 exact sy_stop
 refine sy_alt ?_ ?_
 refine alc rfl zl63 rfl (fun b10 => ?_)
 refine bg (fun w hs => ⟨(lhA [_, _, _] ag28 rfl rfl rfl) w hs, (lhA [_, _, _] ag25 rfl rfl rfl) w hs, (lhA [_, _, _] ag28 rfl rfl rfl) w hs, (lhA [_, _, _] ag25 rfl rfl rfl) w hs, trivial⟩) ?_
 refine sy_any ?_
 refine sy_alt ?_ ?_
 refine cl rfl cal25 rfl rfl (c_Own g ag cg (by omega) _ _) ?_
 rintro _ _ R1 ⟨o, rfl, ho, rfl, hR1⟩
 obtain rfl := hR1.symm
 clear hR1
 obtain ⟨a1, c1n, he, hcc, hf⟩ := o.freezeC
 rw [he]
 refine Sy.heap (H' := _) (fun w h => hf h) ?_
 rw [show (grows g.grs).length = g.grs.length from List.length_map _] at hcc ⊢
 obtain ⟨c1, rfl⟩ : ∃ c1 : {n : Nat // g.grs.length ≤ n}, c1.1 = c1n := ⟨⟨c1n, hcc⟩, rfl⟩
 clear he hf
 refine bg (fun w hs => ⟨(lhA [_, _, _] ag28 rfl rfl rfl) w hs, (lhA [_, _, _] ag25 rfl rfl rfl) w hs, (lhA [_, _, _] ag28 rfl rfl rfl) w hs, trivial, trivial⟩) ?_
 exact sy_to (h1110101000010000 (a1, c1, b10)) (by repeat' first | exact Sub.nil | apply Sub.cons | rfl | (simp [lk]; omega)) (fun _ h => St.sub (h.pull b10))
 refine sy_alt ?_ ?_
 refine alc rfl zl25 rfl (fun b7 => ?_)
 refine bg (fun w hs => ⟨(lhA [_, _, _] ag28 rfl rfl rfl) w hs, (lhA [_, _, _] ag25 rfl rfl rfl) w hs, (lhA [_, _, _] ag28 rfl rfl rfl) w hs, (lhA [_, _, _] ag25 rfl rfl rfl) w hs, trivial⟩) ?_
 exact sy_to (h1010101010010000 (b7, b10)) (by repeat' first | exact Sub.nil | apply Sub.cons | rfl | (simp [lk]; omega)) (fun _ h => St.sub ((h.pull b7).pull b10))
 refine sy_alt ?_ ?_
 refine alc rfl zl28 rfl (fun b8 => ?_)
 refine bg (fun w hs => ⟨(lhA [_, _, _] ag28 rfl rfl rfl) w hs, (lhA [_, _, _] ag25 rfl rfl rfl) w hs, (lhA [_, _, _] ag28 rfl rfl rfl) w hs, (lhA [_, _, _] ag25 rfl rfl rfl) w hs, trivial⟩) ?_
 exact sy_to (h1010101001010000 (b8, b10)) (by repeat' first | exact Sub.nil | apply Sub.cons | rfl | (simp [lk]; omega)) (fun _ h => St.sub ((h.pull b8).pull b10))
 refine sy_alt ?_ ?_
 refine alc rfl zl59 rfl (fun b9 => ?_)
 refine bg (fun w hs => ⟨(lhA [_, _, _] ag28 rfl rfl rfl) w hs, (lhA [_, _, _] ag25 rfl rfl rfl) w hs, (lhA [_, _, _] ag28 rfl rfl rfl) w hs, (lhA [_, _, _] ag25 rfl rfl rfl) w hs, trivial⟩) ?_
 exact sy_to (h1010101000110000 (b9, b10)) (by repeat' first | exact Sub.nil | apply Sub.cons | rfl | (simp [lk]; omega)) (fun _ h => St.sub ((h.pull b9).pull b10))
 exact sy_stop
 exact sy_stop
end Go.Proofs.Ytknoaljnelfklaa
