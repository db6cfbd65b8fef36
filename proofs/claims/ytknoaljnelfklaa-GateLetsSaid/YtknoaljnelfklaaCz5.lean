/- Walks of the functions of the program, and the laws that join them: what the last theorem of this claim needs, in order. -/
import Derived.Test.YtknoaljnelfklaaCz4
namespace Go.Proofs.Ytknoaljnelfklaa
set_option linter.unusedSimpArgs false
set_option linter.unusedVariables false
open Go
theorem cal29 : cal Try.prog 29 = true := by kernel_rfl
theorem cal36 : cal Try.prog 36 = true := by kernel_rfl
theorem cal37 : cal Try.prog 37 = true := by kernel_rfl
theorem cal38 : cal Try.prog 38 = true := by kernel_rfl
theorem cal49 : cal Try.prog 49 = true := by kernel_rfl
theorem cal56 : cal Try.prog 56 = true := by kernel_rfl
theorem cal57 : cal Try.prog 57 = true := by kernel_rfl
def netQ (g : Gat) (c : Crt) : Int × Int := bif decide (bothE g c ≠ 0) then (0, 0) else netP g c
theorem netR_eq (g : Gat) (c : Crt) : netR g c = .tuple #[spv (netQ g c).1 (netQ g c).2, .int .i64 (bothE g c)] := by
  unfold netR netQ
  by_cases h : bothE g c = 0
  · rw [decide_eq_false (show ¬ bothE g c ≠ 0 by omega), h]; rfl
  · rw [decide_eq_true h]; rfl
theorem letE_err {g : Gat} {c : Crt} (h : bothE g c ≠ 0) (n k : Int) : letE g c n k = bothE g c ∧ letP g c n k = (0, 0) := by
  have e : letE g c n k = bothE g c := by unfold letE; rw [decide_eq_true h]; rfl
  exact ⟨e, letP_no e h⟩
theorem let_ref {g : Gat} {c : Crt} {i q : Nat} {h : Hnd} (h0 : bothE g c = 0) (hh : c.hs[i]? = some h) (hq : q < 4) :
    letE g c i q = (bif decide ((letS g.miss h q).1 ≤ (letS g.miss h q).2) then 0 else 6) ∧ (letP g c i q).1 = (bif decide ((letS g.miss h q).1 ≤ (letS g.miss h q).2) then (letS g.miss h q).1 else 0) ∧ (letP g c i q).2 = (bif decide ((letS g.miss h q).1 ≤ (letS g.miss h q).2) then (letS g.miss h q).2 else 0) := by
  have e := letE_at (g := g) h0 hh hq
  by_cases hl : (letS g.miss h q).1 ≤ (letS g.miss h q).2
  · rw [decide_eq_false (by omega)] at e
    rw [e, letP_at (g := g) h0 hh hq hl, decide_eq_true hl]; exact ⟨rfl, rfl, rfl⟩
  · rw [decide_eq_true (by omega)] at e
    have e2 : letE g c i q = 6 := e
    rw [e2, letP_no e2 (by decide), decide_eq_false hl]; exact ⟨rfl, rfl, rfl⟩
def pl9_3_1111111111110000 : Plan := (.big 12 (.big 13 (.big 14 (.big 15 .done))))
def pl9_3_1111111111100000 : Plan := (.big 11 pl9_3_1111111111110000)
def pl9_3_1111111111010000 : Plan := (.big 10 pl9_3_1111111111110000)
def pl9_3_1111111111000000 : Plan := (.any (.alt 10 pl9_3_1111111111100000 (.alt 11 pl9_3_1111111111010000 .stop)))
def pl9_3_1111111110110000 : Plan := (.big 9 pl9_3_1111111111110000)
def pl9_3_1111111110100000 : Plan := (.any (.alt 9 pl9_3_1111111111100000 (.alt 11 pl9_3_1111111110110000 .stop)))
def pl9_3_1111111110010000 : Plan := (.any (.alt 9 pl9_3_1111111111010000 (.alt 10 pl9_3_1111111110110000 .stop)))
def pl9_3_1111111110000000 : Plan := (.any (.alt 9 pl9_3_1111111111000000 (.alt 10 pl9_3_1111111110100000 (.alt 11 pl9_3_1111111110010000 .stop))))
def pl9_3_1111111101110000 : Plan := (.big 8 pl9_3_1111111111110000)
def pl9_3_1111111101100000 : Plan := (.any (.alt 8 pl9_3_1111111111100000 (.alt 11 pl9_3_1111111101110000 .stop)))
def pl9_3_1111111101010000 : Plan := (.any (.alt 8 pl9_3_1111111111010000 (.alt 10 pl9_3_1111111101110000 .stop)))
def pl9_3_1111111101000000 : Plan := (.any (.alt 8 pl9_3_1111111111000000 (.alt 10 pl9_3_1111111101100000 (.alt 11 pl9_3_1111111101010000 .stop))))
def pl9_3_1111111100110000 : Plan := (.any (.alt 8 pl9_3_1111111110110000 (.alt 9 pl9_3_1111111101110000 .stop)))
def pl9_3_1111111100100000 : Plan := (.any (.alt 8 pl9_3_1111111110100000 (.alt 9 pl9_3_1111111101100000 (.alt 11 pl9_3_1111111100110000 .stop))))
def pl9_3_1111111100010000 : Plan := (.any (.alt 8 pl9_3_1111111110010000 (.alt 9 pl9_3_1111111101010000 (.alt 10 pl9_3_1111111100110000 .stop))))
def pl9_3_1111111011110000 : Plan := (.big 7 pl9_3_1111111111110000)
def pl9_3_1111111011100000 : Plan := (.any (.alt 7 pl9_3_1111111111100000 (.alt 11 pl9_3_1111111011110000 .stop)))
def pl9_3_1111111011010000 : Plan := (.any (.alt 7 pl9_3_1111111111010000 (.alt 10 pl9_3_1111111011110000 .stop)))
def pl9_3_1111111011000000 : Plan := (.any (.alt 7 pl9_3_1111111111000000 (.alt 10 pl9_3_1111111011100000 (.alt 11 pl9_3_1111111011010000 .stop))))
def pl9_3_1111111010110000 : Plan := (.any (.alt 7 pl9_3_1111111110110000 (.alt 9 pl9_3_1111111011110000 .stop)))
def pl9_3_1111111010100000 : Plan := (.any (.alt 7 pl9_3_1111111110100000 (.alt 9 pl9_3_1111111011100000 (.alt 11 pl9_3_1111111010110000 .stop))))
def pl9_3_1111111010010000 : Plan := (.any (.alt 7 pl9_3_1111111110010000 (.alt 9 pl9_3_1111111011010000 (.alt 10 pl9_3_1111111010110000 .stop))))
def pl9_3_1111111010000000 : Plan := (.any (.alt 7 pl9_3_1111111110000000 (.alt 9 pl9_3_1111111011000000 (.alt 10 pl9_3_1111111010100000 (.alt 11 pl9_3_1111111010010000 .stop)))))
def pl9_3_1111111001110000 : Plan := (.any (.alt 7 pl9_3_1111111101110000 (.alt 8 pl9_3_1111111011110000 .stop)))
def pl9_3_1111111001100000 : Plan := (.any (.alt 7 pl9_3_1111111101100000 (.alt 8 pl9_3_1111111011100000 (.alt 11 pl9_3_1111111001110000 .stop))))
def pl9_3_1111111001010000 : Plan := (.any (.alt 7 pl9_3_1111111101010000 (.alt 8 pl9_3_1111111011010000 (.alt 10 pl9_3_1111111001110000 .stop))))
def pl9_3_1111111001000000 : Plan := (.any (.alt 7 pl9_3_1111111101000000 (.alt 8 pl9_3_1111111011000000 (.alt 10 pl9_3_1111111001100000 (.alt 11 pl9_3_1111111001010000 .stop)))))
def pl9_3_1111111000110000 : Plan := (.any (.alt 7 pl9_3_1111111100110000 (.alt 8 pl9_3_1111111010110000 (.alt 9 pl9_3_1111111001110000 .stop))))
def pl9_3_1111111000100000 : Plan := (.any (.alt 7 pl9_3_1111111100100000 (.alt 8 pl9_3_1111111010100000 (.alt 9 pl9_3_1111111001100000 (.alt 11 pl9_3_1111111000110000 .stop)))))
def pl9_3_1111111000010000 : Plan := (.any (.alt 7 pl9_3_1111111100010000 (.alt 8 pl9_3_1111111010010000 (.alt 9 pl9_3_1111111001010000 (.alt 10 pl9_3_1111111000110000 .stop)))))
def pl9_3_1111101011110000 : Plan := (.big 5 pl9_3_1111111011110000)
def pl9_3_1111101011100000 : Plan := (.any (.alt 5 pl9_3_1111111011100000 (.alt 11 pl9_3_1111101011110000 .stop)))
def pl9_3_1111101011010000 : Plan := (.any (.alt 5 pl9_3_1111111011010000 (.alt 10 pl9_3_1111101011110000 .stop)))
def pl9_3_1111101011000000 : Plan := (.any (.alt 5 pl9_3_1111111011000000 (.alt 10 pl9_3_1111101011100000 (.alt 11 pl9_3_1111101011010000 .stop))))
def pl9_3_1111101010110000 : Plan := (.any (.alt 5 pl9_3_1111111010110000 (.alt 9 pl9_3_1111101011110000 .stop)))
def pl9_3_1111101010100000 : Plan := (.any (.alt 5 pl9_3_1111111010100000 (.alt 9 pl9_3_1111101011100000 (.alt 11 pl9_3_1111101010110000 .stop))))
def pl9_3_1111101010010000 : Plan := (.any (.alt 5 pl9_3_1111111010010000 (.alt 9 pl9_3_1111101011010000 (.alt 10 pl9_3_1111101010110000 .stop))))
def pl9_3_1111101010000000 : Plan := (.any (.alt 5 pl9_3_1111111010000000 (.alt 9 pl9_3_1111101011000000 (.alt 10 pl9_3_1111101010100000 (.alt 11 pl9_3_1111101010010000 .stop)))))
def pl9_3_1111101001110000 : Plan := (.any (.alt 5 pl9_3_1111111001110000 (.alt 8 pl9_3_1111101011110000 .stop)))
def pl9_3_1111101001100000 : Plan := (.any (.alt 5 pl9_3_1111111001100000 (.alt 8 pl9_3_1111101011100000 (.alt 11 pl9_3_1111101001110000 .stop))))
def pl9_3_1111101001010000 : Plan := (.any (.alt 5 pl9_3_1111111001010000 (.alt 8 pl9_3_1111101011010000 (.alt 10 pl9_3_1111101001110000 .stop))))
def pl9_3_1111101001000000 : Plan := (.any (.alt 5 pl9_3_1111111001000000 (.alt 8 pl9_3_1111101011000000 (.alt 10 pl9_3_1111101001100000 (.alt 11 pl9_3_1111101001010000 .stop)))))
def pl9_3_1111101000110000 : Plan := (.any (.alt 5 pl9_3_1111111000110000 (.alt 8 pl9_3_1111101010110000 (.alt 9 pl9_3_1111101001110000 .stop))))
def pl9_3_1111101000100000 : Plan := (.any (.alt 5 pl9_3_1111111000100000 (.alt 8 pl9_3_1111101010100000 (.alt 9 pl9_3_1111101001100000 (.alt 11 pl9_3_1111101000110000 .stop)))))
def pl9_3_1111101000010000 : Plan := (.any (.alt 5 pl9_3_1111111000010000 (.alt 8 pl9_3_1111101010010000 (.alt 9 pl9_3_1111101001010000 (.alt 10 pl9_3_1111101000110000 .stop)))))
def pl9_3_1110101011110000 : Plan := (.big 3 pl9_3_1111101011110000)
def pl9_3_1110101011100000 : Plan := (.any (.alt 3 pl9_3_1111101011100000 (.alt 11 pl9_3_1110101011110000 .stop)))
def pl9_3_1110101011010000 : Plan := (.any (.alt 3 pl9_3_1111101011010000 (.alt 10 pl9_3_1110101011110000 .stop)))
def pl9_3_1110101011000000 : Plan := (.any (.alt 3 pl9_3_1111101011000000 (.alt 10 pl9_3_1110101011100000 (.alt 11 pl9_3_1110101011010000 .stop))))
def pl9_3_1110101010110000 : Plan := (.any (.alt 3 pl9_3_1111101010110000 (.alt 9 pl9_3_1110101011110000 .stop)))
def pl9_3_1110101010100000 : Plan := (.any (.alt 3 pl9_3_1111101010100000 (.alt 9 pl9_3_1110101011100000 (.alt 11 pl9_3_1110101010110000 .stop))))
def pl9_3_1110101010010000 : Plan := (.any (.alt 3 pl9_3_1111101010010000 (.alt 9 pl9_3_1110101011010000 (.alt 10 pl9_3_1110101010110000 .stop))))
def pl9_3_1110101010000000 : Plan := (.any (.alt 3 pl9_3_1111101010000000 (.alt 9 pl9_3_1110101011000000 (.alt 10 pl9_3_1110101010100000 (.alt 11 pl9_3_1110101010010000 .stop)))))
def pl9_3_1110101001110000 : Plan := (.any (.alt 3 pl9_3_1111101001110000 (.alt 8 pl9_3_1110101011110000 .stop)))
def pl9_3_1110101001100000 : Plan := (.any (.alt 3 pl9_3_1111101001100000 (.alt 8 pl9_3_1110101011100000 (.alt 11 pl9_3_1110101001110000 .stop))))
def pl9_3_1110101001010000 : Plan := (.any (.alt 3 pl9_3_1111101001010000 (.alt 8 pl9_3_1110101011010000 (.alt 10 pl9_3_1110101001110000 .stop))))
def pl9_3_1110101001000000 : Plan := (.any (.alt 3 pl9_3_1111101001000000 (.alt 8 pl9_3_1110101011000000 (.alt 10 pl9_3_1110101001100000 (.alt 11 pl9_3_1110101001010000 .stop)))))
def pl9_3_1110101000110000 : Plan := (.any (.alt 3 pl9_3_1111101000110000 (.alt 8 pl9_3_1110101010110000 (.alt 9 pl9_3_1110101001110000 .stop))))
def pl9_3_1110101000100000 : Plan := (.any (.alt 3 pl9_3_1111101000100000 (.alt 8 pl9_3_1110101010100000 (.alt 9 pl9_3_1110101001100000 (.alt 11 pl9_3_1110101000110000 .stop)))))
def pl9_3_1110101000010000 : Plan := (.any (.alt 3 pl9_3_1111101000010000 (.alt 8 pl9_3_1110101010010000 (.alt 9 pl9_3_1110101001010000 (.alt 10 pl9_3_1110101000110000 .stop)))))
def pl9_3_1010101011110000 : Plan := (.big 1 pl9_3_1110101011110000)
def pl9_3_1010101011100000 : Plan := (.any (.alt 1 pl9_3_1110101011100000 (.alt 11 pl9_3_1010101011110000 .stop)))
def pl9_3_1010101011010000 : Plan := (.any (.alt 1 pl9_3_1110101011010000 (.alt 10 pl9_3_1010101011110000 .stop)))
def pl9_3_1010101011000000 : Plan := (.any (.alt 1 pl9_3_1110101011000000 (.alt 10 pl9_3_1010101011100000 (.alt 11 pl9_3_1010101011010000 .stop))))
def pl9_3_1010101010110000 : Plan := (.any (.alt 1 pl9_3_1110101010110000 (.alt 9 pl9_3_1010101011110000 .stop)))
def pl9_3_1010101010100000 : Plan := (.any (.alt 1 pl9_3_1110101010100000 (.alt 9 pl9_3_1010101011100000 (.alt 11 pl9_3_1010101010110000 .stop))))
def pl9_3_1010101010010000 : Plan := (.any (.alt 1 pl9_3_1110101010010000 (.alt 9 pl9_3_1010101011010000 (.alt 10 pl9_3_1010101010110000 .stop))))
def pl9_3_1010101001110000 : Plan := (.any (.alt 1 pl9_3_1110101001110000 (.alt 8 pl9_3_1010101011110000 .stop)))
def pl9_3_1010101001100000 : Plan := (.any (.alt 1 pl9_3_1110101001100000 (.alt 8 pl9_3_1010101011100000 (.alt 11 pl9_3_1010101001110000 .stop))))
def pl9_3_1010101001010000 : Plan := (.any (.alt 1 pl9_3_1110101001010000 (.alt 8 pl9_3_1010101011010000 (.alt 10 pl9_3_1010101001110000 .stop))))
def pl9_3_1010101000110000 : Plan := (.any (.alt 1 pl9_3_1110101000110000 (.alt 8 pl9_3_1010101010110000 (.alt 9 pl9_3_1010101001110000 .stop))))
def pl9_3_0000000000000000 : Plan := (.ld 0 (.ld 2 (.ld 4 (.ld 6 (.any (.alt 1 (.any (.alt 3 (.any (.alt 5 (.any (.alt 7 (.any (.alt 8 pl9_3_1111111110000000 (.alt 9 pl9_3_1111111101000000 (.alt 10 pl9_3_1111111100100000 (.alt 11 pl9_3_1111111100010000 .stop))))) (.alt 8 pl9_3_1111111010000000 (.alt 9 pl9_3_1111111001000000 (.alt 10 pl9_3_1111111000100000 (.alt 11 pl9_3_1111111000010000 .stop)))))) (.alt 8 pl9_3_1111101010000000 (.alt 9 pl9_3_1111101001000000 (.alt 10 pl9_3_1111101000100000 (.alt 11 pl9_3_1111101000010000 .stop)))))) (.alt 8 pl9_3_1110101010000000 (.alt 9 pl9_3_1110101001000000 (.alt 10 pl9_3_1110101000100000 (.alt 11 pl9_3_1110101000010000 .stop)))))) (.alt 8 (.any (.alt 1 pl9_3_1110101010000000 (.alt 9 pl9_3_1010101011000000 (.alt 10 pl9_3_1010101010100000 (.alt 11 pl9_3_1010101010010000 .stop))))) (.alt 9 (.any (.alt 1 pl9_3_1110101001000000 (.alt 8 pl9_3_1010101011000000 (.alt 10 pl9_3_1010101001100000 (.alt 11 pl9_3_1010101001010000 .stop))))) (.alt 10 (.any (.alt 1 pl9_3_1110101000100000 (.alt 8 pl9_3_1010101010100000 (.alt 9 pl9_3_1010101001100000 (.alt 11 pl9_3_1010101000110000 .stop))))) (.alt 11 (.any (.alt 1 pl9_3_1110101000010000 (.alt 8 pl9_3_1010101010010000 (.alt 9 pl9_3_1010101001010000 (.alt 10 pl9_3_1010101000110000 .stop))))) .stop))))))))))
set_option maxHeartbeats 4000000 in
theorem c_GateLets (g : Gat) (ag : Option Addr) (cg : Nat) (hlg : g.grs.length ≤ 9223372036854775807) (c : Crt) (ah : Option Addr) (ch : Nat) (hlh : c.hs.length ≤ 9223372036854775807) (n k : Int) (hnk : (-9223372036854775808 ≤ n ∧ n ≤ 9223372036854775807) ∧ (-9223372036854775808 ≤ k ∧ k ≤ 9223372036854775807)) (m : Mix) (hm : m.length = 4) (H : Heap) (R : Facts) [hG : MemRows ag 5 (grows g.grs) R] [hA : MemRows ah 5 (hrows c.hs) R] :
    Fn Try.prog 9 [g.v (g.sl ag cg), c.v (c.sl ah ch), .int .i64 n, .int .i64 k, .agg (ints m).toArray] H R (fun v H' R' => v = .bool true ∧ H' = H ∧ R' = R) := by
 refine fn_of Try.func9 rfl Try.ntmps9 rfl ?_
 refine sy_seq ?_
 refine sy_tx' [0, 1, 2, 3] rfl ?_
 refine bx rfl rfl rfl (fun b5 => ?_)
 refine bx rfl rfl rfl (fun b6 => ?_)
 refine bx rfl rfl rfl (fun b9 => ?_)
 refine sp rfl (PE.assign rfl) rfl ?_
 refine sy_seq ?_
 refine sy_seq ?_
 refine sy_tx' [0, 1, 2] rfl ?_
 refine spL rfl rfl (lhA [_, _, _] ag25 rfl rfl rfl) rfl ?_
 refine spL rfl rfl (lhA [_, _, _] ag28 rfl rfl rfl) rfl ?_
 refine clV rfl cal24 rfl rfl (c_grt g ag cg hlg c ah ch hlh _ _) ?_
 refine sy_cond rfl (fun hc0 => ?_) (fun hc0 => ?_)
 refine sy_seq ?_
 refine sy_tx' [0, 1] rfl ?_
 refine clV rfl cal22 rfl rfl (c_awake _ _) ?_
 refine sp rfl (PE.assign rfl) rfl ?_
 refine sy_ret ?_
 exact sy_return (vs := [_]) rfl (.cons (RV.tmp rfl) .nil) rfl ⟨rfl, rfl, rfl⟩ drp
 have h79 : ¬ 7 < g.grs.length ∧ ¬ 9 < c.hs.length := by simpa using hc0
 refine sy_skip ?_
 refine sy_seq ?_
 refine sy_draw [0, 1, 0, 7, 0, 31, 0, 127, 0, 0, 0, 0, 4095, 8191, 16383, 32767] pl9_3_0000000000000000 mixed ?_ ?_
 refine reg_ok (fuel := 16) (listed := #[false, false, false, false, false, false, false, false, false, false, false, false, false, false, false, false]) (by kernel_rfl) (by kernel_rfl) (by kernel_rfl) ?_
 refine ok_have pl9_3_1111111111110000 4 #[true, true, true, true, true, true, true, true, true, true, true, true, false, false, false, false] ?_ (fun ok1111111111110000 => ?_)
 refine ok_big (l2 := #[true, true, true, true, true, true, true, true, true, true, true, true, true, false, false, false]) (by kernel_rfl) (by kernel_rfl) ?_
 refine ok_big (l2 := #[true, true, true, true, true, true, true, true, true, true, true, true, true, true, false, false]) (by kernel_rfl) (by kernel_rfl) ?_
 refine ok_big (l2 := #[true, true, true, true, true, true, true, true, true, true, true, true, true, true, true, false]) (by kernel_rfl) (by kernel_rfl) ?_
 refine ok_big (l2 := #[true, true, true, true, true, true, true, true, true, true, true, true, true, true, true, true]) (by kernel_rfl) (by kernel_rfl) ?_
 exact ok_done (by kernel_rfl)
 refine ok_have pl9_3_1111111111100000 5 #[true, true, true, true, true, true, true, true, true, true, true, false, false, false, false, false] ?_ (fun ok1111111111100000 => ?_)
 refine ok_big (l2 := #[true, true, true, true, true, true, true, true, true, true, true, true, false, false, false, false]) (by kernel_rfl) (by kernel_rfl) ?_
 exact ok1111111111110000
 refine ok_have pl9_3_1111111111010000 5 #[true, true, true, true, true, true, true, true, true, true, false, true, false, false, false, false] ?_ (fun ok1111111111010000 => ?_)
 refine ok_big (l2 := #[true, true, true, true, true, true, true, true, true, true, true, true, false, false, false, false]) (by kernel_rfl) (by kernel_rfl) ?_
 exact ok1111111111110000
 refine ok_have pl9_3_1111111111000000 6 #[true, true, true, true, true, true, true, true, true, true, false, false, false, false, false, false] ?_ (fun ok1111111111000000 => ?_)
 refine ok_any (by kernel_rfl) ?_
 refine ok_alt (l2 := #[true, true, true, true, true, true, true, true, true, true, true, false, false, false, false, false]) (by kernel_rfl) ?_ ?_
 exact ok1111111111100000
 refine ok_alt (l2 := #[true, true, true, true, true, true, true, true, true, true, false, true, false, false, false, false]) (by kernel_rfl) ?_ ?_
 exact ok1111111111010000
 exact ok_stop
 refine ok_have pl9_3_1111111110110000 5 #[true, true, true, true, true, true, true, true, true, false, true, true, false, false, false, false] ?_ (fun ok1111111110110000 => ?_)
 refine ok_big (l2 := #[true, true, true, true, true, true, true, true, true, true, true, true, false, false, false, false]) (by kernel_rfl) (by kernel_rfl) ?_
 exact ok1111111111110000
 refine ok_have pl9_3_1111111110100000 6 #[true, true, true, true, true, true, true, true, true, false, true, false, false, false, false, false] ?_ (fun ok1111111110100000 => ?_)
 refine ok_any (by kernel_rfl) ?_
 refine ok_alt (l2 := #[true, true, true, true, true, true, true, true, true, true, true, false, false, false, false, false]) (by kernel_rfl) ?_ ?_
 exact ok1111111111100000
 refine ok_alt (l2 := #[true, true, true, true, true, true, true, true, true, false, true, true, false, false, false, false]) (by kernel_rfl) ?_ ?_
 exact ok1111111110110000
 exact ok_stop
 refine ok_have pl9_3_1111111110010000 6 #[true, true, true, true, true, true, true, true, true, false, false, true, false, false, false, false] ?_ (fun ok1111111110010000 => ?_)
 refine ok_any (by kernel_rfl) ?_
 refine ok_alt (l2 := #[true, true, true, true, true, true, true, true, true, true, false, true, false, false, false, false]) (by kernel_rfl) ?_ ?_
 exact ok1111111111010000
 refine ok_alt (l2 := #[true, true, true, true, true, true, true, true, true, false, true, true, false, false, false, false]) (by kernel_rfl) ?_ ?_
 exact ok1111111110110000
 exact ok_stop
 refine ok_have pl9_3_1111111110000000 7 #[true, true, true, true, true, true, true, true, true, false, false, false, false, false, false, false] ?_ (fun ok1111111110000000 => ?_)
 refine ok_any (by kernel_rfl) ?_
 refine ok_alt (l2 := #[true, true, true, true, true, true, true, true, true, true, false, false, false, false, false, false]) (by kernel_rfl) ?_ ?_
 exact ok1111111111000000
 refine ok_alt (l2 := #[true, true, true, true, true, true, true, true, true, false, true, false, false, false, false, false]) (by kernel_rfl) ?_ ?_
 exact ok1111111110100000
 refine ok_alt (l2 := #[true, true, true, true, true, true, true, true, true, false, false, true, false, false, false, false]) (by kernel_rfl) ?_ ?_
 exact ok1111111110010000
 exact ok_stop
 refine ok_have pl9_3_1111111101110000 5 #[true, true, true, true, true, true, true, true, false, true, true, true, false, false, false, false] ?_ (fun ok1111111101110000 => ?_)
 refine ok_big (l2 := #[true, true, true, true, true, true, true, true, true, true, true, true, false, false, false, false]) (by kernel_rfl) (by kernel_rfl) ?_
 exact ok1111111111110000
 refine ok_have pl9_3_1111111101100000 6 #[true, true, true, true, true, true, true, true, false, true, true, false, false, false, false, false] ?_ (fun ok1111111101100000 => ?_)
 refine ok_any (by kernel_rfl) ?_
 refine ok_alt (l2 := #[true, true, true, true, true, true, true, true, true, true, true, false, false, false, false, false]) (by kernel_rfl) ?_ ?_
 exact ok1111111111100000
 refine ok_alt (l2 := #[true, true, true, true, true, true, true, true, false, true, true, true, false, false, false, false]) (by kernel_rfl) ?_ ?_
 exact ok1111111101110000
 exact ok_stop
 refine ok_have pl9_3_1111111101010000 6 #[true, true, true, true, true, true, true, true, false, true, false, true, false, false, false, false] ?_ (fun ok1111111101010000 => ?_)
 refine ok_any (by kernel_rfl) ?_
 refine ok_alt (l2 := #[true, true, true, true, true, true, true, true, true, true, false, true, false, false, false, false]) (by kernel_rfl) ?_ ?_
 exact ok1111111111010000
 refine ok_alt (l2 := #[true, true, true, true, true, true, true, true, false, true, true, true, false, false, false, false]) (by kernel_rfl) ?_ ?_
 exact ok1111111101110000
 exact ok_stop
 refine ok_have pl9_3_1111111101000000 7 #[true, true, true, true, true, true, true, true, false, true, false, false, false, false, false, false] ?_ (fun ok1111111101000000 => ?_)
 refine ok_any (by kernel_rfl) ?_
 refine ok_alt (l2 := #[true, true, true, true, true, true, true, true, true, true, false, false, false, false, false, false]) (by kernel_rfl) ?_ ?_
 exact ok1111111111000000
 refine ok_alt (l2 := #[true, true, true, true, true, true, true, true, false, true, true, false, false, false, false, false]) (by kernel_rfl) ?_ ?_
 exact ok1111111101100000
 refine ok_alt (l2 := #[true, true, true, true, true, true, true, true, false, true, false, true, false, false, false, false]) (by kernel_rfl) ?_ ?_
 exact ok1111111101010000
 exact ok_stop
 refine ok_have pl9_3_1111111100110000 6 #[true, true, true, true, true, true, true, true, false, false, true, true, false, false, false, false] ?_ (fun ok1111111100110000 => ?_)
 refine ok_any (by kernel_rfl) ?_
 refine ok_alt (l2 := #[true, true, true, true, true, true, true, true, true, false, true, true, false, false, false, false]) (by kernel_rfl) ?_ ?_
 exact ok1111111110110000
 refine ok_alt (l2 := #[true, true, true, true, true, true, true, true, false, true, true, true, false, false, false, false]) (by kernel_rfl) ?_ ?_
 exact ok1111111101110000
 exact ok_stop
 refine ok_have pl9_3_1111111100100000 7 #[true, true, true, true, true, true, true, true, false, false, true, false, false, false, false, false] ?_ (fun ok1111111100100000 => ?_)
 refine ok_any (by kernel_rfl) ?_
 refine ok_alt (l2 := #[true, true, true, true, true, true, true, true, true, false, true, false, false, false, false, false]) (by kernel_rfl) ?_ ?_
 exact ok1111111110100000
 refine ok_alt (l2 := #[true, true, true, true, true, true, true, true, false, true, true, false, false, false, false, false]) (by kernel_rfl) ?_ ?_
 exact ok1111111101100000
 refine ok_alt (l2 := #[true, true, true, true, true, true, true, true, false, false, true, true, false, false, false, false]) (by kernel_rfl) ?_ ?_
 exact ok1111111100110000
 exact ok_stop
 refine ok_have pl9_3_1111111100010000 7 #[true, true, true, true, true, true, true, true, false, false, false, true, false, false, false, false] ?_ (fun ok1111111100010000 => ?_)
 refine ok_any (by kernel_rfl) ?_
 refine ok_alt (l2 := #[true, true, true, true, true, true, true, true, true, false, false, true, false, false, false, false]) (by kernel_rfl) ?_ ?_
 exact ok1111111110010000
 refine ok_alt (l2 := #[true, true, true, true, true, true, true, true, false, true, false, true, false, false, false, false]) (by kernel_rfl) ?_ ?_
 exact ok1111111101010000
 refine ok_alt (l2 := #[true, true, true, true, true, true, true, true, false, false, true, true, false, false, false, false]) (by kernel_rfl) ?_ ?_
 exact ok1111111100110000
 exact ok_stop
 refine ok_have pl9_3_1111111011110000 5 #[true, true, true, true, true, true, true, false, true, true, true, true, false, false, false, false] ?_ (fun ok1111111011110000 => ?_)
 refine ok_big (l2 := #[true, true, true, true, true, true, true, true, true, true, true, true, false, false, false, false]) (by kernel_rfl) (by kernel_rfl) ?_
 exact ok1111111111110000
 refine ok_have pl9_3_1111111011100000 6 #[true, true, true, true, true, true, true, false, true, true, true, false, false, false, false, false] ?_ (fun ok1111111011100000 => ?_)
 refine ok_any (by kernel_rfl) ?_
 refine ok_alt (l2 := #[true, true, true, true, true, true, true, true, true, true, true, false, false, false, false, false]) (by kernel_rfl) ?_ ?_
 exact ok1111111111100000
 refine ok_alt (l2 := #[true, true, true, true, true, true, true, false, true, true, true, true, false, false, false, false]) (by kernel_rfl) ?_ ?_
 exact ok1111111011110000
 exact ok_stop
 refine ok_have pl9_3_1111111011010000 6 #[true, true, true, true, true, true, true, false, true, true, false, true, false, false, false, false] ?_ (fun ok1111111011010000 => ?_)
 refine ok_any (by kernel_rfl) ?_
 refine ok_alt (l2 := #[true, true, true, true, true, true, true, true, true, true, false, true, false, false, false, false]) (by kernel_rfl) ?_ ?_
 exact ok1111111111010000
 refine ok_alt (l2 := #[true, true, true, true, true, true, true, false, true, true, true, true, false, false, false, false]) (by kernel_rfl) ?_ ?_
 exact ok1111111011110000
 exact ok_stop
 refine ok_have pl9_3_1111111011000000 7 #[true, true, true, true, true, true, true, false, true, true, false, false, false, false, false, false] ?_ (fun ok1111111011000000 => ?_)
 refine ok_any (by kernel_rfl) ?_
 refine ok_alt (l2 := #[true, true, true, true, true, true, true, true, true, true, false, false, false, false, false, false]) (by kernel_rfl) ?_ ?_
 exact ok1111111111000000
 refine ok_alt (l2 := #[true, true, true, true, true, true, true, false, true, true, true, false, false, false, false, false]) (by kernel_rfl) ?_ ?_
 exact ok1111111011100000
 refine ok_alt (l2 := #[true, true, true, true, true, true, true, false, true, true, false, true, false, false, false, false]) (by kernel_rfl) ?_ ?_
 exact ok1111111011010000
 exact ok_stop
 refine ok_have pl9_3_1111111010110000 6 #[true, true, true, true, true, true, true, false, true, false, true, true, false, false, false, false] ?_ (fun ok1111111010110000 => ?_)
 refine ok_any (by kernel_rfl) ?_
 refine ok_alt (l2 := #[true, true, true, true, true, true, true, true, true, false, true, true, false, false, false, false]) (by kernel_rfl) ?_ ?_
 exact ok1111111110110000
 refine ok_alt (l2 := #[true, true, true, true, true, true, true, false, true, true, true, true, false, false, false, false]) (by kernel_rfl) ?_ ?_
 exact ok1111111011110000
 exact ok_stop
 refine ok_have pl9_3_1111111010100000 7 #[true, true, true, true, true, true, true, false, true, false, true, false, false, false, false, false] ?_ (fun ok1111111010100000 => ?_)
 refine ok_any (by kernel_rfl) ?_
 refine ok_alt (l2 := #[true, true, true, true, true, true, true, true, true, false, true, false, false, false, false, false]) (by kernel_rfl) ?_ ?_
 exact ok1111111110100000
 refine ok_alt (l2 := #[true, true, true, true, true, true, true, false, true, true, true, false, false, false, false, false]) (by kernel_rfl) ?_ ?_
 exact ok1111111011100000
 refine ok_alt (l2 := #[true, true, true, true, true, true, true, false, true, false, true, true, false, false, false, false]) (by kernel_rfl) ?_ ?_
 exact ok1111111010110000
 exact ok_stop
 refine ok_have pl9_3_1111111010010000 7 #[true, true, true, true, true, true, true, false, true, false, false, true, false, false, false, false] ?_ (fun ok1111111010010000 => ?_)
 refine ok_any (by kernel_rfl) ?_
 refine ok_alt (l2 := #[true, true, true, true, true, true, true, true, true, false, false, true, false, false, false, false]) (by kernel_rfl) ?_ ?_
 exact ok1111111110010000
 refine ok_alt (l2 := #[true, true, true, true, true, true, true, false, true, true, false, true, false, false, false, false]) (by kernel_rfl) ?_ ?_
 exact ok1111111011010000
 refine ok_alt (l2 := #[true, true, true, true, true, true, true, false, true, false, true, true, false, false, false, false]) (by kernel_rfl) ?_ ?_
 exact ok1111111010110000
 exact ok_stop
 refine ok_have pl9_3_1111111010000000 8 #[true, true, true, true, true, true, true, false, true, false, false, false, false, false, false, false] ?_ (fun ok1111111010000000 => ?_)
 refine ok_any (by kernel_rfl) ?_
 refine ok_alt (l2 := #[true, true, true, true, true, true, true, true, true, false, false, false, false, false, false, false]) (by kernel_rfl) ?_ ?_
 exact ok1111111110000000
 refine ok_alt (l2 := #[true, true, true, true, true, true, true, false, true, true, false, false, false, false, false, false]) (by kernel_rfl) ?_ ?_
 exact ok1111111011000000
 refine ok_alt (l2 := #[true, true, true, true, true, true, true, false, true, false, true, false, false, false, false, false]) (by kernel_rfl) ?_ ?_
 exact ok1111111010100000
 refine ok_alt (l2 := #[true, true, true, true, true, true, true, false, true, false, false, true, false, false, false, false]) (by kernel_rfl) ?_ ?_
 exact ok1111111010010000
 exact ok_stop
 refine ok_have pl9_3_1111111001110000 6 #[true, true, true, true, true, true, true, false, false, true, true, true, false, false, false, false] ?_ (fun ok1111111001110000 => ?_)
 refine ok_any (by kernel_rfl) ?_
 refine ok_alt (l2 := #[true, true, true, true, true, true, true, true, false, true, true, true, false, false, false, false]) (by kernel_rfl) ?_ ?_
 exact ok1111111101110000
 refine ok_alt (l2 := #[true, true, true, true, true, true, true, false, true, true, true, true, false, false, false, false]) (by kernel_rfl) ?_ ?_
 exact ok1111111011110000
 exact ok_stop
 refine ok_have pl9_3_1111111001100000 7 #[true, true, true, true, true, true, true, false, false, true, true, false, false, false, false, false] ?_ (fun ok1111111001100000 => ?_)
 refine ok_any (by kernel_rfl) ?_
 refine ok_alt (l2 := #[true, true, true, true, true, true, true, true, false, true, true, false, false, false, false, false]) (by kernel_rfl) ?_ ?_
 exact ok1111111101100000
 refine ok_alt (l2 := #[true, true, true, true, true, true, true, false, true, true, true, false, false, false, false, false]) (by kernel_rfl) ?_ ?_
 exact ok1111111011100000
 refine ok_alt (l2 := #[true, true, true, true, true, true, true, false, false, true, true, true, false, false, false, false]) (by kernel_rfl) ?_ ?_
 exact ok1111111001110000
 exact ok_stop
 refine ok_have pl9_3_1111111001010000 7 #[true, true, true, true, true, true, true, false, false, true, false, true, false, false, false, false] ?_ (fun ok1111111001010000 => ?_)
 refine ok_any (by kernel_rfl) ?_
 refine ok_alt (l2 := #[true, true, true, true, true, true, true, true, false, true, false, true, false, false, false, false]) (by kernel_rfl) ?_ ?_
 exact ok1111111101010000
 refine ok_alt (l2 := #[true, true, true, true, true, true, true, false, true, true, false, true, false, false, false, false]) (by kernel_rfl) ?_ ?_
 exact ok1111111011010000
 refine ok_alt (l2 := #[true, true, true, true, true, true, true, false, false, true, true, true, false, false, false, false]) (by kernel_rfl) ?_ ?_
 exact ok1111111001110000
 exact ok_stop
 refine ok_have pl9_3_1111111001000000 8 #[true, true, true, true, true, true, true, false, false, true, false, false, false, false, false, false] ?_ (fun ok1111111001000000 => ?_)
 refine ok_any (by kernel_rfl) ?_
 refine ok_alt (l2 := #[true, true, true, true, true, true, true, true, false, true, false, false, false, false, false, false]) (by kernel_rfl) ?_ ?_
 exact ok1111111101000000
 refine ok_alt (l2 := #[true, true, true, true, true, true, true, false, true, true, false, false, false, false, false, false]) (by kernel_rfl) ?_ ?_
 exact ok1111111011000000
 refine ok_alt (l2 := #[true, true, true, true, true, true, true, false, false, true, true, false, false, false, false, false]) (by kernel_rfl) ?_ ?_
 exact ok1111111001100000
 refine ok_alt (l2 := #[true, true, true, true, true, true, true, false, false, true, false, true, false, false, false, false]) (by kernel_rfl) ?_ ?_
 exact ok1111111001010000
 exact ok_stop
 refine ok_have pl9_3_1111111000110000 7 #[true, true, true, true, true, true, true, false, false, false, true, true, false, false, false, false] ?_ (fun ok1111111000110000 => ?_)
 refine ok_any (by kernel_rfl) ?_
 refine ok_alt (l2 := #[true, true, true, true, true, true, true, true, false, false, true, true, false, false, false, false]) (by kernel_rfl) ?_ ?_
 exact ok1111111100110000
 refine ok_alt (l2 := #[true, true, true, true, true, true, true, false, true, false, true, true, false, false, false, false]) (by kernel_rfl) ?_ ?_
 exact ok1111111010110000
 refine ok_alt (l2 := #[true, true, true, true, true, true, true, false, false, true, true, true, false, false, false, false]) (by kernel_rfl) ?_ ?_
 exact ok1111111001110000
 exact ok_stop
 refine ok_have pl9_3_1111111000100000 8 #[true, true, true, true, true, true, true, false, false, false, true, false, false, false, false, false] ?_ (fun ok1111111000100000 => ?_)
 refine ok_any (by kernel_rfl) ?_
 refine ok_alt (l2 := #[true, true, true, true, true, true, true, true, false, false, true, false, false, false, false, false]) (by kernel_rfl) ?_ ?_
 exact ok1111111100100000
 refine ok_alt (l2 := #[true, true, true, true, true, true, true, false, true, false, true, false, false, false, false, false]) (by kernel_rfl) ?_ ?_
 exact ok1111111010100000
 refine ok_alt (l2 := #[true, true, true, true, true, true, true, false, false, true, true, false, false, false, false, false]) (by kernel_rfl) ?_ ?_
 exact ok1111111001100000
 refine ok_alt (l2 := #[true, true, true, true, true, true, true, false, false, false, true, true, false, false, false, false]) (by kernel_rfl) ?_ ?_
 exact ok1111111000110000
 exact ok_stop
 refine ok_have pl9_3_1111111000010000 8 #[true, true, true, true, true, true, true, false, false, false, false, true, false, false, false, false] ?_ (fun ok1111111000010000 => ?_)
 refine ok_any (by kernel_rfl) ?_
 refine ok_alt (l2 := #[true, true, true, true, true, true, true, true, false, false, false, true, false, false, false, false]) (by kernel_rfl) ?_ ?_
 exact ok1111111100010000
 refine ok_alt (l2 := #[true, true, true, true, true, true, true, false, true, false, false, true, false, false, false, false]) (by kernel_rfl) ?_ ?_
 exact ok1111111010010000
 refine ok_alt (l2 := #[true, true, true, true, true, true, true, false, false, true, false, true, false, false, false, false]) (by kernel_rfl) ?_ ?_
 exact ok1111111001010000
 refine ok_alt (l2 := #[true, true, true, true, true, true, true, false, false, false, true, true, false, false, false, false]) (by kernel_rfl) ?_ ?_
 exact ok1111111000110000
 exact ok_stop
 refine ok_have pl9_3_1111101011110000 6 #[true, true, true, true, true, false, true, false, true, true, true, true, false, false, false, false] ?_ (fun ok1111101011110000 => ?_)
 refine ok_big (l2 := #[true, true, true, true, true, true, true, false, true, true, true, true, false, false, false, false]) (by kernel_rfl) (by kernel_rfl) ?_
 exact ok1111111011110000
 refine ok_have pl9_3_1111101011100000 7 #[true, true, true, true, true, false, true, false, true, true, true, false, false, false, false, false] ?_ (fun ok1111101011100000 => ?_)
 refine ok_any (by kernel_rfl) ?_
 refine ok_alt (l2 := #[true, true, true, true, true, true, true, false, true, true, true, false, false, false, false, false]) (by kernel_rfl) ?_ ?_
 exact ok1111111011100000
 refine ok_alt (l2 := #[true, true, true, true, true, false, true, false, true, true, true, true, false, false, false, false]) (by kernel_rfl) ?_ ?_
 exact ok1111101011110000
 exact ok_stop
 refine ok_have pl9_3_1111101011010000 7 #[true, true, true, true, true, false, true, false, true, true, false, true, false, false, false, false] ?_ (fun ok1111101011010000 => ?_)
 refine ok_any (by kernel_rfl) ?_
 refine ok_alt (l2 := #[true, true, true, true, true, true, true, false, true, true, false, true, false, false, false, false]) (by kernel_rfl) ?_ ?_
 exact ok1111111011010000
 refine ok_alt (l2 := #[true, true, true, true, true, false, true, false, true, true, true, true, false, false, false, false]) (by kernel_rfl) ?_ ?_
 exact ok1111101011110000
 exact ok_stop
 refine ok_have pl9_3_1111101011000000 8 #[true, true, true, true, true, false, true, false, true, true, false, false, false, false, false, false] ?_ (fun ok1111101011000000 => ?_)
 refine ok_any (by kernel_rfl) ?_
 refine ok_alt (l2 := #[true, true, true, true, true, true, true, false, true, true, false, false, false, false, false, false]) (by kernel_rfl) ?_ ?_
 exact ok1111111011000000
 refine ok_alt (l2 := #[true, true, true, true, true, false, true, false, true, true, true, false, false, false, false, false]) (by kernel_rfl) ?_ ?_
 exact ok1111101011100000
 refine ok_alt (l2 := #[true, true, true, true, true, false, true, false, true, true, false, true, false, false, false, false]) (by kernel_rfl) ?_ ?_
 exact ok1111101011010000
 exact ok_stop
 refine ok_have pl9_3_1111101010110000 7 #[true, true, true, true, true, false, true, false, true, false, true, true, false, false, false, false] ?_ (fun ok1111101010110000 => ?_)
 refine ok_any (by kernel_rfl) ?_
 refine ok_alt (l2 := #[true, true, true, true, true, true, true, false, true, false, true, true, false, false, false, false]) (by kernel_rfl) ?_ ?_
 exact ok1111111010110000
 refine ok_alt (l2 := #[true, true, true, true, true, false, true, false, true, true, true, true, false, false, false, false]) (by kernel_rfl) ?_ ?_
 exact ok1111101011110000
 exact ok_stop
 refine ok_have pl9_3_1111101010100000 8 #[true, true, true, true, true, false, true, false, true, false, true, false, false, false, false, false] ?_ (fun ok1111101010100000 => ?_)
 refine ok_any (by kernel_rfl) ?_
 refine ok_alt (l2 := #[true, true, true, true, true, true, true, false, true, false, true, false, false, false, false, false]) (by kernel_rfl) ?_ ?_
 exact ok1111111010100000
 refine ok_alt (l2 := #[true, true, true, true, true, false, true, false, true, true, true, false, false, false, false, false]) (by kernel_rfl) ?_ ?_
 exact ok1111101011100000
 refine ok_alt (l2 := #[true, true, true, true, true, false, true, false, true, false, true, true, false, false, false, false]) (by kernel_rfl) ?_ ?_
 exact ok1111101010110000
 exact ok_stop
 refine ok_have pl9_3_1111101010010000 8 #[true, true, true, true, true, false, true, false, true, false, false, true, false, false, false, false] ?_ (fun ok1111101010010000 => ?_)
 refine ok_any (by kernel_rfl) ?_
 refine ok_alt (l2 := #[true, true, true, true, true, true, true, false, true, false, false, true, false, false, false, false]) (by kernel_rfl) ?_ ?_
 exact ok1111111010010000
 refine ok_alt (l2 := #[true, true, true, true, true, false, true, false, true, true, false, true, false, false, false, false]) (by kernel_rfl) ?_ ?_
 exact ok1111101011010000
 refine ok_alt (l2 := #[true, true, true, true, true, false, true, false, true, false, true, true, false, false, false, false]) (by kernel_rfl) ?_ ?_
 exact ok1111101010110000
 exact ok_stop
 refine ok_have pl9_3_1111101010000000 9 #[true, true, true, true, true, false, true, false, true, false, false, false, false, false, false, false] ?_ (fun ok1111101010000000 => ?_)
 refine ok_any (by kernel_rfl) ?_
 refine ok_alt (l2 := #[true, true, true, true, true, true, true, false, true, false, false, false, false, false, false, false]) (by kernel_rfl) ?_ ?_
 exact ok1111111010000000
 refine ok_alt (l2 := #[true, true, true, true, true, false, true, false, true, true, false, false, false, false, false, false]) (by kernel_rfl) ?_ ?_
 exact ok1111101011000000
 refine ok_alt (l2 := #[true, true, true, true, true, false, true, false, true, false, true, false, false, false, false, false]) (by kernel_rfl) ?_ ?_
 exact ok1111101010100000
 refine ok_alt (l2 := #[true, true, true, true, true, false, true, false, true, false, false, true, false, false, false, false]) (by kernel_rfl) ?_ ?_
 exact ok1111101010010000
 exact ok_stop
 refine ok_have pl9_3_1111101001110000 7 #[true, true, true, true, true, false, true, false, false, true, true, true, false, false, false, false] ?_ (fun ok1111101001110000 => ?_)
 refine ok_any (by kernel_rfl) ?_
 refine ok_alt (l2 := #[true, true, true, true, true, true, true, false, false, true, true, true, false, false, false, false]) (by kernel_rfl) ?_ ?_
 exact ok1111111001110000
 refine ok_alt (l2 := #[true, true, true, true, true, false, true, false, true, true, true, true, false, false, false, false]) (by kernel_rfl) ?_ ?_
 exact ok1111101011110000
 exact ok_stop
 refine ok_have pl9_3_1111101001100000 8 #[true, true, true, true, true, false, true, false, false, true, true, false, false, false, false, false] ?_ (fun ok1111101001100000 => ?_)
 refine ok_any (by kernel_rfl) ?_
 refine ok_alt (l2 := #[true, true, true, true, true, true, true, false, false, true, true, false, false, false, false, false]) (by kernel_rfl) ?_ ?_
 exact ok1111111001100000
 refine ok_alt (l2 := #[true, true, true, true, true, false, true, false, true, true, true, false, false, false, false, false]) (by kernel_rfl) ?_ ?_
 exact ok1111101011100000
 refine ok_alt (l2 := #[true, true, true, true, true, false, true, false, false, true, true, true, false, false, false, false]) (by kernel_rfl) ?_ ?_
 exact ok1111101001110000
 exact ok_stop
 refine ok_have pl9_3_1111101001010000 8 #[true, true, true, true, true, false, true, false, false, true, false, true, false, false, false, false] ?_ (fun ok1111101001010000 => ?_)
 refine ok_any (by kernel_rfl) ?_
 refine ok_alt (l2 := #[true, true, true, true, true, true, true, false, false, true, false, true, false, false, false, false]) (by kernel_rfl) ?_ ?_
 exact ok1111111001010000
 refine ok_alt (l2 := #[true, true, true, true, true, false, true, false, true, true, false, true, false, false, false, false]) (by kernel_rfl) ?_ ?_
 exact ok1111101011010000
 refine ok_alt (l2 := #[true, true, true, true, true, false, true, false, false, true, true, true, false, false, false, false]) (by kernel_rfl) ?_ ?_
 exact ok1111101001110000
 exact ok_stop
 refine ok_have pl9_3_1111101001000000 9 #[true, true, true, true, true, false, true, false, false, true, false, false, false, false, false, false] ?_ (fun ok1111101001000000 => ?_)
 refine ok_any (by kernel_rfl) ?_
 refine ok_alt (l2 := #[true, true, true, true, true, true, true, false, false, true, false, false, false, false, false, false]) (by kernel_rfl) ?_ ?_
 exact ok1111111001000000
 refine ok_alt (l2 := #[true, true, true, true, true, false, true, false, true, true, false, false, false, false, false, false]) (by kernel_rfl) ?_ ?_
 exact ok1111101011000000
 refine ok_alt (l2 := #[true, true, true, true, true, false, true, false, false, true, true, false, false, false, false, false]) (by kernel_rfl) ?_ ?_
 exact ok1111101001100000
 refine ok_alt (l2 := #[true, true, true, true, true, false, true, false, false, true, false, true, false, false, false, false]) (by kernel_rfl) ?_ ?_
 exact ok1111101001010000
 exact ok_stop
 refine ok_have pl9_3_1111101000110000 8 #[true, true, true, true, true, false, true, false, false, false, true, true, false, false, false, false] ?_ (fun ok1111101000110000 => ?_)
 refine ok_any (by kernel_rfl) ?_
 refine ok_alt (l2 := #[true, true, true, true, true, true, true, false, false, false, true, true, false, false, false, false]) (by kernel_rfl) ?_ ?_
 exact ok1111111000110000
 refine ok_alt (l2 := #[true, true, true, true, true, false, true, false, true, false, true, true, false, false, false, false]) (by kernel_rfl) ?_ ?_
 exact ok1111101010110000
 refine ok_alt (l2 := #[true, true, true, true, true, false, true, false, false, true, true, true, false, false, false, false]) (by kernel_rfl) ?_ ?_
 exact ok1111101001110000
 exact ok_stop
 refine ok_have pl9_3_1111101000100000 9 #[true, true, true, true, true, false, true, false, false, false, true, false, false, false, false, false] ?_ (fun ok1111101000100000 => ?_)
 refine ok_any (by kernel_rfl) ?_
 refine ok_alt (l2 := #[true, true, true, true, true, true, true, false, false, false, true, false, false, false, false, false]) (by kernel_rfl) ?_ ?_
 exact ok1111111000100000
 refine ok_alt (l2 := #[true, true, true, true, true, false, true, false, true, false, true, false, false, false, false, false]) (by kernel_rfl) ?_ ?_
 exact ok1111101010100000
 refine ok_alt (l2 := #[true, true, true, true, true, false, true, false, false, true, true, false, false, false, false, false]) (by kernel_rfl) ?_ ?_
 exact ok1111101001100000
 refine ok_alt (l2 := #[true, true, true, true, true, false, true, false, false, false, true, true, false, false, false, false]) (by kernel_rfl) ?_ ?_
 exact ok1111101000110000
 exact ok_stop
 refine ok_have pl9_3_1111101000010000 9 #[true, true, true, true, true, false, true, false, false, false, false, true, false, false, false, false] ?_ (fun ok1111101000010000 => ?_)
 refine ok_any (by kernel_rfl) ?_
 refine ok_alt (l2 := #[true, true, true, true, true, true, true, false, false, false, false, true, false, false, false, false]) (by kernel_rfl) ?_ ?_
 exact ok1111111000010000
 refine ok_alt (l2 := #[true, true, true, true, true, false, true, false, true, false, false, true, false, false, false, false]) (by kernel_rfl) ?_ ?_
 exact ok1111101010010000
 refine ok_alt (l2 := #[true, true, true, true, true, false, true, false, false, true, false, true, false, false, false, false]) (by kernel_rfl) ?_ ?_
 exact ok1111101001010000
 refine ok_alt (l2 := #[true, true, true, true, true, false, true, false, false, false, true, true, false, false, false, false]) (by kernel_rfl) ?_ ?_
 exact ok1111101000110000
 exact ok_stop
 refine ok_have pl9_3_1110101011110000 7 #[true, true, true, false, true, false, true, false, true, true, true, true, false, false, false, false] ?_ (fun ok1110101011110000 => ?_)
 refine ok_big (l2 := #[true, true, true, true, true, false, true, false, true, true, true, true, false, false, false, false]) (by kernel_rfl) (by kernel_rfl) ?_
 exact ok1111101011110000
 refine ok_have pl9_3_1110101011100000 8 #[true, true, true, false, true, false, true, false, true, true, true, false, false, false, false, false] ?_ (fun ok1110101011100000 => ?_)
 refine ok_any (by kernel_rfl) ?_
 refine ok_alt (l2 := #[true, true, true, true, true, false, true, false, true, true, true, false, false, false, false, false]) (by kernel_rfl) ?_ ?_
 exact ok1111101011100000
 refine ok_alt (l2 := #[true, true, true, false, true, false, true, false, true, true, true, true, false, false, false, false]) (by kernel_rfl) ?_ ?_
 exact ok1110101011110000
 exact ok_stop
 refine ok_have pl9_3_1110101011010000 8 #[true, true, true, false, true, false, true, false, true, true, false, true, false, false, false, false] ?_ (fun ok1110101011010000 => ?_)
 refine ok_any (by kernel_rfl) ?_
 refine ok_alt (l2 := #[true, true, true, true, true, false, true, false, true, true, false, true, false, false, false, false]) (by kernel_rfl) ?_ ?_
 exact ok1111101011010000
 refine ok_alt (l2 := #[true, true, true, false, true, false, true, false, true, true, true, true, false, false, false, false]) (by kernel_rfl) ?_ ?_
 exact ok1110101011110000
 exact ok_stop
 refine ok_have pl9_3_1110101011000000 9 #[true, true, true, false, true, false, true, false, true, true, false, false, false, false, false, false] ?_ (fun ok1110101011000000 => ?_)
 refine ok_any (by kernel_rfl) ?_
 refine ok_alt (l2 := #[true, true, true, true, true, false, true, false, true, true, false, false, false, false, false, false]) (by kernel_rfl) ?_ ?_
 exact ok1111101011000000
 refine ok_alt (l2 := #[true, true, true, false, true, false, true, false, true, true, true, false, false, false, false, false]) (by kernel_rfl) ?_ ?_
 exact ok1110101011100000
 refine ok_alt (l2 := #[true, true, true, false, true, false, true, false, true, true, false, true, false, false, false, false]) (by kernel_rfl) ?_ ?_
 exact ok1110101011010000
 exact ok_stop
 refine ok_have pl9_3_1110101010110000 8 #[true, true, true, false, true, false, true, false, true, false, true, true, false, false, false, false] ?_ (fun ok1110101010110000 => ?_)
 refine ok_any (by kernel_rfl) ?_
 refine ok_alt (l2 := #[true, true, true, true, true, false, true, false, true, false, true, true, false, false, false, false]) (by kernel_rfl) ?_ ?_
 exact ok1111101010110000
 refine ok_alt (l2 := #[true, true, true, false, true, false, true, false, true, true, true, true, false, false, false, false]) (by kernel_rfl) ?_ ?_
 exact ok1110101011110000
 exact ok_stop
 refine ok_have pl9_3_1110101010100000 9 #[true, true, true, false, true, false, true, false, true, false, true, false, false, false, false, false] ?_ (fun ok1110101010100000 => ?_)
 refine ok_any (by kernel_rfl) ?_
 refine ok_alt (l2 := #[true, true, true, true, true, false, true, false, true, false, true, false, false, false, false, false]) (by kernel_rfl) ?_ ?_
 exact ok1111101010100000
 refine ok_alt (l2 := #[true, true, true, false, true, false, true, false, true, true, true, false, false, false, false, false]) (by kernel_rfl) ?_ ?_
 exact ok1110101011100000
 refine ok_alt (l2 := #[true, true, true, false, true, false, true, false, true, false, true, true, false, false, false, false]) (by kernel_rfl) ?_ ?_
 exact ok1110101010110000
 exact ok_stop
 refine ok_have pl9_3_1110101010010000 9 #[true, true, true, false, true, false, true, false, true, false, false, true, false, false, false, false] ?_ (fun ok1110101010010000 => ?_)
 refine ok_any (by kernel_rfl) ?_
 refine ok_alt (l2 := #[true, true, true, true, true, false, true, false, true, false, false, true, false, false, false, false]) (by kernel_rfl) ?_ ?_
 exact ok1111101010010000
 refine ok_alt (l2 := #[true, true, true, false, true, false, true, false, true, true, false, true, false, false, false, false]) (by kernel_rfl) ?_ ?_
 exact ok1110101011010000
 refine ok_alt (l2 := #[true, true, true, false, true, false, true, false, true, false, true, true, false, false, false, false]) (by kernel_rfl) ?_ ?_
 exact ok1110101010110000
 exact ok_stop
 refine ok_have pl9_3_1110101010000000 10 #[true, true, true, false, true, false, true, false, true, false, false, false, false, false, false, false] ?_ (fun ok1110101010000000 => ?_)
 refine ok_any (by kernel_rfl) ?_
 refine ok_alt (l2 := #[true, true, true, true, true, false, true, false, true, false, false, false, false, false, false, false]) (by kernel_rfl) ?_ ?_
 exact ok1111101010000000
 refine ok_alt (l2 := #[true, true, true, false, true, false, true, false, true, true, false, false, false, false, false, false]) (by kernel_rfl) ?_ ?_
 exact ok1110101011000000
 refine ok_alt (l2 := #[true, true, true, false, true, false, true, false, true, false, true, false, false, false, false, false]) (by kernel_rfl) ?_ ?_
 exact ok1110101010100000
 refine ok_alt (l2 := #[true, true, true, false, true, false, true, false, true, false, false, true, false, false, false, false]) (by kernel_rfl) ?_ ?_
 exact ok1110101010010000
 exact ok_stop
 refine ok_have pl9_3_1110101001110000 8 #[true, true, true, false, true, false, true, false, false, true, true, true, false, false, false, false] ?_ (fun ok1110101001110000 => ?_)
 refine ok_any (by kernel_rfl) ?_
 refine ok_alt (l2 := #[true, true, true, true, true, false, true, false, false, true, true, true, false, false, false, false]) (by kernel_rfl) ?_ ?_
 exact ok1111101001110000
 refine ok_alt (l2 := #[true, true, true, false, true, false, true, false, true, true, true, true, false, false, false, false]) (by kernel_rfl) ?_ ?_
 exact ok1110101011110000
 exact ok_stop
 refine ok_have pl9_3_1110101001100000 9 #[true, true, true, false, true, false, true, false, false, true, true, false, false, false, false, false] ?_ (fun ok1110101001100000 => ?_)
 refine ok_any (by kernel_rfl) ?_
 refine ok_alt (l2 := #[true, true, true, true, true, false, true, false, false, true, true, false, false, false, false, false]) (by kernel_rfl) ?_ ?_
 exact ok1111101001100000
 refine ok_alt (l2 := #[true, true, true, false, true, false, true, false, true, true, true, false, false, false, false, false]) (by kernel_rfl) ?_ ?_
 exact ok1110101011100000
 refine ok_alt (l2 := #[true, true, true, false, true, false, true, false, false, true, true, true, false, false, false, false]) (by kernel_rfl) ?_ ?_
 exact ok1110101001110000
 exact ok_stop
 refine ok_have pl9_3_1110101001010000 9 #[true, true, true, false, true, false, true, false, false, true, false, true, false, false, false, false] ?_ (fun ok1110101001010000 => ?_)
 refine ok_any (by kernel_rfl) ?_
 refine ok_alt (l2 := #[true, true, true, true, true, false, true, false, false, true, false, true, false, false, false, false]) (by kernel_rfl) ?_ ?_
 exact ok1111101001010000
 refine ok_alt (l2 := #[true, true, true, false, true, false, true, false, true, true, false, true, false, false, false, false]) (by kernel_rfl) ?_ ?_
 exact ok1110101011010000
 refine ok_alt (l2 := #[true, true, true, false, true, false, true, false, false, true, true, true, false, false, false, false]) (by kernel_rfl) ?_ ?_
 exact ok1110101001110000
 exact ok_stop
 refine ok_have pl9_3_1110101001000000 10 #[true, true, true, false, true, false, true, false, false, true, false, false, false, false, false, false] ?_ (fun ok1110101001000000 => ?_)
 refine ok_any (by kernel_rfl) ?_
 refine ok_alt (l2 := #[true, true, true, true, true, false, true, false, false, true, false, false, false, false, false, false]) (by kernel_rfl) ?_ ?_
 exact ok1111101001000000
 refine ok_alt (l2 := #[true, true, true, false, true, false, true, false, true, true, false, false, false, false, false, false]) (by kernel_rfl) ?_ ?_
 exact ok1110101011000000
 refine ok_alt (l2 := #[true, true, true, false, true, false, true, false, false, true, true, false, false, false, false, false]) (by kernel_rfl) ?_ ?_
 exact ok1110101001100000
 refine ok_alt (l2 := #[true, true, true, false, true, false, true, false, false, true, false, true, false, false, false, false]) (by kernel_rfl) ?_ ?_
 exact ok1110101001010000
 exact ok_stop
 refine ok_have pl9_3_1110101000110000 9 #[true, true, true, false, true, false, true, false, false, false, true, true, false, false, false, false] ?_ (fun ok1110101000110000 => ?_)
 refine ok_any (by kernel_rfl) ?_
 refine ok_alt (l2 := #[true, true, true, true, true, false, true, false, false, false, true, true, false, false, false, false]) (by kernel_rfl) ?_ ?_
 exact ok1111101000110000
 refine ok_alt (l2 := #[true, true, true, false, true, false, true, false, true, false, true, true, false, false, false, false]) (by kernel_rfl) ?_ ?_
 exact ok1110101010110000
 refine ok_alt (l2 := #[true, true, true, false, true, false, true, false, false, true, true, true, false, false, false, false]) (by kernel_rfl) ?_ ?_
 exact ok1110101001110000
 exact ok_stop
 refine ok_have pl9_3_1110101000100000 10 #[true, true, true, false, true, false, true, false, false, false, true, false, false, false, false, false] ?_ (fun ok1110101000100000 => ?_)
 refine ok_any (by kernel_rfl) ?_
 refine ok_alt (l2 := #[true, true, true, true, true, false, true, false, false, false, true, false, false, false, false, false]) (by kernel_rfl) ?_ ?_
 exact ok1111101000100000
 refine ok_alt (l2 := #[true, true, true, false, true, false, true, false, true, false, true, false, false, false, false, false]) (by kernel_rfl) ?_ ?_
 exact ok1110101010100000
 refine ok_alt (l2 := #[true, true, true, false, true, false, true, false, false, true, true, false, false, false, false, false]) (by kernel_rfl) ?_ ?_
 exact ok1110101001100000
 refine ok_alt (l2 := #[true, true, true, false, true, false, true, false, false, false, true, true, false, false, false, false]) (by kernel_rfl) ?_ ?_
 exact ok1110101000110000
 exact ok_stop
 refine ok_have pl9_3_1110101000010000 10 #[true, true, true, false, true, false, true, false, false, false, false, true, false, false, false, false] ?_ (fun ok1110101000010000 => ?_)
 refine ok_any (by kernel_rfl) ?_
 refine ok_alt (l2 := #[true, true, true, true, true, false, true, false, false, false, false, true, false, false, false, false]) (by kernel_rfl) ?_ ?_
 exact ok1111101000010000
 refine ok_alt (l2 := #[true, true, true, false, true, false, true, false, true, false, false, true, false, false, false, false]) (by kernel_rfl) ?_ ?_
 exact ok1110101010010000
 refine ok_alt (l2 := #[true, true, true, false, true, false, true, false, false, true, false, true, false, false, false, false]) (by kernel_rfl) ?_ ?_
 exact ok1110101001010000
 refine ok_alt (l2 := #[true, true, true, false, true, false, true, false, false, false, true, true, false, false, false, false]) (by kernel_rfl) ?_ ?_
 exact ok1110101000110000
 exact ok_stop
 refine ok_have pl9_3_1010101011110000 8 #[true, false, true, false, true, false, true, false, true, true, true, true, false, false, false, false] ?_ (fun ok1010101011110000 => ?_)
 refine ok_big (l2 := #[true, true, true, false, true, false, true, false, true, true, true, true, false, false, false, false]) (by kernel_rfl) (by kernel_rfl) ?_
 exact ok1110101011110000
 refine ok_have pl9_3_1010101011100000 9 #[true, false, true, false, true, false, true, false, true, true, true, false, false, false, false, false] ?_ (fun ok1010101011100000 => ?_)
 refine ok_any (by kernel_rfl) ?_
 refine ok_alt (l2 := #[true, true, true, false, true, false, true, false, true, true, true, false, false, false, false, false]) (by kernel_rfl) ?_ ?_
 exact ok1110101011100000
 refine ok_alt (l2 := #[true, false, true, false, true, false, true, false, true, true, true, true, false, false, false, false]) (by kernel_rfl) ?_ ?_
 exact ok1010101011110000
 exact ok_stop
 refine ok_have pl9_3_1010101011010000 9 #[true, false, true, false, true, false, true, false, true, true, false, true, false, false, false, false] ?_ (fun ok1010101011010000 => ?_)
 refine ok_any (by kernel_rfl) ?_
 refine ok_alt (l2 := #[true, true, true, false, true, false, true, false, true, true, false, true, false, false, false, false]) (by kernel_rfl) ?_ ?_
 exact ok1110101011010000
 refine ok_alt (l2 := #[true, false, true, false, true, false, true, false, true, true, true, true, false, false, false, false]) (by kernel_rfl) ?_ ?_
 exact ok1010101011110000
 exact ok_stop
 refine ok_have pl9_3_1010101011000000 10 #[true, false, true, false, true, false, true, false, true, true, false, false, false, false, false, false] ?_ (fun ok1010101011000000 => ?_)
 refine ok_any (by kernel_rfl) ?_
 refine ok_alt (l2 := #[true, true, true, false, true, false, true, false, true, true, false, false, false, false, false, false]) (by kernel_rfl) ?_ ?_
 exact ok1110101011000000
 refine ok_alt (l2 := #[true, false, true, false, true, false, true, false, true, true, true, false, false, false, false, false]) (by kernel_rfl) ?_ ?_
 exact ok1010101011100000
 refine ok_alt (l2 := #[true, false, true, false, true, false, true, false, true, true, false, true, false, false, false, false]) (by kernel_rfl) ?_ ?_
 exact ok1010101011010000
 exact ok_stop
 refine ok_have pl9_3_1010101010110000 9 #[true, false, true, false, true, false, true, false, true, false, true, true, false, false, false, false] ?_ (fun ok1010101010110000 => ?_)
 refine ok_any (by kernel_rfl) ?_
 refine ok_alt (l2 := #[true, true, true, false, true, false, true, false, true, false, true, true, false, false, false, false]) (by kernel_rfl) ?_ ?_
 exact ok1110101010110000
 refine ok_alt (l2 := #[true, false, true, false, true, false, true, false, true, true, true, true, false, false, false, false]) (by kernel_rfl) ?_ ?_
 exact ok1010101011110000
 exact ok_stop
 refine ok_have pl9_3_1010101010100000 10 #[true, false, true, false, true, false, true, false, true, false, true, false, false, false, false, false] ?_ (fun ok1010101010100000 => ?_)
 refine ok_any (by kernel_rfl) ?_
 refine ok_alt (l2 := #[true, true, true, false, true, false, true, false, true, false, true, false, false, false, false, false]) (by kernel_rfl) ?_ ?_
 exact ok1110101010100000
 refine ok_alt (l2 := #[true, false, true, false, true, false, true, false, true, true, true, false, false, false, false, false]) (by kernel_rfl) ?_ ?_
 exact ok1010101011100000
 refine ok_alt (l2 := #[true, false, true, false, true, false, true, false, true, false, true, true, false, false, false, false]) (by kernel_rfl) ?_ ?_
 exact ok1010101010110000
 exact ok_stop
 refine ok_have pl9_3_1010101010010000 10 #[true, false, true, false, true, false, true, false, true, false, false, true, false, false, false, false] ?_ (fun ok1010101010010000 => ?_)
 refine ok_any (by kernel_rfl) ?_
 refine ok_alt (l2 := #[true, true, true, false, true, false, true, false, true, false, false, true, false, false, false, false]) (by kernel_rfl) ?_ ?_
 exact ok1110101010010000
 refine ok_alt (l2 := #[true, false, true, false, true, false, true, false, true, true, false, true, false, false, false, false]) (by kernel_rfl) ?_ ?_
 exact ok1010101011010000
 refine ok_alt (l2 := #[true, false, true, false, true, false, true, false, true, false, true, true, false, false, false, false]) (by kernel_rfl) ?_ ?_
 exact ok1010101010110000
 exact ok_stop
 refine ok_have pl9_3_1010101001110000 9 #[true, false, true, false, true, false, true, false, false, true, true, true, false, false, false, false] ?_ (fun ok1010101001110000 => ?_)
 refine ok_any (by kernel_rfl) ?_
 refine ok_alt (l2 := #[true, true, true, false, true, false, true, false, false, true, true, true, false, false, false, false]) (by kernel_rfl) ?_ ?_
 exact ok1110101001110000
 refine ok_alt (l2 := #[true, false, true, false, true, false, true, false, true, true, true, true, false, false, false, false]) (by kernel_rfl) ?_ ?_
 exact ok1010101011110000
 exact ok_stop
 refine ok_have pl9_3_1010101001100000 10 #[true, false, true, false, true, false, true, false, false, true, true, false, false, false, false, false] ?_ (fun ok1010101001100000 => ?_)
 refine ok_any (by kernel_rfl) ?_
 refine ok_alt (l2 := #[true, true, true, false, true, false, true, false, false, true, true, false, false, false, false, false]) (by kernel_rfl) ?_ ?_
 exact ok1110101001100000
 refine ok_alt (l2 := #[true, false, true, false, true, false, true, false, true, true, true, false, false, false, false, false]) (by kernel_rfl) ?_ ?_
 exact ok1010101011100000
 refine ok_alt (l2 := #[true, false, true, false, true, false, true, false, false, true, true, true, false, false, false, false]) (by kernel_rfl) ?_ ?_
 exact ok1010101001110000
 exact ok_stop
 refine ok_have pl9_3_1010101001010000 10 #[true, false, true, false, true, false, true, false, false, true, false, true, false, false, false, false] ?_ (fun ok1010101001010000 => ?_)
 refine ok_any (by kernel_rfl) ?_
 refine ok_alt (l2 := #[true, true, true, false, true, false, true, false, false, true, false, true, false, false, false, false]) (by kernel_rfl) ?_ ?_
 exact ok1110101001010000
 refine ok_alt (l2 := #[true, false, true, false, true, false, true, false, true, true, false, true, false, false, false, false]) (by kernel_rfl) ?_ ?_
 exact ok1010101011010000
 refine ok_alt (l2 := #[true, false, true, false, true, false, true, false, false, true, true, true, false, false, false, false]) (by kernel_rfl) ?_ ?_
 exact ok1010101001110000
 exact ok_stop
 refine ok_have pl9_3_1010101000110000 10 #[true, false, true, false, true, false, true, false, false, false, true, true, false, false, false, false] ?_ (fun ok1010101000110000 => ?_)
 refine ok_any (by kernel_rfl) ?_
 refine ok_alt (l2 := #[true, true, true, false, true, false, true, false, false, false, true, true, false, false, false, false]) (by kernel_rfl) ?_ ?_
 exact ok1110101000110000
 refine ok_alt (l2 := #[true, false, true, false, true, false, true, false, true, false, true, true, false, false, false, false]) (by kernel_rfl) ?_ ?_
 exact ok1010101010110000
 refine ok_alt (l2 := #[true, false, true, false, true, false, true, false, false, true, true, true, false, false, false, false]) (by kernel_rfl) ?_ ?_
 exact ok1010101001110000
 exact ok_stop
 refine ok_ld (l2 := #[true, false, false, false, false, false, false, false, false, false, false, false, false, false, false, false]) (by kernel_rfl) (by kernel_rfl) ?_
 refine ok_ld (l2 := #[true, false, true, false, false, false, false, false, false, false, false, false, false, false, false, false]) (by kernel_rfl) (by kernel_rfl) ?_
 refine ok_ld (l2 := #[true, false, true, false, true, false, false, false, false, false, false, false, false, false, false, false]) (by kernel_rfl) (by kernel_rfl) ?_
 refine ok_ld (l2 := #[true, false, true, false, true, false, true, false, false, false, false, false, false, false, false, false]) (by kernel_rfl) (by kernel_rfl) ?_
 refine ok_any (by kernel_rfl) ?_
 refine ok_alt (l2 := #[true, true, true, false, true, false, true, false, false, false, false, false, false, false, false, false]) (by kernel_rfl) ?_ ?_
 refine ok_any (by kernel_rfl) ?_
 refine ok_alt (l2 := #[true, true, true, true, true, false, true, false, false, false, false, false, false, false, false, false]) (by kernel_rfl) ?_ ?_
 refine ok_any (by kernel_rfl) ?_
 refine ok_alt (l2 := #[true, true, true, true, true, true, true, false, false, false, false, false, false, false, false, false]) (by kernel_rfl) ?_ ?_
 refine ok_any (by kernel_rfl) ?_
 refine ok_alt (l2 := #[true, true, true, true, true, true, true, true, false, false, false, false, false, false, false, false]) (by kernel_rfl) ?_ ?_
 refine ok_any (by kernel_rfl) ?_
 refine ok_alt (l2 := #[true, true, true, true, true, true, true, true, true, false, false, false, false, false, false, false]) (by kernel_rfl) ?_ ?_
 exact ok1111111110000000
 refine ok_alt (l2 := #[true, true, true, true, true, true, true, true, false, true, false, false, false, false, false, false]) (by kernel_rfl) ?_ ?_
 exact ok1111111101000000
 refine ok_alt (l2 := #[true, true, true, true, true, true, true, true, false, false, true, false, false, false, false, false]) (by kernel_rfl) ?_ ?_
 exact ok1111111100100000
 refine ok_alt (l2 := #[true, true, true, true, true, true, true, true, false, false, false, true, false, false, false, false]) (by kernel_rfl) ?_ ?_
 exact ok1111111100010000
 exact ok_stop
 refine ok_alt (l2 := #[true, true, true, true, true, true, true, false, true, false, false, false, false, false, false, false]) (by kernel_rfl) ?_ ?_
 exact ok1111111010000000
 refine ok_alt (l2 := #[true, true, true, true, true, true, true, false, false, true, false, false, false, false, false, false]) (by kernel_rfl) ?_ ?_
 exact ok1111111001000000
 refine ok_alt (l2 := #[true, true, true, true, true, true, true, false, false, false, true, false, false, false, false, false]) (by kernel_rfl) ?_ ?_
 exact ok1111111000100000
 refine ok_alt (l2 := #[true, true, true, true, true, true, true, false, false, false, false, true, false, false, false, false]) (by kernel_rfl) ?_ ?_
 exact ok1111111000010000
 exact ok_stop
 refine ok_alt (l2 := #[true, true, true, true, true, false, true, false, true, false, false, false, false, false, false, false]) (by kernel_rfl) ?_ ?_
 exact ok1111101010000000
 refine ok_alt (l2 := #[true, true, true, true, true, false, true, false, false, true, false, false, false, false, false, false]) (by kernel_rfl) ?_ ?_
 exact ok1111101001000000
 refine ok_alt (l2 := #[true, true, true, true, true, false, true, false, false, false, true, false, false, false, false, false]) (by kernel_rfl) ?_ ?_
 exact ok1111101000100000
 refine ok_alt (l2 := #[true, true, true, true, true, false, true, false, false, false, false, true, false, false, false, false]) (by kernel_rfl) ?_ ?_
 exact ok1111101000010000
 exact ok_stop
 refine ok_alt (l2 := #[true, true, true, false, true, false, true, false, true, false, false, false, false, false, false, false]) (by kernel_rfl) ?_ ?_
 exact ok1110101010000000
 refine ok_alt (l2 := #[true, true, true, false, true, false, true, false, false, true, false, false, false, false, false, false]) (by kernel_rfl) ?_ ?_
 exact ok1110101001000000
 refine ok_alt (l2 := #[true, true, true, false, true, false, true, false, false, false, true, false, false, false, false, false]) (by kernel_rfl) ?_ ?_
 exact ok1110101000100000
 refine ok_alt (l2 := #[true, true, true, false, true, false, true, false, false, false, false, true, false, false, false, false]) (by kernel_rfl) ?_ ?_
 exact ok1110101000010000
 exact ok_stop
 refine ok_alt (l2 := #[true, false, true, false, true, false, true, false, true, false, false, false, false, false, false, false]) (by kernel_rfl) ?_ ?_
 refine ok_any (by kernel_rfl) ?_
 refine ok_alt (l2 := #[true, true, true, false, true, false, true, false, true, false, false, false, false, false, false, false]) (by kernel_rfl) ?_ ?_
 exact ok1110101010000000
 refine ok_alt (l2 := #[true, false, true, false, true, false, true, false, true, true, false, false, false, false, false, false]) (by kernel_rfl) ?_ ?_
 exact ok1010101011000000
 refine ok_alt (l2 := #[true, false, true, false, true, false, true, false, true, false, true, false, false, false, false, false]) (by kernel_rfl) ?_ ?_
 exact ok1010101010100000
 refine ok_alt (l2 := #[true, false, true, false, true, false, true, false, true, false, false, true, false, false, false, false]) (by kernel_rfl) ?_ ?_
 exact ok1010101010010000
 exact ok_stop
 refine ok_alt (l2 := #[true, false, true, false, true, false, true, false, false, true, false, false, false, false, false, false]) (by kernel_rfl) ?_ ?_
 refine ok_any (by kernel_rfl) ?_
 refine ok_alt (l2 := #[true, true, true, false, true, false, true, false, false, true, false, false, false, false, false, false]) (by kernel_rfl) ?_ ?_
 exact ok1110101001000000
 refine ok_alt (l2 := #[true, false, true, false, true, false, true, false, true, true, false, false, false, false, false, false]) (by kernel_rfl) ?_ ?_
 exact ok1010101011000000
 refine ok_alt (l2 := #[true, false, true, false, true, false, true, false, false, true, true, false, false, false, false, false]) (by kernel_rfl) ?_ ?_
 exact ok1010101001100000
 refine ok_alt (l2 := #[true, false, true, false, true, false, true, false, false, true, false, true, false, false, false, false]) (by kernel_rfl) ?_ ?_
 exact ok1010101001010000
 exact ok_stop
 refine ok_alt (l2 := #[true, false, true, false, true, false, true, false, false, false, true, false, false, false, false, false]) (by kernel_rfl) ?_ ?_
 refine ok_any (by kernel_rfl) ?_
 refine ok_alt (l2 := #[true, true, true, false, true, false, true, false, false, false, true, false, false, false, false, false]) (by kernel_rfl) ?_ ?_
 exact ok1110101000100000
 refine ok_alt (l2 := #[true, false, true, false, true, false, true, false, true, false, true, false, false, false, false, false]) (by kernel_rfl) ?_ ?_
 exact ok1010101010100000
 refine ok_alt (l2 := #[true, false, true, false, true, false, true, false, false, true, true, false, false, false, false, false]) (by kernel_rfl) ?_ ?_
 exact ok1010101001100000
 refine ok_alt (l2 := #[true, false, true, false, true, false, true, false, false, false, true, true, false, false, false, false]) (by kernel_rfl) ?_ ?_
 exact ok1010101000110000
 exact ok_stop
 refine ok_alt (l2 := #[true, false, true, false, true, false, true, false, false, false, false, true, false, false, false, false]) (by kernel_rfl) ?_ ?_
 refine ok_any (by kernel_rfl) ?_
 refine ok_alt (l2 := #[true, true, true, false, true, false, true, false, false, false, false, true, false, false, false, false]) (by kernel_rfl) ?_ ?_
 exact ok1110101000010000
 refine ok_alt (l2 := #[true, false, true, false, true, false, true, false, true, false, false, true, false, false, false, false]) (by kernel_rfl) ?_ ?_
 exact ok1010101010010000
 refine ok_alt (l2 := #[true, false, true, false, true, false, true, false, false, true, false, true, false, false, false, false]) (by kernel_rfl) ?_ ?_
 exact ok1010101001010000
 refine ok_alt (l2 := #[true, false, true, false, true, false, true, false, false, false, true, true, false, false, false, false]) (by kernel_rfl) ?_ ?_
 exact ok1010101000110000
 exact ok_stop
 exact ok_stop
 refine ld rfl rfl (lhA [_, _, _] ag25 rfl rfl rfl) rfl ?_
 refine ld rfl rfl (lhA [_, _, _] ag28 rfl rfl rfl) rfl ?_
 refine ld rfl rfl (lhA [_, _, _] ag25 rfl rfl rfl) rfl ?_
 refine ld rfl rfl (lhA [_, _, _] ag28 rfl rfl rfl) rfl ?_
 refine sy_have (β := Option Addr × Nat × Option Addr × Nat × Option Addr × Nat × Option Addr × Nat × Nat × Nat × Nat × Nat) pl9_3_1111111111110000 (fun ⟨a1, c1, a2, c2, a3, c3, a4, c4, b11, b12, b13, b14⟩ => ([(14, .pointer (some ⟨b14, 0, none⟩)), (13, .pointer (some ⟨b13, 0, none⟩)), (12, .pointer (some ⟨b12, 0, none⟩)), (11, .pointer (some ⟨b11, 0, none⟩)), (43, c.v (c.sl a4 c4)), (41, g.v (g.sl a3 c3)), (39, c.v (c.sl a2 c2)), (37, g.v (g.sl a1 c1)), (2, .int .i64 n), (3, .int .i64 k), (5, .pointer (some ⟨b5, 0, none⟩)), (6, .pointer (some ⟨b6, 0, none⟩)), (9, .pointer (some ⟨b9, 0, none⟩)), (36, g.v (g.sl ag cg)), (38, c.v (c.sl ah ch)), (40, g.v (g.sl ag cg)), (42, c.v (c.sl ah ch))], (b14, cel 63 ([.int .i64 0, .int .i64 0, .slice none 0 0])) :: (b13, cel 59 ([.int .i64 0, .int .i64 0, .slice none 0 0])) :: (b12, cel 28 ([.int .i64 0, .int .i64 0, .slice none 0 0])) :: (b11, cel 25 ([.int .i64 0, .int .i64 0, .slice none 0 0])) :: (b9, cel 29 (ints m)) :: (b6, cel 28 (ctl c (c.sl ah ch))) :: (b5, cel 25 (gtl g (g.sl ag cg))) :: H, RowsA a4 5 (hrows c.hs) :: RowsA a3 5 (grows g.grs) :: RowsA a2 5 (hrows c.hs) :: RowsA a1 5 (grows g.grs) :: R, [])) (fun v9 => ?_) (fun h1111111111110000 => ?_)
 obtain ⟨a1, c1, a2, c2, a3, c3, a4, c4, b11, b12, b13, b14⟩ := v9
 dsimp only
 unfold pl9_3_1111111111110000
 refine sto rfl rfl rfl cn25 rfl rfl rfl rfl ?_
 refine bg (fun w hs => trivial) ?_
 refine sto rfl rfl rfl cn28 rfl rfl rfl rfl ?_
 refine bg (fun w hs => trivial) ?_
 refine sto rfl rfl rfl cn59 rfl rfl rfl rfl ?_
 refine bg (fun w hs => trivial) ?_
 refine sto rfl rfl rfl cn63 rfl rfl rfl rfl ?_
 refine bg (fun w hs => trivial) ?_
 refine sy_seq ?_
 refine sy_tx' [0, 1, 2, 3] rfl ?_
 refine spL rfl rfl (lhA [_, _, _] ag59 rfl rfl rfl) rfl ?_
 refine spL rfl rfl (lhA [_, _, _] ag63 rfl rfl rfl) rfl ?_
 refine clV rfl cal29 rfl rfl (c_rBoth g a3 c3 (by omega) c a4 c4 (by omega) _ _) ?_
 refine sp rfl (PE.assign rfl) rfl ?_
 refine sy_seq ?_
 refine sy_tx' [0, 1, 2, 3, 4, 5, 6] rfl ?_
 refine sp rfl (PE.move rfl) rfl ?_
 refine sp rfl (PE.move rfl) rfl ?_
 refine spL rfl rfl (lhA [_, _, _] ag59 rfl rfl rfl) rfl ?_
 refine clV rfl cal44 rfl rfl (c_rCheck g a3 c3 (by omega) _ _) ?_
 refine sp rfl (PE.assign rfl) rfl ?_
 refine sp rfl (PE.assign rfl) rfl ?_
 refine sp rfl (PE.assign rfl) rfl ?_
 refine sy_seq ?_
 refine sy_tx' [0, 1] rfl ?_
 refine alc rfl zl41 rfl (fun b19 => ?_)
 refine alc rfl zl41 rfl (fun b20 => ?_)
 refine sy_seq ?_
 refine sy_tx' [0, 1] rfl ?_
 refine sp rfl (PE.assign rfl) rfl ?_
 refine sp rfl (PE.assign rfl) rfl ?_
 refine sy_seq ?_
 refine sy_seq ?_
 refine sy_tx' [0, 1] rfl ?_
 refine sp rfl (PE.move rfl) rfl ?_
 refine sp rfl (PE.eql rfl rfl) rfl ?_
 refine sy_join (ι := Unit) (fun _ => ⟨[(2, .int .i64 n), (3, .int .i64 k), (5, .pointer (some ⟨b5, 0, none⟩)), (6, .pointer (some ⟨b6, 0, none⟩)), (9, .pointer (some ⟨b9, 0, none⟩)), (11, .pointer (some ⟨b11, 0, none⟩)), (12, .pointer (some ⟨b12, 0, none⟩)), (13, .pointer (some ⟨b13, 0, none⟩)), (14, .pointer (some ⟨b14, 0, none⟩)), (19, .pointer (some ⟨b19, 0, none⟩)), (20, .pointer (some ⟨b20, 0, none⟩)), (15, .int .i64 (bothE g c)), (16, .int .i64 (letE g c n k)), (17, .int .i64 (bif decide (bothE g c ≠ 0) then bothE g c else mixE m)), (18, .int .i64 g.check), (21, .bool (bif decide (bothE g c ≠ 0) then false else bif decide (mixE m ≠ 0) then false else (c.hs.all fun h => fitB g.miss h m))), (22, .int .i64 0)], (b20, cel 41 [.int .i64 (letP g c n k).1, .int .i64 (letP g c n k).2]) :: (b19, cel 41 [.int .i64 (netQ g c).1, .int .i64 (netQ g c).2]) :: (b14, cel 63 (ctl c (c.sl a4 c4))) :: (b13, cel 59 (gtl g (g.sl a3 c3))) :: (b12, cel 28 (ctl c (c.sl a2 c2))) :: (b11, cel 25 (gtl g (g.sl a1 c1))) :: (b9, cel 29 (ints m)) :: (b6, cel 28 (ctl c (c.sl ah ch))) :: (b5, cel 25 (gtl g (g.sl ag cg))) :: H, RowsA a4 5 (hrows c.hs) :: RowsA a3 5 (grows g.grs) :: RowsA a2 5 (hrows c.hs) :: RowsA a1 5 (grows g.grs) :: R⟩) ?_ ?_
 refine sy_cond rfl (fun hc1 => ?_) (fun hc1 => ?_)
 have hw0 : bothE g c = 0 := by simpa using hc1
 have hgo : g.ok := gat_ok.1 (by unfold bothE at hw0; by_cases h : g.check = 0; exact h; rw [decide_eq_true h] at hw0; exact absurd hw0 h)
 have hg0 := gat_ok.2 hgo
 have hco : c.ok := crt_ok.1 (by unfold bothE at hw0; rw [hg0] at hw0; exact hw0)
 have hb0 : decide (bothE g c ≠ 0) = false := decide_eq_false (by omega)
 have hq : netQ g c = netP g c := by unfold netQ; rw [hb0]; rfl
 refine sy_seq ?_
 refine sy_tx' [0, 1, 2, 3] rfl ?_
 refine spL rfl rfl (lhA [_, _, _] ag59 rfl rfl rfl) rfl ?_
 refine spL rfl rfl (lhA [_, _, _] ag63 rfl rfl rfl) rfl ?_
 refine clV rfl cal49 rfl rfl (c_rNet g hgo (g.sl a3 c3) c hco (c.sl a4 c4) _ _) ?_
 refine sto rfl rfl rfl cn41 rfl rfl rfl rfl ?_
 refine sy_seq ?_
 refine sy_seq ?_
 refine sy_tx' [0] rfl ?_
 refine sp rfl (PE.assign rfl) rfl ?_
 refine sy_seq ?_
 refine sy_tx' [0, 1, 2, 3, 4, 5, 6, 7, 8, 9, 10, 11, 12, 13, 14, 15, 16] rfl ?_
 refine sp rfl (PE.move rfl) rfl ?_
 refine sp rfl (PE.geq rfl rfl) rfl ?_
 refine sp rfl (PE.move rfl) rfl ?_
 refine sy_case (t := 58) rfl (fun g58 => ?_) (fun g58 => ?_)
 try simp only [decide_eq_true_eq, decide_eq_false_iff_not, Bool.and_eq_true, Bool.or_eq_true, Bool.not_eq_true', Int.not_le, Int.not_lt] at g58
 refine spG rfl rfl rfl rfl (PE.move rfl) rfl ?_
 refine spG rfl rfl rfl rfl (PE.fieldAddr fo28_2 rfl) rfl ?_
 refine spLG rfl rfl rfl rfl rfl (lh sc26 rfl rfl) rfl ?_
 refine spG rfl rfl rfl rfl (PE.lenSl isl26 rfl) rfl ?_
 refine spG rfl rfl rfl rfl (PE.lss rfl rfl) rfl ?_
 refine sp rfl (PE.pick rfl rfl rfl) rfl ?_
 refine sp rfl (PE.move rfl) rfl ?_
 refine sy_case (t := 65) rfl (fun g65 => ?_) (fun g65 => ?_)
 try simp only [decide_eq_true_eq, decide_eq_false_iff_not, Bool.and_eq_true, Bool.or_eq_true, Bool.not_eq_true', Int.not_le, Int.not_lt] at g65
 refine spG rfl rfl rfl rfl (PE.move rfl) rfl ?_
 refine spG rfl rfl rfl rfl (PE.geq rfl rfl) rfl ?_
 refine sp rfl (PE.pick rfl rfl rfl) rfl ?_
 refine sp rfl (PE.move rfl) rfl ?_
 refine sy_case (t := 69) rfl (fun g69 => ?_) (fun g69 => ?_)
 try simp only [decide_eq_true_eq, decide_eq_false_iff_not, Bool.and_eq_true, Bool.or_eq_true, Bool.not_eq_true', Int.not_le, Int.not_lt] at g69
 refine spG rfl rfl rfl rfl (PE.move rfl) rfl ?_
 refine spG rfl rfl rfl rfl (PE.leq rfl rfl) rfl ?_
 refine sp rfl (PE.pick rfl rfl rfl) rfl ?_
 refine sy_join (ι := Unit) (fun _ => ⟨[(2, .int .i64 n), (3, .int .i64 k), (5, .pointer (some ⟨b5, 0, none⟩)), (6, .pointer (some ⟨b6, 0, none⟩)), (9, .pointer (some ⟨b9, 0, none⟩)), (11, .pointer (some ⟨b11, 0, none⟩)), (12, .pointer (some ⟨b12, 0, none⟩)), (13, .pointer (some ⟨b13, 0, none⟩)), (14, .pointer (some ⟨b14, 0, none⟩)), (19, .pointer (some ⟨b19, 0, none⟩)), (20, .pointer (some ⟨b20, 0, none⟩)), (15, .int .i64 (bothE g c)), (16, .int .i64 (letE g c n k)), (17, .int .i64 (bothE g c)), (18, .int .i64 g.check), (21, .bool false), (22, .int .i64 0)], (b20, cel 41 [.int .i64 (letP g c n k).1, .int .i64 (letP g c n k).2]) :: (b19, cel 41 [.int .i64 (netP g c).1, .int .i64 (netP g c).2]) :: (b14, cel 63 (ctl c (c.sl a4 c4))) :: (b13, cel 59 (gtl g (g.sl a3 c3))) :: (b12, cel 28 (ctl c (c.sl a2 c2))) :: (b11, cel 25 (gtl g (g.sl a1 c1))) :: (b9, cel 29 (ints m)) :: (b6, cel 28 (ctl c (c.sl ah ch))) :: (b5, cel 25 (gtl g (g.sl ag cg))) :: H, RowsA a4 5 (hrows c.hs) :: RowsA a3 5 (grows g.grs) :: RowsA a2 5 (hrows c.hs) :: RowsA a1 5 (grows g.grs) :: R⟩) ?_ ?_
 refine sy_cond rfl (fun hc2 => ?_) (fun hc2 => ?_)
 try simp only [decide_eq_true_eq, decide_eq_false_iff_not, Bool.and_eq_true, Bool.or_eq_true, Bool.not_eq_true', Int.not_le, Int.not_lt] at hc2
 obtain ⟨i, rfl⟩ : ∃ i : Nat, n = i := ⟨n.toNat, by omega⟩
 obtain ⟨q, rfl⟩ : ∃ q : Nat, k = q := ⟨k.toNat, by omega⟩
 have hq4 : q < 4 := by omega
 obtain ⟨h, hh⟩ : ∃ h, c.hs[i]? = some h := ⟨_, List.getElem?_eq_getElem (by omega)⟩
 have hok := hco.hs h (List.mem_of_getElem? hh)
 obtain ⟨e1, e2, e3⟩ := let_ref (g := g) hw0 hh hq4
 refine sy_addr (a := a4) (sz := 5) (rows := hrows c.hs) (by intro h0; simp [hrows] at h0; simp [h0] at hh) (fun ba oa hea => ?_)
 subst hea
 refine sy_seq ?_
 refine sy_tx' [0] rfl ?_
 refine sp rfl (PE.assign rfl) rfl ?_
 refine sy_seq ?_
 refine sy_draw [0, 0, 2, 0, 14, 30, 0, 127, 255, 511, 511, 1023, 4095] (.ld 0 (.tk 1 (.ld 2 (.tk 3 (.tk 4 (.ld 5 (.tk 6 (.big 7 (.tk 8 (.tk 9 (.tk 10 (.big 11 (.tk 12 .done))))))))))))) mixed (by kernel_rfl) ?_
 refine ld rfl rfl (lhA [_, _, _] ag59 rfl rfl rfl) rfl ?_
 refine tk rfl (PE.fieldAddr fo63_2 rfl) rfl ?_
 refine ld rfl rfl (lh sc61 rfl rfl) rfl ?_
 refine tk rfl (PE.move rfl) rfl ?_
 refine tk rfl (PE.indexAddr el61 rfl rfl (by omega) (by omega)) rfl ?_
 refine ld rfl rfl (lfA ag85 (row := hrow h) (hr_get (by simpa using hh)) rfl) rfl ?_
 refine tk rfl (PE.move rfl) rfl ?_
 refine clV rfl cal56 rfl rfl (c_rLets g hgo.miss (g.sl a3 c3) h hok q hq4 _ _) ?_
 refine bg (fun w hs => ⟨trivial, trivial, trivial, trivial⟩) ?_
 refine tk rfl (PE.move rfl) rfl ?_
 refine tk rfl (PE.extract rfl rfl) rfl ?_
 refine tk rfl (PE.extract rfl rfl) rfl ?_
 refine sto rfl rfl rfl cn41 rfl rfl rfl rfl ?_
 refine bg (fun w hs => trivial) ?_
 refine tk rfl (PE.assign rfl) rfl ?_
 refine sy_tx' [0, 1, 2] rfl ?_
 refine sp rfl (PE.move rfl) rfl ?_
 refine clV rfl cal57 rfl rfl (c_None _ _ _) ?_
 refine sp rfl (PE.assign rfl) rfl ?_
 exact sy_jend () (by dsimp only; rw [e1]; exact (by repeat' first | exact Sub.nil | apply Sub.cons | rfl | (simp [lk]; omega))) (fun w h => by dsimp only; rw [e2, e3]; exact h)
 try simp only [decide_eq_true_eq, decide_eq_false_iff_not, Bool.and_eq_true, Bool.or_eq_true, Bool.not_eq_true', Int.not_le, Int.not_lt] at hc2
 have he2 := letE_bad (g := g) (n := n) (k := k) hw0 (.inr (by simp [inb]; omega : inb k 0 3 = false))
 have he1 := letP_no he2 (by decide)
 refine sy_skip ?_
 exact sy_jend () (by dsimp only; rw [he2]; exact (by repeat' first | exact Sub.nil | apply Sub.cons | rfl | (simp [lk]; omega))) (fun w h => by dsimp only; rw [he1]; exact h)
 rintro ⟨⟩
 dsimp only
 refine sy_seq ?_
 refine sy_tx' [0, 1, 2] rfl ?_
 refine spL rfl rfl (lhA (ints (m)) ag29 rfl (rest := []) (by rw [List.append_nil]; rfl) (by rw [ints_length]; exact hm)) rfl ?_
 refine clV rfl cal36 rfl rfl (c_rMixed m hm _ _) ?_
 refine sp rfl (PE.assign rfl) rfl ?_
 refine sy_seq ?_
 refine sy_tx' [0, 1] rfl ?_
 refine sp rfl (PE.move rfl) rfl ?_
 refine sp rfl (PE.eql rfl rfl) rfl ?_
 refine sy_join (ι := Unit) (fun _ => ⟨[(2, .int .i64 n), (3, .int .i64 k), (5, .pointer (some ⟨b5, 0, none⟩)), (6, .pointer (some ⟨b6, 0, none⟩)), (9, .pointer (some ⟨b9, 0, none⟩)), (11, .pointer (some ⟨b11, 0, none⟩)), (12, .pointer (some ⟨b12, 0, none⟩)), (13, .pointer (some ⟨b13, 0, none⟩)), (14, .pointer (some ⟨b14, 0, none⟩)), (19, .pointer (some ⟨b19, 0, none⟩)), (20, .pointer (some ⟨b20, 0, none⟩)), (15, .int .i64 (bothE g c)), (16, .int .i64 (letE g c n k)), (17, .int .i64 (mixE m)), (18, .int .i64 g.check), (21, .bool (bif decide (mixE m ≠ 0) then false else (c.hs.all fun h => fitB g.miss h m))), (22, .int .i64 0)], (b20, cel 41 [.int .i64 (letP g c n k).1, .int .i64 (letP g c n k).2]) :: (b19, cel 41 [.int .i64 (netP g c).1, .int .i64 (netP g c).2]) :: (b14, cel 63 (ctl c (c.sl a4 c4))) :: (b13, cel 59 (gtl g (g.sl a3 c3))) :: (b12, cel 28 (ctl c (c.sl a2 c2))) :: (b11, cel 25 (gtl g (g.sl a1 c1))) :: (b9, cel 29 (ints m)) :: (b6, cel 28 (ctl c (c.sl ah ch))) :: (b5, cel 25 (gtl g (g.sl ag cg))) :: H, RowsA a4 5 (hrows c.hs) :: RowsA a3 5 (grows g.grs) :: RowsA a2 5 (hrows c.hs) :: RowsA a1 5 (grows g.grs) :: R⟩) ?_ ?_
 refine sy_cond rfl (fun hc3 => ?_) (fun hc3 => ?_)
 have hm0 : mixE m = 0 := by simpa using hc3
 have hmx := (mix_ok hm).1 hm0
 have hm9 : decide (mixE m ≠ 0) = false := decide_eq_false (by omega)
 refine sy_tx' [0, 1, 2, 3, 4] rfl ?_
 refine spL rfl rfl (lhA [_, _, _] ag59 rfl rfl rfl) rfl ?_
 refine spL rfl rfl (lhA [_, _, _] ag63 rfl rfl rfl) rfl ?_
 refine spL rfl rfl (lhA (ints (m)) ag29 rfl (rest := []) (by rw [List.append_nil]; rfl) (by rw [ints_length]; exact hm)) rfl ?_
 refine clV rfl cal37 rfl rfl (c_rFits g hgo.miss (g.sl a3 c3) c hco a4 c4 m hmx _ _) ?_
 refine sp rfl (PE.assign rfl) rfl ?_
 exact sy_jend () (by dsimp only; rw [hm9]; exact (by repeat' first | exact Sub.nil | apply Sub.cons | rfl | (simp [lk]; omega))) (fun w h => by dsimp only; exact h)
 have hm0 : mixE m ≠ 0 := by simpa using hc3
 have hm9 : decide (mixE m ≠ 0) = true := decide_eq_true hm0
 refine sy_skip ?_
 exact sy_jend () (by dsimp only; rw [hm9]; exact (by repeat' first | exact Sub.nil | apply Sub.cons | rfl | (simp [lk]; omega))) (fun w h => by dsimp only; exact h)
 rintro ⟨⟩
 dsimp only
 exact sy_jend () (by dsimp only; rw [hb0]; exact (by repeat' first | exact Sub.nil | apply Sub.cons | rfl | (simp [lk]; omega))) (fun w h => by dsimp only; rw [hq]; exact h)
 try simp only [decide_eq_true_eq, decide_eq_false_iff_not, Bool.and_eq_true, Bool.or_eq_true, Bool.not_eq_true', Int.not_le, Int.not_lt] at g69
 have he2 := letE_bad (g := g) (n := n) (k := k) hw0 (.inr (by simp [inb]; omega : inb k 0 3 = false))
 have he1 := letP_no he2 (by decide)
 repeat refine spN rfl rfl rfl rfl rfl rfl rfl rfl ?_
 refine sp rfl (PE.pick rfl rfl rfl) rfl ?_
 refine sy_join (ι := Unit) (fun _ => ⟨[(2, .int .i64 n), (3, .int .i64 k), (5, .pointer (some ⟨b5, 0, none⟩)), (6, .pointer (some ⟨b6, 0, none⟩)), (9, .pointer (some ⟨b9, 0, none⟩)), (11, .pointer (some ⟨b11, 0, none⟩)), (12, .pointer (some ⟨b12, 0, none⟩)), (13, .pointer (some ⟨b13, 0, none⟩)), (14, .pointer (some ⟨b14, 0, none⟩)), (19, .pointer (some ⟨b19, 0, none⟩)), (20, .pointer (some ⟨b20, 0, none⟩)), (15, .int .i64 (bothE g c)), (16, .int .i64 (letE g c n k)), (17, .int .i64 (bothE g c)), (18, .int .i64 g.check), (21, .bool false), (22, .int .i64 0)], (b20, cel 41 [.int .i64 (letP g c n k).1, .int .i64 (letP g c n k).2]) :: (b19, cel 41 [.int .i64 (netP g c).1, .int .i64 (netP g c).2]) :: (b14, cel 63 (ctl c (c.sl a4 c4))) :: (b13, cel 59 (gtl g (g.sl a3 c3))) :: (b12, cel 28 (ctl c (c.sl a2 c2))) :: (b11, cel 25 (gtl g (g.sl a1 c1))) :: (b9, cel 29 (ints m)) :: (b6, cel 28 (ctl c (c.sl ah ch))) :: (b5, cel 25 (gtl g (g.sl ag cg))) :: H, RowsA a4 5 (hrows c.hs) :: RowsA a3 5 (grows g.grs) :: RowsA a2 5 (hrows c.hs) :: RowsA a1 5 (grows g.grs) :: R⟩) ?_ ?_
 refine sy_condF rfl ?_
 refine sy_skip ?_
 exact sy_jend () (by dsimp only; rw [he2]; exact (by repeat' first | exact Sub.nil | apply Sub.cons | rfl | (simp [lk]; omega))) (fun w h => by dsimp only; rw [he1]; exact h)
 rintro ⟨⟩
 dsimp only
 refine sy_seq ?_
 refine sy_tx' [0, 1, 2] rfl ?_
 refine spL rfl rfl (lhA (ints (m)) ag29 rfl (rest := []) (by rw [List.append_nil]; rfl) (by rw [ints_length]; exact hm)) rfl ?_
 refine clV rfl cal36 rfl rfl (c_rMixed m hm _ _) ?_
 refine sp rfl (PE.assign rfl) rfl ?_
 refine sy_seq ?_
 refine sy_tx' [0, 1] rfl ?_
 refine sp rfl (PE.move rfl) rfl ?_
 refine sp rfl (PE.eql rfl rfl) rfl ?_
 refine sy_join (ι := Unit) (fun _ => ⟨[(2, .int .i64 n), (3, .int .i64 k), (5, .pointer (some ⟨b5, 0, none⟩)), (6, .pointer (some ⟨b6, 0, none⟩)), (9, .pointer (some ⟨b9, 0, none⟩)), (11, .pointer (some ⟨b11, 0, none⟩)), (12, .pointer (some ⟨b12, 0, none⟩)), (13, .pointer (some ⟨b13, 0, none⟩)), (14, .pointer (some ⟨b14, 0, none⟩)), (19, .pointer (some ⟨b19, 0, none⟩)), (20, .pointer (some ⟨b20, 0, none⟩)), (15, .int .i64 (bothE g c)), (16, .int .i64 (letE g c n k)), (17, .int .i64 (mixE m)), (18, .int .i64 g.check), (21, .bool (bif decide (mixE m ≠ 0) then false else (c.hs.all fun h => fitB g.miss h m))), (22, .int .i64 0)], (b20, cel 41 [.int .i64 (letP g c n k).1, .int .i64 (letP g c n k).2]) :: (b19, cel 41 [.int .i64 (netP g c).1, .int .i64 (netP g c).2]) :: (b14, cel 63 (ctl c (c.sl a4 c4))) :: (b13, cel 59 (gtl g (g.sl a3 c3))) :: (b12, cel 28 (ctl c (c.sl a2 c2))) :: (b11, cel 25 (gtl g (g.sl a1 c1))) :: (b9, cel 29 (ints m)) :: (b6, cel 28 (ctl c (c.sl ah ch))) :: (b5, cel 25 (gtl g (g.sl ag cg))) :: H, RowsA a4 5 (hrows c.hs) :: RowsA a3 5 (grows g.grs) :: RowsA a2 5 (hrows c.hs) :: RowsA a1 5 (grows g.grs) :: R⟩) ?_ ?_
 refine sy_cond rfl (fun hc3 => ?_) (fun hc3 => ?_)
 have hm0 : mixE m = 0 := by simpa using hc3
 have hmx := (mix_ok hm).1 hm0
 have hm9 : decide (mixE m ≠ 0) = false := decide_eq_false (by omega)
 refine sy_tx' [0, 1, 2, 3, 4] rfl ?_
 refine spL rfl rfl (lhA [_, _, _] ag59 rfl rfl rfl) rfl ?_
 refine spL rfl rfl (lhA [_, _, _] ag63 rfl rfl rfl) rfl ?_
 refine spL rfl rfl (lhA (ints (m)) ag29 rfl (rest := []) (by rw [List.append_nil]; rfl) (by rw [ints_length]; exact hm)) rfl ?_
 refine clV rfl cal37 rfl rfl (c_rFits g hgo.miss (g.sl a3 c3) c hco a4 c4 m hmx _ _) ?_
 refine sp rfl (PE.assign rfl) rfl ?_
 exact sy_jend () (by dsimp only; rw [hm9]; exact (by repeat' first | exact Sub.nil | apply Sub.cons | rfl | (simp [lk]; omega))) (fun w h => by dsimp only; exact h)
 have hm0 : mixE m ≠ 0 := by simpa using hc3
 have hm9 : decide (mixE m ≠ 0) = true := decide_eq_true hm0
 refine sy_skip ?_
 exact sy_jend () (by dsimp only; rw [hm9]; exact (by repeat' first | exact Sub.nil | apply Sub.cons | rfl | (simp [lk]; omega))) (fun w h => by dsimp only; exact h)
 rintro ⟨⟩
 dsimp only
 exact sy_jend () (by dsimp only; rw [hb0]; exact (by repeat' first | exact Sub.nil | apply Sub.cons | rfl | (simp [lk]; omega))) (fun w h => by dsimp only; rw [hq]; exact h)
 try simp only [decide_eq_true_eq, decide_eq_false_iff_not, Bool.and_eq_true, Bool.or_eq_true, Bool.not_eq_true', Int.not_le, Int.not_lt] at g65
 have he2 := letE_bad (g := g) (n := n) (k := k) hw0 (.inl (by simp [inb]; omega : inb n 0 ((c.hs.length : Int) - 1) = false))
 have he1 := letP_no he2 (by decide)
 repeat refine spN rfl rfl rfl rfl rfl rfl rfl rfl ?_
 refine sp rfl (PE.pick rfl rfl rfl) rfl ?_
 refine sp rfl (PE.move rfl) rfl ?_
 repeat refine spN rfl rfl rfl rfl rfl rfl rfl rfl ?_
 refine sp rfl (PE.pick rfl rfl rfl) rfl ?_
 refine sy_join (ι := Unit) (fun _ => ⟨[(2, .int .i64 n), (3, .int .i64 k), (5, .pointer (some ⟨b5, 0, none⟩)), (6, .pointer (some ⟨b6, 0, none⟩)), (9, .pointer (some ⟨b9, 0, none⟩)), (11, .pointer (some ⟨b11, 0, none⟩)), (12, .pointer (some ⟨b12, 0, none⟩)), (13, .pointer (some ⟨b13, 0, none⟩)), (14, .pointer (some ⟨b14, 0, none⟩)), (19, .pointer (some ⟨b19, 0, none⟩)), (20, .pointer (some ⟨b20, 0, none⟩)), (15, .int .i64 (bothE g c)), (16, .int .i64 (letE g c n k)), (17, .int .i64 (bothE g c)), (18, .int .i64 g.check), (21, .bool false), (22, .int .i64 0)], (b20, cel 41 [.int .i64 (letP g c n k).1, .int .i64 (letP g c n k).2]) :: (b19, cel 41 [.int .i64 (netP g c).1, .int .i64 (netP g c).2]) :: (b14, cel 63 (ctl c (c.sl a4 c4))) :: (b13, cel 59 (gtl g (g.sl a3 c3))) :: (b12, cel 28 (ctl c (c.sl a2 c2))) :: (b11, cel 25 (gtl g (g.sl a1 c1))) :: (b9, cel 29 (ints m)) :: (b6, cel 28 (ctl c (c.sl ah ch))) :: (b5, cel 25 (gtl g (g.sl ag cg))) :: H, RowsA a4 5 (hrows c.hs) :: RowsA a3 5 (grows g.grs) :: RowsA a2 5 (hrows c.hs) :: RowsA a1 5 (grows g.grs) :: R⟩) ?_ ?_
 refine sy_condF rfl ?_
 refine sy_skip ?_
 exact sy_jend () (by dsimp only; rw [he2]; exact (by repeat' first | exact Sub.nil | apply Sub.cons | rfl | (simp [lk]; omega))) (fun w h => by dsimp only; rw [he1]; exact h)
 rintro ⟨⟩
 dsimp only
 refine sy_seq ?_
 refine sy_tx' [0, 1, 2] rfl ?_
 refine spL rfl rfl (lhA (ints (m)) ag29 rfl (rest := []) (by rw [List.append_nil]; rfl) (by rw [ints_length]; exact hm)) rfl ?_
 refine clV rfl cal36 rfl rfl (c_rMixed m hm _ _) ?_
 refine sp rfl (PE.assign rfl) rfl ?_
 refine sy_seq ?_
 refine sy_tx' [0, 1] rfl ?_
 refine sp rfl (PE.move rfl) rfl ?_
 refine sp rfl (PE.eql rfl rfl) rfl ?_
 refine sy_join (ι := Unit) (fun _ => ⟨[(2, .int .i64 n), (3, .int .i64 k), (5, .pointer (some ⟨b5, 0, none⟩)), (6, .pointer (some ⟨b6, 0, none⟩)), (9, .pointer (some ⟨b9, 0, none⟩)), (11, .pointer (some ⟨b11, 0, none⟩)), (12, .pointer (some ⟨b12, 0, none⟩)), (13, .pointer (some ⟨b13, 0, none⟩)), (14, .pointer (some ⟨b14, 0, none⟩)), (19, .pointer (some ⟨b19, 0, none⟩)), (20, .pointer (some ⟨b20, 0, none⟩)), (15, .int .i64 (bothE g c)), (16, .int .i64 (letE g c n k)), (17, .int .i64 (mixE m)), (18, .int .i64 g.check), (21, .bool (bif decide (mixE m ≠ 0) then false else (c.hs.all fun h => fitB g.miss h m))), (22, .int .i64 0)], (b20, cel 41 [.int .i64 (letP g c n k).1, .int .i64 (letP g c n k).2]) :: (b19, cel 41 [.int .i64 (netP g c).1, .int .i64 (netP g c).2]) :: (b14, cel 63 (ctl c (c.sl a4 c4))) :: (b13, cel 59 (gtl g (g.sl a3 c3))) :: (b12, cel 28 (ctl c (c.sl a2 c2))) :: (b11, cel 25 (gtl g (g.sl a1 c1))) :: (b9, cel 29 (ints m)) :: (b6, cel 28 (ctl c (c.sl ah ch))) :: (b5, cel 25 (gtl g (g.sl ag cg))) :: H, RowsA a4 5 (hrows c.hs) :: RowsA a3 5 (grows g.grs) :: RowsA a2 5 (hrows c.hs) :: RowsA a1 5 (grows g.grs) :: R⟩) ?_ ?_
 refine sy_cond rfl (fun hc3 => ?_) (fun hc3 => ?_)
 have hm0 : mixE m = 0 := by simpa using hc3
 have hmx := (mix_ok hm).1 hm0
 have hm9 : decide (mixE m ≠ 0) = false := decide_eq_false (by omega)
 refine sy_tx' [0, 1, 2, 3, 4] rfl ?_
 refine spL rfl rfl (lhA [_, _, _] ag59 rfl rfl rfl) rfl ?_
 refine spL rfl rfl (lhA [_, _, _] ag63 rfl rfl rfl) rfl ?_
 refine spL rfl rfl (lhA (ints (m)) ag29 rfl (rest := []) (by rw [List.append_nil]; rfl) (by rw [ints_length]; exact hm)) rfl ?_
 refine clV rfl cal37 rfl rfl (c_rFits g hgo.miss (g.sl a3 c3) c hco a4 c4 m hmx _ _) ?_
 refine sp rfl (PE.assign rfl) rfl ?_
 exact sy_jend () (by dsimp only; rw [hm9]; exact (by repeat' first | exact Sub.nil | apply Sub.cons | rfl | (simp [lk]; omega))) (fun w h => by dsimp only; exact h)
 have hm0 : mixE m ≠ 0 := by simpa using hc3
 have hm9 : decide (mixE m ≠ 0) = true := decide_eq_true hm0
 refine sy_skip ?_
 exact sy_jend () (by dsimp only; rw [hm9]; exact (by repeat' first | exact Sub.nil | apply Sub.cons | rfl | (simp [lk]; omega))) (fun w h => by dsimp only; exact h)
 rintro ⟨⟩
 dsimp only
 exact sy_jend () (by dsimp only; rw [hb0]; exact (by repeat' first | exact Sub.nil | apply Sub.cons | rfl | (simp [lk]; omega))) (fun w h => by dsimp only; rw [hq]; exact h)
 try simp only [decide_eq_true_eq, decide_eq_false_iff_not, Bool.and_eq_true, Bool.or_eq_true, Bool.not_eq_true', Int.not_le, Int.not_lt] at g58
 have he2 := letE_bad (g := g) (n := n) (k := k) hw0 (.inl (by simp [inb]; omega : inb n 0 ((c.hs.length : Int) - 1) = false))
 have he1 := letP_no he2 (by decide)
 repeat refine spN rfl rfl rfl rfl rfl rfl rfl rfl ?_
 refine sp rfl (PE.pick rfl rfl rfl) rfl ?_
 refine sp rfl (PE.move rfl) rfl ?_
 repeat refine spN rfl rfl rfl rfl rfl rfl rfl rfl ?_
 refine sp rfl (PE.pick rfl rfl rfl) rfl ?_
 refine sp rfl (PE.move rfl) rfl ?_
 repeat refine spN rfl rfl rfl rfl rfl rfl rfl rfl ?_
 refine sp rfl (PE.pick rfl rfl rfl) rfl ?_
 refine sy_join (ι := Unit) (fun _ => ⟨[(2, .int .i64 n), (3, .int .i64 k), (5, .pointer (some ⟨b5, 0, none⟩)), (6, .pointer (some ⟨b6, 0, none⟩)), (9, .pointer (some ⟨b9, 0, none⟩)), (11, .pointer (some ⟨b11, 0, none⟩)), (12, .pointer (some ⟨b12, 0, none⟩)), (13, .pointer (some ⟨b13, 0, none⟩)), (14, .pointer (some ⟨b14, 0, none⟩)), (19, .pointer (some ⟨b19, 0, none⟩)), (20, .pointer (some ⟨b20, 0, none⟩)), (15, .int .i64 (bothE g c)), (16, .int .i64 (letE g c n k)), (17, .int .i64 (bothE g c)), (18, .int .i64 g.check), (21, .bool false), (22, .int .i64 0)], (b20, cel 41 [.int .i64 (letP g c n k).1, .int .i64 (letP g c n k).2]) :: (b19, cel 41 [.int .i64 (netP g c).1, .int .i64 (netP g c).2]) :: (b14, cel 63 (ctl c (c.sl a4 c4))) :: (b13, cel 59 (gtl g (g.sl a3 c3))) :: (b12, cel 28 (ctl c (c.sl a2 c2))) :: (b11, cel 25 (gtl g (g.sl a1 c1))) :: (b9, cel 29 (ints m)) :: (b6, cel 28 (ctl c (c.sl ah ch))) :: (b5, cel 25 (gtl g (g.sl ag cg))) :: H, RowsA a4 5 (hrows c.hs) :: RowsA a3 5 (grows g.grs) :: RowsA a2 5 (hrows c.hs) :: RowsA a1 5 (grows g.grs) :: R⟩) ?_ ?_
 refine sy_condF rfl ?_
 refine sy_skip ?_
 exact sy_jend () (by dsimp only; rw [he2]; exact (by repeat' first | exact Sub.nil | apply Sub.cons | rfl | (simp [lk]; omega))) (fun w h => by dsimp only; rw [he1]; exact h)
 rintro ⟨⟩
 dsimp only
 refine sy_seq ?_
 refine sy_tx' [0, 1, 2] rfl ?_
 refine spL rfl rfl (lhA (ints (m)) ag29 rfl (rest := []) (by rw [List.append_nil]; rfl) (by rw [ints_length]; exact hm)) rfl ?_
 refine clV rfl cal36 rfl rfl (c_rMixed m hm _ _) ?_
 refine sp rfl (PE.assign rfl) rfl ?_
 refine sy_seq ?_
 refine sy_tx' [0, 1] rfl ?_
 refine sp rfl (PE.move rfl) rfl ?_
 refine sp rfl (PE.eql rfl rfl) rfl ?_
 refine sy_join (ι := Unit) (fun _ => ⟨[(2, .int .i64 n), (3, .int .i64 k), (5, .pointer (some ⟨b5, 0, none⟩)), (6, .pointer (some ⟨b6, 0, none⟩)), (9, .pointer (some ⟨b9, 0, none⟩)), (11, .pointer (some ⟨b11, 0, none⟩)), (12, .pointer (some ⟨b12, 0, none⟩)), (13, .pointer (some ⟨b13, 0, none⟩)), (14, .pointer (some ⟨b14, 0, none⟩)), (19, .pointer (some ⟨b19, 0, none⟩)), (20, .pointer (some ⟨b20, 0, none⟩)), (15, .int .i64 (bothE g c)), (16, .int .i64 (letE g c n k)), (17, .int .i64 (mixE m)), (18, .int .i64 g.check), (21, .bool (bif decide (mixE m ≠ 0) then false else (c.hs.all fun h => fitB g.miss h m))), (22, .int .i64 0)], (b20, cel 41 [.int .i64 (letP g c n k).1, .int .i64 (letP g c n k).2]) :: (b19, cel 41 [.int .i64 (netP g c).1, .int .i64 (netP g c).2]) :: (b14, cel 63 (ctl c (c.sl a4 c4))) :: (b13, cel 59 (gtl g (g.sl a3 c3))) :: (b12, cel 28 (ctl c (c.sl a2 c2))) :: (b11, cel 25 (gtl g (g.sl a1 c1))) :: (b9, cel 29 (ints m)) :: (b6, cel 28 (ctl c (c.sl ah ch))) :: (b5, cel 25 (gtl g (g.sl ag cg))) :: H, RowsA a4 5 (hrows c.hs) :: RowsA a3 5 (grows g.grs) :: RowsA a2 5 (hrows c.hs) :: RowsA a1 5 (grows g.grs) :: R⟩) ?_ ?_
 refine sy_cond rfl (fun hc3 => ?_) (fun hc3 => ?_)
 have hm0 : mixE m = 0 := by simpa using hc3
 have hmx := (mix_ok hm).1 hm0
 have hm9 : decide (mixE m ≠ 0) = false := decide_eq_false (by omega)
 refine sy_tx' [0, 1, 2, 3, 4] rfl ?_
 refine spL rfl rfl (lhA [_, _, _] ag59 rfl rfl rfl) rfl ?_
 refine spL rfl rfl (lhA [_, _, _] ag63 rfl rfl rfl) rfl ?_
 refine spL rfl rfl (lhA (ints (m)) ag29 rfl (rest := []) (by rw [List.append_nil]; rfl) (by rw [ints_length]; exact hm)) rfl ?_
 refine clV rfl cal37 rfl rfl (c_rFits g hgo.miss (g.sl a3 c3) c hco a4 c4 m hmx _ _) ?_
 refine sp rfl (PE.assign rfl) rfl ?_
 exact sy_jend () (by dsimp only; rw [hm9]; exact (by repeat' first | exact Sub.nil | apply Sub.cons | rfl | (simp [lk]; omega))) (fun w h => by dsimp only; exact h)
 have hm0 : mixE m ≠ 0 := by simpa using hc3
 have hm9 : decide (mixE m ≠ 0) = true := decide_eq_true hm0
 refine sy_skip ?_
 exact sy_jend () (by dsimp only; rw [hm9]; exact (by repeat' first | exact Sub.nil | apply Sub.cons | rfl | (simp [lk]; omega))) (fun w h => by dsimp only; exact h)
 rintro ⟨⟩
 dsimp only
 exact sy_jend () (by dsimp only; rw [hb0]; exact (by repeat' first | exact Sub.nil | apply Sub.cons | rfl | (simp [lk]; omega))) (fun w h => by dsimp only; rw [hq]; exact h)
 have hw0 : bothE g c ≠ 0 := by simpa using hc1
 have hb0 : decide (bothE g c ≠ 0) = true := decide_eq_true hw0
 obtain ⟨he2, he1⟩ := letE_err hw0 n k
 have hq : netQ g c = (0, 0) := by unfold netQ; rw [hb0]; rfl
 refine sy_skip ?_
 exact sy_jend () (by dsimp only; rw [he2, hb0]; exact (by repeat' first | exact Sub.nil | apply Sub.cons | rfl | (simp [lk]; omega))) (fun w h => by dsimp only; rw [he1, hq]; exact h)
 rintro ⟨⟩
 dsimp only
 refine sy_seq ?_
 refine sy_seq ?_
 refine sy_tx' [0, 1] rfl ?_
 refine sp rfl (PE.move rfl) rfl ?_
 refine sp rfl (PE.eql rfl rfl) rfl ?_
 refine sy_join (ι := Unit) (fun _ => ⟨[(2, .int .i64 n), (3, .int .i64 k), (5, .pointer (some ⟨b5, 0, none⟩)), (6, .pointer (some ⟨b6, 0, none⟩)), (9, .pointer (some ⟨b9, 0, none⟩)), (11, .pointer (some ⟨b11, 0, none⟩)), (12, .pointer (some ⟨b12, 0, none⟩)), (13, .pointer (some ⟨b13, 0, none⟩)), (14, .pointer (some ⟨b14, 0, none⟩)), (19, .pointer (some ⟨b19, 0, none⟩)), (20, .pointer (some ⟨b20, 0, none⟩)), (15, .int .i64 (bothE g c)), (16, .int .i64 (letE g c n k)), (17, .int .i64 (bif decide (bothE g c ≠ 0) then bothE g c else mixE m)), (18, .int .i64 (bif decide (g.check ≠ 0) then g.check else mixE m)), (21, .bool (bif decide (bothE g c ≠ 0) then false else bif decide (mixE m ≠ 0) then false else (c.hs.all fun h => fitB g.miss h m))), (22, .int .i64 (bif decide (g.check ≠ 0) then 0 else bif decide (mixE m ≠ 0) then 0 else hasG g.grs m))], (b20, cel 41 [.int .i64 (letP g c n k).1, .int .i64 (letP g c n k).2]) :: (b19, cel 41 [.int .i64 (netQ g c).1, .int .i64 (netQ g c).2]) :: (b14, cel 63 (ctl c (c.sl a4 c4))) :: (b13, cel 59 (gtl g (g.sl a3 c3))) :: (b12, cel 28 (ctl c (c.sl a2 c2))) :: (b11, cel 25 (gtl g (g.sl a1 c1))) :: (b9, cel 29 (ints m)) :: (b6, cel 28 (ctl c (c.sl ah ch))) :: (b5, cel 25 (gtl g (g.sl ag cg))) :: H, RowsA a4 5 (hrows c.hs) :: RowsA a3 5 (grows g.grs) :: RowsA a2 5 (hrows c.hs) :: RowsA a1 5 (grows g.grs) :: R⟩) ?_ ?_
 refine sy_cond rfl (fun hc4 => ?_) (fun hc4 => ?_)
 have hg0 : g.check = 0 := by simpa using hc4
 have hg9 : decide (g.check ≠ 0) = false := decide_eq_false (by omega)
 refine sy_seq ?_
 refine sy_tx' [0, 1, 2] rfl ?_
 refine spL rfl rfl (lhA (ints (m)) ag29 rfl (rest := []) (by rw [List.append_nil]; rfl) (by rw [ints_length]; exact hm)) rfl ?_
 refine clV rfl cal36 rfl rfl (c_rMixed m hm _ _) ?_
 refine sp rfl (PE.assign rfl) rfl ?_
 refine sy_seq ?_
 refine sy_tx' [0, 1] rfl ?_
 refine sp rfl (PE.move rfl) rfl ?_
 refine sp rfl (PE.eql rfl rfl) rfl ?_
 refine sy_cond rfl (fun hc5 => ?_) (fun hc5 => ?_)
 have hm0 : mixE m = 0 := by simpa using hc5
 have hmx := (mix_ok hm).1 hm0
 have hm9 : decide (mixE m ≠ 0) = false := decide_eq_false (by omega)
 refine sy_tx' [0, 1, 2, 3] rfl ?_
 refine spL rfl rfl (lhA [_, _, _] ag59 rfl rfl rfl) rfl ?_
 refine spL rfl rfl (lhA (ints (m)) ag29 rfl (rest := []) (by rw [List.append_nil]; rfl) (by rw [ints_length]; exact hm)) rfl ?_
 refine clV rfl cal38 rfl rfl (c_rHas g a3 c3 (by omega) (by omega) m hmx _ _) ?_
 refine sp rfl (PE.assign rfl) rfl ?_
 exact sy_jend () (by dsimp only; rw [hg9, show decide (mixE m ≠ 0) = false from hm9]; exact (by repeat' first | exact Sub.nil | apply Sub.cons | rfl | (simp [lk]; omega))) (fun w h => by dsimp only; exact h)
 have hm0 : mixE m ≠ 0 := by simpa using hc5
 have hm9 : decide (mixE m ≠ 0) = true := decide_eq_true hm0
 refine sy_skip ?_
 exact sy_jend () (by dsimp only; rw [hg9, hm9]; exact (by repeat' first | exact Sub.nil | apply Sub.cons | rfl | (simp [lk]; omega))) (fun w h => by dsimp only; exact h)
 have hg9 : decide (g.check ≠ 0) = true := decide_eq_true (by simpa using hc4)
 refine sy_skip ?_
 exact sy_jend () (by dsimp only; rw [hg9]; exact (by repeat' first | exact Sub.nil | apply Sub.cons | rfl | (simp [lk]; omega))) (fun w h => by dsimp only; exact h)
 rintro ⟨⟩
 dsimp only
 refine sy_seq ?_
 refine sy_tx' [0, 1, 2, 3, 4, 5, 6, 7, 8] rfl ?_
 refine spL rfl rfl (lhA [_, _, _] ag25 rfl rfl rfl) rfl ?_
 refine spL rfl rfl (lhA [_, _, _] ag28 rfl rfl rfl) rfl ?_
 refine cl rfl cal18 rfl rfl (c_Net g a1 c1 (by omega) c a2 c2 (by omega) _ _) ?_
 rintro _ _ _ ⟨rfl, rfl, rfl⟩
 rw [netR_eq]
 refine sp rfl (PE.move rfl) rfl ?_
 refine sp rfl (PE.extract rfl rfl) rfl ?_
 refine sp rfl (PE.extract rfl rfl) rfl ?_
 refine alc rfl zl41 rfl (fun b24 => ?_)
 refine sto rfl rfl rfl cn41 rfl rfl rfl rfl ?_
 refine sp rfl (PE.assign rfl) rfl ?_
 refine sy_seq ?_
 refine sy_tx' [0, 1, 2, 3, 4, 5, 6, 7, 8, 9, 10] rfl ?_
 refine spL rfl rfl (lhA [_, _, _] ag25 rfl rfl rfl) rfl ?_
 refine spL rfl rfl (lhA [_, _, _] ag28 rfl rfl rfl) rfl ?_
 refine sp rfl (PE.move rfl) rfl ?_
 refine sp rfl (PE.move rfl) rfl ?_
 refine clV rfl cal58 rfl rfl (c_Lets g a1 c1 (by omega) c a2 c2 (by omega) n k _ _) ?_
 refine sp rfl (PE.move rfl) rfl ?_
 refine sp rfl (PE.extract rfl rfl) rfl ?_
 refine sp rfl (PE.extract rfl rfl) rfl ?_
 refine alc rfl zl41 rfl (fun b26 => ?_)
 refine sto rfl rfl rfl cn41 rfl rfl rfl rfl ?_
 refine sp rfl (PE.assign rfl) rfl ?_
 refine sy_seq ?_
 refine sy_tx' [0, 1, 2, 3, 4, 5, 6, 7, 8] rfl ?_
 refine spL rfl rfl (lhA [_, _, _] ag25 rfl rfl rfl) rfl ?_
 refine spL rfl rfl (lhA [_, _, _] ag28 rfl rfl rfl) rfl ?_
 refine spL rfl rfl (lhA (ints (m)) ag29 rfl (rest := []) (by rw [List.append_nil]; rfl) (by rw [ints_length]; exact hm)) rfl ?_
 refine clV rfl cal59 rfl rfl (c_Fits g a1 c1 (by omega) c a2 c2 (by omega) m hm _ _) ?_
 refine sp rfl (PE.move rfl) rfl ?_
 refine sp rfl (PE.extract rfl rfl) rfl ?_
 refine sp rfl (PE.extract rfl rfl) rfl ?_
 refine sp rfl (PE.assign rfl) rfl ?_
 refine sp rfl (PE.assign rfl) rfl ?_
 refine sy_seq ?_
 refine sy_tx' [0, 1, 2, 3, 4, 5, 6, 7] rfl ?_
 refine spL rfl rfl (lhA [_, _, _] ag25 rfl rfl rfl) rfl ?_
 refine spL rfl rfl (lhA (ints (m)) ag29 rfl (rest := []) (by rw [List.append_nil]; rfl) (by rw [ints_length]; exact hm)) rfl ?_
 refine clV rfl cal60 rfl rfl (c_Has g a1 c1 (by omega) m hm _ _) ?_
 refine sp rfl (PE.move rfl) rfl ?_
 refine sp rfl (PE.extract rfl rfl) rfl ?_
 refine sp rfl (PE.extract rfl rfl) rfl ?_
 refine sp rfl (PE.assign rfl) rfl ?_
 refine sp rfl (PE.assign rfl) rfl ?_
 refine sy_seq ?_
 refine sy_tx' [0, 1, 2, 3, 4, 5, 6, 7, 8, 9, 10, 11, 12, 13, 14, 15, 16, 17, 18, 19, 20, 21, 22, 23, 24, 25, 26, 27, 28, 29, 30, 31, 32, 33, 34, 35, 36, 37, 38, 39, 40, 41, 42, 43, 44, 45, 46, 47, 48, 49, 50, 51] rfl ?_
 refine sp rfl (PE.move rfl) rfl ?_
 refine sp rfl (PE.move rfl) rfl ?_
 refine sp rfl (PE.eql rfl rfl) rfl ?_
 refine sp rfl (PE.move rfl) rfl ?_
 refine sy_case (t := 133) rfl (fun g133 => ?_) (fun g133 => ?_)
 refine spG rfl rfl rfl rfl (PE.move rfl) rfl ?_
 refine spG rfl rfl rfl rfl (PE.move rfl) rfl ?_
 refine spG rfl rfl rfl rfl (PE.eql rfl rfl) rfl ?_
 refine sp rfl (PE.pick rfl rfl rfl) rfl ?_
 refine sp rfl (PE.move rfl) rfl ?_
 refine sy_case (t := 138) rfl (fun g138 => ?_) (fun g138 => ?_)
 refine spG rfl rfl rfl rfl (PE.move rfl) rfl ?_
 refine spG rfl rfl rfl rfl (PE.move rfl) rfl ?_
 refine spG rfl rfl rfl rfl (PE.eql rfl rfl) rfl ?_
 refine sp rfl (PE.pick rfl rfl rfl) rfl ?_
 refine sp rfl (PE.move rfl) rfl ?_
 refine sy_case (t := 143) rfl (fun g143 => ?_) (fun g143 => ?_)
 refine spG rfl rfl rfl rfl (PE.move rfl) rfl ?_
 refine spG rfl rfl rfl rfl (PE.move rfl) rfl ?_
 refine spG rfl rfl rfl rfl (PE.eql rfl rfl) rfl ?_
 refine sp rfl (PE.pick rfl rfl rfl) rfl ?_
 refine sp rfl (PE.move rfl) rfl ?_
 refine sy_case (t := 148) rfl (fun g148 => ?_) (fun g148 => ?_)
 refine spLG rfl rfl rfl rfl rfl (lhA [_, _] ag41 rfl rfl rfl) rfl ?_
 refine spLG rfl rfl rfl rfl rfl (lhA [_, _] ag41 rfl rfl rfl) rfl ?_
 refine spG rfl rfl rfl rfl (PE.eqlAgg [(netQ g c).1, (netQ g c).2] [(netQ g c).1, (netQ g c).2] (eqB_ok 10000 41 true 2 eqf41) eqg41 rfl rfl rfl rfl) rfl ?_
 refine sp rfl (PE.pick rfl rfl rfl) rfl ?_
 refine sp rfl (PE.move rfl) rfl ?_
 refine sy_case (t := 153) rfl (fun g153 => ?_) (fun g153 => ?_)
 refine spLG rfl rfl rfl rfl rfl (lhA [_, _] ag41 rfl rfl rfl) rfl ?_
 refine spLG rfl rfl rfl rfl rfl (lhA [_, _] ag41 rfl rfl rfl) rfl ?_
 refine spG rfl rfl rfl rfl (PE.eqlAgg [(letP g c n k).1, (letP g c n k).2] [(letP g c n k).1, (letP g c n k).2] (eqB_ok 10000 41 true 2 eqf41) eqg41 rfl rfl rfl rfl) rfl ?_
 refine sp rfl (PE.pick rfl rfl rfl) rfl ?_
 refine sp rfl (PE.move rfl) rfl ?_
 refine sy_case (t := 158) rfl (fun g158 => ?_) (fun g158 => ?_)
 refine spG rfl rfl rfl rfl (PE.move rfl) rfl ?_
 refine spG rfl rfl rfl rfl (PE.move rfl) rfl ?_
 refine spG rfl rfl rfl rfl (PE.eqlBool ub4 rfl rfl) rfl ?_
 refine sp rfl (PE.pick rfl rfl rfl) rfl ?_
 refine sp rfl (PE.move rfl) rfl ?_
 refine sy_case (t := 163) rfl (fun g163 => ?_) (fun g163 => ?_)
 refine spG rfl rfl rfl rfl (PE.move rfl) rfl ?_
 refine spG rfl rfl rfl rfl (PE.move rfl) rfl ?_
 refine spG rfl rfl rfl rfl (PE.eql rfl rfl) rfl ?_
 refine sp rfl (PE.pick rfl rfl rfl) rfl ?_
 refine sp rfl (PE.move rfl) rfl ?_
 refine sy_case (t := 168) rfl (fun g168 => ?_) (fun g168 => ?_)
 refine spLG rfl rfl rfl rfl rfl (lhA [_, _, _] ag25 rfl rfl rfl) rfl ?_
 refine spLG rfl rfl rfl rfl rfl (lhA [_, _, _] ag25 rfl rfl rfl) rfl ?_
 refine clVG rfl rfl rfl rfl cal39 rfl rfl (c_same g a1 ag c1 cg (by omega) _ _) ?_
 refine sp rfl (PE.pick rfl rfl rfl) rfl ?_
 refine sp rfl (PE.move rfl) rfl ?_
 refine sy_case (t := 173) rfl (fun g173 => ?_) (fun g173 => ?_)
 refine spLG rfl rfl rfl rfl rfl (lhA [_, _, _] ag28 rfl rfl rfl) rfl ?_
 refine spLG rfl rfl rfl rfl rfl (lhA [_, _, _] ag28 rfl rfl rfl) rfl ?_
 refine clVG rfl rfl rfl rfl cal40 rfl rfl (c_alike c a2 ah c2 ch (by omega) _ _) ?_
 refine sp rfl (PE.pick rfl rfl rfl) rfl ?_
 refine sp rfl (PE.move rfl) rfl ?_
 refine sy_case (t := 178) rfl (fun g178 => ?_) (fun g178 => ?_)
 refine clVG rfl rfl rfl rfl cal22 rfl rfl (c_awake _ _) ?_
 refine sp rfl (PE.pick rfl rfl rfl) rfl ?_
 refine sp rfl (PE.assign rfl) rfl ?_
 refine sy_ret ?_
 exact sy_return (vs := [_]) rfl (.cons (RV.tmp rfl) .nil) rfl ⟨rfl, rfl, rfl⟩ drp
 exact absurd g178 (by simp)
 exact absurd g173 (by simp)
 exact absurd g168 (by simp)
 exact absurd g163 (by simp)
 exact absurd g158 (by simp)
 exact absurd g153 (by simp)
 exact absurd g148 (by simp)
 exact absurd g143 (by simp)
 exact absurd g138 (by simp)
 exact absurd g133 (by simp)
 refine sy_have (β := Option Addr × Nat × Option Addr × Nat × Option Addr × Nat × Option Addr × Nat × Nat × Nat × Nat) pl9_3_1111111111100000 (fun ⟨a1, c1, a2, c2, a3, c3, a4, c4, b11, b12, b13⟩ => ([(13, .pointer (some ⟨b13, 0, none⟩)), (12, .pointer (some ⟨b12, 0, none⟩)), (11, .pointer (some ⟨b11, 0, none⟩)), (43, c.v (c.sl a4 c4)), (41, g.v (g.sl a3 c3)), (39, c.v (c.sl a2 c2)), (37, g.v (g.sl a1 c1)), (2, .int .i64 n), (3, .int .i64 k), (5, .pointer (some ⟨b5, 0, none⟩)), (6, .pointer (some ⟨b6, 0, none⟩)), (9, .pointer (some ⟨b9, 0, none⟩)), (36, g.v (g.sl ag cg)), (38, c.v (c.sl ah ch)), (40, g.v (g.sl ag cg)), (42, c.v (c.sl ah ch))], (b13, cel 59 ([.int .i64 0, .int .i64 0, .slice none 0 0])) :: (b12, cel 28 ([.int .i64 0, .int .i64 0, .slice none 0 0])) :: (b11, cel 25 ([.int .i64 0, .int .i64 0, .slice none 0 0])) :: (b9, cel 29 (ints m)) :: (b6, cel 28 (ctl c (c.sl ah ch))) :: (b5, cel 25 (gtl g (g.sl ag cg))) :: H, RowsA a4 5 (hrows c.hs) :: RowsA a3 5 (grows g.grs) :: RowsA a2 5 (hrows c.hs) :: RowsA a1 5 (grows g.grs) :: R, [])) (fun v9 => ?_) (fun h1111111111100000 => ?_)
 obtain ⟨a1, c1, a2, c2, a3, c3, a4, c4, b11, b12, b13⟩ := v9
 dsimp only
 unfold pl9_3_1111111111100000
 refine alc rfl zl63 rfl (fun b14 => ?_)
 refine bg (fun w hs => trivial) ?_
 exact sy_to (h1111111111110000 (a1, c1, a2, c2, a3, c3, a4, c4, b11, b12, b13, b14)) (by repeat' first | exact Sub.nil | apply Sub.cons | rfl | (simp [lk]; omega)) (fun _ h => St.sub ((((h.pull b11).pull b12).pull b13).pull b14))
 refine sy_have (β := Option Addr × Nat × Option Addr × Nat × Option Addr × Nat × Option Addr × Nat × Nat × Nat × Nat) pl9_3_1111111111010000 (fun ⟨a1, c1, a2, c2, a3, c3, a4, c4, b11, b12, b14⟩ => ([(14, .pointer (some ⟨b14, 0, none⟩)), (12, .pointer (some ⟨b12, 0, none⟩)), (11, .pointer (some ⟨b11, 0, none⟩)), (43, c.v (c.sl a4 c4)), (41, g.v (g.sl a3 c3)), (39, c.v (c.sl a2 c2)), (37, g.v (g.sl a1 c1)), (2, .int .i64 n), (3, .int .i64 k), (5, .pointer (some ⟨b5, 0, none⟩)), (6, .pointer (some ⟨b6, 0, none⟩)), (9, .pointer (some ⟨b9, 0, none⟩)), (36, g.v (g.sl ag cg)), (38, c.v (c.sl ah ch)), (40, g.v (g.sl ag cg)), (42, c.v (c.sl ah ch))], (b14, cel 63 ([.int .i64 0, .int .i64 0, .slice none 0 0])) :: (b12, cel 28 ([.int .i64 0, .int .i64 0, .slice none 0 0])) :: (b11, cel 25 ([.int .i64 0, .int .i64 0, .slice none 0 0])) :: (b9, cel 29 (ints m)) :: (b6, cel 28 (ctl c (c.sl ah ch))) :: (b5, cel 25 (gtl g (g.sl ag cg))) :: H, RowsA a4 5 (hrows c.hs) :: RowsA a3 5 (grows g.grs) :: RowsA a2 5 (hrows c.hs) :: RowsA a1 5 (grows g.grs) :: R, [])) (fun v9 => ?_) (fun h1111111111010000 => ?_)
 obtain ⟨a1, c1, a2, c2, a3, c3, a4, c4, b11, b12, b14⟩ := v9
 dsimp only
 unfold pl9_3_1111111111010000
 refine alc rfl zl59 rfl (fun b13 => ?_)
 refine bg (fun w hs => trivial) ?_
 exact sy_to (h1111111111110000 (a1, c1, a2, c2, a3, c3, a4, c4, b11, b12, b13, b14)) (by repeat' first | exact Sub.nil | apply Sub.cons | rfl | (simp [lk]; omega)) (fun _ h => St.sub ((((h.pull b11).pull b12).pull b13).pull b14))
 refine sy_have (β := Option Addr × Nat × Option Addr × Nat × Option Addr × Nat × Option Addr × Nat × Nat × Nat) pl9_3_1111111111000000 (fun ⟨a1, c1, a2, c2, a3, c3, a4, c4, b11, b12⟩ => ([(12, .pointer (some ⟨b12, 0, none⟩)), (11, .pointer (some ⟨b11, 0, none⟩)), (43, c.v (c.sl a4 c4)), (41, g.v (g.sl a3 c3)), (39, c.v (c.sl a2 c2)), (37, g.v (g.sl a1 c1)), (2, .int .i64 n), (3, .int .i64 k), (5, .pointer (some ⟨b5, 0, none⟩)), (6, .pointer (some ⟨b6, 0, none⟩)), (9, .pointer (some ⟨b9, 0, none⟩)), (36, g.v (g.sl ag cg)), (38, c.v (c.sl ah ch)), (40, g.v (g.sl ag cg)), (42, c.v (c.sl ah ch))], (b12, cel 28 ([.int .i64 0, .int .i64 0, .slice none 0 0])) :: (b11, cel 25 ([.int .i64 0, .int .i64 0, .slice none 0 0])) :: (b9, cel 29 (ints m)) :: (b6, cel 28 (ctl c (c.sl ah ch))) :: (b5, cel 25 (gtl g (g.sl ag cg))) :: H, RowsA a4 5 (hrows c.hs) :: RowsA a3 5 (grows g.grs) :: RowsA a2 5 (hrows c.hs) :: RowsA a1 5 (grows g.grs) :: R, [])) (fun v9 => ?_) (fun h1111111111000000 => ?_)
 obtain ⟨a1, c1, a2, c2, a3, c3, a4, c4, b11, b12⟩ := v9
 dsimp only
 unfold pl9_3_1111111111000000
 refine sy_any ?_
 refine sy_alt ?_ ?_
 refine alc rfl zl59 rfl (fun b13 => ?_)
 refine bg (fun w hs => trivial) ?_
 exact sy_to (h1111111111100000 (a1, c1, a2, c2, a3, c3, a4, c4, b11, b12, b13)) (by repeat' first | exact Sub.nil | apply Sub.cons | rfl | (simp [lk]; omega)) (fun _ h => St.sub (((h.pull b11).pull b12).pull b13))
 refine sy_alt ?_ ?_
 refine alc rfl zl63 rfl (fun b14 => ?_)
 refine bg (fun w hs => trivial) ?_
 exact sy_to (h1111111111010000 (a1, c1, a2, c2, a3, c3, a4, c4, b11, b12, b14)) (by repeat' first | exact Sub.nil | apply Sub.cons | rfl | (simp [lk]; omega)) (fun _ h => St.sub (((h.pull b11).pull b12).pull b14))
 exact sy_stop
 refine sy_have (β := Option Addr × Nat × Option Addr × Nat × Option Addr × Nat × Option Addr × Nat × Nat × Nat × Nat) pl9_3_1111111110110000 (fun ⟨a1, c1, a2, c2, a3, c3, a4, c4, b11, b13, b14⟩ => ([(14, .pointer (some ⟨b14, 0, none⟩)), (13, .pointer (some ⟨b13, 0, none⟩)), (11, .pointer (some ⟨b11, 0, none⟩)), (43, c.v (c.sl a4 c4)), (41, g.v (g.sl a3 c3)), (39, c.v (c.sl a2 c2)), (37, g.v (g.sl a1 c1)), (2, .int .i64 n), (3, .int .i64 k), (5, .pointer (some ⟨b5, 0, none⟩)), (6, .pointer (some ⟨b6, 0, none⟩)), (9, .pointer (some ⟨b9, 0, none⟩)), (36, g.v (g.sl ag cg)), (38, c.v (c.sl ah ch)), (40, g.v (g.sl ag cg)), (42, c.v (c.sl ah ch))], (b14, cel 63 ([.int .i64 0, .int .i64 0, .slice none 0 0])) :: (b13, cel 59 ([.int .i64 0, .int .i64 0, .slice none 0 0])) :: (b11, cel 25 ([.int .i64 0, .int .i64 0, .slice none 0 0])) :: (b9, cel 29 (ints m)) :: (b6, cel 28 (ctl c (c.sl ah ch))) :: (b5, cel 25 (gtl g (g.sl ag cg))) :: H, RowsA a4 5 (hrows c.hs) :: RowsA a3 5 (grows g.grs) :: RowsA a2 5 (hrows c.hs) :: RowsA a1 5 (grows g.grs) :: R, [])) (fun v9 => ?_) (fun h1111111110110000 => ?_)
 obtain ⟨a1, c1, a2, c2, a3, c3, a4, c4, b11, b13, b14⟩ := v9
 dsimp only
 unfold pl9_3_1111111110110000
 refine alc rfl zl28 rfl (fun b12 => ?_)
 refine bg (fun w hs => trivial) ?_
 exact sy_to (h1111111111110000 (a1, c1, a2, c2, a3, c3, a4, c4, b11, b12, b13, b14)) (by repeat' first | exact Sub.nil | apply Sub.cons | rfl | (simp [lk]; omega)) (fun _ h => St.sub ((((h.pull b11).pull b12).pull b13).pull b14))
 refine sy_have (β := Option Addr × Nat × Option Addr × Nat × Option Addr × Nat × Option Addr × Nat × Nat × Nat) pl9_3_1111111110100000 (fun ⟨a1, c1, a2, c2, a3, c3, a4, c4, b11, b13⟩ => ([(13, .pointer (some ⟨b13, 0, none⟩)), (11, .pointer (some ⟨b11, 0, none⟩)), (43, c.v (c.sl a4 c4)), (41, g.v (g.sl a3 c3)), (39, c.v (c.sl a2 c2)), (37, g.v (g.sl a1 c1)), (2, .int .i64 n), (3, .int .i64 k), (5, .pointer (some ⟨b5, 0, none⟩)), (6, .pointer (some ⟨b6, 0, none⟩)), (9, .pointer (some ⟨b9, 0, none⟩)), (36, g.v (g.sl ag cg)), (38, c.v (c.sl ah ch)), (40, g.v (g.sl ag cg)), (42, c.v (c.sl ah ch))], (b13, cel 59 ([.int .i64 0, .int .i64 0, .slice none 0 0])) :: (b11, cel 25 ([.int .i64 0, .int .i64 0, .slice none 0 0])) :: (b9, cel 29 (ints m)) :: (b6, cel 28 (ctl c (c.sl ah ch))) :: (b5, cel 25 (gtl g (g.sl ag cg))) :: H, RowsA a4 5 (hrows c.hs) :: RowsA a3 5 (grows g.grs) :: RowsA a2 5 (hrows c.hs) :: RowsA a1 5 (grows g.grs) :: R, [])) (fun v9 => ?_) (fun h1111111110100000 => ?_)
 obtain ⟨a1, c1, a2, c2, a3, c3, a4, c4, b11, b13⟩ := v9
 dsimp only
 unfold pl9_3_1111111110100000
 refine sy_any ?_
 refine sy_alt ?_ ?_
 refine alc rfl zl28 rfl (fun b12 => ?_)
 refine bg (fun w hs => trivial) ?_
 exact sy_to (h1111111111100000 (a1, c1, a2, c2, a3, c3, a4, c4, b11, b12, b13)) (by repeat' first | exact Sub.nil | apply Sub.cons | rfl | (simp [lk]; omega)) (fun _ h => St.sub (((h.pull b11).pull b12).pull b13))
 refine sy_alt ?_ ?_
 refine alc rfl zl63 rfl (fun b14 => ?_)
 refine bg (fun w hs => trivial) ?_
 exact sy_to (h1111111110110000 (a1, c1, a2, c2, a3, c3, a4, c4, b11, b13, b14)) (by repeat' first | exact Sub.nil | apply Sub.cons | rfl | (simp [lk]; omega)) (fun _ h => St.sub (((h.pull b11).pull b13).pull b14))
 exact sy_stop
 refine sy_have (β := Option Addr × Nat × Option Addr × Nat × Option Addr × Nat × Option Addr × Nat × Nat × Nat) pl9_3_1111111110010000 (fun ⟨a1, c1, a2, c2, a3, c3, a4, c4, b11, b14⟩ => ([(14, .pointer (some ⟨b14, 0, none⟩)), (11, .pointer (some ⟨b11, 0, none⟩)), (43, c.v (c.sl a4 c4)), (41, g.v (g.sl a3 c3)), (39, c.v (c.sl a2 c2)), (37, g.v (g.sl a1 c1)), (2, .int .i64 n), (3, .int .i64 k), (5, .pointer (some ⟨b5, 0, none⟩)), (6, .pointer (some ⟨b6, 0, none⟩)), (9, .pointer (some ⟨b9, 0, none⟩)), (36, g.v (g.sl ag cg)), (38, c.v (c.sl ah ch)), (40, g.v (g.sl ag cg)), (42, c.v (c.sl ah ch))], (b14, cel 63 ([.int .i64 0, .int .i64 0, .slice none 0 0])) :: (b11, cel 25 ([.int .i64 0, .int .i64 0, .slice none 0 0])) :: (b9, cel 29 (ints m)) :: (b6, cel 28 (ctl c (c.sl ah ch))) :: (b5, cel 25 (gtl g (g.sl ag cg))) :: H, RowsA a4 5 (hrows c.hs) :: RowsA a3 5 (grows g.grs) :: RowsA a2 5 (hrows c.hs) :: RowsA a1 5 (grows g.grs) :: R, [])) (fun v9 => ?_) (fun h1111111110010000 => ?_)
 obtain ⟨a1, c1, a2, c2, a3, c3, a4, c4, b11, b14⟩ := v9
 dsimp only
 unfold pl9_3_1111111110010000
 refine sy_any ?_
 refine sy_alt ?_ ?_
 refine alc rfl zl28 rfl (fun b12 => ?_)
 refine bg (fun w hs => trivial) ?_
 exact sy_to (h1111111111010000 (a1, c1, a2, c2, a3, c3, a4, c4, b11, b12, b14)) (by repeat' first | exact Sub.nil | apply Sub.cons | rfl | (simp [lk]; omega)) (fun _ h => St.sub (((h.pull b11).pull b12).pull b14))
 refine sy_alt ?_ ?_
 refine alc rfl zl59 rfl (fun b13 => ?_)
 refine bg (fun w hs => trivial) ?_
 exact sy_to (h1111111110110000 (a1, c1, a2, c2, a3, c3, a4, c4, b11, b13, b14)) (by repeat' first | exact Sub.nil | apply Sub.cons | rfl | (simp [lk]; omega)) (fun _ h => St.sub (((h.pull b11).pull b13).pull b14))
 exact sy_stop
 refine sy_have (β := Option Addr × Nat × Option Addr × Nat × Option Addr × Nat × Option Addr × Nat × Nat) pl9_3_1111111110000000 (fun ⟨a1, c1, a2, c2, a3, c3, a4, c4, b11⟩ => ([(11, .pointer (some ⟨b11, 0, none⟩)), (43, c.v (c.sl a4 c4)), (41, g.v (g.sl a3 c3)), (39, c.v (c.sl a2 c2)), (37, g.v (g.sl a1 c1)), (2, .int .i64 n), (3, .int .i64 k), (5, .pointer (some ⟨b5, 0, none⟩)), (6, .pointer (some ⟨b6, 0, none⟩)), (9, .pointer (some ⟨b9, 0, none⟩)), (36, g.v (g.sl ag cg)), (38, c.v (c.sl ah ch)), (40, g.v (g.sl ag cg)), (42, c.v (c.sl ah ch))], (b11, cel 25 ([.int .i64 0, .int .i64 0, .slice none 0 0])) :: (b9, cel 29 (ints m)) :: (b6, cel 28 (ctl c (c.sl ah ch))) :: (b5, cel 25 (gtl g (g.sl ag cg))) :: H, RowsA a4 5 (hrows c.hs) :: RowsA a3 5 (grows g.grs) :: RowsA a2 5 (hrows c.hs) :: RowsA a1 5 (grows g.grs) :: R, [])) (fun v9 => ?_) (fun h1111111110000000 => ?_)
 obtain ⟨a1, c1, a2, c2, a3, c3, a4, c4, b11⟩ := v9
 dsimp only
 unfold pl9_3_1111111110000000
 refine sy_any ?_
 refine sy_alt ?_ ?_
 refine alc rfl zl28 rfl (fun b12 => ?_)
 refine bg (fun w hs => trivial) ?_
 exact sy_to (h1111111111000000 (a1, c1, a2, c2, a3, c3, a4, c4, b11, b12)) (by repeat' first | exact Sub.nil | apply Sub.cons | rfl | (simp [lk]; omega)) (fun _ h => St.sub ((h.pull b11).pull b12))
 refine sy_alt ?_ ?_
 refine alc rfl zl59 rfl (fun b13 => ?_)
 refine bg (fun w hs => trivial) ?_
 exact sy_to (h1111111110100000 (a1, c1, a2, c2, a3, c3, a4, c4, b11, b13)) (by repeat' first | exact Sub.nil | apply Sub.cons | rfl | (simp [lk]; omega)) (fun _ h => St.sub ((h.pull b11).pull b13))
 refine sy_alt ?_ ?_
 refine alc rfl zl63 rfl (fun b14 => ?_)
 refine bg (fun w hs => trivial) ?_
 exact sy_to (h1111111110010000 (a1, c1, a2, c2, a3, c3, a4, c4, b11, b14)) (by repeat' first | exact Sub.nil | apply Sub.cons | rfl | (simp [lk]; omega)) (fun _ h => St.sub ((h.pull b11).pull b14))
 exact sy_stop
 refine sy_have (β := Option Addr × Nat × Option Addr × Nat × Option Addr × Nat × Option Addr × Nat × Nat × Nat × Nat) pl9_3_1111111101110000 (fun ⟨a1, c1, a2, c2, a3, c3, a4, c4, b12, b13, b14⟩ => ([(14, .pointer (some ⟨b14, 0, none⟩)), (13, .pointer (some ⟨b13, 0, none⟩)), (12, .pointer (some ⟨b12, 0, none⟩)), (43, c.v (c.sl a4 c4)), (41, g.v (g.sl a3 c3)), (39, c.v (c.sl a2 c2)), (37, g.v (g.sl a1 c1)), (2, .int .i64 n), (3, .int .i64 k), (5, .pointer (some ⟨b5, 0, none⟩)), (6, .pointer (some ⟨b6, 0, none⟩)), (9, .pointer (some ⟨b9, 0, none⟩)), (36, g.v (g.sl ag cg)), (38, c.v (c.sl ah ch)), (40, g.v (g.sl ag cg)), (42, c.v (c.sl ah ch))], (b14, cel 63 ([.int .i64 0, .int .i64 0, .slice none 0 0])) :: (b13, cel 59 ([.int .i64 0, .int .i64 0, .slice none 0 0])) :: (b12, cel 28 ([.int .i64 0, .int .i64 0, .slice none 0 0])) :: (b9, cel 29 (ints m)) :: (b6, cel 28 (ctl c (c.sl ah ch))) :: (b5, cel 25 (gtl g (g.sl ag cg))) :: H, RowsA a4 5 (hrows c.hs) :: RowsA a3 5 (grows g.grs) :: RowsA a2 5 (hrows c.hs) :: RowsA a1 5 (grows g.grs) :: R, [])) (fun v9 => ?_) (fun h1111111101110000 => ?_)
 obtain ⟨a1, c1, a2, c2, a3, c3, a4, c4, b12, b13, b14⟩ := v9
 dsimp only
 unfold pl9_3_1111111101110000
 refine alc rfl zl25 rfl (fun b11 => ?_)
 refine bg (fun w hs => trivial) ?_
 exact sy_to (h1111111111110000 (a1, c1, a2, c2, a3, c3, a4, c4, b11, b12, b13, b14)) (by repeat' first | exact Sub.nil | apply Sub.cons | rfl | (simp [lk]; omega)) (fun _ h => St.sub ((((h.pull b11).pull b12).pull b13).pull b14))
 refine sy_have (β := Option Addr × Nat × Option Addr × Nat × Option Addr × Nat × Option Addr × Nat × Nat × Nat) pl9_3_1111111101100000 (fun ⟨a1, c1, a2, c2, a3, c3, a4, c4, b12, b13⟩ => ([(13, .pointer (some ⟨b13, 0, none⟩)), (12, .pointer (some ⟨b12, 0, none⟩)), (43, c.v (c.sl a4 c4)), (41, g.v (g.sl a3 c3)), (39, c.v (c.sl a2 c2)), (37, g.v (g.sl a1 c1)), (2, .int .i64 n), (3, .int .i64 k), (5, .pointer (some ⟨b5, 0, none⟩)), (6, .pointer (some ⟨b6, 0, none⟩)), (9, .pointer (some ⟨b9, 0, none⟩)), (36, g.v (g.sl ag cg)), (38, c.v (c.sl ah ch)), (40, g.v (g.sl ag cg)), (42, c.v (c.sl ah ch))], (b13, cel 59 ([.int .i64 0, .int .i64 0, .slice none 0 0])) :: (b12, cel 28 ([.int .i64 0, .int .i64 0, .slice none 0 0])) :: (b9, cel 29 (ints m)) :: (b6, cel 28 (ctl c (c.sl ah ch))) :: (b5, cel 25 (gtl g (g.sl ag cg))) :: H, RowsA a4 5 (hrows c.hs) :: RowsA a3 5 (grows g.grs) :: RowsA a2 5 (hrows c.hs) :: RowsA a1 5 (grows g.grs) :: R, [])) (fun v9 => ?_) (fun h1111111101100000 => ?_)
 obtain ⟨a1, c1, a2, c2, a3, c3, a4, c4, b12, b13⟩ := v9
 dsimp only
 unfold pl9_3_1111111101100000
 refine sy_any ?_
 refine sy_alt ?_ ?_
 refine alc rfl zl25 rfl (fun b11 => ?_)
 refine bg (fun w hs => trivial) ?_
 exact sy_to (h1111111111100000 (a1, c1, a2, c2, a3, c3, a4, c4, b11, b12, b13)) (by repeat' first | exact Sub.nil | apply Sub.cons | rfl | (simp [lk]; omega)) (fun _ h => St.sub (((h.pull b11).pull b12).pull b13))
 refine sy_alt ?_ ?_
 refine alc rfl zl63 rfl (fun b14 => ?_)
 refine bg (fun w hs => trivial) ?_
 exact sy_to (h1111111101110000 (a1, c1, a2, c2, a3, c3, a4, c4, b12, b13, b14)) (by repeat' first | exact Sub.nil | apply Sub.cons | rfl | (simp [lk]; omega)) (fun _ h => St.sub (((h.pull b12).pull b13).pull b14))
 exact sy_stop
 refine sy_have (β := Option Addr × Nat × Option Addr × Nat × Option Addr × Nat × Option Addr × Nat × Nat × Nat) pl9_3_1111111101010000 (fun ⟨a1, c1, a2, c2, a3, c3, a4, c4, b12, b14⟩ => ([(14, .pointer (some ⟨b14, 0, none⟩)), (12, .pointer (some ⟨b12, 0, none⟩)), (43, c.v (c.sl a4 c4)), (41, g.v (g.sl a3 c3)), (39, c.v (c.sl a2 c2)), (37, g.v (g.sl a1 c1)), (2, .int .i64 n), (3, .int .i64 k), (5, .pointer (some ⟨b5, 0, none⟩)), (6, .pointer (some ⟨b6, 0, none⟩)), (9, .pointer (some ⟨b9, 0, none⟩)), (36, g.v (g.sl ag cg)), (38, c.v (c.sl ah ch)), (40, g.v (g.sl ag cg)), (42, c.v (c.sl ah ch))], (b14, cel 63 ([.int .i64 0, .int .i64 0, .slice none 0 0])) :: (b12, cel 28 ([.int .i64 0, .int .i64 0, .slice none 0 0])) :: (b9, cel 29 (ints m)) :: (b6, cel 28 (ctl c (c.sl ah ch))) :: (b5, cel 25 (gtl g (g.sl ag cg))) :: H, RowsA a4 5 (hrows c.hs) :: RowsA a3 5 (grows g.grs) :: RowsA a2 5 (hrows c.hs) :: RowsA a1 5 (grows g.grs) :: R, [])) (fun v9 => ?_) (fun h1111111101010000 => ?_)
 obtain ⟨a1, c1, a2, c2, a3, c3, a4, c4, b12, b14⟩ := v9
 dsimp only
 unfold pl9_3_1111111101010000
 refine sy_any ?_
 refine sy_alt ?_ ?_
 refine alc rfl zl25 rfl (fun b11 => ?_)
 refine bg (fun w hs => trivial) ?_
 exact sy_to (h1111111111010000 (a1, c1, a2, c2, a3, c3, a4, c4, b11, b12, b14)) (by repeat' first | exact Sub.nil | apply Sub.cons | rfl | (simp [lk]; omega)) (fun _ h => St.sub (((h.pull b11).pull b12).pull b14))
 refine sy_alt ?_ ?_
 refine alc rfl zl59 rfl (fun b13 => ?_)
 refine bg (fun w hs => trivial) ?_
 exact sy_to (h1111111101110000 (a1, c1, a2, c2, a3, c3, a4, c4, b12, b13, b14)) (by repeat' first | exact Sub.nil | apply Sub.cons | rfl | (simp [lk]; omega)) (fun _ h => St.sub (((h.pull b12).pull b13).pull b14))
 exact sy_stop
 refine sy_have (β := Option Addr × Nat × Option Addr × Nat × Option Addr × Nat × Option Addr × Nat × Nat) pl9_3_1111111101000000 (fun ⟨a1, c1, a2, c2, a3, c3, a4, c4, b12⟩ => ([(12, .pointer (some ⟨b12, 0, none⟩)), (43, c.v (c.sl a4 c4)), (41, g.v (g.sl a3 c3)), (39, c.v (c.sl a2 c2)), (37, g.v (g.sl a1 c1)), (2, .int .i64 n), (3, .int .i64 k), (5, .pointer (some ⟨b5, 0, none⟩)), (6, .pointer (some ⟨b6, 0, none⟩)), (9, .pointer (some ⟨b9, 0, none⟩)), (36, g.v (g.sl ag cg)), (38, c.v (c.sl ah ch)), (40, g.v (g.sl ag cg)), (42, c.v (c.sl ah ch))], (b12, cel 28 ([.int .i64 0, .int .i64 0, .slice none 0 0])) :: (b9, cel 29 (ints m)) :: (b6, cel 28 (ctl c (c.sl ah ch))) :: (b5, cel 25 (gtl g (g.sl ag cg))) :: H, RowsA a4 5 (hrows c.hs) :: RowsA a3 5 (grows g.grs) :: RowsA a2 5 (hrows c.hs) :: RowsA a1 5 (grows g.grs) :: R, [])) (fun v9 => ?_) (fun h1111111101000000 => ?_)
 obtain ⟨a1, c1, a2, c2, a3, c3, a4, c4, b12⟩ := v9
 dsimp only
 unfold pl9_3_1111111101000000
 refine sy_any ?_
 refine sy_alt ?_ ?_
 refine alc rfl zl25 rfl (fun b11 => ?_)
 refine bg (fun w hs => trivial) ?_
 exact sy_to (h1111111111000000 (a1, c1, a2, c2, a3, c3, a4, c4, b11, b12)) (by repeat' first | exact Sub.nil | apply Sub.cons | rfl | (simp [lk]; omega)) (fun _ h => St.sub ((h.pull b11).pull b12))
 refine sy_alt ?_ ?_
 refine alc rfl zl59 rfl (fun b13 => ?_)
 refine bg (fun w hs => trivial) ?_
 exact sy_to (h1111111101100000 (a1, c1, a2, c2, a3, c3, a4, c4, b12, b13)) (by repeat' first | exact Sub.nil | apply Sub.cons | rfl | (simp [lk]; omega)) (fun _ h => St.sub ((h.pull b12).pull b13))
 refine sy_alt ?_ ?_
 refine alc rfl zl63 rfl (fun b14 => ?_)
 refine bg (fun w hs => trivial) ?_
 exact sy_to (h1111111101010000 (a1, c1, a2, c2, a3, c3, a4, c4, b12, b14)) (by repeat' first | exact Sub.nil | apply Sub.cons | rfl | (simp [lk]; omega)) (fun _ h => St.sub ((h.pull b12).pull b14))
 exact sy_stop
 refine sy_have (β := Option Addr × Nat × Option Addr × Nat × Option Addr × Nat × Option Addr × Nat × Nat × Nat) pl9_3_1111111100110000 (fun ⟨a1, c1, a2, c2, a3, c3, a4, c4, b13, b14⟩ => ([(14, .pointer (some ⟨b14, 0, none⟩)), (13, .pointer (some ⟨b13, 0, none⟩)), (43, c.v (c.sl a4 c4)), (41, g.v (g.sl a3 c3)), (39, c.v (c.sl a2 c2)), (37, g.v (g.sl a1 c1)), (2, .int .i64 n), (3, .int .i64 k), (5, .pointer (some ⟨b5, 0, none⟩)), (6, .pointer (some ⟨b6, 0, none⟩)), (9, .pointer (some ⟨b9, 0, none⟩)), (36, g.v (g.sl ag cg)), (38, c.v (c.sl ah ch)), (40, g.v (g.sl ag cg)), (42, c.v (c.sl ah ch))], (b14, cel 63 ([.int .i64 0, .int .i64 0, .slice none 0 0])) :: (b13, cel 59 ([.int .i64 0, .int .i64 0, .slice none 0 0])) :: (b9, cel 29 (ints m)) :: (b6, cel 28 (ctl c (c.sl ah ch))) :: (b5, cel 25 (gtl g (g.sl ag cg))) :: H, RowsA a4 5 (hrows c.hs) :: RowsA a3 5 (grows g.grs) :: RowsA a2 5 (hrows c.hs) :: RowsA a1 5 (grows g.grs) :: R, [])) (fun v9 => ?_) (fun h1111111100110000 => ?_)
 obtain ⟨a1, c1, a2, c2, a3, c3, a4, c4, b13, b14⟩ := v9
 dsimp only
 unfold pl9_3_1111111100110000
 refine sy_any ?_
 refine sy_alt ?_ ?_
 refine alc rfl zl25 rfl (fun b11 => ?_)
 refine bg (fun w hs => trivial) ?_
 exact sy_to (h1111111110110000 (a1, c1, a2, c2, a3, c3, a4, c4, b11, b13, b14)) (by repeat' first | exact Sub.nil | apply Sub.cons | rfl | (simp [lk]; omega)) (fun _ h => St.sub (((h.pull b11).pull b13).pull b14))
 refine sy_alt ?_ ?_
 refine alc rfl zl28 rfl (fun b12 => ?_)
 refine bg (fun w hs => trivial) ?_
 exact sy_to (h1111111101110000 (a1, c1, a2, c2, a3, c3, a4, c4, b12, b13, b14)) (by repeat' first | exact Sub.nil | apply Sub.cons | rfl | (simp [lk]; omega)) (fun _ h => St.sub (((h.pull b12).pull b13).pull b14))
 exact sy_stop
 refine sy_have (β := Option Addr × Nat × Option Addr × Nat × Option Addr × Nat × Option Addr × Nat × Nat) pl9_3_1111111100100000 (fun ⟨a1, c1, a2, c2, a3, c3, a4, c4, b13⟩ => ([(13, .pointer (some ⟨b13, 0, none⟩)), (43, c.v (c.sl a4 c4)), (41, g.v (g.sl a3 c3)), (39, c.v (c.sl a2 c2)), (37, g.v (g.sl a1 c1)), (2, .int .i64 n), (3, .int .i64 k), (5, .pointer (some ⟨b5, 0, none⟩)), (6, .pointer (some ⟨b6, 0, none⟩)), (9, .pointer (some ⟨b9, 0, none⟩)), (36, g.v (g.sl ag cg)), (38, c.v (c.sl ah ch)), (40, g.v (g.sl ag cg)), (42, c.v (c.sl ah ch))], (b13, cel 59 ([.int .i64 0, .int .i64 0, .slice none 0 0])) :: (b9, cel 29 (ints m)) :: (b6, cel 28 (ctl c (c.sl ah ch))) :: (b5, cel 25 (gtl g (g.sl ag cg))) :: H, RowsA a4 5 (hrows c.hs) :: RowsA a3 5 (grows g.grs) :: RowsA a2 5 (hrows c.hs) :: RowsA a1 5 (grows g.grs) :: R, [])) (fun v9 => ?_) (fun h1111111100100000 => ?_)
 obtain ⟨a1, c1, a2, c2, a3, c3, a4, c4, b13⟩ := v9
 dsimp only
 unfold pl9_3_1111111100100000
 refine sy_any ?_
 refine sy_alt ?_ ?_
 refine alc rfl zl25 rfl (fun b11 => ?_)
 refine bg (fun w hs => trivial) ?_
 exact sy_to (h1111111110100000 (a1, c1, a2, c2, a3, c3, a4, c4, b11, b13)) (by repeat' first | exact Sub.nil | apply Sub.cons | rfl | (simp [lk]; omega)) (fun _ h => St.sub ((h.pull b11).pull b13))
 refine sy_alt ?_ ?_
 refine alc rfl zl28 rfl (fun b12 => ?_)
 refine bg (fun w hs => trivial) ?_
 exact sy_to (h1111111101100000 (a1, c1, a2, c2, a3, c3, a4, c4, b12, b13)) (by repeat' first | exact Sub.nil | apply Sub.cons | rfl | (simp [lk]; omega)) (fun _ h => St.sub ((h.pull b12).pull b13))
 refine sy_alt ?_ ?_
 refine alc rfl zl63 rfl (fun b14 => ?_)
 refine bg (fun w hs => trivial) ?_
 exact sy_to (h1111111100110000 (a1, c1, a2, c2, a3, c3, a4, c4, b13, b14)) (by repeat' first | exact Sub.nil | apply Sub.cons | rfl | (simp [lk]; omega)) (fun _ h => St.sub ((h.pull b13).pull b14))
 exact sy_stop
 refine sy_have (β := Option Addr × Nat × Option Addr × Nat × Option Addr × Nat × Option Addr × Nat × Nat) pl9_3_1111111100010000 (fun ⟨a1, c1, a2, c2, a3, c3, a4, c4, b14⟩ => ([(14, .pointer (some ⟨b14, 0, none⟩)), (43, c.v (c.sl a4 c4)), (41, g.v (g.sl a3 c3)), (39, c.v (c.sl a2 c2)), (37, g.v (g.sl a1 c1)), (2, .int .i64 n), (3, .int .i64 k), (5, .pointer (some ⟨b5, 0, none⟩)), (6, .pointer (some ⟨b6, 0, none⟩)), (9, .pointer (some ⟨b9, 0, none⟩)), (36, g.v (g.sl ag cg)), (38, c.v (c.sl ah ch)), (40, g.v (g.sl ag cg)), (42, c.v (c.sl ah ch))], (b14, cel 63 ([.int .i64 0, .int .i64 0, .slice none 0 0])) :: (b9, cel 29 (ints m)) :: (b6, cel 28 (ctl c (c.sl ah ch))) :: (b5, cel 25 (gtl g (g.sl ag cg))) :: H, RowsA a4 5 (hrows c.hs) :: RowsA a3 5 (grows g.grs) :: RowsA a2 5 (hrows c.hs) :: RowsA a1 5 (grows g.grs) :: R, [])) (fun v9 => ?_) (fun h1111111100010000 => ?_)
 obtain ⟨a1, c1, a2, c2, a3, c3, a4, c4, b14⟩ := v9
 dsimp only
 unfold pl9_3_1111111100010000
 refine sy_any ?_
 refine sy_alt ?_ ?_
 refine alc rfl zl25 rfl (fun b11 => ?_)
 refine bg (fun w hs => trivial) ?_
 exact sy_to (h1111111110010000 (a1, c1, a2, c2, a3, c3, a4, c4, b11, b14)) (by repeat' first | exact Sub.nil | apply Sub.cons | rfl | (simp [lk]; omega)) (fun _ h => St.sub ((h.pull b11).pull b14))
 refine sy_alt ?_ ?_
 refine alc rfl zl28 rfl (fun b12 => ?_)
 refine bg (fun w hs => trivial) ?_
 exact sy_to (h1111111101010000 (a1, c1, a2, c2, a3, c3, a4, c4, b12, b14)) (by repeat' first | exact Sub.nil | apply Sub.cons | rfl | (simp [lk]; omega)) (fun _ h => St.sub ((h.pull b12).pull b14))
 refine sy_alt ?_ ?_
 refine alc rfl zl59 rfl (fun b13 => ?_)
 refine bg (fun w hs => trivial) ?_
 exact sy_to (h1111111100110000 (a1, c1, a2, c2, a3, c3, a4, c4, b13, b14)) (by repeat' first | exact Sub.nil | apply Sub.cons | rfl | (simp [lk]; omega)) (fun _ h => St.sub ((h.pull b13).pull b14))
 exact sy_stop
 refine sy_have (β := Option Addr × Nat × Option Addr × Nat × Option Addr × Nat × Nat × Nat × Nat × Nat) pl9_3_1111111011110000 (fun ⟨a1, c1, a2, c2, a3, c3, b11, b12, b13, b14⟩ => ([(14, .pointer (some ⟨b14, 0, none⟩)), (13, .pointer (some ⟨b13, 0, none⟩)), (12, .pointer (some ⟨b12, 0, none⟩)), (11, .pointer (some ⟨b11, 0, none⟩)), (41, g.v (g.sl a3 c3)), (39, c.v (c.sl a2 c2)), (37, g.v (g.sl a1 c1)), (2, .int .i64 n), (3, .int .i64 k), (5, .pointer (some ⟨b5, 0, none⟩)), (6, .pointer (some ⟨b6, 0, none⟩)), (9, .pointer (some ⟨b9, 0, none⟩)), (36, g.v (g.sl ag cg)), (38, c.v (c.sl ah ch)), (40, g.v (g.sl ag cg)), (42, c.v (c.sl ah ch))], (b14, cel 63 ([.int .i64 0, .int .i64 0, .slice none 0 0])) :: (b13, cel 59 ([.int .i64 0, .int .i64 0, .slice none 0 0])) :: (b12, cel 28 ([.int .i64 0, .int .i64 0, .slice none 0 0])) :: (b11, cel 25 ([.int .i64 0, .int .i64 0, .slice none 0 0])) :: (b9, cel 29 (ints m)) :: (b6, cel 28 (ctl c (c.sl ah ch))) :: (b5, cel 25 (gtl g (g.sl ag cg))) :: H, RowsA a3 5 (grows g.grs) :: RowsA a2 5 (hrows c.hs) :: RowsA a1 5 (grows g.grs) :: R, [(6, Ld Try.prog 28 ⟨b6, 0, none⟩ (c.v (c.sl ah ch)))])) (fun v9 => ?_) (fun h1111111011110000 => ?_)
 obtain ⟨a1, c1, a2, c2, a3, c3, b11, b12, b13, b14⟩ := v9
 dsimp only
 unfold pl9_3_1111111011110000
 refine cl rfl cal28 rfl rfl (c_come c ah ch (by omega) _ _) ?_
 rintro _ _ R1 ⟨a4, c4, rfl, rfl, hR1⟩
 obtain rfl := hR1.symm
 clear hR1
 refine bg (fun w hs => ⟨trivial, trivial⟩) ?_
 exact sy_to (h1111111111110000 (a1, c1, a2, c2, a3, c3, a4, c4, b11, b12, b13, b14)) (by repeat' first | exact Sub.nil | apply Sub.cons | rfl | (simp [lk]; omega)) (fun _ h => St.sub ((((h.pull b11).pull b12).pull b13).pull b14))
 refine sy_have (β := Option Addr × Nat × Option Addr × Nat × Option Addr × Nat × Nat × Nat × Nat) pl9_3_1111111011100000 (fun ⟨a1, c1, a2, c2, a3, c3, b11, b12, b13⟩ => ([(13, .pointer (some ⟨b13, 0, none⟩)), (12, .pointer (some ⟨b12, 0, none⟩)), (11, .pointer (some ⟨b11, 0, none⟩)), (41, g.v (g.sl a3 c3)), (39, c.v (c.sl a2 c2)), (37, g.v (g.sl a1 c1)), (2, .int .i64 n), (3, .int .i64 k), (5, .pointer (some ⟨b5, 0, none⟩)), (6, .pointer (some ⟨b6, 0, none⟩)), (9, .pointer (some ⟨b9, 0, none⟩)), (36, g.v (g.sl ag cg)), (38, c.v (c.sl ah ch)), (40, g.v (g.sl ag cg)), (42, c.v (c.sl ah ch))], (b13, cel 59 ([.int .i64 0, .int .i64 0, .slice none 0 0])) :: (b12, cel 28 ([.int .i64 0, .int .i64 0, .slice none 0 0])) :: (b11, cel 25 ([.int .i64 0, .int .i64 0, .slice none 0 0])) :: (b9, cel 29 (ints m)) :: (b6, cel 28 (ctl c (c.sl ah ch))) :: (b5, cel 25 (gtl g (g.sl ag cg))) :: H, RowsA a3 5 (grows g.grs) :: RowsA a2 5 (hrows c.hs) :: RowsA a1 5 (grows g.grs) :: R, [(6, Ld Try.prog 28 ⟨b6, 0, none⟩ (c.v (c.sl ah ch)))])) (fun v9 => ?_) (fun h1111111011100000 => ?_)
 obtain ⟨a1, c1, a2, c2, a3, c3, b11, b12, b13⟩ := v9
 dsimp only
 unfold pl9_3_1111111011100000
 refine sy_any ?_
 refine sy_alt ?_ ?_
 refine cl rfl cal28 rfl rfl (c_come c ah ch (by omega) _ _) ?_
 rintro _ _ R1 ⟨a4, c4, rfl, rfl, hR1⟩
 obtain rfl := hR1.symm
 clear hR1
 refine bg (fun w hs => ⟨trivial, trivial⟩) ?_
 exact sy_to (h1111111111100000 (a1, c1, a2, c2, a3, c3, a4, c4, b11, b12, b13)) (by repeat' first | exact Sub.nil | apply Sub.cons | rfl | (simp [lk]; omega)) (fun _ h => St.sub (((h.pull b11).pull b12).pull b13))
 refine sy_alt ?_ ?_
 refine alc rfl zl63 rfl (fun b14 => ?_)
 refine bg (fun w hs => ⟨((lhA (ctl c (c.sl ah ch)) ag28 rfl rfl rfl)) w hs, trivial⟩) ?_
 exact sy_to (h1111111011110000 (a1, c1, a2, c2, a3, c3, b11, b12, b13, b14)) (by repeat' first | exact Sub.nil | apply Sub.cons | rfl | (simp [lk]; omega)) (fun _ h => St.sub ((((h.pull b11).pull b12).pull b13).pull b14))
 exact sy_stop
 refine sy_have (β := Option Addr × Nat × Option Addr × Nat × Option Addr × Nat × Nat × Nat × Nat) pl9_3_1111111011010000 (fun ⟨a1, c1, a2, c2, a3, c3, b11, b12, b14⟩ => ([(14, .pointer (some ⟨b14, 0, none⟩)), (12, .pointer (some ⟨b12, 0, none⟩)), (11, .pointer (some ⟨b11, 0, none⟩)), (41, g.v (g.sl a3 c3)), (39, c.v (c.sl a2 c2)), (37, g.v (g.sl a1 c1)), (2, .int .i64 n), (3, .int .i64 k), (5, .pointer (some ⟨b5, 0, none⟩)), (6, .pointer (some ⟨b6, 0, none⟩)), (9, .pointer (some ⟨b9, 0, none⟩)), (36, g.v (g.sl ag cg)), (38, c.v (c.sl ah ch)), (40, g.v (g.sl ag cg)), (42, c.v (c.sl ah ch))], (b14, cel 63 ([.int .i64 0, .int .i64 0, .slice none 0 0])) :: (b12, cel 28 ([.int .i64 0, .int .i64 0, .slice none 0 0])) :: (b11, cel 25 ([.int .i64 0, .int .i64 0, .slice none 0 0])) :: (b9, cel 29 (ints m)) :: (b6, cel 28 (ctl c (c.sl ah ch))) :: (b5, cel 25 (gtl g (g.sl ag cg))) :: H, RowsA a3 5 (grows g.grs) :: RowsA a2 5 (hrows c.hs) :: RowsA a1 5 (grows g.grs) :: R, [(6, Ld Try.prog 28 ⟨b6, 0, none⟩ (c.v (c.sl ah ch)))])) (fun v9 => ?_) (fun h1111111011010000 => ?_)
 obtain ⟨a1, c1, a2, c2, a3, c3, b11, b12, b14⟩ := v9
 dsimp only
 unfold pl9_3_1111111011010000
 refine sy_any ?_
 refine sy_alt ?_ ?_
 refine cl rfl cal28 rfl rfl (c_come c ah ch (by omega) _ _) ?_
 rintro _ _ R1 ⟨a4, c4, rfl, rfl, hR1⟩
 obtain rfl := hR1.symm
 clear hR1
 refine bg (fun w hs => ⟨trivial, trivial⟩) ?_
 exact sy_to (h1111111111010000 (a1, c1, a2, c2, a3, c3, a4, c4, b11, b12, b14)) (by repeat' first | exact Sub.nil | apply Sub.cons | rfl | (simp [lk]; omega)) (fun _ h => St.sub (((h.pull b11).pull b12).pull b14))
 refine sy_alt ?_ ?_
 refine alc rfl zl59 rfl (fun b13 => ?_)
 refine bg (fun w hs => ⟨((lhA (ctl c (c.sl ah ch)) ag28 rfl rfl rfl)) w hs, trivial⟩) ?_
 exact sy_to (h1111111011110000 (a1, c1, a2, c2, a3, c3, b11, b12, b13, b14)) (by repeat' first | exact Sub.nil | apply Sub.cons | rfl | (simp [lk]; omega)) (fun _ h => St.sub ((((h.pull b11).pull b12).pull b13).pull b14))
 exact sy_stop
 refine sy_have (β := Option Addr × Nat × Option Addr × Nat × Option Addr × Nat × Nat × Nat) pl9_3_1111111011000000 (fun ⟨a1, c1, a2, c2, a3, c3, b11, b12⟩ => ([(12, .pointer (some ⟨b12, 0, none⟩)), (11, .pointer (some ⟨b11, 0, none⟩)), (41, g.v (g.sl a3 c3)), (39, c.v (c.sl a2 c2)), (37, g.v (g.sl a1 c1)), (2, .int .i64 n), (3, .int .i64 k), (5, .pointer (some ⟨b5, 0, none⟩)), (6, .pointer (some ⟨b6, 0, none⟩)), (9, .pointer (some ⟨b9, 0, none⟩)), (36, g.v (g.sl ag cg)), (38, c.v (c.sl ah ch)), (40, g.v (g.sl ag cg)), (42, c.v (c.sl ah ch))], (b12, cel 28 ([.int .i64 0, .int .i64 0, .slice none 0 0])) :: (b11, cel 25 ([.int .i64 0, .int .i64 0, .slice none 0 0])) :: (b9, cel 29 (ints m)) :: (b6, cel 28 (ctl c (c.sl ah ch))) :: (b5, cel 25 (gtl g (g.sl ag cg))) :: H, RowsA a3 5 (grows g.grs) :: RowsA a2 5 (hrows c.hs) :: RowsA a1 5 (grows g.grs) :: R, [(6, Ld Try.prog 28 ⟨b6, 0, none⟩ (c.v (c.sl ah ch)))])) (fun v9 => ?_) (fun h1111111011000000 => ?_)
 obtain ⟨a1, c1, a2, c2, a3, c3, b11, b12⟩ := v9
 dsimp only
 unfold pl9_3_1111111011000000
 refine sy_any ?_
 refine sy_alt ?_ ?_
 refine cl rfl cal28 rfl rfl (c_come c ah ch (by omega) _ _) ?_
 rintro _ _ R1 ⟨a4, c4, rfl, rfl, hR1⟩
 obtain rfl := hR1.symm
 clear hR1
 refine bg (fun w hs => ⟨trivial, trivial⟩) ?_
 exact sy_to (h1111111111000000 (a1, c1, a2, c2, a3, c3, a4, c4, b11, b12)) (by repeat' first | exact Sub.nil | apply Sub.cons | rfl | (simp [lk]; omega)) (fun _ h => St.sub ((h.pull b11).pull b12))
 refine sy_alt ?_ ?_
 refine alc rfl zl59 rfl (fun b13 => ?_)
 refine bg (fun w hs => ⟨((lhA (ctl c (c.sl ah ch)) ag28 rfl rfl rfl)) w hs, trivial⟩) ?_
 exact sy_to (h1111111011100000 (a1, c1, a2, c2, a3, c3, b11, b12, b13)) (by repeat' first | exact Sub.nil | apply Sub.cons | rfl | (simp [lk]; omega)) (fun _ h => St.sub (((h.pull b11).pull b12).pull b13))
 refine sy_alt ?_ ?_
 refine alc rfl zl63 rfl (fun b14 => ?_)
 refine bg (fun w hs => ⟨((lhA (ctl c (c.sl ah ch)) ag28 rfl rfl rfl)) w hs, trivial⟩) ?_
 exact sy_to (h1111111011010000 (a1, c1, a2, c2, a3, c3, b11, b12, b14)) (by repeat' first | exact Sub.nil | apply Sub.cons | rfl | (simp [lk]; omega)) (fun _ h => St.sub (((h.pull b11).pull b12).pull b14))
 exact sy_stop
 refine sy_have (β := Option Addr × Nat × Option Addr × Nat × Option Addr × Nat × Nat × Nat × Nat) pl9_3_1111111010110000 (fun ⟨a1, c1, a2, c2, a3, c3, b11, b13, b14⟩ => ([(14, .pointer (some ⟨b14, 0, none⟩)), (13, .pointer (some ⟨b13, 0, none⟩)), (11, .pointer (some ⟨b11, 0, none⟩)), (41, g.v (g.sl a3 c3)), (39, c.v (c.sl a2 c2)), (37, g.v (g.sl a1 c1)), (2, .int .i64 n), (3, .int .i64 k), (5, .pointer (some ⟨b5, 0, none⟩)), (6, .pointer (some ⟨b6, 0, none⟩)), (9, .pointer (some ⟨b9, 0, none⟩)), (36, g.v (g.sl ag cg)), (38, c.v (c.sl ah ch)), (40, g.v (g.sl ag cg)), (42, c.v (c.sl ah ch))], (b14, cel 63 ([.int .i64 0, .int .i64 0, .slice none 0 0])) :: (b13, cel 59 ([.int .i64 0, .int .i64 0, .slice none 0 0])) :: (b11, cel 25 ([.int .i64 0, .int .i64 0, .slice none 0 0])) :: (b9, cel 29 (ints m)) :: (b6, cel 28 (ctl c (c.sl ah ch))) :: (b5, cel 25 (gtl g (g.sl ag cg))) :: H, RowsA a3 5 (grows g.grs) :: RowsA a2 5 (hrows c.hs) :: RowsA a1 5 (grows g.grs) :: R, [(6, Ld Try.prog 28 ⟨b6, 0, none⟩ (c.v (c.sl ah ch)))])) (fun v9 => ?_) (fun h1111111010110000 => ?_)
 obtain ⟨a1, c1, a2, c2, a3, c3, b11, b13, b14⟩ := v9
 dsimp only
 unfold pl9_3_1111111010110000
 refine sy_any ?_
 refine sy_alt ?_ ?_
 refine cl rfl cal28 rfl rfl (c_come c ah ch (by omega) _ _) ?_
 rintro _ _ R1 ⟨a4, c4, rfl, rfl, hR1⟩
 obtain rfl := hR1.symm
 clear hR1
 refine bg (fun w hs => ⟨trivial, trivial⟩) ?_
 exact sy_to (h1111111110110000 (a1, c1, a2, c2, a3, c3, a4, c4, b11, b13, b14)) (by repeat' first | exact Sub.nil | apply Sub.cons | rfl | (simp [lk]; omega)) (fun _ h => St.sub (((h.pull b11).pull b13).pull b14))
 refine sy_alt ?_ ?_
 refine alc rfl zl28 rfl (fun b12 => ?_)
 refine bg (fun w hs => ⟨((lhA (ctl c (c.sl ah ch)) ag28 rfl rfl rfl)) w hs, trivial⟩) ?_
 exact sy_to (h1111111011110000 (a1, c1, a2, c2, a3, c3, b11, b12, b13, b14)) (by repeat' first | exact Sub.nil | apply Sub.cons | rfl | (simp [lk]; omega)) (fun _ h => St.sub ((((h.pull b11).pull b12).pull b13).pull b14))
 exact sy_stop
 refine sy_have (β := Option Addr × Nat × Option Addr × Nat × Option Addr × Nat × Nat × Nat) pl9_3_1111111010100000 (fun ⟨a1, c1, a2, c2, a3, c3, b11, b13⟩ => ([(13, .pointer (some ⟨b13, 0, none⟩)), (11, .pointer (some ⟨b11, 0, none⟩)), (41, g.v (g.sl a3 c3)), (39, c.v (c.sl a2 c2)), (37, g.v (g.sl a1 c1)), (2, .int .i64 n), (3, .int .i64 k), (5, .pointer (some ⟨b5, 0, none⟩)), (6, .pointer (some ⟨b6, 0, none⟩)), (9, .pointer (some ⟨b9, 0, none⟩)), (36, g.v (g.sl ag cg)), (38, c.v (c.sl ah ch)), (40, g.v (g.sl ag cg)), (42, c.v (c.sl ah ch))], (b13, cel 59 ([.int .i64 0, .int .i64 0, .slice none 0 0])) :: (b11, cel 25 ([.int .i64 0, .int .i64 0, .slice none 0 0])) :: (b9, cel 29 (ints m)) :: (b6, cel 28 (ctl c (c.sl ah ch))) :: (b5, cel 25 (gtl g (g.sl ag cg))) :: H, RowsA a3 5 (grows g.grs) :: RowsA a2 5 (hrows c.hs) :: RowsA a1 5 (grows g.grs) :: R, [(6, Ld Try.prog 28 ⟨b6, 0, none⟩ (c.v (c.sl ah ch)))])) (fun v9 => ?_) (fun h1111111010100000 => ?_)
 obtain ⟨a1, c1, a2, c2, a3, c3, b11, b13⟩ := v9
 dsimp only
 unfold pl9_3_1111111010100000
 refine sy_any ?_
 refine sy_alt ?_ ?_
 refine cl rfl cal28 rfl rfl (c_come c ah ch (by omega) _ _) ?_
 rintro _ _ R1 ⟨a4, c4, rfl, rfl, hR1⟩
 obtain rfl := hR1.symm
 clear hR1
 refine bg (fun w hs => ⟨trivial, trivial⟩) ?_
 exact sy_to (h1111111110100000 (a1, c1, a2, c2, a3, c3, a4, c4, b11, b13)) (by repeat' first | exact Sub.nil | apply Sub.cons | rfl | (simp [lk]; omega)) (fun _ h => St.sub ((h.pull b11).pull b13))
 refine sy_alt ?_ ?_
 refine alc rfl zl28 rfl (fun b12 => ?_)
 refine bg (fun w hs => ⟨((lhA (ctl c (c.sl ah ch)) ag28 rfl rfl rfl)) w hs, trivial⟩) ?_
 exact sy_to (h1111111011100000 (a1, c1, a2, c2, a3, c3, b11, b12, b13)) (by repeat' first | exact Sub.nil | apply Sub.cons | rfl | (simp [lk]; omega)) (fun _ h => St.sub (((h.pull b11).pull b12).pull b13))
 refine sy_alt ?_ ?_
 refine alc rfl zl63 rfl (fun b14 => ?_)
 refine bg (fun w hs => ⟨((lhA (ctl c (c.sl ah ch)) ag28 rfl rfl rfl)) w hs, trivial⟩) ?_
 exact sy_to (h1111111010110000 (a1, c1, a2, c2, a3, c3, b11, b13, b14)) (by repeat' first | exact Sub.nil | apply Sub.cons | rfl | (simp [lk]; omega)) (fun _ h => St.sub (((h.pull b11).pull b13).pull b14))
 exact sy_stop
 refine sy_have (β := Option Addr × Nat × Option Addr × Nat × Option Addr × Nat × Nat × Nat) pl9_3_1111111010010000 (fun ⟨a1, c1, a2, c2, a3, c3, b11, b14⟩ => ([(14, .pointer (some ⟨b14, 0, none⟩)), (11, .pointer (some ⟨b11, 0, none⟩)), (41, g.v (g.sl a3 c3)), (39, c.v (c.sl a2 c2)), (37, g.v (g.sl a1 c1)), (2, .int .i64 n), (3, .int .i64 k), (5, .pointer (some ⟨b5, 0, none⟩)), (6, .pointer (some ⟨b6, 0, none⟩)), (9, .pointer (some ⟨b9, 0, none⟩)), (36, g.v (g.sl ag cg)), (38, c.v (c.sl ah ch)), (40, g.v (g.sl ag cg)), (42, c.v (c.sl ah ch))], (b14, cel 63 ([.int .i64 0, .int .i64 0, .slice none 0 0])) :: (b11, cel 25 ([.int .i64 0, .int .i64 0, .slice none 0 0])) :: (b9, cel 29 (ints m)) :: (b6, cel 28 (ctl c (c.sl ah ch))) :: (b5, cel 25 (gtl g (g.sl ag cg))) :: H, RowsA a3 5 (grows g.grs) :: RowsA a2 5 (hrows c.hs) :: RowsA a1 5 (grows g.grs) :: R, [(6, Ld Try.prog 28 ⟨b6, 0, none⟩ (c.v (c.sl ah ch)))])) (fun v9 => ?_) (fun h1111111010010000 => ?_)
 obtain ⟨a1, c1, a2, c2, a3, c3, b11, b14⟩ := v9
 dsimp only
 unfold pl9_3_1111111010010000
 refine sy_any ?_
 refine sy_alt ?_ ?_
 refine cl rfl cal28 rfl rfl (c_come c ah ch (by omega) _ _) ?_
 rintro _ _ R1 ⟨a4, c4, rfl, rfl, hR1⟩
 obtain rfl := hR1.symm
 clear hR1
 refine bg (fun w hs => ⟨trivial, trivial⟩) ?_
 exact sy_to (h1111111110010000 (a1, c1, a2, c2, a3, c3, a4, c4, b11, b14)) (by repeat' first | exact Sub.nil | apply Sub.cons | rfl | (simp [lk]; omega)) (fun _ h => St.sub ((h.pull b11).pull b14))
 refine sy_alt ?_ ?_
 refine alc rfl zl28 rfl (fun b12 => ?_)
 refine bg (fun w hs => ⟨((lhA (ctl c (c.sl ah ch)) ag28 rfl rfl rfl)) w hs, trivial⟩) ?_
 exact sy_to (h1111111011010000 (a1, c1, a2, c2, a3, c3, b11, b12, b14)) (by repeat' first | exact Sub.nil | apply Sub.cons | rfl | (simp [lk]; omega)) (fun _ h => St.sub (((h.pull b11).pull b12).pull b14))
 refine sy_alt ?_ ?_
 refine alc rfl zl59 rfl (fun b13 => ?_)
 refine bg (fun w hs => ⟨((lhA (ctl c (c.sl ah ch)) ag28 rfl rfl rfl)) w hs, trivial⟩) ?_
 exact sy_to (h1111111010110000 (a1, c1, a2, c2, a3, c3, b11, b13, b14)) (by repeat' first | exact Sub.nil | apply Sub.cons | rfl | (simp [lk]; omega)) (fun _ h => St.sub (((h.pull b11).pull b13).pull b14))
 exact sy_stop
 refine sy_have (β := Option Addr × Nat × Option Addr × Nat × Option Addr × Nat × Nat) pl9_3_1111111010000000 (fun ⟨a1, c1, a2, c2, a3, c3, b11⟩ => ([(11, .pointer (some ⟨b11, 0, none⟩)), (41, g.v (g.sl a3 c3)), (39, c.v (c.sl a2 c2)), (37, g.v (g.sl a1 c1)), (2, .int .i64 n), (3, .int .i64 k), (5, .pointer (some ⟨b5, 0, none⟩)), (6, .pointer (some ⟨b6, 0, none⟩)), (9, .pointer (some ⟨b9, 0, none⟩)), (36, g.v (g.sl ag cg)), (38, c.v (c.sl ah ch)), (40, g.v (g.sl ag cg)), (42, c.v (c.sl ah ch))], (b11, cel 25 ([.int .i64 0, .int .i64 0, .slice none 0 0])) :: (b9, cel 29 (ints m)) :: (b6, cel 28 (ctl c (c.sl ah ch))) :: (b5, cel 25 (gtl g (g.sl ag cg))) :: H, RowsA a3 5 (grows g.grs) :: RowsA a2 5 (hrows c.hs) :: RowsA a1 5 (grows g.grs) :: R, [(6, Ld Try.prog 28 ⟨b6, 0, none⟩ (c.v (c.sl ah ch)))])) (fun v9 => ?_) (fun h1111111010000000 => ?_)
 obtain ⟨a1, c1, a2, c2, a3, c3, b11⟩ := v9
 dsimp only
 unfold pl9_3_1111111010000000
 refine sy_any ?_
 refine sy_alt ?_ ?_
 refine cl rfl cal28 rfl rfl (c_come c ah ch (by omega) _ _) ?_
 rintro _ _ R1 ⟨a4, c4, rfl, rfl, hR1⟩
 obtain rfl := hR1.symm
 clear hR1
 refine bg (fun w hs => ⟨trivial, trivial⟩) ?_
 exact sy_to (h1111111110000000 (a1, c1, a2, c2, a3, c3, a4, c4, b11)) (by repeat' first | exact Sub.nil | apply Sub.cons | rfl | (simp [lk]; omega)) (fun _ h => St.sub (h.pull b11))
 refine sy_alt ?_ ?_
 refine alc rfl zl28 rfl (fun b12 => ?_)
 refine bg (fun w hs => ⟨((lhA (ctl c (c.sl ah ch)) ag28 rfl rfl rfl)) w hs, trivial⟩) ?_
 exact sy_to (h1111111011000000 (a1, c1, a2, c2, a3, c3, b11, b12)) (by repeat' first | exact Sub.nil | apply Sub.cons | rfl | (simp [lk]; omega)) (fun _ h => St.sub ((h.pull b11).pull b12))
 refine sy_alt ?_ ?_
 refine alc rfl zl59 rfl (fun b13 => ?_)
 refine bg (fun w hs => ⟨((lhA (ctl c (c.sl ah ch)) ag28 rfl rfl rfl)) w hs, trivial⟩) ?_
 exact sy_to (h1111111010100000 (a1, c1, a2, c2, a3, c3, b11, b13)) (by repeat' first | exact Sub.nil | apply Sub.cons | rfl | (simp [lk]; omega)) (fun _ h => St.sub ((h.pull b11).pull b13))
 refine sy_alt ?_ ?_
 refine alc rfl zl63 rfl (fun b14 => ?_)
 refine bg (fun w hs => ⟨((lhA (ctl c (c.sl ah ch)) ag28 rfl rfl rfl)) w hs, trivial⟩) ?_
 exact sy_to (h1111111010010000 (a1, c1, a2, c2, a3, c3, b11, b14)) (by repeat' first | exact Sub.nil | apply Sub.cons | rfl | (simp [lk]; omega)) (fun _ h => St.sub ((h.pull b11).pull b14))
 exact sy_stop
 refine sy_have (β := Option Addr × Nat × Option Addr × Nat × Option Addr × Nat × Nat × Nat × Nat) pl9_3_1111111001110000 (fun ⟨a1, c1, a2, c2, a3, c3, b12, b13, b14⟩ => ([(14, .pointer (some ⟨b14, 0, none⟩)), (13, .pointer (some ⟨b13, 0, none⟩)), (12, .pointer (some ⟨b12, 0, none⟩)), (41, g.v (g.sl a3 c3)), (39, c.v (c.sl a2 c2)), (37, g.v (g.sl a1 c1)), (2, .int .i64 n), (3, .int .i64 k), (5, .pointer (some ⟨b5, 0, none⟩)), (6, .pointer (some ⟨b6, 0, none⟩)), (9, .pointer (some ⟨b9, 0, none⟩)), (36, g.v (g.sl ag cg)), (38, c.v (c.sl ah ch)), (40, g.v (g.sl ag cg)), (42, c.v (c.sl ah ch))], (b14, cel 63 ([.int .i64 0, .int .i64 0, .slice none 0 0])) :: (b13, cel 59 ([.int .i64 0, .int .i64 0, .slice none 0 0])) :: (b12, cel 28 ([.int .i64 0, .int .i64 0, .slice none 0 0])) :: (b9, cel 29 (ints m)) :: (b6, cel 28 (ctl c (c.sl ah ch))) :: (b5, cel 25 (gtl g (g.sl ag cg))) :: H, RowsA a3 5 (grows g.grs) :: RowsA a2 5 (hrows c.hs) :: RowsA a1 5 (grows g.grs) :: R, [(6, Ld Try.prog 28 ⟨b6, 0, none⟩ (c.v (c.sl ah ch)))])) (fun v9 => ?_) (fun h1111111001110000 => ?_)
 obtain ⟨a1, c1, a2, c2, a3, c3, b12, b13, b14⟩ := v9
 dsimp only
 unfold pl9_3_1111111001110000
 refine sy_any ?_
 refine sy_alt ?_ ?_
 refine cl rfl cal28 rfl rfl (c_come c ah ch (by omega) _ _) ?_
 rintro _ _ R1 ⟨a4, c4, rfl, rfl, hR1⟩
 obtain rfl := hR1.symm
 clear hR1
 refine bg (fun w hs => ⟨trivial, trivial⟩) ?_
 exact sy_to (h1111111101110000 (a1, c1, a2, c2, a3, c3, a4, c4, b12, b13, b14)) (by repeat' first | exact Sub.nil | apply Sub.cons | rfl | (simp [lk]; omega)) (fun _ h => St.sub (((h.pull b12).pull b13).pull b14))
 refine sy_alt ?_ ?_
 refine alc rfl zl25 rfl (fun b11 => ?_)
 refine bg (fun w hs => ⟨((lhA (ctl c (c.sl ah ch)) ag28 rfl rfl rfl)) w hs, trivial⟩) ?_
 exact sy_to (h1111111011110000 (a1, c1, a2, c2, a3, c3, b11, b12, b13, b14)) (by repeat' first | exact Sub.nil | apply Sub.cons | rfl | (simp [lk]; omega)) (fun _ h => St.sub ((((h.pull b11).pull b12).pull b13).pull b14))
 exact sy_stop
 refine sy_have (β := Option Addr × Nat × Option Addr × Nat × Option Addr × Nat × Nat × Nat) pl9_3_1111111001100000 (fun ⟨a1, c1, a2, c2, a3, c3, b12, b13⟩ => ([(13, .pointer (some ⟨b13, 0, none⟩)), (12, .pointer (some ⟨b12, 0, none⟩)), (41, g.v (g.sl a3 c3)), (39, c.v (c.sl a2 c2)), (37, g.v (g.sl a1 c1)), (2, .int .i64 n), (3, .int .i64 k), (5, .pointer (some ⟨b5, 0, none⟩)), (6, .pointer (some ⟨b6, 0, none⟩)), (9, .pointer (some ⟨b9, 0, none⟩)), (36, g.v (g.sl ag cg)), (38, c.v (c.sl ah ch)), (40, g.v (g.sl ag cg)), (42, c.v (c.sl ah ch))], (b13, cel 59 ([.int .i64 0, .int .i64 0, .slice none 0 0])) :: (b12, cel 28 ([.int .i64 0, .int .i64 0, .slice none 0 0])) :: (b9, cel 29 (ints m)) :: (b6, cel 28 (ctl c (c.sl ah ch))) :: (b5, cel 25 (gtl g (g.sl ag cg))) :: H, RowsA a3 5 (grows g.grs) :: RowsA a2 5 (hrows c.hs) :: RowsA a1 5 (grows g.grs) :: R, [(6, Ld Try.prog 28 ⟨b6, 0, none⟩ (c.v (c.sl ah ch)))])) (fun v9 => ?_) (fun h1111111001100000 => ?_)
 obtain ⟨a1, c1, a2, c2, a3, c3, b12, b13⟩ := v9
 dsimp only
 unfold pl9_3_1111111001100000
 refine sy_any ?_
 refine sy_alt ?_ ?_
 refine cl rfl cal28 rfl rfl (c_come c ah ch (by omega) _ _) ?_
 rintro _ _ R1 ⟨a4, c4, rfl, rfl, hR1⟩
 obtain rfl := hR1.symm
 clear hR1
 refine bg (fun w hs => ⟨trivial, trivial⟩) ?_
 exact sy_to (h1111111101100000 (a1, c1, a2, c2, a3, c3, a4, c4, b12, b13)) (by repeat' first | exact Sub.nil | apply Sub.cons | rfl | (simp [lk]; omega)) (fun _ h => St.sub ((h.pull b12).pull b13))
 refine sy_alt ?_ ?_
 refine alc rfl zl25 rfl (fun b11 => ?_)
 refine bg (fun w hs => ⟨((lhA (ctl c (c.sl ah ch)) ag28 rfl rfl rfl)) w hs, trivial⟩) ?_
 exact sy_to (h1111111011100000 (a1, c1, a2, c2, a3, c3, b11, b12, b13)) (by repeat' first | exact Sub.nil | apply Sub.cons | rfl | (simp [lk]; omega)) (fun _ h => St.sub (((h.pull b11).pull b12).pull b13))
 refine sy_alt ?_ ?_
 refine alc rfl zl63 rfl (fun b14 => ?_)
 refine bg (fun w hs => ⟨((lhA (ctl c (c.sl ah ch)) ag28 rfl rfl rfl)) w hs, trivial⟩) ?_
 exact sy_to (h1111111001110000 (a1, c1, a2, c2, a3, c3, b12, b13, b14)) (by repeat' first | exact Sub.nil | apply Sub.cons | rfl | (simp [lk]; omega)) (fun _ h => St.sub (((h.pull b12).pull b13).pull b14))
 exact sy_stop
 refine sy_have (β := Option Addr × Nat × Option Addr × Nat × Option Addr × Nat × Nat × Nat) pl9_3_1111111001010000 (fun ⟨a1, c1, a2, c2, a3, c3, b12, b14⟩ => ([(14, .pointer (some ⟨b14, 0, none⟩)), (12, .pointer (some ⟨b12, 0, none⟩)), (41, g.v (g.sl a3 c3)), (39, c.v (c.sl a2 c2)), (37, g.v (g.sl a1 c1)), (2, .int .i64 n), (3, .int .i64 k), (5, .pointer (some ⟨b5, 0, none⟩)), (6, .pointer (some ⟨b6, 0, none⟩)), (9, .pointer (some ⟨b9, 0, none⟩)), (36, g.v (g.sl ag cg)), (38, c.v (c.sl ah ch)), (40, g.v (g.sl ag cg)), (42, c.v (c.sl ah ch))], (b14, cel 63 ([.int .i64 0, .int .i64 0, .slice none 0 0])) :: (b12, cel 28 ([.int .i64 0, .int .i64 0, .slice none 0 0])) :: (b9, cel 29 (ints m)) :: (b6, cel 28 (ctl c (c.sl ah ch))) :: (b5, cel 25 (gtl g (g.sl ag cg))) :: H, RowsA a3 5 (grows g.grs) :: RowsA a2 5 (hrows c.hs) :: RowsA a1 5 (grows g.grs) :: R, [(6, Ld Try.prog 28 ⟨b6, 0, none⟩ (c.v (c.sl ah ch)))])) (fun v9 => ?_) (fun h1111111001010000 => ?_)
 obtain ⟨a1, c1, a2, c2, a3, c3, b12, b14⟩ := v9
 dsimp only
 unfold pl9_3_1111111001010000
 refine sy_any ?_
 refine sy_alt ?_ ?_
 refine cl rfl cal28 rfl rfl (c_come c ah ch (by omega) _ _) ?_
 rintro _ _ R1 ⟨a4, c4, rfl, rfl, hR1⟩
 obtain rfl := hR1.symm
 clear hR1
 refine bg (fun w hs => ⟨trivial, trivial⟩) ?_
 exact sy_to (h1111111101010000 (a1, c1, a2, c2, a3, c3, a4, c4, b12, b14)) (by repeat' first | exact Sub.nil | apply Sub.cons | rfl | (simp [lk]; omega)) (fun _ h => St.sub ((h.pull b12).pull b14))
 refine sy_alt ?_ ?_
 refine alc rfl zl25 rfl (fun b11 => ?_)
 refine bg (fun w hs => ⟨((lhA (ctl c (c.sl ah ch)) ag28 rfl rfl rfl)) w hs, trivial⟩) ?_
 exact sy_to (h1111111011010000 (a1, c1, a2, c2, a3, c3, b11, b12, b14)) (by repeat' first | exact Sub.nil | apply Sub.cons | rfl | (simp [lk]; omega)) (fun _ h => St.sub (((h.pull b11).pull b12).pull b14))
 refine sy_alt ?_ ?_
 refine alc rfl zl59 rfl (fun b13 => ?_)
 refine bg (fun w hs => ⟨((lhA (ctl c (c.sl ah ch)) ag28 rfl rfl rfl)) w hs, trivial⟩) ?_
 exact sy_to (h1111111001110000 (a1, c1, a2, c2, a3, c3, b12, b13, b14)) (by repeat' first | exact Sub.nil | apply Sub.cons | rfl | (simp [lk]; omega)) (fun _ h => St.sub (((h.pull b12).pull b13).pull b14))
 exact sy_stop
 refine sy_have (β := Option Addr × Nat × Option Addr × Nat × Option Addr × Nat × Nat) pl9_3_1111111001000000 (fun ⟨a1, c1, a2, c2, a3, c3, b12⟩ => ([(12, .pointer (some ⟨b12, 0, none⟩)), (41, g.v (g.sl a3 c3)), (39, c.v (c.sl a2 c2)), (37, g.v (g.sl a1 c1)), (2, .int .i64 n), (3, .int .i64 k), (5, .pointer (some ⟨b5, 0, none⟩)), (6, .pointer (some ⟨b6, 0, none⟩)), (9, .pointer (some ⟨b9, 0, none⟩)), (36, g.v (g.sl ag cg)), (38, c.v (c.sl ah ch)), (40, g.v (g.sl ag cg)), (42, c.v (c.sl ah ch))], (b12, cel 28 ([.int .i64 0, .int .i64 0, .slice none 0 0])) :: (b9, cel 29 (ints m)) :: (b6, cel 28 (ctl c (c.sl ah ch))) :: (b5, cel 25 (gtl g (g.sl ag cg))) :: H, RowsA a3 5 (grows g.grs) :: RowsA a2 5 (hrows c.hs) :: RowsA a1 5 (grows g.grs) :: R, [(6, Ld Try.prog 28 ⟨b6, 0, none⟩ (c.v (c.sl ah ch)))])) (fun v9 => ?_) (fun h1111111001000000 => ?_)
 obtain ⟨a1, c1, a2, c2, a3, c3, b12⟩ := v9
 dsimp only
 unfold pl9_3_1111111001000000
 refine sy_any ?_
 refine sy_alt ?_ ?_
 refine cl rfl cal28 rfl rfl (c_come c ah ch (by omega) _ _) ?_
 rintro _ _ R1 ⟨a4, c4, rfl, rfl, hR1⟩
 obtain rfl := hR1.symm
 clear hR1
 refine bg (fun w hs => ⟨trivial, trivial⟩) ?_
 exact sy_to (h1111111101000000 (a1, c1, a2, c2, a3, c3, a4, c4, b12)) (by repeat' first | exact Sub.nil | apply Sub.cons | rfl | (simp [lk]; omega)) (fun _ h => St.sub (h.pull b12))
 refine sy_alt ?_ ?_
 refine alc rfl zl25 rfl (fun b11 => ?_)
 refine bg (fun w hs => ⟨((lhA (ctl c (c.sl ah ch)) ag28 rfl rfl rfl)) w hs, trivial⟩) ?_
 exact sy_to (h1111111011000000 (a1, c1, a2, c2, a3, c3, b11, b12)) (by repeat' first | exact Sub.nil | apply Sub.cons | rfl | (simp [lk]; omega)) (fun _ h => St.sub ((h.pull b11).pull b12))
 refine sy_alt ?_ ?_
 refine alc rfl zl59 rfl (fun b13 => ?_)
 refine bg (fun w hs => ⟨((lhA (ctl c (c.sl ah ch)) ag28 rfl rfl rfl)) w hs, trivial⟩) ?_
 exact sy_to (h1111111001100000 (a1, c1, a2, c2, a3, c3, b12, b13)) (by repeat' first | exact Sub.nil | apply Sub.cons | rfl | (simp [lk]; omega)) (fun _ h => St.sub ((h.pull b12).pull b13))
 refine sy_alt ?_ ?_
 refine alc rfl zl63 rfl (fun b14 => ?_)
 refine bg (fun w hs => ⟨((lhA (ctl c (c.sl ah ch)) ag28 rfl rfl rfl)) w hs, trivial⟩) ?_
 exact sy_to (h1111111001010000 (a1, c1, a2, c2, a3, c3, b12, b14)) (by repeat' first | exact Sub.nil | apply Sub.cons | rfl | (simp [lk]; omega)) (fun _ h => St.sub ((h.pull b12).pull b14))
 exact sy_stop
 refine sy_have (β := Option Addr × Nat × Option Addr × Nat × Option Addr × Nat × Nat × Nat) pl9_3_1111111000110000 (fun ⟨a1, c1, a2, c2, a3, c3, b13, b14⟩ => ([(14, .pointer (some ⟨b14, 0, none⟩)), (13, .pointer (some ⟨b13, 0, none⟩)), (41, g.v (g.sl a3 c3)), (39, c.v (c.sl a2 c2)), (37, g.v (g.sl a1 c1)), (2, .int .i64 n), (3, .int .i64 k), (5, .pointer (some ⟨b5, 0, none⟩)), (6, .pointer (some ⟨b6, 0, none⟩)), (9, .pointer (some ⟨b9, 0, none⟩)), (36, g.v (g.sl ag cg)), (38, c.v (c.sl ah ch)), (40, g.v (g.sl ag cg)), (42, c.v (c.sl ah ch))], (b14, cel 63 ([.int .i64 0, .int .i64 0, .slice none 0 0])) :: (b13, cel 59 ([.int .i64 0, .int .i64 0, .slice none 0 0])) :: (b9, cel 29 (ints m)) :: (b6, cel 28 (ctl c (c.sl ah ch))) :: (b5, cel 25 (gtl g (g.sl ag cg))) :: H, RowsA a3 5 (grows g.grs) :: RowsA a2 5 (hrows c.hs) :: RowsA a1 5 (grows g.grs) :: R, [(6, Ld Try.prog 28 ⟨b6, 0, none⟩ (c.v (c.sl ah ch)))])) (fun v9 => ?_) (fun h1111111000110000 => ?_)
 obtain ⟨a1, c1, a2, c2, a3, c3, b13, b14⟩ := v9
 dsimp only
 unfold pl9_3_1111111000110000
 refine sy_any ?_
 refine sy_alt ?_ ?_
 refine cl rfl cal28 rfl rfl (c_come c ah ch (by omega) _ _) ?_
 rintro _ _ R1 ⟨a4, c4, rfl, rfl, hR1⟩
 obtain rfl := hR1.symm
 clear hR1
 refine bg (fun w hs => ⟨trivial, trivial⟩) ?_
 exact sy_to (h1111111100110000 (a1, c1, a2, c2, a3, c3, a4, c4, b13, b14)) (by repeat' first | exact Sub.nil | apply Sub.cons | rfl | (simp [lk]; omega)) (fun _ h => St.sub ((h.pull b13).pull b14))
 refine sy_alt ?_ ?_
 refine alc rfl zl25 rfl (fun b11 => ?_)
 refine bg (fun w hs => ⟨((lhA (ctl c (c.sl ah ch)) ag28 rfl rfl rfl)) w hs, trivial⟩) ?_
 exact sy_to (h1111111010110000 (a1, c1, a2, c2, a3, c3, b11, b13, b14)) (by repeat' first | exact Sub.nil | apply Sub.cons | rfl | (simp [lk]; omega)) (fun _ h => St.sub (((h.pull b11).pull b13).pull b14))
 refine sy_alt ?_ ?_
 refine alc rfl zl28 rfl (fun b12 => ?_)
 refine bg (fun w hs => ⟨((lhA (ctl c (c.sl ah ch)) ag28 rfl rfl rfl)) w hs, trivial⟩) ?_
 exact sy_to (h1111111001110000 (a1, c1, a2, c2, a3, c3, b12, b13, b14)) (by repeat' first | exact Sub.nil | apply Sub.cons | rfl | (simp [lk]; omega)) (fun _ h => St.sub (((h.pull b12).pull b13).pull b14))
 exact sy_stop
 refine sy_have (β := Option Addr × Nat × Option Addr × Nat × Option Addr × Nat × Nat) pl9_3_1111111000100000 (fun ⟨a1, c1, a2, c2, a3, c3, b13⟩ => ([(13, .pointer (some ⟨b13, 0, none⟩)), (41, g.v (g.sl a3 c3)), (39, c.v (c.sl a2 c2)), (37, g.v (g.sl a1 c1)), (2, .int .i64 n), (3, .int .i64 k), (5, .pointer (some ⟨b5, 0, none⟩)), (6, .pointer (some ⟨b6, 0, none⟩)), (9, .pointer (some ⟨b9, 0, none⟩)), (36, g.v (g.sl ag cg)), (38, c.v (c.sl ah ch)), (40, g.v (g.sl ag cg)), (42, c.v (c.sl ah ch))], (b13, cel 59 ([.int .i64 0, .int .i64 0, .slice none 0 0])) :: (b9, cel 29 (ints m)) :: (b6, cel 28 (ctl c (c.sl ah ch))) :: (b5, cel 25 (gtl g (g.sl ag cg))) :: H, RowsA a3 5 (grows g.grs) :: RowsA a2 5 (hrows c.hs) :: RowsA a1 5 (grows g.grs) :: R, [(6, Ld Try.prog 28 ⟨b6, 0, none⟩ (c.v (c.sl ah ch)))])) (fun v9 => ?_) (fun h1111111000100000 => ?_)
 obtain ⟨a1, c1, a2, c2, a3, c3, b13⟩ := v9
 dsimp only
 unfold pl9_3_1111111000100000
 refine sy_any ?_
 refine sy_alt ?_ ?_
 refine cl rfl cal28 rfl rfl (c_come c ah ch (by omega) _ _) ?_
 rintro _ _ R1 ⟨a4, c4, rfl, rfl, hR1⟩
 obtain rfl := hR1.symm
 clear hR1
 refine bg (fun w hs => ⟨trivial, trivial⟩) ?_
 exact sy_to (h1111111100100000 (a1, c1, a2, c2, a3, c3, a4, c4, b13)) (by repeat' first | exact Sub.nil | apply Sub.cons | rfl | (simp [lk]; omega)) (fun _ h => St.sub (h.pull b13))
 refine sy_alt ?_ ?_
 refine alc rfl zl25 rfl (fun b11 => ?_)
 refine bg (fun w hs => ⟨((lhA (ctl c (c.sl ah ch)) ag28 rfl rfl rfl)) w hs, trivial⟩) ?_
 exact sy_to (h1111111010100000 (a1, c1, a2, c2, a3, c3, b11, b13)) (by repeat' first | exact Sub.nil | apply Sub.cons | rfl | (simp [lk]; omega)) (fun _ h => St.sub ((h.pull b11).pull b13))
 refine sy_alt ?_ ?_
 refine alc rfl zl28 rfl (fun b12 => ?_)
 refine bg (fun w hs => ⟨((lhA (ctl c (c.sl ah ch)) ag28 rfl rfl rfl)) w hs, trivial⟩) ?_
 exact sy_to (h1111111001100000 (a1, c1, a2, c2, a3, c3, b12, b13)) (by repeat' first | exact Sub.nil | apply Sub.cons | rfl | (simp [lk]; omega)) (fun _ h => St.sub ((h.pull b12).pull b13))
 refine sy_alt ?_ ?_
 refine alc rfl zl63 rfl (fun b14 => ?_)
 refine bg (fun w hs => ⟨((lhA (ctl c (c.sl ah ch)) ag28 rfl rfl rfl)) w hs, trivial⟩) ?_
 exact sy_to (h1111111000110000 (a1, c1, a2, c2, a3, c3, b13, b14)) (by repeat' first | exact Sub.nil | apply Sub.cons | rfl | (simp [lk]; omega)) (fun _ h => St.sub ((h.pull b13).pull b14))
 exact sy_stop
 refine sy_have (β := Option Addr × Nat × Option Addr × Nat × Option Addr × Nat × Nat) pl9_3_1111111000010000 (fun ⟨a1, c1, a2, c2, a3, c3, b14⟩ => ([(14, .pointer (some ⟨b14, 0, none⟩)), (41, g.v (g.sl a3 c3)), (39, c.v (c.sl a2 c2)), (37, g.v (g.sl a1 c1)), (2, .int .i64 n), (3, .int .i64 k), (5, .pointer (some ⟨b5, 0, none⟩)), (6, .pointer (some ⟨b6, 0, none⟩)), (9, .pointer (some ⟨b9, 0, none⟩)), (36, g.v (g.sl ag cg)), (38, c.v (c.sl ah ch)), (40, g.v (g.sl ag cg)), (42, c.v (c.sl ah ch))], (b14, cel 63 ([.int .i64 0, .int .i64 0, .slice none 0 0])) :: (b9, cel 29 (ints m)) :: (b6, cel 28 (ctl c (c.sl ah ch))) :: (b5, cel 25 (gtl g (g.sl ag cg))) :: H, RowsA a3 5 (grows g.grs) :: RowsA a2 5 (hrows c.hs) :: RowsA a1 5 (grows g.grs) :: R, [(6, Ld Try.prog 28 ⟨b6, 0, none⟩ (c.v (c.sl ah ch)))])) (fun v9 => ?_) (fun h1111111000010000 => ?_)
 obtain ⟨a1, c1, a2, c2, a3, c3, b14⟩ := v9
 dsimp only
 unfold pl9_3_1111111000010000
 refine sy_any ?_
 refine sy_alt ?_ ?_
 refine cl rfl cal28 rfl rfl (c_come c ah ch (by omega) _ _) ?_
 rintro _ _ R1 ⟨a4, c4, rfl, rfl, hR1⟩
 obtain rfl := hR1.symm
 clear hR1
 refine bg (fun w hs => ⟨trivial, trivial⟩) ?_
 exact sy_to (h1111111100010000 (a1, c1, a2, c2, a3, c3, a4, c4, b14)) (by repeat' first | exact Sub.nil | apply Sub.cons | rfl | (simp [lk]; omega)) (fun _ h => St.sub (h.pull b14))
 refine sy_alt ?_ ?_
 refine alc rfl zl25 rfl (fun b11 => ?_)
 refine bg (fun w hs => ⟨((lhA (ctl c (c.sl ah ch)) ag28 rfl rfl rfl)) w hs, trivial⟩) ?_
 exact sy_to (h1111111010010000 (a1, c1, a2, c2, a3, c3, b11, b14)) (by repeat' first | exact Sub.nil | apply Sub.cons | rfl | (simp [lk]; omega)) (fun _ h => St.sub ((h.pull b11).pull b14))
 refine sy_alt ?_ ?_
 refine alc rfl zl28 rfl (fun b12 => ?_)
 refine bg (fun w hs => ⟨((lhA (ctl c (c.sl ah ch)) ag28 rfl rfl rfl)) w hs, trivial⟩) ?_
 exact sy_to (h1111111001010000 (a1, c1, a2, c2, a3, c3, b12, b14)) (by repeat' first | exact Sub.nil | apply Sub.cons | rfl | (simp [lk]; omega)) (fun _ h => St.sub ((h.pull b12).pull b14))
 refine sy_alt ?_ ?_
 refine alc rfl zl59 rfl (fun b13 => ?_)
 refine bg (fun w hs => ⟨((lhA (ctl c (c.sl ah ch)) ag28 rfl rfl rfl)) w hs, trivial⟩) ?_
 exact sy_to (h1111111000110000 (a1, c1, a2, c2, a3, c3, b13, b14)) (by repeat' first | exact Sub.nil | apply Sub.cons | rfl | (simp [lk]; omega)) (fun _ h => St.sub ((h.pull b13).pull b14))
 exact sy_stop
 refine sy_have (β := Option Addr × Nat × Option Addr × Nat × Nat × Nat × Nat × Nat) pl9_3_1111101011110000 (fun ⟨a1, c1, a2, c2, b11, b12, b13, b14⟩ => ([(14, .pointer (some ⟨b14, 0, none⟩)), (13, .pointer (some ⟨b13, 0, none⟩)), (12, .pointer (some ⟨b12, 0, none⟩)), (11, .pointer (some ⟨b11, 0, none⟩)), (39, c.v (c.sl a2 c2)), (37, g.v (g.sl a1 c1)), (2, .int .i64 n), (3, .int .i64 k), (5, .pointer (some ⟨b5, 0, none⟩)), (6, .pointer (some ⟨b6, 0, none⟩)), (9, .pointer (some ⟨b9, 0, none⟩)), (36, g.v (g.sl ag cg)), (38, c.v (c.sl ah ch)), (40, g.v (g.sl ag cg)), (42, c.v (c.sl ah ch))], (b14, cel 63 ([.int .i64 0, .int .i64 0, .slice none 0 0])) :: (b13, cel 59 ([.int .i64 0, .int .i64 0, .slice none 0 0])) :: (b12, cel 28 ([.int .i64 0, .int .i64 0, .slice none 0 0])) :: (b11, cel 25 ([.int .i64 0, .int .i64 0, .slice none 0 0])) :: (b9, cel 29 (ints m)) :: (b6, cel 28 (ctl c (c.sl ah ch))) :: (b5, cel 25 (gtl g (g.sl ag cg))) :: H, RowsA a2 5 (hrows c.hs) :: RowsA a1 5 (grows g.grs) :: R, [(6, Ld Try.prog 28 ⟨b6, 0, none⟩ (c.v (c.sl ah ch))), (4, Ld Try.prog 25 ⟨b5, 0, none⟩ (g.v (g.sl ag cg)))])) (fun v9 => ?_) (fun h1111101011110000 => ?_)
 obtain ⟨a1, c1, a2, c2, b11, b12, b13, b14⟩ := v9
 dsimp only
 unfold pl9_3_1111101011110000
 refine cl rfl cal27 rfl rfl (c_theirs g ag cg (by omega) _ _) ?_
 rintro _ _ R1 ⟨a3, c3, rfl, rfl, hR1⟩
 obtain rfl := hR1.symm
 clear hR1
 refine bg (fun w hs => ⟨((lhA (ctl c (c.sl ah ch)) ag28 rfl rfl rfl)) w hs, trivial, trivial⟩) ?_
 exact sy_to (h1111111011110000 (a1, c1, a2, c2, a3, c3, b11, b12, b13, b14)) (by repeat' first | exact Sub.nil | apply Sub.cons | rfl | (simp [lk]; omega)) (fun _ h => St.sub ((((h.pull b11).pull b12).pull b13).pull b14))
 refine sy_have (β := Option Addr × Nat × Option Addr × Nat × Nat × Nat × Nat) pl9_3_1111101011100000 (fun ⟨a1, c1, a2, c2, b11, b12, b13⟩ => ([(13, .pointer (some ⟨b13, 0, none⟩)), (12, .pointer (some ⟨b12, 0, none⟩)), (11, .pointer (some ⟨b11, 0, none⟩)), (39, c.v (c.sl a2 c2)), (37, g.v (g.sl a1 c1)), (2, .int .i64 n), (3, .int .i64 k), (5, .pointer (some ⟨b5, 0, none⟩)), (6, .pointer (some ⟨b6, 0, none⟩)), (9, .pointer (some ⟨b9, 0, none⟩)), (36, g.v (g.sl ag cg)), (38, c.v (c.sl ah ch)), (40, g.v (g.sl ag cg)), (42, c.v (c.sl ah ch))], (b13, cel 59 ([.int .i64 0, .int .i64 0, .slice none 0 0])) :: (b12, cel 28 ([.int .i64 0, .int .i64 0, .slice none 0 0])) :: (b11, cel 25 ([.int .i64 0, .int .i64 0, .slice none 0 0])) :: (b9, cel 29 (ints m)) :: (b6, cel 28 (ctl c (c.sl ah ch))) :: (b5, cel 25 (gtl g (g.sl ag cg))) :: H, RowsA a2 5 (hrows c.hs) :: RowsA a1 5 (grows g.grs) :: R, [(6, Ld Try.prog 28 ⟨b6, 0, none⟩ (c.v (c.sl ah ch))), (4, Ld Try.prog 25 ⟨b5, 0, none⟩ (g.v (g.sl ag cg)))])) (fun v9 => ?_) (fun h1111101011100000 => ?_)
 obtain ⟨a1, c1, a2, c2, b11, b12, b13⟩ := v9
 dsimp only
 unfold pl9_3_1111101011100000
 refine sy_any ?_
 refine sy_alt ?_ ?_
 refine cl rfl cal27 rfl rfl (c_theirs g ag cg (by omega) _ _) ?_
 rintro _ _ R1 ⟨a3, c3, rfl, rfl, hR1⟩
 obtain rfl := hR1.symm
 clear hR1
 refine bg (fun w hs => ⟨((lhA (ctl c (c.sl ah ch)) ag28 rfl rfl rfl)) w hs, trivial, trivial⟩) ?_
 exact sy_to (h1111111011100000 (a1, c1, a2, c2, a3, c3, b11, b12, b13)) (by repeat' first | exact Sub.nil | apply Sub.cons | rfl | (simp [lk]; omega)) (fun _ h => St.sub (((h.pull b11).pull b12).pull b13))
 refine sy_alt ?_ ?_
 refine alc rfl zl63 rfl (fun b14 => ?_)
 refine bg (fun w hs => ⟨((lhA (ctl c (c.sl ah ch)) ag28 rfl rfl rfl)) w hs, ((lhA (gtl g (g.sl ag cg)) ag25 rfl rfl rfl)) w hs, trivial⟩) ?_
 exact sy_to (h1111101011110000 (a1, c1, a2, c2, b11, b12, b13, b14)) (by repeat' first | exact Sub.nil | apply Sub.cons | rfl | (simp [lk]; omega)) (fun _ h => St.sub ((((h.pull b11).pull b12).pull b13).pull b14))
 exact sy_stop
 refine sy_have (β := Option Addr × Nat × Option Addr × Nat × Nat × Nat × Nat) pl9_3_1111101011010000 (fun ⟨a1, c1, a2, c2, b11, b12, b14⟩ => ([(14, .pointer (some ⟨b14, 0, none⟩)), (12, .pointer (some ⟨b12, 0, none⟩)), (11, .pointer (some ⟨b11, 0, none⟩)), (39, c.v (c.sl a2 c2)), (37, g.v (g.sl a1 c1)), (2, .int .i64 n), (3, .int .i64 k), (5, .pointer (some ⟨b5, 0, none⟩)), (6, .pointer (some ⟨b6, 0, none⟩)), (9, .pointer (some ⟨b9, 0, none⟩)), (36, g.v (g.sl ag cg)), (38, c.v (c.sl ah ch)), (40, g.v (g.sl ag cg)), (42, c.v (c.sl ah ch))], (b14, cel 63 ([.int .i64 0, .int .i64 0, .slice none 0 0])) :: (b12, cel 28 ([.int .i64 0, .int .i64 0, .slice none 0 0])) :: (b11, cel 25 ([.int .i64 0, .int .i64 0, .slice none 0 0])) :: (b9, cel 29 (ints m)) :: (b6, cel 28 (ctl c (c.sl ah ch))) :: (b5, cel 25 (gtl g (g.sl ag cg))) :: H, RowsA a2 5 (hrows c.hs) :: RowsA a1 5 (grows g.grs) :: R, [(6, Ld Try.prog 28 ⟨b6, 0, none⟩ (c.v (c.sl ah ch))), (4, Ld Try.prog 25 ⟨b5, 0, none⟩ (g.v (g.sl ag cg)))])) (fun v9 => ?_) (fun h1111101011010000 => ?_)
 obtain ⟨a1, c1, a2, c2, b11, b12, b14⟩ := v9
 dsimp only
 unfold pl9_3_1111101011010000
 refine sy_any ?_
 refine sy_alt ?_ ?_
 refine cl rfl cal27 rfl rfl (c_theirs g ag cg (by omega) _ _) ?_
 rintro _ _ R1 ⟨a3, c3, rfl, rfl, hR1⟩
 obtain rfl := hR1.symm
 clear hR1
 refine bg (fun w hs => ⟨((lhA (ctl c (c.sl ah ch)) ag28 rfl rfl rfl)) w hs, trivial, trivial⟩) ?_
 exact sy_to (h1111111011010000 (a1, c1, a2, c2, a3, c3, b11, b12, b14)) (by repeat' first | exact Sub.nil | apply Sub.cons | rfl | (simp [lk]; omega)) (fun _ h => St.sub (((h.pull b11).pull b12).pull b14))
 refine sy_alt ?_ ?_
 refine alc rfl zl59 rfl (fun b13 => ?_)
 refine bg (fun w hs => ⟨((lhA (ctl c (c.sl ah ch)) ag28 rfl rfl rfl)) w hs, ((lhA (gtl g (g.sl ag cg)) ag25 rfl rfl rfl)) w hs, trivial⟩) ?_
 exact sy_to (h1111101011110000 (a1, c1, a2, c2, b11, b12, b13, b14)) (by repeat' first | exact Sub.nil | apply Sub.cons | rfl | (simp [lk]; omega)) (fun _ h => St.sub ((((h.pull b11).pull b12).pull b13).pull b14))
 exact sy_stop
 refine sy_have (β := Option Addr × Nat × Option Addr × Nat × Nat × Nat) pl9_3_1111101011000000 (fun ⟨a1, c1, a2, c2, b11, b12⟩ => ([(12, .pointer (some ⟨b12, 0, none⟩)), (11, .pointer (some ⟨b11, 0, none⟩)), (39, c.v (c.sl a2 c2)), (37, g.v (g.sl a1 c1)), (2, .int .i64 n), (3, .int .i64 k), (5, .pointer (some ⟨b5, 0, none⟩)), (6, .pointer (some ⟨b6, 0, none⟩)), (9, .pointer (some ⟨b9, 0, none⟩)), (36, g.v (g.sl ag cg)), (38, c.v (c.sl ah ch)), (40, g.v (g.sl ag cg)), (42, c.v (c.sl ah ch))], (b12, cel 28 ([.int .i64 0, .int .i64 0, .slice none 0 0])) :: (b11, cel 25 ([.int .i64 0, .int .i64 0, .slice none 0 0])) :: (b9, cel 29 (ints m)) :: (b6, cel 28 (ctl c (c.sl ah ch))) :: (b5, cel 25 (gtl g (g.sl ag cg))) :: H, RowsA a2 5 (hrows c.hs) :: RowsA a1 5 (grows g.grs) :: R, [(6, Ld Try.prog 28 ⟨b6, 0, none⟩ (c.v (c.sl ah ch))), (4, Ld Try.prog 25 ⟨b5, 0, none⟩ (g.v (g.sl ag cg)))])) (fun v9 => ?_) (fun h1111101011000000 => ?_)
 obtain ⟨a1, c1, a2, c2, b11, b12⟩ := v9
 dsimp only
 unfold pl9_3_1111101011000000
 refine sy_any ?_
 refine sy_alt ?_ ?_
 refine cl rfl cal27 rfl rfl (c_theirs g ag cg (by omega) _ _) ?_
 rintro _ _ R1 ⟨a3, c3, rfl, rfl, hR1⟩
 obtain rfl := hR1.symm
 clear hR1
 refine bg (fun w hs => ⟨((lhA (ctl c (c.sl ah ch)) ag28 rfl rfl rfl)) w hs, trivial, trivial⟩) ?_
 exact sy_to (h1111111011000000 (a1, c1, a2, c2, a3, c3, b11, b12)) (by repeat' first | exact Sub.nil | apply Sub.cons | rfl | (simp [lk]; omega)) (fun _ h => St.sub ((h.pull b11).pull b12))
 refine sy_alt ?_ ?_
 refine alc rfl zl59 rfl (fun b13 => ?_)
 refine bg (fun w hs => ⟨((lhA (ctl c (c.sl ah ch)) ag28 rfl rfl rfl)) w hs, ((lhA (gtl g (g.sl ag cg)) ag25 rfl rfl rfl)) w hs, trivial⟩) ?_
 exact sy_to (h1111101011100000 (a1, c1, a2, c2, b11, b12, b13)) (by repeat' first | exact Sub.nil | apply Sub.cons | rfl | (simp [lk]; omega)) (fun _ h => St.sub (((h.pull b11).pull b12).pull b13))
 refine sy_alt ?_ ?_
 refine alc rfl zl63 rfl (fun b14 => ?_)
 refine bg (fun w hs => ⟨((lhA (ctl c (c.sl ah ch)) ag28 rfl rfl rfl)) w hs, ((lhA (gtl g (g.sl ag cg)) ag25 rfl rfl rfl)) w hs, trivial⟩) ?_
 exact sy_to (h1111101011010000 (a1, c1, a2, c2, b11, b12, b14)) (by repeat' first | exact Sub.nil | apply Sub.cons | rfl | (simp [lk]; omega)) (fun _ h => St.sub (((h.pull b11).pull b12).pull b14))
 exact sy_stop
 refine sy_have (β := Option Addr × Nat × Option Addr × Nat × Nat × Nat × Nat) pl9_3_1111101010110000 (fun ⟨a1, c1, a2, c2, b11, b13, b14⟩ => ([(14, .pointer (some ⟨b14, 0, none⟩)), (13, .pointer (some ⟨b13, 0, none⟩)), (11, .pointer (some ⟨b11, 0, none⟩)), (39, c.v (c.sl a2 c2)), (37, g.v (g.sl a1 c1)), (2, .int .i64 n), (3, .int .i64 k), (5, .pointer (some ⟨b5, 0, none⟩)), (6, .pointer (some ⟨b6, 0, none⟩)), (9, .pointer (some ⟨b9, 0, none⟩)), (36, g.v (g.sl ag cg)), (38, c.v (c.sl ah ch)), (40, g.v (g.sl ag cg)), (42, c.v (c.sl ah ch))], (b14, cel 63 ([.int .i64 0, .int .i64 0, .slice none 0 0])) :: (b13, cel 59 ([.int .i64 0, .int .i64 0, .slice none 0 0])) :: (b11, cel 25 ([.int .i64 0, .int .i64 0, .slice none 0 0])) :: (b9, cel 29 (ints m)) :: (b6, cel 28 (ctl c (c.sl ah ch))) :: (b5, cel 25 (gtl g (g.sl ag cg))) :: H, RowsA a2 5 (hrows c.hs) :: RowsA a1 5 (grows g.grs) :: R, [(6, Ld Try.prog 28 ⟨b6, 0, none⟩ (c.v (c.sl ah ch))), (4, Ld Try.prog 25 ⟨b5, 0, none⟩ (g.v (g.sl ag cg)))])) (fun v9 => ?_) (fun h1111101010110000 => ?_)
 obtain ⟨a1, c1, a2, c2, b11, b13, b14⟩ := v9
 dsimp only
 unfold pl9_3_1111101010110000
 refine sy_any ?_
 refine sy_alt ?_ ?_
 refine cl rfl cal27 rfl rfl (c_theirs g ag cg (by omega) _ _) ?_
 rintro _ _ R1 ⟨a3, c3, rfl, rfl, hR1⟩
 obtain rfl := hR1.symm
 clear hR1
 refine bg (fun w hs => ⟨((lhA (ctl c (c.sl ah ch)) ag28 rfl rfl rfl)) w hs, trivial, trivial⟩) ?_
 exact sy_to (h1111111010110000 (a1, c1, a2, c2, a3, c3, b11, b13, b14)) (by repeat' first | exact Sub.nil | apply Sub.cons | rfl | (simp [lk]; omega)) (fun _ h => St.sub (((h.pull b11).pull b13).pull b14))
 refine sy_alt ?_ ?_
 refine alc rfl zl28 rfl (fun b12 => ?_)
 refine bg (fun w hs => ⟨((lhA (ctl c (c.sl ah ch)) ag28 rfl rfl rfl)) w hs, ((lhA (gtl g (g.sl ag cg)) ag25 rfl rfl rfl)) w hs, trivial⟩) ?_
 exact sy_to (h1111101011110000 (a1, c1, a2, c2, b11, b12, b13, b14)) (by repeat' first | exact Sub.nil | apply Sub.cons | rfl | (simp [lk]; omega)) (fun _ h => St.sub ((((h.pull b11).pull b12).pull b13).pull b14))
 exact sy_stop
 refine sy_have (β := Option Addr × Nat × Option Addr × Nat × Nat × Nat) pl9_3_1111101010100000 (fun ⟨a1, c1, a2, c2, b11, b13⟩ => ([(13, .pointer (some ⟨b13, 0, none⟩)), (11, .pointer (some ⟨b11, 0, none⟩)), (39, c.v (c.sl a2 c2)), (37, g.v (g.sl a1 c1)), (2, .int .i64 n), (3, .int .i64 k), (5, .pointer (some ⟨b5, 0, none⟩)), (6, .pointer (some ⟨b6, 0, none⟩)), (9, .pointer (some ⟨b9, 0, none⟩)), (36, g.v (g.sl ag cg)), (38, c.v (c.sl ah ch)), (40, g.v (g.sl ag cg)), (42, c.v (c.sl ah ch))], (b13, cel 59 ([.int .i64 0, .int .i64 0, .slice none 0 0])) :: (b11, cel 25 ([.int .i64 0, .int .i64 0, .slice none 0 0])) :: (b9, cel 29 (ints m)) :: (b6, cel 28 (ctl c (c.sl ah ch))) :: (b5, cel 25 (gtl g (g.sl ag cg))) :: H, RowsA a2 5 (hrows c.hs) :: RowsA a1 5 (grows g.grs) :: R, [(6, Ld Try.prog 28 ⟨b6, 0, none⟩ (c.v (c.sl ah ch))), (4, Ld Try.prog 25 ⟨b5, 0, none⟩ (g.v (g.sl ag cg)))])) (fun v9 => ?_) (fun h1111101010100000 => ?_)
 obtain ⟨a1, c1, a2, c2, b11, b13⟩ := v9
 dsimp only
 unfold pl9_3_1111101010100000
 refine sy_any ?_
 refine sy_alt ?_ ?_
 refine cl rfl cal27 rfl rfl (c_theirs g ag cg (by omega) _ _) ?_
 rintro _ _ R1 ⟨a3, c3, rfl, rfl, hR1⟩
 obtain rfl := hR1.symm
 clear hR1
 refine bg (fun w hs => ⟨((lhA (ctl c (c.sl ah ch)) ag28 rfl rfl rfl)) w hs, trivial, trivial⟩) ?_
 exact sy_to (h1111111010100000 (a1, c1, a2, c2, a3, c3, b11, b13)) (by repeat' first | exact Sub.nil | apply Sub.cons | rfl | (simp [lk]; omega)) (fun _ h => St.sub ((h.pull b11).pull b13))
 refine sy_alt ?_ ?_
 refine alc rfl zl28 rfl (fun b12 => ?_)
 refine bg (fun w hs => ⟨((lhA (ctl c (c.sl ah ch)) ag28 rfl rfl rfl)) w hs, ((lhA (gtl g (g.sl ag cg)) ag25 rfl rfl rfl)) w hs, trivial⟩) ?_
 exact sy_to (h1111101011100000 (a1, c1, a2, c2, b11, b12, b13)) (by repeat' first | exact Sub.nil | apply Sub.cons | rfl | (simp [lk]; omega)) (fun _ h => St.sub (((h.pull b11).pull b12).pull b13))
 refine sy_alt ?_ ?_
 refine alc rfl zl63 rfl (fun b14 => ?_)
 refine bg (fun w hs => ⟨((lhA (ctl c (c.sl ah ch)) ag28 rfl rfl rfl)) w hs, ((lhA (gtl g (g.sl ag cg)) ag25 rfl rfl rfl)) w hs, trivial⟩) ?_
 exact sy_to (h1111101010110000 (a1, c1, a2, c2, b11, b13, b14)) (by repeat' first | exact Sub.nil | apply Sub.cons | rfl | (simp [lk]; omega)) (fun _ h => St.sub (((h.pull b11).pull b13).pull b14))
 exact sy_stop
 refine sy_have (β := Option Addr × Nat × Option Addr × Nat × Nat × Nat) pl9_3_1111101010010000 (fun ⟨a1, c1, a2, c2, b11, b14⟩ => ([(14, .pointer (some ⟨b14, 0, none⟩)), (11, .pointer (some ⟨b11, 0, none⟩)), (39, c.v (c.sl a2 c2)), (37, g.v (g.sl a1 c1)), (2, .int .i64 n), (3, .int .i64 k), (5, .pointer (some ⟨b5, 0, none⟩)), (6, .pointer (some ⟨b6, 0, none⟩)), (9, .pointer (some ⟨b9, 0, none⟩)), (36, g.v (g.sl ag cg)), (38, c.v (c.sl ah ch)), (40, g.v (g.sl ag cg)), (42, c.v (c.sl ah ch))], (b14, cel 63 ([.int .i64 0, .int .i64 0, .slice none 0 0])) :: (b11, cel 25 ([.int .i64 0, .int .i64 0, .slice none 0 0])) :: (b9, cel 29 (ints m)) :: (b6, cel 28 (ctl c (c.sl ah ch))) :: (b5, cel 25 (gtl g (g.sl ag cg))) :: H, RowsA a2 5 (hrows c.hs) :: RowsA a1 5 (grows g.grs) :: R, [(6, Ld Try.prog 28 ⟨b6, 0, none⟩ (c.v (c.sl ah ch))), (4, Ld Try.prog 25 ⟨b5, 0, none⟩ (g.v (g.sl ag cg)))])) (fun v9 => ?_) (fun h1111101010010000 => ?_)
 obtain ⟨a1, c1, a2, c2, b11, b14⟩ := v9
 dsimp only
 unfold pl9_3_1111101010010000
 refine sy_any ?_
 refine sy_alt ?_ ?_
 refine cl rfl cal27 rfl rfl (c_theirs g ag cg (by omega) _ _) ?_
 rintro _ _ R1 ⟨a3, c3, rfl, rfl, hR1⟩
 obtain rfl := hR1.symm
 clear hR1
 refine bg (fun w hs => ⟨((lhA (ctl c (c.sl ah ch)) ag28 rfl rfl rfl)) w hs, trivial, trivial⟩) ?_
 exact sy_to (h1111111010010000 (a1, c1, a2, c2, a3, c3, b11, b14)) (by repeat' first | exact Sub.nil | apply Sub.cons | rfl | (simp [lk]; omega)) (fun _ h => St.sub ((h.pull b11).pull b14))
 refine sy_alt ?_ ?_
 refine alc rfl zl28 rfl (fun b12 => ?_)
 refine bg (fun w hs => ⟨((lhA (ctl c (c.sl ah ch)) ag28 rfl rfl rfl)) w hs, ((lhA (gtl g (g.sl ag cg)) ag25 rfl rfl rfl)) w hs, trivial⟩) ?_
 exact sy_to (h1111101011010000 (a1, c1, a2, c2, b11, b12, b14)) (by repeat' first | exact Sub.nil | apply Sub.cons | rfl | (simp [lk]; omega)) (fun _ h => St.sub (((h.pull b11).pull b12).pull b14))
 refine sy_alt ?_ ?_
 refine alc rfl zl59 rfl (fun b13 => ?_)
 refine bg (fun w hs => ⟨((lhA (ctl c (c.sl ah ch)) ag28 rfl rfl rfl)) w hs, ((lhA (gtl g (g.sl ag cg)) ag25 rfl rfl rfl)) w hs, trivial⟩) ?_
 exact sy_to (h1111101010110000 (a1, c1, a2, c2, b11, b13, b14)) (by repeat' first | exact Sub.nil | apply Sub.cons | rfl | (simp [lk]; omega)) (fun _ h => St.sub (((h.pull b11).pull b13).pull b14))
 exact sy_stop
 refine sy_have (β := Option Addr × Nat × Option Addr × Nat × Nat) pl9_3_1111101010000000 (fun ⟨a1, c1, a2, c2, b11⟩ => ([(11, .pointer (some ⟨b11, 0, none⟩)), (39, c.v (c.sl a2 c2)), (37, g.v (g.sl a1 c1)), (2, .int .i64 n), (3, .int .i64 k), (5, .pointer (some ⟨b5, 0, none⟩)), (6, .pointer (some ⟨b6, 0, none⟩)), (9, .pointer (some ⟨b9, 0, none⟩)), (36, g.v (g.sl ag cg)), (38, c.v (c.sl ah ch)), (40, g.v (g.sl ag cg)), (42, c.v (c.sl ah ch))], (b11, cel 25 ([.int .i64 0, .int .i64 0, .slice none 0 0])) :: (b9, cel 29 (ints m)) :: (b6, cel 28 (ctl c (c.sl ah ch))) :: (b5, cel 25 (gtl g (g.sl ag cg))) :: H, RowsA a2 5 (hrows c.hs) :: RowsA a1 5 (grows g.grs) :: R, [(6, Ld Try.prog 28 ⟨b6, 0, none⟩ (c.v (c.sl ah ch))), (4, Ld Try.prog 25 ⟨b5, 0, none⟩ (g.v (g.sl ag cg)))])) (fun v9 => ?_) (fun h1111101010000000 => ?_)
 obtain ⟨a1, c1, a2, c2, b11⟩ := v9
 dsimp only
 unfold pl9_3_1111101010000000
 refine sy_any ?_
 refine sy_alt ?_ ?_
 refine cl rfl cal27 rfl rfl (c_theirs g ag cg (by omega) _ _) ?_
 rintro _ _ R1 ⟨a3, c3, rfl, rfl, hR1⟩
 obtain rfl := hR1.symm
 clear hR1
 refine bg (fun w hs => ⟨((lhA (ctl c (c.sl ah ch)) ag28 rfl rfl rfl)) w hs, trivial, trivial⟩) ?_
 exact sy_to (h1111111010000000 (a1, c1, a2, c2, a3, c3, b11)) (by repeat' first | exact Sub.nil | apply Sub.cons | rfl | (simp [lk]; omega)) (fun _ h => St.sub (h.pull b11))
 refine sy_alt ?_ ?_
 refine alc rfl zl28 rfl (fun b12 => ?_)
 refine bg (fun w hs => ⟨((lhA (ctl c (c.sl ah ch)) ag28 rfl rfl rfl)) w hs, ((lhA (gtl g (g.sl ag cg)) ag25 rfl rfl rfl)) w hs, trivial⟩) ?_
 exact sy_to (h1111101011000000 (a1, c1, a2, c2, b11, b12)) (by repeat' first | exact Sub.nil | apply Sub.cons | rfl | (simp [lk]; omega)) (fun _ h => St.sub ((h.pull b11).pull b12))
 refine sy_alt ?_ ?_
 refine alc rfl zl59 rfl (fun b13 => ?_)
 refine bg (fun w hs => ⟨((lhA (ctl c (c.sl ah ch)) ag28 rfl rfl rfl)) w hs, ((lhA (gtl g (g.sl ag cg)) ag25 rfl rfl rfl)) w hs, trivial⟩) ?_
 exact sy_to (h1111101010100000 (a1, c1, a2, c2, b11, b13)) (by repeat' first | exact Sub.nil | apply Sub.cons | rfl | (simp [lk]; omega)) (fun _ h => St.sub ((h.pull b11).pull b13))
 refine sy_alt ?_ ?_
 refine alc rfl zl63 rfl (fun b14 => ?_)
 refine bg (fun w hs => ⟨((lhA (ctl c (c.sl ah ch)) ag28 rfl rfl rfl)) w hs, ((lhA (gtl g (g.sl ag cg)) ag25 rfl rfl rfl)) w hs, trivial⟩) ?_
 exact sy_to (h1111101010010000 (a1, c1, a2, c2, b11, b14)) (by repeat' first | exact Sub.nil | apply Sub.cons | rfl | (simp [lk]; omega)) (fun _ h => St.sub ((h.pull b11).pull b14))
 exact sy_stop
 refine sy_have (β := Option Addr × Nat × Option Addr × Nat × Nat × Nat × Nat) pl9_3_1111101001110000 (fun ⟨a1, c1, a2, c2, b12, b13, b14⟩ => ([(14, .pointer (some ⟨b14, 0, none⟩)), (13, .pointer (some ⟨b13, 0, none⟩)), (12, .pointer (some ⟨b12, 0, none⟩)), (39, c.v (c.sl a2 c2)), (37, g.v (g.sl a1 c1)), (2, .int .i64 n), (3, .int .i64 k), (5, .pointer (some ⟨b5, 0, none⟩)), (6, .pointer (some ⟨b6, 0, none⟩)), (9, .pointer (some ⟨b9, 0, none⟩)), (36, g.v (g.sl ag cg)), (38, c.v (c.sl ah ch)), (40, g.v (g.sl ag cg)), (42, c.v (c.sl ah ch))], (b14, cel 63 ([.int .i64 0, .int .i64 0, .slice none 0 0])) :: (b13, cel 59 ([.int .i64 0, .int .i64 0, .slice none 0 0])) :: (b12, cel 28 ([.int .i64 0, .int .i64 0, .slice none 0 0])) :: (b9, cel 29 (ints m)) :: (b6, cel 28 (ctl c (c.sl ah ch))) :: (b5, cel 25 (gtl g (g.sl ag cg))) :: H, RowsA a2 5 (hrows c.hs) :: RowsA a1 5 (grows g.grs) :: R, [(6, Ld Try.prog 28 ⟨b6, 0, none⟩ (c.v (c.sl ah ch))), (4, Ld Try.prog 25 ⟨b5, 0, none⟩ (g.v (g.sl ag cg)))])) (fun v9 => ?_) (fun h1111101001110000 => ?_)
 obtain ⟨a1, c1, a2, c2, b12, b13, b14⟩ := v9
 dsimp only
 unfold pl9_3_1111101001110000
 refine sy_any ?_
 refine sy_alt ?_ ?_
 refine cl rfl cal27 rfl rfl (c_theirs g ag cg (by omega) _ _) ?_
 rintro _ _ R1 ⟨a3, c3, rfl, rfl, hR1⟩
 obtain rfl := hR1.symm
 clear hR1
 refine bg (fun w hs => ⟨((lhA (ctl c (c.sl ah ch)) ag28 rfl rfl rfl)) w hs, trivial, trivial⟩) ?_
 exact sy_to (h1111111001110000 (a1, c1, a2, c2, a3, c3, b12, b13, b14)) (by repeat' first | exact Sub.nil | apply Sub.cons | rfl | (simp [lk]; omega)) (fun _ h => St.sub (((h.pull b12).pull b13).pull b14))
 refine sy_alt ?_ ?_
 refine alc rfl zl25 rfl (fun b11 => ?_)
 refine bg (fun w hs => ⟨((lhA (ctl c (c.sl ah ch)) ag28 rfl rfl rfl)) w hs, ((lhA (gtl g (g.sl ag cg)) ag25 rfl rfl rfl)) w hs, trivial⟩) ?_
 exact sy_to (h1111101011110000 (a1, c1, a2, c2, b11, b12, b13, b14)) (by repeat' first | exact Sub.nil | apply Sub.cons | rfl | (simp [lk]; omega)) (fun _ h => St.sub ((((h.pull b11).pull b12).pull b13).pull b14))
 exact sy_stop
 refine sy_have (β := Option Addr × Nat × Option Addr × Nat × Nat × Nat) pl9_3_1111101001100000 (fun ⟨a1, c1, a2, c2, b12, b13⟩ => ([(13, .pointer (some ⟨b13, 0, none⟩)), (12, .pointer (some ⟨b12, 0, none⟩)), (39, c.v (c.sl a2 c2)), (37, g.v (g.sl a1 c1)), (2, .int .i64 n), (3, .int .i64 k), (5, .pointer (some ⟨b5, 0, none⟩)), (6, .pointer (some ⟨b6, 0, none⟩)), (9, .pointer (some ⟨b9, 0, none⟩)), (36, g.v (g.sl ag cg)), (38, c.v (c.sl ah ch)), (40, g.v (g.sl ag cg)), (42, c.v (c.sl ah ch))], (b13, cel 59 ([.int .i64 0, .int .i64 0, .slice none 0 0])) :: (b12, cel 28 ([.int .i64 0, .int .i64 0, .slice none 0 0])) :: (b9, cel 29 (ints m)) :: (b6, cel 28 (ctl c (c.sl ah ch))) :: (b5, cel 25 (gtl g (g.sl ag cg))) :: H, RowsA a2 5 (hrows c.hs) :: RowsA a1 5 (grows g.grs) :: R, [(6, Ld Try.prog 28 ⟨b6, 0, none⟩ (c.v (c.sl ah ch))), (4, Ld Try.prog 25 ⟨b5, 0, none⟩ (g.v (g.sl ag cg)))])) (fun v9 => ?_) (fun h1111101001100000 => ?_)
 obtain ⟨a1, c1, a2, c2, b12, b13⟩ := v9
 dsimp only
 unfold pl9_3_1111101001100000
 refine sy_any ?_
 refine sy_alt ?_ ?_
 refine cl rfl cal27 rfl rfl (c_theirs g ag cg (by omega) _ _) ?_
 rintro _ _ R1 ⟨a3, c3, rfl, rfl, hR1⟩
 obtain rfl := hR1.symm
 clear hR1
 refine bg (fun w hs => ⟨((lhA (ctl c (c.sl ah ch)) ag28 rfl rfl rfl)) w hs, trivial, trivial⟩) ?_
 exact sy_to (h1111111001100000 (a1, c1, a2, c2, a3, c3, b12, b13)) (by repeat' first | exact Sub.nil | apply Sub.cons | rfl | (simp [lk]; omega)) (fun _ h => St.sub ((h.pull b12).pull b13))
 refine sy_alt ?_ ?_
 refine alc rfl zl25 rfl (fun b11 => ?_)
 refine bg (fun w hs => ⟨((lhA (ctl c (c.sl ah ch)) ag28 rfl rfl rfl)) w hs, ((lhA (gtl g (g.sl ag cg)) ag25 rfl rfl rfl)) w hs, trivial⟩) ?_
 exact sy_to (h1111101011100000 (a1, c1, a2, c2, b11, b12, b13)) (by repeat' first | exact Sub.nil | apply Sub.cons | rfl | (simp [lk]; omega)) (fun _ h => St.sub (((h.pull b11).pull b12).pull b13))
 refine sy_alt ?_ ?_
 refine alc rfl zl63 rfl (fun b14 => ?_)
 refine bg (fun w hs => ⟨((lhA (ctl c (c.sl ah ch)) ag28 rfl rfl rfl)) w hs, ((lhA (gtl g (g.sl ag cg)) ag25 rfl rfl rfl)) w hs, trivial⟩) ?_
 exact sy_to (h1111101001110000 (a1, c1, a2, c2, b12, b13, b14)) (by repeat' first | exact Sub.nil | apply Sub.cons | rfl | (simp [lk]; omega)) (fun _ h => St.sub (((h.pull b12).pull b13).pull b14))
 exact sy_stop
 refine sy_have (β := Option Addr × Nat × Option Addr × Nat × Nat × Nat) pl9_3_1111101001010000 (fun ⟨a1, c1, a2, c2, b12, b14⟩ => ([(14, .pointer (some ⟨b14, 0, none⟩)), (12, .pointer (some ⟨b12, 0, none⟩)), (39, c.v (c.sl a2 c2)), (37, g.v (g.sl a1 c1)), (2, .int .i64 n), (3, .int .i64 k), (5, .pointer (some ⟨b5, 0, none⟩)), (6, .pointer (some ⟨b6, 0, none⟩)), (9, .pointer (some ⟨b9, 0, none⟩)), (36, g.v (g.sl ag cg)), (38, c.v (c.sl ah ch)), (40, g.v (g.sl ag cg)), (42, c.v (c.sl ah ch))], (b14, cel 63 ([.int .i64 0, .int .i64 0, .slice none 0 0])) :: (b12, cel 28 ([.int .i64 0, .int .i64 0, .slice none 0 0])) :: (b9, cel 29 (ints m)) :: (b6, cel 28 (ctl c (c.sl ah ch))) :: (b5, cel 25 (gtl g (g.sl ag cg))) :: H, RowsA a2 5 (hrows c.hs) :: RowsA a1 5 (grows g.grs) :: R, [(6, Ld Try.prog 28 ⟨b6, 0, none⟩ (c.v (c.sl ah ch))), (4, Ld Try.prog 25 ⟨b5, 0, none⟩ (g.v (g.sl ag cg)))])) (fun v9 => ?_) (fun h1111101001010000 => ?_)
 obtain ⟨a1, c1, a2, c2, b12, b14⟩ := v9
 dsimp only
 unfold pl9_3_1111101001010000
 refine sy_any ?_
 refine sy_alt ?_ ?_
 refine cl rfl cal27 rfl rfl (c_theirs g ag cg (by omega) _ _) ?_
 rintro _ _ R1 ⟨a3, c3, rfl, rfl, hR1⟩
 obtain rfl := hR1.symm
 clear hR1
 refine bg (fun w hs => ⟨((lhA (ctl c (c.sl ah ch)) ag28 rfl rfl rfl)) w hs, trivial, trivial⟩) ?_
 exact sy_to (h1111111001010000 (a1, c1, a2, c2, a3, c3, b12, b14)) (by repeat' first | exact Sub.nil | apply Sub.cons | rfl | (simp [lk]; omega)) (fun _ h => St.sub ((h.pull b12).pull b14))
 refine sy_alt ?_ ?_
 refine alc rfl zl25 rfl (fun b11 => ?_)
 refine bg (fun w hs => ⟨((lhA (ctl c (c.sl ah ch)) ag28 rfl rfl rfl)) w hs, ((lhA (gtl g (g.sl ag cg)) ag25 rfl rfl rfl)) w hs, trivial⟩) ?_
 exact sy_to (h1111101011010000 (a1, c1, a2, c2, b11, b12, b14)) (by repeat' first | exact Sub.nil | apply Sub.cons | rfl | (simp [lk]; omega)) (fun _ h => St.sub (((h.pull b11).pull b12).pull b14))
 refine sy_alt ?_ ?_
 refine alc rfl zl59 rfl (fun b13 => ?_)
 refine bg (fun w hs => ⟨((lhA (ctl c (c.sl ah ch)) ag28 rfl rfl rfl)) w hs, ((lhA (gtl g (g.sl ag cg)) ag25 rfl rfl rfl)) w hs, trivial⟩) ?_
 exact sy_to (h1111101001110000 (a1, c1, a2, c2, b12, b13, b14)) (by repeat' first | exact Sub.nil | apply Sub.cons | rfl | (simp [lk]; omega)) (fun _ h => St.sub (((h.pull b12).pull b13).pull b14))
 exact sy_stop
 refine sy_have (β := Option Addr × Nat × Option Addr × Nat × Nat) pl9_3_1111101001000000 (fun ⟨a1, c1, a2, c2, b12⟩ => ([(12, .pointer (some ⟨b12, 0, none⟩)), (39, c.v (c.sl a2 c2)), (37, g.v (g.sl a1 c1)), (2, .int .i64 n), (3, .int .i64 k), (5, .pointer (some ⟨b5, 0, none⟩)), (6, .pointer (some ⟨b6, 0, none⟩)), (9, .pointer (some ⟨b9, 0, none⟩)), (36, g.v (g.sl ag cg)), (38, c.v (c.sl ah ch)), (40, g.v (g.sl ag cg)), (42, c.v (c.sl ah ch))], (b12, cel 28 ([.int .i64 0, .int .i64 0, .slice none 0 0])) :: (b9, cel 29 (ints m)) :: (b6, cel 28 (ctl c (c.sl ah ch))) :: (b5, cel 25 (gtl g (g.sl ag cg))) :: H, RowsA a2 5 (hrows c.hs) :: RowsA a1 5 (grows g.grs) :: R, [(6, Ld Try.prog 28 ⟨b6, 0, none⟩ (c.v (c.sl ah ch))), (4, Ld Try.prog 25 ⟨b5, 0, none⟩ (g.v (g.sl ag cg)))])) (fun v9 => ?_) (fun h1111101001000000 => ?_)
 obtain ⟨a1, c1, a2, c2, b12⟩ := v9
 dsimp only
 unfold pl9_3_1111101001000000
 refine sy_any ?_
 refine sy_alt ?_ ?_
 refine cl rfl cal27 rfl rfl (c_theirs g ag cg (by omega) _ _) ?_
 rintro _ _ R1 ⟨a3, c3, rfl, rfl, hR1⟩
 obtain rfl := hR1.symm
 clear hR1
 refine bg (fun w hs => ⟨((lhA (ctl c (c.sl ah ch)) ag28 rfl rfl rfl)) w hs, trivial, trivial⟩) ?_
 exact sy_to (h1111111001000000 (a1, c1, a2, c2, a3, c3, b12)) (by repeat' first | exact Sub.nil | apply Sub.cons | rfl | (simp [lk]; omega)) (fun _ h => St.sub (h.pull b12))
 refine sy_alt ?_ ?_
 refine alc rfl zl25 rfl (fun b11 => ?_)
 refine bg (fun w hs => ⟨((lhA (ctl c (c.sl ah ch)) ag28 rfl rfl rfl)) w hs, ((lhA (gtl g (g.sl ag cg)) ag25 rfl rfl rfl)) w hs, trivial⟩) ?_
 exact sy_to (h1111101011000000 (a1, c1, a2, c2, b11, b12)) (by repeat' first | exact Sub.nil | apply Sub.cons | rfl | (simp [lk]; omega)) (fun _ h => St.sub ((h.pull b11).pull b12))
 refine sy_alt ?_ ?_
 refine alc rfl zl59 rfl (fun b13 => ?_)
 refine bg (fun w hs => ⟨((lhA (ctl c (c.sl ah ch)) ag28 rfl rfl rfl)) w hs, ((lhA (gtl g (g.sl ag cg)) ag25 rfl rfl rfl)) w hs, trivial⟩) ?_
 exact sy_to (h1111101001100000 (a1, c1, a2, c2, b12, b13)) (by repeat' first | exact Sub.nil | apply Sub.cons | rfl | (simp [lk]; omega)) (fun _ h => St.sub ((h.pull b12).pull b13))
 refine sy_alt ?_ ?_
 refine alc rfl zl63 rfl (fun b14 => ?_)
 refine bg (fun w hs => ⟨((lhA (ctl c (c.sl ah ch)) ag28 rfl rfl rfl)) w hs, ((lhA (gtl g (g.sl ag cg)) ag25 rfl rfl rfl)) w hs, trivial⟩) ?_
 exact sy_to (h1111101001010000 (a1, c1, a2, c2, b12, b14)) (by repeat' first | exact Sub.nil | apply Sub.cons | rfl | (simp [lk]; omega)) (fun _ h => St.sub ((h.pull b12).pull b14))
 exact sy_stop
 refine sy_have (β := Option Addr × Nat × Option Addr × Nat × Nat × Nat) pl9_3_1111101000110000 (fun ⟨a1, c1, a2, c2, b13, b14⟩ => ([(14, .pointer (some ⟨b14, 0, none⟩)), (13, .pointer (some ⟨b13, 0, none⟩)), (39, c.v (c.sl a2 c2)), (37, g.v (g.sl a1 c1)), (2, .int .i64 n), (3, .int .i64 k), (5, .pointer (some ⟨b5, 0, none⟩)), (6, .pointer (some ⟨b6, 0, none⟩)), (9, .pointer (some ⟨b9, 0, none⟩)), (36, g.v (g.sl ag cg)), (38, c.v (c.sl ah ch)), (40, g.v (g.sl ag cg)), (42, c.v (c.sl ah ch))], (b14, cel 63 ([.int .i64 0, .int .i64 0, .slice none 0 0])) :: (b13, cel 59 ([.int .i64 0, .int .i64 0, .slice none 0 0])) :: (b9, cel 29 (ints m)) :: (b6, cel 28 (ctl c (c.sl ah ch))) :: (b5, cel 25 (gtl g (g.sl ag cg))) :: H, RowsA a2 5 (hrows c.hs) :: RowsA a1 5 (grows g.grs) :: R, [(6, Ld Try.prog 28 ⟨b6, 0, none⟩ (c.v (c.sl ah ch))), (4, Ld Try.prog 25 ⟨b5, 0, none⟩ (g.v (g.sl ag cg)))])) (fun v9 => ?_) (fun h1111101000110000 => ?_)
 obtain ⟨a1, c1, a2, c2, b13, b14⟩ := v9
 dsimp only
 unfold pl9_3_1111101000110000
 refine sy_any ?_
 refine sy_alt ?_ ?_
 refine cl rfl cal27 rfl rfl (c_theirs g ag cg (by omega) _ _) ?_
 rintro _ _ R1 ⟨a3, c3, rfl, rfl, hR1⟩
 obtain rfl := hR1.symm
 clear hR1
 refine bg (fun w hs => ⟨((lhA (ctl c (c.sl ah ch)) ag28 rfl rfl rfl)) w hs, trivial, trivial⟩) ?_
 exact sy_to (h1111111000110000 (a1, c1, a2, c2, a3, c3, b13, b14)) (by repeat' first | exact Sub.nil | apply Sub.cons | rfl | (simp [lk]; omega)) (fun _ h => St.sub ((h.pull b13).pull b14))
 refine sy_alt ?_ ?_
 refine alc rfl zl25 rfl (fun b11 => ?_)
 refine bg (fun w hs => ⟨((lhA (ctl c (c.sl ah ch)) ag28 rfl rfl rfl)) w hs, ((lhA (gtl g (g.sl ag cg)) ag25 rfl rfl rfl)) w hs, trivial⟩) ?_
 exact sy_to (h1111101010110000 (a1, c1, a2, c2, b11, b13, b14)) (by repeat' first | exact Sub.nil | apply Sub.cons | rfl | (simp [lk]; omega)) (fun _ h => St.sub (((h.pull b11).pull b13).pull b14))
 refine sy_alt ?_ ?_
 refine alc rfl zl28 rfl (fun b12 => ?_)
 refine bg (fun w hs => ⟨((lhA (ctl c (c.sl ah ch)) ag28 rfl rfl rfl)) w hs, ((lhA (gtl g (g.sl ag cg)) ag25 rfl rfl rfl)) w hs, trivial⟩) ?_
 exact sy_to (h1111101001110000 (a1, c1, a2, c2, b12, b13, b14)) (by repeat' first | exact Sub.nil | apply Sub.cons | rfl | (simp [lk]; omega)) (fun _ h => St.sub (((h.pull b12).pull b13).pull b14))
 exact sy_stop
 refine sy_have (β := Option Addr × Nat × Option Addr × Nat × Nat) pl9_3_1111101000100000 (fun ⟨a1, c1, a2, c2, b13⟩ => ([(13, .pointer (some ⟨b13, 0, none⟩)), (39, c.v (c.sl a2 c2)), (37, g.v (g.sl a1 c1)), (2, .int .i64 n), (3, .int .i64 k), (5, .pointer (some ⟨b5, 0, none⟩)), (6, .pointer (some ⟨b6, 0, none⟩)), (9, .pointer (some ⟨b9, 0, none⟩)), (36, g.v (g.sl ag cg)), (38, c.v (c.sl ah ch)), (40, g.v (g.sl ag cg)), (42, c.v (c.sl ah ch))], (b13, cel 59 ([.int .i64 0, .int .i64 0, .slice none 0 0])) :: (b9, cel 29 (ints m)) :: (b6, cel 28 (ctl c (c.sl ah ch))) :: (b5, cel 25 (gtl g (g.sl ag cg))) :: H, RowsA a2 5 (hrows c.hs) :: RowsA a1 5 (grows g.grs) :: R, [(6, Ld Try.prog 28 ⟨b6, 0, none⟩ (c.v (c.sl ah ch))), (4, Ld Try.prog 25 ⟨b5, 0, none⟩ (g.v (g.sl ag cg)))])) (fun v9 => ?_) (fun h1111101000100000 => ?_)
 obtain ⟨a1, c1, a2, c2, b13⟩ := v9
 dsimp only
 unfold pl9_3_1111101000100000
 refine sy_any ?_
 refine sy_alt ?_ ?_
 refine cl rfl cal27 rfl rfl (c_theirs g ag cg (by omega) _ _) ?_
 rintro _ _ R1 ⟨a3, c3, rfl, rfl, hR1⟩
 obtain rfl := hR1.symm
 clear hR1
 refine bg (fun w hs => ⟨((lhA (ctl c (c.sl ah ch)) ag28 rfl rfl rfl)) w hs, trivial, trivial⟩) ?_
 exact sy_to (h1111111000100000 (a1, c1, a2, c2, a3, c3, b13)) (by repeat' first | exact Sub.nil | apply Sub.cons | rfl | (simp [lk]; omega)) (fun _ h => St.sub (h.pull b13))
 refine sy_alt ?_ ?_
 refine alc rfl zl25 rfl (fun b11 => ?_)
 refine bg (fun w hs => ⟨((lhA (ctl c (c.sl ah ch)) ag28 rfl rfl rfl)) w hs, ((lhA (gtl g (g.sl ag cg)) ag25 rfl rfl rfl)) w hs, trivial⟩) ?_
 exact sy_to (h1111101010100000 (a1, c1, a2, c2, b11, b13)) (by repeat' first | exact Sub.nil | apply Sub.cons | rfl | (simp [lk]; omega)) (fun _ h => St.sub ((h.pull b11).pull b13))
 refine sy_alt ?_ ?_
 refine alc rfl zl28 rfl (fun b12 => ?_)
 refine bg (fun w hs => ⟨((lhA (ctl c (c.sl ah ch)) ag28 rfl rfl rfl)) w hs, ((lhA (gtl g (g.sl ag cg)) ag25 rfl rfl rfl)) w hs, trivial⟩) ?_
 exact sy_to (h1111101001100000 (a1, c1, a2, c2, b12, b13)) (by repeat' first | exact Sub.nil | apply Sub.cons | rfl | (simp [lk]; omega)) (fun _ h => St.sub ((h.pull b12).pull b13))
 refine sy_alt ?_ ?_
 refine alc rfl zl63 rfl (fun b14 => ?_)
 refine bg (fun w hs => ⟨((lhA (ctl c (c.sl ah ch)) ag28 rfl rfl rfl)) w hs, ((lhA (gtl g (g.sl ag cg)) ag25 rfl rfl rfl)) w hs, trivial⟩) ?_
 exact sy_to (h1111101000110000 (a1, c1, a2, c2, b13, b14)) (by repeat' first | exact Sub.nil | apply Sub.cons | rfl | (simp [lk]; omega)) (fun _ h => St.sub ((h.pull b13).pull b14))
 exact sy_stop
 refine sy_have (β := Option Addr × Nat × Option Addr × Nat × Nat) pl9_3_1111101000010000 (fun ⟨a1, c1, a2, c2, b14⟩ => ([(14, .pointer (some ⟨b14, 0, none⟩)), (39, c.v (c.sl a2 c2)), (37, g.v (g.sl a1 c1)), (2, .int .i64 n), (3, .int .i64 k), (5, .pointer (some ⟨b5, 0, none⟩)), (6, .pointer (some ⟨b6, 0, none⟩)), (9, .pointer (some ⟨b9, 0, none⟩)), (36, g.v (g.sl ag cg)), (38, c.v (c.sl ah ch)), (40, g.v (g.sl ag cg)), (42, c.v (c.sl ah ch))], (b14, cel 63 ([.int .i64 0, .int .i64 0, .slice none 0 0])) :: (b9, cel 29 (ints m)) :: (b6, cel 28 (ctl c (c.sl ah ch))) :: (b5, cel 25 (gtl g (g.sl ag cg))) :: H, RowsA a2 5 (hrows c.hs) :: RowsA a1 5 (grows g.grs) :: R, [(6, Ld Try.prog 28 ⟨b6, 0, none⟩ (c.v (c.sl ah ch))), (4, Ld Try.prog 25 ⟨b5, 0, none⟩ (g.v (g.sl ag cg)))])) (fun v9 => ?_) (fun h1111101000010000 => ?_)
 obtain ⟨a1, c1, a2, c2, b14⟩ := v9
 dsimp only
 unfold pl9_3_1111101000010000
 refine sy_any ?_
 refine sy_alt ?_ ?_
 refine cl rfl cal27 rfl rfl (c_theirs g ag cg (by omega) _ _) ?_
 rintro _ _ R1 ⟨a3, c3, rfl, rfl, hR1⟩
 obtain rfl := hR1.symm
 clear hR1
 refine bg (fun w hs => ⟨((lhA (ctl c (c.sl ah ch)) ag28 rfl rfl rfl)) w hs, trivial, trivial⟩) ?_
 exact sy_to (h1111111000010000 (a1, c1, a2, c2, a3, c3, b14)) (by repeat' first | exact Sub.nil | apply Sub.cons | rfl | (simp [lk]; omega)) (fun _ h => St.sub (h.pull b14))
 refine sy_alt ?_ ?_
 refine alc rfl zl25 rfl (fun b11 => ?_)
 refine bg (fun w hs => ⟨((lhA (ctl c (c.sl ah ch)) ag28 rfl rfl rfl)) w hs, ((lhA (gtl g (g.sl ag cg)) ag25 rfl rfl rfl)) w hs, trivial⟩) ?_
 exact sy_to (h1111101010010000 (a1, c1, a2, c2, b11, b14)) (by repeat' first | exact Sub.nil | apply Sub.cons | rfl | (simp [lk]; omega)) (fun _ h => St.sub ((h.pull b11).pull b14))
 refine sy_alt ?_ ?_
 refine alc rfl zl28 rfl (fun b12 => ?_)
 refine bg (fun w hs => ⟨((lhA (ctl c (c.sl ah ch)) ag28 rfl rfl rfl)) w hs, ((lhA (gtl g (g.sl ag cg)) ag25 rfl rfl rfl)) w hs, trivial⟩) ?_
 exact sy_to (h1111101001010000 (a1, c1, a2, c2, b12, b14)) (by repeat' first | exact Sub.nil | apply Sub.cons | rfl | (simp [lk]; omega)) (fun _ h => St.sub ((h.pull b12).pull b14))
 refine sy_alt ?_ ?_
 refine alc rfl zl59 rfl (fun b13 => ?_)
 refine bg (fun w hs => ⟨((lhA (ctl c (c.sl ah ch)) ag28 rfl rfl rfl)) w hs, ((lhA (gtl g (g.sl ag cg)) ag25 rfl rfl rfl)) w hs, trivial⟩) ?_
 exact sy_to (h1111101000110000 (a1, c1, a2, c2, b13, b14)) (by repeat' first | exact Sub.nil | apply Sub.cons | rfl | (simp [lk]; omega)) (fun _ h => St.sub ((h.pull b13).pull b14))
 exact sy_stop
 refine sy_have (β := Option Addr × Nat × Nat × Nat × Nat × Nat) pl9_3_1110101011110000 (fun ⟨a1, c1, b11, b12, b13, b14⟩ => ([(14, .pointer (some ⟨b14, 0, none⟩)), (13, .pointer (some ⟨b13, 0, none⟩)), (12, .pointer (some ⟨b12, 0, none⟩)), (11, .pointer (some ⟨b11, 0, none⟩)), (37, g.v (g.sl a1 c1)), (2, .int .i64 n), (3, .int .i64 k), (5, .pointer (some ⟨b5, 0, none⟩)), (6, .pointer (some ⟨b6, 0, none⟩)), (9, .pointer (some ⟨b9, 0, none⟩)), (36, g.v (g.sl ag cg)), (38, c.v (c.sl ah ch)), (40, g.v (g.sl ag cg)), (42, c.v (c.sl ah ch))], (b14, cel 63 ([.int .i64 0, .int .i64 0, .slice none 0 0])) :: (b13, cel 59 ([.int .i64 0, .int .i64 0, .slice none 0 0])) :: (b12, cel 28 ([.int .i64 0, .int .i64 0, .slice none 0 0])) :: (b11, cel 25 ([.int .i64 0, .int .i64 0, .slice none 0 0])) :: (b9, cel 29 (ints m)) :: (b6, cel 28 (ctl c (c.sl ah ch))) :: (b5, cel 25 (gtl g (g.sl ag cg))) :: H, RowsA a1 5 (grows g.grs) :: R, [(6, Ld Try.prog 28 ⟨b6, 0, none⟩ (c.v (c.sl ah ch))), (4, Ld Try.prog 25 ⟨b5, 0, none⟩ (g.v (g.sl ag cg))), (2, Ld Try.prog 28 ⟨b6, 0, none⟩ (c.v (c.sl ah ch)))])) (fun v9 => ?_) (fun h1110101011110000 => ?_)
 obtain ⟨a1, c1, b11, b12, b13, b14⟩ := v9
 dsimp only
 unfold pl9_3_1110101011110000
 refine cl rfl cal26 rfl rfl (c_Owned c ah ch (by omega) _ _) ?_
 rintro _ _ R1 ⟨o, rfl, ho, rfl, hR1⟩
 obtain rfl := hR1.symm
 clear hR1
 obtain ⟨a2, c2, he, hf⟩ := o.freeze
 rw [he]
 refine Sy.heap (H' := _) (fun w h => hf h) ?_
 rw [show (hrows c.hs).length = c.hs.length from List.length_map _]
 clear he hf
 refine bg (fun w hs => ⟨((lhA (ctl c (c.sl ah ch)) ag28 rfl rfl rfl)) w hs, ((lhA (gtl g (g.sl ag cg)) ag25 rfl rfl rfl)) w hs, trivial, trivial⟩) ?_
 exact sy_to (h1111101011110000 (a1, c1, a2, c2, b11, b12, b13, b14)) (by repeat' first | exact Sub.nil | apply Sub.cons | rfl | (simp [lk]; omega)) (fun _ h => St.sub ((((h.pull b11).pull b12).pull b13).pull b14))
 refine sy_have (β := Option Addr × Nat × Nat × Nat × Nat) pl9_3_1110101011100000 (fun ⟨a1, c1, b11, b12, b13⟩ => ([(13, .pointer (some ⟨b13, 0, none⟩)), (12, .pointer (some ⟨b12, 0, none⟩)), (11, .pointer (some ⟨b11, 0, none⟩)), (37, g.v (g.sl a1 c1)), (2, .int .i64 n), (3, .int .i64 k), (5, .pointer (some ⟨b5, 0, none⟩)), (6, .pointer (some ⟨b6, 0, none⟩)), (9, .pointer (some ⟨b9, 0, none⟩)), (36, g.v (g.sl ag cg)), (38, c.v (c.sl ah ch)), (40, g.v (g.sl ag cg)), (42, c.v (c.sl ah ch))], (b13, cel 59 ([.int .i64 0, .int .i64 0, .slice none 0 0])) :: (b12, cel 28 ([.int .i64 0, .int .i64 0, .slice none 0 0])) :: (b11, cel 25 ([.int .i64 0, .int .i64 0, .slice none 0 0])) :: (b9, cel 29 (ints m)) :: (b6, cel 28 (ctl c (c.sl ah ch))) :: (b5, cel 25 (gtl g (g.sl ag cg))) :: H, RowsA a1 5 (grows g.grs) :: R, [(6, Ld Try.prog 28 ⟨b6, 0, none⟩ (c.v (c.sl ah ch))), (4, Ld Try.prog 25 ⟨b5, 0, none⟩ (g.v (g.sl ag cg))), (2, Ld Try.prog 28 ⟨b6, 0, none⟩ (c.v (c.sl ah ch)))])) (fun v9 => ?_) (fun h1110101011100000 => ?_)
 obtain ⟨a1, c1, b11, b12, b13⟩ := v9
 dsimp only
 unfold pl9_3_1110101011100000
 refine sy_any ?_
 refine sy_alt ?_ ?_
 refine cl rfl cal26 rfl rfl (c_Owned c ah ch (by omega) _ _) ?_
 rintro _ _ R1 ⟨o, rfl, ho, rfl, hR1⟩
 obtain rfl := hR1.symm
 clear hR1
 obtain ⟨a2, c2, he, hf⟩ := o.freeze
 rw [he]
 refine Sy.heap (H' := _) (fun w h => hf h) ?_
 rw [show (hrows c.hs).length = c.hs.length from List.length_map _]
 clear he hf
 refine bg (fun w hs => ⟨((lhA (ctl c (c.sl ah ch)) ag28 rfl rfl rfl)) w hs, ((lhA (gtl g (g.sl ag cg)) ag25 rfl rfl rfl)) w hs, trivial, trivial⟩) ?_
 exact sy_to (h1111101011100000 (a1, c1, a2, c2, b11, b12, b13)) (by repeat' first | exact Sub.nil | apply Sub.cons | rfl | (simp [lk]; omega)) (fun _ h => St.sub (((h.pull b11).pull b12).pull b13))
 refine sy_alt ?_ ?_
 refine alc rfl zl63 rfl (fun b14 => ?_)
 refine bg (fun w hs => ⟨((lhA (ctl c (c.sl ah ch)) ag28 rfl rfl rfl)) w hs, ((lhA (gtl g (g.sl ag cg)) ag25 rfl rfl rfl)) w hs, ((lhA (ctl c (c.sl ah ch)) ag28 rfl rfl rfl)) w hs, trivial⟩) ?_
 exact sy_to (h1110101011110000 (a1, c1, b11, b12, b13, b14)) (by repeat' first | exact Sub.nil | apply Sub.cons | rfl | (simp [lk]; omega)) (fun _ h => St.sub ((((h.pull b11).pull b12).pull b13).pull b14))
 exact sy_stop
 refine sy_have (β := Option Addr × Nat × Nat × Nat × Nat) pl9_3_1110101011010000 (fun ⟨a1, c1, b11, b12, b14⟩ => ([(14, .pointer (some ⟨b14, 0, none⟩)), (12, .pointer (some ⟨b12, 0, none⟩)), (11, .pointer (some ⟨b11, 0, none⟩)), (37, g.v (g.sl a1 c1)), (2, .int .i64 n), (3, .int .i64 k), (5, .pointer (some ⟨b5, 0, none⟩)), (6, .pointer (some ⟨b6, 0, none⟩)), (9, .pointer (some ⟨b9, 0, none⟩)), (36, g.v (g.sl ag cg)), (38, c.v (c.sl ah ch)), (40, g.v (g.sl ag cg)), (42, c.v (c.sl ah ch))], (b14, cel 63 ([.int .i64 0, .int .i64 0, .slice none 0 0])) :: (b12, cel 28 ([.int .i64 0, .int .i64 0, .slice none 0 0])) :: (b11, cel 25 ([.int .i64 0, .int .i64 0, .slice none 0 0])) :: (b9, cel 29 (ints m)) :: (b6, cel 28 (ctl c (c.sl ah ch))) :: (b5, cel 25 (gtl g (g.sl ag cg))) :: H, RowsA a1 5 (grows g.grs) :: R, [(6, Ld Try.prog 28 ⟨b6, 0, none⟩ (c.v (c.sl ah ch))), (4, Ld Try.prog 25 ⟨b5, 0, none⟩ (g.v (g.sl ag cg))), (2, Ld Try.prog 28 ⟨b6, 0, none⟩ (c.v (c.sl ah ch)))])) (fun v9 => ?_) (fun h1110101011010000 => ?_)
 obtain ⟨a1, c1, b11, b12, b14⟩ := v9
 dsimp only
 unfold pl9_3_1110101011010000
 refine sy_any ?_
 refine sy_alt ?_ ?_
 refine cl rfl cal26 rfl rfl (c_Owned c ah ch (by omega) _ _) ?_
 rintro _ _ R1 ⟨o, rfl, ho, rfl, hR1⟩
 obtain rfl := hR1.symm
 clear hR1
 obtain ⟨a2, c2, he, hf⟩ := o.freeze
 rw [he]
 refine Sy.heap (H' := _) (fun w h => hf h) ?_
 rw [show (hrows c.hs).length = c.hs.length from List.length_map _]
 clear he hf
 refine bg (fun w hs => ⟨((lhA (ctl c (c.sl ah ch)) ag28 rfl rfl rfl)) w hs, ((lhA (gtl g (g.sl ag cg)) ag25 rfl rfl rfl)) w hs, trivial, trivial⟩) ?_
 exact sy_to (h1111101011010000 (a1, c1, a2, c2, b11, b12, b14)) (by repeat' first | exact Sub.nil | apply Sub.cons | rfl | (simp [lk]; omega)) (fun _ h => St.sub (((h.pull b11).pull b12).pull b14))
 refine sy_alt ?_ ?_
 refine alc rfl zl59 rfl (fun b13 => ?_)
 refine bg (fun w hs => ⟨((lhA (ctl c (c.sl ah ch)) ag28 rfl rfl rfl)) w hs, ((lhA (gtl g (g.sl ag cg)) ag25 rfl rfl rfl)) w hs, ((lhA (ctl c (c.sl ah ch)) ag28 rfl rfl rfl)) w hs, trivial⟩) ?_
 exact sy_to (h1110101011110000 (a1, c1, b11, b12, b13, b14)) (by repeat' first | exact Sub.nil | apply Sub.cons | rfl | (simp [lk]; omega)) (fun _ h => St.sub ((((h.pull b11).pull b12).pull b13).pull b14))
 exact sy_stop
 refine sy_have (β := Option Addr × Nat × Nat × Nat) pl9_3_1110101011000000 (fun ⟨a1, c1, b11, b12⟩ => ([(12, .pointer (some ⟨b12, 0, none⟩)), (11, .pointer (some ⟨b11, 0, none⟩)), (37, g.v (g.sl a1 c1)), (2, .int .i64 n), (3, .int .i64 k), (5, .pointer (some ⟨b5, 0, none⟩)), (6, .pointer (some ⟨b6, 0, none⟩)), (9, .pointer (some ⟨b9, 0, none⟩)), (36, g.v (g.sl ag cg)), (38, c.v (c.sl ah ch)), (40, g.v (g.sl ag cg)), (42, c.v (c.sl ah ch))], (b12, cel 28 ([.int .i64 0, .int .i64 0, .slice none 0 0])) :: (b11, cel 25 ([.int .i64 0, .int .i64 0, .slice none 0 0])) :: (b9, cel 29 (ints m)) :: (b6, cel 28 (ctl c (c.sl ah ch))) :: (b5, cel 25 (gtl g (g.sl ag cg))) :: H, RowsA a1 5 (grows g.grs) :: R, [(6, Ld Try.prog 28 ⟨b6, 0, none⟩ (c.v (c.sl ah ch))), (4, Ld Try.prog 25 ⟨b5, 0, none⟩ (g.v (g.sl ag cg))), (2, Ld Try.prog 28 ⟨b6, 0, none⟩ (c.v (c.sl ah ch)))])) (fun v9 => ?_) (fun h1110101011000000 => ?_)
 obtain ⟨a1, c1, b11, b12⟩ := v9
 dsimp only
 unfold pl9_3_1110101011000000
 refine sy_any ?_
 refine sy_alt ?_ ?_
 refine cl rfl cal26 rfl rfl (c_Owned c ah ch (by omega) _ _) ?_
 rintro _ _ R1 ⟨o, rfl, ho, rfl, hR1⟩
 obtain rfl := hR1.symm
 clear hR1
 obtain ⟨a2, c2, he, hf⟩ := o.freeze
 rw [he]
 refine Sy.heap (H' := _) (fun w h => hf h) ?_
 rw [show (hrows c.hs).length = c.hs.length from List.length_map _]
 clear he hf
 refine bg (fun w hs => ⟨((lhA (ctl c (c.sl ah ch)) ag28 rfl rfl rfl)) w hs, ((lhA (gtl g (g.sl ag cg)) ag25 rfl rfl rfl)) w hs, trivial, trivial⟩) ?_
 exact sy_to (h1111101011000000 (a1, c1, a2, c2, b11, b12)) (by repeat' first | exact Sub.nil | apply Sub.cons | rfl | (simp [lk]; omega)) (fun _ h => St.sub ((h.pull b11).pull b12))
 refine sy_alt ?_ ?_
 refine alc rfl zl59 rfl (fun b13 => ?_)
 refine bg (fun w hs => ⟨((lhA (ctl c (c.sl ah ch)) ag28 rfl rfl rfl)) w hs, ((lhA (gtl g (g.sl ag cg)) ag25 rfl rfl rfl)) w hs, ((lhA (ctl c (c.sl ah ch)) ag28 rfl rfl rfl)) w hs, trivial⟩) ?_
 exact sy_to (h1110101011100000 (a1, c1, b11, b12, b13)) (by repeat' first | exact Sub.nil | apply Sub.cons | rfl | (simp [lk]; omega)) (fun _ h => St.sub (((h.pull b11).pull b12).pull b13))
 refine sy_alt ?_ ?_
 refine alc rfl zl63 rfl (fun b14 => ?_)
 refine bg (fun w hs => ⟨((lhA (ctl c (c.sl ah ch)) ag28 rfl rfl rfl)) w hs, ((lhA (gtl g (g.sl ag cg)) ag25 rfl rfl rfl)) w hs, ((lhA (ctl c (c.sl ah ch)) ag28 rfl rfl rfl)) w hs, trivial⟩) ?_
 exact sy_to (h1110101011010000 (a1, c1, b11, b12, b14)) (by repeat' first | exact Sub.nil | apply Sub.cons | rfl | (simp [lk]; omega)) (fun _ h => St.sub (((h.pull b11).pull b12).pull b14))
 exact sy_stop
 refine sy_have (β := Option Addr × Nat × Nat × Nat × Nat) pl9_3_1110101010110000 (fun ⟨a1, c1, b11, b13, b14⟩ => ([(14, .pointer (some ⟨b14, 0, none⟩)), (13, .pointer (some ⟨b13, 0, none⟩)), (11, .pointer (some ⟨b11, 0, none⟩)), (37, g.v (g.sl a1 c1)), (2, .int .i64 n), (3, .int .i64 k), (5, .pointer (some ⟨b5, 0, none⟩)), (6, .pointer (some ⟨b6, 0, none⟩)), (9, .pointer (some ⟨b9, 0, none⟩)), (36, g.v (g.sl ag cg)), (38, c.v (c.sl ah ch)), (40, g.v (g.sl ag cg)), (42, c.v (c.sl ah ch))], (b14, cel 63 ([.int .i64 0, .int .i64 0, .slice none 0 0])) :: (b13, cel 59 ([.int .i64 0, .int .i64 0, .slice none 0 0])) :: (b11, cel 25 ([.int .i64 0, .int .i64 0, .slice none 0 0])) :: (b9, cel 29 (ints m)) :: (b6, cel 28 (ctl c (c.sl ah ch))) :: (b5, cel 25 (gtl g (g.sl ag cg))) :: H, RowsA a1 5 (grows g.grs) :: R, [(6, Ld Try.prog 28 ⟨b6, 0, none⟩ (c.v (c.sl ah ch))), (4, Ld Try.prog 25 ⟨b5, 0, none⟩ (g.v (g.sl ag cg))), (2, Ld Try.prog 28 ⟨b6, 0, none⟩ (c.v (c.sl ah ch)))])) (fun v9 => ?_) (fun h1110101010110000 => ?_)
 obtain ⟨a1, c1, b11, b13, b14⟩ := v9
 dsimp only
 unfold pl9_3_1110101010110000
 refine sy_any ?_
 refine sy_alt ?_ ?_
 refine cl rfl cal26 rfl rfl (c_Owned c ah ch (by omega) _ _) ?_
 rintro _ _ R1 ⟨o, rfl, ho, rfl, hR1⟩
 obtain rfl := hR1.symm
 clear hR1
 obtain ⟨a2, c2, he, hf⟩ := o.freeze
 rw [he]
 refine Sy.heap (H' := _) (fun w h => hf h) ?_
 rw [show (hrows c.hs).length = c.hs.length from List.length_map _]
 clear he hf
 refine bg (fun w hs => ⟨((lhA (ctl c (c.sl ah ch)) ag28 rfl rfl rfl)) w hs, ((lhA (gtl g (g.sl ag cg)) ag25 rfl rfl rfl)) w hs, trivial, trivial⟩) ?_
 exact sy_to (h1111101010110000 (a1, c1, a2, c2, b11, b13, b14)) (by repeat' first | exact Sub.nil | apply Sub.cons | rfl | (simp [lk]; omega)) (fun _ h => St.sub (((h.pull b11).pull b13).pull b14))
 refine sy_alt ?_ ?_
 refine alc rfl zl28 rfl (fun b12 => ?_)
 refine bg (fun w hs => ⟨((lhA (ctl c (c.sl ah ch)) ag28 rfl rfl rfl)) w hs, ((lhA (gtl g (g.sl ag cg)) ag25 rfl rfl rfl)) w hs, ((lhA (ctl c (c.sl ah ch)) ag28 rfl rfl rfl)) w hs, trivial⟩) ?_
 exact sy_to (h1110101011110000 (a1, c1, b11, b12, b13, b14)) (by repeat' first | exact Sub.nil | apply Sub.cons | rfl | (simp [lk]; omega)) (fun _ h => St.sub ((((h.pull b11).pull b12).pull b13).pull b14))
 exact sy_stop
 refine sy_have (β := Option Addr × Nat × Nat × Nat) pl9_3_1110101010100000 (fun ⟨a1, c1, b11, b13⟩ => ([(13, .pointer (some ⟨b13, 0, none⟩)), (11, .pointer (some ⟨b11, 0, none⟩)), (37, g.v (g.sl a1 c1)), (2, .int .i64 n), (3, .int .i64 k), (5, .pointer (some ⟨b5, 0, none⟩)), (6, .pointer (some ⟨b6, 0, none⟩)), (9, .pointer (some ⟨b9, 0, none⟩)), (36, g.v (g.sl ag cg)), (38, c.v (c.sl ah ch)), (40, g.v (g.sl ag cg)), (42, c.v (c.sl ah ch))], (b13, cel 59 ([.int .i64 0, .int .i64 0, .slice none 0 0])) :: (b11, cel 25 ([.int .i64 0, .int .i64 0, .slice none 0 0])) :: (b9, cel 29 (ints m)) :: (b6, cel 28 (ctl c (c.sl ah ch))) :: (b5, cel 25 (gtl g (g.sl ag cg))) :: H, RowsA a1 5 (grows g.grs) :: R, [(6, Ld Try.prog 28 ⟨b6, 0, none⟩ (c.v (c.sl ah ch))), (4, Ld Try.prog 25 ⟨b5, 0, none⟩ (g.v (g.sl ag cg))), (2, Ld Try.prog 28 ⟨b6, 0, none⟩ (c.v (c.sl ah ch)))])) (fun v9 => ?_) (fun h1110101010100000 => ?_)
 obtain ⟨a1, c1, b11, b13⟩ := v9
 dsimp only
 unfold pl9_3_1110101010100000
 refine sy_any ?_
 refine sy_alt ?_ ?_
 refine cl rfl cal26 rfl rfl (c_Owned c ah ch (by omega) _ _) ?_
 rintro _ _ R1 ⟨o, rfl, ho, rfl, hR1⟩
 obtain rfl := hR1.symm
 clear hR1
 obtain ⟨a2, c2, he, hf⟩ := o.freeze
 rw [he]
 refine Sy.heap (H' := _) (fun w h => hf h) ?_
 rw [show (hrows c.hs).length = c.hs.length from List.length_map _]
 clear he hf
 refine bg (fun w hs => ⟨((lhA (ctl c (c.sl ah ch)) ag28 rfl rfl rfl)) w hs, ((lhA (gtl g (g.sl ag cg)) ag25 rfl rfl rfl)) w hs, trivial, trivial⟩) ?_
 exact sy_to (h1111101010100000 (a1, c1, a2, c2, b11, b13)) (by repeat' first | exact Sub.nil | apply Sub.cons | rfl | (simp [lk]; omega)) (fun _ h => St.sub ((h.pull b11).pull b13))
 refine sy_alt ?_ ?_
 refine alc rfl zl28 rfl (fun b12 => ?_)
 refine bg (fun w hs => ⟨((lhA (ctl c (c.sl ah ch)) ag28 rfl rfl rfl)) w hs, ((lhA (gtl g (g.sl ag cg)) ag25 rfl rfl rfl)) w hs, ((lhA (ctl c (c.sl ah ch)) ag28 rfl rfl rfl)) w hs, trivial⟩) ?_
 exact sy_to (h1110101011100000 (a1, c1, b11, b12, b13)) (by repeat' first | exact Sub.nil | apply Sub.cons | rfl | (simp [lk]; omega)) (fun _ h => St.sub (((h.pull b11).pull b12).pull b13))
 refine sy_alt ?_ ?_
 refine alc rfl zl63 rfl (fun b14 => ?_)
 refine bg (fun w hs => ⟨((lhA (ctl c (c.sl ah ch)) ag28 rfl rfl rfl)) w hs, ((lhA (gtl g (g.sl ag cg)) ag25 rfl rfl rfl)) w hs, ((lhA (ctl c (c.sl ah ch)) ag28 rfl rfl rfl)) w hs, trivial⟩) ?_
 exact sy_to (h1110101010110000 (a1, c1, b11, b13, b14)) (by repeat' first | exact Sub.nil | apply Sub.cons | rfl | (simp [lk]; omega)) (fun _ h => St.sub (((h.pull b11).pull b13).pull b14))
 exact sy_stop
 refine sy_have (β := Option Addr × Nat × Nat × Nat) pl9_3_1110101010010000 (fun ⟨a1, c1, b11, b14⟩ => ([(14, .pointer (some ⟨b14, 0, none⟩)), (11, .pointer (some ⟨b11, 0, none⟩)), (37, g.v (g.sl a1 c1)), (2, .int .i64 n), (3, .int .i64 k), (5, .pointer (some ⟨b5, 0, none⟩)), (6, .pointer (some ⟨b6, 0, none⟩)), (9, .pointer (some ⟨b9, 0, none⟩)), (36, g.v (g.sl ag cg)), (38, c.v (c.sl ah ch)), (40, g.v (g.sl ag cg)), (42, c.v (c.sl ah ch))], (b14, cel 63 ([.int .i64 0, .int .i64 0, .slice none 0 0])) :: (b11, cel 25 ([.int .i64 0, .int .i64 0, .slice none 0 0])) :: (b9, cel 29 (ints m)) :: (b6, cel 28 (ctl c (c.sl ah ch))) :: (b5, cel 25 (gtl g (g.sl ag cg))) :: H, RowsA a1 5 (grows g.grs) :: R, [(6, Ld Try.prog 28 ⟨b6, 0, none⟩ (c.v (c.sl ah ch))), (4, Ld Try.prog 25 ⟨b5, 0, none⟩ (g.v (g.sl ag cg))), (2, Ld Try.prog 28 ⟨b6, 0, none⟩ (c.v (c.sl ah ch)))])) (fun v9 => ?_) (fun h1110101010010000 => ?_)
 obtain ⟨a1, c1, b11, b14⟩ := v9
 dsimp only
 unfold pl9_3_1110101010010000
 refine sy_any ?_
 refine sy_alt ?_ ?_
 refine cl rfl cal26 rfl rfl (c_Owned c ah ch (by omega) _ _) ?_
 rintro _ _ R1 ⟨o, rfl, ho, rfl, hR1⟩
 obtain rfl := hR1.symm
 clear hR1
 obtain ⟨a2, c2, he, hf⟩ := o.freeze
 rw [he]
 refine Sy.heap (H' := _) (fun w h => hf h) ?_
 rw [show (hrows c.hs).length = c.hs.length from List.length_map _]
 clear he hf
 refine bg (fun w hs => ⟨((lhA (ctl c (c.sl ah ch)) ag28 rfl rfl rfl)) w hs, ((lhA (gtl g (g.sl ag cg)) ag25 rfl rfl rfl)) w hs, trivial, trivial⟩) ?_
 exact sy_to (h1111101010010000 (a1, c1, a2, c2, b11, b14)) (by repeat' first | exact Sub.nil | apply Sub.cons | rfl | (simp [lk]; omega)) (fun _ h => St.sub ((h.pull b11).pull b14))
 refine sy_alt ?_ ?_
 refine alc rfl zl28 rfl (fun b12 => ?_)
 refine bg (fun w hs => ⟨((lhA (ctl c (c.sl ah ch)) ag28 rfl rfl rfl)) w hs, ((lhA (gtl g (g.sl ag cg)) ag25 rfl rfl rfl)) w hs, ((lhA (ctl c (c.sl ah ch)) ag28 rfl rfl rfl)) w hs, trivial⟩) ?_
 exact sy_to (h1110101011010000 (a1, c1, b11, b12, b14)) (by repeat' first | exact Sub.nil | apply Sub.cons | rfl | (simp [lk]; omega)) (fun _ h => St.sub (((h.pull b11).pull b12).pull b14))
 refine sy_alt ?_ ?_
 refine alc rfl zl59 rfl (fun b13 => ?_)
 refine bg (fun w hs => ⟨((lhA (ctl c (c.sl ah ch)) ag28 rfl rfl rfl)) w hs, ((lhA (gtl g (g.sl ag cg)) ag25 rfl rfl rfl)) w hs, ((lhA (ctl c (c.sl ah ch)) ag28 rfl rfl rfl)) w hs, trivial⟩) ?_
 exact sy_to (h1110101010110000 (a1, c1, b11, b13, b14)) (by repeat' first | exact Sub.nil | apply Sub.cons | rfl | (simp [lk]; omega)) (fun _ h => St.sub (((h.pull b11).pull b13).pull b14))
 exact sy_stop
 refine sy_have (β := Option Addr × Nat × Nat) pl9_3_1110101010000000 (fun ⟨a1, c1, b11⟩ => ([(11, .pointer (some ⟨b11, 0, none⟩)), (37, g.v (g.sl a1 c1)), (2, .int .i64 n), (3, .int .i64 k), (5, .pointer (some ⟨b5, 0, none⟩)), (6, .pointer (some ⟨b6, 0, none⟩)), (9, .pointer (some ⟨b9, 0, none⟩)), (36, g.v (g.sl ag cg)), (38, c.v (c.sl ah ch)), (40, g.v (g.sl ag cg)), (42, c.v (c.sl ah ch))], (b11, cel 25 ([.int .i64 0, .int .i64 0, .slice none 0 0])) :: (b9, cel 29 (ints m)) :: (b6, cel 28 (ctl c (c.sl ah ch))) :: (b5, cel 25 (gtl g (g.sl ag cg))) :: H, RowsA a1 5 (grows g.grs) :: R, [(6, Ld Try.prog 28 ⟨b6, 0, none⟩ (c.v (c.sl ah ch))), (4, Ld Try.prog 25 ⟨b5, 0, none⟩ (g.v (g.sl ag cg))), (2, Ld Try.prog 28 ⟨b6, 0, none⟩ (c.v (c.sl ah ch)))])) (fun v9 => ?_) (fun h1110101010000000 => ?_)
 obtain ⟨a1, c1, b11⟩ := v9
 dsimp only
 unfold pl9_3_1110101010000000
 refine sy_any ?_
 refine sy_alt ?_ ?_
 refine cl rfl cal26 rfl rfl (c_Owned c ah ch (by omega) _ _) ?_
 rintro _ _ R1 ⟨o, rfl, ho, rfl, hR1⟩
 obtain rfl := hR1.symm
 clear hR1
 obtain ⟨a2, c2, he, hf⟩ := o.freeze
 rw [he]
 refine Sy.heap (H' := _) (fun w h => hf h) ?_
 rw [show (hrows c.hs).length = c.hs.length from List.length_map _]
 clear he hf
 refine bg (fun w hs => ⟨((lhA (ctl c (c.sl ah ch)) ag28 rfl rfl rfl)) w hs, ((lhA (gtl g (g.sl ag cg)) ag25 rfl rfl rfl)) w hs, trivial, trivial⟩) ?_
 exact sy_to (h1111101010000000 (a1, c1, a2, c2, b11)) (by repeat' first | exact Sub.nil | apply Sub.cons | rfl | (simp [lk]; omega)) (fun _ h => St.sub (h.pull b11))
 refine sy_alt ?_ ?_
 refine alc rfl zl28 rfl (fun b12 => ?_)
 refine bg (fun w hs => ⟨((lhA (ctl c (c.sl ah ch)) ag28 rfl rfl rfl)) w hs, ((lhA (gtl g (g.sl ag cg)) ag25 rfl rfl rfl)) w hs, ((lhA (ctl c (c.sl ah ch)) ag28 rfl rfl rfl)) w hs, trivial⟩) ?_
 exact sy_to (h1110101011000000 (a1, c1, b11, b12)) (by repeat' first | exact Sub.nil | apply Sub.cons | rfl | (simp [lk]; omega)) (fun _ h => St.sub ((h.pull b11).pull b12))
 refine sy_alt ?_ ?_
 refine alc rfl zl59 rfl (fun b13 => ?_)
 refine bg (fun w hs => ⟨((lhA (ctl c (c.sl ah ch)) ag28 rfl rfl rfl)) w hs, ((lhA (gtl g (g.sl ag cg)) ag25 rfl rfl rfl)) w hs, ((lhA (ctl c (c.sl ah ch)) ag28 rfl rfl rfl)) w hs, trivial⟩) ?_
 exact sy_to (h1110101010100000 (a1, c1, b11, b13)) (by repeat' first | exact Sub.nil | apply Sub.cons | rfl | (simp [lk]; omega)) (fun _ h => St.sub ((h.pull b11).pull b13))
 refine sy_alt ?_ ?_
 refine alc rfl zl63 rfl (fun b14 => ?_)
 refine bg (fun w hs => ⟨((lhA (ctl c (c.sl ah ch)) ag28 rfl rfl rfl)) w hs, ((lhA (gtl g (g.sl ag cg)) ag25 rfl rfl rfl)) w hs, ((lhA (ctl c (c.sl ah ch)) ag28 rfl rfl rfl)) w hs, trivial⟩) ?_
 exact sy_to (h1110101010010000 (a1, c1, b11, b14)) (by repeat' first | exact Sub.nil | apply Sub.cons | rfl | (simp [lk]; omega)) (fun _ h => St.sub ((h.pull b11).pull b14))
 exact sy_stop
 refine sy_have (β := Option Addr × Nat × Nat × Nat × Nat) pl9_3_1110101001110000 (fun ⟨a1, c1, b12, b13, b14⟩ => ([(14, .pointer (some ⟨b14, 0, none⟩)), (13, .pointer (some ⟨b13, 0, none⟩)), (12, .pointer (some ⟨b12, 0, none⟩)), (37, g.v (g.sl a1 c1)), (2, .int .i64 n), (3, .int .i64 k), (5, .pointer (some ⟨b5, 0, none⟩)), (6, .pointer (some ⟨b6, 0, none⟩)), (9, .pointer (some ⟨b9, 0, none⟩)), (36, g.v (g.sl ag cg)), (38, c.v (c.sl ah ch)), (40, g.v (g.sl ag cg)), (42, c.v (c.sl ah ch))], (b14, cel 63 ([.int .i64 0, .int .i64 0, .slice none 0 0])) :: (b13, cel 59 ([.int .i64 0, .int .i64 0, .slice none 0 0])) :: (b12, cel 28 ([.int .i64 0, .int .i64 0, .slice none 0 0])) :: (b9, cel 29 (ints m)) :: (b6, cel 28 (ctl c (c.sl ah ch))) :: (b5, cel 25 (gtl g (g.sl ag cg))) :: H, RowsA a1 5 (grows g.grs) :: R, [(6, Ld Try.prog 28 ⟨b6, 0, none⟩ (c.v (c.sl ah ch))), (4, Ld Try.prog 25 ⟨b5, 0, none⟩ (g.v (g.sl ag cg))), (2, Ld Try.prog 28 ⟨b6, 0, none⟩ (c.v (c.sl ah ch)))])) (fun v9 => ?_) (fun h1110101001110000 => ?_)
 obtain ⟨a1, c1, b12, b13, b14⟩ := v9
 dsimp only
 unfold pl9_3_1110101001110000
 refine sy_any ?_
 refine sy_alt ?_ ?_
 refine cl rfl cal26 rfl rfl (c_Owned c ah ch (by omega) _ _) ?_
 rintro _ _ R1 ⟨o, rfl, ho, rfl, hR1⟩
 obtain rfl := hR1.symm
 clear hR1
 obtain ⟨a2, c2, he, hf⟩ := o.freeze
 rw [he]
 refine Sy.heap (H' := _) (fun w h => hf h) ?_
 rw [show (hrows c.hs).length = c.hs.length from List.length_map _]
 clear he hf
 refine bg (fun w hs => ⟨((lhA (ctl c (c.sl ah ch)) ag28 rfl rfl rfl)) w hs, ((lhA (gtl g (g.sl ag cg)) ag25 rfl rfl rfl)) w hs, trivial, trivial⟩) ?_
 exact sy_to (h1111101001110000 (a1, c1, a2, c2, b12, b13, b14)) (by repeat' first | exact Sub.nil | apply Sub.cons | rfl | (simp [lk]; omega)) (fun _ h => St.sub (((h.pull b12).pull b13).pull b14))
 refine sy_alt ?_ ?_
 refine alc rfl zl25 rfl (fun b11 => ?_)
 refine bg (fun w hs => ⟨((lhA (ctl c (c.sl ah ch)) ag28 rfl rfl rfl)) w hs, ((lhA (gtl g (g.sl ag cg)) ag25 rfl rfl rfl)) w hs, ((lhA (ctl c (c.sl ah ch)) ag28 rfl rfl rfl)) w hs, trivial⟩) ?_
 exact sy_to (h1110101011110000 (a1, c1, b11, b12, b13, b14)) (by repeat' first | exact Sub.nil | apply Sub.cons | rfl | (simp [lk]; omega)) (fun _ h => St.sub ((((h.pull b11).pull b12).pull b13).pull b14))
 exact sy_stop
 refine sy_have (β := Option Addr × Nat × Nat × Nat) pl9_3_1110101001100000 (fun ⟨a1, c1, b12, b13⟩ => ([(13, .pointer (some ⟨b13, 0, none⟩)), (12, .pointer (some ⟨b12, 0, none⟩)), (37, g.v (g.sl a1 c1)), (2, .int .i64 n), (3, .int .i64 k), (5, .pointer (some ⟨b5, 0, none⟩)), (6, .pointer (some ⟨b6, 0, none⟩)), (9, .pointer (some ⟨b9, 0, none⟩)), (36, g.v (g.sl ag cg)), (38, c.v (c.sl ah ch)), (40, g.v (g.sl ag cg)), (42, c.v (c.sl ah ch))], (b13, cel 59 ([.int .i64 0, .int .i64 0, .slice none 0 0])) :: (b12, cel 28 ([.int .i64 0, .int .i64 0, .slice none 0 0])) :: (b9, cel 29 (ints m)) :: (b6, cel 28 (ctl c (c.sl ah ch))) :: (b5, cel 25 (gtl g (g.sl ag cg))) :: H, RowsA a1 5 (grows g.grs) :: R, [(6, Ld Try.prog 28 ⟨b6, 0, none⟩ (c.v (c.sl ah ch))), (4, Ld Try.prog 25 ⟨b5, 0, none⟩ (g.v (g.sl ag cg))), (2, Ld Try.prog 28 ⟨b6, 0, none⟩ (c.v (c.sl ah ch)))])) (fun v9 => ?_) (fun h1110101001100000 => ?_)
 obtain ⟨a1, c1, b12, b13⟩ := v9
 dsimp only
 unfold pl9_3_1110101001100000
 refine sy_any ?_
 refine sy_alt ?_ ?_
 refine cl rfl cal26 rfl rfl (c_Owned c ah ch (by omega) _ _) ?_
 rintro _ _ R1 ⟨o, rfl, ho, rfl, hR1⟩
 obtain rfl := hR1.symm
 clear hR1
 obtain ⟨a2, c2, he, hf⟩ := o.freeze
 rw [he]
 refine Sy.heap (H' := _) (fun w h => hf h) ?_
 rw [show (hrows c.hs).length = c.hs.length from List.length_map _]
 clear he hf
 refine bg (fun w hs => ⟨((lhA (ctl c (c.sl ah ch)) ag28 rfl rfl rfl)) w hs, ((lhA (gtl g (g.sl ag cg)) ag25 rfl rfl rfl)) w hs, trivial, trivial⟩) ?_
 exact sy_to (h1111101001100000 (a1, c1, a2, c2, b12, b13)) (by repeat' first | exact Sub.nil | apply Sub.cons | rfl | (simp [lk]; omega)) (fun _ h => St.sub ((h.pull b12).pull b13))
 refine sy_alt ?_ ?_
 refine alc rfl zl25 rfl (fun b11 => ?_)
 refine bg (fun w hs => ⟨((lhA (ctl c (c.sl ah ch)) ag28 rfl rfl rfl)) w hs, ((lhA (gtl g (g.sl ag cg)) ag25 rfl rfl rfl)) w hs, ((lhA (ctl c (c.sl ah ch)) ag28 rfl rfl rfl)) w hs, trivial⟩) ?_
 exact sy_to (h1110101011100000 (a1, c1, b11, b12, b13)) (by repeat' first | exact Sub.nil | apply Sub.cons | rfl | (simp [lk]; omega)) (fun _ h => St.sub (((h.pull b11).pull b12).pull b13))
 refine sy_alt ?_ ?_
 refine alc rfl zl63 rfl (fun b14 => ?_)
 refine bg (fun w hs => ⟨((lhA (ctl c (c.sl ah ch)) ag28 rfl rfl rfl)) w hs, ((lhA (gtl g (g.sl ag cg)) ag25 rfl rfl rfl)) w hs, ((lhA (ctl c (c.sl ah ch)) ag28 rfl rfl rfl)) w hs, trivial⟩) ?_
 exact sy_to (h1110101001110000 (a1, c1, b12, b13, b14)) (by repeat' first | exact Sub.nil | apply Sub.cons | rfl | (simp [lk]; omega)) (fun _ h => St.sub (((h.pull b12).pull b13).pull b14))
 exact sy_stop
 refine sy_have (β := Option Addr × Nat × Nat × Nat) pl9_3_1110101001010000 (fun ⟨a1, c1, b12, b14⟩ => ([(14, .pointer (some ⟨b14, 0, none⟩)), (12, .pointer (some ⟨b12, 0, none⟩)), (37, g.v (g.sl a1 c1)), (2, .int .i64 n), (3, .int .i64 k), (5, .pointer (some ⟨b5, 0, none⟩)), (6, .pointer (some ⟨b6, 0, none⟩)), (9, .pointer (some ⟨b9, 0, none⟩)), (36, g.v (g.sl ag cg)), (38, c.v (c.sl ah ch)), (40, g.v (g.sl ag cg)), (42, c.v (c.sl ah ch))], (b14, cel 63 ([.int .i64 0, .int .i64 0, .slice none 0 0])) :: (b12, cel 28 ([.int .i64 0, .int .i64 0, .slice none 0 0])) :: (b9, cel 29 (ints m)) :: (b6, cel 28 (ctl c (c.sl ah ch))) :: (b5, cel 25 (gtl g (g.sl ag cg))) :: H, RowsA a1 5 (grows g.grs) :: R, [(6, Ld Try.prog 28 ⟨b6, 0, none⟩ (c.v (c.sl ah ch))), (4, Ld Try.prog 25 ⟨b5, 0, none⟩ (g.v (g.sl ag cg))), (2, Ld Try.prog 28 ⟨b6, 0, none⟩ (c.v (c.sl ah ch)))])) (fun v9 => ?_) (fun h1110101001010000 => ?_)
 obtain ⟨a1, c1, b12, b14⟩ := v9
 dsimp only
 unfold pl9_3_1110101001010000
 refine sy_any ?_
 refine sy_alt ?_ ?_
 refine cl rfl cal26 rfl rfl (c_Owned c ah ch (by omega) _ _) ?_
 rintro _ _ R1 ⟨o, rfl, ho, rfl, hR1⟩
 obtain rfl := hR1.symm
 clear hR1
 obtain ⟨a2, c2, he, hf⟩ := o.freeze
 rw [he]
 refine Sy.heap (H' := _) (fun w h => hf h) ?_
 rw [show (hrows c.hs).length = c.hs.length from List.length_map _]
 clear he hf
 refine bg (fun w hs => ⟨((lhA (ctl c (c.sl ah ch)) ag28 rfl rfl rfl)) w hs, ((lhA (gtl g (g.sl ag cg)) ag25 rfl rfl rfl)) w hs, trivial, trivial⟩) ?_
 exact sy_to (h1111101001010000 (a1, c1, a2, c2, b12, b14)) (by repeat' first | exact Sub.nil | apply Sub.cons | rfl | (simp [lk]; omega)) (fun _ h => St.sub ((h.pull b12).pull b14))
 refine sy_alt ?_ ?_
 refine alc rfl zl25 rfl (fun b11 => ?_)
 refine bg (fun w hs => ⟨((lhA (ctl c (c.sl ah ch)) ag28 rfl rfl rfl)) w hs, ((lhA (gtl g (g.sl ag cg)) ag25 rfl rfl rfl)) w hs, ((lhA (ctl c (c.sl ah ch)) ag28 rfl rfl rfl)) w hs, trivial⟩) ?_
 exact sy_to (h1110101011010000 (a1, c1, b11, b12, b14)) (by repeat' first | exact Sub.nil | apply Sub.cons | rfl | (simp [lk]; omega)) (fun _ h => St.sub (((h.pull b11).pull b12).pull b14))
 refine sy_alt ?_ ?_
 refine alc rfl zl59 rfl (fun b13 => ?_)
 refine bg (fun w hs => ⟨((lhA (ctl c (c.sl ah ch)) ag28 rfl rfl rfl)) w hs, ((lhA (gtl g (g.sl ag cg)) ag25 rfl rfl rfl)) w hs, ((lhA (ctl c (c.sl ah ch)) ag28 rfl rfl rfl)) w hs, trivial⟩) ?_
 exact sy_to (h1110101001110000 (a1, c1, b12, b13, b14)) (by repeat' first | exact Sub.nil | apply Sub.cons | rfl | (simp [lk]; omega)) (fun _ h => St.sub (((h.pull b12).pull b13).pull b14))
 exact sy_stop
 refine sy_have (β := Option Addr × Nat × Nat) pl9_3_1110101001000000 (fun ⟨a1, c1, b12⟩ => ([(12, .pointer (some ⟨b12, 0, none⟩)), (37, g.v (g.sl a1 c1)), (2, .int .i64 n), (3, .int .i64 k), (5, .pointer (some ⟨b5, 0, none⟩)), (6, .pointer (some ⟨b6, 0, none⟩)), (9, .pointer (some ⟨b9, 0, none⟩)), (36, g.v (g.sl ag cg)), (38, c.v (c.sl ah ch)), (40, g.v (g.sl ag cg)), (42, c.v (c.sl ah ch))], (b12, cel 28 ([.int .i64 0, .int .i64 0, .slice none 0 0])) :: (b9, cel 29 (ints m)) :: (b6, cel 28 (ctl c (c.sl ah ch))) :: (b5, cel 25 (gtl g (g.sl ag cg))) :: H, RowsA a1 5 (grows g.grs) :: R, [(6, Ld Try.prog 28 ⟨b6, 0, none⟩ (c.v (c.sl ah ch))), (4, Ld Try.prog 25 ⟨b5, 0, none⟩ (g.v (g.sl ag cg))), (2, Ld Try.prog 28 ⟨b6, 0, none⟩ (c.v (c.sl ah ch)))])) (fun v9 => ?_) (fun h1110101001000000 => ?_)
 obtain ⟨a1, c1, b12⟩ := v9
 dsimp only
 unfold pl9_3_1110101001000000
 refine sy_any ?_
 refine sy_alt ?_ ?_
 refine cl rfl cal26 rfl rfl (c_Owned c ah ch (by omega) _ _) ?_
 rintro _ _ R1 ⟨o, rfl, ho, rfl, hR1⟩
 obtain rfl := hR1.symm
 clear hR1
 obtain ⟨a2, c2, he, hf⟩ := o.freeze
 rw [he]
 refine Sy.heap (H' := _) (fun w h => hf h) ?_
 rw [show (hrows c.hs).length = c.hs.length from List.length_map _]
 clear he hf
 refine bg (fun w hs => ⟨((lhA (ctl c (c.sl ah ch)) ag28 rfl rfl rfl)) w hs, ((lhA (gtl g (g.sl ag cg)) ag25 rfl rfl rfl)) w hs, trivial, trivial⟩) ?_
 exact sy_to (h1111101001000000 (a1, c1, a2, c2, b12)) (by repeat' first | exact Sub.nil | apply Sub.cons | rfl | (simp [lk]; omega)) (fun _ h => St.sub (h.pull b12))
 refine sy_alt ?_ ?_
 refine alc rfl zl25 rfl (fun b11 => ?_)
 refine bg (fun w hs => ⟨((lhA (ctl c (c.sl ah ch)) ag28 rfl rfl rfl)) w hs, ((lhA (gtl g (g.sl ag cg)) ag25 rfl rfl rfl)) w hs, ((lhA (ctl c (c.sl ah ch)) ag28 rfl rfl rfl)) w hs, trivial⟩) ?_
 exact sy_to (h1110101011000000 (a1, c1, b11, b12)) (by repeat' first | exact Sub.nil | apply Sub.cons | rfl | (simp [lk]; omega)) (fun _ h => St.sub ((h.pull b11).pull b12))
 refine sy_alt ?_ ?_
 refine alc rfl zl59 rfl (fun b13 => ?_)
 refine bg (fun w hs => ⟨((lhA (ctl c (c.sl ah ch)) ag28 rfl rfl rfl)) w hs, ((lhA (gtl g (g.sl ag cg)) ag25 rfl rfl rfl)) w hs, ((lhA (ctl c (c.sl ah ch)) ag28 rfl rfl rfl)) w hs, trivial⟩) ?_
 exact sy_to (h1110101001100000 (a1, c1, b12, b13)) (by repeat' first | exact Sub.nil | apply Sub.cons | rfl | (simp [lk]; omega)) (fun _ h => St.sub ((h.pull b12).pull b13))
 refine sy_alt ?_ ?_
 refine alc rfl zl63 rfl (fun b14 => ?_)
 refine bg (fun w hs => ⟨((lhA (ctl c (c.sl ah ch)) ag28 rfl rfl rfl)) w hs, ((lhA (gtl g (g.sl ag cg)) ag25 rfl rfl rfl)) w hs, ((lhA (ctl c (c.sl ah ch)) ag28 rfl rfl rfl)) w hs, trivial⟩) ?_
 exact sy_to (h1110101001010000 (a1, c1, b12, b14)) (by repeat' first | exact Sub.nil | apply Sub.cons | rfl | (simp [lk]; omega)) (fun _ h => St.sub ((h.pull b12).pull b14))
 exact sy_stop
 refine sy_have (β := Option Addr × Nat × Nat × Nat) pl9_3_1110101000110000 (fun ⟨a1, c1, b13, b14⟩ => ([(14, .pointer (some ⟨b14, 0, none⟩)), (13, .pointer (some ⟨b13, 0, none⟩)), (37, g.v (g.sl a1 c1)), (2, .int .i64 n), (3, .int .i64 k), (5, .pointer (some ⟨b5, 0, none⟩)), (6, .pointer (some ⟨b6, 0, none⟩)), (9, .pointer (some ⟨b9, 0, none⟩)), (36, g.v (g.sl ag cg)), (38, c.v (c.sl ah ch)), (40, g.v (g.sl ag cg)), (42, c.v (c.sl ah ch))], (b14, cel 63 ([.int .i64 0, .int .i64 0, .slice none 0 0])) :: (b13, cel 59 ([.int .i64 0, .int .i64 0, .slice none 0 0])) :: (b9, cel 29 (ints m)) :: (b6, cel 28 (ctl c (c.sl ah ch))) :: (b5, cel 25 (gtl g (g.sl ag cg))) :: H, RowsA a1 5 (grows g.grs) :: R, [(6, Ld Try.prog 28 ⟨b6, 0, none⟩ (c.v (c.sl ah ch))), (4, Ld Try.prog 25 ⟨b5, 0, none⟩ (g.v (g.sl ag cg))), (2, Ld Try.prog 28 ⟨b6, 0, none⟩ (c.v (c.sl ah ch)))])) (fun v9 => ?_) (fun h1110101000110000 => ?_)
 obtain ⟨a1, c1, b13, b14⟩ := v9
 dsimp only
 unfold pl9_3_1110101000110000
 refine sy_any ?_
 refine sy_alt ?_ ?_
 refine cl rfl cal26 rfl rfl (c_Owned c ah ch (by omega) _ _) ?_
 rintro _ _ R1 ⟨o, rfl, ho, rfl, hR1⟩
 obtain rfl := hR1.symm
 clear hR1
 obtain ⟨a2, c2, he, hf⟩ := o.freeze
 rw [he]
 refine Sy.heap (H' := _) (fun w h => hf h) ?_
 rw [show (hrows c.hs).length = c.hs.length from List.length_map _]
 clear he hf
 refine bg (fun w hs => ⟨((lhA (ctl c (c.sl ah ch)) ag28 rfl rfl rfl)) w hs, ((lhA (gtl g (g.sl ag cg)) ag25 rfl rfl rfl)) w hs, trivial, trivial⟩) ?_
 exact sy_to (h1111101000110000 (a1, c1, a2, c2, b13, b14)) (by repeat' first | exact Sub.nil | apply Sub.cons | rfl | (simp [lk]; omega)) (fun _ h => St.sub ((h.pull b13).pull b14))
 refine sy_alt ?_ ?_
 refine alc rfl zl25 rfl (fun b11 => ?_)
 refine bg (fun w hs => ⟨((lhA (ctl c (c.sl ah ch)) ag28 rfl rfl rfl)) w hs, ((lhA (gtl g (g.sl ag cg)) ag25 rfl rfl rfl)) w hs, ((lhA (ctl c (c.sl ah ch)) ag28 rfl rfl rfl)) w hs, trivial⟩) ?_
 exact sy_to (h1110101010110000 (a1, c1, b11, b13, b14)) (by repeat' first | exact Sub.nil | apply Sub.cons | rfl | (simp [lk]; omega)) (fun _ h => St.sub (((h.pull b11).pull b13).pull b14))
 refine sy_alt ?_ ?_
 refine alc rfl zl28 rfl (fun b12 => ?_)
 refine bg (fun w hs => ⟨((lhA (ctl c (c.sl ah ch)) ag28 rfl rfl rfl)) w hs, ((lhA (gtl g (g.sl ag cg)) ag25 rfl rfl rfl)) w hs, ((lhA (ctl c (c.sl ah ch)) ag28 rfl rfl rfl)) w hs, trivial⟩) ?_
 exact sy_to (h1110101001110000 (a1, c1, b12, b13, b14)) (by repeat' first | exact Sub.nil | apply Sub.cons | rfl | (simp [lk]; omega)) (fun _ h => St.sub (((h.pull b12).pull b13).pull b14))
 exact sy_stop
 refine sy_have (β := Option Addr × Nat × Nat) pl9_3_1110101000100000 (fun ⟨a1, c1, b13⟩ => ([(13, .pointer (some ⟨b13, 0, none⟩)), (37, g.v (g.sl a1 c1)), (2, .int .i64 n), (3, .int .i64 k), (5, .pointer (some ⟨b5, 0, none⟩)), (6, .pointer (some ⟨b6, 0, none⟩)), (9, .pointer (some ⟨b9, 0, none⟩)), (36, g.v (g.sl ag cg)), (38, c.v (c.sl ah ch)), (40, g.v (g.sl ag cg)), (42, c.v (c.sl ah ch))], (b13, cel 59 ([.int .i64 0, .int .i64 0, .slice none 0 0])) :: (b9, cel 29 (ints m)) :: (b6, cel 28 (ctl c (c.sl ah ch))) :: (b5, cel 25 (gtl g (g.sl ag cg))) :: H, RowsA a1 5 (grows g.grs) :: R, [(6, Ld Try.prog 28 ⟨b6, 0, none⟩ (c.v (c.sl ah ch))), (4, Ld Try.prog 25 ⟨b5, 0, none⟩ (g.v (g.sl ag cg))), (2, Ld Try.prog 28 ⟨b6, 0, none⟩ (c.v (c.sl ah ch)))])) (fun v9 => ?_) (fun h1110101000100000 => ?_)
 obtain ⟨a1, c1, b13⟩ := v9
 dsimp only
 unfold pl9_3_1110101000100000
 refine sy_any ?_
 refine sy_alt ?_ ?_
 refine cl rfl cal26 rfl rfl (c_Owned c ah ch (by omega) _ _) ?_
 rintro _ _ R1 ⟨o, rfl, ho, rfl, hR1⟩
 obtain rfl := hR1.symm
 clear hR1
 obtain ⟨a2, c2, he, hf⟩ := o.freeze
 rw [he]
 refine Sy.heap (H' := _) (fun w h => hf h) ?_
 rw [show (hrows c.hs).length = c.hs.length from List.length_map _]
 clear he hf
 refine bg (fun w hs => ⟨((lhA (ctl c (c.sl ah ch)) ag28 rfl rfl rfl)) w hs, ((lhA (gtl g (g.sl ag cg)) ag25 rfl rfl rfl)) w hs, trivial, trivial⟩) ?_
 exact sy_to (h1111101000100000 (a1, c1, a2, c2, b13)) (by repeat' first | exact Sub.nil | apply Sub.cons | rfl | (simp [lk]; omega)) (fun _ h => St.sub (h.pull b13))
 refine sy_alt ?_ ?_
 refine alc rfl zl25 rfl (fun b11 => ?_)
 refine bg (fun w hs => ⟨((lhA (ctl c (c.sl ah ch)) ag28 rfl rfl rfl)) w hs, ((lhA (gtl g (g.sl ag cg)) ag25 rfl rfl rfl)) w hs, ((lhA (ctl c (c.sl ah ch)) ag28 rfl rfl rfl)) w hs, trivial⟩) ?_
 exact sy_to (h1110101010100000 (a1, c1, b11, b13)) (by repeat' first | exact Sub.nil | apply Sub.cons | rfl | (simp [lk]; omega)) (fun _ h => St.sub ((h.pull b11).pull b13))
 refine sy_alt ?_ ?_
 refine alc rfl zl28 rfl (fun b12 => ?_)
 refine bg (fun w hs => ⟨((lhA (ctl c (c.sl ah ch)) ag28 rfl rfl rfl)) w hs, ((lhA (gtl g (g.sl ag cg)) ag25 rfl rfl rfl)) w hs, ((lhA (ctl c (c.sl ah ch)) ag28 rfl rfl rfl)) w hs, trivial⟩) ?_
 exact sy_to (h1110101001100000 (a1, c1, b12, b13)) (by repeat' first | exact Sub.nil | apply Sub.cons | rfl | (simp [lk]; omega)) (fun _ h => St.sub ((h.pull b12).pull b13))
 refine sy_alt ?_ ?_
 refine alc rfl zl63 rfl (fun b14 => ?_)
 refine bg (fun w hs => ⟨((lhA (ctl c (c.sl ah ch)) ag28 rfl rfl rfl)) w hs, ((lhA (gtl g (g.sl ag cg)) ag25 rfl rfl rfl)) w hs, ((lhA (ctl c (c.sl ah ch)) ag28 rfl rfl rfl)) w hs, trivial⟩) ?_
 exact sy_to (h1110101000110000 (a1, c1, b13, b14)) (by repeat' first | exact Sub.nil | apply Sub.cons | rfl | (simp [lk]; omega)) (fun _ h => St.sub ((h.pull b13).pull b14))
 exact sy_stop
 refine sy_have (β := Option Addr × Nat × Nat) pl9_3_1110101000010000 (fun ⟨a1, c1, b14⟩ => ([(14, .pointer (some ⟨b14, 0, none⟩)), (37, g.v (g.sl a1 c1)), (2, .int .i64 n), (3, .int .i64 k), (5, .pointer (some ⟨b5, 0, none⟩)), (6, .pointer (some ⟨b6, 0, none⟩)), (9, .pointer (some ⟨b9, 0, none⟩)), (36, g.v (g.sl ag cg)), (38, c.v (c.sl ah ch)), (40, g.v (g.sl ag cg)), (42, c.v (c.sl ah ch))], (b14, cel 63 ([.int .i64 0, .int .i64 0, .slice none 0 0])) :: (b9, cel 29 (ints m)) :: (b6, cel 28 (ctl c (c.sl ah ch))) :: (b5, cel 25 (gtl g (g.sl ag cg))) :: H, RowsA a1 5 (grows g.grs) :: R, [(6, Ld Try.prog 28 ⟨b6, 0, none⟩ (c.v (c.sl ah ch))), (4, Ld Try.prog 25 ⟨b5, 0, none⟩ (g.v (g.sl ag cg))), (2, Ld Try.prog 28 ⟨b6, 0, none⟩ (c.v (c.sl ah ch)))])) (fun v9 => ?_) (fun h1110101000010000 => ?_)
 obtain ⟨a1, c1, b14⟩ := v9
 dsimp only
 unfold pl9_3_1110101000010000
 refine sy_any ?_
 refine sy_alt ?_ ?_
 refine cl rfl cal26 rfl rfl (c_Owned c ah ch (by omega) _ _) ?_
 rintro _ _ R1 ⟨o, rfl, ho, rfl, hR1⟩
 obtain rfl := hR1.symm
 clear hR1
 obtain ⟨a2, c2, he, hf⟩ := o.freeze
 rw [he]
 refine Sy.heap (H' := _) (fun w h => hf h) ?_
 rw [show (hrows c.hs).length = c.hs.length from List.length_map _]
 clear he hf
 refine bg (fun w hs => ⟨((lhA (ctl c (c.sl ah ch)) ag28 rfl rfl rfl)) w hs, ((lhA (gtl g (g.sl ag cg)) ag25 rfl rfl rfl)) w hs, trivial, trivial⟩) ?_
 exact sy_to (h1111101000010000 (a1, c1, a2, c2, b14)) (by repeat' first | exact Sub.nil | apply Sub.cons | rfl | (simp [lk]; omega)) (fun _ h => St.sub (h.pull b14))
 refine sy_alt ?_ ?_
 refine alc rfl zl25 rfl (fun b11 => ?_)
 refine bg (fun w hs => ⟨((lhA (ctl c (c.sl ah ch)) ag28 rfl rfl rfl)) w hs, ((lhA (gtl g (g.sl ag cg)) ag25 rfl rfl rfl)) w hs, ((lhA (ctl c (c.sl ah ch)) ag28 rfl rfl rfl)) w hs, trivial⟩) ?_
 exact sy_to (h1110101010010000 (a1, c1, b11, b14)) (by repeat' first | exact Sub.nil | apply Sub.cons | rfl | (simp [lk]; omega)) (fun _ h => St.sub ((h.pull b11).pull b14))
 refine sy_alt ?_ ?_
 refine alc rfl zl28 rfl (fun b12 => ?_)
 refine bg (fun w hs => ⟨((lhA (ctl c (c.sl ah ch)) ag28 rfl rfl rfl)) w hs, ((lhA (gtl g (g.sl ag cg)) ag25 rfl rfl rfl)) w hs, ((lhA (ctl c (c.sl ah ch)) ag28 rfl rfl rfl)) w hs, trivial⟩) ?_
 exact sy_to (h1110101001010000 (a1, c1, b12, b14)) (by repeat' first | exact Sub.nil | apply Sub.cons | rfl | (simp [lk]; omega)) (fun _ h => St.sub ((h.pull b12).pull b14))
 refine sy_alt ?_ ?_
 refine alc rfl zl59 rfl (fun b13 => ?_)
 refine bg (fun w hs => ⟨((lhA (ctl c (c.sl ah ch)) ag28 rfl rfl rfl)) w hs, ((lhA (gtl g (g.sl ag cg)) ag25 rfl rfl rfl)) w hs, ((lhA (ctl c (c.sl ah ch)) ag28 rfl rfl rfl)) w hs, trivial⟩) ?_
 exact sy_to (h1110101000110000 (a1, c1, b13, b14)) (by repeat' first | exact Sub.nil | apply Sub.cons | rfl | (simp [lk]; omega)) (fun _ h => St.sub ((h.pull b13).pull b14))
 exact sy_stop
 refine sy_have (β := Nat × Nat × Nat × Nat) pl9_3_1010101011110000 (fun ⟨b11, b12, b13, b14⟩ => ([(14, .pointer (some ⟨b14, 0, none⟩)), (13, .pointer (some ⟨b13, 0, none⟩)), (12, .pointer (some ⟨b12, 0, none⟩)), (11, .pointer (some ⟨b11, 0, none⟩)), (2, .int .i64 n), (3, .int .i64 k), (5, .pointer (some ⟨b5, 0, none⟩)), (6, .pointer (some ⟨b6, 0, none⟩)), (9, .pointer (some ⟨b9, 0, none⟩)), (36, g.v (g.sl ag cg)), (38, c.v (c.sl ah ch)), (40, g.v (g.sl ag cg)), (42, c.v (c.sl ah ch))], (b14, cel 63 ([.int .i64 0, .int .i64 0, .slice none 0 0])) :: (b13, cel 59 ([.int .i64 0, .int .i64 0, .slice none 0 0])) :: (b12, cel 28 ([.int .i64 0, .int .i64 0, .slice none 0 0])) :: (b11, cel 25 ([.int .i64 0, .int .i64 0, .slice none 0 0])) :: (b9, cel 29 (ints m)) :: (b6, cel 28 (ctl c (c.sl ah ch))) :: (b5, cel 25 (gtl g (g.sl ag cg))) :: H, R, [(6, Ld Try.prog 28 ⟨b6, 0, none⟩ (c.v (c.sl ah ch))), (4, Ld Try.prog 25 ⟨b5, 0, none⟩ (g.v (g.sl ag cg))), (2, Ld Try.prog 28 ⟨b6, 0, none⟩ (c.v (c.sl ah ch))), (0, Ld Try.prog 25 ⟨b5, 0, none⟩ (g.v (g.sl ag cg)))])) (fun v9 => ?_) (fun h1010101011110000 => ?_)
 obtain ⟨b11, b12, b13, b14⟩ := v9
 dsimp only
 unfold pl9_3_1010101011110000
 refine cl rfl cal25 rfl rfl (c_Own g ag cg (by omega) _ _) ?_
 rintro _ _ R1 ⟨o, rfl, ho, rfl, hR1⟩
 obtain rfl := hR1.symm
 clear hR1
 obtain ⟨a1, c1, he, hf⟩ := o.freeze
 rw [he]
 refine Sy.heap (H' := _) (fun w h => hf h) ?_
 rw [show (grows g.grs).length = g.grs.length from List.length_map _]
 clear he hf
 refine bg (fun w hs => ⟨((lhA (ctl c (c.sl ah ch)) ag28 rfl rfl rfl)) w hs, ((lhA (gtl g (g.sl ag cg)) ag25 rfl rfl rfl)) w hs, ((lhA (ctl c (c.sl ah ch)) ag28 rfl rfl rfl)) w hs, trivial, trivial⟩) ?_
 exact sy_to (h1110101011110000 (a1, c1, b11, b12, b13, b14)) (by repeat' first | exact Sub.nil | apply Sub.cons | rfl | (simp [lk]; omega)) (fun _ h => St.sub ((((h.pull b11).pull b12).pull b13).pull b14))
 refine sy_have (β := Nat × Nat × Nat) pl9_3_1010101011100000 (fun ⟨b11, b12, b13⟩ => ([(13, .pointer (some ⟨b13, 0, none⟩)), (12, .pointer (some ⟨b12, 0, none⟩)), (11, .pointer (some ⟨b11, 0, none⟩)), (2, .int .i64 n), (3, .int .i64 k), (5, .pointer (some ⟨b5, 0, none⟩)), (6, .pointer (some ⟨b6, 0, none⟩)), (9, .pointer (some ⟨b9, 0, none⟩)), (36, g.v (g.sl ag cg)), (38, c.v (c.sl ah ch)), (40, g.v (g.sl ag cg)), (42, c.v (c.sl ah ch))], (b13, cel 59 ([.int .i64 0, .int .i64 0, .slice none 0 0])) :: (b12, cel 28 ([.int .i64 0, .int .i64 0, .slice none 0 0])) :: (b11, cel 25 ([.int .i64 0, .int .i64 0, .slice none 0 0])) :: (b9, cel 29 (ints m)) :: (b6, cel 28 (ctl c (c.sl ah ch))) :: (b5, cel 25 (gtl g (g.sl ag cg))) :: H, R, [(6, Ld Try.prog 28 ⟨b6, 0, none⟩ (c.v (c.sl ah ch))), (4, Ld Try.prog 25 ⟨b5, 0, none⟩ (g.v (g.sl ag cg))), (2, Ld Try.prog 28 ⟨b6, 0, none⟩ (c.v (c.sl ah ch))), (0, Ld Try.prog 25 ⟨b5, 0, none⟩ (g.v (g.sl ag cg)))])) (fun v9 => ?_) (fun h1010101011100000 => ?_)
 obtain ⟨b11, b12, b13⟩ := v9
 dsimp only
 unfold pl9_3_1010101011100000
 refine sy_any ?_
 refine sy_alt ?_ ?_
 refine cl rfl cal25 rfl rfl (c_Own g ag cg (by omega) _ _) ?_
 rintro _ _ R1 ⟨o, rfl, ho, rfl, hR1⟩
 obtain rfl := hR1.symm
 clear hR1
 obtain ⟨a1, c1, he, hf⟩ := o.freeze
 rw [he]
 refine Sy.heap (H' := _) (fun w h => hf h) ?_
 rw [show (grows g.grs).length = g.grs.length from List.length_map _]
 clear he hf
 refine bg (fun w hs => ⟨((lhA (ctl c (c.sl ah ch)) ag28 rfl rfl rfl)) w hs, ((lhA (gtl g (g.sl ag cg)) ag25 rfl rfl rfl)) w hs, ((lhA (ctl c (c.sl ah ch)) ag28 rfl rfl rfl)) w hs, trivial, trivial⟩) ?_
 exact sy_to (h1110101011100000 (a1, c1, b11, b12, b13)) (by repeat' first | exact Sub.nil | apply Sub.cons | rfl | (simp [lk]; omega)) (fun _ h => St.sub (((h.pull b11).pull b12).pull b13))
 refine sy_alt ?_ ?_
 refine alc rfl zl63 rfl (fun b14 => ?_)
 refine bg (fun w hs => ⟨((lhA (ctl c (c.sl ah ch)) ag28 rfl rfl rfl)) w hs, ((lhA (gtl g (g.sl ag cg)) ag25 rfl rfl rfl)) w hs, ((lhA (ctl c (c.sl ah ch)) ag28 rfl rfl rfl)) w hs, ((lhA (gtl g (g.sl ag cg)) ag25 rfl rfl rfl)) w hs, trivial⟩) ?_
 exact sy_to (h1010101011110000 (b11, b12, b13, b14)) (by repeat' first | exact Sub.nil | apply Sub.cons | rfl | (simp [lk]; omega)) (fun _ h => St.sub ((((h.pull b11).pull b12).pull b13).pull b14))
 exact sy_stop
 refine sy_have (β := Nat × Nat × Nat) pl9_3_1010101011010000 (fun ⟨b11, b12, b14⟩ => ([(14, .pointer (some ⟨b14, 0, none⟩)), (12, .pointer (some ⟨b12, 0, none⟩)), (11, .pointer (some ⟨b11, 0, none⟩)), (2, .int .i64 n), (3, .int .i64 k), (5, .pointer (some ⟨b5, 0, none⟩)), (6, .pointer (some ⟨b6, 0, none⟩)), (9, .pointer (some ⟨b9, 0, none⟩)), (36, g.v (g.sl ag cg)), (38, c.v (c.sl ah ch)), (40, g.v (g.sl ag cg)), (42, c.v (c.sl ah ch))], (b14, cel 63 ([.int .i64 0, .int .i64 0, .slice none 0 0])) :: (b12, cel 28 ([.int .i64 0, .int .i64 0, .slice none 0 0])) :: (b11, cel 25 ([.int .i64 0, .int .i64 0, .slice none 0 0])) :: (b9, cel 29 (ints m)) :: (b6, cel 28 (ctl c (c.sl ah ch))) :: (b5, cel 25 (gtl g (g.sl ag cg))) :: H, R, [(6, Ld Try.prog 28 ⟨b6, 0, none⟩ (c.v (c.sl ah ch))), (4, Ld Try.prog 25 ⟨b5, 0, none⟩ (g.v (g.sl ag cg))), (2, Ld Try.prog 28 ⟨b6, 0, none⟩ (c.v (c.sl ah ch))), (0, Ld Try.prog 25 ⟨b5, 0, none⟩ (g.v (g.sl ag cg)))])) (fun v9 => ?_) (fun h1010101011010000 => ?_)
 obtain ⟨b11, b12, b14⟩ := v9
 dsimp only
 unfold pl9_3_1010101011010000
 refine sy_any ?_
 refine sy_alt ?_ ?_
 refine cl rfl cal25 rfl rfl (c_Own g ag cg (by omega) _ _) ?_
 rintro _ _ R1 ⟨o, rfl, ho, rfl, hR1⟩
 obtain rfl := hR1.symm
 clear hR1
 obtain ⟨a1, c1, he, hf⟩ := o.freeze
 rw [he]
 refine Sy.heap (H' := _) (fun w h => hf h) ?_
 rw [show (grows g.grs).length = g.grs.length from List.length_map _]
 clear he hf
 refine bg (fun w hs => ⟨((lhA (ctl c (c.sl ah ch)) ag28 rfl rfl rfl)) w hs, ((lhA (gtl g (g.sl ag cg)) ag25 rfl rfl rfl)) w hs, ((lhA (ctl c (c.sl ah ch)) ag28 rfl rfl rfl)) w hs, trivial, trivial⟩) ?_
 exact sy_to (h1110101011010000 (a1, c1, b11, b12, b14)) (by repeat' first | exact Sub.nil | apply Sub.cons | rfl | (simp [lk]; omega)) (fun _ h => St.sub (((h.pull b11).pull b12).pull b14))
 refine sy_alt ?_ ?_
 refine alc rfl zl59 rfl (fun b13 => ?_)
 refine bg (fun w hs => ⟨((lhA (ctl c (c.sl ah ch)) ag28 rfl rfl rfl)) w hs, ((lhA (gtl g (g.sl ag cg)) ag25 rfl rfl rfl)) w hs, ((lhA (ctl c (c.sl ah ch)) ag28 rfl rfl rfl)) w hs, ((lhA (gtl g (g.sl ag cg)) ag25 rfl rfl rfl)) w hs, trivial⟩) ?_
 exact sy_to (h1010101011110000 (b11, b12, b13, b14)) (by repeat' first | exact Sub.nil | apply Sub.cons | rfl | (simp [lk]; omega)) (fun _ h => St.sub ((((h.pull b11).pull b12).pull b13).pull b14))
 exact sy_stop
 refine sy_have (β := Nat × Nat) pl9_3_1010101011000000 (fun ⟨b11, b12⟩ => ([(12, .pointer (some ⟨b12, 0, none⟩)), (11, .pointer (some ⟨b11, 0, none⟩)), (2, .int .i64 n), (3, .int .i64 k), (5, .pointer (some ⟨b5, 0, none⟩)), (6, .pointer (some ⟨b6, 0, none⟩)), (9, .pointer (some ⟨b9, 0, none⟩)), (36, g.v (g.sl ag cg)), (38, c.v (c.sl ah ch)), (40, g.v (g.sl ag cg)), (42, c.v (c.sl ah ch))], (b12, cel 28 ([.int .i64 0, .int .i64 0, .slice none 0 0])) :: (b11, cel 25 ([.int .i64 0, .int .i64 0, .slice none 0 0])) :: (b9, cel 29 (ints m)) :: (b6, cel 28 (ctl c (c.sl ah ch))) :: (b5, cel 25 (gtl g (g.sl ag cg))) :: H, R, [(6, Ld Try.prog 28 ⟨b6, 0, none⟩ (c.v (c.sl ah ch))), (4, Ld Try.prog 25 ⟨b5, 0, none⟩ (g.v (g.sl ag cg))), (2, Ld Try.prog 28 ⟨b6, 0, none⟩ (c.v (c.sl ah ch))), (0, Ld Try.prog 25 ⟨b5, 0, none⟩ (g.v (g.sl ag cg)))])) (fun v9 => ?_) (fun h1010101011000000 => ?_)
 obtain ⟨b11, b12⟩ := v9
 dsimp only
 unfold pl9_3_1010101011000000
 refine sy_any ?_
 refine sy_alt ?_ ?_
 refine cl rfl cal25 rfl rfl (c_Own g ag cg (by omega) _ _) ?_
 rintro _ _ R1 ⟨o, rfl, ho, rfl, hR1⟩
 obtain rfl := hR1.symm
 clear hR1
 obtain ⟨a1, c1, he, hf⟩ := o.freeze
 rw [he]
 refine Sy.heap (H' := _) (fun w h => hf h) ?_
 rw [show (grows g.grs).length = g.grs.length from List.length_map _]
 clear he hf
 refine bg (fun w hs => ⟨((lhA (ctl c (c.sl ah ch)) ag28 rfl rfl rfl)) w hs, ((lhA (gtl g (g.sl ag cg)) ag25 rfl rfl rfl)) w hs, ((lhA (ctl c (c.sl ah ch)) ag28 rfl rfl rfl)) w hs, trivial, trivial⟩) ?_
 exact sy_to (h1110101011000000 (a1, c1, b11, b12)) (by repeat' first | exact Sub.nil | apply Sub.cons | rfl | (simp [lk]; omega)) (fun _ h => St.sub ((h.pull b11).pull b12))
 refine sy_alt ?_ ?_
 refine alc rfl zl59 rfl (fun b13 => ?_)
 refine bg (fun w hs => ⟨((lhA (ctl c (c.sl ah ch)) ag28 rfl rfl rfl)) w hs, ((lhA (gtl g (g.sl ag cg)) ag25 rfl rfl rfl)) w hs, ((lhA (ctl c (c.sl ah ch)) ag28 rfl rfl rfl)) w hs, ((lhA (gtl g (g.sl ag cg)) ag25 rfl rfl rfl)) w hs, trivial⟩) ?_
 exact sy_to (h1010101011100000 (b11, b12, b13)) (by repeat' first | exact Sub.nil | apply Sub.cons | rfl | (simp [lk]; omega)) (fun _ h => St.sub (((h.pull b11).pull b12).pull b13))
 refine sy_alt ?_ ?_
 refine alc rfl zl63 rfl (fun b14 => ?_)
 refine bg (fun w hs => ⟨((lhA (ctl c (c.sl ah ch)) ag28 rfl rfl rfl)) w hs, ((lhA (gtl g (g.sl ag cg)) ag25 rfl rfl rfl)) w hs, ((lhA (ctl c (c.sl ah ch)) ag28 rfl rfl rfl)) w hs, ((lhA (gtl g (g.sl ag cg)) ag25 rfl rfl rfl)) w hs, trivial⟩) ?_
 exact sy_to (h1010101011010000 (b11, b12, b14)) (by repeat' first | exact Sub.nil | apply Sub.cons | rfl | (simp [lk]; omega)) (fun _ h => St.sub (((h.pull b11).pull b12).pull b14))
 exact sy_stop
 refine sy_have (β := Nat × Nat × Nat) pl9_3_1010101010110000 (fun ⟨b11, b13, b14⟩ => ([(14, .pointer (some ⟨b14, 0, none⟩)), (13, .pointer (some ⟨b13, 0, none⟩)), (11, .pointer (some ⟨b11, 0, none⟩)), (2, .int .i64 n), (3, .int .i64 k), (5, .pointer (some ⟨b5, 0, none⟩)), (6, .pointer (some ⟨b6, 0, none⟩)), (9, .pointer (some ⟨b9, 0, none⟩)), (36, g.v (g.sl ag cg)), (38, c.v (c.sl ah ch)), (40, g.v (g.sl ag cg)), (42, c.v (c.sl ah ch))], (b14, cel 63 ([.int .i64 0, .int .i64 0, .slice none 0 0])) :: (b13, cel 59 ([.int .i64 0, .int .i64 0, .slice none 0 0])) :: (b11, cel 25 ([.int .i64 0, .int .i64 0, .slice none 0 0])) :: (b9, cel 29 (ints m)) :: (b6, cel 28 (ctl c (c.sl ah ch))) :: (b5, cel 25 (gtl g (g.sl ag cg))) :: H, R, [(6, Ld Try.prog 28 ⟨b6, 0, none⟩ (c.v (c.sl ah ch))), (4, Ld Try.prog 25 ⟨b5, 0, none⟩ (g.v (g.sl ag cg))), (2, Ld Try.prog 28 ⟨b6, 0, none⟩ (c.v (c.sl ah ch))), (0, Ld Try.prog 25 ⟨b5, 0, none⟩ (g.v (g.sl ag cg)))])) (fun v9 => ?_) (fun h1010101010110000 => ?_)
 obtain ⟨b11, b13, b14⟩ := v9
 dsimp only
 unfold pl9_3_1010101010110000
 refine sy_any ?_
 refine sy_alt ?_ ?_
 refine cl rfl cal25 rfl rfl (c_Own g ag cg (by omega) _ _) ?_
 rintro _ _ R1 ⟨o, rfl, ho, rfl, hR1⟩
 obtain rfl := hR1.symm
 clear hR1
 obtain ⟨a1, c1, he, hf⟩ := o.freeze
 rw [he]
 refine Sy.heap (H' := _) (fun w h => hf h) ?_
 rw [show (grows g.grs).length = g.grs.length from List.length_map _]
 clear he hf
 refine bg (fun w hs => ⟨((lhA (ctl c (c.sl ah ch)) ag28 rfl rfl rfl)) w hs, ((lhA (gtl g (g.sl ag cg)) ag25 rfl rfl rfl)) w hs, ((lhA (ctl c (c.sl ah ch)) ag28 rfl rfl rfl)) w hs, trivial, trivial⟩) ?_
 exact sy_to (h1110101010110000 (a1, c1, b11, b13, b14)) (by repeat' first | exact Sub.nil | apply Sub.cons | rfl | (simp [lk]; omega)) (fun _ h => St.sub (((h.pull b11).pull b13).pull b14))
 refine sy_alt ?_ ?_
 refine alc rfl zl28 rfl (fun b12 => ?_)
 refine bg (fun w hs => ⟨((lhA (ctl c (c.sl ah ch)) ag28 rfl rfl rfl)) w hs, ((lhA (gtl g (g.sl ag cg)) ag25 rfl rfl rfl)) w hs, ((lhA (ctl c (c.sl ah ch)) ag28 rfl rfl rfl)) w hs, ((lhA (gtl g (g.sl ag cg)) ag25 rfl rfl rfl)) w hs, trivial⟩) ?_
 exact sy_to (h1010101011110000 (b11, b12, b13, b14)) (by repeat' first | exact Sub.nil | apply Sub.cons | rfl | (simp [lk]; omega)) (fun _ h => St.sub ((((h.pull b11).pull b12).pull b13).pull b14))
 exact sy_stop
 refine sy_have (β := Nat × Nat) pl9_3_1010101010100000 (fun ⟨b11, b13⟩ => ([(13, .pointer (some ⟨b13, 0, none⟩)), (11, .pointer (some ⟨b11, 0, none⟩)), (2, .int .i64 n), (3, .int .i64 k), (5, .pointer (some ⟨b5, 0, none⟩)), (6, .pointer (some ⟨b6, 0, none⟩)), (9, .pointer (some ⟨b9, 0, none⟩)), (36, g.v (g.sl ag cg)), (38, c.v (c.sl ah ch)), (40, g.v (g.sl ag cg)), (42, c.v (c.sl ah ch))], (b13, cel 59 ([.int .i64 0, .int .i64 0, .slice none 0 0])) :: (b11, cel 25 ([.int .i64 0, .int .i64 0, .slice none 0 0])) :: (b9, cel 29 (ints m)) :: (b6, cel 28 (ctl c (c.sl ah ch))) :: (b5, cel 25 (gtl g (g.sl ag cg))) :: H, R, [(6, Ld Try.prog 28 ⟨b6, 0, none⟩ (c.v (c.sl ah ch))), (4, Ld Try.prog 25 ⟨b5, 0, none⟩ (g.v (g.sl ag cg))), (2, Ld Try.prog 28 ⟨b6, 0, none⟩ (c.v (c.sl ah ch))), (0, Ld Try.prog 25 ⟨b5, 0, none⟩ (g.v (g.sl ag cg)))])) (fun v9 => ?_) (fun h1010101010100000 => ?_)
 obtain ⟨b11, b13⟩ := v9
 dsimp only
 unfold pl9_3_1010101010100000
 refine sy_any ?_
 refine sy_alt ?_ ?_
 refine cl rfl cal25 rfl rfl (c_Own g ag cg (by omega) _ _) ?_
 rintro _ _ R1 ⟨o, rfl, ho, rfl, hR1⟩
 obtain rfl := hR1.symm
 clear hR1
 obtain ⟨a1, c1, he, hf⟩ := o.freeze
 rw [he]
 refine Sy.heap (H' := _) (fun w h => hf h) ?_
 rw [show (grows g.grs).length = g.grs.length from List.length_map _]
 clear he hf
 refine bg (fun w hs => ⟨((lhA (ctl c (c.sl ah ch)) ag28 rfl rfl rfl)) w hs, ((lhA (gtl g (g.sl ag cg)) ag25 rfl rfl rfl)) w hs, ((lhA (ctl c (c.sl ah ch)) ag28 rfl rfl rfl)) w hs, trivial, trivial⟩) ?_
 exact sy_to (h1110101010100000 (a1, c1, b11, b13)) (by repeat' first | exact Sub.nil | apply Sub.cons | rfl | (simp [lk]; omega)) (fun _ h => St.sub ((h.pull b11).pull b13))
 refine sy_alt ?_ ?_
 refine alc rfl zl28 rfl (fun b12 => ?_)
 refine bg (fun w hs => ⟨((lhA (ctl c (c.sl ah ch)) ag28 rfl rfl rfl)) w hs, ((lhA (gtl g (g.sl ag cg)) ag25 rfl rfl rfl)) w hs, ((lhA (ctl c (c.sl ah ch)) ag28 rfl rfl rfl)) w hs, ((lhA (gtl g (g.sl ag cg)) ag25 rfl rfl rfl)) w hs, trivial⟩) ?_
 exact sy_to (h1010101011100000 (b11, b12, b13)) (by repeat' first | exact Sub.nil | apply Sub.cons | rfl | (simp [lk]; omega)) (fun _ h => St.sub (((h.pull b11).pull b12).pull b13))
 refine sy_alt ?_ ?_
 refine alc rfl zl63 rfl (fun b14 => ?_)
 refine bg (fun w hs => ⟨((lhA (ctl c (c.sl ah ch)) ag28 rfl rfl rfl)) w hs, ((lhA (gtl g (g.sl ag cg)) ag25 rfl rfl rfl)) w hs, ((lhA (ctl c (c.sl ah ch)) ag28 rfl rfl rfl)) w hs, ((lhA (gtl g (g.sl ag cg)) ag25 rfl rfl rfl)) w hs, trivial⟩) ?_
 exact sy_to (h1010101010110000 (b11, b13, b14)) (by repeat' first | exact Sub.nil | apply Sub.cons | rfl | (simp [lk]; omega)) (fun _ h => St.sub (((h.pull b11).pull b13).pull b14))
 exact sy_stop
 refine sy_have (β := Nat × Nat) pl9_3_1010101010010000 (fun ⟨b11, b14⟩ => ([(14, .pointer (some ⟨b14, 0, none⟩)), (11, .pointer (some ⟨b11, 0, none⟩)), (2, .int .i64 n), (3, .int .i64 k), (5, .pointer (some ⟨b5, 0, none⟩)), (6, .pointer (some ⟨b6, 0, none⟩)), (9, .pointer (some ⟨b9, 0, none⟩)), (36, g.v (g.sl ag cg)), (38, c.v (c.sl ah ch)), (40, g.v (g.sl ag cg)), (42, c.v (c.sl ah ch))], (b14, cel 63 ([.int .i64 0, .int .i64 0, .slice none 0 0])) :: (b11, cel 25 ([.int .i64 0, .int .i64 0, .slice none 0 0])) :: (b9, cel 29 (ints m)) :: (b6, cel 28 (ctl c (c.sl ah ch))) :: (b5, cel 25 (gtl g (g.sl ag cg))) :: H, R, [(6, Ld Try.prog 28 ⟨b6, 0, none⟩ (c.v (c.sl ah ch))), (4, Ld Try.prog 25 ⟨b5, 0, none⟩ (g.v (g.sl ag cg))), (2, Ld Try.prog 28 ⟨b6, 0, none⟩ (c.v (c.sl ah ch))), (0, Ld Try.prog 25 ⟨b5, 0, none⟩ (g.v (g.sl ag cg)))])) (fun v9 => ?_) (fun h1010101010010000 => ?_)
 obtain ⟨b11, b14⟩ := v9
 dsimp only
 unfold pl9_3_1010101010010000
 refine sy_any ?_
 refine sy_alt ?_ ?_
 refine cl rfl cal25 rfl rfl (c_Own g ag cg (by omega) _ _) ?_
 rintro _ _ R1 ⟨o, rfl, ho, rfl, hR1⟩
 obtain rfl := hR1.symm
 clear hR1
 obtain ⟨a1, c1, he, hf⟩ := o.freeze
 rw [he]
 refine Sy.heap (H' := _) (fun w h => hf h) ?_
 rw [show (grows g.grs).length = g.grs.length from List.length_map _]
 clear he hf
 refine bg (fun w hs => ⟨((lhA (ctl c (c.sl ah ch)) ag28 rfl rfl rfl)) w hs, ((lhA (gtl g (g.sl ag cg)) ag25 rfl rfl rfl)) w hs, ((lhA (ctl c (c.sl ah ch)) ag28 rfl rfl rfl)) w hs, trivial, trivial⟩) ?_
 exact sy_to (h1110101010010000 (a1, c1, b11, b14)) (by repeat' first | exact Sub.nil | apply Sub.cons | rfl | (simp [lk]; omega)) (fun _ h => St.sub ((h.pull b11).pull b14))
 refine sy_alt ?_ ?_
 refine alc rfl zl28 rfl (fun b12 => ?_)
 refine bg (fun w hs => ⟨((lhA (ctl c (c.sl ah ch)) ag28 rfl rfl rfl)) w hs, ((lhA (gtl g (g.sl ag cg)) ag25 rfl rfl rfl)) w hs, ((lhA (ctl c (c.sl ah ch)) ag28 rfl rfl rfl)) w hs, ((lhA (gtl g (g.sl ag cg)) ag25 rfl rfl rfl)) w hs, trivial⟩) ?_
 exact sy_to (h1010101011010000 (b11, b12, b14)) (by repeat' first | exact Sub.nil | apply Sub.cons | rfl | (simp [lk]; omega)) (fun _ h => St.sub (((h.pull b11).pull b12).pull b14))
 refine sy_alt ?_ ?_
 refine alc rfl zl59 rfl (fun b13 => ?_)
 refine bg (fun w hs => ⟨((lhA (ctl c (c.sl ah ch)) ag28 rfl rfl rfl)) w hs, ((lhA (gtl g (g.sl ag cg)) ag25 rfl rfl rfl)) w hs, ((lhA (ctl c (c.sl ah ch)) ag28 rfl rfl rfl)) w hs, ((lhA (gtl g (g.sl ag cg)) ag25 rfl rfl rfl)) w hs, trivial⟩) ?_
 exact sy_to (h1010101010110000 (b11, b13, b14)) (by repeat' first | exact Sub.nil | apply Sub.cons | rfl | (simp [lk]; omega)) (fun _ h => St.sub (((h.pull b11).pull b13).pull b14))
 exact sy_stop
 refine sy_have (β := Nat × Nat × Nat) pl9_3_1010101001110000 (fun ⟨b12, b13, b14⟩ => ([(14, .pointer (some ⟨b14, 0, none⟩)), (13, .pointer (some ⟨b13, 0, none⟩)), (12, .pointer (some ⟨b12, 0, none⟩)), (2, .int .i64 n), (3, .int .i64 k), (5, .pointer (some ⟨b5, 0, none⟩)), (6, .pointer (some ⟨b6, 0, none⟩)), (9, .pointer (some ⟨b9, 0, none⟩)), (36, g.v (g.sl ag cg)), (38, c.v (c.sl ah ch)), (40, g.v (g.sl ag cg)), (42, c.v (c.sl ah ch))], (b14, cel 63 ([.int .i64 0, .int .i64 0, .slice none 0 0])) :: (b13, cel 59 ([.int .i64 0, .int .i64 0, .slice none 0 0])) :: (b12, cel 28 ([.int .i64 0, .int .i64 0, .slice none 0 0])) :: (b9, cel 29 (ints m)) :: (b6, cel 28 (ctl c (c.sl ah ch))) :: (b5, cel 25 (gtl g (g.sl ag cg))) :: H, R, [(6, Ld Try.prog 28 ⟨b6, 0, none⟩ (c.v (c.sl ah ch))), (4, Ld Try.prog 25 ⟨b5, 0, none⟩ (g.v (g.sl ag cg))), (2, Ld Try.prog 28 ⟨b6, 0, none⟩ (c.v (c.sl ah ch))), (0, Ld Try.prog 25 ⟨b5, 0, none⟩ (g.v (g.sl ag cg)))])) (fun v9 => ?_) (fun h1010101001110000 => ?_)
 obtain ⟨b12, b13, b14⟩ := v9
 dsimp only
 unfold pl9_3_1010101001110000
 refine sy_any ?_
 refine sy_alt ?_ ?_
 refine cl rfl cal25 rfl rfl (c_Own g ag cg (by omega) _ _) ?_
 rintro _ _ R1 ⟨o, rfl, ho, rfl, hR1⟩
 obtain rfl := hR1.symm
 clear hR1
 obtain ⟨a1, c1, he, hf⟩ := o.freeze
 rw [he]
 refine Sy.heap (H' := _) (fun w h => hf h) ?_
 rw [show (grows g.grs).length = g.grs.length from List.length_map _]
 clear he hf
 refine bg (fun w hs => ⟨((lhA (ctl c (c.sl ah ch)) ag28 rfl rfl rfl)) w hs, ((lhA (gtl g (g.sl ag cg)) ag25 rfl rfl rfl)) w hs, ((lhA (ctl c (c.sl ah ch)) ag28 rfl rfl rfl)) w hs, trivial, trivial⟩) ?_
 exact sy_to (h1110101001110000 (a1, c1, b12, b13, b14)) (by repeat' first | exact Sub.nil | apply Sub.cons | rfl | (simp [lk]; omega)) (fun _ h => St.sub (((h.pull b12).pull b13).pull b14))
 refine sy_alt ?_ ?_
 refine alc rfl zl25 rfl (fun b11 => ?_)
 refine bg (fun w hs => ⟨((lhA (ctl c (c.sl ah ch)) ag28 rfl rfl rfl)) w hs, ((lhA (gtl g (g.sl ag cg)) ag25 rfl rfl rfl)) w hs, ((lhA (ctl c (c.sl ah ch)) ag28 rfl rfl rfl)) w hs, ((lhA (gtl g (g.sl ag cg)) ag25 rfl rfl rfl)) w hs, trivial⟩) ?_
 exact sy_to (h1010101011110000 (b11, b12, b13, b14)) (by repeat' first | exact Sub.nil | apply Sub.cons | rfl | (simp [lk]; omega)) (fun _ h => St.sub ((((h.pull b11).pull b12).pull b13).pull b14))
 exact sy_stop
 refine sy_have (β := Nat × Nat) pl9_3_1010101001100000 (fun ⟨b12, b13⟩ => ([(13, .pointer (some ⟨b13, 0, none⟩)), (12, .pointer (some ⟨b12, 0, none⟩)), (2, .int .i64 n), (3, .int .i64 k), (5, .pointer (some ⟨b5, 0, none⟩)), (6, .pointer (some ⟨b6, 0, none⟩)), (9, .pointer (some ⟨b9, 0, none⟩)), (36, g.v (g.sl ag cg)), (38, c.v (c.sl ah ch)), (40, g.v (g.sl ag cg)), (42, c.v (c.sl ah ch))], (b13, cel 59 ([.int .i64 0, .int .i64 0, .slice none 0 0])) :: (b12, cel 28 ([.int .i64 0, .int .i64 0, .slice none 0 0])) :: (b9, cel 29 (ints m)) :: (b6, cel 28 (ctl c (c.sl ah ch))) :: (b5, cel 25 (gtl g (g.sl ag cg))) :: H, R, [(6, Ld Try.prog 28 ⟨b6, 0, none⟩ (c.v (c.sl ah ch))), (4, Ld Try.prog 25 ⟨b5, 0, none⟩ (g.v (g.sl ag cg))), (2, Ld Try.prog 28 ⟨b6, 0, none⟩ (c.v (c.sl ah ch))), (0, Ld Try.prog 25 ⟨b5, 0, none⟩ (g.v (g.sl ag cg)))])) (fun v9 => ?_) (fun h1010101001100000 => ?_)
 obtain ⟨b12, b13⟩ := v9
 dsimp only
 unfold pl9_3_1010101001100000
 refine sy_any ?_
 refine sy_alt ?_ ?_
 refine cl rfl cal25 rfl rfl (c_Own g ag cg (by omega) _ _) ?_
 rintro _ _ R1 ⟨o, rfl, ho, rfl, hR1⟩
 obtain rfl := hR1.symm
 clear hR1
 obtain ⟨a1, c1, he, hf⟩ := o.freeze
 rw [he]
 refine Sy.heap (H' := _) (fun w h => hf h) ?_
 rw [show (grows g.grs).length = g.grs.length from List.length_map _]
 clear he hf
 refine bg (fun w hs => ⟨((lhA (ctl c (c.sl ah ch)) ag28 rfl rfl rfl)) w hs, ((lhA (gtl g (g.sl ag cg)) ag25 rfl rfl rfl)) w hs, ((lhA (ctl c (c.sl ah ch)) ag28 rfl rfl rfl)) w hs, trivial, trivial⟩) ?_
 exact sy_to (h1110101001100000 (a1, c1, b12, b13)) (by repeat' first | exact Sub.nil | apply Sub.cons | rfl | (simp [lk]; omega)) (fun _ h => St.sub ((h.pull b12).pull b13))
 refine sy_alt ?_ ?_
 refine alc rfl zl25 rfl (fun b11 => ?_)
 refine bg (fun w hs => ⟨((lhA (ctl c (c.sl ah ch)) ag28 rfl rfl rfl)) w hs, ((lhA (gtl g (g.sl ag cg)) ag25 rfl rfl rfl)) w hs, ((lhA (ctl c (c.sl ah ch)) ag28 rfl rfl rfl)) w hs, ((lhA (gtl g (g.sl ag cg)) ag25 rfl rfl rfl)) w hs, trivial⟩) ?_
 exact sy_to (h1010101011100000 (b11, b12, b13)) (by repeat' first | exact Sub.nil | apply Sub.cons | rfl | (simp [lk]; omega)) (fun _ h => St.sub (((h.pull b11).pull b12).pull b13))
 refine sy_alt ?_ ?_
 refine alc rfl zl63 rfl (fun b14 => ?_)
 refine bg (fun w hs => ⟨((lhA (ctl c (c.sl ah ch)) ag28 rfl rfl rfl)) w hs, ((lhA (gtl g (g.sl ag cg)) ag25 rfl rfl rfl)) w hs, ((lhA (ctl c (c.sl ah ch)) ag28 rfl rfl rfl)) w hs, ((lhA (gtl g (g.sl ag cg)) ag25 rfl rfl rfl)) w hs, trivial⟩) ?_
 exact sy_to (h1010101001110000 (b12, b13, b14)) (by repeat' first | exact Sub.nil | apply Sub.cons | rfl | (simp [lk]; omega)) (fun _ h => St.sub (((h.pull b12).pull b13).pull b14))
 exact sy_stop
 refine sy_have (β := Nat × Nat) pl9_3_1010101001010000 (fun ⟨b12, b14⟩ => ([(14, .pointer (some ⟨b14, 0, none⟩)), (12, .pointer (some ⟨b12, 0, none⟩)), (2, .int .i64 n), (3, .int .i64 k), (5, .pointer (some ⟨b5, 0, none⟩)), (6, .pointer (some ⟨b6, 0, none⟩)), (9, .pointer (some ⟨b9, 0, none⟩)), (36, g.v (g.sl ag cg)), (38, c.v (c.sl ah ch)), (40, g.v (g.sl ag cg)), (42, c.v (c.sl ah ch))], (b14, cel 63 ([.int .i64 0, .int .i64 0, .slice none 0 0])) :: (b12, cel 28 ([.int .i64 0, .int .i64 0, .slice none 0 0])) :: (b9, cel 29 (ints m)) :: (b6, cel 28 (ctl c (c.sl ah ch))) :: (b5, cel 25 (gtl g (g.sl ag cg))) :: H, R, [(6, Ld Try.prog 28 ⟨b6, 0, none⟩ (c.v (c.sl ah ch))), (4, Ld Try.prog 25 ⟨b5, 0, none⟩ (g.v (g.sl ag cg))), (2, Ld Try.prog 28 ⟨b6, 0, none⟩ (c.v (c.sl ah ch))), (0, Ld Try.prog 25 ⟨b5, 0, none⟩ (g.v (g.sl ag cg)))])) (fun v9 => ?_) (fun h1010101001010000 => ?_)
 obtain ⟨b12, b14⟩ := v9
 dsimp only
 unfold pl9_3_1010101001010000
 refine sy_any ?_
 refine sy_alt ?_ ?_
 refine cl rfl cal25 rfl rfl (c_Own g ag cg (by omega) _ _) ?_
 rintro _ _ R1 ⟨o, rfl, ho, rfl, hR1⟩
 obtain rfl := hR1.symm
 clear hR1
 obtain ⟨a1, c1, he, hf⟩ := o.freeze
 rw [he]
 refine Sy.heap (H' := _) (fun w h => hf h) ?_
 rw [show (grows g.grs).length = g.grs.length from List.length_map _]
 clear he hf
 refine bg (fun w hs => ⟨((lhA (ctl c (c.sl ah ch)) ag28 rfl rfl rfl)) w hs, ((lhA (gtl g (g.sl ag cg)) ag25 rfl rfl rfl)) w hs, ((lhA (ctl c (c.sl ah ch)) ag28 rfl rfl rfl)) w hs, trivial, trivial⟩) ?_
 exact sy_to (h1110101001010000 (a1, c1, b12, b14)) (by repeat' first | exact Sub.nil | apply Sub.cons | rfl | (simp [lk]; omega)) (fun _ h => St.sub ((h.pull b12).pull b14))
 refine sy_alt ?_ ?_
 refine alc rfl zl25 rfl (fun b11 => ?_)
 refine bg (fun w hs => ⟨((lhA (ctl c (c.sl ah ch)) ag28 rfl rfl rfl)) w hs, ((lhA (gtl g (g.sl ag cg)) ag25 rfl rfl rfl)) w hs, ((lhA (ctl c (c.sl ah ch)) ag28 rfl rfl rfl)) w hs, ((lhA (gtl g (g.sl ag cg)) ag25 rfl rfl rfl)) w hs, trivial⟩) ?_
 exact sy_to (h1010101011010000 (b11, b12, b14)) (by repeat' first | exact Sub.nil | apply Sub.cons | rfl | (simp [lk]; omega)) (fun _ h => St.sub (((h.pull b11).pull b12).pull b14))
 refine sy_alt ?_ ?_
 refine alc rfl zl59 rfl (fun b13 => ?_)
 refine bg (fun w hs => ⟨((lhA (ctl c (c.sl ah ch)) ag28 rfl rfl rfl)) w hs, ((lhA (gtl g (g.sl ag cg)) ag25 rfl rfl rfl)) w hs, ((lhA (ctl c (c.sl ah ch)) ag28 rfl rfl rfl)) w hs, ((lhA (gtl g (g.sl ag cg)) ag25 rfl rfl rfl)) w hs, trivial⟩) ?_
 exact sy_to (h1010101001110000 (b12, b13, b14)) (by repeat' first | exact Sub.nil | apply Sub.cons | rfl | (simp [lk]; omega)) (fun _ h => St.sub (((h.pull b12).pull b13).pull b14))
 exact sy_stop
 refine sy_have (β := Nat × Nat) pl9_3_1010101000110000 (fun ⟨b13, b14⟩ => ([(14, .pointer (some ⟨b14, 0, none⟩)), (13, .pointer (some ⟨b13, 0, none⟩)), (2, .int .i64 n), (3, .int .i64 k), (5, .pointer (some ⟨b5, 0, none⟩)), (6, .pointer (some ⟨b6, 0, none⟩)), (9, .pointer (some ⟨b9, 0, none⟩)), (36, g.v (g.sl ag cg)), (38, c.v (c.sl ah ch)), (40, g.v (g.sl ag cg)), (42, c.v (c.sl ah ch))], (b14, cel 63 ([.int .i64 0, .int .i64 0, .slice none 0 0])) :: (b13, cel 59 ([.int .i64 0, .int .i64 0, .slice none 0 0])) :: (b9, cel 29 (ints m)) :: (b6, cel 28 (ctl c (c.sl ah ch))) :: (b5, cel 25 (gtl g (g.sl ag cg))) :: H, R, [(6, Ld Try.prog 28 ⟨b6, 0, none⟩ (c.v (c.sl ah ch))), (4, Ld Try.prog 25 ⟨b5, 0, none⟩ (g.v (g.sl ag cg))), (2, Ld Try.prog 28 ⟨b6, 0, none⟩ (c.v (c.sl ah ch))), (0, Ld Try.prog 25 ⟨b5, 0, none⟩ (g.v (g.sl ag cg)))])) (fun v9 => ?_) (fun h1010101000110000 => ?_)
 obtain ⟨b13, b14⟩ := v9
 dsimp only
 unfold pl9_3_1010101000110000
 refine sy_any ?_
 refine sy_alt ?_ ?_
 refine cl rfl cal25 rfl rfl (c_Own g ag cg (by omega) _ _) ?_
 rintro _ _ R1 ⟨o, rfl, ho, rfl, hR1⟩
 obtain rfl := hR1.symm
 clear hR1
 obtain ⟨a1, c1, he, hf⟩ := o.freeze
 rw [he]
 refine Sy.heap (H' := _) (fun w h => hf h) ?_
 rw [show (grows g.grs).length = g.grs.length from List.length_map _]
 clear he hf
 refine bg (fun w hs => ⟨((lhA (ctl c (c.sl ah ch)) ag28 rfl rfl rfl)) w hs, ((lhA (gtl g (g.sl ag cg)) ag25 rfl rfl rfl)) w hs, ((lhA (ctl c (c.sl ah ch)) ag28 rfl rfl rfl)) w hs, trivial, trivial⟩) ?_
 exact sy_to (h1110101000110000 (a1, c1, b13, b14)) (by repeat' first | exact Sub.nil | apply Sub.cons | rfl | (simp [lk]; omega)) (fun _ h => St.sub ((h.pull b13).pull b14))
 refine sy_alt ?_ ?_
 refine alc rfl zl25 rfl (fun b11 => ?_)
 refine bg (fun w hs => ⟨((lhA (ctl c (c.sl ah ch)) ag28 rfl rfl rfl)) w hs, ((lhA (gtl g (g.sl ag cg)) ag25 rfl rfl rfl)) w hs, ((lhA (ctl c (c.sl ah ch)) ag28 rfl rfl rfl)) w hs, ((lhA (gtl g (g.sl ag cg)) ag25 rfl rfl rfl)) w hs, trivial⟩) ?_
 exact sy_to (h1010101010110000 (b11, b13, b14)) (by repeat' first | exact Sub.nil | apply Sub.cons | rfl | (simp [lk]; omega)) (fun _ h => St.sub (((h.pull b11).pull b13).pull b14))
 refine sy_alt ?_ ?_
 refine alc rfl zl28 rfl (fun b12 => ?_)
 refine bg (fun w hs => ⟨((lhA (ctl c (c.sl ah ch)) ag28 rfl rfl rfl)) w hs, ((lhA (gtl g (g.sl ag cg)) ag25 rfl rfl rfl)) w hs, ((lhA (ctl c (c.sl ah ch)) ag28 rfl rfl rfl)) w hs, ((lhA (gtl g (g.sl ag cg)) ag25 rfl rfl rfl)) w hs, trivial⟩) ?_
 exact sy_to (h1010101001110000 (b12, b13, b14)) (by repeat' first | exact Sub.nil | apply Sub.cons | rfl | (simp [lk]; omega)) (fun _ h => St.sub (((h.pull b12).pull b13).pull b14))
 exact sy_stop
 refine sy_any ?_
 refine sy_alt ?_ ?_
 refine cl rfl cal25 rfl rfl (c_Own g ag cg (by omega) _ _) ?_
 rintro _ _ R1 ⟨o, rfl, ho, rfl, hR1⟩
 obtain rfl := hR1.symm
 clear hR1
 obtain ⟨a1, c1, he, hf⟩ := o.freeze
 rw [he]
 refine Sy.heap (H' := _) (fun w h => hf h) ?_
 rw [show (grows g.grs).length = g.grs.length from List.length_map _]
 clear he hf
 refine bg (fun w hs => ⟨(lhA [_, _, _] ag28 rfl rfl rfl) w hs, (lhA [_, _, _] ag25 rfl rfl rfl) w hs, (lhA [_, _, _] ag28 rfl rfl rfl) w hs, trivial, trivial⟩) ?_
 refine sy_any ?_
 refine sy_alt ?_ ?_
 refine cl rfl cal26 rfl rfl (c_Owned c ah ch (by omega) _ _) ?_
 rintro _ _ R1 ⟨o, rfl, ho, rfl, hR1⟩
 obtain rfl := hR1.symm
 clear hR1
 obtain ⟨a2, c2, he, hf⟩ := o.freeze
 rw [he]
 refine Sy.heap (H' := _) (fun w h => hf h) ?_
 rw [show (hrows c.hs).length = c.hs.length from List.length_map _]
 clear he hf
 refine bg (fun w hs => ⟨(lhA [_, _, _] ag28 rfl rfl rfl) w hs, (lhA [_, _, _] ag25 rfl rfl rfl) w hs, trivial, trivial⟩) ?_
 refine sy_any ?_
 refine sy_alt ?_ ?_
 refine cl rfl cal27 rfl rfl (c_theirs g ag cg (by omega) _ _) ?_
 rintro _ _ R1 ⟨a3, c3, rfl, rfl, hR1⟩
 obtain rfl := hR1.symm
 clear hR1
 refine bg (fun w hs => ⟨(lhA [_, _, _] ag28 rfl rfl rfl) w hs, trivial, trivial⟩) ?_
 refine sy_any ?_
 refine sy_alt ?_ ?_
 refine cl rfl cal28 rfl rfl (c_come c ah ch (by omega) _ _) ?_
 rintro _ _ R1 ⟨a4, c4, rfl, rfl, hR1⟩
 obtain rfl := hR1.symm
 clear hR1
 refine bg (fun w hs => ⟨trivial, trivial⟩) ?_
 refine sy_any ?_
 refine sy_alt ?_ ?_
 refine alc rfl zl25 rfl (fun b11 => ?_)
 refine bg (fun w hs => trivial) ?_
 exact sy_to (h1111111110000000 (a1, c1, a2, c2, a3, c3, a4, c4, b11)) (by repeat' first | exact Sub.nil | apply Sub.cons | rfl | (simp [lk]; omega)) (fun _ h => St.sub (h.pull b11))
 refine sy_alt ?_ ?_
 refine alc rfl zl28 rfl (fun b12 => ?_)
 refine bg (fun w hs => trivial) ?_
 exact sy_to (h1111111101000000 (a1, c1, a2, c2, a3, c3, a4, c4, b12)) (by repeat' first | exact Sub.nil | apply Sub.cons | rfl | (simp [lk]; omega)) (fun _ h => St.sub (h.pull b12))
 refine sy_alt ?_ ?_
 refine alc rfl zl59 rfl (fun b13 => ?_)
 refine bg (fun w hs => trivial) ?_
 exact sy_to (h1111111100100000 (a1, c1, a2, c2, a3, c3, a4, c4, b13)) (by repeat' first | exact Sub.nil | apply Sub.cons | rfl | (simp [lk]; omega)) (fun _ h => St.sub (h.pull b13))
 refine sy_alt ?_ ?_
 refine alc rfl zl63 rfl (fun b14 => ?_)
 refine bg (fun w hs => trivial) ?_
 exact sy_to (h1111111100010000 (a1, c1, a2, c2, a3, c3, a4, c4, b14)) (by repeat' first | exact Sub.nil | apply Sub.cons | rfl | (simp [lk]; omega)) (fun _ h => St.sub (h.pull b14))
 exact sy_stop
 refine sy_alt ?_ ?_
 refine alc rfl zl25 rfl (fun b11 => ?_)
 refine bg (fun w hs => ⟨(lhA [_, _, _] ag28 rfl rfl rfl) w hs, trivial⟩) ?_
 exact sy_to (h1111111010000000 (a1, c1, a2, c2, a3, c3, b11)) (by repeat' first | exact Sub.nil | apply Sub.cons | rfl | (simp [lk]; omega)) (fun _ h => St.sub (h.pull b11))
 refine sy_alt ?_ ?_
 refine alc rfl zl28 rfl (fun b12 => ?_)
 refine bg (fun w hs => ⟨(lhA [_, _, _] ag28 rfl rfl rfl) w hs, trivial⟩) ?_
 exact sy_to (h1111111001000000 (a1, c1, a2, c2, a3, c3, b12)) (by repeat' first | exact Sub.nil | apply Sub.cons | rfl | (simp [lk]; omega)) (fun _ h => St.sub (h.pull b12))
 refine sy_alt ?_ ?_
 refine alc rfl zl59 rfl (fun b13 => ?_)
 refine bg (fun w hs => ⟨(lhA [_, _, _] ag28 rfl rfl rfl) w hs, trivial⟩) ?_
 exact sy_to (h1111111000100000 (a1, c1, a2, c2, a3, c3, b13)) (by repeat' first | exact Sub.nil | apply Sub.cons | rfl | (simp [lk]; omega)) (fun _ h => St.sub (h.pull b13))
 refine sy_alt ?_ ?_
 refine alc rfl zl63 rfl (fun b14 => ?_)
 refine bg (fun w hs => ⟨(lhA [_, _, _] ag28 rfl rfl rfl) w hs, trivial⟩) ?_
 exact sy_to (h1111111000010000 (a1, c1, a2, c2, a3, c3, b14)) (by repeat' first | exact Sub.nil | apply Sub.cons | rfl | (simp [lk]; omega)) (fun _ h => St.sub (h.pull b14))
 exact sy_stop
 refine sy_alt ?_ ?_
 refine alc rfl zl25 rfl (fun b11 => ?_)
 refine bg (fun w hs => ⟨(lhA [_, _, _] ag28 rfl rfl rfl) w hs, (lhA [_, _, _] ag25 rfl rfl rfl) w hs, trivial⟩) ?_
 exact sy_to (h1111101010000000 (a1, c1, a2, c2, b11)) (by repeat' first | exact Sub.nil | apply Sub.cons | rfl | (simp [lk]; omega)) (fun _ h => St.sub (h.pull b11))
 refine sy_alt ?_ ?_
 refine alc rfl zl28 rfl (fun b12 => ?_)
 refine bg (fun w hs => ⟨(lhA [_, _, _] ag28 rfl rfl rfl) w hs, (lhA [_, _, _] ag25 rfl rfl rfl) w hs, trivial⟩) ?_
 exact sy_to (h1111101001000000 (a1, c1, a2, c2, b12)) (by repeat' first | exact Sub.nil | apply Sub.cons | rfl | (simp [lk]; omega)) (fun _ h => St.sub (h.pull b12))
 refine sy_alt ?_ ?_
 refine alc rfl zl59 rfl (fun b13 => ?_)
 refine bg (fun w hs => ⟨(lhA [_, _, _] ag28 rfl rfl rfl) w hs, (lhA [_, _, _] ag25 rfl rfl rfl) w hs, trivial⟩) ?_
 exact sy_to (h1111101000100000 (a1, c1, a2, c2, b13)) (by repeat' first | exact Sub.nil | apply Sub.cons | rfl | (simp [lk]; omega)) (fun _ h => St.sub (h.pull b13))
 refine sy_alt ?_ ?_
 refine alc rfl zl63 rfl (fun b14 => ?_)
 refine bg (fun w hs => ⟨(lhA [_, _, _] ag28 rfl rfl rfl) w hs, (lhA [_, _, _] ag25 rfl rfl rfl) w hs, trivial⟩) ?_
 exact sy_to (h1111101000010000 (a1, c1, a2, c2, b14)) (by repeat' first | exact Sub.nil | apply Sub.cons | rfl | (simp [lk]; omega)) (fun _ h => St.sub (h.pull b14))
 exact sy_stop
 refine sy_alt ?_ ?_
 refine alc rfl zl25 rfl (fun b11 => ?_)
 refine bg (fun w hs => ⟨(lhA [_, _, _] ag28 rfl rfl rfl) w hs, (lhA [_, _, _] ag25 rfl rfl rfl) w hs, (lhA [_, _, _] ag28 rfl rfl rfl) w hs, trivial⟩) ?_
 exact sy_to (h1110101010000000 (a1, c1, b11)) (by repeat' first | exact Sub.nil | apply Sub.cons | rfl | (simp [lk]; omega)) (fun _ h => St.sub (h.pull b11))
 refine sy_alt ?_ ?_
 refine alc rfl zl28 rfl (fun b12 => ?_)
 refine bg (fun w hs => ⟨(lhA [_, _, _] ag28 rfl rfl rfl) w hs, (lhA [_, _, _] ag25 rfl rfl rfl) w hs, (lhA [_, _, _] ag28 rfl rfl rfl) w hs, trivial⟩) ?_
 exact sy_to (h1110101001000000 (a1, c1, b12)) (by repeat' first | exact Sub.nil | apply Sub.cons | rfl | (simp [lk]; omega)) (fun _ h => St.sub (h.pull b12))
 refine sy_alt ?_ ?_
 refine alc rfl zl59 rfl (fun b13 => ?_)
 refine bg (fun w hs => ⟨(lhA [_, _, _] ag28 rfl rfl rfl) w hs, (lhA [_, _, _] ag25 rfl rfl rfl) w hs, (lhA [_, _, _] ag28 rfl rfl rfl) w hs, trivial⟩) ?_
 exact sy_to (h1110101000100000 (a1, c1, b13)) (by repeat' first | exact Sub.nil | apply Sub.cons | rfl | (simp [lk]; omega)) (fun _ h => St.sub (h.pull b13))
 refine sy_alt ?_ ?_
 refine alc rfl zl63 rfl (fun b14 => ?_)
 refine bg (fun w hs => ⟨(lhA [_, _, _] ag28 rfl rfl rfl) w hs, (lhA [_, _, _] ag25 rfl rfl rfl) w hs, (lhA [_, _, _] ag28 rfl rfl rfl) w hs, trivial⟩) ?_
 exact sy_to (h1110101000010000 (a1, c1, b14)) (by repeat' first | exact Sub.nil | apply Sub.cons | rfl | (simp [lk]; omega)) (fun _ h => St.sub (h.pull b14))
 exact sy_stop
 refine sy_alt ?_ ?_
 refine alc rfl zl25 rfl (fun b11 => ?_)
 refine bg (fun w hs => ⟨(lhA [_, _, _] ag28 rfl rfl rfl) w hs, (lhA [_, _, _] ag25 rfl rfl rfl) w hs, (lhA [_, _, _] ag28 rfl rfl rfl) w hs, (lhA [_, _, _] ag25 rfl rfl rfl) w hs, trivial⟩) ?_
 refine sy_any ?_
 refine sy_alt ?_ ?_
 refine cl rfl cal25 rfl rfl (c_Own g ag cg (by omega) _ _) ?_
 rintro _ _ R1 ⟨o, rfl, ho, rfl, hR1⟩
 obtain rfl := hR1.symm
 clear hR1
 obtain ⟨a1, c1, he, hf⟩ := o.freeze
 rw [he]
 refine Sy.heap (H' := _) (fun w h => hf h) ?_
 rw [show (grows g.grs).length = g.grs.length from List.length_map _]
 clear he hf
 refine bg (fun w hs => ⟨(lhA [_, _, _] ag28 rfl rfl rfl) w hs, (lhA [_, _, _] ag25 rfl rfl rfl) w hs, (lhA [_, _, _] ag28 rfl rfl rfl) w hs, trivial, trivial⟩) ?_
 exact sy_to (h1110101010000000 (a1, c1, b11)) (by repeat' first | exact Sub.nil | apply Sub.cons | rfl | (simp [lk]; omega)) (fun _ h => St.sub (h.pull b11))
 refine sy_alt ?_ ?_
 refine alc rfl zl28 rfl (fun b12 => ?_)
 refine bg (fun w hs => ⟨(lhA [_, _, _] ag28 rfl rfl rfl) w hs, (lhA [_, _, _] ag25 rfl rfl rfl) w hs, (lhA [_, _, _] ag28 rfl rfl rfl) w hs, (lhA [_, _, _] ag25 rfl rfl rfl) w hs, trivial⟩) ?_
 exact sy_to (h1010101011000000 (b11, b12)) (by repeat' first | exact Sub.nil | apply Sub.cons | rfl | (simp [lk]; omega)) (fun _ h => St.sub ((h.pull b11).pull b12))
 refine sy_alt ?_ ?_
 refine alc rfl zl59 rfl (fun b13 => ?_)
 refine bg (fun w hs => ⟨(lhA [_, _, _] ag28 rfl rfl rfl) w hs, (lhA [_, _, _] ag25 rfl rfl rfl) w hs, (lhA [_, _, _] ag28 rfl rfl rfl) w hs, (lhA [_, _, _] ag25 rfl rfl rfl) w hs, trivial⟩) ?_
 exact sy_to (h1010101010100000 (b11, b13)) (by repeat' first | exact Sub.nil | apply Sub.cons | rfl | (simp [lk]; omega)) (fun _ h => St.sub ((h.pull b11).pull b13))
 refine sy_alt ?_ ?_
 refine alc rfl zl63 rfl (fun b14 => ?_)
 refine bg (fun w hs => ⟨(lhA [_, _, _] ag28 rfl rfl rfl) w hs, (lhA [_, _, _] ag25 rfl rfl rfl) w hs, (lhA [_, _, _] ag28 rfl rfl rfl) w hs, (lhA [_, _, _] ag25 rfl rfl rfl) w hs, trivial⟩) ?_
 exact sy_to (h1010101010010000 (b11, b14)) (by repeat' first | exact Sub.nil | apply Sub.cons | rfl | (simp [lk]; omega)) (fun _ h => St.sub ((h.pull b11).pull b14))
 exact sy_stop
 refine sy_alt ?_ ?_
 refine alc rfl zl28 rfl (fun b12 => ?_)
 refine bg (fun w hs => ⟨(lhA [_, _, _] ag28 rfl rfl rfl) w hs, (lhA [_, _, _] ag25 rfl rfl rfl) w hs, (lhA [_, _, _] ag28 rfl rfl rfl) w hs, (lhA [_, _, _] ag25 rfl rfl rfl) w hs, trivial⟩) ?_
 refine sy_any ?_
 refine sy_alt ?_ ?_
 refine cl rfl cal25 rfl rfl (c_Own g ag cg (by omega) _ _) ?_
 rintro _ _ R1 ⟨o, rfl, ho, rfl, hR1⟩
 obtain rfl := hR1.symm
 clear hR1
 obtain ⟨a1, c1, he, hf⟩ := o.freeze
 rw [he]
 refine Sy.heap (H' := _) (fun w h => hf h) ?_
 rw [show (grows g.grs).length = g.grs.length from List.length_map _]
 clear he hf
 refine bg (fun w hs => ⟨(lhA [_, _, _] ag28 rfl rfl rfl) w hs, (lhA [_, _, _] ag25 rfl rfl rfl) w hs, (lhA [_, _, _] ag28 rfl rfl rfl) w hs, trivial, trivial⟩) ?_
 exact sy_to (h1110101001000000 (a1, c1, b12)) (by repeat' first | exact Sub.nil | apply Sub.cons | rfl | (simp [lk]; omega)) (fun _ h => St.sub (h.pull b12))
 refine sy_alt ?_ ?_
 refine alc rfl zl25 rfl (fun b11 => ?_)
 refine bg (fun w hs => ⟨(lhA [_, _, _] ag28 rfl rfl rfl) w hs, (lhA [_, _, _] ag25 rfl rfl rfl) w hs, (lhA [_, _, _] ag28 rfl rfl rfl) w hs, (lhA [_, _, _] ag25 rfl rfl rfl) w hs, trivial⟩) ?_
 exact sy_to (h1010101011000000 (b11, b12)) (by repeat' first | exact Sub.nil | apply Sub.cons | rfl | (simp [lk]; omega)) (fun _ h => St.sub ((h.pull b11).pull b12))
 refine sy_alt ?_ ?_
 refine alc rfl zl59 rfl (fun b13 => ?_)
 refine bg (fun w hs => ⟨(lhA [_, _, _] ag28 rfl rfl rfl) w hs, (lhA [_, _, _] ag25 rfl rfl rfl) w hs, (lhA [_, _, _] ag28 rfl rfl rfl) w hs, (lhA [_, _, _] ag25 rfl rfl rfl) w hs, trivial⟩) ?_
 exact sy_to (h1010101001100000 (b12, b13)) (by repeat' first | exact Sub.nil | apply Sub.cons | rfl | (simp [lk]; omega)) (fun _ h => St.sub ((h.pull b12).pull b13))
 refine sy_alt ?_ ?_
 refine alc rfl zl63 rfl (fun b14 => ?_)
 refine bg (fun w hs => ⟨(lhA [_, _, _] ag28 rfl rfl rfl) w hs, (lhA [_, _, _] ag25 rfl rfl rfl) w hs, (lhA [_, _, _] ag28 rfl rfl rfl) w hs, (lhA [_, _, _] ag25 rfl rfl rfl) w hs, trivial⟩) ?_
 exact sy_to (h1010101001010000 (b12, b14)) (by repeat' first | exact Sub.nil | apply Sub.cons | rfl | (simp [lk]; omega)) (fun _ h => St.sub ((h.pull b12).pull b14))
 exact sy_stop
 refine sy_alt ?_ ?_
 refine alc rfl zl59 rfl (fun b13 => ?_)
 refine bg (fun w hs => ⟨(lhA [_, _, _] ag28 rfl rfl rfl) w hs, (lhA [_, _, _] ag25 rfl rfl rfl) w hs, (lhA [_, _, _] ag28 rfl rfl rfl) w hs, (lhA [_, _, _] ag25 rfl rfl rfl) w hs, trivial⟩) ?_
 refine sy_any ?_
 refine sy_alt ?_ ?_
 refine cl rfl cal25 rfl rfl (c_Own g ag cg (by omega) _ _) ?_
 rintro _ _ R1 ⟨o, rfl, ho, rfl, hR1⟩
 obtain rfl := hR1.symm
 clear hR1
 obtain ⟨a1, c1, he, hf⟩ := o.freeze
 rw [he]
 refine Sy.heap (H' := _) (fun w h => hf h) ?_
 rw [show (grows g.grs).length = g.grs.length from List.length_map _]
 clear he hf
 refine bg (fun w hs => ⟨(lhA [_, _, _] ag28 rfl rfl rfl) w hs, (lhA [_, _, _] ag25 rfl rfl rfl) w hs, (lhA [_, _, _] ag28 rfl rfl rfl) w hs, trivial, trivial⟩) ?_
 exact sy_to (h1110101000100000 (a1, c1, b13)) (by repeat' first | exact Sub.nil | apply Sub.cons | rfl | (simp [lk]; omega)) (fun _ h => St.sub (h.pull b13))
 refine sy_alt ?_ ?_
 refine alc rfl zl25 rfl (fun b11 => ?_)
 refine bg (fun w hs => ⟨(lhA [_, _, _] ag28 rfl rfl rfl) w hs, (lhA [_, _, _] ag25 rfl rfl rfl) w hs, (lhA [_, _, _] ag28 rfl rfl rfl) w hs, (lhA [_, _, _] ag25 rfl rfl rfl) w hs, trivial⟩) ?_
 exact sy_to (h1010101010100000 (b11, b13)) (by repeat' first | exact Sub.nil | apply Sub.cons | rfl | (simp [lk]; omega)) (fun _ h => St.sub ((h.pull b11).pull b13))
 refine sy_alt ?_ ?_
 refine alc rfl zl28 rfl (fun b12 => ?_)
 refine bg (fun w hs => ⟨(lhA [_, _, _] ag28 rfl rfl rfl) w hs, (lhA [_, _, _] ag25 rfl rfl rfl) w hs, (lhA [_, _, _] ag28 rfl rfl rfl) w hs, (lhA [_, _, _] ag25 rfl rfl rfl) w hs, trivial⟩) ?_
 exact sy_to (h1010101001100000 (b12, b13)) (by repeat' first | exact Sub.nil | apply Sub.cons | rfl | (simp [lk]; omega)) (fun _ h => St.sub ((h.pull b12).pull b13))
 refine sy_alt ?_ ?_
 refine alc rfl zl63 rfl (fun b14 => ?_)
 refine bg (fun w hs => ⟨(lhA [_, _, _] ag28 rfl rfl rfl) w hs, (lhA [_, _, _] ag25 rfl rfl rfl) w hs, (lhA [_, _, _] ag28 rfl rfl rfl) w hs, (lhA [_, _, _] ag25 rfl rfl rfl) w hs, trivial⟩) ?_
 exact sy_to (h1010101000110000 (b13, b14)) (by repeat' first | exact Sub.nil | apply Sub.cons | rfl | (simp [lk]; omega)) (fun _ h => St.sub ((h.pull b13).pull b14))
 exact sy_stop
 refine sy_alt ?_ ?_
 refine alc rfl zl63 rfl (fun b14 => ?_)
 refine bg (fun w hs => ⟨(lhA [_, _, _] ag28 rfl rfl rfl) w hs, (lhA [_, _, _] ag25 rfl rfl rfl) w hs, (lhA [_, _, _] ag28 rfl rfl rfl) w hs, (lhA [_, _, _] ag25 rfl rfl rfl) w hs, trivial⟩) ?_
 refine sy_any ?_
 refine sy_alt ?_ ?_
 refine cl rfl cal25 rfl rfl (c_Own g ag cg (by omega) _ _) ?_
 rintro _ _ R1 ⟨o, rfl, ho, rfl, hR1⟩
 obtain rfl := hR1.symm
 clear hR1
 obtain ⟨a1, c1, he, hf⟩ := o.freeze
 rw [he]
 refine Sy.heap (H' := _) (fun w h => hf h) ?_
 rw [show (grows g.grs).length = g.grs.length from List.length_map _]
 clear he hf
 refine bg (fun w hs => ⟨(lhA [_, _, _] ag28 rfl rfl rfl) w hs, (lhA [_, _, _] ag25 rfl rfl rfl) w hs, (lhA [_, _, _] ag28 rfl rfl rfl) w hs, trivial, trivial⟩) ?_
 exact sy_to (h1110101000010000 (a1, c1, b14)) (by repeat' first | exact Sub.nil | apply Sub.cons | rfl | (simp [lk]; omega)) (fun _ h => St.sub (h.pull b14))
 refine sy_alt ?_ ?_
 refine alc rfl zl25 rfl (fun b11 => ?_)
 refine bg (fun w hs => ⟨(lhA [_, _, _] ag28 rfl rfl rfl) w hs, (lhA [_, _, _] ag25 rfl rfl rfl) w hs, (lhA [_, _, _] ag28 rfl rfl rfl) w hs, (lhA [_, _, _] ag25 rfl rfl rfl) w hs, trivial⟩) ?_
 exact sy_to (h1010101010010000 (b11, b14)) (by repeat' first | exact Sub.nil | apply Sub.cons | rfl | (simp [lk]; omega)) (fun _ h => St.sub ((h.pull b11).pull b14))
 refine sy_alt ?_ ?_
 refine alc rfl zl28 rfl (fun b12 => ?_)
 refine bg (fun w hs => ⟨(lhA [_, _, _] ag28 rfl rfl rfl) w hs, (lhA [_, _, _] ag25 rfl rfl rfl) w hs, (lhA [_, _, _] ag28 rfl rfl rfl) w hs, (lhA [_, _, _] ag25 rfl rfl rfl) w hs, trivial⟩) ?_
 exact sy_to (h1010101001010000 (b12, b14)) (by repeat' first | exact Sub.nil | apply Sub.cons | rfl | (simp [lk]; omega)) (fun _ h => St.sub ((h.pull b12).pull b14))
 refine sy_alt ?_ ?_
 refine alc rfl zl59 rfl (fun b13 => ?_)
 refine bg (fun w hs => ⟨(lhA [_, _, _] ag28 rfl rfl rfl) w hs, (lhA [_, _, _] ag25 rfl rfl rfl) w hs, (lhA [_, _, _] ag28 rfl rfl rfl) w hs, (lhA [_, _, _] ag25 rfl rfl rfl) w hs, trivial⟩) ?_
 exact sy_to (h1010101000110000 (b13, b14)) (by repeat' first | exact Sub.nil | apply Sub.cons | rfl | (simp [lk]; omega)) (fun _ h => St.sub ((h.pull b13).pull b14))
 exact sy_stop
 exact sy_stop
end Go.Proofs.Ytknoaljnelfklaa
