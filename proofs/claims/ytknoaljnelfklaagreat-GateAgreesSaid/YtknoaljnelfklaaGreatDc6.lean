/- Walks of the functions of the program, and the laws that join them: what the last theorem of this claim needs, in order. -/
import Derived.Test.YtknoaljnelfklaaGreatDc5
namespace Go.Proofs.YtknoaljnelfklaaGreat
set_option linter.unusedSimpArgs false
set_option linter.unusedVariables false
open Go
theorem cal10 : cal Tryz.prog 10 = true := by kernel_rfl
theorem cal15 : cal Tryz.prog 15 = true := by kernel_rfl
theorem cal17 : cal Tryz.prog 17 = true := by kernel_rfl
theorem cal19 : cal Tryz.prog 19 = true := by kernel_rfl
theorem cal20 : cal Tryz.prog 20 = true := by kernel_rfl
theorem agrE_err {g : Gat} {c : Crt} {l : List Int} (h : bothE g c ≠ 0) : agrE g c l = bothE g c ∧ agrR g c l = false := by
  have e : agrE g c l = bothE g c := by unfold agrE; rw [decide_eq_true h]; rfl
  exact ⟨e, agrR_no e h⟩
theorem agrE_lst {g : Gat} {c : Crt} {l : List Int} (h : bothE g c = 0) : agrE g c l = lstE c.hs.length l := by
  unfold agrE lstE; rw [decide_eq_false (show ¬ bothE g c ≠ 0 by omega)]; rfl
theorem agrR_ref {g : Gat} {c : Crt} {l : List Int} {s : Nat} (h : agrE g c l = 0) (hs : ∀ j, s.testBit j = flt l j) : agrR g c l = agB g.miss c.hs s := by
  rw [agrR_0 h]; exact (agr_cong fun i _ => hs i).symm
theorem cla_err {g : Gat} {c : Crt} (h : bothE g c ≠ 0) : (claR g c).1 = [] ∧ (claR g c).2 = bothE g c := by
  unfold claR; rw [decide_eq_true h]; exact ⟨rfl, rfl⟩
theorem cla_ref {g : Gat} {c : Crt} (h : bothE g c = 0) : (claR g c).1 = (bif agr g.miss c.hs (fun _ => true) then [] else clashL g.miss c.hs) ∧ (claR g c).2 = (bif !(agr g.miss c.hs fun _ => true) then 0 else 6) := by
  unfold claR
  rw [decide_eq_false (show ¬ bothE g c ≠ 0 by omega)]
  cases agr g.miss c.hs fun _ => true <;> exact ⟨rfl, rfl⟩
theorem cla_len (g : Gat) (c : Crt) : (claR g c).1.length ≤ c.hs.length := by
  by_cases h : bothE g c = 0
  · rw [(cla_ref h).1]
    cases ha : agr g.miss c.hs fun _ => true with
    | true => exact Nat.zero_le _
    | false =>
      obtain ⟨⟨y, e, _, hp, hb, _⟩, _⟩ := clash_first (clash_hit ha)
      show (clashL g.miss c.hs).length ≤ _
      rw [e, List.length_map]
      have := nodup_len (l := y) (l' := List.range c.hs.length) (hp.imp fun h => Nat.ne_of_lt h) (fun j hj => List.mem_range.2 (hb j hj))
      simpa using this
  · rw [(cla_err h).1]; exact Nat.zero_le _
def pl3_3_7ffe0 : Plan := (.big 14 (.big 15 (.tk 16 (.big 17 (.big 18 .done)))))
def pl3_3_7ffc0 : Plan := (.big 13 pl3_3_7ffe0)
def pl3_3_7ffa0 : Plan := (.big 12 pl3_3_7ffe0)
def pl3_3_7ff80 : Plan := (.any (.alt 12 pl3_3_7ffc0 (.alt 13 pl3_3_7ffa0 .stop)))
def pl3_3_7ff60 : Plan := (.big 11 pl3_3_7ffe0)
def pl3_3_7ff40 : Plan := (.any (.alt 11 pl3_3_7ffc0 (.alt 13 pl3_3_7ff60 .stop)))
def pl3_3_7ff20 : Plan := (.any (.alt 11 pl3_3_7ffa0 (.alt 12 pl3_3_7ff60 .stop)))
def pl3_3_7ff00 : Plan := (.any (.alt 11 pl3_3_7ff80 (.alt 12 pl3_3_7ff40 (.alt 13 pl3_3_7ff20 .stop))))
def pl3_3_7fee0 : Plan := (.big 10 pl3_3_7ffe0)
def pl3_3_7fec0 : Plan := (.any (.alt 10 pl3_3_7ffc0 (.alt 13 pl3_3_7fee0 .stop)))
def pl3_3_7fea0 : Plan := (.any (.alt 10 pl3_3_7ffa0 (.alt 12 pl3_3_7fee0 .stop)))
def pl3_3_7fe80 : Plan := (.any (.alt 10 pl3_3_7ff80 (.alt 12 pl3_3_7fec0 (.alt 13 pl3_3_7fea0 .stop))))
def pl3_3_7fe60 : Plan := (.any (.alt 10 pl3_3_7ff60 (.alt 11 pl3_3_7fee0 .stop)))
def pl3_3_7fe40 : Plan := (.any (.alt 10 pl3_3_7ff40 (.alt 11 pl3_3_7fec0 (.alt 13 pl3_3_7fe60 .stop))))
def pl3_3_7fe20 : Plan := (.any (.alt 10 pl3_3_7ff20 (.alt 11 pl3_3_7fea0 (.alt 12 pl3_3_7fe60 .stop))))
def pl3_3_7fde0 : Plan := (.big 9 pl3_3_7ffe0)
def pl3_3_7fdc0 : Plan := (.any (.alt 9 pl3_3_7ffc0 (.alt 13 pl3_3_7fde0 .stop)))
def pl3_3_7fda0 : Plan := (.any (.alt 9 pl3_3_7ffa0 (.alt 12 pl3_3_7fde0 .stop)))
def pl3_3_7fd80 : Plan := (.any (.alt 9 pl3_3_7ff80 (.alt 12 pl3_3_7fdc0 (.alt 13 pl3_3_7fda0 .stop))))
def pl3_3_7fd60 : Plan := (.any (.alt 9 pl3_3_7ff60 (.alt 11 pl3_3_7fde0 .stop)))
def pl3_3_7fd40 : Plan := (.any (.alt 9 pl3_3_7ff40 (.alt 11 pl3_3_7fdc0 (.alt 13 pl3_3_7fd60 .stop))))
def pl3_3_7fd20 : Plan := (.any (.alt 9 pl3_3_7ff20 (.alt 11 pl3_3_7fda0 (.alt 12 pl3_3_7fd60 .stop))))
def pl3_3_7fd00 : Plan := (.any (.alt 9 pl3_3_7ff00 (.alt 11 pl3_3_7fd80 (.alt 12 pl3_3_7fd40 (.alt 13 pl3_3_7fd20 .stop)))))
def pl3_3_7fce0 : Plan := (.any (.alt 9 pl3_3_7fee0 (.alt 10 pl3_3_7fde0 .stop)))
def pl3_3_7fcc0 : Plan := (.any (.alt 9 pl3_3_7fec0 (.alt 10 pl3_3_7fdc0 (.alt 13 pl3_3_7fce0 .stop))))
def pl3_3_7fca0 : Plan := (.any (.alt 9 pl3_3_7fea0 (.alt 10 pl3_3_7fda0 (.alt 12 pl3_3_7fce0 .stop))))
def pl3_3_7fc80 : Plan := (.any (.alt 9 pl3_3_7fe80 (.alt 10 pl3_3_7fd80 (.alt 12 pl3_3_7fcc0 (.alt 13 pl3_3_7fca0 .stop)))))
def pl3_3_7fc60 : Plan := (.any (.alt 9 pl3_3_7fe60 (.alt 10 pl3_3_7fd60 (.alt 11 pl3_3_7fce0 .stop))))
def pl3_3_7fc40 : Plan := (.any (.alt 9 pl3_3_7fe40 (.alt 10 pl3_3_7fd40 (.alt 11 pl3_3_7fcc0 (.alt 13 pl3_3_7fc60 .stop)))))
def pl3_3_7fc20 : Plan := (.any (.alt 9 pl3_3_7fe20 (.alt 10 pl3_3_7fd20 (.alt 11 pl3_3_7fca0 (.alt 12 pl3_3_7fc60 .stop)))))
def pl3_3_7f5e0 : Plan := (.big 7 pl3_3_7fde0)
def pl3_3_7f5c0 : Plan := (.any (.alt 7 pl3_3_7fdc0 (.alt 13 pl3_3_7f5e0 .stop)))
def pl3_3_7f5a0 : Plan := (.any (.alt 7 pl3_3_7fda0 (.alt 12 pl3_3_7f5e0 .stop)))
def pl3_3_7f580 : Plan := (.any (.alt 7 pl3_3_7fd80 (.alt 12 pl3_3_7f5c0 (.alt 13 pl3_3_7f5a0 .stop))))
def pl3_3_7f560 : Plan := (.any (.alt 7 pl3_3_7fd60 (.alt 11 pl3_3_7f5e0 .stop)))
def pl3_3_7f540 : Plan := (.any (.alt 7 pl3_3_7fd40 (.alt 11 pl3_3_7f5c0 (.alt 13 pl3_3_7f560 .stop))))
def pl3_3_7f520 : Plan := (.any (.alt 7 pl3_3_7fd20 (.alt 11 pl3_3_7f5a0 (.alt 12 pl3_3_7f560 .stop))))
def pl3_3_7f500 : Plan := (.any (.alt 7 pl3_3_7fd00 (.alt 11 pl3_3_7f580 (.alt 12 pl3_3_7f540 (.alt 13 pl3_3_7f520 .stop)))))
def pl3_3_7f4e0 : Plan := (.any (.alt 7 pl3_3_7fce0 (.alt 10 pl3_3_7f5e0 .stop)))
def pl3_3_7f4c0 : Plan := (.any (.alt 7 pl3_3_7fcc0 (.alt 10 pl3_3_7f5c0 (.alt 13 pl3_3_7f4e0 .stop))))
def pl3_3_7f4a0 : Plan := (.any (.alt 7 pl3_3_7fca0 (.alt 10 pl3_3_7f5a0 (.alt 12 pl3_3_7f4e0 .stop))))
def pl3_3_7f480 : Plan := (.any (.alt 7 pl3_3_7fc80 (.alt 10 pl3_3_7f580 (.alt 12 pl3_3_7f4c0 (.alt 13 pl3_3_7f4a0 .stop)))))
def pl3_3_7f460 : Plan := (.any (.alt 7 pl3_3_7fc60 (.alt 10 pl3_3_7f560 (.alt 11 pl3_3_7f4e0 .stop))))
def pl3_3_7f440 : Plan := (.any (.alt 7 pl3_3_7fc40 (.alt 10 pl3_3_7f540 (.alt 11 pl3_3_7f4c0 (.alt 13 pl3_3_7f460 .stop)))))
def pl3_3_7f420 : Plan := (.any (.alt 7 pl3_3_7fc20 (.alt 10 pl3_3_7f520 (.alt 11 pl3_3_7f4a0 (.alt 12 pl3_3_7f460 .stop)))))
def pl3_3_7d5e0 : Plan := (.big 5 pl3_3_7f5e0)
def pl3_3_7d5c0 : Plan := (.any (.alt 5 pl3_3_7f5c0 (.alt 13 pl3_3_7d5e0 .stop)))
def pl3_3_7d5a0 : Plan := (.any (.alt 5 pl3_3_7f5a0 (.alt 12 pl3_3_7d5e0 .stop)))
def pl3_3_7d580 : Plan := (.any (.alt 5 pl3_3_7f580 (.alt 12 pl3_3_7d5c0 (.alt 13 pl3_3_7d5a0 .stop))))
def pl3_3_7d560 : Plan := (.any (.alt 5 pl3_3_7f560 (.alt 11 pl3_3_7d5e0 .stop)))
def pl3_3_7d540 : Plan := (.any (.alt 5 pl3_3_7f540 (.alt 11 pl3_3_7d5c0 (.alt 13 pl3_3_7d560 .stop))))
def pl3_3_7d520 : Plan := (.any (.alt 5 pl3_3_7f520 (.alt 11 pl3_3_7d5a0 (.alt 12 pl3_3_7d560 .stop))))
def pl3_3_7d500 : Plan := (.any (.alt 5 pl3_3_7f500 (.alt 11 pl3_3_7d580 (.alt 12 pl3_3_7d540 (.alt 13 pl3_3_7d520 .stop)))))
def pl3_3_7d4e0 : Plan := (.any (.alt 5 pl3_3_7f4e0 (.alt 10 pl3_3_7d5e0 .stop)))
def pl3_3_7d4c0 : Plan := (.any (.alt 5 pl3_3_7f4c0 (.alt 10 pl3_3_7d5c0 (.alt 13 pl3_3_7d4e0 .stop))))
def pl3_3_7d4a0 : Plan := (.any (.alt 5 pl3_3_7f4a0 (.alt 10 pl3_3_7d5a0 (.alt 12 pl3_3_7d4e0 .stop))))
def pl3_3_7d480 : Plan := (.any (.alt 5 pl3_3_7f480 (.alt 10 pl3_3_7d580 (.alt 12 pl3_3_7d4c0 (.alt 13 pl3_3_7d4a0 .stop)))))
def pl3_3_7d460 : Plan := (.any (.alt 5 pl3_3_7f460 (.alt 10 pl3_3_7d560 (.alt 11 pl3_3_7d4e0 .stop))))
def pl3_3_7d440 : Plan := (.any (.alt 5 pl3_3_7f440 (.alt 10 pl3_3_7d540 (.alt 11 pl3_3_7d4c0 (.alt 13 pl3_3_7d460 .stop)))))
def pl3_3_7d420 : Plan := (.any (.alt 5 pl3_3_7f420 (.alt 10 pl3_3_7d520 (.alt 11 pl3_3_7d4a0 (.alt 12 pl3_3_7d460 .stop)))))
def pl3_3_755e0 : Plan := (.big 3 pl3_3_7d5e0)
def pl3_3_755c0 : Plan := (.any (.alt 3 pl3_3_7d5c0 (.alt 13 pl3_3_755e0 .stop)))
def pl3_3_755a0 : Plan := (.any (.alt 3 pl3_3_7d5a0 (.alt 12 pl3_3_755e0 .stop)))
def pl3_3_75580 : Plan := (.any (.alt 3 pl3_3_7d580 (.alt 12 pl3_3_755c0 (.alt 13 pl3_3_755a0 .stop))))
def pl3_3_75560 : Plan := (.any (.alt 3 pl3_3_7d560 (.alt 11 pl3_3_755e0 .stop)))
def pl3_3_75540 : Plan := (.any (.alt 3 pl3_3_7d540 (.alt 11 pl3_3_755c0 (.alt 13 pl3_3_75560 .stop))))
def pl3_3_75520 : Plan := (.any (.alt 3 pl3_3_7d520 (.alt 11 pl3_3_755a0 (.alt 12 pl3_3_75560 .stop))))
def pl3_3_75500 : Plan := (.any (.alt 3 pl3_3_7d500 (.alt 11 pl3_3_75580 (.alt 12 pl3_3_75540 (.alt 13 pl3_3_75520 .stop)))))
def pl3_3_754e0 : Plan := (.any (.alt 3 pl3_3_7d4e0 (.alt 10 pl3_3_755e0 .stop)))
def pl3_3_754c0 : Plan := (.any (.alt 3 pl3_3_7d4c0 (.alt 10 pl3_3_755c0 (.alt 13 pl3_3_754e0 .stop))))
def pl3_3_754a0 : Plan := (.any (.alt 3 pl3_3_7d4a0 (.alt 10 pl3_3_755a0 (.alt 12 pl3_3_754e0 .stop))))
def pl3_3_75480 : Plan := (.any (.alt 3 pl3_3_7d480 (.alt 10 pl3_3_75580 (.alt 12 pl3_3_754c0 (.alt 13 pl3_3_754a0 .stop)))))
def pl3_3_75460 : Plan := (.any (.alt 3 pl3_3_7d460 (.alt 10 pl3_3_75560 (.alt 11 pl3_3_754e0 .stop))))
def pl3_3_75440 : Plan := (.any (.alt 3 pl3_3_7d440 (.alt 10 pl3_3_75540 (.alt 11 pl3_3_754c0 (.alt 13 pl3_3_75460 .stop)))))
def pl3_3_75420 : Plan := (.any (.alt 3 pl3_3_7d420 (.alt 10 pl3_3_75520 (.alt 11 pl3_3_754a0 (.alt 12 pl3_3_75460 .stop)))))
def pl3_3_555e0 : Plan := (.big 1 pl3_3_755e0)
def pl3_3_555c0 : Plan := (.any (.alt 1 pl3_3_755c0 (.alt 13 pl3_3_555e0 .stop)))
def pl3_3_555a0 : Plan := (.any (.alt 1 pl3_3_755a0 (.alt 12 pl3_3_555e0 .stop)))
def pl3_3_55580 : Plan := (.any (.alt 1 pl3_3_75580 (.alt 12 pl3_3_555c0 (.alt 13 pl3_3_555a0 .stop))))
def pl3_3_55560 : Plan := (.any (.alt 1 pl3_3_75560 (.alt 11 pl3_3_555e0 .stop)))
def pl3_3_55540 : Plan := (.any (.alt 1 pl3_3_75540 (.alt 11 pl3_3_555c0 (.alt 13 pl3_3_55560 .stop))))
def pl3_3_55520 : Plan := (.any (.alt 1 pl3_3_75520 (.alt 11 pl3_3_555a0 (.alt 12 pl3_3_55560 .stop))))
def pl3_3_554e0 : Plan := (.any (.alt 1 pl3_3_754e0 (.alt 10 pl3_3_555e0 .stop)))
def pl3_3_554c0 : Plan := (.any (.alt 1 pl3_3_754c0 (.alt 10 pl3_3_555c0 (.alt 13 pl3_3_554e0 .stop))))
def pl3_3_554a0 : Plan := (.any (.alt 1 pl3_3_754a0 (.alt 10 pl3_3_555a0 (.alt 12 pl3_3_554e0 .stop))))
def pl3_3_55460 : Plan := (.any (.alt 1 pl3_3_75460 (.alt 10 pl3_3_55560 (.alt 11 pl3_3_554e0 .stop))))
def pl3_3_0 : Plan := (.ld 0 (.ld 2 (.tk 4 (.ld 6 (.ld 8 (.any (.alt 1 (.any (.alt 3 (.any (.alt 5 (.any (.alt 7 (.any (.alt 9 (.any (.alt 10 pl3_3_7ff00 (.alt 11 pl3_3_7fe80 (.alt 12 pl3_3_7fe40 (.alt 13 pl3_3_7fe20 .stop))))) (.alt 10 pl3_3_7fd00 (.alt 11 pl3_3_7fc80 (.alt 12 pl3_3_7fc40 (.alt 13 pl3_3_7fc20 .stop)))))) (.alt 10 pl3_3_7f500 (.alt 11 pl3_3_7f480 (.alt 12 pl3_3_7f440 (.alt 13 pl3_3_7f420 .stop)))))) (.alt 10 pl3_3_7d500 (.alt 11 pl3_3_7d480 (.alt 12 pl3_3_7d440 (.alt 13 pl3_3_7d420 .stop)))))) (.alt 10 pl3_3_75500 (.alt 11 pl3_3_75480 (.alt 12 pl3_3_75440 (.alt 13 pl3_3_75420 .stop)))))) (.alt 10 (.any (.alt 1 pl3_3_75500 (.alt 11 pl3_3_55580 (.alt 12 pl3_3_55540 (.alt 13 pl3_3_55520 .stop))))) (.alt 11 (.any (.alt 1 pl3_3_75480 (.alt 10 pl3_3_55580 (.alt 12 pl3_3_554c0 (.alt 13 pl3_3_554a0 .stop))))) (.alt 12 (.any (.alt 1 pl3_3_75440 (.alt 10 pl3_3_55540 (.alt 11 pl3_3_554c0 (.alt 13 pl3_3_55460 .stop))))) (.alt 13 (.any (.alt 1 pl3_3_75420 (.alt 10 pl3_3_55520 (.alt 11 pl3_3_554a0 (.alt 12 pl3_3_55460 .stop))))) .stop)))))))))))
abbrev li3_3_0 : Array Bool := #[false, false, false, false, false, false, false, false, false, false, false, false, false, false, false, false, false, false, false]
abbrev li3_3_7ffe0 : Array Bool := #[true, true, true, true, true, true, true, true, true, true, true, true, true, true, false, false, false, false, false]
abbrev li3_3_7fff0 : Array Bool := #[true, true, true, true, true, true, true, true, true, true, true, true, true, true, true, false, false, false, false]
abbrev li3_3_7fff8 : Array Bool := #[true, true, true, true, true, true, true, true, true, true, true, true, true, true, true, true, false, false, false]
abbrev li3_3_7fffc : Array Bool := #[true, true, true, true, true, true, true, true, true, true, true, true, true, true, true, true, true, false, false]
abbrev li3_3_7fffe : Array Bool := #[true, true, true, true, true, true, true, true, true, true, true, true, true, true, true, true, true, true, false]
abbrev li3_3_7ffff : Array Bool := #[true, true, true, true, true, true, true, true, true, true, true, true, true, true, true, true, true, true, true]
abbrev li3_3_7ffc0 : Array Bool := #[true, true, true, true, true, true, true, true, true, true, true, true, true, false, false, false, false, false, false]
abbrev li3_3_7ffa0 : Array Bool := #[true, true, true, true, true, true, true, true, true, true, true, true, false, true, false, false, false, false, false]
abbrev li3_3_7ff80 : Array Bool := #[true, true, true, true, true, true, true, true, true, true, true, true, false, false, false, false, false, false, false]
abbrev li3_3_7ff60 : Array Bool := #[true, true, true, true, true, true, true, true, true, true, true, false, true, true, false, false, false, false, false]
abbrev li3_3_7ff40 : Array Bool := #[true, true, true, true, true, true, true, true, true, true, true, false, true, false, false, false, false, false, false]
abbrev li3_3_7ff20 : Array Bool := #[true, true, true, true, true, true, true, true, true, true, true, false, false, true, false, false, false, false, false]
abbrev li3_3_7ff00 : Array Bool := #[true, true, true, true, true, true, true, true, true, true, true, false, false, false, false, false, false, false, false]
abbrev li3_3_7fee0 : Array Bool := #[true, true, true, true, true, true, true, true, true, true, false, true, true, true, false, false, false, false, false]
abbrev li3_3_7fec0 : Array Bool := #[true, true, true, true, true, true, true, true, true, true, false, true, true, false, false, false, false, false, false]
abbrev li3_3_7fea0 : Array Bool := #[true, true, true, true, true, true, true, true, true, true, false, true, false, true, false, false, false, false, false]
abbrev li3_3_7fe80 : Array Bool := #[true, true, true, true, true, true, true, true, true, true, false, true, false, false, false, false, false, false, false]
abbrev li3_3_7fe60 : Array Bool := #[true, true, true, true, true, true, true, true, true, true, false, false, true, true, false, false, false, false, false]
abbrev li3_3_7fe40 : Array Bool := #[true, true, true, true, true, true, true, true, true, true, false, false, true, false, false, false, false, false, false]
abbrev li3_3_7fe20 : Array Bool := #[true, true, true, true, true, true, true, true, true, true, false, false, false, true, false, false, false, false, false]
abbrev li3_3_7fde0 : Array Bool := #[true, true, true, true, true, true, true, true, true, false, true, true, true, true, false, false, false, false, false]
abbrev li3_3_7fdc0 : Array Bool := #[true, true, true, true, true, true, true, true, true, false, true, true, true, false, false, false, false, false, false]
abbrev li3_3_7fda0 : Array Bool := #[true, true, true, true, true, true, true, true, true, false, true, true, false, true, false, false, false, false, false]
abbrev li3_3_7fd80 : Array Bool := #[true, true, true, true, true, true, true, true, true, false, true, true, false, false, false, false, false, false, false]
abbrev li3_3_7fd60 : Array Bool := #[true, true, true, true, true, true, true, true, true, false, true, false, true, true, false, false, false, false, false]
abbrev li3_3_7fd40 : Array Bool := #[true, true, true, true, true, true, true, true, true, false, true, false, true, false, false, false, false, false, false]
abbrev li3_3_7fd20 : Array Bool := #[true, true, true, true, true, true, true, true, true, false, true, false, false, true, false, false, false, false, false]
abbrev li3_3_7fd00 : Array Bool := #[true, true, true, true, true, true, true, true, true, false, true, false, false, false, false, false, false, false, false]
abbrev li3_3_7fce0 : Array Bool := #[true, true, true, true, true, true, true, true, true, false, false, true, true, true, false, false, false, false, false]
abbrev li3_3_7fcc0 : Array Bool := #[true, true, true, true, true, true, true, true, true, false, false, true, true, false, false, false, false, false, false]
abbrev li3_3_7fca0 : Array Bool := #[true, true, true, true, true, true, true, true, true, false, false, true, false, true, false, false, false, false, false]
abbrev li3_3_7fc80 : Array Bool := #[true, true, true, true, true, true, true, true, true, false, false, true, false, false, false, false, false, false, false]
abbrev li3_3_7fc60 : Array Bool := #[true, true, true, true, true, true, true, true, true, false, false, false, true, true, false, false, false, false, false]
abbrev li3_3_7fc40 : Array Bool := #[true, true, true, true, true, true, true, true, true, false, false, false, true, false, false, false, false, false, false]
abbrev li3_3_7fc20 : Array Bool := #[true, true, true, true, true, true, true, true, true, false, false, false, false, true, false, false, false, false, false]
abbrev li3_3_7f5e0 : Array Bool := #[true, true, true, true, true, true, true, false, true, false, true, true, true, true, false, false, false, false, false]
abbrev li3_3_7f5c0 : Array Bool := #[true, true, true, true, true, true, true, false, true, false, true, true, true, false, false, false, false, false, false]
abbrev li3_3_7f5a0 : Array Bool := #[true, true, true, true, true, true, true, false, true, false, true, true, false, true, false, false, false, false, false]
abbrev li3_3_7f580 : Array Bool := #[true, true, true, true, true, true, true, false, true, false, true, true, false, false, false, false, false, false, false]
abbrev li3_3_7f560 : Array Bool := #[true, true, true, true, true, true, true, false, true, false, true, false, true, true, false, false, false, false, false]
abbrev li3_3_7f540 : Array Bool := #[true, true, true, true, true, true, true, false, true, false, true, false, true, false, false, false, false, false, false]
abbrev li3_3_7f520 : Array Bool := #[true, true, true, true, true, true, true, false, true, false, true, false, false, true, false, false, false, false, false]
abbrev li3_3_7f500 : Array Bool := #[true, true, true, true, true, true, true, false, true, false, true, false, false, false, false, false, false, false, false]
abbrev li3_3_7f4e0 : Array Bool := #[true, true, true, true, true, true, true, false, true, false, false, true, true, true, false, false, false, false, false]
abbrev li3_3_7f4c0 : Array Bool := #[true, true, true, true, true, true, true, false, true, false, false, true, true, false, false, false, false, false, false]
abbrev li3_3_7f4a0 : Array Bool := #[true, true, true, true, true, true, true, false, true, false, false, true, false, true, false, false, false, false, false]
abbrev li3_3_7f480 : Array Bool := #[true, true, true, true, true, true, true, false, true, false, false, true, false, false, false, false, false, false, false]
abbrev li3_3_7f460 : Array Bool := #[true, true, true, true, true, true, true, false, true, false, false, false, true, true, false, false, false, false, false]
abbrev li3_3_7f440 : Array Bool := #[true, true, true, true, true, true, true, false, true, false, false, false, true, false, false, false, false, false, false]
abbrev li3_3_7f420 : Array Bool := #[true, true, true, true, true, true, true, false, true, false, false, false, false, true, false, false, false, false, false]
abbrev li3_3_7d5e0 : Array Bool := #[true, true, true, true, true, false, true, false, true, false, true, true, true, true, false, false, false, false, false]
abbrev li3_3_7d5c0 : Array Bool := #[true, true, true, true, true, false, true, false, true, false, true, true, true, false, false, false, false, false, false]
abbrev li3_3_7d5a0 : Array Bool := #[true, true, true, true, true, false, true, false, true, false, true, true, false, true, false, false, false, false, false]
abbrev li3_3_7d580 : Array Bool := #[true, true, true, true, true, false, true, false, true, false, true, true, false, false, false, false, false, false, false]
abbrev li3_3_7d560 : Array Bool := #[true, true, true, true, true, false, true, false, true, false, true, false, true, true, false, false, false, false, false]
abbrev li3_3_7d540 : Array Bool := #[true, true, true, true, true, false, true, false, true, false, true, false, true, false, false, false, false, false, false]
abbrev li3_3_7d520 : Array Bool := #[true, true, true, true, true, false, true, false, true, false, true, false, false, true, false, false, false, false, false]
abbrev li3_3_7d500 : Array Bool := #[true, true, true, true, true, false, true, false, true, false, true, false, false, false, false, false, false, false, false]
abbrev li3_3_7d4e0 : Array Bool := #[true, true, true, true, true, false, true, false, true, false, false, true, true, true, false, false, false, false, false]
abbrev li3_3_7d4c0 : Array Bool := #[true, true, true, true, true, false, true, false, true, false, false, true, true, false, false, false, false, false, false]
abbrev li3_3_7d4a0 : Array Bool := #[true, true, true, true, true, false, true, false, true, false, false, true, false, true, false, false, false, false, false]
abbrev li3_3_7d480 : Array Bool := #[true, true, true, true, true, false, true, false, true, false, false, true, false, false, false, false, false, false, false]
abbrev li3_3_7d460 : Array Bool := #[true, true, true, true, true, false, true, false, true, false, false, false, true, true, false, false, false, false, false]
abbrev li3_3_7d440 : Array Bool := #[true, true, true, true, true, false, true, false, true, false, false, false, true, false, false, false, false, false, false]
abbrev li3_3_7d420 : Array Bool := #[true, true, true, true, true, false, true, false, true, false, false, false, false, true, false, false, false, false, false]
abbrev li3_3_755e0 : Array Bool := #[true, true, true, false, true, false, true, false, true, false, true, true, true, true, false, false, false, false, false]
abbrev li3_3_755c0 : Array Bool := #[true, true, true, false, true, false, true, false, true, false, true, true, true, false, false, false, false, false, false]
abbrev li3_3_755a0 : Array Bool := #[true, true, true, false, true, false, true, false, true, false, true, true, false, true, false, false, false, false, false]
abbrev li3_3_75580 : Array Bool := #[true, true, true, false, true, false, true, false, true, false, true, true, false, false, false, false, false, false, false]
abbrev li3_3_75560 : Array Bool := #[true, true, true, false, true, false, true, false, true, false, true, false, true, true, false, false, false, false, false]
abbrev li3_3_75540 : Array Bool := #[true, true, true, false, true, false, true, false, true, false, true, false, true, false, false, false, false, false, false]
abbrev li3_3_75520 : Array Bool := #[true, true, true, false, true, false, true, false, true, false, true, false, false, true, false, false, false, false, false]
abbrev li3_3_75500 : Array Bool := #[true, true, true, false, true, false, true, false, true, false, true, false, false, false, false, false, false, false, false]
abbrev li3_3_754e0 : Array Bool := #[true, true, true, false, true, false, true, false, true, false, false, true, true, true, false, false, false, false, false]
abbrev li3_3_754c0 : Array Bool := #[true, true, true, false, true, false, true, false, true, false, false, true, true, false, false, false, false, false, false]
abbrev li3_3_754a0 : Array Bool := #[true, true, true, false, true, false, true, false, true, false, false, true, false, true, false, false, false, false, false]
abbrev li3_3_75480 : Array Bool := #[true, true, true, false, true, false, true, false, true, false, false, true, false, false, false, false, false, false, false]
abbrev li3_3_75460 : Array Bool := #[true, true, true, false, true, false, true, false, true, false, false, false, true, true, false, false, false, false, false]
abbrev li3_3_75440 : Array Bool := #[true, true, true, false, true, false, true, false, true, false, false, false, true, false, false, false, false, false, false]
abbrev li3_3_75420 : Array Bool := #[true, true, true, false, true, false, true, false, true, false, false, false, false, true, false, false, false, false, false]
abbrev li3_3_555e0 : Array Bool := #[true, false, true, false, true, false, true, false, true, false, true, true, true, true, false, false, false, false, false]
abbrev li3_3_555c0 : Array Bool := #[true, false, true, false, true, false, true, false, true, false, true, true, true, false, false, false, false, false, false]
abbrev li3_3_555a0 : Array Bool := #[true, false, true, false, true, false, true, false, true, false, true, true, false, true, false, false, false, false, false]
abbrev li3_3_55580 : Array Bool := #[true, false, true, false, true, false, true, false, true, false, true, true, false, false, false, false, false, false, false]
abbrev li3_3_55560 : Array Bool := #[true, false, true, false, true, false, true, false, true, false, true, false, true, true, false, false, false, false, false]
abbrev li3_3_55540 : Array Bool := #[true, false, true, false, true, false, true, false, true, false, true, false, true, false, false, false, false, false, false]
abbrev li3_3_55520 : Array Bool := #[true, false, true, false, true, false, true, false, true, false, true, false, false, true, false, false, false, false, false]
abbrev li3_3_554e0 : Array Bool := #[true, false, true, false, true, false, true, false, true, false, false, true, true, true, false, false, false, false, false]
abbrev li3_3_554c0 : Array Bool := #[true, false, true, false, true, false, true, false, true, false, false, true, true, false, false, false, false, false, false]
abbrev li3_3_554a0 : Array Bool := #[true, false, true, false, true, false, true, false, true, false, false, true, false, true, false, false, false, false, false]
abbrev li3_3_55460 : Array Bool := #[true, false, true, false, true, false, true, false, true, false, false, false, true, true, false, false, false, false, false]
abbrev li3_3_40000 : Array Bool := #[true, false, false, false, false, false, false, false, false, false, false, false, false, false, false, false, false, false, false]
abbrev li3_3_50000 : Array Bool := #[true, false, true, false, false, false, false, false, false, false, false, false, false, false, false, false, false, false, false]
abbrev li3_3_54000 : Array Bool := #[true, false, true, false, true, false, false, false, false, false, false, false, false, false, false, false, false, false, false]
abbrev li3_3_55000 : Array Bool := #[true, false, true, false, true, false, true, false, false, false, false, false, false, false, false, false, false, false, false]
abbrev li3_3_55400 : Array Bool := #[true, false, true, false, true, false, true, false, true, false, false, false, false, false, false, false, false, false, false]
abbrev li3_3_75400 : Array Bool := #[true, true, true, false, true, false, true, false, true, false, false, false, false, false, false, false, false, false, false]
abbrev li3_3_7d400 : Array Bool := #[true, true, true, true, true, false, true, false, true, false, false, false, false, false, false, false, false, false, false]
abbrev li3_3_7f400 : Array Bool := #[true, true, true, true, true, true, true, false, true, false, false, false, false, false, false, false, false, false, false]
abbrev li3_3_7fc00 : Array Bool := #[true, true, true, true, true, true, true, true, true, false, false, false, false, false, false, false, false, false, false]
abbrev li3_3_7fe00 : Array Bool := #[true, true, true, true, true, true, true, true, true, true, false, false, false, false, false, false, false, false, false]
abbrev li3_3_55500 : Array Bool := #[true, false, true, false, true, false, true, false, true, false, true, false, false, false, false, false, false, false, false]
abbrev li3_3_55480 : Array Bool := #[true, false, true, false, true, false, true, false, true, false, false, true, false, false, false, false, false, false, false]
abbrev li3_3_55440 : Array Bool := #[true, false, true, false, true, false, true, false, true, false, false, false, true, false, false, false, false, false, false]
abbrev li3_3_55420 : Array Bool := #[true, false, true, false, true, false, true, false, true, false, false, false, false, true, false, false, false, false, false]
set_option maxHeartbeats 4000000 in
theorem c_GateAgrees (g : Gat) (ag : Option Addr) (cg : Nat) (hlg : g.grs.length ≤ 9223372036854775807) (c : Crt) (ah : Option Addr) (ch : Nat) (hlh : c.hs.length ≤ 9223372036854775807) (l : List Int) (al : Option Addr) (cy : Nat) (hll : l.length ≤ 9223372036854775807) (H : Heap) (R : Facts) [hG : MemRows ag 5 (grows g.grs) R] [hA : MemRows ah 5 (hrows c.hs) R] [hL : MemRows al 1 (irows l) R] :
    Fn Tryz.prog 3 [g.v (g.sl ag cg), c.v (c.sl ah ch), .slice al l.length cy] H R (fun v H' R' => v = .bool true ∧ H' = H ∧ R' = R) := by
 refine fn_of Tryz.func3 rfl Tryz.ntmps3 rfl ?_
 refine sy_seq ?_
 refine sy_tx' [0, 1, 2] rfl ?_
 refine bx rfl rfl rfl (fun b3 => ?_)
 refine bx rfl rfl rfl (fun b4 => ?_)
 refine sp rfl (PE.assign rfl) rfl ?_
 refine sy_seq ?_
 refine sy_seq ?_
 refine sy_tx' [0, 1, 2, 3, 4, 5, 6, 7] rfl ?_
 refine spL rfl rfl (lhA [_, _, _] ag24 rfl rfl rfl) rfl ?_
 refine spL rfl rfl (lhA [_, _, _] ag27 rfl rfl rfl) rfl ?_
 refine clV rfl cal6 rfl rfl (c_grt g ag cg hlg c ah ch hlh _ _) ?_
 refine sp rfl (PE.move rfl) rfl ?_
 refine sy_case (t := 30) rfl (fun g30 => ?_) (fun g30 => ?_)
 repeat refine spN rfl rfl rfl rfl rfl rfl rfl rfl ?_
 refine sp rfl (PE.pick rfl rfl rfl) rfl ?_
 refine sy_condT rfl ?_
 refine sy_seq ?_
 refine sy_tx' [0, 1] rfl ?_
 refine clV rfl cal7 rfl rfl (c_awake _ _) ?_
 refine sp rfl (PE.assign rfl) rfl ?_
 refine sy_ret ?_
 exact sy_return (vs := [_]) rfl (.cons (RV.tmp rfl) .nil) rfl ⟨rfl, rfl, rfl⟩ drp
 have h79 : ¬ 7 < g.grs.length ∧ ¬ 9 < c.hs.length := by simpa using g30
 refine spG rfl rfl rfl rfl (PE.move rfl) rfl ?_
 refine spG rfl rfl rfl rfl (PE.lenSl isl28 rfl) rfl ?_
 refine spG rfl rfl rfl rfl (PE.gtr rfl rfl) rfl ?_
 refine sp rfl (PE.pick rfl rfl rfl) rfl ?_
 refine sy_cond rfl (fun hc0 => ?_) (fun hc0 => ?_)
 try simp only [decide_eq_true_eq, decide_eq_false_iff_not, Bool.and_eq_true, Bool.or_eq_true, Bool.not_eq_true', Int.not_le, Int.not_lt] at hc0
 refine sy_seq ?_
 refine sy_tx' [0, 1] rfl ?_
 refine clV rfl cal7 rfl rfl (c_awake _ _) ?_
 refine sp rfl (PE.assign rfl) rfl ?_
 refine sy_ret ?_
 exact sy_return (vs := [_]) rfl (.cons (RV.tmp rfl) .nil) rfl ⟨rfl, rfl, rfl⟩ drp
 try simp only [decide_eq_true_eq, decide_eq_false_iff_not, Bool.and_eq_true, Bool.or_eq_true, Bool.not_eq_true', Int.not_le, Int.not_lt] at hc0
 refine sy_skip ?_
 refine sy_seq ?_
 refine sy_draw [0, 1, 0, 7, 0, 31, 0, 127, 0, 511, 0, 0, 0, 0, 16383, 32767, 65535, 131071, 262143] pl3_3_0 mixed ?_ ?_
 refine reg_ok (fuel := 19) (listed := li3_3_0) (by kernel_rfl) (by kernel_rfl) (by kernel_rfl) ?_
 refine ok_have pl3_3_7ffe0 5 li3_3_7ffe0 ?_ (fun ok7ffe0 => ?_)
 refine ok_big (l2 := li3_3_7fff0) (by kernel_rfl) (by kernel_rfl) ?_
 refine ok_big (l2 := li3_3_7fff8) (by kernel_rfl) (by kernel_rfl) ?_
 refine ok_tk (l2 := li3_3_7fffc) (by kernel_rfl) (by kernel_rfl) ?_
 refine ok_big (l2 := li3_3_7fffe) (by kernel_rfl) (by kernel_rfl) ?_
 refine ok_big (l2 := li3_3_7ffff) (by kernel_rfl) (by kernel_rfl) ?_
 exact ok_done (by kernel_rfl)
 refine ok_have pl3_3_7ffc0 6 li3_3_7ffc0 ?_ (fun ok7ffc0 => ?_)
 refine ok_big (l2 := li3_3_7ffe0) (by kernel_rfl) (by kernel_rfl) ?_
 exact ok7ffe0
 refine ok_have pl3_3_7ffa0 6 li3_3_7ffa0 ?_ (fun ok7ffa0 => ?_)
 refine ok_big (l2 := li3_3_7ffe0) (by kernel_rfl) (by kernel_rfl) ?_
 exact ok7ffe0
 refine ok_have pl3_3_7ff80 7 li3_3_7ff80 ?_ (fun ok7ff80 => ?_)
 refine ok_any (by kernel_rfl) ?_
 refine ok_alt (l2 := li3_3_7ffc0) (by kernel_rfl) ?_ ?_
 exact ok7ffc0
 refine ok_alt (l2 := li3_3_7ffa0) (by kernel_rfl) ?_ ?_
 exact ok7ffa0
 exact ok_stop
 refine ok_have pl3_3_7ff60 6 li3_3_7ff60 ?_ (fun ok7ff60 => ?_)
 refine ok_big (l2 := li3_3_7ffe0) (by kernel_rfl) (by kernel_rfl) ?_
 exact ok7ffe0
 refine ok_have pl3_3_7ff40 7 li3_3_7ff40 ?_ (fun ok7ff40 => ?_)
 refine ok_any (by kernel_rfl) ?_
 refine ok_alt (l2 := li3_3_7ffc0) (by kernel_rfl) ?_ ?_
 exact ok7ffc0
 refine ok_alt (l2 := li3_3_7ff60) (by kernel_rfl) ?_ ?_
 exact ok7ff60
 exact ok_stop
 refine ok_have pl3_3_7ff20 7 li3_3_7ff20 ?_ (fun ok7ff20 => ?_)
 refine ok_any (by kernel_rfl) ?_
 refine ok_alt (l2 := li3_3_7ffa0) (by kernel_rfl) ?_ ?_
 exact ok7ffa0
 refine ok_alt (l2 := li3_3_7ff60) (by kernel_rfl) ?_ ?_
 exact ok7ff60
 exact ok_stop
 refine ok_have pl3_3_7ff00 8 li3_3_7ff00 ?_ (fun ok7ff00 => ?_)
 refine ok_any (by kernel_rfl) ?_
 refine ok_alt (l2 := li3_3_7ff80) (by kernel_rfl) ?_ ?_
 exact ok7ff80
 refine ok_alt (l2 := li3_3_7ff40) (by kernel_rfl) ?_ ?_
 exact ok7ff40
 refine ok_alt (l2 := li3_3_7ff20) (by kernel_rfl) ?_ ?_
 exact ok7ff20
 exact ok_stop
 refine ok_have pl3_3_7fee0 6 li3_3_7fee0 ?_ (fun ok7fee0 => ?_)
 refine ok_big (l2 := li3_3_7ffe0) (by kernel_rfl) (by kernel_rfl) ?_
 exact ok7ffe0
 refine ok_have pl3_3_7fec0 7 li3_3_7fec0 ?_ (fun ok7fec0 => ?_)
 refine ok_any (by kernel_rfl) ?_
 refine ok_alt (l2 := li3_3_7ffc0) (by kernel_rfl) ?_ ?_
 exact ok7ffc0
 refine ok_alt (l2 := li3_3_7fee0) (by kernel_rfl) ?_ ?_
 exact ok7fee0
 exact ok_stop
 refine ok_have pl3_3_7fea0 7 li3_3_7fea0 ?_ (fun ok7fea0 => ?_)
 refine ok_any (by kernel_rfl) ?_
 refine ok_alt (l2 := li3_3_7ffa0) (by kernel_rfl) ?_ ?_
 exact ok7ffa0
 refine ok_alt (l2 := li3_3_7fee0) (by kernel_rfl) ?_ ?_
 exact ok7fee0
 exact ok_stop
 refine ok_have pl3_3_7fe80 8 li3_3_7fe80 ?_ (fun ok7fe80 => ?_)
 refine ok_any (by kernel_rfl) ?_
 refine ok_alt (l2 := li3_3_7ff80) (by kernel_rfl) ?_ ?_
 exact ok7ff80
 refine ok_alt (l2 := li3_3_7fec0) (by kernel_rfl) ?_ ?_
 exact ok7fec0
 refine ok_alt (l2 := li3_3_7fea0) (by kernel_rfl) ?_ ?_
 exact ok7fea0
 exact ok_stop
 refine ok_have pl3_3_7fe60 7 li3_3_7fe60 ?_ (fun ok7fe60 => ?_)
 refine ok_any (by kernel_rfl) ?_
 refine ok_alt (l2 := li3_3_7ff60) (by kernel_rfl) ?_ ?_
 exact ok7ff60
 refine ok_alt (l2 := li3_3_7fee0) (by kernel_rfl) ?_ ?_
 exact ok7fee0
 exact ok_stop
 refine ok_have pl3_3_7fe40 8 li3_3_7fe40 ?_ (fun ok7fe40 => ?_)
 refine ok_any (by kernel_rfl) ?_
 refine ok_alt (l2 := li3_3_7ff40) (by kernel_rfl) ?_ ?_
 exact ok7ff40
 refine ok_alt (l2 := li3_3_7fec0) (by kernel_rfl) ?_ ?_
 exact ok7fec0
 refine ok_alt (l2 := li3_3_7fe60) (by kernel_rfl) ?_ ?_
 exact ok7fe60
 exact ok_stop
 refine ok_have pl3_3_7fe20 8 li3_3_7fe20 ?_ (fun ok7fe20 => ?_)
 refine ok_any (by kernel_rfl) ?_
 refine ok_alt (l2 := li3_3_7ff20) (by kernel_rfl) ?_ ?_
 exact ok7ff20
 refine ok_alt (l2 := li3_3_7fea0) (by kernel_rfl) ?_ ?_
 exact ok7fea0
 refine ok_alt (l2 := li3_3_7fe60) (by kernel_rfl) ?_ ?_
 exact ok7fe60
 exact ok_stop
 refine ok_have pl3_3_7fde0 6 li3_3_7fde0 ?_ (fun ok7fde0 => ?_)
 refine ok_big (l2 := li3_3_7ffe0) (by kernel_rfl) (by kernel_rfl) ?_
 exact ok7ffe0
 refine ok_have pl3_3_7fdc0 7 li3_3_7fdc0 ?_ (fun ok7fdc0 => ?_)
 refine ok_any (by kernel_rfl) ?_
 refine ok_alt (l2 := li3_3_7ffc0) (by kernel_rfl) ?_ ?_
 exact ok7ffc0
 refine ok_alt (l2 := li3_3_7fde0) (by kernel_rfl) ?_ ?_
 exact ok7fde0
 exact ok_stop
 refine ok_have pl3_3_7fda0 7 li3_3_7fda0 ?_ (fun ok7fda0 => ?_)
 refine ok_any (by kernel_rfl) ?_
 refine ok_alt (l2 := li3_3_7ffa0) (by kernel_rfl) ?_ ?_
 exact ok7ffa0
 refine ok_alt (l2 := li3_3_7fde0) (by kernel_rfl) ?_ ?_
 exact ok7fde0
 exact ok_stop
 refine ok_have pl3_3_7fd80 8 li3_3_7fd80 ?_ (fun ok7fd80 => ?_)
 refine ok_any (by kernel_rfl) ?_
 refine ok_alt (l2 := li3_3_7ff80) (by kernel_rfl) ?_ ?_
 exact ok7ff80
 refine ok_alt (l2 := li3_3_7fdc0) (by kernel_rfl) ?_ ?_
 exact ok7fdc0
 refine ok_alt (l2 := li3_3_7fda0) (by kernel_rfl) ?_ ?_
 exact ok7fda0
 exact ok_stop
 refine ok_have pl3_3_7fd60 7 li3_3_7fd60 ?_ (fun ok7fd60 => ?_)
 refine ok_any (by kernel_rfl) ?_
 refine ok_alt (l2 := li3_3_7ff60) (by kernel_rfl) ?_ ?_
 exact ok7ff60
 refine ok_alt (l2 := li3_3_7fde0) (by kernel_rfl) ?_ ?_
 exact ok7fde0
 exact ok_stop
 refine ok_have pl3_3_7fd40 8 li3_3_7fd40 ?_ (fun ok7fd40 => ?_)
 refine ok_any (by kernel_rfl) ?_
 refine ok_alt (l2 := li3_3_7ff40) (by kernel_rfl) ?_ ?_
 exact ok7ff40
 refine ok_alt (l2 := li3_3_7fdc0) (by kernel_rfl) ?_ ?_
 exact ok7fdc0
 refine ok_alt (l2 := li3_3_7fd60) (by kernel_rfl) ?_ ?_
 exact ok7fd60
 exact ok_stop
 refine ok_have pl3_3_7fd20 8 li3_3_7fd20 ?_ (fun ok7fd20 => ?_)
 refine ok_any (by kernel_rfl) ?_
 refine ok_alt (l2 := li3_3_7ff20) (by kernel_rfl) ?_ ?_
 exact ok7ff20
 refine ok_alt (l2 := li3_3_7fda0) (by kernel_rfl) ?_ ?_
 exact ok7fda0
 refine ok_alt (l2 := li3_3_7fd60) (by kernel_rfl) ?_ ?_
 exact ok7fd60
 exact ok_stop
 refine ok_have pl3_3_7fd00 9 li3_3_7fd00 ?_ (fun ok7fd00 => ?_)
 refine ok_any (by kernel_rfl) ?_
 refine ok_alt (l2 := li3_3_7ff00) (by kernel_rfl) ?_ ?_
 exact ok7ff00
 refine ok_alt (l2 := li3_3_7fd80) (by kernel_rfl) ?_ ?_
 exact ok7fd80
 refine ok_alt (l2 := li3_3_7fd40) (by kernel_rfl) ?_ ?_
 exact ok7fd40
 refine ok_alt (l2 := li3_3_7fd20) (by kernel_rfl) ?_ ?_
 exact ok7fd20
 exact ok_stop
 refine ok_have pl3_3_7fce0 7 li3_3_7fce0 ?_ (fun ok7fce0 => ?_)
 refine ok_any (by kernel_rfl) ?_
 refine ok_alt (l2 := li3_3_7fee0) (by kernel_rfl) ?_ ?_
 exact ok7fee0
 refine ok_alt (l2 := li3_3_7fde0) (by kernel_rfl) ?_ ?_
 exact ok7fde0
 exact ok_stop
 refine ok_have pl3_3_7fcc0 8 li3_3_7fcc0 ?_ (fun ok7fcc0 => ?_)
 refine ok_any (by kernel_rfl) ?_
 refine ok_alt (l2 := li3_3_7fec0) (by kernel_rfl) ?_ ?_
 exact ok7fec0
 refine ok_alt (l2 := li3_3_7fdc0) (by kernel_rfl) ?_ ?_
 exact ok7fdc0
 refine ok_alt (l2 := li3_3_7fce0) (by kernel_rfl) ?_ ?_
 exact ok7fce0
 exact ok_stop
 refine ok_have pl3_3_7fca0 8 li3_3_7fca0 ?_ (fun ok7fca0 => ?_)
 refine ok_any (by kernel_rfl) ?_
 refine ok_alt (l2 := li3_3_7fea0) (by kernel_rfl) ?_ ?_
 exact ok7fea0
 refine ok_alt (l2 := li3_3_7fda0) (by kernel_rfl) ?_ ?_
 exact ok7fda0
 refine ok_alt (l2 := li3_3_7fce0) (by kernel_rfl) ?_ ?_
 exact ok7fce0
 exact ok_stop
 refine ok_have pl3_3_7fc80 9 li3_3_7fc80 ?_ (fun ok7fc80 => ?_)
 refine ok_any (by kernel_rfl) ?_
 refine ok_alt (l2 := li3_3_7fe80) (by kernel_rfl) ?_ ?_
 exact ok7fe80
 refine ok_alt (l2 := li3_3_7fd80) (by kernel_rfl) ?_ ?_
 exact ok7fd80
 refine ok_alt (l2 := li3_3_7fcc0) (by kernel_rfl) ?_ ?_
 exact ok7fcc0
 refine ok_alt (l2 := li3_3_7fca0) (by kernel_rfl) ?_ ?_
 exact ok7fca0
 exact ok_stop
 refine ok_have pl3_3_7fc60 8 li3_3_7fc60 ?_ (fun ok7fc60 => ?_)
 refine ok_any (by kernel_rfl) ?_
 refine ok_alt (l2 := li3_3_7fe60) (by kernel_rfl) ?_ ?_
 exact ok7fe60
 refine ok_alt (l2 := li3_3_7fd60) (by kernel_rfl) ?_ ?_
 exact ok7fd60
 refine ok_alt (l2 := li3_3_7fce0) (by kernel_rfl) ?_ ?_
 exact ok7fce0
 exact ok_stop
 refine ok_have pl3_3_7fc40 9 li3_3_7fc40 ?_ (fun ok7fc40 => ?_)
 refine ok_any (by kernel_rfl) ?_
 refine ok_alt (l2 := li3_3_7fe40) (by kernel_rfl) ?_ ?_
 exact ok7fe40
 refine ok_alt (l2 := li3_3_7fd40) (by kernel_rfl) ?_ ?_
 exact ok7fd40
 refine ok_alt (l2 := li3_3_7fcc0) (by kernel_rfl) ?_ ?_
 exact ok7fcc0
 refine ok_alt (l2 := li3_3_7fc60) (by kernel_rfl) ?_ ?_
 exact ok7fc60
 exact ok_stop
 refine ok_have pl3_3_7fc20 9 li3_3_7fc20 ?_ (fun ok7fc20 => ?_)
 refine ok_any (by kernel_rfl) ?_
 refine ok_alt (l2 := li3_3_7fe20) (by kernel_rfl) ?_ ?_
 exact ok7fe20
 refine ok_alt (l2 := li3_3_7fd20) (by kernel_rfl) ?_ ?_
 exact ok7fd20
 refine ok_alt (l2 := li3_3_7fca0) (by kernel_rfl) ?_ ?_
 exact ok7fca0
 refine ok_alt (l2 := li3_3_7fc60) (by kernel_rfl) ?_ ?_
 exact ok7fc60
 exact ok_stop
 refine ok_have pl3_3_7f5e0 7 li3_3_7f5e0 ?_ (fun ok7f5e0 => ?_)
 refine ok_big (l2 := li3_3_7fde0) (by kernel_rfl) (by kernel_rfl) ?_
 exact ok7fde0
 refine ok_have pl3_3_7f5c0 8 li3_3_7f5c0 ?_ (fun ok7f5c0 => ?_)
 refine ok_any (by kernel_rfl) ?_
 refine ok_alt (l2 := li3_3_7fdc0) (by kernel_rfl) ?_ ?_
 exact ok7fdc0
 refine ok_alt (l2 := li3_3_7f5e0) (by kernel_rfl) ?_ ?_
 exact ok7f5e0
 exact ok_stop
 refine ok_have pl3_3_7f5a0 8 li3_3_7f5a0 ?_ (fun ok7f5a0 => ?_)
 refine ok_any (by kernel_rfl) ?_
 refine ok_alt (l2 := li3_3_7fda0) (by kernel_rfl) ?_ ?_
 exact ok7fda0
 refine ok_alt (l2 := li3_3_7f5e0) (by kernel_rfl) ?_ ?_
 exact ok7f5e0
 exact ok_stop
 refine ok_have pl3_3_7f580 9 li3_3_7f580 ?_ (fun ok7f580 => ?_)
 refine ok_any (by kernel_rfl) ?_
 refine ok_alt (l2 := li3_3_7fd80) (by kernel_rfl) ?_ ?_
 exact ok7fd80
 refine ok_alt (l2 := li3_3_7f5c0) (by kernel_rfl) ?_ ?_
 exact ok7f5c0
 refine ok_alt (l2 := li3_3_7f5a0) (by kernel_rfl) ?_ ?_
 exact ok7f5a0
 exact ok_stop
 refine ok_have pl3_3_7f560 8 li3_3_7f560 ?_ (fun ok7f560 => ?_)
 refine ok_any (by kernel_rfl) ?_
 refine ok_alt (l2 := li3_3_7fd60) (by kernel_rfl) ?_ ?_
 exact ok7fd60
 refine ok_alt (l2 := li3_3_7f5e0) (by kernel_rfl) ?_ ?_
 exact ok7f5e0
 exact ok_stop
 refine ok_have pl3_3_7f540 9 li3_3_7f540 ?_ (fun ok7f540 => ?_)
 refine ok_any (by kernel_rfl) ?_
 refine ok_alt (l2 := li3_3_7fd40) (by kernel_rfl) ?_ ?_
 exact ok7fd40
 refine ok_alt (l2 := li3_3_7f5c0) (by kernel_rfl) ?_ ?_
 exact ok7f5c0
 refine ok_alt (l2 := li3_3_7f560) (by kernel_rfl) ?_ ?_
 exact ok7f560
 exact ok_stop
 refine ok_have pl3_3_7f520 9 li3_3_7f520 ?_ (fun ok7f520 => ?_)
 refine ok_any (by kernel_rfl) ?_
 refine ok_alt (l2 := li3_3_7fd20) (by kernel_rfl) ?_ ?_
 exact ok7fd20
 refine ok_alt (l2 := li3_3_7f5a0) (by kernel_rfl) ?_ ?_
 exact ok7f5a0
 refine ok_alt (l2 := li3_3_7f560) (by kernel_rfl) ?_ ?_
 exact ok7f560
 exact ok_stop
 refine ok_have pl3_3_7f500 10 li3_3_7f500 ?_ (fun ok7f500 => ?_)
 refine ok_any (by kernel_rfl) ?_
 refine ok_alt (l2 := li3_3_7fd00) (by kernel_rfl) ?_ ?_
 exact ok7fd00
 refine ok_alt (l2 := li3_3_7f580) (by kernel_rfl) ?_ ?_
 exact ok7f580
 refine ok_alt (l2 := li3_3_7f540) (by kernel_rfl) ?_ ?_
 exact ok7f540
 refine ok_alt (l2 := li3_3_7f520) (by kernel_rfl) ?_ ?_
 exact ok7f520
 exact ok_stop
 refine ok_have pl3_3_7f4e0 8 li3_3_7f4e0 ?_ (fun ok7f4e0 => ?_)
 refine ok_any (by kernel_rfl) ?_
 refine ok_alt (l2 := li3_3_7fce0) (by kernel_rfl) ?_ ?_
 exact ok7fce0
 refine ok_alt (l2 := li3_3_7f5e0) (by kernel_rfl) ?_ ?_
 exact ok7f5e0
 exact ok_stop
 refine ok_have pl3_3_7f4c0 9 li3_3_7f4c0 ?_ (fun ok7f4c0 => ?_)
 refine ok_any (by kernel_rfl) ?_
 refine ok_alt (l2 := li3_3_7fcc0) (by kernel_rfl) ?_ ?_
 exact ok7fcc0
 refine ok_alt (l2 := li3_3_7f5c0) (by kernel_rfl) ?_ ?_
 exact ok7f5c0
 refine ok_alt (l2 := li3_3_7f4e0) (by kernel_rfl) ?_ ?_
 exact ok7f4e0
 exact ok_stop
 refine ok_have pl3_3_7f4a0 9 li3_3_7f4a0 ?_ (fun ok7f4a0 => ?_)
 refine ok_any (by kernel_rfl) ?_
 refine ok_alt (l2 := li3_3_7fca0) (by kernel_rfl) ?_ ?_
 exact ok7fca0
 refine ok_alt (l2 := li3_3_7f5a0) (by kernel_rfl) ?_ ?_
 exact ok7f5a0
 refine ok_alt (l2 := li3_3_7f4e0) (by kernel_rfl) ?_ ?_
 exact ok7f4e0
 exact ok_stop
 refine ok_have pl3_3_7f480 10 li3_3_7f480 ?_ (fun ok7f480 => ?_)
 refine ok_any (by kernel_rfl) ?_
 refine ok_alt (l2 := li3_3_7fc80) (by kernel_rfl) ?_ ?_
 exact ok7fc80
 refine ok_alt (l2 := li3_3_7f580) (by kernel_rfl) ?_ ?_
 exact ok7f580
 refine ok_alt (l2 := li3_3_7f4c0) (by kernel_rfl) ?_ ?_
 exact ok7f4c0
 refine ok_alt (l2 := li3_3_7f4a0) (by kernel_rfl) ?_ ?_
 exact ok7f4a0
 exact ok_stop
 refine ok_have pl3_3_7f460 9 li3_3_7f460 ?_ (fun ok7f460 => ?_)
 refine ok_any (by kernel_rfl) ?_
 refine ok_alt (l2 := li3_3_7fc60) (by kernel_rfl) ?_ ?_
 exact ok7fc60
 refine ok_alt (l2 := li3_3_7f560) (by kernel_rfl) ?_ ?_
 exact ok7f560
 refine ok_alt (l2 := li3_3_7f4e0) (by kernel_rfl) ?_ ?_
 exact ok7f4e0
 exact ok_stop
 refine ok_have pl3_3_7f440 10 li3_3_7f440 ?_ (fun ok7f440 => ?_)
 refine ok_any (by kernel_rfl) ?_
 refine ok_alt (l2 := li3_3_7fc40) (by kernel_rfl) ?_ ?_
 exact ok7fc40
 refine ok_alt (l2 := li3_3_7f540) (by kernel_rfl) ?_ ?_
 exact ok7f540
 refine ok_alt (l2 := li3_3_7f4c0) (by kernel_rfl) ?_ ?_
 exact ok7f4c0
 refine ok_alt (l2 := li3_3_7f460) (by kernel_rfl) ?_ ?_
 exact ok7f460
 exact ok_stop
 refine ok_have pl3_3_7f420 10 li3_3_7f420 ?_ (fun ok7f420 => ?_)
 refine ok_any (by kernel_rfl) ?_
 refine ok_alt (l2 := li3_3_7fc20) (by kernel_rfl) ?_ ?_
 exact ok7fc20
 refine ok_alt (l2 := li3_3_7f520) (by kernel_rfl) ?_ ?_
 exact ok7f520
 refine ok_alt (l2 := li3_3_7f4a0) (by kernel_rfl) ?_ ?_
 exact ok7f4a0
 refine ok_alt (l2 := li3_3_7f460) (by kernel_rfl) ?_ ?_
 exact ok7f460
 exact ok_stop
 refine ok_have pl3_3_7d5e0 8 li3_3_7d5e0 ?_ (fun ok7d5e0 => ?_)
 refine ok_big (l2 := li3_3_7f5e0) (by kernel_rfl) (by kernel_rfl) ?_
 exact ok7f5e0
 refine ok_have pl3_3_7d5c0 9 li3_3_7d5c0 ?_ (fun ok7d5c0 => ?_)
 refine ok_any (by kernel_rfl) ?_
 refine ok_alt (l2 := li3_3_7f5c0) (by kernel_rfl) ?_ ?_
 exact ok7f5c0
 refine ok_alt (l2 := li3_3_7d5e0) (by kernel_rfl) ?_ ?_
 exact ok7d5e0
 exact ok_stop
 refine ok_have pl3_3_7d5a0 9 li3_3_7d5a0 ?_ (fun ok7d5a0 => ?_)
 refine ok_any (by kernel_rfl) ?_
 refine ok_alt (l2 := li3_3_7f5a0) (by kernel_rfl) ?_ ?_
 exact ok7f5a0
 refine ok_alt (l2 := li3_3_7d5e0) (by kernel_rfl) ?_ ?_
 exact ok7d5e0
 exact ok_stop
 refine ok_have pl3_3_7d580 10 li3_3_7d580 ?_ (fun ok7d580 => ?_)
 refine ok_any (by kernel_rfl) ?_
 refine ok_alt (l2 := li3_3_7f580) (by kernel_rfl) ?_ ?_
 exact ok7f580
 refine ok_alt (l2 := li3_3_7d5c0) (by kernel_rfl) ?_ ?_
 exact ok7d5c0
 refine ok_alt (l2 := li3_3_7d5a0) (by kernel_rfl) ?_ ?_
 exact ok7d5a0
 exact ok_stop
 refine ok_have pl3_3_7d560 9 li3_3_7d560 ?_ (fun ok7d560 => ?_)
 refine ok_any (by kernel_rfl) ?_
 refine ok_alt (l2 := li3_3_7f560) (by kernel_rfl) ?_ ?_
 exact ok7f560
 refine ok_alt (l2 := li3_3_7d5e0) (by kernel_rfl) ?_ ?_
 exact ok7d5e0
 exact ok_stop
 refine ok_have pl3_3_7d540 10 li3_3_7d540 ?_ (fun ok7d540 => ?_)
 refine ok_any (by kernel_rfl) ?_
 refine ok_alt (l2 := li3_3_7f540) (by kernel_rfl) ?_ ?_
 exact ok7f540
 refine ok_alt (l2 := li3_3_7d5c0) (by kernel_rfl) ?_ ?_
 exact ok7d5c0
 refine ok_alt (l2 := li3_3_7d560) (by kernel_rfl) ?_ ?_
 exact ok7d560
 exact ok_stop
 refine ok_have pl3_3_7d520 10 li3_3_7d520 ?_ (fun ok7d520 => ?_)
 refine ok_any (by kernel_rfl) ?_
 refine ok_alt (l2 := li3_3_7f520) (by kernel_rfl) ?_ ?_
 exact ok7f520
 refine ok_alt (l2 := li3_3_7d5a0) (by kernel_rfl) ?_ ?_
 exact ok7d5a0
 refine ok_alt (l2 := li3_3_7d560) (by kernel_rfl) ?_ ?_
 exact ok7d560
 exact ok_stop
 refine ok_have pl3_3_7d500 11 li3_3_7d500 ?_ (fun ok7d500 => ?_)
 refine ok_any (by kernel_rfl) ?_
 refine ok_alt (l2 := li3_3_7f500) (by kernel_rfl) ?_ ?_
 exact ok7f500
 refine ok_alt (l2 := li3_3_7d580) (by kernel_rfl) ?_ ?_
 exact ok7d580
 refine ok_alt (l2 := li3_3_7d540) (by kernel_rfl) ?_ ?_
 exact ok7d540
 refine ok_alt (l2 := li3_3_7d520) (by kernel_rfl) ?_ ?_
 exact ok7d520
 exact ok_stop
 refine ok_have pl3_3_7d4e0 9 li3_3_7d4e0 ?_ (fun ok7d4e0 => ?_)
 refine ok_any (by kernel_rfl) ?_
 refine ok_alt (l2 := li3_3_7f4e0) (by kernel_rfl) ?_ ?_
 exact ok7f4e0
 refine ok_alt (l2 := li3_3_7d5e0) (by kernel_rfl) ?_ ?_
 exact ok7d5e0
 exact ok_stop
 refine ok_have pl3_3_7d4c0 10 li3_3_7d4c0 ?_ (fun ok7d4c0 => ?_)
 refine ok_any (by kernel_rfl) ?_
 refine ok_alt (l2 := li3_3_7f4c0) (by kernel_rfl) ?_ ?_
 exact ok7f4c0
 refine ok_alt (l2 := li3_3_7d5c0) (by kernel_rfl) ?_ ?_
 exact ok7d5c0
 refine ok_alt (l2 := li3_3_7d4e0) (by kernel_rfl) ?_ ?_
 exact ok7d4e0
 exact ok_stop
 refine ok_have pl3_3_7d4a0 10 li3_3_7d4a0 ?_ (fun ok7d4a0 => ?_)
 refine ok_any (by kernel_rfl) ?_
 refine ok_alt (l2 := li3_3_7f4a0) (by kernel_rfl) ?_ ?_
 exact ok7f4a0
 refine ok_alt (l2 := li3_3_7d5a0) (by kernel_rfl) ?_ ?_
 exact ok7d5a0
 refine ok_alt (l2 := li3_3_7d4e0) (by kernel_rfl) ?_ ?_
 exact ok7d4e0
 exact ok_stop
 refine ok_have pl3_3_7d480 11 li3_3_7d480 ?_ (fun ok7d480 => ?_)
 refine ok_any (by kernel_rfl) ?_
 refine ok_alt (l2 := li3_3_7f480) (by kernel_rfl) ?_ ?_
 exact ok7f480
 refine ok_alt (l2 := li3_3_7d580) (by kernel_rfl) ?_ ?_
 exact ok7d580
 refine ok_alt (l2 := li3_3_7d4c0) (by kernel_rfl) ?_ ?_
 exact ok7d4c0
 refine ok_alt (l2 := li3_3_7d4a0) (by kernel_rfl) ?_ ?_
 exact ok7d4a0
 exact ok_stop
 refine ok_have pl3_3_7d460 10 li3_3_7d460 ?_ (fun ok7d460 => ?_)
 refine ok_any (by kernel_rfl) ?_
 refine ok_alt (l2 := li3_3_7f460) (by kernel_rfl) ?_ ?_
 exact ok7f460
 refine ok_alt (l2 := li3_3_7d560) (by kernel_rfl) ?_ ?_
 exact ok7d560
 refine ok_alt (l2 := li3_3_7d4e0) (by kernel_rfl) ?_ ?_
 exact ok7d4e0
 exact ok_stop
 refine ok_have pl3_3_7d440 11 li3_3_7d440 ?_ (fun ok7d440 => ?_)
 refine ok_any (by kernel_rfl) ?_
 refine ok_alt (l2 := li3_3_7f440) (by kernel_rfl) ?_ ?_
 exact ok7f440
 refine ok_alt (l2 := li3_3_7d540) (by kernel_rfl) ?_ ?_
 exact ok7d540
 refine ok_alt (l2 := li3_3_7d4c0) (by kernel_rfl) ?_ ?_
 exact ok7d4c0
 refine ok_alt (l2 := li3_3_7d460) (by kernel_rfl) ?_ ?_
 exact ok7d460
 exact ok_stop
 refine ok_have pl3_3_7d420 11 li3_3_7d420 ?_ (fun ok7d420 => ?_)
 refine ok_any (by kernel_rfl) ?_
 refine ok_alt (l2 := li3_3_7f420) (by kernel_rfl) ?_ ?_
 exact ok7f420
 refine ok_alt (l2 := li3_3_7d520) (by kernel_rfl) ?_ ?_
 exact ok7d520
 refine ok_alt (l2 := li3_3_7d4a0) (by kernel_rfl) ?_ ?_
 exact ok7d4a0
 refine ok_alt (l2 := li3_3_7d460) (by kernel_rfl) ?_ ?_
 exact ok7d460
 exact ok_stop
 refine ok_have pl3_3_755e0 9 li3_3_755e0 ?_ (fun ok755e0 => ?_)
 refine ok_big (l2 := li3_3_7d5e0) (by kernel_rfl) (by kernel_rfl) ?_
 exact ok7d5e0
 refine ok_have pl3_3_755c0 10 li3_3_755c0 ?_ (fun ok755c0 => ?_)
 refine ok_any (by kernel_rfl) ?_
 refine ok_alt (l2 := li3_3_7d5c0) (by kernel_rfl) ?_ ?_
 exact ok7d5c0
 refine ok_alt (l2 := li3_3_755e0) (by kernel_rfl) ?_ ?_
 exact ok755e0
 exact ok_stop
 refine ok_have pl3_3_755a0 10 li3_3_755a0 ?_ (fun ok755a0 => ?_)
 refine ok_any (by kernel_rfl) ?_
 refine ok_alt (l2 := li3_3_7d5a0) (by kernel_rfl) ?_ ?_
 exact ok7d5a0
 refine ok_alt (l2 := li3_3_755e0) (by kernel_rfl) ?_ ?_
 exact ok755e0
 exact ok_stop
 refine ok_have pl3_3_75580 11 li3_3_75580 ?_ (fun ok75580 => ?_)
 refine ok_any (by kernel_rfl) ?_
 refine ok_alt (l2 := li3_3_7d580) (by kernel_rfl) ?_ ?_
 exact ok7d580
 refine ok_alt (l2 := li3_3_755c0) (by kernel_rfl) ?_ ?_
 exact ok755c0
 refine ok_alt (l2 := li3_3_755a0) (by kernel_rfl) ?_ ?_
 exact ok755a0
 exact ok_stop
 refine ok_have pl3_3_75560 10 li3_3_75560 ?_ (fun ok75560 => ?_)
 refine ok_any (by kernel_rfl) ?_
 refine ok_alt (l2 := li3_3_7d560) (by kernel_rfl) ?_ ?_
 exact ok7d560
 refine ok_alt (l2 := li3_3_755e0) (by kernel_rfl) ?_ ?_
 exact ok755e0
 exact ok_stop
 refine ok_have pl3_3_75540 11 li3_3_75540 ?_ (fun ok75540 => ?_)
 refine ok_any (by kernel_rfl) ?_
 refine ok_alt (l2 := li3_3_7d540) (by kernel_rfl) ?_ ?_
 exact ok7d540
 refine ok_alt (l2 := li3_3_755c0) (by kernel_rfl) ?_ ?_
 exact ok755c0
 refine ok_alt (l2 := li3_3_75560) (by kernel_rfl) ?_ ?_
 exact ok75560
 exact ok_stop
 refine ok_have pl3_3_75520 11 li3_3_75520 ?_ (fun ok75520 => ?_)
 refine ok_any (by kernel_rfl) ?_
 refine ok_alt (l2 := li3_3_7d520) (by kernel_rfl) ?_ ?_
 exact ok7d520
 refine ok_alt (l2 := li3_3_755a0) (by kernel_rfl) ?_ ?_
 exact ok755a0
 refine ok_alt (l2 := li3_3_75560) (by kernel_rfl) ?_ ?_
 exact ok75560
 exact ok_stop
 refine ok_have pl3_3_75500 12 li3_3_75500 ?_ (fun ok75500 => ?_)
 refine ok_any (by kernel_rfl) ?_
 refine ok_alt (l2 := li3_3_7d500) (by kernel_rfl) ?_ ?_
 exact ok7d500
 refine ok_alt (l2 := li3_3_75580) (by kernel_rfl) ?_ ?_
 exact ok75580
 refine ok_alt (l2 := li3_3_75540) (by kernel_rfl) ?_ ?_
 exact ok75540
 refine ok_alt (l2 := li3_3_75520) (by kernel_rfl) ?_ ?_
 exact ok75520
 exact ok_stop
 refine ok_have pl3_3_754e0 10 li3_3_754e0 ?_ (fun ok754e0 => ?_)
 refine ok_any (by kernel_rfl) ?_
 refine ok_alt (l2 := li3_3_7d4e0) (by kernel_rfl) ?_ ?_
 exact ok7d4e0
 refine ok_alt (l2 := li3_3_755e0) (by kernel_rfl) ?_ ?_
 exact ok755e0
 exact ok_stop
 refine ok_have pl3_3_754c0 11 li3_3_754c0 ?_ (fun ok754c0 => ?_)
 refine ok_any (by kernel_rfl) ?_
 refine ok_alt (l2 := li3_3_7d4c0) (by kernel_rfl) ?_ ?_
 exact ok7d4c0
 refine ok_alt (l2 := li3_3_755c0) (by kernel_rfl) ?_ ?_
 exact ok755c0
 refine ok_alt (l2 := li3_3_754e0) (by kernel_rfl) ?_ ?_
 exact ok754e0
 exact ok_stop
 refine ok_have pl3_3_754a0 11 li3_3_754a0 ?_ (fun ok754a0 => ?_)
 refine ok_any (by kernel_rfl) ?_
 refine ok_alt (l2 := li3_3_7d4a0) (by kernel_rfl) ?_ ?_
 exact ok7d4a0
 refine ok_alt (l2 := li3_3_755a0) (by kernel_rfl) ?_ ?_
 exact ok755a0
 refine ok_alt (l2 := li3_3_754e0) (by kernel_rfl) ?_ ?_
 exact ok754e0
 exact ok_stop
 refine ok_have pl3_3_75480 12 li3_3_75480 ?_ (fun ok75480 => ?_)
 refine ok_any (by kernel_rfl) ?_
 refine ok_alt (l2 := li3_3_7d480) (by kernel_rfl) ?_ ?_
 exact ok7d480
 refine ok_alt (l2 := li3_3_75580) (by kernel_rfl) ?_ ?_
 exact ok75580
 refine ok_alt (l2 := li3_3_754c0) (by kernel_rfl) ?_ ?_
 exact ok754c0
 refine ok_alt (l2 := li3_3_754a0) (by kernel_rfl) ?_ ?_
 exact ok754a0
 exact ok_stop
 refine ok_have pl3_3_75460 11 li3_3_75460 ?_ (fun ok75460 => ?_)
 refine ok_any (by kernel_rfl) ?_
 refine ok_alt (l2 := li3_3_7d460) (by kernel_rfl) ?_ ?_
 exact ok7d460
 refine ok_alt (l2 := li3_3_75560) (by kernel_rfl) ?_ ?_
 exact ok75560
 refine ok_alt (l2 := li3_3_754e0) (by kernel_rfl) ?_ ?_
 exact ok754e0
 exact ok_stop
 refine ok_have pl3_3_75440 12 li3_3_75440 ?_ (fun ok75440 => ?_)
 refine ok_any (by kernel_rfl) ?_
 refine ok_alt (l2 := li3_3_7d440) (by kernel_rfl) ?_ ?_
 exact ok7d440
 refine ok_alt (l2 := li3_3_75540) (by kernel_rfl) ?_ ?_
 exact ok75540
 refine ok_alt (l2 := li3_3_754c0) (by kernel_rfl) ?_ ?_
 exact ok754c0
 refine ok_alt (l2 := li3_3_75460) (by kernel_rfl) ?_ ?_
 exact ok75460
 exact ok_stop
 refine ok_have pl3_3_75420 12 li3_3_75420 ?_ (fun ok75420 => ?_)
 refine ok_any (by kernel_rfl) ?_
 refine ok_alt (l2 := li3_3_7d420) (by kernel_rfl) ?_ ?_
 exact ok7d420
 refine ok_alt (l2 := li3_3_75520) (by kernel_rfl) ?_ ?_
 exact ok75520
 refine ok_alt (l2 := li3_3_754a0) (by kernel_rfl) ?_ ?_
 exact ok754a0
 refine ok_alt (l2 := li3_3_75460) (by kernel_rfl) ?_ ?_
 exact ok75460
 exact ok_stop
 refine ok_have pl3_3_555e0 10 li3_3_555e0 ?_ (fun ok555e0 => ?_)
 refine ok_big (l2 := li3_3_755e0) (by kernel_rfl) (by kernel_rfl) ?_
 exact ok755e0
 refine ok_have pl3_3_555c0 11 li3_3_555c0 ?_ (fun ok555c0 => ?_)
 refine ok_any (by kernel_rfl) ?_
 refine ok_alt (l2 := li3_3_755c0) (by kernel_rfl) ?_ ?_
 exact ok755c0
 refine ok_alt (l2 := li3_3_555e0) (by kernel_rfl) ?_ ?_
 exact ok555e0
 exact ok_stop
 refine ok_have pl3_3_555a0 11 li3_3_555a0 ?_ (fun ok555a0 => ?_)
 refine ok_any (by kernel_rfl) ?_
 refine ok_alt (l2 := li3_3_755a0) (by kernel_rfl) ?_ ?_
 exact ok755a0
 refine ok_alt (l2 := li3_3_555e0) (by kernel_rfl) ?_ ?_
 exact ok555e0
 exact ok_stop
 refine ok_have pl3_3_55580 12 li3_3_55580 ?_ (fun ok55580 => ?_)
 refine ok_any (by kernel_rfl) ?_
 refine ok_alt (l2 := li3_3_75580) (by kernel_rfl) ?_ ?_
 exact ok75580
 refine ok_alt (l2 := li3_3_555c0) (by kernel_rfl) ?_ ?_
 exact ok555c0
 refine ok_alt (l2 := li3_3_555a0) (by kernel_rfl) ?_ ?_
 exact ok555a0
 exact ok_stop
 refine ok_have pl3_3_55560 11 li3_3_55560 ?_ (fun ok55560 => ?_)
 refine ok_any (by kernel_rfl) ?_
 refine ok_alt (l2 := li3_3_75560) (by kernel_rfl) ?_ ?_
 exact ok75560
 refine ok_alt (l2 := li3_3_555e0) (by kernel_rfl) ?_ ?_
 exact ok555e0
 exact ok_stop
 refine ok_have pl3_3_55540 12 li3_3_55540 ?_ (fun ok55540 => ?_)
 refine ok_any (by kernel_rfl) ?_
 refine ok_alt (l2 := li3_3_75540) (by kernel_rfl) ?_ ?_
 exact ok75540
 refine ok_alt (l2 := li3_3_555c0) (by kernel_rfl) ?_ ?_
 exact ok555c0
 refine ok_alt (l2 := li3_3_55560) (by kernel_rfl) ?_ ?_
 exact ok55560
 exact ok_stop
 refine ok_have pl3_3_55520 12 li3_3_55520 ?_ (fun ok55520 => ?_)
 refine ok_any (by kernel_rfl) ?_
 refine ok_alt (l2 := li3_3_75520) (by kernel_rfl) ?_ ?_
 exact ok75520
 refine ok_alt (l2 := li3_3_555a0) (by kernel_rfl) ?_ ?_
 exact ok555a0
 refine ok_alt (l2 := li3_3_55560) (by kernel_rfl) ?_ ?_
 exact ok55560
 exact ok_stop
 refine ok_have pl3_3_554e0 11 li3_3_554e0 ?_ (fun ok554e0 => ?_)
 refine ok_any (by kernel_rfl) ?_
 refine ok_alt (l2 := li3_3_754e0) (by kernel_rfl) ?_ ?_
 exact ok754e0
 refine ok_alt (l2 := li3_3_555e0) (by kernel_rfl) ?_ ?_
 exact ok555e0
 exact ok_stop
 refine ok_have pl3_3_554c0 12 li3_3_554c0 ?_ (fun ok554c0 => ?_)
 refine ok_any (by kernel_rfl) ?_
 refine ok_alt (l2 := li3_3_754c0) (by kernel_rfl) ?_ ?_
 exact ok754c0
 refine ok_alt (l2 := li3_3_555c0) (by kernel_rfl) ?_ ?_
 exact ok555c0
 refine ok_alt (l2 := li3_3_554e0) (by kernel_rfl) ?_ ?_
 exact ok554e0
 exact ok_stop
 refine ok_have pl3_3_554a0 12 li3_3_554a0 ?_ (fun ok554a0 => ?_)
 refine ok_any (by kernel_rfl) ?_
 refine ok_alt (l2 := li3_3_754a0) (by kernel_rfl) ?_ ?_
 exact ok754a0
 refine ok_alt (l2 := li3_3_555a0) (by kernel_rfl) ?_ ?_
 exact ok555a0
 refine ok_alt (l2 := li3_3_554e0) (by kernel_rfl) ?_ ?_
 exact ok554e0
 exact ok_stop
 refine ok_have pl3_3_55460 12 li3_3_55460 ?_ (fun ok55460 => ?_)
 refine ok_any (by kernel_rfl) ?_
 refine ok_alt (l2 := li3_3_75460) (by kernel_rfl) ?_ ?_
 exact ok75460
 refine ok_alt (l2 := li3_3_55560) (by kernel_rfl) ?_ ?_
 exact ok55560
 refine ok_alt (l2 := li3_3_554e0) (by kernel_rfl) ?_ ?_
 exact ok554e0
 exact ok_stop
 refine ok_ld (l2 := li3_3_40000) (by kernel_rfl) (by kernel_rfl) ?_
 refine ok_ld (l2 := li3_3_50000) (by kernel_rfl) (by kernel_rfl) ?_
 refine ok_tk (l2 := li3_3_54000) (by kernel_rfl) (by kernel_rfl) ?_
 refine ok_ld (l2 := li3_3_55000) (by kernel_rfl) (by kernel_rfl) ?_
 refine ok_ld (l2 := li3_3_55400) (by kernel_rfl) (by kernel_rfl) ?_
 refine ok_any (by kernel_rfl) ?_
 refine ok_alt (l2 := li3_3_75400) (by kernel_rfl) ?_ ?_
 refine ok_any (by kernel_rfl) ?_
 refine ok_alt (l2 := li3_3_7d400) (by kernel_rfl) ?_ ?_
 refine ok_any (by kernel_rfl) ?_
 refine ok_alt (l2 := li3_3_7f400) (by kernel_rfl) ?_ ?_
 refine ok_any (by kernel_rfl) ?_
 refine ok_alt (l2 := li3_3_7fc00) (by kernel_rfl) ?_ ?_
 refine ok_any (by kernel_rfl) ?_
 refine ok_alt (l2 := li3_3_7fe00) (by kernel_rfl) ?_ ?_
 refine ok_any (by kernel_rfl) ?_
 refine ok_alt (l2 := li3_3_7ff00) (by kernel_rfl) ?_ ?_
 exact ok7ff00
 refine ok_alt (l2 := li3_3_7fe80) (by kernel_rfl) ?_ ?_
 exact ok7fe80
 refine ok_alt (l2 := li3_3_7fe40) (by kernel_rfl) ?_ ?_
 exact ok7fe40
 refine ok_alt (l2 := li3_3_7fe20) (by kernel_rfl) ?_ ?_
 exact ok7fe20
 exact ok_stop
 refine ok_alt (l2 := li3_3_7fd00) (by kernel_rfl) ?_ ?_
 exact ok7fd00
 refine ok_alt (l2 := li3_3_7fc80) (by kernel_rfl) ?_ ?_
 exact ok7fc80
 refine ok_alt (l2 := li3_3_7fc40) (by kernel_rfl) ?_ ?_
 exact ok7fc40
 refine ok_alt (l2 := li3_3_7fc20) (by kernel_rfl) ?_ ?_
 exact ok7fc20
 exact ok_stop
 refine ok_alt (l2 := li3_3_7f500) (by kernel_rfl) ?_ ?_
 exact ok7f500
 refine ok_alt (l2 := li3_3_7f480) (by kernel_rfl) ?_ ?_
 exact ok7f480
 refine ok_alt (l2 := li3_3_7f440) (by kernel_rfl) ?_ ?_
 exact ok7f440
 refine ok_alt (l2 := li3_3_7f420) (by kernel_rfl) ?_ ?_
 exact ok7f420
 exact ok_stop
 refine ok_alt (l2 := li3_3_7d500) (by kernel_rfl) ?_ ?_
 exact ok7d500
 refine ok_alt (l2 := li3_3_7d480) (by kernel_rfl) ?_ ?_
 exact ok7d480
 refine ok_alt (l2 := li3_3_7d440) (by kernel_rfl) ?_ ?_
 exact ok7d440
 refine ok_alt (l2 := li3_3_7d420) (by kernel_rfl) ?_ ?_
 exact ok7d420
 exact ok_stop
 refine ok_alt (l2 := li3_3_75500) (by kernel_rfl) ?_ ?_
 exact ok75500
 refine ok_alt (l2 := li3_3_75480) (by kernel_rfl) ?_ ?_
 exact ok75480
 refine ok_alt (l2 := li3_3_75440) (by kernel_rfl) ?_ ?_
 exact ok75440
 refine ok_alt (l2 := li3_3_75420) (by kernel_rfl) ?_ ?_
 exact ok75420
 exact ok_stop
 refine ok_alt (l2 := li3_3_55500) (by kernel_rfl) ?_ ?_
 refine ok_any (by kernel_rfl) ?_
 refine ok_alt (l2 := li3_3_75500) (by kernel_rfl) ?_ ?_
 exact ok75500
 refine ok_alt (l2 := li3_3_55580) (by kernel_rfl) ?_ ?_
 exact ok55580
 refine ok_alt (l2 := li3_3_55540) (by kernel_rfl) ?_ ?_
 exact ok55540
 refine ok_alt (l2 := li3_3_55520) (by kernel_rfl) ?_ ?_
 exact ok55520
 exact ok_stop
 refine ok_alt (l2 := li3_3_55480) (by kernel_rfl) ?_ ?_
 refine ok_any (by kernel_rfl) ?_
 refine ok_alt (l2 := li3_3_75480) (by kernel_rfl) ?_ ?_
 exact ok75480
 refine ok_alt (l2 := li3_3_55580) (by kernel_rfl) ?_ ?_
 exact ok55580
 refine ok_alt (l2 := li3_3_554c0) (by kernel_rfl) ?_ ?_
 exact ok554c0
 refine ok_alt (l2 := li3_3_554a0) (by kernel_rfl) ?_ ?_
 exact ok554a0
 exact ok_stop
 refine ok_alt (l2 := li3_3_55440) (by kernel_rfl) ?_ ?_
 refine ok_any (by kernel_rfl) ?_
 refine ok_alt (l2 := li3_3_75440) (by kernel_rfl) ?_ ?_
 exact ok75440
 refine ok_alt (l2 := li3_3_55540) (by kernel_rfl) ?_ ?_
 exact ok55540
 refine ok_alt (l2 := li3_3_554c0) (by kernel_rfl) ?_ ?_
 exact ok554c0
 refine ok_alt (l2 := li3_3_55460) (by kernel_rfl) ?_ ?_
 exact ok55460
 exact ok_stop
 refine ok_alt (l2 := li3_3_55420) (by kernel_rfl) ?_ ?_
 refine ok_any (by kernel_rfl) ?_
 refine ok_alt (l2 := li3_3_75420) (by kernel_rfl) ?_ ?_
 exact ok75420
 refine ok_alt (l2 := li3_3_55520) (by kernel_rfl) ?_ ?_
 exact ok55520
 refine ok_alt (l2 := li3_3_554a0) (by kernel_rfl) ?_ ?_
 exact ok554a0
 refine ok_alt (l2 := li3_3_55460) (by kernel_rfl) ?_ ?_
 exact ok55460
 exact ok_stop
 exact ok_stop
 refine ld rfl rfl (lhA [_, _, _] ag24 rfl rfl rfl) rfl ?_
 refine ld rfl rfl (lhA [_, _, _] ag27 rfl rfl rfl) rfl ?_
 refine tk rfl (PE.move rfl) rfl ?_
 refine ld rfl rfl (lhA [_, _, _] ag24 rfl rfl rfl) rfl ?_
 refine ld rfl rfl (lhA [_, _, _] ag27 rfl rfl rfl) rfl ?_
 refine sy_have (β := Option Addr × Nat × Option Addr × Nat × Option Addr × Nat × Option Addr × Nat × Option Addr × Nat × Nat × Nat × Nat × Nat) pl3_3_7ffe0 (fun ⟨a1, c1, a2, c2, a5, c5, a3, c3, a4, c4, b7, b8, b10, b11⟩ => ([(11, .pointer (some ⟨b11, 0, none⟩)), (10, .pointer (some ⟨b10, 0, none⟩)), (8, .pointer (some ⟨b8, 0, none⟩)), (7, .pointer (some ⟨b7, 0, none⟩)), (45, c.v (c.sl a4 c4)), (43, g.v (g.sl a3 c3)), (41, .slice a5 l.length c5), (39, c.v (c.sl a2 c2)), (37, g.v (g.sl a1 c1)), (2, .slice al l.length cy), (3, .pointer (some ⟨b3, 0, none⟩)), (4, .pointer (some ⟨b4, 0, none⟩)), (36, g.v (g.sl ag cg)), (38, c.v (c.sl ah ch)), (40, .slice al l.length cy), (42, g.v (g.sl ag cg)), (44, c.v (c.sl ah ch))], (b11, cel 40 ([.int .i64 0, .int .i64 0, .slice none 0 0])) :: (b10, cel 36 ([.int .i64 0, .int .i64 0, .slice none 0 0])) :: (b8, cel 27 ([.int .i64 0, .int .i64 0, .slice none 0 0])) :: (b7, cel 24 ([.int .i64 0, .int .i64 0, .slice none 0 0])) :: (b4, cel 27 (ctl c (c.sl ah ch))) :: (b3, cel 24 (gtl g (g.sl ag cg))) :: H, RowsA a4 5 (hrows c.hs) :: RowsA a3 5 (grows g.grs) :: RowsA a5 1 (irows l) :: RowsA a2 5 (hrows c.hs) :: RowsA a1 5 (grows g.grs) :: R, [])) (fun v9 => ?_) (fun h7ffe0 => ?_)
 obtain ⟨a1, c1, a2, c2, a5, c5, a3, c3, a4, c4, b7, b8, b10, b11⟩ := v9
 dsimp only
 unfold pl3_3_7ffe0
 refine sto rfl rfl rfl cn24 rfl rfl rfl rfl ?_
 refine bg (fun w hs => trivial) ?_
 refine sto rfl rfl rfl cn27 rfl rfl rfl rfl ?_
 refine bg (fun w hs => trivial) ?_
 refine tk rfl (PE.assign rfl) rfl ?_
 refine sto rfl rfl rfl cn36 rfl rfl rfl rfl ?_
 refine bg (fun w hs => trivial) ?_
 refine sto rfl rfl rfl cn40 rfl rfl rfl rfl ?_
 refine bg (fun w hs => trivial) ?_
 refine sy_seq ?_
 refine sy_tx' [0, 1, 2, 3] rfl ?_
 refine spL rfl rfl (lhA [_, _, _] ag36 rfl rfl rfl) rfl ?_
 refine spL rfl rfl (lhA [_, _, _] ag40 rfl rfl rfl) rfl ?_
 refine clV rfl cal13 rfl rfl (c_rBoth g a3 c3 (by omega) c a4 c4 (by omega) _ _) ?_
 refine sp rfl (PE.assign rfl) rfl ?_
 refine sy_seq ?_
 refine sy_tx' [0, 1, 2, 3] rfl ?_
 refine sp rfl (PE.move rfl) rfl ?_
 refine sp rfl (PE.move rfl) rfl ?_
 refine sp rfl (PE.assign rfl) rfl ?_
 refine sp rfl (PE.assign rfl) rfl ?_
 refine sy_seq ?_
 refine sy_tx' [0, 1] rfl ?_
 refine sp rfl (PE.assign rfl) rfl ?_
 refine sp rfl (PE.assign rfl) rfl ?_
 refine sy_seq ?_
 refine sy_tx' [0] rfl ?_
 refine sp rfl (PE.assign rfl) rfl ?_
 refine sy_seq ?_
 refine sy_seq ?_
 refine sy_tx' [0, 1] rfl ?_
 refine sp rfl (PE.move rfl) rfl ?_
 refine sp rfl (PE.eql rfl rfl) rfl ?_
 refine sy_join (ι := Option Addr × Nat) (fun x => ⟨[(2, .slice al l.length cy), (3, .pointer (some ⟨b3, 0, none⟩)), (4, .pointer (some ⟨b4, 0, none⟩)), (7, .pointer (some ⟨b7, 0, none⟩)), (8, .pointer (some ⟨b8, 0, none⟩)), (10, .pointer (some ⟨b10, 0, none⟩)), (11, .pointer (some ⟨b11, 0, none⟩)), (9, .slice a5 l.length c5), (12, .int .i64 (bothE g c)), (13, .int .i64 (claR g c).2), (14, .int .i64 (agrE g c l)), (15, .bool (agrR g c l)), (16, .bool (bif decide (bothE g c ≠ 0) then false else topB g.miss c.hs)), (17, .slice x.1 (claR g c).1.length x.2)], (b11, cel 40 (ctl c (c.sl a4 c4))) :: (b10, cel 36 (gtl g (g.sl a3 c3))) :: (b8, cel 27 (ctl c (c.sl a2 c2))) :: (b7, cel 24 (gtl g (g.sl a1 c1))) :: (b4, cel 27 (ctl c (c.sl ah ch))) :: (b3, cel 24 (gtl g (g.sl ag cg))) :: H, RowsA x.1 1 (irows (claR g c).1) :: RowsA a4 5 (hrows c.hs) :: RowsA a3 5 (grows g.grs) :: RowsA a5 1 (irows l) :: RowsA a2 5 (hrows c.hs) :: RowsA a1 5 (grows g.grs) :: R⟩) ?_ ?_
 refine sy_cond rfl (fun hc1 => ?_) (fun hc1 => ?_)
 have hw0 : bothE g c = 0 := by simpa using hc1
 obtain ⟨hgo, hco⟩ := both_ok hw0
 have hmany := hco.many
 have hlE := agrE_lst (l := l) hw0
 obtain ⟨hc1e, hc2e⟩ := cla_ref hw0
 refine sy_seq ?_
 refine sy_tx' [0, 1, 2, 3] rfl ?_
 refine spL rfl rfl (lhA [_, _, _] ag36 rfl rfl rfl) rfl ?_
 refine spL rfl rfl (lhA [_, _, _] ag40 rfl rfl rfl) rfl ?_
 refine cl rfl cal14 rfl rfl (c_All g hgo.miss (g.sl a3 c3) c hco a4 c4 _ _) ?_
 rintro _ _ R1 ⟨ms, bq, aa, cc, hms, hml, rfl, rfl, hR1⟩
 obtain rfl := hR1.symm
 clear hR1
 refine sp rfl (PE.assign rfl) rfl ?_
 refine sy_seq ?_
 refine sy_tx' [0] rfl ?_
 refine sp rfl (PE.assign rfl) rfl ?_
 refine sy_seq ?_
 refine sy_seq ?_
 refine sy_tx' [0, 1, 2, 3, 4, 5, 6, 7] rfl ?_
 refine spL rfl rfl (lhA [_, _, _] ag40 rfl rfl rfl) rfl ?_
 refine sp rfl (PE.move rfl) rfl ?_
 refine cl rfl cal15 rfl rfl (c_Listed c (by omega) a4 c4 l (by omega) al cy _ _) ?_
 rintro _ _ _ ⟨s, hs64, rfl, rfl, rfl, hset⟩
 rw [← hlE] at hset ⊢
 refine sp rfl (PE.move rfl) rfl ?_
 refine sp rfl (PE.extract rfl rfl) rfl ?_
 refine sp rfl (PE.extract rfl rfl) rfl ?_
 refine sp rfl (PE.assign rfl) rfl ?_
 refine sp rfl (PE.assign rfl) rfl ?_
 refine sy_seq ?_
 refine sy_tx' [0, 1] rfl ?_
 refine sp rfl (PE.move rfl) rfl ?_
 refine sp rfl (PE.eql rfl rfl) rfl ?_
 refine sy_join (ι := Unit) (fun _ => ⟨[(2, .slice al l.length cy), (3, .pointer (some ⟨b3, 0, none⟩)), (4, .pointer (some ⟨b4, 0, none⟩)), (7, .pointer (some ⟨b7, 0, none⟩)), (8, .pointer (some ⟨b8, 0, none⟩)), (10, .pointer (some ⟨b10, 0, none⟩)), (11, .pointer (some ⟨b11, 0, none⟩)), (9, .slice a5 l.length c5), (12, .int .i64 (bothE g c)), (13, .int .i64 (bothE g c)), (14, .int .i64 (agrE g c l)), (15, .bool (agrR g c l)), (16, .bool false), (17, .slice none 0 0), (18, .slice (some ⟨bq, 0, none⟩) 64 64)], (b11, cel 40 (ctl c (c.sl a4 c4))) :: (b10, cel 36 (gtl g (g.sl a3 c3))) :: (b8, cel 27 (ctl c (c.sl a2 c2))) :: (b7, cel 24 (gtl g (g.sl a1 c1))) :: (b4, cel 27 (ctl c (c.sl ah ch))) :: (b3, cel 24 (gtl g (g.sl ag cg))) :: H, RowsA (some ⟨bq, 0, none⟩) 1 ((List.range 64).map fun s => [Value.slice (aa s) (partS g.miss c.hs ms s).length (cc s)]) :: RowsA a4 5 (hrows c.hs) :: RowsA a3 5 (grows g.grs) :: RowsA a5 1 (irows l) :: RowsA a2 5 (hrows c.hs) :: RowsA a1 5 (grows g.grs) :: R⟩) ?_ ?_
 refine sy_cond rfl (fun hc2 => ?_) (fun hc2 => ?_)
 try simp only [decide_eq_true_eq, decide_eq_false_iff_not, Bool.and_eq_true, Bool.or_eq_true, Bool.not_eq_true', Int.not_le, Int.not_lt] at hc2
 have he2 : agrE g c l = 0 := by simpa using hc2
 have he3 := agrR_ref he2 (hset he2)
 refine sy_tx' [0, 1, 2, 3] rfl ?_
 refine sp rfl (PE.move rfl) rfl ?_
 refine sp rfl (PE.move rfl) rfl ?_
 refine clV rfl cal16 rfl rfl (c_rAgree g.miss hgo.miss.1 c.hs hco.hs hco.many ms hms bq aa cc s hs64 _ _) ?_
 refine sp rfl (PE.assign rfl) rfl ?_
 exact sy_jend () (by dsimp only; rw [he3]; exact (by repeat' first | exact Sub.nil | apply Sub.cons | rfl | (simp [lk]; omega))) (fun w h => by dsimp only; exact St.sub h)
 try simp only [decide_eq_true_eq, decide_eq_false_iff_not, Bool.and_eq_true, Bool.or_eq_true, Bool.not_eq_true', Int.not_le, Int.not_lt] at hc2
 have he2 : agrE g c l ≠ 0 := by simpa using hc2
 have he3 := agrR_no rfl he2
 refine sy_skip ?_
 exact sy_jend () (by dsimp only; rw [he3]; exact (by repeat' first | exact Sub.nil | apply Sub.cons | rfl | (simp [lk]; omega))) (fun w h => by dsimp only; exact St.sub h)
 rintro ⟨⟩
 dsimp only
 refine sy_seq ?_
 refine sy_tx' [0] rfl ?_
 refine sp rfl (PE.assign rfl) rfl ?_
 refine sy_seq ?_
 refine sy_tx' [0, 1, 2, 3, 4, 5, 6, 7, 8, 9] rfl ?_
 refine sp rfl (PE.move rfl) rfl ?_
 refine sp rfl (PE.fieldAddr fo27_2 rfl) rfl ?_
 refine spL rfl rfl (lh sc25 rfl rfl) rfl ?_
 refine sp rfl (PE.lenSl isl25 rfl) rfl ?_
 refine cl rfl cal17 rfl rfl (c_rClash g.miss hgo.miss.1 c.hs hco.hs hco.many ms hms bq aa cc _ _) ?_
 rintro _ _ R1 ⟨a9, c9, rfl, rfl, hR1⟩
 obtain rfl := hR1.symm
 clear hR1
 rw [← hc1e]
 refine sp rfl (PE.move rfl) rfl ?_
 refine sp rfl (PE.extract rfl rfl) rfl ?_
 refine sp rfl (PE.extract rfl rfl) rfl ?_
 refine sp rfl (PE.assign rfl) rfl ?_
 refine sp rfl (PE.assign rfl) rfl ?_
 refine sy_draw [0, 1, 0, 0, 15, 31, 63] (.tk 0 (.ld 2 (.tk 3 (.big 1 (.big 4 (.tk 5 (.tk 6 .done))))))) mixed (by kernel_rfl) ?_
 refine tk rfl (PE.move rfl) rfl ?_
 refine ld rfl rfl (lhA [_, _, _] ag40 rfl rfl rfl) rfl ?_
 refine tk rfl (PE.move rfl) rfl ?_
 refine cl rfl cal18 rfl rfl (c_None _ _ _) ?_
 rintro _ _ _ ⟨rfl, rfl, rfl⟩
 rw [← hc2e]
 refine bg (fun w hs => ⟨(lhA [_, _, _] ag40 rfl rfl rfl) w hs, trivial⟩) ?_
 refine clV rfl cal19 rfl rfl (c_rTopped g.miss hgo.miss.1 c hco a4 c4 ms hms bq aa cc _ _) ?_
 refine bg (fun w hs => ⟨trivial, trivial⟩) ?_
 refine tk rfl (PE.assign rfl) rfl ?_
 refine tk rfl (PE.assign rfl) rfl ?_
 exact sy_jend (a9, c9) (by dsimp only; rw [decide_eq_false (show ¬ bothE g c ≠ 0 by omega)]; exact (by repeat' first | exact Sub.nil | apply Sub.cons | rfl | (simp [lk]; omega))) (fun w h => by dsimp only; exact St.sub h)
 have hw0 : bothE g c ≠ 0 := by simpa using hc1
 obtain ⟨e1, e2⟩ := agrE_err (l := l) hw0
 obtain ⟨e3, e4⟩ := cla_err hw0
 have e5 : decide (bothE g c ≠ 0) = true := decide_eq_true hw0
 refine sy_skip ?_
 refine Sy.heap (fun w h => St.norows (sz := 1) h) ?_
 exact sy_jend (none, 0) (by dsimp only; rw [e1, e2, e3, e4, e5]; exact (by repeat' first | exact Sub.nil | apply Sub.cons | rfl | (simp [lk]; omega))) (fun w h => by dsimp only; rw [e3, show irows [] = ([] : List (List Value)) from rfl]; exact St.sub h)
 rintro ⟨a9, c9⟩
 dsimp only
 refine sy_seq ?_
 refine sy_tx' [0, 1, 2, 3, 4, 5, 6, 7, 8] rfl ?_
 refine spL rfl rfl (lhA [_, _, _] ag24 rfl rfl rfl) rfl ?_
 refine spL rfl rfl (lhA [_, _, _] ag27 rfl rfl rfl) rfl ?_
 refine sp rfl (PE.move rfl) rfl ?_
 refine cl rfl cal20 rfl rfl (c_Agree g a1 c1 (by omega) c a2 c2 (by omega) l a5 c5 (by omega) _ _) ?_
 rintro _ _ _ ⟨rfl, rfl, rfl⟩
 have hcll := cla_len g c
 refine sp rfl (PE.move rfl) rfl ?_
 refine sp rfl (PE.extract rfl rfl) rfl ?_
 refine sp rfl (PE.extract rfl rfl) rfl ?_
 refine sp rfl (PE.assign rfl) rfl ?_
 refine sp rfl (PE.assign rfl) rfl ?_
 refine sy_seq ?_
 refine sy_tx' [0, 1, 2, 3, 4, 5, 6, 7] rfl ?_
 refine spL rfl rfl (lhA [_, _, _] ag24 rfl rfl rfl) rfl ?_
 refine spL rfl rfl (lhA [_, _, _] ag27 rfl rfl rfl) rfl ?_
 refine cl rfl cal21 rfl rfl (c_Clash g a1 c1 (by omega) c a2 c2 (by omega) _ _) ?_
 rintro _ _ R1 ⟨a8, c8, rfl, rfl, hR1⟩
 obtain rfl := hR1.symm
 clear hR1
 refine sp rfl (PE.move rfl) rfl ?_
 refine sp rfl (PE.extract rfl rfl) rfl ?_
 refine sp rfl (PE.extract rfl rfl) rfl ?_
 refine sp rfl (PE.assign rfl) rfl ?_
 refine sp rfl (PE.assign rfl) rfl ?_
 refine sy_seq ?_
 refine sy_tx' [0, 1, 2, 3, 4, 5, 6, 7] rfl ?_
 refine spL rfl rfl (lhA [_, _, _] ag24 rfl rfl rfl) rfl ?_
 refine spL rfl rfl (lhA [_, _, _] ag27 rfl rfl rfl) rfl ?_
 refine clV rfl cal22 rfl rfl (c_Topped g a1 c1 (by omega) c a2 c2 (by omega) _ _) ?_
 refine sp rfl (PE.move rfl) rfl ?_
 refine sp rfl (PE.extract rfl rfl) rfl ?_
 refine sp rfl (PE.extract rfl rfl) rfl ?_
 refine sp rfl (PE.assign rfl) rfl ?_
 refine sp rfl (PE.assign rfl) rfl ?_
 refine sy_seq ?_
 refine sy_tx' [0, 1, 2, 3, 4, 5, 6, 7, 8, 9, 10, 11, 12, 13, 14, 15, 16, 17, 18, 19, 20, 21, 22, 23, 24, 25, 26, 27, 28, 29, 30, 31, 32, 33, 34, 35, 36, 37, 38, 39, 40, 41, 42, 43, 44, 45, 46] rfl ?_
 refine sp rfl (PE.move rfl) rfl ?_
 refine sp rfl (PE.move rfl) rfl ?_
 refine sp rfl (PE.eql rfl rfl) rfl ?_
 refine sp rfl (PE.move rfl) rfl ?_
 refine sy_case (t := 102) rfl (fun g102 => ?_) (fun g102 => ?_)
 refine spG rfl rfl rfl rfl (PE.move rfl) rfl ?_
 refine spG rfl rfl rfl rfl (PE.move rfl) rfl ?_
 refine spG rfl rfl rfl rfl (PE.eql rfl rfl) rfl ?_
 refine sp rfl (PE.pick rfl rfl rfl) rfl ?_
 refine sp rfl (PE.move rfl) rfl ?_
 refine sy_case (t := 107) rfl (fun g107 => ?_) (fun g107 => ?_)
 refine spG rfl rfl rfl rfl (PE.move rfl) rfl ?_
 refine spG rfl rfl rfl rfl (PE.move rfl) rfl ?_
 refine spG rfl rfl rfl rfl (PE.eql rfl rfl) rfl ?_
 refine sp rfl (PE.pick rfl rfl rfl) rfl ?_
 refine sp rfl (PE.move rfl) rfl ?_
 refine sy_case (t := 112) rfl (fun g112 => ?_) (fun g112 => ?_)
 refine spG rfl rfl rfl rfl (PE.move rfl) rfl ?_
 refine spG rfl rfl rfl rfl (PE.move rfl) rfl ?_
 refine spG rfl rfl rfl rfl (PE.eqlBool ub4 rfl rfl) rfl ?_
 refine sp rfl (PE.pick rfl rfl rfl) rfl ?_
 refine sp rfl (PE.move rfl) rfl ?_
 refine sy_case (t := 117) rfl (fun g117 => ?_) (fun g117 => ?_)
 refine spG rfl rfl rfl rfl (PE.move rfl) rfl ?_
 refine spG rfl rfl rfl rfl (PE.move rfl) rfl ?_
 refine clVG rfl rfl rfl rfl cal23 rfl rfl (c_Eq_int (claR g c).1 (claR g c).1 a8 a9 c8 c9 (by omega) (by omega) _ _) ?_
 refine sp rfl (PE.pick rfl rfl rfl) rfl ?_
 refine sp rfl (PE.move rfl) rfl ?_
 refine sy_case (t := 122) rfl (fun g122 => ?_) (fun g122 => ?_)
 refine spG rfl rfl rfl rfl (PE.move rfl) rfl ?_
 refine spG rfl rfl rfl rfl (PE.move rfl) rfl ?_
 refine spG rfl rfl rfl rfl (PE.eqlBool ub4 rfl rfl) rfl ?_
 refine sp rfl (PE.pick rfl rfl rfl) rfl ?_
 refine sp rfl (PE.move rfl) rfl ?_
 refine sy_case (t := 127) rfl (fun g127 => ?_) (fun g127 => ?_)
 refine spG rfl rfl rfl rfl (PE.move rfl) rfl ?_
 refine spG rfl rfl rfl rfl (PE.move rfl) rfl ?_
 refine clVG rfl rfl rfl rfl cal23 rfl rfl (c_Eq_int l l a5 al c5 cy (by omega) (by omega) _ _) ?_
 refine sp rfl (PE.pick rfl rfl rfl) rfl ?_
 refine sp rfl (PE.move rfl) rfl ?_
 refine sy_case (t := 132) rfl (fun g132 => ?_) (fun g132 => ?_)
 refine spLG rfl rfl rfl rfl rfl (lhA [_, _, _] ag24 rfl rfl rfl) rfl ?_
 refine spLG rfl rfl rfl rfl rfl (lhA [_, _, _] ag24 rfl rfl rfl) rfl ?_
 refine clVG rfl rfl rfl rfl cal24 rfl rfl (c_same g a1 ag c1 cg (by omega) _ _) ?_
 refine sp rfl (PE.pick rfl rfl rfl) rfl ?_
 refine sp rfl (PE.move rfl) rfl ?_
 refine sy_case (t := 137) rfl (fun g137 => ?_) (fun g137 => ?_)
 refine spLG rfl rfl rfl rfl rfl (lhA [_, _, _] ag27 rfl rfl rfl) rfl ?_
 refine spLG rfl rfl rfl rfl rfl (lhA [_, _, _] ag27 rfl rfl rfl) rfl ?_
 refine clVG rfl rfl rfl rfl cal25 rfl rfl (c_alike c a2 ah c2 ch (by omega) _ _) ?_
 refine sp rfl (PE.pick rfl rfl rfl) rfl ?_
 refine sp rfl (PE.move rfl) rfl ?_
 refine sy_case (t := 142) rfl (fun g142 => ?_) (fun g142 => ?_)
 refine clVG rfl rfl rfl rfl cal7 rfl rfl (c_awake _ _) ?_
 refine sp rfl (PE.pick rfl rfl rfl) rfl ?_
 refine sp rfl (PE.assign rfl) rfl ?_
 refine sy_ret ?_
 exact sy_return (vs := [_]) rfl (.cons (RV.tmp rfl) .nil) rfl ⟨rfl, rfl, rfl⟩ drp
 exact absurd g142 (by simp)
 exact absurd g137 (by simp)
 exact absurd g132 (by simp)
 exact absurd g127 (by simp)
 exact absurd g122 (by simp)
 exact absurd g117 (by simp)
 exact absurd g112 (by simp)
 exact absurd g107 (by simp)
 exact absurd g102 (by simp)
 refine sy_have (β := Option Addr × Nat × Option Addr × Nat × Option Addr × Nat × Option Addr × Nat × Option Addr × Nat × Nat × Nat × Nat) pl3_3_7ffc0 (fun ⟨a1, c1, a2, c2, a5, c5, a3, c3, a4, c4, b7, b8, b10⟩ => ([(10, .pointer (some ⟨b10, 0, none⟩)), (8, .pointer (some ⟨b8, 0, none⟩)), (7, .pointer (some ⟨b7, 0, none⟩)), (45, c.v (c.sl a4 c4)), (43, g.v (g.sl a3 c3)), (41, .slice a5 l.length c5), (39, c.v (c.sl a2 c2)), (37, g.v (g.sl a1 c1)), (2, .slice al l.length cy), (3, .pointer (some ⟨b3, 0, none⟩)), (4, .pointer (some ⟨b4, 0, none⟩)), (36, g.v (g.sl ag cg)), (38, c.v (c.sl ah ch)), (40, .slice al l.length cy), (42, g.v (g.sl ag cg)), (44, c.v (c.sl ah ch))], (b10, cel 36 ([.int .i64 0, .int .i64 0, .slice none 0 0])) :: (b8, cel 27 ([.int .i64 0, .int .i64 0, .slice none 0 0])) :: (b7, cel 24 ([.int .i64 0, .int .i64 0, .slice none 0 0])) :: (b4, cel 27 (ctl c (c.sl ah ch))) :: (b3, cel 24 (gtl g (g.sl ag cg))) :: H, RowsA a4 5 (hrows c.hs) :: RowsA a3 5 (grows g.grs) :: RowsA a5 1 (irows l) :: RowsA a2 5 (hrows c.hs) :: RowsA a1 5 (grows g.grs) :: R, [])) (fun v9 => ?_) (fun h7ffc0 => ?_)
 obtain ⟨a1, c1, a2, c2, a5, c5, a3, c3, a4, c4, b7, b8, b10⟩ := v9
 dsimp only
 unfold pl3_3_7ffc0
 refine alc rfl zl40 rfl (fun b11 => ?_)
 refine bg (fun w hs => trivial) ?_
 exact sy_to (h7ffe0 (a1, c1, a2, c2, a5, c5, a3, c3, a4, c4, b7, b8, b10, b11)) (by repeat' first | exact Sub.nil | apply Sub.cons | rfl | (simp [lk]; omega)) (fun _ h => St.sub ((((h.pull b7).pull b8).pull b10).pull b11))
 refine sy_have (β := Option Addr × Nat × Option Addr × Nat × Option Addr × Nat × Option Addr × Nat × Option Addr × Nat × Nat × Nat × Nat) pl3_3_7ffa0 (fun ⟨a1, c1, a2, c2, a5, c5, a3, c3, a4, c4, b7, b8, b11⟩ => ([(11, .pointer (some ⟨b11, 0, none⟩)), (8, .pointer (some ⟨b8, 0, none⟩)), (7, .pointer (some ⟨b7, 0, none⟩)), (45, c.v (c.sl a4 c4)), (43, g.v (g.sl a3 c3)), (41, .slice a5 l.length c5), (39, c.v (c.sl a2 c2)), (37, g.v (g.sl a1 c1)), (2, .slice al l.length cy), (3, .pointer (some ⟨b3, 0, none⟩)), (4, .pointer (some ⟨b4, 0, none⟩)), (36, g.v (g.sl ag cg)), (38, c.v (c.sl ah ch)), (40, .slice al l.length cy), (42, g.v (g.sl ag cg)), (44, c.v (c.sl ah ch))], (b11, cel 40 ([.int .i64 0, .int .i64 0, .slice none 0 0])) :: (b8, cel 27 ([.int .i64 0, .int .i64 0, .slice none 0 0])) :: (b7, cel 24 ([.int .i64 0, .int .i64 0, .slice none 0 0])) :: (b4, cel 27 (ctl c (c.sl ah ch))) :: (b3, cel 24 (gtl g (g.sl ag cg))) :: H, RowsA a4 5 (hrows c.hs) :: RowsA a3 5 (grows g.grs) :: RowsA a5 1 (irows l) :: RowsA a2 5 (hrows c.hs) :: RowsA a1 5 (grows g.grs) :: R, [])) (fun v9 => ?_) (fun h7ffa0 => ?_)
 obtain ⟨a1, c1, a2, c2, a5, c5, a3, c3, a4, c4, b7, b8, b11⟩ := v9
 dsimp only
 unfold pl3_3_7ffa0
 refine alc rfl zl36 rfl (fun b10 => ?_)
 refine bg (fun w hs => trivial) ?_
 exact sy_to (h7ffe0 (a1, c1, a2, c2, a5, c5, a3, c3, a4, c4, b7, b8, b10, b11)) (by repeat' first | exact Sub.nil | apply Sub.cons | rfl | (simp [lk]; omega)) (fun _ h => St.sub ((((h.pull b7).pull b8).pull b10).pull b11))
 refine sy_have (β := Option Addr × Nat × Option Addr × Nat × Option Addr × Nat × Option Addr × Nat × Option Addr × Nat × Nat × Nat) pl3_3_7ff80 (fun ⟨a1, c1, a2, c2, a5, c5, a3, c3, a4, c4, b7, b8⟩ => ([(8, .pointer (some ⟨b8, 0, none⟩)), (7, .pointer (some ⟨b7, 0, none⟩)), (45, c.v (c.sl a4 c4)), (43, g.v (g.sl a3 c3)), (41, .slice a5 l.length c5), (39, c.v (c.sl a2 c2)), (37, g.v (g.sl a1 c1)), (2, .slice al l.length cy), (3, .pointer (some ⟨b3, 0, none⟩)), (4, .pointer (some ⟨b4, 0, none⟩)), (36, g.v (g.sl ag cg)), (38, c.v (c.sl ah ch)), (40, .slice al l.length cy), (42, g.v (g.sl ag cg)), (44, c.v (c.sl ah ch))], (b8, cel 27 ([.int .i64 0, .int .i64 0, .slice none 0 0])) :: (b7, cel 24 ([.int .i64 0, .int .i64 0, .slice none 0 0])) :: (b4, cel 27 (ctl c (c.sl ah ch))) :: (b3, cel 24 (gtl g (g.sl ag cg))) :: H, RowsA a4 5 (hrows c.hs) :: RowsA a3 5 (grows g.grs) :: RowsA a5 1 (irows l) :: RowsA a2 5 (hrows c.hs) :: RowsA a1 5 (grows g.grs) :: R, [])) (fun v9 => ?_) (fun h7ff80 => ?_)
 obtain ⟨a1, c1, a2, c2, a5, c5, a3, c3, a4, c4, b7, b8⟩ := v9
 dsimp only
 unfold pl3_3_7ff80
 refine sy_any ?_
 refine sy_alt ?_ ?_
 refine alc rfl zl36 rfl (fun b10 => ?_)
 refine bg (fun w hs => trivial) ?_
 exact sy_to (h7ffc0 (a1, c1, a2, c2, a5, c5, a3, c3, a4, c4, b7, b8, b10)) (by repeat' first | exact Sub.nil | apply Sub.cons | rfl | (simp [lk]; omega)) (fun _ h => St.sub (((h.pull b7).pull b8).pull b10))
 refine sy_alt ?_ ?_
 refine alc rfl zl40 rfl (fun b11 => ?_)
 refine bg (fun w hs => trivial) ?_
 exact sy_to (h7ffa0 (a1, c1, a2, c2, a5, c5, a3, c3, a4, c4, b7, b8, b11)) (by repeat' first | exact Sub.nil | apply Sub.cons | rfl | (simp [lk]; omega)) (fun _ h => St.sub (((h.pull b7).pull b8).pull b11))
 exact sy_stop
 refine sy_have (β := Option Addr × Nat × Option Addr × Nat × Option Addr × Nat × Option Addr × Nat × Option Addr × Nat × Nat × Nat × Nat) pl3_3_7ff60 (fun ⟨a1, c1, a2, c2, a5, c5, a3, c3, a4, c4, b7, b10, b11⟩ => ([(11, .pointer (some ⟨b11, 0, none⟩)), (10, .pointer (some ⟨b10, 0, none⟩)), (7, .pointer (some ⟨b7, 0, none⟩)), (45, c.v (c.sl a4 c4)), (43, g.v (g.sl a3 c3)), (41, .slice a5 l.length c5), (39, c.v (c.sl a2 c2)), (37, g.v (g.sl a1 c1)), (2, .slice al l.length cy), (3, .pointer (some ⟨b3, 0, none⟩)), (4, .pointer (some ⟨b4, 0, none⟩)), (36, g.v (g.sl ag cg)), (38, c.v (c.sl ah ch)), (40, .slice al l.length cy), (42, g.v (g.sl ag cg)), (44, c.v (c.sl ah ch))], (b11, cel 40 ([.int .i64 0, .int .i64 0, .slice none 0 0])) :: (b10, cel 36 ([.int .i64 0, .int .i64 0, .slice none 0 0])) :: (b7, cel 24 ([.int .i64 0, .int .i64 0, .slice none 0 0])) :: (b4, cel 27 (ctl c (c.sl ah ch))) :: (b3, cel 24 (gtl g (g.sl ag cg))) :: H, RowsA a4 5 (hrows c.hs) :: RowsA a3 5 (grows g.grs) :: RowsA a5 1 (irows l) :: RowsA a2 5 (hrows c.hs) :: RowsA a1 5 (grows g.grs) :: R, [])) (fun v9 => ?_) (fun h7ff60 => ?_)
 obtain ⟨a1, c1, a2, c2, a5, c5, a3, c3, a4, c4, b7, b10, b11⟩ := v9
 dsimp only
 unfold pl3_3_7ff60
 refine alc rfl zl27 rfl (fun b8 => ?_)
 refine bg (fun w hs => trivial) ?_
 exact sy_to (h7ffe0 (a1, c1, a2, c2, a5, c5, a3, c3, a4, c4, b7, b8, b10, b11)) (by repeat' first | exact Sub.nil | apply Sub.cons | rfl | (simp [lk]; omega)) (fun _ h => St.sub ((((h.pull b7).pull b8).pull b10).pull b11))
 refine sy_have (β := Option Addr × Nat × Option Addr × Nat × Option Addr × Nat × Option Addr × Nat × Option Addr × Nat × Nat × Nat) pl3_3_7ff40 (fun ⟨a1, c1, a2, c2, a5, c5, a3, c3, a4, c4, b7, b10⟩ => ([(10, .pointer (some ⟨b10, 0, none⟩)), (7, .pointer (some ⟨b7, 0, none⟩)), (45, c.v (c.sl a4 c4)), (43, g.v (g.sl a3 c3)), (41, .slice a5 l.length c5), (39, c.v (c.sl a2 c2)), (37, g.v (g.sl a1 c1)), (2, .slice al l.length cy), (3, .pointer (some ⟨b3, 0, none⟩)), (4, .pointer (some ⟨b4, 0, none⟩)), (36, g.v (g.sl ag cg)), (38, c.v (c.sl ah ch)), (40, .slice al l.length cy), (42, g.v (g.sl ag cg)), (44, c.v (c.sl ah ch))], (b10, cel 36 ([.int .i64 0, .int .i64 0, .slice none 0 0])) :: (b7, cel 24 ([.int .i64 0, .int .i64 0, .slice none 0 0])) :: (b4, cel 27 (ctl c (c.sl ah ch))) :: (b3, cel 24 (gtl g (g.sl ag cg))) :: H, RowsA a4 5 (hrows c.hs) :: RowsA a3 5 (grows g.grs) :: RowsA a5 1 (irows l) :: RowsA a2 5 (hrows c.hs) :: RowsA a1 5 (grows g.grs) :: R, [])) (fun v9 => ?_) (fun h7ff40 => ?_)
 obtain ⟨a1, c1, a2, c2, a5, c5, a3, c3, a4, c4, b7, b10⟩ := v9
 dsimp only
 unfold pl3_3_7ff40
 refine sy_any ?_
 refine sy_alt ?_ ?_
 refine alc rfl zl27 rfl (fun b8 => ?_)
 refine bg (fun w hs => trivial) ?_
 exact sy_to (h7ffc0 (a1, c1, a2, c2, a5, c5, a3, c3, a4, c4, b7, b8, b10)) (by repeat' first | exact Sub.nil | apply Sub.cons | rfl | (simp [lk]; omega)) (fun _ h => St.sub (((h.pull b7).pull b8).pull b10))
 refine sy_alt ?_ ?_
 refine alc rfl zl40 rfl (fun b11 => ?_)
 refine bg (fun w hs => trivial) ?_
 exact sy_to (h7ff60 (a1, c1, a2, c2, a5, c5, a3, c3, a4, c4, b7, b10, b11)) (by repeat' first | exact Sub.nil | apply Sub.cons | rfl | (simp [lk]; omega)) (fun _ h => St.sub (((h.pull b7).pull b10).pull b11))
 exact sy_stop
 refine sy_have (β := Option Addr × Nat × Option Addr × Nat × Option Addr × Nat × Option Addr × Nat × Option Addr × Nat × Nat × Nat) pl3_3_7ff20 (fun ⟨a1, c1, a2, c2, a5, c5, a3, c3, a4, c4, b7, b11⟩ => ([(11, .pointer (some ⟨b11, 0, none⟩)), (7, .pointer (some ⟨b7, 0, none⟩)), (45, c.v (c.sl a4 c4)), (43, g.v (g.sl a3 c3)), (41, .slice a5 l.length c5), (39, c.v (c.sl a2 c2)), (37, g.v (g.sl a1 c1)), (2, .slice al l.length cy), (3, .pointer (some ⟨b3, 0, none⟩)), (4, .pointer (some ⟨b4, 0, none⟩)), (36, g.v (g.sl ag cg)), (38, c.v (c.sl ah ch)), (40, .slice al l.length cy), (42, g.v (g.sl ag cg)), (44, c.v (c.sl ah ch))], (b11, cel 40 ([.int .i64 0, .int .i64 0, .slice none 0 0])) :: (b7, cel 24 ([.int .i64 0, .int .i64 0, .slice none 0 0])) :: (b4, cel 27 (ctl c (c.sl ah ch))) :: (b3, cel 24 (gtl g (g.sl ag cg))) :: H, RowsA a4 5 (hrows c.hs) :: RowsA a3 5 (grows g.grs) :: RowsA a5 1 (irows l) :: RowsA a2 5 (hrows c.hs) :: RowsA a1 5 (grows g.grs) :: R, [])) (fun v9 => ?_) (fun h7ff20 => ?_)
 obtain ⟨a1, c1, a2, c2, a5, c5, a3, c3, a4, c4, b7, b11⟩ := v9
 dsimp only
 unfold pl3_3_7ff20
 refine sy_any ?_
 refine sy_alt ?_ ?_
 refine alc rfl zl27 rfl (fun b8 => ?_)
 refine bg (fun w hs => trivial) ?_
 exact sy_to (h7ffa0 (a1, c1, a2, c2, a5, c5, a3, c3, a4, c4, b7, b8, b11)) (by repeat' first | exact Sub.nil | apply Sub.cons | rfl | (simp [lk]; omega)) (fun _ h => St.sub (((h.pull b7).pull b8).pull b11))
 refine sy_alt ?_ ?_
 refine alc rfl zl36 rfl (fun b10 => ?_)
 refine bg (fun w hs => trivial) ?_
 exact sy_to (h7ff60 (a1, c1, a2, c2, a5, c5, a3, c3, a4, c4, b7, b10, b11)) (by repeat' first | exact Sub.nil | apply Sub.cons | rfl | (simp [lk]; omega)) (fun _ h => St.sub (((h.pull b7).pull b10).pull b11))
 exact sy_stop
 refine sy_have (β := Option Addr × Nat × Option Addr × Nat × Option Addr × Nat × Option Addr × Nat × Option Addr × Nat × Nat) pl3_3_7ff00 (fun ⟨a1, c1, a2, c2, a5, c5, a3, c3, a4, c4, b7⟩ => ([(7, .pointer (some ⟨b7, 0, none⟩)), (45, c.v (c.sl a4 c4)), (43, g.v (g.sl a3 c3)), (41, .slice a5 l.length c5), (39, c.v (c.sl a2 c2)), (37, g.v (g.sl a1 c1)), (2, .slice al l.length cy), (3, .pointer (some ⟨b3, 0, none⟩)), (4, .pointer (some ⟨b4, 0, none⟩)), (36, g.v (g.sl ag cg)), (38, c.v (c.sl ah ch)), (40, .slice al l.length cy), (42, g.v (g.sl ag cg)), (44, c.v (c.sl ah ch))], (b7, cel 24 ([.int .i64 0, .int .i64 0, .slice none 0 0])) :: (b4, cel 27 (ctl c (c.sl ah ch))) :: (b3, cel 24 (gtl g (g.sl ag cg))) :: H, RowsA a4 5 (hrows c.hs) :: RowsA a3 5 (grows g.grs) :: RowsA a5 1 (irows l) :: RowsA a2 5 (hrows c.hs) :: RowsA a1 5 (grows g.grs) :: R, [])) (fun v9 => ?_) (fun h7ff00 => ?_)
 obtain ⟨a1, c1, a2, c2, a5, c5, a3, c3, a4, c4, b7⟩ := v9
 dsimp only
 unfold pl3_3_7ff00
 refine sy_any ?_
 refine sy_alt ?_ ?_
 refine alc rfl zl27 rfl (fun b8 => ?_)
 refine bg (fun w hs => trivial) ?_
 exact sy_to (h7ff80 (a1, c1, a2, c2, a5, c5, a3, c3, a4, c4, b7, b8)) (by repeat' first | exact Sub.nil | apply Sub.cons | rfl | (simp [lk]; omega)) (fun _ h => St.sub ((h.pull b7).pull b8))
 refine sy_alt ?_ ?_
 refine alc rfl zl36 rfl (fun b10 => ?_)
 refine bg (fun w hs => trivial) ?_
 exact sy_to (h7ff40 (a1, c1, a2, c2, a5, c5, a3, c3, a4, c4, b7, b10)) (by repeat' first | exact Sub.nil | apply Sub.cons | rfl | (simp [lk]; omega)) (fun _ h => St.sub ((h.pull b7).pull b10))
 refine sy_alt ?_ ?_
 refine alc rfl zl40 rfl (fun b11 => ?_)
 refine bg (fun w hs => trivial) ?_
 exact sy_to (h7ff20 (a1, c1, a2, c2, a5, c5, a3, c3, a4, c4, b7, b11)) (by repeat' first | exact Sub.nil | apply Sub.cons | rfl | (simp [lk]; omega)) (fun _ h => St.sub ((h.pull b7).pull b11))
 exact sy_stop
 refine sy_have (β := Option Addr × Nat × Option Addr × Nat × Option Addr × Nat × Option Addr × Nat × Option Addr × Nat × Nat × Nat × Nat) pl3_3_7fee0 (fun ⟨a1, c1, a2, c2, a5, c5, a3, c3, a4, c4, b8, b10, b11⟩ => ([(11, .pointer (some ⟨b11, 0, none⟩)), (10, .pointer (some ⟨b10, 0, none⟩)), (8, .pointer (some ⟨b8, 0, none⟩)), (45, c.v (c.sl a4 c4)), (43, g.v (g.sl a3 c3)), (41, .slice a5 l.length c5), (39, c.v (c.sl a2 c2)), (37, g.v (g.sl a1 c1)), (2, .slice al l.length cy), (3, .pointer (some ⟨b3, 0, none⟩)), (4, .pointer (some ⟨b4, 0, none⟩)), (36, g.v (g.sl ag cg)), (38, c.v (c.sl ah ch)), (40, .slice al l.length cy), (42, g.v (g.sl ag cg)), (44, c.v (c.sl ah ch))], (b11, cel 40 ([.int .i64 0, .int .i64 0, .slice none 0 0])) :: (b10, cel 36 ([.int .i64 0, .int .i64 0, .slice none 0 0])) :: (b8, cel 27 ([.int .i64 0, .int .i64 0, .slice none 0 0])) :: (b4, cel 27 (ctl c (c.sl ah ch))) :: (b3, cel 24 (gtl g (g.sl ag cg))) :: H, RowsA a4 5 (hrows c.hs) :: RowsA a3 5 (grows g.grs) :: RowsA a5 1 (irows l) :: RowsA a2 5 (hrows c.hs) :: RowsA a1 5 (grows g.grs) :: R, [])) (fun v9 => ?_) (fun h7fee0 => ?_)
 obtain ⟨a1, c1, a2, c2, a5, c5, a3, c3, a4, c4, b8, b10, b11⟩ := v9
 dsimp only
 unfold pl3_3_7fee0
 refine alc rfl zl24 rfl (fun b7 => ?_)
 refine bg (fun w hs => trivial) ?_
 exact sy_to (h7ffe0 (a1, c1, a2, c2, a5, c5, a3, c3, a4, c4, b7, b8, b10, b11)) (by repeat' first | exact Sub.nil | apply Sub.cons | rfl | (simp [lk]; omega)) (fun _ h => St.sub ((((h.pull b7).pull b8).pull b10).pull b11))
 refine sy_have (β := Option Addr × Nat × Option Addr × Nat × Option Addr × Nat × Option Addr × Nat × Option Addr × Nat × Nat × Nat) pl3_3_7fec0 (fun ⟨a1, c1, a2, c2, a5, c5, a3, c3, a4, c4, b8, b10⟩ => ([(10, .pointer (some ⟨b10, 0, none⟩)), (8, .pointer (some ⟨b8, 0, none⟩)), (45, c.v (c.sl a4 c4)), (43, g.v (g.sl a3 c3)), (41, .slice a5 l.length c5), (39, c.v (c.sl a2 c2)), (37, g.v (g.sl a1 c1)), (2, .slice al l.length cy), (3, .pointer (some ⟨b3, 0, none⟩)), (4, .pointer (some ⟨b4, 0, none⟩)), (36, g.v (g.sl ag cg)), (38, c.v (c.sl ah ch)), (40, .slice al l.length cy), (42, g.v (g.sl ag cg)), (44, c.v (c.sl ah ch))], (b10, cel 36 ([.int .i64 0, .int .i64 0, .slice none 0 0])) :: (b8, cel 27 ([.int .i64 0, .int .i64 0, .slice none 0 0])) :: (b4, cel 27 (ctl c (c.sl ah ch))) :: (b3, cel 24 (gtl g (g.sl ag cg))) :: H, RowsA a4 5 (hrows c.hs) :: RowsA a3 5 (grows g.grs) :: RowsA a5 1 (irows l) :: RowsA a2 5 (hrows c.hs) :: RowsA a1 5 (grows g.grs) :: R, [])) (fun v9 => ?_) (fun h7fec0 => ?_)
 obtain ⟨a1, c1, a2, c2, a5, c5, a3, c3, a4, c4, b8, b10⟩ := v9
 dsimp only
 unfold pl3_3_7fec0
 refine sy_any ?_
 refine sy_alt ?_ ?_
 refine alc rfl zl24 rfl (fun b7 => ?_)
 refine bg (fun w hs => trivial) ?_
 exact sy_to (h7ffc0 (a1, c1, a2, c2, a5, c5, a3, c3, a4, c4, b7, b8, b10)) (by repeat' first | exact Sub.nil | apply Sub.cons | rfl | (simp [lk]; omega)) (fun _ h => St.sub (((h.pull b7).pull b8).pull b10))
 refine sy_alt ?_ ?_
 refine alc rfl zl40 rfl (fun b11 => ?_)
 refine bg (fun w hs => trivial) ?_
 exact sy_to (h7fee0 (a1, c1, a2, c2, a5, c5, a3, c3, a4, c4, b8, b10, b11)) (by repeat' first | exact Sub.nil | apply Sub.cons | rfl | (simp [lk]; omega)) (fun _ h => St.sub (((h.pull b8).pull b10).pull b11))
 exact sy_stop
 refine sy_have (β := Option Addr × Nat × Option Addr × Nat × Option Addr × Nat × Option Addr × Nat × Option Addr × Nat × Nat × Nat) pl3_3_7fea0 (fun ⟨a1, c1, a2, c2, a5, c5, a3, c3, a4, c4, b8, b11⟩ => ([(11, .pointer (some ⟨b11, 0, none⟩)), (8, .pointer (some ⟨b8, 0, none⟩)), (45, c.v (c.sl a4 c4)), (43, g.v (g.sl a3 c3)), (41, .slice a5 l.length c5), (39, c.v (c.sl a2 c2)), (37, g.v (g.sl a1 c1)), (2, .slice al l.length cy), (3, .pointer (some ⟨b3, 0, none⟩)), (4, .pointer (some ⟨b4, 0, none⟩)), (36, g.v (g.sl ag cg)), (38, c.v (c.sl ah ch)), (40, .slice al l.length cy), (42, g.v (g.sl ag cg)), (44, c.v (c.sl ah ch))], (b11, cel 40 ([.int .i64 0, .int .i64 0, .slice none 0 0])) :: (b8, cel 27 ([.int .i64 0, .int .i64 0, .slice none 0 0])) :: (b4, cel 27 (ctl c (c.sl ah ch))) :: (b3, cel 24 (gtl g (g.sl ag cg))) :: H, RowsA a4 5 (hrows c.hs) :: RowsA a3 5 (grows g.grs) :: RowsA a5 1 (irows l) :: RowsA a2 5 (hrows c.hs) :: RowsA a1 5 (grows g.grs) :: R, [])) (fun v9 => ?_) (fun h7fea0 => ?_)
 obtain ⟨a1, c1, a2, c2, a5, c5, a3, c3, a4, c4, b8, b11⟩ := v9
 dsimp only
 unfold pl3_3_7fea0
 refine sy_any ?_
 refine sy_alt ?_ ?_
 refine alc rfl zl24 rfl (fun b7 => ?_)
 refine bg (fun w hs => trivial) ?_
 exact sy_to (h7ffa0 (a1, c1, a2, c2, a5, c5, a3, c3, a4, c4, b7, b8, b11)) (by repeat' first | exact Sub.nil | apply Sub.cons | rfl | (simp [lk]; omega)) (fun _ h => St.sub (((h.pull b7).pull b8).pull b11))
 refine sy_alt ?_ ?_
 refine alc rfl zl36 rfl (fun b10 => ?_)
 refine bg (fun w hs => trivial) ?_
 exact sy_to (h7fee0 (a1, c1, a2, c2, a5, c5, a3, c3, a4, c4, b8, b10, b11)) (by repeat' first | exact Sub.nil | apply Sub.cons | rfl | (simp [lk]; omega)) (fun _ h => St.sub (((h.pull b8).pull b10).pull b11))
 exact sy_stop
 refine sy_have (β := Option Addr × Nat × Option Addr × Nat × Option Addr × Nat × Option Addr × Nat × Option Addr × Nat × Nat) pl3_3_7fe80 (fun ⟨a1, c1, a2, c2, a5, c5, a3, c3, a4, c4, b8⟩ => ([(8, .pointer (some ⟨b8, 0, none⟩)), (45, c.v (c.sl a4 c4)), (43, g.v (g.sl a3 c3)), (41, .slice a5 l.length c5), (39, c.v (c.sl a2 c2)), (37, g.v (g.sl a1 c1)), (2, .slice al l.length cy), (3, .pointer (some ⟨b3, 0, none⟩)), (4, .pointer (some ⟨b4, 0, none⟩)), (36, g.v (g.sl ag cg)), (38, c.v (c.sl ah ch)), (40, .slice al l.length cy), (42, g.v (g.sl ag cg)), (44, c.v (c.sl ah ch))], (b8, cel 27 ([.int .i64 0, .int .i64 0, .slice none 0 0])) :: (b4, cel 27 (ctl c (c.sl ah ch))) :: (b3, cel 24 (gtl g (g.sl ag cg))) :: H, RowsA a4 5 (hrows c.hs) :: RowsA a3 5 (grows g.grs) :: RowsA a5 1 (irows l) :: RowsA a2 5 (hrows c.hs) :: RowsA a1 5 (grows g.grs) :: R, [])) (fun v9 => ?_) (fun h7fe80 => ?_)
 obtain ⟨a1, c1, a2, c2, a5, c5, a3, c3, a4, c4, b8⟩ := v9
 dsimp only
 unfold pl3_3_7fe80
 refine sy_any ?_
 refine sy_alt ?_ ?_
 refine alc rfl zl24 rfl (fun b7 => ?_)
 refine bg (fun w hs => trivial) ?_
 exact sy_to (h7ff80 (a1, c1, a2, c2, a5, c5, a3, c3, a4, c4, b7, b8)) (by repeat' first | exact Sub.nil | apply Sub.cons | rfl | (simp [lk]; omega)) (fun _ h => St.sub ((h.pull b7).pull b8))
 refine sy_alt ?_ ?_
 refine alc rfl zl36 rfl (fun b10 => ?_)
 refine bg (fun w hs => trivial) ?_
 exact sy_to (h7fec0 (a1, c1, a2, c2, a5, c5, a3, c3, a4, c4, b8, b10)) (by repeat' first | exact Sub.nil | apply Sub.cons | rfl | (simp [lk]; omega)) (fun _ h => St.sub ((h.pull b8).pull b10))
 refine sy_alt ?_ ?_
 refine alc rfl zl40 rfl (fun b11 => ?_)
 refine bg (fun w hs => trivial) ?_
 exact sy_to (h7fea0 (a1, c1, a2, c2, a5, c5, a3, c3, a4, c4, b8, b11)) (by repeat' first | exact Sub.nil | apply Sub.cons | rfl | (simp [lk]; omega)) (fun _ h => St.sub ((h.pull b8).pull b11))
 exact sy_stop
 refine sy_have (β := Option Addr × Nat × Option Addr × Nat × Option Addr × Nat × Option Addr × Nat × Option Addr × Nat × Nat × Nat) pl3_3_7fe60 (fun ⟨a1, c1, a2, c2, a5, c5, a3, c3, a4, c4, b10, b11⟩ => ([(11, .pointer (some ⟨b11, 0, none⟩)), (10, .pointer (some ⟨b10, 0, none⟩)), (45, c.v (c.sl a4 c4)), (43, g.v (g.sl a3 c3)), (41, .slice a5 l.length c5), (39, c.v (c.sl a2 c2)), (37, g.v (g.sl a1 c1)), (2, .slice al l.length cy), (3, .pointer (some ⟨b3, 0, none⟩)), (4, .pointer (some ⟨b4, 0, none⟩)), (36, g.v (g.sl ag cg)), (38, c.v (c.sl ah ch)), (40, .slice al l.length cy), (42, g.v (g.sl ag cg)), (44, c.v (c.sl ah ch))], (b11, cel 40 ([.int .i64 0, .int .i64 0, .slice none 0 0])) :: (b10, cel 36 ([.int .i64 0, .int .i64 0, .slice none 0 0])) :: (b4, cel 27 (ctl c (c.sl ah ch))) :: (b3, cel 24 (gtl g (g.sl ag cg))) :: H, RowsA a4 5 (hrows c.hs) :: RowsA a3 5 (grows g.grs) :: RowsA a5 1 (irows l) :: RowsA a2 5 (hrows c.hs) :: RowsA a1 5 (grows g.grs) :: R, [])) (fun v9 => ?_) (fun h7fe60 => ?_)
 obtain ⟨a1, c1, a2, c2, a5, c5, a3, c3, a4, c4, b10, b11⟩ := v9
 dsimp only
 unfold pl3_3_7fe60
 refine sy_any ?_
 refine sy_alt ?_ ?_
 refine alc rfl zl24 rfl (fun b7 => ?_)
 refine bg (fun w hs => trivial) ?_
 exact sy_to (h7ff60 (a1, c1, a2, c2, a5, c5, a3, c3, a4, c4, b7, b10, b11)) (by repeat' first | exact Sub.nil | apply Sub.cons | rfl | (simp [lk]; omega)) (fun _ h => St.sub (((h.pull b7).pull b10).pull b11))
 refine sy_alt ?_ ?_
 refine alc rfl zl27 rfl (fun b8 => ?_)
 refine bg (fun w hs => trivial) ?_
 exact sy_to (h7fee0 (a1, c1, a2, c2, a5, c5, a3, c3, a4, c4, b8, b10, b11)) (by repeat' first | exact Sub.nil | apply Sub.cons | rfl | (simp [lk]; omega)) (fun _ h => St.sub (((h.pull b8).pull b10).pull b11))
 exact sy_stop
 refine sy_have (β := Option Addr × Nat × Option Addr × Nat × Option Addr × Nat × Option Addr × Nat × Option Addr × Nat × Nat) pl3_3_7fe40 (fun ⟨a1, c1, a2, c2, a5, c5, a3, c3, a4, c4, b10⟩ => ([(10, .pointer (some ⟨b10, 0, none⟩)), (45, c.v (c.sl a4 c4)), (43, g.v (g.sl a3 c3)), (41, .slice a5 l.length c5), (39, c.v (c.sl a2 c2)), (37, g.v (g.sl a1 c1)), (2, .slice al l.length cy), (3, .pointer (some ⟨b3, 0, none⟩)), (4, .pointer (some ⟨b4, 0, none⟩)), (36, g.v (g.sl ag cg)), (38, c.v (c.sl ah ch)), (40, .slice al l.length cy), (42, g.v (g.sl ag cg)), (44, c.v (c.sl ah ch))], (b10, cel 36 ([.int .i64 0, .int .i64 0, .slice none 0 0])) :: (b4, cel 27 (ctl c (c.sl ah ch))) :: (b3, cel 24 (gtl g (g.sl ag cg))) :: H, RowsA a4 5 (hrows c.hs) :: RowsA a3 5 (grows g.grs) :: RowsA a5 1 (irows l) :: RowsA a2 5 (hrows c.hs) :: RowsA a1 5 (grows g.grs) :: R, [])) (fun v9 => ?_) (fun h7fe40 => ?_)
 obtain ⟨a1, c1, a2, c2, a5, c5, a3, c3, a4, c4, b10⟩ := v9
 dsimp only
 unfold pl3_3_7fe40
 refine sy_any ?_
 refine sy_alt ?_ ?_
 refine alc rfl zl24 rfl (fun b7 => ?_)
 refine bg (fun w hs => trivial) ?_
 exact sy_to (h7ff40 (a1, c1, a2, c2, a5, c5, a3, c3, a4, c4, b7, b10)) (by repeat' first | exact Sub.nil | apply Sub.cons | rfl | (simp [lk]; omega)) (fun _ h => St.sub ((h.pull b7).pull b10))
 refine sy_alt ?_ ?_
 refine alc rfl zl27 rfl (fun b8 => ?_)
 refine bg (fun w hs => trivial) ?_
 exact sy_to (h7fec0 (a1, c1, a2, c2, a5, c5, a3, c3, a4, c4, b8, b10)) (by repeat' first | exact Sub.nil | apply Sub.cons | rfl | (simp [lk]; omega)) (fun _ h => St.sub ((h.pull b8).pull b10))
 refine sy_alt ?_ ?_
 refine alc rfl zl40 rfl (fun b11 => ?_)
 refine bg (fun w hs => trivial) ?_
 exact sy_to (h7fe60 (a1, c1, a2, c2, a5, c5, a3, c3, a4, c4, b10, b11)) (by repeat' first | exact Sub.nil | apply Sub.cons | rfl | (simp [lk]; omega)) (fun _ h => St.sub ((h.pull b10).pull b11))
 exact sy_stop
 refine sy_have (β := Option Addr × Nat × Option Addr × Nat × Option Addr × Nat × Option Addr × Nat × Option Addr × Nat × Nat) pl3_3_7fe20 (fun ⟨a1, c1, a2, c2, a5, c5, a3, c3, a4, c4, b11⟩ => ([(11, .pointer (some ⟨b11, 0, none⟩)), (45, c.v (c.sl a4 c4)), (43, g.v (g.sl a3 c3)), (41, .slice a5 l.length c5), (39, c.v (c.sl a2 c2)), (37, g.v (g.sl a1 c1)), (2, .slice al l.length cy), (3, .pointer (some ⟨b3, 0, none⟩)), (4, .pointer (some ⟨b4, 0, none⟩)), (36, g.v (g.sl ag cg)), (38, c.v (c.sl ah ch)), (40, .slice al l.length cy), (42, g.v (g.sl ag cg)), (44, c.v (c.sl ah ch))], (b11, cel 40 ([.int .i64 0, .int .i64 0, .slice none 0 0])) :: (b4, cel 27 (ctl c (c.sl ah ch))) :: (b3, cel 24 (gtl g (g.sl ag cg))) :: H, RowsA a4 5 (hrows c.hs) :: RowsA a3 5 (grows g.grs) :: RowsA a5 1 (irows l) :: RowsA a2 5 (hrows c.hs) :: RowsA a1 5 (grows g.grs) :: R, [])) (fun v9 => ?_) (fun h7fe20 => ?_)
 obtain ⟨a1, c1, a2, c2, a5, c5, a3, c3, a4, c4, b11⟩ := v9
 dsimp only
 unfold pl3_3_7fe20
 refine sy_any ?_
 refine sy_alt ?_ ?_
 refine alc rfl zl24 rfl (fun b7 => ?_)
 refine bg (fun w hs => trivial) ?_
 exact sy_to (h7ff20 (a1, c1, a2, c2, a5, c5, a3, c3, a4, c4, b7, b11)) (by repeat' first | exact Sub.nil | apply Sub.cons | rfl | (simp [lk]; omega)) (fun _ h => St.sub ((h.pull b7).pull b11))
 refine sy_alt ?_ ?_
 refine alc rfl zl27 rfl (fun b8 => ?_)
 refine bg (fun w hs => trivial) ?_
 exact sy_to (h7fea0 (a1, c1, a2, c2, a5, c5, a3, c3, a4, c4, b8, b11)) (by repeat' first | exact Sub.nil | apply Sub.cons | rfl | (simp [lk]; omega)) (fun _ h => St.sub ((h.pull b8).pull b11))
 refine sy_alt ?_ ?_
 refine alc rfl zl36 rfl (fun b10 => ?_)
 refine bg (fun w hs => trivial) ?_
 exact sy_to (h7fe60 (a1, c1, a2, c2, a5, c5, a3, c3, a4, c4, b10, b11)) (by repeat' first | exact Sub.nil | apply Sub.cons | rfl | (simp [lk]; omega)) (fun _ h => St.sub ((h.pull b10).pull b11))
 exact sy_stop
 refine sy_have (β := Option Addr × Nat × Option Addr × Nat × Option Addr × Nat × Option Addr × Nat × Nat × Nat × Nat × Nat) pl3_3_7fde0 (fun ⟨a1, c1, a2, c2, a5, c5, a3, c3, b7, b8, b10, b11⟩ => ([(11, .pointer (some ⟨b11, 0, none⟩)), (10, .pointer (some ⟨b10, 0, none⟩)), (8, .pointer (some ⟨b8, 0, none⟩)), (7, .pointer (some ⟨b7, 0, none⟩)), (43, g.v (g.sl a3 c3)), (41, .slice a5 l.length c5), (39, c.v (c.sl a2 c2)), (37, g.v (g.sl a1 c1)), (2, .slice al l.length cy), (3, .pointer (some ⟨b3, 0, none⟩)), (4, .pointer (some ⟨b4, 0, none⟩)), (36, g.v (g.sl ag cg)), (38, c.v (c.sl ah ch)), (40, .slice al l.length cy), (42, g.v (g.sl ag cg)), (44, c.v (c.sl ah ch))], (b11, cel 40 ([.int .i64 0, .int .i64 0, .slice none 0 0])) :: (b10, cel 36 ([.int .i64 0, .int .i64 0, .slice none 0 0])) :: (b8, cel 27 ([.int .i64 0, .int .i64 0, .slice none 0 0])) :: (b7, cel 24 ([.int .i64 0, .int .i64 0, .slice none 0 0])) :: (b4, cel 27 (ctl c (c.sl ah ch))) :: (b3, cel 24 (gtl g (g.sl ag cg))) :: H, RowsA a3 5 (grows g.grs) :: RowsA a5 1 (irows l) :: RowsA a2 5 (hrows c.hs) :: RowsA a1 5 (grows g.grs) :: R, [(8, Ld Tryz.prog 27 ⟨b4, 0, none⟩ (c.v (c.sl ah ch)))])) (fun v9 => ?_) (fun h7fde0 => ?_)
 obtain ⟨a1, c1, a2, c2, a5, c5, a3, c3, b7, b8, b10, b11⟩ := v9
 dsimp only
 unfold pl3_3_7fde0
 refine cl rfl cal12 rfl rfl (c_come c ah ch (by omega) _ _) ?_
 rintro _ _ R1 ⟨a4, c4, rfl, rfl, hR1⟩
 obtain rfl := hR1.symm
 clear hR1
 refine bg (fun w hs => ⟨trivial, trivial⟩) ?_
 exact sy_to (h7ffe0 (a1, c1, a2, c2, a5, c5, a3, c3, a4, c4, b7, b8, b10, b11)) (by repeat' first | exact Sub.nil | apply Sub.cons | rfl | (simp [lk]; omega)) (fun _ h => St.sub ((((h.pull b7).pull b8).pull b10).pull b11))
 refine sy_have (β := Option Addr × Nat × Option Addr × Nat × Option Addr × Nat × Option Addr × Nat × Nat × Nat × Nat) pl3_3_7fdc0 (fun ⟨a1, c1, a2, c2, a5, c5, a3, c3, b7, b8, b10⟩ => ([(10, .pointer (some ⟨b10, 0, none⟩)), (8, .pointer (some ⟨b8, 0, none⟩)), (7, .pointer (some ⟨b7, 0, none⟩)), (43, g.v (g.sl a3 c3)), (41, .slice a5 l.length c5), (39, c.v (c.sl a2 c2)), (37, g.v (g.sl a1 c1)), (2, .slice al l.length cy), (3, .pointer (some ⟨b3, 0, none⟩)), (4, .pointer (some ⟨b4, 0, none⟩)), (36, g.v (g.sl ag cg)), (38, c.v (c.sl ah ch)), (40, .slice al l.length cy), (42, g.v (g.sl ag cg)), (44, c.v (c.sl ah ch))], (b10, cel 36 ([.int .i64 0, .int .i64 0, .slice none 0 0])) :: (b8, cel 27 ([.int .i64 0, .int .i64 0, .slice none 0 0])) :: (b7, cel 24 ([.int .i64 0, .int .i64 0, .slice none 0 0])) :: (b4, cel 27 (ctl c (c.sl ah ch))) :: (b3, cel 24 (gtl g (g.sl ag cg))) :: H, RowsA a3 5 (grows g.grs) :: RowsA a5 1 (irows l) :: RowsA a2 5 (hrows c.hs) :: RowsA a1 5 (grows g.grs) :: R, [(8, Ld Tryz.prog 27 ⟨b4, 0, none⟩ (c.v (c.sl ah ch)))])) (fun v9 => ?_) (fun h7fdc0 => ?_)
 obtain ⟨a1, c1, a2, c2, a5, c5, a3, c3, b7, b8, b10⟩ := v9
 dsimp only
 unfold pl3_3_7fdc0
 refine sy_any ?_
 refine sy_alt ?_ ?_
 refine cl rfl cal12 rfl rfl (c_come c ah ch (by omega) _ _) ?_
 rintro _ _ R1 ⟨a4, c4, rfl, rfl, hR1⟩
 obtain rfl := hR1.symm
 clear hR1
 refine bg (fun w hs => ⟨trivial, trivial⟩) ?_
 exact sy_to (h7ffc0 (a1, c1, a2, c2, a5, c5, a3, c3, a4, c4, b7, b8, b10)) (by repeat' first | exact Sub.nil | apply Sub.cons | rfl | (simp [lk]; omega)) (fun _ h => St.sub (((h.pull b7).pull b8).pull b10))
 refine sy_alt ?_ ?_
 refine alc rfl zl40 rfl (fun b11 => ?_)
 refine bg (fun w hs => ⟨((lhA (ctl c (c.sl ah ch)) ag27 rfl rfl rfl)) w hs, trivial⟩) ?_
 exact sy_to (h7fde0 (a1, c1, a2, c2, a5, c5, a3, c3, b7, b8, b10, b11)) (by repeat' first | exact Sub.nil | apply Sub.cons | rfl | (simp [lk]; omega)) (fun _ h => St.sub ((((h.pull b7).pull b8).pull b10).pull b11))
 exact sy_stop
 refine sy_have (β := Option Addr × Nat × Option Addr × Nat × Option Addr × Nat × Option Addr × Nat × Nat × Nat × Nat) pl3_3_7fda0 (fun ⟨a1, c1, a2, c2, a5, c5, a3, c3, b7, b8, b11⟩ => ([(11, .pointer (some ⟨b11, 0, none⟩)), (8, .pointer (some ⟨b8, 0, none⟩)), (7, .pointer (some ⟨b7, 0, none⟩)), (43, g.v (g.sl a3 c3)), (41, .slice a5 l.length c5), (39, c.v (c.sl a2 c2)), (37, g.v (g.sl a1 c1)), (2, .slice al l.length cy), (3, .pointer (some ⟨b3, 0, none⟩)), (4, .pointer (some ⟨b4, 0, none⟩)), (36, g.v (g.sl ag cg)), (38, c.v (c.sl ah ch)), (40, .slice al l.length cy), (42, g.v (g.sl ag cg)), (44, c.v (c.sl ah ch))], (b11, cel 40 ([.int .i64 0, .int .i64 0, .slice none 0 0])) :: (b8, cel 27 ([.int .i64 0, .int .i64 0, .slice none 0 0])) :: (b7, cel 24 ([.int .i64 0, .int .i64 0, .slice none 0 0])) :: (b4, cel 27 (ctl c (c.sl ah ch))) :: (b3, cel 24 (gtl g (g.sl ag cg))) :: H, RowsA a3 5 (grows g.grs) :: RowsA a5 1 (irows l) :: RowsA a2 5 (hrows c.hs) :: RowsA a1 5 (grows g.grs) :: R, [(8, Ld Tryz.prog 27 ⟨b4, 0, none⟩ (c.v (c.sl ah ch)))])) (fun v9 => ?_) (fun h7fda0 => ?_)
 obtain ⟨a1, c1, a2, c2, a5, c5, a3, c3, b7, b8, b11⟩ := v9
 dsimp only
 unfold pl3_3_7fda0
 refine sy_any ?_
 refine sy_alt ?_ ?_
 refine cl rfl cal12 rfl rfl (c_come c ah ch (by omega) _ _) ?_
 rintro _ _ R1 ⟨a4, c4, rfl, rfl, hR1⟩
 obtain rfl := hR1.symm
 clear hR1
 refine bg (fun w hs => ⟨trivial, trivial⟩) ?_
 exact sy_to (h7ffa0 (a1, c1, a2, c2, a5, c5, a3, c3, a4, c4, b7, b8, b11)) (by repeat' first | exact Sub.nil | apply Sub.cons | rfl | (simp [lk]; omega)) (fun _ h => St.sub (((h.pull b7).pull b8).pull b11))
 refine sy_alt ?_ ?_
 refine alc rfl zl36 rfl (fun b10 => ?_)
 refine bg (fun w hs => ⟨((lhA (ctl c (c.sl ah ch)) ag27 rfl rfl rfl)) w hs, trivial⟩) ?_
 exact sy_to (h7fde0 (a1, c1, a2, c2, a5, c5, a3, c3, b7, b8, b10, b11)) (by repeat' first | exact Sub.nil | apply Sub.cons | rfl | (simp [lk]; omega)) (fun _ h => St.sub ((((h.pull b7).pull b8).pull b10).pull b11))
 exact sy_stop
 refine sy_have (β := Option Addr × Nat × Option Addr × Nat × Option Addr × Nat × Option Addr × Nat × Nat × Nat) pl3_3_7fd80 (fun ⟨a1, c1, a2, c2, a5, c5, a3, c3, b7, b8⟩ => ([(8, .pointer (some ⟨b8, 0, none⟩)), (7, .pointer (some ⟨b7, 0, none⟩)), (43, g.v (g.sl a3 c3)), (41, .slice a5 l.length c5), (39, c.v (c.sl a2 c2)), (37, g.v (g.sl a1 c1)), (2, .slice al l.length cy), (3, .pointer (some ⟨b3, 0, none⟩)), (4, .pointer (some ⟨b4, 0, none⟩)), (36, g.v (g.sl ag cg)), (38, c.v (c.sl ah ch)), (40, .slice al l.length cy), (42, g.v (g.sl ag cg)), (44, c.v (c.sl ah ch))], (b8, cel 27 ([.int .i64 0, .int .i64 0, .slice none 0 0])) :: (b7, cel 24 ([.int .i64 0, .int .i64 0, .slice none 0 0])) :: (b4, cel 27 (ctl c (c.sl ah ch))) :: (b3, cel 24 (gtl g (g.sl ag cg))) :: H, RowsA a3 5 (grows g.grs) :: RowsA a5 1 (irows l) :: RowsA a2 5 (hrows c.hs) :: RowsA a1 5 (grows g.grs) :: R, [(8, Ld Tryz.prog 27 ⟨b4, 0, none⟩ (c.v (c.sl ah ch)))])) (fun v9 => ?_) (fun h7fd80 => ?_)
 obtain ⟨a1, c1, a2, c2, a5, c5, a3, c3, b7, b8⟩ := v9
 dsimp only
 unfold pl3_3_7fd80
 refine sy_any ?_
 refine sy_alt ?_ ?_
 refine cl rfl cal12 rfl rfl (c_come c ah ch (by omega) _ _) ?_
 rintro _ _ R1 ⟨a4, c4, rfl, rfl, hR1⟩
 obtain rfl := hR1.symm
 clear hR1
 refine bg (fun w hs => ⟨trivial, trivial⟩) ?_
 exact sy_to (h7ff80 (a1, c1, a2, c2, a5, c5, a3, c3, a4, c4, b7, b8)) (by repeat' first | exact Sub.nil | apply Sub.cons | rfl | (simp [lk]; omega)) (fun _ h => St.sub ((h.pull b7).pull b8))
 refine sy_alt ?_ ?_
 refine alc rfl zl36 rfl (fun b10 => ?_)
 refine bg (fun w hs => ⟨((lhA (ctl c (c.sl ah ch)) ag27 rfl rfl rfl)) w hs, trivial⟩) ?_
 exact sy_to (h7fdc0 (a1, c1, a2, c2, a5, c5, a3, c3, b7, b8, b10)) (by repeat' first | exact Sub.nil | apply Sub.cons | rfl | (simp [lk]; omega)) (fun _ h => St.sub (((h.pull b7).pull b8).pull b10))
 refine sy_alt ?_ ?_
 refine alc rfl zl40 rfl (fun b11 => ?_)
 refine bg (fun w hs => ⟨((lhA (ctl c (c.sl ah ch)) ag27 rfl rfl rfl)) w hs, trivial⟩) ?_
 exact sy_to (h7fda0 (a1, c1, a2, c2, a5, c5, a3, c3, b7, b8, b11)) (by repeat' first | exact Sub.nil | apply Sub.cons | rfl | (simp [lk]; omega)) (fun _ h => St.sub (((h.pull b7).pull b8).pull b11))
 exact sy_stop
 refine sy_have (β := Option Addr × Nat × Option Addr × Nat × Option Addr × Nat × Option Addr × Nat × Nat × Nat × Nat) pl3_3_7fd60 (fun ⟨a1, c1, a2, c2, a5, c5, a3, c3, b7, b10, b11⟩ => ([(11, .pointer (some ⟨b11, 0, none⟩)), (10, .pointer (some ⟨b10, 0, none⟩)), (7, .pointer (some ⟨b7, 0, none⟩)), (43, g.v (g.sl a3 c3)), (41, .slice a5 l.length c5), (39, c.v (c.sl a2 c2)), (37, g.v (g.sl a1 c1)), (2, .slice al l.length cy), (3, .pointer (some ⟨b3, 0, none⟩)), (4, .pointer (some ⟨b4, 0, none⟩)), (36, g.v (g.sl ag cg)), (38, c.v (c.sl ah ch)), (40, .slice al l.length cy), (42, g.v (g.sl ag cg)), (44, c.v (c.sl ah ch))], (b11, cel 40 ([.int .i64 0, .int .i64 0, .slice none 0 0])) :: (b10, cel 36 ([.int .i64 0, .int .i64 0, .slice none 0 0])) :: (b7, cel 24 ([.int .i64 0, .int .i64 0, .slice none 0 0])) :: (b4, cel 27 (ctl c (c.sl ah ch))) :: (b3, cel 24 (gtl g (g.sl ag cg))) :: H, RowsA a3 5 (grows g.grs) :: RowsA a5 1 (irows l) :: RowsA a2 5 (hrows c.hs) :: RowsA a1 5 (grows g.grs) :: R, [(8, Ld Tryz.prog 27 ⟨b4, 0, none⟩ (c.v (c.sl ah ch)))])) (fun v9 => ?_) (fun h7fd60 => ?_)
 obtain ⟨a1, c1, a2, c2, a5, c5, a3, c3, b7, b10, b11⟩ := v9
 dsimp only
 unfold pl3_3_7fd60
 refine sy_any ?_
 refine sy_alt ?_ ?_
 refine cl rfl cal12 rfl rfl (c_come c ah ch (by omega) _ _) ?_
 rintro _ _ R1 ⟨a4, c4, rfl, rfl, hR1⟩
 obtain rfl := hR1.symm
 clear hR1
 refine bg (fun w hs => ⟨trivial, trivial⟩) ?_
 exact sy_to (h7ff60 (a1, c1, a2, c2, a5, c5, a3, c3, a4, c4, b7, b10, b11)) (by repeat' first | exact Sub.nil | apply Sub.cons | rfl | (simp [lk]; omega)) (fun _ h => St.sub (((h.pull b7).pull b10).pull b11))
 refine sy_alt ?_ ?_
 refine alc rfl zl27 rfl (fun b8 => ?_)
 refine bg (fun w hs => ⟨((lhA (ctl c (c.sl ah ch)) ag27 rfl rfl rfl)) w hs, trivial⟩) ?_
 exact sy_to (h7fde0 (a1, c1, a2, c2, a5, c5, a3, c3, b7, b8, b10, b11)) (by repeat' first | exact Sub.nil | apply Sub.cons | rfl | (simp [lk]; omega)) (fun _ h => St.sub ((((h.pull b7).pull b8).pull b10).pull b11))
 exact sy_stop
 refine sy_have (β := Option Addr × Nat × Option Addr × Nat × Option Addr × Nat × Option Addr × Nat × Nat × Nat) pl3_3_7fd40 (fun ⟨a1, c1, a2, c2, a5, c5, a3, c3, b7, b10⟩ => ([(10, .pointer (some ⟨b10, 0, none⟩)), (7, .pointer (some ⟨b7, 0, none⟩)), (43, g.v (g.sl a3 c3)), (41, .slice a5 l.length c5), (39, c.v (c.sl a2 c2)), (37, g.v (g.sl a1 c1)), (2, .slice al l.length cy), (3, .pointer (some ⟨b3, 0, none⟩)), (4, .pointer (some ⟨b4, 0, none⟩)), (36, g.v (g.sl ag cg)), (38, c.v (c.sl ah ch)), (40, .slice al l.length cy), (42, g.v (g.sl ag cg)), (44, c.v (c.sl ah ch))], (b10, cel 36 ([.int .i64 0, .int .i64 0, .slice none 0 0])) :: (b7, cel 24 ([.int .i64 0, .int .i64 0, .slice none 0 0])) :: (b4, cel 27 (ctl c (c.sl ah ch))) :: (b3, cel 24 (gtl g (g.sl ag cg))) :: H, RowsA a3 5 (grows g.grs) :: RowsA a5 1 (irows l) :: RowsA a2 5 (hrows c.hs) :: RowsA a1 5 (grows g.grs) :: R, [(8, Ld Tryz.prog 27 ⟨b4, 0, none⟩ (c.v (c.sl ah ch)))])) (fun v9 => ?_) (fun h7fd40 => ?_)
 obtain ⟨a1, c1, a2, c2, a5, c5, a3, c3, b7, b10⟩ := v9
 dsimp only
 unfold pl3_3_7fd40
 refine sy_any ?_
 refine sy_alt ?_ ?_
 refine cl rfl cal12 rfl rfl (c_come c ah ch (by omega) _ _) ?_
 rintro _ _ R1 ⟨a4, c4, rfl, rfl, hR1⟩
 obtain rfl := hR1.symm
 clear hR1
 refine bg (fun w hs => ⟨trivial, trivial⟩) ?_
 exact sy_to (h7ff40 (a1, c1, a2, c2, a5, c5, a3, c3, a4, c4, b7, b10)) (by repeat' first | exact Sub.nil | apply Sub.cons | rfl | (simp [lk]; omega)) (fun _ h => St.sub ((h.pull b7).pull b10))
 refine sy_alt ?_ ?_
 refine alc rfl zl27 rfl (fun b8 => ?_)
 refine bg (fun w hs => ⟨((lhA (ctl c (c.sl ah ch)) ag27 rfl rfl rfl)) w hs, trivial⟩) ?_
 exact sy_to (h7fdc0 (a1, c1, a2, c2, a5, c5, a3, c3, b7, b8, b10)) (by repeat' first | exact Sub.nil | apply Sub.cons | rfl | (simp [lk]; omega)) (fun _ h => St.sub (((h.pull b7).pull b8).pull b10))
 refine sy_alt ?_ ?_
 refine alc rfl zl40 rfl (fun b11 => ?_)
 refine bg (fun w hs => ⟨((lhA (ctl c (c.sl ah ch)) ag27 rfl rfl rfl)) w hs, trivial⟩) ?_
 exact sy_to (h7fd60 (a1, c1, a2, c2, a5, c5, a3, c3, b7, b10, b11)) (by repeat' first | exact Sub.nil | apply Sub.cons | rfl | (simp [lk]; omega)) (fun _ h => St.sub (((h.pull b7).pull b10).pull b11))
 exact sy_stop
 refine sy_have (β := Option Addr × Nat × Option Addr × Nat × Option Addr × Nat × Option Addr × Nat × Nat × Nat) pl3_3_7fd20 (fun ⟨a1, c1, a2, c2, a5, c5, a3, c3, b7, b11⟩ => ([(11, .pointer (some ⟨b11, 0, none⟩)), (7, .pointer (some ⟨b7, 0, none⟩)), (43, g.v (g.sl a3 c3)), (41, .slice a5 l.length c5), (39, c.v (c.sl a2 c2)), (37, g.v (g.sl a1 c1)), (2, .slice al l.length cy), (3, .pointer (some ⟨b3, 0, none⟩)), (4, .pointer (some ⟨b4, 0, none⟩)), (36, g.v (g.sl ag cg)), (38, c.v (c.sl ah ch)), (40, .slice al l.length cy), (42, g.v (g.sl ag cg)), (44, c.v (c.sl ah ch))], (b11, cel 40 ([.int .i64 0, .int .i64 0, .slice none 0 0])) :: (b7, cel 24 ([.int .i64 0, .int .i64 0, .slice none 0 0])) :: (b4, cel 27 (ctl c (c.sl ah ch))) :: (b3, cel 24 (gtl g (g.sl ag cg))) :: H, RowsA a3 5 (grows g.grs) :: RowsA a5 1 (irows l) :: RowsA a2 5 (hrows c.hs) :: RowsA a1 5 (grows g.grs) :: R, [(8, Ld Tryz.prog 27 ⟨b4, 0, none⟩ (c.v (c.sl ah ch)))])) (fun v9 => ?_) (fun h7fd20 => ?_)
 obtain ⟨a1, c1, a2, c2, a5, c5, a3, c3, b7, b11⟩ := v9
 dsimp only
 unfold pl3_3_7fd20
 refine sy_any ?_
 refine sy_alt ?_ ?_
 refine cl rfl cal12 rfl rfl (c_come c ah ch (by omega) _ _) ?_
 rintro _ _ R1 ⟨a4, c4, rfl, rfl, hR1⟩
 obtain rfl := hR1.symm
 clear hR1
 refine bg (fun w hs => ⟨trivial, trivial⟩) ?_
 exact sy_to (h7ff20 (a1, c1, a2, c2, a5, c5, a3, c3, a4, c4, b7, b11)) (by repeat' first | exact Sub.nil | apply Sub.cons | rfl | (simp [lk]; omega)) (fun _ h => St.sub ((h.pull b7).pull b11))
 refine sy_alt ?_ ?_
 refine alc rfl zl27 rfl (fun b8 => ?_)
 refine bg (fun w hs => ⟨((lhA (ctl c (c.sl ah ch)) ag27 rfl rfl rfl)) w hs, trivial⟩) ?_
 exact sy_to (h7fda0 (a1, c1, a2, c2, a5, c5, a3, c3, b7, b8, b11)) (by repeat' first | exact Sub.nil | apply Sub.cons | rfl | (simp [lk]; omega)) (fun _ h => St.sub (((h.pull b7).pull b8).pull b11))
 refine sy_alt ?_ ?_
 refine alc rfl zl36 rfl (fun b10 => ?_)
 refine bg (fun w hs => ⟨((lhA (ctl c (c.sl ah ch)) ag27 rfl rfl rfl)) w hs, trivial⟩) ?_
 exact sy_to (h7fd60 (a1, c1, a2, c2, a5, c5, a3, c3, b7, b10, b11)) (by repeat' first | exact Sub.nil | apply Sub.cons | rfl | (simp [lk]; omega)) (fun _ h => St.sub (((h.pull b7).pull b10).pull b11))
 exact sy_stop
 refine sy_have (β := Option Addr × Nat × Option Addr × Nat × Option Addr × Nat × Option Addr × Nat × Nat) pl3_3_7fd00 (fun ⟨a1, c1, a2, c2, a5, c5, a3, c3, b7⟩ => ([(7, .pointer (some ⟨b7, 0, none⟩)), (43, g.v (g.sl a3 c3)), (41, .slice a5 l.length c5), (39, c.v (c.sl a2 c2)), (37, g.v (g.sl a1 c1)), (2, .slice al l.length cy), (3, .pointer (some ⟨b3, 0, none⟩)), (4, .pointer (some ⟨b4, 0, none⟩)), (36, g.v (g.sl ag cg)), (38, c.v (c.sl ah ch)), (40, .slice al l.length cy), (42, g.v (g.sl ag cg)), (44, c.v (c.sl ah ch))], (b7, cel 24 ([.int .i64 0, .int .i64 0, .slice none 0 0])) :: (b4, cel 27 (ctl c (c.sl ah ch))) :: (b3, cel 24 (gtl g (g.sl ag cg))) :: H, RowsA a3 5 (grows g.grs) :: RowsA a5 1 (irows l) :: RowsA a2 5 (hrows c.hs) :: RowsA a1 5 (grows g.grs) :: R, [(8, Ld Tryz.prog 27 ⟨b4, 0, none⟩ (c.v (c.sl ah ch)))])) (fun v9 => ?_) (fun h7fd00 => ?_)
 obtain ⟨a1, c1, a2, c2, a5, c5, a3, c3, b7⟩ := v9
 dsimp only
 unfold pl3_3_7fd00
 refine sy_any ?_
 refine sy_alt ?_ ?_
 refine cl rfl cal12 rfl rfl (c_come c ah ch (by omega) _ _) ?_
 rintro _ _ R1 ⟨a4, c4, rfl, rfl, hR1⟩
 obtain rfl := hR1.symm
 clear hR1
 refine bg (fun w hs => ⟨trivial, trivial⟩) ?_
 exact sy_to (h7ff00 (a1, c1, a2, c2, a5, c5, a3, c3, a4, c4, b7)) (by repeat' first | exact Sub.nil | apply Sub.cons | rfl | (simp [lk]; omega)) (fun _ h => St.sub (h.pull b7))
 refine sy_alt ?_ ?_
 refine alc rfl zl27 rfl (fun b8 => ?_)
 refine bg (fun w hs => ⟨((lhA (ctl c (c.sl ah ch)) ag27 rfl rfl rfl)) w hs, trivial⟩) ?_
 exact sy_to (h7fd80 (a1, c1, a2, c2, a5, c5, a3, c3, b7, b8)) (by repeat' first | exact Sub.nil | apply Sub.cons | rfl | (simp [lk]; omega)) (fun _ h => St.sub ((h.pull b7).pull b8))
 refine sy_alt ?_ ?_
 refine alc rfl zl36 rfl (fun b10 => ?_)
 refine bg (fun w hs => ⟨((lhA (ctl c (c.sl ah ch)) ag27 rfl rfl rfl)) w hs, trivial⟩) ?_
 exact sy_to (h7fd40 (a1, c1, a2, c2, a5, c5, a3, c3, b7, b10)) (by repeat' first | exact Sub.nil | apply Sub.cons | rfl | (simp [lk]; omega)) (fun _ h => St.sub ((h.pull b7).pull b10))
 refine sy_alt ?_ ?_
 refine alc rfl zl40 rfl (fun b11 => ?_)
 refine bg (fun w hs => ⟨((lhA (ctl c (c.sl ah ch)) ag27 rfl rfl rfl)) w hs, trivial⟩) ?_
 exact sy_to (h7fd20 (a1, c1, a2, c2, a5, c5, a3, c3, b7, b11)) (by repeat' first | exact Sub.nil | apply Sub.cons | rfl | (simp [lk]; omega)) (fun _ h => St.sub ((h.pull b7).pull b11))
 exact sy_stop
 refine sy_have (β := Option Addr × Nat × Option Addr × Nat × Option Addr × Nat × Option Addr × Nat × Nat × Nat × Nat) pl3_3_7fce0 (fun ⟨a1, c1, a2, c2, a5, c5, a3, c3, b8, b10, b11⟩ => ([(11, .pointer (some ⟨b11, 0, none⟩)), (10, .pointer (some ⟨b10, 0, none⟩)), (8, .pointer (some ⟨b8, 0, none⟩)), (43, g.v (g.sl a3 c3)), (41, .slice a5 l.length c5), (39, c.v (c.sl a2 c2)), (37, g.v (g.sl a1 c1)), (2, .slice al l.length cy), (3, .pointer (some ⟨b3, 0, none⟩)), (4, .pointer (some ⟨b4, 0, none⟩)), (36, g.v (g.sl ag cg)), (38, c.v (c.sl ah ch)), (40, .slice al l.length cy), (42, g.v (g.sl ag cg)), (44, c.v (c.sl ah ch))], (b11, cel 40 ([.int .i64 0, .int .i64 0, .slice none 0 0])) :: (b10, cel 36 ([.int .i64 0, .int .i64 0, .slice none 0 0])) :: (b8, cel 27 ([.int .i64 0, .int .i64 0, .slice none 0 0])) :: (b4, cel 27 (ctl c (c.sl ah ch))) :: (b3, cel 24 (gtl g (g.sl ag cg))) :: H, RowsA a3 5 (grows g.grs) :: RowsA a5 1 (irows l) :: RowsA a2 5 (hrows c.hs) :: RowsA a1 5 (grows g.grs) :: R, [(8, Ld Tryz.prog 27 ⟨b4, 0, none⟩ (c.v (c.sl ah ch)))])) (fun v9 => ?_) (fun h7fce0 => ?_)
 obtain ⟨a1, c1, a2, c2, a5, c5, a3, c3, b8, b10, b11⟩ := v9
 dsimp only
 unfold pl3_3_7fce0
 refine sy_any ?_
 refine sy_alt ?_ ?_
 refine cl rfl cal12 rfl rfl (c_come c ah ch (by omega) _ _) ?_
 rintro _ _ R1 ⟨a4, c4, rfl, rfl, hR1⟩
 obtain rfl := hR1.symm
 clear hR1
 refine bg (fun w hs => ⟨trivial, trivial⟩) ?_
 exact sy_to (h7fee0 (a1, c1, a2, c2, a5, c5, a3, c3, a4, c4, b8, b10, b11)) (by repeat' first | exact Sub.nil | apply Sub.cons | rfl | (simp [lk]; omega)) (fun _ h => St.sub (((h.pull b8).pull b10).pull b11))
 refine sy_alt ?_ ?_
 refine alc rfl zl24 rfl (fun b7 => ?_)
 refine bg (fun w hs => ⟨((lhA (ctl c (c.sl ah ch)) ag27 rfl rfl rfl)) w hs, trivial⟩) ?_
 exact sy_to (h7fde0 (a1, c1, a2, c2, a5, c5, a3, c3, b7, b8, b10, b11)) (by repeat' first | exact Sub.nil | apply Sub.cons | rfl | (simp [lk]; omega)) (fun _ h => St.sub ((((h.pull b7).pull b8).pull b10).pull b11))
 exact sy_stop
 refine sy_have (β := Option Addr × Nat × Option Addr × Nat × Option Addr × Nat × Option Addr × Nat × Nat × Nat) pl3_3_7fcc0 (fun ⟨a1, c1, a2, c2, a5, c5, a3, c3, b8, b10⟩ => ([(10, .pointer (some ⟨b10, 0, none⟩)), (8, .pointer (some ⟨b8, 0, none⟩)), (43, g.v (g.sl a3 c3)), (41, .slice a5 l.length c5), (39, c.v (c.sl a2 c2)), (37, g.v (g.sl a1 c1)), (2, .slice al l.length cy), (3, .pointer (some ⟨b3, 0, none⟩)), (4, .pointer (some ⟨b4, 0, none⟩)), (36, g.v (g.sl ag cg)), (38, c.v (c.sl ah ch)), (40, .slice al l.length cy), (42, g.v (g.sl ag cg)), (44, c.v (c.sl ah ch))], (b10, cel 36 ([.int .i64 0, .int .i64 0, .slice none 0 0])) :: (b8, cel 27 ([.int .i64 0, .int .i64 0, .slice none 0 0])) :: (b4, cel 27 (ctl c (c.sl ah ch))) :: (b3, cel 24 (gtl g (g.sl ag cg))) :: H, RowsA a3 5 (grows g.grs) :: RowsA a5 1 (irows l) :: RowsA a2 5 (hrows c.hs) :: RowsA a1 5 (grows g.grs) :: R, [(8, Ld Tryz.prog 27 ⟨b4, 0, none⟩ (c.v (c.sl ah ch)))])) (fun v9 => ?_) (fun h7fcc0 => ?_)
 obtain ⟨a1, c1, a2, c2, a5, c5, a3, c3, b8, b10⟩ := v9
 dsimp only
 unfold pl3_3_7fcc0
 refine sy_any ?_
 refine sy_alt ?_ ?_
 refine cl rfl cal12 rfl rfl (c_come c ah ch (by omega) _ _) ?_
 rintro _ _ R1 ⟨a4, c4, rfl, rfl, hR1⟩
 obtain rfl := hR1.symm
 clear hR1
 refine bg (fun w hs => ⟨trivial, trivial⟩) ?_
 exact sy_to (h7fec0 (a1, c1, a2, c2, a5, c5, a3, c3, a4, c4, b8, b10)) (by repeat' first | exact Sub.nil | apply Sub.cons | rfl | (simp [lk]; omega)) (fun _ h => St.sub ((h.pull b8).pull b10))
 refine sy_alt ?_ ?_
 refine alc rfl zl24 rfl (fun b7 => ?_)
 refine bg (fun w hs => ⟨((lhA (ctl c (c.sl ah ch)) ag27 rfl rfl rfl)) w hs, trivial⟩) ?_
 exact sy_to (h7fdc0 (a1, c1, a2, c2, a5, c5, a3, c3, b7, b8, b10)) (by repeat' first | exact Sub.nil | apply Sub.cons | rfl | (simp [lk]; omega)) (fun _ h => St.sub (((h.pull b7).pull b8).pull b10))
 refine sy_alt ?_ ?_
 refine alc rfl zl40 rfl (fun b11 => ?_)
 refine bg (fun w hs => ⟨((lhA (ctl c (c.sl ah ch)) ag27 rfl rfl rfl)) w hs, trivial⟩) ?_
 exact sy_to (h7fce0 (a1, c1, a2, c2, a5, c5, a3, c3, b8, b10, b11)) (by repeat' first | exact Sub.nil | apply Sub.cons | rfl | (simp [lk]; omega)) (fun _ h => St.sub (((h.pull b8).pull b10).pull b11))
 exact sy_stop
 refine sy_have (β := Option Addr × Nat × Option Addr × Nat × Option Addr × Nat × Option Addr × Nat × Nat × Nat) pl3_3_7fca0 (fun ⟨a1, c1, a2, c2, a5, c5, a3, c3, b8, b11⟩ => ([(11, .pointer (some ⟨b11, 0, none⟩)), (8, .pointer (some ⟨b8, 0, none⟩)), (43, g.v (g.sl a3 c3)), (41, .slice a5 l.length c5), (39, c.v (c.sl a2 c2)), (37, g.v (g.sl a1 c1)), (2, .slice al l.length cy), (3, .pointer (some ⟨b3, 0, none⟩)), (4, .pointer (some ⟨b4, 0, none⟩)), (36, g.v (g.sl ag cg)), (38, c.v (c.sl ah ch)), (40, .slice al l.length cy), (42, g.v (g.sl ag cg)), (44, c.v (c.sl ah ch))], (b11, cel 40 ([.int .i64 0, .int .i64 0, .slice none 0 0])) :: (b8, cel 27 ([.int .i64 0, .int .i64 0, .slice none 0 0])) :: (b4, cel 27 (ctl c (c.sl ah ch))) :: (b3, cel 24 (gtl g (g.sl ag cg))) :: H, RowsA a3 5 (grows g.grs) :: RowsA a5 1 (irows l) :: RowsA a2 5 (hrows c.hs) :: RowsA a1 5 (grows g.grs) :: R, [(8, Ld Tryz.prog 27 ⟨b4, 0, none⟩ (c.v (c.sl ah ch)))])) (fun v9 => ?_) (fun h7fca0 => ?_)
 obtain ⟨a1, c1, a2, c2, a5, c5, a3, c3, b8, b11⟩ := v9
 dsimp only
 unfold pl3_3_7fca0
 refine sy_any ?_
 refine sy_alt ?_ ?_
 refine cl rfl cal12 rfl rfl (c_come c ah ch (by omega) _ _) ?_
 rintro _ _ R1 ⟨a4, c4, rfl, rfl, hR1⟩
 obtain rfl := hR1.symm
 clear hR1
 refine bg (fun w hs => ⟨trivial, trivial⟩) ?_
 exact sy_to (h7fea0 (a1, c1, a2, c2, a5, c5, a3, c3, a4, c4, b8, b11)) (by repeat' first | exact Sub.nil | apply Sub.cons | rfl | (simp [lk]; omega)) (fun _ h => St.sub ((h.pull b8).pull b11))
 refine sy_alt ?_ ?_
 refine alc rfl zl24 rfl (fun b7 => ?_)
 refine bg (fun w hs => ⟨((lhA (ctl c (c.sl ah ch)) ag27 rfl rfl rfl)) w hs, trivial⟩) ?_
 exact sy_to (h7fda0 (a1, c1, a2, c2, a5, c5, a3, c3, b7, b8, b11)) (by repeat' first | exact Sub.nil | apply Sub.cons | rfl | (simp [lk]; omega)) (fun _ h => St.sub (((h.pull b7).pull b8).pull b11))
 refine sy_alt ?_ ?_
 refine alc rfl zl36 rfl (fun b10 => ?_)
 refine bg (fun w hs => ⟨((lhA (ctl c (c.sl ah ch)) ag27 rfl rfl rfl)) w hs, trivial⟩) ?_
 exact sy_to (h7fce0 (a1, c1, a2, c2, a5, c5, a3, c3, b8, b10, b11)) (by repeat' first | exact Sub.nil | apply Sub.cons | rfl | (simp [lk]; omega)) (fun _ h => St.sub (((h.pull b8).pull b10).pull b11))
 exact sy_stop
 refine sy_have (β := Option Addr × Nat × Option Addr × Nat × Option Addr × Nat × Option Addr × Nat × Nat) pl3_3_7fc80 (fun ⟨a1, c1, a2, c2, a5, c5, a3, c3, b8⟩ => ([(8, .pointer (some ⟨b8, 0, none⟩)), (43, g.v (g.sl a3 c3)), (41, .slice a5 l.length c5), (39, c.v (c.sl a2 c2)), (37, g.v (g.sl a1 c1)), (2, .slice al l.length cy), (3, .pointer (some ⟨b3, 0, none⟩)), (4, .pointer (some ⟨b4, 0, none⟩)), (36, g.v (g.sl ag cg)), (38, c.v (c.sl ah ch)), (40, .slice al l.length cy), (42, g.v (g.sl ag cg)), (44, c.v (c.sl ah ch))], (b8, cel 27 ([.int .i64 0, .int .i64 0, .slice none 0 0])) :: (b4, cel 27 (ctl c (c.sl ah ch))) :: (b3, cel 24 (gtl g (g.sl ag cg))) :: H, RowsA a3 5 (grows g.grs) :: RowsA a5 1 (irows l) :: RowsA a2 5 (hrows c.hs) :: RowsA a1 5 (grows g.grs) :: R, [(8, Ld Tryz.prog 27 ⟨b4, 0, none⟩ (c.v (c.sl ah ch)))])) (fun v9 => ?_) (fun h7fc80 => ?_)
 obtain ⟨a1, c1, a2, c2, a5, c5, a3, c3, b8⟩ := v9
 dsimp only
 unfold pl3_3_7fc80
 refine sy_any ?_
 refine sy_alt ?_ ?_
 refine cl rfl cal12 rfl rfl (c_come c ah ch (by omega) _ _) ?_
 rintro _ _ R1 ⟨a4, c4, rfl, rfl, hR1⟩
 obtain rfl := hR1.symm
 clear hR1
 refine bg (fun w hs => ⟨trivial, trivial⟩) ?_
 exact sy_to (h7fe80 (a1, c1, a2, c2, a5, c5, a3, c3, a4, c4, b8)) (by repeat' first | exact Sub.nil | apply Sub.cons | rfl | (simp [lk]; omega)) (fun _ h => St.sub (h.pull b8))
 refine sy_alt ?_ ?_
 refine alc rfl zl24 rfl (fun b7 => ?_)
 refine bg (fun w hs => ⟨((lhA (ctl c (c.sl ah ch)) ag27 rfl rfl rfl)) w hs, trivial⟩) ?_
 exact sy_to (h7fd80 (a1, c1, a2, c2, a5, c5, a3, c3, b7, b8)) (by repeat' first | exact Sub.nil | apply Sub.cons | rfl | (simp [lk]; omega)) (fun _ h => St.sub ((h.pull b7).pull b8))
 refine sy_alt ?_ ?_
 refine alc rfl zl36 rfl (fun b10 => ?_)
 refine bg (fun w hs => ⟨((lhA (ctl c (c.sl ah ch)) ag27 rfl rfl rfl)) w hs, trivial⟩) ?_
 exact sy_to (h7fcc0 (a1, c1, a2, c2, a5, c5, a3, c3, b8, b10)) (by repeat' first | exact Sub.nil | apply Sub.cons | rfl | (simp [lk]; omega)) (fun _ h => St.sub ((h.pull b8).pull b10))
 refine sy_alt ?_ ?_
 refine alc rfl zl40 rfl (fun b11 => ?_)
 refine bg (fun w hs => ⟨((lhA (ctl c (c.sl ah ch)) ag27 rfl rfl rfl)) w hs, trivial⟩) ?_
 exact sy_to (h7fca0 (a1, c1, a2, c2, a5, c5, a3, c3, b8, b11)) (by repeat' first | exact Sub.nil | apply Sub.cons | rfl | (simp [lk]; omega)) (fun _ h => St.sub ((h.pull b8).pull b11))
 exact sy_stop
 refine sy_have (β := Option Addr × Nat × Option Addr × Nat × Option Addr × Nat × Option Addr × Nat × Nat × Nat) pl3_3_7fc60 (fun ⟨a1, c1, a2, c2, a5, c5, a3, c3, b10, b11⟩ => ([(11, .pointer (some ⟨b11, 0, none⟩)), (10, .pointer (some ⟨b10, 0, none⟩)), (43, g.v (g.sl a3 c3)), (41, .slice a5 l.length c5), (39, c.v (c.sl a2 c2)), (37, g.v (g.sl a1 c1)), (2, .slice al l.length cy), (3, .pointer (some ⟨b3, 0, none⟩)), (4, .pointer (some ⟨b4, 0, none⟩)), (36, g.v (g.sl ag cg)), (38, c.v (c.sl ah ch)), (40, .slice al l.length cy), (42, g.v (g.sl ag cg)), (44, c.v (c.sl ah ch))], (b11, cel 40 ([.int .i64 0, .int .i64 0, .slice none 0 0])) :: (b10, cel 36 ([.int .i64 0, .int .i64 0, .slice none 0 0])) :: (b4, cel 27 (ctl c (c.sl ah ch))) :: (b3, cel 24 (gtl g (g.sl ag cg))) :: H, RowsA a3 5 (grows g.grs) :: RowsA a5 1 (irows l) :: RowsA a2 5 (hrows c.hs) :: RowsA a1 5 (grows g.grs) :: R, [(8, Ld Tryz.prog 27 ⟨b4, 0, none⟩ (c.v (c.sl ah ch)))])) (fun v9 => ?_) (fun h7fc60 => ?_)
 obtain ⟨a1, c1, a2, c2, a5, c5, a3, c3, b10, b11⟩ := v9
 dsimp only
 unfold pl3_3_7fc60
 refine sy_any ?_
 refine sy_alt ?_ ?_
 refine cl rfl cal12 rfl rfl (c_come c ah ch (by omega) _ _) ?_
 rintro _ _ R1 ⟨a4, c4, rfl, rfl, hR1⟩
 obtain rfl := hR1.symm
 clear hR1
 refine bg (fun w hs => ⟨trivial, trivial⟩) ?_
 exact sy_to (h7fe60 (a1, c1, a2, c2, a5, c5, a3, c3, a4, c4, b10, b11)) (by repeat' first | exact Sub.nil | apply Sub.cons | rfl | (simp [lk]; omega)) (fun _ h => St.sub ((h.pull b10).pull b11))
 refine sy_alt ?_ ?_
 refine alc rfl zl24 rfl (fun b7 => ?_)
 refine bg (fun w hs => ⟨((lhA (ctl c (c.sl ah ch)) ag27 rfl rfl rfl)) w hs, trivial⟩) ?_
 exact sy_to (h7fd60 (a1, c1, a2, c2, a5, c5, a3, c3, b7, b10, b11)) (by repeat' first | exact Sub.nil | apply Sub.cons | rfl | (simp [lk]; omega)) (fun _ h => St.sub (((h.pull b7).pull b10).pull b11))
 refine sy_alt ?_ ?_
 refine alc rfl zl27 rfl (fun b8 => ?_)
 refine bg (fun w hs => ⟨((lhA (ctl c (c.sl ah ch)) ag27 rfl rfl rfl)) w hs, trivial⟩) ?_
 exact sy_to (h7fce0 (a1, c1, a2, c2, a5, c5, a3, c3, b8, b10, b11)) (by repeat' first | exact Sub.nil | apply Sub.cons | rfl | (simp [lk]; omega)) (fun _ h => St.sub (((h.pull b8).pull b10).pull b11))
 exact sy_stop
 refine sy_have (β := Option Addr × Nat × Option Addr × Nat × Option Addr × Nat × Option Addr × Nat × Nat) pl3_3_7fc40 (fun ⟨a1, c1, a2, c2, a5, c5, a3, c3, b10⟩ => ([(10, .pointer (some ⟨b10, 0, none⟩)), (43, g.v (g.sl a3 c3)), (41, .slice a5 l.length c5), (39, c.v (c.sl a2 c2)), (37, g.v (g.sl a1 c1)), (2, .slice al l.length cy), (3, .pointer (some ⟨b3, 0, none⟩)), (4, .pointer (some ⟨b4, 0, none⟩)), (36, g.v (g.sl ag cg)), (38, c.v (c.sl ah ch)), (40, .slice al l.length cy), (42, g.v (g.sl ag cg)), (44, c.v (c.sl ah ch))], (b10, cel 36 ([.int .i64 0, .int .i64 0, .slice none 0 0])) :: (b4, cel 27 (ctl c (c.sl ah ch))) :: (b3, cel 24 (gtl g (g.sl ag cg))) :: H, RowsA a3 5 (grows g.grs) :: RowsA a5 1 (irows l) :: RowsA a2 5 (hrows c.hs) :: RowsA a1 5 (grows g.grs) :: R, [(8, Ld Tryz.prog 27 ⟨b4, 0, none⟩ (c.v (c.sl ah ch)))])) (fun v9 => ?_) (fun h7fc40 => ?_)
 obtain ⟨a1, c1, a2, c2, a5, c5, a3, c3, b10⟩ := v9
 dsimp only
 unfold pl3_3_7fc40
 refine sy_any ?_
 refine sy_alt ?_ ?_
 refine cl rfl cal12 rfl rfl (c_come c ah ch (by omega) _ _) ?_
 rintro _ _ R1 ⟨a4, c4, rfl, rfl, hR1⟩
 obtain rfl := hR1.symm
 clear hR1
 refine bg (fun w hs => ⟨trivial, trivial⟩) ?_
 exact sy_to (h7fe40 (a1, c1, a2, c2, a5, c5, a3, c3, a4, c4, b10)) (by repeat' first | exact Sub.nil | apply Sub.cons | rfl | (simp [lk]; omega)) (fun _ h => St.sub (h.pull b10))
 refine sy_alt ?_ ?_
 refine alc rfl zl24 rfl (fun b7 => ?_)
 refine bg (fun w hs => ⟨((lhA (ctl c (c.sl ah ch)) ag27 rfl rfl rfl)) w hs, trivial⟩) ?_
 exact sy_to (h7fd40 (a1, c1, a2, c2, a5, c5, a3, c3, b7, b10)) (by repeat' first | exact Sub.nil | apply Sub.cons | rfl | (simp [lk]; omega)) (fun _ h => St.sub ((h.pull b7).pull b10))
 refine sy_alt ?_ ?_
 refine alc rfl zl27 rfl (fun b8 => ?_)
 refine bg (fun w hs => ⟨((lhA (ctl c (c.sl ah ch)) ag27 rfl rfl rfl)) w hs, trivial⟩) ?_
 exact sy_to (h7fcc0 (a1, c1, a2, c2, a5, c5, a3, c3, b8, b10)) (by repeat' first | exact Sub.nil | apply Sub.cons | rfl | (simp [lk]; omega)) (fun _ h => St.sub ((h.pull b8).pull b10))
 refine sy_alt ?_ ?_
 refine alc rfl zl40 rfl (fun b11 => ?_)
 refine bg (fun w hs => ⟨((lhA (ctl c (c.sl ah ch)) ag27 rfl rfl rfl)) w hs, trivial⟩) ?_
 exact sy_to (h7fc60 (a1, c1, a2, c2, a5, c5, a3, c3, b10, b11)) (by repeat' first | exact Sub.nil | apply Sub.cons | rfl | (simp [lk]; omega)) (fun _ h => St.sub ((h.pull b10).pull b11))
 exact sy_stop
 refine sy_have (β := Option Addr × Nat × Option Addr × Nat × Option Addr × Nat × Option Addr × Nat × Nat) pl3_3_7fc20 (fun ⟨a1, c1, a2, c2, a5, c5, a3, c3, b11⟩ => ([(11, .pointer (some ⟨b11, 0, none⟩)), (43, g.v (g.sl a3 c3)), (41, .slice a5 l.length c5), (39, c.v (c.sl a2 c2)), (37, g.v (g.sl a1 c1)), (2, .slice al l.length cy), (3, .pointer (some ⟨b3, 0, none⟩)), (4, .pointer (some ⟨b4, 0, none⟩)), (36, g.v (g.sl ag cg)), (38, c.v (c.sl ah ch)), (40, .slice al l.length cy), (42, g.v (g.sl ag cg)), (44, c.v (c.sl ah ch))], (b11, cel 40 ([.int .i64 0, .int .i64 0, .slice none 0 0])) :: (b4, cel 27 (ctl c (c.sl ah ch))) :: (b3, cel 24 (gtl g (g.sl ag cg))) :: H, RowsA a3 5 (grows g.grs) :: RowsA a5 1 (irows l) :: RowsA a2 5 (hrows c.hs) :: RowsA a1 5 (grows g.grs) :: R, [(8, Ld Tryz.prog 27 ⟨b4, 0, none⟩ (c.v (c.sl ah ch)))])) (fun v9 => ?_) (fun h7fc20 => ?_)
 obtain ⟨a1, c1, a2, c2, a5, c5, a3, c3, b11⟩ := v9
 dsimp only
 unfold pl3_3_7fc20
 refine sy_any ?_
 refine sy_alt ?_ ?_
 refine cl rfl cal12 rfl rfl (c_come c ah ch (by omega) _ _) ?_
 rintro _ _ R1 ⟨a4, c4, rfl, rfl, hR1⟩
 obtain rfl := hR1.symm
 clear hR1
 refine bg (fun w hs => ⟨trivial, trivial⟩) ?_
 exact sy_to (h7fe20 (a1, c1, a2, c2, a5, c5, a3, c3, a4, c4, b11)) (by repeat' first | exact Sub.nil | apply Sub.cons | rfl | (simp [lk]; omega)) (fun _ h => St.sub (h.pull b11))
 refine sy_alt ?_ ?_
 refine alc rfl zl24 rfl (fun b7 => ?_)
 refine bg (fun w hs => ⟨((lhA (ctl c (c.sl ah ch)) ag27 rfl rfl rfl)) w hs, trivial⟩) ?_
 exact sy_to (h7fd20 (a1, c1, a2, c2, a5, c5, a3, c3, b7, b11)) (by repeat' first | exact Sub.nil | apply Sub.cons | rfl | (simp [lk]; omega)) (fun _ h => St.sub ((h.pull b7).pull b11))
 refine sy_alt ?_ ?_
 refine alc rfl zl27 rfl (fun b8 => ?_)
 refine bg (fun w hs => ⟨((lhA (ctl c (c.sl ah ch)) ag27 rfl rfl rfl)) w hs, trivial⟩) ?_
 exact sy_to (h7fca0 (a1, c1, a2, c2, a5, c5, a3, c3, b8, b11)) (by repeat' first | exact Sub.nil | apply Sub.cons | rfl | (simp [lk]; omega)) (fun _ h => St.sub ((h.pull b8).pull b11))
 refine sy_alt ?_ ?_
 refine alc rfl zl36 rfl (fun b10 => ?_)
 refine bg (fun w hs => ⟨((lhA (ctl c (c.sl ah ch)) ag27 rfl rfl rfl)) w hs, trivial⟩) ?_
 exact sy_to (h7fc60 (a1, c1, a2, c2, a5, c5, a3, c3, b10, b11)) (by repeat' first | exact Sub.nil | apply Sub.cons | rfl | (simp [lk]; omega)) (fun _ h => St.sub ((h.pull b10).pull b11))
 exact sy_stop
 refine sy_have (β := Option Addr × Nat × Option Addr × Nat × Option Addr × Nat × Nat × Nat × Nat × Nat) pl3_3_7f5e0 (fun ⟨a1, c1, a2, c2, a5, c5, b7, b8, b10, b11⟩ => ([(11, .pointer (some ⟨b11, 0, none⟩)), (10, .pointer (some ⟨b10, 0, none⟩)), (8, .pointer (some ⟨b8, 0, none⟩)), (7, .pointer (some ⟨b7, 0, none⟩)), (41, .slice a5 l.length c5), (39, c.v (c.sl a2 c2)), (37, g.v (g.sl a1 c1)), (2, .slice al l.length cy), (3, .pointer (some ⟨b3, 0, none⟩)), (4, .pointer (some ⟨b4, 0, none⟩)), (36, g.v (g.sl ag cg)), (38, c.v (c.sl ah ch)), (40, .slice al l.length cy), (42, g.v (g.sl ag cg)), (44, c.v (c.sl ah ch))], (b11, cel 40 ([.int .i64 0, .int .i64 0, .slice none 0 0])) :: (b10, cel 36 ([.int .i64 0, .int .i64 0, .slice none 0 0])) :: (b8, cel 27 ([.int .i64 0, .int .i64 0, .slice none 0 0])) :: (b7, cel 24 ([.int .i64 0, .int .i64 0, .slice none 0 0])) :: (b4, cel 27 (ctl c (c.sl ah ch))) :: (b3, cel 24 (gtl g (g.sl ag cg))) :: H, RowsA a5 1 (irows l) :: RowsA a2 5 (hrows c.hs) :: RowsA a1 5 (grows g.grs) :: R, [(8, Ld Tryz.prog 27 ⟨b4, 0, none⟩ (c.v (c.sl ah ch))), (6, Ld Tryz.prog 24 ⟨b3, 0, none⟩ (g.v (g.sl ag cg)))])) (fun v9 => ?_) (fun h7f5e0 => ?_)
 obtain ⟨a1, c1, a2, c2, a5, c5, b7, b8, b10, b11⟩ := v9
 dsimp only
 unfold pl3_3_7f5e0
 refine cl rfl cal11 rfl rfl (c_theirs g ag cg (by omega) _ _) ?_
 rintro _ _ R1 ⟨a3, c3, rfl, rfl, hR1⟩
 obtain rfl := hR1.symm
 clear hR1
 refine bg (fun w hs => ⟨((lhA (ctl c (c.sl ah ch)) ag27 rfl rfl rfl)) w hs, trivial, trivial⟩) ?_
 exact sy_to (h7fde0 (a1, c1, a2, c2, a5, c5, a3, c3, b7, b8, b10, b11)) (by repeat' first | exact Sub.nil | apply Sub.cons | rfl | (simp [lk]; omega)) (fun _ h => St.sub ((((h.pull b7).pull b8).pull b10).pull b11))
 refine sy_have (β := Option Addr × Nat × Option Addr × Nat × Option Addr × Nat × Nat × Nat × Nat) pl3_3_7f5c0 (fun ⟨a1, c1, a2, c2, a5, c5, b7, b8, b10⟩ => ([(10, .pointer (some ⟨b10, 0, none⟩)), (8, .pointer (some ⟨b8, 0, none⟩)), (7, .pointer (some ⟨b7, 0, none⟩)), (41, .slice a5 l.length c5), (39, c.v (c.sl a2 c2)), (37, g.v (g.sl a1 c1)), (2, .slice al l.length cy), (3, .pointer (some ⟨b3, 0, none⟩)), (4, .pointer (some ⟨b4, 0, none⟩)), (36, g.v (g.sl ag cg)), (38, c.v (c.sl ah ch)), (40, .slice al l.length cy), (42, g.v (g.sl ag cg)), (44, c.v (c.sl ah ch))], (b10, cel 36 ([.int .i64 0, .int .i64 0, .slice none 0 0])) :: (b8, cel 27 ([.int .i64 0, .int .i64 0, .slice none 0 0])) :: (b7, cel 24 ([.int .i64 0, .int .i64 0, .slice none 0 0])) :: (b4, cel 27 (ctl c (c.sl ah ch))) :: (b3, cel 24 (gtl g (g.sl ag cg))) :: H, RowsA a5 1 (irows l) :: RowsA a2 5 (hrows c.hs) :: RowsA a1 5 (grows g.grs) :: R, [(8, Ld Tryz.prog 27 ⟨b4, 0, none⟩ (c.v (c.sl ah ch))), (6, Ld Tryz.prog 24 ⟨b3, 0, none⟩ (g.v (g.sl ag cg)))])) (fun v9 => ?_) (fun h7f5c0 => ?_)
 obtain ⟨a1, c1, a2, c2, a5, c5, b7, b8, b10⟩ := v9
 dsimp only
 unfold pl3_3_7f5c0
 refine sy_any ?_
 refine sy_alt ?_ ?_
 refine cl rfl cal11 rfl rfl (c_theirs g ag cg (by omega) _ _) ?_
 rintro _ _ R1 ⟨a3, c3, rfl, rfl, hR1⟩
 obtain rfl := hR1.symm
 clear hR1
 refine bg (fun w hs => ⟨((lhA (ctl c (c.sl ah ch)) ag27 rfl rfl rfl)) w hs, trivial, trivial⟩) ?_
 exact sy_to (h7fdc0 (a1, c1, a2, c2, a5, c5, a3, c3, b7, b8, b10)) (by repeat' first | exact Sub.nil | apply Sub.cons | rfl | (simp [lk]; omega)) (fun _ h => St.sub (((h.pull b7).pull b8).pull b10))
 refine sy_alt ?_ ?_
 refine alc rfl zl40 rfl (fun b11 => ?_)
 refine bg (fun w hs => ⟨((lhA (ctl c (c.sl ah ch)) ag27 rfl rfl rfl)) w hs, ((lhA (gtl g (g.sl ag cg)) ag24 rfl rfl rfl)) w hs, trivial⟩) ?_
 exact sy_to (h7f5e0 (a1, c1, a2, c2, a5, c5, b7, b8, b10, b11)) (by repeat' first | exact Sub.nil | apply Sub.cons | rfl | (simp [lk]; omega)) (fun _ h => St.sub ((((h.pull b7).pull b8).pull b10).pull b11))
 exact sy_stop
 refine sy_have (β := Option Addr × Nat × Option Addr × Nat × Option Addr × Nat × Nat × Nat × Nat) pl3_3_7f5a0 (fun ⟨a1, c1, a2, c2, a5, c5, b7, b8, b11⟩ => ([(11, .pointer (some ⟨b11, 0, none⟩)), (8, .pointer (some ⟨b8, 0, none⟩)), (7, .pointer (some ⟨b7, 0, none⟩)), (41, .slice a5 l.length c5), (39, c.v (c.sl a2 c2)), (37, g.v (g.sl a1 c1)), (2, .slice al l.length cy), (3, .pointer (some ⟨b3, 0, none⟩)), (4, .pointer (some ⟨b4, 0, none⟩)), (36, g.v (g.sl ag cg)), (38, c.v (c.sl ah ch)), (40, .slice al l.length cy), (42, g.v (g.sl ag cg)), (44, c.v (c.sl ah ch))], (b11, cel 40 ([.int .i64 0, .int .i64 0, .slice none 0 0])) :: (b8, cel 27 ([.int .i64 0, .int .i64 0, .slice none 0 0])) :: (b7, cel 24 ([.int .i64 0, .int .i64 0, .slice none 0 0])) :: (b4, cel 27 (ctl c (c.sl ah ch))) :: (b3, cel 24 (gtl g (g.sl ag cg))) :: H, RowsA a5 1 (irows l) :: RowsA a2 5 (hrows c.hs) :: RowsA a1 5 (grows g.grs) :: R, [(8, Ld Tryz.prog 27 ⟨b4, 0, none⟩ (c.v (c.sl ah ch))), (6, Ld Tryz.prog 24 ⟨b3, 0, none⟩ (g.v (g.sl ag cg)))])) (fun v9 => ?_) (fun h7f5a0 => ?_)
 obtain ⟨a1, c1, a2, c2, a5, c5, b7, b8, b11⟩ := v9
 dsimp only
 unfold pl3_3_7f5a0
 refine sy_any ?_
 refine sy_alt ?_ ?_
 refine cl rfl cal11 rfl rfl (c_theirs g ag cg (by omega) _ _) ?_
 rintro _ _ R1 ⟨a3, c3, rfl, rfl, hR1⟩
 obtain rfl := hR1.symm
 clear hR1
 refine bg (fun w hs => ⟨((lhA (ctl c (c.sl ah ch)) ag27 rfl rfl rfl)) w hs, trivial, trivial⟩) ?_
 exact sy_to (h7fda0 (a1, c1, a2, c2, a5, c5, a3, c3, b7, b8, b11)) (by repeat' first | exact Sub.nil | apply Sub.cons | rfl | (simp [lk]; omega)) (fun _ h => St.sub (((h.pull b7).pull b8).pull b11))
 refine sy_alt ?_ ?_
 refine alc rfl zl36 rfl (fun b10 => ?_)
 refine bg (fun w hs => ⟨((lhA (ctl c (c.sl ah ch)) ag27 rfl rfl rfl)) w hs, ((lhA (gtl g (g.sl ag cg)) ag24 rfl rfl rfl)) w hs, trivial⟩) ?_
 exact sy_to (h7f5e0 (a1, c1, a2, c2, a5, c5, b7, b8, b10, b11)) (by repeat' first | exact Sub.nil | apply Sub.cons | rfl | (simp [lk]; omega)) (fun _ h => St.sub ((((h.pull b7).pull b8).pull b10).pull b11))
 exact sy_stop
 refine sy_have (β := Option Addr × Nat × Option Addr × Nat × Option Addr × Nat × Nat × Nat) pl3_3_7f580 (fun ⟨a1, c1, a2, c2, a5, c5, b7, b8⟩ => ([(8, .pointer (some ⟨b8, 0, none⟩)), (7, .pointer (some ⟨b7, 0, none⟩)), (41, .slice a5 l.length c5), (39, c.v (c.sl a2 c2)), (37, g.v (g.sl a1 c1)), (2, .slice al l.length cy), (3, .pointer (some ⟨b3, 0, none⟩)), (4, .pointer (some ⟨b4, 0, none⟩)), (36, g.v (g.sl ag cg)), (38, c.v (c.sl ah ch)), (40, .slice al l.length cy), (42, g.v (g.sl ag cg)), (44, c.v (c.sl ah ch))], (b8, cel 27 ([.int .i64 0, .int .i64 0, .slice none 0 0])) :: (b7, cel 24 ([.int .i64 0, .int .i64 0, .slice none 0 0])) :: (b4, cel 27 (ctl c (c.sl ah ch))) :: (b3, cel 24 (gtl g (g.sl ag cg))) :: H, RowsA a5 1 (irows l) :: RowsA a2 5 (hrows c.hs) :: RowsA a1 5 (grows g.grs) :: R, [(8, Ld Tryz.prog 27 ⟨b4, 0, none⟩ (c.v (c.sl ah ch))), (6, Ld Tryz.prog 24 ⟨b3, 0, none⟩ (g.v (g.sl ag cg)))])) (fun v9 => ?_) (fun h7f580 => ?_)
 obtain ⟨a1, c1, a2, c2, a5, c5, b7, b8⟩ := v9
 dsimp only
 unfold pl3_3_7f580
 refine sy_any ?_
 refine sy_alt ?_ ?_
 refine cl rfl cal11 rfl rfl (c_theirs g ag cg (by omega) _ _) ?_
 rintro _ _ R1 ⟨a3, c3, rfl, rfl, hR1⟩
 obtain rfl := hR1.symm
 clear hR1
 refine bg (fun w hs => ⟨((lhA (ctl c (c.sl ah ch)) ag27 rfl rfl rfl)) w hs, trivial, trivial⟩) ?_
 exact sy_to (h7fd80 (a1, c1, a2, c2, a5, c5, a3, c3, b7, b8)) (by repeat' first | exact Sub.nil | apply Sub.cons | rfl | (simp [lk]; omega)) (fun _ h => St.sub ((h.pull b7).pull b8))
 refine sy_alt ?_ ?_
 refine alc rfl zl36 rfl (fun b10 => ?_)
 refine bg (fun w hs => ⟨((lhA (ctl c (c.sl ah ch)) ag27 rfl rfl rfl)) w hs, ((lhA (gtl g (g.sl ag cg)) ag24 rfl rfl rfl)) w hs, trivial⟩) ?_
 exact sy_to (h7f5c0 (a1, c1, a2, c2, a5, c5, b7, b8, b10)) (by repeat' first | exact Sub.nil | apply Sub.cons | rfl | (simp [lk]; omega)) (fun _ h => St.sub (((h.pull b7).pull b8).pull b10))
 refine sy_alt ?_ ?_
 refine alc rfl zl40 rfl (fun b11 => ?_)
 refine bg (fun w hs => ⟨((lhA (ctl c (c.sl ah ch)) ag27 rfl rfl rfl)) w hs, ((lhA (gtl g (g.sl ag cg)) ag24 rfl rfl rfl)) w hs, trivial⟩) ?_
 exact sy_to (h7f5a0 (a1, c1, a2, c2, a5, c5, b7, b8, b11)) (by repeat' first | exact Sub.nil | apply Sub.cons | rfl | (simp [lk]; omega)) (fun _ h => St.sub (((h.pull b7).pull b8).pull b11))
 exact sy_stop
 refine sy_have (β := Option Addr × Nat × Option Addr × Nat × Option Addr × Nat × Nat × Nat × Nat) pl3_3_7f560 (fun ⟨a1, c1, a2, c2, a5, c5, b7, b10, b11⟩ => ([(11, .pointer (some ⟨b11, 0, none⟩)), (10, .pointer (some ⟨b10, 0, none⟩)), (7, .pointer (some ⟨b7, 0, none⟩)), (41, .slice a5 l.length c5), (39, c.v (c.sl a2 c2)), (37, g.v (g.sl a1 c1)), (2, .slice al l.length cy), (3, .pointer (some ⟨b3, 0, none⟩)), (4, .pointer (some ⟨b4, 0, none⟩)), (36, g.v (g.sl ag cg)), (38, c.v (c.sl ah ch)), (40, .slice al l.length cy), (42, g.v (g.sl ag cg)), (44, c.v (c.sl ah ch))], (b11, cel 40 ([.int .i64 0, .int .i64 0, .slice none 0 0])) :: (b10, cel 36 ([.int .i64 0, .int .i64 0, .slice none 0 0])) :: (b7, cel 24 ([.int .i64 0, .int .i64 0, .slice none 0 0])) :: (b4, cel 27 (ctl c (c.sl ah ch))) :: (b3, cel 24 (gtl g (g.sl ag cg))) :: H, RowsA a5 1 (irows l) :: RowsA a2 5 (hrows c.hs) :: RowsA a1 5 (grows g.grs) :: R, [(8, Ld Tryz.prog 27 ⟨b4, 0, none⟩ (c.v (c.sl ah ch))), (6, Ld Tryz.prog 24 ⟨b3, 0, none⟩ (g.v (g.sl ag cg)))])) (fun v9 => ?_) (fun h7f560 => ?_)
 obtain ⟨a1, c1, a2, c2, a5, c5, b7, b10, b11⟩ := v9
 dsimp only
 unfold pl3_3_7f560
 refine sy_any ?_
 refine sy_alt ?_ ?_
 refine cl rfl cal11 rfl rfl (c_theirs g ag cg (by omega) _ _) ?_
 rintro _ _ R1 ⟨a3, c3, rfl, rfl, hR1⟩
 obtain rfl := hR1.symm
 clear hR1
 refine bg (fun w hs => ⟨((lhA (ctl c (c.sl ah ch)) ag27 rfl rfl rfl)) w hs, trivial, trivial⟩) ?_
 exact sy_to (h7fd60 (a1, c1, a2, c2, a5, c5, a3, c3, b7, b10, b11)) (by repeat' first | exact Sub.nil | apply Sub.cons | rfl | (simp [lk]; omega)) (fun _ h => St.sub (((h.pull b7).pull b10).pull b11))
 refine sy_alt ?_ ?_
 refine alc rfl zl27 rfl (fun b8 => ?_)
 refine bg (fun w hs => ⟨((lhA (ctl c (c.sl ah ch)) ag27 rfl rfl rfl)) w hs, ((lhA (gtl g (g.sl ag cg)) ag24 rfl rfl rfl)) w hs, trivial⟩) ?_
 exact sy_to (h7f5e0 (a1, c1, a2, c2, a5, c5, b7, b8, b10, b11)) (by repeat' first | exact Sub.nil | apply Sub.cons | rfl | (simp [lk]; omega)) (fun _ h => St.sub ((((h.pull b7).pull b8).pull b10).pull b11))
 exact sy_stop
 refine sy_have (β := Option Addr × Nat × Option Addr × Nat × Option Addr × Nat × Nat × Nat) pl3_3_7f540 (fun ⟨a1, c1, a2, c2, a5, c5, b7, b10⟩ => ([(10, .pointer (some ⟨b10, 0, none⟩)), (7, .pointer (some ⟨b7, 0, none⟩)), (41, .slice a5 l.length c5), (39, c.v (c.sl a2 c2)), (37, g.v (g.sl a1 c1)), (2, .slice al l.length cy), (3, .pointer (some ⟨b3, 0, none⟩)), (4, .pointer (some ⟨b4, 0, none⟩)), (36, g.v (g.sl ag cg)), (38, c.v (c.sl ah ch)), (40, .slice al l.length cy), (42, g.v (g.sl ag cg)), (44, c.v (c.sl ah ch))], (b10, cel 36 ([.int .i64 0, .int .i64 0, .slice none 0 0])) :: (b7, cel 24 ([.int .i64 0, .int .i64 0, .slice none 0 0])) :: (b4, cel 27 (ctl c (c.sl ah ch))) :: (b3, cel 24 (gtl g (g.sl ag cg))) :: H, RowsA a5 1 (irows l) :: RowsA a2 5 (hrows c.hs) :: RowsA a1 5 (grows g.grs) :: R, [(8, Ld Tryz.prog 27 ⟨b4, 0, none⟩ (c.v (c.sl ah ch))), (6, Ld Tryz.prog 24 ⟨b3, 0, none⟩ (g.v (g.sl ag cg)))])) (fun v9 => ?_) (fun h7f540 => ?_)
 obtain ⟨a1, c1, a2, c2, a5, c5, b7, b10⟩ := v9
 dsimp only
 unfold pl3_3_7f540
 refine sy_any ?_
 refine sy_alt ?_ ?_
 refine cl rfl cal11 rfl rfl (c_theirs g ag cg (by omega) _ _) ?_
 rintro _ _ R1 ⟨a3, c3, rfl, rfl, hR1⟩
 obtain rfl := hR1.symm
 clear hR1
 refine bg (fun w hs => ⟨((lhA (ctl c (c.sl ah ch)) ag27 rfl rfl rfl)) w hs, trivial, trivial⟩) ?_
 exact sy_to (h7fd40 (a1, c1, a2, c2, a5, c5, a3, c3, b7, b10)) (by repeat' first | exact Sub.nil | apply Sub.cons | rfl | (simp [lk]; omega)) (fun _ h => St.sub ((h.pull b7).pull b10))
 refine sy_alt ?_ ?_
 refine alc rfl zl27 rfl (fun b8 => ?_)
 refine bg (fun w hs => ⟨((lhA (ctl c (c.sl ah ch)) ag27 rfl rfl rfl)) w hs, ((lhA (gtl g (g.sl ag cg)) ag24 rfl rfl rfl)) w hs, trivial⟩) ?_
 exact sy_to (h7f5c0 (a1, c1, a2, c2, a5, c5, b7, b8, b10)) (by repeat' first | exact Sub.nil | apply Sub.cons | rfl | (simp [lk]; omega)) (fun _ h => St.sub (((h.pull b7).pull b8).pull b10))
 refine sy_alt ?_ ?_
 refine alc rfl zl40 rfl (fun b11 => ?_)
 refine bg (fun w hs => ⟨((lhA (ctl c (c.sl ah ch)) ag27 rfl rfl rfl)) w hs, ((lhA (gtl g (g.sl ag cg)) ag24 rfl rfl rfl)) w hs, trivial⟩) ?_
 exact sy_to (h7f560 (a1, c1, a2, c2, a5, c5, b7, b10, b11)) (by repeat' first | exact Sub.nil | apply Sub.cons | rfl | (simp [lk]; omega)) (fun _ h => St.sub (((h.pull b7).pull b10).pull b11))
 exact sy_stop
 refine sy_have (β := Option Addr × Nat × Option Addr × Nat × Option Addr × Nat × Nat × Nat) pl3_3_7f520 (fun ⟨a1, c1, a2, c2, a5, c5, b7, b11⟩ => ([(11, .pointer (some ⟨b11, 0, none⟩)), (7, .pointer (some ⟨b7, 0, none⟩)), (41, .slice a5 l.length c5), (39, c.v (c.sl a2 c2)), (37, g.v (g.sl a1 c1)), (2, .slice al l.length cy), (3, .pointer (some ⟨b3, 0, none⟩)), (4, .pointer (some ⟨b4, 0, none⟩)), (36, g.v (g.sl ag cg)), (38, c.v (c.sl ah ch)), (40, .slice al l.length cy), (42, g.v (g.sl ag cg)), (44, c.v (c.sl ah ch))], (b11, cel 40 ([.int .i64 0, .int .i64 0, .slice none 0 0])) :: (b7, cel 24 ([.int .i64 0, .int .i64 0, .slice none 0 0])) :: (b4, cel 27 (ctl c (c.sl ah ch))) :: (b3, cel 24 (gtl g (g.sl ag cg))) :: H, RowsA a5 1 (irows l) :: RowsA a2 5 (hrows c.hs) :: RowsA a1 5 (grows g.grs) :: R, [(8, Ld Tryz.prog 27 ⟨b4, 0, none⟩ (c.v (c.sl ah ch))), (6, Ld Tryz.prog 24 ⟨b3, 0, none⟩ (g.v (g.sl ag cg)))])) (fun v9 => ?_) (fun h7f520 => ?_)
 obtain ⟨a1, c1, a2, c2, a5, c5, b7, b11⟩ := v9
 dsimp only
 unfold pl3_3_7f520
 refine sy_any ?_
 refine sy_alt ?_ ?_
 refine cl rfl cal11 rfl rfl (c_theirs g ag cg (by omega) _ _) ?_
 rintro _ _ R1 ⟨a3, c3, rfl, rfl, hR1⟩
 obtain rfl := hR1.symm
 clear hR1
 refine bg (fun w hs => ⟨((lhA (ctl c (c.sl ah ch)) ag27 rfl rfl rfl)) w hs, trivial, trivial⟩) ?_
 exact sy_to (h7fd20 (a1, c1, a2, c2, a5, c5, a3, c3, b7, b11)) (by repeat' first | exact Sub.nil | apply Sub.cons | rfl | (simp [lk]; omega)) (fun _ h => St.sub ((h.pull b7).pull b11))
 refine sy_alt ?_ ?_
 refine alc rfl zl27 rfl (fun b8 => ?_)
 refine bg (fun w hs => ⟨((lhA (ctl c (c.sl ah ch)) ag27 rfl rfl rfl)) w hs, ((lhA (gtl g (g.sl ag cg)) ag24 rfl rfl rfl)) w hs, trivial⟩) ?_
 exact sy_to (h7f5a0 (a1, c1, a2, c2, a5, c5, b7, b8, b11)) (by repeat' first | exact Sub.nil | apply Sub.cons | rfl | (simp [lk]; omega)) (fun _ h => St.sub (((h.pull b7).pull b8).pull b11))
 refine sy_alt ?_ ?_
 refine alc rfl zl36 rfl (fun b10 => ?_)
 refine bg (fun w hs => ⟨((lhA (ctl c (c.sl ah ch)) ag27 rfl rfl rfl)) w hs, ((lhA (gtl g (g.sl ag cg)) ag24 rfl rfl rfl)) w hs, trivial⟩) ?_
 exact sy_to (h7f560 (a1, c1, a2, c2, a5, c5, b7, b10, b11)) (by repeat' first | exact Sub.nil | apply Sub.cons | rfl | (simp [lk]; omega)) (fun _ h => St.sub (((h.pull b7).pull b10).pull b11))
 exact sy_stop
 refine sy_have (β := Option Addr × Nat × Option Addr × Nat × Option Addr × Nat × Nat) pl3_3_7f500 (fun ⟨a1, c1, a2, c2, a5, c5, b7⟩ => ([(7, .pointer (some ⟨b7, 0, none⟩)), (41, .slice a5 l.length c5), (39, c.v (c.sl a2 c2)), (37, g.v (g.sl a1 c1)), (2, .slice al l.length cy), (3, .pointer (some ⟨b3, 0, none⟩)), (4, .pointer (some ⟨b4, 0, none⟩)), (36, g.v (g.sl ag cg)), (38, c.v (c.sl ah ch)), (40, .slice al l.length cy), (42, g.v (g.sl ag cg)), (44, c.v (c.sl ah ch))], (b7, cel 24 ([.int .i64 0, .int .i64 0, .slice none 0 0])) :: (b4, cel 27 (ctl c (c.sl ah ch))) :: (b3, cel 24 (gtl g (g.sl ag cg))) :: H, RowsA a5 1 (irows l) :: RowsA a2 5 (hrows c.hs) :: RowsA a1 5 (grows g.grs) :: R, [(8, Ld Tryz.prog 27 ⟨b4, 0, none⟩ (c.v (c.sl ah ch))), (6, Ld Tryz.prog 24 ⟨b3, 0, none⟩ (g.v (g.sl ag cg)))])) (fun v9 => ?_) (fun h7f500 => ?_)
 obtain ⟨a1, c1, a2, c2, a5, c5, b7⟩ := v9
 dsimp only
 unfold pl3_3_7f500
 refine sy_any ?_
 refine sy_alt ?_ ?_
 refine cl rfl cal11 rfl rfl (c_theirs g ag cg (by omega) _ _) ?_
 rintro _ _ R1 ⟨a3, c3, rfl, rfl, hR1⟩
 obtain rfl := hR1.symm
 clear hR1
 refine bg (fun w hs => ⟨((lhA (ctl c (c.sl ah ch)) ag27 rfl rfl rfl)) w hs, trivial, trivial⟩) ?_
 exact sy_to (h7fd00 (a1, c1, a2, c2, a5, c5, a3, c3, b7)) (by repeat' first | exact Sub.nil | apply Sub.cons | rfl | (simp [lk]; omega)) (fun _ h => St.sub (h.pull b7))
 refine sy_alt ?_ ?_
 refine alc rfl zl27 rfl (fun b8 => ?_)
 refine bg (fun w hs => ⟨((lhA (ctl c (c.sl ah ch)) ag27 rfl rfl rfl)) w hs, ((lhA (gtl g (g.sl ag cg)) ag24 rfl rfl rfl)) w hs, trivial⟩) ?_
 exact sy_to (h7f580 (a1, c1, a2, c2, a5, c5, b7, b8)) (by repeat' first | exact Sub.nil | apply Sub.cons | rfl | (simp [lk]; omega)) (fun _ h => St.sub ((h.pull b7).pull b8))
 refine sy_alt ?_ ?_
 refine alc rfl zl36 rfl (fun b10 => ?_)
 refine bg (fun w hs => ⟨((lhA (ctl c (c.sl ah ch)) ag27 rfl rfl rfl)) w hs, ((lhA (gtl g (g.sl ag cg)) ag24 rfl rfl rfl)) w hs, trivial⟩) ?_
 exact sy_to (h7f540 (a1, c1, a2, c2, a5, c5, b7, b10)) (by repeat' first | exact Sub.nil | apply Sub.cons | rfl | (simp [lk]; omega)) (fun _ h => St.sub ((h.pull b7).pull b10))
 refine sy_alt ?_ ?_
 refine alc rfl zl40 rfl (fun b11 => ?_)
 refine bg (fun w hs => ⟨((lhA (ctl c (c.sl ah ch)) ag27 rfl rfl rfl)) w hs, ((lhA (gtl g (g.sl ag cg)) ag24 rfl rfl rfl)) w hs, trivial⟩) ?_
 exact sy_to (h7f520 (a1, c1, a2, c2, a5, c5, b7, b11)) (by repeat' first | exact Sub.nil | apply Sub.cons | rfl | (simp [lk]; omega)) (fun _ h => St.sub ((h.pull b7).pull b11))
 exact sy_stop
 refine sy_have (β := Option Addr × Nat × Option Addr × Nat × Option Addr × Nat × Nat × Nat × Nat) pl3_3_7f4e0 (fun ⟨a1, c1, a2, c2, a5, c5, b8, b10, b11⟩ => ([(11, .pointer (some ⟨b11, 0, none⟩)), (10, .pointer (some ⟨b10, 0, none⟩)), (8, .pointer (some ⟨b8, 0, none⟩)), (41, .slice a5 l.length c5), (39, c.v (c.sl a2 c2)), (37, g.v (g.sl a1 c1)), (2, .slice al l.length cy), (3, .pointer (some ⟨b3, 0, none⟩)), (4, .pointer (some ⟨b4, 0, none⟩)), (36, g.v (g.sl ag cg)), (38, c.v (c.sl ah ch)), (40, .slice al l.length cy), (42, g.v (g.sl ag cg)), (44, c.v (c.sl ah ch))], (b11, cel 40 ([.int .i64 0, .int .i64 0, .slice none 0 0])) :: (b10, cel 36 ([.int .i64 0, .int .i64 0, .slice none 0 0])) :: (b8, cel 27 ([.int .i64 0, .int .i64 0, .slice none 0 0])) :: (b4, cel 27 (ctl c (c.sl ah ch))) :: (b3, cel 24 (gtl g (g.sl ag cg))) :: H, RowsA a5 1 (irows l) :: RowsA a2 5 (hrows c.hs) :: RowsA a1 5 (grows g.grs) :: R, [(8, Ld Tryz.prog 27 ⟨b4, 0, none⟩ (c.v (c.sl ah ch))), (6, Ld Tryz.prog 24 ⟨b3, 0, none⟩ (g.v (g.sl ag cg)))])) (fun v9 => ?_) (fun h7f4e0 => ?_)
 obtain ⟨a1, c1, a2, c2, a5, c5, b8, b10, b11⟩ := v9
 dsimp only
 unfold pl3_3_7f4e0
 refine sy_any ?_
 refine sy_alt ?_ ?_
 refine cl rfl cal11 rfl rfl (c_theirs g ag cg (by omega) _ _) ?_
 rintro _ _ R1 ⟨a3, c3, rfl, rfl, hR1⟩
 obtain rfl := hR1.symm
 clear hR1
 refine bg (fun w hs => ⟨((lhA (ctl c (c.sl ah ch)) ag27 rfl rfl rfl)) w hs, trivial, trivial⟩) ?_
 exact sy_to (h7fce0 (a1, c1, a2, c2, a5, c5, a3, c3, b8, b10, b11)) (by repeat' first | exact Sub.nil | apply Sub.cons | rfl | (simp [lk]; omega)) (fun _ h => St.sub (((h.pull b8).pull b10).pull b11))
 refine sy_alt ?_ ?_
 refine alc rfl zl24 rfl (fun b7 => ?_)
 refine bg (fun w hs => ⟨((lhA (ctl c (c.sl ah ch)) ag27 rfl rfl rfl)) w hs, ((lhA (gtl g (g.sl ag cg)) ag24 rfl rfl rfl)) w hs, trivial⟩) ?_
 exact sy_to (h7f5e0 (a1, c1, a2, c2, a5, c5, b7, b8, b10, b11)) (by repeat' first | exact Sub.nil | apply Sub.cons | rfl | (simp [lk]; omega)) (fun _ h => St.sub ((((h.pull b7).pull b8).pull b10).pull b11))
 exact sy_stop
 refine sy_have (β := Option Addr × Nat × Option Addr × Nat × Option Addr × Nat × Nat × Nat) pl3_3_7f4c0 (fun ⟨a1, c1, a2, c2, a5, c5, b8, b10⟩ => ([(10, .pointer (some ⟨b10, 0, none⟩)), (8, .pointer (some ⟨b8, 0, none⟩)), (41, .slice a5 l.length c5), (39, c.v (c.sl a2 c2)), (37, g.v (g.sl a1 c1)), (2, .slice al l.length cy), (3, .pointer (some ⟨b3, 0, none⟩)), (4, .pointer (some ⟨b4, 0, none⟩)), (36, g.v (g.sl ag cg)), (38, c.v (c.sl ah ch)), (40, .slice al l.length cy), (42, g.v (g.sl ag cg)), (44, c.v (c.sl ah ch))], (b10, cel 36 ([.int .i64 0, .int .i64 0, .slice none 0 0])) :: (b8, cel 27 ([.int .i64 0, .int .i64 0, .slice none 0 0])) :: (b4, cel 27 (ctl c (c.sl ah ch))) :: (b3, cel 24 (gtl g (g.sl ag cg))) :: H, RowsA a5 1 (irows l) :: RowsA a2 5 (hrows c.hs) :: RowsA a1 5 (grows g.grs) :: R, [(8, Ld Tryz.prog 27 ⟨b4, 0, none⟩ (c.v (c.sl ah ch))), (6, Ld Tryz.prog 24 ⟨b3, 0, none⟩ (g.v (g.sl ag cg)))])) (fun v9 => ?_) (fun h7f4c0 => ?_)
 obtain ⟨a1, c1, a2, c2, a5, c5, b8, b10⟩ := v9
 dsimp only
 unfold pl3_3_7f4c0
 refine sy_any ?_
 refine sy_alt ?_ ?_
 refine cl rfl cal11 rfl rfl (c_theirs g ag cg (by omega) _ _) ?_
 rintro _ _ R1 ⟨a3, c3, rfl, rfl, hR1⟩
 obtain rfl := hR1.symm
 clear hR1
 refine bg (fun w hs => ⟨((lhA (ctl c (c.sl ah ch)) ag27 rfl rfl rfl)) w hs, trivial, trivial⟩) ?_
 exact sy_to (h7fcc0 (a1, c1, a2, c2, a5, c5, a3, c3, b8, b10)) (by repeat' first | exact Sub.nil | apply Sub.cons | rfl | (simp [lk]; omega)) (fun _ h => St.sub ((h.pull b8).pull b10))
 refine sy_alt ?_ ?_
 refine alc rfl zl24 rfl (fun b7 => ?_)
 refine bg (fun w hs => ⟨((lhA (ctl c (c.sl ah ch)) ag27 rfl rfl rfl)) w hs, ((lhA (gtl g (g.sl ag cg)) ag24 rfl rfl rfl)) w hs, trivial⟩) ?_
 exact sy_to (h7f5c0 (a1, c1, a2, c2, a5, c5, b7, b8, b10)) (by repeat' first | exact Sub.nil | apply Sub.cons | rfl | (simp [lk]; omega)) (fun _ h => St.sub (((h.pull b7).pull b8).pull b10))
 refine sy_alt ?_ ?_
 refine alc rfl zl40 rfl (fun b11 => ?_)
 refine bg (fun w hs => ⟨((lhA (ctl c (c.sl ah ch)) ag27 rfl rfl rfl)) w hs, ((lhA (gtl g (g.sl ag cg)) ag24 rfl rfl rfl)) w hs, trivial⟩) ?_
 exact sy_to (h7f4e0 (a1, c1, a2, c2, a5, c5, b8, b10, b11)) (by repeat' first | exact Sub.nil | apply Sub.cons | rfl | (simp [lk]; omega)) (fun _ h => St.sub (((h.pull b8).pull b10).pull b11))
 exact sy_stop
 refine sy_have (β := Option Addr × Nat × Option Addr × Nat × Option Addr × Nat × Nat × Nat) pl3_3_7f4a0 (fun ⟨a1, c1, a2, c2, a5, c5, b8, b11⟩ => ([(11, .pointer (some ⟨b11, 0, none⟩)), (8, .pointer (some ⟨b8, 0, none⟩)), (41, .slice a5 l.length c5), (39, c.v (c.sl a2 c2)), (37, g.v (g.sl a1 c1)), (2, .slice al l.length cy), (3, .pointer (some ⟨b3, 0, none⟩)), (4, .pointer (some ⟨b4, 0, none⟩)), (36, g.v (g.sl ag cg)), (38, c.v (c.sl ah ch)), (40, .slice al l.length cy), (42, g.v (g.sl ag cg)), (44, c.v (c.sl ah ch))], (b11, cel 40 ([.int .i64 0, .int .i64 0, .slice none 0 0])) :: (b8, cel 27 ([.int .i64 0, .int .i64 0, .slice none 0 0])) :: (b4, cel 27 (ctl c (c.sl ah ch))) :: (b3, cel 24 (gtl g (g.sl ag cg))) :: H, RowsA a5 1 (irows l) :: RowsA a2 5 (hrows c.hs) :: RowsA a1 5 (grows g.grs) :: R, [(8, Ld Tryz.prog 27 ⟨b4, 0, none⟩ (c.v (c.sl ah ch))), (6, Ld Tryz.prog 24 ⟨b3, 0, none⟩ (g.v (g.sl ag cg)))])) (fun v9 => ?_) (fun h7f4a0 => ?_)
 obtain ⟨a1, c1, a2, c2, a5, c5, b8, b11⟩ := v9
 dsimp only
 unfold pl3_3_7f4a0
 refine sy_any ?_
 refine sy_alt ?_ ?_
 refine cl rfl cal11 rfl rfl (c_theirs g ag cg (by omega) _ _) ?_
 rintro _ _ R1 ⟨a3, c3, rfl, rfl, hR1⟩
 obtain rfl := hR1.symm
 clear hR1
 refine bg (fun w hs => ⟨((lhA (ctl c (c.sl ah ch)) ag27 rfl rfl rfl)) w hs, trivial, trivial⟩) ?_
 exact sy_to (h7fca0 (a1, c1, a2, c2, a5, c5, a3, c3, b8, b11)) (by repeat' first | exact Sub.nil | apply Sub.cons | rfl | (simp [lk]; omega)) (fun _ h => St.sub ((h.pull b8).pull b11))
 refine sy_alt ?_ ?_
 refine alc rfl zl24 rfl (fun b7 => ?_)
 refine bg (fun w hs => ⟨((lhA (ctl c (c.sl ah ch)) ag27 rfl rfl rfl)) w hs, ((lhA (gtl g (g.sl ag cg)) ag24 rfl rfl rfl)) w hs, trivial⟩) ?_
 exact sy_to (h7f5a0 (a1, c1, a2, c2, a5, c5, b7, b8, b11)) (by repeat' first | exact Sub.nil | apply Sub.cons | rfl | (simp [lk]; omega)) (fun _ h => St.sub (((h.pull b7).pull b8).pull b11))
 refine sy_alt ?_ ?_
 refine alc rfl zl36 rfl (fun b10 => ?_)
 refine bg (fun w hs => ⟨((lhA (ctl c (c.sl ah ch)) ag27 rfl rfl rfl)) w hs, ((lhA (gtl g (g.sl ag cg)) ag24 rfl rfl rfl)) w hs, trivial⟩) ?_
 exact sy_to (h7f4e0 (a1, c1, a2, c2, a5, c5, b8, b10, b11)) (by repeat' first | exact Sub.nil | apply Sub.cons | rfl | (simp [lk]; omega)) (fun _ h => St.sub (((h.pull b8).pull b10).pull b11))
 exact sy_stop
 refine sy_have (β := Option Addr × Nat × Option Addr × Nat × Option Addr × Nat × Nat) pl3_3_7f480 (fun ⟨a1, c1, a2, c2, a5, c5, b8⟩ => ([(8, .pointer (some ⟨b8, 0, none⟩)), (41, .slice a5 l.length c5), (39, c.v (c.sl a2 c2)), (37, g.v (g.sl a1 c1)), (2, .slice al l.length cy), (3, .pointer (some ⟨b3, 0, none⟩)), (4, .pointer (some ⟨b4, 0, none⟩)), (36, g.v (g.sl ag cg)), (38, c.v (c.sl ah ch)), (40, .slice al l.length cy), (42, g.v (g.sl ag cg)), (44, c.v (c.sl ah ch))], (b8, cel 27 ([.int .i64 0, .int .i64 0, .slice none 0 0])) :: (b4, cel 27 (ctl c (c.sl ah ch))) :: (b3, cel 24 (gtl g (g.sl ag cg))) :: H, RowsA a5 1 (irows l) :: RowsA a2 5 (hrows c.hs) :: RowsA a1 5 (grows g.grs) :: R, [(8, Ld Tryz.prog 27 ⟨b4, 0, none⟩ (c.v (c.sl ah ch))), (6, Ld Tryz.prog 24 ⟨b3, 0, none⟩ (g.v (g.sl ag cg)))])) (fun v9 => ?_) (fun h7f480 => ?_)
 obtain ⟨a1, c1, a2, c2, a5, c5, b8⟩ := v9
 dsimp only
 unfold pl3_3_7f480
 refine sy_any ?_
 refine sy_alt ?_ ?_
 refine cl rfl cal11 rfl rfl (c_theirs g ag cg (by omega) _ _) ?_
 rintro _ _ R1 ⟨a3, c3, rfl, rfl, hR1⟩
 obtain rfl := hR1.symm
 clear hR1
 refine bg (fun w hs => ⟨((lhA (ctl c (c.sl ah ch)) ag27 rfl rfl rfl)) w hs, trivial, trivial⟩) ?_
 exact sy_to (h7fc80 (a1, c1, a2, c2, a5, c5, a3, c3, b8)) (by repeat' first | exact Sub.nil | apply Sub.cons | rfl | (simp [lk]; omega)) (fun _ h => St.sub (h.pull b8))
 refine sy_alt ?_ ?_
 refine alc rfl zl24 rfl (fun b7 => ?_)
 refine bg (fun w hs => ⟨((lhA (ctl c (c.sl ah ch)) ag27 rfl rfl rfl)) w hs, ((lhA (gtl g (g.sl ag cg)) ag24 rfl rfl rfl)) w hs, trivial⟩) ?_
 exact sy_to (h7f580 (a1, c1, a2, c2, a5, c5, b7, b8)) (by repeat' first | exact Sub.nil | apply Sub.cons | rfl | (simp [lk]; omega)) (fun _ h => St.sub ((h.pull b7).pull b8))
 refine sy_alt ?_ ?_
 refine alc rfl zl36 rfl (fun b10 => ?_)
 refine bg (fun w hs => ⟨((lhA (ctl c (c.sl ah ch)) ag27 rfl rfl rfl)) w hs, ((lhA (gtl g (g.sl ag cg)) ag24 rfl rfl rfl)) w hs, trivial⟩) ?_
 exact sy_to (h7f4c0 (a1, c1, a2, c2, a5, c5, b8, b10)) (by repeat' first | exact Sub.nil | apply Sub.cons | rfl | (simp [lk]; omega)) (fun _ h => St.sub ((h.pull b8).pull b10))
 refine sy_alt ?_ ?_
 refine alc rfl zl40 rfl (fun b11 => ?_)
 refine bg (fun w hs => ⟨((lhA (ctl c (c.sl ah ch)) ag27 rfl rfl rfl)) w hs, ((lhA (gtl g (g.sl ag cg)) ag24 rfl rfl rfl)) w hs, trivial⟩) ?_
 exact sy_to (h7f4a0 (a1, c1, a2, c2, a5, c5, b8, b11)) (by repeat' first | exact Sub.nil | apply Sub.cons | rfl | (simp [lk]; omega)) (fun _ h => St.sub ((h.pull b8).pull b11))
 exact sy_stop
 refine sy_have (β := Option Addr × Nat × Option Addr × Nat × Option Addr × Nat × Nat × Nat) pl3_3_7f460 (fun ⟨a1, c1, a2, c2, a5, c5, b10, b11⟩ => ([(11, .pointer (some ⟨b11, 0, none⟩)), (10, .pointer (some ⟨b10, 0, none⟩)), (41, .slice a5 l.length c5), (39, c.v (c.sl a2 c2)), (37, g.v (g.sl a1 c1)), (2, .slice al l.length cy), (3, .pointer (some ⟨b3, 0, none⟩)), (4, .pointer (some ⟨b4, 0, none⟩)), (36, g.v (g.sl ag cg)), (38, c.v (c.sl ah ch)), (40, .slice al l.length cy), (42, g.v (g.sl ag cg)), (44, c.v (c.sl ah ch))], (b11, cel 40 ([.int .i64 0, .int .i64 0, .slice none 0 0])) :: (b10, cel 36 ([.int .i64 0, .int .i64 0, .slice none 0 0])) :: (b4, cel 27 (ctl c (c.sl ah ch))) :: (b3, cel 24 (gtl g (g.sl ag cg))) :: H, RowsA a5 1 (irows l) :: RowsA a2 5 (hrows c.hs) :: RowsA a1 5 (grows g.grs) :: R, [(8, Ld Tryz.prog 27 ⟨b4, 0, none⟩ (c.v (c.sl ah ch))), (6, Ld Tryz.prog 24 ⟨b3, 0, none⟩ (g.v (g.sl ag cg)))])) (fun v9 => ?_) (fun h7f460 => ?_)
 obtain ⟨a1, c1, a2, c2, a5, c5, b10, b11⟩ := v9
 dsimp only
 unfold pl3_3_7f460
 refine sy_any ?_
 refine sy_alt ?_ ?_
 refine cl rfl cal11 rfl rfl (c_theirs g ag cg (by omega) _ _) ?_
 rintro _ _ R1 ⟨a3, c3, rfl, rfl, hR1⟩
 obtain rfl := hR1.symm
 clear hR1
 refine bg (fun w hs => ⟨((lhA (ctl c (c.sl ah ch)) ag27 rfl rfl rfl)) w hs, trivial, trivial⟩) ?_
 exact sy_to (h7fc60 (a1, c1, a2, c2, a5, c5, a3, c3, b10, b11)) (by repeat' first | exact Sub.nil | apply Sub.cons | rfl | (simp [lk]; omega)) (fun _ h => St.sub ((h.pull b10).pull b11))
 refine sy_alt ?_ ?_
 refine alc rfl zl24 rfl (fun b7 => ?_)
 refine bg (fun w hs => ⟨((lhA (ctl c (c.sl ah ch)) ag27 rfl rfl rfl)) w hs, ((lhA (gtl g (g.sl ag cg)) ag24 rfl rfl rfl)) w hs, trivial⟩) ?_
 exact sy_to (h7f560 (a1, c1, a2, c2, a5, c5, b7, b10, b11)) (by repeat' first | exact Sub.nil | apply Sub.cons | rfl | (simp [lk]; omega)) (fun _ h => St.sub (((h.pull b7).pull b10).pull b11))
 refine sy_alt ?_ ?_
 refine alc rfl zl27 rfl (fun b8 => ?_)
 refine bg (fun w hs => ⟨((lhA (ctl c (c.sl ah ch)) ag27 rfl rfl rfl)) w hs, ((lhA (gtl g (g.sl ag cg)) ag24 rfl rfl rfl)) w hs, trivial⟩) ?_
 exact sy_to (h7f4e0 (a1, c1, a2, c2, a5, c5, b8, b10, b11)) (by repeat' first | exact Sub.nil | apply Sub.cons | rfl | (simp [lk]; omega)) (fun _ h => St.sub (((h.pull b8).pull b10).pull b11))
 exact sy_stop
 refine sy_have (β := Option Addr × Nat × Option Addr × Nat × Option Addr × Nat × Nat) pl3_3_7f440 (fun ⟨a1, c1, a2, c2, a5, c5, b10⟩ => ([(10, .pointer (some ⟨b10, 0, none⟩)), (41, .slice a5 l.length c5), (39, c.v (c.sl a2 c2)), (37, g.v (g.sl a1 c1)), (2, .slice al l.length cy), (3, .pointer (some ⟨b3, 0, none⟩)), (4, .pointer (some ⟨b4, 0, none⟩)), (36, g.v (g.sl ag cg)), (38, c.v (c.sl ah ch)), (40, .slice al l.length cy), (42, g.v (g.sl ag cg)), (44, c.v (c.sl ah ch))], (b10, cel 36 ([.int .i64 0, .int .i64 0, .slice none 0 0])) :: (b4, cel 27 (ctl c (c.sl ah ch))) :: (b3, cel 24 (gtl g (g.sl ag cg))) :: H, RowsA a5 1 (irows l) :: RowsA a2 5 (hrows c.hs) :: RowsA a1 5 (grows g.grs) :: R, [(8, Ld Tryz.prog 27 ⟨b4, 0, none⟩ (c.v (c.sl ah ch))), (6, Ld Tryz.prog 24 ⟨b3, 0, none⟩ (g.v (g.sl ag cg)))])) (fun v9 => ?_) (fun h7f440 => ?_)
 obtain ⟨a1, c1, a2, c2, a5, c5, b10⟩ := v9
 dsimp only
 unfold pl3_3_7f440
 refine sy_any ?_
 refine sy_alt ?_ ?_
 refine cl rfl cal11 rfl rfl (c_theirs g ag cg (by omega) _ _) ?_
 rintro _ _ R1 ⟨a3, c3, rfl, rfl, hR1⟩
 obtain rfl := hR1.symm
 clear hR1
 refine bg (fun w hs => ⟨((lhA (ctl c (c.sl ah ch)) ag27 rfl rfl rfl)) w hs, trivial, trivial⟩) ?_
 exact sy_to (h7fc40 (a1, c1, a2, c2, a5, c5, a3, c3, b10)) (by repeat' first | exact Sub.nil | apply Sub.cons | rfl | (simp [lk]; omega)) (fun _ h => St.sub (h.pull b10))
 refine sy_alt ?_ ?_
 refine alc rfl zl24 rfl (fun b7 => ?_)
 refine bg (fun w hs => ⟨((lhA (ctl c (c.sl ah ch)) ag27 rfl rfl rfl)) w hs, ((lhA (gtl g (g.sl ag cg)) ag24 rfl rfl rfl)) w hs, trivial⟩) ?_
 exact sy_to (h7f540 (a1, c1, a2, c2, a5, c5, b7, b10)) (by repeat' first | exact Sub.nil | apply Sub.cons | rfl | (simp [lk]; omega)) (fun _ h => St.sub ((h.pull b7).pull b10))
 refine sy_alt ?_ ?_
 refine alc rfl zl27 rfl (fun b8 => ?_)
 refine bg (fun w hs => ⟨((lhA (ctl c (c.sl ah ch)) ag27 rfl rfl rfl)) w hs, ((lhA (gtl g (g.sl ag cg)) ag24 rfl rfl rfl)) w hs, trivial⟩) ?_
 exact sy_to (h7f4c0 (a1, c1, a2, c2, a5, c5, b8, b10)) (by repeat' first | exact Sub.nil | apply Sub.cons | rfl | (simp [lk]; omega)) (fun _ h => St.sub ((h.pull b8).pull b10))
 refine sy_alt ?_ ?_
 refine alc rfl zl40 rfl (fun b11 => ?_)
 refine bg (fun w hs => ⟨((lhA (ctl c (c.sl ah ch)) ag27 rfl rfl rfl)) w hs, ((lhA (gtl g (g.sl ag cg)) ag24 rfl rfl rfl)) w hs, trivial⟩) ?_
 exact sy_to (h7f460 (a1, c1, a2, c2, a5, c5, b10, b11)) (by repeat' first | exact Sub.nil | apply Sub.cons | rfl | (simp [lk]; omega)) (fun _ h => St.sub ((h.pull b10).pull b11))
 exact sy_stop
 refine sy_have (β := Option Addr × Nat × Option Addr × Nat × Option Addr × Nat × Nat) pl3_3_7f420 (fun ⟨a1, c1, a2, c2, a5, c5, b11⟩ => ([(11, .pointer (some ⟨b11, 0, none⟩)), (41, .slice a5 l.length c5), (39, c.v (c.sl a2 c2)), (37, g.v (g.sl a1 c1)), (2, .slice al l.length cy), (3, .pointer (some ⟨b3, 0, none⟩)), (4, .pointer (some ⟨b4, 0, none⟩)), (36, g.v (g.sl ag cg)), (38, c.v (c.sl ah ch)), (40, .slice al l.length cy), (42, g.v (g.sl ag cg)), (44, c.v (c.sl ah ch))], (b11, cel 40 ([.int .i64 0, .int .i64 0, .slice none 0 0])) :: (b4, cel 27 (ctl c (c.sl ah ch))) :: (b3, cel 24 (gtl g (g.sl ag cg))) :: H, RowsA a5 1 (irows l) :: RowsA a2 5 (hrows c.hs) :: RowsA a1 5 (grows g.grs) :: R, [(8, Ld Tryz.prog 27 ⟨b4, 0, none⟩ (c.v (c.sl ah ch))), (6, Ld Tryz.prog 24 ⟨b3, 0, none⟩ (g.v (g.sl ag cg)))])) (fun v9 => ?_) (fun h7f420 => ?_)
 obtain ⟨a1, c1, a2, c2, a5, c5, b11⟩ := v9
 dsimp only
 unfold pl3_3_7f420
 refine sy_any ?_
 refine sy_alt ?_ ?_
 refine cl rfl cal11 rfl rfl (c_theirs g ag cg (by omega) _ _) ?_
 rintro _ _ R1 ⟨a3, c3, rfl, rfl, hR1⟩
 obtain rfl := hR1.symm
 clear hR1
 refine bg (fun w hs => ⟨((lhA (ctl c (c.sl ah ch)) ag27 rfl rfl rfl)) w hs, trivial, trivial⟩) ?_
 exact sy_to (h7fc20 (a1, c1, a2, c2, a5, c5, a3, c3, b11)) (by repeat' first | exact Sub.nil | apply Sub.cons | rfl | (simp [lk]; omega)) (fun _ h => St.sub (h.pull b11))
 refine sy_alt ?_ ?_
 refine alc rfl zl24 rfl (fun b7 => ?_)
 refine bg (fun w hs => ⟨((lhA (ctl c (c.sl ah ch)) ag27 rfl rfl rfl)) w hs, ((lhA (gtl g (g.sl ag cg)) ag24 rfl rfl rfl)) w hs, trivial⟩) ?_
 exact sy_to (h7f520 (a1, c1, a2, c2, a5, c5, b7, b11)) (by repeat' first | exact Sub.nil | apply Sub.cons | rfl | (simp [lk]; omega)) (fun _ h => St.sub ((h.pull b7).pull b11))
 refine sy_alt ?_ ?_
 refine alc rfl zl27 rfl (fun b8 => ?_)
 refine bg (fun w hs => ⟨((lhA (ctl c (c.sl ah ch)) ag27 rfl rfl rfl)) w hs, ((lhA (gtl g (g.sl ag cg)) ag24 rfl rfl rfl)) w hs, trivial⟩) ?_
 exact sy_to (h7f4a0 (a1, c1, a2, c2, a5, c5, b8, b11)) (by repeat' first | exact Sub.nil | apply Sub.cons | rfl | (simp [lk]; omega)) (fun _ h => St.sub ((h.pull b8).pull b11))
 refine sy_alt ?_ ?_
 refine alc rfl zl36 rfl (fun b10 => ?_)
 refine bg (fun w hs => ⟨((lhA (ctl c (c.sl ah ch)) ag27 rfl rfl rfl)) w hs, ((lhA (gtl g (g.sl ag cg)) ag24 rfl rfl rfl)) w hs, trivial⟩) ?_
 exact sy_to (h7f460 (a1, c1, a2, c2, a5, c5, b10, b11)) (by repeat' first | exact Sub.nil | apply Sub.cons | rfl | (simp [lk]; omega)) (fun _ h => St.sub ((h.pull b10).pull b11))
 exact sy_stop
 refine sy_have (β := Option Addr × Nat × Option Addr × Nat × Nat × Nat × Nat × Nat) pl3_3_7d5e0 (fun ⟨a1, c1, a2, c2, b7, b8, b10, b11⟩ => ([(11, .pointer (some ⟨b11, 0, none⟩)), (10, .pointer (some ⟨b10, 0, none⟩)), (8, .pointer (some ⟨b8, 0, none⟩)), (7, .pointer (some ⟨b7, 0, none⟩)), (39, c.v (c.sl a2 c2)), (37, g.v (g.sl a1 c1)), (2, .slice al l.length cy), (3, .pointer (some ⟨b3, 0, none⟩)), (4, .pointer (some ⟨b4, 0, none⟩)), (36, g.v (g.sl ag cg)), (38, c.v (c.sl ah ch)), (40, .slice al l.length cy), (42, g.v (g.sl ag cg)), (44, c.v (c.sl ah ch))], (b11, cel 40 ([.int .i64 0, .int .i64 0, .slice none 0 0])) :: (b10, cel 36 ([.int .i64 0, .int .i64 0, .slice none 0 0])) :: (b8, cel 27 ([.int .i64 0, .int .i64 0, .slice none 0 0])) :: (b7, cel 24 ([.int .i64 0, .int .i64 0, .slice none 0 0])) :: (b4, cel 27 (ctl c (c.sl ah ch))) :: (b3, cel 24 (gtl g (g.sl ag cg))) :: H, RowsA a2 5 (hrows c.hs) :: RowsA a1 5 (grows g.grs) :: R, [(8, Ld Tryz.prog 27 ⟨b4, 0, none⟩ (c.v (c.sl ah ch))), (6, Ld Tryz.prog 24 ⟨b3, 0, none⟩ (g.v (g.sl ag cg)))])) (fun v9 => ?_) (fun h7d5e0 => ?_)
 obtain ⟨a1, c1, a2, c2, b7, b8, b10, b11⟩ := v9
 dsimp only
 unfold pl3_3_7d5e0
 refine cl rfl cal10 rfl rfl (c_dup_int l al cy (by omega) _ _) ?_
 rintro _ _ R1 ⟨o, rfl, ho, rfl, hR1⟩
 obtain rfl := hR1.symm
 clear hR1
 obtain ⟨a5, c5, he, hf⟩ := o.freeze
 rw [he]
 refine Sy.heap (H' := _) (fun w h => hf h) ?_
 rw [show (irows l).length = l.length from List.length_map _]
 clear he hf
 refine bg (fun w hs => ⟨((lhA (ctl c (c.sl ah ch)) ag27 rfl rfl rfl)) w hs, ((lhA (gtl g (g.sl ag cg)) ag24 rfl rfl rfl)) w hs, trivial⟩) ?_
 exact sy_to (h7f5e0 (a1, c1, a2, c2, a5, c5, b7, b8, b10, b11)) (by repeat' first | exact Sub.nil | apply Sub.cons | rfl | (simp [lk]; omega)) (fun _ h => St.sub ((((h.pull b7).pull b8).pull b10).pull b11))
 refine sy_have (β := Option Addr × Nat × Option Addr × Nat × Nat × Nat × Nat) pl3_3_7d5c0 (fun ⟨a1, c1, a2, c2, b7, b8, b10⟩ => ([(10, .pointer (some ⟨b10, 0, none⟩)), (8, .pointer (some ⟨b8, 0, none⟩)), (7, .pointer (some ⟨b7, 0, none⟩)), (39, c.v (c.sl a2 c2)), (37, g.v (g.sl a1 c1)), (2, .slice al l.length cy), (3, .pointer (some ⟨b3, 0, none⟩)), (4, .pointer (some ⟨b4, 0, none⟩)), (36, g.v (g.sl ag cg)), (38, c.v (c.sl ah ch)), (40, .slice al l.length cy), (42, g.v (g.sl ag cg)), (44, c.v (c.sl ah ch))], (b10, cel 36 ([.int .i64 0, .int .i64 0, .slice none 0 0])) :: (b8, cel 27 ([.int .i64 0, .int .i64 0, .slice none 0 0])) :: (b7, cel 24 ([.int .i64 0, .int .i64 0, .slice none 0 0])) :: (b4, cel 27 (ctl c (c.sl ah ch))) :: (b3, cel 24 (gtl g (g.sl ag cg))) :: H, RowsA a2 5 (hrows c.hs) :: RowsA a1 5 (grows g.grs) :: R, [(8, Ld Tryz.prog 27 ⟨b4, 0, none⟩ (c.v (c.sl ah ch))), (6, Ld Tryz.prog 24 ⟨b3, 0, none⟩ (g.v (g.sl ag cg)))])) (fun v9 => ?_) (fun h7d5c0 => ?_)
 obtain ⟨a1, c1, a2, c2, b7, b8, b10⟩ := v9
 dsimp only
 unfold pl3_3_7d5c0
 refine sy_any ?_
 refine sy_alt ?_ ?_
 refine cl rfl cal10 rfl rfl (c_dup_int l al cy (by omega) _ _) ?_
 rintro _ _ R1 ⟨o, rfl, ho, rfl, hR1⟩
 obtain rfl := hR1.symm
 clear hR1
 obtain ⟨a5, c5, he, hf⟩ := o.freeze
 rw [he]
 refine Sy.heap (H' := _) (fun w h => hf h) ?_
 rw [show (irows l).length = l.length from List.length_map _]
 clear he hf
 refine bg (fun w hs => ⟨((lhA (ctl c (c.sl ah ch)) ag27 rfl rfl rfl)) w hs, ((lhA (gtl g (g.sl ag cg)) ag24 rfl rfl rfl)) w hs, trivial⟩) ?_
 exact sy_to (h7f5c0 (a1, c1, a2, c2, a5, c5, b7, b8, b10)) (by repeat' first | exact Sub.nil | apply Sub.cons | rfl | (simp [lk]; omega)) (fun _ h => St.sub (((h.pull b7).pull b8).pull b10))
 refine sy_alt ?_ ?_
 refine alc rfl zl40 rfl (fun b11 => ?_)
 refine bg (fun w hs => ⟨((lhA (ctl c (c.sl ah ch)) ag27 rfl rfl rfl)) w hs, ((lhA (gtl g (g.sl ag cg)) ag24 rfl rfl rfl)) w hs, trivial⟩) ?_
 exact sy_to (h7d5e0 (a1, c1, a2, c2, b7, b8, b10, b11)) (by repeat' first | exact Sub.nil | apply Sub.cons | rfl | (simp [lk]; omega)) (fun _ h => St.sub ((((h.pull b7).pull b8).pull b10).pull b11))
 exact sy_stop
 refine sy_have (β := Option Addr × Nat × Option Addr × Nat × Nat × Nat × Nat) pl3_3_7d5a0 (fun ⟨a1, c1, a2, c2, b7, b8, b11⟩ => ([(11, .pointer (some ⟨b11, 0, none⟩)), (8, .pointer (some ⟨b8, 0, none⟩)), (7, .pointer (some ⟨b7, 0, none⟩)), (39, c.v (c.sl a2 c2)), (37, g.v (g.sl a1 c1)), (2, .slice al l.length cy), (3, .pointer (some ⟨b3, 0, none⟩)), (4, .pointer (some ⟨b4, 0, none⟩)), (36, g.v (g.sl ag cg)), (38, c.v (c.sl ah ch)), (40, .slice al l.length cy), (42, g.v (g.sl ag cg)), (44, c.v (c.sl ah ch))], (b11, cel 40 ([.int .i64 0, .int .i64 0, .slice none 0 0])) :: (b8, cel 27 ([.int .i64 0, .int .i64 0, .slice none 0 0])) :: (b7, cel 24 ([.int .i64 0, .int .i64 0, .slice none 0 0])) :: (b4, cel 27 (ctl c (c.sl ah ch))) :: (b3, cel 24 (gtl g (g.sl ag cg))) :: H, RowsA a2 5 (hrows c.hs) :: RowsA a1 5 (grows g.grs) :: R, [(8, Ld Tryz.prog 27 ⟨b4, 0, none⟩ (c.v (c.sl ah ch))), (6, Ld Tryz.prog 24 ⟨b3, 0, none⟩ (g.v (g.sl ag cg)))])) (fun v9 => ?_) (fun h7d5a0 => ?_)
 obtain ⟨a1, c1, a2, c2, b7, b8, b11⟩ := v9
 dsimp only
 unfold pl3_3_7d5a0
 refine sy_any ?_
 refine sy_alt ?_ ?_
 refine cl rfl cal10 rfl rfl (c_dup_int l al cy (by omega) _ _) ?_
 rintro _ _ R1 ⟨o, rfl, ho, rfl, hR1⟩
 obtain rfl := hR1.symm
 clear hR1
 obtain ⟨a5, c5, he, hf⟩ := o.freeze
 rw [he]
 refine Sy.heap (H' := _) (fun w h => hf h) ?_
 rw [show (irows l).length = l.length from List.length_map _]
 clear he hf
 refine bg (fun w hs => ⟨((lhA (ctl c (c.sl ah ch)) ag27 rfl rfl rfl)) w hs, ((lhA (gtl g (g.sl ag cg)) ag24 rfl rfl rfl)) w hs, trivial⟩) ?_
 exact sy_to (h7f5a0 (a1, c1, a2, c2, a5, c5, b7, b8, b11)) (by repeat' first | exact Sub.nil | apply Sub.cons | rfl | (simp [lk]; omega)) (fun _ h => St.sub (((h.pull b7).pull b8).pull b11))
 refine sy_alt ?_ ?_
 refine alc rfl zl36 rfl (fun b10 => ?_)
 refine bg (fun w hs => ⟨((lhA (ctl c (c.sl ah ch)) ag27 rfl rfl rfl)) w hs, ((lhA (gtl g (g.sl ag cg)) ag24 rfl rfl rfl)) w hs, trivial⟩) ?_
 exact sy_to (h7d5e0 (a1, c1, a2, c2, b7, b8, b10, b11)) (by repeat' first | exact Sub.nil | apply Sub.cons | rfl | (simp [lk]; omega)) (fun _ h => St.sub ((((h.pull b7).pull b8).pull b10).pull b11))
 exact sy_stop
 refine sy_have (β := Option Addr × Nat × Option Addr × Nat × Nat × Nat) pl3_3_7d580 (fun ⟨a1, c1, a2, c2, b7, b8⟩ => ([(8, .pointer (some ⟨b8, 0, none⟩)), (7, .pointer (some ⟨b7, 0, none⟩)), (39, c.v (c.sl a2 c2)), (37, g.v (g.sl a1 c1)), (2, .slice al l.length cy), (3, .pointer (some ⟨b3, 0, none⟩)), (4, .pointer (some ⟨b4, 0, none⟩)), (36, g.v (g.sl ag cg)), (38, c.v (c.sl ah ch)), (40, .slice al l.length cy), (42, g.v (g.sl ag cg)), (44, c.v (c.sl ah ch))], (b8, cel 27 ([.int .i64 0, .int .i64 0, .slice none 0 0])) :: (b7, cel 24 ([.int .i64 0, .int .i64 0, .slice none 0 0])) :: (b4, cel 27 (ctl c (c.sl ah ch))) :: (b3, cel 24 (gtl g (g.sl ag cg))) :: H, RowsA a2 5 (hrows c.hs) :: RowsA a1 5 (grows g.grs) :: R, [(8, Ld Tryz.prog 27 ⟨b4, 0, none⟩ (c.v (c.sl ah ch))), (6, Ld Tryz.prog 24 ⟨b3, 0, none⟩ (g.v (g.sl ag cg)))])) (fun v9 => ?_) (fun h7d580 => ?_)
 obtain ⟨a1, c1, a2, c2, b7, b8⟩ := v9
 dsimp only
 unfold pl3_3_7d580
 refine sy_any ?_
 refine sy_alt ?_ ?_
 refine cl rfl cal10 rfl rfl (c_dup_int l al cy (by omega) _ _) ?_
 rintro _ _ R1 ⟨o, rfl, ho, rfl, hR1⟩
 obtain rfl := hR1.symm
 clear hR1
 obtain ⟨a5, c5, he, hf⟩ := o.freeze
 rw [he]
 refine Sy.heap (H' := _) (fun w h => hf h) ?_
 rw [show (irows l).length = l.length from List.length_map _]
 clear he hf
 refine bg (fun w hs => ⟨((lhA (ctl c (c.sl ah ch)) ag27 rfl rfl rfl)) w hs, ((lhA (gtl g (g.sl ag cg)) ag24 rfl rfl rfl)) w hs, trivial⟩) ?_
 exact sy_to (h7f580 (a1, c1, a2, c2, a5, c5, b7, b8)) (by repeat' first | exact Sub.nil | apply Sub.cons | rfl | (simp [lk]; omega)) (fun _ h => St.sub ((h.pull b7).pull b8))
 refine sy_alt ?_ ?_
 refine alc rfl zl36 rfl (fun b10 => ?_)
 refine bg (fun w hs => ⟨((lhA (ctl c (c.sl ah ch)) ag27 rfl rfl rfl)) w hs, ((lhA (gtl g (g.sl ag cg)) ag24 rfl rfl rfl)) w hs, trivial⟩) ?_
 exact sy_to (h7d5c0 (a1, c1, a2, c2, b7, b8, b10)) (by repeat' first | exact Sub.nil | apply Sub.cons | rfl | (simp [lk]; omega)) (fun _ h => St.sub (((h.pull b7).pull b8).pull b10))
 refine sy_alt ?_ ?_
 refine alc rfl zl40 rfl (fun b11 => ?_)
 refine bg (fun w hs => ⟨((lhA (ctl c (c.sl ah ch)) ag27 rfl rfl rfl)) w hs, ((lhA (gtl g (g.sl ag cg)) ag24 rfl rfl rfl)) w hs, trivial⟩) ?_
 exact sy_to (h7d5a0 (a1, c1, a2, c2, b7, b8, b11)) (by repeat' first | exact Sub.nil | apply Sub.cons | rfl | (simp [lk]; omega)) (fun _ h => St.sub (((h.pull b7).pull b8).pull b11))
 exact sy_stop
 refine sy_have (β := Option Addr × Nat × Option Addr × Nat × Nat × Nat × Nat) pl3_3_7d560 (fun ⟨a1, c1, a2, c2, b7, b10, b11⟩ => ([(11, .pointer (some ⟨b11, 0, none⟩)), (10, .pointer (some ⟨b10, 0, none⟩)), (7, .pointer (some ⟨b7, 0, none⟩)), (39, c.v (c.sl a2 c2)), (37, g.v (g.sl a1 c1)), (2, .slice al l.length cy), (3, .pointer (some ⟨b3, 0, none⟩)), (4, .pointer (some ⟨b4, 0, none⟩)), (36, g.v (g.sl ag cg)), (38, c.v (c.sl ah ch)), (40, .slice al l.length cy), (42, g.v (g.sl ag cg)), (44, c.v (c.sl ah ch))], (b11, cel 40 ([.int .i64 0, .int .i64 0, .slice none 0 0])) :: (b10, cel 36 ([.int .i64 0, .int .i64 0, .slice none 0 0])) :: (b7, cel 24 ([.int .i64 0, .int .i64 0, .slice none 0 0])) :: (b4, cel 27 (ctl c (c.sl ah ch))) :: (b3, cel 24 (gtl g (g.sl ag cg))) :: H, RowsA a2 5 (hrows c.hs) :: RowsA a1 5 (grows g.grs) :: R, [(8, Ld Tryz.prog 27 ⟨b4, 0, none⟩ (c.v (c.sl ah ch))), (6, Ld Tryz.prog 24 ⟨b3, 0, none⟩ (g.v (g.sl ag cg)))])) (fun v9 => ?_) (fun h7d560 => ?_)
 obtain ⟨a1, c1, a2, c2, b7, b10, b11⟩ := v9
 dsimp only
 unfold pl3_3_7d560
 refine sy_any ?_
 refine sy_alt ?_ ?_
 refine cl rfl cal10 rfl rfl (c_dup_int l al cy (by omega) _ _) ?_
 rintro _ _ R1 ⟨o, rfl, ho, rfl, hR1⟩
 obtain rfl := hR1.symm
 clear hR1
 obtain ⟨a5, c5, he, hf⟩ := o.freeze
 rw [he]
 refine Sy.heap (H' := _) (fun w h => hf h) ?_
 rw [show (irows l).length = l.length from List.length_map _]
 clear he hf
 refine bg (fun w hs => ⟨((lhA (ctl c (c.sl ah ch)) ag27 rfl rfl rfl)) w hs, ((lhA (gtl g (g.sl ag cg)) ag24 rfl rfl rfl)) w hs, trivial⟩) ?_
 exact sy_to (h7f560 (a1, c1, a2, c2, a5, c5, b7, b10, b11)) (by repeat' first | exact Sub.nil | apply Sub.cons | rfl | (simp [lk]; omega)) (fun _ h => St.sub (((h.pull b7).pull b10).pull b11))
 refine sy_alt ?_ ?_
 refine alc rfl zl27 rfl (fun b8 => ?_)
 refine bg (fun w hs => ⟨((lhA (ctl c (c.sl ah ch)) ag27 rfl rfl rfl)) w hs, ((lhA (gtl g (g.sl ag cg)) ag24 rfl rfl rfl)) w hs, trivial⟩) ?_
 exact sy_to (h7d5e0 (a1, c1, a2, c2, b7, b8, b10, b11)) (by repeat' first | exact Sub.nil | apply Sub.cons | rfl | (simp [lk]; omega)) (fun _ h => St.sub ((((h.pull b7).pull b8).pull b10).pull b11))
 exact sy_stop
 refine sy_have (β := Option Addr × Nat × Option Addr × Nat × Nat × Nat) pl3_3_7d540 (fun ⟨a1, c1, a2, c2, b7, b10⟩ => ([(10, .pointer (some ⟨b10, 0, none⟩)), (7, .pointer (some ⟨b7, 0, none⟩)), (39, c.v (c.sl a2 c2)), (37, g.v (g.sl a1 c1)), (2, .slice al l.length cy), (3, .pointer (some ⟨b3, 0, none⟩)), (4, .pointer (some ⟨b4, 0, none⟩)), (36, g.v (g.sl ag cg)), (38, c.v (c.sl ah ch)), (40, .slice al l.length cy), (42, g.v (g.sl ag cg)), (44, c.v (c.sl ah ch))], (b10, cel 36 ([.int .i64 0, .int .i64 0, .slice none 0 0])) :: (b7, cel 24 ([.int .i64 0, .int .i64 0, .slice none 0 0])) :: (b4, cel 27 (ctl c (c.sl ah ch))) :: (b3, cel 24 (gtl g (g.sl ag cg))) :: H, RowsA a2 5 (hrows c.hs) :: RowsA a1 5 (grows g.grs) :: R, [(8, Ld Tryz.prog 27 ⟨b4, 0, none⟩ (c.v (c.sl ah ch))), (6, Ld Tryz.prog 24 ⟨b3, 0, none⟩ (g.v (g.sl ag cg)))])) (fun v9 => ?_) (fun h7d540 => ?_)
 obtain ⟨a1, c1, a2, c2, b7, b10⟩ := v9
 dsimp only
 unfold pl3_3_7d540
 refine sy_any ?_
 refine sy_alt ?_ ?_
 refine cl rfl cal10 rfl rfl (c_dup_int l al cy (by omega) _ _) ?_
 rintro _ _ R1 ⟨o, rfl, ho, rfl, hR1⟩
 obtain rfl := hR1.symm
 clear hR1
 obtain ⟨a5, c5, he, hf⟩ := o.freeze
 rw [he]
 refine Sy.heap (H' := _) (fun w h => hf h) ?_
 rw [show (irows l).length = l.length from List.length_map _]
 clear he hf
 refine bg (fun w hs => ⟨((lhA (ctl c (c.sl ah ch)) ag27 rfl rfl rfl)) w hs, ((lhA (gtl g (g.sl ag cg)) ag24 rfl rfl rfl)) w hs, trivial⟩) ?_
 exact sy_to (h7f540 (a1, c1, a2, c2, a5, c5, b7, b10)) (by repeat' first | exact Sub.nil | apply Sub.cons | rfl | (simp [lk]; omega)) (fun _ h => St.sub ((h.pull b7).pull b10))
 refine sy_alt ?_ ?_
 refine alc rfl zl27 rfl (fun b8 => ?_)
 refine bg (fun w hs => ⟨((lhA (ctl c (c.sl ah ch)) ag27 rfl rfl rfl)) w hs, ((lhA (gtl g (g.sl ag cg)) ag24 rfl rfl rfl)) w hs, trivial⟩) ?_
 exact sy_to (h7d5c0 (a1, c1, a2, c2, b7, b8, b10)) (by repeat' first | exact Sub.nil | apply Sub.cons | rfl | (simp [lk]; omega)) (fun _ h => St.sub (((h.pull b7).pull b8).pull b10))
 refine sy_alt ?_ ?_
 refine alc rfl zl40 rfl (fun b11 => ?_)
 refine bg (fun w hs => ⟨((lhA (ctl c (c.sl ah ch)) ag27 rfl rfl rfl)) w hs, ((lhA (gtl g (g.sl ag cg)) ag24 rfl rfl rfl)) w hs, trivial⟩) ?_
 exact sy_to (h7d560 (a1, c1, a2, c2, b7, b10, b11)) (by repeat' first | exact Sub.nil | apply Sub.cons | rfl | (simp [lk]; omega)) (fun _ h => St.sub (((h.pull b7).pull b10).pull b11))
 exact sy_stop
 refine sy_have (β := Option Addr × Nat × Option Addr × Nat × Nat × Nat) pl3_3_7d520 (fun ⟨a1, c1, a2, c2, b7, b11⟩ => ([(11, .pointer (some ⟨b11, 0, none⟩)), (7, .pointer (some ⟨b7, 0, none⟩)), (39, c.v (c.sl a2 c2)), (37, g.v (g.sl a1 c1)), (2, .slice al l.length cy), (3, .pointer (some ⟨b3, 0, none⟩)), (4, .pointer (some ⟨b4, 0, none⟩)), (36, g.v (g.sl ag cg)), (38, c.v (c.sl ah ch)), (40, .slice al l.length cy), (42, g.v (g.sl ag cg)), (44, c.v (c.sl ah ch))], (b11, cel 40 ([.int .i64 0, .int .i64 0, .slice none 0 0])) :: (b7, cel 24 ([.int .i64 0, .int .i64 0, .slice none 0 0])) :: (b4, cel 27 (ctl c (c.sl ah ch))) :: (b3, cel 24 (gtl g (g.sl ag cg))) :: H, RowsA a2 5 (hrows c.hs) :: RowsA a1 5 (grows g.grs) :: R, [(8, Ld Tryz.prog 27 ⟨b4, 0, none⟩ (c.v (c.sl ah ch))), (6, Ld Tryz.prog 24 ⟨b3, 0, none⟩ (g.v (g.sl ag cg)))])) (fun v9 => ?_) (fun h7d520 => ?_)
 obtain ⟨a1, c1, a2, c2, b7, b11⟩ := v9
 dsimp only
 unfold pl3_3_7d520
 refine sy_any ?_
 refine sy_alt ?_ ?_
 refine cl rfl cal10 rfl rfl (c_dup_int l al cy (by omega) _ _) ?_
 rintro _ _ R1 ⟨o, rfl, ho, rfl, hR1⟩
 obtain rfl := hR1.symm
 clear hR1
 obtain ⟨a5, c5, he, hf⟩ := o.freeze
 rw [he]
 refine Sy.heap (H' := _) (fun w h => hf h) ?_
 rw [show (irows l).length = l.length from List.length_map _]
 clear he hf
 refine bg (fun w hs => ⟨((lhA (ctl c (c.sl ah ch)) ag27 rfl rfl rfl)) w hs, ((lhA (gtl g (g.sl ag cg)) ag24 rfl rfl rfl)) w hs, trivial⟩) ?_
 exact sy_to (h7f520 (a1, c1, a2, c2, a5, c5, b7, b11)) (by repeat' first | exact Sub.nil | apply Sub.cons | rfl | (simp [lk]; omega)) (fun _ h => St.sub ((h.pull b7).pull b11))
 refine sy_alt ?_ ?_
 refine alc rfl zl27 rfl (fun b8 => ?_)
 refine bg (fun w hs => ⟨((lhA (ctl c (c.sl ah ch)) ag27 rfl rfl rfl)) w hs, ((lhA (gtl g (g.sl ag cg)) ag24 rfl rfl rfl)) w hs, trivial⟩) ?_
 exact sy_to (h7d5a0 (a1, c1, a2, c2, b7, b8, b11)) (by repeat' first | exact Sub.nil | apply Sub.cons | rfl | (simp [lk]; omega)) (fun _ h => St.sub (((h.pull b7).pull b8).pull b11))
 refine sy_alt ?_ ?_
 refine alc rfl zl36 rfl (fun b10 => ?_)
 refine bg (fun w hs => ⟨((lhA (ctl c (c.sl ah ch)) ag27 rfl rfl rfl)) w hs, ((lhA (gtl g (g.sl ag cg)) ag24 rfl rfl rfl)) w hs, trivial⟩) ?_
 exact sy_to (h7d560 (a1, c1, a2, c2, b7, b10, b11)) (by repeat' first | exact Sub.nil | apply Sub.cons | rfl | (simp [lk]; omega)) (fun _ h => St.sub (((h.pull b7).pull b10).pull b11))
 exact sy_stop
 refine sy_have (β := Option Addr × Nat × Option Addr × Nat × Nat) pl3_3_7d500 (fun ⟨a1, c1, a2, c2, b7⟩ => ([(7, .pointer (some ⟨b7, 0, none⟩)), (39, c.v (c.sl a2 c2)), (37, g.v (g.sl a1 c1)), (2, .slice al l.length cy), (3, .pointer (some ⟨b3, 0, none⟩)), (4, .pointer (some ⟨b4, 0, none⟩)), (36, g.v (g.sl ag cg)), (38, c.v (c.sl ah ch)), (40, .slice al l.length cy), (42, g.v (g.sl ag cg)), (44, c.v (c.sl ah ch))], (b7, cel 24 ([.int .i64 0, .int .i64 0, .slice none 0 0])) :: (b4, cel 27 (ctl c (c.sl ah ch))) :: (b3, cel 24 (gtl g (g.sl ag cg))) :: H, RowsA a2 5 (hrows c.hs) :: RowsA a1 5 (grows g.grs) :: R, [(8, Ld Tryz.prog 27 ⟨b4, 0, none⟩ (c.v (c.sl ah ch))), (6, Ld Tryz.prog 24 ⟨b3, 0, none⟩ (g.v (g.sl ag cg)))])) (fun v9 => ?_) (fun h7d500 => ?_)
 obtain ⟨a1, c1, a2, c2, b7⟩ := v9
 dsimp only
 unfold pl3_3_7d500
 refine sy_any ?_
 refine sy_alt ?_ ?_
 refine cl rfl cal10 rfl rfl (c_dup_int l al cy (by omega) _ _) ?_
 rintro _ _ R1 ⟨o, rfl, ho, rfl, hR1⟩
 obtain rfl := hR1.symm
 clear hR1
 obtain ⟨a5, c5, he, hf⟩ := o.freeze
 rw [he]
 refine Sy.heap (H' := _) (fun w h => hf h) ?_
 rw [show (irows l).length = l.length from List.length_map _]
 clear he hf
 refine bg (fun w hs => ⟨((lhA (ctl c (c.sl ah ch)) ag27 rfl rfl rfl)) w hs, ((lhA (gtl g (g.sl ag cg)) ag24 rfl rfl rfl)) w hs, trivial⟩) ?_
 exact sy_to (h7f500 (a1, c1, a2, c2, a5, c5, b7)) (by repeat' first | exact Sub.nil | apply Sub.cons | rfl | (simp [lk]; omega)) (fun _ h => St.sub (h.pull b7))
 refine sy_alt ?_ ?_
 refine alc rfl zl27 rfl (fun b8 => ?_)
 refine bg (fun w hs => ⟨((lhA (ctl c (c.sl ah ch)) ag27 rfl rfl rfl)) w hs, ((lhA (gtl g (g.sl ag cg)) ag24 rfl rfl rfl)) w hs, trivial⟩) ?_
 exact sy_to (h7d580 (a1, c1, a2, c2, b7, b8)) (by repeat' first | exact Sub.nil | apply Sub.cons | rfl | (simp [lk]; omega)) (fun _ h => St.sub ((h.pull b7).pull b8))
 refine sy_alt ?_ ?_
 refine alc rfl zl36 rfl (fun b10 => ?_)
 refine bg (fun w hs => ⟨((lhA (ctl c (c.sl ah ch)) ag27 rfl rfl rfl)) w hs, ((lhA (gtl g (g.sl ag cg)) ag24 rfl rfl rfl)) w hs, trivial⟩) ?_
 exact sy_to (h7d540 (a1, c1, a2, c2, b7, b10)) (by repeat' first | exact Sub.nil | apply Sub.cons | rfl | (simp [lk]; omega)) (fun _ h => St.sub ((h.pull b7).pull b10))
 refine sy_alt ?_ ?_
 refine alc rfl zl40 rfl (fun b11 => ?_)
 refine bg (fun w hs => ⟨((lhA (ctl c (c.sl ah ch)) ag27 rfl rfl rfl)) w hs, ((lhA (gtl g (g.sl ag cg)) ag24 rfl rfl rfl)) w hs, trivial⟩) ?_
 exact sy_to (h7d520 (a1, c1, a2, c2, b7, b11)) (by repeat' first | exact Sub.nil | apply Sub.cons | rfl | (simp [lk]; omega)) (fun _ h => St.sub ((h.pull b7).pull b11))
 exact sy_stop
 refine sy_have (β := Option Addr × Nat × Option Addr × Nat × Nat × Nat × Nat) pl3_3_7d4e0 (fun ⟨a1, c1, a2, c2, b8, b10, b11⟩ => ([(11, .pointer (some ⟨b11, 0, none⟩)), (10, .pointer (some ⟨b10, 0, none⟩)), (8, .pointer (some ⟨b8, 0, none⟩)), (39, c.v (c.sl a2 c2)), (37, g.v (g.sl a1 c1)), (2, .slice al l.length cy), (3, .pointer (some ⟨b3, 0, none⟩)), (4, .pointer (some ⟨b4, 0, none⟩)), (36, g.v (g.sl ag cg)), (38, c.v (c.sl ah ch)), (40, .slice al l.length cy), (42, g.v (g.sl ag cg)), (44, c.v (c.sl ah ch))], (b11, cel 40 ([.int .i64 0, .int .i64 0, .slice none 0 0])) :: (b10, cel 36 ([.int .i64 0, .int .i64 0, .slice none 0 0])) :: (b8, cel 27 ([.int .i64 0, .int .i64 0, .slice none 0 0])) :: (b4, cel 27 (ctl c (c.sl ah ch))) :: (b3, cel 24 (gtl g (g.sl ag cg))) :: H, RowsA a2 5 (hrows c.hs) :: RowsA a1 5 (grows g.grs) :: R, [(8, Ld Tryz.prog 27 ⟨b4, 0, none⟩ (c.v (c.sl ah ch))), (6, Ld Tryz.prog 24 ⟨b3, 0, none⟩ (g.v (g.sl ag cg)))])) (fun v9 => ?_) (fun h7d4e0 => ?_)
 obtain ⟨a1, c1, a2, c2, b8, b10, b11⟩ := v9
 dsimp only
 unfold pl3_3_7d4e0
 refine sy_any ?_
 refine sy_alt ?_ ?_
 refine cl rfl cal10 rfl rfl (c_dup_int l al cy (by omega) _ _) ?_
 rintro _ _ R1 ⟨o, rfl, ho, rfl, hR1⟩
 obtain rfl := hR1.symm
 clear hR1
 obtain ⟨a5, c5, he, hf⟩ := o.freeze
 rw [he]
 refine Sy.heap (H' := _) (fun w h => hf h) ?_
 rw [show (irows l).length = l.length from List.length_map _]
 clear he hf
 refine bg (fun w hs => ⟨((lhA (ctl c (c.sl ah ch)) ag27 rfl rfl rfl)) w hs, ((lhA (gtl g (g.sl ag cg)) ag24 rfl rfl rfl)) w hs, trivial⟩) ?_
 exact sy_to (h7f4e0 (a1, c1, a2, c2, a5, c5, b8, b10, b11)) (by repeat' first | exact Sub.nil | apply Sub.cons | rfl | (simp [lk]; omega)) (fun _ h => St.sub (((h.pull b8).pull b10).pull b11))
 refine sy_alt ?_ ?_
 refine alc rfl zl24 rfl (fun b7 => ?_)
 refine bg (fun w hs => ⟨((lhA (ctl c (c.sl ah ch)) ag27 rfl rfl rfl)) w hs, ((lhA (gtl g (g.sl ag cg)) ag24 rfl rfl rfl)) w hs, trivial⟩) ?_
 exact sy_to (h7d5e0 (a1, c1, a2, c2, b7, b8, b10, b11)) (by repeat' first | exact Sub.nil | apply Sub.cons | rfl | (simp [lk]; omega)) (fun _ h => St.sub ((((h.pull b7).pull b8).pull b10).pull b11))
 exact sy_stop
 refine sy_have (β := Option Addr × Nat × Option Addr × Nat × Nat × Nat) pl3_3_7d4c0 (fun ⟨a1, c1, a2, c2, b8, b10⟩ => ([(10, .pointer (some ⟨b10, 0, none⟩)), (8, .pointer (some ⟨b8, 0, none⟩)), (39, c.v (c.sl a2 c2)), (37, g.v (g.sl a1 c1)), (2, .slice al l.length cy), (3, .pointer (some ⟨b3, 0, none⟩)), (4, .pointer (some ⟨b4, 0, none⟩)), (36, g.v (g.sl ag cg)), (38, c.v (c.sl ah ch)), (40, .slice al l.length cy), (42, g.v (g.sl ag cg)), (44, c.v (c.sl ah ch))], (b10, cel 36 ([.int .i64 0, .int .i64 0, .slice none 0 0])) :: (b8, cel 27 ([.int .i64 0, .int .i64 0, .slice none 0 0])) :: (b4, cel 27 (ctl c (c.sl ah ch))) :: (b3, cel 24 (gtl g (g.sl ag cg))) :: H, RowsA a2 5 (hrows c.hs) :: RowsA a1 5 (grows g.grs) :: R, [(8, Ld Tryz.prog 27 ⟨b4, 0, none⟩ (c.v (c.sl ah ch))), (6, Ld Tryz.prog 24 ⟨b3, 0, none⟩ (g.v (g.sl ag cg)))])) (fun v9 => ?_) (fun h7d4c0 => ?_)
 obtain ⟨a1, c1, a2, c2, b8, b10⟩ := v9
 dsimp only
 unfold pl3_3_7d4c0
 refine sy_any ?_
 refine sy_alt ?_ ?_
 refine cl rfl cal10 rfl rfl (c_dup_int l al cy (by omega) _ _) ?_
 rintro _ _ R1 ⟨o, rfl, ho, rfl, hR1⟩
 obtain rfl := hR1.symm
 clear hR1
 obtain ⟨a5, c5, he, hf⟩ := o.freeze
 rw [he]
 refine Sy.heap (H' := _) (fun w h => hf h) ?_
 rw [show (irows l).length = l.length from List.length_map _]
 clear he hf
 refine bg (fun w hs => ⟨((lhA (ctl c (c.sl ah ch)) ag27 rfl rfl rfl)) w hs, ((lhA (gtl g (g.sl ag cg)) ag24 rfl rfl rfl)) w hs, trivial⟩) ?_
 exact sy_to (h7f4c0 (a1, c1, a2, c2, a5, c5, b8, b10)) (by repeat' first | exact Sub.nil | apply Sub.cons | rfl | (simp [lk]; omega)) (fun _ h => St.sub ((h.pull b8).pull b10))
 refine sy_alt ?_ ?_
 refine alc rfl zl24 rfl (fun b7 => ?_)
 refine bg (fun w hs => ⟨((lhA (ctl c (c.sl ah ch)) ag27 rfl rfl rfl)) w hs, ((lhA (gtl g (g.sl ag cg)) ag24 rfl rfl rfl)) w hs, trivial⟩) ?_
 exact sy_to (h7d5c0 (a1, c1, a2, c2, b7, b8, b10)) (by repeat' first | exact Sub.nil | apply Sub.cons | rfl | (simp [lk]; omega)) (fun _ h => St.sub (((h.pull b7).pull b8).pull b10))
 refine sy_alt ?_ ?_
 refine alc rfl zl40 rfl (fun b11 => ?_)
 refine bg (fun w hs => ⟨((lhA (ctl c (c.sl ah ch)) ag27 rfl rfl rfl)) w hs, ((lhA (gtl g (g.sl ag cg)) ag24 rfl rfl rfl)) w hs, trivial⟩) ?_
 exact sy_to (h7d4e0 (a1, c1, a2, c2, b8, b10, b11)) (by repeat' first | exact Sub.nil | apply Sub.cons | rfl | (simp [lk]; omega)) (fun _ h => St.sub (((h.pull b8).pull b10).pull b11))
 exact sy_stop
 refine sy_have (β := Option Addr × Nat × Option Addr × Nat × Nat × Nat) pl3_3_7d4a0 (fun ⟨a1, c1, a2, c2, b8, b11⟩ => ([(11, .pointer (some ⟨b11, 0, none⟩)), (8, .pointer (some ⟨b8, 0, none⟩)), (39, c.v (c.sl a2 c2)), (37, g.v (g.sl a1 c1)), (2, .slice al l.length cy), (3, .pointer (some ⟨b3, 0, none⟩)), (4, .pointer (some ⟨b4, 0, none⟩)), (36, g.v (g.sl ag cg)), (38, c.v (c.sl ah ch)), (40, .slice al l.length cy), (42, g.v (g.sl ag cg)), (44, c.v (c.sl ah ch))], (b11, cel 40 ([.int .i64 0, .int .i64 0, .slice none 0 0])) :: (b8, cel 27 ([.int .i64 0, .int .i64 0, .slice none 0 0])) :: (b4, cel 27 (ctl c (c.sl ah ch))) :: (b3, cel 24 (gtl g (g.sl ag cg))) :: H, RowsA a2 5 (hrows c.hs) :: RowsA a1 5 (grows g.grs) :: R, [(8, Ld Tryz.prog 27 ⟨b4, 0, none⟩ (c.v (c.sl ah ch))), (6, Ld Tryz.prog 24 ⟨b3, 0, none⟩ (g.v (g.sl ag cg)))])) (fun v9 => ?_) (fun h7d4a0 => ?_)
 obtain ⟨a1, c1, a2, c2, b8, b11⟩ := v9
 dsimp only
 unfold pl3_3_7d4a0
 refine sy_any ?_
 refine sy_alt ?_ ?_
 refine cl rfl cal10 rfl rfl (c_dup_int l al cy (by omega) _ _) ?_
 rintro _ _ R1 ⟨o, rfl, ho, rfl, hR1⟩
 obtain rfl := hR1.symm
 clear hR1
 obtain ⟨a5, c5, he, hf⟩ := o.freeze
 rw [he]
 refine Sy.heap (H' := _) (fun w h => hf h) ?_
 rw [show (irows l).length = l.length from List.length_map _]
 clear he hf
 refine bg (fun w hs => ⟨((lhA (ctl c (c.sl ah ch)) ag27 rfl rfl rfl)) w hs, ((lhA (gtl g (g.sl ag cg)) ag24 rfl rfl rfl)) w hs, trivial⟩) ?_
 exact sy_to (h7f4a0 (a1, c1, a2, c2, a5, c5, b8, b11)) (by repeat' first | exact Sub.nil | apply Sub.cons | rfl | (simp [lk]; omega)) (fun _ h => St.sub ((h.pull b8).pull b11))
 refine sy_alt ?_ ?_
 refine alc rfl zl24 rfl (fun b7 => ?_)
 refine bg (fun w hs => ⟨((lhA (ctl c (c.sl ah ch)) ag27 rfl rfl rfl)) w hs, ((lhA (gtl g (g.sl ag cg)) ag24 rfl rfl rfl)) w hs, trivial⟩) ?_
 exact sy_to (h7d5a0 (a1, c1, a2, c2, b7, b8, b11)) (by repeat' first | exact Sub.nil | apply Sub.cons | rfl | (simp [lk]; omega)) (fun _ h => St.sub (((h.pull b7).pull b8).pull b11))
 refine sy_alt ?_ ?_
 refine alc rfl zl36 rfl (fun b10 => ?_)
 refine bg (fun w hs => ⟨((lhA (ctl c (c.sl ah ch)) ag27 rfl rfl rfl)) w hs, ((lhA (gtl g (g.sl ag cg)) ag24 rfl rfl rfl)) w hs, trivial⟩) ?_
 exact sy_to (h7d4e0 (a1, c1, a2, c2, b8, b10, b11)) (by repeat' first | exact Sub.nil | apply Sub.cons | rfl | (simp [lk]; omega)) (fun _ h => St.sub (((h.pull b8).pull b10).pull b11))
 exact sy_stop
 refine sy_have (β := Option Addr × Nat × Option Addr × Nat × Nat) pl3_3_7d480 (fun ⟨a1, c1, a2, c2, b8⟩ => ([(8, .pointer (some ⟨b8, 0, none⟩)), (39, c.v (c.sl a2 c2)), (37, g.v (g.sl a1 c1)), (2, .slice al l.length cy), (3, .pointer (some ⟨b3, 0, none⟩)), (4, .pointer (some ⟨b4, 0, none⟩)), (36, g.v (g.sl ag cg)), (38, c.v (c.sl ah ch)), (40, .slice al l.length cy), (42, g.v (g.sl ag cg)), (44, c.v (c.sl ah ch))], (b8, cel 27 ([.int .i64 0, .int .i64 0, .slice none 0 0])) :: (b4, cel 27 (ctl c (c.sl ah ch))) :: (b3, cel 24 (gtl g (g.sl ag cg))) :: H, RowsA a2 5 (hrows c.hs) :: RowsA a1 5 (grows g.grs) :: R, [(8, Ld Tryz.prog 27 ⟨b4, 0, none⟩ (c.v (c.sl ah ch))), (6, Ld Tryz.prog 24 ⟨b3, 0, none⟩ (g.v (g.sl ag cg)))])) (fun v9 => ?_) (fun h7d480 => ?_)
 obtain ⟨a1, c1, a2, c2, b8⟩ := v9
 dsimp only
 unfold pl3_3_7d480
 refine sy_any ?_
 refine sy_alt ?_ ?_
 refine cl rfl cal10 rfl rfl (c_dup_int l al cy (by omega) _ _) ?_
 rintro _ _ R1 ⟨o, rfl, ho, rfl, hR1⟩
 obtain rfl := hR1.symm
 clear hR1
 obtain ⟨a5, c5, he, hf⟩ := o.freeze
 rw [he]
 refine Sy.heap (H' := _) (fun w h => hf h) ?_
 rw [show (irows l).length = l.length from List.length_map _]
 clear he hf
 refine bg (fun w hs => ⟨((lhA (ctl c (c.sl ah ch)) ag27 rfl rfl rfl)) w hs, ((lhA (gtl g (g.sl ag cg)) ag24 rfl rfl rfl)) w hs, trivial⟩) ?_
 exact sy_to (h7f480 (a1, c1, a2, c2, a5, c5, b8)) (by repeat' first | exact Sub.nil | apply Sub.cons | rfl | (simp [lk]; omega)) (fun _ h => St.sub (h.pull b8))
 refine sy_alt ?_ ?_
 refine alc rfl zl24 rfl (fun b7 => ?_)
 refine bg (fun w hs => ⟨((lhA (ctl c (c.sl ah ch)) ag27 rfl rfl rfl)) w hs, ((lhA (gtl g (g.sl ag cg)) ag24 rfl rfl rfl)) w hs, trivial⟩) ?_
 exact sy_to (h7d580 (a1, c1, a2, c2, b7, b8)) (by repeat' first | exact Sub.nil | apply Sub.cons | rfl | (simp [lk]; omega)) (fun _ h => St.sub ((h.pull b7).pull b8))
 refine sy_alt ?_ ?_
 refine alc rfl zl36 rfl (fun b10 => ?_)
 refine bg (fun w hs => ⟨((lhA (ctl c (c.sl ah ch)) ag27 rfl rfl rfl)) w hs, ((lhA (gtl g (g.sl ag cg)) ag24 rfl rfl rfl)) w hs, trivial⟩) ?_
 exact sy_to (h7d4c0 (a1, c1, a2, c2, b8, b10)) (by repeat' first | exact Sub.nil | apply Sub.cons | rfl | (simp [lk]; omega)) (fun _ h => St.sub ((h.pull b8).pull b10))
 refine sy_alt ?_ ?_
 refine alc rfl zl40 rfl (fun b11 => ?_)
 refine bg (fun w hs => ⟨((lhA (ctl c (c.sl ah ch)) ag27 rfl rfl rfl)) w hs, ((lhA (gtl g (g.sl ag cg)) ag24 rfl rfl rfl)) w hs, trivial⟩) ?_
 exact sy_to (h7d4a0 (a1, c1, a2, c2, b8, b11)) (by repeat' first | exact Sub.nil | apply Sub.cons | rfl | (simp [lk]; omega)) (fun _ h => St.sub ((h.pull b8).pull b11))
 exact sy_stop
 refine sy_have (β := Option Addr × Nat × Option Addr × Nat × Nat × Nat) pl3_3_7d460 (fun ⟨a1, c1, a2, c2, b10, b11⟩ => ([(11, .pointer (some ⟨b11, 0, none⟩)), (10, .pointer (some ⟨b10, 0, none⟩)), (39, c.v (c.sl a2 c2)), (37, g.v (g.sl a1 c1)), (2, .slice al l.length cy), (3, .pointer (some ⟨b3, 0, none⟩)), (4, .pointer (some ⟨b4, 0, none⟩)), (36, g.v (g.sl ag cg)), (38, c.v (c.sl ah ch)), (40, .slice al l.length cy), (42, g.v (g.sl ag cg)), (44, c.v (c.sl ah ch))], (b11, cel 40 ([.int .i64 0, .int .i64 0, .slice none 0 0])) :: (b10, cel 36 ([.int .i64 0, .int .i64 0, .slice none 0 0])) :: (b4, cel 27 (ctl c (c.sl ah ch))) :: (b3, cel 24 (gtl g (g.sl ag cg))) :: H, RowsA a2 5 (hrows c.hs) :: RowsA a1 5 (grows g.grs) :: R, [(8, Ld Tryz.prog 27 ⟨b4, 0, none⟩ (c.v (c.sl ah ch))), (6, Ld Tryz.prog 24 ⟨b3, 0, none⟩ (g.v (g.sl ag cg)))])) (fun v9 => ?_) (fun h7d460 => ?_)
 obtain ⟨a1, c1, a2, c2, b10, b11⟩ := v9
 dsimp only
 unfold pl3_3_7d460
 refine sy_any ?_
 refine sy_alt ?_ ?_
 refine cl rfl cal10 rfl rfl (c_dup_int l al cy (by omega) _ _) ?_
 rintro _ _ R1 ⟨o, rfl, ho, rfl, hR1⟩
 obtain rfl := hR1.symm
 clear hR1
 obtain ⟨a5, c5, he, hf⟩ := o.freeze
 rw [he]
 refine Sy.heap (H' := _) (fun w h => hf h) ?_
 rw [show (irows l).length = l.length from List.length_map _]
 clear he hf
 refine bg (fun w hs => ⟨((lhA (ctl c (c.sl ah ch)) ag27 rfl rfl rfl)) w hs, ((lhA (gtl g (g.sl ag cg)) ag24 rfl rfl rfl)) w hs, trivial⟩) ?_
 exact sy_to (h7f460 (a1, c1, a2, c2, a5, c5, b10, b11)) (by repeat' first | exact Sub.nil | apply Sub.cons | rfl | (simp [lk]; omega)) (fun _ h => St.sub ((h.pull b10).pull b11))
 refine sy_alt ?_ ?_
 refine alc rfl zl24 rfl (fun b7 => ?_)
 refine bg (fun w hs => ⟨((lhA (ctl c (c.sl ah ch)) ag27 rfl rfl rfl)) w hs, ((lhA (gtl g (g.sl ag cg)) ag24 rfl rfl rfl)) w hs, trivial⟩) ?_
 exact sy_to (h7d560 (a1, c1, a2, c2, b7, b10, b11)) (by repeat' first | exact Sub.nil | apply Sub.cons | rfl | (simp [lk]; omega)) (fun _ h => St.sub (((h.pull b7).pull b10).pull b11))
 refine sy_alt ?_ ?_
 refine alc rfl zl27 rfl (fun b8 => ?_)
 refine bg (fun w hs => ⟨((lhA (ctl c (c.sl ah ch)) ag27 rfl rfl rfl)) w hs, ((lhA (gtl g (g.sl ag cg)) ag24 rfl rfl rfl)) w hs, trivial⟩) ?_
 exact sy_to (h7d4e0 (a1, c1, a2, c2, b8, b10, b11)) (by repeat' first | exact Sub.nil | apply Sub.cons | rfl | (simp [lk]; omega)) (fun _ h => St.sub (((h.pull b8).pull b10).pull b11))
 exact sy_stop
 refine sy_have (β := Option Addr × Nat × Option Addr × Nat × Nat) pl3_3_7d440 (fun ⟨a1, c1, a2, c2, b10⟩ => ([(10, .pointer (some ⟨b10, 0, none⟩)), (39, c.v (c.sl a2 c2)), (37, g.v (g.sl a1 c1)), (2, .slice al l.length cy), (3, .pointer (some ⟨b3, 0, none⟩)), (4, .pointer (some ⟨b4, 0, none⟩)), (36, g.v (g.sl ag cg)), (38, c.v (c.sl ah ch)), (40, .slice al l.length cy), (42, g.v (g.sl ag cg)), (44, c.v (c.sl ah ch))], (b10, cel 36 ([.int .i64 0, .int .i64 0, .slice none 0 0])) :: (b4, cel 27 (ctl c (c.sl ah ch))) :: (b3, cel 24 (gtl g (g.sl ag cg))) :: H, RowsA a2 5 (hrows c.hs) :: RowsA a1 5 (grows g.grs) :: R, [(8, Ld Tryz.prog 27 ⟨b4, 0, none⟩ (c.v (c.sl ah ch))), (6, Ld Tryz.prog 24 ⟨b3, 0, none⟩ (g.v (g.sl ag cg)))])) (fun v9 => ?_) (fun h7d440 => ?_)
 obtain ⟨a1, c1, a2, c2, b10⟩ := v9
 dsimp only
 unfold pl3_3_7d440
 refine sy_any ?_
 refine sy_alt ?_ ?_
 refine cl rfl cal10 rfl rfl (c_dup_int l al cy (by omega) _ _) ?_
 rintro _ _ R1 ⟨o, rfl, ho, rfl, hR1⟩
 obtain rfl := hR1.symm
 clear hR1
 obtain ⟨a5, c5, he, hf⟩ := o.freeze
 rw [he]
 refine Sy.heap (H' := _) (fun w h => hf h) ?_
 rw [show (irows l).length = l.length from List.length_map _]
 clear he hf
 refine bg (fun w hs => ⟨((lhA (ctl c (c.sl ah ch)) ag27 rfl rfl rfl)) w hs, ((lhA (gtl g (g.sl ag cg)) ag24 rfl rfl rfl)) w hs, trivial⟩) ?_
 exact sy_to (h7f440 (a1, c1, a2, c2, a5, c5, b10)) (by repeat' first | exact Sub.nil | apply Sub.cons | rfl | (simp [lk]; omega)) (fun _ h => St.sub (h.pull b10))
 refine sy_alt ?_ ?_
 refine alc rfl zl24 rfl (fun b7 => ?_)
 refine bg (fun w hs => ⟨((lhA (ctl c (c.sl ah ch)) ag27 rfl rfl rfl)) w hs, ((lhA (gtl g (g.sl ag cg)) ag24 rfl rfl rfl)) w hs, trivial⟩) ?_
 exact sy_to (h7d540 (a1, c1, a2, c2, b7, b10)) (by repeat' first | exact Sub.nil | apply Sub.cons | rfl | (simp [lk]; omega)) (fun _ h => St.sub ((h.pull b7).pull b10))
 refine sy_alt ?_ ?_
 refine alc rfl zl27 rfl (fun b8 => ?_)
 refine bg (fun w hs => ⟨((lhA (ctl c (c.sl ah ch)) ag27 rfl rfl rfl)) w hs, ((lhA (gtl g (g.sl ag cg)) ag24 rfl rfl rfl)) w hs, trivial⟩) ?_
 exact sy_to (h7d4c0 (a1, c1, a2, c2, b8, b10)) (by repeat' first | exact Sub.nil | apply Sub.cons | rfl | (simp [lk]; omega)) (fun _ h => St.sub ((h.pull b8).pull b10))
 refine sy_alt ?_ ?_
 refine alc rfl zl40 rfl (fun b11 => ?_)
 refine bg (fun w hs => ⟨((lhA (ctl c (c.sl ah ch)) ag27 rfl rfl rfl)) w hs, ((lhA (gtl g (g.sl ag cg)) ag24 rfl rfl rfl)) w hs, trivial⟩) ?_
 exact sy_to (h7d460 (a1, c1, a2, c2, b10, b11)) (by repeat' first | exact Sub.nil | apply Sub.cons | rfl | (simp [lk]; omega)) (fun _ h => St.sub ((h.pull b10).pull b11))
 exact sy_stop
 refine sy_have (β := Option Addr × Nat × Option Addr × Nat × Nat) pl3_3_7d420 (fun ⟨a1, c1, a2, c2, b11⟩ => ([(11, .pointer (some ⟨b11, 0, none⟩)), (39, c.v (c.sl a2 c2)), (37, g.v (g.sl a1 c1)), (2, .slice al l.length cy), (3, .pointer (some ⟨b3, 0, none⟩)), (4, .pointer (some ⟨b4, 0, none⟩)), (36, g.v (g.sl ag cg)), (38, c.v (c.sl ah ch)), (40, .slice al l.length cy), (42, g.v (g.sl ag cg)), (44, c.v (c.sl ah ch))], (b11, cel 40 ([.int .i64 0, .int .i64 0, .slice none 0 0])) :: (b4, cel 27 (ctl c (c.sl ah ch))) :: (b3, cel 24 (gtl g (g.sl ag cg))) :: H, RowsA a2 5 (hrows c.hs) :: RowsA a1 5 (grows g.grs) :: R, [(8, Ld Tryz.prog 27 ⟨b4, 0, none⟩ (c.v (c.sl ah ch))), (6, Ld Tryz.prog 24 ⟨b3, 0, none⟩ (g.v (g.sl ag cg)))])) (fun v9 => ?_) (fun h7d420 => ?_)
 obtain ⟨a1, c1, a2, c2, b11⟩ := v9
 dsimp only
 unfold pl3_3_7d420
 refine sy_any ?_
 refine sy_alt ?_ ?_
 refine cl rfl cal10 rfl rfl (c_dup_int l al cy (by omega) _ _) ?_
 rintro _ _ R1 ⟨o, rfl, ho, rfl, hR1⟩
 obtain rfl := hR1.symm
 clear hR1
 obtain ⟨a5, c5, he, hf⟩ := o.freeze
 rw [he]
 refine Sy.heap (H' := _) (fun w h => hf h) ?_
 rw [show (irows l).length = l.length from List.length_map _]
 clear he hf
 refine bg (fun w hs => ⟨((lhA (ctl c (c.sl ah ch)) ag27 rfl rfl rfl)) w hs, ((lhA (gtl g (g.sl ag cg)) ag24 rfl rfl rfl)) w hs, trivial⟩) ?_
 exact sy_to (h7f420 (a1, c1, a2, c2, a5, c5, b11)) (by repeat' first | exact Sub.nil | apply Sub.cons | rfl | (simp [lk]; omega)) (fun _ h => St.sub (h.pull b11))
 refine sy_alt ?_ ?_
 refine alc rfl zl24 rfl (fun b7 => ?_)
 refine bg (fun w hs => ⟨((lhA (ctl c (c.sl ah ch)) ag27 rfl rfl rfl)) w hs, ((lhA (gtl g (g.sl ag cg)) ag24 rfl rfl rfl)) w hs, trivial⟩) ?_
 exact sy_to (h7d520 (a1, c1, a2, c2, b7, b11)) (by repeat' first | exact Sub.nil | apply Sub.cons | rfl | (simp [lk]; omega)) (fun _ h => St.sub ((h.pull b7).pull b11))
 refine sy_alt ?_ ?_
 refine alc rfl zl27 rfl (fun b8 => ?_)
 refine bg (fun w hs => ⟨((lhA (ctl c (c.sl ah ch)) ag27 rfl rfl rfl)) w hs, ((lhA (gtl g (g.sl ag cg)) ag24 rfl rfl rfl)) w hs, trivial⟩) ?_
 exact sy_to (h7d4a0 (a1, c1, a2, c2, b8, b11)) (by repeat' first | exact Sub.nil | apply Sub.cons | rfl | (simp [lk]; omega)) (fun _ h => St.sub ((h.pull b8).pull b11))
 refine sy_alt ?_ ?_
 refine alc rfl zl36 rfl (fun b10 => ?_)
 refine bg (fun w hs => ⟨((lhA (ctl c (c.sl ah ch)) ag27 rfl rfl rfl)) w hs, ((lhA (gtl g (g.sl ag cg)) ag24 rfl rfl rfl)) w hs, trivial⟩) ?_
 exact sy_to (h7d460 (a1, c1, a2, c2, b10, b11)) (by repeat' first | exact Sub.nil | apply Sub.cons | rfl | (simp [lk]; omega)) (fun _ h => St.sub ((h.pull b10).pull b11))
 exact sy_stop
 refine sy_have (β := Option Addr × Nat × Nat × Nat × Nat × Nat) pl3_3_755e0 (fun ⟨a1, c1, b7, b8, b10, b11⟩ => ([(11, .pointer (some ⟨b11, 0, none⟩)), (10, .pointer (some ⟨b10, 0, none⟩)), (8, .pointer (some ⟨b8, 0, none⟩)), (7, .pointer (some ⟨b7, 0, none⟩)), (37, g.v (g.sl a1 c1)), (2, .slice al l.length cy), (3, .pointer (some ⟨b3, 0, none⟩)), (4, .pointer (some ⟨b4, 0, none⟩)), (36, g.v (g.sl ag cg)), (38, c.v (c.sl ah ch)), (40, .slice al l.length cy), (42, g.v (g.sl ag cg)), (44, c.v (c.sl ah ch))], (b11, cel 40 ([.int .i64 0, .int .i64 0, .slice none 0 0])) :: (b10, cel 36 ([.int .i64 0, .int .i64 0, .slice none 0 0])) :: (b8, cel 27 ([.int .i64 0, .int .i64 0, .slice none 0 0])) :: (b7, cel 24 ([.int .i64 0, .int .i64 0, .slice none 0 0])) :: (b4, cel 27 (ctl c (c.sl ah ch))) :: (b3, cel 24 (gtl g (g.sl ag cg))) :: H, RowsA a1 5 (grows g.grs) :: R, [(8, Ld Tryz.prog 27 ⟨b4, 0, none⟩ (c.v (c.sl ah ch))), (6, Ld Tryz.prog 24 ⟨b3, 0, none⟩ (g.v (g.sl ag cg))), (2, Ld Tryz.prog 27 ⟨b4, 0, none⟩ (c.v (c.sl ah ch)))])) (fun v9 => ?_) (fun h755e0 => ?_)
 obtain ⟨a1, c1, b7, b8, b10, b11⟩ := v9
 dsimp only
 unfold pl3_3_755e0
 refine cl rfl cal9 rfl rfl (c_Owned c ah ch (by omega) _ _) ?_
 rintro _ _ R1 ⟨o, rfl, ho, rfl, hR1⟩
 obtain rfl := hR1.symm
 clear hR1
 obtain ⟨a2, c2, he, hf⟩ := o.freeze
 rw [he]
 refine Sy.heap (H' := _) (fun w h => hf h) ?_
 rw [show (hrows c.hs).length = c.hs.length from List.length_map _]
 clear he hf
 refine bg (fun w hs => ⟨((lhA (ctl c (c.sl ah ch)) ag27 rfl rfl rfl)) w hs, ((lhA (gtl g (g.sl ag cg)) ag24 rfl rfl rfl)) w hs, trivial, trivial⟩) ?_
 exact sy_to (h7d5e0 (a1, c1, a2, c2, b7, b8, b10, b11)) (by repeat' first | exact Sub.nil | apply Sub.cons | rfl | (simp [lk]; omega)) (fun _ h => St.sub ((((h.pull b7).pull b8).pull b10).pull b11))
 refine sy_have (β := Option Addr × Nat × Nat × Nat × Nat) pl3_3_755c0 (fun ⟨a1, c1, b7, b8, b10⟩ => ([(10, .pointer (some ⟨b10, 0, none⟩)), (8, .pointer (some ⟨b8, 0, none⟩)), (7, .pointer (some ⟨b7, 0, none⟩)), (37, g.v (g.sl a1 c1)), (2, .slice al l.length cy), (3, .pointer (some ⟨b3, 0, none⟩)), (4, .pointer (some ⟨b4, 0, none⟩)), (36, g.v (g.sl ag cg)), (38, c.v (c.sl ah ch)), (40, .slice al l.length cy), (42, g.v (g.sl ag cg)), (44, c.v (c.sl ah ch))], (b10, cel 36 ([.int .i64 0, .int .i64 0, .slice none 0 0])) :: (b8, cel 27 ([.int .i64 0, .int .i64 0, .slice none 0 0])) :: (b7, cel 24 ([.int .i64 0, .int .i64 0, .slice none 0 0])) :: (b4, cel 27 (ctl c (c.sl ah ch))) :: (b3, cel 24 (gtl g (g.sl ag cg))) :: H, RowsA a1 5 (grows g.grs) :: R, [(8, Ld Tryz.prog 27 ⟨b4, 0, none⟩ (c.v (c.sl ah ch))), (6, Ld Tryz.prog 24 ⟨b3, 0, none⟩ (g.v (g.sl ag cg))), (2, Ld Tryz.prog 27 ⟨b4, 0, none⟩ (c.v (c.sl ah ch)))])) (fun v9 => ?_) (fun h755c0 => ?_)
 obtain ⟨a1, c1, b7, b8, b10⟩ := v9
 dsimp only
 unfold pl3_3_755c0
 refine sy_any ?_
 refine sy_alt ?_ ?_
 refine cl rfl cal9 rfl rfl (c_Owned c ah ch (by omega) _ _) ?_
 rintro _ _ R1 ⟨o, rfl, ho, rfl, hR1⟩
 obtain rfl := hR1.symm
 clear hR1
 obtain ⟨a2, c2, he, hf⟩ := o.freeze
 rw [he]
 refine Sy.heap (H' := _) (fun w h => hf h) ?_
 rw [show (hrows c.hs).length = c.hs.length from List.length_map _]
 clear he hf
 refine bg (fun w hs => ⟨((lhA (ctl c (c.sl ah ch)) ag27 rfl rfl rfl)) w hs, ((lhA (gtl g (g.sl ag cg)) ag24 rfl rfl rfl)) w hs, trivial, trivial⟩) ?_
 exact sy_to (h7d5c0 (a1, c1, a2, c2, b7, b8, b10)) (by repeat' first | exact Sub.nil | apply Sub.cons | rfl | (simp [lk]; omega)) (fun _ h => St.sub (((h.pull b7).pull b8).pull b10))
 refine sy_alt ?_ ?_
 refine alc rfl zl40 rfl (fun b11 => ?_)
 refine bg (fun w hs => ⟨((lhA (ctl c (c.sl ah ch)) ag27 rfl rfl rfl)) w hs, ((lhA (gtl g (g.sl ag cg)) ag24 rfl rfl rfl)) w hs, ((lhA (ctl c (c.sl ah ch)) ag27 rfl rfl rfl)) w hs, trivial⟩) ?_
 exact sy_to (h755e0 (a1, c1, b7, b8, b10, b11)) (by repeat' first | exact Sub.nil | apply Sub.cons | rfl | (simp [lk]; omega)) (fun _ h => St.sub ((((h.pull b7).pull b8).pull b10).pull b11))
 exact sy_stop
 refine sy_have (β := Option Addr × Nat × Nat × Nat × Nat) pl3_3_755a0 (fun ⟨a1, c1, b7, b8, b11⟩ => ([(11, .pointer (some ⟨b11, 0, none⟩)), (8, .pointer (some ⟨b8, 0, none⟩)), (7, .pointer (some ⟨b7, 0, none⟩)), (37, g.v (g.sl a1 c1)), (2, .slice al l.length cy), (3, .pointer (some ⟨b3, 0, none⟩)), (4, .pointer (some ⟨b4, 0, none⟩)), (36, g.v (g.sl ag cg)), (38, c.v (c.sl ah ch)), (40, .slice al l.length cy), (42, g.v (g.sl ag cg)), (44, c.v (c.sl ah ch))], (b11, cel 40 ([.int .i64 0, .int .i64 0, .slice none 0 0])) :: (b8, cel 27 ([.int .i64 0, .int .i64 0, .slice none 0 0])) :: (b7, cel 24 ([.int .i64 0, .int .i64 0, .slice none 0 0])) :: (b4, cel 27 (ctl c (c.sl ah ch))) :: (b3, cel 24 (gtl g (g.sl ag cg))) :: H, RowsA a1 5 (grows g.grs) :: R, [(8, Ld Tryz.prog 27 ⟨b4, 0, none⟩ (c.v (c.sl ah ch))), (6, Ld Tryz.prog 24 ⟨b3, 0, none⟩ (g.v (g.sl ag cg))), (2, Ld Tryz.prog 27 ⟨b4, 0, none⟩ (c.v (c.sl ah ch)))])) (fun v9 => ?_) (fun h755a0 => ?_)
 obtain ⟨a1, c1, b7, b8, b11⟩ := v9
 dsimp only
 unfold pl3_3_755a0
 refine sy_any ?_
 refine sy_alt ?_ ?_
 refine cl rfl cal9 rfl rfl (c_Owned c ah ch (by omega) _ _) ?_
 rintro _ _ R1 ⟨o, rfl, ho, rfl, hR1⟩
 obtain rfl := hR1.symm
 clear hR1
 obtain ⟨a2, c2, he, hf⟩ := o.freeze
 rw [he]
 refine Sy.heap (H' := _) (fun w h => hf h) ?_
 rw [show (hrows c.hs).length = c.hs.length from List.length_map _]
 clear he hf
 refine bg (fun w hs => ⟨((lhA (ctl c (c.sl ah ch)) ag27 rfl rfl rfl)) w hs, ((lhA (gtl g (g.sl ag cg)) ag24 rfl rfl rfl)) w hs, trivial, trivial⟩) ?_
 exact sy_to (h7d5a0 (a1, c1, a2, c2, b7, b8, b11)) (by repeat' first | exact Sub.nil | apply Sub.cons | rfl | (simp [lk]; omega)) (fun _ h => St.sub (((h.pull b7).pull b8).pull b11))
 refine sy_alt ?_ ?_
 refine alc rfl zl36 rfl (fun b10 => ?_)
 refine bg (fun w hs => ⟨((lhA (ctl c (c.sl ah ch)) ag27 rfl rfl rfl)) w hs, ((lhA (gtl g (g.sl ag cg)) ag24 rfl rfl rfl)) w hs, ((lhA (ctl c (c.sl ah ch)) ag27 rfl rfl rfl)) w hs, trivial⟩) ?_
 exact sy_to (h755e0 (a1, c1, b7, b8, b10, b11)) (by repeat' first | exact Sub.nil | apply Sub.cons | rfl | (simp [lk]; omega)) (fun _ h => St.sub ((((h.pull b7).pull b8).pull b10).pull b11))
 exact sy_stop
 refine sy_have (β := Option Addr × Nat × Nat × Nat) pl3_3_75580 (fun ⟨a1, c1, b7, b8⟩ => ([(8, .pointer (some ⟨b8, 0, none⟩)), (7, .pointer (some ⟨b7, 0, none⟩)), (37, g.v (g.sl a1 c1)), (2, .slice al l.length cy), (3, .pointer (some ⟨b3, 0, none⟩)), (4, .pointer (some ⟨b4, 0, none⟩)), (36, g.v (g.sl ag cg)), (38, c.v (c.sl ah ch)), (40, .slice al l.length cy), (42, g.v (g.sl ag cg)), (44, c.v (c.sl ah ch))], (b8, cel 27 ([.int .i64 0, .int .i64 0, .slice none 0 0])) :: (b7, cel 24 ([.int .i64 0, .int .i64 0, .slice none 0 0])) :: (b4, cel 27 (ctl c (c.sl ah ch))) :: (b3, cel 24 (gtl g (g.sl ag cg))) :: H, RowsA a1 5 (grows g.grs) :: R, [(8, Ld Tryz.prog 27 ⟨b4, 0, none⟩ (c.v (c.sl ah ch))), (6, Ld Tryz.prog 24 ⟨b3, 0, none⟩ (g.v (g.sl ag cg))), (2, Ld Tryz.prog 27 ⟨b4, 0, none⟩ (c.v (c.sl ah ch)))])) (fun v9 => ?_) (fun h75580 => ?_)
 obtain ⟨a1, c1, b7, b8⟩ := v9
 dsimp only
 unfold pl3_3_75580
 refine sy_any ?_
 refine sy_alt ?_ ?_
 refine cl rfl cal9 rfl rfl (c_Owned c ah ch (by omega) _ _) ?_
 rintro _ _ R1 ⟨o, rfl, ho, rfl, hR1⟩
 obtain rfl := hR1.symm
 clear hR1
 obtain ⟨a2, c2, he, hf⟩ := o.freeze
 rw [he]
 refine Sy.heap (H' := _) (fun w h => hf h) ?_
 rw [show (hrows c.hs).length = c.hs.length from List.length_map _]
 clear he hf
 refine bg (fun w hs => ⟨((lhA (ctl c (c.sl ah ch)) ag27 rfl rfl rfl)) w hs, ((lhA (gtl g (g.sl ag cg)) ag24 rfl rfl rfl)) w hs, trivial, trivial⟩) ?_
 exact sy_to (h7d580 (a1, c1, a2, c2, b7, b8)) (by repeat' first | exact Sub.nil | apply Sub.cons | rfl | (simp [lk]; omega)) (fun _ h => St.sub ((h.pull b7).pull b8))
 refine sy_alt ?_ ?_
 refine alc rfl zl36 rfl (fun b10 => ?_)
 refine bg (fun w hs => ⟨((lhA (ctl c (c.sl ah ch)) ag27 rfl rfl rfl)) w hs, ((lhA (gtl g (g.sl ag cg)) ag24 rfl rfl rfl)) w hs, ((lhA (ctl c (c.sl ah ch)) ag27 rfl rfl rfl)) w hs, trivial⟩) ?_
 exact sy_to (h755c0 (a1, c1, b7, b8, b10)) (by repeat' first | exact Sub.nil | apply Sub.cons | rfl | (simp [lk]; omega)) (fun _ h => St.sub (((h.pull b7).pull b8).pull b10))
 refine sy_alt ?_ ?_
 refine alc rfl zl40 rfl (fun b11 => ?_)
 refine bg (fun w hs => ⟨((lhA (ctl c (c.sl ah ch)) ag27 rfl rfl rfl)) w hs, ((lhA (gtl g (g.sl ag cg)) ag24 rfl rfl rfl)) w hs, ((lhA (ctl c (c.sl ah ch)) ag27 rfl rfl rfl)) w hs, trivial⟩) ?_
 exact sy_to (h755a0 (a1, c1, b7, b8, b11)) (by repeat' first | exact Sub.nil | apply Sub.cons | rfl | (simp [lk]; omega)) (fun _ h => St.sub (((h.pull b7).pull b8).pull b11))
 exact sy_stop
 refine sy_have (β := Option Addr × Nat × Nat × Nat × Nat) pl3_3_75560 (fun ⟨a1, c1, b7, b10, b11⟩ => ([(11, .pointer (some ⟨b11, 0, none⟩)), (10, .pointer (some ⟨b10, 0, none⟩)), (7, .pointer (some ⟨b7, 0, none⟩)), (37, g.v (g.sl a1 c1)), (2, .slice al l.length cy), (3, .pointer (some ⟨b3, 0, none⟩)), (4, .pointer (some ⟨b4, 0, none⟩)), (36, g.v (g.sl ag cg)), (38, c.v (c.sl ah ch)), (40, .slice al l.length cy), (42, g.v (g.sl ag cg)), (44, c.v (c.sl ah ch))], (b11, cel 40 ([.int .i64 0, .int .i64 0, .slice none 0 0])) :: (b10, cel 36 ([.int .i64 0, .int .i64 0, .slice none 0 0])) :: (b7, cel 24 ([.int .i64 0, .int .i64 0, .slice none 0 0])) :: (b4, cel 27 (ctl c (c.sl ah ch))) :: (b3, cel 24 (gtl g (g.sl ag cg))) :: H, RowsA a1 5 (grows g.grs) :: R, [(8, Ld Tryz.prog 27 ⟨b4, 0, none⟩ (c.v (c.sl ah ch))), (6, Ld Tryz.prog 24 ⟨b3, 0, none⟩ (g.v (g.sl ag cg))), (2, Ld Tryz.prog 27 ⟨b4, 0, none⟩ (c.v (c.sl ah ch)))])) (fun v9 => ?_) (fun h75560 => ?_)
 obtain ⟨a1, c1, b7, b10, b11⟩ := v9
 dsimp only
 unfold pl3_3_75560
 refine sy_any ?_
 refine sy_alt ?_ ?_
 refine cl rfl cal9 rfl rfl (c_Owned c ah ch (by omega) _ _) ?_
 rintro _ _ R1 ⟨o, rfl, ho, rfl, hR1⟩
 obtain rfl := hR1.symm
 clear hR1
 obtain ⟨a2, c2, he, hf⟩ := o.freeze
 rw [he]
 refine Sy.heap (H' := _) (fun w h => hf h) ?_
 rw [show (hrows c.hs).length = c.hs.length from List.length_map _]
 clear he hf
 refine bg (fun w hs => ⟨((lhA (ctl c (c.sl ah ch)) ag27 rfl rfl rfl)) w hs, ((lhA (gtl g (g.sl ag cg)) ag24 rfl rfl rfl)) w hs, trivial, trivial⟩) ?_
 exact sy_to (h7d560 (a1, c1, a2, c2, b7, b10, b11)) (by repeat' first | exact Sub.nil | apply Sub.cons | rfl | (simp [lk]; omega)) (fun _ h => St.sub (((h.pull b7).pull b10).pull b11))
 refine sy_alt ?_ ?_
 refine alc rfl zl27 rfl (fun b8 => ?_)
 refine bg (fun w hs => ⟨((lhA (ctl c (c.sl ah ch)) ag27 rfl rfl rfl)) w hs, ((lhA (gtl g (g.sl ag cg)) ag24 rfl rfl rfl)) w hs, ((lhA (ctl c (c.sl ah ch)) ag27 rfl rfl rfl)) w hs, trivial⟩) ?_
 exact sy_to (h755e0 (a1, c1, b7, b8, b10, b11)) (by repeat' first | exact Sub.nil | apply Sub.cons | rfl | (simp [lk]; omega)) (fun _ h => St.sub ((((h.pull b7).pull b8).pull b10).pull b11))
 exact sy_stop
 refine sy_have (β := Option Addr × Nat × Nat × Nat) pl3_3_75540 (fun ⟨a1, c1, b7, b10⟩ => ([(10, .pointer (some ⟨b10, 0, none⟩)), (7, .pointer (some ⟨b7, 0, none⟩)), (37, g.v (g.sl a1 c1)), (2, .slice al l.length cy), (3, .pointer (some ⟨b3, 0, none⟩)), (4, .pointer (some ⟨b4, 0, none⟩)), (36, g.v (g.sl ag cg)), (38, c.v (c.sl ah ch)), (40, .slice al l.length cy), (42, g.v (g.sl ag cg)), (44, c.v (c.sl ah ch))], (b10, cel 36 ([.int .i64 0, .int .i64 0, .slice none 0 0])) :: (b7, cel 24 ([.int .i64 0, .int .i64 0, .slice none 0 0])) :: (b4, cel 27 (ctl c (c.sl ah ch))) :: (b3, cel 24 (gtl g (g.sl ag cg))) :: H, RowsA a1 5 (grows g.grs) :: R, [(8, Ld Tryz.prog 27 ⟨b4, 0, none⟩ (c.v (c.sl ah ch))), (6, Ld Tryz.prog 24 ⟨b3, 0, none⟩ (g.v (g.sl ag cg))), (2, Ld Tryz.prog 27 ⟨b4, 0, none⟩ (c.v (c.sl ah ch)))])) (fun v9 => ?_) (fun h75540 => ?_)
 obtain ⟨a1, c1, b7, b10⟩ := v9
 dsimp only
 unfold pl3_3_75540
 refine sy_any ?_
 refine sy_alt ?_ ?_
 refine cl rfl cal9 rfl rfl (c_Owned c ah ch (by omega) _ _) ?_
 rintro _ _ R1 ⟨o, rfl, ho, rfl, hR1⟩
 obtain rfl := hR1.symm
 clear hR1
 obtain ⟨a2, c2, he, hf⟩ := o.freeze
 rw [he]
 refine Sy.heap (H' := _) (fun w h => hf h) ?_
 rw [show (hrows c.hs).length = c.hs.length from List.length_map _]
 clear he hf
 refine bg (fun w hs => ⟨((lhA (ctl c (c.sl ah ch)) ag27 rfl rfl rfl)) w hs, ((lhA (gtl g (g.sl ag cg)) ag24 rfl rfl rfl)) w hs, trivial, trivial⟩) ?_
 exact sy_to (h7d540 (a1, c1, a2, c2, b7, b10)) (by repeat' first | exact Sub.nil | apply Sub.cons | rfl | (simp [lk]; omega)) (fun _ h => St.sub ((h.pull b7).pull b10))
 refine sy_alt ?_ ?_
 refine alc rfl zl27 rfl (fun b8 => ?_)
 refine bg (fun w hs => ⟨((lhA (ctl c (c.sl ah ch)) ag27 rfl rfl rfl)) w hs, ((lhA (gtl g (g.sl ag cg)) ag24 rfl rfl rfl)) w hs, ((lhA (ctl c (c.sl ah ch)) ag27 rfl rfl rfl)) w hs, trivial⟩) ?_
 exact sy_to (h755c0 (a1, c1, b7, b8, b10)) (by repeat' first | exact Sub.nil | apply Sub.cons | rfl | (simp [lk]; omega)) (fun _ h => St.sub (((h.pull b7).pull b8).pull b10))
 refine sy_alt ?_ ?_
 refine alc rfl zl40 rfl (fun b11 => ?_)
 refine bg (fun w hs => ⟨((lhA (ctl c (c.sl ah ch)) ag27 rfl rfl rfl)) w hs, ((lhA (gtl g (g.sl ag cg)) ag24 rfl rfl rfl)) w hs, ((lhA (ctl c (c.sl ah ch)) ag27 rfl rfl rfl)) w hs, trivial⟩) ?_
 exact sy_to (h75560 (a1, c1, b7, b10, b11)) (by repeat' first | exact Sub.nil | apply Sub.cons | rfl | (simp [lk]; omega)) (fun _ h => St.sub (((h.pull b7).pull b10).pull b11))
 exact sy_stop
 refine sy_have (β := Option Addr × Nat × Nat × Nat) pl3_3_75520 (fun ⟨a1, c1, b7, b11⟩ => ([(11, .pointer (some ⟨b11, 0, none⟩)), (7, .pointer (some ⟨b7, 0, none⟩)), (37, g.v (g.sl a1 c1)), (2, .slice al l.length cy), (3, .pointer (some ⟨b3, 0, none⟩)), (4, .pointer (some ⟨b4, 0, none⟩)), (36, g.v (g.sl ag cg)), (38, c.v (c.sl ah ch)), (40, .slice al l.length cy), (42, g.v (g.sl ag cg)), (44, c.v (c.sl ah ch))], (b11, cel 40 ([.int .i64 0, .int .i64 0, .slice none 0 0])) :: (b7, cel 24 ([.int .i64 0, .int .i64 0, .slice none 0 0])) :: (b4, cel 27 (ctl c (c.sl ah ch))) :: (b3, cel 24 (gtl g (g.sl ag cg))) :: H, RowsA a1 5 (grows g.grs) :: R, [(8, Ld Tryz.prog 27 ⟨b4, 0, none⟩ (c.v (c.sl ah ch))), (6, Ld Tryz.prog 24 ⟨b3, 0, none⟩ (g.v (g.sl ag cg))), (2, Ld Tryz.prog 27 ⟨b4, 0, none⟩ (c.v (c.sl ah ch)))])) (fun v9 => ?_) (fun h75520 => ?_)
 obtain ⟨a1, c1, b7, b11⟩ := v9
 dsimp only
 unfold pl3_3_75520
 refine sy_any ?_
 refine sy_alt ?_ ?_
 refine cl rfl cal9 rfl rfl (c_Owned c ah ch (by omega) _ _) ?_
 rintro _ _ R1 ⟨o, rfl, ho, rfl, hR1⟩
 obtain rfl := hR1.symm
 clear hR1
 obtain ⟨a2, c2, he, hf⟩ := o.freeze
 rw [he]
 refine Sy.heap (H' := _) (fun w h => hf h) ?_
 rw [show (hrows c.hs).length = c.hs.length from List.length_map _]
 clear he hf
 refine bg (fun w hs => ⟨((lhA (ctl c (c.sl ah ch)) ag27 rfl rfl rfl)) w hs, ((lhA (gtl g (g.sl ag cg)) ag24 rfl rfl rfl)) w hs, trivial, trivial⟩) ?_
 exact sy_to (h7d520 (a1, c1, a2, c2, b7, b11)) (by repeat' first | exact Sub.nil | apply Sub.cons | rfl | (simp [lk]; omega)) (fun _ h => St.sub ((h.pull b7).pull b11))
 refine sy_alt ?_ ?_
 refine alc rfl zl27 rfl (fun b8 => ?_)
 refine bg (fun w hs => ⟨((lhA (ctl c (c.sl ah ch)) ag27 rfl rfl rfl)) w hs, ((lhA (gtl g (g.sl ag cg)) ag24 rfl rfl rfl)) w hs, ((lhA (ctl c (c.sl ah ch)) ag27 rfl rfl rfl)) w hs, trivial⟩) ?_
 exact sy_to (h755a0 (a1, c1, b7, b8, b11)) (by repeat' first | exact Sub.nil | apply Sub.cons | rfl | (simp [lk]; omega)) (fun _ h => St.sub (((h.pull b7).pull b8).pull b11))
 refine sy_alt ?_ ?_
 refine alc rfl zl36 rfl (fun b10 => ?_)
 refine bg (fun w hs => ⟨((lhA (ctl c (c.sl ah ch)) ag27 rfl rfl rfl)) w hs, ((lhA (gtl g (g.sl ag cg)) ag24 rfl rfl rfl)) w hs, ((lhA (ctl c (c.sl ah ch)) ag27 rfl rfl rfl)) w hs, trivial⟩) ?_
 exact sy_to (h75560 (a1, c1, b7, b10, b11)) (by repeat' first | exact Sub.nil | apply Sub.cons | rfl | (simp [lk]; omega)) (fun _ h => St.sub (((h.pull b7).pull b10).pull b11))
 exact sy_stop
 refine sy_have (β := Option Addr × Nat × Nat) pl3_3_75500 (fun ⟨a1, c1, b7⟩ => ([(7, .pointer (some ⟨b7, 0, none⟩)), (37, g.v (g.sl a1 c1)), (2, .slice al l.length cy), (3, .pointer (some ⟨b3, 0, none⟩)), (4, .pointer (some ⟨b4, 0, none⟩)), (36, g.v (g.sl ag cg)), (38, c.v (c.sl ah ch)), (40, .slice al l.length cy), (42, g.v (g.sl ag cg)), (44, c.v (c.sl ah ch))], (b7, cel 24 ([.int .i64 0, .int .i64 0, .slice none 0 0])) :: (b4, cel 27 (ctl c (c.sl ah ch))) :: (b3, cel 24 (gtl g (g.sl ag cg))) :: H, RowsA a1 5 (grows g.grs) :: R, [(8, Ld Tryz.prog 27 ⟨b4, 0, none⟩ (c.v (c.sl ah ch))), (6, Ld Tryz.prog 24 ⟨b3, 0, none⟩ (g.v (g.sl ag cg))), (2, Ld Tryz.prog 27 ⟨b4, 0, none⟩ (c.v (c.sl ah ch)))])) (fun v9 => ?_) (fun h75500 => ?_)
 obtain ⟨a1, c1, b7⟩ := v9
 dsimp only
 unfold pl3_3_75500
 refine sy_any ?_
 refine sy_alt ?_ ?_
 refine cl rfl cal9 rfl rfl (c_Owned c ah ch (by omega) _ _) ?_
 rintro _ _ R1 ⟨o, rfl, ho, rfl, hR1⟩
 obtain rfl := hR1.symm
 clear hR1
 obtain ⟨a2, c2, he, hf⟩ := o.freeze
 rw [he]
 refine Sy.heap (H' := _) (fun w h => hf h) ?_
 rw [show (hrows c.hs).length = c.hs.length from List.length_map _]
 clear he hf
 refine bg (fun w hs => ⟨((lhA (ctl c (c.sl ah ch)) ag27 rfl rfl rfl)) w hs, ((lhA (gtl g (g.sl ag cg)) ag24 rfl rfl rfl)) w hs, trivial, trivial⟩) ?_
 exact sy_to (h7d500 (a1, c1, a2, c2, b7)) (by repeat' first | exact Sub.nil | apply Sub.cons | rfl | (simp [lk]; omega)) (fun _ h => St.sub (h.pull b7))
 refine sy_alt ?_ ?_
 refine alc rfl zl27 rfl (fun b8 => ?_)
 refine bg (fun w hs => ⟨((lhA (ctl c (c.sl ah ch)) ag27 rfl rfl rfl)) w hs, ((lhA (gtl g (g.sl ag cg)) ag24 rfl rfl rfl)) w hs, ((lhA (ctl c (c.sl ah ch)) ag27 rfl rfl rfl)) w hs, trivial⟩) ?_
 exact sy_to (h75580 (a1, c1, b7, b8)) (by repeat' first | exact Sub.nil | apply Sub.cons | rfl | (simp [lk]; omega)) (fun _ h => St.sub ((h.pull b7).pull b8))
 refine sy_alt ?_ ?_
 refine alc rfl zl36 rfl (fun b10 => ?_)
 refine bg (fun w hs => ⟨((lhA (ctl c (c.sl ah ch)) ag27 rfl rfl rfl)) w hs, ((lhA (gtl g (g.sl ag cg)) ag24 rfl rfl rfl)) w hs, ((lhA (ctl c (c.sl ah ch)) ag27 rfl rfl rfl)) w hs, trivial⟩) ?_
 exact sy_to (h75540 (a1, c1, b7, b10)) (by repeat' first | exact Sub.nil | apply Sub.cons | rfl | (simp [lk]; omega)) (fun _ h => St.sub ((h.pull b7).pull b10))
 refine sy_alt ?_ ?_
 refine alc rfl zl40 rfl (fun b11 => ?_)
 refine bg (fun w hs => ⟨((lhA (ctl c (c.sl ah ch)) ag27 rfl rfl rfl)) w hs, ((lhA (gtl g (g.sl ag cg)) ag24 rfl rfl rfl)) w hs, ((lhA (ctl c (c.sl ah ch)) ag27 rfl rfl rfl)) w hs, trivial⟩) ?_
 exact sy_to (h75520 (a1, c1, b7, b11)) (by repeat' first | exact Sub.nil | apply Sub.cons | rfl | (simp [lk]; omega)) (fun _ h => St.sub ((h.pull b7).pull b11))
 exact sy_stop
 refine sy_have (β := Option Addr × Nat × Nat × Nat × Nat) pl3_3_754e0 (fun ⟨a1, c1, b8, b10, b11⟩ => ([(11, .pointer (some ⟨b11, 0, none⟩)), (10, .pointer (some ⟨b10, 0, none⟩)), (8, .pointer (some ⟨b8, 0, none⟩)), (37, g.v (g.sl a1 c1)), (2, .slice al l.length cy), (3, .pointer (some ⟨b3, 0, none⟩)), (4, .pointer (some ⟨b4, 0, none⟩)), (36, g.v (g.sl ag cg)), (38, c.v (c.sl ah ch)), (40, .slice al l.length cy), (42, g.v (g.sl ag cg)), (44, c.v (c.sl ah ch))], (b11, cel 40 ([.int .i64 0, .int .i64 0, .slice none 0 0])) :: (b10, cel 36 ([.int .i64 0, .int .i64 0, .slice none 0 0])) :: (b8, cel 27 ([.int .i64 0, .int .i64 0, .slice none 0 0])) :: (b4, cel 27 (ctl c (c.sl ah ch))) :: (b3, cel 24 (gtl g (g.sl ag cg))) :: H, RowsA a1 5 (grows g.grs) :: R, [(8, Ld Tryz.prog 27 ⟨b4, 0, none⟩ (c.v (c.sl ah ch))), (6, Ld Tryz.prog 24 ⟨b3, 0, none⟩ (g.v (g.sl ag cg))), (2, Ld Tryz.prog 27 ⟨b4, 0, none⟩ (c.v (c.sl ah ch)))])) (fun v9 => ?_) (fun h754e0 => ?_)
 obtain ⟨a1, c1, b8, b10, b11⟩ := v9
 dsimp only
 unfold pl3_3_754e0
 refine sy_any ?_
 refine sy_alt ?_ ?_
 refine cl rfl cal9 rfl rfl (c_Owned c ah ch (by omega) _ _) ?_
 rintro _ _ R1 ⟨o, rfl, ho, rfl, hR1⟩
 obtain rfl := hR1.symm
 clear hR1
 obtain ⟨a2, c2, he, hf⟩ := o.freeze
 rw [he]
 refine Sy.heap (H' := _) (fun w h => hf h) ?_
 rw [show (hrows c.hs).length = c.hs.length from List.length_map _]
 clear he hf
 refine bg (fun w hs => ⟨((lhA (ctl c (c.sl ah ch)) ag27 rfl rfl rfl)) w hs, ((lhA (gtl g (g.sl ag cg)) ag24 rfl rfl rfl)) w hs, trivial, trivial⟩) ?_
 exact sy_to (h7d4e0 (a1, c1, a2, c2, b8, b10, b11)) (by repeat' first | exact Sub.nil | apply Sub.cons | rfl | (simp [lk]; omega)) (fun _ h => St.sub (((h.pull b8).pull b10).pull b11))
 refine sy_alt ?_ ?_
 refine alc rfl zl24 rfl (fun b7 => ?_)
 refine bg (fun w hs => ⟨((lhA (ctl c (c.sl ah ch)) ag27 rfl rfl rfl)) w hs, ((lhA (gtl g (g.sl ag cg)) ag24 rfl rfl rfl)) w hs, ((lhA (ctl c (c.sl ah ch)) ag27 rfl rfl rfl)) w hs, trivial⟩) ?_
 exact sy_to (h755e0 (a1, c1, b7, b8, b10, b11)) (by repeat' first | exact Sub.nil | apply Sub.cons | rfl | (simp [lk]; omega)) (fun _ h => St.sub ((((h.pull b7).pull b8).pull b10).pull b11))
 exact sy_stop
 refine sy_have (β := Option Addr × Nat × Nat × Nat) pl3_3_754c0 (fun ⟨a1, c1, b8, b10⟩ => ([(10, .pointer (some ⟨b10, 0, none⟩)), (8, .pointer (some ⟨b8, 0, none⟩)), (37, g.v (g.sl a1 c1)), (2, .slice al l.length cy), (3, .pointer (some ⟨b3, 0, none⟩)), (4, .pointer (some ⟨b4, 0, none⟩)), (36, g.v (g.sl ag cg)), (38, c.v (c.sl ah ch)), (40, .slice al l.length cy), (42, g.v (g.sl ag cg)), (44, c.v (c.sl ah ch))], (b10, cel 36 ([.int .i64 0, .int .i64 0, .slice none 0 0])) :: (b8, cel 27 ([.int .i64 0, .int .i64 0, .slice none 0 0])) :: (b4, cel 27 (ctl c (c.sl ah ch))) :: (b3, cel 24 (gtl g (g.sl ag cg))) :: H, RowsA a1 5 (grows g.grs) :: R, [(8, Ld Tryz.prog 27 ⟨b4, 0, none⟩ (c.v (c.sl ah ch))), (6, Ld Tryz.prog 24 ⟨b3, 0, none⟩ (g.v (g.sl ag cg))), (2, Ld Tryz.prog 27 ⟨b4, 0, none⟩ (c.v (c.sl ah ch)))])) (fun v9 => ?_) (fun h754c0 => ?_)
 obtain ⟨a1, c1, b8, b10⟩ := v9
 dsimp only
 unfold pl3_3_754c0
 refine sy_any ?_
 refine sy_alt ?_ ?_
 refine cl rfl cal9 rfl rfl (c_Owned c ah ch (by omega) _ _) ?_
 rintro _ _ R1 ⟨o, rfl, ho, rfl, hR1⟩
 obtain rfl := hR1.symm
 clear hR1
 obtain ⟨a2, c2, he, hf⟩ := o.freeze
 rw [he]
 refine Sy.heap (H' := _) (fun w h => hf h) ?_
 rw [show (hrows c.hs).length = c.hs.length from List.length_map _]
 clear he hf
 refine bg (fun w hs => ⟨((lhA (ctl c (c.sl ah ch)) ag27 rfl rfl rfl)) w hs, ((lhA (gtl g (g.sl ag cg)) ag24 rfl rfl rfl)) w hs, trivial, trivial⟩) ?_
 exact sy_to (h7d4c0 (a1, c1, a2, c2, b8, b10)) (by repeat' first | exact Sub.nil | apply Sub.cons | rfl | (simp [lk]; omega)) (fun _ h => St.sub ((h.pull b8).pull b10))
 refine sy_alt ?_ ?_
 refine alc rfl zl24 rfl (fun b7 => ?_)
 refine bg (fun w hs => ⟨((lhA (ctl c (c.sl ah ch)) ag27 rfl rfl rfl)) w hs, ((lhA (gtl g (g.sl ag cg)) ag24 rfl rfl rfl)) w hs, ((lhA (ctl c (c.sl ah ch)) ag27 rfl rfl rfl)) w hs, trivial⟩) ?_
 exact sy_to (h755c0 (a1, c1, b7, b8, b10)) (by repeat' first | exact Sub.nil | apply Sub.cons | rfl | (simp [lk]; omega)) (fun _ h => St.sub (((h.pull b7).pull b8).pull b10))
 refine sy_alt ?_ ?_
 refine alc rfl zl40 rfl (fun b11 => ?_)
 refine bg (fun w hs => ⟨((lhA (ctl c (c.sl ah ch)) ag27 rfl rfl rfl)) w hs, ((lhA (gtl g (g.sl ag cg)) ag24 rfl rfl rfl)) w hs, ((lhA (ctl c (c.sl ah ch)) ag27 rfl rfl rfl)) w hs, trivial⟩) ?_
 exact sy_to (h754e0 (a1, c1, b8, b10, b11)) (by repeat' first | exact Sub.nil | apply Sub.cons | rfl | (simp [lk]; omega)) (fun _ h => St.sub (((h.pull b8).pull b10).pull b11))
 exact sy_stop
 refine sy_have (β := Option Addr × Nat × Nat × Nat) pl3_3_754a0 (fun ⟨a1, c1, b8, b11⟩ => ([(11, .pointer (some ⟨b11, 0, none⟩)), (8, .pointer (some ⟨b8, 0, none⟩)), (37, g.v (g.sl a1 c1)), (2, .slice al l.length cy), (3, .pointer (some ⟨b3, 0, none⟩)), (4, .pointer (some ⟨b4, 0, none⟩)), (36, g.v (g.sl ag cg)), (38, c.v (c.sl ah ch)), (40, .slice al l.length cy), (42, g.v (g.sl ag cg)), (44, c.v (c.sl ah ch))], (b11, cel 40 ([.int .i64 0, .int .i64 0, .slice none 0 0])) :: (b8, cel 27 ([.int .i64 0, .int .i64 0, .slice none 0 0])) :: (b4, cel 27 (ctl c (c.sl ah ch))) :: (b3, cel 24 (gtl g (g.sl ag cg))) :: H, RowsA a1 5 (grows g.grs) :: R, [(8, Ld Tryz.prog 27 ⟨b4, 0, none⟩ (c.v (c.sl ah ch))), (6, Ld Tryz.prog 24 ⟨b3, 0, none⟩ (g.v (g.sl ag cg))), (2, Ld Tryz.prog 27 ⟨b4, 0, none⟩ (c.v (c.sl ah ch)))])) (fun v9 => ?_) (fun h754a0 => ?_)
 obtain ⟨a1, c1, b8, b11⟩ := v9
 dsimp only
 unfold pl3_3_754a0
 refine sy_any ?_
 refine sy_alt ?_ ?_
 refine cl rfl cal9 rfl rfl (c_Owned c ah ch (by omega) _ _) ?_
 rintro _ _ R1 ⟨o, rfl, ho, rfl, hR1⟩
 obtain rfl := hR1.symm
 clear hR1
 obtain ⟨a2, c2, he, hf⟩ := o.freeze
 rw [he]
 refine Sy.heap (H' := _) (fun w h => hf h) ?_
 rw [show (hrows c.hs).length = c.hs.length from List.length_map _]
 clear he hf
 refine bg (fun w hs => ⟨((lhA (ctl c (c.sl ah ch)) ag27 rfl rfl rfl)) w hs, ((lhA (gtl g (g.sl ag cg)) ag24 rfl rfl rfl)) w hs, trivial, trivial⟩) ?_
 exact sy_to (h7d4a0 (a1, c1, a2, c2, b8, b11)) (by repeat' first | exact Sub.nil | apply Sub.cons | rfl | (simp [lk]; omega)) (fun _ h => St.sub ((h.pull b8).pull b11))
 refine sy_alt ?_ ?_
 refine alc rfl zl24 rfl (fun b7 => ?_)
 refine bg (fun w hs => ⟨((lhA (ctl c (c.sl ah ch)) ag27 rfl rfl rfl)) w hs, ((lhA (gtl g (g.sl ag cg)) ag24 rfl rfl rfl)) w hs, ((lhA (ctl c (c.sl ah ch)) ag27 rfl rfl rfl)) w hs, trivial⟩) ?_
 exact sy_to (h755a0 (a1, c1, b7, b8, b11)) (by repeat' first | exact Sub.nil | apply Sub.cons | rfl | (simp [lk]; omega)) (fun _ h => St.sub (((h.pull b7).pull b8).pull b11))
 refine sy_alt ?_ ?_
 refine alc rfl zl36 rfl (fun b10 => ?_)
 refine bg (fun w hs => ⟨((lhA (ctl c (c.sl ah ch)) ag27 rfl rfl rfl)) w hs, ((lhA (gtl g (g.sl ag cg)) ag24 rfl rfl rfl)) w hs, ((lhA (ctl c (c.sl ah ch)) ag27 rfl rfl rfl)) w hs, trivial⟩) ?_
 exact sy_to (h754e0 (a1, c1, b8, b10, b11)) (by repeat' first | exact Sub.nil | apply Sub.cons | rfl | (simp [lk]; omega)) (fun _ h => St.sub (((h.pull b8).pull b10).pull b11))
 exact sy_stop
 refine sy_have (β := Option Addr × Nat × Nat) pl3_3_75480 (fun ⟨a1, c1, b8⟩ => ([(8, .pointer (some ⟨b8, 0, none⟩)), (37, g.v (g.sl a1 c1)), (2, .slice al l.length cy), (3, .pointer (some ⟨b3, 0, none⟩)), (4, .pointer (some ⟨b4, 0, none⟩)), (36, g.v (g.sl ag cg)), (38, c.v (c.sl ah ch)), (40, .slice al l.length cy), (42, g.v (g.sl ag cg)), (44, c.v (c.sl ah ch))], (b8, cel 27 ([.int .i64 0, .int .i64 0, .slice none 0 0])) :: (b4, cel 27 (ctl c (c.sl ah ch))) :: (b3, cel 24 (gtl g (g.sl ag cg))) :: H, RowsA a1 5 (grows g.grs) :: R, [(8, Ld Tryz.prog 27 ⟨b4, 0, none⟩ (c.v (c.sl ah ch))), (6, Ld Tryz.prog 24 ⟨b3, 0, none⟩ (g.v (g.sl ag cg))), (2, Ld Tryz.prog 27 ⟨b4, 0, none⟩ (c.v (c.sl ah ch)))])) (fun v9 => ?_) (fun h75480 => ?_)
 obtain ⟨a1, c1, b8⟩ := v9
 dsimp only
 unfold pl3_3_75480
 refine sy_any ?_
 refine sy_alt ?_ ?_
 refine cl rfl cal9 rfl rfl (c_Owned c ah ch (by omega) _ _) ?_
 rintro _ _ R1 ⟨o, rfl, ho, rfl, hR1⟩
 obtain rfl := hR1.symm
 clear hR1
 obtain ⟨a2, c2, he, hf⟩ := o.freeze
 rw [he]
 refine Sy.heap (H' := _) (fun w h => hf h) ?_
 rw [show (hrows c.hs).length = c.hs.length from List.length_map _]
 clear he hf
 refine bg (fun w hs => ⟨((lhA (ctl c (c.sl ah ch)) ag27 rfl rfl rfl)) w hs, ((lhA (gtl g (g.sl ag cg)) ag24 rfl rfl rfl)) w hs, trivial, trivial⟩) ?_
 exact sy_to (h7d480 (a1, c1, a2, c2, b8)) (by repeat' first | exact Sub.nil | apply Sub.cons | rfl | (simp [lk]; omega)) (fun _ h => St.sub (h.pull b8))
 refine sy_alt ?_ ?_
 refine alc rfl zl24 rfl (fun b7 => ?_)
 refine bg (fun w hs => ⟨((lhA (ctl c (c.sl ah ch)) ag27 rfl rfl rfl)) w hs, ((lhA (gtl g (g.sl ag cg)) ag24 rfl rfl rfl)) w hs, ((lhA (ctl c (c.sl ah ch)) ag27 rfl rfl rfl)) w hs, trivial⟩) ?_
 exact sy_to (h75580 (a1, c1, b7, b8)) (by repeat' first | exact Sub.nil | apply Sub.cons | rfl | (simp [lk]; omega)) (fun _ h => St.sub ((h.pull b7).pull b8))
 refine sy_alt ?_ ?_
 refine alc rfl zl36 rfl (fun b10 => ?_)
 refine bg (fun w hs => ⟨((lhA (ctl c (c.sl ah ch)) ag27 rfl rfl rfl)) w hs, ((lhA (gtl g (g.sl ag cg)) ag24 rfl rfl rfl)) w hs, ((lhA (ctl c (c.sl ah ch)) ag27 rfl rfl rfl)) w hs, trivial⟩) ?_
 exact sy_to (h754c0 (a1, c1, b8, b10)) (by repeat' first | exact Sub.nil | apply Sub.cons | rfl | (simp [lk]; omega)) (fun _ h => St.sub ((h.pull b8).pull b10))
 refine sy_alt ?_ ?_
 refine alc rfl zl40 rfl (fun b11 => ?_)
 refine bg (fun w hs => ⟨((lhA (ctl c (c.sl ah ch)) ag27 rfl rfl rfl)) w hs, ((lhA (gtl g (g.sl ag cg)) ag24 rfl rfl rfl)) w hs, ((lhA (ctl c (c.sl ah ch)) ag27 rfl rfl rfl)) w hs, trivial⟩) ?_
 exact sy_to (h754a0 (a1, c1, b8, b11)) (by repeat' first | exact Sub.nil | apply Sub.cons | rfl | (simp [lk]; omega)) (fun _ h => St.sub ((h.pull b8).pull b11))
 exact sy_stop
 refine sy_have (β := Option Addr × Nat × Nat × Nat) pl3_3_75460 (fun ⟨a1, c1, b10, b11⟩ => ([(11, .pointer (some ⟨b11, 0, none⟩)), (10, .pointer (some ⟨b10, 0, none⟩)), (37, g.v (g.sl a1 c1)), (2, .slice al l.length cy), (3, .pointer (some ⟨b3, 0, none⟩)), (4, .pointer (some ⟨b4, 0, none⟩)), (36, g.v (g.sl ag cg)), (38, c.v (c.sl ah ch)), (40, .slice al l.length cy), (42, g.v (g.sl ag cg)), (44, c.v (c.sl ah ch))], (b11, cel 40 ([.int .i64 0, .int .i64 0, .slice none 0 0])) :: (b10, cel 36 ([.int .i64 0, .int .i64 0, .slice none 0 0])) :: (b4, cel 27 (ctl c (c.sl ah ch))) :: (b3, cel 24 (gtl g (g.sl ag cg))) :: H, RowsA a1 5 (grows g.grs) :: R, [(8, Ld Tryz.prog 27 ⟨b4, 0, none⟩ (c.v (c.sl ah ch))), (6, Ld Tryz.prog 24 ⟨b3, 0, none⟩ (g.v (g.sl ag cg))), (2, Ld Tryz.prog 27 ⟨b4, 0, none⟩ (c.v (c.sl ah ch)))])) (fun v9 => ?_) (fun h75460 => ?_)
 obtain ⟨a1, c1, b10, b11⟩ := v9
 dsimp only
 unfold pl3_3_75460
 refine sy_any ?_
 refine sy_alt ?_ ?_
 refine cl rfl cal9 rfl rfl (c_Owned c ah ch (by omega) _ _) ?_
 rintro _ _ R1 ⟨o, rfl, ho, rfl, hR1⟩
 obtain rfl := hR1.symm
 clear hR1
 obtain ⟨a2, c2, he, hf⟩ := o.freeze
 rw [he]
 refine Sy.heap (H' := _) (fun w h => hf h) ?_
 rw [show (hrows c.hs).length = c.hs.length from List.length_map _]
 clear he hf
 refine bg (fun w hs => ⟨((lhA (ctl c (c.sl ah ch)) ag27 rfl rfl rfl)) w hs, ((lhA (gtl g (g.sl ag cg)) ag24 rfl rfl rfl)) w hs, trivial, trivial⟩) ?_
 exact sy_to (h7d460 (a1, c1, a2, c2, b10, b11)) (by repeat' first | exact Sub.nil | apply Sub.cons | rfl | (simp [lk]; omega)) (fun _ h => St.sub ((h.pull b10).pull b11))
 refine sy_alt ?_ ?_
 refine alc rfl zl24 rfl (fun b7 => ?_)
 refine bg (fun w hs => ⟨((lhA (ctl c (c.sl ah ch)) ag27 rfl rfl rfl)) w hs, ((lhA (gtl g (g.sl ag cg)) ag24 rfl rfl rfl)) w hs, ((lhA (ctl c (c.sl ah ch)) ag27 rfl rfl rfl)) w hs, trivial⟩) ?_
 exact sy_to (h75560 (a1, c1, b7, b10, b11)) (by repeat' first | exact Sub.nil | apply Sub.cons | rfl | (simp [lk]; omega)) (fun _ h => St.sub (((h.pull b7).pull b10).pull b11))
 refine sy_alt ?_ ?_
 refine alc rfl zl27 rfl (fun b8 => ?_)
 refine bg (fun w hs => ⟨((lhA (ctl c (c.sl ah ch)) ag27 rfl rfl rfl)) w hs, ((lhA (gtl g (g.sl ag cg)) ag24 rfl rfl rfl)) w hs, ((lhA (ctl c (c.sl ah ch)) ag27 rfl rfl rfl)) w hs, trivial⟩) ?_
 exact sy_to (h754e0 (a1, c1, b8, b10, b11)) (by repeat' first | exact Sub.nil | apply Sub.cons | rfl | (simp [lk]; omega)) (fun _ h => St.sub (((h.pull b8).pull b10).pull b11))
 exact sy_stop
 refine sy_have (β := Option Addr × Nat × Nat) pl3_3_75440 (fun ⟨a1, c1, b10⟩ => ([(10, .pointer (some ⟨b10, 0, none⟩)), (37, g.v (g.sl a1 c1)), (2, .slice al l.length cy), (3, .pointer (some ⟨b3, 0, none⟩)), (4, .pointer (some ⟨b4, 0, none⟩)), (36, g.v (g.sl ag cg)), (38, c.v (c.sl ah ch)), (40, .slice al l.length cy), (42, g.v (g.sl ag cg)), (44, c.v (c.sl ah ch))], (b10, cel 36 ([.int .i64 0, .int .i64 0, .slice none 0 0])) :: (b4, cel 27 (ctl c (c.sl ah ch))) :: (b3, cel 24 (gtl g (g.sl ag cg))) :: H, RowsA a1 5 (grows g.grs) :: R, [(8, Ld Tryz.prog 27 ⟨b4, 0, none⟩ (c.v (c.sl ah ch))), (6, Ld Tryz.prog 24 ⟨b3, 0, none⟩ (g.v (g.sl ag cg))), (2, Ld Tryz.prog 27 ⟨b4, 0, none⟩ (c.v (c.sl ah ch)))])) (fun v9 => ?_) (fun h75440 => ?_)
 obtain ⟨a1, c1, b10⟩ := v9
 dsimp only
 unfold pl3_3_75440
 refine sy_any ?_
 refine sy_alt ?_ ?_
 refine cl rfl cal9 rfl rfl (c_Owned c ah ch (by omega) _ _) ?_
 rintro _ _ R1 ⟨o, rfl, ho, rfl, hR1⟩
 obtain rfl := hR1.symm
 clear hR1
 obtain ⟨a2, c2, he, hf⟩ := o.freeze
 rw [he]
 refine Sy.heap (H' := _) (fun w h => hf h) ?_
 rw [show (hrows c.hs).length = c.hs.length from List.length_map _]
 clear he hf
 refine bg (fun w hs => ⟨((lhA (ctl c (c.sl ah ch)) ag27 rfl rfl rfl)) w hs, ((lhA (gtl g (g.sl ag cg)) ag24 rfl rfl rfl)) w hs, trivial, trivial⟩) ?_
 exact sy_to (h7d440 (a1, c1, a2, c2, b10)) (by repeat' first | exact Sub.nil | apply Sub.cons | rfl | (simp [lk]; omega)) (fun _ h => St.sub (h.pull b10))
 refine sy_alt ?_ ?_
 refine alc rfl zl24 rfl (fun b7 => ?_)
 refine bg (fun w hs => ⟨((lhA (ctl c (c.sl ah ch)) ag27 rfl rfl rfl)) w hs, ((lhA (gtl g (g.sl ag cg)) ag24 rfl rfl rfl)) w hs, ((lhA (ctl c (c.sl ah ch)) ag27 rfl rfl rfl)) w hs, trivial⟩) ?_
 exact sy_to (h75540 (a1, c1, b7, b10)) (by repeat' first | exact Sub.nil | apply Sub.cons | rfl | (simp [lk]; omega)) (fun _ h => St.sub ((h.pull b7).pull b10))
 refine sy_alt ?_ ?_
 refine alc rfl zl27 rfl (fun b8 => ?_)
 refine bg (fun w hs => ⟨((lhA (ctl c (c.sl ah ch)) ag27 rfl rfl rfl)) w hs, ((lhA (gtl g (g.sl ag cg)) ag24 rfl rfl rfl)) w hs, ((lhA (ctl c (c.sl ah ch)) ag27 rfl rfl rfl)) w hs, trivial⟩) ?_
 exact sy_to (h754c0 (a1, c1, b8, b10)) (by repeat' first | exact Sub.nil | apply Sub.cons | rfl | (simp [lk]; omega)) (fun _ h => St.sub ((h.pull b8).pull b10))
 refine sy_alt ?_ ?_
 refine alc rfl zl40 rfl (fun b11 => ?_)
 refine bg (fun w hs => ⟨((lhA (ctl c (c.sl ah ch)) ag27 rfl rfl rfl)) w hs, ((lhA (gtl g (g.sl ag cg)) ag24 rfl rfl rfl)) w hs, ((lhA (ctl c (c.sl ah ch)) ag27 rfl rfl rfl)) w hs, trivial⟩) ?_
 exact sy_to (h75460 (a1, c1, b10, b11)) (by repeat' first | exact Sub.nil | apply Sub.cons | rfl | (simp [lk]; omega)) (fun _ h => St.sub ((h.pull b10).pull b11))
 exact sy_stop
 refine sy_have (β := Option Addr × Nat × Nat) pl3_3_75420 (fun ⟨a1, c1, b11⟩ => ([(11, .pointer (some ⟨b11, 0, none⟩)), (37, g.v (g.sl a1 c1)), (2, .slice al l.length cy), (3, .pointer (some ⟨b3, 0, none⟩)), (4, .pointer (some ⟨b4, 0, none⟩)), (36, g.v (g.sl ag cg)), (38, c.v (c.sl ah ch)), (40, .slice al l.length cy), (42, g.v (g.sl ag cg)), (44, c.v (c.sl ah ch))], (b11, cel 40 ([.int .i64 0, .int .i64 0, .slice none 0 0])) :: (b4, cel 27 (ctl c (c.sl ah ch))) :: (b3, cel 24 (gtl g (g.sl ag cg))) :: H, RowsA a1 5 (grows g.grs) :: R, [(8, Ld Tryz.prog 27 ⟨b4, 0, none⟩ (c.v (c.sl ah ch))), (6, Ld Tryz.prog 24 ⟨b3, 0, none⟩ (g.v (g.sl ag cg))), (2, Ld Tryz.prog 27 ⟨b4, 0, none⟩ (c.v (c.sl ah ch)))])) (fun v9 => ?_) (fun h75420 => ?_)
 obtain ⟨a1, c1, b11⟩ := v9
 dsimp only
 unfold pl3_3_75420
 refine sy_any ?_
 refine sy_alt ?_ ?_
 refine cl rfl cal9 rfl rfl (c_Owned c ah ch (by omega) _ _) ?_
 rintro _ _ R1 ⟨o, rfl, ho, rfl, hR1⟩
 obtain rfl := hR1.symm
 clear hR1
 obtain ⟨a2, c2, he, hf⟩ := o.freeze
 rw [he]
 refine Sy.heap (H' := _) (fun w h => hf h) ?_
 rw [show (hrows c.hs).length = c.hs.length from List.length_map _]
 clear he hf
 refine bg (fun w hs => ⟨((lhA (ctl c (c.sl ah ch)) ag27 rfl rfl rfl)) w hs, ((lhA (gtl g (g.sl ag cg)) ag24 rfl rfl rfl)) w hs, trivial, trivial⟩) ?_
 exact sy_to (h7d420 (a1, c1, a2, c2, b11)) (by repeat' first | exact Sub.nil | apply Sub.cons | rfl | (simp [lk]; omega)) (fun _ h => St.sub (h.pull b11))
 refine sy_alt ?_ ?_
 refine alc rfl zl24 rfl (fun b7 => ?_)
 refine bg (fun w hs => ⟨((lhA (ctl c (c.sl ah ch)) ag27 rfl rfl rfl)) w hs, ((lhA (gtl g (g.sl ag cg)) ag24 rfl rfl rfl)) w hs, ((lhA (ctl c (c.sl ah ch)) ag27 rfl rfl rfl)) w hs, trivial⟩) ?_
 exact sy_to (h75520 (a1, c1, b7, b11)) (by repeat' first | exact Sub.nil | apply Sub.cons | rfl | (simp [lk]; omega)) (fun _ h => St.sub ((h.pull b7).pull b11))
 refine sy_alt ?_ ?_
 refine alc rfl zl27 rfl (fun b8 => ?_)
 refine bg (fun w hs => ⟨((lhA (ctl c (c.sl ah ch)) ag27 rfl rfl rfl)) w hs, ((lhA (gtl g (g.sl ag cg)) ag24 rfl rfl rfl)) w hs, ((lhA (ctl c (c.sl ah ch)) ag27 rfl rfl rfl)) w hs, trivial⟩) ?_
 exact sy_to (h754a0 (a1, c1, b8, b11)) (by repeat' first | exact Sub.nil | apply Sub.cons | rfl | (simp [lk]; omega)) (fun _ h => St.sub ((h.pull b8).pull b11))
 refine sy_alt ?_ ?_
 refine alc rfl zl36 rfl (fun b10 => ?_)
 refine bg (fun w hs => ⟨((lhA (ctl c (c.sl ah ch)) ag27 rfl rfl rfl)) w hs, ((lhA (gtl g (g.sl ag cg)) ag24 rfl rfl rfl)) w hs, ((lhA (ctl c (c.sl ah ch)) ag27 rfl rfl rfl)) w hs, trivial⟩) ?_
 exact sy_to (h75460 (a1, c1, b10, b11)) (by repeat' first | exact Sub.nil | apply Sub.cons | rfl | (simp [lk]; omega)) (fun _ h => St.sub ((h.pull b10).pull b11))
 exact sy_stop
 refine sy_have (β := Nat × Nat × Nat × Nat) pl3_3_555e0 (fun ⟨b7, b8, b10, b11⟩ => ([(11, .pointer (some ⟨b11, 0, none⟩)), (10, .pointer (some ⟨b10, 0, none⟩)), (8, .pointer (some ⟨b8, 0, none⟩)), (7, .pointer (some ⟨b7, 0, none⟩)), (2, .slice al l.length cy), (3, .pointer (some ⟨b3, 0, none⟩)), (4, .pointer (some ⟨b4, 0, none⟩)), (36, g.v (g.sl ag cg)), (38, c.v (c.sl ah ch)), (40, .slice al l.length cy), (42, g.v (g.sl ag cg)), (44, c.v (c.sl ah ch))], (b11, cel 40 ([.int .i64 0, .int .i64 0, .slice none 0 0])) :: (b10, cel 36 ([.int .i64 0, .int .i64 0, .slice none 0 0])) :: (b8, cel 27 ([.int .i64 0, .int .i64 0, .slice none 0 0])) :: (b7, cel 24 ([.int .i64 0, .int .i64 0, .slice none 0 0])) :: (b4, cel 27 (ctl c (c.sl ah ch))) :: (b3, cel 24 (gtl g (g.sl ag cg))) :: H, R, [(8, Ld Tryz.prog 27 ⟨b4, 0, none⟩ (c.v (c.sl ah ch))), (6, Ld Tryz.prog 24 ⟨b3, 0, none⟩ (g.v (g.sl ag cg))), (2, Ld Tryz.prog 27 ⟨b4, 0, none⟩ (c.v (c.sl ah ch))), (0, Ld Tryz.prog 24 ⟨b3, 0, none⟩ (g.v (g.sl ag cg)))])) (fun v9 => ?_) (fun h555e0 => ?_)
 obtain ⟨b7, b8, b10, b11⟩ := v9
 dsimp only
 unfold pl3_3_555e0
 refine cl rfl cal8 rfl rfl (c_Own g ag cg (by omega) _ _) ?_
 rintro _ _ R1 ⟨o, rfl, ho, rfl, hR1⟩
 obtain rfl := hR1.symm
 clear hR1
 obtain ⟨a1, c1, he, hf⟩ := o.freeze
 rw [he]
 refine Sy.heap (H' := _) (fun w h => hf h) ?_
 rw [show (grows g.grs).length = g.grs.length from List.length_map _]
 clear he hf
 refine bg (fun w hs => ⟨((lhA (ctl c (c.sl ah ch)) ag27 rfl rfl rfl)) w hs, ((lhA (gtl g (g.sl ag cg)) ag24 rfl rfl rfl)) w hs, ((lhA (ctl c (c.sl ah ch)) ag27 rfl rfl rfl)) w hs, trivial, trivial⟩) ?_
 exact sy_to (h755e0 (a1, c1, b7, b8, b10, b11)) (by repeat' first | exact Sub.nil | apply Sub.cons | rfl | (simp [lk]; omega)) (fun _ h => St.sub ((((h.pull b7).pull b8).pull b10).pull b11))
 refine sy_have (β := Nat × Nat × Nat) pl3_3_555c0 (fun ⟨b7, b8, b10⟩ => ([(10, .pointer (some ⟨b10, 0, none⟩)), (8, .pointer (some ⟨b8, 0, none⟩)), (7, .pointer (some ⟨b7, 0, none⟩)), (2, .slice al l.length cy), (3, .pointer (some ⟨b3, 0, none⟩)), (4, .pointer (some ⟨b4, 0, none⟩)), (36, g.v (g.sl ag cg)), (38, c.v (c.sl ah ch)), (40, .slice al l.length cy), (42, g.v (g.sl ag cg)), (44, c.v (c.sl ah ch))], (b10, cel 36 ([.int .i64 0, .int .i64 0, .slice none 0 0])) :: (b8, cel 27 ([.int .i64 0, .int .i64 0, .slice none 0 0])) :: (b7, cel 24 ([.int .i64 0, .int .i64 0, .slice none 0 0])) :: (b4, cel 27 (ctl c (c.sl ah ch))) :: (b3, cel 24 (gtl g (g.sl ag cg))) :: H, R, [(8, Ld Tryz.prog 27 ⟨b4, 0, none⟩ (c.v (c.sl ah ch))), (6, Ld Tryz.prog 24 ⟨b3, 0, none⟩ (g.v (g.sl ag cg))), (2, Ld Tryz.prog 27 ⟨b4, 0, none⟩ (c.v (c.sl ah ch))), (0, Ld Tryz.prog 24 ⟨b3, 0, none⟩ (g.v (g.sl ag cg)))])) (fun v9 => ?_) (fun h555c0 => ?_)
 obtain ⟨b7, b8, b10⟩ := v9
 dsimp only
 unfold pl3_3_555c0
 refine sy_any ?_
 refine sy_alt ?_ ?_
 refine cl rfl cal8 rfl rfl (c_Own g ag cg (by omega) _ _) ?_
 rintro _ _ R1 ⟨o, rfl, ho, rfl, hR1⟩
 obtain rfl := hR1.symm
 clear hR1
 obtain ⟨a1, c1, he, hf⟩ := o.freeze
 rw [he]
 refine Sy.heap (H' := _) (fun w h => hf h) ?_
 rw [show (grows g.grs).length = g.grs.length from List.length_map _]
 clear he hf
 refine bg (fun w hs => ⟨((lhA (ctl c (c.sl ah ch)) ag27 rfl rfl rfl)) w hs, ((lhA (gtl g (g.sl ag cg)) ag24 rfl rfl rfl)) w hs, ((lhA (ctl c (c.sl ah ch)) ag27 rfl rfl rfl)) w hs, trivial, trivial⟩) ?_
 exact sy_to (h755c0 (a1, c1, b7, b8, b10)) (by repeat' first | exact Sub.nil | apply Sub.cons | rfl | (simp [lk]; omega)) (fun _ h => St.sub (((h.pull b7).pull b8).pull b10))
 refine sy_alt ?_ ?_
 refine alc rfl zl40 rfl (fun b11 => ?_)
 refine bg (fun w hs => ⟨((lhA (ctl c (c.sl ah ch)) ag27 rfl rfl rfl)) w hs, ((lhA (gtl g (g.sl ag cg)) ag24 rfl rfl rfl)) w hs, ((lhA (ctl c (c.sl ah ch)) ag27 rfl rfl rfl)) w hs, ((lhA (gtl g (g.sl ag cg)) ag24 rfl rfl rfl)) w hs, trivial⟩) ?_
 exact sy_to (h555e0 (b7, b8, b10, b11)) (by repeat' first | exact Sub.nil | apply Sub.cons | rfl | (simp [lk]; omega)) (fun _ h => St.sub ((((h.pull b7).pull b8).pull b10).pull b11))
 exact sy_stop
 refine sy_have (β := Nat × Nat × Nat) pl3_3_555a0 (fun ⟨b7, b8, b11⟩ => ([(11, .pointer (some ⟨b11, 0, none⟩)), (8, .pointer (some ⟨b8, 0, none⟩)), (7, .pointer (some ⟨b7, 0, none⟩)), (2, .slice al l.length cy), (3, .pointer (some ⟨b3, 0, none⟩)), (4, .pointer (some ⟨b4, 0, none⟩)), (36, g.v (g.sl ag cg)), (38, c.v (c.sl ah ch)), (40, .slice al l.length cy), (42, g.v (g.sl ag cg)), (44, c.v (c.sl ah ch))], (b11, cel 40 ([.int .i64 0, .int .i64 0, .slice none 0 0])) :: (b8, cel 27 ([.int .i64 0, .int .i64 0, .slice none 0 0])) :: (b7, cel 24 ([.int .i64 0, .int .i64 0, .slice none 0 0])) :: (b4, cel 27 (ctl c (c.sl ah ch))) :: (b3, cel 24 (gtl g (g.sl ag cg))) :: H, R, [(8, Ld Tryz.prog 27 ⟨b4, 0, none⟩ (c.v (c.sl ah ch))), (6, Ld Tryz.prog 24 ⟨b3, 0, none⟩ (g.v (g.sl ag cg))), (2, Ld Tryz.prog 27 ⟨b4, 0, none⟩ (c.v (c.sl ah ch))), (0, Ld Tryz.prog 24 ⟨b3, 0, none⟩ (g.v (g.sl ag cg)))])) (fun v9 => ?_) (fun h555a0 => ?_)
 obtain ⟨b7, b8, b11⟩ := v9
 dsimp only
 unfold pl3_3_555a0
 refine sy_any ?_
 refine sy_alt ?_ ?_
 refine cl rfl cal8 rfl rfl (c_Own g ag cg (by omega) _ _) ?_
 rintro _ _ R1 ⟨o, rfl, ho, rfl, hR1⟩
 obtain rfl := hR1.symm
 clear hR1
 obtain ⟨a1, c1, he, hf⟩ := o.freeze
 rw [he]
 refine Sy.heap (H' := _) (fun w h => hf h) ?_
 rw [show (grows g.grs).length = g.grs.length from List.length_map _]
 clear he hf
 refine bg (fun w hs => ⟨((lhA (ctl c (c.sl ah ch)) ag27 rfl rfl rfl)) w hs, ((lhA (gtl g (g.sl ag cg)) ag24 rfl rfl rfl)) w hs, ((lhA (ctl c (c.sl ah ch)) ag27 rfl rfl rfl)) w hs, trivial, trivial⟩) ?_
 exact sy_to (h755a0 (a1, c1, b7, b8, b11)) (by repeat' first | exact Sub.nil | apply Sub.cons | rfl | (simp [lk]; omega)) (fun _ h => St.sub (((h.pull b7).pull b8).pull b11))
 refine sy_alt ?_ ?_
 refine alc rfl zl36 rfl (fun b10 => ?_)
 refine bg (fun w hs => ⟨((lhA (ctl c (c.sl ah ch)) ag27 rfl rfl rfl)) w hs, ((lhA (gtl g (g.sl ag cg)) ag24 rfl rfl rfl)) w hs, ((lhA (ctl c (c.sl ah ch)) ag27 rfl rfl rfl)) w hs, ((lhA (gtl g (g.sl ag cg)) ag24 rfl rfl rfl)) w hs, trivial⟩) ?_
 exact sy_to (h555e0 (b7, b8, b10, b11)) (by repeat' first | exact Sub.nil | apply Sub.cons | rfl | (simp [lk]; omega)) (fun _ h => St.sub ((((h.pull b7).pull b8).pull b10).pull b11))
 exact sy_stop
 refine sy_have (β := Nat × Nat) pl3_3_55580 (fun ⟨b7, b8⟩ => ([(8, .pointer (some ⟨b8, 0, none⟩)), (7, .pointer (some ⟨b7, 0, none⟩)), (2, .slice al l.length cy), (3, .pointer (some ⟨b3, 0, none⟩)), (4, .pointer (some ⟨b4, 0, none⟩)), (36, g.v (g.sl ag cg)), (38, c.v (c.sl ah ch)), (40, .slice al l.length cy), (42, g.v (g.sl ag cg)), (44, c.v (c.sl ah ch))], (b8, cel 27 ([.int .i64 0, .int .i64 0, .slice none 0 0])) :: (b7, cel 24 ([.int .i64 0, .int .i64 0, .slice none 0 0])) :: (b4, cel 27 (ctl c (c.sl ah ch))) :: (b3, cel 24 (gtl g (g.sl ag cg))) :: H, R, [(8, Ld Tryz.prog 27 ⟨b4, 0, none⟩ (c.v (c.sl ah ch))), (6, Ld Tryz.prog 24 ⟨b3, 0, none⟩ (g.v (g.sl ag cg))), (2, Ld Tryz.prog 27 ⟨b4, 0, none⟩ (c.v (c.sl ah ch))), (0, Ld Tryz.prog 24 ⟨b3, 0, none⟩ (g.v (g.sl ag cg)))])) (fun v9 => ?_) (fun h55580 => ?_)
 obtain ⟨b7, b8⟩ := v9
 dsimp only
 unfold pl3_3_55580
 refine sy_any ?_
 refine sy_alt ?_ ?_
 refine cl rfl cal8 rfl rfl (c_Own g ag cg (by omega) _ _) ?_
 rintro _ _ R1 ⟨o, rfl, ho, rfl, hR1⟩
 obtain rfl := hR1.symm
 clear hR1
 obtain ⟨a1, c1, he, hf⟩ := o.freeze
 rw [he]
 refine Sy.heap (H' := _) (fun w h => hf h) ?_
 rw [show (grows g.grs).length = g.grs.length from List.length_map _]
 clear he hf
 refine bg (fun w hs => ⟨((lhA (ctl c (c.sl ah ch)) ag27 rfl rfl rfl)) w hs, ((lhA (gtl g (g.sl ag cg)) ag24 rfl rfl rfl)) w hs, ((lhA (ctl c (c.sl ah ch)) ag27 rfl rfl rfl)) w hs, trivial, trivial⟩) ?_
 exact sy_to (h75580 (a1, c1, b7, b8)) (by repeat' first | exact Sub.nil | apply Sub.cons | rfl | (simp [lk]; omega)) (fun _ h => St.sub ((h.pull b7).pull b8))
 refine sy_alt ?_ ?_
 refine alc rfl zl36 rfl (fun b10 => ?_)
 refine bg (fun w hs => ⟨((lhA (ctl c (c.sl ah ch)) ag27 rfl rfl rfl)) w hs, ((lhA (gtl g (g.sl ag cg)) ag24 rfl rfl rfl)) w hs, ((lhA (ctl c (c.sl ah ch)) ag27 rfl rfl rfl)) w hs, ((lhA (gtl g (g.sl ag cg)) ag24 rfl rfl rfl)) w hs, trivial⟩) ?_
 exact sy_to (h555c0 (b7, b8, b10)) (by repeat' first | exact Sub.nil | apply Sub.cons | rfl | (simp [lk]; omega)) (fun _ h => St.sub (((h.pull b7).pull b8).pull b10))
 refine sy_alt ?_ ?_
 refine alc rfl zl40 rfl (fun b11 => ?_)
 refine bg (fun w hs => ⟨((lhA (ctl c (c.sl ah ch)) ag27 rfl rfl rfl)) w hs, ((lhA (gtl g (g.sl ag cg)) ag24 rfl rfl rfl)) w hs, ((lhA (ctl c (c.sl ah ch)) ag27 rfl rfl rfl)) w hs, ((lhA (gtl g (g.sl ag cg)) ag24 rfl rfl rfl)) w hs, trivial⟩) ?_
 exact sy_to (h555a0 (b7, b8, b11)) (by repeat' first | exact Sub.nil | apply Sub.cons | rfl | (simp [lk]; omega)) (fun _ h => St.sub (((h.pull b7).pull b8).pull b11))
 exact sy_stop
 refine sy_have (β := Nat × Nat × Nat) pl3_3_55560 (fun ⟨b7, b10, b11⟩ => ([(11, .pointer (some ⟨b11, 0, none⟩)), (10, .pointer (some ⟨b10, 0, none⟩)), (7, .pointer (some ⟨b7, 0, none⟩)), (2, .slice al l.length cy), (3, .pointer (some ⟨b3, 0, none⟩)), (4, .pointer (some ⟨b4, 0, none⟩)), (36, g.v (g.sl ag cg)), (38, c.v (c.sl ah ch)), (40, .slice al l.length cy), (42, g.v (g.sl ag cg)), (44, c.v (c.sl ah ch))], (b11, cel 40 ([.int .i64 0, .int .i64 0, .slice none 0 0])) :: (b10, cel 36 ([.int .i64 0, .int .i64 0, .slice none 0 0])) :: (b7, cel 24 ([.int .i64 0, .int .i64 0, .slice none 0 0])) :: (b4, cel 27 (ctl c (c.sl ah ch))) :: (b3, cel 24 (gtl g (g.sl ag cg))) :: H, R, [(8, Ld Tryz.prog 27 ⟨b4, 0, none⟩ (c.v (c.sl ah ch))), (6, Ld Tryz.prog 24 ⟨b3, 0, none⟩ (g.v (g.sl ag cg))), (2, Ld Tryz.prog 27 ⟨b4, 0, none⟩ (c.v (c.sl ah ch))), (0, Ld Tryz.prog 24 ⟨b3, 0, none⟩ (g.v (g.sl ag cg)))])) (fun v9 => ?_) (fun h55560 => ?_)
 obtain ⟨b7, b10, b11⟩ := v9
 dsimp only
 unfold pl3_3_55560
 refine sy_any ?_
 refine sy_alt ?_ ?_
 refine cl rfl cal8 rfl rfl (c_Own g ag cg (by omega) _ _) ?_
 rintro _ _ R1 ⟨o, rfl, ho, rfl, hR1⟩
 obtain rfl := hR1.symm
 clear hR1
 obtain ⟨a1, c1, he, hf⟩ := o.freeze
 rw [he]
 refine Sy.heap (H' := _) (fun w h => hf h) ?_
 rw [show (grows g.grs).length = g.grs.length from List.length_map _]
 clear he hf
 refine bg (fun w hs => ⟨((lhA (ctl c (c.sl ah ch)) ag27 rfl rfl rfl)) w hs, ((lhA (gtl g (g.sl ag cg)) ag24 rfl rfl rfl)) w hs, ((lhA (ctl c (c.sl ah ch)) ag27 rfl rfl rfl)) w hs, trivial, trivial⟩) ?_
 exact sy_to (h75560 (a1, c1, b7, b10, b11)) (by repeat' first | exact Sub.nil | apply Sub.cons | rfl | (simp [lk]; omega)) (fun _ h => St.sub (((h.pull b7).pull b10).pull b11))
 refine sy_alt ?_ ?_
 refine alc rfl zl27 rfl (fun b8 => ?_)
 refine bg (fun w hs => ⟨((lhA (ctl c (c.sl ah ch)) ag27 rfl rfl rfl)) w hs, ((lhA (gtl g (g.sl ag cg)) ag24 rfl rfl rfl)) w hs, ((lhA (ctl c (c.sl ah ch)) ag27 rfl rfl rfl)) w hs, ((lhA (gtl g (g.sl ag cg)) ag24 rfl rfl rfl)) w hs, trivial⟩) ?_
 exact sy_to (h555e0 (b7, b8, b10, b11)) (by repeat' first | exact Sub.nil | apply Sub.cons | rfl | (simp [lk]; omega)) (fun _ h => St.sub ((((h.pull b7).pull b8).pull b10).pull b11))
 exact sy_stop
 refine sy_have (β := Nat × Nat) pl3_3_55540 (fun ⟨b7, b10⟩ => ([(10, .pointer (some ⟨b10, 0, none⟩)), (7, .pointer (some ⟨b7, 0, none⟩)), (2, .slice al l.length cy), (3, .pointer (some ⟨b3, 0, none⟩)), (4, .pointer (some ⟨b4, 0, none⟩)), (36, g.v (g.sl ag cg)), (38, c.v (c.sl ah ch)), (40, .slice al l.length cy), (42, g.v (g.sl ag cg)), (44, c.v (c.sl ah ch))], (b10, cel 36 ([.int .i64 0, .int .i64 0, .slice none 0 0])) :: (b7, cel 24 ([.int .i64 0, .int .i64 0, .slice none 0 0])) :: (b4, cel 27 (ctl c (c.sl ah ch))) :: (b3, cel 24 (gtl g (g.sl ag cg))) :: H, R, [(8, Ld Tryz.prog 27 ⟨b4, 0, none⟩ (c.v (c.sl ah ch))), (6, Ld Tryz.prog 24 ⟨b3, 0, none⟩ (g.v (g.sl ag cg))), (2, Ld Tryz.prog 27 ⟨b4, 0, none⟩ (c.v (c.sl ah ch))), (0, Ld Tryz.prog 24 ⟨b3, 0, none⟩ (g.v (g.sl ag cg)))])) (fun v9 => ?_) (fun h55540 => ?_)
 obtain ⟨b7, b10⟩ := v9
 dsimp only
 unfold pl3_3_55540
 refine sy_any ?_
 refine sy_alt ?_ ?_
 refine cl rfl cal8 rfl rfl (c_Own g ag cg (by omega) _ _) ?_
 rintro _ _ R1 ⟨o, rfl, ho, rfl, hR1⟩
 obtain rfl := hR1.symm
 clear hR1
 obtain ⟨a1, c1, he, hf⟩ := o.freeze
 rw [he]
 refine Sy.heap (H' := _) (fun w h => hf h) ?_
 rw [show (grows g.grs).length = g.grs.length from List.length_map _]
 clear he hf
 refine bg (fun w hs => ⟨((lhA (ctl c (c.sl ah ch)) ag27 rfl rfl rfl)) w hs, ((lhA (gtl g (g.sl ag cg)) ag24 rfl rfl rfl)) w hs, ((lhA (ctl c (c.sl ah ch)) ag27 rfl rfl rfl)) w hs, trivial, trivial⟩) ?_
 exact sy_to (h75540 (a1, c1, b7, b10)) (by repeat' first | exact Sub.nil | apply Sub.cons | rfl | (simp [lk]; omega)) (fun _ h => St.sub ((h.pull b7).pull b10))
 refine sy_alt ?_ ?_
 refine alc rfl zl27 rfl (fun b8 => ?_)
 refine bg (fun w hs => ⟨((lhA (ctl c (c.sl ah ch)) ag27 rfl rfl rfl)) w hs, ((lhA (gtl g (g.sl ag cg)) ag24 rfl rfl rfl)) w hs, ((lhA (ctl c (c.sl ah ch)) ag27 rfl rfl rfl)) w hs, ((lhA (gtl g (g.sl ag cg)) ag24 rfl rfl rfl)) w hs, trivial⟩) ?_
 exact sy_to (h555c0 (b7, b8, b10)) (by repeat' first | exact Sub.nil | apply Sub.cons | rfl | (simp [lk]; omega)) (fun _ h => St.sub (((h.pull b7).pull b8).pull b10))
 refine sy_alt ?_ ?_
 refine alc rfl zl40 rfl (fun b11 => ?_)
 refine bg (fun w hs => ⟨((lhA (ctl c (c.sl ah ch)) ag27 rfl rfl rfl)) w hs, ((lhA (gtl g (g.sl ag cg)) ag24 rfl rfl rfl)) w hs, ((lhA (ctl c (c.sl ah ch)) ag27 rfl rfl rfl)) w hs, ((lhA (gtl g (g.sl ag cg)) ag24 rfl rfl rfl)) w hs, trivial⟩) ?_
 exact sy_to (h55560 (b7, b10, b11)) (by repeat' first | exact Sub.nil | apply Sub.cons | rfl | (simp [lk]; omega)) (fun _ h => St.sub (((h.pull b7).pull b10).pull b11))
 exact sy_stop
 refine sy_have (β := Nat × Nat) pl3_3_55520 (fun ⟨b7, b11⟩ => ([(11, .pointer (some ⟨b11, 0, none⟩)), (7, .pointer (some ⟨b7, 0, none⟩)), (2, .slice al l.length cy), (3, .pointer (some ⟨b3, 0, none⟩)), (4, .pointer (some ⟨b4, 0, none⟩)), (36, g.v (g.sl ag cg)), (38, c.v (c.sl ah ch)), (40, .slice al l.length cy), (42, g.v (g.sl ag cg)), (44, c.v (c.sl ah ch))], (b11, cel 40 ([.int .i64 0, .int .i64 0, .slice none 0 0])) :: (b7, cel 24 ([.int .i64 0, .int .i64 0, .slice none 0 0])) :: (b4, cel 27 (ctl c (c.sl ah ch))) :: (b3, cel 24 (gtl g (g.sl ag cg))) :: H, R, [(8, Ld Tryz.prog 27 ⟨b4, 0, none⟩ (c.v (c.sl ah ch))), (6, Ld Tryz.prog 24 ⟨b3, 0, none⟩ (g.v (g.sl ag cg))), (2, Ld Tryz.prog 27 ⟨b4, 0, none⟩ (c.v (c.sl ah ch))), (0, Ld Tryz.prog 24 ⟨b3, 0, none⟩ (g.v (g.sl ag cg)))])) (fun v9 => ?_) (fun h55520 => ?_)
 obtain ⟨b7, b11⟩ := v9
 dsimp only
 unfold pl3_3_55520
 refine sy_any ?_
 refine sy_alt ?_ ?_
 refine cl rfl cal8 rfl rfl (c_Own g ag cg (by omega) _ _) ?_
 rintro _ _ R1 ⟨o, rfl, ho, rfl, hR1⟩
 obtain rfl := hR1.symm
 clear hR1
 obtain ⟨a1, c1, he, hf⟩ := o.freeze
 rw [he]
 refine Sy.heap (H' := _) (fun w h => hf h) ?_
 rw [show (grows g.grs).length = g.grs.length from List.length_map _]
 clear he hf
 refine bg (fun w hs => ⟨((lhA (ctl c (c.sl ah ch)) ag27 rfl rfl rfl)) w hs, ((lhA (gtl g (g.sl ag cg)) ag24 rfl rfl rfl)) w hs, ((lhA (ctl c (c.sl ah ch)) ag27 rfl rfl rfl)) w hs, trivial, trivial⟩) ?_
 exact sy_to (h75520 (a1, c1, b7, b11)) (by repeat' first | exact Sub.nil | apply Sub.cons | rfl | (simp [lk]; omega)) (fun _ h => St.sub ((h.pull b7).pull b11))
 refine sy_alt ?_ ?_
 refine alc rfl zl27 rfl (fun b8 => ?_)
 refine bg (fun w hs => ⟨((lhA (ctl c (c.sl ah ch)) ag27 rfl rfl rfl)) w hs, ((lhA (gtl g (g.sl ag cg)) ag24 rfl rfl rfl)) w hs, ((lhA (ctl c (c.sl ah ch)) ag27 rfl rfl rfl)) w hs, ((lhA (gtl g (g.sl ag cg)) ag24 rfl rfl rfl)) w hs, trivial⟩) ?_
 exact sy_to (h555a0 (b7, b8, b11)) (by repeat' first | exact Sub.nil | apply Sub.cons | rfl | (simp [lk]; omega)) (fun _ h => St.sub (((h.pull b7).pull b8).pull b11))
 refine sy_alt ?_ ?_
 refine alc rfl zl36 rfl (fun b10 => ?_)
 refine bg (fun w hs => ⟨((lhA (ctl c (c.sl ah ch)) ag27 rfl rfl rfl)) w hs, ((lhA (gtl g (g.sl ag cg)) ag24 rfl rfl rfl)) w hs, ((lhA (ctl c (c.sl ah ch)) ag27 rfl rfl rfl)) w hs, ((lhA (gtl g (g.sl ag cg)) ag24 rfl rfl rfl)) w hs, trivial⟩) ?_
 exact sy_to (h55560 (b7, b10, b11)) (by repeat' first | exact Sub.nil | apply Sub.cons | rfl | (simp [lk]; omega)) (fun _ h => St.sub (((h.pull b7).pull b10).pull b11))
 exact sy_stop
 refine sy_have (β := Nat × Nat × Nat) pl3_3_554e0 (fun ⟨b8, b10, b11⟩ => ([(11, .pointer (some ⟨b11, 0, none⟩)), (10, .pointer (some ⟨b10, 0, none⟩)), (8, .pointer (some ⟨b8, 0, none⟩)), (2, .slice al l.length cy), (3, .pointer (some ⟨b3, 0, none⟩)), (4, .pointer (some ⟨b4, 0, none⟩)), (36, g.v (g.sl ag cg)), (38, c.v (c.sl ah ch)), (40, .slice al l.length cy), (42, g.v (g.sl ag cg)), (44, c.v (c.sl ah ch))], (b11, cel 40 ([.int .i64 0, .int .i64 0, .slice none 0 0])) :: (b10, cel 36 ([.int .i64 0, .int .i64 0, .slice none 0 0])) :: (b8, cel 27 ([.int .i64 0, .int .i64 0, .slice none 0 0])) :: (b4, cel 27 (ctl c (c.sl ah ch))) :: (b3, cel 24 (gtl g (g.sl ag cg))) :: H, R, [(8, Ld Tryz.prog 27 ⟨b4, 0, none⟩ (c.v (c.sl ah ch))), (6, Ld Tryz.prog 24 ⟨b3, 0, none⟩ (g.v (g.sl ag cg))), (2, Ld Tryz.prog 27 ⟨b4, 0, none⟩ (c.v (c.sl ah ch))), (0, Ld Tryz.prog 24 ⟨b3, 0, none⟩ (g.v (g.sl ag cg)))])) (fun v9 => ?_) (fun h554e0 => ?_)
 obtain ⟨b8, b10, b11⟩ := v9
 dsimp only
 unfold pl3_3_554e0
 refine sy_any ?_
 refine sy_alt ?_ ?_
 refine cl rfl cal8 rfl rfl (c_Own g ag cg (by omega) _ _) ?_
 rintro _ _ R1 ⟨o, rfl, ho, rfl, hR1⟩
 obtain rfl := hR1.symm
 clear hR1
 obtain ⟨a1, c1, he, hf⟩ := o.freeze
 rw [he]
 refine Sy.heap (H' := _) (fun w h => hf h) ?_
 rw [show (grows g.grs).length = g.grs.length from List.length_map _]
 clear he hf
 refine bg (fun w hs => ⟨((lhA (ctl c (c.sl ah ch)) ag27 rfl rfl rfl)) w hs, ((lhA (gtl g (g.sl ag cg)) ag24 rfl rfl rfl)) w hs, ((lhA (ctl c (c.sl ah ch)) ag27 rfl rfl rfl)) w hs, trivial, trivial⟩) ?_
 exact sy_to (h754e0 (a1, c1, b8, b10, b11)) (by repeat' first | exact Sub.nil | apply Sub.cons | rfl | (simp [lk]; omega)) (fun _ h => St.sub (((h.pull b8).pull b10).pull b11))
 refine sy_alt ?_ ?_
 refine alc rfl zl24 rfl (fun b7 => ?_)
 refine bg (fun w hs => ⟨((lhA (ctl c (c.sl ah ch)) ag27 rfl rfl rfl)) w hs, ((lhA (gtl g (g.sl ag cg)) ag24 rfl rfl rfl)) w hs, ((lhA (ctl c (c.sl ah ch)) ag27 rfl rfl rfl)) w hs, ((lhA (gtl g (g.sl ag cg)) ag24 rfl rfl rfl)) w hs, trivial⟩) ?_
 exact sy_to (h555e0 (b7, b8, b10, b11)) (by repeat' first | exact Sub.nil | apply Sub.cons | rfl | (simp [lk]; omega)) (fun _ h => St.sub ((((h.pull b7).pull b8).pull b10).pull b11))
 exact sy_stop
 refine sy_have (β := Nat × Nat) pl3_3_554c0 (fun ⟨b8, b10⟩ => ([(10, .pointer (some ⟨b10, 0, none⟩)), (8, .pointer (some ⟨b8, 0, none⟩)), (2, .slice al l.length cy), (3, .pointer (some ⟨b3, 0, none⟩)), (4, .pointer (some ⟨b4, 0, none⟩)), (36, g.v (g.sl ag cg)), (38, c.v (c.sl ah ch)), (40, .slice al l.length cy), (42, g.v (g.sl ag cg)), (44, c.v (c.sl ah ch))], (b10, cel 36 ([.int .i64 0, .int .i64 0, .slice none 0 0])) :: (b8, cel 27 ([.int .i64 0, .int .i64 0, .slice none 0 0])) :: (b4, cel 27 (ctl c (c.sl ah ch))) :: (b3, cel 24 (gtl g (g.sl ag cg))) :: H, R, [(8, Ld Tryz.prog 27 ⟨b4, 0, none⟩ (c.v (c.sl ah ch))), (6, Ld Tryz.prog 24 ⟨b3, 0, none⟩ (g.v (g.sl ag cg))), (2, Ld Tryz.prog 27 ⟨b4, 0, none⟩ (c.v (c.sl ah ch))), (0, Ld Tryz.prog 24 ⟨b3, 0, none⟩ (g.v (g.sl ag cg)))])) (fun v9 => ?_) (fun h554c0 => ?_)
 obtain ⟨b8, b10⟩ := v9
 dsimp only
 unfold pl3_3_554c0
 refine sy_any ?_
 refine sy_alt ?_ ?_
 refine cl rfl cal8 rfl rfl (c_Own g ag cg (by omega) _ _) ?_
 rintro _ _ R1 ⟨o, rfl, ho, rfl, hR1⟩
 obtain rfl := hR1.symm
 clear hR1
 obtain ⟨a1, c1, he, hf⟩ := o.freeze
 rw [he]
 refine Sy.heap (H' := _) (fun w h => hf h) ?_
 rw [show (grows g.grs).length = g.grs.length from List.length_map _]
 clear he hf
 refine bg (fun w hs => ⟨((lhA (ctl c (c.sl ah ch)) ag27 rfl rfl rfl)) w hs, ((lhA (gtl g (g.sl ag cg)) ag24 rfl rfl rfl)) w hs, ((lhA (ctl c (c.sl ah ch)) ag27 rfl rfl rfl)) w hs, trivial, trivial⟩) ?_
 exact sy_to (h754c0 (a1, c1, b8, b10)) (by repeat' first | exact Sub.nil | apply Sub.cons | rfl | (simp [lk]; omega)) (fun _ h => St.sub ((h.pull b8).pull b10))
 refine sy_alt ?_ ?_
 refine alc rfl zl24 rfl (fun b7 => ?_)
 refine bg (fun w hs => ⟨((lhA (ctl c (c.sl ah ch)) ag27 rfl rfl rfl)) w hs, ((lhA (gtl g (g.sl ag cg)) ag24 rfl rfl rfl)) w hs, ((lhA (ctl c (c.sl ah ch)) ag27 rfl rfl rfl)) w hs, ((lhA (gtl g (g.sl ag cg)) ag24 rfl rfl rfl)) w hs, trivial⟩) ?_
 exact sy_to (h555c0 (b7, b8, b10)) (by repeat' first | exact Sub.nil | apply Sub.cons | rfl | (simp [lk]; omega)) (fun _ h => St.sub (((h.pull b7).pull b8).pull b10))
 refine sy_alt ?_ ?_
 refine alc rfl zl40 rfl (fun b11 => ?_)
 refine bg (fun w hs => ⟨((lhA (ctl c (c.sl ah ch)) ag27 rfl rfl rfl)) w hs, ((lhA (gtl g (g.sl ag cg)) ag24 rfl rfl rfl)) w hs, ((lhA (ctl c (c.sl ah ch)) ag27 rfl rfl rfl)) w hs, ((lhA (gtl g (g.sl ag cg)) ag24 rfl rfl rfl)) w hs, trivial⟩) ?_
 exact sy_to (h554e0 (b8, b10, b11)) (by repeat' first | exact Sub.nil | apply Sub.cons | rfl | (simp [lk]; omega)) (fun _ h => St.sub (((h.pull b8).pull b10).pull b11))
 exact sy_stop
 refine sy_have (β := Nat × Nat) pl3_3_554a0 (fun ⟨b8, b11⟩ => ([(11, .pointer (some ⟨b11, 0, none⟩)), (8, .pointer (some ⟨b8, 0, none⟩)), (2, .slice al l.length cy), (3, .pointer (some ⟨b3, 0, none⟩)), (4, .pointer (some ⟨b4, 0, none⟩)), (36, g.v (g.sl ag cg)), (38, c.v (c.sl ah ch)), (40, .slice al l.length cy), (42, g.v (g.sl ag cg)), (44, c.v (c.sl ah ch))], (b11, cel 40 ([.int .i64 0, .int .i64 0, .slice none 0 0])) :: (b8, cel 27 ([.int .i64 0, .int .i64 0, .slice none 0 0])) :: (b4, cel 27 (ctl c (c.sl ah ch))) :: (b3, cel 24 (gtl g (g.sl ag cg))) :: H, R, [(8, Ld Tryz.prog 27 ⟨b4, 0, none⟩ (c.v (c.sl ah ch))), (6, Ld Tryz.prog 24 ⟨b3, 0, none⟩ (g.v (g.sl ag cg))), (2, Ld Tryz.prog 27 ⟨b4, 0, none⟩ (c.v (c.sl ah ch))), (0, Ld Tryz.prog 24 ⟨b3, 0, none⟩ (g.v (g.sl ag cg)))])) (fun v9 => ?_) (fun h554a0 => ?_)
 obtain ⟨b8, b11⟩ := v9
 dsimp only
 unfold pl3_3_554a0
 refine sy_any ?_
 refine sy_alt ?_ ?_
 refine cl rfl cal8 rfl rfl (c_Own g ag cg (by omega) _ _) ?_
 rintro _ _ R1 ⟨o, rfl, ho, rfl, hR1⟩
 obtain rfl := hR1.symm
 clear hR1
 obtain ⟨a1, c1, he, hf⟩ := o.freeze
 rw [he]
 refine Sy.heap (H' := _) (fun w h => hf h) ?_
 rw [show (grows g.grs).length = g.grs.length from List.length_map _]
 clear he hf
 refine bg (fun w hs => ⟨((lhA (ctl c (c.sl ah ch)) ag27 rfl rfl rfl)) w hs, ((lhA (gtl g (g.sl ag cg)) ag24 rfl rfl rfl)) w hs, ((lhA (ctl c (c.sl ah ch)) ag27 rfl rfl rfl)) w hs, trivial, trivial⟩) ?_
 exact sy_to (h754a0 (a1, c1, b8, b11)) (by repeat' first | exact Sub.nil | apply Sub.cons | rfl | (simp [lk]; omega)) (fun _ h => St.sub ((h.pull b8).pull b11))
 refine sy_alt ?_ ?_
 refine alc rfl zl24 rfl (fun b7 => ?_)
 refine bg (fun w hs => ⟨((lhA (ctl c (c.sl ah ch)) ag27 rfl rfl rfl)) w hs, ((lhA (gtl g (g.sl ag cg)) ag24 rfl rfl rfl)) w hs, ((lhA (ctl c (c.sl ah ch)) ag27 rfl rfl rfl)) w hs, ((lhA (gtl g (g.sl ag cg)) ag24 rfl rfl rfl)) w hs, trivial⟩) ?_
 exact sy_to (h555a0 (b7, b8, b11)) (by repeat' first | exact Sub.nil | apply Sub.cons | rfl | (simp [lk]; omega)) (fun _ h => St.sub (((h.pull b7).pull b8).pull b11))
 refine sy_alt ?_ ?_
 refine alc rfl zl36 rfl (fun b10 => ?_)
 refine bg (fun w hs => ⟨((lhA (ctl c (c.sl ah ch)) ag27 rfl rfl rfl)) w hs, ((lhA (gtl g (g.sl ag cg)) ag24 rfl rfl rfl)) w hs, ((lhA (ctl c (c.sl ah ch)) ag27 rfl rfl rfl)) w hs, ((lhA (gtl g (g.sl ag cg)) ag24 rfl rfl rfl)) w hs, trivial⟩) ?_
 exact sy_to (h554e0 (b8, b10, b11)) (by repeat' first | exact Sub.nil | apply Sub.cons | rfl | (simp [lk]; omega)) (fun _ h => St.sub (((h.pull b8).pull b10).pull b11))
 exact sy_stop
 refine sy_have (β := Nat × Nat) pl3_3_55460 (fun ⟨b10, b11⟩ => ([(11, .pointer (some ⟨b11, 0, none⟩)), (10, .pointer (some ⟨b10, 0, none⟩)), (2, .slice al l.length cy), (3, .pointer (some ⟨b3, 0, none⟩)), (4, .pointer (some ⟨b4, 0, none⟩)), (36, g.v (g.sl ag cg)), (38, c.v (c.sl ah ch)), (40, .slice al l.length cy), (42, g.v (g.sl ag cg)), (44, c.v (c.sl ah ch))], (b11, cel 40 ([.int .i64 0, .int .i64 0, .slice none 0 0])) :: (b10, cel 36 ([.int .i64 0, .int .i64 0, .slice none 0 0])) :: (b4, cel 27 (ctl c (c.sl ah ch))) :: (b3, cel 24 (gtl g (g.sl ag cg))) :: H, R, [(8, Ld Tryz.prog 27 ⟨b4, 0, none⟩ (c.v (c.sl ah ch))), (6, Ld Tryz.prog 24 ⟨b3, 0, none⟩ (g.v (g.sl ag cg))), (2, Ld Tryz.prog 27 ⟨b4, 0, none⟩ (c.v (c.sl ah ch))), (0, Ld Tryz.prog 24 ⟨b3, 0, none⟩ (g.v (g.sl ag cg)))])) (fun v9 => ?_) (fun h55460 => ?_)
 obtain ⟨b10, b11⟩ := v9
 dsimp only
 unfold pl3_3_55460
 refine sy_any ?_
 refine sy_alt ?_ ?_
 refine cl rfl cal8 rfl rfl (c_Own g ag cg (by omega) _ _) ?_
 rintro _ _ R1 ⟨o, rfl, ho, rfl, hR1⟩
 obtain rfl := hR1.symm
 clear hR1
 obtain ⟨a1, c1, he, hf⟩ := o.freeze
 rw [he]
 refine Sy.heap (H' := _) (fun w h => hf h) ?_
 rw [show (grows g.grs).length = g.grs.length from List.length_map _]
 clear he hf
 refine bg (fun w hs => ⟨((lhA (ctl c (c.sl ah ch)) ag27 rfl rfl rfl)) w hs, ((lhA (gtl g (g.sl ag cg)) ag24 rfl rfl rfl)) w hs, ((lhA (ctl c (c.sl ah ch)) ag27 rfl rfl rfl)) w hs, trivial, trivial⟩) ?_
 exact sy_to (h75460 (a1, c1, b10, b11)) (by repeat' first | exact Sub.nil | apply Sub.cons | rfl | (simp [lk]; omega)) (fun _ h => St.sub ((h.pull b10).pull b11))
 refine sy_alt ?_ ?_
 refine alc rfl zl24 rfl (fun b7 => ?_)
 refine bg (fun w hs => ⟨((lhA (ctl c (c.sl ah ch)) ag27 rfl rfl rfl)) w hs, ((lhA (gtl g (g.sl ag cg)) ag24 rfl rfl rfl)) w hs, ((lhA (ctl c (c.sl ah ch)) ag27 rfl rfl rfl)) w hs, ((lhA (gtl g (g.sl ag cg)) ag24 rfl rfl rfl)) w hs, trivial⟩) ?_
 exact sy_to (h55560 (b7, b10, b11)) (by repeat' first | exact Sub.nil | apply Sub.cons | rfl | (simp [lk]; omega)) (fun _ h => St.sub (((h.pull b7).pull b10).pull b11))
 refine sy_alt ?_ ?_
 refine alc rfl zl27 rfl (fun b8 => ?_)
 refine bg (fun w hs => ⟨((lhA (ctl c (c.sl ah ch)) ag27 rfl rfl rfl)) w hs, ((lhA (gtl g (g.sl ag cg)) ag24 rfl rfl rfl)) w hs, ((lhA (ctl c (c.sl ah ch)) ag27 rfl rfl rfl)) w hs, ((lhA (gtl g (g.sl ag cg)) ag24 rfl rfl rfl)) w hs, trivial⟩) ?_
 exact sy_to (h554e0 (b8, b10, b11)) (by repeat' first | exact Sub.nil | apply Sub.cons | rfl | (simp [lk]; omega)) (fun _ h => St.sub (((h.pull b8).pull b10).pull b11))
 exact sy_stop
 refine sy_any ?_
 refine sy_alt ?_ ?_
 refine cl rfl cal8 rfl rfl (c_Own g ag cg (by omega) _ _) ?_
 rintro _ _ R1 ⟨o, rfl, ho, rfl, hR1⟩
 obtain rfl := hR1.symm
 clear hR1
 obtain ⟨a1, c1, he, hf⟩ := o.freeze
 rw [he]
 refine Sy.heap (H' := _) (fun w h => hf h) ?_
 rw [show (grows g.grs).length = g.grs.length from List.length_map _]
 clear he hf
 refine bg (fun w hs => ⟨(lhA [_, _, _] ag27 rfl rfl rfl) w hs, (lhA [_, _, _] ag24 rfl rfl rfl) w hs, (lhA [_, _, _] ag27 rfl rfl rfl) w hs, trivial, trivial⟩) ?_
 refine sy_any ?_
 refine sy_alt ?_ ?_
 refine cl rfl cal9 rfl rfl (c_Owned c ah ch (by omega) _ _) ?_
 rintro _ _ R1 ⟨o, rfl, ho, rfl, hR1⟩
 obtain rfl := hR1.symm
 clear hR1
 obtain ⟨a2, c2, he, hf⟩ := o.freeze
 rw [he]
 refine Sy.heap (H' := _) (fun w h => hf h) ?_
 rw [show (hrows c.hs).length = c.hs.length from List.length_map _]
 clear he hf
 refine bg (fun w hs => ⟨(lhA [_, _, _] ag27 rfl rfl rfl) w hs, (lhA [_, _, _] ag24 rfl rfl rfl) w hs, trivial, trivial⟩) ?_
 refine sy_any ?_
 refine sy_alt ?_ ?_
 refine cl rfl cal10 rfl rfl (c_dup_int l al cy (by omega) _ _) ?_
 rintro _ _ R1 ⟨o, rfl, ho, rfl, hR1⟩
 obtain rfl := hR1.symm
 clear hR1
 obtain ⟨a5, c5, he, hf⟩ := o.freeze
 rw [he]
 refine Sy.heap (H' := _) (fun w h => hf h) ?_
 rw [show (irows l).length = l.length from List.length_map _]
 clear he hf
 refine bg (fun w hs => ⟨(lhA [_, _, _] ag27 rfl rfl rfl) w hs, (lhA [_, _, _] ag24 rfl rfl rfl) w hs, trivial⟩) ?_
 refine sy_any ?_
 refine sy_alt ?_ ?_
 refine cl rfl cal11 rfl rfl (c_theirs g ag cg (by omega) _ _) ?_
 rintro _ _ R1 ⟨a3, c3, rfl, rfl, hR1⟩
 obtain rfl := hR1.symm
 clear hR1
 refine bg (fun w hs => ⟨(lhA [_, _, _] ag27 rfl rfl rfl) w hs, trivial, trivial⟩) ?_
 refine sy_any ?_
 refine sy_alt ?_ ?_
 refine cl rfl cal12 rfl rfl (c_come c ah ch (by omega) _ _) ?_
 rintro _ _ R1 ⟨a4, c4, rfl, rfl, hR1⟩
 obtain rfl := hR1.symm
 clear hR1
 refine bg (fun w hs => ⟨trivial, trivial⟩) ?_
 refine sy_any ?_
 refine sy_alt ?_ ?_
 refine alc rfl zl24 rfl (fun b7 => ?_)
 refine bg (fun w hs => trivial) ?_
 exact sy_to (h7ff00 (a1, c1, a2, c2, a5, c5, a3, c3, a4, c4, b7)) (by repeat' first | exact Sub.nil | apply Sub.cons | rfl | (simp [lk]; omega)) (fun _ h => St.sub (h.pull b7))
 refine sy_alt ?_ ?_
 refine alc rfl zl27 rfl (fun b8 => ?_)
 refine bg (fun w hs => trivial) ?_
 exact sy_to (h7fe80 (a1, c1, a2, c2, a5, c5, a3, c3, a4, c4, b8)) (by repeat' first | exact Sub.nil | apply Sub.cons | rfl | (simp [lk]; omega)) (fun _ h => St.sub (h.pull b8))
 refine sy_alt ?_ ?_
 refine alc rfl zl36 rfl (fun b10 => ?_)
 refine bg (fun w hs => trivial) ?_
 exact sy_to (h7fe40 (a1, c1, a2, c2, a5, c5, a3, c3, a4, c4, b10)) (by repeat' first | exact Sub.nil | apply Sub.cons | rfl | (simp [lk]; omega)) (fun _ h => St.sub (h.pull b10))
 refine sy_alt ?_ ?_
 refine alc rfl zl40 rfl (fun b11 => ?_)
 refine bg (fun w hs => trivial) ?_
 exact sy_to (h7fe20 (a1, c1, a2, c2, a5, c5, a3, c3, a4, c4, b11)) (by repeat' first | exact Sub.nil | apply Sub.cons | rfl | (simp [lk]; omega)) (fun _ h => St.sub (h.pull b11))
 exact sy_stop
 refine sy_alt ?_ ?_
 refine alc rfl zl24 rfl (fun b7 => ?_)
 refine bg (fun w hs => ⟨(lhA [_, _, _] ag27 rfl rfl rfl) w hs, trivial⟩) ?_
 exact sy_to (h7fd00 (a1, c1, a2, c2, a5, c5, a3, c3, b7)) (by repeat' first | exact Sub.nil | apply Sub.cons | rfl | (simp [lk]; omega)) (fun _ h => St.sub (h.pull b7))
 refine sy_alt ?_ ?_
 refine alc rfl zl27 rfl (fun b8 => ?_)
 refine bg (fun w hs => ⟨(lhA [_, _, _] ag27 rfl rfl rfl) w hs, trivial⟩) ?_
 exact sy_to (h7fc80 (a1, c1, a2, c2, a5, c5, a3, c3, b8)) (by repeat' first | exact Sub.nil | apply Sub.cons | rfl | (simp [lk]; omega)) (fun _ h => St.sub (h.pull b8))
 refine sy_alt ?_ ?_
 refine alc rfl zl36 rfl (fun b10 => ?_)
 refine bg (fun w hs => ⟨(lhA [_, _, _] ag27 rfl rfl rfl) w hs, trivial⟩) ?_
 exact sy_to (h7fc40 (a1, c1, a2, c2, a5, c5, a3, c3, b10)) (by repeat' first | exact Sub.nil | apply Sub.cons | rfl | (simp [lk]; omega)) (fun _ h => St.sub (h.pull b10))
 refine sy_alt ?_ ?_
 refine alc rfl zl40 rfl (fun b11 => ?_)
 refine bg (fun w hs => ⟨(lhA [_, _, _] ag27 rfl rfl rfl) w hs, trivial⟩) ?_
 exact sy_to (h7fc20 (a1, c1, a2, c2, a5, c5, a3, c3, b11)) (by repeat' first | exact Sub.nil | apply Sub.cons | rfl | (simp [lk]; omega)) (fun _ h => St.sub (h.pull b11))
 exact sy_stop
 refine sy_alt ?_ ?_
 refine alc rfl zl24 rfl (fun b7 => ?_)
 refine bg (fun w hs => ⟨(lhA [_, _, _] ag27 rfl rfl rfl) w hs, (lhA [_, _, _] ag24 rfl rfl rfl) w hs, trivial⟩) ?_
 exact sy_to (h7f500 (a1, c1, a2, c2, a5, c5, b7)) (by repeat' first | exact Sub.nil | apply Sub.cons | rfl | (simp [lk]; omega)) (fun _ h => St.sub (h.pull b7))
 refine sy_alt ?_ ?_
 refine alc rfl zl27 rfl (fun b8 => ?_)
 refine bg (fun w hs => ⟨(lhA [_, _, _] ag27 rfl rfl rfl) w hs, (lhA [_, _, _] ag24 rfl rfl rfl) w hs, trivial⟩) ?_
 exact sy_to (h7f480 (a1, c1, a2, c2, a5, c5, b8)) (by repeat' first | exact Sub.nil | apply Sub.cons | rfl | (simp [lk]; omega)) (fun _ h => St.sub (h.pull b8))
 refine sy_alt ?_ ?_
 refine alc rfl zl36 rfl (fun b10 => ?_)
 refine bg (fun w hs => ⟨(lhA [_, _, _] ag27 rfl rfl rfl) w hs, (lhA [_, _, _] ag24 rfl rfl rfl) w hs, trivial⟩) ?_
 exact sy_to (h7f440 (a1, c1, a2, c2, a5, c5, b10)) (by repeat' first | exact Sub.nil | apply Sub.cons | rfl | (simp [lk]; omega)) (fun _ h => St.sub (h.pull b10))
 refine sy_alt ?_ ?_
 refine alc rfl zl40 rfl (fun b11 => ?_)
 refine bg (fun w hs => ⟨(lhA [_, _, _] ag27 rfl rfl rfl) w hs, (lhA [_, _, _] ag24 rfl rfl rfl) w hs, trivial⟩) ?_
 exact sy_to (h7f420 (a1, c1, a2, c2, a5, c5, b11)) (by repeat' first | exact Sub.nil | apply Sub.cons | rfl | (simp [lk]; omega)) (fun _ h => St.sub (h.pull b11))
 exact sy_stop
 refine sy_alt ?_ ?_
 refine alc rfl zl24 rfl (fun b7 => ?_)
 refine bg (fun w hs => ⟨(lhA [_, _, _] ag27 rfl rfl rfl) w hs, (lhA [_, _, _] ag24 rfl rfl rfl) w hs, trivial⟩) ?_
 exact sy_to (h7d500 (a1, c1, a2, c2, b7)) (by repeat' first | exact Sub.nil | apply Sub.cons | rfl | (simp [lk]; omega)) (fun _ h => St.sub (h.pull b7))
 refine sy_alt ?_ ?_
 refine alc rfl zl27 rfl (fun b8 => ?_)
 refine bg (fun w hs => ⟨(lhA [_, _, _] ag27 rfl rfl rfl) w hs, (lhA [_, _, _] ag24 rfl rfl rfl) w hs, trivial⟩) ?_
 exact sy_to (h7d480 (a1, c1, a2, c2, b8)) (by repeat' first | exact Sub.nil | apply Sub.cons | rfl | (simp [lk]; omega)) (fun _ h => St.sub (h.pull b8))
 refine sy_alt ?_ ?_
 refine alc rfl zl36 rfl (fun b10 => ?_)
 refine bg (fun w hs => ⟨(lhA [_, _, _] ag27 rfl rfl rfl) w hs, (lhA [_, _, _] ag24 rfl rfl rfl) w hs, trivial⟩) ?_
 exact sy_to (h7d440 (a1, c1, a2, c2, b10)) (by repeat' first | exact Sub.nil | apply Sub.cons | rfl | (simp [lk]; omega)) (fun _ h => St.sub (h.pull b10))
 refine sy_alt ?_ ?_
 refine alc rfl zl40 rfl (fun b11 => ?_)
 refine bg (fun w hs => ⟨(lhA [_, _, _] ag27 rfl rfl rfl) w hs, (lhA [_, _, _] ag24 rfl rfl rfl) w hs, trivial⟩) ?_
 exact sy_to (h7d420 (a1, c1, a2, c2, b11)) (by repeat' first | exact Sub.nil | apply Sub.cons | rfl | (simp [lk]; omega)) (fun _ h => St.sub (h.pull b11))
 exact sy_stop
 refine sy_alt ?_ ?_
 refine alc rfl zl24 rfl (fun b7 => ?_)
 refine bg (fun w hs => ⟨(lhA [_, _, _] ag27 rfl rfl rfl) w hs, (lhA [_, _, _] ag24 rfl rfl rfl) w hs, (lhA [_, _, _] ag27 rfl rfl rfl) w hs, trivial⟩) ?_
 exact sy_to (h75500 (a1, c1, b7)) (by repeat' first | exact Sub.nil | apply Sub.cons | rfl | (simp [lk]; omega)) (fun _ h => St.sub (h.pull b7))
 refine sy_alt ?_ ?_
 refine alc rfl zl27 rfl (fun b8 => ?_)
 refine bg (fun w hs => ⟨(lhA [_, _, _] ag27 rfl rfl rfl) w hs, (lhA [_, _, _] ag24 rfl rfl rfl) w hs, (lhA [_, _, _] ag27 rfl rfl rfl) w hs, trivial⟩) ?_
 exact sy_to (h75480 (a1, c1, b8)) (by repeat' first | exact Sub.nil | apply Sub.cons | rfl | (simp [lk]; omega)) (fun _ h => St.sub (h.pull b8))
 refine sy_alt ?_ ?_
 refine alc rfl zl36 rfl (fun b10 => ?_)
 refine bg (fun w hs => ⟨(lhA [_, _, _] ag27 rfl rfl rfl) w hs, (lhA [_, _, _] ag24 rfl rfl rfl) w hs, (lhA [_, _, _] ag27 rfl rfl rfl) w hs, trivial⟩) ?_
 exact sy_to (h75440 (a1, c1, b10)) (by repeat' first | exact Sub.nil | apply Sub.cons | rfl | (simp [lk]; omega)) (fun _ h => St.sub (h.pull b10))
 refine sy_alt ?_ ?_
 refine alc rfl zl40 rfl (fun b11 => ?_)
 refine bg (fun w hs => ⟨(lhA [_, _, _] ag27 rfl rfl rfl) w hs, (lhA [_, _, _] ag24 rfl rfl rfl) w hs, (lhA [_, _, _] ag27 rfl rfl rfl) w hs, trivial⟩) ?_
 exact sy_to (h75420 (a1, c1, b11)) (by repeat' first | exact Sub.nil | apply Sub.cons | rfl | (simp [lk]; omega)) (fun _ h => St.sub (h.pull b11))
 exact sy_stop
 refine sy_alt ?_ ?_
 refine alc rfl zl24 rfl (fun b7 => ?_)
 refine bg (fun w hs => ⟨(lhA [_, _, _] ag27 rfl rfl rfl) w hs, (lhA [_, _, _] ag24 rfl rfl rfl) w hs, (lhA [_, _, _] ag27 rfl rfl rfl) w hs, (lhA [_, _, _] ag24 rfl rfl rfl) w hs, trivial⟩) ?_
 refine sy_any ?_
 refine sy_alt ?_ ?_
 refine cl rfl cal8 rfl rfl (c_Own g ag cg (by omega) _ _) ?_
 rintro _ _ R1 ⟨o, rfl, ho, rfl, hR1⟩
 obtain rfl := hR1.symm
 clear hR1
 obtain ⟨a1, c1, he, hf⟩ := o.freeze
 rw [he]
 refine Sy.heap (H' := _) (fun w h => hf h) ?_
 rw [show (grows g.grs).length = g.grs.length from List.length_map _]
 clear he hf
 refine bg (fun w hs => ⟨(lhA [_, _, _] ag27 rfl rfl rfl) w hs, (lhA [_, _, _] ag24 rfl rfl rfl) w hs, (lhA [_, _, _] ag27 rfl rfl rfl) w hs, trivial, trivial⟩) ?_
 exact sy_to (h75500 (a1, c1, b7)) (by repeat' first | exact Sub.nil | apply Sub.cons | rfl | (simp [lk]; omega)) (fun _ h => St.sub (h.pull b7))
 refine sy_alt ?_ ?_
 refine alc rfl zl27 rfl (fun b8 => ?_)
 refine bg (fun w hs => ⟨(lhA [_, _, _] ag27 rfl rfl rfl) w hs, (lhA [_, _, _] ag24 rfl rfl rfl) w hs, (lhA [_, _, _] ag27 rfl rfl rfl) w hs, (lhA [_, _, _] ag24 rfl rfl rfl) w hs, trivial⟩) ?_
 exact sy_to (h55580 (b7, b8)) (by repeat' first | exact Sub.nil | apply Sub.cons | rfl | (simp [lk]; omega)) (fun _ h => St.sub ((h.pull b7).pull b8))
 refine sy_alt ?_ ?_
 refine alc rfl zl36 rfl (fun b10 => ?_)
 refine bg (fun w hs => ⟨(lhA [_, _, _] ag27 rfl rfl rfl) w hs, (lhA [_, _, _] ag24 rfl rfl rfl) w hs, (lhA [_, _, _] ag27 rfl rfl rfl) w hs, (lhA [_, _, _] ag24 rfl rfl rfl) w hs, trivial⟩) ?_
 exact sy_to (h55540 (b7, b10)) (by repeat' first | exact Sub.nil | apply Sub.cons | rfl | (simp [lk]; omega)) (fun _ h => St.sub ((h.pull b7).pull b10))
 refine sy_alt ?_ ?_
 refine alc rfl zl40 rfl (fun b11 => ?_)
 refine bg (fun w hs => ⟨(lhA [_, _, _] ag27 rfl rfl rfl) w hs, (lhA [_, _, _] ag24 rfl rfl rfl) w hs, (lhA [_, _, _] ag27 rfl rfl rfl) w hs, (lhA [_, _, _] ag24 rfl rfl rfl) w hs, trivial⟩) ?_
 exact sy_to (h55520 (b7, b11)) (by repeat' first | exact Sub.nil | apply Sub.cons | rfl | (simp [lk]; omega)) (fun _ h => St.sub ((h.pull b7).pull b11))
 exact sy_stop
 refine sy_alt ?_ ?_
 refine alc rfl zl27 rfl (fun b8 => ?_)
 refine bg (fun w hs => ⟨(lhA [_, _, _] ag27 rfl rfl rfl) w hs, (lhA [_, _, _] ag24 rfl rfl rfl) w hs, (lhA [_, _, _] ag27 rfl rfl rfl) w hs, (lhA [_, _, _] ag24 rfl rfl rfl) w hs, trivial⟩) ?_
 refine sy_any ?_
 refine sy_alt ?_ ?_
 refine cl rfl cal8 rfl rfl (c_Own g ag cg (by omega) _ _) ?_
 rintro _ _ R1 ⟨o, rfl, ho, rfl, hR1⟩
 obtain rfl := hR1.symm
 clear hR1
 obtain ⟨a1, c1, he, hf⟩ := o.freeze
 rw [he]
 refine Sy.heap (H' := _) (fun w h => hf h) ?_
 rw [show (grows g.grs).length = g.grs.length from List.length_map _]
 clear he hf
 refine bg (fun w hs => ⟨(lhA [_, _, _] ag27 rfl rfl rfl) w hs, (lhA [_, _, _] ag24 rfl rfl rfl) w hs, (lhA [_, _, _] ag27 rfl rfl rfl) w hs, trivial, trivial⟩) ?_
 exact sy_to (h75480 (a1, c1, b8)) (by repeat' first | exact Sub.nil | apply Sub.cons | rfl | (simp [lk]; omega)) (fun _ h => St.sub (h.pull b8))
 refine sy_alt ?_ ?_
 refine alc rfl zl24 rfl (fun b7 => ?_)
 refine bg (fun w hs => ⟨(lhA [_, _, _] ag27 rfl rfl rfl) w hs, (lhA [_, _, _] ag24 rfl rfl rfl) w hs, (lhA [_, _, _] ag27 rfl rfl rfl) w hs, (lhA [_, _, _] ag24 rfl rfl rfl) w hs, trivial⟩) ?_
 exact sy_to (h55580 (b7, b8)) (by repeat' first | exact Sub.nil | apply Sub.cons | rfl | (simp [lk]; omega)) (fun _ h => St.sub ((h.pull b7).pull b8))
 refine sy_alt ?_ ?_
 refine alc rfl zl36 rfl (fun b10 => ?_)
 refine bg (fun w hs => ⟨(lhA [_, _, _] ag27 rfl rfl rfl) w hs, (lhA [_, _, _] ag24 rfl rfl rfl) w hs, (lhA [_, _, _] ag27 rfl rfl rfl) w hs, (lhA [_, _, _] ag24 rfl rfl rfl) w hs, trivial⟩) ?_
 exact sy_to (h554c0 (b8, b10)) (by repeat' first | exact Sub.nil | apply Sub.cons | rfl | (simp [lk]; omega)) (fun _ h => St.sub ((h.pull b8).pull b10))
 refine sy_alt ?_ ?_
 refine alc rfl zl40 rfl (fun b11 => ?_)
 refine bg (fun w hs => ⟨(lhA [_, _, _] ag27 rfl rfl rfl) w hs, (lhA [_, _, _] ag24 rfl rfl rfl) w hs, (lhA [_, _, _] ag27 rfl rfl rfl) w hs, (lhA [_, _, _] ag24 rfl rfl rfl) w hs, trivial⟩) ?_
 exact sy_to (h554a0 (b8, b11)) (by repeat' first | exact Sub.nil | apply Sub.cons | rfl | (simp [lk]; omega)) (fun _ h => St.sub ((h.pull b8).pull b11))
 exact sy_stop
 refine sy_alt ?_ ?_
 refine alc rfl zl36 rfl (fun b10 => ?_)
 refine bg (fun w hs => ⟨(lhA [_, _, _] ag27 rfl rfl rfl) w hs, (lhA [_, _, _] ag24 rfl rfl rfl) w hs, (lhA [_, _, _] ag27 rfl rfl rfl) w hs, (lhA [_, _, _] ag24 rfl rfl rfl) w hs, trivial⟩) ?_
 refine sy_any ?_
 refine sy_alt ?_ ?_
 refine cl rfl cal8 rfl rfl (c_Own g ag cg (by omega) _ _) ?_
 rintro _ _ R1 ⟨o, rfl, ho, rfl, hR1⟩
 obtain rfl := hR1.symm
 clear hR1
 obtain ⟨a1, c1, he, hf⟩ := o.freeze
 rw [he]
 refine Sy.heap (H' := _) (fun w h => hf h) ?_
 rw [show (grows g.grs).length = g.grs.length from List.length_map _]
 clear he hf
 refine bg (fun w hs => ⟨(lhA [_, _, _] ag27 rfl rfl rfl) w hs, (lhA [_, _, _] ag24 rfl rfl rfl) w hs, (lhA [_, _, _] ag27 rfl rfl rfl) w hs, trivial, trivial⟩) ?_
 exact sy_to (h75440 (a1, c1, b10)) (by repeat' first | exact Sub.nil | apply Sub.cons | rfl | (simp [lk]; omega)) (fun _ h => St.sub (h.pull b10))
 refine sy_alt ?_ ?_
 refine alc rfl zl24 rfl (fun b7 => ?_)
 refine bg (fun w hs => ⟨(lhA [_, _, _] ag27 rfl rfl rfl) w hs, (lhA [_, _, _] ag24 rfl rfl rfl) w hs, (lhA [_, _, _] ag27 rfl rfl rfl) w hs, (lhA [_, _, _] ag24 rfl rfl rfl) w hs, trivial⟩) ?_
 exact sy_to (h55540 (b7, b10)) (by repeat' first | exact Sub.nil | apply Sub.cons | rfl | (simp [lk]; omega)) (fun _ h => St.sub ((h.pull b7).pull b10))
 refine sy_alt ?_ ?_
 refine alc rfl zl27 rfl (fun b8 => ?_)
 refine bg (fun w hs => ⟨(lhA [_, _, _] ag27 rfl rfl rfl) w hs, (lhA [_, _, _] ag24 rfl rfl rfl) w hs, (lhA [_, _, _] ag27 rfl rfl rfl) w hs, (lhA [_, _, _] ag24 rfl rfl rfl) w hs, trivial⟩) ?_
 exact sy_to (h554c0 (b8, b10)) (by repeat' first | exact Sub.nil | apply Sub.cons | rfl | (simp [lk]; omega)) (fun _ h => St.sub ((h.pull b8).pull b10))
 refine sy_alt ?_ ?_
 refine alc rfl zl40 rfl (fun b11 => ?_)
 refine bg (fun w hs => ⟨(lhA [_, _, _] ag27 rfl rfl rfl) w hs, (lhA [_, _, _] ag24 rfl rfl rfl) w hs, (lhA [_, _, _] ag27 rfl rfl rfl) w hs, (lhA [_, _, _] ag24 rfl rfl rfl) w hs, trivial⟩) ?_
 exact sy_to (h55460 (b10, b11)) (by repeat' first | exact Sub.nil | apply Sub.cons | rfl | (simp [lk]; omega)) (fun _ h => St.sub ((h.pull b10).pull b11))
 exact sy_stop
 refine sy_alt ?_ ?_
 refine alc rfl zl40 rfl (fun b11 => ?_)
 refine bg (fun w hs => ⟨(lhA [_, _, _] ag27 rfl rfl rfl) w hs, (lhA [_, _, _] ag24 rfl rfl rfl) w hs, (lhA [_, _, _] ag27 rfl rfl rfl) w hs, (lhA [_, _, _] ag24 rfl rfl rfl) w hs, trivial⟩) ?_
 refine sy_any ?_
 refine sy_alt ?_ ?_
 refine cl rfl cal8 rfl rfl (c_Own g ag cg (by omega) _ _) ?_
 rintro _ _ R1 ⟨o, rfl, ho, rfl, hR1⟩
 obtain rfl := hR1.symm
 clear hR1
 obtain ⟨a1, c1, he, hf⟩ := o.freeze
 rw [he]
 refine Sy.heap (H' := _) (fun w h => hf h) ?_
 rw [show (grows g.grs).length = g.grs.length from List.length_map _]
 clear he hf
 refine bg (fun w hs => ⟨(lhA [_, _, _] ag27 rfl rfl rfl) w hs, (lhA [_, _, _] ag24 rfl rfl rfl) w hs, (lhA [_, _, _] ag27 rfl rfl rfl) w hs, trivial, trivial⟩) ?_
 exact sy_to (h75420 (a1, c1, b11)) (by repeat' first | exact Sub.nil | apply Sub.cons | rfl | (simp [lk]; omega)) (fun _ h => St.sub (h.pull b11))
 refine sy_alt ?_ ?_
 refine alc rfl zl24 rfl (fun b7 => ?_)
 refine bg (fun w hs => ⟨(lhA [_, _, _] ag27 rfl rfl rfl) w hs, (lhA [_, _, _] ag24 rfl rfl rfl) w hs, (lhA [_, _, _] ag27 rfl rfl rfl) w hs, (lhA [_, _, _] ag24 rfl rfl rfl) w hs, trivial⟩) ?_
 exact sy_to (h55520 (b7, b11)) (by repeat' first | exact Sub.nil | apply Sub.cons | rfl | (simp [lk]; omega)) (fun _ h => St.sub ((h.pull b7).pull b11))
 refine sy_alt ?_ ?_
 refine alc rfl zl27 rfl (fun b8 => ?_)
 refine bg (fun w hs => ⟨(lhA [_, _, _] ag27 rfl rfl rfl) w hs, (lhA [_, _, _] ag24 rfl rfl rfl) w hs, (lhA [_, _, _] ag27 rfl rfl rfl) w hs, (lhA [_, _, _] ag24 rfl rfl rfl) w hs, trivial⟩) ?_
 exact sy_to (h554a0 (b8, b11)) (by repeat' first | exact Sub.nil | apply Sub.cons | rfl | (simp [lk]; omega)) (fun _ h => St.sub ((h.pull b8).pull b11))
 refine sy_alt ?_ ?_
 refine alc rfl zl36 rfl (fun b10 => ?_)
 refine bg (fun w hs => ⟨(lhA [_, _, _] ag27 rfl rfl rfl) w hs, (lhA [_, _, _] ag24 rfl rfl rfl) w hs, (lhA [_, _, _] ag27 rfl rfl rfl) w hs, (lhA [_, _, _] ag24 rfl rfl rfl) w hs, trivial⟩) ?_
 exact sy_to (h55460 (b10, b11)) (by repeat' first | exact Sub.nil | apply Sub.cons | rfl | (simp [lk]; omega)) (fun _ h => St.sub ((h.pull b10).pull b11))
 exact sy_stop
 exact sy_stop
end Go.Proofs.YtknoaljnelfklaaGreat
