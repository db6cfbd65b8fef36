/- What is earned for certain is the most of a first ration and what is earned after it in the worst harvest, and no less than rations that are tried earn: BreadEarned returns true for every input, and its arguments read as they did. -/
import Derived.Test.YtaldphhdkmchhaaRows
import Derived.Test.YtaldphhdkmchhaaWk32
import Derived.Test.YtaldphhdkmchhaaEngW
import Derived.OpenShut
namespace Go.Proofs.Ytaldphhdkmchhaa
open Go.ChangeShapes Go.WideShapes Go.ChangeAt Go.RowKit
set_option linter.unusedVariables false
set_option linter.unusedSimpArgs false

theorem breadEarnedOwn : ownKnob Try.prog.godebug = none := by kernel_rfl
theorem breadEarnedLaid : laidOutB Try.prog = true := by kernel_rfl
theorem breadEarnedShp5 : shp Try.prog 6 5 = some ([.int .u8]) := by kernel_rfl
theorem breadEarnedShp74 : shp Try.prog 6 74 = some ([.slice 5]) := by kernel_rfl

set_option maxRecDepth 100000 in
theorem breadEarnedLifted (os : Os) (started : os.Started) (H : Type) (enc : TypeId × Value → H) :
    ReturnsInHanded {} Try.checked os 10 .any (Rows.breadEarnedSpec.pre6 enc Try.prog Try.f10 Rows.breadEarnedRow.domain false) (Rows.breadEarnedSpec.post enc Try.prog Try.f10 false true false false) := by
  refine returnsInHanded_of_change (C := Try.checked) breadEarnedOwn started (by kernel_rfl) Try.func10
    (ChangeSpec.witness6 (enc := enc) (C := Try.checked) false ⟨#[], #[.slice none 0 0, .slice none 0 0, .int .u8 0], []⟩ 8 (by kernel_rfl) (by kernel_rfl) (by kernel_rfl) (by kernel_rfl)) ?_
  intro W base args ds gs before hval0 hW hcnd _
  have hval : ∀ (j : Nat) t v, Try.f10.params[j]? = some t → args[j]? = some v → Value.okWide Try.prog W .any base t v := hval0
  have hW' := hW
  obtain ⟨p, q, hA0, hV, rfl, hfz, hnd⟩ := hW
  have hA : DataW.TrodAll enc Try.prog W 0 (fun _ => true) true Try.f10.params.toList args.toList ds p := hA0
  rw [Try.params10] at hA hval
  obtain ⟨v0, vs0, d0, ds0, p0, q0, hargs, rfl, rfl, h0, r0⟩ := trodAll_cons hA
  obtain ⟨v1, vs1, d1, ds1, p1, q1, rfl, rfl, rfl, h1, r1⟩ := trodAll_cons r0
  obtain ⟨v2, vs2, d2, ds2, p2, q2, rfl, rfl, rfl, h2, r2⟩ := trodAll_cons r1
  obtain ⟨rfl, rfl, rfl⟩ := trodAll_nil r2
  obtain rfl : args = #[v0, v1, v2] := by cases args; simp_all
  obtain ⟨rfl, rfl⟩ := trodVars_none hV
  have lt0 : ∀ x ∈ p0, x.block < W.heap.size := by obtain ⟨m, hm⟩ := h0; exact DataW.trod_lt m _ _ _ hm
  have lt1 : ∀ x ∈ p1, x.block < W.heap.size := by obtain ⟨m, hm⟩ := h1; exact DataW.trod_lt m _ _ _ hm
  have lt2 : ∀ x ∈ p2, x.block < W.heap.size := by obtain ⟨m, hm⟩ := h2; exact DataW.trod_lt m _ _ _ hm
  obtain ⟨aa, ll, cc, rfl⟩ := okWide_slice Try.underlying74 (hval 0 74 v0 rfl rfl)
  have hh0 := h0
  obtain ⟨fuel0, hf0⟩ := hh0
  obtain ⟨c0_0, l0_0, e0, ⟨a0_0, len0_0, cap0_0, rows0_0, rfl, hl0_0, hlen0_0, hrow0_0, hel0_0⟩, rfl⟩ := shp_ok breadEarnedShp74 hf0
  simp only [Value.cells, List.cons.injEq, and_true, Value.int.injEq, Value.bool.injEq, Value.slice.injEq, true_and] at e0
  obtain ⟨u1, u2, u3⟩ := e0; obtain rfl := u1.symm; obtain rfl := u2.symm; obtain rfl := u3.symm
  rw [show Try.prog.cellsOf 5 = 1 from by kernel_rfl] at hrow0_0
  obtain ⟨x0_0, rfl⟩ := rows_of (f := urow) (rows := rows0_0) (fun r hr => by
    obtain ⟨H1, enc1, b1, fuel1, sp1, held1, y, hy⟩ := hel0_0 r hr
    obtain ⟨c0, s0, rfl, ⟨y0, rfl, _⟩, rfl⟩ := shp_ok breadEarnedShp5 hy
    exact ⟨y0, rfl⟩)
  rw [List.length_map] at hlen0_0
  subst hlen0_0
  replace hrow0_0 := hrow0_0 (by decide)
  obtain ⟨aa, ll, cc, rfl⟩ := okWide_slice Try.underlying74 (hval 1 74 v1 rfl rfl)
  have hh1 := h1
  obtain ⟨fuel1, hf1⟩ := hh1
  obtain ⟨c1_0, l1_0, e1, ⟨a1_0, len1_0, cap1_0, rows1_0, rfl, hl1_0, hlen1_0, hrow1_0, hel1_0⟩, rfl⟩ := shp_ok breadEarnedShp74 hf1
  simp only [Value.cells, List.cons.injEq, and_true, Value.int.injEq, Value.bool.injEq, Value.slice.injEq, true_and] at e1
  obtain ⟨u1, u2, u3⟩ := e1; obtain rfl := u1.symm; obtain rfl := u2.symm; obtain rfl := u3.symm
  rw [show Try.prog.cellsOf 5 = 1 from by kernel_rfl] at hrow1_0
  obtain ⟨x1_0, rfl⟩ := rows_of (f := urow) (rows := rows1_0) (fun r hr => by
    obtain ⟨H1, enc1, b1, fuel1, sp1, held1, y, hy⟩ := hel1_0 r hr
    obtain ⟨c0, s0, rfl, ⟨y0, rfl, _⟩, rfl⟩ := shp_ok breadEarnedShp5 hy
    exact ⟨y0, rfl⟩)
  rw [List.length_map] at hlen1_0
  subst hlen1_0
  replace hrow1_0 := hrow1_0 (by decide)
  obtain ⟨vv, rfl⟩ := okWide_int Try.underlying5 (hval 2 5 v2 rfl rfl)
  have hh2 := h2
  obtain ⟨fuel2, hf2⟩ := hh2
  obtain ⟨c2_0, l2_0, e2, ⟨n2_0, rfl, w2_0⟩, rfl⟩ := shp_ok breadEarnedShp5 hf2
  simp only [Value.cells, List.cons.injEq, and_true, Value.int.injEq, Value.bool.injEq, Value.slice.injEq, true_and] at e2
  obtain rfl := e2.symm
  have hst : St [] [RowsA a0_0 1 (List.map urow x0_0), RowsA a1_0 1 (List.map urow x1_0), fun w => Keep [] W w] W := St.start (by
    intro f hf w1 k1
    simp only [List.mem_cons, List.not_mem_nil, or_false] at hf
    rcases hf with rfl | rfl | rfl
    · exact RowsA.keep (by decide) hrow0_0 k1
    · exact RowsA.keep (by decide) hrow1_0 k1
    · exact k1)
  clear hA0 hval0
  have hwalk := c_BreadEarned x0_0 a0_0 cap0_0 hl0_0 x1_0 a1_0 cap1_0 hl1_0 n2_0 w2_0 [] [RowsA a0_0 1 (List.map urow x0_0), RowsA a1_0 1 (List.map urow x1_0), fun w => Keep [] W w]
  refine CallsIn.calls (CallsIn.mono (hwalk W hst) ?_) (fun k => by first | trivial | simp [Fence.room, FF, Fence.wide])
  rintro e W' ⟨v, H', R', ⟨rfl, rfl, rfl⟩, rfl, hs⟩
  have bel : Below W.heap.size W W' := (hs.now (f := fun w => Keep [] W w) (by simp)).below
  exact ⟨_, rfl, _, _, _, [], _, [], hW', trodAll_mk1 (shut_bool Try.underlying4 _), (trodAll_cons_mk (Below.trod breadEarnedLaid (by kernel_rfl) (of_decide_eq_true (by kernel_rfl)) h0 bel lt0) ( trodAll_cons_mk (Below.trod breadEarnedLaid (by kernel_rfl) (of_decide_eq_true (by kernel_rfl)) h1 bel lt1) ( trodAll_cons_mk (Below.trod breadEarnedLaid (by kernel_rfl) (of_decide_eq_true (by kernel_rfl)) h2 bel lt2) (trodAll_mk0)))), rfl, bel.frame _, fun h => by cases h⟩

theorem breadEarnedOver : Rows.breadEarnedRow.holds Try.pinned (OpenSpec.ofChange Rows.breadEarnedSpec) :=
  OpenClaim.holds_of_wide 10 Try.f10 rfl rfl rfl rfl rfl rfl rfl ⟨rfl, rfl, rfl, rfl, rfl⟩ rfl rfl rfl rfl rfl (by kernel_rfl) Try.func10 (by kernel_rfl)
    (of_decide_eq_true (by kernel_rfl)) (by unfold Func.isWrapper; first | (rw [if_pos (by decide +kernel)]; kernel_rfl) | (rw [if_neg (by decide +kernel)]; exact ⟨rfl, rfl⟩))
    (fun os started H enc _ => breadEarnedLifted os started H enc)
theorem breadEarnedProved : Rows.BreadEarnedSaid := breadEarnedOver
end Go.Proofs.Ytaldphhdkmchhaa
