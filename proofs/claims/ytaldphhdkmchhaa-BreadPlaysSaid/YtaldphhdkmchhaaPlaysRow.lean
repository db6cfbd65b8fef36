/- Play answers as the reference says: BreadPlays returns true for every input, and its arguments read as they did. -/
import Derived.Test.YtaldphhdkmchhaaRows
import Derived.Test.YtaldphhdkmchhaaWk26
import Derived.Test.YtaldphhdkmchhaaEngW
import Derived.OpenShut
namespace Go.Proofs.Ytaldphhdkmchhaa
open Go.ChangeShapes Go.WideShapes Go.ChangeAt Go.RowKit
set_option linter.unusedVariables false
set_option linter.unusedSimpArgs false

theorem breadPlaysOwn : ownKnob Try.prog.godebug = none := by kernel_rfl
theorem breadPlaysLaid : laidOutB Try.prog = true := by kernel_rfl
theorem breadPlaysShp3 : shp Try.prog 6 3 = some ([.int .i64]) := by kernel_rfl
theorem breadPlaysShp4 : shp Try.prog 6 4 = some ([.bool]) := by kernel_rfl
theorem breadPlaysShp26 : shp Try.prog 6 26 = some ([.int .i64, .int .i64, .int .i64, .int .i64, .int .i64, .int .i64, .int .i64, .int .i64, .int .i64, .int .i64, .slice 91]) := by kernel_rfl
theorem breadPlaysShp42 : shp Try.prog 6 42 = some ([.slice 3]) := by kernel_rfl
theorem breadPlaysShp80 : shp Try.prog 6 80 = some ([.slice 4]) := by kernel_rfl
theorem breadPlaysShp91 : shp Try.prog 6 91 = some ([.int .i64, .int .i64]) := by kernel_rfl

set_option maxRecDepth 100000 in
theorem breadPlaysLifted (os : Os) (started : os.Started) (H : Type) (enc : TypeId × Value → H) :
    ReturnsInHanded {} Try.checked os 9 .any (Rows.breadPlaysSpec.pre6 enc Try.prog Try.f9 Rows.breadPlaysRow.domain false) (Rows.breadPlaysSpec.post enc Try.prog Try.f9 false true false false) := by
  refine returnsInHanded_of_change (C := Try.checked) breadPlaysOwn started (by kernel_rfl) Try.func9
    (ChangeSpec.witness6 (enc := enc) (C := Try.checked) false ⟨#[], #[.agg #[.int .i64 0, .int .i64 0, .int .i64 0, .int .i64 0, .int .i64 0, .int .i64 0, .int .i64 0, .int .i64 0, .int .i64 0, .int .i64 0, .slice none 0 0], .slice none 0 0, .slice none 0 0], []⟩ 8 (by kernel_rfl) (by kernel_rfl) (by kernel_rfl) (by kernel_rfl)) ?_
  intro W base args ds gs before hval0 hW hcnd _
  have hval : ∀ (j : Nat) t v, Try.f9.params[j]? = some t → args[j]? = some v → Value.okWide Try.prog W .any base t v := hval0
  have hW' := hW
  obtain ⟨p, q, hA0, hV, rfl, hfz, hnd⟩ := hW
  have hA : DataW.TrodAll enc Try.prog W 0 (fun _ => true) true Try.f9.params.toList args.toList ds p := hA0
  rw [Try.params9] at hA hval
  obtain ⟨v0, vs0, d0, ds0, p0, q0, hargs, rfl, rfl, h0, r0⟩ := trodAll_cons hA
  obtain ⟨v1, vs1, d1, ds1, p1, q1, rfl, rfl, rfl, h1, r1⟩ := trodAll_cons r0
  obtain ⟨v2, vs2, d2, ds2, p2, q2, rfl, rfl, rfl, h2, r2⟩ := trodAll_cons r1
  obtain ⟨rfl, rfl, rfl⟩ := trodAll_nil r2
  obtain rfl : args = #[v0, v1, v2] := by cases args; simp_all
  obtain ⟨rfl, rfl⟩ := trodVars_none hV
  have lt0 : ∀ x ∈ p0, x.block < W.heap.size := by obtain ⟨m, hm⟩ := h0; exact DataW.trod_lt m _ _ _ hm
  have lt1 : ∀ x ∈ p1, x.block < W.heap.size := by obtain ⟨m, hm⟩ := h1; exact DataW.trod_lt m _ _ _ hm
  have lt2 : ∀ x ∈ p2, x.block < W.heap.size := by obtain ⟨m, hm⟩ := h2; exact DataW.trod_lt m _ _ _ hm
  obtain ⟨cs0, rfl⟩ := okWide_struct Try.underlying26 (hval 0 26 v0 rfl rfl)
  have hh0 := h0
  obtain ⟨fuel0, hf0⟩ := hh0
  obtain ⟨c0_0, l0_0, e0, ⟨n0_0, rfl, w0_0⟩, c0_1, l0_1, rfl, ⟨n0_1, rfl, w0_1⟩, c0_2, l0_2, rfl, ⟨n0_2, rfl, w0_2⟩, c0_3, l0_3, rfl, ⟨n0_3, rfl, w0_3⟩, c0_4, l0_4, rfl, ⟨n0_4, rfl, w0_4⟩, c0_5, l0_5, rfl, ⟨n0_5, rfl, w0_5⟩, c0_6, l0_6, rfl, ⟨n0_6, rfl, w0_6⟩, c0_7, l0_7, rfl, ⟨n0_7, rfl, w0_7⟩, c0_8, l0_8, rfl, ⟨n0_8, rfl, w0_8⟩, c0_9, l0_9, rfl, ⟨n0_9, rfl, w0_9⟩, c0_10, l0_10, rfl, ⟨a0_10, len0_10, cap0_10, rows0_10, rfl, hl0_10, hlen0_10, hrow0_10, hel0_10⟩, rfl⟩ := shp_ok breadPlaysShp26 hf0
  obtain rfl := agg_of e0
  rw [show Try.prog.cellsOf 91 = 2 from by kernel_rfl] at hrow0_10
  obtain ⟨x0_10, rfl⟩ := rows_of (f := rrow) (rows := rows0_10) (fun r hr => by
    obtain ⟨H1, enc1, b1, fuel1, sp1, held1, y, hy⟩ := hel0_10 r hr
    obtain ⟨c0, s0, rfl, ⟨y0, rfl, _⟩, c1, s1, rfl, ⟨y1, rfl, _⟩, rfl⟩ := shp_ok breadPlaysShp91 hy
    exact ⟨⟨y0, y1⟩, rfl⟩)
  rw [List.length_map] at hlen0_10
  subst hlen0_10
  replace hrow0_10 := hrow0_10 (by decide)
  obtain ⟨aa, ll, cc, rfl⟩ := okWide_slice Try.underlying42 (hval 1 42 v1 rfl rfl)
  have hh1 := h1
  obtain ⟨fuel1, hf1⟩ := hh1
  obtain ⟨c1_0, l1_0, e1, ⟨a1_0, len1_0, cap1_0, rows1_0, rfl, hl1_0, hlen1_0, hrow1_0, hel1_0⟩, rfl⟩ := shp_ok breadPlaysShp42 hf1
  simp only [Value.cells, List.cons.injEq, and_true, Value.int.injEq, Value.bool.injEq, Value.slice.injEq, true_and] at e1
  obtain ⟨u1, u2, u3⟩ := e1; obtain rfl := u1.symm; obtain rfl := u2.symm; obtain rfl := u3.symm
  rw [show Try.prog.cellsOf 3 = 1 from by kernel_rfl] at hrow1_0
  obtain ⟨x1_0, rfl⟩ := rows_of (f := (fun z : Int => [Value.int .i64 z])) (rows := rows1_0) (fun r hr => by
    obtain ⟨H1, enc1, b1, fuel1, sp1, held1, y, hy⟩ := hel1_0 r hr
    obtain ⟨c0, s0, rfl, ⟨y0, rfl, _⟩, rfl⟩ := shp_ok breadPlaysShp3 hy
    exact ⟨y0, rfl⟩)
  rw [List.length_map] at hlen1_0
  subst hlen1_0
  replace hrow1_0 := hrow1_0 (by decide)
  obtain ⟨aa, ll, cc, rfl⟩ := okWide_slice Try.underlying80 (hval 2 80 v2 rfl rfl)
  have hh2 := h2
  obtain ⟨fuel2, hf2⟩ := hh2
  obtain ⟨c2_0, l2_0, e2, ⟨a2_0, len2_0, cap2_0, rows2_0, rfl, hl2_0, hlen2_0, hrow2_0, hel2_0⟩, rfl⟩ := shp_ok breadPlaysShp80 hf2
  simp only [Value.cells, List.cons.injEq, and_true, Value.int.injEq, Value.bool.injEq, Value.slice.injEq, true_and] at e2
  obtain ⟨u1, u2, u3⟩ := e2; obtain rfl := u1.symm; obtain rfl := u2.symm; obtain rfl := u3.symm
  rw [show Try.prog.cellsOf 4 = 1 from by kernel_rfl] at hrow2_0
  obtain ⟨x2_0, rfl⟩ := rows_of (f := brow) (rows := rows2_0) (fun r hr => by
    obtain ⟨H1, enc1, b1, fuel1, sp1, held1, y, hy⟩ := hel2_0 r hr
    obtain ⟨c0, s0, rfl, ⟨y0, rfl⟩, rfl⟩ := shp_ok breadPlaysShp4 hy
    exact ⟨y0, rfl⟩)
  rw [List.length_map] at hlen2_0
  subst hlen2_0
  replace hrow2_0 := hrow2_0 (by decide)
  have hst : St [] [RowsA a0_10 2 (List.map rrow x0_10), RowsA a1_0 1 (List.map (fun z : Int => [Value.int .i64 z]) x1_0), RowsA a2_0 1 (List.map brow x2_0), fun w => Keep [] W w] W := St.start (by
    intro f hf w1 k1
    simp only [List.mem_cons, List.not_mem_nil, or_false] at hf
    rcases hf with rfl | rfl | rfl | rfl
    · exact RowsA.keep (by decide) hrow0_10 k1
    · exact RowsA.keep (by decide) hrow1_0 k1
    · exact RowsA.keep (by decide) hrow2_0 k1
    · exact k1)
  clear hA0 hval0
  have hwalk := c_BreadPlays ⟨⟨n0_0, n0_1, n0_2⟩, n0_3, n0_4, n0_5, n0_6, n0_7, n0_8, n0_9, x0_10⟩ a0_10 cap0_10 hl0_10 x1_0 a1_0 cap1_0 hl1_0 x2_0 a2_0 cap2_0 hl2_0 [] [RowsA a0_10 2 (List.map rrow x0_10), RowsA a1_0 1 (List.map (fun z : Int => [Value.int .i64 z]) x1_0), RowsA a2_0 1 (List.map brow x2_0), fun w => Keep [] W w]
  refine CallsIn.calls (CallsIn.mono (hwalk W hst) ?_) (fun k => by first | trivial | simp [Fence.room, FF, Fence.wide])
  rintro e W' ⟨v, H', R', ⟨rfl, rfl, rfl⟩, rfl, hs⟩
  have bel : Below W.heap.size W W' := (hs.now (f := fun w => Keep [] W w) (by simp)).below
  exact ⟨_, rfl, _, _, _, [], _, [], hW', trodAll_mk1 (shut_bool Try.underlying4 _), (trodAll_cons_mk (Below.trod breadPlaysLaid (by kernel_rfl) (of_decide_eq_true (by kernel_rfl)) h0 bel lt0) ( trodAll_cons_mk (Below.trod breadPlaysLaid (by kernel_rfl) (of_decide_eq_true (by kernel_rfl)) h1 bel lt1) ( trodAll_cons_mk (Below.trod breadPlaysLaid (by kernel_rfl) (of_decide_eq_true (by kernel_rfl)) h2 bel lt2) (trodAll_mk0)))), rfl, bel.frame _, fun h => by cases h⟩

theorem breadPlaysOver : Rows.breadPlaysRow.holds Try.pinned (OpenSpec.ofChange Rows.breadPlaysSpec) :=
  OpenClaim.holds_of_wide 9 Try.f9 rfl rfl rfl rfl rfl rfl rfl ⟨rfl, rfl, rfl, rfl, rfl⟩ rfl rfl rfl rfl rfl (by kernel_rfl) Try.func9 (by kernel_rfl)
    (of_decide_eq_true (by kernel_rfl)) (by unfold Func.isWrapper; first | (rw [if_pos (by decide +kernel)]; kernel_rfl) | (rw [if_neg (by decide +kernel)]; exact ⟨rfl, rfl⟩))
    (fun os started H enc _ => breadPlaysLifted os started H enc)
theorem breadPlaysProved : Rows.BreadPlaysSaid := breadPlaysOver
end Go.Proofs.Ytaldphhdkmchhaa
