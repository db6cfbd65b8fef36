/- Share gives shares that are fair, and Fair tells whether shares are: BreadShares returns true for every input, and its arguments read as they did. -/
import Derived.Test.YtaldphhdkmchhaaRows
import Derived.Test.YtaldphhdkmchhaaWk12
import Derived.Test.YtaldphhdkmchhaaEngW
import Derived.OpenShut
namespace Go.Proofs.Ytaldphhdkmchhaa
open Go.ChangeShapes Go.WideShapes Go.ChangeAt Go.RowKit
set_option linter.unusedVariables false
set_option linter.unusedSimpArgs false

theorem breadSharesOwn : ownKnob Try.prog.godebug = none := by kernel_rfl
theorem breadSharesLaid : laidOutB Try.prog = true := by kernel_rfl
theorem breadSharesShp3 : shp Try.prog 6 3 = some ([.int .i64]) := by kernel_rfl
theorem breadSharesShp42 : shp Try.prog 6 42 = some ([.slice 3]) := by kernel_rfl
set_option maxRecDepth 100000 in
theorem breadSharesLifted (os : Os) (started : os.Started) (H : Type) (enc : TypeId × Value → H) :
    ReturnsInHanded {} Try.checked os 5 .any (Rows.breadSharesSpec.pre6 enc Try.prog Try.f5 Rows.breadSharesRow.domain false) (Rows.breadSharesSpec.post enc Try.prog Try.f5 false true false false) := by
  refine returnsInHanded_of_change (C := Try.checked) breadSharesOwn started (by kernel_rfl) Try.func5
    (ChangeSpec.witness6 (enc := enc) (C := Try.checked) false ⟨#[], #[.int .i64 0, .slice none 0 0, .slice none 0 0], []⟩ 8 (by kernel_rfl) (by kernel_rfl) (by kernel_rfl) (by kernel_rfl)) ?_
  intro W base args ds gs before hval0 hW hcnd _
  have hval : ∀ (j : Nat) t v, Try.f5.params[j]? = some t → args[j]? = some v → Value.okWide Try.prog W .any base t v := hval0
  have hW' := hW
  obtain ⟨p, q, hA0, hV, rfl, hfz, hnd⟩ := hW
  have hA : DataW.TrodAll enc Try.prog W 0 (fun _ => true) true Try.f5.params.toList args.toList ds p := hA0
  rw [Try.params5] at hA hval
  obtain ⟨v0, vs0, d0, ds0, p0, q0, hargs, rfl, rfl, h0, r0⟩ := trodAll_cons hA
  obtain ⟨v1, vs1, d1, ds1, p1, q1, rfl, rfl, rfl, h1, r1⟩ := trodAll_cons r0
  obtain ⟨v2, vs2, d2, ds2, p2, q2, rfl, rfl, rfl, h2, r2⟩ := trodAll_cons r1
  obtain ⟨rfl, rfl, rfl⟩ := trodAll_nil r2
  obtain rfl : args = #[v0, v1, v2] := by cases args; simp_all
  obtain ⟨rfl, rfl⟩ := trodVars_none hV
  have lt0 : ∀ x ∈ p0, x.block < W.heap.size := by obtain ⟨m, hm⟩ := h0; exact DataW.trod_lt m _ _ _ hm
  have lt1 : ∀ x ∈ p1, x.block < W.heap.size := by obtain ⟨m, hm⟩ := h1; exact DataW.trod_lt m _ _ _ hm
  have lt2 : ∀ x ∈ p2, x.block < W.heap.size := by obtain ⟨m, hm⟩ := h2; exact DataW.trod_lt m _ _ _ hm
  obtain ⟨x0, rfl, wx0⟩ : ∃ n : Int, v0 = .int .i64 n ∧ (-9223372036854775808 ≤ n ∧ n ≤ 9223372036854775807) := by
    obtain ⟨n, rfl, rfl, rfl, w⟩ := open_int Try.underlying3 (hval 0 3 v0 rfl rfl) h0
    simp only [Lit.wf, Bool.and_eq_true, decide_eq_true_eq] at w
    exact ⟨n, rfl, w⟩
  obtain ⟨a1, len1, cap1, rfl⟩ := okWide_slice Try.underlying42 (hval 1 42 v1 rfl rfl)
  obtain ⟨x1, hx1, hl1, hr1⟩ : ∃ xs : List Int, len1 = xs.length ∧ xs.length ≤ 9223372036854775807 ∧ RowsA a1 1 (irows xs) W := by
    obtain ⟨fuel, hf⟩ := h1
    obtain ⟨c, cs', hcs, ⟨a, len, cap, rows, hc, hle, hlen, hrow, hel⟩, _⟩ := shp_ok breadSharesShp42 hf
    simp only [Value.cells, List.cons.injEq] at hcs
    obtain ⟨hc1, _⟩ := hcs
    rw [hc, Value.slice.injEq] at hc1
    obtain ⟨rfl, rfl, rfl⟩ := hc1
    rw [show Try.prog.cellsOf 3 = 1 from by kernel_rfl] at hrow
    obtain ⟨xs, rfl⟩ := rows_of (f := fun z : Int => [Value.int .i64 z]) (rows := rows) (fun r hr => by
      obtain ⟨H1, enc1, b1, fuel1, sp1, held1, y, hy⟩ := hel r hr
      obtain ⟨c1, cs1, rfl, ⟨n, rfl, _⟩, h2⟩ := shp_ok breadSharesShp3 hy
      exact ⟨n, by rw [show cs1 = [] from h2]⟩)
    rw [List.length_map] at hlen
    exact ⟨xs, hlen.symm, by omega, hrow (by decide)⟩
  subst hx1
  obtain ⟨a2, len2, cap2, rfl⟩ := okWide_slice Try.underlying42 (hval 2 42 v2 rfl rfl)
  obtain ⟨x2, hx2, hl2, hr2⟩ : ∃ xs : List Int, len2 = xs.length ∧ xs.length ≤ 9223372036854775807 ∧ RowsA a2 1 (irows xs) W := by
    obtain ⟨fuel, hf⟩ := h2
    obtain ⟨c, cs', hcs, ⟨a, len, cap, rows, hc, hle, hlen, hrow, hel⟩, _⟩ := shp_ok breadSharesShp42 hf
    simp only [Value.cells, List.cons.injEq] at hcs
    obtain ⟨hc1, _⟩ := hcs
    rw [hc, Value.slice.injEq] at hc1
    obtain ⟨rfl, rfl, rfl⟩ := hc1
    rw [show Try.prog.cellsOf 3 = 1 from by kernel_rfl] at hrow
    obtain ⟨xs, rfl⟩ := rows_of (f := fun z : Int => [Value.int .i64 z]) (rows := rows) (fun r hr => by
      obtain ⟨H1, enc1, b1, fuel1, sp1, held1, y, hy⟩ := hel r hr
      obtain ⟨c1, cs1, rfl, ⟨n, rfl, _⟩, h2⟩ := shp_ok breadSharesShp3 hy
      exact ⟨n, by rw [show cs1 = [] from h2]⟩)
    rw [List.length_map] at hlen
    exact ⟨xs, hlen.symm, by omega, hrow (by decide)⟩
  subst hx2
  have hst : St [] [RowsA a1 1 (irows x1), RowsA a2 1 (irows x2), fun w => Keep [] W w] W := St.start (by
    intro f hf w1 k1
    simp only [List.mem_cons, List.not_mem_nil, or_false] at hf
    rcases hf with rfl | rfl | rfl
    · exact RowsA.keep (by decide) hr1 k1
    · exact RowsA.keep (by decide) hr2 k1
    · exact k1)
  clear hA0 hval0
  have hwalk := c_BreadShares x0 x1 x2 a1 a2 cap1 cap2 hl1 hl2 [] [RowsA a1 1 (irows x1), RowsA a2 1 (irows x2), fun w => Keep [] W w]
  refine CallsIn.calls (CallsIn.mono (hwalk W hst) ?_) (fun k => by first | trivial | simp [Fence.room, FF, Fence.wide])
  rintro e W' ⟨v, H', R', ⟨rfl, rfl, rfl⟩, rfl, hs⟩
  have bel : Below W.heap.size W W' := (hs.now (f := fun w => Keep [] W w) (by simp)).below
  exact ⟨_, rfl, _, _, _, [], _, [], hW', trodAll_mk1 (shut_bool Try.underlying4 _), (trodAll_cons_mk (Below.trod breadSharesLaid (by kernel_rfl) (of_decide_eq_true (by kernel_rfl)) h0 bel lt0) ( trodAll_cons_mk (Below.trod breadSharesLaid (by kernel_rfl) (of_decide_eq_true (by kernel_rfl)) h1 bel lt1) ( trodAll_cons_mk (Below.trod breadSharesLaid (by kernel_rfl) (of_decide_eq_true (by kernel_rfl)) h2 bel lt2) (trodAll_mk0)))), rfl, bel.frame _, fun h => by cases h⟩

theorem breadSharesOver : Rows.breadSharesRow.holds Try.pinned (OpenSpec.ofChange Rows.breadSharesSpec) :=
  OpenClaim.holds_of_wide 5 Try.f5 rfl rfl rfl rfl rfl rfl rfl ⟨rfl, rfl, rfl, rfl, rfl⟩ rfl rfl rfl rfl rfl (by kernel_rfl) Try.func5 (by kernel_rfl)
    (of_decide_eq_true (by kernel_rfl)) (by unfold Func.isWrapper; first | (rw [if_pos (by decide +kernel)]; kernel_rfl) | (rw [if_neg (by decide +kernel)]; exact ⟨rfl, rfl⟩))
    (fun os started H enc _ => breadSharesLifted os started H enc)
theorem breadSharesProved : Rows.BreadSharesSaid := breadSharesOver
end Go.Proofs.Ytaldphhdkmchhaa
