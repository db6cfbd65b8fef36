/- Walks of the functions of the program: what each returns and leaves in memory, under the conditions that its theorem names. -/
import Derived.Test.YtaldphhdkmchhaaTy
import Derived.Test.YtaldphhdkmchhaaMa
import Derived.Test.YtaldphhdkmchhaaWk9
import Derived.Test.YtaldphhdkmchhaaMg
namespace Go.Proofs.Ytaldphhdkmchhaa
set_option linter.unusedSimpArgs false
set_option linter.unusedVariables false
open Go
theorem cal25 : cal Try.prog 25 = true := by kernel_rfl
theorem cal26 : cal Try.prog 26 = true := by kernel_rfl
theorem cal31 : cal Try.prog 31 = true := by kernel_rfl
theorem cal36 : cal Try.prog 36 = true := by kernel_rfl
theorem cal42 : cal Try.prog 42 = true := by kernel_rfl
theorem cal44 : cal Try.prog 44 = true := by kernel_rfl
theorem cal45 : cal Try.prog 45 = true := by kernel_rfl
theorem cal80 : cal Try.prog 80 = true := by kernel_rfl
theorem cal81 : cal Try.prog 81 = true := by kernel_rfl
theorem cn26 : cellN Try.prog 26 = some 11 := by kernel_rfl
theorem pl26 : placeL Try.prog 26 = some [(0, 3), (3, 1), (4, 1), (5, 1), (6, 1), (7, 1), (8, 1), (9, 1), (10, 1)] := by kernel_rfl
theorem pl91 : placeL Try.prog 91 = some [(0, 1), (1, 1)] := by kernel_rfl
theorem sl24 : slE Try.prog 24 = some (91, 2) := by kernel_rfl
theorem zl26 : zeroL Try.prog 26 = some ([.int .i64 0, .int .i64 0, .int .i64 0, .int .i64 0, .int .i64 0, .int .i64 0, .int .i64 0, .int .i64 0, .int .i64 0, .int .i64 0, .slice none 0 0]) := by kernel_rfl
theorem pickU_congr {p p' : Rn → Bool} {l : List Rn} (h : ∀ q ∈ l, p q = p' q) (k : Nat) : pickU p l k = pickU p' l k := by
  unfold pickU
  congr 1
  refine List.filter_congr fun i _ => ?_
  cases hq : l[i]? with
  | none => rfl
  | some q => exact h q (List.mem_of_getElem? hq)
theorem mill_pick {σ : Sv} (h : Solv mill σ) : pickU (fun q => mill.keeps σ.y mill.now q (lat σ.y mill.now)) mill.rats mill.rats.length = [1] := by
  have e : lat σ.y mill.now = 3 := (mill_lat h mill_ok.now).trans (by decide)
  rw [e, pickU_congr (p' := fun q => mill.keeps millY mill.now q 3) fun q hq => keeps_congr mill_ok (mill_same h) mill_ok.now hq 3]
  decide +kernel
theorem mill_need {σ : Sv} (h : Solv mill σ) : needV mill σ.y 4 = .tuple #[.int .i64 12, .int .i64 0] := by
  have e : (sts mill).find? (needP mill σ.y 4) = some ⟨12, 0, 0⟩ := by
    rw [find_congr (q := needP mill millY 4) fun s hs => by unfold needP; rw [mill_same h s (sts_right mill_ok hs)]]
    decide +kernel
  unfold needV; rw [e]
theorem mill_earn : earnV mill 3 = .tuple #[.int .i64 104, .int .i64 0] := by
  have e : ef mill (3 : Int).toNat mill.now = 104 := by decide +kernel
  unfold earnV; rw [e]; rfl
theorem mill_share {j : Nat} (h : (shIt [2, 7, 5] j (shInit 11 [2, 7, 5])).g = false) : (shIt [2, 7, 5] j (shInit 11 [2, 7, 5])).o = [2, 5, 4] := by
  rw [shIt_uniq h (k := 6) (by decide +kernel)]
  decide +kernel
theorem mill_lasts {σ : Sv} (h : Solv mill σ) : lat σ.y mill.now = 3 := (mill_lat h mill_ok.now).trans (by decide)
theorem mill_feed {σ : Sv} (h : Solv mill σ) : feedR mill (tab mill σ.y) = (3, 0) := by
  have e := mill_lasts h
  rw [feed_tab mill_check (solv_lsa mill_ok h) (by rw [e]; decide), e]
theorem tab_len {t : Twn} (ht : t.ok) (y : List Int) : (tab t y).length ≤ 496 := Nat.le_trans (List.length_filterMap_le _ _) (by rw [sts_len]; exact nst_le ht)

theorem c_Mill (H : Heap) (R : Facts) :
    Fn Try.prog 80 [] H R (fun v H' R' => ∃ b, v = mill.v (.slice (some ⟨b, 0, none⟩) 2 2) ∧ H' = H ∧ R' = RowsA (some ⟨b, 0, none⟩) 2 (rrows mill.rats) :: R) := by
  refine fn_of Try.func80 rfl Try.ntmps80 rfl ?_
  refine sy_seq ?_
  refine sy_tx' [0] rfl ?_
  refine sy_sq ?_
  refine alc rfl zl26 rfl (fun b0 => ?_)
  refine sy_sn ?_
  refine sy_nx ?_
  refine sy_seq ?_
  refine sy_tx' [0, 1, 2, 3, 4, 5] rfl ?_
  refine sy_sq ?_
  refine sp rfl (PE.build (out := [_, _, _]) pl23 zl23 rfl rfl) rfl ?_
  refine sy_sq ?_
  refine sp rfl (PE.build (out := [_, _]) pl91 zl91 rfl rfl) rfl ?_
  refine sy_sq ?_
  refine sp rfl (PE.build (out := [_, _]) pl91 zl91 rfl rfl) rfl ?_
  refine sy_sq ?_
  refine bsl (out := [_, _, _, _]) rfl sl24 zl91 rfl rfl rfl rfl rfl rfl (fun b4 => ?_)
  refine sy_sq ?_
  refine sp rfl (PE.build (out := [_, _, _, _, _, _, _, _, _, _, _]) pl26 zl26 rfl rfl) rfl ?_
  refine sy_sq ?_
  refine sto rfl rfl rfl cn26 rfl rfl rfl rfl ?_
  refine sy_sn ?_
  refine sy_nx ?_
  refine sy_ret ?_
  exact sy_return (vs := [_]) rfl (.cons (RV.cell rfl (lhA [_, _, _, _, _, _, _, _, _, _, _] ag26 rfl rfl rfl)) .nil) rfl ⟨b4, rfl, rfl, rfl⟩ (fun w h => (St.rows (sz := 2) (rows := rrows mill.rats) (rest := []) h (by decide)).tail)

theorem c_awake (H : Heap) (R : Facts) :
    FnV Try.prog 16 [] H R (.bool true) := by
  refine fn_of Try.func16 rfl Try.ntmps16 rfl ?_
  refine sy_seq ?_
  refine sy_tx' [0] rfl ?_
  refine sy_sq ?_
  refine sp rfl (PE.assign rfl) rfl ?_
  refine sy_sn ?_
  refine sy_nx ?_
  refine sy_seq ?_
  refine sy_tx' [0, 1, 2] rfl ?_
  refine sy_sq ?_
  refine cl rfl cal80 rfl rfl (c_Mill _ _) ?_
  rintro _ _ _ ⟨bm, rfl, rfl, rfl⟩
  refine sy_sq ?_
  refine alc rfl zl26 rfl (fun b1 => ?_)
  refine sy_sq ?_
  refine sto rfl rfl rfl cn26 rfl rfl rfl rfl ?_
  refine sy_sn ?_
  refine sy_nx ?_
  refine sy_seq ?_
  refine sy_tx' [0, 1, 2, 3, 4, 5, 6] rfl ?_
  refine sy_sq ?_
  refine spL rfl rfl (lhA [_, _, _, _, _, _, _, _, _, _, _] ag26 rfl rfl rfl) rfl ?_
  refine sy_sq ?_
  refine cl rfl cal42 rfl rfl (c_Lasts mill (by decide) bm 0 2 _ _) ?_
  rintro _ _ _ ⟨h, rfl, rfl⟩
  obtain ⟨_, σ1, hσ1, rfl⟩ := h.resolve_left (fun h => h.1 mill_check)
  rw [mill_lasts hσ1]
  refine sy_sq ?_
  refine sp rfl (PE.move rfl) rfl ?_
  refine sy_sq ?_
  refine sp rfl (PE.extract rfl rfl) rfl ?_
  refine sy_sq ?_
  refine sp rfl (PE.extract rfl rfl) rfl ?_
  refine sy_sq ?_
  refine sp rfl (PE.assign rfl) rfl ?_
  refine sy_sq ?_
  refine sp rfl (PE.assign rfl) rfl ?_
  refine sy_sn ?_
  refine sy_nx ?_
  refine sy_seq ?_
  refine sy_tx' [0, 1, 2, 3, 4, 5, 6] rfl ?_
  refine sy_sq ?_
  refine spL rfl rfl (lhA [_, _, _, _, _, _, _, _, _, _, _] ag26 rfl rfl rfl) rfl ?_
  refine sy_sq ?_
  refine cl rfl cal44 rfl rfl (c_Choose mill (by decide) bm 0 2 _ _) ?_
  rintro _ _ _ ⟨h, rfl⟩
  obtain ⟨_, σ2, hσ2, h⟩ := h.resolve_left (fun h => h.1 mill_check)
  obtain ⟨_, o, rfl, rfl⟩ := h.resolve_left (fun h => by have := h.1; rw [mill_lasts hσ2] at this; cases this)
  obtain ⟨ax, cx, ho, hfr⟩ := o.freeze
  rw [ho]
  refine Sy.heap (fun w h => hfr h) ?_
  rw [mill_pick hσ2]
  refine sy_sq ?_
  refine sp rfl (PE.move rfl) rfl ?_
  refine sy_sq ?_
  refine sp rfl (PE.extract rfl rfl) rfl ?_
  refine sy_sq ?_
  refine sp rfl (PE.extract rfl rfl) rfl ?_
  refine sy_sq ?_
  refine sp rfl (PE.assign rfl) rfl ?_
  refine sy_sq ?_
  refine sp rfl (PE.assign rfl) rfl ?_
  refine sy_sn ?_
  refine sy_nx ?_
  refine sy_seq ?_
  refine sy_tx' [0, 1, 2, 3, 4, 5, 6] rfl ?_
  refine sy_sq ?_
  refine spL rfl rfl (lhA [_, _, _, _, _, _, _, _, _, _, _] ag26 rfl rfl rfl) rfl ?_
  refine sy_sq ?_
  refine cl rfl cal45 rfl rfl (c_Needs mill (by decide) 4 bm 0 2 _ _) ?_
  rintro _ _ _ ⟨h, rfl, rfl⟩
  obtain ⟨_, _, σ3, hσ3, rfl⟩ := (h.resolve_left (fun h => h.1 mill_check)).resolve_left (fun h => by have := h.2.1; revert this; decide)
  rw [mill_need hσ3]
  refine sy_sq ?_
  refine sp rfl (PE.move rfl) rfl ?_
  refine sy_sq ?_
  refine sp rfl (PE.extract rfl rfl) rfl ?_
  refine sy_sq ?_
  refine sp rfl (PE.extract rfl rfl) rfl ?_
  refine sy_sq ?_
  refine sp rfl (PE.assign rfl) rfl ?_
  refine sy_sq ?_
  refine sp rfl (PE.assign rfl) rfl ?_
  refine sy_sn ?_
  refine sy_nx ?_
  refine sy_seq ?_
  refine sy_tx' [0, 1, 2, 3, 4, 5, 6] rfl ?_
  refine sy_sq ?_
  refine spL rfl rfl (lhA [_, _, _, _, _, _, _, _, _, _, _] ag26 rfl rfl rfl) rfl ?_
  refine sy_sq ?_
  refine cl rfl cal31 rfl rfl (c_Earns mill (by decide) 3 bm 0 2 _ _) ?_
  rintro _ _ _ ⟨h, rfl, rfl⟩
  obtain ⟨_, _, rfl⟩ := (h.resolve_left (fun h => h.1 mill_check)).resolve_left (fun h => by have := h.2.1; revert this; decide)
  rw [mill_earn]
  refine sy_sq ?_
  refine sp rfl (PE.move rfl) rfl ?_
  refine sy_sq ?_
  refine sp rfl (PE.extract rfl rfl) rfl ?_
  refine sy_sq ?_
  refine sp rfl (PE.extract rfl rfl) rfl ?_
  refine sy_sq ?_
  refine sp rfl (PE.assign rfl) rfl ?_
  refine sy_sq ?_
  refine sp rfl (PE.assign rfl) rfl ?_
  refine sy_sn ?_
  refine sy_nx ?_
  refine sy_seq ?_
  refine sy_tx' [0, 1, 2, 3, 4, 5, 6] rfl ?_
  refine sy_sq ?_
  refine bsl (out := [_, _, _]) rfl sl42 zl3 rfl rfl rfl rfl rfl rfl (fun b38 => ?_)
  refine sy_sq ?_
  refine Sy.heap (fun w h => St.intRows (l := [2, 7, 5]) h) ?_
  refine cl rfl cal36 rfl rfl (c_Share 11 [2, 7, 5] (some ⟨b38, 0, none⟩) 3 (by decide) _ _) ?_
  rintro _ _ _ ⟨h, rfl⟩
  obtain ⟨_, j, bs, hg, rfl, rfl⟩ := h.resolve_left (fun h => h.1 (by decide))
  rw [mill_share hg]
  refine Sy.heap (fun w h => St.intRows (l := [2, 5, 4]) h) ?_
  refine sy_sq ?_
  refine sp rfl (PE.move rfl) rfl ?_
  refine sy_sq ?_
  refine sp rfl (PE.extract rfl rfl) rfl ?_
  refine sy_sq ?_
  refine sp rfl (PE.extract rfl rfl) rfl ?_
  refine sy_sq ?_
  refine sp rfl (PE.assign rfl) rfl ?_
  refine sy_sq ?_
  refine sp rfl (PE.assign rfl) rfl ?_
  refine sy_sn ?_
  refine sy_nx ?_
  refine sy_seq ?_
  refine sy_tx' [0, 1, 2, 3, 4, 5, 6] rfl ?_
  refine sy_sq ?_
  refine spL rfl rfl (lhA [_, _, _, _, _, _, _, _, _, _, _] ag26 rfl rfl rfl) rfl ?_
  refine sy_sq ?_
  refine cl rfl cal26 rfl rfl (c_Table mill (by decide) bm 0 2 _ _) ?_
  rintro _ _ _ ⟨h, rfl⟩
  obtain ⟨_, σ4, hσ4, h⟩ := h.resolve_left (fun h => h.1 mill_check)
  obtain ⟨_, o, rfl, rfl⟩ := h.resolve_left (fun h => by have := h.1; rw [mill_lasts hσ4] at this; cases this)
  obtain ⟨at', ct, ho, hfr⟩ := o.freeze
  rw [ho, show (trows (tab mill σ4.y)).length = (tab mill σ4.y).length from List.length_map _]
  refine Sy.heap (fun w h => hfr h) ?_
  have htl := tab_len mill_ok σ4.y
  refine sy_sq ?_
  refine sp rfl (PE.move rfl) rfl ?_
  refine sy_sq ?_
  refine sp rfl (PE.extract rfl rfl) rfl ?_
  refine sy_sq ?_
  refine sp rfl (PE.extract rfl rfl) rfl ?_
  refine sy_sq ?_
  refine sp rfl (PE.assign rfl) rfl ?_
  refine sy_sq ?_
  refine sp rfl (PE.assign rfl) rfl ?_
  refine sy_sn ?_
  refine sy_nx ?_
  refine sy_seq ?_
  refine sy_tx' [0, 1, 2, 3, 4, 5, 6, 7] rfl ?_
  refine sy_sq ?_
  refine spL rfl rfl (lhA [_, _, _, _, _, _, _, _, _, _, _] ag26 rfl rfl rfl) rfl ?_
  refine sy_sq ?_
  refine sp rfl (PE.move rfl) rfl ?_
  refine sy_sq ?_
  refine cl rfl cal25 rfl rfl (c_Feeds mill (by decide) (tab mill σ4.y) at' ct (by omega) bm 0 2 _ _) ?_
  rintro _ _ _ ⟨rfl, rfl, rfl⟩
  rw [mill_feed hσ4]
  refine sy_sq ?_
  refine sp rfl (PE.move rfl) rfl ?_
  refine sy_sq ?_
  refine sp rfl (PE.extract rfl rfl) rfl ?_
  refine sy_sq ?_
  refine sp rfl (PE.extract rfl rfl) rfl ?_
  refine sy_sq ?_
  refine sp rfl (PE.assign rfl) rfl ?_
  refine sy_sq ?_
  refine sp rfl (PE.assign rfl) rfl ?_
  refine sy_sn ?_
  refine sy_nx ?_
  refine sy_seq ?_
  refine sy_tx' [0, 1, 2, 3, 4, 5, 6, 7, 8, 9, 10, 11, 12, 13, 14, 15, 16, 17, 18, 19, 20, 21, 22, 23, 24, 25, 26, 27, 28, 29, 30, 31, 32, 33, 34, 35, 36, 37, 38, 39, 40, 41, 42, 43, 44, 45, 46, 47, 48, 49, 50, 51, 52] rfl ?_
  refine sy_sq ?_
  refine sp rfl (PE.move rfl) rfl ?_
  refine sy_sq ?_
  refine sp rfl (PE.eql rfl rfl) rfl ?_
  refine sy_sq ?_
  refine sp rfl (PE.move rfl) rfl ?_
  refine sy_sq ?_
  refine spG rfl rfl rfl rfl (PE.move rfl) rfl ?_
  refine sy_sq ?_
  refine spG rfl rfl rfl rfl (PE.eql rfl rfl) rfl ?_
  refine sy_sq ?_
  refine sp rfl (PE.pick rfl rfl rfl) rfl ?_
  refine sy_sq ?_
  refine sp rfl (PE.move rfl) rfl ?_
  refine sy_sq ?_
  refine spG rfl rfl rfl rfl (PE.move rfl) rfl ?_
  refine sy_sq ?_
  refine spG rfl rfl rfl rfl (PE.eql rfl rfl) rfl ?_
  refine sy_sq ?_
  refine sp rfl (PE.pick rfl rfl rfl) rfl ?_
  refine sy_sq ?_
  refine sp rfl (PE.move rfl) rfl ?_
  refine sy_sq ?_
  refine spG rfl rfl rfl rfl (PE.move rfl) rfl ?_
  refine sy_sq ?_
  refine spG rfl rfl rfl rfl (PE.eql rfl rfl) rfl ?_
  refine sy_sq ?_
  refine sp rfl (PE.pick rfl rfl rfl) rfl ?_
  refine sy_sq ?_
  refine sp rfl (PE.move rfl) rfl ?_
  refine sy_sq ?_
  refine spG rfl rfl rfl rfl (PE.move rfl) rfl ?_
  refine sy_sq ?_
  refine spG rfl rfl rfl rfl (PE.eql rfl rfl) rfl ?_
  refine sy_sq ?_
  refine sp rfl (PE.pick rfl rfl rfl) rfl ?_
  refine sy_sq ?_
  refine sp rfl (PE.move rfl) rfl ?_
  refine sy_sq ?_
  refine spG rfl rfl rfl rfl (PE.move rfl) rfl ?_
  refine sy_sq ?_
  refine spG rfl rfl rfl rfl (PE.eql rfl rfl) rfl ?_
  refine sy_sq ?_
  refine sp rfl (PE.pick rfl rfl rfl) rfl ?_
  refine sy_sq ?_
  refine sp rfl (PE.move rfl) rfl ?_
  refine sy_sq ?_
  refine spG rfl rfl rfl rfl (PE.move rfl) rfl ?_
  refine sy_sq ?_
  refine spG rfl rfl rfl rfl (PE.eql rfl rfl) rfl ?_
  refine sy_sq ?_
  refine sp rfl (PE.pick rfl rfl rfl) rfl ?_
  refine sy_sq ?_
  refine sp rfl (PE.move rfl) rfl ?_
  refine sy_sq ?_
  refine spG rfl rfl rfl rfl (PE.move rfl) rfl ?_
  refine sy_sq ?_
  refine spG rfl rfl rfl rfl (PE.eql rfl rfl) rfl ?_
  refine sy_sq ?_
  refine sp rfl (PE.pick rfl rfl rfl) rfl ?_
  refine sy_sq ?_
  refine sp rfl (PE.move rfl) rfl ?_
  refine sy_sq ?_
  refine spG rfl rfl rfl rfl (PE.move rfl) rfl ?_
  refine sy_sq ?_
  refine bslG (out := [_]) rfl rfl rfl rfl sl42 zl3 rfl rfl rfl rfl rfl rfl (fun b85 => ?_)
  refine sy_sq ?_
  refine Sy.heap (fun w h => St.intRows (l := [1]) h) ?_
  refine clVG rfl rfl rfl rfl cal81 rfl rfl (c_eq_int [1] [1] ax (some ⟨b85, 0, none⟩) cx 1 (by decide) (by decide) _ _) ?_
  refine sy_sq ?_
  refine sp rfl (PE.pick rfl rfl rfl) rfl ?_
  refine sy_sq ?_
  refine sp rfl (PE.move rfl) rfl ?_
  refine sy_sq ?_
  refine spG rfl rfl rfl rfl (PE.move rfl) rfl ?_
  refine sy_sq ?_
  refine spG rfl rfl rfl rfl (PE.eql rfl rfl) rfl ?_
  refine sy_sq ?_
  refine sp rfl (PE.pick rfl rfl rfl) rfl ?_
  refine sy_sq ?_
  refine sp rfl (PE.move rfl) rfl ?_
  refine sy_sq ?_
  refine spG rfl rfl rfl rfl (PE.move rfl) rfl ?_
  refine sy_sq ?_
  refine spG rfl rfl rfl rfl (PE.eql rfl rfl) rfl ?_
  refine sy_sq ?_
  refine sp rfl (PE.pick rfl rfl rfl) rfl ?_
  refine sy_sq ?_
  refine sp rfl (PE.move rfl) rfl ?_
  refine sy_sq ?_
  refine spG rfl rfl rfl rfl (PE.move rfl) rfl ?_
  refine sy_sq ?_
  refine bslG (out := [_, _, _]) rfl rfl rfl rfl sl42 zl3 rfl rfl rfl rfl rfl rfl (fun b98 => ?_)
  refine sy_sq ?_
  refine Sy.heap (fun w h => St.intRows (l := [2, 5, 4]) h) ?_
  refine clVG rfl rfl rfl rfl cal81 rfl rfl (c_eq_int [2, 5, 4] [2, 5, 4] (some ⟨bs, 0, none⟩) (some ⟨b98, 0, none⟩) 3 3 (by decide) (by decide) _ _) ?_
  refine sy_sq ?_
  refine sp rfl (PE.pick rfl rfl rfl) rfl ?_
  refine sy_sq ?_
  refine sp rfl (PE.move rfl) rfl ?_
  refine sy_sq ?_
  refine spG rfl rfl rfl rfl (PE.move rfl) rfl ?_
  refine sy_sq ?_
  refine spG rfl rfl rfl rfl (PE.eql rfl rfl) rfl ?_
  refine sy_sq ?_
  refine sp rfl (PE.pick rfl rfl rfl) rfl ?_
  refine sy_sq ?_
  refine sp rfl (PE.assign rfl) rfl ?_
  refine sy_sn ?_
  refine sy_nx ?_
  refine sy_ret ?_
  exact sy_return (vs := [_]) rfl (.cons (RV.tmp rfl) .nil) rfl ⟨rfl, rfl, rfl⟩ (fun _ h => by repeat first | exact h | replace h := St.tail h | replace h := St.ftail h | replace h := St.drop h)
end Go.Proofs.Ytaldphhdkmchhaa
