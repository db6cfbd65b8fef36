/- Walks of the functions of the program: what each returns and leaves in memory, under the conditions that its theorem names. -/
import Derived.Test.YtaldphhdkmchhaaTy
import Derived.Test.YtaldphhdkmchhaaMa
import Derived.Test.YtaldphhdkmchhaaWk4
namespace Go.Proofs.Ytaldphhdkmchhaa
set_option linter.unusedSimpArgs false
set_option linter.unusedVariables false
open Go
theorem ap42 : apT Try.prog 42 = some (3, 1, 8) := by kernel_rfl
theorem cal108 : cal Try.prog 108 = true := by kernel_rfl
theorem cal89 : cal Try.prog 89 = true := by kernel_rfl
theorem cal97 : cal Try.prog 97 = true := by kernel_rfl
theorem solv_ok {t : Twn} (ht : t.ok) {σ : Sv} (h : Solv t σ) : σ.y.length = 496 := by
  obtain ⟨n, h, _⟩ := h
  exact (rd_ok ht h).1
def SvQ (t : Twn) (sl : Value) (H : Heap) (R : Facts) : Value → Heap → Facts → Prop := fun v H' R' =>
  (t.check ≠ 0 ∧ v = .tuple #[.pointer none, .int .i64 t.check] ∧ H' = H ∧ R' = R) ∨
  (t.check = 0 ∧ ∃ (bw m bt : Nat) (σ : Sv) (o : OSl 99 4 (frows σ.fl)), Solv t σ ∧ v = .tuple #[.pointer (some ⟨bw, 0, none⟩), .int .i64 0] ∧
    H' = o.G ++ (bw, cel 153 (rcs t sl bt σ.y o.fs m)) :: (m, mapO true (kvOf σ.fl)) :: H ∧ R' = RowsA (some ⟨bt, 0, none⟩) 11 [twl t sl] :: R)
/-- The numbers of those that p holds of, of the first k. -/
def pickU (p : Rn → Bool) (l : List Rn) (k : Nat) : List Int := ((List.range k).filter fun i => match l[i]? with | some q => p q | none => false).map fun (i : Nat) => (i : Int)
theorem pickU_succ {p : Rn → Bool} {l : List Rn} {k : Nat} {q : Rn} (h : l[k]? = some q) : pickU p l (k + 1) = bif p q then pickU p l k ++ [(k : Int)] else pickU p l k := by
  unfold pickU
  rw [List.range_succ, List.filter_append]
  cases hp : p q <;> simp [h, hp]
theorem pickU_len (p : Rn → Bool) (l : List Rn) (k : Nat) : (pickU p l k).length ≤ k := by
  unfold pickU
  rw [List.length_map]
  exact Nat.le_trans (List.length_filter_le _ _) (by simp)

theorem c_solved (t : Twn) (hl : t.rats.length ≤ 9223372036854775807) (ba oa ca : Nat) (H : Heap) (R : Facts) [hR : MemRows (some ⟨ba, oa, none⟩) 2 (rrows t.rats) R] :
    Fn Try.prog 97 [t.v (t.sl (some ⟨ba, oa, none⟩) ca)] H R (SvQ t (t.sl (some ⟨ba, oa, none⟩) ca) H R) := by
  refine fn_of Try.func97 rfl Try.ntmps97 rfl ?_
  refine sy_seq ?_
  refine sy_tx' [0, 1, 2] rfl ?_
  refine sy_sq ?_
  refine bx rfl rfl rfl (fun b1 => ?_)
  refine sy_sq ?_
  refine sp rfl (PE.assign rfl) rfl ?_
  refine sy_sq ?_
  refine sp rfl (PE.assign rfl) rfl ?_
  refine sy_sn ?_
  refine sy_nx ?_
  refine sy_seq ?_
  refine sy_tx' [0, 1, 2, 3, 4, 5, 6] rfl ?_
  refine sy_sq ?_
  refine spL rfl rfl (lhA [_, _, _, _, _, _, _, _, _, _, _] ag26 rfl rfl rfl) rfl ?_
  refine sy_sq ?_
  refine cl rfl cal89 rfl rfl (c_opened t hl ba oa ca _ _) ?_
  rintro _ _ _ (⟨hck, rfl, rfl, rfl⟩ | ⟨hck, bw, m, bt, rfl, rfl, rfl⟩)
  ·
   refine sy_sq ?_
   refine sp rfl (PE.move rfl) rfl ?_
   refine sy_sq ?_
   refine sp rfl (PE.extract rfl rfl) rfl ?_
   refine sy_sq ?_
   refine sp rfl (PE.extract rfl rfl) rfl ?_
   refine sy_sq ?_
   refine sp rfl (PE.assign rfl) rfl ?_
   refine sy_sq ?_
   refine sp rfl (PE.assign rfl) rfl ?_
   refine sy_sn ?_
   refine sy_nx ?_
   refine sy_seq ?_
   refine sy_seq ?_
   refine sy_tx' [0, 1] rfl ?_
   refine sy_sq ?_
   refine sp rfl (PE.move rfl) rfl ?_
   refine sy_sq ?_
   refine sp rfl (PE.neq rfl rfl) rfl ?_
   refine sy_sn ?_
   refine sy_nx ?_
   refine sy_condT (congrArg (fun b => some (Value.bool b)) (decide_eq_true hck)) ?_
   refine sy_seq ?_
   refine sy_tx' [0, 1, 2] rfl ?_
   refine sy_sq ?_
   refine sp rfl (PE.move rfl) rfl ?_
   refine sy_sq ?_
   refine sp rfl (PE.assign rfl) rfl ?_
   refine sy_sq ?_
   refine sp rfl (PE.assign rfl) rfl ?_
   refine sy_sn ?_
   refine sy_nx ?_
   refine sy_ret ?_
   refine sy_tr ?_
   exact sy_return (vs := [_, _]) rfl (.cons (RV.tmp rfl) (.cons (RV.tmp rfl) .nil)) rfl (.inl ⟨hck, rfl, rfl, rfl⟩) (fun _ h => by repeat first | exact h | replace h := St.tail h | replace h := St.ftail h | replace h := St.drop h)
  ·
   refine sy_sq ?_
   have hok := (ok_of_check hck).1
   refine sp rfl (PE.move rfl) rfl ?_
   refine sy_sq ?_
   refine sp rfl (PE.extract rfl rfl) rfl ?_
   refine sy_sq ?_
   refine sp rfl (PE.extract rfl rfl) rfl ?_
   refine sy_sq ?_
   refine sp rfl (PE.assign rfl) rfl ?_
   refine sy_sq ?_
   refine sp rfl (PE.assign rfl) rfl ?_
   refine sy_sn ?_
   refine sy_nx ?_
   refine sy_seq ?_
   refine sy_seq ?_
   refine sy_tx' [0, 1] rfl ?_
   refine sy_sq ?_
   refine sp rfl (PE.move rfl) rfl ?_
   refine sy_sq ?_
   refine sp rfl (PE.neq rfl rfl) rfl ?_
   refine sy_sn ?_
   refine sy_nx ?_
   refine sy_condF (rfl) ?_
   refine sy_skip ?_
   refine sy_nx ?_
   refine sy_seq ?_
   refine sy_tx' [0, 1] rfl ?_
   refine sy_sq ?_
   refine sp rfl (PE.move rfl) rfl ?_
   refine sy_sq ?_
   refine cl rfl cal108 rfl rfl (c_solve t hok ba oa ca bt bw m _ _) ?_
   rintro v _ _ ⟨σ, o, hσ, rfl, rfl⟩
   refine sy_sn ?_
   refine sy_nx ?_
   refine sy_seq ?_
   refine sy_tx' [0, 1, 2] rfl ?_
   refine sy_sq ?_
   refine sp rfl (PE.move rfl) rfl ?_
   refine sy_sq ?_
   refine sp rfl (PE.assign rfl) rfl ?_
   refine sy_sq ?_
   refine sp rfl (PE.assign rfl) rfl ?_
   refine sy_sn ?_
   refine sy_nx ?_
   refine sy_ret ?_
   exact sy_return (vs := [_, _]) rfl (.cons (RV.tmp rfl) (.cons (RV.tmp rfl) .nil)) rfl (.inr ⟨hck, bw, m, bt, σ, o, hσ, rfl, rfl, rfl⟩) (fun w h => h.del b1)

theorem c_Lasts (t : Twn) (hl : t.rats.length ≤ 9223372036854775807) (ba oa ca : Nat) (H : Heap) (R : Facts) [hR : MemRows (some ⟨ba, oa, none⟩) 2 (rrows t.rats) R] :
    Fn Try.prog 42 [t.v (t.sl (some ⟨ba, oa, none⟩) ca)] H R (fun v H' R' => ((t.check ≠ 0 ∧ v = .tuple #[.int .i64 0, .int .i64 t.check]) ∨ (t.check = 0 ∧ ∃ σ, Solv t σ ∧ v = .tuple #[.int .i64 (lat σ.y t.now), .int .i64 0])) ∧ H' = H ∧ R' = R) := by
  refine fn_of Try.func42 rfl Try.ntmps42 rfl ?_
  refine sy_seq ?_
  refine sy_tx' [0, 1, 2] rfl ?_
  refine sy_sq ?_
  refine bx rfl rfl rfl (fun b1 => ?_)
  refine sy_sq ?_
  refine sp rfl (PE.assign rfl) rfl ?_
  refine sy_sq ?_
  refine sp rfl (PE.assign rfl) rfl ?_
  refine sy_sn ?_
  refine sy_nx ?_
  refine sy_seq ?_
  refine sy_tx' [0, 1, 2, 3, 4, 5, 6] rfl ?_
  refine sy_sq ?_
  refine spL rfl rfl (lhA [_, _, _, _, _, _, _, _, _, _, _] ag26 rfl rfl rfl) rfl ?_
  refine sy_sq ?_
  refine cl rfl cal97 rfl rfl (c_solved t hl ba oa ca _ _) ?_
  rintro _ _ _ (⟨hck, rfl, rfl, rfl⟩ | ⟨hck, bw, m, bt, σ, o, hσ, rfl, rfl, rfl⟩)
  ·
   refine sy_sq ?_
   refine sp rfl (PE.move rfl) rfl ?_
   refine sy_sq ?_
   refine sp rfl (PE.extract rfl rfl) rfl ?_
   refine sy_sq ?_
   refine sp rfl (PE.extract rfl rfl) rfl ?_
   refine sy_sq ?_
   refine sp rfl (PE.assign rfl) rfl ?_
   refine sy_sq ?_
   refine sp rfl (PE.assign rfl) rfl ?_
   refine sy_sn ?_
   refine sy_nx ?_
   refine sy_seq ?_
   refine sy_seq ?_
   refine sy_tx' [0, 1] rfl ?_
   refine sy_sq ?_
   refine sp rfl (PE.move rfl) rfl ?_
   refine sy_sq ?_
   refine sp rfl (PE.neq rfl rfl) rfl ?_
   refine sy_sn ?_
   refine sy_nx ?_
   refine sy_condT (congrArg (fun b => some (Value.bool b)) (decide_eq_true hck)) ?_
   refine sy_seq ?_
   refine sy_tx' [0, 1, 2] rfl ?_
   refine sy_sq ?_
   refine sp rfl (PE.move rfl) rfl ?_
   refine sy_sq ?_
   refine sp rfl (PE.assign rfl) rfl ?_
   refine sy_sq ?_
   refine sp rfl (PE.assign rfl) rfl ?_
   refine sy_sn ?_
   refine sy_nx ?_
   refine sy_ret ?_
   refine sy_tr ?_
   exact sy_return (vs := [_, _]) rfl (.cons (RV.tmp rfl) (.cons (RV.tmp rfl) .nil)) rfl ⟨.inl ⟨hck, rfl⟩, rfl, rfl⟩ (fun _ h => by repeat first | exact h | replace h := St.tail h | replace h := St.ftail h | replace h := St.drop h)
  ·
   refine sy_sq ?_
   have hok := (ok_of_check hck).1
   refine sp rfl (PE.move rfl) rfl ?_
   refine sy_sq ?_
   refine sp rfl (PE.extract rfl rfl) rfl ?_
   refine sy_sq ?_
   refine sp rfl (PE.extract rfl rfl) rfl ?_
   refine sy_sq ?_
   refine sp rfl (PE.assign rfl) rfl ?_
   refine sy_sq ?_
   refine sp rfl (PE.assign rfl) rfl ?_
   refine sy_sn ?_
   refine sy_nx ?_
   refine sy_seq ?_
   refine sy_seq ?_
   refine sy_tx' [0, 1] rfl ?_
   refine sy_sq ?_
   refine sp rfl (PE.move rfl) rfl ?_
   refine sy_sq ?_
   refine sp rfl (PE.neq rfl rfl) rfl ?_
   refine sy_sn ?_
   refine sy_nx ?_
   refine sy_condF (rfl) ?_
   refine sy_skip ?_
   refine sy_nx ?_
   refine sy_seq ?_
   refine sy_draw [0, 1, 3, 0, 8, 31, 63, 127] (.tk 0 (.tk 1 (.tk 2 (.tk 3 (.ld 4 (.big 5 (.tk 6 (.tk 7 .done)))))))) mixed (by kernel_rfl) ?_
   refine tk rfl (PE.move rfl) rfl ?_
   refine tk rfl (PE.nilCheck rfl) rfl ?_
   refine tk rfl (PE.fieldAddr fo153_2 rfl) rfl ?_
   refine tk rfl (PE.fieldAddr fo26_0 rfl) rfl ?_
   refine ld rfl rfl (lhA [_, _, _] ag23 rfl rfl rfl) rfl ?_
   refine sy_bg ?_
   refine clV rfl cal95 rfl rfl (c_of t hok t.now hok.now ba oa ca bt bw m σ.y o.fs (solv_ok hok hσ) _ _) ?_
   refine bg (fun w hs => ⟨trivial, trivial⟩) ?_
   refine tk rfl (PE.assign rfl) rfl ?_
   refine tk rfl (PE.assign rfl) rfl ?_
   refine sy_dn ?_
   refine sy_nx ?_
   refine sy_ret ?_
   exact sy_return (vs := [_, _]) rfl (.cons (RV.tmp rfl) (.cons (RV.tmp rfl) .nil)) rfl ⟨.inr ⟨hck, σ, hσ, rfl⟩, rfl, rfl⟩ (fun _ h => by repeat first | exact h | replace h := St.tail h | replace h := St.ftail h | replace h := St.drop h)

theorem c_Choose (t : Twn) (hl : t.rats.length ≤ 9223372036854775807) (ba oa ca : Nat) (H : Heap) (R : Facts) [hR : MemRows (some ⟨ba, oa, none⟩) 2 (rrows t.rats) R] :
    Fn Try.prog 44 [t.v (t.sl (some ⟨ba, oa, none⟩) ca)] H R (fun v H' R' => ((t.check ≠ 0 ∧ v = .tuple #[.slice none 0 0, .int .i64 t.check] ∧ H' = H) ∨
      (t.check = 0 ∧ ∃ σ, Solv t σ ∧ ((lat σ.y t.now = -1 ∧ v = .tuple #[.slice none 0 0, .int .i64 6] ∧ H' = H) ∨ (lat σ.y t.now ≠ -1 ∧ ∃ o : OSl 3 1 (irows (pickU (fun q => t.keeps σ.y t.now q (lat σ.y t.now)) t.rats t.rats.length)), v = .tuple #[o.fs, .int .i64 0] ∧ H' = o.G ++ H)))) ∧ R' = R) := by
  refine fn_of Try.func44 rfl Try.ntmps44 rfl ?_
  refine sy_seq ?_
  refine sy_tx' [0, 1, 2] rfl ?_
  refine sy_sq ?_
  refine bx rfl rfl rfl (fun b1 => ?_)
  refine sy_sq ?_
  refine sp rfl (PE.assign rfl) rfl ?_
  refine sy_sq ?_
  refine sp rfl (PE.assign rfl) rfl ?_
  refine sy_sn ?_
  refine sy_nx ?_
  refine sy_seq ?_
  refine sy_tx' [0, 1, 2, 3, 4, 5, 6] rfl ?_
  refine sy_sq ?_
  refine spL rfl rfl (lhA [_, _, _, _, _, _, _, _, _, _, _] ag26 rfl rfl rfl) rfl ?_
  refine sy_sq ?_
  refine cl rfl cal97 rfl rfl (c_solved t hl ba oa ca _ _) ?_
  rintro _ _ _ (⟨hck, rfl, rfl, rfl⟩ | ⟨hck, bw, m, bt, σ, o, hσ, rfl, rfl, rfl⟩)
  ·
   refine sy_sq ?_
   refine sp rfl (PE.move rfl) rfl ?_
   refine sy_sq ?_
   refine sp rfl (PE.extract rfl rfl) rfl ?_
   refine sy_sq ?_
   refine sp rfl (PE.extract rfl rfl) rfl ?_
   refine sy_sq ?_
   refine sp rfl (PE.assign rfl) rfl ?_
   refine sy_sq ?_
   refine sp rfl (PE.assign rfl) rfl ?_
   refine sy_sn ?_
   refine sy_nx ?_
   refine sy_seq ?_
   refine sy_seq ?_
   refine sy_tx' [0, 1] rfl ?_
   refine sy_sq ?_
   refine sp rfl (PE.move rfl) rfl ?_
   refine sy_sq ?_
   refine sp rfl (PE.neq rfl rfl) rfl ?_
   refine sy_sn ?_
   refine sy_nx ?_
   refine sy_condT (congrArg (fun b => some (Value.bool b)) (decide_eq_true hck)) ?_
   refine sy_seq ?_
   refine sy_tx' [0, 1, 2] rfl ?_
   refine sy_sq ?_
   refine sp rfl (PE.move rfl) rfl ?_
   refine sy_sq ?_
   refine sp rfl (PE.assign rfl) rfl ?_
   refine sy_sq ?_
   refine sp rfl (PE.assign rfl) rfl ?_
   refine sy_sn ?_
   refine sy_nx ?_
   refine sy_ret ?_
   refine sy_tr ?_
   exact sy_return (vs := [_, _]) rfl (.cons (RV.tmp rfl) (.cons (RV.tmp rfl) .nil)) rfl ⟨.inl ⟨hck, rfl, rfl⟩, rfl⟩ (fun _ h => by repeat first | exact h | replace h := St.tail h | replace h := St.ftail h | replace h := St.drop h)
  ·
   refine sy_sq ?_
   have hok := (ok_of_check hck).1
   have hrg := solv_range hok hσ hok.now
   refine sp rfl (PE.move rfl) rfl ?_
   refine sy_sq ?_
   refine sp rfl (PE.extract rfl rfl) rfl ?_
   refine sy_sq ?_
   refine sp rfl (PE.extract rfl rfl) rfl ?_
   refine sy_sq ?_
   refine sp rfl (PE.assign rfl) rfl ?_
   refine sy_sq ?_
   refine sp rfl (PE.assign rfl) rfl ?_
   refine sy_sn ?_
   refine sy_nx ?_
   refine sy_seq ?_
   refine sy_seq ?_
   refine sy_tx' [0, 1] rfl ?_
   refine sy_sq ?_
   refine sp rfl (PE.move rfl) rfl ?_
   refine sy_sq ?_
   refine sp rfl (PE.neq rfl rfl) rfl ?_
   refine sy_sn ?_
   refine sy_nx ?_
   refine sy_condF (rfl) ?_
   refine sy_skip ?_
   refine sy_nx ?_
   refine sy_seq ?_
   refine sy_draw [0, 1, 3, 0, 8, 31, 63] (.tk 0 (.tk 1 (.tk 2 (.tk 3 (.ld 4 (.big 5 (.tk 6 .done))))))) mixed (by kernel_rfl) ?_
   refine tk rfl (PE.move rfl) rfl ?_
   refine tk rfl (PE.nilCheck rfl) rfl ?_
   refine tk rfl (PE.fieldAddr fo153_2 rfl) rfl ?_
   refine tk rfl (PE.fieldAddr fo26_0 rfl) rfl ?_
   refine ld rfl rfl (lhA [_, _, _] ag23 rfl rfl rfl) rfl ?_
   refine sy_bg ?_
   refine clV rfl cal95 rfl rfl (c_of t hok t.now hok.now ba oa ca bt bw m σ.y o.fs (solv_ok hok hσ) _ _) ?_
   refine bg (fun w hs => ⟨trivial, trivial⟩) ?_
   refine tk rfl (PE.assign rfl) rfl ?_
   refine sy_dn ?_
   refine sy_nx ?_
   refine sy_seq ?_
   refine sy_seq ?_
   refine sy_tx' [0, 1] rfl ?_
   refine sy_sq ?_
   refine sp rfl (PE.move rfl) rfl ?_
   refine sy_sq ?_
   refine sp rfl (PE.eql rfl rfl) rfl ?_
   refine sy_sn ?_
   refine sy_nx ?_
   refine sy_cond rfl (fun hc1 => ?_) (fun hc1 => ?_)
   ·
    simp only [decide_eq_true_eq] at hc1
    refine sy_seq ?_
    refine sy_tx' [0, 1] rfl ?_
    refine sy_sq ?_
    refine sp rfl (PE.assign rfl) rfl ?_
    refine sy_sq ?_
    refine sp rfl (PE.assign rfl) rfl ?_
    refine sy_sn ?_
    refine sy_nx ?_
    refine sy_ret ?_
    refine sy_tr ?_
    first
      | exact sy_return (vs := [_, _]) rfl (.cons (RV.tmp rfl) (.cons (RV.tmp rfl) .nil)) rfl ⟨.inr ⟨hck, σ, hσ, .inl ⟨hc1, rfl, rfl⟩⟩, rfl⟩ (fun _ h => by repeat first | exact h | replace h := St.tail h | replace h := St.ftail h | replace h := St.drop h)
      | exact sy_return (vs := [_, _]) rfl (.cons (RV.tmp rfl) (.cons (RV.tmp rfl) .nil)) rfl ⟨.inr ⟨hck, σ, hσ, .inr ⟨hc1, o', rfl, rfl⟩⟩, rfl⟩ (fun w h => ((((h.del b1).del bw).del m).ftail).dropMid)
   ·
    simp only [decide_eq_false_iff_not] at hc1
    refine sy_skip ?_
    refine sy_nx ?_
    refine sy_seq ?_
    refine sy_tx' [0] rfl ?_
    refine sy_sq ?_
    refine sp rfl (PE.assign rfl) rfl ?_
    refine sy_sn ?_
    refine sy_nx ?_
    refine sy_seq ?_
    refine sy_seq ?_
    refine sy_tx' [0, 1, 2, 3] rfl ?_
    refine sy_sq ?_
    refine sp rfl (PE.fieldAddr fo26_8 rfl) rfl ?_
    refine sy_sq ?_
    refine spL rfl rfl (lh sc24 rfl rfl) rfl ?_
    refine sy_sq ?_
    refine sp rfl (PE.lenSl isl24 rfl) rfl ?_
    refine sy_sq ?_
    refine sp rfl (PE.move rfl) rfl ?_
    refine sy_sn ?_
    refine sy_nx ?_
    refine sy_block ?_
    have hlen := hok.many
    have hb0 : 0 ≤ lat σ.y t.now ∧ lat σ.y t.now ≤ 1000000 := by omega
    refine sy_loop (ι := (k : {k : Nat // k ≤ t.rats.length}) × OSl 3 1 (irows (pickU (fun q => t.keeps σ.y t.now q (lat σ.y t.now)) t.rats k.1))) (fun x => ⟨[(1, .pointer (some ⟨b1, 0, none⟩)), (4, .pointer (some ⟨bw, 0, none⟩)), (6, .int .i64 (lat σ.y t.now)), (7, x.2.fs), (27, .int .i64 t.rats.length), (28, .int .i64 x.1.1)], (x.2.G ++ (b1, cel 26 (twl t (t.sl (some ⟨ba, oa, none⟩) ca))) :: (o.G ++ (bw, cel 153 (rcs t (t.sl (some ⟨ba, oa, none⟩) ca) bt (σ.y) o.fs m)) :: (m, mapO true (kvOf σ.fl)) :: H)), RowsA (some ⟨bt, 0, none⟩) 11 [twl t (t.sl (some ⟨ba, oa, none⟩) ca)] :: R⟩) (fun x => t.rats.length - x.1.1) ⟨⟨0, by omega⟩, OSl.nil _ _⟩ ?_ (fun x => ?_)
    ·
     exact sy_at (by repeat' first | exact Sub.nil | apply Sub.cons | rfl | (simp [lk]; omega)) (fun w h => h.pull b1)
    ·
     obtain ⟨⟨k, hk⟩, o'⟩ := x
     dsimp only at o' ⊢
     refine sy_seq ?_
     refine sy_tx' [0] rfl ?_
     refine sy_sq ?_
     refine sp rfl (PE.lss rfl rfl) rfl ?_
     refine sy_sn ?_
     refine sy_nx ?_
     refine sy_seq ?_
     refine sy_cond rfl (fun hc2 => ?_) (fun hc2 => ?_)
     ·
      simp only [decide_eq_true_eq, decide_eq_false_iff_not, Bool.and_eq_true, Bool.or_eq_true, Bool.not_eq_true', Int.not_le, Int.not_lt] at hc2
      obtain ⟨q, hq⟩ : ∃ q, t.rats[k]? = some q := ⟨_, List.getElem?_eq_getElem (by omega)⟩
      refine sy_skip ?_
      refine sy_nx ?_
      refine sy_seq ?_
      refine sy_block ?_
      refine sy_seq ?_
      refine sy_tx' [0, 1] rfl ?_
      refine sy_sq ?_
      refine sp rfl (PE.move rfl) rfl ?_
      refine sy_sq ?_
      refine sp rfl (PE.assign rfl) rfl ?_
      refine sy_sn ?_
      refine sy_nx ?_
      refine sy_seq ?_
      refine sy_tx' [0, 1, 2, 3, 4, 5] rfl ?_
      refine sy_sq ?_
      refine sp rfl (PE.move rfl) rfl ?_
      refine sy_sq ?_
      refine sp rfl (PE.fieldAddr fo26_0 rfl) rfl ?_
      refine sy_sq ?_
      refine spL rfl rfl (lhA [_, _, _] ag23 rfl rfl rfl) rfl ?_
      refine sy_sq ?_
      refine sp rfl (PE.move rfl) rfl ?_
      refine sy_sq ?_
      refine sp rfl (PE.move rfl) rfl ?_
      refine sy_sq ?_
      refine clV rfl cal96 rfl rfl (c_keeps t hok t.now hok.now k q (by omega) (by simpa using hq) (lat σ.y t.now) hb0 ba oa ca bt bw m σ.y o.fs (solv_ok hok hσ) _ _) ?_
      refine sy_sn ?_
      refine sy_nx ?_
      refine sy_cond rfl (fun hc3 => ?_) (fun hc3 => ?_)
      ·
       have e := pickU_succ (p := fun q => t.keeps σ.y t.now q (lat σ.y t.now)) hq
       rw [hc3, cond_true] at e
       refine sy_tx' [0, 1, 2, 3, 4] rfl ?_
       refine sy_sq ?_
       refine sp rfl (PE.move rfl) rfl ?_
       refine sy_sq ?_
       refine sp rfl (PE.move rfl) rfl ?_
       refine sy_sq ?_
       refine bsl (out := [_]) rfl sl42 zl3 rfl rfl rfl rfl rfl rfl (fun b39 => ?_)
       refine sy_sq ?_
       refine apO (o') rfl ap42 rfl rfl (rowsH (row := [.int .i64 k]) rfl) rfl rfl ((by have := pickU_len (fun q => t.keeps σ.y t.now q (lat σ.y t.now)) t.rats k; simp only [irows, List.length_map, List.length_singleton]; omega)) rfl (fun o40 => ?_)
       refine sy_sq ?_
       refine sp rfl (PE.assign rfl) rfl ?_
       refine sy_sn ?_
       refine sy_bn ?_
       refine sy_nx ?_
       refine sy_tx' [0, 1] rfl ?_
       refine sy_sq ?_
       refine sp rfl (PE.add rfl rfl (by omega)) rfl ?_
       refine sy_sq ?_
       refine sp rfl (PE.move rfl) rfl ?_
       refine sy_sn ?_
       refine sy_nx ?_
       first
         | exact sy_next ⟨⟨k + 1, by omega⟩, o40.cast (by rw [e]; simp [irows])⟩ (by dsimp only; omega) (by repeat' first | exact Sub.nil | apply Sub.cons | rfl | (simp [lk]; omega)) (fun w h => h.del b39)
         | exact sy_next ⟨⟨k + 1, by omega⟩, o'.cast (by rw [e])⟩ (by dsimp only; omega) (by repeat' first | exact Sub.nil | apply Sub.cons | rfl | (simp [lk]; omega)) (fun w h => h)
      ·
       have e := pickU_succ (p := fun q => t.keeps σ.y t.now q (lat σ.y t.now)) hq
       rw [hc3, cond_false] at e
       refine sy_skip ?_
       refine sy_bn ?_
       refine sy_nx ?_
       refine sy_tx' [0, 1] rfl ?_
       refine sy_sq ?_
       refine sp rfl (PE.add rfl rfl (by omega)) rfl ?_
       refine sy_sq ?_
       refine sp rfl (PE.move rfl) rfl ?_
       refine sy_sn ?_
       refine sy_nx ?_
       first
         | exact sy_next ⟨⟨k + 1, by omega⟩, o40.cast (by rw [e]; simp [irows])⟩ (by dsimp only; omega) (by repeat' first | exact Sub.nil | apply Sub.cons | rfl | (simp [lk]; omega)) (fun w h => h.del b39)
         | exact sy_next ⟨⟨k + 1, by omega⟩, o'.cast (by rw [e])⟩ (by dsimp only; omega) (by repeat' first | exact Sub.nil | apply Sub.cons | rfl | (simp [lk]; omega)) (fun w h => h)
     ·
      simp only [decide_eq_true_eq, decide_eq_false_iff_not, Bool.and_eq_true, Bool.or_eq_true, Bool.not_eq_true', Int.not_le, Int.not_lt] at hc2
      obtain rfl : k = t.rats.length := by omega
      refine sy_exit ?_
      refine sy_tx ?_
      refine sy_tx ?_
      refine sy_bx ?_
      refine sy_nx ?_
      refine sy_seq ?_
      refine sy_tx' [0, 1, 2] rfl ?_
      refine sy_sq ?_
      refine sp rfl (PE.move rfl) rfl ?_
      refine sy_sq ?_
      refine sp rfl (PE.assign rfl) rfl ?_
      refine sy_sq ?_
      refine sp rfl (PE.assign rfl) rfl ?_
      refine sy_sn ?_
      refine sy_nx ?_
      refine sy_ret ?_
      first
        | exact sy_return (vs := [_, _]) rfl (.cons (RV.tmp rfl) (.cons (RV.tmp rfl) .nil)) rfl ⟨.inr ⟨hck, σ, hσ, .inl ⟨hc1, rfl, rfl⟩⟩, rfl⟩ (fun _ h => by repeat first | exact h | replace h := St.tail h | replace h := St.ftail h | replace h := St.drop h)
        | exact sy_return (vs := [_, _]) rfl (.cons (RV.tmp rfl) (.cons (RV.tmp rfl) .nil)) rfl ⟨.inr ⟨hck, σ, hσ, .inr ⟨hc1, o', rfl, rfl⟩⟩, rfl⟩ (fun w h => ((((h.del b1).del bw).del m).ftail).dropMid)
end Go.Proofs.Ytaldphhdkmchhaa
