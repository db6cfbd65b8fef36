/- Walks of the functions of the program: what each returns and leaves in memory, under the conditions that its theorem names. -/
import Derived.Test.YtaldphhdkmchhaaTy
import Derived.Test.YtaldphhdkmchhaaMa
import Derived.Test.YtaldphhdkmchhaaWk28
namespace Go.Proofs.Ytaldphhdkmchhaa
set_option linter.unusedSimpArgs false
set_option linter.unusedVariables false
open Go
theorem cal46 : cal Try.prog 46 = true := by kernel_rfl
theorem cal47 : cal Try.prog 47 = true := by kernel_rfl
theorem c_BreadMore (g : List Int) (ag : Option Addr) (cg : Nat) (hgl : g.length ≤ 9223372036854775807) (bads better : Int) (hb1 : 0 ≤ bads ∧ bads ≤ 255) (hb2 : 0 ≤ better ∧ better ≤ 255) (H : Heap) (R : Facts) [hG : MemRows ag 1 (urows g) R] :
    Fn Try.prog 7 [.slice ag g.length cg, .int .u8 bads, .int .u8 better] H R (fun v H' R' => v = .bool true ∧ H' = H ∧ R' = R) := by
  refine fn_of Try.func7 rfl Try.ntmps7 rfl ?_
  refine sy_seq ?_
  refine sy_tx' [0] rfl ?_
  refine sy_sq ?_
  refine sp rfl (PE.assign rfl) rfl ?_
  refine sy_sn ?_
  refine sy_nx ?_
  refine sy_seq ?_
  refine sy_tx' [0, 1, 2, 3, 4] rfl ?_
  refine sy_sq ?_
  refine sp rfl (PE.move rfl) rfl ?_
  refine sy_sq ?_
  refine cl rfl cal47 rfl rfl (c_Fill g ag cg hgl _ _) ?_
  rintro _ _ R1 ⟨bk, mx, hmx, rfl, rfl, hR1⟩
  obtain rfl := hR1.symm
  refine sy_sq ?_
  refine cl rfl cal46 rfl rfl (c_Made g ag cg bk hgl 0 mx (by omega) hmx 20 (by omega) _ _) ?_
  rintro _ _ _ ⟨t, ba, oa, ca, tq', mx', hmo, rfl, htq', hmx', rfl, rfl⟩
  refine Sy.heap (fun w h => h.del bk) ?_
  have hck := hmo.ok
  have hok := (ok_of_check hck).1
  have hmany := hok.many
  refine sy_sq ?_
  refine alc rfl zl26 rfl (fun b7 => ?_)
  refine sy_sq ?_
  refine sto rfl rfl rfl cn26 rfl rfl rfl rfl ?_
  refine sy_sn ?_
  refine sy_nx ?_
  refine sy_seq ?_
  refine sy_tx' [0, 1, 2, 3, 4, 5, 6] rfl ?_
  refine sy_sq ?_
  refine spL rfl rfl (lhA [_, _, _, _, _, _, _, _, _, _, _] ag26 rfl rfl rfl) rfl ?_
  refine sy_sq ?_
  refine cl rfl cal42 rfl rfl (c_Lasts t (by omega) ba oa ca _ _) ?_
  rintro _ _ _ ⟨h, rfl, rfl⟩
  obtain ⟨_, σ, hσ, rfl⟩ := h.resolve_left (fun h => h.1 hck)
  have hly := (solv_lsa hok hσ).ly hok
  rw [(solv_lsa hok hσ).same hok _ hok.now]
  have hrg := ls_range hly hok.now
  refine sy_sq ?_
  refine sp rfl (PE.move rfl) rfl ?_
  refine sy_sq ?_
  refine sp rfl (PE.extract rfl rfl) rfl ?_
  refine sy_sq ?_
  refine sp rfl (PE.extract rfl rfl) rfl ?_
  refine sy_sq ?_
  refine sp rfl (PE.assign rfl) rfl ?_
  refine sy_sq ?_
  refine sp rfl (PE.assign rfl) rfl ?_
  refine sy_sn ?_
  refine sy_nx ?_
  refine sy_seq ?_
  refine sy_seq ?_
  refine sy_tx' [0, 1, 2, 3, 4, 5, 6, 7, 8, 9] rfl ?_
  refine sy_sq ?_
  refine sp rfl (PE.move rfl) rfl ?_
  refine sy_sq ?_
  refine sp rfl (PE.neq rfl rfl) rfl ?_
  refine sy_sq ?_
  refine sp rfl (PE.move rfl) rfl ?_
  refine sy_sq ?_
  refine sy_case (t := 31) rfl (fun g31 => ?_) (fun g31 => ?_)
  ·
   exact absurd g31 (by first | (simp; done) | (simp_all; done))
  ·
   refine spG rfl rfl rfl rfl (PE.move rfl) rfl ?_
   refine sy_sq ?_
   refine spG rfl rfl rfl rfl (PE.lss rfl rfl) rfl ?_
   refine sy_sq ?_
   refine sp rfl (PE.pick rfl rfl rfl) rfl ?_
   refine sy_sq ?_
   refine sp rfl (PE.move rfl) rfl ?_
   refine sy_sq ?_
   refine sy_case (t := 35) rfl (fun g35 => ?_) (fun g35 => ?_)
   ·
    exact absurd g35 (by rw [decide_eq_false (by omega)]; simp)
   ·
    refine spG rfl rfl rfl rfl (PE.move rfl) rfl ?_
    refine sy_sq ?_
    refine spG rfl rfl rfl rfl (PE.gtr rfl rfl) rfl ?_
    refine sy_sq ?_
    refine sp rfl (PE.pick rfl rfl rfl) rfl ?_
    refine sy_sn ?_
    refine sy_nx ?_
    refine sy_cond rfl (fun hc0 => ?_) (fun hc0 => ?_)
    ·
     exact absurd hc0 (by rw [decide_eq_false (by omega)]; simp)
    ·
     refine sy_skip ?_
     refine sy_nx ?_
     refine sy_seq ?_
     refine sy_seq ?_
     refine sy_tx' [0] rfl ?_
     refine sy_sq ?_
     refine sp rfl (PE.move rfl) rfl ?_
     refine sy_sn ?_
     refine sy_nx ?_
     refine sy_block ?_
     refine sy_loop (ι := {k : Nat // k ≤ 5}) (fun k => ⟨[(1, .int .u8 bads), (2, .int .u8 better), (7, .pointer (some ⟨b7, 0, none⟩)), (8, .int .i64 (lat (LY t) t.now)), (39, .int .i64 k.1)], (b7, cel 26 (twl t (t.sl (some ⟨ba, oa, none⟩) ca))) :: H, RowsA (some ⟨ba, oa, none⟩) 2 (rrows t.rats) :: R⟩) (fun k => 5 - k.1) ⟨0, by omega⟩ ?_ (fun k => ?_)
     ·
      exact sy_at (by repeat' first | exact Sub.nil | apply Sub.cons | rfl | (simp [lk]; omega)) (fun _ h => h)
     ·
      obtain ⟨k, hk⟩ := k
      dsimp only
      refine sy_seq ?_
      refine sy_tx' [0] rfl ?_
      refine sy_sq ?_
      refine sp rfl (PE.lss rfl rfl) rfl ?_
      refine sy_sn ?_
      refine sy_nx ?_
      refine sy_seq ?_
      refine sy_cond rfl (fun hc1 => ?_) (fun hc1 => ?_)
      ·
       try simp only [decide_eq_true_eq, decide_eq_false_iff_not, Bool.and_eq_true, Bool.or_eq_true, Bool.not_eq_true', Int.not_le, Int.not_lt] at hc1
       
       refine sy_skip ?_
       refine sy_nx ?_
       refine sy_seq ?_
       refine sy_block ?_
       refine sy_seq ?_
       refine sy_tx' [0, 1] rfl ?_
       refine sy_sq ?_
       refine sp rfl (PE.move rfl) rfl ?_
       refine sy_sq ?_
       refine sp rfl (PE.assign rfl) rfl ?_
       refine sy_sn ?_
       refine sy_nx ?_
       refine sy_seq ?_
       refine sy_tx' [0, 1, 2, 3] rfl ?_
       refine sy_sq ?_
       refine spL rfl rfl (lhA [_, _, _, _, _, _, _, _, _, _, _] ag26 rfl rfl rfl) rfl ?_
       refine sy_sq ?_
       refine cl rfl cal17 rfl rfl (c_Own t _ ca (by omega) _ _) ?_
       rintro _ _ _ ⟨bo, co, rfl, rfl, rfl⟩
       refine sy_sq ?_
       refine alc rfl zl26 rfl (fun b11 => ?_)
       refine sy_sq ?_
       refine sto rfl rfl rfl cn26 rfl rfl rfl rfl ?_
       refine sy_sn ?_
       refine sy_nx ?_
       refine sy_seq ?_
       refine sy_seq ?_
       refine sy_tx' [0] rfl ?_
       refine sy_sq ?_
       refine sp rfl (PE.move rfl) rfl ?_
       refine sy_sn ?_
       refine sy_nx ?_
       refine sy_block ?_
       refine sy_seq ?_
       refine sy_tx' [0, 1] rfl ?_
       refine sy_sq ?_
       refine sp rfl (PE.eql rfl rfl) rfl ?_
       refine sy_sq ?_
       refine sp rfl (PE.assign rfl) rfl ?_
       refine sy_sn ?_
       refine sy_nx ?_
       refine sy_cond rfl (fun hc2 => ?_) (fun hc2 => ?_)
       ·
        try simp only [decide_eq_true_eq, decide_eq_false_iff_not, Bool.and_eq_true, Bool.or_eq_true, Bool.not_eq_true', Int.not_le, Int.not_lt] at hc2
        obtain rfl : k = 0 := by omega
        obtain ⟨hxo, hxc, _, _⟩ := betters_ok hck (d := better % 4) (by omega) 0
        refine sy_tx' [0, 1, 2, 3, 4, 5, 6, 7, 8, 9] rfl ?_
        refine sy_sq ?_
        refine sp rfl (PE.fieldAddr fo26_1 rfl) rfl ?_
        refine sy_sq ?_
        refine spL rfl rfl (lh sc3 rfl rfl) rfl ?_
        refine sy_sq ?_
        refine sp rfl (PE.fieldAddr fo26_0 rfl) rfl ?_
        refine sy_sq ?_
        refine sp rfl (PE.fieldAddr fo23_0 rfl) rfl ?_
        refine sy_sq ?_
        refine spL rfl rfl (lh sc3 rfl rfl) rfl ?_
        refine sy_sq ?_
        refine sp rfl (PE.add rfl rfl (by have := hok.holds; have := right_iff.1 hok.now; omega)) rfl ?_
        refine sy_sq ?_
        refine sp rfl (PE.min rfl rfl) rfl ?_
        refine sy_sq ?_
        refine sp rfl (PE.fieldAddr fo26_0 rfl) rfl ?_
        refine sy_sq ?_
        refine sp rfl (PE.fieldAddr fo23_0 rfl) rfl ?_
        refine sy_sq ?_
        refine sto rfl rfl rfl cn3 rfl rfl rfl rfl ?_
        refine sy_sn ?_
        refine sy_bn ?_
        refine sy_nx ?_
        refine sy_seq ?_
        refine sy_tx' [0, 1, 2, 3, 4, 5, 6] rfl ?_
        refine sy_sq ?_
        refine spL rfl rfl (lhA [_, _, _, _, _, _, _, _, _, _, _] ag26 rfl rfl rfl) rfl ?_
        refine sy_sq ?_
        refine cl rfl cal42 rfl rfl (c_Lasts (betters t (better % 4) 0) (by show t.rats.length ≤ _; omega) bo 0 co _ _ (hR := (inferInstance : MemRows _ 2 (rrows t.rats) _))) ?_
        rintro _ _ _ ⟨h, rfl, rfl⟩
        obtain ⟨_, σ2, hσ2, rfl⟩ := h.resolve_left (fun h => h.1 hxc)
        have hl2 := (solv_lsa hxo hσ2).ly hxo
        rw [(solv_lsa hxo hσ2).same hxo _ hxo.now]
        have hge := betters_lat hck (d := better % 4) (by omega) 0 hly hl2
        refine sy_sq ?_
        refine sp rfl (PE.move rfl) rfl ?_
        refine sy_sq ?_
        refine sp rfl (PE.extract rfl rfl) rfl ?_
        refine sy_sq ?_
        refine sp rfl (PE.extract rfl rfl) rfl ?_
        refine sy_sq ?_
        refine sp rfl (PE.assign rfl) rfl ?_
        refine sy_sq ?_
        refine sp rfl (PE.assign rfl) rfl ?_
        refine sy_sn ?_
        refine sy_nx ?_
        refine sy_seq ?_
        refine sy_tx' [0, 1, 2, 3, 4, 5, 6] rfl ?_
        refine sy_sq ?_
        refine sp rfl (PE.move rfl) rfl ?_
        refine sy_sq ?_
        refine sp rfl (PE.neq rfl rfl) rfl ?_
        refine sy_sq ?_
        refine sp rfl (PE.move rfl) rfl ?_
        refine sy_sq ?_
        refine sy_case (t := 101) rfl (fun g101 => ?_) (fun g101 => ?_)
        ·
         exact absurd g101 (by first | (simp; done) | (simp_all; done))
        ·
         refine spG rfl rfl rfl rfl (PE.move rfl) rfl ?_
         refine sy_sq ?_
         refine spG rfl rfl rfl rfl (PE.move rfl) rfl ?_
         refine sy_sq ?_
         refine spG rfl rfl rfl rfl (PE.lss rfl rfl) rfl ?_
         refine sy_sq ?_
         refine sp rfl (PE.pick rfl rfl rfl) rfl ?_
         refine sy_sn ?_
         refine sy_nx ?_
         refine sy_cond rfl (fun hc6 => ?_) (fun hc6 => ?_)
         ·
          exact absurd hc6 (by rw [decide_eq_false (by omega)]; simp)
         ·
          refine sy_skip ?_
          refine sy_bn ?_
          refine sy_nx ?_
          refine sy_tx' [0, 1] rfl ?_
          refine sy_sq ?_
          refine sp rfl (PE.add rfl rfl (by omega)) rfl ?_
          refine sy_sq ?_
          refine sp rfl (PE.move rfl) rfl ?_
          refine sy_sn ?_
          refine sy_nx ?_
          exact sy_next ⟨1, by omega⟩ (by dsimp only; omega) (by repeat' first | exact Sub.nil | apply Sub.cons | rfl | (simp [lk]; omega)) (fun w h => (h.del b11).ftail)
       ·
        try simp only [decide_eq_true_eq, decide_eq_false_iff_not, Bool.and_eq_true, Bool.or_eq_true, Bool.not_eq_true', Int.not_le, Int.not_lt] at hc2
        
        refine sy_seq ?_
        refine sy_tx' [0, 1] rfl ?_
        refine sy_sq ?_
        refine sp rfl (PE.eql rfl rfl) rfl ?_
        refine sy_sq ?_
        refine sp rfl (PE.assign rfl) rfl ?_
        refine sy_sn ?_
        refine sy_nx ?_
        refine sy_cond rfl (fun hc3 => ?_) (fun hc3 => ?_)
        ·
         try simp only [decide_eq_true_eq, decide_eq_false_iff_not, Bool.and_eq_true, Bool.or_eq_true, Bool.not_eq_true', Int.not_le, Int.not_lt] at hc3
         obtain rfl : k = 1 := by omega
         obtain ⟨hxo, hxc, _, _⟩ := betters_ok hck (d := better % 4) (by omega) 1
         refine sy_tx' [0, 1, 2, 3, 4, 5, 6, 7, 8, 9] rfl ?_
         refine sy_sq ?_
         refine sp rfl (PE.fieldAddr fo26_4 rfl) rfl ?_
         refine sy_sq ?_
         refine spL rfl rfl (lh sc3 rfl rfl) rfl ?_
         refine sy_sq ?_
         refine sp rfl (PE.fieldAddr fo26_0 rfl) rfl ?_
         refine sy_sq ?_
         refine sp rfl (PE.fieldAddr fo23_2 rfl) rfl ?_
         refine sy_sq ?_
         refine spL rfl rfl (lh sc3 rfl rfl) rfl ?_
         refine sy_sq ?_
         refine sp rfl (PE.add rfl rfl (by have := hok.run; have := right_iff.1 hok.now; omega)) rfl ?_
         refine sy_sq ?_
         refine sp rfl (PE.min rfl rfl) rfl ?_
         refine sy_sq ?_
         refine sp rfl (PE.fieldAddr fo26_0 rfl) rfl ?_
         refine sy_sq ?_
         refine sp rfl (PE.fieldAddr fo23_2 rfl) rfl ?_
         refine sy_sq ?_
         refine sto rfl rfl rfl cn3 rfl rfl rfl rfl ?_
         refine sy_sn ?_
         refine sy_bn ?_
         refine sy_nx ?_
         refine sy_seq ?_
         refine sy_tx' [0, 1, 2, 3, 4, 5, 6] rfl ?_
         refine sy_sq ?_
         refine spL rfl rfl (lhA [_, _, _, _, _, _, _, _, _, _, _] ag26 rfl rfl rfl) rfl ?_
         refine sy_sq ?_
         refine cl rfl cal42 rfl rfl (c_Lasts (betters t (better % 4) 1) (by show t.rats.length ≤ _; omega) bo 0 co _ _ (hR := (inferInstance : MemRows _ 2 (rrows t.rats) _))) ?_
         rintro _ _ _ ⟨h, rfl, rfl⟩
         obtain ⟨_, σ2, hσ2, rfl⟩ := h.resolve_left (fun h => h.1 hxc)
         have hl2 := (solv_lsa hxo hσ2).ly hxo
         rw [(solv_lsa hxo hσ2).same hxo _ hxo.now]
         have hge := betters_lat hck (d := better % 4) (by omega) 1 hly hl2
         refine sy_sq ?_
         refine sp rfl (PE.move rfl) rfl ?_
         refine sy_sq ?_
         refine sp rfl (PE.extract rfl rfl) rfl ?_
         refine sy_sq ?_
         refine sp rfl (PE.extract rfl rfl) rfl ?_
         refine sy_sq ?_
         refine sp rfl (PE.assign rfl) rfl ?_
         refine sy_sq ?_
         refine sp rfl (PE.assign rfl) rfl ?_
         refine sy_sn ?_
         refine sy_nx ?_
         refine sy_seq ?_
         refine sy_tx' [0, 1, 2, 3, 4, 5, 6] rfl ?_
         refine sy_sq ?_
         refine sp rfl (PE.move rfl) rfl ?_
         refine sy_sq ?_
         refine sp rfl (PE.neq rfl rfl) rfl ?_
         refine sy_sq ?_
         refine sp rfl (PE.move rfl) rfl ?_
         refine sy_sq ?_
         refine sy_case (t := 101) rfl (fun g101 => ?_) (fun g101 => ?_)
         ·
          exact absurd g101 (by first | (simp; done) | (simp_all; done))
         ·
          refine spG rfl rfl rfl rfl (PE.move rfl) rfl ?_
          refine sy_sq ?_
          refine spG rfl rfl rfl rfl (PE.move rfl) rfl ?_
          refine sy_sq ?_
          refine spG rfl rfl rfl rfl (PE.lss rfl rfl) rfl ?_
          refine sy_sq ?_
          refine sp rfl (PE.pick rfl rfl rfl) rfl ?_
          refine sy_sn ?_
          refine sy_nx ?_
          refine sy_cond rfl (fun hc6 => ?_) (fun hc6 => ?_)
          ·
           exact absurd hc6 (by rw [decide_eq_false (by omega)]; simp)
          ·
           refine sy_skip ?_
           refine sy_bn ?_
           refine sy_nx ?_
           refine sy_tx' [0, 1] rfl ?_
           refine sy_sq ?_
           refine sp rfl (PE.add rfl rfl (by omega)) rfl ?_
           refine sy_sq ?_
           refine sp rfl (PE.move rfl) rfl ?_
           refine sy_sn ?_
           refine sy_nx ?_
           exact sy_next ⟨2, by omega⟩ (by dsimp only; omega) (by repeat' first | exact Sub.nil | apply Sub.cons | rfl | (simp [lk]; omega)) (fun w h => (h.del b11).ftail)
        ·
         try simp only [decide_eq_true_eq, decide_eq_false_iff_not, Bool.and_eq_true, Bool.or_eq_true, Bool.not_eq_true', Int.not_le, Int.not_lt] at hc3
         
         refine sy_seq ?_
         refine sy_tx' [0, 1] rfl ?_
         refine sy_sq ?_
         refine sp rfl (PE.eql rfl rfl) rfl ?_
         refine sy_sq ?_
         refine sp rfl (PE.assign rfl) rfl ?_
         refine sy_sn ?_
         refine sy_nx ?_
         refine sy_cond rfl (fun hc4 => ?_) (fun hc4 => ?_)
         ·
          try simp only [decide_eq_true_eq, decide_eq_false_iff_not, Bool.and_eq_true, Bool.or_eq_true, Bool.not_eq_true', Int.not_le, Int.not_lt] at hc4
          obtain rfl : k = 2 := by omega
          obtain ⟨hxo, hxc, _, _⟩ := betters_ok hck (d := better % 4) (by omega) 2
          refine sy_tx' [0, 1, 2, 3, 4, 5] rfl ?_
          refine sy_sq ?_
          refine sp rfl (PE.fieldAddr fo26_3 rfl) rfl ?_
          refine sy_sq ?_
          refine spL rfl rfl (lh sc3 rfl rfl) rfl ?_
          refine sy_sq ?_
          refine sp rfl (PE.add rfl rfl (by have := hok.patience; omega)) rfl ?_
          refine sy_sq ?_
          refine sp rfl (PE.min rfl rfl) rfl ?_
          refine sy_sq ?_
          refine sp rfl (PE.fieldAddr fo26_3 rfl) rfl ?_
          refine sy_sq ?_
          refine sto rfl rfl rfl cn3 rfl rfl rfl rfl ?_
          refine sy_sn ?_
          refine sy_bn ?_
          refine sy_nx ?_
          refine sy_seq ?_
          refine sy_tx' [0, 1, 2, 3, 4, 5, 6] rfl ?_
          refine sy_sq ?_
          refine spL rfl rfl (lhA [_, _, _, _, _, _, _, _, _, _, _] ag26 rfl rfl rfl) rfl ?_
          refine sy_sq ?_
          refine cl rfl cal42 rfl rfl (c_Lasts (betters t (better % 4) 2) (by show t.rats.length ≤ _; omega) bo 0 co _ _ (hR := (inferInstance : MemRows _ 2 (rrows t.rats) _))) ?_
          rintro _ _ _ ⟨h, rfl, rfl⟩
          obtain ⟨_, σ2, hσ2, rfl⟩ := h.resolve_left (fun h => h.1 hxc)
          have hl2 := (solv_lsa hxo hσ2).ly hxo
          rw [(solv_lsa hxo hσ2).same hxo _ hxo.now]
          have hge := betters_lat hck (d := better % 4) (by omega) 2 hly hl2
          refine sy_sq ?_
          refine sp rfl (PE.move rfl) rfl ?_
          refine sy_sq ?_
          refine sp rfl (PE.extract rfl rfl) rfl ?_
          refine sy_sq ?_
          refine sp rfl (PE.extract rfl rfl) rfl ?_
          refine sy_sq ?_
          refine sp rfl (PE.assign rfl) rfl ?_
          refine sy_sq ?_
          refine sp rfl (PE.assign rfl) rfl ?_
          refine sy_sn ?_
          refine sy_nx ?_
          refine sy_seq ?_
          refine sy_tx' [0, 1, 2, 3, 4, 5, 6] rfl ?_
          refine sy_sq ?_
          refine sp rfl (PE.move rfl) rfl ?_
          refine sy_sq ?_
          refine sp rfl (PE.neq rfl rfl) rfl ?_
          refine sy_sq ?_
          refine sp rfl (PE.move rfl) rfl ?_
          refine sy_sq ?_
          refine sy_case (t := 101) rfl (fun g101 => ?_) (fun g101 => ?_)
          ·
           exact absurd g101 (by first | (simp; done) | (simp_all; done))
          ·
           refine spG rfl rfl rfl rfl (PE.move rfl) rfl ?_
           refine sy_sq ?_
           refine spG rfl rfl rfl rfl (PE.move rfl) rfl ?_
           refine sy_sq ?_
           refine spG rfl rfl rfl rfl (PE.lss rfl rfl) rfl ?_
           refine sy_sq ?_
           refine sp rfl (PE.pick rfl rfl rfl) rfl ?_
           refine sy_sn ?_
           refine sy_nx ?_
           refine sy_cond rfl (fun hc6 => ?_) (fun hc6 => ?_)
           ·
            exact absurd hc6 (by rw [decide_eq_false (by omega)]; simp)
           ·
            refine sy_skip ?_
            refine sy_bn ?_
            refine sy_nx ?_
            refine sy_tx' [0, 1] rfl ?_
            refine sy_sq ?_
            refine sp rfl (PE.add rfl rfl (by omega)) rfl ?_
            refine sy_sq ?_
            refine sp rfl (PE.move rfl) rfl ?_
            refine sy_sn ?_
            refine sy_nx ?_
            exact sy_next ⟨3, by omega⟩ (by dsimp only; omega) (by repeat' first | exact Sub.nil | apply Sub.cons | rfl | (simp [lk]; omega)) (fun w h => (h.del b11).ftail)
         ·
          try simp only [decide_eq_true_eq, decide_eq_false_iff_not, Bool.and_eq_true, Bool.or_eq_true, Bool.not_eq_true', Int.not_le, Int.not_lt] at hc4
          
          refine sy_seq ?_
          refine sy_tx' [0, 1] rfl ?_
          refine sy_sq ?_
          refine sp rfl (PE.eql rfl rfl) rfl ?_
          refine sy_sq ?_
          refine sp rfl (PE.assign rfl) rfl ?_
          refine sy_sn ?_
          refine sy_nx ?_
          refine sy_cond rfl (fun hc5 => ?_) (fun hc5 => ?_)
          ·
           try simp only [decide_eq_true_eq, decide_eq_false_iff_not, Bool.and_eq_true, Bool.or_eq_true, Bool.not_eq_true', Int.not_le, Int.not_lt] at hc5
           obtain rfl : k = 3 := by omega
           obtain ⟨hxo, hxc, _, _⟩ := betters_ok hck (d := better % 4) (by omega) 3
           refine sy_tx' [0, 1, 2, 3, 4, 5, 6, 7, 8] rfl ?_
           refine sy_sq ?_
           refine sp rfl (PE.fieldAddr fo26_0 rfl) rfl ?_
           refine sy_sq ?_
           refine sp rfl (PE.fieldAddr fo23_2 rfl) rfl ?_
           refine sy_sq ?_
           refine spL rfl rfl (lh sc3 rfl rfl) rfl ?_
           refine sy_sq ?_
           refine sp rfl (PE.fieldAddr fo26_4 rfl) rfl ?_
           refine sy_sq ?_
           refine spL rfl rfl (lh sc3 rfl rfl) rfl ?_
           refine sy_sq ?_
           refine sp rfl (PE.sub rfl rfl (by have := hok.run; omega)) rfl ?_
           refine sy_sq ?_
           refine sp rfl (PE.max rfl rfl) rfl ?_
           refine sy_sq ?_
           refine sp rfl (PE.fieldAddr fo26_4 rfl) rfl ?_
           refine sy_sq ?_
           refine sto rfl rfl rfl cn3 rfl rfl rfl rfl ?_
           refine sy_sn ?_
           refine sy_bn ?_
           refine sy_nx ?_
           refine sy_seq ?_
           refine sy_tx' [0, 1, 2, 3, 4, 5, 6] rfl ?_
           refine sy_sq ?_
           refine spL rfl rfl (lhA [_, _, _, _, _, _, _, _, _, _, _] ag26 rfl rfl rfl) rfl ?_
           refine sy_sq ?_
           refine cl rfl cal42 rfl rfl (c_Lasts (betters t (better % 4) 3) (by show t.rats.length ≤ _; omega) bo 0 co _ _ (hR := (inferInstance : MemRows _ 2 (rrows t.rats) _))) ?_
           rintro _ _ _ ⟨h, rfl, rfl⟩
           obtain ⟨_, σ2, hσ2, rfl⟩ := h.resolve_left (fun h => h.1 hxc)
           have hl2 := (solv_lsa hxo hσ2).ly hxo
           rw [(solv_lsa hxo hσ2).same hxo _ hxo.now]
           have hge := betters_lat hck (d := better % 4) (by omega) 3 hly hl2
           refine sy_sq ?_
           refine sp rfl (PE.move rfl) rfl ?_
           refine sy_sq ?_
           refine sp rfl (PE.extract rfl rfl) rfl ?_
           refine sy_sq ?_
           refine sp rfl (PE.extract rfl rfl) rfl ?_
           refine sy_sq ?_
           refine sp rfl (PE.assign rfl) rfl ?_
           refine sy_sq ?_
           refine sp rfl (PE.assign rfl) rfl ?_
           refine sy_sn ?_
           refine sy_nx ?_
           refine sy_seq ?_
           refine sy_tx' [0, 1, 2, 3, 4, 5, 6] rfl ?_
           refine sy_sq ?_
           refine sp rfl (PE.move rfl) rfl ?_
           refine sy_sq ?_
           refine sp rfl (PE.neq rfl rfl) rfl ?_
           refine sy_sq ?_
           refine sp rfl (PE.move rfl) rfl ?_
           refine sy_sq ?_
           refine sy_case (t := 101) rfl (fun g101 => ?_) (fun g101 => ?_)
           ·
            exact absurd g101 (by first | (simp; done) | (simp_all; done))
           ·
            refine spG rfl rfl rfl rfl (PE.move rfl) rfl ?_
            refine sy_sq ?_
            refine spG rfl rfl rfl rfl (PE.move rfl) rfl ?_
            refine sy_sq ?_
            refine spG rfl rfl rfl rfl (PE.lss rfl rfl) rfl ?_
            refine sy_sq ?_
            refine sp rfl (PE.pick rfl rfl rfl) rfl ?_
            refine sy_sn ?_
            refine sy_nx ?_
            refine sy_cond rfl (fun hc6 => ?_) (fun hc6 => ?_)
            ·
             exact absurd hc6 (by rw [decide_eq_false (by omega)]; simp)
            ·
             refine sy_skip ?_
             refine sy_bn ?_
             refine sy_nx ?_
             refine sy_tx' [0, 1] rfl ?_
             refine sy_sq ?_
             refine sp rfl (PE.add rfl rfl (by omega)) rfl ?_
             refine sy_sq ?_
             refine sp rfl (PE.move rfl) rfl ?_
             refine sy_sn ?_
             refine sy_nx ?_
             exact sy_next ⟨4, by omega⟩ (by dsimp only; omega) (by repeat' first | exact Sub.nil | apply Sub.cons | rfl | (simp [lk]; omega)) (fun w h => (h.del b11).ftail)
          ·
           try simp only [decide_eq_true_eq, decide_eq_false_iff_not, Bool.and_eq_true, Bool.or_eq_true, Bool.not_eq_true', Int.not_le, Int.not_lt] at hc5
           obtain rfl : k = 4 := by omega
           obtain ⟨hxo, hxc, _, _⟩ := betters_ok hck (d := better % 4) (by omega) 4
           refine sy_tx' [0, 1, 2, 3, 4, 5, 6, 7, 8, 9, 10] rfl ?_
           refine sy_sq ?_
           refine sp rfl (PE.fieldAddr fo26_5 rfl) rfl ?_
           refine sy_sq ?_
           refine spL rfl rfl (lh sc3 rfl rfl) rfl ?_
           refine sy_sq ?_
           refine sp rfl (PE.fieldAddr fo26_6 rfl) rfl ?_
           refine sy_sq ?_
           refine spL rfl rfl (lh sc3 rfl rfl) rfl ?_
           refine sy_sq ?_
           refine sp rfl (PE.move rfl) rfl ?_
           refine sy_sq ?_
           refine sp rfl (PE.conv64 us5 ik3 rfl (by omega)) rfl ?_
           refine sy_sq ?_
           refine sp rfl (PE.rem rfl rfl (by omega)) rfl ?_
           refine sy_sq ?_
           refine sp rfl (PE.add rfl rfl (by have := hok.bad; have := hok.good; omega)) rfl ?_
           refine sy_sq ?_
           refine sp rfl (PE.min rfl rfl) rfl ?_
           refine sy_sq ?_
           refine sp rfl (PE.fieldAddr fo26_6 rfl) rfl ?_
           refine sy_sq ?_
           refine sto rfl rfl rfl cn3 rfl rfl rfl rfl ?_
           refine sy_sn ?_
           refine sy_bn ?_
           refine sy_nx ?_
           refine sy_seq ?_
           refine sy_tx' [0, 1, 2, 3, 4, 5, 6] rfl ?_
           refine sy_sq ?_
           refine spL rfl rfl (lhA [_, _, _, _, _, _, _, _, _, _, _] ag26 rfl rfl rfl) rfl ?_
           refine sy_sq ?_
           refine cl rfl cal42 rfl rfl (c_Lasts (betters t (better % 4) 4) (by show t.rats.length ≤ _; omega) bo 0 co _ _ (hR := (inferInstance : MemRows _ 2 (rrows t.rats) _))) ?_
           rintro _ _ _ ⟨h, rfl, rfl⟩
           obtain ⟨_, σ2, hσ2, rfl⟩ := h.resolve_left (fun h => h.1 hxc)
           have hl2 := (solv_lsa hxo hσ2).ly hxo
           rw [(solv_lsa hxo hσ2).same hxo _ hxo.now]
           have hge := betters_lat hck (d := better % 4) (by omega) 4 hly hl2
           refine sy_sq ?_
           refine sp rfl (PE.move rfl) rfl ?_
           refine sy_sq ?_
           refine sp rfl (PE.extract rfl rfl) rfl ?_
           refine sy_sq ?_
           refine sp rfl (PE.extract rfl rfl) rfl ?_
           refine sy_sq ?_
           refine sp rfl (PE.assign rfl) rfl ?_
           refine sy_sq ?_
           refine sp rfl (PE.assign rfl) rfl ?_
           refine sy_sn ?_
           refine sy_nx ?_
           refine sy_seq ?_
           refine sy_tx' [0, 1, 2, 3, 4, 5, 6] rfl ?_
           refine sy_sq ?_
           refine sp rfl (PE.move rfl) rfl ?_
           refine sy_sq ?_
           refine sp rfl (PE.neq rfl rfl) rfl ?_
           refine sy_sq ?_
           refine sp rfl (PE.move rfl) rfl ?_
           refine sy_sq ?_
           refine sy_case (t := 101) rfl (fun g101 => ?_) (fun g101 => ?_)
           ·
            exact absurd g101 (by first | (simp; done) | (simp_all; done))
           ·
            refine spG rfl rfl rfl rfl (PE.move rfl) rfl ?_
            refine sy_sq ?_
            refine spG rfl rfl rfl rfl (PE.move rfl) rfl ?_
            refine sy_sq ?_
            refine spG rfl rfl rfl rfl (PE.lss rfl rfl) rfl ?_
            refine sy_sq ?_
            refine sp rfl (PE.pick rfl rfl rfl) rfl ?_
            refine sy_sn ?_
            refine sy_nx ?_
            refine sy_cond rfl (fun hc6 => ?_) (fun hc6 => ?_)
            ·
             exact absurd hc6 (by rw [decide_eq_false (by omega)]; simp)
            ·
             refine sy_skip ?_
             refine sy_bn ?_
             refine sy_nx ?_
             refine sy_tx' [0, 1] rfl ?_
             refine sy_sq ?_
             refine sp rfl (PE.add rfl rfl (by omega)) rfl ?_
             refine sy_sq ?_
             refine sp rfl (PE.move rfl) rfl ?_
             refine sy_sn ?_
             refine sy_nx ?_
             exact sy_next ⟨5, by omega⟩ (by dsimp only; omega) (by repeat' first | exact Sub.nil | apply Sub.cons | rfl | (simp [lk]; omega)) (fun w h => (h.del b11).ftail)
      ·
       try simp only [decide_eq_true_eq, decide_eq_false_iff_not, Bool.and_eq_true, Bool.or_eq_true, Bool.not_eq_true', Int.not_le, Int.not_lt] at hc1
       
       refine sy_exit ?_
       refine sy_tx ?_
       refine sy_tx ?_
       refine sy_bx ?_
       refine sy_nx ?_
       refine sy_seq ?_
       refine sy_seq ?_
       refine sy_tx' [0, 1, 2, 3, 4, 5, 6, 7, 8] rfl ?_
       refine sy_sq ?_
       refine spL rfl rfl (lhA [_, _, _, _, _, _, _, _, _, _, _] ag26 rfl rfl rfl) rfl ?_
       refine sy_sq ?_
       refine sp rfl (PE.fieldAddr fo26_0 rfl) rfl ?_
       refine sy_sq ?_
       refine spL rfl rfl (lhA [_, _, _] ag23 rfl rfl rfl) rfl ?_
       refine sy_sq ?_
       refine cl rfl cal43 rfl rfl (c_From t t.now (by omega) ba oa ca _ _) ?_
       rintro _ _ _ ⟨rfl, rfl, rfl⟩
       rw [show fromP t t.now = (lat (LY t) t.now, 0) from by simp [fromP, hck, hok.now]]
       refine sy_sq ?_
       refine sp rfl (PE.move rfl) rfl ?_
       refine sy_sq ?_
       refine sp rfl (PE.extract rfl rfl) rfl ?_
       refine sy_sq ?_
       refine sp rfl (PE.extract rfl rfl) rfl ?_
       refine sy_sq ?_
       refine sp rfl (PE.assign rfl) rfl ?_
       refine sy_sq ?_
       refine sp rfl (PE.assign rfl) rfl ?_
       refine sy_sn ?_
       refine sy_nx ?_
       refine sy_seq ?_
       refine sy_tx' [0, 1, 2, 3, 4, 5, 6] rfl ?_
       refine sy_sq ?_
       refine sp rfl (PE.move rfl) rfl ?_
       refine sy_sq ?_
       refine sp rfl (PE.neq rfl rfl) rfl ?_
       refine sy_sq ?_
       refine sp rfl (PE.move rfl) rfl ?_
       refine sy_sq ?_
       refine sy_case (t := 116) rfl (fun g116 => ?_) (fun g116 => ?_)
       ·
        exact absurd g116 (by first | (simp; done) | (simp_all; done))
       ·
        refine spG rfl rfl rfl rfl (PE.move rfl) rfl ?_
        refine sy_sq ?_
        refine spG rfl rfl rfl rfl (PE.move rfl) rfl ?_
        refine sy_sq ?_
        refine spG rfl rfl rfl rfl (PE.neq rfl rfl) rfl ?_
        refine sy_sq ?_
        refine sp rfl (PE.pick rfl rfl rfl) rfl ?_
        refine sy_sn ?_
        refine sy_nx ?_
        refine sy_cond rfl (fun hc7 => ?_) (fun hc7 => ?_)
        ·
         exact absurd hc7 (by simp)
        ·
         refine sy_skip ?_
         refine sy_nx ?_
         refine sy_seq ?_
         refine sy_tx' [0, 1, 2, 3] rfl ?_
         refine sy_sq ?_
         refine sp rfl (PE.move rfl) rfl ?_
         refine sy_sq ?_
         refine sp rfl (PE.conv64 us5 ik3 rfl (by omega)) rfl ?_
         refine sy_sq ?_
         refine sp rfl (PE.rem rfl rfl (by omega)) rfl ?_
         refine sy_sq ?_
         refine sp rfl (PE.assign rfl) rfl ?_
         refine sy_sn ?_
         refine sy_nx ?_
         refine sy_seq ?_
         refine sy_tx' [0, 1, 2, 3, 4, 5, 6, 7] rfl ?_
         refine sy_sq ?_
         refine spL rfl rfl (lhA [_, _, _, _, _, _, _, _, _, _, _] ag26 rfl rfl rfl) rfl ?_
         refine sy_sq ?_
         refine sp rfl (PE.move rfl) rfl ?_
         refine sy_sq ?_
         refine cl rfl cal45 rfl rfl (c_Needs t (by omega) (bads % 9) ba oa ca _ _) ?_
         rintro _ _ _ ⟨h, rfl, rfl⟩
         rw [need_P h]
         clear h
         have hib : inb (bads % 9) 0 1000000 = true := by simp only [inb, Bool.and_eq_true, decide_eq_true_eq]; omega
         have hnd : ∀ {k : Nat}, (k : Int) ≤ t.holds → (bads % 9 ≤ lat (LY t) ⟨k, t.now.short, t.now.dry⟩ ↔ ∃ m, needO t (LY t) (bads % 9) = some m ∧ m ≤ k) := fun h => need_iff hok hly h
         rcases hno : needO t (LY t) (bads % 9) with _ | nd
         ·
          refine sy_sq ?_
          refine sp rfl (PE.move rfl) rfl ?_
          refine sy_sq ?_
          refine sp rfl (PE.extract rfl rfl) rfl ?_
          refine sy_sq ?_
          refine sp rfl (PE.extract rfl rfl) rfl ?_
          refine sy_sq ?_
          refine sp rfl (PE.assign rfl) rfl ?_
          refine sy_sq ?_
          refine sp rfl (PE.assign rfl) rfl ?_
          refine sy_sn ?_
          refine sy_nx ?_
          refine sy_seq ?_
          refine sy_seq ?_
          refine sy_tx' [0, 1, 2, 3] rfl ?_
          refine sy_sq ?_
          rw [show neeP t (bads % 9) = (0, 6) from by unfold neeP; rw [hib, hno]; simp [hck]]
          have hh := hok.holds
          refine sp rfl (PE.fieldAddr fo26_1 rfl) rfl ?_
          refine sy_sq ?_
          refine spL rfl rfl (lh sc3 rfl rfl) rfl ?_
          refine sy_sq ?_
          refine sp rfl (PE.add rfl rfl (by omega)) rfl ?_
          refine sy_sq ?_
          refine sp rfl (PE.move rfl) rfl ?_
          refine sy_sn ?_
          refine sy_nx ?_
          refine sy_block ?_
          refine sy_loop (ι := {k : Nat // (k : Int) ≤ t.holds + 1}) (fun k => ⟨[(7, .pointer (some ⟨b7, 0, none⟩)), (9, .int .i64 6), (16, .int .i64 (bads % 9)), (17, .int .i64 0), (132, .int .i64 (t.holds + 1)), (133, .int .i64 k.1)], (b7, cel 26 (twl t (t.sl (some ⟨ba, oa, none⟩) ca))) :: H, RowsA (some ⟨ba, oa, none⟩) 2 (rrows t.rats) :: R⟩) (fun k => t.holds.toNat + 1 - k.1) ⟨0, by have := hok.holds; simp; omega⟩ ?_ (fun k => ?_)
          ·
           exact sy_at (by repeat' first | exact Sub.nil | apply Sub.cons | rfl | (simp [lk]; omega)) (fun _ h => h)
          ·
           obtain ⟨k, hk⟩ := k
           dsimp only
           refine sy_seq ?_
           refine sy_tx' [0] rfl ?_
           refine sy_sq ?_
           refine sp rfl (PE.lss rfl rfl) rfl ?_
           refine sy_sn ?_
           refine sy_nx ?_
           refine sy_seq ?_
           refine sy_cond rfl (fun hc8 => ?_) (fun hc8 => ?_)
           ·
            try simp only [decide_eq_true_eq, decide_eq_false_iff_not, Bool.and_eq_true, Bool.or_eq_true, Bool.not_eq_true', Int.not_le, Int.not_lt] at hc8
            
            refine sy_skip ?_
            refine sy_nx ?_
            refine sy_seq ?_
            refine sy_block ?_
            refine sy_seq ?_
            refine sy_tx' [0, 1] rfl ?_
            refine sy_sq ?_
            refine sp rfl (PE.move rfl) rfl ?_
            refine sy_sq ?_
            refine sp rfl (PE.assign rfl) rfl ?_
            refine sy_sn ?_
            refine sy_nx ?_
            refine sy_seq ?_
            refine sy_tx' [0, 1, 2, 3, 4, 5, 6, 7, 8, 9, 10, 11, 12, 13, 14] rfl ?_
            refine sy_sq ?_
            refine spL rfl rfl (lhA [_, _, _, _, _, _, _, _, _, _, _] ag26 rfl rfl rfl) rfl ?_
            refine sy_sq ?_
            refine sp rfl (PE.move rfl) rfl ?_
            refine sy_sq ?_
            refine sp rfl (PE.fieldAddr fo26_0 rfl) rfl ?_
            refine sy_sq ?_
            refine sp rfl (PE.fieldAddr fo23_1 rfl) rfl ?_
            refine sy_sq ?_
            refine spL rfl rfl (lh sc3 rfl rfl) rfl ?_
            refine sy_sq ?_
            refine sp rfl (PE.fieldAddr fo26_0 rfl) rfl ?_
            refine sy_sq ?_
            refine sp rfl (PE.fieldAddr fo23_2 rfl) rfl ?_
            refine sy_sq ?_
            refine spL rfl rfl (lh sc3 rfl rfl) rfl ?_
            refine sy_sq ?_
            refine sp rfl (PE.build (out := [_, _, _]) pl23 zl23 rfl rfl) rfl ?_
            refine sy_sq ?_
            refine cl rfl cal43 rfl rfl (c_From t ⟨k, t.now.short, t.now.dry⟩ (by omega) ba oa ca _ _) ?_
            rintro _ _ _ ⟨rfl, rfl, rfl⟩
            have hsr : Sta.right t ⟨k, t.now.short, t.now.dry⟩ = true := right_iff.2 ⟨⟨by simp, by simp only; omega⟩, (right_iff.1 hok.now).2⟩
            rw [show fromP t ⟨k, t.now.short, t.now.dry⟩ = (lat (LY t) ⟨k, t.now.short, t.now.dry⟩, 0) from by simp [fromP, hck, hsr]]
            have hki := hnd (k := k) (by omega)
            rw [hno] at hki
            refine sy_sq ?_
            refine sp rfl (PE.move rfl) rfl ?_
            refine sy_sq ?_
            refine sp rfl (PE.extract rfl rfl) rfl ?_
            refine sy_sq ?_
            refine sp rfl (PE.extract rfl rfl) rfl ?_
            refine sy_sq ?_
            refine sp rfl (PE.assign rfl) rfl ?_
            refine sy_sq ?_
            refine sp rfl (PE.assign rfl) rfl ?_
            refine sy_sn ?_
            refine sy_nx ?_
            refine sy_seq ?_
            refine sy_tx' [0, 1, 2, 3, 4, 5, 6, 7, 8, 9, 10, 11, 12, 13, 14] rfl ?_
            refine sy_sq ?_
            refine sp rfl (PE.move rfl) rfl ?_
            refine sy_sq ?_
            refine sp rfl (PE.neq rfl rfl) rfl ?_
            refine sy_sq ?_
            refine sp rfl (PE.move rfl) rfl ?_
            refine sy_sq ?_
            refine sy_case (t := 151) rfl (fun g151 => ?_) (fun g151 => ?_)
            ·
             exact absurd g151 (by first | (simp; done) | (simp_all; done))
            ·
             refine spG rfl rfl rfl rfl (PE.move rfl) rfl ?_
             refine sy_sq ?_
             refine spG rfl rfl rfl rfl (PE.move rfl) rfl ?_
             refine sy_sq ?_
             refine spG rfl rfl rfl rfl (PE.geq rfl rfl) rfl ?_
             refine sy_sq ?_
             refine spG rfl rfl rfl rfl (PE.move rfl) rfl ?_
             refine sy_sq ?_
             refine spG rfl rfl rfl rfl (PE.eql rfl rfl) rfl ?_
             refine sy_sq ?_
             refine spG rfl rfl rfl rfl (PE.move rfl) rfl ?_
             refine sy_sq ?_
             refine sy_case (t := 157) rfl (fun g157 => ?_) (fun g157 => ?_)
             ·
              exact absurd g157 (by simp)
             ·
              refine spN rfl rfl rfl rfl rfl rfl rfl rfl ?_
              refine sy_sq ?_
              refine spN rfl rfl rfl rfl rfl rfl rfl rfl ?_
              refine sy_sq ?_
              refine spN rfl rfl rfl rfl rfl rfl rfl rfl ?_
              refine sy_sq ?_
              refine spG rfl rfl rfl rfl (PE.pick rfl rfl rfl) rfl ?_
              refine sy_sq ?_
              refine spG rfl rfl rfl rfl (PE.neqBool ub4 rfl rfl) rfl ?_
              refine sy_sq ?_
              refine sp rfl (PE.pick rfl rfl rfl) rfl ?_
              refine sy_sn ?_
              refine sy_nx ?_
              refine sy_cond rfl (fun hc9 => ?_) (fun hc9 => ?_)
              ·
               exact absurd hc9 (by
                   have hno2 : ¬ bads % 9 ≤ lat (LY t) ⟨k, t.now.short, t.now.dry⟩ := fun h => by
                     obtain ⟨m, hm, _⟩ := hki.1 h
                     cases hm
                   rw [decide_eq_false hno2]; simp)
              ·
               refine sy_skip ?_
               refine sy_bn ?_
               refine sy_nx ?_
               refine sy_tx' [0, 1] rfl ?_
               refine sy_sq ?_
               refine sp rfl (PE.add rfl rfl (by omega)) rfl ?_
               refine sy_sq ?_
               refine sp rfl (PE.move rfl) rfl ?_
               refine sy_sn ?_
               refine sy_nx ?_
               exact sy_next ⟨k + 1, by omega⟩ (by dsimp only; omega) (by repeat' first | exact Sub.nil | apply Sub.cons | rfl | (simp [lk]; omega)) (fun _ h => h)
           ·
            try simp only [decide_eq_true_eq, decide_eq_false_iff_not, Bool.and_eq_true, Bool.or_eq_true, Bool.not_eq_true', Int.not_le, Int.not_lt] at hc8
            
            refine sy_exit ?_
            refine sy_tx ?_
            refine sy_tx ?_
            refine sy_bx ?_
            refine sy_nx ?_
            refine sy_seq ?_
            refine sy_tx' [0, 1, 2, 3, 4, 5, 6, 7, 8, 9] rfl ?_
            refine sy_sq ?_
            refine sp rfl (PE.move rfl) rfl ?_
            refine sy_sq ?_
            refine sp rfl (PE.eql rfl rfl) rfl ?_
            refine sy_sq ?_
            refine sp rfl (PE.move rfl) rfl ?_
            refine sy_sq ?_
            refine sy_case (t := 167) rfl (fun g167 => ?_) (fun g167 => ?_)
            ·
             exact absurd g167 (by simp)
            ·
             refine spG rfl rfl rfl rfl (PE.move rfl) rfl ?_
             refine sy_sq ?_
             refine spG rfl rfl rfl rfl (PE.eql rfl rfl) rfl ?_
             refine sy_sq ?_
             refine sp rfl (PE.pick rfl rfl rfl) rfl ?_
             refine sy_sq ?_
             refine sp rfl (PE.move rfl) rfl ?_
             refine sy_sq ?_
             refine sy_case (t := 171) rfl (fun g171 => ?_) (fun g171 => ?_)
             ·
              refine clVG rfl rfl rfl rfl cal16 rfl rfl (c_awake _ _) ?_
              refine sy_sq ?_
              refine sp rfl (PE.pick rfl rfl rfl) rfl ?_
              refine sy_sq ?_
              refine sp rfl (PE.assign rfl) rfl ?_
              refine sy_sn ?_
              refine sy_nx ?_
              refine sy_ret ?_
              exact sy_return (vs := [_]) rfl (.cons (RV.tmp rfl) .nil) rfl ⟨rfl, rfl, rfl⟩ (fun _ h => by repeat first | exact h | replace h := St.tail h | replace h := St.ftail h | replace h := St.drop h)
             ·
              exact absurd g171 (by simp)
         ·
          refine sy_sq ?_
          refine sp rfl (PE.move rfl) rfl ?_
          refine sy_sq ?_
          refine sp rfl (PE.extract rfl rfl) rfl ?_
          refine sy_sq ?_
          refine sp rfl (PE.extract rfl rfl) rfl ?_
          refine sy_sq ?_
          refine sp rfl (PE.assign rfl) rfl ?_
          refine sy_sq ?_
          refine sp rfl (PE.assign rfl) rfl ?_
          refine sy_sn ?_
          refine sy_nx ?_
          refine sy_seq ?_
          refine sy_seq ?_
          refine sy_tx' [0, 1, 2, 3] rfl ?_
          refine sy_sq ?_
          rw [show neeP t (bads % 9) = (nd, 0) from by unfold neeP; rw [hib, hno]; simp [hck]]
          have hh := hok.holds
          refine sp rfl (PE.fieldAddr fo26_1 rfl) rfl ?_
          refine sy_sq ?_
          refine spL rfl rfl (lh sc3 rfl rfl) rfl ?_
          refine sy_sq ?_
          refine sp rfl (PE.add rfl rfl (by omega)) rfl ?_
          refine sy_sq ?_
          refine sp rfl (PE.move rfl) rfl ?_
          refine sy_sn ?_
          refine sy_nx ?_
          refine sy_block ?_
          refine sy_loop (ι := {k : Nat // (k : Int) ≤ t.holds + 1}) (fun k => ⟨[(7, .pointer (some ⟨b7, 0, none⟩)), (9, .int .i64 0), (16, .int .i64 (bads % 9)), (17, .int .i64 nd), (132, .int .i64 (t.holds + 1)), (133, .int .i64 k.1)], (b7, cel 26 (twl t (t.sl (some ⟨ba, oa, none⟩) ca))) :: H, RowsA (some ⟨ba, oa, none⟩) 2 (rrows t.rats) :: R⟩) (fun k => t.holds.toNat + 1 - k.1) ⟨0, by have := hok.holds; simp; omega⟩ ?_ (fun k => ?_)
          ·
           exact sy_at (by repeat' first | exact Sub.nil | apply Sub.cons | rfl | (simp [lk]; omega)) (fun _ h => h)
          ·
           obtain ⟨k, hk⟩ := k
           dsimp only
           refine sy_seq ?_
           refine sy_tx' [0] rfl ?_
           refine sy_sq ?_
           refine sp rfl (PE.lss rfl rfl) rfl ?_
           refine sy_sn ?_
           refine sy_nx ?_
           refine sy_seq ?_
           refine sy_cond rfl (fun hc8 => ?_) (fun hc8 => ?_)
           ·
            try simp only [decide_eq_true_eq, decide_eq_false_iff_not, Bool.and_eq_true, Bool.or_eq_true, Bool.not_eq_true', Int.not_le, Int.not_lt] at hc8
            
            refine sy_skip ?_
            refine sy_nx ?_
            refine sy_seq ?_
            refine sy_block ?_
            refine sy_seq ?_
            refine sy_tx' [0, 1] rfl ?_
            refine sy_sq ?_
            refine sp rfl (PE.move rfl) rfl ?_
            refine sy_sq ?_
            refine sp rfl (PE.assign rfl) rfl ?_
            refine sy_sn ?_
            refine sy_nx ?_
            refine sy_seq ?_
            refine sy_tx' [0, 1, 2, 3, 4, 5, 6, 7, 8, 9, 10, 11, 12, 13, 14] rfl ?_
            refine sy_sq ?_
            refine spL rfl rfl (lhA [_, _, _, _, _, _, _, _, _, _, _] ag26 rfl rfl rfl) rfl ?_
            refine sy_sq ?_
            refine sp rfl (PE.move rfl) rfl ?_
            refine sy_sq ?_
            refine sp rfl (PE.fieldAddr fo26_0 rfl) rfl ?_
            refine sy_sq ?_
            refine sp rfl (PE.fieldAddr fo23_1 rfl) rfl ?_
            refine sy_sq ?_
            refine spL rfl rfl (lh sc3 rfl rfl) rfl ?_
            refine sy_sq ?_
            refine sp rfl (PE.fieldAddr fo26_0 rfl) rfl ?_
            refine sy_sq ?_
            refine sp rfl (PE.fieldAddr fo23_2 rfl) rfl ?_
            refine sy_sq ?_
            refine spL rfl rfl (lh sc3 rfl rfl) rfl ?_
            refine sy_sq ?_
            refine sp rfl (PE.build (out := [_, _, _]) pl23 zl23 rfl rfl) rfl ?_
            refine sy_sq ?_
            refine cl rfl cal43 rfl rfl (c_From t ⟨k, t.now.short, t.now.dry⟩ (by omega) ba oa ca _ _) ?_
            rintro _ _ _ ⟨rfl, rfl, rfl⟩
            have hsr : Sta.right t ⟨k, t.now.short, t.now.dry⟩ = true := right_iff.2 ⟨⟨by simp, by simp only; omega⟩, (right_iff.1 hok.now).2⟩
            rw [show fromP t ⟨k, t.now.short, t.now.dry⟩ = (lat (LY t) ⟨k, t.now.short, t.now.dry⟩, 0) from by simp [fromP, hck, hsr]]
            have hki := hnd (k := k) (by omega)
            rw [hno] at hki
            refine sy_sq ?_
            refine sp rfl (PE.move rfl) rfl ?_
            refine sy_sq ?_
            refine sp rfl (PE.extract rfl rfl) rfl ?_
            refine sy_sq ?_
            refine sp rfl (PE.extract rfl rfl) rfl ?_
            refine sy_sq ?_
            refine sp rfl (PE.assign rfl) rfl ?_
            refine sy_sq ?_
            refine sp rfl (PE.assign rfl) rfl ?_
            refine sy_sn ?_
            refine sy_nx ?_
            refine sy_seq ?_
            refine sy_tx' [0, 1, 2, 3, 4, 5, 6, 7, 8, 9, 10, 11, 12, 13, 14] rfl ?_
            refine sy_sq ?_
            refine sp rfl (PE.move rfl) rfl ?_
            refine sy_sq ?_
            refine sp rfl (PE.neq rfl rfl) rfl ?_
            refine sy_sq ?_
            refine sp rfl (PE.move rfl) rfl ?_
            refine sy_sq ?_
            refine sy_case (t := 151) rfl (fun g151 => ?_) (fun g151 => ?_)
            ·
             exact absurd g151 (by first | (simp; done) | (simp_all; done))
            ·
             refine spG rfl rfl rfl rfl (PE.move rfl) rfl ?_
             refine sy_sq ?_
             refine spG rfl rfl rfl rfl (PE.move rfl) rfl ?_
             refine sy_sq ?_
             refine spG rfl rfl rfl rfl (PE.geq rfl rfl) rfl ?_
             refine sy_sq ?_
             refine spG rfl rfl rfl rfl (PE.move rfl) rfl ?_
             refine sy_sq ?_
             refine spG rfl rfl rfl rfl (PE.eql rfl rfl) rfl ?_
             refine sy_sq ?_
             refine spG rfl rfl rfl rfl (PE.move rfl) rfl ?_
             refine sy_sq ?_
             refine sy_case (t := 157) rfl (fun g157 => ?_) (fun g157 => ?_)
             ·
              refine spG rfl rfl rfl rfl (PE.move rfl) rfl ?_
              refine sy_sq ?_
              refine spG rfl rfl rfl rfl (PE.move rfl) rfl ?_
              refine sy_sq ?_
              refine spG rfl rfl rfl rfl (PE.geq rfl rfl) rfl ?_
              refine sy_sq ?_
              refine spG rfl rfl rfl rfl (PE.pick rfl rfl rfl) rfl ?_
              refine sy_sq ?_
              refine spG rfl rfl rfl rfl (PE.neqBool ub4 rfl rfl) rfl ?_
              refine sy_sq ?_
              refine sp rfl (PE.pick rfl rfl rfl) rfl ?_
              refine sy_sn ?_
              refine sy_nx ?_
              refine sy_cond rfl (fun hc9 => ?_) (fun hc9 => ?_)
              ·
               exact absurd hc9 (by
                   have hiff : decide (bads % 9 ≤ lat (LY t) ⟨k, t.now.short, t.now.dry⟩) = decide (nd ≤ (k : Int)) := by
                     rw [decide_eq_decide, hki]
                     constructor
                     · rintro ⟨m, hm, h⟩; cases hm; exact h
                     · intro h; exact ⟨nd, rfl, h⟩
                   rw [hiff]; simp)
              ·
               refine sy_skip ?_
               refine sy_bn ?_
               refine sy_nx ?_
               refine sy_tx' [0, 1] rfl ?_
               refine sy_sq ?_
               refine sp rfl (PE.add rfl rfl (by omega)) rfl ?_
               refine sy_sq ?_
               refine sp rfl (PE.move rfl) rfl ?_
               refine sy_sn ?_
               refine sy_nx ?_
               exact sy_next ⟨k + 1, by omega⟩ (by dsimp only; omega) (by repeat' first | exact Sub.nil | apply Sub.cons | rfl | (simp [lk]; omega)) (fun _ h => h)
             ·
              exact absurd g157 (by simp)
           ·
            try simp only [decide_eq_true_eq, decide_eq_false_iff_not, Bool.and_eq_true, Bool.or_eq_true, Bool.not_eq_true', Int.not_le, Int.not_lt] at hc8
            
            refine sy_exit ?_
            refine sy_tx ?_
            refine sy_tx ?_
            refine sy_bx ?_
            refine sy_nx ?_
            refine sy_seq ?_
            refine sy_tx' [0, 1, 2, 3, 4, 5, 6, 7, 8, 9] rfl ?_
            refine sy_sq ?_
            refine sp rfl (PE.move rfl) rfl ?_
            refine sy_sq ?_
            refine sp rfl (PE.eql rfl rfl) rfl ?_
            refine sy_sq ?_
            refine sp rfl (PE.move rfl) rfl ?_
            refine sy_sq ?_
            refine sy_case (t := 167) rfl (fun g167 => ?_) (fun g167 => ?_)
            ·
             refine spN rfl rfl rfl rfl rfl rfl rfl rfl ?_
             refine sy_sq ?_
             refine spN rfl rfl rfl rfl rfl rfl rfl rfl ?_
             refine sy_sq ?_
             refine sp rfl (PE.pick rfl rfl rfl) rfl ?_
             refine sy_sq ?_
             refine sp rfl (PE.move rfl) rfl ?_
             refine sy_sq ?_
             refine clVG rfl rfl rfl rfl cal16 rfl rfl (c_awake _ _) ?_
             refine sy_sq ?_
             refine sp rfl (PE.pick rfl rfl rfl) rfl ?_
             refine sy_sq ?_
             refine sp rfl (PE.assign rfl) rfl ?_
             refine sy_sn ?_
             refine sy_nx ?_
             refine sy_ret ?_
             exact sy_return (vs := [_]) rfl (.cons (RV.tmp rfl) .nil) rfl ⟨rfl, rfl, rfl⟩ (fun _ h => by repeat first | exact h | replace h := St.tail h | replace h := St.ftail h | replace h := St.drop h)
            ·
             exact absurd g167 (by simp)
end Go.Proofs.Ytaldphhdkmchhaa
