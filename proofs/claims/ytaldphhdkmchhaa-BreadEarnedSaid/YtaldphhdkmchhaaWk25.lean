/- Walks of the functions of the program: what each returns and leaves in memory, under the conditions that its theorem names. -/
import Derived.Test.YtaldphhdkmchhaaTy
import Derived.Test.YtaldphhdkmchhaaMa
import Derived.Test.YtaldphhdkmchhaaWk23
namespace Go.Proofs.Ytaldphhdkmchhaa
set_option linter.unusedSimpArgs false
set_option linter.unusedVariables false
open Go
theorem ap85 : apT Try.prog 85 = some (23, 3, 24) := by kernel_rfl
theorem ar170 : arN Try.prog 170 = some (12, 3) := by kernel_rfl
theorem cal55 : cal Try.prog 55 = true := by kernel_rfl
theorem cal64 : cal Try.prog 64 = true := by kernel_rfl
theorem cal65 : cal Try.prog 65 = true := by kernel_rfl
theorem cal66 : cal Try.prog 66 = true := by kernel_rfl
theorem isl80 : isSl Try.prog 80 = true := by kernel_rfl
theorem sl85 : slE Try.prog 85 = some (23, 3) := by kernel_rfl
theorem zl170 : zeroL Try.prog 170 = some ([.int .i64 0, .int .i64 0, .int .i64 0, .int .i64 0, .int .i64 0, .int .i64 0, .int .i64 0, .int .i64 0, .int .i64 0, .int .i64 0, .int .i64 0, .int .i64 0, .int .i64 0, .int .i64 0, .int .i64 0, .int .i64 0, .int .i64 0, .int .i64 0, .int .i64 0, .int .i64 0, .int .i64 0, .int .i64 0, .int .i64 0, .int .i64 0, .int .i64 0, .int .i64 0, .int .i64 0, .int .i64 0, .int .i64 0, .int .i64 0, .int .i64 0, .int .i64 0, .int .i64 0, .int .i64 0, .int .i64 0, .int .i64 0]) := by kernel_rfl
def glue (ss : List Sta) (p : List Sta × Int) : List Sta × Int := bif decide (p.2 ≠ 0) then ([], p.2) else (ss ++ p.1, 0)
/-- The states after all years, and the error. -/
def playS (t : Twn) : Sta → List (Int × Bool) → List Sta × Int
  | _, [] => ([], 0)
  | s, (r, b) :: l => bif decide ((nxtR t s r b).2 ≠ 0) then ([], (nxtR t s r b).2) else glue [(nxtR t s r b).1] (playS t (nxtR t s r b).1 l)
def playP (t : Twn) (rs : List Int) (bs : List Bool) : List Sta × Int := bif decide (t.check ≠ 0) then ([], t.check) else bif decide (rs.length ≠ bs.length) then ([], 2) else bif decide (12 < rs.length) then ([], 2) else playS t t.now (rs.zip bs)
theorem play_err {t : Twn} : ∀ {l : List (Int × Bool)} {s : Sta}, (playS t s l).2 ≠ 0 → (playS t s l).1 = []
  | [], s, h => rfl
  | (r, b) :: l, s, h => by
    unfold playS at h ⊢
    cases hc : decide ((nxtR t s r b).2 ≠ 0) with
    | true => rfl
    | false =>
      rw [hc] at h
      simp only [cond_false, glue] at h ⊢
      cases hd : decide ((playS t (nxtR t s r b).1 l).2 ≠ 0) with
      | true => rfl
      | false => rw [hd] at h; exact absurd rfl h
theorem glue_nil {t : Twn} (l : List (Int × Bool)) (s : Sta) : glue [] (playS t s l) = playS t s l := by
  unfold glue
  by_cases h : (playS t s l).2 = 0
  · simp [h]; rw [← h]
  · simp only [ne_eq, h, not_false_eq_true, decide_true, cond_true]; rw [← play_err h]
theorem glue_step {t : Twn} {ss : List Sta} {s : Sta} {r : Int} {b : Bool} {l : List (Int × Bool)} (h : (nxtR t s r b).2 = 0) : glue ss (playS t s ((r, b) :: l)) = glue (ss ++ [(nxtR t s r b).1]) (playS t (nxtR t s r b).1 l) := by
  rw [playS, decide_eq_false (by simp [h]), cond_false]
  unfold glue
  cases hd : decide ((playS t (nxtR t s r b).1 l).2 ≠ 0) with
  | true => simp only [cond_true]; rw [hd]; rfl
  | false => simp
theorem glue_bad {t : Twn} {ss : List Sta} {s : Sta} {r : Int} {b : Bool} {l : List (Int × Bool)} (h : (nxtR t s r b).2 ≠ 0) : glue ss (playS t s ((r, b) :: l)) = ([], (nxtR t s r b).2) := by
  rw [playS, decide_eq_true h, cond_true]
  unfold glue
  rw [decide_eq_true h]; rfl
theorem zip_drop {rs : List Int} {bs : List Bool} {k : Nat} {r : Int} {b : Bool} (hr : rs[k]? = some r) (hb : bs[k]? = some b) : (rs.zip bs).drop k = (r, b) :: (rs.zip bs).drop (k + 1) := drop_get (by rw [List.getElem?_zip_eq_some]; exact ⟨hr, hb⟩)
theorem zip_end {rs : List Int} {bs : List Bool} {k : Nat} (h : rs.length ≤ k) : (rs.zip bs).drop k = [] := List.drop_eq_nil_of_le (by rw [List.length_zip]; omega)
theorem play_hit {t : Twn} {rs : List Int} {bs : List Bool} (h0 : t.check = 0) (h1 : rs.length = bs.length) (h2 : rs.length ≤ 12) : playP t rs bs = playS t t.now (rs.zip bs) := by
  unfold playP; rw [decide_eq_false (show ¬ 12 < rs.length by omega)]; simp [h0, h1]
theorem play_many {t : Twn} {rs : List Int} {bs : List Bool} (h0 : t.check = 0) (h1 : rs.length ≠ bs.length ∨ 12 < rs.length) : playP t rs bs = ([], 2) := by
  unfold playP
  by_cases h : rs.length = bs.length
  · rw [decide_eq_true (show 12 < rs.length by omega)]; simp [h0]
  · simp [h0, h]
theorem sr_three (l : List Sta) : ∀ q ∈ srows l, q.length = 3 := fun q hq => by obtain ⟨x, _, rfl⟩ := List.mem_map.1 hq; rfl
theorem sr_len (l : List Sta) : (srows l).flatten.length = l.length * 3 := by rw [flat_len (sr_three l)]; simp [srows]
theorem sr_snoc (l : List Sta) (s : Sta) : (srows (l ++ [s])).flatten = (srows l).flatten ++ srow s := by simp [srows]
theorem spl_played {ss : List Sta} {s : Sta} {k : Nat} (hk : ss.length = k) (h : k < 12) : spl ((srows ss).flatten ++ List.replicate (36 - 3 * k) (Value.int .i64 0)) (0 + (k : Int).toNat * 3) (srow s) = (srows (ss ++ [s])).flatten ++ List.replicate (36 - 3 * (k + 1)) (.int .i64 0) := by
  have e1 : 0 + (k : Int).toNat * 3 = (srows ss).flatten.length := by rw [sr_len, hk]; simp
  unfold spl
  rw [e1, List.take_left, sr_snoc, ← List.drop_drop, List.drop_left, List.drop_replicate]
  rw [show 36 - 3 * k - (srow s).length = 36 - 3 * (k + 1) from by show 36 - 3 * k - 3 = _; omega]
theorem St.stas {b e : Nat} {l : List Sta} {junk : List Value} {H : Heap} {R : Facts} {w : World} (h : St ((b, cel e ((srows l).flatten ++ junk)) :: H) R w) : St H (RowsA (some ⟨b, 0, none⟩) 3 (srows l) :: R) w := St.rows h (sr_three l)
theorem St.norows3 {sz : Nat} {H : Heap} {R : Facts} {w : World} (h : St H R w) : St H (RowsA none sz [] :: R) w := St.also h (fun _ _ i row hi => by simp at hi)
theorem sr_one (l : List Sta) : (srows l).flatten.all (·.oneCell') = true := List.all_eq_true.2 fun v hv => by
  obtain ⟨q, hq, h⟩ := List.mem_flatten.1 hv
  obtain ⟨x, _, rfl⟩ := List.mem_map.1 hq
  simp only [srow, List.mem_cons, List.not_mem_nil, or_false] at h
  rcases h with rfl | rfl | rfl <;> rfl

theorem c_rPlay (t : Twn) (hck : t.check = 0) (rs : List Int) (bs : List Bool) (a a2 : Option Addr) (c c2 : Nat) (hl1 : rs.length ≤ 9223372036854775807) (hl2 : bs.length ≤ 9223372036854775807) (ba oa ca : Nat) (H : Heap) (R : Facts) [hR : MemRows (some ⟨ba, oa, none⟩) 2 (rrows t.rats) R] [hR1 : MemRows a 1 (irows rs) R] [hR2 : MemRows a2 1 (brows bs) R] :
    Fn Try.prog 51 [t.v (t.sl (some ⟨ba, oa, none⟩) ca), .slice a rs.length c, .slice a2 bs.length c2] H R (fun v H' R' => ∃ a' c', v = .tuple #[.slice a' (playP t rs bs).1.length c', .int .i64 (playP t rs bs).2] ∧ H' = H ∧ R' = RowsA a' 3 (srows (playP t rs bs).1) :: R) := by
  have ht := (ok_of_check hck).1
  refine fn_of Try.func51 rfl Try.ntmps51 rfl ?_
  refine sy_seq ?_
  refine sy_tx' [0, 1, 2] rfl ?_
  refine sy_sq ?_
  refine bx rfl rfl rfl (fun b3 => ?_)
  refine sy_sq ?_
  refine sp rfl (PE.assign rfl) rfl ?_
  refine sy_sq ?_
  refine sp rfl (PE.assign rfl) rfl ?_
  refine sy_sn ?_
  refine sy_nx ?_
  refine sy_seq ?_
  refine sy_seq ?_
  refine sy_tx' [0, 1, 2, 3, 4, 5, 6, 7, 8, 9] rfl ?_
  refine sy_sq ?_
  refine sp rfl (PE.move rfl) rfl ?_
  refine sy_sq ?_
  refine sp rfl (PE.lenSl isl42 rfl) rfl ?_
  refine sy_sq ?_
  refine sp rfl (PE.move rfl) rfl ?_
  refine sy_sq ?_
  refine sp rfl (PE.lenSl isl80 rfl) rfl ?_
  refine sy_sq ?_
  refine sp rfl (PE.neq rfl rfl) rfl ?_
  refine sy_sq ?_
  refine sp rfl (PE.move rfl) rfl ?_
  refine sy_sq ?_
  refine sy_case (t := 18) rfl (fun g18 => ?_) (fun g18 => ?_)
  ·
   try simp only [decide_eq_true_eq, decide_eq_false_iff_not, Bool.and_eq_true, Bool.or_eq_true, Bool.not_eq_true', Int.not_le, Int.not_lt] at g18
   have e := play_many hck (rs := rs) (bs := bs) (.inl (by omega))
   refine spN rfl rfl rfl rfl rfl rfl rfl rfl ?_
   refine sy_sq ?_
   refine spN rfl rfl rfl rfl rfl rfl rfl rfl ?_
   refine sy_sq ?_
   refine spN rfl rfl rfl rfl rfl rfl rfl rfl ?_
   refine sy_sq ?_
   refine sp rfl (PE.pick rfl rfl rfl) rfl ?_
   refine sy_sn ?_
   refine sy_nx ?_
   refine sy_condT rfl ?_
   refine sy_seq ?_
   refine sy_tx' [0, 1] rfl ?_
   refine sy_sq ?_
   refine sp rfl (PE.assign rfl) rfl ?_
   refine sy_sq ?_
   refine sp rfl (PE.assign rfl) rfl ?_
   refine sy_sn ?_
   refine sy_nx ?_
   refine sy_ret ?_
   refine sy_tr ?_
   first
     | (rw [e2]; exact sy_return (vs := [_, _]) rfl (.cons (RV.tmp rfl) (.cons (RV.tmp rfl) .nil)) rfl ⟨a', c', rfl, rfl, rfl⟩ (fun w h => (h.del b9).del b3))
     | (rw [e2]; exact sy_return (vs := [_, _]) rfl (.cons (RV.tmp rfl) (.cons (RV.tmp rfl) .nil)) rfl ⟨none, 0, rfl, rfl, rfl⟩ (fun w h => St.norows3 ((((h.del b11).del b9).del b3).drop)))
     | (rw [e]; exact sy_return (vs := [_, _]) rfl (.cons (RV.tmp rfl) (.cons (RV.tmp rfl) .nil)) rfl ⟨none, 0, rfl, rfl, rfl⟩ (fun w h => St.norows3 (h.del b3)))
  ·
   try simp only [decide_eq_true_eq, decide_eq_false_iff_not, Bool.and_eq_true, Bool.or_eq_true, Bool.not_eq_true', Int.not_le, Int.not_lt] at g18
   
   refine spG rfl rfl rfl rfl (PE.move rfl) rfl ?_
   refine sy_sq ?_
   refine spG rfl rfl rfl rfl (PE.lenSl isl42 rfl) rfl ?_
   refine sy_sq ?_
   refine spG rfl rfl rfl rfl (PE.gtr rfl rfl) rfl ?_
   refine sy_sq ?_
   refine sp rfl (PE.pick rfl rfl rfl) rfl ?_
   refine sy_sn ?_
   refine sy_nx ?_
   refine sy_cond rfl (fun hc0 => ?_) (fun hc0 => ?_)
   ·
    try simp only [decide_eq_true_eq, decide_eq_false_iff_not, Bool.and_eq_true, Bool.or_eq_true, Bool.not_eq_true', Int.not_le, Int.not_lt] at hc0
    have e := play_many hck (rs := rs) (bs := bs) (.inr (by omega))
    refine sy_seq ?_
    refine sy_tx' [0, 1] rfl ?_
    refine sy_sq ?_
    refine sp rfl (PE.assign rfl) rfl ?_
    refine sy_sq ?_
    refine sp rfl (PE.assign rfl) rfl ?_
    refine sy_sn ?_
    refine sy_nx ?_
    refine sy_ret ?_
    refine sy_tr ?_
    first
      | (rw [e2]; exact sy_return (vs := [_, _]) rfl (.cons (RV.tmp rfl) (.cons (RV.tmp rfl) .nil)) rfl ⟨a', c', rfl, rfl, rfl⟩ (fun w h => (h.del b9).del b3))
      | (rw [e2]; exact sy_return (vs := [_, _]) rfl (.cons (RV.tmp rfl) (.cons (RV.tmp rfl) .nil)) rfl ⟨none, 0, rfl, rfl, rfl⟩ (fun w h => St.norows3 ((((h.del b11).del b9).del b3).drop)))
      | (rw [e]; exact sy_return (vs := [_, _]) rfl (.cons (RV.tmp rfl) (.cons (RV.tmp rfl) .nil)) rfl ⟨none, 0, rfl, rfl, rfl⟩ (fun w h => St.norows3 (h.del b3)))
   ·
    try simp only [decide_eq_true_eq, decide_eq_false_iff_not, Bool.and_eq_true, Bool.or_eq_true, Bool.not_eq_true', Int.not_le, Int.not_lt] at hc0
    have e := play_hit hck (rs := rs) (bs := bs) (by omega) (by omega)
    refine sy_skip ?_
    refine sy_nx ?_
    refine sy_seq ?_
    refine sy_tx' [0] rfl ?_
    refine sy_sq ?_
    refine sp rfl (PE.assign rfl) rfl ?_
    refine sy_sn ?_
    refine sy_nx ?_
    refine sy_seq ?_
    refine sy_tx' [0, 1, 2, 3] rfl ?_
    refine sy_sq ?_
    refine sp rfl (PE.fieldAddr fo37_0 rfl) rfl ?_
    refine sy_sq ?_
    refine spL rfl rfl (lhA [_, _, _] ag34 rfl rfl rfl) rfl ?_
    refine sy_sq ?_
    refine alc rfl zl34 rfl (fun b9 => ?_)
    refine sy_sq ?_
    refine sto rfl rfl rfl cn34 rfl rfl rfl rfl ?_
    refine sy_sn ?_
    refine sy_nx ?_
    refine sy_seq ?_
    refine sy_seq ?_
    refine sy_tx' [0] rfl ?_
    refine sy_sq ?_
    refine sp rfl (PE.assign rfl) rfl ?_
    refine sy_sn ?_
    refine sy_nx ?_
    refine sy_block ?_
    refine sy_loop (ι := (x : {x : Nat × List Sta × Sta // x.1 ≤ rs.length ∧ x.2.1.length = x.1 ∧ x.2.2.right t = true ∧ playS t t.now (rs.zip bs) = glue x.2.1 (playS t x.2.2 ((rs.zip bs).drop x.1))}) × OSl 34 3 (srows x.1.2.1)) (fun x => ⟨[(1, .slice a rs.length c), (2, .slice a2 bs.length c2), (3, .pointer (some ⟨b3, 0, none⟩)), (8, x.2.fs), (9, .pointer (some ⟨b9, 0, none⟩)), (10, .int .i64 x.1.1.1)], x.2.G ++ (b9, cel 34 [.int .i64 x.1.1.2.2.stock, .int .i64 x.1.1.2.2.short, .int .i64 x.1.1.2.2.dry]) :: (b3, cel 37 (twl t (t.sl (some ⟨ba, oa, none⟩) ca))) :: H, R⟩) (fun x => rs.length - x.1.1.1) ⟨⟨(0, [], t.now), by omega, rfl, ht.now, (glue_nil _ _).symm⟩, OSl.nil _ _⟩ ?_ (fun x => ?_)
    ·
     exact sy_at (by repeat' first | exact Sub.nil | apply Sub.cons | rfl | (simp [lk]; omega)) (fun _ h => h)
    ·
     obtain ⟨⟨⟨k, ss, s⟩, hk, hsl, hsr, hpl⟩, o'⟩ := x
     dsimp only at hk hsl hsr hpl o' ⊢
     refine sy_seq ?_
     refine sy_seq ?_
     refine sy_tx' [0, 1, 2, 3] rfl ?_
     refine sy_sq ?_
     refine sp rfl (PE.move rfl) rfl ?_
     refine sy_sq ?_
     refine sp rfl (PE.move rfl) rfl ?_
     refine sy_sq ?_
     refine sp rfl (PE.lenSl isl42 rfl) rfl ?_
     refine sy_sq ?_
     refine sp rfl (PE.lss rfl rfl) rfl ?_
     refine sy_sn ?_
     refine sy_nx ?_
     refine sy_cond rfl (fun hc1 => ?_) (fun hc1 => ?_)
     ·
      try simp only [decide_eq_true_eq, decide_eq_false_iff_not, Bool.and_eq_true, Bool.or_eq_true, Bool.not_eq_true', Int.not_le, Int.not_lt] at hc1
      obtain ⟨r, hr⟩ : ∃ r, rs[k]? = some r := ⟨_, List.getElem?_eq_getElem (by omega)⟩
      obtain ⟨b, hb⟩ : ∃ b, bs[k]? = some b := ⟨_, List.getElem?_eq_getElem (by omega)⟩
      rw [zip_drop hr hb] at hpl
      refine sy_addr (a := a) (sz := 1) (rows := irows rs) (by intro h0; simp [irows] at h0; simp [h0] at hr) (fun br or_ he => ?_)
      subst he
      refine sy_addr (a := a2) (sz := 1) (rows := brows bs) (by intro h0; simp [brows] at h0; simp [h0] at hb) (fun bb ob he => ?_)
      subst he
      refine sy_skip ?_
      refine sy_nx ?_
      refine sy_seq ?_
      refine sy_block ?_
      refine sy_seq ?_
      refine sy_draw [0, 0, 0, 0, 12, 28, 0, 0, 192, 448, 1023, 2047, 4095, 4095, 0, 24575, 65535] (.ld 0 (.ld 1 (.tk 2 (.tk 3 (.tk 4 (.ld 5 (.tk 6 (.tk 7 (.tk 8 (.ld 9 (.any (.alt 10 (.tk 11 (.tk 12 (.tk 13 (.big 14 (.big 15 (.tk 16 .done)))))) (.alt 14 (.big 10 (.tk 11 (.tk 12 (.tk 13 (.big 15 (.tk 16 .done)))))) .stop))))))))))))) mixed (by kernel_rfl) ?_
      refine ld rfl rfl (lhA [_, _, _, _, _, _, _, _, _, _, _] ag37 rfl rfl rfl) rfl ?_
      refine ld rfl rfl (lhA [_, _, _] ag34 rfl rfl rfl) rfl ?_
      refine tk rfl (PE.move rfl) rfl ?_
      refine tk rfl (PE.move rfl) rfl ?_
      refine tk rfl (PE.indexAddr el42 rfl rfl (by omega) (by omega)) rfl ?_
      refine ld rfl rfl (lf0 (x := .int .i64 r) sc3 (by simp [irows, hr]; rfl) rfl) rfl ?_
      refine tk rfl (PE.move rfl) rfl ?_
      refine tk rfl (PE.move rfl) rfl ?_
      refine tk rfl (PE.indexAddr el80 rfl rfl (by omega) (by omega)) rfl ?_
      refine ld rfl rfl (lf0 (x := .bool b) sc4 (br_get hb) rfl) rfl ?_
      refine sy_any ?_
      refine sy_alt ?_ ?_
      ·
       refine clV rfl cal64 rfl rfl (c_rNext t ht s hsr r b ba oa ca _ _) ?_
       refine bg (fun w hs => ⟨trivial, trivial, trivial, trivial, trivial⟩) ?_
       refine tk rfl (PE.move rfl) rfl ?_
       refine tk rfl (PE.extract rfl rfl) rfl ?_
       refine tk rfl (PE.extract rfl rfl) rfl ?_
       refine sy_bg ?_
       refine alc rfl zl34 rfl (fun b11 => ?_)
       refine bg (fun w hs => trivial) ?_
       refine sy_bg ?_
       refine sto rfl rfl rfl cn34 rfl rfl rfl rfl ?_
       refine bg (fun w hs => trivial) ?_
       refine tk rfl (PE.assign rfl) rfl ?_
       refine sy_dn ?_
       refine sy_nx ?_
       refine sy_seq ?_
       refine sy_seq ?_
       refine sy_tx' [0, 1] rfl ?_
       refine sy_sq ?_
       refine sp rfl (PE.move rfl) rfl ?_
       refine sy_sq ?_
       refine sp rfl (PE.neq rfl rfl) rfl ?_
       refine sy_sn ?_
       refine sy_nx ?_
       refine sy_cond rfl (fun hc2 => ?_) (fun hc2 => ?_)
       ·
        try simp only [decide_eq_true_eq, decide_eq_false_iff_not, Bool.and_eq_true, Bool.or_eq_true, Bool.not_eq_true', Int.not_le, Int.not_lt] at hc2
        have e2 : playP t rs bs = ([], (nxtR t s r b).2) := by rw [e, hpl, glue_bad hc2]
        refine sy_seq ?_
        refine sy_tx' [0, 1, 2] rfl ?_
        refine sy_sq ?_
        refine sp rfl (PE.move rfl) rfl ?_
        refine sy_sq ?_
        refine sp rfl (PE.assign rfl) rfl ?_
        refine sy_sq ?_
        refine sp rfl (PE.assign rfl) rfl ?_
        refine sy_sn ?_
        refine sy_nx ?_
        refine sy_ret ?_
        refine sy_tr ?_
        refine sy_br ?_
        refine sy_tr ?_
        refine sy_tr ?_
        refine sy_br ?_
        refine sy_tr ?_
        first
          | (rw [e2]; exact sy_return (vs := [_, _]) rfl (.cons (RV.tmp rfl) (.cons (RV.tmp rfl) .nil)) rfl ⟨a', c', rfl, rfl, rfl⟩ (fun w h => (h.del b9).del b3))
          | (rw [e2]; exact sy_return (vs := [_, _]) rfl (.cons (RV.tmp rfl) (.cons (RV.tmp rfl) .nil)) rfl ⟨none, 0, rfl, rfl, rfl⟩ (fun w h => St.norows3 ((((h.del b11).del b9).del b3).drop)))
          | (rw [e]; exact sy_return (vs := [_, _]) rfl (.cons (RV.tmp rfl) (.cons (RV.tmp rfl) .nil)) rfl ⟨none, 0, rfl, rfl, rfl⟩ (fun w h => St.norows3 (h.del b3)))
       ·
        try simp only [decide_eq_true_eq, decide_eq_false_iff_not, Bool.and_eq_true, Bool.or_eq_true, Bool.not_eq_true', Int.not_le, Int.not_lt] at hc2
        
        refine sy_skip ?_
        refine sy_nx ?_
        refine sy_seq ?_
        refine sy_tx' [0, 1] rfl ?_
        refine sy_sq ?_
        refine spL rfl rfl (lhA [_, _, _] ag34 rfl rfl rfl) rfl ?_
        refine sy_sq ?_
        refine sto rfl rfl rfl cn34 rfl rfl rfl rfl ?_
        refine sy_sn ?_
        refine sy_nx ?_
        refine sy_tx' [0, 1, 2, 3, 4] rfl ?_
        refine sy_sq ?_
        refine sp rfl (PE.move rfl) rfl ?_
        refine sy_sq ?_
        refine spL rfl rfl (lhA [_, _, _] ag34 rfl rfl rfl) rfl ?_
        refine sy_sq ?_
        refine bsl (out := [_, _, _]) rfl sl82 zl34 rfl rfl rfl rfl rfl rfl (fun b51 => ?_)
        refine sy_sq ?_
        refine apO (o') rfl ap82 rfl rfl (rowsH (row := srow (nxtR t s r b).1) rfl) rfl rfl ((by simp only [srows, List.length_map, List.length_singleton]; omega)) rfl (fun o52 => ?_)
        refine sy_sq ?_
        refine sp rfl (PE.assign rfl) rfl ?_
        refine sy_sn ?_
        refine sy_bn ?_
        refine sy_nx ?_
        refine sy_tx' [0, 1, 2] rfl ?_
        refine sy_sq ?_
        refine sp rfl (PE.move rfl) rfl ?_
        refine sy_sq ?_
        refine sp rfl (PE.add rfl rfl (by omega)) rfl ?_
        refine sy_sq ?_
        refine sp rfl (PE.assign rfl) rfl ?_
        refine sy_sn ?_
        refine sy_nx ?_
        exact sy_next ⟨⟨(k + 1, ss ++ [(nxtR t s r b).1], (nxtR t s r b).1), by omega, by simp [hsl], nxt_right ht hsr (Decidable.not_not.1 hc2), by rw [hpl, glue_step (Decidable.not_not.1 hc2)]⟩, o52.cast (by simp [srows])⟩ (by dsimp only; omega) (by repeat' first | exact Sub.nil | apply Sub.cons | rfl | (simp [lk]; omega)) (fun w h => (h.del b51).del b11)
      refine sy_alt ?_ ?_
      ·
       refine alc rfl zl34 rfl (fun b11 => ?_)
       refine bg (fun w hs => ⟨(lf0 (x := .bool b) sc4 (br_get hb) rfl) w hs, (lf0 (x := .int .i64 r) sc3 (by simp [irows, hr]; rfl) rfl) w hs, (lhA [_, _, _] ag34 rfl rfl rfl) w hs, (lhA [_, _, _, _, _, _, _, _, _, _, _] ag37 rfl rfl rfl) w hs, trivial⟩) ?_
       refine sy_bg ?_
       refine clV rfl cal64 rfl rfl (c_rNext t ht s hsr r b ba oa ca _ _) ?_
       refine bg (fun w hs => ⟨trivial, trivial, trivial, trivial, trivial⟩) ?_
       refine tk rfl (PE.move rfl) rfl ?_
       refine tk rfl (PE.extract rfl rfl) rfl ?_
       refine tk rfl (PE.extract rfl rfl) rfl ?_
       refine sy_bg ?_
       refine sto rfl rfl rfl cn34 rfl rfl rfl rfl ?_
       refine bg (fun w hs => trivial) ?_
       refine tk rfl (PE.assign rfl) rfl ?_
       refine sy_dn ?_
       refine sy_nx ?_
       refine sy_seq ?_
       refine sy_seq ?_
       refine sy_tx' [0, 1] rfl ?_
       refine sy_sq ?_
       refine sp rfl (PE.move rfl) rfl ?_
       refine sy_sq ?_
       refine sp rfl (PE.neq rfl rfl) rfl ?_
       refine sy_sn ?_
       refine sy_nx ?_
       refine sy_cond rfl (fun hc2 => ?_) (fun hc2 => ?_)
       ·
        try simp only [decide_eq_true_eq, decide_eq_false_iff_not, Bool.and_eq_true, Bool.or_eq_true, Bool.not_eq_true', Int.not_le, Int.not_lt] at hc2
        have e2 : playP t rs bs = ([], (nxtR t s r b).2) := by rw [e, hpl, glue_bad hc2]
        refine sy_seq ?_
        refine sy_tx' [0, 1, 2] rfl ?_
        refine sy_sq ?_
        refine sp rfl (PE.move rfl) rfl ?_
        refine sy_sq ?_
        refine sp rfl (PE.assign rfl) rfl ?_
        refine sy_sq ?_
        refine sp rfl (PE.assign rfl) rfl ?_
        refine sy_sn ?_
        refine sy_nx ?_
        refine sy_ret ?_
        refine sy_tr ?_
        refine sy_br ?_
        refine sy_tr ?_
        refine sy_tr ?_
        refine sy_br ?_
        refine sy_tr ?_
        first
          | (rw [e2]; exact sy_return (vs := [_, _]) rfl (.cons (RV.tmp rfl) (.cons (RV.tmp rfl) .nil)) rfl ⟨a', c', rfl, rfl, rfl⟩ (fun w h => (h.del b9).del b3))
          | (rw [e2]; exact sy_return (vs := [_, _]) rfl (.cons (RV.tmp rfl) (.cons (RV.tmp rfl) .nil)) rfl ⟨none, 0, rfl, rfl, rfl⟩ (fun w h => St.norows3 ((((h.del b11).del b9).del b3).drop)))
          | (rw [e]; exact sy_return (vs := [_, _]) rfl (.cons (RV.tmp rfl) (.cons (RV.tmp rfl) .nil)) rfl ⟨none, 0, rfl, rfl, rfl⟩ (fun w h => St.norows3 (h.del b3)))
       ·
        try simp only [decide_eq_true_eq, decide_eq_false_iff_not, Bool.and_eq_true, Bool.or_eq_true, Bool.not_eq_true', Int.not_le, Int.not_lt] at hc2
        
        refine sy_skip ?_
        refine sy_nx ?_
        refine sy_seq ?_
        refine sy_tx' [0, 1] rfl ?_
        refine sy_sq ?_
        refine spL rfl rfl (lhA [_, _, _] ag34 rfl rfl rfl) rfl ?_
        refine sy_sq ?_
        refine sto rfl rfl rfl cn34 rfl rfl rfl rfl ?_
        refine sy_sn ?_
        refine sy_nx ?_
        refine sy_tx' [0, 1, 2, 3, 4] rfl ?_
        refine sy_sq ?_
        refine sp rfl (PE.move rfl) rfl ?_
        refine sy_sq ?_
        refine spL rfl rfl (lhA [_, _, _] ag34 rfl rfl rfl) rfl ?_
        refine sy_sq ?_
        refine bsl (out := [_, _, _]) rfl sl82 zl34 rfl rfl rfl rfl rfl rfl (fun b51 => ?_)
        refine sy_sq ?_
        refine apO (o') rfl ap82 rfl rfl (rowsH (row := srow (nxtR t s r b).1) rfl) rfl rfl ((by simp only [srows, List.length_map, List.length_singleton]; omega)) rfl (fun o52 => ?_)
        refine sy_sq ?_
        refine sp rfl (PE.assign rfl) rfl ?_
        refine sy_sn ?_
        refine sy_bn ?_
        refine sy_nx ?_
        refine sy_tx' [0, 1, 2] rfl ?_
        refine sy_sq ?_
        refine sp rfl (PE.move rfl) rfl ?_
        refine sy_sq ?_
        refine sp rfl (PE.add rfl rfl (by omega)) rfl ?_
        refine sy_sq ?_
        refine sp rfl (PE.assign rfl) rfl ?_
        refine sy_sn ?_
        refine sy_nx ?_
        exact sy_next ⟨⟨(k + 1, ss ++ [(nxtR t s r b).1], (nxtR t s r b).1), by omega, by simp [hsl], nxt_right ht hsr (Decidable.not_not.1 hc2), by rw [hpl, glue_step (Decidable.not_not.1 hc2)]⟩, o52.cast (by simp [srows])⟩ (by dsimp only; omega) (by repeat' first | exact Sub.nil | apply Sub.cons | rfl | (simp [lk]; omega)) (fun w h => (h.del b51).del b11)
      exact sy_stop
     ·
      try simp only [decide_eq_true_eq, decide_eq_false_iff_not, Bool.and_eq_true, Bool.or_eq_true, Bool.not_eq_true', Int.not_le, Int.not_lt] at hc1
      obtain rfl : k = rs.length := by omega
      rw [zip_end (Nat.le_refl _)] at hpl
      have e2 : playP t rs bs = (ss, 0) := by rw [e, hpl]; simp [glue, playS]
      obtain ⟨a', c', ho, hf⟩ := o'.freeze
      rw [ho]
      refine Sy.heap (fun w h => hf h) ?_
      rw [show (srows ss).length = ss.length from List.length_map _]
      refine sy_exit ?_
      refine sy_tx ?_
      refine sy_tx ?_
      refine sy_bx ?_
      refine sy_nx ?_
      refine sy_seq ?_
      refine sy_tx' [0, 1, 2] rfl ?_
      refine sy_sq ?_
      refine sp rfl (PE.move rfl) rfl ?_
      refine sy_sq ?_
      refine sp rfl (PE.assign rfl) rfl ?_
      refine sy_sq ?_
      refine sp rfl (PE.assign rfl) rfl ?_
      refine sy_sn ?_
      refine sy_nx ?_
      refine sy_ret ?_
      first
        | (rw [e2]; exact sy_return (vs := [_, _]) rfl (.cons (RV.tmp rfl) (.cons (RV.tmp rfl) .nil)) rfl ⟨a', c', rfl, rfl, rfl⟩ (fun w h => (h.del b9).del b3))
        | (rw [e2]; exact sy_return (vs := [_, _]) rfl (.cons (RV.tmp rfl) (.cons (RV.tmp rfl) .nil)) rfl ⟨none, 0, rfl, rfl, rfl⟩ (fun w h => St.norows3 ((((h.del b11).del b9).del b3).drop)))
        | (rw [e]; exact sy_return (vs := [_, _]) rfl (.cons (RV.tmp rfl) (.cons (RV.tmp rfl) .nil)) rfl ⟨none, 0, rfl, rfl, rfl⟩ (fun w h => St.norows3 (h.del b3)))

theorem c_Play (t : Twn) (hl : t.rats.length ≤ 9223372036854775807) (rs : List Int) (bs : List Bool) (a a2 : Option Addr) (c c2 : Nat) (hl1 : rs.length ≤ 9223372036854775807) (hl2 : bs.length ≤ 9223372036854775807) (ba oa ca : Nat) (H : Heap) (R : Facts) [hR : MemRows (some ⟨ba, oa, none⟩) 2 (rrows t.rats) R] [hR1 : MemRows a 1 (irows rs) R] [hR2 : MemRows a2 1 (brows bs) R] :
    Fn Try.prog 52 [t.v (t.sl (some ⟨ba, oa, none⟩) ca), .slice a rs.length c, .slice a2 bs.length c2] H R (fun v H' R' => ∃ a' c', v = .tuple #[.slice a' (playP t rs bs).1.length c', .int .i64 (playP t rs bs).2] ∧ H' = H ∧ R' = RowsA a' 3 (srows (playP t rs bs).1) :: R) := by
  refine fn_of Try.func52 rfl Try.ntmps52 rfl ?_
  refine sy_seq ?_
  refine sy_tx' [0, 1, 2] rfl ?_
  refine sy_sq ?_
  refine bx rfl rfl rfl (fun b3 => ?_)
  refine sy_sq ?_
  refine sp rfl (PE.assign rfl) rfl ?_
  refine sy_sq ?_
  refine sp rfl (PE.assign rfl) rfl ?_
  refine sy_sn ?_
  refine sy_nx ?_
  refine sy_seq ?_
  refine sy_tx' [0, 1, 2, 3, 4, 5, 6] rfl ?_
  refine sy_sq ?_
  refine spL rfl rfl (lhA [_, _, _, _, _, _, _, _, _, _, _] ag26 rfl rfl rfl) rfl ?_
  refine sy_sq ?_
  refine cl rfl cal89 rfl rfl (c_opened t hl ba oa ca _ _) ?_
  rintro _ _ _ (⟨hck, rfl, rfl, rfl⟩ | ⟨hck, bw, m, bt, rfl, rfl, rfl⟩)
  ·
   refine sy_sq ?_
   refine sp rfl (PE.move rfl) rfl ?_
   refine sy_sq ?_
   refine sp rfl (PE.extract rfl rfl) rfl ?_
   refine sy_sq ?_
   refine sp rfl (PE.extract rfl rfl) rfl ?_
   refine sy_sq ?_
   refine sp rfl (PE.assign rfl) rfl ?_
   refine sy_sq ?_
   refine sp rfl (PE.assign rfl) rfl ?_
   refine sy_sn ?_
   refine sy_nx ?_
   refine sy_seq ?_
   refine sy_block ?_
   refine sy_seq ?_
   refine sy_tx' [0, 1, 2] rfl ?_
   refine sy_sq ?_
   refine sp rfl (PE.move rfl) rfl ?_
   refine sy_sq ?_
   refine sp rfl (PE.neq rfl rfl) rfl ?_
   refine sy_sq ?_
   refine sp rfl (PE.assign rfl) rfl ?_
   refine sy_sn ?_
   refine sy_nx ?_
   refine sy_condT (congrArg (fun b => some (Value.bool b)) (decide_eq_true hck)) ?_
   refine sy_seq ?_
   refine sy_tx' [0, 1, 2] rfl ?_
   refine sy_sq ?_
   have e : playP t rs bs = ([], t.check) := by simp [playP, hck]
   refine sp rfl (PE.move rfl) rfl ?_
   refine sy_sq ?_
   refine sp rfl (PE.assign rfl) rfl ?_
   refine sy_sq ?_
   refine sp rfl (PE.assign rfl) rfl ?_
   refine sy_sn ?_
   refine sy_nx ?_
   refine sy_ret ?_
   refine sy_br ?_
   refine sy_tr ?_
   rw [e]
   exact sy_return (vs := [_, _]) rfl (.cons (RV.tmp rfl) (.cons (RV.tmp rfl) .nil)) rfl ⟨none, 0, rfl, rfl, rfl⟩ (fun w h => St.norows3 (h.del b3))
  ·
   refine sy_sq ?_
   refine sp rfl (PE.move rfl) rfl ?_
   refine sy_sq ?_
   refine sp rfl (PE.extract rfl rfl) rfl ?_
   refine sy_sq ?_
   refine sp rfl (PE.extract rfl rfl) rfl ?_
   refine sy_sq ?_
   refine sp rfl (PE.assign rfl) rfl ?_
   refine sy_sq ?_
   refine sp rfl (PE.assign rfl) rfl ?_
   refine sy_sn ?_
   refine sy_nx ?_
   refine sy_seq ?_
   refine sy_block ?_
   refine sy_seq ?_
   refine sy_tx' [0, 1, 2] rfl ?_
   refine sy_sq ?_
   refine sp rfl (PE.move rfl) rfl ?_
   refine sy_sq ?_
   refine sp rfl (PE.neq rfl rfl) rfl ?_
   refine sy_sq ?_
   refine sp rfl (PE.assign rfl) rfl ?_
   refine sy_sn ?_
   refine sy_nx ?_
   refine sy_condF (rfl) ?_
   refine sy_seq ?_
   refine sy_tx' [0, 1, 2, 3, 4, 5, 6, 7, 8, 9, 10] rfl ?_
   refine sy_sq ?_
   have hok := (ok_of_check hck).1
   refine sp rfl (PE.move rfl) rfl ?_
   refine sy_sq ?_
   refine sp rfl (PE.lenSl isl42 rfl) rfl ?_
   refine sy_sq ?_
   refine sp rfl (PE.move rfl) rfl ?_
   refine sy_sq ?_
   refine sp rfl (PE.lenSl isl80 rfl) rfl ?_
   refine sy_sq ?_
   refine sp rfl (PE.neq rfl rfl) rfl ?_
   refine sy_sq ?_
   refine sp rfl (PE.move rfl) rfl ?_
   refine sy_sq ?_
   refine sy_case (t := 30) rfl (fun g30 => ?_) (fun g30 => ?_)
   ·
    try simp only [decide_eq_true_eq, decide_eq_false_iff_not, Bool.and_eq_true, Bool.or_eq_true, Bool.not_eq_true', Int.not_le, Int.not_lt] at g30
    have e := play_many hck (rs := rs) (bs := bs) (.inl (by omega))
    refine spN rfl rfl rfl rfl rfl rfl rfl rfl ?_
    refine sy_sq ?_
    refine spN rfl rfl rfl rfl rfl rfl rfl rfl ?_
    refine sy_sq ?_
    refine spN rfl rfl rfl rfl rfl rfl rfl rfl ?_
    refine sy_sq ?_
    refine sp rfl (PE.pick rfl rfl rfl) rfl ?_
    refine sy_sq ?_
    refine sp rfl (PE.assign rfl) rfl ?_
    refine sy_sn ?_
    refine sy_nx ?_
    refine sy_condT rfl ?_
    refine sy_seq ?_
    refine sy_tx' [0, 1] rfl ?_
    refine sy_sq ?_
    refine sp rfl (PE.assign rfl) rfl ?_
    refine sy_sq ?_
    refine sp rfl (PE.assign rfl) rfl ?_
    refine sy_sn ?_
    refine sy_nx ?_
    refine sy_ret ?_
    refine sy_br ?_
    refine sy_tr ?_
    first
      | (rw [e2]; exact sy_return (vs := [_, _]) rfl (.cons (RV.tmp rfl) (.cons (RV.tmp rfl) .nil)) rfl ⟨some ⟨b64, 0, none⟩, ss.length, rfl, rfl, rfl⟩ (fun w h => ((((h.del b11).del b10).del bw).del m).del b3 |> fun h => St.sub h))
      | (rw [e2]; exact sy_return (vs := [_, _]) rfl (.cons (RV.tmp rfl) (.cons (RV.tmp rfl) .nil)) rfl ⟨none, 0, rfl, rfl, rfl⟩ (fun w h => St.norows3 ((((((h.del b11).del b10).del bw).del m).del b3).ftail)))
      | (rw [e]; exact sy_return (vs := [_, _]) rfl (.cons (RV.tmp rfl) (.cons (RV.tmp rfl) .nil)) rfl ⟨none, 0, rfl, rfl, rfl⟩ (fun w h => St.norows3 ((((h.del bw).del m).del b3).ftail)))
   ·
    try simp only [decide_eq_true_eq, decide_eq_false_iff_not, Bool.and_eq_true, Bool.or_eq_true, Bool.not_eq_true', Int.not_le, Int.not_lt] at g30
    
    refine spG rfl rfl rfl rfl (PE.move rfl) rfl ?_
    refine sy_sq ?_
    refine spG rfl rfl rfl rfl (PE.lenSl isl42 rfl) rfl ?_
    refine sy_sq ?_
    refine spG rfl rfl rfl rfl (PE.gtr rfl rfl) rfl ?_
    refine sy_sq ?_
    refine sp rfl (PE.pick rfl rfl rfl) rfl ?_
    refine sy_sq ?_
    refine sp rfl (PE.assign rfl) rfl ?_
    refine sy_sn ?_
    refine sy_nx ?_
    refine sy_cond rfl (fun hc1 => ?_) (fun hc1 => ?_)
    ·
     try simp only [decide_eq_true_eq, decide_eq_false_iff_not, Bool.and_eq_true, Bool.or_eq_true, Bool.not_eq_true', Int.not_le, Int.not_lt] at hc1
     have e := play_many hck (rs := rs) (bs := bs) (.inr (by omega))
     refine sy_seq ?_
     refine sy_tx' [0, 1] rfl ?_
     refine sy_sq ?_
     refine sp rfl (PE.assign rfl) rfl ?_
     refine sy_sq ?_
     refine sp rfl (PE.assign rfl) rfl ?_
     refine sy_sn ?_
     refine sy_nx ?_
     refine sy_ret ?_
     refine sy_br ?_
     refine sy_tr ?_
     first
       | (rw [e2]; exact sy_return (vs := [_, _]) rfl (.cons (RV.tmp rfl) (.cons (RV.tmp rfl) .nil)) rfl ⟨some ⟨b64, 0, none⟩, ss.length, rfl, rfl, rfl⟩ (fun w h => ((((h.del b11).del b10).del bw).del m).del b3 |> fun h => St.sub h))
       | (rw [e2]; exact sy_return (vs := [_, _]) rfl (.cons (RV.tmp rfl) (.cons (RV.tmp rfl) .nil)) rfl ⟨none, 0, rfl, rfl, rfl⟩ (fun w h => St.norows3 ((((((h.del b11).del b10).del bw).del m).del b3).ftail)))
       | (rw [e]; exact sy_return (vs := [_, _]) rfl (.cons (RV.tmp rfl) (.cons (RV.tmp rfl) .nil)) rfl ⟨none, 0, rfl, rfl, rfl⟩ (fun w h => St.norows3 ((((h.del bw).del m).del b3).ftail)))
    ·
     try simp only [decide_eq_true_eq, decide_eq_false_iff_not, Bool.and_eq_true, Bool.or_eq_true, Bool.not_eq_true', Int.not_le, Int.not_lt] at hc1
     have e := play_hit hck (rs := rs) (bs := bs) (by omega) (by omega)
     refine sy_skip ?_
     refine sy_bn ?_
     refine sy_nx ?_
     refine sy_seq ?_
     refine sy_tx' [0] rfl ?_
     refine sy_sq ?_
     refine alc rfl zl170 rfl (fun b10 => ?_)
     refine sy_sn ?_
     refine sy_nx ?_
     refine sy_seq ?_
     refine sy_tx' [0, 1, 2, 3] rfl ?_
     refine sy_sq ?_
     refine sp rfl (PE.fieldAddr fo26_0 rfl) rfl ?_
     refine sy_sq ?_
     refine spL rfl rfl (lhA [_, _, _] ag23 rfl rfl rfl) rfl ?_
     refine sy_sq ?_
     refine alc rfl zl23 rfl (fun b11 => ?_)
     refine sy_sq ?_
     refine sto rfl rfl rfl cn23 rfl rfl rfl rfl ?_
     refine sy_sn ?_
     refine sy_nx ?_
     refine sy_seq ?_
     refine sy_seq ?_
     refine sy_tx' [0, 1, 2] rfl ?_
     refine sy_sq ?_
     refine sp rfl (PE.move rfl) rfl ?_
     refine sy_sq ?_
     refine sp rfl (PE.lenSl isl42 rfl) rfl ?_
     refine sy_sq ?_
     refine sp rfl (PE.move rfl) rfl ?_
     refine sy_sn ?_
     refine sy_nx ?_
     refine sy_block ?_
     refine sy_loop (ι := {x : Nat × List Sta × Sta // x.1 ≤ rs.length ∧ x.2.1.length = x.1 ∧ x.2.2.right t = true ∧ playS t t.now (rs.zip bs) = glue x.2.1 (playS t x.2.2 ((rs.zip bs).drop x.1))}) (fun x => ⟨[(1, .slice a rs.length c), (2, .slice a2 bs.length c2), (8, .pointer (some ⟨bw, 0, none⟩)), (10, .pointer (some ⟨b10, 0, none⟩)), (11, .pointer (some ⟨b11, 0, none⟩)), (37, .slice a rs.length c), (38, .int .i64 rs.length), (39, .int .i64 x.1.1)], (b11, cel 23 [.int .i64 x.1.2.2.stock, .int .i64 x.1.2.2.short, .int .i64 x.1.2.2.dry]) :: (b10, cel 170 ((srows x.1.2.1).flatten ++ List.replicate (36 - 3 * x.1.1) (Value.int .i64 0))) :: (bw, cel 153 (rcs t (t.sl (some ⟨ba, oa, none⟩) ca) bt (List.replicate 496 0) (.slice none 0 0) m)) :: (m, mapO true []) :: (b3, cel 26 (twl t (t.sl (some ⟨ba, oa, none⟩) ca))) :: H, RowsA (some ⟨bt, 0, none⟩) 11 [twl t (t.sl (some ⟨ba, oa, none⟩) ca)] :: R⟩) (fun x => rs.length - x.1.1) ⟨(0, [], t.now), by omega, rfl, hok.now, (glue_nil _ _).symm⟩ ?_ (fun x => ?_)
     ·
      exact sy_at (by repeat' first | exact Sub.nil | apply Sub.cons | rfl | (simp [lk]; omega)) (fun _ h => h)
     ·
      obtain ⟨⟨k, ss, s⟩, hk, hsl, hsr, hpl⟩ := x
      dsimp only at hk hsl hsr hpl ⊢
      have ht := hok
      refine sy_seq ?_
      refine sy_tx' [0] rfl ?_
      refine sy_sq ?_
      refine sp rfl (PE.lss rfl rfl) rfl ?_
      refine sy_sn ?_
      refine sy_nx ?_
      refine sy_seq ?_
      refine sy_cond rfl (fun hc2 => ?_) (fun hc2 => ?_)
      ·
       try simp only [decide_eq_true_eq, decide_eq_false_iff_not, Bool.and_eq_true, Bool.or_eq_true, Bool.not_eq_true', Int.not_le, Int.not_lt] at hc2
       obtain ⟨r, hr⟩ : ∃ r, rs[k]? = some r := ⟨_, List.getElem?_eq_getElem (by omega)⟩
       obtain ⟨b, hb⟩ : ∃ b, bs[k]? = some b := ⟨_, List.getElem?_eq_getElem (by omega)⟩
       rw [zip_drop hr hb] at hpl
       refine sy_addr (a := a) (sz := 1) (rows := irows rs) (by intro h0; simp [irows] at h0; simp [h0] at hr) (fun br or_ he => ?_)
       subst he
       refine sy_addr (a := a2) (sz := 1) (rows := brows bs) (by intro h0; simp [brows] at h0; simp [h0] at hb) (fun bb ob he => ?_)
       subst he
       refine sy_skip ?_
       refine sy_nx ?_
       refine sy_seq ?_
       refine sy_block ?_
       refine sy_seq ?_
       refine sy_tx' [0, 1, 2, 3, 4] rfl ?_
       refine sy_sq ?_
       refine sp rfl (PE.move rfl) rfl ?_
       refine sy_sq ?_
       refine sp rfl (PE.indexAddr el42 rfl rfl (by omega) (by omega)) rfl ?_
       refine sy_sq ?_
       refine spL rfl rfl (lf0 (x := .int .i64 r) sc3 (by simp [irows, hr]; rfl) rfl) rfl ?_
       refine sy_sq ?_
       refine sp rfl (PE.assign rfl) rfl ?_
       refine sy_sq ?_
       refine sp rfl (PE.assign rfl) rfl ?_
       refine sy_sn ?_
       refine sy_nx ?_
       refine sy_seq ?_
       refine sy_seq ?_
       refine sy_draw [0, 0, 0, 0, 0, 24, 56, 127, 255, 511, 511, 1023, 4095] (.tk 0 (.ld 1 (.tk 2 (.tk 3 (.tk 4 (.tk 5 (.ld 6 (.big 7 (.tk 8 (.tk 9 (.tk 10 (.big 11 (.tk 12 .done))))))))))))) mixed (by kernel_rfl) ?_
       refine tk rfl (PE.move rfl) rfl ?_
       refine ld rfl rfl (lhA [_, _, _] ag23 rfl rfl rfl) rfl ?_
       refine tk rfl (PE.move rfl) rfl ?_
       refine tk rfl (PE.move rfl) rfl ?_
       refine tk rfl (PE.move rfl) rfl ?_
       refine tk rfl (PE.indexAddr el80 rfl rfl (by omega) (by omega)) rfl ?_
       refine ld rfl rfl (lf0 (x := .bool b) sc4 (br_get hb) rfl) rfl ?_
       refine sy_bg ?_
       refine cl rfl cal110 rfl rfl (c_year t hok s hsr r b ba oa ca bt bw m _ _ _ _) ?_
       rintro _ _ _ ⟨rfl, rfl, rfl⟩
       refine bg (fun w hs => ⟨trivial, trivial, trivial⟩) ?_
       refine tk rfl (PE.move rfl) rfl ?_
       refine tk rfl (PE.extract rfl rfl) rfl ?_
       refine tk rfl (PE.extract rfl rfl) rfl ?_
       refine sy_bg ?_
       refine sto rfl rfl rfl cn23 rfl rfl rfl rfl ?_
       refine bg (fun w hs => trivial) ?_
       refine tk rfl (PE.assign rfl) rfl ?_
       refine sy_dn ?_
       refine sy_nx ?_
       refine sy_seq ?_
       refine sy_tx' [0, 1] rfl ?_
       refine sy_sq ?_
       refine sp rfl (PE.move rfl) rfl ?_
       refine sy_sq ?_
       refine sp rfl (PE.neq rfl rfl) rfl ?_
       refine sy_sn ?_
       refine sy_nx ?_
       refine sy_cond rfl (fun hc3 => ?_) (fun hc3 => ?_)
       ·
        try simp only [decide_eq_true_eq, decide_eq_false_iff_not, Bool.and_eq_true, Bool.or_eq_true, Bool.not_eq_true', Int.not_le, Int.not_lt] at hc3
        have e2 : playP t rs bs = ([], (nxtR t s r b).2) := by rw [e, hpl, glue_bad hc3]
        refine sy_seq ?_
        refine sy_tx' [0, 1, 2] rfl ?_
        refine sy_sq ?_
        refine sp rfl (PE.move rfl) rfl ?_
        refine sy_sq ?_
        refine sp rfl (PE.assign rfl) rfl ?_
        refine sy_sq ?_
        refine sp rfl (PE.assign rfl) rfl ?_
        refine sy_sn ?_
        refine sy_nx ?_
        refine sy_ret ?_
        refine sy_tr ?_
        refine sy_br ?_
        refine sy_tr ?_
        refine sy_tr ?_
        refine sy_br ?_
        refine sy_tr ?_
        first
          | (rw [e2]; exact sy_return (vs := [_, _]) rfl (.cons (RV.tmp rfl) (.cons (RV.tmp rfl) .nil)) rfl ⟨some ⟨b64, 0, none⟩, ss.length, rfl, rfl, rfl⟩ (fun w h => ((((h.del b11).del b10).del bw).del m).del b3 |> fun h => St.sub h))
          | (rw [e2]; exact sy_return (vs := [_, _]) rfl (.cons (RV.tmp rfl) (.cons (RV.tmp rfl) .nil)) rfl ⟨none, 0, rfl, rfl, rfl⟩ (fun w h => St.norows3 ((((((h.del b11).del b10).del bw).del m).del b3).ftail)))
          | (rw [e]; exact sy_return (vs := [_, _]) rfl (.cons (RV.tmp rfl) (.cons (RV.tmp rfl) .nil)) rfl ⟨none, 0, rfl, rfl, rfl⟩ (fun w h => St.norows3 ((((h.del bw).del m).del b3).ftail)))
       ·
        try simp only [decide_eq_true_eq, decide_eq_false_iff_not, Bool.and_eq_true, Bool.or_eq_true, Bool.not_eq_true', Int.not_le, Int.not_lt] at hc3
        
        refine sy_skip ?_
        refine sy_nx ?_
        refine sy_tx' [0, 1, 2, 3] rfl ?_
        refine sy_sq ?_
        refine sp rfl (PE.move rfl) rfl ?_
        refine sy_sq ?_
        refine spL rfl rfl (lhA [_, _, _] ag23 rfl rfl rfl) rfl ?_
        refine sy_sq ?_
        refine sp rfl (PE.indexArr ar170 rfl rfl (by omega) (by omega)) rfl ?_
        refine sy_sq ?_
        refine stoE (l' := (srows (ss ++ [(nxtR t s r b).1])).flatten ++ List.replicate (36 - 3 * (k + 1)) (Value.int .i64 0)) rfl rfl rfl cn23 rfl rfl rfl (spl_played hsl (by omega)) (by rw [List.length_append, sr_len, hsl, List.length_replicate]; show 0 + ((k : Nat) : Int).toNat * 3 + 3 ≤ _; omega) ?_
        refine sy_sn ?_
        refine sy_bn ?_
        refine sy_nx ?_
        refine sy_tx' [0, 1] rfl ?_
        refine sy_sq ?_
        refine sp rfl (PE.add rfl rfl (by omega)) rfl ?_
        refine sy_sq ?_
        refine sp rfl (PE.move rfl) rfl ?_
        refine sy_sn ?_
        refine sy_nx ?_
        exact sy_next ⟨(k + 1, ss ++ [(nxtR t s r b).1], (nxtR t s r b).1), by omega, by simp [hsl], nxt_right ht hsr (Decidable.not_not.1 hc3), by rw [hpl, glue_step (Decidable.not_not.1 hc3)]⟩ (by dsimp only; omega) (by repeat' first | exact Sub.nil | apply Sub.cons | rfl | (simp [lk]; omega)) (fun _ h => h)
      ·
       try simp only [decide_eq_true_eq, decide_eq_false_iff_not, Bool.and_eq_true, Bool.or_eq_true, Bool.not_eq_true', Int.not_le, Int.not_lt] at hc2
       obtain rfl : k = rs.length := by omega
       rw [zip_end (Nat.le_refl _)] at hpl
       have e2 : playP t rs bs = (ss, 0) := by rw [e, hpl]; simp [glue, playS]
       refine sy_exit ?_
       refine sy_tx ?_
       refine sy_tx ?_
       refine sy_bx ?_
       refine sy_nx ?_
       refine sy_seq ?_
       refine sy_tx' [0, 1, 2, 3] rfl ?_
       refine sy_sq ?_
       refine sp rfl (PE.move rfl) rfl ?_
       refine sy_sq ?_
       refine sp rfl (PE.lenSl isl42 rfl) rfl ?_
       refine sy_sq ?_
       refine mkS rfl ap85 zl23 rfl rfl (Nat.le_refl _) ⟨by omega, by omega⟩ rfl (fun b64 => ?_)
       refine sy_sq ?_
       refine sp rfl (PE.assign rfl) rfl ?_
       refine sy_sn ?_
       refine sy_nx ?_
       refine sy_seq ?_
       refine sy_tx' [0, 1, 2] rfl ?_
       refine sy_sq ?_
       refine sp rfl (PE.move rfl) rfl ?_
       refine sy_sq ?_
       refine sp rfl (PE.slArr ar170 rfl) rfl ?_
       refine sy_sq ?_
       refine cpy ((srows ss).flatten) rfl sl85 rfl rfl (by rw [sr_len, hsl]; show _ = min 12 rs.length * 3; rw [Nat.min_eq_right (by omega)]) (fun w hs j v hj => ?_) (sr_one ss) (by rw [sr_len, hsl, ← flat_repl, flat_len (sz := 3) (fun q hq => by rw [(List.mem_replicate.1 hq).2]; rfl)]; simp) rfl ?_
       · have hb := hs.held (b10, _) (Mem1.mem (b := b10))
         rw [Nat.zero_add, cell_of hb, List.getElem?_toArray, List.getElem?_append_left (List.getElem?_eq_some_iff.1 hj).1]
         exact hj
       rw [show spl (repl rs.length [Value.int .i64 0, .int .i64 0, .int .i64 0]) 0 (srows ss).flatten = (srows ss).flatten ++ [] from by
         unfold spl
         rw [List.take_zero, List.nil_append, List.drop_eq_nil_of_le]
         rw [sr_len, hsl, ← flat_repl, flat_len (sz := 3) (fun q hq => by rw [(List.mem_replicate.1 hq).2]; rfl)]; simp]
       refine sy_pull b64 ?_
       refine Sy.heap (fun w h => St.stas h) ?_
       rw [← hsl]
       refine sy_sn ?_
       refine sy_nx ?_
       refine sy_seq ?_
       refine sy_tx' [0, 1, 2] rfl ?_
       refine sy_sq ?_
       refine sp rfl (PE.move rfl) rfl ?_
       refine sy_sq ?_
       refine sp rfl (PE.assign rfl) rfl ?_
       refine sy_sq ?_
       refine sp rfl (PE.assign rfl) rfl ?_
       refine sy_sn ?_
       refine sy_nx ?_
       refine sy_ret ?_
       first
         | (rw [e2]; exact sy_return (vs := [_, _]) rfl (.cons (RV.tmp rfl) (.cons (RV.tmp rfl) .nil)) rfl ⟨some ⟨b64, 0, none⟩, ss.length, rfl, rfl, rfl⟩ (fun w h => ((((h.del b11).del b10).del bw).del m).del b3 |> fun h => St.sub h))
         | (rw [e2]; exact sy_return (vs := [_, _]) rfl (.cons (RV.tmp rfl) (.cons (RV.tmp rfl) .nil)) rfl ⟨none, 0, rfl, rfl, rfl⟩ (fun w h => St.norows3 ((((((h.del b11).del b10).del bw).del m).del b3).ftail)))
         | (rw [e]; exact sy_return (vs := [_, _]) rfl (.cons (RV.tmp rfl) (.cons (RV.tmp rfl) .nil)) rfl ⟨none, 0, rfl, rfl, rfl⟩ (fun w h => St.norows3 ((((h.del bw).del m).del b3).ftail)))
end Go.Proofs.Ytaldphhdkmchhaa
