/- Walks of the functions of the program: what each returns and leaves in memory, under the conditions that its theorem names. -/
import Derived.Test.YtaldphhdkmchhaaTy
import Derived.Test.YtaldphhdkmchhaaMa
import Derived.Test.YtaldphhdkmchhaaWk28
import Derived.Test.YtaldphhdkmchhaaMm
namespace Go.Proofs.Ytaldphhdkmchhaa
set_option linter.unusedSimpArgs false
set_option linter.unusedVariables false
open Go
theorem cal46 : cal Try.prog 46 = true := by kernel_rfl
theorem cal47 : cal Try.prog 47 = true := by kernel_rfl
theorem cal49 : cal Try.prog 49 = true := by kernel_rfl
theorem c_Fair (s : Int) (ws sh : List Int) (a a2 : Option Addr) (c c2 : Nat) (hl : ws.length ≤ 9223372036854775807) (hl2 : sh.length ≤ 9223372036854775807) (H : Heap) (R : Facts) [hR : MemRows a 1 (irows ws) R] [hR2 : MemRows a2 1 (irows sh) R] :
    Fn Try.prog 37 [.int .i64 s, .slice a ws.length c, .slice a2 sh.length c2] H R (fun v H' R' => (∃ j, (askE s ws = 0 → (shIt ws j (shInit s ws)).g = false) ∧ v = .tuple #[.bool (fairR s ws sh j).1, .int .i64 (fairR s ws sh j).2]) ∧ H' = H ∧ R' = R) := by
  refine fn_of Try.func37 rfl Try.ntmps37 rfl ?_
  refine sy_seq ?_
  refine sy_tx' [0, 1] rfl ?_
  refine sy_sq ?_
  refine sp rfl (PE.assign rfl) rfl ?_
  refine sy_sq ?_
  refine sp rfl (PE.assign rfl) rfl ?_
  refine sy_sn ?_
  refine sy_nx ?_
  refine sy_seq ?_
  refine sy_tx' [0, 1, 2, 3, 4, 5, 6, 7] rfl ?_
  refine sy_sq ?_
  refine sp rfl (PE.move rfl) rfl ?_
  refine sy_sq ?_
  refine sp rfl (PE.move rfl) rfl ?_
  refine sy_sq ?_
  refine cl rfl cal36 rfl rfl (c_Share s ws a c hl _ _) ?_
  rintro _ _ _ ⟨⟨hck, rfl, rfl⟩ | ⟨hck, j, bo, hg, rfl, rfl⟩, rfl⟩
  ·
   refine sy_sq ?_
   refine sp rfl (PE.move rfl) rfl ?_
   refine sy_sq ?_
   refine sp rfl (PE.extract rfl rfl) rfl ?_
   refine sy_sq ?_
   refine sp rfl (PE.extract rfl rfl) rfl ?_
   refine sy_sq ?_
   refine sp rfl (PE.assign rfl) rfl ?_
   refine sy_sq ?_
   refine sp rfl (PE.assign rfl) rfl ?_
   refine sy_sn ?_
   refine sy_nx ?_
   refine sy_seq ?_
   refine sy_block ?_
   refine sy_seq ?_
   refine sy_tx' [0, 1, 2] rfl ?_
   refine sy_sq ?_
   refine sp rfl (PE.move rfl) rfl ?_
   refine sy_sq ?_
   refine sp rfl (PE.neq rfl rfl) rfl ?_
   refine sy_sq ?_
   refine sp rfl (PE.assign rfl) rfl ?_
   refine sy_sn ?_
   refine sy_nx ?_
   refine sy_condT (congrArg (fun b => some (Value.bool b)) (decide_eq_true hck)) ?_
   refine sy_seq ?_
   refine sy_tx' [0, 1, 2] rfl ?_
   refine sy_sq ?_
   refine sp rfl (PE.move rfl) rfl ?_
   refine sy_sq ?_
   refine sp rfl (PE.assign rfl) rfl ?_
   refine sy_sq ?_
   refine sp rfl (PE.assign rfl) rfl ?_
   refine sy_sn ?_
   refine sy_nx ?_
   refine sy_ret ?_
   refine sy_br ?_
   refine sy_tr ?_
   have hres : fairR s ws sh 0 = (false, askE s ws) := by simp [fairR, hck]
   have hj : askE s ws = 0 → (shIt ws 0 (shInit s ws)).g = false := fun h => absurd h hck
   exact sy_return (vs := [_, _]) (v := .tuple #[.bool (fairR s ws sh 0).1, .int .i64 (fairR s ws sh 0).2]) rfl (.cons (RV.tmp rfl) (.cons (RV.tmp rfl) .nil)) (by rw [hres]; rfl) ⟨⟨0, hj, rfl⟩, rfl, rfl⟩ (fun _ h => by repeat first | exact h | replace h := St.tail h | replace h := St.ftail h | replace h := St.drop h)
  ·
   refine sy_sq ?_
   have hj : askE s ws = 0 → (shIt ws j (shInit s ws)).g = false := fun _ => hg
   have hlo : (shIt ws j (shInit s ws)).o.length = ws.length := (shIt_ok j _ (shInit_ok hck).1).len
   refine Sy.heap (fun w h => St.intRows h) ?_
   rw [← hlo]
   refine sp rfl (PE.move rfl) rfl ?_
   refine sy_sq ?_
   refine sp rfl (PE.extract rfl rfl) rfl ?_
   refine sy_sq ?_
   refine sp rfl (PE.extract rfl rfl) rfl ?_
   refine sy_sq ?_
   refine sp rfl (PE.assign rfl) rfl ?_
   refine sy_sq ?_
   refine sp rfl (PE.assign rfl) rfl ?_
   refine sy_sn ?_
   refine sy_nx ?_
   refine sy_seq ?_
   refine sy_block ?_
   refine sy_seq ?_
   refine sy_tx' [0, 1, 2] rfl ?_
   refine sy_sq ?_
   refine sp rfl (PE.move rfl) rfl ?_
   refine sy_sq ?_
   refine sp rfl (PE.neq rfl rfl) rfl ?_
   refine sy_sq ?_
   refine sp rfl (PE.assign rfl) rfl ?_
   refine sy_sn ?_
   refine sy_nx ?_
   refine sy_condF (rfl) ?_
   refine sy_seq ?_
   refine sy_tx' [0, 1, 2, 3, 4, 5] rfl ?_
   refine sy_sq ?_
   refine sp rfl (PE.move rfl) rfl ?_
   refine sy_sq ?_
   refine sp rfl (PE.lenSl isl42 rfl) rfl ?_
   refine sy_sq ?_
   refine sp rfl (PE.move rfl) rfl ?_
   refine sy_sq ?_
   refine sp rfl (PE.lenSl isl42 rfl) rfl ?_
   refine sy_sq ?_
   refine sp rfl (PE.neq rfl rfl) rfl ?_
   refine sy_sq ?_
   refine sp rfl (PE.assign rfl) rfl ?_
   refine sy_sn ?_
   refine sy_nx ?_
   refine sy_cond rfl (fun hc1 => ?_) (fun hc1 => ?_)
   ·
    have h8 : decide (sh.length ≠ ws.length) = true := by simp only [decide_eq_true_eq] at hc1 ⊢; omega
    have hse : sharesE ws sh = 2 := by unfold sharesE; rw [h8]; rfl
    have hres : fairR s ws sh j = (false, 2) := by simp [fairR, hck, hse]
    refine sy_seq ?_
    refine sy_tx' [0, 1] rfl ?_
    refine sy_sq ?_
    refine sp rfl (PE.assign rfl) rfl ?_
    refine sy_sq ?_
    refine sp rfl (PE.assign rfl) rfl ?_
    refine sy_sn ?_
    refine sy_nx ?_
    refine sy_ret ?_
    refine sy_br ?_
    refine sy_tr ?_
    exact sy_return (vs := [_, _]) (v := .tuple #[.bool (fairR s ws sh j).1, .int .i64 (fairR s ws sh j).2]) rfl (.cons (RV.tmp rfl) (.cons (RV.tmp rfl) .nil)) (by rw [hres]; rfl) ⟨⟨j, hj, rfl⟩, rfl, rfl⟩ (fun _ h => by repeat first | exact h | replace h := St.tail h | replace h := St.ftail h | replace h := St.drop h)
   ·
    have h8 : decide (sh.length ≠ ws.length) = false := by simp only [decide_eq_false_iff_not] at hc1 ⊢; omega
    refine sy_seq ?_
    refine sy_tx' [0, 1, 2, 3] rfl ?_
    refine sy_sq ?_
    refine sp rfl (PE.move rfl) rfl ?_
    refine sy_sq ?_
    refine clV rfl cal105 rfl rfl (c_every_int sh a2 c2 106 [] [] (fun n => inb n 0 1000) cal106 hl2 _ _ (fun _ x _ => c_fair1 x _ _)) ?_
    refine sy_sq ?_
    refine sp rfl (PE.not rfl) rfl ?_
    refine sy_sq ?_
    refine sp rfl (PE.assign rfl) rfl ?_
    refine sy_sn ?_
    refine sy_nx ?_
    refine sy_cond rfl (fun hc2 => ?_) (fun hc2 => ?_)
    ·
     have h9 : (sh.all fun n => inb n 0 1000) = false := by rw [← Bool.not_eq_true']; exact hc2
     have hse : sharesE ws sh = 3 := by unfold sharesE; rw [h8, h9]; rfl
     have hres : fairR s ws sh j = (false, 3) := by simp [fairR, hck, hse]
     refine sy_seq ?_
     refine sy_tx' [0, 1] rfl ?_
     refine sy_sq ?_
     refine sp rfl (PE.assign rfl) rfl ?_
     refine sy_sq ?_
     refine sp rfl (PE.assign rfl) rfl ?_
     refine sy_sn ?_
     refine sy_nx ?_
     refine sy_ret ?_
     refine sy_br ?_
     refine sy_tr ?_
     exact sy_return (vs := [_, _]) (v := .tuple #[.bool (fairR s ws sh j).1, .int .i64 (fairR s ws sh j).2]) rfl (.cons (RV.tmp rfl) (.cons (RV.tmp rfl) .nil)) (by rw [hres]; rfl) ⟨⟨j, hj, rfl⟩, rfl, rfl⟩ (fun _ h => by repeat first | exact h | replace h := St.tail h | replace h := St.ftail h | replace h := St.drop h)
    ·
     have h9 : (sh.all fun n => inb n 0 1000) = true := by rw [← Bool.not_eq_false']; exact hc2
     have hse : sharesE ws sh = 0 := by unfold sharesE; rw [h8, h9]; rfl
     have hres : fairR s ws sh j = (decide ((shIt ws j (shInit s ws)).o = sh), 0) := by simp [fairR, hck, hse]
     refine sy_skip ?_
     refine sy_bn ?_
     refine sy_nx ?_
     refine sy_seq ?_
     refine sy_tx' [0, 1, 2, 3, 4] rfl ?_
     refine sy_sq ?_
     refine sp rfl (PE.move rfl) rfl ?_
     refine sy_sq ?_
     refine sp rfl (PE.move rfl) rfl ?_
     refine sy_sq ?_
     refine clV rfl cal81 rfl rfl (c_eq_int (shIt ws j (shInit s ws)).o sh (some ⟨bo, 0, none⟩) a2 _ c2 (by omega) hl2 _ _) ?_
     refine sy_sq ?_
     refine sp rfl (PE.assign rfl) rfl ?_
     refine sy_sq ?_
     refine sp rfl (PE.assign rfl) rfl ?_
     refine sy_sn ?_
     refine sy_nx ?_
     refine sy_ret ?_
     exact sy_return (vs := [_, _]) (v := .tuple #[.bool (fairR s ws sh j).1, .int .i64 (fairR s ws sh j).2]) rfl (.cons (RV.tmp rfl) (.cons (RV.tmp rfl) .nil)) (by rw [hres]; rfl) ⟨⟨j, hj, rfl⟩, rfl, rfl⟩ (fun _ h => by repeat first | exact h | replace h := St.tail h | replace h := St.ftail h | replace h := St.drop h)

theorem fairR_eq {s : Int} {ws sh : List Int} {j : Nat} (h : askE s ws = 0 → (shIt ws j (shInit s ws)).g = false) : fairR s ws sh j = bif decide (askE s ws ≠ 0) then (false, askE s ws) else bif decide (sharesE ws sh ≠ 0) then (false, sharesE ws sh) else (refFair s ws sh, 0) := by
  unfold fairR
  by_cases h0 : askE s ws = 0
  · by_cases h1 : sharesE ws sh = 0
    · have hg := h h0
      obtain ⟨_, hf⟩ := share_fair h0 hg
      have hl := (shIt_ok j _ (shInit_ok h0).1).len
      have hl2 : sh.length = ws.length := by
        by_cases h2 : sh.length = ws.length
        · exact h2
        · unfold sharesE at h1; simp [h2] at h1
      have e : decide ((shIt ws j (shInit s ws)).o = sh) = refFair s ws sh := by
        cases hr : refFair s ws sh with
        | true => simp [fair_uniq hl hl2 hf hr]
        | false =>
          have : (shIt ws j (shInit s ws)).o ≠ sh := fun e => by rw [e, hr] at hf; cases hf
          simp [this]
      simp [h0, h1, e]
    · simp [h0, h1]
  · simp [h0]


theorem c_clone_int (xs : List Int) (a : Option Addr) (c : Nat) (hl : xs.length ≤ 1000000) (H : Heap) (R : Facts) [hR : MemRows a 1 (irows xs) R] :
    Fn Try.prog 49 [.slice a xs.length c] H R (fun v H' R' => ∃ o : OSl 3 1 (irows xs), v = o.fs ∧ H' = o.G ++ H ∧ R' = R ∧ (a.isSome = true → o.here)) := by
  refine fn_of Try.func49 rfl Try.ntmps49 rfl ?_
  refine sy_seq ?_
  refine sy_tx' [0] rfl ?_
  refine sy_sq ?_
  refine sp rfl (PE.assign rfl) rfl ?_
  refine sy_sn ?_
  refine sy_nx ?_
  refine sy_seq ?_
  refine sy_seq ?_
  refine sy_tx' [0, 1] rfl ?_
  refine sy_sq ?_
  refine sp rfl (PE.move rfl) rfl ?_
  refine sy_sq ?_
  refine sp rfl (PE.eqlNil isl42 rfl rfl) rfl ?_
  refine sy_sn ?_
  refine sy_nx ?_
  refine sy_cond rfl (fun hc0 => ?_) (fun hc0 => ?_)
  ·
   refine Sy.pre (fun w h => rows_nil (h.now hR.mem) hc0) (fun hnil => ?_)
   obtain rfl : xs = [] := by simpa [irows] using hnil
   refine sy_seq ?_
   refine sy_tx' [0] rfl ?_
   refine sy_sq ?_
   refine sp rfl (PE.assign rfl) rfl ?_
   refine sy_sn ?_
   refine sy_nx ?_
   refine sy_ret ?_
   refine sy_tr ?_
   first
     | exact sy_return (vs := [_]) rfl (.cons (RV.tmp rfl) .nil) rfl ⟨o2.cast (by simp), rfl, rfl, rfl, fun _ => ho2⟩ (fun _ h => h)
     | exact sy_return (vs := [_]) rfl (.cons (RV.tmp rfl) .nil) rfl ⟨OSl.nil _ _, rfl, rfl, rfl, fun h => by cases a <;> simp_all⟩ (fun _ h => h)
  ·
   refine sy_skip ?_
   refine sy_nx ?_
   refine sy_seq ?_
   refine sy_tx' [0, 1, 2, 3] rfl ?_
   refine sy_sq ?_
   refine bsl0 rfl sl42 rfl (fun o5 ho5 => ?_)
   refine sy_sq ?_
   refine sp rfl (PE.move rfl) rfl ?_
   refine sy_sq ?_
   refine apOh (news := irows xs) o5 rfl ap42 rfl rfl (rowsF) (by simp [irows]) (by simp [onecells, irows, Value.oneCell']) ⟨by simp [irows]; omega, by simp [irows]; omega⟩ rfl ho5 (fun o2 ho2 => ?_)
   refine sy_sq ?_
   refine sp rfl (PE.assign rfl) rfl ?_
   refine sy_sn ?_
   refine sy_nx ?_
   refine sy_ret ?_
   first
     | exact sy_return (vs := [_]) rfl (.cons (RV.tmp rfl) .nil) rfl ⟨o2.cast (by simp), rfl, rfl, rfl, fun _ => ho2⟩ (fun _ h => h)
     | exact sy_return (vs := [_]) rfl (.cons (RV.tmp rfl) .nil) rfl ⟨OSl.nil _ _, rfl, rfl, rfl, fun h => by cases a <;> simp_all⟩ (fun _ h => h)

/-- Share and Fair, of lists that are right. -/
theorem share_ok {s : Int} {ws : List Int} (hs : 0 ≤ s ∧ s ≤ 1000) (hl : ws.length ≤ 8) (hw : ∀ n ∈ ws, 0 ≤ n ∧ n ≤ 1000) : askE s ws = 0 := by
  unfold askE
  rw [decide_eq_false (by omega)]
  have e1 : inb s 0 1000 = true := by simp only [inb, Bool.and_eq_true, decide_eq_true_eq]; exact hs
  have e2 : (ws.all fun n => inb n 0 1000) = true := List.all_eq_true.2 fun n hn => by simp only [inb, Bool.and_eq_true, decide_eq_true_eq]; exact hw n hn
  rw [e1, e2]; rfl
theorem share_fa {s : Int} {ws : List Int} (h : askE s ws = 0) {j : Nat} (hg : (shIt ws j (shInit s ws)).g = false) : FA s ws (shIt ws j (shInit s ws)).o ∧ sharesE ws (shIt ws j (shInit s ws)).o = 0 ∧ ∀ i, i < ws.length → 0 ≤ (shIt ws j (shInit s ws)).o.getD i 0 := by
  have hk := shIt_ok j _ (shInit_ok h).1
  obtain ⟨h1, h2⟩ := share_fair h hg
  refine ⟨FA.of hk.len h2, h1, fun i hi => ?_⟩
  have hio : i < (shIt ws j (shInit s ws)).o.length := by rw [hk.len]; exact hi
  have := hk.m i _ _ (List.getElem?_eq_getElem hio) (List.getElem?_eq_getElem hi)
  rw [getD_of (List.getElem?_eq_getElem hio)]; exact this.1
theorem getD_get {l : List Int} {i : Nat} (h : i < l.length) : l[i]? = some (l.getD i 0) := by simp [List.getD, List.getElem?_eq_getElem h]
theorem spl_ij {l : List Int} {i k : Nat} {v : Int} {j : List Value} (h : i < l.length) (e : k = i) : spl (ints l ++ j) k [.int .i64 v] = ints (l.set i v) ++ j := by
  rw [← spl_i h e]
  unfold spl
  rw [List.take_append_of_le_length (by rw [ints_length]; omega), List.drop_append_of_le_length (by rw [ints_length]; show k + 1 ≤ _; omega)]
  simp only [List.append_assoc]
theorem ints_atj {l : List Int} {i k : Nat} {j : List Value} (h : i < l.length) (e : k = i) : (ints l ++ j)[k]? = some (.int .i64 (l.getD i 0)) := by
  rw [List.getElem?_append_left (by rw [ints_length]; omega)]; exact ints_at (getD_get h) e
theorem St.intRowsJ {b e : Nat} {l : List Int} {j : List Value} {H : Heap} {R : Facts} {w : World} (h : St ((b, cel e (ints l ++ j)) :: H) R w) : St H (RowsA (some ⟨b, 0, none⟩) 1 (irows l) :: R) w :=
  St.rows (e := e) (rest := j) (by rw [show (irows l).flatten = ints l from irows_flat l]; exact h) (by simp [irows])
theorem shares_ok {ws sh : List Int} (hl : sh.length = ws.length) (h : ∀ n ∈ sh, 0 ≤ n ∧ n ≤ 1000) : sharesE ws sh = 0 := by
  have e2 : (sh.all fun n => inb n 0 1000) = true := List.all_eq_true.2 fun n hn => by simp only [inb, Bool.and_eq_true, decide_eq_true_eq]; exact h n hn
  unfold sharesE
  rw [decide_eq_false (by omega), e2]; rfl
theorem take_bd {l : List Int} {k : Nat} (h : ∀ n ∈ l, 0 ≤ n ∧ n ≤ 1000) (hl : l.length ≤ 8) : 0 ≤ (l.take k).sum ∧ (l.take k).sum ≤ 8000 := by
  have h1 := sum_bd (l := l.take k) (fun n hn => h n (List.mem_of_mem_take hn))
  rw [List.length_take] at h1
  omega
theorem take_sum {l : List Int} {k : Nat} (h : k < l.length) : (l.take (k + 1)).sum = (l.take k).sum + l.getD k 0 := sum_take (getD_get h)
theorem io_row {l : List Int} {k : Nat} (h : k < l.length) : (irows l)[((k : Nat) : Int).toNat]? = some [.int .i64 (l.getD k 0)] := by simp [irows, List.getElem?_eq_getElem h, List.getD]

theorem c_BreadBakers (g : List Int) (ag : Option Addr) (cg : Nat) (hgl : g.length ≤ 9223372036854775807) (which more : Int) (hb1 : 0 ≤ which ∧ which ≤ 255) (hb2 : 0 ≤ more ∧ more ≤ 255) (H : Heap) (R : Facts) [hG : MemRows ag 1 (urows g) R] :
    Fn Try.prog 8 [.slice ag g.length cg, .int .u8 which, .int .u8 more] H R (fun v H' R' => v = .bool true ∧ H' = H ∧ R' = R) := by
  refine fn_of Try.func8 rfl Try.ntmps8 rfl ?_
  refine sy_seq ?_
  refine sy_tx' [0] rfl ?_
  refine sy_sq ?_
  refine sp rfl (PE.assign rfl) rfl ?_
  refine sy_sn ?_
  refine sy_nx ?_
  refine sy_seq ?_
  refine sy_tx' [0, 1, 2] rfl ?_
  refine sy_sq ?_
  refine sp rfl (PE.move rfl) rfl ?_
  refine sy_sq ?_
  refine cl rfl cal47 rfl rfl (c_Fill g ag cg hgl _ _) ?_
  rintro _ _ R1 ⟨bk, mx, hmx, rfl, rfl, hR1⟩
  obtain rfl := hR1.symm
  refine sy_sq ?_
  refine sp rfl (PE.assign rfl) rfl ?_
  refine sy_sn ?_
  refine sy_nx ?_
  refine sy_seq ?_
  refine sy_tx' [0, 1, 2] rfl ?_
  refine sy_sq ?_
  refine sp rfl (PE.move rfl) rfl ?_
  refine sy_sq ?_
  refine cl rfl cal48 rfl rfl (c_Below g ag cg bk hgl _ _ (by omega) (by assumption) (120) _ _) ?_
  rintro _ _ R1 ⟨x34, m34, hx34, rfl, hm34, rfl, hR1⟩
  obtain rfl := hR1.symm
  refine sy_sq ?_
  refine sp rfl (PE.assign rfl) rfl ?_
  refine sy_sn ?_
  refine sy_nx ?_
  refine sy_seq ?_
  refine sy_tx' [0] rfl ?_
  refine sy_sq ?_
  refine sp rfl (PE.assign rfl) rfl ?_
  refine sy_sn ?_
  refine sy_nx ?_
  refine sy_seq ?_
  refine sy_seq ?_
  refine sy_tx' [0, 1, 2] rfl ?_
  refine sy_sq ?_
  refine sp rfl (PE.move rfl) rfl ?_
  refine sy_sq ?_
  refine cl rfl cal48 rfl rfl (c_Below g ag cg bk hgl _ _ (by omega) (by assumption) (9) _ _) ?_
  rintro _ _ R1 ⟨x36, m36, hx36, rfl, hm36, rfl, hR1⟩
  obtain rfl := hR1.symm
  refine sy_sq ?_
  refine sp rfl (PE.move rfl) rfl ?_
  refine sy_sn ?_
  refine sy_nx ?_
  refine sy_block ?_
  obtain ⟨n36, rfl⟩ : ∃ n : Nat, x36 = n := ⟨x36.toNat, by omega⟩
  refine sy_loop (ι := (x : {x : Nat × List Int × Int × Int // x.1 ≤ n36 ∧ x.2.1.length = x.1 ∧ (∀ n ∈ x.2.1, 0 ≤ n ∧ n ≤ 27) ∧ (0 ≤ x.2.2.1 ∧ x.2.2.1 ≤ 10 + 2 * x.1) ∧ (0 ≤ x.2.2.2 ∧ x.2.2.2 ≤ 4294967295)}) × OSl 3 1 (irows x.1.2.1)) (fun x => ⟨[(1, .int .u8 which), (2, .int .u8 more), (7, .pointer (some ⟨bk, 0, none⟩)), (8, .int .i64 x34), (9, x.2.fs), (36, .int .i64 n36), (37, .int .i64 x.1.1.1)], (bk, cel 168 [.slice ag g.length cg, .int .i64 (x.1.1.2.2.1), .int .u32 (x.1.1.2.2.2)]) :: (x.2.G ++ H), R⟩) (fun x => n36 - x.1.1.1) ⟨⟨(0, [], 0 + 1 + 1, m36), by omega, rfl, by simp, by dsimp only; omega, by assumption⟩, OSl.nil _ _⟩ ?_ (fun x => ?_)
  ·
   exact sy_at (by repeat' first | exact Sub.nil | apply Sub.cons | rfl | (simp [lk]; omega)) (fun _ h => h)
  ·
   obtain ⟨⟨⟨k, ws, tq2, mx2⟩, hk, hwl, hws, htq2, hmx2⟩, o'⟩ := x
   dsimp only at hk hwl hws htq2 hmx2 o' ⊢
   refine sy_seq ?_
   refine sy_tx' [0] rfl ?_
   refine sy_sq ?_
   refine sp rfl (PE.lss rfl rfl) rfl ?_
   refine sy_sn ?_
   refine sy_nx ?_
   refine sy_seq ?_
   refine sy_cond rfl (fun hc0 => ?_) (fun hc0 => ?_)
   ·
    try simp only [decide_eq_true_eq, decide_eq_false_iff_not, Bool.and_eq_true, Bool.or_eq_true, Bool.not_eq_true', Int.not_le, Int.not_lt] at hc0
    
    refine sy_skip ?_
    refine sy_nx ?_
    refine sy_seq ?_
    refine sy_block ?_
    refine sy_tx' [0, 1, 2, 3, 4, 5, 6, 7, 8] rfl ?_
    refine sy_sq ?_
    refine sp rfl (PE.move rfl) rfl ?_
    refine sy_sq ?_
    refine sp rfl (PE.move rfl) rfl ?_
    refine sy_sq ?_
    refine cl rfl cal48 rfl rfl (c_Below g ag cg bk hgl _ _ (by omega) (by assumption) (4) _ _) ?_
    rintro _ _ R1 ⟨x41, m41, hx41, rfl, hm41, rfl, hR1⟩
    obtain rfl := hR1.symm
    refine sy_sq ?_
    refine sp rfl (PE.move rfl) rfl ?_
    refine sy_sq ?_
    refine cl rfl cal48 rfl rfl (c_Below g ag cg bk hgl _ _ (by omega) (by assumption) (10) _ _) ?_
    rintro _ _ R1 ⟨x43, m43, hx43, rfl, hm43, rfl, hR1⟩
    obtain rfl := hR1.symm
    refine sy_sq ?_
    have hm44 := mul_b (a := x41) (b := x43) (A := 3) (B := 9) (by omega) (by omega) (by omega) (by omega)
    refine sp rfl (PE.mul rfl rfl (by omega)) rfl ?_
    refine sy_sq ?_
    refine bsl (out := [_]) rfl sl42 zl3 rfl rfl rfl rfl rfl rfl (fun b45 => ?_)
    refine sy_sq ?_
    refine apO (o') rfl ap42 rfl rfl (rowsH (row := [.int .i64 (x41 * x43)]) rfl) rfl rfl ((by simp only [irows, List.length_map, List.length_singleton]; omega)) rfl (fun o46 => ?_)
    refine sy_sq ?_
    refine sp rfl (PE.assign rfl) rfl ?_
    refine sy_sn ?_
    refine sy_bn ?_
    refine sy_nx ?_
    refine sy_tx' [0, 1] rfl ?_
    refine sy_sq ?_
    refine sp rfl (PE.add rfl rfl (by omega)) rfl ?_
    refine sy_sq ?_
    refine sp rfl (PE.move rfl) rfl ?_
    refine sy_sn ?_
    refine sy_nx ?_
    refine sy_pull bk ?_
    exact sy_next ⟨⟨(k + 1, ws ++ [x41 * x43], tq2 + 1 + 1, m43), by omega, by simp [hwl], fun n hn => by
      rcases List.mem_append.1 hn with h | h
      · exact hws n h
      · simp only [List.mem_singleton] at h; subst h; omega, by dsimp only; omega, by assumption⟩, o46.cast (by simp [irows])⟩ (by dsimp only; omega) (by repeat' first | exact Sub.nil | apply Sub.cons | rfl | (simp [lk]; omega)) (fun w h => h.del b45)
   ·
    try simp only [decide_eq_true_eq, decide_eq_false_iff_not, Bool.and_eq_true, Bool.or_eq_true, Bool.not_eq_true', Int.not_le, Int.not_lt] at hc0
    obtain rfl : k = n36 := by omega
    refine Sy.heap (fun w h => h.del bk) ?_
    obtain ⟨aw, cw, he, hf⟩ := o'.freeze
    rw [he]
    refine Sy.heap (fun w h => hf h) ?_
    rw [show (irows ws).length = ws.length from List.length_map _]
    have hw8 : ws.length ≤ 8 := by omega
    have hask := share_ok (s := x34) (ws := ws) (by omega) hw8 (fun n hn => by have := hws n hn; omega)
    have hask1 := share_ok (s := x34 + 1) (ws := ws) (by omega) hw8 (fun n hn => by have := hws n hn; omega)
    have hwb := sum_bd (l := ws) (fun n hn => by have := hws n hn; omega)
    clear he hf
    refine sy_exit ?_
    refine sy_tx ?_
    refine sy_tx ?_
    refine sy_bx ?_
    refine sy_nx ?_
    refine sy_seq ?_
    refine sy_tx' [0, 1, 2, 3, 4, 5, 6, 7] rfl ?_
    refine sy_sq ?_
    refine sp rfl (PE.move rfl) rfl ?_
    refine sy_sq ?_
    refine sp rfl (PE.move rfl) rfl ?_
    refine sy_sq ?_
    refine cl rfl cal36 rfl rfl (c_Share (x34) (ws) _ cw (by omega) _ _) ?_
    rintro _ H1 R1 ⟨h, hR1⟩
    obtain rfl := hR1.symm
    obtain ⟨_, ja, ba, hga, rfl, hH1⟩ := h.resolve_left (fun h => h.1 hask)
    clear h
    obtain rfl := hH1.symm
    clear hH1 hR1
    obtain ⟨hfaa, hsea, hnna⟩ := share_fa hask hga
    have hloa := hfaa.len
    refine Sy.heap (fun w h => St.intRows h) ?_
    generalize (shIt ws ja (shInit (x34) ws)).o = a at *
    rw [show Value.slice (some ⟨ba, 0, none⟩) ws.length ws.length = .slice (some ⟨ba, 0, none⟩) a.length ws.length from by rw [hloa]]
    refine sy_sq ?_
    refine sp rfl (PE.move rfl) rfl ?_
    refine sy_sq ?_
    refine sp rfl (PE.extract rfl rfl) rfl ?_
    refine sy_sq ?_
    refine sp rfl (PE.extract rfl rfl) rfl ?_
    refine sy_sq ?_
    refine sp rfl (PE.assign rfl) rfl ?_
    refine sy_sq ?_
    refine sp rfl (PE.assign rfl) rfl ?_
    refine sy_sn ?_
    refine sy_nx ?_
    refine sy_seq ?_
    refine sy_tx' [0, 1, 2, 3, 4, 5, 6, 7, 8] rfl ?_
    refine sy_sq ?_
    refine sp rfl (PE.move rfl) rfl ?_
    refine sy_sq ?_
    refine sp rfl (PE.move rfl) rfl ?_
    refine sy_sq ?_
    refine sp rfl (PE.move rfl) rfl ?_
    refine sy_sq ?_
    refine cl rfl cal37 rfl rfl (c_Fair (x34) (ws) (a) _ _ cw _ (by omega) (by omega) _ _) ?_
    rintro _ H2 R2 ⟨⟨j2, hj2, rfl⟩, hH2, hR2⟩
    obtain rfl := hH2.symm
    obtain rfl := hR2.symm
    rw [show fairR x34 ws a j2 = (true, 0) from by rw [fairR_eq hj2]; simp [hask, hsea, fair_iff.2 ⟨hfaa.le, hfaa.fr, hfaa.sum⟩]]
    clear hj2
    refine sy_sq ?_
    refine sp rfl (PE.move rfl) rfl ?_
    refine sy_sq ?_
    refine sp rfl (PE.extract rfl rfl) rfl ?_
    refine sy_sq ?_
    refine sp rfl (PE.extract rfl rfl) rfl ?_
    refine sy_sq ?_
    refine sp rfl (PE.assign rfl) rfl ?_
    refine sy_sq ?_
    refine sp rfl (PE.assign rfl) rfl ?_
    refine sy_sn ?_
    refine sy_nx ?_
    refine sy_seq ?_
    refine sy_seq ?_
    refine sy_tx' [0, 1, 2, 3, 4, 5, 6, 7, 8, 9, 10, 11, 12, 13, 14, 15, 16] rfl ?_
    refine sy_sq ?_
    refine sp rfl (PE.move rfl) rfl ?_
    refine sy_sq ?_
    refine sp rfl (PE.neq rfl rfl) rfl ?_
    refine sy_sq ?_
    refine sp rfl (PE.move rfl) rfl ?_
    refine sy_sq ?_
    refine sy_case (t := 63) rfl (fun g63 => ?_) (fun g63 => ?_)
    ·
     exact absurd g63 (by first | (simp; done) | (simp_all; done))
    ·
     refine spG rfl rfl rfl rfl (PE.move rfl) rfl ?_
     refine sy_sq ?_
     refine spG rfl rfl rfl rfl (PE.neq rfl rfl) rfl ?_
     refine sy_sq ?_
     refine sp rfl (PE.pick rfl rfl rfl) rfl ?_
     refine sy_sq ?_
     refine sp rfl (PE.move rfl) rfl ?_
     refine sy_sq ?_
     refine sy_case (t := 67) rfl (fun g67 => ?_) (fun g67 => ?_)
     ·
      exact absurd g67 (by first | (simp; done) | (simp_all; done))
     ·
      refine spG rfl rfl rfl rfl (PE.move rfl) rfl ?_
      refine sy_sq ?_
      refine spG rfl rfl rfl rfl (PE.not rfl) rfl ?_
      refine sy_sq ?_
      refine sp rfl (PE.pick rfl rfl rfl) rfl ?_
      refine sy_sq ?_
      refine sp rfl (PE.move rfl) rfl ?_
      refine sy_sq ?_
      refine sy_case (t := 71) rfl (fun g71 => ?_) (fun g71 => ?_)
      ·
       exact absurd g71 (by first | (simp; done) | (simp_all; done))
      ·
       refine spG rfl rfl rfl rfl (PE.move rfl) rfl ?_
       refine sy_sq ?_
       refine spG rfl rfl rfl rfl (PE.lenSl isl42 rfl) rfl ?_
       refine sy_sq ?_
       refine spG rfl rfl rfl rfl (PE.move rfl) rfl ?_
       refine sy_sq ?_
       refine spG rfl rfl rfl rfl (PE.lenSl isl42 rfl) rfl ?_
       refine sy_sq ?_
       refine spG rfl rfl rfl rfl (PE.neq rfl rfl) rfl ?_
       refine sy_sq ?_
       refine sp rfl (PE.pick rfl rfl rfl) rfl ?_
       refine sy_sn ?_
       refine sy_nx ?_
       refine sy_cond rfl (fun hc1 => ?_) (fun hc1 => ?_)
       ·
        exact absurd hc1 (by first | (simp; done) | (rw [decide_eq_false (by omega)]; simp))
       ·
        refine sy_skip ?_
        refine sy_nx ?_
        refine sy_seq ?_
        refine sy_tx' [0, 1] rfl ?_
        refine sy_sq ?_
        refine sp rfl (PE.assign rfl) rfl ?_
        refine sy_sq ?_
        refine sp rfl (PE.assign rfl) rfl ?_
        refine sy_sn ?_
        refine sy_nx ?_
        refine sy_seq ?_
        refine sy_seq ?_
        refine sy_tx' [0, 1, 2] rfl ?_
        refine sy_sq ?_
        refine sp rfl (PE.move rfl) rfl ?_
        refine sy_sq ?_
        refine sp rfl (PE.lenSl isl42 rfl) rfl ?_
        refine sy_sq ?_
        refine sp rfl (PE.move rfl) rfl ?_
        refine sy_sn ?_
        refine sy_nx ?_
        refine sy_block ?_
        have hsum := hfaa.sum_eq
        have hab : ∀ n ∈ a, 0 ≤ n ∧ n ≤ 1000 := fun n hn => by
          obtain ⟨i, hi, rfl⟩ := List.getElem_of_mem hn
          have h1 := hnna i (by omega)
          have h2 := hfaa.le i (by omega)
          have h3 := hws (ws.getD i 0) (List.mem_of_getElem? (getD_get (by omega)))
          rw [getD_of (List.getElem?_eq_getElem hi)] at h1 h2
          omega
        have hwb2 : ∀ n ∈ ws, 0 ≤ n ∧ n ≤ 1000 := fun n hn => by have := hws n hn; omega
        refine sy_loop (ι := {k : Nat // k ≤ a.length}) (fun k => ⟨[(1, .int .u8 which), (2, .int .u8 more), (8, .int .i64 x34), (9, .slice aw ws.length cw), (10, .slice (some ⟨ba, 0, none⟩) a.length ws.length), (14, .int .i64 (a.take k.1).sum), (15, .int .i64 (ws.take k.1).sum), (78, .slice (some ⟨ba, 0, none⟩) a.length ws.length), (79, .int .i64 a.length), (80, .int .i64 k.1)], H, RowsA (some ⟨ba, 0, none⟩) 1 (irows a) :: RowsA aw 1 (irows ws) :: R⟩) (fun k => a.length - k.1) ⟨0, by omega⟩ ?_ (fun k => ?_)
        ·
         exact sy_at (by repeat' first | exact Sub.nil | apply Sub.cons | rfl | (simp [lk]; omega)) (fun _ h => h)
        ·
         obtain ⟨i, hi⟩ := k
         dsimp only at hi ⊢
         refine sy_seq ?_
         refine sy_tx' [0] rfl ?_
         refine sy_sq ?_
         refine sp rfl (PE.lss rfl rfl) rfl ?_
         refine sy_sn ?_
         refine sy_nx ?_
         refine sy_seq ?_
         refine sy_cond rfl (fun hc2 => ?_) (fun hc2 => ?_)
         ·
          simp only [decide_eq_true_eq, decide_eq_false_iff_not, Bool.and_eq_true, Bool.or_eq_true, Bool.not_eq_true', Int.not_le, Int.not_lt] at hc2
          have hle := hfaa.le i (by omega)
          have hnn := hnna i (by omega)
          have ht1 := take_bd (k := i + 1) hab (by omega)
          have ht2 := take_bd (k := i + 1) hwb2 (by omega)
          rw [take_sum (by omega)] at ht1 ht2
          refine sy_addr (a := aw) (sz := 1) (rows := irows ws) (by intro h0; have h1 := congrArg List.length h0; simp only [irows, List.length_map, List.length_nil] at h1; omega) (fun bw ow he => ?_)
          subst he
          refine sy_skip ?_
          refine sy_nx ?_
          refine sy_seq ?_
          refine sy_block ?_
          refine sy_seq ?_
          refine sy_tx' [0, 1, 2, 3, 4] rfl ?_
          refine sy_sq ?_
          refine sp rfl (PE.move rfl) rfl ?_
          refine sy_sq ?_
          refine sp rfl (PE.indexAddr el42 rfl rfl (by omega) (by omega)) rfl ?_
          refine sy_sq ?_
          refine spL rfl rfl (lf0 (x := .int .i64 (a.getD i 0)) sc3 (io_row (l := a) (k := i) (by omega)) rfl) rfl ?_
          refine sy_sq ?_
          refine sp rfl (PE.assign rfl) rfl ?_
          refine sy_sq ?_
          refine sp rfl (PE.assign rfl) rfl ?_
          refine sy_sn ?_
          refine sy_nx ?_
          refine sy_seq ?_
          refine sy_seq ?_
          refine sy_tx' [0, 1, 2, 3, 4, 5, 6, 7, 8, 9] rfl ?_
          refine sy_sq ?_
          refine sp rfl (PE.move rfl) rfl ?_
          refine sy_sq ?_
          refine sp rfl (PE.lss rfl rfl) rfl ?_
          refine sy_sq ?_
          refine sp rfl (PE.move rfl) rfl ?_
          refine sy_sq ?_
          refine sy_case (t := 87) rfl (fun g87 => ?_) (fun g87 => ?_)
          ·
           exact absurd g87 (by rw [decide_eq_false (by omega)]; simp)
          ·
           refine spG rfl rfl rfl rfl (PE.move rfl) rfl ?_
           refine sy_sq ?_
           refine spG rfl rfl rfl rfl (PE.move rfl) rfl ?_
           refine sy_sq ?_
           refine spG rfl rfl rfl rfl (PE.move rfl) rfl ?_
           refine sy_sq ?_
           refine spG rfl rfl rfl rfl (PE.indexAddr el42 rfl rfl (by omega) (by omega)) rfl ?_
           refine sy_sq ?_
           refine spLG rfl rfl rfl rfl rfl (lf0 (x := .int .i64 (ws.getD i 0)) sc3 (io_row (l := ws) (k := i) (by omega)) rfl) rfl ?_
           refine sy_sq ?_
           refine spG rfl rfl rfl rfl (PE.gtr rfl rfl) rfl ?_
           refine sy_sq ?_
           refine sp rfl (PE.pick rfl rfl rfl) rfl ?_
           refine sy_sn ?_
           refine sy_nx ?_
           refine sy_cond rfl (fun hc3 => ?_) (fun hc3 => ?_)
           ·
            exact absurd hc3 (by first | (simp; done) | (rw [decide_eq_false (by omega)]; simp))
           ·
            refine sy_skip ?_
            refine sy_nx ?_
            refine sy_seq ?_
            refine sy_draw [0, 0, 3, 0, 0, 0, 48, 112, 248, 7, 1023] (.tk 0 (.tk 1 (.tk 2 (.tk 3 (.tk 4 (.tk 5 (.tk 6 (.ld 7 (.tk 8 (.tk 9 (.tk 10 .done))))))))))) mixed (by kernel_rfl) ?_
            refine tk rfl (PE.move rfl) rfl ?_
            refine tk rfl (PE.move rfl) rfl ?_
            refine tk rfl (PE.add rfl rfl (by omega)) rfl ?_
            refine tk rfl (PE.move rfl) rfl ?_
            refine tk rfl (PE.move rfl) rfl ?_
            refine tk rfl (PE.move rfl) rfl ?_
            refine tk rfl (PE.indexAddr el42 rfl rfl (by omega) (by omega)) rfl ?_
            refine ld rfl rfl (lf0 (x := .int .i64 (ws.getD i 0)) sc3 (io_row (l := ws) (k := i) (by omega)) rfl) rfl ?_
            refine tk rfl (PE.add rfl rfl (by omega)) rfl ?_
            refine tk rfl (PE.assign rfl) rfl ?_
            refine tk rfl (PE.assign rfl) rfl ?_
            refine sy_dn ?_
            refine sy_nx ?_
            refine sy_seq ?_
            refine sy_tx' [0, 1, 2] rfl ?_
            refine sy_sq ?_
            refine sp rfl (PE.move rfl) rfl ?_
            refine sy_sq ?_
            refine sp rfl (PE.lenSl isl42 rfl) rfl ?_
            refine sy_sq ?_
            refine sp rfl (PE.move rfl) rfl ?_
            refine sy_sn ?_
            refine sy_nx ?_
            refine sy_block ?_
            rw [← take_sum (l := a) (k := i) (by omega), ← take_sum (l := ws) (k := i) (by omega)]
            refine sy_loop (ι := {k : Nat // k ≤ a.length}) (fun k => ⟨[(1, .int .u8 which), (2, .int .u8 more), (8, .int .i64 x34), (9, .slice (some ⟨bw, ow, none⟩) ws.length cw), (10, .slice (some ⟨ba, 0, none⟩) a.length ws.length), (14, .int .i64 (a.take (i + 1)).sum), (15, .int .i64 (ws.take (i + 1)).sum), (78, .slice (some ⟨ba, 0, none⟩) a.length ws.length), (79, .int .i64 a.length), (80, .int .i64 i), (16, .int .i64 i), (17, .int .i64 (a.getD i 0)), (104, .slice (some ⟨ba, 0, none⟩) a.length ws.length), (105, .int .i64 a.length), (106, .int .i64 k.1)], H, RowsA (some ⟨ba, 0, none⟩) 1 (irows a) :: RowsA (some ⟨bw, ow, none⟩) 1 (irows ws) :: R⟩) (fun k => a.length - k.1) ⟨0, by omega⟩ ?_ (fun k => ?_)
            ·
             exact sy_at (by repeat' first | exact Sub.nil | apply Sub.cons | rfl | (simp [lk]; omega)) (fun _ h => h)
            ·
             obtain ⟨j, hj⟩ := k
             dsimp only at hj ⊢
             refine sy_seq ?_
             refine sy_tx' [0] rfl ?_
             refine sy_sq ?_
             refine sp rfl (PE.lss rfl rfl) rfl ?_
             refine sy_sn ?_
             refine sy_nx ?_
             refine sy_seq ?_
             refine sy_cond rfl (fun hc4 => ?_) (fun hc4 => ?_)
             ·
              simp only [decide_eq_true_eq, decide_eq_false_iff_not, Bool.and_eq_true, Bool.or_eq_true, Bool.not_eq_true', Int.not_le, Int.not_lt] at hc4
              have hvj := hnna j (by omega)
              have hlj := hfaa.le j (by omega)
              have hwi := hws (ws.getD i 0) (List.mem_of_getElem? (getD_get (by omega)))
              have hwj := hws (ws.getD j 0) (List.mem_of_getElem? (getD_get (by omega)))
              refine sy_skip ?_
              refine sy_nx ?_
              refine sy_seq ?_
              refine sy_block ?_
              refine sy_seq ?_
              refine sy_tx' [0, 1, 2, 3, 4] rfl ?_
              refine sy_sq ?_
              refine sp rfl (PE.move rfl) rfl ?_
              refine sy_sq ?_
              refine sp rfl (PE.indexAddr el42 rfl rfl (by omega) (by omega)) rfl ?_
              refine sy_sq ?_
              refine spL rfl rfl (lf0 (x := .int .i64 (a.getD j 0)) sc3 (io_row (l := a) (k := j) (by omega)) rfl) rfl ?_
              refine sy_sq ?_
              refine sp rfl (PE.assign rfl) rfl ?_
              refine sy_sq ?_
              refine sp rfl (PE.assign rfl) rfl ?_
              refine sy_sn ?_
              refine sy_nx ?_
              refine sy_seq ?_
              refine sy_tx' [0, 1, 2, 3, 4, 5, 6, 7, 8, 9, 10, 11, 12, 13, 14, 15, 16, 17, 18, 19, 20, 21, 22] rfl ?_
              refine sy_sq ?_
              refine sp rfl (PE.move rfl) rfl ?_
              refine sy_sq ?_
              refine sp rfl (PE.move rfl) rfl ?_
              refine sy_sq ?_
              refine sp rfl (PE.move rfl) rfl ?_
              refine sy_sq ?_
              refine sp rfl (PE.indexAddr el42 rfl rfl (by omega) (by omega)) rfl ?_
              refine sy_sq ?_
              refine spL rfl rfl (lf0 (x := .int .i64 (ws.getD i 0)) sc3 (io_row (l := ws) (k := i) (by omega)) rfl) rfl ?_
              refine sy_sq ?_
              refine sp rfl (PE.lss rfl rfl) rfl ?_
              refine sy_sq ?_
              refine sp rfl (PE.move rfl) rfl ?_
              refine sy_sq ?_
              refine sy_case (t := 117) rfl (fun g117 => ?_) (fun g117 => ?_)
              ·
               simp only [decide_eq_true_eq, decide_eq_false_iff_not, Bool.and_eq_true, Bool.or_eq_true, Bool.not_eq_true', Int.not_le, Int.not_lt] at g117
               have hfr := hfaa.fr i (by omega) (by omega) j (by omega)
               refine spG rfl rfl rfl rfl (PE.move rfl) rfl ?_
               refine sy_sq ?_
               refine spG rfl rfl rfl rfl (PE.move rfl) rfl ?_
               refine sy_sq ?_
               refine spG rfl rfl rfl rfl (PE.add rfl rfl (by omega)) rfl ?_
               refine sy_sq ?_
               refine spG rfl rfl rfl rfl (PE.gtr rfl rfl) rfl ?_
               refine sy_sq ?_
               refine spG rfl rfl rfl rfl (PE.move rfl) rfl ?_
               refine sy_sq ?_
               refine sy_case (t := 122) rfl (fun g122 => ?_) (fun g122 => ?_)
               ·
                exact absurd g122 (by rw [decide_eq_false (by omega)]; simp)
               ·
                refine spG rfl rfl rfl rfl (PE.move rfl) rfl ?_
                refine sy_sq ?_
                refine spG rfl rfl rfl rfl (PE.move rfl) rfl ?_
                refine sy_sq ?_
                refine spG rfl rfl rfl rfl (PE.add rfl rfl (by omega)) rfl ?_
                refine sy_sq ?_
                refine spG rfl rfl rfl rfl (PE.eql rfl rfl) rfl ?_
                refine sy_sq ?_
                refine spG rfl rfl rfl rfl (PE.move rfl) rfl ?_
                refine sy_sq ?_
                refine sy_case (t := 127) rfl (fun g127 => ?_) (fun g127 => ?_)
                ·
                 simp only [decide_eq_true_eq, decide_eq_false_iff_not, Bool.and_eq_true, Bool.or_eq_true, Bool.not_eq_true', Int.not_le, Int.not_lt] at g127
                 refine spG rfl rfl rfl rfl (PE.move rfl) rfl ?_
                 refine sy_sq ?_
                 refine spG rfl rfl rfl rfl (PE.move rfl) rfl ?_
                 refine sy_sq ?_
                 refine spG rfl rfl rfl rfl (PE.gtr rfl rfl) rfl ?_
                 refine sy_sq ?_
                 refine spG rfl rfl rfl rfl (PE.pick rfl rfl rfl) rfl ?_
                 refine sy_sq ?_
                 refine spG rfl rfl rfl rfl (PE.pick rfl rfl rfl) rfl ?_
                 refine sy_sq ?_
                 refine sp rfl (PE.pick rfl rfl rfl) rfl ?_
                 refine sy_sn ?_
                 refine sy_nx ?_
                 refine sy_cond rfl (fun hc5 => ?_) (fun hc5 => ?_)
                 ·
                  exact absurd hc5 (by first | (simp; done) | (rw [decide_eq_false (by omega)]; simp))
                 ·
                  refine sy_skip ?_
                  refine sy_bn ?_
                  refine sy_nx ?_
                  refine sy_tx' [0, 1] rfl ?_
                  refine sy_sq ?_
                  refine sp rfl (PE.add rfl rfl (by omega)) rfl ?_
                  refine sy_sq ?_
                  refine sp rfl (PE.move rfl) rfl ?_
                  refine sy_sn ?_
                  refine sy_nx ?_
                  exact sy_next ⟨j + 1, by omega⟩ (by dsimp only; omega) (by repeat' first | exact Sub.nil | apply Sub.cons | rfl | (simp [lk]; omega)) (fun _ h => h)
                ·
                 refine spN rfl rfl rfl rfl rfl rfl rfl rfl ?_
                 refine sy_sq ?_
                 refine spN rfl rfl rfl rfl rfl rfl rfl rfl ?_
                 refine sy_sq ?_
                 refine spN rfl rfl rfl rfl rfl rfl rfl rfl ?_
                 refine sy_sq ?_
                 refine spG rfl rfl rfl rfl (PE.pick rfl rfl rfl) rfl ?_
                 refine sy_sq ?_
                 refine spG rfl rfl rfl rfl (PE.pick rfl rfl rfl) rfl ?_
                 refine sy_sq ?_
                 refine sp rfl (PE.pick rfl rfl rfl) rfl ?_
                 refine sy_sn ?_
                 refine sy_nx ?_
                 refine sy_condF rfl ?_
                 refine sy_skip ?_
                 refine sy_bn ?_
                 refine sy_nx ?_
                 refine sy_tx' [0, 1] rfl ?_
                 refine sy_sq ?_
                 refine sp rfl (PE.add rfl rfl (by omega)) rfl ?_
                 refine sy_sq ?_
                 refine sp rfl (PE.move rfl) rfl ?_
                 refine sy_sn ?_
                 refine sy_nx ?_
                 exact sy_next ⟨j + 1, by omega⟩ (by dsimp only; omega) (by repeat' first | exact Sub.nil | apply Sub.cons | rfl | (simp [lk]; omega)) (fun _ h => h)
              ·
               refine spN rfl rfl rfl rfl rfl rfl rfl rfl ?_
               refine sy_sq ?_
               refine spN rfl rfl rfl rfl rfl rfl rfl rfl ?_
               refine sy_sq ?_
               refine spN rfl rfl rfl rfl rfl rfl rfl rfl ?_
               refine sy_sq ?_
               refine spN rfl rfl rfl rfl rfl rfl rfl rfl ?_
               refine sy_sq ?_
               refine spN rfl rfl rfl rfl rfl rfl rfl rfl ?_
               refine sy_sq ?_
               refine spU rfl rfl rfl rfl rfl rfl rfl ?_
               refine sy_sq ?_
               refine spU rfl rfl rfl rfl rfl rfl rfl ?_
               refine sy_sq ?_
               refine spU rfl rfl rfl rfl rfl rfl rfl ?_
               refine sy_sq ?_
               refine spU rfl rfl rfl rfl rfl rfl rfl ?_
               refine sy_sq ?_
               refine spU rfl rfl rfl rfl rfl rfl rfl ?_
               refine sy_sq ?_
               refine spU rfl rfl rfl rfl rfl rfl rfl ?_
               refine sy_sq ?_
               refine spU rfl rfl rfl rfl rfl rfl rfl ?_
               refine sy_sq ?_
               refine spU rfl rfl rfl rfl rfl rfl rfl ?_
               refine sy_sq ?_
               refine spU rfl rfl rfl rfl rfl rfl rfl ?_
               refine sy_sq ?_
               refine spN rfl rfl rfl rfl rfl rfl rfl rfl ?_
               refine sy_sq ?_
               refine sp rfl (PE.pick rfl rfl rfl) rfl ?_
               refine sy_sn ?_
               refine sy_nx ?_
               refine sy_condF rfl ?_
               refine sy_skip ?_
               refine sy_bn ?_
               refine sy_nx ?_
               refine sy_tx' [0, 1] rfl ?_
               refine sy_sq ?_
               refine sp rfl (PE.add rfl rfl (by omega)) rfl ?_
               refine sy_sq ?_
               refine sp rfl (PE.move rfl) rfl ?_
               refine sy_sn ?_
               refine sy_nx ?_
               exact sy_next ⟨j + 1, by omega⟩ (by dsimp only; omega) (by repeat' first | exact Sub.nil | apply Sub.cons | rfl | (simp [lk]; omega)) (fun _ h => h)
             ·
              refine sy_exit ?_
              refine sy_tx ?_
              refine sy_tx ?_
              refine sy_bx ?_
              refine sy_bn ?_
              refine sy_nx ?_
              refine sy_tx' [0, 1] rfl ?_
              refine sy_sq ?_
              refine sp rfl (PE.add rfl rfl (by omega)) rfl ?_
              refine sy_sq ?_
              refine sp rfl (PE.move rfl) rfl ?_
              refine sy_sn ?_
              refine sy_nx ?_
              exact sy_next ⟨i + 1, by omega⟩ (by dsimp only; omega) (by repeat' first | exact Sub.nil | apply Sub.cons | rfl | (simp [lk]; omega)) (fun _ h => h)
         ·
          simp only [decide_eq_true_eq, decide_eq_false_iff_not, Bool.and_eq_true, Bool.or_eq_true, Bool.not_eq_true', Int.not_le, Int.not_lt] at hc2
          rw [List.take_of_length_le (show a.length ≤ i by omega), List.take_of_length_le (show ws.length ≤ i by omega)]
          refine sy_exit ?_
          refine sy_tx ?_
          refine sy_tx ?_
          refine sy_bx ?_
          refine sy_nx ?_
          refine sy_seq ?_
          refine sy_seq ?_
          refine sy_tx' [0, 1, 2, 3, 4] rfl ?_
          refine sy_sq ?_
          refine sp rfl (PE.move rfl) rfl ?_
          refine sy_sq ?_
          refine sp rfl (PE.move rfl) rfl ?_
          refine sy_sq ?_
          refine sp rfl (PE.move rfl) rfl ?_
          refine sy_sq ?_
          refine sp rfl (PE.min rfl rfl) rfl ?_
          refine sy_sq ?_
          refine sp rfl (PE.neq rfl rfl) rfl ?_
          refine sy_sn ?_
          refine sy_nx ?_
          refine sy_cond rfl (fun hc6 => ?_) (fun hc6 => ?_)
          ·
           exact absurd hc6 (by first | (simp; done) | (rw [decide_eq_false (by omega)]; simp))
          ·
           refine sy_skip ?_
           refine sy_nx ?_
           refine sy_seq ?_
           refine sy_tx' [0, 1, 2, 3, 4, 5, 6, 7, 8] rfl ?_
           refine sy_sq ?_
           refine sp rfl (PE.move rfl) rfl ?_
           refine sy_sq ?_
           refine sp rfl (PE.add rfl rfl (by omega)) rfl ?_
           refine sy_sq ?_
           refine sp rfl (PE.move rfl) rfl ?_
           refine sy_sq ?_
           refine cl rfl cal36 rfl rfl (c_Share (x34 + 1) (ws) _ cw (by omega) _ _) ?_
           rintro _ H1 R1 ⟨h, hR1⟩
           obtain rfl := hR1.symm
           obtain ⟨_, jnx, bn, hgnx, rfl, hH1⟩ := h.resolve_left (fun h => h.1 hask1)
           clear h
           obtain rfl := hH1.symm
           clear hH1 hR1
           obtain ⟨hfanx, hsenx, hnnnx⟩ := share_fa hask1 hgnx
           have hlonx := hfanx.len
           refine Sy.heap (fun w h => St.intRows h) ?_
           generalize (shIt ws jnx (shInit (x34 + 1) ws)).o = nx at *
           rw [show Value.slice (some ⟨bn, 0, none⟩) ws.length ws.length = .slice (some ⟨bn, 0, none⟩) nx.length ws.length from by rw [hlonx]]
           refine sy_sq ?_
           refine sp rfl (PE.move rfl) rfl ?_
           refine sy_sq ?_
           refine sp rfl (PE.extract rfl rfl) rfl ?_
           refine sy_sq ?_
           refine sp rfl (PE.extract rfl rfl) rfl ?_
           refine sy_sq ?_
           refine sp rfl (PE.assign rfl) rfl ?_
           refine sy_sq ?_
           refine sp rfl (PE.assign rfl) rfl ?_
           refine sy_sn ?_
           refine sy_nx ?_
           refine sy_seq ?_
           refine sy_seq ?_
           refine sy_tx' [0, 1, 2, 3, 4, 5, 6, 7, 8] rfl ?_
           refine sy_sq ?_
           refine sp rfl (PE.move rfl) rfl ?_
           refine sy_sq ?_
           refine sp rfl (PE.neq rfl rfl) rfl ?_
           refine sy_sq ?_
           refine sp rfl (PE.move rfl) rfl ?_
           refine sy_sq ?_
           refine sy_case (t := 150) rfl (fun g150 => ?_) (fun g150 => ?_)
           ·
            exact absurd g150 (by first | (simp; done) | (simp_all; done))
           ·
            refine spG rfl rfl rfl rfl (PE.move rfl) rfl ?_
            refine sy_sq ?_
            refine spG rfl rfl rfl rfl (PE.lenSl isl42 rfl) rfl ?_
            refine sy_sq ?_
            refine spG rfl rfl rfl rfl (PE.move rfl) rfl ?_
            refine sy_sq ?_
            refine spG rfl rfl rfl rfl (PE.lenSl isl42 rfl) rfl ?_
            refine sy_sq ?_
            refine spG rfl rfl rfl rfl (PE.neq rfl rfl) rfl ?_
            refine sy_sq ?_
            refine sp rfl (PE.pick rfl rfl rfl) rfl ?_
            refine sy_sn ?_
            refine sy_nx ?_
            refine sy_cond rfl (fun hc7 => ?_) (fun hc7 => ?_)
            ·
             exact absurd hc7 (by first | (simp; done) | (rw [decide_eq_false (by omega)]; simp))
            ·
             have hnx := share_next hfaa hfanx
             refine sy_skip ?_
             refine sy_nx ?_
             refine sy_seq ?_
             refine sy_tx' [0] rfl ?_
             refine sy_sq ?_
             refine sp rfl (PE.assign rfl) rfl ?_
             refine sy_sn ?_
             refine sy_nx ?_
             refine sy_seq ?_
             refine sy_seq ?_
             refine sy_tx' [0, 1, 2] rfl ?_
             refine sy_sq ?_
             refine sp rfl (PE.move rfl) rfl ?_
             refine sy_sq ?_
             refine sp rfl (PE.lenSl isl42 rfl) rfl ?_
             refine sy_sq ?_
             refine sp rfl (PE.move rfl) rfl ?_
             refine sy_sn ?_
             refine sy_nx ?_
             refine sy_block ?_
             have hnb : ∀ n ∈ nx, 0 ≤ n ∧ n ≤ 1000 := fun n hn => by
               obtain ⟨i, hi, rfl⟩ := List.getElem_of_mem hn
               have h1 := hnnnx i (by omega)
               have h2 := hfanx.le i (by omega)
               have h3 := hws (ws.getD i 0) (List.mem_of_getElem? (getD_get (by omega)))
               rw [getD_of (List.getElem?_eq_getElem hi)] at h1 h2
               omega
             refine sy_loop (ι := {k : Nat // k ≤ nx.length}) (fun k => ⟨[(1, .int .u8 which), (2, .int .u8 more), (8, .int .i64 x34), (9, .slice aw ws.length cw), (10, .slice (some ⟨ba, 0, none⟩) a.length ws.length), (14, .int .i64 a.sum), (15, .int .i64 ws.sum), (20, .slice (some ⟨bn, 0, none⟩) nx.length ws.length), (21, .int .i64 ((nx.take k.1).sum - (a.take k.1).sum)), (157, .slice (some ⟨bn, 0, none⟩) nx.length ws.length), (158, .int .i64 nx.length), (159, .int .i64 k.1)], H, RowsA (some ⟨bn, 0, none⟩) 1 (irows nx) :: RowsA (some ⟨ba, 0, none⟩) 1 (irows a) :: RowsA aw 1 (irows ws) :: R⟩) (fun k => nx.length - k.1) ⟨0, by omega⟩ ?_ (fun k => ?_)
             ·
              exact sy_at (by repeat' first | exact Sub.nil | apply Sub.cons | rfl | (simp [lk]; omega)) (fun _ h => h)
             ·
              obtain ⟨i, hi⟩ := k
              dsimp only at hi ⊢
              refine sy_seq ?_
              refine sy_tx' [0] rfl ?_
              refine sy_sq ?_
              refine sp rfl (PE.lss rfl rfl) rfl ?_
              refine sy_sn ?_
              refine sy_nx ?_
              refine sy_seq ?_
              refine sy_cond rfl (fun hc8 => ?_) (fun hc8 => ?_)
              ·
               simp only [decide_eq_true_eq, decide_eq_false_iff_not, Bool.and_eq_true, Bool.or_eq_true, Bool.not_eq_true', Int.not_le, Int.not_lt] at hc8
               have hle := hnx.1 i (by omega)
               have hnn := hnna i (by omega)
               have hna := hab (a.getD i 0) (List.mem_of_getElem? (getD_get (by omega)))
               have ht1 := take_bd (k := i) hab (by omega)
               have ht2 := take_bd (k := i) hnb (by omega)
               refine sy_skip ?_
               refine sy_nx ?_
               refine sy_seq ?_
               refine sy_block ?_
               refine sy_seq ?_
               refine sy_tx' [0, 1, 2, 3, 4] rfl ?_
               refine sy_sq ?_
               refine sp rfl (PE.move rfl) rfl ?_
               refine sy_sq ?_
               refine sp rfl (PE.indexAddr el42 rfl rfl (by omega) (by omega)) rfl ?_
               refine sy_sq ?_
               refine spL rfl rfl (lf0 (x := .int .i64 (nx.getD i 0)) sc3 (io_row (l := nx) (k := i) (by omega)) rfl) rfl ?_
               refine sy_sq ?_
               refine sp rfl (PE.assign rfl) rfl ?_
               refine sy_sq ?_
               refine sp rfl (PE.assign rfl) rfl ?_
               refine sy_sn ?_
               refine sy_nx ?_
               refine sy_seq ?_
               refine sy_seq ?_
               refine sy_tx' [0, 1, 2, 3, 4, 5, 6, 7, 8, 9, 10, 11, 12, 13, 14] rfl ?_
               refine sy_sq ?_
               refine sp rfl (PE.move rfl) rfl ?_
               refine sy_sq ?_
               refine sp rfl (PE.move rfl) rfl ?_
               refine sy_sq ?_
               refine sp rfl (PE.move rfl) rfl ?_
               refine sy_sq ?_
               refine sp rfl (PE.indexAddr el42 rfl rfl (by omega) (by omega)) rfl ?_
               refine sy_sq ?_
               refine spL rfl rfl (lf0 (x := .int .i64 (a.getD i 0)) sc3 (io_row (l := a) (k := i) (by omega)) rfl) rfl ?_
               refine sy_sq ?_
               refine sp rfl (PE.lss rfl rfl) rfl ?_
               refine sy_sq ?_
               refine sp rfl (PE.move rfl) rfl ?_
               refine sy_sq ?_
               refine sy_case (t := 170) rfl (fun g170 => ?_) (fun g170 => ?_)
               ·
                exact absurd g170 (by rw [decide_eq_false (by omega)]; simp)
               ·
                refine spG rfl rfl rfl rfl (PE.move rfl) rfl ?_
                refine sy_sq ?_
                refine spG rfl rfl rfl rfl (PE.move rfl) rfl ?_
                refine sy_sq ?_
                refine spG rfl rfl rfl rfl (PE.move rfl) rfl ?_
                refine sy_sq ?_
                refine spG rfl rfl rfl rfl (PE.indexAddr el42 rfl rfl (by omega) (by omega)) rfl ?_
                refine sy_sq ?_
                refine spLG rfl rfl rfl rfl rfl (lf0 (x := .int .i64 (a.getD i 0)) sc3 (io_row (l := a) (k := i) (by omega)) rfl) rfl ?_
                refine sy_sq ?_
                refine spG rfl rfl rfl rfl (PE.add rfl rfl (by omega)) rfl ?_
                refine sy_sq ?_
                refine spG rfl rfl rfl rfl (PE.gtr rfl rfl) rfl ?_
                refine sy_sq ?_
                refine sp rfl (PE.pick rfl rfl rfl) rfl ?_
                refine sy_sn ?_
                refine sy_nx ?_
                refine sy_cond rfl (fun hc9 => ?_) (fun hc9 => ?_)
                ·
                 exact absurd hc9 (by first | (simp; done) | (rw [decide_eq_false (by omega)]; simp))
                ·
                 refine sy_skip ?_
                 refine sy_nx ?_
                 refine sy_tx' [0, 1, 2, 3, 4, 5, 6, 7, 8] rfl ?_
                 refine sy_sq ?_
                 refine sp rfl (PE.move rfl) rfl ?_
                 refine sy_sq ?_
                 refine sp rfl (PE.move rfl) rfl ?_
                 refine sy_sq ?_
                 refine sp rfl (PE.move rfl) rfl ?_
                 refine sy_sq ?_
                 refine sp rfl (PE.move rfl) rfl ?_
                 refine sy_sq ?_
                 refine sp rfl (PE.indexAddr el42 rfl rfl (by omega) (by omega)) rfl ?_
                 refine sy_sq ?_
                 refine spL rfl rfl (lf0 (x := .int .i64 (a.getD i 0)) sc3 (io_row (l := a) (k := i) (by omega)) rfl) rfl ?_
                 refine sy_sq ?_
                 refine sp rfl (PE.sub rfl rfl (by omega)) rfl ?_
                 refine sy_sq ?_
                 refine sp rfl (PE.add rfl rfl (by omega)) rfl ?_
                 refine sy_sq ?_
                 refine sp rfl (PE.assign rfl) rfl ?_
                 refine sy_sn ?_
                 refine sy_bn ?_
                 refine sy_nx ?_
                 refine sy_tx' [0, 1] rfl ?_
                 refine sy_sq ?_
                 refine sp rfl (PE.add rfl rfl (by omega)) rfl ?_
                 refine sy_sq ?_
                 refine sp rfl (PE.move rfl) rfl ?_
                 refine sy_sn ?_
                 refine sy_nx ?_
                 rw [show (nx.take i).sum - (a.take i).sum + (nx.getD i 0 - a.getD i 0) = (nx.take (i + 1)).sum - (a.take (i + 1)).sum from by rw [take_sum (by omega), take_sum (by omega)]; omega]
                 exact sy_next ⟨i + 1, by omega⟩ (by dsimp only; omega) (by repeat' first | exact Sub.nil | apply Sub.cons | rfl | (simp [lk]; omega)) (fun _ h => h)
              ·
               simp only [decide_eq_true_eq, decide_eq_false_iff_not, Bool.and_eq_true, Bool.or_eq_true, Bool.not_eq_true', Int.not_le, Int.not_lt] at hc8
               rw [List.take_of_length_le (show a.length ≤ i by omega), List.take_of_length_le (show nx.length ≤ i by omega)]
               refine sy_exit ?_
               refine sy_tx ?_
               refine sy_tx ?_
               refine sy_bx ?_
               refine sy_nx ?_
               refine sy_seq ?_
               refine sy_seq ?_
               refine sy_tx' [0, 1, 2, 3, 4, 5] rfl ?_
               refine sy_sq ?_
               refine sp rfl (PE.move rfl) rfl ?_
               refine sy_sq ?_
               refine sp rfl (PE.move rfl) rfl ?_
               refine sy_sq ?_
               refine sp rfl (PE.move rfl) rfl ?_
               refine sy_sq ?_
               refine sp rfl (PE.sub rfl rfl (by omega)) rfl ?_
               refine sy_sq ?_
               refine sp rfl (PE.min rfl rfl) rfl ?_
               refine sy_sq ?_
               refine sp rfl (PE.neq rfl rfl) rfl ?_
               refine sy_sn ?_
               refine sy_nx ?_
               refine sy_cond rfl (fun hc10 => ?_) (fun hc10 => ?_)
               ·
                exact absurd hc10 (by first | (simp; done) | (rw [decide_eq_false (by omega)]; simp))
               ·
                refine sy_skip ?_
                refine sy_nx ?_
                refine sy_seq ?_
                refine sy_seq ?_
                refine sy_tx' [0, 1, 2] rfl ?_
                refine sy_sq ?_
                refine sp rfl (PE.move rfl) rfl ?_
                refine sy_sq ?_
                refine sp rfl (PE.lenSl isl42 rfl) rfl ?_
                refine sy_sq ?_
                refine sp rfl (PE.eql rfl rfl) rfl ?_
                refine sy_sn ?_
                refine sy_nx ?_
                refine sy_cond rfl (fun hc11 => ?_) (fun hc11 => ?_)
                ·
                 refine sy_seq ?_
                 refine sy_tx' [0, 1] rfl ?_
                 refine sy_sq ?_
                 refine clV rfl cal16 rfl rfl (c_awake _ _) ?_
                 refine sy_sq ?_
                 refine sp rfl (PE.assign rfl) rfl ?_
                 refine sy_sn ?_
                 refine sy_nx ?_
                 refine sy_ret ?_
                 refine sy_tr ?_
                 exact sy_return (vs := [_]) rfl (.cons (RV.tmp rfl) .nil) rfl ⟨rfl, rfl, rfl⟩ (fun _ h => by repeat first | exact h | replace h := St.tail h | replace h := St.ftail h | replace h := St.drop h)
                ·
                 try simp only [decide_eq_true_eq, decide_eq_false_iff_not, Bool.and_eq_true, Bool.or_eq_true, Bool.not_eq_true', Int.not_le, Int.not_lt] at hc11
                 have hw0 : (0 : Int) < ws.length := by omega
                 obtain ⟨i, hi⟩ : ∃ i : Nat, which % (ws.length : Int) = i := ⟨_, (Int.toNat_of_nonneg (Int.emod_nonneg _ (by omega))).symm⟩
                 have hil : i < ws.length := by have := Int.emod_lt_of_pos which hw0; omega
                 have hr1 := Int.emod_nonneg more (show (ws.length : Int) ≠ 0 by omega)
                 have hr2 := Int.emod_lt_of_pos more hw0
                 have hwi := hws (ws.getD i 0) (List.mem_of_getElem? (getD_get (by omega)))
                 refine sy_addr (a := aw) (sz := 1) (rows := irows ws) (by intro h0; have h1 := congrArg List.length h0; simp only [irows, List.length_map, List.length_nil] at h1; omega) (fun bw ow he => ?_)
                 subst he
                 refine sy_skip ?_
                 refine sy_nx ?_
                 refine sy_seq ?_
                 refine sy_tx' [0, 1, 2, 3, 4, 5] rfl ?_
                 refine sy_sq ?_
                 refine sp rfl (PE.move rfl) rfl ?_
                 refine sy_sq ?_
                 refine sp rfl (PE.conv64 us5 ik3 rfl (by omega)) rfl ?_
                 refine sy_sq ?_
                 refine sp rfl (PE.move rfl) rfl ?_
                 refine sy_sq ?_
                 refine sp rfl (PE.lenSl isl42 rfl) rfl ?_
                 refine sy_sq ?_
                 refine sp rfl (PE.rem rfl rfl (by omega)) rfl ?_
                 refine sy_sq ?_
                 refine sp rfl (PE.assign rfl) rfl ?_
                 refine sy_sn ?_
                 refine sy_nx ?_
                 refine sy_seq ?_
                 refine sy_tx' [0, 1, 2] rfl ?_
                 refine sy_sq ?_
                 rw [hi]
                 refine sp rfl (PE.move rfl) rfl ?_
                 refine sy_sq ?_
                 refine cl rfl cal49 rfl rfl (c_clone_int ws _ cw (by omega) _ _) ?_
                 rintro _ _ _ ⟨o, rfl, rfl, rfl, ho⟩
                 obtain ⟨bu, cu, ju, h1, h2⟩ := o.own (ho rfl)
                 rw [h1, h2, show (irows ws).flatten = ints ws from irows_flat ws, show (irows ws).length = ws.length from List.length_map _, List.singleton_append]
                 clear h1 h2 ho
                 refine sy_sq ?_
                 refine sp rfl (PE.assign rfl) rfl ?_
                 refine sy_sn ?_
                 refine sy_nx ?_
                 refine sy_seq ?_
                 refine sy_tx' [0, 1, 2, 3, 4, 5, 6, 7, 8, 9] rfl ?_
                 refine sy_sq ?_
                 refine sp rfl (PE.move rfl) rfl ?_
                 refine sy_sq ?_
                 refine sp rfl (PE.move rfl) rfl ?_
                 refine sy_sq ?_
                 refine sp rfl (PE.indexAddr el42 rfl rfl (by omega) (by omega)) rfl ?_
                 refine sy_sq ?_
                 refine spL rfl rfl (lh sc3 rfl (ints_atj (l := ws) (i := i) (by first | (simp only [List.length_set]; omega) | omega) (by omega))) rfl ?_
                 refine sy_sq ?_
                 refine sp rfl (PE.move rfl) rfl ?_
                 refine sy_sq ?_
                 refine sp rfl (PE.conv64 us5 ik3 rfl (by omega)) rfl ?_
                 refine sy_sq ?_
                 refine sp rfl (PE.rem rfl rfl (by omega)) rfl ?_
                 refine sy_sq ?_
                 refine sp rfl (PE.add rfl rfl (by omega)) rfl ?_
                 refine sy_sq ?_
                 refine sp rfl (PE.indexAddr el42 rfl rfl (by omega) (by omega)) rfl ?_
                 refine sy_sq ?_
                 refine stoE (l' := ints ((ws).set i (ws.getD i 0 + more % 9)) ++ _) rfl rfl rfl cn3 rfl rfl rfl (spl_ij (by first | (simp only [List.length_set]; omega) | omega) (by omega)) (by rw [List.length_append, ints_length]; (first | rw [List.length_set] | skip); show 0 + ((i : Nat) : Int).toNat * 1 + 1 ≤ _; omega) ?_
                 refine sy_sn ?_
                 refine sy_nx ?_
                 refine sy_seq ?_
                 refine sy_tx' [0, 1, 2, 3, 4, 5, 6, 7] rfl ?_
                 refine sy_sq ?_
                 refine Sy.heap (fun w h => St.intRowsJ h) ?_
                 obtain ⟨up, hup⟩ : ∃ up, up = ws.set i (ws.getD i 0 + more % 9) := ⟨_, rfl⟩
                 rw [← hup]
                 have hul : up.length = ws.length := by rw [hup, List.length_set]
                 rw [show Value.slice (some ⟨bu, 0, none⟩) ws.length cu = .slice (some ⟨bu, 0, none⟩) up.length cu from by rw [hul]]
                 have haskU := share_ok (s := x34) (ws := up) (by omega) (by omega) (fun n hn => by
                   rw [hup] at hn
                   rcases List.mem_or_eq_of_mem_set hn with h | h
                   · exact hwb2 n h
                   · omega)
                 refine sp rfl (PE.move rfl) rfl ?_
                 refine sy_sq ?_
                 refine sp rfl (PE.move rfl) rfl ?_
                 refine sy_sq ?_
                 refine cl rfl cal36 rfl rfl (c_Share (x34) (up) _ _ (by omega) _ _) ?_
                 rintro _ H1 R1 ⟨h, hR1⟩
                 obtain rfl := hR1.symm
                 obtain ⟨_, jaf, bf, hgaf, rfl, hH1⟩ := h.resolve_left (fun h => h.1 haskU)
                 clear h
                 obtain rfl := hH1.symm
                 clear hH1 hR1
                 obtain ⟨hfaaf, hseaf, hnnaf⟩ := share_fa haskU hgaf
                 have hloaf := hfaaf.len
                 refine Sy.heap (fun w h => St.intRows h) ?_
                 generalize (shIt up jaf (shInit (x34) up)).o = af at *
                 rw [show Value.slice (some ⟨bf, 0, none⟩) up.length up.length = .slice (some ⟨bf, 0, none⟩) af.length up.length from by rw [hloaf]]
                 refine sy_sq ?_
                 refine sp rfl (PE.move rfl) rfl ?_
                 refine sy_sq ?_
                 refine sp rfl (PE.extract rfl rfl) rfl ?_
                 refine sy_sq ?_
                 refine sp rfl (PE.extract rfl rfl) rfl ?_
                 refine sy_sq ?_
                 refine sp rfl (PE.assign rfl) rfl ?_
                 refine sy_sq ?_
                 refine sp rfl (PE.assign rfl) rfl ?_
                 refine sy_sn ?_
                 refine sy_nx ?_
                 refine sy_seq ?_
                 refine sy_seq ?_
                 refine sy_draw [0, 1, 3, 7, 15, 7, 39, 127, 255, 511, 1023, 1023, 4095, 8191, 1023, 1023, 50175, 115711, 262143, 524287] (.tk 0 (.tk 1 (.tk 2 (.tk 3 (.tk 4 (.tk 5 (.tk 6 (.tk 7 (.tk 8 (.tk 9 (.tk 10 (.tk 11 (.tk 12 (.ld 13 (.tk 14 (.tk 15 (.tk 16 (.ld 17 (.tk 18 (.tk 19 .done)))))))))))))))))))) mixed (by kernel_rfl) ?_
                 refine tk rfl (PE.move rfl) rfl ?_
                 refine tk rfl (PE.neq rfl rfl) rfl ?_
                 refine tk rfl (PE.move rfl) rfl ?_
                 refine sy_case (t := 222) rfl (fun g222 => ?_) (fun g222 => ?_)
                 ·
                  exact absurd g222 (by first | (simp; done) | (simp_all; done))
                 ·
                  refine tkG rfl rfl rfl rfl (PE.move rfl) rfl ?_
                  refine tkG rfl rfl rfl rfl (PE.lenSl isl42 rfl) rfl ?_
                  refine tkG rfl rfl rfl rfl (PE.move rfl) rfl ?_
                  refine tkG rfl rfl rfl rfl (PE.lenSl isl42 rfl) rfl ?_
                  refine tkG rfl rfl rfl rfl (PE.neq rfl rfl) rfl ?_
                  refine tk rfl (PE.pick rfl rfl rfl) rfl ?_
                  refine tk rfl (PE.move rfl) rfl ?_
                  refine sy_case (t := 229) rfl (fun g229 => ?_) (fun g229 => ?_)
                  ·
                   exact absurd g229 (by rw [decide_eq_false (by omega)]; simp)
                  ·
                   have hsu := share_up hfaa (getD_get hil) (d := more % 9) (by omega) (by rw [← hup]; exact hfaaf)
                   refine tkG rfl rfl rfl rfl (PE.move rfl) rfl ?_
                   refine tkG rfl rfl rfl rfl (PE.move rfl) rfl ?_
                   refine tkG rfl rfl rfl rfl (PE.indexAddr el42 rfl rfl (by omega) (by omega)) rfl ?_
                   refine ldG rfl rfl rfl rfl rfl (lf0 (x := .int .i64 (af.getD i 0)) sc3 (io_row (l := af) (k := i) (by omega)) rfl) rfl ?_
                   refine tkG rfl rfl rfl rfl (PE.move rfl) rfl ?_
                   refine tkG rfl rfl rfl rfl (PE.move rfl) rfl ?_
                   refine tkG rfl rfl rfl rfl (PE.indexAddr el42 rfl rfl (by omega) (by omega)) rfl ?_
                   refine ldG rfl rfl rfl rfl rfl (lf0 (x := .int .i64 (a.getD i 0)) sc3 (io_row (l := a) (k := i) (by omega)) rfl) rfl ?_
                   refine tkG rfl rfl rfl rfl (PE.lss rfl rfl) rfl ?_
                   refine tk rfl (PE.pick rfl rfl rfl) rfl ?_
                   refine sy_dn ?_
                   refine sy_nx ?_
                   refine sy_cond rfl (fun hc12 => ?_) (fun hc12 => ?_)
                   ·
                    exact absurd hc12 (by first | (simp; done) | (rw [decide_eq_false (by omega)]; simp))
                   ·
                    refine sy_skip ?_
                    refine sy_nx ?_
                    refine sy_seq ?_
                    refine sy_tx' [0, 1, 2, 3, 4, 5, 6, 7, 8, 9, 10, 11] rfl ?_
                    refine sy_sq ?_
                    refine sp rfl (PE.move rfl) rfl ?_
                    refine sy_sq ?_
                    refine sp rfl (PE.add rfl rfl (by omega)) rfl ?_
                    refine sy_sq ?_
                    refine sp rfl (PE.move rfl) rfl ?_
                    refine sy_sq ?_
                    refine sp rfl (PE.conv64 us5 ik3 rfl (by omega)) rfl ?_
                    refine sy_sq ?_
                    refine sp rfl (PE.move rfl) rfl ?_
                    refine sy_sq ?_
                    refine sp rfl (PE.lenSl isl42 rfl) rfl ?_
                    refine sy_sq ?_
                    refine sp rfl (PE.rem rfl rfl (by omega)) rfl ?_
                    refine sy_sq ?_
                    refine sp rfl (PE.add rfl rfl (by omega)) rfl ?_
                    refine sy_sq ?_
                    refine sp rfl (PE.move rfl) rfl ?_
                    refine sy_sq ?_
                    refine sp rfl (PE.lenSl isl42 rfl) rfl ?_
                    refine sy_sq ?_
                    refine sp rfl (PE.rem rfl rfl (by omega)) rfl ?_
                    refine sy_sq ?_
                    refine sp rfl (PE.assign rfl) rfl ?_
                    refine sy_sn ?_
                    refine sy_nx ?_
                    refine sy_seq ?_
                    refine sy_tx' [0, 1, 2] rfl ?_
                    refine sy_sq ?_
                    obtain ⟨k2, hk2⟩ : ∃ k2 : Nat, ((i : Int) + 1 + more % ws.length) % (ws.length : Int) = k2 := ⟨_, (Int.toNat_of_nonneg (Int.emod_nonneg _ (by omega))).symm⟩
                    have hkl : k2 < ws.length := by have := Int.emod_lt_of_pos ((i : Int) + 1 + more % ws.length) hw0; omega
                    rw [hk2]
                    refine sp rfl (PE.move rfl) rfl ?_
                    refine sy_sq ?_
                    refine cl rfl cal49 rfl rfl (c_clone_int a _ _ (by omega) _ _) ?_
                    rintro _ _ _ ⟨o, rfl, rfl, rfl, ho⟩
                    obtain ⟨bo, co, jo, h1, h2⟩ := o.own (ho rfl)
                    rw [h1, h2, show (irows a).flatten = ints a from irows_flat a, show (irows a).length = a.length from List.length_map _, List.singleton_append]
                    clear h1 h2 ho
                    refine sy_sq ?_
                    refine sp rfl (PE.assign rfl) rfl ?_
                    refine sy_sn ?_
                    refine sy_nx ?_
                    refine sy_seq ?_
                    refine sy_seq ?_
                    refine sy_tx' [0, 1, 2, 3, 4, 5, 6, 7, 8, 9] rfl ?_
                    refine sy_sq ?_
                    refine sp rfl (PE.move rfl) rfl ?_
                    refine sy_sq ?_
                    refine sp rfl (PE.move rfl) rfl ?_
                    refine sy_sq ?_
                    refine sp rfl (PE.indexAddr el42 rfl rfl (by omega) (by omega)) rfl ?_
                    refine sy_sq ?_
                    refine spL rfl rfl (lh sc3 rfl (ints_atj (l := a) (i := i) (by first | (simp only [List.length_set]; omega) | omega) (by omega))) rfl ?_
                    refine sy_sq ?_
                    refine sp rfl (PE.gtr rfl rfl) rfl ?_
                    refine sy_sq ?_
                    refine sp rfl (PE.move rfl) rfl ?_
                    refine sy_sq ?_
                    refine sy_case (t := 258) rfl (fun g258 => ?_) (fun g258 => ?_)
                    ·
                     simp only [decide_eq_true_eq, decide_eq_false_iff_not, Bool.and_eq_true, Bool.or_eq_true, Bool.not_eq_true', Int.not_le, Int.not_lt] at g258
                     refine spG rfl rfl rfl rfl (PE.move rfl) rfl ?_
                     refine sy_sq ?_
                     refine spG rfl rfl rfl rfl (PE.move rfl) rfl ?_
                     refine sy_sq ?_
                     refine spG rfl rfl rfl rfl (PE.neq rfl rfl) rfl ?_
                     refine sy_sq ?_
                     refine sp rfl (PE.pick rfl rfl rfl) rfl ?_
                     refine sy_sn ?_
                     refine sy_nx ?_
                     refine sy_cond rfl (fun hc13 => ?_) (fun hc13 => ?_)
                     ·
                      simp only [decide_eq_true_eq, decide_eq_false_iff_not, Bool.and_eq_true, Bool.or_eq_true, Bool.not_eq_true', Int.not_le, Int.not_lt] at hc13
                      have hik : i ≠ k2 := by omega
                      have hai := hab (a.getD i 0) (List.mem_of_getElem? (getD_get (by omega)))
                      have hak := hws (ws.getD k2 0) (List.mem_of_getElem? (getD_get (by omega)))
                      have hak2 := hfaa.le k2 (by omega)
                      have hak3 := hnna k2 (by omega)
                      have hok2 : (a.set i (a.getD i 0 - 1)).getD k2 0 = a.getD k2 0 := by simp [List.getD, List.getElem?_set_ne hik]
                      refine sy_seq ?_
                      refine sy_tx' [0, 1, 2, 3, 4, 5, 6] rfl ?_
                      refine sy_sq ?_
                      refine sp rfl (PE.move rfl) rfl ?_
                      refine sy_sq ?_
                      refine sp rfl (PE.move rfl) rfl ?_
                      refine sy_sq ?_
                      refine sp rfl (PE.indexAddr el42 rfl rfl (by omega) (by omega)) rfl ?_
                      refine sy_sq ?_
                      refine spL rfl rfl (lh sc3 rfl (ints_atj (l := a) (i := i) (by first | (simp only [List.length_set]; omega) | omega) (by omega))) rfl ?_
                      refine sy_sq ?_
                      refine sp rfl (PE.sub rfl rfl (by omega)) rfl ?_
                      refine sy_sq ?_
                      refine sp rfl (PE.indexAddr el42 rfl rfl (by omega) (by omega)) rfl ?_
                      refine sy_sq ?_
                      refine stoE (l' := ints ((a).set i (a.getD i 0 - 1)) ++ _) rfl rfl rfl cn3 rfl rfl rfl (spl_ij (by first | (simp only [List.length_set]; omega) | omega) (by omega)) (by rw [List.length_append, ints_length]; (first | rw [List.length_set] | skip); show 0 + ((i : Nat) : Int).toNat * 1 + 1 ≤ _; omega) ?_
                      refine sy_sn ?_
                      refine sy_nx ?_
                      refine sy_seq ?_
                      refine sy_tx' [0, 1, 2, 3, 4, 5, 6] rfl ?_
                      refine sy_sq ?_
                      refine sp rfl (PE.move rfl) rfl ?_
                      refine sy_sq ?_
                      refine sp rfl (PE.move rfl) rfl ?_
                      refine sy_sq ?_
                      refine sp rfl (PE.indexAddr el42 rfl rfl (by omega) (by omega)) rfl ?_
                      refine sy_sq ?_
                      refine spL rfl rfl (lh sc3 rfl (ints_atj (l := a.set i (a.getD i 0 - 1)) (i := k2) (by first | (simp only [List.length_set]; omega) | omega) (by omega))) rfl ?_
                      refine sy_sq ?_
                      refine sp rfl (PE.add rfl rfl (by omega)) rfl ?_
                      refine sy_sq ?_
                      refine sp rfl (PE.indexAddr el42 rfl rfl (by omega) (by omega)) rfl ?_
                      refine sy_sq ?_
                      refine stoE (l' := ints ((a.set i (a.getD i 0 - 1)).set k2 ((a.set i (a.getD i 0 - 1)).getD k2 0 + 1)) ++ _) rfl rfl rfl cn3 rfl rfl rfl (spl_ij (by first | (simp only [List.length_set]; omega) | omega) (by omega)) (by rw [List.length_append, ints_length]; (first | rw [List.length_set] | skip); show 0 + ((k2 : Nat) : Int).toNat * 1 + 1 ≤ _; omega) ?_
                      refine sy_sn ?_
                      refine sy_nx ?_
                      refine sy_seq ?_
                      refine sy_tx' [0, 1, 2, 3, 4, 5, 6, 7, 8] rfl ?_
                      refine sy_sq ?_
                      refine Sy.heap (fun w h => St.intRowsJ h) ?_
                      obtain ⟨ot, hot⟩ : ∃ ot, ot = (a.set i (a.getD i 0 - 1)).set k2 ((a.set i (a.getD i 0 - 1)).getD k2 0 + 1) := ⟨_, rfl⟩
                      rw [← hot]
                      have hol : ot.length = ws.length := by rw [hot, List.length_set, List.length_set]; omega
                      rw [show Value.slice (some ⟨bo, 0, none⟩) a.length co = .slice (some ⟨bo, 0, none⟩) ot.length co from by rw [hol, hloa]]
                      have hos : sharesE ws ot = 0 := shares_ok hol (fun n hn => by
                        rw [hot] at hn
                        rcases List.mem_or_eq_of_mem_set hn with h | h
                        · rcases List.mem_or_eq_of_mem_set h with h | h
                          · exact hab n h
                          · omega
                        · rw [hok2] at h; subst h; exact ⟨by omega, by omega⟩)
                      have hof : refFair x34 ws ot = false := by
                        cases hr : refFair x34 ws ot with
                        | false => rfl
                        | true =>
                          have h1 := fair_uniq hloa hol (fair_iff.2 ⟨hfaa.le, hfaa.fr, hfaa.sum⟩) hr
                          have h2 : ot.getD i 0 = a.getD i 0 - 1 := by
                            rw [hot]; simp [List.getD, List.getElem?_set_ne (Ne.symm hik), List.getElem?_set_self (show i < a.length by omega)]
                          rw [← h1] at h2; omega
                      refine sp rfl (PE.move rfl) rfl ?_
                      refine sy_sq ?_
                      refine sp rfl (PE.move rfl) rfl ?_
                      refine sy_sq ?_
                      refine sp rfl (PE.move rfl) rfl ?_
                      refine sy_sq ?_
                      refine cl rfl cal37 rfl rfl (c_Fair (x34) (ws) (ot) _ _ _ _ (by omega) (by omega) _ _) ?_
                      rintro _ H2 R2 ⟨⟨j3, hj3, rfl⟩, hH2, hR2⟩
                      obtain rfl := hH2.symm
                      obtain rfl := hR2.symm
                      rw [show fairR x34 ws ot j3 = (false, 0) from by rw [fairR_eq hj3]; simp [hask, hos, hof]]
                      refine sy_sq ?_
                      refine sp rfl (PE.move rfl) rfl ?_
                      refine sy_sq ?_
                      refine sp rfl (PE.extract rfl rfl) rfl ?_
                      refine sy_sq ?_
                      refine sp rfl (PE.extract rfl rfl) rfl ?_
                      refine sy_sq ?_
                      refine sp rfl (PE.assign rfl) rfl ?_
                      refine sy_sq ?_
                      refine sp rfl (PE.assign rfl) rfl ?_
                      refine sy_sn ?_
                      refine sy_nx ?_
                      refine sy_seq ?_
                      refine sy_tx' [0, 1, 2, 3, 4] rfl ?_
                      refine sy_sq ?_
                      refine sp rfl (PE.move rfl) rfl ?_
                      refine sy_sq ?_
                      refine sp rfl (PE.neq rfl rfl) rfl ?_
                      refine sy_sq ?_
                      refine sp rfl (PE.move rfl) rfl ?_
                      refine sy_sq ?_
                      refine sy_case (t := 284) rfl (fun g284 => ?_) (fun g284 => ?_)
                      ·
                       exact absurd g284 (by first | (simp; done) | (simp_all; done))
                      ·
                       refine spG rfl rfl rfl rfl (PE.move rfl) rfl ?_
                       refine sy_sq ?_
                       refine sp rfl (PE.pick rfl rfl rfl) rfl ?_
                       refine sy_sn ?_
                       refine sy_nx ?_
                       refine sy_cond rfl (fun hc14 => ?_) (fun hc14 => ?_)
                       ·
                        exact absurd hc14 (by first | (simp; done) | (rw [decide_eq_false (by omega)]; simp))
                       ·
                        refine sy_skip ?_
                        refine sy_nx ?_
                        refine sy_seq ?_
                        refine sy_tx' [0, 1] rfl ?_
                        refine sy_sq ?_
                        refine clV rfl cal16 rfl rfl (c_awake _ _) ?_
                        refine sy_sq ?_
                        refine sp rfl (PE.assign rfl) rfl ?_
                        refine sy_sn ?_
                        refine sy_nx ?_
                        refine sy_ret ?_
                        exact sy_return (vs := [_]) rfl (.cons (RV.tmp rfl) .nil) rfl ⟨rfl, rfl, rfl⟩ (fun _ h => by repeat first | exact h | replace h := St.tail h | replace h := St.ftail h | replace h := St.drop h)
                     ·
                      refine sy_skip ?_
                      refine sy_nx ?_
                      refine sy_seq ?_
                      refine sy_tx' [0, 1] rfl ?_
                      refine sy_sq ?_
                      refine clV rfl cal16 rfl rfl (c_awake _ _) ?_
                      refine sy_sq ?_
                      refine sp rfl (PE.assign rfl) rfl ?_
                      refine sy_sn ?_
                      refine sy_nx ?_
                      refine sy_ret ?_
                      exact sy_return (vs := [_]) rfl (.cons (RV.tmp rfl) .nil) rfl ⟨rfl, rfl, rfl⟩ (fun _ h => by repeat first | exact h | replace h := St.tail h | replace h := St.ftail h | replace h := St.drop h)
                    ·
                     refine spN rfl rfl rfl rfl rfl rfl rfl rfl ?_
                     refine sy_sq ?_
                     refine spN rfl rfl rfl rfl rfl rfl rfl rfl ?_
                     refine sy_sq ?_
                     refine spN rfl rfl rfl rfl rfl rfl rfl rfl ?_
                     refine sy_sq ?_
                     refine sp rfl (PE.pick rfl rfl rfl) rfl ?_
                     refine sy_sn ?_
                     refine sy_nx ?_
                     refine sy_condF rfl ?_
                     refine sy_skip ?_
                     refine sy_nx ?_
                     refine sy_seq ?_
                     refine sy_tx' [0, 1] rfl ?_
                     refine sy_sq ?_
                     refine clV rfl cal16 rfl rfl (c_awake _ _) ?_
                     refine sy_sq ?_
                     refine sp rfl (PE.assign rfl) rfl ?_
                     refine sy_sn ?_
                     refine sy_nx ?_
                     refine sy_ret ?_
                     exact sy_return (vs := [_]) rfl (.cons (RV.tmp rfl) .nil) rfl ⟨rfl, rfl, rfl⟩ (fun _ h => by repeat first | exact h | replace h := St.tail h | replace h := St.ftail h | replace h := St.drop h)
end Go.Proofs.Ytaldphhdkmchhaa
