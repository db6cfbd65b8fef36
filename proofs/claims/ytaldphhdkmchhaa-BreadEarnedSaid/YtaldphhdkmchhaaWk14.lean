/- Walks of the functions of the program: what each returns and leaves in memory, under the conditions that its theorem names. -/
import Derived.Test.YtaldphhdkmchhaaTy
import Derived.Test.YtaldphhdkmchhaaMa
import Derived.Test.YtaldphhdkmchhaaWk13
import Derived.Test.YtaldphhdkmchhaaMd
namespace Go.Proofs.Ytaldphhdkmchhaa
set_option linter.unusedSimpArgs false
set_option linter.unusedVariables false
open Go
theorem ap24 : apT Try.prog 24 = some (91, 2, 16) := by kernel_rfl
theorem ap35 : apT Try.prog 35 = some (129, 2, 16) := by kernel_rfl
theorem cal129 : cal Try.prog 129 = true := by kernel_rfl
theorem cal82 : cal Try.prog 82 = true := by kernel_rfl
theorem cal99 : cal Try.prog 99 = true := by kernel_rfl
theorem cn24 : cellN Try.prog 24 = some 1 := by kernel_rfl
theorem cn35 : cellN Try.prog 35 = some 1 := by kernel_rfl
theorem cn37 : cellN Try.prog 37 = some 11 := by kernel_rfl
theorem pl37 : placeL Try.prog 37 = some [(0, 3), (3, 1), (4, 1), (5, 1), (6, 1), (7, 1), (8, 1), (9, 1), (10, 1)] := by kernel_rfl
theorem sl35 : slE Try.prog 35 = some (129, 2) := by kernel_rfl
theorem zl37 : zeroL Try.prog 37 = some ([.int .i64 0, .int .i64 0, .int .i64 0, .int .i64 0, .int .i64 0, .int .i64 0, .int .i64 0, .int .i64 0, .int .i64 0, .int .i64 0, .slice none 0 0]) := by kernel_rfl
theorem spl_i {l : List Int} {i k : Nat} {v : Int} (h : i < l.length) (e : k = i) : spl (ints l) k [.int .i64 v] = ints (l.set i v) := by
  subst e; rw [spl_set (by rw [ints_length]; exact h), ints_set]
theorem ints_at {l : List Int} {i k : Nat} {v : Int} (h : l[i]? = some v) (e : k = i) : (ints l)[k]? = some (.int .i64 v) := by subst e; exact ints_get h
theorem fold_can (t : Twn) (g : Sta → Int) (s : Sta) : ∀ (l : List Rn) (b : Int), l.foldl (efQ t g s) b = (l.filter (t.can s)).foldl (efQ t g s) b
  | [], _ => rfl
  | q :: l, b => by
    rw [List.foldl_cons, fold_can t g s l, List.filter_cons]
    cases h : t.can s q with
    | true => simp
    | false => simp [efQ, h]
theorem ef_succ (t : Twn) (n : Nat) (s : Sta) : ef t (n + 1) s = (canL t s).foldl (efQ t (ef t n) s) (-1) := fold_can t (ef t n) s t.rats (-1)
theorem fold_at {α β : Type} {f : β → α → β} {b : β} {l : List α} {k : Nat} {x : α} (h : l[k]? = some x) : (l.take (k + 1)).foldl f b = f ((l.take k).foldl f b) x := by
  rw [List.take_add_one, h, List.foldl_append]; rfl
theorem rep_get {n i : Nat} {v : Int} (h : i < n) : (List.replicate n v)[i]? = some v := by simp [h]

theorem c_dup_rat (xs : List Rn) (a : Option Addr) (c : Nat) (hl : xs.length ≤ 1000000) (H : Heap) (R : Facts) [hR : MemRows a 2 (rrows xs) R] :
    Fn Try.prog 82 [.slice a xs.length c] H R (fun v H' R' => ∃ o : OSl 91 2 (rrows xs), v = o.fs ∧ o.here ∧ H' = o.G ++ H ∧ R' = R) := by
  refine fn_of Try.func82 rfl Try.ntmps82 rfl ?_
  refine sy_seq ?_
  refine sy_tx' [0] rfl ?_
  refine sy_sq ?_
  refine sp rfl (PE.assign rfl) rfl ?_
  refine sy_sn ?_
  refine sy_nx ?_
  refine sy_seq ?_
  refine sy_tx' [0, 1, 2, 3, 4, 5] rfl ?_
  refine sy_sq ?_
  refine sp rfl (PE.move rfl) rfl ?_
  refine sy_sq ?_
  refine sp rfl (PE.lenSl isl24 rfl) rfl ?_
  refine sy_sq ?_
  refine mkO rfl ap24 zl91 rfl rfl ⟨by omega, by omega⟩ rfl (fun o ho => ?_)
  refine sy_sq ?_
  refine sp rfl (PE.move rfl) rfl ?_
  refine sy_sq ?_
  refine apOh (news := rrows xs) o rfl ap24 rfl rfl (rowsF) (by simp [rrows]) (by simp [onecells, rrows, rrow, Value.oneCell']) ⟨by simp [rrows]; omega, by simp [rrows]; omega⟩ rfl ho (fun o2 ho2 => ?_)
  refine sy_sq ?_
  refine sp rfl (PE.assign rfl) rfl ?_
  refine sy_sn ?_
  refine sy_nx ?_
  refine sy_ret ?_
  exact sy_return (vs := [_]) rfl (.cons (RV.tmp rfl) .nil) rfl ⟨o2.cast (by simp), rfl, ho2, rfl, rfl⟩ (fun _ h => h)

theorem c_Eq_rat (xs ys : List Rn) (a a2 : Option Addr) (c c2 : Nat) (hl : xs.length ≤ 9223372036854775807) (hl2 : ys.length ≤ 9223372036854775807) (H : Heap) (R : Facts) [hR : MemRows a 2 (rrows xs) R] [hR2 : MemRows a2 2 (rrows ys) R] :
    FnV Try.prog 99 [.slice a xs.length c, .slice a2 ys.length c2] H R (.bool (decide (xs = ys))) := by
  refine fn_of Try.func99 rfl Try.ntmps99 rfl ?_
  refine sy_seq ?_
  refine sy_tx' [0] rfl ?_
  refine sy_sq ?_
  refine sp rfl (PE.assign rfl) rfl ?_
  refine sy_sn ?_
  refine sy_nx ?_
  refine sy_seq ?_
  refine sy_tx' [0, 1, 2, 3] rfl ?_
  refine sy_sq ?_
  refine sp rfl (PE.move rfl) rfl ?_
  refine sy_sq ?_
  refine sp rfl (PE.move rfl) rfl ?_
  refine sy_sq ?_
  refine clV rfl cal129 rfl rfl (c_eq_rat xs ys a a2 c c2 hl hl2 _ _) ?_
  refine sy_sq ?_
  refine sp rfl (PE.assign rfl) rfl ?_
  refine sy_sn ?_
  refine sy_nx ?_
  refine sy_ret ?_
  exact sy_return (vs := [_]) rfl (.cons (RV.tmp rfl) .nil) rfl ⟨rfl, rfl, rfl⟩ (fun _ h => by repeat first | exact h | replace h := St.tail h | replace h := St.ftail h | replace h := St.drop h)

theorem c_Own (t : Twn) (a : Option Addr) (c : Nat) (hl : t.rats.length ≤ 1000000) (H : Heap) (R : Facts) [hR : MemRows a 2 (rrows t.rats) R] :
    Fn Try.prog 17 [t.v (t.sl a c)] H R (fun v H' R' => ∃ b c', v = t.v (t.sl (some ⟨b, 0, none⟩) c') ∧ H' = H ∧ R' = RowsA (some ⟨b, 0, none⟩) 2 (rrows t.rats) :: R) := by
  refine fn_of Try.func17 rfl Try.ntmps17 rfl ?_
  refine sy_seq ?_
  refine sy_tx' [0, 1] rfl ?_
  refine sy_sq ?_
  refine bx rfl rfl rfl (fun b1 => ?_)
  refine sy_sq ?_
  refine alc rfl zl26 rfl (fun b2 => ?_)
  refine sy_sn ?_
  refine sy_nx ?_
  refine sy_seq ?_
  refine sy_tx' [0, 1, 2, 3, 4] rfl ?_
  refine sy_sq ?_
  refine sp rfl (PE.fieldAddr fo26_8 rfl) rfl ?_
  refine sy_sq ?_
  refine spL rfl rfl (lh sc24 rfl rfl) rfl ?_
  refine sy_sq ?_
  refine cl rfl cal82 rfl rfl (c_dup_rat t.rats a c hl _ _) ?_
  rintro _ _ _ ⟨o, rfl, ⟨bo, co, hbo⟩, rfl, rfl⟩
  obtain ⟨ao, c2, ho, hf⟩ := o.freeze
  rw [hbo] at ho
  cases ho
  rw [hbo]
  refine Sy.heap (fun w h => hf h) ?_
  rw [show (rrows t.rats).length = t.rats.length from List.length_map _]
  refine sy_sq ?_
  refine sp rfl (PE.fieldAddr fo26_8 rfl) rfl ?_
  refine sy_sq ?_
  refine sto rfl rfl rfl cn24 rfl rfl rfl rfl ?_
  refine sy_sn ?_
  refine sy_nx ?_
  refine sy_seq ?_
  refine sy_tx' [0, 1] rfl ?_
  refine sy_sq ?_
  refine spL rfl rfl (lhA [_, _, _, _, _, _, _, _, _, _, _] ag26 rfl rfl rfl) rfl ?_
  refine sy_sq ?_
  refine sto rfl rfl rfl cn26 rfl rfl rfl rfl ?_
  refine sy_sn ?_
  refine sy_nx ?_
  refine sy_ret ?_
  exact sy_return (vs := [_]) rfl (.cons (RV.cell rfl (lhA [_, _, _, _, _, _, _, _, _, _, _] ag26 rfl rfl rfl)) .nil) rfl ⟨bo, co, rfl, rfl, rfl⟩ (fun w h => (h.del b2).del b1)

theorem c_great (t : Twn) (a : Option Addr) (c : Nat) (hl : t.rats.length ≤ 9223372036854775807) (H : Heap) (R : Facts) :
    FnV Try.prog 29 [t.v (t.sl a c)] H R (.bool (decide ((7 : Int) < t.rats.length))) := by
  refine fn_of Try.func29 rfl Try.ntmps29 rfl ?_
  refine sy_seq ?_
  refine sy_tx' [0, 1] rfl ?_
  refine sy_sq ?_
  refine bx rfl rfl rfl (fun b1 => ?_)
  refine sy_sq ?_
  refine sp rfl (PE.assign rfl) rfl ?_
  refine sy_sn ?_
  refine sy_nx ?_
  refine sy_seq ?_
  refine sy_tx' [0, 1, 2, 3, 4] rfl ?_
  refine sy_sq ?_
  refine sp rfl (PE.fieldAddr fo26_8 rfl) rfl ?_
  refine sy_sq ?_
  refine spL rfl rfl (lh sc24 rfl rfl) rfl ?_
  refine sy_sq ?_
  refine sp rfl (PE.lenSl isl24 rfl) rfl ?_
  refine sy_sq ?_
  refine sp rfl (PE.gtr rfl rfl) rfl ?_
  refine sy_sq ?_
  refine sp rfl (PE.assign rfl) rfl ?_
  refine sy_sn ?_
  refine sy_nx ?_
  refine sy_ret ?_
  exact sy_return (vs := [_]) rfl (.cons (RV.tmp rfl) .nil) rfl ⟨rfl, rfl, rfl⟩ (fun _ h => by repeat first | exact h | replace h := St.tail h | replace h := St.ftail h | replace h := St.drop h)

theorem c_theirs (t : Twn) (a : Option Addr) (c : Nat) (hl : t.rats.length ≤ 1000000) (H : Heap) (R : Facts) [hR : MemRows a 2 (rrows t.rats) R] :
    Fn Try.prog 19 [t.v (t.sl a c)] H R (fun v H' R' => ∃ a' c', v = t.v (t.sl a' c') ∧ H' = H ∧ R' = RowsA a' 2 (rrows t.rats) :: R) := by
  refine fn_of Try.func19 rfl Try.ntmps19 rfl ?_
  refine sy_seq ?_
  refine sy_tx' [0, 1] rfl ?_
  refine sy_sq ?_
  refine bx rfl rfl rfl (fun b1 => ?_)
  refine sy_sq ?_
  refine alc rfl zl37 rfl (fun b2 => ?_)
  refine sy_sn ?_
  refine sy_nx ?_
  refine sy_seq ?_
  refine sy_tx' [0, 1, 2, 3, 4, 5, 6, 7, 8, 9, 10, 11, 12, 13, 14, 15, 16, 17, 18] rfl ?_
  refine sy_sq ?_
  refine sp rfl (PE.fieldAddr fo26_0 rfl) rfl ?_
  refine sy_sq ?_
  refine spL rfl rfl (lhA [_, _, _] ag23 rfl rfl rfl) rfl ?_
  refine sy_sq ?_
  refine sp rfl (PE.fieldAddr fo26_1 rfl) rfl ?_
  refine sy_sq ?_
  refine spL rfl rfl (lh sc3 rfl rfl) rfl ?_
  refine sy_sq ?_
  refine sp rfl (PE.fieldAddr fo26_2 rfl) rfl ?_
  refine sy_sq ?_
  refine spL rfl rfl (lh sc3 rfl rfl) rfl ?_
  refine sy_sq ?_
  refine sp rfl (PE.fieldAddr fo26_3 rfl) rfl ?_
  refine sy_sq ?_
  refine spL rfl rfl (lh sc3 rfl rfl) rfl ?_
  refine sy_sq ?_
  refine sp rfl (PE.fieldAddr fo26_4 rfl) rfl ?_
  refine sy_sq ?_
  refine spL rfl rfl (lh sc3 rfl rfl) rfl ?_
  refine sy_sq ?_
  refine sp rfl (PE.fieldAddr fo26_5 rfl) rfl ?_
  refine sy_sq ?_
  refine spL rfl rfl (lh sc3 rfl rfl) rfl ?_
  refine sy_sq ?_
  refine sp rfl (PE.fieldAddr fo26_6 rfl) rfl ?_
  refine sy_sq ?_
  refine spL rfl rfl (lh sc3 rfl rfl) rfl ?_
  refine sy_sq ?_
  refine sp rfl (PE.fieldAddr fo26_7 rfl) rfl ?_
  refine sy_sq ?_
  refine spL rfl rfl (lh sc3 rfl rfl) rfl ?_
  refine sy_sq ?_
  refine sp rfl (PE.build (out := twl t (.slice none 0 0)) pl37 zl37 rfl (by kernel_rfl)) rfl ?_
  refine sy_sq ?_
  refine alc rfl zl37 rfl (fun b3 => ?_)
  refine sy_sq ?_
  refine sto rfl rfl rfl cn37 rfl rfl rfl rfl ?_
  refine sy_sn ?_
  refine sy_nx ?_
  refine sy_seq ?_
  refine sy_seq ?_
  refine sy_tx' [0, 1, 2, 3] rfl ?_
  refine sy_sq ?_
  refine sp rfl (PE.fieldAddr fo26_8 rfl) rfl ?_
  refine sy_sq ?_
  refine spL rfl rfl (lh sc24 rfl rfl) rfl ?_
  refine sy_sq ?_
  refine sp rfl (PE.lenSl isl24 rfl) rfl ?_
  refine sy_sq ?_
  refine sp rfl (PE.move rfl) rfl ?_
  refine sy_sn ?_
  refine sy_nx ?_
  refine sy_block ?_
  refine sy_loop (ι := (k : {k : Nat // k ≤ t.rats.length}) × OSl 129 2 (rrows (t.rats.take k.1))) (fun x => ⟨[(2, .pointer (some ⟨b2, 0, none⟩)), (3, .pointer (some ⟨b3, 0, none⟩)), (24, t.sl a c), (25, .int .i64 t.rats.length), (26, .int .i64 x.1.1)], x.2.G ++ (b3, cel 37 (twl t x.2.fs)) :: (b2, cel 37 [.int .i64 0, .int .i64 0, .int .i64 0, .int .i64 0, .int .i64 0, .int .i64 0, .int .i64 0, .int .i64 0, .int .i64 0, .int .i64 0, .slice none 0 0]) :: (b1, cel 26 (twl t (t.sl a c))) :: H, R⟩) (fun x => t.rats.length - x.1.1) ⟨⟨0, by omega⟩, (OSl.nil _ _).cast (by simp [rrows])⟩ ?_ (fun x => ?_)
  ·
   exact sy_at (by repeat' first | exact Sub.nil | apply Sub.cons | rfl | (simp [lk]; omega)) (fun _ h => h)
  ·
   obtain ⟨⟨k, hk⟩, o'⟩ := x
   dsimp only at o' ⊢
   refine sy_seq ?_
   refine sy_tx' [0] rfl ?_
   refine sy_sq ?_
   refine sp rfl (PE.lss rfl rfl) rfl ?_
   refine sy_sn ?_
   refine sy_nx ?_
   refine sy_seq ?_
   refine sy_cond rfl (fun hc0 => ?_) (fun hc0 => ?_)
   ·
    try simp only [decide_eq_true_eq, decide_eq_false_iff_not, Bool.and_eq_true, Bool.or_eq_true, Bool.not_eq_true', Int.not_le, Int.not_lt] at hc0
    obtain ⟨x, hx⟩ : ∃ x, t.rats[k]? = some x := ⟨_, List.getElem?_eq_getElem (by omega)⟩
    refine sy_addr (a := a) (sz := 2) (rows := rrows t.rats) (by intro h0; simp [rrows] at h0; simp [h0] at hx) (fun b off he => ?_)
    subst he
    refine sy_skip ?_
    refine sy_nx ?_
    refine sy_seq ?_
    refine sy_block ?_
    refine sy_seq ?_
    refine sy_tx' [0, 1, 2, 3] rfl ?_
    refine sy_sq ?_
    refine sp rfl (PE.indexAddr el24 rfl rfl (by omega) (by omega)) rfl ?_
    refine sy_sq ?_
    refine spL rfl rfl (lfA (row := rrow x) ag91 (rr_get hx) rfl) rfl ?_
    refine sy_sq ?_
    refine alc rfl zl91 rfl (fun b5 => ?_)
    refine sy_sq ?_
    refine sto rfl rfl rfl cn91 rfl rfl rfl rfl ?_
    refine sy_sn ?_
    refine sy_nx ?_
    refine sy_tx' [0, 1, 2, 3, 4, 5, 6] rfl ?_
    refine sy_sq ?_
    refine sp rfl (PE.fieldAddr fo37_8 rfl) rfl ?_
    refine sy_sq ?_
    refine spL rfl rfl (lh sc35 rfl rfl) rfl ?_
    refine sy_sq ?_
    refine spL rfl rfl (lhA [_, _] ag91 rfl rfl rfl) rfl ?_
    refine sy_sq ?_
    refine bsl (out := [_, _]) rfl sl35 zl129 rfl rfl rfl rfl rfl rfl (fun b33 => ?_)
    refine sy_sq ?_
    refine apO (o') rfl ap35 rfl rfl (rowsH (row := rrow x) rfl) rfl rfl ((by simp only [rrows, List.length_map, List.length_take, List.length_singleton]; omega)) rfl (fun o34 => ?_)
    refine sy_sq ?_
    refine sp rfl (PE.fieldAddr fo37_8 rfl) rfl ?_
    refine sy_sq ?_
    refine stoE (l' := twl t o34.fs) rfl rfl rfl cn35 rfl (by rw [o34.cells.1]; first | done | rfl) (by rw [o34.cells.1]; simp [o34.cells.2]) (by rw [o34.cells.1]; first | done | rfl) (by rw [o34.cells.1]; first | done | exact Nat.le_refl _) ?_
    refine sy_sn ?_
    refine sy_bn ?_
    refine sy_nx ?_
    refine sy_tx' [0, 1] rfl ?_
    refine sy_sq ?_
    refine sp rfl (PE.add rfl rfl (by omega)) rfl ?_
    refine sy_sq ?_
    refine sp rfl (PE.move rfl) rfl ?_
    refine sy_sn ?_
    refine sy_nx ?_
    exact sy_next ⟨⟨k + 1, by omega⟩, o34.cast (by rw [List.take_add_one, hx]; simp [rrows])⟩ (by dsimp only; omega) (by repeat' first | exact Sub.nil | apply Sub.cons | rfl | (simp [lk]; omega)) (fun w h => (h.del b33).del b5)
   ·
    try simp only [decide_eq_true_eq, decide_eq_false_iff_not, Bool.and_eq_true, Bool.or_eq_true, Bool.not_eq_true', Int.not_le, Int.not_lt] at hc0
    obtain rfl : k = t.rats.length := by omega
    obtain ⟨a', c', he, hf⟩ := (o'.cast (by rw [List.take_length]) : OSl _ 2 (rrows t.rats)).freeze
    rw [show o'.fs = _ from he]
    refine Sy.heap (fun w h => hf h) ?_
    rw [show (rrows t.rats).length = t.rats.length from List.length_map _]
    refine sy_exit ?_
    refine sy_tx ?_
    refine sy_tx ?_
    refine sy_bx ?_
    refine sy_nx ?_
    refine sy_seq ?_
    refine sy_tx' [0, 1] rfl ?_
    refine sy_sq ?_
    refine spL rfl rfl (lhA [_, _, _, _, _, _, _, _, _, _, _] ag37 rfl rfl rfl) rfl ?_
    refine sy_sq ?_
    refine sto rfl rfl rfl cn37 rfl rfl rfl rfl ?_
    refine sy_sn ?_
    refine sy_nx ?_
    refine sy_ret ?_
    exact sy_return (vs := [_]) rfl (.cons (RV.cell rfl (lhA [_, _, _, _, _, _, _, _, _, _, _] ag37 rfl rfl rfl)) .nil) rfl ⟨a', c', rfl, rfl, rfl⟩ (fun w h => ((h.del b3).del b2).del b1)

theorem twn_eq (t u : Twn) : decide (t = u) = (decide (t.rats = u.rats) && decide ([t.now.stock, t.now.short, t.now.dry] = [u.now.stock, u.now.short, u.now.dry]) && decide (t.holds = u.holds) && decide (t.need = u.need) && decide (t.patience = u.patience) && decide (t.run = u.run) && decide (t.good = u.good) && decide (t.bad = u.bad) && decide (t.rot = u.rot)) := by
  obtain ⟨⟨a, b, c⟩, d, e, f, g, h, i, j, k⟩ := t
  obtain ⟨⟨a', b', c'⟩, d', e', f', g', h', i', j', k'⟩ := u
  rw [Bool.eq_iff_iff]
  simp only [Twn.mk.injEq, Sta.mk.injEq, decide_eq_true_eq, Bool.and_eq_true, List.cons.injEq, and_true]
  constructor
  · rintro ⟨⟨h1, h2, h3⟩, h4, h5, h6, h7, h8, h9, h10, h11⟩; exact ⟨⟨⟨⟨⟨⟨⟨⟨h11, h1, h2, h3⟩, h4⟩, h5⟩, h6⟩, h7⟩, h8⟩, h9⟩, h10⟩
  · rintro ⟨⟨⟨⟨⟨⟨⟨⟨h11, h1, h2, h3⟩, h4⟩, h5⟩, h6⟩, h7⟩, h8⟩, h9⟩, h10⟩; exact ⟨⟨h1, h2, h3⟩, h4, h5, h6, h7, h8, h9, h10, h11⟩

theorem c_same (t u : Twn) (a a2 : Option Addr) (c c2 : Nat) (hl : t.rats.length ≤ 9223372036854775807) (hl2 : u.rats.length ≤ 9223372036854775807) (H : Heap) (R : Facts) [hR : MemRows a 2 (rrows t.rats) R] [hR2 : MemRows a2 2 (rrows u.rats) R] :
    FnV Try.prog 28 [t.v (t.sl a c), u.v (u.sl a2 c2)] H R (.bool (decide (t = u))) := by
  refine fn_of Try.func28 rfl Try.ntmps28 rfl ?_
  refine sy_seq ?_
  refine sy_tx' [0, 1, 2] rfl ?_
  refine sy_sq ?_
  refine bx rfl rfl rfl (fun b2 => ?_)
  refine sy_sq ?_
  refine bx rfl rfl rfl (fun b3 => ?_)
  refine sy_sq ?_
  refine sp rfl (PE.assign rfl) rfl ?_
  refine sy_sn ?_
  refine sy_nx ?_
  refine sy_seq ?_
  refine sy_draw [0, 0, 0, 0, 13, 31] (.ld 0 (.ld 1 (.any (.alt 2 (.big 3 (.big 4 (.big 5 .done))) (.alt 3 (.big 2 (.big 4 (.big 5 .done))) .stop))))) mixed (by kernel_rfl) ?_
  refine ld rfl rfl (lhA [_, _, _, _, _, _, _, _, _, _, _] ag26 rfl rfl rfl) rfl ?_
  refine ld rfl rfl (lhA [_, _, _, _, _, _, _, _, _, _, _] ag26 rfl rfl rfl) rfl ?_
  refine sy_any ?_
  refine sy_alt ?_ ?_
  ·
   refine alc rfl zl26 rfl (fun b5 => ?_)
   refine bg (fun w hs => ⟨(lhA [_, _, _, _, _, _, _, _, _, _, _] ag26 rfl rfl rfl) w hs, (lhA [_, _, _, _, _, _, _, _, _, _, _] ag26 rfl rfl rfl) w hs, trivial⟩) ?_
   refine sy_bg ?_
   refine alc rfl zl26 rfl (fun b6 => ?_)
   refine bg (fun w hs => ⟨(lhA [_, _, _, _, _, _, _, _, _, _, _] ag26 rfl rfl rfl) w hs, (lhA [_, _, _, _, _, _, _, _, _, _, _] ag26 rfl rfl rfl) w hs, trivial⟩) ?_
   refine sy_bg ?_
   refine sto rfl rfl rfl cn26 rfl rfl rfl rfl ?_
   refine bg (fun w hs => ⟨(lhA [_, _, _, _, _, _, _, _, _, _, _] ag26 rfl rfl rfl) w hs, trivial, trivial⟩) ?_
   refine sy_bg ?_
   refine sto rfl rfl rfl cn26 rfl rfl rfl rfl ?_
   refine bg (fun w hs => ⟨trivial, trivial⟩) ?_
   refine sy_dn ?_
   refine sy_nx ?_
   refine sy_seq ?_
   refine sy_tx' [0, 1, 2, 3] rfl ?_
   refine sy_sq ?_
   refine sp rfl (PE.fieldAddr fo26_8 rfl) rfl ?_
   refine sy_sq ?_
   refine sto rfl rfl rfl cn24 rfl rfl rfl rfl ?_
   refine sy_sq ?_
   refine sp rfl (PE.fieldAddr fo26_8 rfl) rfl ?_
   refine sy_sq ?_
   refine sto rfl rfl rfl cn24 rfl rfl rfl rfl ?_
   refine sy_sn ?_
   refine sy_nx ?_
   refine sy_seq ?_
   refine sy_tx' [0, 1, 2, 3, 4, 5, 6, 7, 8, 9, 10, 11, 12, 13, 14, 15, 16, 17, 18, 19, 20, 21, 22, 23, 24, 25, 26, 27, 28, 29, 30, 31, 32, 33, 34, 35, 36, 37, 38, 39, 40, 41, 42, 43, 44, 45, 46, 47, 48, 49, 50, 51, 52, 53, 54, 55, 56, 57, 58, 59, 60, 61] rfl ?_
   refine sy_sq ?_
   refine sp rfl (PE.fieldAddr fo26_8 rfl) rfl ?_
   refine sy_sq ?_
   refine spL rfl rfl (lh sc24 rfl rfl) rfl ?_
   refine sy_sq ?_
   refine sp rfl (PE.fieldAddr fo26_8 rfl) rfl ?_
   refine sy_sq ?_
   refine spL rfl rfl (lh sc24 rfl rfl) rfl ?_
   refine sy_sq ?_
   refine clV rfl cal99 rfl rfl (c_Eq_rat t.rats u.rats a a2 c c2 hl hl2 _ _) ?_
   refine sy_sq ?_
   refine sp rfl (PE.move rfl) rfl ?_
   refine sy_sq ?_
   refine sy_case (t := 16) rfl (fun g16 => ?_) (fun g16 => ?_)
   ·
    refine spG rfl rfl rfl rfl (PE.fieldAddr fo26_0 rfl) rfl ?_
    refine sy_sq ?_
    refine spLG rfl rfl rfl rfl rfl (lhA [_, _, _] ag23 rfl rfl rfl) rfl ?_
    refine sy_sq ?_
    refine spG rfl rfl rfl rfl (PE.fieldAddr fo26_0 rfl) rfl ?_
    refine sy_sq ?_
    refine spLG rfl rfl rfl rfl rfl (lhA [_, _, _] ag23 rfl rfl rfl) rfl ?_
    refine sy_sq ?_
    refine spG rfl rfl rfl rfl (PE.eqlAgg [t.now.stock, t.now.short, t.now.dry] [u.now.stock, u.now.short, u.now.dry] (eqB_ok 10000 23 true 3 eqf23) eqg23 rfl rfl rfl rfl) rfl ?_
    refine sy_sq ?_
    refine sp rfl (PE.pick rfl rfl rfl) rfl ?_
    refine sy_sq ?_
    refine sp rfl (PE.move rfl) rfl ?_
    refine sy_sq ?_
    refine sy_case (t := 23) rfl (fun g23 => ?_) (fun g23 => ?_)
    ·
     refine spG rfl rfl rfl rfl (PE.fieldAddr fo26_1 rfl) rfl ?_
     refine sy_sq ?_
     refine spLG rfl rfl rfl rfl rfl (lh sc3 rfl rfl) rfl ?_
     refine sy_sq ?_
     refine spG rfl rfl rfl rfl (PE.fieldAddr fo26_1 rfl) rfl ?_
     refine sy_sq ?_
     refine spLG rfl rfl rfl rfl rfl (lh sc3 rfl rfl) rfl ?_
     refine sy_sq ?_
     refine spG rfl rfl rfl rfl (PE.eql rfl rfl) rfl ?_
     refine sy_sq ?_
     refine sp rfl (PE.pick rfl rfl rfl) rfl ?_
     refine sy_sq ?_
     refine sp rfl (PE.move rfl) rfl ?_
     refine sy_sq ?_
     refine sy_case (t := 30) rfl (fun g30 => ?_) (fun g30 => ?_)
     ·
      refine spG rfl rfl rfl rfl (PE.fieldAddr fo26_2 rfl) rfl ?_
      refine sy_sq ?_
      refine spLG rfl rfl rfl rfl rfl (lh sc3 rfl rfl) rfl ?_
      refine sy_sq ?_
      refine spG rfl rfl rfl rfl (PE.fieldAddr fo26_2 rfl) rfl ?_
      refine sy_sq ?_
      refine spLG rfl rfl rfl rfl rfl (lh sc3 rfl rfl) rfl ?_
      refine sy_sq ?_
      refine spG rfl rfl rfl rfl (PE.eql rfl rfl) rfl ?_
      refine sy_sq ?_
      refine sp rfl (PE.pick rfl rfl rfl) rfl ?_
      refine sy_sq ?_
      refine sp rfl (PE.move rfl) rfl ?_
      refine sy_sq ?_
      refine sy_case (t := 37) rfl (fun g37 => ?_) (fun g37 => ?_)
      ·
       refine spG rfl rfl rfl rfl (PE.fieldAddr fo26_3 rfl) rfl ?_
       refine sy_sq ?_
       refine spLG rfl rfl rfl rfl rfl (lh sc3 rfl rfl) rfl ?_
       refine sy_sq ?_
       refine spG rfl rfl rfl rfl (PE.fieldAddr fo26_3 rfl) rfl ?_
       refine sy_sq ?_
       refine spLG rfl rfl rfl rfl rfl (lh sc3 rfl rfl) rfl ?_
       refine sy_sq ?_
       refine spG rfl rfl rfl rfl (PE.eql rfl rfl) rfl ?_
       refine sy_sq ?_
       refine sp rfl (PE.pick rfl rfl rfl) rfl ?_
       refine sy_sq ?_
       refine sp rfl (PE.move rfl) rfl ?_
       refine sy_sq ?_
       refine sy_case (t := 44) rfl (fun g44 => ?_) (fun g44 => ?_)
       ·
        refine spG rfl rfl rfl rfl (PE.fieldAddr fo26_4 rfl) rfl ?_
        refine sy_sq ?_
        refine spLG rfl rfl rfl rfl rfl (lh sc3 rfl rfl) rfl ?_
        refine sy_sq ?_
        refine spG rfl rfl rfl rfl (PE.fieldAddr fo26_4 rfl) rfl ?_
        refine sy_sq ?_
        refine spLG rfl rfl rfl rfl rfl (lh sc3 rfl rfl) rfl ?_
        refine sy_sq ?_
        refine spG rfl rfl rfl rfl (PE.eql rfl rfl) rfl ?_
        refine sy_sq ?_
        refine sp rfl (PE.pick rfl rfl rfl) rfl ?_
        refine sy_sq ?_
        refine sp rfl (PE.move rfl) rfl ?_
        refine sy_sq ?_
        refine sy_case (t := 51) rfl (fun g51 => ?_) (fun g51 => ?_)
        ·
         refine spG rfl rfl rfl rfl (PE.fieldAddr fo26_5 rfl) rfl ?_
         refine sy_sq ?_
         refine spLG rfl rfl rfl rfl rfl (lh sc3 rfl rfl) rfl ?_
         refine sy_sq ?_
         refine spG rfl rfl rfl rfl (PE.fieldAddr fo26_5 rfl) rfl ?_
         refine sy_sq ?_
         refine spLG rfl rfl rfl rfl rfl (lh sc3 rfl rfl) rfl ?_
         refine sy_sq ?_
         refine spG rfl rfl rfl rfl (PE.eql rfl rfl) rfl ?_
         refine sy_sq ?_
         refine sp rfl (PE.pick rfl rfl rfl) rfl ?_
         refine sy_sq ?_
         refine sp rfl (PE.move rfl) rfl ?_
         refine sy_sq ?_
         refine sy_case (t := 58) rfl (fun g58 => ?_) (fun g58 => ?_)
         ·
          refine spG rfl rfl rfl rfl (PE.fieldAddr fo26_6 rfl) rfl ?_
          refine sy_sq ?_
          refine spLG rfl rfl rfl rfl rfl (lh sc3 rfl rfl) rfl ?_
          refine sy_sq ?_
          refine spG rfl rfl rfl rfl (PE.fieldAddr fo26_6 rfl) rfl ?_
          refine sy_sq ?_
          refine spLG rfl rfl rfl rfl rfl (lh sc3 rfl rfl) rfl ?_
          refine sy_sq ?_
          refine spG rfl rfl rfl rfl (PE.eql rfl rfl) rfl ?_
          refine sy_sq ?_
          refine sp rfl (PE.pick rfl rfl rfl) rfl ?_
          refine sy_sq ?_
          refine sp rfl (PE.move rfl) rfl ?_
          refine sy_sq ?_
          refine sy_case (t := 65) rfl (fun g65 => ?_) (fun g65 => ?_)
          ·
           refine spG rfl rfl rfl rfl (PE.fieldAddr fo26_7 rfl) rfl ?_
           refine sy_sq ?_
           refine spLG rfl rfl rfl rfl rfl (lh sc3 rfl rfl) rfl ?_
           refine sy_sq ?_
           refine spG rfl rfl rfl rfl (PE.fieldAddr fo26_7 rfl) rfl ?_
           refine sy_sq ?_
           refine spLG rfl rfl rfl rfl rfl (lh sc3 rfl rfl) rfl ?_
           refine sy_sq ?_
           refine spG rfl rfl rfl rfl (PE.eql rfl rfl) rfl ?_
           refine sy_sq ?_
           refine sp rfl (PE.pick rfl rfl rfl) rfl ?_
           refine sy_sq ?_
           refine sp rfl (PE.assign rfl) rfl ?_
           refine sy_sn ?_
           refine sy_nx ?_
           refine sy_ret ?_
           exact sy_return (vs := [_]) rfl (.cons (RV.tmp rfl) .nil) rfl ⟨by rw [twn_eq]; simp_all only [retV, Bool.true_and, Bool.false_and, Bool.and_false, Bool.and_true, cond_true, cond_false], rfl, rfl⟩ (fun _ h => by repeat first | exact h | replace h := St.tail h | replace h := St.ftail h | replace h := St.drop h)
          ·
           refine spN rfl rfl rfl rfl rfl rfl rfl rfl ?_
           refine sy_sq ?_
           refine spN rfl rfl rfl rfl rfl rfl rfl rfl ?_
           refine sy_sq ?_
           refine spN rfl rfl rfl rfl rfl rfl rfl rfl ?_
           refine sy_sq ?_
           refine spN rfl rfl rfl rfl rfl rfl rfl rfl ?_
           refine sy_sq ?_
           refine spN rfl rfl rfl rfl rfl rfl rfl rfl ?_
           refine sy_sq ?_
           refine sp rfl (PE.pick rfl rfl rfl) rfl ?_
           refine sy_sq ?_
           refine sp rfl (PE.assign rfl) rfl ?_
           refine sy_sn ?_
           refine sy_nx ?_
           refine sy_ret ?_
           exact sy_return (vs := [_]) rfl (.cons (RV.tmp rfl) .nil) rfl ⟨by rw [twn_eq]; simp_all only [retV, Bool.true_and, Bool.false_and, Bool.and_false, Bool.and_true, cond_true, cond_false], rfl, rfl⟩ (fun _ h => by repeat first | exact h | replace h := St.tail h | replace h := St.ftail h | replace h := St.drop h)
         ·
          refine spN rfl rfl rfl rfl rfl rfl rfl rfl ?_
          refine sy_sq ?_
          refine spN rfl rfl rfl rfl rfl rfl rfl rfl ?_
          refine sy_sq ?_
          refine spN rfl rfl rfl rfl rfl rfl rfl rfl ?_
          refine sy_sq ?_
          refine spN rfl rfl rfl rfl rfl rfl rfl rfl ?_
          refine sy_sq ?_
          refine spN rfl rfl rfl rfl rfl rfl rfl rfl ?_
          refine sy_sq ?_
          refine sp rfl (PE.pick rfl rfl rfl) rfl ?_
          refine sy_sq ?_
          refine sp rfl (PE.move rfl) rfl ?_
          refine sy_sq ?_
          refine spN rfl rfl rfl rfl rfl rfl rfl rfl ?_
          refine sy_sq ?_
          refine spN rfl rfl rfl rfl rfl rfl rfl rfl ?_
          refine sy_sq ?_
          refine spN rfl rfl rfl rfl rfl rfl rfl rfl ?_
          refine sy_sq ?_
          refine spN rfl rfl rfl rfl rfl rfl rfl rfl ?_
          refine sy_sq ?_
          refine spN rfl rfl rfl rfl rfl rfl rfl rfl ?_
          refine sy_sq ?_
          refine sp rfl (PE.pick rfl rfl rfl) rfl ?_
          refine sy_sq ?_
          refine sp rfl (PE.assign rfl) rfl ?_
          refine sy_sn ?_
          refine sy_nx ?_
          refine sy_ret ?_
          exact sy_return (vs := [_]) rfl (.cons (RV.tmp rfl) .nil) rfl ⟨by rw [twn_eq]; simp_all only [retV, Bool.true_and, Bool.false_and, Bool.and_false, Bool.and_true, cond_true, cond_false], rfl, rfl⟩ (fun _ h => by repeat first | exact h | replace h := St.tail h | replace h := St.ftail h | replace h := St.drop h)
        ·
         refine spN rfl rfl rfl rfl rfl rfl rfl rfl ?_
         refine sy_sq ?_
         refine spN rfl rfl rfl rfl rfl rfl rfl rfl ?_
         refine sy_sq ?_
         refine spN rfl rfl rfl rfl rfl rfl rfl rfl ?_
         refine sy_sq ?_
         refine spN rfl rfl rfl rfl rfl rfl rfl rfl ?_
         refine sy_sq ?_
         refine spN rfl rfl rfl rfl rfl rfl rfl rfl ?_
         refine sy_sq ?_
         refine sp rfl (PE.pick rfl rfl rfl) rfl ?_
         refine sy_sq ?_
         refine sp rfl (PE.move rfl) rfl ?_
         refine sy_sq ?_
         refine spN rfl rfl rfl rfl rfl rfl rfl rfl ?_
         refine sy_sq ?_
         refine spN rfl rfl rfl rfl rfl rfl rfl rfl ?_
         refine sy_sq ?_
         refine spN rfl rfl rfl rfl rfl rfl rfl rfl ?_
         refine sy_sq ?_
         refine spN rfl rfl rfl rfl rfl rfl rfl rfl ?_
         refine sy_sq ?_
         refine spN rfl rfl rfl rfl rfl rfl rfl rfl ?_
         refine sy_sq ?_
         refine sp rfl (PE.pick rfl rfl rfl) rfl ?_
         refine sy_sq ?_
         refine sp rfl (PE.move rfl) rfl ?_
         refine sy_sq ?_
         refine spN rfl rfl rfl rfl rfl rfl rfl rfl ?_
         refine sy_sq ?_
         refine spN rfl rfl rfl rfl rfl rfl rfl rfl ?_
         refine sy_sq ?_
         refine spN rfl rfl rfl rfl rfl rfl rfl rfl ?_
         refine sy_sq ?_
         refine spN rfl rfl rfl rfl rfl rfl rfl rfl ?_
         refine sy_sq ?_
         refine spN rfl rfl rfl rfl rfl rfl rfl rfl ?_
         refine sy_sq ?_
         refine sp rfl (PE.pick rfl rfl rfl) rfl ?_
         refine sy_sq ?_
         refine sp rfl (PE.assign rfl) rfl ?_
         refine sy_sn ?_
         refine sy_nx ?_
         refine sy_ret ?_
         exact sy_return (vs := [_]) rfl (.cons (RV.tmp rfl) .nil) rfl ⟨by rw [twn_eq]; simp_all only [retV, Bool.true_and, Bool.false_and, Bool.and_false, Bool.and_true, cond_true, cond_false], rfl, rfl⟩ (fun _ h => by repeat first | exact h | replace h := St.tail h | replace h := St.ftail h | replace h := St.drop h)
       ·
        refine spN rfl rfl rfl rfl rfl rfl rfl rfl ?_
        refine sy_sq ?_
        refine spN rfl rfl rfl rfl rfl rfl rfl rfl ?_
        refine sy_sq ?_
        refine spN rfl rfl rfl rfl rfl rfl rfl rfl ?_
        refine sy_sq ?_
        refine spN rfl rfl rfl rfl rfl rfl rfl rfl ?_
        refine sy_sq ?_
        refine spN rfl rfl rfl rfl rfl rfl rfl rfl ?_
        refine sy_sq ?_
        refine sp rfl (PE.pick rfl rfl rfl) rfl ?_
        refine sy_sq ?_
        refine sp rfl (PE.move rfl) rfl ?_
        refine sy_sq ?_
        refine spN rfl rfl rfl rfl rfl rfl rfl rfl ?_
        refine sy_sq ?_
        refine spN rfl rfl rfl rfl rfl rfl rfl rfl ?_
        refine sy_sq ?_
        refine spN rfl rfl rfl rfl rfl rfl rfl rfl ?_
        refine sy_sq ?_
        refine spN rfl rfl rfl rfl rfl rfl rfl rfl ?_
        refine sy_sq ?_
        refine spN rfl rfl rfl rfl rfl rfl rfl rfl ?_
        refine sy_sq ?_
        refine sp rfl (PE.pick rfl rfl rfl) rfl ?_
        refine sy_sq ?_
        refine sp rfl (PE.move rfl) rfl ?_
        refine sy_sq ?_
        refine spN rfl rfl rfl rfl rfl rfl rfl rfl ?_
        refine sy_sq ?_
        refine spN rfl rfl rfl rfl rfl rfl rfl rfl ?_
        refine sy_sq ?_
        refine spN rfl rfl rfl rfl rfl rfl rfl rfl ?_
        refine sy_sq ?_
        refine spN rfl rfl rfl rfl rfl rfl rfl rfl ?_
        refine sy_sq ?_
        refine spN rfl rfl rfl rfl rfl rfl rfl rfl ?_
        refine sy_sq ?_
        refine sp rfl (PE.pick rfl rfl rfl) rfl ?_
        refine sy_sq ?_
        refine sp rfl (PE.move rfl) rfl ?_
        refine sy_sq ?_
        refine spN rfl rfl rfl rfl rfl rfl rfl rfl ?_
        refine sy_sq ?_
        refine spN rfl rfl rfl rfl rfl rfl rfl rfl ?_
        refine sy_sq ?_
        refine spN rfl rfl rfl rfl rfl rfl rfl rfl ?_
        refine sy_sq ?_
        refine spN rfl rfl rfl rfl rfl rfl rfl rfl ?_
        refine sy_sq ?_
        refine spN rfl rfl rfl rfl rfl rfl rfl rfl ?_
        refine sy_sq ?_
        refine sp rfl (PE.pick rfl rfl rfl) rfl ?_
        refine sy_sq ?_
        refine sp rfl (PE.assign rfl) rfl ?_
        refine sy_sn ?_
        refine sy_nx ?_
        refine sy_ret ?_
        exact sy_return (vs := [_]) rfl (.cons (RV.tmp rfl) .nil) rfl ⟨by rw [twn_eq]; simp_all only [retV, Bool.true_and, Bool.false_and, Bool.and_false, Bool.and_true, cond_true, cond_false], rfl, rfl⟩ (fun _ h => by repeat first | exact h | replace h := St.tail h | replace h := St.ftail h | replace h := St.drop h)
      ·
       refine spN rfl rfl rfl rfl rfl rfl rfl rfl ?_
       refine sy_sq ?_
       refine spN rfl rfl rfl rfl rfl rfl rfl rfl ?_
       refine sy_sq ?_
       refine spN rfl rfl rfl rfl rfl rfl rfl rfl ?_
       refine sy_sq ?_
       refine spN rfl rfl rfl rfl rfl rfl rfl rfl ?_
       refine sy_sq ?_
       refine spN rfl rfl rfl rfl rfl rfl rfl rfl ?_
       refine sy_sq ?_
       refine sp rfl (PE.pick rfl rfl rfl) rfl ?_
       refine sy_sq ?_
       refine sp rfl (PE.move rfl) rfl ?_
       refine sy_sq ?_
       refine spN rfl rfl rfl rfl rfl rfl rfl rfl ?_
       refine sy_sq ?_
       refine spN rfl rfl rfl rfl rfl rfl rfl rfl ?_
       refine sy_sq ?_
       refine spN rfl rfl rfl rfl rfl rfl rfl rfl ?_
       refine sy_sq ?_
       refine spN rfl rfl rfl rfl rfl rfl rfl rfl ?_
       refine sy_sq ?_
       refine spN rfl rfl rfl rfl rfl rfl rfl rfl ?_
       refine sy_sq ?_
       refine sp rfl (PE.pick rfl rfl rfl) rfl ?_
       refine sy_sq ?_
       refine sp rfl (PE.move rfl) rfl ?_
       refine sy_sq ?_
       refine spN rfl rfl rfl rfl rfl rfl rfl rfl ?_
       refine sy_sq ?_
       refine spN rfl rfl rfl rfl rfl rfl rfl rfl ?_
       refine sy_sq ?_
       refine spN rfl rfl rfl rfl rfl rfl rfl rfl ?_
       refine sy_sq ?_
       refine spN rfl rfl rfl rfl rfl rfl rfl rfl ?_
       refine sy_sq ?_
       refine spN rfl rfl rfl rfl rfl rfl rfl rfl ?_
       refine sy_sq ?_
       refine sp rfl (PE.pick rfl rfl rfl) rfl ?_
       refine sy_sq ?_
       refine sp rfl (PE.move rfl) rfl ?_
       refine sy_sq ?_
       refine spN rfl rfl rfl rfl rfl rfl rfl rfl ?_
       refine sy_sq ?_
       refine spN rfl rfl rfl rfl rfl rfl rfl rfl ?_
       refine sy_sq ?_
       refine spN rfl rfl rfl rfl rfl rfl rfl rfl ?_
       refine sy_sq ?_
       refine spN rfl rfl rfl rfl rfl rfl rfl rfl ?_
       refine sy_sq ?_
       refine spN rfl rfl rfl rfl rfl rfl rfl rfl ?_
       refine sy_sq ?_
       refine sp rfl (PE.pick rfl rfl rfl) rfl ?_
       refine sy_sq ?_
       refine sp rfl (PE.move rfl) rfl ?_
       refine sy_sq ?_
       refine spN rfl rfl rfl rfl rfl rfl rfl rfl ?_
       refine sy_sq ?_
       refine spN rfl rfl rfl rfl rfl rfl rfl rfl ?_
       refine sy_sq ?_
       refine spN rfl rfl rfl rfl rfl rfl rfl rfl ?_
       refine sy_sq ?_
       refine spN rfl rfl rfl rfl rfl rfl rfl rfl ?_
       refine sy_sq ?_
       refine spN rfl rfl rfl rfl rfl rfl rfl rfl ?_
       refine sy_sq ?_
       refine sp rfl (PE.pick rfl rfl rfl) rfl ?_
       refine sy_sq ?_
       refine sp rfl (PE.assign rfl) rfl ?_
       refine sy_sn ?_
       refine sy_nx ?_
       refine sy_ret ?_
       exact sy_return (vs := [_]) rfl (.cons (RV.tmp rfl) .nil) rfl ⟨by rw [twn_eq]; simp_all only [retV, Bool.true_and, Bool.false_and, Bool.and_false, Bool.and_true, cond_true, cond_false], rfl, rfl⟩ (fun _ h => by repeat first | exact h | replace h := St.tail h | replace h := St.ftail h | replace h := St.drop h)
     ·
      refine spN rfl rfl rfl rfl rfl rfl rfl rfl ?_
      refine sy_sq ?_
      refine spN rfl rfl rfl rfl rfl rfl rfl rfl ?_
      refine sy_sq ?_
      refine spN rfl rfl rfl rfl rfl rfl rfl rfl ?_
      refine sy_sq ?_
      refine spN rfl rfl rfl rfl rfl rfl rfl rfl ?_
      refine sy_sq ?_
      refine spN rfl rfl rfl rfl rfl rfl rfl rfl ?_
      refine sy_sq ?_
      refine sp rfl (PE.pick rfl rfl rfl) rfl ?_
      refine sy_sq ?_
      refine sp rfl (PE.move rfl) rfl ?_
      refine sy_sq ?_
      refine spN rfl rfl rfl rfl rfl rfl rfl rfl ?_
      refine sy_sq ?_
      refine spN rfl rfl rfl rfl rfl rfl rfl rfl ?_
      refine sy_sq ?_
      refine spN rfl rfl rfl rfl rfl rfl rfl rfl ?_
      refine sy_sq ?_
      refine spN rfl rfl rfl rfl rfl rfl rfl rfl ?_
      refine sy_sq ?_
      refine spN rfl rfl rfl rfl rfl rfl rfl rfl ?_
      refine sy_sq ?_
      refine sp rfl (PE.pick rfl rfl rfl) rfl ?_
      refine sy_sq ?_
      refine sp rfl (PE.move rfl) rfl ?_
      refine sy_sq ?_
      refine spN rfl rfl rfl rfl rfl rfl rfl rfl ?_
      refine sy_sq ?_
      refine spN rfl rfl rfl rfl rfl rfl rfl rfl ?_
      refine sy_sq ?_
      refine spN rfl rfl rfl rfl rfl rfl rfl rfl ?_
      refine sy_sq ?_
      refine spN rfl rfl rfl rfl rfl rfl rfl rfl ?_
      refine sy_sq ?_
      refine spN rfl rfl rfl rfl rfl rfl rfl rfl ?_
      refine sy_sq ?_
      refine sp rfl (PE.pick rfl rfl rfl) rfl ?_
      refine sy_sq ?_
      refine sp rfl (PE.move rfl) rfl ?_
      refine sy_sq ?_
      refine spN rfl rfl rfl rfl rfl rfl rfl rfl ?_
      refine sy_sq ?_
      refine spN rfl rfl rfl rfl rfl rfl rfl rfl ?_
      refine sy_sq ?_
      refine spN rfl rfl rfl rfl rfl rfl rfl rfl ?_
      refine sy_sq ?_
      refine spN rfl rfl rfl rfl rfl rfl rfl rfl ?_
      refine sy_sq ?_
      refine spN rfl rfl rfl rfl rfl rfl rfl rfl ?_
      refine sy_sq ?_
      refine sp rfl (PE.pick rfl rfl rfl) rfl ?_
      refine sy_sq ?_
      refine sp rfl (PE.move rfl) rfl ?_
      refine sy_sq ?_
      refine spN rfl rfl rfl rfl rfl rfl rfl rfl ?_
      refine sy_sq ?_
      refine spN rfl rfl rfl rfl rfl rfl rfl rfl ?_
      refine sy_sq ?_
      refine spN rfl rfl rfl rfl rfl rfl rfl rfl ?_
      refine sy_sq ?_
      refine spN rfl rfl rfl rfl rfl rfl rfl rfl ?_
      refine sy_sq ?_
      refine spN rfl rfl rfl rfl rfl rfl rfl rfl ?_
      refine sy_sq ?_
      refine sp rfl (PE.pick rfl rfl rfl) rfl ?_
      refine sy_sq ?_
      refine sp rfl (PE.move rfl) rfl ?_
      refine sy_sq ?_
      refine spN rfl rfl rfl rfl rfl rfl rfl rfl ?_
      refine sy_sq ?_
      refine spN rfl rfl rfl rfl rfl rfl rfl rfl ?_
      refine sy_sq ?_
      refine spN rfl rfl rfl rfl rfl rfl rfl rfl ?_
      refine sy_sq ?_
      refine spN rfl rfl rfl rfl rfl rfl rfl rfl ?_
      refine sy_sq ?_
      refine spN rfl rfl rfl rfl rfl rfl rfl rfl ?_
      refine sy_sq ?_
      refine sp rfl (PE.pick rfl rfl rfl) rfl ?_
      refine sy_sq ?_
      refine sp rfl (PE.assign rfl) rfl ?_
      refine sy_sn ?_
      refine sy_nx ?_
      refine sy_ret ?_
      exact sy_return (vs := [_]) rfl (.cons (RV.tmp rfl) .nil) rfl ⟨by rw [twn_eq]; simp_all only [retV, Bool.true_and, Bool.false_and, Bool.and_false, Bool.and_true, cond_true, cond_false], rfl, rfl⟩ (fun _ h => by repeat first | exact h | replace h := St.tail h | replace h := St.ftail h | replace h := St.drop h)
    ·
     refine spN rfl rfl rfl rfl rfl rfl rfl rfl ?_
     refine sy_sq ?_
     refine spN rfl rfl rfl rfl rfl rfl rfl rfl ?_
     refine sy_sq ?_
     refine spN rfl rfl rfl rfl rfl rfl rfl rfl ?_
     refine sy_sq ?_
     refine spN rfl rfl rfl rfl rfl rfl rfl rfl ?_
     refine sy_sq ?_
     refine spN rfl rfl rfl rfl rfl rfl rfl rfl ?_
     refine sy_sq ?_
     refine sp rfl (PE.pick rfl rfl rfl) rfl ?_
     refine sy_sq ?_
     refine sp rfl (PE.move rfl) rfl ?_
     refine sy_sq ?_
     refine spN rfl rfl rfl rfl rfl rfl rfl rfl ?_
     refine sy_sq ?_
     refine spN rfl rfl rfl rfl rfl rfl rfl rfl ?_
     refine sy_sq ?_
     refine spN rfl rfl rfl rfl rfl rfl rfl rfl ?_
     refine sy_sq ?_
     refine spN rfl rfl rfl rfl rfl rfl rfl rfl ?_
     refine sy_sq ?_
     refine spN rfl rfl rfl rfl rfl rfl rfl rfl ?_
     refine sy_sq ?_
     refine sp rfl (PE.pick rfl rfl rfl) rfl ?_
     refine sy_sq ?_
     refine sp rfl (PE.move rfl) rfl ?_
     refine sy_sq ?_
     refine spN rfl rfl rfl rfl rfl rfl rfl rfl ?_
     refine sy_sq ?_
     refine spN rfl rfl rfl rfl rfl rfl rfl rfl ?_
     refine sy_sq ?_
     refine spN rfl rfl rfl rfl rfl rfl rfl rfl ?_
     refine sy_sq ?_
     refine spN rfl rfl rfl rfl rfl rfl rfl rfl ?_
     refine sy_sq ?_
     refine spN rfl rfl rfl rfl rfl rfl rfl rfl ?_
     refine sy_sq ?_
     refine sp rfl (PE.pick rfl rfl rfl) rfl ?_
     refine sy_sq ?_
     refine sp rfl (PE.move rfl) rfl ?_
     refine sy_sq ?_
     refine spN rfl rfl rfl rfl rfl rfl rfl rfl ?_
     refine sy_sq ?_
     refine spN rfl rfl rfl rfl rfl rfl rfl rfl ?_
     refine sy_sq ?_
     refine spN rfl rfl rfl rfl rfl rfl rfl rfl ?_
     refine sy_sq ?_
     refine spN rfl rfl rfl rfl rfl rfl rfl rfl ?_
     refine sy_sq ?_
     refine spN rfl rfl rfl rfl rfl rfl rfl rfl ?_
     refine sy_sq ?_
     refine sp rfl (PE.pick rfl rfl rfl) rfl ?_
     refine sy_sq ?_
     refine sp rfl (PE.move rfl) rfl ?_
     refine sy_sq ?_
     refine spN rfl rfl rfl rfl rfl rfl rfl rfl ?_
     refine sy_sq ?_
     refine spN rfl rfl rfl rfl rfl rfl rfl rfl ?_
     refine sy_sq ?_
     refine spN rfl rfl rfl rfl rfl rfl rfl rfl ?_
     refine sy_sq ?_
     refine spN rfl rfl rfl rfl rfl rfl rfl rfl ?_
     refine sy_sq ?_
     refine spN rfl rfl rfl rfl rfl rfl rfl rfl ?_
     refine sy_sq ?_
     refine sp rfl (PE.pick rfl rfl rfl) rfl ?_
     refine sy_sq ?_
     refine sp rfl (PE.move rfl) rfl ?_
     refine sy_sq ?_
     refine spN rfl rfl rfl rfl rfl rfl rfl rfl ?_
     refine sy_sq ?_
     refine spN rfl rfl rfl rfl rfl rfl rfl rfl ?_
     refine sy_sq ?_
     refine spN rfl rfl rfl rfl rfl rfl rfl rfl ?_
     refine sy_sq ?_
     refine spN rfl rfl rfl rfl rfl rfl rfl rfl ?_
     refine sy_sq ?_
     refine spN rfl rfl rfl rfl rfl rfl rfl rfl ?_
     refine sy_sq ?_
     refine sp rfl (PE.pick rfl rfl rfl) rfl ?_
     refine sy_sq ?_
     refine sp rfl (PE.move rfl) rfl ?_
     refine sy_sq ?_
     refine spN rfl rfl rfl rfl rfl rfl rfl rfl ?_
     refine sy_sq ?_
     refine spN rfl rfl rfl rfl rfl rfl rfl rfl ?_
     refine sy_sq ?_
     refine spN rfl rfl rfl rfl rfl rfl rfl rfl ?_
     refine sy_sq ?_
     refine spN rfl rfl rfl rfl rfl rfl rfl rfl ?_
     refine sy_sq ?_
     refine spN rfl rfl rfl rfl rfl rfl rfl rfl ?_
     refine sy_sq ?_
     refine sp rfl (PE.pick rfl rfl rfl) rfl ?_
     refine sy_sq ?_
     refine sp rfl (PE.assign rfl) rfl ?_
     refine sy_sn ?_
     refine sy_nx ?_
     refine sy_ret ?_
     exact sy_return (vs := [_]) rfl (.cons (RV.tmp rfl) .nil) rfl ⟨by rw [twn_eq]; simp_all only [retV, Bool.true_and, Bool.false_and, Bool.and_false, Bool.and_true, cond_true, cond_false], rfl, rfl⟩ (fun _ h => by repeat first | exact h | replace h := St.tail h | replace h := St.ftail h | replace h := St.drop h)
   ·
    refine spN rfl rfl rfl rfl rfl rfl rfl rfl ?_
    refine sy_sq ?_
    refine spN rfl rfl rfl rfl rfl rfl rfl rfl ?_
    refine sy_sq ?_
    refine spN rfl rfl rfl rfl rfl rfl rfl rfl ?_
    refine sy_sq ?_
    refine spN rfl rfl rfl rfl rfl rfl rfl rfl ?_
    refine sy_sq ?_
    refine spN rfl rfl rfl rfl rfl rfl rfl rfl ?_
    refine sy_sq ?_
    refine sp rfl (PE.pick rfl rfl rfl) rfl ?_
    refine sy_sq ?_
    refine sp rfl (PE.move rfl) rfl ?_
    refine sy_sq ?_
    refine spN rfl rfl rfl rfl rfl rfl rfl rfl ?_
    refine sy_sq ?_
    refine spN rfl rfl rfl rfl rfl rfl rfl rfl ?_
    refine sy_sq ?_
    refine spN rfl rfl rfl rfl rfl rfl rfl rfl ?_
    refine sy_sq ?_
    refine spN rfl rfl rfl rfl rfl rfl rfl rfl ?_
    refine sy_sq ?_
    refine spN rfl rfl rfl rfl rfl rfl rfl rfl ?_
    refine sy_sq ?_
    refine sp rfl (PE.pick rfl rfl rfl) rfl ?_
    refine sy_sq ?_
    refine sp rfl (PE.move rfl) rfl ?_
    refine sy_sq ?_
    refine spN rfl rfl rfl rfl rfl rfl rfl rfl ?_
    refine sy_sq ?_
    refine spN rfl rfl rfl rfl rfl rfl rfl rfl ?_
    refine sy_sq ?_
    refine spN rfl rfl rfl rfl rfl rfl rfl rfl ?_
    refine sy_sq ?_
    refine spN rfl rfl rfl rfl rfl rfl rfl rfl ?_
    refine sy_sq ?_
    refine spN rfl rfl rfl rfl rfl rfl rfl rfl ?_
    refine sy_sq ?_
    refine sp rfl (PE.pick rfl rfl rfl) rfl ?_
    refine sy_sq ?_
    refine sp rfl (PE.move rfl) rfl ?_
    refine sy_sq ?_
    refine spN rfl rfl rfl rfl rfl rfl rfl rfl ?_
    refine sy_sq ?_
    refine spN rfl rfl rfl rfl rfl rfl rfl rfl ?_
    refine sy_sq ?_
    refine spN rfl rfl rfl rfl rfl rfl rfl rfl ?_
    refine sy_sq ?_
    refine spN rfl rfl rfl rfl rfl rfl rfl rfl ?_
    refine sy_sq ?_
    refine spN rfl rfl rfl rfl rfl rfl rfl rfl ?_
    refine sy_sq ?_
    refine sp rfl (PE.pick rfl rfl rfl) rfl ?_
    refine sy_sq ?_
    refine sp rfl (PE.move rfl) rfl ?_
    refine sy_sq ?_
    refine spN rfl rfl rfl rfl rfl rfl rfl rfl ?_
    refine sy_sq ?_
    refine spN rfl rfl rfl rfl rfl rfl rfl rfl ?_
    refine sy_sq ?_
    refine spN rfl rfl rfl rfl rfl rfl rfl rfl ?_
    refine sy_sq ?_
    refine spN rfl rfl rfl rfl rfl rfl rfl rfl ?_
    refine sy_sq ?_
    refine spN rfl rfl rfl rfl rfl rfl rfl rfl ?_
    refine sy_sq ?_
    refine sp rfl (PE.pick rfl rfl rfl) rfl ?_
    refine sy_sq ?_
    refine sp rfl (PE.move rfl) rfl ?_
    refine sy_sq ?_
    refine spN rfl rfl rfl rfl rfl rfl rfl rfl ?_
    refine sy_sq ?_
    refine spN rfl rfl rfl rfl rfl rfl rfl rfl ?_
    refine sy_sq ?_
    refine spN rfl rfl rfl rfl rfl rfl rfl rfl ?_
    refine sy_sq ?_
    refine spN rfl rfl rfl rfl rfl rfl rfl rfl ?_
    refine sy_sq ?_
    refine spN rfl rfl rfl rfl rfl rfl rfl rfl ?_
    refine sy_sq ?_
    refine sp rfl (PE.pick rfl rfl rfl) rfl ?_
    refine sy_sq ?_
    refine sp rfl (PE.move rfl) rfl ?_
    refine sy_sq ?_
    refine spN rfl rfl rfl rfl rfl rfl rfl rfl ?_
    refine sy_sq ?_
    refine spN rfl rfl rfl rfl rfl rfl rfl rfl ?_
    refine sy_sq ?_
    refine spN rfl rfl rfl rfl rfl rfl rfl rfl ?_
    refine sy_sq ?_
    refine spN rfl rfl rfl rfl rfl rfl rfl rfl ?_
    refine sy_sq ?_
    refine spN rfl rfl rfl rfl rfl rfl rfl rfl ?_
    refine sy_sq ?_
    refine sp rfl (PE.pick rfl rfl rfl) rfl ?_
    refine sy_sq ?_
    refine sp rfl (PE.move rfl) rfl ?_
    refine sy_sq ?_
    refine spN rfl rfl rfl rfl rfl rfl rfl rfl ?_
    refine sy_sq ?_
    refine spN rfl rfl rfl rfl rfl rfl rfl rfl ?_
    refine sy_sq ?_
    refine spN rfl rfl rfl rfl rfl rfl rfl rfl ?_
    refine sy_sq ?_
    refine spN rfl rfl rfl rfl rfl rfl rfl rfl ?_
    refine sy_sq ?_
    refine spN rfl rfl rfl rfl rfl rfl rfl rfl ?_
    refine sy_sq ?_
    refine sp rfl (PE.pick rfl rfl rfl) rfl ?_
    refine sy_sq ?_
    refine sp rfl (PE.assign rfl) rfl ?_
    refine sy_sn ?_
    refine sy_nx ?_
    refine sy_ret ?_
    exact sy_return (vs := [_]) rfl (.cons (RV.tmp rfl) .nil) rfl ⟨by rw [twn_eq]; simp_all only [retV, Bool.true_and, Bool.false_and, Bool.and_false, Bool.and_true, cond_true, cond_false], rfl, rfl⟩ (fun _ h => by repeat first | exact h | replace h := St.tail h | replace h := St.ftail h | replace h := St.drop h)
  refine sy_alt ?_ ?_
  ·
   refine alc rfl zl26 rfl (fun b6 => ?_)
   refine bg (fun w hs => ⟨(lhA [_, _, _, _, _, _, _, _, _, _, _] ag26 rfl rfl rfl) w hs, (lhA [_, _, _, _, _, _, _, _, _, _, _] ag26 rfl rfl rfl) w hs, trivial⟩) ?_
   refine sy_bg ?_
   refine alc rfl zl26 rfl (fun b5 => ?_)
   refine bg (fun w hs => ⟨(lhA [_, _, _, _, _, _, _, _, _, _, _] ag26 rfl rfl rfl) w hs, (lhA [_, _, _, _, _, _, _, _, _, _, _] ag26 rfl rfl rfl) w hs, trivial⟩) ?_
   refine sy_bg ?_
   refine sto rfl rfl rfl cn26 rfl rfl rfl rfl ?_
   refine bg (fun w hs => ⟨(lhA [_, _, _, _, _, _, _, _, _, _, _] ag26 rfl rfl rfl) w hs, trivial, trivial⟩) ?_
   refine sy_bg ?_
   refine sto rfl rfl rfl cn26 rfl rfl rfl rfl ?_
   refine bg (fun w hs => ⟨trivial, trivial⟩) ?_
   refine sy_dn ?_
   refine sy_nx ?_
   refine sy_seq ?_
   refine sy_tx' [0, 1, 2, 3] rfl ?_
   refine sy_sq ?_
   refine sp rfl (PE.fieldAddr fo26_8 rfl) rfl ?_
   refine sy_sq ?_
   refine sto rfl rfl rfl cn24 rfl rfl rfl rfl ?_
   refine sy_sq ?_
   refine sp rfl (PE.fieldAddr fo26_8 rfl) rfl ?_
   refine sy_sq ?_
   refine sto rfl rfl rfl cn24 rfl rfl rfl rfl ?_
   refine sy_sn ?_
   refine sy_nx ?_
   refine sy_seq ?_
   refine sy_tx' [0, 1, 2, 3, 4, 5, 6, 7, 8, 9, 10, 11, 12, 13, 14, 15, 16, 17, 18, 19, 20, 21, 22, 23, 24, 25, 26, 27, 28, 29, 30, 31, 32, 33, 34, 35, 36, 37, 38, 39, 40, 41, 42, 43, 44, 45, 46, 47, 48, 49, 50, 51, 52, 53, 54, 55, 56, 57, 58, 59, 60, 61] rfl ?_
   refine sy_sq ?_
   refine sp rfl (PE.fieldAddr fo26_8 rfl) rfl ?_
   refine sy_sq ?_
   refine spL rfl rfl (lh sc24 rfl rfl) rfl ?_
   refine sy_sq ?_
   refine sp rfl (PE.fieldAddr fo26_8 rfl) rfl ?_
   refine sy_sq ?_
   refine spL rfl rfl (lh sc24 rfl rfl) rfl ?_
   refine sy_sq ?_
   refine clV rfl cal99 rfl rfl (c_Eq_rat t.rats u.rats a a2 c c2 hl hl2 _ _) ?_
   refine sy_sq ?_
   refine sp rfl (PE.move rfl) rfl ?_
   refine sy_sq ?_
   refine sy_case (t := 16) rfl (fun g16 => ?_) (fun g16 => ?_)
   ·
    refine spG rfl rfl rfl rfl (PE.fieldAddr fo26_0 rfl) rfl ?_
    refine sy_sq ?_
    refine spLG rfl rfl rfl rfl rfl (lhA [_, _, _] ag23 rfl rfl rfl) rfl ?_
    refine sy_sq ?_
    refine spG rfl rfl rfl rfl (PE.fieldAddr fo26_0 rfl) rfl ?_
    refine sy_sq ?_
    refine spLG rfl rfl rfl rfl rfl (lhA [_, _, _] ag23 rfl rfl rfl) rfl ?_
    refine sy_sq ?_
    refine spG rfl rfl rfl rfl (PE.eqlAgg [t.now.stock, t.now.short, t.now.dry] [u.now.stock, u.now.short, u.now.dry] (eqB_ok 10000 23 true 3 eqf23) eqg23 rfl rfl rfl rfl) rfl ?_
    refine sy_sq ?_
    refine sp rfl (PE.pick rfl rfl rfl) rfl ?_
    refine sy_sq ?_
    refine sp rfl (PE.move rfl) rfl ?_
    refine sy_sq ?_
    refine sy_case (t := 23) rfl (fun g23 => ?_) (fun g23 => ?_)
    ·
     refine spG rfl rfl rfl rfl (PE.fieldAddr fo26_1 rfl) rfl ?_
     refine sy_sq ?_
     refine spLG rfl rfl rfl rfl rfl (lh sc3 rfl rfl) rfl ?_
     refine sy_sq ?_
     refine spG rfl rfl rfl rfl (PE.fieldAddr fo26_1 rfl) rfl ?_
     refine sy_sq ?_
     refine spLG rfl rfl rfl rfl rfl (lh sc3 rfl rfl) rfl ?_
     refine sy_sq ?_
     refine spG rfl rfl rfl rfl (PE.eql rfl rfl) rfl ?_
     refine sy_sq ?_
     refine sp rfl (PE.pick rfl rfl rfl) rfl ?_
     refine sy_sq ?_
     refine sp rfl (PE.move rfl) rfl ?_
     refine sy_sq ?_
     refine sy_case (t := 30) rfl (fun g30 => ?_) (fun g30 => ?_)
     ·
      refine spG rfl rfl rfl rfl (PE.fieldAddr fo26_2 rfl) rfl ?_
      refine sy_sq ?_
      refine spLG rfl rfl rfl rfl rfl (lh sc3 rfl rfl) rfl ?_
      refine sy_sq ?_
      refine spG rfl rfl rfl rfl (PE.fieldAddr fo26_2 rfl) rfl ?_
      refine sy_sq ?_
      refine spLG rfl rfl rfl rfl rfl (lh sc3 rfl rfl) rfl ?_
      refine sy_sq ?_
      refine spG rfl rfl rfl rfl (PE.eql rfl rfl) rfl ?_
      refine sy_sq ?_
      refine sp rfl (PE.pick rfl rfl rfl) rfl ?_
      refine sy_sq ?_
      refine sp rfl (PE.move rfl) rfl ?_
      refine sy_sq ?_
      refine sy_case (t := 37) rfl (fun g37 => ?_) (fun g37 => ?_)
      ·
       refine spG rfl rfl rfl rfl (PE.fieldAddr fo26_3 rfl) rfl ?_
       refine sy_sq ?_
       refine spLG rfl rfl rfl rfl rfl (lh sc3 rfl rfl) rfl ?_
       refine sy_sq ?_
       refine spG rfl rfl rfl rfl (PE.fieldAddr fo26_3 rfl) rfl ?_
       refine sy_sq ?_
       refine spLG rfl rfl rfl rfl rfl (lh sc3 rfl rfl) rfl ?_
       refine sy_sq ?_
       refine spG rfl rfl rfl rfl (PE.eql rfl rfl) rfl ?_
       refine sy_sq ?_
       refine sp rfl (PE.pick rfl rfl rfl) rfl ?_
       refine sy_sq ?_
       refine sp rfl (PE.move rfl) rfl ?_
       refine sy_sq ?_
       refine sy_case (t := 44) rfl (fun g44 => ?_) (fun g44 => ?_)
       ·
        refine spG rfl rfl rfl rfl (PE.fieldAddr fo26_4 rfl) rfl ?_
        refine sy_sq ?_
        refine spLG rfl rfl rfl rfl rfl (lh sc3 rfl rfl) rfl ?_
        refine sy_sq ?_
        refine spG rfl rfl rfl rfl (PE.fieldAddr fo26_4 rfl) rfl ?_
        refine sy_sq ?_
        refine spLG rfl rfl rfl rfl rfl (lh sc3 rfl rfl) rfl ?_
        refine sy_sq ?_
        refine spG rfl rfl rfl rfl (PE.eql rfl rfl) rfl ?_
        refine sy_sq ?_
        refine sp rfl (PE.pick rfl rfl rfl) rfl ?_
        refine sy_sq ?_
        refine sp rfl (PE.move rfl) rfl ?_
        refine sy_sq ?_
        refine sy_case (t := 51) rfl (fun g51 => ?_) (fun g51 => ?_)
        ·
         refine spG rfl rfl rfl rfl (PE.fieldAddr fo26_5 rfl) rfl ?_
         refine sy_sq ?_
         refine spLG rfl rfl rfl rfl rfl (lh sc3 rfl rfl) rfl ?_
         refine sy_sq ?_
         refine spG rfl rfl rfl rfl (PE.fieldAddr fo26_5 rfl) rfl ?_
         refine sy_sq ?_
         refine spLG rfl rfl rfl rfl rfl (lh sc3 rfl rfl) rfl ?_
         refine sy_sq ?_
         refine spG rfl rfl rfl rfl (PE.eql rfl rfl) rfl ?_
         refine sy_sq ?_
         refine sp rfl (PE.pick rfl rfl rfl) rfl ?_
         refine sy_sq ?_
         refine sp rfl (PE.move rfl) rfl ?_
         refine sy_sq ?_
         refine sy_case (t := 58) rfl (fun g58 => ?_) (fun g58 => ?_)
         ·
          refine spG rfl rfl rfl rfl (PE.fieldAddr fo26_6 rfl) rfl ?_
          refine sy_sq ?_
          refine spLG rfl rfl rfl rfl rfl (lh sc3 rfl rfl) rfl ?_
          refine sy_sq ?_
          refine spG rfl rfl rfl rfl (PE.fieldAddr fo26_6 rfl) rfl ?_
          refine sy_sq ?_
          refine spLG rfl rfl rfl rfl rfl (lh sc3 rfl rfl) rfl ?_
          refine sy_sq ?_
          refine spG rfl rfl rfl rfl (PE.eql rfl rfl) rfl ?_
          refine sy_sq ?_
          refine sp rfl (PE.pick rfl rfl rfl) rfl ?_
          refine sy_sq ?_
          refine sp rfl (PE.move rfl) rfl ?_
          refine sy_sq ?_
          refine sy_case (t := 65) rfl (fun g65 => ?_) (fun g65 => ?_)
          ·
           refine spG rfl rfl rfl rfl (PE.fieldAddr fo26_7 rfl) rfl ?_
           refine sy_sq ?_
           refine spLG rfl rfl rfl rfl rfl (lh sc3 rfl rfl) rfl ?_
           refine sy_sq ?_
           refine spG rfl rfl rfl rfl (PE.fieldAddr fo26_7 rfl) rfl ?_
           refine sy_sq ?_
           refine spLG rfl rfl rfl rfl rfl (lh sc3 rfl rfl) rfl ?_
           refine sy_sq ?_
           refine spG rfl rfl rfl rfl (PE.eql rfl rfl) rfl ?_
           refine sy_sq ?_
           refine sp rfl (PE.pick rfl rfl rfl) rfl ?_
           refine sy_sq ?_
           refine sp rfl (PE.assign rfl) rfl ?_
           refine sy_sn ?_
           refine sy_nx ?_
           refine sy_ret ?_
           exact sy_return (vs := [_]) rfl (.cons (RV.tmp rfl) .nil) rfl ⟨by rw [twn_eq]; simp_all only [retV, Bool.true_and, Bool.false_and, Bool.and_false, Bool.and_true, cond_true, cond_false], rfl, rfl⟩ (fun _ h => by repeat first | exact h | replace h := St.tail h | replace h := St.ftail h | replace h := St.drop h)
          ·
           refine spN rfl rfl rfl rfl rfl rfl rfl rfl ?_
           refine sy_sq ?_
           refine spN rfl rfl rfl rfl rfl rfl rfl rfl ?_
           refine sy_sq ?_
           refine spN rfl rfl rfl rfl rfl rfl rfl rfl ?_
           refine sy_sq ?_
           refine spN rfl rfl rfl rfl rfl rfl rfl rfl ?_
           refine sy_sq ?_
           refine spN rfl rfl rfl rfl rfl rfl rfl rfl ?_
           refine sy_sq ?_
           refine sp rfl (PE.pick rfl rfl rfl) rfl ?_
           refine sy_sq ?_
           refine sp rfl (PE.assign rfl) rfl ?_
           refine sy_sn ?_
           refine sy_nx ?_
           refine sy_ret ?_
           exact sy_return (vs := [_]) rfl (.cons (RV.tmp rfl) .nil) rfl ⟨by rw [twn_eq]; simp_all only [retV, Bool.true_and, Bool.false_and, Bool.and_false, Bool.and_true, cond_true, cond_false], rfl, rfl⟩ (fun _ h => by repeat first | exact h | replace h := St.tail h | replace h := St.ftail h | replace h := St.drop h)
         ·
          refine spN rfl rfl rfl rfl rfl rfl rfl rfl ?_
          refine sy_sq ?_
          refine spN rfl rfl rfl rfl rfl rfl rfl rfl ?_
          refine sy_sq ?_
          refine spN rfl rfl rfl rfl rfl rfl rfl rfl ?_
          refine sy_sq ?_
          refine spN rfl rfl rfl rfl rfl rfl rfl rfl ?_
          refine sy_sq ?_
          refine spN rfl rfl rfl rfl rfl rfl rfl rfl ?_
          refine sy_sq ?_
          refine sp rfl (PE.pick rfl rfl rfl) rfl ?_
          refine sy_sq ?_
          refine sp rfl (PE.move rfl) rfl ?_
          refine sy_sq ?_
          refine spN rfl rfl rfl rfl rfl rfl rfl rfl ?_
          refine sy_sq ?_
          refine spN rfl rfl rfl rfl rfl rfl rfl rfl ?_
          refine sy_sq ?_
          refine spN rfl rfl rfl rfl rfl rfl rfl rfl ?_
          refine sy_sq ?_
          refine spN rfl rfl rfl rfl rfl rfl rfl rfl ?_
          refine sy_sq ?_
          refine spN rfl rfl rfl rfl rfl rfl rfl rfl ?_
          refine sy_sq ?_
          refine sp rfl (PE.pick rfl rfl rfl) rfl ?_
          refine sy_sq ?_
          refine sp rfl (PE.assign rfl) rfl ?_
          refine sy_sn ?_
          refine sy_nx ?_
          refine sy_ret ?_
          exact sy_return (vs := [_]) rfl (.cons (RV.tmp rfl) .nil) rfl ⟨by rw [twn_eq]; simp_all only [retV, Bool.true_and, Bool.false_and, Bool.and_false, Bool.and_true, cond_true, cond_false], rfl, rfl⟩ (fun _ h => by repeat first | exact h | replace h := St.tail h | replace h := St.ftail h | replace h := St.drop h)
        ·
         refine spN rfl rfl rfl rfl rfl rfl rfl rfl ?_
         refine sy_sq ?_
         refine spN rfl rfl rfl rfl rfl rfl rfl rfl ?_
         refine sy_sq ?_
         refine spN rfl rfl rfl rfl rfl rfl rfl rfl ?_
         refine sy_sq ?_
         refine spN rfl rfl rfl rfl rfl rfl rfl rfl ?_
         refine sy_sq ?_
         refine spN rfl rfl rfl rfl rfl rfl rfl rfl ?_
         refine sy_sq ?_
         refine sp rfl (PE.pick rfl rfl rfl) rfl ?_
         refine sy_sq ?_
         refine sp rfl (PE.move rfl) rfl ?_
         refine sy_sq ?_
         refine spN rfl rfl rfl rfl rfl rfl rfl rfl ?_
         refine sy_sq ?_
         refine spN rfl rfl rfl rfl rfl rfl rfl rfl ?_
         refine sy_sq ?_
         refine spN rfl rfl rfl rfl rfl rfl rfl rfl ?_
         refine sy_sq ?_
         refine spN rfl rfl rfl rfl rfl rfl rfl rfl ?_
         refine sy_sq ?_
         refine spN rfl rfl rfl rfl rfl rfl rfl rfl ?_
         refine sy_sq ?_
         refine sp rfl (PE.pick rfl rfl rfl) rfl ?_
         refine sy_sq ?_
         refine sp rfl (PE.move rfl) rfl ?_
         refine sy_sq ?_
         refine spN rfl rfl rfl rfl rfl rfl rfl rfl ?_
         refine sy_sq ?_
         refine spN rfl rfl rfl rfl rfl rfl rfl rfl ?_
         refine sy_sq ?_
         refine spN rfl rfl rfl rfl rfl rfl rfl rfl ?_
         refine sy_sq ?_
         refine spN rfl rfl rfl rfl rfl rfl rfl rfl ?_
         refine sy_sq ?_
         refine spN rfl rfl rfl rfl rfl rfl rfl rfl ?_
         refine sy_sq ?_
         refine sp rfl (PE.pick rfl rfl rfl) rfl ?_
         refine sy_sq ?_
         refine sp rfl (PE.assign rfl) rfl ?_
         refine sy_sn ?_
         refine sy_nx ?_
         refine sy_ret ?_
         exact sy_return (vs := [_]) rfl (.cons (RV.tmp rfl) .nil) rfl ⟨by rw [twn_eq]; simp_all only [retV, Bool.true_and, Bool.false_and, Bool.and_false, Bool.and_true, cond_true, cond_false], rfl, rfl⟩ (fun _ h => by repeat first | exact h | replace h := St.tail h | replace h := St.ftail h | replace h := St.drop h)
       ·
        refine spN rfl rfl rfl rfl rfl rfl rfl rfl ?_
        refine sy_sq ?_
        refine spN rfl rfl rfl rfl rfl rfl rfl rfl ?_
        refine sy_sq ?_
        refine spN rfl rfl rfl rfl rfl rfl rfl rfl ?_
        refine sy_sq ?_
        refine spN rfl rfl rfl rfl rfl rfl rfl rfl ?_
        refine sy_sq ?_
        refine spN rfl rfl rfl rfl rfl rfl rfl rfl ?_
        refine sy_sq ?_
        refine sp rfl (PE.pick rfl rfl rfl) rfl ?_
        refine sy_sq ?_
        refine sp rfl (PE.move rfl) rfl ?_
        refine sy_sq ?_
        refine spN rfl rfl rfl rfl rfl rfl rfl rfl ?_
        refine sy_sq ?_
        refine spN rfl rfl rfl rfl rfl rfl rfl rfl ?_
        refine sy_sq ?_
        refine spN rfl rfl rfl rfl rfl rfl rfl rfl ?_
        refine sy_sq ?_
        refine spN rfl rfl rfl rfl rfl rfl rfl rfl ?_
        refine sy_sq ?_
        refine spN rfl rfl rfl rfl rfl rfl rfl rfl ?_
        refine sy_sq ?_
        refine sp rfl (PE.pick rfl rfl rfl) rfl ?_
        refine sy_sq ?_
        refine sp rfl (PE.move rfl) rfl ?_
        refine sy_sq ?_
        refine spN rfl rfl rfl rfl rfl rfl rfl rfl ?_
        refine sy_sq ?_
        refine spN rfl rfl rfl rfl rfl rfl rfl rfl ?_
        refine sy_sq ?_
        refine spN rfl rfl rfl rfl rfl rfl rfl rfl ?_
        refine sy_sq ?_
        refine spN rfl rfl rfl rfl rfl rfl rfl rfl ?_
        refine sy_sq ?_
        refine spN rfl rfl rfl rfl rfl rfl rfl rfl ?_
        refine sy_sq ?_
        refine sp rfl (PE.pick rfl rfl rfl) rfl ?_
        refine sy_sq ?_
        refine sp rfl (PE.move rfl) rfl ?_
        refine sy_sq ?_
        refine spN rfl rfl rfl rfl rfl rfl rfl rfl ?_
        refine sy_sq ?_
        refine spN rfl rfl rfl rfl rfl rfl rfl rfl ?_
        refine sy_sq ?_
        refine spN rfl rfl rfl rfl rfl rfl rfl rfl ?_
        refine sy_sq ?_
        refine spN rfl rfl rfl rfl rfl rfl rfl rfl ?_
        refine sy_sq ?_
        refine spN rfl rfl rfl rfl rfl rfl rfl rfl ?_
        refine sy_sq ?_
        refine sp rfl (PE.pick rfl rfl rfl) rfl ?_
        refine sy_sq ?_
        refine sp rfl (PE.assign rfl) rfl ?_
        refine sy_sn ?_
        refine sy_nx ?_
        refine sy_ret ?_
        exact sy_return (vs := [_]) rfl (.cons (RV.tmp rfl) .nil) rfl ⟨by rw [twn_eq]; simp_all only [retV, Bool.true_and, Bool.false_and, Bool.and_false, Bool.and_true, cond_true, cond_false], rfl, rfl⟩ (fun _ h => by repeat first | exact h | replace h := St.tail h | replace h := St.ftail h | replace h := St.drop h)
      ·
       refine spN rfl rfl rfl rfl rfl rfl rfl rfl ?_
       refine sy_sq ?_
       refine spN rfl rfl rfl rfl rfl rfl rfl rfl ?_
       refine sy_sq ?_
       refine spN rfl rfl rfl rfl rfl rfl rfl rfl ?_
       refine sy_sq ?_
       refine spN rfl rfl rfl rfl rfl rfl rfl rfl ?_
       refine sy_sq ?_
       refine spN rfl rfl rfl rfl rfl rfl rfl rfl ?_
       refine sy_sq ?_
       refine sp rfl (PE.pick rfl rfl rfl) rfl ?_
       refine sy_sq ?_
       refine sp rfl (PE.move rfl) rfl ?_
       refine sy_sq ?_
       refine spN rfl rfl rfl rfl rfl rfl rfl rfl ?_
       refine sy_sq ?_
       refine spN rfl rfl rfl rfl rfl rfl rfl rfl ?_
       refine sy_sq ?_
       refine spN rfl rfl rfl rfl rfl rfl rfl rfl ?_
       refine sy_sq ?_
       refine spN rfl rfl rfl rfl rfl rfl rfl rfl ?_
       refine sy_sq ?_
       refine spN rfl rfl rfl rfl rfl rfl rfl rfl ?_
       refine sy_sq ?_
       refine sp rfl (PE.pick rfl rfl rfl) rfl ?_
       refine sy_sq ?_
       refine sp rfl (PE.move rfl) rfl ?_
       refine sy_sq ?_
       refine spN rfl rfl rfl rfl rfl rfl rfl rfl ?_
       refine sy_sq ?_
       refine spN rfl rfl rfl rfl rfl rfl rfl rfl ?_
       refine sy_sq ?_
       refine spN rfl rfl rfl rfl rfl rfl rfl rfl ?_
       refine sy_sq ?_
       refine spN rfl rfl rfl rfl rfl rfl rfl rfl ?_
       refine sy_sq ?_
       refine spN rfl rfl rfl rfl rfl rfl rfl rfl ?_
       refine sy_sq ?_
       refine sp rfl (PE.pick rfl rfl rfl) rfl ?_
       refine sy_sq ?_
       refine sp rfl (PE.move rfl) rfl ?_
       refine sy_sq ?_
       refine spN rfl rfl rfl rfl rfl rfl rfl rfl ?_
       refine sy_sq ?_
       refine spN rfl rfl rfl rfl rfl rfl rfl rfl ?_
       refine sy_sq ?_
       refine spN rfl rfl rfl rfl rfl rfl rfl rfl ?_
       refine sy_sq ?_
       refine spN rfl rfl rfl rfl rfl rfl rfl rfl ?_
       refine sy_sq ?_
       refine spN rfl rfl rfl rfl rfl rfl rfl rfl ?_
       refine sy_sq ?_
       refine sp rfl (PE.pick rfl rfl rfl) rfl ?_
       refine sy_sq ?_
       refine sp rfl (PE.move rfl) rfl ?_
       refine sy_sq ?_
       refine spN rfl rfl rfl rfl rfl rfl rfl rfl ?_
       refine sy_sq ?_
       refine spN rfl rfl rfl rfl rfl rfl rfl rfl ?_
       refine sy_sq ?_
       refine spN rfl rfl rfl rfl rfl rfl rfl rfl ?_
       refine sy_sq ?_
       refine spN rfl rfl rfl rfl rfl rfl rfl rfl ?_
       refine sy_sq ?_
       refine spN rfl rfl rfl rfl rfl rfl rfl rfl ?_
       refine sy_sq ?_
       refine sp rfl (PE.pick rfl rfl rfl) rfl ?_
       refine sy_sq ?_
       refine sp rfl (PE.assign rfl) rfl ?_
       refine sy_sn ?_
       refine sy_nx ?_
       refine sy_ret ?_
       exact sy_return (vs := [_]) rfl (.cons (RV.tmp rfl) .nil) rfl ⟨by rw [twn_eq]; simp_all only [retV, Bool.true_and, Bool.false_and, Bool.and_false, Bool.and_true, cond_true, cond_false], rfl, rfl⟩ (fun _ h => by repeat first | exact h | replace h := St.tail h | replace h := St.ftail h | replace h := St.drop h)
     ·
      refine spN rfl rfl rfl rfl rfl rfl rfl rfl ?_
      refine sy_sq ?_
      refine spN rfl rfl rfl rfl rfl rfl rfl rfl ?_
      refine sy_sq ?_
      refine spN rfl rfl rfl rfl rfl rfl rfl rfl ?_
      refine sy_sq ?_
      refine spN rfl rfl rfl rfl rfl rfl rfl rfl ?_
      refine sy_sq ?_
      refine spN rfl rfl rfl rfl rfl rfl rfl rfl ?_
      refine sy_sq ?_
      refine sp rfl (PE.pick rfl rfl rfl) rfl ?_
      refine sy_sq ?_
      refine sp rfl (PE.move rfl) rfl ?_
      refine sy_sq ?_
      refine spN rfl rfl rfl rfl rfl rfl rfl rfl ?_
      refine sy_sq ?_
      refine spN rfl rfl rfl rfl rfl rfl rfl rfl ?_
      refine sy_sq ?_
      refine spN rfl rfl rfl rfl rfl rfl rfl rfl ?_
      refine sy_sq ?_
      refine spN rfl rfl rfl rfl rfl rfl rfl rfl ?_
      refine sy_sq ?_
      refine spN rfl rfl rfl rfl rfl rfl rfl rfl ?_
      refine sy_sq ?_
      refine sp rfl (PE.pick rfl rfl rfl) rfl ?_
      refine sy_sq ?_
      refine sp rfl (PE.move rfl) rfl ?_
      refine sy_sq ?_
      refine spN rfl rfl rfl rfl rfl rfl rfl rfl ?_
      refine sy_sq ?_
      refine spN rfl rfl rfl rfl rfl rfl rfl rfl ?_
      refine sy_sq ?_
      refine spN rfl rfl rfl rfl rfl rfl rfl rfl ?_
      refine sy_sq ?_
      refine spN rfl rfl rfl rfl rfl rfl rfl rfl ?_
      refine sy_sq ?_
      refine spN rfl rfl rfl rfl rfl rfl rfl rfl ?_
      refine sy_sq ?_
      refine sp rfl (PE.pick rfl rfl rfl) rfl ?_
      refine sy_sq ?_
      refine sp rfl (PE.move rfl) rfl ?_
      refine sy_sq ?_
      refine spN rfl rfl rfl rfl rfl rfl rfl rfl ?_
      refine sy_sq ?_
      refine spN rfl rfl rfl rfl rfl rfl rfl rfl ?_
      refine sy_sq ?_
      refine spN rfl rfl rfl rfl rfl rfl rfl rfl ?_
      refine sy_sq ?_
      refine spN rfl rfl rfl rfl rfl rfl rfl rfl ?_
      refine sy_sq ?_
      refine spN rfl rfl rfl rfl rfl rfl rfl rfl ?_
      refine sy_sq ?_
      refine sp rfl (PE.pick rfl rfl rfl) rfl ?_
      refine sy_sq ?_
      refine sp rfl (PE.move rfl) rfl ?_
      refine sy_sq ?_
      refine spN rfl rfl rfl rfl rfl rfl rfl rfl ?_
      refine sy_sq ?_
      refine spN rfl rfl rfl rfl rfl rfl rfl rfl ?_
      refine sy_sq ?_
      refine spN rfl rfl rfl rfl rfl rfl rfl rfl ?_
      refine sy_sq ?_
      refine spN rfl rfl rfl rfl rfl rfl rfl rfl ?_
      refine sy_sq ?_
      refine spN rfl rfl rfl rfl rfl rfl rfl rfl ?_
      refine sy_sq ?_
      refine sp rfl (PE.pick rfl rfl rfl) rfl ?_
      refine sy_sq ?_
      refine sp rfl (PE.move rfl) rfl ?_
      refine sy_sq ?_
      refine spN rfl rfl rfl rfl rfl rfl rfl rfl ?_
      refine sy_sq ?_
      refine spN rfl rfl rfl rfl rfl rfl rfl rfl ?_
      refine sy_sq ?_
      refine spN rfl rfl rfl rfl rfl rfl rfl rfl ?_
      refine sy_sq ?_
      refine spN rfl rfl rfl rfl rfl rfl rfl rfl ?_
      refine sy_sq ?_
      refine spN rfl rfl rfl rfl rfl rfl rfl rfl ?_
      refine sy_sq ?_
      refine sp rfl (PE.pick rfl rfl rfl) rfl ?_
      refine sy_sq ?_
      refine sp rfl (PE.assign rfl) rfl ?_
      refine sy_sn ?_
      refine sy_nx ?_
      refine sy_ret ?_
      exact sy_return (vs := [_]) rfl (.cons (RV.tmp rfl) .nil) rfl ⟨by rw [twn_eq]; simp_all only [retV, Bool.true_and, Bool.false_and, Bool.and_false, Bool.and_true, cond_true, cond_false], rfl, rfl⟩ (fun _ h => by repeat first | exact h | replace h := St.tail h | replace h := St.ftail h | replace h := St.drop h)
    ·
     refine spN rfl rfl rfl rfl rfl rfl rfl rfl ?_
     refine sy_sq ?_
     refine spN rfl rfl rfl rfl rfl rfl rfl rfl ?_
     refine sy_sq ?_
     refine spN rfl rfl rfl rfl rfl rfl rfl rfl ?_
     refine sy_sq ?_
     refine spN rfl rfl rfl rfl rfl rfl rfl rfl ?_
     refine sy_sq ?_
     refine spN rfl rfl rfl rfl rfl rfl rfl rfl ?_
     refine sy_sq ?_
     refine sp rfl (PE.pick rfl rfl rfl) rfl ?_
     refine sy_sq ?_
     refine sp rfl (PE.move rfl) rfl ?_
     refine sy_sq ?_
     refine spN rfl rfl rfl rfl rfl rfl rfl rfl ?_
     refine sy_sq ?_
     refine spN rfl rfl rfl rfl rfl rfl rfl rfl ?_
     refine sy_sq ?_
     refine spN rfl rfl rfl rfl rfl rfl rfl rfl ?_
     refine sy_sq ?_
     refine spN rfl rfl rfl rfl rfl rfl rfl rfl ?_
     refine sy_sq ?_
     refine spN rfl rfl rfl rfl rfl rfl rfl rfl ?_
     refine sy_sq ?_
     refine sp rfl (PE.pick rfl rfl rfl) rfl ?_
     refine sy_sq ?_
     refine sp rfl (PE.move rfl) rfl ?_
     refine sy_sq ?_
     refine spN rfl rfl rfl rfl rfl rfl rfl rfl ?_
     refine sy_sq ?_
     refine spN rfl rfl rfl rfl rfl rfl rfl rfl ?_
     refine sy_sq ?_
     refine spN rfl rfl rfl rfl rfl rfl rfl rfl ?_
     refine sy_sq ?_
     refine spN rfl rfl rfl rfl rfl rfl rfl rfl ?_
     refine sy_sq ?_
     refine spN rfl rfl rfl rfl rfl rfl rfl rfl ?_
     refine sy_sq ?_
     refine sp rfl (PE.pick rfl rfl rfl) rfl ?_
     refine sy_sq ?_
     refine sp rfl (PE.move rfl) rfl ?_
     refine sy_sq ?_
     refine spN rfl rfl rfl rfl rfl rfl rfl rfl ?_
     refine sy_sq ?_
     refine spN rfl rfl rfl rfl rfl rfl rfl rfl ?_
     refine sy_sq ?_
     refine spN rfl rfl rfl rfl rfl rfl rfl rfl ?_
     refine sy_sq ?_
     refine spN rfl rfl rfl rfl rfl rfl rfl rfl ?_
     refine sy_sq ?_
     refine spN rfl rfl rfl rfl rfl rfl rfl rfl ?_
     refine sy_sq ?_
     refine sp rfl (PE.pick rfl rfl rfl) rfl ?_
     refine sy_sq ?_
     refine sp rfl (PE.move rfl) rfl ?_
     refine sy_sq ?_
     refine spN rfl rfl rfl rfl rfl rfl rfl rfl ?_
     refine sy_sq ?_
     refine spN rfl rfl rfl rfl rfl rfl rfl rfl ?_
     refine sy_sq ?_
     refine spN rfl rfl rfl rfl rfl rfl rfl rfl ?_
     refine sy_sq ?_
     refine spN rfl rfl rfl rfl rfl rfl rfl rfl ?_
     refine sy_sq ?_
     refine spN rfl rfl rfl rfl rfl rfl rfl rfl ?_
     refine sy_sq ?_
     refine sp rfl (PE.pick rfl rfl rfl) rfl ?_
     refine sy_sq ?_
     refine sp rfl (PE.move rfl) rfl ?_
     refine sy_sq ?_
     refine spN rfl rfl rfl rfl rfl rfl rfl rfl ?_
     refine sy_sq ?_
     refine spN rfl rfl rfl rfl rfl rfl rfl rfl ?_
     refine sy_sq ?_
     refine spN rfl rfl rfl rfl rfl rfl rfl rfl ?_
     refine sy_sq ?_
     refine spN rfl rfl rfl rfl rfl rfl rfl rfl ?_
     refine sy_sq ?_
     refine spN rfl rfl rfl rfl rfl rfl rfl rfl ?_
     refine sy_sq ?_
     refine sp rfl (PE.pick rfl rfl rfl) rfl ?_
     refine sy_sq ?_
     refine sp rfl (PE.move rfl) rfl ?_
     refine sy_sq ?_
     refine spN rfl rfl rfl rfl rfl rfl rfl rfl ?_
     refine sy_sq ?_
     refine spN rfl rfl rfl rfl rfl rfl rfl rfl ?_
     refine sy_sq ?_
     refine spN rfl rfl rfl rfl rfl rfl rfl rfl ?_
     refine sy_sq ?_
     refine spN rfl rfl rfl rfl rfl rfl rfl rfl ?_
     refine sy_sq ?_
     refine spN rfl rfl rfl rfl rfl rfl rfl rfl ?_
     refine sy_sq ?_
     refine sp rfl (PE.pick rfl rfl rfl) rfl ?_
     refine sy_sq ?_
     refine sp rfl (PE.assign rfl) rfl ?_
     refine sy_sn ?_
     refine sy_nx ?_
     refine sy_ret ?_
     exact sy_return (vs := [_]) rfl (.cons (RV.tmp rfl) .nil) rfl ⟨by rw [twn_eq]; simp_all only [retV, Bool.true_and, Bool.false_and, Bool.and_false, Bool.and_true, cond_true, cond_false], rfl, rfl⟩ (fun _ h => by repeat first | exact h | replace h := St.tail h | replace h := St.ftail h | replace h := St.drop h)
   ·
    refine spN rfl rfl rfl rfl rfl rfl rfl rfl ?_
    refine sy_sq ?_
    refine spN rfl rfl rfl rfl rfl rfl rfl rfl ?_
    refine sy_sq ?_
    refine spN rfl rfl rfl rfl rfl rfl rfl rfl ?_
    refine sy_sq ?_
    refine spN rfl rfl rfl rfl rfl rfl rfl rfl ?_
    refine sy_sq ?_
    refine spN rfl rfl rfl rfl rfl rfl rfl rfl ?_
    refine sy_sq ?_
    refine sp rfl (PE.pick rfl rfl rfl) rfl ?_
    refine sy_sq ?_
    refine sp rfl (PE.move rfl) rfl ?_
    refine sy_sq ?_
    refine spN rfl rfl rfl rfl rfl rfl rfl rfl ?_
    refine sy_sq ?_
    refine spN rfl rfl rfl rfl rfl rfl rfl rfl ?_
    refine sy_sq ?_
    refine spN rfl rfl rfl rfl rfl rfl rfl rfl ?_
    refine sy_sq ?_
    refine spN rfl rfl rfl rfl rfl rfl rfl rfl ?_
    refine sy_sq ?_
    refine spN rfl rfl rfl rfl rfl rfl rfl rfl ?_
    refine sy_sq ?_
    refine sp rfl (PE.pick rfl rfl rfl) rfl ?_
    refine sy_sq ?_
    refine sp rfl (PE.move rfl) rfl ?_
    refine sy_sq ?_
    refine spN rfl rfl rfl rfl rfl rfl rfl rfl ?_
    refine sy_sq ?_
    refine spN rfl rfl rfl rfl rfl rfl rfl rfl ?_
    refine sy_sq ?_
    refine spN rfl rfl rfl rfl rfl rfl rfl rfl ?_
    refine sy_sq ?_
    refine spN rfl rfl rfl rfl rfl rfl rfl rfl ?_
    refine sy_sq ?_
    refine spN rfl rfl rfl rfl rfl rfl rfl rfl ?_
    refine sy_sq ?_
    refine sp rfl (PE.pick rfl rfl rfl) rfl ?_
    refine sy_sq ?_
    refine sp rfl (PE.move rfl) rfl ?_
    refine sy_sq ?_
    refine spN rfl rfl rfl rfl rfl rfl rfl rfl ?_
    refine sy_sq ?_
    refine spN rfl rfl rfl rfl rfl rfl rfl rfl ?_
    refine sy_sq ?_
    refine spN rfl rfl rfl rfl rfl rfl rfl rfl ?_
    refine sy_sq ?_
    refine spN rfl rfl rfl rfl rfl rfl rfl rfl ?_
    refine sy_sq ?_
    refine spN rfl rfl rfl rfl rfl rfl rfl rfl ?_
    refine sy_sq ?_
    refine sp rfl (PE.pick rfl rfl rfl) rfl ?_
    refine sy_sq ?_
    refine sp rfl (PE.move rfl) rfl ?_
    refine sy_sq ?_
    refine spN rfl rfl rfl rfl rfl rfl rfl rfl ?_
    refine sy_sq ?_
    refine spN rfl rfl rfl rfl rfl rfl rfl rfl ?_
    refine sy_sq ?_
    refine spN rfl rfl rfl rfl rfl rfl rfl rfl ?_
    refine sy_sq ?_
    refine spN rfl rfl rfl rfl rfl rfl rfl rfl ?_
    refine sy_sq ?_
    refine spN rfl rfl rfl rfl rfl rfl rfl rfl ?_
    refine sy_sq ?_
    refine sp rfl (PE.pick rfl rfl rfl) rfl ?_
    refine sy_sq ?_
    refine sp rfl (PE.move rfl) rfl ?_
    refine sy_sq ?_
    refine spN rfl rfl rfl rfl rfl rfl rfl rfl ?_
    refine sy_sq ?_
    refine spN rfl rfl rfl rfl rfl rfl rfl rfl ?_
    refine sy_sq ?_
    refine spN rfl rfl rfl rfl rfl rfl rfl rfl ?_
    refine sy_sq ?_
    refine spN rfl rfl rfl rfl rfl rfl rfl rfl ?_
    refine sy_sq ?_
    refine spN rfl rfl rfl rfl rfl rfl rfl rfl ?_
    refine sy_sq ?_
    refine sp rfl (PE.pick rfl rfl rfl) rfl ?_
    refine sy_sq ?_
    refine sp rfl (PE.move rfl) rfl ?_
    refine sy_sq ?_
    refine spN rfl rfl rfl rfl rfl rfl rfl rfl ?_
    refine sy_sq ?_
    refine spN rfl rfl rfl rfl rfl rfl rfl rfl ?_
    refine sy_sq ?_
    refine spN rfl rfl rfl rfl rfl rfl rfl rfl ?_
    refine sy_sq ?_
    refine spN rfl rfl rfl rfl rfl rfl rfl rfl ?_
    refine sy_sq ?_
    refine spN rfl rfl rfl rfl rfl rfl rfl rfl ?_
    refine sy_sq ?_
    refine sp rfl (PE.pick rfl rfl rfl) rfl ?_
    refine sy_sq ?_
    refine sp rfl (PE.move rfl) rfl ?_
    refine sy_sq ?_
    refine spN rfl rfl rfl rfl rfl rfl rfl rfl ?_
    refine sy_sq ?_
    refine spN rfl rfl rfl rfl rfl rfl rfl rfl ?_
    refine sy_sq ?_
    refine spN rfl rfl rfl rfl rfl rfl rfl rfl ?_
    refine sy_sq ?_
    refine spN rfl rfl rfl rfl rfl rfl rfl rfl ?_
    refine sy_sq ?_
    refine spN rfl rfl rfl rfl rfl rfl rfl rfl ?_
    refine sy_sq ?_
    refine sp rfl (PE.pick rfl rfl rfl) rfl ?_
    refine sy_sq ?_
    refine sp rfl (PE.assign rfl) rfl ?_
    refine sy_sn ?_
    refine sy_nx ?_
    refine sy_ret ?_
    exact sy_return (vs := [_]) rfl (.cons (RV.tmp rfl) .nil) rfl ⟨by rw [twn_eq]; simp_all only [retV, Bool.true_and, Bool.false_and, Bool.and_false, Bool.and_true, cond_true, cond_false], rfl, rfl⟩ (fun _ h => by repeat first | exact h | replace h := St.tail h | replace h := St.ftail h | replace h := St.drop h)
  exact sy_stop
end Go.Proofs.Ytaldphhdkmchhaa
