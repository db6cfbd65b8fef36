/- Walks of the functions of the program: what each returns and leaves in memory, under the conditions that its theorem names. -/
import Derived.Test.YtaldphhdkmchhaaTy
import Derived.Test.YtaldphhdkmchhaaMa
import Derived.Test.YtaldphhdkmchhaaWk7
import Derived.Test.YtaldphhdkmchhaaMd
namespace Go.Proofs.Ytaldphhdkmchhaa
set_option linter.unusedSimpArgs false
set_option linter.unusedVariables false
open Go
theorem cal101 : cal Try.prog 101 = true := by kernel_rfl
theorem cn159 : cellN Try.prog 159 = some 1 := by kernel_rfl
theorem cn160 : cellN Try.prog 160 = some 1 := by kernel_rfl
theorem eqf162 : eqB Try.prog 10000 162 = some (true, 4) := by kernel_rfl
theorem mke159 : mapKE Try.prog 159 = some (162, 3) := by kernel_rfl
theorem noa162 : noArr Try.prog 10000 162 = true := by kernel_rfl
theorem pl162 : placeL Try.prog 162 = some [(0, 3), (3, 1)] := by kernel_rfl
theorem sc159 : scal Try.prog 159 = true := by kernel_rfl
theorem sc160 : scal Try.prog 160 = true := by kernel_rfl
theorem zl159 : zeroL Try.prog 159 = some ([.map none]) := by kernel_rfl
theorem zl160 : zeroL Try.prog 160 = some ([.nilFunc]) := by kernel_rfl
theorem zl162 : zeroL Try.prog 162 = some ([.int .i64 0, .int .i64 0, .int .i64 0, .int .i64 0]) := by kernel_rfl
theorem zv3 : zvl Try.prog 3 = some (.int .i64 0) := by kernel_rfl
/-- What is noted is right. -/
def KVok (t : Twn) (kv : KV) : Prop := (∀ e ∈ kv, e.1.length = 4) ∧ ∀ (s : Sta) (n : Nat) (v : Value), kv.get [s.stock, s.short, s.dry, n] = some v → v = .int .i64 (ef t n s)
theorem KVok.nil (t : Twn) : KVok t [] := ⟨by simp, by intro s n v h; simp [KV.get] at h⟩
theorem KVok.put {t : Twn} {kv : KV} (h : KVok t kv) (s : Sta) (n : Nat) : KVok t (kv.put [s.stock, s.short, s.dry, n] (.int .i64 (ef t n s))) := by
  refine ⟨fun e he => ?_, fun u k v hv => ?_⟩
  · rcases KV.put_mem he with rfl | he
    · rfl
    · exact h.1 e he
  · rw [KV.get_put] at hv
    by_cases hk : ([s.stock, s.short, s.dry, (n : Int)] : List Int) = [u.stock, u.short, u.dry, (k : Int)]
    · simp only [hk, decide_true, cond_true, Option.some.injEq] at hv
      subst hv
      simp only [List.cons.injEq, Int.natCast_inj, and_true] at hk
      obtain ⟨a, b, c⟩ := s
      obtain ⟨a', b', c'⟩ := u
      simp only at hk
      obtain ⟨rfl, rfl, rfl, rfl⟩ := hk
      rfl
    · simp only [hk, decide_false, cond_false] at hv
      exact h.2 u k v hv
def clo (c8 c2 c9 c6 : Nat) : Value := .func (.func 101) #[] #[.pointer (some ⟨c8, 0, none⟩), .pointer (some ⟨c2, 0, none⟩), .pointer (some ⟨c9, 0, none⟩), .pointer (some ⟨c6, 0, none⟩)]
def SumC (t : Twn) (ba oa ca bt bw m m2 c8 c2 c9 c6 n : Nat) : Prop := ∀ (kv : KV) (s : Sta) (H : Heap) (R : Facts) [hR : MemRows (some ⟨ba, oa, none⟩) 2 (rrows t.rats) R] [hT : MemRows (some ⟨bt, 0, none⟩) 11 [twl t (t.sl (some ⟨ba, oa, none⟩) ca)] R] [h8 : Mem1 c8 (cel 159 [.map (some m2)]) H] [h2 : Mem1 c2 (cel 26 (twl t (t.sl (some ⟨ba, oa, none⟩) ca))) H]
    [h9 : Mem1 c9 (cel 160 [clo c8 c2 c9 c6]) H] [h6 : Mem1 c6 (cel 138 [.pointer (some ⟨bw, 0, none⟩)]) H] [hW : Mem1 bw (cel 153 (rcs t (t.sl (some ⟨ba, oa, none⟩) ca) bt (List.replicate 496 0) (.slice none 0 0) m)) H],
    KVok t kv → s.right t = true → Fn Try.prog 101 [s.v, .int .i64 n, .pointer (some ⟨c8, 0, none⟩), .pointer (some ⟨c2, 0, none⟩), .pointer (some ⟨c9, 0, none⟩), .pointer (some ⟨c6, 0, none⟩)] ((m2, mapO true kv) :: H) R
      (fun v H' R' => ∃ kv', KVok t kv' ∧ v = .int .i64 (ef t n s) ∧ H' = (m2, mapO true kv') :: H ∧ R' = R)

theorem c_sum_step (t : Twn) (ht : t.ok) (ba oa ca bt bw m m2 c8 c2 c9 c6 n : Nat) (hn : n ≤ 11) (ih : SumC t ba oa ca bt bw m m2 c8 c2 c9 c6 n) :
    SumC t ba oa ca bt bw m m2 c8 c2 c9 c6 (n + 1) := by
  intro kv s H R hR hT h8 h2 h9 h6 hW hkv hs
  refine fn_of Try.func101 rfl Try.ntmps101 rfl ?_
  refine sy_seq ?_
  refine sy_tx' [0, 1] rfl ?_
  refine sy_sq ?_
  refine bx rfl rfl rfl (fun b6 => ?_)
  refine sy_sq ?_
  refine sp rfl (PE.assign rfl) rfl ?_
  refine sy_sn ?_
  refine sy_nx ?_
  refine sy_seq ?_
  refine sy_seq ?_
  refine sy_tx' [0, 1] rfl ?_
  refine sy_sq ?_
  refine sp rfl (PE.move rfl) rfl ?_
  refine sy_sq ?_
  refine sp rfl (PE.eql rfl rfl) rfl ?_
  refine sy_sn ?_
  refine sy_nx ?_
  refine sy_condF (congrArg (fun b => some (Value.bool b)) (decide_eq_false (by omega))) ?_
  refine sy_skip ?_
  refine sy_nx ?_
  refine sy_seq ?_
  refine sy_seq ?_
  refine sy_tx' [0, 1, 2, 3, 4, 5, 6, 7, 8, 9] rfl ?_
  refine sy_sq ?_
  refine spL rfl rfl (lh sc159 rfl rfl) rfl ?_
  refine sy_sq ?_
  refine spL rfl rfl (lhA [_, _, _] ag23 rfl rfl rfl) rfl ?_
  refine sy_sq ?_
  refine sp rfl (PE.move rfl) rfl ?_
  refine sy_sq ?_
  refine sp rfl (PE.build (out := [_, _, _, _]) pl162 zl162 rfl rfl) rfl ?_
  refine sy_sq ?_
  refine spK rfl rfl rfl (lk_held kv [s.stock, s.short, s.dry, (n + 1 : Nat)] mke159 (KeyT.of eqf162 noa162) (run_zv zv3) rfl hkv.1 true) rfl ?_
  refine sy_sq ?_
  refine sp rfl (PE.move rfl) rfl ?_
  refine sy_sq ?_
  refine sp rfl (PE.extract rfl rfl) rfl ?_
  refine sy_sq ?_
  refine sp rfl (PE.extract rfl rfl) rfl ?_
  refine sy_sq ?_
  refine sp rfl (PE.assign rfl) rfl ?_
  refine sy_sq ?_
  refine sp rfl (PE.assign rfl) rfl ?_
  refine sy_sn ?_
  refine sy_nx ?_
  refine sy_seq ?_
  refine sy_tx' [0] rfl ?_
  refine sy_sq ?_
  refine sp rfl (PE.move rfl) rfl ?_
  refine sy_sn ?_
  refine sy_nx ?_
  refine sy_cond rfl (fun hc1 => ?_) (fun hc1 => ?_)
  ·
   obtain ⟨u, hu⟩ := Option.isSome_iff_exists.1 hc1
   have hu2 := hkv.2 s (n + 1) u hu
   refine sy_seq ?_
   refine sy_tx' [0, 1] rfl ?_
   refine sy_sq ?_
   refine sp rfl (PE.move rfl) rfl ?_
   refine sy_sq ?_
   refine sp rfl (PE.assign rfl) rfl ?_
   refine sy_sn ?_
   refine sy_nx ?_
   refine sy_ret ?_
   refine sy_tr ?_
   first
     | exact sy_return (vs := [_]) (v := .int .i64 (ef t (n + 1) s)) rfl (.cons (RV.tmp rfl) .nil) (by show (kv.get _).getD _ = _; rw [hu]; exact hu2) ⟨kv, hkv, rfl, rfl, rfl⟩ (fun w h => h.del b6)
     | exact sy_return (vs := [_]) rfl (.cons (RV.tmp rfl) .nil) rfl ⟨_, hkv.put s (n + 1), rfl, rfl, rfl⟩ (fun w h => h.del b6)
  ·
   refine sy_skip ?_
   refine sy_nx ?_
   refine sy_seq ?_
   refine sy_tx' [0] rfl ?_
   refine sy_sq ?_
   refine sp rfl (PE.assign rfl) rfl ?_
   refine sy_sn ?_
   refine sy_nx ?_
   refine sy_seq ?_
   refine sy_seq ?_
   refine sy_tx' [0, 1, 2, 3] rfl ?_
   refine sy_sq ?_
   refine sp rfl (PE.fieldAddr fo26_8 rfl) rfl ?_
   refine sy_sq ?_
   refine spL rfl rfl (lh sc24 rfl rfl) rfl ?_
   refine sy_sq ?_
   refine sp rfl (PE.lenSl isl24 rfl) rfl ?_
   refine sy_sq ?_
   refine sp rfl (PE.move rfl) rfl ?_
   refine sy_sn ?_
   refine sy_nx ?_
   refine sy_block ?_
   have hlen := ht.many
   have hbd := ef_bd ht n
   refine sy_loop (ι := {x : Nat × KV // x.1 ≤ t.rats.length ∧ KVok t x.2}) (fun x => ⟨[(1, .int .i64 (n + 1 : Nat)), (2, .pointer (some ⟨c8, 0, none⟩)), (3, .pointer (some ⟨c2, 0, none⟩)), (4, .pointer (some ⟨c9, 0, none⟩)), (5, .pointer (some ⟨c6, 0, none⟩)), (6, .pointer (some ⟨b6, 0, none⟩)), (11, .int .i64 ((fun k => (t.rats.take k).foldl (efQ t (ef t n) s) (-1)) x.1.1)), (28, t.sl (some ⟨ba, oa, none⟩) ca), (29, .int .i64 t.rats.length), (30, .int .i64 x.1.1)],
     (m2, mapO true x.1.2) :: (b6, cel 23 [.int .i64 s.stock, .int .i64 s.short, .int .i64 s.dry]) :: H, R⟩) (fun x => t.rats.length - x.1.1) ⟨(0, kv), by omega, hkv⟩ ?_ (fun x => ?_)
   ·
    exact sy_at (by repeat' first | exact Sub.nil | apply Sub.cons | rfl | (simp [lk]; omega)) (fun w h => h.pull m2)
   ·
    obtain ⟨⟨k, kv⟩, hk, hkv⟩ := x
    dsimp only at hk hkv ⊢
    refine sy_seq ?_
    refine sy_tx' [0] rfl ?_
    refine sy_sq ?_
    refine sp rfl (PE.lss rfl rfl) rfl ?_
    refine sy_sn ?_
    refine sy_nx ?_
    refine sy_seq ?_
    refine sy_cond rfl (fun hc2 => ?_) (fun hc2 => ?_)
    ·
     simp only [decide_eq_true_eq, decide_eq_false_iff_not, Bool.and_eq_true, Bool.or_eq_true, Bool.not_eq_true', Int.not_le, Int.not_lt] at hc2
     obtain ⟨q, hq⟩ : ∃ q, t.rats[k]? = some q := ⟨_, List.getElem?_eq_getElem (by omega)⟩
     have hqm := List.mem_of_getElem? hq
     have e : (t.rats.take (k + 1)).foldl (efQ t (ef t n) s) (-1) = efQ t (ef t n) s ((t.rats.take k).foldl (efQ t (ef t n) s) (-1)) q := by rw [List.take_add_one, hq, Option.toList_some, List.foldl_append]; rfl
     have hbb := efQ_bd (t := t) (g := ef t n) (B := n * 3000) (by omega) hbd s (t.rats.take k) (fun q hq => ht.rats q (List.mem_of_mem_take hq)) (-1) (by omega) (by omega)
     have hq1 := ht.rats q hqm
     have hmul := mul_bd hq1.1 hq1.2.1 hq1.2.2.1 hq1.2.2.2
     generalize (t.rats.take k).foldl (efQ t (ef t n) s) (-1) = best at e hbb ⊢
     refine sy_skip ?_
     refine sy_nx ?_
     refine sy_seq ?_
     refine sy_block ?_
     refine sy_seq ?_
     refine sy_tx' [0, 1, 2, 3, 4, 5] rfl ?_
     refine sy_sq ?_
     refine sp rfl (PE.move rfl) rfl ?_
     refine sy_sq ?_
     refine sp rfl (PE.indexAddr el24 rfl rfl (by omega) (by omega)) rfl ?_
     refine sy_sq ?_
     refine spL rfl rfl (lfA ag91 (row := rrow q) (rr_get hq) rfl) rfl ?_
     refine sy_sq ?_
     refine alc rfl zl91 rfl (fun b13 => ?_)
     refine sy_sq ?_
     refine sp rfl (PE.assign rfl) rfl ?_
     refine sy_sq ?_
     refine sto rfl rfl rfl cn91 rfl rfl rfl rfl ?_
     refine sy_sn ?_
     refine sy_nx ?_
     refine sy_seq ?_
     refine sy_seq ?_
     refine sy_tx' [0, 1, 2, 3, 4] rfl ?_
     refine sy_sq ?_
     refine spL rfl rfl (lhA [_, _, _, _, _, _, _, _, _, _, _] ag26 rfl rfl rfl) rfl ?_
     refine sy_sq ?_
     refine spL rfl rfl (lhA [_, _, _] ag23 rfl rfl rfl) rfl ?_
     refine sy_sq ?_
     refine sp rfl (PE.move rfl) rfl ?_
     refine sy_sq ?_
     refine clV rfl cal94 rfl rfl (c_allowed t s k q ba oa ca (by omega) (by simpa using hq) _ _) ?_
     refine sy_sq ?_
     refine sp rfl (PE.not rfl) rfl ?_
     refine sy_sn ?_
     refine sy_nx ?_
     refine sy_cond rfl (fun hc3 => ?_) (fun hc3 => ?_)
     ·
      have hcan : t.can s q = false := by rw [← Bool.not_eq_true']; exact hc3
      have hst : efQ t (ef t n) s best q = best := by simp [efQ, hcan]
      refine sy_exit ?_
      refine sy_tx ?_
      refine sy_bx ?_
      refine sy_nx ?_
      refine sy_tx' [0, 1] rfl ?_
      refine sy_sq ?_
      refine sp rfl (PE.add rfl rfl (by omega)) rfl ?_
      refine sy_sq ?_
      refine sp rfl (PE.move rfl) rfl ?_
      refine sy_sn ?_
      refine sy_nx ?_
      exact sy_next ⟨(k + 1, kv), by omega, hkv⟩ (by dsimp only; omega) (by dsimp only; rw [e, hst]; exact (by repeat' first | exact Sub.nil | apply Sub.cons | rfl | (simp [lk]; omega))) (fun w h => by first | exact h.del b13 | exact (h.del b13).ftail)
     ·
      have hcan : t.can s q = true := by rw [← Bool.not_eq_false']; exact hc3
      have hcan2 : q.sacks ≤ s.stock := by simp [Twn.can] at hcan; exact hcan.1
      refine sy_skip ?_
      refine sy_nx ?_
      refine sy_seq ?_
      refine sy_draw [0, 0, 0, 0, 14, 0, 32, 127, 255] (.ld 0 (.ld 1 (.ld 2 (.tk 3 (.tk 5 (.tk 6 (.big 4 (.big 7 (.tk 8 .done))))))))) mixed (by kernel_rfl) ?_
      refine ld rfl rfl (lh sc160 rfl rfl) rfl ?_
      refine ld rfl rfl (lhA [_, _, _, _, _, _, _, _, _, _, _] ag26 rfl rfl rfl) rfl ?_
      refine ld rfl rfl (lhA [_, _, _] ag23 rfl rfl rfl) rfl ?_
      refine tk rfl (PE.move rfl) rfl ?_
      refine tk rfl (PE.move rfl) rfl ?_
      refine tk rfl (PE.sub rfl rfl (by omega)) rfl ?_
      refine sy_bg ?_
      refine clV rfl cal102 rfl rfl (c_next t ht s hs k q false ba oa ca (by omega) (by simpa using hq) hcan2 _ _) ?_
      refine bg (fun w hs => ⟨trivial, trivial, (lh sc160 rfl rfl) w hs, trivial⟩) ?_
      refine sy_bg ?_
      rw [show ((n + 1 : Nat) : Int) - 1 = n from by omega]
      refine sy_pull m2 ?_
      refine clF rfl rfl (cal101) rfl rfl (ih kv _ _ _ hkv (next_right ht hs hqm hcan (by simp))) ?_
      rintro v _ _ ⟨kv, hkv, rfl, rfl, rfl⟩
      refine bg (fun w hs => ⟨trivial, trivial⟩) ?_
      refine tk rfl (PE.assign rfl) rfl ?_
      refine sy_dn ?_
      refine sy_nx ?_
      refine sy_seq ?_
      refine sy_seq ?_
      refine sy_draw [0, 1, 3, 7, 15, 0, 63] (.ld 0 (.tk 1 (.tk 2 (.tk 3 (.ld 4 (.ld 5 (.big 6 .done))))))) mixed (by kernel_rfl) ?_
      refine ld rfl rfl (lh sc138 rfl rfl) rfl ?_
      refine tk rfl (PE.nilCheck rfl) rfl ?_
      refine tk rfl (PE.fieldAddr fo153_1 rfl) rfl ?_
      refine tk rfl (PE.fieldAddr fo148_0 rfl) rfl ?_
      refine ld rfl rfl (lh sc146 rfl rfl) rfl ?_
      refine ld rfl rfl (lhA [_, _, _] ag23 rfl rfl rfl) rfl ?_
      refine sy_bg ?_
      refine clFV rfl rfl (cal126) rfl rfl (c_may t s ba oa ca bt _ _) ?_
      refine bg (fun w hs => ⟨trivial, trivial, trivial, trivial⟩) ?_
      refine sy_dn ?_
      refine sy_nx ?_
      refine sy_cond rfl (fun hc4 => ?_) (fun hc4 => ?_)
      ·
       have hw : worstOf t (ef t n) s q = min (ef t n (t.next s q false)) (ef t n (t.next s q true)) := by unfold worstOf; rw [hc4]; rfl
       refine sy_draw [0, 0, 0, 0, 0, 28, 0, 64, 254, 510, 1023, 2047] (.tk 0 (.ld 1 (.ld 2 (.ld 3 (.tk 4 (.tk 6 (.tk 7 (.big 5 (.big 8 (.big 9 (.big 10 (.tk 11 .done)))))))))))) mixed (by kernel_rfl) ?_
       refine tk rfl (PE.move rfl) rfl ?_
       refine ld rfl rfl (lh sc160 rfl rfl) rfl ?_
       refine ld rfl rfl (lhA [_, _, _, _, _, _, _, _, _, _, _] ag26 rfl rfl rfl) rfl ?_
       refine ld rfl rfl (lhA [_, _, _] ag23 rfl rfl rfl) rfl ?_
       refine tk rfl (PE.move rfl) rfl ?_
       refine tk rfl (PE.move rfl) rfl ?_
       refine tk rfl (PE.sub rfl rfl (by omega)) rfl ?_
       refine sy_bg ?_
       refine clV rfl cal102 rfl rfl (c_next t ht s hs k q true ba oa ca (by omega) (by simpa using hq) hcan2 _ _) ?_
       refine bg (fun w hs => ⟨trivial, trivial, (lh sc160 rfl rfl) w hs, trivial⟩) ?_
       refine sy_bg ?_
       rw [show ((n + 1 : Nat) : Int) - 1 = n from by omega]
       refine sy_pull m2 ?_
       refine clF rfl rfl (cal101) rfl rfl (ih kv _ _ _ hkv (next_right ht hs hqm hcan (fun _ => by simpa using hc4))) ?_
       rintro v _ _ ⟨kv, hkv, rfl, rfl, rfl⟩
       refine bg (fun w hs => ⟨trivial, trivial⟩) ?_
       refine sy_bg ?_
       refine bsl (out := [_]) rfl sl42 zl3 rfl rfl rfl rfl rfl rfl (fun b64 => ?_)
       refine bg (fun w hs => trivial) ?_
       refine sy_bg ?_
       refine Sy.heap (fun w h => St.rows (sz := 1) (rows := [[.int .i64 _]]) (rest := []) h (by simp)) ?_
       refine clV rfl cal103 rfl rfl (c_least1 _ _ _ _ _ _) ?_
       refine bg (fun w hs => trivial) ?_
       refine tk rfl (PE.assign rfl) rfl ?_
       refine sy_dn ?_
       refine sy_nx ?_
       refine sy_seq ?_
       refine sy_tx' [0, 1] rfl ?_
       refine sy_sq ?_
       refine sp rfl (PE.move rfl) rfl ?_
       refine sy_sq ?_
       refine sp rfl (PE.neq rfl rfl) rfl ?_
       refine sy_sn ?_
       refine sy_nx ?_
       refine sy_cond rfl (fun hc5 => ?_) (fun hc5 => ?_)
       ·
        have hne : worstOf t (ef t n) s q ≠ -1 := by rw [hw]; simpa using hc5
        have hst : efQ t (ef t n) s best q = max best (worstOf t (ef t n) s q + q.sacks * q.price) := by simp [efQ, hcan, hne]
        rw [hw] at hst
        have hwb := worst_bd (t := t) hbd s q
        rw [hw] at hwb
        refine sy_tx' [0, 1, 2, 3, 4, 5, 6, 7, 8, 9] rfl ?_
        refine sy_sq ?_
        refine sp rfl (PE.move rfl) rfl ?_
        refine sy_sq ?_
        refine sp rfl (PE.move rfl) rfl ?_
        refine sy_sq ?_
        refine sp rfl (PE.fieldAddr fo91_0 rfl) rfl ?_
        refine sy_sq ?_
        refine spL rfl rfl (lh sc3 rfl rfl) rfl ?_
        refine sy_sq ?_
        refine sp rfl (PE.fieldAddr fo91_1 rfl) rfl ?_
        refine sy_sq ?_
        refine spL rfl rfl (lh sc3 rfl rfl) rfl ?_
        refine sy_sq ?_
        refine sp rfl (PE.mul rfl rfl (by omega)) rfl ?_
        refine sy_sq ?_
        refine sp rfl (PE.add rfl rfl (by omega)) rfl ?_
        refine sy_sq ?_
        refine sp rfl (PE.max rfl rfl) rfl ?_
        refine sy_sq ?_
        refine sp rfl (PE.assign rfl) rfl ?_
        refine sy_sn ?_
        refine sy_bn ?_
        refine sy_nx ?_
        refine sy_tx' [0, 1] rfl ?_
        refine sy_sq ?_
        refine sp rfl (PE.add rfl rfl (by omega)) rfl ?_
        refine sy_sq ?_
        refine sp rfl (PE.move rfl) rfl ?_
        refine sy_sn ?_
        refine sy_nx ?_
        exact sy_next ⟨(k + 1, kv), by omega, hkv⟩ (by dsimp only; omega) (by dsimp only; rw [e, hst]; exact (by repeat' first | exact Sub.nil | apply Sub.cons | rfl | (simp [lk]; omega))) (fun w h => by first | exact h.del b13 | exact (h.del b13).ftail)
       ·
        have hne : worstOf t (ef t n) s q = -1 := by rw [hw]; simpa using hc5
        have hst : efQ t (ef t n) s best q = best := by simp [efQ, hcan, hne]
        refine sy_skip ?_
        refine sy_bn ?_
        refine sy_nx ?_
        refine sy_tx' [0, 1] rfl ?_
        refine sy_sq ?_
        refine sp rfl (PE.add rfl rfl (by omega)) rfl ?_
        refine sy_sq ?_
        refine sp rfl (PE.move rfl) rfl ?_
        refine sy_sn ?_
        refine sy_nx ?_
        exact sy_next ⟨(k + 1, kv), by omega, hkv⟩ (by dsimp only; omega) (by dsimp only; rw [e, hst]; exact (by repeat' first | exact Sub.nil | apply Sub.cons | rfl | (simp [lk]; omega))) (fun w h => by first | exact h.del b13 | exact (h.del b13).ftail)
      ·
       have hw : worstOf t (ef t n) s q = ef t n (t.next s q false) := by unfold worstOf; rw [hc4]; rfl
       refine sy_skip ?_
       refine sy_nx ?_
       refine sy_seq ?_
       refine sy_tx' [0, 1] rfl ?_
       refine sy_sq ?_
       refine sp rfl (PE.move rfl) rfl ?_
       refine sy_sq ?_
       refine sp rfl (PE.neq rfl rfl) rfl ?_
       refine sy_sn ?_
       refine sy_nx ?_
       refine sy_cond rfl (fun hc5 => ?_) (fun hc5 => ?_)
       ·
        have hne : worstOf t (ef t n) s q ≠ -1 := by rw [hw]; simpa using hc5
        have hst : efQ t (ef t n) s best q = max best (worstOf t (ef t n) s q + q.sacks * q.price) := by simp [efQ, hcan, hne]
        rw [hw] at hst
        have hwb := worst_bd (t := t) hbd s q
        rw [hw] at hwb
        refine sy_tx' [0, 1, 2, 3, 4, 5, 6, 7, 8, 9] rfl ?_
        refine sy_sq ?_
        refine sp rfl (PE.move rfl) rfl ?_
        refine sy_sq ?_
        refine sp rfl (PE.move rfl) rfl ?_
        refine sy_sq ?_
        refine sp rfl (PE.fieldAddr fo91_0 rfl) rfl ?_
        refine sy_sq ?_
        refine spL rfl rfl (lh sc3 rfl rfl) rfl ?_
        refine sy_sq ?_
        refine sp rfl (PE.fieldAddr fo91_1 rfl) rfl ?_
        refine sy_sq ?_
        refine spL rfl rfl (lh sc3 rfl rfl) rfl ?_
        refine sy_sq ?_
        refine sp rfl (PE.mul rfl rfl (by omega)) rfl ?_
        refine sy_sq ?_
        refine sp rfl (PE.add rfl rfl (by omega)) rfl ?_
        refine sy_sq ?_
        refine sp rfl (PE.max rfl rfl) rfl ?_
        refine sy_sq ?_
        refine sp rfl (PE.assign rfl) rfl ?_
        refine sy_sn ?_
        refine sy_bn ?_
        refine sy_nx ?_
        refine sy_tx' [0, 1] rfl ?_
        refine sy_sq ?_
        refine sp rfl (PE.add rfl rfl (by omega)) rfl ?_
        refine sy_sq ?_
        refine sp rfl (PE.move rfl) rfl ?_
        refine sy_sn ?_
        refine sy_nx ?_
        exact sy_next ⟨(k + 1, kv), by omega, hkv⟩ (by dsimp only; omega) (by dsimp only; rw [e, hst]; exact (by repeat' first | exact Sub.nil | apply Sub.cons | rfl | (simp [lk]; omega))) (fun w h => by first | exact h.del b13 | exact (h.del b13).ftail)
       ·
        have hne : worstOf t (ef t n) s q = -1 := by rw [hw]; simpa using hc5
        have hst : efQ t (ef t n) s best q = best := by simp [efQ, hcan, hne]
        refine sy_skip ?_
        refine sy_bn ?_
        refine sy_nx ?_
        refine sy_tx' [0, 1] rfl ?_
        refine sy_sq ?_
        refine sp rfl (PE.add rfl rfl (by omega)) rfl ?_
        refine sy_sq ?_
        refine sp rfl (PE.move rfl) rfl ?_
        refine sy_sn ?_
        refine sy_nx ?_
        exact sy_next ⟨(k + 1, kv), by omega, hkv⟩ (by dsimp only; omega) (by dsimp only; rw [e, hst]; exact (by repeat' first | exact Sub.nil | apply Sub.cons | rfl | (simp [lk]; omega))) (fun w h => by first | exact h.del b13 | exact (h.del b13).ftail)
    ·
     simp only [decide_eq_true_eq, decide_eq_false_iff_not, Bool.and_eq_true, Bool.or_eq_true, Bool.not_eq_true', Int.not_le, Int.not_lt] at hc2
     obtain rfl : k = t.rats.length := by omega
     rw [show (t.rats.take t.rats.length).foldl (efQ t (ef t n) s) (-1) = ef t (n + 1) s from by rw [List.take_length]; rfl]
     refine sy_exit ?_
     refine sy_tx ?_
     refine sy_tx ?_
     refine sy_bx ?_
     refine sy_nx ?_
     refine sy_seq ?_
     refine sy_tx' [0, 1, 2, 3, 4, 5] rfl ?_
     refine sy_sq ?_
     refine spL rfl rfl (lh sc159 rfl rfl) rfl ?_
     refine sy_sq ?_
     refine spL rfl rfl (lhA [_, _, _] ag23 rfl rfl rfl) rfl ?_
     refine sy_sq ?_
     refine sp rfl (PE.move rfl) rfl ?_
     refine sy_sq ?_
     refine sp rfl (PE.build (out := [_, _, _, _]) pl162 zl162 rfl rfl) rfl ?_
     refine sy_sq ?_
     refine sp rfl (PE.move rfl) rfl ?_
     refine sy_sq ?_
     refine mpu kv [s.stock, s.short, s.dry, (n + 1 : Nat)] rfl mke159 (KeyT.of eqf162 noa162) rfl rfl rfl rfl hkv.1 ?_
     refine sy_sn ?_
     refine sy_nx ?_
     refine sy_seq ?_
     refine sy_tx' [0, 1] rfl ?_
     refine sy_sq ?_
     refine sp rfl (PE.move rfl) rfl ?_
     refine sy_sq ?_
     refine sp rfl (PE.assign rfl) rfl ?_
     refine sy_sn ?_
     refine sy_nx ?_
     refine sy_ret ?_
     first
       | exact sy_return (vs := [_]) (v := .int .i64 (ef t (n + 1) s)) rfl (.cons (RV.tmp rfl) .nil) (by show (kv.get _).getD _ = _; rw [hu]; exact hu2) ⟨kv, hkv, rfl, rfl, rfl⟩ (fun w h => h.del b6)
       | exact sy_return (vs := [_]) rfl (.cons (RV.tmp rfl) .nil) rfl ⟨_, hkv.put s (n + 1), rfl, rfl, rfl⟩ (fun w h => h.del b6)

theorem c_sum_zero (t : Twn) (ba oa ca bt bw m m2 c8 c2 c9 c6 : Nat) :
    SumC t ba oa ca bt bw m m2 c8 c2 c9 c6 0 := by
  intro kv s H R hR hT h8 h2 h9 h6 hW hkv hs
  refine fn_of Try.func101 rfl Try.ntmps101 rfl ?_
  refine sy_seq ?_
  refine sy_tx' [0, 1] rfl ?_
  refine sy_sq ?_
  refine bx rfl rfl rfl (fun b6 => ?_)
  refine sy_sq ?_
  refine sp rfl (PE.assign rfl) rfl ?_
  refine sy_sn ?_
  refine sy_nx ?_
  refine sy_seq ?_
  refine sy_seq ?_
  refine sy_tx' [0, 1] rfl ?_
  refine sy_sq ?_
  refine sp rfl (PE.move rfl) rfl ?_
  refine sy_sq ?_
  refine sp rfl (PE.eql rfl rfl) rfl ?_
  refine sy_sn ?_
  refine sy_nx ?_
  refine sy_condT (rfl) ?_
  refine sy_seq ?_
  refine sy_tx' [0] rfl ?_
  refine sy_sq ?_
  refine sp rfl (PE.assign rfl) rfl ?_
  refine sy_sn ?_
  refine sy_nx ?_
  refine sy_ret ?_
  refine sy_tr ?_
  exact sy_return (vs := [_]) rfl (.cons (RV.tmp rfl) .nil) rfl ⟨_, hkv, rfl, rfl, rfl⟩ (fun w h => h.del b6)

theorem c_sum (t : Twn) (ht : t.ok) (ba oa ca bt bw m m2 c8 c2 c9 c6 : Nat) : ∀ n : Nat, n ≤ 12 → SumC t ba oa ca bt bw m m2 c8 c2 c9 c6 n
  | 0, _ => c_sum_zero t ba oa ca bt bw m m2 c8 c2 c9 c6
  | n + 1, h => c_sum_step t ht ba oa ca bt bw m m2 c8 c2 c9 c6 n (by omega) (c_sum t ht ba oa ca bt bw m m2 c8 c2 c9 c6 n (by omega))
def earnV (t : Twn) (years : Int) : Value := bif decide (ef t years.toNat t.now = -1) then .tuple #[.int .i64 0, .int .i64 6] else .tuple #[.int .i64 (ef t years.toNat t.now), .int .i64 0]

theorem c_Earns (t : Twn) (hl : t.rats.length ≤ 9223372036854775807) (years : Int) (ba oa ca : Nat) (H : Heap) (R : Facts) [hR : MemRows (some ⟨ba, oa, none⟩) 2 (rrows t.rats) R] :
    Fn Try.prog 31 [t.v (t.sl (some ⟨ba, oa, none⟩) ca), .int .i64 years] H R (fun v H' R' => ((t.check ≠ 0 ∧ v = .tuple #[.int .i64 0, .int .i64 t.check]) ∨
      (t.check = 0 ∧ inb years 0 12 = false ∧ v = .tuple #[.int .i64 0, .int .i64 3]) ∨ (t.check = 0 ∧ inb years 0 12 = true ∧ v = earnV t years)) ∧ H' = H ∧ R' = R) := by
  refine fn_of Try.func31 rfl Try.ntmps31 rfl ?_
  refine sy_seq ?_
  refine sy_tx' [0, 1, 2] rfl ?_
  refine sy_sq ?_
  refine bx rfl rfl rfl (fun b2 => ?_)
  refine sy_sq ?_
  refine sp rfl (PE.assign rfl) rfl ?_
  refine sy_sq ?_
  refine sp rfl (PE.assign rfl) rfl ?_
  refine sy_sn ?_
  refine sy_nx ?_
  refine sy_seq ?_
  refine sy_tx' [0, 1, 2, 3, 4, 5, 6, 7] rfl ?_
  refine sy_sq ?_
  refine spL rfl rfl (lhA [_, _, _, _, _, _, _, _, _, _, _] ag26 rfl rfl rfl) rfl ?_
  refine sy_sq ?_
  refine cl rfl cal89 rfl rfl (c_opened t hl ba oa ca _ _) ?_
  rintro _ _ _ (⟨hck, rfl, rfl, rfl⟩ | ⟨hck, bw, m, bt, rfl, rfl, rfl⟩)
  ·
   refine sy_sq ?_
   refine sp rfl (PE.move rfl) rfl ?_
   refine sy_sq ?_
   refine sp rfl (PE.extract rfl rfl) rfl ?_
   refine sy_sq ?_
   refine sp rfl (PE.extract rfl rfl) rfl ?_
   refine sy_sq ?_
   refine alc rfl zl138 rfl (fun b6 => ?_)
   refine sy_sq ?_
   refine sto rfl rfl rfl cn138 rfl rfl rfl rfl ?_
   refine sy_sq ?_
   refine sp rfl (PE.assign rfl) rfl ?_
   refine sy_sn ?_
   refine sy_nx ?_
   refine sy_seq ?_
   refine sy_block ?_
   refine sy_seq ?_
   refine sy_tx' [0, 1, 2] rfl ?_
   refine sy_sq ?_
   refine sp rfl (PE.move rfl) rfl ?_
   refine sy_sq ?_
   refine sp rfl (PE.neq rfl rfl) rfl ?_
   refine sy_sq ?_
   refine sp rfl (PE.assign rfl) rfl ?_
   refine sy_sn ?_
   refine sy_nx ?_
   refine sy_condT (congrArg (fun b => some (Value.bool b)) (decide_eq_true hck)) ?_
   refine sy_seq ?_
   refine sy_tx' [0, 1, 2] rfl ?_
   refine sy_sq ?_
   refine sp rfl (PE.move rfl) rfl ?_
   refine sy_sq ?_
   refine sp rfl (PE.assign rfl) rfl ?_
   refine sy_sq ?_
   refine sp rfl (PE.assign rfl) rfl ?_
   refine sy_sn ?_
   refine sy_nx ?_
   refine sy_ret ?_
   refine sy_br ?_
   refine sy_tr ?_
   exact sy_return (vs := [_, _]) rfl (.cons (RV.tmp rfl) (.cons (RV.tmp rfl) .nil)) rfl ⟨.inl ⟨hck, rfl⟩, rfl, rfl⟩ (fun _ h => by repeat first | exact h | replace h := St.tail h | replace h := St.ftail h | replace h := St.drop h)
  ·
   refine sy_sq ?_
   have hok := (ok_of_check hck).1
   refine sp rfl (PE.move rfl) rfl ?_
   refine sy_sq ?_
   refine sp rfl (PE.extract rfl rfl) rfl ?_
   refine sy_sq ?_
   refine sp rfl (PE.extract rfl rfl) rfl ?_
   refine sy_sq ?_
   refine alc rfl zl138 rfl (fun b6 => ?_)
   refine sy_sq ?_
   refine sto rfl rfl rfl cn138 rfl rfl rfl rfl ?_
   refine sy_sq ?_
   refine sp rfl (PE.assign rfl) rfl ?_
   refine sy_sn ?_
   refine sy_nx ?_
   refine sy_seq ?_
   refine sy_block ?_
   refine sy_seq ?_
   refine sy_tx' [0, 1, 2] rfl ?_
   refine sy_sq ?_
   refine sp rfl (PE.move rfl) rfl ?_
   refine sy_sq ?_
   refine sp rfl (PE.neq rfl rfl) rfl ?_
   refine sy_sq ?_
   refine sp rfl (PE.assign rfl) rfl ?_
   refine sy_sn ?_
   refine sy_nx ?_
   refine sy_condF (rfl) ?_
   refine sy_seq ?_
   refine sy_tx' [0, 1, 2, 3] rfl ?_
   refine sy_sq ?_
   refine sp rfl (PE.move rfl) rfl ?_
   refine sy_sq ?_
   refine clV rfl cal92 rfl rfl (c_in _ _ _ _ _) ?_
   refine sy_sq ?_
   refine sp rfl (PE.not rfl) rfl ?_
   refine sy_sq ?_
   refine sp rfl (PE.assign rfl) rfl ?_
   refine sy_sn ?_
   refine sy_nx ?_
   refine sy_cond rfl (fun hc1 => ?_) (fun hc1 => ?_)
   ·
    have hib : inb years 0 12 = false := by rw [← Bool.not_eq_true']; exact hc1
    refine sy_seq ?_
    refine sy_tx' [0, 1] rfl ?_
    refine sy_sq ?_
    refine sp rfl (PE.assign rfl) rfl ?_
    refine sy_sq ?_
    refine sp rfl (PE.assign rfl) rfl ?_
    refine sy_sn ?_
    refine sy_nx ?_
    refine sy_ret ?_
    refine sy_br ?_
    refine sy_tr ?_
    first
      | exact sy_return (vs := [_, _]) rfl (.cons (RV.tmp rfl) (.cons (RV.tmp rfl) .nil)) rfl ⟨.inr (.inl ⟨hck, hib, rfl⟩), rfl, rfl⟩ (fun _ h => by repeat first | exact h | replace h := St.tail h | replace h := St.ftail h | replace h := St.drop h)
      | exact sy_return (vs := [_, _]) (v := earnV t n) rfl (.cons (RV.tmp rfl) (.cons (RV.tmp rfl) .nil)) (by rw [he]; rfl) ⟨.inr (.inr ⟨hck, hib, rfl⟩), rfl, rfl⟩ (fun _ h => by repeat first | exact h | replace h := St.tail h | replace h := St.ftail h | replace h := St.drop h)
   ·
    have hib : inb years 0 12 = true := by rw [← Bool.not_eq_false']; exact hc1
    have hbd := hib
    simp only [inb, Bool.and_eq_true, decide_eq_true_eq] at hbd
    obtain ⟨n, rfl⟩ : ∃ n : Nat, years = n := ⟨years.toNat, by omega⟩
    refine sy_skip ?_
    refine sy_bn ?_
    refine sy_nx ?_
    refine sy_seq ?_
    refine sy_tx' [0, 1, 2] rfl ?_
    refine sy_sq ?_
    refine mkm rfl rfl true (fun m2 => ?_)
    refine sy_sq ?_
    refine alc rfl zl159 rfl (fun b8 => ?_)
    refine sy_sq ?_
    refine sto rfl rfl rfl cn159 rfl rfl rfl rfl ?_
    refine sy_sn ?_
    refine sy_nx ?_
    refine sy_seq ?_
    refine sy_tx' [0] rfl ?_
    refine sy_sq ?_
    refine alc rfl zl160 rfl (fun b9 => ?_)
    refine sy_sn ?_
    refine sy_nx ?_
    refine sy_seq ?_
    refine sy_tx' [0, 1] rfl ?_
    refine sy_sq ?_
    refine sp rfl (PE.makeFunc rfl rfl) rfl ?_
    refine sy_sq ?_
    refine sto rfl rfl rfl cn160 rfl rfl rfl rfl ?_
    refine sy_sn ?_
    refine sy_nx ?_
    refine sy_seq ?_
    refine sy_tx' [0, 1, 2, 3, 4, 5] rfl ?_
    refine sy_sq ?_
    refine spL rfl rfl (lh sc160 rfl rfl) rfl ?_
    refine sy_sq ?_
    refine sp rfl (PE.fieldAddr fo26_0 rfl) rfl ?_
    refine sy_sq ?_
    refine spL rfl rfl (lhA [_, _, _] ag23 rfl rfl rfl) rfl ?_
    refine sy_sq ?_
    refine sp rfl (PE.move rfl) rfl ?_
    refine sy_sq ?_
    refine sy_pull m2 ?_
    refine clF rfl rfl (cal101) rfl rfl (c_sum t hok ba oa ca bt bw m m2 b8 b2 b9 b6 n (by omega) [] t.now _ _ (KVok.nil t) hok.now) ?_
    rintro v _ _ ⟨kv, hkv, rfl, rfl, rfl⟩
    refine sy_sq ?_
    refine sp rfl (PE.assign rfl) rfl ?_
    refine sy_sn ?_
    refine sy_nx ?_
    refine sy_seq ?_
    refine sy_seq ?_
    refine sy_tx' [0, 1] rfl ?_
    refine sy_sq ?_
    refine sp rfl (PE.move rfl) rfl ?_
    refine sy_sq ?_
    refine sp rfl (PE.eql rfl rfl) rfl ?_
    refine sy_sn ?_
    refine sy_nx ?_
    refine sy_cond rfl (fun hc2 => ?_) (fun hc2 => ?_)
    ·
     have he : earnV t n = .tuple #[.int .i64 0, .int .i64 6] := by unfold earnV; rw [Int.toNat_natCast, hc2]; rfl
     refine sy_seq ?_
     refine sy_tx' [0, 1] rfl ?_
     refine sy_sq ?_
     refine sp rfl (PE.assign rfl) rfl ?_
     refine sy_sq ?_
     refine sp rfl (PE.assign rfl) rfl ?_
     refine sy_sn ?_
     refine sy_nx ?_
     refine sy_ret ?_
     refine sy_tr ?_
     first
       | exact sy_return (vs := [_, _]) rfl (.cons (RV.tmp rfl) (.cons (RV.tmp rfl) .nil)) rfl ⟨.inr (.inl ⟨hck, hib, rfl⟩), rfl, rfl⟩ (fun _ h => by repeat first | exact h | replace h := St.tail h | replace h := St.ftail h | replace h := St.drop h)
       | exact sy_return (vs := [_, _]) (v := earnV t n) rfl (.cons (RV.tmp rfl) (.cons (RV.tmp rfl) .nil)) (by rw [he]; rfl) ⟨.inr (.inr ⟨hck, hib, rfl⟩), rfl, rfl⟩ (fun _ h => by repeat first | exact h | replace h := St.tail h | replace h := St.ftail h | replace h := St.drop h)
    ·
     have he : earnV t n = .tuple #[.int .i64 (ef t n t.now), .int .i64 0] := by unfold earnV; rw [Int.toNat_natCast, hc2]; rfl
     refine sy_skip ?_
     refine sy_nx ?_
     refine sy_seq ?_
     refine sy_tx' [0, 1, 2] rfl ?_
     refine sy_sq ?_
     refine sp rfl (PE.move rfl) rfl ?_
     refine sy_sq ?_
     refine sp rfl (PE.assign rfl) rfl ?_
     refine sy_sq ?_
     refine sp rfl (PE.assign rfl) rfl ?_
     refine sy_sn ?_
     refine sy_nx ?_
     refine sy_ret ?_
     first
       | exact sy_return (vs := [_, _]) rfl (.cons (RV.tmp rfl) (.cons (RV.tmp rfl) .nil)) rfl ⟨.inr (.inl ⟨hck, hib, rfl⟩), rfl, rfl⟩ (fun _ h => by repeat first | exact h | replace h := St.tail h | replace h := St.ftail h | replace h := St.drop h)
       | exact sy_return (vs := [_, _]) (v := earnV t n) rfl (.cons (RV.tmp rfl) (.cons (RV.tmp rfl) .nil)) (by rw [he]; rfl) ⟨.inr (.inr ⟨hck, hib, rfl⟩), rfl, rfl⟩ (fun _ h => by repeat first | exact h | replace h := St.tail h | replace h := St.ftail h | replace h := St.drop h)
end Go.Proofs.Ytaldphhdkmchhaa
